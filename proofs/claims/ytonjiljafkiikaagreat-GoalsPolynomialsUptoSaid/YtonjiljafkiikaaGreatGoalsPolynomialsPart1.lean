/- Part 1 of the proof of GoalsPolynomials: FwA, FwB, FwC, FwD, FwE, FwF, FwG, FwH, FwI, FwJ, FwK, FwL, FwLN, FwM, FwN, FwO. Own lemmas; no conditions. -/
import Derived.Test.YtonjiljafkiikaaGreatGoalsPolynomialsPart0
import Derived.WalkKit
import Derived.Orders
import Derived.Laws.StructEq
import Derived.Deep.RegionHeld3
set_option maxHeartbeats 1000000
set_option linter.unusedSimpArgs false
set_option linter.unusedVariables false
set_option linter.unnecessarySimpa false
set_option maxRecDepth 100000
namespace Go.FW
open Go
inductive PV where
 |undef
 |int (k:IntKind) (n:Int)
 |bool (b:Bool)
 |aa
 |sl (e:Nat) (xs:List PV)
 |agg (cs:List PV)
 |aO (vs:List PV)
 |fn (f:FuncId) (first cap:List PV)
 |pt (cs:List PV)
 |mp (β i o:Nat)
 |aq (β o n:Nat)
 |rb (β o n:Nat)
 |aE (γ o n:Nat)
 |np (γ i o:Nat)
 |aH (cs:List PV)
 |dk (cs:List PV)
 |aC (γ e ty:Nat) (xs:List PV)
 |str (s:ByteArray)
 |cm (cs:List PV) (q:PV)
 deriving Inhabited
abbrev PV.ms(β n:Nat):PV:=.aq β 0 n
def PV.cells:PV->List PV
 |.agg cs=>cs
 |x=>[x]
def PV.aQ:PV->List PV
 |.aH cs=>cs
 |x=>x.cells
def PV.eY:PV->Bool
 |.undef=>false
 |_=>true
def PV.aA:PV->Bool
 |.int .. | .bool _| .aa| .sl .. | .agg _| .pt _| .str _=>true
 |.fn _ first cap=>first.all PV.eY&&cap.all PV.eY
 |_=>false
inductive Qo(w:World)(X:Nat->Prop):PV->Value->Prop
 |int (k:IntKind) (n:Int):Qo w X (.int k n) (.int k n)
 |bool (b:Bool):Qo w X (.bool b) (.bool b)
 |str (s:ByteArray):Qo w X (.str s) (.string s)
 |aa:Qo w X .aa (.slice none 0 0)
 |gS (e:Nat) (a:Option Addr) (cap:Nat) (hc:cap<=maxLen):Qo w X (.sl e []) (.slice a 0 cap)
 | sl (e:Nat) (xs:List PV) (b off cap:Nat) (vs:Nat->Nat->Value) (hX:¬X b) (hb:b<w.heap.size) (hl:xs.length<=cap) (hc:cap<=maxLen)
   (he:∀(i:Nat)(x:PV),xs[i]? =some x->x.cells.length=e)
   (hv:∀i,i<xs.length->∀j,j<e->w.cell? ⟨b,off+i*e+j,none⟩=some (vs i j))
   (hr:∀(i:Nat)(x:PV),xs[i]? =some x->∀(j:Nat)(y:PV),x.cells[j]? =some y->Qo w X y (vs i j)):
   Qo w X (.sl e xs) (.slice (some ⟨b,off,none⟩) xs.length cap)
 | pt (cs:List PV) (b off:Nat) (vs:Nat->Value) (hX:¬X b) (hb:b<w.heap.size)
   (hv:∀j,j<cs.length->w.cell? ⟨b,off+j,none⟩=some (vs j))
   (hr:∀(j:Nat)(y:PV),cs[j]? =some y->Qo w X y (vs j)):
   Qo w X (.pt cs) (.pointer (some ⟨b,off,none⟩))
 | fn (f:FuncId) (first cap:List PV) (fv cv:Array Value) (h1:fv.size=first.length) (h2:cv.size=cap.length)
   (kV:∀(i:Nat)(x:PV),first[i]? =some x->Qo w X x (fv.getD i undef)) (iM:∀(i:Nat)(x:PV),cap[i]? =some x->Qo w X x (cv.getD i undef)):
   Qo w X (.fn f first cap) (.func (.func f) fv cv)
structure Ext(Y:Nat->Prop)(w w':World):Prop where
 os:w'.os=w.os
 tape:w'.tape=w.tape
 output:w'.output=w.output
 size:w.heap.size<=w'.heap.size
 block:∀b,b<w.heap.size->¬Y b->w'.heap[b]? =w.heap[b]?
theorem Ext.refl(Y:Nat->Prop)(w:World):Ext Y w w:=⟨rfl,rfl,rfl,Nat.le_refl _,fun _ _ _=>rfl⟩
theorem Ext.trans{Y:Nat->Prop}{a b c:World}(h:Ext Y a b)(k:Ext Y b c):Ext Y a c:=
  ⟨k.os.trans h.os,k.tape.trans h.tape,k.output.trans h.output,Nat.le_trans h.size k.size,
   fun i hi hY=>(k.block i (Nat.lt_of_lt_of_le hi h.size) hY).trans (h.block i hi hY)⟩
theorem Ext.mono{Y Y':Nat->Prop}{a b:World}(h:Ext Y a b)(hY:∀i,i<a.heap.size->Y i->Y' i):Ext Y' a b:=
 ⟨h.os,h.tape,h.output,h.size,fun i hi hn=>h.block i hi (fun hy=>hn (hY i hi hy))⟩
theorem Ext.trans'{Y Y':Nat->Prop}{a b c:World}(h:Ext Y a b)(k:Ext Y' b c)(hY:∀i,i<a.heap.size->Y' i->Y i):Ext Y a c:=
  ⟨k.os.trans h.os,k.tape.trans h.tape,k.output.trans h.output,Nat.le_trans h.size k.size,
   fun i hi hn=>(k.block i (Nat.lt_of_lt_of_le hi h.size) (fun hy=>hn (hY i hi hy))).trans (h.block i hi hn)⟩
def bW:Nat->Prop:=fun _=>False
theorem qd{w w':World}{a:Addr}(h:w'.heap[a.block]? =w.heap[a.block]?):w'.cell? a=w.cell? a:=by simp[World.cell?,h]
theorem Nn{w:World}{b o:Nat}{v:Value}(h:w.cell? ⟨b,o,none⟩=some v):b<w.heap.size:=by
 rcases Nat.lt_or_ge b w.heap.size with h'|h'
 ·exact h'
 ·simp[World.cell?,Array.getElem?_eq_none h']at h
theorem Qo.mono{w w':World}{X X':Nat->Prop}{p:PV}{v:Value}(h:Qo w X p v)
  (hb:∀b,b<w.heap.size->¬X b->w'.heap[b]? =w.heap[b]?) (hx:∀b,b<w.heap.size->¬X b->¬X' b) (hs:w.heap.size<=w'.heap.size):Qo w' X' p v:=by
 induction h with
 |int k n=>exact .int k n
 |bool b=>exact .bool b
 |str s=>exact .str s
 |aa=>exact .aa
 |gS e a cap hc=>exact .gS e a cap hc
 | sl e xs b off cap vs hX ao hl hc he hv hr ih=>
  exact .sl e xs b off cap vs (hx b ao hX) (Nat.lt_of_lt_of_le ao hs) hl hc he
   (fun i hi j hj=>by rw[qd (hb b ao hX)];exact hv i hi j hj) (fun i x aL j y hy=>ih i x aL j y hy)
 |pt cs b off vs hX ao hv hr ih=>exact .pt cs b off vs (hx b ao hX) (Nat.lt_of_lt_of_le ao hs) (fun j hj=>by rw[qd (hb b ao hX)];exact hv j hj) (fun j y hy=>ih j y hy)
 |fn f first cap fv cv h1 h2 kV iM ih1 F7=>exact .fn f first cap fv cv h1 h2 ih1 F7
theorem Qo.nJ{w:World}{X:Nat->Prop}{p:PV}{v:Value}(h:Qo w X p v):v.oneCell'=true/\v.cells= #[v]/\p.cells=[p]:=by cases h<;>exact⟨rfl,rfl,rfl⟩
def bc(w:World)(X:Nat->Prop):PV->Value->Prop
 |.agg cs,v=>∃vs:Array Value,v= .agg vs/\vs.size=cs.length/\∀i x,cs[i]? =some x->Qo w X x (vs.getD i undef)
 |p,v=>Qo w X p v
def dC(w:World)(X:Nat->Prop):PV->Value->Prop
 |.aO ps,v=>∃vs:Array Value,v= .tuple vs/\vs.size=ps.length/\∀i x,ps[i]? =some x->bc w X x (vs.getD i undef)
 |p,v=>bc w X p v
theorem bc.mono{w w':World}{X X':Nat->Prop}{p:PV}{v:Value}(h:bc w X p v)
  (hb:∀b,b<w.heap.size->¬X b->w'.heap[b]? =w.heap[b]?) (hx:∀b,b<w.heap.size->¬X b->¬X' b) (hs:w.heap.size<=w'.heap.size):bc w' X' p v:=by
 cases p with
 |agg cs=>obtain⟨vs,rfl,h1,h2⟩:=h;exact⟨vs,rfl,h1,fun i x hi=>(h2 i x hi).mono hb hx hs⟩
 |_=>exact Qo.mono h hb hx hs
theorem dC.mono{w w':World}{X X':Nat->Prop}{p:PV}{v:Value}(h:dC w X p v)
  (hb:∀b,b<w.heap.size->¬X b->w'.heap[b]? =w.heap[b]?) (hx:∀b,b<w.heap.size->¬X b->¬X' b) (hs:w.heap.size<=w'.heap.size):dC w' X' p v:=by
 cases p with
 |aO ps=>obtain⟨vs,rfl,h1,h2⟩:=h;exact⟨vs,rfl,h1,fun i x hi=>(h2 i x hi).mono hb hx hs⟩
 |agg cs=>exact bc.mono (p:=.agg cs) h hb hx hs
 |_=>exact Qo.mono h hb hx hs
theorem dC.MO{w:World}{X:Nat->Prop}{p:PV}{v:Value}(h:bc w X p v):dC w X p v:=by
 cases p with
 |aO ps=>cases h
 |_=>exact h
theorem bc.data{w:World}{X:Nat->Prop}{p:PV}{v:Value}(h:bc w X p v):p.aA=true:=by
 have hu:∀(x:PV)(u:Value),Qo w X x u->x.eY=true:=fun x u hx=>by cases hx<;>rfl
 have cx:∀(l:List PV)(vs:Array Value),(∀(i:Nat)(x:PV),l[i]? =some x->Qo w X x (vs.getD i undef))->l.all PV.eY=true:=fun l vs hl=>by rw[List.all_eq_true];intro x hx;obtain⟨i,hi⟩:=List.getElem?_of_mem hx;exact hu x _ (hl i x hi)
 cases p with
 |agg cs=>rfl
 |fn f first cap=>
  have h':Qo w X (.fn f first cap) v:=h;cases h' with
  |fn _ _ _ fv cv h1 h2 h3 h4=>simp[PV.aA,cx _ _ h3,cx _ _ h4]
 |_=>cases h<;>rfl
theorem bc.cells{w:World}{X:Nat->Prop}{p:PV}{v:Value}(h:bc w X p v):
  v.cells.size=p.cells.length/\∀j y,p.cells[j]? =some y->Qo w X y (v.cells.getD j undef):=by
 by_cases ha:∃cs,p= .agg cs
 ·obtain⟨cs,rfl⟩:=ha;obtain⟨vs,rfl,h1,h2⟩:=h;exact⟨h1,h2⟩
 ·have hc:Qo w X p v:=by
   cases p with
   |agg cs=>exact absurd ⟨cs,rfl⟩ ha
   |_=>exact h
  obtain⟨_,h2,h3⟩:=hc.nJ;rw[h2,h3];refine⟨rfl,fun j y hy=>?_⟩
  match j,hy with
  |0,hy=>simp at hy;subst hy;exact hc
  |j+1,hy=>simp at hy
theorem bc.nI{w:World}{X:Nat->Prop}{p:PV}{v:Value}(h:Qo w X p v):bc w X p v:=by
 cases p with
 |agg cs=>cases h
 |_=>exact h
theorem bc.MT{w:World}{X:Nat->Prop}{p:PV}{v:Value}(h:bc w X p v):∀u∈v.cells.toList,u.oneCell'=true:=by
 intro u hu;obtain⟨h1,h2⟩:=h.cells;obtain⟨j,hj,rfl⟩:=List.getElem_of_mem hu;have dq:j<v.cells.size:=by simpa using hj
 have hp:j<p.cells.length:=by omega
 have:=(h2 j p.cells[j] (List.getElem?_eq_getElem hp)).nJ.1;simpa[Array.getD,dq]using this
abbrev Ka0:=@List.getElem_of_mem
abbrev Ka1:=@Bool.and_eq_true
abbrev Ka2:=@Nat.zero_add
abbrev Ka3:=@List.length_map
abbrev Ka4:=@List.mem_of_mem_take
abbrev Ka5:=@Nat.mul_assoc
abbrev Ka6:=@Nat.div_lt_iff_lt_mul
abbrev Ka7:=@List.getLast?_eq_getElem?
abbrev Ka8:=@Nat.lt_of_lt_of_le
abbrev Ka9:=@Nat.pos_of_ne_zero
abbrev KaA:=@List.flatMap_cons
abbrev KaB:=@List.mem_singleton
abbrev KaC:=@Nat.mod_eq_of_lt
abbrev KaD:=@Array.getD_eq_getD_getElem?
abbrev KaE:=@List.nil_append
abbrev KaF:=@List.mem_cons
abbrev KaG:=@List.take_succ_eq_append_getElem
abbrev KaH:=@List.cons_append
abbrev KaI:=@List.contains_nil
abbrev KaJ:=@List.length_append
abbrev KaK:=@List.flatMap_nil
abbrev KaL:=@List.mem_map
abbrev KaM:=@Nat.add_zero
abbrev KaN:=@Sem.run_pure
abbrev KaO:=@Nat.mul_add
abbrev KaP:=@List.any_eq_true
abbrev KaQ:=@List.getElem?_append
abbrev KaR:=@List.getElem?_drop
abbrev KaS:=@Nat.mul_comm
abbrev KaT:=@List.mem_append
abbrev KaU:=@List.length_cons
abbrev KaV:=@List.map_congr_left
abbrev KaW:=@List.replicate_zero
abbrev KaX:=@Nat.pow_le_pow_right
abbrev KaY:=@List.length_drop
abbrev KaZ:=@Nat.le_trans
abbrev Kaa:=@Option.map_eq_some_iff
abbrev Kab:=@Option.bind_eq_some_iff
abbrev Kac:=@Option.some.inj
abbrev Kad:=@List.getElem?_eq_some_iff
abbrev Kae:=@List.getD_eq_getElem?_getD
abbrev Kaf:=@List.getElem?_eq_getElem
abbrev Kag:=@Nat.le_refl
abbrev Kah:=@List.mem_of_getElem?
abbrev Kai:=@Result.andThen_ok
abbrev Kaj:=@List.take_of_length_le
abbrev Kak:=@Sem.run_bind
abbrev Kal:=@List.drop_of_length_le
abbrev Kam:=@Nat.mul_le_mul_right
abbrev Kan:=@List.mem_flatMap
abbrev Kao:=@List.append_nil
abbrev Kap:=@List.getElem?_map
abbrev Kaq:=@List.getElem_mem
abbrev Kar:=@Option.some.injEq
abbrev Kas:=@List.drop_eq_getElem_cons
abbrev Kat:=@List.length_eq_zero_iff
abbrev Kau:=@List.getElem?_of_mem
abbrev Kav:=@List.length_take
abbrev Kaw:=@List.all_eq_true
abbrev Kax:=@List.getElem?_take_of_lt
abbrev Kay:=@List.contains_cons
abbrev Kaz:=@Nat.add_mul
abbrev Kb0:=@Nat.sub_zero
abbrev Kb1:=@List.getElem?_take
abbrev Kb2:=@List.mem_filterMap
abbrev Kb3:=@List.take_zero
abbrev Kb4:=@Nat.mul_one
abbrev Kb5:=@Nat.add_mul_mod_self_left
abbrev Kb6:=@Nat.add_mul_div_left
abbrev Kb7:=@Array.getElem?_setIfInBounds_ne
abbrev Kb8:=@List.head?_drop
abbrev Kb9:=@List.cons.injEq
abbrev KbA:=@List.mem_cons_of_mem
abbrev KbB:=@List.mem_of_mem_drop
abbrev KbC:=@Addr.add_lit
abbrev KbD:=@Nat.sub_self
abbrev KbE:=@Array.eq_empty_of_size_eq_zero
abbrev KbF:=@Option.bind_eq_bind
abbrev KbG:=@Nat.zero_le
abbrev KbH:=@List.size_toArray
abbrev KbI:=@Nat.pow_pos
abbrev KbJ:=@Nat.min_eq_left
abbrev KbK:=@Nat.mul_zero
abbrev KbL:=@Nat.add_assoc
abbrev KbM:=@List.getElem?_append_left
abbrev KbN:=@Option.map_some
abbrev KbO:=@Nat.add_comm
abbrev KbP:=@Int.natAbs_natCast
abbrev KbQ:=@List.getElem_map
abbrev KbR:=@List.eq_nil_of_length_eq_zero
abbrev KbS:=@List.mem_append_left
abbrev KbT:=@List.mapM_cons
abbrev KbU:=@Nat.mul_le_mul
abbrev KbV:=@Array.size_append
abbrev KbW:=@Int.toNat_natCast
abbrev KbX:=@Option.pure_def
abbrev KbY:=@Array.length_toList
abbrev KbZ:=@Option.bind_some
abbrev Kba:=@List.not_mem_nil
abbrev Kbb:=@Nat.div_add_mod
abbrev Kbc:=@Array.getElem?_eq_some_iff
abbrev Kbd:=@List.getElem?_append_right
abbrev Kbe:=@Option.ne_none_iff_exists'
abbrev Kbf:=@Bool.false_eq_true
abbrev Kbg:=@List.length_nil
abbrev Kbh:=@List.mem_append_right
abbrev Kbi:=@Nat.pow_succ
abbrev Kbj:=@List.take_append_drop
abbrev Kbk:=@Array.getElem?_eq_getElem
abbrev Kbl:=@Array.mapM_eq_mapM_toList
abbrev Kbm:=@Nat.mul_le_mul_left
abbrev Kbn:=@Nat.mod_lt
abbrev Kbo:=@Option.getD_some
abbrev Kbp:=@List.take_length
abbrev Kbq:=@List.drop_zero
abbrev Kbr:=@Nat.eq_of_mul_eq_mul_right
abbrev Kbs:=@List.map_cons
abbrev Kbt:=@List.replicate_succ
abbrev Kbu:=@Bool.or_eq_true
abbrev Kbv:=@List.append_assoc
abbrev Kbw:=@Nat.mul_left_comm
abbrev Kbx:=@List.headD_eq_head?_getD
abbrev Kby:=@List.map_nil
abbrev Kbz:=@List.append_cons
abbrev Kca:=@Nat.zero_mul
abbrev Kcb:=@List.mem_map_of_mem
abbrev Kcc:=@Nat.lt_succ_self
abbrev Kcd:=@Nat.div_eq_of_lt
abbrev Kce:=@Array.getElem?_eq_none
abbrev Kcf:=@List.length_eq_one_iff
abbrev Kcg:=@Nat.lt_of_le_of_lt
abbrev Kch:=@List.getLast?_cons
abbrev Kci:=@Nat.div_le_self
abbrev Kcj:=@Nat.gcd_comm
abbrev Kck:=@Int.fdiv_eq_ediv_of_nonneg
abbrev Kcl:=@List.getElem?_range
abbrev Kcm:=@ByteArray.toList_eq
abbrev Kcn:=@Nat.lt_or_ge
abbrev Kco:=@List.getElem_append_left
abbrev Kcp:=@Nat.gcd_zero_right
abbrev Kcq:=@List.mem_cons_self
abbrev Kcr:=@List.mem_filter
abbrev Kcs:=@List.any_eq_false
abbrev Kct:=@Rat.mkRat_self
abbrev Kcu:=@Nat.gcd_dvd_left
abbrev Kcv:=@Nat.min_eq_right
abbrev Kcw:=@Nat.gcd_le_right
abbrev Kcx:=@List.mapM_nil
abbrev Kcy:=@List.sum_cons
attribute [go_sem_proc ↓] reduceIte
inductive aF where
 |t (n:Nat)
 |c (p:PV)
 deriving Inhabited
inductive bN where
 |mv (d:Nat) (x:aF)
 |pick (d:Nat) (c a b:aF)
 |bin (d:Nat) (op:BinOp) (bt:Bool) (x y:aF)
 |eqs (d:Nat) (ng:Bool) (x y:aF)
 |rM (d:Nat) (ng:Bool) (x y:aF)
 |wN (d:Nat) (x:aF)
 |wM (d:Nat) (x i:aF)
 |un (d:Nat) (op:UnOp) (x:aF)
 |conv (d:Nat) (k:IntKind) (x:aF)
 |len (d:Nat) (x:aF)
 |mx (d:Nat) (x y:aF)
 |mn (d:Nat) (x y:aF)
 |idx (d e:Nat) (x i:aF)
 |lf (d n e:Nat) (x i:aF)
 |wA (d n e:Nat) (ag:Bool) (x i:aF)
 |aX (d off:Nat) (x:aF)
 |s5 (d off n:Nat) (ag:Bool) (x:aF)
 |ld (d n:Nat) (ag:Bool) (x:aF)
 |st (n:Nat) (x v:aF)
 |box (d n ty:Nat) (v:aF)
 |alloc (d n ty:Nat) (z:PV)
 |mk (d e bytes ty:Nat) (z:PV) (l c:aF)
 |bs (d e ty:Nat) (parts:List aF)
 |app (d e bytes ty:Nat) (s x:aF)
 |pk (d e:Nat) (s x:aF)
 |sl (d e:Nat) (x:aF) (lo hi mx:Option aF)
 |ext (d:Nat) (x:aF) (i:Nat)
 |cw (d:Nat) (zero:List PV) (parts:List (Nat×Nat×aF))
 |fn (d f:Nat) (first cap:List aF)
 |call (d:Option Nat) (pr:Bool) (f:aF) (args:List aF)
 |wF (d:Option Nat) (x:aF)
 |bad (d:Option Nat)
 deriving Inhabited
def bN.dst:bN->Option Nat
 |.mv d _| .pick d _ _ _| .bin d _ _ _ _| .eqs d _ _ _| .rM d _ _ _| .wN d _| .wM d _ _| .un d _ _| .conv d _ _| .len d _| .mx d _ _| .mn d _ _| .idx d _ _ _| .lf d _ _ _ _| .wA d _ _ _ _ _| .aX d _ _| .s5 d _ _ _ _
 |.ld d _ _ _| .box d _ _ _| .alloc d _ _ _| .mk d _ _ _ _ _ _| .bs d _ _ _| .app d _ _ _ _ _| .pk d _ _ _| .sl d _ _ _ _ _| .ext d _ _| .cw d _ _| .fn d _ _ _=>some d
 |.st _ _ _=>none
 |.call d _ _ _| .wF d _| .bad d=>d
structure jF where
 g:Option (Nat×Bool)
 o:bN
 deriving Inhabited
inductive RT where
 |nil
 |o (g:Option (Nat×Bool)) (o:bN) (r:RT)
 |br (a b:RT)
 |wk (r:RT)
 deriving Inhabited
inductive SC where
 |skip
 |rg (r:RT)
 |raw (id:Nat) (ops:Array Oper)
 |seq (a b:SC)
 |cond (c:aF) (a b:SC)
 |block (id:Nat) (a:SC)
 |loop (a:SC)
 |exit (id:Nat)
 |ret
 deriving Inhabited
def uy:Value->Option PV
 |.int k n=>some (.int k n)
 |.bool b=>some (.bool b)
 |.string s=>some (.str s)
 |.slice none 0 0=>some .aa
 |_=>none
def nR:Value->Option PV
 |.agg cs=>(cs.toList.mapM uy).map .agg
 |v=>uy v
def bA:Operand->Option aF
 |.tmp t=>some (.t t)
 |.const v=>(nR v).map .c
 |.func f=>some (.c (.fn f [] []))
 |.global _=>none
def dh(P:Program)(t:TypeId):Option Nat:=(P.info? t).map (·.size)
def je(P:Program)(t:TypeId):Option Bool:=(P.underlying t).map fun d=>match d with| .struct _| .array _ _=>true|_=>false
def nV(P:Program)(t:TypeId):Option TypeId:=match P.underlying t with|some (.slice e)=>some e|_=>none
def gB(P:Program)(t:TypeId):Option (Nat×Nat×PV):=(P.info? t).bind fun i=>i.zero.bind fun z=>(nR z).map fun p=>(i.size,i.bytes,p)
def kI:Option Operand->Option (Option aF)
 |none=>some none
 |some x=>(bA x).map some
def uV(P:Program)(t:TypeId)(parts:List (Nat×Operand)):Option (List (Nat×Nat×aF)):=
 match P.underlying t with
 |some (.struct fs)=>(fs.toList.mapM fun f=>(P.info? f.type).map fun i=>(f.offset,i.size)).bind fun pl=>parts.mapM fun p=>(pl[p.1]?).bind fun q=>(bA p.2).map fun y=>(q.1,q.2,y)
 |some (.array _ e)=>(dh P e).bind fun n=>parts.mapM fun p=>(bA p.2).map fun y=>(p.1*n,n,y)
 |_=>none
def zV(P:Program)(t:TypeId):Bool:=match P.underlying t with
 |some (.struct fs)=>match fs.toList with
  | [f, g] => f.name != "_" && g.name != "_" && f.offset == 0 && g.offset == 1 && (match P.underlying f.type with | some (.int _) => true | _ => false) && (match P.underlying g.type with | some (.int _) => true | _ => false) && !(P.stoodInHeld t) && !(P.eqGuardType P.depth t)
  |_=>false
 |_=>false
def wQ:BinOp->Option Bool
 |.eql=>some false
 |.neq=>some true
 |_=>none
def sP(P:Program)(t:TypeId):Bool:=match P.underlying t with|some .string=>true|_=>false
def vl(P:Program)(op:BinOp)(t:TypeId)(d:Nat)(x y:aF):bN:=
 match(if zV P t then wQ op else none)with
 |some ng=>.eqs d ng x y
 |none=>match(if sP P t then wQ op else none)with
  |some ng=>.rM d ng x y
  |none=>.bin d op (match P.underlying t with|some .bool=>true|_=>false) x y
def St : List String := ["geoprover/matrix.reduce", "geoprover/matrix.subtract", "geoprover/geoproverref09.echelon"]
def GN(P:Program)(f:aF):Bool:=match f with
 |.c (.fn g _ _)=>(P.funcs[g]?).any fun fn=>St.contains fn.name
 |_=>false
def jH(P:Program)(draw:Bool)(o:Oper):Option bN:=
 match o.op,o.dst with
 |.move x,some d| .assign x,some d=>(bA x).map (.mv d)
 |.pick c a b,some d=>(bA c).bind fun c=>(bA a).bind fun a=>(bA b).map fun b=>.pick d c a b
 |.binOp op t x y _,some d=>(bA x).bind fun x=>(bA y).map fun y=>vl P op t d x y
 |.unOp op _ x,some d=>(bA x).map (.un d op)
 |.convert s t x,some d=>match P.underlying s,P.underlying t with
  |some _,some (.int k)=>(bA x).map (.conv d k)
  |_,_=>none
 |.indexAddr t x i,some d=>(bA x).bind fun x=>(bA i).bind fun i=>match P.underlying t with
  |some (.slice e)=>(dh P e).map fun n=>.idx d n x i
  |some (.array len e)=>(dh P e).map fun n=>.lf d len n x i
  |_=>none
 |.index t x i,some d=>(bA x).bind fun x=>(bA i).bind fun i=>match P.underlying t with
  |some (.array len e)=>(dh P e).bind fun n=>(je P e).map fun ag=>.wA d len n ag x i
  |some .string=>some (.wM d x i)
  |_=>none
 |.fieldAddr t x j,some d=>(bA x).bind fun x=>match P.underlying t with
  |some (.struct fs)=>(fs[j]?).bind fun f=>(dh P f.type).bind fun n=>if n=0 then none else some (.aX d f.offset x)
  |_=>none
 |.field t x j,some d=>(bA x).bind fun x=>match P.underlying t with
  |some (.struct fs)=>(fs[j]?).bind fun f=>(dh P f.type).bind fun n=>(je P f.type).map fun ag=>.s5 d f.offset n ag x
  |_=>none
 |.load t x,some d=>(bA x).bind fun x=>(dh P t).bind fun n=>(je P t).map fun ag=>.ld d n ag x
 |.store t x v,none=>(bA x).bind fun x=>(bA v).bind fun v=>(dh P t).map fun n=>.st n x v
 |.box t v,some d=>(bA v).bind fun v=>(dh P t).map fun n=>.box d n t v
 |.alloc t,some d=>(gB P t).map fun(n,_,z)=>.alloc d n t z
 |.makeSlice t l c,some d=>(bA l).bind fun l=>(bA c).bind fun c=>(nV P t).bind fun e=>(gB P e).map fun(n,by_,z)=>.mk d n by_ e z l c
 |.buildSlice t len parts,some d=>(nV P t).bind fun e=>(gB P e).bind fun r=>
   if parts.toList.map (·.1)=List.range len/\len*r.1<=16777216/\r.2.2.cells.length=r.1 then(parts.toList.mapM fun p=>bA p.2).map fun ps=>.bs d r.1 e ps else none
 |.build t parts,some d=>(gB P t).bind fun(_,_,z)=>(uV P t parts.toList).map fun ps=>.cw d z.cells ps
 |.slice t x lo hi m,some d=>(bA x).bind fun x=>(kI lo).bind fun lo=>(kI hi).bind fun hi=>(kI m).bind fun m=>(nV P t).bind fun e=>(dh P e).map fun n=>.sl d n x lo hi m
 |.extract x i,some d=>(bA x).map fun x=>.ext d x i
 |.makeFunc (.func f) first cap,some d=>(first.toList.mapM bA).bind fun first=>(cap.toList.mapM bA).map fun cap=>.fn d f first cap
 |.nilCheck x,d=>(bA x).map fun x=>.wF d x
 |.call c,d=>match c.callee,c.args.toList,c.argTypes.toList,d with
  |.value f,args,_,d=>(bA f).bind fun f=>(args.mapM bA).map fun args=>.call d (draw&& !GN P f) f args
  |.builtin .len,[x],[t],some d=>if sP P t then(bA x).map fun x=>.wN d x else(nV P t).bind fun _=>(bA x).map fun x=>.len d x
  |.builtin .max,[x,y],_,some d=>(bA x).bind fun x=>(bA y).map fun y=>.mx d x y
  |.builtin .min,[x,y],_,some d=>(bA x).bind fun x=>(bA y).map fun y=>.mn d x y
  |.builtin .append,[s,x],[t,u],some d=>(bA s).bind fun s=>(bA x).bind fun x=>(nV P t).bind fun e=>if t=u then(gB P e).bind fun r=>if r.2.2.cells.length=r.1 then some (.app d r.1 r.2.1 e s x)else none else none
  |.builtin .copy,[s,x],[t,u],some d=>(bA s).bind fun s=>(bA x).bind fun x=>(nV P t).bind fun e=>if t=u then(dh P e).map fun n=>.pk d n s x else none
  |_,_,_,_=>none
 |_,_=>none
def ej(P:Program)(draw:Bool)(o:Oper):bN:=(jH P draw o).getD (.bad o.dst)
def gW(P:Program)(n:Nat)(draw:Bool)(ops:Array Oper)(o:Oper):Option jF:=
 if o.dst.all (· <n)then
  match o.guard with
  |none=>some ⟨none,ej P draw o⟩
  |some (j,want)=>match(ops[j]?).bind (·.dst)with
   |some s=>if s<n then some ⟨some (s,want),ej P draw o⟩else none
   |none=>none
 else none
def bN.cls:bN->Nat
 |.ld .. =>1
 |.box .. | .alloc .. | .mk .. | .bs .. | .call .. | .bad _=>2
 |.st .. | .app .. | .pk .. =>3
 |_=>0
def bN.fN:bN->Bool
 |.st .. | .app .. | .pk .. =>true
 |.call _ pr _ _=> !pr
 |_=>false
def bN.adI:bN->Bool
 |.call .. =>true
 |_=>false
def mZ(ops:Array Oper):Nat->Nat->Nat->Bool
 |0,_,_=>false
 |n+1,i,j=>match ops[j]? with
  |none=>false
  |some o=>o.after.toList.any fun e=>Region.binds .any e&&(e.on==i||mZ ops n i e.on)
def oY(P:Program)(ops:Array Oper)(i:Nat):Nat:=((ops[i]?).map fun o=>(ej P true o).cls).getD 9
def sG(P:Program)(dr:Bool)(ops:Array Oper)(i:Nat):Bool:=((ops[i]?).map fun o=>(ej P dr o).fN).getD false
def CL(P:Program)(dr:Bool)(ops:Array Oper)(aR:Array Bool)(i:Nat):Bool:=
  (Region.ready .any ops aR).contains i&&Region.free .any ops aR i&&
  (match oY P ops i with
   |0=>true
   |1=>(List.range ops.size).all fun j=> !sG P dr ops j||mZ ops ops.size i j
   |_=>false)
def ph:List RT->RT
 | []=>.nil
 | [r]=>r
 |r::rs=>.br r (ph rs)
def mf(P:Program)(N:Nat)(dr:Bool)(ops:Array Oper):Nat->Array Bool->Option RT
 |0,aR=>if Region.ready .any ops aR==[]then some .nil else none
 |n+1,aR=>
  if Region.ready .any ops aR==[]then some .nil else
  match(List.range ops.size).find? (CL P dr ops aR)with
  |some i=>((ops[i]?).bind (gW P N dr ops)).bind fun g=>(mf P N dr ops n (aR.setIfInBounds i true)).map fun r=>.o g.g g.o r
  |none=>((Region.ready .any ops aR).mapM fun i=>((ops[i]?).bind (gW P N dr ops)).bind fun g=>(mf P N dr ops n (aR.setIfInBounds i true)).map fun r=>RT.o g.g g.o r).map ph
def uJ(P:Program)(N:Nat)(dr:Bool)(ops:Array Oper):Nat->Array Bool->Option RT
 |0,aR=>if Region.ready .any ops aR==[]then some .nil else none
 | n+1,aR=>
  if Region.ready .any ops aR==[]then some .nil else
  match(List.range ops.size).find? (CL P dr ops aR)with
  |some i=>((ops[i]?).bind (gW P N dr ops)).bind fun g=>(uJ P N dr ops n (aR.setIfInBounds i true)).map fun r=>.o g.g g.o r
  |none=>match Region.ready .any ops aR with
   | [i]=>((ops[i]?).bind (gW P N dr ops)).bind fun g=>(uJ P N dr ops n (aR.setIfInBounds i true)).map fun r=>.o g.g g.o r
   |_=>none
theorem wY{P:Program}{N:Nat}{dr:Bool}{ops:Array Oper}:∀(n:Nat)(aR:Array Bool)(r:RT),uJ P N dr ops n aR=some r->mf P N dr ops n aR=some r
 |0,aR,r,h=>h
 | n +1,aR,r,h=>by
  unfold uJ at h;unfold mf;split
  ·rename_i hr;rw[if_pos hr]at h;exact h
  ·rename_i hr;rw[if_neg hr]at h;split at h
   ·rename_i i hf;simp only[Kab,Kaa]at h⊢;obtain⟨g,hg,r',dZ,rfl⟩:=h;exact⟨g,hg,r',wY n _ _ dZ,rfl⟩
   ·rename_i hf;split at h
    ·rename_i i zw;simp only[Kab,Kaa]at h;obtain⟨g,⟨o,ho,hg⟩,r',dZ,rfl⟩:=h;simp[zw,ho,hg,wY n _ _ dZ,ph]
    ·cases h
def RT.count:RT->Nat
 |.nil=>1
 |.o _ _ r=>r.count
 |.br a b=>a.count+b.count
 |.wk r=>r.count
def sQ:List jF->RT
 | []=>.nil
 |g::gs=>.o g.g g.o (sQ gs)
def Su(P:Program)(ops:Array Oper):Bool:=decide (ops.size<=100)&&ops.toList.any fun o=>(ej P false o).adI
def Sv(P:Program)(ops:Array Oper):Bool:=
 let cs:=ops.toList.map (ej P true)
 decide (100<ops.size)||4<=(cs.filter fun o=>match o with| .app .. =>true|_=>false).length||
  (3<=(cs.filter fun o=>match o with| .box .. | .alloc .. =>true|_=>false).length&&3<=(cs.filter fun o=>match o with| .st .. =>true|_=>false).length)
def uz(P:Program)(N:Nat)(ops:Array Oper)(dr:Bool)(rH:Nat):Option SC:=
 if Sv P ops then none else
 match mf P N dr ops ops.size (Array.replicate ops.size false)with
 |some r=>if r.count<=rH then some (.rg r)else none
 |none=>none
def uu(P:Program)(N:Nat)(ops:Array Oper)(draw:Bool):Option SC:=
 if draw then
  if Region.noSelect ops then
   match(if Su P ops then(uJ P N false ops ops.size (Array.replicate ops.size false)).map .rg else none)with
   |some s=>some s
   |none=>uz P N ops true 100
  else none
 else(ops.toList.mapM (gW P N false ops)).map fun l=>.rg (sQ l)
def dT(P:Program)(N:Nat):Code->Option SC
 |.skip=>some .skip
 |.region id ops draw=>match uu P N ops draw with
  |some s=>some s
  |none=>if draw then some (.raw id ops)else none
 |.seq a b=>(dT P N a).bind fun a=>(dT P N b).map fun b=>.seq a b
 |.cond c a b=>(bA c).bind fun c=>(dT P N a).bind fun a=>(dT P N b).map fun b=>.cond c a b
 |.block id a=>(dT P N a).map (.block id)
 |.loop a=>(dT P N a).map .loop
 |.exit id=>some (.exit id)
 |.ret=>some .ret
 |_=>none
inductive RV where
 |t (s:Nat)
 |cell (s n:Nat) (ag:Bool)
 deriving Inhabited
def eT(P:Program)(r:ResultVar):Option RV:=
 match r with
 |.tmp t=>some (.t t)
 |.cell a t=>(dh P t).bind fun n=>(je P t).map fun ag=>.cell a n ag
def RT.strip:RT->RT
 |.nil=>.nil
 |.o g p r=>.o g p r.strip
 |.br a b=>.br a.strip b.strip
 |.wk r=>r.strip
def SC.strip:SC->SC
 |.rg r=>.rg r.strip
 |.seq a b=>.seq a.strip b.strip
 |.cond c a b=>.cond c a.strip b.strip
 |.block id a=>.block id a.strip
 |.loop a=>.loop a.strip
 |s=>s
theorem IC:∀l:List jF,(sQ l).strip=sQ l
 | []=>rfl
 |g::gs=>by simp only[sQ,RT.strip,IC gs]
theorem I':∀l:List RT,(∀r∈l,r.strip=r)->(ph l).strip=ph l
 | [],_=>rfl
 | [r],h=>h r (by simp)
 |r::s::l,h=>by have:=I' (s::l) fun x hx=>h x (KbA _ hx);simp only[ph,RT.strip,h r (by simp),this]
theorem JP{α β:Type}{f:α->Option β}{Q:β->Prop}(hf:∀a b,f a=some b->Q b):∀(l:List α)(rs:List β),l.mapM f=some rs->∀r∈rs,Q r
 | [],rs,h=>by simp at h;subst h;simp
 |a::l,rs,h=>by
  simp only[KbT,KbF,KbX,Kab,Kar]at h;obtain⟨b,h1,bs,h2,rfl⟩:=h;intro r hr;rcases KaF.1 hr with rfl|hr
  ·exact hf _ _ h1
  ·exact JP hf l bs h2 r hr
theorem w7{P:Program}{N:Nat}{dr:Bool}{ops:Array Oper}:∀(n:Nat)(aR:Array Bool)(r:RT),mf P N dr ops n aR=some r->r.strip=r
 |0,aR,r,h=>by
  unfold mf at h;split at h
  ·cases h;rfl
  ·cases h
 | n+1,aR,r,h=>by
  unfold mf at h;split at h
  ·cases h;rfl
  ·split at h
   ·simp only[Kab,Kaa]at h;obtain⟨g,_,r',dZ,rfl⟩:=h;simp only[RT.strip,w7 n _ _ dZ]
   ·simp only[Kaa]at h;obtain⟨rs,cr,rfl⟩:=h;refine I' rs (JP (fun i b hb=>?_) _ rs cr);simp only[Kab,Kaa]at hb;obtain⟨g,_,r',dZ,rfl⟩:=hb;simp only[RT.strip,w7 n _ _ dZ]
theorem ZL{P:Program}{N:Nat}{ops:Array Oper}{draw:Bool}{s:SC}(h:uu P N ops draw=some s):s.strip=s:=by
 unfold uu at h;split at h
 ·split at h
  ·have key:∀(dr:Bool) (rH:Nat) (s:SC),uz P N ops dr rH=some s->s.strip=s:=fun dr rH s hc=>by
    unfold uz at hc;split at hc
    ·cases hc
    split at hc
    ·rename_i r hr;split at hc
     ·cases hc;simp only[SC.strip,w7 _ _ _ hr]
     ·cases hc
    ·cases hc
   split at h
   ·rename_i s' dt;cases h;split at dt
    ·simp only[Kaa]at dt;obtain⟨r,hr,rfl⟩:=dt;simp only[SC.strip,w7 _ _ _ (wY _ _ _ hr)]
    ·cases dt
   ·exact key _ _ _ h
  ·cases h
 ·simp only[Kaa]at h;obtain⟨gs,_,rfl⟩:=h;simp only[SC.strip,IC]
theorem HN{P:Program}{N:Nat}:∀(c:Code)(s:SC),dT P N c=some s->s.strip=s:=by
 intro c;induction c with
 |skip=>intro s h;simp[dT]at h;subst h;rfl
 | region id ops draw=>
  intro s h;simp only[dT]at h;split at h
  ·rename_i s' dt;cases h;exact ZL dt
  ·split at h
   ·cases h;rfl
   ·cases h
 |seq x y ig rB=>intro s h;simp only[dT,Kab,Kaa]at h;obtain⟨sx,hx,sy,hy,rfl⟩:=h;simp only[SC.strip,ig _ hx,rB _ hy]
 |cond c x y ig rB=>intro s h;simp only[dT,Kab,Kaa]at h;obtain⟨pc,kg,sx,hx,sy,hy,rfl⟩:=h;simp only[SC.strip,ig _ hx,rB _ hy]
 |block id x ig=>intro s h;simp only[dT,Kaa]at h;obtain⟨sx,hx,rfl⟩:=h;simp only[SC.strip,ig _ hx]
 |loop x ig=>intro s h;simp only[dT,Kaa]at h;obtain⟨sx,hx,rfl⟩:=h;simp only[SC.strip,ig _ hx]
 |exit id=>intro s h;simp[dT]at h;subst h;rfl
 |ret=>intro s h;simp[dT]at h;subst h;rfl
 |_=>intro s h;simp[dT]at h
structure az where
 n:Nat
 rs:List RV
 body:SC
 deriving Inhabited
def Qe(P:Program)(f:Func):Option az:=
 f.body.bind fun c=>(dT P f.ntmps c).bind fun b=>(f.results.toList.mapM (eT P)).map fun rs=>⟨f.ntmps,rs,b⟩
def az.strip(s:az):az:=⟨s.n,s.rs,s.body.strip⟩
theorem AR{P:Program}{f:Func}{s:az}(h:Qe P f=some s):Qe P f=some s.strip:=by have h0:=h;simp only[Qe,Kab,Kaa]at h;obtain⟨c,hb,sb,fY,rs,cr,rfl⟩:=h;rw[h0,az.strip,HN _ _ fY]
abbrev Zo(o:bN)(r:RT):RT:=.o none o r
abbrev Zg(g:Nat)(b:Bool)(o:bN)(r:RT):RT:=.o (some (g,b)) o r
abbrev Zm(d x:Nat)(r:RT):RT:=.o none (.mv d (.t x)) r
abbrev Zc(d:Nat)(n:Int)(r:RT):RT:=.o none (.mv d (.c (.int .i64 n))) r
abbrev Zf(d o x:Nat)(r:RT):RT:=.o none (.aX d o (.t x)) r
abbrev Zl(d n x:Nat)(r:RT):RT:=.o none (.ld d n false (.t x)) r
abbrev Zh(d n x:Nat)(r:RT):RT:=.o none (.ld d n true (.t x)) r
abbrev Zs(n x v:Nat)(r:RT):RT:=.o none (.st n (.t x) (.t v)) r
abbrev Zi(d e x i:Nat)(r:RT):RT:=.o none (.idx d e (.t x) (.t i)) r
abbrev Zb(d:Nat)(o:BinOp)(x y:Nat)(r:RT):RT:=.o none (.bin d o false (.t x) (.t y)) r
abbrev Zk(d:Nat)(o:BinOp)(x:Nat)(n:Int)(r:RT):RT:=.o none (.bin d o false (.t x) (.c (.int .i64 n))) r
abbrev Zn(d x:Nat)(r:RT):RT:=.o none (.len d (.t x)) r
abbrev Zu(d x:Nat)(r:RT):RT:=.o none (.un d .not (.t x)) r
abbrev Zq(d:Nat)(p:Bool)(f:Nat)(l:List aF)(r:RT):RT:=.o none (.call (some d) p (.c (.fn f [] [])) l) r
abbrev Zr(r:RT)(y:SC):SC:=.seq (.rg r) y
abbrev Zz(n:Int):PV:=.int .i64 n
theorem D0{p:Prop}(h:p:=by first|omega|rfl|(simp+decide only[go_sem]<;>rfl)|fail):p:=h
theorem D1{p A0:Prop}(x0:A0)(h:A0->p:=by intro x0;first|omega|rfl|(simp+decide only[go_sem,x0]<;>rfl)|fail):p:=h x0
theorem D2{p A0 A1:Prop}(x0:A0)(x1:A1)(h:A0->A1->p:=by intro x0 x1;first|omega|rfl|(simp+decide only[go_sem,x0,x1]<;>rfl)|fail):p:=h x0 x1
theorem D3{p A0 A1 A2:Prop}(x0:A0)(x1:A1)(x2:A2)(h:A0->A1->A2->p:=by intro x0 x1 x2;first|omega|rfl|(simp+decide only[go_sem,x0,x1,x2]<;>rfl)|fail):p:=h x0 x1 x2
theorem D4{p A0 A1 A2 A3:Prop}(x0:A0)(x1:A1)(x2:A2)(x3:A3)(h:A0->A1->A2->A3->p:=by intro x0 x1 x2 x3;first|omega|rfl|(simp+decide only[go_sem,x0,x1,x2,x3]<;>rfl)|fail):p:=h x0 x1 x2 x3
theorem D5{p A0 A1 A2 A3 A4:Prop}(x0:A0)(x1:A1)(x2:A2)(x3:A3)(x4:A4)(h:A0->A1->A2->A3->A4->p:=by intro x0 x1 x2 x3 x4;first|omega|rfl|(simp+decide only[go_sem,x0,x1,x2,x3,x4]<;>rfl)|fail):p:=h x0 x1 x2 x3 x4
theorem D6{p A0 A1 A2 A3 A4 A5:Prop}(x0:A0)(x1:A1)(x2:A2)(x3:A3)(x4:A4)(x5:A5)(h:A0->A1->A2->A3->A4->A5->p:=by intro x0 x1 x2 x3 x4 x5;first|omega|rfl|(simp+decide only[go_sem,x0,x1,x2,x3,x4,x5]<;>rfl)|fail):p:=h x0 x1 x2 x3 x4 x5
theorem E0{p:Prop}(h:p:=by first|omega|rfl|(simp+decide only[go_sem,eU,Kay,KaI,KaA,KaK,Kao]<;>rfl)|fail):p:=h
theorem E1{p A0:Prop}(x0:A0)(h:A0->p:=by intro x0;first|omega|rfl|(simp+decide only[go_sem,eU,Kay,KaI,KaA,KaK,Kao,x0]<;>rfl)|fail):p:=h x0
abbrev Fr:=Nat->PV
structure HB where
 e:Nat
 ty:TypeId
 xs:List PV
 fz:Bool
abbrev HP:=Nat->Option HB
def ae(f:Fr)(a:Nat)(v:PV):Fr:=fun b=>if b=a then v else f b
def Qi(h:HP)(a:Nat)(v:HB):HP:=fun b=>if b=a then some v else h b
def aG:Fr:=fun _=>.undef
def au:HP:=fun _=>none
def bm(β:Nat):Bool:=decide (1000000<=β)
def aI(β:Nat):Bool:=decide (1000000<=β)&&decide (β<2000000)
def dJ(β:Nat):Bool:=decide (1500000<=β)&&decide (β<2000000)
theorem sC{β:Nat}(h:aI β=false):dJ β=false:=by simp[aI]at h;simp[dJ];omega
theorem qm{β:Nat}(h:bm β=false):aI β=false:=by simp[bm]at h;simp[aI];omega
def PV.bg:PV->List Nat
 |.mp β _ _=>[β]
 |.aq β _ _| .rb β _ _=>[β]
 |_=>[]
def PV.refs:PV->List Nat
 |.mp β _ _=>[β]
 |.aq β _ _| .rb β _ _=>[β]
 |.fn _ first cap=>first.flatMap PV.bg++cap.flatMap PV.bg
 |_=>[]
def PV.ij:PV->Bool
 |.mp .. | .aq .. | .rb .. | .int .. | .bool _| .aa| .sl .. | .pt _| .np .. | .aE .. =>true
 |_=>false
def PV.cG:PV->List Nat
 |.aq β _ _=>[β]
 |.aE γ _ _| .np γ _ _=>[γ]
 |_=>[]
def PV.dj:PV->List Nat
 |.aE γ _ _| .np γ _ _=>[γ]
 |_=>[]
def PV.aJ:PV->List Nat
 |.aE γ _ _| .np γ _ _=>[γ]
 |.aH cs=>cs.flatMap PV.cG
 |.dk cs=>cs.flatMap PV.cG
 |.cm cs _=>cs.flatMap PV.cG
 |.aC γ _ _ xs=>γ::xs.flatMap fun x=>x.aQ.flatMap PV.cG
 |.fn _ first cap=>first.flatMap PV.dj++cap.flatMap PV.dj
 |_=>[]
def bl(β:Nat)(p:PV):PV:=if p.refs.contains β then .undef else p
def bB(β:Nat)(fr:Fr):Fr:=fun i=>bl β (fr i)
def bR(hp:HP):PV->PV
 |.mp β i o=>if aI β then .undef else match hp β with
  |some hb=>match hb.xs[i]? with
   |some x=>.pt (x.cells.drop o)
   |none=>.undef
  |none=>.undef
 |.aq β o n=>if aI β then .undef else match hp β with
  |some hb=>.sl hb.e ((hb.xs.drop o).take n)
  |none=>.undef
 |.rb _ _ _| .aE _ _ _| .np _ _ _| .aH _| .dk _| .cm _ _| .aC _ _ _ _=>.undef
 |p=>p
def Qy(hp:HP):PV->PV
 |.fn f first cap=>.fn f (first.map (bR hp)) (cap.map (bR hp))
 |p=>bR hp p
def bw(hp:HP)(l:List Nat):HP:=fun β=>if l.contains β then(hp β).map fun hb=>{ hb with fz:=true }else hp β
def ev(fr:Fr):aF->PV
 |.t n=>fr n
 |.c p=>p
def di:Bool->Nat->Nat->PV->PV
 |true,n,o,x=>.agg ((x.cells.drop o).take n)
 |false,_,o,x=>(x.cells.drop o).headD .undef
def nL(x:PV)(o:Nat)(v:PV):PV:=.agg (x.cells.take o++v.cells++x.cells.drop (o+v.cells.length))
def PV.lg:PV->Bool
 |.aq .. | .aE .. | .undef=>true
 |_=>false
def kE(cs:List PV):PV:=if cs.any PV.lg then .aH cs else .agg cs
def ep:List PV->PV
 | [c]=>c
 |cs=>kE cs
def nG(ag:Bool)(n o:Nat)(x:PV):PV:=if ag then kE ((x.aQ.drop o).take n)else(x.aQ.drop o).headD .undef
def df:PV->Option (List PV)
 |.aH cs=>if cs.all PV.eY then some cs else none
 |.aE γ o n=>some [.aE γ o n]
 |.aq β o n=>if bm β then some [.aq β o n]else none
 |.int k n=>some [.int k n]
 |.bool b=>some [.bool b]
 |.aa=>some [.aa]
 |.sl e xs=>some [.sl e xs]
 |.pt cs=>some [.pt cs]
 |.agg cs=>some cs
 |_=>none
def mm(l:List PV)(o:Nat)(cs:List PV):List PV:=l.take o++cs++l.drop (o+cs.length)
def fS(γ:Nat):PV->PV
 |.aC aS e ty xs=>if aS=γ then .undef else .aC aS e ty xs
 |p=>p
def fL(γ:Nat)(fr:Fr):Fr:=fun i=>fS γ (fr i)
def fu(β:Nat):PV->PV
 |.aq bo o n=>if bo=β then .undef else .aq bo o n
 |.aE γ o n=>if γ=β then .undef else .aE γ o n
 |p=>p
def cu(β:Nat):PV->PV
 |.aC γ e ty xs=>if γ=β then .undef else .aC γ e ty (xs.map fun x=>ep (x.aQ.map (fu β)))
 |.aH cs=>.aH (cs.map (fu β))
 |.dk cs=>.dk (cs.map (fu β))
 |.cm cs q=>.cm (cs.map (fu β)) q
 |.aE γ o n=>if γ=β then .undef else .aE γ o n
 |.np γ i o=>if γ=β then .undef else .np γ i o
 |.fn f first cap=>if(first.flatMap PV.dj++cap.flatMap PV.dj).contains β then .undef else bl β (.fn f first cap)
 |p=>bl β p
def dU(β:Nat)(fr:Fr):Fr:=fun i=>cu β (fr i)
abbrev Qg:=Fr->HP->Prop
def bG(op:BinOp)(bt:Bool)(a b:PV)(d:Nat)(fr:Fr)(hp:HP)(K:Qg):Prop:=
 match a,b with
 |.int k x,.int k' y=>
  match op with
  |.shl=>0<=y/\K (ae fr d (.int k (k.wrap (x*2^(min y.toNat k.bits))))) hp
  |.shr=>0<=y/\K (ae fr d (.int k (x.fdiv (2^(min y.toNat k.bits))))) hp
  |.add=>k=k'/\K (ae fr d (.int k (k.wrap (x+y)))) hp
  |.sub=>k=k'/\K (ae fr d (.int k (k.wrap (x-y)))) hp
  |.mul=>k=k'/\K (ae fr d (.int k (k.wrap (x*y)))) hp
  |.quo=>k=k'/\y≠0/\K (ae fr d (.int k (k.wrap (x.tdiv y)))) hp
  |.rem=>k=k'/\y≠0/\K (ae fr d (.int k (x.tmod y))) hp
  |.and=>k=k'/\K (ae fr d (.int k (k.wrap (BitVec.ofInt k.bits x&&&BitVec.ofInt k.bits y).toNat))) hp
  |.or=>k=k'/\K (ae fr d (.int k (k.wrap (BitVec.ofInt k.bits x|||BitVec.ofInt k.bits y).toNat))) hp
  |.xor=>k=k'/\K (ae fr d (.int k (k.wrap (BitVec.ofInt k.bits x^^^BitVec.ofInt k.bits y).toNat))) hp
  |.andNot=>False
  |.eql=>k=k'/\K (ae fr d (.bool (decide (x=y)))) hp
  |.neq=>k=k'/\K (ae fr d (.bool (!decide (x=y)))) hp
  |.lss=>k=k'/\K (ae fr d (.bool (decide (x<y)))) hp
  |.leq=>k=k'/\K (ae fr d (.bool (decide (x<=y)))) hp
  |.gtr=>k=k'/\K (ae fr d (.bool (decide (y<x)))) hp
  |.geq=>k=k'/\K (ae fr d (.bool (decide (y<=x)))) hp
 |.bool x,.bool y=>
  match op with
  |.eql=>bt=true/\K (ae fr d (.bool (x==y))) hp
  |.neq=>bt=true/\K (ae fr d (.bool (!(x==y)))) hp
  |_=>False
 |_,_=>False
def nn(ng:Bool)(a b:PV)(d:Nat)(fr:Fr)(hp:HP)(K:Qg):Prop:=
 match a,b with
 |.agg [.int k x,.int l y],.agg [.int k' x',.int l' y']=>k=k'/\l=l'/\K (ae fr d (.bool (ng !=(decide (x=x')&&decide (y=y'))))) hp
 |_,_=>False
def nq(ng:Bool)(a b:PV)(d:Nat)(fr:Fr)(hp:HP)(K:Qg):Prop:=
 match a,b with
 |.str x,.str y=>K (ae fr d (.bool (ng !=decide (x=y)))) hp
 |_,_=>False
def qC(a:PV)(d:Nat)(fr:Fr)(hp:HP)(K:Qg):Prop:=
 match a with
 |.str s=>K (ae fr d (.int .i64 s.size)) hp
 |_=>False
def o0(a i:PV)(d:Nat)(fr:Fr)(hp:HP)(K:Qg):Prop:=
 match a,i with
 |.str s,.int _ n=>0<=n/\n<s.size/\K (ae fr d (.int .u8 (s.get! n.toNat).toNat)) hp
 |_,_=>False
def nW(c a b:PV)(d:Nat)(fr:Fr)(hp:HP)(K:Qg):Prop:=
 match c with
 |.bool t=>(t=true->K (ae fr d a) hp)/\(t=false->K (ae fr d b) hp)
 |_=>False
def pW(op:UnOp)(a:PV)(d:Nat)(fr:Fr)(hp:HP)(K:Qg):Prop:=
 match op,a with
 |.not,.bool b=>K (ae fr d (.bool !b)) hp
 |.neg,.int k n=>K (ae fr d (.int k (k.wrap (0-n)))) hp
 |_,_=>False
def qx(k:IntKind)(a:PV)(d:Nat)(fr:Fr)(hp:HP)(K:Qg):Prop:=
 match a with
 |.int _ n=>K (ae fr d (.int k (k.wrap n))) hp
 |_=>False
def lH(a:PV)(d:Nat)(fr:Fr)(hp:HP)(K:Qg):Prop:=
 match a with
 |.aa=>K (ae fr d (.int .i64 0)) hp
 |.sl _ xs=>K (ae fr d (.int .i64 xs.length)) hp
 |.aq _ _ n=>K (ae fr d (.int .i64 n)) hp
 |.aE _ _ n=>K (ae fr d (.int .i64 n)) hp
 |_=>False
def rI(a b:PV)(d:Nat)(fr:Fr)(hp:HP)(K:Qg):Prop:=
 match a,b with
 |.int k x,.int _ y=>K (ae fr d (.int k (max x y))) hp
 |_,_=>False
def rG(a b:PV)(d:Nat)(fr:Fr)(hp:HP)(K:Qg):Prop:=
 match a,b with
 |.int k x,.int _ y=>K (ae fr d (.int k (min x y))) hp
 |_,_=>False
def aK(e:Nat)(a i:PV)(d:Nat)(fr:Fr)(hp:HP)(K:Qg):Prop:=
 match a,i with
 |.sl e' xs,.int _ n=>e=e'/\0<=n/\∃h:n.toNat<xs.length,K (ae fr d (.pt (xs[n.toNat]'h).cells)) hp
 |.aq β o m,.int _ n=>0<=n/\n.toNat<m/\(hp β).map (·.e)=some e/\K (ae fr d (.mp β (o+n.toNat) 0)) hp
 |.aE γ o m,.int _ n=>0<=n/\n.toNat<m/\(hp γ).map (·.e)=some e/\K (ae fr d (.np γ (o+n.toNat) 0)) hp
 |_,_=>False
def nd(len e:Nat)(a i:PV)(d:Nat)(fr:Fr)(hp:HP)(K:Qg):Prop:=
 match a,i with
 |.mp β j o,.int _ n=>0<=n/\n<len/\K (ae fr d (.mp β j (o+n.toNat*e))) hp
 |.pt cs,.int _ n=>0<=n/\n<len/\n.toNat*e<=cs.length/\K (ae fr d (.pt (cs.drop (n.toNat*e)))) hp
 |_,_=>False
def sR(len e:Nat)(ag:Bool)(a i:PV)(d:Nat)(fr:Fr)(hp:HP)(K:Qg):Prop:=
 match a,i with
 |.agg cs,.int _ n=>0<=n/\n<len/\n.toNat*e+e<=cs.length/\(ag=false->e=1)/\K (ae fr d (di ag e (n.toNat*e) (.agg cs))) hp
 |_,_=>False
def nr(off:Nat)(a:PV)(d:Nat)(fr:Fr)(hp:HP)(K:Qg):Prop:=
 match a with
 |.mp β i o=>K (ae fr d (.mp β i (o+off))) hp
 |.np γ i o=>K (ae fr d (.np γ i (o+off))) hp
 |.pt cs=>off<=cs.length/\K (ae fr d (.pt (cs.drop off))) hp
 |_=>False
def nf(off n:Nat)(ag:Bool)(a:PV)(d:Nat)(fr:Fr)(hp:HP)(K:Qg):Prop:=
 match a with
 |.agg cs=>off+n<=cs.length/\(ag=false->n=1)/\K (ae fr d (di ag n off (.agg cs))) hp
 |.aH cs=>off+n<=cs.length/\(ag=false->n=1)/\K (ae fr d (nG ag n off (.aH cs))) hp
 |_=>False
def bb(n:Nat)(ag:Bool)(a:PV)(d:Nat)(fr:Fr)(hp:HP)(K:Qg):Prop:=
 match a with
 |.mp β i o=>match hp β with
  |some hb=>∃h:i<hb.xs.length,o+n<=hb.e/\(ag=false->n=1)/\K (ae fr d (di ag n o (hb.xs[i]'h))) hp
  |none=>False
 |.pt cs=>n<=cs.length/\(ag=false->n=1)/\K (ae fr d (di ag n 0 (.agg cs))) hp
 |.rb β o m=>n=1/\ag=false/\K (ae fr d (.aq β o m)) hp
 |.np γ i o=>match fr γ with
  |.aC aS e _ xs=>aS=γ/\∃h:i<xs.length,o+n<=e/\(ag=false->n=1)/\K (ae fr d (nG ag n o (xs[i]'h))) hp
  |_=>False
 |_=>False
def kt (n:Nat) (a v:PV) (fr:Fr) (hp:HP) (K:Qg):Prop:=
 match a with
 |.mp β i o=>match bw hp v.refs β with
  | some hb=>hb.fz=false/\(Qy hp v).aA=true/\(Qy hp v).cells.length=n/\∃h:i<hb.xs.length,o+n<=hb.e/\
    K fr (Qi (bw hp v.refs) β { hb with xs:=hb.xs.set i (if n=hb.e then Qy hp v else nL (hb.xs[i]'h) o (Qy hp v)) })
  |none=>False
 |.np γ i o=>match fr γ with
  |.aC aS e ty xs=>aS=γ/\(∃hb,hp γ=some hb/\hb.fz=false)/\∃h:i<xs.length,o+n<=e/\match df v with
   |some cs=>cs.length=n/\K (ae (fL γ fr) γ (.aC γ e ty (xs.set i (ep (mm (xs[i]'h).aQ o cs))))) hp
   |none=>False
  |_=>False
 |_=>False
def ct(d:Nat):Nat:=4000000+d
def o6(n ty:Nat)(cs:List PV)(d:Nat)(fr:Fr)(hp:HP)(K:Qg):Prop:=
 (cs.length=n/\0<n/\cs.all PV.eY=true/\cs.all (fun x=> !(x.cG.contains (ct d)))=true)/\
  K (ae (ae (dU (ct d) fr) (ct d) (.aC (ct d) n ty [.aH cs])) d (.np (ct d) 0 0)) (Qi hp (ct d) ⟨n,ty,[],false⟩)
def dO(n ty:Nat)(v:PV)(d:Nat)(fr:Fr)(hp:HP)(K:Qg):Prop:=
 match v with
 |.aH cs=>o6 n ty cs d fr hp K
 |v=>match(match v with| .aq β o m=>if aI β then some (β,o,m)else none|_=>none)with
 |some (β,o,m)=>K (ae fr d (.rb β o m)) hp
 |none=>
 (Qy hp v).aA=true/\(Qy hp v).cells.length=n/\0<n/\K (ae (bB d fr) d (.mp d 0 0)) (Qi (bw hp v.refs) d ⟨n,ty,[Qy hp v],false⟩)
def ks(e by_ ty:Nat)(z l c:PV)(d:Nat)(fr:Fr)(hp:HP)(K:Qg):Prop:=
 match l,c with
 |.int _ L,.int _ C=>0<e/\z.cells.length=e/\0<=L/\L<=C/\by_*C<=281474976710656/\C<=9223372036854775807/\
   K (ae (bB d fr) d (.ms d L.toNat)) (Qi hp d ⟨e,ty,List.replicate L.toNat z,false⟩)
 |_,_=>False
def uK(hp:HP)(e:Nat)(ps:List PV):Prop:=∀p∈ps,(Qy hp p).aA=true/\(Qy hp p).cells.length=e
def jb:PV->Bool
 |.aq β 0 _=>decide (5000000<=β)
 |_=>false
def kJ:List PV->Bool
 | [x]=>jb x
 |_=>false
def Lc(e ty:Nat)(ps:List PV)(d:Nat)(fr:Fr)(hp:HP)(K:Qg):Prop:=
 e=1/\K (ae (ae (dU (ct d) fr) (ct d) (.aC (ct d) 1 ty ps)) d (.aE (ct d) 0 1)) (Qi hp (ct d) ⟨1,ty,[],false⟩)
def sS (e by_ ty:Nat) (s x:PV) (d:Nat) (fr:Fr) (hp:HP) (K:Qg):Prop:=
 match x with
 |.aE δ 0 1=>match fr δ with
  |.aC Gq 1 _ [y]=>Gq=δ/\jb y=true/\e=1/\
   match s with
   |.aa=>by_<=140737488355328/\K (ae (ae (dU (ct d) fr) (ct d) (.aC (ct d) 1 ty [y])) d (.aE (ct d) 0 1)) (Qi hp (ct d) ⟨1,ty,[],false⟩)
   |.aE γ 0 k=>match fr γ with
    |.aC aS 1 lj xs=>(aS=γ/\γ<5000000/\aI γ=false/\lj=ty/\k=xs.length/\xs.all jb=true/\(k+1)*by_<=140737488355328/\k+1<=9223372036854775807)/\(∃hb,hp γ=some hb/\hb.fz=false)/\
      K (ae (ae (dU γ fr) γ (.aC γ 1 ty (xs++[y]))) d (.aE γ 0 (k+1))) (Qi hp γ ⟨1,ty,[],false⟩)
    |_=>False
   |_=>False
  |_=>False
 |_=>False
def yL(e ty:Nat)(ps:List PV)(d:Nat)(fr:Fr)(hp:HP)(K:Qg):Prop:=
 0<e/\uK hp e ps/\K (ae (bB d fr) d (.ms d ps.length)) (Qi (bw hp (ps.flatMap PV.refs)) d ⟨e,ty,ps.map (Qy hp),false⟩)
def jj(e ty:Nat)(ps:List PV)(d:Nat)(fr:Fr)(hp:HP)(K:Qg):Prop:=if kJ ps=true then Lc e ty ps d fr hp K else yL e ty ps d fr hp K
def gh(hp:HP):PV->Option (Nat×List PV)
 |.aa=>some (0,[])
 |.sl e xs=>some (e,xs)
 |.aq β o n=>(hp β).map fun hb=>(hb.e,(hb.xs.drop o).take n)
 |_=>none
def fM (e by_ ty:Nat) (s x:PV) (d:Nat) (fr:Fr) (hp:HP) (K:Qg):Prop:=
 match gh hp x with
 |none=>sS e by_ ty s x d fr hp K
 | some (e',ys)=>0<e/\(e'=e∨ys=[])/\
  match s with
  |.aa=>ys.length*by_<=140737488355328/\ys.length<=9223372036854775807/\
    K (ae (bB d fr) d (.ms d ys.length)) (Qi hp d ⟨e,ty,ys,false⟩)
  |.aq β 0 n=>match hp β with
   | some hb=>(bm β=false/\hb.fz=false/\hb.e=e/\hb.ty=ty/\n<=hb.xs.length/\(n+ys.length)*by_<=140737488355328/\n+ys.length<=9223372036854775807/\
     K (ae (bB β fr) d (.ms β (n+ys.length))) (Qi hp β ⟨e,ty,hb.xs.take n++ys,false⟩))∨
    (bm β=true/\aI β=false/\(ys≠[]/\hb.fz=false/\hb.e=e/\hb.ty=ty/\n<=hb.xs.length/\(n+ys.length)*by_<=140737488355328/\n+ys.length<=9223372036854775807)/\
     K (ae (dU β fr) d (.ms β (n+ys.length))) (Qi hp β ⟨e,ty,hb.xs.take n++ys,false⟩))
   |none=>False
  |_=>False
def o7 (e:Nat) (s x:PV) (d:Nat) (fr:Fr) (hp:HP) (K:Qg):Prop:=
 match gh hp x,s with
 |some (e',ys),.aq β 0 n=>match hp β with
  | some hb=>0<e/\hb.fz=false/\hb.e=e/\(e'=e∨ys=[])/\n=hb.xs.length/\
    K (ae fr d (.int .i64 (min (ys.length:Int) n))) (Qi hp β { hb with xs:=ys.take n++hb.xs.drop ys.length })
  |none=>False
 |_,_=>False
def fl(d:Int):Option PV->Option Int
 |none=>some d
 |some (.int _ n)=>some n
 |some _=>none
def fH(e:Nat)(a:PV)(lo hi mx:Option PV)(d:Nat)(fr:Fr)(hp:HP)(K:Qg):Prop:=
 match a with
 |.aa=>match fl 0 lo,fl 0 hi,fl 0 mx with
  |some L,some H,some M=>L=0/\H=0/\M=0/\(mx.isSome->hi.isSome)/\K (ae fr d .aa) hp
  |_,_,_=>False
 |.sl e' xs=>match fl 0 lo,fl xs.length hi,fl xs.length mx with
  |some L,some H,some M=>e'=e/\0<=L/\L<=H/\H<=M/\M<=xs.length/\(mx.isSome->hi.isSome)/\K (ae fr d (.sl e ((xs.take H.toNat).drop L.toNat))) hp
  |_,_,_=>False
 |.aq β o n=>match fl 0 lo,fl n hi,mx with
  |some L,some H,none=>(hp β).map (·.e)=some e/\0<=L/\L<=H/\H<=n/\(L=0∨L<n)/\K (ae fr d (.aq β (o+L.toNat) (H.toNat-L.toNat))) hp
  |_,_,_=>False
 |_=>False
def jf(a:PV)(i:Nat)(d:Nat)(fr:Fr)(hp:HP)(K:Qg):Prop:=
 match a with
 |.aO ps=>match ps[i]? with
  |some p=>p.aA=true/\K (ae fr d p) hp
  |none=>False
 |.dk ps=>match ps[i]? with
  |some p=>K (ae fr d p) hp
  |none=>False
 |.cm cs q=>match i with
  |0=>K (ae fr d (.aH cs)) hp
  |1=>K (ae fr d q) hp
  |_=>False
 |_=>False
def fa(cells:List PV):List (Nat×List PV)->List PV
 | []=>cells
 |(o,xs)::r=>fa (cells.take o++xs++cells.drop (o+xs.length)) r
def CK(hp:HP)(len:Nat)(ps:List (Nat×Nat×PV)):Prop:=∀p∈ps,(Qy hp p.2.2).aA=true/\(Qy hp p.2.2).cells.length=p.2.1/\p.1+p.2.1<=len
def vb(zero:List PV)(ps:List (Nat×Nat×PV))(d:Nat)(fr:Fr)(hp:HP)(K:Qg):Prop:=
 CK hp zero.length ps/\K (ae fr d (.agg (fa zero (ps.map fun p=>(p.1,(Qy hp p.2.2).cells))))) (bw hp (ps.flatMap fun p=>p.2.2.refs))
def PV.iR:PV->Bool
 |.aE .. | .aH _=>true
 |.aq β _ _=>decide (2000000<=β)
 |_=>false
def oP(len:Nat)(ps:List (Nat×Nat×PV)):Prop:=∀p∈ps,∃cs,df p.2.2=some cs/\cs.length=p.2.1/\p.1+p.2.1<=len
def gZ(zero:List PV)(ps:List (Nat×Nat×PV))(d:Nat)(fr:Fr)(hp:HP)(K:Qg):Prop:=
 if ps.any (fun p=>p.2.2.iR)then oP zero.length ps/\K (ae fr d (.aH (fa zero (ps.map fun p=>(p.1,(df p.2.2).getD []))))) hp
 else vb zero ps d fr hp K
def vd(a:PV)(d:Option Nat)(fr:Fr)(hp:HP)(K:Qg):Prop:=
 match a,d with
 |.mp _ _ _,some d| .pt _,some d| .fn _ _ _,some d=>K (ae fr d a) hp
 |.mp _ _ _,none| .pt _,none| .fn _ _ _,none=>K fr hp
 |_,_=>False
structure Ctx where
 P:Program
 N:Nat
 w0:World
 X0:Nat->Prop
 y7:∀b,X0 b->b<w0.heap.size
 hN:N<=1000000
 fx:Nat->Option Nat
 kP:∀β b,fx β=some b->b<w0.heap.size/\(dJ β=false->¬X0 b)
 Z0:Nat->Prop
 y9:∀b,Z0 b->b<w0.heap.size/\¬X0 b/\∀β,fx β≠some b
@[reducible] def Ctx.plain (P : Program) (N : Nat) (w : World) (X : Nat -> Prop) (hX : ∀ b, X b -> b < w.heap.size) (hN : N <= 1000000) : Ctx :=
 ⟨P, N, w, X, hX, hN, fun _ => none, (fun _ _ h => nomatch h), bW, fun _ h => h.elim⟩
def Ctx.Y0(C:Ctx):Nat->Prop:=fun b=>(∃β,dJ β=false/\C.fx β=some b)∨C.Z0 b
theorem Ctx.hY0(C:Ctx):∀b,C.Y0 b->b<C.w0.heap.size/\¬C.X0 b
 |b,.inl ⟨β,hr,h⟩=>⟨(C.kP β b h).1,(C.kP β b h).2 hr⟩
 |b,.inr h=>⟨(C.y9 b h).1,(C.y9 b h).2.1⟩
theorem Ctx.Gg{P:Program}{N:Nat}{w w':World}{X:Nat->Prop}{hX:∀b,X b->b<w.heap.size}{hN:N<=1000000}(h:Ext (Ctx.plain P N w X hX hN).Y0 w w'):Ext bW w w':=
 h.mono fun b _ hb=>by
  rcases hb with⟨β,_,hb⟩|hb
  ·cases hb
  ·exact hb
def Ctx.cls(C:Ctx)(β b:Nat):Prop:=if aI β=true then C.fx β=some b else C.w0.heap.size<=b∨C.Z0 b
theorem Ctx.yO{C:Ctx}{β b:Nat}(h:C.cls β b)(hr:dJ β=false):C.w0.heap.size<=b∨C.Y0 b:=by
 unfold Ctx.cls at h;split at h
 ·exact .inr (.inl ⟨β,hr,h⟩)
 ·exact h.imp id .inr
theorem Ctx.pj{C:Ctx}{β b:Nat}(h:C.cls β b)(hB:aI β=false):C.w0.heap.size<=b∨C.Z0 b:=by
 unfold Ctx.cls at h
 rwa[if_neg (by simp[hB])]at h
theorem Ctx.Lh{C:Ctx}{β b:Nat}(h:C.w0.heap.size<=b∨C.Z0 b)(hB:aI β=false):C.cls β b:=by
 unfold Ctx.cls
 rwa[if_neg (by simp[hB])]
theorem Ctx.Nc{C:Ctx}{b:Nat}(h:C.w0.heap.size<=b∨C.Z0 b):C.w0.heap.size<=b∨C.Y0 b:=h.imp id .inr
theorem Ctx.Gs{C:Ctx}{β b:Nat}(h:C.w0.heap.size<=b∨C.Z0 b):C.fx β≠some b:=fun e=>by
 rcases h with h|h
 ·have:=(C.kP β b e).1;omega
 ·exact(C.y9 b h).2.2 β e
theorem Ctx.yN{C:Ctx}{β b:Nat}(h:C.cls β b)(hr:dJ β=false):¬C.X0 b:=fun hx=>by
 rcases Ctx.yO h hr with h|h
 ·have:=C.y7 b hx;omega
 ·exact(C.hY0 b h).2 hx
def aB(C:Ctx)(ρ:Nat->Option Nat)(hp:HP):Nat->Prop:=fun b=>C.X0 b∨∃β hb,hp β=some hb/\hb.fz=false/\ρ β=some b
def cy(w:World)(b e cap:Nat):Prop:=∃cur ty,w.heap[b]? =some (.cells cur ty (0,0))/\cur.size=cap*e
def sT(w:World)(X:Nat->Prop)(b:Nat)(hb:HB):Prop:=
 ∃(cur:Array Value)(cap:Nat),w.heap[b]? =some (.cells cur hb.ty (0,0))/\cur.size=cap*hb.e/\hb.xs.length<=cap/\cap<=maxLen/\
  ∀(i:Nat)(x:PV),hb.xs[i]? =some x->∀(j:Nat)(y:PV),x.cells[j]? =some y->Qo w X y (cur.getD (i*hb.e+j) undef)
structure n6(C:Ctx)(ρ:Nat->Option Nat)(hp:HP)(w:World)(β:Nat)(hb:HB):Prop where
 gF:0<hb.e
 len:∀(i:Nat)(x:PV),hb.xs[i]? =some x->x.cells.length=hb.e/\x.aA=true
 ca:match ρ β with
  |none=>hb.xs=[]
  |some b=>C.cls β b/\b<w.heap.size/\sT w (aB C ρ hp) b hb
 fix:aI β=true->ρ β=C.fx β
 ro:dJ β=true->hb.fz=true
def dw(ρ:Nat->Option Nat)(hp:HP)(w:World)(β o n:Nat)(v:Value):Prop:=
 ∃ hb,hp β=some hb/\o+n<=hb.xs.length/\((ρ β=none/\v= .slice none 0 0/\n=0/\o=0)∨
   ∃b cap,ρ β=some b/\v= .slice (some ⟨b,o*hb.e,none⟩) n cap/\cy w b hb.e (o+cap)/\o+cap<=maxLen)
def kK(ρ:Nat->Option Nat)(hp:HP)(w:World)(γ o n:Nat)(v:Value):Prop:=
 bm γ=true/\∃hb b cap,hp γ=some hb/\ρ γ=some b/\v= .slice (some ⟨b,o*hb.e,none⟩) n cap/\cy w b hb.e (o+cap)/\o+cap<=maxLen/\n<=cap
def b8(C:Ctx)(ρ:Nat->Option Nat)(hp:HP)(w:World):PV->Value->Prop
 |.undef,_=>True
 |.aq β o n,v=>bm β=true/\dw ρ hp w β o n v
 |.aE γ o n,v=>kK ρ hp w γ o n v
 |p,v=>Qo w (aB C ρ hp) p v
def cg(C:Ctx)(ρ:Nat->Option Nat)(hp:HP)(w:World):PV->Value->Prop
 |.mp β i o,v=>∃b hb,ρ β=some b/\hp β=some hb/\v= .pointer (some ⟨b,i*hb.e+o,none⟩)
 |.aq β o n,v=>dw ρ hp w β o n v
 |.rb β o n,v=>∃b u,v= .pointer (some ⟨b,0,none⟩)/\b<w.heap.size/\¬aB C ρ hp b/\w.cell? ⟨b,0,none⟩=some u/\dw ρ hp w β o n u
 |.np γ i o,v=>bm γ=true/\∃b hb,ρ γ=some b/\hp γ=some hb/\v= .pointer (some ⟨b,i*hb.e+o,none⟩)
 |.aE γ o n,v=>kK ρ hp w γ o n v
 |p,v=>Qo w (aB C ρ hp) p v
def Qj(C:Ctx)(ρ:Nat->Option Nat)(hp:HP)(w:World):PV->Value->Prop
 |.undef,_=>True
 |.mp β i o,v=>cg C ρ hp w (.mp β i o) v
 |.aq β o n,v=>cg C ρ hp w (.aq β o n) v
 |.rb β o n,v=>cg C ρ hp w (.rb β o n) v
 |.np γ i o,v=>cg C ρ hp w (.np γ i o) v
 |.aE γ o n,v=>cg C ρ hp w (.aE γ o n) v
 |.aH cs,v=>∃vs:Array Value,v= .agg vs/\vs.size=cs.length/\∀(i:Nat)(x:PV),cs[i]? =some x->b8 C ρ hp w x (vs.getD i undef)
 |.dk cs,v=>∃vs:Array Value,v= .tuple vs/\vs.size=cs.length/\∀(i:Nat)(x:PV),cs[i]? =some x->b8 C ρ hp w x (vs.getD i undef)
 |.cm cs q,v=>∃(vs:Array Value)(u:Value),v= .tuple #[.agg vs,u]/\vs.size=cs.length/\(∀(i:Nat)(x:PV),cs[i]? =some x->b8 C ρ hp w x (vs.getD i undef))/\bc w (aB C ρ hp) q u
 |.aC γ e ty xs,_=>bm γ=true/\0<e/\∃(b:Nat) (hb:HB) (cur:Array Value) (cap:Nat),ρ γ=some b/\hp γ=some hb/\hb.xs=[]/\hb.e=e/\hb.ty=ty/\w.heap[b]? =some (.cells cur ty (0,0))/\cur.size=cap*e/\xs.length<=cap/\cap<=maxLen/\
   (∀(i:Nat)(x:PV),xs[i]? =some x->x.aQ.length=e)/\∀(i:Nat)(x:PV),xs[i]? =some x->∀(j:Nat)(y:PV),x.aQ[j]? =some y->b8 C ρ hp w y (cur.getD (i*e+j) undef)
 |.fn f first cap,v=>∃fv cv:Array Value,v= .func (.func f) fv cv/\fv.size=first.length/\cv.size=cap.length/\
   (∀(i:Nat)(x:PV),first[i]? =some x->cg C ρ hp w x (fv.getD i undef))/\(∀(i:Nat)(x:PV),cap[i]? =some x->cg C ρ hp w x (cv.getD i undef))
 |p,v=>dC w (aB C ρ hp) p v
structure Qv(C:Ctx)(ρ:Nat->Option Nat)(fr:Fr)(hp:HP)(tmps:Array Value)(w:World):Prop where
 sz:tmps.size=C.N
 ext:Ext C.Y0 C.w0 w
 dK:∀β b,C.fx β=some b->∀e cap,cy C.w0 b e cap->cy w b e cap
 own:∀β hb,hp β=some hb->n6 C ρ hp w β hb
 inj:∀β γ b,hp β≠none->hp γ≠none->ρ β=some b->ρ γ=some b->β=γ
 cd:∀i,Qj C ρ hp w (fr i) (tmps.getD i undef)
def cT(C:Ctx)(fr:Fr)(hp:HP)(tmps:Array Value)(w:World):Prop:=∃ρ,Qv C ρ fr hp tmps w
def o8(tmps:Array Value)(d:Option Nat)(v:Value):Array Value:=match d with|some d=>tmps.setIfInBounds d v|none=>tmps
def Wk(fr:Fr)(hp:HP)(aw:Fr)(hp':HP):Prop:=∀(C:Ctx)(tmps:Array Value)(w:World),cT C fr hp tmps w->cT C aw hp' tmps w
def eD(C:Ctx)(pr:Bool)(f:PV)(args:List PV)(d:Option Nat)(fr:Fr)(hp:HP)(K:Qg):Prop:=
 match f with
 |.fn g first cap => (C.P.funcs[g]?).any (fun fn => fn.body.isSome && fn.name != "runtime.NumGoroutine") = true /\
  ∀ρ tmps w (fv cv av:Array Value),(∀x,d=some x->x<C.N)->Qv C ρ fr hp tmps w->
   fv.size=first.length->cv.size=cap.length->av.size=args.length->
   (∀(i:Nat)(x:PV),first[i]? =some x->cg C ρ hp w x (fv.getD i undef))->(∀(i:Nat)(x:PV),cap[i]? =some x->cg C ρ hp w x (cv.getD i undef))->
   (∀(i:Nat)(x:PV),args[i]? =some x->Qj C ρ hp w x (av.getD i undef))->
   Calls C.P g (fv++av++cv) w fun e w'=>∃v aw hp',e= .returned v/\cT C aw hp' (o8 tmps d v) w'/\(pr=true->Ext bW w w')/\K aw hp'
 |_=>False
def aV(C:Ctx)(o:bN)(fr:Fr)(hp:HP)(K:Qg):Prop:=
 match o with
 |.mv d x=>K (ae fr d (ev fr x)) hp
 |.pick d c a b=>nW (ev fr c) (ev fr a) (ev fr b) d fr hp K
 |.bin d op bt x y=>bG op bt (ev fr x) (ev fr y) d fr hp K
 |.eqs d ng x y=>nn ng (ev fr x) (ev fr y) d fr hp K
 |.rM d ng x y=>nq ng (ev fr x) (ev fr y) d fr hp K
 |.wN d x=>qC (ev fr x) d fr hp K
 |.wM d x i=>o0 (ev fr x) (ev fr i) d fr hp K
 |.un d op x=>pW op (ev fr x) d fr hp K
 |.conv d k x=>qx k (ev fr x) d fr hp K
 |.len d x=>lH (ev fr x) d fr hp K
 |.mx d x y=>rI (ev fr x) (ev fr y) d fr hp K
 |.mn d x y=>rG (ev fr x) (ev fr y) d fr hp K
 |.idx d e x i=>aK e (ev fr x) (ev fr i) d fr hp K
 |.lf d n e x i=>nd n e (ev fr x) (ev fr i) d fr hp K
 |.wA d n e ag x i=>sR n e ag (ev fr x) (ev fr i) d fr hp K
 |.aX d off x=>nr off (ev fr x) d fr hp K
 |.s5 d off n ag x=>nf off n ag (ev fr x) d fr hp K
 |.ld d n ag x=>bb n ag (ev fr x) d fr hp K
 |.st n x v=>kt n (ev fr x) (ev fr v) fr hp K
 |.box d n ty v=>dO n ty (ev fr v) d fr hp K
 |.alloc d n ty z=>dO n ty z d fr hp K
 |.mk d e by_ ty z l c=>ks e by_ ty z (ev fr l) (ev fr c) d fr hp K
 |.bs d e ty ps=>jj e ty (ps.map (ev fr)) d fr hp K
 |.app d e by_ ty s x=>fM e by_ ty (ev fr s) (ev fr x) d fr hp K
 |.pk d e s x=>o7 e (ev fr s) (ev fr x) d fr hp K
 |.sl d e x lo hi mx=>fH e (ev fr x) (lo.map (ev fr)) (hi.map (ev fr)) (mx.map (ev fr)) d fr hp K
 |.ext d x i=>jf (ev fr x) i d fr hp K
 |.cw d zero ps=>gZ zero (ps.map fun p=>(p.1,p.2.1,ev fr p.2.2)) d fr hp K
 |.fn d f first cap=>(first.map (ev fr)++cap.map (ev fr)).all PV.ij=true/\K (ae fr d (.fn f (first.map (ev fr)) (cap.map (ev fr)))) hp
 |.call d pr f args=>eD C pr (ev fr f) (args.map (ev fr)) d fr hp K
 |.wF d x=>vd (ev fr x) d fr hp K
 |.bad _=>False
def gi(o:bN)(fr:Fr)(hp:HP)(K:Qg):Prop:=
 match o.dst with
 |some d=>K (ae fr d (.aO [])) hp
 |none=>K fr hp
def fq(C:Ctx)(g:Option (Nat×Bool))(o:bN)(fr:Fr)(hp:HP)(K:Qg):Prop:=
 match g with
 |none=>aV C o fr hp K
 |some (s,want)=>match fr s with
  |.bool t=>(t=want->aV C o (ae fr s (.bool want)) hp K)/\(t=(!want)->gi o (ae fr s (.bool !want)) hp K)
  |.aO []=>gi o fr hp K
  |_=>False
inductive It where
 |c (s:SC)
 |o (r:RT)
 |eb (id:Nat)
 |el (J:Qg)
def RT.sz:RT->Nat
 |.nil=>1
 |.o _ _ r=>r.sz+1
 |.br a b=>a.sz+b.sz+1
 |.wk r=>r.sz+1
def SC.sz:SC->Nat
 |.rg r=>r.sz+1
 |.seq a b=>a.sz+b.sz+1
 |.cond _ a b=>a.sz+b.sz+1
 |.block _ a=>a.sz+2
 |.loop a=>a.sz+2
 |_=>1
def It.sz:It->Nat
 |.c s=>s.sz
 |.o r=>r.sz
 |_=>1
def bx:List It->Nat
 | []=>0
 |i::is=>i.sz+bx is
def bJ(id:Nat):List It->Option (List It)
 | []=>none
 |.eb i::sk=>if i=id then some sk else bJ id sk
 |_::sk=>bJ id sk
theorem uc(id:Nat):∀(sk dm:List It),FW.bJ id sk=some dm->bx dm<=bx sk
 | [],_,h=>by simp[FW.bJ]at h
 |.c s::sk,dm,h=>by have:=uc id sk dm (by simpa[FW.bJ]using h);simp[bx];omega
 |.o s::sk,dm,h=>by have:=uc id sk dm (by simpa[FW.bJ]using h);simp[bx];omega
 |.el s::sk,dm,h=>by have:=uc id sk dm (by simpa[FW.bJ]using h);simp[bx];omega
 |.eb i::sk,dm,h=>by
  simp only[FW.bJ]at h;split at h
  ·cases h;simp[bx]
  ·have:=uc id sk dm h;simp[bx];omega
theorem RT.tI(r:RT):0<r.sz:=by cases r<;>simp[RT.sz]
theorem SC.tI(s:SC):0<s.sz:=by cases s<;>simp[SC.sz]
def vc(C:Ctx)(R:Qg)(sk:List It)(fr:Fr)(hp:HP):Prop:=
 match sk with
 | []=>R fr hp
 |.el J::_=>J fr hp
 |.eb _::sk=>vc C R sk fr hp
 |.o .nil::sk=>vc C R sk fr hp
 |.o (.o g o r)::sk=>fq C g o fr hp (fun fr hp=>vc C R (.o r::sk) fr hp)
 |.o (.br a b)::sk=>vc C R (.o a::sk) fr hp/\vc C R (.o b::sk) fr hp
 |.o (.wk r)::sk=>∃aG au,Wk fr hp aG au/\vc C R (.o r::sk) aG au
 |.c .skip::sk=>vc C R sk fr hp
 |.c (.rg r)::sk=>vc C R (.o r::sk) fr hp
 |.c (.raw id ops)::sk=>∀tmps w Q,cT C fr hp tmps w->(∀aw hp' pV w',cT C aw hp' pV w'->vc C R sk aw hp'->Q .normal { tmps:=pV,defers:=[] } w')->(Code.region id ops true).wp C.P Q { tmps:=tmps,defers:=[] } w
 |.c (.seq a b)::sk=>vc C R (.c a:: .c b::sk) fr hp
 |.c (.cond c a b)::sk=>match ev fr c with
  |.bool t=>(t=true->vc C R (.c a::sk) fr hp)/\(t=false->vc C R (.c b::sk) fr hp)
  |_=>False
 |.c (.block id a)::sk=>vc C R (.c a:: .eb id::sk) fr hp
 |.c (.loop a)::sk=>∃(I:Qg)(μ:Fr->HP->Nat),(∃aG au,Wk fr hp aG au/\I aG au)/\∀fr hp,I fr hp->vc C R (.c a:: .el (fun aw hp'=>∃aG au,Wk aw hp' aG au/\I aG au/\μ aG au<μ fr hp)::sk) fr hp
 |.c (.exit id)::sk=>match h:FW.bJ id sk with
  |some dm=>vc C R dm fr hp
  |none=>False
 |.c .ret::_=>R fr hp
termination_by bx sk
decreasing_by
 all_goals simp only[bx,It.sz,SC.sz,RT.sz]
 all_goals first|omega|(have:=uc _ _ _ h;omega)|skip
variable {C : Ctx} {ρ : Nat -> Option Nat} {fr : Fr} {hp : HP} {tmps : Array Value} {w : World}
theorem dw.move{ρ':Nat->Option Nat}{hp':HP}{w':World}{β o n:Nat}{v:Value}(h:dw ρ hp w β o n v)
  (hr:ρ' β=ρ β/\∀hb,hp β=some hb->∃ao,hp' β=some ao/\ao.e=hb.e/\hb.xs.length<=ao.xs.length/\∀b cap,ρ β=some b->cy w b hb.e cap->cy w' b hb.e cap):dw ρ' hp' w' β o n v:=by
 obtain⟨hb,h2,h3,h4⟩:=h;obtain⟨e1,e2⟩:=hr;obtain⟨ao,h5,h6,h7,h8⟩:=e2 hb h2;refine⟨ao,h5,KaZ h3 h7,?_⟩;rcases h4 with⟨g1,g2,g3⟩|⟨b,cap,g1,g2,g3,g4⟩
 ·exact .inl ⟨by rw[e1];exact g1,g2,g3⟩
 ·exact .inr ⟨b,cap,by rw[e1];exact g1,by rw[h6];exact g2,by rw[h6];exact h8 b (o+cap) g1 g3,g4⟩
structure jg(w w':World)(X X':Nat->Prop):Prop where
 ca:∀b,b<w.heap.size->¬X b->w'.heap[b]? =w.heap[b]?
 out:∀b,b<w.heap.size->¬X b->¬X' b
 size:w.heap.size<=w'.heap.size
theorem jg.rc{w w':World}{X X':Nat->Prop}(h:jg w w' X X'):∀q u,Qo w X q u->Qo w' X' q u:=fun _ _ hq=>hq.mono h.ca h.out h.size
structure ll(ρ ρ':Nat->Option Nat)(hp hp':HP)(w w':World)(β:Nat):Prop where
 r:ρ' β=ρ β
 h:∀hb,hp β=some hb->∃ao,hp' β=some ao/\ao.e=hb.e/\hb.xs.length<=ao.xs.length/\(∀b cap,ρ β=some b->cy w b hb.e cap->cy w' b hb.e cap)/\(hb.xs=[]->ao.xs=[]/\ao.ty=hb.ty/\∀b,ρ β=some b->w'.heap[b]? =w.heap[b]?)
theorem ll.o{ρ':Nat->Option Nat}{hp':HP}{w':World}{β:Nat}(h:ll ρ ρ' hp hp' w w' β):ρ' β=ρ β/\∀hb,hp β=some hb->∃ao,hp' β=some ao/\ao.e=hb.e/\hb.xs.length<=ao.xs.length/\∀b cap,ρ β=some b->cy w b hb.e cap->cy w' b hb.e cap:=
 ⟨h.r,fun hb aj=>let⟨ao,a,b,c,d,_⟩:=h.h hb aj;⟨ao,a,b,c,d⟩⟩
structure qD(ρ ρ':Nat->Option Nat)(hp hp':HP)(w w':World)(β:Nat):Prop where
 r:ρ' β=ρ β
 h:∀hb,hp β=some hb->∃ao,hp' β=some ao/\ao.e=hb.e/\hb.xs.length<=ao.xs.length/\∀b cap,ρ β=some b->cy w b hb.e cap->cy w' b hb.e cap
theorem ll.tJ{ρ':Nat->Option Nat}{hp':HP}{w':World}{β:Nat}(h:ll ρ ρ' hp hp' w w' β):qD ρ ρ' hp hp' w w' β:=⟨h.r,h.o.2⟩
theorem kK.move{ρ':Nat->Option Nat}{hp':HP}{w':World}{γ o n:Nat}{v:Value}(h:kK ρ hp w γ o n v)(hr:qD ρ ρ' hp hp' w w' γ):kK ρ' hp' w' γ o n v:=by obtain⟨h0,hb,b,cap,h1,h2,h3,h4,h5,h6⟩:=h;obtain⟨ao,a1,a2,_,a4⟩:=hr.h hb h1;exact⟨h0,ao,b,cap,a1,by rw[hr.r];exact h2,by rw[a2];exact h3,by rw[a2];exact a4 b _ h2 h4,h5,h6⟩
theorem b8.move{ρ':Nat->Option Nat}{hp':HP}{w':World}{p:PV}{v:Value}(h:b8 C ρ hp w p v)(hc:jg w w' (aB C ρ hp) (aB C ρ' hp'))(hs:∀β∈p.cG,qD ρ ρ' hp hp' w w' β):b8 C ρ' hp' w' p v:=by
 cases p with
 |undef=>trivial
 |aq β o n=>exact⟨h.1,dw.move h.2 ⟨(hs β (by simp[PV.cG])).r,(hs β (by simp[PV.cG])).h⟩⟩
 |aE γ o n=>exact kK.move h (hs γ (by simp[PV.cG]))
 |_=>exact hc.rc _ _ h
theorem cg.move{ρ':Nat->Option Nat}{hp':HP}{w':World}{p:PV}{v:Value}(h:cg C ρ hp w p v)
  (hc:jg w w' (aB C ρ hp) (aB C ρ' hp'))
  (hr:∀β∈p.bg,ρ' β=ρ β/\∀hb,hp β=some hb->∃ao,hp' β=some ao/\ao.e=hb.e/\hb.xs.length<=ao.xs.length/\∀b cap,ρ β=some b->cy w b hb.e cap->cy w' b hb.e cap)
  (hs:∀β∈p.dj,qD ρ ρ' hp hp' w w' β):
  cg C ρ' hp' w' p v:=by
 cases p with
 |mp β i o=>obtain⟨b,hb,h1,h2,h3⟩:=h;obtain⟨e1,e2⟩:=hr β (by simp[PV.bg]);obtain⟨ao,h4,h5,_,_⟩:=e2 hb h2;exact⟨b,ao,by rw[e1];exact h1,h4,by rw[h5];exact h3⟩
 |aq β o n=>exact dw.move h (hr β (by simp[PV.bg]))
 |rb β o n=>obtain⟨b,u,h1,h2,h3,h4,h5⟩:=h;exact⟨b,u,h1,Ka8 h2 hc.size,hc.out b h2 h3,(qd (hc.ca b h2 h3)).trans h4,dw.move h5 (hr β (by simp[PV.bg]))⟩
 |np γ i o=>obtain⟨h0,b,hb,h1,h2,h3⟩:=h;have hq:=hs γ (by simp[PV.dj]);obtain⟨ao,a1,a2,_⟩:=hq.h hb h2;exact⟨h0,b,ao,by rw[hq.r];exact h1,a1,by rw[a2];exact h3⟩
 |aE γ o n=>exact kK.move h (hs γ (by simp[PV.dj]))
 |_=>exact hc.rc _ _ h
theorem AS{f:FuncId}{first cap:List PV}{i:Nat}{x:PV}(h:first[i]? =some x):∀β∈x.bg,β∈(PV.fn f first cap).refs:=by intro β aj;simp only[PV.refs,KaT,Kan];exact .inl ⟨x,Kah h,aj⟩
theorem AV{f:FuncId}{first cap:List PV}{i:Nat}{x:PV}(h:cap[i]? =some x):∀β∈x.bg,β∈(PV.fn f first cap).refs:=by intro β aj;simp only[PV.refs,KaT,Kan];exact .inr ⟨x,Kah h,aj⟩
theorem dC.move{w':World}{X X':Nat->Prop}{p:PV}{v:Value}(h:dC w X p v)(hc:∀q u,Qo w X q u->Qo w' X' q u):dC w' X' p v:=by
 have h1:∀p v,bc w X p v->bc w' X' p v:=by
  intro p v h;cases p with
  |agg cs=>obtain⟨vs,rfl,h1,h2⟩:=h;exact⟨vs,rfl,h1,fun i x hi=>hc _ _ (h2 i x hi)⟩
  |_=>exact hc _ _ h
 cases p with
 |aO ps=>obtain⟨vs,rfl,g1,g2⟩:=h;exact⟨vs,rfl,g1,fun i x hi=>h1 _ _ (g2 i x hi)⟩
 |agg cs=>exact h1 (.agg cs) v h
 |_=>exact hc _ _ h
theorem Qj.move{ρ':Nat->Option Nat}{hp':HP}{w':World}{p:PV}{v:Value}(h:Qj C ρ hp w p v)
  (hc:jg w w' (aB C ρ hp) (aB C ρ' hp'))
  (hr:∀β∈p.refs,ρ' β=ρ β/\∀hb,hp β=some hb->∃ao,hp' β=some ao/\ao.e=hb.e/\hb.xs.length<=ao.xs.length/\∀b cap,ρ β=some b->cy w b hb.e cap->cy w' b hb.e cap)
  (hs:∀β∈p.aJ,qD ρ ρ' hp hp' w w' β) (hn:∀γ e ty xs,p= .aC γ e ty xs->ll ρ ρ' hp hp' w w' γ):
  Qj C ρ' hp' w' p v:=by
 cases p with
 |undef=>trivial
 |mp β i o=>exact cg.move (p:=.mp β i o) h hc (fun bo jC=>hr bo jC) (fun β aj=>by cases aj)
 |aq β o n=>exact cg.move (p:=.aq β o n) h hc (fun bo jC=>hr bo jC) (fun β aj=>by cases aj)
 |rb β o n=>exact cg.move (p:=.rb β o n) h hc (fun bo jC=>hr bo jC) (fun β aj=>by cases aj)
 |np γ i o=>exact cg.move (p:=.np γ i o) h hc (fun β aj=>by cases aj) (fun bo jC=>hs bo jC)
 |aE γ o n=>exact cg.move (p:=.aE γ o n) h hc (fun β aj=>by cases aj) (fun bo jC=>hs bo jC)
 |aH cs=>obtain⟨vs,rfl,h1,h2⟩:=h;exact⟨vs,rfl,h1,fun i x hi=>(h2 i x hi).move hc (fun β aj=>hs β (Kan.2 ⟨x,Kah hi,aj⟩))⟩
 |dk cs=>obtain⟨vs,rfl,h1,h2⟩:=h;exact⟨vs,rfl,h1,fun i x hi=>(h2 i x hi).move hc (fun β aj=>hs β (Kan.2 ⟨x,Kah hi,aj⟩))⟩
 |cm cs q=>obtain⟨vs,u,rfl,h1,h2,h3⟩:=h;exact⟨vs,u,rfl,h1,fun i x hi=>(h2 i x hi).move hc (fun β aj=>hs β (Kan.2 ⟨x,Kah hi,aj⟩)),h3.mono hc.ca hc.out hc.size⟩
 |aC γ e ty xs=>obtain⟨h0,he,b,hb,cur,cap,h1,h2,h3,h4,h5,h6,h7,h8,h9,bC,cD⟩:=h;have hq:=hn γ e ty xs rfl;obtain⟨ao,a1,a2,_,_,a5⟩:=hq.h hb h2;obtain⟨a5,a6,a7⟩:=a5 h3;refine⟨h0,he,b,ao,cur,cap,by rw[hq.r];exact h1,a1,a5,by rw[a2];exact h4,by rw[a6];exact h5,by rw[a7 b h1];exact h6,h7,h8,h9,bC,fun i x hi j y hy=>(cD i x hi j y hy).move hc (fun β aj=>hs β ?_)⟩;refine KbA _ (Kan.2 ⟨x,Kah hi,Kan.2 ⟨y,Kah hy,aj⟩⟩)
 | fn f first cap=>
  obtain⟨fv,cv,rfl,h1,h2,h3,h4⟩:=h;exact⟨fv,cv,rfl,h1,h2,fun i x hi=>(h3 i x hi).move hc (fun β aj=>hr β (AS hi β aj)) (fun β aj=>hs β (KaT.2 (.inl (Kan.2 ⟨x,Kah hi,aj⟩)))),
   fun i x hi=>(h4 i x hi).move hc (fun β aj=>hr β (AV hi β aj)) (fun β aj=>hs β (KaT.2 (.inr (Kan.2 ⟨x,Kah hi,aj⟩))))⟩
 |agg cs=>exact dC.move (p:=.agg cs) h hc.rc
 |aO cs=>exact dC.move (p:=.aO cs) h hc.rc
 |_=>exact hc.rc _ _ h
theorem Qj.lX{ρ':Nat->Option Nat}{hp':HP}{w':World}{p:PV}{v:Value}(h:Qj C ρ hp w p v)
  (hc:jg w w' (aB C ρ hp) (aB C ρ' hp'))
  (hr:∀β∈p.refs,ρ' β=ρ β/\∀hb,hp β=some hb->∃ao,hp' β=some ao/\ao.e=hb.e/\hb.xs.length<=ao.xs.length/\∀b cap,ρ β=some b->cy w b hb.e cap->cy w' b hb.e cap)
  (hs:∀β∈p.aJ,ll ρ ρ' hp hp' w w' β):Qj C ρ' hp' w' p v:=
 h.move hc hr (fun β aj=>(hs β aj).tJ) (fun γ e ty xs e1=>hs γ (by rw[e1];simp[PV.aJ]))
theorem iv{w w':World}{b e cap:Nat}(h:w'.heap[b]? =w.heap[b]?)(hc:cy w b e cap):cy w' b e cap:=by obtain⟨cur,ty,h1,h2⟩:=hc;exact⟨cur,ty,by rw[h];exact h1,h2⟩
theorem iy{w:World}{b e cap:Nat}(hc:cy w b e cap):b<w.heap.size:=by obtain⟨cur,ty,h1,_⟩:=hc;exact(Kbc.1 h1).1
theorem sT.move{w w':World}{X X':Nat->Prop}{b:Nat}{hb ao:HB}(h:sT w X b hb)(hh:w'.heap[b]? =w.heap[b]?)(e1:ao.e=hb.e)(e2:ao.ty=hb.ty)(e3:ao.xs=hb.xs)
  (hc:∀q u,Qo w X q u->Qo w' X' q u):sT w' X' b ao:=by
 obtain⟨cur,cap,h1,h2,h3,h4,h5⟩:=h;exact⟨cur,cap,by rw[hh,e2];exact h1,by rw[e1];exact h2,by rw[e3];exact h3,h4,fun i x hi j y hy=>by rw[e1];exact hc _ _ (h5 i x (by rw[<-e3];exact hi) j y hy)⟩
theorem Qv.ae(h:Qv C ρ fr hp tmps w){d:Nat}{p:PV}{v:Value}(hv:Qj C ρ hp w p v)(hd:d<C.N):Qv C ρ (ae fr d p) hp (tmps.setIfInBounds d v) w:=by
 refine⟨by simpa using h.sz,h.ext,h.dK,h.own,h.inj,fun i=>?_⟩;unfold FW.ae;split
 ·rename_i he;subst he;simpa[Array.getD,h.sz,hd]using hv
 ·rename_i he;have:(tmps.setIfInBounds d v).getD i undef=tmps.getD i undef:=by simp only[KaD];rw[Kb7 (fun e=>he e.symm)]
  rw[this];exact h.cd i
theorem Bt{l:List Nat}{b:Nat}(h:aB C ρ (bw hp l) b):aB C ρ hp b:=by
 rcases h with h|⟨β,hb,h1,h2,h3⟩
 ·exact .inl h
 ·refine .inr ⟨β,hb,?_,h2,h3⟩;unfold bw at h1;split at h1
  ·cases hq:hp β with
   |none=>simp[hq]at h1
   |some jq=>simp[hq]at h1;subst h1;simp at h2
  ·exact h1
theorem xf{l:List Nat}{β:Nat}{hb:HB}(h:hp β=some hb):∃ao,bw hp l β=some ao/\ao.e=hb.e/\ao.ty=hb.ty/\ao.xs=hb.xs/\(ao.fz=false->ao=hb)/\(ao.fz=false->β ∉ l):=by
 unfold bw;by_cases hl:l.contains β=true
 ·rw[if_pos hl,h];exact⟨_,rfl,rfl,rfl,rfl,by simp,by simp⟩
 ·rw[if_neg hl,h];exact⟨hb,rfl,rfl,rfl,rfl,fun _=>rfl,fun _=>by simpa using hl⟩
theorem tT{l:List Nat}{β:Nat}{ao:HB}(h:bw hp l β=some ao):∃hb,hp β=some hb/\ao.e=hb.e/\ao.ty=hb.ty/\ao.xs=hb.xs/\(ao.fz=false->ao=hb)/\(ao.fz=false->β ∉ l):=by
 cases hq:hp β with
 |none=>unfold bw at h;split at h<;>simp[hq]at h
 |some hb=>obtain⟨cq,g1,g2⟩:=xf (l:=l) hq;rw[g1]at h;cases h;exact⟨hb,rfl,g2⟩
theorem Qo.freeze{l:List Nat}{q:PV}{u:Value}(h:Qo w (aB C ρ hp) q u):Qo w (aB C ρ (bw hp l)) q u:=
 h.mono (fun _ _ _=>rfl) (fun _ _ hn hx=>hn (Bt hx)) (Kag _)
theorem Qv.freeze(h:Qv C ρ fr hp tmps w)(l:List Nat):Qv C ρ fr (bw hp l) tmps w:=by
 refine⟨h.sz,h.ext,h.dK,fun β ao aj=>?_,fun β γ b h1 h2 h3 h4=>?_,fun i=>?_⟩
 ·obtain⟨hb,g1,g2,g3,g4,g5,_⟩:=tT aj;obtain⟨p1,p2,p3,p4,p5⟩:=h.own β hb g1;refine⟨by rw[g2];exact p1,fun i x hi=>by rw[g2];exact p2 i x (by rw[<-g4];exact hi),?_,p4,fun hq=>by
   cases hz:ao.fz with
   |true=>rfl
   |false=>rw[<-g5 hz,hz]at p5;cases p5 hq⟩
  cases aZ:ρ β with
  |none=>rw[aZ]at p3;simp only at p3 ⊢;rw[g4];exact p3
  |some b=>rw[aZ]at p3;simp only at p3 ⊢;exact⟨p3.1,p3.2.1,p3.2.2.move rfl g2 g3 g4 (fun q u hq=>hq.freeze)⟩
 ·have f1:∀γ,FW.bw hp l γ≠none->hp γ≠none:=fun γ hn=>by
   cases hq:hp γ with
   |none=>unfold FW.bw at hn;split at hn<;>simp[hq]at hn
   |some _=>simp
  exact h.inj β γ b (f1 β h1) (f1 γ h2) h3 h4
 ·refine(h.cd i).lX ⟨fun _ _ _=>rfl,fun _ _ hn hx=>hn (Bt hx),Kag _⟩ (fun β _=>⟨rfl,fun hb aj=>by
  obtain⟨ao,g1,g2,_,g4,_⟩:=xf (l:=l) aj;exact⟨ao,g1,g2,by rw[g4];exact Kag _,fun b cap _ hc=>hc⟩⟩) (fun β _=>⟨rfl,fun hb aj=>by
  obtain⟨ao,g1,g2,g3,g4,_⟩:=xf (l:=l) aj;exact⟨ao,g1,g2,by rw[g4];exact Kag _,fun b cap _ hc=>hc,fun he=>⟨by rw[g4];exact he,g3,fun _ _=>rfl⟩⟩⟩)
theorem Qv.grow{w':World}(h:Qv C ρ fr hp tmps w)(hx:Ext bW w w'):Qv C ρ fr hp tmps w':=by
 have fy:jg w w' (aB C ρ hp) (aB C ρ hp):=⟨fun b hb _=>hx.block b hb (fun h=>h),fun _ _ hn=>hn,hx.size⟩
 have hc:=fy.rc;refine⟨h.sz,h.ext.trans' hx (fun _ _ h=>h.elim),fun b0 b hb e cap hc=>iv (hx.block b (iy (h.dK b0 b hb e cap hc)) (fun h=>h)) (h.dK b0 b hb e cap hc),fun β hb aj=>?_,h.inj,fun i=>?_⟩
 ·obtain⟨p1,p2,p3,p4,p5⟩:=h.own β hb aj;refine⟨p1,p2,?_,p4,p5⟩;cases aZ:ρ β with
  |none=>rw[aZ]at p3;exact p3
  |some b=>rw[aZ]at p3;exact⟨p3.1,Ka8 p3.2.1 hx.size,p3.2.2.move (hx.block b p3.2.1 (fun h=>h)) rfl rfl rfl hc⟩
 ·exact(h.cd i).lX fy (fun β _=>⟨rfl,fun hb aj=>⟨hb,aj,rfl,Kag _,fun b cap _ cP=>iv (hx.block b (iy cP) (fun h=>h)) cP⟩⟩)
   (fun β _=>⟨rfl,fun hb aj=>⟨hb,aj,rfl,Kag _,fun b cap _ cP=>iv (hx.block b (iy cP) (fun h=>h)) cP,fun he=>⟨he,rfl,fun b aZ=>hx.block b (by have:=(h.own β hb aj).ca;rw[aZ]at this;exact this.2.1) (fun h=>h)⟩⟩⟩)
theorem ID{β:Nat}{p:PV}:∀γ∈(bl β p).refs,γ≠β/\γ∈p.refs:=by
 intro γ ah;unfold bl at ah;split at ah
 ·simp[PV.refs]at ah
 ·rename_i hn;refine⟨fun he=>hn (by subst he;simpa using ah),ah⟩
theorem Qj.kill{β:Nat}{p:PV}{v:Value}(h:Qj C ρ hp w p v):Qj C ρ hp w (bl β p) v:=by
 unfold bl;split
 ·trivial
 ·exact h
theorem b8.tG{p:PV}{v:Value}(h:b8 C ρ hp w p v):∀γ∈p.cG,bm γ=true:=by
 intro γ ah;cases p with
 |aq β o n=>simp[PV.cG]at ah;subst ah;exact h.1
 |aE β o n=>simp[PV.cG]at ah;subst ah;exact h.1
 |np β o n=>cases h
 |_=>cases ah
theorem cg.MN{p:PV}{v:Value}(h:cg C ρ hp w p v):∀γ∈p.dj,bm γ=true:=by
 intro γ ah;cases p with
 |aE β o n=>simp[PV.dj]at ah;subst ah;exact h.1
 |np β o n=>simp[PV.dj]at ah;subst ah;exact h.1
 |_=>cases ah
theorem Qj.tG{p:PV}{v:Value}(h:Qj C ρ hp w p v):∀γ∈p.aJ,bm γ=true:=by
 intro γ ah;cases p with
 |aE β o n=>simp[PV.aJ]at ah;subst ah;exact h.1
 |np β o n=>simp[PV.aJ]at ah;subst ah;exact h.1
 |aH cs=>obtain⟨vs,_,_,h2⟩:=h;obtain⟨x,hx,ah⟩:=Kan.1 ah;obtain⟨i,hi⟩:=Kau hx;exact(h2 i x hi).tG γ ah
 |dk cs=>obtain⟨vs,_,_,h2⟩:=h;obtain⟨x,hx,ah⟩:=Kan.1 ah;obtain⟨i,hi⟩:=Kau hx;exact(h2 i x hi).tG γ ah
 |cm cs q=>obtain⟨vs,u,_,_,h2,_⟩:=h;obtain⟨x,hx,ah⟩:=Kan.1 ah;obtain⟨i,hi⟩:=Kau hx;exact(h2 i x hi).tG γ ah
 | aC β e ty xs=>
  obtain⟨h0,_,b,hb,cur,cap,_,_,_,_,_,_,_,_,_,_,cD⟩:=h;rcases KaF.1 ah with rfl|ah
  ·exact h0
  ·obtain⟨x,hx,ah⟩:=Kan.1 ah;obtain⟨y,hy,ah⟩:=Kan.1 ah;obtain⟨i,hi⟩:=Kau hx;obtain⟨j,hj⟩:=Kau hy;exact(cD i x hi j y hj).tG γ ah
 | fn f first cap=>
  obtain⟨fv,cv,_,_,_,h3,h4⟩:=h;rcases KaT.1 ah with ah|ah
  ·obtain⟨x,hx,ah⟩:=Kan.1 ah;obtain⟨i,hi⟩:=Kau hx;exact(h3 i x hi).MN γ ah
  ·obtain⟨x,hx,ah⟩:=Kan.1 ah;obtain⟨i,hi⟩:=Kau hx;exact(h4 i x hi).MN γ ah
 |_=>cases ah
def rb(ρ:Nat->Option Nat)(β:Nat)(b':Option Nat):Nat->Option Nat:=fun γ=>if γ=β then b' else ρ γ
theorem eW(ρ:Nat->Option Nat)(β:Nat)(b':Option Nat):rb ρ β b' β=b':=by simp[rb]
theorem lB{ρ:Nat->Option Nat}{β γ:Nat}{b':Option Nat}(h:γ≠β):rb ρ β b' γ=ρ γ:=by simp[rb,h]
def sU(C:Ctx)(ρ:Nat->Option Nat)(hp:HP)(w:World)(β:Nat)(fr aw:Fr):Prop:=∀(i:Nat)(v:Value),Qj C ρ hp w (fr i) v->Qj C ρ hp w (aw i) v/\(∀γ∈(aw i).refs,γ≠β)/\∀γ∈(aw i).aJ,γ≠β
theorem xH{β:Nat}(hB:bm β=false):sU C ρ hp w β fr (bB β fr):=fun i v h=>by have hk:=Qj.kill (β:=β) h;exact⟨hk,fun γ ah=>(ID γ ah).1,fun γ ah e=>by have:=hk.tG γ ah;rw[e,hB]at this;cases this⟩
theorem Qv.tF{w':World}{aw:Fr}(h:Qv C ρ fr hp tmps w)(β:Nat)(b':Option Nat)(ao:HB)(hB:aI β=false)(mD:sU C ρ hp w β fr aw)
  (hx:Ext (fun b=>ρ β=some b/\∃hb,hp β=some hb/\hb.fz=false) w w')
  (j':∀c,b'=some c->(C.w0.heap.size<=c∨C.Z0 c)/\c<w'.heap.size/\(w.heap.size<=c∨(ρ β=some c/\∃hb,hp β=some hb/\hb.fz=false)))
  (he:0<ao.e) (hl:∀(i:Nat)(x:PV),ao.xs[i]? =some x->x.cells.length=ao.e/\x.aA=true)
  (qU:b'=none->ao.xs=[]) (aP:∀c,b'=some c->∃(cur:Array Value) (cap:Nat),w'.heap[c]? =some (.cells cur ao.ty (0,0))/\cur.size=cap*ao.e/\ao.xs.length<=cap/\cap<=maxLen/\
   ∀(i:Nat)(x:PV),ao.xs[i]? =some x->∀(j:Nat)(y:PV),x.cells[j]? =some y->Qo w (aB C ρ hp) y (cur.getD (i*ao.e+j) undef)):
  Qv C (rb ρ β b') aw (Qi hp β ao) tmps w':=by
 have hX:∀b,b<w.heap.size->¬aB C ρ hp b->¬aB C (rb ρ β b') (Qi hp β ao) b:=by
  intro b hb hn aL;rcases aL with aL|⟨γ,hg,h1,h2,h3⟩
  ·exact hn (.inl aL)
  ·unfold Qi at h1;by_cases ah:γ=β
   ·subst ah;rw[eW]at h3;obtain⟨_,_,h4|⟨h5,jq,h6,h7⟩⟩:=j' b h3
    ·omega
    ·exact hn (.inr ⟨γ,jq,h6,h7,h5⟩)
   ·rw[if_neg ah]at h1;rw[lB ah]at h3;exact hn (.inr ⟨γ,hg,h1,h2,h3⟩)
 have fy:jg w w' (aB C ρ hp) (aB C (rb ρ β b') (Qi hp β ao)):=
  ⟨fun b hb hn=>hx.block b hb (fun⟨e1,jq,e2,e3⟩=>hn (.inr ⟨β,jq,e2,e3,e1⟩)),hX,hx.size⟩
 have hc:=fy.rc;have hold:∀b,ρ β=some b->(∃hb,hp β=some hb/\hb.fz=false)->C.w0.heap.size<=b∨C.Z0 b:=by intro b e1 ⟨jq,e2,e3⟩;have:=(h.own β jq e2).ca;rw[e1]at this;exact Ctx.pj this.1 hB
 have gu:Ext C.Y0 C.w0 w':=by refine h.ext.trans' (Y':=fun b=>ρ β=some b/\∃hb,hp β=some hb/\hb.fz=false) hx ?_;intro b hb ⟨e1,e2⟩;exact(Ctx.Nc (hold b e1 e2)).resolve_left (by omega)
 have vU:∀β b,C.fx β=some b->∀e cap,cy C.w0 b e cap->cy w' b e cap:=fun b0 b hb e cap fy=>by have h1:=h.dK b0 b hb e cap fy;refine iv (hx.block b (iy h1) ?_) h1;intro⟨e1,e2⟩;exact Ctx.Gs (hold b e1 e2) hb
 refine⟨h.sz,gu,vU,fun γ hg ah=>?_,fun γ δ b h1 h2 h3 h4=>?_,fun i=>?_⟩
 ·unfold Qi at ah;by_cases nF:γ=β
  ·rw[if_pos nF]at ah;cases ah;subst nF;refine⟨he,hl,?_,(fun hq=>by rw[hB]at hq;cases hq),fun hq=>by rw[sC hB]at hq;cases hq⟩;rw[eW];cases b' with
   |none=>exact qU rfl
   |some c=>obtain⟨cur,cap,c1,c2,c3,c4,c5⟩:=aP c rfl;exact⟨Ctx.Lh (j' c rfl).1 hB,(j' c rfl).2.1,cur,cap,c1,c2,c3,c4,fun i x hi j y hy=>hc _ _ (c5 i x hi j y hy)⟩
  ·rw[if_neg nF]at ah;obtain⟨p1,p2,p3,p4,p5⟩:=h.own γ hg ah;refine⟨p1,p2,?_,(fun hq=>by rw[lB nF];exact p4 hq),p5⟩;rw[lB nF];cases aZ:ρ γ with
   |none=>rw[aZ]at p3;exact p3
   |some b=>rw[aZ]at p3;refine⟨p3.1,Ka8 p3.2.1 hx.size,p3.2.2.move (hx.block b p3.2.1 ?_) rfl rfl rfl hc⟩;intro⟨e1,jq,e2,_⟩;exact nF (h.inj γ β b (by simp[ah]) (by simp[e2]) aZ e1)
 ·
  have key:∀γ b,γ≠β->hp γ≠none->ρ γ=some b->b'=some b->False:=by
   intro γ b bh hs hr hb;obtain⟨_,_,h4|⟨h5,jq,h6,h7⟩⟩:=j' b hb
   ·cases hq:hp γ with
    |none=>exact hs hq
    |some hg=>have:=(h.own γ hg hq).ca;rw[hr]at this;omega
   ·exact bh (h.inj γ β b hs (by simp[h6]) hr h5)
  unfold Qi at h1 h2;by_cases ah:γ=β<;>by_cases ko:δ=β
  ·rw[ah,ko]
  ·subst ah;rw[eW]at h3;rw[lB ko]at h4;rw[if_neg ko]at h2;exact(key δ b ko h2 h4 h3).elim
  ·subst ko;rw[eW]at h4;rw[lB ah]at h3;rw[if_neg ah]at h1;exact(key γ b ah h1 h3 h4).elim
  ·rw[lB ah]at h3;rw[lB ko]at h4;rw[if_neg ah]at h1;rw[if_neg ko]at h2;exact h.inj γ δ b h1 h2 h3 h4
 ·obtain⟨hk,L2,pL⟩:=mD i _ (h.cd i);refine hk.lX fy (fun γ ah=>?_) (fun γ ah=>?_)
  ·have bh:=L2 γ ah;refine⟨lB bh,fun hg eR=>⟨hg,by simp[Qi,bh,eR],rfl,Kag _,fun b cap aZ cP=>iv (hx.block b (iy cP) ?_) cP⟩⟩;intro⟨e1,jq,e2,_⟩;exact bh (h.inj γ β b (by simp[eR]) (by simp[e2]) aZ e1)
  ·have bh:=pL γ ah;have kZ:∀b hg,hp γ=some hg->ρ γ=some b->¬(ρ β=some b/\∃hb,hp β=some hb/\hb.fz=false):=fun b hg eR aZ ⟨e1,jq,e2,_⟩=>bh (h.inj γ β b (by simp[eR]) (by simp[e2]) aZ e1);refine⟨lB bh,fun hg eR=>⟨hg,by simp[Qi,bh,eR],rfl,Kag _,fun b cap aZ cP=>iv (hx.block b (iy cP) (kZ b hg eR aZ)) cP,fun he=>⟨he,rfl,fun b aZ=>hx.block b ?_ (kZ b hg eR aZ)⟩⟩⟩;have:=(h.own γ hg eR).ca;rw[aZ]at this;exact this.2.1
theorem Qv.rebind{w':World}(h:Qv C ρ fr hp tmps w)(β:Nat)(b':Option Nat)(ao:HB)(hB:bm β=false)
  (hx:Ext (fun b=>ρ β=some b/\∃hb,hp β=some hb/\hb.fz=false) w w')
  (j':∀c,b'=some c->(C.w0.heap.size<=c∨C.Z0 c)/\c<w'.heap.size/\(w.heap.size<=c∨(ρ β=some c/\∃hb,hp β=some hb/\hb.fz=false)))
  (he:0<ao.e) (hl:∀(i:Nat)(x:PV),ao.xs[i]? =some x->x.cells.length=ao.e/\x.aA=true)
  (qU:b'=none->ao.xs=[]) (aP:∀c,b'=some c->∃(cur:Array Value) (cap:Nat),w'.heap[c]? =some (.cells cur ao.ty (0,0))/\cur.size=cap*ao.e/\ao.xs.length<=cap/\cap<=maxLen/\
   ∀(i:Nat)(x:PV),ao.xs[i]? =some x->∀(j:Nat)(y:PV),x.cells[j]? =some y->Qo w (aB C ρ hp) y (cur.getD (i*ao.e+j) undef)):
  Qv C (rb ρ β b') (bB β fr) (Qi hp β ao) tmps w':=h.tF β b' ao (qm hB) (xH hB) hx j' he hl qU aP
theorem Qv.store{w':World}(h:Qv C ρ fr hp tmps w)(β b:Nat)(hb ao:HB)(aj:hp β=some hb)(js:hb.fz=false)(bh:hb.xs≠[])(aZ:ρ β=some b)
  (hx:Ext (fun c=>c=b) w w') (e1:ao.e=hb.e) (e3:ao.xs.length=hb.xs.length) (e4:ao.fz=false)
  (hl:∀(i:Nat)(x:PV),ao.xs[i]? =some x->x.cells.length=ao.e/\x.aA=true)
  (cP:∀e cap,cy w b e cap->cy w' b e cap)
  (aP:∃(cur:Array Value) (cap:Nat),w'.heap[b]? =some (.cells cur ao.ty (0,0))/\cur.size=cap*ao.e/\ao.xs.length<=cap/\cap<=maxLen/\
   ∀(i:Nat)(x:PV),ao.xs[i]? =some x->∀(j:Nat)(y:PV),x.cells[j]? =some y->Qo w (aB C ρ hp) y (cur.getD (i*ao.e+j) undef)):Qv C ρ fr (Qi hp β ao) tmps w':=by
 have Ff:∀c,aB C ρ (Qi hp β ao) c↔aB C ρ hp c:=by
  intro c;constructor
  ·rintro(hx|⟨γ,hg,h1,h2,h3⟩)
   ·exact .inl hx
   ·unfold Qi at h1;by_cases ah:γ=β
    ·subst ah;exact .inr ⟨γ,hb,aj,js,h3⟩
    ·rw[if_neg ah]at h1;exact .inr ⟨γ,hg,h1,h2,h3⟩
  ·rintro(hx|⟨γ,hg,h1,h2,h3⟩)
   ·exact .inl hx
   ·by_cases ah:γ=β
    ·subst ah;exact .inr ⟨γ,ao,by simp[Qi],e4,h3⟩
    ·exact .inr ⟨γ,hg,by simp[Qi,ah,h1],h2,h3⟩
 have hXf:aB C ρ (Qi hp β ao)=aB C ρ hp:=funext fun c=>propext (Ff c);have Fj:aB C ρ hp b:=.inr ⟨β,hb,aj,js,aZ⟩;have zq:dJ β=false:=by
  cases hq:dJ β with
  |false=>rfl
  |true=>have:=(h.own β hb aj).ro hq;rw[js]at this;cases this
 have fy:jg w w' (aB C ρ hp) (aB C ρ (Qi hp β ao)):=by rw[hXf];exact⟨fun c hc hn=>hx.block c hc (fun e=>hn (e▸Fj)),fun _ _ hn=>hn,hx.size⟩
 have hc:=fy.rc;have aY:=(h.own β hb aj).ca;rw[aZ]at aY;have gu:Ext C.Y0 C.w0 w':=by refine h.ext.trans' (Y':=fun c=>c=b) hx ?_;intro c hc he;subst he;exact(Ctx.yO aY.1 zq).resolve_left (by omega)
 have vU:∀β c,C.fx β=some c->∀e cap,cy C.w0 c e cap->cy w' c e cap:=fun b0 c fy e cap fC=>by
  have h1:=h.dK b0 c fy e cap fC;by_cases fY:c=b
  ·subst fY;exact cP e cap h1
  ·exact iv (hx.block c (iy h1) fY) h1
 refine⟨h.sz,gu,vU,fun γ hg ah=>?_,fun γ δ c h1 h2 h3 h4=>?_,fun i=>?_⟩
 ·unfold Qi at ah;by_cases nF:γ=β
  ·subst nF;rw[if_pos rfl]at ah;cases ah;refine⟨by rw[e1];exact(h.own γ hb aj).gF,hl,?_,(h.own γ hb aj).fix,fun hq=>by rw[zq]at hq;cases hq⟩;rw[aZ];obtain⟨cur,cap,c1,c2,c3,c4,c5⟩:=aP;exact⟨aY.1,Ka8 aY.2.1 hx.size,cur,cap,c1,c2,c3,c4,fun i x hi j y hy=>hc _ _ (c5 i x hi j y hy)⟩
  ·rw[if_neg nF]at ah;obtain⟨p1,p2,p3,p4,p5⟩:=h.own γ hg ah;refine⟨p1,p2,?_,p4,p5⟩;cases hr:ρ γ with
   |none=>rw[hr]at p3;exact p3
   |some c=>rw[hr]at p3;exact⟨p3.1,Ka8 p3.2.1 hx.size,p3.2.2.move (hx.block c p3.2.1 (fun e=>nF (h.inj γ β b (by simp[ah]) (by simp[aj]) (e▸hr) aZ))) rfl rfl rfl hc⟩
 ·have f1:∀γ,Qi hp β ao γ≠none->hp γ≠none:=fun γ hn=>by
   unfold Qi at hn;by_cases ah:γ=β
   ·subst ah;simp[aj]
   ·rwa[if_neg ah]at hn
  exact h.inj γ δ c (f1 γ h1) (f1 δ h2) h3 h4
 ·have key:∀γ,ll ρ ρ hp (Qi hp β ao) w w' γ:=fun γ=>⟨rfl,fun hg eR=>by
   by_cases ah:γ=β
   ·subst ah;rw[aj]at eR;cases eR;exact⟨ao,by simp[Qi],e1,by rw[e3];exact Kag _,fun c cap hr fC=>by rw[aZ]at hr;cases hr;exact cP _ cap fC,fun he=>absurd he bh⟩
   ·have kZ:∀c,ρ γ=some c->¬c=b:=fun c hr e=>ah (h.inj γ β b (by simp[eR]) (by simp[aj]) (e▸hr) aZ);refine⟨hg,by simp[Qi,ah,eR],rfl,Kag _,fun c cap hr fC=>iv (hx.block c (iy fC) (kZ c hr)) fC,fun he=>⟨he,rfl,fun c hr=>hx.block c ?_ (kZ c hr)⟩⟩;have:=(h.own γ hg eR).ca;rw[hr]at this;exact this.2.1⟩
  exact(h.cd i).lX fy (fun γ _=>(key γ).o) (fun γ _=>key γ)
end Go.FW
namespace Go.FW
open Go
variable {C : Ctx} {ρ : Nat -> Option Nat} {fr : Fr} {hp : HP} {w : World} {a : Act} {K : Qg}
theorem HK{X:Nat->Prop}{v:Value}{p:PV}(h:uy v=some p):Qo w X p v:=by unfold uy at h;split at h<;>simp at h<;>subst h<;>constructor
theorem iV{α β:Type}{f:α->Option β}:∀ {l:List α} {r:List β},l.mapM f=some r->r.length=l.length/\∀(i:Nat)(y:β),r[i]? =some y->∃x,l[i]? =some x/\f x=some y
 | [],r,h=>by simp at h;subst h;simp
 |x::l,r,h=>by
  rw[KbT]at h;simp only[KbF,KbX,Kab,Kar]at h;obtain⟨y,hy,r',hr,rfl⟩:=h;obtain⟨h1,h2⟩:=iV hr;refine⟨by simp[h1],fun i z hz=>?_⟩;cases i with
  |zero=>simp at hz;subst hz;exact⟨x,by simp,hy⟩
  |succ i=>simp at hz;simpa using h2 i z hz
theorem xg(cs:Array Value)(i:Nat)(x:Value)(h:cs.toList[i]? =some x):cs.getD i undef=x:=by simp only[Array.getElem?_toList]at h;simp[KaD,h]
theorem nM{X:Nat->Prop}{v:Value}{p:PV}(h:nR v=some p):bc w X p v:=by
 unfold nR at h;split at h
 ·rename_i cs;simp only[Kaa]at h;obtain⟨l,h1,rfl⟩:=h;obtain⟨g1,g2⟩:=iV h1;refine⟨cs,rfl,by simpa using g1.symm,fun i x hx=>?_⟩;obtain⟨u,hu,hc⟩:=g2 i x hx;rw[xg cs i u hu];exact HK hc
 ·exact bc.nI (HK h)
theorem w9{v:Value}{p:PV}(h:nR v=some p):p.aA=true/\p.refs=[]/\(∀f first cap,p≠ .fn f first cap):=by
 unfold nR at h;split at h
 ·simp only[Kaa]at h;obtain⟨l,h1,rfl⟩:=h;simp[PV.aA,PV.refs]
 ·unfold uy at h;split at h<;>simp at h<;>subst h<;>simp[PV.aA,PV.refs]
theorem Qj.MR{p:PV}{v:Value}(h:bc w (aB C ρ hp) p v)(hn:∀f first cap,p≠ .fn f first cap):Qj C ρ hp w p v:=by
 cases p with
 |fn f first cap=>exact absurd rfl (hn _ _ _)
 |undef=>trivial
 |mp=>cases h
 |aq=>cases h
 |rb=>cases h
 |aE=>cases h
 |np=>cases h
 |aH=>cases h
 |dk=>cases h
 |cm=>cases h
 |aC=>cases h
 |aO=>cases h
 |agg cs=>exact h
 |_=>exact h
theorem Qj.iT{p:PV}{v:Value}(h:bc w (aB C ρ hp) p v):Qj C ρ hp w p v:=by
 by_cases hf:∃f first cap,p= .fn f first cap
 ·obtain⟨f,first,cap,rfl⟩:=hf;cases h with
  |fn _ _ _ fv cv h1 h2 h3 h4=>
   refine⟨fv,cv,rfl,h1,h2,fun i x hi=>?_,fun i x hi=>?_⟩
   ·have:=h3 i x hi;cases x<;>first|exact this|cases this
   ·have:=h4 i x hi;cases x<;>first|exact this|cases this
 ·exact Qj.MR h (fun f first cap e=>hf ⟨f,first,cap,e⟩)
theorem bU{x:Operand}{y:aF}(h:Qv C ρ fr hp a.tmps w)(ho:bA x=some y):Qj C ρ hp w (ev fr y) (a.eval x):=by
 cases x with
 |tmp t=>simp[bA]at ho;subst ho;exact h.cd t
 |const v=>simp only[bA,Kaa]at ho;obtain⟨p,hp',rfl⟩:=ho;exact Qj.MR (nM hp') (w9 hp').2.2
 |global g=>simp[bA]at ho
 |func f=>simp[bA]at ho;subst ho;exact⟨#[],#[],rfl,rfl,rfl,by simp,by simp⟩
theorem Qj.gO{k:IntKind}{n:Int}{v:Value}(h:Qj C ρ hp w (.int k n) v):v= .int k n:=by cases h;rfl
theorem Qj.sY{b:Bool}{v:Value}(h:Qj C ρ hp w (.bool b) v):v= .bool b:=by cases h;rfl
theorem Qj.rK{v:Value}(h:Qj C ρ hp w .aa v):v= .slice none 0 0:=by cases h;rfl
theorem Qj.mkInt(k:IntKind)(n:Int):Qj C ρ hp w (.int k n) (.int k n):=Qo.int k n
theorem Qj.pT(b:Bool):Qj C ρ hp w (.bool b) (.bool b):=Qo.bool b
theorem Qj.M5:Qj C ρ hp w (.aO []) undef:=⟨#[],rfl,rfl,by simp⟩
def Q5(C:Ctx)(ρ:Nat->Option Nat)(o:Oper)(a:Act)(w:World)(K:Qg):Prop:=
 ∃v,(∀w',(execOp a.eval o).run C.P w'= .ok (.value v) w')/\∃aw hp',Qv C ρ aw hp' (a.put o.dst v).tmps w/\K aw hp'
theorem Q5.mk{o:Oper}{d:Nat}{p:PV}{v:Value}(hd:o.dst=some d)(an:d<C.N)(h:Qv C ρ fr hp a.tmps w)
  (bD:∀w',(execOp a.eval o).run C.P w'= .ok (.value v) w') (hr:Qj C ρ hp w p v) (hK:K (ae fr d p) hp):Q5 C ρ o a w K:=
 ⟨v,bD,ae fr d p,hp,by rw[hd];exact h.ae hr an,hK⟩
theorem fk{P:Program}{t:TypeId}{d:TypeDesc}(h:P.underlying t=some d)(w:World):(underlying t).run P w= .ok d w:=run_underlying h w
theorem iw{P:Program}{t:TypeId}{n:Nat}(h:dh P t=some n)(w:World):(sizeOf t).run P w= .ok n w:=by simp only[dh,Kaa]at h;obtain⟨i,hi,rfl⟩:=h;simp[sizeOf,typeInfo,hi]
theorem ud{P:Program}{t:TypeId}{ag:Bool}(h:je P t=some ag)(w:World):(isAgg t).run P w= .ok ag w:=by simp only[je,Kaa]at h;obtain⟨d,hd,rfl⟩:=h;simp only[isAgg,Kak,fk hd,Kai];cases d<;>rfl
theorem HJ{P:Program}{T:TypeId}(hu:P.underlying T=some .bool)(n m:Bool)(w:World):(Op.equal T (.bool n) (.bool m)).run P w= .ok (n==m) w:=by show(Op.equalIn (9999+1) T (.bool n) (.bool m)).run P w=_;unfold Op.equalIn;rw[Kak,fk hu,Kai];rfl
theorem ZP{P:Program}{T:TypeId}(hu:P.underlying T=some .bool)(n m:Bool)(w:World):(binOp .eql T (.bool n) (.bool m)).run P w= .ok (.bool (n==m)) w:=by show(do pure (Value.bool (<-Op.equal T (.bool n) (.bool m))):Sem Value).run P w=_;rw[Kak,HJ hu,Kai];rfl
theorem ZQ{P:Program}{T:TypeId}(hu:P.underlying T=some .bool)(n m:Bool)(w:World):(binOp .neq T (.bool n) (.bool m)).run P w= .ok (.bool (!(n==m))) w:=by show(do pure (Value.bool (!(<-Op.equal T (.bool n) (.bool m)))):Sem Value).run P w=_;rw[Kak,HJ hu,Kai];rfl
theorem lZ{o:Oper}{op:BinOp}{T T2:TypeId}{x y:Operand}(ho:o.op= .binOp op T x y T2){vx vy v:Value}(ex:a.eval x=vx)(ey:a.eval y=vy)
  (hg:∀w,(eqGuard op T x y vx vy).run C.P w= .ok () w) (hr:∀w,(binOp op T vx vy).run C.P w= .ok v w):∀w,(execOp a.eval o).run C.P w= .ok (.value v) w:=by
 intro w;unfold execOp;simp only[ho,ex,ey,Kak,hg,hr,Kai];rfl
theorem NX{o:Oper}{op:BinOp}{T T2:TypeId}{x y:Operand}{px py:PV}{d:Nat}(ho:o.op= .binOp op T x y T2)(hd:o.dst=some d)(an:d<C.N)(h:Qv C ρ fr hp a.tmps w)
    (hx:Qj C ρ hp w px (a.eval x)) (hy:Qj C ρ hp w py (a.eval y)) {bt:Bool} (te:bt=true->C.P.underlying T=some .bool)
    (hv:bG op bt px py d fr hp K):Q5 C ρ o a w K:=by
  unfold bG at hv;split at hv
  · rename_i k n k' m
    have ex:=hx.gO;have ey:=hy.gO;have jt:∀w',(eqGuard op T x y (.int k n) (.int k' m)).run C.P w'= .ok () w':=by intro w';unfold eqGuard;cases op<;>rfl
    split at hv
    · obtain⟨h0,hv⟩:=hv
      have EU:¬m<0:=by omega
      exact Q5.mk hd an h (lZ ho ex ey jt (fun w'=>by simp[binOp,Op.shift,EU])) (Qj.mkInt _ _) hv
    · obtain⟨h0,hv⟩:=hv
      have EU:¬m<0:=by omega
      exact Q5.mk hd an h (lZ ho ex ey jt (fun w'=>by simp[binOp,Op.shift,EU])) (Qj.mkInt _ _) hv
    all_goals first
      |exact hv.elim
      | (obtain⟨rfl,h0,hv⟩:=hv
         exact Q5.mk hd an h (lZ ho ex ey jt (fun w'=>by simp[binOp,Op.intDiv,h0])) (Qj.mkInt _ _) hv)
      | (obtain⟨rfl,hv⟩:=hv
         exact Q5.mk hd an h (lZ ho ex ey jt (fun w'=>by simp[binOp,Op.intArith,Op.intBits])) (Qj.mkInt _ _) hv)
      | (obtain⟨rfl,hv⟩:=hv
         refine Q5.mk hd an h (lZ ho ex ey jt ?_) (Qj.pT _) hv;intro w';simp[binOp,Op.intCmp]<;>rfl)
  · rename_i n m
    have ex:=hx.sY;have ey:=hy.sY;have jt:∀w',(eqGuard op T x y (.bool n) (.bool m)).run C.P w'= .ok () w':=by intro w';unfold eqGuard;cases op<;>rfl
    split at hv
    · obtain⟨hb,hv⟩:=hv
      exact Q5.mk hd an h (lZ ho ex ey jt (ZP (te hb) n m)) (Qj.pT _) hv
    · obtain⟨hb,hv⟩:=hv
      exact Q5.mk hd an h (lZ ho ex ey jt (ZQ (te hb) n m)) (Qj.pT _) hv
    · exact hv.elim
  · exact hv.elim
theorem Qj.M0{e:Nat}{xs:List PV}{v:Value}(h:Qj C ρ hp w (.sl e xs) v):∃ad cap,v= .slice ad xs.length cap/\xs.length<=cap/\cap<=maxLen:=by
 cases h with
 |gS _ ad cap hc=>exact⟨ad,cap,rfl,KbG _,hc⟩
 |sl _ _ b off cap vs hX hb hl hc=>exact⟨_,cap,rfl,hl,hc⟩
theorem Qj.Gc{β o n:Nat}{v:Value}(h:Qj C ρ hp w (.aq β o n) v):∃ad cap,v= .slice ad n cap:=by
 obtain⟨hb,_,_,⟨_,rfl,rfl,rfl⟩|⟨b,cap,_,rfl,_⟩⟩:=h
 ·exact⟨_,_,rfl⟩
 ·exact⟨_,_,rfl⟩
theorem Qj.adQ{γ o n:Nat}{v:Value}(h:Qj C ρ hp w (.aE γ o n) v):∃ad cap,v= .slice ad n cap:=by obtain⟨_,hb,b,cap,_,_,rfl,_⟩:=h;exact⟨_,_,rfl⟩
theorem Qj.zO{γ i o:Nat}{v:Value}(h:Qj C ρ hp w (.np γ i o) v):bm γ=true/\∃b hb,ρ γ=some b/\hp γ=some hb/\v= .pointer (some ⟨b,i*hb.e+o,none⟩):=h
theorem Qj.MQ{p:PV}{v:Value}(h:b8 C ρ hp w p v):Qj C ρ hp w p v:=by
 cases p with
 |undef=>trivial
 |aq β o n=>exact h.2
 |aE γ o n=>exact h
 |_=>exact Qj.iT (bc.nI h)
theorem b8.toC{p:PV}{v:Value}(h:b8 C ρ hp w p v)(hr:p.lg=false):Qo w (aB C ρ hp) p v:=by
 cases p with
 |undef=>cases hr
 |aq=>cases hr
 |aE=>cases hr
 |_=>exact h
theorem b8.MP{p:PV}{v:Value}(h:Qo w (aB C ρ hp) p v):b8 C ρ hp w p v:=by
 cases p with
 |aq=>cases h
 |aE=>cases h
 |undef=>trivial
 |_=>exact h
theorem b8.nJ{p:PV}{v:Value}(h:b8 C ρ hp w p v)(hu:p≠ .undef):v.oneCell'=true/\v.cells= #[v]:=by
 cases p with
 |undef=>exact absurd rfl hu
 |aq β o n=>obtain⟨_,hb,_,_,⟨_,rfl,_⟩|⟨b,cap,_,rfl,_⟩⟩:=h<;>exact⟨rfl,rfl⟩
 |aE γ o n=>obtain⟨_,hb,b,cap,_,_,rfl,_⟩:=h;exact⟨rfl,rfl⟩
 |_=>exact⟨(Qo.nJ h).1,(Qo.nJ h).2.1⟩
theorem Qym(cs:List PV):(kE cs).aQ=cs:=by unfold kE;split<;>rfl
theorem NY{cs:List PV}{vs:Array Value}(hs:vs.size=cs.length)(h:∀(i:Nat)(x:PV),cs[i]? =some x->b8 C ρ hp w x (vs.getD i undef)):Qj C ρ hp w (kE cs) (.agg vs):=by
 unfold kE;split
 ·exact⟨vs,rfl,hs,h⟩
 ·rename_i hn;refine⟨vs,rfl,hs,fun i x hi=>(h i x hi).toC ?_⟩;have hm:=Kah hi;cases hq:x.lg with
  |false=>rfl
  |true=>exact absurd (KaP.2 ⟨x,hm,hq⟩) hn
theorem Cp{ag:Bool}{n off:Nat}{x:PV}{vs:Array Value}(hs:vs.size=n)(hle:off+n<=x.aQ.length)(h1:ag=false->n=1)
  (hr:∀j y,j<n->x.aQ[off+j]? =some y->b8 C ρ hp w y (vs.getD j undef)):Qj C ρ hp w (nG ag n off x) (if ag then .agg vs else vs.getD 0 undef):=by
 cases ag with
 | true=>
  refine NY (by simp[hs];omega) (fun i y hy=>?_);have hi:i<n:=by have:=(Kad.1 hy).1;simp at this;omega
  rw[Kax hi,KaR]at hy;exact hr i y hi hy
 | false=>
  have hn:=h1 rfl;subst hn;have an:off<x.aQ.length:=by omega
  have e:x.aQ[off+0]? =some (x.aQ[off]):=by simp[Kaf an]
  have:=hr 0 _ (by omega) e;simp only[nG,Kbf,if_false];have e2:(x.aQ.drop off).headD .undef=x.aQ[off]:=by rw[Kbx,Kb8,Kaf an];rfl
  rw[e2];exact Qj.MQ this
theorem wZ{o:Oper}{b:Builtin}{args:Array Operand}{ts:Array TypeId}(ho:o.op= .call { callee:=.builtin b,args:=args,argTypes:=ts }){v:Value}
  (hr:∀w,(builtin b ts o.type (args.map fun| .const _=>true|_=>false) (args.map a.eval)).run C.P w= .ok (.value v) w):∀w,(execOp a.eval o).run C.P w= .ok (.value v) w:=by
 intro w;unfold execOp;simp only[ho,resolve,Kak,KaN,Kai,invoke];exact hr w
theorem N0{o:Oper}{x:Operand}{t:TypeId}{px:PV}{d:Nat}(ho:o.op= .call { callee:=.builtin .len,args:= #[x],argTypes:= #[t] })(hd:o.dst=some d)(an:d<C.N)(h:Qv C ρ fr hp a.tmps w)
  (hx:Qj C ρ hp w px (a.eval x)) {e:TypeId} (he:C.P.underlying t=some (.slice e)) (hv:lH px d fr hp K):Q5 C ρ o a w K:=by
 have key:∀ad n cap,a.eval x= .slice ad n cap->K (ae fr d (.int .i64 n)) hp->Q5 C ρ o a w K:=fun ad n cap ex hK=>
  Q5.mk hd an h (wZ ho (fun w'=>by simp[builtin,Builtin.len_,ex,Kak,fk he,goInt])) (Qj.mkInt _ _) hK
 unfold lH at hv;split at hv
 ·exact key _ _ _ hx.rK hv
 ·obtain⟨ad,cap,ex,_⟩:=hx.M0;exact key _ _ _ ex hv
 ·obtain⟨ad,cap,ex⟩:=hx.Gc;exact key _ _ _ ex hv
 ·obtain⟨ad,cap,ex⟩:=hx.adQ;exact key _ _ _ ex hv
 ·exact hv.elim
theorem Qj.zW{s:ByteArray}{v:Value}(h:Qj C ρ hp w (.str s) v):v= .string s:=by cases h;rfl
theorem JQ{P:Program}{t:TypeId}(h:sP P t=true):P.underlying t=some .string:=by
 unfold sP at h;split at h
 ·assumption
 ·cases h
theorem N1{o:Oper}{x:Operand}{t:TypeId}{px:PV}{d:Nat}(ho:o.op= .call { callee:=.builtin .len,args:= #[x],argTypes:= #[t] })(hd:o.dst=some d)(an:d<C.N)(h:Qv C ρ fr hp a.tmps w)
  (hx:Qj C ρ hp w px (a.eval x)) (hs:sP C.P t=true) (hv:qC px d fr hp K):Q5 C ρ o a w K:=by
 have hu:=JQ hs;unfold qC at hv;split at hv
 ·rename_i s;have ex:=hx.zW;exact Q5.mk hd an h (wZ ho (fun w'=>by simp[builtin,Builtin.len_,ex,Kak,fk hu,goInt])) (Qj.mkInt _ _) hv
 ·exact hv.elim
theorem Qyn{P:Program}{T:TypeId}(hu:P.underlying T=some .string)(n m:ByteArray)(w:World):(binOp .eql T (.string n) (.string m)).run P w= .ok (.bool (n==m)) w:=by simp[binOp,Op.stringOp,beq_toListBytes]
theorem Qyo{P:Program}{T:TypeId}(hu:P.underlying T=some .string)(n m:ByteArray)(w:World):(binOp .neq T (.string n) (.string m)).run P w= .ok (.bool (!(n==m))) w:=by simp[binOp,Op.stringOp,bne,beq_toListBytes]
theorem Ja(x y:ByteArray):(x==y)=decide (x=y):=by
 by_cases h:x=y
 ·subst h;rw[decide_eq_true rfl];show(x.data==x.data)=true;simp
 ·rw[decide_eq_false h];have h':x.data≠y.data:=fun e=>h (by cases x;cases y;simp_all);show(x.data==y.data)=false;simpa using h'
theorem N2{o:Oper}{op:BinOp}{ng:Bool}{T T2:TypeId}{x y:Operand}{px py:PV}{d:Nat}(ho:o.op= .binOp op T x y T2)(hop:wQ op=some ng)(hs:sP C.P T=true)(hd:o.dst=some d)(an:d<C.N)(h:Qv C ρ fr hp a.tmps w)
  (hx:Qj C ρ hp w px (a.eval x)) (hy:Qj C ρ hp w py (a.eval y)) (hv:nq ng px py d fr hp K):Q5 C ρ o a w K:=by
 have hu:=JQ hs;unfold nq at hv;split at hv
 ·rename_i n m;have ex:=hx.zW;have ey:=hy.zW;have jt:∀w',(eqGuard op T x y (.string n) (.string m)).run C.P w'= .ok () w':=by intro w';unfold eqGuard;cases op<;>rfl
  cases op<;>first|(cases hop;done)|skip
  ·cases hop;exact Q5.mk hd an h (lZ ho ex ey jt (Qyn hu n m)) (Qj.pT _) (by rw[Ja];simpa using hv)
  ·cases hop;exact Q5.mk hd an h (lZ ho ex ey jt (Qyo hu n m)) (Qj.pT _) (by rw[Ja];simpa using hv)
 ·exact hv.elim
theorem QG{o:Oper}{x y:Operand}{ts:Array TypeId}{px py:PV}{d:Nat}(ho:o.op= .call { callee:=.builtin .max,args:= #[x,y],argTypes:=ts })(hd:o.dst=some d)(an:d<C.N)(h:Qv C ρ fr hp a.tmps w)
  (hx:Qj C ρ hp w px (a.eval x)) (hy:Qj C ρ hp w py (a.eval y)) (hv:rI px py d fr hp K):Q5 C ρ o a w K:=by
 unfold rI at hv;split at hv
 ·rename_i k n k' m;have ex:=hx.gO;have ey:=hy.gO;refine Q5.mk hd an h (wZ ho (fun w'=>?_)) (Qj.mkInt _ _) hv;have e:(if m>n then m else n)=max n m:=by omega
  simp[builtin,Builtin.max_,ex,ey,Builtin.max2,e]
 ·exact hv.elim
theorem PN{o:Oper}{x y:Operand}{ts:Array TypeId}{px py:PV}{d:Nat}(ho:o.op= .call { callee:=.builtin .min,args:= #[x,y],argTypes:=ts })(hd:o.dst=some d)(an:d<C.N)(h:Qv C ρ fr hp a.tmps w)
  (hx:Qj C ρ hp w px (a.eval x)) (hy:Qj C ρ hp w py (a.eval y)) (hv:rG px py d fr hp K):Q5 C ρ o a w K:=by
 unfold rG at hv;split at hv
 ·rename_i k n k' m;have ex:=hx.gO;have ey:=hy.gO;refine Q5.mk hd an h (wZ ho (fun w'=>?_)) (Qj.mkInt _ _) hv;have e:(if m<n then m else n)=min n m:=by omega
  simp[builtin,Builtin.min_,ex,ey,Builtin.min2,e]
 ·exact hv.elim
theorem PO{o:Oper}{op:UnOp}{T:TypeId}{x:Operand}{px:PV}{d:Nat}(ho:o.op= .unOp op T x)(hd:o.dst=some d)(an:d<C.N)(h:Qv C ρ fr hp a.tmps w)
  (hx:Qj C ρ hp w px (a.eval x)) (hv:pW op px d fr hp K):Q5 C ρ o a w K:=by
 unfold pW at hv;split at hv
 ·have ex:=hx.sY;refine Q5.mk hd an h (fun w'=>?_) (Qj.pT _) hv;unfold execOp;simp only[ho,ex];rfl
 ·have ex:=hx.gO;refine Q5.mk hd an h (fun w'=>?_) (Qj.mkInt _ _) hv;unfold execOp;simp only[ho,ex];rfl
 ·exact hv.elim
theorem No{o:Oper}{S T:TypeId}{x:Operand}{px:PV}{d:Nat}{ds:TypeDesc}{k:IntKind}(ho:o.op= .convert S T x)(hd:o.dst=some d)(an:d<C.N)(h:Qv C ρ fr hp a.tmps w)
  (hS:C.P.underlying S=some ds) (hT:C.P.underlying T=some (.int k)) (hx:Qj C ρ hp w px (a.eval x)) (hv:qx k px d fr hp K):Q5 C ρ o a w K:=by
 unfold qx at hv;split at hv
 ·have ex:=hx.gO;refine Q5.mk hd an h (fun w'=>?_) (Qj.mkInt _ _) hv;unfold execOp;simp only[ho,ex,Kak,convert,fk hS,fk hT,Kai];rfl
 ·exact hv.elim
theorem N3{o:Oper}{i:Nat}{x:Operand}{px:PV}{d:Nat}(ho:o.op= .extract x i)(hd:o.dst=some d)(an:d<C.N)(h:Qv C ρ fr hp a.tmps w)
  (hx:Qj C ρ hp w px (a.eval x)) (hv:jf px i d fr hp K):Q5 C ρ o a w K:=by
 unfold jf at hv;split at hv
 ·rename_i ps;split at hv
  ·rename_i p ew;obtain⟨cQ,hv⟩:=hv;obtain⟨vs,ex,h1,h2⟩:=hx;have hi:i<vs.size:=by rw[h1];exact(Kad.1 ew).1
   have hr:=h2 i p ew;have hg:vs.getD i undef=vs[i]:=by simp[Array.getD,hi]
   rw[hg]at hr;refine Q5.mk hd an h (fun w'=>?_) (Qj.iT hr) hv;unfold execOp;simp only[ho,ex,Kak,Instr.extract,Kbk hi];rfl
  ·exact hv.elim
 ·rename_i ps;split at hv
  ·rename_i p ew;obtain⟨vs,ex,h1,h2⟩:=hx;have hi:i<vs.size:=by rw[h1];exact(Kad.1 ew).1
   have hr:=h2 i p ew;have hg:vs.getD i undef=vs[i]:=by simp[Array.getD,hi]
   rw[hg]at hr;refine Q5.mk hd an h (fun w'=>?_) (Qj.MQ hr) hv;unfold execOp;simp only[ho,ex,Kak,Instr.extract,Kbk hi];rfl
  ·exact hv.elim
 ·rename_i cs q;obtain⟨vs,u,ex,h1,h2,h3⟩:=hx;split at hv
  ·refine Q5.mk (p:=.aH cs) (v:=.agg vs) hd an h (fun w'=>?_) ⟨vs,rfl,h1,h2⟩ hv;unfold execOp;simp only[ho,ex,Kak,Instr.extract];rfl
  ·refine Q5.mk (v:=u) hd an h (fun w'=>?_) (Qj.iT h3) hv;unfold execOp;simp only[ho,ex,Kak,Instr.extract];rfl
  ·exact hv.elim
 ·exact hv.elim
theorem JR{o:Oper}{x:Operand}{px:PV}{d:Nat}(ho:o.op= .move x∨o.op= .assign x)(hd:o.dst=some d)(an:d<C.N)(h:Qv C ρ fr hp a.tmps w)
  (hx:Qj C ρ hp w px (a.eval x)) (hv:K (ae fr d px) hp):Q5 C ρ o a w K:=by
 refine Q5.mk hd an h (fun w'=>?_) hx hv;rcases ho with ho|ho<;>(unfold execOp;simp only[ho];rfl)
theorem Np{o:Oper}{c x y:Operand}{pc px py:PV}{d:Nat}(ho:o.op= .pick c x y)(hd:o.dst=some d)(an:d<C.N)(h:Qv C ρ fr hp a.tmps w)
  (hc:Qj C ρ hp w pc (a.eval c)) (hx:Qj C ρ hp w px (a.eval x)) (hy:Qj C ρ hp w py (a.eval y))
  (hv:nW pc px py d fr hp K):Q5 C ρ o a w K:=by
 obtain⟨t,rfl,hv⟩:∃t,pc= .bool t/\((t=true->K (ae fr d px) hp)/\(t=false->K (ae fr d py) hp)):=by
  cases pc with
  |bool t=>exact⟨t,rfl,hv⟩
  |_=>exact hv.elim
 have ec:=hc.sY;cases t with
 |true=>refine Q5.mk hd an h (fun w'=>?_) hx (hv.1 rfl);unfold execOp;simp only[ho,ec];rfl
 |false=>refine Q5.mk hd an h (fun w'=>?_) hy (hv.2 rfl);unfold execOp;simp only[ho,ec];rfl
theorem wX{P:Program}{T:TypeId}{k0:IntKind}(hu:P.underlying T=some (.int k0))(d:Nat)(k:IntKind)(n m:Int)(w:World):(Op.equalIn (d+1) T (.int k n) (.int k m)).run P w= .ok (n==m) w:=by unfold Op.equalIn;rw[Kak,fk hu,Kai];simp
theorem ue{P:Program}{t:TypeId}{cs:Array Value}{off:Nat}{v:Value}(ha:je P t=some false)(hv:cs[off]? =some v)(w:World):(part t cs off).run P w= .ok v w:=by unfold part;rw[Kak,ud ha,Kai];simp[hv]
theorem ZR {P : Program} {T : TypeId} {f g : Field} (hu : P.underlying T = some (.struct #[f, g])) (h1 : f.name ≠ "_") (h2 : g.name ≠ "_") (o1 : f.offset = 0) (o2 : g.offset = 1) {k1 k2 : IntKind} (t1 : P.underlying f.type = some (.int k1)) (t2 : P.underlying g.type = some (.int k2))
  (hs:P.stoodInHeld T=false) (k l:IntKind) (x y x' y':Int) (w:World):(Op.equal T (.agg #[.int k x,.int l y]) (.agg #[.int k x',.int l y'])).run P w= .ok (x==x'&&y==y') w:=by
 have a1:je P f.type=some false:=by simp[je,t1]
 have a2:je P g.type=some false:=by simp[je,t2]
 show(Op.equalIn (9998+1+1) T _ _).run P w=_;rw[Op.equalIn];rw[Kak,fk hu,Kai];have hp:Sem.run P program w= .ok P w:=rfl;rw[Kak,hp,Kai,hs];simp only[Kbf,if_false];rw[<-Array.forIn_toList];simp only[List.forIn_cons,List.forIn_nil,Kak,o1,o2,h1,h2,ne_eq,not_false_eq_true,if_true,ue a1 (show(#[Value.int k x,Value.int l y])[0]? =some _ from rfl),ue a1 (show(#[Value.int k x',Value.int l y'])[0]? =some _ from rfl),
  ue a2 (show(#[Value.int k x,Value.int l y])[1]? =some _ from rfl),ue a2 (show(#[Value.int k x',Value.int l y'])[1]? =some _ from rfl),wX t1,wX t2,Kai]
 have q1:∀n m w,(Op.equalIn 9999 f.type (.int k n) (.int k m)).run P w= .ok (n==m) w:=fun n m w=>wX t1 9998 k n m w;have q2:∀n m w,(Op.equalIn 9999 g.type (.int l n) (.int l m)).run P w= .ok (n==m) w:=fun n m w=>wX t2 9998 l n m w;have p2:∀u v w,(part g.type #[u,v] 1).run P w= .ok v w:=fun u v w=>ue a2 (show(#[u,v])[1]? =some _ from rfl) w;by_cases e1:x=x'<;>by_cases e2:y=y'<;>simp[e1,e2,q1,q2,p2]
theorem PR{P:Program}{T:TypeId}{b:Bool}{X Y:Array Value}(h:∀w,(Op.equal T (.agg X) (.agg Y)).run P w= .ok b w)(w:World):(binOp .eql T (.agg X) (.agg Y)).run P w= .ok (.bool b) w:=by show(do pure (Value.bool (<-Op.equal T (.agg X) (.agg Y))):Sem Value).run P w=_;rw[Kak,h,Kai];rfl
theorem PS{P:Program}{T:TypeId}{b:Bool}{X Y:Array Value}(h:∀w,(Op.equal T (.agg X) (.agg Y)).run P w= .ok b w)(w:World):(binOp .neq T (.agg X) (.agg Y)).run P w= .ok (.bool !b) w:=by show(do pure (Value.bool (!(<-Op.equal T (.agg X) (.agg Y)))):Sem Value).run P w=_;rw[Kak,h,Kai];rfl
theorem IE {P : Program} {T:TypeId} {op:BinOp} {x y:Operand} {X Y:Array Value} (h:P.eqGuardType P.depth T=false) (w:World):(eqGuard op T x y (.agg X) (.agg Y)).run P w= .ok () w:=by
  have hp:Sem.run P program w= .ok P w:=rfl
  have hg : (do if !(<-program).eqGuardType (<-program).depth T then return
                if <- Op.eqGuardIn Op.maxDepth T (.agg X) (.agg Y) then unsupported (.noEntry "binop/eql: two nil values of an interface type with methods, in a part of a struct or an array") : Sem Unit).run P w = .ok () w := by
    rw[Kak,hp,Kai,Kak,hp,Kai,h];rfl
  cases op<;>first|rfl|exact hg
theorem Vh {P : Program} {T : TypeId} (h : zV P T = true) : ∃ f g k1 k2, P.underlying T = some (.struct #[f, g]) /\ f.name ≠ "_" /\ g.name ≠ "_" /\ f.offset = 0 /\ g.offset = 1 /\ P.underlying f.type = some (.int k1) /\ P.underlying g.type = some (.int k2) /\ P.stoodInHeld T = false /\ P.eqGuardType P.depth T = false := by
 unfold zV at h;split at h
 ·rename_i fs hu;split at h
  ·rename_i f g kO;simp only[Ka1,bne_iff_ne,ne_eq,beq_iff_eq,Bool.not_eq_true']at h;obtain⟨⟨⟨⟨⟨⟨⟨h1,h2⟩,h3⟩,h4⟩,h5⟩,h6⟩,h7⟩,h8⟩:=h;have:fs= #[f,g]:=by rw[<-Array.toArray_toList (xs:=fs),kO]
   subst this;cases u1:P.underlying f.type with
   |none=>rw[u1]at h5;cases h5
   | some t1=>cases u2:P.underlying g.type with
    |none=>rw[u2]at h6;cases h6
    |some t2=>
     rw[u1]at h5;rw[u2]at h6;cases t1<;>first|(cases h5;done)|skip
     cases t2<;>first|(cases h6;done)|skip
     exact⟨f,g,_,_,hu,h1,h2,h3,h4,u1,u2,h7,h8⟩
  ·cases h
 ·cases h
theorem JS{cs:List PV}{v:Value}{p q:PV}(ia:cs=[p,q])(h:Qj C ρ hp w (.agg cs) v):∃x y,v= .agg #[x,y]/\Qo w (aB C ρ hp) p x/\Qo w (aB C ρ hp) q y:=by
 subst ia;obtain⟨vs,rfl,h1,h2⟩:=h;have hs:vs.size=2:=h1;refine⟨vs.getD 0 undef,vs.getD 1 undef,?_,h2 0 p rfl,h2 1 q rfl⟩;congr 1;apply Array.ext
 ·simp[hs]
 ·intro i hi aD;have:i=0∨i=1:=by simp at aD;omega
  rcases this with rfl|rfl<;>simp[Array.getD,hs]
theorem N4{o:Oper}{op:BinOp}{ng:Bool}{T T2:TypeId}{x y:Operand}{px py:PV}{d:Nat}(ho:o.op= .binOp op T x y T2)(hop:wQ op=some ng)(dH:zV C.P T=true)(hd:o.dst=some d)(an:d<C.N)(h:Qv C ρ fr hp a.tmps w)
  (hx:Qj C ρ hp w px (a.eval x)) (hy:Qj C ρ hp w py (a.eval y)) (hv:nn ng px py d fr hp K):Q5 C ρ o a w K:=by
 obtain⟨f,g,k1,k2,hu,h1,h2,h3,h4,u1,u2,h7,h8⟩:=Vh dH;unfold nn at hv;split at hv
 ·rename_i k n l m k' n' l' m';obtain⟨rfl,rfl,hv⟩:=hv;obtain⟨a1,b1,ex,r1,r2⟩:=JS rfl hx;obtain⟨a2,b2,ey,r3,r4⟩:=JS rfl hy;cases r1;cases r2;cases r3;cases r4;have heq:∀w,(Op.equal T (.agg #[.int k n,.int l m]) (.agg #[.int k n',.int l m'])).run C.P w= .ok (n==n'&&m==m') w:=fun w=>ZR hu h1 h2 h3 h4 u1 u2 h7 k l n m n' m' w;have e:(n==n'&&m==m')=(decide (n=n')&&decide (m=m')):=rfl;rw[e]at heq;cases op<;>first|(cases hop;done)|skip
  ·cases hop;exact Q5.mk hd an h (lZ ho ex ey (IE h8) (PR heq)) (Qj.pT _) (by simpa using hv)
  ·cases hop;exact Q5.mk hd an h (lZ ho ex ey (IE h8) (PS heq)) (Qj.pT _) (by simpa using hv)
 ·exact hv.elim
end Go.FW
namespace Go.FW
open Go
variable {C : Ctx} {ρ : Nat -> Option Nat} {fr : Fr} {hp : HP} {w : World} {a : Act} {K : Qg}
theorem Qyp{l:List PV}{n:Nat}(h:n<l.length):l[n]? =some (l[n]'h):=Kaf h
theorem AT{P:Program}{t e:TypeId}{n:Nat}{ad:Addr}{len cap:Nat}{k:IntKind}{i:Int}(hu:P.underlying t=some (.slice e))(hn:dh P e=some n)(h0:0<=i)(h1:i<len)(w:World):
  (Instr.indexAt t (.slice (some ad) len cap) (.int k i)).run P w= .ok (.pointer (some (ad.add (i.toNat*n)))) w:=by
 have h2:0<=i/\i<len:=⟨h0,h1⟩
 unfold Instr.indexAt;simp only[asIntOf,Kak,KaN,Kai,fk hu,if_pos h2,iw hn]
theorem HD{P:Program}{t e:TypeId}{n len:Nat}{ad:Addr}{k:IntKind}{i:Int}(hu:P.underlying t=some (.array len e))(hn:dh P e=some n)(h0:0<=i)(h1:i<len)(w:World):
  (Instr.indexAt t (.pointer (some ad)) (.int k i)).run P w= .ok (.pointer (some (ad.add (i.toNat*n)))) w:=by
 have h2:0<=i/\i<len:=⟨h0,h1⟩
 unfold Instr.indexAt;simp only[asIntOf,Kak,KaN,Kai,fk hu,Instr.sureAddr,if_pos h2,iw hn]
theorem Qj.tC{β i o:Nat}{v:Value}(h:Qj C ρ hp w (.mp β i o) v):∃b hb,ρ β=some b/\hp β=some hb/\v= .pointer (some ⟨b,i*hb.e+o,none⟩):=h
theorem Qj.Gb{β i o b:Nat}{hb:HB}(h1:ρ β=some b)(h2:hp β=some hb):Qj C ρ hp w (.mp β i o) (.pointer (some ⟨b,i*hb.e+o,none⟩)):=⟨b,hb,h1,h2,rfl⟩
theorem N5{o:Oper}{t e:TypeId}{n:Nat}{x i:Operand}{px pi:PV}{d:Nat}(ho:o.op= .indexAddr t x i)(hd:o.dst=some d)(an:d<C.N)(h:Qv C ρ fr hp a.tmps w)
  (hu:C.P.underlying t=some (.slice e)) (hn:dh C.P e=some n) (hx:Qj C ρ hp w px (a.eval x)) (hi:Qj C ρ hp w pi (a.eval i)) (hv:aK n px pi d fr hp K):Q5 C ρ o a w K:=by
 unfold aK at hv;split at hv
 ·rename_i e' xs k m;obtain⟨rfl,h0,h1,hK⟩:=hv;have ei:=hi.gO;have hlen:m<xs.length:=by omega
  generalize ev:a.eval x=vx at hx;cases hx with
  |gS=>simp at h1
  |sl _ _ b off cap vs hX hb hl hc he lb hr=>
   have kj:=Qyp h1;have dY:=he _ _ kj;refine Q5.mk hd an h (v:=.pointer (some ⟨b,off+m.toNat*n,none⟩)) (fun w'=>?_) ?_ hK
   ·unfold execOp;simp only[ho,ei,ev,Kak,AT hu hn h0 hlen,Kai,KbC];rfl
   ·exact Qo.pt _ b _ (vs m.toNat) hX hb (fun j hj=>lb m.toNat h1 j (by omega)) (fun j y hy=>hr m.toNat _ kj j y hy)
 ·rename_i β o' m k n';obtain⟨h0,h1,h2,hK⟩:=hv;have ei:=hi.gO;obtain⟨hb,g1,g2,⟨g3,_,g5,_⟩|⟨b,cap,g3,g4,g5,g6⟩⟩:=hx
  ·omega
  ·rw[g1]at h2;simp only[KbN,Kar]at h2;subst h2;have hm:n'<m:=by omega
   refine Q5.mk hd an h (fun w'=>?_) (Qj.Gb g3 g1) hK;unfold execOp;simp only[ho,ei,g4,Kak,AT hu hn h0 hm,Kai,KbC,KaM,Kaz];rfl
 ·rename_i γ o' m k n';obtain⟨h0,h1,h2,hK⟩:=hv;have ei:=hi.gO;obtain⟨hB,hb,b,cap,g1,g3,g4,g5,g6,g7⟩:=hx;rw[g1]at h2;simp only[KbN,Kar]at h2;subst h2;have hm:n'<m:=by omega
  refine Q5.mk hd an h (p:=.np γ (o'+n'.toNat) 0) (fun w'=>?_) (show cg C ρ hp w (.np γ (o'+n'.toNat) 0) _ from⟨hB,b,hb,g3,g1,rfl⟩) hK;unfold execOp;simp only[ho,ei,g4,Kak,AT hu hn h0 hm,Kai,KbC,KaM,Kaz];rfl
 ·exact hv.elim
theorem Qo.MU{X:Nat->Prop}{cs:List PV}{b off k:Nat}(h:Qo w X (.pt cs) (.pointer (some ⟨b,off,none⟩))):Qo w X (.pt (cs.drop k)) (.pointer (some ⟨b,off+k,none⟩)):=by
 cases h with
 |pt _ _ _ vs hX hb hv hr=>
  refine Qo.pt _ b _ (fun j=>vs (k+j)) hX hb (fun j hj=>?_) (fun j y hy=>?_)
  ·have:=hv (k+j) (by simp at hj;omega);rwa[<-Nat.add_assoc]at this
  ·rw[KaR]at hy;exact hr _ _ hy
theorem Qj.zR{cs:List PV}{v:Value}(h:Qj C ρ hp w (.pt cs) v):∃b off,v= .pointer (some ⟨b,off,none⟩)/\Qo w (aB C ρ hp) (.pt cs) (.pointer (some ⟨b,off,none⟩)):=by
 have h':Qo w (aB C ρ hp) (.pt cs) v:=h;cases h' with
 |pt _ b off vs hX hb hv hr=>exact⟨b,off,rfl,.pt _ b off vs hX hb hv hr⟩
theorem Nq{o:Oper}{t e:TypeId}{n len:Nat}{x i:Operand}{px pi:PV}{d:Nat}(ho:o.op= .indexAddr t x i)(hd:o.dst=some d)(an:d<C.N)(h:Qv C ρ fr hp a.tmps w)
  (hu:C.P.underlying t=some (.array len e)) (hn:dh C.P e=some n) (hx:Qj C ρ hp w px (a.eval x)) (hi:Qj C ρ hp w pi (a.eval i)) (hv:nd len n px pi d fr hp K):Q5 C ρ o a w K:=by
 unfold nd at hv;split at hv
 ·rename_i β j o' k m;obtain⟨h0,h1,hK⟩:=hv;have ei:=hi.gO;obtain⟨b,hb,g1,g2,g3⟩:=hx.tC;refine Q5.mk hd an h (fun w'=>?_) (Qj.Gb g1 g2) hK;unfold execOp;simp only[ho,ei,g3,Kak,HD hu hn h0 h1,Kai,KbC,KbL];rfl
 ·rename_i cs k m;obtain⟨h0,h1,h2,hK⟩:=hv;have ei:=hi.gO;obtain⟨b,off,ex,hp'⟩:=hx.zR;refine Q5.mk hd an h (p:=.pt (cs.drop (m.toNat*n))) (v:=.pointer (some ⟨b,off+m.toNat*n,none⟩)) (fun w'=>?_) hp'.MU hK;unfold execOp;simp only[ho,ei,ex,Kak,HD hu hn h0 h1,Kai,KbC];rfl
 ·exact hv.elim
theorem AW{P:Program}{t:TypeId}{fs:Array Field}{j:Nat}{f:Field}{n b off:Nat}(hu:P.underlying t=some (.struct fs))(hf:fs[j]? =some f)(hn:dh P f.type=some n)(h0:n≠0)(w:World):
  (Instr.fieldAt t (.pointer (some ⟨b,off,none⟩)) j).run P w= .ok (.pointer (some ⟨b,off+f.offset,none⟩)) w:=by
 unfold Instr.fieldAt;simp only[Kak,fk hu,Kai,hf,Instr.sureAddr,KaN,fieldPlace,iw hn,if_neg h0,KbC]
theorem Oy{o:Oper}{t:TypeId}{fs:Array Field}{j n:Nat}{f:Field}{x:Operand}{px:PV}{d:Nat}(ho:o.op= .fieldAddr t x j)(hd:o.dst=some d)(an:d<C.N)(h:Qv C ρ fr hp a.tmps w)
  (hu:C.P.underlying t=some (.struct fs)) (hf:fs[j]? =some f) (hn:dh C.P f.type=some n) (gJ:n≠0) (hx:Qj C ρ hp w px (a.eval x)) (hv:nr f.offset px d fr hp K):Q5 C ρ o a w K:=by
 unfold nr at hv;split at hv
 ·rename_i β i o';obtain⟨b,hb,g1,g2,g3⟩:=hx.tC;refine Q5.mk hd an h (fun w'=>?_) (Qj.Gb g1 g2) hv;unfold execOp;simp only[ho,g3,Kak,AW hu hf hn gJ,Kai,KbL];rfl
 ·rename_i γ i o';obtain⟨hB,b,hb,g1,g2,g3⟩:=hx.zO;refine Q5.mk hd an h (p:=.np γ i (o'+f.offset)) (fun w'=>?_) (show cg C ρ hp w (.np γ i (o'+f.offset)) _ from⟨hB,b,hb,g1,g2,rfl⟩) hv;unfold execOp;simp only[ho,g3,Kak,AW hu hf hn gJ,Kai,KbL];rfl
 ·rename_i cs;obtain⟨_,hK⟩:=hv;obtain⟨b,off,ex,hp'⟩:=hx.zR;refine Q5.mk hd an h (p:=.pt (cs.drop f.offset)) (v:=.pointer (some ⟨b,off+f.offset,none⟩)) (fun w'=>?_) hp'.MU hK;unfold execOp;simp only[ho,ex,Kak,AW hu hf hn gJ,Kai];rfl
 ·exact hv.elim
theorem rP(vs:Array Value)(off n j:Nat)(hj:j<n)(h:off+n<=vs.size):(vs.extract off (off+n)).getD j undef=vs.getD (off+j) undef:=by
 have h1:j<(vs.extract off (off+n)).size:=by simp;omega
 have h2:off+j<vs.size:=by omega
 simp only[KaD,Kbk h1,Kbk h2,Array.getElem_extract]
theorem uL{X:Nat->Prop}{ag:Bool}{n off:Nat}{x:PV}{vs:Array Value}(hs:vs.size=n)(hle:off+n<=x.cells.length)(h1:ag=false->n=1)
  (hr:∀j y,j<n->x.cells[off+j]? =some y->Qo w X y (vs.getD j undef)):bc w X (di ag n off x) (if ag then .agg vs else vs.getD 0 undef):=by
 cases ag with
 | true=>
  refine⟨vs,rfl,by simp[hs];omega,fun i y hy=>?_⟩;have hi:i<n:=by have:=(Kad.1 hy).1;simp at this;omega
  rw[Kax hi,KaR]at hy;exact hr i y hi hy
 | false=>
  have hn:=h1 rfl;subst hn;have an:off<x.cells.length:=by omega
  have e:x.cells[off+0]? =some (x.cells[off]):=by simp[Kaf an]
  have:=hr 0 _ (by omega) e;simp only[di,Kbf,if_false];have e2:(x.cells.drop off).headD .undef=x.cells[off]:=by rw[Kbx,Kb8,Kaf an];rfl
  rw[e2];exact bc.nI this
theorem Nr{o:Oper}{t:TypeId}{fs:Array Field}{j n:Nat}{ag:Bool}{f:Field}{x:Operand}{px:PV}{d:Nat}(ho:o.op= .field t x j)(hd:o.dst=some d)(an:d<C.N)(h:Qv C ρ fr hp a.tmps w)
  (hu:C.P.underlying t=some (.struct fs)) (hf:fs[j]? =some f) (hn:dh C.P f.type=some n) (fX:je C.P f.type=some ag) (hx:Qj C ρ hp w px (a.eval x)) (hv:nf f.offset n ag px d fr hp K):Q5 C ρ o a w K:=by
 unfold nf at hv;split at hv
 ·rename_i cs;obtain⟨h1,h2,hK⟩:=hv;obtain⟨vs,ex,g1,g2⟩:=hx;have hle:f.offset+n<=vs.size:=by omega
  have eA:=uL (X:=aB C ρ hp) (w:=w) (ag:=ag) (off:=f.offset) (x:=.agg cs) (vs:=vs.extract f.offset (f.offset+n)) (by simp;omega) h1 h2
   (fun j y hj hy=>by rw[rP vs _ _ _ hj hle];exact g2 _ y hy)
  refine Q5.mk hd an h (fun w'=>?_) (Qj.iT eA) hK;unfold execOp;simp only[ho,ex,Kak,Instr.field,fk hu,Kai,hf,asAgg,KaN,part,ud fX];cases ag with
  |true=>simp only[if_true,Kak,iw hn,Kai,KaN]
  |false=>
   have rj:=h2 rfl;subst rj;have iL:f.offset<vs.size:=by omega
   simp only[Kbf,if_false,Kbk iL,KaN,Kai];rw[rP vs _ _ 0 (by omega) hle];simp[Array.getD,iL]
 ·rename_i cs;obtain⟨h1,h2,hK⟩:=hv;obtain⟨vs,ex,g1,g2⟩:=hx;have hle:f.offset+n<=vs.size:=by omega
  have eA:=Cp (C:=C) (ρ:=ρ) (hp:=hp) (w:=w) (ag:=ag) (off:=f.offset) (x:=.aH cs) (vs:=vs.extract f.offset (f.offset+n)) (by simp;omega) h1 h2
   (fun j y hj hy=>by rw[rP vs _ _ _ hj hle];exact g2 _ y hy)
  refine Q5.mk hd an h (fun w'=>?_) eA hK;unfold execOp;simp only[ho,ex,Kak,Instr.field,fk hu,Kai,hf,asAgg,KaN,part,ud fX];cases ag with
  |true=>simp only[if_true,Kak,iw hn,Kai,KaN]
  |false=>
   have rj:=h2 rfl;subst rj;have iL:f.offset<vs.size:=by omega
   simp only[Kbf,if_false,Kbk iL,KaN,Kai];rw[rP vs _ _ 0 (by omega) hle];simp[Array.getD,iL]
 ·exact hv.elim
theorem OA{o:Oper}{t:TypeId}{x i:Operand}{px pi:PV}{d:Nat}(ho:o.op= .index t x i)(hd:o.dst=some d)(an:d<C.N)(h:Qv C ρ fr hp a.tmps w)
  (hu:C.P.underlying t=some .string) (hx:Qj C ρ hp w px (a.eval x)) (hi:Qj C ρ hp w pi (a.eval i)) (hv:o0 px pi d fr hp K):Q5 C ρ o a w K:=by
 unfold o0 at hv;split at hv
 ·rename_i s k m;obtain⟨h0,h1,hK⟩:=hv;have ei:=hi.gO;have ex:=hx.zW;have iL:m.toNat<s.size:=by omega
  have e0:s.get! m.toNat=s[m.toNat]'iL:=by simp[ByteArray.get!,getElem!_pos,iL];rfl
  have e1:(if 0<=m then s[m.toNat]? else none)=some (s.get! m.toNat):=by rw[if_pos h0,getElem?_pos s m.toNat iL,e0]
  refine Q5.mk hd an h (fun w'=>?_) (Qj.mkInt _ _) hK;unfold execOp;simp only[ho,ex,ei,Kak,Instr.index,asIntOf,fk hu,Kai,KaN,e1]
 ·exact hv.elim
theorem OB{o:Oper}{t e:TypeId}{len n:Nat}{ag:Bool}{x i:Operand}{px pi:PV}{d:Nat}(ho:o.op= .index t x i)(hd:o.dst=some d)(an:d<C.N)(h:Qv C ρ fr hp a.tmps w)
  (hu:C.P.underlying t=some (.array len e)) (hn:dh C.P e=some n) (fX:je C.P e=some ag) (hx:Qj C ρ hp w px (a.eval x)) (hi:Qj C ρ hp w pi (a.eval i)) (hv:sR len n ag px pi d fr hp K):Q5 C ρ o a w K:=by
 unfold sR at hv;split at hv
 ·rename_i cs k m;obtain⟨h0,h00,h1,h2,hK⟩:=hv;have ei:=hi.gO;obtain⟨vs,ex,g1,g2⟩:=hx;have hle:m.toNat*n+n<=vs.size:=by omega
  have vL:0<=m/\m<len:=⟨h0,h00⟩
  have eA:=uL (X:=aB C ρ hp) (w:=w) (ag:=ag) (off:=m.toNat*n) (x:=.agg cs) (vs:=vs.extract (m.toNat*n) (m.toNat*n+n)) (by simp;omega) h1 h2
   (fun j y hj hy=>by rw[rP vs _ _ _ hj hle];exact g2 _ y hy)
  refine Q5.mk hd an h (fun w'=>?_) (Qj.iT eA) hK;unfold execOp;simp only[ho,ex,ei,Kak,Instr.index,asIntOf,fk hu,Kai,KaN,if_pos vL,iw hn,part,ud fX];cases ag with
  |true=>simp only[if_true,Kak,iw hn,Kai,KaN]
  |false=>
   have rj:=h2 rfl;subst rj;have iL:m.toNat*1<vs.size:=by omega
   simp only[Kbf,if_false,Kbk iL,KaN,Kai];rw[rP vs _ _ 0 (by omega) hle];have rf:m.toNat<vs.size:=by omega
   simp[Array.getD,rf]
 ·exact hv.elim
end Go.FW
namespace Go.FW
open Go
variable {C : Ctx} {ρ : Nat -> Option Nat} {fr : Fr} {hp : HP} {w : World} {a : Act} {K : Qg}
def uT(C:Ctx)(ρ:Nat->Option Nat)(o:Oper)(a:Act)(w:World)(K:Qg):Prop:=
 ∃v b,b<w.heap.size/\(∀w',w'.heap[b]? =w.heap[b]? ->(execOp a.eval o).run C.P w'= .ok (.value v) w')/\∃aw hp',Qv C ρ aw hp' (a.put o.dst v).tmps w/\K aw hp'
theorem tP{P:Program}{t:TypeId}{n b off:Nat}{ag:Bool}{vs:Array Value}(hn:dh P t=some n)(fX:je P t=some ag)(h1:ag=false->n=1)(hs:vs.size=n)
  (w:World) (hc:∀j,j<n->w.cell? ⟨b,off+j,none⟩=some (vs.getD j undef)):
  (loadVar t ⟨b,off,none⟩).run P w= .ok (if ag then .agg vs else vs.getD 0 undef) w:=by
 unfold loadVar;simp only[Kak,ud fX,Kai];cases ag with
 | true=>
  have hl:=run_loadCells_list (P:=P) w ⟨b,off,none⟩ vs.toList (fun j v hj=>by
   have dq:j<vs.size:=by simpa using(Kad.1 hj).1
   rw[KbC,hc j (by omega),xg vs j v hj])
  simp only[KbY,hs]at hl;simp only[if_true,Kak,iw hn,Kai,hl,KaN]
 |false=>have rj:=h1 rfl;subst rj;have h0:=hc 0 (by omega);simp only[KaM]at h0;simp only[Kbf,if_false,run_load,h0]
theorem jM{i e o j n cap:Nat}(h1:i<cap)(h2:o+n<=e)(h3:j<n):i*e+o+j<cap*e:=by have:(i+1)*e<=cap*e:=Kam e h1;rw[Kaz,Nat.one_mul]at this;omega
theorem iu{w:World}{b o:Nat}{cur:Array Value}{ty:TypeId}(h:w.heap[b]? =some (.cells cur ty (0,0)))(ho:o<cur.size):w.cell? ⟨b,o,none⟩=some (cur.getD o undef):=by simp[World.cell?,h,ho,Array.getD]
theorem mV{n:Nat}{f:Nat->Value}{j:Nat}(hj:j<n):(Array.ofFn (n:=n) fun i=>f i.val).getD j undef=f j:=by simp[Array.getD,hj]
theorem PT{o:Oper}{t:TypeId}{n:Nat}{ag:Bool}{x:Operand}{px:PV}{d:Nat}(ho:o.op= .load t x)(hd:o.dst=some d)(an:d<C.N)(h:Qv C ρ fr hp a.tmps w)
  (hn:dh C.P t=some n) (fX:je C.P t=some ag) (hx:Qj C ρ hp w px (a.eval x)) (hv:bb n ag px d fr hp K):uT C ρ o a w K:=by
 have fin:∀(b off:Nat)(vs:Array Value)(p:PV),a.eval x= .pointer (some ⟨b,off,none⟩)->(ag=false->n=1)->b<w.heap.size->vs.size=n->
   (∀j,j<n->w.cell? ⟨b,off+j,none⟩=some (vs.getD j undef))->bc w (aB C ρ hp) p (if ag then .agg vs else vs.getD 0 undef)->K (ae fr d p) hp->uT C ρ o a w K:=by
  intro b off vs p ex h1 hb hs hc hr hK;refine⟨_,b,hb,fun w' lU=>?_,ae fr d p,hp,by rw[hd];exact h.ae (Qj.iT hr) an,hK⟩;have:=tP (P:=C.P) hn fX h1 hs w' (fun j hj=>by rw[qd lU];exact hc j hj);unfold execOp;simp only[ho,ex,Kak,Instr.loadAt,Instr.sureAddr,KaN,Kai,this]
 unfold bb at hv;split at hv
 ·rename_i β i o';split at hv
  ·rename_i hb aj;obtain⟨h1,h2,h3,hK⟩:=hv;obtain⟨b,cq,g1,g2,g3⟩:=hx.tC;rw[aj]at g2;cases g2;have aY:=h.own β hb aj;have aP:=aY.ca;rw[g1]at aP;obtain⟨_,iL,cur,cap,c1,c2,c3,c4,c5⟩:=aP;have eg:=Kaf h1;have dY:=(aY.len i _ eg).1;have cP:i<cap:=by omega
   have mF:∀j,j<n->i*hb.e+o'+j<cur.size:=fun j hj=>by rw[c2];exact jM cP h2 hj
   refine fin b (i*hb.e+o') (Array.ofFn (n:=n) fun j=>cur.getD (i*hb.e+o'+j.val) undef) _ g3 h3 iL (by simp) (fun j hj=>?_) ?_ hK
   ·rw[mV (f:=fun j=>cur.getD (i*hb.e+o'+j) undef) hj];exact iu c1 (mF j hj)
   ·refine uL (by simp) (by rw[dY];exact h2) h3 (fun j y hj hy=>?_);rw[mV (f:=fun j=>cur.getD (i*hb.e+o'+j) undef) hj,KbL];exact c5 i _ eg (o'+j) y hy
  ·exact hv.elim
 ·rename_i cs;obtain⟨h1,h3,hK⟩:=hv;obtain⟨b,off,ex,hpt⟩:=hx.zR;cases hpt with
  | pt _ _ _ vs hX hb ze hr=>
   refine fin b off (Array.ofFn (n:=n) fun j=>vs j.val) _ ex h3 hb (by simp) (fun j hj=>?_) ?_ hK
   ·rw[mV hj];exact ze j (by omega)
   ·refine uL (by simp) (by simpa[PV.cells]using h1) h3 (fun j y hj hy=>?_);rw[mV hj];exact hr j y (by simpa[PV.cells]using hy)
 ·rename_i β o' m;obtain⟨rfl,rfl,hK⟩:=hv;obtain⟨b,u,e1,e2,e3,e4,e5⟩:=hx;refine⟨_,b,e2,fun w' lU=>?_,ae fr d (.aq β o' m),hp,by rw[hd];exact h.ae (p:=.aq β o' m) (v:=u) e5 an,hK⟩;have:=tP (P:=C.P) (t:=t) (b:=b) (off:=0) (vs:= #[u]) hn fX (fun _=>rfl) rfl w' (fun j hj=>by
   obtain rfl:j=0:=by omega
   rw[qd lU];simpa using e4)
  unfold execOp;simp only[ho,e1,Kak,Instr.loadAt,Instr.sureAddr,KaN,Kai,this];rfl
 ·rename_i γ i o';split at hv
  ·rename_i aS e ty xs ah;obtain⟨rfl,h1,h2,h3,hK⟩:=hv;obtain⟨hB,b,hb,g1,g2,g3⟩:=hx.zO;have a9:=h.cd aS;rw[ah]at a9;obtain⟨_,qX,b',ao,cur,cap,q1,q2,q3,q4,q5,q6,q7,q8,q9,rL,oE⟩:=a9;rw[g1]at q1;cases q1;rw[g2]at q2;cases q2;rw[q4]at g3;have iL:b<w.heap.size:=(Kbc.1 q6).1;have eg:=Kaf h1;have dY:=rL i _ eg;have cP:i<cap:=by omega
   have mF:∀j,j<n->i*e+o'+j<cur.size:=fun j hj=>by rw[q7];exact jM cP h2 hj
   have ie:∀j,j<n->w.cell? ⟨b,i*e+o'+j,none⟩=some ((Array.ofFn (n:=n) fun j=>cur.getD (i*e+o'+j.val) undef).getD j undef):=fun j hj=>by rw[mV (f:=fun j=>cur.getD (i*e+o'+j) undef) hj];exact iu q6 (mF j hj)
   have eA:=Cp (C:=C) (ρ:=ρ) (hp:=hp) (w:=w) (ag:=ag) (n:=n) (off:=o') (x:=xs[i]) (vs:=Array.ofFn (n:=n) fun j=>cur.getD (i*e+o'+j.val) undef) (by simp) (by rw[dY];exact h2) h3 (fun j y hj hy=>by rw[mV (f:=fun j=>cur.getD (i*e+o'+j) undef) hj,KbL];exact oE i _ eg (o'+j) y hy);refine⟨_,b,iL,fun w' lU=>?_,ae fr d _,hp,by rw[hd];exact h.ae eA an,hK⟩;have:=tP (P:=C.P) (b:=b) (off:=i*e+o') (vs:=Array.ofFn (n:=n) fun j=>cur.getD (i*e+o'+j.val) undef) hn fX h3 (by simp) w' (fun j hj=>by rw[qd lU];exact ie j hj);unfold execOp;simp only[ho,g3,Kak,Instr.loadAt,Instr.sureAddr,KaN,Kai,this]
  ·exact hv.elim
 ·exact hv.elim
theorem Ie{tmps:Array Value}(h:Qv C ρ fr hp tmps w){β b:Nat}{hb:HB}{l:List Nat}(_hB:aI β=false)(aj:hp β=some hb)(hl:β∈l)(aZ:ρ β=some b):¬aB C ρ (bw hp l) b:=by
 have aP:=(h.own β hb aj).ca;rw[aZ]at aP;rintro(hx|⟨γ,hg,h1,h2,h3⟩)
 ·exact Ctx.yN aP.1 (sC _hB) hx
 ·obtain⟨lO,g1,_,_,_,_,g6⟩:=tT h1;have:=h.inj γ β b (by simp[g1]) (by simp[aj]) h3 aZ;subst this;exact g6 h2 hl
theorem xI{tmps:Array Value}(h:Qv C ρ fr hp tmps w){p:PV}{v:Value}{l:List Nat}(hr:cg C ρ hp w p v)(hl:∀β∈p.bg,β∈l)(hu:bR hp p≠ .undef):Qo w (aB C ρ (bw hp l)) (bR hp p) v:=by
 cases p with
 | mp β i o=>
  obtain⟨b,hb,g1,g2,rfl⟩:=hr;have rA:=hl β (by simp[PV.bg]);have aY:=h.own β hb g2;have aP:=aY.ca;rw[g1]at aP;obtain⟨_,an,cur,cap,c1,c2,c3,c4,c5⟩:=aP;have hB:aI β=false:=by
   cases hq:aI β with
   |false=>rfl
   |true=>simp[bR,hq]at hu
  simp only[bR,g2,hB]at hu⊢;cases hx:hb.xs[i]? with
  |none=>simp[hx]at hu
  | some x=>
   simp only[Kbf,if_false];have hi:i<hb.xs.length:=(Kad.1 hx).1;have dY:=(aY.len i x hx).1;refine Qo.pt _ b _ (fun j=>cur.getD (i*hb.e+o+j) undef) (Ie h hB g2 rA g1) an (fun j hj=>?_) (fun j y hy=>?_)
   ·have dq:o+(j+1)<=hb.e:=by simp[dY]at hj;omega
    exact iu c1 (by rw[c2];exact jM (by omega) dq (Kcc j))
   ·rw[KaR]at hy;rw[KbL];exact(c5 i x hx (o+j) y hy).freeze
 | aq β o n=>
  obtain⟨hb,g1,g2,g3⟩:=hr;have hB:aI β=false:=by
   cases hq:aI β with
   |false=>rfl
   |true=>simp[bR,hq]at hu
  simp only[bR,g1,hB];rcases g3 with⟨g3,rfl,rfl,rfl⟩|⟨b,cap,g3,rfl,g5,g6⟩
  ·simp only[Kb3];exact .gS _ _ _ (KbG _)
  ·have rA:=hl β (by simp[PV.bg]);have aY:=h.own β hb g1;have aP:=aY.ca;rw[g3]at aP;obtain⟨_,an,cur,dx,c1,c2,c3,c4,c5⟩:=aP;obtain⟨cur',ty',d1,d2⟩:=g5;rw[c1]at d1;cases d1;have fC:o+cap=dx:=by rw[c2]at d2;exact(Kbr aY.gF d2).symm
   subst fC;have hlen:((hb.xs.drop o).take n).length=n:=by simp;omega
   have dz:∀(i:Nat)(x:PV),((hb.xs.drop o).take n)[i]? =some x->i<n/\hb.xs[o+i]? =some x:=fun i x hx=>by
    have hi:i<n:=by have:=(Kad.1 hx).1;omega
    rw[Kax hi,KaR]at hx;exact⟨hi,hx⟩
   have:=Qo.sl (w:=w) (X:=aB C ρ (bw hp l)) hb.e ((hb.xs.drop o).take n) b (o*hb.e) cap (fun i j=>cur.getD ((o+i)*hb.e+j) undef) (Ie h hB g1 rA g3) an (by omega) (by omega)
    (fun i x hx=>(aY.len _ x (dz i x hx).2).1)
    (fun i hi j hj=>by rw[hlen]at hi;have:=jM (i:=o+i) (e:=hb.e) (o:=0) (j:=j) (n:=hb.e) (cap:=o+cap) (by omega) (by omega) hj;rw[KaM]at this;rw[show o*hb.e+i*hb.e+j=(o+i)*hb.e+j by rw[Kaz]];exact iu c1 (by rw[c2];exact this))
    (fun i x hx j y hy=>(c5 _ x (dz i x hx).2 j y hy).freeze)
   rwa[hlen]at this
 |undef=>simp[bR]at hu
 |rb=>simp[bR]at hu
 |aE=>simp[bR]at hu
 |np=>simp[bR]at hu
 |aH=>simp[bR]at hu
 |dk=>simp[bR]at hu
 |cm=>simp[bR]at hu
 |aC=>simp[bR]at hu
 |_=>exact Qo.freeze hr
theorem KY{p:PV}(h:p.eY=true):p≠ .undef:=by cases p<;>simp[PV.eY]at h⊢
theorem Jb{p:PV}(h:p.aA=true):p≠ .undef:=by cases p<;>simp[PV.aA]at h⊢
theorem m8{tmps:Array Value}(h:Qv C ρ fr hp tmps w){p:PV}{v:Value}{l:List Nat}(hr:Qj C ρ hp w p v)(hl:∀β∈p.refs,β∈l)(hd:(Qy hp p).aA=true):bc w (aB C ρ (bw hp l)) (Qy hp p) v:=by
 cases p with
 | fn f first cap=>
  obtain⟨fv,cv,rfl,h1,h2,h3,h4⟩:=hr;simp only[Qy,PV.aA,Ka1,Kaw,KaL,forall_exists_index,and_imp,forall_apply_eq_imp_iff₂]at hd;refine Qo.fn f _ _ fv cv (by simp[h1]) (by simp[h2]) (fun i x hx=>?_) (fun i x hx=>?_)
  ·simp only[Kap,Kaa]at hx;obtain⟨y,hy,rfl⟩:=hx;exact xI h (h3 i y hy) (fun β aj=>hl β (AS hy β aj)) (KY (hd.1 y (Kah hy)))
  ·simp only[Kap,Kaa]at hx;obtain⟨y,hy,rfl⟩:=hx;exact xI h (h4 i y hy) (fun β aj=>hl β (AV hy β aj)) (KY (hd.2 y (Kah hy)))
 |mp β i o=>exact bc.nI (xI (p:=.mp β i o) h hr hl (Jb hd))
 |aq β o n=>exact bc.nI (xI (p:=.aq β o n) h hr hl (Jb hd))
 |undef=>simp[Qy,bR,PV.aA]at hd
 |rb=>simp[Qy,bR,PV.aA]at hd
 |aE=>simp[Qy,bR,PV.aA]at hd
 |np=>simp[Qy,bR,PV.aA]at hd
 |aH=>simp[Qy,bR,PV.aA]at hd
 |dk=>simp[Qy,bR,PV.aA]at hd
 |cm=>simp[Qy,bR,PV.aA]at hd
 |aC=>simp[Qy,bR,PV.aA]at hd
 |aO ps=>simp[Qy,bR,PV.aA]at hd
 |agg cs=>exact bc.mono (p:=.agg cs) hr (fun _ _ _=>rfl) (fun _ _ hn hx=>hn (Bt hx)) (Kag _)
 |_=>exact Qo.freeze hr
end Go.FW
namespace Go.FW
open Go
variable {C : Ctx} {ρ : Nat -> Option Nat} {fr : Fr} {hp : HP} {w : World} {a : Act} {K : Qg}
theorem oL{x:Option Operand}{y:Option aF}{Lk n:Int}(h:Qv C ρ fr hp a.tmps w)(ho:kI x=some y)(hb:fl Lk (y.map (ev fr))=some n):
  (x=none/\y=none/\n=Lk)∨∃z k,x=some z/\a.eval z= .int k n/\y.isSome=true:=by
 cases x with
 |none=>simp[kI]at ho;subst ho;simp[fl]at hb;exact .inl ⟨rfl,rfl,hb.symm⟩
 | some z=>
  simp only[kI,Kaa]at ho;obtain⟨u,hu,rfl⟩:=ho;have hr:=bU h hu;simp only[KbN]at hb;cases hp':ev fr u with
  |int k m=>rw[hp']at hb hr;simp[fl]at hb;subst hb;exact .inr ⟨z,k,rfl,hr.gO,rfl⟩
  |_=>rw[hp']at hb;simp[fl]at hb
theorem pZ{P:Program}{k:IntKind}{i:Int}{y:Nat}{code:BoundsCode}(h0:0<=i)(h1:i<=y)(w:World):(Instr.sliceBound (.int k i) y code).run P w= .ok i.toNat w:=by
 unfold Instr.sliceBound;have:0<=i/\i<=y:=⟨h0,h1⟩
 simp only[asIntOf,Kak,KaN,Kai,if_pos this]
theorem xq{P:Program}{len cap:Nat}{lo hi mx:Option Operand}{L H M:Int}(eval:Operand->Value)
  (hL:(lo=none/\L=0)∨∃z k,lo=some z/\eval z= .int k L)
  (hH:(hi=none/\H=len)∨∃z k,hi=some z/\eval z= .int k H)
  (hM:(mx=none/\M=len)∨∃z k,mx=some z/\eval z= .int k M) (hm:mx.isSome=true->hi.isSome=true)
  (h0:0<=L) (h1:L<=H) (h2:H<=M) (h3:M<=len) (h4:len<=cap):
  ∃m,L.toNat<=m/\H.toNat<=m/\m<=cap/\(mx=none->m=cap)/\∀w,(Instr.sliceBounds true len cap (lo.map eval) (hi.map eval) (mx.map eval)).run P w= .ok (L.toNat,H.toNat,m) w:=by
 have c1:H<=(cap:Int):=by omega
 rcases hM with⟨rfl,hM⟩|⟨zm,km,rfl,hM⟩
 ·refine⟨cap,by omega,by omega,Kag _,fun _=>rfl,fun w=>?_⟩;rcases hH with⟨rfl,hH⟩|⟨zh,kh,rfl,hH⟩<;>rcases hL with⟨rfl,hL⟩|⟨zl,kl,rfl,hL⟩
  ·subst hH;subst hL;simp[Instr.sliceBounds,Kak]
  ·subst hH;have e:=pZ (P:=P) (k:=kl) (code:=.sliceB) (y:=len) h0 h1;simp[Instr.sliceBounds,Kak,hL,e]
  ·subst hL;have e:=pZ (P:=P) (k:=kh) (code:=.sliceAcap) (y:=cap) (by omega) c1;simp[Instr.sliceBounds,Kak,hH,e]
  ·have e:=pZ (P:=P) (k:=kh) (code:=.sliceAcap) (y:=cap) (by omega) c1;have e2:=pZ (P:=P) (k:=kl) (code:=.sliceB) (y:=H.toNat) h0 (by omega);simp[Instr.sliceBounds,Kak,hH,hL,e,e2]
 ·rcases hH with⟨rfl,hH⟩|⟨zh,kh,rfl,hH⟩
  ·simp at hm
  have e:=pZ (P:=P) (k:=km) (code:=.slice3Acap) (y:=cap) (i:=M) (by omega) (by omega);have e1:=pZ (P:=P) (k:=kh) (code:=.slice3B) (y:=M.toNat) (i:=H) (by omega) (by omega);refine⟨M.toNat,by omega,by omega,by omega,fun h=>by simp at h,fun w=>?_⟩;rcases hL with⟨rfl,hL⟩|⟨zl,kl,rfl,hL⟩
  ·subst hL;simp[Instr.sliceBounds,Kak,hH,hM,e,e1]
  ·have e2:=pZ (P:=P) (k:=kl) (code:=.slice3C) (y:=H.toNat) (i:=L) h0 (by omega);simp[Instr.sliceBounds,Kak,hH,hM,hL,e,e1,e2]
theorem xa{P:Program}{t e:TypeId}{n len cap l h m:Nat}{ad:Option Addr}{lo hi mx:Option Value}(hu:P.underlying t=some (.slice e))(hn:dh P e=some n)(w:World)
  (hb:(Instr.sliceBounds true len cap lo hi mx).run P w= .ok (l,h,m) w):
  (Instr.sliceAt t (.slice ad len cap) lo hi mx).run P w= .ok (.slice (if m=l then ad else ad.map (·.add (l*n))) (h-l) (m-l)) w:=by
 unfold Instr.sliceAt Instr.slice;simp only[Kak,fk hu,Kai,hb,iw hn,KaN]
theorem HO{xs:List PV}{H L i:Nat}{x:PV}(hx:((xs.take H).drop L)[i]? =some x):xs[L+i]? =some x/\L+i<H:=by
 rw[KaR]at hx;have hi:L+i<H:=by have:=(Kad.1 hx).1;simp at this;omega
 rw[Kax hi]at hx;exact⟨hx,hi⟩
theorem Qo.part{X:Nat->Prop}{e:Nat}{xs:List PV}{ad:Option Addr}{cap L H m:Nat}(h:Qo w X (.sl e xs) (.slice ad xs.length cap))(h1:L<=H)(h2:H<=xs.length)(h3:H<=m)(h4:m<=cap):
  Qo w X (.sl e ((xs.take H).drop L)) (.slice (if m=L then ad else ad.map (·.add (L*e))) (H-L) (m-L)):=by
 by_cases he:H=L
 ·subst he;have:(xs.take H).drop H=[]:=List.drop_eq_nil_of_le (by simp;omega);rw[this,KbD];refine .gS _ _ _ ?_;cases h with
  |gS _ _ _ hc=>omega
  |sl _ _ b off _ vs hX hb hl hc=>omega
 ·have hlen:((xs.take H).drop L).length=H-L:=by simp;omega
  cases h with
  |gS=>simp at h2;omega
  | sl _ _ b off _ vs hX hb hl hc he' hv hr=>
   have hm:¬m=L:=by omega
   rw[if_neg hm];simp only[KbN,KbC];have:=Qo.sl (w:=w) (X:=X) e ((xs.take H).drop L) b (off+L*e) (m-L) (fun i j=>vs (L+i) j) hX hb (by omega) (by omega)
    (fun i x hx=>he' _ x (HO hx).1)
    (fun i hi j hj=>by have:=hv (L+i) (by omega) j hj;rw[show off+L*e+i*e+j=off+(L+i)*e+j by rw[Kaz];omega];exact this)
    (fun i x hx j y hy=>hr _ x (HO hx).1 j y hy)
   rwa[hlen]at this
theorem PU{o:Oper}{t e:TypeId}{n:Nat}{x:Operand}{px:PV}{lo hi mx:Option Operand}{zQ wJ wK:Option aF}{d:Nat}(ho:o.op= .slice t x lo hi mx)(hd:o.dst=some d)(an:d<C.N)(h:Qv C ρ fr hp a.tmps w)
  (hu:C.P.underlying t=some (.slice e)) (hn:dh C.P e=some n) (hx:Qj C ρ hp w px (a.eval x)) (nw:kI lo=some zQ) (pK:kI hi=some wJ) (ri:kI mx=some wK)
  (hv:fH n px (zQ.map (ev fr)) (wJ.map (ev fr)) (wK.map (ev fr)) d fr hp K):Q5 C ρ o a w K:=by
 have iS:∀ {x:Option Operand} {y:Option aF},kI x=some y->(x.isSome=true↔y.isSome=true):=by
  intro x y wx;cases x with
  |none=>simp[kI]at wx;subst wx;simp
  |some z=>simp only[kI,Kaa]at wx;obtain⟨u,_,rfl⟩:=wx;simp
 have common:∀(hp':HP)(xs:List PV)(len cap:Nat)(ad:Option Addr)(L H M:Int),Qv C ρ fr hp' a.tmps w->len=xs.length->a.eval x= .slice ad len cap->len<=cap->
   Qo w (aB C ρ hp') (.sl n xs) (.slice ad xs.length cap)->fl 0 (zQ.map (ev fr))=some L->fl len (wJ.map (ev fr))=some H->fl len (wK.map (ev fr))=some M->
   0<=L->L<=H->H<=M->M<=len->((wK.map (ev fr)).isSome=true->(wJ.map (ev fr)).isSome=true)->K (ae fr d (.sl n ((xs.take H.toNat).drop L.toNat))) hp'->Q5 C ρ o a w K:=by
  intro hp' xs len cap ad L H M hs hl ex cP hr bL bH bM h0 h1 h2 h3 hm hK;have e1:=oL h nw bL;have e2:=oL h pK bH;have e3:=oL h ri bM;obtain⟨m,q1,q2,q3,_,q4⟩:∃m,L.toNat<=m/\H.toNat<=m/\m<=cap/\(mx=none->m=cap)/\∀w',(Instr.sliceBounds true len cap (lo.map a.eval) (hi.map a.eval) (mx.map a.eval)).run C.P w'= .ok (L.toNat,H.toNat,m) w':=by
   refine xq (P:=C.P) a.eval ?_ ?_ ?_ (fun hq=>(iS pK).2 (by simpa using hm (by simpa using(iS ri).1 hq))) h0 h1 h2 h3 cP
   ·rcases e1 with⟨q1,_,q3⟩|⟨z,k,q1,q2,_⟩
    ·exact .inl ⟨q1,q3⟩
    ·exact .inr ⟨z,k,q1,q2⟩
   ·rcases e2 with⟨q1,_,q3⟩|⟨z,k,q1,q2,_⟩
    ·exact .inl ⟨q1,q3⟩
    ·exact .inr ⟨z,k,q1,q2⟩
   ·rcases e3 with⟨q1,_,q3⟩|⟨z,k,q1,q2,_⟩
    ·exact .inl ⟨q1,q3⟩
    ·exact .inr ⟨z,k,q1,q2⟩
  have hp:=hr.part (L:=L.toNat) (H:=H.toNat) (m:=m) (by omega) (by omega) q2 q3;refine⟨_,fun w'=>?_,ae fr d _,hp',by rw[hd];exact hs.ae (Qj.iT (bc.nI hp)) an,hK⟩;unfold execOp;simp only[ho,ex,Kak,xa hu hn w' (q4 w'),Kai];rfl
 unfold fH at hv;split at hv
 ·
  split at hv
  ·rename_i L H M bL bH bM;obtain⟨rfl,rfl,rfl,hm,hK⟩:=hv;have ex:=hx.rK;refine Q5.mk hd an h (p:=.aa) (v:=.slice none 0 0) (fun w'=>?_) Qo.aa hK;have e1:=oL h nw bL;have e2:=oL h pK bH;have e3:=oL h ri bM;obtain⟨m,q1,q2,q3,_,q4⟩:∃m,(0:Int).toNat<=m/\(0:Int).toNat<=m/\m<=0/\(mx=none->m=0)/\∀w',(Instr.sliceBounds true 0 0 (lo.map a.eval) (hi.map a.eval) (mx.map a.eval)).run C.P w'= .ok ((0:Int).toNat,(0:Int).toNat,m) w':=by
    refine xq (P:=C.P) a.eval ?_ ?_ ?_ (fun hq=>(iS pK).2 (by simpa using hm (by simpa using(iS ri).1 hq))) (Int.le_refl _) (Int.le_refl _) (Int.le_refl _) (by simp) (Kag _)
    ·rcases e1 with⟨q1,_,q3⟩|⟨z,k,q1,q2,_⟩
     ·exact .inl ⟨q1,q3⟩
     ·exact .inr ⟨z,k,q1,q2⟩
    ·rcases e2 with⟨q1,_,q3⟩|⟨z,k,q1,q2,_⟩
     ·exact .inl ⟨q1,by simp⟩
     ·exact .inr ⟨z,k,q1,q2⟩
    ·rcases e3 with⟨q1,_,q3⟩|⟨z,k,q1,q2,_⟩
     ·exact .inl ⟨q1,by simp⟩
     ·exact .inr ⟨z,k,q1,q2⟩
   obtain rfl:m=0:=by omega
   unfold execOp;simp only[ho,ex,Kak,xa hu hn w' (q4 w'),Kai];rfl
  ·exact hv.elim
 ·rename_i e' xs;split at hv
  ·rename_i L H M bL bH bM;obtain⟨rfl,h0,h1,h2,h3,hm,hK⟩:=hv;obtain⟨ad,cap,ex,jZ,eG⟩:=hx.M0;have aL:Qo w (aB C ρ hp) (.sl e' xs) (a.eval x):=hx;rw[ex]at aL;exact common hp xs _ cap ad L H M h rfl ex jZ aL bL bH bM h0 h1 h2 h3 hm hK
  ·exact hv.elim
 ·rename_i β o' m;cases wK with
  |some zm=>revert hv;split<;>simp_all
  |none=>
  split at hv
  ·rename_i L H bL bH bM;obtain⟨he,h0,h1,h2,h3,hK⟩:=hv;have m0:mx=none:=by cases mx<;>simp[kI]at ri⊢
   subst m0;have e1:=oL h nw bL;have e2:=oL h pK bH;obtain⟨hb,g1,g2,g3⟩:=hx;rw[g1]at he;simp only[KbN,Kar]at he;have hL:(lo=none/\L=0)∨∃z k,lo=some z/\a.eval z= .int k L:=by
    rcases e1 with⟨q1,_,q3⟩|⟨z,k,q1,q2,_⟩
    ·exact .inl ⟨q1,q3⟩
    ·exact .inr ⟨z,k,q1,q2⟩
   have hH:(hi=none/\H=(m:Int))∨∃z k,hi=some z/\a.eval z= .int k H:=by
    rcases e2 with⟨q1,_,q3⟩|⟨z,k,q1,q2,_⟩
    ·exact .inl ⟨q1,q3⟩
    ·exact .inr ⟨z,k,q1,q2⟩
   rcases g3 with⟨g3,ex,rfl,rfl⟩|⟨b,cap,g3,ex,g5,g6⟩
   ·obtain⟨m',q1,q2,q3,_,q4⟩:=xq (P:=C.P) (len:=0) (cap:=0) (mx:=none) (M:=0) a.eval hL hH (.inl ⟨rfl,rfl⟩) (by simp) h0 h1 h2 (by simp) (Kag _);have hH0:H.toNat=0:=by omega
    have qQ:L.toNat=0:=by omega
    have rh:m'=0:=by omega
    refine Q5.mk hd an h (v:=.slice none 0 0) (fun w'=>?_) ?_ hK
    ·unfold execOp;simp only[ho,ex,Kak,xa hu hn w' (q4 w'),Kai];simp[hH0,rh,qQ]
    ·exact⟨hb,g1,by omega,.inl ⟨g3,rfl,by omega,by omega⟩⟩
   ·have cP:m<=cap:=by have aP:=(h.own β hb g1).ca;rw[g3]at aP;obtain⟨_,_,cur,dx,c1,c2,c3,c4,c5⟩:=aP;obtain⟨cur',ty',d1,d2⟩:=g5;rw[c1]at d1;cases d1;rw[c2]at d2;have:=Kbr (h.own β hb g1).gF d2;omega
    obtain⟨m',q1,q2,q3,q5,q4⟩:=xq (P:=C.P) (len:=m) (cap:=cap) (mx:=none) (M:=(m:Int)) a.eval hL hH (.inl ⟨rfl,rfl⟩) (by simp) h0 h1 h2 (Int.le_refl _) cP;obtain rfl:=q5 rfl;refine Q5.mk hd an h (v:=.slice (some ⟨b,(o'+L.toNat)*hb.e,none⟩) (H.toNat-L.toNat) (m'-L.toNat)) (fun w'=>?_) ?_ hK
    ·unfold execOp;simp only[ho,ex,Kak,xa hu hn w' (q4 w'),Kai];congr 1;by_cases hz:L=0
     ·subst hz;simp[Addr.add_zero']
     ·rw[if_neg (by omega)];simp[KbC,he,Kaz]
    ·exact⟨hb,g1,by omega,.inr ⟨b,m'-L.toNat,g3,rfl,by rw[show o'+L.toNat+(m'-L.toNat)=o'+m' by omega];exact g5,by omega⟩⟩
  ·exact hv.elim
 ·exact hv.elim
end Go.FW
namespace Go.FW
open Go
variable {C : Ctx} {ρ : Nat -> Option Nat} {fr : Fr} {hp : HP} {w : World} {a : Act} {K : Qg}
def mi(Q:PV->Value->Prop)(ps:List PV)(vs:Array Value):Prop:=vs.size=ps.length/\∀(i:Nat)(x:PV),ps[i]? =some x->Q x (vs.getD i undef)
abbrev Rows(w:World)(X:Nat->Prop)(ps:List PV)(vs:Array Value):Prop:=mi (Qo w X) ps vs
theorem JT(off:Nat):∀(l:List Value)(s:Nat)(cs:Array Value),
  ((l.zipIdx s).foldl (fun cs (p:Value×Nat)=>cs.setIfInBounds (off+p.2) p.1) cs).size=cs.size/\
  ∀k,k<cs.size->((l.zipIdx s).foldl (fun cs (p:Value×Nat)=>cs.setIfInBounds (off+p.2) p.1) cs).getD k undef=if off+s<=k/\k<off+s+l.length then l.getD (k-off-s) undef else cs.getD k undef
 | [],s,cs=>by refine⟨rfl,fun k hk=>?_⟩;simp only[List.zipIdx_nil,List.foldl_nil,Kbg,KaM];rw[if_neg (by omega)]
 | c::l,s,cs=>by
  obtain⟨h1,h2⟩:=JT off l (s+1) (cs.setIfInBounds (off+s) c);simp only[List.zipIdx_cons,List.foldl_cons];refine⟨by rw[h1];simp,fun k hk=>?_⟩;rw[h2 k (by simpa using hk)];by_cases hks:k=off+s
  ·subst hks;rw[if_neg (by omega),if_pos (by simp)];simp[Array.getD,hk]
  ·by_cases hr:off+(s+1)<=k/\k<off+(s+1)+l.length
   ·rw[if_pos hr,if_pos (by simp;omega)];have:k-off-s=(k-off-(s+1))+1:=by omega
    rw[this];simp
   ·rw[if_neg hr,if_neg (by simp;omega)];simp only[KaD];rw[Kb7 (by omega)]
theorem ZS(cs:Array Value)(v:Array Value)(off:Nat):
  v.zipIdx.foldl (fun cs (x:Value×Nat)=>match x with|(c,j)=>cs.setIfInBounds (off+j) c) cs=(v.toList.zipIdx).foldl (fun cs (p:Value×Nat)=>cs.setIfInBounds (off+p.2) p.1) cs:=by
 rw[<-Array.foldl_toList,Array.toList_zipIdx]
theorem mi.abo{Q:PV->Value->Prop}{ps qs:List PV}{vs us:Array Value}{off:Nat}(h:mi Q ps vs)(hq:mi Q qs us)(hle:off+qs.length<=ps.length):
  mi Q (ps.take off++qs++ps.drop (off+qs.length)) (us.zipIdx.foldl (fun cs (x:Value×Nat)=>match x with|(c,j)=>cs.setIfInBounds (off+j) c) vs):=by
 obtain⟨h1,h2⟩:=h;obtain⟨q1,q2⟩:=hq;rw[ZS];obtain⟨f1,f2⟩:=JT off us.toList 0 vs;refine⟨by rw[f1,h1];simp;omega,fun i x hx=>?_⟩;have hi:i<ps.length:=by have:=(Kad.1 hx).1;simp at this;omega
 rw[f2 i (by omega)];simp only[KaM,KbY,Kb0];rw[Kbv,KaQ]at hx;by_cases c1:i<off
 ·rw[if_neg (by omega)];rw[if_pos (by simp;omega),Kax c1]at hx;exact h2 i x hx
 ·rw[if_neg (by simp;omega)]at hx;have ht:(ps.take off).length=off:=by simp;omega
  rw[ht,KaQ]at hx;by_cases c2:i-off<qs.length
  ·rw[if_pos c2]at hx;rw[if_pos (by omega)];have:=q2 _ _ hx
   rwa[show us.toList.getD (i-off) undef=us.getD (i-off) undef by simp[KaD]]
  ·rw[if_neg c2,KaR]at hx;rw[if_neg (by omega)];rw[show off+qs.length+(i-off-qs.length)=i by omega]at hx;exact h2 i x hx
theorem xr{Q:PV->Value->Prop}(place:Nat->Option (Nat×Nat)):∀(parts:List (Nat×Value))(qs:List (Nat×List PV))(ps:List PV)(vs:Array Value),mi Q ps vs->parts.length=qs.length->
  (∀(i:Nat)(p:Nat×Value)(q:Nat×List PV),parts[i]? =some p->qs[i]? =some q->place p.1=some (q.1,q.2.length)/\mi Q q.2 p.2.cells/\q.1+q.2.length<=ps.length)->
  ∃cV,Instr.fill place vs parts=some cV/\mi Q (fa ps qs) cV
 | [],[],ps,vs,h,_,_=>⟨vs,rfl,h⟩
 | [],q::qs,_,_,_,hl,_=>by simp at hl
 |p::parts,[],_,_,_,hl,_=>by simp at hl
 | (i,v)::parts,(off,xs)::qs,ps,vs,h,hl,hp=>by
  obtain⟨h1,h2,h3⟩:=hp 0 (i,v) (off,xs) rfl rfl;have dI:v.cells.size=xs.length:=h2.1;have hn:¬((v.cells.size≠xs.length||decide (off+v.cells.size>vs.size))=true):=by have:=h.1;simp only[Kbu,decide_eq_true_eq,not_or];exact⟨by simp[dI],by rw[dI,this];simp only at h3;omega⟩
  have hlen:(ps.take off++xs++ps.drop (off+xs.length)).length=ps.length:=by simp;simp only at h3;omega
  obtain⟨cV,g1,g2⟩:=xr place parts qs _ _ (h.abo h2 h3) (by simpa using hl) (fun j p q hpj hqj=>by obtain⟨k1,k2,k3⟩:=hp (j+1) p q (by simpa using hpj) (by simpa using hqj);exact⟨k1,k2,by rw[hlen];exact k3⟩);refine⟨cV,?_,g2⟩;unfold Instr.fill;simp only[h1];rw[if_neg hn];exact g1
theorem bc.rows{X:Nat->Prop}{p:PV}{v:Value}(h:bc w X p v):Rows w X p.cells v.cells:=h.cells
theorem nS{P:Program}{t:TypeId}{n by_:Nat}{z:PV}(h:gB P t=some (n,by_,z)):∃(i:TypeInfo)(zv:Value),P.info? t=some i/\i.zero=some zv/\i.size=n/\i.bytes=by_/\nR zv=some z:=by simp only[gB,Kab,Kaa,Prod.mk.injEq]at h;obtain⟨i,h1,zv,h2,p,h3,h4,h5,h6⟩:=h;subst h6;exact⟨i,zv,h1,h2,h4,h5,h3⟩
theorem qa{P:Program}{t:TypeId}{i:TypeInfo}{zv:Value}(h1:P.info? t=some i)(h2:i.zero=some zv)(w:World):(zeroValue t).run P w= .ok zv w:=by simp[zeroValue,typeInfo,h1,h2]
theorem Jc{parts:List (Nat×Operand)}{ps:List (Nat×Nat×aF)}{f:Nat×Operand->Option (Nat×Nat×aF)}(h:parts.mapM f=some ps){eval:Operand->Value}{i:Nat}{p:Nat×Value}{q:Nat×Nat×aF}
  (h1:(parts.map fun x=>(x.1,eval x.2))[i]? =some p) (h2:ps[i]? =some q):∃x,parts[i]? =some x/\f x=some q/\p=(x.1,eval x.2):=by
 obtain⟨x,hx,hf⟩:=(iV h).2 i q h2;refine⟨x,hx,hf,?_⟩;simp only[Kap,hx,KbN,Kar]at h1;exact h1.symm
theorem OC{o:Oper}{t:TypeId}{parts:Array (Nat×Operand)}{z:PV}{n by_:Nat}{ps:List (Nat×Nat×aF)}{d:Nat}(ho:o.op= .build t parts)(hd:o.dst=some d)(an:d<C.N)(h:Qv C ρ fr hp a.tmps w)
  (hz:gB C.P t=some (n,by_,z)) (ez:uV C.P t parts.toList=some ps)
  (hv:vb z.cells (ps.map fun p=>(p.1,p.2.1,ev fr p.2.2)) d fr hp K):Q5 C ρ o a w K:=by
 obtain⟨bQ,hK⟩:=hv;obtain⟨ti,zv,i1,i2,i3,i4,i5⟩:=nS hz;have F6:Rows w (aB C ρ (bw hp ((ps.map fun p=>(p.1,p.2.1,ev fr p.2.2)).flatMap fun p=>p.2.2.refs))) z.cells zv.cells:=(nM i5).rows;have nu:(parts.map fun(x:Nat×Operand)=>(x.1,a.eval x.2)).toList=parts.toList.map fun x=>(x.1,a.eval x.2):=by simp
 have key:∀(f:Nat×Operand->Option (Nat×Nat×aF))(place:Nat->Option (Nat×Nat)),parts.toList.mapM f=some ps->(∀x q,f x=some q->place x.1=some (q.1,q.2.1)/\bA x.2=some q.2.2)->
   ∃cV,Instr.fill place zv.cells (parts.map fun(x:Nat×Operand)=>(x.1,a.eval x.2)).toList=some cV/\
    Rows w (aB C ρ (bw hp ((ps.map fun p=>(p.1,p.2.1,ev fr p.2.2)).flatMap fun p=>p.2.2.refs))) (fa z.cells ((ps.map fun p=>(p.1,p.2.1,ev fr p.2.2)).map fun p=>(p.1,(Qy hp p.2.2).cells))) cV:=by
  intro f place hm hf;rw[nu];refine xr place _ _ _ _ F6 (by simp[(iV hm).1]) (fun i p q tt pO=>?_);simp only[List.map_map,Kap,Kaa]at pO;obtain⟨q0,ib,rfl⟩:=pO;obtain⟨x,hx,kP,rfl⟩:=Jc hm tt ib;obtain⟨f1,f2⟩:=hf x q0 kP;obtain⟨o1,o2,o3⟩:=bQ (q0.1,q0.2.1,ev fr q0.2.2) (KaL.2 ⟨q0,Kah ib,rfl⟩);simp only[Function.comp]at o1 o2 o3⊢;refine⟨by rw[o2];exact f1,?_,by rw[o2];exact o3⟩;exact(m8 h (bU h f2) (fun β aj=>Kan.2 ⟨_,KaL.2 ⟨q0,Kah ib,rfl⟩,aj⟩) o1).rows
 have fin:∀cV,(∀w',(Instr.build t (parts.map fun(x:Nat×Operand)=>(x.1,a.eval x.2))).run C.P w'= .ok (.agg cV) w')->
   Rows w (aB C ρ (bw hp ((ps.map fun p=>(p.1,p.2.1,ev fr p.2.2)).flatMap fun p=>p.2.2.refs))) (fa z.cells ((ps.map fun p=>(p.1,p.2.1,ev fr p.2.2)).map fun p=>(p.1,(Qy hp p.2.2).cells))) cV->Q5 C ρ o a w K:=by
  intro cV bD hr;refine⟨.agg cV,fun w'=>?_,_,_,by rw[hd];exact(h.freeze _).ae (p:=.agg _) ⟨cV,rfl,hr.1,hr.2⟩ an,hK⟩;unfold execOp;simp only[ho,Kak];have:=bD w';rw[show(parts.map fun(x:Nat×Operand)=>(x.1,a.eval x.2))=(parts.map fun x=>match x with|(i,x)=>(i,a.eval x))from rfl]at this;rw[this];rfl
 unfold uV at ez;split at ez
 ·rename_i fs hu;simp only[Kab]at ez;obtain⟨pl,cJ,hm⟩:=ez;obtain⟨cV,g1,g2⟩:=key _ (fun i=>pl[i]?) hm (fun x q hq=>by simp only[Kab,Kaa]at hq;obtain⟨r,hr,y,hy,rfl⟩:=hq;exact⟨by simpa using hr,hy⟩);refine fin cV (fun w'=>?_) g2;unfold Instr.build;have ew:=run_places (P:=C.P) w' fs.toList pl cJ;simp[Kak,qa i1 i2,fk hu,Kbl,ew]at g1⊢;simp[g1]
 ·rename_i len e hu;simp only[Kab]at ez;obtain⟨m,rh,hm⟩:=ez;obtain⟨cV,g1,g2⟩:=key _ (fun i=>some (i*m,m)) hm (fun x q hq=>by simp only[Kaa]at hq;obtain⟨y,hy,rfl⟩:=hq;exact⟨rfl,hy⟩);refine fin cV (fun w'=>?_) g2;unfold Instr.build;simp only[Kak,qa i1 i2,fk hu,iw rh,Kai,g1,KaN]
 ·simp at ez
theorem B7{xs:List Operand}{ys:List aF}(h:Qv C ρ fr hp a.tmps w)(hm:xs.mapM bA=some ys):(ys.map (ev fr)).length=xs.length/\∀(i:Nat)(x:PV),(ys.map (ev fr))[i]? =some x->Qj C ρ hp w x ((xs.map a.eval).toArray.getD i undef):=by
 obtain⟨h1,h2⟩:=iV hm;refine⟨by simp[h1],fun i x hx=>?_⟩;simp only[Kap,Kaa]at hx;obtain⟨y,hy,rfl⟩:=hx;obtain⟨z,hz,ho⟩:=h2 i y hy;have e:((xs.map a.eval).toArray.getD i undef)=a.eval z:=by simp[KaD,Kap,hz]
 rw[e];exact bU h ho
theorem Qj.M1{p:PV}{v:Value}(h:Qj C ρ hp w p v)(hc:p.ij=true):cg C ρ hp w p v:=by cases p<;>first|exact h|simp[PV.ij]at hc
theorem PW{o:Oper}{f:FuncId}{first cap:Array Operand}{pf pc:List aF}{d:Nat}(ho:o.op= .makeFunc (.func f) first cap)(hd:o.dst=some d)(an:d<C.N)(h:Qv C ρ fr hp a.tmps w)
  (h1:first.toList.mapM bA=some pf) (h2:cap.toList.mapM bA=some pc)
  (hv:(pf.map (ev fr)++pc.map (ev fr)).all PV.ij=true/\K (ae fr d (.fn f (pf.map (ev fr)) (pc.map (ev fr)))) hp):Q5 C ρ o a w K:=by
 obtain⟨hc,hK⟩:=hv;rw[Kaw]at hc;obtain⟨f1,f2⟩:=B7 h h1;obtain⟨c1,c2⟩:=B7 h h2;refine Q5.mk hd an h (v:=.func (.func f) (first.map a.eval) (cap.map a.eval)) (fun w'=>?_) ?_ hK
 ·unfold execOp;simp only[ho,Kak,Instr.makeFunc,KaN,Kai]
 ·refine⟨_,_,rfl,by simpa using f1.symm,by simpa using c1.symm,fun i x hx=>?_,fun i x hx=>?_⟩
  ·have:=f2 i x hx;rw[show(first.toList.map a.eval).toArray=first.map a.eval from Array.ext' (by simp)]at this;exact this.M1 (hc x (KbS _ (Kah hx)))
  ·have:=c2 i x hx;rw[show(cap.toList.map a.eval).toArray=cap.map a.eval from Array.ext' (by simp)]at this;exact this.M1 (hc x (Kbh _ (Kah hx)))
theorem Ns{o:Oper}{x:Operand}{px:PV}(ho:o.op= .nilCheck x)(an:∀d,o.dst=some d->d<C.N)(h:Qv C ρ fr hp a.tmps w)
  (hx:Qj C ρ hp w px (a.eval x)) (hv:vd px o.dst fr hp K):Q5 C ρ o a w K:=by
 have key:(∃b o',a.eval x= .pointer (some ⟨b,o',none⟩))∨(∃f fv cv,a.eval x= .func (.func f) fv cv)->(∀d,o.dst=some d->K (ae fr d px) hp)->(o.dst=none->K fr hp)->Q5 C ρ o a w K:=by
  intro hsh k1 k2;have bD:∀w',(execOp a.eval o).run C.P w'= .ok (.value (a.eval x)) w':=by intro w';unfold execOp;rcases hsh with⟨b,o',e⟩|⟨f,fv,cv,e⟩<;>simp only[ho,e]<;>rfl
  cases hd:o.dst with
  |some d=>exact⟨_,bD,_,_,by rw[hd];exact h.ae hx (an d hd),k1 d hd⟩
  |none=>exact⟨_,bD,fr,hp,by rw[hd];exact h,k2 hd⟩
 cases px with
 |mp β i o'=>obtain⟨b,hb,_,_,e⟩:=hx.tC;refine key (.inl ⟨_,_,e⟩) (fun d hd=>?_) (fun hd=>?_)<;>(rw[hd]at hv;exact hv)
 |pt cs=>obtain⟨b,off,e,_⟩:=hx.zR;refine key (.inl ⟨_,_,e⟩) (fun d hd=>?_) (fun hd=>?_)<;>(rw[hd]at hv;exact hv)
 |fn f first cap=>obtain⟨fv,cv,e,_⟩:=hx;refine key (.inr ⟨_,_,_,e⟩) (fun d hd=>?_) (fun hd=>?_)<;>(rw[hd]at hv;exact hv)
 |_=>exact hv.elim
end Go.FW
namespace Go.FW
open Go
variable {C : Ctx} {ρ : Nat -> Option Nat} {fr : Fr} {hp : HP} {w : World} {a : Act} {K : Qg}
def bZ(C:Ctx)(two:Bool)(w:World)(K:Qg)(a':Act)(w':World):Prop:=
 a'.defers=[]/\(∃aw hp',cT C aw hp' a'.tmps w'/\K aw hp')/\(two=true->Ext bW w w')
theorem fK{P:Program}{o:Oper}{v:Value}{w w':World}{a:Act}{K':Act->World->Prop}{Q:Exit->Act->World->Prop}(hr:(execOp a.eval o).run P w= .ok (.value v) w')(hK:K' (a.put o.dst v) w'):o.wp P a w K' Q:=by unfold Oper.wp;rw[hr];exact hK
theorem qe{a:Act}{d:Option Nat}{v:Value}:(a.put d v).defers=a.defers:=by cases d<;>rfl
theorem xh(w:World)(o:Obj)(k:Nat)(h:k<w.heap.size):(w.alloc o).heap[k]? =w.heap[k]? :=by show(w.heap.push o)[k]? =_;rw[Array.getElem?_push,if_neg (by omega)]
theorem jG(w:World)(o:Obj):(w.alloc o).heap[w.heap.size]? =some o:=by show(w.heap.push o)[w.heap.size]? =_;simp
theorem xj(w:World)(o:Obj):(w.alloc o).heap.size=w.heap.size+1:=by show(w.heap.push o).size=_;simp
theorem Ext.alloc(w:World)(o:Obj)(Y:Nat->Prop):Ext Y w (w.alloc o):=⟨rfl,rfl,rfl,by rw[xj];omega,fun b hb _=>xh w o b hb⟩
theorem Ext.drew(w:World)(Y:Nat->Prop):Ext Y w w.drew:=⟨rfl,rfl,rfl,Kag _,fun _ _ _=>rfl⟩
theorem sV{d:Nat}(h:d<C.N):bm d=false:=by have:=C.hN;simp[bm];omega
theorem Qv.rJ{tmps:Array Value}{aw:Fr}(h:Qv C ρ fr hp tmps w)(d:Nat)(hB:aI d=false)(mD:sU C ρ hp w d fr aw)(ao:HB)(cur:Array Value)(cap:Nat)(w':World)(hw:w'=w.alloc (.cells cur ao.ty)∨w'=w.drew.alloc (.cells cur ao.ty))
  (hs:cur.size=cap*ao.e) (hle:ao.xs.length<=cap) (hm:cap<=maxLen) (he:0<ao.e) (hl:∀(i:Nat)(x:PV),ao.xs[i]? =some x->x.cells.length=ao.e/\x.aA=true)
  (hc:∀(i:Nat)(x:PV),ao.xs[i]? =some x->∀(j:Nat)(y:PV),x.cells[j]? =some y->Qo w (aB C ρ hp) y (cur.getD (i*ao.e+j) undef)):
  Qv C (rb ρ d (some w.heap.size)) aw (Qi hp d ao) tmps w'/\Ext bW w w':=by
 have gu:∀Y,Ext Y w w':=fun Y=>by
  rcases hw with rfl|rfl
  ·exact Ext.alloc w _ Y
  ·exact(Ext.drew w Y).trans (Ext.alloc w.drew _ Y)
 have dI:w'.heap.size=w.heap.size+1:=by rcases hw with rfl|rfl<;>rw[xj]<;>rfl
 have ac0:w'.heap[w.heap.size]? =some (.cells cur ao.ty (0,0)):=by
  rcases hw with rfl|rfl
  ·exact jG w _
  ·exact jG w.drew _
 refine⟨h.tF d (some w.heap.size) ao hB mD (gu _) (fun c fy=>?_) he hl (by simp) (fun c fy=>?_),gu _⟩
 ·cases fy;exact⟨.inl h.ext.size,by omega,.inl (Kag _)⟩
 ·cases fy;exact⟨cur,cap,ac0,hs,hle,hm,hc⟩
theorem Qv.zN{tmps:Array Value}(h:Qv C ρ fr hp tmps w)(d:Nat)(hB:bm d=false)(ao:HB)(cur:Array Value)(cap:Nat)(w':World)(hw:w'=w.alloc (.cells cur ao.ty)∨w'=w.drew.alloc (.cells cur ao.ty))
  (hs:cur.size=cap*ao.e) (hle:ao.xs.length<=cap) (hm:cap<=maxLen) (he:0<ao.e) (hl:∀(i:Nat)(x:PV),ao.xs[i]? =some x->x.cells.length=ao.e/\x.aA=true)
  (hc:∀(i:Nat)(x:PV),ao.xs[i]? =some x->∀(j:Nat)(y:PV),x.cells[j]? =some y->Qo w (aB C ρ hp) y (cur.getD (i*ao.e+j) undef)):
  Qv C (rb ρ d (some w.heap.size)) (bB d fr) (Qi hp d ao) tmps w'/\Ext bW w w':=
 h.rJ d (qm hB) (xH hB) ao cur cap w' hw hs hle hm he hl hc
theorem iW:maxLen=9223372036854775807:=rfl
theorem bZ.ir{two:Bool}{o:Oper}{d:Nat}{v:Value}{p:PV}{w':World}{aw:Fr}{hp':HP}{ρ':Nat->Option Nat}(hd:o.dst=some d)(an:d<C.N)(aN:a.defers=[])
  (h:Qv C ρ' aw hp' a.tmps w') (hx:two=true->Ext bW w w') (hv:Qj C ρ' hp' w' p v) (hK:K (ae aw d p) hp'):bZ C two w K (a.put o.dst v) w':=by
 refine⟨by rw[qe];exact aN,⟨_,hp',⟨ρ',?_⟩,hK⟩,hx⟩;rw[hd];exact h.ae hv an
theorem bc.MX{X:Nat->Prop}{p:PV}{v:Value}{n:Nat}(h:bc w X p v)(hn:p.cells.length=n):v.cells.size=1*n/\∀(i:Nat)(x:PV),[p][i]? =some x->∀(j:Nat)(y:PV),x.cells[j]? =some y->Qo w X y (v.cells.getD (i*n+j) undef):=by
 obtain⟨h1,h2⟩:=h.cells;refine⟨by omega,fun i x hx j y hy=>?_⟩
 match i,hx with
 |0,hx=>simp at hx;subst hx;simpa using h2 j y hy
 |i+1,hx=>simp at hx
theorem Hr{d n ty:Nat}{x:PV}{w':World}:Qj C (rb ρ d (some w.heap.size)) (Qi hp d ⟨n,ty,[x],false⟩) w' (.mp d 0 0) (.pointer (some ⟨w.heap.size,0,none⟩)):=by refine⟨w.heap.size,⟨n,ty,[x],false⟩,eW _ _ _,by simp[Qi],by simp⟩
theorem OD{o:Oper}{t:TypeId}{n:Nat}{x:Operand}{px:PV}{d:Nat}{Q:Exit->Act->World->Prop}(ho:o.op= .box t x)(hd:o.dst=some d)(an:d<C.N)(aN:a.defers=[])(h:Qv C ρ fr hp a.tmps w)
  (hx:Qj C ρ hp w px (a.eval x)) (hN:∀cs,px= .aH cs->o6 n t cs d fr hp K->o.wp C.P a w (bZ C true w K) Q) (hv:dO n t px d fr hp K):o.wp C.P a w (bZ C true w K) Q:=by
 unfold dO at hv;split at hv
 ·exact hN _ rfl hv
 split at hv
 ·rename_i β o' m hm;have rm:px= .aq β o' m:=by
   cases px with
   |aq β2 o2 m2=>
    simp only at hm;split at hm
    ·cases hm;rfl
    ·cases hm
   |_=>cases hm
  subst rm;have hs:=h.grow (w':=w.alloc (.cells (a.eval x).cells t)) (Ext.alloc w _ _);have aL:dw ρ hp (w.alloc (.cells (a.eval x).cells t)) β o' m (a.eval x):=dw.move hx ⟨rfl,fun hb aj=>⟨hb,aj,rfl,Kag _,fun b cap _ hc=>iv (xh w _ b (iy hc)) hc⟩⟩;have jZ:(a.eval x).cells= #[a.eval x]:=by obtain⟨ad,cap,e⟩:=Qj.Gc hx;rw[e];rfl
  refine fK (v:=.pointer (some ⟨w.heap.size,0,none⟩)) (w':=w.alloc (.cells (a.eval x).cells t)) ?_ (bZ.ir (p:=.rb β o' m) hd an aN hs (fun _=>Ext.alloc w _ _) ⟨w.heap.size,a.eval x,rfl,by rw[xj];omega,?_,?_,aL⟩ hv)
  ·unfold execOp;simp only[ho,Instr.box,newVar,newRow];simp
  ·rintro(hq|⟨γ,hg,g1,_,g3⟩)
   ·have:=C.y7 _ hq;have:=h.ext.size;omega
   ·have:=(h.own γ hg g1).ca;rw[g3]at this;have:=this.2.1;omega
  ·have:=jG w (.cells (a.eval x).cells t);rw[iu this (by rw[jZ];simp),jZ];rfl
 obtain⟨h1,h2,h3,hK⟩:=hv;have hr:=m8 h hx (fun β aj=>aj) h1;obtain⟨r1,r2⟩:=hr.MX h2;obtain⟨hs,he⟩:=(h.freeze px.refs).zN d (sV an) ⟨n,t,[Qy hp px],false⟩ (a.eval x).cells 1 _ (.inl rfl) r1 (by simp) (by rw[iW];omega) h3
  (fun i y hy=>by
   match i,hy with
   |0,hy=>simp at hy;subst hy;exact⟨h2,h1⟩
   |i+1,hy=>simp at hy) r2
 refine fK (v:=.pointer (some ⟨w.heap.size,0,none⟩)) (w':=w.alloc (.cells (a.eval x).cells t)) ?_ (bZ.ir hd an aN hs (fun _=>he) Hr hK);unfold execOp;simp only[ho,Instr.box,newVar,newRow];simp
theorem Qyq{o:Oper}{t:TypeId}{n:Nat}{ti:TypeInfo}{zv:Value}{z:PV}{d:Nat}{Q:Exit->Act->World->Prop}(ho:o.op= .alloc t)(hd:o.dst=some d)(an:d<C.N)(aN:a.defers=[])(h:Qv C ρ fr hp a.tmps w)
  (i1:C.P.info? t=some ti) (i2:ti.zero=some zv) (hz:nR zv=some z) (hv:dO n t z d fr hp K):o.wp C.P a w (bZ C true w K) Q:=by
 unfold dO at hv;split at hv
 ·exact absurd (w9 hz).1 (by simp[PV.aA])
 split at hv
 ·rename_i β o' m hm;have hd:=(w9 hz).1;cases z with
  |aq=>simp[PV.aA]at hd
  |_=>cases hm
 obtain⟨h1,h2,h3,hK⟩:=hv;have hr:=m8 (C:=C) (ρ:=ρ) (hp:=hp) h (Qj.iT (nM (w:=w) hz)) (fun β aj=>aj) h1;obtain⟨r1,r2⟩:=hr.MX h2;obtain⟨hs,he⟩:=(h.freeze z.refs).zN d (sV an) ⟨n,t,[Qy hp z],false⟩ zv.cells 1 _ (.inl rfl) r1 (by simp) (by rw[iW];omega) h3
  (fun i y hy=>by
   match i,hy with
   |0,hy=>simp at hy;subst hy;exact⟨h2,h1⟩
   |i+1,hy=>simp at hy) r2
 refine fK (v:=.pointer (some ⟨w.heap.size,0,none⟩)) (w':=w.alloc (.cells zv.cells t)) ?_ (bZ.ir hd an aN hs (fun _=>he) Hr hK);unfold execOp;simp only[ho,Instr.alloc,Kak,qa i1 i2,Kai,newVar,newRow];simp
theorem Ka{i e j:Nat}(hj:j<e):(i*e+j)%e=j:=by rw[KbO,Nat.add_mul_mod_self_right,KaC hj]
theorem PX{i e j:Nat}(hj:j<e):(i*e+j)/e=i:=by rw[KbO,Nat.add_mul_div_right _ _ (by omega),Kcd hj,Ka2]
theorem ZM{z:Array Value}{n k:Nat}(hk:k<n)(hz:0<z.size):(madeCells z n).getD k undef=z.getD (k%z.size) undef:=by have h1:k%z.size<z.size:=Kbn _ hz;simp[madeCells,Array.getD,hk,h1]
theorem Hs{d:Nat}{hb:HB}{n cap:Nat}{w':World}{cur:Array Value}(hle:n<=hb.xs.length)(ab7:w'.heap[w.heap.size]? =some (.cells cur hb.ty (0,0)))(hs:cur.size=cap*hb.e)(hm:cap<=maxLen):
  Qj C (rb ρ d (some w.heap.size)) (Qi hp d hb) w' (.ms d n) (.slice (some ⟨w.heap.size,0,none⟩) n cap):=
 ⟨hb,by simp[Qi],by omega,.inr ⟨w.heap.size,cap,eW _ _ _,by simp,⟨cur,hb.ty,ab7,by rw[Ka2];exact hs⟩,by omega⟩⟩
theorem PY{o:Oper}{t e:TypeId}{n by_:Nat}{z:PV}{l c:Operand}{pl pc:PV}{d:Nat}{Q:Exit->Act->World->Prop}(ho:o.op= .makeSlice t l c)(hd:o.dst=some d)(an:d<C.N)(aN:a.defers=[])(h:Qv C ρ fr hp a.tmps w)
  (hu:C.P.underlying t=some (.slice e)) (hz:gB C.P e=some (n,by_,z)) (hl:Qj C ρ hp w pl (a.eval l)) (hc:Qj C ρ hp w pc (a.eval c)) (hv:ks n by_ e z pl pc d fr hp K):o.wp C.P a w (bZ C true w K) Q:=by
 unfold ks at hv;split at hv
 ·rename_i kl L kc Cc;obtain⟨h0,h1,h2,h3,h4,h5,hK⟩:=hv;obtain⟨ti,zv,i1,i2,i3,i4,i5⟩:=nS hz;have el:=hl.gO;have ec:=hc.gO;have nC:=(nM (w:=w) (X:=aB C ρ hp) i5).cells;have oB:zv.cells.size=n:=by rw[nC.1];exact h1
  have bD:=run_make (P:=C.P) w t e ti zv hu i1 i2 kl kc L Cc h2 h3 (by rw[i4];exact h4) h5;rw[i3]at bD;obtain⟨hs,he⟩:=h.zN d (sV an) ⟨n,e,List.replicate L.toNat z,false⟩ (madeCells zv.cells (Cc.toNat*n)) Cc.toNat _ (.inl rfl) (size_madeCells _ _) (by simp;omega) (by rw[iW];omega) h0
   (fun i x hx=>by have aL:=Kah hx;obtain rfl:=(List.mem_replicate.1 aL).2;exact⟨h1,(w9 i5).1⟩)
   (fun i x hx j y hy=>by
    have hi:i<L.toNat:=by have:=(Kad.1 hx).1;simpa using this
    obtain rfl:=(List.mem_replicate.1 (Kah hx)).2;have hj:j<n:=by have:=(Kad.1 hy).1;omega
    have rf:i*n+0+j<Cc.toNat*n:=jM (by omega) (by omega:0+n<=n) hj;rw[ZM (by omega) (by omega),oB,Ka hj];exact nC.2 j y hy)
  refine fK (v:=.slice (some ⟨w.heap.size,0,none⟩) L.toNat Cc.toNat) ?_ (bZ.ir hd an aN hs (fun _=>he) (Hs (by simp) (jG w _) (size_madeCells _ _) (by rw[iW];omega)) hK);unfold execOp;simp only[ho,el,ec,Kak,bD,Kai];rfl
 ·exact hv.elim
end Go.FW
namespace Go.FW
open Go
variable {C : Ctx} {ρ : Nat -> Option Nat} {fr : Fr} {hp : HP} {w : World} {a : Act} {K : Qg}
theorem IF(n:Nat):∀(xs:List (List PV))(s:Nat)(pre rest:List PV),(∀x∈xs,x.length=n)->pre.length=s*n->rest.length=xs.length*n->
  fa (pre++rest) ((xs.zipIdx s).map fun p=>(p.2*n,p.1))=pre++xs.flatten
 | [],s,pre,rest,_,_,hr=>by simp at hr;subst hr;simp[fa]
 | x::xs,s,pre,rest,hx,hp,hr=>by
  have zD:=hx x (by simp);simp only[List.zipIdx_cons,Kbs,fa];have e1:(pre++rest).take (s*n)=pre:=by rw[<-hp];exact List.take_left
  have e2:(pre++rest).drop (s*n+x.length)=rest.drop n:=by rw[zD,<-hp,<-List.drop_drop,List.drop_left]
  rw[e1,e2];have hlen:(pre++x).length=(s+1)*n:=by simp[hp,zD,Kaz]
  have rp:(rest.drop n).length=xs.length*n:=by simp[hr,Kaz]
  rw[IF n xs (s+1) (pre++x) (rest.drop n) (fun y hy=>hx y (by simp[hy])) hlen rp];simp
theorem Kb{n:Nat}(hn:0<n):∀(xs:List (List PV))(i j:Nat)(x:List PV)(y:PV),(∀x∈xs,x.length=n)->xs[i]? =some x->x[j]? =some y->xs.flatten[i*n+j]? =some y
 | [],i,j,x,y,_,h,_=>by simp at h
 |z::xs,0,j,x,y,hl,h,hy=>by simp at h;subst h;have hj:j<z.length:=(Kad.1 hy).1;simp only[List.flatten_cons,Kca,Ka2];rw[KbM hj];exact hy
 |z::xs,i+1,j,x,y,hl,h,hy=>by simp at h;have hz:=hl z (by simp);simp only[List.flatten_cons];rw[Kbd (by rw[hz,Kaz];omega)];rw[show(i+1)*n+j-z.length=i*n+j by rw[hz,Kaz];omega];exact Kb hn xs i j x y (fun q hq=>hl q (by simp[hq])) h hy
theorem ZT{parts:List (Nat×Operand)}{len i:Nat}{p:Nat×Operand}(h:parts.map (·.1)=List.range len)(hp:parts[i]? =some p):p.1=i:=by
 have h1:(parts.map (·.1))[i]? =some p.1:=by simp[hp]
 rw[h]at h1;have hi:i<len:=by have:=(Kad.1 h1).1;simpa using this
 rw[Kcl hi]at h1;simp at h1;exact h1.symm
theorem OE{X:Nat->Prop}{e:TypeId}{n N by_:Nat}{z:PV}{zv:Value}(i5:nR zv=some z)(hz:z.cells.length=n)(hn:0<n):
  Rows w X ((List.range N).map fun k=>z.cells.getD (k%n) .undef) ((Array.range N).map (zv.cells[· %zv.cells.size]!)):=by
 have nC:=(nM (w:=w) (X:=X) i5).cells;refine⟨by simp,fun i x hx=>?_⟩;have hi:i<N:=by have:=(Kad.1 hx).1;simpa using this
 simp only[Kap,Kcl hi,KbN,Kar]at hx;have hm:i%n<z.cells.length:=by rw[hz];exact Kbn _ hn
 have aL:z.cells[i%n]? =some x:=by rw[<-hx];simp[hm]
 have:=nC.2 _ x aL;have hs:zv.cells.size=n:=by rw[nC.1];exact hz
 have vW:i%n<zv.cells.size:=by omega
 have e2:((Array.range N).map (zv.cells[· %zv.cells.size]!)).getD i undef=zv.cells.getD (i%n) undef:=by have hmn:i%n<n:=Kbn _ hn;simp[Array.getD,hi,hs,hmn,getElem!_def,Kbk vW]
 rw[e2];exact this
theorem PZ{o:Oper}{t e:TypeId}{len n by_:Nat}{z:PV}{parts:Array (Nat×Operand)}{ps:List aF}{d:Nat}{Q:Exit->Act->World->Prop}(ho:o.op= .buildSlice t len parts)(hd:o.dst=some d)(an:d<C.N)(aN:a.defers=[])(h:Qv C ρ fr hp a.tmps w)
  (hu:C.P.underlying t=some (.slice e)) (hz:gB C.P e=some (n,by_,z)) (ox:parts.toList.map (·.1)=List.range len) (Mr:len*n<=16777216) (gM:z.cells.length=n) (ez:(parts.toList.mapM fun p=>bA p.2)=some ps)
  (hv:yL n e (ps.map (ev fr)) d fr hp K):o.wp C.P a w (bZ C true w K) Q:=by
 obtain⟨h0,bQ,hK⟩:=hv;obtain⟨ti,zv,i1,i2,i3,i4,i5⟩:=nS hz;obtain⟨m1,m2⟩:=iV ez;have hlen:parts.toList.length=len:=by have:=congrArg List.length ox;simpa using this
 have cJ:ps.length=len:=by omega
 let xs:List (List PV):=(ps.map (ev fr)).map fun p=>(Qy hp p).cells
 have dS:∀x∈xs,x.length=n:=by intro x hx;simp only[xs,KaL]at hx;obtain⟨p,⟨q,hq,rfl⟩,rfl⟩:=hx;exact(bQ _ (KaL.2 ⟨q,hq,rfl⟩)).2
 have F5:xs.length=len:=by simp[xs,cJ]
 have nu:(parts.map fun(x:Nat×Operand)=>(x.1,a.eval x.2)).toList=parts.toList.map fun x=>(x.1,a.eval x.2):=by simp
 have LD:Rows w (aB C ρ (bw hp ((ps.map (ev fr)).flatMap PV.refs))) ((List.range (len*n)).map fun k=>z.cells.getD (k%n) .undef) ((Array.range (len*n)).map ((if len*n=0 then(#[]:Array Value)else zv.cells)[· %(if len*n=0 then(#[]:Array Value)else zv.cells).size]!)):=by
  by_cases mH:len*n=0
  ·rw[if_pos mH,mH];exact⟨by simp,by simp⟩
  ·rw[if_neg mH];exact OE (e:=e) (by_:=by_) i5 gM h0
 obtain⟨cV,g1,g2⟩:=xr (fun i=>some (i*n,n)) (parts.toList.map fun x=>(x.1,a.eval x.2)) ((xs.zipIdx 0).map fun p=>(p.2*n,p.1)) _ _ LD (by simp[F5,hlen]) (fun i p q tt pO=>by
  simp only[Kap,Kaa]at tt pO;obtain⟨x,hx,rfl⟩:=tt;obtain⟨q0,ib,rfl⟩:=pO;rw[List.getElem?_zipIdx]at ib;simp only[Kaa]at ib;obtain⟨y,hy,rfl⟩:=ib;simp only[Ka2];have ME:=dS y (Kah hy);simp only[xs,Kap,Kaa]at hy;obtain⟨pv,⟨u,jA,rfl⟩,rfl⟩:=hy;obtain⟨x',aL,FP⟩:=m2 i u jA;rw[hx]at aL;cases aL;have hi:i<len:=by have:=(Kad.1 hx).1;omega
  obtain⟨o1,o2⟩:=bQ (ev fr u) (KaL.2 ⟨u,Kah jA,rfl⟩);refine⟨by rw[ZT ox hx,ME],(m8 h (bU h FP) (fun β aj=>Kan.2 ⟨_,KaL.2 ⟨u,Kah jA,rfl⟩,aj⟩) o1).rows,?_⟩;rw[ME];simp;have:(i+1)*n<=len*n:=Kam n hi;rw[Kaz]at this;omega)
 have FA:=IF n xs 0 [] ((List.range (len*n)).map fun k=>z.cells.getD (k%n) .undef) dS (by simp) (by simp[F5]);simp only[KaE]at FA;rw[FA]at g2;have LR:xs.flatten.length=len*n:=by
  have:=g2.1;have hb:=LD.1;have h2:fa ((List.range (len*n)).map fun k=>z.cells.getD (k%n) .undef) ((xs.zipIdx 0).map fun p=>(p.2*n,p.1))=xs.flatten:=FA;rw[List.length_flatten];have:xs.map List.length=List.replicate xs.length n:=by apply List.ext_getElem (by simp);intro i h1 h2;simp only[KbQ,List.getElem_replicate];exact dS _ (Kaq _)
  rw[this,List.sum_replicate_nat,F5]
 have ie:cV.size=len*n:=by rw[g2.1,LR]
 obtain⟨hs,he⟩:=(h.freeze ((ps.map (ev fr)).flatMap PV.refs)).zN d (sV an) ⟨n,e,(ps.map (ev fr)).map (Qy hp),false⟩ cV len _ (.inl rfl) ie (by simp[cJ]) (by rw[iW];have:len*1<=len*n:=Kbm len h0;omega) h0
  (fun i x hx=>by simp only[Kap,Kaa]at hx;obtain⟨p,⟨u,jA,rfl⟩,rfl⟩:=hx;obtain⟨o1,o2⟩:=bQ (ev fr u) (KaL.2 ⟨u,Kah jA,rfl⟩);exact⟨o2,o1⟩)
  (fun i x hx j y hy=>by refine g2.2 _ y (Kb h0 xs i j x.cells y dS ?_ hy);simp only[Kap,Kaa,xs]at hx⊢;obtain⟨p,ew,rfl⟩:=hx;exact⟨p,ew,rfl⟩)
 refine fK (v:=.slice (some ⟨w.heap.size,0,none⟩) len len) ?_ (bZ.ir hd an aN hs (fun _=>he) ?_ hK)
 ·unfold execOp;have hsm:¬(len*n>2^24):=by omega
  have FR:(parts.map fun x=>match x with|(i,x)=>(i,a.eval x)).toList=parts.toList.map fun x=>(x.1,a.eval x.2):=nu;simp only[ho,Instr.buildSlice,Kak,fk hu,Kai,iw (show dh C.P e=some n by simp[dh,i1,i3]),if_neg hsm,FR];by_cases mH:len*n=0
  ·simp only[if_pos mH]at g1⊢;simp only[KaN,Kai,Kak,g1,newRow];simp
  ·simp only[if_neg mH]at g1⊢;simp only[KaN,Kai,Kak,qa i1 i2,g1,newRow];simp
 ·rw[show(ps.map (ev fr)).length=len by simp[cJ]];exact Hs (by simp[cJ]) (jG w _) ie (by rw[iW];have:len*1<=len*n:=Kbm len h0;omega)
theorem tQ(w:World)(b:Nat)(cur:Array Value):Ext (fun c=>c=b) w (w.setRow b cur):=
 ⟨rfl,rfl,rfl,by simp,fun k hk hn=>setRow_other w b k _ hn⟩
theorem tU{cur:Array Value}{p:Nat}{cs:List Value}{k:Nat}(hle:p+cs.length<=cur.size)(hk:k<cur.size):
  ((cur.toList.take p++cs++cur.toList.drop (p+cs.length)).toArray).getD k undef=if p<=k/\k<p+cs.length then cs.getD (k-p) undef else cur.getD k undef:=by
 have dF:k<cur.toList.length:=by simpa using hk
 have ht:(cur.toList.take p).length=p:=by simp;omega
 simp only[KaD,List.getElem?_toArray,Kbv,Kae];rw[KaQ,ht];by_cases c1:k<p
 ·rw[if_pos c1,if_neg (by omega),Kax c1];simp
 ·rw[if_neg c1,KaQ];by_cases c2:k-p<cs.length
  ·rw[if_pos c2,if_pos (by omega)]
  ·rw[if_neg c2,if_neg (by omega),KaR];rw[show p+cs.length+(k-p-cs.length)=k by omega];simp
theorem tV{cur:Array Value}{p:Nat}{cs:List Value}(hle:p+cs.length<=cur.size):((cur.toList.take p++cs++cur.toList.drop (p+cs.length)).toArray).size=cur.size:=by simp;omega
theorem HQ{P:Program}{t:TypeId}{n b off:Nat}{ty:TypeId}{v:Value}{cur:Array Value}(hn:dh P t=some n)(hs:v.cells.size=n)(hg:w.heap[b]? =some (.cells cur ty (0,0)))(hle:off+n<=cur.size)(h1:∀u∈v.cells.toList,u.oneCell'=true):
  (storeVar t ⟨b,off,none⟩ v).run P w= .ok () (w.setRow b (cur.toList.take off++v.cells.toList++cur.toList.drop (off+n)).toArray):=by
 unfold storeVar;have aW:=run_storeCells_at P b off ty v.cells.toList 0 cur w hg (by simp[hs];omega) h1;simp only[KaM,KbY,hs]at aW;have bh:¬(v.cells.size≠n):=by simp[hs]
 simp only[Kak,iw hn,Kai,if_neg bh];exact aW
theorem QQ{x:PV}{o:Nat}{v:PV}{j:Nat}(hl:o+v.cells.length<=x.cells.length)(hj:j<x.cells.length):
  (nL x o v).cells[j]? =if o<=j/\j<o+v.cells.length then v.cells[j-o]? else x.cells[j]? :=by
 show(x.cells.take o++v.cells++x.cells.drop (o+v.cells.length))[j]? =_;rw[Kbv];have ht:(x.cells.take o).length=o:=by simp;omega
 rw[KaQ,ht];by_cases c1:j<o
 ·rw[if_pos c1,if_neg (by omega),Kax c1]
 ·rw[if_neg c1,KaQ];by_cases c2:j-o<v.cells.length
  ·rw[if_pos c2,if_pos (by omega)]
  ·rw[if_neg c2,if_neg (by omega),KaR];rw[show o+v.cells.length+(j-o-v.cells.length)=j by omega]
theorem Vi{x:PV}{o:Nat}{v:PV}(hl:o+v.cells.length<=x.cells.length):(nL x o v).cells.length=x.cells.length:=by show(List.take o x.cells++v.cells++List.drop (o+v.cells.length) x.cells).length=_;simp;omega
theorem Kc{e i j m k n:Nat}(hj:j<e)(hk:k+n<=e)(bh:i≠m):¬(m*e+k<=i*e+j/\i*e+j<m*e+k+n):=by
 intro⟨h1,h2⟩;rcases Nat.lt_or_gt_of_ne bh with h|h
 ·have:(i+1)*e<=m*e:=Kam e h;rw[Kaz]at this;omega
 ·have:(m+1)*e<=i*e:=Kam e h;rw[Kaz]at this;omega
theorem uM{l:List PV}{i k:Nat}{nx x:PV}(h:(l.set i nx)[k]? =some x):(i=k/\x=nx)∨(i≠k/\l[k]? =some x):=by
 by_cases vQ:i=k
 ·subst vQ;have hi:i<l.length:=by have:=(Kad.1 h).1;simpa using this
  rw[List.getElem?_set_self hi]at h;cases h;exact .inl ⟨rfl,rfl⟩
 ·rw[List.getElem?_set_ne vQ]at h;exact .inr ⟨vQ,h⟩
theorem b8.aQ{p:PV}{v:Value}(h:b8 C ρ hp w p v):p.aQ=[p]:=by
 cases p with
 |agg=>cases h
 |aH=>cases h
 |_=>rfl
theorem IG{l:List PV}(h:∀c∈l,c.aQ=[c]):(ep l).aQ=l:=by
 unfold ep;split
 ·exact h _ (by simp)
 ·exact Qym _
theorem KZ{py:PV}{v:Value}{cs:List PV}(h:Qj C ρ hp w py v)(hs:df py=some cs):v.cells.size=cs.length/\(∀(j:Nat)(y:PV),cs[j]? =some y->b8 C ρ hp w y (v.cells.getD j undef))/\∀u∈v.cells.toList,u.oneCell'=true:=by
 have one:∀ {p:PV},b8 C ρ hp w p v->p≠ .undef->cs=[p]->v.cells.size=cs.length/\(∀(j:Nat)(y:PV),cs[j]? =some y->b8 C ρ hp w y (v.cells.getD j undef))/\∀u∈v.cells.toList,u.oneCell'=true:=by
  rintro p hr hu rfl;obtain⟨h1,h2⟩:=hr.nJ hu;rw[h2];refine⟨rfl,fun j y hy=>?_,fun u jA=>?_⟩
  ·match j,hy with
   |0,hy=>simp at hy;subst hy;exact hr
   |j+1,hy=>simp at hy
  ·simp at jA;subst jA;exact h1
 cases py with
 | aH cs'=>
  simp only[df]at hs;split at hs
  ·rename_i cx;simp only[Kar]at hs;subst hs;obtain⟨vs,rfl,h1,h2⟩:=h;refine⟨h1,h2,fun u hu=>?_⟩;obtain⟨j,hj,rfl⟩:=Ka0 hu;have dq:j<vs.size:=by simpa[Value.cells]using hj
   have hp:j<cs'.length:=by omega
   have h3:=h2 j cs'[j] (Kaf hp);have h4:=Kaw.1 cx cs'[j] (Kaq hp);have:=(h3.nJ (fun e=>by rw[e]at h4;cases h4)).1;simpa[Array.getD,dq,Value.cells]using this
  ·cases hs
 |aE γ o n=>simp only[df,Kar]at hs;exact one (p:=.aE γ o n) h (by simp) hs.symm
 |aq β o n=>
  simp only[df]at hs;split at hs
  ·rename_i hB;simp only[Kar]at hs;exact one (p:=.aq β o n) ⟨hB,h⟩ (by simp) hs.symm
  ·cases hs
 |int k n=>simp only[df,Kar]at hs;exact one (p:=.int k n) h (by simp) hs.symm
 |bool b=>simp only[df,Kar]at hs;exact one (p:=.bool b) h (by simp) hs.symm
 |aa=>simp only[df,Kar]at hs;exact one (p:=.aa) h (by simp) hs.symm
 |sl e xs=>simp only[df,Kar]at hs;exact one (p:=.sl e xs) h (by simp) hs.symm
 |pt cs'=>simp only[df,Kar]at hs;exact one (p:=.pt cs') h (by simp) hs.symm
 |agg cs'=>simp only[df,Kar]at hs;subst hs;have hr:bc w (aB C ρ hp) (.agg cs') v:=h;obtain⟨h1,h2⟩:=hr.cells;exact⟨h1,fun j y hy=>b8.MP (h2 j y hy),hr.MT⟩
 |_=>cases hs
theorem Qv.Gd{tmps:Array Value}{w':World}(h:Qv C ρ fr hp tmps w){γ b e ty:Nat}{hb:HB}{xs':List PV}{cur':Array Value}{cap:Nat}(hB:bm γ=true)(he:0<e)(ah:hp γ=some hb)(js:hb.fz=false)(bf:hb.xs=[])(Fw:hb.e=e)(ht:hb.ty=ty)(aZ:ρ γ=some b)
  (hx:Ext (fun c=>c=b) w w') (cP:∀e cap,cy w b e cap->cy w' b e cap) (h1:w'.heap[b]? =some (.cells cur' ty (0,0))) (h2:cur'.size=cap*e) (h3:xs'.length<=cap) (h4:cap<=maxLen)
  (h5:∀(i:Nat)(x:PV),xs'[i]? =some x->x.aQ.length=e) (h6:∀(i:Nat)(x:PV),xs'[i]? =some x->∀(j:Nat)(y:PV),x.aQ[j]? =some y->b8 C ρ hp w y (cur'.getD (i*e+j) undef)):
  Qv C ρ (FW.ae (fL γ fr) γ (.aC γ e ty xs')) hp tmps w':=by
 have Fj:aB C ρ hp b:=.inr ⟨γ,hb,ah,js,aZ⟩;have zq:dJ γ=false:=by
  cases hq:dJ γ with
  |false=>rfl
  |true=>have:=(h.own γ hb ah).ro hq;rw[js]at this;cases this
 have fy:jg w w' (aB C ρ hp) (aB C ρ hp):=⟨fun c hc hn=>hx.block c hc (fun e=>hn (e▸Fj)),fun _ _ hn=>hn,hx.size⟩
 have aY:=(h.own γ hb ah).ca;rw[aZ]at aY;have gu:Ext C.Y0 C.w0 w':=by refine h.ext.trans' (Y':=fun c=>c=b) hx ?_;intro c hc he;subst he;exact(Ctx.yO aY.1 zq).resolve_left (by omega)
 have vU:∀β c,C.fx β=some c->∀e cap,cy C.w0 c e cap->cy w' c e cap:=fun b0 c fy e cap fC=>by
  have gG:=h.dK b0 c fy e cap fC;by_cases fY:c=b
  ·rw[fY]at gG ⊢;exact cP e cap gG
  ·exact iv (hx.block c (iy gG) fY) gG
 have kZ:∀β hg c,β≠γ->hp β=some hg->ρ β=some c->¬c=b:=fun β hg c bh eR hr e=>bh (h.inj β γ b (by simp[eR]) (by simp[ah]) (e▸hr) aZ);have c0:∀β,qD ρ ρ hp hp w w' β:=fun β=>⟨rfl,fun hg eR=>⟨hg,eR,rfl,Kag _,fun c cap hr fC=>by
  by_cases bh:β=γ
  ·subst bh;rw[aZ]at hr;cases hr;exact cP _ _ fC
  ·exact iv (hx.block c (iy fC) (kZ β hg c bh eR hr)) fC⟩⟩
 refine⟨h.sz,gu,vU,fun β hg aj=>?_,h.inj,fun i=>?_⟩
 ·obtain⟨p1,p2,p3,p4,p5⟩:=h.own β hg aj;refine⟨p1,p2,?_,p4,p5⟩;by_cases bh:β=γ
  ·subst bh;rw[ah]at aj;cases aj;rw[aZ]at p3⊢;exact⟨p3.1,Ka8 p3.2.1 hx.size,cur',cap,by rw[h1,ht],by rw[Fw];exact h2,by rw[bf];simp,h4,by rw[bf];simp⟩
  ·cases hr:ρ β with
   |none=>rw[hr]at p3;exact p3
   |some c=>rw[hr]at p3;exact⟨p3.1,Ka8 p3.2.1 hx.size,p3.2.2.move (hx.block c p3.2.1 (kZ β hg c bh aj hr)) rfl rfl rfl fy.rc⟩
 ·unfold FW.ae;split
  ·exact⟨hB,he,b,hb,cur',cap,aZ,ah,bf,Fw,ht,h1,h2,h3,h4,h5,fun i x hi j y hy=>(h6 i x hi j y hy).move fy (fun β _=>c0 β)⟩
  ·have a9:=h.cd i;unfold fL;generalize fr i=p at a9;have mv:(∀aS e ty xs,p= .aC aS e ty xs->aS≠γ)->Qj C ρ hp w' p (tmps.getD i undef):=fun hq=>
    a9.move fy (fun β _=>⟨(c0 β).r,(c0 β).h⟩) (fun β _=>c0 β) (fun aS e ty xs e1=>⟨rfl,fun hg eR=>by have bh:=hq aS e ty xs e1;refine⟨hg,eR,rfl,Kag _,fun c cap hr fC=>iv (hx.block c (iy fC) (kZ aS hg c bh eR hr)) fC,fun he=>⟨he,rfl,fun c hr=>hx.block c ?_ (kZ aS hg c bh eR hr)⟩⟩;have:=(h.own aS hg eR).ca;rw[hr]at this;exact this.2.1⟩)
   cases p with
   |aC aS e' ty' xs=>
    simp only[fS];split
    ·trivial
    ·rename_i bh;exact mv (fun _ _ _ _ e1=>by cases e1;exact bh)
   |_=>exact mv (fun _ _ _ _ e1=>by cases e1)
theorem Kd{l cs:List PV}{o j:Nat}(hl:o+cs.length<=l.length)(hj:j<l.length):(mm l o cs)[j]? =if o<=j/\j<o+cs.length then cs[j-o]? else l[j]? :=by
 unfold mm;rw[Kbv];have ht:(l.take o).length=o:=by simp;omega
 rw[KaQ,ht];by_cases c1:j<o
 ·rw[if_pos c1,if_neg (by omega),Kax c1]
 ·rw[if_neg c1,KaQ];by_cases c2:j-o<cs.length
  ·rw[if_pos c2,if_pos (by omega)]
  ·rw[if_neg c2,if_neg (by omega),KaR];rw[show o+cs.length+(j-o-cs.length)=j by omega]
theorem B8{l cs:List PV}{o:Nat}(hl:o+cs.length<=l.length):(mm l o cs).length=l.length:=by unfold mm;simp;omega
theorem QR {o:Oper} {t:TypeId} {n:Nat} {x y:Operand} {px py:PV} {Q:Exit->Act->World->Prop} (ho:o.op= .store t x y) (hd:o.dst=none) (aN:a.defers=[]) (h:Qv C ρ fr hp a.tmps w)
  (hn:dh C.P t=some n) (hx:Qj C ρ hp w px (a.eval x)) (hy:Qj C ρ hp w py (a.eval y)) (hv:kt n px py fr hp K):o.wp C.P a w (bZ C false w K) Q:=by
 unfold kt at hv;split at hv
 ·rename_i β i o';split at hv
  ·rename_i hb aj;obtain⟨h1,h2,h3,h4,h5,hK⟩:=hv;obtain⟨b,jq,g1,g2,ex⟩:=hx.tC;obtain⟨ba,g3,e1,e2,e3,e4,_⟩:=xf (l:=py.refs) g2;rw[aj]at g3;cases g3;have hbb:=e4 h1;subst hbb;have hf:=h.freeze py.refs;have hr:=m8 h hy (fun β aj=>aj) h2;have wo:=hr.cells;have aY:=hf.own β hb aj;have aP:=aY.ca;rw[g1]at aP;obtain⟨b1,b2,cur,cap,c1,c2,c3,c4,c5⟩:=aP;have eg:=Kaf h4;have dY:=(aY.len i _ eg).1;have ie:(a.eval y).cells.size=n:=by rw[wo.1,h3]
   have mF:i*hb.e+o'+n<=cur.size:=by rw[c2];have:(i+1)*hb.e<=cap*hb.e:=Kam _ (by omega);rw[Kaz]at this;omega
   have bD:=HQ (P:=C.P) (w:=w) (off:=i*hb.e+o') hn ie c1 mF hr.MT;have jB:(a.eval y).cells.toList.length=n:=by simp[ie]
   have fF:∀k,k<cur.size->((cur.toList.take (i*hb.e+o')++(a.eval y).cells.toList++cur.toList.drop (i*hb.e+o'+n)).toArray).getD k undef=if i*hb.e+o'<=k/\k<i*hb.e+o'+n then(a.eval y).cells.getD (k-(i*hb.e+o')) undef else cur.getD k undef:=by intro k hk;have:=tU (cur:=cur) (p:=i*hb.e+o') (cs:=(a.eval y).cells.toList) (k:=k) (by omega) hk;rw[jB]at this;rw[this];simp[KaD,Kae]
   have ic:((cur.toList.take (i*hb.e+o')++(a.eval y).cells.toList++cur.toList.drop (i*hb.e+o'+n)).toArray).size=cur.size:=by
    have:=tV (cur:=cur) (p:=i*hb.e+o') (cs:=(a.eval y).cells.toList) (by omega)
    rwa[jB]at this
   have j':(if n=hb.e then Qy hp py else nL (hb.xs[i]'h4) o' (Qy hp py)).cells.length=hb.e/\(if n=hb.e then Qy hp py else nL (hb.xs[i]'h4) o' (Qy hp py)).aA=true:=by
    by_cases hc:n=hb.e
    ·rw[if_pos hc];exact⟨by omega,h2⟩
    ·rw[if_neg hc];exact⟨by rw[Vi (by omega)];exact dY,rfl⟩
   obtain⟨nx,jv⟩:∃nx,nx=(if n=hb.e then Qy hp py else nL (hb.xs[i]'h4) o' (Qy hp py)):=⟨_,rfl⟩
   rw[<-jv]at hK j';have aW:=hf.store β b hb { hb with xs:=hb.xs.set i nx } aj h1 (by intro e;rw[e]at h4;simp at h4) g1 (tQ w b _) rfl (by simp) h1
    (fun k x hk=>by
     rcases uM hk with⟨_,rfl⟩|⟨_,hk⟩
     ·exact j'
     ·exact aY.len k x hk)
    (fun e' dx cP=>by obtain⟨cur',ty',d1,d2⟩:=cP;rw[c1]at d1;cases d1;exact⟨_,_,setRow_heap w b cur _ hb.ty _ c1,by rw[ic];exact d2⟩)
    ⟨_, cap,setRow_heap w b cur _ hb.ty _ c1,by rw[ic];exact c2,by simpa using c3,c4,fun k x hk j z hz=>by
     have th:k<hb.xs.length:=by have:=(Kad.1 hk).1;simpa using this
     have dS:x.cells.length=hb.e:=by
      rcases uM hk with⟨_,rfl⟩|⟨_,hk⟩
      ·exact j'.1
      ·exact(aY.len k x hk).1
     have hj:j<hb.e:=by have:=(Kad.1 hz).1;omega
     have an:k*hb.e+0+j<cap*hb.e:=jM (by omega) (by omega:0+hb.e<=hb.e) hj;show Qo w _ z (Array.getD _ (k*hb.e+j) undef);rw[fF _ (by omega)];rcases uM hk with⟨qZ,zD⟩|⟨qZ,hk⟩
     ·subst qZ;subst zD;by_cases hc:n=hb.e
      ·rw[jv,if_pos hc]at hz;have ho0:o'=0:=by omega
       subst ho0;rw[if_pos (by omega)];rw[show i*hb.e+j-(i*hb.e+0)=j by omega];exact wo.2 j z hz
      ·rw[jv,if_neg hc]at hz;rw[QQ (by omega) (by omega),h3]at hz;by_cases LZ:o'<=j/\j<o'+n
       ·rw[if_pos LZ]at hz;rw[if_pos (by omega)];rw[show i*hb.e+j-(i*hb.e+o')=j-o' by omega];exact wo.2 _ z hz
       ·rw[if_neg LZ]at hz;rw[if_neg (by omega)];exact c5 i _ eg j z hz
     ·rw[if_neg (Kc hj (by omega) (fun e=>qZ e.symm))];exact c5 k x hk j z hz⟩
   unfold Oper.wp;have hex:(execOp a.eval o).run C.P w= .ok .skip (w.setRow b (cur.toList.take (i*hb.e+o')++(a.eval y).cells.toList++cur.toList.drop (i*hb.e+o'+n)).toArray):=by unfold execOp;simp only[ho,ex,Kak,Instr.storeAt,Instr.sureAddr,KaN,Kai,bD]
   rw[hex];refine⟨by rw[qe];exact aN,⟨fr,_,⟨ρ,?_⟩,hK⟩,by simp⟩;rw[hd];exact aW
  ·exact hv.elim
 ·rename_i γ i o';split at hv
  ·rename_i aS e ty xs ah;obtain⟨rfl,⟨hb,k1,k2⟩,h1,h2,hv⟩:=hv;split at hv
   ·rename_i cs ia;obtain⟨h3,hK⟩:=hv;obtain⟨r1,r2,r3⟩:=KZ hy ia;obtain⟨hB,b,ao,g1,g2,ex⟩:=hx.zO;rw[k1]at g2;cases g2;have a9:=h.cd aS;rw[ah]at a9;obtain⟨_,qX,b',ao,cur,cap,q1,q2,q3,q4,q5,q6,q7,q8,q9,rL,oE⟩:=a9;rw[g1]at q1;cases q1;rw[k1]at q2;cases q2;rw[q4]at ex;have eg:=Kaf h1;have dY:=rL i _ eg;have ie:(a.eval y).cells.size=n:=by rw[r1,h3]
    have mF:i*e+o'+n<=cur.size:=by rw[q7];have:(i+1)*e<=cap*e:=Kam _ (by omega);rw[Kaz]at this;omega
    have bD:=HQ (P:=C.P) (w:=w) (off:=i*e+o') hn ie q6 mF r3;have jB:(a.eval y).cells.toList.length=n:=by simp[ie]
    have fF:∀k,k<cur.size->((cur.toList.take (i*e+o')++(a.eval y).cells.toList++cur.toList.drop (i*e+o'+n)).toArray).getD k undef=if i*e+o'<=k/\k<i*e+o'+n then(a.eval y).cells.getD (k-(i*e+o')) undef else cur.getD k undef:=by intro k hk;have:=tU (cur:=cur) (p:=i*e+o') (cs:=(a.eval y).cells.toList) (k:=k) (by omega) hk;rw[jB]at this;rw[this];simp[KaD,Kae]
    have ic:((cur.toList.take (i*e+o')++(a.eval y).cells.toList++cur.toList.drop (i*e+o'+n)).toArray).size=cur.size:=by
     have:=tV (cur:=cur) (p:=i*e+o') (cs:=(a.eval y).cells.toList) (by omega)
     rwa[jB]at this
    generalize(cur.toList.take (i*e+o')++(a.eval y).cells.toList++cur.toList.drop (i*e+o'+n)).toArray=W at bD fF ic;have wg:o'+cs.length<=(xs[i]).aQ.length:=by rw[dY,h3];exact h2
    have mA:∀c∈mm (xs[i]).aQ o' cs,c.aQ=[c]:=by
     intro c hc;obtain⟨j,hj⟩:=Kau hc;have oq:j<(xs[i]).aQ.length:=by have:=(Kad.1 hj).1;rwa[B8 wg]at this
     rw[Kd wg oq]at hj;split at hj
     ·exact(r2 _ c hj).aQ
     ·exact(oE i _ eg j c hj).aQ
    have bP:=IG mA;have aW:=h.Gd (w':=w.setRow b W) (xs':=xs.set i (ep (mm (xs[i]).aQ o' cs))) (cur':=W) (cap:=cap) hB qX k1 k2 q3 q4 q5 g1 (tQ w b W)
     (fun e2 vw hcp=>by obtain⟨aeu,lj,d1,d2⟩:=hcp;rw[q6]at d1;cases d1;exact⟨_,_,setRow_heap w b cur _ ty _ q6,by rw[ic];exact d2⟩)
     (setRow_heap w b cur W ty _ q6) (by rw[ic];exact q7) (by simpa using q8) q9
     (fun k x hk=>by
      rcases uM hk with⟨_,rfl⟩|⟨_,hk⟩
      ·rw[bP,B8 wg];exact dY
      ·exact rL k x hk)
     (fun k x hk j y' kk=>by
      rcases uM hk with⟨rfl,rfl⟩|⟨bh,hk⟩
      ·rw[bP]at kk;have oq:j<(xs[i]).aQ.length:=by have:=(Kad.1 kk).1;rwa[B8 wg]at this
       have zg:j<e:=by omega
       have rf:i*e+0+j<cap*e:=jM (n:=e) (by omega) (by omega) zg;rw[Kd wg oq]at kk;rw[fF _ (by omega)];split at kk
       ·rename_i hr;rw[if_pos (by omega),show i*e+j-(i*e+o')=j-o' by omega];exact r2 _ y' kk
       ·rename_i hr;rw[if_neg (by omega)];exact oE i _ eg j y' kk
      ·have th:k<xs.length:=(Kad.1 hk).1;have zg:j<e:=by have:=(Kad.1 kk).1;have:=rL k x hk;omega
       have rf:k*e+0+j<cap*e:=jM (n:=e) (by omega) (by omega) zg;rw[fF _ (by omega),if_neg (Kc zg h2 (fun e=>bh e.symm))];exact oE k x hk j y' kk)
    unfold Oper.wp;have hex:(execOp a.eval o).run C.P w= .ok .skip (w.setRow b W):=by unfold execOp;simp only[ho,ex,Kak,Instr.storeAt,Instr.sureAddr,KaN,Kai,bD]
    rw[hex];refine⟨by rw[qe];exact aN,⟨_,hp,⟨ρ,?_⟩,hK⟩,by simp⟩;rw[hd];exact aW
   ·exact hv.elim
  ·exact hv.elim
 ·exact hv.elim
end Go.FW
namespace Go.FW
open Go
variable {C : Ctx} {ρ : Nat -> Option Nat} {fr : Fr} {hp : HP} {w : World} {a : Act} {K : Qg}
theorem Qwe{X:Nat->Prop}{x:PV}{e:Nat}{f:Nat->Value}(he:x.cells.length=e)(h0:0<e)(hr:∀(j:Nat)(y:PV),x.cells[j]? =some y->Qo w X y (f j)):x.aA=true:=by
 by_cases ha:∃cs,x= .agg cs
 ·obtain⟨cs,rfl⟩:=ha;rfl
 ·have hc:x.cells=[x]:=by
   cases x with
   |agg cs=>exact absurd ⟨cs,rfl⟩ ha
   |_=>rfl
  have:=hr 0 x (by rw[hc];rfl);exact bc.data (bc.nI this)
theorem BC{e:Nat}{px:PV}{v:Value}{ys:List PV}{e':Nat}(h:Qv C ρ fr hp a.tmps w)(hx:Qj C ρ hp w px v)(hs:gh hp px=some (e',ys))(h0:0<e)(j1:e'=e∨ys=[]):
  ∃ad cap,v= .slice ad ys.length cap/\(ys≠[]->∃(b off:Nat)(f:Nat->Value),ad=some ⟨b,off,none⟩/\(∀k,k<ys.length*e->w.cell? ⟨b,off+k,none⟩=some (f k))/\
   ∀(i:Nat)(y:PV),ys[i]? =some y->y.cells.length=e/\y.aA=true/\∀(j:Nat)(z:PV),y.cells[j]? =some z->Qo w (aB C ρ hp) z (f (i*e+j))):=by
 cases px with
 |aa=>simp[gh]at hs;obtain⟨rfl,rfl⟩:=hs;exact⟨none,0,hx.rK,fun hn=>absurd rfl hn⟩
 | sl e2 xs=>
  simp[gh]at hs;obtain⟨rfl,rfl⟩:=hs;have aL:Qo w (aB C ρ hp) (.sl e2 xs) v:=hx;cases aL with
  |gS _ ad cap hc=>exact⟨ad,cap,rfl,fun hn=>absurd rfl hn⟩
  | sl _ _ b off cap vs hX hb hl hc he hv hr=>
   refine⟨_,cap,rfl,fun hn=>?_⟩;obtain rfl:e2=e:=j1.resolve_right hn;refine⟨b,off,fun k=>vs (k/e2) (k%e2),rfl,fun k hk=>?_,fun i y hy=>?_⟩
   ·have h1:k/e2<xs.length:=(Ka6 h0).2 hk;have h2:=Kbn k h0;have:=hv _ h1 _ h2;rw[KbL,KaS,Kbb]at this;exact this
   ·have dY:=he i y hy;refine⟨dY,Qwe dY h0 (hr i y hy),fun j z hz=>?_⟩;have hj:j<e2:=by have:=(Kad.1 hz).1;omega
    show Qo w _ z (vs ((i*e2+j)/e2) ((i*e2+j)%e2));rw[PX hj,Ka hj];exact hr i y hy j z hz
 | aq β o n=>
  simp only[gh,Kaa,Prod.mk.injEq]at hs;obtain⟨hb,aj,Fw,rfl⟩:=hs;obtain⟨cq,g1,g2,g3⟩:=hx;rw[aj]at g1;cases g1;have hlen:((hb.xs.drop o).take n).length=n:=by simp;omega
  rcases g3 with⟨g3,rfl,rfl,rfl⟩|⟨b,cap,g3,rfl,g5,g6⟩
  ·exact⟨none,0,by simp,fun hn=>absurd (by simp) hn⟩
  ·refine⟨_,cap,by rw[hlen],fun hn=>?_⟩;have aY:=h.own β hb aj;have aP:=aY.ca;rw[g3]at aP;obtain⟨_,an,cur,dx,c1,c2,c3,c4,c5⟩:=aP;have LQ:hb.e=e:=by
    rcases j1 with j1|j1
    ·omega
    ·exact absurd j1 hn
   refine⟨b,o*hb.e,fun k=>cur.getD (o*hb.e+k) undef,rfl,fun k hk=>?_,fun i y hy=>?_⟩
   ·rw[hlen]at hk;have:(o+n)*e<=dx*e:=Kam e (by omega);rw[Kaz]at this;exact iu c1 (by rw[c2,LQ];omega)
   ·have hi:i<n:=by have:=(Kad.1 hy).1;omega
    rw[Kax hi,KaR]at hy;obtain⟨l1,l2⟩:=aY.len _ y hy;refine⟨by omega,l2,fun j z hz=>?_⟩;have:=c5 _ y hy j z hz;rw[Kaz,KbL]at this
    rwa[LQ]at this⊢
 |_=>simp[gh]at hs
theorem HE{P:Program}{t ty e:TypeId}{i:TypeInfo}(ht:P.underlying t=some (.slice e))(hi:P.info? e=some i){base ad:Option Addr}{n cap c:Nat}(hle:n<=cap)(w:World):
  (Builtin.append_ #[t,t] ty #[.slice base n cap,.slice ad 0 c]).run P w= .ok (.slice base n cap) w:=by
 cases ad<;>cases base<;>simp[Builtin.append_,run_underlying ht,sizeOf,typeInfo,hi,Builtin.lenOf,Builtin.firstCells,hle,storeCells,loadCells,loadCellsFrom]
theorem oJ{P:Program}{o:Oper}{s x:Operand}{t:TypeId}(ho:o.op= .call { callee:=.builtin .append,args:= #[s,x],argTypes:= #[t,t] }){vs vx v:Value}{w w':World}(es:a.eval s=vs)(ex:a.eval x=vx)
  (hr:(Builtin.append_ #[t,t] o.type #[vs,vx]).run P w= .ok v w'):(execOp a.eval o).run P w= .ok (.value v) w':=by
 unfold execOp;simp only[ho,resolve,Kak,KaN,Kai,invoke,builtin];simp[es,ex,hr]
def ek(f:Nat->Value)(n:Nat):List Value:=(List.range n).map f
theorem rO(f:Nat->Value)(n:Nat):(ek f n).length=n:=by simp[ek]
theorem tR{f:Nat->Value}{n j:Nat}{u:Value}(h:(ek f n)[j]? =some u):j<n/\u=f j:=by
 have hj:j<n:=by have:=(Kad.1 h).1;simpa[ek]using this
 simp only[ek,Kap,Kcl hj,KbN,Kar]at h;exact⟨hj,h.symm⟩
theorem xk{f:Nat->Value}{n j:Nat}(h:j<n):(ek f n).getD j undef=f j:=by simp[ek,Kae,h]
theorem pX(l:List Value)(k:Nat):l.toArray.getD k undef=l.getD k undef:=by simp[KaD,Kae]
theorem gV(xs ys:Array Value)(k:Nat):(xs++ys).getD k undef=if k<xs.size then xs.getD k undef else ys.getD (k-xs.size) undef:=by simp only[KaD,Array.getElem?_append];split<;>rfl
theorem qg{n m e i j:Nat}(h0:i<m)(hj:j<e):i*e+j<m*e/\(n+i)*e+j=n*e+(i*e+j):=by
 constructor
 ·have:(i+1)*e<=m*e:=Kam e h0;rw[Kaz]at this;omega
 ·rw[Kaz];omega
theorem nN{β:Nat}{p:PV}{v:Value}(h:b8 C ρ hp w p v):b8 C ρ hp w (fu β p) v/\∀γ∈(fu β p).cG,γ≠β:=by
 cases p with
 | aq bo o n=>
  simp only[fu];split
  ·exact⟨trivial,fun γ ah=>by cases ah⟩
  ·rename_i bh;exact⟨h,fun γ ah=>by simp[PV.cG]at ah;subst ah;exact bh⟩
 | aE aS o n=>
  simp only[fu];split
  ·exact⟨trivial,fun γ ah=>by cases ah⟩
  ·rename_i bh;exact⟨h,fun γ ah=>by simp[PV.cG]at ah;subst ah;exact bh⟩
 |np=>cases h
 |_=>exact⟨h,fun γ ah=>by cases ah⟩
theorem l9{l:List PV}{f:PV->PV}{i:Nat}{y:PV}(h:(l.map f)[i]? =some y):∃x,l[i]? =some x/\y=f x:=by simp only[Kap,Kaa]at h;obtain⟨x,h1,h2⟩:=h;exact⟨x,h1,h2.symm⟩
theorem rX{β:Nat}:sU C ρ hp w β fr (dU β fr):=by
 intro i v h;unfold dU;generalize fr i=p at h;have kill:cu β p=bl β p->(∀γ∈p.aJ,γ≠β)->Qj C ρ hp w (cu β p) v/\(∀γ∈(cu β p).refs,γ≠β)/\∀γ∈(cu β p).aJ,γ≠β:=fun e hs=>by
  rw[e];refine⟨Qj.kill h,fun γ ah=>(ID γ ah).1,fun γ ah=>?_⟩;unfold bl at ah;split at ah
  ·cases ah
  ·exact hs γ ah
 cases p with
 | aC γ e ty xs=>
  simp only[cu];split
  ·exact⟨trivial,fun γ ah=>(by cases ah),fun γ ah=>by cases ah⟩
  ·rename_i bh;obtain⟨h0,he,b,hb,cur,cap,h1,h2,h3,h4,h5,h6,h7,h8,h9,bC,cD⟩:=h;have mA:∀(i:Nat)(x:PV),xs[i]? =some x->(ep (x.aQ.map (fu β))).aQ=x.aQ.map (fu β):=fun i x hi=>IG fun c hc=>by obtain⟨d,hd,rfl⟩:=KaL.1 hc;obtain⟨j,hj⟩:=Kau hd;exact(nN (cD i x hi j d hj)).1.aQ
   refine⟨⟨h0,he,b,hb,cur,cap,h1,h2,h3,h4,h5,h6,h7,by simpa using h8,h9,fun i x hi=>?_,fun i x hi j y hy=>?_⟩,fun γ ah=>(by cases ah),fun aS ah=>?_⟩
   ·obtain⟨x0,bf,rfl⟩:=l9 hi;rw[mA i x0 bf,Ka3];exact bC i x0 bf
   ·obtain⟨x0,bf,rfl⟩:=l9 hi;rw[mA i x0 bf]at hy;obtain⟨y0,cF,rfl⟩:=l9 hy;exact(nN (cD i x0 bf j y0 cF)).1
   ·rcases KaF.1 ah with rfl|ah
    ·exact bh
    ·obtain⟨x,hx,ah⟩:=Kan.1 ah;obtain⟨y,hy,ah⟩:=Kan.1 ah;obtain⟨i,hi⟩:=Kau hx;obtain⟨x0,bf,rfl⟩:=l9 hi;rw[mA i x0 bf]at hy;obtain⟨j,hj⟩:=Kau hy;obtain⟨y0,cF,rfl⟩:=l9 hj;exact(nN (cD i x0 bf j y0 cF)).2 aS ah
 | aH cs=>
  obtain⟨vs,rfl,h1,h2⟩:=h;refine⟨⟨vs,rfl,by simpa using h1,fun i x hi=>?_⟩,fun γ ah=>(by cases ah),fun γ ah=>?_⟩
  ·obtain⟨x0,bf,rfl⟩:=l9 hi;exact(nN (h2 i x0 bf)).1
  ·obtain⟨x,hx,ah⟩:=Kan.1 ah;obtain⟨i,hi⟩:=Kau hx;obtain⟨x0,bf,rfl⟩:=l9 hi;exact(nN (h2 i x0 bf)).2 γ ah
 | dk cs=>
  obtain⟨vs,rfl,h1,h2⟩:=h;refine⟨⟨vs,rfl,by simpa using h1,fun i x hi=>?_⟩,fun γ ah=>(by cases ah),fun γ ah=>?_⟩
  ·obtain⟨x0,bf,rfl⟩:=l9 hi;exact(nN (h2 i x0 bf)).1
  ·obtain⟨x,hx,ah⟩:=Kan.1 ah;obtain⟨i,hi⟩:=Kau hx;obtain⟨x0,bf,rfl⟩:=l9 hi;exact(nN (h2 i x0 bf)).2 γ ah
 | cm cs q=>
  obtain⟨vs,u,rfl,h1,h2,h3⟩:=h;refine⟨⟨vs,u,rfl,by simpa using h1,fun i x hi=>?_,h3⟩,fun γ ah=>(by cases ah),fun γ ah=>?_⟩
  ·obtain⟨x0,bf,rfl⟩:=l9 hi;exact(nN (h2 i x0 bf)).1
  ·obtain⟨x,hx,ah⟩:=Kan.1 ah;obtain⟨i,hi⟩:=Kau hx;obtain⟨x0,bf,rfl⟩:=l9 hi;exact(nN (h2 i x0 bf)).2 γ ah
 |aE γ o n=>
  simp only[cu];split
  ·exact⟨trivial,fun γ ah=>(by cases ah),fun γ ah=>by cases ah⟩
  ·rename_i bh;exact⟨h,fun γ ah=>(by cases ah),fun aS ah=>by simp[PV.aJ]at ah;subst ah;exact bh⟩
 |np γ o n=>
  simp only[cu];split
  ·exact⟨trivial,fun γ ah=>(by cases ah),fun γ ah=>by cases ah⟩
  ·rename_i bh;exact⟨h,fun γ ah=>(by cases ah),fun aS ah=>by simp[PV.aJ]at ah;subst ah;exact bh⟩
 | fn f first cap=>
  by_cases hc:(first.flatMap PV.dj++cap.flatMap PV.dj).contains β=true
  ·simp only[cu,hc,if_true];exact⟨trivial,fun γ ah=>(by cases ah),fun γ ah=>by cases ah⟩
  ·exact kill (by simp only[cu,hc];rfl) (fun γ ah e=>hc (by subst e;exact List.contains_iff_mem.2 ah))
 |_=>exact kill rfl (fun γ ah=>by cases ah)
end Go.FW
namespace Go.FW
open Go
variable {C : Ctx} {ρ : Nat -> Option Nat} {fr : Fr} {hp : HP} {w : World} {a : Act} {K : Qg}
theorem K0{o:Oper}{s x:Operand}{t e:TypeId}{n by_:Nat}{z:PV}{px:PV}{ys:List PV}{e' d:Nat}{β:Nat}{aw:Fr}{Q:Exit->Act->World->Prop}
  (ho:o.op= .call { callee:=.builtin .append,args:= #[s,x],argTypes:= #[t,t] }) (hd:o.dst=some d) (an:d<C.N) (aN:a.defers=[]) (h:Qv C ρ fr hp a.tmps w)
  (hu:C.P.underlying t=some (.slice e)) (hz:gB C.P e=some (n,by_,z)) (hx:Qj C ρ hp w px (a.eval x)) (lT:gh hp px=some (e',ys)) (h0:0<n) (gM:z.cells.length=n) (j1:e'=n∨ys=[])
  (es:a.eval s= .slice none 0 0) (hb:ys.length*by_<=140737488355328) (hm:ys.length<=9223372036854775807)
  (mD:sU C ρ hp w β fr aw) (hB:aI β=false)
  (hK:K (ae aw d (.ms β ys.length)) (Qi hp β ⟨n,e,ys,false⟩)):o.wp C.P a w (bZ C false w K) Q:=by
 obtain⟨ti,zv,i1,i2,i3,i4,i5⟩:=nS hz;obtain⟨ad,cap,ex,vK⟩:=BC h hx lT h0 j1;by_cases mQ:ys=[]
 ·subst mQ;have bD:=HE (P:=C.P) (ty:=o.type) (ad:=ad) (c:=cap) hu i1 (base:=none) (n:=0) (cap:=0) (Kag 0) w;have hs:=h.tF (w':=w) β none ⟨n,e,[],false⟩ hB mD (Ext.refl _ _) (by simp) h0 (by simp) (by simp) (by simp);refine fK (oJ ho es ex bD) (bZ.ir hd an aN hs (by simp) ?_ hK);exact⟨⟨n,e,[],false⟩,by simp[Qi],by simp,.inl ⟨eW _ _ _,rfl,rfl,rfl⟩⟩
 ·obtain⟨b,off,f,rfl,hf,bP⟩:=vK mQ;have mH:0<ys.length:=List.length_pos_iff.2 mQ;have bD:=run_append_nil (P:=C.P) w t o.type e ti zv hu i1 i2 ⟨b,off,none⟩ ys.length cap (ek f (ys.length*n)) (by rw[rO,i3])
   (fun j v hj=>by obtain⟨dq,rfl⟩:=tR hj;rw[KbC];exact hf j dq) mH (by omega) (by rw[i4];omega)
  have fD:=grownCap_ge w ys.length 0 e;have jr:=grownCap_le_maxLen w ys.length 0 e (by rw[iW];exact hm);generalize grownCap w ys.length 0 e=G at bD fD jr;have oB:zv.cells.size=n:=by have:=(nM (w:=w) (X:=aB C ρ hp) i5).cells.1;omega
  obtain⟨hs,gu⟩:=h.rJ β hB mD ⟨n,e,ys,false⟩ ((ek f (ys.length*n)).toArray++Builtin.zeroCells zv.cells (G-ys.length)) G _ (.inr rfl)
   (by simp[rO,size_zeroCells,oB,<-Nat.add_mul];congr 1;omega) fD jr h0 (fun i y hy=>⟨(bP i y hy).1,(bP i y hy).2.1⟩)
   (fun i y hy j z hz=>by
    have hi:i<ys.length:=(Kad.1 hy).1;have hj:j<n:=by have:=(Kad.1 hz).1;have:=(bP i y hy).1;omega
    obtain⟨q1,_⟩:=qg (n:=0) hi hj;show Qo w _ z (Array.getD _ (i*n+j) undef);rw[gV,if_pos (by simpa[rO]using q1)];have:=(bP i y hy).2.2 j z hz;rw[pX,xk q1];exact this)
  refine fK (oJ ho es ex bD) (bZ.ir hd an aN hs (by simp) ?_ hK);exact⟨⟨n,e,ys,false⟩,by simp[Qi],by simp,.inr ⟨w.heap.size,G,eW _ _ _,by simp,⟨_,e,jG w.drew _,by simp[rO,size_zeroCells,oB,<-Nat.add_mul];congr 1;omega⟩,by omega⟩⟩
theorem K1{o:Oper}{s x:Operand}{t e:TypeId}{n by_:Nat}{z:PV}{px:PV}{ys:List PV}{e' d:Nat}{β m:Nat}{hb:HB}{aw:Fr}{Q:Exit->Act->World->Prop}
  (ho:o.op= .call { callee:=.builtin .append,args:= #[s,x],argTypes:= #[t,t] }) (hd:o.dst=some d) (an:d<C.N) (aN:a.defers=[]) (h:Qv C ρ fr hp a.tmps w)
  (hu:C.P.underlying t=some (.slice e)) (hz:gB C.P e=some (n,by_,z)) (hx:Qj C ρ hp w px (a.eval x)) (lT:gh hp px=some (e',ys)) (h0:0<n) (gM:z.cells.length=n) (j1:e'=n∨ys=[])
  (hs:Qj C ρ hp w (.ms β m) (a.eval s)) (mD:sU C ρ hp w β fr aw) (hB:aI β=false) (aj:hp β=some hb) (js:hb.fz=false) (hbe:hb.e=n) (te:hb.ty=e) (FL:m<=hb.xs.length)
  (Fm:(m+ys.length)*by_<=140737488355328) (vX:m+ys.length<=9223372036854775807)
  (hK:K (ae aw d (.ms β (m+ys.length))) (Qi hp β ⟨n,e,hb.xs.take m++ys,false⟩)):o.wp C.P a w (bZ C false w K) Q:=by
 obtain⟨cq,g1,g2,g3⟩:=hs;rw[aj]at g1;cases g1;have nE:(hb.xs.take m).length=m:=by simp;omega
 rw[Ka2]at g2;rcases g3 with⟨g3,es,rfl,_⟩|⟨b,cap,g3,es,g5,g6⟩
 ·simp only[Ka2,Kb3,KaE]at hK Fm vX;exact K0 ho hd an aN h hu hz hx lT h0 gM j1 es Fm vX mD hB hK
 rw[Kca]at es;rw[Ka2]at g5 g6;obtain⟨ti,zv,i1,i2,i3,i4,i5⟩:=nS hz;obtain⟨ad,wL,ex,vK⟩:=BC h hx lT h0 j1;have aY:=h.own β hb aj;have aP:=aY.ca;rw[g3]at aP;obtain⟨b1,b2,cur,dx,c1,c2,c3,c4,c5⟩:=aP;replace b1:=Ctx.pj b1 hB;obtain⟨cur',ty',d1,d2⟩:=g5;rw[c1]at d1;cases d1;obtain rfl:dx=cap:=Kbr aY.gF (by omega);subst te;subst hbe;have vP:aB C ρ hp b:=.inr ⟨β,hb,aj,js,g3⟩;have tk:∀(i:Nat)(x:PV),(hb.xs.take m++ys)[i]? =some x->(i<m/\hb.xs[i]? =some x)∨(m<=i/\ys[i-m]? =some x):=by
  intro i x aL;rw[KaQ,nE]at aL;by_cases hi:i<m
  ·rw[if_pos hi,Kax hi]at aL;exact .inl ⟨hi,aL⟩
  ·rw[if_neg hi]at aL;exact .inr ⟨by omega,aL⟩
 by_cases mQ:ys=[]
 ·subst mQ;have bD:=HE (P:=C.P) (ty:=o.type) (ad:=ad) (c:=wL) hu i1 (base:=some ⟨b,0,none⟩) (n:=m) (cap:=dx) (by omega) w;have hr:=h.tF (w':=w) β (some b) ⟨hb.e,hb.ty,hb.xs.take m++[],false⟩ hB mD (Ext.refl _ _) (fun c hc=>by cases hc;exact⟨b1,b2,.inr ⟨g3,hb,aj,js⟩⟩) aY.gF
   (fun i x aL=>by
    rcases tk i x aL with⟨_,hq⟩|⟨_,hq⟩
    ·exact aY.len i x hq
    ·simp at hq) (by simp)
   (fun c hc=>by
    cases hc;refine⟨cur,dx,c1,c2,by simp;omega,c4,fun i x aL j y hy=>?_⟩;rcases tk i x aL with⟨_,hq⟩|⟨_,hq⟩
    ·exact c5 i x hq j y hy
    ·simp at hq)
  refine fK (oJ ho es ex bD) (bZ.ir hd an aN hr (by simp) ?_ hK);exact⟨⟨hb.e,hb.ty,hb.xs.take m++[],false⟩,by simp[Qi],by simp;omega,.inr ⟨b,dx,eW _ _ _,by simp,⟨cur,hb.ty,c1,by rw[Ka2];exact c2⟩,by omega⟩⟩
 obtain⟨sb,off,f,rfl,hf,bP⟩:=vK mQ;have mH:0<ys.length:=List.length_pos_iff.2 mQ;have tp:∀(j:Nat)(v:Value),(ek f (ys.length*hb.e))[j]? =some v->w.cell? ((⟨sb,off,none⟩:Addr).add j)=some v:=fun j v hj=>by obtain⟨dq,rfl⟩:=tR hj;rw[KbC];exact hf j dq
 have tq:∀u∈ek f (ys.length*hb.e),u.oneCell'=true:=by
  intro u jA;obtain⟨k,hk⟩:=Kau jA;obtain⟨dF,rfl⟩:=tR hk;have hi:k/hb.e<ys.length:=(Ka6 h0).2 dF;have hj:=Kbn k h0;obtain⟨l1,l2,l3⟩:=bP _ _ (Kaf hi);have oq:k%hb.e<(ys[k/hb.e]'hi).cells.length:=by omega
  have:=l3 _ _ (Kaf oq);rw[KaS,Kbb]at this;exact this.nJ.1
 have ju:=rO f (ys.length*hb.e);have vY:m*hb.e+(ek f (ys.length*hb.e)).length=(m+ys.length)*hb.e:=by rw[ju,Kaz]
 by_cases tv:m+ys.length<=dx
 ·have lN:m*hb.e+(ek f (ys.length*hb.e)).length<=cur.size:=by rw[vY,c2];exact Kam _ tv
  have bD:=run_append_room (P:=C.P) w t o.type hb.ty ti hu i1 b m dx cur c1 ⟨sb,off,none⟩ ys.length wL (ek f (ys.length*hb.e)) (by rw[ju,i3]) tp tq tv (by rw[i3];exact lN);rw[i3]at bD;have ic:=tV (cur:=cur) (p:=m*hb.e) (cs:=ek f (ys.length*hb.e)) lN;have fF:=fun k hk=>tU (cur:=cur) (p:=m*hb.e) (cs:=ek f (ys.length*hb.e)) (k:=k) lN hk;generalize hW:(cur.toList.take (m*hb.e)++ek f (ys.length*hb.e)++cur.toList.drop (m*hb.e+(ek f (ys.length*hb.e)).length)).toArray=W at bD ic fF;have hr:=h.tF (w':=w.setRow b W) β (some b) ⟨hb.e,hb.ty,hb.xs.take m++ys,false⟩ hB mD ((tQ w b W).mono (fun i _ hi=>⟨hi▸g3,hb,aj,js⟩))
   (fun c hc=>by cases hc;exact⟨b1,by simpa using b2,.inr ⟨g3,hb,aj,js⟩⟩) aY.gF
   (fun i x aL=>by
    rcases tk i x aL with⟨_,hq⟩|⟨_,hq⟩
    ·exact aY.len i x hq
    ·exact⟨(bP _ x hq).1,(bP _ x hq).2.1⟩) (by simp)
   (fun c hc=>by
    cases hc;refine⟨W,dx,setRow_heap w b cur W hb.ty _ c1,by rw[ic];exact c2,by simp;omega,c4,fun i x aL j y hy=>?_⟩;show Qo w _ y (Array.getD W (i*hb.e+j) undef);rcases tk i x aL with⟨hi,hq⟩|⟨hi,hq⟩
    ·have hj:j<hb.e:=by have:=(Kad.1 hy).1;have:=(aY.len i x hq).1;omega
     have q1:=(qg (n:=0) hi hj).1;have q2:m*hb.e<=dx*hb.e:=Kam _ (by omega);rw[fF _ (by omega),if_neg (by omega)];exact c5 i x hq j y hy
    ·have kQ:i-m<ys.length:=(Kad.1 hq).1;have hj:j<hb.e:=by have:=(Kad.1 hy).1;have:=(bP _ x hq).1;omega
     obtain⟨q1,q2⟩:=qg (n:=m) kQ hj;rw[show m+(i-m)=i by omega]at q2;rw[fF _ (by omega),if_pos (by omega),q2,show m*hb.e+((i-m)*hb.e+j)-m*hb.e=(i-m)*hb.e+j by omega,xk q1];exact(bP _ x hq).2.2 j y hy)
  refine fK (oJ ho es ex bD) (bZ.ir hd an aN hr (by simp) ?_ hK);exact⟨⟨hb.e,hb.ty,hb.xs.take m++ys,false⟩,by simp[Qi],by simp;omega,.inr ⟨b,dx,eW _ _ _,by simp,⟨W,hb.ty,setRow_heap w b cur W hb.ty _ c1,by rw[ic,Ka2];exact c2⟩,by omega⟩⟩
 ·have aeY:m*hb.e<=cur.size:=by rw[c2];exact Kam _ (by omega)
  have eu:(cur.toList.take (m*hb.e)).length=m*hb.e:=by simp;omega
  have holds:∀(j:Nat)(v:Value),(cur.toList.take (m*hb.e))[j]? =some v->w.cell? ((⟨b,0,none⟩:Addr).add j)=some v:=fun j v hj=>by
   have dq:j<m*hb.e:=by have:=(Kad.1 hj).1;omega
   rw[Kax dq]at hj;rw[KbC,Ka2,iu c1 (by omega),xg cur j v hj]
  have bD:=run_append_grow (P:=C.P) w t o.type hb.ty ti zv hu i1 i2 ⟨b,0,none⟩ m dx (cur.toList.take (m*hb.e)) (by rw[eu,i3]) holds ⟨sb,off,none⟩ ys.length wL (ek f (ys.length*hb.e)) (by rw[ju,i3]) tp
   (by omega) (by omega) (growslice_fits (by omega) (by rw[i4];exact Fm))
  have fD:=grownCap_ge w (m+ys.length) dx hb.ty;have jr:=grownCap_le_maxLen w (m+ys.length) dx hb.ty (by rw[iW];exact vX);generalize grownCap w (m+ys.length) dx hb.ty=G at bD fD jr;have oB:zv.cells.size=hb.e:=by have:=(nM (w:=w) (X:=aB C ρ hp) i5).cells.1;omega
  have ia:((cur.toList.take (m*hb.e)).toArray++(ek f (ys.length*hb.e)).toArray++Builtin.zeroCells zv.cells (G-(m+ys.length))).size=G*hb.e:=by simp only[KbV,KbH,eu,ju,size_zeroCells,oB,<-Nat.add_mul];congr 1;omega
  obtain⟨hr,gu⟩:=h.rJ β hB mD ⟨hb.e,hb.ty,hb.xs.take m++ys,false⟩ _ G _ (.inr rfl) ia (by simp;omega) jr aY.gF
   (fun i x aL=>by
    rcases tk i x aL with⟨_,hq⟩|⟨_,hq⟩
    ·exact aY.len i x hq
    ·exact⟨(bP _ x hq).1,(bP _ x hq).2.1⟩)
   (fun i x aL j y hy=>by
    show Qo w _ y (Array.getD _ (i*hb.e+j) undef);rcases tk i x aL with⟨hi,hq⟩|⟨hi,hq⟩
    ·have hj:j<hb.e:=by have:=(Kad.1 hy).1;have:=(aY.len i x hq).1;omega
     have q1:=(qg (n:=0) hi hj).1;rw[gV,if_pos (by simp only[KbV,KbH,eu];omega),gV,if_pos (by simp only[KbH,eu];omega),pX,
      Kae,Kax q1]
     have:=c5 i x hq j y hy;simpa[KaD]using this
    ·have kQ:i-m<ys.length:=(Kad.1 hq).1;have hj:j<hb.e:=by have:=(Kad.1 hy).1;have:=(bP _ x hq).1;omega
     obtain⟨q1,q2⟩:=qg (n:=m) kQ hj;rw[show m+(i-m)=i by omega]at q2;rw[q2,gV,if_pos (by simp only[KbV,KbH,eu,ju];omega),gV,if_neg (by simp only[KbH,eu];omega),pX];simp only[KbH,eu];rw[show m*hb.e+((i-m)*hb.e+j)-m*hb.e=(i-m)*hb.e+j by omega,xk q1];exact(bP _ x hq).2.2 j y hy)
  refine fK (oJ ho es ex bD) (bZ.ir hd an aN hr (by simp) ?_ hK);exact⟨⟨hb.e,hb.ty,hb.xs.take m++ys,false⟩,by simp[Qi],by simp;omega,.inr ⟨w.heap.size,G,eW _ _ _,by simp,⟨_,hb.ty,jG w.drew _,by rw[Ka2];exact ia⟩,by omega⟩⟩
theorem OF{o:Oper}{s x:Operand}{t e:TypeId}{n by_:Nat}{z:PV}{ps px:PV}{d:Nat}{Q:Exit->Act->World->Prop}
  (ho:o.op= .call { callee:=.builtin .append,args:= #[s,x],argTypes:= #[t,t] }) (hd:o.dst=some d) (an:d<C.N) (aN:a.defers=[]) (h:Qv C ρ fr hp a.tmps w)
  (hu:C.P.underlying t=some (.slice e)) (hz:gB C.P e=some (n,by_,z)) (gM:z.cells.length=n) (hs:Qj C ρ hp w ps (a.eval s)) (hx:Qj C ρ hp w px (a.eval x))
  (acN:gh hp px=none->sS n by_ e ps px d fr hp K->o.wp C.P a w (bZ C false w K) Q) (hv:fM n by_ e ps px d fr hp K):o.wp C.P a w (bZ C false w K) Q:=by
 unfold fM at hv;split at hv
 ·exact acN (by assumption) hv
 ·rename_i e' ys lT;obtain⟨h0,j1,hv⟩:=hv;cases ps with
  |aa=>obtain⟨k1,k2,hK⟩:=hv;exact K0 (β:=d) ho hd an aN h hu hz hx lT h0 gM j1 hs.rK k1 k2 (xH (sV an)) (qm (sV an)) hK
  | aq β o' m=>
   cases o' with
   |succ o'=>exact hv.elim
   |zero=>
   simp only at hv;split at hv
   ·rename_i hb aj;rcases hv with⟨k0,k1,k2,k3,k4,k5,k6,hK⟩|⟨k0,kY,⟨_,k1,k2,k3,k4,k5,k6⟩,hK⟩
    ·exact K1 ho hd an aN h hu hz hx lT h0 gM j1 hs (xH k0) (qm k0) aj k1 k2 k3 k4 k5 k6 hK
    ·exact K1 ho hd an aN h hu hz hx lT h0 gM j1 hs rX kY aj k1 k2 k3 k4 k5 k6 hK
   ·exact hv.elim
  |_=>exact hv.elim
theorem ZU{P:Program}{t ty e:TypeId}{n:Nat}(ht:P.underlying t=some (.slice e))(hn:dh P e=some n){base ad:Option Addr}{dl dc sl sc:Nat}(hz:Nat.min sl dl=0)(w:World):
  (Builtin.copy_ #[t,t] ty #[.slice base dl dc,.slice ad sl sc]).run P w= .ok (goInt 0) w:=by
 have hs:=iw hn;cases ad<;>cases base<;>simp[Builtin.copy_,run_underlying ht,hs,Builtin.lenOf,Builtin.firstCells,hz,storeCells,loadCells,loadCellsFrom]
theorem Ig{P:Program}{o:Oper}{s x:Operand}{t:TypeId}(ho:o.op= .call { callee:=.builtin .copy,args:= #[s,x],argTypes:= #[t,t] }){vs vx v:Value}{w w':World}(es:a.eval s=vs)(ex:a.eval x=vx)
  (hr:(Builtin.copy_ #[t,t] o.type #[vs,vx]).run P w= .ok v w'):(execOp a.eval o).run P w= .ok (.value v) w':=by
 unfold execOp;simp only[ho,resolve,Kak,KaN,Kai,invoke,builtin];simp[es,ex,hr]
theorem ZV{P:Program}(w:World)(t ty elem:TypeId)(g o ES abm n:Nat)(a:Addr)(Gj ad7:Nat)(cur:Array Value)(ty':TypeId)(cs:List Value)
  (hu:P.underlying t=some (.slice elem)) (hs:dh P elem=some n)
  (hg:w.heap[g]? =some (.cells cur ty' (0,0))) (hn:cs.length=Nat.min Gj ES*n)
  (lT:∀j v,cs[j]? =some v->w.cell? (a.add j)=some v) (lN:o+cs.length<=cur.size) (h1:∀v∈cs,v.oneCell'=true):
  (Builtin.copy_ #[t,t] ty #[.slice (some ⟨g,o,none⟩) ES abm,.slice (some a) Gj ad7]).run P w=
   .ok (goInt (Nat.min Gj ES)) (w.setRow g (cur.toList.take o++cs++cur.toList.drop (o+cs.length)).toArray):=by
 have hl:=run_loadCells_list (P:=P) w a cs lT;have aW:=run_storeCells_at P g o ty' cs 0 cur w hg (by simpa using lN) h1;have hz:=iw hs;simp[Builtin.copy_,run_underlying hu,hz,Builtin.lenOf,Builtin.firstCells,<-hn,hl,aW]
theorem OG{o:Oper}{s x:Operand}{t e:TypeId}{n:Nat}{ps px:PV}{d:Nat}{Q:Exit->Act->World->Prop}
  (ho:o.op= .call { callee:=.builtin .copy,args:= #[s,x],argTypes:= #[t,t] }) (hd:o.dst=some d) (an:d<C.N) (aN:a.defers=[]) (h:Qv C ρ fr hp a.tmps w)
  (hu:C.P.underlying t=some (.slice e)) (hn:dh C.P e=some n) (hs:Qj C ρ hp w ps (a.eval s)) (hx:Qj C ρ hp w px (a.eval x))
  (hv:o7 n ps px d fr hp K):o.wp C.P a w (bZ C false w K) Q:=by
 unfold o7 at hv;split at hv
 ·rename_i e' ys β m lT;split at hv
  ·rename_i hb aj;obtain⟨k0,k1,k2,k3,k4,hK⟩:=hv;obtain⟨cq,g1,g2,g3⟩:=hs;rw[aj]at g1;cases g1;obtain⟨ad,wL,ex,vK⟩:=BC (e:=n) h hx lT k0 k3;have aY:=h.own β hb aj;have zero:Nat.min ys.length m=0->o.wp C.P a w (bZ C false w K) Q:=by
    intro h0;have bD:∀base cap,a.eval s= .slice base m cap->(execOp a.eval o).run C.P w= .ok (.value (goInt 0)) w:=fun base cap es=>
     Ig ho es ex (ZU (P:=C.P) (ty:=o.type) hu hn h0 w)
    have e2:({ hb with xs:=ys.take m++hb.xs.drop ys.length }:HB)=hb:=by
     have:ys.take m++hb.xs.drop ys.length=hb.xs:=by
      rcases Nat.min_eq_zero_iff.1 h0 with hq|hq
      ·have:ys=[]:=KbR hq;subst this;simp
      ·have:hb.xs=[]:=KbR (by omega);subst hq;simp[this]
     rw[this]
    have e3:Qi hp β hb=hp:=by
     funext γ;unfold Qi;split
     ·rename_i he;rw[he,aj]
     ·rfl
    rw[e2,e3,show(min (ys.length:Int) (m:Int))=0 by have:min ys.length m=0:=h0;omega]at hK;obtain⟨ad',dx,es⟩:=Qj.Gc (C:=C) (ρ:=ρ) (hp:=hp) (w:=w) ⟨hb,aj,g2,g3⟩;exact fK (bD _ _ es) (bZ.ir hd an aN h (by simp) (Qj.mkInt _ _) hK)
   by_cases vZ:Nat.min ys.length m=0
   ·exact zero vZ
   rcases g3 with⟨g3,es,rh,_⟩|⟨b,cap,g3,es,g5,g6⟩
   ·exact(vZ (by rw[rh];simp)).elim
   rw[Kca]at es;have mQ:ys≠[]:=by rintro rfl;exact vZ (by simp)
   obtain⟨sb,off,f,rfl,hf,bP⟩:=vK mQ;have aP:=aY.ca;rw[g3]at aP;obtain⟨b1,b2,cur,dx,c1,c2,c3,c4,c5⟩:=aP;obtain⟨k,hk⟩:∃k,k=min ys.length m:=⟨_,rfl⟩
   have ju:=rO f (k*n);have ra:k*n<=ys.length*n:=Kam _ (by omega);have tq:∀u∈ek f (k*n),u.oneCell'=true:=by
    intro u jA;obtain⟨q,hq⟩:=Kau jA;obtain⟨fR,rfl⟩:=tR hq;have hi:q/n<ys.length:=(Ka6 k0).2 (by omega);have hj:=Kbn q k0;obtain⟨l1,l2,l3⟩:=bP _ _ (Kaf hi);have oq:q%n<(ys[q/n]'hi).cells.length:=by omega
    have:=l3 _ _ (Kaf oq);rw[KaS,Kbb]at this;exact this.nJ.1
   have hkc:k*n<=dx*n:=Kam _ (by omega);have lN:0+(ek f (k*n)).length<=cur.size:=by rw[ju,c2,k2];omega
   have bD:=ZV (P:=C.P) w t o.type e b 0 m cap n ⟨sb,off,none⟩ ys.length wL cur hb.ty (ek f (k*n)) hu hn c1 (by rw[ju,hk])
    (fun j v hj=>by obtain⟨dq,rfl⟩:=tR hj;rw[KbC];exact hf j (by omega)) lN tq
   have ic:=tV (cur:=cur) (p:=0) (cs:=ek f (k*n)) lN;have fF:=fun q hq=>tU (cur:=cur) (p:=0) (cs:=ek f (k*n)) (k:=q) lN hq;generalize hW:(cur.toList.take 0++ek f (k*n)++cur.toList.drop (0+(ek f (k*n)).length)).toArray=W at bD ic fF;have dS:(ys.take m++hb.xs.drop ys.length).length=hb.xs.length:=by simp;omega
   have dz:∀(i:Nat)(x:PV),(ys.take m++hb.xs.drop ys.length)[i]? =some x->(i<k/\ys[i]? =some x)∨(k<=i/\hb.xs[i]? =some x):=by
    intro i x aL;rw[KaQ]at aL;have ht:(ys.take m).length=k:=by simp;omega
    rw[ht]at aL;by_cases hi:i<k
    ·rw[if_pos hi,Kax (by omega)]at aL;exact .inl ⟨hi,aL⟩
    ·rw[if_neg hi,KaR]at aL;refine .inr ⟨by omega,?_⟩;have eH:ys.length+(i-k)<hb.xs.length:=(Kad.1 aL).1
     rwa[show ys.length+(i-k)=i by omega]at aL
   have aW:=h.store β b hb { hb with xs:=ys.take m++hb.xs.drop ys.length } aj k1 (by intro e;rw[e]at k4;simp at k4;exact vZ (by simp[k4])) g3 (tQ w b W) rfl dS k1
    (fun i x aL=>by
     rcases dz i x aL with⟨_,hq⟩|⟨_,hq⟩
     ·exact⟨by rw[(bP _ x hq).1];exact k2.symm,(bP _ x hq).2.1⟩
     ·exact aY.len i x hq)
    (fun e' vw cP=>by obtain⟨cur',ty',d1,d2⟩:=cP;rw[c1]at d1;cases d1;exact⟨_,_,setRow_heap w b cur _ hb.ty _ c1,by rw[ic];exact d2⟩)
    ⟨W,dx,setRow_heap w b cur W hb.ty _ c1,by rw[ic];exact c2,by rw[dS];exact c3,c4,fun i x aL j y hy=>by
     show Qo w _ y (Array.getD W (i*hb.e+j) undef);rcases dz i x aL with⟨hi,hq⟩|⟨hi,hq⟩
     ·have hj:j<n:=by have:=(Kad.1 hy).1;have:=(bP _ x hq).1;omega
      have q1:=(qg (n:=0) hi hj).1;rw[k2,fF _ (by rw[c2,k2];omega),if_pos (by omega),Kb0,xk q1];exact(bP _ x hq).2.2 j y hy
     ·have eH:i<hb.xs.length:=(Kad.1 hq).1;have hj:j<hb.e:=by have:=(Kad.1 hy).1;have:=(aY.len i x hq).1;omega
      have:=c5 i x hq j y hy;have q2:k*n<=i*n:=Kam _ hi;have q3:=(qg (n:=0) (show i<dx by omega) (show j<n by omega)).1;rw[fF _ (by rw[c2,k2];omega),if_neg (by rw[k2];omega)];exact this⟩
   rw[show(min (ys.length:Int) (m:Int))=((Nat.min ys.length m:Nat):Int)by have:Nat.min ys.length m=min ys.length m:=rfl;omega]at hK;exact fK (Ig ho es ex bD) (bZ.ir hd an aN aW (by simp) (Qj.mkInt _ _) hK)
  ·exact hv.elim
 ·exact hv.elim
theorem Nd{o:Oper}{t:TypeId}{parts:Array (Nat×Operand)}{z:PV}{n by_:Nat}{ps:List (Nat×Nat×aF)}{d:Nat}(ho:o.op= .build t parts)(hd:o.dst=some d)(an:d<C.N)(h:Qv C ρ fr hp a.tmps w)
  (hz:gB C.P t=some (n,by_,z)) (ez:uV C.P t parts.toList=some ps)
  (hv:oP z.cells.length (ps.map fun p=>(p.1,p.2.1,ev fr p.2.2))/\K (ae fr d (.aH (fa z.cells ((ps.map fun p=>(p.1,p.2.1,ev fr p.2.2)).map fun p=>(p.1,(df p.2.2).getD []))))) hp):Q5 C ρ o a w K:=by
 obtain⟨bQ,hK⟩:=hv;obtain⟨ti,zv,i1,i2,i3,i4,i5⟩:=nS hz;have F6:mi (b8 C ρ hp w) z.cells zv.cells:=by have h0:Rows w (aB C ρ hp) z.cells zv.cells:=(nM i5).rows;exact⟨h0.1,fun i x hx=>b8.MP (h0.2 i x hx)⟩
 have nu:(parts.map fun(x:Nat×Operand)=>(x.1,a.eval x.2)).toList=parts.toList.map fun x=>(x.1,a.eval x.2):=by simp
 have key:∀(f:Nat×Operand->Option (Nat×Nat×aF))(place:Nat->Option (Nat×Nat)),parts.toList.mapM f=some ps->(∀x q,f x=some q->place x.1=some (q.1,q.2.1)/\bA x.2=some q.2.2)->
   ∃cV,Instr.fill place zv.cells (parts.map fun(x:Nat×Operand)=>(x.1,a.eval x.2)).toList=some cV/\
    mi (b8 C ρ hp w) (fa z.cells ((ps.map fun p=>(p.1,p.2.1,ev fr p.2.2)).map fun p=>(p.1,(df p.2.2).getD []))) cV:=by
  intro f place hm hf;rw[nu];refine xr place _ _ _ _ F6 (by simp[(iV hm).1]) (fun i p q tt pO=>?_);simp only[List.map_map,Kap,Kaa]at pO;obtain⟨q0,ib,rfl⟩:=pO;obtain⟨x,hx,kP,rfl⟩:=Jc hm tt ib;obtain⟨f1,f2⟩:=hf x q0 kP;obtain⟨cs,o1,o2,o3⟩:=bQ (q0.1,q0.2.1,ev fr q0.2.2) (KaL.2 ⟨q0,Kah ib,rfl⟩);simp only[Function.comp]at o1 o2 o3⊢;simp only[o1,Kbo];obtain⟨r1,r2,_⟩:=KZ (bU h f2) o1;exact⟨by rw[o2];exact f1,⟨r1,r2⟩,by rw[o2];exact o3⟩
 have fin:∀cV,(∀w',(Instr.build t (parts.map fun(x:Nat×Operand)=>(x.1,a.eval x.2))).run C.P w'= .ok (.agg cV) w')->
   mi (b8 C ρ hp w) (fa z.cells ((ps.map fun p=>(p.1,p.2.1,ev fr p.2.2)).map fun p=>(p.1,(df p.2.2).getD []))) cV->Q5 C ρ o a w K:=by
  intro cV bD hr;refine⟨.agg cV,fun w'=>?_,_,_,by rw[hd];exact h.ae (p:=.aH _) ⟨cV,rfl,hr.1,hr.2⟩ an,hK⟩;unfold execOp;simp only[ho,Kak];have:=bD w';rw[show(parts.map fun(x:Nat×Operand)=>(x.1,a.eval x.2))=(parts.map fun x=>match x with|(i,x)=>(i,a.eval x))from rfl]at this;rw[this];rfl
 unfold uV at ez;split at ez
 ·rename_i fs hu;simp only[Kab]at ez;obtain⟨pl,cJ,hm⟩:=ez;obtain⟨cV,g1,g2⟩:=key _ (fun i=>pl[i]?) hm (fun x q hq=>by simp only[Kab,Kaa]at hq;obtain⟨r,hr,y,hy,rfl⟩:=hq;exact⟨by simpa using hr,hy⟩);refine fin cV (fun w'=>?_) g2;unfold Instr.build;have ew:=run_places (P:=C.P) w' fs.toList pl cJ;simp[Kak,qa i1 i2,fk hu,Kbl,ew]at g1⊢;simp[g1]
 ·rename_i len e hu;simp only[Kab]at ez;obtain⟨m,rh,hm⟩:=ez;obtain⟨cV,g1,g2⟩:=key _ (fun i=>some (i*m,m)) hm (fun x q hq=>by simp only[Kaa]at hq;obtain⟨y,hy,rfl⟩:=hq;exact⟨rfl,hy⟩);refine fin cV (fun w'=>?_) g2;unfold Instr.build;simp only[Kak,qa i1 i2,fk hu,iw rh,Kai,g1,KaN]
 ·simp at ez
end Go.FW
namespace Go.FW
open Go
variable {C : Ctx} {ρ : Nat -> Option Nat} {fr : Fr} {hp : HP} {tmps : Array Value} {w : World} {a : Act} {K : Qg}
theorem Bu{x:PV}(h:jb x=true):∃β n,x= .aq β 0 n/\5000000<=β:=by
 unfold jb at h;split at h
 ·exact⟨_,_,rfl,by simpa using h⟩
 ·cases h
theorem Jd{γ:Nat}:fL γ (dU γ fr)=dU γ fr:=by
 funext i;unfold fL dU;generalize fr i=p;cases p with
 |aC aS e ty xs=>
  simp only[cu];split
  ·rfl
  ·rename_i bh;simp[fS,bh]
 |aE aS o n=>simp only[cu];split<;>rfl
 |np aS o n=>simp only[cu];split<;>rfl
 |fn f first cap=>
  simp only[cu];split
  ·rfl
  ·unfold bl;split<;>rfl
 |aH cs=>rfl
 |dk cs=>rfl
 |cm cs q=>rfl
 |_=>simp only[cu,bl];split<;>rfl
theorem sg{γ β o n:Nat}{b':Option Nat}{ao:HB}{w':World}{v:Value}(h:Qv C ρ fr hp tmps w)(hx:Ext (fun b=>ρ γ=some b/\∃hb,hp γ=some hb/\hb.fz=false) w w')(bh:β≠γ)
  (hr:dw ρ hp w β o n v):dw (rb ρ γ b') (Qi hp γ ao) w' β o n v:=
 dw.move hr ⟨lB bh,fun hb aj=>⟨hb,by simp[Qi,bh,aj],rfl,Kag _,fun b cap h1 h2=>
  iv (hx.block b (iy h2) (fun⟨e1,jq,e2,_⟩=>bh (h.inj β γ b (by simp[aj]) (by simp[e2]) h1 e1))) h2⟩⟩
theorem dw.slice{β o n:Nat}{v:Value}(h:dw ρ hp w β o n v):∃ad m c,v= .slice ad m c:=by
 obtain⟨_,_,_,⟨_,e,_⟩|⟨_,_,_,e,_⟩⟩:=h
 ·exact⟨_,_,_,e⟩
 ·exact⟨_,_,_,e⟩
theorem yo{β:Nat}(h:1000000<=β):bm β=true:=by simp[bm];omega
theorem Cq{β:Nat}(h:2000000<=β):aI β=false:=by simp[aI];omega
theorem Qv.zM{γ b ty cap:Nat}{cur:Array Value}{xs:List PV}(h:Qv C ρ (dU γ fr) hp tmps w)(hB:bm γ=true)(ah:hp γ=some ⟨1,ty,[],false⟩)(aZ:ρ γ=some b)
  (h1:w.heap[b]? =some (.cells cur ty (0,0))) (h2:cur.size=cap) (h3:xs.length<=cap) (h4:cap<=maxLen) (hr:xs.all jb=true)
  (h6:∀(i β n:Nat),xs[i]? =some (.aq β 0 n)->dw ρ hp w β 0 n (cur.getD i undef)):Qv C ρ (FW.ae (dU γ fr) γ (.aC γ 1 ty xs)) hp tmps w:=by
 have nC:∀(i:Nat)(x:PV),xs[i]? =some x->∃β n,x= .aq β 0 n/\5000000<=β:=fun i x hx=>Bu (Kaw.1 hr _ (Kah hx));have:=h.Gd (w':=w) (γ:=γ) (b:=b) (e:=1) (ty:=ty) (xs':=xs) (cur':=cur) (cap:=cap) hB (by omega) ah rfl rfl rfl rfl aZ (Ext.refl _ _) (fun _ _ h=>h) h1 (by omega) h3 h4
  (fun i x hx=>by obtain⟨β,n,rfl,_⟩:=nC i x hx;rfl)
  (fun i x hx j y hy=>by
   obtain⟨β,n,rfl,aj⟩:=nC i x hx;rw[show(PV.aq β 0 n).aQ=[.aq β 0 n]from rfl]at hy;have hj:j<1:=by have:=(Kad.1 hy).1;simpa using this
   obtain rfl:j=0:=by omega
   simp at hy;subst hy;rw[Kb4,KaM];exact⟨yo (by omega),h6 i β n hx⟩)
 rwa[Jd]at this
theorem yp{γ k cap:Nat}{ρ':Nat->Option Nat}{hp':HP}{b ty:Nat}{cur:Array Value}(hB:bm γ=true)(h1:hp' γ=some ⟨1,ty,[],false⟩)(h2:ρ' γ=some b)(h3:w.heap[b]? =some (.cells cur ty (0,0)))(h4:cur.size=cap)(h5:cap<=maxLen)(h6:k<=cap):
  Qj C ρ' hp' w (.aE γ 0 k) (.slice (some ⟨b,0,none⟩) k cap):=
 ⟨hB,⟨1,ty,[],false⟩,b,cap,h1,h2,by simp,⟨cur,ty,h3,by simp[h4]⟩,by omega,h6⟩
theorem OH{o:Oper}{t e:TypeId}{len n by_:Nat}{z:PV}{parts:Array (Nat×Operand)}{ps:List aF}{d:Nat}{Q:Exit->Act->World->Prop}(ho:o.op= .buildSlice t len parts)(hd:o.dst=some d)(an:d<C.N)(aN:a.defers=[])(h:Qv C ρ fr hp a.tmps w)
  (hu:C.P.underlying t=some (.slice e)) (hz:gB C.P e=some (n,by_,z)) (ox:parts.toList.map (·.1)=List.range len) (gM:z.cells.length=n) (ez:(parts.toList.mapM fun p=>bA p.2)=some ps)
  (LH:kJ (ps.map (ev fr))=true) (hv:Lc n e (ps.map (ev fr)) d fr hp K):o.wp C.P a w (bZ C true w K) Q:=by
 obtain⟨rfl,hK⟩:=hv;obtain⟨ti,zv,i1,i2,i3,i4,i5⟩:=nS hz;obtain⟨m1,m2⟩:=iV ez;obtain⟨u,rfl⟩:∃u,ps=[u]:=by
  match ps,LH with
  | [],hb=>simp[kJ]at hb
  | [u],_=>exact⟨u,rfl⟩
  |u::v::ps,hb=>simp[kJ]at hb
 have nC:jb (ev fr u)=true:=by simpa[kJ]using LH
 obtain⟨β,m,nu,aj⟩:=Bu nC;obtain⟨⟨i,x⟩,rm⟩:∃p,parts.toList=[p]:=by
  match hq:parts.toList with
  | []=>rw[hq]at m1;simp at m1
  | [p]=>exact⟨p,rfl⟩
  |p::q::r=>rw[hq]at m1;simp at m1
 rw[rm]at ox m2;obtain rfl:len=1:=by have:=congrArg List.length ox;simpa using this.symm
 obtain rfl:i=0:=by simpa using ox
 have hxu:bA x=some u:=by obtain⟨x',aL,FP⟩:=m2 0 u rfl;simp at aL;subst aL;exact FP
 have hx:=bU h hxu;rw[nu]at hx;have pP:dw ρ hp w β 0 m (a.eval x):=hx;obtain⟨ad,m',c',hvx⟩:=pP.slice;have hN:=C.hN;have mB:ct d<5000000:=by unfold ct;omega
 have hB:bm (ct d)=true:=yo (by unfold ct;omega);have hY:aI (ct d)=false:=Cq (by unfold ct;omega);obtain⟨hs,he⟩:=h.rJ (ct d) hY rX ⟨1,e,[],false⟩ #[a.eval x] 1 _ (.inl rfl) (by simp) (by simp) (by rw[iW];omega) (by simp) (by simp) (by simp);have dH:=hs.zM (cur:= #[a.eval x]) (cap:=1) (xs:=[.aq β 0 m]) hB (by simp[Qi]) (eW _ _ _) (jG w _) (by simp) (by simp) (by rw[iW];omega) (by simp[jb,aj]) (fun i bo n' hi=>by
  match i,hi with
  |0,hi=>simp at hi;obtain⟨rfl,rfl⟩:=hi;exact sg h (Ext.alloc w _ _) (by omega) pP
  |i+1,hi=>simp at hi)
 rw[Kbs,Kby,nu]at hK;refine fK (v:=.slice (some ⟨w.heap.size,0,none⟩) 1 1) ?_ (bZ.ir hd an aN dH (fun _=>he) (yp hB (by simp[Qi]) (eW _ _ _) (jG w _) (by simp) (by rw[iW];omega) (by omega)) hK);unfold execOp;have FR:(parts.map fun x=>match x with|(i,x)=>(i,a.eval x)).toList=[(0,a.eval x)]:=by simp[rm]
 simp only[ho,Instr.buildSlice,Kak,fk hu,Kai,iw (show dh C.P e=some 1 by simp[dh,i1,i3]),FR];simp[KaN,Kak,qa i1 i2,Instr.fill,hvx,Value.cells,newRow,show Array.range 1= #[0]from rfl]
theorem Nf{o:Oper}{t:TypeId}{n:Nat}{x:Operand}{cs:List PV}{d:Nat}{Q:Exit->Act->World->Prop}(ho:o.op= .box t x)(hd:o.dst=some d)(an:d<C.N)(aN:a.defers=[])(h:Qv C ρ fr hp a.tmps w)
  (hx:Qj C ρ hp w (.aH cs) (a.eval x)) (hv:o6 n t cs d fr hp K):o.wp C.P a w (bZ C true w K) Q:=by
 obtain⟨⟨hlen,hn,hU,mK⟩,hK⟩:=hv;obtain⟨vs,ex,dI,ia⟩:=hx;have hN:=C.hN;have hB:bm (ct d)=true:=yo (by unfold ct;omega);have hY:aI (ct d)=false:=Cq (by unfold ct;omega);obtain⟨hs,he⟩:=h.rJ (ct d) hY rX ⟨n,t,[],false⟩ vs 1 _ (.inl rfl) (by simp;omega) (by simp) (by rw[iW];omega) hn (by simp) (by simp);have a9:∀(i:Nat)(y:PV),cs[i]? =some y->b8 C (rb ρ (ct d) (some w.heap.size)) (Qi hp (ct d) ⟨n,t,[],false⟩) (w.alloc (.cells vs t)) y (vs.getD i undef):=fun i y hi=>by
  have hm:=Kah hi;have Mb:∀β∈y.cG,β≠ct d:=fun β aj e=>by have:=Kaw.1 mK y hm;subst e;simp[aj]at this
  refine(ia i y hi).move ⟨fun b hb _=>xh w _ b hb,fun b hb hX=>?_,by rw[xj];omega⟩ (fun β aj=>⟨lB (Mb β aj),fun hb hh=>⟨hb,by simp[Qi,Mb β aj,hh],rfl,Kag _,fun b cap _ hc=>iv (xh w _ b (iy hc)) hc⟩⟩);rintro(bf|⟨γ,hg,h1,h2,h3⟩)
  ·exact hX (.inl bf)
  ·by_cases ah:γ=ct d
   ·subst ah;rw[eW]at h3;cases h3;omega
   ·refine hX (.inr ⟨γ,hg,?_,h2,by rwa[lB ah]at h3⟩);simpa[Qi,ah]using h1
 have:=hs.Gd (w':=w.alloc (.cells vs t)) (γ:=ct d) (b:=w.heap.size) (e:=n) (ty:=t) (xs':=[.aH cs]) (cur':=vs) (cap:=1) hB hn (show Qi hp (ct d) ⟨n,t,[],false⟩ (ct d)=some ⟨n,t,[],false⟩by simp[Qi]) rfl rfl rfl rfl (eW _ _ _) (Ext.refl _ _) (fun _ _ h=>h) (jG w _) (by omega) (by simp) (by rw[iW];omega)
  (fun i x hx=>by
   match i,hx with
   |0,hx=>simp at hx;subst hx;exact hlen
   |i+1,hx=>simp at hx)
  (fun i x hx j y hy=>by
   match i,hx with
   |0,hx=>simp at hx;subst hx;rw[Kca,Ka2];exact a9 j y hy
   |i+1,hx=>simp at hx)
 rw[Jd]at this;refine fK (v:=.pointer (some ⟨w.heap.size,0,none⟩)) (w':=w.alloc (.cells vs t)) ?_ (bZ.ir (p:=.np (ct d) 0 0) hd an aN this (fun _=>he) ⟨hB,w.heap.size,⟨n,t,[],false⟩,eW _ _ _,by simp[Qi],by simp⟩ hK);unfold execOp;simp only[ho,Instr.box,newVar,newRow,ex,Value.cells];simp
theorem Ng{o:Oper}{t:TypeId}{n:Nat}{x:Operand}{px:PV}{d:Nat}{Q:Exit->Act->World->Prop}(ho:o.op= .box t x)(hd:o.dst=some d)(an:d<C.N)(aN:a.defers=[])(h:Qv C ρ fr hp a.tmps w)
  (hx:Qj C ρ hp w px (a.eval x)) (hv:dO n t px d fr hp K):o.wp C.P a w (bZ C true w K) Q:=
 OD ho hd an aN h hx (fun _ e hb=>Nf ho hd an aN h (e▸hx) hb) hv
theorem Nh {o:Oper} {s x:Operand} {t e:TypeId} {n by_:Nat} {z:PV} {ps px:PV} {d:Nat} {Q:Exit->Act->World->Prop}
  (ho:o.op= .call { callee:=.builtin .append,args:= #[s,x],argTypes:= #[t,t] }) (hd:o.dst=some d) (an:d<C.N) (aN:a.defers=[]) (h:Qv C ρ fr hp a.tmps w)
  (hu:C.P.underlying t=some (.slice e)) (hz:gB C.P e=some (n,by_,z)) (gM:z.cells.length=n) (hs:Qj C ρ hp w ps (a.eval s)) (hx:Qj C ρ hp w px (a.eval x))
  (hv:sS n by_ e ps px d fr hp K):o.wp C.P a w (bZ C false w K) Q:=by
 obtain⟨ti,zv,i1,i2,i3,i4,i5⟩:=nS hz;have hN:=C.hN;have mB:ct d<5000000:=by unfold ct;omega
 have Lo:bm (ct d)=true:=yo (by unfold ct;omega);have hYd:aI (ct d)=false:=Cq (by unfold ct;omega);unfold sS at hv;split at hv
 ·rename_i δ;split at hv
  ·rename_i Gq ty' y acn;obtain⟨rfl,hyr,rfl,hv⟩:=hv;obtain⟨β,m,rfl,aj⟩:=Bu hyr;obtain⟨_,aeG,b,cap,gδ,rδ,ex,_,_,_⟩:=hx;have vN:=h.cd Gq;rw[acn]at vN;obtain⟨_,_,b2,cq,cur,vw,q1,q2,q3,q4,q5,q6,q7,q8,q9,_,oE⟩:=vN;rw[gδ]at q2;cases q2;rw[rδ]at q1;cases q1;rw[Kca]at ex;have cr:=oE 0 _ rfl 0 (.aq β 0 m) rfl;simp only[Kca,Ka2]at cr;have pP:dw ρ hp w β 0 m (cur.getD 0 undef):=cr.2;obtain⟨ad,m',c',ze⟩:=pP.slice;have h0s:0<cur.size:=by simp at q8;omega
   have mA:w.cell? ⟨b,0,none⟩=some (cur.getD 0 undef):=iu q6 h0s;obtain⟨u,hu0⟩:∃u,cur.getD 0 undef=u:=⟨_,rfl⟩
   rw[hu0]at pP ze mA;have tp:∀(j:Nat)(v:Value),[u][j]? =some v->w.cell? ((⟨b,0,none⟩:Addr).add j)=some v:=fun j v hj=>by
    have hj0:j<1:=by have:=(Kad.1 hj).1;simpa using this
    obtain rfl:j=0:=by omega
    simp at hj;subst hj;rw[KbC,KaM];exact mA
   have oB:zv.cells.size=1:=by have:=(nM (w:=w) (X:=aB C ρ hp) i5).cells.1;omega
   split at hv
   ·obtain⟨hb,hK⟩:=hv;have es:=hs.rK;have bD:=run_append_nil (P:=C.P) w t o.type e ti zv hu i1 i2 ⟨b,0,none⟩ 1 cap [u] (by simp[i3]) tp (by omega) (by omega) (by rw[i4];omega);have fD:=grownCap_ge w 1 0 e;have jr:=grownCap_le_maxLen w 1 0 e (by rw[iW];omega);generalize grownCap w 1 0 e=G at bD fD jr;have ia:([u].toArray++Builtin.zeroCells zv.cells (G-1)).size=G:=by simp[size_zeroCells,oB];omega
    have ab6:([u].toArray++Builtin.zeroCells zv.cells (G-1)).size=G*1:=by omega
    have lO:([u].toArray++Builtin.zeroCells zv.cells (G-1)).getD 0 undef=u:=by rw[gV,if_pos (by simp),pX];rfl
    obtain⟨ee,_⟩:=h.rJ (ct d) hYd rX ⟨1,e,[],false⟩ ([u].toArray++Builtin.zeroCells zv.cells (G-1)) G _ (.inr rfl) ab6 (by simp) jr (by simp) (by simp) (by simp);have dH:=ee.zM (cap:=G) (xs:=[.aq β 0 m]) Lo (by simp[Qi]) (eW _ _ _) (jG w.drew _) ia (by simpa using fD) jr (by simp[jb,aj]) (fun i bo n' hi=>by
     match i,hi with
     |0,hi=>simp at hi;obtain⟨rfl,rfl⟩:=hi;rw[lO];exact sg h ((Ext.drew w _).trans (Ext.alloc w.drew _ _)) (by omega) pP
     |i+1,hi=>simp at hi)
    exact fK (oJ ho es ex bD) (bZ.ir hd an aN dH (by simp) (yp Lo (by simp[Qi]) (eW _ _ _) (jG w.drew _) ia jr fD) hK)
   ·rename_i γ k;split at hv
    ·rename_i aS lj xs acm;obtain⟨⟨rfl,afh,hY,rfl,rfl,tz,hby,vX⟩,⟨hb,ah,js⟩,hK⟩:=hv;obtain⟨hB,om,b1,yM,g1,g2,es,g4,g5,g6⟩:=hs;rw[ah]at g1;cases g1;have vN:=h.cd aS;rw[acm]at vN;obtain⟨_,_,b1',ao,iG,oc,p1,p2,p3,p4,p5,p6,p7,p8,p9,_,p11⟩:=vN;rw[ah]at p2;cases p2;rw[g2]at p1;cases p1;rw[Kca]at es;obtain⟨aet,afj,d1,d2⟩:=g4;rw[p6]at d1;cases d1;rw[p4,Kb4,Ka2]at d2;rw[Kb4]at p7;obtain rfl:oc=yM:=by omega
     have Mj:∀(i bo n':Nat),xs[i]? =some (.aq bo 0 n')->dw ρ hp w bo 0 n' (iG.getD i undef):=fun i bo n' hi=>by have:=p11 i _ hi 0 (.aq bo 0 n') rfl;simp only[Kb4,KaM]at this;exact this.2
     have Mk:∀(i bo n':Nat),xs[i]? =some (.aq bo 0 n')->bo≠aS:=fun i bo n' hi=>by have:=Kaw.1 tz _ (Kah hi);simp[jb]at this;omega
     have cx:(xs++[PV.aq β 0 m]).all jb=true:=by rw[List.all_append,tz];simp[jb,aj]
     have aY:=(h.own aS hb ah).ca;rw[g2]at aY;obtain⟨o1,o2,_⟩:=aY;replace o1:=Ctx.pj o1 hY;have tq:∀u'∈[u],u'.oneCell'=true:=by intro u' jA;simp at jA;subst jA;rw[ze];rfl
     by_cases tv:xs.length+1<=oc
     ·have bD:=run_append_room (P:=C.P) w t o.type lj ti hu i1 b1 xs.length oc iG p6 ⟨b,0,none⟩ 1 cap [u] (by simp[i3]) tp tq tv (by simp[i3];omega);rw[i3,Kb4]at bD;have lN:xs.length+[u].length<=iG.size:=by simp;omega
      have ic:=tV (cur:=iG) (p:=xs.length) (cs:=[u]) lN;have fF:=fun k hk=>tU (cur:=iG) (p:=xs.length) (cs:=[u]) (k:=k) lN hk;generalize hW:(iG.toList.take xs.length++[u]++iG.toList.drop (xs.length+[u].length)).toArray=W at bD ic fF;have hE:Ext (fun c=>ρ aS=some c/\∃hb,hp aS=some hb/\hb.fz=false) w (w.setRow b1 W):=(tQ w b1 W).mono (fun i _ hi=>⟨hi▸g2,hb,ah,js⟩);have FC:(w.setRow b1 W).heap[b1]? =some (.cells W lj (0,0)):=setRow_heap w b1 iG W lj _ p6;have ee:=h.tF (w':=w.setRow b1 W) aS (some b1) ⟨1,lj,[],false⟩ hY rX hE
       (fun c hc=>by cases hc;exact⟨o1,by simpa using o2,.inr ⟨g2,hb,ah,js⟩⟩) (by simp) (by simp) (by simp)
       (fun c hc=>by cases hc;exact⟨W,oc,FC,by simp[ic];omega,by simp,p9,by simp⟩)
      have dH:=ee.zM (cap:=oc) (xs:=xs++[.aq β 0 m]) hB (by simp[Qi]) (eW _ _ _) FC (by omega) (by simpa using tv) p9 cx (fun i bo n' hi=>by
       rw[KaQ]at hi;by_cases eH:i<xs.length
       ·rw[if_pos eH]at hi;rw[fF i (by omega),if_neg (by omega)];exact sg h hE (Mk i bo n' hi) (Mj i bo n' hi)
       ·rw[if_neg eH]at hi;have FD:i-xs.length<1:=by have:=(Kad.1 hi).1;simpa using this
        obtain rfl:i=xs.length:=by omega
        rw[KbD]at hi;simp at hi;obtain⟨rfl,rfl⟩:=hi;rw[fF _ (by omega),if_pos (by simp),KbD];exact sg h hE (by omega) pP)
      exact fK (oJ ho es ex bD) (bZ.ir hd an aN dH (by simp) (yp hB (by simp[Qi]) (eW _ _ _) FC (by omega) p9 tv) hK)
     ·have eu:(iG.toList.take xs.length).length=xs.length:=by simp;omega
      have holds:∀(j:Nat)(v:Value),(iG.toList.take xs.length)[j]? =some v->w.cell? ((⟨b1,0,none⟩:Addr).add j)=some v:=fun j v hj=>by
       have dq:j<xs.length:=by have:=(Kad.1 hj).1;omega
       rw[Kax dq]at hj;rw[KbC,Ka2,iu p6 (by omega),xg iG j v hj]
      have bD:=run_append_grow (P:=C.P) w t o.type lj ti zv hu i1 i2 ⟨b1,0,none⟩ xs.length oc (iG.toList.take xs.length) (by rw[eu,i3,Kb4]) holds ⟨b,0,none⟩ 1 cap [u] (by simp[i3]) tp
       (by omega) (by omega) (growslice_fits (by omega) (by rw[i4];exact hby))
      have fD:=grownCap_ge w (xs.length+1) oc lj;have jr:=grownCap_le_maxLen w (xs.length+1) oc lj (by rw[iW];exact vX);generalize grownCap w (xs.length+1) oc lj=G at bD fD jr;have ia:((iG.toList.take xs.length).toArray++[u].toArray++Builtin.zeroCells zv.cells (G-(xs.length+1))).size=G:=by simp only[KbV,KbH,eu,size_zeroCells,oB,KaU,Kbg];omega
      have jt:∀i,i<xs.length+1->((iG.toList.take xs.length).toArray++[u].toArray++Builtin.zeroCells zv.cells (G-(xs.length+1))).getD i undef=if i<xs.length then iG.getD i undef else u:=fun i hi=>by
       rw[gV,if_pos (by simp only[KbV,KbH,eu,KaU,Kbg];omega),gV,KbH,eu];by_cases eH:i<xs.length
       ·rw[if_pos eH,if_pos eH,pX,Kae,Kax eH];simp[KaD]
       ·rw[if_neg eH,if_neg eH,pX,show i-xs.length=0 by omega];rfl
      generalize hW:(iG.toList.take xs.length).toArray++[u].toArray++Builtin.zeroCells zv.cells (G-(xs.length+1))=W at bD ia jt;obtain⟨ee,_⟩:=h.rJ aS hY rX ⟨1,lj,[],false⟩ W G _ (.inr rfl) (by simp[ia]) (by simp) jr (by simp) (by simp) (by simp);have hE:Ext (fun c=>ρ aS=some c/\∃hb,hp aS=some hb/\hb.fz=false) w (w.drew.alloc (.cells W lj)):=(Ext.drew w _).trans (Ext.alloc w.drew _ _);have dH:=ee.zM (cap:=G) (xs:=xs++[.aq β 0 m]) hB (by simp[Qi]) (eW _ _ _) (jG w.drew _) ia (by simpa using fD) jr cx (fun i bo n' hi=>by
       rw[KaQ]at hi;by_cases eH:i<xs.length
       ·rw[if_pos eH]at hi;rw[jt i (by omega),if_pos eH];exact sg h hE (Mk i bo n' hi) (Mj i bo n' hi)
       ·rw[if_neg eH]at hi;have FD:i-xs.length<1:=by have:=(Kad.1 hi).1;simpa using this
        obtain rfl:i=xs.length:=by omega
        rw[KbD]at hi;simp at hi;obtain⟨rfl,rfl⟩:=hi;rw[jt _ (by omega),if_neg (by omega)];exact sg h hE (by omega) pP)
      exact fK (oJ ho es ex bD) (bZ.ir hd an aN dH (by simp) (yp hB (by simp[Qi]) (eW _ _ _) (jG w.drew _) ia jr fD) hK)
    ·exact hv.elim
   ·exact hv.elim
  ·exact hv.elim
 ·exact hv.elim
theorem OI{o:Oper}{t e:TypeId}{len n by_:Nat}{z:PV}{parts:Array (Nat×Operand)}{ps:List aF}{d:Nat}{Q:Exit->Act->World->Prop}(ho:o.op= .buildSlice t len parts)(hd:o.dst=some d)(an:d<C.N)(aN:a.defers=[])(h:Qv C ρ fr hp a.tmps w)
  (hu:C.P.underlying t=some (.slice e)) (hz:gB C.P e=some (n,by_,z)) (ox:parts.toList.map (·.1)=List.range len) (Mr:len*n<=16777216) (gM:z.cells.length=n) (ez:(parts.toList.mapM fun p=>bA p.2)=some ps)
  (hv:jj n e (ps.map (ev fr)) d fr hp K):o.wp C.P a w (bZ C true w K) Q:=by
 unfold jj at hv;split at hv
 ·rename_i hb;exact OH ho hd an aN h hu hz ox gM ez hb hv
 ·exact PZ ho hd an aN h hu hz ox Mr gM ez hv
theorem Ni{o:Oper}{s x:Operand}{t e:TypeId}{n by_:Nat}{z:PV}{ps px:PV}{d:Nat}{Q:Exit->Act->World->Prop}
  (ho:o.op= .call { callee:=.builtin .append,args:= #[s,x],argTypes:= #[t,t] }) (hd:o.dst=some d) (an:d<C.N) (aN:a.defers=[]) (h:Qv C ρ fr hp a.tmps w)
  (hu:C.P.underlying t=some (.slice e)) (hz:gB C.P e=some (n,by_,z)) (gM:z.cells.length=n) (hs:Qj C ρ hp w ps (a.eval s)) (hx:Qj C ρ hp w px (a.eval x))
  (hv:fM n by_ e ps px d fr hp K):o.wp C.P a w (bZ C false w K) Q:=
 OF ho hd an aN h hu hz gM hs hx (fun _ hn=>Nh ho hd an aN h hu hz gM hs hx hn) hv
end Go.FW
namespace Go.FW
open Go
variable {C : Ctx} {ρ : Nat -> Option Nat} {fr : Fr} {hp : HP} {w : World} {a : Act} {K : Qg}
theorem Qwf {P : Program} {g : FuncId} (hg : (P.funcs[g]?).any (fun fn => fn.body.isSome && fn.name != "runtime.NumGoroutine") = true) (args : Array Value) (w : World) :
  (callFunc g args).run P w= .ok (.enter g args) w:=by
 cases hf:P.funcs[g]? with
 |none=>simp[hf]at hg
 |some fn=>
  simp only[hf,Option.any_some,Ka1,bne_iff_ne,ne_eq]at hg;obtain⟨h1,h2⟩:=hg;have h3:fn.body.isNone=false:=by cases hb:fn.body<;>simp[hb]at h1⊢
  have h4 : (fn.name == "runtime.NumGoroutine") = false := by simpa using h2
  have hn:¬(fn.body=none):=fun he=>by simp[he]at h1
  unfold callFunc;simp[hf,h2,hn]
theorem Nj{o:Oper}{f:Operand}{args:Array Operand}{ts:Array TypeId}{pf:aF}{aM:List aF}{pr:Bool}{Q:Exit->Act->World->Prop}
  (ho:o.op= .call { callee:=.value f,args:=args,argTypes:=ts }) (an:∀d,o.dst=some d->d<C.N) (aN:a.defers=[]) (h:Qv C ρ fr hp a.tmps w)
  (hf:bA f=some pf) (cl:args.toList.mapM bA=some aM) (hv:eD C pr (ev fr pf) (aM.map (ev fr)) o.dst fr hp K):o.wp C.P a w (bZ C pr w K) Q:=by
 have pI:=bU h hf;unfold eD at hv;split at hv
 ·rename_i g first cap nu
  rw[nu]at pI;obtain⟨hg,ab2⟩:=hv;obtain⟨fv,cv,ef,h1,h2,h3,h4⟩:=pI;obtain⟨m1,m2⟩:=B7 h cl;have acH:(args.toList.map a.eval).toArray=args.map a.eval:=Array.ext' (by simp);rw[acH]at m2;have hc:=ab2 ρ a.tmps w fv cv (args.map a.eval) an h h1 h2 (by simpa using m1.symm) h3 h4 m2;have hex:(execOp a.eval o).run C.P w= .ok (.enter g (fv++args.map a.eval++cv)) w:=by unfold execOp;simp only[ho,resolve,Kak,KaN,Kai,ef,Deferred.ofValue,invoke];rw[Qwf hg]
  unfold Oper.wp;rw[hex];refine hc.mono fun e w' hp'=>?_;obtain⟨v,aw,hp',rfl,hs,hx,hK⟩:=hp';refine⟨by rw[qe];exact aN,⟨aw,hp',?_,hK⟩,hx⟩;cases hd:o.dst with
  |some d=>rw[hd]at hs;exact hs
  |none=>rw[hd]at hs;exact hs
 ·exact hv.elim
theorem oM{α:Type}{xs:Array α}{l:List α}(h:xs.toList=l):xs=l.toArray:=by subst h;simp
theorem uv{P:Program}{t e:TypeId}(h:nV P t=some e):P.underlying t=some (.slice e):=by
 unfold nV at h;split at h
 ·rename_i hq;cases h;exact hq
 ·cases h
theorem IH{dr:Bool}{o:Oper}(bO:(ej C.P dr o).cls=0)(an:∀d,o.dst=some d->d<C.N)(h:Qv C ρ fr hp a.tmps w)(hv:aV C (ej C.P dr o) fr hp K):Q5 C ρ o a w K:=by
 unfold ej at bO hv;cases ab:jH C.P dr o with
 |none=>rw[ab]at hv;exact hv.elim
 | some so=>
  rw[ab]at bO hv;simp only[Kbo]at bO hv;unfold jH at ab;split at ab
  case h_1 x d hop hd=>simp only[Kaa]at ab;obtain⟨y,hy,rfl⟩:=ab;exact JR (.inl hop) hd (an d hd) h (bU h hy) hv
  case h_2 x d hop hd=>simp only[Kaa]at ab;obtain⟨y,hy,rfl⟩:=ab;exact JR (.inr hop) hd (an d hd) h (bU h hy) hv
  case h_3 c x y d hop hd=>
   simp only[Kab,Kaa]at ab;obtain⟨pc,hc,px,hx,py,hy,rfl⟩:=ab;exact Np hop hd (an d hd) h (bU h hc) (bU h hx) (bU h hy) hv
  case h_4 op t x y t2 d hop hd=>
   simp only[Kab,Kaa]at ab;obtain⟨px,hx,py,hy,rfl⟩:=ab;unfold vl at hv;split at hv
   ·rename_i ng ov;split at ov
    ·rename_i dH;exact N4 hop ov dH hd (an d hd) h (bU h hx) (bU h hy) hv
    ·cases ov
   split at hv
   ·rename_i ng ov;split at ov
    ·rename_i dH;exact N2 hop ov dH hd (an d hd) h (bU h hx) (bU h hy) hv
    ·cases ov
   refine NX hop hd (an d hd) h (bU h hx) (bU h hy) (fun hb=>?_) hv;split at hb
   ·assumption
   ·cases hb
  case h_5 op t x d hop hd=>simp only[Kaa]at ab;obtain⟨y,hy,rfl⟩:=ab;exact PO hop hd (an d hd) h (bU h hy) hv
  case h_6 s t x d hop hd=>
   split at ab
   ·rename_i ds k hS hT;simp only[Kaa]at ab;obtain⟨y,hy,rfl⟩:=ab;exact No hop hd (an d hd) h hS hT (bU h hy) hv
   ·cases ab
  case h_7 t x i d hop hd=>
   simp only[Kab]at ab;obtain⟨px,hx,pi,hi,ab⟩:=ab;split at ab
   ·rename_i e hu;simp only[Kaa]at ab;obtain⟨n,hn,rfl⟩:=ab;exact N5 hop hd (an d hd) h hu hn (bU h hx) (bU h hi) hv
   ·rename_i len e hu;simp only[Kaa]at ab;obtain⟨n,hn,rfl⟩:=ab;exact Nq hop hd (an d hd) h hu hn (bU h hx) (bU h hi) hv
   ·cases ab
  case h_8 t x i d hop hd=>
   simp only[Kab]at ab;obtain⟨px,hx,pi,hi,ab⟩:=ab;split at ab
   ·rename_i len e hu;simp only[Kab,Kaa]at ab;obtain⟨n,hn,ag,fX,rfl⟩:=ab;exact OB hop hd (an d hd) h hu hn fX (bU h hx) (bU h hi) hv
   ·rename_i hu;cases ab;exact OA hop hd (an d hd) h hu (bU h hx) (bU h hi) hv
   ·cases ab
  case h_9 t x j d hop hd=>
   simp only[Kab]at ab;obtain⟨px,hx,ab⟩:=ab;split at ab
   ·rename_i fs hu;simp only[Kab]at ab;obtain⟨f,hf,n,hn,ab⟩:=ab;split at ab
    ·cases ab
    ·rename_i gJ;simp only[Kar]at ab;subst ab;exact Oy hop hd (an d hd) h hu hf hn gJ (bU h hx) hv
   ·cases ab
  case h_10 t x j d hop hd=>
   simp only[Kab]at ab;obtain⟨px,hx,ab⟩:=ab;split at ab
   ·rename_i fs hu;simp only[Kab,Kaa]at ab;obtain⟨f,hf,n,hn,ag,fX,rfl⟩:=ab;exact Nr hop hd (an d hd) h hu hf hn fX (bU h hx) hv
   ·cases ab
  case h_17 t parts d hop hd=>
   simp only[Kab,Kaa]at ab;obtain⟨⟨n,by_,z⟩,hz,ps,ez,rfl⟩:=ab;simp only[aV,gZ]at hv;split at hv
   ·exact Nd hop hd (an d hd) h hz ez hv
   ·exact OC hop hd (an d hd) h hz ez hv
  case h_18 t x lo hi m d hop hd=>
   simp only[Kab,Kaa]at ab;obtain⟨px,hx,zQ,nw,wJ,pK,pm,hm,e,he,n,hn,rfl⟩:=ab;have hu:C.P.underlying t=some (.slice e):=by
    unfold nV at he;split at he
    ·rename_i hq;cases he;exact hq
    ·cases he
   exact PU hop hd (an d hd) h hu hn (bU h hx) nw pK hm hv
  case h_19 x i d hop hd=>simp only[Kaa]at ab;obtain⟨y,hy,rfl⟩:=ab;exact N3 hop hd (an d hd) h (bU h hy) hv
  case h_20 f first cap d hop hd=>
   simp only[Kab,Kaa]at ab;obtain⟨pf,h1,pc,h2,rfl⟩:=ab;exact PW hop hd (an d hd) h h1 h2 hv
  case h_11=>simp only[Kab,Kaa]at ab;obtain⟨_,_,_,_,_,_,rfl⟩:=ab;cases bO
  case h_12=>simp only[Kab,Kaa]at ab;obtain⟨_,_,_,_,_,_,rfl⟩:=ab;cases bO
  case h_13=>simp only[Kab,Kaa]at ab;obtain⟨_,_,_,_,rfl⟩:=ab;cases bO
  case h_14=>simp only[Kaa]at ab;obtain⟨_,_,rfl⟩:=ab;cases bO
  case h_15=>simp only[Kab,Kaa]at ab;obtain⟨_,_,_,_,_,_,_,_,rfl⟩:=ab;cases bO
  case h_16=>
   simp only[Kab]at ab;obtain⟨_,_,_,_,ab⟩:=ab;split at ab
   ·simp only[Kaa]at ab;obtain⟨_,_,rfl⟩:=ab;cases bO
   ·cases ab
  case h_21 hop=>simp only[Kaa]at ab;obtain⟨y,hy,rfl⟩:=ab;exact Ns hop an h (bU h hy) hv
  case h_22 c hop=>
   obtain⟨callee,args,ts⟩:=c;split at ab
   ·simp only[Kab,Kaa]at ab;obtain⟨_,_,_,_,rfl⟩:=ab;cases bO
   ·rename_i x t d mz cl iN hd;obtain rfl:args= #[x]:=oM cl;obtain rfl:ts= #[t]:=oM iN;cases mz;split at ab
    ·rename_i hs;simp only[Kaa]at ab;obtain⟨y,hy,rfl⟩:=ab;exact N1 hop hd (an d hd) h (bU h hy) hs hv
    simp only[Kab,Kaa]at ab;obtain⟨e,he,y,hy,rfl⟩:=ab;exact N0 hop hd (an d hd) h (bU h hy) (uv he) hv
   ·rename_i x y d mz cl hd;simp only[Kab,Kaa]at ab;obtain⟨px,hx,py,hy,rfl⟩:=ab;obtain rfl:args= #[x,y]:=oM cl;cases mz;exact QG hop hd (an d hd) h (bU h hx) (bU h hy) hv
   ·rename_i x y d mz cl hd;simp only[Kab,Kaa]at ab;obtain⟨px,hx,py,hy,rfl⟩:=ab;obtain rfl:args= #[x,y]:=oM cl;cases mz;exact PN hop hd (an d hd) h (bU h hx) (bU h hy) hv
   ·simp only[Kab]at ab;obtain⟨_,_,_,_,_,_,ab⟩:=ab;split at ab
    ·simp only[Kab]at ab;obtain⟨_,_,ab⟩:=ab;split at ab
     ·cases ab;cases bO
     ·cases ab
    ·cases ab
   ·simp only[Kab]at ab;obtain⟨_,_,_,_,_,_,ab⟩:=ab;split at ab
    ·simp only[Kaa]at ab;obtain⟨_,_,rfl⟩:=ab;cases bO
    ·cases ab
   ·cases ab
  case h_23=>cases ab
theorem II{dr:Bool}{o:Oper}(bO:(ej C.P dr o).cls=1)(an:∀d,o.dst=some d->d<C.N)(h:Qv C ρ fr hp a.tmps w)(hv:aV C (ej C.P dr o) fr hp K):uT C ρ o a w K:=by
 unfold ej at bO hv;cases ab:jH C.P dr o with
 |none=>rw[ab]at hv;exact hv.elim
 | some so=>
  rw[ab]at bO hv;simp only[Kbo]at bO hv;unfold jH at ab;split at ab
  case h_11 t x d hop hd=>
   simp only[Kab,Kaa]at ab;obtain⟨px,hx,n,hn,ag,fX,rfl⟩:=ab;exact PT hop hd (an d hd) h hn fX (bU h hx) hv
  case h_1=>simp only[Kaa]at ab;obtain⟨_,_,rfl⟩:=ab;cases bO
  case h_2=>simp only[Kaa]at ab;obtain⟨_,_,rfl⟩:=ab;cases bO
  case h_3=>simp only[Kab,Kaa]at ab;obtain⟨_,_,_,_,_,_,rfl⟩:=ab;cases bO
  case h_4=>simp only[Kab,Kaa]at ab;obtain⟨_,_,_,_,rfl⟩:=ab;unfold vl at bO;split at bO<;>first|(cases bO;done)|(split at bO<;>cases bO)
  case h_5=>simp only[Kaa]at ab;obtain⟨_,_,rfl⟩:=ab;cases bO
  case h_6=>split at ab<;>first|cases ab|(simp only[Kaa]at ab;obtain⟨_,_,rfl⟩:=ab;cases bO)
  case h_7=>
   simp only[Kab]at ab;obtain⟨_,_,_,_,ab⟩:=ab;split at ab<;>first|cases ab|(simp only[Kaa]at ab;obtain⟨_,_,rfl⟩:=ab;cases bO)
  case h_8=>
   simp only[Kab]at ab;obtain⟨_,_,_,_,ab⟩:=ab;split at ab<;>first|(simp only[Kab,Kaa]at ab;obtain⟨_,_,_,_,rfl⟩:=ab;cases bO)|(cases ab;done)|(cases ab;cases bO)
  case h_9=>
   simp only[Kab]at ab;obtain⟨_,_,ab⟩:=ab;split at ab
   ·simp only[Kab]at ab;obtain⟨_,_,_,_,ab⟩:=ab;split at ab<;>first|(cases ab;done)|(simp only[Kar]at ab;subst ab;cases bO)
   ·cases ab
  case h_10=>
   simp only[Kab]at ab;obtain⟨_,_,ab⟩:=ab;split at ab<;>first|(cases ab;done)|(simp only[Kab,Kaa]at ab;obtain⟨_,_,_,_,_,_,rfl⟩:=ab;cases bO)
  case h_12=>simp only[Kab,Kaa]at ab;obtain⟨_,_,_,_,_,_,rfl⟩:=ab;cases bO
  case h_13=>simp only[Kab,Kaa]at ab;obtain⟨_,_,_,_,rfl⟩:=ab;cases bO
  case h_14=>simp only[Kaa]at ab;obtain⟨_,_,rfl⟩:=ab;cases bO
  case h_15=>simp only[Kab,Kaa]at ab;obtain⟨_,_,_,_,_,_,_,_,rfl⟩:=ab;cases bO
  case h_16=>
   simp only[Kab]at ab;obtain⟨_,_,_,_,ab⟩:=ab;split at ab
   ·simp only[Kaa]at ab;obtain⟨_,_,rfl⟩:=ab;cases bO
   ·cases ab
  case h_17=>simp only[Kab,Kaa]at ab;obtain⟨_,_,_,_,rfl⟩:=ab;cases bO
  case h_18=>simp only[Kab,Kaa]at ab;obtain⟨_,_,_,_,_,_,_,_,_,_,_,_,rfl⟩:=ab;cases bO
  case h_19=>simp only[Kaa]at ab;obtain⟨_,_,rfl⟩:=ab;cases bO
  case h_20=>simp only[Kab,Kaa]at ab;obtain⟨_,_,_,_,rfl⟩:=ab;cases bO
  case h_21=>simp only[Kaa]at ab;obtain⟨_,_,rfl⟩:=ab;cases bO
  case h_22=>
   split at ab
   ·simp only[Kab,Kaa]at ab;obtain⟨_,_,_,_,rfl⟩:=ab;cases bO
   ·split at ab
    ·simp only[Kaa]at ab;obtain⟨_,_,rfl⟩:=ab;cases bO
    ·simp only[Kab,Kaa]at ab;obtain⟨_,_,_,_,rfl⟩:=ab;cases bO
   ·simp only[Kab,Kaa]at ab;obtain⟨_,_,_,_,rfl⟩:=ab;cases bO
   ·simp only[Kab,Kaa]at ab;obtain⟨_,_,_,_,rfl⟩:=ab;cases bO
   ·simp only[Kab]at ab;obtain⟨_,_,_,_,_,_,ab⟩:=ab;split at ab
    ·simp only[Kab]at ab;obtain⟨_,_,ab⟩:=ab;split at ab
     ·cases ab;cases bO
     ·cases ab
    ·cases ab
   ·simp only[Kab]at ab;obtain⟨_,_,_,_,_,_,ab⟩:=ab;split at ab
    ·simp only[Kaa]at ab;obtain⟨_,_,rfl⟩:=ab;cases bO
    ·cases ab
   ·cases ab
  case h_23=>cases ab
theorem Q5.wp{o:Oper}{two:Bool}{Q:Exit->Act->World->Prop}(aN:a.defers=[])(h:Q5 C ρ o a w K):o.wp C.P a w (bZ C two w K) Q:=by obtain⟨v,hr,aw,hp',hs,hK⟩:=h;exact fK (hr w) ⟨by rw[qe];exact aN,⟨aw,hp',⟨ρ,hs⟩,hK⟩,fun _=>Ext.refl _ _⟩
theorem uT.wp{o:Oper}{two:Bool}{Q:Exit->Act->World->Prop}(aN:a.defers=[])(h:uT C ρ o a w K):o.wp C.P a w (bZ C two w K) Q:=by obtain⟨v,b,_,hr,aw,hp',hs,hK⟩:=h;exact fK (hr w rfl) ⟨by rw[qe];exact aN,⟨aw,hp',⟨ρ,hs⟩,hK⟩,fun _=>Ext.refl _ _⟩
theorem bZ.mono{two M6:Bool}{a':Act}{w':World}(h2:M6=true->two=true)(h:bZ C two w K a' w'):bZ C M6 w K a' w':=⟨h.1,h.2.1,fun hh=>h.2.2 (h2 hh)⟩
theorem QS{dr:Bool}{o:Oper}{Q:Exit->Act->World->Prop}(an:∀d,o.dst=some d->d<C.N)(aN:a.defers=[])(h:Qv C ρ fr hp a.tmps w)(hv:aV C (ej C.P dr o) fr hp K):
  o.wp C.P a w (bZ C (!(ej C.P dr o).fN) w K) Q:=by
 by_cases h0:(ej C.P dr o).cls=0
 ·exact(IH h0 an h hv).wp aN
 by_cases h1:(ej C.P dr o).cls=1
 ·exact(II h1 an h hv).wp aN
 unfold ej at h0 h1 hv⊢;cases ab:jH C.P dr o with
 |none=>rw[ab]at hv;exact hv.elim
 | some so=>
  rw[ab]at h0 h1 hv;simp only[Kbo]at h0 h1 hv⊢;have fin:∀ {two:Bool},(so.fN=false->two=true)->o.wp C.P a w (bZ C two w K) Q->o.wp C.P a w (bZ C (!so.fN) w K) Q:=fun h2 hw=>
   Oper.wp_mono (fun a' w' hA=>hA.mono (fun hh=>h2 (by simpa using hh))) hw
  unfold jH at ab;split at ab
  case h_12 t x y hop hd=>
   simp only[Kab,Kaa]at ab;obtain⟨px,hx,py,hy,n,hn,rfl⟩:=ab;exact fin (by simp[bN.fN]) (QR hop hd aN h hn (bU h hx) (bU h hy) hv)
  case h_13 t x d hop hd=>
   simp only[Kab,Kaa]at ab;obtain⟨px,hx,n,hn,rfl⟩:=ab;exact fin (fun _=>rfl) (Ng hop hd (an d hd) aN h (bU h hx) hv)
  case h_14 t d hop hd=>
   simp only[Kaa]at ab;obtain⟨⟨n,by_,z⟩,hz,rfl⟩:=ab;obtain⟨ti,zv,i1,i2,_,_,i5⟩:=nS hz;exact fin (fun _=>rfl) (Qyq hop hd (an d hd) aN h i1 i2 i5 hv)
  case h_15 t l c d hop hd=>
   simp only[Kab,Kaa]at ab;obtain⟨pl,hl,pc,hc,e,he,⟨n,by_,z⟩,hz,rfl⟩:=ab;exact fin (fun _=>rfl) (PY hop hd (an d hd) aN h (uv he) hz (bU h hl) (bU h hc) hv)
  case h_16 t len parts d hop hd=>
   simp only[Kab]at ab;obtain⟨e,he,⟨n,by_,z⟩,hz,ab⟩:=ab;split at ab
   ·rename_i vL;simp only[Kaa]at ab;obtain⟨ps,ez,rfl⟩:=ab;exact fin (fun _=>rfl) (OI hop hd (an d hd) aN h (uv he) hz vL.1 vL.2.1 vL.2.2 ez hv)
   ·cases ab
  case h_22 c hop=>
   obtain⟨callee,args,ts⟩:=c;split at ab
   ·rename_i f mz;simp only[Kab,Kaa]at ab;obtain⟨pf,hf,aM,cl,rfl⟩:=ab;cases mz;exact fin (two:=dr&& !GN C.P pf) (fun hh=>by simpa[bN.fN]using hh) (Nj hop an aN h hf cl hv)
   ·split at ab
    ·simp only[Kaa]at ab;obtain⟨_,_,rfl⟩:=ab;exact absurd rfl h0
    ·simp only[Kab,Kaa]at ab;obtain⟨_,_,_,_,rfl⟩:=ab;exact absurd rfl h0
   ·simp only[Kab,Kaa]at ab;obtain⟨_,_,_,_,rfl⟩:=ab;exact absurd rfl h0
   ·simp only[Kab,Kaa]at ab;obtain⟨_,_,_,_,rfl⟩:=ab;exact absurd rfl h0
   ·rename_i s x t u d mz cl iN hd;simp only[Kab]at ab;obtain⟨ps,hs,px,hx,e,he,ab⟩:=ab;split at ab
    ·rename_i FZ;subst FZ;simp only[Kab]at ab;obtain⟨⟨n,by_,z⟩,hz,ab⟩:=ab;split at ab
     ·rename_i gM;simp only[Kar]at ab;subst ab;obtain rfl:args= #[s,x]:=oM cl;obtain rfl:ts= #[t,t]:=oM iN;cases mz;exact fin (by simp[bN.fN]) (Ni hop hd (an d hd) aN h (uv he) hz gM (bU h hs) (bU h hx) hv)
     ·cases ab
    ·cases ab
   ·rename_i s x t u d mz cl iN hd;simp only[Kab]at ab;obtain⟨ps,hs,px,hx,e,he,ab⟩:=ab;split at ab
    ·rename_i FZ;subst FZ;simp only[Kaa]at ab;obtain⟨n,hn,rfl⟩:=ab;obtain rfl:args= #[s,x]:=oM cl;obtain rfl:ts= #[t,t]:=oM iN;cases mz;exact fin (by simp[bN.fN]) (OG hop hd (an d hd) aN h (uv he) hn (bU h hs) (bU h hx) hv)
    ·cases ab
   ·cases ab
  all_goals exfalso
  case h_1=>simp only[Kaa]at ab;obtain⟨_,_,rfl⟩:=ab;exact h0 rfl
  case h_2=>simp only[Kaa]at ab;obtain⟨_,_,rfl⟩:=ab;exact h0 rfl
  case h_3=>simp only[Kab,Kaa]at ab;obtain⟨_,_,_,_,_,_,rfl⟩:=ab;exact h0 rfl
  case h_4=>simp only[Kab,Kaa]at ab;obtain⟨_,_,_,_,rfl⟩:=ab;exact h0 (by unfold vl;split<;>first|rfl|(split<;>rfl))
  case h_5=>simp only[Kaa]at ab;obtain⟨_,_,rfl⟩:=ab;exact h0 rfl
  case h_6=>split at ab<;>first|(cases ab;done)|(simp only[Kaa]at ab;obtain⟨_,_,rfl⟩:=ab;exact h0 rfl)
  case h_7=>
   simp only[Kab]at ab;obtain⟨_,_,_,_,ab⟩:=ab;split at ab<;>first|(cases ab;done)|(simp only[Kaa]at ab;obtain⟨_,_,rfl⟩:=ab;exact h0 rfl)
  case h_8=>
   simp only[Kab]at ab;obtain⟨_,_,_,_,ab⟩:=ab;split at ab<;>first|(cases ab;done)|(simp only[Kab,Kaa]at ab;obtain⟨_,_,_,_,rfl⟩:=ab;exact h0 rfl)|(cases ab;exact h0 rfl)
  case h_9=>
   simp only[Kab]at ab;obtain⟨_,_,ab⟩:=ab;split at ab
   ·simp only[Kab]at ab;obtain⟨_,_,_,_,ab⟩:=ab;split at ab<;>first|(cases ab;done)|(simp only[Kar]at ab;subst ab;exact h0 rfl)
   ·cases ab
  case h_10=>
   simp only[Kab]at ab;obtain⟨_,_,ab⟩:=ab;split at ab<;>first|(cases ab;done)|(simp only[Kab,Kaa]at ab;obtain⟨_,_,_,_,_,_,rfl⟩:=ab;exact h0 rfl)
  case h_11=>simp only[Kab,Kaa]at ab;obtain⟨_,_,_,_,_,_,rfl⟩:=ab;exact h1 rfl
  case h_17=>simp only[Kab,Kaa]at ab;obtain⟨_,_,_,_,rfl⟩:=ab;exact h0 rfl
  case h_18=>simp only[Kab,Kaa]at ab;obtain⟨_,_,_,_,_,_,_,_,_,_,_,_,rfl⟩:=ab;exact h0 rfl
  case h_19=>simp only[Kaa]at ab;obtain⟨_,_,rfl⟩:=ab;exact h0 rfl
  case h_20=>simp only[Kab,Kaa]at ab;obtain⟨_,_,_,_,rfl⟩:=ab;exact h0 rfl
  case h_21=>simp only[Kaa]at ab;obtain⟨_,_,rfl⟩:=ab;exact h0 rfl
  case h_23=>cases ab
end Go.FW
namespace Go.FW
open Go
variable {C : Ctx} {ρ : Nat -> Option Nat} {fr : Fr} {hp : HP} {w : World} {a : Act} {K : Qg}
theorem QT(h:Qv C ρ fr hp a.tmps w){s:Nat}(hs:s<C.N):a.tmps[s]? =some (a.tmps.getD s undef):=by
 have:s<a.tmps.size:=by rw[h.sz];exact hs
 simp[Array.getD,this]
theorem Ih{dr:Bool}{ops:Array Oper}{o:Oper}{g:jF}(h:Qv C ρ fr hp a.tmps w)(hc:gW C.P C.N dr ops o=some g)(hv:fq C g.g g.o fr hp K):
  (∀d,o.dst=some d->d<C.N)/\g.o=ej C.P dr o/\
  ((Region.wanted o (yielded ops a.tmps)=true/\aV C g.o fr hp K)∨(Region.wanted o (yielded ops a.tmps)=false/\gi g.o fr hp K)):=by
 unfold gW at hc;split at hc
 ·rename_i cx;have an:∀d,o.dst=some d->d<C.N:=fun d hd=>by rw[hd]at cx;simpa using cx
  cases hg:o.guard with
  |none=>rw[hg]at hc;cases hc;exact⟨an,rfl,.inl ⟨by simp[Region.wanted,hg],hv⟩⟩
  | some jw=>
   obtain⟨j,want⟩:=jw;rw[hg]at hc;simp only at hc;split at hc
   ·rename_i s hs;split at hc
    ·rename_i hsN;cases hc;refine⟨an,rfl,?_⟩;have ht:=QT h hsN;have hr:=h.cd s;simp only[fq]at hv;split at hv
     ·rename_i t kO;rw[kO]at hr;have hb:=hr.sY;have hy:yielded ops a.tmps j=some t:=by simp only[yielded,hs,KbZ,ht,hb]
      have ry:∀b,t=b->ae fr s (.bool b)=fr:=fun b ao=>by
       funext i;unfold ae;split
       ·rename_i hi;subst hi;subst ao;exact kO.symm
       ·rfl
      by_cases hw:t=want
      ·refine .inl ⟨by simp[Region.wanted,hg,hy,hw],?_⟩;have:=hv.1 hw
       rwa[ry want hw]at this
      ·have lU:t= !want:=by cases t<;>cases want<;>simp_all
       refine .inr ⟨by simp[Region.wanted,hg,hy,hw],?_⟩;have:=hv.2 lU
       rwa[ry _ lU]at this
     ·rename_i kO;rw[kO]at hr;obtain⟨vs,ev,dI,_⟩:=hr;have wj:vs= #[]:=KbE (by simpa using dI);have hy:yielded ops a.tmps j=none:=by simp only[yielded,hs,KbZ,ht,ev]
      exact .inr ⟨by simp[Region.wanted,hg,hy],hv⟩
     ·exact hv.elim
    ·cases hc
   ·cases hc
 ·cases hc
theorem GU{dr:Bool}{o:Oper}:(ej C.P dr o).dst=o.dst:=by
 unfold ej;cases ab:jH C.P dr o with
 |none=>rfl
 | some so=>
  simp only[Kbo];unfold jH at ab;split at ab
  case h_1 hd=>simp only[Kaa]at ab;obtain⟨_,_,rfl⟩:=ab;exact hd.symm
  case h_2 hd=>simp only[Kaa]at ab;obtain⟨_,_,rfl⟩:=ab;exact hd.symm
  case h_3 hd=>simp only[Kab,Kaa]at ab;obtain⟨_,_,_,_,_,_,rfl⟩:=ab;exact hd.symm
  case h_4 hd=>simp only[Kab,Kaa]at ab;obtain⟨_,_,_,_,rfl⟩:=ab;unfold vl;split<;>first|exact hd.symm|(split<;>exact hd.symm)
  case h_5 hd=>simp only[Kaa]at ab;obtain⟨_,_,rfl⟩:=ab;exact hd.symm
  case h_6 hd=>split at ab<;>first|(cases ab;done)|(simp only[Kaa]at ab;obtain⟨_,_,rfl⟩:=ab;exact hd.symm)
  case h_7 hd=>
   simp only[Kab]at ab;obtain⟨_,_,_,_,ab⟩:=ab;split at ab<;>first|(cases ab;done)|(simp only[Kaa]at ab;obtain⟨_,_,rfl⟩:=ab;exact hd.symm)
  case h_8 hd=>
   simp only[Kab]at ab;obtain⟨_,_,_,_,ab⟩:=ab;split at ab<;>first|(cases ab;done)|(simp only[Kab,Kaa]at ab;obtain⟨_,_,_,_,rfl⟩:=ab;exact hd.symm)|(cases ab;exact hd.symm)
  case h_9 hd=>
   simp only[Kab]at ab;obtain⟨_,_,ab⟩:=ab;split at ab
   ·simp only[Kab]at ab;obtain⟨_,_,_,_,ab⟩:=ab;split at ab<;>first|(cases ab;done)|(simp only[Kar]at ab;subst ab;exact hd.symm)
   ·cases ab
  case h_10 hd=>
   simp only[Kab]at ab;obtain⟨_,_,ab⟩:=ab;split at ab<;>first|(cases ab;done)|(simp only[Kab,Kaa]at ab;obtain⟨_,_,_,_,_,_,rfl⟩:=ab;exact hd.symm)
  case h_11 hd=>simp only[Kab,Kaa]at ab;obtain⟨_,_,_,_,_,_,rfl⟩:=ab;exact hd.symm
  case h_12 hd=>simp only[Kab,Kaa]at ab;obtain⟨_,_,_,_,_,_,rfl⟩:=ab;exact hd.symm
  case h_13 hd=>simp only[Kab,Kaa]at ab;obtain⟨_,_,_,_,rfl⟩:=ab;exact hd.symm
  case h_14 hd=>simp only[Kaa]at ab;obtain⟨_,_,rfl⟩:=ab;exact hd.symm
  case h_15 hd=>simp only[Kab,Kaa]at ab;obtain⟨_,_,_,_,_,_,_,_,rfl⟩:=ab;exact hd.symm
  case h_16 hd=>
   simp only[Kab]at ab;obtain⟨_,_,_,_,ab⟩:=ab;split at ab
   ·simp only[Kaa]at ab;obtain⟨_,_,rfl⟩:=ab;exact hd.symm
   ·cases ab
  case h_17 hd=>simp only[Kab,Kaa]at ab;obtain⟨_,_,_,_,rfl⟩:=ab;exact hd.symm
  case h_18 hd=>simp only[Kab,Kaa]at ab;obtain⟨_,_,_,_,_,_,_,_,_,_,_,_,rfl⟩:=ab;exact hd.symm
  case h_19 hd=>simp only[Kaa]at ab;obtain⟨_,_,rfl⟩:=ab;exact hd.symm
  case h_20 hd=>simp only[Kab,Kaa]at ab;obtain⟨_,_,_,_,rfl⟩:=ab;exact hd.symm
  case h_21=>simp only[Kaa]at ab;obtain⟨_,_,rfl⟩:=ab;rfl
  case h_22=>
   split at ab
   ·simp only[Kab,Kaa]at ab;obtain⟨_,_,_,_,rfl⟩:=ab;rfl
   ·rename_i hd;split at ab
    ·simp only[Kaa]at ab;obtain⟨_,_,rfl⟩:=ab;exact hd.symm
    ·simp only[Kab,Kaa]at ab;obtain⟨_,_,_,_,rfl⟩:=ab;exact hd.symm
   ·rename_i hd;simp only[Kab,Kaa]at ab;obtain⟨_,_,_,_,rfl⟩:=ab;exact hd.symm
   ·rename_i hd;simp only[Kab,Kaa]at ab;obtain⟨_,_,_,_,rfl⟩:=ab;exact hd.symm
   ·rename_i hd;simp only[Kab]at ab;obtain⟨_,_,_,_,_,_,ab⟩:=ab;split at ab
    ·simp only[Kab]at ab;obtain⟨_,_,ab⟩:=ab;split at ab
     ·cases ab;exact hd.symm
     ·cases ab
    ·cases ab
   ·rename_i hd;simp only[Kab]at ab;obtain⟨_,_,_,_,_,_,ab⟩:=ab;split at ab
    ·simp only[Kaa]at ab;obtain⟨_,_,rfl⟩:=ab;exact hd.symm
    ·cases ab
   ·cases ab
  case h_23=>cases ab
theorem Nk{dr two:Bool}{o:Oper}(an:∀d,o.dst=some d->d<C.N)(aN:a.defers=[])(h:Qv C ρ fr hp a.tmps w)(hv:gi (ej C.P dr o) fr hp K):bZ C two w K (a.put o.dst undef) w:=by
 unfold gi at hv;rw[GU]at hv;cases hd:o.dst with
 |some d=>rw[hd]at hv;exact⟨aN,⟨_,hp,⟨ρ,h.ae Qj.M5 (an d hd)⟩,hv⟩,fun _=>Ext.refl _ _⟩
 |none=>rw[hd]at hv;exact⟨aN,⟨fr,hp,⟨ρ,h⟩,hv⟩,fun _=>Ext.refl _ _⟩
theorem Bv{dr:Bool}{ops:Array Oper}{i:Nat}{o:Oper}{g:jF}{Q:Exit->Act->World->Prop}(hi:ops[i]? =some o)(aN:a.defers=[])(h:Qv C ρ fr hp a.tmps w)(hc:gW C.P C.N dr ops o=some g)(hv:fq C g.g g.o fr hp K):
  wpOp C.P ops Q i (bZ C (!(ej C.P dr o).fN) w K) a w:=by
 obtain⟨an,mC,vJ⟩:=Ih h hc hv;rw[mC]at vJ;unfold wpOp;simp only[hi];rcases vJ with⟨hw,hv⟩|⟨hw,hv⟩
 ·rw[if_pos hw];exact .inl (QS an aN h hv)
 ·rw[hw];simp only[Kbf,if_false];exact Nk an aN h hv
def wP(C:Ctx)(K:Qg)(Q:Exit->Act->World->Prop):Prop:=∀fr hp (a:Act) w,a.defers=[]->cT C fr hp a.tmps w->K fr hp->Q .normal a w
theorem uU{C:Ctx}{R:Qg}{sk:List It}{fr:Fr}{hp:HP}:vc C R (.o .nil::sk) fr hp=vc C R sk fr hp:=by rw[vc]
theorem ve{C:Ctx}{R:Qg}{sk:List It}{g:Option (Nat×Bool)}{o:bN}{r:RT}{fr:Fr}{hp:HP}:vc C R (.o (.o g o r)::sk) fr hp=fq C g o fr hp (vc C R (.o r::sk)):=by rw[vc]
theorem Ht{C:Ctx}{R:Qg}{sk:List It}{x y:RT}{fr:Fr}{hp:HP}:vc C R (.o (.br x y)::sk) fr hp=(vc C R (.o x::sk) fr hp/\vc C R (.o y::sk) fr hp):=by rw[vc]
theorem yq{C:Ctx}{R:Qg}{sk:List It}{r:RT}{fr:Fr}{hp:HP}:vc C R (.o (.wk r)::sk) fr hp=∃aG au,Wk fr hp aG au/\vc C R (.o r::sk) aG au:=by rw[vc]
theorem si{C:Ctx}{R:Qg}{sk:List It}{tmps:Array Value}{w:World}:∀(r:RT)(fr:Fr)(hp:HP),cT C fr hp tmps w->vc C R (.o r::sk) fr hp->
  ∃r' aw hp',r'.strip=r.strip/\(∀x,r'≠ .wk x)/\cT C aw hp' tmps w/\vc C R (.o r'::sk) aw hp':=by
 intro r;induction r with
 |wk r ih=>intro fr hp hs hv;rw[yq]at hv;obtain⟨aG,au,hw,hv⟩:=hv;exact ih aG au (hw _ _ _ hs) hv
 |nil=>exact fun fr hp hs hv=>⟨_,fr,hp,rfl,(fun x h=>by cases h),hs,hv⟩
 |o=>exact fun fr hp hs hv=>⟨_,fr,hp,rfl,(fun x h=>by cases h),hs,hv⟩
 |br=>exact fun fr hp hs hv=>⟨_,fr,hp,rfl,(fun x h=>by cases h),hs,hv⟩
theorem Je{r:RT}(h:r.strip= .nil)(hn:∀x,r≠ .wk x):r= .nil:=by
 cases r with
 |nil=>rfl
 |wk x=>exact absurd rfl (hn x)
 |_=>simp[RT.strip]at h
theorem Cr{r s:RT}{g:Option (Nat×Bool)}{o:bN}(h:r.strip= .o g o s)(hn:∀x,r≠ .wk x):∃r',r= .o g o r'/\r'.strip=s:=by
 cases r with
 |o g' o' r'=>simp only[RT.strip,RT.o.injEq]at h;obtain⟨rfl,rfl,h⟩:=h;exact⟨r',rfl,h⟩
 |wk x=>exact absurd rfl (hn x)
 |_=>simp[RT.strip]at h
theorem QU{r a b:RT}(h:r.strip= .br a b)(hn:∀x,r≠ .wk x):∃a' b',r= .br a' b'/\a'.strip=a/\b'.strip=b:=by
 cases r with
 |br a' b'=>simp only[RT.strip,RT.br.injEq]at h;exact⟨a',b',rfl,h.1,h.2⟩
 |wk x=>exact absurd rfl (hn x)
 |_=>simp[RT.strip]at h
theorem IJ{R:Qg}{sk:List It}{ops:Array Oper}{Q:Exit->Act->World->Prop}(hQ:wP C (vc C R sk) Q):∀(gs:List jF)(is:List Nat)(r:RT)(fr:Fr)(hp:HP)(a:Act)(w:World),
  is.length=gs.length->(∀(k i:Nat)(g:jF),is[k]? =some i->gs[k]? =some g->∃o,ops[i]? =some o/\gW C.P C.N false ops o=some g)->
  a.defers=[]->cT C fr hp a.tmps w->r.strip=sQ gs->vc C R (.o r::sk) fr hp->wpOps C.P ops Q is a w
 | [],[],r,fr,hp,a,w,_,_,aN,hs,hr,hv=>by obtain⟨r',aw,hp',h1,h2,hs,hv⟩:=si r fr hp hs hv;obtain rfl:=Je (h1.trans hr) h2;rw[uU]at hv;exact hQ aw hp' a w aN hs hv
 | [],i::is,_,_,_,_,_,hl,_,_,_,_,_=>by simp at hl
 |g::gs,[],_,_,_,_,_,hl,_,_,_,_,_=>by simp at hl
 |g::gs,i::is,r,fr,hp,a,w,hl,hc,aN,hs,hr,hv=>by obtain⟨o,ho,ab⟩:=hc 0 i g rfl rfl;obtain⟨r',aw,hp',h1,h2,⟨ρ,hs⟩,hv⟩:=si r fr hp hs hv;obtain⟨r2,rfl,iM⟩:=Cr (h1.trans hr) h2;rw[ve]at hv;rw[wpOps_cons];refine wpOp_mono (fun a' w' hA=>?_) (Bv ho aN hs ab hv);obtain⟨oo,⟨aw,hp',dt,lb⟩,_⟩:=hA;exact IJ hQ gs is r2 aw hp' a' w' (by simpa using hl) (fun k j g' h1 h2=>hc (k+1) j g' (by simpa using h1) (by simpa using h2)) oo dt iM lb
end Go.FW
namespace Go.FW
open Go
section
variable {P : Program} {ops : Array Oper} {Q : Exit -> Act -> World -> Prop}
def qn(P:Program)(ops:Array Oper)(Q:Exit->Act->World->Prop)(fN:Nat->Bool):Nat->Array Bool->Act->World->Prop
 |0,aR,a,w=>Region.ready .any ops aR=[]/\Q .normal a w
 |fuel+1,aR,a,w=>
  (Region.ready .any ops aR=[]->Q .normal a w)/\
  ∀i∈Region.ready .any ops aR,wpOp P ops Q i (fun a' w'=>(fN i=false->Ext bW w w')/\qn P ops Q fN fuel (aR.setIfInBounds i true) a' w') a w
theorem Bw(fN:Nat->Bool):∀(fuel:Nat)(aR:Array Bool)(a:Act)(w:World),qn P ops Q fN fuel aR a w->wpAny P .any ops Q fuel aR a w
 |0,_,_,_,h=>h
 |fuel+1,_,_,_,h=>⟨h.1,fun i hi=>wpOp_mono (fun a' w' h'=>Bw fN fuel _ a' w' h'.2) (h.2 i hi)⟩
def YF(P:Program)(ops:Array Oper)(all:Bool)(o:Oper)(v:Value)(a:Act)(w:World):Prop:=
 (Region.wanted o (yielded ops a.tmps)=true/\∀w',(all=true∨Ext bW w w')->(execOp a.eval o).run P w'= .ok (.value v) w')∨
 (Region.wanted o (yielded ops a.tmps)=false/\v=undef)
theorem YF.step{all:Bool}{o:Oper}{v:Value}{a a':Act}{w w':World}(hy:YF P ops all o v a w)(he:execOp a'.eval o=execOp a.eval o)
  (hw:Region.wanted o (yielded ops a'.tmps)=Region.wanted o (yielded ops a.tmps)) (hx:all=true∨Ext bW w w'):YF P ops all o v a' w':=by
 unfold YF at *
 rw[he,hw];rcases hy with⟨h1,h2⟩|h
 ·refine .inl ⟨h1,fun w2 h3=>h2 w2 ?_⟩;rcases hx with hx|hx
  ·exact .inl hx
  ·rcases h3 with h3|h3
   ·exact .inl h3
   ·exact .inr (hx.trans h3)
 ·exact .inr h
theorem YF.wpOp{all:Bool}{i:Nat}{o:Oper}{v:Value}{a:Act}{w:World}(hi:ops[i]? =some o)(hy:YF P ops all o v a w)
  {K:Act->World->Prop} (h:K (a.put o.dst v) w):Go.wpOp P ops Q i K a w:=by
 unfold Go.wpOp;simp only[hi];rcases hy with⟨hw,hv⟩|⟨hw,rfl⟩
 ·simp only[hw,if_true,Oper.wp,hv w (.inr (Ext.refl _ _)),Oper.upon];exact .inl h
 ·simp only[hw,Kbf,if_false];exact h
theorem OJ{j:Nat}{oi oj:Oper}{v:Value}(hj:ops[j]? =some oj)(hap:oi.apart ops oj=true)
  (Mo:∀cs b,oi.op≠ .select cs b) (Mp:∀cs b,oj.op≠ .select cs b)
  (hQ:∀c a w,Q (.panic c) (a.put oi.dst v) w->Q (.panic c) a w) {K:Act->World->Prop} {a:Act} {w:World}
  (h:Go.wpOp P ops Q j K (a.put oi.dst v) w):
  Go.wpOp P ops Q j (fun a' w'=>(execOp a'.eval oi=execOp a.eval oi/\Region.wanted oi (yielded ops a'.tmps)=Region.wanted oi (yielded ops a.tmps))/\K (a'.put oi.dst v) w') a w:=by
 obtain⟨h1,h2,h3⟩:=Oper.apart_spec hap;have dK:∀u,execOp (a.put oj.dst u).eval oi=execOp a.eval oi/\Region.wanted oi (yielded ops (a.put oj.dst u).tmps)=Region.wanted oi (yielded ops a.tmps):=fun u=>
  ⟨execOp_put oi Mo a oj.dst u h3,wanted_put oi a oj.dst u h3⟩
 have adL:∀d u,execOp (({ a with defers:=d::a.defers }:Act).put oj.dst u).eval oi=execOp a.eval oi/\Region.wanted oi (yielded ops (({ a with defers:=d::a.defers }:Act).put oj.dst u).tmps)=Region.wanted oi (yielded ops a.tmps):=fun d u=>
  ⟨(execOp_put oi Mo ({ a with defers:=d::a.defers }:Act) oj.dst u h3).trans rfl,(wanted_put oi ({ a with defers:=d::a.defers }:Act) oj.dst u h3).trans rfl⟩
 unfold Go.wpOp at *
 simp only[hj]at *
 rw[wanted_put oj a oi.dst v h1]at h;split
 ·rename_i hw;simp only[hw,if_true]at h;rcases h with h|⟨LB,acF⟩
  case inr=>exact .inr ⟨by unfold Oper.asks at *;rw[execOp_put oj Mp a oi.dst v h1]at LB;exact LB,acF⟩
  refine .inl ?_;unfold Oper.wp at *
  rw[execOp_put oj Mp a oi.dst v h1]at h;generalize(execOp a.eval oj).run P w=r at *
  cases r with
  | ok n w'=>
   cases n<;>simp only[Oper.upon]at h⊢
   case value u=>exact⟨dK u,by rw[<-Act.put_comm a v u h2];exact h⟩
   case skip=>exact⟨dK _,by rw[<-Act.put_comm a v undef h2];exact h⟩
   case defer d=>
    refine⟨adL d _,?_⟩;rw[<-Act.put_comm _ v undef h2,<-Act.put_defers];exact h
   case enter f args=>
    refine Calls.mono h fun e w'' he=>?_;cases e with
    |returned u=>exact⟨dK u,by rw[<-Act.put_comm a v u h2];exact he⟩
    |panicked c=>exact hQ _ _ _ he
    |outgrown=>exact he
   case row row args=>exact Rows.mono h fun u w'' he=>⟨dK u,by rw[<-Act.put_comm a v u h2];exact he⟩
  |halt x w'=>
   cases x<;>simp only[Oper.upon]at h⊢
   case panic u=>exact hQ _ _ _ h
 ·rename_i hw;simp only[hw]at h;exact⟨dK _,by rw[<-Act.put_comm a v undef h2];exact h⟩
def jh(ops:Array Oper)(aR:Array Bool):Prop:=∀(j:Nat)(o:Oper),ops[j]? =some o->aR.getD j false=true->∀e∈o.after,Region.binds .any e=true->aR.getD e.on false=true
theorem jh.step{aR:Array Bool}{i:Nat}(h:jh ops aR)(hi:i∈Region.ready .any ops aR):jh ops (aR.setIfInBounds i true):=by
 intro j o hj hl e he hb;obtain⟨h0,oi,ow,cx⟩:=mem_ready.1 hi;by_cases FE:i=j
 ·subst FE;rw[hj]at ow;cases ow;exact getD_set_true (cx e he hb)
 ·rw[getD_set_ne false FE]at hl;exact getD_set_true (h j o hj hl e he hb)
theorem HF{aR:Array Bool}{i:Nat}(hd:jh ops aR):∀(n k:Nat),aR.getD k false=true->mZ ops n i k=true->aR.getD i false=true
 |0,_,_,h=>by simp[mZ]at h
 | n+1,k,hk,h=>by
  unfold mZ at h;cases ho:ops[k]? with
  |none=>simp[ho]at h
  |some o=>
   simp only[ho,KaP,Ka1,Kbu,beq_iff_eq]at h;obtain⟨e,he,hb,h⟩:=h;have hl:=hd k o ho hk e (by simpa using he) hb;rcases h with h|h
   ·rw[<-h];exact hl
   ·exact HF hd n e.on hl h
theorem ZN{aR:Array Bool}{i j n:Nat}(hd:jh ops aR)(hj:j∈Region.ready .any ops aR)(h:mZ ops n i j=true):aR.getD i false=true:=by
 obtain⟨_,o,ho,cx⟩:=mem_ready.1 hj;cases n with
 |zero=>simp[mZ]at h
 |succ n=>
  unfold mZ at h;simp only[ho,KaP,Ka1,Kbu,beq_iff_eq]at h;obtain⟨e,he,hb,h⟩:=h;have hl:=cx e (by simpa using he) hb;rcases h with h|h
  ·rw[<-h];exact hl
  ·exact HF hd n e.on hl h
theorem Jp{aR:Array Bool}{i:Nat}(h0:aR.getD i true=false):¬aR.getD i false=true:=by
 intro h1;rcases Kcn i aR.size with h'|h'
 ·simp[h']at h0 h1;rw[h0]at h1;cases h1
 ·simp[Kce h']at h1
theorem Qwg{fN:Nat->Bool}{all:Bool}{i:Nat}{oi:Oper}{v:Value}(hi:ops[i]? =some oi)(Mn:∀(j:Nat)(o:Oper) cs b,ops[j]? =some o->o.op≠ .select cs b)
  (hQ:∀c a w,Q (.panic c) (a.put oi.dst v) w->Q (.panic c) a w)
  (tu:all=true∨∀j,fN j=true->j<ops.size->mZ ops ops.size i j=true∨j=i):
  ∀(fuel:Nat)(aR:Array Bool)(a:Act)(w:World),jh ops aR->
   (∀j oj,ops[j]? =some oj->j≠i->aR.getD j true=false->(∀e∈oj.after,Region.binds .any e=true->e.on≠i)->oi.apart ops oj=true)->
   i∈Region.ready .any ops aR->YF P ops all oi v a w->
   qn P ops Q fN fuel (aR.setIfInBounds i true) (a.put oi.dst v) w->qn P ops Q fN (fuel+1) aR a w:=by
 intro fuel;induction fuel with
 | zero=>
  intro aR a w _ _ hr hy H;refine⟨fun h=>(by rw[h]at hr;cases hr),fun j hj=>?_⟩;by_cases mG:j=i
  ·subst mG;exact hy.wpOp hi ⟨fun _=>Ext.refl _ _,H⟩
  ·have:=ready_mono hj mG;rw[H.1]at this;cases this
 | succ fuel ih=>
  intro aR a w LO vP hr hy H;refine⟨fun h=>(by rw[h]at hr;cases hr),fun j hj=>?_⟩;by_cases mG:j=i
  ·subst mG;exact hy.wpOp hi ⟨fun _=>Ext.refl _ _,H⟩
  ·have h1:=H.2 j (ready_mono hj mG);obtain⟨L1,oj,zs,cx⟩:=mem_ready.1 hj;have LX:¬aR.getD i false=true:=Jp (mem_ready.1 hr).1;have acO:∀e∈oj.after,Region.binds .any e=true->e.on≠i:=fun e he hb heq=>LX (heq▸cx e he hb);have h2:=OJ zs (vP j oj zs mG L1 acO) (fun cs b=>Mn i oi cs b hi) (fun cs b=>Mn j oj cs b zs) hQ h1;have abZ:all=true∨fN j=false:=by
    rcases tu with h|h
    ·exact .inl h
    ·cases hb:fN j with
     |false=>exact .inr rfl
     |true=>
      have acv:j<ops.size:=(Kbc.1 zs).1;rcases h j hb acv with h|h
      ·exact absurd (ZN LO hj h) LX
      ·exact absurd h mG
   have ack:∀k ok,ops[k]? =some ok->k≠i->(aR.setIfInBounds j true).getD k true=false->
     (∀e∈ok.after,Region.binds .any e=true->e.on≠i)->oi.apart ops ok=true:=fun k ok hk qZ kZ mK=>by
    refine vP k ok hk qZ ?_ mK;by_cases LY:j=k
    ·subst LY;exact L1
    ·rw[getD_set_ne true LY]at kZ;exact kZ
   refine wpOp_mono (fun a' w' h3=>?_) h2;obtain⟨⟨he,hw⟩,hx,rp⟩:=h3;refine⟨hx,ih (aR.setIfInBounds j true) a' w' (LO.step hj) ack (ready_mono hr (Ne.symm mG)) (hy.step he hw ?_) ?_⟩
   ·rcases abZ with h|h
    ·exact .inl h
    ·exact .inr (hx h)
   ·rw[Array.setIfInBounds_comm _ _ mG];exact rp
end
section
variable {C : Ctx} {ρ : Nat -> Option Nat} {fr : Fr} {hp : HP} {w : World} {a : Act} {K : Qg}
theorem HL{dr:Bool}{o:Oper}(an:∀d,o.dst=some d->d<C.N)(h:Qv C ρ fr hp a.tmps w)(hv:gi (ej C.P dr o) fr hp K):∃aw hp',Qv C ρ aw hp' (a.put o.dst undef).tmps w/\K aw hp':=by
 unfold gi at hv;rw[GU]at hv;cases hd:o.dst with
 |some d=>rw[hd]at hv;exact⟨_,hp,h.ae Qj.M5 (an d hd),hv⟩
 |none=>rw[hd]at hv;exact⟨fr,hp,h,hv⟩
theorem Vj{P:Program}{dr:Bool}{o:Oper}:(ej P dr o).cls=(ej P true o).cls:=by
 cases dr with
 |true=>rfl
 | false=>
  have h0:(jH P false o).map bN.cls=(jH P true o).map bN.cls:=by
   unfold jH;split<;>first|rfl|skip
   split<;>first|rfl|skip
   rename_i f _;cases h1:bA f with
   |none=>simp
   |some pf=>simp only[KbZ,Option.map_map];congr 1
  unfold ej;cases h1:jH P false o<;>cases h2:jH P true o<;>simp_all[bN.cls]
theorem HM {dr:Bool} {R:Qg} {sk:List It} {ops:Array Oper} {Q:Exit->Act->World->Prop} (zr:Region.noSelect ops=true) (hQ:wP C (vc C R sk) Q):∀(n:Nat) (aR:Array Bool) (r:RT) (fr:Fr) (hp:HP) (a:Act) (w:World),
  mf C.P C.N dr ops n aR=some r.strip->jh ops aR->a.defers=[]->cT C fr hp a.tmps w->vc C R (.o r::sk) fr hp->
  qn C.P ops (NoPanic Q) (sG C.P dr ops) n aR a w:=by
 intro n;have done:∀(n:Nat)(aR:Array Bool)(r:RT)(fr:Fr)(hp:HP)(a:Act)(w:World),Region.ready .any ops aR=[]->a.defers=[]->cT C fr hp a.tmps w->r.strip= .nil->vc C R (.o r::sk) fr hp->qn C.P ops (NoPanic Q) (sG C.P dr ops) n aR a w:=by
  intro n aR r fr hp a w hr aN hs wb hv;obtain⟨r',fr,hp,h1,h2,hs,hv⟩:=si r fr hp hs hv;obtain rfl:=Je (h1.trans wb) h2;rw[uU]at hv;have hq:NoPanic Q .normal a w:=hQ fr hp a w aN hs hv;cases n with
  |zero=>exact⟨hr,hq⟩
  |succ n=>exact⟨fun _=>hq,by rw[hr];simp⟩
 induction n with
 | zero=>
  intro aR r fr hp a w ho hd aN hs hv;unfold mf at ho;split at ho
  ·rename_i hr;exact done 0 aR r fr hp a w (by simpa using hr) aN hs (Kac ho).symm hv
  ·cases ho
 | succ n ih=>
  intro aR r fr hp a w ho hd aN hs hv;unfold mf at ho;split at ho
  ·rename_i hr;exact done (n+1) aR r fr hp a w (by simpa using hr) aN hs (Kac ho).symm hv
  ·rename_i hr;obtain⟨r',fr,hp,e1,e2,hs,hv⟩:=si r fr hp hs hv;rw[<-e1]at ho;split at ho
   ·rename_i i acj;have jz:=List.find?_some acj;simp only[Kab,Kaa]at ho;obtain⟨g,⟨o,ow,Fp⟩,r0,dZ,qX⟩:=ho;obtain⟨r',rfl,rfl⟩:=Cr qX.symm e2;unfold CL at jz;simp only[Ka1,List.contains_iff_mem]at jz;obtain⟨⟨zw,vP⟩,bO⟩:=jz;have LM:oY C.P ops i=(ej C.P dr o).cls:=by rw[Vj];simp[oY,ow]
    rw[ve]at hv;obtain⟨ρ,kX⟩:=hs;obtain⟨an,mC,vJ⟩:=Ih kX Fp hv;rw[mC]at vJ;have tu:∀all:Bool,(all=false->oY C.P ops i=1)->all=true∨∀j,sG C.P dr ops j=true->j<ops.size->mZ ops ops.size i j=true∨j=i:=by
     intro all cx;cases all with
     |true=>exact .inl rfl
     |false=>
      refine .inr fun j hj oq=>?_;rw[cx rfl]at bO;have:=Kaw.1 bO j (by simpa using oq);simp only[Kbu,Bool.not_eq_true']at this;rcases this with h|h
      ·rw[hj]at h;cases h
      ·exact .inl h
    have fin:∀(all:Bool)(v:Value),(all=false->oY C.P ops i=1)->YF C.P ops all o v a w->(∃aw hp',Qv C ρ aw hp' (a.put o.dst v).tmps w/\vc C R (.o r'::sk) aw hp')->qn C.P ops (NoPanic Q) (sG C.P dr ops) (n+1) aR a w:=by
     intro all v cx hy ⟨aw,hp',dt,lb⟩;exact Qwg ow (Region.noSelect_spec zr) (fun _ _ _ h=>h) (tu all cx) n aR a w hd (Region.free_spec ow vP) zw hy
      (ih _ r' aw hp' _ w dZ (hd.step zw) (by rw[qe];exact aN) ⟨ρ,dt⟩ lb)
    rcases vJ with⟨hw,hv⟩|⟨hw,hv⟩
    ·by_cases h0:oY C.P ops i=0
     ·obtain⟨v,bD,rp⟩:=IH (by rw[<-LM];exact h0) an kX hv;exact fin true v (by simp) (.inl ⟨hw,fun w' _=>bD w'⟩) rp
     ·by_cases h1:oY C.P ops i=1
      ·obtain⟨v,b,hb,bD,rp⟩:=II (by rw[<-LM];exact h1) an kX hv;exact fin false v (fun _=>h1) (.inl ⟨hw,fun w' lU=>bD w' (lU.elim (fun h=>by cases h) (fun h=>h.block b hb (fun h=>h)))⟩) rp
      ·split at bO
       ·rename_i h;exact absurd h h0
       ·rename_i h;exact absurd h h1
       ·cases bO
    ·by_cases h1:oY C.P ops i=1
     ·exact fin false undef (fun _=>h1) (.inr ⟨hw,rfl⟩) (HL an kX hv)
     ·exact fin true undef (by simp) (.inr ⟨hw,rfl⟩) (HL an kX hv)
   ·
    simp only[Kaa]at ho;obtain⟨rs,cr,qX⟩:=ho;obtain⟨m1,m2⟩:=iV cr;have hbr:∀(rs:List RT) (r':RT) (fr:Fr) (hp:HP),r'.strip=ph rs->cT C fr hp a.tmps w->vc C R (.o r'::sk) fr hp->∀r∈rs,∃r2 dX bu,r2.strip=r/\(∀x,r2≠ .wk x)/\cT C dX bu a.tmps w/\vc C R (.o r2::sk) dX bu:=by
     intro rs;induction rs with
     |nil=>intro _ _ _ _ _ _ r hr;cases hr
     | cons x xs ig=>
      intro r' fr hp dZ hs hv r hr;obtain⟨r2,dX,bu,f1,f2,hs,hv⟩:=si r' fr hp hs hv;cases xs with
      |nil=>simp at hr;subst hr;exact⟨r2,dX,bu,f1.trans dZ,f2,hs,hv⟩
      | cons y ys=>
       rw[ph]at dZ
       ·obtain⟨a',b',rfl,g1,g2⟩:=QU (f1.trans dZ) f2;rw[Ht]at hv;rcases KaF.1 hr with rfl|hr
        ·obtain⟨r3,yR,ke,k1,k2,k3,k4⟩:=si a' dX bu hs hv.1;exact⟨r3,yR,ke,k1.trans g1,k2,k3,k4⟩
        ·exact ig b' dX bu g2 hs hv.2 r hr
       ·simp
    refine⟨fun h0=>absurd (by rw[h0];rfl) hr,fun i hi=>?_⟩;obtain⟨k,hk⟩:=Kau hi;have th:k<rs.length:=by rw[m1];exact(Kad.1 hk).1
    obtain⟨i',aD,hf⟩:=m2 k _ (Kaf th);rw[hk]at aD;cases aD;simp only[Kab,Kaa]at hf;obtain⟨g,⟨o,ow,Fp⟩,r0,dZ,he⟩:=hf;obtain⟨r2,dX,bu,f1,f2,hs,lb⟩:=hbr rs r' fr hp qX.symm hs hv _ (Kaq th);obtain⟨r',rfl,rfl⟩:=Cr (f1.trans he.symm) f2;rw[ve]at lb;obtain⟨ρ,kX⟩:=hs;refine wpOp_mono (fun a' w' hA=>?_) (Bv ow aN kX Fp lb);obtain⟨oo,⟨aw,hp',dt,oy⟩,hx⟩:=hA;refine⟨fun hb=>hx ?_,ih _ r' aw hp' a' w' dZ (hd.step hi) oo dt oy⟩;simpa[sG,ow]using hb
theorem cT.drew{tmps:Array Value}(h:cT C fr hp tmps w):cT C fr hp tmps { w with drawn:=w.drawn+1 }:=by obtain⟨ρ,hs⟩:=h;exact⟨ρ,hs.grow (Ext.drew w _)⟩
theorem jh.start(ops:Array Oper):jh ops (Array.replicate ops.size false):=by intro j o _ hl;exfalso;simp[Array.getD]at hl
theorem B9{s:SC}{r:RT}(h:s.strip= .rg r):∃r',s= .rg r'/\r'.strip=r:=by
 cases s with
 |rg r'=>simp only[SC.strip,SC.rg.injEq]at h;exact⟨r',rfl,h⟩
 |_=>simp[SC.strip]at h
theorem Qwh{R:Qg}{sk:List It}{ops:Array Oper}{draw:Bool}{id:Nat}{s:SC}{Q:Exit->Act->World->Prop}(hm:C.P.follows .mixedOrders=true)(hQ:wP C (vc C R sk) Q)
  (hc:uu C.P C.N ops draw=some s.strip) (aN:a.defers=[]) (hs:cT C fr hp a.tmps w) (hv:vc C R (.c s::sk) fr hp):(Code.region id ops draw).wp C.P Q a w:=by
 unfold uu at hc;split at hc
 ·rename_i hd;subst hd;split at hc
  ·rename_i zr;have key:∀(dr:Bool)(rH:Nat)(s:SC),uz C.P C.N ops dr rH=some s.strip->vc C R (.c s::sk) fr hp->(Code.region id ops true).wp C.P Q a w:=by
    intro dr rH s hc hv;unfold uz at hc;split at hc
    ·cases hc
    split at hc
    ·rename_i r0 hr;split at hc
     ·obtain⟨r,rfl,rfl⟩:=B9 (Kac hc).symm;rw[vc]at hv;exact wp_region_noPanic (wp_region_any hm (Bw _ _ _ _ _ (HM zr hQ _ _ r fr hp a _ hr (jh.start ops) aN hs.drew hv)))
     ·cases hc
    ·cases hc
   split at hc
   ·rename_i s' dt;cases hc;split at dt
    ·simp only[Kaa]at dt;obtain⟨r0,hr,he⟩:=dt;obtain⟨r,rfl,rfl⟩:=B9 he.symm;rw[vc]at hv;exact wp_region_noPanic (wp_region_any hm (Bw _ _ _ _ _ (HM zr hQ _ _ r fr hp a _ (wY _ _ _ hr) (jh.start ops) aN hs.drew hv)))
    ·cases dt
   ·exact key _ _ _ hc hv
  ·cases hc
 ·rename_i hd;have hdf:draw=false:=by simpa using hd
  subst hdf;simp only[Kaa]at hc;obtain⟨gs,hgs,he⟩:=hc;obtain⟨r,rfl,hr⟩:=B9 he.symm;rw[vc]at hv;obtain⟨m1,m2⟩:=iV hgs;refine wp_region (IJ hQ gs (List.range ops.size) r fr hp a w (by simp[m1]) (fun k i g hk hg=>?_) aN hs hr hv);obtain⟨o,ho,ab⟩:=m2 k g hg;have th:k<ops.size:=by have:=(Kad.1 hk).1;simpa using this
  rw[Kcl th]at hk;cases hk;exact⟨o,by simpa using ho,ab⟩
end
end Go.FW
