/- Part 1 of the proof of GoalsTrivial: FwA, FwB, FwC, FwD, FwE, FwF, FwG, FwH, FwI, FwJ, FwK, FwL, FwLN, FwM, FwN, FwO. Own lemmas; no conditions. -/
import Derived.Test.YtonjiljafkiikaaGreatGoalsTrivialPart0
import Derived.WalkKit
import Derived.Orders
import Derived.Laws.StructEq
import Derived.Deep.RegionHeld3
set_option maxHeartbeats 1000000
set_option linter.unusedSimpArgs false
set_option linter.unusedVariables false
set_option linter.unnecessarySimpa false
set_option maxRecDepth 100000
namespace Go.FW
open Go
inductive PV where
 |undef
 |int (k:IntKind) (n:Int)
 |bool (b:Bool)
 |aa
 |sl (e:Nat) (xs:List PV)
 |agg (cs:List PV)
 |aJ (vs:List PV)
 |fn (f:FuncId) (first cap:List PV)
 |pt (cs:List PV)
 |mp (β i o:Nat)
 |ao (β o n:Nat)
 |rb (β o n:Nat)
 |aB (γ o n:Nat)
 |np (γ i o:Nat)
 |aE (cs:List PV)
 |cW (cs:List PV)
 |az (γ e ty:Nat) (xs:List PV)
 |str (s:ByteArray)
 |cj (cs:List PV) (q:PV)
 deriving Inhabited
abbrev PV.ms(β n:Nat):PV:=.ao β 0 n
def PV.cells:PV->List PV
 |.agg cs=>cs
 |x=>[x]
def PV.aL:PV->List PV
 |.aE cs=>cs
 |x=>x.cells
def PV.eK:PV->Bool
 |.undef=>false
 |_=>true
def PV.ax:PV->Bool
 |.int .. | .bool _| .aa| .sl .. | .agg _| .pt _| .str _=>true
 |.fn _ first cap=>first.all PV.eK&&cap.all PV.eK
 |_=>false
inductive Qo(w:World)(X:Nat->Prop):PV->Value->Prop
 |int (k:IntKind) (n:Int):Qo w X (.int k n) (.int k n)
 |bool (b:Bool):Qo w X (.bool b) (.bool b)
 |str (s:ByteArray):Qo w X (.str s) (.string s)
 |aa:Qo w X .aa (.slice none 0 0)
 |gB (e:Nat) (a:Option Addr) (cap:Nat) (hc:cap<=maxLen):Qo w X (.sl e []) (.slice a 0 cap)
 | sl (e:Nat) (xs:List PV) (b off cap:Nat) (vs:Nat->Nat->Value) (hX:¬X b) (hb:b<w.heap.size) (hl:xs.length<=cap) (hc:cap<=maxLen)
   (he:∀(i:Nat)(x:PV),xs[i]? =some x->x.cells.length=e)
   (hv:∀i,i<xs.length->∀j,j<e->w.cell? ⟨b,off+i*e+j,none⟩=some (vs i j))
   (hr:∀(i:Nat)(x:PV),xs[i]? =some x->∀(j:Nat)(y:PV),x.cells[j]? =some y->Qo w X y (vs i j)):
   Qo w X (.sl e xs) (.slice (some ⟨b,off,none⟩) xs.length cap)
 | pt (cs:List PV) (b off:Nat) (vs:Nat->Value) (hX:¬X b) (hb:b<w.heap.size)
   (hv:∀j,j<cs.length->w.cell? ⟨b,off+j,none⟩=some (vs j))
   (hr:∀(j:Nat)(y:PV),cs[j]? =some y->Qo w X y (vs j)):
   Qo w X (.pt cs) (.pointer (some ⟨b,off,none⟩))
 | fn (f:FuncId) (first cap:List PV) (fv cv:Array Value) (h1:fv.size=first.length) (h2:cv.size=cap.length)
   (me:∀(i:Nat)(x:PV),first[i]? =some x->Qo w X x (fv.getD i undef)) (jb:∀(i:Nat)(x:PV),cap[i]? =some x->Qo w X x (cv.getD i undef)):
   Qo w X (.fn f first cap) (.func (.func f) fv cv)
structure Ext(Y:Nat->Prop)(w w':World):Prop where
 os:w'.os=w.os
 tape:w'.tape=w.tape
 output:w'.output=w.output
 size:w.heap.size<=w'.heap.size
 block:∀b,b<w.heap.size->¬Y b->w'.heap[b]? =w.heap[b]?
theorem Ext.refl(Y:Nat->Prop)(w:World):Ext Y w w:=⟨rfl,rfl,rfl,Nat.le_refl _,fun _ _ _=>rfl⟩
theorem Ext.trans{Y:Nat->Prop}{a b c:World}(h:Ext Y a b)(k:Ext Y b c):Ext Y a c:=
  ⟨k.os.trans h.os,k.tape.trans h.tape,k.output.trans h.output,Nat.le_trans h.size k.size,
   fun i hi hY=>(k.block i (Nat.lt_of_lt_of_le hi h.size) hY).trans (h.block i hi hY)⟩
theorem Ext.mono{Y Y':Nat->Prop}{a b:World}(h:Ext Y a b)(hY:∀i,i<a.heap.size->Y i->Y' i):Ext Y' a b:=
 ⟨h.os,h.tape,h.output,h.size,fun i hi hn=>h.block i hi (fun hy=>hn (hY i hi hy))⟩
theorem Ext.trans'{Y Y':Nat->Prop}{a b c:World}(h:Ext Y a b)(k:Ext Y' b c)(hY:∀i,i<a.heap.size->Y' i->Y i):Ext Y a c:=
  ⟨k.os.trans h.os,k.tape.trans h.tape,k.output.trans h.output,Nat.le_trans h.size k.size,
   fun i hi hn=>(k.block i (Nat.lt_of_lt_of_le hi h.size) (fun hy=>hn (hY i hi hy))).trans (h.block i hi hn)⟩
def bO:Nat->Prop:=fun _=>False
theorem ph{w w':World}{a:Addr}(h:w'.heap[a.block]? =w.heap[a.block]?):w'.cell? a=w.cell? a:=by simp[World.cell?,h]
theorem YM{w:World}{b o:Nat}{v:Value}(h:w.cell? ⟨b,o,none⟩=some v):b<w.heap.size:=by
 rcases Nat.lt_or_ge b w.heap.size with h'|h'
 ·exact h'
 ·simp[World.cell?,Array.getElem?_eq_none h']at h
theorem Qo.mono{w w':World}{X X':Nat->Prop}{p:PV}{v:Value}(h:Qo w X p v)
  (hb:∀b,b<w.heap.size->¬X b->w'.heap[b]? =w.heap[b]?) (hx:∀b,b<w.heap.size->¬X b->¬X' b) (hs:w.heap.size<=w'.heap.size):Qo w' X' p v:=by
 induction h with
 |int k n=>exact .int k n
 |bool b=>exact .bool b
 |str s=>exact .str s
 |aa=>exact .aa
 |gB e a cap hc=>exact .gB e a cap hc
 | sl e xs b off cap vs hX an hl hc he hv hr ih=>
  exact .sl e xs b off cap vs (hx b an hX) (Nat.lt_of_lt_of_le an hs) hl hc he
   (fun i hi j hj=>by rw[ph (hb b an hX)];exact hv i hi j hj) (fun i x aG j y hy=>ih i x aG j y hy)
 |pt cs b off vs hX an hv hr ih=>exact .pt cs b off vs (hx b an hX) (Nat.lt_of_lt_of_le an hs) (fun j hj=>by rw[ph (hb b an hX)];exact hv j hj) (fun j y hy=>ih j y hy)
 |fn f first cap fv cv h1 h2 me jb ih1 EH=>exact .fn f first cap fv cv h1 h2 ih1 EH
theorem Qo.m5{w:World}{X:Nat->Prop}{p:PV}{v:Value}(h:Qo w X p v):v.oneCell'=true/\v.cells= #[v]/\p.cells=[p]:=by cases h<;>exact⟨rfl,rfl,rfl⟩
def aV(w:World)(X:Nat->Prop):PV->Value->Prop
 |.agg cs,v=>∃vs:Array Value,v= .agg vs/\vs.size=cs.length/\∀i x,cs[i]? =some x->Qo w X x (vs.getD i undef)
 |p,v=>Qo w X p v
def dn(w:World)(X:Nat->Prop):PV->Value->Prop
 |.aJ ps,v=>∃vs:Array Value,v= .tuple vs/\vs.size=ps.length/\∀i x,ps[i]? =some x->aV w X x (vs.getD i undef)
 |p,v=>aV w X p v
theorem aV.mono{w w':World}{X X':Nat->Prop}{p:PV}{v:Value}(h:aV w X p v)
  (hb:∀b,b<w.heap.size->¬X b->w'.heap[b]? =w.heap[b]?) (hx:∀b,b<w.heap.size->¬X b->¬X' b) (hs:w.heap.size<=w'.heap.size):aV w' X' p v:=by
 cases p with
 |agg cs=>obtain⟨vs,rfl,h1,h2⟩:=h;exact⟨vs,rfl,h1,fun i x hi=>(h2 i x hi).mono hb hx hs⟩
 |_=>exact Qo.mono h hb hx hs
theorem dn.mono{w w':World}{X X':Nat->Prop}{p:PV}{v:Value}(h:dn w X p v)
  (hb:∀b,b<w.heap.size->¬X b->w'.heap[b]? =w.heap[b]?) (hx:∀b,b<w.heap.size->¬X b->¬X' b) (hs:w.heap.size<=w'.heap.size):dn w' X' p v:=by
 cases p with
 |aJ ps=>obtain⟨vs,rfl,h1,h2⟩:=h;exact⟨vs,rfl,h1,fun i x hi=>(h2 i x hi).mono hb hx hs⟩
 |agg cs=>exact aV.mono (p:=.agg cs) h hb hx hs
 |_=>exact Qo.mono h hb hx hs
theorem dn.Li{w:World}{X:Nat->Prop}{p:PV}{v:Value}(h:aV w X p v):dn w X p v:=by
 cases p with
 |aJ ps=>cases h
 |_=>exact h
theorem aV.data{w:World}{X:Nat->Prop}{p:PV}{v:Value}(h:aV w X p v):p.ax=true:=by
 have hu:∀(x:PV)(u:Value),Qo w X x u->x.eK=true:=fun x u hx=>by cases hx<;>rfl
 have dJ:∀(l:List PV)(vs:Array Value),(∀(i:Nat)(x:PV),l[i]? =some x->Qo w X x (vs.getD i undef))->l.all PV.eK=true:=fun l vs hl=>by rw[List.all_eq_true];intro x hx;obtain⟨i,hi⟩:=List.getElem?_of_mem hx;exact hu x _ (hl i x hi)
 cases p with
 |agg cs=>rfl
 |fn f first cap=>
  have h':Qo w X (.fn f first cap) v:=h;cases h' with
  |fn _ _ _ fv cv h1 h2 h3 h4=>simp[PV.ax,dJ _ _ h3,dJ _ _ h4]
 |_=>cases h<;>rfl
theorem aV.cells{w:World}{X:Nat->Prop}{p:PV}{v:Value}(h:aV w X p v):
  v.cells.size=p.cells.length/\∀j y,p.cells[j]? =some y->Qo w X y (v.cells.getD j undef):=by
 by_cases ha:∃cs,p= .agg cs
 ·obtain⟨cs,rfl⟩:=ha;obtain⟨vs,rfl,h1,h2⟩:=h;exact⟨h1,h2⟩
 ·have hc:Qo w X p v:=by
   cases p with
   |agg cs=>exact absurd ⟨cs,rfl⟩ ha
   |_=>exact h
  obtain⟨_,h2,h3⟩:=hc.m5;rw[h2,h3];refine⟨rfl,fun j y hy=>?_⟩
  match j,hy with
  |0,hy=>simp at hy;subst hy;exact hc
  |j+1,hy=>simp at hy
theorem aV.mr{w:World}{X:Nat->Prop}{p:PV}{v:Value}(h:Qo w X p v):aV w X p v:=by
 cases p with
 |agg cs=>cases h
 |_=>exact h
theorem aV.Ln{w:World}{X:Nat->Prop}{p:PV}{v:Value}(h:aV w X p v):∀u∈v.cells.toList,u.oneCell'=true:=by
 intro u hu;obtain⟨h1,h2⟩:=h.cells;obtain⟨j,hj,rfl⟩:=List.getElem_of_mem hu;have cR:j<v.cells.size:=by simpa using hj
 have hp:j<p.cells.length:=by omega
 have:=(h2 j p.cells[j] (List.getElem?_eq_getElem hp)).m5.1;simpa[Array.getD,cR]using this
abbrev Ka0:=@Nat.zero_add
abbrev Ka1:=@List.length_map
abbrev Ka2:=@List.mem_of_mem_take
abbrev Ka3:=@List.map_cons
abbrev Ka4:=@Nat.mul_assoc
abbrev Ka5:=@Nat.div_lt_iff_lt_mul
abbrev Ka6:=@List.getLast?_eq_getElem?
abbrev Ka7:=@Nat.lt_of_lt_of_le
abbrev Ka8:=@Nat.pos_of_ne_zero
abbrev Ka9:=@Nat.div_add_mod
abbrev KaA:=@Array.getD_eq_getD_getElem?
abbrev KaB:=@List.all_eq_true
abbrev KaC:=@List.nil_append
abbrev KaD:=@List.take_succ_eq_append_getElem
abbrev KaE:=@List.cons_append
abbrev KaF:=@List.contains_nil
abbrev KaG:=@List.length_append
abbrev KaH:=@List.mem_cons
abbrev KaI:=@List.flatMap_nil
abbrev KaJ:=@Nat.add_zero
abbrev KaK:=@Sem.run_pure
abbrev KaL:=@Nat.mul_add
abbrev KaM:=@List.mem_map
abbrev KaN:=@List.getElem?_append
abbrev KaO:=@List.getElem?_drop
abbrev KaP:=@Nat.mul_comm
abbrev KaQ:=@List.mem_singleton
abbrev KaR:=@List.mem_append
abbrev KaS:=@List.any_eq_true
abbrev KaT:=@List.map_congr_left
abbrev KaU:=@List.replicate_zero
abbrev KaV:=@Nat.pow_le_pow_right
abbrev KaW:=@List.length_cons
abbrev KaX:=@List.length_drop
abbrev KaY:=@Nat.le_trans
abbrev KaZ:=@List.getElem_of_mem
abbrev Kaa:=@Option.map_eq_some_iff
abbrev Kab:=@Option.bind_eq_some_iff
abbrev Kac:=@List.getElem?_eq_some_iff
abbrev Kad:=@List.getD_eq_getElem?_getD
abbrev Kae:=@Nat.le_refl
abbrev Kaf:=@List.getElem?_eq_getElem
abbrev Kag:=@List.mem_of_getElem?
abbrev Kah:=@Result.andThen_ok
abbrev Kai:=@List.take_of_length_le
abbrev Kaj:=@Sem.run_bind
abbrev Kak:=@List.drop_of_length_le
abbrev Kal:=@Nat.mul_le_mul_right
abbrev Kam:=@List.mem_flatMap
abbrev Kan:=@List.append_nil
abbrev Kao:=@List.getElem_mem
abbrev Kap:=@List.getElem?_map
abbrev Kaq:=@Option.some.injEq
abbrev Kar:=@List.drop_eq_getElem_cons
abbrev Kas:=@List.length_eq_zero_iff
abbrev Kat:=@List.getElem?_of_mem
abbrev Kau:=@List.length_take
abbrev Kav:=@List.getElem?_take_of_lt
abbrev Kaw:=@List.contains_cons
abbrev Kax:=@Nat.add_mul
abbrev Kay:=@List.flatMap_cons
abbrev Kaz:=@Nat.mod_eq_of_lt
abbrev Kb0:=@List.take_zero
abbrev Kb1:=@Nat.mul_one
abbrev Kb2:=@Nat.add_mul_mod_self_left
abbrev Kb3:=@List.mem_cons_of_mem
abbrev Kb4:=@Nat.add_mul_div_left
abbrev Kb5:=@Array.getElem?_setIfInBounds_ne
abbrev Kb6:=@List.head?_drop
abbrev Kb7:=@List.cons.injEq
abbrev Kb8:=@Nat.zero_mul
abbrev Kb9:=@Array.length_toList
abbrev KbA:=@Nat.sub_self
abbrev KbB:=@Array.eq_empty_of_size_eq_zero
abbrev KbC:=@Option.bind_eq_bind
abbrev KbD:=@List.size_toArray
abbrev KbE:=@Nat.zero_le
abbrev KbF:=@Bool.or_eq_true
abbrev KbG:=@Nat.pow_pos
abbrev KbH:=@Nat.min_eq_left
abbrev KbI:=@Nat.mul_zero
abbrev KbJ:=@Nat.add_assoc
abbrev KbK:=@List.getElem?_append_left
abbrev KbL:=@Option.map_some
abbrev KbM:=@Nat.add_comm
abbrev KbN:=@Int.natAbs_natCast
abbrev KbO:=@List.getElem_map
abbrev KbP:=@List.eq_nil_of_length_eq_zero
abbrev KbQ:=@List.mem_append_left
abbrev KbR:=@List.mapM_cons
abbrev KbS:=@Nat.mul_le_mul
abbrev KbT:=@Array.size_append
abbrev KbU:=@Int.toNat_natCast
abbrev KbV:=@Option.pure_def
abbrev KbW:=@Option.bind_some
abbrev KbX:=@Nat.sub_zero
abbrev KbY:=@List.getElem?_take
abbrev KbZ:=@List.mem_filterMap
abbrev Kba:=@List.getElem?_append_right
abbrev Kbb:=@Bool.and_eq_true
abbrev Kbc:=@List.not_mem_nil
abbrev Kbd:=@Bool.false_eq_true
abbrev Kbe:=@List.mem_append_right
abbrev Kbf:=@List.map_nil
abbrev Kbg:=@Nat.pow_succ
abbrev Kbh:=@List.take_append_drop
abbrev Kbi:=@Array.getElem?_eq_getElem
abbrev Kbj:=@Array.mapM_eq_mapM_toList
abbrev Kbk:=@Nat.mul_le_mul_left
abbrev Kbl:=@Nat.mod_lt
abbrev Kbm:=@Option.getD_some
abbrev Kbn:=@List.take_length
abbrev Kbo:=@List.length_nil
abbrev Kbp:=@List.drop_zero
abbrev Kbq:=@Array.getElem?_eq_some_iff
abbrev Kbr:=@Nat.eq_of_mul_eq_mul_right
abbrev Kbs:=@List.append_assoc
abbrev Kbt:=@Nat.mul_left_comm
abbrev Kbu:=@List.headD_eq_head?_getD
abbrev Kbv:=@List.replicate_succ
abbrev Kbw:=@List.append_cons
abbrev Kbx:=@Option.ne_none_iff_exists'
abbrev Kby:=@List.mem_of_mem_drop
abbrev Kbz:=@Addr.add_lit
abbrev Kca:=@List.mem_map_of_mem
abbrev Kcb:=@Nat.lt_succ_self
abbrev Kcc:=@Nat.div_eq_of_lt
abbrev Kcd:=@List.length_eq_one_iff
abbrev Kce:=@Nat.lt_of_le_of_lt
abbrev Kcf:=@List.getLast?_cons
abbrev Kcg:=@Nat.div_le_self
abbrev Kch:=@Nat.gcd_comm
abbrev Kci:=@Int.fdiv_eq_ediv_of_nonneg
abbrev Kcj:=@List.getElem?_range
abbrev Kck:=@ByteArray.toList_eq
abbrev Kcl:=@List.getElem_append_left
abbrev Kcm:=@Option.some.inj
abbrev Kcn:=@Nat.gcd_zero_right
abbrev Kco:=@List.any_eq_false
abbrev Kcp:=@Rat.mkRat_self
abbrev Kcq:=@Nat.gcd_dvd_left
abbrev Kcr:=@Nat.min_eq_right
abbrev Kcs:=@Nat.gcd_le_right
abbrev Kct:=@List.mapM_nil
abbrev Kcu:=@List.sum_cons
attribute [go_sem_proc ↓] reduceIte
inductive aD where
 |t (n:Nat)
 |c (p:PV)
 deriving Inhabited
inductive bN where
 |mv (d:Nat) (x:aD)
 |pick (d:Nat) (c a b:aD)
 |bin (d:Nat) (op:BinOp) (bt:Bool) (x y:aD)
 |eqs (d:Nat) (ng:Bool) (x y:aD)
 |qW (d:Nat) (ng:Bool) (x y:aD)
 |vF (d:Nat) (x:aD)
 |vE (d:Nat) (x i:aD)
 |un (d:Nat) (op:UnOp) (x:aD)
 |conv (d:Nat) (k:IntKind) (x:aD)
 |len (d:Nat) (x:aD)
 |mx (d:Nat) (x y:aD)
 |mn (d:Nat) (x y:aD)
 |idx (d e:Nat) (x i:aD)
 |kB (d n e:Nat) (x i:aD)
 |vp (d n e:Nat) (ag:Bool) (x i:aD)
 |bw (d off:Nat) (x:aD)
 |si (d off n:Nat) (ag:Bool) (x:aD)
 |ld (d n:Nat) (ag:Bool) (x:aD)
 |st (n:Nat) (x v:aD)
 |box (d n ty:Nat) (v:aD)
 |alloc (d n ty:Nat) (z:PV)
 |mk (d e bytes ty:Nat) (z:PV) (l c:aD)
 |bs (d e ty:Nat) (parts:List aD)
 |app (d e bytes ty:Nat) (s x:aD)
 |oL (d e:Nat) (s x:aD)
 |sl (d e:Nat) (x:aD) (lo hi mx:Option aD)
 |ext (d:Nat) (x:aD) (i:Nat)
 |cc (d:Nat) (zero:List PV) (parts:List (Nat×Nat×aD))
 |fn (d f:Nat) (first cap:List aD)
 |call (d:Option Nat) (pr:Bool) (f:aD) (args:List aD)
 |vv (d:Option Nat) (x:aD)
 |bad (d:Option Nat)
 deriving Inhabited
def bN.dst:bN->Option Nat
 |.mv d _| .pick d _ _ _| .bin d _ _ _ _| .eqs d _ _ _| .qW d _ _ _| .vF d _| .vE d _ _| .un d _ _| .conv d _ _| .len d _| .mx d _ _| .mn d _ _| .idx d _ _ _| .kB d _ _ _ _| .vp d _ _ _ _ _| .bw d _ _| .si d _ _ _ _
 |.ld d _ _ _| .box d _ _ _| .alloc d _ _ _| .mk d _ _ _ _ _ _| .bs d _ _ _| .app d _ _ _ _ _| .oL d _ _ _| .sl d _ _ _ _ _| .ext d _ _| .cc d _ _| .fn d _ _ _=>some d
 |.st _ _ _=>none
 |.call d _ _ _| .vv d _| .bad d=>d
structure pd where
 g:Option (Nat×Bool)
 o:bN
 deriving Inhabited
inductive RT where
 |nil
 |o (g:Option (Nat×Bool)) (o:bN) (r:RT)
 |br (a b:RT)
 |wk (r:RT)
 deriving Inhabited
inductive SC where
 |skip
 |rg (r:RT)
 |raw (id:Nat) (ops:Array Oper)
 |seq (a b:SC)
 |cond (c:aD) (a b:SC)
 |block (id:Nat) (a:SC)
 |loop (a:SC)
 |exit (id:Nat)
 |ret
 deriving Inhabited
def tC:Value->Option PV
 |.int k n=>some (.int k n)
 |.bool b=>some (.bool b)
 |.string s=>some (.str s)
 |.slice none 0 0=>some .aa
 |_=>none
def nk:Value->Option PV
 |.agg cs=>(cs.toList.mapM tC).map .agg
 |v=>tC v
def bp:Operand->Option aD
 |.tmp t=>some (.t t)
 |.const v=>(nk v).map .c
 |.func f=>some (.c (.fn f [] []))
 |.global _=>none
def cU(P:Program)(t:TypeId):Option Nat:=(P.info? t).map (·.size)
def iK(P:Program)(t:TypeId):Option Bool:=(P.underlying t).map fun d=>match d with| .struct _| .array _ _=>true|_=>false
def nr(P:Program)(t:TypeId):Option TypeId:=match P.underlying t with|some (.slice e)=>some e|_=>none
def fZ(P:Program)(t:TypeId):Option (Nat×Nat×PV):=(P.info? t).bind fun i=>i.zero.bind fun z=>(nk z).map fun p=>(i.size,i.bytes,p)
def j1:Option Operand->Option (Option aD)
 |none=>some none
 |some x=>(bp x).map some
def tW(P:Program)(t:TypeId)(parts:List (Nat×Operand)):Option (List (Nat×Nat×aD)):=
 match P.underlying t with
 |some (.struct fs)=>(fs.toList.mapM fun f=>(P.info? f.type).map fun i=>(f.offset,i.size)).bind fun pl=>parts.mapM fun p=>(pl[p.1]?).bind fun q=>(bp p.2).map fun y=>(q.1,q.2,y)
 |some (.array _ e)=>(cU P e).bind fun n=>parts.mapM fun p=>(bp p.2).map fun y=>(p.1*n,n,y)
 |_=>none
def yW(P:Program)(t:TypeId):Bool:=match P.underlying t with
 |some (.struct fs)=>match fs.toList with
  | [f, g] => f.name != "_" && g.name != "_" && f.offset == 0 && g.offset == 1 && (match P.underlying f.type with | some (.int _) => true | _ => false) && (match P.underlying g.type with | some (.int _) => true | _ => false) && !(P.stoodInHeld t) && !(P.eqGuardType P.depth t)
  |_=>false
 |_=>false
def xK:BinOp->Option Bool
 |.eql=>some false
 |.neq=>some true
 |_=>none
def rW(P:Program)(t:TypeId):Bool:=match P.underlying t with|some .string=>true|_=>false
def uo(P:Program)(op:BinOp)(t:TypeId)(d:Nat)(x y:aD):bN:=
 match(if yW P t then xK op else none)with
 |some ng=>.eqs d ng x y
 |none=>match(if rW P t then xK op else none)with
  |some ng=>.qW d ng x y
  |none=>.bin d op (match P.underlying t with|some .bool=>true|_=>false) x y
def QI : List String := ["geoprover/matrix.reduce", "geoprover/matrix.subtract", "geoprover/geoproverref09.echelon"]
def Fc(P:Program)(f:aD):Bool:=match f with
 |.c (.fn g _ _)=>(P.funcs[g]?).any fun fn=>QI.contains fn.name
 |_=>false
def jj(P:Program)(draw:Bool)(o:Oper):Option bN:=
 match o.op,o.dst with
 |.move x,some d| .assign x,some d=>(bp x).map (.mv d)
 |.pick c a b,some d=>(bp c).bind fun c=>(bp a).bind fun a=>(bp b).map fun b=>.pick d c a b
 |.binOp op t x y _,some d=>(bp x).bind fun x=>(bp y).map fun y=>uo P op t d x y
 |.unOp op _ x,some d=>(bp x).map (.un d op)
 |.convert s t x,some d=>match P.underlying s,P.underlying t with
  |some _,some (.int k)=>(bp x).map (.conv d k)
  |_,_=>none
 |.indexAddr t x i,some d=>(bp x).bind fun x=>(bp i).bind fun i=>match P.underlying t with
  |some (.slice e)=>(cU P e).map fun n=>.idx d n x i
  |some (.array len e)=>(cU P e).map fun n=>.kB d len n x i
  |_=>none
 |.index t x i,some d=>(bp x).bind fun x=>(bp i).bind fun i=>match P.underlying t with
  |some (.array len e)=>(cU P e).bind fun n=>(iK P e).map fun ag=>.vp d len n ag x i
  |some .string=>some (.vE d x i)
  |_=>none
 |.fieldAddr t x j,some d=>(bp x).bind fun x=>match P.underlying t with
  |some (.struct fs)=>(fs[j]?).bind fun f=>(cU P f.type).bind fun n=>if n=0 then none else some (.bw d f.offset x)
  |_=>none
 |.field t x j,some d=>(bp x).bind fun x=>match P.underlying t with
  |some (.struct fs)=>(fs[j]?).bind fun f=>(cU P f.type).bind fun n=>(iK P f.type).map fun ag=>.si d f.offset n ag x
  |_=>none
 |.load t x,some d=>(bp x).bind fun x=>(cU P t).bind fun n=>(iK P t).map fun ag=>.ld d n ag x
 |.store t x v,none=>(bp x).bind fun x=>(bp v).bind fun v=>(cU P t).map fun n=>.st n x v
 |.box t v,some d=>(bp v).bind fun v=>(cU P t).map fun n=>.box d n t v
 |.alloc t,some d=>(fZ P t).map fun(n,_,z)=>.alloc d n t z
 |.makeSlice t l c,some d=>(bp l).bind fun l=>(bp c).bind fun c=>(nr P t).bind fun e=>(fZ P e).map fun(n,by_,z)=>.mk d n by_ e z l c
 |.buildSlice t len parts,some d=>(nr P t).bind fun e=>(fZ P e).bind fun r=>
   if parts.toList.map (·.1)=List.range len/\len*r.1<=16777216/\r.2.2.cells.length=r.1 then(parts.toList.mapM fun p=>bp p.2).map fun ps=>.bs d r.1 e ps else none
 |.build t parts,some d=>(fZ P t).bind fun(_,_,z)=>(tW P t parts.toList).map fun ps=>.cc d z.cells ps
 |.slice t x lo hi m,some d=>(bp x).bind fun x=>(j1 lo).bind fun lo=>(j1 hi).bind fun hi=>(j1 m).bind fun m=>(nr P t).bind fun e=>(cU P e).map fun n=>.sl d n x lo hi m
 |.extract x i,some d=>(bp x).map fun x=>.ext d x i
 |.makeFunc (.func f) first cap,some d=>(first.toList.mapM bp).bind fun first=>(cap.toList.mapM bp).map fun cap=>.fn d f first cap
 |.nilCheck x,d=>(bp x).map fun x=>.vv d x
 |.call c,d=>match c.callee,c.args.toList,c.argTypes.toList,d with
  |.value f,args,_,d=>(bp f).bind fun f=>(args.mapM bp).map fun args=>.call d (draw&& !Fc P f) f args
  |.builtin .len,[x],[t],some d=>if rW P t then(bp x).map fun x=>.vF d x else(nr P t).bind fun _=>(bp x).map fun x=>.len d x
  |.builtin .max,[x,y],_,some d=>(bp x).bind fun x=>(bp y).map fun y=>.mx d x y
  |.builtin .min,[x,y],_,some d=>(bp x).bind fun x=>(bp y).map fun y=>.mn d x y
  |.builtin .append,[s,x],[t,u],some d=>(bp s).bind fun s=>(bp x).bind fun x=>(nr P t).bind fun e=>if t=u then(fZ P e).bind fun r=>if r.2.2.cells.length=r.1 then some (.app d r.1 r.2.1 e s x)else none else none
  |.builtin .copy,[s,x],[t,u],some d=>(bp s).bind fun s=>(bp x).bind fun x=>(nr P t).bind fun e=>if t=u then(cU P e).map fun n=>.oL d n s x else none
  |_,_,_,_=>none
 |_,_=>none
def dV(P:Program)(draw:Bool)(o:Oper):bN:=(jj P draw o).getD (.bad o.dst)
def nc(P:Program)(n:Nat)(draw:Bool)(ops:Array Oper)(o:Oper):Option pd:=
 if o.dst.all (· <n)then
  match o.guard with
  |none=>some ⟨none,dV P draw o⟩
  |some (j,want)=>match(ops[j]?).bind (·.dst)with
   |some s=>if s<n then some ⟨some (s,want),dV P draw o⟩else none
   |none=>none
 else none
def bN.cls:bN->Nat
 |.ld .. =>1
 |.box .. | .alloc .. | .mk .. | .bs .. | .call .. | .bad _=>2
 |.st .. | .app .. | .oL .. =>3
 |_=>0
def bN.fo:bN->Bool
 |.st .. | .app .. | .oL .. =>true
 |.call _ pr _ _=> !pr
 |_=>false
def bN.abV:bN->Bool
 |.call .. =>true
 |_=>false
def mw(ops:Array Oper):Nat->Nat->Nat->Bool
 |0,_,_=>false
 |n+1,i,j=>match ops[j]? with
  |none=>false
  |some o=>o.after.toList.any fun e=>Region.binds .any e&&(e.on==i||mw ops n i e.on)
def ov(P:Program)(ops:Array Oper)(i:Nat):Nat:=((ops[i]?).map fun o=>(dV P true o).cls).getD 9
def rR(P:Program)(dr:Bool)(ops:Array Oper)(i:Nat):Bool:=((ops[i]?).map fun o=>(dV P dr o).fo).getD false
def Cr(P:Program)(dr:Bool)(ops:Array Oper)(aN:Array Bool)(i:Nat):Bool:=
  (Region.ready .any ops aN).contains i&&Region.free .any ops aN i&&
  (match ov P ops i with
   |0=>true
   |1=>(List.range ops.size).all fun j=> !rR P dr ops j||mw ops ops.size i j
   |_=>false)
def oJ:List RT->RT
 | []=>.nil
 | [r]=>r
 |r::rs=>.br r (oJ rs)
def lI(P:Program)(N:Nat)(dr:Bool)(ops:Array Oper):Nat->Array Bool->Option RT
 |0,aN=>if Region.ready .any ops aN==[]then some .nil else none
 |n+1,aN=>
  if Region.ready .any ops aN==[]then some .nil else
  match(List.range ops.size).find? (Cr P dr ops aN)with
  |some i=>((ops[i]?).bind (nc P N dr ops)).bind fun g=>(lI P N dr ops n (aN.setIfInBounds i true)).map fun r=>.o g.g g.o r
  |none=>((Region.ready .any ops aN).mapM fun i=>((ops[i]?).bind (nc P N dr ops)).bind fun g=>(lI P N dr ops n (aN.setIfInBounds i true)).map fun r=>RT.o g.g g.o r).map oJ
def tJ(P:Program)(N:Nat)(dr:Bool)(ops:Array Oper):Nat->Array Bool->Option RT
 |0,aN=>if Region.ready .any ops aN==[]then some .nil else none
 | n+1,aN=>
  if Region.ready .any ops aN==[]then some .nil else
  match(List.range ops.size).find? (Cr P dr ops aN)with
  |some i=>((ops[i]?).bind (nc P N dr ops)).bind fun g=>(tJ P N dr ops n (aN.setIfInBounds i true)).map fun r=>.o g.g g.o r
  |none=>match Region.ready .any ops aN with
   | [i]=>((ops[i]?).bind (nc P N dr ops)).bind fun g=>(tJ P N dr ops n (aN.setIfInBounds i true)).map fun r=>.o g.g g.o r
   |_=>none
theorem vO{P:Program}{N:Nat}{dr:Bool}{ops:Array Oper}:∀(n:Nat)(aN:Array Bool)(r:RT),tJ P N dr ops n aN=some r->lI P N dr ops n aN=some r
 |0,aN,r,h=>h
 | n +1,aN,r,h=>by
  unfold tJ at h;unfold lI;split
  ·rename_i hr;rw[if_pos hr]at h;exact h
  ·rename_i hr;rw[if_neg hr]at h;split at h
   ·rename_i i hf;simp only[Kab,Kaa]at h⊢;obtain⟨g,hg,r',dS,rfl⟩:=h;exact⟨g,hg,r',vO n _ _ dS,rfl⟩
   ·rename_i hf;split at h
    ·rename_i i yA;simp only[Kab,Kaa]at h;obtain⟨g,⟨o,ho,hg⟩,r',dS,rfl⟩:=h;simp[yA,ho,hg,vO n _ _ dS,oJ]
    ·cases h
def RT.count:RT->Nat
 |.nil=>1
 |.o _ _ r=>r.count
 |.br a b=>a.count+b.count
 |.wk r=>r.count
def rX:List pd->RT
 | []=>.nil
 |g::gs=>.o g.g g.o (rX gs)
def QJ(P:Program)(ops:Array Oper):Bool:=decide (ops.size<=100)&&ops.toList.any fun o=>(dV P false o).abV
def QK(P:Program)(ops:Array Oper):Bool:=
 let cs:=ops.toList.map (dV P true)
 decide (100<ops.size)||4<=(cs.filter fun o=>match o with| .app .. =>true|_=>false).length||
  (3<=(cs.filter fun o=>match o with| .box .. | .alloc .. =>true|_=>false).length&&3<=(cs.filter fun o=>match o with| .st .. =>true|_=>false).length)
def tD(P:Program)(N:Nat)(ops:Array Oper)(dr:Bool)(qQ:Nat):Option SC:=
 if QK P ops then none else
 match lI P N dr ops ops.size (Array.replicate ops.size false)with
 |some r=>if r.count<=qQ then some (.rg r)else none
 |none=>none
def tE(P:Program)(N:Nat)(ops:Array Oper)(draw:Bool):Option SC:=
 if draw then
  if Region.noSelect ops then
   match(if QJ P ops then(tJ P N false ops ops.size (Array.replicate ops.size false)).map .rg else none)with
   |some s=>some s
   |none=>tD P N ops true 100
  else none
 else(ops.toList.mapM (nc P N false ops)).map fun l=>.rg (rX l)
def dN(P:Program)(N:Nat):Code->Option SC
 |.skip=>some .skip
 |.region id ops draw=>match tE P N ops draw with
  |some s=>some s
  |none=>if draw then some (.raw id ops)else none
 |.seq a b=>(dN P N a).bind fun a=>(dN P N b).map fun b=>.seq a b
 |.cond c a b=>(bp c).bind fun c=>(dN P N a).bind fun a=>(dN P N b).map fun b=>.cond c a b
 |.block id a=>(dN P N a).map (.block id)
 |.loop a=>(dN P N a).map .loop
 |.exit id=>some (.exit id)
 |.ret=>some .ret
 |_=>none
inductive RV where
 |t (s:Nat)
 |cell (s n:Nat) (ag:Bool)
 deriving Inhabited
def eF(P:Program)(r:ResultVar):Option RV:=
 match r with
 |.tmp t=>some (.t t)
 |.cell a t=>(cU P t).bind fun n=>(iK P t).map fun ag=>.cell a n ag
def RT.strip:RT->RT
 |.nil=>.nil
 |.o g p r=>.o g p r.strip
 |.br a b=>.br a.strip b.strip
 |.wk r=>r.strip
def SC.strip:SC->SC
 |.rg r=>.rg r.strip
 |.seq a b=>.seq a.strip b.strip
 |.cond c a b=>.cond c a.strip b.strip
 |.block id a=>.block id a.strip
 |.loop a=>.loop a.strip
 |s=>s
theorem G3:∀l:List pd,(rX l).strip=rX l
 | []=>rfl
 |g::gs=>by simp only[rX,RT.strip,G3 gs]
theorem HJ:∀l:List RT,(∀r∈l,r.strip=r)->(oJ l).strip=oJ l
 | [],_=>rfl
 | [r],h=>h r (by simp)
 |r::s::l,h=>by have:=HJ (s::l) fun x hx=>h x (Kb3 _ hx);simp only[oJ,RT.strip,h r (by simp),this]
theorem Iv{α β:Type}{f:α->Option β}{Q:β->Prop}(hf:∀a b,f a=some b->Q b):∀(l:List α)(rs:List β),l.mapM f=some rs->∀r∈rs,Q r
 | [],rs,h=>by simp at h;subst h;simp
 |a::l,rs,h=>by
  simp only[KbR,KbC,KbV,Kab,Kaq]at h;obtain⟨b,h1,bs,h2,rfl⟩:=h;intro r hr;rcases KaH.1 hr with rfl|hr
  ·exact hf _ _ h1
  ·exact Iv hf l bs h2 r hr
theorem vQ{P:Program}{N:Nat}{dr:Bool}{ops:Array Oper}:∀(n:Nat)(aN:Array Bool)(r:RT),lI P N dr ops n aN=some r->r.strip=r
 |0,aN,r,h=>by
  unfold lI at h;split at h
  ·cases h;rfl
  ·cases h
 | n+1,aN,r,h=>by
  unfold lI at h;split at h
  ·cases h;rfl
  ·split at h
   ·simp only[Kab,Kaa]at h;obtain⟨g,_,r',dS,rfl⟩:=h;simp only[RT.strip,vQ n _ _ dS]
   ·simp only[Kaa]at h;obtain⟨rs,ct,rfl⟩:=h;refine HJ rs (Iv (fun i b hb=>?_) _ rs ct);simp only[Kab,Kaa]at hb;obtain⟨g,_,r',dS,rfl⟩:=hb;simp only[RT.strip,vQ n _ _ dS]
theorem Xi{P:Program}{N:Nat}{ops:Array Oper}{draw:Bool}{s:SC}(h:tE P N ops draw=some s):s.strip=s:=by
 unfold tE at h;split at h
 ·split at h
  ·have key:∀(dr:Bool) (qQ:Nat) (s:SC),tD P N ops dr qQ=some s->s.strip=s:=fun dr qQ s hc=>by
    unfold tD at hc;split at hc
    ·cases hc
    split at hc
    ·rename_i r hr;split at hc
     ·cases hc;simp only[SC.strip,vQ _ _ _ hr]
     ·cases hc
    ·cases hc
   split at h
   ·rename_i s' dw;cases h;split at dw
    ·simp only[Kaa]at dw;obtain⟨r,hr,rfl⟩:=dw;simp only[SC.strip,vQ _ _ _ (vO _ _ _ hr)]
    ·cases dw
   ·exact key _ _ _ h
  ·cases h
 ·simp only[Kaa]at h;obtain⟨gs,_,rfl⟩:=h;simp only[SC.strip,G3]
theorem Xl{P:Program}{N:Nat}:∀(c:Code)(s:SC),dN P N c=some s->s.strip=s:=by
 intro c;induction c with
 |skip=>intro s h;simp[dN]at h;subst h;rfl
 | region id ops draw=>
  intro s h;simp only[dN]at h;split at h
  ·rename_i s' dw;cases h;exact Xi dw
  ·split at h
   ·cases h;rfl
   ·cases h
 |seq x y gM qM=>intro s h;simp only[dN,Kab,Kaa]at h;obtain⟨sx,hx,sy,hy,rfl⟩:=h;simp only[SC.strip,gM _ hx,qM _ hy]
 |cond c x y gM qM=>intro s h;simp only[dN,Kab,Kaa]at h;obtain⟨pc,jF,sx,hx,sy,hy,rfl⟩:=h;simp only[SC.strip,gM _ hx,qM _ hy]
 |block id x gM=>intro s h;simp only[dN,Kaa]at h;obtain⟨sx,hx,rfl⟩:=h;simp only[SC.strip,gM _ hx]
 |loop x gM=>intro s h;simp only[dN,Kaa]at h;obtain⟨sx,hx,rfl⟩:=h;simp only[SC.strip,gM _ hx]
 |exit id=>intro s h;simp[dN]at h;subst h;rfl
 |ret=>intro s h;simp[dN]at h;subst h;rfl
 |_=>intro s h;simp[dN]at h
structure aw where
 n:Nat
 rs:List RV
 body:SC
 deriving Inhabited
def Qe(P:Program)(f:Func):Option aw:=
 f.body.bind fun c=>(dN P f.ntmps c).bind fun b=>(f.results.toList.mapM (eF P)).map fun rs=>⟨f.ntmps,rs,b⟩
def aw.strip(s:aw):aw:=⟨s.n,s.rs,s.body.strip⟩
abbrev Zo(o:bN)(r:RT):RT:=.o none o r
abbrev Zg(g:Nat)(b:Bool)(o:bN)(r:RT):RT:=.o (some (g,b)) o r
abbrev Zm(d x:Nat)(r:RT):RT:=.o none (.mv d (.t x)) r
abbrev Zc(d:Nat)(n:Int)(r:RT):RT:=.o none (.mv d (.c (.int .i64 n))) r
abbrev Zf(d o x:Nat)(r:RT):RT:=.o none (.bw d o (.t x)) r
abbrev Zl(d n x:Nat)(r:RT):RT:=.o none (.ld d n false (.t x)) r
abbrev Zh(d n x:Nat)(r:RT):RT:=.o none (.ld d n true (.t x)) r
abbrev Zs(n x v:Nat)(r:RT):RT:=.o none (.st n (.t x) (.t v)) r
abbrev Zi(d e x i:Nat)(r:RT):RT:=.o none (.idx d e (.t x) (.t i)) r
abbrev Zb(d:Nat)(o:BinOp)(x y:Nat)(r:RT):RT:=.o none (.bin d o false (.t x) (.t y)) r
abbrev Zk(d:Nat)(o:BinOp)(x:Nat)(n:Int)(r:RT):RT:=.o none (.bin d o false (.t x) (.c (.int .i64 n))) r
abbrev Zn(d x:Nat)(r:RT):RT:=.o none (.len d (.t x)) r
abbrev Zu(d x:Nat)(r:RT):RT:=.o none (.un d .not (.t x)) r
abbrev Zq(d:Nat)(p:Bool)(f:Nat)(l:List aD)(r:RT):RT:=.o none (.call (some d) p (.c (.fn f [] [])) l) r
abbrev Zr(r:RT)(y:SC):SC:=.seq (.rg r) y
abbrev Zz(n:Int):PV:=.int .i64 n
theorem D0{p:Prop}(h:p:=by first|omega|rfl|(simp+decide only[go_sem]<;>rfl)|fail):p:=h
theorem D1{p A0:Prop}(x0:A0)(h:A0->p:=by intro x0;first|omega|rfl|(simp+decide only[go_sem,x0]<;>rfl)|fail):p:=h x0
theorem D2{p A0 A1:Prop}(x0:A0)(x1:A1)(h:A0->A1->p:=by intro x0 x1;first|omega|rfl|(simp+decide only[go_sem,x0,x1]<;>rfl)|fail):p:=h x0 x1
theorem D3{p A0 A1 A2:Prop}(x0:A0)(x1:A1)(x2:A2)(h:A0->A1->A2->p:=by intro x0 x1 x2;first|omega|rfl|(simp+decide only[go_sem,x0,x1,x2]<;>rfl)|fail):p:=h x0 x1 x2
theorem D4{p A0 A1 A2 A3:Prop}(x0:A0)(x1:A1)(x2:A2)(x3:A3)(h:A0->A1->A2->A3->p:=by intro x0 x1 x2 x3;first|omega|rfl|(simp+decide only[go_sem,x0,x1,x2,x3]<;>rfl)|fail):p:=h x0 x1 x2 x3
theorem D5{p A0 A1 A2 A3 A4:Prop}(x0:A0)(x1:A1)(x2:A2)(x3:A3)(x4:A4)(h:A0->A1->A2->A3->A4->p:=by intro x0 x1 x2 x3 x4;first|omega|rfl|(simp+decide only[go_sem,x0,x1,x2,x3,x4]<;>rfl)|fail):p:=h x0 x1 x2 x3 x4
theorem D6{p A0 A1 A2 A3 A4 A5:Prop}(x0:A0)(x1:A1)(x2:A2)(x3:A3)(x4:A4)(x5:A5)(h:A0->A1->A2->A3->A4->A5->p:=by intro x0 x1 x2 x3 x4 x5;first|omega|rfl|(simp+decide only[go_sem,x0,x1,x2,x3,x4,x5]<;>rfl)|fail):p:=h x0 x1 x2 x3 x4 x5
theorem E0{p:Prop}(h:p:=by first|omega|rfl|(simp+decide only[go_sem,eG,Kaw,KaF,Kay,KaI,Kan]<;>rfl)|fail):p:=h
theorem E1{p A0:Prop}(x0:A0)(h:A0->p:=by intro x0;first|omega|rfl|(simp+decide only[go_sem,eG,Kaw,KaF,Kay,KaI,Kan,x0]<;>rfl)|fail):p:=h x0
abbrev Fr:=Nat->PV
structure HB where
 e:Nat
 ty:TypeId
 xs:List PV
 fz:Bool
abbrev HP:=Nat->Option HB
def ae(f:Fr)(a:Nat)(v:PV):Fr:=fun b=>if b=a then v else f b
def Qi(h:HP)(a:Nat)(v:HB):HP:=fun b=>if b=a then some v else h b
def aY:Fr:=fun _=>.undef
def au:HP:=fun _=>none
def bg(β:Nat):Bool:=decide (1000000<=β)
def aF(β:Nat):Bool:=decide (1000000<=β)&&decide (β<2000000)
def dy(β:Nat):Bool:=decide (1500000<=β)&&decide (β<2000000)
theorem rI{β:Nat}(h:aF β=false):dy β=false:=by simp[aF]at h;simp[dy];omega
theorem rJ{β:Nat}(h:bg β=false):aF β=false:=by simp[bg]at h;simp[aF];omega
def PV.bb:PV->List Nat
 |.mp β _ _=>[β]
 |.ao β _ _| .rb β _ _=>[β]
 |_=>[]
def PV.refs:PV->List Nat
 |.mp β _ _=>[β]
 |.ao β _ _| .rb β _ _=>[β]
 |.fn _ first cap=>first.flatMap PV.bb++cap.flatMap PV.bb
 |_=>[]
def PV.gO:PV->Bool
 |.mp .. | .ao .. | .rb .. | .int .. | .bool _| .aa| .sl .. | .pt _| .np .. | .aB .. =>true
 |_=>false
def PV.cA:PV->List Nat
 |.ao β _ _=>[β]
 |.aB γ _ _| .np γ _ _=>[γ]
 |_=>[]
def PV.cV:PV->List Nat
 |.aB γ _ _| .np γ _ _=>[γ]
 |_=>[]
def PV.aI:PV->List Nat
 |.aB γ _ _| .np γ _ _=>[γ]
 |.aE cs=>cs.flatMap PV.cA
 |.cW cs=>cs.flatMap PV.cA
 |.cj cs _=>cs.flatMap PV.cA
 |.az γ _ _ xs=>γ::xs.flatMap fun x=>x.aL.flatMap PV.cA
 |.fn _ first cap=>first.flatMap PV.cV++cap.flatMap PV.cV
 |_=>[]
def bf(β:Nat)(p:PV):PV:=if p.refs.contains β then .undef else p
def bI(β:Nat)(fr:Fr):Fr:=fun i=>bf β (fr i)
def bS(hp:HP):PV->PV
 |.mp β i o=>if aF β then .undef else match hp β with
  |some hb=>match hb.xs[i]? with
   |some x=>.pt (x.cells.drop o)
   |none=>.undef
  |none=>.undef
 |.ao β o n=>if aF β then .undef else match hp β with
  |some hb=>.sl hb.e ((hb.xs.drop o).take n)
  |none=>.undef
 |.rb _ _ _| .aB _ _ _| .np _ _ _| .aE _| .cW _| .cj _ _| .az _ _ _ _=>.undef
 |p=>p
def Qy(hp:HP):PV->PV
 |.fn f first cap=>.fn f (first.map (bS hp)) (cap.map (bS hp))
 |p=>bS hp p
def bq(hp:HP)(l:List Nat):HP:=fun β=>if l.contains β then(hp β).map fun hb=>{ hb with fz:=true }else hp β
def ev(fr:Fr):aD->PV
 |.t n=>fr n
 |.c p=>p
def dk:Bool->Nat->Nat->PV->PV
 |true,n,o,x=>.agg ((x.cells.drop o).take n)
 |false,_,o,x=>(x.cells.drop o).headD .undef
def m6(x:PV)(o:Nat)(v:PV):PV:=.agg (x.cells.take o++v.cells++x.cells.drop (o+v.cells.length))
def PV.kD:PV->Bool
 |.ao .. | .aB .. | .undef=>true
 |_=>false
def jY(cs:List PV):PV:=if cs.any PV.kD then .aE cs else .agg cs
def dX:List PV->PV
 | [c]=>c
 |cs=>jY cs
def m3(ag:Bool)(n o:Nat)(x:PV):PV:=if ag then jY ((x.aL.drop o).take n)else(x.aL.drop o).headD .undef
def cT:PV->Option (List PV)
 |.aE cs=>if cs.all PV.eK then some cs else none
 |.aB γ o n=>some [.aB γ o n]
 |.ao β o n=>if bg β then some [.ao β o n]else none
 |.int k n=>some [.int k n]
 |.bool b=>some [.bool b]
 |.aa=>some [.aa]
 |.sl e xs=>some [.sl e xs]
 |.pt cs=>some [.pt cs]
 |.agg cs=>some cs
 |_=>none
def lR(l:List PV)(o:Nat)(cs:List PV):List PV:=l.take o++cs++l.drop (o+cs.length)
def fy(γ:Nat):PV->PV
 |.az aO e ty xs=>if aO=γ then .undef else .az aO e ty xs
 |p=>p
def fm(γ:Nat)(fr:Fr):Fr:=fun i=>fy γ (fr i)
def eY(β:Nat):PV->PV
 |.ao bd o n=>if bd=β then .undef else .ao bd o n
 |.aB γ o n=>if γ=β then .undef else .aB γ o n
 |p=>p
def cn(β:Nat):PV->PV
 |.az γ e ty xs=>if γ=β then .undef else .az γ e ty (xs.map fun x=>dX (x.aL.map (eY β)))
 |.aE cs=>.aE (cs.map (eY β))
 |.cW cs=>.cW (cs.map (eY β))
 |.cj cs q=>.cj (cs.map (eY β)) q
 |.aB γ o n=>if γ=β then .undef else .aB γ o n
 |.np γ i o=>if γ=β then .undef else .np γ i o
 |.fn f first cap=>if(first.flatMap PV.cV++cap.flatMap PV.cV).contains β then .undef else bf β (.fn f first cap)
 |p=>bf β p
def dO(β:Nat)(fr:Fr):Fr:=fun i=>cn β (fr i)
abbrev Qg:=Fr->HP->Prop
def bF(op:BinOp)(bt:Bool)(a b:PV)(d:Nat)(fr:Fr)(hp:HP)(K:Qg):Prop:=
 match a,b with
 |.int k x,.int k' y=>
  match op with
  |.shl=>0<=y/\K (ae fr d (.int k (k.wrap (x*2^(min y.toNat k.bits))))) hp
  |.shr=>0<=y/\K (ae fr d (.int k (x.fdiv (2^(min y.toNat k.bits))))) hp
  |.add=>k=k'/\K (ae fr d (.int k (k.wrap (x+y)))) hp
  |.sub=>k=k'/\K (ae fr d (.int k (k.wrap (x-y)))) hp
  |.mul=>k=k'/\K (ae fr d (.int k (k.wrap (x*y)))) hp
  |.quo=>k=k'/\y≠0/\K (ae fr d (.int k (k.wrap (x.tdiv y)))) hp
  |.rem=>k=k'/\y≠0/\K (ae fr d (.int k (x.tmod y))) hp
  |.and=>k=k'/\K (ae fr d (.int k (k.wrap (BitVec.ofInt k.bits x&&&BitVec.ofInt k.bits y).toNat))) hp
  |.or=>k=k'/\K (ae fr d (.int k (k.wrap (BitVec.ofInt k.bits x|||BitVec.ofInt k.bits y).toNat))) hp
  |.xor=>k=k'/\K (ae fr d (.int k (k.wrap (BitVec.ofInt k.bits x^^^BitVec.ofInt k.bits y).toNat))) hp
  |.andNot=>False
  |.eql=>k=k'/\K (ae fr d (.bool (decide (x=y)))) hp
  |.neq=>k=k'/\K (ae fr d (.bool (!decide (x=y)))) hp
  |.lss=>k=k'/\K (ae fr d (.bool (decide (x<y)))) hp
  |.leq=>k=k'/\K (ae fr d (.bool (decide (x<=y)))) hp
  |.gtr=>k=k'/\K (ae fr d (.bool (decide (y<x)))) hp
  |.geq=>k=k'/\K (ae fr d (.bool (decide (y<=x)))) hp
 |.bool x,.bool y=>
  match op with
  |.eql=>bt=true/\K (ae fr d (.bool (x==y))) hp
  |.neq=>bt=true/\K (ae fr d (.bool (!(x==y)))) hp
  |_=>False
 |_,_=>False
def mL(ng:Bool)(a b:PV)(d:Nat)(fr:Fr)(hp:HP)(K:Qg):Prop:=
 match a,b with
 |.agg [.int k x,.int l y],.agg [.int k' x',.int l' y']=>k=k'/\l=l'/\K (ae fr d (.bool (ng !=(decide (x=x')&&decide (y=y'))))) hp
 |_,_=>False
def mM(ng:Bool)(a b:PV)(d:Nat)(fr:Fr)(hp:HP)(K:Qg):Prop:=
 match a,b with
 |.str x,.str y=>K (ae fr d (.bool (ng !=decide (x=y)))) hp
 |_,_=>False
def pW(a:PV)(d:Nat)(fr:Fr)(hp:HP)(K:Qg):Prop:=
 match a with
 |.str s=>K (ae fr d (.int .i64 s.size)) hp
 |_=>False
def oy(a i:PV)(d:Nat)(fr:Fr)(hp:HP)(K:Qg):Prop:=
 match a,i with
 |.str s,.int _ n=>0<=n/\n<s.size/\K (ae fr d (.int .u8 (s.get! n.toNat).toNat)) hp
 |_,_=>False
def ns(c a b:PV)(d:Nat)(fr:Fr)(hp:HP)(K:Qg):Prop:=
 match c with
 |.bool t=>(t=true->K (ae fr d a) hp)/\(t=false->K (ae fr d b) hp)
 |_=>False
def pb(op:UnOp)(a:PV)(d:Nat)(fr:Fr)(hp:HP)(K:Qg):Prop:=
 match op,a with
 |.not,.bool b=>K (ae fr d (.bool !b)) hp
 |.neg,.int k n=>K (ae fr d (.int k (k.wrap (0-n)))) hp
 |_,_=>False
def pN(k:IntKind)(a:PV)(d:Nat)(fr:Fr)(hp:HP)(K:Qg):Prop:=
 match a with
 |.int _ n=>K (ae fr d (.int k (k.wrap n))) hp
 |_=>False
def kS(a:PV)(d:Nat)(fr:Fr)(hp:HP)(K:Qg):Prop:=
 match a with
 |.aa=>K (ae fr d (.int .i64 0)) hp
 |.sl _ xs=>K (ae fr d (.int .i64 xs.length)) hp
 |.ao _ _ n=>K (ae fr d (.int .i64 n)) hp
 |.aB _ _ n=>K (ae fr d (.int .i64 n)) hp
 |_=>False
def qR(a b:PV)(d:Nat)(fr:Fr)(hp:HP)(K:Qg):Prop:=
 match a,b with
 |.int k x,.int _ y=>K (ae fr d (.int k (max x y))) hp
 |_,_=>False
def qP(a b:PV)(d:Nat)(fr:Fr)(hp:HP)(K:Qg):Prop:=
 match a,b with
 |.int k x,.int _ y=>K (ae fr d (.int k (min x y))) hp
 |_,_=>False
def cG(e:Nat)(a i:PV)(d:Nat)(fr:Fr)(hp:HP)(K:Qg):Prop:=
 match a,i with
 |.sl e' xs,.int _ n=>e=e'/\0<=n/\∃h:n.toNat<xs.length,K (ae fr d (.pt (xs[n.toNat]'h).cells)) hp
 |.ao β o m,.int _ n=>0<=n/\n.toNat<m/\(hp β).map (·.e)=some e/\K (ae fr d (.mp β (o+n.toNat) 0)) hp
 |.aB γ o m,.int _ n=>0<=n/\n.toNat<m/\(hp γ).map (·.e)=some e/\K (ae fr d (.np γ (o+n.toNat) 0)) hp
 |_,_=>False
def mG(len e:Nat)(a i:PV)(d:Nat)(fr:Fr)(hp:HP)(K:Qg):Prop:=
 match a,i with
 |.mp β j o,.int _ n=>0<=n/\n<len/\K (ae fr d (.mp β j (o+n.toNat*e))) hp
 |.pt cs,.int _ n=>0<=n/\n<len/\n.toNat*e<=cs.length/\K (ae fr d (.pt (cs.drop (n.toNat*e)))) hp
 |_,_=>False
def rY(len e:Nat)(ag:Bool)(a i:PV)(d:Nat)(fr:Fr)(hp:HP)(K:Qg):Prop:=
 match a,i with
 |.agg cs,.int _ n=>0<=n/\n<len/\n.toNat*e+e<=cs.length/\(ag=false->e=1)/\K (ae fr d (dk ag e (n.toNat*e) (.agg cs))) hp
 |_,_=>False
def mN(off:Nat)(a:PV)(d:Nat)(fr:Fr)(hp:HP)(K:Qg):Prop:=
 match a with
 |.mp β i o=>K (ae fr d (.mp β i (o+off))) hp
 |.np γ i o=>K (ae fr d (.np γ i (o+off))) hp
 |.pt cs=>off<=cs.length/\K (ae fr d (.pt (cs.drop off))) hp
 |_=>False
def mH(off n:Nat)(ag:Bool)(a:PV)(d:Nat)(fr:Fr)(hp:HP)(K:Qg):Prop:=
 match a with
 |.agg cs=>off+n<=cs.length/\(ag=false->n=1)/\K (ae fr d (dk ag n off (.agg cs))) hp
 |.aE cs=>off+n<=cs.length/\(ag=false->n=1)/\K (ae fr d (m3 ag n off (.aE cs))) hp
 |_=>False
def gQ(n:Nat)(ag:Bool)(a:PV)(d:Nat)(fr:Fr)(hp:HP)(K:Qg):Prop:=
 match a with
 |.mp β i o=>match hp β with
  |some hb=>∃h:i<hb.xs.length,o+n<=hb.e/\(ag=false->n=1)/\K (ae fr d (dk ag n o (hb.xs[i]'h))) hp
  |none=>False
 |.pt cs=>n<=cs.length/\(ag=false->n=1)/\K (ae fr d (dk ag n 0 (.agg cs))) hp
 |.rb β o m=>n=1/\ag=false/\K (ae fr d (.ao β o m)) hp
 |.np γ i o=>match fr γ with
  |.az aO e _ xs=>aO=γ/\∃h:i<xs.length,o+n<=e/\(ag=false->n=1)/\K (ae fr d (m3 ag n o (xs[i]'h))) hp
  |_=>False
 |_=>False
def jN (n:Nat) (a v:PV) (fr:Fr) (hp:HP) (K:Qg):Prop:=
 match a with
 |.mp β i o=>match bq hp v.refs β with
  | some hb=>hb.fz=false/\(Qy hp v).ax=true/\(Qy hp v).cells.length=n/\∃h:i<hb.xs.length,o+n<=hb.e/\
    K fr (Qi (bq hp v.refs) β { hb with xs:=hb.xs.set i (if n=hb.e then Qy hp v else m6 (hb.xs[i]'h) o (Qy hp v)) })
  |none=>False
 |.np γ i o=>match fr γ with
  |.az aO e ty xs=>aO=γ/\(∃hb,hp γ=some hb/\hb.fz=false)/\∃h:i<xs.length,o+n<=e/\match cT v with
   |some cs=>cs.length=n/\K (ae (fm γ fr) γ (.az γ e ty (xs.set i (dX (lR (xs[i]'h).aL o cs))))) hp
   |none=>False
  |_=>False
 |_=>False
def cm(d:Nat):Nat:=4000000+d
def oz(n ty:Nat)(cs:List PV)(d:Nat)(fr:Fr)(hp:HP)(K:Qg):Prop:=
 (cs.length=n/\0<n/\cs.all PV.eK=true/\cs.all (fun x=> !(x.cA.contains (cm d)))=true)/\
  K (ae (ae (dO (cm d) fr) (cm d) (.az (cm d) n ty [.aE cs])) d (.np (cm d) 0 0)) (Qi hp (cm d) ⟨n,ty,[],false⟩)
def dG(n ty:Nat)(v:PV)(d:Nat)(fr:Fr)(hp:HP)(K:Qg):Prop:=
 match v with
 |.aE cs=>oz n ty cs d fr hp K
 |v=>match(match v with| .ao β o m=>if aF β then some (β,o,m)else none|_=>none)with
 |some (β,o,m)=>K (ae fr d (.rb β o m)) hp
 |none=>
 (Qy hp v).ax=true/\(Qy hp v).cells.length=n/\0<n/\K (ae (bI d fr) d (.mp d 0 0)) (Qi (bq hp v.refs) d ⟨n,ty,[Qy hp v],false⟩)
def jM(e by_ ty:Nat)(z l c:PV)(d:Nat)(fr:Fr)(hp:HP)(K:Qg):Prop:=
 match l,c with
 |.int _ L,.int _ C=>0<e/\z.cells.length=e/\0<=L/\L<=C/\by_*C<=281474976710656/\C<=9223372036854775807/\
   K (ae (bI d fr) d (.ms d L.toNat)) (Qi hp d ⟨e,ty,List.replicate L.toNat z,false⟩)
 |_,_=>False
def B7(hp:HP)(e:Nat)(ps:List PV):Prop:=∀p∈ps,(Qy hp p).ax=true/\(Qy hp p).cells.length=e
def iG:PV->Bool
 |.ao β 0 _=>decide (5000000<=β)
 |_=>false
def kT:List PV->Bool
 | [x]=>iG x
 |_=>false
def JL(e ty:Nat)(ps:List PV)(d:Nat)(fr:Fr)(hp:HP)(K:Qg):Prop:=
 e=1/\K (ae (ae (dO (cm d) fr) (cm d) (.az (cm d) 1 ty ps)) d (.aB (cm d) 0 1)) (Qi hp (cm d) ⟨1,ty,[],false⟩)
def rZ (e by_ ty:Nat) (s x:PV) (d:Nat) (fr:Fr) (hp:HP) (K:Qg):Prop:=
 match x with
 |.aB δ 0 1=>match fr δ with
  |.az EZ 1 _ [y]=>EZ=δ/\iG y=true/\e=1/\
   match s with
   |.aa=>by_<=140737488355328/\K (ae (ae (dO (cm d) fr) (cm d) (.az (cm d) 1 ty [y])) d (.aB (cm d) 0 1)) (Qi hp (cm d) ⟨1,ty,[],false⟩)
   |.aB γ 0 k=>match fr γ with
    |.az aO 1 kF xs=>(aO=γ/\γ<5000000/\aF γ=false/\kF=ty/\k=xs.length/\xs.all iG=true/\(k+1)*by_<=140737488355328/\k+1<=9223372036854775807)/\(∃hb,hp γ=some hb/\hb.fz=false)/\
      K (ae (ae (dO γ fr) γ (.az γ 1 ty (xs++[y]))) d (.aB γ 0 (k+1))) (Qi hp γ ⟨1,ty,[],false⟩)
    |_=>False
   |_=>False
  |_=>False
 |_=>False
def xM(e ty:Nat)(ps:List PV)(d:Nat)(fr:Fr)(hp:HP)(K:Qg):Prop:=
 0<e/\B7 hp e ps/\K (ae (bI d fr) d (.ms d ps.length)) (Qi (bq hp (ps.flatMap PV.refs)) d ⟨e,ty,ps.map (Qy hp),false⟩)
def ki(e ty:Nat)(ps:List PV)(d:Nat)(fr:Fr)(hp:HP)(K:Qg):Prop:=if kT ps=true then JL e ty ps d fr hp K else xM e ty ps d fr hp K
def fK(hp:HP):PV->Option (Nat×List PV)
 |.aa=>some (0,[])
 |.sl e xs=>some (e,xs)
 |.ao β o n=>(hp β).map fun hb=>(hb.e,(hb.xs.drop o).take n)
 |_=>none
def fl (e by_ ty:Nat) (s x:PV) (d:Nat) (fr:Fr) (hp:HP) (K:Qg):Prop:=
 match fK hp x with
 |none=>rZ e by_ ty s x d fr hp K
 | some (e',ys)=>0<e/\(e'=e∨ys=[])/\
  match s with
  |.aa=>ys.length*by_<=140737488355328/\ys.length<=9223372036854775807/\
    K (ae (bI d fr) d (.ms d ys.length)) (Qi hp d ⟨e,ty,ys,false⟩)
  |.ao β 0 n=>match hp β with
   | some hb=>(bg β=false/\hb.fz=false/\hb.e=e/\hb.ty=ty/\n<=hb.xs.length/\(n+ys.length)*by_<=140737488355328/\n+ys.length<=9223372036854775807/\
     K (ae (bI β fr) d (.ms β (n+ys.length))) (Qi hp β ⟨e,ty,hb.xs.take n++ys,false⟩))∨
    (bg β=true/\aF β=false/\(ys≠[]/\hb.fz=false/\hb.e=e/\hb.ty=ty/\n<=hb.xs.length/\(n+ys.length)*by_<=140737488355328/\n+ys.length<=9223372036854775807)/\
     K (ae (dO β fr) d (.ms β (n+ys.length))) (Qi hp β ⟨e,ty,hb.xs.take n++ys,false⟩))
   |none=>False
  |_=>False
def oA (e:Nat) (s x:PV) (d:Nat) (fr:Fr) (hp:HP) (K:Qg):Prop:=
 match fK hp x,s with
 |some (e',ys),.ao β 0 n=>match hp β with
  | some hb=>0<e/\hb.fz=false/\hb.e=e/\(e'=e∨ys=[])/\n=hb.xs.length/\
    K (ae fr d (.int .i64 (min (ys.length:Int) n))) (Qi hp β { hb with xs:=ys.take n++hb.xs.drop ys.length })
  |none=>False
 |_,_=>False
def eW(d:Int):Option PV->Option Int
 |none=>some d
 |some (.int _ n)=>some n
 |some _=>none
def fh(e:Nat)(a:PV)(lo hi mx:Option PV)(d:Nat)(fr:Fr)(hp:HP)(K:Qg):Prop:=
 match a with
 |.aa=>match eW 0 lo,eW 0 hi,eW 0 mx with
  |some L,some H,some M=>L=0/\H=0/\M=0/\(mx.isSome->hi.isSome)/\K (ae fr d .aa) hp
  |_,_,_=>False
 |.sl e' xs=>match eW 0 lo,eW xs.length hi,eW xs.length mx with
  |some L,some H,some M=>e'=e/\0<=L/\L<=H/\H<=M/\M<=xs.length/\(mx.isSome->hi.isSome)/\K (ae fr d (.sl e ((xs.take H.toNat).drop L.toNat))) hp
  |_,_,_=>False
 |.ao β o n=>match eW 0 lo,eW n hi,mx with
  |some L,some H,none=>(hp β).map (·.e)=some e/\0<=L/\L<=H/\H<=n/\(L=0∨L<n)/\K (ae fr d (.ao β (o+L.toNat) (H.toNat-L.toNat))) hp
  |_,_,_=>False
 |_=>False
def iL(a:PV)(i:Nat)(d:Nat)(fr:Fr)(hp:HP)(K:Qg):Prop:=
 match a with
 |.aJ ps=>match ps[i]? with
  |some p=>p.ax=true/\K (ae fr d p) hp
  |none=>False
 |.cW ps=>match ps[i]? with
  |some p=>K (ae fr d p) hp
  |none=>False
 |.cj cs q=>match i with
  |0=>K (ae fr d (.aE cs)) hp
  |1=>K (ae fr d q) hp
  |_=>False
 |_=>False
def eZ(cells:List PV):List (Nat×List PV)->List PV
 | []=>cells
 |(o,xs)::r=>eZ (cells.take o++xs++cells.drop (o+xs.length)) r
def Fe(hp:HP)(len:Nat)(ps:List (Nat×Nat×PV)):Prop:=∀p∈ps,(Qy hp p.2.2).ax=true/\(Qy hp p.2.2).cells.length=p.2.1/\p.1+p.2.1<=len
def xI(zero:List PV)(ps:List (Nat×Nat×PV))(d:Nat)(fr:Fr)(hp:HP)(K:Qg):Prop:=
 Fe hp zero.length ps/\K (ae fr d (.agg (eZ zero (ps.map fun p=>(p.1,(Qy hp p.2.2).cells))))) (bq hp (ps.flatMap fun p=>p.2.2.refs))
def PV.kC:PV->Bool
 |.aB .. | .aE _=>true
 |.ao β _ _=>decide (2000000<=β)
 |_=>false
def oh(len:Nat)(ps:List (Nat×Nat×PV)):Prop:=∀p∈ps,∃cs,cT p.2.2=some cs/\cs.length=p.2.1/\p.1+p.2.1<=len
def iM(zero:List PV)(ps:List (Nat×Nat×PV))(d:Nat)(fr:Fr)(hp:HP)(K:Qg):Prop:=
 if ps.any (fun p=>p.2.2.kC)then oh zero.length ps/\K (ae fr d (.aE (eZ zero (ps.map fun p=>(p.1,(cT p.2.2).getD []))))) hp
 else xI zero ps d fr hp K
def ud(a:PV)(d:Option Nat)(fr:Fr)(hp:HP)(K:Qg):Prop:=
 match a,d with
 |.mp _ _ _,some d| .pt _,some d| .fn _ _ _,some d=>K (ae fr d a) hp
 |.mp _ _ _,none| .pt _,none| .fn _ _ _,none=>K fr hp
 |_,_=>False
structure Ctx where
 P:Program
 N:Nat
 w0:World
 X0:Nat->Prop
 ye:∀b,X0 b->b<w0.heap.size
 hN:N<=1000000
 fx:Nat->Option Nat
 kp:∀β b,fx β=some b->b<w0.heap.size/\(dy β=false->¬X0 b)
 Z0:Nat->Prop
 yg:∀b,Z0 b->b<w0.heap.size/\¬X0 b/\∀β,fx β≠some b
@[reducible] def Ctx.plain (P : Program) (N : Nat) (w : World) (X : Nat -> Prop) (hX : ∀ b, X b -> b < w.heap.size) (hN : N <= 1000000) : Ctx :=
 ⟨P, N, w, X, hX, hN, fun _ => none, (fun _ _ h => nomatch h), bO, fun _ h => h.elim⟩
def Ctx.Y0(C:Ctx):Nat->Prop:=fun b=>(∃β,dy β=false/\C.fx β=some b)∨C.Z0 b
theorem Ctx.ZT(C:Ctx):∀b,C.Y0 b->b<C.w0.heap.size/\¬C.X0 b
 |b,.inl ⟨β,hr,h⟩=>⟨(C.kp β b h).1,(C.kp β b h).2 hr⟩
 |b,.inr h=>⟨(C.yg b h).1,(C.yg b h).2.1⟩
theorem Ctx.ER{P:Program}{N:Nat}{w w':World}{X:Nat->Prop}{hX:∀b,X b->b<w.heap.size}{hN:N<=1000000}(h:Ext (Ctx.plain P N w X hX hN).Y0 w w'):Ext bO w w':=
 h.mono fun b _ hb=>by
  rcases hb with⟨β,_,hb⟩|hb
  ·cases hb
  ·exact hb
def Ctx.cls(C:Ctx)(β b:Nat):Prop:=if aF β=true then C.fx β=some b else C.w0.heap.size<=b∨C.Z0 b
theorem Ctx.xP{C:Ctx}{β b:Nat}(h:C.cls β b)(hr:dy β=false):C.w0.heap.size<=b∨C.Y0 b:=by
 unfold Ctx.cls at h;split at h
 ·exact .inr (.inl ⟨β,hr,h⟩)
 ·exact h.imp id .inr
theorem Ctx.oK{C:Ctx}{β b:Nat}(h:C.cls β b)(hB:aF β=false):C.w0.heap.size<=b∨C.Z0 b:=by
 unfold Ctx.cls at h
 rwa[if_neg (by simp[hB])]at h
theorem Ctx.JQ{C:Ctx}{β b:Nat}(h:C.w0.heap.size<=b∨C.Z0 b)(hB:aF β=false):C.cls β b:=by
 unfold Ctx.cls
 rwa[if_neg (by simp[hB])]
theorem Ctx.LI{C:Ctx}{b:Nat}(h:C.w0.heap.size<=b∨C.Z0 b):C.w0.heap.size<=b∨C.Y0 b:=h.imp id .inr
theorem Ctx.Fb{C:Ctx}{β b:Nat}(h:C.w0.heap.size<=b∨C.Z0 b):C.fx β≠some b:=fun e=>by
 rcases h with h|h
 ·have:=(C.kp β b e).1;omega
 ·exact(C.yg b h).2.2 β e
theorem Ctx.xO{C:Ctx}{β b:Nat}(h:C.cls β b)(hr:dy β=false):¬C.X0 b:=fun hx=>by
 rcases Ctx.xP h hr with h|h
 ·have:=C.ye b hx;omega
 ·exact(C.ZT b h).2 hx
def ay(C:Ctx)(ρ:Nat->Option Nat)(hp:HP):Nat->Prop:=fun b=>C.X0 b∨∃β hb,hp β=some hb/\hb.fz=false/\ρ β=some b
def cu(w:World)(b e cap:Nat):Prop:=∃cur ty,w.heap[b]? =some (.cells cur ty (0,0))/\cur.size=cap*e
def r7(w:World)(X:Nat->Prop)(b:Nat)(hb:HB):Prop:=
 ∃(cur:Array Value)(cap:Nat),w.heap[b]? =some (.cells cur hb.ty (0,0))/\cur.size=cap*hb.e/\hb.xs.length<=cap/\cap<=maxLen/\
  ∀(i:Nat)(x:PV),hb.xs[i]? =some x->∀(j:Nat)(y:PV),x.cells[j]? =some y->Qo w X y (cur.getD (i*hb.e+j) undef)
structure ny(C:Ctx)(ρ:Nat->Option Nat)(hp:HP)(w:World)(β:Nat)(hb:HB):Prop where
 gh:0<hb.e
 len:∀(i:Nat)(x:PV),hb.xs[i]? =some x->x.cells.length=hb.e/\x.ax=true
 b8:match ρ β with
  |none=>hb.xs=[]
  |some b=>C.cls β b/\b<w.heap.size/\r7 w (ay C ρ hp) b hb
 fix:aF β=true->ρ β=C.fx β
 ro:dy β=true->hb.fz=true
def dh(ρ:Nat->Option Nat)(hp:HP)(w:World)(β o n:Nat)(v:Value):Prop:=
 ∃ hb,hp β=some hb/\o+n<=hb.xs.length/\((ρ β=none/\v= .slice none 0 0/\n=0/\o=0)∨
   ∃b cap,ρ β=some b/\v= .slice (some ⟨b,o*hb.e,none⟩) n cap/\cu w b hb.e (o+cap)/\o+cap<=maxLen)
def j2(ρ:Nat->Option Nat)(hp:HP)(w:World)(γ o n:Nat)(v:Value):Prop:=
 bg γ=true/\∃hb b cap,hp γ=some hb/\ρ γ=some b/\v= .slice (some ⟨b,o*hb.e,none⟩) n cap/\cu w b hb.e (o+cap)/\o+cap<=maxLen/\n<=cap
def bZ(C:Ctx)(ρ:Nat->Option Nat)(hp:HP)(w:World):PV->Value->Prop
 |.undef,_=>True
 |.ao β o n,v=>bg β=true/\dh ρ hp w β o n v
 |.aB γ o n,v=>j2 ρ hp w γ o n v
 |p,v=>Qo w (ay C ρ hp) p v
def cg(C:Ctx)(ρ:Nat->Option Nat)(hp:HP)(w:World):PV->Value->Prop
 |.mp β i o,v=>∃b hb,ρ β=some b/\hp β=some hb/\v= .pointer (some ⟨b,i*hb.e+o,none⟩)
 |.ao β o n,v=>dh ρ hp w β o n v
 |.rb β o n,v=>∃b u,v= .pointer (some ⟨b,0,none⟩)/\b<w.heap.size/\¬ay C ρ hp b/\w.cell? ⟨b,0,none⟩=some u/\dh ρ hp w β o n u
 |.np γ i o,v=>bg γ=true/\∃b hb,ρ γ=some b/\hp γ=some hb/\v= .pointer (some ⟨b,i*hb.e+o,none⟩)
 |.aB γ o n,v=>j2 ρ hp w γ o n v
 |p,v=>Qo w (ay C ρ hp) p v
def Qh(C:Ctx)(ρ:Nat->Option Nat)(hp:HP)(w:World):PV->Value->Prop
 |.undef,_=>True
 |.mp β i o,v=>cg C ρ hp w (.mp β i o) v
 |.ao β o n,v=>cg C ρ hp w (.ao β o n) v
 |.rb β o n,v=>cg C ρ hp w (.rb β o n) v
 |.np γ i o,v=>cg C ρ hp w (.np γ i o) v
 |.aB γ o n,v=>cg C ρ hp w (.aB γ o n) v
 |.aE cs,v=>∃vs:Array Value,v= .agg vs/\vs.size=cs.length/\∀(i:Nat)(x:PV),cs[i]? =some x->bZ C ρ hp w x (vs.getD i undef)
 |.cW cs,v=>∃vs:Array Value,v= .tuple vs/\vs.size=cs.length/\∀(i:Nat)(x:PV),cs[i]? =some x->bZ C ρ hp w x (vs.getD i undef)
 |.cj cs q,v=>∃(vs:Array Value)(u:Value),v= .tuple #[.agg vs,u]/\vs.size=cs.length/\(∀(i:Nat)(x:PV),cs[i]? =some x->bZ C ρ hp w x (vs.getD i undef))/\aV w (ay C ρ hp) q u
 |.az γ e ty xs,_=>bg γ=true/\0<e/\∃(b:Nat) (hb:HB) (cur:Array Value) (cap:Nat),ρ γ=some b/\hp γ=some hb/\hb.xs=[]/\hb.e=e/\hb.ty=ty/\w.heap[b]? =some (.cells cur ty (0,0))/\cur.size=cap*e/\xs.length<=cap/\cap<=maxLen/\
   (∀(i:Nat)(x:PV),xs[i]? =some x->x.aL.length=e)/\∀(i:Nat)(x:PV),xs[i]? =some x->∀(j:Nat)(y:PV),x.aL[j]? =some y->bZ C ρ hp w y (cur.getD (i*e+j) undef)
 |.fn f first cap,v=>∃fv cv:Array Value,v= .func (.func f) fv cv/\fv.size=first.length/\cv.size=cap.length/\
   (∀(i:Nat)(x:PV),first[i]? =some x->cg C ρ hp w x (fv.getD i undef))/\(∀(i:Nat)(x:PV),cap[i]? =some x->cg C ρ hp w x (cv.getD i undef))
 |p,v=>dn w (ay C ρ hp) p v
structure Qv(C:Ctx)(ρ:Nat->Option Nat)(fr:Fr)(hp:HP)(tmps:Array Value)(w:World):Prop where
 sz:tmps.size=C.N
 ext:Ext C.Y0 C.w0 w
 dE:∀β b,C.fx β=some b->∀e cap,cu C.w0 b e cap->cu w b e cap
 own:∀β hb,hp β=some hb->ny C ρ hp w β hb
 inj:∀β γ b,hp β≠none->hp γ≠none->ρ β=some b->ρ γ=some b->β=γ
 ch:∀i,Qh C ρ hp w (fr i) (tmps.getD i undef)
def c8(C:Ctx)(fr:Fr)(hp:HP)(tmps:Array Value)(w:World):Prop:=∃ρ,Qv C ρ fr hp tmps w
def oB(tmps:Array Value)(d:Option Nat)(v:Value):Array Value:=match d with|some d=>tmps.setIfInBounds d v|none=>tmps
def Wk(fr:Fr)(hp:HP)(aq:Fr)(hp':HP):Prop:=∀(C:Ctx)(tmps:Array Value)(w:World),c8 C fr hp tmps w->c8 C aq hp' tmps w
def ez(C:Ctx)(pr:Bool)(f:PV)(args:List PV)(d:Option Nat)(fr:Fr)(hp:HP)(K:Qg):Prop:=
 match f with
 |.fn g first cap => (C.P.funcs[g]?).any (fun fn => fn.body.isSome && fn.name != "runtime.NumGoroutine") = true /\
  ∀ρ tmps w (fv cv av:Array Value),(∀x,d=some x->x<C.N)->Qv C ρ fr hp tmps w->
   fv.size=first.length->cv.size=cap.length->av.size=args.length->
   (∀(i:Nat)(x:PV),first[i]? =some x->cg C ρ hp w x (fv.getD i undef))->(∀(i:Nat)(x:PV),cap[i]? =some x->cg C ρ hp w x (cv.getD i undef))->
   (∀(i:Nat)(x:PV),args[i]? =some x->Qh C ρ hp w x (av.getD i undef))->
   Calls C.P g (fv++av++cv) w fun e w'=>∃v aq hp',e= .returned v/\c8 C aq hp' (oB tmps d v) w'/\(pr=true->Ext bO w w')/\K aq hp'
 |_=>False
def aS(C:Ctx)(o:bN)(fr:Fr)(hp:HP)(K:Qg):Prop:=
 match o with
 |.mv d x=>K (ae fr d (ev fr x)) hp
 |.pick d c a b=>ns (ev fr c) (ev fr a) (ev fr b) d fr hp K
 |.bin d op bt x y=>bF op bt (ev fr x) (ev fr y) d fr hp K
 |.eqs d ng x y=>mL ng (ev fr x) (ev fr y) d fr hp K
 |.qW d ng x y=>mM ng (ev fr x) (ev fr y) d fr hp K
 |.vF d x=>pW (ev fr x) d fr hp K
 |.vE d x i=>oy (ev fr x) (ev fr i) d fr hp K
 |.un d op x=>pb op (ev fr x) d fr hp K
 |.conv d k x=>pN k (ev fr x) d fr hp K
 |.len d x=>kS (ev fr x) d fr hp K
 |.mx d x y=>qR (ev fr x) (ev fr y) d fr hp K
 |.mn d x y=>qP (ev fr x) (ev fr y) d fr hp K
 |.idx d e x i=>cG e (ev fr x) (ev fr i) d fr hp K
 |.kB d n e x i=>mG n e (ev fr x) (ev fr i) d fr hp K
 |.vp d n e ag x i=>rY n e ag (ev fr x) (ev fr i) d fr hp K
 |.bw d off x=>mN off (ev fr x) d fr hp K
 |.si d off n ag x=>mH off n ag (ev fr x) d fr hp K
 |.ld d n ag x=>gQ n ag (ev fr x) d fr hp K
 |.st n x v=>jN n (ev fr x) (ev fr v) fr hp K
 |.box d n ty v=>dG n ty (ev fr v) d fr hp K
 |.alloc d n ty z=>dG n ty z d fr hp K
 |.mk d e by_ ty z l c=>jM e by_ ty z (ev fr l) (ev fr c) d fr hp K
 |.bs d e ty ps=>ki e ty (ps.map (ev fr)) d fr hp K
 |.app d e by_ ty s x=>fl e by_ ty (ev fr s) (ev fr x) d fr hp K
 |.oL d e s x=>oA e (ev fr s) (ev fr x) d fr hp K
 |.sl d e x lo hi mx=>fh e (ev fr x) (lo.map (ev fr)) (hi.map (ev fr)) (mx.map (ev fr)) d fr hp K
 |.ext d x i=>iL (ev fr x) i d fr hp K
 |.cc d zero ps=>iM zero (ps.map fun p=>(p.1,p.2.1,ev fr p.2.2)) d fr hp K
 |.fn d f first cap=>(first.map (ev fr)++cap.map (ev fr)).all PV.gO=true/\K (ae fr d (.fn f (first.map (ev fr)) (cap.map (ev fr)))) hp
 |.call d pr f args=>ez C pr (ev fr f) (args.map (ev fr)) d fr hp K
 |.vv d x=>ud (ev fr x) d fr hp K
 |.bad _=>False
def fL(o:bN)(fr:Fr)(hp:HP)(K:Qg):Prop:=
 match o.dst with
 |some d=>K (ae fr d (.aJ [])) hp
 |none=>K fr hp
def ju(C:Ctx)(g:Option (Nat×Bool))(o:bN)(fr:Fr)(hp:HP)(K:Qg):Prop:=
 match g with
 |none=>aS C o fr hp K
 |some (s,want)=>match fr s with
  |.bool t=>(t=want->aS C o (ae fr s (.bool want)) hp K)/\(t=(!want)->fL o (ae fr s (.bool !want)) hp K)
  |.aJ []=>fL o fr hp K
  |_=>False
inductive It where
 |c (s:SC)
 |o (r:RT)
 |eb (id:Nat)
 |el (J:Qg)
def RT.sz:RT->Nat
 |.nil=>1
 |.o _ _ r=>r.sz+1
 |.br a b=>a.sz+b.sz+1
 |.wk r=>r.sz+1
def SC.sz:SC->Nat
 |.rg r=>r.sz+1
 |.seq a b=>a.sz+b.sz+1
 |.cond _ a b=>a.sz+b.sz+1
 |.block _ a=>a.sz+2
 |.loop a=>a.sz+2
 |_=>1
def It.sz:It->Nat
 |.c s=>s.sz
 |.o r=>r.sz
 |_=>1
def bl:List It->Nat
 | []=>0
 |i::is=>i.sz+bl is
def bE(id:Nat):List It->Option (List It)
 | []=>none
 |.eb i::sk=>if i=id then some sk else bE id sk
 |_::sk=>bE id sk
theorem tg(id:Nat):∀(sk cX:List It),FW.bE id sk=some cX->bl cX<=bl sk
 | [],_,h=>by simp[FW.bE]at h
 |.c s::sk,cX,h=>by have:=tg id sk cX (by simpa[FW.bE]using h);simp[bl];omega
 |.o s::sk,cX,h=>by have:=tg id sk cX (by simpa[FW.bE]using h);simp[bl];omega
 |.el s::sk,cX,h=>by have:=tg id sk cX (by simpa[FW.bE]using h);simp[bl];omega
 |.eb i::sk,cX,h=>by
  simp only[FW.bE]at h;split at h
  ·cases h;simp[bl]
  ·have:=tg id sk cX h;simp[bl];omega
theorem RT.sV(r:RT):0<r.sz:=by cases r<;>simp[RT.sz]
theorem SC.sV(s:SC):0<s.sz:=by cases s<;>simp[SC.sz]
def vc(C:Ctx)(R:Qg)(sk:List It)(fr:Fr)(hp:HP):Prop:=
 match sk with
 | []=>R fr hp
 |.el J::_=>J fr hp
 |.eb _::sk=>vc C R sk fr hp
 |.o .nil::sk=>vc C R sk fr hp
 |.o (.o g o r)::sk=>ju C g o fr hp (fun fr hp=>vc C R (.o r::sk) fr hp)
 |.o (.br a b)::sk=>vc C R (.o a::sk) fr hp/\vc C R (.o b::sk) fr hp
 |.o (.wk r)::sk=>∃aY au,Wk fr hp aY au/\vc C R (.o r::sk) aY au
 |.c .skip::sk=>vc C R sk fr hp
 |.c (.rg r)::sk=>vc C R (.o r::sk) fr hp
 |.c (.raw id ops)::sk=>∀tmps w Q,c8 C fr hp tmps w->(∀aq hp' vG w',c8 C aq hp' vG w'->vc C R sk aq hp'->Q .normal { tmps:=vG,defers:=[] } w')->(Code.region id ops true).wp C.P Q { tmps:=tmps,defers:=[] } w
 |.c (.seq a b)::sk=>vc C R (.c a:: .c b::sk) fr hp
 |.c (.cond c a b)::sk=>match ev fr c with
  |.bool t=>(t=true->vc C R (.c a::sk) fr hp)/\(t=false->vc C R (.c b::sk) fr hp)
  |_=>False
 |.c (.block id a)::sk=>vc C R (.c a:: .eb id::sk) fr hp
 |.c (.loop a)::sk=>∃(I:Qg)(μ:Fr->HP->Nat),(∃aY au,Wk fr hp aY au/\I aY au)/\∀fr hp,I fr hp->vc C R (.c a:: .el (fun aq hp'=>∃aY au,Wk aq hp' aY au/\I aY au/\μ aY au<μ fr hp)::sk) fr hp
 |.c (.exit id)::sk=>match h:FW.bE id sk with
  |some cX=>vc C R cX fr hp
  |none=>False
 |.c .ret::_=>R fr hp
termination_by bl sk
decreasing_by
 all_goals simp only[bl,It.sz,SC.sz,RT.sz]
 all_goals first|omega|(have:=tg _ _ _ h;omega)|skip
variable {C : Ctx} {ρ : Nat -> Option Nat} {fr : Fr} {hp : HP} {tmps : Array Value} {w : World}
theorem dh.move{ρ':Nat->Option Nat}{hp':HP}{w':World}{β o n:Nat}{v:Value}(h:dh ρ hp w β o n v)
  (hr:ρ' β=ρ β/\∀hb,hp β=some hb->∃an,hp' β=some an/\an.e=hb.e/\hb.xs.length<=an.xs.length/\∀b cap,ρ β=some b->cu w b hb.e cap->cu w' b hb.e cap):dh ρ' hp' w' β o n v:=by
 obtain⟨hb,h2,h3,h4⟩:=h;obtain⟨e1,e2⟩:=hr;obtain⟨an,h5,h6,h7,h8⟩:=e2 hb h2;refine⟨an,h5,KaY h3 h7,?_⟩;rcases h4 with⟨g1,g2,g3⟩|⟨b,cap,g1,g2,g3,g4⟩
 ·exact .inl ⟨by rw[e1];exact g1,g2,g3⟩
 ·exact .inr ⟨b,cap,by rw[e1];exact g1,by rw[h6];exact g2,by rw[h6];exact h8 b (o+cap) g1 g3,g4⟩
structure iN(w w':World)(X X':Nat->Prop):Prop where
 b8:∀b,b<w.heap.size->¬X b->w'.heap[b]? =w.heap[b]?
 out:∀b,b<w.heap.size->¬X b->¬X' b
 size:w.heap.size<=w'.heap.size
theorem iN.rc{w w':World}{X X':Nat->Prop}(h:iN w w' X X'):∀q u,Qo w X q u->Qo w' X' q u:=fun _ _ hq=>hq.mono h.b8 h.out h.size
structure kH(ρ ρ':Nat->Option Nat)(hp hp':HP)(w w':World)(β:Nat):Prop where
 r:ρ' β=ρ β
 h:∀hb,hp β=some hb->∃an,hp' β=some an/\an.e=hb.e/\hb.xs.length<=an.xs.length/\(∀b cap,ρ β=some b->cu w b hb.e cap->cu w' b hb.e cap)/\(hb.xs=[]->an.xs=[]/\an.ty=hb.ty/\∀b,ρ β=some b->w'.heap[b]? =w.heap[b]?)
theorem kH.o{ρ':Nat->Option Nat}{hp':HP}{w':World}{β:Nat}(h:kH ρ ρ' hp hp' w w' β):ρ' β=ρ β/\∀hb,hp β=some hb->∃an,hp' β=some an/\an.e=hb.e/\hb.xs.length<=an.xs.length/\∀b cap,ρ β=some b->cu w b hb.e cap->cu w' b hb.e cap:=
 ⟨h.r,fun hb ah=>let⟨an,a,b,c,d,_⟩:=h.h hb ah;⟨an,a,b,c,d⟩⟩
structure pX(ρ ρ':Nat->Option Nat)(hp hp':HP)(w w':World)(β:Nat):Prop where
 r:ρ' β=ρ β
 h:∀hb,hp β=some hb->∃an,hp' β=some an/\an.e=hb.e/\hb.xs.length<=an.xs.length/\∀b cap,ρ β=some b->cu w b hb.e cap->cu w' b hb.e cap
theorem kH.sW{ρ':Nat->Option Nat}{hp':HP}{w':World}{β:Nat}(h:kH ρ ρ' hp hp' w w' β):pX ρ ρ' hp hp' w w' β:=⟨h.r,h.o.2⟩
theorem j2.move{ρ':Nat->Option Nat}{hp':HP}{w':World}{γ o n:Nat}{v:Value}(h:j2 ρ hp w γ o n v)(hr:pX ρ ρ' hp hp' w w' γ):j2 ρ' hp' w' γ o n v:=by obtain⟨h0,hb,b,cap,h1,h2,h3,h4,h5,h6⟩:=h;obtain⟨an,a1,a2,_,a4⟩:=hr.h hb h1;exact⟨h0,an,b,cap,a1,by rw[hr.r];exact h2,by rw[a2];exact h3,by rw[a2];exact a4 b _ h2 h4,h5,h6⟩
theorem bZ.move{ρ':Nat->Option Nat}{hp':HP}{w':World}{p:PV}{v:Value}(h:bZ C ρ hp w p v)(hc:iN w w' (ay C ρ hp) (ay C ρ' hp'))(hs:∀β∈p.cA,pX ρ ρ' hp hp' w w' β):bZ C ρ' hp' w' p v:=by
 cases p with
 |undef=>trivial
 |ao β o n=>exact⟨h.1,dh.move h.2 ⟨(hs β (by simp[PV.cA])).r,(hs β (by simp[PV.cA])).h⟩⟩
 |aB γ o n=>exact j2.move h (hs γ (by simp[PV.cA]))
 |_=>exact hc.rc _ _ h
theorem cg.move{ρ':Nat->Option Nat}{hp':HP}{w':World}{p:PV}{v:Value}(h:cg C ρ hp w p v)
  (hc:iN w w' (ay C ρ hp) (ay C ρ' hp'))
  (hr:∀β∈p.bb,ρ' β=ρ β/\∀hb,hp β=some hb->∃an,hp' β=some an/\an.e=hb.e/\hb.xs.length<=an.xs.length/\∀b cap,ρ β=some b->cu w b hb.e cap->cu w' b hb.e cap)
  (hs:∀β∈p.cV,pX ρ ρ' hp hp' w w' β):
  cg C ρ' hp' w' p v:=by
 cases p with
 |mp β i o=>obtain⟨b,hb,h1,h2,h3⟩:=h;obtain⟨e1,e2⟩:=hr β (by simp[PV.bb]);obtain⟨an,h4,h5,_,_⟩:=e2 hb h2;exact⟨b,an,by rw[e1];exact h1,h4,by rw[h5];exact h3⟩
 |ao β o n=>exact dh.move h (hr β (by simp[PV.bb]))
 |rb β o n=>obtain⟨b,u,h1,h2,h3,h4,h5⟩:=h;exact⟨b,u,h1,Ka7 h2 hc.size,hc.out b h2 h3,(ph (hc.b8 b h2 h3)).trans h4,dh.move h5 (hr β (by simp[PV.bb]))⟩
 |np γ i o=>obtain⟨h0,b,hb,h1,h2,h3⟩:=h;have hq:=hs γ (by simp[PV.cV]);obtain⟨an,a1,a2,_⟩:=hq.h hb h2;exact⟨h0,b,an,by rw[hq.r];exact h1,a1,by rw[a2];exact h3⟩
 |aB γ o n=>exact j2.move h (hs γ (by simp[PV.cV]))
 |_=>exact hc.rc _ _ h
theorem Az{f:FuncId}{first cap:List PV}{i:Nat}{x:PV}(h:first[i]? =some x):∀β∈x.bb,β∈(PV.fn f first cap).refs:=by intro β ah;simp only[PV.refs,KaR,Kam];exact .inl ⟨x,Kag h,ah⟩
theorem AG{f:FuncId}{first cap:List PV}{i:Nat}{x:PV}(h:cap[i]? =some x):∀β∈x.bb,β∈(PV.fn f first cap).refs:=by intro β ah;simp only[PV.refs,KaR,Kam];exact .inr ⟨x,Kag h,ah⟩
theorem dn.move{w':World}{X X':Nat->Prop}{p:PV}{v:Value}(h:dn w X p v)(hc:∀q u,Qo w X q u->Qo w' X' q u):dn w' X' p v:=by
 have h1:∀p v,aV w X p v->aV w' X' p v:=by
  intro p v h;cases p with
  |agg cs=>obtain⟨vs,rfl,h1,h2⟩:=h;exact⟨vs,rfl,h1,fun i x hi=>hc _ _ (h2 i x hi)⟩
  |_=>exact hc _ _ h
 cases p with
 |aJ ps=>obtain⟨vs,rfl,g1,g2⟩:=h;exact⟨vs,rfl,g1,fun i x hi=>h1 _ _ (g2 i x hi)⟩
 |agg cs=>exact h1 (.agg cs) v h
 |_=>exact hc _ _ h
theorem Qh.move{ρ':Nat->Option Nat}{hp':HP}{w':World}{p:PV}{v:Value}(h:Qh C ρ hp w p v)
  (hc:iN w w' (ay C ρ hp) (ay C ρ' hp'))
  (hr:∀β∈p.refs,ρ' β=ρ β/\∀hb,hp β=some hb->∃an,hp' β=some an/\an.e=hb.e/\hb.xs.length<=an.xs.length/\∀b cap,ρ β=some b->cu w b hb.e cap->cu w' b hb.e cap)
  (hs:∀β∈p.aI,pX ρ ρ' hp hp' w w' β) (hn:∀γ e ty xs,p= .az γ e ty xs->kH ρ ρ' hp hp' w w' γ):
  Qh C ρ' hp' w' p v:=by
 cases p with
 |undef=>trivial
 |mp β i o=>exact cg.move (p:=.mp β i o) h hc (fun bd je=>hr bd je) (fun β ah=>by cases ah)
 |ao β o n=>exact cg.move (p:=.ao β o n) h hc (fun bd je=>hr bd je) (fun β ah=>by cases ah)
 |rb β o n=>exact cg.move (p:=.rb β o n) h hc (fun bd je=>hr bd je) (fun β ah=>by cases ah)
 |np γ i o=>exact cg.move (p:=.np γ i o) h hc (fun β ah=>by cases ah) (fun bd je=>hs bd je)
 |aB γ o n=>exact cg.move (p:=.aB γ o n) h hc (fun β ah=>by cases ah) (fun bd je=>hs bd je)
 |aE cs=>obtain⟨vs,rfl,h1,h2⟩:=h;exact⟨vs,rfl,h1,fun i x hi=>(h2 i x hi).move hc (fun β ah=>hs β (Kam.2 ⟨x,Kag hi,ah⟩))⟩
 |cW cs=>obtain⟨vs,rfl,h1,h2⟩:=h;exact⟨vs,rfl,h1,fun i x hi=>(h2 i x hi).move hc (fun β ah=>hs β (Kam.2 ⟨x,Kag hi,ah⟩))⟩
 |cj cs q=>obtain⟨vs,u,rfl,h1,h2,h3⟩:=h;exact⟨vs,u,rfl,h1,fun i x hi=>(h2 i x hi).move hc (fun β ah=>hs β (Kam.2 ⟨x,Kag hi,ah⟩)),h3.mono hc.b8 hc.out hc.size⟩
 |az γ e ty xs=>obtain⟨h0,he,b,hb,cur,cap,h1,h2,h3,h4,h5,h6,h7,h8,h9,bx,cx⟩:=h;have hq:=hn γ e ty xs rfl;obtain⟨an,a1,a2,_,_,a5⟩:=hq.h hb h2;obtain⟨a5,a6,a7⟩:=a5 h3;refine⟨h0,he,b,an,cur,cap,by rw[hq.r];exact h1,a1,a5,by rw[a2];exact h4,by rw[a6];exact h5,by rw[a7 b h1];exact h6,h7,h8,h9,bx,fun i x hi j y hy=>(cx i x hi j y hy).move hc (fun β ah=>hs β ?_)⟩;refine Kb3 _ (Kam.2 ⟨x,Kag hi,Kam.2 ⟨y,Kag hy,ah⟩⟩)
 | fn f first cap=>
  obtain⟨fv,cv,rfl,h1,h2,h3,h4⟩:=h;exact⟨fv,cv,rfl,h1,h2,fun i x hi=>(h3 i x hi).move hc (fun β ah=>hr β (Az hi β ah)) (fun β ah=>hs β (KaR.2 (.inl (Kam.2 ⟨x,Kag hi,ah⟩)))),
   fun i x hi=>(h4 i x hi).move hc (fun β ah=>hr β (AG hi β ah)) (fun β ah=>hs β (KaR.2 (.inr (Kam.2 ⟨x,Kag hi,ah⟩))))⟩
 |agg cs=>exact dn.move (p:=.agg cs) h hc.rc
 |aJ cs=>exact dn.move (p:=.aJ cs) h hc.rc
 |_=>exact hc.rc _ _ h
theorem Qh.ln{ρ':Nat->Option Nat}{hp':HP}{w':World}{p:PV}{v:Value}(h:Qh C ρ hp w p v)
  (hc:iN w w' (ay C ρ hp) (ay C ρ' hp'))
  (hr:∀β∈p.refs,ρ' β=ρ β/\∀hb,hp β=some hb->∃an,hp' β=some an/\an.e=hb.e/\hb.xs.length<=an.xs.length/\∀b cap,ρ β=some b->cu w b hb.e cap->cu w' b hb.e cap)
  (hs:∀β∈p.aI,kH ρ ρ' hp hp' w w' β):Qh C ρ' hp' w' p v:=
 h.move hc hr (fun β ah=>(hs β ah).sW) (fun γ e ty xs e1=>hs γ (by rw[e1];simp[PV.aI]))
theorem gU{w w':World}{b e cap:Nat}(h:w'.heap[b]? =w.heap[b]?)(hc:cu w b e cap):cu w' b e cap:=by obtain⟨cur,ty,h1,h2⟩:=hc;exact⟨cur,ty,by rw[h];exact h1,h2⟩
theorem gY{w:World}{b e cap:Nat}(hc:cu w b e cap):b<w.heap.size:=by obtain⟨cur,ty,h1,_⟩:=hc;exact(Kbq.1 h1).1
theorem r7.move{w w':World}{X X':Nat->Prop}{b:Nat}{hb an:HB}(h:r7 w X b hb)(hh:w'.heap[b]? =w.heap[b]?)(e1:an.e=hb.e)(e2:an.ty=hb.ty)(e3:an.xs=hb.xs)
  (hc:∀q u,Qo w X q u->Qo w' X' q u):r7 w' X' b an:=by
 obtain⟨cur,cap,h1,h2,h3,h4,h5⟩:=h;exact⟨cur,cap,by rw[hh,e2];exact h1,by rw[e1];exact h2,by rw[e3];exact h3,h4,fun i x hi j y hy=>by rw[e1];exact hc _ _ (h5 i x (by rw[<-e3];exact hi) j y hy)⟩
theorem Qv.ae(h:Qv C ρ fr hp tmps w){d:Nat}{p:PV}{v:Value}(hv:Qh C ρ hp w p v)(hd:d<C.N):Qv C ρ (ae fr d p) hp (tmps.setIfInBounds d v) w:=by
 refine⟨by simpa using h.sz,h.ext,h.dE,h.own,h.inj,fun i=>?_⟩;unfold FW.ae;split
 ·rename_i he;subst he;simpa[Array.getD,h.sz,hd]using hv
 ·rename_i he;have:(tmps.setIfInBounds d v).getD i undef=tmps.getD i undef:=by simp only[KaA];rw[Kb5 (fun e=>he e.symm)]
  rw[this];exact h.ch i
theorem AT{l:List Nat}{b:Nat}(h:ay C ρ (bq hp l) b):ay C ρ hp b:=by
 rcases h with h|⟨β,hb,h1,h2,h3⟩
 ·exact .inl h
 ·refine .inr ⟨β,hb,?_,h2,h3⟩;unfold bq at h1;split at h1
  ·cases hq:hp β with
   |none=>simp[hq]at h1
   |some iT=>simp[hq]at h1;subst h1;simp at h2
  ·exact h1
theorem vV{l:List Nat}{β:Nat}{hb:HB}(h:hp β=some hb):∃an,bq hp l β=some an/\an.e=hb.e/\an.ty=hb.ty/\an.xs=hb.xs/\(an.fz=false->an=hb)/\(an.fz=false->β ∉ l):=by
 unfold bq;by_cases hl:l.contains β=true
 ·rw[if_pos hl,h];exact⟨_,rfl,rfl,rfl,rfl,by simp,by simp⟩
 ·rw[if_neg hl,h];exact⟨hb,rfl,rfl,rfl,rfl,fun _=>rfl,fun _=>by simpa using hl⟩
theorem s8{l:List Nat}{β:Nat}{an:HB}(h:bq hp l β=some an):∃hb,hp β=some hb/\an.e=hb.e/\an.ty=hb.ty/\an.xs=hb.xs/\(an.fz=false->an=hb)/\(an.fz=false->β ∉ l):=by
 cases hq:hp β with
 |none=>unfold bq at h;split at h<;>simp[hq]at h
 |some hb=>obtain⟨cl,g1,g2⟩:=vV (l:=l) hq;rw[g1]at h;cases h;exact⟨hb,rfl,g2⟩
theorem Qo.freeze{l:List Nat}{q:PV}{u:Value}(h:Qo w (ay C ρ hp) q u):Qo w (ay C ρ (bq hp l)) q u:=
 h.mono (fun _ _ _=>rfl) (fun _ _ hn hx=>hn (AT hx)) (Kae _)
theorem Qv.freeze(h:Qv C ρ fr hp tmps w)(l:List Nat):Qv C ρ fr (bq hp l) tmps w:=by
 refine⟨h.sz,h.ext,h.dE,fun β an ah=>?_,fun β γ b h1 h2 h3 h4=>?_,fun i=>?_⟩
 ·obtain⟨hb,g1,g2,g3,g4,g5,_⟩:=s8 ah;obtain⟨p1,p2,p3,p4,p5⟩:=h.own β hb g1;refine⟨by rw[g2];exact p1,fun i x hi=>by rw[g2];exact p2 i x (by rw[<-g4];exact hi),?_,p4,fun hq=>by
   cases hz:an.fz with
   |true=>rfl
   |false=>rw[<-g5 hz,hz]at p5;cases p5 hq⟩
  cases aU:ρ β with
  |none=>rw[aU]at p3;simp only at p3 ⊢;rw[g4];exact p3
  |some b=>rw[aU]at p3;simp only at p3 ⊢;exact⟨p3.1,p3.2.1,p3.2.2.move rfl g2 g3 g4 (fun q u hq=>hq.freeze)⟩
 ·have f1:∀γ,FW.bq hp l γ≠none->hp γ≠none:=fun γ hn=>by
   cases hq:hp γ with
   |none=>unfold FW.bq at hn;split at hn<;>simp[hq]at hn
   |some _=>simp
  exact h.inj β γ b (f1 β h1) (f1 γ h2) h3 h4
 ·refine(h.ch i).ln ⟨fun _ _ _=>rfl,fun _ _ hn hx=>hn (AT hx),Kae _⟩ (fun β _=>⟨rfl,fun hb ah=>by
  obtain⟨an,g1,g2,_,g4,_⟩:=vV (l:=l) ah;exact⟨an,g1,g2,by rw[g4];exact Kae _,fun b cap _ hc=>hc⟩⟩) (fun β _=>⟨rfl,fun hb ah=>by
  obtain⟨an,g1,g2,g3,g4,_⟩:=vV (l:=l) ah;exact⟨an,g1,g2,by rw[g4];exact Kae _,fun b cap _ hc=>hc,fun he=>⟨by rw[g4];exact he,g3,fun _ _=>rfl⟩⟩⟩)
theorem Qv.grow{w':World}(h:Qv C ρ fr hp tmps w)(hx:Ext bO w w'):Qv C ρ fr hp tmps w':=by
 have fa:iN w w' (ay C ρ hp) (ay C ρ hp):=⟨fun b hb _=>hx.block b hb (fun h=>h),fun _ _ hn=>hn,hx.size⟩
 have hc:=fa.rc;refine⟨h.sz,h.ext.trans' hx (fun _ _ h=>h.elim),fun b0 b hb e cap hc=>gU (hx.block b (gY (h.dE b0 b hb e cap hc)) (fun h=>h)) (h.dE b0 b hb e cap hc),fun β hb ah=>?_,h.inj,fun i=>?_⟩
 ·obtain⟨p1,p2,p3,p4,p5⟩:=h.own β hb ah;refine⟨p1,p2,?_,p4,p5⟩;cases aU:ρ β with
  |none=>rw[aU]at p3;exact p3
  |some b=>rw[aU]at p3;exact⟨p3.1,Ka7 p3.2.1 hx.size,p3.2.2.move (hx.block b p3.2.1 (fun h=>h)) rfl rfl rfl hc⟩
 ·exact(h.ch i).ln fa (fun β _=>⟨rfl,fun hb ah=>⟨hb,ah,rfl,Kae _,fun b cap _ cJ=>gU (hx.block b (gY cJ) (fun h=>h)) cJ⟩⟩)
   (fun β _=>⟨rfl,fun hb ah=>⟨hb,ah,rfl,Kae _,fun b cap _ cJ=>gU (hx.block b (gY cJ) (fun h=>h)) cJ,fun he=>⟨he,rfl,fun b aU=>hx.block b (by have:=(h.own β hb ah).b8;rw[aU]at this;exact this.2.1) (fun h=>h)⟩⟩⟩)
theorem G4{β:Nat}{p:PV}:∀γ∈(bf β p).refs,γ≠β/\γ∈p.refs:=by
 intro γ af;unfold bf at af;split at af
 ·simp[PV.refs]at af
 ·rename_i hn;refine⟨fun he=>hn (by subst he;simpa using af),af⟩
theorem Qh.kill{β:Nat}{p:PV}{v:Value}(h:Qh C ρ hp w p v):Qh C ρ hp w (bf β p) v:=by
 unfold bf;split
 ·trivial
 ·exact h
theorem bZ.sT{p:PV}{v:Value}(h:bZ C ρ hp w p v):∀γ∈p.cA,bg γ=true:=by
 intro γ af;cases p with
 |ao β o n=>simp[PV.cA]at af;subst af;exact h.1
 |aB β o n=>simp[PV.cA]at af;subst af;exact h.1
 |np β o n=>cases h
 |_=>cases af
theorem cg.Lh{p:PV}{v:Value}(h:cg C ρ hp w p v):∀γ∈p.cV,bg γ=true:=by
 intro γ af;cases p with
 |aB β o n=>simp[PV.cV]at af;subst af;exact h.1
 |np β o n=>simp[PV.cV]at af;subst af;exact h.1
 |_=>cases af
theorem Qh.sT{p:PV}{v:Value}(h:Qh C ρ hp w p v):∀γ∈p.aI,bg γ=true:=by
 intro γ af;cases p with
 |aB β o n=>simp[PV.aI]at af;subst af;exact h.1
 |np β o n=>simp[PV.aI]at af;subst af;exact h.1
 |aE cs=>obtain⟨vs,_,_,h2⟩:=h;obtain⟨x,hx,af⟩:=Kam.1 af;obtain⟨i,hi⟩:=Kat hx;exact(h2 i x hi).sT γ af
 |cW cs=>obtain⟨vs,_,_,h2⟩:=h;obtain⟨x,hx,af⟩:=Kam.1 af;obtain⟨i,hi⟩:=Kat hx;exact(h2 i x hi).sT γ af
 |cj cs q=>obtain⟨vs,u,_,_,h2,_⟩:=h;obtain⟨x,hx,af⟩:=Kam.1 af;obtain⟨i,hi⟩:=Kat hx;exact(h2 i x hi).sT γ af
 | az β e ty xs=>
  obtain⟨h0,_,b,hb,cur,cap,_,_,_,_,_,_,_,_,_,_,cx⟩:=h;rcases KaH.1 af with rfl|af
  ·exact h0
  ·obtain⟨x,hx,af⟩:=Kam.1 af;obtain⟨y,hy,af⟩:=Kam.1 af;obtain⟨i,hi⟩:=Kat hx;obtain⟨j,hj⟩:=Kat hy;exact(cx i x hi j y hj).sT γ af
 | fn f first cap=>
  obtain⟨fv,cv,_,_,_,h3,h4⟩:=h;rcases KaR.1 af with af|af
  ·obtain⟨x,hx,af⟩:=Kam.1 af;obtain⟨i,hi⟩:=Kat hx;exact(h3 i x hi).Lh γ af
  ·obtain⟨x,hx,af⟩:=Kam.1 af;obtain⟨i,hi⟩:=Kat hx;exact(h4 i x hi).Lh γ af
 |_=>cases af
def rb(ρ:Nat->Option Nat)(β:Nat)(b':Option Nat):Nat->Option Nat:=fun γ=>if γ=β then b' else ρ γ
theorem eH(ρ:Nat->Option Nat)(β:Nat)(b':Option Nat):rb ρ β b' β=b':=by simp[rb]
theorem kM{ρ:Nat->Option Nat}{β γ:Nat}{b':Option Nat}(h:γ≠β):rb ρ β b' γ=ρ γ:=by simp[rb,h]
def r8(C:Ctx)(ρ:Nat->Option Nat)(hp:HP)(w:World)(β:Nat)(fr aq:Fr):Prop:=∀(i:Nat)(v:Value),Qh C ρ hp w (fr i) v->Qh C ρ hp w (aq i) v/\(∀γ∈(aq i).refs,γ≠β)/\∀γ∈(aq i).aI,γ≠β
theorem wv{β:Nat}(hB:bg β=false):r8 C ρ hp w β fr (bI β fr):=fun i v h=>by have hk:=Qh.kill (β:=β) h;exact⟨hk,fun γ af=>(G4 γ af).1,fun γ af e=>by have:=hk.sT γ af;rw[e,hB]at this;cases this⟩
theorem Qv.sS{w':World}{aq:Fr}(h:Qv C ρ fr hp tmps w)(β:Nat)(b':Option Nat)(an:HB)(hB:aF β=false)(l0:r8 C ρ hp w β fr aq)
  (hx:Ext (fun b=>ρ β=some b/\∃hb,hp β=some hb/\hb.fz=false) w w')
  (jE:∀c,b'=some c->(C.w0.heap.size<=c∨C.Z0 c)/\c<w'.heap.size/\(w.heap.size<=c∨(ρ β=some c/\∃hb,hp β=some hb/\hb.fz=false)))
  (he:0<an.e) (hl:∀(i:Nat)(x:PV),an.xs[i]? =some x->x.cells.length=an.e/\x.ax=true)
  (qo:b'=none->an.xs=[]) (aK:∀c,b'=some c->∃(cur:Array Value) (cap:Nat),w'.heap[c]? =some (.cells cur an.ty (0,0))/\cur.size=cap*an.e/\an.xs.length<=cap/\cap<=maxLen/\
   ∀(i:Nat)(x:PV),an.xs[i]? =some x->∀(j:Nat)(y:PV),x.cells[j]? =some y->Qo w (ay C ρ hp) y (cur.getD (i*an.e+j) undef)):
  Qv C (rb ρ β b') aq (Qi hp β an) tmps w':=by
 have hX:∀b,b<w.heap.size->¬ay C ρ hp b->¬ay C (rb ρ β b') (Qi hp β an) b:=by
  intro b hb hn aG;rcases aG with aG|⟨γ,hg,h1,h2,h3⟩
  ·exact hn (.inl aG)
  ·unfold Qi at h1;by_cases af:γ=β
   ·subst af;rw[eH]at h3;obtain⟨_,_,h4|⟨h5,iT,h6,h7⟩⟩:=jE b h3
    ·omega
    ·exact hn (.inr ⟨γ,iT,h6,h7,h5⟩)
   ·rw[if_neg af]at h1;rw[kM af]at h3;exact hn (.inr ⟨γ,hg,h1,h2,h3⟩)
 have fa:iN w w' (ay C ρ hp) (ay C (rb ρ β b') (Qi hp β an)):=
  ⟨fun b hb hn=>hx.block b hb (fun⟨e1,iT,e2,e3⟩=>hn (.inr ⟨β,iT,e2,e3,e1⟩)),hX,hx.size⟩
 have hc:=fa.rc;have hold:∀b,ρ β=some b->(∃hb,hp β=some hb/\hb.fz=false)->C.w0.heap.size<=b∨C.Z0 b:=by intro b e1 ⟨iT,e2,e3⟩;have:=(h.own β iT e2).b8;rw[e1]at this;exact Ctx.oK this.1 hB
 have fT:Ext C.Y0 C.w0 w':=by refine h.ext.trans' (Y':=fun b=>ρ β=some b/\∃hb,hp β=some hb/\hb.fz=false) hx ?_;intro b hb ⟨e1,e2⟩;exact(Ctx.LI (hold b e1 e2)).resolve_left (by omega)
 have uU:∀β b,C.fx β=some b->∀e cap,cu C.w0 b e cap->cu w' b e cap:=fun b0 b hb e cap fa=>by have h1:=h.dE b0 b hb e cap fa;refine gU (hx.block b (gY h1) ?_) h1;intro⟨e1,e2⟩;exact Ctx.Fb (hold b e1 e2) hb
 refine⟨h.sz,fT,uU,fun γ hg af=>?_,fun γ δ b h1 h2 h3 h4=>?_,fun i=>?_⟩
 ·unfold Qi at af;by_cases mZ:γ=β
  ·rw[if_pos mZ]at af;cases af;subst mZ;refine⟨he,hl,?_,(fun hq=>by rw[hB]at hq;cases hq),fun hq=>by rw[rI hB]at hq;cases hq⟩;rw[eH];cases b' with
   |none=>exact qo rfl
   |some c=>obtain⟨cur,cap,c1,c2,c3,c4,c5⟩:=aK c rfl;exact⟨Ctx.JQ (jE c rfl).1 hB,(jE c rfl).2.1,cur,cap,c1,c2,c3,c4,fun i x hi j y hy=>hc _ _ (c5 i x hi j y hy)⟩
  ·rw[if_neg mZ]at af;obtain⟨p1,p2,p3,p4,p5⟩:=h.own γ hg af;refine⟨p1,p2,?_,(fun hq=>by rw[kM mZ];exact p4 hq),p5⟩;rw[kM mZ];cases aU:ρ γ with
   |none=>rw[aU]at p3;exact p3
   |some b=>rw[aU]at p3;refine⟨p3.1,Ka7 p3.2.1 hx.size,p3.2.2.move (hx.block b p3.2.1 ?_) rfl rfl rfl hc⟩;intro⟨e1,iT,e2,_⟩;exact mZ (h.inj γ β b (by simp[af]) (by simp[e2]) aU e1)
 ·
  have key:∀γ b,γ≠β->hp γ≠none->ρ γ=some b->b'=some b->False:=by
   intro γ b a9 hs hr hb;obtain⟨_,_,h4|⟨h5,iT,h6,h7⟩⟩:=jE b hb
   ·cases hq:hp γ with
    |none=>exact hs hq
    |some hg=>have:=(h.own γ hg hq).b8;rw[hr]at this;omega
   ·exact a9 (h.inj γ β b hs (by simp[h6]) hr h5)
  unfold Qi at h1 h2;by_cases af:γ=β<;>by_cases jJ:δ=β
  ·rw[af,jJ]
  ·subst af;rw[eH]at h3;rw[kM jJ]at h4;rw[if_neg jJ]at h2;exact(key δ b jJ h2 h4 h3).elim
  ·subst jJ;rw[eH]at h4;rw[kM af]at h3;rw[if_neg af]at h1;exact(key γ b af h1 h3 h4).elim
  ·rw[kM af]at h3;rw[kM jJ]at h4;rw[if_neg af]at h1;rw[if_neg jJ]at h2;exact h.inj γ δ b h1 h2 h3 h4
 ·obtain⟨hk,Ku,oY⟩:=l0 i _ (h.ch i);refine hk.ln fa (fun γ af=>?_) (fun γ af=>?_)
  ·have a9:=Ku γ af;refine⟨kM a9,fun hg eC=>⟨hg,by simp[Qi,a9,eC],rfl,Kae _,fun b cap aU cJ=>gU (hx.block b (gY cJ) ?_) cJ⟩⟩;intro⟨e1,iT,e2,_⟩;exact a9 (h.inj γ β b (by simp[eC]) (by simp[e2]) aU e1)
  ·have a9:=oY γ af;have ky:∀b hg,hp γ=some hg->ρ γ=some b->¬(ρ β=some b/\∃hb,hp β=some hb/\hb.fz=false):=fun b hg eC aU ⟨e1,iT,e2,_⟩=>a9 (h.inj γ β b (by simp[eC]) (by simp[e2]) aU e1);refine⟨kM a9,fun hg eC=>⟨hg,by simp[Qi,a9,eC],rfl,Kae _,fun b cap aU cJ=>gU (hx.block b (gY cJ) (ky b hg eC aU)) cJ,fun he=>⟨he,rfl,fun b aU=>hx.block b ?_ (ky b hg eC aU)⟩⟩⟩;have:=(h.own γ hg eC).b8;rw[aU]at this;exact this.2.1
theorem Qv.rebind{w':World}(h:Qv C ρ fr hp tmps w)(β:Nat)(b':Option Nat)(an:HB)(hB:bg β=false)
  (hx:Ext (fun b=>ρ β=some b/\∃hb,hp β=some hb/\hb.fz=false) w w')
  (jE:∀c,b'=some c->(C.w0.heap.size<=c∨C.Z0 c)/\c<w'.heap.size/\(w.heap.size<=c∨(ρ β=some c/\∃hb,hp β=some hb/\hb.fz=false)))
  (he:0<an.e) (hl:∀(i:Nat)(x:PV),an.xs[i]? =some x->x.cells.length=an.e/\x.ax=true)
  (qo:b'=none->an.xs=[]) (aK:∀c,b'=some c->∃(cur:Array Value) (cap:Nat),w'.heap[c]? =some (.cells cur an.ty (0,0))/\cur.size=cap*an.e/\an.xs.length<=cap/\cap<=maxLen/\
   ∀(i:Nat)(x:PV),an.xs[i]? =some x->∀(j:Nat)(y:PV),x.cells[j]? =some y->Qo w (ay C ρ hp) y (cur.getD (i*an.e+j) undef)):
  Qv C (rb ρ β b') (bI β fr) (Qi hp β an) tmps w':=h.sS β b' an (rJ hB) (wv hB) hx jE he hl qo aK
theorem Qv.store{w':World}(h:Qv C ρ fr hp tmps w)(β b:Nat)(hb an:HB)(ah:hp β=some hb)(iV:hb.fz=false)(a9:hb.xs≠[])(aU:ρ β=some b)
  (hx:Ext (fun c=>c=b) w w') (e1:an.e=hb.e) (e3:an.xs.length=hb.xs.length) (e4:an.fz=false)
  (hl:∀(i:Nat)(x:PV),an.xs[i]? =some x->x.cells.length=an.e/\x.ax=true)
  (cJ:∀e cap,cu w b e cap->cu w' b e cap)
  (aK:∃(cur:Array Value) (cap:Nat),w'.heap[b]? =some (.cells cur an.ty (0,0))/\cur.size=cap*an.e/\an.xs.length<=cap/\cap<=maxLen/\
   ∀(i:Nat)(x:PV),an.xs[i]? =some x->∀(j:Nat)(y:PV),x.cells[j]? =some y->Qo w (ay C ρ hp) y (cur.getD (i*an.e+j) undef)):Qv C ρ fr (Qi hp β an) tmps w':=by
 have DQ:∀c,ay C ρ (Qi hp β an) c↔ay C ρ hp c:=by
  intro c;constructor
  ·rintro(hx|⟨γ,hg,h1,h2,h3⟩)
   ·exact .inl hx
   ·unfold Qi at h1;by_cases af:γ=β
    ·subst af;exact .inr ⟨γ,hb,ah,iV,h3⟩
    ·rw[if_neg af]at h1;exact .inr ⟨γ,hg,h1,h2,h3⟩
  ·rintro(hx|⟨γ,hg,h1,h2,h3⟩)
   ·exact .inl hx
   ·by_cases af:γ=β
    ·subst af;exact .inr ⟨γ,an,by simp[Qi],e4,h3⟩
    ·exact .inr ⟨γ,hg,by simp[Qi,af,h1],h2,h3⟩
 have ZR:ay C ρ (Qi hp β an)=ay C ρ hp:=funext fun c=>propext (DQ c);have DT:ay C ρ hp b:=.inr ⟨β,hb,ah,iV,aU⟩;have yv:dy β=false:=by
  cases hq:dy β with
  |false=>rfl
  |true=>have:=(h.own β hb ah).ro hq;rw[iV]at this;cases this
 have fa:iN w w' (ay C ρ hp) (ay C ρ (Qi hp β an)):=by rw[ZR];exact⟨fun c hc hn=>hx.block c hc (fun e=>hn (e▸DT)),fun _ _ hn=>hn,hx.size⟩
 have hc:=fa.rc;have aT:=(h.own β hb ah).b8;rw[aU]at aT;have fT:Ext C.Y0 C.w0 w':=by refine h.ext.trans' (Y':=fun c=>c=b) hx ?_;intro c hc he;subst he;exact(Ctx.xP aT.1 yv).resolve_left (by omega)
 have uU:∀β c,C.fx β=some c->∀e cap,cu C.w0 c e cap->cu w' c e cap:=fun b0 c fa e cap fb=>by
  have h1:=h.dE b0 c fa e cap fb;by_cases gk:c=b
  ·subst gk;exact cJ e cap h1
  ·exact gU (hx.block c (gY h1) gk) h1
 refine⟨h.sz,fT,uU,fun γ hg af=>?_,fun γ δ c h1 h2 h3 h4=>?_,fun i=>?_⟩
 ·unfold Qi at af;by_cases mZ:γ=β
  ·subst mZ;rw[if_pos rfl]at af;cases af;refine⟨by rw[e1];exact(h.own γ hb ah).gh,hl,?_,(h.own γ hb ah).fix,fun hq=>by rw[yv]at hq;cases hq⟩;rw[aU];obtain⟨cur,cap,c1,c2,c3,c4,c5⟩:=aK;exact⟨aT.1,Ka7 aT.2.1 hx.size,cur,cap,c1,c2,c3,c4,fun i x hi j y hy=>hc _ _ (c5 i x hi j y hy)⟩
  ·rw[if_neg mZ]at af;obtain⟨p1,p2,p3,p4,p5⟩:=h.own γ hg af;refine⟨p1,p2,?_,p4,p5⟩;cases hr:ρ γ with
   |none=>rw[hr]at p3;exact p3
   |some c=>rw[hr]at p3;exact⟨p3.1,Ka7 p3.2.1 hx.size,p3.2.2.move (hx.block c p3.2.1 (fun e=>mZ (h.inj γ β b (by simp[af]) (by simp[ah]) (e▸hr) aU))) rfl rfl rfl hc⟩
 ·have f1:∀γ,Qi hp β an γ≠none->hp γ≠none:=fun γ hn=>by
   unfold Qi at hn;by_cases af:γ=β
   ·subst af;simp[ah]
   ·rwa[if_neg af]at hn
  exact h.inj γ δ c (f1 γ h1) (f1 δ h2) h3 h4
 ·have key:∀γ,kH ρ ρ hp (Qi hp β an) w w' γ:=fun γ=>⟨rfl,fun hg eC=>by
   by_cases af:γ=β
   ·subst af;rw[ah]at eC;cases eC;exact⟨an,by simp[Qi],e1,by rw[e3];exact Kae _,fun c cap hr fb=>by rw[aU]at hr;cases hr;exact cJ _ cap fb,fun he=>absurd he a9⟩
   ·have ky:∀c,ρ γ=some c->¬c=b:=fun c hr e=>af (h.inj γ β b (by simp[eC]) (by simp[ah]) (e▸hr) aU);refine⟨hg,by simp[Qi,af,eC],rfl,Kae _,fun c cap hr fb=>gU (hx.block c (gY fb) (ky c hr)) fb,fun he=>⟨he,rfl,fun c hr=>hx.block c ?_ (ky c hr)⟩⟩;have:=(h.own γ hg eC).b8;rw[hr]at this;exact this.2.1⟩
  exact(h.ch i).ln fa (fun γ _=>(key γ).o) (fun γ _=>key γ)
end Go.FW
namespace Go.FW
open Go
variable {C : Ctx} {ρ : Nat -> Option Nat} {fr : Fr} {hp : HP} {w : World} {a : Act} {K : Qg}
theorem Gq{X:Nat->Prop}{v:Value}{p:PV}(h:tC v=some p):Qo w X p v:=by unfold tC at h;split at h<;>simp at h<;>subst h<;>constructor
theorem iz{α β:Type}{f:α->Option β}:∀ {l:List α} {r:List β},l.mapM f=some r->r.length=l.length/\∀(i:Nat)(y:β),r[i]? =some y->∃x,l[i]? =some x/\f x=some y
 | [],r,h=>by simp at h;subst h;simp
 |x::l,r,h=>by
  rw[KbR]at h;simp only[KbC,KbV,Kab,Kaq]at h;obtain⟨y,hy,r',hr,rfl⟩:=h;obtain⟨h1,h2⟩:=iz hr;refine⟨by simp[h1],fun i z hz=>?_⟩;cases i with
  |zero=>simp at hz;subst hz;exact⟨x,by simp,hy⟩
  |succ i=>simp at hz;simpa using h2 i z hz
theorem vW(cs:Array Value)(i:Nat)(x:Value)(h:cs.toList[i]? =some x):cs.getD i undef=x:=by simp only[Array.getElem?_toList]at h;simp[KaA,h]
theorem na{X:Nat->Prop}{v:Value}{p:PV}(h:nk v=some p):aV w X p v:=by
 unfold nk at h;split at h
 ·rename_i cs;simp only[Kaa]at h;obtain⟨l,h1,rfl⟩:=h;obtain⟨g1,g2⟩:=iz h1;refine⟨cs,rfl,by simpa using g1.symm,fun i x hx=>?_⟩;obtain⟨u,hu,hc⟩:=g2 i x hx;rw[vW cs i u hu];exact Gq hc
 ·exact aV.mr (Gq h)
theorem vR{v:Value}{p:PV}(h:nk v=some p):p.ax=true/\p.refs=[]/\(∀f first cap,p≠ .fn f first cap):=by
 unfold nk at h;split at h
 ·simp only[Kaa]at h;obtain⟨l,h1,rfl⟩:=h;simp[PV.ax,PV.refs]
 ·unfold tC at h;split at h<;>simp at h<;>subst h<;>simp[PV.ax,PV.refs]
theorem Qh.Ll{p:PV}{v:Value}(h:aV w (ay C ρ hp) p v)(hn:∀f first cap,p≠ .fn f first cap):Qh C ρ hp w p v:=by
 cases p with
 |fn f first cap=>exact absurd rfl (hn _ _ _)
 |undef=>trivial
 |mp=>cases h
 |ao=>cases h
 |rb=>cases h
 |aB=>cases h
 |np=>cases h
 |aE=>cases h
 |cW=>cases h
 |cj=>cases h
 |az=>cases h
 |aJ=>cases h
 |agg cs=>exact h
 |_=>exact h
theorem Qh.iy{p:PV}{v:Value}(h:aV w (ay C ρ hp) p v):Qh C ρ hp w p v:=by
 by_cases hf:∃f first cap,p= .fn f first cap
 ·obtain⟨f,first,cap,rfl⟩:=hf;cases h with
  |fn _ _ _ fv cv h1 h2 h3 h4=>
   refine⟨fv,cv,rfl,h1,h2,fun i x hi=>?_,fun i x hi=>?_⟩
   ·have:=h3 i x hi;cases x<;>first|exact this|cases this
   ·have:=h4 i x hi;cases x<;>first|exact this|cases this
 ·exact Qh.Ll h (fun f first cap e=>hf ⟨f,first,cap,e⟩)
theorem bR{x:Operand}{y:aD}(h:Qv C ρ fr hp a.tmps w)(ho:bp x=some y):Qh C ρ hp w (ev fr y) (a.eval x):=by
 cases x with
 |tmp t=>simp[bp]at ho;subst ho;exact h.ch t
 |const v=>simp only[bp,Kaa]at ho;obtain⟨p,hp',rfl⟩:=ho;exact Qh.Ll (na hp') (vR hp').2.2
 |global g=>simp[bp]at ho
 |func f=>simp[bp]at ho;subst ho;exact⟨#[],#[],rfl,rfl,rfl,by simp,by simp⟩
theorem Qh.gx{k:IntKind}{n:Int}{v:Value}(h:Qh C ρ hp w (.int k n) v):v= .int k n:=by cases h;rfl
theorem Qh.se{b:Bool}{v:Value}(h:Qh C ρ hp w (.bool b) v):v= .bool b:=by cases h;rfl
theorem Qh.qT{v:Value}(h:Qh C ρ hp w .aa v):v= .slice none 0 0:=by cases h;rfl
theorem Qh.mkInt(k:IntKind)(n:Int):Qh C ρ hp w (.int k n) (.int k n):=Qo.int k n
theorem Qh.o9(b:Bool):Qh C ρ hp w (.bool b) (.bool b):=Qo.bool b
theorem Qh.Lx:Qh C ρ hp w (.aJ []) undef:=⟨#[],rfl,rfl,by simp⟩
def Q4(C:Ctx)(ρ:Nat->Option Nat)(o:Oper)(a:Act)(w:World)(K:Qg):Prop:=
 ∃v,(∀w',(execOp a.eval o).run C.P w'= .ok (.value v) w')/\∃aq hp',Qv C ρ aq hp' (a.put o.dst v).tmps w/\K aq hp'
theorem Q4.mk{o:Oper}{d:Nat}{p:PV}{v:Value}(hd:o.dst=some d)(ak:d<C.N)(h:Qv C ρ fr hp a.tmps w)
  (bz:∀w',(execOp a.eval o).run C.P w'= .ok (.value v) w') (hr:Qh C ρ hp w p v) (hK:K (ae fr d p) hp):Q4 C ρ o a w K:=
 ⟨v,bz,ae fr d p,hp,by rw[hd];exact h.ae hr ak,hK⟩
theorem eV{P:Program}{t:TypeId}{d:TypeDesc}(h:P.underlying t=some d)(w:World):(underlying t).run P w= .ok d w:=run_underlying h w
theorem gV{P:Program}{t:TypeId}{n:Nat}(h:cU P t=some n)(w:World):(sizeOf t).run P w= .ok n w:=by simp only[cU,Kaa]at h;obtain⟨i,hi,rfl⟩:=h;simp[sizeOf,typeInfo,hi]
theorem th{P:Program}{t:TypeId}{ag:Bool}(h:iK P t=some ag)(w:World):(isAgg t).run P w= .ok ag w:=by simp only[iK,Kaa]at h;obtain⟨d,hd,rfl⟩:=h;simp only[isAgg,Kaj,eV hd,Kah];cases d<;>rfl
theorem Gd{P:Program}{T:TypeId}(hu:P.underlying T=some .bool)(n m:Bool)(w:World):(Op.equal T (.bool n) (.bool m)).run P w= .ok (n==m) w:=by show(Op.equalIn (9999+1) T (.bool n) (.bool m)).run P w=_;unfold Op.equalIn;rw[Kaj,eV hu,Kah];rfl
theorem XA{P:Program}{T:TypeId}(hu:P.underlying T=some .bool)(n m:Bool)(w:World):(binOp .eql T (.bool n) (.bool m)).run P w= .ok (.bool (n==m)) w:=by show(do pure (Value.bool (<-Op.equal T (.bool n) (.bool m))):Sem Value).run P w=_;rw[Kaj,Gd hu,Kah];rfl
theorem XB{P:Program}{T:TypeId}(hu:P.underlying T=some .bool)(n m:Bool)(w:World):(binOp .neq T (.bool n) (.bool m)).run P w= .ok (.bool (!(n==m))) w:=by show(do pure (Value.bool (!(<-Op.equal T (.bool n) (.bool m)))):Sem Value).run P w=_;rw[Kaj,Gd hu,Kah];rfl
theorem lz{o:Oper}{op:BinOp}{T T2:TypeId}{x y:Operand}(ho:o.op= .binOp op T x y T2){vx vy v:Value}(ex:a.eval x=vx)(ey:a.eval y=vy)
  (hg:∀w,(eqGuard op T x y vx vy).run C.P w= .ok () w) (hr:∀w,(binOp op T vx vy).run C.P w= .ok v w):∀w,(execOp a.eval o).run C.P w= .ok (.value v) w:=by
 intro w;unfold execOp;simp only[ho,ex,ey,Kaj,hg,hr,Kah];rfl
theorem Mb{o:Oper}{op:BinOp}{T T2:TypeId}{x y:Operand}{px py:PV}{d:Nat}(ho:o.op= .binOp op T x y T2)(hd:o.dst=some d)(ak:d<C.N)(h:Qv C ρ fr hp a.tmps w)
    (hx:Qh C ρ hp w px (a.eval x)) (hy:Qh C ρ hp w py (a.eval y)) {bt:Bool} (ss:bt=true->C.P.underlying T=some .bool)
    (hv:bF op bt px py d fr hp K):Q4 C ρ o a w K:=by
  unfold bF at hv;split at hv
  · rename_i k n k' m
    have ex:=hx.gx;have ey:=hy.gx;have iW:∀w',(eqGuard op T x y (.int k n) (.int k' m)).run C.P w'= .ok () w':=by intro w';unfold eqGuard;cases op<;>rfl
    split at hv
    · obtain⟨h0,hv⟩:=hv
      have DF:¬m<0:=by omega
      exact Q4.mk hd ak h (lz ho ex ey iW (fun w'=>by simp[binOp,Op.shift,DF])) (Qh.mkInt _ _) hv
    · obtain⟨h0,hv⟩:=hv
      have DF:¬m<0:=by omega
      exact Q4.mk hd ak h (lz ho ex ey iW (fun w'=>by simp[binOp,Op.shift,DF])) (Qh.mkInt _ _) hv
    all_goals first
      |exact hv.elim
      | (obtain⟨rfl,h0,hv⟩:=hv
         exact Q4.mk hd ak h (lz ho ex ey iW (fun w'=>by simp[binOp,Op.intDiv,h0])) (Qh.mkInt _ _) hv)
      | (obtain⟨rfl,hv⟩:=hv
         exact Q4.mk hd ak h (lz ho ex ey iW (fun w'=>by simp[binOp,Op.intArith,Op.intBits])) (Qh.mkInt _ _) hv)
      | (obtain⟨rfl,hv⟩:=hv
         refine Q4.mk hd ak h (lz ho ex ey iW ?_) (Qh.o9 _) hv;intro w';simp[binOp,Op.intCmp]<;>rfl)
  · rename_i n m
    have ex:=hx.se;have ey:=hy.se;have iW:∀w',(eqGuard op T x y (.bool n) (.bool m)).run C.P w'= .ok () w':=by intro w';unfold eqGuard;cases op<;>rfl
    split at hv
    · obtain⟨hb,hv⟩:=hv
      exact Q4.mk hd ak h (lz ho ex ey iW (XA (ss hb) n m)) (Qh.o9 _) hv
    · obtain⟨hb,hv⟩:=hv
      exact Q4.mk hd ak h (lz ho ex ey iW (XB (ss hb) n m)) (Qh.o9 _) hv
    · exact hv.elim
  · exact hv.elim
theorem Qh.Lt{e:Nat}{xs:List PV}{v:Value}(h:Qh C ρ hp w (.sl e xs) v):∃ad cap,v= .slice ad xs.length cap/\xs.length<=cap/\cap<=maxLen:=by
 cases h with
 |gB _ ad cap hc=>exact⟨ad,cap,rfl,KbE _,hc⟩
 |sl _ _ b off cap vs hX hb hl hc=>exact⟨_,cap,rfl,hl,hc⟩
theorem Qh.EM{β o n:Nat}{v:Value}(h:Qh C ρ hp w (.ao β o n) v):∃ad cap,v= .slice ad n cap:=by
 obtain⟨hb,_,_,⟨_,rfl,rfl,rfl⟩|⟨b,cap,_,rfl,_⟩⟩:=h
 ·exact⟨_,_,rfl⟩
 ·exact⟨_,_,rfl⟩
theorem Qh.ab1{γ o n:Nat}{v:Value}(h:Qh C ρ hp w (.aB γ o n) v):∃ad cap,v= .slice ad n cap:=by obtain⟨_,hb,b,cap,_,_,rfl,_⟩:=h;exact⟨_,_,rfl⟩
theorem Qh.yS{γ i o:Nat}{v:Value}(h:Qh C ρ hp w (.np γ i o) v):bg γ=true/\∃b hb,ρ γ=some b/\hp γ=some hb/\v= .pointer (some ⟨b,i*hb.e+o,none⟩):=h
theorem Qh.Lk{p:PV}{v:Value}(h:bZ C ρ hp w p v):Qh C ρ hp w p v:=by
 cases p with
 |undef=>trivial
 |ao β o n=>exact h.2
 |aB γ o n=>exact h
 |_=>exact Qh.iy (aV.mr h)
theorem bZ.toC{p:PV}{v:Value}(h:bZ C ρ hp w p v)(hr:p.kD=false):Qo w (ay C ρ hp) p v:=by
 cases p with
 |undef=>cases hr
 |ao=>cases hr
 |aB=>cases hr
 |_=>exact h
theorem bZ.Lj{p:PV}{v:Value}(h:Qo w (ay C ρ hp) p v):bZ C ρ hp w p v:=by
 cases p with
 |ao=>cases h
 |aB=>cases h
 |undef=>trivial
 |_=>exact h
theorem bZ.m5{p:PV}{v:Value}(h:bZ C ρ hp w p v)(hu:p≠ .undef):v.oneCell'=true/\v.cells= #[v]:=by
 cases p with
 |undef=>exact absurd rfl hu
 |ao β o n=>obtain⟨_,hb,_,_,⟨_,rfl,_⟩|⟨b,cap,_,rfl,_⟩⟩:=h<;>exact⟨rfl,rfl⟩
 |aB γ o n=>obtain⟨_,hb,b,cap,_,_,rfl,_⟩:=h;exact⟨rfl,rfl⟩
 |_=>exact⟨(Qo.m5 h).1,(Qo.m5 h).2.1⟩
theorem X9(cs:List PV):(jY cs).aL=cs:=by unfold jY;split<;>rfl
theorem Mc{cs:List PV}{vs:Array Value}(hs:vs.size=cs.length)(h:∀(i:Nat)(x:PV),cs[i]? =some x->bZ C ρ hp w x (vs.getD i undef)):Qh C ρ hp w (jY cs) (.agg vs):=by
 unfold jY;split
 ·exact⟨vs,rfl,hs,h⟩
 ·rename_i hn;refine⟨vs,rfl,hs,fun i x hi=>(h i x hi).toC ?_⟩;have hm:=Kag hi;cases hq:x.kD with
  |false=>rfl
  |true=>exact absurd (KaS.2 ⟨x,hm,hq⟩) hn
theorem B8{ag:Bool}{n off:Nat}{x:PV}{vs:Array Value}(hs:vs.size=n)(hle:off+n<=x.aL.length)(h1:ag=false->n=1)
  (hr:∀j y,j<n->x.aL[off+j]? =some y->bZ C ρ hp w y (vs.getD j undef)):Qh C ρ hp w (m3 ag n off x) (if ag then .agg vs else vs.getD 0 undef):=by
 cases ag with
 | true=>
  refine Mc (by simp[hs];omega) (fun i y hy=>?_);have hi:i<n:=by have:=(Kac.1 hy).1;simp at this;omega
  rw[Kav hi,KaO]at hy;exact hr i y hi hy
 | false=>
  have hn:=h1 rfl;subst hn;have ak:off<x.aL.length:=by omega
  have e:x.aL[off+0]? =some (x.aL[off]):=by simp[Kaf ak]
  have:=hr 0 _ (by omega) e;simp only[m3,Kbd,if_false];have e2:(x.aL.drop off).headD .undef=x.aL[off]:=by rw[Kbu,Kb6,Kaf ak];rfl
  rw[e2];exact Qh.Lk this
theorem vP{o:Oper}{b:Builtin}{args:Array Operand}{ts:Array TypeId}(ho:o.op= .call { callee:=.builtin b,args:=args,argTypes:=ts }){v:Value}
  (hr:∀w,(builtin b ts o.type (args.map fun| .const _=>true|_=>false) (args.map a.eval)).run C.P w= .ok (.value v) w):∀w,(execOp a.eval o).run C.P w= .ok (.value v) w:=by
 intro w;unfold execOp;simp only[ho,resolve,Kaj,KaK,Kah,invoke];exact hr w
theorem Md{o:Oper}{x:Operand}{t:TypeId}{px:PV}{d:Nat}(ho:o.op= .call { callee:=.builtin .len,args:= #[x],argTypes:= #[t] })(hd:o.dst=some d)(ak:d<C.N)(h:Qv C ρ fr hp a.tmps w)
  (hx:Qh C ρ hp w px (a.eval x)) {e:TypeId} (he:C.P.underlying t=some (.slice e)) (hv:kS px d fr hp K):Q4 C ρ o a w K:=by
 have key:∀ad n cap,a.eval x= .slice ad n cap->K (ae fr d (.int .i64 n)) hp->Q4 C ρ o a w K:=fun ad n cap ex hK=>
  Q4.mk hd ak h (vP ho (fun w'=>by simp[builtin,Builtin.len_,ex,Kaj,eV he,goInt])) (Qh.mkInt _ _) hK
 unfold kS at hv;split at hv
 ·exact key _ _ _ hx.qT hv
 ·obtain⟨ad,cap,ex,_⟩:=hx.Lt;exact key _ _ _ ex hv
 ·obtain⟨ad,cap,ex⟩:=hx.EM;exact key _ _ _ ex hv
 ·obtain⟨ad,cap,ex⟩:=hx.ab1;exact key _ _ _ ex hv
 ·exact hv.elim
theorem Qh.yY{s:ByteArray}{v:Value}(h:Qh C ρ hp w (.str s) v):v= .string s:=by cases h;rfl
theorem Iw{P:Program}{t:TypeId}(h:rW P t=true):P.underlying t=some .string:=by
 unfold rW at h;split at h
 ·assumption
 ·cases h
theorem Me{o:Oper}{x:Operand}{t:TypeId}{px:PV}{d:Nat}(ho:o.op= .call { callee:=.builtin .len,args:= #[x],argTypes:= #[t] })(hd:o.dst=some d)(ak:d<C.N)(h:Qv C ρ fr hp a.tmps w)
  (hx:Qh C ρ hp w px (a.eval x)) (hs:rW C.P t=true) (hv:pW px d fr hp K):Q4 C ρ o a w K:=by
 have hu:=Iw hs;unfold pW at hv;split at hv
 ·rename_i s;have ex:=hx.yY;exact Q4.mk hd ak h (vP ho (fun w'=>by simp[builtin,Builtin.len_,ex,Kaj,eV hu,goInt])) (Qh.mkInt _ _) hv
 ·exact hv.elim
theorem Ya{P:Program}{T:TypeId}(hu:P.underlying T=some .string)(n m:ByteArray)(w:World):(binOp .eql T (.string n) (.string m)).run P w= .ok (.bool (n==m)) w:=by simp[binOp,Op.stringOp,beq_toListBytes]
theorem Yb{P:Program}{T:TypeId}(hu:P.underlying T=some .string)(n m:ByteArray)(w:World):(binOp .neq T (.string n) (.string m)).run P w= .ok (.bool (!(n==m))) w:=by simp[binOp,Op.stringOp,bne,beq_toListBytes]
theorem HK(x y:ByteArray):(x==y)=decide (x=y):=by
 by_cases h:x=y
 ·subst h;rw[decide_eq_true rfl];show(x.data==x.data)=true;simp
 ·rw[decide_eq_false h];have h':x.data≠y.data:=fun e=>h (by cases x;cases y;simp_all);show(x.data==y.data)=false;simpa using h'
theorem Mf{o:Oper}{op:BinOp}{ng:Bool}{T T2:TypeId}{x y:Operand}{px py:PV}{d:Nat}(ho:o.op= .binOp op T x y T2)(hop:xK op=some ng)(hs:rW C.P T=true)(hd:o.dst=some d)(ak:d<C.N)(h:Qv C ρ fr hp a.tmps w)
  (hx:Qh C ρ hp w px (a.eval x)) (hy:Qh C ρ hp w py (a.eval y)) (hv:mM ng px py d fr hp K):Q4 C ρ o a w K:=by
 have hu:=Iw hs;unfold mM at hv;split at hv
 ·rename_i n m;have ex:=hx.yY;have ey:=hy.yY;have iW:∀w',(eqGuard op T x y (.string n) (.string m)).run C.P w'= .ok () w':=by intro w';unfold eqGuard;cases op<;>rfl
  cases op<;>first|(cases hop;done)|skip
  ·cases hop;exact Q4.mk hd ak h (lz ho ex ey iW (Ya hu n m)) (Qh.o9 _) (by rw[HK];simpa using hv)
  ·cases hop;exact Q4.mk hd ak h (lz ho ex ey iW (Yb hu n m)) (Qh.o9 _) (by rw[HK];simpa using hv)
 ·exact hv.elim
theorem Ok{o:Oper}{x y:Operand}{ts:Array TypeId}{px py:PV}{d:Nat}(ho:o.op= .call { callee:=.builtin .max,args:= #[x,y],argTypes:=ts })(hd:o.dst=some d)(ak:d<C.N)(h:Qv C ρ fr hp a.tmps w)
  (hx:Qh C ρ hp w px (a.eval x)) (hy:Qh C ρ hp w py (a.eval y)) (hv:qR px py d fr hp K):Q4 C ρ o a w K:=by
 unfold qR at hv;split at hv
 ·rename_i k n k' m;have ex:=hx.gx;have ey:=hy.gx;refine Q4.mk hd ak h (vP ho (fun w'=>?_)) (Qh.mkInt _ _) hv;have e:(if m>n then m else n)=max n m:=by omega
  simp[builtin,Builtin.max_,ex,ey,Builtin.max2,e]
 ·exact hv.elim
theorem Ol{o:Oper}{x y:Operand}{ts:Array TypeId}{px py:PV}{d:Nat}(ho:o.op= .call { callee:=.builtin .min,args:= #[x,y],argTypes:=ts })(hd:o.dst=some d)(ak:d<C.N)(h:Qv C ρ fr hp a.tmps w)
  (hx:Qh C ρ hp w px (a.eval x)) (hy:Qh C ρ hp w py (a.eval y)) (hv:qP px py d fr hp K):Q4 C ρ o a w K:=by
 unfold qP at hv;split at hv
 ·rename_i k n k' m;have ex:=hx.gx;have ey:=hy.gx;refine Q4.mk hd ak h (vP ho (fun w'=>?_)) (Qh.mkInt _ _) hv;have e:(if m<n then m else n)=min n m:=by omega
  simp[builtin,Builtin.min_,ex,ey,Builtin.min2,e]
 ·exact hv.elim
theorem Om{o:Oper}{op:UnOp}{T:TypeId}{x:Operand}{px:PV}{d:Nat}(ho:o.op= .unOp op T x)(hd:o.dst=some d)(ak:d<C.N)(h:Qv C ρ fr hp a.tmps w)
  (hx:Qh C ρ hp w px (a.eval x)) (hv:pb op px d fr hp K):Q4 C ρ o a w K:=by
 unfold pb at hv;split at hv
 ·have ex:=hx.se;refine Q4.mk hd ak h (fun w'=>?_) (Qh.o9 _) hv;unfold execOp;simp only[ho,ex];rfl
 ·have ex:=hx.gx;refine Q4.mk hd ak h (fun w'=>?_) (Qh.mkInt _ _) hv;unfold execOp;simp only[ho,ex];rfl
 ·exact hv.elim
theorem YN{o:Oper}{S T:TypeId}{x:Operand}{px:PV}{d:Nat}{ds:TypeDesc}{k:IntKind}(ho:o.op= .convert S T x)(hd:o.dst=some d)(ak:d<C.N)(h:Qv C ρ fr hp a.tmps w)
  (hS:C.P.underlying S=some ds) (hT:C.P.underlying T=some (.int k)) (hx:Qh C ρ hp w px (a.eval x)) (hv:pN k px d fr hp K):Q4 C ρ o a w K:=by
 unfold pN at hv;split at hv
 ·have ex:=hx.gx;refine Q4.mk hd ak h (fun w'=>?_) (Qh.mkInt _ _) hv;unfold execOp;simp only[ho,ex,Kaj,convert,eV hS,eV hT,Kah];rfl
 ·exact hv.elim
theorem Mg{o:Oper}{i:Nat}{x:Operand}{px:PV}{d:Nat}(ho:o.op= .extract x i)(hd:o.dst=some d)(ak:d<C.N)(h:Qv C ρ fr hp a.tmps w)
  (hx:Qh C ρ hp w px (a.eval x)) (hv:iL px i d fr hp K):Q4 C ρ o a w K:=by
 unfold iL at hv;split at hv
 ·rename_i ps;split at hv
  ·rename_i p eJ;obtain⟨cQ,hv⟩:=hv;obtain⟨vs,ex,h1,h2⟩:=hx;have hi:i<vs.size:=by rw[h1];exact(Kac.1 eJ).1
   have hr:=h2 i p eJ;have hg:vs.getD i undef=vs[i]:=by simp[Array.getD,hi]
   rw[hg]at hr;refine Q4.mk hd ak h (fun w'=>?_) (Qh.iy hr) hv;unfold execOp;simp only[ho,ex,Kaj,Instr.extract,Kbi hi];rfl
  ·exact hv.elim
 ·rename_i ps;split at hv
  ·rename_i p eJ;obtain⟨vs,ex,h1,h2⟩:=hx;have hi:i<vs.size:=by rw[h1];exact(Kac.1 eJ).1
   have hr:=h2 i p eJ;have hg:vs.getD i undef=vs[i]:=by simp[Array.getD,hi]
   rw[hg]at hr;refine Q4.mk hd ak h (fun w'=>?_) (Qh.Lk hr) hv;unfold execOp;simp only[ho,ex,Kaj,Instr.extract,Kbi hi];rfl
  ·exact hv.elim
 ·rename_i cs q;obtain⟨vs,u,ex,h1,h2,h3⟩:=hx;split at hv
  ·refine Q4.mk (p:=.aE cs) (v:=.agg vs) hd ak h (fun w'=>?_) ⟨vs,rfl,h1,h2⟩ hv;unfold execOp;simp only[ho,ex,Kaj,Instr.extract];rfl
  ·refine Q4.mk (v:=u) hd ak h (fun w'=>?_) (Qh.iy h3) hv;unfold execOp;simp only[ho,ex,Kaj,Instr.extract];rfl
  ·exact hv.elim
 ·exact hv.elim
theorem Ix{o:Oper}{x:Operand}{px:PV}{d:Nat}(ho:o.op= .move x∨o.op= .assign x)(hd:o.dst=some d)(ak:d<C.N)(h:Qv C ρ fr hp a.tmps w)
  (hx:Qh C ρ hp w px (a.eval x)) (hv:K (ae fr d px) hp):Q4 C ρ o a w K:=by
 refine Q4.mk hd ak h (fun w'=>?_) hx hv;rcases ho with ho|ho<;>(unfold execOp;simp only[ho];rfl)
theorem YO{o:Oper}{c x y:Operand}{pc px py:PV}{d:Nat}(ho:o.op= .pick c x y)(hd:o.dst=some d)(ak:d<C.N)(h:Qv C ρ fr hp a.tmps w)
  (hc:Qh C ρ hp w pc (a.eval c)) (hx:Qh C ρ hp w px (a.eval x)) (hy:Qh C ρ hp w py (a.eval y))
  (hv:ns pc px py d fr hp K):Q4 C ρ o a w K:=by
 obtain⟨t,rfl,hv⟩:∃t,pc= .bool t/\((t=true->K (ae fr d px) hp)/\(t=false->K (ae fr d py) hp)):=by
  cases pc with
  |bool t=>exact⟨t,rfl,hv⟩
  |_=>exact hv.elim
 have ec:=hc.se;cases t with
 |true=>refine Q4.mk hd ak h (fun w'=>?_) hx (hv.1 rfl);unfold execOp;simp only[ho,ec];rfl
 |false=>refine Q4.mk hd ak h (fun w'=>?_) hy (hv.2 rfl);unfold execOp;simp only[ho,ec];rfl
theorem vN{P:Program}{T:TypeId}{k0:IntKind}(hu:P.underlying T=some (.int k0))(d:Nat)(k:IntKind)(n m:Int)(w:World):(Op.equalIn (d+1) T (.int k n) (.int k m)).run P w= .ok (n==m) w:=by unfold Op.equalIn;rw[Kaj,eV hu,Kah];simp
theorem tj{P:Program}{t:TypeId}{cs:Array Value}{off:Nat}{v:Value}(ha:iK P t=some false)(hv:cs[off]? =some v)(w:World):(part t cs off).run P w= .ok v w:=by unfold part;rw[Kaj,th ha,Kah];simp[hv]
theorem XC {P : Program} {T : TypeId} {f g : Field} (hu : P.underlying T = some (.struct #[f, g])) (h1 : f.name ≠ "_") (h2 : g.name ≠ "_") (o1 : f.offset = 0) (o2 : g.offset = 1) {k1 k2 : IntKind} (t1 : P.underlying f.type = some (.int k1)) (t2 : P.underlying g.type = some (.int k2))
  (hs:P.stoodInHeld T=false) (k l:IntKind) (x y x' y':Int) (w:World):(Op.equal T (.agg #[.int k x,.int l y]) (.agg #[.int k x',.int l y'])).run P w= .ok (x==x'&&y==y') w:=by
 have a1:iK P f.type=some false:=by simp[iK,t1]
 have a2:iK P g.type=some false:=by simp[iK,t2]
 show(Op.equalIn (9998+1+1) T _ _).run P w=_;rw[Op.equalIn];rw[Kaj,eV hu,Kah];have hp:Sem.run P program w= .ok P w:=rfl;rw[Kaj,hp,Kah,hs];simp only[Kbd,if_false];rw[<-Array.forIn_toList];simp only[List.forIn_cons,List.forIn_nil,Kaj,o1,o2,h1,h2,ne_eq,not_false_eq_true,if_true,tj a1 (show(#[Value.int k x,Value.int l y])[0]? =some _ from rfl),tj a1 (show(#[Value.int k x',Value.int l y'])[0]? =some _ from rfl),
  tj a2 (show(#[Value.int k x,Value.int l y])[1]? =some _ from rfl),tj a2 (show(#[Value.int k x',Value.int l y'])[1]? =some _ from rfl),vN t1,vN t2,Kah]
 have q1:∀n m w,(Op.equalIn 9999 f.type (.int k n) (.int k m)).run P w= .ok (n==m) w:=fun n m w=>vN t1 9998 k n m w;have q2:∀n m w,(Op.equalIn 9999 g.type (.int l n) (.int l m)).run P w= .ok (n==m) w:=fun n m w=>vN t2 9998 l n m w;have p2:∀u v w,(part g.type #[u,v] 1).run P w= .ok v w:=fun u v w=>tj a2 (show(#[u,v])[1]? =some _ from rfl) w;by_cases e1:x=x'<;>by_cases e2:y=y'<;>simp[e1,e2,q1,q2,p2]
theorem On{P:Program}{T:TypeId}{b:Bool}{X Y:Array Value}(h:∀w,(Op.equal T (.agg X) (.agg Y)).run P w= .ok b w)(w:World):(binOp .eql T (.agg X) (.agg Y)).run P w= .ok (.bool b) w:=by show(do pure (Value.bool (<-Op.equal T (.agg X) (.agg Y))):Sem Value).run P w=_;rw[Kaj,h,Kah];rfl
theorem Oo{P:Program}{T:TypeId}{b:Bool}{X Y:Array Value}(h:∀w,(Op.equal T (.agg X) (.agg Y)).run P w= .ok b w)(w:World):(binOp .neq T (.agg X) (.agg Y)).run P w= .ok (.bool !b) w:=by show(do pure (Value.bool (!(<-Op.equal T (.agg X) (.agg Y)))):Sem Value).run P w=_;rw[Kaj,h,Kah];rfl
theorem G5 {P : Program} {T:TypeId} {op:BinOp} {x y:Operand} {X Y:Array Value} (h:P.eqGuardType P.depth T=false) (w:World):(eqGuard op T x y (.agg X) (.agg Y)).run P w= .ok () w:=by
  have hp:Sem.run P program w= .ok P w:=rfl
  have hg : (do if !(<-program).eqGuardType (<-program).depth T then return
                if <- Op.eqGuardIn Op.maxDepth T (.agg X) (.agg Y) then unsupported (.noEntry "binop/eql: two nil values of an interface type with methods, in a part of a struct or an array") : Sem Unit).run P w = .ok () w := by
    rw[Kaj,hp,Kah,Kaj,hp,Kah,h];rfl
  cases op<;>first|rfl|exact hg
theorem TE {P : Program} {T : TypeId} (h : yW P T = true) : ∃ f g k1 k2, P.underlying T = some (.struct #[f, g]) /\ f.name ≠ "_" /\ g.name ≠ "_" /\ f.offset = 0 /\ g.offset = 1 /\ P.underlying f.type = some (.int k1) /\ P.underlying g.type = some (.int k2) /\ P.stoodInHeld T = false /\ P.eqGuardType P.depth T = false := by
 unfold yW at h;split at h
 ·rename_i fs hu;split at h
  ·rename_i f g ko;simp only[Kbb,bne_iff_ne,ne_eq,beq_iff_eq,Bool.not_eq_true']at h;obtain⟨⟨⟨⟨⟨⟨⟨h1,h2⟩,h3⟩,h4⟩,h5⟩,h6⟩,h7⟩,h8⟩:=h;have:fs= #[f,g]:=by rw[<-Array.toArray_toList (xs:=fs),ko]
   subst this;cases u1:P.underlying f.type with
   |none=>rw[u1]at h5;cases h5
   | some t1=>cases u2:P.underlying g.type with
    |none=>rw[u2]at h6;cases h6
    |some t2=>
     rw[u1]at h5;rw[u2]at h6;cases t1<;>first|(cases h5;done)|skip
     cases t2<;>first|(cases h6;done)|skip
     exact⟨f,g,_,_,hu,h1,h2,h3,h4,u1,u2,h7,h8⟩
  ·cases h
 ·cases h
theorem Iy{cs:List PV}{v:Value}{p q:PV}(gI:cs=[p,q])(h:Qh C ρ hp w (.agg cs) v):∃x y,v= .agg #[x,y]/\Qo w (ay C ρ hp) p x/\Qo w (ay C ρ hp) q y:=by
 subst gI;obtain⟨vs,rfl,h1,h2⟩:=h;have hs:vs.size=2:=h1;refine⟨vs.getD 0 undef,vs.getD 1 undef,?_,h2 0 p rfl,h2 1 q rfl⟩;congr 1;apply Array.ext
 ·simp[hs]
 ·intro i hi aA;have:i=0∨i=1:=by simp at aA;omega
  rcases this with rfl|rfl<;>simp[Array.getD,hs]
theorem Mh{o:Oper}{op:BinOp}{ng:Bool}{T T2:TypeId}{x y:Operand}{px py:PV}{d:Nat}(ho:o.op= .binOp op T x y T2)(hop:xK op=some ng)(dx:yW C.P T=true)(hd:o.dst=some d)(ak:d<C.N)(h:Qv C ρ fr hp a.tmps w)
  (hx:Qh C ρ hp w px (a.eval x)) (hy:Qh C ρ hp w py (a.eval y)) (hv:mL ng px py d fr hp K):Q4 C ρ o a w K:=by
 obtain⟨f,g,k1,k2,hu,h1,h2,h3,h4,u1,u2,h7,h8⟩:=TE dx;unfold mL at hv;split at hv
 ·rename_i k n l m k' n' l' m';obtain⟨rfl,rfl,hv⟩:=hv;obtain⟨a1,b1,ex,r1,r2⟩:=Iy rfl hx;obtain⟨a2,b2,ey,r3,r4⟩:=Iy rfl hy;cases r1;cases r2;cases r3;cases r4;have heq:∀w,(Op.equal T (.agg #[.int k n,.int l m]) (.agg #[.int k n',.int l m'])).run C.P w= .ok (n==n'&&m==m') w:=fun w=>XC hu h1 h2 h3 h4 u1 u2 h7 k l n m n' m' w;have e:(n==n'&&m==m')=(decide (n=n')&&decide (m=m')):=rfl;rw[e]at heq;cases op<;>first|(cases hop;done)|skip
  ·cases hop;exact Q4.mk hd ak h (lz ho ex ey (G5 h8) (On heq)) (Qh.o9 _) (by simpa using hv)
  ·cases hop;exact Q4.mk hd ak h (lz ho ex ey (G5 h8) (Oo heq)) (Qh.o9 _) (by simpa using hv)
 ·exact hv.elim
end Go.FW
namespace Go.FW
open Go
variable {C : Ctx} {ρ : Nat -> Option Nat} {fr : Fr} {hp : HP} {w : World} {a : Act} {K : Qg}
theorem Yc{l:List PV}{n:Nat}(h:n<l.length):l[n]? =some (l[n]'h):=Kaf h
theorem AA{P:Program}{t e:TypeId}{n:Nat}{ad:Addr}{len cap:Nat}{k:IntKind}{i:Int}(hu:P.underlying t=some (.slice e))(hn:cU P e=some n)(h0:0<=i)(h1:i<len)(w:World):
  (Instr.indexAt t (.slice (some ad) len cap) (.int k i)).run P w= .ok (.pointer (some (ad.add (i.toNat*n)))) w:=by
 have h2:0<=i/\i<len:=⟨h0,h1⟩
 unfold Instr.indexAt;simp only[asIntOf,Kaj,KaK,Kah,eV hu,if_pos h2,gV hn]
theorem Ga{P:Program}{t e:TypeId}{n len:Nat}{ad:Addr}{k:IntKind}{i:Int}(hu:P.underlying t=some (.array len e))(hn:cU P e=some n)(h0:0<=i)(h1:i<len)(w:World):
  (Instr.indexAt t (.pointer (some ad)) (.int k i)).run P w= .ok (.pointer (some (ad.add (i.toNat*n)))) w:=by
 have h2:0<=i/\i<len:=⟨h0,h1⟩
 unfold Instr.indexAt;simp only[asIntOf,Kaj,KaK,Kah,eV hu,Instr.sureAddr,if_pos h2,gV hn]
theorem Qh.sP{β i o:Nat}{v:Value}(h:Qh C ρ hp w (.mp β i o) v):∃b hb,ρ β=some b/\hp β=some hb/\v= .pointer (some ⟨b,i*hb.e+o,none⟩):=h
theorem Qh.EL{β i o b:Nat}{hb:HB}(h1:ρ β=some b)(h2:hp β=some hb):Qh C ρ hp w (.mp β i o) (.pointer (some ⟨b,i*hb.e+o,none⟩)):=⟨b,hb,h1,h2,rfl⟩
theorem Mi{o:Oper}{t e:TypeId}{n:Nat}{x i:Operand}{px pi:PV}{d:Nat}(ho:o.op= .indexAddr t x i)(hd:o.dst=some d)(ak:d<C.N)(h:Qv C ρ fr hp a.tmps w)
  (hu:C.P.underlying t=some (.slice e)) (hn:cU C.P e=some n) (hx:Qh C ρ hp w px (a.eval x)) (hi:Qh C ρ hp w pi (a.eval i)) (hv:cG n px pi d fr hp K):Q4 C ρ o a w K:=by
 unfold cG at hv;split at hv
 ·rename_i e' xs k m;obtain⟨rfl,h0,h1,hK⟩:=hv;have ei:=hi.gx;have hlen:m<xs.length:=by omega
  generalize ev:a.eval x=vx at hx;cases hx with
  |gB=>simp at h1
  |sl _ _ b off cap vs hX hb hl hc he kA hr=>
   have jH:=Yc h1;have dt:=he _ _ jH;refine Q4.mk hd ak h (v:=.pointer (some ⟨b,off+m.toNat*n,none⟩)) (fun w'=>?_) ?_ hK
   ·unfold execOp;simp only[ho,ei,ev,Kaj,AA hu hn h0 hlen,Kah,Kbz];rfl
   ·exact Qo.pt _ b _ (vs m.toNat) hX hb (fun j hj=>kA m.toNat h1 j (by omega)) (fun j y hy=>hr m.toNat _ jH j y hy)
 ·rename_i β o' m k n';obtain⟨h0,h1,h2,hK⟩:=hv;have ei:=hi.gx;obtain⟨hb,g1,g2,⟨g3,_,g5,_⟩|⟨b,cap,g3,g4,g5,g6⟩⟩:=hx
  ·omega
  ·rw[g1]at h2;simp only[KbL,Kaq]at h2;subst h2;have hm:n'<m:=by omega
   refine Q4.mk hd ak h (fun w'=>?_) (Qh.EL g3 g1) hK;unfold execOp;simp only[ho,ei,g4,Kaj,AA hu hn h0 hm,Kah,Kbz,KaJ,Kax];rfl
 ·rename_i γ o' m k n';obtain⟨h0,h1,h2,hK⟩:=hv;have ei:=hi.gx;obtain⟨hB,hb,b,cap,g1,g3,g4,g5,g6,g7⟩:=hx;rw[g1]at h2;simp only[KbL,Kaq]at h2;subst h2;have hm:n'<m:=by omega
  refine Q4.mk hd ak h (p:=.np γ (o'+n'.toNat) 0) (fun w'=>?_) (show cg C ρ hp w (.np γ (o'+n'.toNat) 0) _ from⟨hB,b,hb,g3,g1,rfl⟩) hK;unfold execOp;simp only[ho,ei,g4,Kaj,AA hu hn h0 hm,Kah,Kbz,KaJ,Kax];rfl
 ·exact hv.elim
theorem Qo.Lo{X:Nat->Prop}{cs:List PV}{b off k:Nat}(h:Qo w X (.pt cs) (.pointer (some ⟨b,off,none⟩))):Qo w X (.pt (cs.drop k)) (.pointer (some ⟨b,off+k,none⟩)):=by
 cases h with
 |pt _ _ _ vs hX hb hv hr=>
  refine Qo.pt _ b _ (fun j=>vs (k+j)) hX hb (fun j hj=>?_) (fun j y hy=>?_)
  ·have:=hv (k+j) (by simp at hj;omega);rwa[<-Nat.add_assoc]at this
  ·rw[KaO]at hy;exact hr _ _ hy
theorem Qh.yV{cs:List PV}{v:Value}(h:Qh C ρ hp w (.pt cs) v):∃b off,v= .pointer (some ⟨b,off,none⟩)/\Qo w (ay C ρ hp) (.pt cs) (.pointer (some ⟨b,off,none⟩)):=by
 have h':Qo w (ay C ρ hp) (.pt cs) v:=h;cases h' with
 |pt _ b off vs hX hb hv hr=>exact⟨b,off,rfl,.pt _ b off vs hX hb hv hr⟩
theorem YP{o:Oper}{t e:TypeId}{n len:Nat}{x i:Operand}{px pi:PV}{d:Nat}(ho:o.op= .indexAddr t x i)(hd:o.dst=some d)(ak:d<C.N)(h:Qv C ρ fr hp a.tmps w)
  (hu:C.P.underlying t=some (.array len e)) (hn:cU C.P e=some n) (hx:Qh C ρ hp w px (a.eval x)) (hi:Qh C ρ hp w pi (a.eval i)) (hv:mG len n px pi d fr hp K):Q4 C ρ o a w K:=by
 unfold mG at hv;split at hv
 ·rename_i β j o' k m;obtain⟨h0,h1,hK⟩:=hv;have ei:=hi.gx;obtain⟨b,hb,g1,g2,g3⟩:=hx.sP;refine Q4.mk hd ak h (fun w'=>?_) (Qh.EL g1 g2) hK;unfold execOp;simp only[ho,ei,g3,Kaj,Ga hu hn h0 h1,Kah,Kbz,KbJ];rfl
 ·rename_i cs k m;obtain⟨h0,h1,h2,hK⟩:=hv;have ei:=hi.gx;obtain⟨b,off,ex,hp'⟩:=hx.yV;refine Q4.mk hd ak h (p:=.pt (cs.drop (m.toNat*n))) (v:=.pointer (some ⟨b,off+m.toNat*n,none⟩)) (fun w'=>?_) hp'.Lo hK;unfold execOp;simp only[ho,ei,ex,Kaj,Ga hu hn h0 h1,Kah,Kbz];rfl
 ·exact hv.elim
theorem AH{P:Program}{t:TypeId}{fs:Array Field}{j:Nat}{f:Field}{n b off:Nat}(hu:P.underlying t=some (.struct fs))(hf:fs[j]? =some f)(hn:cU P f.type=some n)(h0:n≠0)(w:World):
  (Instr.fieldAt t (.pointer (some ⟨b,off,none⟩)) j).run P w= .ok (.pointer (some ⟨b,off+f.offset,none⟩)) w:=by
 unfold Instr.fieldAt;simp only[Kaj,eV hu,Kah,hf,Instr.sureAddr,KaK,fieldPlace,gV hn,if_neg h0,Kbz]
theorem Mj{o:Oper}{t:TypeId}{fs:Array Field}{j n:Nat}{f:Field}{x:Operand}{px:PV}{d:Nat}(ho:o.op= .fieldAddr t x j)(hd:o.dst=some d)(ak:d<C.N)(h:Qv C ρ fr hp a.tmps w)
  (hu:C.P.underlying t=some (.struct fs)) (hf:fs[j]? =some f) (hn:cU C.P f.type=some n) (gp:n≠0) (hx:Qh C ρ hp w px (a.eval x)) (hv:mN f.offset px d fr hp K):Q4 C ρ o a w K:=by
 unfold mN at hv;split at hv
 ·rename_i β i o';obtain⟨b,hb,g1,g2,g3⟩:=hx.sP;refine Q4.mk hd ak h (fun w'=>?_) (Qh.EL g1 g2) hv;unfold execOp;simp only[ho,g3,Kaj,AH hu hf hn gp,Kah,KbJ];rfl
 ·rename_i γ i o';obtain⟨hB,b,hb,g1,g2,g3⟩:=hx.yS;refine Q4.mk hd ak h (p:=.np γ i (o'+f.offset)) (fun w'=>?_) (show cg C ρ hp w (.np γ i (o'+f.offset)) _ from⟨hB,b,hb,g1,g2,rfl⟩) hv;unfold execOp;simp only[ho,g3,Kaj,AH hu hf hn gp,Kah,KbJ];rfl
 ·rename_i cs;obtain⟨_,hK⟩:=hv;obtain⟨b,off,ex,hp'⟩:=hx.yV;refine Q4.mk hd ak h (p:=.pt (cs.drop f.offset)) (v:=.pointer (some ⟨b,off+f.offset,none⟩)) (fun w'=>?_) hp'.Lo hK;unfold execOp;simp only[ho,ex,Kaj,AH hu hf hn gp,Kah];rfl
 ·exact hv.elim
theorem qZ(vs:Array Value)(off n j:Nat)(hj:j<n)(h:off+n<=vs.size):(vs.extract off (off+n)).getD j undef=vs.getD (off+j) undef:=by
 have h1:j<(vs.extract off (off+n)).size:=by simp;omega
 have h2:off+j<vs.size:=by omega
 simp only[KaA,Kbi h1,Kbi h2,Array.getElem_extract]
theorem tK{X:Nat->Prop}{ag:Bool}{n off:Nat}{x:PV}{vs:Array Value}(hs:vs.size=n)(hle:off+n<=x.cells.length)(h1:ag=false->n=1)
  (hr:∀j y,j<n->x.cells[off+j]? =some y->Qo w X y (vs.getD j undef)):aV w X (dk ag n off x) (if ag then .agg vs else vs.getD 0 undef):=by
 cases ag with
 | true=>
  refine⟨vs,rfl,by simp[hs];omega,fun i y hy=>?_⟩;have hi:i<n:=by have:=(Kac.1 hy).1;simp at this;omega
  rw[Kav hi,KaO]at hy;exact hr i y hi hy
 | false=>
  have hn:=h1 rfl;subst hn;have ak:off<x.cells.length:=by omega
  have e:x.cells[off+0]? =some (x.cells[off]):=by simp[Kaf ak]
  have:=hr 0 _ (by omega) e;simp only[dk,Kbd,if_false];have e2:(x.cells.drop off).headD .undef=x.cells[off]:=by rw[Kbu,Kb6,Kaf ak];rfl
  rw[e2];exact aV.mr this
theorem YQ{o:Oper}{t:TypeId}{fs:Array Field}{j n:Nat}{ag:Bool}{f:Field}{x:Operand}{px:PV}{d:Nat}(ho:o.op= .field t x j)(hd:o.dst=some d)(ak:d<C.N)(h:Qv C ρ fr hp a.tmps w)
  (hu:C.P.underlying t=some (.struct fs)) (hf:fs[j]? =some f) (hn:cU C.P f.type=some n) (fG:iK C.P f.type=some ag) (hx:Qh C ρ hp w px (a.eval x)) (hv:mH f.offset n ag px d fr hp K):Q4 C ρ o a w K:=by
 unfold mH at hv;split at hv
 ·rename_i cs;obtain⟨h1,h2,hK⟩:=hv;obtain⟨vs,ex,g1,g2⟩:=hx;have hle:f.offset+n<=vs.size:=by omega
  have ed:=tK (X:=ay C ρ hp) (w:=w) (ag:=ag) (off:=f.offset) (x:=.agg cs) (vs:=vs.extract f.offset (f.offset+n)) (by simp;omega) h1 h2
   (fun j y hj hy=>by rw[qZ vs _ _ _ hj hle];exact g2 _ y hy)
  refine Q4.mk hd ak h (fun w'=>?_) (Qh.iy ed) hK;unfold execOp;simp only[ho,ex,Kaj,Instr.field,eV hu,Kah,hf,asAgg,KaK,part,th fG];cases ag with
  |true=>simp only[if_true,Kaj,gV hn,Kah,KaK]
  |false=>
   have qB:=h2 rfl;subst qB;have iq:f.offset<vs.size:=by omega
   simp only[Kbd,if_false,Kbi iq,KaK,Kah];rw[qZ vs _ _ 0 (by omega) hle];simp[Array.getD,iq]
 ·rename_i cs;obtain⟨h1,h2,hK⟩:=hv;obtain⟨vs,ex,g1,g2⟩:=hx;have hle:f.offset+n<=vs.size:=by omega
  have ed:=B8 (C:=C) (ρ:=ρ) (hp:=hp) (w:=w) (ag:=ag) (off:=f.offset) (x:=.aE cs) (vs:=vs.extract f.offset (f.offset+n)) (by simp;omega) h1 h2
   (fun j y hj hy=>by rw[qZ vs _ _ _ hj hle];exact g2 _ y hy)
  refine Q4.mk hd ak h (fun w'=>?_) ed hK;unfold execOp;simp only[ho,ex,Kaj,Instr.field,eV hu,Kah,hf,asAgg,KaK,part,th fG];cases ag with
  |true=>simp only[if_true,Kaj,gV hn,Kah,KaK]
  |false=>
   have qB:=h2 rfl;subst qB;have iq:f.offset<vs.size:=by omega
   simp only[Kbd,if_false,Kbi iq,KaK,Kah];rw[qZ vs _ _ 0 (by omega) hle];simp[Array.getD,iq]
 ·exact hv.elim
theorem Mk{o:Oper}{t:TypeId}{x i:Operand}{px pi:PV}{d:Nat}(ho:o.op= .index t x i)(hd:o.dst=some d)(ak:d<C.N)(h:Qv C ρ fr hp a.tmps w)
  (hu:C.P.underlying t=some .string) (hx:Qh C ρ hp w px (a.eval x)) (hi:Qh C ρ hp w pi (a.eval i)) (hv:oy px pi d fr hp K):Q4 C ρ o a w K:=by
 unfold oy at hv;split at hv
 ·rename_i s k m;obtain⟨h0,h1,hK⟩:=hv;have ei:=hi.gx;have ex:=hx.yY;have iq:m.toNat<s.size:=by omega
  have e0:s.get! m.toNat=s[m.toNat]'iq:=by simp[ByteArray.get!,getElem!_pos,iq];rfl
  have e1:(if 0<=m then s[m.toNat]? else none)=some (s.get! m.toNat):=by rw[if_pos h0,getElem?_pos s m.toNat iq,e0]
  refine Q4.mk hd ak h (fun w'=>?_) (Qh.mkInt _ _) hK;unfold execOp;simp only[ho,ex,ei,Kaj,Instr.index,asIntOf,eV hu,Kah,KaK,e1]
 ·exact hv.elim
theorem MM{o:Oper}{t e:TypeId}{len n:Nat}{ag:Bool}{x i:Operand}{px pi:PV}{d:Nat}(ho:o.op= .index t x i)(hd:o.dst=some d)(ak:d<C.N)(h:Qv C ρ fr hp a.tmps w)
  (hu:C.P.underlying t=some (.array len e)) (hn:cU C.P e=some n) (fG:iK C.P e=some ag) (hx:Qh C ρ hp w px (a.eval x)) (hi:Qh C ρ hp w pi (a.eval i)) (hv:rY len n ag px pi d fr hp K):Q4 C ρ o a w K:=by
 unfold rY at hv;split at hv
 ·rename_i cs k m;obtain⟨h0,ZD,h1,h2,hK⟩:=hv;have ei:=hi.gx;obtain⟨vs,ex,g1,g2⟩:=hx;have hle:m.toNat*n+n<=vs.size:=by omega
  have uL:0<=m/\m<len:=⟨h0,ZD⟩
  have ed:=tK (X:=ay C ρ hp) (w:=w) (ag:=ag) (off:=m.toNat*n) (x:=.agg cs) (vs:=vs.extract (m.toNat*n) (m.toNat*n+n)) (by simp;omega) h1 h2
   (fun j y hj hy=>by rw[qZ vs _ _ _ hj hle];exact g2 _ y hy)
  refine Q4.mk hd ak h (fun w'=>?_) (Qh.iy ed) hK;unfold execOp;simp only[ho,ex,ei,Kaj,Instr.index,asIntOf,eV hu,Kah,KaK,if_pos uL,gV hn,part,th fG];cases ag with
  |true=>simp only[if_true,Kaj,gV hn,Kah,KaK]
  |false=>
   have qB:=h2 rfl;subst qB;have iq:m.toNat*1<vs.size:=by omega
   simp only[Kbd,if_false,Kbi iq,KaK,Kah];rw[qZ vs _ _ 0 (by omega) hle];have qy:m.toNat<vs.size:=by omega
   simp[Array.getD,qy]
 ·exact hv.elim
end Go.FW
namespace Go.FW
open Go
variable {C : Ctx} {ρ : Nat -> Option Nat} {fr : Fr} {hp : HP} {w : World} {a : Act} {K : Qg}
def tX(C:Ctx)(ρ:Nat->Option Nat)(o:Oper)(a:Act)(w:World)(K:Qg):Prop:=
 ∃v b,b<w.heap.size/\(∀w',w'.heap[b]? =w.heap[b]? ->(execOp a.eval o).run C.P w'= .ok (.value v) w')/\∃aq hp',Qv C ρ aq hp' (a.put o.dst v).tmps w/\K aq hp'
theorem s4{P:Program}{t:TypeId}{n b off:Nat}{ag:Bool}{vs:Array Value}(hn:cU P t=some n)(fG:iK P t=some ag)(h1:ag=false->n=1)(hs:vs.size=n)
  (w:World) (hc:∀j,j<n->w.cell? ⟨b,off+j,none⟩=some (vs.getD j undef)):
  (loadVar t ⟨b,off,none⟩).run P w= .ok (if ag then .agg vs else vs.getD 0 undef) w:=by
 unfold loadVar;simp only[Kaj,th fG,Kah];cases ag with
 | true=>
  have hl:=run_loadCells_list (P:=P) w ⟨b,off,none⟩ vs.toList (fun j v hj=>by
   have cR:j<vs.size:=by simpa using(Kac.1 hj).1
   rw[Kbz,hc j (by omega),vW vs j v hj])
  simp only[Kb9,hs]at hl;simp only[if_true,Kaj,gV hn,Kah,hl,KaK]
 |false=>have qB:=h1 rfl;subst qB;have h0:=hc 0 (by omega);simp only[KaJ]at h0;simp only[Kbd,if_false,run_load,h0]
theorem jn{i e o j n cap:Nat}(h1:i<cap)(h2:o+n<=e)(h3:j<n):i*e+o+j<cap*e:=by have:(i+1)*e<=cap*e:=Kal e h1;rw[Kax,Nat.one_mul]at this;omega
theorem gT{w:World}{b o:Nat}{cur:Array Value}{ty:TypeId}(h:w.heap[b]? =some (.cells cur ty (0,0)))(ho:o<cur.size):w.cell? ⟨b,o,none⟩=some (cur.getD o undef):=by simp[World.cell?,h,ho,Array.getD]
theorem mA{n:Nat}{f:Nat->Value}{j:Nat}(hj:j<n):(Array.ofFn (n:=n) fun i=>f i.val).getD j undef=f j:=by simp[Array.getD,hj]
theorem Oq{o:Oper}{t:TypeId}{n:Nat}{ag:Bool}{x:Operand}{px:PV}{d:Nat}(ho:o.op= .load t x)(hd:o.dst=some d)(ak:d<C.N)(h:Qv C ρ fr hp a.tmps w)
  (hn:cU C.P t=some n) (fG:iK C.P t=some ag) (hx:Qh C ρ hp w px (a.eval x)) (hv:gQ n ag px d fr hp K):tX C ρ o a w K:=by
 have fin:∀(b off:Nat)(vs:Array Value)(p:PV),a.eval x= .pointer (some ⟨b,off,none⟩)->(ag=false->n=1)->b<w.heap.size->vs.size=n->
   (∀j,j<n->w.cell? ⟨b,off+j,none⟩=some (vs.getD j undef))->aV w (ay C ρ hp) p (if ag then .agg vs else vs.getD 0 undef)->K (ae fr d p) hp->tX C ρ o a w K:=by
  intro b off vs p ex h1 hb hs hc hr hK;refine⟨_,b,hb,fun w' mY=>?_,ae fr d p,hp,by rw[hd];exact h.ae (Qh.iy hr) ak,hK⟩;have:=s4 (P:=C.P) hn fG h1 hs w' (fun j hj=>by rw[ph mY];exact hc j hj);unfold execOp;simp only[ho,ex,Kaj,Instr.loadAt,Instr.sureAddr,KaK,Kah,this]
 unfold gQ at hv;split at hv
 ·rename_i β i o';split at hv
  ·rename_i hb ah;obtain⟨h1,h2,h3,hK⟩:=hv;obtain⟨b,cl,g1,g2,g3⟩:=hx.sP;rw[ah]at g2;cases g2;have aT:=h.own β hb ah;have aK:=aT.b8;rw[g1]at aK;obtain⟨_,iq,cur,cap,c1,c2,c3,c4,c5⟩:=aK;have dU:=Kaf h1;have dt:=(aT.len i _ dU).1;have cJ:i<cap:=by omega
   have l8:∀j,j<n->i*hb.e+o'+j<cur.size:=fun j hj=>by rw[c2];exact jn cJ h2 hj
   refine fin b (i*hb.e+o') (Array.ofFn (n:=n) fun j=>cur.getD (i*hb.e+o'+j.val) undef) _ g3 h3 iq (by simp) (fun j hj=>?_) ?_ hK
   ·rw[mA (f:=fun j=>cur.getD (i*hb.e+o'+j) undef) hj];exact gT c1 (l8 j hj)
   ·refine tK (by simp) (by rw[dt];exact h2) h3 (fun j y hj hy=>?_);rw[mA (f:=fun j=>cur.getD (i*hb.e+o'+j) undef) hj,KbJ];exact c5 i _ dU (o'+j) y hy
  ·exact hv.elim
 ·rename_i cs;obtain⟨h1,h3,hK⟩:=hv;obtain⟨b,off,ex,hpt⟩:=hx.yV;cases hpt with
  | pt _ _ _ vs hX hb ym hr=>
   refine fin b off (Array.ofFn (n:=n) fun j=>vs j.val) _ ex h3 hb (by simp) (fun j hj=>?_) ?_ hK
   ·rw[mA hj];exact ym j (by omega)
   ·refine tK (by simp) (by simpa[PV.cells]using h1) h3 (fun j y hj hy=>?_);rw[mA hj];exact hr j y (by simpa[PV.cells]using hy)
 ·rename_i β o' m;obtain⟨rfl,rfl,hK⟩:=hv;obtain⟨b,u,e1,e2,e3,e4,e5⟩:=hx;refine⟨_,b,e2,fun w' mY=>?_,ae fr d (.ao β o' m),hp,by rw[hd];exact h.ae (p:=.ao β o' m) (v:=u) e5 ak,hK⟩;have:=s4 (P:=C.P) (t:=t) (b:=b) (off:=0) (vs:= #[u]) hn fG (fun _=>rfl) rfl w' (fun j hj=>by
   obtain rfl:j=0:=by omega
   rw[ph mY];simpa using e4)
  unfold execOp;simp only[ho,e1,Kaj,Instr.loadAt,Instr.sureAddr,KaK,Kah,this];rfl
 ·rename_i γ i o';split at hv
  ·rename_i aO e ty xs af;obtain⟨rfl,h1,h2,h3,hK⟩:=hv;obtain⟨hB,b,hb,g1,g2,g3⟩:=hx.yS;have aW:=h.ch aO;rw[af]at aW;obtain⟨_,nL,b',an,cur,cap,q1,q2,q3,q4,q5,q6,q7,q8,q9,qV,nY⟩:=aW;rw[g1]at q1;cases q1;rw[g2]at q2;cases q2;rw[q4]at g3;have iq:b<w.heap.size:=(Kbq.1 q6).1;have dU:=Kaf h1;have dt:=qV i _ dU;have cJ:i<cap:=by omega
   have l8:∀j,j<n->i*e+o'+j<cur.size:=fun j hj=>by rw[q7];exact jn cJ h2 hj
   have gL:∀j,j<n->w.cell? ⟨b,i*e+o'+j,none⟩=some ((Array.ofFn (n:=n) fun j=>cur.getD (i*e+o'+j.val) undef).getD j undef):=fun j hj=>by rw[mA (f:=fun j=>cur.getD (i*e+o'+j) undef) hj];exact gT q6 (l8 j hj)
   have ed:=B8 (C:=C) (ρ:=ρ) (hp:=hp) (w:=w) (ag:=ag) (n:=n) (off:=o') (x:=xs[i]) (vs:=Array.ofFn (n:=n) fun j=>cur.getD (i*e+o'+j.val) undef) (by simp) (by rw[dt];exact h2) h3 (fun j y hj hy=>by rw[mA (f:=fun j=>cur.getD (i*e+o'+j) undef) hj,KbJ];exact nY i _ dU (o'+j) y hy);refine⟨_,b,iq,fun w' mY=>?_,ae fr d _,hp,by rw[hd];exact h.ae ed ak,hK⟩;have:=s4 (P:=C.P) (b:=b) (off:=i*e+o') (vs:=Array.ofFn (n:=n) fun j=>cur.getD (i*e+o'+j.val) undef) hn fG h3 (by simp) w' (fun j hj=>by rw[ph mY];exact gL j hj);unfold execOp;simp only[ho,g3,Kaj,Instr.loadAt,Instr.sureAddr,KaK,Kah,this]
  ·exact hv.elim
 ·exact hv.elim
theorem Gx{tmps:Array Value}(h:Qv C ρ fr hp tmps w){β b:Nat}{hb:HB}{l:List Nat}(YX:aF β=false)(ah:hp β=some hb)(hl:β∈l)(aU:ρ β=some b):¬ay C ρ (bq hp l) b:=by
 have aK:=(h.own β hb ah).b8;rw[aU]at aK;rintro(hx|⟨γ,hg,h1,h2,h3⟩)
 ·exact Ctx.xO aK.1 (rI YX) hx
 ·obtain⟨kZ,g1,_,_,_,_,g6⟩:=s8 h1;have:=h.inj γ β b (by simp[g1]) (by simp[ah]) h3 aU;subst this;exact g6 h2 hl
theorem wx{tmps:Array Value}(h:Qv C ρ fr hp tmps w){p:PV}{v:Value}{l:List Nat}(hr:cg C ρ hp w p v)(hl:∀β∈p.bb,β∈l)(hu:bS hp p≠ .undef):Qo w (ay C ρ (bq hp l)) (bS hp p) v:=by
 cases p with
 | mp β i o=>
  obtain⟨b,hb,g1,g2,rfl⟩:=hr;have qL:=hl β (by simp[PV.bb]);have aT:=h.own β hb g2;have aK:=aT.b8;rw[g1]at aK;obtain⟨_,ak,cur,cap,c1,c2,c3,c4,c5⟩:=aK;have hB:aF β=false:=by
   cases hq:aF β with
   |false=>rfl
   |true=>simp[bS,hq]at hu
  simp only[bS,g2,hB]at hu⊢;cases hx:hb.xs[i]? with
  |none=>simp[hx]at hu
  | some x=>
   simp only[Kbd,if_false];have hi:i<hb.xs.length:=(Kac.1 hx).1;have dt:=(aT.len i x hx).1;refine Qo.pt _ b _ (fun j=>cur.getD (i*hb.e+o+j) undef) (Gx h hB g2 qL g1) ak (fun j hj=>?_) (fun j y hy=>?_)
   ·have cR:o+(j+1)<=hb.e:=by simp[dt]at hj;omega
    exact gT c1 (by rw[c2];exact jn (by omega) cR (Kcb j))
   ·rw[KaO]at hy;rw[KbJ];exact(c5 i x hx (o+j) y hy).freeze
 | ao β o n=>
  obtain⟨hb,g1,g2,g3⟩:=hr;have hB:aF β=false:=by
   cases hq:aF β with
   |false=>rfl
   |true=>simp[bS,hq]at hu
  simp only[bS,g1,hB];rcases g3 with⟨g3,rfl,rfl,rfl⟩|⟨b,cap,g3,rfl,g5,g6⟩
  ·simp only[Kb0];exact .gB _ _ _ (KbE _)
  ·have qL:=hl β (by simp[PV.bb]);have aT:=h.own β hb g1;have aK:=aT.b8;rw[g3]at aK;obtain⟨_,ak,cur,di,c1,c2,c3,c4,c5⟩:=aK;obtain⟨cur',ty',d1,d2⟩:=g5;rw[c1]at d1;cases d1;have fb:o+cap=di:=by rw[c2]at d2;exact(Kbr aT.gh d2).symm
   subst fb;have hlen:((hb.xs.drop o).take n).length=n:=by simp;omega
   have dj:∀(i:Nat)(x:PV),((hb.xs.drop o).take n)[i]? =some x->i<n/\hb.xs[o+i]? =some x:=fun i x hx=>by
    have hi:i<n:=by have:=(Kac.1 hx).1;omega
    rw[Kav hi,KaO]at hx;exact⟨hi,hx⟩
   have:=Qo.sl (w:=w) (X:=ay C ρ (bq hp l)) hb.e ((hb.xs.drop o).take n) b (o*hb.e) cap (fun i j=>cur.getD ((o+i)*hb.e+j) undef) (Gx h hB g1 qL g3) ak (by omega) (by omega)
    (fun i x hx=>(aT.len _ x (dj i x hx).2).1)
    (fun i hi j hj=>by rw[hlen]at hi;have:=jn (i:=o+i) (e:=hb.e) (o:=0) (j:=j) (n:=hb.e) (cap:=o+cap) (by omega) (by omega) hj;rw[KaJ]at this;rw[show o*hb.e+i*hb.e+j=(o+i)*hb.e+j by rw[Kax]];exact gT c1 (by rw[c2];exact this))
    (fun i x hx j y hy=>(c5 _ x (dj i x hx).2 j y hy).freeze)
   rwa[hlen]at this
 |undef=>simp[bS]at hu
 |rb=>simp[bS]at hu
 |aB=>simp[bS]at hu
 |np=>simp[bS]at hu
 |aE=>simp[bS]at hu
 |cW=>simp[bS]at hu
 |cj=>simp[bS]at hu
 |az=>simp[bS]at hu
 |_=>exact Qo.freeze hr
theorem Ji{p:PV}(h:p.eK=true):p≠ .undef:=by cases p<;>simp[PV.eK]at h⊢
theorem HL{p:PV}(h:p.ax=true):p≠ .undef:=by cases p<;>simp[PV.ax]at h⊢
theorem my{tmps:Array Value}(h:Qv C ρ fr hp tmps w){p:PV}{v:Value}{l:List Nat}(hr:Qh C ρ hp w p v)(hl:∀β∈p.refs,β∈l)(hd:(Qy hp p).ax=true):aV w (ay C ρ (bq hp l)) (Qy hp p) v:=by
 cases p with
 | fn f first cap=>
  obtain⟨fv,cv,rfl,h1,h2,h3,h4⟩:=hr;simp only[Qy,PV.ax,Kbb,KaB,KaM,forall_exists_index,and_imp,forall_apply_eq_imp_iff₂]at hd;refine Qo.fn f _ _ fv cv (by simp[h1]) (by simp[h2]) (fun i x hx=>?_) (fun i x hx=>?_)
  ·simp only[Kap,Kaa]at hx;obtain⟨y,hy,rfl⟩:=hx;exact wx h (h3 i y hy) (fun β ah=>hl β (Az hy β ah)) (Ji (hd.1 y (Kag hy)))
  ·simp only[Kap,Kaa]at hx;obtain⟨y,hy,rfl⟩:=hx;exact wx h (h4 i y hy) (fun β ah=>hl β (AG hy β ah)) (Ji (hd.2 y (Kag hy)))
 |mp β i o=>exact aV.mr (wx (p:=.mp β i o) h hr hl (HL hd))
 |ao β o n=>exact aV.mr (wx (p:=.ao β o n) h hr hl (HL hd))
 |undef=>simp[Qy,bS,PV.ax]at hd
 |rb=>simp[Qy,bS,PV.ax]at hd
 |aB=>simp[Qy,bS,PV.ax]at hd
 |np=>simp[Qy,bS,PV.ax]at hd
 |aE=>simp[Qy,bS,PV.ax]at hd
 |cW=>simp[Qy,bS,PV.ax]at hd
 |cj=>simp[Qy,bS,PV.ax]at hd
 |az=>simp[Qy,bS,PV.ax]at hd
 |aJ ps=>simp[Qy,bS,PV.ax]at hd
 |agg cs=>exact aV.mono (p:=.agg cs) hr (fun _ _ _=>rfl) (fun _ _ hn hx=>hn (AT hx)) (Kae _)
 |_=>exact Qo.freeze hr
end Go.FW
namespace Go.FW
open Go
variable {C : Ctx} {ρ : Nat -> Option Nat} {fr : Fr} {hp : HP} {w : World} {a : Act} {K : Qg}
theorem n8{x:Option Operand}{y:Option aD}{JT n:Int}(h:Qv C ρ fr hp a.tmps w)(ho:j1 x=some y)(hb:eW JT (y.map (ev fr))=some n):
  (x=none/\y=none/\n=JT)∨∃z k,x=some z/\a.eval z= .int k n/\y.isSome=true:=by
 cases x with
 |none=>simp[j1]at ho;subst ho;simp[eW]at hb;exact .inl ⟨rfl,rfl,hb.symm⟩
 | some z=>
  simp only[j1,Kaa]at ho;obtain⟨u,hu,rfl⟩:=ho;have hr:=bR h hu;simp only[KbL]at hb;cases hp':ev fr u with
  |int k m=>rw[hp']at hb hr;simp[eW]at hb;subst hb;exact .inr ⟨z,k,rfl,hr.gx,rfl⟩
  |_=>rw[hp']at hb;simp[eW]at hb
theorem pe{P:Program}{k:IntKind}{i:Int}{y:Nat}{code:BoundsCode}(h0:0<=i)(h1:i<=y)(w:World):(Instr.sliceBound (.int k i) y code).run P w= .ok i.toNat w:=by
 unfold Instr.sliceBound;have:0<=i/\i<=y:=⟨h0,h1⟩
 simp only[asIntOf,Kaj,KaK,Kah,if_pos this]
theorem v3{P:Program}{len cap:Nat}{lo hi mx:Option Operand}{L H M:Int}(eval:Operand->Value)
  (hL:(lo=none/\L=0)∨∃z k,lo=some z/\eval z= .int k L)
  (hH:(hi=none/\H=len)∨∃z k,hi=some z/\eval z= .int k H)
  (hM:(mx=none/\M=len)∨∃z k,mx=some z/\eval z= .int k M) (hm:mx.isSome=true->hi.isSome=true)
  (h0:0<=L) (h1:L<=H) (h2:H<=M) (h3:M<=len) (h4:len<=cap):
  ∃m,L.toNat<=m/\H.toNat<=m/\m<=cap/\(mx=none->m=cap)/\∀w,(Instr.sliceBounds true len cap (lo.map eval) (hi.map eval) (mx.map eval)).run P w= .ok (L.toNat,H.toNat,m) w:=by
 have c1:H<=(cap:Int):=by omega
 rcases hM with⟨rfl,hM⟩|⟨zm,km,rfl,hM⟩
 ·refine⟨cap,by omega,by omega,Kae _,fun _=>rfl,fun w=>?_⟩;rcases hH with⟨rfl,hH⟩|⟨zh,kh,rfl,hH⟩<;>rcases hL with⟨rfl,hL⟩|⟨zl,kl,rfl,hL⟩
  ·subst hH;subst hL;simp[Instr.sliceBounds,Kaj]
  ·subst hH;have e:=pe (P:=P) (k:=kl) (code:=.sliceB) (y:=len) h0 h1;simp[Instr.sliceBounds,Kaj,hL,e]
  ·subst hL;have e:=pe (P:=P) (k:=kh) (code:=.sliceAcap) (y:=cap) (by omega) c1;simp[Instr.sliceBounds,Kaj,hH,e]
  ·have e:=pe (P:=P) (k:=kh) (code:=.sliceAcap) (y:=cap) (by omega) c1;have e2:=pe (P:=P) (k:=kl) (code:=.sliceB) (y:=H.toNat) h0 (by omega);simp[Instr.sliceBounds,Kaj,hH,hL,e,e2]
 ·rcases hH with⟨rfl,hH⟩|⟨zh,kh,rfl,hH⟩
  ·simp at hm
  have e:=pe (P:=P) (k:=km) (code:=.slice3Acap) (y:=cap) (i:=M) (by omega) (by omega);have e1:=pe (P:=P) (k:=kh) (code:=.slice3B) (y:=M.toNat) (i:=H) (by omega) (by omega);refine⟨M.toNat,by omega,by omega,by omega,fun h=>by simp at h,fun w=>?_⟩;rcases hL with⟨rfl,hL⟩|⟨zl,kl,rfl,hL⟩
  ·subst hL;simp[Instr.sliceBounds,Kaj,hH,hM,e,e1]
  ·have e2:=pe (P:=P) (k:=kl) (code:=.slice3C) (y:=H.toNat) (i:=L) h0 (by omega);simp[Instr.sliceBounds,Kaj,hH,hM,hL,e,e1,e2]
theorem vS{P:Program}{t e:TypeId}{n len cap l h m:Nat}{ad:Option Addr}{lo hi mx:Option Value}(hu:P.underlying t=some (.slice e))(hn:cU P e=some n)(w:World)
  (hb:(Instr.sliceBounds true len cap lo hi mx).run P w= .ok (l,h,m) w):
  (Instr.sliceAt t (.slice ad len cap) lo hi mx).run P w= .ok (.slice (if m=l then ad else ad.map (·.add (l*n))) (h-l) (m-l)) w:=by
 unfold Instr.sliceAt Instr.slice;simp only[Kaj,eV hu,Kah,hb,gV hn,KaK]
theorem Gh{xs:List PV}{H L i:Nat}{x:PV}(hx:((xs.take H).drop L)[i]? =some x):xs[L+i]? =some x/\L+i<H:=by
 rw[KaO]at hx;have hi:L+i<H:=by have:=(Kac.1 hx).1;simp at this;omega
 rw[Kav hi]at hx;exact⟨hx,hi⟩
theorem Qo.part{X:Nat->Prop}{e:Nat}{xs:List PV}{ad:Option Addr}{cap L H m:Nat}(h:Qo w X (.sl e xs) (.slice ad xs.length cap))(h1:L<=H)(h2:H<=xs.length)(h3:H<=m)(h4:m<=cap):
  Qo w X (.sl e ((xs.take H).drop L)) (.slice (if m=L then ad else ad.map (·.add (L*e))) (H-L) (m-L)):=by
 by_cases he:H=L
 ·subst he;have:(xs.take H).drop H=[]:=List.drop_eq_nil_of_le (by simp;omega);rw[this,KbA];refine .gB _ _ _ ?_;cases h with
  |gB _ _ _ hc=>omega
  |sl _ _ b off _ vs hX hb hl hc=>omega
 ·have hlen:((xs.take H).drop L).length=H-L:=by simp;omega
  cases h with
  |gB=>simp at h2;omega
  | sl _ _ b off _ vs hX hb hl hc he' hv hr=>
   have hm:¬m=L:=by omega
   rw[if_neg hm];simp only[KbL,Kbz];have:=Qo.sl (w:=w) (X:=X) e ((xs.take H).drop L) b (off+L*e) (m-L) (fun i j=>vs (L+i) j) hX hb (by omega) (by omega)
    (fun i x hx=>he' _ x (Gh hx).1)
    (fun i hi j hj=>by have:=hv (L+i) (by omega) j hj;rw[show off+L*e+i*e+j=off+(L+i)*e+j by rw[Kax];omega];exact this)
    (fun i x hx j y hy=>hr _ x (Gh hx).1 j y hy)
   rwa[hlen]at this
theorem Ot{o:Oper}{t e:TypeId}{n:Nat}{x:Operand}{px:PV}{lo hi mx:Option Operand}{yU vB vC:Option aD}{d:Nat}(ho:o.op= .slice t x lo hi mx)(hd:o.dst=some d)(ak:d<C.N)(h:Qv C ρ fr hp a.tmps w)
  (hu:C.P.underlying t=some (.slice e)) (hn:cU C.P e=some n) (hx:Qh C ρ hp w px (a.eval x)) (mR:j1 lo=some yU) (oX:j1 hi=some vB) (qA:j1 mx=some vC)
  (hv:fh n px (yU.map (ev fr)) (vB.map (ev fr)) (vC.map (ev fr)) d fr hp K):Q4 C ρ o a w K:=by
 have ix:∀ {x:Option Operand} {y:Option aD},j1 x=some y->(x.isSome=true↔y.isSome=true):=by
  intro x y vn;cases x with
  |none=>simp[j1]at vn;subst vn;simp
  |some z=>simp only[j1,Kaa]at vn;obtain⟨u,_,rfl⟩:=vn;simp
 have common:∀(hp':HP)(xs:List PV)(len cap:Nat)(ad:Option Addr)(L H M:Int),Qv C ρ fr hp' a.tmps w->len=xs.length->a.eval x= .slice ad len cap->len<=cap->
   Qo w (ay C ρ hp') (.sl n xs) (.slice ad xs.length cap)->eW 0 (yU.map (ev fr))=some L->eW len (vB.map (ev fr))=some H->eW len (vC.map (ev fr))=some M->
   0<=L->L<=H->H<=M->M<=len->((vC.map (ev fr)).isSome=true->(vB.map (ev fr)).isSome=true)->K (ae fr d (.sl n ((xs.take H.toNat).drop L.toNat))) hp'->Q4 C ρ o a w K:=by
  intro hp' xs len cap ad L H M hs hl ex cJ hr bL bH bM h0 h1 h2 h3 hm hK;have e1:=n8 h mR bL;have e2:=n8 h oX bH;have e3:=n8 h qA bM;obtain⟨m,q1,q2,q3,_,q4⟩:∃m,L.toNat<=m/\H.toNat<=m/\m<=cap/\(mx=none->m=cap)/\∀w',(Instr.sliceBounds true len cap (lo.map a.eval) (hi.map a.eval) (mx.map a.eval)).run C.P w'= .ok (L.toNat,H.toNat,m) w':=by
   refine v3 (P:=C.P) a.eval ?_ ?_ ?_ (fun hq=>(ix oX).2 (by simpa using hm (by simpa using(ix qA).1 hq))) h0 h1 h2 h3 cJ
   ·rcases e1 with⟨q1,_,q3⟩|⟨z,k,q1,q2,_⟩
    ·exact .inl ⟨q1,q3⟩
    ·exact .inr ⟨z,k,q1,q2⟩
   ·rcases e2 with⟨q1,_,q3⟩|⟨z,k,q1,q2,_⟩
    ·exact .inl ⟨q1,q3⟩
    ·exact .inr ⟨z,k,q1,q2⟩
   ·rcases e3 with⟨q1,_,q3⟩|⟨z,k,q1,q2,_⟩
    ·exact .inl ⟨q1,q3⟩
    ·exact .inr ⟨z,k,q1,q2⟩
  have hp:=hr.part (L:=L.toNat) (H:=H.toNat) (m:=m) (by omega) (by omega) q2 q3;refine⟨_,fun w'=>?_,ae fr d _,hp',by rw[hd];exact hs.ae (Qh.iy (aV.mr hp)) ak,hK⟩;unfold execOp;simp only[ho,ex,Kaj,vS hu hn w' (q4 w'),Kah];rfl
 unfold fh at hv;split at hv
 ·
  split at hv
  ·rename_i L H M bL bH bM;obtain⟨rfl,rfl,rfl,hm,hK⟩:=hv;have ex:=hx.qT;refine Q4.mk hd ak h (p:=.aa) (v:=.slice none 0 0) (fun w'=>?_) Qo.aa hK;have e1:=n8 h mR bL;have e2:=n8 h oX bH;have e3:=n8 h qA bM;obtain⟨m,q1,q2,q3,_,q4⟩:∃m,(0:Int).toNat<=m/\(0:Int).toNat<=m/\m<=0/\(mx=none->m=0)/\∀w',(Instr.sliceBounds true 0 0 (lo.map a.eval) (hi.map a.eval) (mx.map a.eval)).run C.P w'= .ok ((0:Int).toNat,(0:Int).toNat,m) w':=by
    refine v3 (P:=C.P) a.eval ?_ ?_ ?_ (fun hq=>(ix oX).2 (by simpa using hm (by simpa using(ix qA).1 hq))) (Int.le_refl _) (Int.le_refl _) (Int.le_refl _) (by simp) (Kae _)
    ·rcases e1 with⟨q1,_,q3⟩|⟨z,k,q1,q2,_⟩
     ·exact .inl ⟨q1,q3⟩
     ·exact .inr ⟨z,k,q1,q2⟩
    ·rcases e2 with⟨q1,_,q3⟩|⟨z,k,q1,q2,_⟩
     ·exact .inl ⟨q1,by simp⟩
     ·exact .inr ⟨z,k,q1,q2⟩
    ·rcases e3 with⟨q1,_,q3⟩|⟨z,k,q1,q2,_⟩
     ·exact .inl ⟨q1,by simp⟩
     ·exact .inr ⟨z,k,q1,q2⟩
   obtain rfl:m=0:=by omega
   unfold execOp;simp only[ho,ex,Kaj,vS hu hn w' (q4 w'),Kah];rfl
  ·exact hv.elim
 ·rename_i e' xs;split at hv
  ·rename_i L H M bL bH bM;obtain⟨rfl,h0,h1,h2,h3,hm,hK⟩:=hv;obtain⟨ad,cap,ex,qp,fq⟩:=hx.Lt;have aG:Qo w (ay C ρ hp) (.sl e' xs) (a.eval x):=hx;rw[ex]at aG;exact common hp xs _ cap ad L H M h rfl ex qp aG bL bH bM h0 h1 h2 h3 hm hK
  ·exact hv.elim
 ·rename_i β o' m;cases vC with
  |some zm=>revert hv;split<;>simp_all
  |none=>
  split at hv
  ·rename_i L H bL bH bM;obtain⟨he,h0,h1,h2,h3,hK⟩:=hv;have m0:mx=none:=by cases mx<;>simp[j1]at qA⊢
   subst m0;have e1:=n8 h mR bL;have e2:=n8 h oX bH;obtain⟨hb,g1,g2,g3⟩:=hx;rw[g1]at he;simp only[KbL,Kaq]at he;have hL:(lo=none/\L=0)∨∃z k,lo=some z/\a.eval z= .int k L:=by
    rcases e1 with⟨q1,_,q3⟩|⟨z,k,q1,q2,_⟩
    ·exact .inl ⟨q1,q3⟩
    ·exact .inr ⟨z,k,q1,q2⟩
   have hH:(hi=none/\H=(m:Int))∨∃z k,hi=some z/\a.eval z= .int k H:=by
    rcases e2 with⟨q1,_,q3⟩|⟨z,k,q1,q2,_⟩
    ·exact .inl ⟨q1,q3⟩
    ·exact .inr ⟨z,k,q1,q2⟩
   rcases g3 with⟨g3,ex,rfl,rfl⟩|⟨b,cap,g3,ex,g5,g6⟩
   ·obtain⟨m',q1,q2,q3,_,q4⟩:=v3 (P:=C.P) (len:=0) (cap:=0) (mx:=none) (M:=0) a.eval hL hH (.inl ⟨rfl,rfl⟩) (by simp) h0 h1 h2 (by simp) (Kae _);have ZL:H.toNat=0:=by omega
    have qj:L.toNat=0:=by omega
    have qz:m'=0:=by omega
    refine Q4.mk hd ak h (v:=.slice none 0 0) (fun w'=>?_) ?_ hK
    ·unfold execOp;simp only[ho,ex,Kaj,vS hu hn w' (q4 w'),Kah];simp[ZL,qz,qj]
    ·exact⟨hb,g1,by omega,.inl ⟨g3,rfl,by omega,by omega⟩⟩
   ·have cJ:m<=cap:=by have aK:=(h.own β hb g1).b8;rw[g3]at aK;obtain⟨_,_,cur,di,c1,c2,c3,c4,c5⟩:=aK;obtain⟨cur',ty',d1,d2⟩:=g5;rw[c1]at d1;cases d1;rw[c2]at d2;have:=Kbr (h.own β hb g1).gh d2;omega
    obtain⟨m',q1,q2,q3,q5,q4⟩:=v3 (P:=C.P) (len:=m) (cap:=cap) (mx:=none) (M:=(m:Int)) a.eval hL hH (.inl ⟨rfl,rfl⟩) (by simp) h0 h1 h2 (Int.le_refl _) cJ;obtain rfl:=q5 rfl;refine Q4.mk hd ak h (v:=.slice (some ⟨b,(o'+L.toNat)*hb.e,none⟩) (H.toNat-L.toNat) (m'-L.toNat)) (fun w'=>?_) ?_ hK
    ·unfold execOp;simp only[ho,ex,Kaj,vS hu hn w' (q4 w'),Kah];congr 1;by_cases hz:L=0
     ·subst hz;simp[Addr.add_zero']
     ·rw[if_neg (by omega)];simp[Kbz,he,Kax]
    ·exact⟨hb,g1,by omega,.inr ⟨b,m'-L.toNat,g3,rfl,by rw[show o'+L.toNat+(m'-L.toNat)=o'+m' by omega];exact g5,by omega⟩⟩
  ·exact hv.elim
 ·exact hv.elim
end Go.FW
namespace Go.FW
open Go
variable {C : Ctx} {ρ : Nat -> Option Nat} {fr : Fr} {hp : HP} {w : World} {a : Act} {K : Qg}
def lL(Q:PV->Value->Prop)(ps:List PV)(vs:Array Value):Prop:=vs.size=ps.length/\∀(i:Nat)(x:PV),ps[i]? =some x->Q x (vs.getD i undef)
abbrev Rows(w:World)(X:Nat->Prop)(ps:List PV)(vs:Array Value):Prop:=lL (Qo w X) ps vs
theorem Iz(off:Nat):∀(l:List Value)(s:Nat)(cs:Array Value),
  ((l.zipIdx s).foldl (fun cs (p:Value×Nat)=>cs.setIfInBounds (off+p.2) p.1) cs).size=cs.size/\
  ∀k,k<cs.size->((l.zipIdx s).foldl (fun cs (p:Value×Nat)=>cs.setIfInBounds (off+p.2) p.1) cs).getD k undef=if off+s<=k/\k<off+s+l.length then l.getD (k-off-s) undef else cs.getD k undef
 | [],s,cs=>by refine⟨rfl,fun k hk=>?_⟩;simp only[List.zipIdx_nil,List.foldl_nil,Kbo,KaJ];rw[if_neg (by omega)]
 | c::l,s,cs=>by
  obtain⟨h1,h2⟩:=Iz off l (s+1) (cs.setIfInBounds (off+s) c);simp only[List.zipIdx_cons,List.foldl_cons];refine⟨by rw[h1];simp,fun k hk=>?_⟩;rw[h2 k (by simpa using hk)];by_cases hks:k=off+s
  ·subst hks;rw[if_neg (by omega),if_pos (by simp)];simp[Array.getD,hk]
  ·by_cases hr:off+(s+1)<=k/\k<off+(s+1)+l.length
   ·rw[if_pos hr,if_pos (by simp;omega)];have:k-off-s=(k-off-(s+1))+1:=by omega
    rw[this];simp
   ·rw[if_neg hr,if_neg (by simp;omega)];simp only[KaA];rw[Kb5 (by omega)]
theorem XD(cs:Array Value)(v:Array Value)(off:Nat):
  v.zipIdx.foldl (fun cs (x:Value×Nat)=>match x with|(c,j)=>cs.setIfInBounds (off+j) c) cs=(v.toList.zipIdx).foldl (fun cs (p:Value×Nat)=>cs.setIfInBounds (off+p.2) p.1) cs:=by
 rw[<-Array.foldl_toList,Array.toList_zipIdx]
theorem lL.Zx{Q:PV->Value->Prop}{ps qs:List PV}{vs us:Array Value}{off:Nat}(h:lL Q ps vs)(hq:lL Q qs us)(hle:off+qs.length<=ps.length):
  lL Q (ps.take off++qs++ps.drop (off+qs.length)) (us.zipIdx.foldl (fun cs (x:Value×Nat)=>match x with|(c,j)=>cs.setIfInBounds (off+j) c) vs):=by
 obtain⟨h1,h2⟩:=h;obtain⟨q1,q2⟩:=hq;rw[XD];obtain⟨f1,f2⟩:=Iz off us.toList 0 vs;refine⟨by rw[f1,h1];simp;omega,fun i x hx=>?_⟩;have hi:i<ps.length:=by have:=(Kac.1 hx).1;simp at this;omega
 rw[f2 i (by omega)];simp only[KaJ,Kb9,KbX];rw[Kbs,KaN]at hx;by_cases c1:i<off
 ·rw[if_neg (by omega)];rw[if_pos (by simp;omega),Kav c1]at hx;exact h2 i x hx
 ·rw[if_neg (by simp;omega)]at hx;have ht:(ps.take off).length=off:=by simp;omega
  rw[ht,KaN]at hx;by_cases c2:i-off<qs.length
  ·rw[if_pos c2]at hx;rw[if_pos (by omega)];have:=q2 _ _ hx
   rwa[show us.toList.getD (i-off) undef=us.getD (i-off) undef by simp[KaA]]
  ·rw[if_neg c2,KaO]at hx;rw[if_neg (by omega)];rw[show off+qs.length+(i-off-qs.length)=i by omega]at hx;exact h2 i x hx
theorem v5{Q:PV->Value->Prop}(place:Nat->Option (Nat×Nat)):∀(parts:List (Nat×Value))(qs:List (Nat×List PV))(ps:List PV)(vs:Array Value),lL Q ps vs->parts.length=qs.length->
  (∀(i:Nat)(p:Nat×Value)(q:Nat×List PV),parts[i]? =some p->qs[i]? =some q->place p.1=some (q.1,q.2.length)/\lL Q q.2 p.2.cells/\q.1+q.2.length<=ps.length)->
  ∃cN,Instr.fill place vs parts=some cN/\lL Q (eZ ps qs) cN
 | [],[],ps,vs,h,_,_=>⟨vs,rfl,h⟩
 | [],q::qs,_,_,_,hl,_=>by simp at hl
 |p::parts,[],_,_,_,hl,_=>by simp at hl
 | (i,v)::parts,(off,xs)::qs,ps,vs,h,hl,hp=>by
  obtain⟨h1,h2,h3⟩:=hp 0 (i,v) (off,xs) rfl rfl;have dL:v.cells.size=xs.length:=h2.1;have hn:¬((v.cells.size≠xs.length||decide (off+v.cells.size>vs.size))=true):=by have:=h.1;simp only[KbF,decide_eq_true_eq,not_or];exact⟨by simp[dL],by rw[dL,this];simp only at h3;omega⟩
  have hlen:(ps.take off++xs++ps.drop (off+xs.length)).length=ps.length:=by simp;simp only at h3;omega
  obtain⟨cN,g1,g2⟩:=v5 place parts qs _ _ (h.Zx h2 h3) (by simpa using hl) (fun j p q hpj hqj=>by obtain⟨k1,k2,k3⟩:=hp (j+1) p q (by simpa using hpj) (by simpa using hqj);exact⟨k1,k2,by rw[hlen];exact k3⟩);refine⟨cN,?_,g2⟩;unfold Instr.fill;simp only[h1];rw[if_neg hn];exact g1
theorem aV.rows{X:Nat->Prop}{p:PV}{v:Value}(h:aV w X p v):Rows w X p.cells v.cells:=h.cells
theorem nn{P:Program}{t:TypeId}{n by_:Nat}{z:PV}(h:fZ P t=some (n,by_,z)):∃(i:TypeInfo)(zv:Value),P.info? t=some i/\i.zero=some zv/\i.size=n/\i.bytes=by_/\nk zv=some z:=by simp only[fZ,Kab,Kaa,Prod.mk.injEq]at h;obtain⟨i,h1,zv,h2,p,h3,h4,h5,h6⟩:=h;subst h6;exact⟨i,zv,h1,h2,h4,h5,h3⟩
theorem pg{P:Program}{t:TypeId}{i:TypeInfo}{zv:Value}(h1:P.info? t=some i)(h2:i.zero=some zv)(w:World):(zeroValue t).run P w= .ok zv w:=by simp[zeroValue,typeInfo,h1,h2]
theorem HM{parts:List (Nat×Operand)}{ps:List (Nat×Nat×aD)}{f:Nat×Operand->Option (Nat×Nat×aD)}(h:parts.mapM f=some ps){eval:Operand->Value}{i:Nat}{p:Nat×Value}{q:Nat×Nat×aD}
  (h1:(parts.map fun x=>(x.1,eval x.2))[i]? =some p) (h2:ps[i]? =some q):∃x,parts[i]? =some x/\f x=some q/\p=(x.1,eval x.2):=by
 obtain⟨x,hx,hf⟩:=(iz h).2 i q h2;refine⟨x,hx,hf,?_⟩;simp only[Kap,hx,KbL,Kaq]at h1;exact h1.symm
theorem MN{o:Oper}{t:TypeId}{parts:Array (Nat×Operand)}{z:PV}{n by_:Nat}{ps:List (Nat×Nat×aD)}{d:Nat}(ho:o.op= .build t parts)(hd:o.dst=some d)(ak:d<C.N)(h:Qv C ρ fr hp a.tmps w)
  (hz:fZ C.P t=some (n,by_,z)) (dC:tW C.P t parts.toList=some ps)
  (hv:xI z.cells (ps.map fun p=>(p.1,p.2.1,ev fr p.2.2)) d fr hp K):Q4 C ρ o a w K:=by
 obtain⟨bQ,hK⟩:=hv;obtain⟨ti,zv,i1,i2,i3,i4,i5⟩:=nn hz;have EG:Rows w (ay C ρ (bq hp ((ps.map fun p=>(p.1,p.2.1,ev fr p.2.2)).flatMap fun p=>p.2.2.refs))) z.cells zv.cells:=(na i5).rows;have mP:(parts.map fun(x:Nat×Operand)=>(x.1,a.eval x.2)).toList=parts.toList.map fun x=>(x.1,a.eval x.2):=by simp
 have key:∀(f:Nat×Operand->Option (Nat×Nat×aD))(place:Nat->Option (Nat×Nat)),parts.toList.mapM f=some ps->(∀x q,f x=some q->place x.1=some (q.1,q.2.1)/\bp x.2=some q.2.2)->
   ∃cN,Instr.fill place zv.cells (parts.map fun(x:Nat×Operand)=>(x.1,a.eval x.2)).toList=some cN/\
    Rows w (ay C ρ (bq hp ((ps.map fun p=>(p.1,p.2.1,ev fr p.2.2)).flatMap fun p=>p.2.2.refs))) (eZ z.cells ((ps.map fun p=>(p.1,p.2.1,ev fr p.2.2)).map fun p=>(p.1,(Qy hp p.2.2).cells))) cN:=by
  intro f place hm hf;rw[mP];refine v5 place _ _ _ _ EG (by simp[(iz hm).1]) (fun i p q sH oZ=>?_);simp only[List.map_map,Kap,Kaa]at oZ;obtain⟨q0,gJ,rfl⟩:=oZ;obtain⟨x,hx,kp,rfl⟩:=HM hm sH gJ;obtain⟨f1,f2⟩:=hf x q0 kp;obtain⟨o1,o2,o3⟩:=bQ (q0.1,q0.2.1,ev fr q0.2.2) (KaM.2 ⟨q0,Kag gJ,rfl⟩);simp only[Function.comp]at o1 o2 o3⊢;refine⟨by rw[o2];exact f1,?_,by rw[o2];exact o3⟩;exact(my h (bR h f2) (fun β ah=>Kam.2 ⟨_,KaM.2 ⟨q0,Kag gJ,rfl⟩,ah⟩) o1).rows
 have fin:∀cN,(∀w',(Instr.build t (parts.map fun(x:Nat×Operand)=>(x.1,a.eval x.2))).run C.P w'= .ok (.agg cN) w')->
   Rows w (ay C ρ (bq hp ((ps.map fun p=>(p.1,p.2.1,ev fr p.2.2)).flatMap fun p=>p.2.2.refs))) (eZ z.cells ((ps.map fun p=>(p.1,p.2.1,ev fr p.2.2)).map fun p=>(p.1,(Qy hp p.2.2).cells))) cN->Q4 C ρ o a w K:=by
  intro cN bz hr;refine⟨.agg cN,fun w'=>?_,_,_,by rw[hd];exact(h.freeze _).ae (p:=.agg _) ⟨cN,rfl,hr.1,hr.2⟩ ak,hK⟩;unfold execOp;simp only[ho,Kaj];have:=bz w';rw[show(parts.map fun(x:Nat×Operand)=>(x.1,a.eval x.2))=(parts.map fun x=>match x with|(i,x)=>(i,a.eval x))from rfl]at this;rw[this];rfl
 unfold tW at dC;split at dC
 ·rename_i fs hu;simp only[Kab]at dC;obtain⟨pl,cK,hm⟩:=dC;obtain⟨cN,g1,g2⟩:=key _ (fun i=>pl[i]?) hm (fun x q hq=>by simp only[Kab,Kaa]at hq;obtain⟨r,hr,y,hy,rfl⟩:=hq;exact⟨by simpa using hr,hy⟩);refine fin cN (fun w'=>?_) g2;unfold Instr.build;have eJ:=run_places (P:=C.P) w' fs.toList pl cK;simp[Kaj,pg i1 i2,eV hu,Kbj,eJ]at g1⊢;simp[g1]
 ·rename_i len e hu;simp only[Kab]at dC;obtain⟨m,qz,hm⟩:=dC;obtain⟨cN,g1,g2⟩:=key _ (fun i=>some (i*m,m)) hm (fun x q hq=>by simp only[Kaa]at hq;obtain⟨y,hy,rfl⟩:=hq;exact⟨rfl,hy⟩);refine fin cN (fun w'=>?_) g2;unfold Instr.build;simp only[Kaj,pg i1 i2,eV hu,gV qz,Kah,g1,KaK]
 ·simp at dC
theorem BN{xs:List Operand}{ys:List aD}(h:Qv C ρ fr hp a.tmps w)(hm:xs.mapM bp=some ys):(ys.map (ev fr)).length=xs.length/\∀(i:Nat)(x:PV),(ys.map (ev fr))[i]? =some x->Qh C ρ hp w x ((xs.map a.eval).toArray.getD i undef):=by
 obtain⟨h1,h2⟩:=iz hm;refine⟨by simp[h1],fun i x hx=>?_⟩;simp only[Kap,Kaa]at hx;obtain⟨y,hy,rfl⟩:=hx;obtain⟨z,hz,ho⟩:=h2 i y hy;have e:((xs.map a.eval).toArray.getD i undef)=a.eval z:=by simp[KaA,Kap,hz]
 rw[e];exact bR h ho
theorem Qh.Lu{p:PV}{v:Value}(h:Qh C ρ hp w p v)(hc:p.gO=true):cg C ρ hp w p v:=by cases p<;>first|exact h|simp[PV.gO]at hc
theorem Ou{o:Oper}{f:FuncId}{first cap:Array Operand}{pf pc:List aD}{d:Nat}(ho:o.op= .makeFunc (.func f) first cap)(hd:o.dst=some d)(ak:d<C.N)(h:Qv C ρ fr hp a.tmps w)
  (h1:first.toList.mapM bp=some pf) (h2:cap.toList.mapM bp=some pc)
  (hv:(pf.map (ev fr)++pc.map (ev fr)).all PV.gO=true/\K (ae fr d (.fn f (pf.map (ev fr)) (pc.map (ev fr)))) hp):Q4 C ρ o a w K:=by
 obtain⟨hc,hK⟩:=hv;rw[KaB]at hc;obtain⟨f1,f2⟩:=BN h h1;obtain⟨c1,c2⟩:=BN h h2;refine Q4.mk hd ak h (v:=.func (.func f) (first.map a.eval) (cap.map a.eval)) (fun w'=>?_) ?_ hK
 ·unfold execOp;simp only[ho,Kaj,Instr.makeFunc,KaK,Kah]
 ·refine⟨_,_,rfl,by simpa using f1.symm,by simpa using c1.symm,fun i x hx=>?_,fun i x hx=>?_⟩
  ·have:=f2 i x hx;rw[show(first.toList.map a.eval).toArray=first.map a.eval from Array.ext' (by simp)]at this;exact this.Lu (hc x (KbQ _ (Kag hx)))
  ·have:=c2 i x hx;rw[show(cap.toList.map a.eval).toArray=cap.map a.eval from Array.ext' (by simp)]at this;exact this.Lu (hc x (Kbe _ (Kag hx)))
theorem YR{o:Oper}{x:Operand}{px:PV}(ho:o.op= .nilCheck x)(ak:∀d,o.dst=some d->d<C.N)(h:Qv C ρ fr hp a.tmps w)
  (hx:Qh C ρ hp w px (a.eval x)) (hv:ud px o.dst fr hp K):Q4 C ρ o a w K:=by
 have key:(∃b o',a.eval x= .pointer (some ⟨b,o',none⟩))∨(∃f fv cv,a.eval x= .func (.func f) fv cv)->(∀d,o.dst=some d->K (ae fr d px) hp)->(o.dst=none->K fr hp)->Q4 C ρ o a w K:=by
  intro hsh k1 k2;have bz:∀w',(execOp a.eval o).run C.P w'= .ok (.value (a.eval x)) w':=by intro w';unfold execOp;rcases hsh with⟨b,o',e⟩|⟨f,fv,cv,e⟩<;>simp only[ho,e]<;>rfl
  cases hd:o.dst with
  |some d=>exact⟨_,bz,_,_,by rw[hd];exact h.ae hx (ak d hd),k1 d hd⟩
  |none=>exact⟨_,bz,fr,hp,by rw[hd];exact h,k2 hd⟩
 cases px with
 |mp β i o'=>obtain⟨b,hb,_,_,e⟩:=hx.sP;refine key (.inl ⟨_,_,e⟩) (fun d hd=>?_) (fun hd=>?_)<;>(rw[hd]at hv;exact hv)
 |pt cs=>obtain⟨b,off,e,_⟩:=hx.yV;refine key (.inl ⟨_,_,e⟩) (fun d hd=>?_) (fun hd=>?_)<;>(rw[hd]at hv;exact hv)
 |fn f first cap=>obtain⟨fv,cv,e,_⟩:=hx;refine key (.inr ⟨_,_,_,e⟩) (fun d hd=>?_) (fun hd=>?_)<;>(rw[hd]at hv;exact hv)
 |_=>exact hv.elim
end Go.FW
namespace Go.FW
open Go
variable {C : Ctx} {ρ : Nat -> Option Nat} {fr : Fr} {hp : HP} {w : World} {a : Act} {K : Qg}
def bY(C:Ctx)(two:Bool)(w:World)(K:Qg)(a':Act)(w':World):Prop:=
 a'.defers=[]/\(∃aq hp',c8 C aq hp' a'.tmps w'/\K aq hp')/\(two=true->Ext bO w w')
theorem fk{P:Program}{o:Oper}{v:Value}{w w':World}{a:Act}{K':Act->World->Prop}{Q:Exit->Act->World->Prop}(hr:(execOp a.eval o).run P w= .ok (.value v) w')(hK:K' (a.put o.dst v) w'):o.wp P a w K' Q:=by unfold Oper.wp;rw[hr];exact hK
theorem pz{a:Act}{d:Option Nat}{v:Value}:(a.put d v).defers=a.defers:=by cases d<;>rfl
theorem vX(w:World)(o:Obj)(k:Nat)(h:k<w.heap.size):(w.alloc o).heap[k]? =w.heap[k]? :=by show(w.heap.push o)[k]? =_;rw[Array.getElem?_push,if_neg (by omega)]
theorem ji(w:World)(o:Obj):(w.alloc o).heap[w.heap.size]? =some o:=by show(w.heap.push o)[w.heap.size]? =_;simp
theorem v9(w:World)(o:Obj):(w.alloc o).heap.size=w.heap.size+1:=by show(w.heap.push o).size=_;simp
theorem Ext.alloc(w:World)(o:Obj)(Y:Nat->Prop):Ext Y w (w.alloc o):=⟨rfl,rfl,rfl,by rw[v9];omega,fun b hb _=>vX w o b hb⟩
theorem Ext.drew(w:World)(Y:Nat->Prop):Ext Y w w.drew:=⟨rfl,rfl,rfl,Kae _,fun _ _ _=>rfl⟩
theorem r9{d:Nat}(h:d<C.N):bg d=false:=by have:=C.hN;simp[bg];omega
theorem Qv.qS{tmps:Array Value}{aq:Fr}(h:Qv C ρ fr hp tmps w)(d:Nat)(hB:aF d=false)(l0:r8 C ρ hp w d fr aq)(an:HB)(cur:Array Value)(cap:Nat)(w':World)(hw:w'=w.alloc (.cells cur an.ty)∨w'=w.drew.alloc (.cells cur an.ty))
  (hs:cur.size=cap*an.e) (hle:an.xs.length<=cap) (hm:cap<=maxLen) (he:0<an.e) (hl:∀(i:Nat)(x:PV),an.xs[i]? =some x->x.cells.length=an.e/\x.ax=true)
  (hc:∀(i:Nat)(x:PV),an.xs[i]? =some x->∀(j:Nat)(y:PV),x.cells[j]? =some y->Qo w (ay C ρ hp) y (cur.getD (i*an.e+j) undef)):
  Qv C (rb ρ d (some w.heap.size)) aq (Qi hp d an) tmps w'/\Ext bO w w':=by
 have fT:∀Y,Ext Y w w':=fun Y=>by
  rcases hw with rfl|rfl
  ·exact Ext.alloc w _ Y
  ·exact(Ext.drew w Y).trans (Ext.alloc w.drew _ Y)
 have dL:w'.heap.size=w.heap.size+1:=by rcases hw with rfl|rfl<;>rw[v9]<;>rfl
 have abg:w'.heap[w.heap.size]? =some (.cells cur an.ty (0,0)):=by
  rcases hw with rfl|rfl
  ·exact ji w _
  ·exact ji w.drew _
 refine⟨h.sS d (some w.heap.size) an hB l0 (fT _) (fun c fa=>?_) he hl (by simp) (fun c fa=>?_),fT _⟩
 ·cases fa;exact⟨.inl h.ext.size,by omega,.inl (Kae _)⟩
 ·cases fa;exact⟨cur,cap,abg,hs,hle,hm,hc⟩
theorem Qv.yR{tmps:Array Value}(h:Qv C ρ fr hp tmps w)(d:Nat)(hB:bg d=false)(an:HB)(cur:Array Value)(cap:Nat)(w':World)(hw:w'=w.alloc (.cells cur an.ty)∨w'=w.drew.alloc (.cells cur an.ty))
  (hs:cur.size=cap*an.e) (hle:an.xs.length<=cap) (hm:cap<=maxLen) (he:0<an.e) (hl:∀(i:Nat)(x:PV),an.xs[i]? =some x->x.cells.length=an.e/\x.ax=true)
  (hc:∀(i:Nat)(x:PV),an.xs[i]? =some x->∀(j:Nat)(y:PV),x.cells[j]? =some y->Qo w (ay C ρ hp) y (cur.getD (i*an.e+j) undef)):
  Qv C (rb ρ d (some w.heap.size)) (bI d fr) (Qi hp d an) tmps w'/\Ext bO w w':=
 h.qS d (rJ hB) (wv hB) an cur cap w' hw hs hle hm he hl hc
theorem iB:maxLen=9223372036854775807:=rfl
theorem bY.gS{two:Bool}{o:Oper}{d:Nat}{v:Value}{p:PV}{w':World}{aq:Fr}{hp':HP}{ρ':Nat->Option Nat}(hd:o.dst=some d)(ak:d<C.N)(aH:a.defers=[])
  (h:Qv C ρ' aq hp' a.tmps w') (hx:two=true->Ext bO w w') (hv:Qh C ρ' hp' w' p v) (hK:K (ae aq d p) hp'):bY C two w K (a.put o.dst v) w':=by
 refine⟨by rw[pz];exact aH,⟨_,hp',⟨ρ',?_⟩,hK⟩,hx⟩;rw[hd];exact h.ae hv ak
theorem aV.Lq{X:Nat->Prop}{p:PV}{v:Value}{n:Nat}(h:aV w X p v)(hn:p.cells.length=n):v.cells.size=1*n/\∀(i:Nat)(x:PV),[p][i]? =some x->∀(j:Nat)(y:PV),x.cells[j]? =some y->Qo w X y (v.cells.getD (i*n+j) undef):=by
 obtain⟨h1,h2⟩:=h.cells;refine⟨by omega,fun i x hx j y hy=>?_⟩
 match i,hx with
 |0,hx=>simp at hx;subst hx;simpa using h2 j y hy
 |i+1,hx=>simp at hx
theorem FU{d n ty:Nat}{x:PV}{w':World}:Qh C (rb ρ d (some w.heap.size)) (Qi hp d ⟨n,ty,[x],false⟩) w' (.mp d 0 0) (.pointer (some ⟨w.heap.size,0,none⟩)):=by refine⟨w.heap.size,⟨n,ty,[x],false⟩,eH _ _ _,by simp[Qi],by simp⟩
theorem MO{o:Oper}{t:TypeId}{n:Nat}{x:Operand}{px:PV}{d:Nat}{Q:Exit->Act->World->Prop}(ho:o.op= .box t x)(hd:o.dst=some d)(ak:d<C.N)(aH:a.defers=[])(h:Qv C ρ fr hp a.tmps w)
  (hx:Qh C ρ hp w px (a.eval x)) (hN:∀cs,px= .aE cs->oz n t cs d fr hp K->o.wp C.P a w (bY C true w K) Q) (hv:dG n t px d fr hp K):o.wp C.P a w (bY C true w K) Q:=by
 unfold dG at hv;split at hv
 ·exact hN _ rfl hv
 split at hv
 ·rename_i β o' m hm;have qE:px= .ao β o' m:=by
   cases px with
   |ao β2 o2 m2=>
    simp only at hm;split at hm
    ·cases hm;rfl
    ·cases hm
   |_=>cases hm
  subst qE;have hs:=h.grow (w':=w.alloc (.cells (a.eval x).cells t)) (Ext.alloc w _ _);have aG:dh ρ hp (w.alloc (.cells (a.eval x).cells t)) β o' m (a.eval x):=dh.move hx ⟨rfl,fun hb ah=>⟨hb,ah,rfl,Kae _,fun b cap _ hc=>gU (vX w _ b (gY hc)) hc⟩⟩;have qp:(a.eval x).cells= #[a.eval x]:=by obtain⟨ad,cap,e⟩:=Qh.EM hx;rw[e];rfl
  refine fk (v:=.pointer (some ⟨w.heap.size,0,none⟩)) (w':=w.alloc (.cells (a.eval x).cells t)) ?_ (bY.gS (p:=.rb β o' m) hd ak aH hs (fun _=>Ext.alloc w _ _) ⟨w.heap.size,a.eval x,rfl,by rw[v9];omega,?_,?_,aG⟩ hv)
  ·unfold execOp;simp only[ho,Instr.box,newVar,newRow];simp
  ·rintro(hq|⟨γ,hg,g1,_,g3⟩)
   ·have:=C.ye _ hq;have:=h.ext.size;omega
   ·have:=(h.own γ hg g1).b8;rw[g3]at this;have:=this.2.1;omega
  ·have:=ji w (.cells (a.eval x).cells t);rw[gT this (by rw[qp];simp),qp];rfl
 obtain⟨h1,h2,h3,hK⟩:=hv;have hr:=my h hx (fun β ah=>ah) h1;obtain⟨r1,r2⟩:=hr.Lq h2;obtain⟨hs,he⟩:=(h.freeze px.refs).yR d (r9 ak) ⟨n,t,[Qy hp px],false⟩ (a.eval x).cells 1 _ (.inl rfl) r1 (by simp) (by rw[iB];omega) h3
  (fun i y hy=>by
   match i,hy with
   |0,hy=>simp at hy;subst hy;exact⟨h2,h1⟩
   |i+1,hy=>simp at hy) r2
 refine fk (v:=.pointer (some ⟨w.heap.size,0,none⟩)) (w':=w.alloc (.cells (a.eval x).cells t)) ?_ (bY.gS hd ak aH hs (fun _=>he) FU hK);unfold execOp;simp only[ho,Instr.box,newVar,newRow];simp
theorem Yd{o:Oper}{t:TypeId}{n:Nat}{ti:TypeInfo}{zv:Value}{z:PV}{d:Nat}{Q:Exit->Act->World->Prop}(ho:o.op= .alloc t)(hd:o.dst=some d)(ak:d<C.N)(aH:a.defers=[])(h:Qv C ρ fr hp a.tmps w)
  (i1:C.P.info? t=some ti) (i2:ti.zero=some zv) (hz:nk zv=some z) (hv:dG n t z d fr hp K):o.wp C.P a w (bY C true w K) Q:=by
 unfold dG at hv;split at hv
 ·exact absurd (vR hz).1 (by simp[PV.ax])
 split at hv
 ·rename_i β o' m hm;have hd:=(vR hz).1;cases z with
  |ao=>simp[PV.ax]at hd
  |_=>cases hm
 obtain⟨h1,h2,h3,hK⟩:=hv;have hr:=my (C:=C) (ρ:=ρ) (hp:=hp) h (Qh.iy (na (w:=w) hz)) (fun β ah=>ah) h1;obtain⟨r1,r2⟩:=hr.Lq h2;obtain⟨hs,he⟩:=(h.freeze z.refs).yR d (r9 ak) ⟨n,t,[Qy hp z],false⟩ zv.cells 1 _ (.inl rfl) r1 (by simp) (by rw[iB];omega) h3
  (fun i y hy=>by
   match i,hy with
   |0,hy=>simp at hy;subst hy;exact⟨h2,h1⟩
   |i+1,hy=>simp at hy) r2
 refine fk (v:=.pointer (some ⟨w.heap.size,0,none⟩)) (w':=w.alloc (.cells zv.cells t)) ?_ (bY.gS hd ak aH hs (fun _=>he) FU hK);unfold execOp;simp only[ho,Instr.alloc,Kaj,pg i1 i2,Kah,newVar,newRow];simp
theorem IA{i e j:Nat}(hj:j<e):(i*e+j)%e=j:=by rw[KbM,Nat.add_mul_mod_self_right,Kaz hj]
theorem Ov{i e j:Nat}(hj:j<e):(i*e+j)/e=i:=by rw[KbM,Nat.add_mul_div_right _ _ (by omega),Kcc hj,Ka0]
theorem Xj{z:Array Value}{n k:Nat}(hk:k<n)(hz:0<z.size):(madeCells z n).getD k undef=z.getD (k%z.size) undef:=by have h1:k%z.size<z.size:=Kbl _ hz;simp[madeCells,Array.getD,hk,h1]
theorem FV{d:Nat}{hb:HB}{n cap:Nat}{w':World}{cur:Array Value}(hle:n<=hb.xs.length)(aap:w'.heap[w.heap.size]? =some (.cells cur hb.ty (0,0)))(hs:cur.size=cap*hb.e)(hm:cap<=maxLen):
  Qh C (rb ρ d (some w.heap.size)) (Qi hp d hb) w' (.ms d n) (.slice (some ⟨w.heap.size,0,none⟩) n cap):=
 ⟨hb,by simp[Qi],by omega,.inr ⟨w.heap.size,cap,eH _ _ _,by simp,⟨cur,hb.ty,aap,by rw[Ka0];exact hs⟩,by omega⟩⟩
theorem N1{o:Oper}{t e:TypeId}{n by_:Nat}{z:PV}{l c:Operand}{pl pc:PV}{d:Nat}{Q:Exit->Act->World->Prop}(ho:o.op= .makeSlice t l c)(hd:o.dst=some d)(ak:d<C.N)(aH:a.defers=[])(h:Qv C ρ fr hp a.tmps w)
  (hu:C.P.underlying t=some (.slice e)) (hz:fZ C.P e=some (n,by_,z)) (hl:Qh C ρ hp w pl (a.eval l)) (hc:Qh C ρ hp w pc (a.eval c)) (hv:jM n by_ e z pl pc d fr hp K):o.wp C.P a w (bY C true w K) Q:=by
 unfold jM at hv;split at hv
 ·rename_i kl L kc Cc;obtain⟨h0,h1,h2,h3,h4,h5,hK⟩:=hv;obtain⟨ti,zv,i1,i2,i3,i4,i5⟩:=nn hz;have el:=hl.gx;have ec:=hc.gx;have mV:=(na (w:=w) (X:=ay C ρ hp) i5).cells;have nV:zv.cells.size=n:=by rw[mV.1];exact h1
  have bz:=run_make (P:=C.P) w t e ti zv hu i1 i2 kl kc L Cc h2 h3 (by rw[i4];exact h4) h5;rw[i3]at bz;obtain⟨hs,he⟩:=h.yR d (r9 ak) ⟨n,e,List.replicate L.toNat z,false⟩ (madeCells zv.cells (Cc.toNat*n)) Cc.toNat _ (.inl rfl) (size_madeCells _ _) (by simp;omega) (by rw[iB];omega) h0
   (fun i x hx=>by have aG:=Kag hx;obtain rfl:=(List.mem_replicate.1 aG).2;exact⟨h1,(vR i5).1⟩)
   (fun i x hx j y hy=>by
    have hi:i<L.toNat:=by have:=(Kac.1 hx).1;simpa using this
    obtain rfl:=(List.mem_replicate.1 (Kag hx)).2;have hj:j<n:=by have:=(Kac.1 hy).1;omega
    have qy:i*n+0+j<Cc.toNat*n:=jn (by omega) (by omega:0+n<=n) hj;rw[Xj (by omega) (by omega),nV,IA hj];exact mV.2 j y hy)
  refine fk (v:=.slice (some ⟨w.heap.size,0,none⟩) L.toNat Cc.toNat) ?_ (bY.gS hd ak aH hs (fun _=>he) (FV (by simp) (ji w _) (size_madeCells _ _) (by rw[iB];omega)) hK);unfold execOp;simp only[ho,el,ec,Kaj,bz,Kah];rfl
 ·exact hv.elim
end Go.FW
namespace Go.FW
open Go
variable {C : Ctx} {ρ : Nat -> Option Nat} {fr : Fr} {hp : HP} {w : World} {a : Act} {K : Qg}
theorem G6(n:Nat):∀(xs:List (List PV))(s:Nat)(pre rest:List PV),(∀x∈xs,x.length=n)->pre.length=s*n->rest.length=xs.length*n->
  eZ (pre++rest) ((xs.zipIdx s).map fun p=>(p.2*n,p.1))=pre++xs.flatten
 | [],s,pre,rest,_,_,hr=>by simp at hr;subst hr;simp[eZ]
 | x::xs,s,pre,rest,hx,hp,hr=>by
  have yG:=hx x (by simp);simp only[List.zipIdx_cons,Ka3,eZ];have e1:(pre++rest).take (s*n)=pre:=by rw[<-hp];exact List.take_left
  have e2:(pre++rest).drop (s*n+x.length)=rest.drop n:=by rw[yG,<-hp,<-List.drop_drop,List.drop_left]
  rw[e1,e2];have hlen:(pre++x).length=(s+1)*n:=by simp[hp,yG,Kax]
  have qF:(rest.drop n).length=xs.length*n:=by simp[hr,Kax]
  rw[G6 n xs (s+1) (pre++x) (rest.drop n) (fun y hy=>hx y (by simp[hy])) hlen qF];simp
theorem IB{n:Nat}(hn:0<n):∀(xs:List (List PV))(i j:Nat)(x:List PV)(y:PV),(∀x∈xs,x.length=n)->xs[i]? =some x->x[j]? =some y->xs.flatten[i*n+j]? =some y
 | [],i,j,x,y,_,h,_=>by simp at h
 |z::xs,0,j,x,y,hl,h,hy=>by simp at h;subst h;have hj:j<z.length:=(Kac.1 hy).1;simp only[List.flatten_cons,Kb8,Ka0];rw[KbK hj];exact hy
 |z::xs,i+1,j,x,y,hl,h,hy=>by simp at h;have hz:=hl z (by simp);simp only[List.flatten_cons];rw[Kba (by rw[hz,Kax];omega)];rw[show(i+1)*n+j-z.length=i*n+j by rw[hz,Kax];omega];exact IB hn xs i j x y (fun q hq=>hl q (by simp[hq])) h hy
theorem Xm{parts:List (Nat×Operand)}{len i:Nat}{p:Nat×Operand}(h:parts.map (·.1)=List.range len)(hp:parts[i]? =some p):p.1=i:=by
 have h1:(parts.map (·.1))[i]? =some p.1:=by simp[hp]
 rw[h]at h1;have hi:i<len:=by have:=(Kac.1 h1).1;simpa using this
 rw[Kcj hi]at h1;simp at h1;exact h1.symm
theorem MP{X:Nat->Prop}{e:TypeId}{n N by_:Nat}{z:PV}{zv:Value}(i5:nk zv=some z)(hz:z.cells.length=n)(hn:0<n):
  Rows w X ((List.range N).map fun k=>z.cells.getD (k%n) .undef) ((Array.range N).map (zv.cells[· %zv.cells.size]!)):=by
 have mV:=(na (w:=w) (X:=X) i5).cells;refine⟨by simp,fun i x hx=>?_⟩;have hi:i<N:=by have:=(Kac.1 hx).1;simpa using this
 simp only[Kap,Kcj hi,KbL,Kaq]at hx;have hm:i%n<z.cells.length:=by rw[hz];exact Kbl _ hn
 have aG:z.cells[i%n]? =some x:=by rw[<-hx];simp[hm]
 have:=mV.2 _ x aG;have hs:zv.cells.size=n:=by rw[mV.1];exact hz
 have uX:i%n<zv.cells.size:=by omega
 have e2:((Array.range N).map (zv.cells[· %zv.cells.size]!)).getD i undef=zv.cells.getD (i%n) undef:=by have hmn:i%n<n:=Kbl _ hn;simp[Array.getD,hi,hs,hmn,getElem!_def,Kbi uX]
 rw[e2];exact this
theorem N2{o:Oper}{t e:TypeId}{len n by_:Nat}{z:PV}{parts:Array (Nat×Operand)}{ps:List aD}{d:Nat}{Q:Exit->Act->World->Prop}(ho:o.op= .buildSlice t len parts)(hd:o.dst=some d)(ak:d<C.N)(aH:a.defers=[])(h:Qv C ρ fr hp a.tmps w)
  (hu:C.P.underlying t=some (.slice e)) (hz:fZ C.P e=some (n,by_,z)) (nS:parts.toList.map (·.1)=List.range len) (KX:len*n<=16777216) (gw:z.cells.length=n) (dC:(parts.toList.mapM fun p=>bp p.2)=some ps)
  (hv:xM n e (ps.map (ev fr)) d fr hp K):o.wp C.P a w (bY C true w K) Q:=by
 obtain⟨h0,bQ,hK⟩:=hv;obtain⟨ti,zv,i1,i2,i3,i4,i5⟩:=nn hz;obtain⟨m1,m2⟩:=iz dC;have hlen:parts.toList.length=len:=by have:=congrArg List.length nS;simpa using this
 have cK:ps.length=len:=by omega
 let xs:List (List PV):=(ps.map (ev fr)).map fun p=>(Qy hp p).cells
 have dM:∀x∈xs,x.length=n:=by intro x hx;simp only[xs,KaM]at hx;obtain⟨p,⟨q,hq,rfl⟩,rfl⟩:=hx;exact(bQ _ (KaM.2 ⟨q,hq,rfl⟩)).2
 have EF:xs.length=len:=by simp[xs,cK]
 have mP:(parts.map fun(x:Nat×Operand)=>(x.1,a.eval x.2)).toList=parts.toList.map fun x=>(x.1,a.eval x.2):=by simp
 have Kc:Rows w (ay C ρ (bq hp ((ps.map (ev fr)).flatMap PV.refs))) ((List.range (len*n)).map fun k=>z.cells.getD (k%n) .undef) ((Array.range (len*n)).map ((if len*n=0 then(#[]:Array Value)else zv.cells)[· %(if len*n=0 then(#[]:Array Value)else zv.cells).size]!)):=by
  by_cases ma:len*n=0
  ·rw[if_pos ma,ma];exact⟨by simp,by simp⟩
  ·rw[if_neg ma];exact MP (e:=e) (by_:=by_) i5 gw h0
 obtain⟨cN,g1,g2⟩:=v5 (fun i=>some (i*n,n)) (parts.toList.map fun x=>(x.1,a.eval x.2)) ((xs.zipIdx 0).map fun p=>(p.2*n,p.1)) _ _ Kc (by simp[EF,hlen]) (fun i p q sH oZ=>by
  simp only[Kap,Kaa]at sH oZ;obtain⟨x,hx,rfl⟩:=sH;obtain⟨q0,gJ,rfl⟩:=oZ;rw[List.getElem?_zipIdx]at gJ;simp only[Kaa]at gJ;obtain⟨y,hy,rfl⟩:=gJ;simp only[Ka0];have K9:=dM y (Kag hy);simp only[xs,Kap,Kaa]at hy;obtain⟨pv,⟨u,jc,rfl⟩,rfl⟩:=hy;obtain⟨x',aG,Et⟩:=m2 i u jc;rw[hx]at aG;cases aG;have hi:i<len:=by have:=(Kac.1 hx).1;omega
  obtain⟨o1,o2⟩:=bQ (ev fr u) (KaM.2 ⟨u,Kag jc,rfl⟩);refine⟨by rw[Xm nS hx,K9],(my h (bR h Et) (fun β ah=>Kam.2 ⟨_,KaM.2 ⟨u,Kag jc,rfl⟩,ah⟩) o1).rows,?_⟩;rw[K9];simp;have:(i+1)*n<=len*n:=Kal n hi;rw[Kax]at this;omega)
 have Ee:=G6 n xs 0 [] ((List.range (len*n)).map fun k=>z.cells.getD (k%n) .undef) dM (by simp) (by simp[EF]);simp only[KaC]at Ee;rw[Ee]at g2;have hfl:xs.flatten.length=len*n:=by
  have:=g2.1;have hb:=Kc.1;have h2:eZ ((List.range (len*n)).map fun k=>z.cells.getD (k%n) .undef) ((xs.zipIdx 0).map fun p=>(p.2*n,p.1))=xs.flatten:=Ee;rw[List.length_flatten];have:xs.map List.length=List.replicate xs.length n:=by apply List.ext_getElem (by simp);intro i h1 h2;simp only[KbO,List.getElem_replicate];exact dM _ (Kao _)
  rw[this,List.sum_replicate_nat,EF]
 have gL:cN.size=len*n:=by rw[g2.1,hfl]
 obtain⟨hs,he⟩:=(h.freeze ((ps.map (ev fr)).flatMap PV.refs)).yR d (r9 ak) ⟨n,e,(ps.map (ev fr)).map (Qy hp),false⟩ cN len _ (.inl rfl) gL (by simp[cK]) (by rw[iB];have:len*1<=len*n:=Kbk len h0;omega) h0
  (fun i x hx=>by simp only[Kap,Kaa]at hx;obtain⟨p,⟨u,jc,rfl⟩,rfl⟩:=hx;obtain⟨o1,o2⟩:=bQ (ev fr u) (KaM.2 ⟨u,Kag jc,rfl⟩);exact⟨o2,o1⟩)
  (fun i x hx j y hy=>by refine g2.2 _ y (IB h0 xs i j x.cells y dM ?_ hy);simp only[Kap,Kaa,xs]at hx⊢;obtain⟨p,eJ,rfl⟩:=hx;exact⟨p,eJ,rfl⟩)
 refine fk (v:=.slice (some ⟨w.heap.size,0,none⟩) len len) ?_ (bY.gS hd ak aH hs (fun _=>he) ?_ hK)
 ·unfold execOp;have hsm:¬(len*n>2^24):=by omega
  have Ev:(parts.map fun x=>match x with|(i,x)=>(i,a.eval x)).toList=parts.toList.map fun x=>(x.1,a.eval x.2):=mP;simp only[ho,Instr.buildSlice,Kaj,eV hu,Kah,gV (show cU C.P e=some n by simp[cU,i1,i3]),if_neg hsm,Ev];by_cases ma:len*n=0
  ·simp only[if_pos ma]at g1⊢;simp only[KaK,Kah,Kaj,g1,newRow];simp
  ·simp only[if_neg ma]at g1⊢;simp only[KaK,Kah,Kaj,pg i1 i2,g1,newRow];simp
 ·rw[show(ps.map (ev fr)).length=len by simp[cK]];exact FV (by simp[cK]) (ji w _) gL (by rw[iB];have:len*1<=len*n:=Kbk len h0;omega)
theorem s5(w:World)(b:Nat)(cur:Array Value):Ext (fun c=>c=b) w (w.setRow b cur):=
 ⟨rfl,rfl,rfl,by simp,fun k hk hn=>setRow_other w b k _ hn⟩
theorem s9{cur:Array Value}{p:Nat}{cs:List Value}{k:Nat}(hle:p+cs.length<=cur.size)(hk:k<cur.size):
  ((cur.toList.take p++cs++cur.toList.drop (p+cs.length)).toArray).getD k undef=if p<=k/\k<p+cs.length then cs.getD (k-p) undef else cur.getD k undef:=by
 have du:k<cur.toList.length:=by simpa using hk
 have ht:(cur.toList.take p).length=p:=by simp;omega
 simp only[KaA,List.getElem?_toArray,Kbs,Kad];rw[KaN,ht];by_cases c1:k<p
 ·rw[if_pos c1,if_neg (by omega),Kav c1];simp
 ·rw[if_neg c1,KaN];by_cases c2:k-p<cs.length
  ·rw[if_pos c2,if_pos (by omega)]
  ·rw[if_neg c2,if_neg (by omega),KaO];rw[show p+cs.length+(k-p-cs.length)=k by omega];simp
theorem tc{cur:Array Value}{p:Nat}{cs:List Value}(hle:p+cs.length<=cur.size):((cur.toList.take p++cs++cur.toList.drop (p+cs.length)).toArray).size=cur.size:=by simp;omega
theorem Gi{P:Program}{t:TypeId}{n b off:Nat}{ty:TypeId}{v:Value}{cur:Array Value}(hn:cU P t=some n)(hs:v.cells.size=n)(hg:w.heap[b]? =some (.cells cur ty (0,0)))(hle:off+n<=cur.size)(h1:∀u∈v.cells.toList,u.oneCell'=true):
  (storeVar t ⟨b,off,none⟩ v).run P w= .ok () (w.setRow b (cur.toList.take off++v.cells.toList++cur.toList.drop (off+n)).toArray):=by
 unfold storeVar;have aR:=run_storeCells_at P b off ty v.cells.toList 0 cur w hg (by simp[hs];omega) h1;simp only[KaJ,Kb9,hs]at aR;have a9:¬(v.cells.size≠n):=by simp[hs]
 simp only[Kaj,gV hn,Kah,if_neg a9];exact aR
theorem N3{x:PV}{o:Nat}{v:PV}{j:Nat}(hl:o+v.cells.length<=x.cells.length)(hj:j<x.cells.length):
  (m6 x o v).cells[j]? =if o<=j/\j<o+v.cells.length then v.cells[j-o]? else x.cells[j]? :=by
 show(x.cells.take o++v.cells++x.cells.drop (o+v.cells.length))[j]? =_;rw[Kbs];have ht:(x.cells.take o).length=o:=by simp;omega
 rw[KaN,ht];by_cases c1:j<o
 ·rw[if_pos c1,if_neg (by omega),Kav c1]
 ·rw[if_neg c1,KaN];by_cases c2:j-o<v.cells.length
  ·rw[if_pos c2,if_pos (by omega)]
  ·rw[if_neg c2,if_neg (by omega),KaO];rw[show o+v.cells.length+(j-o-v.cells.length)=j by omega]
theorem TF{x:PV}{o:Nat}{v:PV}(hl:o+v.cells.length<=x.cells.length):(m6 x o v).cells.length=x.cells.length:=by show(List.take o x.cells++v.cells++List.drop (o+v.cells.length) x.cells).length=_;simp;omega
theorem IC{e i j m k n:Nat}(hj:j<e)(hk:k+n<=e)(a9:i≠m):¬(m*e+k<=i*e+j/\i*e+j<m*e+k+n):=by
 intro⟨h1,h2⟩;rcases Nat.lt_or_gt_of_ne a9 with h|h
 ·have:(i+1)*e<=m*e:=Kal e h;rw[Kax]at this;omega
 ·have:(m+1)*e<=i*e:=Kal e h;rw[Kax]at this;omega
theorem tL{l:List PV}{i k:Nat}{nx x:PV}(h:(l.set i nx)[k]? =some x):(i=k/\x=nx)∨(i≠k/\l[k]? =some x):=by
 by_cases uQ:i=k
 ·subst uQ;have hi:i<l.length:=by have:=(Kac.1 h).1;simpa using this
  rw[List.getElem?_set_self hi]at h;cases h;exact .inl ⟨rfl,rfl⟩
 ·rw[List.getElem?_set_ne uQ]at h;exact .inr ⟨uQ,h⟩
theorem bZ.aL{p:PV}{v:Value}(h:bZ C ρ hp w p v):p.aL=[p]:=by
 cases p with
 |agg=>cases h
 |aE=>cases h
 |_=>rfl
theorem G7{l:List PV}(h:∀c∈l,c.aL=[c]):(dX l).aL=l:=by
 unfold dX;split
 ·exact h _ (by simp)
 ·exact X9 _
theorem Jj{py:PV}{v:Value}{cs:List PV}(h:Qh C ρ hp w py v)(hs:cT py=some cs):v.cells.size=cs.length/\(∀(j:Nat)(y:PV),cs[j]? =some y->bZ C ρ hp w y (v.cells.getD j undef))/\∀u∈v.cells.toList,u.oneCell'=true:=by
 have one:∀ {p:PV},bZ C ρ hp w p v->p≠ .undef->cs=[p]->v.cells.size=cs.length/\(∀(j:Nat)(y:PV),cs[j]? =some y->bZ C ρ hp w y (v.cells.getD j undef))/\∀u∈v.cells.toList,u.oneCell'=true:=by
  rintro p hr hu rfl;obtain⟨h1,h2⟩:=hr.m5 hu;rw[h2];refine⟨rfl,fun j y hy=>?_,fun u jc=>?_⟩
  ·match j,hy with
   |0,hy=>simp at hy;subst hy;exact hr
   |j+1,hy=>simp at hy
  ·simp at jc;subst jc;exact h1
 cases py with
 | aE cs'=>
  simp only[cT]at hs;split at hs
  ·rename_i dJ;simp only[Kaq]at hs;subst hs;obtain⟨vs,rfl,h1,h2⟩:=h;refine⟨h1,h2,fun u hu=>?_⟩;obtain⟨j,hj,rfl⟩:=KaZ hu;have cR:j<vs.size:=by simpa[Value.cells]using hj
   have hp:j<cs'.length:=by omega
   have h3:=h2 j cs'[j] (Kaf hp);have h4:=KaB.1 dJ cs'[j] (Kao hp);have:=(h3.m5 (fun e=>by rw[e]at h4;cases h4)).1;simpa[Array.getD,cR,Value.cells]using this
  ·cases hs
 |aB γ o n=>simp only[cT,Kaq]at hs;exact one (p:=.aB γ o n) h (by simp) hs.symm
 |ao β o n=>
  simp only[cT]at hs;split at hs
  ·rename_i hB;simp only[Kaq]at hs;exact one (p:=.ao β o n) ⟨hB,h⟩ (by simp) hs.symm
  ·cases hs
 |int k n=>simp only[cT,Kaq]at hs;exact one (p:=.int k n) h (by simp) hs.symm
 |bool b=>simp only[cT,Kaq]at hs;exact one (p:=.bool b) h (by simp) hs.symm
 |aa=>simp only[cT,Kaq]at hs;exact one (p:=.aa) h (by simp) hs.symm
 |sl e xs=>simp only[cT,Kaq]at hs;exact one (p:=.sl e xs) h (by simp) hs.symm
 |pt cs'=>simp only[cT,Kaq]at hs;exact one (p:=.pt cs') h (by simp) hs.symm
 |agg cs'=>simp only[cT,Kaq]at hs;subst hs;have hr:aV w (ay C ρ hp) (.agg cs') v:=h;obtain⟨h1,h2⟩:=hr.cells;exact⟨h1,fun j y hy=>bZ.Lj (h2 j y hy),hr.Ln⟩
 |_=>cases hs
theorem Qv.EN{tmps:Array Value}{w':World}(h:Qv C ρ fr hp tmps w){γ b e ty:Nat}{hb:HB}{xs':List PV}{cur':Array Value}{cap:Nat}(hB:bg γ=true)(he:0<e)(af:hp γ=some hb)(iV:hb.fz=false)(bG:hb.xs=[])(Eb:hb.e=e)(ht:hb.ty=ty)(aU:ρ γ=some b)
  (hx:Ext (fun c=>c=b) w w') (cJ:∀e cap,cu w b e cap->cu w' b e cap) (h1:w'.heap[b]? =some (.cells cur' ty (0,0))) (h2:cur'.size=cap*e) (h3:xs'.length<=cap) (h4:cap<=maxLen)
  (h5:∀(i:Nat)(x:PV),xs'[i]? =some x->x.aL.length=e) (h6:∀(i:Nat)(x:PV),xs'[i]? =some x->∀(j:Nat)(y:PV),x.aL[j]? =some y->bZ C ρ hp w y (cur'.getD (i*e+j) undef)):
  Qv C ρ (FW.ae (fm γ fr) γ (.az γ e ty xs')) hp tmps w':=by
 have DT:ay C ρ hp b:=.inr ⟨γ,hb,af,iV,aU⟩;have yv:dy γ=false:=by
  cases hq:dy γ with
  |false=>rfl
  |true=>have:=(h.own γ hb af).ro hq;rw[iV]at this;cases this
 have fa:iN w w' (ay C ρ hp) (ay C ρ hp):=⟨fun c hc hn=>hx.block c hc (fun e=>hn (e▸DT)),fun _ _ hn=>hn,hx.size⟩
 have aT:=(h.own γ hb af).b8;rw[aU]at aT;have fT:Ext C.Y0 C.w0 w':=by refine h.ext.trans' (Y':=fun c=>c=b) hx ?_;intro c hc he;subst he;exact(Ctx.xP aT.1 yv).resolve_left (by omega)
 have uU:∀β c,C.fx β=some c->∀e cap,cu C.w0 c e cap->cu w' c e cap:=fun b0 c fa e cap fb=>by
  have gi:=h.dE b0 c fa e cap fb;by_cases gk:c=b
  ·rw[gk]at gi ⊢;exact cJ e cap gi
  ·exact gU (hx.block c (gY gi) gk) gi
 have ky:∀β hg c,β≠γ->hp β=some hg->ρ β=some c->¬c=b:=fun β hg c a9 eC hr e=>a9 (h.inj β γ b (by simp[eC]) (by simp[af]) (e▸hr) aU);have c0:∀β,pX ρ ρ hp hp w w' β:=fun β=>⟨rfl,fun hg eC=>⟨hg,eC,rfl,Kae _,fun c cap hr fb=>by
  by_cases a9:β=γ
  ·subst a9;rw[aU]at hr;cases hr;exact cJ _ _ fb
  ·exact gU (hx.block c (gY fb) (ky β hg c a9 eC hr)) fb⟩⟩
 refine⟨h.sz,fT,uU,fun β hg ah=>?_,h.inj,fun i=>?_⟩
 ·obtain⟨p1,p2,p3,p4,p5⟩:=h.own β hg ah;refine⟨p1,p2,?_,p4,p5⟩;by_cases a9:β=γ
  ·subst a9;rw[af]at ah;cases ah;rw[aU]at p3⊢;exact⟨p3.1,Ka7 p3.2.1 hx.size,cur',cap,by rw[h1,ht],by rw[Eb];exact h2,by rw[bG];simp,h4,by rw[bG];simp⟩
  ·cases hr:ρ β with
   |none=>rw[hr]at p3;exact p3
   |some c=>rw[hr]at p3;exact⟨p3.1,Ka7 p3.2.1 hx.size,p3.2.2.move (hx.block c p3.2.1 (ky β hg c a9 ah hr)) rfl rfl rfl fa.rc⟩
 ·unfold FW.ae;split
  ·exact⟨hB,he,b,hb,cur',cap,aU,af,bG,Eb,ht,h1,h2,h3,h4,h5,fun i x hi j y hy=>(h6 i x hi j y hy).move fa (fun β _=>c0 β)⟩
  ·have aW:=h.ch i;unfold fm;generalize fr i=p at aW;have mv:(∀aO e ty xs,p= .az aO e ty xs->aO≠γ)->Qh C ρ hp w' p (tmps.getD i undef):=fun hq=>
    aW.move fa (fun β _=>⟨(c0 β).r,(c0 β).h⟩) (fun β _=>c0 β) (fun aO e ty xs e1=>⟨rfl,fun hg eC=>by have a9:=hq aO e ty xs e1;refine⟨hg,eC,rfl,Kae _,fun c cap hr fb=>gU (hx.block c (gY fb) (ky aO hg c a9 eC hr)) fb,fun he=>⟨he,rfl,fun c hr=>hx.block c ?_ (ky aO hg c a9 eC hr)⟩⟩;have:=(h.own aO hg eC).b8;rw[hr]at this;exact this.2.1⟩)
   cases p with
   |az aO e' ty' xs=>
    simp only[fy];split
    ·trivial
    ·rename_i a9;exact mv (fun _ _ _ _ e1=>by cases e1;exact a9)
   |_=>exact mv (fun _ _ _ _ e1=>by cases e1)
theorem ID{l cs:List PV}{o j:Nat}(hl:o+cs.length<=l.length)(hj:j<l.length):(lR l o cs)[j]? =if o<=j/\j<o+cs.length then cs[j-o]? else l[j]? :=by
 unfold lR;rw[Kbs];have ht:(l.take o).length=o:=by simp;omega
 rw[KaN,ht];by_cases c1:j<o
 ·rw[if_pos c1,if_neg (by omega),Kav c1]
 ·rw[if_neg c1,KaN];by_cases c2:j-o<cs.length
  ·rw[if_pos c2,if_pos (by omega)]
  ·rw[if_neg c2,if_neg (by omega),KaO];rw[show o+cs.length+(j-o-cs.length)=j by omega]
theorem BF{l cs:List PV}{o:Nat}(hl:o+cs.length<=l.length):(lR l o cs).length=l.length:=by unfold lR;simp;omega
theorem N4 {o:Oper} {t:TypeId} {n:Nat} {x y:Operand} {px py:PV} {Q:Exit->Act->World->Prop} (ho:o.op= .store t x y) (hd:o.dst=none) (aH:a.defers=[]) (h:Qv C ρ fr hp a.tmps w)
  (hn:cU C.P t=some n) (hx:Qh C ρ hp w px (a.eval x)) (hy:Qh C ρ hp w py (a.eval y)) (hv:jN n px py fr hp K):o.wp C.P a w (bY C false w K) Q:=by
 unfold jN at hv;split at hv
 ·rename_i β i o';split at hv
  ·rename_i hb ah;obtain⟨h1,h2,h3,h4,h5,hK⟩:=hv;obtain⟨b,iT,g1,g2,ex⟩:=hx.sP;obtain⟨aX,g3,e1,e2,e3,e4,_⟩:=vV (l:=py.refs) g2;rw[ah]at g3;cases g3;have hbb:=e4 h1;subst hbb;have hf:=h.freeze py.refs;have hr:=my h hy (fun β ah=>ah) h2;have vj:=hr.cells;have aT:=hf.own β hb ah;have aK:=aT.b8;rw[g1]at aK;obtain⟨b1,b2,cur,cap,c1,c2,c3,c4,c5⟩:=aK;have dU:=Kaf h4;have dt:=(aT.len i _ dU).1;have gL:(a.eval y).cells.size=n:=by rw[vj.1,h3]
   have l8:i*hb.e+o'+n<=cur.size:=by rw[c2];have:(i+1)*hb.e<=cap*hb.e:=Kal _ (by omega);rw[Kax]at this;omega
   have bz:=Gi (P:=C.P) (w:=w) (off:=i*hb.e+o') hn gL c1 l8 hr.Ln;have jd:(a.eval y).cells.toList.length=n:=by simp[gL]
   have fg:∀k,k<cur.size->((cur.toList.take (i*hb.e+o')++(a.eval y).cells.toList++cur.toList.drop (i*hb.e+o'+n)).toArray).getD k undef=if i*hb.e+o'<=k/\k<i*hb.e+o'+n then(a.eval y).cells.getD (k-(i*hb.e+o')) undef else cur.getD k undef:=by intro k hk;have:=s9 (cur:=cur) (p:=i*hb.e+o') (cs:=(a.eval y).cells.toList) (k:=k) (by omega) hk;rw[jd]at this;rw[this];simp[KaA,Kad]
   have gK:((cur.toList.take (i*hb.e+o')++(a.eval y).cells.toList++cur.toList.drop (i*hb.e+o'+n)).toArray).size=cur.size:=by
    have:=tc (cur:=cur) (p:=i*hb.e+o') (cs:=(a.eval y).cells.toList) (by omega)
    rwa[jd]at this
   have jE:(if n=hb.e then Qy hp py else m6 (hb.xs[i]'h4) o' (Qy hp py)).cells.length=hb.e/\(if n=hb.e then Qy hp py else m6 (hb.xs[i]'h4) o' (Qy hp py)).ax=true:=by
    by_cases hc:n=hb.e
    ·rw[if_pos hc];exact⟨by omega,h2⟩
    ·rw[if_neg hc];exact⟨by rw[TF (by omega)];exact dt,rfl⟩
   obtain⟨nx,iY⟩:∃nx,nx=(if n=hb.e then Qy hp py else m6 (hb.xs[i]'h4) o' (Qy hp py)):=⟨_,rfl⟩
   rw[<-iY]at hK jE;have aR:=hf.store β b hb { hb with xs:=hb.xs.set i nx } ah h1 (by intro e;rw[e]at h4;simp at h4) g1 (s5 w b _) rfl (by simp) h1
    (fun k x hk=>by
     rcases tL hk with⟨_,rfl⟩|⟨_,hk⟩
     ·exact jE
     ·exact aT.len k x hk)
    (fun e' di cJ=>by obtain⟨cur',ty',d1,d2⟩:=cJ;rw[c1]at d1;cases d1;exact⟨_,_,setRow_heap w b cur _ hb.ty _ c1,by rw[gK];exact d2⟩)
    ⟨_, cap,setRow_heap w b cur _ hb.ty _ c1,by rw[gK];exact c2,by simpa using c3,c4,fun k x hk j z hz=>by
     have sw:k<hb.xs.length:=by have:=(Kac.1 hk).1;simpa using this
     have dM:x.cells.length=hb.e:=by
      rcases tL hk with⟨_,rfl⟩|⟨_,hk⟩
      ·exact jE.1
      ·exact(aT.len k x hk).1
     have hj:j<hb.e:=by have:=(Kac.1 hz).1;omega
     have ak:k*hb.e+0+j<cap*hb.e:=jn (by omega) (by omega:0+hb.e<=hb.e) hj;show Qo w _ z (Array.getD _ (k*hb.e+j) undef);rw[fg _ (by omega)];rcases tL hk with⟨uV,yG⟩|⟨uV,hk⟩
     ·subst uV;subst yG;by_cases hc:n=hb.e
      ·rw[iY,if_pos hc]at hz;have ho0:o'=0:=by omega
       subst ho0;rw[if_pos (by omega)];rw[show i*hb.e+j-(i*hb.e+0)=j by omega];exact vj.2 j z hz
      ·rw[iY,if_neg hc]at hz;rw[N3 (by omega) (by omega),h3]at hz;by_cases Kr:o'<=j/\j<o'+n
       ·rw[if_pos Kr]at hz;rw[if_pos (by omega)];rw[show i*hb.e+j-(i*hb.e+o')=j-o' by omega];exact vj.2 _ z hz
       ·rw[if_neg Kr]at hz;rw[if_neg (by omega)];exact c5 i _ dU j z hz
     ·rw[if_neg (IC hj (by omega) (fun e=>uV e.symm))];exact c5 k x hk j z hz⟩
   unfold Oper.wp;have hex:(execOp a.eval o).run C.P w= .ok .skip (w.setRow b (cur.toList.take (i*hb.e+o')++(a.eval y).cells.toList++cur.toList.drop (i*hb.e+o'+n)).toArray):=by unfold execOp;simp only[ho,ex,Kaj,Instr.storeAt,Instr.sureAddr,KaK,Kah,bz]
   rw[hex];refine⟨by rw[pz];exact aH,⟨fr,_,⟨ρ,?_⟩,hK⟩,by simp⟩;rw[hd];exact aR
  ·exact hv.elim
 ·rename_i γ i o';split at hv
  ·rename_i aO e ty xs af;obtain⟨rfl,⟨hb,k1,k2⟩,h1,h2,hv⟩:=hv;split at hv
   ·rename_i cs gI;obtain⟨h3,hK⟩:=hv;obtain⟨r1,r2,r3⟩:=Jj hy gI;obtain⟨hB,b,an,g1,g2,ex⟩:=hx.yS;rw[k1]at g2;cases g2;have aW:=h.ch aO;rw[af]at aW;obtain⟨_,nL,b',an,cur,cap,q1,q2,q3,q4,q5,q6,q7,q8,q9,qV,nY⟩:=aW;rw[g1]at q1;cases q1;rw[k1]at q2;cases q2;rw[q4]at ex;have dU:=Kaf h1;have dt:=qV i _ dU;have gL:(a.eval y).cells.size=n:=by rw[r1,h3]
    have l8:i*e+o'+n<=cur.size:=by rw[q7];have:(i+1)*e<=cap*e:=Kal _ (by omega);rw[Kax]at this;omega
    have bz:=Gi (P:=C.P) (w:=w) (off:=i*e+o') hn gL q6 l8 r3;have jd:(a.eval y).cells.toList.length=n:=by simp[gL]
    have fg:∀k,k<cur.size->((cur.toList.take (i*e+o')++(a.eval y).cells.toList++cur.toList.drop (i*e+o'+n)).toArray).getD k undef=if i*e+o'<=k/\k<i*e+o'+n then(a.eval y).cells.getD (k-(i*e+o')) undef else cur.getD k undef:=by intro k hk;have:=s9 (cur:=cur) (p:=i*e+o') (cs:=(a.eval y).cells.toList) (k:=k) (by omega) hk;rw[jd]at this;rw[this];simp[KaA,Kad]
    have gK:((cur.toList.take (i*e+o')++(a.eval y).cells.toList++cur.toList.drop (i*e+o'+n)).toArray).size=cur.size:=by
     have:=tc (cur:=cur) (p:=i*e+o') (cs:=(a.eval y).cells.toList) (by omega)
     rwa[jd]at this
    generalize(cur.toList.take (i*e+o')++(a.eval y).cells.toList++cur.toList.drop (i*e+o'+n)).toArray=W at bz fg gK;have ve:o'+cs.length<=(xs[i]).aL.length:=by rw[dt,h3];exact h2
    have lY:∀c∈lR (xs[i]).aL o' cs,c.aL=[c]:=by
     intro c hc;obtain⟨j,hj⟩:=Kat hc;have nM:j<(xs[i]).aL.length:=by have:=(Kac.1 hj).1;rwa[BF ve]at this
     rw[ID ve nM]at hj;split at hj
     ·exact(r2 _ c hj).aL
     ·exact(nY i _ dU j c hj).aL
    have bK:=G7 lY;have aR:=h.EN (w':=w.setRow b W) (xs':=xs.set i (dX (lR (xs[i]).aL o' cs))) (cur':=W) (cap:=cap) hB nL k1 k2 q3 q4 q5 g1 (s5 w b W)
     (fun e2 uA hcp=>by obtain⟨acL,kF,d1,d2⟩:=hcp;rw[q6]at d1;cases d1;exact⟨_,_,setRow_heap w b cur _ ty _ q6,by rw[gK];exact d2⟩)
     (setRow_heap w b cur W ty _ q6) (by rw[gK];exact q7) (by simpa using q8) q9
     (fun k x hk=>by
      rcases tL hk with⟨_,rfl⟩|⟨_,hk⟩
      ·rw[bK,BF ve];exact dt
      ·exact qV k x hk)
     (fun k x hk j y' jI=>by
      rcases tL hk with⟨rfl,rfl⟩|⟨a9,hk⟩
      ·rw[bK]at jI;have nM:j<(xs[i]).aL.length:=by have:=(Kac.1 jI).1;rwa[BF ve]at this
       have yo:j<e:=by omega
       have qy:i*e+0+j<cap*e:=jn (n:=e) (by omega) (by omega) yo;rw[ID ve nM]at jI;rw[fg _ (by omega)];split at jI
       ·rename_i hr;rw[if_pos (by omega),show i*e+j-(i*e+o')=j-o' by omega];exact r2 _ y' jI
       ·rename_i hr;rw[if_neg (by omega)];exact nY i _ dU j y' jI
      ·have sw:k<xs.length:=(Kac.1 hk).1;have yo:j<e:=by have:=(Kac.1 jI).1;have:=qV k x hk;omega
       have qy:k*e+0+j<cap*e:=jn (n:=e) (by omega) (by omega) yo;rw[fg _ (by omega),if_neg (IC yo h2 (fun e=>a9 e.symm))];exact nY k x hk j y' jI)
    unfold Oper.wp;have hex:(execOp a.eval o).run C.P w= .ok .skip (w.setRow b W):=by unfold execOp;simp only[ho,ex,Kaj,Instr.storeAt,Instr.sureAddr,KaK,Kah,bz]
    rw[hex];refine⟨by rw[pz];exact aH,⟨_,hp,⟨ρ,?_⟩,hK⟩,by simp⟩;rw[hd];exact aR
   ·exact hv.elim
  ·exact hv.elim
 ·exact hv.elim
end Go.FW
namespace Go.FW
open Go
variable {C : Ctx} {ρ : Nat -> Option Nat} {fr : Fr} {hp : HP} {w : World} {a : Act} {K : Qg}
theorem XE{X:Nat->Prop}{x:PV}{e:Nat}{f:Nat->Value}(he:x.cells.length=e)(h0:0<e)(hr:∀(j:Nat)(y:PV),x.cells[j]? =some y->Qo w X y (f j)):x.ax=true:=by
 by_cases ha:∃cs,x= .agg cs
 ·obtain⟨cs,rfl⟩:=ha;rfl
 ·have hc:x.cells=[x]:=by
   cases x with
   |agg cs=>exact absurd ⟨cs,rfl⟩ ha
   |_=>rfl
  have:=hr 0 x (by rw[hc];rfl);exact aV.data (aV.mr this)
theorem Bw{e:Nat}{px:PV}{v:Value}{ys:List PV}{e':Nat}(h:Qv C ρ fr hp a.tmps w)(hx:Qh C ρ hp w px v)(hs:fK hp px=some (e',ys))(h0:0<e)(jC:e'=e∨ys=[]):
  ∃ad cap,v= .slice ad ys.length cap/\(ys≠[]->∃(b off:Nat)(f:Nat->Value),ad=some ⟨b,off,none⟩/\(∀k,k<ys.length*e->w.cell? ⟨b,off+k,none⟩=some (f k))/\
   ∀(i:Nat)(y:PV),ys[i]? =some y->y.cells.length=e/\y.ax=true/\∀(j:Nat)(z:PV),y.cells[j]? =some z->Qo w (ay C ρ hp) z (f (i*e+j))):=by
 cases px with
 |aa=>simp[fK]at hs;obtain⟨rfl,rfl⟩:=hs;exact⟨none,0,hx.qT,fun hn=>absurd rfl hn⟩
 | sl e2 xs=>
  simp[fK]at hs;obtain⟨rfl,rfl⟩:=hs;have aG:Qo w (ay C ρ hp) (.sl e2 xs) v:=hx;cases aG with
  |gB _ ad cap hc=>exact⟨ad,cap,rfl,fun hn=>absurd rfl hn⟩
  | sl _ _ b off cap vs hX hb hl hc he hv hr=>
   refine⟨_,cap,rfl,fun hn=>?_⟩;obtain rfl:e2=e:=jC.resolve_right hn;refine⟨b,off,fun k=>vs (k/e2) (k%e2),rfl,fun k hk=>?_,fun i y hy=>?_⟩
   ·have h1:k/e2<xs.length:=(Ka5 h0).2 hk;have h2:=Kbl k h0;have:=hv _ h1 _ h2;rw[KbJ,KaP,Ka9]at this;exact this
   ·have dt:=he i y hy;refine⟨dt,XE dt h0 (hr i y hy),fun j z hz=>?_⟩;have hj:j<e2:=by have:=(Kac.1 hz).1;omega
    show Qo w _ z (vs ((i*e2+j)/e2) ((i*e2+j)%e2));rw[Ov hj,IA hj];exact hr i y hy j z hz
 | ao β o n=>
  simp only[fK,Kaa,Prod.mk.injEq]at hs;obtain⟨hb,ah,Eb,rfl⟩:=hs;obtain⟨cl,g1,g2,g3⟩:=hx;rw[ah]at g1;cases g1;have hlen:((hb.xs.drop o).take n).length=n:=by simp;omega
  rcases g3 with⟨g3,rfl,rfl,rfl⟩|⟨b,cap,g3,rfl,g5,g6⟩
  ·exact⟨none,0,by simp,fun hn=>absurd (by simp) hn⟩
  ·refine⟨_,cap,by rw[hlen],fun hn=>?_⟩;have aT:=h.own β hb ah;have aK:=aT.b8;rw[g3]at aK;obtain⟨_,ak,cur,di,c1,c2,c3,c4,c5⟩:=aK;have Kj:hb.e=e:=by
    rcases jC with jC|jC
    ·omega
    ·exact absurd jC hn
   refine⟨b,o*hb.e,fun k=>cur.getD (o*hb.e+k) undef,rfl,fun k hk=>?_,fun i y hy=>?_⟩
   ·rw[hlen]at hk;have:(o+n)*e<=di*e:=Kal e (by omega);rw[Kax]at this;exact gT c1 (by rw[c2,Kj];omega)
   ·have hi:i<n:=by have:=(Kac.1 hy).1;omega
    rw[Kav hi,KaO]at hy;obtain⟨l1,l2⟩:=aT.len _ y hy;refine⟨by omega,l2,fun j z hz=>?_⟩;have:=c5 _ y hy j z hz;rw[Kax,KbJ]at this
    rwa[Kj]at this⊢
 |_=>simp[fK]at hs
theorem Gb{P:Program}{t ty e:TypeId}{i:TypeInfo}(ht:P.underlying t=some (.slice e))(hi:P.info? e=some i){base ad:Option Addr}{n cap c:Nat}(hle:n<=cap)(w:World):
  (Builtin.append_ #[t,t] ty #[.slice base n cap,.slice ad 0 c]).run P w= .ok (.slice base n cap) w:=by
 cases ad<;>cases base<;>simp[Builtin.append_,run_underlying ht,sizeOf,typeInfo,hi,Builtin.lenOf,Builtin.firstCells,hle,storeCells,loadCells,loadCellsFrom]
theorem n6{P:Program}{o:Oper}{s x:Operand}{t:TypeId}(ho:o.op= .call { callee:=.builtin .append,args:= #[s,x],argTypes:= #[t,t] }){vs vx v:Value}{w w':World}(es:a.eval s=vs)(ex:a.eval x=vx)
  (hr:(Builtin.append_ #[t,t] o.type #[vs,vx]).run P w= .ok v w'):(execOp a.eval o).run P w= .ok (.value v) w':=by
 unfold execOp;simp only[ho,resolve,Kaj,KaK,Kah,invoke,builtin];simp[es,ex,hr]
def dW(f:Nat->Value)(n:Nat):List Value:=(List.range n).map f
theorem qY(f:Nat->Value)(n:Nat):(dW f n).length=n:=by simp[dW]
theorem s6{f:Nat->Value}{n j:Nat}{u:Value}(h:(dW f n)[j]? =some u):j<n/\u=f j:=by
 have hj:j<n:=by have:=(Kac.1 h).1;simpa[dW]using this
 simp only[dW,Kap,Kcj hj,KbL,Kaq]at h;exact⟨hj,h.symm⟩
theorem wa{f:Nat->Value}{n j:Nat}(h:j<n):(dW f n).getD j undef=f j:=by simp[dW,Kad,h]
theorem pk(l:List Value)(k:Nat):l.toArray.getD k undef=l.getD k undef:=by simp[KaA,Kad]
theorem gD(xs ys:Array Value)(k:Nat):(xs++ys).getD k undef=if k<xs.size then xs.getD k undef else ys.getD (k-xs.size) undef:=by simp only[KaA,Array.getElem?_append];split<;>rfl
theorem pC{n m e i j:Nat}(h0:i<m)(hj:j<e):i*e+j<m*e/\(n+i)*e+j=n*e+(i*e+j):=by
 constructor
 ·have:(i+1)*e<=m*e:=Kal e h0;rw[Kax]at this;omega
 ·rw[Kax];omega
theorem m7{β:Nat}{p:PV}{v:Value}(h:bZ C ρ hp w p v):bZ C ρ hp w (eY β p) v/\∀γ∈(eY β p).cA,γ≠β:=by
 cases p with
 | ao bd o n=>
  simp only[eY];split
  ·exact⟨trivial,fun γ af=>by cases af⟩
  ·rename_i a9;exact⟨h,fun γ af=>by simp[PV.cA]at af;subst af;exact a9⟩
 | aB aO o n=>
  simp only[eY];split
  ·exact⟨trivial,fun γ af=>by cases af⟩
  ·rename_i a9;exact⟨h,fun γ af=>by simp[PV.cA]at af;subst af;exact a9⟩
 |np=>cases h
 |_=>exact⟨h,fun γ af=>by cases af⟩
theorem lC{l:List PV}{f:PV->PV}{i:Nat}{y:PV}(h:(l.map f)[i]? =some y):∃x,l[i]? =some x/\y=f x:=by simp only[Kap,Kaa]at h;obtain⟨x,h1,h2⟩:=h;exact⟨x,h1,h2.symm⟩
theorem rj{β:Nat}:r8 C ρ hp w β fr (dO β fr):=by
 intro i v h;unfold dO;generalize fr i=p at h;have kill:cn β p=bf β p->(∀γ∈p.aI,γ≠β)->Qh C ρ hp w (cn β p) v/\(∀γ∈(cn β p).refs,γ≠β)/\∀γ∈(cn β p).aI,γ≠β:=fun e hs=>by
  rw[e];refine⟨Qh.kill h,fun γ af=>(G4 γ af).1,fun γ af=>?_⟩;unfold bf at af;split at af
  ·cases af
  ·exact hs γ af
 cases p with
 | az γ e ty xs=>
  simp only[cn];split
  ·exact⟨trivial,fun γ af=>(by cases af),fun γ af=>by cases af⟩
  ·rename_i a9;obtain⟨h0,he,b,hb,cur,cap,h1,h2,h3,h4,h5,h6,h7,h8,h9,bx,cx⟩:=h;have lY:∀(i:Nat)(x:PV),xs[i]? =some x->(dX (x.aL.map (eY β))).aL=x.aL.map (eY β):=fun i x hi=>G7 fun c hc=>by obtain⟨d,hd,rfl⟩:=KaM.1 hc;obtain⟨j,hj⟩:=Kat hd;exact(m7 (cx i x hi j d hj)).1.aL
   refine⟨⟨h0,he,b,hb,cur,cap,h1,h2,h3,h4,h5,h6,h7,by simpa using h8,h9,fun i x hi=>?_,fun i x hi j y hy=>?_⟩,fun γ af=>(by cases af),fun aO af=>?_⟩
   ·obtain⟨x0,bG,rfl⟩:=lC hi;rw[lY i x0 bG,Ka1];exact bx i x0 bG
   ·obtain⟨x0,bG,rfl⟩:=lC hi;rw[lY i x0 bG]at hy;obtain⟨y0,cz,rfl⟩:=lC hy;exact(m7 (cx i x0 bG j y0 cz)).1
   ·rcases KaH.1 af with rfl|af
    ·exact a9
    ·obtain⟨x,hx,af⟩:=Kam.1 af;obtain⟨y,hy,af⟩:=Kam.1 af;obtain⟨i,hi⟩:=Kat hx;obtain⟨x0,bG,rfl⟩:=lC hi;rw[lY i x0 bG]at hy;obtain⟨j,hj⟩:=Kat hy;obtain⟨y0,cz,rfl⟩:=lC hj;exact(m7 (cx i x0 bG j y0 cz)).2 aO af
 | aE cs=>
  obtain⟨vs,rfl,h1,h2⟩:=h;refine⟨⟨vs,rfl,by simpa using h1,fun i x hi=>?_⟩,fun γ af=>(by cases af),fun γ af=>?_⟩
  ·obtain⟨x0,bG,rfl⟩:=lC hi;exact(m7 (h2 i x0 bG)).1
  ·obtain⟨x,hx,af⟩:=Kam.1 af;obtain⟨i,hi⟩:=Kat hx;obtain⟨x0,bG,rfl⟩:=lC hi;exact(m7 (h2 i x0 bG)).2 γ af
 | cW cs=>
  obtain⟨vs,rfl,h1,h2⟩:=h;refine⟨⟨vs,rfl,by simpa using h1,fun i x hi=>?_⟩,fun γ af=>(by cases af),fun γ af=>?_⟩
  ·obtain⟨x0,bG,rfl⟩:=lC hi;exact(m7 (h2 i x0 bG)).1
  ·obtain⟨x,hx,af⟩:=Kam.1 af;obtain⟨i,hi⟩:=Kat hx;obtain⟨x0,bG,rfl⟩:=lC hi;exact(m7 (h2 i x0 bG)).2 γ af
 | cj cs q=>
  obtain⟨vs,u,rfl,h1,h2,h3⟩:=h;refine⟨⟨vs,u,rfl,by simpa using h1,fun i x hi=>?_,h3⟩,fun γ af=>(by cases af),fun γ af=>?_⟩
  ·obtain⟨x0,bG,rfl⟩:=lC hi;exact(m7 (h2 i x0 bG)).1
  ·obtain⟨x,hx,af⟩:=Kam.1 af;obtain⟨i,hi⟩:=Kat hx;obtain⟨x0,bG,rfl⟩:=lC hi;exact(m7 (h2 i x0 bG)).2 γ af
 |aB γ o n=>
  simp only[cn];split
  ·exact⟨trivial,fun γ af=>(by cases af),fun γ af=>by cases af⟩
  ·rename_i a9;exact⟨h,fun γ af=>(by cases af),fun aO af=>by simp[PV.aI]at af;subst af;exact a9⟩
 |np γ o n=>
  simp only[cn];split
  ·exact⟨trivial,fun γ af=>(by cases af),fun γ af=>by cases af⟩
  ·rename_i a9;exact⟨h,fun γ af=>(by cases af),fun aO af=>by simp[PV.aI]at af;subst af;exact a9⟩
 | fn f first cap=>
  by_cases hc:(first.flatMap PV.cV++cap.flatMap PV.cV).contains β=true
  ·simp only[cn,hc,if_true];exact⟨trivial,fun γ af=>(by cases af),fun γ af=>by cases af⟩
  ·exact kill (by simp only[cn,hc];rfl) (fun γ af e=>hc (by subst e;exact List.contains_iff_mem.2 af))
 |_=>exact kill rfl (fun γ af=>by cases af)
end Go.FW
namespace Go.FW
open Go
variable {C : Ctx} {ρ : Nat -> Option Nat} {fr : Fr} {hp : HP} {w : World} {a : Act} {K : Qg}
theorem Jk{o:Oper}{s x:Operand}{t e:TypeId}{n by_:Nat}{z:PV}{px:PV}{ys:List PV}{e' d:Nat}{β:Nat}{aq:Fr}{Q:Exit->Act->World->Prop}
  (ho:o.op= .call { callee:=.builtin .append,args:= #[s,x],argTypes:= #[t,t] }) (hd:o.dst=some d) (ak:d<C.N) (aH:a.defers=[]) (h:Qv C ρ fr hp a.tmps w)
  (hu:C.P.underlying t=some (.slice e)) (hz:fZ C.P e=some (n,by_,z)) (hx:Qh C ρ hp w px (a.eval x)) (lj:fK hp px=some (e',ys)) (h0:0<n) (gw:z.cells.length=n) (jC:e'=n∨ys=[])
  (es:a.eval s= .slice none 0 0) (hb:ys.length*by_<=140737488355328) (hm:ys.length<=9223372036854775807)
  (l0:r8 C ρ hp w β fr aq) (hB:aF β=false)
  (hK:K (ae aq d (.ms β ys.length)) (Qi hp β ⟨n,e,ys,false⟩)):o.wp C.P a w (bY C false w K) Q:=by
 obtain⟨ti,zv,i1,i2,i3,i4,i5⟩:=nn hz;obtain⟨ad,cap,ex,uK⟩:=Bw h hx lj h0 jC;by_cases mo:ys=[]
 ·subst mo;have bz:=Gb (P:=C.P) (ty:=o.type) (ad:=ad) (c:=cap) hu i1 (base:=none) (n:=0) (cap:=0) (Kae 0) w;have hs:=h.sS (w':=w) β none ⟨n,e,[],false⟩ hB l0 (Ext.refl _ _) (by simp) h0 (by simp) (by simp) (by simp);refine fk (n6 ho es ex bz) (bY.gS hd ak aH hs (by simp) ?_ hK);exact⟨⟨n,e,[],false⟩,by simp[Qi],by simp,.inl ⟨eH _ _ _,rfl,rfl,rfl⟩⟩
 ·obtain⟨b,off,f,rfl,hf,bK⟩:=uK mo;have ma:0<ys.length:=List.length_pos_iff.2 mo;have bz:=run_append_nil (P:=C.P) w t o.type e ti zv hu i1 i2 ⟨b,off,none⟩ ys.length cap (dW f (ys.length*n)) (by rw[qY,i3])
   (fun j v hj=>by obtain⟨cR,rfl⟩:=s6 hj;rw[Kbz];exact hf j cR) ma (by omega) (by rw[i4];omega)
  have fc:=grownCap_ge w ys.length 0 e;have iU:=grownCap_le_maxLen w ys.length 0 e (by rw[iB];exact hm);generalize grownCap w ys.length 0 e=G at bz fc iU;have nV:zv.cells.size=n:=by have:=(na (w:=w) (X:=ay C ρ hp) i5).cells.1;omega
  obtain⟨hs,fT⟩:=h.qS β hB l0 ⟨n,e,ys,false⟩ ((dW f (ys.length*n)).toArray++Builtin.zeroCells zv.cells (G-ys.length)) G _ (.inr rfl)
   (by simp[qY,size_zeroCells,nV,<-Nat.add_mul];congr 1;omega) fc iU h0 (fun i y hy=>⟨(bK i y hy).1,(bK i y hy).2.1⟩)
   (fun i y hy j z hz=>by
    have hi:i<ys.length:=(Kac.1 hy).1;have hj:j<n:=by have:=(Kac.1 hz).1;have:=(bK i y hy).1;omega
    obtain⟨q1,_⟩:=pC (n:=0) hi hj;show Qo w _ z (Array.getD _ (i*n+j) undef);rw[gD,if_pos (by simpa[qY]using q1)];have:=(bK i y hy).2.2 j z hz;rw[pk,wa q1];exact this)
  refine fk (n6 ho es ex bz) (bY.gS hd ak aH hs (by simp) ?_ hK);exact⟨⟨n,e,ys,false⟩,by simp[Qi],by simp,.inr ⟨w.heap.size,G,eH _ _ _,by simp,⟨_,e,ji w.drew _,by simp[qY,size_zeroCells,nV,<-Nat.add_mul];congr 1;omega⟩,by omega⟩⟩
theorem Jl{o:Oper}{s x:Operand}{t e:TypeId}{n by_:Nat}{z:PV}{px:PV}{ys:List PV}{e' d:Nat}{β m:Nat}{hb:HB}{aq:Fr}{Q:Exit->Act->World->Prop}
  (ho:o.op= .call { callee:=.builtin .append,args:= #[s,x],argTypes:= #[t,t] }) (hd:o.dst=some d) (ak:d<C.N) (aH:a.defers=[]) (h:Qv C ρ fr hp a.tmps w)
  (hu:C.P.underlying t=some (.slice e)) (hz:fZ C.P e=some (n,by_,z)) (hx:Qh C ρ hp w px (a.eval x)) (lj:fK hp px=some (e',ys)) (h0:0<n) (gw:z.cells.length=n) (jC:e'=n∨ys=[])
  (hs:Qh C ρ hp w (.ms β m) (a.eval s)) (l0:r8 C ρ hp w β fr aq) (hB:aF β=false) (ah:hp β=some hb) (iV:hb.fz=false) (hbe:hb.e=n) (ss:hb.ty=e) (Eo:m<=hb.xs.length)
  (DV:(m+ys.length)*by_<=140737488355328) (uY:m+ys.length<=9223372036854775807)
  (hK:K (ae aq d (.ms β (m+ys.length))) (Qi hp β ⟨n,e,hb.xs.take m++ys,false⟩)):o.wp C.P a w (bY C false w K) Q:=by
 obtain⟨cl,g1,g2,g3⟩:=hs;rw[ah]at g1;cases g1;have mX:(hb.xs.take m).length=m:=by simp;omega
 rw[Ka0]at g2;rcases g3 with⟨g3,es,rfl,_⟩|⟨b,cap,g3,es,g5,g6⟩
 ·simp only[Ka0,Kb0,KaC]at hK DV uY;exact Jk ho hd ak aH h hu hz hx lj h0 gw jC es DV uY l0 hB hK
 rw[Kb8]at es;rw[Ka0]at g5 g6;obtain⟨ti,zv,i1,i2,i3,i4,i5⟩:=nn hz;obtain⟨ad,vD,ex,uK⟩:=Bw h hx lj h0 jC;have aT:=h.own β hb ah;have aK:=aT.b8;rw[g3]at aK;obtain⟨b1,b2,cur,di,c1,c2,c3,c4,c5⟩:=aK;replace b1:=Ctx.oK b1 hB;obtain⟨cur',ty',d1,d2⟩:=g5;rw[c1]at d1;cases d1;obtain rfl:di=cap:=Kbr aT.gh (by omega);subst ss;subst hbe;have uP:ay C ρ hp b:=.inr ⟨β,hb,ah,iV,g3⟩;have sB:∀(i:Nat)(x:PV),(hb.xs.take m++ys)[i]? =some x->(i<m/\hb.xs[i]? =some x)∨(m<=i/\ys[i-m]? =some x):=by
  intro i x aG;rw[KaN,mX]at aG;by_cases hi:i<m
  ·rw[if_pos hi,Kav hi]at aG;exact .inl ⟨hi,aG⟩
  ·rw[if_neg hi]at aG;exact .inr ⟨by omega,aG⟩
 by_cases mo:ys=[]
 ·subst mo;have bz:=Gb (P:=C.P) (ty:=o.type) (ad:=ad) (c:=vD) hu i1 (base:=some ⟨b,0,none⟩) (n:=m) (cap:=di) (by omega) w;have hr:=h.sS (w':=w) β (some b) ⟨hb.e,hb.ty,hb.xs.take m++[],false⟩ hB l0 (Ext.refl _ _) (fun c hc=>by cases hc;exact⟨b1,b2,.inr ⟨g3,hb,ah,iV⟩⟩) aT.gh
   (fun i x aG=>by
    rcases sB i x aG with⟨_,hq⟩|⟨_,hq⟩
    ·exact aT.len i x hq
    ·simp at hq) (by simp)
   (fun c hc=>by
    cases hc;refine⟨cur,di,c1,c2,by simp;omega,c4,fun i x aG j y hy=>?_⟩;rcases sB i x aG with⟨_,hq⟩|⟨_,hq⟩
    ·exact c5 i x hq j y hy
    ·simp at hq)
  refine fk (n6 ho es ex bz) (bY.gS hd ak aH hr (by simp) ?_ hK);exact⟨⟨hb.e,hb.ty,hb.xs.take m++[],false⟩,by simp[Qi],by simp;omega,.inr ⟨b,di,eH _ _ _,by simp,⟨cur,hb.ty,c1,by rw[Ka0];exact c2⟩,by omega⟩⟩
 obtain⟨sb,off,f,rfl,hf,bK⟩:=uK mo;have ma:0<ys.length:=List.length_pos_iff.2 mo;have sE:∀(j:Nat)(v:Value),(dW f (ys.length*hb.e))[j]? =some v->w.cell? ((⟨sb,off,none⟩:Addr).add j)=some v:=fun j v hj=>by obtain⟨cR,rfl⟩:=s6 hj;rw[Kbz];exact hf j cR
 have sF:∀u∈dW f (ys.length*hb.e),u.oneCell'=true:=by
  intro u jc;obtain⟨k,hk⟩:=Kat jc;obtain⟨du,rfl⟩:=s6 hk;have hi:k/hb.e<ys.length:=(Ka5 h0).2 du;have hj:=Kbl k h0;obtain⟨l1,l2,l3⟩:=bK _ _ (Kaf hi);have nM:k%hb.e<(ys[k/hb.e]'hi).cells.length:=by omega
  have:=l3 _ _ (Kaf nM);rw[KaP,Ka9]at this;exact this.m5.1
 have iX:=qY f (ys.length*hb.e);have uZ:m*hb.e+(dW f (ys.length*hb.e)).length=(m+ys.length)*hb.e:=by rw[iX,Kax]
 by_cases sJ:m+ys.length<=di
 ·have kX:m*hb.e+(dW f (ys.length*hb.e)).length<=cur.size:=by rw[uZ,c2];exact Kal _ sJ
  have bz:=run_append_room (P:=C.P) w t o.type hb.ty ti hu i1 b m di cur c1 ⟨sb,off,none⟩ ys.length vD (dW f (ys.length*hb.e)) (by rw[iX,i3]) sE sF sJ (by rw[i3];exact kX);rw[i3]at bz;have gK:=tc (cur:=cur) (p:=m*hb.e) (cs:=dW f (ys.length*hb.e)) kX;have fg:=fun k hk=>s9 (cur:=cur) (p:=m*hb.e) (cs:=dW f (ys.length*hb.e)) (k:=k) kX hk;generalize hW:(cur.toList.take (m*hb.e)++dW f (ys.length*hb.e)++cur.toList.drop (m*hb.e+(dW f (ys.length*hb.e)).length)).toArray=W at bz gK fg;have hr:=h.sS (w':=w.setRow b W) β (some b) ⟨hb.e,hb.ty,hb.xs.take m++ys,false⟩ hB l0 ((s5 w b W).mono (fun i _ hi=>⟨hi▸g3,hb,ah,iV⟩))
   (fun c hc=>by cases hc;exact⟨b1,by simpa using b2,.inr ⟨g3,hb,ah,iV⟩⟩) aT.gh
   (fun i x aG=>by
    rcases sB i x aG with⟨_,hq⟩|⟨_,hq⟩
    ·exact aT.len i x hq
    ·exact⟨(bK _ x hq).1,(bK _ x hq).2.1⟩) (by simp)
   (fun c hc=>by
    cases hc;refine⟨W,di,setRow_heap w b cur W hb.ty _ c1,by rw[gK];exact c2,by simp;omega,c4,fun i x aG j y hy=>?_⟩;show Qo w _ y (Array.getD W (i*hb.e+j) undef);rcases sB i x aG with⟨hi,hq⟩|⟨hi,hq⟩
    ·have hj:j<hb.e:=by have:=(Kac.1 hy).1;have:=(aT.len i x hq).1;omega
     have q1:=(pC (n:=0) hi hj).1;have q2:m*hb.e<=di*hb.e:=Kal _ (by omega);rw[fg _ (by omega),if_neg (by omega)];exact c5 i x hq j y hy
    ·have kq:i-m<ys.length:=(Kac.1 hq).1;have hj:j<hb.e:=by have:=(Kac.1 hy).1;have:=(bK _ x hq).1;omega
     obtain⟨q1,q2⟩:=pC (n:=m) kq hj;rw[show m+(i-m)=i by omega]at q2;rw[fg _ (by omega),if_pos (by omega),q2,show m*hb.e+((i-m)*hb.e+j)-m*hb.e=(i-m)*hb.e+j by omega,wa q1];exact(bK _ x hq).2.2 j y hy)
  refine fk (n6 ho es ex bz) (bY.gS hd ak aH hr (by simp) ?_ hK);exact⟨⟨hb.e,hb.ty,hb.xs.take m++ys,false⟩,by simp[Qi],by simp;omega,.inr ⟨b,di,eH _ _ _,by simp,⟨W,hb.ty,setRow_heap w b cur W hb.ty _ c1,by rw[gK,Ka0];exact c2⟩,by omega⟩⟩
 ·have adm:m*hb.e<=cur.size:=by rw[c2];exact Kal _ (by omega)
  have dZ:(cur.toList.take (m*hb.e)).length=m*hb.e:=by simp;omega
  have holds:∀(j:Nat)(v:Value),(cur.toList.take (m*hb.e))[j]? =some v->w.cell? ((⟨b,0,none⟩:Addr).add j)=some v:=fun j v hj=>by
   have cR:j<m*hb.e:=by have:=(Kac.1 hj).1;omega
   rw[Kav cR]at hj;rw[Kbz,Ka0,gT c1 (by omega),vW cur j v hj]
  have bz:=run_append_grow (P:=C.P) w t o.type hb.ty ti zv hu i1 i2 ⟨b,0,none⟩ m di (cur.toList.take (m*hb.e)) (by rw[dZ,i3]) holds ⟨sb,off,none⟩ ys.length vD (dW f (ys.length*hb.e)) (by rw[iX,i3]) sE
   (by omega) (by omega) (growslice_fits (by omega) (by rw[i4];exact DV))
  have fc:=grownCap_ge w (m+ys.length) di hb.ty;have iU:=grownCap_le_maxLen w (m+ys.length) di hb.ty (by rw[iB];exact uY);generalize grownCap w (m+ys.length) di hb.ty=G at bz fc iU;have nV:zv.cells.size=hb.e:=by have:=(na (w:=w) (X:=ay C ρ hp) i5).cells.1;omega
  have gI:((cur.toList.take (m*hb.e)).toArray++(dW f (ys.length*hb.e)).toArray++Builtin.zeroCells zv.cells (G-(m+ys.length))).size=G*hb.e:=by simp only[KbT,KbD,dZ,iX,size_zeroCells,nV,<-Nat.add_mul];congr 1;omega
  obtain⟨hr,fT⟩:=h.qS β hB l0 ⟨hb.e,hb.ty,hb.xs.take m++ys,false⟩ _ G _ (.inr rfl) gI (by simp;omega) iU aT.gh
   (fun i x aG=>by
    rcases sB i x aG with⟨_,hq⟩|⟨_,hq⟩
    ·exact aT.len i x hq
    ·exact⟨(bK _ x hq).1,(bK _ x hq).2.1⟩)
   (fun i x aG j y hy=>by
    show Qo w _ y (Array.getD _ (i*hb.e+j) undef);rcases sB i x aG with⟨hi,hq⟩|⟨hi,hq⟩
    ·have hj:j<hb.e:=by have:=(Kac.1 hy).1;have:=(aT.len i x hq).1;omega
     have q1:=(pC (n:=0) hi hj).1;rw[gD,if_pos (by simp only[KbT,KbD,dZ];omega),gD,if_pos (by simp only[KbD,dZ];omega),pk,
      Kad,Kav q1]
     have:=c5 i x hq j y hy;simpa[KaA]using this
    ·have kq:i-m<ys.length:=(Kac.1 hq).1;have hj:j<hb.e:=by have:=(Kac.1 hy).1;have:=(bK _ x hq).1;omega
     obtain⟨q1,q2⟩:=pC (n:=m) kq hj;rw[show m+(i-m)=i by omega]at q2;rw[q2,gD,if_pos (by simp only[KbT,KbD,dZ,iX];omega),gD,if_neg (by simp only[KbD,dZ];omega),pk];simp only[KbD,dZ];rw[show m*hb.e+((i-m)*hb.e+j)-m*hb.e=(i-m)*hb.e+j by omega,wa q1];exact(bK _ x hq).2.2 j y hy)
  refine fk (n6 ho es ex bz) (bY.gS hd ak aH hr (by simp) ?_ hK);exact⟨⟨hb.e,hb.ty,hb.xs.take m++ys,false⟩,by simp[Qi],by simp;omega,.inr ⟨w.heap.size,G,eH _ _ _,by simp,⟨_,hb.ty,ji w.drew _,by rw[Ka0];exact gI⟩,by omega⟩⟩
theorem MQ{o:Oper}{s x:Operand}{t e:TypeId}{n by_:Nat}{z:PV}{ps px:PV}{d:Nat}{Q:Exit->Act->World->Prop}
  (ho:o.op= .call { callee:=.builtin .append,args:= #[s,x],argTypes:= #[t,t] }) (hd:o.dst=some d) (ak:d<C.N) (aH:a.defers=[]) (h:Qv C ρ fr hp a.tmps w)
  (hu:C.P.underlying t=some (.slice e)) (hz:fZ C.P e=some (n,by_,z)) (gw:z.cells.length=n) (hs:Qh C ρ hp w ps (a.eval s)) (hx:Qh C ρ hp w px (a.eval x))
  (aa2:fK hp px=none->rZ n by_ e ps px d fr hp K->o.wp C.P a w (bY C false w K) Q) (hv:fl n by_ e ps px d fr hp K):o.wp C.P a w (bY C false w K) Q:=by
 unfold fl at hv;split at hv
 ·exact aa2 (by assumption) hv
 ·rename_i e' ys lj;obtain⟨h0,jC,hv⟩:=hv;cases ps with
  |aa=>obtain⟨k1,k2,hK⟩:=hv;exact Jk (β:=d) ho hd ak aH h hu hz hx lj h0 gw jC hs.qT k1 k2 (wv (r9 ak)) (rJ (r9 ak)) hK
  | ao β o' m=>
   cases o' with
   |succ o'=>exact hv.elim
   |zero=>
   simp only at hv;split at hv
   ·rename_i hb ah;rcases hv with⟨k0,k1,k2,k3,k4,k5,k6,hK⟩|⟨k0,kY,⟨_,k1,k2,k3,k4,k5,k6⟩,hK⟩
    ·exact Jl ho hd ak aH h hu hz hx lj h0 gw jC hs (wv k0) (rJ k0) ah k1 k2 k3 k4 k5 k6 hK
    ·exact Jl ho hd ak aH h hu hz hx lj h0 gw jC hs rj kY ah k1 k2 k3 k4 k5 k6 hK
   ·exact hv.elim
  |_=>exact hv.elim
theorem Xn{P:Program}{t ty e:TypeId}{n:Nat}(ht:P.underlying t=some (.slice e))(hn:cU P e=some n){base ad:Option Addr}{dl dc sl sc:Nat}(hz:Nat.min sl dl=0)(w:World):
  (Builtin.copy_ #[t,t] ty #[.slice base dl dc,.slice ad sl sc]).run P w= .ok (goInt 0) w:=by
 have hs:=gV hn;cases ad<;>cases base<;>simp[Builtin.copy_,run_underlying ht,hs,Builtin.lenOf,Builtin.firstCells,hz,storeCells,loadCells,loadCellsFrom]
theorem Gy{P:Program}{o:Oper}{s x:Operand}{t:TypeId}(ho:o.op= .call { callee:=.builtin .copy,args:= #[s,x],argTypes:= #[t,t] }){vs vx v:Value}{w w':World}(es:a.eval s=vs)(ex:a.eval x=vx)
  (hr:(Builtin.copy_ #[t,t] o.type #[vs,vx]).run P w= .ok v w'):(execOp a.eval o).run P w= .ok (.value v) w':=by
 unfold execOp;simp only[ho,resolve,Kaj,KaK,Kah,invoke,builtin];simp[es,ex,hr]
theorem Xo{P:Program}(w:World)(t ty elem:TypeId)(g o DD Zv n:Nat)(a:Addr)(EV aci:Nat)(cur:Array Value)(ty':TypeId)(cs:List Value)
  (hu:P.underlying t=some (.slice elem)) (hs:cU P elem=some n)
  (hg:w.heap[g]? =some (.cells cur ty' (0,0))) (hn:cs.length=Nat.min EV DD*n)
  (lj:∀j v,cs[j]? =some v->w.cell? (a.add j)=some v) (kX:o+cs.length<=cur.size) (h1:∀v∈cs,v.oneCell'=true):
  (Builtin.copy_ #[t,t] ty #[.slice (some ⟨g,o,none⟩) DD Zv,.slice (some a) EV aci]).run P w=
   .ok (goInt (Nat.min EV DD)) (w.setRow g (cur.toList.take o++cs++cur.toList.drop (o+cs.length)).toArray):=by
 have hl:=run_loadCells_list (P:=P) w a cs lj;have aR:=run_storeCells_at P g o ty' cs 0 cur w hg (by simpa using kX) h1;have hz:=gV hs;simp[Builtin.copy_,run_underlying hu,hz,Builtin.lenOf,Builtin.firstCells,<-hn,hl,aR]
theorem MR{o:Oper}{s x:Operand}{t e:TypeId}{n:Nat}{ps px:PV}{d:Nat}{Q:Exit->Act->World->Prop}
  (ho:o.op= .call { callee:=.builtin .copy,args:= #[s,x],argTypes:= #[t,t] }) (hd:o.dst=some d) (ak:d<C.N) (aH:a.defers=[]) (h:Qv C ρ fr hp a.tmps w)
  (hu:C.P.underlying t=some (.slice e)) (hn:cU C.P e=some n) (hs:Qh C ρ hp w ps (a.eval s)) (hx:Qh C ρ hp w px (a.eval x))
  (hv:oA n ps px d fr hp K):o.wp C.P a w (bY C false w K) Q:=by
 unfold oA at hv;split at hv
 ·rename_i e' ys β m lj;split at hv
  ·rename_i hb ah;obtain⟨k0,k1,k2,k3,k4,hK⟩:=hv;obtain⟨cl,g1,g2,g3⟩:=hs;rw[ah]at g1;cases g1;obtain⟨ad,vD,ex,uK⟩:=Bw (e:=n) h hx lj k0 k3;have aT:=h.own β hb ah;have zero:Nat.min ys.length m=0->o.wp C.P a w (bY C false w K) Q:=by
    intro h0;have bz:∀base cap,a.eval s= .slice base m cap->(execOp a.eval o).run C.P w= .ok (.value (goInt 0)) w:=fun base cap es=>
     Gy ho es ex (Xn (P:=C.P) (ty:=o.type) hu hn h0 w)
    have e2:({ hb with xs:=ys.take m++hb.xs.drop ys.length }:HB)=hb:=by
     have:ys.take m++hb.xs.drop ys.length=hb.xs:=by
      rcases Nat.min_eq_zero_iff.1 h0 with hq|hq
      ·have:ys=[]:=KbP hq;subst this;simp
      ·have:hb.xs=[]:=KbP (by omega);subst hq;simp[this]
     rw[this]
    have e3:Qi hp β hb=hp:=by
     funext γ;unfold Qi;split
     ·rename_i he;rw[he,ah]
     ·rfl
    rw[e2,e3,show(min (ys.length:Int) (m:Int))=0 by have:min ys.length m=0:=h0;omega]at hK;obtain⟨ad',di,es⟩:=Qh.EM (C:=C) (ρ:=ρ) (hp:=hp) (w:=w) ⟨hb,ah,g2,g3⟩;exact fk (bz _ _ es) (bY.gS hd ak aH h (by simp) (Qh.mkInt _ _) hK)
   by_cases u0:Nat.min ys.length m=0
   ·exact zero u0
   rcases g3 with⟨g3,es,qz,_⟩|⟨b,cap,g3,es,g5,g6⟩
   ·exact(u0 (by rw[qz];simp)).elim
   rw[Kb8]at es;have mo:ys≠[]:=by rintro rfl;exact u0 (by simp)
   obtain⟨sb,off,f,rfl,hf,bK⟩:=uK mo;have aK:=aT.b8;rw[g3]at aK;obtain⟨b1,b2,cur,di,c1,c2,c3,c4,c5⟩:=aK;obtain⟨k,hk⟩:∃k,k=min ys.length m:=⟨_,rfl⟩
   have iX:=qY f (k*n);have qw:k*n<=ys.length*n:=Kal _ (by omega);have sF:∀u∈dW f (k*n),u.oneCell'=true:=by
    intro u jc;obtain⟨q,hq⟩:=Kat jc;obtain⟨fw,rfl⟩:=s6 hq;have hi:q/n<ys.length:=(Ka5 k0).2 (by omega);have hj:=Kbl q k0;obtain⟨l1,l2,l3⟩:=bK _ _ (Kaf hi);have nM:q%n<(ys[q/n]'hi).cells.length:=by omega
    have:=l3 _ _ (Kaf nM);rw[KaP,Ka9]at this;exact this.m5.1
   have hkc:k*n<=di*n:=Kal _ (by omega);have kX:0+(dW f (k*n)).length<=cur.size:=by rw[iX,c2,k2];omega
   have bz:=Xo (P:=C.P) w t o.type e b 0 m cap n ⟨sb,off,none⟩ ys.length vD cur hb.ty (dW f (k*n)) hu hn c1 (by rw[iX,hk])
    (fun j v hj=>by obtain⟨cR,rfl⟩:=s6 hj;rw[Kbz];exact hf j (by omega)) kX sF
   have gK:=tc (cur:=cur) (p:=0) (cs:=dW f (k*n)) kX;have fg:=fun q hq=>s9 (cur:=cur) (p:=0) (cs:=dW f (k*n)) (k:=q) kX hq;generalize hW:(cur.toList.take 0++dW f (k*n)++cur.toList.drop (0+(dW f (k*n)).length)).toArray=W at bz gK fg;have dM:(ys.take m++hb.xs.drop ys.length).length=hb.xs.length:=by simp;omega
   have dj:∀(i:Nat)(x:PV),(ys.take m++hb.xs.drop ys.length)[i]? =some x->(i<k/\ys[i]? =some x)∨(k<=i/\hb.xs[i]? =some x):=by
    intro i x aG;rw[KaN]at aG;have ht:(ys.take m).length=k:=by simp;omega
    rw[ht]at aG;by_cases hi:i<k
    ·rw[if_pos hi,Kav (by omega)]at aG;exact .inl ⟨hi,aG⟩
    ·rw[if_neg hi,KaO]at aG;refine .inr ⟨by omega,?_⟩;have fe:ys.length+(i-k)<hb.xs.length:=(Kac.1 aG).1
     rwa[show ys.length+(i-k)=i by omega]at aG
   have aR:=h.store β b hb { hb with xs:=ys.take m++hb.xs.drop ys.length } ah k1 (by intro e;rw[e]at k4;simp at k4;exact u0 (by simp[k4])) g3 (s5 w b W) rfl dM k1
    (fun i x aG=>by
     rcases dj i x aG with⟨_,hq⟩|⟨_,hq⟩
     ·exact⟨by rw[(bK _ x hq).1];exact k2.symm,(bK _ x hq).2.1⟩
     ·exact aT.len i x hq)
    (fun e' uA cJ=>by obtain⟨cur',ty',d1,d2⟩:=cJ;rw[c1]at d1;cases d1;exact⟨_,_,setRow_heap w b cur _ hb.ty _ c1,by rw[gK];exact d2⟩)
    ⟨W,di,setRow_heap w b cur W hb.ty _ c1,by rw[gK];exact c2,by rw[dM];exact c3,c4,fun i x aG j y hy=>by
     show Qo w _ y (Array.getD W (i*hb.e+j) undef);rcases dj i x aG with⟨hi,hq⟩|⟨hi,hq⟩
     ·have hj:j<n:=by have:=(Kac.1 hy).1;have:=(bK _ x hq).1;omega
      have q1:=(pC (n:=0) hi hj).1;rw[k2,fg _ (by rw[c2,k2];omega),if_pos (by omega),KbX,wa q1];exact(bK _ x hq).2.2 j y hy
     ·have fe:i<hb.xs.length:=(Kac.1 hq).1;have hj:j<hb.e:=by have:=(Kac.1 hy).1;have:=(aT.len i x hq).1;omega
      have:=c5 i x hq j y hy;have q2:k*n<=i*n:=Kal _ hi;have q3:=(pC (n:=0) (show i<di by omega) (show j<n by omega)).1;rw[fg _ (by rw[c2,k2];omega),if_neg (by rw[k2];omega)];exact this⟩
   rw[show(min (ys.length:Int) (m:Int))=((Nat.min ys.length m:Nat):Int)by have:Nat.min ys.length m=min ys.length m:=rfl;omega]at hK;exact fk (Gy ho es ex bz) (bY.gS hd ak aH aR (by simp) (Qh.mkInt _ _) hK)
  ·exact hv.elim
 ·exact hv.elim
theorem YS{o:Oper}{t:TypeId}{parts:Array (Nat×Operand)}{z:PV}{n by_:Nat}{ps:List (Nat×Nat×aD)}{d:Nat}(ho:o.op= .build t parts)(hd:o.dst=some d)(ak:d<C.N)(h:Qv C ρ fr hp a.tmps w)
  (hz:fZ C.P t=some (n,by_,z)) (dC:tW C.P t parts.toList=some ps)
  (hv:oh z.cells.length (ps.map fun p=>(p.1,p.2.1,ev fr p.2.2))/\K (ae fr d (.aE (eZ z.cells ((ps.map fun p=>(p.1,p.2.1,ev fr p.2.2)).map fun p=>(p.1,(cT p.2.2).getD []))))) hp):Q4 C ρ o a w K:=by
 obtain⟨bQ,hK⟩:=hv;obtain⟨ti,zv,i1,i2,i3,i4,i5⟩:=nn hz;have EG:lL (bZ C ρ hp w) z.cells zv.cells:=by have h0:Rows w (ay C ρ hp) z.cells zv.cells:=(na i5).rows;exact⟨h0.1,fun i x hx=>bZ.Lj (h0.2 i x hx)⟩
 have mP:(parts.map fun(x:Nat×Operand)=>(x.1,a.eval x.2)).toList=parts.toList.map fun x=>(x.1,a.eval x.2):=by simp
 have key:∀(f:Nat×Operand->Option (Nat×Nat×aD))(place:Nat->Option (Nat×Nat)),parts.toList.mapM f=some ps->(∀x q,f x=some q->place x.1=some (q.1,q.2.1)/\bp x.2=some q.2.2)->
   ∃cN,Instr.fill place zv.cells (parts.map fun(x:Nat×Operand)=>(x.1,a.eval x.2)).toList=some cN/\
    lL (bZ C ρ hp w) (eZ z.cells ((ps.map fun p=>(p.1,p.2.1,ev fr p.2.2)).map fun p=>(p.1,(cT p.2.2).getD []))) cN:=by
  intro f place hm hf;rw[mP];refine v5 place _ _ _ _ EG (by simp[(iz hm).1]) (fun i p q sH oZ=>?_);simp only[List.map_map,Kap,Kaa]at oZ;obtain⟨q0,gJ,rfl⟩:=oZ;obtain⟨x,hx,kp,rfl⟩:=HM hm sH gJ;obtain⟨f1,f2⟩:=hf x q0 kp;obtain⟨cs,o1,o2,o3⟩:=bQ (q0.1,q0.2.1,ev fr q0.2.2) (KaM.2 ⟨q0,Kag gJ,rfl⟩);simp only[Function.comp]at o1 o2 o3⊢;simp only[o1,Kbm];obtain⟨r1,r2,_⟩:=Jj (bR h f2) o1;exact⟨by rw[o2];exact f1,⟨r1,r2⟩,by rw[o2];exact o3⟩
 have fin:∀cN,(∀w',(Instr.build t (parts.map fun(x:Nat×Operand)=>(x.1,a.eval x.2))).run C.P w'= .ok (.agg cN) w')->
   lL (bZ C ρ hp w) (eZ z.cells ((ps.map fun p=>(p.1,p.2.1,ev fr p.2.2)).map fun p=>(p.1,(cT p.2.2).getD []))) cN->Q4 C ρ o a w K:=by
  intro cN bz hr;refine⟨.agg cN,fun w'=>?_,_,_,by rw[hd];exact h.ae (p:=.aE _) ⟨cN,rfl,hr.1,hr.2⟩ ak,hK⟩;unfold execOp;simp only[ho,Kaj];have:=bz w';rw[show(parts.map fun(x:Nat×Operand)=>(x.1,a.eval x.2))=(parts.map fun x=>match x with|(i,x)=>(i,a.eval x))from rfl]at this;rw[this];rfl
 unfold tW at dC;split at dC
 ·rename_i fs hu;simp only[Kab]at dC;obtain⟨pl,cK,hm⟩:=dC;obtain⟨cN,g1,g2⟩:=key _ (fun i=>pl[i]?) hm (fun x q hq=>by simp only[Kab,Kaa]at hq;obtain⟨r,hr,y,hy,rfl⟩:=hq;exact⟨by simpa using hr,hy⟩);refine fin cN (fun w'=>?_) g2;unfold Instr.build;have eJ:=run_places (P:=C.P) w' fs.toList pl cK;simp[Kaj,pg i1 i2,eV hu,Kbj,eJ]at g1⊢;simp[g1]
 ·rename_i len e hu;simp only[Kab]at dC;obtain⟨m,qz,hm⟩:=dC;obtain⟨cN,g1,g2⟩:=key _ (fun i=>some (i*m,m)) hm (fun x q hq=>by simp only[Kaa]at hq;obtain⟨y,hy,rfl⟩:=hq;exact⟨rfl,hy⟩);refine fin cN (fun w'=>?_) g2;unfold Instr.build;simp only[Kaj,pg i1 i2,eV hu,gV qz,Kah,g1,KaK]
 ·simp at dC
end Go.FW
namespace Go.FW
open Go
variable {C : Ctx} {ρ : Nat -> Option Nat} {fr : Fr} {hp : HP} {tmps : Array Value} {w : World} {a : Act} {K : Qg}
theorem AU{x:PV}(h:iG x=true):∃β n,x= .ao β 0 n/\5000000<=β:=by
 unfold iG at h;split at h
 ·exact⟨_,_,rfl,by simpa using h⟩
 ·cases h
theorem HN{γ:Nat}:fm γ (dO γ fr)=dO γ fr:=by
 funext i;unfold fm dO;generalize fr i=p;cases p with
 |az aO e ty xs=>
  simp only[cn];split
  ·rfl
  ·rename_i a9;simp[fy,a9]
 |aB aO o n=>simp only[cn];split<;>rfl
 |np aO o n=>simp only[cn];split<;>rfl
 |fn f first cap=>
  simp only[cn];split
  ·rfl
  ·unfold bf;split<;>rfl
 |aE cs=>rfl
 |cW cs=>rfl
 |cj cs q=>rfl
 |_=>simp only[cn,bf];split<;>rfl
theorem rz{γ β o n:Nat}{b':Option Nat}{an:HB}{w':World}{v:Value}(h:Qv C ρ fr hp tmps w)(hx:Ext (fun b=>ρ γ=some b/\∃hb,hp γ=some hb/\hb.fz=false) w w')(a9:β≠γ)
  (hr:dh ρ hp w β o n v):dh (rb ρ γ b') (Qi hp γ an) w' β o n v:=
 dh.move hr ⟨kM a9,fun hb ah=>⟨hb,by simp[Qi,a9,ah],rfl,Kae _,fun b cap h1 h2=>
  gU (hx.block b (gY h2) (fun⟨e1,iT,e2,_⟩=>a9 (h.inj β γ b (by simp[ah]) (by simp[e2]) h1 e1))) h2⟩⟩
theorem dh.slice{β o n:Nat}{v:Value}(h:dh ρ hp w β o n v):∃ad m c,v= .slice ad m c:=by
 obtain⟨_,_,_,⟨_,e,_⟩|⟨_,_,_,e,_⟩⟩:=h
 ·exact⟨_,_,_,e⟩
 ·exact⟨_,_,_,e⟩
theorem xq{β:Nat}(h:1000000<=β):bg β=true:=by simp[bg];omega
theorem B9{β:Nat}(h:2000000<=β):aF β=false:=by simp[aF];omega
theorem Qv.yQ{γ b ty cap:Nat}{cur:Array Value}{xs:List PV}(h:Qv C ρ (dO γ fr) hp tmps w)(hB:bg γ=true)(af:hp γ=some ⟨1,ty,[],false⟩)(aU:ρ γ=some b)
  (h1:w.heap[b]? =some (.cells cur ty (0,0))) (h2:cur.size=cap) (h3:xs.length<=cap) (h4:cap<=maxLen) (hr:xs.all iG=true)
  (h6:∀(i β n:Nat),xs[i]? =some (.ao β 0 n)->dh ρ hp w β 0 n (cur.getD i undef)):Qv C ρ (FW.ae (dO γ fr) γ (.az γ 1 ty xs)) hp tmps w:=by
 have mV:∀(i:Nat)(x:PV),xs[i]? =some x->∃β n,x= .ao β 0 n/\5000000<=β:=fun i x hx=>AU (KaB.1 hr _ (Kag hx));have:=h.EN (w':=w) (γ:=γ) (b:=b) (e:=1) (ty:=ty) (xs':=xs) (cur':=cur) (cap:=cap) hB (by omega) af rfl rfl rfl rfl aU (Ext.refl _ _) (fun _ _ h=>h) h1 (by omega) h3 h4
  (fun i x hx=>by obtain⟨β,n,rfl,_⟩:=mV i x hx;rfl)
  (fun i x hx j y hy=>by
   obtain⟨β,n,rfl,ah⟩:=mV i x hx;rw[show(PV.ao β 0 n).aL=[.ao β 0 n]from rfl]at hy;have hj:j<1:=by have:=(Kac.1 hy).1;simpa using this
   obtain rfl:j=0:=by omega
   simp at hy;subst hy;rw[Kb1,KaJ];exact⟨xq (by omega),h6 i β n hx⟩)
 rwa[HN]at this
theorem xr{γ k cap:Nat}{ρ':Nat->Option Nat}{hp':HP}{b ty:Nat}{cur:Array Value}(hB:bg γ=true)(h1:hp' γ=some ⟨1,ty,[],false⟩)(h2:ρ' γ=some b)(h3:w.heap[b]? =some (.cells cur ty (0,0)))(h4:cur.size=cap)(h5:cap<=maxLen)(h6:k<=cap):
  Qh C ρ' hp' w (.aB γ 0 k) (.slice (some ⟨b,0,none⟩) k cap):=
 ⟨hB,⟨1,ty,[],false⟩,b,cap,h1,h2,by simp,⟨cur,ty,h3,by simp[h4]⟩,by omega,h6⟩
theorem MS{o:Oper}{t e:TypeId}{len n by_:Nat}{z:PV}{parts:Array (Nat×Operand)}{ps:List aD}{d:Nat}{Q:Exit->Act->World->Prop}(ho:o.op= .buildSlice t len parts)(hd:o.dst=some d)(ak:d<C.N)(aH:a.defers=[])(h:Qv C ρ fr hp a.tmps w)
  (hu:C.P.underlying t=some (.slice e)) (hz:fZ C.P e=some (n,by_,z)) (nS:parts.toList.map (·.1)=List.range len) (gw:z.cells.length=n) (dC:(parts.toList.mapM fun p=>bp p.2)=some ps)
  (Ke:kT (ps.map (ev fr))=true) (hv:JL n e (ps.map (ev fr)) d fr hp K):o.wp C.P a w (bY C true w K) Q:=by
 obtain⟨rfl,hK⟩:=hv;obtain⟨ti,zv,i1,i2,i3,i4,i5⟩:=nn hz;obtain⟨m1,m2⟩:=iz dC;obtain⟨u,rfl⟩:∃u,ps=[u]:=by
  match ps,Ke with
  | [],hb=>simp[kT]at hb
  | [u],_=>exact⟨u,rfl⟩
  |u::v::ps,hb=>simp[kT]at hb
 have mV:iG (ev fr u)=true:=by simpa[kT]using Ke
 obtain⟨β,m,mP,ah⟩:=AU mV;obtain⟨⟨i,x⟩,qE⟩:∃p,parts.toList=[p]:=by
  match hq:parts.toList with
  | []=>rw[hq]at m1;simp at m1
  | [p]=>exact⟨p,rfl⟩
  |p::q::r=>rw[hq]at m1;simp at m1
 rw[qE]at nS m2;obtain rfl:len=1:=by have:=congrArg List.length nS;simpa using this.symm
 obtain rfl:i=0:=by simpa using nS
 have hxu:bp x=some u:=by obtain⟨x',aG,Et⟩:=m2 0 u rfl;simp at aG;subst aG;exact Et
 have hx:=bR h hxu;rw[mP]at hx;have o0:dh ρ hp w β 0 m (a.eval x):=hx;obtain⟨ad,m',c',hvx⟩:=o0.slice;have hN:=C.hN;have lZ:cm d<5000000:=by unfold cm;omega
 have hB:bg (cm d)=true:=xq (by unfold cm;omega);have hY:aF (cm d)=false:=B9 (by unfold cm;omega);obtain⟨hs,he⟩:=h.qS (cm d) hY rj ⟨1,e,[],false⟩ #[a.eval x] 1 _ (.inl rfl) (by simp) (by simp) (by rw[iB];omega) (by simp) (by simp) (by simp);have dx:=hs.yQ (cur:= #[a.eval x]) (cap:=1) (xs:=[.ao β 0 m]) hB (by simp[Qi]) (eH _ _ _) (ji w _) (by simp) (by simp) (by rw[iB];omega) (by simp[iG,ah]) (fun i bd n' hi=>by
  match i,hi with
  |0,hi=>simp at hi;obtain⟨rfl,rfl⟩:=hi;exact rz h (Ext.alloc w _ _) (by omega) o0
  |i+1,hi=>simp at hi)
 rw[Ka3,Kbf,mP]at hK;refine fk (v:=.slice (some ⟨w.heap.size,0,none⟩) 1 1) ?_ (bY.gS hd ak aH dx (fun _=>he) (xr hB (by simp[Qi]) (eH _ _ _) (ji w _) (by simp) (by rw[iB];omega) (by omega)) hK);unfold execOp;have Ev:(parts.map fun x=>match x with|(i,x)=>(i,a.eval x)).toList=[(0,a.eval x)]:=by simp[qE]
 simp only[ho,Instr.buildSlice,Kaj,eV hu,Kah,gV (show cU C.P e=some 1 by simp[cU,i1,i3]),Ev];simp[KaK,Kaj,pg i1 i2,Instr.fill,hvx,Value.cells,newRow,show Array.range 1= #[0]from rfl]
theorem YT{o:Oper}{t:TypeId}{n:Nat}{x:Operand}{cs:List PV}{d:Nat}{Q:Exit->Act->World->Prop}(ho:o.op= .box t x)(hd:o.dst=some d)(ak:d<C.N)(aH:a.defers=[])(h:Qv C ρ fr hp a.tmps w)
  (hx:Qh C ρ hp w (.aE cs) (a.eval x)) (hv:oz n t cs d fr hp K):o.wp C.P a w (bY C true w K) Q:=by
 obtain⟨⟨hlen,hn,hU,nQ⟩,hK⟩:=hv;obtain⟨vs,ex,dL,gI⟩:=hx;have hN:=C.hN;have hB:bg (cm d)=true:=xq (by unfold cm;omega);have hY:aF (cm d)=false:=B9 (by unfold cm;omega);obtain⟨hs,he⟩:=h.qS (cm d) hY rj ⟨n,t,[],false⟩ vs 1 _ (.inl rfl) (by simp;omega) (by simp) (by rw[iB];omega) hn (by simp) (by simp);have aW:∀(i:Nat)(y:PV),cs[i]? =some y->bZ C (rb ρ (cm d) (some w.heap.size)) (Qi hp (cm d) ⟨n,t,[],false⟩) (w.alloc (.cells vs t)) y (vs.getD i undef):=fun i y hi=>by
  have hm:=Kag hi;have KE:∀β∈y.cA,β≠cm d:=fun β ah e=>by have:=KaB.1 nQ y hm;subst e;simp[ah]at this
  refine(gI i y hi).move ⟨fun b hb _=>vX w _ b hb,fun b hb hX=>?_,by rw[v9];omega⟩ (fun β ah=>⟨kM (KE β ah),fun hb hh=>⟨hb,by simp[Qi,KE β ah,hh],rfl,Kae _,fun b cap _ hc=>gU (vX w _ b (gY hc)) hc⟩⟩);rintro(bG|⟨γ,hg,h1,h2,h3⟩)
  ·exact hX (.inl bG)
  ·by_cases af:γ=cm d
   ·subst af;rw[eH]at h3;cases h3;omega
   ·refine hX (.inr ⟨γ,hg,?_,h2,by rwa[kM af]at h3⟩);simpa[Qi,af]using h1
 have:=hs.EN (w':=w.alloc (.cells vs t)) (γ:=cm d) (b:=w.heap.size) (e:=n) (ty:=t) (xs':=[.aE cs]) (cur':=vs) (cap:=1) hB hn (show Qi hp (cm d) ⟨n,t,[],false⟩ (cm d)=some ⟨n,t,[],false⟩by simp[Qi]) rfl rfl rfl rfl (eH _ _ _) (Ext.refl _ _) (fun _ _ h=>h) (ji w _) (by omega) (by simp) (by rw[iB];omega)
  (fun i x hx=>by
   match i,hx with
   |0,hx=>simp at hx;subst hx;exact hlen
   |i+1,hx=>simp at hx)
  (fun i x hx j y hy=>by
   match i,hx with
   |0,hx=>simp at hx;subst hx;rw[Kb8,Ka0];exact aW j y hy
   |i+1,hx=>simp at hx)
 rw[HN]at this;refine fk (v:=.pointer (some ⟨w.heap.size,0,none⟩)) (w':=w.alloc (.cells vs t)) ?_ (bY.gS (p:=.np (cm d) 0 0) hd ak aH this (fun _=>he) ⟨hB,w.heap.size,⟨n,t,[],false⟩,eH _ _ _,by simp[Qi],by simp⟩ hK);unfold execOp;simp only[ho,Instr.box,newVar,newRow,ex,Value.cells];simp
theorem YU{o:Oper}{t:TypeId}{n:Nat}{x:Operand}{px:PV}{d:Nat}{Q:Exit->Act->World->Prop}(ho:o.op= .box t x)(hd:o.dst=some d)(ak:d<C.N)(aH:a.defers=[])(h:Qv C ρ fr hp a.tmps w)
  (hx:Qh C ρ hp w px (a.eval x)) (hv:dG n t px d fr hp K):o.wp C.P a w (bY C true w K) Q:=
 MO ho hd ak aH h hx (fun _ e hb=>YT ho hd ak aH h (e▸hx) hb) hv
theorem YD {o:Oper} {s x:Operand} {t e:TypeId} {n by_:Nat} {z:PV} {ps px:PV} {d:Nat} {Q:Exit->Act->World->Prop}
  (ho:o.op= .call { callee:=.builtin .append,args:= #[s,x],argTypes:= #[t,t] }) (hd:o.dst=some d) (ak:d<C.N) (aH:a.defers=[]) (h:Qv C ρ fr hp a.tmps w)
  (hu:C.P.underlying t=some (.slice e)) (hz:fZ C.P e=some (n,by_,z)) (gw:z.cells.length=n) (hs:Qh C ρ hp w ps (a.eval s)) (hx:Qh C ρ hp w px (a.eval x))
  (hv:rZ n by_ e ps px d fr hp K):o.wp C.P a w (bY C false w K) Q:=by
 obtain⟨ti,zv,i1,i2,i3,i4,i5⟩:=nn hz;have hN:=C.hN;have lZ:cm d<5000000:=by unfold cm;omega
 have JY:bg (cm d)=true:=xq (by unfold cm;omega);have ZU:aF (cm d)=false:=B9 (by unfold cm;omega);unfold rZ at hv;split at hv
 ·rename_i δ;split at hv
  ·rename_i EZ ty' y aaE;obtain⟨rfl,hyr,rfl,hv⟩:=hv;obtain⟨β,m,rfl,ah⟩:=AU hyr;obtain⟨_,ac1,b,cap,ZC,rδ,ex,_,_,_⟩:=hx;have uN:=h.ch EZ;rw[aaE]at uN;obtain⟨_,_,b2,cl,cur,uA,q1,q2,q3,q4,q5,q6,q7,q8,q9,_,nY⟩:=uN;rw[ZC]at q2;cases q2;rw[rδ]at q1;cases q1;rw[Kb8]at ex;have ct:=nY 0 _ rfl 0 (.ao β 0 m) rfl;simp only[Kb8,Ka0]at ct;have o0:dh ρ hp w β 0 m (cur.getD 0 undef):=ct.2;obtain⟨ad,m',c',ym⟩:=o0.slice;have ZE:0<cur.size:=by simp at q8;omega
   have lY:w.cell? ⟨b,0,none⟩=some (cur.getD 0 undef):=gT q6 ZE;obtain⟨u,hu0⟩:∃u,cur.getD 0 undef=u:=⟨_,rfl⟩
   rw[hu0]at o0 ym lY;have sE:∀(j:Nat)(v:Value),[u][j]? =some v->w.cell? ((⟨b,0,none⟩:Addr).add j)=some v:=fun j v hj=>by
    have hj0:j<1:=by have:=(Kac.1 hj).1;simpa using this
    obtain rfl:j=0:=by omega
    simp at hj;subst hj;rw[Kbz,KaJ];exact lY
   have nV:zv.cells.size=1:=by have:=(na (w:=w) (X:=ay C ρ hp) i5).cells.1;omega
   split at hv
   ·obtain⟨hb,hK⟩:=hv;have es:=hs.qT;have bz:=run_append_nil (P:=C.P) w t o.type e ti zv hu i1 i2 ⟨b,0,none⟩ 1 cap [u] (by simp[i3]) sE (by omega) (by omega) (by rw[i4];omega);have fc:=grownCap_ge w 1 0 e;have iU:=grownCap_le_maxLen w 1 0 e (by rw[iB];omega);generalize grownCap w 1 0 e=G at bz fc iU;have gI:([u].toArray++Builtin.zeroCells zv.cells (G-1)).size=G:=by simp[size_zeroCells,nV];omega
    have aao:([u].toArray++Builtin.zeroCells zv.cells (G-1)).size=G*1:=by omega
    have kZ:([u].toArray++Builtin.zeroCells zv.cells (G-1)).getD 0 undef=u:=by rw[gD,if_pos (by simp),pk];rfl
    obtain⟨dT,_⟩:=h.qS (cm d) ZU rj ⟨1,e,[],false⟩ ([u].toArray++Builtin.zeroCells zv.cells (G-1)) G _ (.inr rfl) aao (by simp) iU (by simp) (by simp) (by simp);have dx:=dT.yQ (cap:=G) (xs:=[.ao β 0 m]) JY (by simp[Qi]) (eH _ _ _) (ji w.drew _) gI (by simpa using fc) iU (by simp[iG,ah]) (fun i bd n' hi=>by
     match i,hi with
     |0,hi=>simp at hi;obtain⟨rfl,rfl⟩:=hi;rw[kZ];exact rz h ((Ext.drew w _).trans (Ext.alloc w.drew _ _)) (by omega) o0
     |i+1,hi=>simp at hi)
    exact fk (n6 ho es ex bz) (bY.gS hd ak aH dx (by simp) (xr JY (by simp[Qi]) (eH _ _ _) (ji w.drew _) gI iU fc) hK)
   ·rename_i γ k;split at hv
    ·rename_i aO kF xs aaD;obtain⟨⟨rfl,adF,hY,rfl,rfl,sM,hby,uY⟩,⟨hb,af,iV⟩,hK⟩:=hv;obtain⟨hB,nK,b1,xN,g1,g2,es,g4,g5,g6⟩:=hs;rw[af]at g1;cases g1;have uN:=h.ch aO;rw[aaD]at uN;obtain⟨_,_,b1',an,ig,nG,p1,p2,p3,p4,p5,p6,p7,p8,p9,_,p11⟩:=uN;rw[af]at p2;cases p2;rw[g2]at p1;cases p1;rw[Kb8]at es;obtain⟨acK,adH,d1,d2⟩:=g4;rw[p6]at d1;cases d1;rw[p4,Kb1,Ka0]at d2;rw[Kb1]at p7;obtain rfl:nG=xN:=by omega
     have KP:∀(i bd n':Nat),xs[i]? =some (.ao bd 0 n')->dh ρ hp w bd 0 n' (ig.getD i undef):=fun i bd n' hi=>by have:=p11 i _ hi 0 (.ao bd 0 n') rfl;simp only[Kb1,KaJ]at this;exact this.2
     have KQ:∀(i bd n':Nat),xs[i]? =some (.ao bd 0 n')->bd≠aO:=fun i bd n' hi=>by have:=KaB.1 sM _ (Kag hi);simp[iG]at this;omega
     have dJ:(xs++[PV.ao β 0 m]).all iG=true:=by rw[List.all_append,sM];simp[iG,ah]
     have aT:=(h.own aO hb af).b8;rw[g2]at aT;obtain⟨o1,o2,_⟩:=aT;replace o1:=Ctx.oK o1 hY;have sF:∀u'∈[u],u'.oneCell'=true:=by intro u' jc;simp at jc;subst jc;rw[ym];rfl
     by_cases sJ:xs.length+1<=nG
     ·have bz:=run_append_room (P:=C.P) w t o.type kF ti hu i1 b1 xs.length nG ig p6 ⟨b,0,none⟩ 1 cap [u] (by simp[i3]) sE sF sJ (by simp[i3];omega);rw[i3,Kb1]at bz;have kX:xs.length+[u].length<=ig.size:=by simp;omega
      have gK:=tc (cur:=ig) (p:=xs.length) (cs:=[u]) kX;have fg:=fun k hk=>s9 (cur:=ig) (p:=xs.length) (cs:=[u]) (k:=k) kX hk;generalize hW:(ig.toList.take xs.length++[u]++ig.toList.drop (xs.length+[u].length)).toArray=W at bz gK fg;have hE:Ext (fun c=>ρ aO=some c/\∃hb,hp aO=some hb/\hb.fz=false) w (w.setRow b1 W):=(s5 w b1 W).mono (fun i _ hi=>⟨hi▸g2,hb,af,iV⟩);have Eh:(w.setRow b1 W).heap[b1]? =some (.cells W kF (0,0)):=setRow_heap w b1 ig W kF _ p6;have dT:=h.sS (w':=w.setRow b1 W) aO (some b1) ⟨1,kF,[],false⟩ hY rj hE
       (fun c hc=>by cases hc;exact⟨o1,by simpa using o2,.inr ⟨g2,hb,af,iV⟩⟩) (by simp) (by simp) (by simp)
       (fun c hc=>by cases hc;exact⟨W,nG,Eh,by simp[gK];omega,by simp,p9,by simp⟩)
      have dx:=dT.yQ (cap:=nG) (xs:=xs++[.ao β 0 m]) hB (by simp[Qi]) (eH _ _ _) Eh (by omega) (by simpa using sJ) p9 dJ (fun i bd n' hi=>by
       rw[KaN]at hi;by_cases fe:i<xs.length
       ·rw[if_pos fe]at hi;rw[fg i (by omega),if_neg (by omega)];exact rz h hE (KQ i bd n' hi) (KP i bd n' hi)
       ·rw[if_neg fe]at hi;have Ei:i-xs.length<1:=by have:=(Kac.1 hi).1;simpa using this
        obtain rfl:i=xs.length:=by omega
        rw[KbA]at hi;simp at hi;obtain⟨rfl,rfl⟩:=hi;rw[fg _ (by omega),if_pos (by simp),KbA];exact rz h hE (by omega) o0)
      exact fk (n6 ho es ex bz) (bY.gS hd ak aH dx (by simp) (xr hB (by simp[Qi]) (eH _ _ _) Eh (by omega) p9 sJ) hK)
     ·have dZ:(ig.toList.take xs.length).length=xs.length:=by simp;omega
      have holds:∀(j:Nat)(v:Value),(ig.toList.take xs.length)[j]? =some v->w.cell? ((⟨b1,0,none⟩:Addr).add j)=some v:=fun j v hj=>by
       have cR:j<xs.length:=by have:=(Kac.1 hj).1;omega
       rw[Kav cR]at hj;rw[Kbz,Ka0,gT p6 (by omega),vW ig j v hj]
      have bz:=run_append_grow (P:=C.P) w t o.type kF ti zv hu i1 i2 ⟨b1,0,none⟩ xs.length nG (ig.toList.take xs.length) (by rw[dZ,i3,Kb1]) holds ⟨b,0,none⟩ 1 cap [u] (by simp[i3]) sE
       (by omega) (by omega) (growslice_fits (by omega) (by rw[i4];exact hby))
      have fc:=grownCap_ge w (xs.length+1) nG kF;have iU:=grownCap_le_maxLen w (xs.length+1) nG kF (by rw[iB];exact uY);generalize grownCap w (xs.length+1) nG kF=G at bz fc iU;have gI:((ig.toList.take xs.length).toArray++[u].toArray++Builtin.zeroCells zv.cells (G-(xs.length+1))).size=G:=by simp only[KbT,KbD,dZ,size_zeroCells,nV,KaW,Kbo];omega
      have iW:∀i,i<xs.length+1->((ig.toList.take xs.length).toArray++[u].toArray++Builtin.zeroCells zv.cells (G-(xs.length+1))).getD i undef=if i<xs.length then ig.getD i undef else u:=fun i hi=>by
       rw[gD,if_pos (by simp only[KbT,KbD,dZ,KaW,Kbo];omega),gD,KbD,dZ];by_cases fe:i<xs.length
       ·rw[if_pos fe,if_pos fe,pk,Kad,Kav fe];simp[KaA]
       ·rw[if_neg fe,if_neg fe,pk,show i-xs.length=0 by omega];rfl
      generalize hW:(ig.toList.take xs.length).toArray++[u].toArray++Builtin.zeroCells zv.cells (G-(xs.length+1))=W at bz gI iW;obtain⟨dT,_⟩:=h.qS aO hY rj ⟨1,kF,[],false⟩ W G _ (.inr rfl) (by simp[gI]) (by simp) iU (by simp) (by simp) (by simp);have hE:Ext (fun c=>ρ aO=some c/\∃hb,hp aO=some hb/\hb.fz=false) w (w.drew.alloc (.cells W kF)):=(Ext.drew w _).trans (Ext.alloc w.drew _ _);have dx:=dT.yQ (cap:=G) (xs:=xs++[.ao β 0 m]) hB (by simp[Qi]) (eH _ _ _) (ji w.drew _) gI (by simpa using fc) iU dJ (fun i bd n' hi=>by
       rw[KaN]at hi;by_cases fe:i<xs.length
       ·rw[if_pos fe]at hi;rw[iW i (by omega),if_pos fe];exact rz h hE (KQ i bd n' hi) (KP i bd n' hi)
       ·rw[if_neg fe]at hi;have Ei:i-xs.length<1:=by have:=(Kac.1 hi).1;simpa using this
        obtain rfl:i=xs.length:=by omega
        rw[KbA]at hi;simp at hi;obtain⟨rfl,rfl⟩:=hi;rw[iW _ (by omega),if_neg (by omega)];exact rz h hE (by omega) o0)
      exact fk (n6 ho es ex bz) (bY.gS hd ak aH dx (by simp) (xr hB (by simp[Qi]) (eH _ _ _) (ji w.drew _) gI iU fc) hK)
    ·exact hv.elim
   ·exact hv.elim
  ·exact hv.elim
 ·exact hv.elim
theorem MT{o:Oper}{t e:TypeId}{len n by_:Nat}{z:PV}{parts:Array (Nat×Operand)}{ps:List aD}{d:Nat}{Q:Exit->Act->World->Prop}(ho:o.op= .buildSlice t len parts)(hd:o.dst=some d)(ak:d<C.N)(aH:a.defers=[])(h:Qv C ρ fr hp a.tmps w)
  (hu:C.P.underlying t=some (.slice e)) (hz:fZ C.P e=some (n,by_,z)) (nS:parts.toList.map (·.1)=List.range len) (KX:len*n<=16777216) (gw:z.cells.length=n) (dC:(parts.toList.mapM fun p=>bp p.2)=some ps)
  (hv:ki n e (ps.map (ev fr)) d fr hp K):o.wp C.P a w (bY C true w K) Q:=by
 unfold ki at hv;split at hv
 ·rename_i hb;exact MS ho hd ak aH h hu hz nS gw dC hb hv
 ·exact N2 ho hd ak aH h hu hz nS KX gw dC hv
theorem YE{o:Oper}{s x:Operand}{t e:TypeId}{n by_:Nat}{z:PV}{ps px:PV}{d:Nat}{Q:Exit->Act->World->Prop}
  (ho:o.op= .call { callee:=.builtin .append,args:= #[s,x],argTypes:= #[t,t] }) (hd:o.dst=some d) (ak:d<C.N) (aH:a.defers=[]) (h:Qv C ρ fr hp a.tmps w)
  (hu:C.P.underlying t=some (.slice e)) (hz:fZ C.P e=some (n,by_,z)) (gw:z.cells.length=n) (hs:Qh C ρ hp w ps (a.eval s)) (hx:Qh C ρ hp w px (a.eval x))
  (hv:fl n by_ e ps px d fr hp K):o.wp C.P a w (bY C false w K) Q:=
 MQ ho hd ak aH h hu hz gw hs hx (fun _ hn=>YD ho hd ak aH h hu hz gw hs hx hn) hv
end Go.FW
namespace Go.FW
open Go
variable {C : Ctx} {ρ : Nat -> Option Nat} {fr : Fr} {hp : HP} {w : World} {a : Act} {K : Qg}
theorem XF {P : Program} {g : FuncId} (hg : (P.funcs[g]?).any (fun fn => fn.body.isSome && fn.name != "runtime.NumGoroutine") = true) (args : Array Value) (w : World) :
  (callFunc g args).run P w= .ok (.enter g args) w:=by
 cases hf:P.funcs[g]? with
 |none=>simp[hf]at hg
 |some fn=>
  simp only[hf,Option.any_some,Kbb,bne_iff_ne,ne_eq]at hg;obtain⟨h1,h2⟩:=hg;have h3:fn.body.isNone=false:=by cases hb:fn.body<;>simp[hb]at h1⊢
  have h4 : (fn.name == "runtime.NumGoroutine") = false := by simpa using h2
  have hn:¬(fn.body=none):=fun he=>by simp[he]at h1
  unfold callFunc;simp[hf,h2,hn]
theorem YG{o:Oper}{f:Operand}{args:Array Operand}{ts:Array TypeId}{pf:aD}{aM:List aD}{pr:Bool}{Q:Exit->Act->World->Prop}
  (ho:o.op= .call { callee:=.value f,args:=args,argTypes:=ts }) (ak:∀d,o.dst=some d->d<C.N) (aH:a.defers=[]) (h:Qv C ρ fr hp a.tmps w)
  (hf:bp f=some pf) (cr:args.toList.mapM bp=some aM) (hv:ez C pr (ev fr pf) (aM.map (ev fr)) o.dst fr hp K):o.wp C.P a w (bY C pr w K) Q:=by
 have oV:=bR h hf;unfold ez at hv;split at hv
 ·rename_i g first cap mP
  rw[mP]at oV;obtain⟨hg,aaj⟩:=hv;obtain⟨fv,cv,ef,h1,h2,h3,h4⟩:=oV;obtain⟨m1,m2⟩:=BN h cr;have aaW:(args.toList.map a.eval).toArray=args.map a.eval:=Array.ext' (by simp);rw[aaW]at m2;have hc:=aaj ρ a.tmps w fv cv (args.map a.eval) ak h h1 h2 (by simpa using m1.symm) h3 h4 m2;have hex:(execOp a.eval o).run C.P w= .ok (.enter g (fv++args.map a.eval++cv)) w:=by unfold execOp;simp only[ho,resolve,Kaj,KaK,Kah,ef,Deferred.ofValue,invoke];rw[XF hg]
  unfold Oper.wp;rw[hex];refine hc.mono fun e w' hp'=>?_;obtain⟨v,aq,hp',rfl,hs,hx,hK⟩:=hp';refine⟨by rw[pz];exact aH,⟨aq,hp',?_,hK⟩,hx⟩;cases hd:o.dst with
  |some d=>rw[hd]at hs;exact hs
  |none=>rw[hd]at hs;exact hs
 ·exact hv.elim
theorem n9{α:Type}{xs:Array α}{l:List α}(h:xs.toList=l):xs=l.toArray:=by subst h;simp
theorem tF{P:Program}{t e:TypeId}(h:nr P t=some e):P.underlying t=some (.slice e):=by
 unfold nr at h;split at h
 ·rename_i hq;cases h;exact hq
 ·cases h
theorem G8{dr:Bool}{o:Oper}(bJ:(dV C.P dr o).cls=0)(ak:∀d,o.dst=some d->d<C.N)(h:Qv C ρ fr hp a.tmps w)(hv:aS C (dV C.P dr o) fr hp K):Q4 C ρ o a w K:=by
 unfold dV at bJ hv;cases ab:jj C.P dr o with
 |none=>rw[ab]at hv;exact hv.elim
 | some so=>
  rw[ab]at bJ hv;simp only[Kbm]at bJ hv;unfold jj at ab;split at ab
  case h_1 x d hop hd=>simp only[Kaa]at ab;obtain⟨y,hy,rfl⟩:=ab;exact Ix (.inl hop) hd (ak d hd) h (bR h hy) hv
  case h_2 x d hop hd=>simp only[Kaa]at ab;obtain⟨y,hy,rfl⟩:=ab;exact Ix (.inr hop) hd (ak d hd) h (bR h hy) hv
  case h_3 c x y d hop hd=>
   simp only[Kab,Kaa]at ab;obtain⟨pc,hc,px,hx,py,hy,rfl⟩:=ab;exact YO hop hd (ak d hd) h (bR h hc) (bR h hx) (bR h hy) hv
  case h_4 op t x y t2 d hop hd=>
   simp only[Kab,Kaa]at ab;obtain⟨px,hx,py,hy,rfl⟩:=ab;unfold uo at hv;split at hv
   ·rename_i ng nP;split at nP
    ·rename_i dx;exact Mh hop nP dx hd (ak d hd) h (bR h hx) (bR h hy) hv
    ·cases nP
   split at hv
   ·rename_i ng nP;split at nP
    ·rename_i dx;exact Mf hop nP dx hd (ak d hd) h (bR h hx) (bR h hy) hv
    ·cases nP
   refine Mb hop hd (ak d hd) h (bR h hx) (bR h hy) (fun hb=>?_) hv;split at hb
   ·assumption
   ·cases hb
  case h_5 op t x d hop hd=>simp only[Kaa]at ab;obtain⟨y,hy,rfl⟩:=ab;exact Om hop hd (ak d hd) h (bR h hy) hv
  case h_6 s t x d hop hd=>
   split at ab
   ·rename_i ds k hS hT;simp only[Kaa]at ab;obtain⟨y,hy,rfl⟩:=ab;exact YN hop hd (ak d hd) h hS hT (bR h hy) hv
   ·cases ab
  case h_7 t x i d hop hd=>
   simp only[Kab]at ab;obtain⟨px,hx,pi,hi,ab⟩:=ab;split at ab
   ·rename_i e hu;simp only[Kaa]at ab;obtain⟨n,hn,rfl⟩:=ab;exact Mi hop hd (ak d hd) h hu hn (bR h hx) (bR h hi) hv
   ·rename_i len e hu;simp only[Kaa]at ab;obtain⟨n,hn,rfl⟩:=ab;exact YP hop hd (ak d hd) h hu hn (bR h hx) (bR h hi) hv
   ·cases ab
  case h_8 t x i d hop hd=>
   simp only[Kab]at ab;obtain⟨px,hx,pi,hi,ab⟩:=ab;split at ab
   ·rename_i len e hu;simp only[Kab,Kaa]at ab;obtain⟨n,hn,ag,fG,rfl⟩:=ab;exact MM hop hd (ak d hd) h hu hn fG (bR h hx) (bR h hi) hv
   ·rename_i hu;cases ab;exact Mk hop hd (ak d hd) h hu (bR h hx) (bR h hi) hv
   ·cases ab
  case h_9 t x j d hop hd=>
   simp only[Kab]at ab;obtain⟨px,hx,ab⟩:=ab;split at ab
   ·rename_i fs hu;simp only[Kab]at ab;obtain⟨f,hf,n,hn,ab⟩:=ab;split at ab
    ·cases ab
    ·rename_i gp;simp only[Kaq]at ab;subst ab;exact Mj hop hd (ak d hd) h hu hf hn gp (bR h hx) hv
   ·cases ab
  case h_10 t x j d hop hd=>
   simp only[Kab]at ab;obtain⟨px,hx,ab⟩:=ab;split at ab
   ·rename_i fs hu;simp only[Kab,Kaa]at ab;obtain⟨f,hf,n,hn,ag,fG,rfl⟩:=ab;exact YQ hop hd (ak d hd) h hu hf hn fG (bR h hx) hv
   ·cases ab
  case h_17 t parts d hop hd=>
   simp only[Kab,Kaa]at ab;obtain⟨⟨n,by_,z⟩,hz,ps,dC,rfl⟩:=ab;simp only[aS,iM]at hv;split at hv
   ·exact YS hop hd (ak d hd) h hz dC hv
   ·exact MN hop hd (ak d hd) h hz dC hv
  case h_18 t x lo hi m d hop hd=>
   simp only[Kab,Kaa]at ab;obtain⟨px,hx,yU,mR,vB,oX,pm,hm,e,he,n,hn,rfl⟩:=ab;have hu:C.P.underlying t=some (.slice e):=by
    unfold nr at he;split at he
    ·rename_i hq;cases he;exact hq
    ·cases he
   exact Ot hop hd (ak d hd) h hu hn (bR h hx) mR oX hm hv
  case h_19 x i d hop hd=>simp only[Kaa]at ab;obtain⟨y,hy,rfl⟩:=ab;exact Mg hop hd (ak d hd) h (bR h hy) hv
  case h_20 f first cap d hop hd=>
   simp only[Kab,Kaa]at ab;obtain⟨pf,h1,pc,h2,rfl⟩:=ab;exact Ou hop hd (ak d hd) h h1 h2 hv
  case h_11=>simp only[Kab,Kaa]at ab;obtain⟨_,_,_,_,_,_,rfl⟩:=ab;cases bJ
  case h_12=>simp only[Kab,Kaa]at ab;obtain⟨_,_,_,_,_,_,rfl⟩:=ab;cases bJ
  case h_13=>simp only[Kab,Kaa]at ab;obtain⟨_,_,_,_,rfl⟩:=ab;cases bJ
  case h_14=>simp only[Kaa]at ab;obtain⟨_,_,rfl⟩:=ab;cases bJ
  case h_15=>simp only[Kab,Kaa]at ab;obtain⟨_,_,_,_,_,_,_,_,rfl⟩:=ab;cases bJ
  case h_16=>
   simp only[Kab]at ab;obtain⟨_,_,_,_,ab⟩:=ab;split at ab
   ·simp only[Kaa]at ab;obtain⟨_,_,rfl⟩:=ab;cases bJ
   ·cases ab
  case h_21 hop=>simp only[Kaa]at ab;obtain⟨y,hy,rfl⟩:=ab;exact YR hop ak h (bR h hy) hv
  case h_22 c hop=>
   obtain⟨callee,args,ts⟩:=c;split at ab
   ·simp only[Kab,Kaa]at ab;obtain⟨_,_,_,_,rfl⟩:=ab;cases bJ
   ·rename_i x t d lX cr ir hd;obtain rfl:args= #[x]:=n9 cr;obtain rfl:ts= #[t]:=n9 ir;cases lX;split at ab
    ·rename_i hs;simp only[Kaa]at ab;obtain⟨y,hy,rfl⟩:=ab;exact Me hop hd (ak d hd) h (bR h hy) hs hv
    simp only[Kab,Kaa]at ab;obtain⟨e,he,y,hy,rfl⟩:=ab;exact Md hop hd (ak d hd) h (bR h hy) (tF he) hv
   ·rename_i x y d lX cr hd;simp only[Kab,Kaa]at ab;obtain⟨px,hx,py,hy,rfl⟩:=ab;obtain rfl:args= #[x,y]:=n9 cr;cases lX;exact Ok hop hd (ak d hd) h (bR h hx) (bR h hy) hv
   ·rename_i x y d lX cr hd;simp only[Kab,Kaa]at ab;obtain⟨px,hx,py,hy,rfl⟩:=ab;obtain rfl:args= #[x,y]:=n9 cr;cases lX;exact Ol hop hd (ak d hd) h (bR h hx) (bR h hy) hv
   ·simp only[Kab]at ab;obtain⟨_,_,_,_,_,_,ab⟩:=ab;split at ab
    ·simp only[Kab]at ab;obtain⟨_,_,ab⟩:=ab;split at ab
     ·cases ab;cases bJ
     ·cases ab
    ·cases ab
   ·simp only[Kab]at ab;obtain⟨_,_,_,_,_,_,ab⟩:=ab;split at ab
    ·simp only[Kaa]at ab;obtain⟨_,_,rfl⟩:=ab;cases bJ
    ·cases ab
   ·cases ab
  case h_23=>cases ab
theorem G9{dr:Bool}{o:Oper}(bJ:(dV C.P dr o).cls=1)(ak:∀d,o.dst=some d->d<C.N)(h:Qv C ρ fr hp a.tmps w)(hv:aS C (dV C.P dr o) fr hp K):tX C ρ o a w K:=by
 unfold dV at bJ hv;cases ab:jj C.P dr o with
 |none=>rw[ab]at hv;exact hv.elim
 | some so=>
  rw[ab]at bJ hv;simp only[Kbm]at bJ hv;unfold jj at ab;split at ab
  case h_11 t x d hop hd=>
   simp only[Kab,Kaa]at ab;obtain⟨px,hx,n,hn,ag,fG,rfl⟩:=ab;exact Oq hop hd (ak d hd) h hn fG (bR h hx) hv
  case h_1=>simp only[Kaa]at ab;obtain⟨_,_,rfl⟩:=ab;cases bJ
  case h_2=>simp only[Kaa]at ab;obtain⟨_,_,rfl⟩:=ab;cases bJ
  case h_3=>simp only[Kab,Kaa]at ab;obtain⟨_,_,_,_,_,_,rfl⟩:=ab;cases bJ
  case h_4=>simp only[Kab,Kaa]at ab;obtain⟨_,_,_,_,rfl⟩:=ab;unfold uo at bJ;split at bJ<;>first|(cases bJ;done)|(split at bJ<;>cases bJ)
  case h_5=>simp only[Kaa]at ab;obtain⟨_,_,rfl⟩:=ab;cases bJ
  case h_6=>split at ab<;>first|cases ab|(simp only[Kaa]at ab;obtain⟨_,_,rfl⟩:=ab;cases bJ)
  case h_7=>
   simp only[Kab]at ab;obtain⟨_,_,_,_,ab⟩:=ab;split at ab<;>first|cases ab|(simp only[Kaa]at ab;obtain⟨_,_,rfl⟩:=ab;cases bJ)
  case h_8=>
   simp only[Kab]at ab;obtain⟨_,_,_,_,ab⟩:=ab;split at ab<;>first|(simp only[Kab,Kaa]at ab;obtain⟨_,_,_,_,rfl⟩:=ab;cases bJ)|(cases ab;done)|(cases ab;cases bJ)
  case h_9=>
   simp only[Kab]at ab;obtain⟨_,_,ab⟩:=ab;split at ab
   ·simp only[Kab]at ab;obtain⟨_,_,_,_,ab⟩:=ab;split at ab<;>first|(cases ab;done)|(simp only[Kaq]at ab;subst ab;cases bJ)
   ·cases ab
  case h_10=>
   simp only[Kab]at ab;obtain⟨_,_,ab⟩:=ab;split at ab<;>first|(cases ab;done)|(simp only[Kab,Kaa]at ab;obtain⟨_,_,_,_,_,_,rfl⟩:=ab;cases bJ)
  case h_12=>simp only[Kab,Kaa]at ab;obtain⟨_,_,_,_,_,_,rfl⟩:=ab;cases bJ
  case h_13=>simp only[Kab,Kaa]at ab;obtain⟨_,_,_,_,rfl⟩:=ab;cases bJ
  case h_14=>simp only[Kaa]at ab;obtain⟨_,_,rfl⟩:=ab;cases bJ
  case h_15=>simp only[Kab,Kaa]at ab;obtain⟨_,_,_,_,_,_,_,_,rfl⟩:=ab;cases bJ
  case h_16=>
   simp only[Kab]at ab;obtain⟨_,_,_,_,ab⟩:=ab;split at ab
   ·simp only[Kaa]at ab;obtain⟨_,_,rfl⟩:=ab;cases bJ
   ·cases ab
  case h_17=>simp only[Kab,Kaa]at ab;obtain⟨_,_,_,_,rfl⟩:=ab;cases bJ
  case h_18=>simp only[Kab,Kaa]at ab;obtain⟨_,_,_,_,_,_,_,_,_,_,_,_,rfl⟩:=ab;cases bJ
  case h_19=>simp only[Kaa]at ab;obtain⟨_,_,rfl⟩:=ab;cases bJ
  case h_20=>simp only[Kab,Kaa]at ab;obtain⟨_,_,_,_,rfl⟩:=ab;cases bJ
  case h_21=>simp only[Kaa]at ab;obtain⟨_,_,rfl⟩:=ab;cases bJ
  case h_22=>
   split at ab
   ·simp only[Kab,Kaa]at ab;obtain⟨_,_,_,_,rfl⟩:=ab;cases bJ
   ·split at ab
    ·simp only[Kaa]at ab;obtain⟨_,_,rfl⟩:=ab;cases bJ
    ·simp only[Kab,Kaa]at ab;obtain⟨_,_,_,_,rfl⟩:=ab;cases bJ
   ·simp only[Kab,Kaa]at ab;obtain⟨_,_,_,_,rfl⟩:=ab;cases bJ
   ·simp only[Kab,Kaa]at ab;obtain⟨_,_,_,_,rfl⟩:=ab;cases bJ
   ·simp only[Kab]at ab;obtain⟨_,_,_,_,_,_,ab⟩:=ab;split at ab
    ·simp only[Kab]at ab;obtain⟨_,_,ab⟩:=ab;split at ab
     ·cases ab;cases bJ
     ·cases ab
    ·cases ab
   ·simp only[Kab]at ab;obtain⟨_,_,_,_,_,_,ab⟩:=ab;split at ab
    ·simp only[Kaa]at ab;obtain⟨_,_,rfl⟩:=ab;cases bJ
    ·cases ab
   ·cases ab
  case h_23=>cases ab
theorem Q4.wp{o:Oper}{two:Bool}{Q:Exit->Act->World->Prop}(aH:a.defers=[])(h:Q4 C ρ o a w K):o.wp C.P a w (bY C two w K) Q:=by obtain⟨v,hr,aq,hp',hs,hK⟩:=h;exact fk (hr w) ⟨by rw[pz];exact aH,⟨aq,hp',⟨ρ,hs⟩,hK⟩,fun _=>Ext.refl _ _⟩
theorem tX.wp{o:Oper}{two:Bool}{Q:Exit->Act->World->Prop}(aH:a.defers=[])(h:tX C ρ o a w K):o.wp C.P a w (bY C two w K) Q:=by obtain⟨v,b,_,hr,aq,hp',hs,hK⟩:=h;exact fk (hr w rfl) ⟨by rw[pz];exact aH,⟨aq,hp',⟨ρ,hs⟩,hK⟩,fun _=>Ext.refl _ _⟩
theorem bY.mono{two Ly:Bool}{a':Act}{w':World}(h2:Ly=true->two=true)(h:bY C two w K a' w'):bY C Ly w K a' w':=⟨h.1,h.2.1,fun hh=>h.2.2 (h2 hh)⟩
theorem N5{dr:Bool}{o:Oper}{Q:Exit->Act->World->Prop}(ak:∀d,o.dst=some d->d<C.N)(aH:a.defers=[])(h:Qv C ρ fr hp a.tmps w)(hv:aS C (dV C.P dr o) fr hp K):
  o.wp C.P a w (bY C (!(dV C.P dr o).fo) w K) Q:=by
 by_cases h0:(dV C.P dr o).cls=0
 ·exact(G8 h0 ak h hv).wp aH
 by_cases h1:(dV C.P dr o).cls=1
 ·exact(G9 h1 ak h hv).wp aH
 unfold dV at h0 h1 hv⊢;cases ab:jj C.P dr o with
 |none=>rw[ab]at hv;exact hv.elim
 | some so=>
  rw[ab]at h0 h1 hv;simp only[Kbm]at h0 h1 hv⊢;have fin:∀ {two:Bool},(so.fo=false->two=true)->o.wp C.P a w (bY C two w K) Q->o.wp C.P a w (bY C (!so.fo) w K) Q:=fun h2 hw=>
   Oper.wp_mono (fun a' w' hA=>hA.mono (fun hh=>h2 (by simpa using hh))) hw
  unfold jj at ab;split at ab
  case h_12 t x y hop hd=>
   simp only[Kab,Kaa]at ab;obtain⟨px,hx,py,hy,n,hn,rfl⟩:=ab;exact fin (by simp[bN.fo]) (N4 hop hd aH h hn (bR h hx) (bR h hy) hv)
  case h_13 t x d hop hd=>
   simp only[Kab,Kaa]at ab;obtain⟨px,hx,n,hn,rfl⟩:=ab;exact fin (fun _=>rfl) (YU hop hd (ak d hd) aH h (bR h hx) hv)
  case h_14 t d hop hd=>
   simp only[Kaa]at ab;obtain⟨⟨n,by_,z⟩,hz,rfl⟩:=ab;obtain⟨ti,zv,i1,i2,_,_,i5⟩:=nn hz;exact fin (fun _=>rfl) (Yd hop hd (ak d hd) aH h i1 i2 i5 hv)
  case h_15 t l c d hop hd=>
   simp only[Kab,Kaa]at ab;obtain⟨pl,hl,pc,hc,e,he,⟨n,by_,z⟩,hz,rfl⟩:=ab;exact fin (fun _=>rfl) (N1 hop hd (ak d hd) aH h (tF he) hz (bR h hl) (bR h hc) hv)
  case h_16 t len parts d hop hd=>
   simp only[Kab]at ab;obtain⟨e,he,⟨n,by_,z⟩,hz,ab⟩:=ab;split at ab
   ·rename_i uL;simp only[Kaa]at ab;obtain⟨ps,dC,rfl⟩:=ab;exact fin (fun _=>rfl) (MT hop hd (ak d hd) aH h (tF he) hz uL.1 uL.2.1 uL.2.2 dC hv)
   ·cases ab
  case h_22 c hop=>
   obtain⟨callee,args,ts⟩:=c;split at ab
   ·rename_i f lX;simp only[Kab,Kaa]at ab;obtain⟨pf,hf,aM,cr,rfl⟩:=ab;cases lX;exact fin (two:=dr&& !Fc C.P pf) (fun hh=>by simpa[bN.fo]using hh) (YG hop ak aH h hf cr hv)
   ·split at ab
    ·simp only[Kaa]at ab;obtain⟨_,_,rfl⟩:=ab;exact absurd rfl h0
    ·simp only[Kab,Kaa]at ab;obtain⟨_,_,_,_,rfl⟩:=ab;exact absurd rfl h0
   ·simp only[Kab,Kaa]at ab;obtain⟨_,_,_,_,rfl⟩:=ab;exact absurd rfl h0
   ·simp only[Kab,Kaa]at ab;obtain⟨_,_,_,_,rfl⟩:=ab;exact absurd rfl h0
   ·rename_i s x t u d lX cr ir hd;simp only[Kab]at ab;obtain⟨ps,hs,px,hx,e,he,ab⟩:=ab;split at ab
    ·rename_i EB;subst EB;simp only[Kab]at ab;obtain⟨⟨n,by_,z⟩,hz,ab⟩:=ab;split at ab
     ·rename_i gw;simp only[Kaq]at ab;subst ab;obtain rfl:args= #[s,x]:=n9 cr;obtain rfl:ts= #[t,t]:=n9 ir;cases lX;exact fin (by simp[bN.fo]) (YE hop hd (ak d hd) aH h (tF he) hz gw (bR h hs) (bR h hx) hv)
     ·cases ab
    ·cases ab
   ·rename_i s x t u d lX cr ir hd;simp only[Kab]at ab;obtain⟨ps,hs,px,hx,e,he,ab⟩:=ab;split at ab
    ·rename_i EB;subst EB;simp only[Kaa]at ab;obtain⟨n,hn,rfl⟩:=ab;obtain rfl:args= #[s,x]:=n9 cr;obtain rfl:ts= #[t,t]:=n9 ir;cases lX;exact fin (by simp[bN.fo]) (MR hop hd (ak d hd) aH h (tF he) hn (bR h hs) (bR h hx) hv)
    ·cases ab
   ·cases ab
  all_goals exfalso
  case h_1=>simp only[Kaa]at ab;obtain⟨_,_,rfl⟩:=ab;exact h0 rfl
  case h_2=>simp only[Kaa]at ab;obtain⟨_,_,rfl⟩:=ab;exact h0 rfl
  case h_3=>simp only[Kab,Kaa]at ab;obtain⟨_,_,_,_,_,_,rfl⟩:=ab;exact h0 rfl
  case h_4=>simp only[Kab,Kaa]at ab;obtain⟨_,_,_,_,rfl⟩:=ab;exact h0 (by unfold uo;split<;>first|rfl|(split<;>rfl))
  case h_5=>simp only[Kaa]at ab;obtain⟨_,_,rfl⟩:=ab;exact h0 rfl
  case h_6=>split at ab<;>first|(cases ab;done)|(simp only[Kaa]at ab;obtain⟨_,_,rfl⟩:=ab;exact h0 rfl)
  case h_7=>
   simp only[Kab]at ab;obtain⟨_,_,_,_,ab⟩:=ab;split at ab<;>first|(cases ab;done)|(simp only[Kaa]at ab;obtain⟨_,_,rfl⟩:=ab;exact h0 rfl)
  case h_8=>
   simp only[Kab]at ab;obtain⟨_,_,_,_,ab⟩:=ab;split at ab<;>first|(cases ab;done)|(simp only[Kab,Kaa]at ab;obtain⟨_,_,_,_,rfl⟩:=ab;exact h0 rfl)|(cases ab;exact h0 rfl)
  case h_9=>
   simp only[Kab]at ab;obtain⟨_,_,ab⟩:=ab;split at ab
   ·simp only[Kab]at ab;obtain⟨_,_,_,_,ab⟩:=ab;split at ab<;>first|(cases ab;done)|(simp only[Kaq]at ab;subst ab;exact h0 rfl)
   ·cases ab
  case h_10=>
   simp only[Kab]at ab;obtain⟨_,_,ab⟩:=ab;split at ab<;>first|(cases ab;done)|(simp only[Kab,Kaa]at ab;obtain⟨_,_,_,_,_,_,rfl⟩:=ab;exact h0 rfl)
  case h_11=>simp only[Kab,Kaa]at ab;obtain⟨_,_,_,_,_,_,rfl⟩:=ab;exact h1 rfl
  case h_17=>simp only[Kab,Kaa]at ab;obtain⟨_,_,_,_,rfl⟩:=ab;exact h0 rfl
  case h_18=>simp only[Kab,Kaa]at ab;obtain⟨_,_,_,_,_,_,_,_,_,_,_,_,rfl⟩:=ab;exact h0 rfl
  case h_19=>simp only[Kaa]at ab;obtain⟨_,_,rfl⟩:=ab;exact h0 rfl
  case h_20=>simp only[Kab,Kaa]at ab;obtain⟨_,_,_,_,rfl⟩:=ab;exact h0 rfl
  case h_21=>simp only[Kaa]at ab;obtain⟨_,_,rfl⟩:=ab;exact h0 rfl
  case h_23=>cases ab
end Go.FW
namespace Go.FW
open Go
variable {C : Ctx} {ρ : Nat -> Option Nat} {fr : Fr} {hp : HP} {w : World} {a : Act} {K : Qg}
theorem N6(h:Qv C ρ fr hp a.tmps w){s:Nat}(hs:s<C.N):a.tmps[s]? =some (a.tmps.getD s undef):=by
 have:s<a.tmps.size:=by rw[h.sz];exact hs
 simp[Array.getD,this]
theorem Gz{dr:Bool}{ops:Array Oper}{o:Oper}{g:pd}(h:Qv C ρ fr hp a.tmps w)(hc:nc C.P C.N dr ops o=some g)(hv:ju C g.g g.o fr hp K):
  (∀d,o.dst=some d->d<C.N)/\g.o=dV C.P dr o/\
  ((Region.wanted o (yielded ops a.tmps)=true/\aS C g.o fr hp K)∨(Region.wanted o (yielded ops a.tmps)=false/\fL g.o fr hp K)):=by
 unfold nc at hc;split at hc
 ·rename_i dJ;have ak:∀d,o.dst=some d->d<C.N:=fun d hd=>by rw[hd]at dJ;simpa using dJ
  cases hg:o.guard with
  |none=>rw[hg]at hc;cases hc;exact⟨ak,rfl,.inl ⟨by simp[Region.wanted,hg],hv⟩⟩
  | some jw=>
   obtain⟨j,want⟩:=jw;rw[hg]at hc;simp only at hc;split at hc
   ·rename_i s hs;split at hc
    ·rename_i hsN;cases hc;refine⟨ak,rfl,?_⟩;have ht:=N6 h hsN;have hr:=h.ch s;simp only[ju]at hv;split at hv
     ·rename_i t ko;rw[ko]at hr;have hb:=hr.se;have hy:yielded ops a.tmps j=some t:=by simp only[yielded,hs,KbW,ht,hb]
      have qI:∀b,t=b->ae fr s (.bool b)=fr:=fun b an=>by
       funext i;unfold ae;split
       ·rename_i hi;subst hi;subst an;exact ko.symm
       ·rfl
      by_cases hw:t=want
      ·refine .inl ⟨by simp[Region.wanted,hg,hy,hw],?_⟩;have:=hv.1 hw
       rwa[qI want hw]at this
      ·have mY:t= !want:=by cases t<;>cases want<;>simp_all
       refine .inr ⟨by simp[Region.wanted,hg,hy,hw],?_⟩;have:=hv.2 mY
       rwa[qI _ mY]at this
     ·rename_i ko;rw[ko]at hr;obtain⟨vs,ev,dL,_⟩:=hr;have vg:vs= #[]:=KbB (by simpa using dL);have hy:yielded ops a.tmps j=none:=by simp only[yielded,hs,KbW,ht,ev]
      exact .inr ⟨by simp[Region.wanted,hg,hy],hv⟩
     ·exact hv.elim
    ·cases hc
   ·cases hc
 ·cases hc
theorem Fk{dr:Bool}{o:Oper}:(dV C.P dr o).dst=o.dst:=by
 unfold dV;cases ab:jj C.P dr o with
 |none=>rfl
 | some so=>
  simp only[Kbm];unfold jj at ab;split at ab
  case h_1 hd=>simp only[Kaa]at ab;obtain⟨_,_,rfl⟩:=ab;exact hd.symm
  case h_2 hd=>simp only[Kaa]at ab;obtain⟨_,_,rfl⟩:=ab;exact hd.symm
  case h_3 hd=>simp only[Kab,Kaa]at ab;obtain⟨_,_,_,_,_,_,rfl⟩:=ab;exact hd.symm
  case h_4 hd=>simp only[Kab,Kaa]at ab;obtain⟨_,_,_,_,rfl⟩:=ab;unfold uo;split<;>first|exact hd.symm|(split<;>exact hd.symm)
  case h_5 hd=>simp only[Kaa]at ab;obtain⟨_,_,rfl⟩:=ab;exact hd.symm
  case h_6 hd=>split at ab<;>first|(cases ab;done)|(simp only[Kaa]at ab;obtain⟨_,_,rfl⟩:=ab;exact hd.symm)
  case h_7 hd=>
   simp only[Kab]at ab;obtain⟨_,_,_,_,ab⟩:=ab;split at ab<;>first|(cases ab;done)|(simp only[Kaa]at ab;obtain⟨_,_,rfl⟩:=ab;exact hd.symm)
  case h_8 hd=>
   simp only[Kab]at ab;obtain⟨_,_,_,_,ab⟩:=ab;split at ab<;>first|(cases ab;done)|(simp only[Kab,Kaa]at ab;obtain⟨_,_,_,_,rfl⟩:=ab;exact hd.symm)|(cases ab;exact hd.symm)
  case h_9 hd=>
   simp only[Kab]at ab;obtain⟨_,_,ab⟩:=ab;split at ab
   ·simp only[Kab]at ab;obtain⟨_,_,_,_,ab⟩:=ab;split at ab<;>first|(cases ab;done)|(simp only[Kaq]at ab;subst ab;exact hd.symm)
   ·cases ab
  case h_10 hd=>
   simp only[Kab]at ab;obtain⟨_,_,ab⟩:=ab;split at ab<;>first|(cases ab;done)|(simp only[Kab,Kaa]at ab;obtain⟨_,_,_,_,_,_,rfl⟩:=ab;exact hd.symm)
  case h_11 hd=>simp only[Kab,Kaa]at ab;obtain⟨_,_,_,_,_,_,rfl⟩:=ab;exact hd.symm
  case h_12 hd=>simp only[Kab,Kaa]at ab;obtain⟨_,_,_,_,_,_,rfl⟩:=ab;exact hd.symm
  case h_13 hd=>simp only[Kab,Kaa]at ab;obtain⟨_,_,_,_,rfl⟩:=ab;exact hd.symm
  case h_14 hd=>simp only[Kaa]at ab;obtain⟨_,_,rfl⟩:=ab;exact hd.symm
  case h_15 hd=>simp only[Kab,Kaa]at ab;obtain⟨_,_,_,_,_,_,_,_,rfl⟩:=ab;exact hd.symm
  case h_16 hd=>
   simp only[Kab]at ab;obtain⟨_,_,_,_,ab⟩:=ab;split at ab
   ·simp only[Kaa]at ab;obtain⟨_,_,rfl⟩:=ab;exact hd.symm
   ·cases ab
  case h_17 hd=>simp only[Kab,Kaa]at ab;obtain⟨_,_,_,_,rfl⟩:=ab;exact hd.symm
  case h_18 hd=>simp only[Kab,Kaa]at ab;obtain⟨_,_,_,_,_,_,_,_,_,_,_,_,rfl⟩:=ab;exact hd.symm
  case h_19 hd=>simp only[Kaa]at ab;obtain⟨_,_,rfl⟩:=ab;exact hd.symm
  case h_20 hd=>simp only[Kab,Kaa]at ab;obtain⟨_,_,_,_,rfl⟩:=ab;exact hd.symm
  case h_21=>simp only[Kaa]at ab;obtain⟨_,_,rfl⟩:=ab;rfl
  case h_22=>
   split at ab
   ·simp only[Kab,Kaa]at ab;obtain⟨_,_,_,_,rfl⟩:=ab;rfl
   ·rename_i hd;split at ab
    ·simp only[Kaa]at ab;obtain⟨_,_,rfl⟩:=ab;exact hd.symm
    ·simp only[Kab,Kaa]at ab;obtain⟨_,_,_,_,rfl⟩:=ab;exact hd.symm
   ·rename_i hd;simp only[Kab,Kaa]at ab;obtain⟨_,_,_,_,rfl⟩:=ab;exact hd.symm
   ·rename_i hd;simp only[Kab,Kaa]at ab;obtain⟨_,_,_,_,rfl⟩:=ab;exact hd.symm
   ·rename_i hd;simp only[Kab]at ab;obtain⟨_,_,_,_,_,_,ab⟩:=ab;split at ab
    ·simp only[Kab]at ab;obtain⟨_,_,ab⟩:=ab;split at ab
     ·cases ab;exact hd.symm
     ·cases ab
    ·cases ab
   ·rename_i hd;simp only[Kab]at ab;obtain⟨_,_,_,_,_,_,ab⟩:=ab;split at ab
    ·simp only[Kaa]at ab;obtain⟨_,_,rfl⟩:=ab;exact hd.symm
    ·cases ab
   ·cases ab
  case h_23=>cases ab
theorem YH{dr two:Bool}{o:Oper}(ak:∀d,o.dst=some d->d<C.N)(aH:a.defers=[])(h:Qv C ρ fr hp a.tmps w)(hv:fL (dV C.P dr o) fr hp K):bY C two w K (a.put o.dst undef) w:=by
 unfold fL at hv;rw[Fk]at hv;cases hd:o.dst with
 |some d=>rw[hd]at hv;exact⟨aH,⟨_,hp,⟨ρ,h.ae Qh.Lx (ak d hd)⟩,hv⟩,fun _=>Ext.refl _ _⟩
 |none=>rw[hd]at hv;exact⟨aH,⟨fr,hp,⟨ρ,h⟩,hv⟩,fun _=>Ext.refl _ _⟩
theorem GX{dr:Bool}{ops:Array Oper}{i:Nat}{o:Oper}{g:pd}{Q:Exit->Act->World->Prop}(hi:ops[i]? =some o)(aH:a.defers=[])(h:Qv C ρ fr hp a.tmps w)(hc:nc C.P C.N dr ops o=some g)(hv:ju C g.g g.o fr hp K):
  wpOp C.P ops Q i (bY C (!(dV C.P dr o).fo) w K) a w:=by
 obtain⟨ak,Ef,uJ⟩:=Gz h hc hv;rw[Ef]at uJ;unfold wpOp;simp only[hi];rcases uJ with⟨hw,hv⟩|⟨hw,hv⟩
 ·rw[if_pos hw];exact .inl (N5 ak aH h hv)
 ·rw[hw];simp only[Kbd,if_false];exact YH ak aH h hv
def xJ(C:Ctx)(K:Qg)(Q:Exit->Act->World->Prop):Prop:=∀fr hp (a:Act) w,a.defers=[]->c8 C fr hp a.tmps w->K fr hp->Q .normal a w
theorem tY{C:Ctx}{R:Qg}{sk:List It}{fr:Fr}{hp:HP}:vc C R (.o .nil::sk) fr hp=vc C R sk fr hp:=by rw[vc]
theorem uc{C:Ctx}{R:Qg}{sk:List It}{g:Option (Nat×Bool)}{o:bN}{r:RT}{fr:Fr}{hp:HP}:vc C R (.o (.o g o r)::sk) fr hp=ju C g o fr hp (vc C R (.o r::sk)):=by rw[vc]
theorem FX{C:Ctx}{R:Qg}{sk:List It}{x y:RT}{fr:Fr}{hp:HP}:vc C R (.o (.br x y)::sk) fr hp=(vc C R (.o x::sk) fr hp/\vc C R (.o y::sk) fr hp):=by rw[vc]
theorem xl{C:Ctx}{R:Qg}{sk:List It}{r:RT}{fr:Fr}{hp:HP}:vc C R (.o (.wk r)::sk) fr hp=∃aY au,Wk fr hp aY au/\vc C R (.o r::sk) aY au:=by rw[vc]
theorem rC{C:Ctx}{R:Qg}{sk:List It}{tmps:Array Value}{w:World}:∀(r:RT)(fr:Fr)(hp:HP),c8 C fr hp tmps w->vc C R (.o r::sk) fr hp->
  ∃r' aq hp',r'.strip=r.strip/\(∀x,r'≠ .wk x)/\c8 C aq hp' tmps w/\vc C R (.o r'::sk) aq hp':=by
 intro r;induction r with
 |wk r ih=>intro fr hp hs hv;rw[xl]at hv;obtain⟨aY,au,hw,hv⟩:=hv;exact ih aY au (hw _ _ _ hs) hv
 |nil=>exact fun fr hp hs hv=>⟨_,fr,hp,rfl,(fun x h=>by cases h),hs,hv⟩
 |o=>exact fun fr hp hs hv=>⟨_,fr,hp,rfl,(fun x h=>by cases h),hs,hv⟩
 |br=>exact fun fr hp hs hv=>⟨_,fr,hp,rfl,(fun x h=>by cases h),hs,hv⟩
theorem HO{r:RT}(h:r.strip= .nil)(hn:∀x,r≠ .wk x):r= .nil:=by
 cases r with
 |nil=>rfl
 |wk x=>exact absurd rfl (hn x)
 |_=>simp[RT.strip]at h
theorem Ca{r s:RT}{g:Option (Nat×Bool)}{o:bN}(h:r.strip= .o g o s)(hn:∀x,r≠ .wk x):∃r',r= .o g o r'/\r'.strip=s:=by
 cases r with
 |o g' o' r'=>simp only[RT.strip,RT.o.injEq]at h;obtain⟨rfl,rfl,h⟩:=h;exact⟨r',rfl,h⟩
 |wk x=>exact absurd rfl (hn x)
 |_=>simp[RT.strip]at h
theorem N7{r a b:RT}(h:r.strip= .br a b)(hn:∀x,r≠ .wk x):∃a' b',r= .br a' b'/\a'.strip=a/\b'.strip=b:=by
 cases r with
 |br a' b'=>simp only[RT.strip,RT.br.injEq]at h;exact⟨a',b',rfl,h.1,h.2⟩
 |wk x=>exact absurd rfl (hn x)
 |_=>simp[RT.strip]at h
theorem GY{R:Qg}{sk:List It}{ops:Array Oper}{Q:Exit->Act->World->Prop}(hQ:xJ C (vc C R sk) Q):∀(gs:List pd)(is:List Nat)(r:RT)(fr:Fr)(hp:HP)(a:Act)(w:World),
  is.length=gs.length->(∀(k i:Nat)(g:pd),is[k]? =some i->gs[k]? =some g->∃o,ops[i]? =some o/\nc C.P C.N false ops o=some g)->
  a.defers=[]->c8 C fr hp a.tmps w->r.strip=rX gs->vc C R (.o r::sk) fr hp->wpOps C.P ops Q is a w
 | [],[],r,fr,hp,a,w,_,_,aH,hs,hr,hv=>by obtain⟨r',aq,hp',h1,h2,hs,hv⟩:=rC r fr hp hs hv;obtain rfl:=HO (h1.trans hr) h2;rw[tY]at hv;exact hQ aq hp' a w aH hs hv
 | [],i::is,_,_,_,_,_,hl,_,_,_,_,_=>by simp at hl
 |g::gs,[],_,_,_,_,_,hl,_,_,_,_,_=>by simp at hl
 |g::gs,i::is,r,fr,hp,a,w,hl,hc,aH,hs,hr,hv=>by obtain⟨o,ho,ab⟩:=hc 0 i g rfl rfl;obtain⟨r',aq,hp',h1,h2,⟨ρ,hs⟩,hv⟩:=rC r fr hp hs hv;obtain⟨r2,rfl,jb⟩:=Ca (h1.trans hr) h2;rw[uc]at hv;rw[wpOps_cons];refine wpOp_mono (fun a' w' hA=>?_) (GX ho aH hs ab hv);obtain⟨qq,⟨aq,hp',dw,kA⟩,_⟩:=hA;exact GY hQ gs is r2 aq hp' a' w' (by simpa using hl) (fun k j g' h1 h2=>hc (k+1) j g' (by simpa using h1) (by simpa using h2)) qq dw jb kA
end Go.FW
namespace Go.FW
open Go
section
variable {P : Program} {ops : Array Oper} {Q : Exit -> Act -> World -> Prop}
def pL(P:Program)(ops:Array Oper)(Q:Exit->Act->World->Prop)(fo:Nat->Bool):Nat->Array Bool->Act->World->Prop
 |0,aN,a,w=>Region.ready .any ops aN=[]/\Q .normal a w
 |fuel+1,aN,a,w=>
  (Region.ready .any ops aN=[]->Q .normal a w)/\
  ∀i∈Region.ready .any ops aN,wpOp P ops Q i (fun a' w'=>(fo i=false->Ext bO w w')/\pL P ops Q fo fuel (aN.setIfInBounds i true) a' w') a w
theorem AV(fo:Nat->Bool):∀(fuel:Nat)(aN:Array Bool)(a:Act)(w:World),pL P ops Q fo fuel aN a w->wpAny P .any ops Q fuel aN a w
 |0,_,_,_,h=>h
 |fuel+1,_,_,_,h=>⟨h.1,fun i hi=>wpOp_mono (fun a' w' h'=>AV fo fuel _ a' w' h'.2) (h.2 i hi)⟩
def YF(P:Program)(ops:Array Oper)(all:Bool)(o:Oper)(v:Value)(a:Act)(w:World):Prop:=
 (Region.wanted o (yielded ops a.tmps)=true/\∀w',(all=true∨Ext bO w w')->(execOp a.eval o).run P w'= .ok (.value v) w')∨
 (Region.wanted o (yielded ops a.tmps)=false/\v=undef)
theorem YF.step{all:Bool}{o:Oper}{v:Value}{a a':Act}{w w':World}(hy:YF P ops all o v a w)(he:execOp a'.eval o=execOp a.eval o)
  (hw:Region.wanted o (yielded ops a'.tmps)=Region.wanted o (yielded ops a.tmps)) (hx:all=true∨Ext bO w w'):YF P ops all o v a' w':=by
 unfold YF at *
 rw[he,hw];rcases hy with⟨h1,h2⟩|h
 ·refine .inl ⟨h1,fun w2 h3=>h2 w2 ?_⟩;rcases hx with hx|hx
  ·exact .inl hx
  ·rcases h3 with h3|h3
   ·exact .inl h3
   ·exact .inr (hx.trans h3)
 ·exact .inr h
theorem YF.wpOp{all:Bool}{i:Nat}{o:Oper}{v:Value}{a:Act}{w:World}(hi:ops[i]? =some o)(hy:YF P ops all o v a w)
  {K:Act->World->Prop} (h:K (a.put o.dst v) w):Go.wpOp P ops Q i K a w:=by
 unfold Go.wpOp;simp only[hi];rcases hy with⟨hw,hv⟩|⟨hw,rfl⟩
 ·simp only[hw,if_true,Oper.wp,hv w (.inr (Ext.refl _ _)),Oper.upon];exact .inl h
 ·simp only[hw,Kbd,if_false];exact h
theorem MU{j:Nat}{oi oj:Oper}{v:Value}(hj:ops[j]? =some oj)(Z':oi.apart ops oj=true)
  (KU:∀cs b,oi.op≠ .select cs b) (KV:∀cs b,oj.op≠ .select cs b)
  (hQ:∀c a w,Q (.panic c) (a.put oi.dst v) w->Q (.panic c) a w) {K:Act->World->Prop} {a:Act} {w:World}
  (h:Go.wpOp P ops Q j K (a.put oi.dst v) w):
  Go.wpOp P ops Q j (fun a' w'=>(execOp a'.eval oi=execOp a.eval oi/\Region.wanted oi (yielded ops a'.tmps)=Region.wanted oi (yielded ops a.tmps))/\K (a'.put oi.dst v) w') a w:=by
 obtain⟨h1,h2,h3⟩:=Oper.apart_spec Z';have dE:∀u,execOp (a.put oj.dst u).eval oi=execOp a.eval oi/\Region.wanted oi (yielded ops (a.put oj.dst u).tmps)=Region.wanted oi (yielded ops a.tmps):=fun u=>
  ⟨execOp_put oi KU a oj.dst u h3,wanted_put oi a oj.dst u h3⟩
 have abW:∀d u,execOp (({ a with defers:=d::a.defers }:Act).put oj.dst u).eval oi=execOp a.eval oi/\Region.wanted oi (yielded ops (({ a with defers:=d::a.defers }:Act).put oj.dst u).tmps)=Region.wanted oi (yielded ops a.tmps):=fun d u=>
  ⟨(execOp_put oi KU ({ a with defers:=d::a.defers }:Act) oj.dst u h3).trans rfl,(wanted_put oi ({ a with defers:=d::a.defers }:Act) oj.dst u h3).trans rfl⟩
 unfold Go.wpOp at *
 simp only[hj]at *
 rw[wanted_put oj a oi.dst v h1]at h;split
 ·rename_i hw;simp only[hw,if_true]at h;rcases h with h|⟨Ka,aaU⟩
  case inr=>exact .inr ⟨by unfold Oper.asks at *;rw[execOp_put oj KV a oi.dst v h1]at Ka;exact Ka,aaU⟩
  refine .inl ?_;unfold Oper.wp at *
  rw[execOp_put oj KV a oi.dst v h1]at h;generalize(execOp a.eval oj).run P w=r at *
  cases r with
  | ok n w'=>
   cases n<;>simp only[Oper.upon]at h⊢
   case value u=>exact⟨dE u,by rw[<-Act.put_comm a v u h2];exact h⟩
   case skip=>exact⟨dE _,by rw[<-Act.put_comm a v undef h2];exact h⟩
   case defer d=>
    refine⟨abW d _,?_⟩;rw[<-Act.put_comm _ v undef h2,<-Act.put_defers];exact h
   case enter f args=>
    refine Calls.mono h fun e w'' he=>?_;cases e with
    |returned u=>exact⟨dE u,by rw[<-Act.put_comm a v u h2];exact he⟩
    |panicked c=>exact hQ _ _ _ he
    |outgrown=>exact he
   case row row args=>exact Rows.mono h fun u w'' he=>⟨dE u,by rw[<-Act.put_comm a v u h2];exact he⟩
  |halt x w'=>
   cases x<;>simp only[Oper.upon]at h⊢
   case panic u=>exact hQ _ _ _ h
 ·rename_i hw;simp only[hw]at h;exact⟨dE _,by rw[<-Act.put_comm a v undef h2];exact h⟩
def lS(ops:Array Oper)(aN:Array Bool):Prop:=∀(j:Nat)(o:Oper),ops[j]? =some o->aN.getD j false=true->∀e∈o.after,Region.binds .any e=true->aN.getD e.on false=true
theorem lS.step{aN:Array Bool}{i:Nat}(h:lS ops aN)(hi:i∈Region.ready .any ops aN):lS ops (aN.setIfInBounds i true):=by
 intro j o hj hl e he hb;obtain⟨h0,oi,nR,dJ⟩:=mem_ready.1 hi;by_cases Ko:i=j
 ·subst Ko;rw[hj]at nR;cases nR;exact getD_set_true (dJ e he hb)
 ·rw[getD_set_ne false Ko]at hl;exact getD_set_true (h j o hj hl e he hb)
theorem Gc{aN:Array Bool}{i:Nat}(hd:lS ops aN):∀(n k:Nat),aN.getD k false=true->mw ops n i k=true->aN.getD i false=true
 |0,_,_,h=>by simp[mw]at h
 | n+1,k,hk,h=>by
  unfold mw at h;cases ho:ops[k]? with
  |none=>simp[ho]at h
  |some o=>
   simp only[ho,KaS,Kbb,KbF,beq_iff_eq]at h;obtain⟨e,he,hb,h⟩:=h;have hl:=hd k o ho hk e (by simpa using he) hb;rcases h with h|h
   ·rw[<-h];exact hl
   ·exact Gc hd n e.on hl h
theorem Xk{aN:Array Bool}{i j n:Nat}(hd:lS ops aN)(hj:j∈Region.ready .any ops aN)(h:mw ops n i j=true):aN.getD i false=true:=by
 obtain⟨_,o,ho,dJ⟩:=mem_ready.1 hj;cases n with
 |zero=>simp[mw]at h
 |succ n=>
  unfold mw at h;simp only[ho,KaS,Kbb,KbF,beq_iff_eq]at h;obtain⟨e,he,hb,h⟩:=h;have hl:=dJ e (by simpa using he) hb;rcases h with h|h
  ·rw[<-h];exact hl
  ·exact Gc hd n e.on hl h
theorem MV{aN:Array Bool}{i:Nat}(h0:aN.getD i true=false):¬aN.getD i false=true:=by
 intro h1;rcases Nat.lt_or_ge i aN.size with h'|h'
 ·simp[h']at h0 h1;rw[h0]at h1;cases h1
 ·simp[Array.getElem?_eq_none h']at h1
theorem XG{fo:Nat->Bool}{all:Bool}{i:Nat}{oi:Oper}{v:Value}(hi:ops[i]? =some oi)(KT:∀(j:Nat)(o:Oper) cs b,ops[j]? =some o->o.op≠ .select cs b)
  (hQ:∀c a w,Q (.panic c) (a.put oi.dst v) w->Q (.panic c) a w)
  (sI:all=true∨∀j,fo j=true->j<ops.size->mw ops ops.size i j=true∨j=i):
  ∀(fuel:Nat)(aN:Array Bool)(a:Act)(w:World),lS ops aN->
   (∀j oj,ops[j]? =some oj->j≠i->aN.getD j true=false->(∀e∈oj.after,Region.binds .any e=true->e.on≠i)->oi.apart ops oj=true)->
   i∈Region.ready .any ops aN->YF P ops all oi v a w->
   pL P ops Q fo fuel (aN.setIfInBounds i true) (a.put oi.dst v) w->pL P ops Q fo (fuel+1) aN a w:=by
 intro fuel;induction fuel with
 | zero=>
  intro aN a w _ _ hr hy H;refine⟨fun h=>(by rw[h]at hr;cases hr),fun j hj=>?_⟩;by_cases l9:j=i
  ·subst l9;exact hy.wpOp hi ⟨fun _=>Ext.refl _ _,H⟩
  ·have:=ready_mono hj l9;rw[H.1]at this;cases this
 | succ fuel ih=>
  intro aN a w Kh uP hr hy H;refine⟨fun h=>(by rw[h]at hr;cases hr),fun j hj=>?_⟩;by_cases l9:j=i
  ·subst l9;exact hy.wpOp hi ⟨fun _=>Ext.refl _ _,H⟩
  ·have h1:=H.2 j (ready_mono hj l9);obtain⟨Kt,oj,yx,dJ⟩:=mem_ready.1 hj;have Kp:¬aN.getD i false=true:=MV (mem_ready.1 hr).1;have aa3:∀e∈oj.after,Region.binds .any e=true->e.on≠i:=fun e he hb heq=>Kp (heq▸dJ e he hb);have h2:=MU yx (uP j oj yx l9 Kt aa3) (fun cs b=>KT i oi cs b hi) (fun cs b=>KT j oj cs b yx) hQ h1;have aag:all=true∨fo j=false:=by
    rcases sI with h|h
    ·exact .inl h
    ·cases hb:fo j with
     |false=>exact .inr rfl
     |true=>
      have aaL:j<ops.size:=(Kbq.1 yx).1;rcases h j hb aaL with h|h
      ·exact absurd (Xk Kh hj h) Kp
      ·exact absurd h l9
   have aaC:∀k ok,ops[k]? =some ok->k≠i->(aN.setIfInBounds j true).getD k true=false->
     (∀e∈ok.after,Region.binds .any e=true->e.on≠i)->oi.apart ops ok=true:=fun k ok hk uV ky nQ=>by
    refine uP k ok hk uV ?_ nQ;by_cases Kq:j=k
    ·subst Kq;exact Kt
    ·rw[getD_set_ne true Kq]at ky;exact ky
   refine wpOp_mono (fun a' w' h3=>?_) h2;obtain⟨⟨he,hw⟩,hx,qF⟩:=h3;refine⟨hx,ih (aN.setIfInBounds j true) a' w' (Kh.step hj) aaC (ready_mono hr (Ne.symm l9)) (hy.step he hw ?_) ?_⟩
   ·rcases aag with h|h
    ·exact .inl h
    ·exact .inr (hx h)
   ·rw[Array.setIfInBounds_comm _ _ l9];exact qF
end
section
variable {C : Ctx} {ρ : Nat -> Option Nat} {fr : Fr} {hp : HP} {w : World} {a : Act} {K : Qg}
theorem Gr{dr:Bool}{o:Oper}(ak:∀d,o.dst=some d->d<C.N)(h:Qv C ρ fr hp a.tmps w)(hv:fL (dV C.P dr o) fr hp K):∃aq hp',Qv C ρ aq hp' (a.put o.dst undef).tmps w/\K aq hp':=by
 unfold fL at hv;rw[Fk]at hv;cases hd:o.dst with
 |some d=>rw[hd]at hv;exact⟨_,hp,h.ae Qh.Lx (ak d hd),hv⟩
 |none=>rw[hd]at hv;exact⟨fr,hp,h,hv⟩
theorem TG{P:Program}{dr:Bool}{o:Oper}:(dV P dr o).cls=(dV P true o).cls:=by
 cases dr with
 |true=>rfl
 | false=>
  have h0:(jj P false o).map bN.cls=(jj P true o).map bN.cls:=by
   unfold jj;split<;>first|rfl|skip
   split<;>first|rfl|skip
   rename_i f _;cases h1:bp f with
   |none=>simp
   |some pf=>simp only[KbW,Option.map_map];congr 1
  unfold dV;cases h1:jj P false o<;>cases h2:jj P true o<;>simp_all[bN.cls]
theorem Gs {dr:Bool} {R:Qg} {sk:List It} {ops:Array Oper} {Q:Exit->Act->World->Prop} (yw:Region.noSelect ops=true) (hQ:xJ C (vc C R sk) Q):∀(n:Nat) (aN:Array Bool) (r:RT) (fr:Fr) (hp:HP) (a:Act) (w:World),
  lI C.P C.N dr ops n aN=some r.strip->lS ops aN->a.defers=[]->c8 C fr hp a.tmps w->vc C R (.o r::sk) fr hp->
  pL C.P ops (NoPanic Q) (rR C.P dr ops) n aN a w:=by
 intro n;have done:∀(n:Nat)(aN:Array Bool)(r:RT)(fr:Fr)(hp:HP)(a:Act)(w:World),Region.ready .any ops aN=[]->a.defers=[]->c8 C fr hp a.tmps w->r.strip= .nil->vc C R (.o r::sk) fr hp->pL C.P ops (NoPanic Q) (rR C.P dr ops) n aN a w:=by
  intro n aN r fr hp a w hr aH hs va hv;obtain⟨r',fr,hp,h1,h2,hs,hv⟩:=rC r fr hp hs hv;obtain rfl:=HO (h1.trans va) h2;rw[tY]at hv;have hq:NoPanic Q .normal a w:=hQ fr hp a w aH hs hv;cases n with
  |zero=>exact⟨hr,hq⟩
  |succ n=>exact⟨fun _=>hq,by rw[hr];simp⟩
 induction n with
 | zero=>
  intro aN r fr hp a w ho hd aH hs hv;unfold lI at ho;split at ho
  ·rename_i hr;exact done 0 aN r fr hp a w (by simpa using hr) aH hs (Kcm ho).symm hv
  ·cases ho
 | succ n ih=>
  intro aN r fr hp a w ho hd aH hs hv;unfold lI at ho;split at ho
  ·rename_i hr;exact done (n+1) aN r fr hp a w (by simpa using hr) aH hs (Kcm ho).symm hv
  ·rename_i hr;obtain⟨r',fr,hp,e1,e2,hs,hv⟩:=rC r fr hp hs hv;rw[<-e1]at ho;split at ho
   ·rename_i i aaA;have mh:=List.find?_some aaA;simp only[Kab,Kaa]at ho;obtain⟨g,⟨o,nR,DX⟩,r0,dS,nL⟩:=ho;obtain⟨r',rfl,rfl⟩:=Ca nL.symm e2;unfold Cr at mh;simp only[Kbb,List.contains_iff_mem]at mh;obtain⟨⟨yA,uP⟩,bJ⟩:=mh;have Kf:ov C.P ops i=(dV C.P dr o).cls:=by rw[TG];simp[ov,nR]
    rw[uc]at hv;obtain⟨ρ,mg⟩:=hs;obtain⟨ak,Ef,uJ⟩:=Gz mg DX hv;rw[Ef]at uJ;have sI:∀all:Bool,(all=false->ov C.P ops i=1)->all=true∨∀j,rR C.P dr ops j=true->j<ops.size->mw ops ops.size i j=true∨j=i:=by
     intro all dJ;cases all with
     |true=>exact .inl rfl
     |false=>
      refine .inr fun j hj nM=>?_;rw[dJ rfl]at bJ;have:=KaB.1 bJ j (by simpa using nM);simp only[KbF,Bool.not_eq_true']at this;rcases this with h|h
      ·rw[hj]at h;cases h
      ·exact .inl h
    have fin:∀(all:Bool)(v:Value),(all=false->ov C.P ops i=1)->YF C.P ops all o v a w->(∃aq hp',Qv C ρ aq hp' (a.put o.dst v).tmps w/\vc C R (.o r'::sk) aq hp')->pL C.P ops (NoPanic Q) (rR C.P dr ops) (n+1) aN a w:=by
     intro all v dJ hy ⟨aq,hp',dw,kA⟩;exact XG nR (Region.noSelect_spec yw) (fun _ _ _ h=>h) (sI all dJ) n aN a w hd (Region.free_spec nR uP) yA hy
      (ih _ r' aq hp' _ w dS (hd.step yA) (by rw[pz];exact aH) ⟨ρ,dw⟩ kA)
    rcases uJ with⟨hw,hv⟩|⟨hw,hv⟩
    ·by_cases h0:ov C.P ops i=0
     ·obtain⟨v,bz,qF⟩:=G8 (by rw[<-Kf];exact h0) ak mg hv;exact fin true v (by simp) (.inl ⟨hw,fun w' _=>bz w'⟩) qF
     ·by_cases h1:ov C.P ops i=1
      ·obtain⟨v,b,hb,bz,qF⟩:=G9 (by rw[<-Kf];exact h1) ak mg hv;exact fin false v (fun _=>h1) (.inl ⟨hw,fun w' mY=>bz w' (mY.elim (fun h=>by cases h) (fun h=>h.block b hb (fun h=>h)))⟩) qF
      ·split at bJ
       ·rename_i h;exact absurd h h0
       ·rename_i h;exact absurd h h1
       ·cases bJ
    ·by_cases h1:ov C.P ops i=1
     ·exact fin false undef (fun _=>h1) (.inr ⟨hw,rfl⟩) (Gr ak mg hv)
     ·exact fin true undef (by simp) (.inr ⟨hw,rfl⟩) (Gr ak mg hv)
   ·
    simp only[Kaa]at ho;obtain⟨rs,ct,nL⟩:=ho;obtain⟨m1,m2⟩:=iz ct;have hbr:∀(rs:List RT) (r':RT) (fr:Fr) (hp:HP),r'.strip=oJ rs->c8 C fr hp a.tmps w->vc C R (.o r'::sk) fr hp->∀r∈rs,∃r2 dR bc,r2.strip=r/\(∀x,r2≠ .wk x)/\c8 C dR bc a.tmps w/\vc C R (.o r2::sk) dR bc:=by
     intro rs;induction rs with
     |nil=>intro _ _ _ _ _ _ r hr;cases hr
     | cons x xs gM=>
      intro r' fr hp dS hs hv r hr;obtain⟨r2,dR,bc,f1,f2,hs,hv⟩:=rC r' fr hp hs hv;cases xs with
      |nil=>simp at hr;subst hr;exact⟨r2,dR,bc,f1.trans dS,f2,hs,hv⟩
      | cons y ys=>
       rw[oJ]at dS
       ·obtain⟨a',b',rfl,g1,g2⟩:=N7 (f1.trans dS) f2;rw[FX]at hv;rcases KaH.1 hr with rfl|hr
        ·obtain⟨r3,xS,kv,k1,k2,k3,k4⟩:=rC a' dR bc hs hv.1;exact⟨r3,xS,kv,k1.trans g1,k2,k3,k4⟩
        ·exact gM b' dR bc g2 hs hv.2 r hr
       ·simp
    refine⟨fun h0=>absurd (by rw[h0];rfl) hr,fun i hi=>?_⟩;obtain⟨k,hk⟩:=Kat hi;have sw:k<rs.length:=by rw[m1];exact(Kac.1 hk).1
    obtain⟨i',aA,hf⟩:=m2 k _ (Kaf sw);rw[hk]at aA;cases aA;simp only[Kab,Kaa]at hf;obtain⟨g,⟨o,nR,DX⟩,r0,dS,he⟩:=hf;obtain⟨r2,dR,bc,f1,f2,hs,kA⟩:=hbr rs r' fr hp nL.symm hs hv _ (Kao sw);obtain⟨r',rfl,rfl⟩:=Ca (f1.trans he.symm) f2;rw[uc]at kA;obtain⟨ρ,mg⟩:=hs;refine wpOp_mono (fun a' w' hA=>?_) (GX nR aH mg DX kA);obtain⟨qq,⟨aq,hp',dw,qJ⟩,hx⟩:=hA;refine⟨fun hb=>hx ?_,ih _ r' aq hp' a' w' dS (hd.step hi) qq dw qJ⟩;simpa[rR,nR]using hb
theorem c8.drew{tmps:Array Value}(h:c8 C fr hp tmps w):c8 C fr hp tmps { w with drawn:=w.drawn+1 }:=by obtain⟨ρ,hs⟩:=h;exact⟨ρ,hs.grow (Ext.drew w _)⟩
theorem lS.start(ops:Array Oper):lS ops (Array.replicate ops.size false):=by intro j o _ hl;exfalso;simp[Array.getD]at hl
theorem BG{s:SC}{r:RT}(h:s.strip= .rg r):∃r',s= .rg r'/\r'.strip=r:=by
 cases s with
 |rg r'=>simp only[SC.strip,SC.rg.injEq]at h;exact⟨r',rfl,h⟩
 |_=>simp[SC.strip]at h
theorem XH{R:Qg}{sk:List It}{ops:Array Oper}{draw:Bool}{id:Nat}{s:SC}{Q:Exit->Act->World->Prop}(hm:C.P.follows .mixedOrders=true)(hQ:xJ C (vc C R sk) Q)
  (hc:tE C.P C.N ops draw=some s.strip) (aH:a.defers=[]) (hs:c8 C fr hp a.tmps w) (hv:vc C R (.c s::sk) fr hp):(Code.region id ops draw).wp C.P Q a w:=by
 unfold tE at hc;split at hc
 ·rename_i hd;subst hd;split at hc
  ·rename_i yw;have key:∀(dr:Bool)(qQ:Nat)(s:SC),tD C.P C.N ops dr qQ=some s.strip->vc C R (.c s::sk) fr hp->(Code.region id ops true).wp C.P Q a w:=by
    intro dr qQ s hc hv;unfold tD at hc;split at hc
    ·cases hc
    split at hc
    ·rename_i r0 hr;split at hc
     ·obtain⟨r,rfl,rfl⟩:=BG (Kcm hc).symm;rw[vc]at hv;exact wp_region_noPanic (wp_region_any hm (AV _ _ _ _ _ (Gs yw hQ _ _ r fr hp a _ hr (lS.start ops) aH hs.drew hv)))
     ·cases hc
    ·cases hc
   split at hc
   ·rename_i s' dw;cases hc;split at dw
    ·simp only[Kaa]at dw;obtain⟨r0,hr,he⟩:=dw;obtain⟨r,rfl,rfl⟩:=BG he.symm;rw[vc]at hv;exact wp_region_noPanic (wp_region_any hm (AV _ _ _ _ _ (Gs yw hQ _ _ r fr hp a _ (vO _ _ _ hr) (lS.start ops) aH hs.drew hv)))
    ·cases dw
   ·exact key _ _ _ hc hv
  ·cases hc
 ·rename_i hd;have hdf:draw=false:=by simpa using hd
  subst hdf;simp only[Kaa]at hc;obtain⟨gs,hgs,he⟩:=hc;obtain⟨r,rfl,hr⟩:=BG he.symm;rw[vc]at hv;obtain⟨m1,m2⟩:=iz hgs;refine wp_region (GY hQ gs (List.range ops.size) r fr hp a w (by simp[m1]) (fun k i g hk hg=>?_) aH hs hr hv);obtain⟨o,ho,ab⟩:=m2 k g hg;have sw:k<ops.size:=by have:=(Kac.1 hk).1;simpa using this
  rw[Kcj sw]at hk;cases hk;exact⟨o,by simpa using ho,ab⟩
end
end Go.FW
