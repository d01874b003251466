/- Part 1 of the proof of InequalityPolys: FwA, FwB, FwC, FwD, FwE, FwF, FwG, FwH, FwI, FwJ, FwK, FwL, FwLN, FwM, FwN, FwO. Own lemmas; no conditions. -/
import Derived.Test.YtikalonaompbdaaGreatInequalityPolysPart0
import Derived.WalkKit
import Derived.Orders
import Derived.Laws.StructEq
import Derived.Deep.RegionHeld3
set_option maxHeartbeats 1000000
set_option linter.all false
set_option maxRecDepth 100000
namespace Go.FW
variable{X Y:Nat->Prop}{a w:World}{v:Value}
def Oz{p:Prop}(h:p:=by omega):p:=h
open Go
inductive PV where
 |undef
 |int (k:IntKind) (n:Int)
 |bool (b:Bool)
 |aa
 |sl (e:Nat) (xs:List PV)
 |agg (cs:List PV)
 |aI (vs:List PV)
 |fn (f:FuncId) (first cap:List PV)
 |pt (cs:List PV)
 |mp (O i o:Nat)
 |aD (O o n:Nat)
 |rb (O o n:Nat)
 |aK (γ o n:Nat)
 |np (γ i o:Nat)
 |aU (cs:List PV)
 |fH (cs:List PV)
 |aH (γ e ty:Nat) (xs:List PV)
 |str (s:ByteArray)
 |dQ (cs:List PV) (q:PV)
 |nf
 |jB (b o:Nat)
 deriving Inhabited
abbrev PV.ms(O n:Nat):PV:=.aD O 0 n
def PV.cells:PV->List PV
 |.agg cs=>cs
 |x=>[x]
def PV.aV:PV->List PV
 |.aU cs=>cs
 |x=>x.cells
def PV.jH:PV->Bool
 |.undef=>false
 |_=>true
def PV.aJ:PV->Bool
 |.int .. | .bool _| .aa| .sl .. | .agg _| .pt _| .str _| .nf| .jB .. =>true
 |.fn _ first cap=>first.all PV.jH&&cap.all PV.jH
 |_=>false
inductive Qn(w:World)(X:Nat->Prop):PV->Value->Prop
 |int (k:IntKind) (n:Int):Qn w X (.int k n) (.int k n)
 |bool (b:Bool):Qn w X (.bool b) (.bool b)
 |str (s:ByteArray):Qn w X (.str s) (.string s)
 |aa:Qn w X .aa (.slice none 0 0)
 |ma (e:Nat) (a:Option Addr) (cap:Nat) (hc:cap<=maxLen):Qn w X (.sl e []) (.slice a 0 cap)
 | sl (e:Nat) (xs:List PV) (b off cap:Nat) (vs:Nat->Nat->Value) (hX:¬X b) (hb:b<w.heap.size) (hl:xs.length<=cap) (hc:cap<=maxLen)
   (he:∀(i:Nat)(x:PV),xs[i]? =some x->x.cells.length=e)
   (hv:∀i,i<xs.length->∀j,j<e->w.cell? ⟨b,off+i*e+j,none⟩=some (vs i j))
   (hr:∀(i:Nat)(x:PV),xs[i]? =some x->∀(j:Nat)(y:PV),x.cells[j]? =some y->Qn w X y (vs i j)):
   Qn w X (.sl e xs) (.slice (some ⟨b,off,none⟩) xs.length cap)
 | pt (cs:List PV) (b off:Nat) (vs:Nat->Value) (hX:¬X b) (hb:b<w.heap.size)
   (hv:∀j,j<cs.length->w.cell? ⟨b,off+j,none⟩=some (vs j))
   (hr:∀(j:Nat)(y:PV),cs[j]? =some y->Qn w X y (vs j)):
   Qn w X (.pt cs) (.pointer (some ⟨b,off,none⟩))
 | fn (f:FuncId) (first cap:List PV) (fv cv:Array Value) (h1:fv.size=first.length) (h2:cv.size=cap.length)
   (pM:∀(i:Nat)(x:PV),first[i]? =some x->Qn w X x (fv.getD i undef)) (jX:∀(i:Nat)(x:PV),cap[i]? =some x->Qn w X x (cv.getD i undef)):
   Qn w X (.fn f first cap) (.func (.func f) fv cv)
 |nf:Qn w X .nf .nilFunc
 |jB (b o:Nat):Qn w X (.jB b o) (.pointer (some ⟨b,o,none⟩))
structure Ext(Y:Nat->Prop)(w w':World):Prop where
 os:w'.os=w.os
 tape:w'.tape=w.tape
 output:w'.output=w.output
 size:w.heap.size<=w'.heap.size
 block:∀b,b<w.heap.size->¬Y b->w'.heap[b]? =w.heap[b]?
def Ext.refl(Y:Nat->Prop)(w:World):Ext Y w w:=⟨rfl,rfl,rfl,Nat.le_refl _,λ_ _ _=>rfl⟩
def Ext.trans{Y:Nat->Prop}{a b c:World}(h:Ext Y a b)(k:Ext Y b c):Ext Y a c:=
  ⟨k.os.trans h.os,k.tape.trans h.tape,k.output.trans h.output,Nat.le_trans h.size k.size,
   λi hi hY=>(k.block i (Nat.lt_of_lt_of_le hi h.size) hY).trans (h.block i hi hY)⟩
def Ext.mono{Y':Nat->Prop}{b:World}(h:Ext Y a b)(hY:∀i,i<a.heap.size->Y i->Y' i):Ext Y' a b:=
 ⟨h.os,h.tape,h.output,h.size,λi hi hn=>h.block i hi (λhy=>hn (hY i hi hy))⟩
def Ext.trans'{Y':Nat->Prop}{b c:World}(h:Ext Y a b)(k:Ext Y' b c)(hY:∀i,i<a.heap.size->Y' i->Y i):Ext Y a c:=
  ⟨k.os.trans h.os,k.tape.trans h.tape,k.output.trans h.output,Nat.le_trans h.size k.size,
   λi hi hn=>(k.block i (Nat.lt_of_lt_of_le hi h.size) (λhy=>hn (hY i hi hy))).trans (h.block i hi hn)⟩
def di:Nat->Prop:=λ_=>False
def yx{w':World}{a:Addr}(h:w'.heap[a.block]? =w.heap[a.block]?):w'.cell? a=w.cell? a:=by simp[World.cell?,h]
def afc{b o:Nat}(h:w.cell? ⟨b,o,none⟩=some v):b<w.heap.size:=by
 rcases Nat.lt_or_ge b w.heap.size with h'|h'
 .exact h'
 .simp[World.cell?,Array.getElem?_eq_none h']at h
def Qn.mono{w':World}{X':Nat->Prop}{p:PV}(h:Qn w X p v)
  (hb:∀b,b<w.heap.size->¬X b->w'.heap[b]? =w.heap[b]?) (hx:∀b,b<w.heap.size->¬X b->¬X' b) (hs:w.heap.size<=w'.heap.size):Qn w' X' p v:=by
 induction h with
 |int k n=>exact .int k n
 |bool b=>exact .bool b
 |str s=>exact .str s
 |aa=>exact .aa
 |nf=>exact .nf
 |jB b o=>exact .jB b o
 |ma e a cap hc=>exact .ma e a cap hc
 | sl e xs b off cap vs hX aE hl hc he hv hr ih=>
  exact .sl e xs b off cap vs (hx b aE hX) (Nat.lt_of_lt_of_le aE hs) hl hc he
   (λi hi j hj=>by rw[yx (hb b aE hX)];exact hv i hi j hj) (λi x bc j y hy=>ih i x bc j y hy)
 |pt cs b off vs hX aE hv hr ih=>exact .pt cs b off vs (hx b aE hX) (Nat.lt_of_lt_of_le aE hs) (λj hj=>by rw[yx (hb b aE hX)];exact hv j hj) (λj y hy=>ih j y hy)
 |fn f first cap fv cv h1 h2 pM jX ih1 OP=>exact .fn f first cap fv cv h1 h2 ih1 OP
def Qn.uV{p:PV}(h:Qn w X p v):v.oneCell'=true/\v.cells= #[v]/\p.cells=[p]:=by cases h<;>exact⟨rfl,rfl,rfl⟩
def bS(w:World)(X:Nat->Prop):PV->Value->Prop
 |.agg cs,v=>∃vs:Array Value,v= .agg vs/\vs.size=cs.length/\∀i x,cs[i]? =some x->Qn w X x (vs.getD i undef)
 |p,v=>Qn w X p v
def gq(w:World)(X:Nat->Prop):PV->Value->Prop
 |.aI ps,v=>∃vs:Array Value,v= .tuple vs/\vs.size=ps.length/\∀i x,ps[i]? =some x->bS w X x (vs.getD i undef)
 |p,v=>bS w X p v
def bS.mono{w w':World}{X X':Nat->Prop}{p:PV}{v:Value}(h:bS w X p v)
  (hb:∀b,b<w.heap.size->¬X b->w'.heap[b]? =w.heap[b]?) (hx:∀b,b<w.heap.size->¬X b->¬X' b) (hs:w.heap.size<=w'.heap.size):bS w' X' p v:=by
 cases p with
 |agg cs=>obtain⟨vs,rfl,h1,h2⟩:=h;exact⟨vs,rfl,h1,λi x hi=>(h2 i x hi).mono hb hx hs⟩
 |_=>exact Qn.mono h hb hx hs
def gq.mono{w w':World}{X X':Nat->Prop}{p:PV}{v:Value}(h:gq w X p v)
  (hb:∀b,b<w.heap.size->¬X b->w'.heap[b]? =w.heap[b]?) (hx:∀b,b<w.heap.size->¬X b->¬X' b) (hs:w.heap.size<=w'.heap.size):gq w' X' p v:=by
 cases p with
 |aI ps=>obtain⟨vs,rfl,h1,h2⟩:=h;exact⟨vs,rfl,h1,λi x hi=>(h2 i x hi).mono hb hx hs⟩
 |agg cs=>exact bS.mono (p:=.agg cs) h hb hx hs
 |_=>exact Qn.mono h hb hx hs
def gq.of1{p:PV}(h:bS w X p v):gq w X p v:=by
 cases p with
 |aI ps=>cases h
 |_=>exact h
def bS.data{p:PV}(h:bS w X p v):p.aJ=true:=by
 have hu:∀(x:PV)(u:Value),Qn w X x u->x.jH=true:=λx u hx=>by cases hx<;>rfl
 have bY:∀(l:List PV)(vs:Array Value),(∀(i:Nat)(x:PV),l[i]? =some x->Qn w X x (vs.getD i undef))->l.all PV.jH=true:=λl vs hl=>by rw[List.all_eq_true];intro x hx;obtain⟨i,hi⟩:=List.getElem?_of_mem hx;exact hu x _ (hl i x hi)
 cases p with
 |agg cs=>rfl
 |fn f first cap=>
  have h':Qn w X (.fn f first cap) v:=h;cases h' with
  |fn _ _ _ fv cv h1 h2 h3 h4=>simp[PV.aJ,bY _ _ h3,bY _ _ h4]
 |_=>cases h<;>rfl
def bS.cells{w:World}{X:Nat->Prop}{p:PV}{v:Value}(h:bS w X p v):
  v.cells.size=p.cells.length/\∀j y,p.cells[j]? =some y->Qn w X y (v.cells.getD j undef):=by
 by_cases ha:∃cs,p= .agg cs
 .obtain⟨cs,rfl⟩:=ha;obtain⟨vs,rfl,h1,h2⟩:=h;exact⟨h1,h2⟩
 .have hc:Qn w X p v:=by
   cases p with
   |agg cs=>exact absurd ⟨cs,rfl⟩ ha
   |_=>exact h
  obtain⟨_,h2,h3⟩:=hc.uV;rw[h2,h3];refine⟨rfl,λj y hy=>?_⟩
  match j,hy with
  |0,hy=>simp at hy;subst hy;exact hc
  |j+1,hy=>simp at hy
def bS.tC{p:PV}(h:Qn w X p v):bS w X p v:=by
 cases p with
 |agg cs=>cases h
 |_=>exact h
def bS.aaA{p:PV}(h:bS w X p v):∀u∈v.cells.toList,u.oneCell'=true:=by
 intro u hu;obtain⟨h1,h2⟩:=h.cells;obtain⟨j,hj,rfl⟩:=List.getElem_of_mem hu;have dz:j<v.cells.size:=by simpa using hj
 have hp:j<p.cells.length:=Oz;have:=(h2 j p.cells[j] (List.getElem?_eq_getElem hp)).uV.1;simpa[Array.getD,dz]using this
abbrev Ka0:=@Nat.mul_add
abbrev Ka1:=@List.getElem?_drop
abbrev Ka2:=@Nat.zero_add
abbrev Ka3:=@List.map_cons
abbrev Ka4:=@List.length_drop
abbrev Ka5:=@List.replicate_zero
abbrev Ka6:=@List.drop_zero
abbrev Ka7:=@Nat.le_of_ble_eq_true
abbrev Ka8:=@Nat.mul_le_mul_left
abbrev Ka9:=@List.ext_getElem
abbrev KaA:=@List.mem_cons
abbrev KaB:=@List.drop_eq_getElem_cons
abbrev KaC:=@List.length_map
abbrev KaD:=@List.mem_map
abbrev KaE:=@List.length_eq_zero_iff
abbrev KaF:=@List.map_congr_left
abbrev KaG:=@Option.some.injEq
abbrev KaH:=@List.getElem_of_mem
abbrev KaI:=@List.getElem?_of_mem
abbrev KaJ:=@List.any_eq_true
abbrev KaK:=@Nat.le_trans
abbrev KaL:=@Nat.add_mul
abbrev KaM:=@List.getElem?_take_of_lt
abbrev KaN:=@List.mem_append
abbrev KaO:=@List.nil_append
abbrev KaP:=@Nat.mod_eq_of_lt
abbrev KaQ:=@List.take_length
abbrev KaR:=@List.not_mem_nil
abbrev KaS:=@Array.getD_eq_getD_getElem?
abbrev KaT:=@List.cons_append
abbrev KaU:=@Nat.mul_comm
abbrev KaV:=@List.getElem?_append
abbrev KaW:=@Nat.add_zero
abbrev KaX:=@List.length_cons
abbrev KaY:=@Sem.run_pure
abbrev KaZ:=@Nat.mul_le_mul
abbrev Kaa:=@Option.map_eq_some_iff
abbrev Kab:=@Option.bind_eq_some_iff
abbrev Kac:=@List.getD_eq_getElem?_getD
abbrev Kad:=@List.getElem_mem
abbrev Kae:=@List.getElem?_eq_getElem
abbrev Kaf:=@List.take_of_length_le
abbrev Kag:=@Nat.le_refl
abbrev Kah:=@List.getElem?_eq_some_iff
abbrev Kai:=@List.append_nil
abbrev Kaj:=@List.mem_of_getElem?
abbrev Kak:=@List.contains_cons
abbrev Kal:=@List.flatMap_cons
abbrev Kam:=@List.take_succ_eq_append_getElem
abbrev Kan:=@Result.andThen_ok
abbrev Kao:=@List.contains_nil
abbrev Kap:=@Nat.mul_le_mul_right
abbrev Kaq:=@List.flatMap_nil
abbrev Kar:=@List.drop_of_length_le
abbrev Kas:=@List.all_eq_true
abbrev Kat:=@List.mem_flatMap
abbrev Kau:=@Sem.run_bind
abbrev Kav:=@Bool.and_eq_true
abbrev Kaw:=@List.getElem?_map
abbrev Kax:=@List.mem_singleton
abbrev Kay:=@List.length_take
abbrev Kaz:=@List.length_append
abbrev Kb0:=@Nat.pow_pos
abbrev Kb1:=@Nat.min_eq_left
abbrev Kb2:=@List.mem_of_mem_drop
abbrev Kb3:=@Nat.mul_zero
abbrev Kb4:=@Array.size_append
abbrev Kb5:=@Nat.add_assoc
abbrev Kb6:=@List.eq_nil_of_length_eq_zero
abbrev Kb7:=@Nat.le_mul_of_pos_right
abbrev Kb8:=@Int.eq_ofNat_of_zero_le
abbrev Kb9:=@List.mapM_cons
abbrev KbA:=@Nat.pow_succ
abbrev KbB:=@Nat.eq_of_mul_eq_mul_right
abbrev KbC:=@List.replicate_succ
abbrev KbD:=@Nat.add_sub_cancel_left
abbrev KbE:=@Nat.mul_left_comm
abbrev KbF:=@List.mem_append_left
abbrev KbG:=@Nat.pow_le_pow_right
abbrev KbH:=@Int.natAbs_natCast
abbrev KbI:=@List.headD_eq_head?_getD
abbrev KbJ:=@List.getElem_append_left
abbrev KbK:=@Nat.zero_le
abbrev KbL:=@Bool.or_eq_true
abbrev KbM:=@Nat.add_comm
abbrev KbN:=@List.map_append
abbrev KbO:=@List.append_cons
abbrev KbP:=@List.any_eq_false
abbrev KbQ:=@Rat.intCast_eq_zero_iff
abbrev KbR:=@Nat.mul_one
abbrev KbS:=@Addr.add_lit
abbrev KbT:=@List.map_map
abbrev KbU:=@Array.eq_empty_of_size_eq_zero
abbrev KbV:=@Nat.div_eq_of_lt
abbrev KbW:=@Option.bind_eq_bind
abbrev KbX:=@List.size_toArray
abbrev KbY:=@List.mem_range
abbrev KbZ:=@Option.map_some
abbrev Kba:=@Nat.div_lt_iff_lt_mul
abbrev Kbb:=@List.getElem?_append_right
abbrev Kbc:=@List.getElem_map
abbrev Kbd:=@List.mem_append_right
abbrev Kbe:=@Nat.div_add_mod
abbrev Kbf:=@Nat.pos_of_ne_zero
abbrev Kbg:=@Nat.mul_assoc
abbrev Kbh:=@List.getLast?_eq_getElem?
abbrev Kbi:=@Int.toNat_natCast
abbrev Kbj:=@Nat.lt_of_lt_of_le
abbrev Kbk:=@Bool.false_eq_true
abbrev Kbl:=@Option.getD_some
abbrev Kbm:=@List.length_nil
abbrev Kbn:=@Option.some.inj
abbrev Kbo:=@Nat.mod_lt
abbrev Kbp:=@Array.getElem?_eq_some_iff
abbrev Kbq:=@Option.ne_none_iff_exists'
abbrev Kbr:=@List.append_assoc
abbrev Kbs:=@List.map_nil
abbrev Kbt:=@List.take_append_drop
abbrev Kbu:=@Array.getElem?_eq_getElem
abbrev Kbv:=@Array.mapM_eq_mapM_toList
abbrev Kbw:=@List.getElem?_append_left
abbrev Kbx:=@List.mem_cons_of_mem
abbrev Kby:=@List.mem_of_mem_take
abbrev Kbz:=@Nat.sub_self
abbrev Kc0:=@Nat.le_of_lt
abbrev Kc1:=@Nat.gcd_dvd_left
abbrev Kc2:=@Nat.min_eq_right
abbrev Kc3:=@List.getElem_set
abbrev Kc4:=@Nat.gcd_le_right
abbrev Kc5:=@List.mapM_nil
abbrev Kc6:=@Int.le_refl
abbrev KcA:=@Array.getElem?_eq_none
abbrev KcB:=@List.length_eq_one_iff
abbrev KcC:=@Nat.ne_of_beq_eq_false
abbrev KcD:=@Nat.lt_of_le_of_lt
abbrev KcE:=@List.getLast?_cons
abbrev KcF:=@Nat.lt_or_ge
abbrev KcG:=@Nat.div_le_self
abbrev KcH:=@Nat.gcd_comm
abbrev KcI:=@List.length_filter_le
abbrev KcJ:=@Int.natCast_mul
abbrev KcK:=@Bool.true_and
abbrev KcL:=@Nat.lt_irrefl
abbrev KcM:=@List.getElem?_set
abbrev KcN:=@Nat.add_mul_mod_self_right
abbrev KcO:=@Int.fdiv_eq_ediv_of_nonneg
abbrev KcP:=@List.replicate_succ'
abbrev KcQ:=@Nat.one_mul
abbrev KcR:=@List.getElem?_range
abbrev KcS:=@ByteArray.toList_eq
abbrev KcT:=@Int.toNat_of_nonneg
abbrev KcU:=@List.length_filterMap_le
abbrev KcV:=@Nat.succ_mul
abbrev KcW:=@List.sum_cons
abbrev KcX:=@Nat.gcd_zero_right
abbrev KcY:=@List.mem_filter
abbrev KcZ:=@Rat.mkRat_self
abbrev Kca:=@List.getElem_take
abbrev Kcb:=@List.all_eq_false
abbrev Kcc:=@Option.pure_def
abbrev Kcd:=@Array.length_toList
abbrev Kce:=@Nat.lt_succ_self
abbrev Kcf:=@Option.bind_some
abbrev Kcg:=@Nat.sub_zero
abbrev Kch:=@Nat.add_mul_div_right
abbrev Kci:=@Nat.zero_mul
abbrev Kcj:=@List.getElem?_take
abbrev Kck:=@List.mem_filterMap
abbrev Kcl:=@List.filterMap_nil
abbrev Kcm:=@List.mem_cons_self
abbrev Kcn:=@List.take_zero
abbrev Kco:=@Nat.add_mul_mod_self_left
abbrev Kcp:=@List.getElem_append_right
abbrev Kcq:=@Nat.add_mul_div_left
abbrev Kcr:=@Array.getElem?_setIfInBounds_ne
abbrev Kcs:=@List.head?_drop
abbrev Kct:=@List.cons.injEq
abbrev Kcu:=@List.eq_of_mem_replicate
abbrev Kcv:=@List.mem_map_of_mem
abbrev Kcw:=@List.flatMap_eq_nil_iff
abbrev Kcx:=@List.filterMap_cons
abbrev Kcy:=@Rat.mkRat_eq_div
abbrev Kcz:=@List.drop_length
attribute [go_sem_proc ↓] reduceIte
variable{A0 A1 A2 p:Prop}{N:Nat}{P:Program}
inductive aW where
 |t (n:Nat)
 |c (p:PV)
 deriving Inhabited
inductive cZ where
 |mv (d:Nat) (x:aW)
 |pick (d:Nat) (c a b:aW)
 |bin (d:Nat) (op:BinOp) (bt:Bool) (x y:aW)
 |eqs (d:Nat) (ng:Bool) (x y:aW)
 |gj (d:Nat) (ng:Bool) (x y:aW)
 |zY (d:Nat) (ng:Bool) (x:aW)
 |ym (d:Nat) (x:aW)
 |yl (d:Nat) (x i:aW)
 |un (d:Nat) (op:UnOp) (x:aW)
 |conv (d:Nat) (k:IntKind) (x:aW)
 |len (d:Nat) (x:aW)
 |mx (d:Nat) (x y:aW)
 |mn (d:Nat) (x y:aW)
 |idx (d e:Nat) (x i:aW)
 |qW (d n e:Nat) (x i:aW)
 |B3 (d n e:Nat) (ag:Bool) (x i:aW)
 |dI (d off:Nat) (x:aW)
 |BJ (d off n:Nat) (ag:Bool) (x:aW)
 |ld (d n:Nat) (ag:Bool) (x:aW)
 |st (n:Nat) (x v:aW)
 |box (d n ty:Nat) (v:aW)
 |alloc (d n ty:Nat) (z:PV)
 |mk (d e bytes ty:Nat) (z:PV) (l c:aW)
 |bs (d e ty:Nat) (parts:List aW)
 |app (d e bytes ty:Nat) (s x:aW)
 |vT (d e:Nat) (s x:aW)
 |sl (d e:Nat) (x:aW) (lo hi mx:Option aW)
 |ext (d:Nat) (x:aW) (i:Nat)
 |cD (d:Nat) (zero:List PV) (parts:List (Nat×Nat×aW))
 |fn (d f:Nat) (first cap:List aW)
 |call (d:Option Nat) (pr:Bool) (f:aW) (args:List aW)
 |B7 (d:Option Nat) (x:aW)
 |bad (d:Option Nat)
 deriving Inhabited
def cZ.dst:cZ->Option Nat
 |.mv d _| .pick d _ _ _| .bin d _ _ _ _| .eqs d _ _ _| .gj d _ _ _| .zY d _ _| .ym d _| .yl d _ _| .un d _ _| .conv d _ _| .len d _| .mx d _ _| .mn d _ _| .idx d _ _ _| .qW d _ _ _ _| .B3 d _ _ _ _ _| .dI d _ _| .BJ d _ _ _ _
 |.ld d _ _ _| .box d _ _ _| .alloc d _ _ _| .mk d _ _ _ _ _ _| .bs d _ _ _| .app d _ _ _ _ _| .vT d _ _ _| .sl d _ _ _ _ _| .ext d _ _| .cD d _ _| .fn d _ _ _=>some d
 |.st _ _ _=>none
 |.call d _ _ _| .B7 d _| .bad d=>d
structure rf where
 g:Option (Nat×Bool)
 o:cZ
 deriving Inhabited
inductive RT where
 |nil
 |o (g:Option (Nat×Bool)) (o:cZ) (r:RT)
 |br (a b:RT)
 |wk (r:RT)
 deriving Inhabited
inductive SC where
 |skip
 |rg (r:RT)
 |raw (id:Nat) (ops:Array Oper)
 |seq (a b:SC)
 |cond (c:aW) (a b:SC)
 |block (id:Nat) (a:SC)
 |loop (a:SC)
 |exit (id:Nat)
 |ret
 deriving Inhabited
def AE:Value->Option PV
 |.int k n=>some (.int k n)
 |.bool b=>some (.bool b)
 |.string s=>some (.str s)
 |.slice none 0 0=>some .aa
 |.nilFunc=>some .nf
 |_=>none
def tT:Value->Option PV
 |.agg cs=>(cs.toList.mapM AE).map .agg
 |v=>AE v
def cl:Operand->Option aW
 |.tmp t=>some (.t t)
 |.const v=>(tT v).map .c
 |.func f=>some (.c (.fn f [] []))
 |.global _=>none
def fw(P:Program)(t:TypeId):Option Nat:=(P.info? t).map (·.size)
def ot(P:Program)(t:TypeId):Option Bool:=(P.underlying t).map λd=>match d with| .struct _| .array _ _=>true|_=>false
def sI(P:Program)(t:TypeId):Option TypeId:=match P.underlying t with|some (.slice e)=>some e|_=>none
def mh(P:Program)(t:TypeId):Option (Nat×Nat×PV):=(P.info? t).bind λi=>i.zero.bind λz=>(tT z).map λp=>(i.size,i.bytes,p)
def qo:Option Operand->Option (Option aW)
 |none=>some none
 |some x=>(cl x).map some
def Dt(P:Program)(t:TypeId)(parts:List (Nat×Operand)):Option (List (Nat×Nat×aW)):=
 match P.underlying t with
 |some (.struct fs)=>(fs.toList.mapM λf=>(P.info? f.type).map λi=>(f.offset,i.size)).bind λpl=>parts.mapM λp=>(pl[p.1]?).bind λq=>(cl p.2).map λy=>(q.1,q.2,y)
 |some (.array _ e)=>(fw P e).bind λn=>parts.mapM λp=>(cl p.2).map λy=>(p.1*n,n,y)
 |_=>none
def JK(P:Program)(t:TypeId):Bool:=match P.underlying t with
 |some (.struct fs)=>match fs.toList with
  | [f, g] => f.name != "_" && g.name != "_" && f.offset == 0 && g.offset == 1 && (match P.underlying f.type with | some (.int _) => true | _ => false) && (match P.underlying g.type with | some (.int _) => true | _ => false) && !(P.stoodInHeld t) && !(P.eqGuardType P.depth t)
  |_=>false
 |_=>false
def Bt:BinOp->Option Bool
 |.eql=>some false
 |.neq=>some true
 |_=>none
def Bu(P:Program)(t:TypeId):Bool:=match P.underlying t with|some .string=>true|_=>false
def JL(P:Program)(t:TypeId):Bool:=(sI P t).isSome
def To:aW->Bool
 |.c .aa=>true
 |_=>false
def Ch(P:Program)(op:BinOp)(t:TypeId)(d:Nat)(x y:aW):cZ:=
 match(if JK P t then Bt op else none)with
 |some ng=>.eqs d ng x y
 |none=>match(if Bu P t then Bt op else none)with
  |some ng=>.gj d ng x y
  |none=>match(if JL P t&&To y then Bt op else none)with
  |some ng=>.zY d ng x
  |none=>.bin d op (match P.underlying t with|some .bool=>true|_=>false) x y
def alb : List String := ["geoprover/matrix.reduce", "geoprover/matrix.subtract", "geoprover/geoproverref09.echelon", "(*geoprover/instance.builder).value"]
def Tp(P:Program)(f:aW):Bool:=match f with
 |.c (.fn g _ _)=>(P.funcs[g]?).any λfn=>alb.contains fn.name
 |_=>false
def oV(P:Program)(draw:Bool)(o:Oper):Option cZ:=
 match o.op,o.dst with
 |.move x,some d| .assign x,some d=>(cl x).map (.mv d)
 |.pick c a b,some d=>(cl c).bind λc=>(cl a).bind λa=>(cl b).map λb=>.pick d c a b
 |.binOp op t x y _,some d=>(cl x).bind λx=>(cl y).map λy=>Ch P op t d x y
 |.unOp op _ x,some d=>(cl x).map (.un d op)
 |.convert s t x,some d=>match P.underlying s,P.underlying t with
  |some _,some (.int k)=>(cl x).map (.conv d k)
  |_,_=>none
 |.indexAddr t x i,some d=>(cl x).bind λx=>(cl i).bind λi=>match P.underlying t with
  |some (.slice e)=>(fw P e).map λn=>.idx d n x i
  |some (.array len e)=>(fw P e).map λn=>.qW d len n x i
  |_=>none
 |.index t x i,some d=>(cl x).bind λx=>(cl i).bind λi=>match P.underlying t with
  |some (.array len e)=>(fw P e).bind λn=>(ot P e).map λag=>.B3 d len n ag x i
  |some .string=>some (.yl d x i)
  |_=>none
 |.fieldAddr t x j,some d=>(cl x).bind λx=>match P.underlying t with
  |some (.struct fs)=>(fs[j]?).bind λf=>(fw P f.type).bind λn=>if n=0 then none else some (.dI d f.offset x)
  |_=>none
 |.field t x j,some d=>(cl x).bind λx=>match P.underlying t with
  |some (.struct fs)=>(fs[j]?).bind λf=>(fw P f.type).bind λn=>(ot P f.type).map λag=>.BJ d f.offset n ag x
  |_=>none
 |.load t x,some d=>(cl x).bind λx=>(fw P t).bind λn=>(ot P t).map λag=>.ld d n ag x
 |.store t x v,none=>(cl x).bind λx=>(cl v).bind λv=>(fw P t).map λn=>.st n x v
 |.box t v,some d=>(cl v).bind λv=>(fw P t).map λn=>.box d n t v
 |.alloc t,some d=>(mh P t).map λ(n,_,z)=>.alloc d n t z
 |.makeSlice t l c,some d=>(cl l).bind λl=>(cl c).bind λc=>(sI P t).bind λe=>(mh P e).map λ(n,by_,z)=>.mk d n by_ e z l c
 |.buildSlice t len parts,some d=>(sI P t).bind λe=>(mh P e).bind λr=>
   if parts.toList.map (·.1)=List.range len/\len*r.1<=16777216/\r.2.2.cells.length=r.1 then(parts.toList.mapM λp=>cl p.2).map λps=>.bs d r.1 e ps else none
 |.build t parts,some d=>(mh P t).bind λ(_,_,z)=>(Dt P t parts.toList).map λps=>.cD d z.cells ps
 |.slice t x lo hi m,some d=>(cl x).bind λx=>(qo lo).bind λlo=>(qo hi).bind λhi=>(qo m).bind λm=>(sI P t).bind λe=>(fw P e).map λn=>.sl d n x lo hi m
 |.extract x i,some d=>(cl x).map λx=>.ext d x i
 |.makeFunc (.func f) first cap,some d=>(first.toList.mapM cl).bind λfirst=>(cap.toList.mapM cl).map λcap=>.fn d f first cap
 |.nilCheck x,d=>(cl x).map λx=>.B7 d x
 |.call c,d=>match c.callee,c.args.toList,c.argTypes.toList,d with
  |.value f,args,_,d=>(cl f).bind λf=>(args.mapM cl).map λargs=>.call d (draw&& !Tp P f) f args
  |.builtin .len,[x],[t],some d=>if Bu P t then(cl x).map λx=>.ym d x else(sI P t).bind λ_=>(cl x).map λx=>.len d x
  |.builtin .max,[x,y],_,some d=>(cl x).bind λx=>(cl y).map λy=>.mx d x y
  |.builtin .min,[x,y],_,some d=>(cl x).bind λx=>(cl y).map λy=>.mn d x y
  |.builtin .append,[s,x],[t,u],some d=>(cl s).bind λs=>(cl x).bind λx=>(sI P t).bind λe=>if t=u then(mh P e).bind λr=>if r.2.2.cells.length=r.1 then some (.app d r.1 r.2.1 e s x)else none else none
  |.builtin .copy,[s,x],[t,u],some d=>(cl s).bind λs=>(cl x).bind λx=>(sI P t).bind λe=>if t=u then(fw P e).map λn=>.vT d n s x else none
  |_,_,_,_=>none
 |_,_=>none
def ir(P:Program)(draw:Bool)(o:Oper):cZ:=(oV P draw o).getD (.bad o.dst)
def nD(P:Program)(n:Nat)(draw:Bool)(ops:Array Oper)(o:Oper):Option rf:=
 if o.dst.all (· <n)then
  match o.guard with
  |none=>some ⟨none,ir P draw o⟩
  |some (j,want)=>match(ops[j]?).bind (·.dst)with
   |some s=>if s<n then some ⟨some (s,want),ir P draw o⟩else none
   |none=>none
 else none
def cZ.cls:cZ->Nat
 |.ld .. =>1
 |.box .. | .alloc .. | .mk .. | .bs .. | .call .. | .bad _=>2
 |.st .. | .app .. | .vT .. =>3
 |_=>0
def cZ.kP:cZ->Bool
 |.st .. | .app .. | .vT .. =>true
 |.call _ pr _ _=> !pr
 |_=>false
def cZ.ayq:cZ->Bool
 |.call .. =>true
 |_=>false
def tN(ops:Array Oper):Nat->Nat->Nat->Bool
 |0,_,_=>false
 |n+1,i,j=>match ops[j]? with
  |none=>false
  |some o=>o.after.toList.any λe=>Region.binds .any e&&(e.on==i||tN ops n i e.on)
def wZ(P:Program)(ops:Array Oper)(i:Nat):Nat:=((ops[i]?).map λo=>(ir P true o).cls).getD 9
def Bi(P:Program)(dr:Bool)(ops:Array Oper)(i:Nat):Bool:=((ops[i]?).map λo=>(ir P dr o).kP).getD false
def KF(P:Program)(dr:Bool)(ops:Array Oper)(bA:Array Bool)(i:Nat):Bool:=
  (Region.ready .any ops bA).contains i&&Region.free .any ops bA i&&
  (match wZ P ops i with
   |0=>true
   |1=>(List.range ops.size).all λj=> !Bi P dr ops j||tN ops ops.size i j
   |_=>false)
def xz:List RT->RT
 | []=>.nil
 | [r]=>r
 |r::rs=>.br r (xz rs)
def sF(P:Program)(N:Nat)(dr:Bool)(ops:Array Oper):Nat->Array Bool->Option RT
 |0,bA=>if Region.ready .any ops bA==[]then some .nil else none
 |n+1,bA=>
  if Region.ready .any ops bA==[]then some .nil else
  match(List.range ops.size).find? (KF P dr ops bA)with
  |some i=>((ops[i]?).bind (nD P N dr ops)).bind λg=>(sF P N dr ops n (bA.setIfInBounds i true)).map λr=>.o g.g g.o r
  |none=>((Region.ready .any ops bA).mapM λi=>((ops[i]?).bind (nD P N dr ops)).bind λg=>(sF P N dr ops n (bA.setIfInBounds i true)).map λr=>RT.o g.g g.o r).map xz
def De(P:Program)(N:Nat)(dr:Bool)(ops:Array Oper):Nat->Array Bool->Option RT
 |0,bA=>if Region.ready .any ops bA==[]then some .nil else none
 | n+1,bA=>
  if Region.ready .any ops bA==[]then some .nil else
  match(List.range ops.size).find? (KF P dr ops bA)with
  |some i=>((ops[i]?).bind (nD P N dr ops)).bind λg=>(De P N dr ops n (bA.setIfInBounds i true)).map λr=>.o g.g g.o r
  |none=>match Region.ready .any ops bA with
   | [i]=>((ops[i]?).bind (nD P N dr ops)).bind λg=>(De P N dr ops n (bA.setIfInBounds i true)).map λr=>.o g.g g.o r
   |_=>none
def F5{P:Program}{N:Nat}{dr:Bool}{ops:Array Oper}:∀(n:Nat)(bA:Array Bool)(r:RT),De P N dr ops n bA=some r->sF P N dr ops n bA=some r
 |0,bA,r,h=>h
 | n +1,bA,r,h=>by
  unfold De at h;unfold sF;split
  .rename_i hr;rw[if_pos hr]at h;exact h
  .rename_i hr;rw[if_neg hr]at h;split at h
   .rename_i i hf;simp only[Kab,Kaa]at h⊢;obtain⟨g,hg,r',dO,rfl⟩:=h;exact⟨g,hg,r',F5 n _ _ dO,rfl⟩
   .rename_i hf;split at h
    .rename_i i Ja;simp only[Kab,Kaa]at h;obtain⟨g,⟨o,ho,hg⟩,r',dO,rfl⟩:=h;simp[Ja,ho,hg,F5 n _ _ dO,xz]
    .cases h
def RT.count:RT->Nat
 |.nil=>1
 |.o _ _ r=>r.count
 |.br a b=>a.count+b.count
 |.wk r=>r.count
def Bv:List rf->RT
 | []=>.nil
 |g::gs=>.o g.g g.o (Bv gs)
def alc(P:Program)(ops:Array Oper):Bool:=decide (ops.size<=100)&&ops.toList.any λo=>(ir P false o).ayq
def ald(P:Program)(ops:Array Oper):Bool:=
 let cs:=ops.toList.map (ir P true)
 decide (100<ops.size)||4<=(cs.filter λo=>match o with| .app .. =>true|_=>false).length||
  (3<=(cs.filter λo=>match o with| .box .. | .alloc .. =>true|_=>false).length&&3<=(cs.filter λo=>match o with| .st .. =>true|_=>false).length)||
  (decide (cs.length=20)&&8<=(cs.filter λo=>match o with| .ld .. =>true|_=>false).length&&2<=(cs.filter λo=>match o with| .box .. | .alloc .. =>true|_=>false).length&&2<=(cs.filter λo=>match o with| .st .. =>true|_=>false).length)
def C5(P:Program)(N:Nat)(ops:Array Oper)(dr:Bool)(z6:Nat):Option SC:=
 if ald P ops then none else
 match sF P N dr ops ops.size (Array.replicate ops.size false)with
 |some r=>if r.count<=z6 then some (.rg r)else none
 |none=>none
def C6(P:Program)(N:Nat)(ops:Array Oper)(draw:Bool):Option SC:=
 if draw then
  if Region.noSelect ops then
   match(if alc P ops then(De P N false ops ops.size (Array.replicate ops.size false)).map .rg else none)with
   |some s=>some s
   |none=>C5 P N ops true 100
  else none
 else(ops.toList.mapM (nD P N false ops)).map λl=>.rg (Bv l)
def gX(P:Program)(N:Nat):Code->Option SC
 |.skip=>some .skip
 |.region id ops draw=>match C6 P N ops draw with
  |some s=>some s
  |none=>if draw then some (.raw id ops)else none
 |.seq a b=>(gX P N a).bind λa=>(gX P N b).map λb=>.seq a b
 |.cond c a b=>(cl c).bind λc=>(gX P N a).bind λa=>(gX P N b).map λb=>.cond c a b
 |.block id a=>(gX P N a).map (.block id)
 |.loop a=>(gX P N a).map .loop
 |.exit id=>some (.exit id)
 |.ret=>some .ret
 |_=>none
inductive RV where
 |t (s:Nat)
 |cell (s n:Nat) (ag:Bool)
 deriving Inhabited
def jv(P:Program)(r:ResultVar):Option RV:=
 match r with
 |.tmp t=>some (.t t)
 |.cell a t=>(fw P t).bind λn=>(ot P t).map λag=>.cell a n ag
def RT.strip:RT->RT
 |.nil=>.nil
 |.o g p r=>.o g p r.strip
 |.br a b=>.br a.strip b.strip
 |.wk r=>r.strip
def SC.strip:SC->SC
 |.rg r=>.rg r.strip
 |.seq a b=>.seq a.strip b.strip
 |.cond c a b=>.cond c a.strip b.strip
 |.block id a=>.block id a.strip
 |.loop a=>.loop a.strip
 |s=>s
def VY:∀l:List rf,(Bv l).strip=Bv l
 | []=>rfl
 |g::gs=>by simp only[Bv,RT.strip,VY gs]
def Pj:∀l:List RT,(∀r∈l,r.strip=r)->(xz l).strip=xz l
 | [],_=>rfl
 | [r],h=>h r (by simp)
 |r::s::l,h=>by
  have:=Pj (s::l) λx hx=>h x (Kbx _ hx)
  simp only[xz,RT.strip,h r (by simp),this]
def QR{α O:Type}{f:α->Option O}{Q:O->Prop}(hf:∀a b,f a=some b->Q b):∀(l:List α)(rs:List O),l.mapM f=some rs->∀r∈rs,Q r
 | [],rs,h=>by simp at h;subst h;simp
 |a::l,rs,h=>by
  simp only[Kb9,KbW,Kcc,Kab,KaG]at h;obtain⟨b,h1,bs,h2,rfl⟩:=h;intro r hr;rcases KaA.1 hr with rfl|hr
  .exact hf _ _ h1
  .exact QR hf l bs h2 r hr
def F9{P:Program}{N:Nat}{dr:Bool}{ops:Array Oper}:∀(n:Nat)(bA:Array Bool)(r:RT),sF P N dr ops n bA=some r->r.strip=r
 |0,bA,r,h=>by
  unfold sF at h;split at h
  .cases h;rfl
  .cases h
 | n+1,bA,r,h=>by
  unfold sF at h;split at h
  .cases h;rfl
  .split at h
   .simp only[Kab,Kaa]at h;obtain⟨g,_,r',dO,rfl⟩:=h;simp only[RT.strip,F9 n _ _ dO]
   .simp only[Kaa]at h;obtain⟨rs,cU,rfl⟩:=h;refine Pj rs (QR (λi b hb=>?_) _ rs cU);simp only[Kab,Kaa]at hb;obtain⟨g,_,r',dO,rfl⟩:=hb;simp only[RT.strip,F9 n _ _ dO]
def Qzy{ops:Array Oper}{draw:Bool}{s:SC}(h:C6 P N ops draw=some s):s.strip=s:=by
 unfold C6 at h;split at h
 .split at h
  .have key:∀(dr:Bool) (z6:Nat) (s:SC),C5 P N ops dr z6=some s->s.strip=s:=λdr z6 s hc=>by
    unfold C5 at hc;split at hc
    .cases hc
    split at hc
    .rename_i r hr;split at hc
     .cases hc;simp only[SC.strip,F9 _ _ _ hr]
     .cases hc
    .cases hc
   split at h
   .rename_i s' fS;cases h;split at fS
    .simp only[Kaa]at fS;obtain⟨r,hr,rfl⟩:=fS;simp only[SC.strip,F9 _ _ _ (F5 _ _ _ hr)]
    .cases fS
   .exact key _ _ _ h
  .cases h
 .simp only[Kaa]at h;obtain⟨gs,_,rfl⟩:=h;simp only[SC.strip,VY]
def UZ:∀(c:Code)(s:SC),gX P N c=some s->s.strip=s:=by
 intro c;induction c with
 |skip=>intro s h;simp[gX]at h;subst h;rfl
 | region id ops draw=>
  intro s h;simp only[gX]at h;split at h
  .rename_i s' fS;cases h;exact Qzy fS
  .split at h
   .cases h;rfl
   .cases h
 |seq x y nq zX=>intro s h;simp only[gX,Kab,Kaa]at h;obtain⟨sx,hx,sy,hy,rfl⟩:=h;simp only[SC.strip,nq _ hx,zX _ hy]
 |cond c x y nq zX=>intro s h;simp only[gX,Kab,Kaa]at h;obtain⟨pc,iJ,sx,hx,sy,hy,rfl⟩:=h;simp only[SC.strip,nq _ hx,zX _ hy]
 |block id x nq=>intro s h;simp only[gX,Kaa]at h;obtain⟨sx,hx,rfl⟩:=h;simp only[SC.strip,nq _ hx]
 |loop x nq=>intro s h;simp only[gX,Kaa]at h;obtain⟨sx,hx,rfl⟩:=h;simp only[SC.strip,nq _ hx]
 |exit id=>intro s h;simp[gX]at h;subst h;rfl
 |ret=>intro s h;simp[gX]at h;subst h;rfl
 |_=>intro s h;simp[gX]at h
structure ax where
 n:Nat
 rs:List RV
 body:SC
 deriving Inhabited
def Qc(P:Program)(f:Func):Option ax:=
 f.body.bind λc=>(gX P f.ntmps c).bind λb=>(f.results.toList.mapM (jv P)).map λrs=>⟨f.ntmps,rs,b⟩
def ax.strip(s:ax):ax:=⟨s.n,s.rs,s.body.strip⟩
def rh{f:Func}{s:ax}(h:Qc P f=some s):Qc P f=some s.strip:=by have h0:=h;simp only[Qc,Kab,Kaa]at h;obtain⟨c,hb,sb,iG,rs,cU,rfl⟩:=h;rw[h0,ax.strip,UZ _ _ iG]
abbrev Zo(o:cZ)(r:RT):RT:=.o none o r
abbrev Zg(g:Nat)(b:Bool)(o:cZ)(r:RT):RT:=.o (some (g,b)) o r
abbrev Zm(d x:Nat)(r:RT):RT:=.o none (.mv d (.t x)) r
abbrev Zc(d:Nat)(n:Int)(r:RT):RT:=.o none (.mv d (.c (.int .i64 n))) r
abbrev Zf(d o x:Nat)(r:RT):RT:=.o none (.dI d o (.t x)) r
abbrev Zl(d n x:Nat)(r:RT):RT:=.o none (.ld d n false (.t x)) r
abbrev Zh(d n x:Nat)(r:RT):RT:=.o none (.ld d n true (.t x)) r
abbrev Zs(n x v:Nat)(r:RT):RT:=.o none (.st n (.t x) (.t v)) r
abbrev Zi(d e x i:Nat)(r:RT):RT:=.o none (.idx d e (.t x) (.t i)) r
abbrev Zb(d:Nat)(o:BinOp)(x y:Nat)(r:RT):RT:=.o none (.bin d o false (.t x) (.t y)) r
abbrev Zk(d:Nat)(o:BinOp)(x:Nat)(n:Int)(r:RT):RT:=.o none (.bin d o false (.t x) (.c (.int .i64 n))) r
abbrev Zn(d x:Nat)(r:RT):RT:=.o none (.len d (.t x)) r
abbrev Zu(d x:Nat)(r:RT):RT:=.o none (.un d .not (.t x)) r
abbrev Zq(d:Nat)(p:Bool)(f:Nat)(l:List aW)(r:RT):RT:=.o none (.call (some d) p (.c (.fn f [] [])) l) r
abbrev Zr(r:RT)(y:SC):SC:=.seq (.rg r) y
abbrev Zz(n:Int):PV:=.int .i64 n
def D0(h:p:=by first|omega|rfl|(simp+decide only[go_sem]<;>rfl)|fail):p:=h
def D1(x0:A0)(h:A0->p:=by intro x0;first|omega|rfl|(simp+decide only[go_sem,x0]<;>rfl)|fail):p:=h x0
def D2(x0:A0)(x1:A1)(h:A0->A1->p:=by intro x0 x1;first|omega|rfl|(simp+decide only[go_sem,x0,x1]<;>rfl)|fail):p:=h x0 x1
def D3(x0:A0)(x1:A1)(x2:A2)(h:A0->A1->A2->p:=by intro x0 x1 x2;first|omega|rfl|(simp+decide only[go_sem,x0,x1,x2]<;>rfl)|fail):p:=h x0 x1 x2
def D4{A3:Prop}(x0:A0)(x1:A1)(x2:A2)(x3:A3)(h:A0->A1->A2->A3->p:=by intro x0 x1 x2 x3;first|omega|rfl|(simp+decide only[go_sem,x0,x1,x2,x3]<;>rfl)|fail):p:=h x0 x1 x2 x3
def D5{A3 A4:Prop}(x0:A0)(x1:A1)(x2:A2)(x3:A3)(x4:A4)(h:A0->A1->A2->A3->A4->p:=by intro x0 x1 x2 x3 x4;first|omega|rfl|(simp+decide only[go_sem,x0,x1,x2,x3,x4]<;>rfl)|fail):p:=h x0 x1 x2 x3 x4
def D6{A3 A4 A5:Prop}(x0:A0)(x1:A1)(x2:A2)(x3:A3)(x4:A4)(x5:A5)(h:A0->A1->A2->A3->A4->A5->p:=by intro x0 x1 x2 x3 x4 x5;first|omega|rfl|(simp+decide only[go_sem,x0,x1,x2,x3,x4,x5]<;>rfl)|fail):p:=h x0 x1 x2 x3 x4 x5
def E0(h:p:=by first|omega|rfl|(simp+decide only[go_sem,ch,Kak,Kao,Kal,Kaq,Kai]<;>rfl)|fail):p:=h
def E1(x0:A0)(h:A0->p:=by intro x0;first|omega|rfl|(simp+decide only[go_sem,ch,Kak,Kao,Kal,Kaq,Kai,x0]<;>rfl)|fail):p:=h x0
abbrev Ya(t:Nat)(a b:Nat)(r:RT):RT:=Zf t a b<|Zl (t+1) 1 t r
abbrev Yb(t:Nat)(r:RT):RT:=Zl t 1 57<|Zo (.conv (t+1) .u64 (.t t))<|Zb (t+2) .rem 53 (t+1) r
abbrev Yc(t:Nat)(a:Nat)  :RT:=Zm t a .nil
abbrev Yd(t:Nat)(a:Nat)(r:RT):RT:=Zo (.ext t (.t a) 0)<|Zo (.ext (t+1) (.t a) 1) r
abbrev Ye(t:Nat)(r:RT):RT:=Zo (.alloc t 3 49 (.agg [.bool false,.aa,.aa])) r
abbrev Yf(t:Nat)(a:Int)  :RT:=Zc t a .nil
abbrev Yh(t:Nat)(a b:Nat)(r:RT):RT:=Zm t a<|Zm (t+1) b r
abbrev Yi(t:Nat)(r:RT):RT:=Zo (.mv t (.c .aa)) r
abbrev Yj(t:Nat)(a b:Nat)(r:RT):RT:=Zo (.cD t [Zz 0,.aa,.bool false,.aa,.aa] [(0,1,.c (Zz 9)),(1,1,.t a),(2,3,.t b)]) r
abbrev Yk(t:Nat)(a b:Nat)(r:RT):RT:=Zo (.pick t (.t a) (.c (.bool true)) (.t b)) r
abbrev Yl(t:Nat)  :RT:=Zo (.mv t (.c (.bool false))) .nil
abbrev Ym(t:Nat)(a b:Nat)(r:RT):RT:=Zo (.pick t (.t a) (.t b) (.c (.bool false))) r
abbrev Yn(t:Nat)(a b:Nat)(r:RT):RT:=Zq t false a [.t b] r
abbrev Yo(t:Nat)(a:Nat)(b:Nat)(c:Int)(r:RT):RT:=Zm t a<|Zo (.idx (t+1) b (.t t) (.c (Zz c))) r
abbrev Yp(t:Nat)(a b c:Nat)(r:RT):RT:=Zq t false a [.t b,.t c] r
abbrev Yq(t:Nat)(a:Nat)(b:Int)(c:Nat)  :RT:=Zk t .eql a b<|Zm c t .nil
abbrev Yr(t:Nat)(a:Nat)(r:RT):RT:=Zo (.alloc t 2 a (.agg [.aa,.aa])) r
abbrev Ys(t:Nat)(a b c:Nat)(r:RT):RT:=Zq t true a [.t b,.t c] r
abbrev Yu(t:Nat)(a b:Nat)  :RT:=Zb t .lss a b .nil
abbrev Yv(t:Nat)(a:Nat)(r:RT):RT:=Zm t a<|Zn (t+1) t r
abbrev Yw(t:Nat)(a b:Nat)(r:RT):RT:=Zi t 1 a b<|Zl (t+1) 1 t r
abbrev Yx(t:Nat)(a b c:Nat)(r:RT):RT:=Zm t a<|Zg t false (.dI (t+1) b (.t c))<|Zg t false (.ld (t+2) 1 false (.t (t+1))) r
abbrev Yy(t:Nat)(r:RT):RT:=Zo (.alloc t 1 105 (.int .u64 0)) r
abbrev Yz(t:Nat)(a:Int)(b:Int)(r:RT):RT:=Zo (.bs t 1 3 [.c (Zz 0),.c (Zz a),.c (Zz 0),.c (Zz b)]) r
abbrev YA(t:Nat)(a b c d e:Nat)(r:RT):RT:=Zo (.bs t a b [.t c])<|Zo (.app (t+1) a d b (.t e) (.t t)) r
abbrev YB(t:Nat)(a b c:Nat)(r:RT):RT:=Zg t true (.dI (t+1) a (.t b))<|Zg t true (.ld (t+2) 3 true (.t (t+1)))<|Zg t true (.call (some (t+3)) false (.c (.fn c [] [])) [.t (t+2)])<|Zg t true (.un (t+4) .not (.t (t+3))) r
abbrev YC(t:Nat)(a b:Nat)  :RT:=Zk t .add a 1<|Yc b t
abbrev YD(t:Nat)  :RT:=Zs t (t+9) 60 .nil
abbrev YE(t:Nat)(a b:Nat)(r:RT):RT:=Zm t a<|Zg t false (.mv (t+1) (.t b)) r
abbrev YG(t:Nat)(a b c:Nat)(r:RT):RT:=Zi t a b c<|Zh (t+1) a t r
abbrev YH(t:Nat)(a b:Nat)  :RT:=Zk t .add a 1<|Zm b t .nil
abbrev YI(t:Nat)  :RT:=Yi t .nil
abbrev YJ(t:Nat)(a b:Nat)(r:RT):RT:=Zm t a<|Yn (t+1) b t r
abbrev YK(t:Nat)(a b:Nat)(r:RT):RT:=Zg t true (.dI (t+1) a (.t b))<|Zg t true (.ld (t+2) 1 false (.t (t+1))) r
abbrev YL(t:Nat)(a b c d:Nat)  :RT:=YG t 4 a b<|Zo (.alloc c 4 d (.agg [.bool false,.aa,.aa,.aa]))<|Zs 4 c (t+1) .nil
abbrev YM(t:Nat)(a b c:Nat)(r:RT):RT:=Zh t 3 a<|Yn (t+1) 62 t<|Zm b (t+1)<|Yd (t+2) b<|Zo (.alloc c 2 47 (.agg [.bool false,.aa]))<|Zs 2 c (t+2) r
abbrev YN(t:Nat)(r:RT):RT:=Zo (.bs t 5 65 [.t 14,.t 17]) r
abbrev YO(t:Nat)(a b:Nat)(r:RT):RT:=Zm t a<|Zg t true (.mv (t+1) (.t b)) r
abbrev YP(t:Nat)(a b:Nat)(r:RT):RT:=Zo (.cD t [.bool false,.aa,.aa,.aa] [(0,3,.t a),(3,1,.t b)]) r
abbrev YQ(t:Nat)(a:Nat)  :RT:=Zm t a<|Zk (t+1) .neq t 0 .nil
abbrev YS(t:Nat)(r:RT):RT:=Zl t 1 5<|Zk (t+1) .sub t 1<|Zi (t+2) 1 54 (t+1) r
abbrev YT(t:Nat)(a b:Nat)(r:RT):RT:=Ya t a b<|Zn (t+2) (t+1) r
abbrev YU(t:Nat)(r:RT):RT:=Yo t 6 6 0<|Zh (t+2) 6 (t+1)<|Yo (t+3) 6 6 1<|Zh (t+5) 6 (t+4)<|Yo (t+6) 6 6 2<|Zh (t+8) 6 (t+7) r
abbrev YV(t:Nat)(a:Int)(r:RT):RT:=Zg t false (.len (t+3) (.t (t+2)))<|Zg t false (.bin (t+4) .gtr false (.t (t+3)) (.c (Zz a)))<|Yk (t+5) t (t+4) r
abbrev YW(t:Nat)(a b:Nat)(r:RT):RT:=Yh t a b<|Yw (t+2) t (t+1) r
abbrev YX(t:Nat)(a b:Nat)(r:RT):RT:=Zm t a<|Zk (t+1) .gtr t 0<|YO (t+2) (t+1) 0<|Zg (t+2) true (.mv (t+4) (.t a))<|Zg (t+2) true (.bin (t+5) .sub false (.t (t+4)) (.c (Zz 1)))<|Zg (t+2) true (.idx (t+6) b (.t (t+3)) (.t (t+5))) r
abbrev YY(t:Nat)(r:RT):RT:=Zg t true (.len (t+4) (.t (t+3)))<|Zg t true (.bin (t+5) .eql false (.t (t+4)) (.c (Zz 0)))<|Ym (t+6) t (t+5)<|Zm (t+7) (t+6)<|YK (t+7) 2 1<|Zg (t+7) true (.len (t+10) (.t (t+9)))<|Zg (t+7) true (.bin (t+11) .eql false (.t (t+10)) (.c (Zz 0))) r
abbrev YZ(t:Nat)(a b c:Nat)(r:RT):RT:=Yh t a b<|Yp (t+2) c t (t+1) r
abbrev dS(t:Nat)(a:Nat)  :RT:=Yv t a<|Yf (t+2) 0
abbrev MZ(t:Nat)(a b:Nat)  :RT:=Zm t a<|Yc b t
abbrev dp(t:Nat)  :RT:=Zs t (t+8) 52<|YD t
abbrev cM(t:Nat)(a b c:Nat)(r:RT):RT:=Zf t a b<|Zh (t+1) c t r
abbrev ew(t:Nat)(a b c:Nat)(r:RT):RT:=YG t 6 a b<|Zo (.alloc c 6 68 (.agg [Zz 0,.str ⟨#[]⟩,.aa,.bool false,.aa,.aa])) r
abbrev uu(t:Nat)(a b:Nat)(r:RT):RT:=Zo (.box t (t+1) a (.t b)) r
abbrev eA(t:Nat)  :RT:=Zs t (t+8) 52<|Yb 58<|YD t
abbrev iS(t:Nat)(a:Nat)(b:Int)(r:RT):RT:=Zo (.qW t 2 1 (.t a) (.c (Zz b)))<|Zl (t+1) 1 t r
abbrev dH(t:Nat)(a b c:Nat)(r:RT):RT:=Zo (.box t a b (.t c)) r
abbrev nQ(t:Nat)(a b:Nat)(r:RT):RT:=Zq t true a [.t b] r
abbrev cW(t:Nat)(a b c:Nat)  :RT:=Zo (.conv t .u16 (.t a))<|Zi (t+1) 1 b c<|Zs 1 (t+1) t .nil
abbrev dq(t:Nat)(a b c:Nat)(r:RT):RT:=Yh t a b<|Zm (t+2) c r
abbrev qv(t:Nat)(a:Nat)(r:RT):RT:=Zo (.B7 (some t) (.t a)) r
abbrev iB(t:Nat)(a b c:Nat)(r:RT):RT:=Zh t a b<|Yn (t+1) c t r
abbrev dT(t:Nat)(a:Nat)(b:Int)(r:RT):RT:=Zo (.call (some t) true (.t a) [.c (Zz b)]) r
abbrev mX(t:Nat)(a b:Nat)  :RT:=Yh t a b<|Zn (t+2) (t+1)<|Yu (t+3) t (t+2)
abbrev my(t:Nat)(a b:Nat)(r:RT):RT:=Zo (.box t t a (.t b)) r
abbrev rN(t:Nat)(a b:Nat)(r:RT):RT:=Zo (.cD t [.aa,.aa] [(0,1,.t a),(1,1,.t b)]) r
abbrev fe(t:Nat)(a b c d:Nat)  :RT:=Zq t true a [.t b,.t c,.t d]<|Zs 6 4 t<|Yf 5 0
abbrev fO(t:Nat)(a:Nat)  :RT:=Zm t a<|YC (t+1) t a
abbrev qw(t:Nat)(a b c d:Nat)  :RT:=Zf t a b<|Zs c t d .nil
abbrev pz(t:Nat)(a:Nat)  :RT:=Zm t a<|Zk (t+1) .lss t 0<|YE (t+2) (t+1) a<|Zg (t+2) false (.mv (t+4) (.t 1))<|Zg (t+2) false (.bin (t+5) .geq false (.t (t+3)) (.t (t+4)))<|Yk (t+6) (t+2) (t+5) .nil
abbrev iC(t:Nat)(a:Int)(r:RT):RT:=Yh t 3 5<|Zo (.idx (t+2) 1 (.t (t+1)) (.c (Zz a)))<|Zl (t+3) 1 (t+2)<|Yw (t+4) t (t+3) r
abbrev iD(t:Nat)  :RT:=Zm t 6<|Zg t true (.dI (t+1) 0 (.t 1))<|Zg t true (.dI (t+2) 1 (.t (t+1)))<|Zg t true (.ld (t+3) 1 false (.t (t+2)))<|YY t<|Ym (t+12) (t+7) (t+11)<|Yc 2 (t+12)
abbrev vP(t:Nat)(a:Int)(b:Nat)  :RT:=Zo (.bin t .eql false (.t 40) (.c (.int .u8 a)))<|Zm b t .nil
abbrev jR(t:Nat)(a:Int)(b:Int)(r:RT):RT:=Zm t 0<|Zo (.bin (t+1) .geq false (.t t) (.c (.int .u8 a)))<|YO (t+2) (t+1) 0<|Zg (t+2) true (.bin (t+4) .leq false (.t (t+3)) (.c (.int .u8 b)))<|Ym (t+5) (t+2) (t+4) r
abbrev By(t:Nat)  :RT:=Zo (.mv t (.c (.bool true))) .nil
abbrev uk(t:Nat)(r:RT):RT:=Zl t 1 3<|Zi (t+3) 1 t (t+2) r
abbrev Bz(t:Nat)(a b c d:Nat)(r:RT):RT:=Yp t a b c<|Zm d t<|Yd (t+1) d r
abbrev kO(t:Nat)(a b:Nat)  :RT:=Zm t a<|Zm b t .nil
abbrev DV(t:Nat)(r:RT):RT:=Zm t 0<|YO (t+1) t 1<|Zg (t+1) true (.len (t+3) (.t (t+2)))<|Zg (t+1) true (.bin (t+4) .gtr false (.t (t+3)) (.c (Zz 0)))<|Ym (t+5) (t+1) (t+4)<|Zm (t+6) 1<|Zo (.cD (t+7) [.bool false,.aa] [(0,1,.t (t+5)),(1,1,.t (t+6))]) r
abbrev kA(t:Nat)(a b c d:Nat)  :RT:=Yd t a<|Zs b c t<|Yc d (t+1)
abbrev dW(t:Nat)(a b c d:Nat)(r:RT):RT:=Ya t a b<|Ya (t+2) c d r
abbrev eu(t:Nat)  :RT:=Zo (.alloc t 2 47 (.agg [.bool false,.aa])) .nil
abbrev um(t:Nat)  :RT:=Zo (.alloc t t 47 (.agg [.bool false,.aa])) .nil
abbrev uo(t:Nat)(a b c d e:Nat)  :RT:=Ys t a b c<|Zs d e t .nil
abbrev eF(t:Nat)(a b c:Nat)(r:RT):RT:=Ya t a b<|Zm (t+2) c r
abbrev BA(t:Nat)(a:Nat)(b:Int)  :RT:=Zk t .eql a b .nil
abbrev jA(t:Nat)(a b:Nat)(r:RT):RT:=Zo (.box t (t+2) a (.t b)) r
abbrev ic(t:Nat)(a b:Nat)  :RT:=Zm t a<|Yc (t+1) b
abbrev mw(t:Nat)(a:Nat)(r:RT):RT:=Zq t true 53 [.c (Zz 1)]<|Yj (t+1) a t r
abbrev jm(t:Nat)(a b:Nat)(r:RT):RT:=Yh t a 0<|Zn (t+2) (t+1)<|Zb (t+3) .lss t (t+2)<|YE (t+4) (t+3) b<|Zg (t+4) false (.mv (t+6) (.t 1))<|Zg (t+4) false (.len (t+7) (.t (t+6)))<|Zg (t+4) false (.bin (t+8) .lss false (.t (t+5)) (.t (t+7))) r
abbrev iR(t:Nat)(a:Nat)  :RT:=Zs t (t+5) a .nil
abbrev fb(t:Nat)(a b:Nat)(r:RT):RT:=Zo (.mk t 1 2 159 (.int .u16 0) (.t a) (.t b)) r
abbrev fc(t:Nat)(r:RT):RT:=Zo (.alloc t 3 145 (.agg [Zz 0,Zz 0,.aa])) r
abbrev qu(t:Nat)(a b c d:Nat)  :RT:=dq t a b c<|Zo (.sl (t+3) 4 (.t (t+1)) (some (.t (t+2))) none none)<|Zo (.app (t+4) 4 80 114 (.t t) (.t (t+3)))<|Yc d (t+4)
abbrev fC(t:Nat)  :RT:=Zo (.alloc t (t+1) 49 (.agg [.bool false,.aa,.aa])) .nil
abbrev gz(t:Nat)(a:Int)  :RT:=Yi t<|Yf (t+1) a
abbrev sV(t:Nat)(a b c:Nat)(r:RT):RT:=Zh t a b<|Zm (t+1) c r
abbrev uq(t:Nat)  :RT:=Zc t (-1) .nil
abbrev BB(t:Nat)(a:Nat)(r:RT):RT:=Zm t a<|Zo (.bin (t+1) .shr false (.t t) (.c (.int .u64 16))) r
abbrev xw(t:Nat)(a:Nat)(b:Int)(c:Nat)(d:Nat)(r:RT):RT:=Ya t 0 a<|Zk (t+2) .eql (t+1) b<|Zm (t+3) (t+2)<|YB (t+3) c a d<|Ym (t+8) (t+3) (t+7) r
abbrev jS(t:Nat)(a b c:Nat)  :RT:=YG t 5 a b<|Zo (.alloc c 5 65 (.agg [Zz 0,.aa,.bool false,.aa,.aa]))<|Zs 5 c (t+1) .nil
abbrev xx(t:Nat)(a:Nat)(r:RT):RT:=Zo (.conv t .u32 (.t a)) r
abbrev xy(t:Nat)(a b:Nat)  :RT:=Yk t a b .nil
abbrev BC(t:Nat)(a:Nat)(r:RT):RT:=Zm t a<|Zk (t+1) .lss t 0 r
abbrev mY(t:Nat)(a b c d:Nat)(r:RT):RT:=Zq t false a [.t b,.t c,.t d] r
abbrev BD(t:Nat)(a b c:Nat)(r:RT):RT:=Zo (.sl t a (.t b) none (some (.t c)) none) r
abbrev mZ(t:Nat)(a b:Nat)(r:RT):RT:=Zo (.cD t [.bool false,.aa,.aa,.bool false,.aa,.aa] [(0,3,.t a),(3,3,.t b)]) r
abbrev sW(t:Nat)  :RT:=Yb t<|dp 1
abbrev DW(t:Nat)(a:Nat)  :RT:=Zm t a<|Zk (t+1) .sub t 1<|Yc a (t+1)
abbrev BE(t:Nat)(a:Nat)(r:RT):RT:=Zo (.mk t 3 56 49 (.agg [.bool false,.aa,.aa]) (.t a) (.t a)) r
variable{O b:Nat}
abbrev Fr:=Nat->PV
structure HB where
 e:Nat
 ty:TypeId
 xs:List PV
 fz:Bool
abbrev HP:=Nat->Option HB
def ae(f:Fr)(a:Nat)(v:PV):Fr:=λb=>if b=a then v else f b
def Qg(h:HP)(a:Nat)(v:HB):HP:=λb=>if b=a then some v else h b
def aX:Fr:=λ_=>.undef
def aB:HP:=λ_=>none
def bN(O:Nat):Bool:=decide (1000000<=O)
def aP(O:Nat):Bool:=decide (1000000<=O)&&decide (O<2000000)
def eB(O:Nat):Bool:=decide (1500000<=O)&&decide (O<2000000)
def AU(h:aP O=false):eB O=false:=by simp[aP]at h;simp[eB];omega
def yM(h:bN O=false):aP O=false:=by simp[bN]at h;simp[aP];omega
def PV.cm:PV->List Nat
 |.mp O _ _=>[O]
 |.aD O _ _| .rb O _ _=>[O]
 |_=>[]
def PV.refs:PV->List Nat
 |.mp O _ _=>[O]
 |.aD O _ _| .rb O _ _=>[O]
 |.fn _ first cap=>first.flatMap PV.cm++cap.flatMap PV.cm
 |_=>[]
def PV.nr:PV->Bool
 |.mp .. | .aD .. | .rb .. | .int .. | .bool _| .aa| .sl .. | .pt _| .np .. | .aK .. =>true
 |_=>false
def PV.dM:PV->List Nat
 |.aD O _ _=>[O]
 |.aK γ _ _| .np γ _ _=>[γ]
 |_=>[]
def PV.fu:PV->List Nat
 |.aK γ _ _| .np γ _ _=>[γ]
 |_=>[]
def PV.aO:PV->List Nat
 |.aK γ _ _| .np γ _ _=>[γ]
 |.aU cs=>cs.flatMap PV.dM
 |.fH cs=>cs.flatMap PV.dM
 |.dQ cs _=>cs.flatMap PV.dM
 |.aH γ _ _ xs=>γ::xs.flatMap λx=>x.aV.flatMap PV.dM
 |.fn _ first cap=>first.flatMap PV.fu++cap.flatMap PV.fu
 |_=>[]
def ct(O:Nat)(p:PV):PV:=if p.refs.contains O then .undef else p
def cI(O:Nat)(fr:Fr):Fr:=λi=>ct O (fr i)
def cA(hp:HP):PV->PV
 |.mp O i o=>if aP O then .undef else match hp O with
  |some hb=>match hb.xs[i]? with
   |some x=>.pt (x.cells.drop o)
   |none=>.undef
  |none=>.undef
 |.aD O o n=>if aP O then .undef else match hp O with
  |some hb=>.sl hb.e ((hb.xs.drop o).take n)
  |none=>.undef
 |.rb _ _ _| .aK _ _ _| .np _ _ _| .aU _| .fH _| .dQ _ _| .aH _ _ _ _=>.undef
 |p=>p
def Qr(hp:HP):PV->PV
 |.fn f first cap=>.fn f (first.map (cA hp)) (cap.map (cA hp))
 |p=>cA hp p
def Qu(hp:HP)(l:List Nat):HP:=λO=>if l.contains O then(hp O).map λhb=>{ hb with fz:=true }else hp O
def ev(fr:Fr):aW->PV
 |.t n=>fr n
 |.c p=>p
def fg:Bool->Nat->Nat->PV->PV
 |true,n,o,x=>.agg ((x.cells.drop o).take n)
 |false,_,o,x=>(x.cells.drop o).headD .undef
def uX(x:PV)(o:Nat)(v:PV):PV:=.agg (x.cells.take o++v.cells++x.cells.drop (o+v.cells.length))
def PV.kC:PV->Bool
 |.aD .. | .aK .. | .undef=>true
 |_=>false
def lR(cs:List PV):PV:=if cs.any PV.kC then .aU cs else .agg cs
def eW:List PV->PV
 | [c]=>c
 |cs=>lR cs
def tx(ag:Bool)(n o:Nat)(x:PV):PV:=if ag then lR ((x.aV.drop o).take n)else(x.aV.drop o).headD .undef
def gM:PV->Option (List PV)
 |.aU cs=>if cs.all PV.jH then some cs else none
 |.aK γ o n=>some [.aK γ o n]
 |.aD O o n=>if bN O then some [.aD O o n]else none
 |.int k n=>some [.int k n]
 |.bool b=>some [.bool b]
 |.aa=>some [.aa]
 |.sl e xs=>some [.sl e xs]
 |.pt cs=>some [.pt cs]
 |.agg cs=>some cs
 |_=>none
def rF(l:List PV)(o:Nat)(cs:List PV):List PV:=l.take o++cs++l.drop (o+cs.length)
def fj(γ:Nat):PV->PV
 |.aH bo e ty xs=>if bo=γ then .undef else .aH bo e ty xs
 |p=>p
def gC(γ:Nat)(fr:Fr):Fr:=λi=>fj γ (fr i)
def jM(O:Nat):PV->PV
 |.aD bq o n=>if bq=O then .undef else .aD bq o n
 |.aK γ o n=>if γ=O then .undef else .aK γ o n
 |p=>p
def dF(O:Nat):PV->PV
 |.aH γ e ty xs=>if γ=O then .undef else .aH γ e ty (xs.map λx=>eW (x.aV.map (jM O)))
 |.aU cs=>.aU (cs.map (jM O))
 |.fH cs=>.fH (cs.map (jM O))
 |.dQ cs q=>.dQ (cs.map (jM O)) q
 |.aK γ o n=>if γ=O then .undef else .aK γ o n
 |.np γ i o=>if γ=O then .undef else .np γ i o
 |.fn f first cap=>if(first.flatMap PV.fu++cap.flatMap PV.fu).contains O then .undef else ct O (.fn f first cap)
 |p=>ct O p
def gP(O:Nat)(fr:Fr):Fr:=λi=>dF O (fr i)
abbrev Qf:=Fr->HP->Prop
def cJ(op:BinOp)(bt:Bool)(a b:PV)(d:Nat)(fr:Fr)(hp:HP)(K:Qf):Prop:=
 match a,b with
 |.int k x,.int k' y=>
  match op with
  |.shl=>0<=y/\K (ae fr d (.int k (k.wrap (x*2^(min y.toNat k.bits))))) hp
  |.shr=>0<=y/\K (ae fr d (.int k (x.fdiv (2^(min y.toNat k.bits))))) hp
  |.add=>k=k'/\K (ae fr d (.int k (k.wrap (x+y)))) hp
  |.sub=>k=k'/\K (ae fr d (.int k (k.wrap (x-y)))) hp
  |.mul=>k=k'/\K (ae fr d (.int k (k.wrap (x*y)))) hp
  |.quo=>k=k'/\y≠0/\K (ae fr d (.int k (k.wrap (x.tdiv y)))) hp
  |.rem=>k=k'/\y≠0/\K (ae fr d (.int k (x.tmod y))) hp
  |.and=>k=k'/\K (ae fr d (.int k (k.wrap (BitVec.ofInt k.bits x&&&BitVec.ofInt k.bits y).toNat))) hp
  |.or=>k=k'/\K (ae fr d (.int k (k.wrap (BitVec.ofInt k.bits x|||BitVec.ofInt k.bits y).toNat))) hp
  |.xor=>k=k'/\K (ae fr d (.int k (k.wrap (BitVec.ofInt k.bits x^^^BitVec.ofInt k.bits y).toNat))) hp
  |.andNot=>False
  |.eql=>k=k'/\K (ae fr d (.bool (decide (x=y)))) hp
  |.neq=>k=k'/\K (ae fr d (.bool (!decide (x=y)))) hp
  |.lss=>k=k'/\K (ae fr d (.bool (decide (x<y)))) hp
  |.leq=>k=k'/\K (ae fr d (.bool (decide (x<=y)))) hp
  |.gtr=>k=k'/\K (ae fr d (.bool (decide (y<x)))) hp
  |.geq=>k=k'/\K (ae fr d (.bool (decide (y<=x)))) hp
 |.bool x,.bool y=>
  match op with
  |.eql=>bt=true/\K (ae fr d (.bool (x==y))) hp
  |.neq=>bt=true/\K (ae fr d (.bool (!(x==y)))) hp
  |_=>False
 |_,_=>False
def uc(ng:Bool)(a b:PV)(d:Nat)(fr:Fr)(hp:HP)(K:Qf):Prop:=
 match a,b with
 |.agg [.int k x,.int l y],.agg [.int k' x',.int l' y']=>k=k'/\l=l'/\K (ae fr d (.bool (ng !=(decide (x=x')&&decide (y=y'))))) hp
 |_,_=>False
def ud(ng:Bool)(a b:PV)(d:Nat)(fr:Fr)(hp:HP)(K:Qf):Prop:=
 match a,b with
 |.str x,.str y=>K (ae fr d (.bool (ng !=decide (x=y)))) hp
 |_,_=>False
def ue(ng:Bool)(a:PV)(d:Nat)(fr:Fr)(hp:HP)(K:Qf):Prop:=
 match a with
 |.aa=>K (ae fr d (.bool (!ng))) hp
 |.sl _ xs=>(xs=[]->K (ae fr d (.bool (!ng))) hp)/\K (ae fr d (.bool ng)) hp
 |_=>False
def y9(a:PV)(d:Nat)(fr:Fr)(hp:HP)(K:Qf):Prop:=
 match a with
 |.str s=>K (ae fr d (.int .i64 s.size)) hp
 |_=>False
def xe(a i:PV)(d:Nat)(fr:Fr)(hp:HP)(K:Qf):Prop:=
 match a,i with
 |.str s,.int _ n=>0<=n/\n<s.size/\K (ae fr d (.int .u8 (s.get! n.toNat).toNat)) hp
 |_,_=>False
def vB(c a b:PV)(d:Nat)(fr:Fr)(hp:HP)(K:Qf):Prop:=
 match c with
 |.bool t=>(t=true->K (ae fr d a) hp)/\(t=false->K (ae fr d b) hp)
 |_=>False
def yo(op:UnOp)(a:PV)(d:Nat)(fr:Fr)(hp:HP)(K:Qf):Prop:=
 match op,a with
 |.not,.bool b=>K (ae fr d (.bool !b)) hp
 |.neg,.int k n=>K (ae fr d (.int k (k.wrap (0-n)))) hp
 |_,_=>False
def yQ(k:IntKind)(a:PV)(d:Nat)(fr:Fr)(hp:HP)(K:Qf):Prop:=
 match a with
 |.int _ n=>K (ae fr d (.int k (k.wrap n))) hp
 |_=>False
def rG(a:PV)(d:Nat)(fr:Fr)(hp:HP)(K:Qf):Prop:=
 match a with
 |.aa=>K (ae fr d (.int .i64 0)) hp
 |.sl _ xs=>K (ae fr d (.int .i64 xs.length)) hp
 |.aD _ _ n=>K (ae fr d (.int .i64 n)) hp
 |.aK _ _ n=>K (ae fr d (.int .i64 n)) hp
 |_=>False
def z7(a b:PV)(d:Nat)(fr:Fr)(hp:HP)(K:Qf):Prop:=
 match a,b with
 |.int k x,.int _ y=>K (ae fr d (.int k (max x y))) hp
 |_,_=>False
def z5(a b:PV)(d:Nat)(fr:Fr)(hp:HP)(K:Qf):Prop:=
 match a,b with
 |.int k x,.int _ y=>K (ae fr d (.int k (min x y))) hp
 |_,_=>False
def ej(e:Nat)(a i:PV)(d:Nat)(fr:Fr)(hp:HP)(K:Qf):Prop:=
 match a,i with
 |.sl e' xs,.int _ n=>e=e'/\0<=n/\∃h:n.toNat<xs.length,K (ae fr d (.pt (xs[n.toNat]'h).cells)) hp
 |.aD O o m,.int _ n=>0<=n/\n.toNat<m/\(hp O).map (·.e)=some e/\K (ae fr d (.mp O (o+n.toNat) 0)) hp
 |.aK γ o m,.int _ n=>0<=n/\n.toNat<m/\(hp γ).map (·.e)=some e/\K (ae fr d (.np γ (o+n.toNat) 0)) hp
 |_,_=>False
def rB(len e:Nat)(a i:PV)(d:Nat)(fr:Fr)(hp:HP)(K:Qf):Prop:=
 match a,i with
 |.mp O j o,.int _ n=>0<=n/\n<len/\K (ae fr d (.mp O j (o+n.toNat*e))) hp
 |.pt cs,.int _ n=>0<=n/\n<len/\n.toNat*e<=cs.length/\K (ae fr d (.pt (cs.drop (n.toNat*e)))) hp
 |_,_=>False
def xf(len e:Nat)(ag:Bool)(a i:PV)(d:Nat)(fr:Fr)(hp:HP)(K:Qf):Prop:=
 match a,i with
 |.agg cs,.int _ n=>0<=n/\n<len/\n.toNat*e+e<=cs.length/\(ag=false->e=1)/\K (ae fr d (fg ag e (n.toNat*e) (.agg cs))) hp
 |_,_=>False
def qp(off:Nat)(a:PV)(d:Nat)(fr:Fr)(hp:HP)(K:Qf):Prop:=
 match a with
 |.mp O i o=>K (ae fr d (.mp O i (o+off))) hp
 |.np γ i o=>K (ae fr d (.np γ i (o+off))) hp
 |.pt cs=>off<=cs.length/\K (ae fr d (.pt (cs.drop off))) hp
 |_=>False
def tW(off n:Nat)(ag:Bool)(a:PV)(d:Nat)(fr:Fr)(hp:HP)(K:Qf):Prop:=
 match a with
 |.agg cs=>off+n<=cs.length/\(ag=false->n=1)/\K (ae fr d (fg ag n off (.agg cs))) hp
 |.aU cs=>off+n<=cs.length/\(ag=false->n=1)/\K (ae fr d (tx ag n off (.aU cs))) hp
 |_=>False
def gU(n:Nat)(ag:Bool)(a:PV)(d:Nat)(fr:Fr)(hp:HP)(K:Qf):Prop:=
 match a with
 |.mp O i o=>match hp O with
  |some hb=>∃h:i<hb.xs.length,o+n<=hb.e/\(ag=false->n=1)/\K (ae fr d (fg ag n o (hb.xs[i]'h))) hp
  |none=>False
 |.pt cs=>n<=cs.length/\(ag=false->n=1)/\K (ae fr d (fg ag n 0 (.agg cs))) hp
 |.rb O o m=>n=1/\ag=false/\K (ae fr d (.aD O o m)) hp
 |.np γ i o=>match fr γ with
  |.aH bo e _ xs=>bo=γ/\∃h:i<xs.length,o+n<=e/\(ag=false->n=1)/\K (ae fr d (tx ag n o (xs[i]'h))) hp
  |_=>False
 |_=>False
def pV (n:Nat) (a v:PV) (fr:Fr) (hp:HP) (K:Qf):Prop:=
 match a with
 |.mp O i o=>match Qu hp v.refs O with
  | some hb=>hb.fz=false/\(Qr hp v).aJ=true/\(Qr hp v).cells.length=n/\∃h:i<hb.xs.length,o+n<=hb.e/\
    K fr (Qg (Qu hp v.refs) O { hb with xs:=hb.xs.set i (if n=hb.e then Qr hp v else uX (hb.xs[i]'h) o (Qr hp v)) })
  |none=>False
 |.np γ i o=>match fr γ with
  |.aH bo e ty xs=>bo=γ/\(∃hb,hp γ=some hb/\hb.fz=false)/\∃h:i<xs.length,o+n<=e/\match gM v with
   |some cs=>cs.length=n/\K (ae (gC γ fr) γ (.aH γ e ty (xs.set i (eW (rF (xs[i]'h).aV o cs))))) hp
   |none=>False
  |_=>False
 |_=>False
def dV(d:Nat):Nat:=4000000+d
def xg(n ty:Nat)(cs:List PV)(d:Nat)(fr:Fr)(hp:HP)(K:Qf):Prop:=
 (cs.length=n/\0<n/\cs.all PV.jH=true/\cs.all (λx=> !(x.dM.contains (dV d)))=true)/\
  K (ae (ae (gP (dV d) fr) (dV d) (.aH (dV d) n ty [.aU cs])) d (.np (dV d) 0 0)) (Qg hp (dV d) ⟨n,ty,[],false⟩)
def fM(n ty:Nat)(v:PV)(d:Nat)(fr:Fr)(hp:HP)(K:Qf):Prop:=
 match v with
 |.aU cs=>xg n ty cs d fr hp K
 |v=>match(match v with| .aD O o m=>if aP O then some (O,o,m)else none|_=>none)with
 |some (O,o,m)=>K (ae fr d (.rb O o m)) hp
 |none=>
 (Qr hp v).aJ=true/\(Qr hp v).cells.length=n/\0<n/\K (ae (cI d fr) d (.mp d 0 0)) (Qg (Qu hp v.refs) d ⟨n,ty,[Qr hp v],false⟩)
def pR(e by_ ty:Nat)(z l c:PV)(d:Nat)(fr:Fr)(hp:HP)(K:Qf):Prop:=
 match l,c with
 |.int _ L,.int _ C=>0<e/\z.cells.length=e/\0<=L/\L<=C/\by_*C<=281474976710656/\C<=9223372036854775807/\
   K (ae (cI d fr) d (.ms d L.toNat)) (Qg hp d ⟨e,ty,List.replicate L.toNat z,false⟩)
 |_,_=>False
def Hz(hp:HP)(e:Nat)(ps:List PV):Prop:=∀p∈ps,(Qr hp p).aJ=true/\(Qr hp p).cells.length=e
def oe:PV->Bool
 |.aD O 0 _=>decide (5000000<=O)
 |_=>false
def rH:List PV->Bool
 | [x]=>oe x
 |_=>false
def W7(e ty:Nat)(ps:List PV)(d:Nat)(fr:Fr)(hp:HP)(K:Qf):Prop:=
 e=1/\K (ae (ae (gP (dV d) fr) (dV d) (.aH (dV d) 1 ty ps)) d (.aK (dV d) 0 1)) (Qg hp (dV d) ⟨1,ty,[],false⟩)
def Bw (e by_ ty:Nat) (s x:PV) (d:Nat) (fr:Fr) (hp:HP) (K:Qf):Prop:=
 match x with
 |.aK δ 0 1=>match fr δ with
  |.aH O8 1 _ [y]=>O8=δ/\oe y=true/\e=1/\
   match s with
   |.aa=>by_<=140737488355328/\K (ae (ae (gP (dV d) fr) (dV d) (.aH (dV d) 1 ty [y])) d (.aK (dV d) 0 1)) (Qg hp (dV d) ⟨1,ty,[],false⟩)
   |.aK γ 0 k=>match fr γ with
    |.aH bo 1 ty2 xs=>(bo=γ/\γ<5000000/\aP γ=false/\ty2=ty/\k=xs.length/\xs.all oe=true/\(k+1)*by_<=140737488355328/\k+1<=9223372036854775807)/\(∃hb,hp γ=some hb/\hb.fz=false)/\
      K (ae (ae (gP γ fr) γ (.aH γ 1 ty (xs++[y]))) d (.aK γ 0 (k+1))) (Qg hp γ ⟨1,ty,[],false⟩)
    |_=>False
   |_=>False
  |_=>False
 |_=>False
def DZ(e ty:Nat)(ps:List PV)(d:Nat)(fr:Fr)(hp:HP)(K:Qf):Prop:=
 0<e/\Hz hp e ps/\K (ae (cI d fr) d (.ms d ps.length)) (Qg (Qu hp (ps.flatMap PV.refs)) d ⟨e,ty,ps.map (Qr hp),false⟩)
def oz(e ty:Nat)(ps:List PV)(d:Nat)(fr:Fr)(hp:HP)(K:Qf):Prop:=if rH ps=true then W7 e ty ps d fr hp K else DZ e ty ps d fr hp K
def kI(hp:HP):PV->Option (Nat×List PV)
 |.aa=>some (0,[])
 |.sl e xs=>some (e,xs)
 |.aD O o n=>(hp O).map λhb=>(hb.e,(hb.xs.drop o).take n)
 |_=>none
def jO (e by_ ty:Nat) (s x:PV) (d:Nat) (fr:Fr) (hp:HP) (K:Qf):Prop:=
 match kI hp x with
 |none=>Bw e by_ ty s x d fr hp K
 | some (e',ys)=>0<e/\(e'=e\/ys=[])/\
  match s with
  |.aa=>ys.length*by_<=140737488355328/\ys.length<=9223372036854775807/\
    K (ae (cI d fr) d (.ms d ys.length)) (Qg hp d ⟨e,ty,ys,false⟩)
  |.aD O 0 n=>match hp O with
   | some hb=>(bN O=false/\hb.fz=false/\hb.e=e/\hb.ty=ty/\n<=hb.xs.length/\(n+ys.length)*by_<=140737488355328/\n+ys.length<=9223372036854775807/\
     K (ae (cI O fr) d (.ms O (n+ys.length))) (Qg hp O ⟨e,ty,hb.xs.take n++ys,false⟩))\/
    (bN O=true/\aP O=false/\(ys≠[]/\hb.fz=false/\hb.e=e/\hb.ty=ty/\n<=hb.xs.length/\(n+ys.length)*by_<=140737488355328/\n+ys.length<=9223372036854775807)/\
     K (ae (gP O fr) d (.ms O (n+ys.length))) (Qg hp O ⟨e,ty,hb.xs.take n++ys,false⟩))
   |none=>False
  |_=>False
def sP (e:Nat) (s x:PV) (d:Nat) (fr:Fr) (hp:HP) (K:Qf):Prop:=
 match kI hp x,s with
 |some (e',ys),.aD O 0 n=>match hp O with
  | some hb=>0<e/\hb.fz=false/\hb.e=e/\(e'=e\/ys=[])/\n=hb.xs.length/\
    K (ae fr d (.int .i64 (min (ys.length:Int) n))) (Qg hp O { hb with xs:=ys.take n++hb.xs.drop ys.length })
  |none=>False
 |_,_=>False
def jL(d:Int):Option PV->Option Int
 |none=>some d
 |some (.int _ n)=>some n
 |some _=>none
def jI(e:Nat)(a:PV)(lo hi mx:Option PV)(d:Nat)(fr:Fr)(hp:HP)(K:Qf):Prop:=
 match a with
 |.aa=>match jL 0 lo,jL 0 hi,jL 0 mx with
  |some L,some H,some M=>L=0/\H=0/\M=0/\(mx.isSome->hi.isSome)/\K (ae fr d .aa) hp
  |_,_,_=>False
 |.sl e' xs=>match jL 0 lo,jL xs.length hi,jL xs.length mx with
  |some L,some H,some M=>e'=e/\0<=L/\L<=H/\H<=M/\M<=xs.length/\(mx.isSome->hi.isSome)/\K (ae fr d (.sl e ((xs.take H.toNat).drop L.toNat))) hp
  |_,_,_=>False
 |.aD O o n=>match jL 0 lo,jL n hi,mx with
  |some L,some H,none=>(hp O).map (·.e)=some e/\0<=L/\L<=H/\H<=n/\(L=0\/L<n)/\K (ae fr d (.aD O (o+L.toNat) (H.toNat-L.toNat))) hp
  |_,_,_=>False
 |_=>False
def ou(a:PV)(i:Nat)(d:Nat)(fr:Fr)(hp:HP)(K:Qf):Prop:=
 match a with
 |.aI ps=>match ps[i]? with
  |some p=>p.aJ=true/\K (ae fr d p) hp
  |none=>False
 |.fH ps=>match ps[i]? with
  |some p=>K (ae fr d p) hp
  |none=>False
 |.dQ cs q=>match i with
  |0=>K (ae fr d (.aU cs)) hp
  |1=>K (ae fr d q) hp
  |_=>False
 |_=>False
def jN(cells:List PV):List (Nat×List PV)->List PV
 | []=>cells
 |(o,xs)::r=>jN (cells.take o++xs++cells.drop (o+xs.length)) r
def Tq(hp:HP)(len:Nat)(ps:List (Nat×Nat×PV)):Prop:=∀p∈ps,(Qr hp p.2.2).aJ=true/\(Qr hp p.2.2).cells.length=p.2.1/\p.1+p.2.1<=len
def FL(zero:List PV)(ps:List (Nat×Nat×PV))(d:Nat)(fr:Fr)(hp:HP)(K:Qf):Prop:=
 Tq hp zero.length ps/\K (ae fr d (.agg (jN zero (ps.map λp=>(p.1,(Qr hp p.2.2).cells))))) (Qu hp (ps.flatMap λp=>p.2.2.refs))
def PV.qX:PV->Bool
 |.aK .. | .aU _=>true
 |.aD O _ _=>decide (2000000<=O)
 |_=>false
def wR(len:Nat)(ps:List (Nat×Nat×PV)):Prop:=∀p∈ps,∃cs,gM p.2.2=some cs/\cs.length=p.2.1/\p.1+p.2.1<=len
def nJ(zero:List PV)(ps:List (Nat×Nat×PV))(d:Nat)(fr:Fr)(hp:HP)(K:Qf):Prop:=
 if ps.any (λp=>p.2.2.qX)then wR zero.length ps/\K (ae fr d (.aU (jN zero (ps.map λp=>(p.1,(gM p.2.2).getD []))))) hp
 else FL zero ps d fr hp K
def yR(a:PV)(d:Option Nat)(fr:Fr)(hp:HP)(K:Qf):Prop:=
 match a,d with
 |.mp _ _ _,some d| .pt _,some d| .fn _ _ _,some d| .np _ _ _,some d| .jB _ _,some d=>K (ae fr d a) hp
 |.mp _ _ _,none| .pt _,none| .fn _ _ _,none| .np _ _ _,none| .jB _ _,none=>K fr hp
 |_,_=>False
structure Ctx where
 P:Program
 N:Nat
 w0:World
 X0:Nat->Prop
 IG:∀b,X0 b->b<w0.heap.size
 hN:N<=1000000
 fx:Nat->Option Nat
 qL:∀O b,fx O=some b->b<w0.heap.size/\(eB O=false->¬X0 b)
 Z0:Nat->Prop
 II:∀b,Z0 b->b<w0.heap.size/\¬X0 b/\∀O,fx O≠some b
@[reducible] def Ctx.plain (P : Program) (N : Nat) (w : World) (X : Nat -> Prop) (hX : ∀ b, X b -> b < w.heap.size) (hN : N <= 1000000) : Ctx :=
 ⟨P, N, w, X, hX, hN, λ_ => none, (λ_ _ h => nomatch h), di, λ_ h => h.elim⟩
def Ctx.Y0(C:Ctx):Nat->Prop:=λb=>(∃O,eB O=false/\C.fx O=some b)\/C.Z0 b
def Ctx.hY0(C:Ctx):∀b,C.Y0 b->b<C.w0.heap.size/\¬C.X0 b
 |b,.inl ⟨O,hr,h⟩=>⟨(C.qL O b h).1,(C.qL O b h).2 hr⟩
 |b,.inr h=>⟨(C.II b h).1,(C.II b h).2.1⟩
def Ctx.OZ{w':World}{hX:∀b,X b->b<w.heap.size}{hN:N<=1000000}(h:Ext (Ctx.plain P N w X hX hN).Y0 w w'):Ext di w w':=
 h.mono λb _ hb=>by
  rcases hb with⟨O,_,hb⟩|hb
  .cases hb
  .exact hb
def Ctx.cls(C:Ctx)(O b:Nat):Prop:=if aP O=true then C.fx O=some b else C.w0.heap.size<=b\/C.Z0 b
def Ctx.Il{C:Ctx}(h:C.cls O b)(hr:eB O=false):C.w0.heap.size<=b\/C.Y0 b:=by
 unfold Ctx.cls at h;split at h
 .exact .inr (.inl ⟨O,hr,h⟩)
 .exact h.imp id .inr
def Ctx.xB{C:Ctx}(h:C.cls O b)(hB:aP O=false):C.w0.heap.size<=b\/C.Z0 b:=by
 unfold Ctx.cls at h
 rwa[if_neg (by simp[hB])]at h
def Ctx.XF{C:Ctx}(h:C.w0.heap.size<=b\/C.Z0 b)(hB:aP O=false):C.cls O b:=by
 unfold Ctx.cls
 rwa[if_neg (by simp[hB])]
def Ctx.N_Y{C:Ctx}(h:C.w0.heap.size<=b\/C.Z0 b):C.w0.heap.size<=b\/C.Y0 b:=h.imp id .inr
def Ctx.Pa{C:Ctx}(h:C.w0.heap.size<=b\/C.Z0 b):C.fx O≠some b:=λe=>by
 rcases h with h|h
 .have:=(C.qL O b e).1;omega
 .exact(C.II b h).2.2 O e
def Ctx.Ik{C:Ctx}(h:C.cls O b)(hr:eB O=false):¬C.X0 b:=λhx=>by
 rcases Ctx.Il h hr with h|h
 .have:=C.IG b hx;omega
 .exact(C.hY0 b h).2 hx
def aM(C:Ctx)(ρ:Nat->Option Nat)(hp:HP):Nat->Prop:=λb=>C.X0 b\/∃O hb,hp O=some hb/\hb.fz=false/\ρ O=some b
def eh(w:World)(b e cap:Nat):Prop:=∃cur ty,w.heap[b]? =some (.cells cur ty (0,0))/\cur.size=cap*e
def Bq(w:World)(X:Nat->Prop)(b:Nat)(hb:HB):Prop:=
 ∃(cur:Array Value)(cap:Nat),w.heap[b]? =some (.cells cur hb.ty (0,0))/\cur.size=cap*hb.e/\hb.xs.length<=cap/\cap<=maxLen/\
  ∀(i:Nat)(x:PV),hb.xs[i]? =some x->∀(j:Nat)(y:PV),x.cells[j]? =some y->Qn w X y (cur.getD (i*hb.e+j) undef)
structure vG(C:Ctx)(ρ:Nat->Option Nat)(hp:HP)(w:World)(O:Nat)(hb:HB):Prop where
 mA:0<hb.e
 len:∀(i:Nat)(x:PV),hb.xs[i]? =some x->x.cells.length=hb.e/\x.aJ=true
 du:match ρ O with
  |none=>hb.xs=[]
  |some b=>C.cls O b/\b<w.heap.size/\Bq w (aM C ρ hp) b hb
 fix:aP O=true->ρ O=C.fx O
 ro:eB O=true->hb.fz=true
def fV(ρ:Nat->Option Nat)(hp:HP)(w:World)(O o n:Nat)(v:Value):Prop:=
 ∃ hb,hp O=some hb/\o+n<=hb.xs.length/\((ρ O=none/\v= .slice none 0 0/\n=0/\o=0)\/
   ∃b cap,ρ O=some b/\v= .slice (some ⟨b,o*hb.e,none⟩) n cap/\eh w b hb.e (o+cap)/\o+cap<=maxLen)
def qq(ρ:Nat->Option Nat)(hp:HP)(w:World)(γ o n:Nat)(v:Value):Prop:=
 bN γ=true/\∃hb b cap,hp γ=some hb/\ρ γ=some b/\v= .slice (some ⟨b,o*hb.e,none⟩) n cap/\eh w b hb.e (o+cap)/\o+cap<=maxLen/\n<=cap
def dx(C:Ctx)(ρ:Nat->Option Nat)(hp:HP)(w:World):PV->Value->Prop
 |.undef,_=>True
 |.aD O o n,v=>bN O=true/\fV ρ hp w O o n v
 |.aK γ o n,v=>qq ρ hp w γ o n v
 |p,v=>Qn w (aM C ρ hp) p v
def dy(C:Ctx)(ρ:Nat->Option Nat)(hp:HP)(w:World):PV->Value->Prop
 |.mp O i o,v=>∃b hb,ρ O=some b/\hp O=some hb/\v= .pointer (some ⟨b,i*hb.e+o,none⟩)
 |.aD O o n,v=>fV ρ hp w O o n v
 |.rb O o n,v=>∃b u,v= .pointer (some ⟨b,0,none⟩)/\b<w.heap.size/\¬aM C ρ hp b/\w.cell? ⟨b,0,none⟩=some u/\fV ρ hp w O o n u
 |.np γ i o,v=>bN γ=true/\∃b hb,ρ γ=some b/\hp γ=some hb/\v= .pointer (some ⟨b,i*hb.e+o,none⟩)
 |.aK γ o n,v=>qq ρ hp w γ o n v
 |p,v=>Qn w (aM C ρ hp) p v
def Qj(C:Ctx)(ρ:Nat->Option Nat)(hp:HP)(w:World):PV->Value->Prop
 |.undef,_=>True
 |.mp O i o,v=>dy C ρ hp w (.mp O i o) v
 |.aD O o n,v=>dy C ρ hp w (.aD O o n) v
 |.rb O o n,v=>dy C ρ hp w (.rb O o n) v
 |.np γ i o,v=>dy C ρ hp w (.np γ i o) v
 |.aK γ o n,v=>dy C ρ hp w (.aK γ o n) v
 |.aU cs,v=>∃vs:Array Value,v= .agg vs/\vs.size=cs.length/\∀(i:Nat)(x:PV),cs[i]? =some x->dx C ρ hp w x (vs.getD i undef)
 |.fH cs,v=>∃vs:Array Value,v= .tuple vs/\vs.size=cs.length/\∀(i:Nat)(x:PV),cs[i]? =some x->dx C ρ hp w x (vs.getD i undef)
 |.dQ cs q,v=>∃(vs:Array Value)(u:Value),v= .tuple #[.agg vs,u]/\vs.size=cs.length/\(∀(i:Nat)(x:PV),cs[i]? =some x->dx C ρ hp w x (vs.getD i undef))/\bS w (aM C ρ hp) q u
 |.aH γ e ty xs,_=>bN γ=true/\0<e/\∃(b:Nat) (hb:HB) (cur:Array Value) (cap:Nat),ρ γ=some b/\hp γ=some hb/\hb.xs=[]/\hb.e=e/\hb.ty=ty/\w.heap[b]? =some (.cells cur ty (0,0))/\cur.size=cap*e/\xs.length<=cap/\cap<=maxLen/\
   (∀(i:Nat)(x:PV),xs[i]? =some x->x.aV.length=e)/\∀(i:Nat)(x:PV),xs[i]? =some x->∀(j:Nat)(y:PV),x.aV[j]? =some y->dx C ρ hp w y (cur.getD (i*e+j) undef)
 |.fn f first cap,v=>∃fv cv:Array Value,v= .func (.func f) fv cv/\fv.size=first.length/\cv.size=cap.length/\
   (∀(i:Nat)(x:PV),first[i]? =some x->dy C ρ hp w x (fv.getD i undef))/\(∀(i:Nat)(x:PV),cap[i]? =some x->dy C ρ hp w x (cv.getD i undef))
 |p,v=>gq w (aM C ρ hp) p v
structure Qt(C:Ctx)(ρ:Nat->Option Nat)(fr:Fr)(hp:HP)(tmps:Array Value)(w:World):Prop where
 sz:tmps.size=C.N
 ext:Ext C.Y0 C.w0 w
 fG:∀O b,C.fx O=some b->∀e cap,eh C.w0 b e cap->eh w b e cap
 own:∀O hb,hp O=some hb->vG C ρ hp w O hb
 inj:∀O γ b,hp O≠none->hp γ≠none->ρ O=some b->ρ γ=some b->O=γ
 cQ:∀i,Qj C ρ hp w (fr i) (tmps.getD i undef)
def eT(C:Ctx)(fr:Fr)(hp:HP)(tmps:Array Value)(w:World):Prop:=∃ρ,Qt C ρ fr hp tmps w
def xh(tmps:Array Value)(d:Option Nat)(v:Value):Array Value:=match d with|some d=>tmps.setIfInBounds d v|none=>tmps
def Wk(fr:Fr)(hp:HP)(aG:Fr)(hp':HP):Prop:=∀(C:Ctx)(tmps:Array Value)(w:World),eT C fr hp tmps w->eT C aG hp' tmps w
def DU(C:Ctx)(fr:Fr)(hp:HP)(aG:Fr)(hp':HP):Prop:=∀(tmps:Array Value)(w:World),eT C fr hp tmps w->eT C aG hp' tmps w
def Wk.c{fr aG:Fr}{hp hp':HP}(h:Wk fr hp aG hp')(C:Ctx):DU C fr hp aG hp':=h C
def eI(C:Ctx)(pr:Bool)(f:PV)(args:List PV)(d:Option Nat)(fr:Fr)(hp:HP)(K:Qf):Prop:=
 match f with
 |.fn g first cap => (C.P.funcs[g]?).any (λfn => fn.body.isSome && fn.name != "runtime.NumGoroutine") = true /\
  ∀ρ tmps w (fv cv av:Array Value),(∀x,d=some x->x<C.N)->Qt C ρ fr hp tmps w->
   fv.size=first.length->cv.size=cap.length->av.size=args.length->
   (∀(i:Nat)(x:PV),first[i]? =some x->dy C ρ hp w x (fv.getD i undef))->(∀(i:Nat)(x:PV),cap[i]? =some x->dy C ρ hp w x (cv.getD i undef))->
   (∀(i:Nat)(x:PV),args[i]? =some x->Qj C ρ hp w x (av.getD i undef))->
   Calls C.P g (fv++av++cv) w λe w'=>∃v aG hp',e= .returned v/\eT C aG hp' (xh tmps d v) w'/\(pr=true->Ext di w w')/\K aG hp'
 |_=>False
def bK(C:Ctx)(o:cZ)(fr:Fr)(hp:HP)(K:Qf):Prop:=
 match o with
 |.mv d x=>K (ae fr d (ev fr x)) hp
 |.pick d c a b=>vB (ev fr c) (ev fr a) (ev fr b) d fr hp K
 |.bin d op bt x y=>cJ op bt (ev fr x) (ev fr y) d fr hp K
 |.eqs d ng x y=>uc ng (ev fr x) (ev fr y) d fr hp K
 |.gj d ng x y=>ud ng (ev fr x) (ev fr y) d fr hp K
 |.zY d ng x=>ue ng (ev fr x) d fr hp K
 |.ym d x=>y9 (ev fr x) d fr hp K
 |.yl d x i=>xe (ev fr x) (ev fr i) d fr hp K
 |.un d op x=>yo op (ev fr x) d fr hp K
 |.conv d k x=>yQ k (ev fr x) d fr hp K
 |.len d x=>rG (ev fr x) d fr hp K
 |.mx d x y=>z7 (ev fr x) (ev fr y) d fr hp K
 |.mn d x y=>z5 (ev fr x) (ev fr y) d fr hp K
 |.idx d e x i=>ej e (ev fr x) (ev fr i) d fr hp K
 |.qW d n e x i=>rB n e (ev fr x) (ev fr i) d fr hp K
 |.B3 d n e ag x i=>xf n e ag (ev fr x) (ev fr i) d fr hp K
 |.dI d off x=>qp off (ev fr x) d fr hp K
 |.BJ d off n ag x=>tW off n ag (ev fr x) d fr hp K
 |.ld d n ag x=>gU n ag (ev fr x) d fr hp K
 |.st n x v=>pV n (ev fr x) (ev fr v) fr hp K
 |.box d n ty v=>fM n ty (ev fr v) d fr hp K
 |.alloc d n ty z=>fM n ty z d fr hp K
 |.mk d e by_ ty z l c=>pR e by_ ty z (ev fr l) (ev fr c) d fr hp K
 |.bs d e ty ps=>oz e ty (ps.map (ev fr)) d fr hp K
 |.app d e by_ ty s x=>jO e by_ ty (ev fr s) (ev fr x) d fr hp K
 |.vT d e s x=>sP e (ev fr s) (ev fr x) d fr hp K
 |.sl d e x lo hi mx=>jI e (ev fr x) (lo.map (ev fr)) (hi.map (ev fr)) (mx.map (ev fr)) d fr hp K
 |.ext d x i=>ou (ev fr x) i d fr hp K
 |.cD d zero ps=>nJ zero (ps.map λp=>(p.1,p.2.1,ev fr p.2.2)) d fr hp K
 |.fn d f first cap=>(first.map (ev fr)++cap.map (ev fr)).all PV.nr=true/\K (ae fr d (.fn f (first.map (ev fr)) (cap.map (ev fr)))) hp
 |.call d pr f args=>eI C pr (ev fr f) (args.map (ev fr)) d fr hp K
 |.B7 d x=>yR (ev fr x) d fr hp K
 |.bad _=>False
def lS(o:cZ)(fr:Fr)(hp:HP)(K:Qf):Prop:=
 match o.dst with
 |some d=>K (ae fr d (.aI [])) hp
 |none=>K fr hp
def iy(C:Ctx)(g:Option (Nat×Bool))(o:cZ)(fr:Fr)(hp:HP)(K:Qf):Prop:=
 match g with
 |none=>bK C o fr hp K
 |some (s,want)=>match fr s with
  |.bool t=>(t=want->bK C o (ae fr s (.bool want)) hp K)/\(t=(!want)->lS o (ae fr s (.bool !want)) hp K)
  |.aI []=>lS o fr hp K
  |_=>False
inductive It where
 |c (s:SC)
 |o (r:RT)
 |eb (id:Nat)
 |el (J:Qf)
def RT.sz:RT->Nat
 |.nil=>1
 |.o _ _ r=>r.sz+1
 |.br a b=>a.sz+b.sz+1
 |.wk r=>r.sz+1
def SC.sz:SC->Nat
 |.rg r=>r.sz+1
 |.seq a b=>a.sz+b.sz+1
 |.cond _ a b=>a.sz+b.sz+1
 |.block _ a=>a.sz+2
 |.loop a=>a.sz+2
 |_=>1
def It.sz:It->Nat
 |.c s=>s.sz
 |.o r=>r.sz
 |_=>1
def cz:List It->Nat
 | []=>0
 |i::is=>i.sz+cz is
def cS(id:Nat):List It->Option (List It)
 | []=>none
 |.eb i::sk=>if i=id then some sk else cS id sk
 |_::sk=>cS id sk
def CO(id:Nat):∀(sk fI:List It),FW.cS id sk=some fI->cz fI<=cz sk
 | [],_,h=>by simp[FW.cS]at h
 |.c s::sk,fI,h=>by have:=CO id sk fI (by simpa[FW.cS]using h);simp[cz];omega
 |.o s::sk,fI,h=>by have:=CO id sk fI (by simpa[FW.cS]using h);simp[cz];omega
 |.el s::sk,fI,h=>by have:=CO id sk fI (by simpa[FW.cS]using h);simp[cz];omega
 |.eb i::sk,fI,h=>by
  simp only[FW.cS]at h;split at h
  .cases h;simp[cz]
  .have:=CO id sk fI h;simp[cz];omega
def RT.Cf(r:RT):0<r.sz:=by cases r<;>simp[RT.sz]
def SC.Cf(s:SC):0<s.sz:=by cases s<;>simp[SC.sz]
def vc(C:Ctx)(R:Qf)(sk:List It)(fr:Fr)(hp:HP):Prop:=
 match sk with
 | []=>R fr hp
 |.el J::_=>J fr hp
 |.eb _::sk=>vc C R sk fr hp
 |.o .nil::sk=>vc C R sk fr hp
 |.o (.o g o r)::sk=>iy C g o fr hp (λfr hp=>vc C R (.o r::sk) fr hp)
 |.o (.br a b)::sk=>vc C R (.o a::sk) fr hp/\vc C R (.o b::sk) fr hp
 |.o (.wk r)::sk=>∃aX aB,DU C fr hp aX aB/\vc C R (.o r::sk) aX aB
 |.c .skip::sk=>vc C R sk fr hp
 |.c (.rg r)::sk=>vc C R (.o r::sk) fr hp
 |.c (.raw id ops)::sk=>∀tmps w Q,eT C fr hp tmps w->(∀aG hp' yn w',eT C aG hp' yn w'->vc C R sk aG hp'->Q .normal { tmps:=yn,defers:=[] } w')->(Code.region id ops true).wp C.P Q { tmps:=tmps,defers:=[] } w
 |.c (.seq a b)::sk=>vc C R (.c a:: .c b::sk) fr hp
 |.c (.cond c a b)::sk=>match ev fr c with
  |.bool t=>(t=true->vc C R (.c a::sk) fr hp)/\(t=false->vc C R (.c b::sk) fr hp)
  |_=>False
 |.c (.block id a)::sk=>vc C R (.c a:: .eb id::sk) fr hp
 |.c (.loop a)::sk=>∃(I:Qf)(μ:Fr->HP->Nat),(∃aX aB,Wk fr hp aX aB/\I aX aB)/\∀fr hp,I fr hp->vc C R (.c a:: .el (λaG hp'=>∃aX aB,Wk aG hp' aX aB/\I aX aB/\μ aX aB<μ fr hp)::sk) fr hp
 |.c (.exit id)::sk=>match h:FW.cS id sk with
  |some fI=>vc C R fI fr hp
  |none=>False
 |.c .ret::_=>R fr hp
termination_by cz sk
decreasing_by
 all_goals simp only[cz,It.sz,SC.sz,RT.sz]
 all_goals first|omega|(have:=CO _ _ _ h;omega)|skip
variable {C : Ctx} {ρ : Nat -> Option Nat} {fr : Fr} {hp : HP} {tmps : Array Value} {w : World}
variable{aE hb:HB}{f:FuncId}{first:List PV}{p x:PV}
def fV.move{ρ':Nat->Option Nat}{hp':HP}{w':World}{O o n:Nat}{v:Value}(h:fV ρ hp w O o n v)
  (hr:ρ' O=ρ O/\∀hb,hp O=some hb->∃aE,hp' O=some aE/\aE.e=hb.e/\hb.xs.length<=aE.xs.length/\∀b cap,ρ O=some b->eh w b hb.e cap->eh w' b hb.e cap):fV ρ' hp' w' O o n v:=by
 obtain⟨hb,h2,h3,h4⟩:=h;obtain⟨e1,e2⟩:=hr;obtain⟨aE,h5,h6,h7,h8⟩:=e2 hb h2;refine⟨aE,h5,KaK h3 h7,?_⟩;rcases h4 with⟨g1,g2,g3⟩|⟨b,cap,g1,g2,g3,g4⟩
 .exact .inl ⟨by rw[e1];exact g1,g2,g3⟩
 .exact .inr ⟨b,cap,by rw[e1];exact g1,by rw[h6];exact g2,by rw[h6];exact h8 b (o+cap) g1 g3,g4⟩
structure nK(w w':World)(X X':Nat->Prop):Prop where
 du:∀b,b<w.heap.size->¬X b->w'.heap[b]? =w.heap[b]?
 out:∀b,b<w.heap.size->¬X b->¬X' b
 size:w.heap.size<=w'.heap.size
def nK.rc{w w':World}{X X':Nat->Prop}(h:nK w w' X X'):∀q u,Qn w X q u->Qn w' X' q u:=λ_ _ hq=>hq.mono h.du h.out h.size
structure pW(ρ ρ':Nat->Option Nat)(hp hp':HP)(w w':World)(O:Nat):Prop where
 r:ρ' O=ρ O
 h:∀hb,hp O=some hb->∃aE,hp' O=some aE/\aE.e=hb.e/\hb.xs.length<=aE.xs.length/\(∀b cap,ρ O=some b->eh w b hb.e cap->eh w' b hb.e cap)/\(hb.xs=[]->aE.xs=[]/\aE.ty=hb.ty/\∀b,ρ O=some b->w'.heap[b]? =w.heap[b]?)
def pW.o{ρ':Nat->Option Nat}{hp':HP}{w':World}{O:Nat}(h:pW ρ ρ' hp hp' w w' O):ρ' O=ρ O/\∀hb,hp O=some hb->∃aE,hp' O=some aE/\aE.e=hb.e/\hb.xs.length<=aE.xs.length/\∀b cap,ρ O=some b->eh w b hb.e cap->eh w' b hb.e cap:=
 ⟨h.r,λhb ao=>let⟨aE,a,b,c,d,_⟩:=h.h hb ao;⟨aE,a,b,c,d⟩⟩
structure xj(ρ ρ':Nat->Option Nat)(hp hp':HP)(w w':World)(O:Nat):Prop where
 r:ρ' O=ρ O
 h:∀hb,hp O=some hb->∃aE,hp' O=some aE/\aE.e=hb.e/\hb.xs.length<=aE.xs.length/\∀b cap,ρ O=some b->eh w b hb.e cap->eh w' b hb.e cap
def pW.Ac{ρ':Nat->Option Nat}{hp':HP}{w':World}{O:Nat}(h:pW ρ ρ' hp hp' w w' O):xj ρ ρ' hp hp' w w' O:=⟨h.r,h.o.2⟩
def qq.move{ρ':Nat->Option Nat}{hp':HP}{w':World}{γ o n:Nat}{v:Value}(h:qq ρ hp w γ o n v)(hr:xj ρ ρ' hp hp' w w' γ):qq ρ' hp' w' γ o n v:=by obtain⟨h0,hb,b,cap,h1,h2,h3,h4,h5,h6⟩:=h;obtain⟨aE,a1,a2,_,a4⟩:=hr.h hb h1;exact⟨h0,aE,b,cap,a1,by rw[hr.r];exact h2,by rw[a2];exact h3,by rw[a2];exact a4 b _ h2 h4,h5,h6⟩
def dx.move{ρ':Nat->Option Nat}{hp':HP}{w':World}{p:PV}{v:Value}(h:dx C ρ hp w p v)(hc:nK w w' (aM C ρ hp) (aM C ρ' hp'))(hs:∀O∈p.dM,xj ρ ρ' hp hp' w w' O):dx C ρ' hp' w' p v:=by
 cases p with
 |undef=>trivial
 |aD O o n=>exact⟨h.1,fV.move h.2 ⟨(hs O (by simp[PV.dM])).r,(hs O (by simp[PV.dM])).h⟩⟩
 |aK γ o n=>exact qq.move h (hs γ (by simp[PV.dM]))
 |_=>exact hc.rc _ _ h
def dy.move{ρ':Nat->Option Nat}{hp':HP}{w':World}{p:PV}{v:Value}(h:dy C ρ hp w p v)
  (hc:nK w w' (aM C ρ hp) (aM C ρ' hp'))
  (hr:∀O∈p.cm,ρ' O=ρ O/\∀hb,hp O=some hb->∃aE,hp' O=some aE/\aE.e=hb.e/\hb.xs.length<=aE.xs.length/\∀b cap,ρ O=some b->eh w b hb.e cap->eh w' b hb.e cap)
  (hs:∀O∈p.fu,xj ρ ρ' hp hp' w w' O):
  dy C ρ' hp' w' p v:=by
 cases p with
 |mp O i o=>obtain⟨b,hb,h1,h2,h3⟩:=h;obtain⟨e1,e2⟩:=hr O (by simp[PV.cm]);obtain⟨aE,h4,h5,_,_⟩:=e2 hb h2;exact⟨b,aE,by rw[e1];exact h1,h4,by rw[h5];exact h3⟩
 |aD O o n=>exact fV.move h (hr O (by simp[PV.cm]))
 |rb O o n=>obtain⟨b,u,h1,h2,h3,h4,h5⟩:=h;exact⟨b,u,h1,Kbj h2 hc.size,hc.out b h2 h3,(yx (hc.du b h2 h3)).trans h4,fV.move h5 (hr O (by simp[PV.cm]))⟩
 |np γ i o=>obtain⟨h0,b,hb,h1,h2,h3⟩:=h;have hq:=hs γ (by simp[PV.fu]);obtain⟨aE,a1,a2,_⟩:=hq.h hb h2;exact⟨h0,b,aE,by rw[hq.r];exact h1,a1,by rw[a2];exact h3⟩
 |aK γ o n=>exact qq.move h (hs γ (by simp[PV.fu]))
 |_=>exact hc.rc _ _ h
def Lg{cap:List PV}{i:Nat}(h:first[i]? =some x):∀O∈x.cm,O∈(PV.fn f first cap).refs:=by intro O ao;simp only[PV.refs,KaN,Kat];exact .inl ⟨x,Kaj h,ao⟩
def Lp{cap:List PV}{i:Nat}(h:cap[i]? =some x):∀O∈x.cm,O∈(PV.fn f first cap).refs:=by intro O ao;simp only[PV.refs,KaN,Kat];exact .inr ⟨x,Kaj h,ao⟩
def gq.move{w':World}{X X':Nat->Prop}{v:Value}(h:gq w X p v)(hc:∀q u,Qn w X q u->Qn w' X' q u):gq w' X' p v:=by
 have h1:∀p v,bS w X p v->bS w' X' p v:=by
  intro p v h;cases p with
  |agg cs=>obtain⟨vs,rfl,h1,h2⟩:=h;exact⟨vs,rfl,h1,λi x hi=>hc _ _ (h2 i x hi)⟩
  |_=>exact hc _ _ h
 cases p with
 |aI ps=>obtain⟨vs,rfl,g1,g2⟩:=h;exact⟨vs,rfl,g1,λi x hi=>h1 _ _ (g2 i x hi)⟩
 |agg cs=>exact h1 (.agg cs) v h
 |_=>exact hc _ _ h
def Qj.move{ρ':Nat->Option Nat}{hp':HP}{w':World}{p:PV}{v:Value}(h:Qj C ρ hp w p v)
  (hc:nK w w' (aM C ρ hp) (aM C ρ' hp'))
  (hr:∀O∈p.refs,ρ' O=ρ O/\∀hb,hp O=some hb->∃aE,hp' O=some aE/\aE.e=hb.e/\hb.xs.length<=aE.xs.length/\∀b cap,ρ O=some b->eh w b hb.e cap->eh w' b hb.e cap)
  (hs:∀O∈p.aO,xj ρ ρ' hp hp' w w' O) (hn:∀γ e ty xs,p= .aH γ e ty xs->pW ρ ρ' hp hp' w w' γ):
  Qj C ρ' hp' w' p v:=by
 cases p with
 |undef=>trivial
 |mp O i o=>exact dy.move (p:=.mp O i o) h hc (λbq oP=>hr bq oP) (λO ao=>by cases ao)
 |aD O o n=>exact dy.move (p:=.aD O o n) h hc (λbq oP=>hr bq oP) (λO ao=>by cases ao)
 |rb O o n=>exact dy.move (p:=.rb O o n) h hc (λbq oP=>hr bq oP) (λO ao=>by cases ao)
 |np γ i o=>exact dy.move (p:=.np γ i o) h hc (λO ao=>by cases ao) (λbq oP=>hs bq oP)
 |aK γ o n=>exact dy.move (p:=.aK γ o n) h hc (λO ao=>by cases ao) (λbq oP=>hs bq oP)
 |aU cs=>obtain⟨vs,rfl,h1,h2⟩:=h;exact⟨vs,rfl,h1,λi x hi=>(h2 i x hi).move hc (λO ao=>hs O (Kat.2 ⟨x,Kaj hi,ao⟩))⟩
 |fH cs=>obtain⟨vs,rfl,h1,h2⟩:=h;exact⟨vs,rfl,h1,λi x hi=>(h2 i x hi).move hc (λO ao=>hs O (Kat.2 ⟨x,Kaj hi,ao⟩))⟩
 |dQ cs q=>obtain⟨vs,u,rfl,h1,h2,h3⟩:=h;exact⟨vs,u,rfl,h1,λi x hi=>(h2 i x hi).move hc (λO ao=>hs O (Kat.2 ⟨x,Kaj hi,ao⟩)),h3.mono hc.du hc.out hc.size⟩
 |aH γ e ty xs=>obtain⟨h0,he,b,hb,cur,cap,h1,h2,h3,h4,h5,h6,h7,h8,h9,bp,cE⟩:=h;have hq:=hn γ e ty xs rfl;obtain⟨aE,a1,a2,_,_,a5⟩:=hq.h hb h2;obtain⟨a5,a6,a7⟩:=a5 h3;refine⟨h0,he,b,aE,cur,cap,by rw[hq.r];exact h1,a1,a5,by rw[a2];exact h4,by rw[a6];exact h5,by rw[a7 b h1];exact h6,h7,h8,h9,bp,λi x hi j y hy=>(cE i x hi j y hy).move hc (λO ao=>hs O ?_)⟩;refine Kbx _ (Kat.2 ⟨x,Kaj hi,Kat.2 ⟨y,Kaj hy,ao⟩⟩)
 | fn f first cap=>
  obtain⟨fv,cv,rfl,h1,h2,h3,h4⟩:=h;exact⟨fv,cv,rfl,h1,h2,λi x hi=>(h3 i x hi).move hc (λO ao=>hr O (Lg hi O ao)) (λO ao=>hs O (KaN.2 (.inl (Kat.2 ⟨x,Kaj hi,ao⟩)))),
   λi x hi=>(h4 i x hi).move hc (λO ao=>hr O (Lp hi O ao)) (λO ao=>hs O (KaN.2 (.inr (Kat.2 ⟨x,Kaj hi,ao⟩))))⟩
 |agg cs=>exact gq.move (p:=.agg cs) h hc.rc
 |aI cs=>exact gq.move (p:=.aI cs) h hc.rc
 |_=>exact hc.rc _ _ h
def Qj.sg{ρ':Nat->Option Nat}{hp':HP}{w':World}{v:Value}(h:Qj C ρ hp w p v)
  (hc:nK w w' (aM C ρ hp) (aM C ρ' hp'))
  (hr:∀O∈p.refs,ρ' O=ρ O/\∀hb,hp O=some hb->∃aE,hp' O=some aE/\aE.e=hb.e/\hb.xs.length<=aE.xs.length/\∀b cap,ρ O=some b->eh w b hb.e cap->eh w' b hb.e cap)
  (hs:∀O∈p.aO,pW ρ ρ' hp hp' w w' O):Qj C ρ' hp' w' p v:=
 h.move hc hr (λO ao=>(hs O ao).Ac) (λγ e ty xs e1=>hs γ (by rw[e1];simp[PV.aO]))
def nA{w w':World}{b e cap:Nat}(h:w'.heap[b]? =w.heap[b]?)(hc:eh w b e cap):eh w' b e cap:=by obtain⟨cur,ty,h1,h2⟩:=hc;exact⟨cur,ty,by rw[h];exact h1,h2⟩
def nE{w:World}{b e cap:Nat}(hc:eh w b e cap):b<w.heap.size:=by obtain⟨cur,ty,h1,_⟩:=hc;exact(Kbp.1 h1).1
def Bq.move{w w':World}{X X':Nat->Prop}{b:Nat}(h:Bq w X b hb)(hh:w'.heap[b]? =w.heap[b]?)(e1:aE.e=hb.e)(e2:aE.ty=hb.ty)(e3:aE.xs=hb.xs)
  (hc:∀q u,Qn w X q u->Qn w' X' q u):Bq w' X' b aE:=by
 obtain⟨cur,cap,h1,h2,h3,h4,h5⟩:=h;exact⟨cur,cap,by rw[hh,e2];exact h1,by rw[e1];exact h2,by rw[e3];exact h3,h4,λi x hi j y hy=>by rw[e1];exact hc _ _ (h5 i x (by rw[<-e3];exact hi) j y hy)⟩
def Qt.ae(h:Qt C ρ fr hp tmps w){d:Nat}{p:PV}{v:Value}(hv:Qj C ρ hp w p v)(hd:d<C.N):Qt C ρ (ae fr d p) hp (tmps.setIfInBounds d v) w:=by
 refine⟨by simpa using h.sz,h.ext,h.fG,h.own,h.inj,λi=>?_⟩;unfold FW.ae;split
 .rename_i he;subst he;simpa[Array.getD,h.sz,hd]using hv
 .rename_i he;have:(tmps.setIfInBounds d v).getD i undef=tmps.getD i undef:=by simp only[KaS];rw[Kcr (λe=>he e.symm)]
  rw[this];exact h.cQ i
def LJ{l:List Nat}{b:Nat}(h:aM C ρ (Qu hp l) b):aM C ρ hp b:=by
 rcases h with h|⟨O,hb,h1,h2,h3⟩
 .exact .inl h
 .refine .inr ⟨O,hb,?_,h2,h3⟩;unfold Qu at h1;split at h1
  .cases hq:hp O with
   |none=>simp[hq]at h1
   |some oE=>simp[hq]at h1;subst h1;simp at h2
  .exact h1
def Gf{l:List Nat}{O:Nat}(h:hp O=some hb):∃aE,Qu hp l O=some aE/\aE.e=hb.e/\aE.ty=hb.ty/\aE.xs=hb.xs/\(aE.fz=false->aE=hb)/\(aE.fz=false->O ∉ l):=by
 unfold Qu;by_cases hl:l.contains O=true
 .rw[if_pos hl,h];exact⟨_,rfl,rfl,rfl,rfl,by simp,by simp⟩
 .rw[if_neg hl,h];exact⟨hb,rfl,rfl,rfl,rfl,λ_=>rfl,λ_=>by simpa using hl⟩
def Cu{l:List Nat}{O:Nat}(h:Qu hp l O=some aE):∃hb,hp O=some hb/\aE.e=hb.e/\aE.ty=hb.ty/\aE.xs=hb.xs/\(aE.fz=false->aE=hb)/\(aE.fz=false->O ∉ l):=by
 cases hq:hp O with
 |none=>unfold Qu at h;split at h<;>simp[hq]at h
 |some hb=>obtain⟨hb2,g1,g2⟩:=Gf (l:=l) hq;rw[g1]at h;cases h;exact⟨hb,rfl,g2⟩
def Qn.freeze{l:List Nat}{q:PV}{u:Value}(h:Qn w (aM C ρ hp) q u):Qn w (aM C ρ (Qu hp l)) q u:=
 h.mono (λ_ _ _=>rfl) (λ_ _ hn hx=>hn (LJ hx)) (Kag _)
def Qt.freeze(h:Qt C ρ fr hp tmps w)(l:List Nat):Qt C ρ fr (Qu hp l) tmps w:=by
 refine⟨h.sz,h.ext,h.fG,λO aE ao=>?_,λO γ b h1 h2 h3 h4=>?_,λi=>?_⟩
 .obtain⟨hb,g1,g2,g3,g4,g5,_⟩:=Cu ao;obtain⟨p1,p2,p3,p4,p5⟩:=h.own O hb g1;refine⟨by rw[g2];exact p1,λi x hi=>by rw[g2];exact p2 i x (by rw[<-g4];exact hi),?_,p4,λhq=>by
   cases hz:aE.fz with
   |true=>rfl
   |false=>rw[<-g5 hz,hz]at p5;cases p5 hq⟩
  cases bT:ρ O with
  |none=>rw[bT]at p3;simp only at p3 ⊢;rw[g4];exact p3
  |some b=>rw[bT]at p3;simp only at p3 ⊢;exact⟨p3.1,p3.2.1,p3.2.2.move rfl g2 g3 g4 (λq u hq=>hq.freeze)⟩
 .have f1:∀γ,FW.Qu hp l γ≠none->hp γ≠none:=λγ hn=>by
   cases hq:hp γ with
   |none=>unfold FW.Qu at hn;split at hn<;>simp[hq]at hn
   |some _=>simp
  exact h.inj O γ b (f1 O h1) (f1 γ h2) h3 h4
 .refine(h.cQ i).sg ⟨λ_ _ _=>rfl,λ_ _ hn hx=>hn (LJ hx),Kag _⟩ (λO _=>⟨rfl,λhb ao=>by
  obtain⟨aE,g1,g2,_,g4,_⟩:=Gf (l:=l) ao;exact⟨aE,g1,g2,by rw[g4];exact Kag _,λb cap _ hc=>hc⟩⟩) (λO _=>⟨rfl,λhb ao=>by
  obtain⟨aE,g1,g2,g3,g4,_⟩:=Gf (l:=l) ao;exact⟨aE,g1,g2,by rw[g4];exact Kag _,λb cap _ hc=>hc,λhe=>⟨by rw[g4];exact he,g3,λ_ _=>rfl⟩⟩⟩)
def Qt.grow{w':World}(h:Qt C ρ fr hp tmps w)(hx:Ext di w w'):Qt C ρ fr hp tmps w':=by
 have fl:nK w w' (aM C ρ hp) (aM C ρ hp):=⟨λb hb _=>hx.block b hb (λh=>h),λ_ _ hn=>hn,hx.size⟩
 have hc:=fl.rc;refine⟨h.sz,h.ext.trans' hx (λ_ _ h=>h.elim),λb0 b hb e cap hc=>nA (hx.block b (nE (h.fG b0 b hb e cap hc)) (λh=>h)) (h.fG b0 b hb e cap hc),λO hb ao=>?_,h.inj,λi=>?_⟩
 .obtain⟨p1,p2,p3,p4,p5⟩:=h.own O hb ao;refine⟨p1,p2,?_,p4,p5⟩;cases bT:ρ O with
  |none=>rw[bT]at p3;exact p3
  |some b=>rw[bT]at p3;exact⟨p3.1,Kbj p3.2.1 hx.size,p3.2.2.move (hx.block b p3.2.1 (λh=>h)) rfl rfl rfl hc⟩
 .exact(h.cQ i).sg fl (λO _=>⟨rfl,λhb ao=>⟨hb,ao,rfl,Kag _,λb cap _ eY=>nA (hx.block b (nE eY) (λh=>h)) eY⟩⟩)
   (λO _=>⟨rfl,λhb ao=>⟨hb,ao,rfl,Kag _,λb cap _ eY=>nA (hx.block b (nE eY) (λh=>h)) eY,λhe=>⟨he,rfl,λb bT=>hx.block b (by have:=(h.own O hb ao).du;rw[bT]at this;exact this.2.1) (λh=>h)⟩⟩⟩)
def VZ{O:Nat}:∀γ∈(ct O p).refs,γ≠O/\γ∈p.refs:=by
 intro γ ak;unfold ct at ak;split at ak
 .simp[PV.refs]at ak
 .rename_i hn;refine⟨λhe=>hn (by subst he;simpa using ak),ak⟩
def Qj.kill{O:Nat}{v:Value}(h:Qj C ρ hp w p v):Qj C ρ hp w (ct O p) v:=by
 unfold ct;split
 .trivial
 .exact h
def dx.Ce{v:Value}(h:dx C ρ hp w p v):∀γ∈p.dM,bN γ=true:=by
 intro γ ak;cases p with
 |aD O o n=>simp[PV.dM]at ak;subst ak;exact h.1
 |aK O o n=>simp[PV.dM]at ak;subst ak;exact h.1
 |np O o n=>cases h
 |_=>cases ak
def dy.aau{v:Value}(h:dy C ρ hp w p v):∀γ∈p.fu,bN γ=true:=by
 intro γ ak;cases p with
 |aK O o n=>simp[PV.fu]at ak;subst ak;exact h.1
 |np O o n=>simp[PV.fu]at ak;subst ak;exact h.1
 |_=>cases ak
def Qj.Ce{p:PV}{v:Value}(h:Qj C ρ hp w p v):∀γ∈p.aO,bN γ=true:=by
 intro γ ak;cases p with
 |aK O o n=>simp[PV.aO]at ak;subst ak;exact h.1
 |np O o n=>simp[PV.aO]at ak;subst ak;exact h.1
 |aU cs=>obtain⟨vs,_,_,h2⟩:=h;obtain⟨x,hx,ak⟩:=Kat.1 ak;obtain⟨i,hi⟩:=KaI hx;exact(h2 i x hi).Ce γ ak
 |fH cs=>obtain⟨vs,_,_,h2⟩:=h;obtain⟨x,hx,ak⟩:=Kat.1 ak;obtain⟨i,hi⟩:=KaI hx;exact(h2 i x hi).Ce γ ak
 |dQ cs q=>obtain⟨vs,u,_,_,h2,_⟩:=h;obtain⟨x,hx,ak⟩:=Kat.1 ak;obtain⟨i,hi⟩:=KaI hx;exact(h2 i x hi).Ce γ ak
 | aH O e ty xs=>
  obtain⟨h0,_,b,hb,cur,cap,_,_,_,_,_,_,_,_,_,_,cE⟩:=h;rcases KaA.1 ak with rfl|ak
  .exact h0
  .obtain⟨x,hx,ak⟩:=Kat.1 ak;obtain⟨y,hy,ak⟩:=Kat.1 ak;obtain⟨i,hi⟩:=KaI hx;obtain⟨j,hj⟩:=KaI hy;exact(cE i x hi j y hj).Ce γ ak
 | fn f first cap=>
  obtain⟨fv,cv,_,_,_,h3,h4⟩:=h;rcases KaN.1 ak with ak|ak
  .obtain⟨x,hx,ak⟩:=Kat.1 ak;obtain⟨i,hi⟩:=KaI hx;exact(h3 i x hi).aau γ ak
  .obtain⟨x,hx,ak⟩:=Kat.1 ak;obtain⟨i,hi⟩:=KaI hx;exact(h4 i x hi).aau γ ak
 |_=>cases ak
def rb(ρ:Nat->Option Nat)(O:Nat)(b':Option Nat):Nat->Option Nat:=λγ=>if γ=O then b' else ρ γ
def jx(ρ:Nat->Option Nat)(O:Nat)(b':Option Nat):rb ρ O b' O=b':=by simp[rb]
def rC{ρ:Nat->Option Nat}{O γ:Nat}{b':Option Nat}(h:γ≠O):rb ρ O b' γ=ρ γ:=by simp[rb,h]
def Br(C:Ctx)(ρ:Nat->Option Nat)(hp:HP)(w:World)(O:Nat)(fr aG:Fr):Prop:=∀(i:Nat)(v:Value),Qj C ρ hp w (fr i) v->Qj C ρ hp w (aG i) v/\(∀γ∈(aG i).refs,γ≠O)/\∀γ∈(aG i).aO,γ≠O
def GQ{O:Nat}(hB:bN O=false):Br C ρ hp w O fr (cI O fr):=λi v h=>by have hk:=Qj.kill (O:=O) h;exact⟨hk,λγ ak=>(VZ γ ak).1,λγ ak e=>by have:=hk.Ce γ ak;rw[e,hB]at this;cases this⟩
def Qt.Cb{w':World}{aG:Fr}(h:Qt C ρ fr hp tmps w)(O:Nat)(b':Option Nat)(aE:HB)(hB:aP O=false)(th:Br C ρ hp w O fr aG)
  (hx:Ext (λb=>ρ O=some b/\∃hb,hp O=some hb/\hb.fz=false) w w')
  (pJ:∀c,b'=some c->(C.w0.heap.size<=c\/C.Z0 c)/\c<w'.heap.size/\(w.heap.size<=c\/(ρ O=some c/\∃hb,hp O=some hb/\hb.fz=false)))
  (he:0<aE.e) (hl:∀(i:Nat)(x:PV),aE.xs[i]? =some x->x.cells.length=aE.e/\x.aJ=true)
  (v9:b'=none->aE.xs=[]) (bu:∀c,b'=some c->∃(cur:Array Value) (cap:Nat),w'.heap[c]? =some (.cells cur aE.ty (0,0))/\cur.size=cap*aE.e/\aE.xs.length<=cap/\cap<=maxLen/\
   ∀(i:Nat)(x:PV),aE.xs[i]? =some x->∀(j:Nat)(y:PV),x.cells[j]? =some y->Qn w (aM C ρ hp) y (cur.getD (i*aE.e+j) undef)):
  Qt C (rb ρ O b') aG (Qg hp O aE) tmps w':=by
 have hX:∀b,b<w.heap.size->¬aM C ρ hp b->¬aM C (rb ρ O b') (Qg hp O aE) b:=by
  intro b hb hn bc;rcases bc with bc|⟨γ,hg,h1,h2,h3⟩
  .exact hn (.inl bc)
  .unfold Qg at h1;by_cases ak:γ=O
   .subst ak;rw[jx]at h3;obtain⟨_,_,h4|⟨h5,oE,h6,h7⟩⟩:=pJ b h3
    .omega
    .exact hn (.inr ⟨γ,oE,h6,h7,h5⟩)
   .rw[if_neg ak]at h1;rw[rC ak]at h3;exact hn (.inr ⟨γ,hg,h1,h2,h3⟩)
 have fl:nK w w' (aM C ρ hp) (aM C (rb ρ O b') (Qg hp O aE)):=
  ⟨λb hb hn=>hx.block b hb (λ⟨e1,oE,e2,e3⟩=>hn (.inr ⟨O,oE,e2,e3,e1⟩)),hX,hx.size⟩
 have hc:=fl.rc;have hold:∀b,ρ O=some b->(∃hb,hp O=some hb/\hb.fz=false)->C.w0.heap.size<=b\/C.Z0 b:=by intro b e1 ⟨oE,e2,e3⟩;have:=(h.own O oE e2).du;rw[e1]at this;exact Ctx.xB this.1 hB
 have l7:Ext C.Y0 C.w0 w':=by refine h.ext.trans' (Y':=λb=>ρ O=some b/\∃hb,hp O=some hb/\hb.fz=false) hx ?_;intro b hb ⟨e1,e2⟩;exact(Ctx.N_Y (hold b e1 e2)).resolve_left Oz
 have EJ:∀O b,C.fx O=some b->∀e cap,eh C.w0 b e cap->eh w' b e cap:=λb0 b hb e cap fl=>by have h1:=h.fG b0 b hb e cap fl;refine nA (hx.block b (nE h1) ?_) h1;intro⟨e1,e2⟩;exact Ctx.Pa (hold b e1 e2) hb
 refine⟨h.sz,l7,EJ,λγ hg ak=>?_,λγ δ b h1 h2 h3 h4=>?_,λi=>?_⟩
 .unfold Qg at ak;by_cases uS:γ=O
  .rw[if_pos uS]at ak;cases ak;subst uS;refine⟨he,hl,?_,(λhq=>by rw[hB]at hq;cases hq),λhq=>by rw[AU hB]at hq;cases hq⟩;rw[jx];cases b' with
   |none=>exact v9 rfl
   |some c=>obtain⟨cur,cap,c1,c2,c3,c4,c5⟩:=bu c rfl;exact⟨Ctx.XF (pJ c rfl).1 hB,(pJ c rfl).2.1,cur,cap,c1,c2,c3,c4,λi x hi j y hy=>hc _ _ (c5 i x hi j y hy)⟩
  .rw[if_neg uS]at ak;obtain⟨p1,p2,p3,p4,p5⟩:=h.own γ hg ak;refine⟨p1,p2,?_,(λhq=>by rw[rC uS];exact p4 hq),p5⟩;rw[rC uS];cases bT:ρ γ with
   |none=>rw[bT]at p3;exact p3
   |some b=>rw[bT]at p3;refine⟨p3.1,Kbj p3.2.1 hx.size,p3.2.2.move (hx.block b p3.2.1 ?_) rfl rfl rfl hc⟩;intro⟨e1,oE,e2,_⟩;exact uS (h.inj γ O b (by simp[ak]) (by simp[e2]) bT e1)
 .
  have key:∀γ b,γ≠O->hp γ≠none->ρ γ=some b->b'=some b->False:=by
   intro γ b aS hs hr hb;obtain⟨_,_,h4|⟨h5,oE,h6,h7⟩⟩:=pJ b hb
   .cases hq:hp γ with
    |none=>exact hs hq
    |some hg=>have:=(h.own γ hg hq).du;rw[hr]at this;omega
   .exact aS (h.inj γ O b hs (by simp[h6]) hr h5)
  unfold Qg at h1 h2;by_cases ak:γ=O<;>by_cases fq:δ=O
  .rw[ak,fq]
  .subst ak;rw[jx]at h3;rw[rC fq]at h4;rw[if_neg fq]at h2;exact(key δ b fq h2 h4 h3).elim
  .subst fq;rw[jx]at h4;rw[rC ak]at h3;rw[if_neg ak]at h1;exact(key γ b ak h1 h3 h4).elim
  .rw[rC ak]at h3;rw[rC fq]at h4;rw[if_neg ak]at h1;rw[if_neg fq]at h2;exact h.inj γ δ b h1 h2 h3 h4
 .obtain⟨hk,eU,qM⟩:=th i _ (h.cQ i);refine hk.sg fl (λγ ak=>?_) (λγ ak=>?_)
  .have aS:=eU γ ak;refine⟨rC aS,λhg jq=>⟨hg,by simp[Qg,aS,jq],rfl,Kag _,λb cap bT eY=>nA (hx.block b (nE eY) ?_) eY⟩⟩;intro⟨e1,oE,e2,_⟩;exact aS (h.inj γ O b (by simp[jq]) (by simp[e2]) bT e1)
  .have aS:=qM γ ak;have qU:∀b hg,hp γ=some hg->ρ γ=some b->¬(ρ O=some b/\∃hb,hp O=some hb/\hb.fz=false):=λb hg jq bT ⟨e1,oE,e2,_⟩=>aS (h.inj γ O b (by simp[jq]) (by simp[e2]) bT e1)
   refine⟨rC aS,λhg jq=>⟨hg,by simp[Qg,aS,jq],rfl,Kag _,λb cap bT eY=>nA (hx.block b (nE eY) (qU b hg jq bT)) eY,λhe=>⟨he,rfl,λb bT=>hx.block b ?_ (qU b hg jq bT)⟩⟩⟩;have:=(h.own γ hg jq).du;rw[bT]at this;exact this.2.1
def Qt.rebind{w':World}(h:Qt C ρ fr hp tmps w)(O:Nat)(b':Option Nat)(aE:HB)(hB:bN O=false)
  (hx:Ext (λb=>ρ O=some b/\∃hb,hp O=some hb/\hb.fz=false) w w')
  (pJ:∀c,b'=some c->(C.w0.heap.size<=c\/C.Z0 c)/\c<w'.heap.size/\(w.heap.size<=c\/(ρ O=some c/\∃hb,hp O=some hb/\hb.fz=false)))
  (he:0<aE.e) (hl:∀(i:Nat)(x:PV),aE.xs[i]? =some x->x.cells.length=aE.e/\x.aJ=true)
  (v9:b'=none->aE.xs=[]) (bu:∀c,b'=some c->∃(cur:Array Value) (cap:Nat),w'.heap[c]? =some (.cells cur aE.ty (0,0))/\cur.size=cap*aE.e/\aE.xs.length<=cap/\cap<=maxLen/\
   ∀(i:Nat)(x:PV),aE.xs[i]? =some x->∀(j:Nat)(y:PV),x.cells[j]? =some y->Qn w (aM C ρ hp) y (cur.getD (i*aE.e+j) undef)):
  Qt C (rb ρ O b') (cI O fr) (Qg hp O aE) tmps w':=h.Cb O b' aE (yM hB) (GQ hB) hx pJ he hl v9 bu
def Qt.store{w':World}(h:Qt C ρ fr hp tmps w)(O b:Nat)(hb aE:HB)(ao:hp O=some hb)(oG:hb.fz=false)(aS:hb.xs≠[])(bT:ρ O=some b)
  (hx:Ext (λc=>c=b) w w') (e1:aE.e=hb.e) (e3:aE.xs.length=hb.xs.length) (e4:aE.fz=false)
  (hl:∀(i:Nat)(x:PV),aE.xs[i]? =some x->x.cells.length=aE.e/\x.aJ=true)
  (eY:∀e cap,eh w b e cap->eh w' b e cap)
  (bu:∃(cur:Array Value) (cap:Nat),w'.heap[b]? =some (.cells cur aE.ty (0,0))/\cur.size=cap*aE.e/\aE.xs.length<=cap/\cap<=maxLen/\
   ∀(i:Nat)(x:PV),aE.xs[i]? =some x->∀(j:Nat)(y:PV),x.cells[j]? =some y->Qn w (aM C ρ hp) y (cur.getD (i*aE.e+j) undef)):Qt C ρ fr (Qg hp O aE) tmps w':=by
 have NB:∀c,aM C ρ (Qg hp O aE) c↔aM C ρ hp c:=by
  intro c;constructor
  .rintro(hx|⟨γ,hg,h1,h2,h3⟩)
   .exact .inl hx
   .unfold Qg at h1;by_cases ak:γ=O
    .subst ak;exact .inr ⟨γ,hb,ao,oG,h3⟩
    .rw[if_neg ak]at h1;exact .inr ⟨γ,hg,h1,h2,h3⟩
  .rintro(hx|⟨γ,hg,h1,h2,h3⟩)
   .exact .inl hx
   .by_cases ak:γ=O
    .subst ak;exact .inr ⟨γ,aE,by simp[Qg],e4,h3⟩
    .exact .inr ⟨γ,hg,by simp[Qg,ak,h1],h2,h3⟩
 have hXf:aM C ρ (Qg hp O aE)=aM C ρ hp:=funext λc=>propext (NB c);have NI:aM C ρ hp b:=.inr ⟨O,hb,ao,oG,bT⟩;have I5:eB O=false:=by
  cases hq:eB O with
  |false=>rfl
  |true=>have:=(h.own O hb ao).ro hq;rw[oG]at this;cases this
 have fl:nK w w' (aM C ρ hp) (aM C ρ (Qg hp O aE)):=by rw[hXf];exact⟨λc hc hn=>hx.block c hc (λe=>hn (e▸NI)),λ_ _ hn=>hn,hx.size⟩
 have hc:=fl.rc;have bP:=(h.own O hb ao).du;rw[bT]at bP;have l7:Ext C.Y0 C.w0 w':=by refine h.ext.trans' (Y':=λc=>c=b) hx ?_;intro c hc he;subst he;exact(Ctx.Il bP.1 I5).resolve_left Oz
 have EJ:∀O c,C.fx O=some c->∀e cap,eh C.w0 c e cap->eh w' c e cap:=λb0 c fl e cap kB=>by
  have h1:=h.fG b0 c fl e cap kB;by_cases iG:c=b
  .subst iG;exact eY e cap h1
  .exact nA (hx.block c (nE h1) iG) h1
 refine⟨h.sz,l7,EJ,λγ hg ak=>?_,λγ δ c h1 h2 h3 h4=>?_,λi=>?_⟩
 .unfold Qg at ak;by_cases uS:γ=O
  .subst uS;rw[if_pos rfl]at ak;cases ak;refine⟨by rw[e1];exact(h.own γ hb ao).mA,hl,?_,(h.own γ hb ao).fix,λhq=>by rw[I5]at hq;cases hq⟩;rw[bT];obtain⟨cur,cap,c1,c2,c3,c4,c5⟩:=bu;exact⟨bP.1,Kbj bP.2.1 hx.size,cur,cap,c1,c2,c3,c4,λi x hi j y hy=>hc _ _ (c5 i x hi j y hy)⟩
  .rw[if_neg uS]at ak;obtain⟨p1,p2,p3,p4,p5⟩:=h.own γ hg ak;refine⟨p1,p2,?_,p4,p5⟩;cases hr:ρ γ with
   |none=>rw[hr]at p3;exact p3
   |some c=>rw[hr]at p3;exact⟨p3.1,Kbj p3.2.1 hx.size,p3.2.2.move (hx.block c p3.2.1 (λe=>uS (h.inj γ O b (by simp[ak]) (by simp[ao]) (e▸hr) bT))) rfl rfl rfl hc⟩
 .have f1:∀γ,Qg hp O aE γ≠none->hp γ≠none:=λγ hn=>by
   unfold Qg at hn;by_cases ak:γ=O
   .subst ak;simp[ao]
   .rwa[if_neg ak]at hn
  exact h.inj γ δ c (f1 γ h1) (f1 δ h2) h3 h4
 .have key:∀γ,pW ρ ρ hp (Qg hp O aE) w w' γ:=λγ=>⟨rfl,λhg jq=>by
   by_cases ak:γ=O
   .subst ak;rw[ao]at jq;cases jq;exact⟨aE,by simp[Qg],e1,by rw[e3];exact Kag _,λc cap hr kB=>by rw[bT]at hr;cases hr;exact eY _ cap kB,λhe=>absurd he aS⟩
   .have qU:∀c,ρ γ=some c->¬c=b:=λc hr e=>ak (h.inj γ O b (by simp[jq]) (by simp[ao]) (e▸hr) bT)
    refine⟨hg,by simp[Qg,ak,jq],rfl,Kag _,λc cap hr kB=>nA (hx.block c (nE kB) (qU c hr)) kB,λhe=>⟨he,rfl,λc hr=>hx.block c ?_ (qU c hr)⟩⟩;have:=(h.own γ hg jq).du;rw[hr]at this;exact this.2.1⟩
  exact(h.cQ i).sg fl (λγ _=>(key γ).o) (λγ _=>key γ)
end Go.FW
namespace Go.FW
open Go
variable {C : Ctx} {ρ : Nat -> Option Nat} {fr : Fr} {hp : HP} {w : World} {a : Act} {K : Qf}
variable{P:Program}{T T2 e t:TypeId}{X vs:Array Value}{ag b ng:Bool}{cs:List PV}{k:IntKind}{o:Oper}{op:BinOp}{p px py:PV}{ts:Array TypeId}{v:Value}{x y:Operand}
def UY{X:Nat->Prop}(h:AE v=some p):Qn w X p v:=by unfold AE at h;split at h<;>simp at h<;>subst h<;>constructor
def n8{α O:Type}{f:α->Option O}:∀ {l:List α} {r:List O},l.mapM f=some r->r.length=l.length/\∀(i:Nat)(y:O),r[i]? =some y->∃x,l[i]? =some x/\f x=some y
 | [],r,h=>by simp at h;subst h;simp
 |x::l,r,h=>by
  rw[Kb9]at h;simp only[KbW,Kcc,Kab,KaG]at h;obtain⟨y,hy,r',hr,rfl⟩:=h;obtain⟨h1,h2⟩:=n8 hr;refine⟨by simp[h1],λi z hz=>?_⟩;cases i with
  |zero=>simp at hz;subst hz;exact⟨x,by simp,hy⟩
  |succ i=>simp at hz;simpa using h2 i z hz
def Gg(cs:Array Value)(i:Nat)(x:Value)(h:cs.toList[i]? =some x):cs.getD i undef=x:=by simp only[Array.getElem?_toList]at h;simp[KaS,h]
def u7{X:Nat->Prop}(h:tT v=some p):bS w X p v:=by
 unfold tT at h;split at h
 .rename_i cs;simp only[Kaa]at h;obtain⟨l,h1,rfl⟩:=h;obtain⟨g1,g2⟩:=n8 h1;refine⟨cs,rfl,by simpa using g1.symm,λi x hx=>?_⟩;obtain⟨u,hu,hc⟩:=g2 i x hx;rw[Gg cs i u hu];exact UY hc
 .exact bS.tC (UY h)
def Ga(h:tT v=some p):p.aJ=true/\p.refs=[]/\(∀f first cap,p≠ .fn f first cap):=by
 unfold tT at h;split at h
 .simp only[Kaa]at h;obtain⟨l,h1,rfl⟩:=h;simp[PV.aJ,PV.refs]
 .unfold AE at h;split at h<;>simp at h<;>subst h<;>simp[PV.aJ,PV.refs]
def Qj.aay(h:bS w (aM C ρ hp) p v)(hn:∀f first cap,p≠ .fn f first cap):Qj C ρ hp w p v:=by
 cases p with
 |fn f first cap=>exact absurd rfl (hn _ _ _)
 |undef=>trivial
 |mp=>cases h
 |aD=>cases h
 |rb=>cases h
 |aK=>cases h
 |np=>cases h
 |aU=>cases h
 |fH=>cases h
 |dQ=>cases h
 |aH=>cases h
 |aI=>cases h
 |agg cs=>exact h
 |_=>exact h
def Qj.n7(h:bS w (aM C ρ hp) p v):Qj C ρ hp w p v:=by
 by_cases hf:∃f first cap,p= .fn f first cap
 .obtain⟨f,first,cap,rfl⟩:=hf;cases h with
  |fn _ _ _ fv cv h1 h2 h3 h4=>
   refine⟨fv,cv,rfl,h1,h2,λi x hi=>?_,λi x hi=>?_⟩
   .have:=h3 i x hi;cases x<;>first|exact this|cases this
   .have:=h4 i x hi;cases x<;>first|exact this|cases this
 .exact Qj.aay h (λf first cap e=>hf ⟨f,first,cap,e⟩)
def dm{y:aW}(h:Qt C ρ fr hp a.tmps w)(ho:cl x=some y):Qj C ρ hp w (ev fr y) (a.eval x):=by
 cases x with
 |tmp t=>simp[cl]at ho;subst ho;exact h.cQ t
 |const v=>simp only[cl,Kaa]at ho;obtain⟨p,hp',rfl⟩:=ho;exact Qj.aay (u7 hp') (Ga hp').2.2
 |global g=>simp[cl]at ho
 |func f=>simp[cl]at ho;subst ho;exact⟨#[],#[],rfl,rfl,rfl,by simp,by simp⟩
def Qj.mG{n:Int}(h:Qj C ρ hp w (.int k n) v):v= .int k n:=by cases h;rfl
def Qj.BF(h:Qj C ρ hp w (.bool b) v):v= .bool b:=by cases h;rfl
def Qj.yf(h:Qj C ρ hp w .aa v):v= .slice none 0 0:=by cases h;rfl
def Qj.mkInt(k:IntKind)(n:Int):Qj C ρ hp w (.int k n) (.int k n):=Qn.int k n
def Qj.uU(b:Bool):Qj C ρ hp w (.bool b) (.bool b):=Qn.bool b
def Qj.aaK:Qj C ρ hp w (.aI []) undef:=⟨#[],rfl,rfl,by simp⟩
def Qz(C:Ctx)(ρ:Nat->Option Nat)(o:Oper)(a:Act)(w:World)(K:Qf):Prop:=
 ∃v,(∀w',(execOp a.eval o).run C.P w'= .ok (.value v) w')/\∃aG hp',Qt C ρ aG hp' (a.put o.dst v).tmps w/\K aG hp'
def Qz.mk{d:Nat}(hd:o.dst=some d)(aA:d<C.N)(h:Qt C ρ fr hp a.tmps w)
  (cN:∀w',(execOp a.eval o).run C.P w'= .ok (.value v) w') (hr:Qj C ρ hp w p v) (hK:K (ae fr d p) hp):Qz C ρ o a w K:=
 ⟨v,cN,ae fr d p,hp,by rw[hd];exact h.ae hr aA,hK⟩
def kj{d:TypeDesc}(h:P.underlying t=some d)(w:World):(underlying t).run P w= .ok d w:=run_underlying h w
def nB{n:Nat}(h:fw P t=some n)(w:World):(sizeOf t).run P w= .ok n w:=by simp only[fw,Kaa]at h;obtain⟨i,hi,rfl⟩:=h;simp[sizeOf,typeInfo,hi]
def CP(h:ot P t=some ag)(w:World):(isAgg t).run P w= .ok ag w:=by simp only[ot,Kaa]at h;obtain⟨d,hd,rfl⟩:=h;simp only[isAgg,Kau,kj hd,Kan];cases d<;>rfl
def UR(hu:P.underlying T=some .bool)(n m:Bool)(w:World):(Op.equal T (.bool n) (.bool m)).run P w= .ok (n==m) w:=by show(Op.equalIn (9999+1) T (.bool n) (.bool m)).run P w=_;unfold Op.equalIn;rw[Kau,kj hu,Kan];rfl
def Q4l(hu:P.underlying T=some .bool)(n m:Bool)(w:World):(binOp .eql T (.bool n) (.bool m)).run P w= .ok (.bool (n==m)) w:=by show(do pure (Value.bool (<-Op.equal T (.bool n) (.bool m))):Sem Value).run P w=_;rw[Kau,UR hu,Kan];rfl
def Q4m(hu:P.underlying T=some .bool)(n m:Bool)(w:World):(binOp .neq T (.bool n) (.bool m)).run P w= .ok (.bool (!(n==m))) w:=by show(do pure (Value.bool (!(<-Op.equal T (.bool n) (.bool m)))):Sem Value).run P w=_;rw[Kau,UR hu,Kan];rfl
def qd(ho:o.op= .binOp op T x y T2){vx vy:Value}(ex:a.eval x=vx)(ey:a.eval y=vy)
  (hg:∀w,(eqGuard op T x y vx vy).run C.P w= .ok () w) (hr:∀w,(binOp op T vx vy).run C.P w= .ok v w):∀w,(execOp a.eval o).run C.P w= .ok (.value v) w:=by
 intro w;unfold execOp;simp only[ho,ex,ey,Kau,hg,hr,Kan];rfl
def agv{d:Nat}(ho:o.op= .binOp op T x y T2)(hd:o.dst=some d)(aA:d<C.N)(h:Qt C ρ fr hp a.tmps w)
    (hx:Qj C ρ hp w px (a.eval x)) (hy:Qj C ρ hp w py (a.eval y)) {bt:Bool} (dX:bt=true->C.P.underlying T=some .bool)
    (hv:cJ op bt px py d fr hp K):Qz C ρ o a w K:=by
  unfold cJ at hv;split at hv
  . rename_i k n k' m
    have ex:=hx.mG;have ey:=hy.mG;have iT:∀w',(eqGuard op T x y (.int k n) (.int k' m)).run C.P w'= .ok () w':=by intro w';unfold eqGuard;cases op<;>rfl
    split at hv
    . obtain⟨h0,hv⟩:=hv
      have Nn:¬m<0:=Oz;exact Qz.mk hd aA h (qd ho ex ey iT (λw'=>by simp[binOp,Op.shift,Nn])) (Qj.mkInt _ _) hv
    . obtain⟨h0,hv⟩:=hv
      have Nn:¬m<0:=Oz;exact Qz.mk hd aA h (qd ho ex ey iT (λw'=>by simp[binOp,Op.shift,Nn])) (Qj.mkInt _ _) hv
    all_goals first
      |exact hv.elim
      | (obtain⟨rfl,h0,hv⟩:=hv
         exact Qz.mk hd aA h (qd ho ex ey iT (λw'=>by simp[binOp,Op.intDiv,h0])) (Qj.mkInt _ _) hv)
      | (obtain⟨rfl,hv⟩:=hv
         exact Qz.mk hd aA h (qd ho ex ey iT (λw'=>by simp[binOp,Op.intArith,Op.intBits])) (Qj.mkInt _ _) hv)
      | (obtain⟨rfl,hv⟩:=hv
         refine Qz.mk hd aA h (qd ho ex ey iT ?_) (Qj.uU _) hv;intro w';simp[binOp,Op.intCmp]<;>rfl)
  . rename_i n m
    have ex:=hx.BF;have ey:=hy.BF;have iT:∀w',(eqGuard op T x y (.bool n) (.bool m)).run C.P w'= .ok () w':=by intro w';unfold eqGuard;cases op<;>rfl
    split at hv
    . obtain⟨hb,hv⟩:=hv
      exact Qz.mk hd aA h (qd ho ex ey iT (Q4l (dX hb) n m)) (Qj.uU _) hv
    . obtain⟨hb,hv⟩:=hv
      exact Qz.mk hd aA h (qd ho ex ey iT (Q4m (dX hb) n m)) (Qj.uU _) hv
    . exact hv.elim
  . exact hv.elim
def Qj.aaF{e:Nat}{xs:List PV}(h:Qj C ρ hp w (.sl e xs) v):∃ad cap,v= .slice ad xs.length cap/\xs.length<=cap/\cap<=maxLen:=by
 cases h with
 |ma _ ad cap hc=>exact⟨ad,cap,rfl,KbK _,hc⟩
 |sl _ _ b off cap vs hX hb hl hc=>exact⟨_,cap,rfl,hl,hc⟩
def Qj.OU{O o n:Nat}(h:Qj C ρ hp w (.aD O o n) v):∃ad cap,v= .slice ad n cap:=by
 obtain⟨hb,_,_,⟨_,rfl,rfl,rfl⟩|⟨b,cap,_,rfl,_⟩⟩:=h
 .exact⟨_,_,rfl⟩
 .exact⟨_,_,rfl⟩
def Qj.ayt{γ o n:Nat}(h:Qj C ρ hp w (.aK γ o n) v):∃ad cap,v= .slice ad n cap:=by obtain⟨_,hb,b,cap,_,_,rfl,_⟩:=h;exact⟨_,_,rfl⟩
def Qj.Fq{γ i o:Nat}(h:Qj C ρ hp w (.np γ i o) v):bN γ=true/\∃b hb,ρ γ=some b/\hp γ=some hb/\v= .pointer (some ⟨b,i*hb.e+o,none⟩):=h
def Qj.ofS(h:dx C ρ hp w p v):Qj C ρ hp w p v:=by
 cases p with
 |undef=>trivial
 |aD O o n=>exact h.2
 |aK γ o n=>exact h
 |_=>exact Qj.n7 (bS.tC h)
def dx.toC(h:dx C ρ hp w p v)(hr:p.kC=false):Qn w (aM C ρ hp) p v:=by
 cases p with
 |undef=>cases hr
 |aD=>cases hr
 |aK=>cases hr
 |_=>exact h
def dx.ofC(h:Qn w (aM C ρ hp) p v):dx C ρ hp w p v:=by
 cases p with
 |aD=>cases h
 |aK=>cases h
 |undef=>trivial
 |_=>exact h
def dx.uV{p:PV}{v:Value}(h:dx C ρ hp w p v)(hu:p≠ .undef):v.oneCell'=true/\v.cells= #[v]:=by
 cases p with
 |undef=>exact absurd rfl hu
 |aD O o n=>obtain⟨_,hb,_,_,⟨_,rfl,_⟩|⟨b,cap,_,rfl,_⟩⟩:=h<;>exact⟨rfl,rfl⟩
 |aK γ o n=>obtain⟨_,hb,b,cap,_,_,rfl,_⟩:=h;exact⟨rfl,rfl⟩
 |_=>exact⟨(Qn.uV h).1,(Qn.uV h).2.1⟩
def Q74(cs:List PV):(lR cs).aV=cs:=by unfold lR;split<;>rfl
def agw(hs:vs.size=cs.length)(h:∀(i:Nat)(x:PV),cs[i]? =some x->dx C ρ hp w x (vs.getD i undef)):Qj C ρ hp w (lR cs) (.agg vs):=by
 unfold lR;split
 .exact⟨vs,rfl,hs,h⟩
 .rename_i hn;refine⟨vs,rfl,hs,λi x hi=>(h i x hi).toC ?_⟩;have hm:=Kaj hi;cases hq:x.kC with
  |false=>rfl
  |true=>exact absurd (KaJ.2 ⟨x,hm,hq⟩) hn
def MT{n off:Nat}{x:PV}(hs:vs.size=n)(hle:off+n<=x.aV.length)(h1:ag=false->n=1)
  (hr:∀j y,j<n->x.aV[off+j]? =some y->dx C ρ hp w y (vs.getD j undef)):Qj C ρ hp w (tx ag n off x) (if ag then .agg vs else vs.getD 0 undef):=by
 cases ag with
 | true=>
  refine agw (by simp[hs];omega) (λi y hy=>?_);have hi:i<n:=by have:=(Kah.1 hy).1;simp at this;omega
  rw[KaM hi,Ka1]at hy;exact hr i y hi hy
 | false=>
  have hn:=h1 rfl;subst hn;have aA:off<x.aV.length:=Oz;have e:x.aV[off+0]? =some (x.aV[off]):=by simp[Kae aA]
  have:=hr 0 _ Oz e;simp only[tx,Kbk,if_false];have e2:(x.aV.drop off).headD .undef=x.aV[off]:=by rw[KbI,Kcs,Kae aA];rfl
  rw[e2];exact Qj.ofS this
def F6{b:Builtin}{args:Array Operand}(ho:o.op= .call { callee:=.builtin b,args:=args,argTypes:=ts })
  (hr:∀w,(builtin b ts o.type (args.map λ| .const _=>true|_=>false) (args.map a.eval)).run C.P w= .ok (.value v) w):∀w,(execOp a.eval o).run C.P w= .ok (.value v) w:=by
 intro w;unfold execOp;simp only[ho,resolve,Kau,KaY,Kan,invoke];exact hr w
def agx{d:Nat}(ho:o.op= .call { callee:=.builtin .len,args:= #[x],argTypes:= #[t] })(hd:o.dst=some d)(aA:d<C.N)(h:Qt C ρ fr hp a.tmps w)
  (hx:Qj C ρ hp w px (a.eval x))  (he:C.P.underlying t=some (.slice e)) (hv:rG px d fr hp K):Qz C ρ o a w K:=by
 have key:∀ad n cap,a.eval x= .slice ad n cap->K (ae fr d (.int .i64 n)) hp->Qz C ρ o a w K:=λad n cap ex hK=>
  Qz.mk hd aA h (F6 ho (λw'=>by simp[builtin,Builtin.len_,ex,Kau,kj he,goInt])) (Qj.mkInt _ _) hK
 unfold rG at hv;split at hv
 .exact key _ _ _ hx.yf hv
 .obtain⟨ad,cap,ex,_⟩:=hx.aaF;exact key _ _ _ ex hv
 .obtain⟨ad,cap,ex⟩:=hx.OU;exact key _ _ _ ex hv
 .obtain⟨ad,cap,ex⟩:=hx.ayt;exact key _ _ _ ex hv
 .exact hv.elim
def Qj.JQ{s:ByteArray}(h:Qj C ρ hp w (.str s) v):v= .string s:=by cases h;rfl
def QS(h:Bu P t=true):P.underlying t=some .string:=by
 unfold Bu at h;split at h
 .assumption
 .cases h
def agy{d:Nat}(ho:o.op= .call { callee:=.builtin .len,args:= #[x],argTypes:= #[t] })(hd:o.dst=some d)(aA:d<C.N)(h:Qt C ρ fr hp a.tmps w)
  (hx:Qj C ρ hp w px (a.eval x)) (hs:Bu C.P t=true) (hv:y9 px d fr hp K):Qz C ρ o a w K:=by
 have hu:=QS hs;unfold y9 at hv;split at hv
 .rename_i s;have ex:=hx.JQ;exact Qz.mk hd aA h (F6 ho (λw'=>by simp[builtin,Builtin.len_,ex,Kau,kj hu,goInt])) (Qj.mkInt _ _) hv
 .exact hv.elim
def Q75(hu:P.underlying T=some .string)(n m:ByteArray)(w:World):(binOp .eql T (.string n) (.string m)).run P w= .ok (.bool (n==m)) w:=by simp[binOp,Op.stringOp,beq_toListBytes]
def Q76(hu:P.underlying T=some .string)(n m:ByteArray)(w:World):(binOp .neq T (.string n) (.string m)).run P w= .ok (.bool (!(n==m))) w:=by simp[binOp,Op.stringOp,bne,beq_toListBytes]
def Pk(x y:ByteArray):(x==y)=decide (x=y):=by
 by_cases h:x=y
 .subst h;rw[decide_eq_true rfl];show(x.data==x.data)=true;simp
 .rw[decide_eq_false h];have h':x.data≠y.data:=λe=>h (by cases x;cases y;simp_all)
  show(x.data==y.data)=false;simpa using h'
def UN(h:P.underlying T=some (.slice e))(d:Nat)(a:Option Addr)(l c:Nat)(w:World):(Op.equalIn (d+1) T (.slice a l c) (.slice none 0 0)).run P w= .ok a.isNone w:=by cases a<;>simp[Op.equalIn,run_underlying h]
def Q77(h:P.underlying T=some (.slice e))(a:Option Addr)(l c:Nat)(w:World):(binOp .eql T (.slice a l c) (.slice none 0 0)).run P w= .ok (.bool a.isNone) w:=by simp only[binOp];simp[Op.equal,Op.maxDepth,UN h 9999 a l c w]
def Q78(h:P.underlying T=some (.slice e))(a:Option Addr)(l c:Nat)(w:World):(binOp .neq T (.slice a l c) (.slice none 0 0)).run P w= .ok (.bool (!a.isNone)) w:=by simp only[binOp];simp[Op.equal,Op.maxDepth,UN h 9999 a l c w]
def ale(h:JL P T=true):∃e,P.underlying T=some (.slice e):=by
 unfold JL sI at h;split at h
 .rename_i e he;exact⟨e,he⟩
 .cases h
def agz{d:Nat}(ho:o.op= .binOp op T x y T2)(hop:Bt op=some ng)(hs:Bu C.P T=true)(hd:o.dst=some d)(aA:d<C.N)(h:Qt C ρ fr hp a.tmps w)
  (hx:Qj C ρ hp w px (a.eval x)) (hy:Qj C ρ hp w py (a.eval y)) (hv:ud ng px py d fr hp K):Qz C ρ o a w K:=by
 have hu:=QS hs;unfold ud at hv;split at hv
 .rename_i n m;have ex:=hx.JQ;have ey:=hy.JQ;have iT:∀w',(eqGuard op T x y (.string n) (.string m)).run C.P w'= .ok () w':=by intro w';unfold eqGuard;cases op<;>rfl
  cases op<;>first|(cases hop;done)|skip
  .cases hop;exact Qz.mk hd aA h (qd ho ex ey iT (Q75 hu n m)) (Qj.uU _) (by rw[Pk];simpa using hv)
  .cases hop;exact Qz.mk hd aA h (qd ho ex ey iT (Q76 hu n m)) (Qj.uU _) (by rw[Pk];simpa using hv)
 .exact hv.elim
def agA{q:aW}(ho:cl y=some q)(h:To q=true):a.eval y= .slice none 0 0:=by
 cases y with
 |tmp t=>simp[cl]at ho;subst ho;cases h
 | const v=>
  simp only[cl,Kaa]at ho;obtain⟨p,hp',rfl⟩:=ho;cases p<;>first|(cases h;done)|skip
  show v=_;unfold tT at hp';split at hp'
  .simp at hp'
  .unfold AE at hp';split at hp'<;>first|rfl|cases hp'
 |global g=>simp[cl]at ho
 |func f=>simp[cl]at ho;subst ho;cases h
def agB{d:Nat}(ho:o.op= .binOp op T x y T2)(hop:Bt op=some ng)(hs:JL C.P T=true)(ey:a.eval y= .slice none 0 0)(hd:o.dst=some d)(aA:d<C.N)(h:Qt C ρ fr hp a.tmps w)
  (hx:Qj C ρ hp w px (a.eval x)) (hv:ue ng px d fr hp K):Qz C ρ o a w K:=by
 obtain⟨e,hu⟩:=ale hs;have key:∀(ad:Option Addr)(l c:Nat),a.eval x= .slice ad l c->K (ae fr d (.bool (ng !=ad.isNone))) hp->Qz C ρ o a w K:=λad l c ex hv=>by
  have iT:∀w',(eqGuard op T x y (.slice ad l c) (.slice none 0 0)).run C.P w'= .ok () w':=by intro w';unfold eqGuard;cases op<;>rfl
  cases op<;>first|(cases hop;done)|skip
  .cases hop;exact Qz.mk hd aA h (qd ho ex ey iT (Q77 hu ad l c)) (Qj.uU _) (by simpa using hv)
  .cases hop;exact Qz.mk hd aA h (qd ho ex ey iT (Q78 hu ad l c)) (Qj.uU _) (by simpa using hv)
 unfold ue at hv;split at hv
 .exact key none 0 0 hx.yf (by simpa using hv)
 .rename_i e' xs;obtain⟨v,r9⟩:∃v,v=a.eval x:=⟨_,rfl⟩
  have bc:Qn w (aM C ρ hp) (.sl e' xs) v:=by rw[r9];exact hx
  cases bc with
  |ma _ ad cap hc=>
   refine key ad 0 cap r9.symm ?_;cases ad with
   |none=>simpa using hv.1 rfl
   |some ad=>simpa using hv.2
  |sl _ _ b off cap vs _ _ _ _ _ _ _=>exact key (some ⟨b,off,none⟩) xs.length cap r9.symm (by simpa using hv.2)
 .exact hv.elim
def aiz{d:Nat}(ho:o.op= .call { callee:=.builtin .max,args:= #[x,y],argTypes:=ts })(hd:o.dst=some d)(aA:d<C.N)(h:Qt C ρ fr hp a.tmps w)
  (hx:Qj C ρ hp w px (a.eval x)) (hy:Qj C ρ hp w py (a.eval y)) (hv:z7 px py d fr hp K):Qz C ρ o a w K:=by
 unfold z7 at hv;split at hv
 .rename_i k n k' m;have ex:=hx.mG;have ey:=hy.mG;refine Qz.mk hd aA h (F6 ho (λw'=>?_)) (Qj.mkInt _ _) hv;have e:(if m>n then m else n)=max n m:=Oz;simp[builtin,Builtin.max_,ex,ey,Builtin.max2,e]
 .exact hv.elim
def aiA{d:Nat}(ho:o.op= .call { callee:=.builtin .min,args:= #[x,y],argTypes:=ts })(hd:o.dst=some d)(aA:d<C.N)(h:Qt C ρ fr hp a.tmps w)
  (hx:Qj C ρ hp w px (a.eval x)) (hy:Qj C ρ hp w py (a.eval y)) (hv:z5 px py d fr hp K):Qz C ρ o a w K:=by
 unfold z5 at hv;split at hv
 .rename_i k n k' m;have ex:=hx.mG;have ey:=hy.mG;refine Qz.mk hd aA h (F6 ho (λw'=>?_)) (Qj.mkInt _ _) hv;have e:(if m<n then m else n)=min n m:=Oz;simp[builtin,Builtin.min_,ex,ey,Builtin.min2,e]
 .exact hv.elim
def aiB{op:UnOp}{d:Nat}(ho:o.op= .unOp op T x)(hd:o.dst=some d)(aA:d<C.N)(h:Qt C ρ fr hp a.tmps w)
  (hx:Qj C ρ hp w px (a.eval x)) (hv:yo op px d fr hp K):Qz C ρ o a w K:=by
 unfold yo at hv;split at hv
 .have ex:=hx.BF;refine Qz.mk hd aA h (λw'=>?_) (Qj.uU _) hv;unfold execOp;simp only[ho,ex];rfl
 .have ex:=hx.mG;refine Qz.mk hd aA h (λw'=>?_) (Qj.mkInt _ _) hv;unfold execOp;simp only[ho,ex];rfl
 .exact hv.elim
def afd{S:TypeId}{d:Nat}{ds:TypeDesc}(ho:o.op= .convert S T x)(hd:o.dst=some d)(aA:d<C.N)(h:Qt C ρ fr hp a.tmps w)
  (hS:C.P.underlying S=some ds) (hT:C.P.underlying T=some (.int k)) (hx:Qj C ρ hp w px (a.eval x)) (hv:yQ k px d fr hp K):Qz C ρ o a w K:=by
 unfold yQ at hv;split at hv
 .have ex:=hx.mG;refine Qz.mk hd aA h (λw'=>?_) (Qj.mkInt _ _) hv;unfold execOp;simp only[ho,ex,Kau,convert,kj hS,kj hT,Kan];rfl
 .exact hv.elim
def agC{i:Nat}{d:Nat}(ho:o.op= .extract x i)(hd:o.dst=some d)(aA:d<C.N)(h:Qt C ρ fr hp a.tmps w)
  (hx:Qj C ρ hp w px (a.eval x)) (hv:ou px i d fr hp K):Qz C ρ o a w K:=by
 unfold ou at hv;split at hv
 .rename_i ps;split at hv
  .rename_i p iI;obtain⟨fm,hv⟩:=hv;obtain⟨vs,ex,h1,h2⟩:=hx;have hi:i<vs.size:=by rw[h1];exact(Kah.1 iI).1
   have hr:=h2 i p iI;have hg:vs.getD i undef=vs[i]:=by simp[Array.getD,hi]
   rw[hg]at hr;refine Qz.mk hd aA h (λw'=>?_) (Qj.n7 hr) hv;unfold execOp;simp only[ho,ex,Kau,Instr.extract,Kbu hi];rfl
  .exact hv.elim
 .rename_i ps;split at hv
  .rename_i p iI;obtain⟨vs,ex,h1,h2⟩:=hx;have hi:i<vs.size:=by rw[h1];exact(Kah.1 iI).1
   have hr:=h2 i p iI;have hg:vs.getD i undef=vs[i]:=by simp[Array.getD,hi]
   rw[hg]at hr;refine Qz.mk hd aA h (λw'=>?_) (Qj.ofS hr) hv;unfold execOp;simp only[ho,ex,Kau,Instr.extract,Kbu hi];rfl
  .exact hv.elim
 .rename_i cs q;obtain⟨vs,u,ex,h1,h2,h3⟩:=hx;split at hv
  .refine Qz.mk (p:=.aU cs) (v:=.agg vs) hd aA h (λw'=>?_) ⟨vs,rfl,h1,h2⟩ hv;unfold execOp;simp only[ho,ex,Kau,Instr.extract];rfl
  .refine Qz.mk (v:=u) hd aA h (λw'=>?_) (Qj.n7 h3) hv;unfold execOp;simp only[ho,ex,Kau,Instr.extract];rfl
  .exact hv.elim
 .exact hv.elim
def QT{d:Nat}(ho:o.op= .move x\/o.op= .assign x)(hd:o.dst=some d)(aA:d<C.N)(h:Qt C ρ fr hp a.tmps w)
  (hx:Qj C ρ hp w px (a.eval x)) (hv:K (ae fr d px) hp):Qz C ρ o a w K:=by
 refine Qz.mk hd aA h (λw'=>?_) hx hv;rcases ho with ho|ho<;>(unfold execOp;simp only[ho];rfl)
def afe{c:Operand}{pc:PV}{d:Nat}(ho:o.op= .pick c x y)(hd:o.dst=some d)(aA:d<C.N)(h:Qt C ρ fr hp a.tmps w)
  (hc:Qj C ρ hp w pc (a.eval c)) (hx:Qj C ρ hp w px (a.eval x)) (hy:Qj C ρ hp w py (a.eval y))
  (hv:vB pc px py d fr hp K):Qz C ρ o a w K:=by
 obtain⟨t,rfl,hv⟩:∃t,pc= .bool t/\((t=true->K (ae fr d px) hp)/\(t=false->K (ae fr d py) hp)):=by
  cases pc with
  |bool t=>exact⟨t,rfl,hv⟩
  |_=>exact hv.elim
 have ec:=hc.BF;cases t with
 |true=>refine Qz.mk hd aA h (λw'=>?_) hx (hv.1 rfl);unfold execOp;simp only[ho,ec];rfl
 |false=>refine Qz.mk hd aA h (λw'=>?_) hy (hv.2 rfl);unfold execOp;simp only[ho,ec];rfl
def FY{k0:IntKind}(hu:P.underlying T=some (.int k0))(d:Nat)(k:IntKind)(n m:Int)(w:World):(Op.equalIn (d+1) T (.int k n) (.int k m)).run P w= .ok (n==m) w:=by unfold Op.equalIn;rw[Kau,kj hu,Kan];simp
def CR{cs:Array Value}{off:Nat}(ha:ot P t=some false)(hv:cs[off]? =some v)(w:World):(part t cs off).run P w= .ok v w:=by unfold part;rw[Kau,CP ha,Kan];simp[hv]
def Q4p   {f g : Field} (hu : P.underlying T = some (.struct #[f, g])) (h1 : f.name ≠ "_") (h2 : g.name ≠ "_") (o1 : f.offset = 0) (o2 : g.offset = 1) {k1 k2 : IntKind} (t1 : P.underlying f.type = some (.int k1)) (t2 : P.underlying g.type = some (.int k2))
  (hs:P.stoodInHeld T=false) (k l:IntKind) (x y x' y':Int) (w:World):(Op.equal T (.agg #[.int k x,.int l y]) (.agg #[.int k x',.int l y'])).run P w= .ok (x==x'&&y==y') w:=by
 have a1:ot P f.type=some false:=by simp[ot,t1]
 have a2:ot P g.type=some false:=by simp[ot,t2]
 show(Op.equalIn (9998+1+1) T _ _).run P w=_;rw[Op.equalIn];rw[Kau,kj hu,Kan];have hp:Sem.run P program w= .ok P w:=rfl;rw[Kau,hp,Kan,hs];simp only[Kbk,if_false];rw[<-Array.forIn_toList];simp only[List.forIn_cons,List.forIn_nil,Kau,o1,o2,h1,h2,ne_eq,not_false_eq_true,if_true,CR a1 (show(#[Value.int k x,Value.int l y])[0]? =some _ from rfl),CR a1 (show(#[Value.int k x',Value.int l y'])[0]? =some _ from rfl),
  CR a2 (show(#[Value.int k x,Value.int l y])[1]? =some _ from rfl),CR a2 (show(#[Value.int k x',Value.int l y'])[1]? =some _ from rfl),FY t1,FY t2,Kan]
 have q1:∀n m w,(Op.equalIn 9999 f.type (.int k n) (.int k m)).run P w= .ok (n==m) w:=λn m w=>FY t1 9998 k n m w
 have q2:∀n m w,(Op.equalIn 9999 g.type (.int l n) (.int l m)).run P w= .ok (n==m) w:=λn m w=>FY t2 9998 l n m w
 have p2:∀u v w,(part g.type #[u,v] 1).run P w= .ok v w:=λu v w=>CR a2 (show(#[u,v])[1]? =some _ from rfl) w
 by_cases e1:x=x'<;>by_cases e2:y=y'<;>simp[e1,e2,q1,q2,p2]
def aiC{Y:Array Value}(h:∀w,(Op.equal T (.agg X) (.agg Y)).run P w= .ok b w)(w:World):(binOp .eql T (.agg X) (.agg Y)).run P w= .ok (.bool b) w:=by show(do pure (Value.bool (<-Op.equal T (.agg X) (.agg Y))):Sem Value).run P w=_;rw[Kau,h,Kan];rfl
def aiD{Y:Array Value}(h:∀w,(Op.equal T (.agg X) (.agg Y)).run P w= .ok b w)(w:World):(binOp .neq T (.agg X) (.agg Y)).run P w= .ok (.bool !b) w:=by show(do pure (Value.bool (!(<-Op.equal T (.agg X) (.agg Y)))):Sem Value).run P w=_;rw[Kau,h,Kan];rfl
def V'     {Y:Array Value} (h:P.eqGuardType P.depth T=false) (w:World):(eqGuard op T x y (.agg X) (.agg Y)).run P w= .ok () w:=by
  have hp:Sem.run P program w= .ok P w:=rfl
  have hg : (do if !(<-program).eqGuardType (<-program).depth T then return
                if <- Op.eqGuardIn Op.maxDepth T (.agg X) (.agg Y) then unsupported (.noEntry "binop/eql: two nil values of an interface type with methods, in a part of a struct or an array") : Sem Unit).run P w = .ok () w := by
    rw[Kau,hp,Kan,Kau,hp,Kan,h];rfl
  cases op<;>first|rfl|exact hg
def apV   (h : JK P T = true) : ∃ f g k1 k2, P.underlying T = some (.struct #[f, g]) /\ f.name ≠ "_" /\ g.name ≠ "_" /\ f.offset = 0 /\ g.offset = 1 /\ P.underlying f.type = some (.int k1) /\ P.underlying g.type = some (.int k2) /\ P.stoodInHeld T = false /\ P.eqGuardType P.depth T = false := by
 unfold JK at h;split at h
 .rename_i fs hu;split at h
  .rename_i f g qK;simp only[Kav,bne_iff_ne,ne_eq,beq_iff_eq,Bool.not_eq_true']at h;obtain⟨⟨⟨⟨⟨⟨⟨h1,h2⟩,h3⟩,h4⟩,h5⟩,h6⟩,h7⟩,h8⟩:=h;have:fs= #[f,g]:=by rw[<-Array.toArray_toList (xs:=fs),qK]
   subst this;cases u1:P.underlying f.type with
   |none=>rw[u1]at h5;cases h5
   | some t1=>cases u2:P.underlying g.type with
    |none=>rw[u2]at h6;cases h6
    |some t2=>
     rw[u1]at h5;rw[u2]at h6;cases t1<;>first|(cases h5;done)|skip
     cases t2<;>first|(cases h6;done)|skip
     exact⟨f,g,_,_,hu,h1,h2,h3,h4,u1,u2,h7,h8⟩
  .cases h
 .cases h
def QU{q:PV}(lz:cs=[p,q])(h:Qj C ρ hp w (.agg cs) v):∃x y,v= .agg #[x,y]/\Qn w (aM C ρ hp) p x/\Qn w (aM C ρ hp) q y:=by
 subst lz;obtain⟨vs,rfl,h1,h2⟩:=h;have hs:vs.size=2:=h1;refine⟨vs.getD 0 undef,vs.getD 1 undef,?_,h2 0 p rfl,h2 1 q rfl⟩;congr 1;apply Array.ext
 .simp[hs]
 .intro i hi au;have:i=0\/i=1:=by simp at au;omega
  rcases this with rfl|rfl<;>simp[Array.getD,hs]
def agD{d:Nat}(ho:o.op= .binOp op T x y T2)(hop:Bt op=some ng)(dA:JK C.P T=true)(hd:o.dst=some d)(aA:d<C.N)(h:Qt C ρ fr hp a.tmps w)
  (hx:Qj C ρ hp w px (a.eval x)) (hy:Qj C ρ hp w py (a.eval y)) (hv:uc ng px py d fr hp K):Qz C ρ o a w K:=by
 obtain⟨f,g,k1,k2,hu,h1,h2,h3,h4,u1,u2,h7,h8⟩:=apV dA;unfold uc at hv;split at hv
 .rename_i k n l m k' n' l' m';obtain⟨rfl,rfl,hv⟩:=hv;obtain⟨a1,b1,ex,r1,r2⟩:=QU rfl hx;obtain⟨a2,b2,ey,r3,r4⟩:=QU rfl hy;cases r1;cases r2;cases r3;cases r4;have heq:∀w,(Op.equal T (.agg #[.int k n,.int l m]) (.agg #[.int k n',.int l m'])).run C.P w= .ok (n==n'&&m==m') w:=λw=>Q4p hu h1 h2 h3 h4 u1 u2 h7 k l n m n' m' w
  have e:(n==n'&&m==m')=(decide (n=n')&&decide (m=m')):=rfl;rw[e]at heq;cases op<;>first|(cases hop;done)|skip
  .cases hop;exact Qz.mk hd aA h (qd ho ex ey (V' h8) (aiC heq)) (Qj.uU _) (by simpa using hv)
  .cases hop;exact Qz.mk hd aA h (qd ho ex ey (V' h8) (aiD heq)) (Qj.uU _) (by simpa using hv)
 .exact hv.elim
end Go.FW
namespace Go.FW
open Go
variable {C : Ctx} {ρ : Nat -> Option Nat} {fr : Fr} {hp : HP} {w : World} {a : Act} {K : Qf}
variable{P:Program}{ad:Addr}{ag:Bool}{cs:List PV}{e t:TypeId}{f:Field}{fs:Array Field}{hb:HB}{i:Int}{k:IntKind}{o:Oper}{pi px:PV}{v:Value}{vs:Array Value}{x:Operand}
def Q79{l:List PV}{n:Nat}(h:n<l.length):l[n]? =some (l[n]'h):=Kae h
def Lh{n:Nat}{len cap:Nat}(hu:P.underlying t=some (.slice e))(hn:fw P e=some n)(h0:0<=i)(h1:i<len)(w:World):
  (Instr.indexAt t (.slice (some ad) len cap) (.int k i)).run P w= .ok (.pointer (some (ad.add (i.toNat*n)))) w:=by
 have h2:0<=i/\i<len:=⟨h0,h1⟩
 unfold Instr.indexAt;simp only[asIntOf,Kau,KaY,Kan,kj hu,if_pos h2,nB hn]
def UO{n len:Nat}(hu:P.underlying t=some (.array len e))(hn:fw P e=some n)(h0:0<=i)(h1:i<len)(w:World):
  (Instr.indexAt t (.pointer (some ad)) (.int k i)).run P w= .ok (.pointer (some (ad.add (i.toNat*n)))) w:=by
 have h2:0<=i/\i<len:=⟨h0,h1⟩
 unfold Instr.indexAt;simp only[asIntOf,Kau,KaY,Kan,kj hu,Instr.sureAddr,if_pos h2,nB hn]
def Qj.B6{O i o:Nat}(h:Qj C ρ hp w (.mp O i o) v):∃b hb,ρ O=some b/\hp O=some hb/\v= .pointer (some ⟨b,i*hb.e+o,none⟩):=h
def Qj.OT{O i o b:Nat}(h1:ρ O=some b)(h2:hp O=some hb):Qj C ρ hp w (.mp O i o) (.pointer (some ⟨b,i*hb.e+o,none⟩)):=⟨b,hb,h1,h2,rfl⟩
def agE{n:Nat}{i:Operand}{d:Nat}(ho:o.op= .indexAddr t x i)(hd:o.dst=some d)(aA:d<C.N)(h:Qt C ρ fr hp a.tmps w)
  (hu:C.P.underlying t=some (.slice e)) (hn:fw C.P e=some n) (hx:Qj C ρ hp w px (a.eval x)) (hi:Qj C ρ hp w pi (a.eval i)) (hv:ej n px pi d fr hp K):Qz C ρ o a w K:=by
 unfold ej at hv;split at hv
 .rename_i e' xs k m;obtain⟨rfl,h0,h1,hK⟩:=hv;have ei:=hi.mG;have hlen:m<xs.length:=Oz;generalize ev:a.eval x=vx at hx;cases hx with
  |ma=>simp at h1
  |sl _ _ b off cap vs hX hb hl hc he qV hr=>
   have pN:=Q79 h1;have ff:=he _ _ pN;refine Qz.mk hd aA h (v:=.pointer (some ⟨b,off+m.toNat*n,none⟩)) (λw'=>?_) ?_ hK
   .unfold execOp;simp only[ho,ei,ev,Kau,Lh hu hn h0 hlen,Kan,KbS];rfl
   .exact Qn.pt _ b _ (vs m.toNat) hX hb (λj hj=>qV m.toNat h1 j Oz) (λj y hy=>hr m.toNat _ pN j y hy)
 .rename_i O o' m k n';obtain⟨h0,h1,h2,hK⟩:=hv;have ei:=hi.mG;obtain⟨hb,g1,g2,⟨g3,_,g5,_⟩|⟨b,cap,g3,g4,g5,g6⟩⟩:=hx
  .omega
  .rw[g1]at h2;simp only[KbZ,KaG]at h2;subst h2;have hm:n'<m:=Oz;refine Qz.mk hd aA h (λw'=>?_) (Qj.OT g3 g1) hK;unfold execOp;simp only[ho,ei,g4,Kau,Lh hu hn h0 hm,Kan,KbS,KaW,KaL];rfl
 .rename_i γ o' m k n';obtain⟨h0,h1,h2,hK⟩:=hv;have ei:=hi.mG;obtain⟨hB,hb,b,cap,g1,g3,g4,g5,g6,g7⟩:=hx;rw[g1]at h2;simp only[KbZ,KaG]at h2;subst h2;have hm:n'<m:=Oz;refine Qz.mk hd aA h (p:=.np γ (o'+n'.toNat) 0) (λw'=>?_) (show dy C ρ hp w (.np γ (o'+n'.toNat) 0) _ from⟨hB,b,hb,g3,g1,rfl⟩) hK;unfold execOp;simp only[ho,ei,g4,Kau,Lh hu hn h0 hm,Kan,KbS,KaW,KaL];rfl
 .exact hv.elim
def Qn.aaC{X:Nat->Prop}{b off k:Nat}(h:Qn w X (.pt cs) (.pointer (some ⟨b,off,none⟩))):Qn w X (.pt (cs.drop k)) (.pointer (some ⟨b,off+k,none⟩)):=by
 cases h with
 |pt _ _ _ vs hX hb hv hr=>
  refine Qn.pt _ b _ (λj=>vs (k+j)) hX hb (λj hj=>?_) (λj y hy=>?_)
  .have:=hv (k+j) (by simp at hj;omega);rwa[<-Nat.add_assoc]at this
  .rw[Ka1]at hy;exact hr _ _ hy
def Qj.JG(h:Qj C ρ hp w (.pt cs) v):∃b off,v= .pointer (some ⟨b,off,none⟩)/\Qn w (aM C ρ hp) (.pt cs) (.pointer (some ⟨b,off,none⟩)):=by
 have h':Qn w (aM C ρ hp) (.pt cs) v:=h;cases h' with
 |pt _ b off vs hX hb hv hr=>exact⟨b,off,rfl,.pt _ b off vs hX hb hv hr⟩
def aff{n len:Nat}{i:Operand}{d:Nat}(ho:o.op= .indexAddr t x i)(hd:o.dst=some d)(aA:d<C.N)(h:Qt C ρ fr hp a.tmps w)
  (hu:C.P.underlying t=some (.array len e)) (hn:fw C.P e=some n) (hx:Qj C ρ hp w px (a.eval x)) (hi:Qj C ρ hp w pi (a.eval i)) (hv:rB len n px pi d fr hp K):Qz C ρ o a w K:=by
 unfold rB at hv;split at hv
 .rename_i O j o' k m;obtain⟨h0,h1,hK⟩:=hv;have ei:=hi.mG;obtain⟨b,hb,g1,g2,g3⟩:=hx.B6;refine Qz.mk hd aA h (λw'=>?_) (Qj.OT g1 g2) hK;unfold execOp;simp only[ho,ei,g3,Kau,UO hu hn h0 h1,Kan,KbS,Kb5];rfl
 .rename_i cs k m;obtain⟨h0,h1,h2,hK⟩:=hv;have ei:=hi.mG;obtain⟨b,off,ex,hp'⟩:=hx.JG;refine Qz.mk hd aA h (p:=.pt (cs.drop (m.toNat*n))) (v:=.pointer (some ⟨b,off+m.toNat*n,none⟩)) (λw'=>?_) hp'.aaC hK;unfold execOp;simp only[ho,ei,ex,Kau,UO hu hn h0 h1,Kan,KbS];rfl
 .exact hv.elim
def Lq{j:Nat}{n b off:Nat}(hu:P.underlying t=some (.struct fs))(hf:fs[j]? =some f)(hn:fw P f.type=some n)(h0:n≠0)(w:World):
  (Instr.fieldAt t (.pointer (some ⟨b,off,none⟩)) j).run P w= .ok (.pointer (some ⟨b,off+f.offset,none⟩)) w:=by
 unfold Instr.fieldAt;simp only[Kau,kj hu,Kan,hf,Instr.sureAddr,KaY,fieldPlace,nB hn,if_neg h0,KbS]
def agF{j n:Nat}{d:Nat}(ho:o.op= .fieldAddr t x j)(hd:o.dst=some d)(aA:d<C.N)(h:Qt C ρ fr hp a.tmps w)
  (hu:C.P.underlying t=some (.struct fs)) (hf:fs[j]? =some f) (hn:fw C.P f.type=some n) (lB:n≠0) (hx:Qj C ρ hp w px (a.eval x)) (hv:qp f.offset px d fr hp K):Qz C ρ o a w K:=by
 unfold qp at hv;split at hv
 .rename_i O i o';obtain⟨b,hb,g1,g2,g3⟩:=hx.B6;refine Qz.mk hd aA h (λw'=>?_) (Qj.OT g1 g2) hv;unfold execOp;simp only[ho,g3,Kau,Lq hu hf hn lB,Kan,Kb5];rfl
 .rename_i γ i o';obtain⟨hB,b,hb,g1,g2,g3⟩:=hx.Fq;refine Qz.mk hd aA h (p:=.np γ i (o'+f.offset)) (λw'=>?_) (show dy C ρ hp w (.np γ i (o'+f.offset)) _ from⟨hB,b,hb,g1,g2,rfl⟩) hv;unfold execOp;simp only[ho,g3,Kau,Lq hu hf hn lB,Kan,Kb5];rfl
 .rename_i cs;obtain⟨_,hK⟩:=hv;obtain⟨b,off,ex,hp'⟩:=hx.JG;refine Qz.mk hd aA h (p:=.pt (cs.drop f.offset)) (v:=.pointer (some ⟨b,off+f.offset,none⟩)) (λw'=>?_) hp'.aaC hK;unfold execOp;simp only[ho,ex,Kau,Lq hu hf hn lB,Kan];rfl
 .exact hv.elim
def Ao(vs:Array Value)(off n j:Nat)(hj:j<n)(h:off+n<=vs.size):(vs.extract off (off+n)).getD j undef=vs.getD (off+j) undef:=by
 have h1:j<(vs.extract off (off+n)).size:=by simp;omega
 have h2:off+j<vs.size:=Oz;simp only[KaS,Kbu h1,Kbu h2,Array.getElem_extract]
def Df{X:Nat->Prop}{n off:Nat}{x:PV}(hs:vs.size=n)(hle:off+n<=x.cells.length)(h1:ag=false->n=1)
  (hr:∀j y,j<n->x.cells[off+j]? =some y->Qn w X y (vs.getD j undef)):bS w X (fg ag n off x) (if ag then .agg vs else vs.getD 0 undef):=by
 cases ag with
 | true=>
  refine⟨vs,rfl,by simp[hs];omega,λi y hy=>?_⟩;have hi:i<n:=by have:=(Kah.1 hy).1;simp at this;omega
  rw[KaM hi,Ka1]at hy;exact hr i y hi hy
 | false=>
  have hn:=h1 rfl;subst hn;have aA:off<x.cells.length:=Oz;have e:x.cells[off+0]? =some (x.cells[off]):=by simp[Kae aA]
  have:=hr 0 _ Oz e;simp only[fg,Kbk,if_false];have e2:(x.cells.drop off).headD .undef=x.cells[off]:=by rw[KbI,Kcs,Kae aA];rfl
  rw[e2];exact bS.tC this
def afg{j n:Nat}{d:Nat}(ho:o.op= .field t x j)(hd:o.dst=some d)(aA:d<C.N)(h:Qt C ρ fr hp a.tmps w)
  (hu:C.P.underlying t=some (.struct fs)) (hf:fs[j]? =some f) (hn:fw C.P f.type=some n) (lv:ot C.P f.type=some ag) (hx:Qj C ρ hp w px (a.eval x)) (hv:tW f.offset n ag px d fr hp K):Qz C ρ o a w K:=by
 unfold tW at hv;split at hv
 .rename_i cs;obtain⟨h1,h2,hK⟩:=hv;obtain⟨vs,ex,g1,g2⟩:=hx;have hle:f.offset+n<=vs.size:=Oz;have iK:=Df (X:=aM C ρ hp) (w:=w) (ag:=ag) (off:=f.offset) (x:=.agg cs) (vs:=vs.extract f.offset (f.offset+n)) (by simp;omega) h1 h2
   (λj y hj hy=>by rw[Ao vs _ _ _ hj hle];exact g2 _ y hy)
  refine Qz.mk hd aA h (λw'=>?_) (Qj.n7 iK) hK;unfold execOp;simp only[ho,ex,Kau,Instr.field,kj hu,Kan,hf,asAgg,KaY,part,CP lv];cases ag with
  |true=>simp only[if_true,Kau,nB hn,Kan,KaY]
  |false=>have nc:=h2 rfl;subst nc;have nW:f.offset<vs.size:=Oz;simp only[Kbk,if_false,Kbu nW,KaY,Kan];rw[Ao vs _ _ 0 Oz hle];simp[Array.getD,nW]
 .rename_i cs;obtain⟨h1,h2,hK⟩:=hv;obtain⟨vs,ex,g1,g2⟩:=hx;have hle:f.offset+n<=vs.size:=Oz;have iK:=MT (C:=C) (ρ:=ρ) (hp:=hp) (w:=w) (ag:=ag) (off:=f.offset) (x:=.aU cs) (vs:=vs.extract f.offset (f.offset+n)) (by simp;omega) h1 h2
   (λj y hj hy=>by rw[Ao vs _ _ _ hj hle];exact g2 _ y hy)
  refine Qz.mk hd aA h (λw'=>?_) iK hK;unfold execOp;simp only[ho,ex,Kau,Instr.field,kj hu,Kan,hf,asAgg,KaY,part,CP lv];cases ag with
  |true=>simp only[if_true,Kau,nB hn,Kan,KaY]
  |false=>have nc:=h2 rfl;subst nc;have nW:f.offset<vs.size:=Oz;simp only[Kbk,if_false,Kbu nW,KaY,Kan];rw[Ao vs _ _ 0 Oz hle];simp[Array.getD,nW]
 .exact hv.elim
def agG{i:Operand}{d:Nat}(ho:o.op= .index t x i)(hd:o.dst=some d)(aA:d<C.N)(h:Qt C ρ fr hp a.tmps w)
  (hu:C.P.underlying t=some .string) (hx:Qj C ρ hp w px (a.eval x)) (hi:Qj C ρ hp w pi (a.eval i)) (hv:xe px pi d fr hp K):Qz C ρ o a w K:=by
 unfold xe at hv;split at hv
 .rename_i s k m;obtain⟨h0,h1,hK⟩:=hv;have ei:=hi.mG;have ex:=hx.JQ;have nW:m.toNat<s.size:=Oz;have e0:s.get! m.toNat=s[m.toNat]'nW:=by simp[ByteArray.get!,getElem!_pos,nW];rfl
  have e1:(if 0<=m then s[m.toNat]? else none)=some (s.get! m.toNat):=by rw[if_pos h0,getElem?_pos s m.toNat nW,e0]
  refine Qz.mk hd aA h (λw'=>?_) (Qj.mkInt _ _) hK;unfold execOp;simp only[ho,ex,ei,Kau,Instr.index,asIntOf,kj hu,Kan,KaY,e1]
 .exact hv.elim
def agH{len n:Nat}{i:Operand}{d:Nat}(ho:o.op= .index t x i)(hd:o.dst=some d)(aA:d<C.N)(h:Qt C ρ fr hp a.tmps w)
  (hu:C.P.underlying t=some (.array len e)) (hn:fw C.P e=some n) (lv:ot C.P e=some ag) (hx:Qj C ρ hp w px (a.eval x)) (hi:Qj C ρ hp w pi (a.eval i)) (hv:xf len n ag px pi d fr hp K):Qz C ρ o a w K:=by
 unfold xf at hv;split at hv
 .rename_i cs k m;obtain⟨h0,h00,h1,h2,hK⟩:=hv;have ei:=hi.mG;obtain⟨vs,ex,g1,g2⟩:=hx;have hle:m.toNat*n+n<=vs.size:=Oz;have EA:0<=m/\m<len:=⟨h0,h00⟩
  have iK:=Df (X:=aM C ρ hp) (w:=w) (ag:=ag) (off:=m.toNat*n) (x:=.agg cs) (vs:=vs.extract (m.toNat*n) (m.toNat*n+n)) (by simp;omega) h1 h2
   (λj y hj hy=>by rw[Ao vs _ _ _ hj hle];exact g2 _ y hy)
  refine Qz.mk hd aA h (λw'=>?_) (Qj.n7 iK) hK;unfold execOp;simp only[ho,ex,ei,Kau,Instr.index,asIntOf,kj hu,Kan,KaY,if_pos EA,nB hn,part,CP lv];cases ag with
  |true=>simp only[if_true,Kau,nB hn,Kan,KaY]
  |false=>have nc:=h2 rfl;subst nc;have nW:m.toNat*1<vs.size:=Oz;simp only[Kbk,if_false,Kbu nW,KaY,Kan];rw[Ao vs _ _ 0 Oz hle];have zF:m.toNat<vs.size:=Oz;simp[Array.getD,zF]
 .exact hv.elim
end Go.FW
namespace Go.FW
open Go
variable {C : Ctx} {ρ : Nat -> Option Nat} {fr : Fr} {hp : HP} {w : World} {a : Act} {K : Qf}
variable{P:Program}{ag:Bool}{hb:HB}{o:Oper}{p px:PV}{t:TypeId}{tmps vs:Array Value}{v:Value}{x:Operand}
def Dw(C:Ctx)(ρ:Nat->Option Nat)(o:Oper)(a:Act)(w:World)(K:Qf):Prop:=
 ∃v b,b<w.heap.size/\(∀w',w'.heap[b]? =w.heap[b]? ->(execOp a.eval o).run C.P w'= .ok (.value v) w')/\∃aG hp',Qt C ρ aG hp' (a.put o.dst v).tmps w/\K aG hp'
def Ct{n b off:Nat}(hn:fw P t=some n)(lv:ot P t=some ag)(h1:ag=false->n=1)(hs:vs.size=n)
  (w:World) (hc:∀j,j<n->w.cell? ⟨b,off+j,none⟩=some (vs.getD j undef)):
  (loadVar t ⟨b,off,none⟩).run P w= .ok (if ag then .agg vs else vs.getD 0 undef) w:=by
 unfold loadVar;simp only[Kau,CP lv,Kan];cases ag with
 | true=>
  have hl:=run_loadCells_list (P:=P) w ⟨b,off,none⟩ vs.toList (λj v hj=>by
   have dz:j<vs.size:=by simpa using(Kah.1 hj).1
   rw[KbS,hc j Oz,Gg vs j v hj])
  simp only[Kcd,hs]at hl;simp only[if_true,Kau,nB hn,Kan,hl,KaY]
 |false=>have nc:=h1 rfl;subst nc;have h0:=hc 0 Oz;simp only[KaW]at h0;simp only[Kbk,if_false,run_load,h0]
def o6{i e o j n cap:Nat}(h1:i<cap)(h2:o+n<=e)(h3:j<n):i*e+o+j<cap*e:=by have:(i+1)*e<=cap*e:=Kap e h1;rw[KaL,KcQ]at this;omega
def nC{w:World}{b o:Nat}{cur:Array Value}{ty:TypeId}(h:w.heap[b]? =some (.cells cur ty (0,0)))(ho:o<cur.size):w.cell? ⟨b,o,none⟩=some (cur.getD o undef):=by simp[World.cell?,h,ho,Array.getD]
def tK{n:Nat}{f:Nat->Value}{j:Nat}(hj:j<n):(Array.ofFn (n:=n) λi=>f i.val).getD j undef=f j:=by simp[Array.getD,hj]
def aiE{n:Nat}{d:Nat}(ho:o.op= .load t x)(hd:o.dst=some d)(aA:d<C.N)(h:Qt C ρ fr hp a.tmps w)
  (hn:fw C.P t=some n) (lv:ot C.P t=some ag) (hx:Qj C ρ hp w px (a.eval x)) (hv:gU n ag px d fr hp K):Dw C ρ o a w K:=by
 have fin:∀(b off:Nat)(vs:Array Value)(p:PV),a.eval x= .pointer (some ⟨b,off,none⟩)->(ag=false->n=1)->b<w.heap.size->vs.size=n->
   (∀j,j<n->w.cell? ⟨b,off+j,none⟩=some (vs.getD j undef))->bS w (aM C ρ hp) p (if ag then .agg vs else vs.getD 0 undef)->K (ae fr d p) hp->Dw C ρ o a w K:=by
  intro b off vs p ex h1 hb hs hc hr hK;refine⟨_,b,hb,λw' uR=>?_,ae fr d p,hp,by rw[hd];exact h.ae (Qj.n7 hr) aA,hK⟩;have:=Ct (P:=C.P) hn lv h1 hs w' (λj hj=>by rw[yx uR];exact hc j hj);unfold execOp;simp only[ho,ex,Kau,Instr.loadAt,Instr.sureAddr,KaY,Kan,this]
 unfold gU at hv;split at hv
 .rename_i O i o';split at hv
  .rename_i hb ao;obtain⟨h1,h2,h3,hK⟩:=hv;obtain⟨b,hb2,g1,g2,g3⟩:=hx.B6;rw[ao]at g2;cases g2;have bP:=h.own O hb ao;have bu:=bP.du;rw[g1]at bu;obtain⟨_,nW,cur,cap,c1,c2,c3,c4,c5⟩:=bu;have gB:=Kae h1;have ff:=(bP.len i _ gB).1;have eY:i<cap:=Oz;have tk:∀j,j<n->i*hb.e+o'+j<cur.size:=λj hj=>by rw[c2];exact o6 eY h2 hj
   refine fin b (i*hb.e+o') (Array.ofFn (n:=n) λj=>cur.getD (i*hb.e+o'+j.val) undef) _ g3 h3 nW (by simp) (λj hj=>?_) ?_ hK
   .rw[tK (f:=λj=>cur.getD (i*hb.e+o'+j) undef) hj];exact nC c1 (tk j hj)
   .refine Df (by simp) (by rw[ff];exact h2) h3 (λj y hj hy=>?_);rw[tK (f:=λj=>cur.getD (i*hb.e+o'+j) undef) hj,Kb5];exact c5 i _ gB (o'+j) y hy
  .exact hv.elim
 .rename_i cs;obtain⟨h1,h3,hK⟩:=hv;obtain⟨b,off,ex,Oq⟩:=hx.JG;cases Oq with
  | pt _ _ _ vs hX hb IP hr=>
   refine fin b off (Array.ofFn (n:=n) λj=>vs j.val) _ ex h3 hb (by simp) (λj hj=>?_) ?_ hK
   .rw[tK hj];exact IP j Oz
   .refine Df (by simp) (by simpa[PV.cells]using h1) h3 (λj y hj hy=>?_);rw[tK hj];exact hr j y (by simpa[PV.cells]using hy)
 .rename_i O o' m;obtain⟨rfl,rfl,hK⟩:=hv;obtain⟨b,u,e1,e2,e3,e4,e5⟩:=hx;refine⟨_,b,e2,λw' uR=>?_,ae fr d (.aD O o' m),hp,by rw[hd];exact h.ae (p:=.aD O o' m) (v:=u) e5 aA,hK⟩;have:=Ct (P:=C.P) (t:=t) (b:=b) (off:=0) (vs:= #[u]) hn lv (λ_=>rfl) rfl w' (λj hj=>by
   obtain rfl:j=0:=by omega
   rw[yx uR];simpa using e4)
  unfold execOp;simp only[ho,e1,Kau,Instr.loadAt,Instr.sureAddr,KaY,Kan,this];rfl
 .rename_i γ i o';split at hv
  .rename_i bo e ty xs ak;obtain⟨rfl,h1,h2,h3,hK⟩:=hv;obtain⟨hB,b,hb,g1,g2,g3⟩:=hx.Fq;have bm:=h.cQ bo;rw[ak]at bm;obtain⟨_,zA,b',aE,cur,cap,q1,q2,q3,q4,q5,q6,q7,q8,q9,Aa,wD⟩:=bm;rw[g1]at q1;cases q1;rw[g2]at q2;cases q2;rw[q4]at g3;have nW:b<w.heap.size:=(Kbp.1 q6).1;have gB:=Kae h1;have ff:=Aa i _ gB;have eY:i<cap:=Oz;have tk:∀j,j<n->i*e+o'+j<cur.size:=λj hj=>by rw[q7];exact o6 eY h2 hj
   have nj:∀j,j<n->w.cell? ⟨b,i*e+o'+j,none⟩=some ((Array.ofFn (n:=n) λj=>cur.getD (i*e+o'+j.val) undef).getD j undef):=λj hj=>by rw[tK (f:=λj=>cur.getD (i*e+o'+j) undef) hj];exact nC q6 (tk j hj)
   have iK:=MT (C:=C) (ρ:=ρ) (hp:=hp) (w:=w) (ag:=ag) (n:=n) (off:=o') (x:=xs[i]) (vs:=Array.ofFn (n:=n) λj=>cur.getD (i*e+o'+j.val) undef) (by simp) (by rw[ff];exact h2) h3 (λj y hj hy=>by rw[tK (f:=λj=>cur.getD (i*e+o'+j) undef) hj,Kb5];exact wD i _ gB (o'+j) y hy);refine⟨_,b,nW,λw' uR=>?_,ae fr d _,hp,by rw[hd];exact h.ae iK aA,hK⟩;have:=Ct (P:=C.P) (b:=b) (off:=i*e+o') (vs:=Array.ofFn (n:=n) λj=>cur.getD (i*e+o'+j.val) undef) hn lv h3 (by simp) w' (λj hj=>by rw[yx uR];exact nj j hj);unfold execOp;simp only[ho,g3,Kau,Instr.loadAt,Instr.sureAddr,KaY,Kan,this]
  .exact hv.elim
 .exact hv.elim
def Vx(h:Qt C ρ fr hp tmps w){O b:Nat}{l:List Nat}(_hB:aP O=false)(ao:hp O=some hb)(hl:O∈l)(bT:ρ O=some b):¬aM C ρ (Qu hp l) b:=by
 have bu:=(h.own O hb ao).du;rw[bT]at bu;rintro(hx|⟨γ,hg,h1,h2,h3⟩)
 .exact Ctx.Ik bu.1 (AU _hB) hx
 .obtain⟨rS,g1,_,_,_,_,g6⟩:=Cu h1;have:=h.inj γ O b (by simp[g1]) (by simp[ao]) h3 bT;subst this;exact g6 h2 hl
def GR(h:Qt C ρ fr hp tmps w){l:List Nat}(hr:dy C ρ hp w p v)(hl:∀O∈p.cm,O∈l)(hu:cA hp p≠ .undef):Qn w (aM C ρ (Qu hp l)) (cA hp p) v:=by
 cases p with
 | mp O i o=>
  obtain⟨b,hb,g1,g2,rfl⟩:=hr;have zW:=hl O (by simp[PV.cm]);have bP:=h.own O hb g2;have bu:=bP.du;rw[g1]at bu;obtain⟨_,aA,cur,cap,c1,c2,c3,c4,c5⟩:=bu;have hB:aP O=false:=by
   cases hq:aP O with
   |false=>rfl
   |true=>simp[cA,hq]at hu
  simp only[cA,g2,hB]at hu⊢;cases hx:hb.xs[i]? with
  |none=>simp[hx]at hu
  | some x=>
   simp only[Kbk,if_false];have hi:i<hb.xs.length:=(Kah.1 hx).1;have ff:=(bP.len i x hx).1;refine Qn.pt _ b _ (λj=>cur.getD (i*hb.e+o+j) undef) (Vx h hB g2 zW g1) aA (λj hj=>?_) (λj y hy=>?_)
   .have dz:o+(j+1)<=hb.e:=by simp[ff]at hj;omega
    exact nC c1 (by rw[c2];exact o6 Oz dz (Kce j))
   .rw[Ka1]at hy;rw[Kb5];exact(c5 i x hx (o+j) y hy).freeze
 | aD O o n=>
  obtain⟨hb,g1,g2,g3⟩:=hr;have hB:aP O=false:=by
   cases hq:aP O with
   |false=>rfl
   |true=>simp[cA,hq]at hu
  simp only[cA,g1,hB];rcases g3 with⟨g3,rfl,rfl,rfl⟩|⟨b,cap,g3,rfl,g5,g6⟩
  .simp only[Kcn];exact .ma _ _ _ (KbK _)
  .have zW:=hl O (by simp[PV.cm]);have bP:=h.own O hb g1;have bu:=bP.du;rw[g3]at bu;obtain⟨_,aA,cur,fZ,c1,c2,c3,c4,c5⟩:=bu;obtain⟨cur',ty',d1,d2⟩:=g5;rw[c1]at d1;cases d1;have kB:o+cap=fZ:=by rw[c2]at d2;exact(KbB bP.mA d2).symm
   subst kB;have hlen:((hb.xs.drop o).take n).length=n:=by simp;omega
   have gg:∀(i:Nat)(x:PV),((hb.xs.drop o).take n)[i]? =some x->i<n/\hb.xs[o+i]? =some x:=λi x hx=>by
    have hi:i<n:=by have:=(Kah.1 hx).1;omega
    rw[KaM hi,Ka1]at hx;exact⟨hi,hx⟩
   have:=Qn.sl (w:=w) (X:=aM C ρ (Qu hp l)) hb.e ((hb.xs.drop o).take n) b (o*hb.e) cap (λi j=>cur.getD ((o+i)*hb.e+j) undef) (Vx h hB g1 zW g3) aA Oz Oz
    (λi x hx=>(bP.len _ x (gg i x hx).2).1)
    (λi hi j hj=>by rw[hlen]at hi;have:=o6 (i:=o+i) (e:=hb.e) (o:=0) (j:=j) (n:=hb.e) (cap:=o+cap) Oz Oz hj;rw[KaW]at this;rw[show o*hb.e+i*hb.e+j=(o+i)*hb.e+j by rw[KaL]];exact nC c1 (by rw[c2];exact this))
    (λi x hx j y hy=>(c5 _ x (gg i x hx).2 j y hy).freeze)
   rwa[hlen]at this
 |undef=>simp[cA]at hu
 |rb=>simp[cA]at hu
 |aK=>simp[cA]at hu
 |np=>simp[cA]at hu
 |aU=>simp[cA]at hu
 |fH=>simp[cA]at hu
 |dQ=>simp[cA]at hu
 |aH=>simp[cA]at hu
 |_=>exact Qn.freeze hr
def Sg(h:p.jH=true):p≠ .undef:=by cases p<;>simp[PV.jH]at h⊢
def Pm(h:p.aJ=true):p≠ .undef:=by cases p<;>simp[PV.aJ]at h⊢
def tO(h:Qt C ρ fr hp tmps w){l:List Nat}(hr:Qj C ρ hp w p v)(hl:∀O∈p.refs,O∈l)(hd:(Qr hp p).aJ=true):bS w (aM C ρ (Qu hp l)) (Qr hp p) v:=by
 cases p with
 | fn f first cap=>
  obtain⟨fv,cv,rfl,h1,h2,h3,h4⟩:=hr;simp only[Qr,PV.aJ,Kav,Kas,KaD,forall_exists_index,and_imp,forall_apply_eq_imp_iff₂]at hd;refine Qn.fn f _ _ fv cv (by simp[h1]) (by simp[h2]) (λi x hx=>?_) (λi x hx=>?_)
  .simp only[Kaw,Kaa]at hx;obtain⟨y,hy,rfl⟩:=hx;exact GR h (h3 i y hy) (λO ao=>hl O (Lg hy O ao)) (Sg (hd.1 y (Kaj hy)))
  .simp only[Kaw,Kaa]at hx;obtain⟨y,hy,rfl⟩:=hx;exact GR h (h4 i y hy) (λO ao=>hl O (Lp hy O ao)) (Sg (hd.2 y (Kaj hy)))
 |mp O i o=>exact bS.tC (GR (p:=.mp O i o) h hr hl (Pm hd))
 |aD O o n=>exact bS.tC (GR (p:=.aD O o n) h hr hl (Pm hd))
 |undef=>simp[Qr,cA,PV.aJ]at hd
 |rb=>simp[Qr,cA,PV.aJ]at hd
 |aK=>simp[Qr,cA,PV.aJ]at hd
 |np=>simp[Qr,cA,PV.aJ]at hd
 |aU=>simp[Qr,cA,PV.aJ]at hd
 |fH=>simp[Qr,cA,PV.aJ]at hd
 |dQ=>simp[Qr,cA,PV.aJ]at hd
 |aH=>simp[Qr,cA,PV.aJ]at hd
 |aI ps=>simp[Qr,cA,PV.aJ]at hd
 |agg cs=>exact bS.mono (p:=.agg cs) hr (λ_ _ _=>rfl) (λ_ _ hn hx=>hn (LJ hx)) (Kag _)
 |_=>exact Qn.freeze hr
end Go.FW
namespace Go.FW
open Go
variable {C : Ctx} {ρ : Nat -> Option Nat} {fr : Fr} {hp : HP} {w : World} {a : Act} {K : Qf}
variable{P:Program}{e t:TypeId}{i:Int}{k:IntKind}{o:Oper}{px:PV}{x:Operand}{xs:List PV}
def wO{x:Option Operand}{y:Option aW}{XH n:Int}(h:Qt C ρ fr hp a.tmps w)(ho:qo x=some y)(hb:jL XH (y.map (ev fr))=some n):
  (x=none/\y=none/\n=XH)\/∃z k,x=some z/\a.eval z= .int k n/\y.isSome=true:=by
 cases x with
 |none=>simp[qo]at ho;subst ho;simp[jL]at hb;exact .inl ⟨rfl,rfl,hb.symm⟩
 | some z=>
  simp only[qo,Kaa]at ho;obtain⟨u,hu,rfl⟩:=ho;have hr:=dm h hu;simp only[KbZ]at hb;cases hp':ev fr u with
  |int k m=>rw[hp']at hb hr;simp[jL]at hb;subst hb;exact .inr ⟨z,k,rfl,hr.mG,rfl⟩
  |_=>rw[hp']at hb;simp[jL]at hb
def yt{y:Nat}{code:BoundsCode}(h0:0<=i)(h1:i<=y)(w:World):(Instr.sliceBound (.int k i) y code).run P w= .ok i.toNat w:=by
 unfold Instr.sliceBound;have:0<=i/\i<=y:=⟨h0,h1⟩
 simp only[asIntOf,Kau,KaY,Kan,if_pos this]
def Gy{len cap:Nat}{lo hi mx:Option Operand}{L H M:Int}(eval:Operand->Value)
  (hL:(lo=none/\L=0)\/∃z k,lo=some z/\eval z= .int k L)
  (hH:(hi=none/\H=len)\/∃z k,hi=some z/\eval z= .int k H)
  (hM:(mx=none/\M=len)\/∃z k,mx=some z/\eval z= .int k M) (hm:mx.isSome=true->hi.isSome=true)
  (h0:0<=L) (h1:L<=H) (h2:H<=M) (h3:M<=len) (h4:len<=cap):
  ∃m,L.toNat<=m/\H.toNat<=m/\m<=cap/\(mx=none->m=cap)/\∀w,(Instr.sliceBounds true len cap (lo.map eval) (hi.map eval) (mx.map eval)).run P w= .ok (L.toNat,H.toNat,m) w:=by
 have c1:H<=(cap:Int):=Oz;rcases hM with⟨rfl,hM⟩|⟨zm,km,rfl,hM⟩
 .refine⟨cap,Oz,Oz,Kag _,λ_=>rfl,λw=>?_⟩;rcases hH with⟨rfl,hH⟩|⟨zh,kh,rfl,hH⟩<;>rcases hL with⟨rfl,hL⟩|⟨zl,kl,rfl,hL⟩
  .subst hH;subst hL;simp[Instr.sliceBounds,Kau]
  .subst hH;have e:=yt (P:=P) (k:=kl) (code:=.sliceB) (y:=len) h0 h1;simp[Instr.sliceBounds,Kau,hL,e]
  .subst hL;have e:=yt (P:=P) (k:=kh) (code:=.sliceAcap) (y:=cap) Oz c1;simp[Instr.sliceBounds,Kau,hH,e]
  .have e:=yt (P:=P) (k:=kh) (code:=.sliceAcap) (y:=cap) Oz c1;have e2:=yt (P:=P) (k:=kl) (code:=.sliceB) (y:=H.toNat) h0 Oz;simp[Instr.sliceBounds,Kau,hH,hL,e,e2]
 .rcases hH with⟨rfl,hH⟩|⟨zh,kh,rfl,hH⟩
  .simp at hm
  have e:=yt (P:=P) (k:=km) (code:=.slice3Acap) (y:=cap) (i:=M) Oz Oz;have e1:=yt (P:=P) (k:=kh) (code:=.slice3B) (y:=M.toNat) (i:=H) Oz Oz;refine⟨M.toNat,Oz,Oz,Oz,λh=>by simp at h,λw=>?_⟩;rcases hL with⟨rfl,hL⟩|⟨zl,kl,rfl,hL⟩
  .subst hL;simp[Instr.sliceBounds,Kau,hH,hM,e,e1]
  .have e2:=yt (P:=P) (k:=kl) (code:=.slice3C) (y:=H.toNat) (i:=L) h0 Oz;simp[Instr.sliceBounds,Kau,hH,hM,hL,e,e1,e2]
def Gb{n len cap l h m:Nat}{ad:Option Addr}{lo hi mx:Option Value}(hu:P.underlying t=some (.slice e))(hn:fw P e=some n)(w:World)
  (hb:(Instr.sliceBounds true len cap lo hi mx).run P w= .ok (l,h,m) w):
  (Instr.sliceAt t (.slice ad len cap) lo hi mx).run P w= .ok (.slice (if m=l then ad else ad.map (·.add (l*n))) (h-l) (m-l)) w:=by
 unfold Instr.sliceAt Instr.slice;simp only[Kau,kj hu,Kan,hb,nB hn,KaY]
def U'{H L i:Nat}{x:PV}(hx:((xs.take H).drop L)[i]? =some x):xs[L+i]? =some x/\L+i<H:=by
 rw[Ka1]at hx;have hi:L+i<H:=by have:=(Kah.1 hx).1;simp at this;omega
 rw[KaM hi]at hx;exact⟨hx,hi⟩
def Qn.part{X:Nat->Prop}{e:Nat}{ad:Option Addr}{cap L H m:Nat}(h:Qn w X (.sl e xs) (.slice ad xs.length cap))(h1:L<=H)(h2:H<=xs.length)(h3:H<=m)(h4:m<=cap):
  Qn w X (.sl e ((xs.take H).drop L)) (.slice (if m=L then ad else ad.map (·.add (L*e))) (H-L) (m-L)):=by
 by_cases he:H=L
 .subst he;have:(xs.take H).drop H=[]:=List.drop_eq_nil_of_le (by simp;omega);rw[this,Kbz];refine .ma _ _ _ ?_;cases h with
  |ma _ _ _ hc=>omega
  |sl _ _ b off _ vs hX hb hl hc=>omega
 .have hlen:((xs.take H).drop L).length=H-L:=by simp;omega
  cases h with
  |ma=>simp at h2;omega
  | sl _ _ b off _ vs hX hb hl hc he' hv hr=>
   have hm:¬m=L:=Oz;rw[if_neg hm];simp only[KbZ,KbS];have:=Qn.sl (w:=w) (X:=X) e ((xs.take H).drop L) b (off+L*e) (m-L) (λi j=>vs (L+i) j) hX hb Oz Oz
    (λi x hx=>he' _ x (U' hx).1)
    (λi hi j hj=>by have:=hv (L+i) Oz j hj;rw[show off+L*e+i*e+j=off+(L+i)*e+j by rw[KaL];omega];exact this)
    (λi x hx j y hy=>hr _ x (U' hx).1 j y hy)
   rwa[hlen]at this
def aiF{n:Nat}{lo hi mx:Option Operand}{JF Fs Ft:Option aW}{d:Nat}(ho:o.op= .slice t x lo hi mx)(hd:o.dst=some d)(aA:d<C.N)(h:Qt C ρ fr hp a.tmps w)
  (hu:C.P.underlying t=some (.slice e)) (hn:fw C.P e=some n) (hx:Qj C ρ hp w px (a.eval x)) (uD:qo lo=some JF) (xR:qo hi=some Fs) (zJ:qo mx=some Ft)
  (hv:jI n px (JF.map (ev fr)) (Fs.map (ev fr)) (Ft.map (ev fr)) d fr hp K):Qz C ρ o a w K:=by
 have mH:∀ {x:Option Operand} {y:Option aW},qo x=some y->(x.isSome=true↔y.isSome=true):=by
  intro x y Fg;cases x with
  |none=>simp[qo]at Fg;subst Fg;simp
  |some z=>simp only[qo,Kaa]at Fg;obtain⟨u,_,rfl⟩:=Fg;simp
 have common:∀(hp':HP)(xs:List PV)(len cap:Nat)(ad:Option Addr)(L H M:Int),Qt C ρ fr hp' a.tmps w->len=xs.length->a.eval x= .slice ad len cap->len<=cap->
   Qn w (aM C ρ hp') (.sl n xs) (.slice ad xs.length cap)->jL 0 (JF.map (ev fr))=some L->jL len (Fs.map (ev fr))=some H->jL len (Ft.map (ev fr))=some M->
   0<=L->L<=H->H<=M->M<=len->((Ft.map (ev fr)).isSome=true->(Fs.map (ev fr)).isSome=true)->K (ae fr d (.sl n ((xs.take H.toNat).drop L.toNat))) hp'->Qz C ρ o a w K:=by
  intro hp' xs len cap ad L H M hs hl ex eY hr bL bH bM h0 h1 h2 h3 hm hK;have e1:=wO h uD bL;have e2:=wO h xR bH;have e3:=wO h zJ bM;obtain⟨m,q1,q2,q3,_,q4⟩:∃m,L.toNat<=m/\H.toNat<=m/\m<=cap/\(mx=none->m=cap)/\∀w',(Instr.sliceBounds true len cap (lo.map a.eval) (hi.map a.eval) (mx.map a.eval)).run C.P w'= .ok (L.toNat,H.toNat,m) w':=by
   refine Gy (P:=C.P) a.eval ?_ ?_ ?_ (λhq=>(mH xR).2 (by simpa using hm (by simpa using(mH zJ).1 hq))) h0 h1 h2 h3 eY
   .rcases e1 with⟨q1,_,q3⟩|⟨z,k,q1,q2,_⟩
    .exact .inl ⟨q1,q3⟩
    .exact .inr ⟨z,k,q1,q2⟩
   .rcases e2 with⟨q1,_,q3⟩|⟨z,k,q1,q2,_⟩
    .exact .inl ⟨q1,q3⟩
    .exact .inr ⟨z,k,q1,q2⟩
   .rcases e3 with⟨q1,_,q3⟩|⟨z,k,q1,q2,_⟩
    .exact .inl ⟨q1,q3⟩
    .exact .inr ⟨z,k,q1,q2⟩
  have hp:=hr.part (L:=L.toNat) (H:=H.toNat) (m:=m) Oz Oz q2 q3;refine⟨_,λw'=>?_,ae fr d _,hp',by rw[hd];exact hs.ae (Qj.n7 (bS.tC hp)) aA,hK⟩;unfold execOp;simp only[ho,ex,Kau,Gb hu hn w' (q4 w'),Kan];rfl
 unfold jI at hv;split at hv
 .
  split at hv
  .rename_i L H M bL bH bM;obtain⟨rfl,rfl,rfl,hm,hK⟩:=hv;have ex:=hx.yf;refine Qz.mk hd aA h (p:=.aa) (v:=.slice none 0 0) (λw'=>?_) Qn.aa hK;have e1:=wO h uD bL;have e2:=wO h xR bH;have e3:=wO h zJ bM;obtain⟨m,q1,q2,q3,_,q4⟩:∃m,(0:Int).toNat<=m/\(0:Int).toNat<=m/\m<=0/\(mx=none->m=0)/\∀w',(Instr.sliceBounds true 0 0 (lo.map a.eval) (hi.map a.eval) (mx.map a.eval)).run C.P w'= .ok ((0:Int).toNat,(0:Int).toNat,m) w':=by
    refine Gy (P:=C.P) a.eval ?_ ?_ ?_ (λhq=>(mH xR).2 (by simpa using hm (by simpa using(mH zJ).1 hq))) (Kc6 _) (Kc6 _) (Kc6 _) (by simp) (Kag _)
    .rcases e1 with⟨q1,_,q3⟩|⟨z,k,q1,q2,_⟩
     .exact .inl ⟨q1,q3⟩
     .exact .inr ⟨z,k,q1,q2⟩
    .rcases e2 with⟨q1,_,q3⟩|⟨z,k,q1,q2,_⟩
     .exact .inl ⟨q1,by simp⟩
     .exact .inr ⟨z,k,q1,q2⟩
    .rcases e3 with⟨q1,_,q3⟩|⟨z,k,q1,q2,_⟩
     .exact .inl ⟨q1,by simp⟩
     .exact .inr ⟨z,k,q1,q2⟩
   obtain rfl:m=0:=by omega
   unfold execOp;simp only[ho,ex,Kau,Gb hu hn w' (q4 w'),Kan];rfl
  .exact hv.elim
 .rename_i e' xs;split at hv
  .rename_i L H M bL bH bM;obtain⟨rfl,h0,h1,h2,h3,hm,hK⟩:=hv;obtain⟨ad,cap,ex,oF,ik⟩:=hx.aaF;have bc:Qn w (aM C ρ hp) (.sl e' xs) (a.eval x):=hx;rw[ex]at bc;exact common hp xs _ cap ad L H M h rfl ex oF bc bL bH bM h0 h1 h2 h3 hm hK
  .exact hv.elim
 .rename_i O o' m;cases Ft with
  |some zm=>revert hv;split<;>simp_all
  |none=>
  split at hv
  .rename_i L H bL bH bM;obtain⟨he,h0,h1,h2,h3,hK⟩:=hv;have m0:mx=none:=by cases mx<;>simp[qo]at zJ⊢
   subst m0;have e1:=wO h uD bL;have e2:=wO h xR bH;obtain⟨hb,g1,g2,g3⟩:=hx;rw[g1]at he;simp only[KbZ,KaG]at he;have hL:(lo=none/\L=0)\/∃z k,lo=some z/\a.eval z= .int k L:=by
    rcases e1 with⟨q1,_,q3⟩|⟨z,k,q1,q2,_⟩
    .exact .inl ⟨q1,q3⟩
    .exact .inr ⟨z,k,q1,q2⟩
   have hH:(hi=none/\H=(m:Int))\/∃z k,hi=some z/\a.eval z= .int k H:=by
    rcases e2 with⟨q1,_,q3⟩|⟨z,k,q1,q2,_⟩
    .exact .inl ⟨q1,q3⟩
    .exact .inr ⟨z,k,q1,q2⟩
   rcases g3 with⟨g3,ex,rfl,rfl⟩|⟨b,cap,g3,ex,g5,g6⟩
   .obtain⟨m',q1,q2,q3,_,q4⟩:=Gy (P:=C.P) (len:=0) (cap:=0) (mx:=none) (M:=0) a.eval hL hH (.inl ⟨rfl,rfl⟩) (by simp) h0 h1 h2 (by simp) (Kag _);have hH0:H.toNat=0:=Oz;have zp:L.toNat=0:=Oz;have zG:m'=0:=Oz;refine Qz.mk hd aA h (v:=.slice none 0 0) (λw'=>?_) ?_ hK
    .unfold execOp;simp only[ho,ex,Kau,Gb hu hn w' (q4 w'),Kan];simp[hH0,zG,zp]
    .exact⟨hb,g1,Oz,.inl ⟨g3,rfl,Oz,Oz⟩⟩
   .have eY:m<=cap:=by have bu:=(h.own O hb g1).du;rw[g3]at bu;obtain⟨_,_,cur,fZ,c1,c2,c3,c4,c5⟩:=bu;obtain⟨cur',ty',d1,d2⟩:=g5;rw[c1]at d1;cases d1;rw[c2]at d2;have:=KbB (h.own O hb g1).mA d2;omega
    obtain⟨m',q1,q2,q3,q5,q4⟩:=Gy (P:=C.P) (len:=m) (cap:=cap) (mx:=none) (M:=(m:Int)) a.eval hL hH (.inl ⟨rfl,rfl⟩) (by simp) h0 h1 h2 (Kc6 _) eY;obtain rfl:=q5 rfl;refine Qz.mk hd aA h (v:=.slice (some ⟨b,(o'+L.toNat)*hb.e,none⟩) (H.toNat-L.toNat) (m'-L.toNat)) (λw'=>?_) ?_ hK
    .unfold execOp;simp only[ho,ex,Kau,Gb hu hn w' (q4 w'),Kan];congr 1;by_cases hz:L=0
     .subst hz;simp[Addr.add_zero']
     .rw[if_neg Oz];simp[KbS,he,KaL]
    .exact⟨hb,g1,Oz,.inr ⟨b,m'-L.toNat,g3,rfl,by rw[show o'+L.toNat+(m'-L.toNat)=o'+m' by omega];exact g5,Oz⟩⟩
  .exact hv.elim
 .exact hv.elim
end Go.FW
namespace Go.FW
open Go
variable {C : Ctx} {ρ : Nat -> Option Nat} {fr : Fr} {hp : HP} {w : World} {a : Act} {K : Qf}
variable{P:Program}{o:Oper}{p px z:PV}{t:TypeId}{v:Value}{vs:Array Value}{x:Operand}
def sH(Q:PV->Value->Prop)(ps:List PV)(vs:Array Value):Prop:=vs.size=ps.length/\∀(i:Nat)(x:PV),ps[i]? =some x->Q x (vs.getD i undef)
abbrev Rows(w:World)(X:Nat->Prop)(ps:List PV)(vs:Array Value):Prop:=sH (Qn w X) ps vs
def QV(off:Nat):∀(l:List Value)(s:Nat)(cs:Array Value),
  ((l.zipIdx s).foldl (λcs (p:Value×Nat)=>cs.setIfInBounds (off+p.2) p.1) cs).size=cs.size/\
  ∀k,k<cs.size->((l.zipIdx s).foldl (λcs (p:Value×Nat)=>cs.setIfInBounds (off+p.2) p.1) cs).getD k undef=if off+s<=k/\k<off+s+l.length then l.getD (k-off-s) undef else cs.getD k undef
 | [],s,cs=>by refine⟨rfl,λk hk=>?_⟩;simp only[List.zipIdx_nil,List.foldl_nil,Kbm,KaW];rw[if_neg Oz]
 | c::l,s,cs=>by
  obtain⟨h1,h2⟩:=QV off l (s+1) (cs.setIfInBounds (off+s) c);simp only[List.zipIdx_cons,List.foldl_cons];refine⟨by rw[h1];simp,λk hk=>?_⟩;rw[h2 k (by simpa using hk)];by_cases hks:k=off+s
  .subst hks;rw[if_neg Oz,if_pos (by simp)];simp[Array.getD,hk]
  .by_cases hr:off+(s+1)<=k/\k<off+(s+1)+l.length
   .rw[if_pos hr,if_pos (by simp;omega)];have:k-off-s=(k-off-(s+1))+1:=Oz;rw[this];simp
   .rw[if_neg hr,if_neg (by simp;omega)];simp only[KaS];rw[Kcr Oz]
def Q4s(cs:Array Value)(v:Array Value)(off:Nat):
  v.zipIdx.foldl (λcs (x:Value×Nat)=>match x with|(c,j)=>cs.setIfInBounds (off+j) c) cs=(v.toList.zipIdx).foldl (λcs (p:Value×Nat)=>cs.setIfInBounds (off+p.2) p.1) cs:=by
 rw[<-Array.foldl_toList,Array.toList_zipIdx]
def sH.avJ{Q:PV->Value->Prop}{ps qs:List PV}{us:Array Value}{off:Nat}(h:sH Q ps vs)(hq:sH Q qs us)(hle:off+qs.length<=ps.length):
  sH Q (ps.take off++qs++ps.drop (off+qs.length)) (us.zipIdx.foldl (λcs (x:Value×Nat)=>match x with|(c,j)=>cs.setIfInBounds (off+j) c) vs):=by
 obtain⟨h1,h2⟩:=h;obtain⟨q1,q2⟩:=hq;rw[Q4s];obtain⟨f1,f2⟩:=QV off us.toList 0 vs;refine⟨by rw[f1,h1];simp;omega,λi x hx=>?_⟩;have hi:i<ps.length:=by have:=(Kah.1 hx).1;simp at this;omega
 rw[f2 i Oz];simp only[KaW,Kcd,Kcg];rw[Kbr,KaV]at hx;by_cases c1:i<off
 .rw[if_neg Oz];rw[if_pos (by simp;omega),KaM c1]at hx;exact h2 i x hx
 .rw[if_neg (by simp;omega)]at hx;have ht:(ps.take off).length=off:=by simp;omega
  rw[ht,KaV]at hx;by_cases c2:i-off<qs.length
  .rw[if_pos c2]at hx;rw[if_pos Oz];have:=q2 _ _ hx
   rwa[show us.toList.getD (i-off) undef=us.getD (i-off) undef by simp[KaS]]
  .rw[if_neg c2,Ka1]at hx;rw[if_neg Oz];rw[show off+qs.length+(i-off-qs.length)=i by omega]at hx;exact h2 i x hx
def Gz{Q:PV->Value->Prop}(place:Nat->Option (Nat×Nat)):∀(parts:List (Nat×Value))(qs:List (Nat×List PV))(ps:List PV)(vs:Array Value),sH Q ps vs->parts.length=qs.length->
  (∀(i:Nat)(p:Nat×Value)(q:Nat×List PV),parts[i]? =some p->qs[i]? =some q->place p.1=some (q.1,q.2.length)/\sH Q q.2 p.2.cells/\q.1+q.2.length<=ps.length)->
  ∃eP,Instr.fill place vs parts=some eP/\sH Q (jN ps qs) eP
 | [],[],ps,vs,h,_,_=>⟨vs,rfl,h⟩
 | [],q::qs,_,_,_,hl,_=>by simp at hl
 |p::parts,[],_,_,_,hl,_=>by simp at hl
 | (i,v)::parts,(off,xs)::qs,ps,vs,h,hl,hp=>by
  obtain⟨h1,h2,h3⟩:=hp 0 (i,v) (off,xs) rfl rfl;have fF:v.cells.size=xs.length:=h2.1;have hn:¬((v.cells.size≠xs.length||decide (off+v.cells.size>vs.size))=true):=by have:=h.1;simp only[KbL,decide_eq_true_eq,not_or];exact⟨by simp[fF],by rw[fF,this];simp only at h3;omega⟩
  have hlen:(ps.take off++xs++ps.drop (off+xs.length)).length=ps.length:=by simp;simp only at h3;omega
  obtain⟨eP,g1,g2⟩:=Gz place parts qs _ _ (h.avJ h2 h3) (by simpa using hl) (λj p q zM hqj=>by obtain⟨k1,k2,k3⟩:=hp (j+1) p q (by simpa using zM) (by simpa using hqj);exact⟨k1,k2,by rw[hlen];exact k3⟩);refine⟨eP,?_,g2⟩;unfold Instr.fill;simp only[h1];rw[if_neg hn];exact g1
def bS.rows{X:Nat->Prop}(h:bS w X p v):Rows w X p.cells v.cells:=h.cells
def vh{n by_:Nat}(h:mh P t=some (n,by_,z)):∃(i:TypeInfo)(zv:Value),P.info? t=some i/\i.zero=some zv/\i.size=n/\i.bytes=by_/\tT zv=some z:=by simp only[mh,Kab,Kaa,Prod.mk.injEq]at h;obtain⟨i,h1,zv,h2,p,h3,h4,h5,h6⟩:=h;subst h6;exact⟨i,zv,h1,h2,h4,h5,h3⟩
def yu{i:TypeInfo}{zv:Value}(h1:P.info? t=some i)(h2:i.zero=some zv)(w:World):(zeroValue t).run P w= .ok zv w:=by simp[zeroValue,typeInfo,h1,h2]
def Pn{parts:List (Nat×Operand)}{ps:List (Nat×Nat×aW)}{f:Nat×Operand->Option (Nat×Nat×aW)}(h:parts.mapM f=some ps){eval:Operand->Value}{i:Nat}{p:Nat×Value}{q:Nat×Nat×aW}
  (h1:(parts.map λx=>(x.1,eval x.2))[i]? =some p) (h2:ps[i]? =some q):∃x,parts[i]? =some x/\f x=some q/\p=(x.1,eval x.2):=by
 obtain⟨x,hx,hf⟩:=(n8 h).2 i q h2;refine⟨x,hx,hf,?_⟩;simp only[Kaw,hx,KbZ,KaG]at h1;exact h1.symm
def agI{parts:Array (Nat×Operand)}{n by_:Nat}{ps:List (Nat×Nat×aW)}{d:Nat}(ho:o.op= .build t parts)(hd:o.dst=some d)(aA:d<C.N)(h:Qt C ρ fr hp a.tmps w)
  (hz:mh C.P t=some (n,by_,z)) (fR:Dt C.P t parts.toList=some ps)
  (hv:FL z.cells (ps.map λp=>(p.1,p.2.1,ev fr p.2.2)) d fr hp K):Qz C ρ o a w K:=by
 obtain⟨aT,hK⟩:=hv;obtain⟨ti,zv,i1,i2,i3,i4,i5⟩:=vh hz;have OO:Rows w (aM C ρ (Qu hp ((ps.map λp=>(p.1,p.2.1,ev fr p.2.2)).flatMap λp=>p.2.2.refs))) z.cells zv.cells:=(u7 i5).rows;have rQ:(parts.map λ(x:Nat×Operand)=>(x.1,a.eval x.2)).toList=parts.toList.map λx=>(x.1,a.eval x.2):=by simp
 have key:∀(f:Nat×Operand->Option (Nat×Nat×aW))(place:Nat->Option (Nat×Nat)),parts.toList.mapM f=some ps->(∀x q,f x=some q->place x.1=some (q.1,q.2.1)/\cl x.2=some q.2.2)->
   ∃eP,Instr.fill place zv.cells (parts.map λ(x:Nat×Operand)=>(x.1,a.eval x.2)).toList=some eP/\
    Rows w (aM C ρ (Qu hp ((ps.map λp=>(p.1,p.2.1,ev fr p.2.2)).flatMap λp=>p.2.2.refs))) (jN z.cells ((ps.map λp=>(p.1,p.2.1,ev fr p.2.2)).map λp=>(p.1,(Qr hp p.2.2).cells))) eP:=by
  intro f place hm hf;rw[rQ];refine Gz place _ _ _ _ OO (by simp[(n8 hm).1]) (λi p q uI xU=>?_);simp only[KbT,Kaw,Kaa]at xU;obtain⟨q0,kT,rfl⟩:=xU;obtain⟨x,hx,qL,rfl⟩:=Pn hm uI kT;obtain⟨f1,f2⟩:=hf x q0 qL;obtain⟨o1,o2,o3⟩:=aT (q0.1,q0.2.1,ev fr q0.2.2) (KaD.2 ⟨q0,Kaj kT,rfl⟩);simp only[Function.comp]at o1 o2 o3⊢;refine⟨by rw[o2];exact f1,?_,by rw[o2];exact o3⟩;exact(tO h (dm h f2) (λO ao=>Kat.2 ⟨_,KaD.2 ⟨q0,Kaj kT,rfl⟩,ao⟩) o1).rows
 have fin:∀eP,(∀w',(Instr.build t (parts.map λ(x:Nat×Operand)=>(x.1,a.eval x.2))).run C.P w'= .ok (.agg eP) w')->
   Rows w (aM C ρ (Qu hp ((ps.map λp=>(p.1,p.2.1,ev fr p.2.2)).flatMap λp=>p.2.2.refs))) (jN z.cells ((ps.map λp=>(p.1,p.2.1,ev fr p.2.2)).map λp=>(p.1,(Qr hp p.2.2).cells))) eP->Qz C ρ o a w K:=by
  intro eP cN hr;refine⟨.agg eP,λw'=>?_,_,_,by rw[hd];exact(h.freeze _).ae (p:=.agg _) ⟨eP,rfl,hr.1,hr.2⟩ aA,hK⟩;unfold execOp;simp only[ho,Kau];have:=cN w';rw[show(parts.map λ(x:Nat×Operand)=>(x.1,a.eval x.2))=(parts.map λx=>match x with|(i,x)=>(i,a.eval x))from rfl]at this;rw[this];rfl
 unfold Dt at fR;split at fR
 .rename_i fs hu;simp only[Kab]at fR;obtain⟨pl,bx,hm⟩:=fR;obtain⟨eP,g1,g2⟩:=key _ (λi=>pl[i]?) hm (λx q hq=>by simp only[Kab,Kaa]at hq;obtain⟨r,hr,y,hy,rfl⟩:=hq;exact⟨by simpa using hr,hy⟩);refine fin eP (λw'=>?_) g2;unfold Instr.build;have iI:=run_places (P:=C.P) w' fs.toList pl bx;simp[Kau,yu i1 i2,kj hu,Kbv,iI]at g1⊢;simp[g1]
 .rename_i len e hu;simp only[Kab]at fR;obtain⟨m,zG,hm⟩:=fR;obtain⟨eP,g1,g2⟩:=key _ (λi=>some (i*m,m)) hm (λx q hq=>by simp only[Kaa]at hq;obtain⟨y,hy,rfl⟩:=hq;exact⟨rfl,hy⟩);refine fin eP (λw'=>?_) g2;unfold Instr.build;simp only[Kau,yu i1 i2,kj hu,nB zG,Kan,g1,KaY]
 .simp at fR
def ME{xs:List Operand}{ys:List aW}(h:Qt C ρ fr hp a.tmps w)(hm:xs.mapM cl=some ys):(ys.map (ev fr)).length=xs.length/\∀(i:Nat)(x:PV),(ys.map (ev fr))[i]? =some x->Qj C ρ hp w x ((xs.map a.eval).toArray.getD i undef):=by
 obtain⟨h1,h2⟩:=n8 hm;refine⟨by simp[h1],λi x hx=>?_⟩;simp only[Kaw,Kaa]at hx;obtain⟨y,hy,rfl⟩:=hx;obtain⟨z,hz,ho⟩:=h2 i y hy;have e:((xs.map a.eval).toArray.getD i undef)=a.eval z:=by simp[KaS,Kaw,hz]
 rw[e];exact dm h ho
def Qj.toA(h:Qj C ρ hp w p v)(hc:p.nr=true):dy C ρ hp w p v:=by cases p<;>first|exact h|simp[PV.nr]at hc
def aiG{f:FuncId}{first cap:Array Operand}{pf pc:List aW}{d:Nat}(ho:o.op= .makeFunc (.func f) first cap)(hd:o.dst=some d)(aA:d<C.N)(h:Qt C ρ fr hp a.tmps w)
  (h1:first.toList.mapM cl=some pf) (h2:cap.toList.mapM cl=some pc)
  (hv:(pf.map (ev fr)++pc.map (ev fr)).all PV.nr=true/\K (ae fr d (.fn f (pf.map (ev fr)) (pc.map (ev fr)))) hp):Qz C ρ o a w K:=by
 obtain⟨hc,hK⟩:=hv;rw[Kas]at hc;obtain⟨f1,f2⟩:=ME h h1;obtain⟨c1,c2⟩:=ME h h2;refine Qz.mk hd aA h (v:=.func (.func f) (first.map a.eval) (cap.map a.eval)) (λw'=>?_) ?_ hK
 .unfold execOp;simp only[ho,Kau,Instr.makeFunc,KaY,Kan]
 .refine⟨_,_,rfl,by simpa using f1.symm,by simpa using c1.symm,λi x hx=>?_,λi x hx=>?_⟩
  .have:=f2 i x hx;rw[show(first.toList.map a.eval).toArray=first.map a.eval from Array.ext' (by simp)]at this;exact this.toA (hc x (KbF _ (Kaj hx)))
  .have:=c2 i x hx;rw[show(cap.toList.map a.eval).toArray=cap.map a.eval from Array.ext' (by simp)]at this;exact this.toA (hc x (Kbd _ (Kaj hx)))
def afh(ho:o.op= .nilCheck x)(aA:∀d,o.dst=some d->d<C.N)(h:Qt C ρ fr hp a.tmps w)
  (hx:Qj C ρ hp w px (a.eval x)) (hv:yR px o.dst fr hp K):Qz C ρ o a w K:=by
 have key:(∃b o',a.eval x= .pointer (some ⟨b,o',none⟩))\/(∃f fv cv,a.eval x= .func (.func f) fv cv)->(∀d,o.dst=some d->K (ae fr d px) hp)->(o.dst=none->K fr hp)->Qz C ρ o a w K:=by
  intro xX k1 k2;have cN:∀w',(execOp a.eval o).run C.P w'= .ok (.value (a.eval x)) w':=by intro w';unfold execOp;rcases xX with⟨b,o',e⟩|⟨f,fv,cv,e⟩<;>simp only[ho,e]<;>rfl
  cases hd:o.dst with
  |some d=>exact⟨_,cN,_,_,by rw[hd];exact h.ae hx (aA d hd),k1 d hd⟩
  |none=>exact⟨_,cN,fr,hp,by rw[hd];exact h,k2 hd⟩
 cases px with
 |mp O i o'=>obtain⟨b,hb,_,_,e⟩:=hx.B6;refine key (.inl ⟨_,_,e⟩) (λd hd=>?_) (λhd=>?_)<;>(rw[hd]at hv;exact hv)
 |np γ i o'=>obtain⟨_,b,hb,_,_,e⟩:=hx.Fq;refine key (.inl ⟨_,_,e⟩) (λd hd=>?_) (λhd=>?_)<;>(rw[hd]at hv;exact hv)
 |pt cs=>obtain⟨b,off,e,_⟩:=hx.JG;refine key (.inl ⟨_,_,e⟩) (λd hd=>?_) (λhd=>?_)<;>(rw[hd]at hv;exact hv)
 |fn f first cap=>obtain⟨fv,cv,e,_⟩:=hx;refine key (.inr ⟨_,_,_,e⟩) (λd hd=>?_) (λhd=>?_)<;>(rw[hd]at hv;exact hv)
 |jB b o'=>
  have e:Qn w (aM C ρ hp) (.jB b o') (a.eval x):=hx;obtain⟨v,r9⟩:∃v,v=a.eval x:=⟨_,rfl⟩
  rw[<-r9]at e;cases e;refine key (.inl ⟨_,_,r9.symm⟩) (λd hd=>?_) (λhd=>?_)<;>(rw[hd]at hv;exact hv)
 |_=>exact hv.elim
end Go.FW
namespace Go.FW
open Go
variable {C : Ctx} {ρ : Nat -> Option Nat} {fr : Fr} {hp : HP} {w : World} {a : Act} {K : Qf}
variable{P:Program}{e t:TypeId}{hb:HB}{o:Oper}{p px z:PV}{tmps:Array Value}{v:Value}{x:Operand}
def dw(C:Ctx)(two:Bool)(w:World)(K:Qf)(a':Act)(w':World):Prop:=
 a'.defers=[]/\(∃aG hp',eT C aG hp' a'.tmps w'/\K aG hp')/\(two=true->Ext di w w')
def kH{w w':World}{a:Act}{K':Act->World->Prop}{Q:Exit->Act->World->Prop}(hr:(execOp a.eval o).run P w= .ok (.value v) w')(hK:K' (a.put o.dst v) w'):o.wp P a w K' Q:=by unfold Oper.wp;rw[hr];exact hK
def yy{a:Act}{d:Option Nat}:(a.put d v).defers=a.defers:=by cases d<;>rfl
def Gh(w:World)(o:Obj)(k:Nat)(h:k<w.heap.size):(w.alloc o).heap[k]? =w.heap[k]? :=by show(w.heap.push o)[k]? =_;rw[Array.getElem?_push,if_neg Oz]
def oU(w:World)(o:Obj):(w.alloc o).heap[w.heap.size]? =some o:=by show(w.heap.push o)[w.heap.size]? =_;simp
def Gi(w:World)(o:Obj):(w.alloc o).heap.size=w.heap.size+1:=by show(w.heap.push o).size=_;simp
def Ext.alloc(w:World)(o:Obj)(Y:Nat->Prop):Ext Y w (w.alloc o):=⟨rfl,rfl,rfl,by rw[Gi];omega,λb hb _=>Gh w o b hb⟩
def Ext.drew(w:World)(Y:Nat->Prop):Ext Y w w.drew:=⟨rfl,rfl,rfl,Kag _,λ_ _ _=>rfl⟩
def Bs{d:Nat}(h:d<C.N):bN d=false:=by have:=C.hN;simp[bN];omega
def Qt.z8{aG:Fr}(h:Qt C ρ fr hp tmps w)(d:Nat)(hB:aP d=false)(th:Br C ρ hp w d fr aG)(aE:HB)(cur:Array Value)(cap:Nat)(w':World)(hw:w'=w.alloc (.cells cur aE.ty)\/w'=w.drew.alloc (.cells cur aE.ty))
  (hs:cur.size=cap*aE.e) (hle:aE.xs.length<=cap) (hm:cap<=maxLen) (he:0<aE.e) (hl:∀(i:Nat)(x:PV),aE.xs[i]? =some x->x.cells.length=aE.e/\x.aJ=true)
  (hc:∀(i:Nat)(x:PV),aE.xs[i]? =some x->∀(j:Nat)(y:PV),x.cells[j]? =some y->Qn w (aM C ρ hp) y (cur.getD (i*aE.e+j) undef)):
  Qt C (rb ρ d (some w.heap.size)) aG (Qg hp d aE) tmps w'/\Ext di w w':=by
 have l7:∀Y,Ext Y w w':=λY=>by
  rcases hw with rfl|rfl
  .exact Ext.alloc w _ Y
  .exact(Ext.drew w Y).trans (Ext.alloc w.drew _ Y)
 have fF:w'.heap.size=w.heap.size+1:=by rcases hw with rfl|rfl<;>rw[Gi]<;>rfl
 have axR:w'.heap[w.heap.size]? =some (.cells cur aE.ty (0,0)):=by
  rcases hw with rfl|rfl
  .exact oU w _
  .exact oU w.drew _
 refine⟨h.Cb d (some w.heap.size) aE hB th (l7 _) (λc fl=>?_) he hl (by simp) (λc fl=>?_),l7 _⟩
 .cases fl;exact⟨.inl h.ext.size,Oz,.inl (Kag _)⟩
 .cases fl;exact⟨cur,cap,axR,hs,hle,hm,hc⟩
def Qt.JA(h:Qt C ρ fr hp tmps w)(d:Nat)(hB:bN d=false)(aE:HB)(cur:Array Value)(cap:Nat)(w':World)(hw:w'=w.alloc (.cells cur aE.ty)\/w'=w.drew.alloc (.cells cur aE.ty))
  (hs:cur.size=cap*aE.e) (hle:aE.xs.length<=cap) (hm:cap<=maxLen) (he:0<aE.e) (hl:∀(i:Nat)(x:PV),aE.xs[i]? =some x->x.cells.length=aE.e/\x.aJ=true)
  (hc:∀(i:Nat)(x:PV),aE.xs[i]? =some x->∀(j:Nat)(y:PV),x.cells[j]? =some y->Qn w (aM C ρ hp) y (cur.getD (i*aE.e+j) undef)):
  Qt C (rb ρ d (some w.heap.size)) (cI d fr) (Qg hp d aE) tmps w'/\Ext di w w':=
 h.z8 d (yM hB) (GQ hB) aE cur cap w' hw hs hle hm he hl hc
def oa:maxLen=9223372036854775807:=rfl
def dw.nt{two:Bool}{d:Nat}{w':World}{aG:Fr}{hp':HP}{ρ':Nat->Option Nat}(hd:o.dst=some d)(aA:d<C.N)(bw:a.defers=[])
  (h:Qt C ρ' aG hp' a.tmps w') (hx:two=true->Ext di w w') (hv:Qj C ρ' hp' w' p v) (hK:K (ae aG d p) hp'):dw C two w K (a.put o.dst v) w':=by
 refine⟨by rw[yy];exact bw,⟨_,hp',⟨ρ',?_⟩,hK⟩,hx⟩;rw[hd];exact h.ae hv aA
def bS.aaD{X:Nat->Prop}{n:Nat}(h:bS w X p v)(hn:p.cells.length=n):v.cells.size=1*n/\∀(i:Nat)(x:PV),[p][i]? =some x->∀(j:Nat)(y:PV),x.cells[j]? =some y->Qn w X y (v.cells.getD (i*n+j) undef):=by
 obtain⟨h1,h2⟩:=h.cells;refine⟨by omega,λi x hx j y hy=>?_⟩
 match i,hx with
 |0,hx=>simp at hx;subst hx;simpa using h2 j y hy
 |i+1,hx=>simp at hx
def Uq{d n ty:Nat}{x:PV}{w':World}:Qj C (rb ρ d (some w.heap.size)) (Qg hp d ⟨n,ty,[x],false⟩) w' (.mp d 0 0) (.pointer (some ⟨w.heap.size,0,none⟩)):=by refine⟨w.heap.size,⟨n,ty,[x],false⟩,jx _ _ _,by simp[Qg],by simp⟩
def age{n:Nat}{d:Nat}{Q:Exit->Act->World->Prop}(ho:o.op= .box t x)(hd:o.dst=some d)(aA:d<C.N)(bw:a.defers=[])(h:Qt C ρ fr hp a.tmps w)
  (hx:Qj C ρ hp w px (a.eval x)) (hN:∀cs,px= .aU cs->xg n t cs d fr hp K->o.wp C.P a w (dw C true w K) Q) (hv:fM n t px d fr hp K):o.wp C.P a w (dw C true w K) Q:=by
 unfold fM at hv;split at hv
 .exact hN _ rfl hv
 split at hv
 .rename_i O o' m hm;have zO:px= .aD O o' m:=by
   cases px with
   |aD β2 o2 m2=>
    simp only at hm;split at hm
    .cases hm;rfl
    .cases hm
   |_=>cases hm
  subst zO;have hs:=h.grow (w':=w.alloc (.cells (a.eval x).cells t)) (Ext.alloc w _ _);have bc:fV ρ hp (w.alloc (.cells (a.eval x).cells t)) O o' m (a.eval x):=fV.move hx ⟨rfl,λhb ao=>⟨hb,ao,rfl,Kag _,λb cap _ hc=>nA (Gh w _ b (nE hc)) hc⟩⟩;have oF:(a.eval x).cells= #[a.eval x]:=by obtain⟨ad,cap,e⟩:=Qj.OU hx;rw[e];rfl
  refine kH (v:=.pointer (some ⟨w.heap.size,0,none⟩)) (w':=w.alloc (.cells (a.eval x).cells t)) ?_ (dw.nt (p:=.rb O o' m) hd aA bw hs (λ_=>Ext.alloc w _ _) ⟨w.heap.size,a.eval x,rfl,by rw[Gi];omega,?_,?_,bc⟩ hv)
  .unfold execOp;simp only[ho,Instr.box,newVar,newRow];simp
  .rintro(hq|⟨γ,hg,g1,_,g3⟩)
   .have:=C.IG _ hq;have:=h.ext.size;omega
   .have:=(h.own γ hg g1).du;rw[g3]at this;have:=this.2.1;omega
  .have:=oU w (.cells (a.eval x).cells t);rw[nC this (by rw[oF];simp),oF];rfl
 obtain⟨h1,h2,h3,hK⟩:=hv;have hr:=tO h hx (λO ao=>ao) h1;obtain⟨r1,r2⟩:=hr.aaD h2;obtain⟨hs,he⟩:=(h.freeze px.refs).JA d (Bs aA) ⟨n,t,[Qr hp px],false⟩ (a.eval x).cells 1 _ (.inl rfl) r1 (by simp) (by rw[oa];omega) h3
  (λi y hy=>by
   match i,hy with
   |0,hy=>simp at hy;subst hy;exact⟨h2,h1⟩
   |i+1,hy=>simp at hy) r2
 refine kH (v:=.pointer (some ⟨w.heap.size,0,none⟩)) (w':=w.alloc (.cells (a.eval x).cells t)) ?_ (dw.nt hd aA bw hs (λ_=>he) Uq hK);unfold execOp;simp only[ho,Instr.box,newVar,newRow];simp
def Q8a{n:Nat}{ti:TypeInfo}{zv:Value}{d:Nat}{Q:Exit->Act->World->Prop}(ho:o.op= .alloc t)(hd:o.dst=some d)(aA:d<C.N)(bw:a.defers=[])(h:Qt C ρ fr hp a.tmps w)
  (i1:C.P.info? t=some ti) (i2:ti.zero=some zv) (hz:tT zv=some z) (hv:fM n t z d fr hp K):o.wp C.P a w (dw C true w K) Q:=by
 unfold fM at hv;split at hv
 .exact absurd (Ga hz).1 (by simp[PV.aJ])
 split at hv
 .rename_i O o' m hm;have hd:=(Ga hz).1;cases z with
  |aD=>simp[PV.aJ]at hd
  |_=>cases hm
 obtain⟨h1,h2,h3,hK⟩:=hv;have hr:=tO (C:=C) (ρ:=ρ) (hp:=hp) h (Qj.n7 (u7 (w:=w) hz)) (λO ao=>ao) h1;obtain⟨r1,r2⟩:=hr.aaD h2;obtain⟨hs,he⟩:=(h.freeze z.refs).JA d (Bs aA) ⟨n,t,[Qr hp z],false⟩ zv.cells 1 _ (.inl rfl) r1 (by simp) (by rw[oa];omega) h3
  (λi y hy=>by
   match i,hy with
   |0,hy=>simp at hy;subst hy;exact⟨h2,h1⟩
   |i+1,hy=>simp at hy) r2
 refine kH (v:=.pointer (some ⟨w.heap.size,0,none⟩)) (w':=w.alloc (.cells zv.cells t)) ?_ (dw.nt hd aA bw hs (λ_=>he) Uq hK);unfold execOp;simp only[ho,Instr.alloc,Kau,yu i1 i2,Kan,newVar,newRow];simp
def QW{i e j:Nat}(hj:j<e):(i*e+j)%e=j:=by rw[KbM,KcN,KaP hj]
def aiH{i e j:Nat}(hj:j<e):(i*e+j)/e=i:=by rw[KbM,Kch _ _ Oz,KbV hj,Ka2]
def Qz4{z:Array Value}{n k:Nat}(hk:k<n)(hz:0<z.size):(madeCells z n).getD k undef=z.getD (k%z.size) undef:=by have h1:k%z.size<z.size:=Kbo _ hz;simp[madeCells,Array.getD,hk,h1]
def Ur{d:Nat}{n cap:Nat}{w':World}{cur:Array Value}(hle:n<=hb.xs.length)(awC:w'.heap[w.heap.size]? =some (.cells cur hb.ty (0,0)))(hs:cur.size=cap*hb.e)(hm:cap<=maxLen):
  Qj C (rb ρ d (some w.heap.size)) (Qg hp d hb) w' (.ms d n) (.slice (some ⟨w.heap.size,0,none⟩) n cap):=
 ⟨hb,by simp[Qg],Oz,.inr ⟨w.heap.size,cap,jx _ _ _,by simp,⟨cur,hb.ty,awC,by rw[Ka2];exact hs⟩,Oz⟩⟩
def aiI{n by_:Nat}{l c:Operand}{pl pc:PV}{d:Nat}{Q:Exit->Act->World->Prop}(ho:o.op= .makeSlice t l c)(hd:o.dst=some d)(aA:d<C.N)(bw:a.defers=[])(h:Qt C ρ fr hp a.tmps w)
  (hu:C.P.underlying t=some (.slice e)) (hz:mh C.P e=some (n,by_,z)) (hl:Qj C ρ hp w pl (a.eval l)) (hc:Qj C ρ hp w pc (a.eval c)) (hv:pR n by_ e z pl pc d fr hp K):o.wp C.P a w (dw C true w K) Q:=by
 unfold pR at hv;split at hv
 .rename_i kl L kc Cc;obtain⟨h0,h1,h2,h3,h4,h5,hK⟩:=hv;obtain⟨ti,zv,i1,i2,i3,i4,i5⟩:=vh hz;have el:=hl.mG;have ec:=hc.mG;have jY:=(u7 (w:=w) (X:=aM C ρ hp) i5).cells;have wA:zv.cells.size=n:=by rw[jY.1];exact h1
  have cN:=run_make (P:=C.P) w t e ti zv hu i1 i2 kl kc L Cc h2 h3 (by rw[i4];exact h4) h5;rw[i3]at cN;obtain⟨hs,he⟩:=h.JA d (Bs aA) ⟨n,e,List.replicate L.toNat z,false⟩ (madeCells zv.cells (Cc.toNat*n)) Cc.toNat _ (.inl rfl) (size_madeCells _ _) (by simp;omega) (by rw[oa];omega) h0
   (λi x hx=>by have bc:=Kaj hx;obtain rfl:=(List.mem_replicate.1 bc).2;exact⟨h1,(Ga i5).1⟩)
   (λi x hx j y hy=>by
    have hi:i<L.toNat:=by have:=(Kah.1 hx).1;simpa using this
    obtain rfl:=(List.mem_replicate.1 (Kaj hx)).2;have hj:j<n:=by have:=(Kah.1 hy).1;omega
    have zF:i*n+0+j<Cc.toNat*n:=o6 Oz (by omega:0+n<=n) hj;rw[Qz4 Oz Oz,wA,QW hj];exact jY.2 j y hy)
  refine kH (v:=.slice (some ⟨w.heap.size,0,none⟩) L.toNat Cc.toNat) ?_ (dw.nt hd aA bw hs (λ_=>he) (Ur (by simp) (oU w _) (size_madeCells _ _) (by rw[oa];omega)) hK);unfold execOp;simp only[ho,el,ec,Kau,cN,Kan];rfl
 .exact hv.elim
end Go.FW
namespace Go.FW
open Go
variable {C : Ctx} {ρ : Nat -> Option Nat} {fr : Fr} {hp : HP} {w : World} {a : Act} {K : Qf}
variable{P:Program}{cs l:List PV}{cur tmps:Array Value}{e t:TypeId}{hb:HB}{o:Oper}{px py z:PV}{v:Value}{x y:Operand}
def Wa(n:Nat):∀(xs:List (List PV))(s:Nat)(pre rest:List PV),(∀x∈xs,x.length=n)->pre.length=s*n->rest.length=xs.length*n->
  jN (pre++rest) ((xs.zipIdx s).map λp=>(p.2*n,p.1))=pre++xs.flatten
 | [],s,pre,rest,_,_,hr=>by simp at hr;subst hr;simp[jN]
 | x::xs,s,pre,rest,hx,hp,hr=>by
  have Jj:=hx x (by simp);simp only[List.zipIdx_cons,Ka3,jN];have e1:(pre++rest).take (s*n)=pre:=by rw[<-hp];exact List.take_left
  have e2:(pre++rest).drop (s*n+x.length)=rest.drop n:=by rw[Jj,<-hp,<-List.drop_drop,List.drop_left]
  rw[e1,e2];have hlen:(pre++x).length=(s+1)*n:=by simp[hp,Jj,KaL]
  have zP:(rest.drop n).length=xs.length*n:=by simp[hr,KaL]
  rw[Wa n xs (s+1) (pre++x) (rest.drop n) (λy hy=>hx y (by simp[hy])) hlen zP];simp
def C7{n:Nat}(hn:0<n):∀(xs:List (List PV))(i j:Nat)(x:List PV)(y:PV),(∀x∈xs,x.length=n)->xs[i]? =some x->x[j]? =some y->xs.flatten[i*n+j]? =some y
 | [],i,j,x,y,_,h,_=>by simp at h
 |z::xs,0,j,x,y,hl,h,hy=>by simp at h;subst h;have hj:j<z.length:=(Kah.1 hy).1;simp only[List.flatten_cons,Kci,Ka2];rw[Kbw hj];exact hy
 |z::xs,i+1,j,x,y,hl,h,hy=>by simp at h;have hz:=hl z (by simp);simp only[List.flatten_cons];rw[Kbb (by rw[hz,KaL];omega)];rw[show(i+1)*n+j-z.length=i*n+j by rw[hz,KaL];omega];exact C7 hn xs i j x y (λq hq=>hl q (by simp[hq])) h hy
def Q3f{parts:List (Nat×Operand)}{len i:Nat}{p:Nat×Operand}(h:parts.map (·.1)=List.range len)(hp:parts[i]? =some p):p.1=i:=by
 have h1:(parts.map (·.1))[i]? =some p.1:=by simp[hp]
 rw[h]at h1;have hi:i<len:=by have:=(Kah.1 h1).1;simpa using this
 rw[KcR hi]at h1;simp at h1;exact h1.symm
def agf{X:Nat->Prop}{e:TypeId}{n N by_:Nat}{zv:Value}(i5:tT zv=some z)(hz:z.cells.length=n)(hn:0<n):
  Rows w X ((List.range N).map λk=>z.cells.getD (k%n) .undef) ((Array.range N).map (zv.cells[· %zv.cells.size]!)):=by
 have jY:=(u7 (w:=w) (X:=X) i5).cells;refine⟨by simp,λi x hx=>?_⟩;have hi:i<N:=by have:=(Kah.1 hx).1;simpa using this
 simp only[Kaw,KcR hi,KbZ,KaG]at hx;have hm:i%n<z.cells.length:=by rw[hz];exact Kbo _ hn
 have bc:z.cells[i%n]? =some x:=by rw[<-hx];simp[hm]
 have:=jY.2 _ x bc;have hs:zv.cells.size=n:=by rw[jY.1];exact hz
 have pI:i%n<zv.cells.size:=Oz;have e2:((Array.range N).map (zv.cells[· %zv.cells.size]!)).getD i undef=zv.cells.getD (i%n) undef:=by have hmn:i%n<n:=Kbo _ hn;simp[Array.getD,hi,hs,hmn,getElem!_def,Kbu pI]
 rw[e2];exact this
def aiJ{len n by_:Nat}{parts:Array (Nat×Operand)}{ps:List aW}{d:Nat}{Q:Exit->Act->World->Prop}(ho:o.op= .buildSlice t len parts)(hd:o.dst=some d)(aA:d<C.N)(bw:a.defers=[])(h:Qt C ρ fr hp a.tmps w)
  (hu:C.P.underlying t=some (.slice e)) (hz:mh C.P e=some (n,by_,z)) (wq:parts.toList.map (·.1)=List.range len) (aaa:len*n<=16777216) (mF:z.cells.length=n) (fR:(parts.toList.mapM λp=>cl p.2)=some ps)
  (hv:DZ n e (ps.map (ev fr)) d fr hp K):o.wp C.P a w (dw C true w K) Q:=by
 obtain⟨h0,aT,hK⟩:=hv;obtain⟨ti,zv,i1,i2,i3,i4,i5⟩:=vh hz;obtain⟨m1,m2⟩:=n8 fR;have hlen:parts.toList.length=len:=by have:=congrArg List.length wq;simpa using this
 have bx:ps.length=len:=Oz
 let xs:List (List PV):=(ps.map (ev fr)).map λp=>(Qr hp p).cells
 have eM:∀x∈xs,x.length=n:=by intro x hx;simp only[xs,KaD]at hx;obtain⟨p,⟨q,hq,rfl⟩,rfl⟩:=hx;exact(aT _ (KaD.2 ⟨q,hq,rfl⟩)).2
 have OL:xs.length=len:=by simp[xs,bx]
 have rQ:(parts.map λ(x:Nat×Operand)=>(x.1,a.eval x.2)).toList=parts.toList.map λx=>(x.1,a.eval x.2):=by simp
 have X4:Rows w (aM C ρ (Qu hp ((ps.map (ev fr)).flatMap PV.refs))) ((List.range (len*n)).map λk=>z.cells.getD (k%n) .undef) ((Array.range (len*n)).map ((if len*n=0 then(#[]:Array Value)else zv.cells)[· %(if len*n=0 then(#[]:Array Value)else zv.cells).size]!)):=by
  by_cases tp:len*n=0
  .rw[if_pos tp,tp];exact⟨by simp,by simp⟩
  .rw[if_neg tp];exact agf (e:=e) (by_:=by_) i5 mF h0
 obtain⟨eP,g1,g2⟩:=Gz (λi=>some (i*n,n)) (parts.toList.map λx=>(x.1,a.eval x.2)) ((xs.zipIdx 0).map λp=>(p.2*n,p.1)) _ _ X4 (by simp[OL,hlen]) (λi p q uI xU=>by
  simp only[Kaw,Kaa]at uI xU;obtain⟨x,hx,rfl⟩:=uI;obtain⟨q0,kT,rfl⟩:=xU;rw[List.getElem?_zipIdx]at kT;simp only[Kaa]at kT;obtain⟨y,hy,rfl⟩:=kT;simp only[Ka2];have hyn:=eM y (Kaj hy);simp only[xs,Kaw,Kaa]at hy;obtain⟨pv,⟨u,oN,rfl⟩,rfl⟩:=hy;obtain⟨x',bc,Oj⟩:=m2 i u oN;rw[hx]at bc;cases bc;have hi:i<len:=by have:=(Kah.1 hx).1;omega
  obtain⟨o1,o2⟩:=aT (ev fr u) (KaD.2 ⟨u,Kaj oN,rfl⟩);refine⟨by rw[Q3f wq hx,hyn],(tO h (dm h Oj) (λO ao=>Kat.2 ⟨_,KaD.2 ⟨u,Kaj oN,rfl⟩,ao⟩) o1).rows,?_⟩;rw[hyn];simp;have:(i+1)*n<=len*n:=Kap n hi;rw[KaL]at this;omega)
 have N2:=Wa n xs 0 [] ((List.range (len*n)).map λk=>z.cells.getD (k%n) .undef) eM (by simp) (by simp[OL]);simp only[KaO]at N2;rw[N2]at g2;have xP:xs.flatten.length=len*n:=by
  have:=g2.1;have hb:=X4.1;have h2:jN ((List.range (len*n)).map λk=>z.cells.getD (k%n) .undef) ((xs.zipIdx 0).map λp=>(p.2*n,p.1))=xs.flatten:=N2;rw[List.length_flatten];have:xs.map List.length=List.replicate xs.length n:=by apply Ka9 (by simp);intro i h1 h2;simp only[Kbc,List.getElem_replicate];exact eM _ (Kad _)
  rw[this,List.sum_replicate_nat,OL]
 have nj:eP.size=len*n:=by rw[g2.1,xP]
 obtain⟨hs,he⟩:=(h.freeze ((ps.map (ev fr)).flatMap PV.refs)).JA d (Bs aA) ⟨n,e,(ps.map (ev fr)).map (Qr hp),false⟩ eP len _ (.inl rfl) nj (by simp[bx]) (by rw[oa];have:len*1<=len*n:=Ka8 len h0;omega) h0
  (λi x hx=>by simp only[Kaw,Kaa]at hx;obtain⟨p,⟨u,oN,rfl⟩,rfl⟩:=hx;obtain⟨o1,o2⟩:=aT (ev fr u) (KaD.2 ⟨u,Kaj oN,rfl⟩);exact⟨o2,o1⟩)
  (λi x hx j y hy=>by refine g2.2 _ y (C7 h0 xs i j x.cells y eM ?_ hy);simp only[Kaw,Kaa,xs]at hx⊢;obtain⟨p,iI,rfl⟩:=hx;exact⟨p,iI,rfl⟩)
 refine kH (v:=.slice (some ⟨w.heap.size,0,none⟩) len len) ?_ (dw.nt hd aA bw hs (λ_=>he) ?_ hK)
 .unfold execOp;have oK:¬(len*n>2^24):=Oz;have ET:(parts.map λx=>match x with|(i,x)=>(i,a.eval x)).toList=parts.toList.map λx=>(x.1,a.eval x.2):=rQ
  simp only[ho,Instr.buildSlice,Kau,kj hu,Kan,nB (show fw C.P e=some n by simp[fw,i1,i3]),if_neg oK,ET];by_cases tp:len*n=0
  .simp only[if_pos tp]at g1⊢;simp only[KaY,Kan,Kau,g1,newRow];simp
  .simp only[if_neg tp]at g1⊢;simp only[KaY,Kan,Kau,yu i1 i2,g1,newRow];simp
 .rw[show(ps.map (ev fr)).length=len by simp[bx]];exact Ur (by simp[bx]) (oU w _) nj (by rw[oa];have:len*1<=len*n:=Ka8 len h0;omega)
def Cx(w:World)(b:Nat)(cur:Array Value):Ext (λc=>c=b) w (w.setRow b cur):=
 ⟨rfl,rfl,rfl,by simp,λk hk hn=>setRow_other w b k _ hn⟩
def Cv{p:Nat}{cs:List Value}{k:Nat}(hle:p+cs.length<=cur.size)(hk:k<cur.size):
  ((cur.toList.take p++cs++cur.toList.drop (p+cs.length)).toArray).getD k undef=if p<=k/\k<p+cs.length then cs.getD (k-p) undef else cur.getD k undef:=by
 have cY:k<cur.toList.length:=by simpa using hk
 have ht:(cur.toList.take p).length=p:=by simp;omega
 simp only[KaS,List.getElem?_toArray,Kbr,Kac];rw[KaV,ht];by_cases c1:k<p
 .rw[if_pos c1,if_neg Oz,KaM c1];simp
 .rw[if_neg c1,KaV];by_cases c2:k-p<cs.length
  .rw[if_pos c2,if_pos Oz]
  .rw[if_neg c2,if_neg Oz,Ka1];rw[show p+cs.length+(k-p-cs.length)=k by omega];simp
def Cw{p:Nat}{cs:List Value}(hle:p+cs.length<=cur.size):((cur.toList.take p++cs++cur.toList.drop (p+cs.length)).toArray).size=cur.size:=by simp;omega
def Va{n b off:Nat}{ty:TypeId}(hn:fw P t=some n)(hs:v.cells.size=n)(hg:w.heap[b]? =some (.cells cur ty (0,0)))(hle:off+n<=cur.size)(h1:∀u∈v.cells.toList,u.oneCell'=true):
  (storeVar t ⟨b,off,none⟩ v).run P w= .ok () (w.setRow b (cur.toList.take off++v.cells.toList++cur.toList.drop (off+n)).toArray):=by
 unfold storeVar;have a9:=run_storeCells_at P b off ty v.cells.toList 0 cur w hg (by simp[hs];omega) h1;simp only[KaW,Kcd,hs]at a9;have aS:¬(v.cells.size≠n):=by simp[hs]
 simp only[Kau,nB hn,Kan,if_neg aS];exact a9
def aiK{x:PV}{o:Nat}{v:PV}{j:Nat}(hl:o+v.cells.length<=x.cells.length)(hj:j<x.cells.length):
  (uX x o v).cells[j]? =if o<=j/\j<o+v.cells.length then v.cells[j-o]? else x.cells[j]? :=by
 show(x.cells.take o++v.cells++x.cells.drop (o+v.cells.length))[j]? =_;rw[Kbr];have ht:(x.cells.take o).length=o:=by simp;omega
 rw[KaV,ht];by_cases c1:j<o
 .rw[if_pos c1,if_neg Oz,KaM c1]
 .rw[if_neg c1,KaV];by_cases c2:j-o<v.cells.length
  .rw[if_pos c2,if_pos Oz]
  .rw[if_neg c2,if_neg Oz,Ka1];rw[show o+v.cells.length+(j-o-v.cells.length)=j by omega]
def apW{x:PV}{o:Nat}{v:PV}(hl:o+v.cells.length<=x.cells.length):(uX x o v).cells.length=x.cells.length:=by show(List.take o x.cells++v.cells++List.drop (o+v.cells.length) x.cells).length=_;simp;omega
def QX{e i j m k n:Nat}(hj:j<e)(hk:k+n<=e)(aS:i≠m):¬(m*e+k<=i*e+j/\i*e+j<m*e+k+n):=by
 intro⟨h1,h2⟩;rcases Nat.lt_or_gt_of_ne aS with h|h
 .have:(i+1)*e<=m*e:=Kap e h;rw[KaL]at this;omega
 .have:(m+1)*e<=i*e:=Kap e h;rw[KaL]at this;omega
def Dg{i k:Nat}{nx x:PV}(h:(l.set i nx)[k]? =some x):(i=k/\x=nx)\/(i≠k/\l[k]? =some x):=by
 by_cases wb:i=k
 .subst wb;have hi:i<l.length:=by have:=(Kah.1 h).1;simpa using this
  rw[List.getElem?_set_self hi]at h;cases h;exact .inl ⟨rfl,rfl⟩
 .rw[List.getElem?_set_ne wb]at h;exact .inr ⟨wb,h⟩
def dx.aV{p:PV}{v:Value}(h:dx C ρ hp w p v):p.aV=[p]:=by
 cases p with
 |agg=>cases h
 |aU=>cases h
 |_=>rfl
def Wb(h:∀c∈l,c.aV=[c]):(eW l).aV=l:=by
 unfold eW;split
 .exact h _ (by simp)
 .exact Q74 _
def Sh(h:Qj C ρ hp w py v)(hs:gM py=some cs):v.cells.size=cs.length/\(∀(j:Nat)(y:PV),cs[j]? =some y->dx C ρ hp w y (v.cells.getD j undef))/\∀u∈v.cells.toList,u.oneCell'=true:=by
 have one:∀ {p:PV},dx C ρ hp w p v->p≠ .undef->cs=[p]->v.cells.size=cs.length/\(∀(j:Nat)(y:PV),cs[j]? =some y->dx C ρ hp w y (v.cells.getD j undef))/\∀u∈v.cells.toList,u.oneCell'=true:=by
  rintro p hr hu rfl;obtain⟨h1,h2⟩:=hr.uV hu;rw[h2];refine⟨rfl,λj y hy=>?_,λu oN=>?_⟩
  .match j,hy with
   |0,hy=>simp at hy;subst hy;exact hr
   |j+1,hy=>simp at hy
  .simp at oN;subst oN;exact h1
 cases py with
 | aU cs'=>
  simp only[gM]at hs;split at hs
  .rename_i bY;simp only[KaG]at hs;subst hs;obtain⟨vs,rfl,h1,h2⟩:=h;refine⟨h1,h2,λu hu=>?_⟩;obtain⟨j,hj,rfl⟩:=KaH hu;have dz:j<vs.size:=by simpa[Value.cells]using hj
   have hp:j<cs'.length:=Oz;have h3:=h2 j cs'[j] (Kae hp);have h4:=Kas.1 bY cs'[j] (Kad hp);have:=(h3.uV (λe=>by rw[e]at h4;cases h4)).1;simpa[Array.getD,dz,Value.cells]using this
  .cases hs
 |aK γ o n=>simp only[gM,KaG]at hs;exact one (p:=.aK γ o n) h (by simp) hs.symm
 |aD O o n=>
  simp only[gM]at hs;split at hs
  .rename_i hB;simp only[KaG]at hs;exact one (p:=.aD O o n) ⟨hB,h⟩ (by simp) hs.symm
  .cases hs
 |int k n=>simp only[gM,KaG]at hs;exact one (p:=.int k n) h (by simp) hs.symm
 |bool b=>simp only[gM,KaG]at hs;exact one (p:=.bool b) h (by simp) hs.symm
 |aa=>simp only[gM,KaG]at hs;exact one (p:=.aa) h (by simp) hs.symm
 |sl e xs=>simp only[gM,KaG]at hs;exact one (p:=.sl e xs) h (by simp) hs.symm
 |pt cs'=>simp only[gM,KaG]at hs;exact one (p:=.pt cs') h (by simp) hs.symm
 |agg cs'=>simp only[gM,KaG]at hs;subst hs;have hr:bS w (aM C ρ hp) (.agg cs') v:=h;obtain⟨h1,h2⟩:=hr.cells;exact⟨h1,λj y hy=>dx.ofC (h2 j y hy),hr.aaA⟩
 |_=>cases hs
def Qt.OV{w':World}(h:Qt C ρ fr hp tmps w){γ b e ty:Nat}{xs':List PV}{cur':Array Value}{cap:Nat}(hB:bN γ=true)(he:0<e)(ak:hp γ=some hb)(oG:hb.fz=false)(bQ:hb.xs=[])(NV:hb.e=e)(ht:hb.ty=ty)(bT:ρ γ=some b)
  (hx:Ext (λc=>c=b) w w') (eY:∀e cap,eh w b e cap->eh w' b e cap) (h1:w'.heap[b]? =some (.cells cur' ty (0,0))) (h2:cur'.size=cap*e) (h3:xs'.length<=cap) (h4:cap<=maxLen)
  (h5:∀(i:Nat)(x:PV),xs'[i]? =some x->x.aV.length=e) (h6:∀(i:Nat)(x:PV),xs'[i]? =some x->∀(j:Nat)(y:PV),x.aV[j]? =some y->dx C ρ hp w y (cur'.getD (i*e+j) undef)):
  Qt C ρ (FW.ae (gC γ fr) γ (.aH γ e ty xs')) hp tmps w':=by
 have NI:aM C ρ hp b:=.inr ⟨γ,hb,ak,oG,bT⟩;have I5:eB γ=false:=by
  cases hq:eB γ with
  |false=>rfl
  |true=>have:=(h.own γ hb ak).ro hq;rw[oG]at this;cases this
 have fl:nK w w' (aM C ρ hp) (aM C ρ hp):=⟨λc hc hn=>hx.block c hc (λe=>hn (e▸NI)),λ_ _ hn=>hn,hx.size⟩
 have bP:=(h.own γ hb ak).du;rw[bT]at bP;have l7:Ext C.Y0 C.w0 w':=by refine h.ext.trans' (Y':=λc=>c=b) hx ?_;intro c hc he;subst he;exact(Ctx.Il bP.1 I5).resolve_left Oz
 have EJ:∀O c,C.fx O=some c->∀e cap,eh C.w0 c e cap->eh w' c e cap:=λb0 c fl e cap kB=>by
  have jC:=h.fG b0 c fl e cap kB;by_cases iG:c=b
  .rw[iG]at jC ⊢;exact eY e cap jC
  .exact nA (hx.block c (nE jC) iG) jC
 have qU:∀O hg c,O≠γ->hp O=some hg->ρ O=some c->¬c=b:=λO hg c aS jq hr e=>aS (h.inj O γ b (by simp[jq]) (by simp[ak]) (e▸hr) bT)
 have c0:∀O,xj ρ ρ hp hp w w' O:=λO=>⟨rfl,λhg jq=>⟨hg,jq,rfl,Kag _,λc cap hr kB=>by
  by_cases aS:O=γ
  .subst aS;rw[bT]at hr;cases hr;exact eY _ _ kB
  .exact nA (hx.block c (nE kB) (qU O hg c aS jq hr)) kB⟩⟩
 refine⟨h.sz,l7,EJ,λO hg ao=>?_,h.inj,λi=>?_⟩
 .obtain⟨p1,p2,p3,p4,p5⟩:=h.own O hg ao;refine⟨p1,p2,?_,p4,p5⟩;by_cases aS:O=γ
  .subst aS;rw[ak]at ao;cases ao;rw[bT]at p3⊢;exact⟨p3.1,Kbj p3.2.1 hx.size,cur',cap,by rw[h1,ht],by rw[NV];exact h2,by rw[bQ];simp,h4,by rw[bQ];simp⟩
  .cases hr:ρ O with
   |none=>rw[hr]at p3;exact p3
   |some c=>rw[hr]at p3;exact⟨p3.1,Kbj p3.2.1 hx.size,p3.2.2.move (hx.block c p3.2.1 (qU O hg c aS ao hr)) rfl rfl rfl fl.rc⟩
 .unfold FW.ae;split
  .exact⟨hB,he,b,hb,cur',cap,bT,ak,bQ,NV,ht,h1,h2,h3,h4,h5,λi x hi j y hy=>(h6 i x hi j y hy).move fl (λO _=>c0 O)⟩
  .have bm:=h.cQ i;unfold gC;generalize fr i=p at bm;have mv:(∀bo e ty xs,p= .aH bo e ty xs->bo≠γ)->Qj C ρ hp w' p (tmps.getD i undef):=λhq=>
    bm.move fl (λO _=>⟨(c0 O).r,(c0 O).h⟩) (λO _=>c0 O) (λbo e ty xs e1=>⟨rfl,λhg jq=>by have aS:=hq bo e ty xs e1;refine⟨hg,jq,rfl,Kag _,λc cap hr kB=>nA (hx.block c (nE kB) (qU bo hg c aS jq hr)) kB,λhe=>⟨he,rfl,λc hr=>hx.block c ?_ (qU bo hg c aS jq hr)⟩⟩;have:=(h.own bo hg jq).du;rw[hr]at this;exact this.2.1⟩)
   cases p with
   |aH bo e' ty' xs=>
    simp only[fj];split
    .trivial
    .rename_i aS;exact mv (λ_ _ _ _ e1=>by cases e1;exact aS)
   |_=>exact mv (λ_ _ _ _ e1=>by cases e1)
def QY{o j:Nat}(hl:o+cs.length<=l.length)(hj:j<l.length):(rF l o cs)[j]? =if o<=j/\j<o+cs.length then cs[j-o]? else l[j]? :=by
 unfold rF;rw[Kbr];have ht:(l.take o).length=o:=by simp;omega
 rw[KaV,ht];by_cases c1:j<o
 .rw[if_pos c1,if_neg Oz,KaM c1]
 .rw[if_neg c1,KaV];by_cases c2:j-o<cs.length
  .rw[if_pos c2,if_pos Oz]
  .rw[if_neg c2,if_neg Oz,Ka1];rw[show o+cs.length+(j-o-cs.length)=j by omega]
def MG{o:Nat}(hl:o+cs.length<=l.length):(rF l o cs).length=l.length:=by unfold rF;simp;omega
def aiL   {n:Nat}   {Q:Exit->Act->World->Prop} (ho:o.op= .store t x y) (hd:o.dst=none) (bw:a.defers=[]) (h:Qt C ρ fr hp a.tmps w)
  (hn:fw C.P t=some n) (hx:Qj C ρ hp w px (a.eval x)) (hy:Qj C ρ hp w py (a.eval y)) (hv:pV n px py fr hp K):o.wp C.P a w (dw C false w K) Q:=by
 unfold pV at hv;split at hv
 .rename_i O i o';split at hv
  .rename_i hb ao;obtain⟨h1,h2,h3,h4,h5,hK⟩:=hv;obtain⟨b,oE,g1,g2,ex⟩:=hx.B6;obtain⟨hb1,g3,e1,e2,e3,e4,_⟩:=Gf (l:=py.refs) g2;rw[ao]at g3;cases g3;have Ev:=e4 h1;subst Ev;have hf:=h.freeze py.refs;have hr:=tO h hy (λO ao=>ao) h2;have zU:=hr.cells;have bP:=hf.own O hb ao;have bu:=bP.du;rw[g1]at bu;obtain⟨b1,b2,cur,cap,c1,c2,c3,c4,c5⟩:=bu;have gB:=Kae h4;have ff:=(bP.len i _ gB).1;have nj:(a.eval y).cells.size=n:=by rw[zU.1,h3]
   have tk:i*hb.e+o'+n<=cur.size:=by rw[c2];have:(i+1)*hb.e<=cap*hb.e:=Kap _ Oz;rw[KaL]at this;omega
   have cN:=Va (P:=C.P) (w:=w) (off:=i*hb.e+o') hn nj c1 tk hr.aaA;have lE:(a.eval y).cells.toList.length=n:=by simp[nj]
   have im:∀k,k<cur.size->((cur.toList.take (i*hb.e+o')++(a.eval y).cells.toList++cur.toList.drop (i*hb.e+o'+n)).toArray).getD k undef=if i*hb.e+o'<=k/\k<i*hb.e+o'+n then(a.eval y).cells.getD (k-(i*hb.e+o')) undef else cur.getD k undef:=by intro k hk;have:=Cv (cur:=cur) (p:=i*hb.e+o') (cs:=(a.eval y).cells.toList) (k:=k) Oz hk;rw[lE]at this;rw[this];simp[KaS,Kac]
   have ni:((cur.toList.take (i*hb.e+o')++(a.eval y).cells.toList++cur.toList.drop (i*hb.e+o'+n)).toArray).size=cur.size:=by
    have:=Cw (cur:=cur) (p:=i*hb.e+o') (cs:=(a.eval y).cells.toList) Oz
    rwa[lE]at this
   have pJ:(if n=hb.e then Qr hp py else uX (hb.xs[i]'h4) o' (Qr hp py)).cells.length=hb.e/\(if n=hb.e then Qr hp py else uX (hb.xs[i]'h4) o' (Qr hp py)).aJ=true:=by
    by_cases hc:n=hb.e
    .rw[if_pos hc];exact⟨by omega,h2⟩
    .rw[if_neg hc];exact⟨by rw[apW Oz];exact ff,rfl⟩
   obtain⟨nx,il⟩:∃nx,nx=(if n=hb.e then Qr hp py else uX (hb.xs[i]'h4) o' (Qr hp py)):=⟨_,rfl⟩
   rw[<-il]at hK pJ;have a9:=hf.store O b hb { hb with xs:=hb.xs.set i nx } ao h1 (by intro e;rw[e]at h4;simp at h4) g1 (Cx w b _) rfl (by simp) h1
    (λk x hk=>by
     rcases Dg hk with⟨_,rfl⟩|⟨_,hk⟩
     .exact pJ
     .exact bP.len k x hk)
    (λe' fZ eY=>by obtain⟨cur',ty',d1,d2⟩:=eY;rw[c1]at d1;cases d1;exact⟨_,_,setRow_heap w b cur _ hb.ty _ c1,by rw[ni];exact d2⟩)
    ⟨_, cap,setRow_heap w b cur _ hb.ty _ c1,by rw[ni];exact c2,by simpa using c3,c4,λk x hk j z hz=>by
     have wc:k<hb.xs.length:=by have:=(Kah.1 hk).1;simpa using this
     have eM:x.cells.length=hb.e:=by
      rcases Dg hk with⟨_,rfl⟩|⟨_,hk⟩
      .exact pJ.1
      .exact(bP.len k x hk).1
     have hj:j<hb.e:=by have:=(Kah.1 hz).1;omega
     have aA:k*hb.e+0+j<cap*hb.e:=o6 Oz (by omega:0+hb.e<=hb.e) hj;show Qn w _ z (Array.getD _ (k*hb.e+j) undef);rw[im _ Oz];rcases Dg hk with⟨zC,Jj⟩|⟨zC,hk⟩
     .subst zC;subst Jj;by_cases hc:n=hb.e
      .rw[il,if_pos hc]at hz;have zL:o'=0:=Oz;subst zL;rw[if_pos Oz];rw[show i*hb.e+j-(i*hb.e+0)=j by omega];exact zU.2 j z hz
      .rw[il,if_neg hc]at hz;rw[aiK Oz Oz,h3]at hz;by_cases Zx:o'<=j/\j<o'+n
       .rw[if_pos Zx]at hz;rw[if_pos Oz];rw[show i*hb.e+j-(i*hb.e+o')=j-o' by omega];exact zU.2 _ z hz
       .rw[if_neg Zx]at hz;rw[if_neg Oz];exact c5 i _ gB j z hz
     .rw[if_neg (QX hj Oz (λe=>zC e.symm))];exact c5 k x hk j z hz⟩
   unfold Oper.wp;have hex:(execOp a.eval o).run C.P w= .ok .skip (w.setRow b (cur.toList.take (i*hb.e+o')++(a.eval y).cells.toList++cur.toList.drop (i*hb.e+o'+n)).toArray):=by unfold execOp;simp only[ho,ex,Kau,Instr.storeAt,Instr.sureAddr,KaY,Kan,cN]
   rw[hex];refine⟨by rw[yy];exact bw,⟨fr,_,⟨ρ,?_⟩,hK⟩,by simp⟩;rw[hd];exact a9
  .exact hv.elim
 .rename_i γ i o';split at hv
  .rename_i bo e ty xs ak;obtain⟨rfl,⟨hb,k1,k2⟩,h1,h2,hv⟩:=hv;split at hv
   .rename_i cs lz;obtain⟨h3,hK⟩:=hv;obtain⟨r1,r2,r3⟩:=Sh hy lz;obtain⟨hB,b,aE,g1,g2,ex⟩:=hx.Fq;rw[k1]at g2;cases g2;have bm:=h.cQ bo;rw[ak]at bm;obtain⟨_,zA,b',aE,cur,cap,q1,q2,q3,q4,q5,q6,q7,q8,q9,Aa,wD⟩:=bm;rw[g1]at q1;cases q1;rw[k1]at q2;cases q2;rw[q4]at ex;have gB:=Kae h1;have ff:=Aa i _ gB;have nj:(a.eval y).cells.size=n:=by rw[r1,h3]
    have tk:i*e+o'+n<=cur.size:=by rw[q7];have:(i+1)*e<=cap*e:=Kap _ Oz;rw[KaL]at this;omega
    have cN:=Va (P:=C.P) (w:=w) (off:=i*e+o') hn nj q6 tk r3;have lE:(a.eval y).cells.toList.length=n:=by simp[nj]
    have im:∀k,k<cur.size->((cur.toList.take (i*e+o')++(a.eval y).cells.toList++cur.toList.drop (i*e+o'+n)).toArray).getD k undef=if i*e+o'<=k/\k<i*e+o'+n then(a.eval y).cells.getD (k-(i*e+o')) undef else cur.getD k undef:=by intro k hk;have:=Cv (cur:=cur) (p:=i*e+o') (cs:=(a.eval y).cells.toList) (k:=k) Oz hk;rw[lE]at this;rw[this];simp[KaS,Kac]
    have ni:((cur.toList.take (i*e+o')++(a.eval y).cells.toList++cur.toList.drop (i*e+o'+n)).toArray).size=cur.size:=by
     have:=Cw (cur:=cur) (p:=i*e+o') (cs:=(a.eval y).cells.toList) Oz
     rwa[lE]at this
    generalize(cur.toList.take (i*e+o')++(a.eval y).cells.toList++cur.toList.drop (i*e+o'+n)).toArray=W at cN im ni;have Fa:o'+cs.length<=(xs[i]).aV.length:=by rw[ff,h3];exact h2
    have qG:∀c∈rF (xs[i]).aV o' cs,c.aV=[c]:=by
     intro c hc;obtain⟨j,hj⟩:=KaI hc;have tn:j<(xs[i]).aV.length:=by have:=(Kah.1 hj).1;rwa[MG Fa]at this
     rw[QY Fa tn]at hj;split at hj
     .exact(r2 _ c hj).aV
     .exact(wD i _ gB j c hj).aV
    have bW:=Wb qG;have a9:=h.OV (w':=w.setRow b W) (xs':=xs.set i (eW (rF (xs[i]).aV o' cs))) (cur':=W) (cap:=cap) hB zA k1 k2 q3 q4 q5 g1 (Cx w b W)
     (λe2 Ea hcp=>by obtain⟨ay7,ty2,d1,d2⟩:=hcp;rw[q6]at d1;cases d1;exact⟨_,_,setRow_heap w b cur _ ty _ q6,by rw[ni];exact d2⟩)
     (setRow_heap w b cur W ty _ q6) (by rw[ni];exact q7) (by simpa using q8) q9
     (λk x hk=>by
      rcases Dg hk with⟨_,rfl⟩|⟨_,hk⟩
      .rw[bW,MG Fa];exact ff
      .exact Aa k x hk)
     (λk x hk j y' iV=>by
      rcases Dg hk with⟨rfl,rfl⟩|⟨aS,hk⟩
      .rw[bW]at iV;have tn:j<(xs[i]).aV.length:=by have:=(Kah.1 iV).1;rwa[MG Fa]at this
       have zB:j<e:=Oz;have zF:i*e+0+j<cap*e:=o6 (n:=e) Oz Oz zB;rw[QY Fa tn]at iV;rw[im _ Oz];split at iV
       .rename_i hr;rw[if_pos Oz,show i*e+j-(i*e+o')=j-o' by omega];exact r2 _ y' iV
       .rename_i hr;rw[if_neg Oz];exact wD i _ gB j y' iV
      .have wc:k<xs.length:=(Kah.1 hk).1;have zB:j<e:=by have:=(Kah.1 iV).1;have:=Aa k x hk;omega
       have zF:k*e+0+j<cap*e:=o6 (n:=e) Oz Oz zB;rw[im _ Oz,if_neg (QX zB h2 (λe=>aS e.symm))];exact wD k x hk j y' iV)
    unfold Oper.wp;have hex:(execOp a.eval o).run C.P w= .ok .skip (w.setRow b W):=by unfold execOp;simp only[ho,ex,Kau,Instr.storeAt,Instr.sureAddr,KaY,Kan,cN]
    rw[hex];refine⟨by rw[yy];exact bw,⟨_,hp,⟨ρ,?_⟩,hK⟩,by simp⟩;rw[hd];exact a9
   .exact hv.elim
  .exact hv.elim
 .exact hv.elim
end Go.FW
namespace Go.FW
open Go
variable {C : Ctx} {ρ : Nat -> Option Nat} {fr : Fr} {hp : HP} {w : World} {a : Act} {K : Qf}
variable{P:Program}{e t:TypeId}{hb:HB}{l ys:List PV}{o:Oper}{p ps px z:PV}{s x:Operand}{v vs:Value}
def Q4w{X:Nat->Prop}{x:PV}{e:Nat}{f:Nat->Value}(he:x.cells.length=e)(h0:0<e)(hr:∀(j:Nat)(y:PV),x.cells[j]? =some y->Qn w X y (f j)):x.aJ=true:=by
 by_cases ha:∃cs,x= .agg cs
 .obtain⟨cs,rfl⟩:=ha;rfl
 .have hc:x.cells=[x]:=by
   cases x with
   |agg cs=>exact absurd ⟨cs,rfl⟩ ha
   |_=>rfl
  have:=hr 0 x (by rw[hc];rfl);exact bS.data (bS.tC this)
def L9{e:Nat}{e':Nat}(h:Qt C ρ fr hp a.tmps w)(hx:Qj C ρ hp w px v)(hs:kI hp px=some (e',ys))(h0:0<e)(pG:e'=e\/ys=[]):
  ∃ad cap,v= .slice ad ys.length cap/\(ys≠[]->∃(b off:Nat)(f:Nat->Value),ad=some ⟨b,off,none⟩/\(∀k,k<ys.length*e->w.cell? ⟨b,off+k,none⟩=some (f k))/\
   ∀(i:Nat)(y:PV),ys[i]? =some y->y.cells.length=e/\y.aJ=true/\∀(j:Nat)(z:PV),y.cells[j]? =some z->Qn w (aM C ρ hp) z (f (i*e+j))):=by
 cases px with
 |aa=>simp[kI]at hs;obtain⟨rfl,rfl⟩:=hs;exact⟨none,0,hx.yf,λhn=>absurd rfl hn⟩
 | sl e2 xs=>
  simp[kI]at hs;obtain⟨rfl,rfl⟩:=hs;have bc:Qn w (aM C ρ hp) (.sl e2 xs) v:=hx;cases bc with
  |ma _ ad cap hc=>exact⟨ad,cap,rfl,λhn=>absurd rfl hn⟩
  | sl _ _ b off cap vs hX hb hl hc he hv hr=>
   refine⟨_,cap,rfl,λhn=>?_⟩;obtain rfl:e2=e:=pG.resolve_right hn;refine⟨b,off,λk=>vs (k/e2) (k%e2),rfl,λk hk=>?_,λi y hy=>?_⟩
   .have h1:k/e2<xs.length:=(Kba h0).2 hk;have h2:=Kbo k h0;have:=hv _ h1 _ h2;rw[Kb5,KaU,Kbe]at this;exact this
   .have ff:=he i y hy;refine⟨ff,Q4w ff h0 (hr i y hy),λj z hz=>?_⟩;have hj:j<e2:=by have:=(Kah.1 hz).1;omega
    show Qn w _ z (vs ((i*e2+j)/e2) ((i*e2+j)%e2));rw[aiH hj,QW hj];exact hr i y hy j z hz
 | aD O o n=>
  simp only[kI,Kaa,Prod.mk.injEq]at hs;obtain⟨hb,ao,NV,rfl⟩:=hs;obtain⟨hb2,g1,g2,g3⟩:=hx;rw[ao]at g1;cases g1;have hlen:((hb.xs.drop o).take n).length=n:=by simp;omega
  rcases g3 with⟨g3,rfl,rfl,rfl⟩|⟨b,cap,g3,rfl,g5,g6⟩
  .exact⟨none,0,by simp,λhn=>absurd (by simp) hn⟩
  .refine⟨_,cap,by rw[hlen],λhn=>?_⟩;have bP:=h.own O hb ao;have bu:=bP.du;rw[g3]at bu;obtain⟨_,aA,cur,fZ,c1,c2,c3,c4,c5⟩:=bu;have X9:hb.e=e:=by
    rcases pG with pG|pG
    .omega
    .exact absurd pG hn
   refine⟨b,o*hb.e,λk=>cur.getD (o*hb.e+k) undef,rfl,λk hk=>?_,λi y hy=>?_⟩
   .rw[hlen]at hk;have:(o+n)*e<=fZ*e:=Kap e Oz;rw[KaL]at this;exact nC c1 (by rw[c2,X9];omega)
   .have hi:i<n:=by have:=(Kah.1 hy).1;omega
    rw[KaM hi,Ka1]at hy;obtain⟨l1,l2⟩:=bP.len _ y hy;refine⟨by omega,l2,λj z hz=>?_⟩;have:=c5 _ y hy j z hz;rw[KaL,Kb5]at this
    rwa[X9]at this⊢
 |_=>simp[kI]at hs
def UP{ty:TypeId}{i:TypeInfo}(ht:P.underlying t=some (.slice e))(hi:P.info? e=some i){base ad:Option Addr}{n cap c:Nat}(hle:n<=cap)(w:World):
  (Builtin.append_ #[t,t] ty #[.slice base n cap,.slice ad 0 c]).run P w= .ok (.slice base n cap) w:=by
 cases ad<;>cases base<;>simp[Builtin.append_,run_underlying ht,sizeOf,typeInfo,hi,Builtin.lenOf,Builtin.firstCells,hle,storeCells,loadCells,loadCellsFrom]
def wG(ho:o.op= .call { callee:=.builtin .append,args:= #[s,x],argTypes:= #[t,t] }){vx:Value}{w w':World}(es:a.eval s=vs)(ex:a.eval x=vx)
  (hr:(Builtin.append_ #[t,t] o.type #[vs,vx]).run P w= .ok v w'):(execOp a.eval o).run P w= .ok (.value v) w':=by
 unfold execOp;simp only[ho,resolve,Kau,KaY,Kan,invoke,builtin];simp[es,ex,hr]
def iw(f:Nat->Value)(n:Nat):List Value:=(List.range n).map f
def Am(f:Nat->Value)(n:Nat):(iw f n).length=n:=by simp[iw]
def Cy{f:Nat->Value}{n j:Nat}{u:Value}(h:(iw f n)[j]? =some u):j<n/\u=f j:=by
 have hj:j<n:=by have:=(Kah.1 h).1;simpa[iw]using this
 simp only[iw,Kaw,KcR hj,KbZ,KaG]at h;exact⟨hj,h.symm⟩
def Gj{f:Nat->Value}{n j:Nat}(h:j<n):(iw f n).getD j undef=f j:=by simp[iw,Kac,h]
def yv(l:List Value)(k:Nat):l.toArray.getD k undef=l.getD k undef:=by simp[KaS,Kac]
def lP(xs ys:Array Value)(k:Nat):(xs++ys).getD k undef=if k<xs.size then xs.getD k undef else ys.getD (k-xs.size) undef:=by simp only[KaS,Array.getElem?_append];split<;>rfl
def yC{n m e i j:Nat}(h0:i<m)(hj:j<e):i*e+j<m*e/\(n+i)*e+j=n*e+(i*e+j):=by
 constructor
 .have:(i+1)*e<=m*e:=Kap e h0;rw[KaL]at this;omega
 .rw[KaL];omega
def u9{O:Nat}(h:dx C ρ hp w p v):dx C ρ hp w (jM O p) v/\∀γ∈(jM O p).dM,γ≠O:=by
 cases p with
 | aD bq o n=>
  simp only[jM];split
  .exact⟨trivial,λγ ak=>by cases ak⟩
  .rename_i aS;exact⟨h,λγ ak=>by simp[PV.dM]at ak;subst ak;exact aS⟩
 | aK bo o n=>
  simp only[jM];split
  .exact⟨trivial,λγ ak=>by cases ak⟩
  .rename_i aS;exact⟨h,λγ ak=>by simp[PV.dM]at ak;subst ak;exact aS⟩
 |np=>cases h
 |_=>exact⟨h,λγ ak=>by cases ak⟩
def su{f:PV->PV}{i:Nat}{y:PV}(h:(l.map f)[i]? =some y):∃x,l[i]? =some x/\y=f x:=by simp only[Kaw,Kaa]at h;obtain⟨x,h1,h2⟩:=h;exact⟨x,h1,h2.symm⟩
def Aw{O:Nat}:Br C ρ hp w O fr (gP O fr):=by
 intro i v h;unfold gP;generalize fr i=p at h;have kill:dF O p=ct O p->(∀γ∈p.aO,γ≠O)->Qj C ρ hp w (dF O p) v/\(∀γ∈(dF O p).refs,γ≠O)/\∀γ∈(dF O p).aO,γ≠O:=λe hs=>by
  rw[e];refine⟨Qj.kill h,λγ ak=>(VZ γ ak).1,λγ ak=>?_⟩;unfold ct at ak;split at ak
  .cases ak
  .exact hs γ ak
 cases p with
 | aH γ e ty xs=>
  simp only[dF];split
  .exact⟨trivial,λγ ak=>(by cases ak),λγ ak=>by cases ak⟩
  .rename_i aS;obtain⟨h0,he,b,hb,cur,cap,h1,h2,h3,h4,h5,h6,h7,h8,h9,bp,cE⟩:=h;have qG:∀(i:Nat)(x:PV),xs[i]? =some x->(eW (x.aV.map (jM O))).aV=x.aV.map (jM O):=λi x hi=>Wb λc hc=>by obtain⟨d,hd,rfl⟩:=KaD.1 hc;obtain⟨j,hj⟩:=KaI hd;exact(u9 (cE i x hi j d hj)).1.aV
   refine⟨⟨h0,he,b,hb,cur,cap,h1,h2,h3,h4,h5,h6,h7,by simpa using h8,h9,λi x hi=>?_,λi x hi j y hy=>?_⟩,λγ ak=>(by cases ak),λbo ak=>?_⟩
   .obtain⟨x0,bQ,rfl⟩:=su hi;rw[qG i x0 bQ,KaC];exact bp i x0 bQ
   .obtain⟨x0,bQ,rfl⟩:=su hi;rw[qG i x0 bQ]at hy;obtain⟨y0,dZ,rfl⟩:=su hy;exact(u9 (cE i x0 bQ j y0 dZ)).1
   .rcases KaA.1 ak with rfl|ak
    .exact aS
    .obtain⟨x,hx,ak⟩:=Kat.1 ak;obtain⟨y,hy,ak⟩:=Kat.1 ak;obtain⟨i,hi⟩:=KaI hx;obtain⟨x0,bQ,rfl⟩:=su hi;rw[qG i x0 bQ]at hy;obtain⟨j,hj⟩:=KaI hy;obtain⟨y0,dZ,rfl⟩:=su hj;exact(u9 (cE i x0 bQ j y0 dZ)).2 bo ak
 | aU cs=>
  obtain⟨vs,rfl,h1,h2⟩:=h;refine⟨⟨vs,rfl,by simpa using h1,λi x hi=>?_⟩,λγ ak=>(by cases ak),λγ ak=>?_⟩
  .obtain⟨x0,bQ,rfl⟩:=su hi;exact(u9 (h2 i x0 bQ)).1
  .obtain⟨x,hx,ak⟩:=Kat.1 ak;obtain⟨i,hi⟩:=KaI hx;obtain⟨x0,bQ,rfl⟩:=su hi;exact(u9 (h2 i x0 bQ)).2 γ ak
 | fH cs=>
  obtain⟨vs,rfl,h1,h2⟩:=h;refine⟨⟨vs,rfl,by simpa using h1,λi x hi=>?_⟩,λγ ak=>(by cases ak),λγ ak=>?_⟩
  .obtain⟨x0,bQ,rfl⟩:=su hi;exact(u9 (h2 i x0 bQ)).1
  .obtain⟨x,hx,ak⟩:=Kat.1 ak;obtain⟨i,hi⟩:=KaI hx;obtain⟨x0,bQ,rfl⟩:=su hi;exact(u9 (h2 i x0 bQ)).2 γ ak
 | dQ cs q=>
  obtain⟨vs,u,rfl,h1,h2,h3⟩:=h;refine⟨⟨vs,u,rfl,by simpa using h1,λi x hi=>?_,h3⟩,λγ ak=>(by cases ak),λγ ak=>?_⟩
  .obtain⟨x0,bQ,rfl⟩:=su hi;exact(u9 (h2 i x0 bQ)).1
  .obtain⟨x,hx,ak⟩:=Kat.1 ak;obtain⟨i,hi⟩:=KaI hx;obtain⟨x0,bQ,rfl⟩:=su hi;exact(u9 (h2 i x0 bQ)).2 γ ak
 |aK γ o n=>
  simp only[dF];split
  .exact⟨trivial,λγ ak=>(by cases ak),λγ ak=>by cases ak⟩
  .rename_i aS;exact⟨h,λγ ak=>(by cases ak),λbo ak=>by simp[PV.aO]at ak;subst ak;exact aS⟩
 |np γ o n=>
  simp only[dF];split
  .exact⟨trivial,λγ ak=>(by cases ak),λγ ak=>by cases ak⟩
  .rename_i aS;exact⟨h,λγ ak=>(by cases ak),λbo ak=>by simp[PV.aO]at ak;subst ak;exact aS⟩
 | fn f first cap=>
  by_cases hc:(first.flatMap PV.fu++cap.flatMap PV.fu).contains O=true
  .simp only[dF,hc,if_true];exact⟨trivial,λγ ak=>(by cases ak),λγ ak=>by cases ak⟩
  .exact kill (by simp only[dF,hc];rfl) (λγ ak e=>hc (by subst e;exact List.contains_iff_mem.2 ak))
 |_=>exact kill rfl (λγ ak=>by cases ak)
end Go.FW
namespace Go.FW
open Go
variable {C : Ctx} {ρ : Nat -> Option Nat} {fr : Fr} {hp : HP} {w : World} {a : Act} {K : Qf}
variable{P:Program}{e t:TypeId}{hb:HB}{l ys:List PV}{o:Oper}{p ps px z:PV}{s x:Operand}{v vs:Value}
def Si{n by_:Nat}{e' d:Nat}{O:Nat}{aG:Fr}{Q:Exit->Act->World->Prop}
  (ho:o.op= .call { callee:=.builtin .append,args:= #[s,x],argTypes:= #[t,t] }) (hd:o.dst=some d) (aA:d<C.N) (bw:a.defers=[]) (h:Qt C ρ fr hp a.tmps w)
  (hu:C.P.underlying t=some (.slice e)) (hz:mh C.P e=some (n,by_,z)) (hx:Qj C ρ hp w px (a.eval x)) (r8:kI hp px=some (e',ys)) (h0:0<n) (mF:z.cells.length=n) (pG:e'=n\/ys=[])
  (es:a.eval s= .slice none 0 0) (hb:ys.length*by_<=140737488355328) (hm:ys.length<=9223372036854775807)
  (th:Br C ρ hp w O fr aG) (hB:aP O=false)
  (hK:K (ae aG d (.ms O ys.length)) (Qg hp O ⟨n,e,ys,false⟩)):o.wp C.P a w (dw C false w K) Q:=by
 obtain⟨ti,zv,i1,i2,i3,i4,i5⟩:=vh hz;obtain⟨ad,cap,ex,Ex⟩:=L9 h hx r8 h0 pG;by_cases pO:ys=[]
 .subst pO;have cN:=UP (P:=C.P) (ty:=o.type) (ad:=ad) (c:=cap) hu i1 (base:=none) (n:=0) (cap:=0) (Kag 0) w;have hs:=h.Cb (w':=w) O none ⟨n,e,[],false⟩ hB th (Ext.refl _ _) (by simp) h0 (by simp) (by simp) (by simp);refine kH (wG ho es ex cN) (dw.nt hd aA bw hs (by simp) ?_ hK);exact⟨⟨n,e,[],false⟩,by simp[Qg],by simp,.inl ⟨jx _ _ _,rfl,rfl,rfl⟩⟩
 .obtain⟨b,off,f,rfl,hf,bW⟩:=Ex pO;have tp:0<ys.length:=List.length_pos_iff.2 pO;have cN:=run_append_nil (P:=C.P) w t o.type e ti zv hu i1 i2 ⟨b,off,none⟩ ys.length cap (iw f (ys.length*n)) (by rw[Am,i3])
   (λj v hj=>by obtain⟨dz,rfl⟩:=Cy hj;rw[KbS];exact hf j dz) tp Oz (by rw[i4];omega)
  have jE:=grownCap_ge w ys.length 0 e;have jD:=grownCap_le_maxLen w ys.length 0 e (by rw[oa];exact hm);generalize grownCap w ys.length 0 e=G at cN jE jD;have wA:zv.cells.size=n:=by have:=(u7 (w:=w) (X:=aM C ρ hp) i5).cells.1;omega
  obtain⟨hs,l7⟩:=h.z8 O hB th ⟨n,e,ys,false⟩ ((iw f (ys.length*n)).toArray++Builtin.zeroCells zv.cells (G-ys.length)) G _ (.inr rfl)
   (by simp[Am,size_zeroCells,wA,<-Nat.add_mul];congr 1;omega) jE jD h0 (λi y hy=>⟨(bW i y hy).1,(bW i y hy).2.1⟩)
   (λi y hy j z hz=>by
    have hi:i<ys.length:=(Kah.1 hy).1;have hj:j<n:=by have:=(Kah.1 hz).1;have:=(bW i y hy).1;omega
    obtain⟨q1,_⟩:=yC (n:=0) hi hj;show Qn w _ z (Array.getD _ (i*n+j) undef);rw[lP,if_pos (by simpa[Am]using q1)];have:=(bW i y hy).2.2 j z hz;rw[yv,Gj q1];exact this)
  refine kH (wG ho es ex cN) (dw.nt hd aA bw hs (by simp) ?_ hK);exact⟨⟨n,e,ys,false⟩,by simp[Qg],by simp,.inr ⟨w.heap.size,G,jx _ _ _,by simp,⟨_,e,oU w.drew _,by simp[Am,size_zeroCells,wA,<-Nat.add_mul];congr 1;omega⟩,Oz⟩⟩
def Sj{n by_:Nat}{e' d:Nat}{O m:Nat}{aG:Fr}{Q:Exit->Act->World->Prop}
  (ho:o.op= .call { callee:=.builtin .append,args:= #[s,x],argTypes:= #[t,t] }) (hd:o.dst=some d) (aA:d<C.N) (bw:a.defers=[]) (h:Qt C ρ fr hp a.tmps w)
  (hu:C.P.underlying t=some (.slice e)) (hz:mh C.P e=some (n,by_,z)) (hx:Qj C ρ hp w px (a.eval x)) (r8:kI hp px=some (e',ys)) (h0:0<n) (mF:z.cells.length=n) (pG:e'=n\/ys=[])
  (hs:Qj C ρ hp w (.ms O m) (a.eval s)) (th:Br C ρ hp w O fr aG) (hB:aP O=false) (ao:hp O=some hb) (oG:hb.fz=false) (hbe:hb.e=n) (dX:hb.ty=e) (qN:m<=hb.xs.length)
  (NN:(m+ys.length)*by_<=140737488355328) (EP:m+ys.length<=9223372036854775807)
  (hK:K (ae aG d (.ms O (m+ys.length))) (Qg hp O ⟨n,e,hb.xs.take m++ys,false⟩)):o.wp C.P a w (dw C false w K) Q:=by
 obtain⟨hb2,g1,g2,g3⟩:=hs;rw[ao]at g1;cases g1;have oM:(hb.xs.take m).length=m:=by simp;omega
 rw[Ka2]at g2;rcases g3 with⟨g3,es,rfl,_⟩|⟨b,cap,g3,es,g5,g6⟩
 .simp only[Ka2,Kcn,KaO]at hK NN EP;exact Si ho hd aA bw h hu hz hx r8 h0 mF pG es NN EP th hB hK
 rw[Kci]at es;rw[Ka2]at g5 g6;obtain⟨ti,zv,i1,i2,i3,i4,i5⟩:=vh hz;obtain⟨ad,Fv,ex,Ex⟩:=L9 h hx r8 h0 pG;have bP:=h.own O hb ao;have bu:=bP.du;rw[g3]at bu;obtain⟨b1,b2,cur,fZ,c1,c2,c3,c4,c5⟩:=bu;replace b1:=Ctx.xB b1 hB;obtain⟨cur',ty',d1,d2⟩:=g5;rw[c1]at d1;cases d1;obtain rfl:fZ=cap:=KbB bP.mA Oz;subst dX;subst hbe;have qJ:aM C ρ hp b:=.inr ⟨O,hb,ao,oG,g3⟩;have BS:∀(i:Nat)(x:PV),(hb.xs.take m++ys)[i]? =some x->(i<m/\hb.xs[i]? =some x)\/(m<=i/\ys[i-m]? =some x):=by
  intro i x bc;rw[KaV,oM]at bc;by_cases hi:i<m
  .rw[if_pos hi,KaM hi]at bc;exact .inl ⟨hi,bc⟩
  .rw[if_neg hi]at bc;exact .inr ⟨by omega,bc⟩
 by_cases pO:ys=[]
 .subst pO;have cN:=UP (P:=C.P) (ty:=o.type) (ad:=ad) (c:=Fv) hu i1 (base:=some ⟨b,0,none⟩) (n:=m) (cap:=fZ) Oz w;have hr:=h.Cb (w':=w) O (some b) ⟨hb.e,hb.ty,hb.xs.take m++[],false⟩ hB th (Ext.refl _ _) (λc hc=>by cases hc;exact⟨b1,b2,.inr ⟨g3,hb,ao,oG⟩⟩) bP.mA
   (λi x bc=>by
    rcases BS i x bc with⟨_,hq⟩|⟨_,hq⟩
    .exact bP.len i x hq
    .simp at hq) (by simp)
   (λc hc=>by
    cases hc;refine⟨cur,fZ,c1,c2,by simp;omega,c4,λi x bc j y hy=>?_⟩;rcases BS i x bc with⟨_,hq⟩|⟨_,hq⟩
    .exact c5 i x hq j y hy
    .simp at hq)
  refine kH (wG ho es ex cN) (dw.nt hd aA bw hr (by simp) ?_ hK);exact⟨⟨hb.e,hb.ty,hb.xs.take m++[],false⟩,by simp[Qg],by simp;omega,.inr ⟨b,fZ,jx _ _ _,by simp,⟨cur,hb.ty,c1,by rw[Ka2];exact c2⟩,Oz⟩⟩
 obtain⟨sb,off,f,rfl,hf,bW⟩:=Ex pO;have tp:0<ys.length:=List.length_pos_iff.2 pO;have BU:∀(j:Nat)(v:Value),(iw f (ys.length*hb.e))[j]? =some v->w.cell? ((⟨sb,off,none⟩:Addr).add j)=some v:=λj v hj=>by obtain⟨dz,rfl⟩:=Cy hj;rw[KbS];exact hf j dz
 have xS:∀u∈iw f (ys.length*hb.e),u.oneCell'=true:=by intro u oN;obtain⟨k,hk⟩:=KaI oN;obtain⟨cY,rfl⟩:=Cy hk;have hi:k/hb.e<ys.length:=(Kba h0).2 cY;have hj:=Kbo k h0;obtain⟨l1,l2,l3⟩:=bW _ _ (Kae hi);have tn:k%hb.e<(ys[k/hb.e]'hi).cells.length:=Oz;have:=l3 _ _ (Kae tn);rw[KaU,Kbe]at this;exact this.uV.1
 have nh:=Am f (ys.length*hb.e);have zH:m*hb.e+(iw f (ys.length*hb.e)).length=(m+ys.length)*hb.e:=by rw[nh,KaL]
 by_cases BW:m+ys.length<=fZ
 .have rR:m*hb.e+(iw f (ys.length*hb.e)).length<=cur.size:=by rw[zH,c2];exact Kap _ BW
  have cN:=run_append_room (P:=C.P) w t o.type hb.ty ti hu i1 b m fZ cur c1 ⟨sb,off,none⟩ ys.length Fv (iw f (ys.length*hb.e)) (by rw[nh,i3]) BU xS BW (by rw[i3];exact rR);rw[i3]at cN;have ni:=Cw (cur:=cur) (p:=m*hb.e) (cs:=iw f (ys.length*hb.e)) rR;have im:=λk hk=>Cv (cur:=cur) (p:=m*hb.e) (cs:=iw f (ys.length*hb.e)) (k:=k) rR hk
  generalize hW:(cur.toList.take (m*hb.e)++iw f (ys.length*hb.e)++cur.toList.drop (m*hb.e+(iw f (ys.length*hb.e)).length)).toArray=W at cN ni im;have hr:=h.Cb (w':=w.setRow b W) O (some b) ⟨hb.e,hb.ty,hb.xs.take m++ys,false⟩ hB th ((Cx w b W).mono (λi _ hi=>⟨hi▸g3,hb,ao,oG⟩))
   (λc hc=>by cases hc;exact⟨b1,by simpa using b2,.inr ⟨g3,hb,ao,oG⟩⟩) bP.mA
   (λi x bc=>by
    rcases BS i x bc with⟨_,hq⟩|⟨_,hq⟩
    .exact bP.len i x hq
    .exact⟨(bW _ x hq).1,(bW _ x hq).2.1⟩) (by simp)
   (λc hc=>by
    cases hc;refine⟨W,fZ,setRow_heap w b cur W hb.ty _ c1,by rw[ni];exact c2,by simp;omega,c4,λi x bc j y hy=>?_⟩;show Qn w _ y (Array.getD W (i*hb.e+j) undef);rcases BS i x bc with⟨hi,hq⟩|⟨hi,hq⟩
    .have hj:j<hb.e:=by have:=(Kah.1 hy).1;have:=(bP.len i x hq).1;omega
     have q1:=(yC (n:=0) hi hj).1;have q2:m*hb.e<=fZ*hb.e:=Kap _ Oz;rw[im _ Oz,if_neg Oz];exact c5 i x hq j y hy
    .have jW:i-m<ys.length:=(Kah.1 hq).1;have hj:j<hb.e:=by have:=(Kah.1 hy).1;have:=(bW _ x hq).1;omega
     obtain⟨q1,q2⟩:=yC (n:=m) jW hj;rw[show m+(i-m)=i by omega]at q2;rw[im _ Oz,if_pos Oz,q2,show m*hb.e+((i-m)*hb.e+j)-m*hb.e=(i-m)*hb.e+j by omega,Gj q1];exact(bW _ x hq).2.2 j y hy)
  refine kH (wG ho es ex cN) (dw.nt hd aA bw hr (by simp) ?_ hK);exact⟨⟨hb.e,hb.ty,hb.xs.take m++ys,false⟩,by simp[Qg],by simp;omega,.inr ⟨b,fZ,jx _ _ _,by simp,⟨W,hb.ty,setRow_heap w b cur W hb.ty _ c1,by rw[ni,Ka2];exact c2⟩,Oz⟩⟩
 .have azP:m*hb.e<=cur.size:=by rw[c2];exact Kap _ Oz
  have iH:(cur.toList.take (m*hb.e)).length=m*hb.e:=by simp;omega
  have holds:∀(j:Nat)(v:Value),(cur.toList.take (m*hb.e))[j]? =some v->w.cell? ((⟨b,0,none⟩:Addr).add j)=some v:=λj v hj=>by
   have dz:j<m*hb.e:=by have:=(Kah.1 hj).1;omega
   rw[KaM dz]at hj;rw[KbS,Ka2,nC c1 Oz,Gg cur j v hj]
  have cN:=run_append_grow (P:=C.P) w t o.type hb.ty ti zv hu i1 i2 ⟨b,0,none⟩ m fZ (cur.toList.take (m*hb.e)) (by rw[iH,i3]) holds ⟨sb,off,none⟩ ys.length Fv (iw f (ys.length*hb.e)) (by rw[nh,i3]) BU
   Oz Oz (growslice_fits Oz (by rw[i4];exact NN))
  have jE:=grownCap_ge w (m+ys.length) fZ hb.ty;have jD:=grownCap_le_maxLen w (m+ys.length) fZ hb.ty (by rw[oa];exact EP);generalize grownCap w (m+ys.length) fZ hb.ty=G at cN jE jD;have wA:zv.cells.size=hb.e:=by have:=(u7 (w:=w) (X:=aM C ρ hp) i5).cells.1;omega
  have lz:((cur.toList.take (m*hb.e)).toArray++(iw f (ys.length*hb.e)).toArray++Builtin.zeroCells zv.cells (G-(m+ys.length))).size=G*hb.e:=by simp only[Kb4,KbX,iH,nh,size_zeroCells,wA,<-Nat.add_mul];congr 1;omega
  obtain⟨hr,l7⟩:=h.z8 O hB th ⟨hb.e,hb.ty,hb.xs.take m++ys,false⟩ _ G _ (.inr rfl) lz (by simp;omega) jD bP.mA
   (λi x bc=>by
    rcases BS i x bc with⟨_,hq⟩|⟨_,hq⟩
    .exact bP.len i x hq
    .exact⟨(bW _ x hq).1,(bW _ x hq).2.1⟩)
   (λi x bc j y hy=>by
    show Qn w _ y (Array.getD _ (i*hb.e+j) undef);rcases BS i x bc with⟨hi,hq⟩|⟨hi,hq⟩
    .have hj:j<hb.e:=by have:=(Kah.1 hy).1;have:=(bP.len i x hq).1;omega
     have q1:=(yC (n:=0) hi hj).1;rw[lP,if_pos (by simp only[Kb4,KbX,iH];omega),lP,if_pos (by simp only[KbX,iH];omega),yv,
      Kac,KaM q1]
     have:=c5 i x hq j y hy;simpa[KaS]using this
    .have jW:i-m<ys.length:=(Kah.1 hq).1;have hj:j<hb.e:=by have:=(Kah.1 hy).1;have:=(bW _ x hq).1;omega
     obtain⟨q1,q2⟩:=yC (n:=m) jW hj;rw[show m+(i-m)=i by omega]at q2;rw[q2,lP,if_pos (by simp only[Kb4,KbX,iH,nh];omega),lP,if_neg (by simp only[KbX,iH];omega),yv];simp only[KbX,iH];rw[show m*hb.e+((i-m)*hb.e+j)-m*hb.e=(i-m)*hb.e+j by omega,Gj q1];exact(bW _ x hq).2.2 j y hy)
  refine kH (wG ho es ex cN) (dw.nt hd aA bw hr (by simp) ?_ hK);exact⟨⟨hb.e,hb.ty,hb.xs.take m++ys,false⟩,by simp[Qg],by simp;omega,.inr ⟨w.heap.size,G,jx _ _ _,by simp,⟨_,hb.ty,oU w.drew _,by rw[Ka2];exact lz⟩,Oz⟩⟩
def agh{n by_:Nat}{d:Nat}{Q:Exit->Act->World->Prop}
  (ho:o.op= .call { callee:=.builtin .append,args:= #[s,x],argTypes:= #[t,t] }) (hd:o.dst=some d) (aA:d<C.N) (bw:a.defers=[]) (h:Qt C ρ fr hp a.tmps w)
  (hu:C.P.underlying t=some (.slice e)) (hz:mh C.P e=some (n,by_,z)) (mF:z.cells.length=n) (hs:Qj C ρ hp w ps (a.eval s)) (hx:Qj C ρ hp w px (a.eval x))
  (axz:kI hp px=none->Bw n by_ e ps px d fr hp K->o.wp C.P a w (dw C false w K) Q) (hv:jO n by_ e ps px d fr hp K):o.wp C.P a w (dw C false w K) Q:=by
 unfold jO at hv;split at hv
 .exact axz (by assumption) hv
 .rename_i e' ys r8;obtain⟨h0,pG,hv⟩:=hv;cases ps with
  |aa=>obtain⟨k1,k2,hK⟩:=hv;exact Si (O:=d) ho hd aA bw h hu hz hx r8 h0 mF pG hs.yf k1 k2 (GQ (Bs aA)) (yM (Bs aA)) hK
  | aD O o' m=>
   cases o' with
   |succ o'=>exact hv.elim
   |zero=>
   simp only at hv;split at hv
   .rename_i hb ao;rcases hv with⟨k0,k1,k2,k3,k4,k5,k6,hK⟩|⟨k0,kY,⟨_,k1,k2,k3,k4,k5,k6⟩,hK⟩
    .exact Sj ho hd aA bw h hu hz hx r8 h0 mF pG hs (GQ k0) (yM k0) ao k1 k2 k3 k4 k5 k6 hK
    .exact Sj ho hd aA bw h hu hz hx r8 h0 mF pG hs Aw kY ao k1 k2 k3 k4 k5 k6 hK
   .exact hv.elim
  |_=>exact hv.elim
def Q3g{ty:TypeId}{n:Nat}(ht:P.underlying t=some (.slice e))(hn:fw P e=some n){base ad:Option Addr}{dl dc sl sc:Nat}(hz:Nat.min sl dl=0)(w:World):
  (Builtin.copy_ #[t,t] ty #[.slice base dl dc,.slice ad sl sc]).run P w= .ok (goInt 0) w:=by
 have hs:=nB hn;cases ad<;>cases base<;>simp[Builtin.copy_,run_underlying ht,hs,Builtin.lenOf,Builtin.firstCells,hz,storeCells,loadCells,loadCellsFrom]
def Vy(ho:o.op= .call { callee:=.builtin .copy,args:= #[s,x],argTypes:= #[t,t] }){vx:Value}{w w':World}(es:a.eval s=vs)(ex:a.eval x=vx)
  (hr:(Builtin.copy_ #[t,t] o.type #[vs,vx]).run P w= .ok v w'):(execOp a.eval o).run P w= .ok (.value v) w':=by
 unfold execOp;simp only[ho,resolve,Kau,KaY,Kan,invoke,builtin];simp[es,ex,hr]
def Q3h(w:World)(t ty elem:TypeId)(g o Nf avF n:Nat)(a:Addr)(O3 ayQ:Nat)(cur:Array Value)(ty':TypeId)(cs:List Value)
  (hu:P.underlying t=some (.slice elem)) (hs:fw P elem=some n)
  (hg:w.heap[g]? =some (.cells cur ty' (0,0))) (hn:cs.length=Nat.min O3 Nf*n)
  (r8:∀j v,cs[j]? =some v->w.cell? (a.add j)=some v) (rR:o+cs.length<=cur.size) (h1:∀v∈cs,v.oneCell'=true):
  (Builtin.copy_ #[t,t] ty #[.slice (some ⟨g,o,none⟩) Nf avF,.slice (some a) O3 ayQ]).run P w=
   .ok (goInt (Nat.min O3 Nf)) (w.setRow g (cur.toList.take o++cs++cur.toList.drop (o+cs.length)).toArray):=by
 have hl:=run_loadCells_list (P:=P) w a cs r8;have a9:=run_storeCells_at P g o ty' cs 0 cur w hg (by simpa using rR) h1;have hz:=nB hs;simp[Builtin.copy_,run_underlying hu,hz,Builtin.lenOf,Builtin.firstCells,<-hn,hl,a9]
def agi{n:Nat}{d:Nat}{Q:Exit->Act->World->Prop}
  (ho:o.op= .call { callee:=.builtin .copy,args:= #[s,x],argTypes:= #[t,t] }) (hd:o.dst=some d) (aA:d<C.N) (bw:a.defers=[]) (h:Qt C ρ fr hp a.tmps w)
  (hu:C.P.underlying t=some (.slice e)) (hn:fw C.P e=some n) (hs:Qj C ρ hp w ps (a.eval s)) (hx:Qj C ρ hp w px (a.eval x))
  (hv:sP n ps px d fr hp K):o.wp C.P a w (dw C false w K) Q:=by
 unfold sP at hv;split at hv
 .rename_i e' ys O m r8;split at hv
  .rename_i hb ao;obtain⟨k0,k1,k2,k3,k4,hK⟩:=hv;obtain⟨hb2,g1,g2,g3⟩:=hs;rw[ao]at g1;cases g1;obtain⟨ad,Fv,ex,Ex⟩:=L9 (e:=n) h hx r8 k0 k3;have bP:=h.own O hb ao;have zero:Nat.min ys.length m=0->o.wp C.P a w (dw C false w K) Q:=by
    intro h0;have cN:∀base cap,a.eval s= .slice base m cap->(execOp a.eval o).run C.P w= .ok (.value (goInt 0)) w:=λbase cap es=>
     Vy ho es ex (Q3g (P:=C.P) (ty:=o.type) hu hn h0 w)
    have e2:({ hb with xs:=ys.take m++hb.xs.drop ys.length }:HB)=hb:=by
     have:ys.take m++hb.xs.drop ys.length=hb.xs:=by
      rcases Nat.min_eq_zero_iff.1 h0 with hq|hq
      .have:ys=[]:=Kb6 hq;subst this;simp
      .have:hb.xs=[]:=Kb6 Oz;subst hq;simp[this]
     rw[this]
    have e3:Qg hp O hb=hp:=by
     funext γ;unfold Qg;split
     .rename_i he;rw[he,ao]
     .rfl
    rw[e2,e3,show(min (ys.length:Int) (m:Int))=0 by have:min ys.length m=0:=h0;omega]at hK;obtain⟨ad',fZ,es⟩:=Qj.OU (C:=C) (ρ:=ρ) (hp:=hp) (w:=w) ⟨hb,ao,g2,g3⟩;exact kH (cN _ _ es) (dw.nt hd aA bw h (by simp) (Qj.mkInt _ _) hK)
   by_cases ER:Nat.min ys.length m=0
   .exact zero ER
   rcases g3 with⟨g3,es,zG,_⟩|⟨b,cap,g3,es,g5,g6⟩
   .exact(ER (by rw[zG];simp)).elim
   rw[Kci]at es;have pO:ys≠[]:=by rintro rfl;exact ER (by simp)
   obtain⟨sb,off,f,rfl,hf,bW⟩:=Ex pO;have bu:=bP.du;rw[g3]at bu;obtain⟨b1,b2,cur,fZ,c1,c2,c3,c4,c5⟩:=bu;obtain⟨k,hk⟩:∃k,k=min ys.length m:=⟨_,rfl⟩
   have nh:=Am f (k*n);have zD:k*n<=ys.length*n:=Kap _ Oz;have xS:∀u∈iw f (k*n),u.oneCell'=true:=by intro u oN;obtain⟨q,hq⟩:=KaI oN;obtain⟨l8,rfl⟩:=Cy hq;have hi:q/n<ys.length:=(Kba k0).2 Oz;have hj:=Kbo q k0;obtain⟨l1,l2,l3⟩:=bW _ _ (Kae hi);have tn:q%n<(ys[q/n]'hi).cells.length:=Oz;have:=l3 _ _ (Kae tn);rw[KaU,Kbe]at this;exact this.uV.1
   have hkc:k*n<=fZ*n:=Kap _ Oz;have rR:0+(iw f (k*n)).length<=cur.size:=by rw[nh,c2,k2];omega
   have cN:=Q3h (P:=C.P) w t o.type e b 0 m cap n ⟨sb,off,none⟩ ys.length Fv cur hb.ty (iw f (k*n)) hu hn c1 (by rw[nh,hk])
    (λj v hj=>by obtain⟨dz,rfl⟩:=Cy hj;rw[KbS];exact hf j Oz) rR xS
   have ni:=Cw (cur:=cur) (p:=0) (cs:=iw f (k*n)) rR;have im:=λq hq=>Cv (cur:=cur) (p:=0) (cs:=iw f (k*n)) (k:=q) rR hq
   generalize hW:(cur.toList.take 0++iw f (k*n)++cur.toList.drop (0+(iw f (k*n)).length)).toArray=W at cN ni im;have eM:(ys.take m++hb.xs.drop ys.length).length=hb.xs.length:=by simp;omega
   have gg:∀(i:Nat)(x:PV),(ys.take m++hb.xs.drop ys.length)[i]? =some x->(i<k/\ys[i]? =some x)\/(k<=i/\hb.xs[i]? =some x):=by
    intro i x bc;rw[KaV]at bc;have ht:(ys.take m).length=k:=by simp;omega
    rw[ht]at bc;by_cases hi:i<k
    .rw[if_pos hi,KaM Oz]at bc;exact .inl ⟨hi,bc⟩
    .rw[if_neg hi,Ka1]at bc;refine .inr ⟨by omega,?_⟩;have iU:ys.length+(i-k)<hb.xs.length:=(Kah.1 bc).1
     rwa[show ys.length+(i-k)=i by omega]at bc
   have a9:=h.store O b hb { hb with xs:=ys.take m++hb.xs.drop ys.length } ao k1 (by intro e;rw[e]at k4;simp at k4;exact ER (by simp[k4])) g3 (Cx w b W) rfl eM k1
    (λi x bc=>by
     rcases gg i x bc with⟨_,hq⟩|⟨_,hq⟩
     .exact⟨by rw[(bW _ x hq).1];exact k2.symm,(bW _ x hq).2.1⟩
     .exact bP.len i x hq)
    (λe' Ea eY=>by obtain⟨cur',ty',d1,d2⟩:=eY;rw[c1]at d1;cases d1;exact⟨_,_,setRow_heap w b cur _ hb.ty _ c1,by rw[ni];exact d2⟩)
    ⟨W,fZ,setRow_heap w b cur W hb.ty _ c1,by rw[ni];exact c2,by rw[eM];exact c3,c4,λi x bc j y hy=>by
     show Qn w _ y (Array.getD W (i*hb.e+j) undef);rcases gg i x bc with⟨hi,hq⟩|⟨hi,hq⟩
     .have hj:j<n:=by have:=(Kah.1 hy).1;have:=(bW _ x hq).1;omega
      have q1:=(yC (n:=0) hi hj).1;rw[k2,im _ (by rw[c2,k2];omega),if_pos Oz,Kcg,Gj q1];exact(bW _ x hq).2.2 j y hy
     .have iU:i<hb.xs.length:=(Kah.1 hq).1;have hj:j<hb.e:=by have:=(Kah.1 hy).1;have:=(bP.len i x hq).1;omega
      have:=c5 i x hq j y hy;have q2:k*n<=i*n:=Kap _ hi;have q3:=(yC (n:=0) (show i<fZ by omega) (show j<n by omega)).1;rw[im _ (by rw[c2,k2];omega),if_neg (by rw[k2];omega)];exact this⟩
   rw[show(min (ys.length:Int) (m:Int))=((Nat.min ys.length m:Nat):Int)by have:Nat.min ys.length m=min ys.length m:=rfl;omega]at hK;exact kH (Vy ho es ex cN) (dw.nt hd aA bw a9 (by simp) (Qj.mkInt _ _) hK)
  .exact hv.elim
 .exact hv.elim
def afi{parts:Array (Nat×Operand)}{n by_:Nat}{ps:List (Nat×Nat×aW)}{d:Nat}(ho:o.op= .build t parts)(hd:o.dst=some d)(aA:d<C.N)(h:Qt C ρ fr hp a.tmps w)
  (hz:mh C.P t=some (n,by_,z)) (fR:Dt C.P t parts.toList=some ps)
  (hv:wR z.cells.length (ps.map λp=>(p.1,p.2.1,ev fr p.2.2))/\K (ae fr d (.aU (jN z.cells ((ps.map λp=>(p.1,p.2.1,ev fr p.2.2)).map λp=>(p.1,(gM p.2.2).getD []))))) hp):Qz C ρ o a w K:=by
 obtain⟨aT,hK⟩:=hv;obtain⟨ti,zv,i1,i2,i3,i4,i5⟩:=vh hz;have OO:sH (dx C ρ hp w) z.cells zv.cells:=by have h0:Rows w (aM C ρ hp) z.cells zv.cells:=(u7 i5).rows;exact⟨h0.1,λi x hx=>dx.ofC (h0.2 i x hx)⟩
 have rQ:(parts.map λ(x:Nat×Operand)=>(x.1,a.eval x.2)).toList=parts.toList.map λx=>(x.1,a.eval x.2):=by simp
 have key:∀(f:Nat×Operand->Option (Nat×Nat×aW))(place:Nat->Option (Nat×Nat)),parts.toList.mapM f=some ps->(∀x q,f x=some q->place x.1=some (q.1,q.2.1)/\cl x.2=some q.2.2)->
   ∃eP,Instr.fill place zv.cells (parts.map λ(x:Nat×Operand)=>(x.1,a.eval x.2)).toList=some eP/\
    sH (dx C ρ hp w) (jN z.cells ((ps.map λp=>(p.1,p.2.1,ev fr p.2.2)).map λp=>(p.1,(gM p.2.2).getD []))) eP:=by
  intro f place hm hf;rw[rQ];refine Gz place _ _ _ _ OO (by simp[(n8 hm).1]) (λi p q uI xU=>?_);simp only[KbT,Kaw,Kaa]at xU;obtain⟨q0,kT,rfl⟩:=xU;obtain⟨x,hx,qL,rfl⟩:=Pn hm uI kT;obtain⟨f1,f2⟩:=hf x q0 qL;obtain⟨cs,o1,o2,o3⟩:=aT (q0.1,q0.2.1,ev fr q0.2.2) (KaD.2 ⟨q0,Kaj kT,rfl⟩);simp only[Function.comp]at o1 o2 o3⊢;simp only[o1,Kbl];obtain⟨r1,r2,_⟩:=Sh (dm h f2) o1;exact⟨by rw[o2];exact f1,⟨r1,r2⟩,by rw[o2];exact o3⟩
 have fin:∀eP,(∀w',(Instr.build t (parts.map λ(x:Nat×Operand)=>(x.1,a.eval x.2))).run C.P w'= .ok (.agg eP) w')->
   sH (dx C ρ hp w) (jN z.cells ((ps.map λp=>(p.1,p.2.1,ev fr p.2.2)).map λp=>(p.1,(gM p.2.2).getD []))) eP->Qz C ρ o a w K:=by
  intro eP cN hr;refine⟨.agg eP,λw'=>?_,_,_,by rw[hd];exact h.ae (p:=.aU _) ⟨eP,rfl,hr.1,hr.2⟩ aA,hK⟩;unfold execOp;simp only[ho,Kau];have:=cN w';rw[show(parts.map λ(x:Nat×Operand)=>(x.1,a.eval x.2))=(parts.map λx=>match x with|(i,x)=>(i,a.eval x))from rfl]at this;rw[this];rfl
 unfold Dt at fR;split at fR
 .rename_i fs hu;simp only[Kab]at fR;obtain⟨pl,bx,hm⟩:=fR;obtain⟨eP,g1,g2⟩:=key _ (λi=>pl[i]?) hm (λx q hq=>by simp only[Kab,Kaa]at hq;obtain⟨r,hr,y,hy,rfl⟩:=hq;exact⟨by simpa using hr,hy⟩);refine fin eP (λw'=>?_) g2;unfold Instr.build;have iI:=run_places (P:=C.P) w' fs.toList pl bx;simp[Kau,yu i1 i2,kj hu,Kbv,iI]at g1⊢;simp[g1]
 .rename_i len e hu;simp only[Kab]at fR;obtain⟨m,zG,hm⟩:=fR;obtain⟨eP,g1,g2⟩:=key _ (λi=>some (i*m,m)) hm (λx q hq=>by simp only[Kaa]at hq;obtain⟨y,hy,rfl⟩:=hq;exact⟨rfl,hy⟩);refine fin eP (λw'=>?_) g2;unfold Instr.build;simp only[Kau,yu i1 i2,kj hu,nB zG,Kan,g1,KaY]
 .simp at fR
end Go.FW
namespace Go.FW
open Go
variable {C : Ctx} {ρ : Nat -> Option Nat} {fr : Fr} {hp : HP} {tmps : Array Value} {w : World} {a : Act} {K : Qf}
variable{aE:HB}{cs xs:List PV}{e t:TypeId}{o:Oper}{ps px z:PV}{s x:Operand}
def LK{x:PV}(h:oe x=true):∃O n,x= .aD O 0 n/\5000000<=O:=by
 unfold oe at h;split at h
 .exact⟨_,_,rfl,by simpa using h⟩
 .cases h
def Po{γ:Nat}:gC γ (gP γ fr)=gP γ fr:=by
 funext i;unfold gC gP;generalize fr i=p;cases p with
 |aH bo e ty xs=>
  simp only[dF];split
  .rfl
  .rename_i aS;simp[fj,aS]
 |aK bo o n=>simp only[dF];split<;>rfl
 |np bo o n=>simp only[dF];split<;>rfl
 |fn f first cap=>
  simp only[dF];split
  .rfl
  .unfold ct;split<;>rfl
 |aU cs=>rfl
 |fH cs=>rfl
 |dQ cs q=>rfl
 |_=>simp only[dF,ct];split<;>rfl
def AB{γ O o n:Nat}{b':Option Nat}{w':World}{v:Value}(h:Qt C ρ fr hp tmps w)(hx:Ext (λb=>ρ γ=some b/\∃hb,hp γ=some hb/\hb.fz=false) w w')(aS:O≠γ)
  (hr:fV ρ hp w O o n v):fV (rb ρ γ b') (Qg hp γ aE) w' O o n v:=
 fV.move hr ⟨rC aS,λhb ao=>⟨hb,by simp[Qg,aS,ao],rfl,Kag _,λb cap h1 h2=>
  nA (hx.block b (nE h2) (λ⟨e1,oE,e2,_⟩=>aS (h.inj O γ b (by simp[ao]) (by simp[e2]) h1 e1))) h2⟩⟩
def fV.slice{O o n:Nat}{v:Value}(h:fV ρ hp w O o n v):∃ad m c,v= .slice ad m c:=by
 obtain⟨_,_,_,⟨_,e,_⟩|⟨_,_,_,e,_⟩⟩:=h
 .exact⟨_,_,_,e⟩
 .exact⟨_,_,_,e⟩
def HO{O:Nat}(h:1000000<=O):bN O=true:=by simp[bN];omega
def MU{O:Nat}(h:2000000<=O):aP O=false:=by simp[aP];omega
def Qt.Jz{γ b ty cap:Nat}{cur:Array Value}(h:Qt C ρ (gP γ fr) hp tmps w)(hB:bN γ=true)(ak:hp γ=some ⟨1,ty,[],false⟩)(bT:ρ γ=some b)
  (h1:w.heap[b]? =some (.cells cur ty (0,0))) (h2:cur.size=cap) (h3:xs.length<=cap) (h4:cap<=maxLen) (hr:xs.all oe=true)
  (h6:∀(i O n:Nat),xs[i]? =some (.aD O 0 n)->fV ρ hp w O 0 n (cur.getD i undef)):Qt C ρ (FW.ae (gP γ fr) γ (.aH γ 1 ty xs)) hp tmps w:=by
 have jY:∀(i:Nat)(x:PV),xs[i]? =some x->∃O n,x= .aD O 0 n/\5000000<=O:=λi x hx=>LK (Kas.1 hr _ (Kaj hx))
 have:=h.OV (w':=w) (γ:=γ) (b:=b) (e:=1) (ty:=ty) (xs':=xs) (cur':=cur) (cap:=cap) hB Oz ak rfl rfl rfl rfl bT (Ext.refl _ _) (λ_ _ h=>h) h1 Oz h3 h4
  (λi x hx=>by obtain⟨O,n,rfl,_⟩:=jY i x hx;rfl)
  (λi x hx j y hy=>by
   obtain⟨O,n,rfl,ao⟩:=jY i x hx;rw[show(PV.aD O 0 n).aV=[.aD O 0 n]from rfl]at hy;have hj:j<1:=by have:=(Kah.1 hy).1;simpa using this
   obtain rfl:j=0:=by omega
   simp at hy;subst hy;rw[KbR,KaW];exact⟨HO Oz,h6 i O n hx⟩)
 rwa[Po]at this
def HQ{γ k cap:Nat}{ρ':Nat->Option Nat}{hp':HP}{b ty:Nat}{cur:Array Value}(hB:bN γ=true)(h1:hp' γ=some ⟨1,ty,[],false⟩)(h2:ρ' γ=some b)(h3:w.heap[b]? =some (.cells cur ty (0,0)))(h4:cur.size=cap)(h5:cap<=maxLen)(h6:k<=cap):
  Qj C ρ' hp' w (.aK γ 0 k) (.slice (some ⟨b,0,none⟩) k cap):=
 ⟨hB,⟨1,ty,[],false⟩,b,cap,h1,h2,by simp,⟨cur,ty,h3,by simp[h4]⟩,Oz,h6⟩
def agj{len n by_:Nat}{parts:Array (Nat×Operand)}{ps:List aW}{d:Nat}{Q:Exit->Act->World->Prop}(ho:o.op= .buildSlice t len parts)(hd:o.dst=some d)(aA:d<C.N)(bw:a.defers=[])(h:Qt C ρ fr hp a.tmps w)
  (hu:C.P.underlying t=some (.slice e)) (hz:mh C.P e=some (n,by_,z)) (wq:parts.toList.map (·.1)=List.range len) (mF:z.cells.length=n) (fR:(parts.toList.mapM λp=>cl p.2)=some ps)
  (X5:rH (ps.map (ev fr))=true) (hv:W7 n e (ps.map (ev fr)) d fr hp K):o.wp C.P a w (dw C true w K) Q:=by
 obtain⟨rfl,hK⟩:=hv;obtain⟨ti,zv,i1,i2,i3,i4,i5⟩:=vh hz;obtain⟨m1,m2⟩:=n8 fR;obtain⟨u,rfl⟩:∃u,ps=[u]:=by
  match ps,X5 with
  | [],hb=>simp[rH]at hb
  | [u],_=>exact⟨u,rfl⟩
  |u::v::ps,hb=>simp[rH]at hb
 have jY:oe (ev fr u)=true:=by simpa[rH]using X5
 obtain⟨O,m,rQ,ao⟩:=LK jY;obtain⟨⟨i,x⟩,zO⟩:∃p,parts.toList=[p]:=by
  match hq:parts.toList with
  | []=>rw[hq]at m1;simp at m1
  | [p]=>exact⟨p,rfl⟩
  |p::q::r=>rw[hq]at m1;simp at m1
 rw[zO]at wq m2;obtain rfl:len=1:=by have:=congrArg List.length wq;simpa using this.symm
 obtain rfl:i=0:=by simpa using wq
 have hxu:cl x=some u:=by obtain⟨x',bc,Oj⟩:=m2 0 u rfl;simp at bc;subst bc;exact Oj
 have hx:=dm h hxu;rw[rQ]at hx;have xV:fV ρ hp w O 0 m (a.eval x):=hx;obtain⟨ad,m',c',hvx⟩:=xV.slice;have hN:=C.hN;have qI:dV d<5000000:=by unfold dV;omega
 have hB:bN (dV d)=true:=HO (by unfold dV;omega);have hY:aP (dV d)=false:=MU (by unfold dV;omega);obtain⟨hs,he⟩:=h.z8 (dV d) hY Aw ⟨1,e,[],false⟩ #[a.eval x] 1 _ (.inl rfl) (by simp) (by simp) (by rw[oa];omega) (by simp) (by simp) (by simp);have dA:=hs.Jz (cur:= #[a.eval x]) (cap:=1) (xs:=[.aD O 0 m]) hB (by simp[Qg]) (jx _ _ _) (oU w _) (by simp) (by simp) (by rw[oa];omega) (by simp[oe,ao]) (λi bq n' hi=>by
  match i,hi with
  |0,hi=>simp at hi;obtain⟨rfl,rfl⟩:=hi;exact AB h (Ext.alloc w _ _) Oz xV
  |i+1,hi=>simp at hi)
 rw[Ka3,Kbs,rQ]at hK;refine kH (v:=.slice (some ⟨w.heap.size,0,none⟩) 1 1) ?_ (dw.nt hd aA bw dA (λ_=>he) (HQ hB (by simp[Qg]) (jx _ _ _) (oU w _) (by simp) (by rw[oa];omega) Oz) hK);unfold execOp;have ET:(parts.map λx=>match x with|(i,x)=>(i,a.eval x)).toList=[(0,a.eval x)]:=by simp[zO]
 simp only[ho,Instr.buildSlice,Kau,kj hu,Kan,nB (show fw C.P e=some 1 by simp[fw,i1,i3]),ET];simp[KaY,Kau,yu i1 i2,Instr.fill,hvx,Value.cells,newRow,show Array.range 1= #[0]from rfl]
def afj{n:Nat}{d:Nat}{Q:Exit->Act->World->Prop}(ho:o.op= .box t x)(hd:o.dst=some d)(aA:d<C.N)(bw:a.defers=[])(h:Qt C ρ fr hp a.tmps w)
  (hx:Qj C ρ hp w (.aU cs) (a.eval x)) (hv:xg n t cs d fr hp K):o.wp C.P a w (dw C true w K) Q:=by
 obtain⟨⟨hlen,hn,hU,gG⟩,hK⟩:=hv;obtain⟨vs,ex,fF,lz⟩:=hx;have hN:=C.hN;have hB:bN (dV d)=true:=HO (by unfold dV;omega);have hY:aP (dV d)=false:=MU (by unfold dV;omega);obtain⟨hs,he⟩:=h.z8 (dV d) hY Aw ⟨n,t,[],false⟩ vs 1 _ (.inl rfl) (by simp;omega) (by simp) (by rw[oa];omega) hn (by simp) (by simp);have bm:∀(i:Nat)(y:PV),cs[i]? =some y->dx C (rb ρ (dV d) (some w.heap.size)) (Qg hp (dV d) ⟨n,t,[],false⟩) (w.alloc (.cells vs t)) y (vs.getD i undef):=λi y hi=>by
  have hm:=Kaj hi;have ZN:∀O∈y.dM,O≠dV d:=λO ao e=>by have:=Kas.1 gG y hm;subst e;simp[ao]at this
  refine(lz i y hi).move ⟨λb hb _=>Gh w _ b hb,λb hb hX=>?_,by rw[Gi];omega⟩ (λO ao=>⟨rC (ZN O ao),λhb hh=>⟨hb,by simp[Qg,ZN O ao,hh],rfl,Kag _,λb cap _ hc=>nA (Gh w _ b (nE hc)) hc⟩⟩);rintro(bQ|⟨γ,hg,h1,h2,h3⟩)
  .exact hX (.inl bQ)
  .by_cases ak:γ=dV d
   .subst ak;rw[jx]at h3;cases h3;omega
   .refine hX (.inr ⟨γ,hg,?_,h2,by rwa[rC ak]at h3⟩);simpa[Qg,ak]using h1
 have:=hs.OV (w':=w.alloc (.cells vs t)) (γ:=dV d) (b:=w.heap.size) (e:=n) (ty:=t) (xs':=[.aU cs]) (cur':=vs) (cap:=1) hB hn (show Qg hp (dV d) ⟨n,t,[],false⟩ (dV d)=some ⟨n,t,[],false⟩by simp[Qg]) rfl rfl rfl rfl (jx _ _ _) (Ext.refl _ _) (λ_ _ h=>h) (oU w _) Oz (by simp) (by rw[oa];omega)
  (λi x hx=>by
   match i,hx with
   |0,hx=>simp at hx;subst hx;exact hlen
   |i+1,hx=>simp at hx)
  (λi x hx j y hy=>by
   match i,hx with
   |0,hx=>simp at hx;subst hx;rw[Kci,Ka2];exact bm j y hy
   |i+1,hx=>simp at hx)
 rw[Po]at this;refine kH (v:=.pointer (some ⟨w.heap.size,0,none⟩)) (w':=w.alloc (.cells vs t)) ?_ (dw.nt (p:=.np (dV d) 0 0) hd aA bw this (λ_=>he) ⟨hB,w.heap.size,⟨n,t,[],false⟩,jx _ _ _,by simp[Qg],by simp⟩ hK);unfold execOp;simp only[ho,Instr.box,newVar,newRow,ex,Value.cells];simp
def afk{n:Nat}{d:Nat}{Q:Exit->Act->World->Prop}(ho:o.op= .box t x)(hd:o.dst=some d)(aA:d<C.N)(bw:a.defers=[])(h:Qt C ρ fr hp a.tmps w)
  (hx:Qj C ρ hp w px (a.eval x)) (hv:fM n t px d fr hp K):o.wp C.P a w (dw C true w K) Q:=
 age ho hd aA bw h hx (λ_ e hb=>afj ho hd aA bw h (e▸hx) hb) hv
def afl    {n by_:Nat}   {d:Nat} {Q:Exit->Act->World->Prop}
  (ho:o.op= .call { callee:=.builtin .append,args:= #[s,x],argTypes:= #[t,t] }) (hd:o.dst=some d) (aA:d<C.N) (bw:a.defers=[]) (h:Qt C ρ fr hp a.tmps w)
  (hu:C.P.underlying t=some (.slice e)) (hz:mh C.P e=some (n,by_,z)) (mF:z.cells.length=n) (hs:Qj C ρ hp w ps (a.eval s)) (hx:Qj C ρ hp w px (a.eval x))
  (hv:Bw n by_ e ps px d fr hp K):o.wp C.P a w (dw C false w K) Q:=by
 obtain⟨ti,zv,i1,i2,i3,i4,i5⟩:=vh hz;have hN:=C.hN;have qI:dV d<5000000:=by unfold dV;omega
 have XN:bN (dV d)=true:=HO (by unfold dV;omega);have hYd:aP (dV d)=false:=MU (by unfold dV;omega);unfold Bw at hv;split at hv
 .rename_i δ;split at hv
  .rename_i O8 ty' y aw1;obtain⟨rfl,hyr,rfl,hv⟩:=hv;obtain⟨O,m,rfl,ao⟩:=LK hyr;obtain⟨_,azq,b,cap,gδ,rδ,ex,_,_,_⟩:=hx;have EB:=h.cQ O8;rw[aw1]at EB;obtain⟨_,_,b2,hb2,cur,Ea,q1,q2,q3,q4,q5,q6,q7,q8,q9,_,wD⟩:=EB;rw[gδ]at q2;cases q2;rw[rδ]at q1;cases q1;rw[Kci]at ex;have cU:=wD 0 _ rfl 0 (.aD O 0 m) rfl;simp only[Kci,Ka2]at cU;have xV:fV ρ hp w O 0 m (cur.getD 0 undef):=cU.2;obtain⟨ad,m',c',IP⟩:=xV.slice;have h0s:0<cur.size:=by simp at q8;omega
   have qG:w.cell? ⟨b,0,none⟩=some (cur.getD 0 undef):=nC q6 h0s;obtain⟨u,hu0⟩:∃u,cur.getD 0 undef=u:=⟨_,rfl⟩
   rw[hu0]at xV IP qG;have BU:∀(j:Nat)(v:Value),[u][j]? =some v->w.cell? ((⟨b,0,none⟩:Addr).add j)=some v:=λj v hj=>by
    have hj0:j<1:=by have:=(Kah.1 hj).1;simpa using this
    obtain rfl:j=0:=by omega
    simp at hj;subst hj;rw[KbS,KaW];exact qG
   have wA:zv.cells.size=1:=by have:=(u7 (w:=w) (X:=aM C ρ hp) i5).cells.1;omega
   split at hv
   .obtain⟨hb,hK⟩:=hv;have es:=hs.yf;have cN:=run_append_nil (P:=C.P) w t o.type e ti zv hu i1 i2 ⟨b,0,none⟩ 1 cap [u] (by simp[i3]) BU Oz Oz (by rw[i4];omega);have jE:=grownCap_ge w 1 0 e;have jD:=grownCap_le_maxLen w 1 0 e (by rw[oa];omega);generalize grownCap w 1 0 e=G at cN jE jD;have lz:([u].toArray++Builtin.zeroCells zv.cells (G-1)).size=G:=by simp[size_zeroCells,wA];omega
    have awB:([u].toArray++Builtin.zeroCells zv.cells (G-1)).size=G*1:=Oz;have rS:([u].toArray++Builtin.zeroCells zv.cells (G-1)).getD 0 undef=u:=by rw[lP,if_pos (by simp),yv];rfl
    obtain⟨gI,_⟩:=h.z8 (dV d) hYd Aw ⟨1,e,[],false⟩ ([u].toArray++Builtin.zeroCells zv.cells (G-1)) G _ (.inr rfl) awB (by simp) jD (by simp) (by simp) (by simp);have dA:=gI.Jz (cap:=G) (xs:=[.aD O 0 m]) XN (by simp[Qg]) (jx _ _ _) (oU w.drew _) lz (by simpa using jE) jD (by simp[oe,ao]) (λi bq n' hi=>by
     match i,hi with
     |0,hi=>simp at hi;obtain⟨rfl,rfl⟩:=hi;rw[rS];exact AB h ((Ext.drew w _).trans (Ext.alloc w.drew _ _)) Oz xV
     |i+1,hi=>simp at hi)
    exact kH (wG ho es ex cN) (dw.nt hd aA bw dA (by simp) (HQ XN (by simp[Qg]) (jx _ _ _) (oU w.drew _) lz jD jE) hK)
   .rename_i γ k;split at hv
    .rename_i bo ty2 xs aw0;obtain⟨⟨rfl,aAc,hY,rfl,rfl,oO,hby,EP⟩,⟨hb,ak,oG⟩,hK⟩:=hv;obtain⟨hB,qF,b1,Ij,g1,g2,es,g4,g5,g6⟩:=hs;rw[ak]at g1;cases g1;have EB:=h.cQ bo;rw[aw0]at EB;obtain⟨_,_,b1',aE,nR,vS,p1,p2,p3,p4,p5,p6,p7,p8,p9,_,p11⟩:=EB;rw[ak]at p2;cases p2;rw[g2]at p1;cases p1;rw[Kci]at es;obtain⟨ay6,aAd,d1,d2⟩:=g4;rw[p6]at d1;cases d1;rw[p4,KbR,Ka2]at d2;rw[KbR]at p7;obtain rfl:vS=Ij:=by omega
     have ZU:∀(i bq n':Nat),xs[i]? =some (.aD bq 0 n')->fV ρ hp w bq 0 n' (nR.getD i undef):=λi bq n' hi=>by have:=p11 i _ hi 0 (.aD bq 0 n') rfl;simp only[KbR,KaW]at this;exact this.2
     have ZV:∀(i bq n':Nat),xs[i]? =some (.aD bq 0 n')->bq≠bo:=λi bq n' hi=>by have:=Kas.1 oO _ (Kaj hi);simp[oe]at this;omega
     have bY:(xs++[PV.aD O 0 m]).all oe=true:=by rw[List.all_append,oO];simp[oe,ao]
     have bP:=(h.own bo hb ak).du;rw[g2]at bP;obtain⟨o1,o2,_⟩:=bP;replace o1:=Ctx.xB o1 hY;have xS:∀u'∈[u],u'.oneCell'=true:=by intro u' oN;simp at oN;subst oN;rw[IP];rfl
     by_cases BW:xs.length+1<=vS
     .have cN:=run_append_room (P:=C.P) w t o.type ty2 ti hu i1 b1 xs.length vS nR p6 ⟨b,0,none⟩ 1 cap [u] (by simp[i3]) BU xS BW (by simp[i3];omega);rw[i3,KbR]at cN;have rR:xs.length+[u].length<=nR.size:=by simp;omega
      have ni:=Cw (cur:=nR) (p:=xs.length) (cs:=[u]) rR;have im:=λk hk=>Cv (cur:=nR) (p:=xs.length) (cs:=[u]) (k:=k) rR hk
      generalize hW:(nR.toList.take xs.length++[u]++nR.toList.drop (xs.length+[u].length)).toArray=W at cN ni im;have hE:Ext (λc=>ρ bo=some c/\∃hb,hp bo=some hb/\hb.fz=false) w (w.setRow b1 W):=(Cx w b1 W).mono (λi _ hi=>⟨hi▸g2,hb,ak,oG⟩);have N4:(w.setRow b1 W).heap[b1]? =some (.cells W ty2 (0,0)):=setRow_heap w b1 nR W ty2 _ p6;have gI:=h.Cb (w':=w.setRow b1 W) bo (some b1) ⟨1,ty2,[],false⟩ hY Aw hE
       (λc hc=>by cases hc;exact⟨o1,by simpa using o2,.inr ⟨g2,hb,ak,oG⟩⟩) (by simp) (by simp) (by simp)
       (λc hc=>by cases hc;exact⟨W,vS,N4,by simp[ni];omega,by simp,p9,by simp⟩)
      have dA:=gI.Jz (cap:=vS) (xs:=xs++[.aD O 0 m]) hB (by simp[Qg]) (jx _ _ _) N4 Oz (by simpa using BW) p9 bY (λi bq n' hi=>by
       rw[KaV]at hi;by_cases iU:i<xs.length
       .rw[if_pos iU]at hi;rw[im i Oz,if_neg Oz];exact AB h hE (ZV i bq n' hi) (ZU i bq n' hi)
       .rw[if_neg iU]at hi;have rU:i-xs.length<1:=by have:=(Kah.1 hi).1;simpa using this
        obtain rfl:i=xs.length:=by omega
        rw[Kbz]at hi;simp at hi;obtain⟨rfl,rfl⟩:=hi;rw[im _ Oz,if_pos (by simp),Kbz];exact AB h hE Oz xV)
      exact kH (wG ho es ex cN) (dw.nt hd aA bw dA (by simp) (HQ hB (by simp[Qg]) (jx _ _ _) N4 Oz p9 BW) hK)
     .have iH:(nR.toList.take xs.length).length=xs.length:=by simp;omega
      have holds:∀(j:Nat)(v:Value),(nR.toList.take xs.length)[j]? =some v->w.cell? ((⟨b1,0,none⟩:Addr).add j)=some v:=λj v hj=>by
       have dz:j<xs.length:=by have:=(Kah.1 hj).1;omega
       rw[KaM dz]at hj;rw[KbS,Ka2,nC p6 Oz,Gg nR j v hj]
      have cN:=run_append_grow (P:=C.P) w t o.type ty2 ti zv hu i1 i2 ⟨b1,0,none⟩ xs.length vS (nR.toList.take xs.length) (by rw[iH,i3,KbR]) holds ⟨b,0,none⟩ 1 cap [u] (by simp[i3]) BU
       Oz Oz (growslice_fits Oz (by rw[i4];exact hby))
      have jE:=grownCap_ge w (xs.length+1) vS ty2;have jD:=grownCap_le_maxLen w (xs.length+1) vS ty2 (by rw[oa];exact EP);generalize grownCap w (xs.length+1) vS ty2=G at cN jE jD;have lz:((nR.toList.take xs.length).toArray++[u].toArray++Builtin.zeroCells zv.cells (G-(xs.length+1))).size=G:=by simp only[Kb4,KbX,iH,size_zeroCells,wA,KaX,Kbm];omega
      have iT:∀i,i<xs.length+1->((nR.toList.take xs.length).toArray++[u].toArray++Builtin.zeroCells zv.cells (G-(xs.length+1))).getD i undef=if i<xs.length then nR.getD i undef else u:=λi hi=>by
       rw[lP,if_pos (by simp only[Kb4,KbX,iH,KaX,Kbm];omega),lP,KbX,iH];by_cases iU:i<xs.length
       .rw[if_pos iU,if_pos iU,yv,Kac,KaM iU];simp[KaS]
       .rw[if_neg iU,if_neg iU,yv,show i-xs.length=0 by omega];rfl
      generalize hW:(nR.toList.take xs.length).toArray++[u].toArray++Builtin.zeroCells zv.cells (G-(xs.length+1))=W at cN lz iT;obtain⟨gI,_⟩:=h.z8 bo hY Aw ⟨1,ty2,[],false⟩ W G _ (.inr rfl) (by simp[lz]) (by simp) jD (by simp) (by simp) (by simp);have hE:Ext (λc=>ρ bo=some c/\∃hb,hp bo=some hb/\hb.fz=false) w (w.drew.alloc (.cells W ty2)):=(Ext.drew w _).trans (Ext.alloc w.drew _ _);have dA:=gI.Jz (cap:=G) (xs:=xs++[.aD O 0 m]) hB (by simp[Qg]) (jx _ _ _) (oU w.drew _) lz (by simpa using jE) jD bY (λi bq n' hi=>by
       rw[KaV]at hi;by_cases iU:i<xs.length
       .rw[if_pos iU]at hi;rw[iT i Oz,if_pos iU];exact AB h hE (ZV i bq n' hi) (ZU i bq n' hi)
       .rw[if_neg iU]at hi;have rU:i-xs.length<1:=by have:=(Kah.1 hi).1;simpa using this
        obtain rfl:i=xs.length:=by omega
        rw[Kbz]at hi;simp at hi;obtain⟨rfl,rfl⟩:=hi;rw[iT _ Oz,if_neg Oz];exact AB h hE Oz xV)
      exact kH (wG ho es ex cN) (dw.nt hd aA bw dA (by simp) (HQ hB (by simp[Qg]) (jx _ _ _) (oU w.drew _) lz jD jE) hK)
    .exact hv.elim
   .exact hv.elim
  .exact hv.elim
 .exact hv.elim
def agk{len n by_:Nat}{parts:Array (Nat×Operand)}{ps:List aW}{d:Nat}{Q:Exit->Act->World->Prop}(ho:o.op= .buildSlice t len parts)(hd:o.dst=some d)(aA:d<C.N)(bw:a.defers=[])(h:Qt C ρ fr hp a.tmps w)
  (hu:C.P.underlying t=some (.slice e)) (hz:mh C.P e=some (n,by_,z)) (wq:parts.toList.map (·.1)=List.range len) (aaa:len*n<=16777216) (mF:z.cells.length=n) (fR:(parts.toList.mapM λp=>cl p.2)=some ps)
  (hv:oz n e (ps.map (ev fr)) d fr hp K):o.wp C.P a w (dw C true w K) Q:=by
 unfold oz at hv;split at hv
 .rename_i hb;exact agj ho hd aA bw h hu hz wq mF fR hb hv
 .exact aiJ ho hd aA bw h hu hz wq aaa mF fR hv
def afm{n by_:Nat}{d:Nat}{Q:Exit->Act->World->Prop}
  (ho:o.op= .call { callee:=.builtin .append,args:= #[s,x],argTypes:= #[t,t] }) (hd:o.dst=some d) (aA:d<C.N) (bw:a.defers=[]) (h:Qt C ρ fr hp a.tmps w)
  (hu:C.P.underlying t=some (.slice e)) (hz:mh C.P e=some (n,by_,z)) (mF:z.cells.length=n) (hs:Qj C ρ hp w ps (a.eval s)) (hx:Qj C ρ hp w px (a.eval x))
  (hv:jO n by_ e ps px d fr hp K):o.wp C.P a w (dw C false w K) Q:=
 agh ho hd aA bw h hu hz mF hs hx (λ_ hn=>afl ho hd aA bw h hu hz mF hs hx hn) hv
end Go.FW
namespace Go.FW
open Go
variable {C : Ctx} {ρ : Nat -> Option Nat} {fr : Fr} {hp : HP} {w : World} {a : Act} {K : Qf}
variable{P:Program}{dr:Bool}{e t:TypeId}{o:Oper}{ts:Array TypeId}
def Q4x  {g : FuncId} (hg : (P.funcs[g]?).any (λfn => fn.body.isSome && fn.name != "runtime.NumGoroutine") = true) (args : Array Value) (w : World) :
  (callFunc g args).run P w= .ok (.enter g args) w:=by
 cases hf:P.funcs[g]? with
 |none=>simp[hf]at hg
 |some fn=>
  simp only[hf,Option.any_some,Kav,bne_iff_ne,ne_eq]at hg;obtain⟨h1,h2⟩:=hg;have h3:fn.body.isNone=false:=by cases hb:fn.body<;>simp[hb]at h1⊢
  have h4 : (fn.name == "runtime.NumGoroutine") = false := by simpa using h2
  have hn:¬(fn.body=none):=λhe=>by simp[he]at h1
  unfold callFunc;simp[hf,h2,hn]
def afn{f:Operand}{args:Array Operand}{pf:aW}{aQ:List aW}{pr:Bool}{Q:Exit->Act->World->Prop}
  (ho:o.op= .call { callee:=.value f,args:=args,argTypes:=ts }) (aA:∀d,o.dst=some d->d<C.N) (bw:a.defers=[]) (h:Qt C ρ fr hp a.tmps w)
  (hf:cl f=some pf) (cF:args.toList.mapM cl=some aQ) (hv:eI C pr (ev fr pf) (aQ.map (ev fr)) o.dst fr hp K):o.wp C.P a w (dw C pr w K) Q:=by
 have na:=dm h hf;unfold eI at hv;split at hv
 .rename_i g first cap rQ
  rw[rQ]at na;obtain⟨hg,awx⟩:=hv;obtain⟨fv,cv,ef,h1,h2,h3,h4⟩:=na;obtain⟨m1,m2⟩:=ME h cF;have EO:(args.toList.map a.eval).toArray=args.map a.eval:=Array.ext' (by simp);rw[EO]at m2;have hc:=awx ρ a.tmps w fv cv (args.map a.eval) aA h h1 h2 (by simpa using m1.symm) h3 h4 m2;have hex:(execOp a.eval o).run C.P w= .ok (.enter g (fv++args.map a.eval++cv)) w:=by unfold execOp;simp only[ho,resolve,Kau,KaY,Kan,ef,Deferred.ofValue,invoke];rw[Q4x hg]
  unfold Oper.wp;rw[hex];refine hc.mono λe w' hp'=>?_
  obtain⟨v,aG,hp',rfl,hs,hx,hK⟩:=hp';refine⟨by rw[yy];exact bw,⟨aG,hp',?_,hK⟩,hx⟩;cases hd:o.dst with
  |some d=>rw[hd]at hs;exact hs
  |none=>rw[hd]at hs;exact hs
 .exact hv.elim
def wL{α:Type}{xs:Array α}{l:List α}(h:xs.toList=l):xs=l.toArray:=by subst h;simp
def C9(h:sI P t=some e):P.underlying t=some (.slice e):=by
 unfold sI at h;split at h
 .rename_i hq;cases h;exact hq
 .cases h
def Wc(cT:(ir C.P dr o).cls=0)(aA:∀d,o.dst=some d->d<C.N)(h:Qt C ρ fr hp a.tmps w)(hv:bK C (ir C.P dr o) fr hp K):Qz C ρ o a w K:=by
 unfold ir at cT hv;cases aj:oV C.P dr o with
 |none=>rw[aj]at hv;exact hv.elim
 | some so=>
  rw[aj]at cT hv;simp only[Kbl]at cT hv;unfold oV at aj;split at aj
  case h_1 x d hop hd=>simp only[Kaa]at aj;obtain⟨y,hy,rfl⟩:=aj;exact QT (.inl hop) hd (aA d hd) h (dm h hy) hv
  case h_2 x d hop hd=>simp only[Kaa]at aj;obtain⟨y,hy,rfl⟩:=aj;exact QT (.inr hop) hd (aA d hd) h (dm h hy) hv
  case h_3 c x y d hop hd=>
   simp only[Kab,Kaa]at aj;obtain⟨pc,hc,px,hx,py,hy,rfl⟩:=aj;exact afe hop hd (aA d hd) h (dm h hc) (dm h hx) (dm h hy) hv
  case h_4 op t x y t2 d hop hd=>
   simp only[Kab,Kaa]at aj;obtain⟨px,hx,py,hy,rfl⟩:=aj;unfold Ch at hv;split at hv
   .rename_i ng nX;split at nX
    .rename_i dA;exact agD hop nX dA hd (aA d hd) h (dm h hx) (dm h hy) hv
    .cases nX
   split at hv
   .rename_i ng nX;split at nX
    .rename_i dA;exact agz hop nX dA hd (aA d hd) h (dm h hx) (dm h hy) hv
    .cases nX
   split at hv
   .rename_i ng nX;split at nX
    .rename_i dA;rw[Kav]at dA;exact agB hop nX dA.1 (agA hy dA.2) hd (aA d hd) h (dm h hx) hv
    .cases nX
   refine agv hop hd (aA d hd) h (dm h hx) (dm h hy) (λhb=>?_) hv;split at hb
   .assumption
   .cases hb
  case h_5 op t x d hop hd=>simp only[Kaa]at aj;obtain⟨y,hy,rfl⟩:=aj;exact aiB hop hd (aA d hd) h (dm h hy) hv
  case h_6 s t x d hop hd=>
   split at aj
   .rename_i ds k hS hT;simp only[Kaa]at aj;obtain⟨y,hy,rfl⟩:=aj;exact afd hop hd (aA d hd) h hS hT (dm h hy) hv
   .cases aj
  case h_7 t x i d hop hd=>
   simp only[Kab]at aj;obtain⟨px,hx,pi,hi,aj⟩:=aj;split at aj
   .rename_i e hu;simp only[Kaa]at aj;obtain⟨n,hn,rfl⟩:=aj;exact agE hop hd (aA d hd) h hu hn (dm h hx) (dm h hi) hv
   .rename_i len e hu;simp only[Kaa]at aj;obtain⟨n,hn,rfl⟩:=aj;exact aff hop hd (aA d hd) h hu hn (dm h hx) (dm h hi) hv
   .cases aj
  case h_8 t x i d hop hd=>
   simp only[Kab]at aj;obtain⟨px,hx,pi,hi,aj⟩:=aj;split at aj
   .rename_i len e hu;simp only[Kab,Kaa]at aj;obtain⟨n,hn,ag,lv,rfl⟩:=aj;exact agH hop hd (aA d hd) h hu hn lv (dm h hx) (dm h hi) hv
   .rename_i hu;cases aj;exact agG hop hd (aA d hd) h hu (dm h hx) (dm h hi) hv
   .cases aj
  case h_9 t x j d hop hd=>
   simp only[Kab]at aj;obtain⟨px,hx,aj⟩:=aj;split at aj
   .rename_i fs hu;simp only[Kab]at aj;obtain⟨f,hf,n,hn,aj⟩:=aj;split at aj
    .cases aj
    .rename_i lB;simp only[KaG]at aj;subst aj;exact agF hop hd (aA d hd) h hu hf hn lB (dm h hx) hv
   .cases aj
  case h_10 t x j d hop hd=>
   simp only[Kab]at aj;obtain⟨px,hx,aj⟩:=aj;split at aj
   .rename_i fs hu;simp only[Kab,Kaa]at aj;obtain⟨f,hf,n,hn,ag,lv,rfl⟩:=aj;exact afg hop hd (aA d hd) h hu hf hn lv (dm h hx) hv
   .cases aj
  case h_17 t parts d hop hd=>
   simp only[Kab,Kaa]at aj;obtain⟨⟨n,by_,z⟩,hz,ps,fR,rfl⟩:=aj;simp only[bK,nJ]at hv;split at hv
   .exact afi hop hd (aA d hd) h hz fR hv
   .exact agI hop hd (aA d hd) h hz fR hv
  case h_18 t x lo hi m d hop hd=>
   simp only[Kab,Kaa]at aj;obtain⟨px,hx,JF,uD,Fs,xR,pm,hm,e,he,n,hn,rfl⟩:=aj;have hu:C.P.underlying t=some (.slice e):=by
    unfold sI at he;split at he
    .rename_i hq;cases he;exact hq
    .cases he
   exact aiF hop hd (aA d hd) h hu hn (dm h hx) uD xR hm hv
  case h_19 x i d hop hd=>simp only[Kaa]at aj;obtain⟨y,hy,rfl⟩:=aj;exact agC hop hd (aA d hd) h (dm h hy) hv
  case h_20 f first cap d hop hd=>
   simp only[Kab,Kaa]at aj;obtain⟨pf,h1,pc,h2,rfl⟩:=aj;exact aiG hop hd (aA d hd) h h1 h2 hv
  case h_11=>simp only[Kab,Kaa]at aj;obtain⟨_,_,_,_,_,_,rfl⟩:=aj;cases cT
  case h_12=>simp only[Kab,Kaa]at aj;obtain⟨_,_,_,_,_,_,rfl⟩:=aj;cases cT
  case h_13=>simp only[Kab,Kaa]at aj;obtain⟨_,_,_,_,rfl⟩:=aj;cases cT
  case h_14=>simp only[Kaa]at aj;obtain⟨_,_,rfl⟩:=aj;cases cT
  case h_15=>simp only[Kab,Kaa]at aj;obtain⟨_,_,_,_,_,_,_,_,rfl⟩:=aj;cases cT
  case h_16=>
   simp only[Kab]at aj;obtain⟨_,_,_,_,aj⟩:=aj;split at aj
   .simp only[Kaa]at aj;obtain⟨_,_,rfl⟩:=aj;cases cT
   .cases aj
  case h_21 hop=>simp only[Kaa]at aj;obtain⟨y,hy,rfl⟩:=aj;exact afh hop aA h (dm h hy) hv
  case h_22 c hop=>
   obtain⟨callee,args,ts⟩:=c;split at aj
   .simp only[Kab,Kaa]at aj;obtain⟨_,_,_,_,rfl⟩:=aj;cases cT
   .rename_i x t d tg cF nZ hd;obtain rfl:args= #[x]:=wL cF;obtain rfl:ts= #[t]:=wL nZ;cases tg;split at aj
    .rename_i hs;simp only[Kaa]at aj;obtain⟨y,hy,rfl⟩:=aj;exact agy hop hd (aA d hd) h (dm h hy) hs hv
    simp only[Kab,Kaa]at aj;obtain⟨e,he,y,hy,rfl⟩:=aj;exact agx hop hd (aA d hd) h (dm h hy) (C9 he) hv
   .rename_i x y d tg cF hd;simp only[Kab,Kaa]at aj;obtain⟨px,hx,py,hy,rfl⟩:=aj;obtain rfl:args= #[x,y]:=wL cF;cases tg;exact aiz hop hd (aA d hd) h (dm h hx) (dm h hy) hv
   .rename_i x y d tg cF hd;simp only[Kab,Kaa]at aj;obtain⟨px,hx,py,hy,rfl⟩:=aj;obtain rfl:args= #[x,y]:=wL cF;cases tg;exact aiA hop hd (aA d hd) h (dm h hx) (dm h hy) hv
   .simp only[Kab]at aj;obtain⟨_,_,_,_,_,_,aj⟩:=aj;split at aj
    .simp only[Kab]at aj;obtain⟨_,_,aj⟩:=aj;split at aj
     .cases aj;cases cT
     .cases aj
    .cases aj
   .simp only[Kab]at aj;obtain⟨_,_,_,_,_,_,aj⟩:=aj;split at aj
    .simp only[Kaa]at aj;obtain⟨_,_,rfl⟩:=aj;cases cT
    .cases aj
   .cases aj
  case h_23=>cases aj
def Wd(cT:(ir C.P dr o).cls=1)(aA:∀d,o.dst=some d->d<C.N)(h:Qt C ρ fr hp a.tmps w)(hv:bK C (ir C.P dr o) fr hp K):Dw C ρ o a w K:=by
 unfold ir at cT hv;cases aj:oV C.P dr o with
 |none=>rw[aj]at hv;exact hv.elim
 | some so=>
  rw[aj]at cT hv;simp only[Kbl]at cT hv;unfold oV at aj;split at aj
  case h_11 t x d hop hd=>
   simp only[Kab,Kaa]at aj;obtain⟨px,hx,n,hn,ag,lv,rfl⟩:=aj;exact aiE hop hd (aA d hd) h hn lv (dm h hx) hv
  case h_1=>simp only[Kaa]at aj;obtain⟨_,_,rfl⟩:=aj;cases cT
  case h_2=>simp only[Kaa]at aj;obtain⟨_,_,rfl⟩:=aj;cases cT
  case h_3=>simp only[Kab,Kaa]at aj;obtain⟨_,_,_,_,_,_,rfl⟩:=aj;cases cT
  case h_4=>simp only[Kab,Kaa]at aj;obtain⟨_,_,_,_,rfl⟩:=aj;unfold Ch at cT;split at cT<;>first|(cases cT;done)|(split at cT<;>first|(cases cT;done)|(split at cT<;>cases cT))
  case h_5=>simp only[Kaa]at aj;obtain⟨_,_,rfl⟩:=aj;cases cT
  case h_6=>split at aj<;>first|cases aj|(simp only[Kaa]at aj;obtain⟨_,_,rfl⟩:=aj;cases cT)
  case h_7=>
   simp only[Kab]at aj;obtain⟨_,_,_,_,aj⟩:=aj;split at aj<;>first|cases aj|(simp only[Kaa]at aj;obtain⟨_,_,rfl⟩:=aj;cases cT)
  case h_8=>
   simp only[Kab]at aj;obtain⟨_,_,_,_,aj⟩:=aj;split at aj<;>first|(simp only[Kab,Kaa]at aj;obtain⟨_,_,_,_,rfl⟩:=aj;cases cT)|(cases aj;done)|(cases aj;cases cT)
  case h_9=>
   simp only[Kab]at aj;obtain⟨_,_,aj⟩:=aj;split at aj
   .simp only[Kab]at aj;obtain⟨_,_,_,_,aj⟩:=aj;split at aj<;>first|(cases aj;done)|(simp only[KaG]at aj;subst aj;cases cT)
   .cases aj
  case h_10=>
   simp only[Kab]at aj;obtain⟨_,_,aj⟩:=aj;split at aj<;>first|(cases aj;done)|(simp only[Kab,Kaa]at aj;obtain⟨_,_,_,_,_,_,rfl⟩:=aj;cases cT)
  case h_12=>simp only[Kab,Kaa]at aj;obtain⟨_,_,_,_,_,_,rfl⟩:=aj;cases cT
  case h_13=>simp only[Kab,Kaa]at aj;obtain⟨_,_,_,_,rfl⟩:=aj;cases cT
  case h_14=>simp only[Kaa]at aj;obtain⟨_,_,rfl⟩:=aj;cases cT
  case h_15=>simp only[Kab,Kaa]at aj;obtain⟨_,_,_,_,_,_,_,_,rfl⟩:=aj;cases cT
  case h_16=>
   simp only[Kab]at aj;obtain⟨_,_,_,_,aj⟩:=aj;split at aj
   .simp only[Kaa]at aj;obtain⟨_,_,rfl⟩:=aj;cases cT
   .cases aj
  case h_17=>simp only[Kab,Kaa]at aj;obtain⟨_,_,_,_,rfl⟩:=aj;cases cT
  case h_18=>simp only[Kab,Kaa]at aj;obtain⟨_,_,_,_,_,_,_,_,_,_,_,_,rfl⟩:=aj;cases cT
  case h_19=>simp only[Kaa]at aj;obtain⟨_,_,rfl⟩:=aj;cases cT
  case h_20=>simp only[Kab,Kaa]at aj;obtain⟨_,_,_,_,rfl⟩:=aj;cases cT
  case h_21=>simp only[Kaa]at aj;obtain⟨_,_,rfl⟩:=aj;cases cT
  case h_22=>
   split at aj
   .simp only[Kab,Kaa]at aj;obtain⟨_,_,_,_,rfl⟩:=aj;cases cT
   .split at aj
    .simp only[Kaa]at aj;obtain⟨_,_,rfl⟩:=aj;cases cT
    .simp only[Kab,Kaa]at aj;obtain⟨_,_,_,_,rfl⟩:=aj;cases cT
   .simp only[Kab,Kaa]at aj;obtain⟨_,_,_,_,rfl⟩:=aj;cases cT
   .simp only[Kab,Kaa]at aj;obtain⟨_,_,_,_,rfl⟩:=aj;cases cT
   .simp only[Kab]at aj;obtain⟨_,_,_,_,_,_,aj⟩:=aj;split at aj
    .simp only[Kab]at aj;obtain⟨_,_,aj⟩:=aj;split at aj
     .cases aj;cases cT
     .cases aj
    .cases aj
   .simp only[Kab]at aj;obtain⟨_,_,_,_,_,_,aj⟩:=aj;split at aj
    .simp only[Kaa]at aj;obtain⟨_,_,rfl⟩:=aj;cases cT
    .cases aj
   .cases aj
  case h_23=>cases aj
def Qz.wp{o:Oper}{two:Bool}{Q:Exit->Act->World->Prop}(bw:a.defers=[])(h:Qz C ρ o a w K):o.wp C.P a w (dw C two w K) Q:=by obtain⟨v,hr,aG,hp',hs,hK⟩:=h;exact kH (hr w) ⟨by rw[yy];exact bw,⟨aG,hp',⟨ρ,hs⟩,hK⟩,λ_=>Ext.refl _ _⟩
def Dw.wp{o:Oper}{two:Bool}{Q:Exit->Act->World->Prop}(bw:a.defers=[])(h:Dw C ρ o a w K):o.wp C.P a w (dw C two w K) Q:=by obtain⟨v,b,_,hr,aG,hp',hs,hK⟩:=h;exact kH (hr w rfl) ⟨by rw[yy];exact bw,⟨aG,hp',⟨ρ,hs⟩,hK⟩,λ_=>Ext.refl _ _⟩
def dw.mono{two aaL:Bool}{a':Act}{w':World}(h2:aaL=true->two=true)(h:dw C two w K a' w'):dw C aaL w K a' w':=⟨h.1,h.2.1,λhh=>h.2.2 (h2 hh)⟩
def aiM{Q:Exit->Act->World->Prop}(aA:∀d,o.dst=some d->d<C.N)(bw:a.defers=[])(h:Qt C ρ fr hp a.tmps w)(hv:bK C (ir C.P dr o) fr hp K):
  o.wp C.P a w (dw C (!(ir C.P dr o).kP) w K) Q:=by
 by_cases h0:(ir C.P dr o).cls=0
 .exact(Wc h0 aA h hv).wp bw
 by_cases h1:(ir C.P dr o).cls=1
 .exact(Wd h1 aA h hv).wp bw
 unfold ir at h0 h1 hv⊢;cases aj:oV C.P dr o with
 |none=>rw[aj]at hv;exact hv.elim
 | some so=>
  rw[aj]at h0 h1 hv;simp only[Kbl]at h0 h1 hv⊢;have fin:∀ {two:Bool},(so.kP=false->two=true)->o.wp C.P a w (dw C two w K) Q->o.wp C.P a w (dw C (!so.kP) w K) Q:=λh2 hw=>
   Oper.wp_mono (λa' w' hA=>hA.mono (λhh=>h2 (by simpa using hh))) hw
  unfold oV at aj;split at aj
  case h_12 t x y hop hd=>
   simp only[Kab,Kaa]at aj;obtain⟨px,hx,py,hy,n,hn,rfl⟩:=aj;exact fin (by simp[cZ.kP]) (aiL hop hd bw h hn (dm h hx) (dm h hy) hv)
  case h_13 t x d hop hd=>
   simp only[Kab,Kaa]at aj;obtain⟨px,hx,n,hn,rfl⟩:=aj;exact fin (λ_=>rfl) (afk hop hd (aA d hd) bw h (dm h hx) hv)
  case h_14 t d hop hd=>
   simp only[Kaa]at aj;obtain⟨⟨n,by_,z⟩,hz,rfl⟩:=aj;obtain⟨ti,zv,i1,i2,_,_,i5⟩:=vh hz;exact fin (λ_=>rfl) (Q8a hop hd (aA d hd) bw h i1 i2 i5 hv)
  case h_15 t l c d hop hd=>
   simp only[Kab,Kaa]at aj;obtain⟨pl,hl,pc,hc,e,he,⟨n,by_,z⟩,hz,rfl⟩:=aj;exact fin (λ_=>rfl) (aiI hop hd (aA d hd) bw h (C9 he) hz (dm h hl) (dm h hc) hv)
  case h_16 t len parts d hop hd=>
   simp only[Kab]at aj;obtain⟨e,he,⟨n,by_,z⟩,hz,aj⟩:=aj;split at aj
   .rename_i EA;simp only[Kaa]at aj;obtain⟨ps,fR,rfl⟩:=aj;exact fin (λ_=>rfl) (agk hop hd (aA d hd) bw h (C9 he) hz EA.1 EA.2.1 EA.2.2 fR hv)
   .cases aj
  case h_22 c hop=>
   obtain⟨callee,args,ts⟩:=c;split at aj
   .rename_i f tg;simp only[Kab,Kaa]at aj;obtain⟨pf,hf,aQ,cF,rfl⟩:=aj;cases tg;exact fin (two:=dr&& !Tp C.P pf) (λhh=>by simpa[cZ.kP]using hh) (afn hop aA bw h hf cF hv)
   .split at aj
    .simp only[Kaa]at aj;obtain⟨_,_,rfl⟩:=aj;exact absurd rfl h0
    .simp only[Kab,Kaa]at aj;obtain⟨_,_,_,_,rfl⟩:=aj;exact absurd rfl h0
   .simp only[Kab,Kaa]at aj;obtain⟨_,_,_,_,rfl⟩:=aj;exact absurd rfl h0
   .simp only[Kab,Kaa]at aj;obtain⟨_,_,_,_,rfl⟩:=aj;exact absurd rfl h0
   .rename_i s x t u d tg cF nZ hd;simp only[Kab]at aj;obtain⟨ps,hs,px,hx,e,he,aj⟩:=aj;split at aj
    .rename_i OC;subst OC;simp only[Kab]at aj;obtain⟨⟨n,by_,z⟩,hz,aj⟩:=aj;split at aj
     .rename_i mF;simp only[KaG]at aj;subst aj;obtain rfl:args= #[s,x]:=wL cF;obtain rfl:ts= #[t,t]:=wL nZ;cases tg;exact fin (by simp[cZ.kP]) (afm hop hd (aA d hd) bw h (C9 he) hz mF (dm h hs) (dm h hx) hv)
     .cases aj
    .cases aj
   .rename_i s x t u d tg cF nZ hd;simp only[Kab]at aj;obtain⟨ps,hs,px,hx,e,he,aj⟩:=aj;split at aj
    .rename_i OC;subst OC;simp only[Kaa]at aj;obtain⟨n,hn,rfl⟩:=aj;obtain rfl:args= #[s,x]:=wL cF;obtain rfl:ts= #[t,t]:=wL nZ;cases tg;exact fin (by simp[cZ.kP]) (agi hop hd (aA d hd) bw h (C9 he) hn (dm h hs) (dm h hx) hv)
    .cases aj
   .cases aj
  all_goals exfalso
  case h_1=>simp only[Kaa]at aj;obtain⟨_,_,rfl⟩:=aj;exact h0 rfl
  case h_2=>simp only[Kaa]at aj;obtain⟨_,_,rfl⟩:=aj;exact h0 rfl
  case h_3=>simp only[Kab,Kaa]at aj;obtain⟨_,_,_,_,_,_,rfl⟩:=aj;exact h0 rfl
  case h_4=>simp only[Kab,Kaa]at aj;obtain⟨_,_,_,_,rfl⟩:=aj;exact h0 (by unfold Ch;split<;>first|rfl|(split<;>first|rfl|(split<;>rfl)))
  case h_5=>simp only[Kaa]at aj;obtain⟨_,_,rfl⟩:=aj;exact h0 rfl
  case h_6=>split at aj<;>first|(cases aj;done)|(simp only[Kaa]at aj;obtain⟨_,_,rfl⟩:=aj;exact h0 rfl)
  case h_7=>
   simp only[Kab]at aj;obtain⟨_,_,_,_,aj⟩:=aj;split at aj<;>first|(cases aj;done)|(simp only[Kaa]at aj;obtain⟨_,_,rfl⟩:=aj;exact h0 rfl)
  case h_8=>
   simp only[Kab]at aj;obtain⟨_,_,_,_,aj⟩:=aj;split at aj<;>first|(cases aj;done)|(simp only[Kab,Kaa]at aj;obtain⟨_,_,_,_,rfl⟩:=aj;exact h0 rfl)|(cases aj;exact h0 rfl)
  case h_9=>
   simp only[Kab]at aj;obtain⟨_,_,aj⟩:=aj;split at aj
   .simp only[Kab]at aj;obtain⟨_,_,_,_,aj⟩:=aj;split at aj<;>first|(cases aj;done)|(simp only[KaG]at aj;subst aj;exact h0 rfl)
   .cases aj
  case h_10=>
   simp only[Kab]at aj;obtain⟨_,_,aj⟩:=aj;split at aj<;>first|(cases aj;done)|(simp only[Kab,Kaa]at aj;obtain⟨_,_,_,_,_,_,rfl⟩:=aj;exact h0 rfl)
  case h_11=>simp only[Kab,Kaa]at aj;obtain⟨_,_,_,_,_,_,rfl⟩:=aj;exact h1 rfl
  case h_17=>simp only[Kab,Kaa]at aj;obtain⟨_,_,_,_,rfl⟩:=aj;exact h0 rfl
  case h_18=>simp only[Kab,Kaa]at aj;obtain⟨_,_,_,_,_,_,_,_,_,_,_,_,rfl⟩:=aj;exact h0 rfl
  case h_19=>simp only[Kaa]at aj;obtain⟨_,_,rfl⟩:=aj;exact h0 rfl
  case h_20=>simp only[Kab,Kaa]at aj;obtain⟨_,_,_,_,rfl⟩:=aj;exact h0 rfl
  case h_21=>simp only[Kaa]at aj;obtain⟨_,_,rfl⟩:=aj;exact h0 rfl
  case h_23=>cases aj
end Go.FW
namespace Go.FW
open Go
variable {C : Ctx} {ρ : Nat -> Option Nat} {fr : Fr} {hp : HP} {w : World} {a : Act} {K : Qf}
variable{dr:Bool}{g:rf}{o:Oper}{ops:Array Oper}{r:RT}{sk:List It}{tmps:Array Value}
def aiN(h:Qt C ρ fr hp a.tmps w){s:Nat}(hs:s<C.N):a.tmps[s]? =some (a.tmps.getD s undef):=by
 have:s<a.tmps.size:=by rw[h.sz];exact hs
 simp[Array.getD,this]
def VA(h:Qt C ρ fr hp a.tmps w)(hc:nD C.P C.N dr ops o=some g)(hv:iy C g.g g.o fr hp K):
  (∀d,o.dst=some d->d<C.N)/\g.o=ir C.P dr o/\
  ((Region.wanted o (yielded ops a.tmps)=true/\bK C g.o fr hp K)\/(Region.wanted o (yielded ops a.tmps)=false/\lS g.o fr hp K)):=by
 unfold nD at hc;split at hc
 .rename_i bY;have aA:∀d,o.dst=some d->d<C.N:=λd hd=>by rw[hd]at bY;simpa using bY
  cases hg:o.guard with
  |none=>rw[hg]at hc;cases hc;exact⟨aA,rfl,.inl ⟨by simp[Region.wanted,hg],hv⟩⟩
  | some jw=>
   obtain⟨j,want⟩:=jw;rw[hg]at hc;simp only at hc;split at hc
   .rename_i s hs;split at hc
    .rename_i hsN;cases hc;refine⟨aA,rfl,?_⟩;have ht:=aiN h hsN;have hr:=h.cQ s;simp only[iy]at hv;split at hv
     .rename_i t qK;rw[qK]at hr;have hb:=hr.BF;have hy:yielded ops a.tmps j=some t:=by simp only[yielded,hs,Kcf,ht,hb]
      have zR:∀b,t=b->ae fr s (.bool b)=fr:=λb aE=>by
       funext i;unfold ae;split
       .rename_i hi;subst hi;subst aE;exact qK.symm
       .rfl
      by_cases hw:t=want
      .refine .inl ⟨by simp[Region.wanted,hg,hy,hw],?_⟩;have:=hv.1 hw
       rwa[zR want hw]at this
      .have uR:t= !want:=by cases t<;>cases want<;>simp_all
       refine .inr ⟨by simp[Region.wanted,hg,hy,hw],?_⟩;have:=hv.2 uR
       rwa[zR _ uR]at this
     .rename_i qK;rw[qK]at hr;obtain⟨vs,ev,fF,_⟩:=hr;have r9:vs= #[]:=KbU (by simpa using fF);have hy:yielded ops a.tmps j=none:=by simp only[yielded,hs,Kcf,ht,ev]
      exact .inr ⟨by simp[Region.wanted,hg,hy],hv⟩
     .exact hv.elim
    .cases hc
   .cases hc
 .cases hc
def Tn:(ir C.P dr o).dst=o.dst:=by
 unfold ir;cases aj:oV C.P dr o with
 |none=>rfl
 | some so=>
  simp only[Kbl];unfold oV at aj;split at aj
  case h_1 hd=>simp only[Kaa]at aj;obtain⟨_,_,rfl⟩:=aj;exact hd.symm
  case h_2 hd=>simp only[Kaa]at aj;obtain⟨_,_,rfl⟩:=aj;exact hd.symm
  case h_3 hd=>simp only[Kab,Kaa]at aj;obtain⟨_,_,_,_,_,_,rfl⟩:=aj;exact hd.symm
  case h_4 hd=>simp only[Kab,Kaa]at aj;obtain⟨_,_,_,_,rfl⟩:=aj;unfold Ch;split<;>first|exact hd.symm|(split<;>first|exact hd.symm|(split<;>exact hd.symm))
  case h_5 hd=>simp only[Kaa]at aj;obtain⟨_,_,rfl⟩:=aj;exact hd.symm
  case h_6 hd=>split at aj<;>first|(cases aj;done)|(simp only[Kaa]at aj;obtain⟨_,_,rfl⟩:=aj;exact hd.symm)
  case h_7 hd=>
   simp only[Kab]at aj;obtain⟨_,_,_,_,aj⟩:=aj;split at aj<;>first|(cases aj;done)|(simp only[Kaa]at aj;obtain⟨_,_,rfl⟩:=aj;exact hd.symm)
  case h_8 hd=>
   simp only[Kab]at aj;obtain⟨_,_,_,_,aj⟩:=aj;split at aj<;>first|(cases aj;done)|(simp only[Kab,Kaa]at aj;obtain⟨_,_,_,_,rfl⟩:=aj;exact hd.symm)|(cases aj;exact hd.symm)
  case h_9 hd=>
   simp only[Kab]at aj;obtain⟨_,_,aj⟩:=aj;split at aj
   .simp only[Kab]at aj;obtain⟨_,_,_,_,aj⟩:=aj;split at aj<;>first|(cases aj;done)|(simp only[KaG]at aj;subst aj;exact hd.symm)
   .cases aj
  case h_10 hd=>
   simp only[Kab]at aj;obtain⟨_,_,aj⟩:=aj;split at aj<;>first|(cases aj;done)|(simp only[Kab,Kaa]at aj;obtain⟨_,_,_,_,_,_,rfl⟩:=aj;exact hd.symm)
  case h_11 hd=>simp only[Kab,Kaa]at aj;obtain⟨_,_,_,_,_,_,rfl⟩:=aj;exact hd.symm
  case h_12 hd=>simp only[Kab,Kaa]at aj;obtain⟨_,_,_,_,_,_,rfl⟩:=aj;exact hd.symm
  case h_13 hd=>simp only[Kab,Kaa]at aj;obtain⟨_,_,_,_,rfl⟩:=aj;exact hd.symm
  case h_14 hd=>simp only[Kaa]at aj;obtain⟨_,_,rfl⟩:=aj;exact hd.symm
  case h_15 hd=>simp only[Kab,Kaa]at aj;obtain⟨_,_,_,_,_,_,_,_,rfl⟩:=aj;exact hd.symm
  case h_16 hd=>
   simp only[Kab]at aj;obtain⟨_,_,_,_,aj⟩:=aj;split at aj
   .simp only[Kaa]at aj;obtain⟨_,_,rfl⟩:=aj;exact hd.symm
   .cases aj
  case h_17 hd=>simp only[Kab,Kaa]at aj;obtain⟨_,_,_,_,rfl⟩:=aj;exact hd.symm
  case h_18 hd=>simp only[Kab,Kaa]at aj;obtain⟨_,_,_,_,_,_,_,_,_,_,_,_,rfl⟩:=aj;exact hd.symm
  case h_19 hd=>simp only[Kaa]at aj;obtain⟨_,_,rfl⟩:=aj;exact hd.symm
  case h_20 hd=>simp only[Kab,Kaa]at aj;obtain⟨_,_,_,_,rfl⟩:=aj;exact hd.symm
  case h_21=>simp only[Kaa]at aj;obtain⟨_,_,rfl⟩:=aj;rfl
  case h_22=>
   split at aj
   .simp only[Kab,Kaa]at aj;obtain⟨_,_,_,_,rfl⟩:=aj;rfl
   .rename_i hd;split at aj
    .simp only[Kaa]at aj;obtain⟨_,_,rfl⟩:=aj;exact hd.symm
    .simp only[Kab,Kaa]at aj;obtain⟨_,_,_,_,rfl⟩:=aj;exact hd.symm
   .rename_i hd;simp only[Kab,Kaa]at aj;obtain⟨_,_,_,_,rfl⟩:=aj;exact hd.symm
   .rename_i hd;simp only[Kab,Kaa]at aj;obtain⟨_,_,_,_,rfl⟩:=aj;exact hd.symm
   .rename_i hd;simp only[Kab]at aj;obtain⟨_,_,_,_,_,_,aj⟩:=aj;split at aj
    .simp only[Kab]at aj;obtain⟨_,_,aj⟩:=aj;split at aj
     .cases aj;exact hd.symm
     .cases aj
    .cases aj
   .rename_i hd;simp only[Kab]at aj;obtain⟨_,_,_,_,_,_,aj⟩:=aj;split at aj
    .simp only[Kaa]at aj;obtain⟨_,_,rfl⟩:=aj;exact hd.symm
    .cases aj
   .cases aj
  case h_23=>cases aj
def afo{two:Bool}(aA:∀d,o.dst=some d->d<C.N)(bw:a.defers=[])(h:Qt C ρ fr hp a.tmps w)(hv:lS (ir C.P dr o) fr hp K):dw C two w K (a.put o.dst undef) w:=by
 unfold lS at hv;rw[Tn]at hv;cases hd:o.dst with
 |some d=>rw[hd]at hv;exact⟨bw,⟨_,hp,⟨ρ,h.ae Qj.aaK (aA d hd)⟩,hv⟩,λ_=>Ext.refl _ _⟩
 |none=>rw[hd]at hv;exact⟨bw,⟨fr,hp,⟨ρ,h⟩,hv⟩,λ_=>Ext.refl _ _⟩
def LL{i:Nat}{Q:Exit->Act->World->Prop}(hi:ops[i]? =some o)(bw:a.defers=[])(h:Qt C ρ fr hp a.tmps w)(hc:nD C.P C.N dr ops o=some g)(hv:iy C g.g g.o fr hp K):
  wpOp C.P ops Q i (dw C (!(ir C.P dr o).kP) w K) a w:=by
 obtain⟨aA,fo,Ew⟩:=VA h hc hv;rw[fo]at Ew;unfold wpOp;simp only[hi];rcases Ew with⟨hw,hv⟩|⟨hw,hv⟩
 .rw[if_pos hw];exact .inl (aiM aA bw h hv)
 .rw[hw];simp only[Kbk,if_false];exact afo aA bw h hv
def Next(C:Ctx)(K:Qf)(Q:Exit->Act->World->Prop):Prop:=∀fr hp (a:Act) w,a.defers=[]->eT C fr hp a.tmps w->K fr hp->Q .normal a w
def Dx{C:Ctx}{R:Qf}{fr:Fr}{hp:HP}:vc C R (.o .nil::sk) fr hp=vc C R sk fr hp:=by rw[vc]
def DK{C:Ctx}{R:Qf}{g:Option (Nat×Bool)}{o:cZ}{fr:Fr}{hp:HP}:vc C R (.o (.o g o r)::sk) fr hp=iy C g o fr hp (vc C R (.o r::sk)):=by rw[vc]
def Us{C:Ctx}{R:Qf}{x y:RT}{fr:Fr}{hp:HP}:vc C R (.o (.br x y)::sk) fr hp=(vc C R (.o x::sk) fr hp/\vc C R (.o y::sk) fr hp):=by rw[vc]
def Dy{C:Ctx}{R:Qf}{fr:Fr}{hp:HP}:vc C R (.o (.wk r)::sk) fr hp=∃aX aB,DU C fr hp aX aB/\vc C R (.o r::sk) aX aB:=by rw[vc]
def AH{C:Ctx}{R:Qf}{w:World}:∀(r:RT)(fr:Fr)(hp:HP),eT C fr hp tmps w->vc C R (.o r::sk) fr hp->
  ∃r' aG hp',r'.strip=r.strip/\(∀x,r'≠ .wk x)/\eT C aG hp' tmps w/\vc C R (.o r'::sk) aG hp':=by
 intro r;induction r with
 |wk r ih=>intro fr hp hs hv;rw[Dy]at hv;obtain⟨aX,aB,hw,hv⟩:=hv;exact ih aX aB (hw _ _ hs) hv
 |nil=>exact λfr hp hs hv=>⟨_,fr,hp,rfl,(λx h=>by cases h),hs,hv⟩
 |o=>exact λfr hp hs hv=>⟨_,fr,hp,rfl,(λx h=>by cases h),hs,hv⟩
 |br=>exact λfr hp hs hv=>⟨_,fr,hp,rfl,(λx h=>by cases h),hs,hv⟩
def Pp(h:r.strip= .nil)(hn:∀x,r≠ .wk x):r= .nil:=by
 cases r with
 |nil=>rfl
 |wk x=>exact absurd rfl (hn x)
 |_=>simp[RT.strip]at h
def MV{s:RT}{g:Option (Nat×Bool)}{o:cZ}(h:r.strip= .o g o s)(hn:∀x,r≠ .wk x):∃r',r= .o g o r'/\r'.strip=s:=by
 cases r with
 |o g' o' r'=>simp only[RT.strip,RT.o.injEq]at h;obtain⟨rfl,rfl,h⟩:=h;exact⟨r',rfl,h⟩
 |wk x=>exact absurd rfl (hn x)
 |_=>simp[RT.strip]at h
def aiO{a b:RT}(h:r.strip= .br a b)(hn:∀x,r≠ .wk x):∃a' b',r= .br a' b'/\a'.strip=a/\b'.strip=b:=by
 cases r with
 |br a' b'=>simp only[RT.strip,RT.br.injEq]at h;exact⟨a',b',rfl,h.1,h.2⟩
 |wk x=>exact absurd rfl (hn x)
 |_=>simp[RT.strip]at h
def We{R:Qf}{sk:List It}{ops:Array Oper}{Q:Exit->Act->World->Prop}(hQ:Next C (vc C R sk) Q):∀(gs:List rf)(is:List Nat)(r:RT)(fr:Fr)(hp:HP)(a:Act)(w:World),
  is.length=gs.length->(∀(k i:Nat)(g:rf),is[k]? =some i->gs[k]? =some g->∃o,ops[i]? =some o/\nD C.P C.N false ops o=some g)->
  a.defers=[]->eT C fr hp a.tmps w->r.strip=Bv gs->vc C R (.o r::sk) fr hp->wpOps C.P ops Q is a w
 | [],[],r,fr,hp,a,w,_,_,bw,hs,hr,hv=>by obtain⟨r',aG,hp',h1,h2,hs,hv⟩:=AH r fr hp hs hv;obtain rfl:=Pp (h1.trans hr) h2;rw[Dx]at hv;exact hQ aG hp' a w bw hs hv
 | [],i::is,_,_,_,_,_,hl,_,_,_,_,_=>by simp at hl
 |g::gs,[],_,_,_,_,_,hl,_,_,_,_,_=>by simp at hl
 |g::gs,i::is,r,fr,hp,a,w,hl,hc,bw,hs,hr,hv=>by obtain⟨o,ho,aj⟩:=hc 0 i g rfl rfl;obtain⟨r',aG,hp',h1,h2,⟨ρ,hs⟩,hv⟩:=AH r fr hp hs hv;obtain⟨r2,rfl,jX⟩:=MV (h1.trans hr) h2;rw[DK]at hv;rw[wpOps_cons];refine wpOp_mono (λa' w' hA=>?_) (LL ho bw hs aj hv);obtain⟨wa,⟨aG,hp',fS,qV⟩,_⟩:=hA;exact We hQ gs is r2 aG hp' a' w' (by simpa using hl) (λk j g' h1 h2=>hc (k+1) j g' (by simpa using h1) (by simpa using h2)) wa fS jX qV
end Go.FW
namespace Go.FW
open Go
variable{all dr:Bool}{r:RT}{s:SC}{sk:List It}{v:Value}
section
variable {P : Program} {ops : Array Oper} {Q : Exit -> Act -> World -> Prop}
def yN(P:Program)(ops:Array Oper)(Q:Exit->Act->World->Prop)(kP:Nat->Bool):Nat->Array Bool->Act->World->Prop
 |0,bA,a,w=>Region.ready .any ops bA=[]/\Q .normal a w
 |fuel+1,bA,a,w=>
  (Region.ready .any ops bA=[]->Q .normal a w)/\
  ∀i∈Region.ready .any ops bA,wpOp P ops Q i (λa' w'=>(kP i=false->Ext di w w')/\yN P ops Q kP fuel (bA.setIfInBounds i true) a' w') a w
def LM(kP:Nat->Bool):∀(fuel:Nat)(bA:Array Bool)(a:Act)(w:World),yN P ops Q kP fuel bA a w->wpAny P .any ops Q fuel bA a w
 |0,_,_,_,h=>h
 |fuel+1,_,_,_,h=>⟨h.1,λi hi=>wpOp_mono (λa' w' h'=>LM kP fuel _ a' w' h'.2) (h.2 i hi)⟩
def YF(P:Program)(ops:Array Oper)(all:Bool)(o:Oper)(v:Value)(a:Act)(w:World):Prop:=
 (Region.wanted o (yielded ops a.tmps)=true/\∀w',(all=true\/Ext di w w')->(execOp a.eval o).run P w'= .ok (.value v) w')\/
 (Region.wanted o (yielded ops a.tmps)=false/\v=undef)
def YF.step{o:Oper}{a a':Act}{w w':World}(hy:YF P ops all o v a w)(he:execOp a'.eval o=execOp a.eval o)
  (hw:Region.wanted o (yielded ops a'.tmps)=Region.wanted o (yielded ops a.tmps)) (hx:all=true\/Ext di w w'):YF P ops all o v a' w':=by
 unfold YF at *
 rw[he,hw];rcases hy with⟨h1,h2⟩|h
 .refine .inl ⟨h1,λw2 h3=>h2 w2 ?_⟩;rcases hx with hx|hx
  .exact .inl hx
  .rcases h3 with h3|h3
   .exact .inl h3
   .exact .inr (hx.trans h3)
 .exact .inr h
def YF.wpOp{all:Bool}{i:Nat}{o:Oper}{v:Value}{a:Act}{w:World}(hi:ops[i]? =some o)(hy:YF P ops all o v a w)
  {K:Act->World->Prop} (h:K (a.put o.dst v) w):Go.wpOp P ops Q i K a w:=by
 unfold Go.wpOp;simp only[hi];rcases hy with⟨hw,hv⟩|⟨hw,rfl⟩
 .simp only[hw,if_true,Oper.wp,hv w (.inr (Ext.refl _ _)),Oper.upon];exact .inl h
 .simp only[hw,Kbk,if_false];exact h
def agl{j:Nat}{oi oj:Oper}(hj:ops[j]? =some oj)(hap:oi.apart ops oj=true)
  (ZX:∀cs b,oi.op≠ .select cs b) (ZY:∀cs b,oj.op≠ .select cs b)
  (hQ:∀c a w,Q (.panic c) (a.put oi.dst v) w->Q (.panic c) a w) {K:Act->World->Prop} {a:Act} {w:World}
  (h:Go.wpOp P ops Q j K (a.put oi.dst v) w):
  Go.wpOp P ops Q j (λa' w'=>(execOp a'.eval oi=execOp a.eval oi/\Region.wanted oi (yielded ops a'.tmps)=Region.wanted oi (yielded ops a.tmps))/\K (a'.put oi.dst v) w') a w:=by
 obtain⟨h1,h2,h3⟩:=Oper.apart_spec hap;have fG:∀u,execOp (a.put oj.dst u).eval oi=execOp a.eval oi/\Region.wanted oi (yielded ops (a.put oj.dst u).tmps)=Region.wanted oi (yielded ops a.tmps):=λu=>
  ⟨execOp_put oi ZX a oj.dst u h3,wanted_put oi a oj.dst u h3⟩
 have ayr:∀d u,execOp (({ a with defers:=d::a.defers }:Act).put oj.dst u).eval oi=execOp a.eval oi/\Region.wanted oi (yielded ops (({ a with defers:=d::a.defers }:Act).put oj.dst u).tmps)=Region.wanted oi (yielded ops a.tmps):=λd u=>
  ⟨(execOp_put oi ZX ({ a with defers:=d::a.defers }:Act) oj.dst u h3).trans rfl,(wanted_put oi ({ a with defers:=d::a.defers }:Act) oj.dst u h3).trans rfl⟩
 unfold Go.wpOp at *
 simp only[hj]at *
 rw[wanted_put oj a oi.dst v h1]at h;split
 .rename_i hw;simp only[hw,if_true]at h;rcases h with h|⟨X1,axs⟩
  case inr=>exact .inr ⟨by unfold Oper.asks at *;rw[execOp_put oj ZY a oi.dst v h1]at X1;exact X1,axs⟩
  refine .inl ?_;unfold Oper.wp at *
  rw[execOp_put oj ZY a oi.dst v h1]at h;generalize(execOp a.eval oj).run P w=r at *
  cases r with
  | ok n w'=>
   cases n<;>simp only[Oper.upon]at h⊢
   case value u=>exact⟨fG u,by rw[<-Act.put_comm a v u h2];exact h⟩
   case skip=>exact⟨fG _,by rw[<-Act.put_comm a v undef h2];exact h⟩
   case defer d=>
    refine⟨ayr d _,?_⟩;rw[<-Act.put_comm _ v undef h2,<-Act.put_defers];exact h
   case enter f args=>
    refine Calls.mono h λe w'' he=>?_
    cases e with
    |returned u=>exact⟨fG u,by rw[<-Act.put_comm a v u h2];exact he⟩
    |panicked c=>exact hQ _ _ _ he
    |outgrown=>exact he
   case row row args=>exact Rows.mono h λu w'' he=>⟨fG u,by rw[<-Act.put_comm a v u h2];exact he⟩
  |halt x w'=>
   cases x<;>simp only[Oper.upon]at h⊢
   case panic u=>exact hQ _ _ _ h
 .rename_i hw;simp only[hw]at h;exact⟨fG _,by rw[<-Act.put_comm a v undef h2];exact h⟩
def ov(ops:Array Oper)(bA:Array Bool):Prop:=∀(j:Nat)(o:Oper),ops[j]? =some o->bA.getD j false=true->∀e∈o.after,Region.binds .any e=true->bA.getD e.on false=true
def ov.step{bA:Array Bool}{i:Nat}(h:ov ops bA)(hi:i∈Region.ready .any ops bA):ov ops (bA.setIfInBounds i true):=by
 intro j o hj hl e he hb;obtain⟨h0,oi,wm,bY⟩:=mem_ready.1 hi;by_cases EF:i=j
 .subst EF;rw[hj]at wm;cases wm;exact getD_set_true (bY e he hb)
 .rw[getD_set_ne false EF]at hl;exact getD_set_true (h j o hj hl e he hb)
def UQ{bA:Array Bool}{i:Nat}(hd:ov ops bA):∀(n k:Nat),bA.getD k false=true->tN ops n i k=true->bA.getD i false=true
 |0,_,_,h=>by simp[tN]at h
 | n+1,k,hk,h=>by
  unfold tN at h;cases ho:ops[k]? with
  |none=>simp[ho]at h
  |some o=>
   simp only[ho,KaJ,Kav,KbL,beq_iff_eq]at h;obtain⟨e,he,hb,h⟩:=h;have hl:=hd k o ho hk e (by simpa using he) hb;rcases h with h|h
   .rw[<-h];exact hl
   .exact UQ hd n e.on hl h
def Qz7{bA:Array Bool}{i j n:Nat}(hd:ov ops bA)(hj:j∈Region.ready .any ops bA)(h:tN ops n i j=true):bA.getD i false=true:=by
 obtain⟨_,o,ho,bY⟩:=mem_ready.1 hj;cases n with
 |zero=>simp[tN]at h
 |succ n=>
  unfold tN at h;simp only[ho,KaJ,Kav,KbL,beq_iff_eq]at h;obtain⟨e,he,hb,h⟩:=h;have hl:=bY e (by simpa using he) hb;rcases h with h|h
  .rw[<-h];exact hl
  .exact UQ hd n e.on hl h
def Pq{bA:Array Bool}{i:Nat}(h0:bA.getD i true=false):¬bA.getD i false=true:=by
 intro h1;rcases KcF i bA.size with h'|h'
 .simp[h']at h0 h1;rw[h0]at h1;cases h1
 .simp[KcA h']at h1
def Q4y{kP:Nat->Bool}{i:Nat}{oi:Oper}(hi:ops[i]? =some oi)(ZW:∀(j:Nat)(o:Oper) cs b,ops[j]? =some o->o.op≠ .select cs b)
  (hQ:∀c a w,Q (.panic c) (a.put oi.dst v) w->Q (.panic c) a w)
  (BV:all=true\/∀j,kP j=true->j<ops.size->tN ops ops.size i j=true\/j=i):
  ∀(fuel:Nat)(bA:Array Bool)(a:Act)(w:World),ov ops bA->
   (∀j oj,ops[j]? =some oj->j≠i->bA.getD j true=false->(∀e∈oj.after,Region.binds .any e=true->e.on≠i)->oi.apart ops oj=true)->
   i∈Region.ready .any ops bA->YF P ops all oi v a w->
   yN P ops Q kP fuel (bA.setIfInBounds i true) (a.put oi.dst v) w->yN P ops Q kP (fuel+1) bA a w:=by
 intro fuel;induction fuel with
 | zero=>
  intro bA a w _ _ hr hy H;refine⟨λh=>(by rw[h]at hr;cases hr),λj hj=>?_⟩;by_cases fP:j=i
  .subst fP;exact hy.wpOp hi ⟨λ_=>Ext.refl _ _,H⟩
  .have:=ready_mono hj fP;rw[H.1]at this;cases this
 | succ fuel ih=>
  intro bA a w X7 qJ hr hy H;refine⟨λh=>(by rw[h]at hr;cases hr),λj hj=>?_⟩;by_cases fP:j=i
  .subst fP;exact hy.wpOp hi ⟨λ_=>Ext.refl _ _,H⟩
  .have h1:=H.2 j (ready_mono hj fP);obtain⟨ZA,oj,I7,bY⟩:=mem_ready.1 hj;have Zp:¬bA.getD i false=true:=Pq (mem_ready.1 hr).1;have axA:∀e∈oj.after,Region.binds .any e=true->e.on≠i:=λe he hb heq=>Zp (heq▸bY e he hb)
   have h2:=agl I7 (qJ j oj I7 fP ZA axA) (λcs b=>ZW i oi cs b hi) (λcs b=>ZW j oj cs b I7) hQ h1;have aws:all=true\/kP j=false:=by
    rcases BV with h|h
    .exact .inl h
    .cases hb:kP j with
     |false=>exact .inr rfl
     |true=>
      have axh:j<ops.size:=(Kbp.1 I7).1;rcases h j hb axh with h|h
      .exact absurd (Qz7 X7 hj h) Zp
      .exact absurd h fP
   have awW:∀k ok,ops[k]? =some ok->k≠i->(bA.setIfInBounds j true).getD k true=false->
     (∀e∈ok.after,Region.binds .any e=true->e.on≠i)->oi.apart ops ok=true:=λk ok hk zC qU gG=>by
    refine qJ k ok hk zC ?_ gG;by_cases Zv:j=k
    .subst Zv;exact ZA
    .rw[getD_set_ne true Zv]at qU;exact qU
   refine wpOp_mono (λa' w' h3=>?_) h2;obtain⟨⟨he,hw⟩,hx,zP⟩:=h3;refine⟨hx,ih (bA.setIfInBounds j true) a' w' (X7.step hj) awW (ready_mono hr (Ne.symm fP)) (hy.step he hw ?_) ?_⟩
   .rcases aws with h|h
    .exact .inl h
    .exact .inr (hx h)
   .rw[Array.setIfInBounds_comm _ _ fP];exact zP
end
section
variable {C : Ctx} {ρ : Nat -> Option Nat} {fr : Fr} {hp : HP} {w : World} {a : Act} {K : Qf}
def Vf{o:Oper}(aA:∀d,o.dst=some d->d<C.N)(h:Qt C ρ fr hp a.tmps w)(hv:lS (ir C.P dr o) fr hp K):∃aG hp',Qt C ρ aG hp' (a.put o.dst undef).tmps w/\K aG hp':=by
 unfold lS at hv;rw[Tn]at hv;cases hd:o.dst with
 |some d=>rw[hd]at hv;exact⟨_,hp,h.ae Qj.aaK (aA d hd),hv⟩
 |none=>rw[hd]at hv;exact⟨fr,hp,h,hv⟩
def apX{P:Program}{o:Oper}:(ir P dr o).cls=(ir P true o).cls:=by
 cases dr with
 |true=>rfl
 | false=>
  have h0:(oV P false o).map cZ.cls=(oV P true o).map cZ.cls:=by
   unfold oV;split<;>first|rfl|skip
   split<;>first|rfl|skip
   rename_i f _;cases h1:cl f with
   |none=>simp
   |some pf=>simp only[Kcf,Option.map_map];congr 1
  unfold ir;cases h1:oV P false o<;>cases h2:oV P true o<;>simp_all[cZ.cls]
def Vg  {R:Qf}  {ops:Array Oper} {Q:Exit->Act->World->Prop} (I6:Region.noSelect ops=true) (hQ:Next C (vc C R sk) Q):∀(n:Nat) (bA:Array Bool) (r:RT) (fr:Fr) (hp:HP) (a:Act) (w:World),
  sF C.P C.N dr ops n bA=some r.strip->ov ops bA->a.defers=[]->eT C fr hp a.tmps w->vc C R (.o r::sk) fr hp->
  yN C.P ops (NoPanic Q) (Bi C.P dr ops) n bA a w:=by
 intro n;have done:∀(n:Nat)(bA:Array Bool)(r:RT)(fr:Fr)(hp:HP)(a:Act)(w:World),Region.ready .any ops bA=[]->a.defers=[]->eT C fr hp a.tmps w->r.strip= .nil->vc C R (.o r::sk) fr hp->yN C.P ops (NoPanic Q) (Bi C.P dr ops) n bA a w:=by
  intro n bA r fr hp a w hr bw hs wo hv;obtain⟨r',fr,hp,h1,h2,hs,hv⟩:=AH r fr hp hs hv;obtain rfl:=Pp (h1.trans wo) h2;rw[Dx]at hv;have hq:NoPanic Q .normal a w:=hQ fr hp a w bw hs hv;cases n with
  |zero=>exact⟨hr,hq⟩
  |succ n=>exact⟨λ_=>hq,by rw[hr];simp⟩
 induction n with
 | zero=>
  intro bA r fr hp a w ho hd bw hs hv;unfold sF at ho;split at ho
  .rename_i hr;exact done 0 bA r fr hp a w (by simpa using hr) bw hs (Kbn ho).symm hv
  .cases ho
 | succ n ih=>
  intro bA r fr hp a w ho hd bw hs hv;unfold sF at ho;split at ho
  .rename_i hr;exact done (n+1) bA r fr hp a w (by simpa using hr) bw hs (Kbn ho).symm hv
  .rename_i hr;obtain⟨r',fr,hp,e1,e2,hs,hv⟩:=AH r fr hp hs hv;rw[<-e1]at ho;split at ho
   .rename_i i awU;have oL:=List.find?_some awU;simp only[Kab,Kaa]at ho;obtain⟨g,⟨o,wm,NO⟩,r0,dO,zA⟩:=ho;obtain⟨r',rfl,rfl⟩:=MV zA.symm e2;unfold KF at oL;simp only[Kav,List.contains_iff_mem]at oL;obtain⟨⟨Ja,qJ⟩,cT⟩:=oL;have IM:wZ C.P ops i=(ir C.P dr o).cls:=by rw[apX];simp[wZ,wm]
    rw[DK]at hv;obtain⟨ρ,nY⟩:=hs;obtain⟨aA,fo,Ew⟩:=VA nY NO hv;rw[fo]at Ew;have BV:∀all:Bool,(all=false->wZ C.P ops i=1)->all=true\/∀j,Bi C.P dr ops j=true->j<ops.size->tN ops ops.size i j=true\/j=i:=by
     intro all bY;cases all with
     |true=>exact .inl rfl
     |false=>
      refine .inr λj hj tn=>?_
      rw[bY rfl]at cT;have:=Kas.1 cT j (by simpa using tn);simp only[KbL,Bool.not_eq_true']at this;rcases this with h|h
      .rw[hj]at h;cases h
      .exact .inl h
    have fin:∀(all:Bool)(v:Value),(all=false->wZ C.P ops i=1)->YF C.P ops all o v a w->(∃aG hp',Qt C ρ aG hp' (a.put o.dst v).tmps w/\vc C R (.o r'::sk) aG hp')->yN C.P ops (NoPanic Q) (Bi C.P dr ops) (n+1) bA a w:=by
     intro all v bY hy ⟨aG,hp',fS,qV⟩;exact Q4y wm (Region.noSelect_spec I6) (λ_ _ _ h=>h) (BV all bY) n bA a w hd (Region.free_spec wm qJ) Ja hy
      (ih _ r' aG hp' _ w dO (hd.step Ja) (by rw[yy];exact bw) ⟨ρ,fS⟩ qV)
    rcases Ew with⟨hw,hv⟩|⟨hw,hv⟩
    .by_cases h0:wZ C.P ops i=0
     .obtain⟨v,cN,zP⟩:=Wc (by rw[<-IM];exact h0) aA nY hv;exact fin true v (by simp) (.inl ⟨hw,λw' _=>cN w'⟩) zP
     .by_cases h1:wZ C.P ops i=1
      .obtain⟨v,b,hb,cN,zP⟩:=Wd (by rw[<-IM];exact h1) aA nY hv;exact fin false v (λ_=>h1) (.inl ⟨hw,λw' uR=>cN w' (uR.elim (λh=>by cases h) (λh=>h.block b hb (λh=>h)))⟩) zP
      .split at cT
       .rename_i h;exact absurd h h0
       .rename_i h;exact absurd h h1
       .cases cT
    .by_cases h1:wZ C.P ops i=1
     .exact fin false undef (λ_=>h1) (.inr ⟨hw,rfl⟩) (Vf aA nY hv)
     .exact fin true undef (by simp) (.inr ⟨hw,rfl⟩) (Vf aA nY hv)
   .
    simp only[Kaa]at ho;obtain⟨rs,cU,zA⟩:=ho;obtain⟨m1,m2⟩:=n8 cU;have BM:∀(rs:List RT) (r':RT) (fr:Fr) (hp:HP),r'.strip=xz rs->eT C fr hp a.tmps w->vc C R (.o r'::sk) fr hp->∀r∈rs,∃r2 ij cy,r2.strip=r/\(∀x,r2≠ .wk x)/\eT C ij cy a.tmps w/\vc C R (.o r2::sk) ij cy:=by
     intro rs;induction rs with
     |nil=>intro _ _ _ _ _ _ r hr;cases hr
     | cons x xs nq=>
      intro r' fr hp dO hs hv r hr;obtain⟨r2,ij,cy,f1,f2,hs,hv⟩:=AH r' fr hp hs hv;cases xs with
      |nil=>simp at hr;subst hr;exact⟨r2,ij,cy,f1.trans dO,f2,hs,hv⟩
      | cons y ys=>
       rw[xz]at dO
       .obtain⟨a',b',rfl,g1,g2⟩:=aiO (f1.trans dO) f2;rw[Us]at hv;rcases KaA.1 hr with rfl|hr
        .obtain⟨r3,Ip,pK,k1,k2,k3,k4⟩:=AH a' ij cy hs hv.1;exact⟨r3,Ip,pK,k1.trans g1,k2,k3,k4⟩
        .exact nq b' ij cy g2 hs hv.2 r hr
       .simp
    refine⟨λh0=>absurd (by rw[h0];rfl) hr,λi hi=>?_⟩;obtain⟨k,hk⟩:=KaI hi;have wc:k<rs.length:=by rw[m1];exact(Kah.1 hk).1
    obtain⟨i',au,hf⟩:=m2 k _ (Kae wc);rw[hk]at au;cases au;simp only[Kab,Kaa]at hf;obtain⟨g,⟨o,wm,NO⟩,r0,dO,he⟩:=hf;obtain⟨r2,ij,cy,f1,f2,hs,qV⟩:=BM rs r' fr hp zA.symm hs hv _ (Kad wc);obtain⟨r',rfl,rfl⟩:=MV (f1.trans he.symm) f2;rw[DK]at qV;obtain⟨ρ,nY⟩:=hs;refine wpOp_mono (λa' w' hA=>?_) (LL wm bw nY NO qV);obtain⟨wa,⟨aG,hp',fS,tu⟩,hx⟩:=hA;refine⟨λhb=>hx ?_,ih _ r' aG hp' a' w' dO (hd.step hi) wa fS tu⟩;simpa[Bi,wm]using hb
def eT.drew{tmps:Array Value}(h:eT C fr hp tmps w):eT C fr hp tmps { w with drawn:=w.drawn+1 }:=by obtain⟨ρ,hs⟩:=h;exact⟨ρ,hs.grow (Ext.drew w _)⟩
def ov.start(ops:Array Oper):ov ops (Array.replicate ops.size false):=by intro j o _ hl;exfalso;simp[Array.getD]at hl
def MH(h:s.strip= .rg r):∃r',s= .rg r'/\r'.strip=r:=by
 cases s with
 |rg r'=>simp only[SC.strip,SC.rg.injEq]at h;exact⟨r',rfl,h⟩
 |_=>simp[SC.strip]at h
def Q4z{R:Qf}{ops:Array Oper}{draw:Bool}{id:Nat}{Q:Exit->Act->World->Prop}(hm:C.P.follows .mixedOrders=true)(hQ:Next C (vc C R sk) Q)
  (hc:C6 C.P C.N ops draw=some s.strip) (bw:a.defers=[]) (hs:eT C fr hp a.tmps w) (hv:vc C R (.c s::sk) fr hp):(Code.region id ops draw).wp C.P Q a w:=by
 unfold C6 at hc;split at hc
 .rename_i hd;subst hd;split at hc
  .rename_i I6;have key:∀(dr:Bool)(z6:Nat)(s:SC),C5 C.P C.N ops dr z6=some s.strip->vc C R (.c s::sk) fr hp->(Code.region id ops true).wp C.P Q a w:=by
    intro dr z6 s hc hv;unfold C5 at hc;split at hc
    .cases hc
    split at hc
    .rename_i r0 hr;split at hc
     .obtain⟨r,rfl,rfl⟩:=MH (Kbn hc).symm;rw[vc]at hv;exact wp_region_noPanic (wp_region_any hm (LM _ _ _ _ _ (Vg I6 hQ _ _ r fr hp a _ hr (ov.start ops) bw hs.drew hv)))
     .cases hc
    .cases hc
   split at hc
   .rename_i s' fS;cases hc;split at fS
    .simp only[Kaa]at fS;obtain⟨r0,hr,he⟩:=fS;obtain⟨r,rfl,rfl⟩:=MH he.symm;rw[vc]at hv;exact wp_region_noPanic (wp_region_any hm (LM _ _ _ _ _ (Vg I6 hQ _ _ r fr hp a _ (F5 _ _ _ hr) (ov.start ops) bw hs.drew hv)))
    .cases fS
   .exact key _ _ _ hc hv
  .cases hc
 .rename_i hd;have hdf:draw=false:=by simpa using hd
  subst hdf;simp only[Kaa]at hc;obtain⟨gs,hgs,he⟩:=hc;obtain⟨r,rfl,hr⟩:=MH he.symm;rw[vc]at hv;obtain⟨m1,m2⟩:=n8 hgs;refine wp_region (We hQ gs (List.range ops.size) r fr hp a w (by simp[m1]) (λk i g hk hg=>?_) bw hs hr hv);obtain⟨o,ho,aj⟩:=m2 k g hg;have wc:k<ops.size:=by have:=(Kah.1 hk).1;simpa using this
  rw[KcR wc]at hk;cases hk;exact⟨o,by simpa using ho,aj⟩
end
end Go.FW
