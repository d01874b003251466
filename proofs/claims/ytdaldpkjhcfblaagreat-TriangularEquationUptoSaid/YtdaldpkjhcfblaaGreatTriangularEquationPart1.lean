/- Part 1 of the proof of TriangularEquation: FwA, FwRA, FwRB, FwRF, FwRG, FwRH, FwB, FwC, FwD, FwE, FwF, FwG, FwH, FwI, FwJ, FwK, FwL, FwLN, FwM. Own lemmas; no conditions. -/
import Derived.Test.YtdaldpkjhcfblaaGreatTriangularEquationPart0
import Derived.WalkKit
import Derived.RangeFuncNested
import Derived.Laws.AppendOwn
import Derived.OrdersIn
import Derived.TacticsIn
import Derived.BigFrameIn
import Derived.Laws.Rows
import Derived.Laws.ResultCell
import Derived.Orders
import Derived.Laws.StructEq
set_option maxHeartbeats 1000000
set_option linter.unusedSimpArgs false
set_option linter.unusedVariables false
set_option linter.unnecessarySimpa false
set_option maxRecDepth 100000
namespace Go.FW
open Go
inductive PV where
 |undef
 |int (k:IntKind) (n:Int)
 |bool (b:Bool)
 |nilS
 |sl (e:Nat) (xs:List PV)
 |agg (cs:List PV)
 |tup (vs:List PV)
 |fn (f:FuncId) (first cap:List PV)
 |pt (cs:List PV)
 |mp (β i o:Nat)
 |mso (β o n:Nat)
 |rb (β o n:Nat)
 |nso (γ o n:Nat)
 |np (γ i o:Nat)
 |rag (cs:List PV)
 |rtp (cs:List PV)
 |nst (γ e ty:Nat) (xs:List PV)
 |str (s:ByteArray)
 |rtq (cs:List PV) (q:PV)
 deriving Inhabited
abbrev PV.ms(β n:Nat):PV:=.mso β 0 n
def PV.cells:PV->List PV
 |.agg cs=>cs
 |x=>[x]
def PV.ncells:PV->List PV
 |.rag cs=>cs
 |x=>x.cells
def PV.notU:PV->Bool
 |.undef=>false
 |_=>true
def PV.isData:PV->Bool
 |.int .. | .bool _| .nilS| .sl .. | .agg _| .pt _| .str _=>true
 |.fn _ first cap=>first.all PV.notU&&cap.all PV.notU
 |_=>false
inductive Qs(w:World)(X:Nat->Prop):PV->Value->Prop
 |int (k:IntKind) (n:Int):Qs w X (.int k n) (.int k n)
 |bool (b:Bool):Qs w X (.bool b) (.bool b)
 |str (s:ByteArray):Qs w X (.str s) (.string s)
 |nilS:Qs w X .nilS (.slice none 0 0)
 |slE (e:Nat) (a:Option Addr) (cap:Nat) (hc:cap<=maxLen):Qs w X (.sl e []) (.slice a 0 cap)
 | sl (e:Nat) (xs:List PV) (b off cap:Nat) (vs:Nat->Nat->Value) (hX:¬X b) (hb:b<w.heap.size) (hl:xs.length<=cap) (hc:cap<=maxLen)
   (he:∀(i:Nat)(x:PV),xs[i]? =some x->x.cells.length=e)
   (hv:∀i,i<xs.length->∀j,j<e->w.cell? ⟨b,off+i*e+j,none⟩=some (vs i j))
   (hr:∀(i:Nat)(x:PV),xs[i]? =some x->∀(j:Nat)(y:PV),x.cells[j]? =some y->Qs w X y (vs i j)):
   Qs w X (.sl e xs) (.slice (some ⟨b,off,none⟩) xs.length cap)
 | pt (cs:List PV) (b off:Nat) (vs:Nat->Value) (hX:¬X b) (hb:b<w.heap.size)
   (hv:∀j,j<cs.length->w.cell? ⟨b,off+j,none⟩=some (vs j))
   (hr:∀(j:Nat)(y:PV),cs[j]? =some y->Qs w X y (vs j)):
   Qs w X (.pt cs) (.pointer (some ⟨b,off,none⟩))
 | fn (f:FuncId) (first cap:List PV) (fv cv:Array Value) (h1:fv.size=first.length) (h2:cv.size=cap.length)
   (hr1:∀(i:Nat)(x:PV),first[i]? =some x->Qs w X x (fv.getD i undef)) (hr2:∀(i:Nat)(x:PV),cap[i]? =some x->Qs w X x (cv.getD i undef)):
   Qs w X (.fn f first cap) (.func (.func f) fv cv)
structure Ext(Y:Nat->Prop)(w w':World):Prop where
 os:w'.os=w.os
 tape:w'.tape=w.tape
 output:w'.output=w.output
 size:w.heap.size<=w'.heap.size
 block:∀b,b<w.heap.size->¬Y b->w'.heap[b]? =w.heap[b]?
theorem Ext.refl(Y:Nat->Prop)(w:World):Ext Y w w:=⟨rfl,rfl,rfl,Nat.le_refl _,fun _ _ _=>rfl⟩
theorem Ext.trans{Y:Nat->Prop}{a b c:World}(h:Ext Y a b)(k:Ext Y b c):Ext Y a c:=
  ⟨k.os.trans h.os,k.tape.trans h.tape,k.output.trans h.output,Nat.le_trans h.size k.size,
   fun i hi hY=>(k.block i (Nat.lt_of_lt_of_le hi h.size) hY).trans (h.block i hi hY)⟩
theorem Ext.mono{Y Y':Nat->Prop}{a b:World}(h:Ext Y a b)(hY:∀i,i<a.heap.size->Y i->Y' i):Ext Y' a b:=
 ⟨h.os,h.tape,h.output,h.size,fun i hi hn=>h.block i hi (fun hy=>hn (hY i hi hy))⟩
theorem Ext.trans'{Y Y':Nat->Prop}{a b c:World}(h:Ext Y a b)(k:Ext Y' b c)(hY:∀i,i<a.heap.size->Y' i->Y i):Ext Y a c:=
  ⟨k.os.trans h.os,k.tape.trans h.tape,k.output.trans h.output,Nat.le_trans h.size k.size,
   fun i hi hn=>(k.block i (Nat.lt_of_lt_of_le hi h.size) (fun hy=>hn (hY i hi hy))).trans (h.block i hi hn)⟩
def Qaw:Nat->Prop:=fun _=>False
theorem Qfk{w w':World}{a:Addr}(h:w'.heap[a.block]? =w.heap[a.block]?):w'.cell? a=w.cell? a:=by simp[World.cell?,h]
theorem Q4u{w:World}{b o:Nat}{v:Value}(h:w.cell? ⟨b,o,none⟩=some v):b<w.heap.size:=by
 rcases Nat.lt_or_ge b w.heap.size with h'|h'
 ·exact h'
 ·simp[World.cell?,Array.getElem?_eq_none h']at h
theorem Qs.mono{w w':World}{X X':Nat->Prop}{p:PV}{v:Value}(h:Qs w X p v)
  (hb:∀b,b<w.heap.size->¬X b->w'.heap[b]? =w.heap[b]?) (hx:∀b,b<w.heap.size->¬X b->¬X' b) (hs:w.heap.size<=w'.heap.size):Qs w' X' p v:=by
 induction h with
 |int k n=>exact .int k n
 |bool b=>exact .bool b
 |str s=>exact .str s
 |nilS=>exact .nilS
 |slE e a cap hc=>exact .slE e a cap hc
 | sl e xs b off cap vs hX hb' hl hc he hv hr ih=>
  exact .sl e xs b off cap vs (hx b hb' hX) (Nat.lt_of_lt_of_le hb' hs) hl hc he
   (fun i hi j hj=>by rw[Qfk (hb b hb' hX)];exact hv i hi j hj) (fun i x hx' j y hy=>ih i x hx' j y hy)
 |pt cs b off vs hX hb' hv hr ih=>exact .pt cs b off vs (hx b hb' hX) (Nat.lt_of_lt_of_le hb' hs) (fun j hj=>by rw[Qfk (hb b hb' hX)];exact hv j hj) (fun j y hy=>ih j y hy)
 |fn f first cap fv cv h1 h2 hr1 hr2 ih1 ih2=>exact .fn f first cap fv cv h1 h2 ih1 ih2
theorem Qs.oneCell{w:World}{X:Nat->Prop}{p:PV}{v:Value}(h:Qs w X p v):v.oneCell'=true/\v.cells= #[v]/\p.cells=[p]:=by cases h<;>exact⟨rfl,rfl,rfl⟩
def Qai(w:World)(X:Nat->Prop):PV->Value->Prop
 |.agg cs,v=>∃vs:Array Value,v= .agg vs/\vs.size=cs.length/\∀i x,cs[i]? =some x->Qs w X x (vs.getD i undef)
 |p,v=>Qs w X p v
def Qco(w:World)(X:Nat->Prop):PV->Value->Prop
 |.tup ps,v=>∃vs:Array Value,v= .tuple vs/\vs.size=ps.length/\∀i x,ps[i]? =some x->Qai w X x (vs.getD i undef)
 |p,v=>Qai w X p v
theorem Qai.mono{w w':World}{X X':Nat->Prop}{p:PV}{v:Value}(h:Qai w X p v)
  (hb:∀b,b<w.heap.size->¬X b->w'.heap[b]? =w.heap[b]?) (hx:∀b,b<w.heap.size->¬X b->¬X' b) (hs:w.heap.size<=w'.heap.size):Qai w' X' p v:=by
 cases p with
 |agg cs=>obtain⟨vs,rfl,h1,h2⟩:=h;exact⟨vs,rfl,h1,fun i x hi=>(h2 i x hi).mono hb hx hs⟩
 |_=>exact Qs.mono h hb hx hs
theorem Qco.mono{w w':World}{X X':Nat->Prop}{p:PV}{v:Value}(h:Qco w X p v)
  (hb:∀b,b<w.heap.size->¬X b->w'.heap[b]? =w.heap[b]?) (hx:∀b,b<w.heap.size->¬X b->¬X' b) (hs:w.heap.size<=w'.heap.size):Qco w' X' p v:=by
 cases p with
 |tup ps=>obtain⟨vs,rfl,h1,h2⟩:=h;exact⟨vs,rfl,h1,fun i x hi=>(h2 i x hi).mono hb hx hs⟩
 |agg cs=>exact Qai.mono (p:=.agg cs) h hb hx hs
 |_=>exact Qs.mono h hb hx hs
theorem Qco.of1{w:World}{X:Nat->Prop}{p:PV}{v:Value}(h:Qai w X p v):Qco w X p v:=by
 cases p with
 |tup ps=>cases h
 |_=>exact h
theorem Qai.data{w:World}{X:Nat->Prop}{p:PV}{v:Value}(h:Qai w X p v):p.isData=true:=by
 have hu:∀(x:PV)(u:Value),Qs w X x u->x.notU=true:=fun x u hx=>by cases hx<;>rfl
 have hall:∀(l:List PV)(vs:Array Value),(∀(i:Nat)(x:PV),l[i]? =some x->Qs w X x (vs.getD i undef))->l.all PV.notU=true:=fun l vs hl=>by rw[List.all_eq_true];intro x hx;obtain⟨i,hi⟩:=List.getElem?_of_mem hx;exact hu x _ (hl i x hi)
 cases p with
 |agg cs=>rfl
 |fn f first cap=>
  have h':Qs w X (.fn f first cap) v:=h;cases h' with
  |fn _ _ _ fv cv h1 h2 h3 h4=>simp[PV.isData,hall _ _ h3,hall _ _ h4]
 |_=>cases h<;>rfl
theorem Qai.cells{w:World}{X:Nat->Prop}{p:PV}{v:Value}(h:Qai w X p v):
  v.cells.size=p.cells.length/\∀j y,p.cells[j]? =some y->Qs w X y (v.cells.getD j undef):=by
 by_cases ha:∃cs,p= .agg cs
 ·obtain⟨cs,rfl⟩:=ha;obtain⟨vs,rfl,h1,h2⟩:=h;exact⟨h1,h2⟩
 ·have hc:Qs w X p v:=by
   cases p with
   |agg cs=>exact absurd ⟨cs,rfl⟩ ha
   |_=>exact h
  obtain⟨_,h2,h3⟩:=hc.oneCell;rw[h2,h3];refine⟨rfl,fun j y hy=>?_⟩
  match j,hy with
  |0,hy=>simp at hy;subst hy;exact hc
  |j+1,hy=>simp at hy
theorem Qai.of_c{w:World}{X:Nat->Prop}{p:PV}{v:Value}(h:Qs w X p v):Qai w X p v:=by
 cases p with
 |agg cs=>cases h
 |_=>exact h
theorem Qai.oneCells{w:World}{X:Nat->Prop}{p:PV}{v:Value}(h:Qai w X p v):∀u∈v.cells.toList,u.oneCell'=true:=by
 intro u hu;obtain⟨h1,h2⟩:=h.cells;obtain⟨j,hj,rfl⟩:=List.getElem_of_mem hu;have hj':j<v.cells.size:=by simpa using hj
 have hp:j<p.cells.length:=by omega
 have:=(h2 j p.cells[j] (List.getElem?_eq_getElem hp)).oneCell.1;simpa[Array.getD,hj']using this
open Go Go.RowKit
structure Qod(Y:Nat->Prop)(w w':World):Prop where
 os:w'.os=w.os
 tape:w'.tape=w.tape
 output:w'.output=w.output
 size:w.heap.size<=w'.heap.size
 block:∀b,b<w.heap.size->Y b->w'.heap[b]? =w.heap[b]?
theorem Qod.trans{Y:Nat->Prop}{a b c:World}(h:Qod Y a b)(k:Qod Y b c):Qod Y a c:=
 ⟨k.os.trans h.os,k.tape.trans h.tape,k.output.trans h.output,Nat.le_trans h.size k.size,fun i hi hY=>(k.block i (Nat.lt_of_lt_of_le hi h.size) hY).trans (h.block i hi hY)⟩
theorem Qod.mono{Y Y':Nat->Prop}{a b:World}(h:Qod Y a b)(hY:∀i,i<a.heap.size->Y' i->Y i):Qod Y' a b:=
 ⟨h.os,h.tape,h.output,h.size,fun i hi hn=>h.block i hi (hY i hi hn)⟩
theorem Qod.alloc(Y:Nat->Prop)(W:World)(o:Obj):Qod Y W (W.alloc o):=
 ⟨rfl,rfl,rfl,by simp,fun b hb _=>Below.heap_alloc W o b hb⟩
theorem Ext.alloc'(X:Nat->Prop)(W:World)(o:Obj):Ext X W (W.alloc o):=
 ⟨rfl,rfl,rfl,by simp,fun b hb _=>Below.heap_alloc W o b hb⟩
theorem CallsIn.depth0{F:Fence}(hd:F.depth=none){m m':Nat}{P:Program}{f:FuncId}{args:Array Value}{w:World}{R:Ending->World->Prop}
  (h:CallsIn F m P f args w R):CallsIn F m' P f args w R:=⟨h.1,fun cs _=>h.2 cs (fun d h=>by rw[hd]at h;cases h)⟩
variable {F : Fence} {n : Nat} {P : Program} {w : World}
end Go.FW
namespace Go.FW
open Go Go.RowKit
section
variable {F : Fence} {n : Nat} {P : Program} {ops : Array Oper} {Q : Exit -> Act -> World -> Prop}
def unI:List Bool->Nat
 | []=>0
 |true::l=>unI l
 |false::l=>unI l+1
theorem Q3c:∀ {l:List Bool} {i:Nat},l[i]? =some false->unI (l.set i true)+1=unI l
 | [],i,h=>by simp at h
 |b::l,0,h=>by simp at h;subst h;simp[unI]
 |b::l,i+1,h=>by simp at h;have:=Q3c h;cases b<;>simp[unI]<;>omega
theorem Q3d:∀(n:Nat),unI (List.replicate n false)=n
 |0=>rfl
 |n+1=>by simp[List.replicate_succ,unI,Q3d n]
theorem Qzo:∀ {l:List Bool} {i:Nat},unI l=0->l[i]? ≠some false
 | [],i,_=>by simp
 |true::l,0,_=>by simp
 |true::l,i+1,h=>by simpa using Qzo (l:=l) (i:=i) (by simpa[unI]using h)
 |false::l,_,h=>by simp[unI]at h
def lsI(l:Array Bool):Nat->Bool:=fun i=>l.getD i false
theorem Qagw{l:Array Bool}{i:Nat}(h:l.getD i true=false):lsI (l.setIfInBounds i true)=fun k=>k==i||lsI l k:=by
 funext k;unfold lsI;have hi:i<l.size:=by
  rcases Nat.lt_or_ge i l.size with h'|h'
  ·exact h'
  ·simp[Array.getElem?_eq_none h']at h
 by_cases hk:i=k
 ·subst hk;simp[hi]
 ·rw[getD_set_ne false hk];simp[Ne.symm hk]
def afI(ops:Array Oper)(i:Nat):List Nat:=match ops[i]? with
 |some o=>(o.after.toList.filter (Region.binds .any)).map (·.on)
 |none=>[]
theorem Q66(I:(Nat->Bool)->Act->World->Prop)
  (hlt:∀i,i<ops.size->∀k∈afI ops i,k<i)
  (hstep:∀l i,i<ops.size->l i=false->(∀k∈afI ops i,l k=true)->∀a w,I l a w->wpOpIn F n P ops Q i (I (fun k=>k==i||l k)) a w)
  (hend:∀l a w,(∀i,i<ops.size->l i=true)->I l a w->Q .normal a w):
  ∀(m:Nat)(l:Array Bool)(a:Act)(w:World),unI l.toList=m->l.size=ops.size->I (lsI l) a w->wpAnyIn F n P .any ops Q m l a w:=by
 have fin:∀(l:Array Bool),Region.ready .any ops l=[]->l.size=ops.size->∀i,i<ops.size->lsI l i=true:=by
  intro l hr hz i;induction i using Nat.strongRecOn with
  | ind i ih=>
   intro hi;cases h:lsI l i with
   |true=>rfl
   | false=>
    exfalso;have ho:ops[i]? =some ops[i]:=by simp[hi]
    have:i∈Region.ready .any ops l:=by
     refine mem_ready.2 ⟨?_,_,ho,?_⟩
     ·unfold lsI at h;have hil:i<l.size:=by omega
      simp[hil]at h⊢;exact h
     ·intro e he hb;have hk:e.on∈afI ops i:=by unfold afI;rw[ho];exact List.mem_map.2 ⟨e,List.mem_filter.2 ⟨by simpa using he,hb⟩,rfl⟩
      have hki:=hlt i hi _ hk;exact ih e.on hki (by omega)
    rw[hr]at this;cases this
 intro m;induction m with
 | zero=>
  intro l a w hn hz hI;have hr:Region.ready .any ops l=[]:=by
   cases h:Region.ready .any ops l with
   |nil=>rfl
   |cons i is=>
    have hm:i∈Region.ready .any ops l:=by rw[h];exact List.mem_cons_self
    obtain⟨h1,_⟩:=mem_ready.1 hm;refine absurd ?_ (Qzo (i:=i) hn);rcases Nat.lt_or_ge i l.size with h'|h'
    ·simp[h']at h1 ⊢;exact h1
    ·simp[Array.getElem?_eq_none h']at h1
  exact⟨hr,hend _ a w (fin l hr hz) hI⟩
 | succ m ih=>
  intro l a w hn hz hI;refine⟨fun hr=>hend _ a w (fin l hr hz) hI,fun i hi=>?_⟩;obtain⟨h1,o,ho,h2⟩:=mem_ready.1 hi;have hil:i<l.size:=by
   rcases Nat.lt_or_ge i l.size with h'|h'
   ·exact h'
   ·simp[Array.getElem?_eq_none h']at h1
  have hls:lsI l i=false:=by unfold lsI;simp[hil]at h1⊢;exact h1
  refine wpOpIn_mono (fun a' w' hA=>?_) (hstep (lsI l) i (by omega) hls ?_ a w hI)
  ·have:=Q3c (l:=l.toList) (i:=i) (by simp[hil]at h1 ⊢;exact h1);exact ih _ a' w' (by rw[Array.toList_setIfInBounds];omega) (by simpa using hz) (by rw[Qagw h1];exact hA)
  ·intro k hk;unfold afI at hk;rw[ho]at hk;obtain⟨e,he,rfl⟩:=List.mem_map.1 hk;obtain⟨he,hb⟩:=List.mem_filter.1 he;exact h2 e (by simpa using he) hb
theorem Qaa1{id:Nat}{a:Act}{w:World}(hm:P.follows .mixedOrders=true)(I:(Nat->Bool)->Act->World->Prop)
  (hlt:∀i,i<ops.size->∀k∈afI ops i,k<i) (h0:I (fun _=>false) a w.drew)
  (hstep:∀l i,i<ops.size->l i=false->(∀k∈afI ops i,l k=true)->∀a w,I l a w->wpOpIn F n P ops Q i (I (fun k=>k==i||l k)) a w)
  (hend:∀l a w,(∀i,i<ops.size->l i=true)->I l a w->Q .normal a w):(Code.region id ops true).wpIn F n P Q a w:=by
 refine wpIn_region_any hm (Q66 I hlt hstep hend _ _ a _ ?_ (by simp) ?_)
 ·rw[Array.toList_replicate,Q3d]
 ·have:lsI (Array.replicate ops.size false)=fun _=>false:=by funext k;unfold lsI;simp[Array.getD]
  rw[this];exact h0
theorem Q3e{tmps:Array Value}{d k:Nat}{v:Value}(h:d≠k):(tmps.setIfInBounds d v)[k]?.getD undef=tmps[k]?.getD undef:=by simp[Array.getElem?_setIfInBounds_ne h]
structure Qe9(ops:Array Oper)(N:Nat)(V:Nat->Value)(Z:List (Nat×Value))(Wd:(Nat->Bool)->World->Prop)(l:Nat->Bool)(a:Act)(w:World):Prop where
 d0:a.defers=[]
 sz:a.tmps.size=N
 fixed:∀z∈Z,a.tmps[z.1]?.getD undef=z.2
 slot:∀i o d,l i=true->ops[i]? =some o->o.dst=some d->a.tmps[d]?.getD undef=V i
 cl:∀j,l j=true->∀k∈afI ops j,l k=true
 wd:Wd l w
def apI(ops:Array Oper)(N:Nat)(Z:List (Nat×Value))(i:Nat):Bool:=
 match(ops[i]?).bind (·.dst)with
 |some d=>decide (d<N)&&Z.all (fun z=>z.1 !=d)&&(List.range ops.size).all fun j=>j==i||(ops[j]?).bind (·.dst) !=some d
 |none=>false
variable {N : Nat} {V : Nat -> Value} {Z : List (Nat × Value)} {Wd : (Nat -> Bool) -> World -> Prop} {l : Nat -> Bool} {a : Act} {w w' : World} {i : Nat}
theorem Qe9.put(h:Qe9 ops N V Z Wd l a w)(hpr:∀k∈afI ops i,l k=true)(ha:apI ops N Z i=true){o:Oper}(ho:ops[i]? =some o)(hw:Wd (fun k=>k==i||l k) w'):
  Qe9 ops N V Z Wd (fun k=>k==i||l k) (a.put o.dst (V i)) w':=by
 unfold apI at ha;rw[ho]at ha;cases hd:o.dst with
 |none=>simp[hd]at ha
 | some d=>
  simp only[Option.bind_some,hd,Bool.and_eq_true,decide_eq_true_eq,List.all_eq_true,List.mem_range,bne_iff_ne,Bool.or_eq_true,beq_iff_eq]at ha;obtain⟨⟨h1,h2⟩,h3⟩:=ha;have hp:a.put (some d) (V i)={ a with tmps:=a.tmps.setIfInBounds d (V i) }:=rfl;rw[hp];refine⟨h.d0,by simp[h.sz],fun z hz=>?_,fun j oj dj hj hoj hdj=>?_,fun j hj k hk=>?_,hw⟩
  ·rw[<-h.fixed z hz];have:=h2 z hz;simp only;rw[Q3e (Ne.symm this)]
  ·simp only;by_cases hji:j=i
   ·subst hji;rw[ho]at hoj;cases hoj;rw[hd]at hdj;cases hdj;simp[h.sz,h1]
   ·have hjs:j<ops.size:=(Array.getElem?_eq_some_iff.1 hoj).1;have h4:=(h3 j hjs).resolve_left hji;rw[hoj]at h4;have h5:dj≠d:=fun e=>h4 (by simp[hdj,e]);rw[Q3e (Ne.symm h5)];exact h.slot j oj dj (by have:(j==i)=false:=(by simpa using hji);rw[this]at hj;simpa using hj) hoj hdj
  ·by_cases hji:j=i
   ·subst hji;simp[hpr k hk]
   ·have:(j==i)=false:=by simpa using hji
    rw[this]at hj;simp[h.cl j (by simpa using hj) k hk]
theorem Qe9.val(h:Qe9 ops N V Z Wd l a w)(hpr:∀k∈afI ops i,l k=true)(ha:apI ops N Z i=true){o:Oper}(ho:ops[i]? =some o)(hg:Region.wanted o (yielded ops a.tmps)=true)
  (hab:o.about P w a.eval=none) (hop:∀c,o.op≠ .defer c) (hrun:(execOp a.eval o).run P w= .ok (.value (V i)) w') (hw:Wd (fun k=>k==i||l k) w'):
  wpOpIn F n P ops Q i (Qe9 ops N V Z Wd (fun k=>k==i||l k)) a w:=by
 unfold wpOpIn;rw[ho];simp only[hg,if_true];refine⟨fun f hf=>(by rw[hab]at hf;cases hf),?_⟩;have:o.semAt F.round a.eval=execOp a.eval o:=by
  cases F.round with
  |none=>simp[Oper.semAt]
  |some l=>exact Oper.semAt_some l _ _ hop
 rw[this,hrun];exact h.put hpr ha ho hw
theorem Qe9.skip(h:Qe9 ops N V Z Wd l a w)(hpr:∀k∈afI ops i,l k=true)(ha:apI ops N Z i=true){o:Oper}(ho:ops[i]? =some o)(hg:Region.wanted o (yielded ops a.tmps)=false)
  (hab:∀f,o.about P w a.eval=some f->F.fn f) (hV:V i=undef) (hw:Wd (fun k=>k==i||l k) w):wpOpIn F n P ops Q i (Qe9 ops N V Z Wd (fun k=>k==i||l k)) a w:=by
 unfold wpOpIn;rw[ho];simp only[hg,Bool.false_eq_true,if_false];have:=h.put hpr ha ho hw;rw[hV]at this;exact⟨hab,this⟩
theorem Qe9.app(h:Qe9 ops N V Z Wd l a w)(hpr:∀k∈afI ops i,l k=true)(ha:apI ops N Z i=true){o:Oper}(ho:ops[i]? =some o)(hg:Region.wanted o (yielded ops a.tmps)=true){s x:Operand}{t:TypeId}
  (hop:o.op=Op.call { callee:=Callee.builtin Builtin.append,args:= #[s,x],argTypes:= #[t,t] }) {v u:Value} (hs:a.eval s=v) (hx:a.eval x=u) (hrun:(Builtin.append_ #[t,t] o.type #[v,u]).run P w= .ok (V i) w') (hw:Wd (fun k=>k==i||l k) w'):
  wpOpIn F n P ops Q i (Qe9 ops N V Z Wd (fun k=>k==i||l k)) a w:=by
 refine h.val hpr ha ho hg ?_ (by rw[hop];intro c hc;cases hc) ?_ hw
 ·simp[Oper.about,hop,resolve,Target.leads,Sem.run_pure]
 ·simp[execOp,hop,resolve,invoke,builtin,hs,hx,hrun,Result.andThen]
end
end Go.FW
namespace Go.FW
open Go Go.RowKit
section
variable {F : Fence} {n : Nat} {P : Program} {ops : Array Oper} {Q : Exit -> Act -> World -> Prop}
variable {N : Nat} {V : Nat -> Value} {Z : List (Nat × Value)} {Wd : (Nat -> Bool) -> World -> Prop} {l : Nat -> Bool} {a : Act} {w w' : World} {i : Nat}
end
end Go.FW
namespace Go.FW
open Go Go.RowKit
section
variable {F : Fence} {n : Nat} {P : Program} {ops : Array Oper} {Q : Exit -> Act -> World -> Prop}
variable {G : Type} {N : Nat} {V : G -> Nat -> Value} {Z : List (Nat × Value)} {Wd : G -> (Nat -> Bool) -> World -> Prop} {l : Nat -> Bool} {a : Act} {w w' : World} {i : Nat} {g : G}
def Qik(ops:Array Oper)(N:Nat)(V:G->Nat->Value)(Z:List (Nat×Value))(Wd:G->(Nat->Bool)->World->Prop)(l:Nat->Bool)(a:Act)(w:World):Prop:=∃g,Qe9 ops N (V g) Z (Wd g) l a w
theorem Qik.of(h:wpOpIn F n P ops Q i (Qe9 ops N (V g) Z (Wd g) l) a w):wpOpIn F n P ops Q i (Qik ops N V Z Wd l) a w:=wpOpIn_mono (fun _ _ h=>⟨g,h⟩) h
theorem Qe9.calG(h:Qe9 ops N (V g) Z (Wd g) l a w)(hpr:∀k∈afI ops i,l k=true)(hd:F.depth=none)(ha:apI ops N Z i=true){o:Oper}(ho:ops[i]? =some o)(hg:Region.wanted o (yielded ops a.tmps)=true){c:Call}(hop:o.op= .call c){f:FuncId}{xs:Array Operand}{ty:Array TypeId}
  (hc:c={ callee:=.value (.func f),args:=xs,argTypes:=ty }) {vs:Array Value} (hx:xs.map a.eval=vs) (hFf:F.fn f) (ef:∀args w,(callFunc f args).run P w= .ok (.enter f args) w) {R:Ending->World->Prop} {m:Nat} (hy:CallsIn F m P f vs w R)
  (hR:∀e w',R e w'->∃g',e= .returned (V g' i)/\(∀j,l j=true->V g' j=V g j)/\Wd g' (fun k=>k==i||l k) w'):wpOpIn F n P ops Q i (Qik ops N V Z Wd (fun k=>k==i||l k)) a w:=by
 unfold wpOpIn;rw[ho];simp only[hg,if_true];have hres:(resolve a.eval c o.type).run P w= .ok { target:=.fn (.func f) #[],args:=vs } w:=by subst hc;simp only[resolve,hx];simp[Deferred.ofValue,Act.eval]
 refine⟨fun f' hf=>?_,?_⟩
 ·simp[Oper.about,hop,hres,Target.leads]at hf;subst hf;exact hFf
 ·have:o.semAt F.round a.eval=execOp a.eval o:=by
   cases F.round with
   |none=>simp[Oper.semAt]
   |some l=>exact Oper.semAt_some l _ _ (by rw[hop];intro c h;cases h)
  have hrun:(execOp a.eval o).run P w= .ok (.enter f vs) w:=by simp only[execOp,hop,Sem.run_bind,hres,Result.andThen];simp[go_sem,invoke,ef]
  rw[this,hrun];refine⟨fun h=>(by rw[hd]at h;cases h),(CallsIn.depth0 hd hy).mono fun e w' he=>?_⟩;obtain⟨g',rfl,hV,hw⟩:=hR e w' he;have h2:Qe9 ops N (V g') Z (fun _ _=>True) l a w:=⟨h.d0,h.sz,h.fixed,fun j o d hj ho hd=>by rw[hV j hj];exact h.slot j o d hj ho hd,h.cl,trivial⟩
  have t:=h2.put (w':=w') hpr ha ho trivial;exact⟨g',t.d0,t.sz,t.fixed,t.slot,t.cl,hw⟩
theorem Qe9.sto{V:Nat->Value}{Wd:(Nat->Bool)->World->Prop}(h:Qe9 ops N V Z Wd l a w)(hpr:∀k∈afI ops i,l k=true){o:Oper}(ho:ops[i]? =some o)(hdst:o.dst=none)(hg:Region.wanted o (yielded ops a.tmps)=true)
  (hab:o.about P w a.eval=none) (hop:∀c,o.op≠ .defer c) (hrun:(execOp a.eval o).run P w= .ok .skip w') (hw:Wd (fun k=>k==i||l k) w'):
  wpOpIn F n P ops Q i (Qe9 ops N V Z Wd (fun k=>k==i||l k)) a w:=by
 unfold wpOpIn;rw[ho];simp only[hg,if_true];refine⟨fun f hf=>(by rw[hab]at hf;cases hf),?_⟩;have:o.semAt F.round a.eval=execOp a.eval o:=by
  cases F.round with
  |none=>simp[Oper.semAt]
  |some l=>exact Oper.semAt_some l _ _ hop
 rw[this,hrun];show Qe9 ops N V Z Wd (fun k=>k==i||l k) (a.put o.dst undef) w';rw[hdst];refine⟨h.d0,h.sz,h.fixed,fun j oj d hj hoj hdj=>?_,fun j hj k hk=>?_,hw⟩
 ·by_cases hji:j=i
  ·subst hji;rw[ho]at hoj;cases hoj;rw[hdst]at hdj;cases hdj
  ·have:(j==i)=false:=(by simpa using hji)
   rw[this]at hj;exact h.slot j oj d (by simpa using hj) hoj hdj
 ·by_cases hji:j=i
  ·subst hji;simp[hpr k hk]
  ·have:(j==i)=false:=(by simpa using hji)
   rw[this]at hj;simp[h.cl j (by simpa using hj) k hk]
theorem Q67{id:Nat}{a:Act}{w:World}(hm:P.follows .mixedOrders=true)(N:Nat)(V:G->Nat->Value)(Z:List (Nat×Value))(Wd:G->(Nat->Bool)->World->Prop)
  (hlt:∀i,i<ops.size->∀k∈afI ops i,k<i) (h0:Qik ops N V Z Wd (fun _=>false) a w.drew)
  (hstep:∀l i,i<ops.size->l i=false->(∀k∈afI ops i,l k=true)->∀a w,Qik ops N V Z Wd l a w->wpOpIn F n P ops Q i (Qik ops N V Z Wd (fun k=>k==i||l k)) a w)
  (hend:∀l a w,(∀i,i<ops.size->l i=true)->Qik ops N V Z Wd l a w->Q .normal a w):(Code.region id ops true).wpIn F n P Q a w:=
 Qaa1 hm _ hlt h0 hstep hend
end
end Go.FW
namespace Go.FW
open Go
theorem Qagx{w:World}{X:Nat->Prop}{base:Nat}{e:TypeId}{v:Value}{vs:List Value}{ps:List PV}{n:Nat}(h:w.ownsRow base e 1 v n vs)(hn:ps.length=n)(hX:∀b,v.ownBlock=some b->¬X b)(hc:∀p∈ps,p.cells=[p])
  (hr:∀j (hj:j<ps.length),Qs w X ps[j] (vs.getD j undef)):Qs w X (.sl 1 ps) v:=by
 subst hn;obtain⟨hl,hv⟩:=h;rcases hv with⟨rfl,h0⟩|⟨g,cap,cur,rfl,hb,hg,hnc,hcm,hsz,htk⟩
 ·have:ps=[]:=List.length_eq_zero_iff.1 h0;subst this;exact .slE 1 _ _ (Nat.zero_le _)
 ·refine .sl 1 ps g 0 cap (fun i _=>vs.getD i undef) (hX g rfl) (Array.getElem?_eq_some_iff.1 hg).1 hnc hcm ?_ ?_ ?_
  ·intro i x hx;rw[hc x (List.mem_of_getElem? hx)];rfl
  ·intro i hi j hj;obtain rfl:j=0:=by omega
   have hi2:i<cur.size:=by omega
   have e1:vs.getD i undef=cur[i]:=by rw[List.getD_eq_getElem?_getD,<-htk,List.getElem?_take,if_pos (by omega)];simp[hi2]
   simp only[World.cell?,Nat.zero_add,Nat.mul_one,Nat.add_zero,hg,e1];simp[hi2]
  ·intro i x hx j y hy;have hm:=List.mem_of_getElem? hx;rw[hc x hm]at hy;obtain⟨hi,rfl⟩:=List.getElem?_eq_some_iff.1 hx
   match j,hy with
   |0,hy=>simp at hy;subst hy;exact hr i hi
theorem Qoe{P:Program}{fn:Func}{p u:Tmp}{ty:TypeId}(h:fn.results= #[.cell p ty,.tmp u])(tmps:Array Value)(w:World)(g:Nat)(t:TypeId)(cs:Array Value)(fr:Nat×Nat)(d:TypeDesc)
  (hp:tmps.getD p undef= .pointer (some ⟨g,0,none⟩)) (hg:w.heap[g]? =some (.cells cs t fr))
  (hu:P.underlying ty=some d)
  (hd:(match d with| .struct _| .array _ _=>true|_=>false)=true) (hi:(P.info? ty).map (·.size)=some cs.size):
  (results fn tmps).run P w= .ok (.tuple #[.agg cs,tmps.getD u undef]) w:=by
 rw[results_cell_tmp h,hp];simp[asAddr,run_loadVar_row w g t ty cs fr d hg hu hd hi,Result.andThen]
theorem Ext.setCell{Y:Nat->Prop}(w:World)(a:Addr)(v:Value)(h:Y a.block):Ext Y w (w.setCell a v):=
 ⟨rfl,rfl,rfl,by simp[World.setCell],fun b _ hn=>heap_setCell_other w a b v (fun e=>hn (e▸h))⟩
theorem Qs.at2{w:World}{X:Nat->Prop}{ps:List PV}{v:Value}(h:Qs w X (.sl 2 ps) v){i:Nat}(hi:i<ps.length){p q:PV}(hp:ps[i]= .agg [p,q]):
  ∃b off cap u1 u2,v= .slice (some ⟨b,off,none⟩) ps.length cap/\w.cell? ⟨b,off+i*2,none⟩=some u1/\w.cell? ⟨b,off+i*2+1,none⟩=some u2/\Qs w X p u1/\Qs w X q u2/\¬X b/\b<w.heap.size:=by
 generalize hY:PV.sl 2 ps=Y at h;cases h with
 |slE e a cap=>cases hY;simp at hi
 |sl e xs b off cap vs hX hb hl hc he hv hr=>
  cases hY;have hx:ps[i]? =some (.agg [p,q]):=by rw[List.getElem?_eq_getElem hi,hp]
  exact⟨b,off,cap,vs i 0,vs i 1,rfl,hv i hi 0 (by omega),hv i hi 1 (by omega),hr i _ hx 0 p rfl,hr i _ hx 1 q rfl,hX,hb⟩
 |_=>cases hY
theorem Qaa2{w:World}{X:Nat->Prop}{base:Nat}{ty:TypeId}{v:Value}{vs:List Value}{ps:List PV}{n e:Nat}(h:w.ownsRow base ty e v n vs)(hn:ps.length=n)(hX:∀b,v.ownBlock=some b->¬X b)(hc:∀p∈ps,p.cells.length=e)
  (hr:∀j (hj:j<ps.length) k y,ps[j].cells[k]? =some y->Qs w X y (vs.getD (j*e+k) undef)):Qs w X (.sl e ps) v:=by
 subst hn;obtain⟨hl,hv⟩:=h;rcases hv with⟨rfl,h0⟩|⟨g,cap,cur,rfl,hb,hg,hnc,hcm,hsz,htk⟩
 ·have:ps=[]:=List.length_eq_zero_iff.1 h0;subst this;exact .slE e _ _ (Nat.zero_le _)
 ·refine .sl e ps g 0 cap (fun i k=>vs.getD (i*e+k) undef) (hX g rfl) (Array.getElem?_eq_some_iff.1 hg).1 hnc hcm (fun i x hx=>hc x (List.mem_of_getElem? hx)) ?_ ?_
  ·intro i hi j hj;have hlt:i*e+j<ps.length*e:=by have:=Nat.mul_le_mul_right e (show i+1<=ps.length from hi);rw[Nat.add_mul]at this;omega
   have hi2:i*e+j<cur.size:=by have:=Nat.mul_le_mul_right e hnc;omega
   have e1:vs.getD (i*e+j) undef=cur[i*e+j]:=by rw[List.getD_eq_getElem?_getD,<-htk,List.getElem?_take,if_pos hlt];simp[hi2]
   simp only[World.cell?,Nat.zero_add,hg,e1];simp[hi2]
  ·intro i x hx j y hy;obtain⟨hi,rfl⟩:=List.getElem?_eq_some_iff.1 hx;exact hr i hi j y hy
inductive Opd where
 |t (n:Nat)
 |c (p:PV)
 deriving Inhabited
inductive SOp where
 |mv (d:Nat) (x:Opd)
 |pick (d:Nat) (c a b:Opd)
 |bin (d:Nat) (op:BinOp) (bt:Bool) (x y:Opd)
 |eqs (d:Nat) (ng:Bool) (x y:Opd)
 |sqs (d:Nat) (ng:Bool) (x y:Opd)
 |sln (d:Nat) (x:Opd)
 |six (d:Nat) (x i:Opd)
 |un (d:Nat) (op:UnOp) (x:Opd)
 |conv (d:Nat) (k:IntKind) (x:Opd)
 |len (d:Nat) (x:Opd)
 |mx (d:Nat) (x y:Opd)
 |mn (d:Nat) (x y:Opd)
 |idx (d e:Nat) (x i:Opd)
 |idxA (d n e:Nat) (x i:Opd)
 |ixv (d n e:Nat) (ag:Bool) (x i:Opd)
 |fld (d off:Nat) (x:Opd)
 |fldv (d off n:Nat) (ag:Bool) (x:Opd)
 |ld (d n:Nat) (ag:Bool) (x:Opd)
 |st (n:Nat) (x v:Opd)
 |box (d n ty:Nat) (v:Opd)
 |alloc (d n ty:Nat) (z:PV)
 |mk (d e bytes ty:Nat) (z:PV) (l c:Opd)
 |bs (d e ty:Nat) (parts:List Opd)
 |app (d e bytes ty:Nat) (s x:Opd)
 |cpy (d e:Nat) (s x:Opd)
 |sl (d e:Nat) (x:Opd) (lo hi mx:Option Opd)
 |ext (d:Nat) (x:Opd) (i:Nat)
 |bld (d:Nat) (zero:List PV) (parts:List (Nat×Nat×Opd))
 |fn (d f:Nat) (first cap:List Opd)
 |call (d:Option Nat) (pr:Bool) (f:Opd) (args:List Opd)
 |nilc (d:Option Nat) (x:Opd)
 |bad (d:Option Nat)
 deriving Inhabited
def SOp.dst:SOp->Option Nat
 |.mv d _| .pick d _ _ _| .bin d _ _ _ _| .eqs d _ _ _| .sqs d _ _ _| .sln d _| .six d _ _| .un d _ _| .conv d _ _| .len d _| .mx d _ _| .mn d _ _| .idx d _ _ _| .idxA d _ _ _ _| .ixv d _ _ _ _ _| .fld d _ _| .fldv d _ _ _ _
 |.ld d _ _ _| .box d _ _ _| .alloc d _ _ _| .mk d _ _ _ _ _ _| .bs d _ _ _| .app d _ _ _ _ _| .cpy d _ _ _| .sl d _ _ _ _ _| .ext d _ _| .bld d _ _| .fn d _ _ _=>some d
 |.st _ _ _=>none
 |.call d _ _ _| .nilc d _| .bad d=>d
structure GOp where
 g:Option (Nat×Bool)
 o:SOp
 deriving Inhabited
inductive RT where
 |nil
 |o (g:Option (Nat×Bool)) (o:SOp) (r:RT)
 |br (a b:RT)
 |wk (r:RT)
 deriving Inhabited
inductive SC where
 |skip
 |rg (r:RT)
 |raw (id:Nat) (ops:Array Oper)
 |seq (a b:SC)
 |cond (c:Opd) (a b:SC)
 |block (id:Nat) (a:SC)
 |loop (a:SC)
 |exit (id:Nat)
 |ret
 deriving Inhabited
def Qlr:Value->Option PV
 |.int k n=>some (.int k n)
 |.bool b=>some (.bool b)
 |.string s=>some (.str s)
 |.slice none 0 0=>some .nilS
 |_=>none
def Qhb:Value->Option PV
 |.agg cs=>(cs.toList.mapM Qlr).map .agg
 |v=>Qlr v
def opd:Operand->Option Opd
 |.tmp t=>some (.t t)
 |.const v=>(Qhb v).map .c
 |.func f=>some (.c (.fn f [] []))
 |.global _=>none
def tsz(P:Program)(t:TypeId):Option Nat:=(P.info? t).map (·.size)
def Qh5(P:Program)(t:TypeId):Option Bool:=(P.underlying t).map fun d=>match d with| .struct _| .array _ _=>true|_=>false
def Qk4(P:Program)(t:TypeId):Option TypeId:=match P.underlying t with|some (.slice e)=>some e|_=>none
def Qgp(P:Program)(t:TypeId):Option (Nat×Nat×PV):=(P.info? t).bind fun i=>i.zero.bind fun z=>(Qhb z).map fun p=>(i.size,i.bytes,p)
def Qjd:Option Operand->Option (Option Opd)
 |none=>some none
 |some x=>(opd x).map some
def Qp6(P:Program)(t:TypeId)(parts:List (Nat×Operand)):Option (List (Nat×Nat×Opd)):=
 match P.underlying t with
 |some (.struct fs)=>(fs.toList.mapM fun f=>(P.info? f.type).map fun i=>(f.offset,i.size)).bind fun pl=>parts.mapM fun p=>(pl[p.1]?).bind fun q=>(opd p.2).map fun y=>(q.1,q.2,y)
 |some (.array _ e)=>(tsz P e).bind fun n=>parts.mapM fun p=>(opd p.2).map fun y=>(p.1*n,n,y)
 |_=>none
def s2?(P:Program)(t:TypeId):Bool:=match P.underlying t with
 |some (.struct fs)=>match fs.toList with
  | [f, g] => f.name != "_" && g.name != "_" && f.offset == 0 && g.offset == 1 && (match P.underlying f.type with | some (.int _) => true | _ => false) && (match P.underlying g.type with | some (.int _) => true | _ => false) && !(P.stoodInHeld t) && !(P.eqGuardType P.depth t)
  |_=>false
 |_=>false
def Q4v:BinOp->Option Bool
 |.eql=>some false
 |.neq=>some true
 |_=>none
def Qwa(P:Program)(t:TypeId):Bool:=match P.underlying t with|some .string=>true|_=>false
def Qzp(P:Program)(op:BinOp)(t:TypeId)(d:Nat)(x y:Opd):SOp:=
 match(if s2? P t then Q4v op else none)with
 |some ng=>.eqs d ng x y
 |none=>match(if Qwa P t then Q4v op else none)with
  |some ng=>.sqs d ng x y
  |none=>.bin d op (match P.underlying t with|some .bool=>true|_=>false) x y
def Qagy : List String := ["geoprover/matrix.reduce", "geoprover/matrix.subtract", "geoprover/geoproverref09.echelon"]
def Q68(P:Program)(f:Opd):Bool:=match f with
 |.c (.fn g _ _)=>(P.funcs[g]?).any fun fn=>Qagy.contains fn.name
 |_=>false
def Qck(P:Program)(draw:Bool)(o:Oper):Option SOp:=
 match o.op,o.dst with
 |.move x,some d| .assign x,some d=>(opd x).map (.mv d)
 |.pick c a b,some d=>(opd c).bind fun c=>(opd a).bind fun a=>(opd b).map fun b=>.pick d c a b
 |.binOp op t x y _,some d=>(opd x).bind fun x=>(opd y).map fun y=>Qzp P op t d x y
 |.unOp op _ x,some d=>(opd x).map (.un d op)
 |.convert s t x,some d=>match P.underlying s,P.underlying t with
  |some _,some (.int k)=>(opd x).map (.conv d k)
  |_,_=>none
 |.indexAddr t x i,some d=>(opd x).bind fun x=>(opd i).bind fun i=>match P.underlying t with
  |some (.slice e)=>(tsz P e).map fun n=>.idx d n x i
  |some (.array len e)=>(tsz P e).map fun n=>.idxA d len n x i
  |_=>none
 |.index t x i,some d=>(opd x).bind fun x=>(opd i).bind fun i=>match P.underlying t with
  |some (.array len e)=>(tsz P e).bind fun n=>(Qh5 P e).map fun ag=>.ixv d len n ag x i
  |some .string=>some (.six d x i)
  |_=>none
 |.fieldAddr t x j,some d=>(opd x).bind fun x=>match P.underlying t with
  |some (.struct fs)=>(fs[j]?).bind fun f=>(tsz P f.type).bind fun n=>if n=0 then none else some (.fld d f.offset x)
  |_=>none
 |.field t x j,some d=>(opd x).bind fun x=>match P.underlying t with
  |some (.struct fs)=>(fs[j]?).bind fun f=>(tsz P f.type).bind fun n=>(Qh5 P f.type).map fun ag=>.fldv d f.offset n ag x
  |_=>none
 |.load t x,some d=>(opd x).bind fun x=>(tsz P t).bind fun n=>(Qh5 P t).map fun ag=>.ld d n ag x
 |.store t x v,none=>(opd x).bind fun x=>(opd v).bind fun v=>(tsz P t).map fun n=>.st n x v
 |.box t v,some d=>(opd v).bind fun v=>(tsz P t).map fun n=>.box d n t v
 |.alloc t,some d=>(Qgp P t).map fun(n,_,z)=>.alloc d n t z
 |.makeSlice t l c,some d=>(opd l).bind fun l=>(opd c).bind fun c=>(Qk4 P t).bind fun e=>(Qgp P e).map fun(n,by_,z)=>.mk d n by_ e z l c
 |.buildSlice t len parts,some d=>(Qk4 P t).bind fun e=>(Qgp P e).bind fun r=>
   if parts.toList.map (·.1)=List.range len/\len*r.1<=16777216/\r.2.2.cells.length=r.1 then(parts.toList.mapM fun p=>opd p.2).map fun ps=>.bs d r.1 e ps else none
 |.build t parts,some d=>(Qgp P t).bind fun(_,_,z)=>(Qp6 P t parts.toList).map fun ps=>.bld d z.cells ps
 |.slice t x lo hi m,some d=>(opd x).bind fun x=>(Qjd lo).bind fun lo=>(Qjd hi).bind fun hi=>(Qjd m).bind fun m=>(Qk4 P t).bind fun e=>(tsz P e).map fun n=>.sl d n x lo hi m
 |.extract x i,some d=>(opd x).map fun x=>.ext d x i
 |.makeFunc (.func f) first cap,some d=>(first.toList.mapM opd).bind fun first=>(cap.toList.mapM opd).map fun cap=>.fn d f first cap
 |.nilCheck x,d=>(opd x).map fun x=>.nilc d x
 |.call c,d=>match c.callee,c.args.toList,c.argTypes.toList,d with
  |.value f,args,_,d=>(opd f).bind fun f=>(args.mapM opd).map fun args=>.call d (draw&& !Q68 P f) f args
  |.builtin .len,[x],[t],some d=>if Qwa P t then(opd x).map fun x=>.sln d x else(Qk4 P t).bind fun _=>(opd x).map fun x=>.len d x
  |.builtin .max,[x,y],_,some d=>(opd x).bind fun x=>(opd y).map fun y=>.mx d x y
  |.builtin .min,[x,y],_,some d=>(opd x).bind fun x=>(opd y).map fun y=>.mn d x y
  |.builtin .append,[s,x],[t,u],some d=>(opd s).bind fun s=>(opd x).bind fun x=>(Qk4 P t).bind fun e=>if t=u then(Qgp P e).bind fun r=>if r.2.2.cells.length=r.1 then some (.app d r.1 r.2.1 e s x)else none else none
  |.builtin .copy,[s,x],[t,u],some d=>(opd s).bind fun s=>(opd x).bind fun x=>(Qk4 P t).bind fun e=>if t=u then(tsz P e).map fun n=>.cpy d n s x else none
  |_,_,_,_=>none
 |_,_=>none
def Qa1(P:Program)(draw:Bool)(o:Oper):SOp:=(Qck P draw o).getD (.bad o.dst)
def Qf5(P:Program)(n:Nat)(draw:Bool)(ops:Array Oper)(o:Oper):Option GOp:=
 if o.dst.all (· <n)then
  match o.guard with
  |none=>some ⟨none,Qa1 P draw o⟩
  |some (j,want)=>match(ops[j]?).bind (·.dst)with
   |some s=>if s<n then some ⟨some (s,want),Qa1 P draw o⟩else none
   |none=>none
 else none
def SOp.cls:SOp->Nat
 |.ld .. =>1
 |.box .. | .alloc .. | .mk .. | .bs .. | .call .. | .bad _=>2
 |.st .. | .app .. | .cpy .. =>3
 |_=>0
def SOp.brk:SOp->Bool
 |.st .. | .app .. | .cpy .. =>true
 |.call _ pr _ _=> !pr
 |_=>false
def SOp.isCall:SOp->Bool
 |.call .. =>true
 |_=>false
def Qfl(ops:Array Oper):Nat->Nat->Nat->Bool
 |0,_,_=>false
 |n+1,i,j=>match ops[j]? with
  |none=>false
  |some o=>o.after.toList.any fun e=>Region.binds .any e&&(e.on==i||Qfl ops n i e.on)
def Qmm(P:Program)(ops:Array Oper)(i:Nat):Nat:=((ops[i]?).map fun o=>(Qa1 P true o).cls).getD 9
def Qrq(P:Program)(dr:Bool)(ops:Array Oper)(i:Nat):Bool:=((ops[i]?).map fun o=>(Qa1 P dr o).brk).getD false
def Qzq(P:Program)(dr:Bool)(ops:Array Oper)(listed:Array Bool)(i:Nat):Bool:=
  (Region.ready .any ops listed).contains i&&Region.free .any ops listed i&&
  (match Qmm P ops i with
   |0=>true
   |1=>(List.range ops.size).all fun j=> !Qrq P dr ops j||Qfl ops ops.size i j
   |_=>false)
def brs:List RT->RT
 | []=>.nil
 | [r]=>r
 |r::rs=>.br r (brs rs)
def Qg0(P:Program)(N:Nat)(dr:Bool)(ops:Array Oper):Nat->Array Bool->Option RT
 |0,listed=>if Region.ready .any ops listed==[]then some .nil else none
 |n+1,listed=>
  if Region.ready .any ops listed==[]then some .nil else
  match(List.range ops.size).find? (Qzq P dr ops listed)with
  |some i=>((ops[i]?).bind (Qf5 P N dr ops)).bind fun g=>(Qg0 P N dr ops n (listed.setIfInBounds i true)).map fun r=>.o g.g g.o r
  |none=>((Region.ready .any ops listed).mapM fun i=>((ops[i]?).bind (Qf5 P N dr ops)).bind fun g=>(Qg0 P N dr ops n (listed.setIfInBounds i true)).map fun r=>RT.o g.g g.o r).map brs
def Qnq(P:Program)(N:Nat)(dr:Bool)(ops:Array Oper):Nat->Array Bool->Option RT
 |0,listed=>if Region.ready .any ops listed==[]then some .nil else none
 | n+1,listed=>
  if Region.ready .any ops listed==[]then some .nil else
  match(List.range ops.size).find? (Qzq P dr ops listed)with
  |some i=>((ops[i]?).bind (Qf5 P N dr ops)).bind fun g=>(Qnq P N dr ops n (listed.setIfInBounds i true)).map fun r=>.o g.g g.o r
  |none=>match Region.ready .any ops listed with
   | [i]=>((ops[i]?).bind (Qf5 P N dr ops)).bind fun g=>(Qnq P N dr ops n (listed.setIfInBounds i true)).map fun r=>.o g.g g.o r
   |_=>none
theorem Qhc{P:Program}{N:Nat}{dr:Bool}{ops:Array Oper}:∀(n:Nat)(listed:Array Bool)(r:RT),Qnq P N dr ops n listed=some r->Qg0 P N dr ops n listed=some r
 |0,listed,r,h=>h
 | n +1,listed,r,h=>by
  unfold Qnq at h;unfold Qg0;split
  ·rename_i hr;rw[if_pos hr]at h;exact h
  ·rename_i hr;rw[if_neg hr]at h;split at h
   ·rename_i i hf;simp only[Option.bind_eq_some_iff,Option.map_eq_some_iff]at h⊢;obtain⟨g,hg,r',hr',rfl⟩:=h;exact⟨g,hg,r',Qhc n _ _ hr',rfl⟩
   ·rename_i hf;split at h
    ·rename_i i hready;simp only[Option.bind_eq_some_iff,Option.map_eq_some_iff]at h;obtain⟨g,⟨o,ho,hg⟩,r',hr',rfl⟩:=h;simp[hready,ho,hg,Qhc n _ _ hr',brs]
    ·cases h
def RT.count:RT->Nat
 |.nil=>1
 |.o _ _ r=>r.count
 |.br a b=>a.count+b.count
 |.wk r=>r.count
def Qwb:List GOp->RT
 | []=>.nil
 |g::gs=>.o g.g g.o (Qwb gs)
def Qagz(P:Program)(ops:Array Oper):Bool:=decide (ops.size<=100)&&ops.toList.any fun o=>(Qa1 P false o).isCall
def Qag0(P:Program)(ops:Array Oper):Bool:=
 let cs:=ops.toList.map (Qa1 P true)
 decide (100<ops.size)||4<=(cs.filter fun o=>match o with| .app .. =>true|_=>false).length||
  (3<=(cs.filter fun o=>match o with| .box .. | .alloc .. =>true|_=>false).length&&3<=(cs.filter fun o=>match o with| .st .. =>true|_=>false).length)
def Qls(P:Program)(N:Nat)(ops:Array Oper)(dr:Bool)(most:Nat):Option SC:=
 if Qag0 P ops then none else
 match Qg0 P N dr ops ops.size (Array.replicate ops.size false)with
 |some r=>if r.count<=most then some (.rg r)else none
 |none=>none
def Qlt(P:Program)(N:Nat)(ops:Array Oper)(draw:Bool):Option SC:=
 if draw then
  if Region.noSelect ops then
   match(if Qagz P ops then(Qnq P N false ops ops.size (Array.replicate ops.size false)).map .rg else none)with
   |some s=>some s
   |none=>Qls P N ops true 100
  else none
 else(ops.toList.mapM (Qf5 P N false ops)).map fun l=>.rg (Qwb l)
def Qbk(P:Program)(N:Nat):Code->Option SC
 |.skip=>some .skip
 |.region id ops draw=>match Qlt P N ops draw with
  |some s=>some s
  |none=>if draw then some (.raw id ops)else none
 |.seq a b=>(Qbk P N a).bind fun a=>(Qbk P N b).map fun b=>.seq a b
 |.cond c a b=>(opd c).bind fun c=>(Qbk P N a).bind fun a=>(Qbk P N b).map fun b=>.cond c a b
 |.block id a=>(Qbk P N a).map (.block id)
 |.loop a=>(Qbk P N a).map .loop
 |.exit id=>some (.exit id)
 |.ret=>some .ret
 |_=>none
inductive RV where
 |t (s:Nat)
 |cell (s n:Nat) (ag:Bool)
 deriving Inhabited
def Qcl(P:Program)(r:ResultVar):Option RV:=
 match r with
 |.tmp t=>some (.t t)
 |.cell a t=>(tsz P t).bind fun n=>(Qh5 P t).map fun ag=>.cell a n ag
def RT.strip:RT->RT
 |.nil=>.nil
 |.o g p r=>.o g p r.strip
 |.br a b=>.br a.strip b.strip
 |.wk r=>r.strip
def SC.strip:SC->SC
 |.rg r=>.rg r.strip
 |.seq a b=>.seq a.strip b.strip
 |.cond c a b=>.cond c a.strip b.strip
 |.block id a=>.block id a.strip
 |.loop a=>.loop a.strip
 |s=>s
theorem Qt0:∀l:List GOp,(Qwb l).strip=Qwb l
 | []=>rfl
 |g::gs=>by simp only[Qwb,RT.strip,Qt0 gs]
theorem Qxl:∀l:List RT,(∀r∈l,r.strip=r)->(brs l).strip=brs l
 | [],_=>rfl
 | [r],h=>h r (by simp)
 |r::s::l,h=>by have:=Qxl (s::l) fun x hx=>h x (List.mem_cons_of_mem _ hx);simp only[brs,RT.strip,h r (by simp),this]
theorem Qzr{α β:Type}{f:α->Option β}{Q:β->Prop}(hf:∀a b,f a=some b->Q b):∀(l:List α)(rs:List β),l.mapM f=some rs->∀r∈rs,Q r
 | [],rs,h=>by simp at h;subst h;simp
 |a::l,rs,h=>by
  simp only[List.mapM_cons,Option.bind_eq_bind,Option.pure_def,Option.bind_eq_some_iff,Option.some.injEq]at h;obtain⟨b,h1,bs,h2,rfl⟩:=h;intro r hr;rcases List.mem_cons.1 hr with rfl|hr
  ·exact hf _ _ h1
  ·exact Qzr hf l bs h2 r hr
theorem Qil{P:Program}{N:Nat}{dr:Bool}{ops:Array Oper}:∀(n:Nat)(listed:Array Bool)(r:RT),Qg0 P N dr ops n listed=some r->r.strip=r
 |0,listed,r,h=>by
  unfold Qg0 at h;split at h
  ·cases h;rfl
  ·cases h
 | n+1,listed,r,h=>by
  unfold Qg0 at h;split at h
  ·cases h;rfl
  ·split at h
   ·simp only[Option.bind_eq_some_iff,Option.map_eq_some_iff]at h;obtain⟨g,_,r',hr',rfl⟩:=h;simp only[RT.strip,Qil n _ _ hr']
   ·simp only[Option.map_eq_some_iff]at h;obtain⟨rs,hrs,rfl⟩:=h;refine Qxl rs (Qzr (fun i b hb=>?_) _ rs hrs);simp only[Option.bind_eq_some_iff,Option.map_eq_some_iff]at hb;obtain⟨g,_,r',hr',rfl⟩:=hb;simp only[RT.strip,Qil n _ _ hr']
theorem Qwc{P:Program}{N:Nat}{ops:Array Oper}{draw:Bool}{s:SC}(h:Qlt P N ops draw=some s):s.strip=s:=by
 unfold Qlt at h;split at h
 ·split at h
  ·have key:∀(dr:Bool) (most:Nat) (s:SC),Qls P N ops dr most=some s->s.strip=s:=fun dr most s hc=>by
    unfold Qls at hc;split at hc
    ·cases hc
    split at hc
    ·rename_i r hr;split at hc
     ·cases hc;simp only[SC.strip,Qil _ _ _ hr]
     ·cases hc
    ·cases hc
   split at h
   ·rename_i s' hs';cases h;split at hs'
    ·simp only[Option.map_eq_some_iff]at hs';obtain⟨r,hr,rfl⟩:=hs';simp only[SC.strip,Qil _ _ _ (Qhc _ _ _ hr)]
    ·cases hs'
   ·exact key _ _ _ h
  ·cases h
 ·simp only[Option.map_eq_some_iff]at h;obtain⟨gs,_,rfl⟩:=h;simp only[SC.strip,Qt0]
theorem Qyz{P:Program}{N:Nat}:∀(c:Code)(s:SC),Qbk P N c=some s->s.strip=s:=by
 intro c;induction c with
 |skip=>intro s h;simp[Qbk]at h;subst h;rfl
 | region id ops draw=>
  intro s h;simp only[Qbk]at h;split at h
  ·rename_i s' hs';cases h;exact Qwc hs'
  ·split at h
   ·cases h;rfl
   ·cases h
 |seq x y ihx ihy=>intro s h;simp only[Qbk,Option.bind_eq_some_iff,Option.map_eq_some_iff]at h;obtain⟨sx,hx,sy,hy,rfl⟩:=h;simp only[SC.strip,ihx _ hx,ihy _ hy]
 |cond c x y ihx ihy=>intro s h;simp only[Qbk,Option.bind_eq_some_iff,Option.map_eq_some_iff]at h;obtain⟨pc,hpc,sx,hx,sy,hy,rfl⟩:=h;simp only[SC.strip,ihx _ hx,ihy _ hy]
 |block id x ihx=>intro s h;simp only[Qbk,Option.map_eq_some_iff]at h;obtain⟨sx,hx,rfl⟩:=h;simp only[SC.strip,ihx _ hx]
 |loop x ihx=>intro s h;simp only[Qbk,Option.map_eq_some_iff]at h;obtain⟨sx,hx,rfl⟩:=h;simp only[SC.strip,ihx _ hx]
 |exit id=>intro s h;simp[Qbk]at h;subst h;rfl
 |ret=>intro s h;simp[Qbk]at h;subst h;rfl
 |_=>intro s h;simp[Qbk]at h
structure SFn where
 n:Nat
 rs:List RV
 body:SC
 deriving Inhabited
def Qe(P:Program)(f:Func):Option SFn:=
 f.body.bind fun c=>(Qbk P f.ntmps c).bind fun b=>(f.results.toList.mapM (Qcl P)).map fun rs=>⟨f.ntmps,rs,b⟩
def SFn.strip(s:SFn):SFn:=⟨s.n,s.rs,s.body.strip⟩
abbrev Fr:=Nat->PV
structure HB where
 e:Nat
 ty:TypeId
 xs:List PV
 fz:Bool
abbrev HP:=Nat->Option HB
def upd(f:Fr)(a:Nat)(v:PV):Fr:=fun b=>if b=a then v else f b
def Qv(h:HP)(a:Nat)(v:HB):HP:=fun b=>if b=a then some v else h b
def fr0:Fr:=fun _=>.undef
def hp0:HP:=fun _=>none
def isB(β:Nat):Bool:=decide (1000000<=β)
def isY(β:Nat):Bool:=decide (1000000<=β)&&decide (β<2000000)
def isR(β:Nat):Bool:=decide (1500000<=β)&&decide (β<2000000)
theorem Qt1{β:Nat}(h:isY β=false):isR β=false:=by simp[isY]at h;simp[isR];omega
theorem Qlu{β:Nat}(h:isB β=false):isY β=false:=by simp[isB]at h;simp[isY];omega
def PV.ref1:PV->List Nat
 |.mp β _ _=>[β]
 |.mso β _ _| .rb β _ _=>[β]
 |_=>[]
def PV.refs:PV->List Nat
 |.mp β _ _=>[β]
 |.mso β _ _| .rb β _ _=>[β]
 |.fn _ first cap=>first.flatMap PV.ref1++cap.flatMap PV.ref1
 |_=>[]
def PV.isCap:PV->Bool
 |.mp .. | .mso .. | .rb .. | .int .. | .bool _| .nilS| .sl .. | .pt _| .np .. | .nso .. =>true
 |_=>false
def PV.sref1:PV->List Nat
 |.mso β _ _=>[β]
 |.nso γ _ _| .np γ _ _=>[γ]
 |_=>[]
def PV.nref1:PV->List Nat
 |.nso γ _ _| .np γ _ _=>[γ]
 |_=>[]
def PV.sref:PV->List Nat
 |.nso γ _ _| .np γ _ _=>[γ]
 |.rag cs=>cs.flatMap PV.sref1
 |.rtp cs=>cs.flatMap PV.sref1
 |.rtq cs _=>cs.flatMap PV.sref1
 |.nst γ _ _ xs=>γ::xs.flatMap fun x=>x.ncells.flatMap PV.sref1
 |.fn _ first cap=>first.flatMap PV.nref1++cap.flatMap PV.nref1
 |_=>[]
def Qaq(β:Nat)(p:PV):PV:=if p.refs.contains β then .undef else p
def Qa2(β:Nat)(fr:Fr):Fr:=fun i=>Qaq β (fr i)
def Qa0(hp:HP):PV->PV
 |.mp β i o=>if isY β then .undef else match hp β with
  |some hb=>match hb.xs[i]? with
   |some x=>.pt (x.cells.drop o)
   |none=>.undef
  |none=>.undef
 |.mso β o n=>if isY β then .undef else match hp β with
  |some hb=>.sl hb.e ((hb.xs.drop o).take n)
  |none=>.undef
 |.rb _ _ _| .nso _ _ _| .np _ _ _| .rag _| .rtp _| .rtq _ _| .nst _ _ _ _=>.undef
 |p=>p
def Qaa(hp:HP):PV->PV
 |.fn f first cap=>.fn f (first.map (Qa0 hp)) (cap.map (Qa0 hp))
 |p=>Qa0 hp p
def Qaj(hp:HP)(l:List Nat):HP:=fun β=>if l.contains β then(hp β).map fun hb=>{ hb with fz:=true }else hp β
def ev(fr:Fr):Opd->PV
 |.t n=>fr n
 |.c p=>p
def ldV:Bool->Nat->Nat->PV->PV
 |true,n,o,x=>.agg ((x.cells.drop o).take n)
 |false,_,o,x=>(x.cells.drop o).headD .undef
def stV(x:PV)(o:Nat)(v:PV):PV:=.agg (x.cells.take o++v.cells++x.cells.drop (o+v.cells.length))
def PV.isRefC:PV->Bool
 |.mso .. | .nso .. | .undef=>true
 |_=>false
def Qhd(cs:List PV):PV:=if cs.any PV.isRefC then .rag cs else .agg cs
def Qei:List PV->PV
 | [c]=>c
 |cs=>Qhd cs
def ldN(ag:Bool)(n o:Nat)(x:PV):PV:=if ag then Qhd ((x.ncells.drop o).take n)else(x.ncells.drop o).headD .undef
def stN:PV->Option (List PV)
 |.rag cs=>if cs.all PV.notU then some cs else none
 |.nso γ o n=>some [.nso γ o n]
 |.mso β o n=>if isB β then some [.mso β o n]else none
 |.int k n=>some [.int k n]
 |.bool b=>some [.bool b]
 |.nilS=>some [.nilS]
 |.sl e xs=>some [.sl e xs]
 |.pt cs=>some [.pt cs]
 |.agg cs=>some cs
 |_=>none
def Qlv(l:List PV)(o:Nat)(cs:List PV):List PV:=l.take o++cs++l.drop (o+cs.length)
def Qeb(γ:Nat):PV->PV
 |.nst γ' e ty xs=>if γ'=γ then .undef else .nst γ' e ty xs
 |p=>p
def Qd0(γ:Nat)(fr:Fr):Fr:=fun i=>Qeb γ (fr i)
def Qds(β:Nat):PV->PV
 |.mso β' o n=>if β'=β then .undef else .mso β' o n
 |.nso γ o n=>if γ=β then .undef else .nso γ o n
 |p=>p
def Qbb(β:Nat):PV->PV
 |.nst γ e ty xs=>if γ=β then .undef else .nst γ e ty (xs.map fun x=>Qei (x.ncells.map (Qds β)))
 |.rag cs=>.rag (cs.map (Qds β))
 |.rtp cs=>.rtp (cs.map (Qds β))
 |.rtq cs q=>.rtq (cs.map (Qds β)) q
 |.nso γ o n=>if γ=β then .undef else .nso γ o n
 |.np γ i o=>if γ=β then .undef else .np γ i o
 |.fn f first cap=>if(first.flatMap PV.nref1++cap.flatMap PV.nref1).contains β then .undef else Qaq β (.fn f first cap)
 |p=>Qaq β p
def Qc1(β:Nat)(fr:Fr):Fr:=fun i=>Qbb β (fr i)
abbrev Qg:=Fr->HP->Prop
def Qa9(op:BinOp)(bt:Bool)(a b:PV)(d:Nat)(fr:Fr)(hp:HP)(K:Qg):Prop:=
 match a,b with
 |.int k x,.int k' y=>
  match op with
  |.shl=>0<=y/\K (upd fr d (.int k (k.wrap (x*2^(min y.toNat k.bits))))) hp
  |.shr=>0<=y/\K (upd fr d (.int k (x.fdiv (2^(min y.toNat k.bits))))) hp
  |.add=>k=k'/\K (upd fr d (.int k (k.wrap (x+y)))) hp
  |.sub=>k=k'/\K (upd fr d (.int k (k.wrap (x-y)))) hp
  |.mul=>k=k'/\K (upd fr d (.int k (k.wrap (x*y)))) hp
  |.quo=>k=k'/\y≠0/\K (upd fr d (.int k (k.wrap (x.tdiv y)))) hp
  |.rem=>k=k'/\y≠0/\K (upd fr d (.int k (x.tmod y))) hp
  |.and=>k=k'/\K (upd fr d (.int k (k.wrap (BitVec.ofInt k.bits x&&&BitVec.ofInt k.bits y).toNat))) hp
  |.or=>k=k'/\K (upd fr d (.int k (k.wrap (BitVec.ofInt k.bits x|||BitVec.ofInt k.bits y).toNat))) hp
  |.xor=>k=k'/\K (upd fr d (.int k (k.wrap (BitVec.ofInt k.bits x^^^BitVec.ofInt k.bits y).toNat))) hp
  |.andNot=>False
  |.eql=>k=k'/\K (upd fr d (.bool (decide (x=y)))) hp
  |.neq=>k=k'/\K (upd fr d (.bool (!decide (x=y)))) hp
  |.lss=>k=k'/\K (upd fr d (.bool (decide (x<y)))) hp
  |.leq=>k=k'/\K (upd fr d (.bool (decide (x<=y)))) hp
  |.gtr=>k=k'/\K (upd fr d (.bool (decide (y<x)))) hp
  |.geq=>k=k'/\K (upd fr d (.bool (decide (y<=x)))) hp
 |.bool x,.bool y=>
  match op with
  |.eql=>bt=true/\K (upd fr d (.bool (x==y))) hp
  |.neq=>bt=true/\K (upd fr d (.bool (!(x==y)))) hp
  |_=>False
 |_,_=>False
def Qm8(ng:Bool)(a b:PV)(d:Nat)(fr:Fr)(hp:HP)(K:Qg):Prop:=
 match a,b with
 |.agg [.int k x,.int l y],.agg [.int k' x',.int l' y']=>k=k'/\l=l'/\K (upd fr d (.bool (ng !=(decide (x=x')&&decide (y=y'))))) hp
 |_,_=>False
def Qm9(ng:Bool)(a b:PV)(d:Nat)(fr:Fr)(hp:HP)(K:Qg):Prop:=
 match a,b with
 |.str x,.str y=>K (upd fr d (.bool (ng !=decide (x=y)))) hp
 |_,_=>False
def Qs8(a:PV)(d:Nat)(fr:Fr)(hp:HP)(K:Qg):Prop:=
 match a with
 |.str s=>K (upd fr d (.int .i64 s.size)) hp
 |_=>False
def Qp7(a i:PV)(d:Nat)(fr:Fr)(hp:HP)(K:Qg):Prop:=
 match a,i with
 |.str s,.int _ n=>0<=n/\n<s.size/\K (upd fr d (.int .u8 (s.get! n.toNat).toNat)) hp
 |_,_=>False
def Qk5(c a b:PV)(d:Nat)(fr:Fr)(hp:HP)(K:Qg):Prop:=
 match c with
 |.bool t=>(t=true->K (upd fr d a) hp)/\(t=false->K (upd fr d b) hp)
 |_=>False
def unK(op:UnOp)(a:PV)(d:Nat)(fr:Fr)(hp:HP)(K:Qg):Prop:=
 match op,a with
 |.not,.bool b=>K (upd fr d (.bool !b)) hp
 |.neg,.int k n=>K (upd fr d (.int k (k.wrap (0-n)))) hp
 |_,_=>False
def Qof(k:IntKind)(a:PV)(d:Nat)(fr:Fr)(hp:HP)(K:Qg):Prop:=
 match a with
 |.int _ n=>K (upd fr d (.int k (k.wrap n))) hp
 |_=>False
def Qkr(a:PV)(d:Nat)(fr:Fr)(hp:HP)(K:Qg):Prop:=
 match a with
 |.nilS=>K (upd fr d (.int .i64 0)) hp
 |.sl _ xs=>K (upd fr d (.int .i64 xs.length)) hp
 |.mso _ _ n=>K (upd fr d (.int .i64 n)) hp
 |.nso _ _ n=>K (upd fr d (.int .i64 n)) hp
 |_=>False
def mxK(a b:PV)(d:Nat)(fr:Fr)(hp:HP)(K:Qg):Prop:=
 match a,b with
 |.int k x,.int _ y=>K (upd fr d (.int k (max x y))) hp
 |_,_=>False
def mnK(a b:PV)(d:Nat)(fr:Fr)(hp:HP)(K:Qg):Prop:=
 match a,b with
 |.int k x,.int _ y=>K (upd fr d (.int k (min x y))) hp
 |_,_=>False
def Qci(e:Nat)(a i:PV)(d:Nat)(fr:Fr)(hp:HP)(K:Qg):Prop:=
 match a,i with
 |.sl e' xs,.int _ n=>e=e'/\0<=n/\∃h:n.toNat<xs.length,K (upd fr d (.pt (xs[n.toNat]'h).cells)) hp
 |.mso β o m,.int _ n=>0<=n/\n.toNat<m/\(hp β).map (·.e)=some e/\K (upd fr d (.mp β (o+n.toNat) 0)) hp
 |.nso γ o m,.int _ n=>0<=n/\n.toNat<m/\(hp γ).map (·.e)=some e/\K (upd fr d (.np γ (o+n.toNat) 0)) hp
 |_,_=>False
def Qjt(len e:Nat)(a i:PV)(d:Nat)(fr:Fr)(hp:HP)(K:Qg):Prop:=
 match a,i with
 |.mp β j o,.int _ n=>0<=n/\n<len/\K (upd fr d (.mp β j (o+n.toNat*e))) hp
 |.pt cs,.int _ n=>0<=n/\n<len/\n.toNat*e<=cs.length/\K (upd fr d (.pt (cs.drop (n.toNat*e)))) hp
 |_,_=>False
def Qwd(len e:Nat)(ag:Bool)(a i:PV)(d:Nat)(fr:Fr)(hp:HP)(K:Qg):Prop:=
 match a,i with
 |.agg cs,.int _ n=>0<=n/\n<len/\n.toNat*e+e<=cs.length/\(ag=false->e=1)/\K (upd fr d (ldV ag e (n.toNat*e) (.agg cs))) hp
 |_,_=>False
def Qna(off:Nat)(a:PV)(d:Nat)(fr:Fr)(hp:HP)(K:Qg):Prop:=
 match a with
 |.mp β i o=>K (upd fr d (.mp β i (o+off))) hp
 |.np γ i o=>K (upd fr d (.np γ i (o+off))) hp
 |.pt cs=>off<=cs.length/\K (upd fr d (.pt (cs.drop off))) hp
 |_=>False
def Qju(off n:Nat)(ag:Bool)(a:PV)(d:Nat)(fr:Fr)(hp:HP)(K:Qg):Prop:=
 match a with
 |.agg cs=>off+n<=cs.length/\(ag=false->n=1)/\K (upd fr d (ldV ag n off (.agg cs))) hp
 |.rag cs=>off+n<=cs.length/\(ag=false->n=1)/\K (upd fr d (ldN ag n off (.rag cs))) hp
 |_=>False
def ldK(n:Nat)(ag:Bool)(a:PV)(d:Nat)(fr:Fr)(hp:HP)(K:Qg):Prop:=
 match a with
 |.mp β i o=>match hp β with
  |some hb=>∃h:i<hb.xs.length,o+n<=hb.e/\(ag=false->n=1)/\K (upd fr d (ldV ag n o (hb.xs[i]'h))) hp
  |none=>False
 |.pt cs=>n<=cs.length/\(ag=false->n=1)/\K (upd fr d (ldV ag n 0 (.agg cs))) hp
 |.rb β o m=>n=1/\ag=false/\K (upd fr d (.mso β o m)) hp
 |.np γ i o=>match fr γ with
  |.nst γ' e _ xs=>γ'=γ/\∃h:i<xs.length,o+n<=e/\(ag=false->n=1)/\K (upd fr d (ldN ag n o (xs[i]'h))) hp
  |_=>False
 |_=>False
def stK (n:Nat) (a v:PV) (fr:Fr) (hp:HP) (K:Qg):Prop:=
 match a with
 |.mp β i o=>match Qaj hp v.refs β with
  | some hb=>hb.fz=false/\(Qaa hp v).isData=true/\(Qaa hp v).cells.length=n/\∃h:i<hb.xs.length,o+n<=hb.e/\
    K fr (Qv (Qaj hp v.refs) β { hb with xs:=hb.xs.set i (if n=hb.e then Qaa hp v else stV (hb.xs[i]'h) o (Qaa hp v)) })
  |none=>False
 |.np γ i o=>match fr γ with
  |.nst γ' e ty xs=>γ'=γ/\(∃hb,hp γ=some hb/\hb.fz=false)/\∃h:i<xs.length,o+n<=e/\match stN v with
   |some cs=>cs.length=n/\K (upd (Qd0 γ fr) γ (.nst γ e ty (xs.set i (Qei (Qlv (xs[i]'h).ncells o cs))))) hp
   |none=>False
  |_=>False
 |_=>False
def nmN(d:Nat):Nat:=4000000+d
def Qp8(n ty:Nat)(cs:List PV)(d:Nat)(fr:Fr)(hp:HP)(K:Qg):Prop:=
 (cs.length=n/\0<n/\cs.all PV.notU=true/\cs.all (fun x=> !(x.sref1.contains (nmN d)))=true)/\
  K (upd (upd (Qc1 (nmN d) fr) (nmN d) (.nst (nmN d) n ty [.rag cs])) d (.np (nmN d) 0 0)) (Qv hp (nmN d) ⟨n,ty,[],false⟩)
def Qdu(n ty:Nat)(v:PV)(d:Nat)(fr:Fr)(hp:HP)(K:Qg):Prop:=
 match v with
 |.rag cs=>Qp8 n ty cs d fr hp K
 |v=>match(match v with| .mso β o m=>if isY β then some (β,o,m)else none|_=>none)with
 |some (β,o,m)=>K (upd fr d (.rb β o m)) hp
 |none=>
 (Qaa hp v).isData=true/\(Qaa hp v).cells.length=n/\0<n/\K (upd (Qa2 d fr) d (.mp d 0 0)) (Qv (Qaj hp v.refs) d ⟨n,ty,[Qaa hp v],false⟩)
def mkK(e by_ ty:Nat)(z l c:PV)(d:Nat)(fr:Fr)(hp:HP)(K:Qg):Prop:=
 match l,c with
 |.int _ L,.int _ C=>0<e/\z.cells.length=e/\0<=L/\L<=C/\by_*C<=281474976710656/\C<=9223372036854775807/\
   K (upd (Qa2 d fr) d (.ms d L.toNat)) (Qv hp d ⟨e,ty,List.replicate L.toNat z,false⟩)
 |_,_=>False
def Qwe(hp:HP)(e:Nat)(ps:List PV):Prop:=∀p∈ps,(Qaa hp p).isData=true/\(Qaa hp p).cells.length=e
def Qeu:PV->Bool
 |.mso β 0 _=>decide (5000000<=β)
 |_=>false
def Qks:List PV->Bool
 | [x]=>Qeu x
 |_=>false
def bsN(e ty:Nat)(ps:List PV)(d:Nat)(fr:Fr)(hp:HP)(K:Qg):Prop:=
 e=1/\K (upd (upd (Qc1 (nmN d) fr) (nmN d) (.nst (nmN d) 1 ty ps)) d (.nso (nmN d) 0 1)) (Qv hp (nmN d) ⟨1,ty,[],false⟩)
def Qwf (e by_ ty:Nat) (s x:PV) (d:Nat) (fr:Fr) (hp:HP) (K:Qg):Prop:=
 match x with
 |.nso δ 0 1=>match fr δ with
  |.nst δ' 1 _ [y]=>δ'=δ/\Qeu y=true/\e=1/\
   match s with
   |.nilS=>by_<=140737488355328/\K (upd (upd (Qc1 (nmN d) fr) (nmN d) (.nst (nmN d) 1 ty [y])) d (.nso (nmN d) 0 1)) (Qv hp (nmN d) ⟨1,ty,[],false⟩)
   |.nso γ 0 k=>match fr γ with
    |.nst γ' 1 ty2 xs=>(γ'=γ/\γ<5000000/\isY γ=false/\ty2=ty/\k=xs.length/\xs.all Qeu=true/\(k+1)*by_<=140737488355328/\k+1<=9223372036854775807)/\(∃hb,hp γ=some hb/\hb.fz=false)/\
      K (upd (upd (Qc1 γ fr) γ (.nst γ 1 ty (xs++[y]))) d (.nso γ 0 (k+1))) (Qv hp γ ⟨1,ty,[],false⟩)
    |_=>False
   |_=>False
  |_=>False
 |_=>False
def bsO(e ty:Nat)(ps:List PV)(d:Nat)(fr:Fr)(hp:HP)(K:Qg):Prop:=
 0<e/\Qwe hp e ps/\K (upd (Qa2 d fr) d (.ms d ps.length)) (Qv (Qaj hp (ps.flatMap PV.refs)) d ⟨e,ty,ps.map (Qaa hp),false⟩)
def bsK(e ty:Nat)(ps:List PV)(d:Nat)(fr:Fr)(hp:HP)(K:Qg):Prop:=if Qks ps=true then bsN e ty ps d fr hp K else bsO e ty ps d fr hp K
def Qe6(hp:HP):PV->Option (Nat×List PV)
 |.nilS=>some (0,[])
 |.sl e xs=>some (e,xs)
 |.mso β o n=>(hp β).map fun hb=>(hb.e,(hb.xs.drop o).take n)
 |_=>none
def Qgq (e by_ ty:Nat) (s x:PV) (d:Nat) (fr:Fr) (hp:HP) (K:Qg):Prop:=
 match Qe6 hp x with
 |none=>Qwf e by_ ty s x d fr hp K
 | some (e',ys)=>0<e/\(e'=e∨ys=[])/\
  match s with
  |.nilS=>ys.length*by_<=140737488355328/\ys.length<=9223372036854775807/\
    K (upd (Qa2 d fr) d (.ms d ys.length)) (Qv hp d ⟨e,ty,ys,false⟩)
  |.mso β 0 n=>match hp β with
   | some hb=>(isB β=false/\hb.fz=false/\hb.e=e/\hb.ty=ty/\n<=hb.xs.length/\(n+ys.length)*by_<=140737488355328/\n+ys.length<=9223372036854775807/\
     K (upd (Qa2 β fr) d (.ms β (n+ys.length))) (Qv hp β ⟨e,ty,hb.xs.take n++ys,false⟩))∨
    (isB β=true/\isY β=false/\(ys≠[]/\hb.fz=false/\hb.e=e/\hb.ty=ty/\n<=hb.xs.length/\(n+ys.length)*by_<=140737488355328/\n+ys.length<=9223372036854775807)/\
     K (upd (Qc1 β fr) d (.ms β (n+ys.length))) (Qv hp β ⟨e,ty,hb.xs.take n++ys,false⟩))
   |none=>False
  |_=>False
def Qp9 (e:Nat) (s x:PV) (d:Nat) (fr:Fr) (hp:HP) (K:Qg):Prop:=
 match Qe6 hp x,s with
 |some (e',ys),.mso β 0 n=>match hp β with
  | some hb=>0<e/\hb.fz=false/\hb.e=e/\(e'=e∨ys=[])/\n=hb.xs.length/\
    K (upd fr d (.int .i64 (min (ys.length:Int) n))) (Qv hp β { hb with xs:=ys.take n++hb.xs.drop ys.length })
  |none=>False
 |_,_=>False
def Qca(d:Int):Option PV->Option Int
 |none=>some d
 |some (.int _ n)=>some n
 |some _=>none
def slK(e:Nat)(a:PV)(lo hi mx:Option PV)(d:Nat)(fr:Fr)(hp:HP)(K:Qg):Prop:=
 match a with
 |.nilS=>match Qca 0 lo,Qca 0 hi,Qca 0 mx with
  |some L,some H,some M=>L=0/\H=0/\M=0/\(mx.isSome->hi.isSome)/\K (upd fr d .nilS) hp
  |_,_,_=>False
 |.sl e' xs=>match Qca 0 lo,Qca xs.length hi,Qca xs.length mx with
  |some L,some H,some M=>e'=e/\0<=L/\L<=H/\H<=M/\M<=xs.length/\(mx.isSome->hi.isSome)/\K (upd fr d (.sl e ((xs.take H.toNat).drop L.toNat))) hp
  |_,_,_=>False
 |.mso β o n=>match Qca 0 lo,Qca n hi,mx with
  |some L,some H,none=>(hp β).map (·.e)=some e/\0<=L/\L<=H/\H<=n/\(L=0∨L<n)/\K (upd fr d (.mso β (o+L.toNat) (H.toNat-L.toNat))) hp
  |_,_,_=>False
 |_=>False
def Qg1(a:PV)(i:Nat)(d:Nat)(fr:Fr)(hp:HP)(K:Qg):Prop:=
 match a with
 |.tup ps=>match ps[i]? with
  |some p=>p.isData=true/\K (upd fr d p) hp
  |none=>False
 |.rtp ps=>match ps[i]? with
  |some p=>K (upd fr d p) hp
  |none=>False
 |.rtq cs q=>match i with
  |0=>K (upd fr d (.rag cs)) hp
  |1=>K (upd fr d q) hp
  |_=>False
 |_=>False
def Qdi(cells:List PV):List (Nat×List PV)->List PV
 | []=>cells
 |(o,xs)::r=>Qdi (cells.take o++xs++cells.drop (o+xs.length)) r
def Qzs(hp:HP)(len:Nat)(ps:List (Nat×Nat×PV)):Prop:=∀p∈ps,(Qaa hp p.2.2).isData=true/\(Qaa hp p.2.2).cells.length=p.2.1/\p.1+p.2.1<=len
def Qt2(zero:List PV)(ps:List (Nat×Nat×PV))(d:Nat)(fr:Fr)(hp:HP)(K:Qg):Prop:=
 Qzs hp zero.length ps/\K (upd fr d (.agg (Qdi zero (ps.map fun p=>(p.1,(Qaa hp p.2.2).cells))))) (Qaj hp (ps.flatMap fun p=>p.2.2.refs))
def PV.isNst:PV->Bool
 |.nso .. | .rag _=>true
 |.mso β _ _=>decide (2000000<=β)
 |_=>false
def Qid(len:Nat)(ps:List (Nat×Nat×PV)):Prop:=∀p∈ps,∃cs,stN p.2.2=some cs/\cs.length=p.2.1/\p.1+p.2.1<=len
def Qg2(zero:List PV)(ps:List (Nat×Nat×PV))(d:Nat)(fr:Fr)(hp:HP)(K:Qg):Prop:=
 if ps.any (fun p=>p.2.2.isNst)then Qid zero.length ps/\K (upd fr d (.rag (Qdi zero (ps.map fun p=>(p.1,(stN p.2.2).getD []))))) hp
 else Qt2 zero ps d fr hp K
def Qt3(a:PV)(d:Option Nat)(fr:Fr)(hp:HP)(K:Qg):Prop:=
 match a,d with
 |.mp _ _ _,some d| .pt _,some d| .fn _ _ _,some d=>K (upd fr d a) hp
 |.mp _ _ _,none| .pt _,none| .fn _ _ _,none=>K fr hp
 |_,_=>False
structure Ctx where
 P:Program
 N:Nat
 w0:World
 X0:Nat->Prop
 hX0:∀b,X0 b->b<w0.heap.size
 hN:N<=1000000
 fx:Nat->Option Nat
 hfx:∀β b,fx β=some b->b<w0.heap.size/\(isR β=false->¬X0 b)
 Z0:Nat->Prop
 hZ0:∀b,Z0 b->b<w0.heap.size/\¬X0 b/\∀β,fx β≠some b
@[reducible] def Ctx.plain (P : Program) (N : Nat) (w : World) (X : Nat -> Prop) (hX : ∀ b, X b -> b < w.heap.size) (hN : N <= 1000000) : Ctx :=
 ⟨P, N, w, X, hX, hN, fun _ => none, (fun _ _ h => nomatch h), Qaw, fun _ h => h.elim⟩
def Ctx.Y0(C:Ctx):Nat->Prop:=fun b=>(∃β,isR β=false/\C.fx β=some b)∨C.Z0 b
theorem Ctx.hY0(C:Ctx):∀b,C.Y0 b->b<C.w0.heap.size/\¬C.X0 b
 |b,.inl ⟨β,hr,h⟩=>⟨(C.hfx β b h).1,(C.hfx β b h).2 hr⟩
 |b,.inr h=>⟨(C.hZ0 b h).1,(C.hZ0 b h).2.1⟩
theorem Ctx.plain_ext{P:Program}{N:Nat}{w w':World}{X:Nat->Prop}{hX:∀b,X b->b<w.heap.size}{hN:N<=1000000}(h:Ext (Ctx.plain P N w X hX hN).Y0 w w'):Ext Qaw w w':=
 h.mono fun b _ hb=>by
  rcases hb with⟨β,_,hb⟩|hb
  ·cases hb
  ·exact hb
def Ctx.cls(C:Ctx)(β b:Nat):Prop:=if isY β=true then C.fx β=some b else C.w0.heap.size<=b∨C.Z0 b
theorem Ctx.cls_or{C:Ctx}{β b:Nat}(h:C.cls β b)(hr:isR β=false):C.w0.heap.size<=b∨C.Y0 b:=by
 unfold Ctx.cls at h;split at h
 ·exact .inr (.inl ⟨β,hr,h⟩)
 ·exact h.imp id .inr
theorem Ctx.cls_N{C:Ctx}{β b:Nat}(h:C.cls β b)(hB:isY β=false):C.w0.heap.size<=b∨C.Z0 b:=by
 unfold Ctx.cls at h
 rwa[if_neg (by simp[hB])]at h
theorem Ctx.cls_mk{C:Ctx}{β b:Nat}(h:C.w0.heap.size<=b∨C.Z0 b)(hB:isY β=false):C.cls β b:=by
 unfold Ctx.cls
 rwa[if_neg (by simp[hB])]
theorem Ctx.N_Y{C:Ctx}{b:Nat}(h:C.w0.heap.size<=b∨C.Z0 b):C.w0.heap.size<=b∨C.Y0 b:=h.imp id .inr
theorem Ctx.N_fx{C:Ctx}{β b:Nat}(h:C.w0.heap.size<=b∨C.Z0 b):C.fx β≠some b:=fun e=>by
 rcases h with h|h
 ·have:=(C.hfx β b e).1;omega
 ·exact(C.hZ0 b h).2.2 β e
theorem Ctx.cls_notX{C:Ctx}{β b:Nat}(h:C.cls β b)(hr:isR β=false):¬C.X0 b:=fun hx=>by
 rcases Ctx.cls_or h hr with h|h
 ·have:=C.hX0 b hx;omega
 ·exact(C.hY0 b h).2 hx
def Xof(C:Ctx)(ρ:Nat->Option Nat)(hp:HP):Nat->Prop:=fun b=>C.X0 b∨∃β hb,hp β=some hb/\hb.fz=false/\ρ β=some b
def Qbj(w:World)(b e cap:Nat):Prop:=∃cur ty,w.heap[b]? =some (.cells cur ty (0,0))/\cur.size=cap*e
def Qwg(w:World)(X:Nat->Prop)(b:Nat)(hb:HB):Prop:=
 ∃(cur:Array Value)(cap:Nat),w.heap[b]? =some (.cells cur hb.ty (0,0))/\cur.size=cap*hb.e/\hb.xs.length<=cap/\cap<=maxLen/\
  ∀(i:Nat)(x:PV),hb.xs[i]? =some x->∀(j:Nat)(y:PV),x.cells[j]? =some y->Qs w X y (cur.getD (i*hb.e+j) undef)
structure OwnB(C:Ctx)(ρ:Nat->Option Nat)(hp:HP)(w:World)(β:Nat)(hb:HB):Prop where
 epos:0<hb.e
 len:∀(i:Nat)(x:PV),hb.xs[i]? =some x->x.cells.length=hb.e/\x.isData=true
 blk:match ρ β with
  |none=>hb.xs=[]
  |some b=>C.cls β b/\b<w.heap.size/\Qwg w (Xof C ρ hp) b hb
 fix:isY β=true->ρ β=C.fx β
 ro:isR β=true->hb.fz=true
def Qc5(ρ:Nat->Option Nat)(hp:HP)(w:World)(β o n:Nat)(v:Value):Prop:=
 ∃ hb,hp β=some hb/\o+n<=hb.xs.length/\((ρ β=none/\v= .slice none 0 0/\n=0/\o=0)∨
   ∃b cap,ρ β=some b/\v= .slice (some ⟨b,o*hb.e,none⟩) n cap/\Qbj w b hb.e (o+cap)/\o+cap<=maxLen)
def Qje(ρ:Nat->Option Nat)(hp:HP)(w:World)(γ o n:Nat)(v:Value):Prop:=
 isB γ=true/\∃hb b cap,hp γ=some hb/\ρ γ=some b/\v= .slice (some ⟨b,o*hb.e,none⟩) n cap/\Qbj w b hb.e (o+cap)/\o+cap<=maxLen/\n<=cap
def Qbo(C:Ctx)(ρ:Nat->Option Nat)(hp:HP)(w:World):PV->Value->Prop
 |.undef,_=>True
 |.mso β o n,v=>isB β=true/\Qc5 ρ hp w β o n v
 |.nso γ o n,v=>Qje ρ hp w γ o n v
 |p,v=>Qs w (Xof C ρ hp) p v
def Qbp(C:Ctx)(ρ:Nat->Option Nat)(hp:HP)(w:World):PV->Value->Prop
 |.mp β i o,v=>∃b hb,ρ β=some b/\hp β=some hb/\v= .pointer (some ⟨b,i*hb.e+o,none⟩)
 |.mso β o n,v=>Qc5 ρ hp w β o n v
 |.rb β o n,v=>∃b u,v= .pointer (some ⟨b,0,none⟩)/\b<w.heap.size/\¬Xof C ρ hp b/\w.cell? ⟨b,0,none⟩=some u/\Qc5 ρ hp w β o n u
 |.np γ i o,v=>isB γ=true/\∃b hb,ρ γ=some b/\hp γ=some hb/\v= .pointer (some ⟨b,i*hb.e+o,none⟩)
 |.nso γ o n,v=>Qje ρ hp w γ o n v
 |p,v=>Qs w (Xof C ρ hp) p v
def Qr(C:Ctx)(ρ:Nat->Option Nat)(hp:HP)(w:World):PV->Value->Prop
 |.undef,_=>True
 |.mp β i o,v=>Qbp C ρ hp w (.mp β i o) v
 |.mso β o n,v=>Qbp C ρ hp w (.mso β o n) v
 |.rb β o n,v=>Qbp C ρ hp w (.rb β o n) v
 |.np γ i o,v=>Qbp C ρ hp w (.np γ i o) v
 |.nso γ o n,v=>Qbp C ρ hp w (.nso γ o n) v
 |.rag cs,v=>∃vs:Array Value,v= .agg vs/\vs.size=cs.length/\∀(i:Nat)(x:PV),cs[i]? =some x->Qbo C ρ hp w x (vs.getD i undef)
 |.rtp cs,v=>∃vs:Array Value,v= .tuple vs/\vs.size=cs.length/\∀(i:Nat)(x:PV),cs[i]? =some x->Qbo C ρ hp w x (vs.getD i undef)
 |.rtq cs q,v=>∃(vs:Array Value)(u:Value),v= .tuple #[.agg vs,u]/\vs.size=cs.length/\(∀(i:Nat)(x:PV),cs[i]? =some x->Qbo C ρ hp w x (vs.getD i undef))/\Qai w (Xof C ρ hp) q u
 |.nst γ e ty xs,_=>isB γ=true/\0<e/\∃(b:Nat) (hb:HB) (cur:Array Value) (cap:Nat),ρ γ=some b/\hp γ=some hb/\hb.xs=[]/\hb.e=e/\hb.ty=ty/\w.heap[b]? =some (.cells cur ty (0,0))/\cur.size=cap*e/\xs.length<=cap/\cap<=maxLen/\
   (∀(i:Nat)(x:PV),xs[i]? =some x->x.ncells.length=e)/\∀(i:Nat)(x:PV),xs[i]? =some x->∀(j:Nat)(y:PV),x.ncells[j]? =some y->Qbo C ρ hp w y (cur.getD (i*e+j) undef)
 |.fn f first cap,v=>∃fv cv:Array Value,v= .func (.func f) fv cv/\fv.size=first.length/\cv.size=cap.length/\
   (∀(i:Nat)(x:PV),first[i]? =some x->Qbp C ρ hp w x (fv.getD i undef))/\(∀(i:Nat)(x:PV),cap[i]? =some x->Qbp C ρ hp w x (cv.getD i undef))
 |p,v=>Qco w (Xof C ρ hp) p v
structure Q9(C:Ctx)(ρ:Nat->Option Nat)(fr:Fr)(hp:HP)(tmps:Array Value)(w:World):Prop where
 sz:tmps.size=C.N
 ext:Ext C.Y0 C.w0 w
 keep:∀β b,C.fx β=some b->∀e cap,Qbj C.w0 b e cap->Qbj w b e cap
 own:∀β hb,hp β=some hb->OwnB C ρ hp w β hb
 inj:∀β γ b,hp β≠none->hp γ≠none->ρ β=some b->ρ γ=some b->β=γ
 slots:∀i,Qr C ρ hp w (fr i) (tmps.getD i undef)
def Sim(C:Ctx)(fr:Fr)(hp:HP)(tmps:Array Value)(w:World):Prop:=∃ρ,Q9 C ρ fr hp tmps w
def setO(tmps:Array Value)(d:Option Nat)(v:Value):Array Value:=match d with|some d=>tmps.setIfInBounds d v|none=>tmps
def Wk(fr:Fr)(hp:HP)(fr':Fr)(hp':HP):Prop:=∀(C:Ctx)(tmps:Array Value)(w:World),Sim C fr hp tmps w->Sim C fr' hp' tmps w
def Qgw(C:Ctx)(pr:Bool)(f:PV)(args:List PV)(d:Option Nat)(fr:Fr)(hp:HP)(K:Qg):Prop:=
 match f with
 |.fn g first cap => (C.P.funcs[g]?).any (fun fn => fn.body.isSome && fn.name != "runtime.NumGoroutine") = true /\
  ∀ρ tmps w (fv cv av:Array Value),(∀x,d=some x->x<C.N)->Q9 C ρ fr hp tmps w->
   fv.size=first.length->cv.size=cap.length->av.size=args.length->
   (∀(i:Nat)(x:PV),first[i]? =some x->Qbp C ρ hp w x (fv.getD i undef))->(∀(i:Nat)(x:PV),cap[i]? =some x->Qbp C ρ hp w x (cv.getD i undef))->
   (∀(i:Nat)(x:PV),args[i]? =some x->Qr C ρ hp w x (av.getD i undef))->
   Calls C.P g (fv++av++cv) w fun e w'=>∃v fr' hp',e= .returned v/\Sim C fr' hp' (setO tmps d v) w'/\(pr=true->Ext Qaw w w')/\K fr' hp'
 |_=>False
def opV(C:Ctx)(o:SOp)(fr:Fr)(hp:HP)(K:Qg):Prop:=
 match o with
 |.mv d x=>K (upd fr d (ev fr x)) hp
 |.pick d c a b=>Qk5 (ev fr c) (ev fr a) (ev fr b) d fr hp K
 |.bin d op bt x y=>Qa9 op bt (ev fr x) (ev fr y) d fr hp K
 |.eqs d ng x y=>Qm8 ng (ev fr x) (ev fr y) d fr hp K
 |.sqs d ng x y=>Qm9 ng (ev fr x) (ev fr y) d fr hp K
 |.sln d x=>Qs8 (ev fr x) d fr hp K
 |.six d x i=>Qp7 (ev fr x) (ev fr i) d fr hp K
 |.un d op x=>unK op (ev fr x) d fr hp K
 |.conv d k x=>Qof k (ev fr x) d fr hp K
 |.len d x=>Qkr (ev fr x) d fr hp K
 |.mx d x y=>mxK (ev fr x) (ev fr y) d fr hp K
 |.mn d x y=>mnK (ev fr x) (ev fr y) d fr hp K
 |.idx d e x i=>Qci e (ev fr x) (ev fr i) d fr hp K
 |.idxA d n e x i=>Qjt n e (ev fr x) (ev fr i) d fr hp K
 |.ixv d n e ag x i=>Qwd n e ag (ev fr x) (ev fr i) d fr hp K
 |.fld d off x=>Qna off (ev fr x) d fr hp K
 |.fldv d off n ag x=>Qju off n ag (ev fr x) d fr hp K
 |.ld d n ag x=>ldK n ag (ev fr x) d fr hp K
 |.st n x v=>stK n (ev fr x) (ev fr v) fr hp K
 |.box d n ty v=>Qdu n ty (ev fr v) d fr hp K
 |.alloc d n ty z=>Qdu n ty z d fr hp K
 |.mk d e by_ ty z l c=>mkK e by_ ty z (ev fr l) (ev fr c) d fr hp K
 |.bs d e ty ps=>bsK e ty (ps.map (ev fr)) d fr hp K
 |.app d e by_ ty s x=>Qgq e by_ ty (ev fr s) (ev fr x) d fr hp K
 |.cpy d e s x=>Qp9 e (ev fr s) (ev fr x) d fr hp K
 |.sl d e x lo hi mx=>slK e (ev fr x) (lo.map (ev fr)) (hi.map (ev fr)) (mx.map (ev fr)) d fr hp K
 |.ext d x i=>Qg1 (ev fr x) i d fr hp K
 |.bld d zero ps=>Qg2 zero (ps.map fun p=>(p.1,p.2.1,ev fr p.2.2)) d fr hp K
 |.fn d f first cap=>(first.map (ev fr)++cap.map (ev fr)).all PV.isCap=true/\K (upd fr d (.fn f (first.map (ev fr)) (cap.map (ev fr)))) hp
 |.call d pr f args=>Qgw C pr (ev fr f) (args.map (ev fr)) d fr hp K
 |.nilc d x=>Qt3 (ev fr x) d fr hp K
 |.bad _=>False
def Qej(o:SOp)(fr:Fr)(hp:HP)(K:Qg):Prop:=
 match o.dst with
 |some d=>K (upd fr d (.tup [])) hp
 |none=>K fr hp
def Qkt(C:Ctx)(g:Option (Nat×Bool))(o:SOp)(fr:Fr)(hp:HP)(K:Qg):Prop:=
 match g with
 |none=>opV C o fr hp K
 |some (s,want)=>match fr s with
  |.bool t=>(t=want->opV C o (upd fr s (.bool want)) hp K)/\(t=(!want)->Qej o (upd fr s (.bool !want)) hp K)
  |.tup []=>Qej o fr hp K
  |_=>False
inductive It where
 |c (s:SC)
 |o (r:RT)
 |eb (id:Nat)
 |el (J:Qg)
def RT.sz:RT->Nat
 |.nil=>1
 |.o _ _ r=>r.sz+1
 |.br a b=>a.sz+b.sz+1
 |.wk r=>r.sz+1
def SC.sz:SC->Nat
 |.rg r=>r.sz+1
 |.seq a b=>a.sz+b.sz+1
 |.cond _ a b=>a.sz+b.sz+1
 |.block _ a=>a.sz+2
 |.loop a=>a.sz+2
 |_=>1
def It.sz:It->Nat
 |.c s=>s.sz
 |.o r=>r.sz
 |_=>1
def Qa4:List It->Nat
 | []=>0
 |i::is=>i.sz+Qa4 is
def Qap(id:Nat):List It->Option (List It)
 | []=>none
 |.eb i::sk=>if i=id then some sk else Qap id sk
 |_::sk=>Qap id sk
theorem Qj7(id:Nat):∀(sk sk':List It),FW.Qap id sk=some sk'->Qa4 sk'<=Qa4 sk
 | [],_,h=>by simp[FW.Qap]at h
 |.c s::sk,sk',h=>by have:=Qj7 id sk sk' (by simpa[FW.Qap]using h);simp[Qa4];omega
 |.o s::sk,sk',h=>by have:=Qj7 id sk sk' (by simpa[FW.Qap]using h);simp[Qa4];omega
 |.el s::sk,sk',h=>by have:=Qj7 id sk sk' (by simpa[FW.Qap]using h);simp[Qa4];omega
 |.eb i::sk,sk',h=>by
  simp only[FW.Qap]at h;split at h
  ·cases h;simp[Qa4]
  ·have:=Qj7 id sk sk' h;simp[Qa4];omega
theorem RT.sz_pos(r:RT):0<r.sz:=by cases r<;>simp[RT.sz]
theorem SC.sz_pos(s:SC):0<s.sz:=by cases s<;>simp[SC.sz]
def vc(C:Ctx)(R:Qg)(sk:List It)(fr:Fr)(hp:HP):Prop:=
 match sk with
 | []=>R fr hp
 |.el J::_=>J fr hp
 |.eb _::sk=>vc C R sk fr hp
 |.o .nil::sk=>vc C R sk fr hp
 |.o (.o g o r)::sk=>Qkt C g o fr hp (fun fr hp=>vc C R (.o r::sk) fr hp)
 |.o (.br a b)::sk=>vc C R (.o a::sk) fr hp/\vc C R (.o b::sk) fr hp
 |.o (.wk r)::sk=>∃fr0 hp0,Wk fr hp fr0 hp0/\vc C R (.o r::sk) fr0 hp0
 |.c .skip::sk=>vc C R sk fr hp
 |.c (.rg r)::sk=>vc C R (.o r::sk) fr hp
 |.c (.raw id ops)::sk=>∀tmps w Q,Sim C fr hp tmps w->(∀fr' hp' tmps' w',Sim C fr' hp' tmps' w'->vc C R sk fr' hp'->Q .normal { tmps:=tmps',defers:=[] } w')->(Code.region id ops true).wp C.P Q { tmps:=tmps,defers:=[] } w
 |.c (.seq a b)::sk=>vc C R (.c a:: .c b::sk) fr hp
 |.c (.cond c a b)::sk=>match ev fr c with
  |.bool t=>(t=true->vc C R (.c a::sk) fr hp)/\(t=false->vc C R (.c b::sk) fr hp)
  |_=>False
 |.c (.block id a)::sk=>vc C R (.c a:: .eb id::sk) fr hp
 |.c (.loop a)::sk=>∃(I:Qg)(μ:Fr->HP->Nat),(∃fr0 hp0,Wk fr hp fr0 hp0/\I fr0 hp0)/\∀fr hp,I fr hp->vc C R (.c a:: .el (fun fr' hp'=>∃fr0 hp0,Wk fr' hp' fr0 hp0/\I fr0 hp0/\μ fr0 hp0<μ fr hp)::sk) fr hp
 |.c (.exit id)::sk=>match h:FW.Qap id sk with
  |some sk'=>vc C R sk' fr hp
  |none=>False
 |.c .ret::_=>R fr hp
termination_by Qa4 sk
decreasing_by
 all_goals simp only[Qa4,It.sz,SC.sz,RT.sz]
 all_goals first|omega|(have:=Qj7 _ _ _ h;omega)|skip
variable {C : Ctx} {ρ : Nat -> Option Nat} {fr : Fr} {hp : HP} {tmps : Array Value} {w : World}
theorem Qc5.move{ρ':Nat->Option Nat}{hp':HP}{w':World}{β o n:Nat}{v:Value}(h:Qc5 ρ hp w β o n v)
  (hr:ρ' β=ρ β/\∀hb,hp β=some hb->∃hb',hp' β=some hb'/\hb'.e=hb.e/\hb.xs.length<=hb'.xs.length/\∀b cap,ρ β=some b->Qbj w b hb.e cap->Qbj w' b hb.e cap):Qc5 ρ' hp' w' β o n v:=by
 obtain⟨hb,h2,h3,h4⟩:=h;obtain⟨e1,e2⟩:=hr;obtain⟨hb',h5,h6,h7,h8⟩:=e2 hb h2;refine⟨hb',h5,Nat.le_trans h3 h7,?_⟩;rcases h4 with⟨g1,g2,g3⟩|⟨b,cap,g1,g2,g3,g4⟩
 ·exact .inl ⟨by rw[e1];exact g1,g2,g3⟩
 ·exact .inr ⟨b,cap,by rw[e1];exact g1,by rw[h6];exact g2,by rw[h6];exact h8 b (o+cap) g1 g3,g4⟩
structure Qku(w w':World)(X X':Nat->Prop):Prop where
 blk:∀b,b<w.heap.size->¬X b->w'.heap[b]? =w.heap[b]?
 out:∀b,b<w.heap.size->¬X b->¬X' b
 size:w.heap.size<=w'.heap.size
theorem Qku.rc{w w':World}{X X':Nat->Prop}(h:Qku w w' X X'):∀q u,Qs w X q u->Qs w' X' q u:=fun _ _ hq=>hq.mono h.blk h.out h.size
structure Cnd(ρ ρ':Nat->Option Nat)(hp hp':HP)(w w':World)(β:Nat):Prop where
 r:ρ' β=ρ β
 h:∀hb,hp β=some hb->∃hb',hp' β=some hb'/\hb'.e=hb.e/\hb.xs.length<=hb'.xs.length/\(∀b cap,ρ β=some b->Qbj w b hb.e cap->Qbj w' b hb.e cap)/\(hb.xs=[]->hb'.xs=[]/\hb'.ty=hb.ty/\∀b,ρ β=some b->w'.heap[b]? =w.heap[b]?)
theorem Cnd.o{ρ':Nat->Option Nat}{hp':HP}{w':World}{β:Nat}(h:Cnd ρ ρ' hp hp' w w' β):ρ' β=ρ β/\∀hb,hp β=some hb->∃hb',hp' β=some hb'/\hb'.e=hb.e/\hb.xs.length<=hb'.xs.length/\∀b cap,ρ β=some b->Qbj w b hb.e cap->Qbj w' b hb.e cap:=
 ⟨h.r,fun hb hβ=>let⟨hb',a,b,c,d,_⟩:=h.h hb hβ;⟨hb',a,b,c,d⟩⟩
structure Qwh(ρ ρ':Nat->Option Nat)(hp hp':HP)(w w':World)(β:Nat):Prop where
 r:ρ' β=ρ β
 h:∀hb,hp β=some hb->∃hb',hp' β=some hb'/\hb'.e=hb.e/\hb.xs.length<=hb'.xs.length/\∀b cap,ρ β=some b->Qbj w b hb.e cap->Qbj w' b hb.e cap
theorem Cnd.weak{ρ':Nat->Option Nat}{hp':HP}{w':World}{β:Nat}(h:Cnd ρ ρ' hp hp' w w' β):Qwh ρ ρ' hp hp' w w' β:=⟨h.r,h.o.2⟩
theorem Qje.move{ρ':Nat->Option Nat}{hp':HP}{w':World}{γ o n:Nat}{v:Value}(h:Qje ρ hp w γ o n v)(hr:Qwh ρ ρ' hp hp' w w' γ):Qje ρ' hp' w' γ o n v:=by obtain⟨h0,hb,b,cap,h1,h2,h3,h4,h5,h6⟩:=h;obtain⟨hb',a1,a2,_,a4⟩:=hr.h hb h1;exact⟨h0,hb',b,cap,a1,by rw[hr.r];exact h2,by rw[a2];exact h3,by rw[a2];exact a4 b _ h2 h4,h5,h6⟩
theorem Qbo.move{ρ':Nat->Option Nat}{hp':HP}{w':World}{p:PV}{v:Value}(h:Qbo C ρ hp w p v)(hc:Qku w w' (Xof C ρ hp) (Xof C ρ' hp'))(hs:∀β∈p.sref1,Qwh ρ ρ' hp hp' w w' β):Qbo C ρ' hp' w' p v:=by
 cases p with
 |undef=>trivial
 |mso β o n=>exact⟨h.1,Qc5.move h.2 ⟨(hs β (by simp[PV.sref1])).r,(hs β (by simp[PV.sref1])).h⟩⟩
 |nso γ o n=>exact Qje.move h (hs γ (by simp[PV.sref1]))
 |_=>exact hc.rc _ _ h
theorem Qbp.move{ρ':Nat->Option Nat}{hp':HP}{w':World}{p:PV}{v:Value}(h:Qbp C ρ hp w p v)
  (hc:Qku w w' (Xof C ρ hp) (Xof C ρ' hp'))
  (hr:∀β∈p.ref1,ρ' β=ρ β/\∀hb,hp β=some hb->∃hb',hp' β=some hb'/\hb'.e=hb.e/\hb.xs.length<=hb'.xs.length/\∀b cap,ρ β=some b->Qbj w b hb.e cap->Qbj w' b hb.e cap)
  (hs:∀β∈p.nref1,Qwh ρ ρ' hp hp' w w' β):
  Qbp C ρ' hp' w' p v:=by
 cases p with
 |mp β i o=>obtain⟨b,hb,h1,h2,h3⟩:=h;obtain⟨e1,e2⟩:=hr β (by simp[PV.ref1]);obtain⟨hb',h4,h5,_,_⟩:=e2 hb h2;exact⟨b,hb',by rw[e1];exact h1,h4,by rw[h5];exact h3⟩
 |mso β o n=>exact Qc5.move h (hr β (by simp[PV.ref1]))
 |rb β o n=>obtain⟨b,u,h1,h2,h3,h4,h5⟩:=h;exact⟨b,u,h1,Nat.lt_of_lt_of_le h2 hc.size,hc.out b h2 h3,(Qfk (hc.blk b h2 h3)).trans h4,Qc5.move h5 (hr β (by simp[PV.ref1]))⟩
 |np γ i o=>obtain⟨h0,b,hb,h1,h2,h3⟩:=h;have hq:=hs γ (by simp[PV.nref1]);obtain⟨hb',a1,a2,_⟩:=hq.h hb h2;exact⟨h0,b,hb',by rw[hq.r];exact h1,a1,by rw[a2];exact h3⟩
 |nso γ o n=>exact Qje.move h (hs γ (by simp[PV.nref1]))
 |_=>exact hc.rc _ _ h
theorem Qjf{f:FuncId}{first cap:List PV}{i:Nat}{x:PV}(h:first[i]? =some x):∀β∈x.ref1,β∈(PV.fn f first cap).refs:=by intro β hβ;simp only[PV.refs,List.mem_append,List.mem_flatMap];exact .inl ⟨x,List.mem_of_getElem? h,hβ⟩
theorem Qlw{f:FuncId}{first cap:List PV}{i:Nat}{x:PV}(h:cap[i]? =some x):∀β∈x.ref1,β∈(PV.fn f first cap).refs:=by intro β hβ;simp only[PV.refs,List.mem_append,List.mem_flatMap];exact .inr ⟨x,List.mem_of_getElem? h,hβ⟩
theorem Qco.move{w':World}{X X':Nat->Prop}{p:PV}{v:Value}(h:Qco w X p v)(hc:∀q u,Qs w X q u->Qs w' X' q u):Qco w' X' p v:=by
 have h1:∀p v,Qai w X p v->Qai w' X' p v:=by
  intro p v h;cases p with
  |agg cs=>obtain⟨vs,rfl,h1,h2⟩:=h;exact⟨vs,rfl,h1,fun i x hi=>hc _ _ (h2 i x hi)⟩
  |_=>exact hc _ _ h
 cases p with
 |tup ps=>obtain⟨vs,rfl,g1,g2⟩:=h;exact⟨vs,rfl,g1,fun i x hi=>h1 _ _ (g2 i x hi)⟩
 |agg cs=>exact h1 (.agg cs) v h
 |_=>exact hc _ _ h
theorem Qr.move{ρ':Nat->Option Nat}{hp':HP}{w':World}{p:PV}{v:Value}(h:Qr C ρ hp w p v)
  (hc:Qku w w' (Xof C ρ hp) (Xof C ρ' hp'))
  (hr:∀β∈p.refs,ρ' β=ρ β/\∀hb,hp β=some hb->∃hb',hp' β=some hb'/\hb'.e=hb.e/\hb.xs.length<=hb'.xs.length/\∀b cap,ρ β=some b->Qbj w b hb.e cap->Qbj w' b hb.e cap)
  (hs:∀β∈p.sref,Qwh ρ ρ' hp hp' w w' β) (hn:∀γ e ty xs,p= .nst γ e ty xs->Cnd ρ ρ' hp hp' w w' γ):
  Qr C ρ' hp' w' p v:=by
 cases p with
 |undef=>trivial
 |mp β i o=>exact Qbp.move (p:=.mp β i o) h hc (fun β' hβ'=>hr β' hβ') (fun β hβ=>by cases hβ)
 |mso β o n=>exact Qbp.move (p:=.mso β o n) h hc (fun β' hβ'=>hr β' hβ') (fun β hβ=>by cases hβ)
 |rb β o n=>exact Qbp.move (p:=.rb β o n) h hc (fun β' hβ'=>hr β' hβ') (fun β hβ=>by cases hβ)
 |np γ i o=>exact Qbp.move (p:=.np γ i o) h hc (fun β hβ=>by cases hβ) (fun β' hβ'=>hs β' hβ')
 |nso γ o n=>exact Qbp.move (p:=.nso γ o n) h hc (fun β hβ=>by cases hβ) (fun β' hβ'=>hs β' hβ')
 |rag cs=>obtain⟨vs,rfl,h1,h2⟩:=h;exact⟨vs,rfl,h1,fun i x hi=>(h2 i x hi).move hc (fun β hβ=>hs β (List.mem_flatMap.2 ⟨x,List.mem_of_getElem? hi,hβ⟩))⟩
 |rtp cs=>obtain⟨vs,rfl,h1,h2⟩:=h;exact⟨vs,rfl,h1,fun i x hi=>(h2 i x hi).move hc (fun β hβ=>hs β (List.mem_flatMap.2 ⟨x,List.mem_of_getElem? hi,hβ⟩))⟩
 |rtq cs q=>obtain⟨vs,u,rfl,h1,h2,h3⟩:=h;exact⟨vs,u,rfl,h1,fun i x hi=>(h2 i x hi).move hc (fun β hβ=>hs β (List.mem_flatMap.2 ⟨x,List.mem_of_getElem? hi,hβ⟩)),h3.mono hc.blk hc.out hc.size⟩
 |nst γ e ty xs=>obtain⟨h0,he,b,hb,cur,cap,h1,h2,h3,h4,h5,h6,h7,h8,h9,h10,h11⟩:=h;have hq:=hn γ e ty xs rfl;obtain⟨hb',a1,a2,_,_,a5⟩:=hq.h hb h2;obtain⟨a5,a6,a7⟩:=a5 h3;refine⟨h0,he,b,hb',cur,cap,by rw[hq.r];exact h1,a1,a5,by rw[a2];exact h4,by rw[a6];exact h5,by rw[a7 b h1];exact h6,h7,h8,h9,h10,fun i x hi j y hy=>(h11 i x hi j y hy).move hc (fun β hβ=>hs β ?_)⟩;refine List.mem_cons_of_mem _ (List.mem_flatMap.2 ⟨x,List.mem_of_getElem? hi,List.mem_flatMap.2 ⟨y,List.mem_of_getElem? hy,hβ⟩⟩)
 | fn f first cap=>
  obtain⟨fv,cv,rfl,h1,h2,h3,h4⟩:=h;exact⟨fv,cv,rfl,h1,h2,fun i x hi=>(h3 i x hi).move hc (fun β hβ=>hr β (Qjf hi β hβ)) (fun β hβ=>hs β (List.mem_append.2 (.inl (List.mem_flatMap.2 ⟨x,List.mem_of_getElem? hi,hβ⟩)))),
   fun i x hi=>(h4 i x hi).move hc (fun β hβ=>hr β (Qlw hi β hβ)) (fun β hβ=>hs β (List.mem_append.2 (.inr (List.mem_flatMap.2 ⟨x,List.mem_of_getElem? hi,hβ⟩))))⟩
 |agg cs=>exact Qco.move (p:=.agg cs) h hc.rc
 |tup cs=>exact Qco.move (p:=.tup cs) h hc.rc
 |_=>exact hc.rc _ _ h
theorem Qr.moveC{ρ':Nat->Option Nat}{hp':HP}{w':World}{p:PV}{v:Value}(h:Qr C ρ hp w p v)
  (hc:Qku w w' (Xof C ρ hp) (Xof C ρ' hp'))
  (hr:∀β∈p.refs,ρ' β=ρ β/\∀hb,hp β=some hb->∃hb',hp' β=some hb'/\hb'.e=hb.e/\hb.xs.length<=hb'.xs.length/\∀b cap,ρ β=some b->Qbj w b hb.e cap->Qbj w' b hb.e cap)
  (hs:∀β∈p.sref,Cnd ρ ρ' hp hp' w w' β):Qr C ρ' hp' w' p v:=
 h.move hc hr (fun β hβ=>(hs β hβ).weak) (fun γ e ty xs e1=>hs γ (by rw[e1];simp[PV.sref]))
theorem Qb7{w w':World}{b e cap:Nat}(h:w'.heap[b]? =w.heap[b]?)(hc:Qbj w b e cap):Qbj w' b e cap:=by obtain⟨cur,ty,h1,h2⟩:=hc;exact⟨cur,ty,by rw[h];exact h1,h2⟩
theorem Qdj{w:World}{b e cap:Nat}(hc:Qbj w b e cap):b<w.heap.size:=by obtain⟨cur,ty,h1,_⟩:=hc;exact(Array.getElem?_eq_some_iff.1 h1).1
theorem Qwg.move{w w':World}{X X':Nat->Prop}{b:Nat}{hb hb':HB}(h:Qwg w X b hb)(hh:w'.heap[b]? =w.heap[b]?)(e1:hb'.e=hb.e)(e2:hb'.ty=hb.ty)(e3:hb'.xs=hb.xs)
  (hc:∀q u,Qs w X q u->Qs w' X' q u):Qwg w' X' b hb':=by
 obtain⟨cur,cap,h1,h2,h3,h4,h5⟩:=h;exact⟨cur,cap,by rw[hh,e2];exact h1,by rw[e1];exact h2,by rw[e3];exact h3,h4,fun i x hi j y hy=>by rw[e1];exact hc _ _ (h5 i x (by rw[<-e3];exact hi) j y hy)⟩
theorem Q9.upd(h:Q9 C ρ fr hp tmps w){d:Nat}{p:PV}{v:Value}(hv:Qr C ρ hp w p v)(hd:d<C.N):Q9 C ρ (upd fr d p) hp (tmps.setIfInBounds d v) w:=by
 refine⟨by simpa using h.sz,h.ext,h.keep,h.own,h.inj,fun i=>?_⟩;unfold FW.upd;split
 ·rename_i he;subst he;simpa[Array.getD,h.sz,hd]using hv
 ·rename_i he;have:(tmps.setIfInBounds d v).getD i undef=tmps.getD i undef:=by simp only[Array.getD_eq_getD_getElem?];rw[Array.getElem?_setIfInBounds_ne (fun e=>he e.symm)]
  rw[this];exact h.slots i
theorem Qog{l:List Nat}{b:Nat}(h:Xof C ρ (Qaj hp l) b):Xof C ρ hp b:=by
 rcases h with h|⟨β,hb,h1,h2,h3⟩
 ·exact .inl h
 ·refine .inr ⟨β,hb,?_,h2,h3⟩;unfold Qaj at h1;split at h1
  ·cases hq:hp β with
   |none=>simp[hq]at h1
   |some hb0=>simp[hq]at h1;subst h1;simp at h2
  ·exact h1
theorem Qjv{l:List Nat}{β:Nat}{hb:HB}(h:hp β=some hb):∃hb',Qaj hp l β=some hb'/\hb'.e=hb.e/\hb'.ty=hb.ty/\hb'.xs=hb.xs/\(hb'.fz=false->hb'=hb)/\(hb'.fz=false->β ∉ l):=by
 unfold Qaj;by_cases hl:l.contains β=true
 ·rw[if_pos hl,h];exact⟨_,rfl,rfl,rfl,rfl,by simp,by simp⟩
 ·rw[if_neg hl,h];exact⟨hb,rfl,rfl,rfl,rfl,fun _=>rfl,fun _=>by simpa using hl⟩
theorem Qhu{l:List Nat}{β:Nat}{hb':HB}(h:Qaj hp l β=some hb'):∃hb,hp β=some hb/\hb'.e=hb.e/\hb'.ty=hb.ty/\hb'.xs=hb.xs/\(hb'.fz=false->hb'=hb)/\(hb'.fz=false->β ∉ l):=by
 cases hq:hp β with
 |none=>unfold Qaj at h;split at h<;>simp[hq]at h
 |some hb=>obtain⟨hb2,g1,g2⟩:=Qjv (l:=l) hq;rw[g1]at h;cases h;exact⟨hb,rfl,g2⟩
theorem Qs.freeze{l:List Nat}{q:PV}{u:Value}(h:Qs w (Xof C ρ hp) q u):Qs w (Xof C ρ (Qaj hp l)) q u:=
 h.mono (fun _ _ _=>rfl) (fun _ _ hn hx=>hn (Qog hx)) (Nat.le_refl _)
theorem Q9.freeze(h:Q9 C ρ fr hp tmps w)(l:List Nat):Q9 C ρ fr (Qaj hp l) tmps w:=by
 refine⟨h.sz,h.ext,h.keep,fun β hb' hβ=>?_,fun β γ b h1 h2 h3 h4=>?_,fun i=>?_⟩
 ·obtain⟨hb,g1,g2,g3,g4,g5,_⟩:=Qhu hβ;obtain⟨p1,p2,p3,p4,p5⟩:=h.own β hb g1;refine⟨by rw[g2];exact p1,fun i x hi=>by rw[g2];exact p2 i x (by rw[<-g4];exact hi),?_,p4,fun hq=>by
   cases hz:hb'.fz with
   |true=>rfl
   |false=>rw[<-g5 hz,hz]at p5;cases p5 hq⟩
  cases hρ:ρ β with
  |none=>rw[hρ]at p3;simp only at p3 ⊢;rw[g4];exact p3
  |some b=>rw[hρ]at p3;simp only at p3 ⊢;exact⟨p3.1,p3.2.1,p3.2.2.move rfl g2 g3 g4 (fun q u hq=>hq.freeze)⟩
 ·have f1:∀γ,FW.Qaj hp l γ≠none->hp γ≠none:=fun γ hn=>by
   cases hq:hp γ with
   |none=>unfold FW.Qaj at hn;split at hn<;>simp[hq]at hn
   |some _=>simp
  exact h.inj β γ b (f1 β h1) (f1 γ h2) h3 h4
 ·refine(h.slots i).moveC ⟨fun _ _ _=>rfl,fun _ _ hn hx=>hn (Qog hx),Nat.le_refl _⟩ (fun β _=>⟨rfl,fun hb hβ=>by
  obtain⟨hb',g1,g2,_,g4,_⟩:=Qjv (l:=l) hβ;exact⟨hb',g1,g2,by rw[g4];exact Nat.le_refl _,fun b cap _ hc=>hc⟩⟩) (fun β _=>⟨rfl,fun hb hβ=>by
  obtain⟨hb',g1,g2,g3,g4,_⟩:=Qjv (l:=l) hβ;exact⟨hb',g1,g2,by rw[g4];exact Nat.le_refl _,fun b cap _ hc=>hc,fun he=>⟨by rw[g4];exact he,g3,fun _ _=>rfl⟩⟩⟩)
theorem Q9.grow{w':World}(h:Q9 C ρ fr hp tmps w)(hx:Ext Qaw w w'):Q9 C ρ fr hp tmps w':=by
 have hc':Qku w w' (Xof C ρ hp) (Xof C ρ hp):=⟨fun b hb _=>hx.block b hb (fun h=>h),fun _ _ hn=>hn,hx.size⟩
 have hc:=hc'.rc;refine⟨h.sz,h.ext.trans' hx (fun _ _ h=>h.elim),fun b0 b hb e cap hc=>Qb7 (hx.block b (Qdj (h.keep b0 b hb e cap hc)) (fun h=>h)) (h.keep b0 b hb e cap hc),fun β hb hβ=>?_,h.inj,fun i=>?_⟩
 ·obtain⟨p1,p2,p3,p4,p5⟩:=h.own β hb hβ;refine⟨p1,p2,?_,p4,p5⟩;cases hρ:ρ β with
  |none=>rw[hρ]at p3;exact p3
  |some b=>rw[hρ]at p3;exact⟨p3.1,Nat.lt_of_lt_of_le p3.2.1 hx.size,p3.2.2.move (hx.block b p3.2.1 (fun h=>h)) rfl rfl rfl hc⟩
 ·exact(h.slots i).moveC hc' (fun β _=>⟨rfl,fun hb hβ=>⟨hb,hβ,rfl,Nat.le_refl _,fun b cap _ hcap=>Qb7 (hx.block b (Qdj hcap) (fun h=>h)) hcap⟩⟩)
   (fun β _=>⟨rfl,fun hb hβ=>⟨hb,hβ,rfl,Nat.le_refl _,fun b cap _ hcap=>Qb7 (hx.block b (Qdj hcap) (fun h=>h)) hcap,fun he=>⟨he,rfl,fun b hρ=>hx.block b (by have:=(h.own β hb hβ).blk;rw[hρ]at this;exact this.2.1) (fun h=>h)⟩⟩⟩)
theorem Qt4{β:Nat}{p:PV}:∀γ∈(Qaq β p).refs,γ≠β/\γ∈p.refs:=by
 intro γ hγ;unfold Qaq at hγ;split at hγ
 ·simp[PV.refs]at hγ
 ·rename_i hn;refine⟨fun he=>hn (by subst he;simpa using hγ),hγ⟩
theorem Qr.kill{β:Nat}{p:PV}{v:Value}(h:Qr C ρ hp w p v):Qr C ρ hp w (Qaq β p) v:=by
 unfold Qaq;split
 ·trivial
 ·exact h
theorem Qbo.srefB{p:PV}{v:Value}(h:Qbo C ρ hp w p v):∀γ∈p.sref1,isB γ=true:=by
 intro γ hγ;cases p with
 |mso β o n=>simp[PV.sref1]at hγ;subst hγ;exact h.1
 |nso β o n=>simp[PV.sref1]at hγ;subst hγ;exact h.1
 |np β o n=>cases h
 |_=>cases hγ
theorem Qbp.nrefB{p:PV}{v:Value}(h:Qbp C ρ hp w p v):∀γ∈p.nref1,isB γ=true:=by
 intro γ hγ;cases p with
 |nso β o n=>simp[PV.nref1]at hγ;subst hγ;exact h.1
 |np β o n=>simp[PV.nref1]at hγ;subst hγ;exact h.1
 |_=>cases hγ
theorem Qr.srefB{p:PV}{v:Value}(h:Qr C ρ hp w p v):∀γ∈p.sref,isB γ=true:=by
 intro γ hγ;cases p with
 |nso β o n=>simp[PV.sref]at hγ;subst hγ;exact h.1
 |np β o n=>simp[PV.sref]at hγ;subst hγ;exact h.1
 |rag cs=>obtain⟨vs,_,_,h2⟩:=h;obtain⟨x,hx,hγ⟩:=List.mem_flatMap.1 hγ;obtain⟨i,hi⟩:=List.getElem?_of_mem hx;exact(h2 i x hi).srefB γ hγ
 |rtp cs=>obtain⟨vs,_,_,h2⟩:=h;obtain⟨x,hx,hγ⟩:=List.mem_flatMap.1 hγ;obtain⟨i,hi⟩:=List.getElem?_of_mem hx;exact(h2 i x hi).srefB γ hγ
 |rtq cs q=>obtain⟨vs,u,_,_,h2,_⟩:=h;obtain⟨x,hx,hγ⟩:=List.mem_flatMap.1 hγ;obtain⟨i,hi⟩:=List.getElem?_of_mem hx;exact(h2 i x hi).srefB γ hγ
 | nst β e ty xs=>
  obtain⟨h0,_,b,hb,cur,cap,_,_,_,_,_,_,_,_,_,_,h11⟩:=h;rcases List.mem_cons.1 hγ with rfl|hγ
  ·exact h0
  ·obtain⟨x,hx,hγ⟩:=List.mem_flatMap.1 hγ;obtain⟨y,hy,hγ⟩:=List.mem_flatMap.1 hγ;obtain⟨i,hi⟩:=List.getElem?_of_mem hx;obtain⟨j,hj⟩:=List.getElem?_of_mem hy;exact(h11 i x hi j y hj).srefB γ hγ
 | fn f first cap=>
  obtain⟨fv,cv,_,_,_,h3,h4⟩:=h;rcases List.mem_append.1 hγ with hγ|hγ
  ·obtain⟨x,hx,hγ⟩:=List.mem_flatMap.1 hγ;obtain⟨i,hi⟩:=List.getElem?_of_mem hx;exact(h3 i x hi).nrefB γ hγ
  ·obtain⟨x,hx,hγ⟩:=List.mem_flatMap.1 hγ;obtain⟨i,hi⟩:=List.getElem?_of_mem hx;exact(h4 i x hi).nrefB γ hγ
 |_=>cases hγ
def rb(ρ:Nat->Option Nat)(β:Nat)(b':Option Nat):Nat->Option Nat:=fun γ=>if γ=β then b' else ρ γ
theorem Qb0(ρ:Nat->Option Nat)(β:Nat)(b':Option Nat):rb ρ β b' β=b':=by simp[rb]
theorem Qhx{ρ:Nat->Option Nat}{β γ:Nat}{b':Option Nat}(h:γ≠β):rb ρ β b' γ=ρ γ:=by simp[rb,h]
def Qwi(C:Ctx)(ρ:Nat->Option Nat)(hp:HP)(w:World)(β:Nat)(fr fr':Fr):Prop:=∀(i:Nat)(v:Value),Qr C ρ hp w (fr i) v->Qr C ρ hp w (fr' i) v/\(∀γ∈(fr' i).refs,γ≠β)/\∀γ∈(fr' i).sref,γ≠β
theorem Qmn{β:Nat}(hB:isB β=false):Qwi C ρ hp w β fr (Qa2 β fr):=fun i v h=>by have hk:=Qr.kill (β:=β) h;exact⟨hk,fun γ hγ=>(Qt4 γ hγ).1,fun γ hγ e=>by have:=hk.srefB γ hγ;rw[e,hB]at this;cases this⟩
theorem Q9.rebindG{w':World}{fr':Fr}(h:Q9 C ρ fr hp tmps w)(β:Nat)(b':Option Nat)(hb':HB)(hB:isY β=false)(hgone:Qwi C ρ hp w β fr fr')
  (hx:Ext (fun b=>ρ β=some b/\∃hb,hp β=some hb/\hb.fz=false) w w')
  (hnew:∀c,b'=some c->(C.w0.heap.size<=c∨C.Z0 c)/\c<w'.heap.size/\(w.heap.size<=c∨(ρ β=some c/\∃hb,hp β=some hb/\hb.fz=false)))
  (he:0<hb'.e) (hl:∀(i:Nat)(x:PV),hb'.xs[i]? =some x->x.cells.length=hb'.e/\x.isData=true)
  (hbn:b'=none->hb'.xs=[]) (hblk:∀c,b'=some c->∃(cur:Array Value) (cap:Nat),w'.heap[c]? =some (.cells cur hb'.ty (0,0))/\cur.size=cap*hb'.e/\hb'.xs.length<=cap/\cap<=maxLen/\
   ∀(i:Nat)(x:PV),hb'.xs[i]? =some x->∀(j:Nat)(y:PV),x.cells[j]? =some y->Qs w (Xof C ρ hp) y (cur.getD (i*hb'.e+j) undef)):
  Q9 C (rb ρ β b') fr' (Qv hp β hb') tmps w':=by
 have hX:∀b,b<w.heap.size->¬Xof C ρ hp b->¬Xof C (rb ρ β b') (Qv hp β hb') b:=by
  intro b hb hn hx';rcases hx' with hx'|⟨γ,hg,h1,h2,h3⟩
  ·exact hn (.inl hx')
  ·unfold Qv at h1;by_cases hγ:γ=β
   ·subst hγ;rw[Qb0]at h3;obtain⟨_,_,h4|⟨h5,hb0,h6,h7⟩⟩:=hnew b h3
    ·omega
    ·exact hn (.inr ⟨γ,hb0,h6,h7,h5⟩)
   ·rw[if_neg hγ]at h1;rw[Qhx hγ]at h3;exact hn (.inr ⟨γ,hg,h1,h2,h3⟩)
 have hc':Qku w w' (Xof C ρ hp) (Xof C (rb ρ β b') (Qv hp β hb')):=
  ⟨fun b hb hn=>hx.block b hb (fun⟨e1,hb0,e2,e3⟩=>hn (.inr ⟨β,hb0,e2,e3,e1⟩)),hX,hx.size⟩
 have hc:=hc'.rc;have hold:∀b,ρ β=some b->(∃hb,hp β=some hb/\hb.fz=false)->C.w0.heap.size<=b∨C.Z0 b:=by intro b e1 ⟨hb0,e2,e3⟩;have:=(h.own β hb0 e2).blk;rw[e1]at this;exact Ctx.cls_N this.1 hB
 have hext:Ext C.Y0 C.w0 w':=by refine h.ext.trans' (Y':=fun b=>ρ β=some b/\∃hb,hp β=some hb/\hb.fz=false) hx ?_;intro b hb ⟨e1,e2⟩;exact(Ctx.N_Y (hold b e1 e2)).resolve_left (by omega)
 have hkeep:∀β b,C.fx β=some b->∀e cap,Qbj C.w0 b e cap->Qbj w' b e cap:=fun b0 b hb e cap hc'=>by have h1:=h.keep b0 b hb e cap hc';refine Qb7 (hx.block b (Qdj h1) ?_) h1;intro⟨e1,e2⟩;exact Ctx.N_fx (hold b e1 e2) hb
 refine⟨h.sz,hext,hkeep,fun γ hg hγ=>?_,fun γ δ b h1 h2 h3 h4=>?_,fun i=>?_⟩
 ·unfold Qv at hγ;by_cases hγβ:γ=β
  ·rw[if_pos hγβ]at hγ;cases hγ;subst hγβ;refine⟨he,hl,?_,(fun hq=>by rw[hB]at hq;cases hq),fun hq=>by rw[Qt1 hB]at hq;cases hq⟩;rw[Qb0];cases b' with
   |none=>exact hbn rfl
   |some c=>obtain⟨cur,cap,c1,c2,c3,c4,c5⟩:=hblk c rfl;exact⟨Ctx.cls_mk (hnew c rfl).1 hB,(hnew c rfl).2.1,cur,cap,c1,c2,c3,c4,fun i x hi j y hy=>hc _ _ (c5 i x hi j y hy)⟩
  ·rw[if_neg hγβ]at hγ;obtain⟨p1,p2,p3,p4,p5⟩:=h.own γ hg hγ;refine⟨p1,p2,?_,(fun hq=>by rw[Qhx hγβ];exact p4 hq),p5⟩;rw[Qhx hγβ];cases hρ:ρ γ with
   |none=>rw[hρ]at p3;exact p3
   |some b=>rw[hρ]at p3;refine⟨p3.1,Nat.lt_of_lt_of_le p3.2.1 hx.size,p3.2.2.move (hx.block b p3.2.1 ?_) rfl rfl rfl hc⟩;intro⟨e1,hb0,e2,_⟩;exact hγβ (h.inj γ β b (by simp[hγ]) (by simp[e2]) hρ e1)
 ·
  have key:∀γ b,γ≠β->hp γ≠none->ρ γ=some b->b'=some b->False:=by
   intro γ b hne hs hr hb;obtain⟨_,_,h4|⟨h5,hb0,h6,h7⟩⟩:=hnew b hb
   ·cases hq:hp γ with
    |none=>exact hs hq
    |some hg=>have:=(h.own γ hg hq).blk;rw[hr]at this;omega
   ·exact hne (h.inj γ β b hs (by simp[h6]) hr h5)
  unfold Qv at h1 h2;by_cases hγ:γ=β<;>by_cases hδ:δ=β
  ·rw[hγ,hδ]
  ·subst hγ;rw[Qb0]at h3;rw[Qhx hδ]at h4;rw[if_neg hδ]at h2;exact(key δ b hδ h2 h4 h3).elim
  ·subst hδ;rw[Qb0]at h4;rw[Qhx hγ]at h3;rw[if_neg hγ]at h1;exact(key γ b hγ h1 h3 h4).elim
  ·rw[Qhx hγ]at h3;rw[Qhx hδ]at h4;rw[if_neg hγ]at h1;rw[if_neg hδ]at h2;exact h.inj γ δ b h1 h2 h3 h4
 ·obtain⟨hk,hk1,hk2⟩:=hgone i _ (h.slots i);refine hk.moveC hc' (fun γ hγ=>?_) (fun γ hγ=>?_)
  ·have hne:=hk1 γ hγ;refine⟨Qhx hne,fun hg hhg=>⟨hg,by simp[Qv,hne,hhg],rfl,Nat.le_refl _,fun b cap hρ hcap=>Qb7 (hx.block b (Qdj hcap) ?_) hcap⟩⟩;intro⟨e1,hb0,e2,_⟩;exact hne (h.inj γ β b (by simp[hhg]) (by simp[e2]) hρ e1)
  ·have hne:=hk2 γ hγ;have hun:∀b hg,hp γ=some hg->ρ γ=some b->¬(ρ β=some b/\∃hb,hp β=some hb/\hb.fz=false):=fun b hg hhg hρ ⟨e1,hb0,e2,_⟩=>hne (h.inj γ β b (by simp[hhg]) (by simp[e2]) hρ e1);refine⟨Qhx hne,fun hg hhg=>⟨hg,by simp[Qv,hne,hhg],rfl,Nat.le_refl _,fun b cap hρ hcap=>Qb7 (hx.block b (Qdj hcap) (hun b hg hhg hρ)) hcap,fun he=>⟨he,rfl,fun b hρ=>hx.block b ?_ (hun b hg hhg hρ)⟩⟩⟩;have:=(h.own γ hg hhg).blk;rw[hρ]at this;exact this.2.1
theorem Q9.rebind{w':World}(h:Q9 C ρ fr hp tmps w)(β:Nat)(b':Option Nat)(hb':HB)(hB:isB β=false)
  (hx:Ext (fun b=>ρ β=some b/\∃hb,hp β=some hb/\hb.fz=false) w w')
  (hnew:∀c,b'=some c->(C.w0.heap.size<=c∨C.Z0 c)/\c<w'.heap.size/\(w.heap.size<=c∨(ρ β=some c/\∃hb,hp β=some hb/\hb.fz=false)))
  (he:0<hb'.e) (hl:∀(i:Nat)(x:PV),hb'.xs[i]? =some x->x.cells.length=hb'.e/\x.isData=true)
  (hbn:b'=none->hb'.xs=[]) (hblk:∀c,b'=some c->∃(cur:Array Value) (cap:Nat),w'.heap[c]? =some (.cells cur hb'.ty (0,0))/\cur.size=cap*hb'.e/\hb'.xs.length<=cap/\cap<=maxLen/\
   ∀(i:Nat)(x:PV),hb'.xs[i]? =some x->∀(j:Nat)(y:PV),x.cells[j]? =some y->Qs w (Xof C ρ hp) y (cur.getD (i*hb'.e+j) undef)):
  Q9 C (rb ρ β b') (Qa2 β fr) (Qv hp β hb') tmps w':=h.rebindG β b' hb' (Qlu hB) (Qmn hB) hx hnew he hl hbn hblk
theorem Q9.store{w':World}(h:Q9 C ρ fr hp tmps w)(β b:Nat)(hb hb':HB)(hβ:hp β=some hb)(hfz:hb.fz=false)(hne:hb.xs≠[])(hρ:ρ β=some b)
  (hx:Ext (fun c=>c=b) w w') (e1:hb'.e=hb.e) (e3:hb'.xs.length=hb.xs.length) (e4:hb'.fz=false)
  (hl:∀(i:Nat)(x:PV),hb'.xs[i]? =some x->x.cells.length=hb'.e/\x.isData=true)
  (hcap:∀e cap,Qbj w b e cap->Qbj w' b e cap)
  (hblk:∃(cur:Array Value) (cap:Nat),w'.heap[b]? =some (.cells cur hb'.ty (0,0))/\cur.size=cap*hb'.e/\hb'.xs.length<=cap/\cap<=maxLen/\
   ∀(i:Nat)(x:PV),hb'.xs[i]? =some x->∀(j:Nat)(y:PV),x.cells[j]? =some y->Qs w (Xof C ρ hp) y (cur.getD (i*hb'.e+j) undef)):Q9 C ρ fr (Qv hp β hb') tmps w':=by
 have hXe:∀c,Xof C ρ (Qv hp β hb') c↔Xof C ρ hp c:=by
  intro c;constructor
  ·rintro(hx|⟨γ,hg,h1,h2,h3⟩)
   ·exact .inl hx
   ·unfold Qv at h1;by_cases hγ:γ=β
    ·subst hγ;exact .inr ⟨γ,hb,hβ,hfz,h3⟩
    ·rw[if_neg hγ]at h1;exact .inr ⟨γ,hg,h1,h2,h3⟩
  ·rintro(hx|⟨γ,hg,h1,h2,h3⟩)
   ·exact .inl hx
   ·by_cases hγ:γ=β
    ·subst hγ;exact .inr ⟨γ,hb',by simp[Qv],e4,h3⟩
    ·exact .inr ⟨γ,hg,by simp[Qv,hγ,h1],h2,h3⟩
 have hXf:Xof C ρ (Qv hp β hb')=Xof C ρ hp:=funext fun c=>propext (hXe c);have hbX:Xof C ρ hp b:=.inr ⟨β,hb,hβ,hfz,hρ⟩;have hnr:isR β=false:=by
  cases hq:isR β with
  |false=>rfl
  |true=>have:=(h.own β hb hβ).ro hq;rw[hfz]at this;cases this
 have hc':Qku w w' (Xof C ρ hp) (Xof C ρ (Qv hp β hb')):=by rw[hXf];exact⟨fun c hc hn=>hx.block c hc (fun e=>hn (e▸hbX)),fun _ _ hn=>hn,hx.size⟩
 have hc:=hc'.rc;have hown:=(h.own β hb hβ).blk;rw[hρ]at hown;have hext:Ext C.Y0 C.w0 w':=by refine h.ext.trans' (Y':=fun c=>c=b) hx ?_;intro c hc he;subst he;exact(Ctx.cls_or hown.1 hnr).resolve_left (by omega)
 have hkeep:∀β c,C.fx β=some c->∀e cap,Qbj C.w0 c e cap->Qbj w' c e cap:=fun b0 c hc' e cap hcc=>by
  have h1:=h.keep b0 c hc' e cap hcc;by_cases hcb:c=b
  ·subst hcb;exact hcap e cap h1
  ·exact Qb7 (hx.block c (Qdj h1) hcb) h1
 refine⟨h.sz,hext,hkeep,fun γ hg hγ=>?_,fun γ δ c h1 h2 h3 h4=>?_,fun i=>?_⟩
 ·unfold Qv at hγ;by_cases hγβ:γ=β
  ·subst hγβ;rw[if_pos rfl]at hγ;cases hγ;refine⟨by rw[e1];exact(h.own γ hb hβ).epos,hl,?_,(h.own γ hb hβ).fix,fun hq=>by rw[hnr]at hq;cases hq⟩;rw[hρ];obtain⟨cur,cap,c1,c2,c3,c4,c5⟩:=hblk;exact⟨hown.1,Nat.lt_of_lt_of_le hown.2.1 hx.size,cur,cap,c1,c2,c3,c4,fun i x hi j y hy=>hc _ _ (c5 i x hi j y hy)⟩
  ·rw[if_neg hγβ]at hγ;obtain⟨p1,p2,p3,p4,p5⟩:=h.own γ hg hγ;refine⟨p1,p2,?_,p4,p5⟩;cases hr:ρ γ with
   |none=>rw[hr]at p3;exact p3
   |some c=>rw[hr]at p3;exact⟨p3.1,Nat.lt_of_lt_of_le p3.2.1 hx.size,p3.2.2.move (hx.block c p3.2.1 (fun e=>hγβ (h.inj γ β b (by simp[hγ]) (by simp[hβ]) (e▸hr) hρ))) rfl rfl rfl hc⟩
 ·have f1:∀γ,Qv hp β hb' γ≠none->hp γ≠none:=fun γ hn=>by
   unfold Qv at hn;by_cases hγ:γ=β
   ·subst hγ;simp[hβ]
   ·rwa[if_neg hγ]at hn
  exact h.inj γ δ c (f1 γ h1) (f1 δ h2) h3 h4
 ·have key:∀γ,Cnd ρ ρ hp (Qv hp β hb') w w' γ:=fun γ=>⟨rfl,fun hg hhg=>by
   by_cases hγ:γ=β
   ·subst hγ;rw[hβ]at hhg;cases hhg;exact⟨hb',by simp[Qv],e1,by rw[e3];exact Nat.le_refl _,fun c cap hr hcc=>by rw[hρ]at hr;cases hr;exact hcap _ cap hcc,fun he=>absurd he hne⟩
   ·have hun:∀c,ρ γ=some c->¬c=b:=fun c hr e=>hγ (h.inj γ β b (by simp[hhg]) (by simp[hβ]) (e▸hr) hρ);refine⟨hg,by simp[Qv,hγ,hhg],rfl,Nat.le_refl _,fun c cap hr hcc=>Qb7 (hx.block c (Qdj hcc) (hun c hr)) hcc,fun he=>⟨he,rfl,fun c hr=>hx.block c ?_ (hun c hr)⟩⟩;have:=(h.own γ hg hhg).blk;rw[hr]at this;exact this.2.1⟩
  exact(h.slots i).moveC hc' (fun γ _=>(key γ).o) (fun γ _=>key γ)
end Go.FW
namespace Go.FW
open Go
variable {C : Ctx} {ρ : Nat -> Option Nat} {fr : Fr} {hp : HP} {w : World} {a : Act} {K : Qg}
theorem Qqa{X:Nat->Prop}{v:Value}{p:PV}(h:Qlr v=some p):Qs w X p v:=by unfold Qlr at h;split at h<;>simp at h<;>subst h<;>constructor
theorem Qdq{α β:Type}{f:α->Option β}:∀ {l:List α} {r:List β},l.mapM f=some r->r.length=l.length/\∀(i:Nat)(y:β),r[i]? =some y->∃x,l[i]? =some x/\f x=some y
 | [],r,h=>by simp at h;subst h;simp
 |x::l,r,h=>by
  rw[List.mapM_cons]at h;simp only[Option.bind_eq_bind,Option.pure_def,Option.bind_eq_some_iff,Option.some.injEq]at h;obtain⟨y,hy,r',hr,rfl⟩:=h;obtain⟨h1,h2⟩:=Qdq hr;refine⟨by simp[h1],fun i z hz=>?_⟩;cases i with
  |zero=>simp at hz;subst hz;exact⟨x,by simp,hy⟩
  |succ i=>simp at hz;simpa using h2 i z hz
theorem Qjw(cs:Array Value)(i:Nat)(x:Value)(h:cs.toList[i]? =some x):cs.getD i undef=x:=by simp only[Array.getElem?_toList]at h;simp[Array.getD_eq_getD_getElem?,h]
theorem Qd1{X:Nat->Prop}{v:Value}{p:PV}(h:Qhb v=some p):Qai w X p v:=by
 unfold Qhb at h;split at h
 ·rename_i cs;simp only[Option.map_eq_some_iff]at h;obtain⟨l,h1,rfl⟩:=h;obtain⟨g1,g2⟩:=Qdq h1;refine⟨cs,rfl,by simpa using g1.symm,fun i x hx=>?_⟩;obtain⟨u,hu,hc⟩:=g2 i x hx;rw[Qjw cs i u hu];exact Qqa hc
 ·exact Qai.of_c (Qqa h)
theorem Qim{v:Value}{p:PV}(h:Qhb v=some p):p.isData=true/\p.refs=[]/\(∀f first cap,p≠ .fn f first cap):=by
 unfold Qhb at h;split at h
 ·simp only[Option.map_eq_some_iff]at h;obtain⟨l,h1,rfl⟩:=h;simp[PV.isData,PV.refs]
 ·unfold Qlr at h;split at h<;>simp at h<;>subst h<;>simp[PV.isData,PV.refs]
theorem Qr.ofV1{p:PV}{v:Value}(h:Qai w (Xof C ρ hp) p v)(hn:∀f first cap,p≠ .fn f first cap):Qr C ρ hp w p v:=by
 cases p with
 |fn f first cap=>exact absurd rfl (hn _ _ _)
 |undef=>trivial
 |mp=>cases h
 |mso=>cases h
 |rb=>cases h
 |nso=>cases h
 |np=>cases h
 |rag=>cases h
 |rtp=>cases h
 |rtq=>cases h
 |nst=>cases h
 |tup=>cases h
 |agg cs=>exact h
 |_=>exact h
theorem Qr.ofData{p:PV}{v:Value}(h:Qai w (Xof C ρ hp) p v):Qr C ρ hp w p v:=by
 by_cases hf:∃f first cap,p= .fn f first cap
 ·obtain⟨f,first,cap,rfl⟩:=hf;cases h with
  |fn _ _ _ fv cv h1 h2 h3 h4=>
   refine⟨fv,cv,rfl,h1,h2,fun i x hi=>?_,fun i x hi=>?_⟩
   ·have:=h3 i x hi;cases x<;>first|exact this|cases this
   ·have:=h4 i x hi;cases x<;>first|exact this|cases this
 ·exact Qr.ofV1 h (fun f first cap e=>hf ⟨f,first,cap,e⟩)
theorem Qar{x:Operand}{y:Opd}(h:Q9 C ρ fr hp a.tmps w)(ho:opd x=some y):Qr C ρ hp w (ev fr y) (a.eval x):=by
 cases x with
 |tmp t=>simp[opd]at ho;subst ho;exact h.slots t
 |const v=>simp only[opd,Option.map_eq_some_iff]at ho;obtain⟨p,hp',rfl⟩:=ho;exact Qr.ofV1 (Qd1 hp') (Qim hp').2.2
 |global g=>simp[opd]at ho
 |func f=>simp[opd]at ho;subst ho;exact⟨#[],#[],rfl,rfl,rfl,by simp,by simp⟩
theorem Qr.int_inv{k:IntKind}{n:Int}{v:Value}(h:Qr C ρ hp w (.int k n) v):v= .int k n:=by cases h;rfl
theorem Qr.bool_inv{b:Bool}{v:Value}(h:Qr C ρ hp w (.bool b) v):v= .bool b:=by cases h;rfl
theorem Qr.nil_inv{v:Value}(h:Qr C ρ hp w .nilS v):v= .slice none 0 0:=by cases h;rfl
theorem Qr.mkInt(k:IntKind)(n:Int):Qr C ρ hp w (.int k n) (.int k n):=Qs.int k n
theorem Qr.mkBool(b:Bool):Qr C ρ hp w (.bool b) (.bool b):=Qs.bool b
theorem Qr.tup0:Qr C ρ hp w (.tup []) undef:=⟨#[],rfl,rfl,by simp⟩
def Qac(C:Ctx)(ρ:Nat->Option Nat)(o:Oper)(a:Act)(w:World)(K:Qg):Prop:=
 ∃v,(∀w',(execOp a.eval o).run C.P w'= .ok (.value v) w')/\∃fr' hp',Q9 C ρ fr' hp' (a.put o.dst v).tmps w/\K fr' hp'
theorem Qac.mk{o:Oper}{d:Nat}{p:PV}{v:Value}(hd:o.dst=some d)(hlt:d<C.N)(h:Q9 C ρ fr hp a.tmps w)
  (hrun:∀w',(execOp a.eval o).run C.P w'= .ok (.value v) w') (hr:Qr C ρ hp w p v) (hK:K (upd fr d p) hp):Qac C ρ o a w K:=
 ⟨v,hrun,upd fr d p,hp,by rw[hd];exact h.upd hr hlt,hK⟩
theorem Qan{P:Program}{t:TypeId}{d:TypeDesc}(h:P.underlying t=some d)(w:World):(underlying t).run P w= .ok d w:=run_underlying h w
theorem Qbq{P:Program}{t:TypeId}{n:Nat}(h:tsz P t=some n)(w:World):(sizeOf t).run P w= .ok n w:=by simp only[tsz,Option.map_eq_some_iff]at h;obtain⟨i,hi,rfl⟩:=h;simp[sizeOf,typeInfo,hi]
theorem Qj8{P:Program}{t:TypeId}{ag:Bool}(h:Qh5 P t=some ag)(w:World):(isAgg t).run P w= .ok ag w:=by simp only[Qh5,Option.map_eq_some_iff]at h;obtain⟨d,hd,rfl⟩:=h;simp only[isAgg,Sem.run_bind,Qan hd,Result.andThen_ok];cases d<;>rfl
theorem Qnr{P:Program}{T:TypeId}(hu:P.underlying T=some .bool)(n m:Bool)(w:World):(Op.equal T (.bool n) (.bool m)).run P w= .ok (n==m) w:=by show(Op.equalIn (9999+1) T (.bool n) (.bool m)).run P w=_;unfold Op.equalIn;rw[Sem.run_bind,Qan hu,Result.andThen_ok];rfl
theorem Qzt{P:Program}{T:TypeId}(hu:P.underlying T=some .bool)(n m:Bool)(w:World):(binOp .eql T (.bool n) (.bool m)).run P w= .ok (.bool (n==m)) w:=by show(do pure (Value.bool (<-Op.equal T (.bool n) (.bool m))):Sem Value).run P w=_;rw[Sem.run_bind,Qnr hu,Result.andThen_ok];rfl
theorem Qzu{P:Program}{T:TypeId}(hu:P.underlying T=some .bool)(n m:Bool)(w:World):(binOp .neq T (.bool n) (.bool m)).run P w= .ok (.bool (!(n==m))) w:=by show(do pure (Value.bool (!(<-Op.equal T (.bool n) (.bool m)))):Sem Value).run P w=_;rw[Sem.run_bind,Qnr hu,Result.andThen_ok];rfl
theorem Qdk{o:Oper}{op:BinOp}{T T2:TypeId}{x y:Operand}(ho:o.op= .binOp op T x y T2){vx vy v:Value}(ex:a.eval x=vx)(ey:a.eval y=vy)
  (hg:∀w,(eqGuard op T x y vx vy).run C.P w= .ok () w) (hr:∀w,(binOp op T vx vy).run C.P w= .ok v w):∀w,(execOp a.eval o).run C.P w= .ok (.value v) w:=by
 intro w;unfold execOp;simp only[ho,ex,ey,Sem.run_bind,hg,hr,Result.andThen_ok];rfl
theorem Q69{o:Oper}{op:BinOp}{T T2:TypeId}{x y:Operand}{px py:PV}{d:Nat}(ho:o.op= .binOp op T x y T2)(hd:o.dst=some d)(hlt:d<C.N)(h:Q9 C ρ fr hp a.tmps w)
    (hx:Qr C ρ hp w px (a.eval x)) (hy:Qr C ρ hp w py (a.eval y)) {bt:Bool} (hbt:bt=true->C.P.underlying T=some .bool)
    (hv:Qa9 op bt px py d fr hp K):Qac C ρ o a w K:=by
  unfold Qa9 at hv;split at hv
  · rename_i k n k' m
    have ex:=hx.int_inv;have ey:=hy.int_inv;have hgd:∀w',(eqGuard op T x y (.int k n) (.int k' m)).run C.P w'= .ok () w':=by intro w';unfold eqGuard;cases op<;>rfl
    split at hv
    · obtain⟨h0,hv⟩:=hv
      have h0':¬m<0:=by omega
      exact Qac.mk hd hlt h (Qdk ho ex ey hgd (fun w'=>by simp[binOp,Op.shift,h0'])) (Qr.mkInt _ _) hv
    · obtain⟨h0,hv⟩:=hv
      have h0':¬m<0:=by omega
      exact Qac.mk hd hlt h (Qdk ho ex ey hgd (fun w'=>by simp[binOp,Op.shift,h0'])) (Qr.mkInt _ _) hv
    all_goals first
      |exact hv.elim
      | (obtain⟨rfl,h0,hv⟩:=hv
         exact Qac.mk hd hlt h (Qdk ho ex ey hgd (fun w'=>by simp[binOp,Op.intDiv,h0])) (Qr.mkInt _ _) hv)
      | (obtain⟨rfl,hv⟩:=hv
         exact Qac.mk hd hlt h (Qdk ho ex ey hgd (fun w'=>by simp[binOp,Op.intArith,Op.intBits])) (Qr.mkInt _ _) hv)
      | (obtain⟨rfl,hv⟩:=hv
         refine Qac.mk hd hlt h (Qdk ho ex ey hgd ?_) (Qr.mkBool _) hv;intro w';simp[binOp,Op.intCmp]<;>rfl)
  · rename_i n m
    have ex:=hx.bool_inv;have ey:=hy.bool_inv;have hgd:∀w',(eqGuard op T x y (.bool n) (.bool m)).run C.P w'= .ok () w':=by intro w';unfold eqGuard;cases op<;>rfl
    split at hv
    · obtain⟨hb,hv⟩:=hv
      exact Qac.mk hd hlt h (Qdk ho ex ey hgd (Qzt (hbt hb) n m)) (Qr.mkBool _) hv
    · obtain⟨hb,hv⟩:=hv
      exact Qac.mk hd hlt h (Qdk ho ex ey hgd (Qzu (hbt hb) n m)) (Qr.mkBool _) hv
    · exact hv.elim
  · exact hv.elim
theorem Qr.sl_inv{e:Nat}{xs:List PV}{v:Value}(h:Qr C ρ hp w (.sl e xs) v):∃ad cap,v= .slice ad xs.length cap/\xs.length<=cap/\cap<=maxLen:=by
 cases h with
 |slE _ ad cap hc=>exact⟨ad,cap,rfl,Nat.zero_le _,hc⟩
 |sl _ _ b off cap vs hX hb hl hc=>exact⟨_,cap,rfl,hl,hc⟩
theorem Qr.ms_inv{β o n:Nat}{v:Value}(h:Qr C ρ hp w (.mso β o n) v):∃ad cap,v= .slice ad n cap:=by
 obtain⟨hb,_,_,⟨_,rfl,rfl,rfl⟩|⟨b,cap,_,rfl,_⟩⟩:=h
 ·exact⟨_,_,rfl⟩
 ·exact⟨_,_,rfl⟩
theorem Qr.nso_inv{γ o n:Nat}{v:Value}(h:Qr C ρ hp w (.nso γ o n) v):∃ad cap,v= .slice ad n cap:=by obtain⟨_,hb,b,cap,_,_,rfl,_⟩:=h;exact⟨_,_,rfl⟩
theorem Qr.np_inv{γ i o:Nat}{v:Value}(h:Qr C ρ hp w (.np γ i o) v):isB γ=true/\∃b hb,ρ γ=some b/\hp γ=some hb/\v= .pointer (some ⟨b,i*hb.e+o,none⟩):=h
theorem Qr.ofS{p:PV}{v:Value}(h:Qbo C ρ hp w p v):Qr C ρ hp w p v:=by
 cases p with
 |undef=>trivial
 |mso β o n=>exact h.2
 |nso γ o n=>exact h
 |_=>exact Qr.ofData (Qai.of_c h)
theorem Qbo.toC{p:PV}{v:Value}(h:Qbo C ρ hp w p v)(hr:p.isRefC=false):Qs w (Xof C ρ hp) p v:=by
 cases p with
 |undef=>cases hr
 |mso=>cases hr
 |nso=>cases hr
 |_=>exact h
theorem Qbo.ofC{p:PV}{v:Value}(h:Qs w (Xof C ρ hp) p v):Qbo C ρ hp w p v:=by
 cases p with
 |mso=>cases h
 |nso=>cases h
 |undef=>trivial
 |_=>exact h
theorem Qbo.oneCell{p:PV}{v:Value}(h:Qbo C ρ hp w p v)(hu:p≠ .undef):v.oneCell'=true/\v.cells= #[v]:=by
 cases p with
 |undef=>exact absurd rfl hu
 |mso β o n=>obtain⟨_,hb,_,_,⟨_,rfl,_⟩|⟨b,cap,_,rfl,_⟩⟩:=h<;>exact⟨rfl,rfl⟩
 |nso γ o n=>obtain⟨_,hb,b,cap,_,_,rfl,_⟩:=h;exact⟨rfl,rfl⟩
 |_=>exact⟨(Qs.oneCell h).1,(Qs.oneCell h).2.1⟩
theorem Q19(cs:List PV):(Qhd cs).ncells=cs:=by unfold Qhd;split<;>rfl
theorem Q7a{cs:List PV}{vs:Array Value}(hs:vs.size=cs.length)(h:∀(i:Nat)(x:PV),cs[i]? =some x->Qbo C ρ hp w x (vs.getD i undef)):Qr C ρ hp w (Qhd cs) (.agg vs):=by
 unfold Qhd;split
 ·exact⟨vs,rfl,hs,h⟩
 ·rename_i hn;refine⟨vs,rfl,hs,fun i x hi=>(h i x hi).toC ?_⟩;have hm:=List.mem_of_getElem? hi;cases hq:x.isRefC with
  |false=>rfl
  |true=>exact absurd (List.any_eq_true.2 ⟨x,hm,hq⟩) hn
theorem Q3f{ag:Bool}{n off:Nat}{x:PV}{vs:Array Value}(hs:vs.size=n)(hle:off+n<=x.ncells.length)(h1:ag=false->n=1)
  (hr:∀j y,j<n->x.ncells[off+j]? =some y->Qbo C ρ hp w y (vs.getD j undef)):Qr C ρ hp w (ldN ag n off x) (if ag then .agg vs else vs.getD 0 undef):=by
 cases ag with
 | true=>
  refine Q7a (by simp[hs];omega) (fun i y hy=>?_);have hi:i<n:=by have:=(List.getElem?_eq_some_iff.1 hy).1;simp at this;omega
  rw[List.getElem?_take_of_lt hi,List.getElem?_drop]at hy;exact hr i y hi hy
 | false=>
  have hn:=h1 rfl;subst hn;have hlt:off<x.ncells.length:=by omega
  have e:x.ncells[off+0]? =some (x.ncells[off]):=by simp[List.getElem?_eq_getElem hlt]
  have:=hr 0 _ (by omega) e;simp only[ldN,Bool.false_eq_true,if_false];have e2:(x.ncells.drop off).headD .undef=x.ncells[off]:=by rw[List.headD_eq_head?_getD,List.head?_drop,List.getElem?_eq_getElem hlt];rfl
  rw[e2];exact Qr.ofS this
theorem Qhe{o:Oper}{b:Builtin}{args:Array Operand}{ts:Array TypeId}(ho:o.op= .call { callee:=.builtin b,args:=args,argTypes:=ts }){v:Value}
  (hr:∀w,(builtin b ts o.type (args.map fun| .const _=>true|_=>false) (args.map a.eval)).run C.P w= .ok (.value v) w):∀w,(execOp a.eval o).run C.P w= .ok (.value v) w:=by
 intro w;unfold execOp;simp only[ho,resolve,Sem.run_bind,Sem.run_pure,Result.andThen_ok,invoke];exact hr w
theorem Q7b{o:Oper}{x:Operand}{t:TypeId}{px:PV}{d:Nat}(ho:o.op= .call { callee:=.builtin .len,args:= #[x],argTypes:= #[t] })(hd:o.dst=some d)(hlt:d<C.N)(h:Q9 C ρ fr hp a.tmps w)
  (hx:Qr C ρ hp w px (a.eval x)) {e:TypeId} (he:C.P.underlying t=some (.slice e)) (hv:Qkr px d fr hp K):Qac C ρ o a w K:=by
 have key:∀ad n cap,a.eval x= .slice ad n cap->K (upd fr d (.int .i64 n)) hp->Qac C ρ o a w K:=fun ad n cap ex hK=>
  Qac.mk hd hlt h (Qhe ho (fun w'=>by simp[builtin,Builtin.len_,ex,Sem.run_bind,Qan he,goInt])) (Qr.mkInt _ _) hK
 unfold Qkr at hv;split at hv
 ·exact key _ _ _ hx.nil_inv hv
 ·obtain⟨ad,cap,ex,_⟩:=hx.sl_inv;exact key _ _ _ ex hv
 ·obtain⟨ad,cap,ex⟩:=hx.ms_inv;exact key _ _ _ ex hv
 ·obtain⟨ad,cap,ex⟩:=hx.nso_inv;exact key _ _ _ ex hv
 ·exact hv.elim
theorem Qr.str_inv{s:ByteArray}{v:Value}(h:Qr C ρ hp w (.str s) v):v= .string s:=by cases h;rfl
theorem Qzv{P:Program}{t:TypeId}(h:Qwa P t=true):P.underlying t=some .string:=by
 unfold Qwa at h;split at h
 ·assumption
 ·cases h
theorem Q7c{o:Oper}{x:Operand}{t:TypeId}{px:PV}{d:Nat}(ho:o.op= .call { callee:=.builtin .len,args:= #[x],argTypes:= #[t] })(hd:o.dst=some d)(hlt:d<C.N)(h:Q9 C ρ fr hp a.tmps w)
  (hx:Qr C ρ hp w px (a.eval x)) (hs:Qwa C.P t=true) (hv:Qs8 px d fr hp K):Qac C ρ o a w K:=by
 have hu:=Qzv hs;unfold Qs8 at hv;split at hv
 ·rename_i s;have ex:=hx.str_inv;exact Qac.mk hd hlt h (Qhe ho (fun w'=>by simp[builtin,Builtin.len_,ex,Sem.run_bind,Qan hu,goInt])) (Qr.mkInt _ _) hv
 ·exact hv.elim
theorem Q2a{P:Program}{T:TypeId}(hu:P.underlying T=some .string)(n m:ByteArray)(w:World):(binOp .eql T (.string n) (.string m)).run P w= .ok (.bool (n==m)) w:=by simp[binOp,Op.stringOp,beq_toListBytes]
theorem Q2b{P:Program}{T:TypeId}(hu:P.underlying T=some .string)(n m:ByteArray)(w:World):(binOp .neq T (.string n) (.string m)).run P w= .ok (.bool (!(n==m))) w:=by simp[binOp,Op.stringOp,bne,beq_toListBytes]
theorem Qxm(x y:ByteArray):(x==y)=decide (x=y):=by
 by_cases h:x=y
 ·subst h;rw[decide_eq_true rfl];show(x.data==x.data)=true;simp
 ·rw[decide_eq_false h];have h':x.data≠y.data:=fun e=>h (by cases x;cases y;simp_all);show(x.data==y.data)=false;simpa using h'
theorem Q7d{o:Oper}{op:BinOp}{ng:Bool}{T T2:TypeId}{x y:Operand}{px py:PV}{d:Nat}(ho:o.op= .binOp op T x y T2)(hop:Q4v op=some ng)(hs:Qwa C.P T=true)(hd:o.dst=some d)(hlt:d<C.N)(h:Q9 C ρ fr hp a.tmps w)
  (hx:Qr C ρ hp w px (a.eval x)) (hy:Qr C ρ hp w py (a.eval y)) (hv:Qm9 ng px py d fr hp K):Qac C ρ o a w K:=by
 have hu:=Qzv hs;unfold Qm9 at hv;split at hv
 ·rename_i n m;have ex:=hx.str_inv;have ey:=hy.str_inv;have hgd:∀w',(eqGuard op T x y (.string n) (.string m)).run C.P w'= .ok () w':=by intro w';unfold eqGuard;cases op<;>rfl
  cases op<;>first|(cases hop;done)|skip
  ·cases hop;exact Qac.mk hd hlt h (Qdk ho ex ey hgd (Q2a hu n m)) (Qr.mkBool _) (by rw[Qxm];simpa using hv)
  ·cases hop;exact Qac.mk hd hlt h (Qdk ho ex ey hgd (Q2b hu n m)) (Qr.mkBool _) (by rw[Qxm];simpa using hv)
 ·exact hv.elim
theorem Qaa3{o:Oper}{x y:Operand}{ts:Array TypeId}{px py:PV}{d:Nat}(ho:o.op= .call { callee:=.builtin .max,args:= #[x,y],argTypes:=ts })(hd:o.dst=some d)(hlt:d<C.N)(h:Q9 C ρ fr hp a.tmps w)
  (hx:Qr C ρ hp w px (a.eval x)) (hy:Qr C ρ hp w py (a.eval y)) (hv:mxK px py d fr hp K):Qac C ρ o a w K:=by
 unfold mxK at hv;split at hv
 ·rename_i k n k' m;have ex:=hx.int_inv;have ey:=hy.int_inv;refine Qac.mk hd hlt h (Qhe ho (fun w'=>?_)) (Qr.mkInt _ _) hv;have e:(if m>n then m else n)=max n m:=by omega
  simp[builtin,Builtin.max_,ex,ey,Builtin.max2,e]
 ·exact hv.elim
theorem Qaa4{o:Oper}{x y:Operand}{ts:Array TypeId}{px py:PV}{d:Nat}(ho:o.op= .call { callee:=.builtin .min,args:= #[x,y],argTypes:=ts })(hd:o.dst=some d)(hlt:d<C.N)(h:Q9 C ρ fr hp a.tmps w)
  (hx:Qr C ρ hp w px (a.eval x)) (hy:Qr C ρ hp w py (a.eval y)) (hv:mnK px py d fr hp K):Qac C ρ o a w K:=by
 unfold mnK at hv;split at hv
 ·rename_i k n k' m;have ex:=hx.int_inv;have ey:=hy.int_inv;refine Qac.mk hd hlt h (Qhe ho (fun w'=>?_)) (Qr.mkInt _ _) hv;have e:(if m<n then m else n)=min n m:=by omega
  simp[builtin,Builtin.min_,ex,ey,Builtin.min2,e]
 ·exact hv.elim
theorem Qaa5{o:Oper}{op:UnOp}{T:TypeId}{x:Operand}{px:PV}{d:Nat}(ho:o.op= .unOp op T x)(hd:o.dst=some d)(hlt:d<C.N)(h:Q9 C ρ fr hp a.tmps w)
  (hx:Qr C ρ hp w px (a.eval x)) (hv:unK op px d fr hp K):Qac C ρ o a w K:=by
 unfold unK at hv;split at hv
 ·have ex:=hx.bool_inv;refine Qac.mk hd hlt h (fun w'=>?_) (Qr.mkBool _) hv;unfold execOp;simp only[ho,ex];rfl
 ·have ex:=hx.int_inv;refine Qac.mk hd hlt h (fun w'=>?_) (Qr.mkInt _ _) hv;unfold execOp;simp only[ho,ex];rfl
 ·exact hv.elim
theorem Q4w{o:Oper}{S T:TypeId}{x:Operand}{px:PV}{d:Nat}{ds:TypeDesc}{k:IntKind}(ho:o.op= .convert S T x)(hd:o.dst=some d)(hlt:d<C.N)(h:Q9 C ρ fr hp a.tmps w)
  (hS:C.P.underlying S=some ds) (hT:C.P.underlying T=some (.int k)) (hx:Qr C ρ hp w px (a.eval x)) (hv:Qof k px d fr hp K):Qac C ρ o a w K:=by
 unfold Qof at hv;split at hv
 ·have ex:=hx.int_inv;refine Qac.mk hd hlt h (fun w'=>?_) (Qr.mkInt _ _) hv;unfold execOp;simp only[ho,ex,Sem.run_bind,convert,Qan hS,Qan hT,Result.andThen_ok];rfl
 ·exact hv.elim
theorem Q7e{o:Oper}{i:Nat}{x:Operand}{px:PV}{d:Nat}(ho:o.op= .extract x i)(hd:o.dst=some d)(hlt:d<C.N)(h:Q9 C ρ fr hp a.tmps w)
  (hx:Qr C ρ hp w px (a.eval x)) (hv:Qg1 px i d fr hp K):Qac C ρ o a w K:=by
 unfold Qg1 at hv;split at hv
 ·rename_i ps;split at hv
  ·rename_i p hp1;obtain⟨hdat,hv⟩:=hv;obtain⟨vs,ex,h1,h2⟩:=hx;have hi:i<vs.size:=by rw[h1];exact(List.getElem?_eq_some_iff.1 hp1).1
   have hr:=h2 i p hp1;have hg:vs.getD i undef=vs[i]:=by simp[Array.getD,hi]
   rw[hg]at hr;refine Qac.mk hd hlt h (fun w'=>?_) (Qr.ofData hr) hv;unfold execOp;simp only[ho,ex,Sem.run_bind,Instr.extract,Array.getElem?_eq_getElem hi];rfl
  ·exact hv.elim
 ·rename_i ps;split at hv
  ·rename_i p hp1;obtain⟨vs,ex,h1,h2⟩:=hx;have hi:i<vs.size:=by rw[h1];exact(List.getElem?_eq_some_iff.1 hp1).1
   have hr:=h2 i p hp1;have hg:vs.getD i undef=vs[i]:=by simp[Array.getD,hi]
   rw[hg]at hr;refine Qac.mk hd hlt h (fun w'=>?_) (Qr.ofS hr) hv;unfold execOp;simp only[ho,ex,Sem.run_bind,Instr.extract,Array.getElem?_eq_getElem hi];rfl
  ·exact hv.elim
 ·rename_i cs q;obtain⟨vs,u,ex,h1,h2,h3⟩:=hx;split at hv
  ·refine Qac.mk (p:=.rag cs) (v:=.agg vs) hd hlt h (fun w'=>?_) ⟨vs,rfl,h1,h2⟩ hv;unfold execOp;simp only[ho,ex,Sem.run_bind,Instr.extract];rfl
  ·refine Qac.mk (v:=u) hd hlt h (fun w'=>?_) (Qr.ofData h3) hv;unfold execOp;simp only[ho,ex,Sem.run_bind,Instr.extract];rfl
  ·exact hv.elim
 ·exact hv.elim
theorem Qzw{o:Oper}{x:Operand}{px:PV}{d:Nat}(ho:o.op= .move x∨o.op= .assign x)(hd:o.dst=some d)(hlt:d<C.N)(h:Q9 C ρ fr hp a.tmps w)
  (hx:Qr C ρ hp w px (a.eval x)) (hv:K (upd fr d px) hp):Qac C ρ o a w K:=by
 refine Qac.mk hd hlt h (fun w'=>?_) hx hv;rcases ho with ho|ho<;>(unfold execOp;simp only[ho];rfl)
theorem Q4x{o:Oper}{c x y:Operand}{pc px py:PV}{d:Nat}(ho:o.op= .pick c x y)(hd:o.dst=some d)(hlt:d<C.N)(h:Q9 C ρ fr hp a.tmps w)
  (hc:Qr C ρ hp w pc (a.eval c)) (hx:Qr C ρ hp w px (a.eval x)) (hy:Qr C ρ hp w py (a.eval y))
  (hv:Qk5 pc px py d fr hp K):Qac C ρ o a w K:=by
 obtain⟨t,rfl,hv⟩:∃t,pc= .bool t/\((t=true->K (upd fr d px) hp)/\(t=false->K (upd fr d py) hp)):=by
  cases pc with
  |bool t=>exact⟨t,rfl,hv⟩
  |_=>exact hv.elim
 have ec:=hc.bool_inv;cases t with
 |true=>refine Qac.mk hd hlt h (fun w'=>?_) hx (hv.1 rfl);unfold execOp;simp only[ho,ec];rfl
 |false=>refine Qac.mk hd hlt h (fun w'=>?_) hy (hv.2 rfl);unfold execOp;simp only[ho,ec];rfl
theorem Qgx{P:Program}{T:TypeId}{k0:IntKind}(hu:P.underlying T=some (.int k0))(d:Nat)(k:IntKind)(n m:Int)(w:World):(Op.equalIn (d+1) T (.int k n) (.int k m)).run P w= .ok (n==m) w:=by unfold Op.equalIn;rw[Sem.run_bind,Qan hu,Result.andThen_ok];simp
theorem Qj9{P:Program}{t:TypeId}{cs:Array Value}{off:Nat}{v:Value}(ha:Qh5 P t=some false)(hv:cs[off]? =some v)(w:World):(part t cs off).run P w= .ok v w:=by unfold part;rw[Sem.run_bind,Qj8 ha,Result.andThen_ok];simp[hv]
theorem Qzx {P : Program} {T : TypeId} {f g : Field} (hu : P.underlying T = some (.struct #[f, g])) (h1 : f.name ≠ "_") (h2 : g.name ≠ "_") (o1 : f.offset = 0) (o2 : g.offset = 1) {k1 k2 : IntKind} (t1 : P.underlying f.type = some (.int k1)) (t2 : P.underlying g.type = some (.int k2))
  (hs:P.stoodInHeld T=false) (k l:IntKind) (x y x' y':Int) (w:World):(Op.equal T (.agg #[.int k x,.int l y]) (.agg #[.int k x',.int l y'])).run P w= .ok (x==x'&&y==y') w:=by
 have a1:Qh5 P f.type=some false:=by simp[Qh5,t1]
 have a2:Qh5 P g.type=some false:=by simp[Qh5,t2]
 show(Op.equalIn (9998+1+1) T _ _).run P w=_;rw[Op.equalIn];rw[Sem.run_bind,Qan hu,Result.andThen_ok];have hp:Sem.run P program w= .ok P w:=rfl;rw[Sem.run_bind,hp,Result.andThen_ok,hs];simp only[Bool.false_eq_true,if_false];rw[<-Array.forIn_toList];simp only[List.forIn_cons,List.forIn_nil,Sem.run_bind,o1,o2,h1,h2,ne_eq,not_false_eq_true,if_true,Qj9 a1 (show(#[Value.int k x,Value.int l y])[0]? =some _ from rfl),Qj9 a1 (show(#[Value.int k x',Value.int l y'])[0]? =some _ from rfl),
  Qj9 a2 (show(#[Value.int k x,Value.int l y])[1]? =some _ from rfl),Qj9 a2 (show(#[Value.int k x',Value.int l y'])[1]? =some _ from rfl),Qgx t1,Qgx t2,Result.andThen_ok]
 have q1:∀n m w,(Op.equalIn 9999 f.type (.int k n) (.int k m)).run P w= .ok (n==m) w:=fun n m w=>Qgx t1 9998 k n m w;have q2:∀n m w,(Op.equalIn 9999 g.type (.int l n) (.int l m)).run P w= .ok (n==m) w:=fun n m w=>Qgx t2 9998 l n m w;have p2:∀u v w,(part g.type #[u,v] 1).run P w= .ok v w:=fun u v w=>Qj9 a2 (show(#[u,v])[1]? =some _ from rfl) w;by_cases e1:x=x'<;>by_cases e2:y=y'<;>simp[e1,e2,q1,q2,p2]
theorem Qaa6{P:Program}{T:TypeId}{b:Bool}{X Y:Array Value}(h:∀w,(Op.equal T (.agg X) (.agg Y)).run P w= .ok b w)(w:World):(binOp .eql T (.agg X) (.agg Y)).run P w= .ok (.bool b) w:=by show(do pure (Value.bool (<-Op.equal T (.agg X) (.agg Y))):Sem Value).run P w=_;rw[Sem.run_bind,h,Result.andThen_ok];rfl
theorem Qaa7{P:Program}{T:TypeId}{b:Bool}{X Y:Array Value}(h:∀w,(Op.equal T (.agg X) (.agg Y)).run P w= .ok b w)(w:World):(binOp .neq T (.agg X) (.agg Y)).run P w= .ok (.bool !b) w:=by show(do pure (Value.bool (!(<-Op.equal T (.agg X) (.agg Y)))):Sem Value).run P w=_;rw[Sem.run_bind,h,Result.andThen_ok];rfl
theorem Qt5{P:Program}{T:TypeId}{op:BinOp}{x y:Operand}{X Y:Array Value}(h:P.eqGuardType P.depth T=false)(w:World):(eqGuard op T x y (.agg X) (.agg Y)).run P w= .ok () w:=by
  have hp:Sem.run P program w= .ok P w:=rfl
  have hg : (do if !(<-program).eqGuardType (<-program).depth T then return
                if <- Op.eqGuardIn Op.maxDepth T (.agg X) (.agg Y) then unsupported (.noEntry "binop/eql: two nil values of an interface type with methods, in a part of a struct or an array") : Sem Unit).run P w = .ok () w := by
    rw[Sem.run_bind,hp,Result.andThen_ok,Sem.run_bind,hp,Result.andThen_ok,h];rfl
  cases op<;>first|rfl|exact hg
theorem Qali {P : Program} {T : TypeId} (h : s2? P T = true) : ∃ f g k1 k2, P.underlying T = some (.struct #[f, g]) /\ f.name ≠ "_" /\ g.name ≠ "_" /\ f.offset = 0 /\ g.offset = 1 /\ P.underlying f.type = some (.int k1) /\ P.underlying g.type = some (.int k2) /\ P.stoodInHeld T = false /\ P.eqGuardType P.depth T = false := by
 unfold s2? at h;split at h
 ·rename_i fs hu;split at h
  ·rename_i f g hfs;simp only[Bool.and_eq_true,bne_iff_ne,ne_eq,beq_iff_eq,Bool.not_eq_true']at h;obtain⟨⟨⟨⟨⟨⟨⟨h1,h2⟩,h3⟩,h4⟩,h5⟩,h6⟩,h7⟩,h8⟩:=h;have:fs= #[f,g]:=by rw[<-Array.toArray_toList (xs:=fs),hfs]
   subst this;cases u1:P.underlying f.type with
   |none=>rw[u1]at h5;cases h5
   | some t1=>cases u2:P.underlying g.type with
    |none=>rw[u2]at h6;cases h6
    |some t2=>
     rw[u1]at h5;rw[u2]at h6;cases t1<;>first|(cases h5;done)|skip
     cases t2<;>first|(cases h6;done)|skip
     exact⟨f,g,_,_,hu,h1,h2,h3,h4,u1,u2,h7,h8⟩
  ·cases h
 ·cases h
theorem Qzy{cs:List PV}{v:Value}{p q:PV}(hcs:cs=[p,q])(h:Qr C ρ hp w (.agg cs) v):∃x y,v= .agg #[x,y]/\Qs w (Xof C ρ hp) p x/\Qs w (Xof C ρ hp) q y:=by
 subst hcs;obtain⟨vs,rfl,h1,h2⟩:=h;have hs:vs.size=2:=h1;refine⟨vs.getD 0 undef,vs.getD 1 undef,?_,h2 0 p rfl,h2 1 q rfl⟩;congr 1;apply Array.ext
 ·simp[hs]
 ·intro i hi hi';have:i=0∨i=1:=by simp at hi';omega
  rcases this with rfl|rfl<;>simp[Array.getD,hs]
theorem Q7f{o:Oper}{op:BinOp}{ng:Bool}{T T2:TypeId}{x y:Operand}{px py:PV}{d:Nat}(ho:o.op= .binOp op T x y T2)(hop:Q4v op=some ng)(hs2:s2? C.P T=true)(hd:o.dst=some d)(hlt:d<C.N)(h:Q9 C ρ fr hp a.tmps w)
  (hx:Qr C ρ hp w px (a.eval x)) (hy:Qr C ρ hp w py (a.eval y)) (hv:Qm8 ng px py d fr hp K):Qac C ρ o a w K:=by
 obtain⟨f,g,k1,k2,hu,h1,h2,h3,h4,u1,u2,h7,h8⟩:=Qali hs2;unfold Qm8 at hv;split at hv
 ·rename_i k n l m k' n' l' m';obtain⟨rfl,rfl,hv⟩:=hv;obtain⟨a1,b1,ex,r1,r2⟩:=Qzy rfl hx;obtain⟨a2,b2,ey,r3,r4⟩:=Qzy rfl hy;cases r1;cases r2;cases r3;cases r4;have heq:∀w,(Op.equal T (.agg #[.int k n,.int l m]) (.agg #[.int k n',.int l m'])).run C.P w= .ok (n==n'&&m==m') w:=fun w=>Qzx hu h1 h2 h3 h4 u1 u2 h7 k l n m n' m' w;have e:(n==n'&&m==m')=(decide (n=n')&&decide (m=m')):=rfl;rw[e]at heq;cases op<;>first|(cases hop;done)|skip
  ·cases hop;exact Qac.mk hd hlt h (Qdk ho ex ey (Qt5 h8) (Qaa6 heq)) (Qr.mkBool _) (by simpa using hv)
  ·cases hop;exact Qac.mk hd hlt h (Qdk ho ex ey (Qt5 h8) (Qaa7 heq)) (Qr.mkBool _) (by simpa using hv)
 ·exact hv.elim
end Go.FW
namespace Go.FW
open Go
variable {C : Ctx} {ρ : Nat -> Option Nat} {fr : Fr} {hp : HP} {w : World} {a : Act} {K : Qg}
theorem Q2c{l:List PV}{n:Nat}(h:n<l.length):l[n]? =some (l[n]'h):=List.getElem?_eq_getElem h
theorem Qjg{P:Program}{t e:TypeId}{n:Nat}{ad:Addr}{len cap:Nat}{k:IntKind}{i:Int}(hu:P.underlying t=some (.slice e))(hn:tsz P e=some n)(h0:0<=i)(h1:i<len)(w:World):
  (Instr.indexAt t (.slice (some ad) len cap) (.int k i)).run P w= .ok (.pointer (some (ad.add (i.toNat*n)))) w:=by
 have h2:0<=i/\i<len:=⟨h0,h1⟩
 unfold Instr.indexAt;simp only[asIntOf,Sem.run_bind,Sem.run_pure,Result.andThen_ok,Qan hu,if_pos h2,Qbq hn]
theorem Qmo{P:Program}{t e:TypeId}{n len:Nat}{ad:Addr}{k:IntKind}{i:Int}(hu:P.underlying t=some (.array len e))(hn:tsz P e=some n)(h0:0<=i)(h1:i<len)(w:World):
  (Instr.indexAt t (.pointer (some ad)) (.int k i)).run P w= .ok (.pointer (some (ad.add (i.toNat*n)))) w:=by
 have h2:0<=i/\i<len:=⟨h0,h1⟩
 unfold Instr.indexAt;simp only[asIntOf,Sem.run_bind,Sem.run_pure,Result.andThen_ok,Qan hu,Instr.sureAddr,if_pos h2,Qbq hn]
theorem Qr.mp_inv{β i o:Nat}{v:Value}(h:Qr C ρ hp w (.mp β i o) v):∃b hb,ρ β=some b/\hp β=some hb/\v= .pointer (some ⟨b,i*hb.e+o,none⟩):=h
theorem Qr.mkMp{β i o b:Nat}{hb:HB}(h1:ρ β=some b)(h2:hp β=some hb):Qr C ρ hp w (.mp β i o) (.pointer (some ⟨b,i*hb.e+o,none⟩)):=⟨b,hb,h1,h2,rfl⟩
theorem Q7g{o:Oper}{t e:TypeId}{n:Nat}{x i:Operand}{px pi:PV}{d:Nat}(ho:o.op= .indexAddr t x i)(hd:o.dst=some d)(hlt:d<C.N)(h:Q9 C ρ fr hp a.tmps w)
  (hu:C.P.underlying t=some (.slice e)) (hn:tsz C.P e=some n) (hx:Qr C ρ hp w px (a.eval x)) (hi:Qr C ρ hp w pi (a.eval i)) (hv:Qci n px pi d fr hp K):Qac C ρ o a w K:=by
 unfold Qci at hv;split at hv
 ·rename_i e' xs k m;obtain⟨rfl,h0,h1,hK⟩:=hv;have ei:=hi.int_inv;have hlen:m<xs.length:=by omega
  generalize ev:a.eval x=vx at hx;cases hx with
  |slE=>simp at h1
  |sl _ _ b off cap vs hX hb hl hc he hv' hr=>
   have hxm:=Q2c h1;have hcl:=he _ _ hxm;refine Qac.mk hd hlt h (v:=.pointer (some ⟨b,off+m.toNat*n,none⟩)) (fun w'=>?_) ?_ hK
   ·unfold execOp;simp only[ho,ei,ev,Sem.run_bind,Qjg hu hn h0 hlen,Result.andThen_ok,Addr.add_lit];rfl
   ·exact Qs.pt _ b _ (vs m.toNat) hX hb (fun j hj=>hv' m.toNat h1 j (by omega)) (fun j y hy=>hr m.toNat _ hxm j y hy)
 ·rename_i β o' m k n';obtain⟨h0,h1,h2,hK⟩:=hv;have ei:=hi.int_inv;obtain⟨hb,g1,g2,⟨g3,_,g5,_⟩|⟨b,cap,g3,g4,g5,g6⟩⟩:=hx
  ·omega
  ·rw[g1]at h2;simp only[Option.map_some,Option.some.injEq]at h2;subst h2;have hm:n'<m:=by omega
   refine Qac.mk hd hlt h (fun w'=>?_) (Qr.mkMp g3 g1) hK;unfold execOp;simp only[ho,ei,g4,Sem.run_bind,Qjg hu hn h0 hm,Result.andThen_ok,Addr.add_lit,Nat.add_zero,Nat.add_mul];rfl
 ·rename_i γ o' m k n';obtain⟨h0,h1,h2,hK⟩:=hv;have ei:=hi.int_inv;obtain⟨hB,hb,b,cap,g1,g3,g4,g5,g6,g7⟩:=hx;rw[g1]at h2;simp only[Option.map_some,Option.some.injEq]at h2;subst h2;have hm:n'<m:=by omega
  refine Qac.mk hd hlt h (p:=.np γ (o'+n'.toNat) 0) (fun w'=>?_) (show Qbp C ρ hp w (.np γ (o'+n'.toNat) 0) _ from⟨hB,b,hb,g3,g1,rfl⟩) hK;unfold execOp;simp only[ho,ei,g4,Sem.run_bind,Qjg hu hn h0 hm,Result.andThen_ok,Addr.add_lit,Nat.add_zero,Nat.add_mul];rfl
 ·exact hv.elim
theorem Qs.pt_drop{X:Nat->Prop}{cs:List PV}{b off k:Nat}(h:Qs w X (.pt cs) (.pointer (some ⟨b,off,none⟩))):Qs w X (.pt (cs.drop k)) (.pointer (some ⟨b,off+k,none⟩)):=by
 cases h with
 |pt _ _ _ vs hX hb hv hr=>
  refine Qs.pt _ b _ (fun j=>vs (k+j)) hX hb (fun j hj=>?_) (fun j y hy=>?_)
  ·have:=hv (k+j) (by simp at hj;omega);rwa[<-Nat.add_assoc]at this
  ·rw[List.getElem?_drop]at hy;exact hr _ _ hy
theorem Qr.pt_inv{cs:List PV}{v:Value}(h:Qr C ρ hp w (.pt cs) v):∃b off,v= .pointer (some ⟨b,off,none⟩)/\Qs w (Xof C ρ hp) (.pt cs) (.pointer (some ⟨b,off,none⟩)):=by
 have h':Qs w (Xof C ρ hp) (.pt cs) v:=h;cases h' with
 |pt _ b off vs hX hb hv hr=>exact⟨b,off,rfl,.pt _ b off vs hX hb hv hr⟩
theorem Q4y{o:Oper}{t e:TypeId}{n len:Nat}{x i:Operand}{px pi:PV}{d:Nat}(ho:o.op= .indexAddr t x i)(hd:o.dst=some d)(hlt:d<C.N)(h:Q9 C ρ fr hp a.tmps w)
  (hu:C.P.underlying t=some (.array len e)) (hn:tsz C.P e=some n) (hx:Qr C ρ hp w px (a.eval x)) (hi:Qr C ρ hp w pi (a.eval i)) (hv:Qjt len n px pi d fr hp K):Qac C ρ o a w K:=by
 unfold Qjt at hv;split at hv
 ·rename_i β j o' k m;obtain⟨h0,h1,hK⟩:=hv;have ei:=hi.int_inv;obtain⟨b,hb,g1,g2,g3⟩:=hx.mp_inv;refine Qac.mk hd hlt h (fun w'=>?_) (Qr.mkMp g1 g2) hK;unfold execOp;simp only[ho,ei,g3,Sem.run_bind,Qmo hu hn h0 h1,Result.andThen_ok,Addr.add_lit,Nat.add_assoc];rfl
 ·rename_i cs k m;obtain⟨h0,h1,h2,hK⟩:=hv;have ei:=hi.int_inv;obtain⟨b,off,ex,hp'⟩:=hx.pt_inv;refine Qac.mk hd hlt h (p:=.pt (cs.drop (m.toNat*n))) (v:=.pointer (some ⟨b,off+m.toNat*n,none⟩)) (fun w'=>?_) hp'.pt_drop hK;unfold execOp;simp only[ho,ei,ex,Sem.run_bind,Qmo hu hn h0 h1,Result.andThen_ok,Addr.add_lit];rfl
 ·exact hv.elim
theorem Qlx{P:Program}{t:TypeId}{fs:Array Field}{j:Nat}{f:Field}{n b off:Nat}(hu:P.underlying t=some (.struct fs))(hf:fs[j]? =some f)(hn:tsz P f.type=some n)(h0:n≠0)(w:World):
  (Instr.fieldAt t (.pointer (some ⟨b,off,none⟩)) j).run P w= .ok (.pointer (some ⟨b,off+f.offset,none⟩)) w:=by
 unfold Instr.fieldAt;simp only[Sem.run_bind,Qan hu,Result.andThen_ok,hf,Instr.sureAddr,Sem.run_pure,fieldPlace,Qbq hn,if_neg h0,Addr.add_lit]
theorem Q7h{o:Oper}{t:TypeId}{fs:Array Field}{j n:Nat}{f:Field}{x:Operand}{px:PV}{d:Nat}(ho:o.op= .fieldAddr t x j)(hd:o.dst=some d)(hlt:d<C.N)(h:Q9 C ρ fr hp a.tmps w)
  (hu:C.P.underlying t=some (.struct fs)) (hf:fs[j]? =some f) (hn:tsz C.P f.type=some n) (hn0:n≠0) (hx:Qr C ρ hp w px (a.eval x)) (hv:Qna f.offset px d fr hp K):Qac C ρ o a w K:=by
 unfold Qna at hv;split at hv
 ·rename_i β i o';obtain⟨b,hb,g1,g2,g3⟩:=hx.mp_inv;refine Qac.mk hd hlt h (fun w'=>?_) (Qr.mkMp g1 g2) hv;unfold execOp;simp only[ho,g3,Sem.run_bind,Qlx hu hf hn hn0,Result.andThen_ok,Nat.add_assoc];rfl
 ·rename_i γ i o';obtain⟨hB,b,hb,g1,g2,g3⟩:=hx.np_inv;refine Qac.mk hd hlt h (p:=.np γ i (o'+f.offset)) (fun w'=>?_) (show Qbp C ρ hp w (.np γ i (o'+f.offset)) _ from⟨hB,b,hb,g1,g2,rfl⟩) hv;unfold execOp;simp only[ho,g3,Sem.run_bind,Qlx hu hf hn hn0,Result.andThen_ok,Nat.add_assoc];rfl
 ·rename_i cs;obtain⟨_,hK⟩:=hv;obtain⟨b,off,ex,hp'⟩:=hx.pt_inv;refine Qac.mk hd hlt h (p:=.pt (cs.drop f.offset)) (v:=.pointer (some ⟨b,off+f.offset,none⟩)) (fun w'=>?_) hp'.pt_drop hK;unfold execOp;simp only[ho,ex,Sem.run_bind,Qlx hu hf hn hn0,Result.andThen_ok];rfl
 ·exact hv.elim
theorem Qfu(vs:Array Value)(off n j:Nat)(hj:j<n)(h:off+n<=vs.size):(vs.extract off (off+n)).getD j undef=vs.getD (off+j) undef:=by
 have h1:j<(vs.extract off (off+n)).size:=by simp;omega
 have h2:off+j<vs.size:=by omega
 simp only[Array.getD_eq_getD_getElem?,Array.getElem?_eq_getElem h1,Array.getElem?_eq_getElem h2,Array.getElem_extract]
theorem Qns{X:Nat->Prop}{ag:Bool}{n off:Nat}{x:PV}{vs:Array Value}(hs:vs.size=n)(hle:off+n<=x.cells.length)(h1:ag=false->n=1)
  (hr:∀j y,j<n->x.cells[off+j]? =some y->Qs w X y (vs.getD j undef)):Qai w X (ldV ag n off x) (if ag then .agg vs else vs.getD 0 undef):=by
 cases ag with
 | true=>
  refine⟨vs,rfl,by simp[hs];omega,fun i y hy=>?_⟩;have hi:i<n:=by have:=(List.getElem?_eq_some_iff.1 hy).1;simp at this;omega
  rw[List.getElem?_take_of_lt hi,List.getElem?_drop]at hy;exact hr i y hi hy
 | false=>
  have hn:=h1 rfl;subst hn;have hlt:off<x.cells.length:=by omega
  have e:x.cells[off+0]? =some (x.cells[off]):=by simp[List.getElem?_eq_getElem hlt]
  have:=hr 0 _ (by omega) e;simp only[ldV,Bool.false_eq_true,if_false];have e2:(x.cells.drop off).headD .undef=x.cells[off]:=by rw[List.headD_eq_head?_getD,List.head?_drop,List.getElem?_eq_getElem hlt];rfl
  rw[e2];exact Qai.of_c this
theorem Q4z{o:Oper}{t:TypeId}{fs:Array Field}{j n:Nat}{ag:Bool}{f:Field}{x:Operand}{px:PV}{d:Nat}(ho:o.op= .field t x j)(hd:o.dst=some d)(hlt:d<C.N)(h:Q9 C ρ fr hp a.tmps w)
  (hu:C.P.underlying t=some (.struct fs)) (hf:fs[j]? =some f) (hn:tsz C.P f.type=some n) (hag:Qh5 C.P f.type=some ag) (hx:Qr C ρ hp w px (a.eval x)) (hv:Qju f.offset n ag px d fr hp K):Qac C ρ o a w K:=by
 unfold Qju at hv;split at hv
 ·rename_i cs;obtain⟨h1,h2,hK⟩:=hv;obtain⟨vs,ex,g1,g2⟩:=hx;have hle:f.offset+n<=vs.size:=by omega
  have hrep:=Qns (X:=Xof C ρ hp) (w:=w) (ag:=ag) (off:=f.offset) (x:=.agg cs) (vs:=vs.extract f.offset (f.offset+n)) (by simp;omega) h1 h2
   (fun j y hj hy=>by rw[Qfu vs _ _ _ hj hle];exact g2 _ y hy)
  refine Qac.mk hd hlt h (fun w'=>?_) (Qr.ofData hrep) hK;unfold execOp;simp only[ho,ex,Sem.run_bind,Instr.field,Qan hu,Result.andThen_ok,hf,asAgg,Sem.run_pure,part,Qj8 hag];cases ag with
  |true=>simp only[if_true,Sem.run_bind,Qbq hn,Result.andThen_ok,Sem.run_pure]
  |false=>
   have hn1:=h2 rfl;subst hn1;have hlt':f.offset<vs.size:=by omega
   simp only[Bool.false_eq_true,if_false,Array.getElem?_eq_getElem hlt',Sem.run_pure,Result.andThen_ok];rw[Qfu vs _ _ 0 (by omega) hle];simp[Array.getD,hlt']
 ·rename_i cs;obtain⟨h1,h2,hK⟩:=hv;obtain⟨vs,ex,g1,g2⟩:=hx;have hle:f.offset+n<=vs.size:=by omega
  have hrep:=Q3f (C:=C) (ρ:=ρ) (hp:=hp) (w:=w) (ag:=ag) (off:=f.offset) (x:=.rag cs) (vs:=vs.extract f.offset (f.offset+n)) (by simp;omega) h1 h2
   (fun j y hj hy=>by rw[Qfu vs _ _ _ hj hle];exact g2 _ y hy)
  refine Qac.mk hd hlt h (fun w'=>?_) hrep hK;unfold execOp;simp only[ho,ex,Sem.run_bind,Instr.field,Qan hu,Result.andThen_ok,hf,asAgg,Sem.run_pure,part,Qj8 hag];cases ag with
  |true=>simp only[if_true,Sem.run_bind,Qbq hn,Result.andThen_ok,Sem.run_pure]
  |false=>
   have hn1:=h2 rfl;subst hn1;have hlt':f.offset<vs.size:=by omega
   simp only[Bool.false_eq_true,if_false,Array.getElem?_eq_getElem hlt',Sem.run_pure,Result.andThen_ok];rw[Qfu vs _ _ 0 (by omega) hle];simp[Array.getD,hlt']
 ·exact hv.elim
theorem Q7i{o:Oper}{t:TypeId}{x i:Operand}{px pi:PV}{d:Nat}(ho:o.op= .index t x i)(hd:o.dst=some d)(hlt:d<C.N)(h:Q9 C ρ fr hp a.tmps w)
  (hu:C.P.underlying t=some .string) (hx:Qr C ρ hp w px (a.eval x)) (hi:Qr C ρ hp w pi (a.eval i)) (hv:Qp7 px pi d fr hp K):Qac C ρ o a w K:=by
 unfold Qp7 at hv;split at hv
 ·rename_i s k m;obtain⟨h0,h1,hK⟩:=hv;have ei:=hi.int_inv;have ex:=hx.str_inv;have hlt':m.toNat<s.size:=by omega
  have e0:s.get! m.toNat=s[m.toNat]'hlt':=by simp[ByteArray.get!,getElem!_pos,hlt'];rfl
  have e1:(if 0<=m then s[m.toNat]? else none)=some (s.get! m.toNat):=by rw[if_pos h0,getElem?_pos s m.toNat hlt',e0]
  refine Qac.mk hd hlt h (fun w'=>?_) (Qr.mkInt _ _) hK;unfold execOp;simp only[ho,ex,ei,Sem.run_bind,Instr.index,asIntOf,Qan hu,Result.andThen_ok,Sem.run_pure,e1]
 ·exact hv.elim
theorem Q7j{o:Oper}{t e:TypeId}{len n:Nat}{ag:Bool}{x i:Operand}{px pi:PV}{d:Nat}(ho:o.op= .index t x i)(hd:o.dst=some d)(hlt:d<C.N)(h:Q9 C ρ fr hp a.tmps w)
  (hu:C.P.underlying t=some (.array len e)) (hn:tsz C.P e=some n) (hag:Qh5 C.P e=some ag) (hx:Qr C ρ hp w px (a.eval x)) (hi:Qr C ρ hp w pi (a.eval i)) (hv:Qwd len n ag px pi d fr hp K):Qac C ρ o a w K:=by
 unfold Qwd at hv;split at hv
 ·rename_i cs k m;obtain⟨h0,h00,h1,h2,hK⟩:=hv;have ei:=hi.int_inv;obtain⟨vs,ex,g1,g2⟩:=hx;have hle:m.toNat*n+n<=vs.size:=by omega
  have hcond:0<=m/\m<len:=⟨h0,h00⟩
  have hrep:=Qns (X:=Xof C ρ hp) (w:=w) (ag:=ag) (off:=m.toNat*n) (x:=.agg cs) (vs:=vs.extract (m.toNat*n) (m.toNat*n+n)) (by simp;omega) h1 h2
   (fun j y hj hy=>by rw[Qfu vs _ _ _ hj hle];exact g2 _ y hy)
  refine Qac.mk hd hlt h (fun w'=>?_) (Qr.ofData hrep) hK;unfold execOp;simp only[ho,ex,ei,Sem.run_bind,Instr.index,asIntOf,Qan hu,Result.andThen_ok,Sem.run_pure,if_pos hcond,Qbq hn,part,Qj8 hag];cases ag with
  |true=>simp only[if_true,Sem.run_bind,Qbq hn,Result.andThen_ok,Sem.run_pure]
  |false=>
   have hn1:=h2 rfl;subst hn1;have hlt':m.toNat*1<vs.size:=by omega
   simp only[Bool.false_eq_true,if_false,Array.getElem?_eq_getElem hlt',Sem.run_pure,Result.andThen_ok];rw[Qfu vs _ _ 0 (by omega) hle];have hlt2:m.toNat<vs.size:=by omega
   simp[Array.getD,hlt2]
 ·exact hv.elim
end Go.FW
namespace Go.FW
open Go
variable {C : Ctx} {ρ : Nat -> Option Nat} {fr : Fr} {hp : HP} {w : World} {a : Act} {K : Qg}
def Qqb(C:Ctx)(ρ:Nat->Option Nat)(o:Oper)(a:Act)(w:World)(K:Qg):Prop:=
 ∃v b,b<w.heap.size/\(∀w',w'.heap[b]? =w.heap[b]? ->(execOp a.eval o).run C.P w'= .ok (.value v) w')/\∃fr' hp',Q9 C ρ fr' hp' (a.put o.dst v).tmps w/\K fr' hp'
theorem Qin{P:Program}{t:TypeId}{n b off:Nat}{ag:Bool}{vs:Array Value}(hn:tsz P t=some n)(hag:Qh5 P t=some ag)(h1:ag=false->n=1)(hs:vs.size=n)
  (w:World) (hc:∀j,j<n->w.cell? ⟨b,off+j,none⟩=some (vs.getD j undef)):
  (loadVar t ⟨b,off,none⟩).run P w= .ok (if ag then .agg vs else vs.getD 0 undef) w:=by
 unfold loadVar;simp only[Sem.run_bind,Qj8 hag,Result.andThen_ok];cases ag with
 | true=>
  have hl:=run_loadCells_list (P:=P) w ⟨b,off,none⟩ vs.toList (fun j v hj=>by
   have hj':j<vs.size:=by simpa using(List.getElem?_eq_some_iff.1 hj).1
   rw[Addr.add_lit,hc j (by omega),Qjw vs j v hj])
  simp only[Array.length_toList,hs]at hl;simp only[if_true,Sem.run_bind,Qbq hn,Result.andThen_ok,hl,Sem.run_pure]
 |false=>have hn1:=h1 rfl;subst hn1;have h0:=hc 0 (by omega);simp only[Nat.add_zero]at h0;simp only[Bool.false_eq_true,if_false,run_load,h0]
theorem Qfv{i e o j n cap:Nat}(h1:i<cap)(h2:o+n<=e)(h3:j<n):i*e+o+j<cap*e:=by have:(i+1)*e<=cap*e:=Nat.mul_le_mul_right e h1;rw[Nat.add_mul,Nat.one_mul]at this;omega
theorem Qbg{w:World}{b o:Nat}{cur:Array Value}{ty:TypeId}(h:w.heap[b]? =some (.cells cur ty (0,0)))(ho:o<cur.size):w.cell? ⟨b,o,none⟩=some (cur.getD o undef):=by simp[World.cell?,h,ho,Array.getD]
theorem Qfz{n:Nat}{f:Nat->Value}{j:Nat}(hj:j<n):(Array.ofFn (n:=n) fun i=>f i.val).getD j undef=f j:=by simp[Array.getD,hj]
theorem Qaa8{o:Oper}{t:TypeId}{n:Nat}{ag:Bool}{x:Operand}{px:PV}{d:Nat}(ho:o.op= .load t x)(hd:o.dst=some d)(hlt:d<C.N)(h:Q9 C ρ fr hp a.tmps w)
  (hn:tsz C.P t=some n) (hag:Qh5 C.P t=some ag) (hx:Qr C ρ hp w px (a.eval x)) (hv:ldK n ag px d fr hp K):Qqb C ρ o a w K:=by
 have fin:∀(b off:Nat)(vs:Array Value)(p:PV),a.eval x= .pointer (some ⟨b,off,none⟩)->(ag=false->n=1)->b<w.heap.size->vs.size=n->
   (∀j,j<n->w.cell? ⟨b,off+j,none⟩=some (vs.getD j undef))->Qai w (Xof C ρ hp) p (if ag then .agg vs else vs.getD 0 undef)->K (upd fr d p) hp->Qqb C ρ o a w K:=by
  intro b off vs p ex h1 hb hs hc hr hK;refine⟨_,b,hb,fun w' hw'=>?_,upd fr d p,hp,by rw[hd];exact h.upd (Qr.ofData hr) hlt,hK⟩;have:=Qin (P:=C.P) hn hag h1 hs w' (fun j hj=>by rw[Qfk hw'];exact hc j hj);unfold execOp;simp only[ho,ex,Sem.run_bind,Instr.loadAt,Instr.sureAddr,Sem.run_pure,Result.andThen_ok,this]
 unfold ldK at hv;split at hv
 ·rename_i β i o';split at hv
  ·rename_i hb hβ;obtain⟨h1,h2,h3,hK⟩:=hv;obtain⟨b,hb2,g1,g2,g3⟩:=hx.mp_inv;rw[hβ]at g2;cases g2;have hown:=h.own β hb hβ;have hblk:=hown.blk;rw[g1]at hblk;obtain⟨_,hlt',cur,cap,c1,c2,c3,c4,c5⟩:=hblk;have hxi:=List.getElem?_eq_getElem h1;have hcl:=(hown.len i _ hxi).1;have hcap:i<cap:=by omega
   have hin:∀j,j<n->i*hb.e+o'+j<cur.size:=fun j hj=>by rw[c2];exact Qfv hcap h2 hj
   refine fin b (i*hb.e+o') (Array.ofFn (n:=n) fun j=>cur.getD (i*hb.e+o'+j.val) undef) _ g3 h3 hlt' (by simp) (fun j hj=>?_) ?_ hK
   ·rw[Qfz (f:=fun j=>cur.getD (i*hb.e+o'+j) undef) hj];exact Qbg c1 (hin j hj)
   ·refine Qns (by simp) (by rw[hcl];exact h2) h3 (fun j y hj hy=>?_);rw[Qfz (f:=fun j=>cur.getD (i*hb.e+o'+j) undef) hj,Nat.add_assoc];exact c5 i _ hxi (o'+j) y hy
  ·exact hv.elim
 ·rename_i cs;obtain⟨h1,h3,hK⟩:=hv;obtain⟨b,off,ex,hpt⟩:=hx.pt_inv;cases hpt with
  | pt _ _ _ vs hX hb hcv hr=>
   refine fin b off (Array.ofFn (n:=n) fun j=>vs j.val) _ ex h3 hb (by simp) (fun j hj=>?_) ?_ hK
   ·rw[Qfz hj];exact hcv j (by omega)
   ·refine Qns (by simp) (by simpa[PV.cells]using h1) h3 (fun j y hj hy=>?_);rw[Qfz hj];exact hr j y (by simpa[PV.cells]using hy)
 ·rename_i β o' m;obtain⟨rfl,rfl,hK⟩:=hv;obtain⟨b,u,e1,e2,e3,e4,e5⟩:=hx;refine⟨_,b,e2,fun w' hw'=>?_,upd fr d (.mso β o' m),hp,by rw[hd];exact h.upd (p:=.mso β o' m) (v:=u) e5 hlt,hK⟩;have:=Qin (P:=C.P) (t:=t) (b:=b) (off:=0) (vs:= #[u]) hn hag (fun _=>rfl) rfl w' (fun j hj=>by
   obtain rfl:j=0:=by omega
   rw[Qfk hw'];simpa using e4)
  unfold execOp;simp only[ho,e1,Sem.run_bind,Instr.loadAt,Instr.sureAddr,Sem.run_pure,Result.andThen_ok,this];rfl
 ·rename_i γ i o';split at hv
  ·rename_i γ' e ty xs hγ;obtain⟨rfl,h1,h2,h3,hK⟩:=hv;obtain⟨hB,b,hb,g1,g2,g3⟩:=hx.np_inv;have hsl:=h.slots γ';rw[hγ]at hsl;obtain⟨_,he0,b',hb',cur,cap,q1,q2,q3,q4,q5,q6,q7,q8,q9,q10,q11⟩:=hsl;rw[g1]at q1;cases q1;rw[g2]at q2;cases q2;rw[q4]at g3;have hlt':b<w.heap.size:=(Array.getElem?_eq_some_iff.1 q6).1;have hxi:=List.getElem?_eq_getElem h1;have hcl:=q10 i _ hxi;have hcap:i<cap:=by omega
   have hin:∀j,j<n->i*e+o'+j<cur.size:=fun j hj=>by rw[q7];exact Qfv hcap h2 hj
   have hvs:∀j,j<n->w.cell? ⟨b,i*e+o'+j,none⟩=some ((Array.ofFn (n:=n) fun j=>cur.getD (i*e+o'+j.val) undef).getD j undef):=fun j hj=>by rw[Qfz (f:=fun j=>cur.getD (i*e+o'+j) undef) hj];exact Qbg q6 (hin j hj)
   have hrep:=Q3f (C:=C) (ρ:=ρ) (hp:=hp) (w:=w) (ag:=ag) (n:=n) (off:=o') (x:=xs[i]) (vs:=Array.ofFn (n:=n) fun j=>cur.getD (i*e+o'+j.val) undef) (by simp) (by rw[hcl];exact h2) h3 (fun j y hj hy=>by rw[Qfz (f:=fun j=>cur.getD (i*e+o'+j) undef) hj,Nat.add_assoc];exact q11 i _ hxi (o'+j) y hy);refine⟨_,b,hlt',fun w' hw'=>?_,upd fr d _,hp,by rw[hd];exact h.upd hrep hlt,hK⟩;have:=Qin (P:=C.P) (b:=b) (off:=i*e+o') (vs:=Array.ofFn (n:=n) fun j=>cur.getD (i*e+o'+j.val) undef) hn hag h3 (by simp) w' (fun j hj=>by rw[Qfk hw'];exact hvs j hj);unfold execOp;simp only[ho,g3,Sem.run_bind,Instr.loadAt,Instr.sureAddr,Sem.run_pure,Result.andThen_ok,this]
  ·exact hv.elim
 ·exact hv.elim
theorem Qsb{tmps:Array Value}(h:Q9 C ρ fr hp tmps w){β b:Nat}{hb:HB}{l:List Nat}(_hB:isY β=false)(hβ:hp β=some hb)(hl:β∈l)(hρ:ρ β=some b):¬Xof C ρ (Qaj hp l) b:=by
 have hblk:=(h.own β hb hβ).blk;rw[hρ]at hblk;rintro(hx|⟨γ,hg,h1,h2,h3⟩)
 ·exact Ctx.cls_notX hblk.1 (Qt1 _hB) hx
 ·obtain⟨hg0,g1,_,_,_,_,g6⟩:=Qhu h1;have:=h.inj γ β b (by simp[g1]) (by simp[hβ]) h3 hρ;subst this;exact g6 h2 hl
theorem Qmp{tmps:Array Value}(h:Q9 C ρ fr hp tmps w){p:PV}{v:Value}{l:List Nat}(hr:Qbp C ρ hp w p v)(hl:∀β∈p.ref1,β∈l)(hu:Qa0 hp p≠ .undef):Qs w (Xof C ρ (Qaj hp l)) (Qa0 hp p) v:=by
 cases p with
 | mp β i o=>
  obtain⟨b,hb,g1,g2,rfl⟩:=hr;have hβl:=hl β (by simp[PV.ref1]);have hown:=h.own β hb g2;have hblk:=hown.blk;rw[g1]at hblk;obtain⟨_,hlt,cur,cap,c1,c2,c3,c4,c5⟩:=hblk;have hB:isY β=false:=by
   cases hq:isY β with
   |false=>rfl
   |true=>simp[Qa0,hq]at hu
  simp only[Qa0,g2,hB]at hu⊢;cases hx:hb.xs[i]? with
  |none=>simp[hx]at hu
  | some x=>
   simp only[Bool.false_eq_true,if_false];have hi:i<hb.xs.length:=(List.getElem?_eq_some_iff.1 hx).1;have hcl:=(hown.len i x hx).1;refine Qs.pt _ b _ (fun j=>cur.getD (i*hb.e+o+j) undef) (Qsb h hB g2 hβl g1) hlt (fun j hj=>?_) (fun j y hy=>?_)
   ·have hj':o+(j+1)<=hb.e:=by simp[hcl]at hj;omega
    exact Qbg c1 (by rw[c2];exact Qfv (by omega) hj' (Nat.lt_succ_self j))
   ·rw[List.getElem?_drop]at hy;rw[Nat.add_assoc];exact(c5 i x hx (o+j) y hy).freeze
 | mso β o n=>
  obtain⟨hb,g1,g2,g3⟩:=hr;have hB:isY β=false:=by
   cases hq:isY β with
   |false=>rfl
   |true=>simp[Qa0,hq]at hu
  simp only[Qa0,g1,hB];rcases g3 with⟨g3,rfl,rfl,rfl⟩|⟨b,cap,g3,rfl,g5,g6⟩
  ·simp only[List.take_zero];exact .slE _ _ _ (Nat.zero_le _)
  ·have hβl:=hl β (by simp[PV.ref1]);have hown:=h.own β hb g1;have hblk:=hown.blk;rw[g3]at hblk;obtain⟨_,hlt,cur,cap',c1,c2,c3,c4,c5⟩:=hblk;obtain⟨cur',ty',d1,d2⟩:=g5;rw[c1]at d1;cases d1;have hcc:o+cap=cap':=by rw[c2]at d2;exact(Nat.eq_of_mul_eq_mul_right hown.epos d2).symm
   subst hcc;have hlen:((hb.xs.drop o).take n).length=n:=by simp;omega
   have hget:∀(i:Nat)(x:PV),((hb.xs.drop o).take n)[i]? =some x->i<n/\hb.xs[o+i]? =some x:=fun i x hx=>by
    have hi:i<n:=by have:=(List.getElem?_eq_some_iff.1 hx).1;omega
    rw[List.getElem?_take_of_lt hi,List.getElem?_drop]at hx;exact⟨hi,hx⟩
   have:=Qs.sl (w:=w) (X:=Xof C ρ (Qaj hp l)) hb.e ((hb.xs.drop o).take n) b (o*hb.e) cap (fun i j=>cur.getD ((o+i)*hb.e+j) undef) (Qsb h hB g1 hβl g3) hlt (by omega) (by omega)
    (fun i x hx=>(hown.len _ x (hget i x hx).2).1)
    (fun i hi j hj=>by rw[hlen]at hi;have:=Qfv (i:=o+i) (e:=hb.e) (o:=0) (j:=j) (n:=hb.e) (cap:=o+cap) (by omega) (by omega) hj;rw[Nat.add_zero]at this;rw[show o*hb.e+i*hb.e+j=(o+i)*hb.e+j by rw[Nat.add_mul]];exact Qbg c1 (by rw[c2];exact this))
    (fun i x hx j y hy=>(c5 _ x (hget i x hx).2 j y hy).freeze)
   rwa[hlen]at this
 |undef=>simp[Qa0]at hu
 |rb=>simp[Qa0]at hu
 |nso=>simp[Qa0]at hu
 |np=>simp[Qa0]at hu
 |rag=>simp[Qa0]at hu
 |rtp=>simp[Qa0]at hu
 |rtq=>simp[Qa0]at hu
 |nst=>simp[Qa0]at hu
 |_=>exact Qs.freeze hr
theorem Q3g{p:PV}(h:p.notU=true):p≠ .undef:=by cases p<;>simp[PV.notU]at h⊢
theorem Qxn{p:PV}(h:p.isData=true):p≠ .undef:=by cases p<;>simp[PV.isData]at h⊢
theorem Qfm{tmps:Array Value}(h:Q9 C ρ fr hp tmps w){p:PV}{v:Value}{l:List Nat}(hr:Qr C ρ hp w p v)(hl:∀β∈p.refs,β∈l)(hd:(Qaa hp p).isData=true):Qai w (Xof C ρ (Qaj hp l)) (Qaa hp p) v:=by
 cases p with
 | fn f first cap=>
  obtain⟨fv,cv,rfl,h1,h2,h3,h4⟩:=hr;simp only[Qaa,PV.isData,Bool.and_eq_true,List.all_eq_true,List.mem_map,forall_exists_index,and_imp,forall_apply_eq_imp_iff₂]at hd;refine Qs.fn f _ _ fv cv (by simp[h1]) (by simp[h2]) (fun i x hx=>?_) (fun i x hx=>?_)
  ·simp only[List.getElem?_map,Option.map_eq_some_iff]at hx;obtain⟨y,hy,rfl⟩:=hx;exact Qmp h (h3 i y hy) (fun β hβ=>hl β (Qjf hy β hβ)) (Q3g (hd.1 y (List.mem_of_getElem? hy)))
  ·simp only[List.getElem?_map,Option.map_eq_some_iff]at hx;obtain⟨y,hy,rfl⟩:=hx;exact Qmp h (h4 i y hy) (fun β hβ=>hl β (Qlw hy β hβ)) (Q3g (hd.2 y (List.mem_of_getElem? hy)))
 |mp β i o=>exact Qai.of_c (Qmp (p:=.mp β i o) h hr hl (Qxn hd))
 |mso β o n=>exact Qai.of_c (Qmp (p:=.mso β o n) h hr hl (Qxn hd))
 |undef=>simp[Qaa,Qa0,PV.isData]at hd
 |rb=>simp[Qaa,Qa0,PV.isData]at hd
 |nso=>simp[Qaa,Qa0,PV.isData]at hd
 |np=>simp[Qaa,Qa0,PV.isData]at hd
 |rag=>simp[Qaa,Qa0,PV.isData]at hd
 |rtp=>simp[Qaa,Qa0,PV.isData]at hd
 |rtq=>simp[Qaa,Qa0,PV.isData]at hd
 |nst=>simp[Qaa,Qa0,PV.isData]at hd
 |tup ps=>simp[Qaa,Qa0,PV.isData]at hd
 |agg cs=>exact Qai.mono (p:=.agg cs) hr (fun _ _ _=>rfl) (fun _ _ hn hx=>hn (Qog hx)) (Nat.le_refl _)
 |_=>exact Qs.freeze hr
end Go.FW
namespace Go.FW
open Go
variable {C : Ctx} {ρ : Nat -> Option Nat} {fr : Fr} {hp : HP} {w : World} {a : Act} {K : Qg}
theorem Qf0{x:Option Operand}{y:Option Opd}{dflt n:Int}(h:Q9 C ρ fr hp a.tmps w)(ho:Qjd x=some y)(hb:Qca dflt (y.map (ev fr))=some n):
  (x=none/\y=none/\n=dflt)∨∃z k,x=some z/\a.eval z= .int k n/\y.isSome=true:=by
 cases x with
 |none=>simp[Qjd]at ho;subst ho;simp[Qca]at hb;exact .inl ⟨rfl,rfl,hb.symm⟩
 | some z=>
  simp only[Qjd,Option.map_eq_some_iff]at ho;obtain⟨u,hu,rfl⟩:=ho;have hr:=Qar h hu;simp only[Option.map_some]at hb;cases hp':ev fr u with
  |int k m=>rw[hp']at hb hr;simp[Qca]at hb;subst hb;exact .inr ⟨z,k,rfl,hr.int_inv,rfl⟩
  |_=>rw[hp']at hb;simp[Qca]at hb
theorem Qdv{P:Program}{k:IntKind}{i:Int}{y:Nat}{code:BoundsCode}(h0:0<=i)(h1:i<=y)(w:World):(Instr.sliceBound (.int k i) y code).run P w= .ok i.toNat w:=by
 unfold Instr.sliceBound;have:0<=i/\i<=y:=⟨h0,h1⟩
 simp only[asIntOf,Sem.run_bind,Sem.run_pure,Result.andThen_ok,if_pos this]
theorem Qk6{P:Program}{len cap:Nat}{lo hi mx:Option Operand}{L H M:Int}(eval:Operand->Value)
  (hL:(lo=none/\L=0)∨∃z k,lo=some z/\eval z= .int k L)
  (hH:(hi=none/\H=len)∨∃z k,hi=some z/\eval z= .int k H)
  (hM:(mx=none/\M=len)∨∃z k,mx=some z/\eval z= .int k M) (hm:mx.isSome=true->hi.isSome=true)
  (h0:0<=L) (h1:L<=H) (h2:H<=M) (h3:M<=len) (h4:len<=cap):
  ∃m,L.toNat<=m/\H.toNat<=m/\m<=cap/\(mx=none->m=cap)/\∀w,(Instr.sliceBounds true len cap (lo.map eval) (hi.map eval) (mx.map eval)).run P w= .ok (L.toNat,H.toNat,m) w:=by
 have c1:H<=(cap:Int):=by omega
 rcases hM with⟨rfl,hM⟩|⟨zm,km,rfl,hM⟩
 ·refine⟨cap,by omega,by omega,Nat.le_refl _,fun _=>rfl,fun w=>?_⟩;rcases hH with⟨rfl,hH⟩|⟨zh,kh,rfl,hH⟩<;>rcases hL with⟨rfl,hL⟩|⟨zl,kl,rfl,hL⟩
  ·subst hH;subst hL;simp[Instr.sliceBounds,Sem.run_bind]
  ·subst hH;have e:=Qdv (P:=P) (k:=kl) (code:=.sliceB) (y:=len) h0 h1;simp[Instr.sliceBounds,Sem.run_bind,hL,e]
  ·subst hL;have e:=Qdv (P:=P) (k:=kh) (code:=.sliceAcap) (y:=cap) (by omega) c1;simp[Instr.sliceBounds,Sem.run_bind,hH,e]
  ·have e:=Qdv (P:=P) (k:=kh) (code:=.sliceAcap) (y:=cap) (by omega) c1;have e2:=Qdv (P:=P) (k:=kl) (code:=.sliceB) (y:=H.toNat) h0 (by omega);simp[Instr.sliceBounds,Sem.run_bind,hH,hL,e,e2]
 ·rcases hH with⟨rfl,hH⟩|⟨zh,kh,rfl,hH⟩
  ·simp at hm
  have e:=Qdv (P:=P) (k:=km) (code:=.slice3Acap) (y:=cap) (i:=M) (by omega) (by omega);have e1:=Qdv (P:=P) (k:=kh) (code:=.slice3B) (y:=M.toNat) (i:=H) (by omega) (by omega);refine⟨M.toNat,by omega,by omega,by omega,fun h=>by simp at h,fun w=>?_⟩;rcases hL with⟨rfl,hL⟩|⟨zl,kl,rfl,hL⟩
  ·subst hL;simp[Instr.sliceBounds,Sem.run_bind,hH,hM,e,e1]
  ·have e2:=Qdv (P:=P) (k:=kl) (code:=.slice3C) (y:=H.toNat) (i:=L) h0 (by omega);simp[Instr.sliceBounds,Sem.run_bind,hH,hM,hL,e,e1,e2]
theorem Qio{P:Program}{t e:TypeId}{n len cap l h m:Nat}{ad:Option Addr}{lo hi mx:Option Value}(hu:P.underlying t=some (.slice e))(hn:tsz P e=some n)(w:World)
  (hb:(Instr.sliceBounds true len cap lo hi mx).run P w= .ok (l,h,m) w):
  (Instr.sliceAt t (.slice ad len cap) lo hi mx).run P w= .ok (.slice (if m=l then ad else ad.map (·.add (l*n))) (h-l) (m-l)) w:=by
 unfold Instr.sliceAt Instr.slice;simp only[Sem.run_bind,Qan hu,Result.andThen_ok,hb,Qbq hn,Sem.run_pure]
theorem Qpv{xs:List PV}{H L i:Nat}{x:PV}(hx:((xs.take H).drop L)[i]? =some x):xs[L+i]? =some x/\L+i<H:=by
 rw[List.getElem?_drop]at hx;have hi:L+i<H:=by have:=(List.getElem?_eq_some_iff.1 hx).1;simp at this;omega
 rw[List.getElem?_take_of_lt hi]at hx;exact⟨hx,hi⟩
theorem Qs.part{X:Nat->Prop}{e:Nat}{xs:List PV}{ad:Option Addr}{cap L H m:Nat}(h:Qs w X (.sl e xs) (.slice ad xs.length cap))(h1:L<=H)(h2:H<=xs.length)(h3:H<=m)(h4:m<=cap):
  Qs w X (.sl e ((xs.take H).drop L)) (.slice (if m=L then ad else ad.map (·.add (L*e))) (H-L) (m-L)):=by
 by_cases he:H=L
 ·subst he;have:(xs.take H).drop H=[]:=List.drop_eq_nil_of_le (by simp;omega);rw[this,Nat.sub_self];refine .slE _ _ _ ?_;cases h with
  |slE _ _ _ hc=>omega
  |sl _ _ b off _ vs hX hb hl hc=>omega
 ·have hlen:((xs.take H).drop L).length=H-L:=by simp;omega
  cases h with
  |slE=>simp at h2;omega
  | sl _ _ b off _ vs hX hb hl hc he' hv hr=>
   have hm:¬m=L:=by omega
   rw[if_neg hm];simp only[Option.map_some,Addr.add_lit];have:=Qs.sl (w:=w) (X:=X) e ((xs.take H).drop L) b (off+L*e) (m-L) (fun i j=>vs (L+i) j) hX hb (by omega) (by omega)
    (fun i x hx=>he' _ x (Qpv hx).1)
    (fun i hi j hj=>by have:=hv (L+i) (by omega) j hj;rw[show off+L*e+i*e+j=off+(L+i)*e+j by rw[Nat.add_mul];omega];exact this)
    (fun i x hx j y hy=>hr _ x (Qpv hx).1 j y hy)
   rwa[hlen]at this
theorem Qaa9{o:Oper}{t e:TypeId}{n:Nat}{x:Operand}{px:PV}{lo hi mx:Option Operand}{plo phi pmx:Option Opd}{d:Nat}(ho:o.op= .slice t x lo hi mx)(hd:o.dst=some d)(hlt:d<C.N)(h:Q9 C ρ fr hp a.tmps w)
  (hu:C.P.underlying t=some (.slice e)) (hn:tsz C.P e=some n) (hx:Qr C ρ hp w px (a.eval x)) (hlo:Qjd lo=some plo) (hhi:Qjd hi=some phi) (hmx:Qjd mx=some pmx)
  (hv:slK n px (plo.map (ev fr)) (phi.map (ev fr)) (pmx.map (ev fr)) d fr hp K):Qac C ρ o a w K:=by
 have isS:∀ {x:Option Operand} {y:Option Opd},Qjd x=some y->(x.isSome=true↔y.isSome=true):=by
  intro x y hxy;cases x with
  |none=>simp[Qjd]at hxy;subst hxy;simp
  |some z=>simp only[Qjd,Option.map_eq_some_iff]at hxy;obtain⟨u,_,rfl⟩:=hxy;simp
 have common:∀(hp':HP)(xs:List PV)(len cap:Nat)(ad:Option Addr)(L H M:Int),Q9 C ρ fr hp' a.tmps w->len=xs.length->a.eval x= .slice ad len cap->len<=cap->
   Qs w (Xof C ρ hp') (.sl n xs) (.slice ad xs.length cap)->Qca 0 (plo.map (ev fr))=some L->Qca len (phi.map (ev fr))=some H->Qca len (pmx.map (ev fr))=some M->
   0<=L->L<=H->H<=M->M<=len->((pmx.map (ev fr)).isSome=true->(phi.map (ev fr)).isSome=true)->K (upd fr d (.sl n ((xs.take H.toNat).drop L.toNat))) hp'->Qac C ρ o a w K:=by
  intro hp' xs len cap ad L H M hs hl ex hcap hr bL bH bM h0 h1 h2 h3 hm hK;have e1:=Qf0 h hlo bL;have e2:=Qf0 h hhi bH;have e3:=Qf0 h hmx bM;obtain⟨m,q1,q2,q3,_,q4⟩:∃m,L.toNat<=m/\H.toNat<=m/\m<=cap/\(mx=none->m=cap)/\∀w',(Instr.sliceBounds true len cap (lo.map a.eval) (hi.map a.eval) (mx.map a.eval)).run C.P w'= .ok (L.toNat,H.toNat,m) w':=by
   refine Qk6 (P:=C.P) a.eval ?_ ?_ ?_ (fun hq=>(isS hhi).2 (by simpa using hm (by simpa using(isS hmx).1 hq))) h0 h1 h2 h3 hcap
   ·rcases e1 with⟨q1,_,q3⟩|⟨z,k,q1,q2,_⟩
    ·exact .inl ⟨q1,q3⟩
    ·exact .inr ⟨z,k,q1,q2⟩
   ·rcases e2 with⟨q1,_,q3⟩|⟨z,k,q1,q2,_⟩
    ·exact .inl ⟨q1,q3⟩
    ·exact .inr ⟨z,k,q1,q2⟩
   ·rcases e3 with⟨q1,_,q3⟩|⟨z,k,q1,q2,_⟩
    ·exact .inl ⟨q1,q3⟩
    ·exact .inr ⟨z,k,q1,q2⟩
  have hp:=hr.part (L:=L.toNat) (H:=H.toNat) (m:=m) (by omega) (by omega) q2 q3;refine⟨_,fun w'=>?_,upd fr d _,hp',by rw[hd];exact hs.upd (Qr.ofData (Qai.of_c hp)) hlt,hK⟩;unfold execOp;simp only[ho,ex,Sem.run_bind,Qio hu hn w' (q4 w'),Result.andThen_ok];rfl
 unfold slK at hv;split at hv
 ·
  split at hv
  ·rename_i L H M bL bH bM;obtain⟨rfl,rfl,rfl,hm,hK⟩:=hv;have ex:=hx.nil_inv;refine Qac.mk hd hlt h (p:=.nilS) (v:=.slice none 0 0) (fun w'=>?_) Qs.nilS hK;have e1:=Qf0 h hlo bL;have e2:=Qf0 h hhi bH;have e3:=Qf0 h hmx bM;obtain⟨m,q1,q2,q3,_,q4⟩:∃m,(0:Int).toNat<=m/\(0:Int).toNat<=m/\m<=0/\(mx=none->m=0)/\∀w',(Instr.sliceBounds true 0 0 (lo.map a.eval) (hi.map a.eval) (mx.map a.eval)).run C.P w'= .ok ((0:Int).toNat,(0:Int).toNat,m) w':=by
    refine Qk6 (P:=C.P) a.eval ?_ ?_ ?_ (fun hq=>(isS hhi).2 (by simpa using hm (by simpa using(isS hmx).1 hq))) (Int.le_refl _) (Int.le_refl _) (Int.le_refl _) (by simp) (Nat.le_refl _)
    ·rcases e1 with⟨q1,_,q3⟩|⟨z,k,q1,q2,_⟩
     ·exact .inl ⟨q1,q3⟩
     ·exact .inr ⟨z,k,q1,q2⟩
    ·rcases e2 with⟨q1,_,q3⟩|⟨z,k,q1,q2,_⟩
     ·exact .inl ⟨q1,by simp⟩
     ·exact .inr ⟨z,k,q1,q2⟩
    ·rcases e3 with⟨q1,_,q3⟩|⟨z,k,q1,q2,_⟩
     ·exact .inl ⟨q1,by simp⟩
     ·exact .inr ⟨z,k,q1,q2⟩
   obtain rfl:m=0:=by omega
   unfold execOp;simp only[ho,ex,Sem.run_bind,Qio hu hn w' (q4 w'),Result.andThen_ok];rfl
  ·exact hv.elim
 ·rename_i e' xs;split at hv
  ·rename_i L H M bL bH bM;obtain⟨rfl,h0,h1,h2,h3,hm,hK⟩:=hv;obtain⟨ad,cap,ex,hc1,hc2⟩:=hx.sl_inv;have hx':Qs w (Xof C ρ hp) (.sl e' xs) (a.eval x):=hx;rw[ex]at hx';exact common hp xs _ cap ad L H M h rfl ex hc1 hx' bL bH bM h0 h1 h2 h3 hm hK
  ·exact hv.elim
 ·rename_i β o' m;cases pmx with
  |some zm=>revert hv;split<;>simp_all
  |none=>
  split at hv
  ·rename_i L H bL bH bM;obtain⟨he,h0,h1,h2,h3,hK⟩:=hv;have m0:mx=none:=by cases mx<;>simp[Qjd]at hmx⊢
   subst m0;have e1:=Qf0 h hlo bL;have e2:=Qf0 h hhi bH;obtain⟨hb,g1,g2,g3⟩:=hx;rw[g1]at he;simp only[Option.map_some,Option.some.injEq]at he;have hL:(lo=none/\L=0)∨∃z k,lo=some z/\a.eval z= .int k L:=by
    rcases e1 with⟨q1,_,q3⟩|⟨z,k,q1,q2,_⟩
    ·exact .inl ⟨q1,q3⟩
    ·exact .inr ⟨z,k,q1,q2⟩
   have hH:(hi=none/\H=(m:Int))∨∃z k,hi=some z/\a.eval z= .int k H:=by
    rcases e2 with⟨q1,_,q3⟩|⟨z,k,q1,q2,_⟩
    ·exact .inl ⟨q1,q3⟩
    ·exact .inr ⟨z,k,q1,q2⟩
   rcases g3 with⟨g3,ex,rfl,rfl⟩|⟨b,cap,g3,ex,g5,g6⟩
   ·obtain⟨m',q1,q2,q3,_,q4⟩:=Qk6 (P:=C.P) (len:=0) (cap:=0) (mx:=none) (M:=0) a.eval hL hH (.inl ⟨rfl,rfl⟩) (by simp) h0 h1 h2 (by simp) (Nat.le_refl _);have hH0:H.toNat=0:=by omega
    have hL0:L.toNat=0:=by omega
    have hm0:m'=0:=by omega
    refine Qac.mk hd hlt h (v:=.slice none 0 0) (fun w'=>?_) ?_ hK
    ·unfold execOp;simp only[ho,ex,Sem.run_bind,Qio hu hn w' (q4 w'),Result.andThen_ok];simp[hH0,hm0,hL0]
    ·exact⟨hb,g1,by omega,.inl ⟨g3,rfl,by omega,by omega⟩⟩
   ·have hcap:m<=cap:=by have hblk:=(h.own β hb g1).blk;rw[g3]at hblk;obtain⟨_,_,cur,cap',c1,c2,c3,c4,c5⟩:=hblk;obtain⟨cur',ty',d1,d2⟩:=g5;rw[c1]at d1;cases d1;rw[c2]at d2;have:=Nat.eq_of_mul_eq_mul_right (h.own β hb g1).epos d2;omega
    obtain⟨m',q1,q2,q3,q5,q4⟩:=Qk6 (P:=C.P) (len:=m) (cap:=cap) (mx:=none) (M:=(m:Int)) a.eval hL hH (.inl ⟨rfl,rfl⟩) (by simp) h0 h1 h2 (Int.le_refl _) hcap;obtain rfl:=q5 rfl;refine Qac.mk hd hlt h (v:=.slice (some ⟨b,(o'+L.toNat)*hb.e,none⟩) (H.toNat-L.toNat) (m'-L.toNat)) (fun w'=>?_) ?_ hK
    ·unfold execOp;simp only[ho,ex,Sem.run_bind,Qio hu hn w' (q4 w'),Result.andThen_ok];congr 1;by_cases hz:L=0
     ·subst hz;simp[Addr.add_zero']
     ·rw[if_neg (by omega)];simp[Addr.add_lit,he,Nat.add_mul]
    ·exact⟨hb,g1,by omega,.inr ⟨b,m'-L.toNat,g3,rfl,by rw[show o'+L.toNat+(m'-L.toNat)=o'+m' by omega];exact g5,by omega⟩⟩
  ·exact hv.elim
 ·exact hv.elim
end Go.FW
namespace Go.FW
open Go
variable {C : Ctx} {ρ : Nat -> Option Nat} {fr : Fr} {hp : HP} {w : World} {a : Act} {K : Qg}
def Qip(Q:PV->Value->Prop)(ps:List PV)(vs:Array Value):Prop:=vs.size=ps.length/\∀(i:Nat)(x:PV),ps[i]? =some x->Q x (vs.getD i undef)
abbrev Rows(w:World)(X:Nat->Prop)(ps:List PV)(vs:Array Value):Prop:=Qip (Qs w X) ps vs
theorem Qzz(off:Nat):∀(l:List Value)(s:Nat)(cs:Array Value),
  ((l.zipIdx s).foldl (fun cs (p:Value×Nat)=>cs.setIfInBounds (off+p.2) p.1) cs).size=cs.size/\
  ∀k,k<cs.size->((l.zipIdx s).foldl (fun cs (p:Value×Nat)=>cs.setIfInBounds (off+p.2) p.1) cs).getD k undef=if off+s<=k/\k<off+s+l.length then l.getD (k-off-s) undef else cs.getD k undef
 | [],s,cs=>by refine⟨rfl,fun k hk=>?_⟩;simp only[List.zipIdx_nil,List.foldl_nil,List.length_nil,Nat.add_zero];rw[if_neg (by omega)]
 | c::l,s,cs=>by
  obtain⟨h1,h2⟩:=Qzz off l (s+1) (cs.setIfInBounds (off+s) c);simp only[List.zipIdx_cons,List.foldl_cons];refine⟨by rw[h1];simp,fun k hk=>?_⟩;rw[h2 k (by simpa using hk)];by_cases hks:k=off+s
  ·subst hks;rw[if_neg (by omega),if_pos (by simp)];simp[Array.getD,hk]
  ·by_cases hr:off+(s+1)<=k/\k<off+(s+1)+l.length
   ·rw[if_pos hr,if_pos (by simp;omega)];have:k-off-s=(k-off-(s+1))+1:=by omega
    rw[this];simp
   ·rw[if_neg hr,if_neg (by simp;omega)];simp only[Array.getD_eq_getD_getElem?];rw[Array.getElem?_setIfInBounds_ne (by omega)]
theorem Qz0(cs:Array Value)(v:Array Value)(off:Nat):
  v.zipIdx.foldl (fun cs (x:Value×Nat)=>match x with|(c,j)=>cs.setIfInBounds (off+j) c) cs=(v.toList.zipIdx).foldl (fun cs (p:Value×Nat)=>cs.setIfInBounds (off+p.2) p.1) cs:=by
 rw[<-Array.foldl_toList,Array.toList_zipIdx]
theorem Qip.fill1{Q:PV->Value->Prop}{ps qs:List PV}{vs us:Array Value}{off:Nat}(h:Qip Q ps vs)(hq:Qip Q qs us)(hle:off+qs.length<=ps.length):
  Qip Q (ps.take off++qs++ps.drop (off+qs.length)) (us.zipIdx.foldl (fun cs (x:Value×Nat)=>match x with|(c,j)=>cs.setIfInBounds (off+j) c) vs):=by
 obtain⟨h1,h2⟩:=h;obtain⟨q1,q2⟩:=hq;rw[Qz0];obtain⟨f1,f2⟩:=Qzz off us.toList 0 vs;refine⟨by rw[f1,h1];simp;omega,fun i x hx=>?_⟩;have hi:i<ps.length:=by have:=(List.getElem?_eq_some_iff.1 hx).1;simp at this;omega
 rw[f2 i (by omega)];simp only[Nat.add_zero,Array.length_toList,Nat.sub_zero];rw[List.append_assoc,List.getElem?_append]at hx;by_cases c1:i<off
 ·rw[if_neg (by omega)];rw[if_pos (by simp;omega),List.getElem?_take_of_lt c1]at hx;exact h2 i x hx
 ·rw[if_neg (by simp;omega)]at hx;have ht:(ps.take off).length=off:=by simp;omega
  rw[ht,List.getElem?_append]at hx;by_cases c2:i-off<qs.length
  ·rw[if_pos c2]at hx;rw[if_pos (by omega)];have:=q2 _ _ hx
   rwa[show us.toList.getD (i-off) undef=us.getD (i-off) undef by simp[Array.getD_eq_getD_getElem?]]
  ·rw[if_neg c2,List.getElem?_drop]at hx;rw[if_neg (by omega)];rw[show off+qs.length+(i-off-qs.length)=i by omega]at hx;exact h2 i x hx
theorem Qk7{Q:PV->Value->Prop}(place:Nat->Option (Nat×Nat)):∀(parts:List (Nat×Value))(qs:List (Nat×List PV))(ps:List PV)(vs:Array Value),Qip Q ps vs->parts.length=qs.length->
  (∀(i:Nat)(p:Nat×Value)(q:Nat×List PV),parts[i]? =some p->qs[i]? =some q->place p.1=some (q.1,q.2.length)/\Qip Q q.2 p.2.cells/\q.1+q.2.length<=ps.length)->
  ∃vs',Instr.fill place vs parts=some vs'/\Qip Q (Qdi ps qs) vs'
 | [],[],ps,vs,h,_,_=>⟨vs,rfl,h⟩
 | [],q::qs,_,_,_,hl,_=>by simp at hl
 |p::parts,[],_,_,_,hl,_=>by simp at hl
 | (i,v)::parts,(off,xs)::qs,ps,vs,h,hl,hp=>by
  obtain⟨h1,h2,h3⟩:=hp 0 (i,v) (off,xs) rfl rfl;have hsz:v.cells.size=xs.length:=h2.1;have hn:¬((v.cells.size≠xs.length||decide (off+v.cells.size>vs.size))=true):=by have:=h.1;simp only[Bool.or_eq_true,decide_eq_true_eq,not_or];exact⟨by simp[hsz],by rw[hsz,this];simp only at h3;omega⟩
  have hlen:(ps.take off++xs++ps.drop (off+xs.length)).length=ps.length:=by simp;simp only at h3;omega
  obtain⟨vs',g1,g2⟩:=Qk7 place parts qs _ _ (h.fill1 h2 h3) (by simpa using hl) (fun j p q hpj hqj=>by obtain⟨k1,k2,k3⟩:=hp (j+1) p q (by simpa using hpj) (by simpa using hqj);exact⟨k1,k2,by rw[hlen];exact k3⟩);refine⟨vs',?_,g2⟩;unfold Instr.fill;simp only[h1];rw[if_neg hn];exact g1
theorem Qai.rows{X:Nat->Prop}{p:PV}{v:Value}(h:Qai w X p v):Rows w X p.cells v.cells:=h.cells
theorem Qhf{P:Program}{t:TypeId}{n by_:Nat}{z:PV}(h:Qgp P t=some (n,by_,z)):∃(i:TypeInfo)(zv:Value),P.info? t=some i/\i.zero=some zv/\i.size=n/\i.bytes=by_/\Qhb zv=some z:=by simp only[Qgp,Option.bind_eq_some_iff,Option.map_eq_some_iff,Prod.mk.injEq]at h;obtain⟨i,h1,zv,h2,p,h3,h4,h5,h6⟩:=h;subst h6;exact⟨i,zv,h1,h2,h4,h5,h3⟩
theorem Qdw{P:Program}{t:TypeId}{i:TypeInfo}{zv:Value}(h1:P.info? t=some i)(h2:i.zero=some zv)(w:World):(zeroValue t).run P w= .ok zv w:=by simp[zeroValue,typeInfo,h1,h2]
theorem Qxo{parts:List (Nat×Operand)}{ps:List (Nat×Nat×Opd)}{f:Nat×Operand->Option (Nat×Nat×Opd)}(h:parts.mapM f=some ps){eval:Operand->Value}{i:Nat}{p:Nat×Value}{q:Nat×Nat×Opd}
  (h1:(parts.map fun x=>(x.1,eval x.2))[i]? =some p) (h2:ps[i]? =some q):∃x,parts[i]? =some x/\f x=some q/\p=(x.1,eval x.2):=by
 obtain⟨x,hx,hf⟩:=(Qdq h).2 i q h2;refine⟨x,hx,hf,?_⟩;simp only[List.getElem?_map,hx,Option.map_some,Option.some.injEq]at h1;exact h1.symm
theorem Q7k{o:Oper}{t:TypeId}{parts:Array (Nat×Operand)}{z:PV}{n by_:Nat}{ps:List (Nat×Nat×Opd)}{d:Nat}(ho:o.op= .build t parts)(hd:o.dst=some d)(hlt:d<C.N)(h:Q9 C ρ fr hp a.tmps w)
  (hz:Qgp C.P t=some (n,by_,z)) (hps:Qp6 C.P t parts.toList=some ps)
  (hv:Qt2 z.cells (ps.map fun p=>(p.1,p.2.1,ev fr p.2.2)) d fr hp K):Qac C ρ o a w K:=by
 obtain⟨hok,hK⟩:=hv;obtain⟨ti,zv,i1,i2,i3,i4,i5⟩:=Qhf hz;have hzr:Rows w (Xof C ρ (Qaj hp ((ps.map fun p=>(p.1,p.2.1,ev fr p.2.2)).flatMap fun p=>p.2.2.refs))) z.cells zv.cells:=(Qd1 i5).rows;have hev:(parts.map fun(x:Nat×Operand)=>(x.1,a.eval x.2)).toList=parts.toList.map fun x=>(x.1,a.eval x.2):=by simp
 have key:∀(f:Nat×Operand->Option (Nat×Nat×Opd))(place:Nat->Option (Nat×Nat)),parts.toList.mapM f=some ps->(∀x q,f x=some q->place x.1=some (q.1,q.2.1)/\opd x.2=some q.2.2)->
   ∃vs',Instr.fill place zv.cells (parts.map fun(x:Nat×Operand)=>(x.1,a.eval x.2)).toList=some vs'/\
    Rows w (Xof C ρ (Qaj hp ((ps.map fun p=>(p.1,p.2.1,ev fr p.2.2)).flatMap fun p=>p.2.2.refs))) (Qdi z.cells ((ps.map fun p=>(p.1,p.2.1,ev fr p.2.2)).map fun p=>(p.1,(Qaa hp p.2.2).cells))) vs':=by
  intro f place hm hf;rw[hev];refine Qk7 place _ _ _ _ hzr (by simp[(Qdq hm).1]) (fun i p q hpi hqi=>?_);simp only[List.map_map,List.getElem?_map,Option.map_eq_some_iff]at hqi;obtain⟨q0,hq0,rfl⟩:=hqi;obtain⟨x,hx,hfx,rfl⟩:=Qxo hm hpi hq0;obtain⟨f1,f2⟩:=hf x q0 hfx;obtain⟨o1,o2,o3⟩:=hok (q0.1,q0.2.1,ev fr q0.2.2) (List.mem_map.2 ⟨q0,List.mem_of_getElem? hq0,rfl⟩);simp only[Function.comp]at o1 o2 o3⊢;refine⟨by rw[o2];exact f1,?_,by rw[o2];exact o3⟩;exact(Qfm h (Qar h f2) (fun β hβ=>List.mem_flatMap.2 ⟨_,List.mem_map.2 ⟨q0,List.mem_of_getElem? hq0,rfl⟩,hβ⟩) o1).rows
 have fin:∀vs',(∀w',(Instr.build t (parts.map fun(x:Nat×Operand)=>(x.1,a.eval x.2))).run C.P w'= .ok (.agg vs') w')->
   Rows w (Xof C ρ (Qaj hp ((ps.map fun p=>(p.1,p.2.1,ev fr p.2.2)).flatMap fun p=>p.2.2.refs))) (Qdi z.cells ((ps.map fun p=>(p.1,p.2.1,ev fr p.2.2)).map fun p=>(p.1,(Qaa hp p.2.2).cells))) vs'->Qac C ρ o a w K:=by
  intro vs' hrun hr;refine⟨.agg vs',fun w'=>?_,_,_,by rw[hd];exact(h.freeze _).upd (p:=.agg _) ⟨vs',rfl,hr.1,hr.2⟩ hlt,hK⟩;unfold execOp;simp only[ho,Sem.run_bind];have:=hrun w';rw[show(parts.map fun(x:Nat×Operand)=>(x.1,a.eval x.2))=(parts.map fun x=>match x with|(i,x)=>(i,a.eval x))from rfl]at this;rw[this];rfl
 unfold Qp6 at hps;split at hps
 ·rename_i fs hu;simp only[Option.bind_eq_some_iff]at hps;obtain⟨pl,hpl,hm⟩:=hps;obtain⟨vs',g1,g2⟩:=key _ (fun i=>pl[i]?) hm (fun x q hq=>by simp only[Option.bind_eq_some_iff,Option.map_eq_some_iff]at hq;obtain⟨r,hr,y,hy,rfl⟩:=hq;exact⟨by simpa using hr,hy⟩);refine fin vs' (fun w'=>?_) g2;unfold Instr.build;have hp1:=run_places (P:=C.P) w' fs.toList pl hpl;simp[Sem.run_bind,Qdw i1 i2,Qan hu,Array.mapM_eq_mapM_toList,hp1]at g1⊢;simp[g1]
 ·rename_i len e hu;simp only[Option.bind_eq_some_iff]at hps;obtain⟨m,hm0,hm⟩:=hps;obtain⟨vs',g1,g2⟩:=key _ (fun i=>some (i*m,m)) hm (fun x q hq=>by simp only[Option.map_eq_some_iff]at hq;obtain⟨y,hy,rfl⟩:=hq;exact⟨rfl,hy⟩);refine fin vs' (fun w'=>?_) g2;unfold Instr.build;simp only[Sem.run_bind,Qdw i1 i2,Qan hu,Qbq hm0,Result.andThen_ok,g1,Sem.run_pure]
 ·simp at hps
theorem Qs9{xs:List Operand}{ys:List Opd}(h:Q9 C ρ fr hp a.tmps w)(hm:xs.mapM opd=some ys):(ys.map (ev fr)).length=xs.length/\∀(i:Nat)(x:PV),(ys.map (ev fr))[i]? =some x->Qr C ρ hp w x ((xs.map a.eval).toArray.getD i undef):=by
 obtain⟨h1,h2⟩:=Qdq hm;refine⟨by simp[h1],fun i x hx=>?_⟩;simp only[List.getElem?_map,Option.map_eq_some_iff]at hx;obtain⟨y,hy,rfl⟩:=hx;obtain⟨z,hz,ho⟩:=h2 i y hy;have e:((xs.map a.eval).toArray.getD i undef)=a.eval z:=by simp[Array.getD_eq_getD_getElem?,List.getElem?_map,hz]
 rw[e];exact Qar h ho
theorem Qr.toA{p:PV}{v:Value}(h:Qr C ρ hp w p v)(hc:p.isCap=true):Qbp C ρ hp w p v:=by cases p<;>first|exact h|simp[PV.isCap]at hc
theorem Qaba{o:Oper}{f:FuncId}{first cap:Array Operand}{pf pc:List Opd}{d:Nat}(ho:o.op= .makeFunc (.func f) first cap)(hd:o.dst=some d)(hlt:d<C.N)(h:Q9 C ρ fr hp a.tmps w)
  (h1:first.toList.mapM opd=some pf) (h2:cap.toList.mapM opd=some pc)
  (hv:(pf.map (ev fr)++pc.map (ev fr)).all PV.isCap=true/\K (upd fr d (.fn f (pf.map (ev fr)) (pc.map (ev fr)))) hp):Qac C ρ o a w K:=by
 obtain⟨hc,hK⟩:=hv;rw[List.all_eq_true]at hc;obtain⟨f1,f2⟩:=Qs9 h h1;obtain⟨c1,c2⟩:=Qs9 h h2;refine Qac.mk hd hlt h (v:=.func (.func f) (first.map a.eval) (cap.map a.eval)) (fun w'=>?_) ?_ hK
 ·unfold execOp;simp only[ho,Sem.run_bind,Instr.makeFunc,Sem.run_pure,Result.andThen_ok]
 ·refine⟨_,_,rfl,by simpa using f1.symm,by simpa using c1.symm,fun i x hx=>?_,fun i x hx=>?_⟩
  ·have:=f2 i x hx;rw[show(first.toList.map a.eval).toArray=first.map a.eval from Array.ext' (by simp)]at this;exact this.toA (hc x (List.mem_append_left _ (List.mem_of_getElem? hx)))
  ·have:=c2 i x hx;rw[show(cap.toList.map a.eval).toArray=cap.map a.eval from Array.ext' (by simp)]at this;exact this.toA (hc x (List.mem_append_right _ (List.mem_of_getElem? hx)))
theorem Q40{o:Oper}{x:Operand}{px:PV}(ho:o.op= .nilCheck x)(hlt:∀d,o.dst=some d->d<C.N)(h:Q9 C ρ fr hp a.tmps w)
  (hx:Qr C ρ hp w px (a.eval x)) (hv:Qt3 px o.dst fr hp K):Qac C ρ o a w K:=by
 have key:(∃b o',a.eval x= .pointer (some ⟨b,o',none⟩))∨(∃f fv cv,a.eval x= .func (.func f) fv cv)->(∀d,o.dst=some d->K (upd fr d px) hp)->(o.dst=none->K fr hp)->Qac C ρ o a w K:=by
  intro hsh k1 k2;have hrun:∀w',(execOp a.eval o).run C.P w'= .ok (.value (a.eval x)) w':=by intro w';unfold execOp;rcases hsh with⟨b,o',e⟩|⟨f,fv,cv,e⟩<;>simp only[ho,e]<;>rfl
  cases hd:o.dst with
  |some d=>exact⟨_,hrun,_,_,by rw[hd];exact h.upd hx (hlt d hd),k1 d hd⟩
  |none=>exact⟨_,hrun,fr,hp,by rw[hd];exact h,k2 hd⟩
 cases px with
 |mp β i o'=>obtain⟨b,hb,_,_,e⟩:=hx.mp_inv;refine key (.inl ⟨_,_,e⟩) (fun d hd=>?_) (fun hd=>?_)<;>(rw[hd]at hv;exact hv)
 |pt cs=>obtain⟨b,off,e,_⟩:=hx.pt_inv;refine key (.inl ⟨_,_,e⟩) (fun d hd=>?_) (fun hd=>?_)<;>(rw[hd]at hv;exact hv)
 |fn f first cap=>obtain⟨fv,cv,e,_⟩:=hx;refine key (.inr ⟨_,_,_,e⟩) (fun d hd=>?_) (fun hd=>?_)<;>(rw[hd]at hv;exact hv)
 |_=>exact hv.elim
end Go.FW
namespace Go.FW
open Go
variable {C : Ctx} {ρ : Nat -> Option Nat} {fr : Fr} {hp : HP} {w : World} {a : Act} {K : Qg}
def Qa3(C:Ctx)(two:Bool)(w:World)(K:Qg)(a':Act)(w':World):Prop:=
 a'.defers=[]/\(∃fr' hp',Sim C fr' hp' a'.tmps w'/\K fr' hp')/\(two=true->Ext Qaw w w')
theorem Qcc{P:Program}{o:Oper}{v:Value}{w w':World}{a:Act}{K':Act->World->Prop}{Q:Exit->Act->World->Prop}(hr:(execOp a.eval o).run P w= .ok (.value v) w')(hK:K' (a.put o.dst v) w'):o.wp P a w K' Q:=by unfold Oper.wp;rw[hr];exact hK
theorem Qfn{a:Act}{d:Option Nat}{v:Value}:(a.put d v).defers=a.defers:=by cases d<;>rfl
theorem Qjx(w:World)(o:Obj)(k:Nat)(h:k<w.heap.size):(w.alloc o).heap[k]? =w.heap[k]? :=by show(w.heap.push o)[k]? =_;rw[Array.getElem?_push,if_neg (by omega)]
theorem Qa8(w:World)(o:Obj):(w.alloc o).heap[w.heap.size]? =some o:=by show(w.heap.push o)[w.heap.size]? =_;simp
theorem Qjy(w:World)(o:Obj):(w.alloc o).heap.size=w.heap.size+1:=by show(w.heap.push o).size=_;simp
theorem Ext.alloc(w:World)(o:Obj)(Y:Nat->Prop):Ext Y w (w.alloc o):=⟨rfl,rfl,rfl,by rw[Qjy];omega,fun b hb _=>Qjx w o b hb⟩
theorem Ext.drew(w:World)(Y:Nat->Prop):Ext Y w w.drew:=⟨rfl,rfl,rfl,Nat.le_refl _,fun _ _ _=>rfl⟩
theorem Qwj{d:Nat}(h:d<C.N):isB d=false:=by have:=C.hN;simp[isB];omega
theorem Q9.newBlockG{tmps:Array Value}{fr':Fr}(h:Q9 C ρ fr hp tmps w)(d:Nat)(hB:isY d=false)(hgone:Qwi C ρ hp w d fr fr')(hb':HB)(cur:Array Value)(cap:Nat)(w':World)(hw:w'=w.alloc (.cells cur hb'.ty)∨w'=w.drew.alloc (.cells cur hb'.ty))
  (hs:cur.size=cap*hb'.e) (hle:hb'.xs.length<=cap) (hm:cap<=maxLen) (he:0<hb'.e) (hl:∀(i:Nat)(x:PV),hb'.xs[i]? =some x->x.cells.length=hb'.e/\x.isData=true)
  (hc:∀(i:Nat)(x:PV),hb'.xs[i]? =some x->∀(j:Nat)(y:PV),x.cells[j]? =some y->Qs w (Xof C ρ hp) y (cur.getD (i*hb'.e+j) undef)):
  Q9 C (rb ρ d (some w.heap.size)) fr' (Qv hp d hb') tmps w'/\Ext Qaw w w':=by
 have hext:∀Y,Ext Y w w':=fun Y=>by
  rcases hw with rfl|rfl
  ·exact Ext.alloc w _ Y
  ·exact(Ext.drew w Y).trans (Ext.alloc w.drew _ Y)
 have hsz:w'.heap.size=w.heap.size+1:=by rcases hw with rfl|rfl<;>rw[Qjy]<;>rfl
 have hself:w'.heap[w.heap.size]? =some (.cells cur hb'.ty (0,0)):=by
  rcases hw with rfl|rfl
  ·exact Qa8 w _
  ·exact Qa8 w.drew _
 refine⟨h.rebindG d (some w.heap.size) hb' hB hgone (hext _) (fun c hc'=>?_) he hl (by simp) (fun c hc'=>?_),hext _⟩
 ·cases hc';exact⟨.inl h.ext.size,by omega,.inl (Nat.le_refl _)⟩
 ·cases hc';exact⟨cur,cap,hself,hs,hle,hm,hc⟩
theorem Q9.newBlock{tmps:Array Value}(h:Q9 C ρ fr hp tmps w)(d:Nat)(hB:isB d=false)(hb':HB)(cur:Array Value)(cap:Nat)(w':World)(hw:w'=w.alloc (.cells cur hb'.ty)∨w'=w.drew.alloc (.cells cur hb'.ty))
  (hs:cur.size=cap*hb'.e) (hle:hb'.xs.length<=cap) (hm:cap<=maxLen) (he:0<hb'.e) (hl:∀(i:Nat)(x:PV),hb'.xs[i]? =some x->x.cells.length=hb'.e/\x.isData=true)
  (hc:∀(i:Nat)(x:PV),hb'.xs[i]? =some x->∀(j:Nat)(y:PV),x.cells[j]? =some y->Qs w (Xof C ρ hp) y (cur.getD (i*hb'.e+j) undef)):
  Q9 C (rb ρ d (some w.heap.size)) (Qa2 d fr) (Qv hp d hb') tmps w'/\Ext Qaw w w':=
 h.newBlockG d (Qlu hB) (Qmn hB) hb' cur cap w' hw hs hle hm he hl hc
theorem Qct:maxLen=9223372036854775807:=rfl
theorem Qa3.ofBlock{two:Bool}{o:Oper}{d:Nat}{v:Value}{p:PV}{w':World}{fr':Fr}{hp':HP}{ρ':Nat->Option Nat}(hd:o.dst=some d)(hlt:d<C.N)(hdef:a.defers=[])
  (h:Q9 C ρ' fr' hp' a.tmps w') (hx:two=true->Ext Qaw w w') (hv:Qr C ρ' hp' w' p v) (hK:K (upd fr' d p) hp'):Qa3 C two w K (a.put o.dst v) w':=by
 refine⟨by rw[Qfn];exact hdef,⟨_,hp',⟨ρ',?_⟩,hK⟩,hx⟩;rw[hd];exact h.upd hv hlt
theorem Qai.rows1{X:Nat->Prop}{p:PV}{v:Value}{n:Nat}(h:Qai w X p v)(hn:p.cells.length=n):v.cells.size=1*n/\∀(i:Nat)(x:PV),[p][i]? =some x->∀(j:Nat)(y:PV),x.cells[j]? =some y->Qs w X y (v.cells.getD (i*n+j) undef):=by
 obtain⟨h1,h2⟩:=h.cells;refine⟨by omega,fun i x hx j y hy=>?_⟩
 match i,hx with
 |0,hx=>simp at hx;subst hx;simpa using h2 j y hy
 |i+1,hx=>simp at hx
theorem Qago{d n ty:Nat}{x:PV}{w':World}:Qr C (rb ρ d (some w.heap.size)) (Qv hp d ⟨n,ty,[x],false⟩) w' (.mp d 0 0) (.pointer (some ⟨w.heap.size,0,none⟩)):=by refine⟨w.heap.size,⟨n,ty,[x],false⟩,Qb0 _ _ _,by simp[Qv],by simp⟩
theorem Q7l{o:Oper}{t:TypeId}{n:Nat}{x:Operand}{px:PV}{d:Nat}{Q:Exit->Act->World->Prop}(ho:o.op= .box t x)(hd:o.dst=some d)(hlt:d<C.N)(hdef:a.defers=[])(h:Q9 C ρ fr hp a.tmps w)
  (hx:Qr C ρ hp w px (a.eval x)) (hN:∀cs,px= .rag cs->Qp8 n t cs d fr hp K->o.wp C.P a w (Qa3 C true w K) Q) (hv:Qdu n t px d fr hp K):o.wp C.P a w (Qa3 C true w K) Q:=by
 unfold Qdu at hv;split at hv
 ·exact hN _ rfl hv
 split at hv
 ·rename_i β o' m hm;have hpx:px= .mso β o' m:=by
   cases px with
   |mso β2 o2 m2=>
    simp only at hm;split at hm
    ·cases hm;rfl
    ·cases hm
   |_=>cases hm
  subst hpx;have hs:=h.grow (w':=w.alloc (.cells (a.eval x).cells t)) (Ext.alloc w _ _);have hx':Qc5 ρ hp (w.alloc (.cells (a.eval x).cells t)) β o' m (a.eval x):=Qc5.move hx ⟨rfl,fun hb hβ=>⟨hb,hβ,rfl,Nat.le_refl _,fun b cap _ hc=>Qb7 (Qjx w _ b (Qdj hc)) hc⟩⟩;have hc1:(a.eval x).cells= #[a.eval x]:=by obtain⟨ad,cap,e⟩:=Qr.ms_inv hx;rw[e];rfl
  refine Qcc (v:=.pointer (some ⟨w.heap.size,0,none⟩)) (w':=w.alloc (.cells (a.eval x).cells t)) ?_ (Qa3.ofBlock (p:=.rb β o' m) hd hlt hdef hs (fun _=>Ext.alloc w _ _) ⟨w.heap.size,a.eval x,rfl,by rw[Qjy];omega,?_,?_,hx'⟩ hv)
  ·unfold execOp;simp only[ho,Instr.box,newVar,newRow];simp
  ·rintro(hq|⟨γ,hg,g1,_,g3⟩)
   ·have:=C.hX0 _ hq;have:=h.ext.size;omega
   ·have:=(h.own γ hg g1).blk;rw[g3]at this;have:=this.2.1;omega
  ·have:=Qa8 w (.cells (a.eval x).cells t);rw[Qbg this (by rw[hc1];simp),hc1];rfl
 obtain⟨h1,h2,h3,hK⟩:=hv;have hr:=Qfm h hx (fun β hβ=>hβ) h1;obtain⟨r1,r2⟩:=hr.rows1 h2;obtain⟨hs,he⟩:=(h.freeze px.refs).newBlock d (Qwj hlt) ⟨n,t,[Qaa hp px],false⟩ (a.eval x).cells 1 _ (.inl rfl) r1 (by simp) (by rw[Qct];omega) h3
  (fun i y hy=>by
   match i,hy with
   |0,hy=>simp at hy;subst hy;exact⟨h2,h1⟩
   |i+1,hy=>simp at hy) r2
 refine Qcc (v:=.pointer (some ⟨w.heap.size,0,none⟩)) (w':=w.alloc (.cells (a.eval x).cells t)) ?_ (Qa3.ofBlock hd hlt hdef hs (fun _=>he) Qago hK);unfold execOp;simp only[ho,Instr.box,newVar,newRow];simp
theorem Q2d{o:Oper}{t:TypeId}{n:Nat}{ti:TypeInfo}{zv:Value}{z:PV}{d:Nat}{Q:Exit->Act->World->Prop}(ho:o.op= .alloc t)(hd:o.dst=some d)(hlt:d<C.N)(hdef:a.defers=[])(h:Q9 C ρ fr hp a.tmps w)
  (i1:C.P.info? t=some ti) (i2:ti.zero=some zv) (hz:Qhb zv=some z) (hv:Qdu n t z d fr hp K):o.wp C.P a w (Qa3 C true w K) Q:=by
 unfold Qdu at hv;split at hv
 ·exact absurd (Qim hz).1 (by simp[PV.isData])
 split at hv
 ·rename_i β o' m hm;have hd:=(Qim hz).1;cases z with
  |mso=>simp[PV.isData]at hd
  |_=>cases hm
 obtain⟨h1,h2,h3,hK⟩:=hv;have hr:=Qfm (C:=C) (ρ:=ρ) (hp:=hp) h (Qr.ofData (Qd1 (w:=w) hz)) (fun β hβ=>hβ) h1;obtain⟨r1,r2⟩:=hr.rows1 h2;obtain⟨hs,he⟩:=(h.freeze z.refs).newBlock d (Qwj hlt) ⟨n,t,[Qaa hp z],false⟩ zv.cells 1 _ (.inl rfl) r1 (by simp) (by rw[Qct];omega) h3
  (fun i y hy=>by
   match i,hy with
   |0,hy=>simp at hy;subst hy;exact⟨h2,h1⟩
   |i+1,hy=>simp at hy) r2
 refine Qcc (v:=.pointer (some ⟨w.heap.size,0,none⟩)) (w':=w.alloc (.cells zv.cells t)) ?_ (Qa3.ofBlock hd hlt hdef hs (fun _=>he) Qago hK);unfold execOp;simp only[ho,Instr.alloc,Sem.run_bind,Qdw i1 i2,Result.andThen_ok,newVar,newRow];simp
theorem Qz1{i e j:Nat}(hj:j<e):(i*e+j)%e=j:=by rw[Nat.add_comm,Nat.add_mul_mod_self_right,Nat.mod_eq_of_lt hj]
theorem Qabb{i e j:Nat}(hj:j<e):(i*e+j)/e=i:=by rw[Nat.add_comm,Nat.add_mul_div_right _ _ (by omega),Nat.div_eq_of_lt hj,Nat.zero_add]
theorem Qwk{z:Array Value}{n k:Nat}(hk:k<n)(hz:0<z.size):(madeCells z n).getD k undef=z.getD (k%z.size) undef:=by have h1:k%z.size<z.size:=Nat.mod_lt _ hz;simp[madeCells,Array.getD,hk,h1]
theorem Qagp{d:Nat}{hb:HB}{n cap:Nat}{w':World}{cur:Array Value}(hle:n<=hb.xs.length)(hcur:w'.heap[w.heap.size]? =some (.cells cur hb.ty (0,0)))(hs:cur.size=cap*hb.e)(hm:cap<=maxLen):
  Qr C (rb ρ d (some w.heap.size)) (Qv hp d hb) w' (.ms d n) (.slice (some ⟨w.heap.size,0,none⟩) n cap):=
 ⟨hb,by simp[Qv],by omega,.inr ⟨w.heap.size,cap,Qb0 _ _ _,by simp,⟨cur,hb.ty,hcur,by rw[Nat.zero_add];exact hs⟩,by omega⟩⟩
theorem Qabc{o:Oper}{t e:TypeId}{n by_:Nat}{z:PV}{l c:Operand}{pl pc:PV}{d:Nat}{Q:Exit->Act->World->Prop}(ho:o.op= .makeSlice t l c)(hd:o.dst=some d)(hlt:d<C.N)(hdef:a.defers=[])(h:Q9 C ρ fr hp a.tmps w)
  (hu:C.P.underlying t=some (.slice e)) (hz:Qgp C.P e=some (n,by_,z)) (hl:Qr C ρ hp w pl (a.eval l)) (hc:Qr C ρ hp w pc (a.eval c)) (hv:mkK n by_ e z pl pc d fr hp K):o.wp C.P a w (Qa3 C true w K) Q:=by
 unfold mkK at hv;split at hv
 ·rename_i kl L kc Cc;obtain⟨h0,h1,h2,h3,h4,h5,hK⟩:=hv;obtain⟨ti,zv,i1,i2,i3,i4,i5⟩:=Qhf hz;have el:=hl.int_inv;have ec:=hc.int_inv;have hrow:=(Qd1 (w:=w) (X:=Xof C ρ hp) i5).cells;have hzs:zv.cells.size=n:=by rw[hrow.1];exact h1
  have hrun:=run_make (P:=C.P) w t e ti zv hu i1 i2 kl kc L Cc h2 h3 (by rw[i4];exact h4) h5;rw[i3]at hrun;obtain⟨hs,he⟩:=h.newBlock d (Qwj hlt) ⟨n,e,List.replicate L.toNat z,false⟩ (madeCells zv.cells (Cc.toNat*n)) Cc.toNat _ (.inl rfl) (size_madeCells _ _) (by simp;omega) (by rw[Qct];omega) h0
   (fun i x hx=>by have hx':=List.mem_of_getElem? hx;obtain rfl:=(List.mem_replicate.1 hx').2;exact⟨h1,(Qim i5).1⟩)
   (fun i x hx j y hy=>by
    have hi:i<L.toNat:=by have:=(List.getElem?_eq_some_iff.1 hx).1;simpa using this
    obtain rfl:=(List.mem_replicate.1 (List.mem_of_getElem? hx)).2;have hj:j<n:=by have:=(List.getElem?_eq_some_iff.1 hy).1;omega
    have hlt2:i*n+0+j<Cc.toNat*n:=Qfv (by omega) (by omega:0+n<=n) hj;rw[Qwk (by omega) (by omega),hzs,Qz1 hj];exact hrow.2 j y hy)
  refine Qcc (v:=.slice (some ⟨w.heap.size,0,none⟩) L.toNat Cc.toNat) ?_ (Qa3.ofBlock hd hlt hdef hs (fun _=>he) (Qagp (by simp) (Qa8 w _) (size_madeCells _ _) (by rw[Qct];omega)) hK);unfold execOp;simp only[ho,el,ec,Sem.run_bind,hrun,Result.andThen_ok];rfl
 ·exact hv.elim
end Go.FW
namespace Go.FW
open Go
variable {C : Ctx} {ρ : Nat -> Option Nat} {fr : Fr} {hp : HP} {w : World} {a : Act} {K : Qg}
theorem Qt6(n:Nat):∀(xs:List (List PV))(s:Nat)(pre rest:List PV),(∀x∈xs,x.length=n)->pre.length=s*n->rest.length=xs.length*n->
  Qdi (pre++rest) ((xs.zipIdx s).map fun p=>(p.2*n,p.1))=pre++xs.flatten
 | [],s,pre,rest,_,_,hr=>by simp at hr;subst hr;simp[Qdi]
 | x::xs,s,pre,rest,hx,hp,hr=>by
  have hxn:=hx x (by simp);simp only[List.zipIdx_cons,List.map_cons,Qdi];have e1:(pre++rest).take (s*n)=pre:=by rw[<-hp];exact List.take_left
  have e2:(pre++rest).drop (s*n+x.length)=rest.drop n:=by rw[hxn,<-hp,<-List.drop_drop,List.drop_left]
  rw[e1,e2];have hlen:(pre++x).length=(s+1)*n:=by simp[hp,hxn,Nat.add_mul]
  have hrest:(rest.drop n).length=xs.length*n:=by simp[hr,Nat.add_mul]
  rw[Qt6 n xs (s+1) (pre++x) (rest.drop n) (fun y hy=>hx y (by simp[hy])) hlen hrest];simp
theorem Qz2{n:Nat}(hn:0<n):∀(xs:List (List PV))(i j:Nat)(x:List PV)(y:PV),(∀x∈xs,x.length=n)->xs[i]? =some x->x[j]? =some y->xs.flatten[i*n+j]? =some y
 | [],i,j,x,y,_,h,_=>by simp at h
 |z::xs,0,j,x,y,hl,h,hy=>by simp at h;subst h;have hj:j<z.length:=(List.getElem?_eq_some_iff.1 hy).1;simp only[List.flatten_cons,Nat.zero_mul,Nat.zero_add];rw[List.getElem?_append_left hj];exact hy
 |z::xs,i+1,j,x,y,hl,h,hy=>by simp at h;have hz:=hl z (by simp);simp only[List.flatten_cons];rw[List.getElem?_append_right (by rw[hz,Nat.add_mul];omega)];rw[show(i+1)*n+j-z.length=i*n+j by rw[hz,Nat.add_mul];omega];exact Qz2 hn xs i j x y (fun q hq=>hl q (by simp[hq])) h hy
theorem Qy0{parts:List (Nat×Operand)}{len i:Nat}{p:Nat×Operand}(h:parts.map (·.1)=List.range len)(hp:parts[i]? =some p):p.1=i:=by
 have h1:(parts.map (·.1))[i]? =some p.1:=by simp[hp]
 rw[h]at h1;have hi:i<len:=by have:=(List.getElem?_eq_some_iff.1 h1).1;simpa using this
 rw[List.getElem?_range hi]at h1;simp at h1;exact h1.symm
theorem Q7m{X:Nat->Prop}{e:TypeId}{n N by_:Nat}{z:PV}{zv:Value}(i5:Qhb zv=some z)(hz:z.cells.length=n)(hn:0<n):
  Rows w X ((List.range N).map fun k=>z.cells.getD (k%n) .undef) ((Array.range N).map (zv.cells[· %zv.cells.size]!)):=by
 have hrow:=(Qd1 (w:=w) (X:=X) i5).cells;refine⟨by simp,fun i x hx=>?_⟩;have hi:i<N:=by have:=(List.getElem?_eq_some_iff.1 hx).1;simpa using this
 simp only[List.getElem?_map,List.getElem?_range hi,Option.map_some,Option.some.injEq]at hx;have hm:i%n<z.cells.length:=by rw[hz];exact Nat.mod_lt _ hn
 have hx':z.cells[i%n]? =some x:=by rw[<-hx];simp[hm]
 have:=hrow.2 _ x hx';have hs:zv.cells.size=n:=by rw[hrow.1];exact hz
 have hm2:i%n<zv.cells.size:=by omega
 have e2:((Array.range N).map (zv.cells[· %zv.cells.size]!)).getD i undef=zv.cells.getD (i%n) undef:=by have hmn:i%n<n:=Nat.mod_lt _ hn;simp[Array.getD,hi,hs,hmn,getElem!_def,Array.getElem?_eq_getElem hm2]
 rw[e2];exact this
theorem Qabd{o:Oper}{t e:TypeId}{len n by_:Nat}{z:PV}{parts:Array (Nat×Operand)}{ps:List Opd}{d:Nat}{Q:Exit->Act->World->Prop}(ho:o.op= .buildSlice t len parts)(hd:o.dst=some d)(hlt:d<C.N)(hdef:a.defers=[])(h:Q9 C ρ fr hp a.tmps w)
  (hu:C.P.underlying t=some (.slice e)) (hz:Qgp C.P e=some (n,by_,z)) (hrange:parts.toList.map (·.1)=List.range len) (hsmall:len*n<=16777216) (hzn:z.cells.length=n) (hps:(parts.toList.mapM fun p=>opd p.2)=some ps)
  (hv:bsO n e (ps.map (ev fr)) d fr hp K):o.wp C.P a w (Qa3 C true w K) Q:=by
 obtain⟨h0,hok,hK⟩:=hv;obtain⟨ti,zv,i1,i2,i3,i4,i5⟩:=Qhf hz;obtain⟨m1,m2⟩:=Qdq hps;have hlen:parts.toList.length=len:=by have:=congrArg List.length hrange;simpa using this
 have hpl:ps.length=len:=by omega
 let xs:List (List PV):=(ps.map (ev fr)).map fun p=>(Qaa hp p).cells
 have hxl:∀x∈xs,x.length=n:=by intro x hx;simp only[xs,List.mem_map]at hx;obtain⟨p,⟨q,hq,rfl⟩,rfl⟩:=hx;exact(hok _ (List.mem_map.2 ⟨q,hq,rfl⟩)).2
 have hxlen:xs.length=len:=by simp[xs,hpl]
 have hev:(parts.map fun(x:Nat×Operand)=>(x.1,a.eval x.2)).toList=parts.toList.map fun x=>(x.1,a.eval x.2):=by simp
 have hbase:Rows w (Xof C ρ (Qaj hp ((ps.map (ev fr)).flatMap PV.refs))) ((List.range (len*n)).map fun k=>z.cells.getD (k%n) .undef) ((Array.range (len*n)).map ((if len*n=0 then(#[]:Array Value)else zv.cells)[· %(if len*n=0 then(#[]:Array Value)else zv.cells).size]!)):=by
  by_cases hl0:len*n=0
  ·rw[if_pos hl0,hl0];exact⟨by simp,by simp⟩
  ·rw[if_neg hl0];exact Q7m (e:=e) (by_:=by_) i5 hzn h0
 obtain⟨vs',g1,g2⟩:=Qk7 (fun i=>some (i*n,n)) (parts.toList.map fun x=>(x.1,a.eval x.2)) ((xs.zipIdx 0).map fun p=>(p.2*n,p.1)) _ _ hbase (by simp[hxlen,hlen]) (fun i p q hpi hqi=>by
  simp only[List.getElem?_map,Option.map_eq_some_iff]at hpi hqi;obtain⟨x,hx,rfl⟩:=hpi;obtain⟨q0,hq0,rfl⟩:=hqi;rw[List.getElem?_zipIdx]at hq0;simp only[Option.map_eq_some_iff]at hq0;obtain⟨y,hy,rfl⟩:=hq0;simp only[Nat.zero_add];have hyn:=hxl y (List.mem_of_getElem? hy);simp only[xs,List.getElem?_map,Option.map_eq_some_iff]at hy;obtain⟨pv,⟨u,hu',rfl⟩,rfl⟩:=hy;obtain⟨x',hx',ho'⟩:=m2 i u hu';rw[hx]at hx';cases hx';have hi:i<len:=by have:=(List.getElem?_eq_some_iff.1 hx).1;omega
  obtain⟨o1,o2⟩:=hok (ev fr u) (List.mem_map.2 ⟨u,List.mem_of_getElem? hu',rfl⟩);refine⟨by rw[Qy0 hrange hx,hyn],(Qfm h (Qar h ho') (fun β hβ=>List.mem_flatMap.2 ⟨_,List.mem_map.2 ⟨u,List.mem_of_getElem? hu',rfl⟩,hβ⟩) o1).rows,?_⟩;rw[hyn];simp;have:(i+1)*n<=len*n:=Nat.mul_le_mul_right n hi;rw[Nat.add_mul]at this;omega)
 have hflat:=Qt6 n xs 0 [] ((List.range (len*n)).map fun k=>z.cells.getD (k%n) .undef) hxl (by simp) (by simp[hxlen]);simp only[List.nil_append]at hflat;rw[hflat]at g2;have hfl:xs.flatten.length=len*n:=by
  have:=g2.1;have hb:=hbase.1;have h2:Qdi ((List.range (len*n)).map fun k=>z.cells.getD (k%n) .undef) ((xs.zipIdx 0).map fun p=>(p.2*n,p.1))=xs.flatten:=hflat;rw[List.length_flatten];have:xs.map List.length=List.replicate xs.length n:=by apply List.ext_getElem (by simp);intro i h1 h2;simp only[List.getElem_map,List.getElem_replicate];exact hxl _ (List.getElem_mem _)
  rw[this,List.sum_replicate_nat,hxlen]
 have hvs:vs'.size=len*n:=by rw[g2.1,hfl]
 obtain⟨hs,he⟩:=(h.freeze ((ps.map (ev fr)).flatMap PV.refs)).newBlock d (Qwj hlt) ⟨n,e,(ps.map (ev fr)).map (Qaa hp),false⟩ vs' len _ (.inl rfl) hvs (by simp[hpl]) (by rw[Qct];have:len*1<=len*n:=Nat.mul_le_mul_left len h0;omega) h0
  (fun i x hx=>by simp only[List.getElem?_map,Option.map_eq_some_iff]at hx;obtain⟨p,⟨u,hu',rfl⟩,rfl⟩:=hx;obtain⟨o1,o2⟩:=hok (ev fr u) (List.mem_map.2 ⟨u,List.mem_of_getElem? hu',rfl⟩);exact⟨o2,o1⟩)
  (fun i x hx j y hy=>by refine g2.2 _ y (Qz2 h0 xs i j x.cells y hxl ?_ hy);simp only[List.getElem?_map,Option.map_eq_some_iff,xs]at hx⊢;obtain⟨p,hp1,rfl⟩:=hx;exact⟨p,hp1,rfl⟩)
 refine Qcc (v:=.slice (some ⟨w.heap.size,0,none⟩) len len) ?_ (Qa3.ofBlock hd hlt hdef hs (fun _=>he) ?_ hK)
 ·unfold execOp;have hsm:¬(len*n>2^24):=by omega
  have hpe:(parts.map fun x=>match x with|(i,x)=>(i,a.eval x)).toList=parts.toList.map fun x=>(x.1,a.eval x.2):=hev;simp only[ho,Instr.buildSlice,Sem.run_bind,Qan hu,Result.andThen_ok,Qbq (show tsz C.P e=some n by simp[tsz,i1,i3]),if_neg hsm,hpe];by_cases hl0:len*n=0
  ·simp only[if_pos hl0]at g1⊢;simp only[Sem.run_pure,Result.andThen_ok,Sem.run_bind,g1,newRow];simp
  ·simp only[if_neg hl0]at g1⊢;simp only[Sem.run_pure,Result.andThen_ok,Sem.run_bind,Qdw i1 i2,g1,newRow];simp
 ·rw[show(ps.map (ev fr)).length=len by simp[hpl]];exact Qagp (by simp[hpl]) (Qa8 w _) hvs (by rw[Qct];have:len*1<=len*n:=Nat.mul_le_mul_left len h0;omega)
theorem Qiq(w:World)(b:Nat)(cur:Array Value):Ext (fun c=>c=b) w (w.setRow b cur):=
 ⟨rfl,rfl,rfl,by simp,fun k hk hn=>setRow_other w b k _ hn⟩
theorem Qhv{cur:Array Value}{p:Nat}{cs:List Value}{k:Nat}(hle:p+cs.length<=cur.size)(hk:k<cur.size):
  ((cur.toList.take p++cs++cur.toList.drop (p+cs.length)).toArray).getD k undef=if p<=k/\k<p+cs.length then cs.getD (k-p) undef else cur.getD k undef:=by
 have hk':k<cur.toList.length:=by simpa using hk
 have ht:(cur.toList.take p).length=p:=by simp;omega
 simp only[Array.getD_eq_getD_getElem?,List.getElem?_toArray,List.append_assoc,List.getD_eq_getElem?_getD];rw[List.getElem?_append,ht];by_cases c1:k<p
 ·rw[if_pos c1,if_neg (by omega),List.getElem?_take_of_lt c1];simp
 ·rw[if_neg c1,List.getElem?_append];by_cases c2:k-p<cs.length
  ·rw[if_pos c2,if_pos (by omega)]
  ·rw[if_neg c2,if_neg (by omega),List.getElem?_drop];rw[show p+cs.length+(k-p-cs.length)=k by omega];simp
theorem Qhw{cur:Array Value}{p:Nat}{cs:List Value}(hle:p+cs.length<=cur.size):((cur.toList.take p++cs++cur.toList.drop (p+cs.length)).toArray).size=cur.size:=by simp;omega
theorem Qpw{P:Program}{t:TypeId}{n b off:Nat}{ty:TypeId}{v:Value}{cur:Array Value}(hn:tsz P t=some n)(hs:v.cells.size=n)(hg:w.heap[b]? =some (.cells cur ty (0,0)))(hle:off+n<=cur.size)(h1:∀u∈v.cells.toList,u.oneCell'=true):
  (storeVar t ⟨b,off,none⟩ v).run P w= .ok () (w.setRow b (cur.toList.take off++v.cells.toList++cur.toList.drop (off+n)).toArray):=by
 unfold storeVar;have hst:=run_storeCells_at P b off ty v.cells.toList 0 cur w hg (by simp[hs];omega) h1;simp only[Nat.add_zero,Array.length_toList,hs]at hst;have hne:¬(v.cells.size≠n):=by simp[hs]
 simp only[Sem.run_bind,Qbq hn,Result.andThen_ok,if_neg hne];exact hst
theorem Qabe{x:PV}{o:Nat}{v:PV}{j:Nat}(hl:o+v.cells.length<=x.cells.length)(hj:j<x.cells.length):
  (stV x o v).cells[j]? =if o<=j/\j<o+v.cells.length then v.cells[j-o]? else x.cells[j]? :=by
 show(x.cells.take o++v.cells++x.cells.drop (o+v.cells.length))[j]? =_;rw[List.append_assoc];have ht:(x.cells.take o).length=o:=by simp;omega
 rw[List.getElem?_append,ht];by_cases c1:j<o
 ·rw[if_pos c1,if_neg (by omega),List.getElem?_take_of_lt c1]
 ·rw[if_neg c1,List.getElem?_append];by_cases c2:j-o<v.cells.length
  ·rw[if_pos c2,if_pos (by omega)]
  ·rw[if_neg c2,if_neg (by omega),List.getElem?_drop];rw[show o+v.cells.length+(j-o-v.cells.length)=j by omega]
theorem Qalj{x:PV}{o:Nat}{v:PV}(hl:o+v.cells.length<=x.cells.length):(stV x o v).cells.length=x.cells.length:=by show(List.take o x.cells++v.cells++List.drop (o+v.cells.length) x.cells).length=_;simp;omega
theorem Qz3{e i j m k n:Nat}(hj:j<e)(hk:k+n<=e)(hne:i≠m):¬(m*e+k<=i*e+j/\i*e+j<m*e+k+n):=by
 intro⟨h1,h2⟩;rcases Nat.lt_or_gt_of_ne hne with h|h
 ·have:(i+1)*e<=m*e:=Nat.mul_le_mul_right e h;rw[Nat.add_mul]at this;omega
 ·have:(m+1)*e<=i*e:=Nat.mul_le_mul_right e h;rw[Nat.add_mul]at this;omega
theorem Qnt{l:List PV}{i k:Nat}{nx x:PV}(h:(l.set i nx)[k]? =some x):(i=k/\x=nx)∨(i≠k/\l[k]? =some x):=by
 by_cases hik:i=k
 ·subst hik;have hi:i<l.length:=by have:=(List.getElem?_eq_some_iff.1 h).1;simpa using this
  rw[List.getElem?_set_self hi]at h;cases h;exact .inl ⟨rfl,rfl⟩
 ·rw[List.getElem?_set_ne hik]at h;exact .inr ⟨hik,h⟩
theorem Qbo.ncells{p:PV}{v:Value}(h:Qbo C ρ hp w p v):p.ncells=[p]:=by
 cases p with
 |agg=>cases h
 |rag=>cases h
 |_=>rfl
theorem Qt7{l:List PV}(h:∀c∈l,c.ncells=[c]):(Qei l).ncells=l:=by
 unfold Qei;split
 ·exact h _ (by simp)
 ·exact Q19 _
theorem Q3h{py:PV}{v:Value}{cs:List PV}(h:Qr C ρ hp w py v)(hs:stN py=some cs):v.cells.size=cs.length/\(∀(j:Nat)(y:PV),cs[j]? =some y->Qbo C ρ hp w y (v.cells.getD j undef))/\∀u∈v.cells.toList,u.oneCell'=true:=by
 have one:∀ {p:PV},Qbo C ρ hp w p v->p≠ .undef->cs=[p]->v.cells.size=cs.length/\(∀(j:Nat)(y:PV),cs[j]? =some y->Qbo C ρ hp w y (v.cells.getD j undef))/\∀u∈v.cells.toList,u.oneCell'=true:=by
  rintro p hr hu rfl;obtain⟨h1,h2⟩:=hr.oneCell hu;rw[h2];refine⟨rfl,fun j y hy=>?_,fun u hu'=>?_⟩
  ·match j,hy with
   |0,hy=>simp at hy;subst hy;exact hr
   |j+1,hy=>simp at hy
  ·simp at hu';subst hu';exact h1
 cases py with
 | rag cs'=>
  simp only[stN]at hs;split at hs
  ·rename_i hall;simp only[Option.some.injEq]at hs;subst hs;obtain⟨vs,rfl,h1,h2⟩:=h;refine⟨h1,h2,fun u hu=>?_⟩;obtain⟨j,hj,rfl⟩:=List.getElem_of_mem hu;have hj':j<vs.size:=by simpa[Value.cells]using hj
   have hp:j<cs'.length:=by omega
   have h3:=h2 j cs'[j] (List.getElem?_eq_getElem hp);have h4:=List.all_eq_true.1 hall cs'[j] (List.getElem_mem hp);have:=(h3.oneCell (fun e=>by rw[e]at h4;cases h4)).1;simpa[Array.getD,hj',Value.cells]using this
  ·cases hs
 |nso γ o n=>simp only[stN,Option.some.injEq]at hs;exact one (p:=.nso γ o n) h (by simp) hs.symm
 |mso β o n=>
  simp only[stN]at hs;split at hs
  ·rename_i hB;simp only[Option.some.injEq]at hs;exact one (p:=.mso β o n) ⟨hB,h⟩ (by simp) hs.symm
  ·cases hs
 |int k n=>simp only[stN,Option.some.injEq]at hs;exact one (p:=.int k n) h (by simp) hs.symm
 |bool b=>simp only[stN,Option.some.injEq]at hs;exact one (p:=.bool b) h (by simp) hs.symm
 |nilS=>simp only[stN,Option.some.injEq]at hs;exact one (p:=.nilS) h (by simp) hs.symm
 |sl e xs=>simp only[stN,Option.some.injEq]at hs;exact one (p:=.sl e xs) h (by simp) hs.symm
 |pt cs'=>simp only[stN,Option.some.injEq]at hs;exact one (p:=.pt cs') h (by simp) hs.symm
 |agg cs'=>simp only[stN,Option.some.injEq]at hs;subst hs;have hr:Qai w (Xof C ρ hp) (.agg cs') v:=h;obtain⟨h1,h2⟩:=hr.cells;exact⟨h1,fun j y hy=>Qbo.ofC (h2 j y hy),hr.oneCells⟩
 |_=>cases hs
theorem Q9.nestStore{tmps:Array Value}{w':World}(h:Q9 C ρ fr hp tmps w){γ b e ty:Nat}{hb:HB}{xs':List PV}{cur':Array Value}{cap:Nat}(hB:isB γ=true)(he:0<e)(hγ:hp γ=some hb)(hfz:hb.fz=false)(hx0:hb.xs=[])(he1:hb.e=e)(ht:hb.ty=ty)(hρ:ρ γ=some b)
  (hx:Ext (fun c=>c=b) w w') (hcap:∀e cap,Qbj w b e cap->Qbj w' b e cap) (h1:w'.heap[b]? =some (.cells cur' ty (0,0))) (h2:cur'.size=cap*e) (h3:xs'.length<=cap) (h4:cap<=maxLen)
  (h5:∀(i:Nat)(x:PV),xs'[i]? =some x->x.ncells.length=e) (h6:∀(i:Nat)(x:PV),xs'[i]? =some x->∀(j:Nat)(y:PV),x.ncells[j]? =some y->Qbo C ρ hp w y (cur'.getD (i*e+j) undef)):
  Q9 C ρ (FW.upd (Qd0 γ fr) γ (.nst γ e ty xs')) hp tmps w':=by
 have hbX:Xof C ρ hp b:=.inr ⟨γ,hb,hγ,hfz,hρ⟩;have hnr:isR γ=false:=by
  cases hq:isR γ with
  |false=>rfl
  |true=>have:=(h.own γ hb hγ).ro hq;rw[hfz]at this;cases this
 have hc':Qku w w' (Xof C ρ hp) (Xof C ρ hp):=⟨fun c hc hn=>hx.block c hc (fun e=>hn (e▸hbX)),fun _ _ hn=>hn,hx.size⟩
 have hown:=(h.own γ hb hγ).blk;rw[hρ]at hown;have hext:Ext C.Y0 C.w0 w':=by refine h.ext.trans' (Y':=fun c=>c=b) hx ?_;intro c hc he;subst he;exact(Ctx.cls_or hown.1 hnr).resolve_left (by omega)
 have hkeep:∀β c,C.fx β=some c->∀e cap,Qbj C.w0 c e cap->Qbj w' c e cap:=fun b0 c hc' e cap hcc=>by
  have h1':=h.keep b0 c hc' e cap hcc;by_cases hcb:c=b
  ·rw[hcb]at h1' ⊢;exact hcap e cap h1'
  ·exact Qb7 (hx.block c (Qdj h1') hcb) h1'
 have hun:∀β hg c,β≠γ->hp β=some hg->ρ β=some c->¬c=b:=fun β hg c hne hhg hr e=>hne (h.inj β γ b (by simp[hhg]) (by simp[hγ]) (e▸hr) hρ);have c0:∀β,Qwh ρ ρ hp hp w w' β:=fun β=>⟨rfl,fun hg hhg=>⟨hg,hhg,rfl,Nat.le_refl _,fun c cap hr hcc=>by
  by_cases hne:β=γ
  ·subst hne;rw[hρ]at hr;cases hr;exact hcap _ _ hcc
  ·exact Qb7 (hx.block c (Qdj hcc) (hun β hg c hne hhg hr)) hcc⟩⟩
 refine⟨h.sz,hext,hkeep,fun β hg hβ=>?_,h.inj,fun i=>?_⟩
 ·obtain⟨p1,p2,p3,p4,p5⟩:=h.own β hg hβ;refine⟨p1,p2,?_,p4,p5⟩;by_cases hne:β=γ
  ·subst hne;rw[hγ]at hβ;cases hβ;rw[hρ]at p3⊢;exact⟨p3.1,Nat.lt_of_lt_of_le p3.2.1 hx.size,cur',cap,by rw[h1,ht],by rw[he1];exact h2,by rw[hx0];simp,h4,by rw[hx0];simp⟩
  ·cases hr:ρ β with
   |none=>rw[hr]at p3;exact p3
   |some c=>rw[hr]at p3;exact⟨p3.1,Nat.lt_of_lt_of_le p3.2.1 hx.size,p3.2.2.move (hx.block c p3.2.1 (hun β hg c hne hβ hr)) rfl rfl rfl hc'.rc⟩
 ·unfold FW.upd;split
  ·exact⟨hB,he,b,hb,cur',cap,hρ,hγ,hx0,he1,ht,h1,h2,h3,h4,h5,fun i x hi j y hy=>(h6 i x hi j y hy).move hc' (fun β _=>c0 β)⟩
  ·have hsl:=h.slots i;unfold Qd0;generalize fr i=p at hsl;have mv:(∀γ' e ty xs,p= .nst γ' e ty xs->γ'≠γ)->Qr C ρ hp w' p (tmps.getD i undef):=fun hq=>
    hsl.move hc' (fun β _=>⟨(c0 β).r,(c0 β).h⟩) (fun β _=>c0 β) (fun γ' e ty xs e1=>⟨rfl,fun hg hhg=>by have hne:=hq γ' e ty xs e1;refine⟨hg,hhg,rfl,Nat.le_refl _,fun c cap hr hcc=>Qb7 (hx.block c (Qdj hcc) (hun γ' hg c hne hhg hr)) hcc,fun he=>⟨he,rfl,fun c hr=>hx.block c ?_ (hun γ' hg c hne hhg hr)⟩⟩;have:=(h.own γ' hg hhg).blk;rw[hr]at this;exact this.2.1⟩)
   cases p with
   |nst γ' e' ty' xs=>
    simp only[Qeb];split
    ·trivial
    ·rename_i hne;exact mv (fun _ _ _ _ e1=>by cases e1;exact hne)
   |_=>exact mv (fun _ _ _ _ e1=>by cases e1)
theorem Qz4{l cs:List PV}{o j:Nat}(hl:o+cs.length<=l.length)(hj:j<l.length):(Qlv l o cs)[j]? =if o<=j/\j<o+cs.length then cs[j-o]? else l[j]? :=by
 unfold Qlv;rw[List.append_assoc];have ht:(l.take o).length=o:=by simp;omega
 rw[List.getElem?_append,ht];by_cases c1:j<o
 ·rw[if_pos c1,if_neg (by omega),List.getElem?_take_of_lt c1]
 ·rw[if_neg c1,List.getElem?_append];by_cases c2:j-o<cs.length
  ·rw[if_pos c2,if_pos (by omega)]
  ·rw[if_neg c2,if_neg (by omega),List.getElem?_drop];rw[show o+cs.length+(j-o-cs.length)=j by omega]
theorem Qta{l cs:List PV}{o:Nat}(hl:o+cs.length<=l.length):(Qlv l o cs).length=l.length:=by unfold Qlv;simp;omega
theorem Qabf {o:Oper} {t:TypeId} {n:Nat} {x y:Operand} {px py:PV} {Q:Exit->Act->World->Prop} (ho:o.op= .store t x y) (hd:o.dst=none) (hdef:a.defers=[]) (h:Q9 C ρ fr hp a.tmps w)
  (hn:tsz C.P t=some n) (hx:Qr C ρ hp w px (a.eval x)) (hy:Qr C ρ hp w py (a.eval y)) (hv:stK n px py fr hp K):o.wp C.P a w (Qa3 C false w K) Q:=by
 unfold stK at hv;split at hv
 ·rename_i β i o';split at hv
  ·rename_i hb hβ;obtain⟨h1,h2,h3,h4,h5,hK⟩:=hv;obtain⟨b,hb0,g1,g2,ex⟩:=hx.mp_inv;obtain⟨hb1,g3,e1,e2,e3,e4,_⟩:=Qjv (l:=py.refs) g2;rw[hβ]at g3;cases g3;have hbb:=e4 h1;subst hbb;have hf:=h.freeze py.refs;have hr:=Qfm h hy (fun β hβ=>hβ) h2;have hvc:=hr.cells;have hown:=hf.own β hb hβ;have hblk:=hown.blk;rw[g1]at hblk;obtain⟨b1,b2,cur,cap,c1,c2,c3,c4,c5⟩:=hblk;have hxi:=List.getElem?_eq_getElem h4;have hcl:=(hown.len i _ hxi).1;have hvs:(a.eval y).cells.size=n:=by rw[hvc.1,h3]
   have hin:i*hb.e+o'+n<=cur.size:=by rw[c2];have:(i+1)*hb.e<=cap*hb.e:=Nat.mul_le_mul_right _ (by omega);rw[Nat.add_mul]at this;omega
   have hrun:=Qpw (P:=C.P) (w:=w) (off:=i*hb.e+o') hn hvs c1 hin hr.oneCells;have hvl:(a.eval y).cells.toList.length=n:=by simp[hvs]
   have hsp:∀k,k<cur.size->((cur.toList.take (i*hb.e+o')++(a.eval y).cells.toList++cur.toList.drop (i*hb.e+o'+n)).toArray).getD k undef=if i*hb.e+o'<=k/\k<i*hb.e+o'+n then(a.eval y).cells.getD (k-(i*hb.e+o')) undef else cur.getD k undef:=by intro k hk;have:=Qhv (cur:=cur) (p:=i*hb.e+o') (cs:=(a.eval y).cells.toList) (k:=k) (by omega) hk;rw[hvl]at this;rw[this];simp[Array.getD_eq_getD_getElem?,List.getD_eq_getElem?_getD]
   have hss:((cur.toList.take (i*hb.e+o')++(a.eval y).cells.toList++cur.toList.drop (i*hb.e+o'+n)).toArray).size=cur.size:=by
    have:=Qhw (cur:=cur) (p:=i*hb.e+o') (cs:=(a.eval y).cells.toList) (by omega)
    rwa[hvl]at this
   have hnew:(if n=hb.e then Qaa hp py else stV (hb.xs[i]'h4) o' (Qaa hp py)).cells.length=hb.e/\(if n=hb.e then Qaa hp py else stV (hb.xs[i]'h4) o' (Qaa hp py)).isData=true:=by
    by_cases hc:n=hb.e
    ·rw[if_pos hc];exact⟨by omega,h2⟩
    ·rw[if_neg hc];exact⟨by rw[Qalj (by omega)];exact hcl,rfl⟩
   obtain⟨nx,hnx⟩:∃nx,nx=(if n=hb.e then Qaa hp py else stV (hb.xs[i]'h4) o' (Qaa hp py)):=⟨_,rfl⟩
   rw[<-hnx]at hK hnew;have hst:=hf.store β b hb { hb with xs:=hb.xs.set i nx } hβ h1 (by intro e;rw[e]at h4;simp at h4) g1 (Qiq w b _) rfl (by simp) h1
    (fun k x hk=>by
     rcases Qnt hk with⟨_,rfl⟩|⟨_,hk⟩
     ·exact hnew
     ·exact hown.len k x hk)
    (fun e' cap' hcap=>by obtain⟨cur',ty',d1,d2⟩:=hcap;rw[c1]at d1;cases d1;exact⟨_,_,setRow_heap w b cur _ hb.ty _ c1,by rw[hss];exact d2⟩)
    ⟨_, cap,setRow_heap w b cur _ hb.ty _ c1,by rw[hss];exact c2,by simpa using c3,c4,fun k x hk j z hz=>by
     have hkl:k<hb.xs.length:=by have:=(List.getElem?_eq_some_iff.1 hk).1;simpa using this
     have hxl:x.cells.length=hb.e:=by
      rcases Qnt hk with⟨_,rfl⟩|⟨_,hk⟩
      ·exact hnew.1
      ·exact(hown.len k x hk).1
     have hj:j<hb.e:=by have:=(List.getElem?_eq_some_iff.1 hz).1;omega
     have hlt:k*hb.e+0+j<cap*hb.e:=Qfv (by omega) (by omega:0+hb.e<=hb.e) hj;show Qs w _ z (Array.getD _ (k*hb.e+j) undef);rw[hsp _ (by omega)];rcases Qnt hk with⟨hki,hxn⟩|⟨hki,hk⟩
     ·subst hki;subst hxn;by_cases hc:n=hb.e
      ·rw[hnx,if_pos hc]at hz;have ho0:o'=0:=by omega
       subst ho0;rw[if_pos (by omega)];rw[show i*hb.e+j-(i*hb.e+0)=j by omega];exact hvc.2 j z hz
      ·rw[hnx,if_neg hc]at hz;rw[Qabe (by omega) (by omega),h3]at hz;by_cases hjr:o'<=j/\j<o'+n
       ·rw[if_pos hjr]at hz;rw[if_pos (by omega)];rw[show i*hb.e+j-(i*hb.e+o')=j-o' by omega];exact hvc.2 _ z hz
       ·rw[if_neg hjr]at hz;rw[if_neg (by omega)];exact c5 i _ hxi j z hz
     ·rw[if_neg (Qz3 hj (by omega) (fun e=>hki e.symm))];exact c5 k x hk j z hz⟩
   unfold Oper.wp;have hex:(execOp a.eval o).run C.P w= .ok .skip (w.setRow b (cur.toList.take (i*hb.e+o')++(a.eval y).cells.toList++cur.toList.drop (i*hb.e+o'+n)).toArray):=by unfold execOp;simp only[ho,ex,Sem.run_bind,Instr.storeAt,Instr.sureAddr,Sem.run_pure,Result.andThen_ok,hrun]
   rw[hex];refine⟨by rw[Qfn];exact hdef,⟨fr,_,⟨ρ,?_⟩,hK⟩,by simp⟩;rw[hd];exact hst
  ·exact hv.elim
 ·rename_i γ i o';split at hv
  ·rename_i γ' e ty xs hγ;obtain⟨rfl,⟨hb,k1,k2⟩,h1,h2,hv⟩:=hv;split at hv
   ·rename_i cs hcs;obtain⟨h3,hK⟩:=hv;obtain⟨r1,r2,r3⟩:=Q3h hy hcs;obtain⟨hB,b,hb',g1,g2,ex⟩:=hx.np_inv;rw[k1]at g2;cases g2;have hsl:=h.slots γ';rw[hγ]at hsl;obtain⟨_,he0,b',hb',cur,cap,q1,q2,q3,q4,q5,q6,q7,q8,q9,q10,q11⟩:=hsl;rw[g1]at q1;cases q1;rw[k1]at q2;cases q2;rw[q4]at ex;have hxi:=List.getElem?_eq_getElem h1;have hcl:=q10 i _ hxi;have hvs:(a.eval y).cells.size=n:=by rw[r1,h3]
    have hin:i*e+o'+n<=cur.size:=by rw[q7];have:(i+1)*e<=cap*e:=Nat.mul_le_mul_right _ (by omega);rw[Nat.add_mul]at this;omega
    have hrun:=Qpw (P:=C.P) (w:=w) (off:=i*e+o') hn hvs q6 hin r3;have hvl:(a.eval y).cells.toList.length=n:=by simp[hvs]
    have hsp:∀k,k<cur.size->((cur.toList.take (i*e+o')++(a.eval y).cells.toList++cur.toList.drop (i*e+o'+n)).toArray).getD k undef=if i*e+o'<=k/\k<i*e+o'+n then(a.eval y).cells.getD (k-(i*e+o')) undef else cur.getD k undef:=by intro k hk;have:=Qhv (cur:=cur) (p:=i*e+o') (cs:=(a.eval y).cells.toList) (k:=k) (by omega) hk;rw[hvl]at this;rw[this];simp[Array.getD_eq_getD_getElem?,List.getD_eq_getElem?_getD]
    have hss:((cur.toList.take (i*e+o')++(a.eval y).cells.toList++cur.toList.drop (i*e+o'+n)).toArray).size=cur.size:=by
     have:=Qhw (cur:=cur) (p:=i*e+o') (cs:=(a.eval y).cells.toList) (by omega)
     rwa[hvl]at this
    generalize(cur.toList.take (i*e+o')++(a.eval y).cells.toList++cur.toList.drop (i*e+o'+n)).toArray=W at hrun hsp hss;have hsl2:o'+cs.length<=(xs[i]).ncells.length:=by rw[hcl,h3];exact h2
    have hcell:∀c∈Qlv (xs[i]).ncells o' cs,c.ncells=[c]:=by
     intro c hc;obtain⟨j,hj⟩:=List.getElem?_of_mem hc;have hjl:j<(xs[i]).ncells.length:=by have:=(List.getElem?_eq_some_iff.1 hj).1;rwa[Qta hsl2]at this
     rw[Qz4 hsl2 hjl]at hj;split at hj
     ·exact(r2 _ c hj).ncells
     ·exact(q11 i _ hxi j c hj).ncells
    have hel:=Qt7 hcell;have hst:=h.nestStore (w':=w.setRow b W) (xs':=xs.set i (Qei (Qlv (xs[i]).ncells o' cs))) (cur':=W) (cap:=cap) hB he0 k1 k2 q3 q4 q5 g1 (Qiq w b W)
     (fun e2 cap2 hcp=>by obtain⟨cur2,ty2,d1,d2⟩:=hcp;rw[q6]at d1;cases d1;exact⟨_,_,setRow_heap w b cur _ ty _ q6,by rw[hss];exact d2⟩)
     (setRow_heap w b cur W ty _ q6) (by rw[hss];exact q7) (by simpa using q8) q9
     (fun k x hk=>by
      rcases Qnt hk with⟨_,rfl⟩|⟨_,hk⟩
      ·rw[hel,Qta hsl2];exact hcl
      ·exact q10 k x hk)
     (fun k x hk j y' hy'=>by
      rcases Qnt hk with⟨rfl,rfl⟩|⟨hne,hk⟩
      ·rw[hel]at hy';have hjl:j<(xs[i]).ncells.length:=by have:=(List.getElem?_eq_some_iff.1 hy').1;rwa[Qta hsl2]at this
       have hje:j<e:=by omega
       have hlt2:i*e+0+j<cap*e:=Qfv (n:=e) (by omega) (by omega) hje;rw[Qz4 hsl2 hjl]at hy';rw[hsp _ (by omega)];split at hy'
       ·rename_i hr;rw[if_pos (by omega),show i*e+j-(i*e+o')=j-o' by omega];exact r2 _ y' hy'
       ·rename_i hr;rw[if_neg (by omega)];exact q11 i _ hxi j y' hy'
      ·have hkl:k<xs.length:=(List.getElem?_eq_some_iff.1 hk).1;have hje:j<e:=by have:=(List.getElem?_eq_some_iff.1 hy').1;have:=q10 k x hk;omega
       have hlt2:k*e+0+j<cap*e:=Qfv (n:=e) (by omega) (by omega) hje;rw[hsp _ (by omega),if_neg (Qz3 hje h2 (fun e=>hne e.symm))];exact q11 k x hk j y' hy')
    unfold Oper.wp;have hex:(execOp a.eval o).run C.P w= .ok .skip (w.setRow b W):=by unfold execOp;simp only[ho,ex,Sem.run_bind,Instr.storeAt,Instr.sureAddr,Sem.run_pure,Result.andThen_ok,hrun]
    rw[hex];refine⟨by rw[Qfn];exact hdef,⟨_,hp,⟨ρ,?_⟩,hK⟩,by simp⟩;rw[hd];exact hst
   ·exact hv.elim
  ·exact hv.elim
 ·exact hv.elim
end Go.FW
namespace Go.FW
open Go
variable {C : Ctx} {ρ : Nat -> Option Nat} {fr : Fr} {hp : HP} {w : World} {a : Act} {K : Qg}
theorem Qz5{X:Nat->Prop}{x:PV}{e:Nat}{f:Nat->Value}(he:x.cells.length=e)(h0:0<e)(hr:∀(j:Nat)(y:PV),x.cells[j]? =some y->Qs w X y (f j)):x.isData=true:=by
 by_cases ha:∃cs,x= .agg cs
 ·obtain⟨cs,rfl⟩:=ha;rfl
 ·have hc:x.cells=[x]:=by
   cases x with
   |agg cs=>exact absurd ⟨cs,rfl⟩ ha
   |_=>rfl
  have:=hr 0 x (by rw[hc];rfl);exact Qai.data (Qai.of_c this)
theorem Qqc{e:Nat}{px:PV}{v:Value}{ys:List PV}{e':Nat}(h:Q9 C ρ fr hp a.tmps w)(hx:Qr C ρ hp w px v)(hs:Qe6 hp px=some (e',ys))(h0:0<e)(hee:e'=e∨ys=[]):
  ∃ad cap,v= .slice ad ys.length cap/\(ys≠[]->∃(b off:Nat)(f:Nat->Value),ad=some ⟨b,off,none⟩/\(∀k,k<ys.length*e->w.cell? ⟨b,off+k,none⟩=some (f k))/\
   ∀(i:Nat)(y:PV),ys[i]? =some y->y.cells.length=e/\y.isData=true/\∀(j:Nat)(z:PV),y.cells[j]? =some z->Qs w (Xof C ρ hp) z (f (i*e+j))):=by
 cases px with
 |nilS=>simp[Qe6]at hs;obtain⟨rfl,rfl⟩:=hs;exact⟨none,0,hx.nil_inv,fun hn=>absurd rfl hn⟩
 | sl e2 xs=>
  simp[Qe6]at hs;obtain⟨rfl,rfl⟩:=hs;have hx':Qs w (Xof C ρ hp) (.sl e2 xs) v:=hx;cases hx' with
  |slE _ ad cap hc=>exact⟨ad,cap,rfl,fun hn=>absurd rfl hn⟩
  | sl _ _ b off cap vs hX hb hl hc he hv hr=>
   refine⟨_,cap,rfl,fun hn=>?_⟩;obtain rfl:e2=e:=hee.resolve_right hn;refine⟨b,off,fun k=>vs (k/e2) (k%e2),rfl,fun k hk=>?_,fun i y hy=>?_⟩
   ·have h1:k/e2<xs.length:=(Nat.div_lt_iff_lt_mul h0).2 hk;have h2:=Nat.mod_lt k h0;have:=hv _ h1 _ h2;rw[Nat.add_assoc,Nat.mul_comm,Nat.div_add_mod]at this;exact this
   ·have hcl:=he i y hy;refine⟨hcl,Qz5 hcl h0 (hr i y hy),fun j z hz=>?_⟩;have hj:j<e2:=by have:=(List.getElem?_eq_some_iff.1 hz).1;omega
    show Qs w _ z (vs ((i*e2+j)/e2) ((i*e2+j)%e2));rw[Qabb hj,Qz1 hj];exact hr i y hy j z hz
 | mso β o n=>
  simp only[Qe6,Option.map_eq_some_iff,Prod.mk.injEq]at hs;obtain⟨hb,hβ,he1,rfl⟩:=hs;obtain⟨hb2,g1,g2,g3⟩:=hx;rw[hβ]at g1;cases g1;have hlen:((hb.xs.drop o).take n).length=n:=by simp;omega
  rcases g3 with⟨g3,rfl,rfl,rfl⟩|⟨b,cap,g3,rfl,g5,g6⟩
  ·exact⟨none,0,by simp,fun hn=>absurd (by simp) hn⟩
  ·refine⟨_,cap,by rw[hlen],fun hn=>?_⟩;have hown:=h.own β hb hβ;have hblk:=hown.blk;rw[g3]at hblk;obtain⟨_,hlt,cur,cap',c1,c2,c3,c4,c5⟩:=hblk;have hee':hb.e=e:=by
    rcases hee with hee|hee
    ·omega
    ·exact absurd hee hn
   refine⟨b,o*hb.e,fun k=>cur.getD (o*hb.e+k) undef,rfl,fun k hk=>?_,fun i y hy=>?_⟩
   ·rw[hlen]at hk;have:(o+n)*e<=cap'*e:=Nat.mul_le_mul_right e (by omega);rw[Nat.add_mul]at this;exact Qbg c1 (by rw[c2,hee'];omega)
   ·have hi:i<n:=by have:=(List.getElem?_eq_some_iff.1 hy).1;omega
    rw[List.getElem?_take_of_lt hi,List.getElem?_drop]at hy;obtain⟨l1,l2⟩:=hown.len _ y hy;refine⟨by omega,l2,fun j z hz=>?_⟩;have:=c5 _ y hy j z hz;rw[Nat.add_mul,Nat.add_assoc]at this
    rwa[hee']at this⊢
 |_=>simp[Qe6]at hs
theorem Qmq{P:Program}{t ty e:TypeId}{i:TypeInfo}(ht:P.underlying t=some (.slice e))(hi:P.info? e=some i){base ad:Option Addr}{n cap c:Nat}(hle:n<=cap)(w:World):
  (Builtin.append_ #[t,t] ty #[.slice base n cap,.slice ad 0 c]).run P w= .ok (.slice base n cap) w:=by
 cases ad<;>cases base<;>simp[Builtin.append_,run_underlying ht,sizeOf,typeInfo,hi,Builtin.lenOf,Builtin.firstCells,hle,storeCells,loadCells,loadCellsFrom]
theorem Qdr{P:Program}{o:Oper}{s x:Operand}{t:TypeId}(ho:o.op= .call { callee:=.builtin .append,args:= #[s,x],argTypes:= #[t,t] }){vs vx v:Value}{w w':World}(es:a.eval s=vs)(ex:a.eval x=vx)
  (hr:(Builtin.append_ #[t,t] o.type #[vs,vx]).run P w= .ok v w'):(execOp a.eval o).run P w= .ok (.value v) w':=by
 unfold execOp;simp only[ho,resolve,Sem.run_bind,Sem.run_pure,Result.andThen_ok,invoke,builtin];simp[es,ex,hr]
def Qb4(f:Nat->Value)(n:Nat):List Value:=(List.range n).map f
theorem Qfb(f:Nat->Value)(n:Nat):(Qb4 f n).length=n:=by simp[Qb4]
theorem Qir{f:Nat->Value}{n j:Nat}{u:Value}(h:(Qb4 f n)[j]? =some u):j<n/\u=f j:=by
 have hj:j<n:=by have:=(List.getElem?_eq_some_iff.1 h).1;simpa[Qb4]using this
 simp only[Qb4,List.getElem?_map,List.getElem?_range hj,Option.map_some,Option.some.injEq]at h;exact⟨hj,h.symm⟩
theorem Qjz{f:Nat->Value}{n j:Nat}(h:j<n):(Qb4 f n).getD j undef=f j:=by simp[Qb4,List.getD_eq_getElem?_getD,h]
theorem Qev(l:List Value)(k:Nat):l.toArray.getD k undef=l.getD k undef:=by simp[Array.getD_eq_getD_getElem?,List.getD_eq_getElem?_getD]
theorem Qbr(xs ys:Array Value)(k:Nat):(xs++ys).getD k undef=if k<xs.size then xs.getD k undef else ys.getD (k-xs.size) undef:=by simp only[Array.getD_eq_getD_getElem?,Array.getElem?_append];split<;>rfl
theorem Qh6{n m e i j:Nat}(h0:i<m)(hj:j<e):i*e+j<m*e/\(n+i)*e+j=n*e+(i*e+j):=by
 constructor
 ·have:(i+1)*e<=m*e:=Nat.mul_le_mul_right e h0;rw[Nat.add_mul]at this;omega
 ·rw[Nat.add_mul];omega
theorem Qff{β:Nat}{p:PV}{v:Value}(h:Qbo C ρ hp w p v):Qbo C ρ hp w (Qds β p) v/\∀γ∈(Qds β p).sref1,γ≠β:=by
 cases p with
 | mso β' o n=>
  simp only[Qds];split
  ·exact⟨trivial,fun γ hγ=>by cases hγ⟩
  ·rename_i hne;exact⟨h,fun γ hγ=>by simp[PV.sref1]at hγ;subst hγ;exact hne⟩
 | nso γ' o n=>
  simp only[Qds];split
  ·exact⟨trivial,fun γ hγ=>by cases hγ⟩
  ·rename_i hne;exact⟨h,fun γ hγ=>by simp[PV.sref1]at hγ;subst hγ;exact hne⟩
 |np=>cases h
 |_=>exact⟨h,fun γ hγ=>by cases hγ⟩
theorem Qew{l:List PV}{f:PV->PV}{i:Nat}{y:PV}(h:(l.map f)[i]? =some y):∃x,l[i]? =some x/\y=f x:=by simp only[List.getElem?_map,Option.map_eq_some_iff]at h;obtain⟨x,h1,h2⟩:=h;exact⟨x,h1,h2.symm⟩
theorem Qie{β:Nat}:Qwi C ρ hp w β fr (Qc1 β fr):=by
 intro i v h;unfold Qc1;generalize fr i=p at h;have kill:Qbb β p=Qaq β p->(∀γ∈p.sref,γ≠β)->Qr C ρ hp w (Qbb β p) v/\(∀γ∈(Qbb β p).refs,γ≠β)/\∀γ∈(Qbb β p).sref,γ≠β:=fun e hs=>by
  rw[e];refine⟨Qr.kill h,fun γ hγ=>(Qt4 γ hγ).1,fun γ hγ=>?_⟩;unfold Qaq at hγ;split at hγ
  ·cases hγ
  ·exact hs γ hγ
 cases p with
 | nst γ e ty xs=>
  simp only[Qbb];split
  ·exact⟨trivial,fun γ hγ=>(by cases hγ),fun γ hγ=>by cases hγ⟩
  ·rename_i hne;obtain⟨h0,he,b,hb,cur,cap,h1,h2,h3,h4,h5,h6,h7,h8,h9,h10,h11⟩:=h;have hcell:∀(i:Nat)(x:PV),xs[i]? =some x->(Qei (x.ncells.map (Qds β))).ncells=x.ncells.map (Qds β):=fun i x hi=>Qt7 fun c hc=>by obtain⟨d,hd,rfl⟩:=List.mem_map.1 hc;obtain⟨j,hj⟩:=List.getElem?_of_mem hd;exact(Qff (h11 i x hi j d hj)).1.ncells
   refine⟨⟨h0,he,b,hb,cur,cap,h1,h2,h3,h4,h5,h6,h7,by simpa using h8,h9,fun i x hi=>?_,fun i x hi j y hy=>?_⟩,fun γ hγ=>(by cases hγ),fun γ' hγ=>?_⟩
   ·obtain⟨x0,hx0,rfl⟩:=Qew hi;rw[hcell i x0 hx0,List.length_map];exact h10 i x0 hx0
   ·obtain⟨x0,hx0,rfl⟩:=Qew hi;rw[hcell i x0 hx0]at hy;obtain⟨y0,hy0,rfl⟩:=Qew hy;exact(Qff (h11 i x0 hx0 j y0 hy0)).1
   ·rcases List.mem_cons.1 hγ with rfl|hγ
    ·exact hne
    ·obtain⟨x,hx,hγ⟩:=List.mem_flatMap.1 hγ;obtain⟨y,hy,hγ⟩:=List.mem_flatMap.1 hγ;obtain⟨i,hi⟩:=List.getElem?_of_mem hx;obtain⟨x0,hx0,rfl⟩:=Qew hi;rw[hcell i x0 hx0]at hy;obtain⟨j,hj⟩:=List.getElem?_of_mem hy;obtain⟨y0,hy0,rfl⟩:=Qew hj;exact(Qff (h11 i x0 hx0 j y0 hy0)).2 γ' hγ
 | rag cs=>
  obtain⟨vs,rfl,h1,h2⟩:=h;refine⟨⟨vs,rfl,by simpa using h1,fun i x hi=>?_⟩,fun γ hγ=>(by cases hγ),fun γ hγ=>?_⟩
  ·obtain⟨x0,hx0,rfl⟩:=Qew hi;exact(Qff (h2 i x0 hx0)).1
  ·obtain⟨x,hx,hγ⟩:=List.mem_flatMap.1 hγ;obtain⟨i,hi⟩:=List.getElem?_of_mem hx;obtain⟨x0,hx0,rfl⟩:=Qew hi;exact(Qff (h2 i x0 hx0)).2 γ hγ
 | rtp cs=>
  obtain⟨vs,rfl,h1,h2⟩:=h;refine⟨⟨vs,rfl,by simpa using h1,fun i x hi=>?_⟩,fun γ hγ=>(by cases hγ),fun γ hγ=>?_⟩
  ·obtain⟨x0,hx0,rfl⟩:=Qew hi;exact(Qff (h2 i x0 hx0)).1
  ·obtain⟨x,hx,hγ⟩:=List.mem_flatMap.1 hγ;obtain⟨i,hi⟩:=List.getElem?_of_mem hx;obtain⟨x0,hx0,rfl⟩:=Qew hi;exact(Qff (h2 i x0 hx0)).2 γ hγ
 | rtq cs q=>
  obtain⟨vs,u,rfl,h1,h2,h3⟩:=h;refine⟨⟨vs,u,rfl,by simpa using h1,fun i x hi=>?_,h3⟩,fun γ hγ=>(by cases hγ),fun γ hγ=>?_⟩
  ·obtain⟨x0,hx0,rfl⟩:=Qew hi;exact(Qff (h2 i x0 hx0)).1
  ·obtain⟨x,hx,hγ⟩:=List.mem_flatMap.1 hγ;obtain⟨i,hi⟩:=List.getElem?_of_mem hx;obtain⟨x0,hx0,rfl⟩:=Qew hi;exact(Qff (h2 i x0 hx0)).2 γ hγ
 |nso γ o n=>
  simp only[Qbb];split
  ·exact⟨trivial,fun γ hγ=>(by cases hγ),fun γ hγ=>by cases hγ⟩
  ·rename_i hne;exact⟨h,fun γ hγ=>(by cases hγ),fun γ' hγ=>by simp[PV.sref]at hγ;subst hγ;exact hne⟩
 |np γ o n=>
  simp only[Qbb];split
  ·exact⟨trivial,fun γ hγ=>(by cases hγ),fun γ hγ=>by cases hγ⟩
  ·rename_i hne;exact⟨h,fun γ hγ=>(by cases hγ),fun γ' hγ=>by simp[PV.sref]at hγ;subst hγ;exact hne⟩
 | fn f first cap=>
  by_cases hc:(first.flatMap PV.nref1++cap.flatMap PV.nref1).contains β=true
  ·simp only[Qbb,hc,if_true];exact⟨trivial,fun γ hγ=>(by cases hγ),fun γ hγ=>by cases hγ⟩
  ·exact kill (by simp only[Qbb,hc];rfl) (fun γ hγ e=>hc (by subst e;exact List.contains_iff_mem.2 hγ))
 |_=>exact kill rfl (fun γ hγ=>by cases hγ)
end Go.FW
namespace Go.FW
open Go
variable {C : Ctx} {ρ : Nat -> Option Nat} {fr : Fr} {hp : HP} {w : World} {a : Act} {K : Qg}
theorem Q3i{o:Oper}{s x:Operand}{t e:TypeId}{n by_:Nat}{z:PV}{px:PV}{ys:List PV}{e' d:Nat}{β:Nat}{fr':Fr}{Q:Exit->Act->World->Prop}
  (ho:o.op= .call { callee:=.builtin .append,args:= #[s,x],argTypes:= #[t,t] }) (hd:o.dst=some d) (hlt:d<C.N) (hdef:a.defers=[]) (h:Q9 C ρ fr hp a.tmps w)
  (hu:C.P.underlying t=some (.slice e)) (hz:Qgp C.P e=some (n,by_,z)) (hx:Qr C ρ hp w px (a.eval x)) (hsrc:Qe6 hp px=some (e',ys)) (h0:0<n) (hzn:z.cells.length=n) (hee:e'=n∨ys=[])
  (es:a.eval s= .slice none 0 0) (hb:ys.length*by_<=140737488355328) (hm:ys.length<=9223372036854775807)
  (hgone:Qwi C ρ hp w β fr fr') (hB:isY β=false)
  (hK:K (upd fr' d (.ms β ys.length)) (Qv hp β ⟨n,e,ys,false⟩)):o.wp C.P a w (Qa3 C false w K) Q:=by
 obtain⟨ti,zv,i1,i2,i3,i4,i5⟩:=Qhf hz;obtain⟨ad,cap,ex,hcells⟩:=Qqc h hx hsrc h0 hee;by_cases hys:ys=[]
 ·subst hys;have hrun:=Qmq (P:=C.P) (ty:=o.type) (ad:=ad) (c:=cap) hu i1 (base:=none) (n:=0) (cap:=0) (Nat.le_refl 0) w;have hs:=h.rebindG (w':=w) β none ⟨n,e,[],false⟩ hB hgone (Ext.refl _ _) (by simp) h0 (by simp) (by simp) (by simp);refine Qcc (Qdr ho es ex hrun) (Qa3.ofBlock hd hlt hdef hs (by simp) ?_ hK);exact⟨⟨n,e,[],false⟩,by simp[Qv],by simp,.inl ⟨Qb0 _ _ _,rfl,rfl,rfl⟩⟩
 ·obtain⟨b,off,f,rfl,hf,hel⟩:=hcells hys;have hl0:0<ys.length:=List.length_pos_iff.2 hys;have hrun:=run_append_nil (P:=C.P) w t o.type e ti zv hu i1 i2 ⟨b,off,none⟩ ys.length cap (Qb4 f (ys.length*n)) (by rw[Qfb,i3])
   (fun j v hj=>by obtain⟨hj',rfl⟩:=Qir hj;rw[Addr.add_lit];exact hf j hj') hl0 (by omega) (by rw[i4];omega)
  have hge:=grownCap_ge w ys.length 0 e;have hcm:=grownCap_le_maxLen w ys.length 0 e (by rw[Qct];exact hm);generalize grownCap w ys.length 0 e=G at hrun hge hcm;have hzs:zv.cells.size=n:=by have:=(Qd1 (w:=w) (X:=Xof C ρ hp) i5).cells.1;omega
  obtain⟨hs,hext⟩:=h.newBlockG β hB hgone ⟨n,e,ys,false⟩ ((Qb4 f (ys.length*n)).toArray++Builtin.zeroCells zv.cells (G-ys.length)) G _ (.inr rfl)
   (by simp[Qfb,size_zeroCells,hzs,<-Nat.add_mul];congr 1;omega) hge hcm h0 (fun i y hy=>⟨(hel i y hy).1,(hel i y hy).2.1⟩)
   (fun i y hy j z hz=>by
    have hi:i<ys.length:=(List.getElem?_eq_some_iff.1 hy).1;have hj:j<n:=by have:=(List.getElem?_eq_some_iff.1 hz).1;have:=(hel i y hy).1;omega
    obtain⟨q1,_⟩:=Qh6 (n:=0) hi hj;show Qs w _ z (Array.getD _ (i*n+j) undef);rw[Qbr,if_pos (by simpa[Qfb]using q1)];have:=(hel i y hy).2.2 j z hz;rw[Qev,Qjz q1];exact this)
  refine Qcc (Qdr ho es ex hrun) (Qa3.ofBlock hd hlt hdef hs (by simp) ?_ hK);exact⟨⟨n,e,ys,false⟩,by simp[Qv],by simp,.inr ⟨w.heap.size,G,Qb0 _ _ _,by simp,⟨_,e,Qa8 w.drew _,by simp[Qfb,size_zeroCells,hzs,<-Nat.add_mul];congr 1;omega⟩,by omega⟩⟩
theorem Q3j{o:Oper}{s x:Operand}{t e:TypeId}{n by_:Nat}{z:PV}{px:PV}{ys:List PV}{e' d:Nat}{β m:Nat}{hb:HB}{fr':Fr}{Q:Exit->Act->World->Prop}
  (ho:o.op= .call { callee:=.builtin .append,args:= #[s,x],argTypes:= #[t,t] }) (hd:o.dst=some d) (hlt:d<C.N) (hdef:a.defers=[]) (h:Q9 C ρ fr hp a.tmps w)
  (hu:C.P.underlying t=some (.slice e)) (hz:Qgp C.P e=some (n,by_,z)) (hx:Qr C ρ hp w px (a.eval x)) (hsrc:Qe6 hp px=some (e',ys)) (h0:0<n) (hzn:z.cells.length=n) (hee:e'=n∨ys=[])
  (hs:Qr C ρ hp w (.ms β m) (a.eval s)) (hgone:Qwi C ρ hp w β fr fr') (hB:isY β=false) (hβ:hp β=some hb) (hfz:hb.fz=false) (hbe:hb.e=n) (hbt:hb.ty=e) (hml:m<=hb.xs.length)
  (hbytes:(m+ys.length)*by_<=140737488355328) (hmax:m+ys.length<=9223372036854775807)
  (hK:K (upd fr' d (.ms β (m+ys.length))) (Qv hp β ⟨n,e,hb.xs.take m++ys,false⟩)):o.wp C.P a w (Qa3 C false w K) Q:=by
 obtain⟨hb2,g1,g2,g3⟩:=hs;rw[hβ]at g1;cases g1;have htl:(hb.xs.take m).length=m:=by simp;omega
 rw[Nat.zero_add]at g2;rcases g3 with⟨g3,es,rfl,_⟩|⟨b,cap,g3,es,g5,g6⟩
 ·simp only[Nat.zero_add,List.take_zero,List.nil_append]at hK hbytes hmax;exact Q3i ho hd hlt hdef h hu hz hx hsrc h0 hzn hee es hbytes hmax hgone hB hK
 rw[Nat.zero_mul]at es;rw[Nat.zero_add]at g5 g6;obtain⟨ti,zv,i1,i2,i3,i4,i5⟩:=Qhf hz;obtain⟨ad,scap,ex,hcells⟩:=Qqc h hx hsrc h0 hee;have hown:=h.own β hb hβ;have hblk:=hown.blk;rw[g3]at hblk;obtain⟨b1,b2,cur,cap',c1,c2,c3,c4,c5⟩:=hblk;replace b1:=Ctx.cls_N b1 hB;obtain⟨cur',ty',d1,d2⟩:=g5;rw[c1]at d1;cases d1;obtain rfl:cap'=cap:=Nat.eq_of_mul_eq_mul_right hown.epos (by omega);subst hbt;subst hbe;have hfree:Xof C ρ hp b:=.inr ⟨β,hb,hβ,hfz,g3⟩;have hlens:∀(i:Nat)(x:PV),(hb.xs.take m++ys)[i]? =some x->(i<m/\hb.xs[i]? =some x)∨(m<=i/\ys[i-m]? =some x):=by
  intro i x hx';rw[List.getElem?_append,htl]at hx';by_cases hi:i<m
  ·rw[if_pos hi,List.getElem?_take_of_lt hi]at hx';exact .inl ⟨hi,hx'⟩
  ·rw[if_neg hi]at hx';exact .inr ⟨by omega,hx'⟩
 by_cases hys:ys=[]
 ·subst hys;have hrun:=Qmq (P:=C.P) (ty:=o.type) (ad:=ad) (c:=scap) hu i1 (base:=some ⟨b,0,none⟩) (n:=m) (cap:=cap') (by omega) w;have hr:=h.rebindG (w':=w) β (some b) ⟨hb.e,hb.ty,hb.xs.take m++[],false⟩ hB hgone (Ext.refl _ _) (fun c hc=>by cases hc;exact⟨b1,b2,.inr ⟨g3,hb,hβ,hfz⟩⟩) hown.epos
   (fun i x hx'=>by
    rcases hlens i x hx' with⟨_,hq⟩|⟨_,hq⟩
    ·exact hown.len i x hq
    ·simp at hq) (by simp)
   (fun c hc=>by
    cases hc;refine⟨cur,cap',c1,c2,by simp;omega,c4,fun i x hx' j y hy=>?_⟩;rcases hlens i x hx' with⟨_,hq⟩|⟨_,hq⟩
    ·exact c5 i x hq j y hy
    ·simp at hq)
  refine Qcc (Qdr ho es ex hrun) (Qa3.ofBlock hd hlt hdef hr (by simp) ?_ hK);exact⟨⟨hb.e,hb.ty,hb.xs.take m++[],false⟩,by simp[Qv],by simp;omega,.inr ⟨b,cap',Qb0 _ _ _,by simp,⟨cur,hb.ty,c1,by rw[Nat.zero_add];exact c2⟩,by omega⟩⟩
 obtain⟨sb,off,f,rfl,hf,hel⟩:=hcells hys;have hl0:0<ys.length:=List.length_pos_iff.2 hys;have hnews:∀(j:Nat)(v:Value),(Qb4 f (ys.length*hb.e))[j]? =some v->w.cell? ((⟨sb,off,none⟩:Addr).add j)=some v:=fun j v hj=>by obtain⟨hj',rfl⟩:=Qir hj;rw[Addr.add_lit];exact hf j hj'
 have hone:∀u∈Qb4 f (ys.length*hb.e),u.oneCell'=true:=by
  intro u hu';obtain⟨k,hk⟩:=List.getElem?_of_mem hu';obtain⟨hk',rfl⟩:=Qir hk;have hi:k/hb.e<ys.length:=(Nat.div_lt_iff_lt_mul h0).2 hk';have hj:=Nat.mod_lt k h0;obtain⟨l1,l2,l3⟩:=hel _ _ (List.getElem?_eq_getElem hi);have hjl:k%hb.e<(ys[k/hb.e]'hi).cells.length:=by omega
  have:=l3 _ _ (List.getElem?_eq_getElem hjl);rw[Nat.mul_comm,Nat.div_add_mod]at this;exact this.oneCell.1
 have hnl:=Qfb f (ys.length*hb.e);have hmc:m*hb.e+(Qb4 f (ys.length*hb.e)).length=(m+ys.length)*hb.e:=by rw[hnl,Nat.add_mul]
 by_cases hroom:m+ys.length<=cap'
 ·have hfit:m*hb.e+(Qb4 f (ys.length*hb.e)).length<=cur.size:=by rw[hmc,c2];exact Nat.mul_le_mul_right _ hroom
  have hrun:=run_append_room (P:=C.P) w t o.type hb.ty ti hu i1 b m cap' cur c1 ⟨sb,off,none⟩ ys.length scap (Qb4 f (ys.length*hb.e)) (by rw[hnl,i3]) hnews hone hroom (by rw[i3];exact hfit);rw[i3]at hrun;have hss:=Qhw (cur:=cur) (p:=m*hb.e) (cs:=Qb4 f (ys.length*hb.e)) hfit;have hsp:=fun k hk=>Qhv (cur:=cur) (p:=m*hb.e) (cs:=Qb4 f (ys.length*hb.e)) (k:=k) hfit hk;generalize hW:(cur.toList.take (m*hb.e)++Qb4 f (ys.length*hb.e)++cur.toList.drop (m*hb.e+(Qb4 f (ys.length*hb.e)).length)).toArray=W at hrun hss hsp;have hr:=h.rebindG (w':=w.setRow b W) β (some b) ⟨hb.e,hb.ty,hb.xs.take m++ys,false⟩ hB hgone ((Qiq w b W).mono (fun i _ hi=>⟨hi▸g3,hb,hβ,hfz⟩))
   (fun c hc=>by cases hc;exact⟨b1,by simpa using b2,.inr ⟨g3,hb,hβ,hfz⟩⟩) hown.epos
   (fun i x hx'=>by
    rcases hlens i x hx' with⟨_,hq⟩|⟨_,hq⟩
    ·exact hown.len i x hq
    ·exact⟨(hel _ x hq).1,(hel _ x hq).2.1⟩) (by simp)
   (fun c hc=>by
    cases hc;refine⟨W,cap',setRow_heap w b cur W hb.ty _ c1,by rw[hss];exact c2,by simp;omega,c4,fun i x hx' j y hy=>?_⟩;show Qs w _ y (Array.getD W (i*hb.e+j) undef);rcases hlens i x hx' with⟨hi,hq⟩|⟨hi,hq⟩
    ·have hj:j<hb.e:=by have:=(List.getElem?_eq_some_iff.1 hy).1;have:=(hown.len i x hq).1;omega
     have q1:=(Qh6 (n:=0) hi hj).1;have q2:m*hb.e<=cap'*hb.e:=Nat.mul_le_mul_right _ (by omega);rw[hsp _ (by omega),if_neg (by omega)];exact c5 i x hq j y hy
    ·have hi2:i-m<ys.length:=(List.getElem?_eq_some_iff.1 hq).1;have hj:j<hb.e:=by have:=(List.getElem?_eq_some_iff.1 hy).1;have:=(hel _ x hq).1;omega
     obtain⟨q1,q2⟩:=Qh6 (n:=m) hi2 hj;rw[show m+(i-m)=i by omega]at q2;rw[hsp _ (by omega),if_pos (by omega),q2,show m*hb.e+((i-m)*hb.e+j)-m*hb.e=(i-m)*hb.e+j by omega,Qjz q1];exact(hel _ x hq).2.2 j y hy)
  refine Qcc (Qdr ho es ex hrun) (Qa3.ofBlock hd hlt hdef hr (by simp) ?_ hK);exact⟨⟨hb.e,hb.ty,hb.xs.take m++ys,false⟩,by simp[Qv],by simp;omega,.inr ⟨b,cap',Qb0 _ _ _,by simp,⟨W,hb.ty,setRow_heap w b cur W hb.ty _ c1,by rw[hss,Nat.zero_add];exact c2⟩,by omega⟩⟩
 ·have hmcap:m*hb.e<=cur.size:=by rw[c2];exact Nat.mul_le_mul_right _ (by omega)
  have hol:(cur.toList.take (m*hb.e)).length=m*hb.e:=by simp;omega
  have holds:∀(j:Nat)(v:Value),(cur.toList.take (m*hb.e))[j]? =some v->w.cell? ((⟨b,0,none⟩:Addr).add j)=some v:=fun j v hj=>by
   have hj':j<m*hb.e:=by have:=(List.getElem?_eq_some_iff.1 hj).1;omega
   rw[List.getElem?_take_of_lt hj']at hj;rw[Addr.add_lit,Nat.zero_add,Qbg c1 (by omega),Qjw cur j v hj]
  have hrun:=run_append_grow (P:=C.P) w t o.type hb.ty ti zv hu i1 i2 ⟨b,0,none⟩ m cap' (cur.toList.take (m*hb.e)) (by rw[hol,i3]) holds ⟨sb,off,none⟩ ys.length scap (Qb4 f (ys.length*hb.e)) (by rw[hnl,i3]) hnews
   (by omega) (by omega) (growslice_fits (by omega) (by rw[i4];exact hbytes))
  have hge:=grownCap_ge w (m+ys.length) cap' hb.ty;have hcm:=grownCap_le_maxLen w (m+ys.length) cap' hb.ty (by rw[Qct];exact hmax);generalize grownCap w (m+ys.length) cap' hb.ty=G at hrun hge hcm;have hzs:zv.cells.size=hb.e:=by have:=(Qd1 (w:=w) (X:=Xof C ρ hp) i5).cells.1;omega
  have hcs:((cur.toList.take (m*hb.e)).toArray++(Qb4 f (ys.length*hb.e)).toArray++Builtin.zeroCells zv.cells (G-(m+ys.length))).size=G*hb.e:=by simp only[Array.size_append,List.size_toArray,hol,hnl,size_zeroCells,hzs,<-Nat.add_mul];congr 1;omega
  obtain⟨hr,hext⟩:=h.newBlockG β hB hgone ⟨hb.e,hb.ty,hb.xs.take m++ys,false⟩ _ G _ (.inr rfl) hcs (by simp;omega) hcm hown.epos
   (fun i x hx'=>by
    rcases hlens i x hx' with⟨_,hq⟩|⟨_,hq⟩
    ·exact hown.len i x hq
    ·exact⟨(hel _ x hq).1,(hel _ x hq).2.1⟩)
   (fun i x hx' j y hy=>by
    show Qs w _ y (Array.getD _ (i*hb.e+j) undef);rcases hlens i x hx' with⟨hi,hq⟩|⟨hi,hq⟩
    ·have hj:j<hb.e:=by have:=(List.getElem?_eq_some_iff.1 hy).1;have:=(hown.len i x hq).1;omega
     have q1:=(Qh6 (n:=0) hi hj).1;rw[Qbr,if_pos (by simp only[Array.size_append,List.size_toArray,hol];omega),Qbr,if_pos (by simp only[List.size_toArray,hol];omega),Qev,
      List.getD_eq_getElem?_getD,List.getElem?_take_of_lt q1]
     have:=c5 i x hq j y hy;simpa[Array.getD_eq_getD_getElem?]using this
    ·have hi2:i-m<ys.length:=(List.getElem?_eq_some_iff.1 hq).1;have hj:j<hb.e:=by have:=(List.getElem?_eq_some_iff.1 hy).1;have:=(hel _ x hq).1;omega
     obtain⟨q1,q2⟩:=Qh6 (n:=m) hi2 hj;rw[show m+(i-m)=i by omega]at q2;rw[q2,Qbr,if_pos (by simp only[Array.size_append,List.size_toArray,hol,hnl];omega),Qbr,if_neg (by simp only[List.size_toArray,hol];omega),Qev];simp only[List.size_toArray,hol];rw[show m*hb.e+((i-m)*hb.e+j)-m*hb.e=(i-m)*hb.e+j by omega,Qjz q1];exact(hel _ x hq).2.2 j y hy)
  refine Qcc (Qdr ho es ex hrun) (Qa3.ofBlock hd hlt hdef hr (by simp) ?_ hK);exact⟨⟨hb.e,hb.ty,hb.xs.take m++ys,false⟩,by simp[Qv],by simp;omega,.inr ⟨w.heap.size,G,Qb0 _ _ _,by simp,⟨_,hb.ty,Qa8 w.drew _,by rw[Nat.zero_add];exact hcs⟩,by omega⟩⟩
theorem Q7n{o:Oper}{s x:Operand}{t e:TypeId}{n by_:Nat}{z:PV}{ps px:PV}{d:Nat}{Q:Exit->Act->World->Prop}
  (ho:o.op= .call { callee:=.builtin .append,args:= #[s,x],argTypes:= #[t,t] }) (hd:o.dst=some d) (hlt:d<C.N) (hdef:a.defers=[]) (h:Q9 C ρ fr hp a.tmps w)
  (hu:C.P.underlying t=some (.slice e)) (hz:Qgp C.P e=some (n,by_,z)) (hzn:z.cells.length=n) (hs:Qr C ρ hp w ps (a.eval s)) (hx:Qr C ρ hp w px (a.eval x))
  (hnest:Qe6 hp px=none->Qwf n by_ e ps px d fr hp K->o.wp C.P a w (Qa3 C false w K) Q) (hv:Qgq n by_ e ps px d fr hp K):o.wp C.P a w (Qa3 C false w K) Q:=by
 unfold Qgq at hv;split at hv
 ·exact hnest (by assumption) hv
 ·rename_i e' ys hsrc;obtain⟨h0,hee,hv⟩:=hv;cases ps with
  |nilS=>obtain⟨k1,k2,hK⟩:=hv;exact Q3i (β:=d) ho hd hlt hdef h hu hz hx hsrc h0 hzn hee hs.nil_inv k1 k2 (Qmn (Qwj hlt)) (Qlu (Qwj hlt)) hK
  | mso β o' m=>
   cases o' with
   |succ o'=>exact hv.elim
   |zero=>
   simp only at hv;split at hv
   ·rename_i hb hβ;rcases hv with⟨k0,k1,k2,k3,k4,k5,k6,hK⟩|⟨k0,kY,⟨_,k1,k2,k3,k4,k5,k6⟩,hK⟩
    ·exact Q3j ho hd hlt hdef h hu hz hx hsrc h0 hzn hee hs (Qmn k0) (Qlu k0) hβ k1 k2 k3 k4 k5 k6 hK
    ·exact Q3j ho hd hlt hdef h hu hz hx hsrc h0 hzn hee hs Qie kY hβ k1 k2 k3 k4 k5 k6 hK
   ·exact hv.elim
  |_=>exact hv.elim
theorem Qy1{P:Program}{t ty e:TypeId}{n:Nat}(ht:P.underlying t=some (.slice e))(hn:tsz P e=some n){base ad:Option Addr}{dl dc sl sc:Nat}(hz:Nat.min sl dl=0)(w:World):
  (Builtin.copy_ #[t,t] ty #[.slice base dl dc,.slice ad sl sc]).run P w= .ok (goInt 0) w:=by
 have hs:=Qbq hn;cases ad<;>cases base<;>simp[Builtin.copy_,run_underlying ht,hs,Builtin.lenOf,Builtin.firstCells,hz,storeCells,loadCells,loadCellsFrom]
theorem Qsc{P:Program}{o:Oper}{s x:Operand}{t:TypeId}(ho:o.op= .call { callee:=.builtin .copy,args:= #[s,x],argTypes:= #[t,t] }){vs vx v:Value}{w w':World}(es:a.eval s=vs)(ex:a.eval x=vx)
  (hr:(Builtin.copy_ #[t,t] o.type #[vs,vx]).run P w= .ok v w'):(execOp a.eval o).run P w= .ok (.value v) w':=by
 unfold execOp;simp only[ho,resolve,Sem.run_bind,Sem.run_pure,Result.andThen_ok,invoke,builtin];simp[es,ex,hr]
theorem Qy2{P:Program}(w:World)(t ty elem:TypeId)(g o dLen dCap n:Nat)(a:Addr)(sLen sCap:Nat)(cur:Array Value)(ty':TypeId)(cs:List Value)
  (hu:P.underlying t=some (.slice elem)) (hs:tsz P elem=some n)
  (hg:w.heap[g]? =some (.cells cur ty' (0,0))) (hn:cs.length=Nat.min sLen dLen*n)
  (hsrc:∀j v,cs[j]? =some v->w.cell? (a.add j)=some v) (hfit:o+cs.length<=cur.size) (h1:∀v∈cs,v.oneCell'=true):
  (Builtin.copy_ #[t,t] ty #[.slice (some ⟨g,o,none⟩) dLen dCap,.slice (some a) sLen sCap]).run P w=
   .ok (goInt (Nat.min sLen dLen)) (w.setRow g (cur.toList.take o++cs++cur.toList.drop (o+cs.length)).toArray):=by
 have hl:=run_loadCells_list (P:=P) w a cs hsrc;have hst:=run_storeCells_at P g o ty' cs 0 cur w hg (by simpa using hfit) h1;have hz:=Qbq hs;simp[Builtin.copy_,run_underlying hu,hz,Builtin.lenOf,Builtin.firstCells,<-hn,hl,hst]
theorem Q7o{o:Oper}{s x:Operand}{t e:TypeId}{n:Nat}{ps px:PV}{d:Nat}{Q:Exit->Act->World->Prop}
  (ho:o.op= .call { callee:=.builtin .copy,args:= #[s,x],argTypes:= #[t,t] }) (hd:o.dst=some d) (hlt:d<C.N) (hdef:a.defers=[]) (h:Q9 C ρ fr hp a.tmps w)
  (hu:C.P.underlying t=some (.slice e)) (hn:tsz C.P e=some n) (hs:Qr C ρ hp w ps (a.eval s)) (hx:Qr C ρ hp w px (a.eval x))
  (hv:Qp9 n ps px d fr hp K):o.wp C.P a w (Qa3 C false w K) Q:=by
 unfold Qp9 at hv;split at hv
 ·rename_i e' ys β m hsrc;split at hv
  ·rename_i hb hβ;obtain⟨k0,k1,k2,k3,k4,hK⟩:=hv;obtain⟨hb2,g1,g2,g3⟩:=hs;rw[hβ]at g1;cases g1;obtain⟨ad,scap,ex,hcells⟩:=Qqc (e:=n) h hx hsrc k0 k3;have hown:=h.own β hb hβ;have zero:Nat.min ys.length m=0->o.wp C.P a w (Qa3 C false w K) Q:=by
    intro h0;have hrun:∀base cap,a.eval s= .slice base m cap->(execOp a.eval o).run C.P w= .ok (.value (goInt 0)) w:=fun base cap es=>
     Qsc ho es ex (Qy1 (P:=C.P) (ty:=o.type) hu hn h0 w)
    have e2:({ hb with xs:=ys.take m++hb.xs.drop ys.length }:HB)=hb:=by
     have:ys.take m++hb.xs.drop ys.length=hb.xs:=by
      rcases Nat.min_eq_zero_iff.1 h0 with hq|hq
      ·have:ys=[]:=List.eq_nil_of_length_eq_zero hq;subst this;simp
      ·have:hb.xs=[]:=List.eq_nil_of_length_eq_zero (by omega);subst hq;simp[this]
     rw[this]
    have e3:Qv hp β hb=hp:=by
     funext γ;unfold Qv;split
     ·rename_i he;rw[he,hβ]
     ·rfl
    rw[e2,e3,show(min (ys.length:Int) (m:Int))=0 by have:min ys.length m=0:=h0;omega]at hK;obtain⟨ad',cap',es⟩:=Qr.ms_inv (C:=C) (ρ:=ρ) (hp:=hp) (w:=w) ⟨hb,hβ,g2,g3⟩;exact Qcc (hrun _ _ es) (Qa3.ofBlock hd hlt hdef h (by simp) (Qr.mkInt _ _) hK)
   by_cases hmin:Nat.min ys.length m=0
   ·exact zero hmin
   rcases g3 with⟨g3,es,hm0,_⟩|⟨b,cap,g3,es,g5,g6⟩
   ·exact(hmin (by rw[hm0];simp)).elim
   rw[Nat.zero_mul]at es;have hys:ys≠[]:=by rintro rfl;exact hmin (by simp)
   obtain⟨sb,off,f,rfl,hf,hel⟩:=hcells hys;have hblk:=hown.blk;rw[g3]at hblk;obtain⟨b1,b2,cur,cap',c1,c2,c3,c4,c5⟩:=hblk;obtain⟨k,hk⟩:∃k,k=min ys.length m:=⟨_,rfl⟩
   have hnl:=Qfb f (k*n);have hkn:k*n<=ys.length*n:=Nat.mul_le_mul_right _ (by omega);have hone:∀u∈Qb4 f (k*n),u.oneCell'=true:=by
    intro u hu';obtain⟨q,hq⟩:=List.getElem?_of_mem hu';obtain⟨hq',rfl⟩:=Qir hq;have hi:q/n<ys.length:=(Nat.div_lt_iff_lt_mul k0).2 (by omega);have hj:=Nat.mod_lt q k0;obtain⟨l1,l2,l3⟩:=hel _ _ (List.getElem?_eq_getElem hi);have hjl:q%n<(ys[q/n]'hi).cells.length:=by omega
    have:=l3 _ _ (List.getElem?_eq_getElem hjl);rw[Nat.mul_comm,Nat.div_add_mod]at this;exact this.oneCell.1
   have hkc:k*n<=cap'*n:=Nat.mul_le_mul_right _ (by omega);have hfit:0+(Qb4 f (k*n)).length<=cur.size:=by rw[hnl,c2,k2];omega
   have hrun:=Qy2 (P:=C.P) w t o.type e b 0 m cap n ⟨sb,off,none⟩ ys.length scap cur hb.ty (Qb4 f (k*n)) hu hn c1 (by rw[hnl,hk])
    (fun j v hj=>by obtain⟨hj',rfl⟩:=Qir hj;rw[Addr.add_lit];exact hf j (by omega)) hfit hone
   have hss:=Qhw (cur:=cur) (p:=0) (cs:=Qb4 f (k*n)) hfit;have hsp:=fun q hq=>Qhv (cur:=cur) (p:=0) (cs:=Qb4 f (k*n)) (k:=q) hfit hq;generalize hW:(cur.toList.take 0++Qb4 f (k*n)++cur.toList.drop (0+(Qb4 f (k*n)).length)).toArray=W at hrun hss hsp;have hxl:(ys.take m++hb.xs.drop ys.length).length=hb.xs.length:=by simp;omega
   have hget:∀(i:Nat)(x:PV),(ys.take m++hb.xs.drop ys.length)[i]? =some x->(i<k/\ys[i]? =some x)∨(k<=i/\hb.xs[i]? =some x):=by
    intro i x hx';rw[List.getElem?_append]at hx';have ht:(ys.take m).length=k:=by simp;omega
    rw[ht]at hx';by_cases hi:i<k
    ·rw[if_pos hi,List.getElem?_take_of_lt (by omega)]at hx';exact .inl ⟨hi,hx'⟩
    ·rw[if_neg hi,List.getElem?_drop]at hx';refine .inr ⟨by omega,?_⟩;have hil:ys.length+(i-k)<hb.xs.length:=(List.getElem?_eq_some_iff.1 hx').1
     rwa[show ys.length+(i-k)=i by omega]at hx'
   have hst:=h.store β b hb { hb with xs:=ys.take m++hb.xs.drop ys.length } hβ k1 (by intro e;rw[e]at k4;simp at k4;exact hmin (by simp[k4])) g3 (Qiq w b W) rfl hxl k1
    (fun i x hx'=>by
     rcases hget i x hx' with⟨_,hq⟩|⟨_,hq⟩
     ·exact⟨by rw[(hel _ x hq).1];exact k2.symm,(hel _ x hq).2.1⟩
     ·exact hown.len i x hq)
    (fun e' cap2 hcap=>by obtain⟨cur',ty',d1,d2⟩:=hcap;rw[c1]at d1;cases d1;exact⟨_,_,setRow_heap w b cur _ hb.ty _ c1,by rw[hss];exact d2⟩)
    ⟨W,cap',setRow_heap w b cur W hb.ty _ c1,by rw[hss];exact c2,by rw[hxl];exact c3,c4,fun i x hx' j y hy=>by
     show Qs w _ y (Array.getD W (i*hb.e+j) undef);rcases hget i x hx' with⟨hi,hq⟩|⟨hi,hq⟩
     ·have hj:j<n:=by have:=(List.getElem?_eq_some_iff.1 hy).1;have:=(hel _ x hq).1;omega
      have q1:=(Qh6 (n:=0) hi hj).1;rw[k2,hsp _ (by rw[c2,k2];omega),if_pos (by omega),Nat.sub_zero,Qjz q1];exact(hel _ x hq).2.2 j y hy
     ·have hil:i<hb.xs.length:=(List.getElem?_eq_some_iff.1 hq).1;have hj:j<hb.e:=by have:=(List.getElem?_eq_some_iff.1 hy).1;have:=(hown.len i x hq).1;omega
      have:=c5 i x hq j y hy;have q2:k*n<=i*n:=Nat.mul_le_mul_right _ hi;have q3:=(Qh6 (n:=0) (show i<cap' by omega) (show j<n by omega)).1;rw[hsp _ (by rw[c2,k2];omega),if_neg (by rw[k2];omega)];exact this⟩
   rw[show(min (ys.length:Int) (m:Int))=((Nat.min ys.length m:Nat):Int)by have:Nat.min ys.length m=min ys.length m:=rfl;omega]at hK;exact Qcc (Qsc ho es ex hrun) (Qa3.ofBlock hd hlt hdef hst (by simp) (Qr.mkInt _ _) hK)
  ·exact hv.elim
 ·exact hv.elim
theorem Q41{o:Oper}{t:TypeId}{parts:Array (Nat×Operand)}{z:PV}{n by_:Nat}{ps:List (Nat×Nat×Opd)}{d:Nat}(ho:o.op= .build t parts)(hd:o.dst=some d)(hlt:d<C.N)(h:Q9 C ρ fr hp a.tmps w)
  (hz:Qgp C.P t=some (n,by_,z)) (hps:Qp6 C.P t parts.toList=some ps)
  (hv:Qid z.cells.length (ps.map fun p=>(p.1,p.2.1,ev fr p.2.2))/\K (upd fr d (.rag (Qdi z.cells ((ps.map fun p=>(p.1,p.2.1,ev fr p.2.2)).map fun p=>(p.1,(stN p.2.2).getD []))))) hp):Qac C ρ o a w K:=by
 obtain⟨hok,hK⟩:=hv;obtain⟨ti,zv,i1,i2,i3,i4,i5⟩:=Qhf hz;have hzr:Qip (Qbo C ρ hp w) z.cells zv.cells:=by have h0:Rows w (Xof C ρ hp) z.cells zv.cells:=(Qd1 i5).rows;exact⟨h0.1,fun i x hx=>Qbo.ofC (h0.2 i x hx)⟩
 have hev:(parts.map fun(x:Nat×Operand)=>(x.1,a.eval x.2)).toList=parts.toList.map fun x=>(x.1,a.eval x.2):=by simp
 have key:∀(f:Nat×Operand->Option (Nat×Nat×Opd))(place:Nat->Option (Nat×Nat)),parts.toList.mapM f=some ps->(∀x q,f x=some q->place x.1=some (q.1,q.2.1)/\opd x.2=some q.2.2)->
   ∃vs',Instr.fill place zv.cells (parts.map fun(x:Nat×Operand)=>(x.1,a.eval x.2)).toList=some vs'/\
    Qip (Qbo C ρ hp w) (Qdi z.cells ((ps.map fun p=>(p.1,p.2.1,ev fr p.2.2)).map fun p=>(p.1,(stN p.2.2).getD []))) vs':=by
  intro f place hm hf;rw[hev];refine Qk7 place _ _ _ _ hzr (by simp[(Qdq hm).1]) (fun i p q hpi hqi=>?_);simp only[List.map_map,List.getElem?_map,Option.map_eq_some_iff]at hqi;obtain⟨q0,hq0,rfl⟩:=hqi;obtain⟨x,hx,hfx,rfl⟩:=Qxo hm hpi hq0;obtain⟨f1,f2⟩:=hf x q0 hfx;obtain⟨cs,o1,o2,o3⟩:=hok (q0.1,q0.2.1,ev fr q0.2.2) (List.mem_map.2 ⟨q0,List.mem_of_getElem? hq0,rfl⟩);simp only[Function.comp]at o1 o2 o3⊢;simp only[o1,Option.getD_some];obtain⟨r1,r2,_⟩:=Q3h (Qar h f2) o1;exact⟨by rw[o2];exact f1,⟨r1,r2⟩,by rw[o2];exact o3⟩
 have fin:∀vs',(∀w',(Instr.build t (parts.map fun(x:Nat×Operand)=>(x.1,a.eval x.2))).run C.P w'= .ok (.agg vs') w')->
   Qip (Qbo C ρ hp w) (Qdi z.cells ((ps.map fun p=>(p.1,p.2.1,ev fr p.2.2)).map fun p=>(p.1,(stN p.2.2).getD []))) vs'->Qac C ρ o a w K:=by
  intro vs' hrun hr;refine⟨.agg vs',fun w'=>?_,_,_,by rw[hd];exact h.upd (p:=.rag _) ⟨vs',rfl,hr.1,hr.2⟩ hlt,hK⟩;unfold execOp;simp only[ho,Sem.run_bind];have:=hrun w';rw[show(parts.map fun(x:Nat×Operand)=>(x.1,a.eval x.2))=(parts.map fun x=>match x with|(i,x)=>(i,a.eval x))from rfl]at this;rw[this];rfl
 unfold Qp6 at hps;split at hps
 ·rename_i fs hu;simp only[Option.bind_eq_some_iff]at hps;obtain⟨pl,hpl,hm⟩:=hps;obtain⟨vs',g1,g2⟩:=key _ (fun i=>pl[i]?) hm (fun x q hq=>by simp only[Option.bind_eq_some_iff,Option.map_eq_some_iff]at hq;obtain⟨r,hr,y,hy,rfl⟩:=hq;exact⟨by simpa using hr,hy⟩);refine fin vs' (fun w'=>?_) g2;unfold Instr.build;have hp1:=run_places (P:=C.P) w' fs.toList pl hpl;simp[Sem.run_bind,Qdw i1 i2,Qan hu,Array.mapM_eq_mapM_toList,hp1]at g1⊢;simp[g1]
 ·rename_i len e hu;simp only[Option.bind_eq_some_iff]at hps;obtain⟨m,hm0,hm⟩:=hps;obtain⟨vs',g1,g2⟩:=key _ (fun i=>some (i*m,m)) hm (fun x q hq=>by simp only[Option.map_eq_some_iff]at hq;obtain⟨y,hy,rfl⟩:=hq;exact⟨rfl,hy⟩);refine fin vs' (fun w'=>?_) g2;unfold Instr.build;simp only[Sem.run_bind,Qdw i1 i2,Qan hu,Qbq hm0,Result.andThen_ok,g1,Sem.run_pure]
 ·simp at hps
end Go.FW
namespace Go.FW
open Go
variable {C : Ctx} {ρ : Nat -> Option Nat} {fr : Fr} {hp : HP} {tmps : Array Value} {w : World} {a : Act} {K : Qg}
theorem Qoh{x:PV}(h:Qeu x=true):∃β n,x= .mso β 0 n/\5000000<=β:=by
 unfold Qeu at h;split at h
 ·exact⟨_,_,rfl,by simpa using h⟩
 ·cases h
theorem Qxp{γ:Nat}:Qd0 γ (Qc1 γ fr)=Qc1 γ fr:=by
 funext i;unfold Qd0 Qc1;generalize fr i=p;cases p with
 |nst γ' e ty xs=>
  simp only[Qbb];split
  ·rfl
  ·rename_i hne;simp[Qeb,hne]
 |nso γ' o n=>simp only[Qbb];split<;>rfl
 |np γ' o n=>simp only[Qbb];split<;>rfl
 |fn f first cap=>
  simp only[Qbb];split
  ·rfl
  ·unfold Qaq;split<;>rfl
 |rag cs=>rfl
 |rtp cs=>rfl
 |rtq cs q=>rfl
 |_=>simp only[Qbb,Qaq];split<;>rfl
theorem Qjh{γ β o n:Nat}{b':Option Nat}{hb':HB}{w':World}{v:Value}(h:Q9 C ρ fr hp tmps w)(hx:Ext (fun b=>ρ γ=some b/\∃hb,hp γ=some hb/\hb.fz=false) w w')(hne:β≠γ)
  (hr:Qc5 ρ hp w β o n v):Qc5 (rb ρ γ b') (Qv hp γ hb') w' β o n v:=
 Qc5.move hr ⟨Qhx hne,fun hb hβ=>⟨hb,by simp[Qv,hne,hβ],rfl,Nat.le_refl _,fun b cap h1 h2=>
  Qb7 (hx.block b (Qdj h2) (fun⟨e1,hb0,e2,_⟩=>hne (h.inj β γ b (by simp[hβ]) (by simp[e2]) h1 e1))) h2⟩⟩
theorem Qc5.slice{β o n:Nat}{v:Value}(h:Qc5 ρ hp w β o n v):∃ad m c,v= .slice ad m c:=by
 obtain⟨_,_,_,⟨_,e,_⟩|⟨_,_,_,e,_⟩⟩:=h
 ·exact⟨_,_,_,e⟩
 ·exact⟨_,_,_,e⟩
theorem Qt8{β:Nat}(h:1000000<=β):isB β=true:=by simp[isB];omega
theorem Qwl{β:Nat}(h:2000000<=β):isY β=false:=by simp[isY];omega
theorem Q9.nestNew{γ b ty cap:Nat}{cur:Array Value}{xs:List PV}(h:Q9 C ρ (Qc1 γ fr) hp tmps w)(hB:isB γ=true)(hγ:hp γ=some ⟨1,ty,[],false⟩)(hρ:ρ γ=some b)
  (h1:w.heap[b]? =some (.cells cur ty (0,0))) (h2:cur.size=cap) (h3:xs.length<=cap) (h4:cap<=maxLen) (hr:xs.all Qeu=true)
  (h6:∀(i β n:Nat),xs[i]? =some (.mso β 0 n)->Qc5 ρ hp w β 0 n (cur.getD i undef)):Q9 C ρ (FW.upd (Qc1 γ fr) γ (.nst γ 1 ty xs)) hp tmps w:=by
 have hrow:∀(i:Nat)(x:PV),xs[i]? =some x->∃β n,x= .mso β 0 n/\5000000<=β:=fun i x hx=>Qoh (List.all_eq_true.1 hr _ (List.mem_of_getElem? hx));have:=h.nestStore (w':=w) (γ:=γ) (b:=b) (e:=1) (ty:=ty) (xs':=xs) (cur':=cur) (cap:=cap) hB (by omega) hγ rfl rfl rfl rfl hρ (Ext.refl _ _) (fun _ _ h=>h) h1 (by omega) h3 h4
  (fun i x hx=>by obtain⟨β,n,rfl,_⟩:=hrow i x hx;rfl)
  (fun i x hx j y hy=>by
   obtain⟨β,n,rfl,hβ⟩:=hrow i x hx;rw[show(PV.mso β 0 n).ncells=[.mso β 0 n]from rfl]at hy;have hj:j<1:=by have:=(List.getElem?_eq_some_iff.1 hy).1;simpa using this
   obtain rfl:j=0:=by omega
   simp at hy;subst hy;rw[Nat.mul_one,Nat.add_zero];exact⟨Qt8 (by omega),h6 i β n hx⟩)
 rwa[Qxp]at this
theorem Qt9{γ k cap:Nat}{ρ':Nat->Option Nat}{hp':HP}{b ty:Nat}{cur:Array Value}(hB:isB γ=true)(h1:hp' γ=some ⟨1,ty,[],false⟩)(h2:ρ' γ=some b)(h3:w.heap[b]? =some (.cells cur ty (0,0)))(h4:cur.size=cap)(h5:cap<=maxLen)(h6:k<=cap):
  Qr C ρ' hp' w (.nso γ 0 k) (.slice (some ⟨b,0,none⟩) k cap):=
 ⟨hB,⟨1,ty,[],false⟩,b,cap,h1,h2,by simp,⟨cur,ty,h3,by simp[h4]⟩,by omega,h6⟩
theorem Q7p{o:Oper}{t e:TypeId}{len n by_:Nat}{z:PV}{parts:Array (Nat×Operand)}{ps:List Opd}{d:Nat}{Q:Exit->Act->World->Prop}(ho:o.op= .buildSlice t len parts)(hd:o.dst=some d)(hlt:d<C.N)(hdef:a.defers=[])(h:Q9 C ρ fr hp a.tmps w)
  (hu:C.P.underlying t=some (.slice e)) (hz:Qgp C.P e=some (n,by_,z)) (hrange:parts.toList.map (·.1)=List.range len) (hzn:z.cells.length=n) (hps:(parts.toList.mapM fun p=>opd p.2)=some ps)
  (hbig:Qks (ps.map (ev fr))=true) (hv:bsN n e (ps.map (ev fr)) d fr hp K):o.wp C.P a w (Qa3 C true w K) Q:=by
 obtain⟨rfl,hK⟩:=hv;obtain⟨ti,zv,i1,i2,i3,i4,i5⟩:=Qhf hz;obtain⟨m1,m2⟩:=Qdq hps;obtain⟨u,rfl⟩:∃u,ps=[u]:=by
  match ps,hbig with
  | [],hb=>simp[Qks]at hb
  | [u],_=>exact⟨u,rfl⟩
  |u::v::ps,hb=>simp[Qks]at hb
 have hrow:Qeu (ev fr u)=true:=by simpa[Qks]using hbig
 obtain⟨β,m,hev,hβ⟩:=Qoh hrow;obtain⟨⟨i,x⟩,hpx⟩:∃p,parts.toList=[p]:=by
  match hq:parts.toList with
  | []=>rw[hq]at m1;simp at m1
  | [p]=>exact⟨p,rfl⟩
  |p::q::r=>rw[hq]at m1;simp at m1
 rw[hpx]at hrange m2;obtain rfl:len=1:=by have:=congrArg List.length hrange;simpa using this.symm
 obtain rfl:i=0:=by simpa using hrange
 have hxu:opd x=some u:=by obtain⟨x',hx',ho'⟩:=m2 0 u rfl;simp at hx';subst hx';exact ho'
 have hx:=Qar h hxu;rw[hev]at hx;have hro:Qc5 ρ hp w β 0 m (a.eval x):=hx;obtain⟨ad,m',c',hvx⟩:=hro.slice;have hN:=C.hN;have hdN:nmN d<5000000:=by unfold nmN;omega
 have hB:isB (nmN d)=true:=Qt8 (by unfold nmN;omega);have hY:isY (nmN d)=false:=Qwl (by unfold nmN;omega);obtain⟨hs,he⟩:=h.newBlockG (nmN d) hY Qie ⟨1,e,[],false⟩ #[a.eval x] 1 _ (.inl rfl) (by simp) (by simp) (by rw[Qct];omega) (by simp) (by simp) (by simp);have hs2:=hs.nestNew (cur:= #[a.eval x]) (cap:=1) (xs:=[.mso β 0 m]) hB (by simp[Qv]) (Qb0 _ _ _) (Qa8 w _) (by simp) (by simp) (by rw[Qct];omega) (by simp[Qeu,hβ]) (fun i β' n' hi=>by
  match i,hi with
  |0,hi=>simp at hi;obtain⟨rfl,rfl⟩:=hi;exact Qjh h (Ext.alloc w _ _) (by omega) hro
  |i+1,hi=>simp at hi)
 rw[List.map_cons,List.map_nil,hev]at hK;refine Qcc (v:=.slice (some ⟨w.heap.size,0,none⟩) 1 1) ?_ (Qa3.ofBlock hd hlt hdef hs2 (fun _=>he) (Qt9 hB (by simp[Qv]) (Qb0 _ _ _) (Qa8 w _) (by simp) (by rw[Qct];omega) (by omega)) hK);unfold execOp;have hpe:(parts.map fun x=>match x with|(i,x)=>(i,a.eval x)).toList=[(0,a.eval x)]:=by simp[hpx]
 simp only[ho,Instr.buildSlice,Sem.run_bind,Qan hu,Result.andThen_ok,Qbq (show tsz C.P e=some 1 by simp[tsz,i1,i3]),hpe];simp[Sem.run_pure,Sem.run_bind,Qdw i1 i2,Instr.fill,hvx,Value.cells,newRow,show Array.range 1= #[0]from rfl]
theorem Q42{o:Oper}{t:TypeId}{n:Nat}{x:Operand}{cs:List PV}{d:Nat}{Q:Exit->Act->World->Prop}(ho:o.op= .box t x)(hd:o.dst=some d)(hlt:d<C.N)(hdef:a.defers=[])(h:Q9 C ρ fr hp a.tmps w)
  (hx:Qr C ρ hp w (.rag cs) (a.eval x)) (hv:Qp8 n t cs d fr hp K):o.wp C.P a w (Qa3 C true w K) Q:=by
 obtain⟨⟨hlen,hn,hU,hno⟩,hK⟩:=hv;obtain⟨vs,ex,hsz,hcs⟩:=hx;have hN:=C.hN;have hB:isB (nmN d)=true:=Qt8 (by unfold nmN;omega);have hY:isY (nmN d)=false:=Qwl (by unfold nmN;omega);obtain⟨hs,he⟩:=h.newBlockG (nmN d) hY Qie ⟨n,t,[],false⟩ vs 1 _ (.inl rfl) (by simp;omega) (by simp) (by rw[Qct];omega) hn (by simp) (by simp);have hsl:∀(i:Nat)(y:PV),cs[i]? =some y->Qbo C (rb ρ (nmN d) (some w.heap.size)) (Qv hp (nmN d) ⟨n,t,[],false⟩) (w.alloc (.cells vs t)) y (vs.getD i undef):=fun i y hi=>by
  have hm:=List.mem_of_getElem? hi;have hny:∀β∈y.sref1,β≠nmN d:=fun β hβ e=>by have:=List.all_eq_true.1 hno y hm;subst e;simp[hβ]at this
  refine(hcs i y hi).move ⟨fun b hb _=>Qjx w _ b hb,fun b hb hX=>?_,by rw[Qjy];omega⟩ (fun β hβ=>⟨Qhx (hny β hβ),fun hb hh=>⟨hb,by simp[Qv,hny β hβ,hh],rfl,Nat.le_refl _,fun b cap _ hc=>Qb7 (Qjx w _ b (Qdj hc)) hc⟩⟩);rintro(hx0|⟨γ,hg,h1,h2,h3⟩)
  ·exact hX (.inl hx0)
  ·by_cases hγ:γ=nmN d
   ·subst hγ;rw[Qb0]at h3;cases h3;omega
   ·refine hX (.inr ⟨γ,hg,?_,h2,by rwa[Qhx hγ]at h3⟩);simpa[Qv,hγ]using h1
 have:=hs.nestStore (w':=w.alloc (.cells vs t)) (γ:=nmN d) (b:=w.heap.size) (e:=n) (ty:=t) (xs':=[.rag cs]) (cur':=vs) (cap:=1) hB hn (show Qv hp (nmN d) ⟨n,t,[],false⟩ (nmN d)=some ⟨n,t,[],false⟩by simp[Qv]) rfl rfl rfl rfl (Qb0 _ _ _) (Ext.refl _ _) (fun _ _ h=>h) (Qa8 w _) (by omega) (by simp) (by rw[Qct];omega)
  (fun i x hx=>by
   match i,hx with
   |0,hx=>simp at hx;subst hx;exact hlen
   |i+1,hx=>simp at hx)
  (fun i x hx j y hy=>by
   match i,hx with
   |0,hx=>simp at hx;subst hx;rw[Nat.zero_mul,Nat.zero_add];exact hsl j y hy
   |i+1,hx=>simp at hx)
 rw[Qxp]at this;refine Qcc (v:=.pointer (some ⟨w.heap.size,0,none⟩)) (w':=w.alloc (.cells vs t)) ?_ (Qa3.ofBlock (p:=.np (nmN d) 0 0) hd hlt hdef this (fun _=>he) ⟨hB,w.heap.size,⟨n,t,[],false⟩,Qb0 _ _ _,by simp[Qv],by simp⟩ hK);unfold execOp;simp only[ho,Instr.box,newVar,newRow,ex,Value.cells];simp
theorem Q43{o:Oper}{t:TypeId}{n:Nat}{x:Operand}{px:PV}{d:Nat}{Q:Exit->Act->World->Prop}(ho:o.op= .box t x)(hd:o.dst=some d)(hlt:d<C.N)(hdef:a.defers=[])(h:Q9 C ρ fr hp a.tmps w)
  (hx:Qr C ρ hp w px (a.eval x)) (hv:Qdu n t px d fr hp K):o.wp C.P a w (Qa3 C true w K) Q:=
 Q7l ho hd hlt hdef h hx (fun _ e hb=>Q42 ho hd hlt hdef h (e▸hx) hb) hv
theorem Q44 {o:Oper} {s x:Operand} {t e:TypeId} {n by_:Nat} {z:PV} {ps px:PV} {d:Nat} {Q:Exit->Act->World->Prop}
  (ho:o.op= .call { callee:=.builtin .append,args:= #[s,x],argTypes:= #[t,t] }) (hd:o.dst=some d) (hlt:d<C.N) (hdef:a.defers=[]) (h:Q9 C ρ fr hp a.tmps w)
  (hu:C.P.underlying t=some (.slice e)) (hz:Qgp C.P e=some (n,by_,z)) (hzn:z.cells.length=n) (hs:Qr C ρ hp w ps (a.eval s)) (hx:Qr C ρ hp w px (a.eval x))
  (hv:Qwf n by_ e ps px d fr hp K):o.wp C.P a w (Qa3 C false w K) Q:=by
 obtain⟨ti,zv,i1,i2,i3,i4,i5⟩:=Qhf hz;have hN:=C.hN;have hdN:nmN d<5000000:=by unfold nmN;omega
 have hBd:isB (nmN d)=true:=Qt8 (by unfold nmN;omega);have hYd:isY (nmN d)=false:=Qwl (by unfold nmN;omega);unfold Qwf at hv;split at hv
 ·rename_i δ;split at hv
  ·rename_i δ' ty' y hfδ;obtain⟨rfl,hyr,rfl,hv⟩:=hv;obtain⟨β,m,rfl,hβ⟩:=Qoh hyr;obtain⟨_,hbδ,b,cap,gδ,rδ,ex,_,_,_⟩:=hx;have hfact:=h.slots δ';rw[hfδ]at hfact;obtain⟨_,_,b2,hb2,cur,cap2,q1,q2,q3,q4,q5,q6,q7,q8,q9,_,q11⟩:=hfact;rw[gδ]at q2;cases q2;rw[rδ]at q1;cases q1;rw[Nat.zero_mul]at ex;have hrs:=q11 0 _ rfl 0 (.mso β 0 m) rfl;simp only[Nat.zero_mul,Nat.zero_add]at hrs;have hro:Qc5 ρ hp w β 0 m (cur.getD 0 undef):=hrs.2;obtain⟨ad,m',c',hcv⟩:=hro.slice;have h0s:0<cur.size:=by simp at q8;omega
   have hcell:w.cell? ⟨b,0,none⟩=some (cur.getD 0 undef):=Qbg q6 h0s;obtain⟨u,hu0⟩:∃u,cur.getD 0 undef=u:=⟨_,rfl⟩
   rw[hu0]at hro hcv hcell;have hnews:∀(j:Nat)(v:Value),[u][j]? =some v->w.cell? ((⟨b,0,none⟩:Addr).add j)=some v:=fun j v hj=>by
    have hj0:j<1:=by have:=(List.getElem?_eq_some_iff.1 hj).1;simpa using this
    obtain rfl:j=0:=by omega
    simp at hj;subst hj;rw[Addr.add_lit,Nat.add_zero];exact hcell
   have hzs:zv.cells.size=1:=by have:=(Qd1 (w:=w) (X:=Xof C ρ hp) i5).cells.1;omega
   split at hv
   ·obtain⟨hb,hK⟩:=hv;have es:=hs.nil_inv;have hrun:=run_append_nil (P:=C.P) w t o.type e ti zv hu i1 i2 ⟨b,0,none⟩ 1 cap [u] (by simp[i3]) hnews (by omega) (by omega) (by rw[i4];omega);have hge:=grownCap_ge w 1 0 e;have hcm:=grownCap_le_maxLen w 1 0 e (by rw[Qct];omega);generalize grownCap w 1 0 e=G at hrun hge hcm;have hcs:([u].toArray++Builtin.zeroCells zv.cells (G-1)).size=G:=by simp[size_zeroCells,hzs];omega
    have hcs1:([u].toArray++Builtin.zeroCells zv.cells (G-1)).size=G*1:=by omega
    have hg0:([u].toArray++Builtin.zeroCells zv.cells (G-1)).getD 0 undef=u:=by rw[Qbr,if_pos (by simp),Qev];rfl
    obtain⟨hs1,_⟩:=h.newBlockG (nmN d) hYd Qie ⟨1,e,[],false⟩ ([u].toArray++Builtin.zeroCells zv.cells (G-1)) G _ (.inr rfl) hcs1 (by simp) hcm (by simp) (by simp) (by simp);have hs2:=hs1.nestNew (cap:=G) (xs:=[.mso β 0 m]) hBd (by simp[Qv]) (Qb0 _ _ _) (Qa8 w.drew _) hcs (by simpa using hge) hcm (by simp[Qeu,hβ]) (fun i β' n' hi=>by
     match i,hi with
     |0,hi=>simp at hi;obtain⟨rfl,rfl⟩:=hi;rw[hg0];exact Qjh h ((Ext.drew w _).trans (Ext.alloc w.drew _ _)) (by omega) hro
     |i+1,hi=>simp at hi)
    exact Qcc (Qdr ho es ex hrun) (Qa3.ofBlock hd hlt hdef hs2 (by simp) (Qt9 hBd (by simp[Qv]) (Qb0 _ _ _) (Qa8 w.drew _) hcs hcm hge) hK)
   ·rename_i γ k;split at hv
    ·rename_i γ' ty2 xs hfγ;obtain⟨⟨rfl,hγ5,hY,rfl,rfl,hxs,hby,hmax⟩,⟨hb,hγ,hfz⟩,hK⟩:=hv;obtain⟨hB,hbs,b1,cap1,g1,g2,es,g4,g5,g6⟩:=hs;rw[hγ]at g1;cases g1;have hfact:=h.slots γ';rw[hfγ]at hfact;obtain⟨_,_,b1',hb',cur1,cap1',p1,p2,p3,p4,p5,p6,p7,p8,p9,_,p11⟩:=hfact;rw[hγ]at p2;cases p2;rw[g2]at p1;cases p1;rw[Nat.zero_mul]at es;obtain⟨cur1',ty1',d1,d2⟩:=g4;rw[p6]at d1;cases d1;rw[p4,Nat.mul_one,Nat.zero_add]at d2;rw[Nat.mul_one]at p7;obtain rfl:cap1'=cap1:=by omega
     have hro1:∀(i β' n':Nat),xs[i]? =some (.mso β' 0 n')->Qc5 ρ hp w β' 0 n' (cur1.getD i undef):=fun i β' n' hi=>by have:=p11 i _ hi 0 (.mso β' 0 n') rfl;simp only[Nat.mul_one,Nat.add_zero]at this;exact this.2
     have hrow1:∀(i β' n':Nat),xs[i]? =some (.mso β' 0 n')->β'≠γ':=fun i β' n' hi=>by have:=List.all_eq_true.1 hxs _ (List.mem_of_getElem? hi);simp[Qeu]at this;omega
     have hall:(xs++[PV.mso β 0 m]).all Qeu=true:=by rw[List.all_append,hxs];simp[Qeu,hβ]
     have hown:=(h.own γ' hb hγ).blk;rw[g2]at hown;obtain⟨o1,o2,_⟩:=hown;replace o1:=Ctx.cls_N o1 hY;have hone:∀u'∈[u],u'.oneCell'=true:=by intro u' hu';simp at hu';subst hu';rw[hcv];rfl
     by_cases hroom:xs.length+1<=cap1'
     ·have hrun:=run_append_room (P:=C.P) w t o.type ty2 ti hu i1 b1 xs.length cap1' cur1 p6 ⟨b,0,none⟩ 1 cap [u] (by simp[i3]) hnews hone hroom (by simp[i3];omega);rw[i3,Nat.mul_one]at hrun;have hfit:xs.length+[u].length<=cur1.size:=by simp;omega
      have hss:=Qhw (cur:=cur1) (p:=xs.length) (cs:=[u]) hfit;have hsp:=fun k hk=>Qhv (cur:=cur1) (p:=xs.length) (cs:=[u]) (k:=k) hfit hk;generalize hW:(cur1.toList.take xs.length++[u]++cur1.toList.drop (xs.length+[u].length)).toArray=W at hrun hss hsp;have hE:Ext (fun c=>ρ γ'=some c/\∃hb,hp γ'=some hb/\hb.fz=false) w (w.setRow b1 W):=(Qiq w b1 W).mono (fun i _ hi=>⟨hi▸g2,hb,hγ,hfz⟩);have hheap:(w.setRow b1 W).heap[b1]? =some (.cells W ty2 (0,0)):=setRow_heap w b1 cur1 W ty2 _ p6;have hs1:=h.rebindG (w':=w.setRow b1 W) γ' (some b1) ⟨1,ty2,[],false⟩ hY Qie hE
       (fun c hc=>by cases hc;exact⟨o1,by simpa using o2,.inr ⟨g2,hb,hγ,hfz⟩⟩) (by simp) (by simp) (by simp)
       (fun c hc=>by cases hc;exact⟨W,cap1',hheap,by simp[hss];omega,by simp,p9,by simp⟩)
      have hs2:=hs1.nestNew (cap:=cap1') (xs:=xs++[.mso β 0 m]) hB (by simp[Qv]) (Qb0 _ _ _) hheap (by omega) (by simpa using hroom) p9 hall (fun i β' n' hi=>by
       rw[List.getElem?_append]at hi;by_cases hil:i<xs.length
       ·rw[if_pos hil]at hi;rw[hsp i (by omega),if_neg (by omega)];exact Qjh h hE (hrow1 i β' n' hi) (hro1 i β' n' hi)
       ·rw[if_neg hil]at hi;have hi0:i-xs.length<1:=by have:=(List.getElem?_eq_some_iff.1 hi).1;simpa using this
        obtain rfl:i=xs.length:=by omega
        rw[Nat.sub_self]at hi;simp at hi;obtain⟨rfl,rfl⟩:=hi;rw[hsp _ (by omega),if_pos (by simp),Nat.sub_self];exact Qjh h hE (by omega) hro)
      exact Qcc (Qdr ho es ex hrun) (Qa3.ofBlock hd hlt hdef hs2 (by simp) (Qt9 hB (by simp[Qv]) (Qb0 _ _ _) hheap (by omega) p9 hroom) hK)
     ·have hol:(cur1.toList.take xs.length).length=xs.length:=by simp;omega
      have holds:∀(j:Nat)(v:Value),(cur1.toList.take xs.length)[j]? =some v->w.cell? ((⟨b1,0,none⟩:Addr).add j)=some v:=fun j v hj=>by
       have hj':j<xs.length:=by have:=(List.getElem?_eq_some_iff.1 hj).1;omega
       rw[List.getElem?_take_of_lt hj']at hj;rw[Addr.add_lit,Nat.zero_add,Qbg p6 (by omega),Qjw cur1 j v hj]
      have hrun:=run_append_grow (P:=C.P) w t o.type ty2 ti zv hu i1 i2 ⟨b1,0,none⟩ xs.length cap1' (cur1.toList.take xs.length) (by rw[hol,i3,Nat.mul_one]) holds ⟨b,0,none⟩ 1 cap [u] (by simp[i3]) hnews
       (by omega) (by omega) (growslice_fits (by omega) (by rw[i4];exact hby))
      have hge:=grownCap_ge w (xs.length+1) cap1' ty2;have hcm:=grownCap_le_maxLen w (xs.length+1) cap1' ty2 (by rw[Qct];exact hmax);generalize grownCap w (xs.length+1) cap1' ty2=G at hrun hge hcm;have hcs:((cur1.toList.take xs.length).toArray++[u].toArray++Builtin.zeroCells zv.cells (G-(xs.length+1))).size=G:=by simp only[Array.size_append,List.size_toArray,hol,size_zeroCells,hzs,List.length_cons,List.length_nil];omega
      have hgd:∀i,i<xs.length+1->((cur1.toList.take xs.length).toArray++[u].toArray++Builtin.zeroCells zv.cells (G-(xs.length+1))).getD i undef=if i<xs.length then cur1.getD i undef else u:=fun i hi=>by
       rw[Qbr,if_pos (by simp only[Array.size_append,List.size_toArray,hol,List.length_cons,List.length_nil];omega),Qbr,List.size_toArray,hol];by_cases hil:i<xs.length
       ·rw[if_pos hil,if_pos hil,Qev,List.getD_eq_getElem?_getD,List.getElem?_take_of_lt hil];simp[Array.getD_eq_getD_getElem?]
       ·rw[if_neg hil,if_neg hil,Qev,show i-xs.length=0 by omega];rfl
      generalize hW:(cur1.toList.take xs.length).toArray++[u].toArray++Builtin.zeroCells zv.cells (G-(xs.length+1))=W at hrun hcs hgd;obtain⟨hs1,_⟩:=h.newBlockG γ' hY Qie ⟨1,ty2,[],false⟩ W G _ (.inr rfl) (by simp[hcs]) (by simp) hcm (by simp) (by simp) (by simp);have hE:Ext (fun c=>ρ γ'=some c/\∃hb,hp γ'=some hb/\hb.fz=false) w (w.drew.alloc (.cells W ty2)):=(Ext.drew w _).trans (Ext.alloc w.drew _ _);have hs2:=hs1.nestNew (cap:=G) (xs:=xs++[.mso β 0 m]) hB (by simp[Qv]) (Qb0 _ _ _) (Qa8 w.drew _) hcs (by simpa using hge) hcm hall (fun i β' n' hi=>by
       rw[List.getElem?_append]at hi;by_cases hil:i<xs.length
       ·rw[if_pos hil]at hi;rw[hgd i (by omega),if_pos hil];exact Qjh h hE (hrow1 i β' n' hi) (hro1 i β' n' hi)
       ·rw[if_neg hil]at hi;have hi0:i-xs.length<1:=by have:=(List.getElem?_eq_some_iff.1 hi).1;simpa using this
        obtain rfl:i=xs.length:=by omega
        rw[Nat.sub_self]at hi;simp at hi;obtain⟨rfl,rfl⟩:=hi;rw[hgd _ (by omega),if_neg (by omega)];exact Qjh h hE (by omega) hro)
      exact Qcc (Qdr ho es ex hrun) (Qa3.ofBlock hd hlt hdef hs2 (by simp) (Qt9 hB (by simp[Qv]) (Qb0 _ _ _) (Qa8 w.drew _) hcs hcm hge) hK)
    ·exact hv.elim
   ·exact hv.elim
  ·exact hv.elim
 ·exact hv.elim
theorem Q7q{o:Oper}{t e:TypeId}{len n by_:Nat}{z:PV}{parts:Array (Nat×Operand)}{ps:List Opd}{d:Nat}{Q:Exit->Act->World->Prop}(ho:o.op= .buildSlice t len parts)(hd:o.dst=some d)(hlt:d<C.N)(hdef:a.defers=[])(h:Q9 C ρ fr hp a.tmps w)
  (hu:C.P.underlying t=some (.slice e)) (hz:Qgp C.P e=some (n,by_,z)) (hrange:parts.toList.map (·.1)=List.range len) (hsmall:len*n<=16777216) (hzn:z.cells.length=n) (hps:(parts.toList.mapM fun p=>opd p.2)=some ps)
  (hv:bsK n e (ps.map (ev fr)) d fr hp K):o.wp C.P a w (Qa3 C true w K) Q:=by
 unfold bsK at hv;split at hv
 ·rename_i hb;exact Q7p ho hd hlt hdef h hu hz hrange hzn hps hb hv
 ·exact Qabd ho hd hlt hdef h hu hz hrange hsmall hzn hps hv
theorem Q45{o:Oper}{s x:Operand}{t e:TypeId}{n by_:Nat}{z:PV}{ps px:PV}{d:Nat}{Q:Exit->Act->World->Prop}
  (ho:o.op= .call { callee:=.builtin .append,args:= #[s,x],argTypes:= #[t,t] }) (hd:o.dst=some d) (hlt:d<C.N) (hdef:a.defers=[]) (h:Q9 C ρ fr hp a.tmps w)
  (hu:C.P.underlying t=some (.slice e)) (hz:Qgp C.P e=some (n,by_,z)) (hzn:z.cells.length=n) (hs:Qr C ρ hp w ps (a.eval s)) (hx:Qr C ρ hp w px (a.eval x))
  (hv:Qgq n by_ e ps px d fr hp K):o.wp C.P a w (Qa3 C false w K) Q:=
 Q7n ho hd hlt hdef h hu hz hzn hs hx (fun _ hn=>Q44 ho hd hlt hdef h hu hz hzn hs hx hn) hv
end Go.FW
namespace Go.FW
open Go
variable {C : Ctx} {ρ : Nat -> Option Nat} {fr : Fr} {hp : HP} {w : World} {a : Act} {K : Qg}
theorem Qz6 {P : Program} {g : FuncId} (hg : (P.funcs[g]?).any (fun fn => fn.body.isSome && fn.name != "runtime.NumGoroutine") = true) (args : Array Value) (w : World) :
  (callFunc g args).run P w= .ok (.enter g args) w:=by
 cases hf:P.funcs[g]? with
 |none=>simp[hf]at hg
 |some fn=>
  simp only[hf,Option.any_some,Bool.and_eq_true,bne_iff_ne,ne_eq]at hg;obtain⟨h1,h2⟩:=hg;have h3:fn.body.isNone=false:=by cases hb:fn.body<;>simp[hb]at h1⊢
  have h4 : (fn.name == "runtime.NumGoroutine") = false := by simpa using h2
  have hn:¬(fn.body=none):=fun he=>by simp[he]at h1
  unfold callFunc;simp[hf,h2,hn]
theorem Q46{o:Oper}{f:Operand}{args:Array Operand}{ts:Array TypeId}{pf:Opd}{pargs:List Opd}{pr:Bool}{Q:Exit->Act->World->Prop}
  (ho:o.op= .call { callee:=.value f,args:=args,argTypes:=ts }) (hlt:∀d,o.dst=some d->d<C.N) (hdef:a.defers=[]) (h:Q9 C ρ fr hp a.tmps w)
  (hf:opd f=some pf) (hargs:args.toList.mapM opd=some pargs) (hv:Qgw C pr (ev fr pf) (pargs.map (ev fr)) o.dst fr hp K):o.wp C.P a w (Qa3 C pr w K) Q:=by
 have hfr:=Qar h hf;unfold Qgw at hv;split at hv
 ·rename_i g first cap hev
  rw[hev]at hfr;obtain⟨hg,hcall⟩:=hv;obtain⟨fv,cv,ef,h1,h2,h3,h4⟩:=hfr;obtain⟨m1,m2⟩:=Qs9 h hargs;have hmap:(args.toList.map a.eval).toArray=args.map a.eval:=Array.ext' (by simp);rw[hmap]at m2;have hc:=hcall ρ a.tmps w fv cv (args.map a.eval) hlt h h1 h2 (by simpa using m1.symm) h3 h4 m2;have hex:(execOp a.eval o).run C.P w= .ok (.enter g (fv++args.map a.eval++cv)) w:=by unfold execOp;simp only[ho,resolve,Sem.run_bind,Sem.run_pure,Result.andThen_ok,ef,Deferred.ofValue,invoke];rw[Qz6 hg]
  unfold Oper.wp;rw[hex];refine hc.mono fun e w' hp'=>?_;obtain⟨v,fr',hp',rfl,hs,hx,hK⟩:=hp';refine⟨by rw[Qfn];exact hdef,⟨fr',hp',?_,hK⟩,hx⟩;cases hd:o.dst with
  |some d=>rw[hd]at hs;exact hs
  |none=>rw[hd]at hs;exact hs
 ·exact hv.elim
theorem Qf1{α:Type}{xs:Array α}{l:List α}(h:xs.toList=l):xs=l.toArray:=by subst h;simp
theorem Qly{P:Program}{t e:TypeId}(h:Qk4 P t=some e):P.underlying t=some (.slice e):=by
 unfold Qk4 at h;split at h
 ·rename_i hq;cases h;exact hq
 ·cases h
theorem Qua{dr:Bool}{o:Oper}(hcls:(Qa1 C.P dr o).cls=0)(hlt:∀d,o.dst=some d->d<C.N)(h:Q9 C ρ fr hp a.tmps w)(hv:opV C (Qa1 C.P dr o) fr hp K):Qac C ρ o a w K:=by
 unfold Qa1 at hcls hv;cases hco:Qck C.P dr o with
 |none=>rw[hco]at hv;exact hv.elim
 | some so=>
  rw[hco]at hcls hv;simp only[Option.getD_some]at hcls hv;unfold Qck at hco;split at hco
  case h_1 x d hop hd=>simp only[Option.map_eq_some_iff]at hco;obtain⟨y,hy,rfl⟩:=hco;exact Qzw (.inl hop) hd (hlt d hd) h (Qar h hy) hv
  case h_2 x d hop hd=>simp only[Option.map_eq_some_iff]at hco;obtain⟨y,hy,rfl⟩:=hco;exact Qzw (.inr hop) hd (hlt d hd) h (Qar h hy) hv
  case h_3 c x y d hop hd=>
   simp only[Option.bind_eq_some_iff,Option.map_eq_some_iff]at hco;obtain⟨pc,hc,px,hx,py,hy,rfl⟩:=hco;exact Q4x hop hd (hlt d hd) h (Qar h hc) (Qar h hx) (Qar h hy) hv
  case h_4 op t x y t2 d hop hd=>
   simp only[Option.bind_eq_some_iff,Option.map_eq_some_iff]at hco;obtain⟨px,hx,py,hy,rfl⟩:=hco;unfold Qzp at hv;split at hv
   ·rename_i ng hng;split at hng
    ·rename_i hs2;exact Q7f hop hng hs2 hd (hlt d hd) h (Qar h hx) (Qar h hy) hv
    ·cases hng
   split at hv
   ·rename_i ng hng;split at hng
    ·rename_i hs2;exact Q7d hop hng hs2 hd (hlt d hd) h (Qar h hx) (Qar h hy) hv
    ·cases hng
   refine Q69 hop hd (hlt d hd) h (Qar h hx) (Qar h hy) (fun hb=>?_) hv;split at hb
   ·assumption
   ·cases hb
  case h_5 op t x d hop hd=>simp only[Option.map_eq_some_iff]at hco;obtain⟨y,hy,rfl⟩:=hco;exact Qaa5 hop hd (hlt d hd) h (Qar h hy) hv
  case h_6 s t x d hop hd=>
   split at hco
   ·rename_i ds k hS hT;simp only[Option.map_eq_some_iff]at hco;obtain⟨y,hy,rfl⟩:=hco;exact Q4w hop hd (hlt d hd) h hS hT (Qar h hy) hv
   ·cases hco
  case h_7 t x i d hop hd=>
   simp only[Option.bind_eq_some_iff]at hco;obtain⟨px,hx,pi,hi,hco⟩:=hco;split at hco
   ·rename_i e hu;simp only[Option.map_eq_some_iff]at hco;obtain⟨n,hn,rfl⟩:=hco;exact Q7g hop hd (hlt d hd) h hu hn (Qar h hx) (Qar h hi) hv
   ·rename_i len e hu;simp only[Option.map_eq_some_iff]at hco;obtain⟨n,hn,rfl⟩:=hco;exact Q4y hop hd (hlt d hd) h hu hn (Qar h hx) (Qar h hi) hv
   ·cases hco
  case h_8 t x i d hop hd=>
   simp only[Option.bind_eq_some_iff]at hco;obtain⟨px,hx,pi,hi,hco⟩:=hco;split at hco
   ·rename_i len e hu;simp only[Option.bind_eq_some_iff,Option.map_eq_some_iff]at hco;obtain⟨n,hn,ag,hag,rfl⟩:=hco;exact Q7j hop hd (hlt d hd) h hu hn hag (Qar h hx) (Qar h hi) hv
   ·rename_i hu;cases hco;exact Q7i hop hd (hlt d hd) h hu (Qar h hx) (Qar h hi) hv
   ·cases hco
  case h_9 t x j d hop hd=>
   simp only[Option.bind_eq_some_iff]at hco;obtain⟨px,hx,hco⟩:=hco;split at hco
   ·rename_i fs hu;simp only[Option.bind_eq_some_iff]at hco;obtain⟨f,hf,n,hn,hco⟩:=hco;split at hco
    ·cases hco
    ·rename_i hn0;simp only[Option.some.injEq]at hco;subst hco;exact Q7h hop hd (hlt d hd) h hu hf hn hn0 (Qar h hx) hv
   ·cases hco
  case h_10 t x j d hop hd=>
   simp only[Option.bind_eq_some_iff]at hco;obtain⟨px,hx,hco⟩:=hco;split at hco
   ·rename_i fs hu;simp only[Option.bind_eq_some_iff,Option.map_eq_some_iff]at hco;obtain⟨f,hf,n,hn,ag,hag,rfl⟩:=hco;exact Q4z hop hd (hlt d hd) h hu hf hn hag (Qar h hx) hv
   ·cases hco
  case h_17 t parts d hop hd=>
   simp only[Option.bind_eq_some_iff,Option.map_eq_some_iff]at hco;obtain⟨⟨n,by_,z⟩,hz,ps,hps,rfl⟩:=hco;simp only[opV,Qg2]at hv;split at hv
   ·exact Q41 hop hd (hlt d hd) h hz hps hv
   ·exact Q7k hop hd (hlt d hd) h hz hps hv
  case h_18 t x lo hi m d hop hd=>
   simp only[Option.bind_eq_some_iff,Option.map_eq_some_iff]at hco;obtain⟨px,hx,plo,hlo,phi,hhi,pm,hm,e,he,n,hn,rfl⟩:=hco;have hu:C.P.underlying t=some (.slice e):=by
    unfold Qk4 at he;split at he
    ·rename_i hq;cases he;exact hq
    ·cases he
   exact Qaa9 hop hd (hlt d hd) h hu hn (Qar h hx) hlo hhi hm hv
  case h_19 x i d hop hd=>simp only[Option.map_eq_some_iff]at hco;obtain⟨y,hy,rfl⟩:=hco;exact Q7e hop hd (hlt d hd) h (Qar h hy) hv
  case h_20 f first cap d hop hd=>
   simp only[Option.bind_eq_some_iff,Option.map_eq_some_iff]at hco;obtain⟨pf,h1,pc,h2,rfl⟩:=hco;exact Qaba hop hd (hlt d hd) h h1 h2 hv
  case h_11=>simp only[Option.bind_eq_some_iff,Option.map_eq_some_iff]at hco;obtain⟨_,_,_,_,_,_,rfl⟩:=hco;cases hcls
  case h_12=>simp only[Option.bind_eq_some_iff,Option.map_eq_some_iff]at hco;obtain⟨_,_,_,_,_,_,rfl⟩:=hco;cases hcls
  case h_13=>simp only[Option.bind_eq_some_iff,Option.map_eq_some_iff]at hco;obtain⟨_,_,_,_,rfl⟩:=hco;cases hcls
  case h_14=>simp only[Option.map_eq_some_iff]at hco;obtain⟨_,_,rfl⟩:=hco;cases hcls
  case h_15=>simp only[Option.bind_eq_some_iff,Option.map_eq_some_iff]at hco;obtain⟨_,_,_,_,_,_,_,_,rfl⟩:=hco;cases hcls
  case h_16=>
   simp only[Option.bind_eq_some_iff]at hco;obtain⟨_,_,_,_,hco⟩:=hco;split at hco
   ·simp only[Option.map_eq_some_iff]at hco;obtain⟨_,_,rfl⟩:=hco;cases hcls
   ·cases hco
  case h_21 hop=>simp only[Option.map_eq_some_iff]at hco;obtain⟨y,hy,rfl⟩:=hco;exact Q40 hop hlt h (Qar h hy) hv
  case h_22 c hop=>
   obtain⟨callee,args,ts⟩:=c;split at hco
   ·simp only[Option.bind_eq_some_iff,Option.map_eq_some_iff]at hco;obtain⟨_,_,_,_,rfl⟩:=hco;cases hcls
   ·rename_i x t d hcal hargs hts hd;obtain rfl:args= #[x]:=Qf1 hargs;obtain rfl:ts= #[t]:=Qf1 hts;cases hcal;split at hco
    ·rename_i hs;simp only[Option.map_eq_some_iff]at hco;obtain⟨y,hy,rfl⟩:=hco;exact Q7c hop hd (hlt d hd) h (Qar h hy) hs hv
    simp only[Option.bind_eq_some_iff,Option.map_eq_some_iff]at hco;obtain⟨e,he,y,hy,rfl⟩:=hco;exact Q7b hop hd (hlt d hd) h (Qar h hy) (Qly he) hv
   ·rename_i x y d hcal hargs hd;simp only[Option.bind_eq_some_iff,Option.map_eq_some_iff]at hco;obtain⟨px,hx,py,hy,rfl⟩:=hco;obtain rfl:args= #[x,y]:=Qf1 hargs;cases hcal;exact Qaa3 hop hd (hlt d hd) h (Qar h hx) (Qar h hy) hv
   ·rename_i x y d hcal hargs hd;simp only[Option.bind_eq_some_iff,Option.map_eq_some_iff]at hco;obtain⟨px,hx,py,hy,rfl⟩:=hco;obtain rfl:args= #[x,y]:=Qf1 hargs;cases hcal;exact Qaa4 hop hd (hlt d hd) h (Qar h hx) (Qar h hy) hv
   ·simp only[Option.bind_eq_some_iff]at hco;obtain⟨_,_,_,_,_,_,hco⟩:=hco;split at hco
    ·simp only[Option.bind_eq_some_iff]at hco;obtain⟨_,_,hco⟩:=hco;split at hco
     ·cases hco;cases hcls
     ·cases hco
    ·cases hco
   ·simp only[Option.bind_eq_some_iff]at hco;obtain⟨_,_,_,_,_,_,hco⟩:=hco;split at hco
    ·simp only[Option.map_eq_some_iff]at hco;obtain⟨_,_,rfl⟩:=hco;cases hcls
    ·cases hco
   ·cases hco
  case h_23=>cases hco
theorem Qub{dr:Bool}{o:Oper}(hcls:(Qa1 C.P dr o).cls=1)(hlt:∀d,o.dst=some d->d<C.N)(h:Q9 C ρ fr hp a.tmps w)(hv:opV C (Qa1 C.P dr o) fr hp K):Qqb C ρ o a w K:=by
 unfold Qa1 at hcls hv;cases hco:Qck C.P dr o with
 |none=>rw[hco]at hv;exact hv.elim
 | some so=>
  rw[hco]at hcls hv;simp only[Option.getD_some]at hcls hv;unfold Qck at hco;split at hco
  case h_11 t x d hop hd=>
   simp only[Option.bind_eq_some_iff,Option.map_eq_some_iff]at hco;obtain⟨px,hx,n,hn,ag,hag,rfl⟩:=hco;exact Qaa8 hop hd (hlt d hd) h hn hag (Qar h hx) hv
  case h_1=>simp only[Option.map_eq_some_iff]at hco;obtain⟨_,_,rfl⟩:=hco;cases hcls
  case h_2=>simp only[Option.map_eq_some_iff]at hco;obtain⟨_,_,rfl⟩:=hco;cases hcls
  case h_3=>simp only[Option.bind_eq_some_iff,Option.map_eq_some_iff]at hco;obtain⟨_,_,_,_,_,_,rfl⟩:=hco;cases hcls
  case h_4=>simp only[Option.bind_eq_some_iff,Option.map_eq_some_iff]at hco;obtain⟨_,_,_,_,rfl⟩:=hco;unfold Qzp at hcls;split at hcls<;>first|(cases hcls;done)|(split at hcls<;>cases hcls)
  case h_5=>simp only[Option.map_eq_some_iff]at hco;obtain⟨_,_,rfl⟩:=hco;cases hcls
  case h_6=>split at hco<;>first|cases hco|(simp only[Option.map_eq_some_iff]at hco;obtain⟨_,_,rfl⟩:=hco;cases hcls)
  case h_7=>
   simp only[Option.bind_eq_some_iff]at hco;obtain⟨_,_,_,_,hco⟩:=hco;split at hco<;>first|cases hco|(simp only[Option.map_eq_some_iff]at hco;obtain⟨_,_,rfl⟩:=hco;cases hcls)
  case h_8=>
   simp only[Option.bind_eq_some_iff]at hco;obtain⟨_,_,_,_,hco⟩:=hco;split at hco<;>first|(simp only[Option.bind_eq_some_iff,Option.map_eq_some_iff]at hco;obtain⟨_,_,_,_,rfl⟩:=hco;cases hcls)|(cases hco;done)|(cases hco;cases hcls)
  case h_9=>
   simp only[Option.bind_eq_some_iff]at hco;obtain⟨_,_,hco⟩:=hco;split at hco
   ·simp only[Option.bind_eq_some_iff]at hco;obtain⟨_,_,_,_,hco⟩:=hco;split at hco<;>first|(cases hco;done)|(simp only[Option.some.injEq]at hco;subst hco;cases hcls)
   ·cases hco
  case h_10=>
   simp only[Option.bind_eq_some_iff]at hco;obtain⟨_,_,hco⟩:=hco;split at hco<;>first|(cases hco;done)|(simp only[Option.bind_eq_some_iff,Option.map_eq_some_iff]at hco;obtain⟨_,_,_,_,_,_,rfl⟩:=hco;cases hcls)
  case h_12=>simp only[Option.bind_eq_some_iff,Option.map_eq_some_iff]at hco;obtain⟨_,_,_,_,_,_,rfl⟩:=hco;cases hcls
  case h_13=>simp only[Option.bind_eq_some_iff,Option.map_eq_some_iff]at hco;obtain⟨_,_,_,_,rfl⟩:=hco;cases hcls
  case h_14=>simp only[Option.map_eq_some_iff]at hco;obtain⟨_,_,rfl⟩:=hco;cases hcls
  case h_15=>simp only[Option.bind_eq_some_iff,Option.map_eq_some_iff]at hco;obtain⟨_,_,_,_,_,_,_,_,rfl⟩:=hco;cases hcls
  case h_16=>
   simp only[Option.bind_eq_some_iff]at hco;obtain⟨_,_,_,_,hco⟩:=hco;split at hco
   ·simp only[Option.map_eq_some_iff]at hco;obtain⟨_,_,rfl⟩:=hco;cases hcls
   ·cases hco
  case h_17=>simp only[Option.bind_eq_some_iff,Option.map_eq_some_iff]at hco;obtain⟨_,_,_,_,rfl⟩:=hco;cases hcls
  case h_18=>simp only[Option.bind_eq_some_iff,Option.map_eq_some_iff]at hco;obtain⟨_,_,_,_,_,_,_,_,_,_,_,_,rfl⟩:=hco;cases hcls
  case h_19=>simp only[Option.map_eq_some_iff]at hco;obtain⟨_,_,rfl⟩:=hco;cases hcls
  case h_20=>simp only[Option.bind_eq_some_iff,Option.map_eq_some_iff]at hco;obtain⟨_,_,_,_,rfl⟩:=hco;cases hcls
  case h_21=>simp only[Option.map_eq_some_iff]at hco;obtain⟨_,_,rfl⟩:=hco;cases hcls
  case h_22=>
   split at hco
   ·simp only[Option.bind_eq_some_iff,Option.map_eq_some_iff]at hco;obtain⟨_,_,_,_,rfl⟩:=hco;cases hcls
   ·split at hco
    ·simp only[Option.map_eq_some_iff]at hco;obtain⟨_,_,rfl⟩:=hco;cases hcls
    ·simp only[Option.bind_eq_some_iff,Option.map_eq_some_iff]at hco;obtain⟨_,_,_,_,rfl⟩:=hco;cases hcls
   ·simp only[Option.bind_eq_some_iff,Option.map_eq_some_iff]at hco;obtain⟨_,_,_,_,rfl⟩:=hco;cases hcls
   ·simp only[Option.bind_eq_some_iff,Option.map_eq_some_iff]at hco;obtain⟨_,_,_,_,rfl⟩:=hco;cases hcls
   ·simp only[Option.bind_eq_some_iff]at hco;obtain⟨_,_,_,_,_,_,hco⟩:=hco;split at hco
    ·simp only[Option.bind_eq_some_iff]at hco;obtain⟨_,_,hco⟩:=hco;split at hco
     ·cases hco;cases hcls
     ·cases hco
    ·cases hco
   ·simp only[Option.bind_eq_some_iff]at hco;obtain⟨_,_,_,_,_,_,hco⟩:=hco;split at hco
    ·simp only[Option.map_eq_some_iff]at hco;obtain⟨_,_,rfl⟩:=hco;cases hcls
    ·cases hco
   ·cases hco
  case h_23=>cases hco
theorem Qac.wp{o:Oper}{two:Bool}{Q:Exit->Act->World->Prop}(hdef:a.defers=[])(h:Qac C ρ o a w K):o.wp C.P a w (Qa3 C two w K) Q:=by obtain⟨v,hr,fr',hp',hs,hK⟩:=h;exact Qcc (hr w) ⟨by rw[Qfn];exact hdef,⟨fr',hp',⟨ρ,hs⟩,hK⟩,fun _=>Ext.refl _ _⟩
theorem Qqb.wp{o:Oper}{two:Bool}{Q:Exit->Act->World->Prop}(hdef:a.defers=[])(h:Qqb C ρ o a w K):o.wp C.P a w (Qa3 C two w K) Q:=by obtain⟨v,b,_,hr,fr',hp',hs,hK⟩:=h;exact Qcc (hr w rfl) ⟨by rw[Qfn];exact hdef,⟨fr',hp',⟨ρ,hs⟩,hK⟩,fun _=>Ext.refl _ _⟩
theorem Qa3.mono{two two':Bool}{a':Act}{w':World}(h2:two'=true->two=true)(h:Qa3 C two w K a' w'):Qa3 C two' w K a' w':=⟨h.1,h.2.1,fun hh=>h.2.2 (h2 hh)⟩
theorem Qabg{dr:Bool}{o:Oper}{Q:Exit->Act->World->Prop}(hlt:∀d,o.dst=some d->d<C.N)(hdef:a.defers=[])(h:Q9 C ρ fr hp a.tmps w)(hv:opV C (Qa1 C.P dr o) fr hp K):
  o.wp C.P a w (Qa3 C (!(Qa1 C.P dr o).brk) w K) Q:=by
 by_cases h0:(Qa1 C.P dr o).cls=0
 ·exact(Qua h0 hlt h hv).wp hdef
 by_cases h1:(Qa1 C.P dr o).cls=1
 ·exact(Qub h1 hlt h hv).wp hdef
 unfold Qa1 at h0 h1 hv⊢;cases hco:Qck C.P dr o with
 |none=>rw[hco]at hv;exact hv.elim
 | some so=>
  rw[hco]at h0 h1 hv;simp only[Option.getD_some]at h0 h1 hv⊢;have fin:∀ {two:Bool},(so.brk=false->two=true)->o.wp C.P a w (Qa3 C two w K) Q->o.wp C.P a w (Qa3 C (!so.brk) w K) Q:=fun h2 hw=>
   Oper.wp_mono (fun a' w' hA=>hA.mono (fun hh=>h2 (by simpa using hh))) hw
  unfold Qck at hco;split at hco
  case h_12 t x y hop hd=>
   simp only[Option.bind_eq_some_iff,Option.map_eq_some_iff]at hco;obtain⟨px,hx,py,hy,n,hn,rfl⟩:=hco;exact fin (by simp[SOp.brk]) (Qabf hop hd hdef h hn (Qar h hx) (Qar h hy) hv)
  case h_13 t x d hop hd=>
   simp only[Option.bind_eq_some_iff,Option.map_eq_some_iff]at hco;obtain⟨px,hx,n,hn,rfl⟩:=hco;exact fin (fun _=>rfl) (Q43 hop hd (hlt d hd) hdef h (Qar h hx) hv)
  case h_14 t d hop hd=>
   simp only[Option.map_eq_some_iff]at hco;obtain⟨⟨n,by_,z⟩,hz,rfl⟩:=hco;obtain⟨ti,zv,i1,i2,_,_,i5⟩:=Qhf hz;exact fin (fun _=>rfl) (Q2d hop hd (hlt d hd) hdef h i1 i2 i5 hv)
  case h_15 t l c d hop hd=>
   simp only[Option.bind_eq_some_iff,Option.map_eq_some_iff]at hco;obtain⟨pl,hl,pc,hc,e,he,⟨n,by_,z⟩,hz,rfl⟩:=hco;exact fin (fun _=>rfl) (Qabc hop hd (hlt d hd) hdef h (Qly he) hz (Qar h hl) (Qar h hc) hv)
  case h_16 t len parts d hop hd=>
   simp only[Option.bind_eq_some_iff]at hco;obtain⟨e,he,⟨n,by_,z⟩,hz,hco⟩:=hco;split at hco
   ·rename_i hcond;simp only[Option.map_eq_some_iff]at hco;obtain⟨ps,hps,rfl⟩:=hco;exact fin (fun _=>rfl) (Q7q hop hd (hlt d hd) hdef h (Qly he) hz hcond.1 hcond.2.1 hcond.2.2 hps hv)
   ·cases hco
  case h_22 c hop=>
   obtain⟨callee,args,ts⟩:=c;split at hco
   ·rename_i f hcal;simp only[Option.bind_eq_some_iff,Option.map_eq_some_iff]at hco;obtain⟨pf,hf,pargs,hargs,rfl⟩:=hco;cases hcal;exact fin (two:=dr&& !Q68 C.P pf) (fun hh=>by simpa[SOp.brk]using hh) (Q46 hop hlt hdef h hf hargs hv)
   ·split at hco
    ·simp only[Option.map_eq_some_iff]at hco;obtain⟨_,_,rfl⟩:=hco;exact absurd rfl h0
    ·simp only[Option.bind_eq_some_iff,Option.map_eq_some_iff]at hco;obtain⟨_,_,_,_,rfl⟩:=hco;exact absurd rfl h0
   ·simp only[Option.bind_eq_some_iff,Option.map_eq_some_iff]at hco;obtain⟨_,_,_,_,rfl⟩:=hco;exact absurd rfl h0
   ·simp only[Option.bind_eq_some_iff,Option.map_eq_some_iff]at hco;obtain⟨_,_,_,_,rfl⟩:=hco;exact absurd rfl h0
   ·rename_i s x t u d hcal hargs hts hd;simp only[Option.bind_eq_some_iff]at hco;obtain⟨ps,hs,px,hx,e,he,hco⟩:=hco;split at hco
    ·rename_i htu;subst htu;simp only[Option.bind_eq_some_iff]at hco;obtain⟨⟨n,by_,z⟩,hz,hco⟩:=hco;split at hco
     ·rename_i hzn;simp only[Option.some.injEq]at hco;subst hco;obtain rfl:args= #[s,x]:=Qf1 hargs;obtain rfl:ts= #[t,t]:=Qf1 hts;cases hcal;exact fin (by simp[SOp.brk]) (Q45 hop hd (hlt d hd) hdef h (Qly he) hz hzn (Qar h hs) (Qar h hx) hv)
     ·cases hco
    ·cases hco
   ·rename_i s x t u d hcal hargs hts hd;simp only[Option.bind_eq_some_iff]at hco;obtain⟨ps,hs,px,hx,e,he,hco⟩:=hco;split at hco
    ·rename_i htu;subst htu;simp only[Option.map_eq_some_iff]at hco;obtain⟨n,hn,rfl⟩:=hco;obtain rfl:args= #[s,x]:=Qf1 hargs;obtain rfl:ts= #[t,t]:=Qf1 hts;cases hcal;exact fin (by simp[SOp.brk]) (Q7o hop hd (hlt d hd) hdef h (Qly he) hn (Qar h hs) (Qar h hx) hv)
    ·cases hco
   ·cases hco
  all_goals exfalso
  case h_1=>simp only[Option.map_eq_some_iff]at hco;obtain⟨_,_,rfl⟩:=hco;exact h0 rfl
  case h_2=>simp only[Option.map_eq_some_iff]at hco;obtain⟨_,_,rfl⟩:=hco;exact h0 rfl
  case h_3=>simp only[Option.bind_eq_some_iff,Option.map_eq_some_iff]at hco;obtain⟨_,_,_,_,_,_,rfl⟩:=hco;exact h0 rfl
  case h_4=>simp only[Option.bind_eq_some_iff,Option.map_eq_some_iff]at hco;obtain⟨_,_,_,_,rfl⟩:=hco;exact h0 (by unfold Qzp;split<;>first|rfl|(split<;>rfl))
  case h_5=>simp only[Option.map_eq_some_iff]at hco;obtain⟨_,_,rfl⟩:=hco;exact h0 rfl
  case h_6=>split at hco<;>first|(cases hco;done)|(simp only[Option.map_eq_some_iff]at hco;obtain⟨_,_,rfl⟩:=hco;exact h0 rfl)
  case h_7=>
   simp only[Option.bind_eq_some_iff]at hco;obtain⟨_,_,_,_,hco⟩:=hco;split at hco<;>first|(cases hco;done)|(simp only[Option.map_eq_some_iff]at hco;obtain⟨_,_,rfl⟩:=hco;exact h0 rfl)
  case h_8=>
   simp only[Option.bind_eq_some_iff]at hco;obtain⟨_,_,_,_,hco⟩:=hco;split at hco<;>first|(cases hco;done)|(simp only[Option.bind_eq_some_iff,Option.map_eq_some_iff]at hco;obtain⟨_,_,_,_,rfl⟩:=hco;exact h0 rfl)|(cases hco;exact h0 rfl)
  case h_9=>
   simp only[Option.bind_eq_some_iff]at hco;obtain⟨_,_,hco⟩:=hco;split at hco
   ·simp only[Option.bind_eq_some_iff]at hco;obtain⟨_,_,_,_,hco⟩:=hco;split at hco<;>first|(cases hco;done)|(simp only[Option.some.injEq]at hco;subst hco;exact h0 rfl)
   ·cases hco
  case h_10=>
   simp only[Option.bind_eq_some_iff]at hco;obtain⟨_,_,hco⟩:=hco;split at hco<;>first|(cases hco;done)|(simp only[Option.bind_eq_some_iff,Option.map_eq_some_iff]at hco;obtain⟨_,_,_,_,_,_,rfl⟩:=hco;exact h0 rfl)
  case h_11=>simp only[Option.bind_eq_some_iff,Option.map_eq_some_iff]at hco;obtain⟨_,_,_,_,_,_,rfl⟩:=hco;exact h1 rfl
  case h_17=>simp only[Option.bind_eq_some_iff,Option.map_eq_some_iff]at hco;obtain⟨_,_,_,_,rfl⟩:=hco;exact h0 rfl
  case h_18=>simp only[Option.bind_eq_some_iff,Option.map_eq_some_iff]at hco;obtain⟨_,_,_,_,_,_,_,_,_,_,_,_,rfl⟩:=hco;exact h0 rfl
  case h_19=>simp only[Option.map_eq_some_iff]at hco;obtain⟨_,_,rfl⟩:=hco;exact h0 rfl
  case h_20=>simp only[Option.bind_eq_some_iff,Option.map_eq_some_iff]at hco;obtain⟨_,_,_,_,rfl⟩:=hco;exact h0 rfl
  case h_21=>simp only[Option.map_eq_some_iff]at hco;obtain⟨_,_,rfl⟩:=hco;exact h0 rfl
  case h_23=>cases hco
end Go.FW
