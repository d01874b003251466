/- Part 4 of the proof of CertcheckPowers: AR, L0, FwTB. Own lemmas; no conditions. -/
import Derived.Test.YtdacdnoebgcjhaaGreatCertcheckPowersPart3
import Derived.Test.YtdacdnoebgcjhaaGreatRows
import Derived.WalkKit
import Derived.ProofKit
import Derived.OpenShut
import Derived.JoinedCond
set_option linter.unusedSimpArgs false
set_option linter.unnecessarySimpa false
set_option linter.unusedVariables false
namespace Go.Proofs.YtdacdnoebgcjhaaGreat
open Go Go.FW
set_option linter.unusedSimpArgs false
set_option linter.unusedVariables false
set_option maxRecDepth 100000
def Q1e(l:List RQ):Prop:=l.length<=1048576/\∀q∈l,Raw 1048576 q.n q.a q.d
end Go.Proofs.YtdacdnoebgcjhaaGreat
namespace Go.Proofs.YtdacdnoebgcjhaaGreat
open Go Go.FW Go.ChangeShapes Go.WideShapes Go.ChangeAt Go.RowKit
set_option linter.unusedSimpArgs false
set_option linter.unusedVariables false
set_option maxRecDepth 100000
theorem Qtx{H:Type}{d:DataW H}{l:List (DataW H)}(h:d∈l):Rows.uptoBulk d<=Rows.uptoBulkAll l:=by
 induction l with
 |nil=>cases h
 |cons x r ih=>
  simp only[Rows.uptoBulkAll]
  cases List.mem_cons.1 h with
  |inl e=>subst e;omega
  |inr e=>have:=ih e;omega
theorem Q72{H:Type}(d:DataW H):1<=Rows.uptoBulk d:=by
 cases d with
 |lit l=>cases l<;>simp[Rows.uptoBulk]
 |nil=>simp[Rows.uptoBulk]
 |ptr d=>simp[Rows.uptoBulk]
 |slice elems spare=>simp[Rows.uptoBulk]
 |agg parts=>simp[Rows.uptoBulk]
 |iface t d=>simp[Rows.uptoBulk]
 |map entries=>simp[Rows.uptoBulk]
 |held h=>simp[Rows.uptoBulk]
theorem Qx9{H:Type}(l:List (DataW H)):l.length<=Rows.uptoBulkAll l:=by
 induction l with
 |nil=>simp[Rows.uptoBulkAll]
 |cons x r ih=>have:=Q72 x;simp only[Rows.uptoBulkAll,List.length_cons];omega
theorem Qa9{H:Type}:Q0z (H:=H) Rows.uptoBulk:=by
 refine⟨fun elems spare=> ?_,fun elems spare d hd=> ?_,fun parts d hd=> ?_⟩
 ·have:=Qx9 elems
  simp only[Rows.uptoBulk];omega
 ·have:=Qtx hd
  simp only[Rows.uptoBulk];omega
 ·have:=Qtx hd
  simp only[Rows.uptoBulk];omega
theorem Q73{H:Type}{l:List (DataW H)}(hk:Rows.uptoSmall H l=true):Rows.uptoBulkAll l<=1048576:=of_decide_eq_true hk
theorem own:ownKnob Tryz.prog.godebug=none:=by kernel_rfl
theorem laid:laidOutB Tryz.prog=true:=by kernel_rfl
theorem Qaez:mapsRowed Tryz.prog=true:=by kernel_rfl
def Q36(P:Program):Bool:=(List.range P.types.size).all fun t=>match P.underlying t with|some (.slice e)=>decide (0<P.cellsOf e)|_=>true
theorem Qah1:Q36 Tryz.prog=true:=by kernel_rfl
theorem Qae0{t e:TypeId}(ht:t<Tryz.prog.types.size)(he:Tryz.prog.underlying t=some (.slice e)):0<Tryz.prog.cellsOf e:=by
 have h:=Qah1
 simp only[Q36,List.all_eq_true]at h
 have:=h t (List.mem_range.2 ht)
 rw[he]at this
 exact of_decide_eq_true this
variable {H : Type} {enc : TypeId × Value -> H}
abbrev Rd(enc:TypeId×Value->H):=Qdz enc Tryz.prog Rows.uptoBulk 1048576
theorem Qty:Tryz.prog.cellsOf 109=1:=by kernel_rfl
theorem Qh9:Tryz.prog.cellsOf 3=1:=by kernel_rfl
theorem Qrb:Tryz.prog.cellsOf 74=4:=by kernel_rfl
theorem Qtz:Tryz.prog.cellsOf 50=3:=by kernel_rfl
theorem Q37:Rd enc 46 fun ps=>∃l:List Nat,ps=[PV.nat l]/\l.length<=1048576/\Qi l:=by
 refine(Qeb (α:=Nat) (f:=fun(x:Nat)=> .int .u16 x) (G:=fun x=>x<65536) Qa9 Tryz.underlying46 (by rw[Qty];omega) (Q3q Tryz.underlying109)).mono ?_
 rintro ps ⟨l,rfl,h1,h2⟩
 exact⟨l,by rw[Qty],h1,h2⟩
theorem Qabn:Rd enc 72 fun ps=>∃l:List Int,ps=[PV.mono l]/\l.length<=1048576/\∀x∈l,-9223372036854775808<=x/\x<=9223372036854775807:=by
 refine(Qeb (α:=Int) (f:=fun(x:Int)=> .int .i64 x) Qa9 Tryz.underlying72 (by rw[Qh9];omega) (Qnl Tryz.underlying3)).mono ?_
 rintro ps ⟨l,rfl,h1,h2⟩
 exact⟨l,by rw[Qh9],h1,h2⟩
theorem Qae1:Rd enc 48 fun ps=>∃(n:Bool)(a:List Nat),ps=[.bool n,PV.nat a]/\a.length<=1048576/\Qi a:=by
 refine(Qik Qa9 Tryz.underlying48 rfl (by kernel_rfl) (by kernel_rfl) (Q00 Tryz.underlying4) Q37).mono ?_
 rintro ps ⟨p,q,rfl,⟨n,rfl⟩,a,rfl,h⟩
 exact⟨n,a,rfl,h⟩
theorem Q38:Rd enc 50 fun ps=>∃(n:Bool)(a d:List Nat),ps=[.bool n,PV.nat a,PV.nat d]/\Raw 1048576 n a d:=by
 refine(Qik Qa9 Tryz.underlying50 rfl (by kernel_rfl) (by kernel_rfl) Qae1 Q37).mono ?_
 rintro ps ⟨p,q,rfl,⟨n,a,rfl,h1,h2⟩,d,rfl,h3,h4⟩
 exact⟨n,a,d,rfl,h2,h4,h1,h3,by omega⟩
instance : Inhabited RTm := ⟨⟨false, [], [], []⟩⟩
def Qrc(l:List RTm):Prop:=l.length<=1048576/\∀t∈l,RB 1048576 t/\∀x∈t.m,-9223372036854775808<=x/\x<=9223372036854775807
theorem Qabo:Rd enc 74 fun ps=>∃t:RTm,ps=(PV.rterm t).cells/\(RB 1048576 t/\∀x∈t.m,-9223372036854775808<=x/\x<=9223372036854775807):=by
 refine(Qik Qa9 Tryz.underlying74 rfl (by kernel_rfl) (by kernel_rfl) Q38 Qabn).mono ?_
 rintro ps ⟨p,q,rfl,⟨n,a,d,rfl,h⟩,m,rfl,h3,h4⟩
 exact⟨⟨n,a,d,m⟩,rfl,⟨⟨h.la,h.ld,h.sa,h.sd⟩,by show m.length<2^40;omega⟩,h4⟩
theorem Qzm:Rd enc 35 fun ps=>∃l:List RTm,ps=[PV.rpoly l]/\Qrc l:=by
 refine(Qeb (f:=PV.rterm) Qa9 Tryz.underlying35 (by rw[Qrb];omega) Qabo).mono ?_
 rintro ps ⟨l,rfl,h1,h2⟩
 exact⟨l,by rw[Qrb],h1,h2⟩
def Qlk(ls:List (List RTm)):Prop:=ls.length<=1048576/\∀l∈ls,Qrc l
theorem Qrd:Tryz.prog.cellsOf 35=1:=by kernel_rfl
theorem Qwy:Rd enc 31 fun ps=>∃ls:List (List RTm),ps=[.sl 1 (ls.map PV.rpoly)]/\Qlk ls:=by
 refine(Qeb (α:=List RTm) (f:=PV.rpoly) (G:=Qrc) Qa9 Tryz.underlying31 (by rw[Qrd];omega) Qzm).mono ?_
 rintro ps ⟨l,rfl,h1,h2⟩
 exact⟨l,by rw[Qrd],h1,h2⟩
theorem Qabp:Rd enc 23 fun ps=>∃l:List RQ,ps=[PV.rqs l]/\Q1e l:=by
 refine(Qeb (α:=RQ) (f:=PV.rq) (G:=fun q=>Raw 1048576 q.n q.a q.d) Qa9 Tryz.underlying23 (by rw[Qtz];omega) (Q38.mono ?_)).mono ?_
 ·rintro ps ⟨n,a,d,rfl,h⟩
  exact⟨⟨n,a,d⟩,rfl,h⟩
 ·rintro ps ⟨l,rfl,h1,h2⟩
  exact⟨l,by rw[Qtz],h1,h2⟩
variable {w : World} {base : Nat} {spare : Nat -> Bool} {held : Bool} {r : Reach} {b0 : Nat} {v : Value} {d : DataW H} {ps : List MemPlace}
theorem Q74(Qch:Value.okWide Tryz.prog w r b0 35 v)(hd:DataW.Trod enc Tryz.prog w base spare held 35 v d ps)(hn:Rows.uptoBulk d<=1048576):∃l,Qae w Qa6 (PV.rpoly l) v/\Qrc l:=by
 obtain⟨p,⟨l,e,h⟩,h2⟩:=Qnm Tryz.underlying35 Qch Qzm hd hn
 obtain rfl:p=PV.rpoly l:=by simpa using e
 exact⟨l,h2,h⟩
theorem Q75(Qch:Value.okWide Tryz.prog w r b0 23 v)(hd:DataW.Trod enc Tryz.prog w base spare held 23 v d ps)(hn:Rows.uptoBulk d<=1048576):∃l,Qae w Qa6 (PV.rqs l) v/\Q1e l:=by
 obtain⟨p,⟨l,e,h⟩,h2⟩:=Qnm Tryz.underlying23 Qch Qabp hd hn
 obtain rfl:p=PV.rqs l:=by simpa using e
 exact⟨l,h2,h⟩
theorem Q39{f:FuncId}{fn:Func}{s:ChangeSpec}{ap fresh handsOn Qn7:Bool}{W:World}{args:Array Value}{ds gs:List (DataW H)}{before:List MemPlace}{pargs:List PV}
  (hW:DataW.Whole enc Tryz.prog fn.params.toList s.vars ap W args.toList ds gs before) (hvars:s.vars=[]) (hres:fn.resultTypes= #[4]) (hpar:(fn.params.toList.all fun t=>decide (t<Tryz.prog.types.size))=true)
  (hfn:s.fn H (ds++gs)={ results:=[.lit (.bool true)],args:=ds })
  (hF:Qd Tryz.prog f pargs (· = .bool true)) (hsize:args.size=pargs.length) (hrep:∀(i:Nat)(x:PV),pargs[i]? =some x->Qae W Qa6 x (args.getD i undef)):
  Calls Tryz.prog f args W fun e W'=>∃v,e= .returned v/\s.post enc Tryz.prog fn ap fresh handsOn Qn7 W args v W':=by
 simp only[List.all_eq_true,decide_eq_true_eq]at hpar
 exact Qwk hW hvars hres Tryz.underlying4 laid Qaez (fun h1 h2=>Qae0 h1 h2) hpar hfn hF hsize hrep
theorem Q76{w:World}{ps:List PV}{vs:List Value}(h:∀(i:Nat)(x:PV),ps[i]? =some x->∀v,vs[i]? =some v->Qae w Qa6 x v)(hl:vs.length=ps.length):∀(i:Nat)(x:PV),ps[i]? =some x->Qae w Qa6 x (vs.toArray.getD i undef):=by
 intro i x hx
 have hi:i<vs.length:=by rw[hl];exact(List.getElem?_eq_some_iff.1 hx).1
 have:=h i x hx vs[i] (List.getElem?_eq_getElem hi)
 simpa[Array.getD,hi]using this
end Go.Proofs.YtdacdnoebgcjhaaGreat
namespace Go.FW
open Go Go.ChangeShapes Go.WideShapes
section
variable {H : Type} {enc : TypeId × Value -> H} {P : Program} {Qa9 : DataW H -> Nat} {N : Nat} {w : World} {base : Nat} {spare : Nat -> Bool} {held : Bool}
def RdF(enc:TypeId×Value->H)(P:Program)(Qa9:DataW H->Nat)(N:Nat):Nat->List Field->List (List PV->Prop)->Prop
 |_,[],[]=>True
 |off,f::fs,Q::Qs=>f.offset=off/\Qdz enc P Qa9 N f.type Q/\RdF enc P Qa9 N (off+P.cellsOf f.type) fs Qs
 |_,_,_=>False
def Qwz:List (List PV->Prop)->List PV->Prop
 | [],ps=>ps=[]
 |Q::Qs,ps=>∃p q,ps=p++q/\Q p/\Qwz Qs q
def Qll(P:Program)(fs:List Field):Nat:=(fs.map fun f=>P.cellsOf f.type).sum
theorem Q4a{n:Nat}{cs:List Value}:∀ {fs:List Field} {Qs:List (List PV->Prop)} {off:Nat} {xs:List (DataW H×List MemPlace)},RdF enc P Qa9 N off fs Qs->xs.length=fs.length->off+Qll P fs<=cs.length->
  (∀(i:Nat)(f:Field),fs[i]? =some f->DataW.trod enc P w base spare held n f.type ((cs.drop f.offset).take (P.cellsOf f.type))=xs[i]?)->(∀x∈xs,Qa9 x.1<=N)->
  ∃ps,Qwz Qs ps/\ps.length=Qll P fs/\∀(i:Nat)(v:PV),ps[i]? =some v->Q4 w Qa6 v (cs.getD (off+i) undef)
 | [],[],off,xs,_,_,_,_,_=>⟨[],rfl,rfl,fun i v h=>by simp at h⟩
 | [],_::_,off,xs,h,_,_,_,_=>h.elim
 |_::_,[],off,xs,h,_,_,_,_=>h.elim
 |f::fs,Q::Qs,off,[],_,hl,_,_,_=>by simp at hl
 | f::fs,Q::Qs,off,x::xs,⟨h0,hr,h1⟩,hl,hc,hf,hb=>by
  have hcf:Qll P (f::fs)=P.cellsOf f.type+Qll P fs:=by simp[Qll]
  rw[hcf]at hc⊢
  have hx:=hf 0 f rfl
  obtain⟨p,hp,hp2,hp3⟩:=hr _ _ _ _ _ _ _ hx (hb x (by simp))
  obtain⟨q,hq,hq2,hq3⟩:=Q4a (n:=n) (cs:=cs) (fs:=fs) (Qs:=Qs) (off:=off+P.cellsOf f.type) (xs:=xs) h1 (by simpa using hl) (by omega) (fun i g hg=>by simpa using hf (i+1) g hg) (fun y hy=>hb y (List.mem_cons_of_mem _ hy))
  rw[h0]at hp2 hp3
  simp only[List.length_take,List.length_drop]at hp2
  have lp:p.length=P.cellsOf f.type:=by omega
  refine⟨p++q,⟨p,q,rfl,hp,hq⟩,by rw[List.length_append];omega,fun i v hv=> ?_⟩
  by_cases hi:i<p.length
  ·rw[List.getElem?_append_left hi]at hv
   have:=hp3 i v hv
   rw[List.getD_eq_getElem?_getD,List.getElem?_take,if_pos (by omega),List.getElem?_drop]at this
   rw[List.getD_eq_getElem?_getD];exact this
  ·rw[List.getElem?_append_right (by omega)]at hv
   have:=hq3 _ v hv
   rw[show off+P.cellsOf f.type+(i-p.length)=off+i by omega]at this
   exact this
theorem Qw0{t:TypeId}{fs:Array Field}{Qs:List (List PV->Prop)}(hB:Q0z Qa9)(ht:P.underlying t=some (.struct fs))(hc:P.cellsOf t=Qll P fs.toList)(hr:RdF enc P Qa9 N 0 fs.toList Qs):Qdz enc P Qa9 N t (Qwz Qs):=by
 intro w base spare held fuel cs x hx hn
 obtain⟨xs,n,_,rfl,hl,hlen,hf⟩:=DataW.trod_struct ht hx
 obtain⟨ps,h1,h2,h3⟩:=Q4a (w:=w) (base:=base) (spare:=spare) (held:=held) (n:=n) (cs:=cs) (off:=0) (xs:=xs) hr (by simpa using hlen) (by omega) (fun i f hf'=>hf i f (by simpa using hf')) (fun y hy=>Nat.le_trans (hB.ag _ _ (List.mem_map.2 ⟨y,hy,rfl⟩)) hn)
 refine⟨ps,h1,by omega,fun i v hv=> ?_⟩
 have:=h3 i v hv
 rwa[Nat.zero_add]at this
end
end Go.FW
