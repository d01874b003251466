/- Part 4 of the proof of IdealSound: AR, L0, FwTB. Own lemmas; no conditions. -/
import Derived.Test.YtonfajmchebkeaaGreatIdealSoundPart3
import Derived.Test.YtonfajmchebkeaaGreatRows
import Derived.WalkKit
import Derived.ProofKit
import Derived.OpenShut
import Derived.JoinedCond
set_option linter.unusedSimpArgs false
set_option linter.unnecessarySimpa false
set_option linter.unusedVariables false
namespace Go.Proofs.YtonfajmchebkeaaGreat
open Go Go.FW
set_option linter.unusedSimpArgs false
set_option linter.unusedVariables false
set_option maxRecDepth 100000
end Go.Proofs.YtonfajmchebkeaaGreat
namespace Go.Proofs.YtonfajmchebkeaaGreat
open Go Go.FW Go.ChangeShapes Go.WideShapes Go.ChangeAt Go.RowKit
set_option linter.unusedSimpArgs false
set_option linter.unusedVariables false
set_option maxRecDepth 100000
theorem Qwn{H:Type}{d:DataW H}{l:List (DataW H)}(h:d∈l):Rows.uptoBulk d<=Rows.uptoBulkAll l:=by
 induction l with
 |nil=>cases h
 |cons x r ih=>
  simp only[Rows.uptoBulkAll]
  cases List.mem_cons.1 h with
  |inl e=>subst e;omega
  |inr e=>have:=ih e;omega
theorem Qab7{H:Type}(d:DataW H):1<=Rows.uptoBulk d:=by
 cases d with
 |lit l=>cases l<;>simp[Rows.uptoBulk]
 |nil=>simp[Rows.uptoBulk]
 |ptr d=>simp[Rows.uptoBulk]
 |slice elems spare=>simp[Rows.uptoBulk]
 |agg parts=>simp[Rows.uptoBulk]
 |iface t d=>simp[Rows.uptoBulk]
 |map entries=>simp[Rows.uptoBulk]
 |held h=>simp[Rows.uptoBulk]
theorem Q01{H:Type}(l:List (DataW H)):l.length<=Rows.uptoBulkAll l:=by
 induction l with
 |nil=>simp[Rows.uptoBulkAll]
 |cons x r ih=>have:=Qab7 x;simp only[Rows.uptoBulkAll,List.length_cons];omega
theorem Qbh{H:Type}:Q3w (H:=H) Rows.uptoBulk:=by
 refine⟨fun elems spare=> ?_,fun elems spare d hd=> ?_,fun parts d hd=> ?_⟩
 ·have:=Q01 elems
  simp only[Rows.uptoBulk];omega
 ·have:=Qwn hd
  simp only[Rows.uptoBulk];omega
 ·have:=Qwn hd
  simp only[Rows.uptoBulk];omega
theorem Qab8{H:Type}{l:List (DataW H)}(hk:Rows.uptoSmall H l=true):Rows.uptoBulkAll l<=1048576:=of_decide_eq_true hk
theorem own:ownKnob Tryz.prog.godebug=none:=by kernel_rfl
theorem laid:laidOutB Tryz.prog=true:=by kernel_rfl
theorem Qak6:mapsRowed Tryz.prog=true:=by kernel_rfl
def Q7r(P:Program):Bool:=(List.range P.types.size).all fun t=>match P.underlying t with|some (.slice e)=>decide (0<P.cellsOf e)|_=>true
theorem Qanp:Q7r Tryz.prog=true:=by kernel_rfl
theorem Qak7{t e:TypeId}(ht:t<Tryz.prog.types.size)(he:Tryz.prog.underlying t=some (.slice e)):0<Tryz.prog.cellsOf e:=by
 have h:=Qanp
 simp only[Q7r,List.all_eq_true]at h
 have:=h t (List.mem_range.2 ht)
 rw[he]at this
 exact of_decide_eq_true this
variable {H : Type} {enc : TypeId × Value -> H}
abbrev Rd(enc:TypeId×Value->H):=Qea enc Tryz.prog Rows.uptoBulk 1048576
theorem Qwo:Tryz.prog.cellsOf 191=1:=by kernel_rfl
theorem Qi9:Tryz.prog.cellsOf 3=1:=by kernel_rfl
theorem Qtu:Tryz.prog.cellsOf 127=4:=by kernel_rfl
theorem Q7s:Rd enc 28 fun ps=>∃l:List Nat,ps=[PV.nat l]/\l.length<=1048576/\Qi l:=by
 refine(Qgu (α:=Nat) (f:=fun(x:Nat)=> .int .u16 x) (G:=fun x=>x<65536) Qbh Tryz.underlying28 (by rw[Qwo];omega) (Q68 Tryz.underlying191)).mono ?_
 rintro ps ⟨l,rfl,h1,h2⟩
 exact⟨l,by rw[Qwo],h1,h2⟩
theorem Qahe:Rd enc 125 fun ps=>∃l:List Int,ps=[PV.mono l]/\l.length<=1048576/\∀x∈l,-9223372036854775808<=x/\x<=9223372036854775807:=by
 refine(Qgu (α:=Int) (f:=fun(x:Int)=> .int .i64 x) Qbh Tryz.underlying125 (by rw[Qi9];omega) (Qpd Tryz.underlying3)).mono ?_
 rintro ps ⟨l,rfl,h1,h2⟩
 exact⟨l,by rw[Qi9],h1,h2⟩
theorem Qak8:Rd enc 30 fun ps=>∃(n:Bool)(a:List Nat),ps=[.bool n,PV.nat a]/\a.length<=1048576/\Qi a:=by
 refine(Qjn Qbh Tryz.underlying30 rfl (by kernel_rfl) (by kernel_rfl) (Q3x Tryz.underlying4) Q7s).mono ?_
 rintro ps ⟨p,q,rfl,⟨n,rfl⟩,a,rfl,h⟩
 exact⟨n,a,rfl,h⟩
theorem Qak9:Rd enc 32 fun ps=>∃(n:Bool)(a d:List Nat),ps=[.bool n,PV.nat a,PV.nat d]/\Raw 1048576 n a d:=by
 refine(Qjn Qbh Tryz.underlying32 rfl (by kernel_rfl) (by kernel_rfl) Qak8 Q7s).mono ?_
 rintro ps ⟨p,q,rfl,⟨n,a,rfl,h1,h2⟩,d,rfl,h3,h4⟩
 exact⟨n,a,d,rfl,h2,h4,h1,h3,by omega⟩
instance : Inhabited RTm := ⟨⟨false, [], [], []⟩⟩
def Qtv(l:List RTm):Prop:=l.length<=1048576/\∀t∈l,RB 1048576 t/\∀x∈t.m,-9223372036854775808<=x/\x<=9223372036854775807
theorem Qahf:Rd enc 127 fun ps=>∃t:RTm,ps=(PV.rterm t).cells/\(RB 1048576 t/\∀x∈t.m,-9223372036854775808<=x/\x<=9223372036854775807):=by
 refine(Qjn Qbh Tryz.underlying127 rfl (by kernel_rfl) (by kernel_rfl) Qak9 Qahe).mono ?_
 rintro ps ⟨p,q,rfl,⟨n,a,d,rfl,h⟩,m,rfl,h3,h4⟩
 exact⟨⟨n,a,d,m⟩,rfl,⟨⟨h.la,h.ld,h.sa,h.sd⟩,by show m.length<2^40;omega⟩,h4⟩
theorem Q18:Rd enc 51 fun ps=>∃l:List RTm,ps=[PV.rpoly l]/\Qtv l:=by
 refine(Qgu (f:=PV.rterm) Qbh Tryz.underlying51 (by rw[Qtu];omega) Qahf).mono ?_
 rintro ps ⟨l,rfl,h1,h2⟩
 exact⟨l,by rw[Qtu],h1,h2⟩
def Qjg(ls:List (List RTm)):Prop:=ls.length<=1048576/\∀l∈ls,Qtv l
theorem Qtw:Tryz.prog.cellsOf 51=1:=by kernel_rfl
theorem Qsa:Rd enc 46 fun ps=>∃ls:List (List RTm),ps=[.sl 1 (ls.map PV.rpoly)]/\Qjg ls:=by
 refine(Qgu (α:=List RTm) (f:=PV.rpoly) (G:=Qtv) Qbh Tryz.underlying46 (by rw[Qtw];omega) Q18).mono ?_
 rintro ps ⟨l,rfl,h1,h2⟩
 exact⟨l,by rw[Qtw],h1,h2⟩
variable {w : World} {base : Nat} {spare : Nat -> Bool} {held : Bool} {r : Reach} {b0 : Nat} {v : Value} {d : DataW H} {ps : List MemPlace}
theorem Qab9(Qcj:Value.okWide Tryz.prog w r b0 51 v)(hd:DataW.Trod enc Tryz.prog w base spare held 51 v d ps)(hn:Rows.uptoBulk d<=1048576):∃l,Qai w Qbd (PV.rpoly l) v/\Qtv l:=by
 obtain⟨p,⟨l,e,h⟩,h2⟩:=Qwb Tryz.underlying51 Qcj Q18 hd hn
 obtain rfl:p=PV.rpoly l:=by simpa using e
 exact⟨l,h2,h⟩
theorem Q7t(Qcj:Value.okWide Tryz.prog w r b0 46 v)(hd:DataW.Trod enc Tryz.prog w base spare held 46 v d ps)(hn:Rows.uptoBulk d<=1048576):∃ls:List (List RTm),Qai w Qbd (.sl 1 (ls.map PV.rpoly)) v/\Qjg ls:=by
 obtain⟨p,⟨l,e,h⟩,h2⟩:=Qwb Tryz.underlying46 Qcj Qsa hd hn
 obtain rfl:p= .sl 1 (l.map PV.rpoly):=by simpa using e
 exact⟨l,h2,h⟩
theorem Q7u{f:FuncId}{fn:Func}{s:ChangeSpec}{ap fresh handsOn Qp5:Bool}{W:World}{args:Array Value}{ds gs:List (DataW H)}{before:List MemPlace}{pargs:List PV}
  (hW:DataW.Whole enc Tryz.prog fn.params.toList s.vars ap W args.toList ds gs before) (hvars:s.vars=[]) (hres:fn.resultTypes= #[4]) (hpar:(fn.params.toList.all fun t=>decide (t<Tryz.prog.types.size))=true)
  (hfn:s.fn H (ds++gs)={ results:=[.lit (.bool true)],args:=ds })
  (hF:Qd Tryz.prog f pargs (· = .bool true)) (hsize:args.size=pargs.length) (hrep:∀(i:Nat)(x:PV),pargs[i]? =some x->Qai W Qbd x (args.getD i undef)):
  Calls Tryz.prog f args W fun e W'=>∃v,e= .returned v/\s.post enc Tryz.prog fn ap fresh handsOn Qp5 W args v W':=by
 simp only[List.all_eq_true,decide_eq_true_eq]at hpar
 exact Qy6 hW hvars hres Tryz.underlying4 laid Qak6 (fun h1 h2=>Qak7 h1 h2) hpar hfn hF hsize hrep
theorem Qaca{w:World}{ps:List PV}{vs:List Value}(h:∀(i:Nat)(x:PV),ps[i]? =some x->∀v,vs[i]? =some v->Qai w Qbd x v)(hl:vs.length=ps.length):∀(i:Nat)(x:PV),ps[i]? =some x->Qai w Qbd x (vs.toArray.getD i undef):=by
 intro i x hx
 have hi:i<vs.length:=by rw[hl];exact(List.getElem?_eq_some_iff.1 hx).1
 have:=h i x hx vs[i] (List.getElem?_eq_getElem hi)
 simpa[Array.getD,hi]using this
end Go.Proofs.YtonfajmchebkeaaGreat
namespace Go.FW
open Go Go.ChangeShapes Go.WideShapes
section
variable {H : Type} {enc : TypeId × Value -> H} {P : Program} {Qbh : DataW H -> Nat} {N : Nat} {w : World} {base : Nat} {spare : Nat -> Bool} {held : Bool}
def RdF(enc:TypeId×Value->H)(P:Program)(Qbh:DataW H->Nat)(N:Nat):Nat->List Field->List (List PV->Prop)->Prop
 |_,[],[]=>True
 |off,f::fs,Q::Qs=>f.offset=off/\Qea enc P Qbh N f.type Q/\RdF enc P Qbh N (off+P.cellsOf f.type) fs Qs
 |_,_,_=>False
def Qzm:List (List PV->Prop)->List PV->Prop
 | [],ps=>ps=[]
 |Q::Qs,ps=>∃p q,ps=p++q/\Q p/\Qzm Qs q
def Qmq(P:Program)(fs:List Field):Nat:=(fs.map fun f=>P.cellsOf f.type).sum
theorem Q7v{n:Nat}{cs:List Value}:∀ {fs:List Field} {Qs:List (List PV->Prop)} {off:Nat} {xs:List (DataW H×List MemPlace)},RdF enc P Qbh N off fs Qs->xs.length=fs.length->off+Qmq P fs<=cs.length->
  (∀(i:Nat)(f:Field),fs[i]? =some f->DataW.trod enc P w base spare held n f.type ((cs.drop f.offset).take (P.cellsOf f.type))=xs[i]?)->(∀x∈xs,Qbh x.1<=N)->
  ∃ps,Qzm Qs ps/\ps.length=Qmq P fs/\∀(i:Nat)(v:PV),ps[i]? =some v->Qw w Qbd v (cs.getD (off+i) undef)
 | [],[],off,xs,_,_,_,_,_=>⟨[],rfl,rfl,fun i v h=>by simp at h⟩
 | [],_::_,off,xs,h,_,_,_,_=>h.elim
 |_::_,[],off,xs,h,_,_,_,_=>h.elim
 |f::fs,Q::Qs,off,[],_,hl,_,_,_=>by simp at hl
 | f::fs,Q::Qs,off,x::xs,⟨h0,hr,h1⟩,hl,hc,hf,hb=>by
  have hcf:Qmq P (f::fs)=P.cellsOf f.type+Qmq P fs:=by simp[Qmq]
  rw[hcf]at hc⊢
  have hx:=hf 0 f rfl
  obtain⟨p,hp,hp2,hp3⟩:=hr _ _ _ _ _ _ _ hx (hb x (by simp))
  obtain⟨q,hq,hq2,hq3⟩:=Q7v (n:=n) (cs:=cs) (fs:=fs) (Qs:=Qs) (off:=off+P.cellsOf f.type) (xs:=xs) h1 (by simpa using hl) (by omega) (fun i g hg=>by simpa using hf (i+1) g hg) (fun y hy=>hb y (List.mem_cons_of_mem _ hy))
  rw[h0]at hp2 hp3
  simp only[List.length_take,List.length_drop]at hp2
  have lp:p.length=P.cellsOf f.type:=by omega
  refine⟨p++q,⟨p,q,rfl,hp,hq⟩,by rw[List.length_append];omega,fun i v hv=> ?_⟩
  by_cases hi:i<p.length
  ·rw[List.getElem?_append_left hi]at hv
   have:=hp3 i v hv
   rw[List.getD_eq_getElem?_getD,List.getElem?_take,if_pos (by omega),List.getElem?_drop]at this
   rw[List.getD_eq_getElem?_getD];exact this
  ·rw[List.getElem?_append_right (by omega)]at hv
   have:=hq3 _ v hv
   rw[show off+P.cellsOf f.type+(i-p.length)=off+i by omega]at this
   exact this
theorem Qzn{t:TypeId}{fs:Array Field}{Qs:List (List PV->Prop)}(hB:Q3w Qbh)(ht:P.underlying t=some (.struct fs))(hc:P.cellsOf t=Qmq P fs.toList)(hr:RdF enc P Qbh N 0 fs.toList Qs):Qea enc P Qbh N t (Qzm Qs):=by
 intro w base spare held fuel cs x hx hn
 obtain⟨xs,n,_,rfl,hl,hlen,hf⟩:=DataW.trod_struct ht hx
 obtain⟨ps,h1,h2,h3⟩:=Q7v (w:=w) (base:=base) (spare:=spare) (held:=held) (n:=n) (cs:=cs) (off:=0) (xs:=xs) hr (by simpa using hlen) (by omega) (fun i f hf'=>hf i f (by simpa using hf')) (fun y hy=>Nat.le_trans (hB.ag _ _ (List.mem_map.2 ⟨y,hy,rfl⟩)) hn)
 refine⟨ps,h1,by omega,fun i v hv=> ?_⟩
 have:=h3 i v hv
 rwa[Nat.zero_add]at this
end
end Go.FW
