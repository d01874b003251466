/- Part 4 of the proof of CertcheckFactors: AR, L0, FwTB. Own lemmas; no conditions. -/
import Derived.Test.YtdacdnoebgcjhaaGreatCertcheckFactorsPart3
import Derived.Test.YtdacdnoebgcjhaaGreatRows
import Derived.WalkKit
import Derived.ProofKit
import Derived.OpenShut
import Derived.JoinedCond
set_option linter.unusedSimpArgs false
set_option linter.unnecessarySimpa false
set_option linter.unusedVariables false
namespace Go.Proofs.YtdacdnoebgcjhaaGreat
open Go Go.FW
set_option linter.unusedSimpArgs false
set_option linter.unusedVariables false
set_option maxRecDepth 100000
def Q1k(l:List RQ):Prop:=l.length<=1048576/\∀q∈l,Raw 1048576 q.n q.a q.d
end Go.Proofs.YtdacdnoebgcjhaaGreat
namespace Go.Proofs.YtdacdnoebgcjhaaGreat
open Go Go.FW Go.ChangeShapes Go.WideShapes Go.ChangeAt Go.RowKit
set_option linter.unusedSimpArgs false
set_option linter.unusedVariables false
set_option maxRecDepth 100000
theorem Qt2{H:Type}{d:DataW H}{l:List (DataW H)}(h:d∈l):Rows.uptoBulk d<=Rows.uptoBulkAll l:=by
 induction l with
 |nil=>cases h
 |cons x r ih=>
  simp only[Rows.uptoBulkAll]
  cases List.mem_cons.1 h with
  |inl e=>subst e;omega
  |inr e=>have:=ih e;omega
theorem Q8b{H:Type}(d:DataW H):1<=Rows.uptoBulk d:=by
 cases d with
 |lit l=>cases l<;>simp[Rows.uptoBulk]
 |nil=>simp[Rows.uptoBulk]
 |ptr d=>simp[Rows.uptoBulk]
 |slice elems spare=>simp[Rows.uptoBulk]
 |agg parts=>simp[Rows.uptoBulk]
 |iface t d=>simp[Rows.uptoBulk]
 |map entries=>simp[Rows.uptoBulk]
 |held h=>simp[Rows.uptoBulk]
theorem Qyf{H:Type}(l:List (DataW H)):l.length<=Rows.uptoBulkAll l:=by
 induction l with
 |nil=>simp[Rows.uptoBulkAll]
 |cons x r ih=>have:=Q8b x;simp only[Rows.uptoBulkAll,List.length_cons];omega
theorem Qa9{H:Type}:Q05 (H:=H) Rows.uptoBulk:=by
 refine⟨fun elems spare=> ?_,fun elems spare d hd=> ?_,fun parts d hd=> ?_⟩
 ·have:=Qyf elems
  simp only[Rows.uptoBulk];omega
 ·have:=Qt2 hd
  simp only[Rows.uptoBulk];omega
 ·have:=Qt2 hd
  simp only[Rows.uptoBulk];omega
theorem Q8c{H:Type}{l:List (DataW H)}(hk:Rows.uptoSmall H l=true):Rows.uptoBulkAll l<=1048576:=of_decide_eq_true hk
theorem own:ownKnob Tryz.prog.godebug=none:=by kernel_rfl
theorem laid:laidOutB Tryz.prog=true:=by kernel_rfl
theorem Qae9:mapsRowed Tryz.prog=true:=by kernel_rfl
def Q4d(P:Program):Bool:=(List.range P.types.size).all fun t=>match P.underlying t with|some (.slice e)=>decide (0<P.cellsOf e)|_=>true
theorem Qaig:Q4d Tryz.prog=true:=by kernel_rfl
theorem Qafa{t e:TypeId}(ht:t<Tryz.prog.types.size)(he:Tryz.prog.underlying t=some (.slice e)):0<Tryz.prog.cellsOf e:=by
 have h:=Qaig
 simp only[Q4d,List.all_eq_true]at h
 have:=h t (List.mem_range.2 ht)
 rw[he]at this
 exact of_decide_eq_true this
variable {H : Type} {enc : TypeId × Value -> H}
abbrev Rd(enc:TypeId×Value->H):=Qd2 enc Tryz.prog Rows.uptoBulk 1048576
theorem Qt3:Tryz.prog.cellsOf 109=1:=by kernel_rfl
theorem Qib:Tryz.prog.cellsOf 3=1:=by kernel_rfl
theorem Qrk:Tryz.prog.cellsOf 74=4:=by kernel_rfl
theorem Qt4:Tryz.prog.cellsOf 50=3:=by kernel_rfl
theorem Q4e:Rd enc 46 fun ps=>∃l:List Nat,ps=[PV.nat l]/\l.length<=1048576/\Qj l:=by
 refine(Qee (α:=Nat) (f:=fun(x:Nat)=> .int .u16 x) (G:=fun x=>x<65536) Qa9 Tryz.underlying46 (by rw[Qt3];omega) (Q3x Tryz.underlying109)).mono ?_
 rintro ps ⟨l,rfl,h1,h2⟩
 exact⟨l,by rw[Qt3],h1,h2⟩
theorem Qabw:Rd enc 72 fun ps=>∃l:List Int,ps=[PV.mono l]/\l.length<=1048576/\∀x∈l,-9223372036854775808<=x/\x<=9223372036854775807:=by
 refine(Qee (α:=Int) (f:=fun(x:Int)=> .int .i64 x) Qa9 Tryz.underlying72 (by rw[Qib];omega) (Qny Tryz.underlying3)).mono ?_
 rintro ps ⟨l,rfl,h1,h2⟩
 exact⟨l,by rw[Qib],h1,h2⟩
theorem Qafb:Rd enc 48 fun ps=>∃(n:Bool)(a:List Nat),ps=[.bool n,PV.nat a]/\a.length<=1048576/\Qj a:=by
 refine(Qin Qa9 Tryz.underlying48 rfl (by kernel_rfl) (by kernel_rfl) (Q06 Tryz.underlying4) Q4e).mono ?_
 rintro ps ⟨p,q,rfl,⟨n,rfl⟩,a,rfl,h⟩
 exact⟨n,a,rfl,h⟩
theorem Q4f:Rd enc 50 fun ps=>∃(n:Bool)(a d:List Nat),ps=[.bool n,PV.nat a,PV.nat d]/\Raw 1048576 n a d:=by
 refine(Qin Qa9 Tryz.underlying50 rfl (by kernel_rfl) (by kernel_rfl) Qafb Q4e).mono ?_
 rintro ps ⟨p,q,rfl,⟨n,a,rfl,h1,h2⟩,d,rfl,h3,h4⟩
 exact⟨n,a,d,rfl,h2,h4,h1,h3,by omega⟩
instance : Inhabited RTm := ⟨⟨false, [], [], []⟩⟩
def Q1l(l:List RTm):Prop:=l.length<=1048576/\∀t∈l,RB 1048576 t/\∀x∈t.m,-9223372036854775808<=x/\x<=9223372036854775807
theorem Qabx:Rd enc 74 fun ps=>∃t:RTm,ps=(PV.rterm t).cells/\(RB 1048576 t/\∀x∈t.m,-9223372036854775808<=x/\x<=9223372036854775807):=by
 refine(Qin Qa9 Tryz.underlying74 rfl (by kernel_rfl) (by kernel_rfl) Q4f Qabw).mono ?_
 rintro ps ⟨p,q,rfl,⟨n,a,d,rfl,h⟩,m,rfl,h3,h4⟩
 exact⟨⟨n,a,d,m⟩,rfl,⟨⟨h.la,h.ld,h.sa,h.sd⟩,by show m.length<2^40;omega⟩,h4⟩
theorem Qaby:Rd enc 35 fun ps=>∃l:List RTm,ps=[PV.rpoly l]/\Q1l l:=by
 refine(Qee (f:=PV.rterm) Qa9 Tryz.underlying35 (by rw[Qrk];omega) Qabx).mono ?_
 rintro ps ⟨l,rfl,h1,h2⟩
 exact⟨l,by rw[Qrk],h1,h2⟩
def Qlt(ls:List (List RTm)):Prop:=ls.length<=1048576/\∀l∈ls,Q1l l
theorem Qrl:Tryz.prog.cellsOf 35=1:=by kernel_rfl
theorem Qw2:Rd enc 31 fun ps=>∃ls:List (List RTm),ps=[.sl 1 (ls.map PV.rpoly)]/\Qlt ls:=by
 refine(Qee (α:=List RTm) (f:=PV.rpoly) (G:=Q1l) Qa9 Tryz.underlying31 (by rw[Qrl];omega) Qaby).mono ?_
 rintro ps ⟨l,rfl,h1,h2⟩
 exact⟨l,by rw[Qrl],h1,h2⟩
theorem Qabz:Rd enc 23 fun ps=>∃l:List RQ,ps=[PV.rqs l]/\Q1k l:=by
 refine(Qee (α:=RQ) (f:=PV.rq) (G:=fun q=>Raw 1048576 q.n q.a q.d) Qa9 Tryz.underlying23 (by rw[Qt4];omega) (Q4f.mono ?_)).mono ?_
 ·rintro ps ⟨n,a,d,rfl,h⟩
  exact⟨⟨n,a,d⟩,rfl,h⟩
 ·rintro ps ⟨l,rfl,h1,h2⟩
  exact⟨l,by rw[Qt4],h1,h2⟩
variable {w : World} {base : Nat} {spare : Nat -> Bool} {held : Bool} {r : Reach} {b0 : Nat} {v : Value} {d : DataW H} {ps : List MemPlace}
theorem Q8d(Qcy:Value.okWide Tryz.prog w r b0 23 v)(hd:DataW.Trod enc Tryz.prog w base spare held 23 v d ps)(hn:Rows.uptoBulk d<=1048576):∃l,Qae w Qba (PV.rqs l) v/\Q1k l:=by
 obtain⟨p,⟨l,e,h⟩,h2⟩:=Qts Tryz.underlying23 Qcy Qabz hd hn
 obtain rfl:p=PV.rqs l:=by simpa using e
 exact⟨l,h2,h⟩
theorem Q4g{f:FuncId}{fn:Func}{s:ChangeSpec}{ap fresh handsOn Qoh:Bool}{W:World}{args:Array Value}{ds gs:List (DataW H)}{before:List MemPlace}{pargs:List PV}
  (hW:DataW.Whole enc Tryz.prog fn.params.toList s.vars ap W args.toList ds gs before) (hvars:s.vars=[]) (hres:fn.resultTypes= #[4]) (hpar:(fn.params.toList.all fun t=>decide (t<Tryz.prog.types.size))=true)
  (hfn:s.fn H (ds++gs)={ results:=[.lit (.bool true)],args:=ds })
  (hF:Qd Tryz.prog f pargs (· = .bool true)) (hsize:args.size=pargs.length) (hrep:∀(i:Nat)(x:PV),pargs[i]? =some x->Qae W Qba x (args.getD i undef)):
  Calls Tryz.prog f args W fun e W'=>∃v,e= .returned v/\s.post enc Tryz.prog fn ap fresh handsOn Qoh W args v W':=by
 simp only[List.all_eq_true,decide_eq_true_eq]at hpar
 exact Qwn hW hvars hres Tryz.underlying4 laid Qae9 (fun h1 h2=>Qafa h1 h2) hpar hfn hF hsize hrep
theorem Q8e{w:World}{ps:List PV}{vs:List Value}(h:∀(i:Nat)(x:PV),ps[i]? =some x->∀v,vs[i]? =some v->Qae w Qba x v)(hl:vs.length=ps.length):∀(i:Nat)(x:PV),ps[i]? =some x->Qae w Qba x (vs.toArray.getD i undef):=by
 intro i x hx
 have hi:i<vs.length:=by rw[hl];exact(List.getElem?_eq_some_iff.1 hx).1
 have:=h i x hx vs[i] (List.getElem?_eq_getElem hi)
 simpa[Array.getD,hi]using this
end Go.Proofs.YtdacdnoebgcjhaaGreat
namespace Go.FW
open Go Go.ChangeShapes Go.WideShapes
section
variable {H : Type} {enc : TypeId × Value -> H} {P : Program} {Qa9 : DataW H -> Nat} {N : Nat} {w : World} {base : Nat} {spare : Nat -> Bool} {held : Bool}
def RdF(enc:TypeId×Value->H)(P:Program)(Qa9:DataW H->Nat)(N:Nat):Nat->List Field->List (List PV->Prop)->Prop
 |_,[],[]=>True
 |off,f::fs,Q::Qs=>f.offset=off/\Qd2 enc P Qa9 N f.type Q/\RdF enc P Qa9 N (off+P.cellsOf f.type) fs Qs
 |_,_,_=>False
def Qw3:List (List PV->Prop)->List PV->Prop
 | [],ps=>ps=[]
 |Q::Qs,ps=>∃p q,ps=p++q/\Q p/\Qw3 Qs q
def Qlu(P:Program)(fs:List Field):Nat:=(fs.map fun f=>P.cellsOf f.type).sum
theorem Q4h{n:Nat}{cs:List Value}:∀ {fs:List Field} {Qs:List (List PV->Prop)} {off:Nat} {xs:List (DataW H×List MemPlace)},RdF enc P Qa9 N off fs Qs->xs.length=fs.length->off+Qlu P fs<=cs.length->
  (∀(i:Nat)(f:Field),fs[i]? =some f->DataW.trod enc P w base spare held n f.type ((cs.drop f.offset).take (P.cellsOf f.type))=xs[i]?)->(∀x∈xs,Qa9 x.1<=N)->
  ∃ps,Qw3 Qs ps/\ps.length=Qlu P fs/\∀(i:Nat)(v:PV),ps[i]? =some v->Q6 w Qba v (cs.getD (off+i) undef)
 | [],[],off,xs,_,_,_,_,_=>⟨[],rfl,rfl,fun i v h=>by simp at h⟩
 | [],_::_,off,xs,h,_,_,_,_=>h.elim
 |_::_,[],off,xs,h,_,_,_,_=>h.elim
 |f::fs,Q::Qs,off,[],_,hl,_,_,_=>by simp at hl
 | f::fs,Q::Qs,off,x::xs,⟨h0,hr,h1⟩,hl,hc,hf,hb=>by
  have hcf:Qlu P (f::fs)=P.cellsOf f.type+Qlu P fs:=by simp[Qlu]
  rw[hcf]at hc⊢
  have hx:=hf 0 f rfl
  obtain⟨p,hp,hp2,hp3⟩:=hr _ _ _ _ _ _ _ hx (hb x (by simp))
  obtain⟨q,hq,hq2,hq3⟩:=Q4h (n:=n) (cs:=cs) (fs:=fs) (Qs:=Qs) (off:=off+P.cellsOf f.type) (xs:=xs) h1 (by simpa using hl) (by omega) (fun i g hg=>by simpa using hf (i+1) g hg) (fun y hy=>hb y (List.mem_cons_of_mem _ hy))
  rw[h0]at hp2 hp3
  simp only[List.length_take,List.length_drop]at hp2
  have lp:p.length=P.cellsOf f.type:=by omega
  refine⟨p++q,⟨p,q,rfl,hp,hq⟩,by rw[List.length_append];omega,fun i v hv=> ?_⟩
  by_cases hi:i<p.length
  ·rw[List.getElem?_append_left hi]at hv
   have:=hp3 i v hv
   rw[List.getD_eq_getElem?_getD,List.getElem?_take,if_pos (by omega),List.getElem?_drop]at this
   rw[List.getD_eq_getElem?_getD];exact this
  ·rw[List.getElem?_append_right (by omega)]at hv
   have:=hq3 _ v hv
   rw[show off+P.cellsOf f.type+(i-p.length)=off+i by omega]at this
   exact this
theorem Qw4{t:TypeId}{fs:Array Field}{Qs:List (List PV->Prop)}(hB:Q05 Qa9)(ht:P.underlying t=some (.struct fs))(hc:P.cellsOf t=Qlu P fs.toList)(hr:RdF enc P Qa9 N 0 fs.toList Qs):Qd2 enc P Qa9 N t (Qw3 Qs):=by
 intro w base spare held fuel cs x hx hn
 obtain⟨xs,n,_,rfl,hl,hlen,hf⟩:=DataW.trod_struct ht hx
 obtain⟨ps,h1,h2,h3⟩:=Q4h (w:=w) (base:=base) (spare:=spare) (held:=held) (n:=n) (cs:=cs) (off:=0) (xs:=xs) hr (by simpa using hlen) (by omega) (fun i f hf'=>hf i f (by simpa using hf')) (fun y hy=>Nat.le_trans (hB.ag _ _ (List.mem_map.2 ⟨y,hy,rfl⟩)) hn)
 refine⟨ps,h1,by omega,fun i v hv=> ?_⟩
 have:=h3 i v hv
 rwa[Nat.zero_add]at this
end
end Go.FW
