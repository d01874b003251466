/- Part 5 of the proof of CertcheckNames: AR, L0, FwTB, FwTC. Own lemmas; no conditions. -/
import Derived.Test.YtccppnepkfbpkaaGreatCertcheckNamesPart4
import Derived.Test.YtccppnepkfbpkaaGreatRows
import Derived.WalkKit
import Derived.ProofKit
import Derived.OpenShut
import Derived.JoinedCond
set_option maxHeartbeats 1000000
set_option linter.unusedSimpArgs false
set_option linter.unusedVariables false
set_option linter.unnecessarySimpa false
set_option maxRecDepth 100000
namespace Go.Proofs.YtccppnepkfbpkaaGreat
open Go Go.FW
open Go Go.FW Go.ChangeShapes Go.WideShapes Go.ChangeAt Go.RowKit
theorem QN{H:Type}{d:DataW H}{l:List (DataW H)}(h:d∈l):Rows.uptoBulk d<=Rows.uptoBulkAll l:=by
 induction l with
 |nil=>cases h
 |cons x r ih=>
  simp only[Rows.uptoBulkAll];cases KaC.1 h with
  |inl e=>subst e;omega
  |inr e=>have:=ih e;omega
theorem abI{H:Type}(d:DataW H):1<=Rows.uptoBulk d:=by
 cases d with
 |lit l=>cases l<;>simp[Rows.uptoBulk]
 |nil=>simp[Rows.uptoBulk]
 |ptr d=>simp[Rows.uptoBulk]
 |slice elems spare=>simp[Rows.uptoBulk]
 |agg parts=>simp[Rows.uptoBulk]
 |iface t d=>simp[Rows.uptoBulk]
 |map entries=>simp[Rows.uptoBulk]
 |held h=>simp[Rows.uptoBulk]
theorem VJ{H:Type}(l:List (DataW H)):l.length<=Rows.uptoBulkAll l:=by
 induction l with
 |nil=>simp[Rows.uptoBulkAll]
 |cons x r ih=>have:=abI x;simp only[Rows.uptoBulkAll,KaT];omega
theorem bZ{H:Type}:Ch (H:=H) Rows.uptoBulk:=by
 refine⟨fun elems spare=>?_,fun elems spare d hd=>?_,fun parts d hd=>?_⟩
 ·have:=VJ elems;simp only[Rows.uptoBulk];omega
 ·have:=QN hd;simp only[Rows.uptoBulk];omega
 ·have:=QN hd;simp only[Rows.uptoBulk];omega
theorem abJ{H:Type}{l:List (DataW H)}(hk:Rows.uptoSmall H l=true):Rows.uptoBulkAll l<=1048576:=of_decide_eq_true hk
theorem own:ownKnob Tryz.prog.godebug=none:=by kernel_rfl
theorem laid:laidOutB Tryz.prog=true:=by kernel_rfl
theorem ag8:mapsRowed Tryz.prog=true:=by kernel_rfl
def Nh(P:Program):Bool:=(List.range P.types.size).all fun t=>match P.underlying t with|some (.slice e)=>decide (0<P.cellsOf e)|_=>true
theorem ajw:Nh Tryz.prog=true:=by kernel_rfl
theorem ag9{t e:TypeId}(ht:t<Tryz.prog.types.size)(he:Tryz.prog.underlying t=some (.slice e)):0<Tryz.prog.cellsOf e:=by have h:=ajw;simp only[Nh,Kaq]at h;have:=h t (KcY.2 ht);rw[he]at this;exact of_decide_eq_true this
variable {H : Type} {enc : TypeId × Value -> H}
abbrev Rd(enc:TypeId×Value->H):=iU enc Tryz.prog Rows.uptoBulk 1048576
theorem QO:Tryz.prog.cellsOf 128=1:=by kernel_rfl
theorem zG:Tryz.prog.cellsOf 3=1:=by kernel_rfl
theorem O1:Tryz.prog.cellsOf 77=4:=by kernel_rfl
theorem Ni:Rd enc 49 fun ps=>∃l:List Nat,ps=[PV.nat l]/\l.length<=1048576/\Qj l:=by refine(wV (α:=Nat) (f:=fun(x:Nat)=>.int .u16 x) (G:=fun x=>x<65536) bZ Tryz.underlying49 (by rw[QO];omega) (XS Tryz.underlying128)).mono ?_;rintro ps ⟨l,rfl,h1,h2⟩;exact⟨l,by rw[QO],h1,h2⟩
theorem aeC:Rd enc 75 fun ps=>∃l:List Int,ps=[PV.mono l]/\l.length<=1048576/\∀x∈l,-9223372036854775808<=x/\x<=9223372036854775807:=by refine(wV (α:=Int) (f:=fun(x:Int)=>.int .i64 x) bZ Tryz.underlying75 (by rw[zG];omega) (zw Tryz.underlying3)).mono ?_;rintro ps ⟨l,rfl,h1,h2⟩;exact⟨l,by rw[zG],h1,h2⟩
theorem aha:Rd enc 51 fun ps=>∃(n:Bool)(a:List Nat),ps=[.bool n,PV.nat a]/\a.length<=1048576/\Qj a:=by refine(GU bZ Tryz.underlying51 rfl (by kernel_rfl) (by kernel_rfl) (Wj Tryz.underlying4) Ni).mono ?_;rintro ps ⟨p,q,rfl,⟨n,rfl⟩,a,rfl,h⟩;exact⟨n,a,rfl,h⟩
theorem Gq:Rd enc 53 fun ps=>∃(n:Bool)(a d:List Nat),ps=[.bool n,PV.nat a,PV.nat d]/\Raw 1048576 n a d:=by refine(GU bZ Tryz.underlying53 rfl (by kernel_rfl) (by kernel_rfl) aha Ni).mono ?_;rintro ps ⟨p,q,rfl,⟨n,a,rfl,h1,h2⟩,d,rfl,h3,h4⟩;exact⟨n,a,d,rfl,h2,h4,h1,h3,by omega⟩
instance : Inhabited cS := ⟨⟨false, [], [], []⟩⟩
def GK(l:List cS):Prop:=l.length<=1048576/\∀t∈l,RB 1048576 t/\∀x∈t.m,-9223372036854775808<=x/\x<=9223372036854775807
theorem aeD:Rd enc 77 fun ps=>∃t:cS,ps=(PV.qC t).cells/\(RB 1048576 t/\∀x∈t.m,-9223372036854775808<=x/\x<=9223372036854775807):=by refine(GU bZ Tryz.underlying77 rfl (by kernel_rfl) (by kernel_rfl) Gq aeC).mono ?_;rintro ps ⟨p,q,rfl,⟨n,a,d,rfl,h⟩,m,rfl,h3,h4⟩;exact⟨⟨n,a,d,m⟩,rfl,⟨⟨h.la,h.ld,h.sa,h.sd⟩,by show m.length<2^40;omega⟩,h4⟩
theorem aeE:Rd enc 43 fun ps=>∃l:List cS,ps=[PV.mD l]/\GK l:=by refine(wV (f:=PV.qC) bZ Tryz.underlying43 (by rw[O1];omega) aeD).mono ?_;rintro ps ⟨l,rfl,h1,h2⟩;exact⟨l,by rw[O1],h1,h2⟩
variable {w : World} {base : Nat} {spare : Nat -> Bool} {held : Bool} {r : Reach} {b0 : Nat} {v : Value} {d : DataW H} {ps : List MemPlace}
theorem abK(dH:Value.okWide Tryz.prog w r b0 43 v)(hd:DataW.Trod enc Tryz.prog w base spare held 43 v d ps)(hn:Rows.uptoBulk d<=1048576):∃l,Q6 w cg (PV.mD l) v/\GK l:=by
 obtain⟨p,⟨l,e,h⟩,h2⟩:=XT Tryz.underlying43 dH aeE hd hn;obtain rfl:p=PV.mD l:=by simpa using e
 exact⟨l,h2,h⟩
theorem L1(dH:Value.okWide Tryz.prog w r b0 3 v)(hd:DataW.Trod enc Tryz.prog w base spare held 3 v d ps)(hn:Rows.uptoBulk d<=1048576):∃n:Int,Q6 w cg (.int .i64 n) v/\ -9223372036854775808<=n/\n<=9223372036854775807:=by
 obtain⟨p,⟨n,e,h⟩,h2⟩:=FW.ac9 Tryz.underlying3 dH (zw Tryz.underlying3) hd hn;obtain rfl:p= .int .i64 n:=by simpa using e
 exact⟨n,h2,h⟩
theorem ZQ{f:FuncId}{fn:Func}{s:ChangeSpec}{ap fresh handsOn xI:Bool}{W:World}{args:Array Value}{ds gs:List (DataW H)}{before:List MemPlace}{aQ:List PV}
  (hW:DataW.Whole enc Tryz.prog fn.params.toList s.vars ap W args.toList ds gs before) (BC:s.vars=[]) (eY:fn.resultTypes= #[4]) (FB:(fn.params.toList.all fun t=>decide (t<Tryz.prog.types.size))=true)
  (uz:s.fn H (ds++gs)={ results:=[.lit (.bool true)],args:=ds })
  (hF:Qd Tryz.prog f aQ (· = .bool true)) (Kd:args.size=aQ.length) (fw:∀(i:Nat)(x:PV),aQ[i]? =some x->Q6 W cg x (args.getD i undef)):
  Calls Tryz.prog f args W fun e W'=>∃v,e= .returned v/\s.post enc Tryz.prog fn ap fresh handsOn xI W args v W':=by
 simp only[Kaq,decide_eq_true_eq]at FB;exact UF hW BC eY Tryz.underlying4 laid ag8 (fun h1 h2=>ag9 h1 h2) FB uz hF Kd fw
theorem abL{w:World}{ps:List PV}{vs:List Value}(h:∀(i:Nat)(x:PV),ps[i]? =some x->∀v,vs[i]? =some v->Q6 w cg x v)(hl:vs.length=ps.length):∀(i:Nat)(x:PV),ps[i]? =some x->Q6 w cg x (vs.toArray.getD i undef):=by
 intro i x hx;have hi:i<vs.length:=by rw[hl];exact(Kaf.1 hx).1
 have:=h i x hx vs[i] (Kag hi);simpa[Array.getD,hi]using this
end Go.Proofs.YtccppnepkfbpkaaGreat
namespace Go.FW
open Go Go.ChangeShapes Go.WideShapes
section
variable {H : Type} {enc : TypeId × Value -> H} {P : Program} {bZ : DataW H -> Nat} {N : Nat} {w : World} {base : Nat} {spare : Nat -> Bool} {held : Bool}
def II(enc:TypeId×Value->H)(P:Program)(bZ:DataW H->Nat)(N:Nat):Nat->List Field->List (List PV->Prop)->Prop
 |_,[],[]=>True
 |off,f::fs,Q::Qs=>f.offset=off/\iU enc P bZ N f.type Q/\II enc P bZ N (off+P.cellsOf f.type) fs Qs
 |_,_,_=>False
def Gr:List (List PV->Prop)->List PV->Prop
 | [],ps=>ps=[]
 |Q::Qs,ps=>∃p q,ps=p++q/\Q p/\Gr Qs q
def xE(P:Program)(fs:List Field):Nat:=(fs.map fun f=>P.cellsOf f.type).sum
theorem Nj{n:Nat}{cs:List Value}:∀ {fs:List Field} {Qs:List (List PV->Prop)} {off:Nat} {xs:List (DataW H×List MemPlace)},II enc P bZ N off fs Qs->xs.length=fs.length->off+xE P fs<=cs.length->
  (∀(i:Nat)(f:Field),fs[i]? =some f->DataW.trod enc P w base spare held n f.type ((cs.drop f.offset).take (P.cellsOf f.type))=xs[i]?)->(∀x∈xs,bZ x.1<=N)->
  ∃ps,Gr Qs ps/\ps.length=xE P fs/\∀(i:Nat)(v:PV),ps[i]? =some v->Qp w cg v (cs.getD (off+i) undef)
 | [],[],off,xs,_,_,_,_,_=>⟨[],rfl,rfl,fun i v h=>by simp at h⟩
 | [],_::_,off,xs,h,_,_,_,_=>h.elim
 |_::_,[],off,xs,h,_,_,_,_=>h.elim
 |f::fs,Q::Qs,off,[],_,hl,_,_,_=>by simp at hl
 | f::fs,Q::Qs,off,x::xs,⟨h0,hr,h1⟩,hl,hc,hf,hb=>by
  have So:xE P (f::fs)=P.cellsOf f.type+xE P fs:=by simp[xE]
  rw[So]at hc⊢;have hx:=hf 0 f rfl;obtain⟨p,hp,bI,ot⟩:=hr _ _ _ _ _ _ _ hx (hb x (by simp));obtain⟨q,hq,ph,FD⟩:=Nj (n:=n) (cs:=cs) (fs:=fs) (Qs:=Qs) (off:=off+P.cellsOf f.type) (xs:=xs) h1 (by simpa using hl) (by omega) (fun i g hg=>by simpa using hf (i+1) g hg) (fun y hy=>hb y (KaZ _ hy));rw[h0]at bI ot;simp only[Kax,Ka2]at bI;have lp:p.length=P.cellsOf f.type:=by omega
  refine⟨p++q,⟨p,q,rfl,hp,hq⟩,by rw[Kaw];omega,fun i v hv=>?_⟩;by_cases hi:i<p.length
  ·rw[Kcl hi]at hv;have:=ot i v hv;rw[Kae,Kcj,if_pos (by omega),Ka5]at this;rw[Kae];exact this
  ·rw[Kb0 (by omega)]at hv;have:=FD _ v hv;rw[show off+P.cellsOf f.type+(i-p.length)=off+i by omega]at this;exact this
theorem GX{t:TypeId}{fs:Array Field}{Qs:List (List PV->Prop)}(hB:Ch bZ)(ht:P.underlying t=some (.struct fs))(hc:P.cellsOf t=xE P fs.toList)(hr:II enc P bZ N 0 fs.toList Qs):iU enc P bZ N t (Gr Qs):=by
 intro w base spare held fuel cs x hx hn;obtain⟨xs,n,_,rfl,hl,hlen,hf⟩:=DataW.trod_struct ht hx;obtain⟨ps,h1,h2,h3⟩:=Nj (w:=w) (base:=base) (spare:=spare) (held:=held) (n:=n) (cs:=cs) (off:=0) (xs:=xs) hr (by simpa using hlen) (by omega) (fun i f JE=>hf i f (by simpa using JE)) (fun y hy=>KaL (hB.ag _ _ (KaF.2 ⟨y,hy,rfl⟩)) hn);refine⟨ps,h1,by omega,fun i v hv=>?_⟩;have:=h3 i v hv
 rwa[Ka9]at this
end
end Go.FW
namespace Go.FW
open Go Go.ChangeShapes Go.WideShapes
section
variable {H : Type} {enc : TypeId × Value -> H} {P : Program} {bZ : DataW H -> Nat} {N : Nat}
theorem abM{w:World}{base:Nat}{spare:Nat->Bool}{held:Bool}{fuel:Nat}{t:TypeId}{cs:List Value}{x:DataW H×List MemPlace}(ht:P.underlying t=some .string)(h:DataW.trod enc P w base spare held fuel t cs=some x):∃s:ByteArray,cs=[.string s]/\x=(.lit (.string s.data.toList),[]):=by
 cases fuel with
 |zero=>simp[DataW.trod]at h
 |succ n=>unfold DataW.trod at h;rw[ht]at h;split at h<;>simp_all
theorem UM{t:TypeId}(ht:P.underlying t=some .string)(hB:∀l,l.length<=bZ (.lit (.string l))):iU enc P bZ N t fun ps=>∃s:ByteArray,ps=[.str s]/\s.size<=N:=by intro w base spare held fuel cs x hx hn;obtain⟨s,rfl,rfl⟩:=abM ht hx;exact⟨_,⟨s,rfl,KaL (hB _) hn⟩,rfl,zV (.str s)⟩
end
end Go.FW
