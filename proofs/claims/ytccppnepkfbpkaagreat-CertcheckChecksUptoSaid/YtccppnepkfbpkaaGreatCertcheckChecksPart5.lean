/- Part 5 of the proof of CertcheckChecks: AR, L0, FwTB, FwTC. Own lemmas; no conditions. -/
import Derived.Test.YtccppnepkfbpkaaGreatCertcheckChecksPart4
import Derived.Test.YtccppnepkfbpkaaGreatRows
import Derived.WalkKit
import Derived.ProofKit
import Derived.OpenShut
import Derived.JoinedCond
set_option maxHeartbeats 1000000
set_option linter.unusedSimpArgs false
set_option linter.unusedVariables false
set_option linter.unnecessarySimpa false
set_option maxRecDepth 100000
namespace Go.Proofs.YtccppnepkfbpkaaGreat
open Go Go.FW
open Go Go.FW Go.ChangeShapes Go.WideShapes Go.ChangeAt Go.RowKit
theorem QF{H:Type}{d:DataW H}{l:List (DataW H)}(h:d∈l):Rows.uptoBulk d<=Rows.uptoBulkAll l:=by
 induction l with
 |nil=>cases h
 |cons x r ih=>
  simp only[Rows.uptoBulkAll];cases KaC.1 h with
  |inl e=>subst e;omega
  |inr e=>have:=ih e;omega
theorem abk{H:Type}(d:DataW H):1<=Rows.uptoBulk d:=by
 cases d with
 |lit l=>cases l<;>simp[Rows.uptoBulk]
 |nil=>simp[Rows.uptoBulk]
 |ptr d=>simp[Rows.uptoBulk]
 |slice elems spare=>simp[Rows.uptoBulk]
 |agg parts=>simp[Rows.uptoBulk]
 |iface t d=>simp[Rows.uptoBulk]
 |map entries=>simp[Rows.uptoBulk]
 |held h=>simp[Rows.uptoBulk]
theorem Vq{H:Type}(l:List (DataW H)):l.length<=Rows.uptoBulkAll l:=by
 induction l with
 |nil=>simp[Rows.uptoBulkAll]
 |cons x r ih=>have:=abk x;simp only[Rows.uptoBulkAll,KaQ];omega
theorem bR{H:Type}:Ce (H:=H) Rows.uptoBulk:=by
 refine⟨fun elems spare=>?_,fun elems spare d hd=>?_,fun parts d hd=>?_⟩
 ·have:=Vq elems;simp only[Rows.uptoBulk];omega
 ·have:=QF hd;simp only[Rows.uptoBulk];omega
 ·have:=QF hd;simp only[Rows.uptoBulk];omega
theorem abl{H:Type}{l:List (DataW H)}(hk:Rows.uptoSmall H l=true):Rows.uptoBulkAll l<=1048576:=of_decide_eq_true hk
theorem own:ownKnob Tryz.prog.godebug=none:=by kernel_rfl
theorem laid:laidOutB Tryz.prog=true:=by kernel_rfl
theorem aga:mapsRowed Tryz.prog=true:=by kernel_rfl
def MY(P:Program):Bool:=(List.range P.types.size).all fun t=>match P.underlying t with|some (.slice e)=>decide (0<P.cellsOf e)|_=>true
theorem ai4:MY Tryz.prog=true:=by kernel_rfl
theorem agb{t e:TypeId}(ht:t<Tryz.prog.types.size)(he:Tryz.prog.underlying t=some (.slice e)):0<Tryz.prog.cellsOf e:=by have h:=ai4;simp only[MY,Kap]at h;have:=h t (Kco.2 ht);rw[he]at this;exact of_decide_eq_true this
variable {H : Type} {enc : TypeId × Value -> H}
abbrev Rd(enc:TypeId×Value->H):=iY enc Tryz.prog Rows.uptoBulk 1048576
theorem QG:Tryz.prog.cellsOf 128=1:=by kernel_rfl
theorem zq:Tryz.prog.cellsOf 3=1:=by kernel_rfl
theorem Pd:Tryz.prog.cellsOf 77=4:=by kernel_rfl
theorem MZ:Rd enc 49 fun ps=>∃l:List Nat,ps=[PV.nat l]/\l.length<=1048576/\Qj l:=by refine(tx (α:=Nat) (f:=fun(x:Nat)=>.int .u16 x) (G:=fun x=>x<65536) bR Tryz.underlying49 (by rw[QG];omega) (XC Tryz.underlying128)).mono ?_;rintro ps ⟨l,rfl,h1,h2⟩;exact⟨l,by rw[QG],h1,h2⟩
theorem aea:Rd enc 75 fun ps=>∃l:List Int,ps=[PV.mono l]/\l.length<=1048576/\∀x∈l,-9223372036854775808<=x/\x<=9223372036854775807:=by refine(tx (α:=Int) (f:=fun(x:Int)=>.int .i64 x) bR Tryz.underlying75 (by rw[zq];omega) (w9 Tryz.underlying3)).mono ?_;rintro ps ⟨l,rfl,h1,h2⟩;exact⟨l,by rw[zq],h1,h2⟩
theorem agc:Rd enc 51 fun ps=>∃(n:Bool)(a:List Nat),ps=[.bool n,PV.nat a]/\a.length<=1048576/\Qj a:=by refine(Gx bR Tryz.underlying51 rfl (by kernel_rfl) (by kernel_rfl) (Wt Tryz.underlying4) MZ).mono ?_;rintro ps ⟨p,q,rfl,⟨n,rfl⟩,a,rfl,h⟩;exact⟨n,a,rfl,h⟩
theorem F4:Rd enc 53 fun ps=>∃(n:Bool)(a d:List Nat),ps=[.bool n,PV.nat a,PV.nat d]/\Raw 1048576 n a d:=by refine(Gx bR Tryz.underlying53 rfl (by kernel_rfl) (by kernel_rfl) agc MZ).mono ?_;rintro ps ⟨p,q,rfl,⟨n,a,rfl,h1,h2⟩,d,rfl,h3,h4⟩;exact⟨n,a,d,rfl,h2,h4,h1,h3,by omega⟩
instance : Inhabited cm := ⟨⟨false, [], [], []⟩⟩
def Gq(l:List cm):Prop:=l.length<=1048576/\∀t∈l,RB 1048576 t/\∀x∈t.m,-9223372036854775808<=x/\x<=9223372036854775807
theorem aeb:Rd enc 77 fun ps=>∃t:cm,ps=(PV.qE t).cells/\(RB 1048576 t/\∀x∈t.m,-9223372036854775808<=x/\x<=9223372036854775807):=by refine(Gx bR Tryz.underlying77 rfl (by kernel_rfl) (by kernel_rfl) F4 aea).mono ?_;rintro ps ⟨p,q,rfl,⟨n,a,d,rfl,h⟩,m,rfl,h3,h4⟩;exact⟨⟨n,a,d,m⟩,rfl,⟨⟨h.la,h.ld,h.sa,h.sd⟩,by show m.length<2^40;omega⟩,h4⟩
theorem aec:Rd enc 43 fun ps=>∃l:List cm,ps=[PV.kT l]/\Gq l:=by refine(tx (f:=PV.qE) bR Tryz.underlying43 (by rw[Pd];omega) aeb).mono ?_;rintro ps ⟨l,rfl,h1,h2⟩;exact⟨l,by rw[Pd],h1,h2⟩
def xx(ls:List (List cm)):Prop:=ls.length<=1048576/\∀l∈ls,Gq l
theorem Pe:Tryz.prog.cellsOf 43=1:=by kernel_rfl
theorem Ls:Rd enc 31 fun ps=>∃ls:List (List cm),ps=[.sl 1 (ls.map PV.kT)]/\xx ls:=by refine(tx (α:=List cm) (f:=PV.kT) (G:=Gq) bR Tryz.underlying31 (by rw[Pe];omega) aec).mono ?_;rintro ps ⟨l,rfl,h1,h2⟩;exact⟨l,by rw[Pe],h1,h2⟩
variable {w : World} {base : Nat} {spare : Nat -> Bool} {held : Bool} {r : Reach} {b0 : Nat} {v : Value} {d : DataW H} {ps : List MemPlace}
theorem aed(dT:Value.okWide Tryz.prog w r b0 3 v)(hd:DataW.Trod enc Tryz.prog w base spare held 3 v d ps)(hn:Rows.uptoBulk d<=1048576):∃n:Int,Q6 w ca (.int .i64 n) v/\ -9223372036854775808<=n/\n<=9223372036854775807:=by
 obtain⟨p,⟨n,e,h⟩,h2⟩:=FW.adj Tryz.underlying3 dT (w9 Tryz.underlying3) hd hn;obtain rfl:p= .int .i64 n:=by simpa using e
 exact⟨n,h2,h⟩
theorem Zw{f:FuncId}{fn:Func}{s:ChangeSpec}{ap fresh handsOn xC:Bool}{W:World}{args:Array Value}{ds gs:List (DataW H)}{before:List MemPlace}{aT:List PV}
  (hW:DataW.Whole enc Tryz.prog fn.params.toList s.vars ap W args.toList ds gs before) (Br:s.vars=[]) (fb:fn.resultTypes= #[4]) (Ff:(fn.params.toList.all fun t=>decide (t<Tryz.prog.types.size))=true)
  (AU:s.fn H (ds++gs)={ results:=[.lit (.bool true)],args:=ds })
  (hF:Qd Tryz.prog f aT (· = .bool true)) (JS:args.size=aT.length) (fE:∀(i:Nat)(x:PV),aT[i]? =some x->Q6 W ca x (args.getD i undef)):
  Calls Tryz.prog f args W fun e W'=>∃v,e= .returned v/\s.post enc Tryz.prog fn ap fresh handsOn xC W args v W':=by
 simp only[Kap,decide_eq_true_eq]at Ff;exact Uw hW Br fb Tryz.underlying4 laid aga (fun h1 h2=>agb h1 h2) Ff AU hF JS fE
theorem abm{w:World}{ps:List PV}{vs:List Value}(h:∀(i:Nat)(x:PV),ps[i]? =some x->∀v,vs[i]? =some v->Q6 w ca x v)(hl:vs.length=ps.length):∀(i:Nat)(x:PV),ps[i]? =some x->Q6 w ca x (vs.toArray.getD i undef):=by
 intro i x hx;have hi:i<vs.length:=by rw[hl];exact(Kaf.1 hx).1
 have:=h i x hx vs[i] (Kag hi);simpa[Array.getD,hi]using this
end Go.Proofs.YtccppnepkfbpkaaGreat
namespace Go.FW
open Go Go.ChangeShapes Go.WideShapes
section
variable {H : Type} {enc : TypeId × Value -> H} {P : Program} {bR : DataW H -> Nat} {N : Nat} {w : World} {base : Nat} {spare : Nat -> Bool} {held : Bool}
def Iw(enc:TypeId×Value->H)(P:Program)(bR:DataW H->Nat)(N:Nat):Nat->List Field->List (List PV->Prop)->Prop
 |_,[],[]=>True
 |off,f::fs,Q::Qs=>f.offset=off/\iY enc P bR N f.type Q/\Iw enc P bR N (off+P.cellsOf f.type) fs Qs
 |_,_,_=>False
def F5:List (List PV->Prop)->List PV->Prop
 | [],ps=>ps=[]
 |Q::Qs,ps=>∃p q,ps=p++q/\Q p/\F5 Qs q
def xy(P:Program)(fs:List Field):Nat:=(fs.map fun f=>P.cellsOf f.type).sum
theorem M0{n:Nat}{cs:List Value}:∀ {fs:List Field} {Qs:List (List PV->Prop)} {off:Nat} {xs:List (DataW H×List MemPlace)},Iw enc P bR N off fs Qs->xs.length=fs.length->off+xy P fs<=cs.length->
  (∀(i:Nat)(f:Field),fs[i]? =some f->DataW.trod enc P w base spare held n f.type ((cs.drop f.offset).take (P.cellsOf f.type))=xs[i]?)->(∀x∈xs,bR x.1<=N)->
  ∃ps,F5 Qs ps/\ps.length=xy P fs/\∀(i:Nat)(v:PV),ps[i]? =some v->Qp w ca v (cs.getD (off+i) undef)
 | [],[],off,xs,_,_,_,_,_=>⟨[],rfl,rfl,fun i v h=>by simp at h⟩
 | [],_::_,off,xs,h,_,_,_,_=>h.elim
 |_::_,[],off,xs,h,_,_,_,_=>h.elim
 |f::fs,Q::Qs,off,[],_,hl,_,_,_=>by simp at hl
 | f::fs,Q::Qs,off,x::xs,⟨h0,hr,h1⟩,hl,hc,hf,hb=>by
  have Sd:xy P (f::fs)=P.cellsOf f.type+xy P fs:=by simp[xy]
  rw[Sd]at hc⊢;have hx:=hf 0 f rfl;obtain⟨p,hp,bI,ou⟩:=hr _ _ _ _ _ _ _ hx (hb x (by simp));obtain⟨q,hq,pq,Fh⟩:=M0 (n:=n) (cs:=cs) (fs:=fs) (Qs:=Qs) (off:=off+P.cellsOf f.type) (xs:=xs) h1 (by simpa using hl) (by omega) (fun i g hg=>by simpa using hf (i+1) g hg) (fun y hy=>hb y (KaZ _ hy));rw[h0]at bI ou;simp only[Kay,KaY]at bI;have lp:p.length=P.cellsOf f.type:=by omega
  refine⟨p++q,⟨p,q,rfl,hp,hq⟩,by rw[Kax];omega,fun i v hv=>?_⟩;by_cases hi:i<p.length
  ·rw[Kcc hi]at hv;have:=ou i v hv;rw[Kad,Kcb,if_pos (by omega),Ka2]at this;rw[Kad];exact this
  ·rw[KbT (by omega)]at hv;have:=Fh _ v hv;rw[show off+P.cellsOf f.type+(i-p.length)=off+i by omega]at this;exact this
theorem Cs{t:TypeId}{fs:Array Field}{Qs:List (List PV->Prop)}(hB:Ce bR)(ht:P.underlying t=some (.struct fs))(hc:P.cellsOf t=xy P fs.toList)(hr:Iw enc P bR N 0 fs.toList Qs):iY enc P bR N t (F5 Qs):=by
 intro w base spare held fuel cs x hx hn;obtain⟨xs,n,_,rfl,hl,hlen,hf⟩:=DataW.trod_struct ht hx;obtain⟨ps,h1,h2,h3⟩:=M0 (w:=w) (base:=base) (spare:=spare) (held:=held) (n:=n) (cs:=cs) (off:=0) (xs:=xs) hr (by simpa using hlen) (by omega) (fun i f Jn=>hf i f (by simpa using Jn)) (fun y hy=>KaO (hB.ag _ _ (KaE.2 ⟨y,hy,rfl⟩)) hn);refine⟨ps,h1,by omega,fun i v hv=>?_⟩;have:=h3 i v hv
 rwa[Ka5]at this
end
end Go.FW
namespace Go.FW
open Go Go.ChangeShapes Go.WideShapes
section
variable {H : Type} {enc : TypeId × Value -> H} {P : Program} {bR : DataW H -> Nat} {N : Nat}
theorem abn{w:World}{base:Nat}{spare:Nat->Bool}{held:Bool}{fuel:Nat}{t:TypeId}{cs:List Value}{x:DataW H×List MemPlace}(ht:P.underlying t=some .string)(h:DataW.trod enc P w base spare held fuel t cs=some x):∃s:ByteArray,cs=[.string s]/\x=(.lit (.string s.data.toList),[]):=by
 cases fuel with
 |zero=>simp[DataW.trod]at h
 |succ n=>unfold DataW.trod at h;rw[ht]at h;split at h<;>simp_all
theorem UB{t:TypeId}(ht:P.underlying t=some .string)(hB:∀l,l.length<=bR (.lit (.string l))):iY enc P bR N t fun ps=>∃s:ByteArray,ps=[.str s]/\s.size<=N:=by intro w base spare held fuel cs x hx hn;obtain⟨s,rfl,rfl⟩:=abn ht hx;exact⟨_,⟨s,rfl,KaO (hB _) hn⟩,rfl,zI (.str s)⟩
end
end Go.FW
