/- Part 5 of the proof of GoalsPolynomials: AR, L0, FwTB, FwTC. Own lemmas; no conditions. -/
import Derived.Test.YtonjiljafkiikaaGreatGoalsPolynomialsPart4
import Derived.Test.YtonjiljafkiikaaGreatRows
import Derived.WalkKit
import Derived.ProofKit
import Derived.OpenShut
import Derived.JoinedCond
set_option maxHeartbeats 1000000
set_option linter.unusedSimpArgs false
set_option linter.unusedVariables false
set_option linter.unnecessarySimpa false
set_option maxRecDepth 100000
namespace Go.Proofs.YtonjiljafkiikaaGreat
open Go Go.FW
open Go Go.FW Go.ChangeShapes Go.WideShapes Go.ChangeAt Go.RowKit
theorem Ji{H:Type}{d:DataW H}{l:List (DataW H)}(h:d∈l):Rows.uptoBulk d<=Rows.uptoBulkAll l:=by
 induction l with
 |nil=>cases h
 |cons x r ih=>
  simp only[Rows.uptoBulkAll];cases KaF.1 h with
  |inl e=>subst e;omega
  |inr e=>have:=ih e;omega
theorem R4{H:Type}(d:DataW H):1<=Rows.uptoBulk d:=by
 cases d with
 |lit l=>cases l<;>simp[Rows.uptoBulk]
 |nil=>simp[Rows.uptoBulk]
 |ptr d=>simp[Rows.uptoBulk]
 |slice elems spare=>simp[Rows.uptoBulk]
 |agg parts=>simp[Rows.uptoBulk]
 |iface t d=>simp[Rows.uptoBulk]
 |map entries=>simp[Rows.uptoBulk]
 |held h=>simp[Rows.uptoBulk]
theorem Qy7{H:Type}(l:List (DataW H)):l.length<=Rows.uptoBulkAll l:=by
 induction l with
 |nil=>simp[Rows.uptoBulkAll]
 |cons x r ih=>have:=R4 x;simp only[Rows.uptoBulkAll,KaU];omega
theorem cj{H:Type}:wS (H:=H) Rows.uptoBulk:=by
 refine⟨fun elems spare=>?_,fun elems spare d hd=>?_,fun parts d hd=>?_⟩
 ·have:=Qy7 elems;simp only[Rows.uptoBulk];omega
 ·have:=Ji hd;simp only[Rows.uptoBulk];omega
 ·have:=Ji hd;simp only[Rows.uptoBulk];omega
theorem R5{H:Type}{l:List (DataW H)}(hk:Rows.uptoSmall H l=true):Rows.uptoBulkAll l<=1048576:=of_decide_eq_true hk
theorem own:ownKnob Tryz.prog.godebug=none:=by kernel_rfl
theorem laid:laidOutB Tryz.prog=true:=by kernel_rfl
theorem Wv:mapsRowed Tryz.prog=true:=by kernel_rfl
def He(P:Program):Bool:=(List.range P.types.size).all fun t=>match P.underlying t with|some (.slice e)=>decide (0<P.cellsOf e)|_=>true
theorem Ym:He Tryz.prog=true:=by kernel_rfl
theorem Ww{t e:TypeId}(ht:t<Tryz.prog.types.size)(he:Tryz.prog.underlying t=some (.slice e)):0<Tryz.prog.cellsOf e:=by have h:=Ym;simp only[He,Kaw]at h;have:=h t (List.mem_range.2 ht);rw[he]at this;exact of_decide_eq_true this
variable {H : Type} {enc : TypeId × Value -> H}
abbrev Rd(enc:TypeId×Value->H):=gY enc Tryz.prog Rows.uptoBulk 1048576
theorem Jj:Tryz.prog.cellsOf 152=1:=by kernel_rfl
theorem BO:Tryz.prog.cellsOf 3=1:=by kernel_rfl
theorem Hf:Rd enc 28 fun ps=>∃l:List Nat,ps=[PV.nat l]/\l.length<=1048576/\Qk l:=by refine(xm (α:=Nat) (f:=fun(x:Nat)=>.int .u16 x) (G:=fun x=>x<65536) cj Tryz.underlying28 (by rw[Jj];omega) (OX Tryz.underlying152)).mono ?_;rintro ps ⟨l,rfl,h1,h2⟩;exact⟨l,by rw[Jj],h1,h2⟩
theorem Wx:Rd enc 30 fun ps=>∃(n:Bool)(a:List Nat),ps=[.bool n,PV.nat a]/\a.length<=1048576/\Qk a:=by refine(HR cj Tryz.underlying30 rfl (by kernel_rfl) (by kernel_rfl) (NV Tryz.underlying4) Hf).mono ?_;rintro ps ⟨p,q,rfl,⟨n,rfl⟩,a,rfl,h⟩;exact⟨n,a,rfl,h⟩
theorem Hg:Rd enc 32 fun ps=>∃(n:Bool)(a d:List Nat),ps=[.bool n,PV.nat a,PV.nat d]/\Raw 1048576 n a d:=by refine(HR cj Tryz.underlying32 rfl (by kernel_rfl) (by kernel_rfl) Wx Hf).mono ?_;rintro ps ⟨p,q,rfl,⟨n,a,rfl,h1,h2⟩,d,rfl,h3,h4⟩;exact⟨n,a,d,rfl,h2,h4,h1,h3,by omega⟩
instance : Inhabited RTm := ⟨⟨false, [], [], []⟩⟩
variable {w : World} {base : Nat} {spare : Nat -> Bool} {held : Bool} {r : Reach} {b0 : Nat} {v : Value} {d : DataW H} {ps : List MemPlace}
theorem PF{f:FuncId}{fn:Func}{s:ChangeSpec}{ap fresh handsOn sH:Bool}{W:World}{args:Array Value}{ds gs:List (DataW H)}{before:List MemPlace}{aM:List PV}
  (hW:DataW.Whole enc Tryz.prog fn.params.toList s.vars ap W args.toList ds gs before) (wm:s.vars=[]) (eI:fn.resultTypes= #[4]) (zt:(fn.params.toList.all fun t=>decide (t<Tryz.prog.types.size))=true)
  (vO:s.fn H (ds++gs)={ results:=[.lit (.bool true)],args:=ds })
  (hF:Qd Tryz.prog f aM (· = .bool true)) (FX:args.size=aM.length) (eA:∀(i:Nat)(x:PV),aM[i]? =some x->bc W bW x (args.getD i undef)):
  Calls Tryz.prog f args W fun e W'=>∃v,e= .returned v/\s.post enc Tryz.prog fn ap fresh handsOn sH W args v W':=by
 simp only[Kaw,decide_eq_true_eq]at zt;exact Qw7 hW wm eI Tryz.underlying4 laid Wv (fun h1 h2=>Ww h1 h2) zt vO hF FX eA
theorem R6{w:World}{ps:List PV}{vs:List Value}(h:∀(i:Nat)(x:PV),ps[i]? =some x->∀v,vs[i]? =some v->bc w bW x v)(hl:vs.length=ps.length):∀(i:Nat)(x:PV),ps[i]? =some x->bc w bW x (vs.toArray.getD i undef):=by
 intro i x hx;have hi:i<vs.length:=by rw[hl];exact(Kad.1 hx).1
 have:=h i x hx vs[i] (Kaf hi);simpa[Array.getD,hi]using this
end Go.Proofs.YtonjiljafkiikaaGreat
namespace Go.FW
open Go Go.ChangeShapes Go.WideShapes
section
variable {H : Type} {enc : TypeId × Value -> H} {P : Program} {cj : DataW H -> Nat} {N : Nat} {w : World} {base : Nat} {spare : Nat -> Bool} {held : Bool}
def C4(enc:TypeId×Value->H)(P:Program)(cj:DataW H->Nat)(N:Nat):Nat->List Field->List (List PV->Prop)->Prop
 |_,[],[]=>True
 |off,f::fs,Q::Qs=>f.offset=off/\gY enc P cj N f.type Q/\C4 enc P cj N (off+P.cellsOf f.type) fs Qs
 |_,_,_=>False
def CU:List (List PV->Prop)->List PV->Prop
 | [],ps=>ps=[]
 |Q::Qs,ps=>∃p q,ps=p++q/\Q p/\CU Qs q
def sw(P:Program)(fs:List Field):Nat:=(fs.map fun f=>P.cellsOf f.type).sum
theorem Hh{n:Nat}{cs:List Value}:∀ {fs:List Field} {Qs:List (List PV->Prop)} {off:Nat} {xs:List (DataW H×List MemPlace)},C4 enc P cj N off fs Qs->xs.length=fs.length->off+sw P fs<=cs.length->
  (∀(i:Nat)(f:Field),fs[i]? =some f->DataW.trod enc P w base spare held n f.type ((cs.drop f.offset).take (P.cellsOf f.type))=xs[i]?)->(∀x∈xs,cj x.1<=N)->
  ∃ps,CU Qs ps/\ps.length=sw P fs/\∀(i:Nat)(v:PV),ps[i]? =some v->Qo w bW v (cs.getD (off+i) undef)
 | [],[],off,xs,_,_,_,_,_=>⟨[],rfl,rfl,fun i v h=>by simp at h⟩
 | [],_::_,off,xs,h,_,_,_,_=>h.elim
 |_::_,[],off,xs,h,_,_,_,_=>h.elim
 |f::fs,Q::Qs,off,[],_,hl,_,_,_=>by simp at hl
 | f::fs,Q::Qs,off,x::xs,⟨h0,hr,h1⟩,hl,hc,hf,hb=>by
  have hcf:sw P (f::fs)=P.cellsOf f.type+sw P fs:=by simp[sw]
  rw[hcf]at hc⊢;have hx:=hf 0 f rfl;obtain⟨p,hp,bu,ke⟩:=hr _ _ _ _ _ _ _ hx (hb x (by simp));obtain⟨q,hq,lR,zu⟩:=Hh (n:=n) (cs:=cs) (fs:=fs) (Qs:=Qs) (off:=off+P.cellsOf f.type) (xs:=xs) h1 (by simpa using hl) (by omega) (fun i g hg=>by simpa using hf (i+1) g hg) (fun y hy=>hb y (KbA _ hy));rw[h0]at bu ke;simp only[Kav,KaY]at bu;have lp:p.length=P.cellsOf f.type:=by omega
  refine⟨p++q,⟨p,q,rfl,hp,hq⟩,by rw[KaJ];omega,fun i v hv=>?_⟩;by_cases hi:i<p.length
  ·rw[KbM hi]at hv;have:=ke i v hv;rw[Kae,Kb1,if_pos (by omega),KaR]at this;rw[Kae];exact this
  ·rw[Kbd (by omega)]at hv;have:=zu _ v hv;rw[show off+P.cellsOf f.type+(i-p.length)=off+i by omega]at this;exact this
theorem Ba{t:TypeId}{fs:Array Field}{Qs:List (List PV->Prop)}(hB:wS cj)(ht:P.underlying t=some (.struct fs))(hc:P.cellsOf t=sw P fs.toList)(hr:C4 enc P cj N 0 fs.toList Qs):gY enc P cj N t (CU Qs):=by
 intro w base spare held fuel cs x hx hn;obtain⟨xs,n,_,rfl,hl,hlen,hf⟩:=DataW.trod_struct ht hx;obtain⟨ps,h1,h2,h3⟩:=Hh (w:=w) (base:=base) (spare:=spare) (held:=held) (n:=n) (cs:=cs) (off:=0) (xs:=xs) hr (by simpa using hlen) (by omega) (fun i f Fz=>hf i f (by simpa using Fz)) (fun y hy=>KaZ (hB.ag _ _ (KaL.2 ⟨y,hy,rfl⟩)) hn);refine⟨ps,h1,by omega,fun i v hv=>?_⟩;have:=h3 i v hv
 rwa[Ka2]at this
end
end Go.FW
namespace Go.FW
open Go Go.ChangeShapes Go.WideShapes
section
variable {H : Type} {enc : TypeId × Value -> H} {P : Program} {cj : DataW H -> Nat} {N : Nat}
theorem R7{w:World}{base:Nat}{spare:Nat->Bool}{held:Bool}{fuel:Nat}{t:TypeId}{cs:List Value}{x:DataW H×List MemPlace}(ht:P.underlying t=some .string)(h:DataW.trod enc P w base spare held fuel t cs=some x):∃s:ByteArray,cs=[.string s]/\x=(.lit (.string s.data.toList),[]):=by
 cases fuel with
 |zero=>simp[DataW.trod]at h
 |succ n=>unfold DataW.trod at h;rw[ht]at h;split at h<;>simp_all
theorem Qxq{t:TypeId}(ht:P.underlying t=some .string)(hB:∀l,l.length<=cj (.lit (.string l))):gY enc P cj N t fun ps=>∃s:ByteArray,ps=[.str s]/\s.size<=N:=by intro w base spare held fuel cs x hx hn;obtain⟨s,rfl,rfl⟩:=R7 ht hx;exact⟨_,⟨s,rfl,KaZ (hB _) hn⟩,rfl,uE (.str s)⟩
end
end Go.FW
