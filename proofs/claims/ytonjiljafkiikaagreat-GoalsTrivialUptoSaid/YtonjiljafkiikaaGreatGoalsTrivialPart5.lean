/- Part 5 of the proof of GoalsTrivial: AR, L0, FwTB, FwTC. Own lemmas; no conditions. -/
import Derived.Test.YtonjiljafkiikaaGreatGoalsTrivialPart4
import Derived.Test.YtonjiljafkiikaaGreatRows
import Derived.WalkKit
import Derived.ProofKit
import Derived.OpenShut
import Derived.JoinedCond
set_option maxHeartbeats 1000000
set_option linter.unusedSimpArgs false
set_option linter.unusedVariables false
set_option linter.unnecessarySimpa false
set_option maxRecDepth 100000
namespace Go.Proofs.YtonjiljafkiikaaGreat
open Go Go.FW
open Go Go.FW Go.ChangeShapes Go.WideShapes Go.ChangeAt Go.RowKit
theorem H9{H:Type}{d:DataW H}{l:List (DataW H)}(h:d∈l):Rows.uptoBulk d<=Rows.uptoBulkAll l:=by
 induction l with
 |nil=>cases h
 |cons x r ih=>
  simp only[Rows.uptoBulkAll];cases KaH.1 h with
  |inl e=>subst e;omega
  |inr e=>have:=ih e;omega
theorem Pn{H:Type}(d:DataW H):1<=Rows.uptoBulk d:=by
 cases d with
 |lit l=>cases l<;>simp[Rows.uptoBulk]
 |nil=>simp[Rows.uptoBulk]
 |ptr d=>simp[Rows.uptoBulk]
 |slice elems spare=>simp[Rows.uptoBulk]
 |agg parts=>simp[Rows.uptoBulk]
 |iface t d=>simp[Rows.uptoBulk]
 |map entries=>simp[Rows.uptoBulk]
 |held h=>simp[Rows.uptoBulk]
theorem Yl{H:Type}(l:List (DataW H)):l.length<=Rows.uptoBulkAll l:=by
 induction l with
 |nil=>simp[Rows.uptoBulkAll]
 |cons x r ih=>have:=Pn x;simp only[Rows.uptoBulkAll,KaW];omega
theorem bW{H:Type}:vI (H:=H) Rows.uptoBulk:=by
 refine⟨fun elems spare=>?_,fun elems spare d hd=>?_,fun parts d hd=>?_⟩
 ·have:=Yl elems;simp only[Rows.uptoBulk];omega
 ·have:=H9 hd;simp only[Rows.uptoBulk];omega
 ·have:=H9 hd;simp only[Rows.uptoBulk];omega
theorem Po{H:Type}{l:List (DataW H)}(hk:Rows.uptoSmall H l=true):Rows.uptoBulkAll l<=1048576:=of_decide_eq_true hk
theorem own:ownKnob Tryz.prog.godebug=none:=by kernel_rfl
theorem laid:laidOutB Tryz.prog=true:=by kernel_rfl
theorem UK:mapsRowed Tryz.prog=true:=by kernel_rfl
def FI(P:Program):Bool:=(List.range P.types.size).all fun t=>match P.underlying t with|some (.slice e)=>decide (0<P.cellsOf e)|_=>true
theorem WR:FI Tryz.prog=true:=by kernel_rfl
theorem UL{t e:TypeId}(ht:t<Tryz.prog.types.size)(he:Tryz.prog.underlying t=some (.slice e)):0<Tryz.prog.cellsOf e:=by have h:=WR;simp only[FI,KaB]at h;have:=h t (List.mem_range.2 ht);rw[he]at this;exact of_decide_eq_true this
variable {H : Type} {enc : TypeId × Value -> H}
abbrev Rd(enc:TypeId×Value->H):=fM enc Tryz.prog Rows.uptoBulk 1048576
theorem Ia:Tryz.prog.cellsOf 152=1:=by kernel_rfl
theorem Bs:Tryz.prog.cellsOf 3=1:=by kernel_rfl
theorem FJ:Rd enc 28 fun ps=>∃l:List Nat,ps=[PV.nat l]/\l.length<=1048576/\Qj l:=by refine(wc (α:=Nat) (f:=fun(x:Nat)=>.int .u16 x) (G:=fun x=>x<65536) bW Tryz.underlying28 (by rw[Ia];omega) (M' Tryz.underlying152)).mono ?_;rintro ps ⟨l,rfl,h1,h2⟩;exact⟨l,by rw[Ia],h1,h2⟩
theorem UM:Rd enc 30 fun ps=>∃(n:Bool)(a:List Nat),ps=[.bool n,PV.nat a]/\a.length<=1048576/\Qj a:=by refine(Gj bW Tryz.underlying30 rfl (by kernel_rfl) (by kernel_rfl) (L8 Tryz.underlying4) FJ).mono ?_;rintro ps ⟨p,q,rfl,⟨n,rfl⟩,a,rfl,h⟩;exact⟨n,a,rfl,h⟩
theorem FK:Rd enc 32 fun ps=>∃(n:Bool)(a d:List Nat),ps=[.bool n,PV.nat a,PV.nat d]/\Raw 1048576 n a d:=by refine(Gj bW Tryz.underlying32 rfl (by kernel_rfl) (by kernel_rfl) UM FJ).mono ?_;rintro ps ⟨p,q,rfl,⟨n,a,rfl,h1,h2⟩,d,rfl,h3,h4⟩;exact⟨n,a,d,rfl,h2,h4,h1,h3,by omega⟩
instance : Inhabited YV := ⟨⟨false, [], [], []⟩⟩
variable {w : World} {base : Nat} {spare : Nat -> Bool} {held : Bool} {r : Reach} {b0 : Nat} {v : Value} {d : DataW H} {ps : List MemPlace}
theorem JA(dz:Value.okWide Tryz.prog w r b0 3 v)(hd:DataW.Trod enc Tryz.prog w base spare held 3 v d ps)(hn:Rows.uptoBulk d<=1048576):∃n:Int,aV w bO (.int .i64 n) v/\ -9223372036854775808<=n/\n<=9223372036854775807:=by
 obtain⟨p,⟨n,e,h⟩,h2⟩:=FW.Ro Tryz.underlying3 dz (wE Tryz.underlying3) hd hn;obtain rfl:p= .int .i64 n:=by simpa using e
 exact⟨n,h2,h⟩
theorem NR{f:FuncId}{fn:Func}{s:ChangeSpec}{ap fresh handsOn rS:Bool}{W:World}{args:Array Value}{ds gs:List (DataW H)}{before:List MemPlace}{aM:List PV}
  (hW:DataW.Whole enc Tryz.prog fn.params.toList s.vars ap W args.toList ds gs before) (vh:s.vars=[]) (ej:fn.resultTypes= #[4]) (yy:(fn.params.toList.all fun t=>decide (t<Tryz.prog.types.size))=true)
  (uO:s.fn H (ds++gs)={ results:=[.lit (.bool true)],args:=ds })
  (hF:Qd Tryz.prog f aM (· = .bool true)) (Ey:args.size=aM.length) (ed:∀(i:Nat)(x:PV),aM[i]? =some x->aV W bO x (args.getD i undef)):
  Calls Tryz.prog f args W fun e W'=>∃v,e= .returned v/\s.post enc Tryz.prog fn ap fresh handsOn rS W args v W':=by
 simp only[KaB,decide_eq_true_eq]at yy;exact XP hW vh ej Tryz.underlying4 laid UK (fun h1 h2=>UL h1 h2) yy uO hF Ey ed
theorem Pp{w:World}{ps:List PV}{vs:List Value}(h:∀(i:Nat)(x:PV),ps[i]? =some x->∀v,vs[i]? =some v->aV w bO x v)(hl:vs.length=ps.length):∀(i:Nat)(x:PV),ps[i]? =some x->aV w bO x (vs.toArray.getD i undef):=by
 intro i x hx;have hi:i<vs.length:=by rw[hl];exact(Kac.1 hx).1
 have:=h i x hx vs[i] (Kaf hi);simpa[Array.getD,hi]using this
end Go.Proofs.YtonjiljafkiikaaGreat
namespace Go.FW
open Go Go.ChangeShapes Go.WideShapes
section
variable {H : Type} {enc : TypeId × Value -> H} {P : Program} {bW : DataW H -> Nat} {N : Nat} {w : World} {base : Nat} {spare : Nat -> Bool} {held : Bool}
def CD(enc:TypeId×Value->H)(P:Program)(bW:DataW H->Nat)(N:Nat):Nat->List Field->List (List PV->Prop)->Prop
 |_,[],[]=>True
 |off,f::fs,Q::Qs=>f.offset=off/\fM enc P bW N f.type Q/\CD enc P bW N (off+P.cellsOf f.type) fs Qs
 |_,_,_=>False
def Cv:List (List PV->Prop)->List PV->Prop
 | [],ps=>ps=[]
 |Q::Qs,ps=>∃p q,ps=p++q/\Q p/\Cv Qs q
def rL(P:Program)(fs:List Field):Nat:=(fs.map fun f=>P.cellsOf f.type).sum
theorem FL{n:Nat}{cs:List Value}:∀ {fs:List Field} {Qs:List (List PV->Prop)} {off:Nat} {xs:List (DataW H×List MemPlace)},CD enc P bW N off fs Qs->xs.length=fs.length->off+rL P fs<=cs.length->
  (∀(i:Nat)(f:Field),fs[i]? =some f->DataW.trod enc P w base spare held n f.type ((cs.drop f.offset).take (P.cellsOf f.type))=xs[i]?)->(∀x∈xs,bW x.1<=N)->
  ∃ps,Cv Qs ps/\ps.length=rL P fs/\∀(i:Nat)(v:PV),ps[i]? =some v->Qo w bO v (cs.getD (off+i) undef)
 | [],[],off,xs,_,_,_,_,_=>⟨[],rfl,rfl,fun i v h=>by simp at h⟩
 | [],_::_,off,xs,h,_,_,_,_=>h.elim
 |_::_,[],off,xs,h,_,_,_,_=>h.elim
 |f::fs,Q::Qs,off,[],_,hl,_,_,_=>by simp at hl
 | f::fs,Q::Qs,off,x::xs,⟨h0,hr,h1⟩,hl,hc,hf,hb=>by
  have hcf:rL P (f::fs)=P.cellsOf f.type+rL P fs:=by simp[rL]
  rw[hcf]at hc⊢;have hx:=hf 0 f rfl;obtain⟨p,hp,bc,kv⟩:=hr _ _ _ _ _ _ _ hx (hb x (by simp));obtain⟨q,hq,lg,yz⟩:=FL (n:=n) (cs:=cs) (fs:=fs) (Qs:=Qs) (off:=off+P.cellsOf f.type) (xs:=xs) h1 (by simpa using hl) (by omega) (fun i g hg=>by simpa using hf (i+1) g hg) (fun y hy=>hb y (Kb3 _ hy));rw[h0]at bc kv;simp only[Kau,KaX]at bc;have lp:p.length=P.cellsOf f.type:=by omega
  refine⟨p++q,⟨p,q,rfl,hp,hq⟩,by rw[KaG];omega,fun i v hv=>?_⟩;by_cases hi:i<p.length
  ·rw[KbK hi]at hv;have:=kv i v hv;rw[Kad,KbY,if_pos (by omega),KaO]at this;rw[Kad];exact this
  ·rw[Kba (by omega)]at hv;have:=yz _ v hv;rw[show off+P.cellsOf f.type+(i-p.length)=off+i by omega]at this;exact this
theorem AP{t:TypeId}{fs:Array Field}{Qs:List (List PV->Prop)}(hB:vI bW)(ht:P.underlying t=some (.struct fs))(hc:P.cellsOf t=rL P fs.toList)(hr:CD enc P bW N 0 fs.toList Qs):fM enc P bW N t (Cv Qs):=by
 intro w base spare held fuel cs x hx hn;obtain⟨xs,n,_,rfl,hl,hlen,hf⟩:=DataW.trod_struct ht hx;obtain⟨ps,h1,h2,h3⟩:=FL (w:=w) (base:=base) (spare:=spare) (held:=held) (n:=n) (cs:=cs) (off:=0) (xs:=xs) hr (by simpa using hlen) (by omega) (fun i f Ed=>hf i f (by simpa using Ed)) (fun y hy=>KaY (hB.ag _ _ (KaM.2 ⟨y,hy,rfl⟩)) hn);refine⟨ps,h1,by omega,fun i v hv=>?_⟩;have:=h3 i v hv
 rwa[Ka0]at this
end
end Go.FW
namespace Go.FW
open Go Go.ChangeShapes Go.WideShapes
section
variable {H : Type} {enc : TypeId × Value -> H} {P : Program} {bW : DataW H -> Nat} {N : Nat}
theorem Pq{w:World}{base:Nat}{spare:Nat->Bool}{held:Bool}{fuel:Nat}{t:TypeId}{cs:List Value}{x:DataW H×List MemPlace}(ht:P.underlying t=some .string)(h:DataW.trod enc P w base spare held fuel t cs=some x):∃s:ByteArray,cs=[.string s]/\x=(.lit (.string s.data.toList),[]):=by
 cases fuel with
 |zero=>simp[DataW.trod]at h
 |succ n=>unfold DataW.trod at h;rw[ht]at h;split at h<;>simp_all
theorem XU{t:TypeId}(ht:P.underlying t=some .string)(hB:∀l,l.length<=bW (.lit (.string l))):fM enc P bW N t fun ps=>∃s:ByteArray,ps=[.str s]/\s.size<=N:=by intro w base spare held fuel cs x hx hn;obtain⟨s,rfl,rfl⟩:=Pq ht hx;exact⟨_,⟨s,rfl,KaY (hB _) hn⟩,rfl,tB (.str s)⟩
end
end Go.FW
