/- Part 4 of the proof of MatrixSolves: AR, L0, FwTB. Own lemmas; no conditions. -/
import Derived.Test.YtkoclfmjlolkhaaGreatMatrixSolvesPart3
import Derived.Test.YtkoclfmjlolkhaaGreatRows
import Derived.WalkKit
import Derived.ProofKit
import Derived.OpenShut
import Derived.JoinedCond
set_option linter.unusedSimpArgs false
set_option linter.unusedVariables false
set_option linter.unnecessarySimpa false
set_option maxRecDepth 100000
namespace Go.Proofs.YtkoclfmjlolkhaaGreat
open Go Go.FW
def Qbs(l:List RQ):Prop:=l.length<=1048576/\∀q∈l,Raw 1048576 q.n q.a q.d
theorem Q3f{l:List RQ}(hl:Qbs l)(h:l.all Qdw=true):PV.rqs l=PV.rats (l.map rqV):=by
 unfold PV.rqs PV.rats
 rw[List.map_map]
 congr 1
 refine List.map_congr_left fun q hq=> ?_
 have hr:=hl.2 q hq
 exact Qahc hr.la hr.ld (List.all_eq_true.1 h q hq)
theorem Qacc{r c:Int}{l:List RQ}(hl:Qbs l)(h:Qbh r c l=true):∃(R m:Nat)(l':List Rat),r=R/\c=m/\R<=40/\m<=40/\l'=l.map rqV/\l'.length=R*m/\PV.rmat r c l=PV.mat R m l':=by
 unfold Qbh at h
 rw[Bool.and_eq_true,decide_eq_true_eq]at h
 obtain⟨⟨h1,h2,h3,h4,h5⟩,h6⟩:=h
 obtain⟨R,rfl⟩:=Int.eq_ofNat_of_zero_le h1
 obtain⟨m,rfl⟩:=Int.eq_ofNat_of_zero_le h3
 refine⟨R,m,l.map rqV,rfl,rfl,by omega,by omega,rfl,?_,?_⟩
 ·rw[List.length_map]
  rw[<-Int.natCast_mul]at h5
  omega
 ·unfold PV.rmat PV.mat
  rw[Q3f hl h6]
open Go Go.FW Go.ChangeShapes Go.WideShapes Go.ChangeAt Go.RowKit
theorem Qtk{H:Type}{d:DataW H}{l:List (DataW H)}(h:d∈l):Rows.uptoBulk d<=Rows.uptoBulkAll l:=by
 induction l with
 |nil=>cases h
 |cons x r ih=>
  simp only[Rows.uptoBulkAll]
  cases List.mem_cons.1 h with
  |inl e=>subst e;omega
  |inr e=>have:=ih e;omega
theorem Q7y{H:Type}(d:DataW H):1<=Rows.uptoBulk d:=by
 cases d with
 |lit l=>cases l<;>simp[Rows.uptoBulk]
 |nil=>simp[Rows.uptoBulk]
 |ptr d=>simp[Rows.uptoBulk]
 |slice elems spare=>simp[Rows.uptoBulk]
 |agg parts=>simp[Rows.uptoBulk]
 |iface t d=>simp[Rows.uptoBulk]
 |map entries=>simp[Rows.uptoBulk]
 |held h=>simp[Rows.uptoBulk]
theorem Qxf{H:Type}(l:List (DataW H)):l.length<=Rows.uptoBulkAll l:=by
 induction l with
 |nil=>simp[Rows.uptoBulkAll]
 |cons x r ih=>have:=Q7y x;simp only[Rows.uptoBulkAll,List.length_cons];omega
theorem Qbt{H:Type}:Qzt (H:=H) Rows.uptoBulk:=by
 refine⟨fun elems spare=> ?_,fun elems spare d hd=> ?_,fun parts d hd=> ?_⟩
 ·have:=Qxf elems
  simp only[Rows.uptoBulk];omega
 ·have:=Qtk hd
  simp only[Rows.uptoBulk];omega
 ·have:=Qtk hd
  simp only[Rows.uptoBulk];omega
theorem Q7z{H:Type}{l:List (DataW H)}(hk:Rows.uptoSmall H l=true):Rows.uptoBulkAll l<=1048576:=of_decide_eq_true hk
theorem own:ownKnob Tryz.prog.godebug=none:=by kernel_rfl
theorem laid:laidOutB Tryz.prog=true:=by kernel_rfl
theorem Qafg:mapsRowed Tryz.prog=true:=by kernel_rfl
def Q3g(P:Program):Bool:=(List.range P.types.size).all fun t=>match P.underlying t with|some (.slice e)=>decide (0<P.cellsOf e)|_=>true
theorem Qaho:Q3g Tryz.prog=true:=by kernel_rfl
theorem Qafh{t e:TypeId}(ht:t<Tryz.prog.types.size)(he:Tryz.prog.underlying t=some (.slice e)):0<Tryz.prog.cellsOf e:=by
 have h:=Qaho
 simp only[Q3g,List.all_eq_true]at h
 have:=h t (List.mem_range.2 ht)
 rw[he]at this
 exact of_decide_eq_true this
variable {H : Type} {enc : TypeId × Value -> H}
abbrev Rd(enc:TypeId×Value->H):=Qec enc Tryz.prog Rows.uptoBulk 1048576
theorem Qtl:Tryz.prog.cellsOf 155=1:=by kernel_rfl
theorem Qtm:Tryz.prog.cellsOf 51=3:=by kernel_rfl
theorem Q3h:Rd enc 47 fun ps=>∃l:List Nat,ps=[PV.nat l]/\l.length<=1048576/\Qj l:=by
 refine(Qpf (α:=Nat) (f:=fun(x:Nat)=> .int .u16 x) (G:=fun x=>x<65536) Qbt Tryz.underlying47 (by rw[Qtl];omega) (Q2s Tryz.underlying155)).mono ?_
 rintro ps ⟨l,rfl,h1,h2⟩
 exact⟨l,by rw[Qtl],h1,h2⟩
theorem Qafi:Rd enc 49 fun ps=>∃(n:Bool)(a:List Nat),ps=[.bool n,PV.nat a]/\a.length<=1048576/\Qj a:=by
 refine(Qna Qbt Tryz.underlying49 rfl (by kernel_rfl) (by kernel_rfl) (Qzu Tryz.underlying4) Q3h).mono ?_
 rintro ps ⟨p,q,rfl,⟨n,rfl⟩,a,rfl,h⟩
 exact⟨n,a,rfl,h⟩
theorem Qafj:Rd enc 51 fun ps=>∃(n:Bool)(a d:List Nat),ps=[.bool n,PV.nat a,PV.nat d]/\Raw 1048576 n a d:=by
 refine(Qna Qbt Tryz.underlying51 rfl (by kernel_rfl) (by kernel_rfl) Qafi Q3h).mono ?_
 rintro ps ⟨p,q,rfl,⟨n,a,rfl,h1,h2⟩,d,rfl,h3,h4⟩
 exact⟨n,a,d,rfl,h2,h4,h1,h3,by omega⟩
instance : Inhabited RTm := ⟨⟨false, [], [], []⟩⟩
theorem Qyi:Rd enc 22 fun ps=>∃l:List RQ,ps=[PV.rqs l]/\Qbs l:=by
 refine(Qpf (α:=RQ) (f:=PV.rq) (G:=fun q=>Raw 1048576 q.n q.a q.d) Qbt Tryz.underlying22 (by rw[Qtm];omega) (Qafj.mono ?_)).mono ?_
 ·rintro ps ⟨n,a,d,rfl,h⟩
  exact⟨⟨n,a,d⟩,rfl,h⟩
 ·rintro ps ⟨l,rfl,h1,h2⟩
  exact⟨l,by rw[Qtm],h1,h2⟩
variable {w : World} {base : Nat} {spare : Nat -> Bool} {held : Bool} {r : Reach} {b0 : Nat} {v : Value} {d : DataW H} {ps : List MemPlace}
theorem Q70(Qc5:Value.okWide Tryz.prog w r b0 22 v)(hd:DataW.Trod enc Tryz.prog w base spare held 22 v d ps)(hn:Rows.uptoBulk d<=1048576):∃l,Qag w Qbd (PV.rqs l) v/\Qbs l:=by
 obtain⟨p,⟨l,e,h⟩,h2⟩:=Q2t Tryz.underlying22 Qc5 Qyi hd hn
 obtain rfl:p=PV.rqs l:=by simpa using e
 exact⟨l,h2,h⟩
theorem Q3i{f:FuncId}{fn:Func}{s:ChangeSpec}{ap fresh handsOn Qof:Bool}{W:World}{args:Array Value}{ds gs:List (DataW H)}{before:List MemPlace}{pargs:List PV}
  (hW:DataW.Whole enc Tryz.prog fn.params.toList s.vars ap W args.toList ds gs before) (hvars:s.vars=[]) (hres:fn.resultTypes= #[4]) (hpar:(fn.params.toList.all fun t=>decide (t<Tryz.prog.types.size))=true)
  (hfn:s.fn H (ds++gs)={ results:=[.lit (.bool true)],args:=ds })
  (hF:Qd Tryz.prog f pargs (· = .bool true)) (hsize:args.size=pargs.length) (hrep:∀(i:Nat)(x:PV),pargs[i]? =some x->Qag W Qbd x (args.getD i undef)):
  Calls Tryz.prog f args W fun e W'=>∃v,e= .returned v/\s.post enc Tryz.prog fn ap fresh handsOn Qof W args v W':=by
 simp only[List.all_eq_true,decide_eq_true_eq]at hpar
 exact Qvs hW hvars hres Tryz.underlying4 laid Qafg (fun h1 h2=>Qafh h1 h2) hpar hfn hF hsize hrep
theorem Q71{w:World}{ps:List PV}{vs:List Value}(h:∀(i:Nat)(x:PV),ps[i]? =some x->∀v,vs[i]? =some v->Qag w Qbd x v)(hl:vs.length=ps.length):∀(i:Nat)(x:PV),ps[i]? =some x->Qag w Qbd x (vs.toArray.getD i undef):=by
 intro i x hx
 have hi:i<vs.length:=by rw[hl];exact(List.getElem?_eq_some_iff.1 hx).1
 have:=h i x hx vs[i] (List.getElem?_eq_getElem hi)
 simpa[Array.getD,hi]using this
end Go.Proofs.YtkoclfmjlolkhaaGreat
namespace Go.FW
open Go Go.ChangeShapes Go.WideShapes
section
variable {H : Type} {enc : TypeId × Value -> H} {P : Program} {Qbt : DataW H -> Nat} {N : Nat} {w : World} {base : Nat} {spare : Nat -> Bool} {held : Bool}
def RdF(enc:TypeId×Value->H)(P:Program)(Qbt:DataW H->Nat)(N:Nat):Nat->List Field->List (List PV->Prop)->Prop
 |_,[],[]=>True
 |off,f::fs,Q::Qs=>f.offset=off/\Qec enc P Qbt N f.type Q/\RdF enc P Qbt N (off+P.cellsOf f.type) fs Qs
 |_,_,_=>False
def Qv8:List (List PV->Prop)->List PV->Prop
 | [],ps=>ps=[]
 |Q::Qs,ps=>∃p q,ps=p++q/\Q p/\Qv8 Qs q
def Qlt(P:Program)(fs:List Field):Nat:=(fs.map fun f=>P.cellsOf f.type).sum
theorem Q3j{n:Nat}{cs:List Value}:∀ {fs:List Field} {Qs:List (List PV->Prop)} {off:Nat} {xs:List (DataW H×List MemPlace)},RdF enc P Qbt N off fs Qs->xs.length=fs.length->off+Qlt P fs<=cs.length->
  (∀(i:Nat)(f:Field),fs[i]? =some f->DataW.trod enc P w base spare held n f.type ((cs.drop f.offset).take (P.cellsOf f.type))=xs[i]?)->(∀x∈xs,Qbt x.1<=N)->
  ∃ps,Qv8 Qs ps/\ps.length=Qlt P fs/\∀(i:Nat)(v:PV),ps[i]? =some v->Q2 w Qbd v (cs.getD (off+i) undef)
 | [],[],off,xs,_,_,_,_,_=>⟨[],rfl,rfl,fun i v h=>by simp at h⟩
 | [],_::_,off,xs,h,_,_,_,_=>h.elim
 |_::_,[],off,xs,h,_,_,_,_=>h.elim
 |f::fs,Q::Qs,off,[],_,hl,_,_,_=>by simp at hl
 | f::fs,Q::Qs,off,x::xs,⟨h0,hr,h1⟩,hl,hc,hf,hb=>by
  have hcf:Qlt P (f::fs)=P.cellsOf f.type+Qlt P fs:=by simp[Qlt]
  rw[hcf]at hc⊢
  have hx:=hf 0 f rfl
  obtain⟨p,hp,hp2,hp3⟩:=hr _ _ _ _ _ _ _ hx (hb x (by simp))
  obtain⟨q,hq,hq2,hq3⟩:=Q3j (n:=n) (cs:=cs) (fs:=fs) (Qs:=Qs) (off:=off+P.cellsOf f.type) (xs:=xs) h1 (by simpa using hl) (by omega) (fun i g hg=>by simpa using hf (i+1) g hg) (fun y hy=>hb y (List.mem_cons_of_mem _ hy))
  rw[h0]at hp2 hp3
  simp only[List.length_take,List.length_drop]at hp2
  have lp:p.length=P.cellsOf f.type:=by omega
  refine⟨p++q,⟨p,q,rfl,hp,hq⟩,by rw[List.length_append];omega,fun i v hv=> ?_⟩
  by_cases hi:i<p.length
  ·rw[List.getElem?_append_left hi]at hv
   have:=hp3 i v hv
   rw[List.getD_eq_getElem?_getD,List.getElem?_take,if_pos (by omega),List.getElem?_drop]at this
   rw[List.getD_eq_getElem?_getD];exact this
  ·rw[List.getElem?_append_right (by omega)]at hv
   have:=hq3 _ v hv
   rw[show off+P.cellsOf f.type+(i-p.length)=off+i by omega]at this
   exact this
theorem Qv9{t:TypeId}{fs:Array Field}{Qs:List (List PV->Prop)}(hB:Qzt Qbt)(ht:P.underlying t=some (.struct fs))(hc:P.cellsOf t=Qlt P fs.toList)(hr:RdF enc P Qbt N 0 fs.toList Qs):Qec enc P Qbt N t (Qv8 Qs):=by
 intro w base spare held fuel cs x hx hn
 obtain⟨xs,n,_,rfl,hl,hlen,hf⟩:=DataW.trod_struct ht hx
 obtain⟨ps,h1,h2,h3⟩:=Q3j (w:=w) (base:=base) (spare:=spare) (held:=held) (n:=n) (cs:=cs) (off:=0) (xs:=xs) hr (by simpa using hlen) (by omega) (fun i f hf'=>hf i f (by simpa using hf')) (fun y hy=>Nat.le_trans (hB.ag _ _ (List.mem_map.2 ⟨y,hy,rfl⟩)) hn)
 refine⟨ps,h1,by omega,fun i v hv=> ?_⟩
 have:=h3 i v hv
 rwa[Nat.zero_add]at this
end
end Go.FW
