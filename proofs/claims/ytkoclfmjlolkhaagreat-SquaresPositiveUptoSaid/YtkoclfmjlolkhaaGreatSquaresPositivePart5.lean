/- Part 5 of the proof of SquaresPositive: AR, L0, FwTB. Own lemmas; no conditions. -/
import Derived.Test.YtkoclfmjlolkhaaGreatSquaresPositivePart4
import Derived.Test.YtkoclfmjlolkhaaGreatRows
import Derived.WalkKit
import Derived.ProofKit
import Derived.OpenShut
import Derived.JoinedCond
set_option linter.unusedSimpArgs false
set_option linter.unusedVariables false
set_option linter.unnecessarySimpa false
set_option maxRecDepth 100000
namespace Go.Proofs.YtkoclfmjlolkhaaGreat
open Go Go.FW
def Qfh(l:List RQ):Prop:=l.length<=1048576/\∀q∈l,Raw 1048576 q.n q.a q.d
theorem Q07{l:List RQ}(hl:Qfh l)(h:l.all Qhk=true):PV.rqs l=PV.rats (l.map rqV):=by
 unfold PV.rqs PV.rats
 rw[List.map_map]
 congr 1
 refine List.map_congr_left fun q hq=> ?_
 have hr:=hl.2 q hq
 exact Qah3 hr.la hr.ld (List.all_eq_true.1 h q hq)
theorem Qak5{r c:Int}{l:List RQ}(hl:Qfh l)(h:Qc1 r c l=true):∃(R m:Nat)(l':List Rat),r=R/\c=m/\R<=40/\m<=40/\l'=l.map rqV/\l'.length=R*m/\PV.rmat r c l=PV.mat R m l':=by
 unfold Qc1 at h
 rw[Bool.and_eq_true,decide_eq_true_eq]at h
 obtain⟨⟨h1,h2,h3,h4,h5⟩,h6⟩:=h
 obtain⟨R,rfl⟩:=Int.eq_ofNat_of_zero_le h1
 obtain⟨m,rfl⟩:=Int.eq_ofNat_of_zero_le h3
 refine⟨R,m,l.map rqV,rfl,rfl,by omega,by omega,rfl,?_,?_⟩
 ·rw[List.length_map]
  rw[<-Int.natCast_mul]at h5
  omega
 ·unfold PV.rmat PV.mat
  rw[Q07 hl h6]
open Go Go.FW Go.ChangeShapes Go.WideShapes Go.ChangeAt Go.RowKit
theorem Qx4{H:Type}{d:DataW H}{l:List (DataW H)}(h:d∈l):Rows.uptoBulk d<=Rows.uptoBulkAll l:=by
 induction l with
 |nil=>cases h
 |cons x r ih=>
  simp only[Rows.uptoBulkAll]
  cases List.mem_cons.1 h with
  |inl e=>subst e;omega
  |inr e=>have:=ih e;omega
theorem Qae3{H:Type}(d:DataW H):1<=Rows.uptoBulk d:=by
 cases d with
 |lit l=>cases l<;>simp[Rows.uptoBulk]
 |nil=>simp[Rows.uptoBulk]
 |ptr d=>simp[Rows.uptoBulk]
 |slice elems spare=>simp[Rows.uptoBulk]
 |agg parts=>simp[Rows.uptoBulk]
 |iface t d=>simp[Rows.uptoBulk]
 |map entries=>simp[Rows.uptoBulk]
 |held h=>simp[Rows.uptoBulk]
theorem Q26{H:Type}(l:List (DataW H)):l.length<=Rows.uptoBulkAll l:=by
 induction l with
 |nil=>simp[Rows.uptoBulkAll]
 |cons x r ih=>have:=Qae3 x;simp only[Rows.uptoBulkAll,List.length_cons];omega
theorem Qct{H:Type}:Bulk (H:=H) Rows.uptoBulk:=by
 refine⟨fun elems spare=> ?_,fun elems spare d hd=> ?_,fun parts d hd=> ?_⟩
 ·have:=Q26 elems
  simp only[Rows.uptoBulk];omega
 ·have:=Qx4 hd
  simp only[Rows.uptoBulk];omega
 ·have:=Qx4 hd
  simp only[Rows.uptoBulk];omega
theorem Qae4{H:Type}{l:List (DataW H)}(hk:Rows.uptoSmall H l=true):Rows.uptoBulkAll l<=1048576:=of_decide_eq_true hk
theorem own:ownKnob Tryz.prog.godebug=none:=by kernel_rfl
theorem laid:laidOutB Tryz.prog=true:=by kernel_rfl
theorem Qap0:mapsRowed Tryz.prog=true:=by kernel_rfl
def Qaaf(P:Program):Bool:=(List.range P.types.size).all fun t=>match P.underlying t with|some (.slice e)=>decide (0<P.cellsOf e)|_=>true
theorem Qasv:Qaaf Tryz.prog=true:=by kernel_rfl
theorem Qap1{t e:TypeId}(ht:t<Tryz.prog.types.size)(he:Tryz.prog.underlying t=some (.slice e)):0<Tryz.prog.cellsOf e:=by
 have h:=Qasv
 simp only[Qaaf,List.all_eq_true]at h
 have:=h t (List.mem_range.2 ht)
 rw[he]at this
 exact of_decide_eq_true this
variable {H : Type} {enc : TypeId × Value -> H}
abbrev Rd(enc:TypeId×Value->H):=Qf5 enc Tryz.prog Rows.uptoBulk 1048576
theorem Qx5:Tryz.prog.cellsOf 155=1:=by kernel_rfl
theorem Qqq:Tryz.prog.cellsOf 3=1:=by kernel_rfl
theorem Qva:Tryz.prog.cellsOf 95=4:=by kernel_rfl
theorem Qx6:Tryz.prog.cellsOf 51=3:=by kernel_rfl
theorem Qaag:Rd enc 47 fun ps=>∃l:List Nat,ps=[PV.nat l]/\l.length<=1048576/\Qt l:=by
 refine(Qhq (α:=Nat) (f:=fun(x:Nat)=> .int .u16 x) (G:=fun x=>x<65536) Qct Tryz.underlying47 (by rw[Qx5];omega) (Q9l Tryz.underlying155)).mono ?_
 rintro ps ⟨l,rfl,h1,h2⟩
 exact⟨l,by rw[Qx5],h1,h2⟩
theorem Qak6:Rd enc 93 fun ps=>∃l:List Int,ps=[PV.mono l]/\l.length<=1048576/\∀x∈l,-9223372036854775808<=x/\x<=9223372036854775807:=by
 refine(Qhq (α:=Int) (f:=fun(x:Int)=> .int .i64 x) Qct Tryz.underlying93 (by rw[Qqq];omega) (Q9m Tryz.underlying3)).mono ?_
 rintro ps ⟨l,rfl,h1,h2⟩
 exact⟨l,by rw[Qqq],h1,h2⟩
theorem Qap2:Rd enc 49 fun ps=>∃(n:Bool)(a:List Nat),ps=[.bool n,PV.nat a]/\a.length<=1048576/\Qt a:=by
 refine(Qhs Qct Tryz.underlying49 rfl (by kernel_rfl) (by kernel_rfl) (Q6c Tryz.underlying4) Qaag).mono ?_
 rintro ps ⟨p,q,rfl,⟨n,rfl⟩,a,rfl,h⟩
 exact⟨n,a,rfl,h⟩
theorem Q08:Rd enc 51 fun ps=>∃(n:Bool)(a d:List Nat),ps=[.bool n,PV.nat a,PV.nat d]/\Raw 1048576 n a d:=by
 refine(Qhs Qct Tryz.underlying51 rfl (by kernel_rfl) (by kernel_rfl) Qap2 Qaag).mono ?_
 rintro ps ⟨p,q,rfl,⟨n,a,rfl,h1,h2⟩,d,rfl,h3,h4⟩
 exact⟨n,a,d,rfl,h2,h4,h1,h3,by omega⟩
instance : Inhabited RTm := ⟨⟨false, [], [], []⟩⟩
def Qah8(l:List RTm):Prop:=l.length<=1048576/\∀t∈l,RB 1048576 t/\∀x∈t.m,-9223372036854775808<=x/\x<=9223372036854775807
theorem Qak7:Rd enc 95 fun ps=>∃t:RTm,ps=(PV.rterm t).cells/\(RB 1048576 t/\∀x∈t.m,-9223372036854775808<=x/\x<=9223372036854775807):=by
 refine(Qhs Qct Tryz.underlying95 rfl (by kernel_rfl) (by kernel_rfl) Q08 Qak6).mono ?_
 rintro ps ⟨p,q,rfl,⟨n,a,d,rfl,h⟩,m,rfl,h3,h4⟩
 exact⟨⟨n,a,d,m⟩,rfl,⟨⟨h.la,h.ld,h.sa,h.sd⟩,by show m.length<2^40;omega⟩,h4⟩
theorem Qak8:Rd enc 37 fun ps=>∃l:List RTm,ps=[PV.rpoly l]/\Qah8 l:=by
 refine(Qhq (f:=PV.rterm) Qct Tryz.underlying37 (by rw[Qva];omega) Qak7).mono ?_
 rintro ps ⟨l,rfl,h1,h2⟩
 exact⟨l,by rw[Qva],h1,h2⟩
theorem Qak9:Rd enc 22 fun ps=>∃l:List RQ,ps=[PV.rqs l]/\Qfh l:=by
 refine(Qhq (α:=RQ) (f:=PV.rq) (G:=fun q=>Raw 1048576 q.n q.a q.d) Qct Tryz.underlying22 (by rw[Qx6];omega) (Q08.mono ?_)).mono ?_
 ·rintro ps ⟨n,a,d,rfl,h⟩
  exact⟨⟨n,a,d⟩,rfl,h⟩
 ·rintro ps ⟨l,rfl,h1,h2⟩
  exact⟨l,by rw[Qx6],h1,h2⟩
variable {w : World} {base : Nat} {spare : Nat -> Bool} {held : Bool} {r : Reach} {b0 : Nat} {v : Value} {d : DataW H} {ps : List MemPlace}
theorem Qae5(Qdc:Value.okWide Tryz.prog w r b0 22 v)(hd:DataW.Trod enc Tryz.prog w base spare held 22 v d ps)(hn:Rows.uptoBulk d<=1048576):∃l,Qas w Qbt (PV.rqs l) v/\Qfh l:=by
 obtain⟨p,⟨l,e,h⟩,h2⟩:=Qxr Tryz.underlying22 Qdc Qak9 hd hn
 obtain rfl:p=PV.rqs l:=by simpa using e
 exact⟨l,h2,h⟩
theorem Qaah{f:FuncId}{fn:Func}{s:ChangeSpec}{ap fresh handsOn Qrl:Bool}{W:World}{args:Array Value}{ds gs:List (DataW H)}{before:List MemPlace}{pargs:List PV}
  (hW:DataW.Whole enc Tryz.prog fn.params.toList s.vars ap W args.toList ds gs before) (hvars:s.vars=[]) (hres:fn.resultTypes= #[4]) (hpar:(fn.params.toList.all fun t=>decide (t<Tryz.prog.types.size))=true)
  (hfn:s.fn H (ds++gs)={ results:=[.lit (.bool true)],args:=ds })
  (hF:Qd Tryz.prog f pargs (· = .bool true)) (hsize:args.size=pargs.length) (hrep:∀(i:Nat)(x:PV),pargs[i]? =some x->Qas W Qbt x (args.getD i undef)):
  Calls Tryz.prog f args W fun e W'=>∃v,e= .returned v/\s.post enc Tryz.prog fn ap fresh handsOn Qrl W args v W':=by
 simp only[List.all_eq_true,decide_eq_true_eq]at hpar
 exact Q0k hW hvars hres Tryz.underlying4 laid Qap0 (fun h1 h2=>Qap1 h1 h2) hpar hfn hF hsize hrep
theorem Qae6{w:World}{ps:List PV}{vs:List Value}(h:∀(i:Nat)(x:PV),ps[i]? =some x->∀v,vs[i]? =some v->Qas w Qbt x v)(hl:vs.length=ps.length):∀(i:Nat)(x:PV),ps[i]? =some x->Qas w Qbt x (vs.toArray.getD i undef):=by
 intro i x hx
 have hi:i<vs.length:=by rw[hl];exact(List.getElem?_eq_some_iff.1 hx).1
 have:=h i x hx vs[i] (List.getElem?_eq_getElem hi)
 simpa[Array.getD,hi]using this
end Go.Proofs.YtkoclfmjlolkhaaGreat
namespace Go.FW
open Go Go.ChangeShapes Go.WideShapes
section
variable {H : Type} {enc : TypeId × Value -> H} {P : Program} {Qct : DataW H -> Nat} {N : Nat} {w : World} {base : Nat} {spare : Nat -> Bool} {held : Bool}
end
end Go.FW
