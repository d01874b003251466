/- Part 4 of the proof of IdealMultiplies: AR, L0, FwTB. Own lemmas; no conditions. -/
import Derived.Test.YtonfajmchebkeaaGreatIdealMultipliesPart3
import Derived.Test.YtonfajmchebkeaaGreatRows
import Derived.WalkKit
import Derived.ProofKit
import Derived.OpenShut
import Derived.JoinedCond
set_option linter.unusedSimpArgs false
set_option linter.unnecessarySimpa false
set_option linter.unusedVariables false
namespace Go.Proofs.YtonfajmchebkeaaGreat
open Go Go.FW
set_option linter.unusedSimpArgs false
set_option linter.unusedVariables false
set_option maxRecDepth 100000
end Go.Proofs.YtonfajmchebkeaaGreat
namespace Go.Proofs.YtonfajmchebkeaaGreat
open Go Go.FW Go.ChangeShapes Go.WideShapes Go.ChangeAt Go.RowKit
set_option linter.unusedSimpArgs false
set_option linter.unusedVariables false
set_option maxRecDepth 100000
theorem Qvz{H:Type}{d:DataW H}{l:List (DataW H)}(h:d∈l):Rows.uptoBulk d<=Rows.uptoBulkAll l:=by
 induction l with
 |nil=>cases h
 |cons x r ih=>
  simp only[Rows.uptoBulkAll]
  cases List.mem_cons.1 h with
  |inl e=>subst e;omega
  |inr e=>have:=ih e;omega
theorem Qaar{H:Type}(d:DataW H):1<=Rows.uptoBulk d:=by
 cases d with
 |lit l=>cases l<;>simp[Rows.uptoBulk]
 |nil=>simp[Rows.uptoBulk]
 |ptr d=>simp[Rows.uptoBulk]
 |slice elems spare=>simp[Rows.uptoBulk]
 |agg parts=>simp[Rows.uptoBulk]
 |iface t d=>simp[Rows.uptoBulk]
 |map entries=>simp[Rows.uptoBulk]
 |held h=>simp[Rows.uptoBulk]
theorem Qz6{H:Type}(l:List (DataW H)):l.length<=Rows.uptoBulkAll l:=by
 induction l with
 |nil=>simp[Rows.uptoBulkAll]
 |cons x r ih=>have:=Qaar x;simp only[Rows.uptoBulkAll,List.length_cons];omega
theorem Qcd{H:Type}:Q80 (H:=H) Rows.uptoBulk:=by
 refine⟨fun elems spare=> ?_,fun elems spare d hd=> ?_,fun parts d hd=> ?_⟩
 ·have:=Qz6 elems
  simp only[Rows.uptoBulk];omega
 ·have:=Qvz hd
  simp only[Rows.uptoBulk];omega
 ·have:=Qvz hd
  simp only[Rows.uptoBulk];omega
theorem Qaas{H:Type}{l:List (DataW H)}(hk:Rows.uptoSmall H l=true):Rows.uptoBulkAll l<=1048576:=of_decide_eq_true hk
theorem own:ownKnob Tryz.prog.godebug=none:=by kernel_rfl
theorem laid:laidOutB Tryz.prog=true:=by kernel_rfl
theorem Qajp:mapsRowed Tryz.prog=true:=by kernel_rfl
def Q6e(P:Program):Bool:=(List.range P.types.size).all fun t=>match P.underlying t with|some (.slice e)=>decide (0<P.cellsOf e)|_=>true
theorem Qal9:Q6e Tryz.prog=true:=by kernel_rfl
theorem Qajq{t e:TypeId}(ht:t<Tryz.prog.types.size)(he:Tryz.prog.underlying t=some (.slice e)):0<Tryz.prog.cellsOf e:=by
 have h:=Qal9
 simp only[Q6e,List.all_eq_true]at h
 have:=h t (List.mem_range.2 ht)
 rw[he]at this
 exact of_decide_eq_true this
variable {H : Type} {enc : TypeId × Value -> H}
abbrev Rd(enc:TypeId×Value->H):=Qfe enc Tryz.prog Rows.uptoBulk 1048576
theorem Qv0:Tryz.prog.cellsOf 191=1:=by kernel_rfl
theorem Qi1:Tryz.prog.cellsOf 3=1:=by kernel_rfl
theorem Qs4:Tryz.prog.cellsOf 127=4:=by kernel_rfl
theorem Q6f:Rd enc 28 fun ps=>∃l:List Nat,ps=[PV.nat l]/\l.length<=1048576/\Qh l:=by
 refine(Qgn (α:=Nat) (f:=fun(x:Nat)=> .int .u16 x) (G:=fun x=>x<65536) Qcd Tryz.underlying28 (by rw[Qv0];omega) (Q5x Tryz.underlying191)).mono ?_
 rintro ps ⟨l,rfl,h1,h2⟩
 exact⟨l,by rw[Qv0],h1,h2⟩
theorem Qafx:Rd enc 125 fun ps=>∃l:List Int,ps=[PV.mono l]/\l.length<=1048576/\∀x∈l,-9223372036854775808<=x/\x<=9223372036854775807:=by
 refine(Qgn (α:=Int) (f:=fun(x:Int)=> .int .i64 x) Qcd Tryz.underlying125 (by rw[Qi1];omega) (Qvm Tryz.underlying3)).mono ?_
 rintro ps ⟨l,rfl,h1,h2⟩
 exact⟨l,by rw[Qi1],h1,h2⟩
theorem Qajr:Rd enc 30 fun ps=>∃(n:Bool)(a:List Nat),ps=[.bool n,PV.nat a]/\a.length<=1048576/\Qh a:=by
 refine(Qjf Qcd Tryz.underlying30 rfl (by kernel_rfl) (by kernel_rfl) (Q2v Tryz.underlying4) Q6f).mono ?_
 rintro ps ⟨p,q,rfl,⟨n,rfl⟩,a,rfl,h⟩
 exact⟨n,a,rfl,h⟩
theorem Qajs:Rd enc 32 fun ps=>∃(n:Bool)(a d:List Nat),ps=[.bool n,PV.nat a,PV.nat d]/\Raw 1048576 n a d:=by
 refine(Qjf Qcd Tryz.underlying32 rfl (by kernel_rfl) (by kernel_rfl) Qajr Q6f).mono ?_
 rintro ps ⟨p,q,rfl,⟨n,a,rfl,h1,h2⟩,d,rfl,h3,h4⟩
 exact⟨n,a,d,rfl,h2,h4,h1,h3,by omega⟩
instance : Inhabited RTm := ⟨⟨false, [], [], []⟩⟩
def Qw1(l:List RTm):Prop:=l.length<=1048576/\∀t∈l,RB 1048576 t/\∀x∈t.m,-9223372036854775808<=x/\x<=9223372036854775807
theorem Qafy:Rd enc 127 fun ps=>∃t:RTm,ps=(PV.rterm t).cells/\(RB 1048576 t/\∀x∈t.m,-9223372036854775808<=x/\x<=9223372036854775807):=by
 refine(Qjf Qcd Tryz.underlying127 rfl (by kernel_rfl) (by kernel_rfl) Qajs Qafx).mono ?_
 rintro ps ⟨p,q,rfl,⟨n,a,d,rfl,h⟩,m,rfl,h3,h4⟩
 exact⟨⟨n,a,d,m⟩,rfl,⟨⟨h.la,h.ld,h.sa,h.sd⟩,by show m.length<2^40;omega⟩,h4⟩
theorem Qafz:Rd enc 51 fun ps=>∃l:List RTm,ps=[PV.rpoly l]/\Qw1 l:=by
 refine(Qgn (f:=PV.rterm) Qcd Tryz.underlying51 (by rw[Qs4];omega) Qafy).mono ?_
 rintro ps ⟨l,rfl,h1,h2⟩
 exact⟨l,by rw[Qs4],h1,h2⟩
def Qmg(ls:List (List RTm)):Prop:=ls.length<=1048576/\∀l∈ls,Qw1 l
theorem Qs5:Tryz.prog.cellsOf 51=1:=by kernel_rfl
theorem Qaat:Rd enc 46 fun ps=>∃ls:List (List RTm),ps=[.sl 1 (ls.map PV.rpoly)]/\Qmg ls:=by
 refine(Qgn (α:=List RTm) (f:=PV.rpoly) (G:=Qw1) Qcd Tryz.underlying46 (by rw[Qs5];omega) Qafz).mono ?_
 rintro ps ⟨l,rfl,h1,h2⟩
 exact⟨l,by rw[Qs5],h1,h2⟩
variable {w : World} {base : Nat} {spare : Nat -> Bool} {held : Bool} {r : Reach} {b0 : Nat} {v : Value} {d : DataW H} {ps : List MemPlace}
theorem Q6g(Qc3:Value.okWide Tryz.prog w r b0 46 v)(hd:DataW.Trod enc Tryz.prog w base spare held 46 v d ps)(hn:Rows.uptoBulk d<=1048576):∃ls:List (List RTm),Qai w Qbi (.sl 1 (ls.map PV.rpoly)) v/\Qmg ls:=by
 obtain⟨p,⟨l,e,h⟩,h2⟩:=Qvn Tryz.underlying46 Qc3 Qaat hd hn
 obtain rfl:p= .sl 1 (l.map PV.rpoly):=by simpa using e
 exact⟨l,h2,h⟩
theorem Q6h{f:FuncId}{fn:Func}{s:ChangeSpec}{ap fresh handsOn Qpo:Bool}{W:World}{args:Array Value}{ds gs:List (DataW H)}{before:List MemPlace}{pargs:List PV}
  (hW:DataW.Whole enc Tryz.prog fn.params.toList s.vars ap W args.toList ds gs before) (hvars:s.vars=[]) (hres:fn.resultTypes= #[4]) (hpar:(fn.params.toList.all fun t=>decide (t<Tryz.prog.types.size))=true)
  (hfn:s.fn H (ds++gs)={ results:=[.lit (.bool true)],args:=ds })
  (hF:Qe Tryz.prog f pargs (· = .bool true)) (hsize:args.size=pargs.length) (hrep:∀(i:Nat)(x:PV),pargs[i]? =some x->Qai W Qbi x (args.getD i undef)):
  Calls Tryz.prog f args W fun e W'=>∃v,e= .returned v/\s.post enc Tryz.prog fn ap fresh handsOn Qpo W args v W':=by
 simp only[List.all_eq_true,decide_eq_true_eq]at hpar
 exact Qyk hW hvars hres Tryz.underlying4 laid Qajp (fun h1 h2=>Qajq h1 h2) hpar hfn hF hsize hrep
theorem Qaau{w:World}{ps:List PV}{vs:List Value}(h:∀(i:Nat)(x:PV),ps[i]? =some x->∀v,vs[i]? =some v->Qai w Qbi x v)(hl:vs.length=ps.length):∀(i:Nat)(x:PV),ps[i]? =some x->Qai w Qbi x (vs.toArray.getD i undef):=by
 intro i x hx
 have hi:i<vs.length:=by rw[hl];exact(List.getElem?_eq_some_iff.1 hx).1
 have:=h i x hx vs[i] (List.getElem?_eq_getElem hi)
 simpa[Array.getD,hi]using this
end Go.Proofs.YtonfajmchebkeaaGreat
namespace Go.FW
open Go Go.ChangeShapes Go.WideShapes
section
variable {H : Type} {enc : TypeId × Value -> H} {P : Program} {Qcd : DataW H -> Nat} {N : Nat} {w : World} {base : Nat} {spare : Nat -> Bool} {held : Bool}
end
end Go.FW
