/- Part 5 of the proof of SquaresQuadratics: AR, L0, FwTB. Own lemmas; no conditions. -/
import Derived.Test.YtkoclfmjlolkhaaGreatSquaresQuadraticsPart4
import Derived.Test.YtkoclfmjlolkhaaGreatRows
import Derived.WalkKit
import Derived.ProofKit
import Derived.OpenShut
import Derived.JoinedCond
set_option maxHeartbeats 1000000
set_option linter.unusedSimpArgs false
set_option linter.unusedVariables false
set_option linter.unnecessarySimpa false
set_option maxRecDepth 100000
namespace Go.Proofs.YtkoclfmjlolkhaaGreat
open Go Go.FW
def ny(l:List RQ):Prop:=l.length<=1048576/\∀q∈l,Raw 1048576 q.n q.a q.d
theorem TD{l:List RQ}(hl:ny l)(h:l.all nE=true):PV.rm l=PV.bj (l.map eL):=by unfold PV.rm PV.bj;rw[KbH];congr 1;refine KaJ fun q hq=>?_;have hr:=hl.2 q hq;exact aoi hr.la hr.ld (Kax.1 h q hq)
theorem Sy{r c:Int}{l:List RQ}(hl:ny l)(h:ju r c l=true):∃(R m:Nat)(l':List Rat),r=R/\c=m/\R<=40/\m<=40/\l'=l.map eL/\l'.length=R*m/\PV.lj r c l=PV.a9 R m l':=by
 unfold ju at h;rw[KaC,decide_eq_true_eq]at h;obtain⟨⟨h1,h2,h3,h4,h5⟩,h6⟩:=h;obtain⟨R,rfl⟩:=KbV h1;obtain⟨m,rfl⟩:=KbV h3;refine⟨R,m,l.map eL,rfl,rfl,by omega,by omega,rfl,?_,?_⟩
 ·rw[Kal];rw[<-Int.natCast_mul]at h5;omega
 ·unfold PV.lj PV.a9;rw[TD hl h6]
open Go Go.FW Go.ChangeShapes Go.WideShapes Go.ChangeAt Go.RowKit
theorem Pw{H:Type}{d:DataW H}{l:List (DataW H)}(h:d∈l):Rows.uptoBulk d<=Rows.uptoBulkAll l:=by
 induction l with
 |nil=>cases h
 |cons x r ih=>
  simp only[Rows.uptoBulkAll];cases KaG.1 h with
  |inl e=>subst e;omega
  |inr e=>have:=ih e;omega
theorem ag7{H:Type}(d:DataW H):1<=Rows.uptoBulk d:=by
 cases d with
 |lit l=>cases l<;>simp[Rows.uptoBulk]
 |nil=>simp[Rows.uptoBulk]
 |ptr d=>simp[Rows.uptoBulk]
 |slice elems spare=>simp[Rows.uptoBulk]
 |agg parts=>simp[Rows.uptoBulk]
 |iface t d=>simp[Rows.uptoBulk]
 |map entries=>simp[Rows.uptoBulk]
 |held h=>simp[Rows.uptoBulk]
theorem Q95{H:Type}(l:List (DataW H)):l.length<=Rows.uptoBulkAll l:=by
 induction l with
 |nil=>simp[Rows.uptoBulkAll]
 |cons x r ih=>have:=ag7 x;simp only[Rows.uptoBulkAll,KaT];omega
theorem fq{H:Type}:Jm (H:=H) Rows.uptoBulk:=by
 refine⟨fun elems spare=>?_,fun elems spare d hd=>?_,fun parts d hd=>?_⟩
 ·have:=Q95 elems;simp only[Rows.uptoBulk];omega
 ·have:=Pw hd;simp only[Rows.uptoBulk];omega
 ·have:=Pw hd;simp only[Rows.uptoBulk];omega
theorem ag8{H:Type}{l:List (DataW H)}(hk:Rows.uptoSmall H l=true):Rows.uptoBulkAll l<=1048576:=of_decide_eq_true hk
theorem own:ownKnob Tryz.prog.godebug=none:=by kernel_rfl
theorem laid:laidOutB Tryz.prog=true:=by kernel_rfl
theorem am0:mapsRowed Tryz.prog=true:=by kernel_rfl
def TE(P:Program):Bool:=(List.range P.types.size).all fun t=>match P.underlying t with|some (.slice e)=>decide (0<P.cellsOf e)|_=>true
theorem abU:TE Tryz.prog=true:=by kernel_rfl
theorem am1{t e:TypeId}(ht:t<Tryz.prog.types.size)(he:Tryz.prog.underlying t=some (.slice e)):0<Tryz.prog.cellsOf e:=by have h:=abU;simp only[TE,Kax]at h;have:=h t (Kbo.2 ht);rw[he]at this;exact of_decide_eq_true this
variable {H : Type} {enc : TypeId × Value -> H}
abbrev Rd(enc:TypeId×Value->H):=ox enc Tryz.prog Rows.uptoBulk 1048576
theorem Px:Tryz.prog.cellsOf 155=1:=by kernel_rfl
theorem LQ:Tryz.prog.cellsOf 3=1:=by kernel_rfl
theorem Wu:Tryz.prog.cellsOf 95=4:=by kernel_rfl
theorem TF:Rd enc 47 fun ps=>∃l:List Nat,ps=[PV.nat l]/\l.length<=1048576/\Qk l:=by refine(KS (α:=Nat) (f:=fun(x:Nat)=>.int .u16 x) (G:=fun x=>x<65536) fq Tryz.underlying47 (by rw[Px];omega) (aeq Tryz.underlying155)).mono ?_;rintro ps ⟨l,rfl,h1,h2⟩;exact⟨l,by rw[Px],h1,h2⟩
theorem ajB:Rd enc 93 fun ps=>∃l:List Int,ps=[PV.mono l]/\l.length<=1048576/\∀x∈l,-9223372036854775808<=x/\x<=9223372036854775807:=by refine(KS (α:=Int) (f:=fun(x:Int)=>.int .i64 x) fq Tryz.underlying93 (by rw[LQ];omega) (aer Tryz.underlying3)).mono ?_;rintro ps ⟨l,rfl,h1,h2⟩;exact⟨l,by rw[LQ],h1,h2⟩
theorem am2:Rd enc 49 fun ps=>∃(n:Bool)(a:List Nat),ps=[.bool n,PV.nat a]/\a.length<=1048576/\Qk a:=by refine(KA fq Tryz.underlying49 rfl (by kernel_rfl) (by kernel_rfl) (adi Tryz.underlying4) TF).mono ?_;rintro ps ⟨p,q,rfl,⟨n,rfl⟩,a,rfl,h⟩;exact⟨n,a,rfl,h⟩
theorem am3:Rd enc 51 fun ps=>∃(n:Bool)(a d:List Nat),ps=[.bool n,PV.nat a,PV.nat d]/\Raw 1048576 n a d:=by refine(KA fq Tryz.underlying51 rfl (by kernel_rfl) (by kernel_rfl) am2 TF).mono ?_;rintro ps ⟨p,q,rfl,⟨n,a,rfl,h1,h2⟩,d,rfl,h3,h4⟩;exact⟨n,a,d,rfl,h2,h4,h1,h3,by omega⟩
instance : Inhabited aP := ⟨⟨false, [], [], []⟩⟩
def Kn(l:List aP):Prop:=l.length<=1048576/\∀t∈l,RB 1048576 t/\∀x∈t.m,-9223372036854775808<=x/\x<=9223372036854775807
theorem ajC:Rd enc 95 fun ps=>∃t:aP,ps=(PV.r8 t).cells/\(RB 1048576 t/\∀x∈t.m,-9223372036854775808<=x/\x<=9223372036854775807):=by refine(KA fq Tryz.underlying95 rfl (by kernel_rfl) (by kernel_rfl) am3 ajB).mono ?_;rintro ps ⟨p,q,rfl,⟨n,a,d,rfl,h⟩,m,rfl,h3,h4⟩;exact⟨⟨n,a,d,m⟩,rfl,⟨⟨h.la,h.ld,h.sa,h.sd⟩,by show m.length<2^40;omega⟩,h4⟩
theorem ajD:Rd enc 37 fun ps=>∃l:List aP,ps=[PV.jI l]/\Kn l:=by refine(KS (f:=PV.r8) fq Tryz.underlying37 (by rw[Wu];omega) ajC).mono ?_;rintro ps ⟨l,rfl,h1,h2⟩;exact⟨l,by rw[Wu],h1,h2⟩
variable {w : World} {base : Nat} {spare : Nat -> Bool} {held : Bool} {r : Reach} {b0 : Nat} {v : Value} {d : DataW H} {ps : List MemPlace}
theorem ag9(gH:Value.okWide Tryz.prog w r b0 37 v)(hd:DataW.Trod enc Tryz.prog w base spare held 37 v d ps)(hn:Rows.uptoBulk d<=1048576):∃l,bT w eP (PV.jI l) v/\Kn l:=by
 obtain⟨p,⟨l,e,h⟩,h2⟩:=aes Tryz.underlying37 gH ajD hd hn;obtain rfl:p=PV.jI l:=by simpa using e
 exact⟨l,h2,h⟩
theorem afb{f:FuncId}{fn:Func}{s:ChangeSpec}{ap fresh handsOn Bj:Bool}{W:World}{args:Array Value}{ds gs:List (DataW H)}{before:List MemPlace}{bx:List PV}
  (hW:DataW.Whole enc Tryz.prog fn.params.toList s.vars ap W args.toList ds gs before) (Fe:s.vars=[]) (gP:fn.resultTypes= #[4]) (IP:(fn.params.toList.all fun t=>decide (t<Tryz.prog.types.size))=true)
  (ED:s.fn H (ds++gs)={ results:=[.lit (.bool true)],args:=ds })
  (hF:Qd Tryz.prog f bx (· = .bool true)) (NP:args.size=bx.length) (iF:∀(i:Nat)(x:PV),bx[i]? =some x->bT W eP x (args.getD i undef)):
  Calls Tryz.prog f args W fun e W'=>∃v,e= .returned v/\s.post enc Tryz.prog fn ap fresh handsOn Bj W args v W':=by
 simp only[Kax,decide_eq_true_eq]at IP;exact Q65 hW Fe gP Tryz.underlying4 laid am0 (fun h1 h2=>am1 h1 h2) IP ED hF NP iF
theorem aha{w:World}{ps:List PV}{vs:List Value}(h:∀(i:Nat)(x:PV),ps[i]? =some x->∀v,vs[i]? =some v->bT w eP x v)(hl:vs.length=ps.length):∀(i:Nat)(x:PV),ps[i]? =some x->bT w eP x (vs.toArray.getD i undef):=by
 intro i x hx;have hi:i<vs.length:=by rw[hl];exact(Kaf.1 hx).1
 have:=h i x hx vs[i] (Kag hi);simpa[Array.getD,hi]using this
end Go.Proofs.YtkoclfmjlolkhaaGreat
namespace Go.FW
open Go Go.ChangeShapes Go.WideShapes
section
variable {H : Type} {enc : TypeId × Value -> H} {P : Program} {fq : DataW H -> Nat} {N : Nat} {w : World} {base : Nat} {spare : Nat -> Bool} {held : Bool}
end
end Go.FW
