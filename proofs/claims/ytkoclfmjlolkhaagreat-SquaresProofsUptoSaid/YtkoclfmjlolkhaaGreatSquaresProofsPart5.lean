/- Part 5 of the proof of SquaresProofs: AR, L0, FwTB. Own lemmas; no conditions. -/
import Derived.Test.YtkoclfmjlolkhaaGreatSquaresProofsPart4
import Derived.Test.YtkoclfmjlolkhaaGreatRows
import Derived.WalkKit
import Derived.ProofKit
import Derived.OpenShut
import Derived.JoinedCond
set_option maxHeartbeats 1000000
set_option linter.unusedSimpArgs false
set_option linter.unusedVariables false
set_option linter.unnecessarySimpa false
set_option maxRecDepth 100000
namespace Go.Proofs.YtkoclfmjlolkhaaGreat
open Go Go.FW
def nK(l:List RQ):Prop:=l.length<=1048576/\∀q∈l,Raw 1048576 q.n q.a q.d
theorem PY{l:List RQ}(hl:nK l)(h:l.all mQ=true):PV.rQ l=PV.bU (l.map iY):=by
 unfold PV.rQ PV.bU
 rw[KbE]
 congr 1
 refine KaL fun q hq=> ?_
 have hr:=hl.2 q hq
 exact QQ hr.la hr.ld (Kas.1 h q hq)
theorem afG{r c:Int}{l:List RQ}(hl:nK l)(h:iO r c l=true):∃(R m:Nat)(l':List Rat),r=R/\c=m/\R<=40/\m<=40/\l'=l.map iY/\l'.length=R*m/\PV.lF r c l=PV.bO R m l':=by
 unfold iO at h
 rw[Kar,decide_eq_true_eq]at h
 obtain⟨⟨h1,h2,h3,h4,h5⟩,h6⟩:=h
 obtain⟨R,rfl⟩:=KbQ h1
 obtain⟨m,rfl⟩:=KbQ h3
 refine⟨R,m,l.map iY,rfl,rfl,by omega,by omega,rfl,?_,?_⟩
 ·rw[Kap]
  rw[<-Int.natCast_mul]at h5
  omega
 ·unfold PV.lF PV.bO
  rw[PY hl h6]
open Go Go.FW Go.ChangeShapes Go.WideShapes Go.ChangeAt Go.RowKit
theorem MI{H:Type}{d:DataW H}{l:List (DataW H)}(h:d∈l):Rows.uptoBulk d<=Rows.uptoBulkAll l:=by
 induction l with
 |nil=>cases h
 |cons x r ih=>
  simp only[Rows.uptoBulkAll]
  cases KaG.1 h with
  |inl e=>subst e;omega
  |inr e=>have:=ih e;omega
theorem adS{H:Type}(d:DataW H):1<=Rows.uptoBulk d:=by
 cases d with
 |lit l=>cases l<;>simp[Rows.uptoBulk]
 |nil=>simp[Rows.uptoBulk]
 |ptr d=>simp[Rows.uptoBulk]
 |slice elems spare=>simp[Rows.uptoBulk]
 |agg parts=>simp[Rows.uptoBulk]
 |iface t d=>simp[Rows.uptoBulk]
 |map entries=>simp[Rows.uptoBulk]
 |held h=>simp[Rows.uptoBulk]
theorem XL{H:Type}(l:List (DataW H)):l.length<=Rows.uptoBulkAll l:=by
 induction l with
 |nil=>simp[Rows.uptoBulkAll]
 |cons x r ih=>have:=adS x;simp only[Rows.uptoBulkAll,KaP];omega
theorem dQ{H:Type}:He (H:=H) Rows.uptoBulk:=by
 refine⟨fun elems spare=> ?_,fun elems spare d hd=> ?_,fun parts d hd=> ?_⟩
 ·have:=XL elems
  simp only[Rows.uptoBulk];omega
 ·have:=MI hd
  simp only[Rows.uptoBulk];omega
 ·have:=MI hd
  simp only[Rows.uptoBulk];omega
theorem adT{H:Type}{l:List (DataW H)}(hk:Rows.uptoSmall H l=true):Rows.uptoBulkAll l<=1048576:=of_decide_eq_true hk
theorem own:ownKnob Tryz.prog.godebug=none:=by kernel_rfl
theorem laid:laidOutB Tryz.prog=true:=by kernel_rfl
theorem ajs:mapsRowed Tryz.prog=true:=by kernel_rfl
def PZ(P:Program):Bool:=(List.range P.types.size).all fun t=>match P.underlying t with|some (.slice e)=>decide (0<P.cellsOf e)|_=>true
theorem akG:PZ Tryz.prog=true:=by kernel_rfl
theorem ajt{t e:TypeId}(ht:t<Tryz.prog.types.size)(he:Tryz.prog.underlying t=some (.slice e)):0<Tryz.prog.cellsOf e:=by
 have h:=akG
 simp only[PZ,Kas]at h
 have:=h t (Kbz.2 ht)
 rw[he]at this
 exact of_decide_eq_true this
variable {H : Type} {enc : TypeId × Value -> H}
abbrev Rd(enc:TypeId×Value->H):=mL enc Tryz.prog Rows.uptoBulk 1048576
theorem MJ:Tryz.prog.cellsOf 155=1:=by kernel_rfl
theorem IK:Tryz.prog.cellsOf 3=1:=by kernel_rfl
theorem St:Tryz.prog.cellsOf 95=4:=by kernel_rfl
theorem P0:Rd enc 47 fun ps=>∃l:List Nat,ps=[PV.nat l]/\l.length<=1048576/\Qj l:=by
 refine(DM (α:=Nat) (f:=fun(x:Nat)=> .int .u16 x) (G:=fun x=>x<65536) dQ Tryz.underlying47 (by rw[MJ];omega) (abB Tryz.underlying155)).mono ?_
 rintro ps ⟨l,rfl,h1,h2⟩
 exact⟨l,by rw[MJ],h1,h2⟩
theorem afH:Rd enc 93 fun ps=>∃l:List Int,ps=[PV.mono l]/\l.length<=1048576/\∀x∈l,-9223372036854775808<=x/\x<=9223372036854775807:=by
 refine(DM (α:=Int) (f:=fun(x:Int)=> .int .i64 x) dQ Tryz.underlying93 (by rw[IK];omega) (abC Tryz.underlying3)).mono ?_
 rintro ps ⟨l,rfl,h1,h2⟩
 exact⟨l,by rw[IK],h1,h2⟩
theorem aju:Rd enc 49 fun ps=>∃(n:Bool)(a:List Nat),ps=[.bool n,PV.nat a]/\a.length<=1048576/\Qj a:=by
 refine(Dy dQ Tryz.underlying49 rfl (by kernel_rfl) (by kernel_rfl) (ZV Tryz.underlying4) P0).mono ?_
 rintro ps ⟨p,q,rfl,⟨n,rfl⟩,a,rfl,h⟩
 exact⟨n,a,rfl,h⟩
theorem P3:Rd enc 51 fun ps=>∃(n:Bool)(a d:List Nat),ps=[.bool n,PV.nat a,PV.nat d]/\Raw 1048576 n a d:=by
 refine(Dy dQ Tryz.underlying51 rfl (by kernel_rfl) (by kernel_rfl) aju P0).mono ?_
 rintro ps ⟨p,q,rfl,⟨n,a,rfl,h1,h2⟩,d,rfl,h3,h4⟩
 exact⟨n,a,d,rfl,h2,h4,h1,h3,by omega⟩
instance : Inhabited a9 := ⟨⟨false, [], [], []⟩⟩
def Dp(l:List a9):Prop:=l.length<=1048576/\∀t∈l,RB 1048576 t/\∀x∈t.m,-9223372036854775808<=x/\x<=9223372036854775807
theorem afI:Rd enc 95 fun ps=>∃t:a9,ps=(PV.qw t).cells/\(RB 1048576 t/\∀x∈t.m,-9223372036854775808<=x/\x<=9223372036854775807):=by
 refine(Dy dQ Tryz.underlying95 rfl (by kernel_rfl) (by kernel_rfl) P3 afH).mono ?_
 rintro ps ⟨p,q,rfl,⟨n,a,d,rfl,h⟩,m,rfl,h3,h4⟩
 exact⟨⟨n,a,d,m⟩,rfl,⟨⟨h.la,h.ld,h.sa,h.sd⟩,by show m.length<2^40;omega⟩,h4⟩
theorem O6:Rd enc 37 fun ps=>∃l:List a9,ps=[PV.lG l]/\Dp l:=by
 refine(DM (f:=PV.qw) dQ Tryz.underlying37 (by rw[St];omega) afI).mono ?_
 rintro ps ⟨l,rfl,h1,h2⟩
 exact⟨l,by rw[St],h1,h2⟩
variable {w : World} {base : Nat} {spare : Nat -> Bool} {held : Bool} {r : Reach} {b0 : Nat} {v : Value} {d : DataW H} {ps : List MemPlace}
theorem adU(eR:Value.okWide Tryz.prog w r b0 37 v)(hd:DataW.Trod enc Tryz.prog w base spare held 37 v d ps)(hn:Rows.uptoBulk d<=1048576):∃l,bI w dL (PV.lG l) v/\Dp l:=by
 obtain⟨p,⟨l,e,h⟩,h2⟩:=LZ Tryz.underlying37 eR O6 hd hn
 obtain rfl:p=PV.lG l:=by simpa using e
 exact⟨l,h2,h⟩
theorem abW{f:FuncId}{fn:Func}{s:ChangeSpec}{ap fresh handsOn zx:Bool}{W:World}{args:Array Value}{ds gs:List (DataW H)}{before:List MemPlace}{aZ:List PV}
  (hW:DataW.Whole enc Tryz.prog fn.params.toList s.vars ap W args.toList ds gs before) (CT:s.vars=[]) (gy:fn.resultTypes= #[4]) (GC:(fn.params.toList.all fun t=>decide (t<Tryz.prog.types.size))=true)
  (Cy:s.fn H (ds++gs)={ results:=[.lit (.bool true)],args:=ds })
  (hF:Qd Tryz.prog f aZ (· = .bool true)) (Li:args.size=aZ.length) (gw:∀(i:Nat)(x:PV),aZ[i]? =some x->bI W dL x (args.getD i undef)):
  Calls Tryz.prog f args W fun e W'=>∃v,e= .returned v/\s.post enc Tryz.prog fn ap fresh handsOn zx W args v W':=by
 simp only[Kas,decide_eq_true_eq]at GC
 exact WS hW CT gy Tryz.underlying4 laid ajs (fun h1 h2=>ajt h1 h2) GC Cy hF Li gw
theorem adV{w:World}{ps:List PV}{vs:List Value}(h:∀(i:Nat)(x:PV),ps[i]? =some x->∀v,vs[i]? =some v->bI w dL x v)(hl:vs.length=ps.length):∀(i:Nat)(x:PV),ps[i]? =some x->bI w dL x (vs.toArray.getD i undef):=by
 intro i x hx
 have hi:i<vs.length:=by rw[hl];exact(Kae.1 hx).1
 have:=h i x hx vs[i] (Kag hi)
 simpa[Array.getD,hi]using this
end Go.Proofs.YtkoclfmjlolkhaaGreat
namespace Go.FW
open Go Go.ChangeShapes Go.WideShapes
section
variable {H : Type} {enc : TypeId × Value -> H} {P : Program} {dQ : DataW H -> Nat} {N : Nat} {w : World} {base : Nat} {spare : Nat -> Bool} {held : Bool}
end
end Go.FW
