/- Part 5 of the proof of InequalityPolys: AR, L0, FwTB, FwTC. Own lemmas; no conditions. -/
import Derived.Test.YtikalonaompbdaaGreatInequalityPolysPart4
import Derived.Test.YtikalonaompbdaaGreatRows
import Derived.WalkKit
import Derived.ProofKit
import Derived.OpenShut
import Derived.JoinedCond
set_option maxHeartbeats 1000000
set_option linter.all false
set_option maxRecDepth 100000
namespace Go.Proofs.YtikalonaompbdaaGreat
open Go Go.FW
variable{l:List RQ}
def yZ(l:List RQ):Prop:=l.length<=1048576/\∀q∈l,Raw 1048576 q.n q.a q.d
def TR(hl:yZ l)(h:l.all vL=true):PV.Ab l=PV.cg (l.map lf):=by
 unfold PV.Ab PV.cg;rw[KbT];congr 1;refine KaF λq hq=>?_
 have hr:=hl.2 q hq;exact yU hr.la hr.ld (Kas.1 h q hq)
def amG{r c:Int}(hl:yZ l)(h:og r c l=true):∃(R m:Nat)(l':List Rat),r=R/\c=m/\R<=40/\m<=40/\l'=l.map lf/\l'.length=R*m/\PV.uW r c l=PV.dU R m l':=by
 unfold og at h;rw[Kav,decide_eq_true_eq]at h;obtain⟨⟨h1,h2,h3,h4,h5⟩,h6⟩:=h;obtain⟨R,rfl⟩:=Kb8 h1;obtain⟨m,rfl⟩:=Kb8 h3;refine⟨R,m,l.map lf,rfl,rfl,Oz,Oz,rfl,?_,?_⟩
 .rw[KaC];rw[<-Int.natCast_mul]at h5;omega
 .unfold PV.uW PV.dU;rw[TR hl h6]
open Go Go.FW Go.ChangeShapes Go.WideShapes Go.ChangeAt Go.RowKit
variable{f:FuncId}{fn:Func}
def P4{H:Type}{d:DataW H}{l:List (DataW H)}(h:d∈l):Rows.uptoBulk d<=Rows.uptoBulkAll l:=by
 induction l with
 |nil=>cases h
 |cons x r ih=>
  simp only[Rows.uptoBulkAll];cases KaA.1 h with
  |inl e=>subst e;omega
  |inr e=>have:=ih e;omega
def ajT{H:Type}(d:DataW H):1<=Rows.uptoBulk d:=by
 cases d with
 |lit l=>cases l<;>simp[Rows.uptoBulk]
 |nil=>simp[Rows.uptoBulk]
 |ptr d=>simp[Rows.uptoBulk]
 |slice elems spare=>simp[Rows.uptoBulk]
 |agg parts=>simp[Rows.uptoBulk]
 |iface t d=>simp[Rows.uptoBulk]
 |map entries=>simp[Rows.uptoBulk]
 |held h=>simp[Rows.uptoBulk]
def Q8v{H:Type}(l:List (DataW H)):l.length<=Rows.uptoBulkAll l:=by
 induction l with
 |nil=>simp[Rows.uptoBulkAll]
 |cons x r ih=>have:=ajT x;simp only[Rows.uptoBulkAll,KaX];omega
def cV{H:Type}:Fz (H:=H) Rows.uptoBulk:=by
 refine⟨λelems spare=>?_,λelems spare d hd=>?_,λparts d hd=>?_⟩
 .have:=Q8v elems;simp only[Rows.uptoBulk];omega
 .have:=P4 hd;simp only[Rows.uptoBulk];omega
 .have:=P4 hd;simp only[Rows.uptoBulk];omega
def ajU{H:Type}{l:List (DataW H)}(hk:Rows.uptoSmall H l=true):Rows.uptoBulkAll l<=1048576:=of_decide_eq_true hk
def own:ownKnob Tryz.prog.godebug=none:=by kernel_rfl
def laid:laidOutB Tryz.prog=true:=by kernel_rfl
def aqs:mapsRowed Tryz.prog=true:=by kernel_rfl
def TS(P:Program):Bool:=(List.range P.types.size).all λt=>match P.underlying t with|some (.slice e)=>decide (0<P.cellsOf e)|_=>true
def aeG:TS Tryz.prog=true:=by kernel_rfl
def aqt{t e:TypeId}(ht:t<Tryz.prog.types.size)(he:Tryz.prog.underlying t=some (.slice e)):0<Tryz.prog.cellsOf e:=by have h:=aeG;simp only[TS,Kas]at h;have:=h t (KbY.2 ht);rw[he]at this;exact of_decide_eq_true this
variable {H : Type} {enc : TypeId × Value -> H}
abbrev Rd(enc:TypeId×Value->H):=lT enc Tryz.prog Rows.uptoBulk 1048576
def P5:Tryz.prog.cellsOf 159=1:=by kernel_rfl
def CG:Tryz.prog.cellsOf 3=1:=by kernel_rfl
def TT:Rd enc 45 λps=>∃l:List Nat,ps=[PV.nat l]/\l.length<=1048576/\Qk l:=by refine(yz (α:=Nat) (f:=λ(x:Nat)=>.int .u16 x) (G:=λx=>x<65536) cV Tryz.underlying45 (by rw[P5];omega) (ahm Tryz.underlying159)).mono ?_;rintro ps ⟨l,rfl,h1,h2⟩;exact⟨l,by rw[P5],h1,h2⟩
def aqu:Rd enc 47 λps=>∃(n:Bool)(a:List Nat),ps=[.bool n,PV.nat a]/\a.length<=1048576/\Qk a:=by refine(F2 cV Tryz.underlying47 rfl (by kernel_rfl) (by kernel_rfl) (afK Tryz.underlying4) TT).mono ?_;rintro ps ⟨p,q,rfl,⟨n,rfl⟩,a,rfl,h⟩;exact⟨n,a,rfl,h⟩
def H3:Rd enc 49 λps=>∃(n:Bool)(a d:List Nat),ps=[.bool n,PV.nat a,PV.nat d]/\Raw 1048576 n a d:=by refine(F2 cV Tryz.underlying49 rfl (by kernel_rfl) (by kernel_rfl) aqu TT).mono ?_;rintro ps ⟨p,q,rfl,⟨n,a,rfl,h1,h2⟩,d,rfl,h3,h4⟩;exact⟨n,a,d,rfl,h2,h4,h1,h3,Oz⟩
instance : Inhabited bO := ⟨⟨false, [], [], []⟩⟩
variable {w : World} {base : Nat} {spare : Nat -> Bool} {held : Bool} {r : Reach} {b0 : Nat} {v : Value} {d : DataW H} {ps : List MemPlace}
def ahF{s:ChangeSpec}{ap fresh handsOn Bf:Bool}{W:World}{args:Array Value}{ds gs:List (DataW H)}{before:List MemPlace}{aQ:List PV}
  (hW:DataW.Whole enc Tryz.prog fn.params.toList s.vars ap W args.toList ds gs before) (Fb:s.vars=[]) (gH:fn.resultTypes= #[4]) (I8:(fn.params.toList.all λt=>decide (t<Tryz.prog.types.size))=true)
  (EC:s.fn H (ds++gs)={ results:=[.lit (.bool true)],args:=ds })
  (hF:AC f aQ (· = .bool true)) (Oy:args.size=aQ.length) (iK:∀(i:Nat)(x:PV),aQ[i]? =some x->bS W di x (args.getD i undef)):
  Calls Tryz.prog f args W λe W'=>∃v,e= .returned v/\s.post enc Tryz.prog fn ap fresh handsOn Bf W args v W':=by
 simp only[Kas,decide_eq_true_eq]at I8;exact Q5u hW Fb gH Tryz.underlying4 laid aqs (λh1 h2=>aqt h1 h2) I8 EC hF Oy iK
def ajV{w:World}{ps:List PV}{vs:List Value}(h:∀(i:Nat)(x:PV),ps[i]? =some x->∀v,vs[i]? =some v->bS w di x v)(hl:vs.length=ps.length):∀(i:Nat)(x:PV),ps[i]? =some x->bS w di x (vs.toArray.getD i undef):=by
 intro i x hx;have hi:i<vs.length:=by rw[hl];exact(Kah.1 hx).1
 have:=h i x hx vs[i] (Kae hi);simpa[Array.getD,hi]using this
end Go.Proofs.YtikalonaompbdaaGreat
namespace Go.FW
open Go Go.ChangeShapes Go.WideShapes
variable{fs:Array Field}
section
variable {H : Type} {enc : TypeId × Value -> H} {P : Program} {cV : DataW H -> Nat} {N : Nat} {w : World} {base : Nat} {spare : Nat -> Bool} {held : Bool}
def MY(enc:TypeId×Value->H)(P:Program)(cV:DataW H->Nat)(N:Nat):Nat->List Field->List (List PV->Prop)->Prop
 |_,[],[]=>True
 |off,f::fs,Q::Qs=>f.offset=off/\lT enc P cV N f.type Q/\MY enc P cV N (off+P.cellsOf f.type) fs Qs
 |_,_,_=>False
def KL:List (List PV->Prop)->List PV->Prop
 | [],ps=>ps=[]
 |Q::Qs,ps=>∃p q,ps=p++q/\Q p/\KL Qs q
def AZ(P:Program)(fs:List Field):Nat:=(fs.map λf=>P.cellsOf f.type).sum
def TU{n:Nat}{cs:List Value}:∀ {fs:List Field} {Qs:List (List PV->Prop)} {off:Nat} {xs:List (DataW H×List MemPlace)},MY enc P cV N off fs Qs->xs.length=fs.length->off+AZ P fs<=cs.length->
  (∀(i:Nat)(f:Field),fs[i]? =some f->DataW.trod enc P w base spare held n f.type ((cs.drop f.offset).take (P.cellsOf f.type))=xs[i]?)->(∀x∈xs,cV x.1<=N)->
  ∃ps,KL Qs ps/\ps.length=AZ P fs/\∀(i:Nat)(v:PV),ps[i]? =some v->Qn w di v (cs.getD (off+i) undef)
 | [],[],off,xs,_,_,_,_,_=>⟨[],rfl,rfl,λi v h=>by simp at h⟩
 | [],_::_,off,xs,h,_,_,_,_=>h.elim
 |_::_,[],off,xs,h,_,_,_,_=>h.elim
 |f::fs,Q::Qs,off,[],_,hl,_,_,_=>by simp at hl
 | f::fs,Q::Qs,off,x::xs,⟨h0,hr,h1⟩,hl,hc,hf,hb=>by
  have xK:AZ P (f::fs)=P.cellsOf f.type+AZ P fs:=by simp[AZ]
  rw[xK]at hc⊢;have hx:=hf 0 f rfl;obtain⟨p,hp,cy,pK⟩:=hr _ _ _ _ _ _ _ hx (hb x (by simp));obtain⟨q,hq,pL,I9⟩:=TU (n:=n) (cs:=cs) (fs:=fs) (Qs:=Qs) (off:=off+P.cellsOf f.type) (xs:=xs) h1 (by simpa using hl) Oz (λi g hg=>by simpa using hf (i+1) g hg) (λy hy=>hb y (Kbx _ hy));rw[h0]at cy pK;simp only[Kay,Ka4]at cy;have lp:p.length=P.cellsOf f.type:=Oz;refine⟨p++q,⟨p,q,rfl,hp,hq⟩,by rw[Kaz];omega,λi v hv=>?_⟩;by_cases hi:i<p.length
  .rw[Kbw hi]at hv;have:=pK i v hv;rw[Kac,Kcj,if_pos Oz,Ka1]at this;rw[Kac];exact this
  .rw[Kbb Oz]at hv;have:=I9 _ v hv;rw[show off+P.cellsOf f.type+(i-p.length)=off+i by omega]at this;exact this
def Lr{t:TypeId}{Qs:List (List PV->Prop)}(hB:Fz cV)(ht:P.underlying t=some (.struct fs))(hc:P.cellsOf t=AZ P fs.toList)(hr:MY enc P cV N 0 fs.toList Qs):lT enc P cV N t (KL Qs):=by
 intro w base spare held fuel cs x hx hn;obtain⟨xs,n,_,rfl,hl,hlen,hf⟩:=DataW.trod_struct ht hx;obtain⟨ps,h1,h2,h3⟩:=TU (w:=w) (base:=base) (spare:=spare) (held:=held) (n:=n) (cs:=cs) (off:=0) (xs:=xs) hr (by simpa using hlen) Oz (λi f NX=>hf i f (by simpa using NX)) (λy hy=>KaK (hB.ag _ _ (KaD.2 ⟨y,hy,rfl⟩)) hn);refine⟨ps,h1,Oz,λi v hv=>?_⟩;have:=h3 i v hv
 rwa[Ka2]at this
end
end Go.FW
namespace Go.FW
open Go Go.ChangeShapes Go.WideShapes
variable{w:World}
section
variable {H : Type} {enc : TypeId × Value -> H} {P : Program} {cV : DataW H -> Nat} {N : Nat}
def ajW{base:Nat}{spare:Nat->Bool}{held:Bool}{fuel:Nat}{t:TypeId}{cs:List Value}{x:DataW H×List MemPlace}(ht:P.underlying t=some .string)(h:DataW.trod enc P w base spare held fuel t cs=some x):∃s:ByteArray,cs=[.string s]/\x=(.lit (.string s.data.toList),[]):=by
 cases fuel with
 |zero=>simp[DataW.trod]at h
 |succ n=>unfold DataW.trod at h;rw[ht]at h;split at h<;>simp_all
def Q6f{t:TypeId}(ht:P.underlying t=some .string)(hB:∀l,l.length<=cV (.lit (.string l))):lT enc P cV N t λps=>∃s:ByteArray,ps=[.str s]/\s.size<=N:=by intro w base spare held fuel cs x hx hn;obtain⟨s,rfl,rfl⟩:=ajW ht hx;exact⟨_,⟨s,rfl,KaK (hB _) hn⟩,rfl,C1 (.str s)⟩
end
end Go.FW
