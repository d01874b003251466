/- DiscoverHolds holds, for arguments of bulk at most 1048576. -/
import Derived.Test.YtmkijkjaeljieaaGreatDiscoverHoldsPart15
set_option maxHeartbeats 1000000
set_option linter.unusedSimpArgs false
set_option linter.unusedVariables false
set_option linter.unnecessarySimpa false
set_option maxRecDepth 100000
namespace Go.Proofs.YtmkijkjaeljieaaGreat
open Go Go.FW Go.ChangeShapes Go.WideShapes Go.ChangeAt Go.RowKit
variable {H : Type} {enc : TypeId × Value -> H}
def DL(l:List Int):Prop:=l.length<=1048576/\∀x∈l,-9223372036854775808<=x/\x<=9223372036854775807
theorem RO:Rd enc 51 fun ps=>∃l:List Int,ps=[PV.mono l]/\DL l:=by refine(v7 (α:=Int) (f:=fun(x:Int)=>.int .i64 x) cC Tryz.underlying51 (by rw[Lr];omega) (Ls Tryz.underlying3)).mono ?_;rintro ps ⟨l,rfl,h1,h2⟩;exact⟨l,by rw[Lr],h1,h2⟩
instance : Inhabited Qq := ⟨⟨0, [], false, [], []⟩⟩
instance : Inhabited Q3 := ⟨⟨0, .empty, [], false, [], []⟩⟩
def Gq(f:Qq):Prop:=DL f.args/\Raw 1048576 f.n f.a f.d
theorem al8:Rd enc 59 fun ps=>∃f:Qq,ps=(PV.bI f).cells/\Gq f:=by refine(Cj (Qs:=[fun ps=>∃n:Int,ps=[.int .i64 n]/\ -9223372036854775808<=n/\n<=9223372036854775807,fun ps=>∃l:List Int,ps=[PV.mono l]/\DL l,fun ps=>∃(n:Bool)(a d:List Nat),ps=[.bool n,PV.nat a,PV.nat d]/\Raw 1048576 n a d]) cC Tryz.underlying59 (by kernel_rfl) ⟨rfl,Ls Tryz.underlying3,rfl,RO,rfl,DB,trivial⟩).mono ?_;rintro ps ⟨p,q,rfl,⟨k,rfl,h0⟩,p1,q1,rfl,⟨l,rfl,h1⟩,p2,q2,rfl,⟨n,a,d,rfl,h2⟩,rfl⟩;exact⟨⟨k,l,n,a,d⟩,rfl,h1,h2⟩
def DC(s:Q3):Prop:=s.name.size<=1048576/\DL s.args/\Raw 1048576 s.n s.a s.d
theorem aiJ{l:List UInt8}:l.length<=Rows.uptoBulk (H:=H) (.lit (.string l)):=by simp[Rows.uptoBulk]
theorem al9:Rd enc 96 fun ps=>∃s:Q3,ps=(PV.qq s).cells/\DC s:=by refine(Cj (Qs:=[fun ps=>∃n:Int,ps=[.int .i64 n]/\ -9223372036854775808<=n/\n<=9223372036854775807,fun ps=>∃s:ByteArray,ps=[.str s]/\s.size<=1048576,fun ps=>∃l:List Int,ps=[PV.mono l]/\DL l,fun ps=>∃(n:Bool)(a d:List Nat),ps=[.bool n,PV.nat a,PV.nat d]/\Raw 1048576 n a d]) cC Tryz.underlying96 (by kernel_rfl) ⟨rfl,Ls Tryz.underlying3,rfl,Q3s Tryz.underlying9 (fun l=>aiJ),rfl,RO,rfl,DB,trivial⟩).mono ?_;rintro ps ⟨p,q,rfl,⟨k,rfl,h0⟩,p3,q3,rfl,⟨s,rfl,h3⟩,p1,q1,rfl,⟨l,rfl,h1⟩,p2,q2,rfl,⟨n,a,d,rfl,h2⟩,rfl⟩;exact⟨⟨k,s,l,n,a,d⟩,rfl,h3,h1,h2⟩
theorem Vx:Tryz.prog.cellsOf 59=5:=by kernel_rfl
theorem Vy:Tryz.prog.cellsOf 96=6:=by kernel_rfl
def DD(G:List Qq):Prop:=G.length<=1048576/\∀g∈G,Gq g
def L9(S:List Q3)(G:List Qq):Prop:=(S.length<=1048576/\∀s∈S,DC s)/\DD G
theorem QG:Rd enc 23 fun ps=>∃G:List Qq,ps=[.sl 5 (G.map PV.bI)]/\DD G:=by refine(v7 (α:=Qq) (f:=PV.bI) (G:=Gq) cC Tryz.underlying23 (by rw[Vx];omega) al8).mono ?_;rintro ps ⟨l,rfl,h1,h2⟩;exact⟨l,by rw[Vx],h1,h2⟩
theorem aga:Rd enc 25 fun ps=>∃(S:List Q3)(G:List Qq),ps=(PV.df S G).cells/\L9 S G:=by
 refine(Cj (Qs:=[fun ps=>∃l:List Q3,ps=[.sl 6 (l.map PV.qq)]/\l.length<=1048576/\∀s∈l,DC s,fun ps=>∃G:List Qq,ps=[.sl 5 (G.map PV.bI)]/\DD G]) cC Tryz.underlying25 (by kernel_rfl) ⟨rfl,?_,rfl,QG,trivial⟩).mono ?_
 ·refine(v7 (α:=Q3) (f:=PV.qq) (G:=DC) cC Tryz.underlying22 (by rw[Vy];omega) al9).mono ?_;rintro ps ⟨l,rfl,h1,h2⟩;exact⟨l,by rw[Vy],h1,h2⟩
 rintro ps ⟨p,q,rfl,⟨S,rfl,h1⟩,p2,q2,rfl,⟨G,rfl,h2⟩,rfl⟩;exact⟨S,G,rfl,h1,h2⟩
variable {w : World} {base : Nat} {spare : Nat -> Bool} {held : Bool} {r : Reach} {b0 : Nat} {v : Value} {d : DataW H} {ps : List MemPlace}
theorem Q9d(dT:Value.okWide Tryz.prog w r b0 25 v)(hd:DataW.Trod enc Tryz.prog w base spare held 25 v d ps)(hn:Rows.uptoBulk d<=1048576):∃S G,Q8 w Q5 (PV.df S G) v/\L9 S G:=by obtain⟨p,⟨S,G,rfl,h⟩,h2⟩:=Q71 Tryz.underlying25 dT aga hd hn;exact⟨S,G,h2,h⟩
theorem SU{f:Qq}(h:Gq f):jD f:=⟨by have:=h.1.1;omega,h.2⟩
theorem aor{s:Q3}(h:DC s):lA s:=⟨by have:=h.1;omega,by have:=h.2.1.1;omega,h.2.2⟩
end Go.Proofs.YtmkijkjaeljieaaGreat
namespace Go.Proofs.YtmkijkjaeljieaaGreat
open Go Go.FW Go.ChangeShapes Go.WideShapes Go.ChangeAt Go.RowKit
variable {H : Type} {enc : TypeId × Value -> H}
instance : Inhabited RI := ⟨⟨[], [], []⟩⟩
def Gr(p:RP):Prop:=Raw 1048576 p.1.n p.1.a p.1.d/\Raw 1048576 p.2.n p.2.a p.2.d
theorem aiK:Rd enc 115 fun ps=>∃p:RP,ps=(PV.xM p).cells/\Gr p:=by refine(Cj (Qs:=[fun ps=>∃(n:Bool)(a d:List Nat),ps=[.bool n,PV.nat a,PV.nat d]/\Raw 1048576 n a d,fun ps=>∃(n:Bool)(a d:List Nat),ps=[.bool n,PV.nat a,PV.nat d]/\Raw 1048576 n a d]) cC Tryz.underlying115 (by kernel_rfl) ⟨rfl,DB,rfl,DB,trivial⟩).mono ?_;rintro ps ⟨p,q,rfl,⟨n,a,d,rfl,h1⟩,p2,q2,rfl,⟨m,b,c,rfl,h2⟩,rfl⟩;exact⟨(⟨n,a,d⟩,⟨m,b,c⟩),rfl,h1,h2⟩
theorem UD:Tryz.prog.cellsOf 115=6:=by kernel_rfl
theorem VA:Tryz.prog.cellsOf 4=1:=by kernel_rfl
theorem agb:Rd enc 48 fun ps=>∃l:List RP,ps=[.sl 6 (l.map PV.xM)]/\l.length<=1048576/\∀p∈l,Gr p:=by refine(v7 (α:=RP) (f:=PV.xM) (G:=Gr) cC Tryz.underlying48 (by rw[UD];omega) aiK).mono ?_;rintro ps ⟨l,rfl,h1,h2⟩;exact⟨l,by rw[UD],h1,h2⟩
theorem aiL:Rd enc 47 fun ps=>∃l:List Bool,ps=[.sl 1 (l.map PV.bool)]/\l.length<=1048576:=by
 refine(v7 (α:=Bool) (f:=PV.bool) (G:=fun _=>True) cC Tryz.underlying47 (by rw[VA];omega) ((Vl Tryz.underlying4).mono ?_)).mono ?_
 ·rintro ps ⟨b,rfl⟩;exact⟨b,rfl,trivial⟩
 rintro ps ⟨l,rfl,h1,h2⟩;exact⟨l,by rw[VA],h1⟩
theorem ama:Rd enc 50 fun ps=>∃x:RI,ps=(PV.ri x).cells/\wS 1048576 x:=by refine(Cj (Qs:=[fun ps=>∃l:List RQ,ps=[PV.JX l]/\To l,fun ps=>∃l:List Bool,ps=[.sl 1 (l.map PV.bool)]/\l.length<=1048576,fun ps=>∃l:List RP,ps=[.sl 6 (l.map PV.xM)]/\l.length<=1048576/\∀p∈l,Gr p]) cC Tryz.underlying50 (by kernel_rfl) ⟨rfl,al7,rfl,aiL,rfl,agb,trivial⟩).mono ?_;rintro ps ⟨p,q,rfl,⟨l,rfl,h1⟩,p2,q2,rfl,⟨b,rfl,h2⟩,p3,q3,rfl,⟨c,rfl,h3⟩,rfl⟩;exact⟨⟨l,b,c⟩,rfl,⟨h1.2,by have:=h1.1;show l.length<_;omega,by show b.length<_;omega,fun q hq=>h3.2 q hq,by have:=h3.1;show c.length<_;omega⟩⟩
theorem VB:Tryz.prog.cellsOf 50=3:=by kernel_rfl
def Kt(X:List RI):Prop:=X.length<=1048576/\∀x∈X,wS 1048576 x
theorem aiM:Rd enc 26 fun ps=>∃X:List RI,ps=[.sl 3 (X.map PV.ri)]/\Kt X:=by refine(v7 (α:=RI) (f:=PV.ri) (G:=wS 1048576) cC Tryz.underlying26 (by rw[VB];omega) ama).mono ?_;rintro ps ⟨l,rfl,h1,h2⟩;exact⟨l,by rw[VB],h1,h2⟩
variable {w : World} {base : Nat} {spare : Nat -> Bool} {held : Bool} {r : Reach} {b0 : Nat} {v : Value} {d : DataW H} {ps : List MemPlace}
theorem agc(dT:Value.okWide Tryz.prog w r b0 23 v)(hd:DataW.Trod enc Tryz.prog w base spare held 23 v d ps)(hn:Rows.uptoBulk d<=1048576):∃l:List Qq,Q8 w Q5 (.sl 5 (l.map PV.bI)) v/\DD l:=by
 obtain⟨p,⟨l,e,h⟩,h2⟩:=Ws Tryz.underlying23 dT QG hd hn;obtain rfl:p= .sl 5 (l.map PV.bI):=by simpa using e
 exact⟨l,h2,h⟩
theorem agd(dT:Value.okWide Tryz.prog w r b0 26 v)(hd:DataW.Trod enc Tryz.prog w base spare held 26 v d ps)(hn:Rows.uptoBulk d<=1048576):∃l:List RI,Q8 w Q5 (.sl 3 (l.map PV.ri)) v/\Kt l:=by
 obtain⟨p,⟨l,e,h⟩,h2⟩:=Ws Tryz.underlying26 dT aiM hd hn;obtain rfl:p= .sl 3 (l.map PV.ri):=by simpa using e
 exact⟨l,h2,h⟩
theorem aiN:rp:=fun s hs=>Q9c s hs
theorem Qs1{S:List Q3}{G:List Qq}{l:List Qq}{X:List RI}(h:L9 S G)(hl:DD l)(hX:Kt X):AC 3 [PV.df S G,.sl 5 (l.map PV.bI),.sl 3 (X.map PV.ri)] (· = .bool true):=
 Qr9 aiN (by have:=h.1.1;omega) (by have:=h.2.1;omega) (fun s hs=>aor (h.1.2 s hs)) (fun g hg=>SU (h.2.2 g hg)) (by have:=hl.1;omega) (by have:=hX.1;omega) (fun f hf=>SU (hl.2 f hf)) hX.2
end Go.Proofs.YtmkijkjaeljieaaGreat
namespace Go.Proofs.YtmkijkjaeljieaaGreat
open Go.Proofs.Tryz
open Go Go.FW Go.ChangeShapes Go.WideShapes Go.ChangeAt Go.RowKit
theorem Qn6(H:Type)(enc:TypeId×Value->H)(W:World)(base:Nat)(args:Array Value)(ds gs:List (DataW H))(before:List MemPlace)
  (dT:∀(j:Nat) t v,Tryz.f3.params[j]? =some t->args[j]? =some v->Value.okWide Tryz.prog W .any base t v)
  (hW:DataW.Whole enc Tryz.prog Tryz.f3.params.toList Rows.discoverHoldsSpec.vars false W args.toList ds gs before) (hk:Rows.uptoSmall H (ds++gs)=true):
  Calls Tryz.prog 3 args W fun e W'=>∃v,e= .returned v/\Rows.discoverHoldsSpec.post enc Tryz.prog Tryz.f3 false true false false W args v W':=by
 have Ep:=hW;obtain⟨p,q,Ef,hV,rfl,nO,NP⟩:=hW;have hA:DataW.TrodAll enc Tryz.prog W 0 (fun _=>true) true Tryz.f3.params.toList args.toList ds p:=Ef;rw[Tryz.params3]at hA dT;obtain⟨v0,vs0,e0,ds0,p0,q0,dk,rfl,rfl,h0,r0⟩:=trodAll_cons hA;obtain⟨v1,vs1,e1,ds1,p1,q1,rfl,rfl,rfl,h1,r1⟩:=trodAll_cons r0;obtain⟨v2,vs2,e2,ds2,p2,q2,rfl,rfl,rfl,h2,r2⟩:=trodAll_cons r1;obtain⟨rfl,rfl,rfl⟩:=trodAll_nil r2;obtain rfl:args= #[v0,v1,v2]:=by cases args;simp_all
 obtain⟨rfl,rfl⟩:=trodVars_none hV;have hb:=aic hk;simp only[Kak,Rows.uptoBulkAll]at hb;obtain⟨S0,G0,g0,b0⟩:=Q9d (dT 0 _ v0 rfl rfl) h0 Oz;obtain⟨a1,g1,b1⟩:=agc (dT 1 _ v1 rfl rfl) h1 Oz;obtain⟨a2,g2,b2⟩:=agd (dT 2 _ v2 rfl rfl) h2 Oz;exact af9 Ep rfl (by kernel_rfl) (by kernel_rfl) rfl (Qs1 b0 b1 b2) rfl
  (aiH (vs:=[v0,v1,v2]) (by
   intro i x hx v hv
   match i,hx,hv with
   |0,hx,hv=>simp at hx hv;subst hx hv;exact g0
   |1,hx,hv=>simp at hx hv;subst hx hv;exact g1
   |2,hx,hv=>simp at hx hv;subst hx hv;exact g2
   |i+3,hx,hv=>simp at hx) rfl)
theorem Qqn(os:Os)(started:os.Started)(H:Type)(enc:TypeId×Value->H)(F:Stop.Interp):
  ReturnsInHanded {} Tryz.checked os 3 .any ((Rows.OpenSpec.upto Rows.discoverHoldsSpec).pre6 enc Tryz.prog Tryz.f3 Rows.discoverHoldsUptoRow.domain false) (((Rows.OpenSpec.upto Rows.discoverHoldsSpec).at F).post enc Tryz.prog Tryz.f3 false true false false):=by
 refine returnsInHanded_of_cond (C:=Tryz.checked) (s:=Rows.OpenSpec.upto Rows.discoverHoldsSpec) (k:=Rows.uptoSmall) rfl own started (by kernel_rfl) func3
  (OpenSpec.witness (enc:=enc) (C:=Tryz.checked) (s:=Rows.OpenSpec.upto Rows.discoverHoldsSpec) (k:=Rows.uptoSmall) rfl false ⟨#[],#[.agg #[.slice none 0 0,.slice none 0 0],.slice none 0 0,.slice none 0 0],[]⟩ 8 (by kernel_rfl) (by kernel_rfl) (by kernel_rfl)
   (x:=([.agg [.nil,.nil],.nil,.nil],[],[])) (by kernel_rfl) rfl (by kernel_rfl)) ?_
 intro W base args ds gs before dT hW _ hk _;exact Qn6 H enc W base args ds gs before dT hW hk
theorem discoverHolds_proved:Rows.DiscoverHoldsUptoSaid:=
 OpenClaim.holds_of_cond 3 Tryz.f3 rfl rfl rfl rfl rfl rfl rfl ⟨rfl,rfl,rfl,rfl,rfl⟩ rfl rfl rfl rfl rfl (by kernel_rfl) func3 (by kernel_rfl)
  (of_decide_eq_true (by kernel_rfl)) (by unfold Func.isWrapper;first|(rw[if_pos (by decide+kernel)];kernel_rfl)|(rw[if_neg (by decide+kernel)];exact⟨rfl,rfl⟩))
  (fun os started H enc _ F=>Qqn os started H enc F)
end Go.Proofs.YtmkijkjaeljieaaGreat
