/- Part 12 of the proof of TriangularMakes: W9, AR, L0, W10, FwUI, FwUJ. Own lemmas; no conditions. -/
import Derived.Test.YtdjoomkeehihmaaGreatTriangularMakesPart11
import Derived.Test.YtdjoomkeehihmaaGreatRows
import Derived.WalkKit
import Derived.ProofKit
import Derived.OpenShut
import Derived.JoinedCond
set_option maxHeartbeats 1000000
set_option linter.unusedSimpArgs false
set_option linter.unusedVariables false
set_option linter.unnecessarySimpa false
set_option maxRecDepth 100000
namespace Go.Proofs.YtdjoomkeehihmaaGreat
open Go Go.FW
theorem adt(v:Nat):WE v=cJ v 1:=rfl
theorem Rg{v:Nat}(hv:v<64):Qc Tryz.prog 20 [.int .i64 v] (· =PV.aj (vr v)):=by
 have jT:(List.replicate (v+1) (0:Int)).set v 1=cJ v 1:=Hm v 1 rfl;have qN:v<(List.replicate (v+1) (0:Int)).length:=by simp
 have jB:=nK;have dZ:(cJ v 1).length=v+1:=by simp[cJ]
 have gR:=(Gj (p:=[]) (m:=cJ v 1) (K:=1) (E:=1) (k:=4) (PB.nil _ _) trivial (by simp[NZ]) (ir (q:=((1:Int):Rat)) (k:=4) (by rw[show((1:Int):Rat)=1 from rfl];omega)) (by omega) (Hz hv) (CL (by omega)) (by omega) (by omega) (by simp)).le (args':=[.aa,PV.rat ((1:Int):Rat),PV.mono (cJ v 1)]) ⟨trivial,Qw _,Qw _,trivial⟩;rw[gK]at gR;have e:ja [] ((1:Int):Rat) (cJ v 1)=vr v:=by rw[ja,qi,if_neg (by decide),vr,if_neg (by omega),KbM,adt];rfl
 rw[e]at gR;refine Qf Qj Tryz.func20 rfl aiM (by simp[JP]) fun C hP=>?_;simp only[JP,Zo,Zg,Zm,Zc,Zf,Zl,Zh,Zs,Zi,Zb,Zk,Zn,Zu,Zq,Zr,Zz];refine Sz0 ?_;refine dF (fun h=>by omega) (fun _=>?_);refine Sz0 ?_;refine Qb (fun h=>by omega) (fun _=>?_);refine Sz1 jT ?_;refine Qa hP (uH (x:=1) (by omega) (by omega)) rfl rfl rfl ?_;generalize((1:Int):Rat)=c at *
 refine Sz0 ?_;refine iE hP gR (by simp+decide (disch:=try exact E0) only[go_sem,dV,Kav,KaC,Kau,KaA,Kak];simp[Kae,dZ]) rfl ?_;refine Sz0 ?_;exact Qd rfl rfl
open Go Go.FW Go.ChangeShapes Go.WideShapes Go.ChangeAt Go.RowKit
theorem S'{H:Type}{d:DataW H}{l:List (DataW H)}(h:d∈l):Rows.uptoBulk d<=Rows.uptoBulkAll l:=by
 induction l with
 |nil=>cases h
 |cons x r ih=>
  simp only[Rows.uptoBulkAll];cases KaO.1 h with
  |inl e=>subst e;omega
  |inr e=>have:=ih e;omega
theorem ac9{H:Type}(d:DataW H):1<=Rows.uptoBulk d:=by
 cases d with
 |lit l=>cases l<;>simp[Rows.uptoBulk]
 |nil=>simp[Rows.uptoBulk]
 |ptr d=>simp[Rows.uptoBulk]
 |slice elems spare=>simp[Rows.uptoBulk]
 |agg parts=>simp[Rows.uptoBulk]
 |iface t d=>simp[Rows.uptoBulk]
 |map entries=>simp[Rows.uptoBulk]
 |held h=>simp[Rows.uptoBulk]
theorem Ya{H:Type}(l:List (DataW H)):l.length<=Rows.uptoBulkAll l:=by
 induction l with
 |nil=>simp[Rows.uptoBulkAll]
 |cons x r ih=>have:=ac9 x;simp only[Rows.uptoBulkAll,KaX];omega
theorem eA{H:Type}:Fl (H:=H) Rows.uptoBulk:=by
 refine⟨fun elems spare=>?_,fun elems spare d hd=>?_,fun parts d hd=>?_⟩
 ·have:=Ya elems;simp only[Rows.uptoBulk];omega
 ·have:=S' hd;simp only[Rows.uptoBulk];omega
 ·have:=S' hd;simp only[Rows.uptoBulk];omega
theorem ada{H:Type}{l:List (DataW H)}(hk:Rows.uptoSmall H l=true):Rows.uptoBulkAll l<=1048576:=of_decide_eq_true hk
theorem own:ownKnob Tryz.prog.godebug=none:=by kernel_rfl
theorem laid:laidOutB Tryz.prog=true:=by kernel_rfl
theorem aje:mapsRowed Tryz.prog=true:=by kernel_rfl
def PC(P:Program):Bool:=(List.range P.types.size).all fun t=>match P.underlying t with|some (.slice e)=>decide (0<P.cellsOf e)|_=>true
theorem akm:PC Tryz.prog=true:=by kernel_rfl
theorem ajf{t e:TypeId}(ht:t<Tryz.prog.types.size)(he:Tryz.prog.underlying t=some (.slice e)):0<Tryz.prog.cellsOf e:=by have h:=akm;simp only[PC,Kax]at h;have:=h t (Kco.2 ht);rw[he]at this;exact of_decide_eq_true this
variable {H : Type} {enc : TypeId × Value -> H}
abbrev Rd(enc:TypeId×Value->H):=lG enc Tryz.prog Rows.uptoBulk 1048576
theorem Ta:Tryz.prog.cellsOf 76=1:=by kernel_rfl
theorem GX:Tryz.prog.cellsOf 3=1:=by kernel_rfl
theorem SD:Tryz.prog.cellsOf 54=4:=by kernel_rfl
theorem PL:Rd enc 39 fun ps=>∃l:List Nat,ps=[PV.nat l]/\l.length<=1048576/\Qq l:=by refine(Cs (α:=Nat) (f:=fun(x:Nat)=>.int .u16 x) (G:=fun x=>x<65536) eA Tryz.underlying39 (by rw[Ta];omega) (aaA Tryz.underlying76)).mono ?_;rintro ps ⟨l,rfl,h1,h2⟩;exact⟨l,by rw[Ta],h1,h2⟩
theorem agu:Rd enc 52 fun ps=>∃l:List Int,ps=[PV.mono l]/\l.length<=1048576/\∀x∈l,-9223372036854775808<=x/\x<=9223372036854775807:=by refine(Cs (α:=Int) (f:=fun(x:Int)=>.int .i64 x) eA Tryz.underlying52 (by rw[GX];omega) (aaB Tryz.underlying3)).mono ?_;rintro ps ⟨l,rfl,h1,h2⟩;exact⟨l,by rw[GX],h1,h2⟩
theorem ajg:Rd enc 41 fun ps=>∃(n:Bool)(a:List Nat),ps=[.bool n,PV.nat a]/\a.length<=1048576/\Qq a:=by refine(FX eA Tryz.underlying41 rfl (by kernel_rfl) (by kernel_rfl) (YY Tryz.underlying4) PL).mono ?_;rintro ps ⟨p,q,rfl,⟨n,rfl⟩,a,rfl,h⟩;exact⟨n,a,rfl,h⟩
theorem ajh:Rd enc 43 fun ps=>∃(n:Bool)(a d:List Nat),ps=[.bool n,PV.nat a,PV.nat d]/\Raw 1048576 n a d:=by refine(FX eA Tryz.underlying43 rfl (by kernel_rfl) (by kernel_rfl) ajg PL).mono ?_;rintro ps ⟨p,q,rfl,⟨n,a,rfl,h1,h2⟩,d,rfl,h3,h4⟩;exact⟨n,a,d,rfl,h2,h4,h1,h3,by omega⟩
instance : Inhabited bc := ⟨⟨false, [], [], []⟩⟩
def FK(l:List bc):Prop:=l.length<=1048576/\∀t∈l,RB 1048576 t/\∀x∈t.m,-9223372036854775808<=x/\x<=9223372036854775807
theorem agv:Rd enc 54 fun ps=>∃t:bc,ps=(PV.pX t).cells/\(RB 1048576 t/\∀x∈t.m,-9223372036854775808<=x/\x<=9223372036854775807):=by refine(FX eA Tryz.underlying54 rfl (by kernel_rfl) (by kernel_rfl) ajh agu).mono ?_;rintro ps ⟨p,q,rfl,⟨n,a,d,rfl,h⟩,m,rfl,h3,h4⟩;exact⟨⟨n,a,d,m⟩,rfl,⟨⟨h.la,h.ld,h.sa,h.sd⟩,by show m.length<2^40;omega⟩,h4⟩
theorem agw:Rd enc 32 fun ps=>∃l:List bc,ps=[PV.kG l]/\FK l:=by refine(Cs (f:=PV.pX) eA Tryz.underlying32 (by rw[SD];omega) agv).mono ?_;rintro ps ⟨l,rfl,h1,h2⟩;exact⟨l,by rw[SD],h1,h2⟩
def PM(ls:List (List bc)):Prop:=ls.length<=1048576/\∀l∈ls,FK l
theorem SE:Tryz.prog.cellsOf 32=1:=by kernel_rfl
theorem adb:Rd enc 22 fun ps=>∃ls:List (List bc),ps=[.sl 1 (ls.map PV.kG)]/\PM ls:=by refine(Cs (α:=List bc) (f:=PV.kG) (G:=FK) eA Tryz.underlying22 (by rw[SE];omega) agw).mono ?_;rintro ps ⟨l,rfl,h1,h2⟩;exact⟨l,by rw[SE],h1,h2⟩
variable {w : World} {base : Nat} {spare : Nat -> Bool} {held : Bool} {r : Reach} {b0 : Nat} {v : Value} {d : DataW H} {ps : List MemPlace}
theorem abD(gN:Value.okWide Tryz.prog w r b0 22 v)(hd:DataW.Trod enc Tryz.prog w base spare held 22 v d ps)(hn:Rows.uptoBulk d<=1048576):∃ls:List (List bc),aY w bO (.sl 1 (ls.map PV.kG)) v/\PM ls:=by
 obtain⟨p,⟨l,e,h⟩,h2⟩:=aaC Tryz.underlying22 gN adb hd hn;obtain rfl:p= .sl 1 (l.map PV.kG):=by simpa using e
 exact⟨l,h2,h⟩
theorem abE{f:FuncId}{fn:Func}{s:ChangeSpec}{ap fresh handsOn xo:Bool}{W:World}{args:Array Value}{ds gs:List (DataW H)}{before:List MemPlace}{c8:List PV}
  (hW:DataW.Whole enc Tryz.prog fn.params.toList s.vars ap W args.toList ds gs before) (Bj:s.vars=[]) (dq:fn.resultTypes= #[4]) (EM:(fn.params.toList.all fun t=>decide (t<Tryz.prog.types.size))=true)
  (AL:s.fn H (ds++gs)={ results:=[.lit (.bool true)],args:=ds })
  (hF:Qc Tryz.prog f c8 (· = .bool true)) (Mp:args.size=c8.length) (cK:∀(i:Nat)(x:PV),c8[i]? =some x->aY W bO x (args.getD i undef)):
  Calls Tryz.prog f args W fun e W'=>∃v,e= .returned v/\s.post enc Tryz.prog fn ap fresh handsOn xo W args v W':=by
 simp only[Kax,decide_eq_true_eq]at EM;exact Xo hW Bj dq Tryz.underlying4 laid aje (fun h1 h2=>ajf h1 h2) EM AL hF Mp cK
theorem ade{w:World}{ps:List PV}{vs:List Value}(h:∀(i:Nat)(x:PV),ps[i]? =some x->∀v,vs[i]? =some v->aY w bO x v)(hl:vs.length=ps.length):∀(i:Nat)(x:PV),ps[i]? =some x->aY w bO x (vs.toArray.getD i undef):=by
 intro i x hx;have hi:i<vs.length:=by rw[hl];exact(Kad.1 hx).1
 have:=h i x hx vs[i] (Kam hi);simpa[Array.getD,hi]using this
end Go.Proofs.YtdjoomkeehihmaaGreat
namespace Go.Proofs.YtdjoomkeehihmaaGreat
open Go Go.FW
end Go.Proofs.YtdjoomkeehihmaaGreat
namespace Go.FW
open Go
def dJ(c:Rat):Rat:=if c<0 then -c else c
theorem qa(c:Rat):0<=dJ c:=by unfold dJ;grind
theorem adf(a b:Rat):dJ (a+b)<=dJ a+dJ b:=by unfold dJ;grind
theorem Dh(a b:Rat):dJ (a*b)=dJ a*dJ b:=by
 have pos:∀x:Rat,0<=x->dJ x=x:=fun x h=>by unfold dJ;grind
 have neg:∀x:Rat,x<=0->dJ x= -x:=fun x h=>by unfold dJ;grind
 rcases Decidable.em (0<=a)with ha|ha<;>rcases Decidable.em (0<=b)with hb|hb
 ·rw[pos _ (Kch ha hb),pos _ ha,pos _ hb]
 ·have h:=Kch ha (show 0<= -b by grind);rw[neg (a*b) (by grind),pos _ ha,neg b (by grind)];grind
 ·have h:=Kch (show 0<= -a by grind) hb;rw[neg (a*b) (by grind),neg a (by grind),pos _ hb];grind
 ·have h:=Kch (show 0<= -a by grind) (show 0<= -b by grind);rw[pos (a*b) (by grind),neg a (by grind),neg b (by grind)];grind
theorem wX(z:Int):dJ (z:Rat)=((z.natAbs:Nat):Rat):=by
 rw[<-Rat.intCast_natCast];unfold dJ;split
 ·rename_i h;have h':z<0:=by have:=(Rat.intCast_lt_intCast (a:=z) (b:=0)).1 (by simpa using h);exact this
  rw[<-Rat.intCast_neg];congr 1;omega
 ·rename_i h;have h':¬z<0:=fun hz=>h (by have:=(Rat.intCast_lt_intCast (a:=z) (b:=0)).2 hz;simpa using this);congr 1;omega
def jl(m:List Int):Nat:=(eN m 3).toNat*729+(eN m 2).toNat*81+(eN m 1).toNat*9+(eN m 0).toNat
theorem alj{a b:List Int}(ha:a.length<=4)(hb:b.length<=4):aR a b=dp a b 4:=(sX (by omega)).symm
theorem agx{a b:List Int}(ha:a.length<=4)(hb:b.length<=4)(h:aR a b<0):
  eN a 3<eN b 3∨(eN a 3=eN b 3/\(eN a 2<eN b 2∨(eN a 2=eN b 2/\(eN a 1<eN b 1∨(eN a 1=eN b 1/\eN a 0<eN b 0))))):=by
 rw[alj ha hb]at h;simp only[dp]at h;have z3:=uS (x:=eN a 3) (y:=eN b 3);have z2:=uS (x:=eN a 2) (y:=eN b 2);have z1:=uS (x:=eN a 1) (y:=eN b 1);have z0:=uS (x:=eN a 0) (y:=eN b 0);by_cases e3:eN a 3=eN b 3
 ·rw[if_pos e3]at h;refine .inr ⟨e3,?_⟩;by_cases e2:eN a 2=eN b 2
  ·rw[if_pos e2]at h;refine .inr ⟨e2,?_⟩;by_cases e1:eN a 1=eN b 1
   ·rw[if_pos e1]at h;refine .inr ⟨e1,?_⟩;by_cases e0:eN a 0=eN b 0
    ·rw[if_pos e0]at h;omega
    ·rw[if_neg e0]at h;exact z0.1 h
   ·rw[if_neg e1]at h;exact .inl (z1.1 h)
  ·rw[if_neg e2]at h;exact .inl (z2.1 h)
 ·rw[if_neg e3]at h;exact .inl (z3.1 h)
def nW(W:Rat):List Tm->Rat
 | []=>0
 |t::p=>dJ t.1*W^jl t.2+nW W p
theorem SF{W:Rat}(h:0<=W):∀n:Nat,0<=W^n
 |0=>by rw[Rat.pow_zero];decide
 |n+1=>by rw[Rat.pow_succ];exact Kch (SF h n) h
theorem SG{W:Rat}(h:1<=W):∀n:Nat,1<=W^n
 |0=>by rw[Rat.pow_zero];decide
 |n+1=>by rw[Rat.pow_succ];have h1:=SG h n;have:=Kbi h1 (show(0:Rat)<=W by grind);grind
theorem Rh{W:Rat}(h:0<=W)(c:Rat)(m:List Int):0<=dJ c*W^jl m:=Kch (qa c) (SF h _)
theorem Tb{W:Rat}(h:0<=W):∀p,0<=nW W p
 | []=>by simp only[nW];decide
 |t::p=>by have h1:=Rh h t.1 t.2;have h2:=Tb h p;simp only[nW];grind
def Pos(p:List Tm):Prop:=∀t∈p,∀i,0<=eN t.2 i
def iY(c:Rat):Prop:=∃z:Int,c=(z:Rat)
theorem iY.add{a b:Rat}:iY a->iY b->iY (a+b):=fun⟨x,hx⟩ ⟨y,hy⟩=>⟨x+y,by rw[hx,hy,Rat.intCast_add]⟩
theorem iY.mul{a b:Rat}:iY a->iY b->iY (a*b):=fun⟨x,hx⟩ ⟨y,hy⟩=>⟨x*y,by rw[hx,hy,Kbs]⟩
theorem iY.nat(n:Nat):iY (n:Rat):=⟨n,(KaW n).symm⟩
def IW(D F:Rat)(N:Nat)(p:List Tm):Prop:=∀t∈p,jl t.2<=N/\iY (t.1*(D*F^(N-jl t.2)))
theorem IW.cons{D F:Rat}{N:Nat}{t:Tm}{p:List Tm}:IW D F N (t::p)↔(jl t.2<=N/\iY (t.1*(D*F^(N-jl t.2))))/\IW D F N p:=by simp[IW]
theorem CG(p:List Tm):kP p=bb p (-1,[]):=by rw[kP,ch,if_neg (by decide)]
def c4(m:List Int):Nat:=(((eN m 3).toNat*81+(eN m 2).toNat)*729+(eN m 1).toNat)*6561+(eN m 0).toNat
theorem akn{a b:List Int}(ha:∀i,0<=eN a i)(hb:∀i,0<=eN b i)(la:a.length<=4)(lb:b.length<=4)(pa:jl a<=6560)(pb:jl b<=6560)(h:aR a b<0):c4 a<c4 b:=by have a0:=ha 0;have a1:=ha 1;have a2:=ha 2;have a3:=ha 3;have b0:=hb 0;have b1:=hb 1;have b2:=hb 2;have b3:=hb 3;have:=agx la lb h;simp only[jl]at pa pb;simp only[c4,Zo,Zg,Zm,Zc,Zf,Zl,Zh,Zs,Zi,Zb,Zk,Zn,Zu,Zq,Zr,Zz];omega
theorem ako{a:List Int}(pa:jl a<=6560):c4 a<2^32:=by simp only[jl]at pa;simp only[c4,Zo,Zg,Zm,Zc,Zf,Zl,Zh,Zs,Zi,Zb,Zk,Zn,Zu,Zq,Zr,Zz];omega
structure BI(D F W N0:Rat)(p:List Tm):Prop where
 i:IW D F 6560 p
 n:nW W p<=N0
 pos:Pos p
 ml:ML 4 p
 og:aC p
theorem ZP{p:List Tm}:(∀t∈p,jl t.2<=6560)->Pos p->ML 4 p->eR p->p≠[]->p.length<=c4 (oF p).2+1:=by
 induction p with
 |nil=>intro _ _ _ _ h;exact absurd rfl h
 | cons t p ih=>
  intro hp hP hM hs _;cases p with
  |nil=>simp
  |cons s p=>have h1:=ih (fun x hx=>hp x (by simp[hx])) (fun x hx=>hP x (by simp[hx])) (fun x hx=>hM x (by simp[hx])) hs.2 (by simp);have h2:=hs.1 s (by simp);have h3:=uO t.2 s.2;have h4:=akn (hP s (by simp)) (hP t (by simp)) (hM s (by simp)) (hM t (by simp)) (hp s (by simp)) (hp t (by simp)) (by omega);simp only[oF,List.headD_cons,KaX]at h1⊢;omega
theorem BI.len{D F W N0:Rat}{p:List Tm}(h:BI D F W N0 p):p.length<=2^32:=by
 by_cases h0:p=[]
 ·subst h0;simp
 ·have h1:=ZP (fun t ht=>(h.i t ht).1) h.pos h.ml h.og.s h0;have:=ako (h.i _ (H4 h0)).1;omega
theorem PN{W:Rat}(h:1<=W):∀ {p:List Tm} {t:Tm},t∈p->dJ t.1<=nW W p
 | s::p,t,ht=>by
  have h0:(0:Rat)<=W:=by grind
  have h1:=Tb h0 p;have h2:=Rh h0 s.1 s.2;simp only[nW];rcases KaO.1 ht with rfl|ht
  ·have h3:=Kbr (SG h (jl t.2)) (qa t.1);grind
  ·have:=PN h ht;grind
theorem BI.PB{d f w n0 L:Nat}{p:List Tm}(h:BI d f w n0 p)(hd:0<d)(hf:0<f)(hw:0<w)(lV:0<n0)(hL:nl (n0*(d*f^6560))<L):PB L 6560 p:=by
 intro t ht;obtain⟨h1,z,hz⟩:=h.i t ht;have hw1:(1:Rat)<=(w:Rat):=by rw[<-Rat.intCast_natCast,show(1:Rat)=((1:Int):Rat)from rfl,Kb2];omega
 have hN:dJ t.1<=(n0:Rat):=by have:=PN hw1 ht;have:=h.n;grind
 have hX:(d:Rat)*(f:Rat)^(6560-jl t.2)=((d*f^(6560-jl t.2):Nat):Rat):=by rw[Kb9,Rat.natCast_pow]
 have tU:∀N k:Nat,k<=N->d*f^k<=d*f^N:=fun N k h=>Ka7 _ (KbC hf h);have UA:=tU 6560 (6560-jl t.2) (Nat.sub_le _ _);have Em:0<d*f^(6560-jl t.2):=Kce hd (KbN hf);rw[hX]at hz;generalize d*f^(6560-jl t.2)=X at *
 generalize d*f^6560=Y at *
 have LB:((X:Int):Rat)≠0:=by rw[Ne,Ka6];omega
 have e:t.1=(z:Rat)/((X:Int):Rat):=by rw[<-hz,KaW];rw[KaW]at LB;grind
 have EZ:z.natAbs<=n0*Y:=by
  have h2:dJ (z:Rat)=dJ t.1*(X:Rat):=by rw[<-hz,Dh];congr 1;rw[<-Rat.intCast_natCast,wX,KaD,KaW]
  rw[wX]at h2;have h3:(0:Rat)<=(X:Rat):=by rw[<-Rat.intCast_natCast,show(0:Rat)=((0:Int):Rat)from rfl,Kb2];omega
  have h4:=Kbi hN h3;rw[<-h2,<-Rat.natCast_mul,<-Rat.intCast_natCast,<-Rat.intCast_natCast,Kb2]at h4;have h5:=Ka7 n0 UA;omega
 have hr:=DO z (X:Int) (by omega);rw[<-e,KaD]at hr;have g1:=fE EZ;have g2:nl X<=nl (n0*Y):=by exact fE (Kay UA (Nat.le_mul_of_pos_left _ lV))
 have g3:1<=nl X:=by apply Decidable.byContradiction;intro hc;have:=wG.1 (show nl X=0 by omega);omega
 refine⟨by omega,⟨by have:=h.ml t ht;omega,fun x hx=>?_,fun x hx=>?_⟩,h.og.c t ht⟩
 all_goals
  obtain⟨i,hi,rfl⟩:=Kbd hx;have hp:=h.pos t ht i;rw[e9 hi]at hp
 ·exact hp
 ·have hl:=h.ml t ht;simp only[jl]at h1;rw[<-e9 hi];rw[<-e9 hi]at hp;have:i=0∨i=1∨i=2∨i=3:=by omega
  rcases this with rfl|rfl|rfl|rfl<;>omega
def qx(p:List Tm):Nat:=(p.map fun t=>t.1.den).foldr (· * ·) 1
def mN(p:List Tm):Nat:=(p.map fun t=>t.1.num.natAbs).foldr (· + ·) 0
theorem N7(p:List Tm):0<qx p:=by
 induction p with
 |nil=>simp[qx]
 |cons t p ih=>exact Kce (KaY t.1.den_nz) ih
theorem Hq:∀ {p:List Tm} {t:Tm},t∈p->t.1.den∣qx p
 |s::p,t,ht=>by
  rcases KaO.1 ht with rfl|ht
  ·exact Nat.dvd_mul_right _ _
  ·exact Kcn (Hq ht) (Kdg _ _)
theorem agy{p:List Tm}{K E:Nat}(hp:FW.PB K E p):nl (qx p)<=p.length*K+1:=by
 induction p with
 |nil=>simp[qx,jG]
 |cons t p ih=>have h1:=ih (PB.cons.1 hp).2;have h2:=(PB.cons.1 hp).1.c;have h3:=gJ t.1.den (qx p);unfold rs at h2;rw[KaX,Nat.succ_mul];have e:qx (t::p)=t.1.den*qx p:=rfl;rw[e];omega
theorem agz{p:List Tm}{K E:Nat}(hp:FW.PB K E p):nl (mN p)<=p.length+K:=by
 induction p with
 |nil=>simp[mN,w8]
 |cons t p ih=>have h1:=ih (PB.cons.1 hp).2;have h2:=(PB.cons.1 hp).1.c;have h3:=uY t.1.num.natAbs (mN p);unfold rs at h2;have e:mN (t::p)=t.1.num.natAbs+mN p:=rfl;rw[e,KaX];omega
theorem H5{c:Rat}{L:Nat}(h:c.den∣L):iY (c*(L:Rat)):=by
 obtain⟨k,rfl⟩:=h;refine⟨c.num*(k:Int),?_⟩;have jA:=c.den_nz;have d1:c=(c.num:Rat)/((c.den:Int):Rat):=by
  conv=>lhs;rw[<-Rat.mkRat_self c]
  rw[Kb1,KaW]
 have k1:((c.den:Int):Rat)≠0:=by rw[Ne,Ka6];omega
 rw[Kb9,Kbs,KaW,<-Rat.intCast_natCast c.den];generalize((c.den:Int):Rat)=D at *
 generalize(c.num:Rat)=N at *
 rw[d1];grind
theorem adg(c:Rat):dJ c*(c.den:Rat)=((c.num.natAbs:Nat):Rat):=by
 have d1:c*(c.den:Rat)=(c.num:Rat):=by
  have e:c=(c.num:Rat)/((c.den:Int):Rat):=by
   conv=>lhs;rw[<-Rat.mkRat_self c]
   rw[Kb1,KaW]
  have k1:((c.den:Int):Rat)≠0:=by rw[Ne,Ka6];have:=c.den_nz;omega
  rw[<-Rat.intCast_natCast];generalize((c.den:Int):Rat)=D at *
  generalize(c.num:Rat)=N at *
  rw[e];grind
 rw[<-wX,<-d1,Dh];congr 1;rw[<-Rat.intCast_natCast,wX,KaD,KaW]
theorem rk{a b:Nat}(h:a<=b):(a:Rat)<=(b:Rat):=by rw[<-Rat.intCast_natCast,<-Rat.intCast_natCast,Kb2];omega
theorem Ri(c:Rat):dJ c<=((c.num.natAbs:Nat):Rat):=by have h:=adg c;have h1:(1:Rat)<=(c.den:Rat):=rk (a:=1) (KaY c.den_nz);have:=Kbr h1 (qa c);grind
end Go.FW
