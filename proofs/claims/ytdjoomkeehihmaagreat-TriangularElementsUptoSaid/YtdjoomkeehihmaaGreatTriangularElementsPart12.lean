/- Part 12 of the proof of TriangularElements: W9, AR, L0, W10, FwUI, FwUJ. Own lemmas; no conditions. -/
import Derived.Test.YtdjoomkeehihmaaGreatTriangularElementsPart11
import Derived.Test.YtdjoomkeehihmaaGreatRows
import Derived.WalkKit
import Derived.ProofKit
import Derived.OpenShut
import Derived.JoinedCond
set_option maxHeartbeats 1000000
set_option linter.unusedSimpArgs false
set_option linter.unusedVariables false
set_option linter.unnecessarySimpa false
set_option maxRecDepth 100000
namespace Go.Proofs.YtdjoomkeehihmaaGreat
open Go Go.FW
theorem aeb(v:Nat):Xn v=cM v 1:=rfl
theorem SD{v:Nat}(hv:v<64):Qc Tryz.prog 20 [.int .i64 v] (· =PV.aj (vM v)):=by
 have kb:(List.replicate (v+1) (0:Int)).set v 1=cM v 1:=Hz v 1 rfl;have rj:v<(List.replicate (v+1) (0:Int)).length:=by simp
 have jJ:=ob;have eo:(cM v 1).length=v+1:=by simp[cM]
 have gU:=(Gy (p:=[]) (m:=cM v 1) (K:=1) (E:=1) (k:=4) (PB.nil _ _) trivial (by simp[NZ]) (iB (q:=((1:Int):Rat)) (k:=4) (by rw[show((1:Int):Rat)=1 from rfl];omega)) (by omega) (ID hv) (Dc (by omega)) (by omega) (by omega) (by simp)).le (args':=[.aa,PV.rat ((1:Int):Rat),PV.mono (cM v 1)]) ⟨trivial,Qx _,Qx _,trivial⟩;rw[gN]at gU;have e:jg [] ((1:Int):Rat) (cM v 1)=vM v:=by rw[jg,pE,if_neg (by decide),vM,if_neg (by omega),KbM,aeb];rfl
 rw[e]at gU;refine Qf Qj Tryz.func20 rfl ajo (by simp[Kp]) fun C hP=>?_;simp only[Kp,Zo,Zg,Zm,Zc,Zf,Zl,Zh,Zs,Zi,Zb,Zk,Zn,Zu,Zq,Zr,Zz];refine Sz0 ?_;refine dI (fun h=>by omega) (fun _=>?_);refine Sz0 ?_;refine Qb (fun h=>by omega) (fun _=>?_);refine Sz1 kb ?_;refine Qa hP (u5 (x:=1) (by omega) (by omega)) rfl rfl rfl ?_;generalize((1:Int):Rat)=c at *
 refine Sz0 ?_;refine ig hP gU (by simp+decide (disch:=try exact E0) only[go_sem,ee,Kav,KaC,Kau,KaA,Kak];simp[Kae,eo]) rfl ?_;refine Sz0 ?_;exact Qd rfl rfl
open Go Go.FW Go.ChangeShapes Go.WideShapes Go.ChangeAt Go.RowKit
theorem NK{H:Type}{d:DataW H}{l:List (DataW H)}(h:d∈l):Rows.uptoBulk d<=Rows.uptoBulkAll l:=by
 induction l with
 |nil=>cases h
 |cons x r ih=>
  simp only[Rows.uptoBulkAll];cases KaQ.1 h with
  |inl e=>subst e;omega
  |inr e=>have:=ih e;omega
theorem aec{H:Type}(d:DataW H):1<=Rows.uptoBulk d:=by
 cases d with
 |lit l=>cases l<;>simp[Rows.uptoBulk]
 |nil=>simp[Rows.uptoBulk]
 |ptr d=>simp[Rows.uptoBulk]
 |slice elems spare=>simp[Rows.uptoBulk]
 |agg parts=>simp[Rows.uptoBulk]
 |iface t d=>simp[Rows.uptoBulk]
 |map entries=>simp[Rows.uptoBulk]
 |held h=>simp[Rows.uptoBulk]
theorem Yn{H:Type}(l:List (DataW H)):l.length<=Rows.uptoBulkAll l:=by
 induction l with
 |nil=>simp[Rows.uptoBulkAll]
 |cons x r ih=>have:=aec x;simp only[Rows.uptoBulkAll,KaW];omega
theorem eH{H:Type}:FI (H:=H) Rows.uptoBulk:=by
 refine⟨fun elems spare=>?_,fun elems spare d hd=>?_,fun parts d hd=>?_⟩
 ·have:=Yn elems;simp only[Rows.uptoBulk];omega
 ·have:=NK hd;simp only[Rows.uptoBulk];omega
 ·have:=NK hd;simp only[Rows.uptoBulk];omega
theorem aed{H:Type}{l:List (DataW H)}(hk:Rows.uptoSmall H l=true):Rows.uptoBulkAll l<=1048576:=of_decide_eq_true hk
theorem own:ownKnob Tryz.prog.godebug=none:=by kernel_rfl
theorem laid:laidOutB Tryz.prog=true:=by kernel_rfl
theorem aji:mapsRowed Tryz.prog=true:=by kernel_rfl
def Ra(P:Program):Bool:=(List.range P.types.size).all fun t=>match P.underlying t with|some (.slice e)=>decide (0<P.cellsOf e)|_=>true
theorem akV:Ra Tryz.prog=true:=by kernel_rfl
theorem ajj{t e:TypeId}(ht:t<Tryz.prog.types.size)(he:Tryz.prog.underlying t=some (.slice e)):0<Tryz.prog.cellsOf e:=by have h:=akV;simp only[Ra,Kay]at h;have:=h t (Kch.2 ht);rw[he]at this;exact of_decide_eq_true this
variable {H : Type} {enc : TypeId × Value -> H}
abbrev Rd(enc:TypeId×Value->H):=lN enc Tryz.prog Rows.uptoBulk 1048576
theorem NL:Tryz.prog.cellsOf 76=1:=by kernel_rfl
theorem Hd:Tryz.prog.cellsOf 3=1:=by kernel_rfl
theorem Td:Tryz.prog.cellsOf 54=4:=by kernel_rfl
theorem Rb:Rd enc 39 fun ps=>∃l:List Nat,ps=[PV.nat l]/\l.length<=1048576/\Qq l:=by refine(CG (α:=Nat) (f:=fun(x:Nat)=>.int .u16 x) (G:=fun x=>x<65536) eH Tryz.underlying39 (by rw[NL];omega) (abG Tryz.underlying76)).mono ?_;rintro ps ⟨l,rfl,h1,h2⟩;exact⟨l,by rw[NL],h1,h2⟩
theorem agx:Rd enc 52 fun ps=>∃l:List Int,ps=[PV.mono l]/\l.length<=1048576/\∀x∈l,-9223372036854775808<=x/\x<=9223372036854775807:=by refine(CG (α:=Int) (f:=fun(x:Int)=>.int .i64 x) eH Tryz.underlying52 (by rw[Hd];omega) (abH Tryz.underlying3)).mono ?_;rintro ps ⟨l,rfl,h1,h2⟩;exact⟨l,by rw[Hd],h1,h2⟩
theorem ajk:Rd enc 41 fun ps=>∃(n:Bool)(a:List Nat),ps=[.bool n,PV.nat a]/\a.length<=1048576/\Qq a:=by refine(Gm eH Tryz.underlying41 rfl (by kernel_rfl) (by kernel_rfl) (ZB Tryz.underlying4) Rb).mono ?_;rintro ps ⟨p,q,rfl,⟨n,rfl⟩,a,rfl,h⟩;exact⟨n,a,rfl,h⟩
theorem ajl:Rd enc 43 fun ps=>∃(n:Bool)(a d:List Nat),ps=[.bool n,PV.nat a,PV.nat d]/\Raw 1048576 n a d:=by refine(Gm eH Tryz.underlying43 rfl (by kernel_rfl) (by kernel_rfl) ajk Rb).mono ?_;rintro ps ⟨p,q,rfl,⟨n,a,rfl,h1,h2⟩,d,rfl,h3,h4⟩;exact⟨n,a,d,rfl,h2,h4,h1,h3,by omega⟩
instance : Inhabited aZ := ⟨⟨false, [], [], []⟩⟩
def Gc(l:List aZ):Prop:=l.length<=1048576/\∀t∈l,RB 1048576 t/\∀x∈t.m,-9223372036854775808<=x/\x<=9223372036854775807
theorem agy:Rd enc 54 fun ps=>∃t:aZ,ps=(PV.qv t).cells/\(RB 1048576 t/\∀x∈t.m,-9223372036854775808<=x/\x<=9223372036854775807):=by refine(Gm eH Tryz.underlying54 rfl (by kernel_rfl) (by kernel_rfl) ajl agx).mono ?_;rintro ps ⟨p,q,rfl,⟨n,a,d,rfl,h⟩,m,rfl,h3,h4⟩;exact⟨⟨n,a,d,m⟩,rfl,⟨⟨h.la,h.ld,h.sa,h.sd⟩,by show m.length<2^40;omega⟩,h4⟩
theorem agz:Rd enc 32 fun ps=>∃l:List aZ,ps=[PV.kp l]/\Gc l:=by refine(CG (f:=PV.qv) eH Tryz.underlying32 (by rw[Td];omega) agy).mono ?_;rintro ps ⟨l,rfl,h1,h2⟩;exact⟨l,by rw[Td],h1,h2⟩
def Rc(ls:List (List aZ)):Prop:=ls.length<=1048576/\∀l∈ls,Gc l
theorem TE:Tryz.prog.cellsOf 32=1:=by kernel_rfl
theorem aee:Rd enc 22 fun ps=>∃ls:List (List aZ),ps=[.sl 1 (ls.map PV.kp)]/\Rc ls:=by refine(CG (α:=List aZ) (f:=PV.kp) (G:=Gc) eH Tryz.underlying22 (by rw[TE];omega) agz).mono ?_;rintro ps ⟨l,rfl,h1,h2⟩;exact⟨l,by rw[TE],h1,h2⟩
variable {w : World} {base : Nat} {spare : Nat -> Bool} {held : Bool} {r : Reach} {b0 : Nat} {v : Value} {d : DataW H} {ps : List MemPlace}
theorem acg(gS:Value.okWide Tryz.prog w r b0 22 v)(hd:DataW.Trod enc Tryz.prog w base spare held 22 v d ps)(hn:Rows.uptoBulk d<=1048576):∃ls:List (List aZ),a9 w bS (.sl 1 (ls.map PV.kp)) v/\Rc ls:=by
 obtain⟨p,⟨l,e,h⟩,h2⟩:=abI Tryz.underlying22 gS aee hd hn;obtain rfl:p= .sl 1 (l.map PV.kp):=by simpa using e
 exact⟨l,h2,h⟩
theorem ach{f:FuncId}{fn:Func}{s:ChangeSpec}{ap fresh handsOn xL:Bool}{W:World}{args:Array Value}{ds gs:List (DataW H)}{before:List MemPlace}{di:List PV}
  (hW:DataW.Whole enc Tryz.prog fn.params.toList s.vars ap W args.toList ds gs before) (BC:s.vars=[]) (dw:fn.resultTypes= #[4]) (Fj:(fn.params.toList.all fun t=>decide (t<Tryz.prog.types.size))=true)
  (Bd:s.fn H (ds++gs)={ results:=[.lit (.bool true)],args:=ds })
  (hF:Qc Tryz.prog f di (· = .bool true)) (MW:args.size=di.length) (cN:∀(i:Nat)(x:PV),di[i]? =some x->a9 W bS x (args.getD i undef)):
  Calls Tryz.prog f args W fun e W'=>∃v,e= .returned v/\s.post enc Tryz.prog fn ap fresh handsOn xL W args v W':=by
 simp only[Kay,decide_eq_true_eq]at Fj;exact X4 hW BC dw Tryz.underlying4 laid aji (fun h1 h2=>ajj h1 h2) Fj Bd hF MW cN
theorem aef{w:World}{ps:List PV}{vs:List Value}(h:∀(i:Nat)(x:PV),ps[i]? =some x->∀v,vs[i]? =some v->a9 w bS x v)(hl:vs.length=ps.length):∀(i:Nat)(x:PV),ps[i]? =some x->a9 w bS x (vs.toArray.getD i undef):=by
 intro i x hx;have hi:i<vs.length:=by rw[hl];exact(Kad.1 hx).1
 have:=h i x hx vs[i] (Kam hi);simpa[Array.getD,hi]using this
end Go.Proofs.YtdjoomkeehihmaaGreat
namespace Go.Proofs.YtdjoomkeehihmaaGreat
open Go Go.FW
end Go.Proofs.YtdjoomkeehihmaaGreat
namespace Go.FW
open Go
def dP(c:Rat):Rat:=if c<0 then -c else c
theorem qA(c:Rat):0<=dP c:=by unfold dP;grind
theorem aeg(a b:Rat):dP (a+b)<=dP a+dP b:=by unfold dP;grind
theorem Dr(a b:Rat):dP (a*b)=dP a*dP b:=by
 have pos:∀x:Rat,0<=x->dP x=x:=fun x h=>by unfold dP;grind
 have neg:∀x:Rat,x<=0->dP x= -x:=fun x h=>by unfold dP;grind
 rcases Decidable.em (0<=a)with ha|ha<;>rcases Decidable.em (0<=b)with hb|hb
 ·rw[pos _ (Kci ha hb),pos _ ha,pos _ hb]
 ·have h:=Kci ha (show 0<= -b by grind);rw[neg (a*b) (by grind),pos _ ha,neg b (by grind)];grind
 ·have h:=Kci (show 0<= -a by grind) hb;rw[neg (a*b) (by grind),neg a (by grind),pos _ hb];grind
 ·have h:=Kci (show 0<= -a by grind) (show 0<= -b by grind);rw[pos (a*b) (by grind),neg a (by grind),neg b (by grind)];grind
theorem xl(z:Int):dP (z:Rat)=((z.natAbs:Nat):Rat):=by
 rw[<-Rat.intCast_natCast];unfold dP;split
 ·rename_i h;have h':z<0:=by have:=(Rat.intCast_lt_intCast (a:=z) (b:=0)).1 (by simpa using h);exact this
  rw[<-Rat.intCast_neg];congr 1;omega
 ·rename_i h;have h':¬z<0:=fun hz=>h (by have:=(Rat.intCast_lt_intCast (a:=z) (b:=0)).2 hz;simpa using this);congr 1;omega
def ju(m:List Int):Nat:=(eN m 3).toNat*729+(eN m 2).toNat*81+(eN m 1).toNat*9+(eN m 0).toNat
theorem alX{a b:List Int}(ha:a.length<=4)(hb:b.length<=4):aR a b=du a b 4:=(tt (by omega)).symm
theorem agA{a b:List Int}(ha:a.length<=4)(hb:b.length<=4)(h:aR a b<0):
  eN a 3<eN b 3∨(eN a 3=eN b 3/\(eN a 2<eN b 2∨(eN a 2=eN b 2/\(eN a 1<eN b 1∨(eN a 1=eN b 1/\eN a 0<eN b 0))))):=by
 rw[alX ha hb]at h;simp only[du]at h;have z3:=vr (x:=eN a 3) (y:=eN b 3);have z2:=vr (x:=eN a 2) (y:=eN b 2);have z1:=vr (x:=eN a 1) (y:=eN b 1);have z0:=vr (x:=eN a 0) (y:=eN b 0);by_cases e3:eN a 3=eN b 3
 ·rw[if_pos e3]at h;refine .inr ⟨e3,?_⟩;by_cases e2:eN a 2=eN b 2
  ·rw[if_pos e2]at h;refine .inr ⟨e2,?_⟩;by_cases e1:eN a 1=eN b 1
   ·rw[if_pos e1]at h;refine .inr ⟨e1,?_⟩;by_cases e0:eN a 0=eN b 0
    ·rw[if_pos e0]at h;omega
    ·rw[if_neg e0]at h;exact z0.1 h
   ·rw[if_neg e1]at h;exact .inl (z1.1 h)
  ·rw[if_neg e2]at h;exact .inl (z2.1 h)
 ·rw[if_neg e3]at h;exact .inl (z3.1 h)
def nW(W:Rat):List Tm->Rat
 | []=>0
 |t::p=>dP t.1*W^ju t.2+nW W p
theorem TF{W:Rat}(h:0<=W):∀n:Nat,0<=W^n
 |0=>by rw[Rat.pow_zero];decide
 |n+1=>by rw[Rat.pow_succ];exact Kci (TF h n) h
theorem TG{W:Rat}(h:1<=W):∀n:Nat,1<=W^n
 |0=>by rw[Rat.pow_zero];decide
 |n+1=>by rw[Rat.pow_succ];have h1:=TG h n;have:=Kbl h1 (show(0:Rat)<=W by grind);grind
theorem SE{W:Rat}(h:0<=W)(c:Rat)(m:List Int):0<=dP c*W^ju m:=Kci (qA c) (TF h _)
theorem NM{W:Rat}(h:0<=W):∀p,0<=nW W p
 | []=>by simp only[nW];decide
 |t::p=>by have h1:=SE h t.1 t.2;have h2:=NM h p;simp only[nW];grind
def Pos(p:List Tm):Prop:=∀t∈p,∀i,0<=eN t.2 i
def je(c:Rat):Prop:=∃z:Int,c=(z:Rat)
theorem je.add{a b:Rat}:je a->je b->je (a+b):=fun⟨x,hx⟩ ⟨y,hy⟩=>⟨x+y,by rw[hx,hy,Rat.intCast_add]⟩
theorem je.mul{a b:Rat}:je a->je b->je (a*b):=fun⟨x,hx⟩ ⟨y,hy⟩=>⟨x*y,by rw[hx,hy,Kbu]⟩
theorem je.nat(n:Nat):je (n:Rat):=⟨n,(KaX n).symm⟩
def IW(D F:Rat)(N:Nat)(p:List Tm):Prop:=∀t∈p,ju t.2<=N/\je (t.1*(D*F^(N-ju t.2)))
theorem IW.cons{D F:Rat}{N:Nat}{t:Tm}{p:List Tm}:IW D F N (t::p)↔(ju t.2<=N/\je (t.1*(D*F^(N-ju t.2))))/\IW D F N p:=by simp[IW]
theorem CZ(p:List Tm):kZ p=bd p (-1,[]):=by rw[kZ,b8,if_neg (by decide)]
def c4(m:List Int):Nat:=(((eN m 3).toNat*81+(eN m 2).toNat)*729+(eN m 1).toNat)*6561+(eN m 0).toNat
theorem akW{a b:List Int}(ha:∀i,0<=eN a i)(hb:∀i,0<=eN b i)(la:a.length<=4)(lb:b.length<=4)(pa:ju a<=6560)(pb:ju b<=6560)(h:aR a b<0):c4 a<c4 b:=by have a0:=ha 0;have a1:=ha 1;have a2:=ha 2;have a3:=ha 3;have b0:=hb 0;have b1:=hb 1;have b2:=hb 2;have b3:=hb 3;have:=agA la lb h;simp only[ju]at pa pb;simp only[c4,Zo,Zg,Zm,Zc,Zf,Zl,Zh,Zs,Zi,Zb,Zk,Zn,Zu,Zq,Zr,Zz];omega
theorem akX{a:List Int}(pa:ju a<=6560):c4 a<2^32:=by simp only[ju]at pa;simp only[c4,Zo,Zg,Zm,Zc,Zf,Zl,Zh,Zs,Zi,Zb,Zk,Zn,Zu,Zq,Zr,Zz];omega
structure B4(D F W N0:Rat)(p:List Tm):Prop where
 i:IW D F 6560 p
 n:nW W p<=N0
 pos:Pos p
 ml:ML 4 p
 ny:au p
theorem ZY{p:List Tm}:(∀t∈p,ju t.2<=6560)->Pos p->ML 4 p->e9 p->p≠[]->p.length<=c4 (oU p).2+1:=by
 induction p with
 |nil=>intro _ _ _ _ h;exact absurd rfl h
 | cons t p ih=>
  intro hp hP hM hs _;cases p with
  |nil=>simp
  |cons s p=>have h1:=ih (fun x hx=>hp x (by simp[hx])) (fun x hx=>hP x (by simp[hx])) (fun x hx=>hM x (by simp[hx])) hs.2 (by simp);have h2:=hs.1 s (by simp);have h3:=vh t.2 s.2;have h4:=akW (hP s (by simp)) (hP t (by simp)) (hM s (by simp)) (hM t (by simp)) (hp s (by simp)) (hp t (by simp)) (by omega);simp only[oU,List.headD_cons,KaW]at h1⊢;omega
theorem B4.len{D F W N0:Rat}{p:List Tm}(h:B4 D F W N0 p):p.length<=2^32:=by
 by_cases h0:p=[]
 ·subst h0;simp
 ·have h1:=ZY (fun t ht=>(h.i t ht).1) h.pos h.ml h.ny.s h0;have:=akX (h.i _ (IH h0)).1;omega
theorem Re{W:Rat}(h:1<=W):∀ {p:List Tm} {t:Tm},t∈p->dP t.1<=nW W p
 | s::p,t,ht=>by
  have h0:(0:Rat)<=W:=by grind
  have h1:=NM h0 p;have h2:=SE h0 s.1 s.2;simp only[nW];rcases KaQ.1 ht with rfl|ht
  ·have h3:=Kbs (TG h (ju t.2)) (qA t.1);grind
  ·have:=Re h ht;grind
theorem B4.PB{d f w n0 L:Nat}{p:List Tm}(h:B4 d f w n0 p)(hd:0<d)(hf:0<f)(hw:0<w)(l8:0<n0)(hL:nl (n0*(d*f^6560))<L):PB L 6560 p:=by
 intro t ht;obtain⟨h1,z,hz⟩:=h.i t ht;have hw1:(1:Rat)<=(w:Rat):=by rw[<-Rat.intCast_natCast,show(1:Rat)=((1:Int):Rat)from rfl,Kb3];omega
 have hN:dP t.1<=(n0:Rat):=by have:=Re hw1 ht;have:=h.n;grind
 have hX:(d:Rat)*(f:Rat)^(6560-ju t.2)=((d*f^(6560-ju t.2):Nat):Rat):=by rw[Kb9,Rat.natCast_pow]
 have ur:∀N k:Nat,k<=N->d*f^k<=d*f^N:=fun N k h=>Ka7 _ (KbD hf h);have Vo:=ur 6560 (6560-ju t.2) (Nat.sub_le _ _);have EI:0<d*f^(6560-ju t.2):=Kce hd (KbN hf);rw[hX]at hz;generalize d*f^(6560-ju t.2)=X at *
 generalize d*f^6560=Y at *
 have Mb:((X:Int):Rat)≠0:=by rw[Ne,Ka6];omega
 have e:t.1=(z:Rat)/((X:Int):Rat):=by rw[<-hz,KaX];rw[KaX]at Mb;grind
 have Fx:z.natAbs<=n0*Y:=by
  have h2:dP (z:Rat)=dP t.1*(X:Rat):=by rw[<-hz,Dr];congr 1;rw[<-Rat.intCast_natCast,xl,KaD,KaX]
  rw[xl]at h2;have h3:(0:Rat)<=(X:Rat):=by rw[<-Rat.intCast_natCast,show(0:Rat)=((0:Int):Rat)from rfl,Kb3];omega
  have h4:=Kbl hN h3;rw[<-h2,<-Rat.natCast_mul,<-Rat.intCast_natCast,<-Rat.intCast_natCast,Kb3]at h4;have h5:=Ka7 n0 Vo;omega
 have hr:=Ei z (X:Int) (by omega);rw[<-e,KaD]at hr;have g1:=fJ Fx;have g2:nl X<=nl (n0*Y):=by exact fJ (Kaw Vo (Nat.le_mul_of_pos_left _ l8))
 have g3:1<=nl X:=by apply Decidable.byContradiction;intro hc;have:=w7.1 (show nl X=0 by omega);omega
 refine⟨by omega,⟨by have:=h.ml t ht;omega,fun x hx=>?_,fun x hx=>?_⟩,h.ny.c t ht⟩
 all_goals
  obtain⟨i,hi,rfl⟩:=Kbe hx;have hp:=h.pos t ht i;rw[fk hi]at hp
 ·exact hp
 ·have hl:=h.ml t ht;simp only[ju]at h1;rw[<-fk hi];rw[<-fk hi]at hp;have:i=0∨i=1∨i=2∨i=3:=by omega
  rcases this with rfl|rfl|rfl|rfl<;>omega
def qP(p:List Tm):Nat:=(p.map fun t=>t.1.den).foldr (· * ·) 1
def mT(p:List Tm):Nat:=(p.map fun t=>t.1.num.natAbs).foldr (· + ·) 0
theorem OT(p:List Tm):0<qP p:=by
 induction p with
 |nil=>simp[qP]
 |cons t p ih=>exact Kce (KaY t.1.den_nz) ih
theorem H0:∀ {p:List Tm} {t:Tm},t∈p->t.1.den∣qP p
 |s::p,t,ht=>by
  rcases KaQ.1 ht with rfl|ht
  ·exact Nat.dvd_mul_right _ _
  ·exact Kco (H0 ht) (Kdh _ _)
theorem agB{p:List Tm}{K E:Nat}(hp:FW.PB K E p):nl (qP p)<=p.length*K+1:=by
 induction p with
 |nil=>simp[qP,jP]
 |cons t p ih=>have h1:=ih (PB.cons.1 hp).2;have h2:=(PB.cons.1 hp).1.c;have h3:=gL t.1.den (qP p);unfold rs at h2;rw[KaW,Nat.succ_mul];have e:qP (t::p)=t.1.den*qP p:=rfl;rw[e];omega
theorem agC{p:List Tm}{K E:Nat}(hp:FW.PB K E p):nl (mT p)<=p.length+K:=by
 induction p with
 |nil=>simp[mT,xx]
 |cons t p ih=>have h1:=ih (PB.cons.1 hp).2;have h2:=(PB.cons.1 hp).1.c;have h3:=vz t.1.num.natAbs (mT p);unfold rs at h2;have e:mT (t::p)=t.1.num.natAbs+mT p:=rfl;rw[e,KaW];omega
theorem II{c:Rat}{L:Nat}(h:c.den∣L):je (c*(L:Rat)):=by
 obtain⟨k,rfl⟩:=h;refine⟨c.num*(k:Int),?_⟩;have jI:=c.den_nz;have d1:c=(c.num:Rat)/((c.den:Int):Rat):=by
  conv=>lhs;rw[<-Rat.mkRat_self c]
  rw[Kb2,KaX]
 have k1:((c.den:Int):Rat)≠0:=by rw[Ne,Ka6];omega
 rw[Kb9,Kbu,KaX,<-Rat.intCast_natCast c.den];generalize((c.den:Int):Rat)=D at *
 generalize(c.num:Rat)=N at *
 rw[d1];grind
theorem aeh(c:Rat):dP c*(c.den:Rat)=((c.num.natAbs:Nat):Rat):=by
 have d1:c*(c.den:Rat)=(c.num:Rat):=by
  have e:c=(c.num:Rat)/((c.den:Int):Rat):=by
   conv=>lhs;rw[<-Rat.mkRat_self c]
   rw[Kb2,KaX]
  have k1:((c.den:Int):Rat)≠0:=by rw[Ne,Ka6];have:=c.den_nz;omega
  rw[<-Rat.intCast_natCast];generalize((c.den:Int):Rat)=D at *
  generalize(c.num:Rat)=N at *
  rw[e];grind
 rw[<-xl,<-d1,Dr];congr 1;rw[<-Rat.intCast_natCast,xl,KaD,KaX]
theorem rH{a b:Nat}(h:a<=b):(a:Rat)<=(b:Rat):=by rw[<-Rat.intCast_natCast,<-Rat.intCast_natCast,Kb3];omega
theorem SF(c:Rat):dP c<=((c.num.natAbs:Nat):Rat):=by have h:=aeh c;have h1:(1:Rat)<=(c.den:Rat):=rH (a:=1) (KaY c.den_nz);have:=Kbs h1 (qA c);grind
end Go.FW
