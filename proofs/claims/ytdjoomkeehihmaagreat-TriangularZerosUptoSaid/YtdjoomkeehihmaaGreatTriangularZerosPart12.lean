/- Part 12 of the proof of TriangularZeros: W9, AR, L0, W10, FwUI, FwUJ. Own lemmas; no conditions. -/
import Derived.Test.YtdjoomkeehihmaaGreatTriangularZerosPart11
import Derived.Test.YtdjoomkeehihmaaGreatRows
import Derived.WalkKit
import Derived.ProofKit
import Derived.OpenShut
import Derived.JoinedCond
set_option maxHeartbeats 1000000
set_option linter.unusedSimpArgs false
set_option linter.unusedVariables false
set_option linter.unnecessarySimpa false
set_option maxRecDepth 100000
namespace Go.Proofs.YtdjoomkeehihmaaGreat
open Go Go.FW
theorem aev(v:Nat):X3 v=cM v 1:=rfl
theorem TE{v:Nat}(hv:v<64):Qc Tryz.prog 20 [.int .i64 v] (· =PV.aj (vO v)):=by
 have ks:(List.replicate (v+1) (0:Int)).set v 1=cM v 1:=Il v 1 rfl;have ri:v<(List.replicate (v+1) (0:Int)).length:=by simp
 have jM:=l4;have dX:(cM v 1).length=v+1:=by simp[cM]
 have fE:=(GX (p:=[]) (m:=cM v 1) (K:=1) (E:=1) (k:=4) (PB.nil _ _) trivial (by simp[NZ]) (iG (q:=((1:Int):Rat)) (k:=4) (by rw[show((1:Int):Rat)=1 from rfl];omega)) (by omega) (I3 hv) (Dv (by omega)) (by omega) (by omega) (by simp)).le (args':=[.aa,PV.rat ((1:Int):Rat),PV.mono (cM v 1)]) ⟨trivial,Qy _,Qy _,trivial⟩;rw[gY]at fE;have e:jq [] ((1:Int):Rat) (cM v 1)=vO v:=by rw[jq,pG,if_neg (by decide),vO,if_neg (by omega),KbD,aev];rfl
 rw[e]at fE;refine Qf Qo Tryz.func20 rfl akb (by simp[KJ]) fun C hP=>?_;simp only[KJ,Zo,Zg,Zm,Zc,Zf,Zl,Zh,Zs,Zi,Zb,Zk,Zn,Zu,Zq,Zr,Zz];refine Sz0 ?_;refine dM (fun h=>by omega) (fun _=>?_);refine Sz0 ?_;refine Qb (fun h=>by omega) (fun _=>?_);refine Sz1 ks ?_;refine Qa hP (vb (x:=1) (by omega) (by omega)) rfl rfl rfl ?_;generalize((1:Int):Rat)=c at *
 refine Sz0 ?_;refine iQ hP fE (by simp+decide (disch:=try exact E0) only[go_sem,et,Kax,KaC,Kau,KaA,Kak];simp[Kae,dX]) rfl ?_;refine Sz0 ?_;exact Qd rfl rfl
def GA(l:List RQ):Prop:=l.length<=1048576/\∀q∈l,Raw 1048576 q.n q.a q.d
open Go Go.FW Go.ChangeShapes Go.WideShapes Go.ChangeAt Go.RowKit
theorem Oy{H:Type}{d:DataW H}{l:List (DataW H)}(h:d∈l):Rows.uptoBulk d<=Rows.uptoBulkAll l:=by
 induction l with
 |nil=>cases h
 |cons x r ih=>
  simp only[Rows.uptoBulkAll];cases KaP.1 h with
  |inl e=>subst e;omega
  |inr e=>have:=ih e;omega
theorem aew{H:Type}(d:DataW H):1<=Rows.uptoBulk d:=by
 cases d with
 |lit l=>cases l<;>simp[Rows.uptoBulk]
 |nil=>simp[Rows.uptoBulk]
 |ptr d=>simp[Rows.uptoBulk]
 |slice elems spare=>simp[Rows.uptoBulk]
 |agg parts=>simp[Rows.uptoBulk]
 |iface t d=>simp[Rows.uptoBulk]
 |map entries=>simp[Rows.uptoBulk]
 |held h=>simp[Rows.uptoBulk]
theorem ZU{H:Type}(l:List (DataW H)):l.length<=Rows.uptoBulkAll l:=by
 induction l with
 |nil=>simp[Rows.uptoBulkAll]
 |cons x r ih=>have:=aew x;simp only[Rows.uptoBulkAll,KaW];omega
theorem eF{H:Type}:Gb (H:=H) Rows.uptoBulk:=by
 refine⟨fun elems spare=>?_,fun elems spare d hd=>?_,fun parts d hd=>?_⟩
 ·have:=ZU elems;simp only[Rows.uptoBulk];omega
 ·have:=Oy hd;simp only[Rows.uptoBulk];omega
 ·have:=Oy hd;simp only[Rows.uptoBulk];omega
theorem aex{H:Type}{l:List (DataW H)}(hk:Rows.uptoSmall H l=true):Rows.uptoBulkAll l<=1048576:=of_decide_eq_true hk
theorem own:ownKnob Tryz.prog.godebug=none:=by kernel_rfl
theorem laid:laidOutB Tryz.prog=true:=by kernel_rfl
theorem akE:mapsRowed Tryz.prog=true:=by kernel_rfl
def RI(P:Program):Bool:=(List.range P.types.size).all fun t=>match P.underlying t with|some (.slice e)=>decide (0<P.cellsOf e)|_=>true
theorem alP:RI Tryz.prog=true:=by kernel_rfl
theorem akF{t e:TypeId}(ht:t<Tryz.prog.types.size)(he:Tryz.prog.underlying t=some (.slice e)):0<Tryz.prog.cellsOf e:=by have h:=alP;simp only[RI,Kav]at h;have:=h t (Kch.2 ht);rw[he]at this;exact of_decide_eq_true this
variable {H : Type} {enc : TypeId × Value -> H}
abbrev Rd(enc:TypeId×Value->H):=lV enc Tryz.prog Rows.uptoBulk 1048576
theorem Oz:Tryz.prog.cellsOf 76=1:=by kernel_rfl
theorem HN:Tryz.prog.cellsOf 3=1:=by kernel_rfl
theorem UB:Tryz.prog.cellsOf 54=4:=by kernel_rfl
theorem OA:Tryz.prog.cellsOf 43=3:=by kernel_rfl
theorem RJ:Rd enc 39 fun ps=>∃l:List Nat,ps=[PV.nat l]/\l.length<=1048576/\Qs l:=by refine(zB (α:=Nat) (f:=fun(x:Nat)=>.int .u16 x) (G:=fun x=>x<65536) eF Tryz.underlying39 (by rw[Oz];omega) (acq Tryz.underlying76)).mono ?_;rintro ps ⟨l,rfl,h1,h2⟩;exact⟨l,by rw[Oz],h1,h2⟩
theorem ahR:Rd enc 52 fun ps=>∃l:List Int,ps=[PV.mono l]/\l.length<=1048576/\∀x∈l,-9223372036854775808<=x/\x<=9223372036854775807:=by refine(zB (α:=Int) (f:=fun(x:Int)=>.int .i64 x) eF Tryz.underlying52 (by rw[HN];omega) (acr Tryz.underlying3)).mono ?_;rintro ps ⟨l,rfl,h1,h2⟩;exact⟨l,by rw[HN],h1,h2⟩
theorem akG:Rd enc 41 fun ps=>∃(n:Bool)(a:List Nat),ps=[.bool n,PV.nat a]/\a.length<=1048576/\Qs a:=by refine(GM eF Tryz.underlying41 rfl (by kernel_rfl) (by kernel_rfl) (Q8k Tryz.underlying4) RJ).mono ?_;rintro ps ⟨p,q,rfl,⟨n,rfl⟩,a,rfl,h⟩;exact⟨n,a,rfl,h⟩
theorem RK:Rd enc 43 fun ps=>∃(n:Bool)(a d:List Nat),ps=[.bool n,PV.nat a,PV.nat d]/\Raw 1048576 n a d:=by refine(GM eF Tryz.underlying43 rfl (by kernel_rfl) (by kernel_rfl) akG RJ).mono ?_;rintro ps ⟨p,q,rfl,⟨n,a,rfl,h1,h2⟩,d,rfl,h3,h4⟩;exact⟨n,a,d,rfl,h2,h4,h1,h3,by omega⟩
instance : Inhabited aU := ⟨⟨false, [], [], []⟩⟩
def GB(l:List aU):Prop:=l.length<=1048576/\∀t∈l,RB 1048576 t/\∀x∈t.m,-9223372036854775808<=x/\x<=9223372036854775807
theorem ahS:Rd enc 54 fun ps=>∃t:aU,ps=(PV.qx t).cells/\(RB 1048576 t/\∀x∈t.m,-9223372036854775808<=x/\x<=9223372036854775807):=by refine(GM eF Tryz.underlying54 rfl (by kernel_rfl) (by kernel_rfl) RK ahR).mono ?_;rintro ps ⟨p,q,rfl,⟨n,a,d,rfl,h⟩,m,rfl,h3,h4⟩;exact⟨⟨n,a,d,m⟩,rfl,⟨⟨h.la,h.ld,h.sa,h.sd⟩,by show m.length<2^40;omega⟩,h4⟩
theorem ahT:Rd enc 32 fun ps=>∃l:List aU,ps=[PV.kD l]/\GB l:=by refine(zB (f:=PV.qx) eF Tryz.underlying32 (by rw[UB];omega) ahS).mono ?_;rintro ps ⟨l,rfl,h1,h2⟩;exact⟨l,by rw[UB],h1,h2⟩
def RL(ls:List (List aU)):Prop:=ls.length<=1048576/\∀l∈ls,GB l
theorem UC:Tryz.prog.cellsOf 32=1:=by kernel_rfl
theorem aey:Rd enc 22 fun ps=>∃ls:List (List aU),ps=[.sl 1 (ls.map PV.kD)]/\RL ls:=by refine(zB (α:=List aU) (f:=PV.kD) (G:=GB) eF Tryz.underlying22 (by rw[UC];omega) ahT).mono ?_;rintro ps ⟨l,rfl,h1,h2⟩;exact⟨l,by rw[UC],h1,h2⟩
theorem ahU:Rd enc 37 fun ps=>∃l:List RQ,ps=[PV.zc l]/\GA l:=by
 refine(zB (α:=RQ) (f:=PV.rq) (G:=fun q=>Raw 1048576 q.n q.a q.d) eF Tryz.underlying37 (by rw[OA];omega) (RK.mono ?_)).mono ?_
 ·rintro ps ⟨n,a,d,rfl,h⟩;exact⟨⟨n,a,d⟩,rfl,h⟩
 ·rintro ps ⟨l,rfl,h1,h2⟩;exact⟨l,by rw[OA],h1,h2⟩
variable {w : World} {base : Nat} {spare : Nat -> Bool} {held : Bool} {r : Reach} {b0 : Nat} {v : Value} {d : DataW H} {ps : List MemPlace}
theorem acZ(gh:Value.okWide Tryz.prog w r b0 22 v)(hd:DataW.Trod enc Tryz.prog w base spare held 22 v d ps)(hn:Rows.uptoBulk d<=1048576):∃ls:List (List aU),ba w bT (.sl 1 (ls.map PV.kD)) v/\RL ls:=by
 obtain⟨p,⟨l,e,h⟩,h2⟩:=Of Tryz.underlying22 gh aey hd hn;obtain rfl:p= .sl 1 (l.map PV.kD):=by simpa using e
 exact⟨l,h2,h⟩
theorem aez(gh:Value.okWide Tryz.prog w r b0 37 v)(hd:DataW.Trod enc Tryz.prog w base spare held 37 v d ps)(hn:Rows.uptoBulk d<=1048576):∃l,ba w bT (PV.zc l) v/\GA l:=by
 obtain⟨p,⟨l,e,h⟩,h2⟩:=Of Tryz.underlying37 gh ahU hd hn;obtain rfl:p=PV.zc l:=by simpa using e
 exact⟨l,h2,h⟩
theorem ac0{f:FuncId}{fn:Func}{s:ChangeSpec}{ap fresh handsOn xZ:Bool}{W:World}{args:Array Value}{ds gs:List (DataW H)}{before:List MemPlace}{dk:List PV}
  (hW:DataW.Whole enc Tryz.prog fn.params.toList s.vars ap W args.toList ds gs before) (BT:s.vars=[]) (dz:fn.resultTypes= #[4]) (FH:(fn.params.toList.all fun t=>decide (t<Tryz.prog.types.size))=true)
  (Bt:s.fn H (ds++gs)={ results:=[.lit (.bool true)],args:=ds })
  (hF:Qc Tryz.prog f dk (· = .bool true)) (Nn:args.size=dk.length) (cN:∀(i:Nat)(x:PV),dk[i]? =some x->ba W bT x (args.getD i undef)):
  Calls Tryz.prog f args W fun e W'=>∃v,e= .returned v/\s.post enc Tryz.prog fn ap fresh handsOn xZ W args v W':=by
 simp only[Kav,decide_eq_true_eq]at FH;exact YG hW BT dz Tryz.underlying4 laid akE (fun h1 h2=>akF h1 h2) FH Bt hF Nn cN
theorem aeA{w:World}{ps:List PV}{vs:List Value}(h:∀(i:Nat)(x:PV),ps[i]? =some x->∀v,vs[i]? =some v->ba w bT x v)(hl:vs.length=ps.length):∀(i:Nat)(x:PV),ps[i]? =some x->ba w bT x (vs.toArray.getD i undef):=by
 intro i x hx;have hi:i<vs.length:=by rw[hl];exact(Kad.1 hx).1
 have:=h i x hx vs[i] (Kam hi);simpa[Array.getD,hi]using this
end Go.Proofs.YtdjoomkeehihmaaGreat
namespace Go.Proofs.YtdjoomkeehihmaaGreat
open Go Go.FW
end Go.Proofs.YtdjoomkeehihmaaGreat
namespace Go.FW
open Go
def dQ(c:Rat):Rat:=if c<0 then -c else c
theorem qB(c:Rat):0<=dQ c:=by unfold dQ;grind
theorem aeB(a b:Rat):dQ (a+b)<=dQ a+dQ b:=by unfold dQ;grind
theorem DH(a b:Rat):dQ (a*b)=dQ a*dQ b:=by
 have pos:∀x:Rat,0<=x->dQ x=x:=fun x h=>by unfold dQ;grind
 have neg:∀x:Rat,x<=0->dQ x= -x:=fun x h=>by unfold dQ;grind
 rcases Decidable.em (0<=a)with ha|ha<;>rcases Decidable.em (0<=b)with hb|hb
 ·rw[pos _ (Kci ha hb),pos _ ha,pos _ hb]
 ·have h:=Kci ha (show 0<= -b by grind);rw[neg (a*b) (by grind),pos _ ha,neg b (by grind)];grind
 ·have h:=Kci (show 0<= -a by grind) hb;rw[neg (a*b) (by grind),neg a (by grind),pos _ hb];grind
 ·have h:=Kci (show 0<= -a by grind) (show 0<= -b by grind);rw[pos (a*b) (by grind),neg a (by grind),neg b (by grind)];grind
theorem xC(z:Int):dQ (z:Rat)=((z.natAbs:Nat):Rat):=by
 rw[<-Rat.intCast_natCast];unfold dQ;split
 ·rename_i h;have h':z<0:=by have:=(Rat.intCast_lt_intCast (a:=z) (b:=0)).1 (by simpa using h);exact this
  rw[<-Rat.intCast_neg];congr 1;omega
 ·rename_i h;have h':¬z<0:=fun hz=>h (by have:=(Rat.intCast_lt_intCast (a:=z) (b:=0)).2 hz;simpa using this);congr 1;omega
def jA(m:List Int):Nat:=(eN m 3).toNat*729+(eN m 2).toNat*81+(eN m 1).toNat*9+(eN m 0).toNat
theorem amI{a b:List Int}(ha:a.length<=4)(hb:b.length<=4):aS a b=dw a b 4:=(tB (by omega)).symm
theorem ahV{a b:List Int}(ha:a.length<=4)(hb:b.length<=4)(h:aS a b<0):
  eN a 3<eN b 3∨(eN a 3=eN b 3/\(eN a 2<eN b 2∨(eN a 2=eN b 2/\(eN a 1<eN b 1∨(eN a 1=eN b 1/\eN a 0<eN b 0))))):=by
 rw[amI ha hb]at h;simp only[dw]at h;have z3:=vw (x:=eN a 3) (y:=eN b 3);have z2:=vw (x:=eN a 2) (y:=eN b 2);have z1:=vw (x:=eN a 1) (y:=eN b 1);have z0:=vw (x:=eN a 0) (y:=eN b 0);by_cases e3:eN a 3=eN b 3
 ·rw[if_pos e3]at h;refine .inr ⟨e3,?_⟩;by_cases e2:eN a 2=eN b 2
  ·rw[if_pos e2]at h;refine .inr ⟨e2,?_⟩;by_cases e1:eN a 1=eN b 1
   ·rw[if_pos e1]at h;refine .inr ⟨e1,?_⟩;by_cases e0:eN a 0=eN b 0
    ·rw[if_pos e0]at h;omega
    ·rw[if_neg e0]at h;exact z0.1 h
   ·rw[if_neg e1]at h;exact .inl (z1.1 h)
  ·rw[if_neg e2]at h;exact .inl (z2.1 h)
 ·rw[if_neg e3]at h;exact .inl (z3.1 h)
def nW(W:Rat):List Tm->Rat
 | []=>0
 |t::p=>dQ t.1*W^jA t.2+nW W p
theorem UD{W:Rat}(h:0<=W):∀n:Nat,0<=W^n
 |0=>by rw[Rat.pow_zero];decide
 |n+1=>by rw[Rat.pow_succ];exact Kci (UD h n) h
theorem UE{W:Rat}(h:1<=W):∀n:Nat,1<=W^n
 |0=>by rw[Rat.pow_zero];decide
 |n+1=>by rw[Rat.pow_succ];have h1:=UE h n;have:=Kbk h1 (show(0:Rat)<=W by grind);grind
theorem TF{W:Rat}(h:0<=W)(c:Rat)(m:List Int):0<=dQ c*W^jA m:=Kci (qB c) (UD h _)
theorem OB{W:Rat}(h:0<=W):∀p,0<=nW W p
 | []=>by simp only[nW];decide
 |t::p=>by have h1:=TF h t.1 t.2;have h2:=OB h p;simp only[nW];grind
def Pos(p:List Tm):Prop:=∀t∈p,∀i,0<=eN t.2 i
def jk(c:Rat):Prop:=∃z:Int,c=(z:Rat)
theorem jk.add{a b:Rat}:jk a->jk b->jk (a+b):=fun⟨x,hx⟩ ⟨y,hy⟩=>⟨x+y,by rw[hx,hy,Rat.intCast_add]⟩
theorem jk.mul{a b:Rat}:jk a->jk b->jk (a*b):=fun⟨x,hx⟩ ⟨y,hy⟩=>⟨x*y,by rw[hx,hy,Kbv]⟩
theorem jk.nat(n:Nat):jk (n:Rat):=⟨n,(KaX n).symm⟩
def IW(D F:Rat)(N:Nat)(p:List Tm):Prop:=∀t∈p,jA t.2<=N/\jk (t.1*(D*F^(N-jA t.2)))
theorem IW.cons{D F:Rat}{N:Nat}{t:Tm}{p:List Tm}:IW D F N (t::p)↔(jA t.2<=N/\jk (t.1*(D*F^(N-jA t.2))))/\IW D F N p:=by simp[IW]
theorem Dh(p:List Tm):lj p=bd p (-1,[]):=by rw[lj,b8,if_neg (by decide)]
def c4(m:List Int):Nat:=(((eN m 3).toNat*81+(eN m 2).toNat)*729+(eN m 1).toNat)*6561+(eN m 0).toNat
theorem alQ{a b:List Int}(ha:∀i,0<=eN a i)(hb:∀i,0<=eN b i)(la:a.length<=4)(lb:b.length<=4)(pa:jA a<=6560)(pb:jA b<=6560)(h:aS a b<0):c4 a<c4 b:=by have a0:=ha 0;have a1:=ha 1;have a2:=ha 2;have a3:=ha 3;have b0:=hb 0;have b1:=hb 1;have b2:=hb 2;have b3:=hb 3;have:=ahV la lb h;simp only[jA]at pa pb;simp only[c4,Zo,Zg,Zm,Zc,Zf,Zl,Zh,Zs,Zi,Zb,Zk,Zn,Zu,Zq,Zr,Zz];omega
theorem alR{a:List Int}(pa:jA a<=6560):c4 a<2^32:=by simp only[jA]at pa;simp only[c4,Zo,Zg,Zm,Zc,Zf,Zl,Zh,Zs,Zi,Zb,Zk,Zn,Zu,Zq,Zr,Zz];omega
structure Cn(D F W N0:Rat)(p:List Tm):Prop where
 i:IW D F 6560 p
 n:nW W p<=N0
 pos:Pos p
 ml:ML 4 p
 nF:az p
theorem Q9l{p:List Tm}:(∀t∈p,jA t.2<=6560)->Pos p->ML 4 p->fi p->p≠[]->p.length<=c4 (oW p).2+1:=by
 induction p with
 |nil=>intro _ _ _ _ h;exact absurd rfl h
 | cons t p ih=>
  intro hp hP hM hs _;cases p with
  |nil=>simp
  |cons s p=>have h1:=ih (fun x hx=>hp x (by simp[hx])) (fun x hx=>hP x (by simp[hx])) (fun x hx=>hM x (by simp[hx])) hs.2 (by simp);have h2:=hs.1 s (by simp);have h3:=vm t.2 s.2;have h4:=alQ (hP s (by simp)) (hP t (by simp)) (hM s (by simp)) (hM t (by simp)) (hp s (by simp)) (hp t (by simp)) (by omega);simp only[oW,List.headD_cons,KaW]at h1⊢;omega
theorem Cn.len{D F W N0:Rat}{p:List Tm}(h:Cn D F W N0 p):p.length<=2^32:=by
 by_cases h0:p=[]
 ·subst h0;simp
 ·have h1:=Q9l (fun t ht=>(h.i t ht).1) h.pos h.ml h.nF.s h0;have:=alR (h.i _ (IC h0)).1;omega
theorem RX{W:Rat}(h:1<=W):∀ {p:List Tm} {t:Tm},t∈p->dQ t.1<=nW W p
 | s::p,t,ht=>by
  have h0:(0:Rat)<=W:=by grind
  have h1:=OB h0 p;have h2:=TF h0 s.1 s.2;simp only[nW];rcases KaP.1 ht with rfl|ht
  ·have h3:=Kbt (UE h (jA t.2)) (qB t.1);grind
  ·have:=RX h ht;grind
theorem Cn.PB{d f w n0 L:Nat}{p:List Tm}(h:Cn d f w n0 p)(hd:0<d)(hf:0<f)(hw:0<w)(mi:0<n0)(hL:nl (n0*(d*f^6560))<L):PB L 6560 p:=by
 intro t ht;obtain⟨h1,z,hz⟩:=h.i t ht;have hw1:(1:Rat)<=(w:Rat):=by rw[<-Rat.intCast_natCast,show(1:Rat)=((1:Int):Rat)from rfl,Kb3];omega
 have hN:dQ t.1<=(n0:Rat):=by have:=RX hw1 ht;have:=h.n;grind
 have hX:(d:Rat)*(f:Rat)^(6560-jA t.2)=((d*f^(6560-jA t.2):Nat):Rat):=by rw[Kb9,Rat.natCast_pow]
 have uz:∀N k:Nat,k<=N->d*f^k<=d*f^N:=fun N k h=>Ka7 _ (KbE hf h);have VZ:=uz 6560 (6560-jA t.2) (Nat.sub_le _ _);have Fg:0<d*f^(6560-jA t.2):=Kce hd (KbN hf);rw[hX]at hz;generalize d*f^(6560-jA t.2)=X at *
 generalize d*f^6560=Y at *
 have Mz:((X:Int):Rat)≠0:=by rw[Ne,Ka6];omega
 have e:t.1=(z:Rat)/((X:Int):Rat):=by rw[<-hz,KaX];rw[KaX]at Mz;grind
 have FU:z.natAbs<=n0*Y:=by
  have h2:dQ (z:Rat)=dQ t.1*(X:Rat):=by rw[<-hz,DH];congr 1;rw[<-Rat.intCast_natCast,xC,KaD,KaX]
  rw[xC]at h2;have h3:(0:Rat)<=(X:Rat):=by rw[<-Rat.intCast_natCast,show(0:Rat)=((0:Int):Rat)from rfl,Kb3];omega
  have h4:=Kbk hN h3;rw[<-h2,<-Rat.natCast_mul,<-Rat.intCast_natCast,<-Rat.intCast_natCast,Kb3]at h4;have h5:=Ka7 n0 VZ;omega
 have hr:=EF z (X:Int) (by omega);rw[<-e,KaD]at hr;have g1:=fS FU;have g2:nl X<=nl (n0*Y):=by exact fS (Kaw VZ (Nat.le_mul_of_pos_left _ mi))
 have g3:1<=nl X:=by apply Decidable.byContradiction;intro hc;have:=xl.1 (show nl X=0 by omega);omega
 refine⟨by omega,⟨by have:=h.ml t ht;omega,fun x hx=>?_,fun x hx=>?_⟩,h.nF.c t ht⟩
 all_goals
  obtain⟨i,hi,rfl⟩:=Ka8 hx;have hp:=h.pos t ht i;rw[fj hi]at hp
 ·exact hp
 ·have hl:=h.ml t ht;simp only[jA]at h1;rw[<-fj hi];rw[<-fj hi]at hp;have:i=0∨i=1∨i=2∨i=3:=by omega
  rcases this with rfl|rfl|rfl|rfl<;>omega
def qO(p:List Tm):Nat:=(p.map fun t=>t.1.den).foldr (· * ·) 1
def m8(p:List Tm):Nat:=(p.map fun t=>t.1.num.natAbs).foldr (· + ·) 0
theorem Pk(p:List Tm):0<qO p:=by
 induction p with
 |nil=>simp[qO]
 |cons t p ih=>exact Kce (KaY t.1.den_nz) ih
theorem Iq:∀ {p:List Tm} {t:Tm},t∈p->t.1.den∣qO p
 |s::p,t,ht=>by
  rcases KaP.1 ht with rfl|ht
  ·exact Nat.dvd_mul_right _ _
  ·exact Kco (Iq ht) (Kdi _ _)
theorem ahW{p:List Tm}{K E:Nat}(hp:FW.PB K E p):nl (qO p)<=p.length*K+1:=by
 induction p with
 |nil=>simp[qO,jV]
 |cons t p ih=>have h1:=ih (PB.cons.1 hp).2;have h2:=(PB.cons.1 hp).1.c;have h3:=gV t.1.den (qO p);unfold rs at h2;rw[KaW,Nat.succ_mul];have e:qO (t::p)=t.1.den*qO p:=rfl;rw[e];omega
theorem ahX{p:List Tm}{K E:Nat}(hp:FW.PB K E p):nl (m8 p)<=p.length+K:=by
 induction p with
 |nil=>simp[m8,xQ]
 |cons t p ih=>have h1:=ih (PB.cons.1 hp).2;have h2:=(PB.cons.1 hp).1.c;have h3:=vD t.1.num.natAbs (m8 p);unfold rs at h2;have e:m8 (t::p)=t.1.num.natAbs+m8 p:=rfl;rw[e,KaW];omega
theorem ID{c:Rat}{L:Nat}(h:c.den∣L):jk (c*(L:Rat)):=by
 obtain⟨k,rfl⟩:=h;refine⟨c.num*(k:Int),?_⟩;have jL:=c.den_nz;have d1:c=(c.num:Rat)/((c.den:Int):Rat):=by
  conv=>lhs;rw[<-Rat.mkRat_self c]
  rw[Kb2,KaX]
 have k1:((c.den:Int):Rat)≠0:=by rw[Ne,Ka6];omega
 rw[Kb9,Kbv,KaX,<-Rat.intCast_natCast c.den];generalize((c.den:Int):Rat)=D at *
 generalize(c.num:Rat)=N at *
 rw[d1];grind
theorem aeC(c:Rat):dQ c*(c.den:Rat)=((c.num.natAbs:Nat):Rat):=by
 have d1:c*(c.den:Rat)=(c.num:Rat):=by
  have e:c=(c.num:Rat)/((c.den:Int):Rat):=by
   conv=>lhs;rw[<-Rat.mkRat_self c]
   rw[Kb2,KaX]
  have k1:((c.den:Int):Rat)≠0:=by rw[Ne,Ka6];have:=c.den_nz;omega
  rw[<-Rat.intCast_natCast];generalize((c.den:Int):Rat)=D at *
  generalize(c.num:Rat)=N at *
  rw[e];grind
 rw[<-xC,<-d1,DH];congr 1;rw[<-Rat.intCast_natCast,xC,KaD,KaX]
theorem rL{a b:Nat}(h:a<=b):(a:Rat)<=(b:Rat):=by rw[<-Rat.intCast_natCast,<-Rat.intCast_natCast,Kb3];omega
theorem TG(c:Rat):dQ c<=((c.num.natAbs:Nat):Rat):=by have h:=aeC c;have h1:(1:Rat)<=(c.den:Rat):=rL (a:=1) (KaY c.den_nz);have:=Kbt h1 (qB c);grind
end Go.FW
