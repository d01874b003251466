/- Part 3 of the proof of CertcheckChecks: FwNF, FwSu. Own lemmas; no conditions. -/
import Derived.Test.YtccppnepkfbpkaaGreatCertcheckChecksPart2
set_option maxHeartbeats 1000000
set_option linter.unusedSimpArgs false
set_option linter.unusedVariables false
set_option linter.unnecessarySimpa false
set_option maxRecDepth 100000
namespace Go.FW
open Go
variable {C : Ctx} {ρ : Nat -> Option Nat} {fr aA : Fr} {hp hp' : HP} {w w' : World} {K R : Qi}
def tZ(args:List PV)(G:Fr):Fr:=fun s=>if s<1000000 then(args[s]?).getD .undef else G s
def sL(r:PV)(F:Fr):Fr:=fun s=>if s=0 then r else if s<1000000 then .undef else F s
def Ctx.jE(C:Ctx)(n:Nat)(hn:n<=1000000):Ctx:={ C with N:=n,hN:=hn }
theorem sF.jE{C:Ctx}{n:Nat}{hn:n<=1000000}{β:Nat}{hb:HB}:sF (C.jE n hn) ρ hp w β hb↔sF C ρ hp w β hb:=⟨fun h=>⟨h.jU,h.len,h.cB,h.fix,h.ro⟩,fun h=>⟨h.jU,h.len,h.cB,h.fix,h.ro⟩⟩
def xp(P:Program)(f:FuncId)(args:List PV)(G:Fr)(ax:HP)(a9:PV->Fr->HP->Prop):Prop:=
 oZ P f/\∀(C:Ctx)(ρ:Nat->Option Nat)(bb:Array Value)(w:World),C.P=P->C.w0=w->C.N=args.length->Qr C ρ (tZ args G) ax bb w->
  Calls P f bb w fun e w'=>∃v ρ' r F H,e= .returned v/\Qr (C.jE 1 (by decide)) ρ' (sL r F) H #[v] w'/\a9 r F H
def PV.Ko:PV->Bool
 |.aw β _ _=>bC β
 |.int .. | .bool _| .aa=>true
 |_=>false
theorem Qm.BO{p:PV}{v:Value}(h:Qm C ρ hp w p v)(h1:p.Ko=true):cx C ρ hp w p v:=by
 cases p with
 |aw β o n=>exact⟨h1,h⟩
 |int k n=>exact h
 |bool b=>exact h
 |aa=>exact h
 |_=>cases h1
def BV(fr:Fr)(s n:Nat)(cs:List PV):Prop:=∃γ i o e ty xs,fr s= .np γ i o/\fr γ= .aF γ e ty xs/\∃h:i<xs.length,o+n<=e/\rR true n o (xs[i]'h)= .aM cs
theorem apr{P:Program}(hP:C.P=P){a:Act}{x t n:Nat}{cs:List PV}(hc:gu P (.cell x t)=some (.cell x n true))(h:Qr C ρ fr hp a.tmps w)(hn:BV fr x n cs):
  ∃vs:Array Value,(jL a.tmps (.cell x t)).run P w= .ok (.agg vs) w/\vs.size=cs.length/\∀(i:Nat)(y:PV),cs[i]? =some y->cx C ρ hp w y (vs.getD i undef):=by
 subst hP;obtain⟨γ,i,o,e,ty,xs,h1,h2,hi,hle,hr⟩:=hn;simp only[gu,Kab,Kaa]at hc;obtain⟨n',om,ag,ji,he⟩:=hc;cases he;have hx:=h.cE x;rw[h1]at hx;obtain⟨hB,b,hb,g1,g2,g3⟩:=hx.FF;have ba:=h.cE γ;rw[h2]at ba;obtain⟨_,vX,b',au,cur,cap,q1,q2,q3,q4,q5,q6,q7,q8,q9,wL,tr⟩:=ba;rw[g1]at q1;cases q1;rw[g2]at q2;cases q2;rw[q4]at g3;have fj:=Kag hi;have di:=wL i _ fj;have pg:∀j,j<n->i*e+o+j<cur.size:=fun j hj=>by rw[q7];exact mR (show i<cap by omega) hle hj
 have bS:=yY (P:=C.P) (t:=t) (b:=b) (off:=i*e+o) (vs:=Array.ofFn (n:=n) fun j=>cur.getD (i*e+o+j.val) undef) om ji (fun h=>by cases h) (by simp) w
  (fun j hj=>by rw[qI (f:=fun j=>cur.getD (i*e+o+j) undef) hj];exact kU q6 (pg j hj))
 have fE:=H8 (C:=C) (ρ:=ρ) (hp:=hp) (w:=w) (ag:=true) (n:=n) (off:=o) (x:=xs[i]) (vs:=Array.ofFn (n:=n) fun j=>cur.getD (i*e+o+j.val) undef) (by simp) (by rw[di];exact hle) (fun h=>by cases h) (fun j y hj hy=>by rw[qI (f:=fun j=>cur.getD (i*e+o+j) undef) hj,KbX];exact tr i _ fj (o+j) y hy);rw[hr]at fE;obtain⟨vs,ev,k1,k2⟩:=fE;refine⟨vs,?_,k1,k2⟩;rw[<-ev,<-bS];simp only[jL,g3,asAddr,Kan,KaU,Kak]
def sM(rs:List RV)(a9:PV->Fr->HP->Prop):Qi:=fun fr hp=>∃aA hp',Wk fr hp aA hp'/\
 (fI rs (fun r=>a9 r aA (Qy hp' (rs.flatMap (lr aA)))) aA hp'∨(∃s,rs=[.t s]/\a9 (aA s) aA hp')∨(∃s t,rs=[.t s,.t t]/\(aA s).Ko=true/\(aA t).Ko=true/\a9 (.dZ [aA s,aA t]) aA hp')∨∃s n b cs,rs=[.cell s n true,b]/\lr aA b=[]/\ki aA hp' b/\BV aA s n cs/\a9 (.cP cs (jD aA hp' b)) aA hp')
theorem Lk{s n:Nat}{b:RV}{cs:List PV}{a9:PV->Fr->HP->Prop}(h1:BV fr s n cs)(h2:lr fr b=[])(h3:ki fr hp b)(h:a9 (.cP cs (jD fr hp b)) fr hp):sM [.cell s n true,b] a9 fr hp:=⟨fr,hp,Wk.refl _ _,.inr (.inr (.inr ⟨s,n,b,cs,rfl,h2,h3,h1,h⟩))⟩
theorem adx{rs:List RV}{a9:PV->Fr->HP->Prop}:KM (sM rs a9) (sM rs a9):=by rintro f f' hp hf ⟨aA,hp',h1,h2⟩;exact⟨aA,hp',hf.wk.trans h1,h2⟩
theorem PE{rs:List RV}{a9:PV->Fr->HP->Prop}:eM (sM rs a9) []:=⟨adx,.nil⟩
theorem xa {P : Program} {f : FuncId} {fn : Func} {sf : ay} {args : List PV} {G : Fr} {ax : HP} {a9 : PV -> Fr -> HP -> Prop} (hm : P.follows .mixedOrders = true) (hf : P.funcs[f]? = some fn) (oo : (fn.name != "runtime.NumGoroutine") = true) (hc : Qe P fn = some sf.strip) (hn : args.length <= sf.n /\ sf.n <= 1000000)
  (hv:∀C:Ctx,C.P=P->vc C (sM sf.rs a9) [.c sf.body] (tZ args G) ax):xp P f args G ax a9:=by
 simp only[Qe,Kab,Kaa]at hc;obtain⟨c,hb,sb,jk,rs,cN,Bo⟩:=hc;obtain⟨n,Kr,body⟩:=sf;simp only[ay.strip,ay.mk.injEq]at Bo;obtain⟨rfl,rfl,rfl⟩:=Bo;refine⟨by simp[oZ,hf,hb];simpa using oo,fun C ρ bb w hP hw hN hs=>?_⟩;subst hP;refine calls_of_wp hf hb ?_;have kL:bb.size=args.length:=by rw[hs.sz,hN]
 have rO:(bb++Array.replicate (fn.ntmps-bb.size) undef).size=fn.ntmps:=by simp at hn ⊢;omega
 have ov:Qr (C.jE fn.ntmps hn.2) ρ (tZ args G) ax (bb++Array.replicate (fn.ntmps-bb.size) undef) w:=by
  refine⟨rO,hs.ext,hs.eJ,fun β hb h=>sF.jE.2 (hs.own β hb h),hs.inj,fun i=>?_⟩;have ba:=hs.cE i;by_cases hi:i<args.length
  ·have e:(bb++Array.replicate (fn.ntmps-bb.size) undef).getD i undef=bb.getD i undef:=by rw[ko,if_pos (by omega)]
   rw[e];exact ba
  ·unfold tZ at ba⊢;split
   ·rw[Kcw (by omega)];trivial
   ·rename_i h2;rw[if_neg h2]at ba;have e1:bb.getD i undef=undef:=by simp[Array.getD,kL,hi]
    have e2:(bb++Array.replicate (fn.ntmps-bb.size) undef).getD i undef=undef:=by simp only[Array.getD];rw[dif_neg (by rw[rO];simp at hn;omega)]
    rw[e2];rw[e1]at ba;exact ba
 have fin:∀(fr:Fr) (hp:HP) (a:Act) (w':World),a.defers=[]->dD (C.jE fn.ntmps hn.2) fr hp a.tmps w'->sM rs a9 fr hp->
   a.defers=[]/\∃v,(results fn a.tmps).run C.P w'= .ok v w'/\∃v' ρ' r F H,Ending.returned v= .returned v'/\Qr (C.jE 1 (by decide)) ρ' (sL r F) H #[v'] w'/\a9 r F H:=by
  rintro fr hp a w' hd wu ⟨mc,fy,JZ,hr⟩;obtain⟨wO,fi⟩:=JZ _ _ _ wu;have ghost:∀ {bI:HP} {r:PV} {v:Value},Qr (C.jE fn.ntmps hn.2) wO mc bI a.tmps w'->Qm C wO bI w' r v->Qr (C.jE 1 (by decide)) wO (sL r mc) bI #[v] w':=by
   intro bI r v dA th;refine⟨rfl,dA.ext,dA.eJ,fun β hb h=>sF.jE.2 (sF.jE.1 (dA.own β hb h)),dA.inj,fun i=>?_⟩;unfold sL;split
   ·rename_i hi;subst hi;exact th
   ·split
    ·trivial
    ·rename_i h0 h1;have ba:=dA.cE i;have e1:a.tmps.getD i undef=undef:=by have hz:a.tmps.size=fn.ntmps:=dA.sz;have rG:fn.ntmps<=1000000:=hn.2;simp only[Array.getD];rw[dif_neg (by omega)]
     have e2:(#[v]:Array Value).getD i undef=undef:=by simp only[Array.getD];rw[dif_neg (by simp;omega)]
     rw[e2];rw[e1]at ba;exact ba
  rcases hr with hr|⟨s,Bm,gV⟩|⟨s,t,Bm,dA,Te,gV⟩|⟨s,n,b,cs,Bm,Jy,aL,rH,gV⟩
  ·obtain⟨v,r,h1,h2,_,h3⟩:=GZ (C:=C.jE fn.ntmps hn.2) rfl cN fi hr;refine⟨hd,v,h1,v,wO,r,mc,_,rfl,ghost (fi.freeze _) (Qm.FG h2),h3⟩
  ·subst Bm;obtain⟨x,hx⟩:∃x,fn.results.toList=[x]:=by have:=lM cN;exact Kcr.1 (by rw[<-this.1];rfl)
   have jC:gu C.P x=some (.t s):=by rw[hx]at cN;simp only[Kb4,KcT,KbK,Kb7,Kab,KaA]at cN;obtain⟨y,h1,_,_,h2⟩:=cN;simp only[Kch]at h2;rw[<-h2.1];exact h1
   have qy:x= .tmp s:=by
    cases x with
    |tmp t=>simpa[gu]using jC
    |cell y t=>simp[gu,Kab]at jC
   subst qy;have fb:(results fn a.tmps).run C.P w'= .ok (a.tmps.getD s undef) w':=by have e:results fn a.tmps=(do let vs<-fn.results.mapM (jL a.tmps);pure (if h:vs.size=1 then vs[0]else .tuple vs)):=rfl;rw[e,Kbr,hx];simp[Kan,jL]
   exact⟨hd,_,fb,_,wO,_,mc,fy,rfl,ghost fi (fi.cE s),gV⟩
  ·subst Bm;have hlen:=lM cN;obtain⟨x,y,hx⟩:∃x y,fn.results.toList=[x,y]:=by
    have h2:fn.results.toList.length=2:=by rw[<-hlen.1];rfl
    match h3:fn.results.toList,h2 with
    | [x,y],_=>exact⟨x,y,rfl⟩
   rw[hx]at cN;simp only[Kb4,KcT,KbK,Kb7,Kab,KaA]at cN;obtain⟨u1,k1,l1,⟨u2,k2,l2,k3,k4⟩,k5⟩:=cN;subst k3 k4;simp only[Kch,and_true]at k5;obtain⟨rfl,rfl⟩:=k5;have tm:∀ {z:ResultVar} {s:Nat},gu C.P z=some (.t s)->z= .tmp s:=fun {z s} hz=>by
    cases z with
    |tmp t=>simpa[gu]using hz
    |cell y t=>simp[gu,Kab]at hz
   obtain rfl:=tm k1;obtain rfl:=tm k2;have fb:(results fn a.tmps).run C.P w'= .ok (.tuple #[a.tmps.getD s undef,a.tmps.getD t undef]) w':=by have e:results fn a.tmps=(do let vs<-fn.results.mapM (jL a.tmps);pure (if h:vs.size=1 then vs[0]else .tuple vs)):=rfl;rw[e,Kbr,hx];simp[Kan,jL]
   refine⟨hd,_,fb,_,wO,_,mc,fy,rfl,ghost (r:=.dZ [mc s,mc t]) fi ⟨#[a.tmps.getD s undef,a.tmps.getD t undef],rfl,rfl,fun i x hi=>?_⟩,gV⟩
   match i,hi with
   |0,hi=>simp at hi;subst hi;exact(fi.cE s).BO dA
   |1,hi=>simp at hi;subst hi;exact(fi.cE t).BO Te
   |i+2,hi=>simp at hi
  ·subst Bm;have hlen:=lM cN;obtain⟨x,y,hx⟩:∃x y,fn.results.toList=[x,y]:=by
    have h2:fn.results.toList.length=2:=by rw[<-hlen.1];rfl
    match h3:fn.results.toList,h2 with
    | [x,y],_=>exact⟨x,y,rfl⟩
   rw[hx]at cN;simp only[Kb4,KcT,KbK,Kb7,Kab,KaA]at cN;obtain⟨u1,k1,l1,⟨u2,k2,l2,k3,k4⟩,k5⟩:=cN;subst k3 k4;simp only[Kch,and_true]at k5;obtain⟨rfl,rfl⟩:=k5;obtain⟨x',t',rfl⟩:∃x' t',x= .cell x' t':=by
    cases x with
    |tmp t=>simp[gu]at k1
    |cell y t=>exact⟨y,t,rfl⟩
   have yC:x'=s:=by simp only[gu,Kab,Kaa]at k1;obtain⟨_,_,_,_,he⟩:=k1;cases he;rfl
   subst yC;obtain⟨vs,q1,q2,q3⟩:=apr (C:=C.jE fn.ntmps hn.2) rfl k1 fi rH;obtain⟨u,r1,r2⟩:=KZ (C:=C.jE fn.ntmps hn.2) rfl k2 fi aL;rw[Jy,za]at r2;have fb:(results fn a.tmps).run C.P w'= .ok (.tuple #[.agg vs,u]) w':=by have e:results fn a.tmps=(do let vs<-fn.results.mapM (jL a.tmps);pure (if h:vs.size=1 then vs[0]else .tuple vs)):=rfl;rw[e,Kbr,hx];have q1':(jL a.tmps (.cell x' t')).run C.P w'= .ok (.agg vs) w':=q1;have r1':(jL a.tmps y).run C.P w'= .ok u w':=r1;simp[Kan,q1',r1']
   exact⟨hd,_,fb,_,wO,_,mc,fy,rfl,ghost (r:=.cP cs _) fi ⟨vs,u,rfl,q2,q3,r2⟩,gV⟩
 exact GK (C:=C.jE fn.ntmps hn.2) (R:=sM rs a9) hm c body [] _ (tZ args G) ax _ w jk ⟨fun fr hp a w' hd hs hv=>(by rw[tM]at hv;exact fin fr hp a w' hd hs hv),fun id ee he=>(by simp[FW.bW]at he),fin⟩ rfl ⟨ρ,ov⟩ (hv (C.jE fn.ntmps hn.2) rfl)
structure sN(C:Ctx)(hp:HP)(ax:HP)(gv:Nat->Option Nat):Prop where
 g:∀β γ,gv β=some γ->∃hb,hp γ=some hb/\bC β=true/\(eI β=true->ax β=some ⟨hb.e,hb.ty,hb.xs,true⟩)/\(eI β=false->ax β=some hb/\hb.fz=false/\bC γ=true/\(aO β=false->aO γ=false))
 a:∀β,ax β≠none->∃γ,gv β=some γ
 i:∀β bB γ,gv β=some γ->gv bB=some γ->β=bB
def gn(gv:Nat->Option Nat):Nat->Option Nat:=fun β=>if eI β=true then none else gv β
theorem DL{gv:Nat->Option Nat}{β γ:Nat}(h:gn gv β=some γ):eI β=false/\gv β=some γ:=by
 unfold gn at h;split at h
 ·cases h
 ·rename_i hr;exact⟨by simpa using hr,h⟩
theorem xF{gv:Nat->Option Nat}{β:Nat}(h:eI β=false):gn gv β=gv β:=by unfold gn;rw[h];rfl
theorem sN.n{C:Ctx}{hp ax:HP}{gv:Nat->Option Nat}(hh:sN C hp ax gv)(β γ:Nat)(h:gn gv β=some γ):∃hb,ax β=some hb/\hp γ=some hb/\hb.fz=false/\bC β=true/\bC γ=true/\(aO β=false->aO γ=false):=by obtain⟨hr,h⟩:=DL h;obtain⟨hb,h1,h2,_,h4⟩:=hh.g β γ h;obtain⟨k1,k2,k3,k4⟩:=h4 hr;exact⟨hb,k1,h1,k2,h2,k3,k4⟩
theorem sN.s{C:Ctx}{hp ax:HP}{gv:Nat->Option Nat}(hh:sN C hp ax gv)(β γ:Nat)(h:gv β=some γ):∃hb au,hp γ=some hb/\ax β=some au/\au.e=hb.e/\au.ty=hb.ty/\au.xs=hb.xs/\(au.fz=false->hb=au/\eI β=false)/\(eI β=true->au.fz=true)/\bC β=true:=by
 obtain⟨hb,h1,h2,h3,h4⟩:=hh.g β γ h;cases hr:eI β with
 |true=>exact⟨hb,_,h1,h3 hr,rfl,rfl,rfl,(fun h=>by cases h),fun _=>rfl,h2⟩
 |false=>obtain⟨k1,k2,_⟩:=h4 hr;exact⟨hb,hb,h1,k1,rfl,rfl,rfl,(fun _=>⟨rfl,rfl⟩),(fun h=>by cases h),h2⟩
def ua (C:Ctx) (ρ:Nat->Option Nat) (fr:Fr) (hp ax:HP) (tmps:Array Value) (w:World) (gv:Nat->Option Nat) (hs:Qr C ρ fr hp tmps w) (hh:sN C hp ax gv) (n:Nat) (hn:n<=1000000):Ctx where
 P:=C.P
 N:=n
 w0:=w
 X0:=fun b=>aE C ρ hp b/\¬∃β γ,gn gv β=some γ/\ρ γ=some b
 AL:=fun b hb=>z9 hs b hb.1
 hN:=hn
 fx:=fun β=>if aO β=true then(gv β).bind ρ else none
 oh :=fun β b h=>by
  split at h
  ·cases hq:gv β with
   |none=>rw[hq]at h;cases h
   |some γ=>rw[hq]at h;obtain⟨hb,h2,_⟩:=hh.g β γ hq;have:=(hs.own γ hb h2).cB;rw[show ρ γ=some b from h]at this;exact⟨this.2.1,fun hr hx=>hx.2 ⟨β,γ,(xF hr).trans hq,h⟩⟩
  ·cases h
 Z0:=fun b=>∃β γ,gn gv β=some γ/\aO β=false/\ρ γ=some b
 EG :=fun b ⟨β,γ,h1,h2,h3⟩=>by
  obtain⟨hb,_,k2,_⟩:=hh.n β γ h1;have:=(hs.own γ hb k2).cB;rw[h3]at this;refine⟨this.2.1,fun hx=>hx.2 ⟨β,γ,h1,h3⟩,fun bB hf=>?_⟩;split at hf
  ·rename_i hy;cases hq:gv bB with
   |none=>rw[hq]at hf;cases hf
   |some aZ=>rw[hq]at hf;obtain⟨au,wE,_⟩:=hh.g bB aZ hq;have e:=hs.inj γ aZ b (by simp[k2]) (by simp[wE]) h3 hf;subst e;have e2:=hh.i β bB γ (DL h1).2 hq;subst e2;rw[h2]at hy;cases hy
  ·cases hf
theorem VT{tmps:Array Value}{w:World}{ax:HP}{gv:Nat->Option Nat}{τ:Nat->Nat}{args:List PV}{aT:List PV}{G:Fr}{av:Array Value}(hs:Qr C ρ fr hp tmps w)(hh:sN C hp ax gv)
  (Bw:∀β γ,gv β=some γ->τ γ=β) (eH:av.size=args.length) (cL:args.map (cC τ)=aT) (hav:∀(i:Nat)(x:PV),args[i]? =some x->Qm C ρ hp w x (av.getD i undef))
  (mr:∀x∈args,∀γ∈x.refs++x.aR,∃β,gv β=some γ) (hG:∀s,1000000<=s->G s= .undef∨∃s',1000000<=s'/\G s=cC τ (fr s')/\∀γ∈(fr s').refs++(fr s').aR,∃β,gv β=some γ) (cQ:aT.length<=1000000):
  Qr (ua C ρ fr hp ax tmps w gv hs hh aT.length cQ) (fun β=>(gv β).bind ρ) (tZ aT G) ax av w:=by
 subst cL;have hX:∀b,aE (ua C ρ fr hp ax tmps w gv hs hh (args.map (cC τ)).length cQ) (fun β=>(gv β).bind ρ) ax b->aE C ρ hp b:=by
  rintro b (hx|⟨β,hb,h1,h2,h3⟩)
  ·exact hx.1
  ·cases hq:gv β with
   |none=>simp only[hq]at h3;cases h3
   |some γ=>simp only[hq,Kb9]at h3;obtain⟨aN,au,k2,k1,_,_,_,k6,_⟩:=hh.s β γ hq;rw[h1]at k1;cases k1;exact .inr ⟨γ,aN,k2,by rw[(k6 h2).1];exact h2,h3⟩
 have hr:∀γ,(∃β,gv β=some γ)->ud τ ρ (fun β=>(gv β).bind ρ) hp ax γ:=fun γ ⟨β,aj⟩=>by
  obtain⟨hb,dv,k2,k1,k3,k4,k5,_,_,k8⟩:=hh.s β γ aj;refine⟨?_,fun au h'=>?_,fun _=>by rw[Bw β γ aj];exact k8⟩
  ·show(gv (τ γ)).bind ρ=ρ γ;rw[Bw β γ aj,aj];rfl
  ·rw[k2]at h';cases h';exact⟨dv,by rw[Bw β γ aj];exact k1,k3,k4,k5⟩
 refine⟨by rw[eH];simp[ua],Ext.refl _ _,fun _ _ _ _ _ h=>h,fun β hb aj=>?_,fun β δ b h1 h2 h3 h4=>?_,fun i=>?_⟩
 ·obtain⟨γ,ah⟩:=hh.a β (by simp[aj]);obtain⟨aN,au,k2,k1,k3,k4,k5,k6,k7,_⟩:=hh.s β γ ah;rw[aj]at k1;cases k1;obtain⟨q1,q2,q3,q4,q5⟩:=hs.own γ aN k2;refine⟨by rw[k3];exact q1,by rw[k3,k5];exact q2,?_,fun hy=>?_,k7⟩
  ·simp only[ah,Kb9];cases hr:ρ γ with
   |none=>rw[hr]at q3;rw[k5];exact q3
   | some b=>
    rw[hr]at q3;refine⟨?_,q3.2.1,q3.2.2.move rfl k3 k4 k5 fun q u hq=>Qp.sub hq hX⟩;unfold Ctx.cls;split
    ·rename_i hy;show(if aO β=true then(gv β).bind ρ else none)=some b;rw[if_pos hy,ah];exact hr
    ·rename_i hy;exact .inr ⟨β,γ,(xF (xu (by simpa using hy))).trans ah,by simpa using hy,hr⟩
  ·show(gv β).bind ρ=(if aO β=true then(gv β).bind ρ else none)
   rw[if_pos hy]
 ·obtain⟨yQ,e1⟩:=hh.a β h1;obtain⟨TY,e2⟩:=hh.a δ h2;simp only[e1,Kb9]at h3;simp only[e2,Kb9]at h4;obtain⟨aN,k1,_⟩:=hh.g β yQ e1;obtain⟨dv,k2,_⟩:=hh.g δ TY e2;have:=hs.inj yQ TY b (by simp[k1]) (by simp[k2]) h3 h4;subst this;exact hh.i β δ yQ e1 e2
 ·unfold tZ;split
  ·rw[Kas];cases hi:args[i]? with
   |none=>trivial
   |some x=>simp only[KbY,Kba];exact(hav i x hi).fR hX fun γ ah=>hr γ (mr x (Kaj hi) γ ah)
  ·rename_i hi;have e1:av.getD i undef=undef:=by simp only[Array.getD];rw[dif_neg (by simp at cQ;omega)]
   rcases hG i (by omega)with e|⟨s',ek,e,hn⟩
   ·rw[e];trivial
   ·rw[e,e1];have ba:=hs.cE s';have e2:tmps.getD s' undef=undef:=by simp only[Array.getD];rw[dif_neg (by rw[hs.sz];have:=C.hN;omega)]
    rw[e2]at ba;exact ba.fR hX fun γ ah=>hr γ (hn γ ah)
theorem YR{tmps:Array Value}{ax H bI:HP}{gv eo:Nat->Option Nat}{σ:Nat->Nat}{F fh:Fr}{r:PV}{v:Value}{d:Option Nat}{n:Nat}{hn:n<=1000000}{mH:Nat->Option Nat}(hs:Qr C ρ fr hp tmps w)(hh:sN C hp ax gv)
  (h2:Qr ((ua C ρ fr hp ax tmps w gv hs hh n hn).jE 1 (by decide)) mH (sL r F) H #[v] w') (hd:∀x,d=some x->x<C.N)
  (e1:∀γ β,eo γ=some β->H β≠none/\σ β=γ/\bC γ=true/\((aO β=true/\gn gv β=some γ)∨(aO β=false/\aO γ=false/\(hp γ=none∨∃bB,gn gv bB=some γ))))
  (e2:∀β γ,gn gv β=some γ->aO β=true->eo γ=some β)
  (q1:∀γ β,eo γ=some β->bI γ=H β) (q2:∀γ,eo γ=none->(∃β,gn gv β=some γ)->bI γ=none) (q3:∀γ,eo γ=none->(¬∃β,gn gv β=some γ)->bI γ=hp γ)
  (hS:∀s,fh s= .undef∨
   (d≠some s/\fh s=fr s/\(∀γ∈(fr s).refs++(fr s).aR,(¬∃β,gn gv β=some γ)∨∃β hb au,gn gv β=some γ/\aO β=true/\hp γ=some hb/\H β=some au/\au.e=hb.e/\hb.xs.length<=au.xs.length)/\∀γ e ty xs,fr s= .aF γ e ty xs->¬∃β,gn gv β=some γ)∨
   (d=some s/\fh s=cC σ r/\∀β∈r.refs++r.aR,eo (σ β)=some β)∨
   (∃s',1000000<=s'/\(∃γ e ty xs,F s'= .aF γ e ty xs)/\fh s=cC σ (F s')/\∀β∈(F s').refs++(F s').aR,eo (σ β)=some β)):
  dD C fh bI (tX tmps d v) w':=by
 obtain⟨Yg,vR⟩:∃f:Nat->Prop,f=fun b=>∃β γ,gn gv β=some γ/\ρ γ=some b:=⟨_,rfl⟩
 have yX:∀b,Yg b->aE C ρ hp b:=fun b hb=>by rw[vR]at hb;obtain⟨β,γ,h1,h3⟩:=hb;obtain⟨hb,_,k2,k3,_⟩:=hh.n β γ h1;exact .inr ⟨γ,hb,k2,k3,h3⟩
 have jz:Ext Yg w w':=h2.ext.mono fun b _ hb=>by
  rw[vR];rcases hb with⟨β,hr,hb⟩|⟨β,γ,h1,_,h3⟩
  ·have hb:(if aO β=true then(gv β).bind ρ else none)=some b:=hb;split at hb
   ·cases hq:gv β with
    |none=>rw[hq]at hb;cases hb
    |some γ=>rw[hq]at hb;exact⟨β,γ,(xF hr).trans hq,hb⟩
   ·cases hb
  ·exact⟨β,γ,h1,h3⟩
 have FQ:∀b,Yg b->∃β γ,gn gv β=some γ/\ρ γ=some b/\C.cls γ b/\hp γ≠none/\eI γ=false:=fun b hb=>by
  rw[vR]at hb;obtain⟨β,γ,h1,h3⟩:=hb;obtain⟨hb,_,k2,k3,_⟩:=hh.n β γ h1;have:=(hs.own γ hb k2).cB;rw[h3]at this;refine⟨β,γ,h1,h3,this.1,by simp[k2],?_⟩;cases hR:eI γ with
  |false=>rfl
  |true=>have:=(hs.own γ hb k2).ro hR;rw[k3]at this;cases this
 have BF:∀γ b,hp γ≠none->(¬∃β,gn gv β=some γ)->ρ γ=some b->¬Yg b:=fun γ b hk s7 hr hy=>by obtain⟨β,aZ,h1,h3,_,h5,_⟩:=FQ b hy;have:=hs.inj γ aZ b hk h5 hr h3;subst this;exact s7 ⟨β,h1⟩
 have yK:∀β hb,H β=some hb->sF (ua C ρ fr hp ax tmps w gv hs hh n hn) mH H w' β hb:=fun β hb h=>sF.jE.1 (h2.own β hb h);have En:∀β γ,aO β=true->gn gv β=some γ->H β≠none->mH β=ρ γ:=fun β γ hy hg hH=>by obtain⟨hb,hq⟩:=Kbm.1 hH;have:=(yK β hb hq).fix hy;rw[this];show(if aO β=true then(gv β).bind ρ else none)=ρ γ;rw[if_pos hy,(DL hg).2];rfl
 have Rx:∀β hb b,aO β=false->H β=some hb->mH β=some b->w.heap.size<=b∨Yg b:=fun β hb b hy hH hr=>by
  have:=(yK β hb hH).cB;rw[hr]at this;rcases Ctx.uj this.1 hy with h|⟨bB,aZ,k1,_,k3⟩
  ·exact .inl h
  ·exact .inr (by rw[vR];exact⟨bB,aZ,k1,k3⟩)
 have amG:∀β hb b,aO β=false->H β=some hb->mH β=some b->C.w0.heap.size<=b∨C.Z0 b:=fun β hb b hy hH hr=>by
  have:=(yK β hb hH).cB;rw[hr]at this;rcases Ctx.uj this.1 hy with h|⟨bB,aZ,k1,k2,k3⟩
  ·exact .inl (KaO hs.ext.size h)
  ·obtain⟨au,_,l2,_,_,_,l6⟩:=hh.n bB aZ k1;have:=(hs.own aZ au l2).cB;rw[k3]at this;exact Ctx.uj this.1 (l6 k2)
 obtain⟨ρ',bl⟩:∃f:Nat->Option Nat,f=fun γ=>match eo γ with|some β=>mH β|none=>ρ γ:=⟨_,rfl⟩
 have rs:∀γ β,eo γ=some β->ρ' γ=mH β:=fun γ β h=>by rw[bl];simp[h]
 have rn:∀γ,eo γ=none->ρ' γ=ρ γ:=fun γ h=>by rw[bl];simp[h]
 have EF:∀b,aE C ρ' bI b->aE (ua C ρ fr hp ax tmps w gv hs hh n hn) mH H b:=by
  rintro b (hx|⟨γ,hb,h1,h3,h4⟩)
  ·refine .inl ⟨.inl hx,fun hy=>?_⟩;obtain⟨_,γ,_,_,h5,_,h7⟩:=FQ b (by rw[vR];exact hy);exact Ctx.Ek h5 h7 hx
  ·cases hq:eo γ with
   |some β=>rw[q1 γ β hq]at h1;rw[rs γ β hq]at h4;exact .inr ⟨β,hb,h1,h3,h4⟩
   | none=>
    rw[rn γ hq]at h4;by_cases hg:∃β,gn gv β=some γ
    ·rw[q2 γ hq hg]at h1;cases h1
    ·rw[q3 γ hq hg]at h1;exact .inl ⟨.inr ⟨γ,hb,h1,h3,h4⟩,fun hy=>BF γ b (by simp[h1]) hg h4 (by rw[vR];exact hy)⟩
 have vQ:∀b,b<w.heap.size->aE C ρ' bI b->aE C ρ hp b:=fun b hb hx=>by
  rcases EF b hx with hx|⟨β,Jc,h1,h3,h4⟩
  ·exact hx.1
  ·by_cases hy:aO β=true
   ·have:=(yK β Jc h1).fix hy;rw[h4]at this;have this:some b=(if aO β=true then(gv β).bind ρ else none):=this;rw[if_pos hy]at this;have hR:eI β=false:=by
     cases hR:eI β with
     |false=>rfl
     |true=>have:=(yK β Jc h1).ro hR;rw[h3]at this;cases this
    cases hq:gv β with
    |none=>rw[hq]at this;cases this
    |some γ=>rw[hq]at this;exact yX b (by rw[vR];exact⟨β,γ,(xF hR).trans hq,this.symm⟩)
   ·rcases Rx β Jc b (by simpa using hy) h1 h4 with h|h
    ·omega
    ·exact yX b h
 have aH:lZ w w' (aE C ρ hp) (aE C ρ' bI):=⟨fun b hb fP=>jz.block b hb fun hy=>fP (yX b hy),fun b hb fP hx=>fP (vQ b hb hx),jz.size⟩
 have Ru:∀β γ b,aO β=true->gn gv β=some γ->ρ γ=some b->∀e cap,cV w b e cap->cV w' b e cap:=fun β γ b hy hg hr e cap hc=>by refine h2.eJ β b ?_ e cap hc;show(if aO β=true then(gv β).bind ρ else none)=some b;rw[if_pos hy,(DL hg).2];exact hr
 refine⟨ρ',?_,?_,fun β b hb e cap hc=>?_,fun γ hb ah=>?_,fun γ δ b g1 g2 g3 g4=>?_,fun s=>?_⟩
 ·cases d with
  |none=>exact hs.sz
  |some d=>simp only[tX];simpa using hs.sz
 ·refine hs.ext.trans' jz fun b hb hy=>?_;obtain⟨_,_,_,_,h5,_,h7⟩:=FQ b hy;exact(Ctx.El h5 h7).resolve_left (by omega)
 ·have h1:=hs.eJ β b hb e cap hc;by_cases hy:Yg b
  ·obtain⟨Kz,yQ,k1,k3,k4,k5,_⟩:=FQ b hy;by_cases hY:aO Kz=true
   ·exact Ru Kz yQ b hY k1 k3 e cap h1
   ·obtain⟨_,_,_,_,_,_,l6⟩:=hh.n Kz yQ k1;exact absurd hb (Ctx.KC (Ctx.uj k4 (l6 (by simpa using hY))))
  ·exact kV (jz.block b (lf h1) hy) h1
 ·cases hq:eo γ with
  | some β=>
   have hH:H β=some hb:=by rw[<-q1 γ β hq];exact ah
   obtain⟨k1,k2,k3,k4⟩:=e1 γ β hq;obtain⟨o1,o2,o3,o4,o5⟩:=yK β hb hH;refine⟨o1,o2,?_,fun hy=>?_,fun hR=>?_⟩
   ·rw[rs γ β hq];cases hr:mH β with
    |none=>rw[hr]at o3;exact o3
    | some b=>
     rw[hr]at o3;refine⟨?_,o3.2.1,o3.2.2.move rfl rfl rfl rfl fun q u hq=>Qp.sub hq EF⟩;rcases k4 with⟨k4,k5⟩|⟨k4,k5,_⟩
     ·have e:=En β γ k4 k5 k1;rw[hr]at e;obtain⟨au,_,l2,_⟩:=hh.n β γ k5;have:=(hs.own γ au l2).cB;rw[<-e]at this;exact this.1
     ·exact Ctx.Ry (amG β hb b k4 hH hr) k5
   ·rcases k4 with⟨k4,k5⟩|⟨_,k5,_⟩
    ·rw[rs γ β hq,En β γ k4 k5 k1];obtain⟨au,_,l2,_⟩:=hh.n β γ k5;exact(hs.own γ au l2).fix hy
    ·rw[k5]at hy;cases hy
   ·rcases k4 with⟨k4,k5⟩|⟨_,k5,_⟩
    ·obtain⟨au,_,l2,l3,_⟩:=hh.n β γ k5;have:=(hs.own γ au l2).ro hR;rw[l3]at this;cases this
    ·rw[xu k5]at hR;cases hR
  | none=>
   by_cases hg:∃β,gn gv β=some γ
   ·rw[q2 γ hq hg]at ah;cases ah
   ·rw[q3 γ hq hg]at ah;obtain⟨o1,o2,o3,o4,o5⟩:=hs.own γ hb ah;refine⟨o1,o2,?_,(fun hy=>by rw[rn γ hq];exact o4 hy),o5⟩;rw[rn γ hq];cases hr:ρ γ with
    |none=>rw[hr]at o3;exact o3
    |some b=>rw[hr]at o3;exact⟨o3.1,Kbh o3.2.1 jz.size,o3.2.2.move (jz.block b o3.2.1 (BF γ b (by simp[ah]) hg hr)) rfl rfl rfl aH.rc⟩
 ·have RA:∀γ δ β,eo γ=some β->eo δ=none->bI δ≠none->mH β=some b->ρ δ=some b->False:=fun γ δ β h1 h3 h5 h6 h7=>by
   have hg:¬∃β,gn gv β=some δ:=fun hg=>h5 (q2 δ h3 hg);rw[q3 δ h3 hg]at h5;obtain⟨k1,k2,k3,k4⟩:=e1 γ β h1;obtain⟨hb,hH⟩:=Kbm.1 k1;rcases k4 with⟨k4,k5⟩|⟨k4,k5,_⟩
   ·rw[En β γ k4 k5 k1]at h6;obtain⟨au,_,l2,_⟩:=hh.n β γ k5;have:=hs.inj γ δ b (by simp[l2]) h5 h6 h7;subst this;exact hg ⟨β,k5⟩
   ·rcases Rx β hb b k4 hH h6 with h|h
    ·obtain⟨au,hq⟩:=Kbm.1 h5;have:=(hs.own δ au hq).cB;rw[h7]at this;omega
    ·exact BF δ b h5 hg h7 h
  cases h1:eo γ with
  | some β=>
   rw[rs γ β h1]at g3;cases h3:eo δ with
   |some bB=>rw[rs δ bB h3]at g4;have:=h2.inj β bB b (e1 γ β h1).1 (e1 δ bB h3).1 g3 g4;rw[<-(e1 γ β h1).2.1,<-(e1 δ bB h3).2.1,this]
   |none=>rw[rn δ h3]at g4;exact(RA γ δ β h1 h3 g2 g3 g4).elim
  | none=>
   rw[rn γ h1]at g3;cases h3:eo δ with
   |some bB=>rw[rs δ bB h3]at g4;exact(RA δ γ bB h3 h1 g1 g4 g3).elim
   | none=>
    rw[rn δ h3]at g4;have k:∀γ,eo γ=none->bI γ≠none->hp γ≠none:=fun γ h hq=>by
     by_cases hg:∃β,gn gv β=some γ
     ·exact absurd (q2 γ h hg) hq
     ·rwa[q3 γ h hg]at hq
    exact hs.inj γ δ b (k γ h1 g1) (k δ h3 g2) g3 g4
 ·have mz:∀β,eo (σ β)=some β->ud σ mH ρ' H bI β:=fun β h=>⟨rs _ _ h,(fun hb hq=>⟨hb,by rw[q1 _ _ h];exact hq,rfl,rfl,rfl⟩),fun _=>(e1 _ _ h).2.2.1⟩
  rcases hS s with e|⟨k1,k2,k3,k4⟩|⟨k1,k2,k3⟩|⟨s',k1,k2,k3,k4⟩
  ·rw[e];trivial
  ·have hv:(tX tmps d v).getD s undef=tmps.getD s undef:=by
    cases d with
    |none=>rfl
    |some x=>simp only[tX,KaL];rw[Kcf (fun e=>k1 (by rw[e]))]
   rw[hv,k2];have ba:=hs.cE s;have v9:=ba.known;have RG:∀γ,hp γ≠none->(¬∃β,gn gv β=some γ)->oH ρ ρ' hp bI w w' γ:=fun γ hk hg=>by
    have ux:eo γ=none:=by
     cases hq:eo γ with
     |none=>rfl
     |some β=>
      rcases(e1 γ β hq).2.2.2 with⟨_,h⟩|⟨_,_,h|h⟩
      ·exact absurd ⟨β,h⟩ hg
      ·exact absurd h hk
      ·exact absurd h hg
    refine⟨rn γ ux,fun hb hq=>⟨hb,by rw[q3 γ ux hg];exact hq,rfl,Kae _,fun b cap hr hc=>kV (jz.block b (lf hc) (BF γ b hk hg hr)) hc,fun he=>⟨he,rfl,fun b hr=>jz.block b ?_ (BF γ b hk hg hr)⟩⟩⟩;have:=(hs.own γ hb hq).cB;rw[hr]at this;exact this.2.1
   have par:∀γ,hp γ≠none->((¬∃β,gn gv β=some γ)∨∃β hb au,gn gv β=some γ/\aO β=true/\hp γ=some hb/\H β=some au/\au.e=hb.e/\hb.xs.length<=au.xs.length)->vB ρ ρ' hp bI w w' γ:=fun γ hk h=>by
    rcases h with h|⟨β,hb,au,l1,l2,l3,l4,l5,l6⟩
    ·exact(RG γ hk h).yP
    ·have ux:=e2 β γ l1 l2;refine⟨by rw[rs γ β ux];exact En β γ l2 l1 (by simp[l4]),fun jj hq=>?_⟩;rw[l3]at hq;cases hq;exact⟨au,by rw[q1 γ β ux];exact l4,l5,l6,fun b cap hr hc=>Ru β γ b l2 l1 hr _ cap hc⟩
   refine ba.move aH (fun γ ah=>?_) (fun γ ah=>par γ (v9.2 γ ah) (k3 γ (Kbo _ ah))) (fun γ e ty xs e0=>RG γ (v9.2 γ (by rw[e0];simp[PV.aR])) (k4 γ e ty xs e0));have:=par γ (v9.1 γ ah) (k3 γ (Kb3 _ ah));exact⟨this.r,this.h⟩
  ·subst k1;have hv:(tX tmps (some s) v).getD s undef=v:=by have:=hd s rfl;simp[tX,Array.getD,hs.sz,this]
   rw[hv,k2];have:=h2.cE 0;exact Qm.fR (C':=C) (ρ':=ρ') (hp':=bI) this EF fun β aj=>mz β (k3 β aj)
  ·obtain⟨γ,e,ty,xs,hF⟩:=k2;rw[k3];have:=h2.cE s';have e0:sL r F s'=F s':=by unfold sL;rw[if_neg (by omega),if_neg (by omega)]
   rw[e0]at this;have h3:=Qm.fR (C':=C) (ρ':=ρ') (hp':=bI) this EF fun β aj=>mz β (k4 β aj);rw[hF]at h3⊢;exact h3
theorem Za{tmps:Array Value}{ax H:HP}{gv:Nat->Option Nat}{F:Fr}{r:PV}{v:Value}{n:Nat}{hn:n<=1000000}{mH:Nat->Option Nat}(hs:Qr C ρ fr hp tmps w)(hh:sN C hp ax gv)
  (h2:Qr ((ua C ρ fr hp ax tmps w gv hs hh n hn).jE 1 (by decide)) mH (sL r F) H #[v] w') (h0:∀β,gn gv β=none):Ext ca w w':=h2.ext.mono fun b _ hb=>by
 rcases hb with⟨β,hr,hb⟩|⟨β,γ,h1,_,h3⟩
 ·have hb:(if aO β=true then(gv β).bind ρ else none)=some b:=hb;have e:=(xF (gv:=gv) hr).symm;rw[e,h0 β]at hb;split at hb<;>cases hb
 ·rw[h0 β]at h1;cases h1
end Go.FW
namespace Go.FW
open Go
variable {C : Ctx} {R : Qi} {fr : Fr} {hp : HP} {K : Qi}
theorem ep{sk:List It}(h:eM R sk:=by repeat (first|exact Le|exact P1|exact P2|exact PD|exact PE|apply P0|apply Ld|apply L3|apply MQ|apply MR|apply OZ)):eM R sk:=h
theorem okB{sk:List It}(h:eM R sk:=by repeat (first|exact Le|exact P1|exact P2|exact PD|exact PE|apply P0|apply Ld|apply L3|apply MQ|apply MR|apply OZ|apply Wr)):eM R sk:=h
theorem aB {P : Program} {f : FuncId} {fn : Func} {sf : ay} {args : List PV} {Rr : PV -> Prop} {n : Nat} {rs : List RV} {b : SC} (hm : P.follows .mixedOrders = true) (hf : P.funcs[f]? = some fn) (hc : Qe P fn = some sf) (hv : ∀ C : Ctx, C.P = P -> vc C (fI rs Rr) [.c b] (gQ args) ax) (he : sf = ⟨n, rs, b⟩ := by conv => lhs; whnf; try dsimp only [Zo, Zg, Zm, Zc, Zf, Zl, Zh, Zs, Zi, Zb, Zk, Zn, Zu, Zq, Zr, Zz, Ya, Yb, Yc, Yd, Ye, Yf, Yh, Yi, Yj, Yk, Yl, Ym, Yn, Yo, Yp, Yq, Yr, Ys, Yu, Yv, Yw, Yx, Yy, Yz, YA, YB, YC, YD, YE, YG, YH, YI, YJ, YK, YL, YM, YN, YO, YP, YQ, YS, YT, YU, YV, YW, YX, YY, YZ, xX, nh, dN, ma, rk, qa, cA, vI, eY, cW, o8, dh, eF, iP, Au, Av, rm, xY, rp, vJ, eG, fJ, eZ, fu, jd, vG, dm, eu, dU, sO, At, pZ, n8, l9, xU, ue, jc, o7, nf, kD, xV, ir, gf, iO, n9, kE, vH, lj, xW, uf, cT, fK, je, ug, xZ, fL, rq, ru, vK, jS, Aw, ry, Nat.reduceAdd]) (oo : (fn.name != "runtime.NumGoroutine") = true := by exact rfl) (hn : args.length <= n /\ n <= 1000000 := by simp) : Qd P f args Rr := by subst he;exact tE hm hf oo hc hn hv
theorem apS{P:Program}(hP:C.P=P){g:FuncId}{first cap args:List PV}{pr:Bool}{d:Option Nat}{r:PV}(h:Qd P g ((first++args++cap).map (Qt hp)) (· =r))(hK:K (fW fr d r) hp)(dx:((first++args++cap).map (Qt hp)).all PV.aD=true:=by exact rfl)(hr:(first++args++cap).flatMap PV.refs=[]:=by exact rfl):fH C pr (.fn g first cap) args d fr hp K:=Qa hP h rfl dx hr hK
theorem Oz{p:Prop}(h:p:=by omega):p:=h
theorem Nz{a b:Nat}(h:(Nat.ble a b&&Nat.ble b 1000000)=true:=by exact rfl):a<=b/\b<=1000000:=by simp only[Kav,Nat.ble_eq]at h;exact h
theorem Wz0{p:Prop}{P:Program}(hP:C.P=P){g:FuncId}{first cap args aT:List PV}{pr:Bool}{d:Option Nat}{r:PV}(h:Qd P g aT (· =r))(hK:K (fW fr d r) hp)(e:p=fH C pr (.fn g first cap) args d fr hp K:=by conv=>lhs;simp+decide (disch:=try exact Dz0) only[go_sem])(ha:(first++args++cap).map (Qt hp)=aT:=by exact rfl)(dx:aT.all PV.aD=true:=by exact rfl)(hr:(first++args++cap).flatMap PV.refs=[]:=by exact rfl):p:=(e).mpr (Qa hP h ha dx hr hK)
theorem Wz1{p A0:Prop}(x0:A0){P:Program}(hP:C.P=P){g:FuncId}{first cap args aT:List PV}{pr:Bool}{d:Option Nat}{r:PV}(h:Qd P g aT (· =r))(hK:K (fW fr d r) hp)(e:A0->p=fH C pr (.fn g first cap) args d fr hp K:=by intro x0;conv=>lhs;simp+decide (disch:=try exact Dz1 @x0) only[go_sem,x0])(ha:(first++args++cap).map (Qt hp)=aT:=by exact rfl)(dx:aT.all PV.aD=true:=by exact rfl)(hr:(first++args++cap).flatMap PV.refs=[]:=by exact rfl):p:=(e x0).mpr (Qa hP h ha dx hr hK)
theorem Wz2{p A0 A1:Prop}(x0:A0)(x1:A1){P:Program}(hP:C.P=P){g:FuncId}{first cap args aT:List PV}{pr:Bool}{d:Option Nat}{r:PV}(h:Qd P g aT (· =r))(hK:K (fW fr d r) hp)(e:A0->A1->p=fH C pr (.fn g first cap) args d fr hp K:=by intro x0 x1;conv=>lhs;simp+decide (disch:=try exact Dz2 @x0 @x1) only[go_sem,x0,x1])(ha:(first++args++cap).map (Qt hp)=aT:=by exact rfl)(dx:aT.all PV.aD=true:=by exact rfl)(hr:(first++args++cap).flatMap PV.refs=[]:=by exact rfl):p:=(e x0 x1).mpr (Qa hP h ha dx hr hK)
theorem Wz3{p A0 A1 A2:Prop}(x0:A0)(x1:A1)(x2:A2){P:Program}(hP:C.P=P){g:FuncId}{first cap args aT:List PV}{pr:Bool}{d:Option Nat}{r:PV}(h:Qd P g aT (· =r))(hK:K (fW fr d r) hp)(e:A0->A1->A2->p=fH C pr (.fn g first cap) args d fr hp K:=by intro x0 x1 x2;conv=>lhs;simp+decide (disch:=try exact Dz3 @x0 @x1 @x2) only[go_sem,x0,x1,x2])(ha:(first++args++cap).map (Qt hp)=aT:=by exact rfl)(dx:aT.all PV.aD=true:=by exact rfl)(hr:(first++args++cap).flatMap PV.refs=[]:=by exact rfl):p:=(e x0 x1 x2).mpr (Qa hP h ha dx hr hK)
theorem Wz4{p A0 A1 A2 A3:Prop}(x0:A0)(x1:A1)(x2:A2)(x3:A3){P:Program}(hP:C.P=P){g:FuncId}{first cap args aT:List PV}{pr:Bool}{d:Option Nat}{r:PV}(h:Qd P g aT (· =r))(hK:K (fW fr d r) hp)(e:A0->A1->A2->A3->p=fH C pr (.fn g first cap) args d fr hp K:=by intro x0 x1 x2 x3;conv=>lhs;simp+decide (disch:=try exact Dz4 @x0 @x1 @x2 @x3) only[go_sem,x0,x1,x2,x3])(ha:(first++args++cap).map (Qt hp)=aT:=by exact rfl)(dx:aT.all PV.aD=true:=by exact rfl)(hr:(first++args++cap).flatMap PV.refs=[]:=by exact rfl):p:=(e x0 x1 x2 x3).mpr (Qa hP h ha dx hr hK)
theorem Wz5{p A0 A1 A2 A3 A4:Prop}(x0:A0)(x1:A1)(x2:A2)(x3:A3)(x4:A4){P:Program}(hP:C.P=P){g:FuncId}{first cap args aT:List PV}{pr:Bool}{d:Option Nat}{r:PV}(h:Qd P g aT (· =r))(hK:K (fW fr d r) hp)(e:A0->A1->A2->A3->A4->p=fH C pr (.fn g first cap) args d fr hp K:=by intro x0 x1 x2 x3 x4;conv=>lhs;simp+decide (disch:=try exact Dz5 @x0 @x1 @x2 @x3 @x4) only[go_sem,x0,x1,x2,x3,x4])(ha:(first++args++cap).map (Qt hp)=aT:=by exact rfl)(dx:aT.all PV.aD=true:=by exact rfl)(hr:(first++args++cap).flatMap PV.refs=[]:=by exact rfl):p:=(e x0 x1 x2 x3 x4).mpr (Qa hP h ha dx hr hK)
theorem dO{p q:Prop}(h:q)(e:p=q:=by conv=>lhs;try dsimp only[Zo,Zg,Zm,Zc,Zf,Zl,Zh,Zs,Zi,Zb,Zk,Zn,Zu,Zq,Zr,Zz,Ya,Yb,Yc,Yd,Ye,Yf,Yh,Yi,Yj,Yk,Yl,Ym,Yn,Yo,Yp,Yq,Yr,Ys,Yu,Yv,Yw,Yx,Yy,Yz,YA,YB,YC,YD,YE,YG,YH,YI,YJ,YK,YL,YM,YN,YO,YP,YQ,YS,YT,YU,YV,YW,YX,YY,YZ,xX,nh,dN,ma,rk,qa,cA,vI,eY,cW,o8,dh,eF,iP,Au,Av,rm,xY,rp,vJ,eG,fJ,eZ,fu,jd,vG,dm,eu,dU,sO,At,pZ,n8,l9,xU,ue,jc,o7,nf,kD,xV,ir,gf,iO,n9,kE,vH,lj,xW,uf,cT,fK,je,ug,xZ,fL,rq,ru,vK,jS,Aw,ry,Nat.reduceAdd]):p:=e▸h
end Go.FW
