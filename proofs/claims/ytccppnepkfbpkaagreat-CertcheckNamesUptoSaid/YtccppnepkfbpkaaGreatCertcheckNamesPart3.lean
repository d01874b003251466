/- Part 3 of the proof of CertcheckNames: FwNF, FwSu. Own lemmas; no conditions. -/
import Derived.Test.YtccppnepkfbpkaaGreatCertcheckNamesPart2
set_option maxHeartbeats 1000000
set_option linter.unusedSimpArgs false
set_option linter.unusedVariables false
set_option linter.unnecessarySimpa false
set_option maxRecDepth 100000
namespace Go.FW
open Go
variable {C : Ctx} {ρ : Nat -> Option Nat} {fr aA : Fr} {hp hp' : HP} {w w' : World} {K R : Qh}
def tZ(args:List PV)(G:Fr):Fr:=fun s=>if s<1000000 then(args[s]?).getD .undef else G s
def sO(r:PV)(F:Fr):Fr:=fun s=>if s=0 then r else if s<1000000 then .undef else F s
def Ctx.jD(C:Ctx)(n:Nat)(hn:n<=1000000):Ctx:={ C with N:=n,hN:=hn }
theorem sJ.jD{C:Ctx}{n:Nat}{hn:n<=1000000}{β:Nat}{hb:HB}:sJ (C.jD n hn) ρ hp w β hb↔sJ C ρ hp w β hb:=⟨fun h=>⟨h.jV,h.len,h.cD,h.fix,h.ro⟩,fun h=>⟨h.jV,h.len,h.cD,h.fix,h.ro⟩⟩
def xq(P:Program)(f:FuncId)(args:List PV)(G:Fr)(aw:HP)(bb:PV->Fr->HP->Prop):Prop:=
 oV P f/\∀(C:Ctx)(ρ:Nat->Option Nat)(bd:Array Value)(w:World),C.P=P->C.w0=w->C.N=args.length->Qr C ρ (tZ args G) aw bd w->
  Calls P f bd w fun e w'=>∃v ρ' r F H,e= .returned v/\Qr (C.jD 1 (by decide)) ρ' (sO r F) H #[v] w'/\bb r F H
def PV.KE:PV->Bool
 |.au β _ _=>bB β
 |.int .. | .bool _| .aa=>true
 |_=>false
theorem Qm.BY{p:PV}{v:Value}(h:Qm C ρ hp w p v)(h1:p.KE=true):cz C ρ hp w p v:=by
 cases p with
 |au β o n=>exact⟨h1,h⟩
 |int k n=>exact h
 |bool b=>exact h
 |aa=>exact h
 |_=>cases h1
def B6(fr:Fr)(s n:Nat)(cs:List PV):Prop:=∃γ i o e ty xs,fr s= .np γ i o/\fr γ= .aF γ e ty xs/\∃h:i<xs.length,o+n<=e/\rQ true n o (xs[i]'h)= .aK cs
theorem apX{P:Program}(hP:C.P=P){a:Act}{x t n:Nat}{cs:List PV}(hc:gf P (.cell x t)=some (.cell x n true))(h:Qr C ρ fr hp a.tmps w)(hn:B6 fr x n cs):
  ∃vs:Array Value,(jL a.tmps (.cell x t)).run P w= .ok (.agg vs) w/\vs.size=cs.length/\∀(i:Nat)(y:PV),cs[i]? =some y->cz C ρ hp w y (vs.getD i undef):=by
 subst hP;obtain⟨γ,i,o,e,ty,xs,h1,h2,hi,hle,hr⟩:=hn;simp only[gf,Kab,Kaa]at hc;obtain⟨n',s7,ag,ja,he⟩:=hc;cases he;have hx:=h.cH x;rw[h1]at hx;obtain⟨hB,b,hb,g1,g2,g3⟩:=hx.FZ;have bc:=h.cH γ;rw[h2]at bc;obtain⟨_,vX,b',ax,cur,cap,q1,q2,q3,q4,q5,q6,q7,q8,q9,wO,tp⟩:=bc;rw[g1]at q1;cases q1;rw[g2]at q2;cases q2;rw[q4]at g3;have fe:=Kag hi;have cX:=wO i _ fe;have o9:∀j,j<n->i*e+o+j<cur.size:=fun j hj=>by rw[q7];exact mR (show i<cap by omega) hle hj
 have bS:=ze (P:=C.P) (t:=t) (b:=b) (off:=i*e+o) (vs:=Array.ofFn (n:=n) fun j=>cur.getD (i*e+o+j.val) undef) s7 ja (fun h=>by cases h) (by simp) w
  (fun j hj=>by rw[qG (f:=fun j=>cur.getD (i*e+o+j) undef) hj];exact kR q6 (o9 j hj))
 have fw:=Im (C:=C) (ρ:=ρ) (hp:=hp) (w:=w) (ag:=true) (n:=n) (off:=o) (x:=xs[i]) (vs:=Array.ofFn (n:=n) fun j=>cur.getD (i*e+o+j.val) undef) (by simp) (by rw[cX];exact hle) (fun h=>by cases h) (fun j y hj hy=>by rw[qG (f:=fun j=>cur.getD (i*e+o+j) undef) hj,Kb3];exact tp i _ fe (o+j) y hy);rw[hr]at fw;obtain⟨vs,ev,k1,k2⟩:=fw;refine⟨vs,?_,k1,k2⟩;rw[<-ev,<-bS];simp only[jL,g3,asAddr,Kao,KaX,Kak]
def sP(rs:List RV)(bb:PV->Fr->HP->Prop):Qh:=fun fr hp=>∃aA hp',Wk fr hp aA hp'/\
 (fD rs (fun r=>bb r aA (Qx hp' (rs.flatMap (lr aA)))) aA hp'∨(∃s,rs=[.t s]/\bb (aA s) aA hp')∨(∃s t,rs=[.t s,.t t]/\(aA s).KE=true/\(aA t).KE=true/\bb (.dV [aA s,aA t]) aA hp')∨∃s n b cs,rs=[.cell s n true,b]/\lr aA b=[]/\kg aA hp' b/\B6 aA s n cs/\bb (.cO cs (jC aA hp' b)) aA hp')
theorem LC{s n:Nat}{b:RV}{cs:List PV}{bb:PV->Fr->HP->Prop}(h1:B6 fr s n cs)(h2:lr fr b=[])(h3:kg fr hp b)(h:bb (.cO cs (jC fr hp b)) fr hp):sP [.cell s n true,b] bb fr hp:=⟨fr,hp,Wk.refl _ _,.inr (.inr (.inr ⟨s,n,b,cs,rfl,h2,h3,h1,h⟩))⟩
theorem adY{rs:List RV}{bb:PV->Fr->HP->Prop}:KM (sP rs bb) (sP rs bb):=by rintro f f' hp hf ⟨aA,hp',h1,h2⟩;exact⟨aA,hp',hf.wk.trans h1,h2⟩
theorem Dh{rs:List RV}{bb:PV->Fr->HP->Prop}:eJ (sP rs bb) []:=⟨adY,.nil⟩
theorem xd {P : Program} {f : FuncId} {fn : Func} {sf : ay} {args : List PV} {G : Fr} {aw : HP} {bb : PV -> Fr -> HP -> Prop} (hm : P.follows .mixedOrders = true) (hf : P.funcs[f]? = some fn) (oo : (fn.name != "runtime.NumGoroutine") = true) (hc : Qe P fn = some sf.strip) (hn : args.length <= sf.n /\ sf.n <= 1000000)
  (hv:∀C:Ctx,C.P=P->vc C (sP sf.rs bb) [.c sf.body] (tZ args G) aw):xq P f args G aw bb:=by
 simp only[Qe,Kab,Kaa]at hc;obtain⟨c,hb,sb,jb,rs,cG,Bz⟩:=hc;obtain⟨n,KJ,body⟩:=sf;simp only[ay.strip,ay.mk.injEq]at Bz;obtain⟨rfl,rfl,rfl⟩:=Bz;refine⟨by simp[oV,hf,hb];simpa using oo,fun C ρ bd w hP hw hN hs=>?_⟩;subst hP;refine calls_of_wp hf hb ?_;have kI:bd.size=args.length:=by rw[hs.sz,hN]
 have rN:(bd++Array.replicate (fn.ntmps-bd.size) undef).size=fn.ntmps:=by simp at hn ⊢;omega
 have ov:Qr (C.jD fn.ntmps hn.2) ρ (tZ args G) aw (bd++Array.replicate (fn.ntmps-bd.size) undef) w:=by
  refine⟨rN,hs.ext,hs.eG,fun β hb h=>sJ.jD.2 (hs.own β hb h),hs.inj,fun i=>?_⟩;have bc:=hs.cH i;by_cases hi:i<args.length
  ·have e:(bd++Array.replicate (fn.ntmps-bd.size) undef).getD i undef=bd.getD i undef:=by rw[ko,if_pos (by omega)]
   rw[e];exact bc
  ·unfold tZ at bc⊢;split
   ·rw[KcE (by omega)];trivial
   ·rename_i h2;rw[if_neg h2]at bc;have e1:bd.getD i undef=undef:=by simp[Array.getD,kI,hi]
    have e2:(bd++Array.replicate (fn.ntmps-bd.size) undef).getD i undef=undef:=by simp only[Array.getD];rw[dif_neg (by rw[rN];simp at hn;omega)]
    rw[e2];rw[e1]at bc;exact bc
 have fin:∀(fr:Fr) (hp:HP) (a:Act) (w':World),a.defers=[]->dB (C.jD fn.ntmps hn.2) fr hp a.tmps w'->sP rs bb fr hp->
   a.defers=[]/\∃v,(results fn a.tmps).run C.P w'= .ok v w'/\∃v' ρ' r F H,Ending.returned v= .returned v'/\Qr (C.jD 1 (by decide)) ρ' (sO r F) H #[v'] w'/\bb r F H:=by
  rintro fr hp a w' hd wv ⟨ma,ft,Kk,hr⟩;obtain⟨wR,ee⟩:=Kk _ _ _ wv;have ghost:∀ {bI:HP} {r:PV} {v:Value},Qr (C.jD fn.ntmps hn.2) wR ma bI a.tmps w'->Qm C wR bI w' r v->Qr (C.jD 1 (by decide)) wR (sO r ma) bI #[v] w':=by
   intro bI r v cL tg;refine⟨rfl,cL.ext,cL.eG,fun β hb h=>sJ.jD.2 (sJ.jD.1 (cL.own β hb h)),cL.inj,fun i=>?_⟩;unfold sO;split
   ·rename_i hi;subst hi;exact tg
   ·split
    ·trivial
    ·rename_i h0 h1;have bc:=cL.cH i;have e1:a.tmps.getD i undef=undef:=by have hz:a.tmps.size=fn.ntmps:=cL.sz;have s8:fn.ntmps<=1000000:=hn.2;simp only[Array.getD];rw[dif_neg (by omega)]
     have e2:(#[v]:Array Value).getD i undef=undef:=by simp only[Array.getD];rw[dif_neg (by simp;omega)]
     rw[e2];rw[e1]at bc;exact bc
  rcases hr with hr|⟨s,By,gR⟩|⟨s,t,By,cL,Tt,gR⟩|⟨s,n,b,cs,By,SQ,aO,rF,gR⟩
  ·obtain⟨v,r,h1,h2,_,h3⟩:=Hi (C:=C.jD fn.ntmps hn.2) rfl cG ee hr;refine⟨hd,v,h1,v,wR,r,ma,_,rfl,ghost (ee.freeze _) (Qm.F2 h2),h3⟩
  ·subst By;obtain⟨x,hx⟩:∃x,fn.results.toList=[x]:=by have:=lJ cG;exact KcA.1 (by rw[<-this.1];rfl)
   have jB:gf C.P x=some (.t s):=by rw[hx]at cG;simp only[Kcb,Kc2,KbQ,Kcf,Kab,Kaz]at cG;obtain⟨y,h1,_,_,h2⟩:=cG;simp only[Kcq]at h2;rw[<-h2.1];exact h1
   have qv:x= .tmp s:=by
    cases x with
    |tmp t=>simpa[gf]using jB
    |cell y t=>simp[gf,Kab]at jB
   subst qv;have eY:(results fn a.tmps).run C.P w'= .ok (a.tmps.getD s undef) w':=by have e:results fn a.tmps=(do let vs<-fn.results.mapM (jL a.tmps);pure (if h:vs.size=1 then vs[0]else .tuple vs)):=rfl;rw[e,Kbr,hx];simp[Kao,jL]
   exact⟨hd,_,eY,_,wR,_,ma,ft,rfl,ghost ee (ee.cH s),gR⟩
  ·subst By;have hlen:=lJ cG;obtain⟨x,y,hx⟩:∃x y,fn.results.toList=[x,y]:=by
    have h2:fn.results.toList.length=2:=by rw[<-hlen.1];rfl
    match h3:fn.results.toList,h2 with
    | [x,y],_=>exact⟨x,y,rfl⟩
   rw[hx]at cG;simp only[Kcb,Kc2,KbQ,Kcf,Kab,Kaz]at cG;obtain⟨u1,k1,l1,⟨u2,k2,l2,k3,k4⟩,k5⟩:=cG;subst k3 k4;simp only[Kcq,and_true]at k5;obtain⟨rfl,rfl⟩:=k5;have tm:∀ {z:ResultVar} {s:Nat},gf C.P z=some (.t s)->z= .tmp s:=fun {z s} hz=>by
    cases z with
    |tmp t=>simpa[gf]using hz
    |cell y t=>simp[gf,Kab]at hz
   obtain rfl:=tm k1;obtain rfl:=tm k2;have eY:(results fn a.tmps).run C.P w'= .ok (.tuple #[a.tmps.getD s undef,a.tmps.getD t undef]) w':=by have e:results fn a.tmps=(do let vs<-fn.results.mapM (jL a.tmps);pure (if h:vs.size=1 then vs[0]else .tuple vs)):=rfl;rw[e,Kbr,hx];simp[Kao,jL]
   refine⟨hd,_,eY,_,wR,_,ma,ft,rfl,ghost (r:=.dV [ma s,ma t]) ee ⟨#[a.tmps.getD s undef,a.tmps.getD t undef],rfl,rfl,fun i x hi=>?_⟩,gR⟩
   match i,hi with
   |0,hi=>simp at hi;subst hi;exact(ee.cH s).BY cL
   |1,hi=>simp at hi;subst hi;exact(ee.cH t).BY Tt
   |i+2,hi=>simp at hi
  ·subst By;have hlen:=lJ cG;obtain⟨x,y,hx⟩:∃x y,fn.results.toList=[x,y]:=by
    have h2:fn.results.toList.length=2:=by rw[<-hlen.1];rfl
    match h3:fn.results.toList,h2 with
    | [x,y],_=>exact⟨x,y,rfl⟩
   rw[hx]at cG;simp only[Kcb,Kc2,KbQ,Kcf,Kab,Kaz]at cG;obtain⟨u1,k1,l1,⟨u2,k2,l2,k3,k4⟩,k5⟩:=cG;subst k3 k4;simp only[Kcq,and_true]at k5;obtain⟨rfl,rfl⟩:=k5;obtain⟨x',t',rfl⟩:∃x' t',x= .cell x' t':=by
    cases x with
    |tmp t=>simp[gf]at k1
    |cell y t=>exact⟨y,t,rfl⟩
   have yJ:x'=s:=by simp only[gf,Kab,Kaa]at k1;obtain⟨_,_,_,_,he⟩:=k1;cases he;rfl
   subst yJ;obtain⟨vs,q1,q2,q3⟩:=apX (C:=C.jD fn.ntmps hn.2) rfl k1 ee rF;obtain⟨u,r1,r2⟩:=Ld (C:=C.jD fn.ntmps hn.2) rfl k2 ee aO;rw[SQ,zp]at r2;have eY:(results fn a.tmps).run C.P w'= .ok (.tuple #[.agg vs,u]) w':=by have e:results fn a.tmps=(do let vs<-fn.results.mapM (jL a.tmps);pure (if h:vs.size=1 then vs[0]else .tuple vs)):=rfl;rw[e,Kbr,hx];have q1':(jL a.tmps (.cell x' t')).run C.P w'= .ok (.agg vs) w':=q1;have r1':(jL a.tmps y).run C.P w'= .ok u w':=r1;simp[Kao,q1',r1']
   exact⟨hd,_,eY,_,wR,_,ma,ft,rfl,ghost (r:=.cO cs _) ee ⟨vs,u,rfl,q2,q3,r2⟩,gR⟩
 exact G7 (C:=C.jD fn.ntmps hn.2) (R:=sP rs bb) hm c body [] _ (tZ args G) aw _ w jb ⟨fun fr hp a w' hd hs hv=>(by rw[tL]at hv;exact fin fr hp a w' hd hs hv),fun id dW he=>(by simp[FW.bW]at he),fin⟩ rfl ⟨ρ,ov⟩ (hv (C.jD fn.ntmps hn.2) rfl)
structure sK(C:Ctx)(hp:HP)(aw:HP)(gv:Nat->Option Nat):Prop where
 g:∀β γ,gv β=some γ->∃hb,hp γ=some hb/\bB β=true/\(eF β=true->aw β=some ⟨hb.e,hb.ty,hb.xs,true⟩)/\(eF β=false->aw β=some hb/\hb.fz=false/\bB γ=true/\(aM β=false->aM γ=false))
 a:∀β,aw β≠none->∃γ,gv β=some γ
 i:∀β bA γ,gv β=some γ->gv bA=some γ->β=bA
def gn(gv:Nat->Option Nat):Nat->Option Nat:=fun β=>if eF β=true then none else gv β
theorem Eb{gv:Nat->Option Nat}{β γ:Nat}(h:gn gv β=some γ):eF β=false/\gv β=some γ:=by
 unfold gn at h;split at h
 ·cases h
 ·rename_i hr;exact⟨by simpa using hr,h⟩
theorem xL{gv:Nat->Option Nat}{β:Nat}(h:eF β=false):gn gv β=gv β:=by unfold gn;rw[h];rfl
theorem sK.n{C:Ctx}{hp aw:HP}{gv:Nat->Option Nat}(hh:sK C hp aw gv)(β γ:Nat)(h:gn gv β=some γ):∃hb,aw β=some hb/\hp γ=some hb/\hb.fz=false/\bB β=true/\bB γ=true/\(aM β=false->aM γ=false):=by obtain⟨hr,h⟩:=Eb h;obtain⟨hb,h1,h2,_,h4⟩:=hh.g β γ h;obtain⟨k1,k2,k3,k4⟩:=h4 hr;exact⟨hb,k1,h1,k2,h2,k3,k4⟩
theorem sK.s{C:Ctx}{hp aw:HP}{gv:Nat->Option Nat}(hh:sK C hp aw gv)(β γ:Nat)(h:gv β=some γ):∃hb ax,hp γ=some hb/\aw β=some ax/\ax.e=hb.e/\ax.ty=hb.ty/\ax.xs=hb.xs/\(ax.fz=false->hb=ax/\eF β=false)/\(eF β=true->ax.fz=true)/\bB β=true:=by
 obtain⟨hb,h1,h2,h3,h4⟩:=hh.g β γ h;cases hr:eF β with
 |true=>exact⟨hb,_,h1,h3 hr,rfl,rfl,rfl,(fun h=>by cases h),fun _=>rfl,h2⟩
 |false=>obtain⟨k1,k2,_⟩:=h4 hr;exact⟨hb,hb,h1,k1,rfl,rfl,rfl,(fun _=>⟨rfl,rfl⟩),(fun h=>by cases h),h2⟩
def ua (C:Ctx) (ρ:Nat->Option Nat) (fr:Fr) (hp aw:HP) (tmps:Array Value) (w:World) (gv:Nat->Option Nat) (hs:Qr C ρ fr hp tmps w) (hh:sK C hp aw gv) (n:Nat) (hn:n<=1000000):Ctx where
 P:=C.P
 N:=n
 w0:=w
 X0:=fun b=>aE C ρ hp b/\¬∃β γ,gn gv β=some γ/\ρ γ=some b
 AZ:=fun b hb=>Ai hs b hb.1
 hN:=hn
 fx:=fun β=>if aM β=true then(gv β).bind ρ else none
 om :=fun β b h=>by
  split at h
  ·cases hq:gv β with
   |none=>rw[hq]at h;cases h
   |some γ=>rw[hq]at h;obtain⟨hb,h2,_⟩:=hh.g β γ hq;have:=(hs.own γ hb h2).cD;rw[show ρ γ=some b from h]at this;exact⟨this.2.1,fun hr hx=>hx.2 ⟨β,γ,(xL hr).trans hq,h⟩⟩
  ·cases h
 Z0:=fun b=>∃β γ,gn gv β=some γ/\aM β=false/\ρ γ=some b
 Fc :=fun b ⟨β,γ,h1,h2,h3⟩=>by
  obtain⟨hb,_,k2,_⟩:=hh.n β γ h1;have:=(hs.own γ hb k2).cD;rw[h3]at this;refine⟨this.2.1,fun hx=>hx.2 ⟨β,γ,h1,h3⟩,fun bA hf=>?_⟩;split at hf
  ·rename_i hy;cases hq:gv bA with
   |none=>rw[hq]at hf;cases hf
   |some ba=>rw[hq]at hf;obtain⟨ax,wH,_⟩:=hh.g bA ba hq;have e:=hs.inj γ ba b (by simp[k2]) (by simp[wH]) h3 hf;subst e;have e2:=hh.i β bA γ (Eb h1).2 hq;subst e2;rw[h2]at hy;cases hy
  ·cases hf
theorem Wm{tmps:Array Value}{w:World}{aw:HP}{gv:Nat->Option Nat}{τ:Nat->Nat}{args:List PV}{aQ:List PV}{G:Fr}{av:Array Value}(hs:Qr C ρ fr hp tmps w)(hh:sK C hp aw gv)
  (BI:∀β γ,gv β=some γ->τ γ=β) (eE:av.size=args.length) (cN:args.map (cE τ)=aQ) (hav:∀(i:Nat)(x:PV),args[i]? =some x->Qm C ρ hp w x (av.getD i undef))
  (mm:∀x∈args,∀γ∈x.refs++x.aN,∃β,gv β=some γ) (hG:∀s,1000000<=s->G s= .undef∨∃s',1000000<=s'/\G s=cE τ (fr s')/\∀γ∈(fr s').refs++(fr s').aN,∃β,gv β=some γ) (df:aQ.length<=1000000):
  Qr (ua C ρ fr hp aw tmps w gv hs hh aQ.length df) (fun β=>(gv β).bind ρ) (tZ aQ G) aw av w:=by
 subst cN;have hX:∀b,aE (ua C ρ fr hp aw tmps w gv hs hh (args.map (cE τ)).length df) (fun β=>(gv β).bind ρ) aw b->aE C ρ hp b:=by
  rintro b (hx|⟨β,hb,h1,h2,h3⟩)
  ·exact hx.1
  ·cases hq:gv β with
   |none=>simp only[hq]at h3;cases h3
   |some γ=>simp only[hq,Kch]at h3;obtain⟨aZ,ax,k2,k1,_,_,_,k6,_⟩:=hh.s β γ hq;rw[h1]at k1;cases k1;exact .inr ⟨γ,aZ,k2,by rw[(k6 h2).1];exact h2,h3⟩
 have hr:∀γ,(∃β,gv β=some γ)->uc τ ρ (fun β=>(gv β).bind ρ) hp aw γ:=fun γ ⟨β,aj⟩=>by
  obtain⟨hb,dN,k2,k1,k3,k4,k5,_,_,k8⟩:=hh.s β γ aj;refine⟨?_,fun ax h'=>?_,fun _=>by rw[BI β γ aj];exact k8⟩
  ·show(gv (τ γ)).bind ρ=ρ γ;rw[BI β γ aj,aj];rfl
  ·rw[k2]at h';cases h';exact⟨dN,by rw[BI β γ aj];exact k1,k3,k4,k5⟩
 refine⟨by rw[eE];simp[ua],Ext.refl _ _,fun _ _ _ _ _ h=>h,fun β hb aj=>?_,fun β δ b h1 h2 h3 h4=>?_,fun i=>?_⟩
 ·obtain⟨γ,ah⟩:=hh.a β (by simp[aj]);obtain⟨aZ,ax,k2,k1,k3,k4,k5,k6,k7,_⟩:=hh.s β γ ah;rw[aj]at k1;cases k1;obtain⟨q1,q2,q3,q4,q5⟩:=hs.own γ aZ k2;refine⟨by rw[k3];exact q1,by rw[k3,k5];exact q2,?_,fun hy=>?_,k7⟩
  ·simp only[ah,Kch];cases hr:ρ γ with
   |none=>rw[hr]at q3;rw[k5];exact q3
   | some b=>
    rw[hr]at q3;refine⟨?_,q3.2.1,q3.2.2.move rfl k3 k4 k5 fun q u hq=>Qp.sub hq hX⟩;unfold Ctx.cls;split
    ·rename_i hy;show(if aM β=true then(gv β).bind ρ else none)=some b;rw[if_pos hy,ah];exact hr
    ·rename_i hy;exact .inr ⟨β,γ,(xL (xA (by simpa using hy))).trans ah,by simpa using hy,hr⟩
  ·show(gv β).bind ρ=(if aM β=true then(gv β).bind ρ else none)
   rw[if_pos hy]
 ·obtain⟨yZ,e1⟩:=hh.a β h1;obtain⟨Um,e2⟩:=hh.a δ h2;simp only[e1,Kch]at h3;simp only[e2,Kch]at h4;obtain⟨aZ,k1,_⟩:=hh.g β yZ e1;obtain⟨dN,k2,_⟩:=hh.g δ Um e2;have:=hs.inj yZ Um b (by simp[k1]) (by simp[k2]) h3 h4;subst this;exact hh.i β δ yZ e1 e2
 ·unfold tZ;split
  ·rw[Kat];cases hi:args[i]? with
   |none=>trivial
   |some x=>simp only[Kb5,Kbd];exact(hav i x hi).fK hX fun γ ah=>hr γ (mm x (Kaj hi) γ ah)
  ·rename_i hi;have e1:av.getD i undef=undef:=by simp only[Array.getD];rw[dif_neg (by simp at df;omega)]
   rcases hG i (by omega)with e|⟨s',dZ,e,hn⟩
   ·rw[e];trivial
   ·rw[e,e1];have bc:=hs.cH s';have e2:tmps.getD s' undef=undef:=by simp only[Array.getD];rw[dif_neg (by rw[hs.sz];have:=C.hN;omega)]
    rw[e2]at bc;exact bc.fK hX fun γ ah=>hr γ (hn γ ah)
theorem ZH{tmps:Array Value}{aw H bI:HP}{gv eo:Nat->Option Nat}{σ:Nat->Nat}{F fc:Fr}{r:PV}{v:Value}{d:Option Nat}{n:Nat}{hn:n<=1000000}{mH:Nat->Option Nat}(hs:Qr C ρ fr hp tmps w)(hh:sK C hp aw gv)
  (h2:Qr ((ua C ρ fr hp aw tmps w gv hs hh n hn).jD 1 (by decide)) mH (sO r F) H #[v] w') (hd:∀x,d=some x->x<C.N)
  (e1:∀γ β,eo γ=some β->H β≠none/\σ β=γ/\bB γ=true/\((aM β=true/\gn gv β=some γ)∨(aM β=false/\aM γ=false/\(hp γ=none∨∃bA,gn gv bA=some γ))))
  (e2:∀β γ,gn gv β=some γ->aM β=true->eo γ=some β)
  (q1:∀γ β,eo γ=some β->bI γ=H β) (q2:∀γ,eo γ=none->(∃β,gn gv β=some γ)->bI γ=none) (q3:∀γ,eo γ=none->(¬∃β,gn gv β=some γ)->bI γ=hp γ)
  (hS:∀s,fc s= .undef∨
   (d≠some s/\fc s=fr s/\(∀γ∈(fr s).refs++(fr s).aN,(¬∃β,gn gv β=some γ)∨∃β hb ax,gn gv β=some γ/\aM β=true/\hp γ=some hb/\H β=some ax/\ax.e=hb.e/\hb.xs.length<=ax.xs.length)/\∀γ e ty xs,fr s= .aF γ e ty xs->¬∃β,gn gv β=some γ)∨
   (d=some s/\fc s=cE σ r/\∀β∈r.refs++r.aN,eo (σ β)=some β)∨
   (∃s',1000000<=s'/\(∃γ e ty xs,F s'= .aF γ e ty xs)/\fc s=cE σ (F s')/\∀β∈(F s').refs++(F s').aN,eo (σ β)=some β)):
  dB C fc bI (tU tmps d v) w':=by
 obtain⟨Yg,vS⟩:∃f:Nat->Prop,f=fun b=>∃β γ,gn gv β=some γ/\ρ γ=some b:=⟨_,rfl⟩
 have yX:∀b,Yg b->aE C ρ hp b:=fun b hb=>by rw[vS]at hb;obtain⟨β,γ,h1,h3⟩:=hb;obtain⟨hb,_,k2,k3,_⟩:=hh.n β γ h1;exact .inr ⟨γ,hb,k2,k3,h3⟩
 have jv:Ext Yg w w':=h2.ext.mono fun b _ hb=>by
  rw[vS];rcases hb with⟨β,hr,hb⟩|⟨β,γ,h1,_,h3⟩
  ·have hb:(if aM β=true then(gv β).bind ρ else none)=some b:=hb;split at hb
   ·cases hq:gv β with
    |none=>rw[hq]at hb;cases hb
    |some γ=>rw[hq]at hb;exact⟨β,γ,(xL hr).trans hq,hb⟩
   ·cases hb
  ·exact⟨β,γ,h1,h3⟩
 have Gd:∀b,Yg b->∃β γ,gn gv β=some γ/\ρ γ=some b/\C.cls γ b/\hp γ≠none/\eF γ=false:=fun b hb=>by
  rw[vS]at hb;obtain⟨β,γ,h1,h3⟩:=hb;obtain⟨hb,_,k2,k3,_⟩:=hh.n β γ h1;have:=(hs.own γ hb k2).cD;rw[h3]at this;refine⟨β,γ,h1,h3,this.1,by simp[k2],?_⟩;cases hR:eF γ with
  |false=>rfl
  |true=>have:=(hs.own γ hb k2).ro hR;rw[k3]at this;cases this
 have BQ:∀γ b,hp γ≠none->(¬∃β,gn gv β=some γ)->ρ γ=some b->¬Yg b:=fun γ b hk tc hr hy=>by obtain⟨β,ba,h1,h3,_,h5,_⟩:=Gd b hy;have:=hs.inj γ ba b hk h5 hr h3;subst this;exact tc ⟨β,h1⟩
 have yR:∀β hb,H β=some hb->sJ (ua C ρ fr hp aw tmps w gv hs hh n hn) mH H w' β hb:=fun β hb h=>sJ.jD.1 (h2.own β hb h);have EM:∀β γ,aM β=true->gn gv β=some γ->H β≠none->mH β=ρ γ:=fun β γ hy hg hH=>by obtain⟨hb,hq⟩:=Kbn.1 hH;have:=(yR β hb hq).fix hy;rw[this];show(if aM β=true then(gv β).bind ρ else none)=ρ γ;rw[if_pos hy,(Eb hg).2];rfl
 have RE:∀β hb b,aM β=false->H β=some hb->mH β=some b->w.heap.size<=b∨Yg b:=fun β hb b hy hH hr=>by
  have:=(yR β hb hH).cD;rw[hr]at this;rcases Ctx.uh this.1 hy with h|⟨bA,ba,k1,_,k3⟩
  ·exact .inl h
  ·exact .inr (by rw[vS];exact⟨bA,ba,k1,k3⟩)
 have amW:∀β hb b,aM β=false->H β=some hb->mH β=some b->C.w0.heap.size<=b∨C.Z0 b:=fun β hb b hy hH hr=>by
  have:=(yR β hb hH).cD;rw[hr]at this;rcases Ctx.uh this.1 hy with h|⟨bA,ba,k1,k2,k3⟩
  ·exact .inl (KaL hs.ext.size h)
  ·obtain⟨ax,_,l2,_,_,_,l6⟩:=hh.n bA ba k1;have:=(hs.own ba ax l2).cD;rw[k3]at this;exact Ctx.uh this.1 (l6 k2)
 obtain⟨ρ',bl⟩:∃f:Nat->Option Nat,f=fun γ=>match eo γ with|some β=>mH β|none=>ρ γ:=⟨_,rfl⟩
 have rs:∀γ β,eo γ=some β->ρ' γ=mH β:=fun γ β h=>by rw[bl];simp[h]
 have rn:∀γ,eo γ=none->ρ' γ=ρ γ:=fun γ h=>by rw[bl];simp[h]
 have Fb:∀b,aE C ρ' bI b->aE (ua C ρ fr hp aw tmps w gv hs hh n hn) mH H b:=by
  rintro b (hx|⟨γ,hb,h1,h3,h4⟩)
  ·refine .inl ⟨.inl hx,fun hy=>?_⟩;obtain⟨_,γ,_,_,h5,_,h7⟩:=Gd b (by rw[vS];exact hy);exact Ctx.EJ h5 h7 hx
  ·cases hq:eo γ with
   |some β=>rw[q1 γ β hq]at h1;rw[rs γ β hq]at h4;exact .inr ⟨β,hb,h1,h3,h4⟩
   | none=>
    rw[rn γ hq]at h4;by_cases hg:∃β,gn gv β=some γ
    ·rw[q2 γ hq hg]at h1;cases h1
    ·rw[q3 γ hq hg]at h1;exact .inl ⟨.inr ⟨γ,hb,h1,h3,h4⟩,fun hy=>BQ γ b (by simp[h1]) hg h4 (by rw[vS];exact hy)⟩
 have vR:∀b,b<w.heap.size->aE C ρ' bI b->aE C ρ hp b:=fun b hb hx=>by
  rcases Fb b hx with hx|⟨β,Jt,h1,h3,h4⟩
  ·exact hx.1
  ·by_cases hy:aM β=true
   ·have:=(yR β Jt h1).fix hy;rw[h4]at this;have this:some b=(if aM β=true then(gv β).bind ρ else none):=this;rw[if_pos hy]at this;have hR:eF β=false:=by
     cases hR:eF β with
     |false=>rfl
     |true=>have:=(yR β Jt h1).ro hR;rw[h3]at this;cases this
    cases hq:gv β with
    |none=>rw[hq]at this;cases this
    |some γ=>rw[hq]at this;exact yX b (by rw[vS];exact⟨β,γ,(xL hR).trans hq,this.symm⟩)
   ·rcases RE β Jt b (by simpa using hy) h1 h4 with h|h
    ·omega
    ·exact yX b h
 have aL:lX w w' (aE C ρ hp) (aE C ρ' bI):=⟨fun b hb ir=>jv.block b hb fun hy=>ir (yX b hy),fun b hb ir hx=>ir (vR b hb hx),jv.size⟩
 have Rz:∀β γ b,aM β=true->gn gv β=some γ->ρ γ=some b->∀e cap,cV w b e cap->cV w' b e cap:=fun β γ b hy hg hr e cap hc=>by refine h2.eG β b ?_ e cap hc;show(if aM β=true then(gv β).bind ρ else none)=some b;rw[if_pos hy,(Eb hg).2];exact hr
 refine⟨ρ',?_,?_,fun β b hb e cap hc=>?_,fun γ hb ah=>?_,fun γ δ b g1 g2 g3 g4=>?_,fun s=>?_⟩
 ·cases d with
  |none=>exact hs.sz
  |some d=>simp only[tU];simpa using hs.sz
 ·refine hs.ext.trans' jv fun b hb hy=>?_;obtain⟨_,_,_,_,h5,_,h7⟩:=Gd b hy;exact(Ctx.EK h5 h7).resolve_left (by omega)
 ·have h1:=hs.eG β b hb e cap hc;by_cases hy:Yg b
  ·obtain⟨KS,yZ,k1,k3,k4,k5,_⟩:=Gd b hy;by_cases hY:aM KS=true
   ·exact Rz KS yZ b hY k1 k3 e cap h1
   ·obtain⟨_,_,_,_,_,_,l6⟩:=hh.n KS yZ k1;exact absurd hb (Ctx.KV (Ctx.uh k4 (l6 (by simpa using hY))))
  ·exact kT (jv.block b (kV h1) hy) h1
 ·cases hq:eo γ with
  | some β=>
   have hH:H β=some hb:=by rw[<-q1 γ β hq];exact ah
   obtain⟨k1,k2,k3,k4⟩:=e1 γ β hq;obtain⟨o1,o2,o3,o4,o5⟩:=yR β hb hH;refine⟨o1,o2,?_,fun hy=>?_,fun hR=>?_⟩
   ·rw[rs γ β hq];cases hr:mH β with
    |none=>rw[hr]at o3;exact o3
    | some b=>
     rw[hr]at o3;refine⟨?_,o3.2.1,o3.2.2.move rfl rfl rfl rfl fun q u hq=>Qp.sub hq Fb⟩;rcases k4 with⟨k4,k5⟩|⟨k4,k5,_⟩
     ·have e:=EM β γ k4 k5 k1;rw[hr]at e;obtain⟨ax,_,l2,_⟩:=hh.n β γ k5;have:=(hs.own γ ax l2).cD;rw[<-e]at this;exact this.1
     ·exact Ctx.RF (amW β hb b k4 hH hr) k5
   ·rcases k4 with⟨k4,k5⟩|⟨_,k5,_⟩
    ·rw[rs γ β hq,EM β γ k4 k5 k1];obtain⟨ax,_,l2,_⟩:=hh.n β γ k5;exact(hs.own γ ax l2).fix hy
    ·rw[k5]at hy;cases hy
   ·rcases k4 with⟨k4,k5⟩|⟨_,k5,_⟩
    ·obtain⟨ax,_,l2,l3,_⟩:=hh.n β γ k5;have:=(hs.own γ ax l2).ro hR;rw[l3]at this;cases this
    ·rw[xA k5]at hR;cases hR
  | none=>
   by_cases hg:∃β,gn gv β=some γ
   ·rw[q2 γ hq hg]at ah;cases ah
   ·rw[q3 γ hq hg]at ah;obtain⟨o1,o2,o3,o4,o5⟩:=hs.own γ hb ah;refine⟨o1,o2,?_,(fun hy=>by rw[rn γ hq];exact o4 hy),o5⟩;rw[rn γ hq];cases hr:ρ γ with
    |none=>rw[hr]at o3;exact o3
    |some b=>rw[hr]at o3;exact⟨o3.1,Kbi o3.2.1 jv.size,o3.2.2.move (jv.block b o3.2.1 (BQ γ b (by simp[ah]) hg hr)) rfl rfl rfl aL.rc⟩
 ·have RI:∀γ δ β,eo γ=some β->eo δ=none->bI δ≠none->mH β=some b->ρ δ=some b->False:=fun γ δ β h1 h3 h5 h6 h7=>by
   have hg:¬∃β,gn gv β=some δ:=fun hg=>h5 (q2 δ h3 hg);rw[q3 δ h3 hg]at h5;obtain⟨k1,k2,k3,k4⟩:=e1 γ β h1;obtain⟨hb,hH⟩:=Kbn.1 k1;rcases k4 with⟨k4,k5⟩|⟨k4,k5,_⟩
   ·rw[EM β γ k4 k5 k1]at h6;obtain⟨ax,_,l2,_⟩:=hh.n β γ k5;have:=hs.inj γ δ b (by simp[l2]) h5 h6 h7;subst this;exact hg ⟨β,k5⟩
   ·rcases RE β hb b k4 hH h6 with h|h
    ·obtain⟨ax,hq⟩:=Kbn.1 h5;have:=(hs.own δ ax hq).cD;rw[h7]at this;omega
    ·exact BQ δ b h5 hg h7 h
  cases h1:eo γ with
  | some β=>
   rw[rs γ β h1]at g3;cases h3:eo δ with
   |some bA=>rw[rs δ bA h3]at g4;have:=h2.inj β bA b (e1 γ β h1).1 (e1 δ bA h3).1 g3 g4;rw[<-(e1 γ β h1).2.1,<-(e1 δ bA h3).2.1,this]
   |none=>rw[rn δ h3]at g4;exact(RI γ δ β h1 h3 g2 g3 g4).elim
  | none=>
   rw[rn γ h1]at g3;cases h3:eo δ with
   |some bA=>rw[rs δ bA h3]at g4;exact(RI δ γ bA h3 h1 g1 g4 g3).elim
   | none=>
    rw[rn δ h3]at g4;have k:∀γ,eo γ=none->bI γ≠none->hp γ≠none:=fun γ h hq=>by
     by_cases hg:∃β,gn gv β=some γ
     ·exact absurd (q2 γ h hg) hq
     ·rwa[q3 γ h hg]at hq
    exact hs.inj γ δ b (k γ h1 g1) (k δ h3 g2) g3 g4
 ·have my:∀β,eo (σ β)=some β->uc σ mH ρ' H bI β:=fun β h=>⟨rs _ _ h,(fun hb hq=>⟨hb,by rw[q1 _ _ h];exact hq,rfl,rfl,rfl⟩),fun _=>(e1 _ _ h).2.2.1⟩
  rcases hS s with e|⟨k1,k2,k3,k4⟩|⟨k1,k2,k3⟩|⟨s',k1,k2,k3,k4⟩
  ·rw[e];trivial
  ·have hv:(tU tmps d v).getD s undef=tmps.getD s undef:=by
    cases d with
    |none=>rfl
    |some x=>simp only[tU,KaN];rw[Kco (fun e=>k1 (by rw[e]))]
   rw[hv,k2];have bc:=hs.cH s;have v9:=bc.known;have RM:∀γ,hp γ≠none->(¬∃β,gn gv β=some γ)->oH ρ ρ' hp bI w w' γ:=fun γ hk hg=>by
    have uy:eo γ=none:=by
     cases hq:eo γ with
     |none=>rfl
     |some β=>
      rcases(e1 γ β hq).2.2.2 with⟨_,h⟩|⟨_,_,h|h⟩
      ·exact absurd ⟨β,h⟩ hg
      ·exact absurd h hk
      ·exact absurd h hg
    refine⟨rn γ uy,fun hb hq=>⟨hb,by rw[q3 γ uy hg];exact hq,rfl,Kad _,fun b cap hr hc=>kT (jv.block b (kV hc) (BQ γ b hk hg hr)) hc,fun he=>⟨he,rfl,fun b hr=>jv.block b ?_ (BQ γ b hk hg hr)⟩⟩⟩;have:=(hs.own γ hb hq).cD;rw[hr]at this;exact this.2.1
   have par:∀γ,hp γ≠none->((¬∃β,gn gv β=some γ)∨∃β hb ax,gn gv β=some γ/\aM β=true/\hp γ=some hb/\H β=some ax/\ax.e=hb.e/\hb.xs.length<=ax.xs.length)->vE ρ ρ' hp bI w w' γ:=fun γ hk h=>by
    rcases h with h|⟨β,hb,ax,l1,l2,l3,l4,l5,l6⟩
    ·exact(RM γ hk h).yY
    ·have uy:=e2 β γ l1 l2;refine⟨by rw[rs γ β uy];exact EM β γ l2 l1 (by simp[l4]),fun lu hq=>?_⟩;rw[l3]at hq;cases hq;exact⟨ax,by rw[q1 γ β uy];exact l4,l5,l6,fun b cap hr hc=>Rz β γ b l2 l1 hr _ cap hc⟩
   refine bc.move aL (fun γ ah=>?_) (fun γ ah=>par γ (v9.2 γ ah) (k3 γ (Kbp _ ah))) (fun γ e ty xs e0=>RM γ (v9.2 γ (by rw[e0];simp[PV.aN])) (k4 γ e ty xs e0));have:=par γ (v9.1 γ ah) (k3 γ (Kca _ ah));exact⟨this.r,this.h⟩
  ·subst k1;have hv:(tU tmps (some s) v).getD s undef=v:=by have:=hd s rfl;simp[tU,Array.getD,hs.sz,this]
   rw[hv,k2];have:=h2.cH 0;exact Qm.fK (C':=C) (ρ':=ρ') (hp':=bI) this Fb fun β aj=>my β (k3 β aj)
  ·obtain⟨γ,e,ty,xs,hF⟩:=k2;rw[k3];have:=h2.cH s';have e0:sO r F s'=F s':=by unfold sO;rw[if_neg (by omega),if_neg (by omega)]
   rw[e0]at this;have h3:=Qm.fK (C':=C) (ρ':=ρ') (hp':=bI) this Fb fun β aj=>my β (k4 β aj);rw[hF]at h3⊢;exact h3
theorem ZI{tmps:Array Value}{aw H:HP}{gv:Nat->Option Nat}{F:Fr}{r:PV}{v:Value}{n:Nat}{hn:n<=1000000}{mH:Nat->Option Nat}(hs:Qr C ρ fr hp tmps w)(hh:sK C hp aw gv)
  (h2:Qr ((ua C ρ fr hp aw tmps w gv hs hh n hn).jD 1 (by decide)) mH (sO r F) H #[v] w') (h0:∀β,gn gv β=none):Ext cg w w':=h2.ext.mono fun b _ hb=>by
 rcases hb with⟨β,hr,hb⟩|⟨β,γ,h1,_,h3⟩
 ·have hb:(if aM β=true then(gv β).bind ρ else none)=some b:=hb;have e:=(xL (gv:=gv) hr).symm;rw[e,h0 β]at hb;split at hb<;>cases hb
 ·rw[h0 β]at h1;cases h1
end Go.FW
namespace Go.FW
open Go
variable {C : Ctx} {R : Qh} {fr : Fr} {hp : HP} {K : Qh}
theorem eH{sk:List It}(h:eJ R sk:=by repeat (first|exact DB|exact Dd|exact De|exact Dg|exact Dh|apply Dc|apply DA|apply DX|apply Eo|apply Ep|apply CU)):eJ R sk:=h
theorem okB{sk:List It}(h:eJ R sk:=by repeat (first|exact DB|exact Dd|exact De|exact Dg|exact Dh|apply Dc|apply DA|apply DX|apply Eo|apply Ep|apply CU|apply WK)):eJ R sk:=h
theorem aB {P : Program} {f : FuncId} {fn : Func} {sf : ay} {args : List PV} {Rr : PV -> Prop} {n : Nat} {rs : List RV} {b : SC} (hm : P.follows .mixedOrders = true) (hf : P.funcs[f]? = some fn) (hc : Qe P fn = some sf) (hv : ∀ C : Ctx, C.P = P -> vc C (fD rs Rr) [.c b] (gG args) aw) (he : sf = ⟨n, rs, b⟩ := by conv => lhs; whnf; try dsimp only [Zo, Zg, Zm, Zc, Zf, Zl, Zh, Zs, Zi, Zb, Zk, Zn, Zu, Zq, Zr, Zz, Ya, Yb, Yc, Yd, Ye, Yf, Yh, Yi, Yj, Yk, Yl, Ym, Yn, Yo, Yp, Yq, Yr, Ys, Yu, Yv, Yw, Yx, Yy, Yz, YA, YB, YC, YD, YE, YG, YH, YI, YJ, YK, YL, YM, YN, YO, YP, YQ, YS, YT, YU, YV, YW, YX, YY, YZ, yd, dC, rh, oa, qa, er, dY, cF, oZ, iI, AI, dS, de, AJ, dn, ri, ye, fE, rj, rk, vK, fp, eD, eT, iX, vI, xZ, ek, AG, pZ, ud, ya, yb, gp, AH, fm, jq, ue, gK, nh, kD, ep, n8, vJ, lg, jS, n9, yc, fo, uf, cT, fF, jr, fG, rm, yf, rp, vL, jT, lh, rq, qb, Nat.reduceAdd]) (oo : (fn.name != "runtime.NumGoroutine") = true := by exact rfl) (hn : args.length <= n /\ n <= 1000000 := by simp) : Qd P f args Rr := by subst he;exact qK hm hf oo hc hn hv
theorem aqo{P:Program}(hP:C.P=P){g:FuncId}{first cap args:List PV}{pr:Bool}{d:Option Nat}{r:PV}(h:Qd P g ((first++args++cap).map (Qu hp)) (· =r))(hK:K (fQ fr d r) hp)(dx:((first++args++cap).map (Qu hp)).all PV.aD=true:=by exact rfl)(hr:(first++args++cap).flatMap PV.refs=[]:=by exact rfl):fC C pr (.fn g first cap) args d fr hp K:=Qa hP h rfl dx hr hK
theorem Oz{p:Prop}(h:p:=by omega):p:=h
theorem Nz{a b:Nat}(h:(Nat.ble a b&&Nat.ble b 1000000)=true:=by exact rfl):a<=b/\b<=1000000:=by simp only[Kav,Nat.ble_eq]at h;exact h
theorem Wz0{p:Prop}{P:Program}(hP:C.P=P){g:FuncId}{first cap args aQ:List PV}{pr:Bool}{d:Option Nat}{r:PV}(h:Qd P g aQ (· =r))(hK:K (fQ fr d r) hp)(e:p=fC C pr (.fn g first cap) args d fr hp K:=by conv=>lhs;simp+decide (disch:=try exact Dz0) only[go_sem])(ha:(first++args++cap).map (Qu hp)=aQ:=by exact rfl)(dx:aQ.all PV.aD=true:=by exact rfl)(hr:(first++args++cap).flatMap PV.refs=[]:=by exact rfl):p:=(e).mpr (Qa hP h ha dx hr hK)
theorem Wz1{p A0:Prop}(x0:A0){P:Program}(hP:C.P=P){g:FuncId}{first cap args aQ:List PV}{pr:Bool}{d:Option Nat}{r:PV}(h:Qd P g aQ (· =r))(hK:K (fQ fr d r) hp)(e:A0->p=fC C pr (.fn g first cap) args d fr hp K:=by intro x0;conv=>lhs;simp+decide (disch:=try exact Dz1 @x0) only[go_sem,x0])(ha:(first++args++cap).map (Qu hp)=aQ:=by exact rfl)(dx:aQ.all PV.aD=true:=by exact rfl)(hr:(first++args++cap).flatMap PV.refs=[]:=by exact rfl):p:=(e x0).mpr (Qa hP h ha dx hr hK)
theorem Wz2{p A0 A1:Prop}(x0:A0)(x1:A1){P:Program}(hP:C.P=P){g:FuncId}{first cap args aQ:List PV}{pr:Bool}{d:Option Nat}{r:PV}(h:Qd P g aQ (· =r))(hK:K (fQ fr d r) hp)(e:A0->A1->p=fC C pr (.fn g first cap) args d fr hp K:=by intro x0 x1;conv=>lhs;simp+decide (disch:=try exact Dz2 @x0 @x1) only[go_sem,x0,x1])(ha:(first++args++cap).map (Qu hp)=aQ:=by exact rfl)(dx:aQ.all PV.aD=true:=by exact rfl)(hr:(first++args++cap).flatMap PV.refs=[]:=by exact rfl):p:=(e x0 x1).mpr (Qa hP h ha dx hr hK)
theorem Wz3{p A0 A1 A2:Prop}(x0:A0)(x1:A1)(x2:A2){P:Program}(hP:C.P=P){g:FuncId}{first cap args aQ:List PV}{pr:Bool}{d:Option Nat}{r:PV}(h:Qd P g aQ (· =r))(hK:K (fQ fr d r) hp)(e:A0->A1->A2->p=fC C pr (.fn g first cap) args d fr hp K:=by intro x0 x1 x2;conv=>lhs;simp+decide (disch:=try exact Dz3 @x0 @x1 @x2) only[go_sem,x0,x1,x2])(ha:(first++args++cap).map (Qu hp)=aQ:=by exact rfl)(dx:aQ.all PV.aD=true:=by exact rfl)(hr:(first++args++cap).flatMap PV.refs=[]:=by exact rfl):p:=(e x0 x1 x2).mpr (Qa hP h ha dx hr hK)
theorem Wz4{p A0 A1 A2 A3:Prop}(x0:A0)(x1:A1)(x2:A2)(x3:A3){P:Program}(hP:C.P=P){g:FuncId}{first cap args aQ:List PV}{pr:Bool}{d:Option Nat}{r:PV}(h:Qd P g aQ (· =r))(hK:K (fQ fr d r) hp)(e:A0->A1->A2->A3->p=fC C pr (.fn g first cap) args d fr hp K:=by intro x0 x1 x2 x3;conv=>lhs;simp+decide (disch:=try exact Dz4 @x0 @x1 @x2 @x3) only[go_sem,x0,x1,x2,x3])(ha:(first++args++cap).map (Qu hp)=aQ:=by exact rfl)(dx:aQ.all PV.aD=true:=by exact rfl)(hr:(first++args++cap).flatMap PV.refs=[]:=by exact rfl):p:=(e x0 x1 x2 x3).mpr (Qa hP h ha dx hr hK)
theorem Wz5{p A0 A1 A2 A3 A4:Prop}(x0:A0)(x1:A1)(x2:A2)(x3:A3)(x4:A4){P:Program}(hP:C.P=P){g:FuncId}{first cap args aQ:List PV}{pr:Bool}{d:Option Nat}{r:PV}(h:Qd P g aQ (· =r))(hK:K (fQ fr d r) hp)(e:A0->A1->A2->A3->A4->p=fC C pr (.fn g first cap) args d fr hp K:=by intro x0 x1 x2 x3 x4;conv=>lhs;simp+decide (disch:=try exact Dz5 @x0 @x1 @x2 @x3 @x4) only[go_sem,x0,x1,x2,x3,x4])(ha:(first++args++cap).map (Qu hp)=aQ:=by exact rfl)(dx:aQ.all PV.aD=true:=by exact rfl)(hr:(first++args++cap).flatMap PV.refs=[]:=by exact rfl):p:=(e x0 x1 x2 x3 x4).mpr (Qa hP h ha dx hr hK)
theorem du{p q:Prop}(h:q)(e:p=q:=by conv=>lhs;try dsimp only[Zo,Zg,Zm,Zc,Zf,Zl,Zh,Zs,Zi,Zb,Zk,Zn,Zu,Zq,Zr,Zz,Ya,Yb,Yc,Yd,Ye,Yf,Yh,Yi,Yj,Yk,Yl,Ym,Yn,Yo,Yp,Yq,Yr,Ys,Yu,Yv,Yw,Yx,Yy,Yz,YA,YB,YC,YD,YE,YG,YH,YI,YJ,YK,YL,YM,YN,YO,YP,YQ,YS,YT,YU,YV,YW,YX,YY,YZ,yd,dC,rh,oa,qa,er,dY,cF,oZ,iI,AI,dS,de,AJ,dn,ri,ye,fE,rj,rk,vK,fp,eD,eT,iX,vI,xZ,ek,AG,pZ,ud,ya,yb,gp,AH,fm,jq,ue,gK,nh,kD,ep,n8,vJ,lg,jS,n9,yc,fo,uf,cT,fF,jr,fG,rm,yf,rp,vL,jT,lh,rq,qb,Nat.reduceAdd]):p:=e▸h
end Go.FW
