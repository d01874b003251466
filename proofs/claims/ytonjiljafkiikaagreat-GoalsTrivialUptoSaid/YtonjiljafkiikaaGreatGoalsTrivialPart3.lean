/- Part 3 of the proof of GoalsTrivial: FwNF, FwSu. Own lemmas; no conditions. -/
import Derived.Test.YtonjiljafkiikaaGreatGoalsTrivialPart2
set_option maxHeartbeats 1000000
set_option linter.unusedSimpArgs false
set_option linter.unusedVariables false
set_option linter.unnecessarySimpa false
set_option maxRecDepth 100000
namespace Go.FW
open Go
variable {C : Ctx} {ρ : Nat -> Option Nat} {fr aq : Fr} {hp hp' : HP} {w w' : World} {K R : Qg}
def oE(args:List PV)(G:Fr):Fr:=fun s=>if s<1000000 then(args[s]?).getD .undef else G s
def nD(r:PV)(F:Fr):Fr:=fun s=>if s=0 then r else if s<1000000 then .undef else F s
def Ctx.fW(C:Ctx)(n:Nat)(hn:n<=1000000):Ctx:={ C with N:=n,hN:=hn }
theorem ny.fW{C:Ctx}{n:Nat}{hn:n<=1000000}{β:Nat}{hb:HB}:ny (C.fW n hn) ρ hp w β hb↔ny C ρ hp w β hb:=⟨fun h=>⟨h.gh,h.len,h.b8,h.fix,h.ro⟩,fun h=>⟨h.gh,h.len,h.b8,h.fix,h.ro⟩⟩
def rF(P:Program)(f:FuncId)(args:List PV)(G:Fr)(au:HP)(aP:PV->Fr->HP->Prop):Prop:=
 kQ P f/\∀(C:Ctx)(ρ:Nat->Option Nat)(aQ:Array Value)(w:World),C.P=P->C.w0=w->C.N=args.length->Qv C ρ (oE args G) au aQ w->
  Calls P f aQ w fun e w'=>∃v ρ' r F H,e= .returned v/\Qv (C.fW 1 (by decide)) ρ' (nD r F) H #[v] w'/\aP r F H
def PV.EP:PV->Bool
 |.ao β _ _=>bg β
 |.int .. | .bool _| .aa=>true
 |_=>false
theorem Qh.vH{p:PV}{v:Value}(h:Qh C ρ hp w p v)(h1:p.EP=true):bZ C ρ hp w p v:=by
 cases p with
 |ao β o n=>exact⟨h1,h⟩
 |int k n=>exact h
 |bool b=>exact h
 |aa=>exact h
 |_=>cases h1
def xE(fr:Fr)(s n:Nat)(cs:List PV):Prop:=∃γ i o e ty xs,fr s= .np γ i o/\fr γ= .az γ e ty xs/\∃h:i<xs.length,o+n<=e/\m3 true n o (xs[i]'h)= .aE cs
theorem acd{P:Program}(hP:C.P=P){a:Act}{x t n:Nat}{cs:List PV}(hc:eF P (.cell x t)=some (.cell x n true))(h:Qv C ρ fr hp a.tmps w)(hn:xE fr x n cs):
  ∃vs:Array Value,(gd a.tmps (.cell x t)).run P w= .ok (.agg vs) w/\vs.size=cs.length/\∀(i:Nat)(y:PV),cs[i]? =some y->bZ C ρ hp w y (vs.getD i undef):=by
 subst hP;obtain⟨γ,i,o,e,ty,xs,h1,h2,hi,hle,hr⟩:=hn;simp only[eF,Kab,Kaa]at hc;obtain⟨n',u5,ag,fG,he⟩:=hc;cases he;have hx:=h.ch x;rw[h1]at hx;obtain⟨hB,b,hb,g1,g2,g3⟩:=hx.yS;have aW:=h.ch γ;rw[h2]at aW;obtain⟨_,nL,b',an,cur,cap,q1,q2,q3,q4,q5,q6,q7,q8,q9,qV,nY⟩:=aW;rw[g1]at q1;cases q1;rw[g2]at q2;cases q2;rw[q4]at g3;have dU:=Kaf hi;have dt:=qV i _ dU;have l8:∀j,j<n->i*e+o+j<cur.size:=fun j hj=>by rw[q7];exact jn (show i<cap by omega) hle hj
 have bz:=s4 (P:=C.P) (t:=t) (b:=b) (off:=i*e+o) (vs:=Array.ofFn (n:=n) fun j=>cur.getD (i*e+o+j.val) undef) u5 fG (fun h=>by cases h) (by simp) w
  (fun j hj=>by rw[mA (f:=fun j=>cur.getD (i*e+o+j) undef) hj];exact gT q6 (l8 j hj))
 have ed:=B8 (C:=C) (ρ:=ρ) (hp:=hp) (w:=w) (ag:=true) (n:=n) (off:=o) (x:=xs[i]) (vs:=Array.ofFn (n:=n) fun j=>cur.getD (i*e+o+j.val) undef) (by simp) (by rw[dt];exact hle) (fun h=>by cases h) (fun j y hj hy=>by rw[mA (f:=fun j=>cur.getD (i*e+o+j) undef) hj,KbJ];exact nY i _ dU (o+j) y hy);rw[hr]at ed;obtain⟨vs,ev,k1,k2⟩:=ed;refine⟨vs,?_,k1,k2⟩;rw[<-ev,<-bz];simp only[gd,g3,asAddr,Kaj,KaK,Kah]
def nE(rs:List RV)(aP:PV->Fr->HP->Prop):Qg:=fun fr hp=>∃aq hp',Wk fr hp aq hp'/\
 (eg rs (fun r=>aP r aq (bq hp' (rs.flatMap (lr aq)))) aq hp'∨(∃s,rs=[.t s]/\aP (aq s) aq hp')∨(∃s t,rs=[.t s,.t t]/\(aq s).EP=true/\(aq t).EP=true/\aP (.cW [aq s,aq t]) aq hp')∨∃s n b cs,rs=[.cell s n true,b]/\lr aq b=[]/\gz aq hp' b/\xE aq s n cs/\aP (.cj cs (fV aq hp' b)) aq hp')
theorem IV{s n:Nat}{b:RV}{cs:List PV}{aP:PV->Fr->HP->Prop}(h1:xE fr s n cs)(h2:lr fr b=[])(h3:gz fr hp b)(h:aP (.cj cs (fV fr hp b)) fr hp):nE [.cell s n true,b] aP fr hp:=⟨fr,hp,Wk.refl _ _,.inr (.inr (.inr ⟨s,n,b,cs,rfl,h2,h3,h1,h⟩))⟩
theorem RD{rs:List RV}{aP:PV->Fr->HP->Prop}:KM (nE rs aP) (nE rs aP):=by rintro f f' hp hf ⟨aq,hp',h1,h2⟩;exact⟨aq,hp',hf.wk.trans h1,h2⟩
theorem Qu{rs:List RV}{aP:PV->Fr->HP->Prop}:dI (nE rs aP) []:=⟨RD,.nil⟩
theorem rp {P : Program} {f : FuncId} {fn : Func} {sf : aw} {args : List PV} {G : Fr} {au : HP} {aP : PV -> Fr -> HP -> Prop} (hm : P.follows .mixedOrders = true) (hf : P.funcs[f]? = some fn) (kt : (fn.name != "runtime.NumGoroutine") = true) (hc : Qe P fn = some sf.strip) (hn : args.length <= sf.n /\ sf.n <= 1000000)
  (hv:∀C:Ctx,C.P=P->vc C (nE sf.rs aP) [.c sf.body] (oE args G) au):rF P f args G au aP:=by
 simp only[Qe,Kab,Kaa]at hc;obtain⟨c,hb,sb,gk,rs,ct,vd⟩:=hc;obtain⟨n,EU,body⟩:=sf;simp only[aw.strip,aw.mk.injEq]at vd;obtain⟨rfl,rfl,rfl⟩:=vd;refine⟨by simp[kQ,hf,hb];simpa using kt,fun C ρ aQ w hP hw hN hs=>?_⟩;subst hP;refine calls_of_wp hf hb ?_;have gL:aQ.size=args.length:=by rw[hs.sz,hN]
 have mW:(aQ++Array.replicate (fn.ntmps-aQ.size) undef).size=fn.ntmps:=by simp at hn ⊢;omega
 have kx:Qv (C.fW fn.ntmps hn.2) ρ (oE args G) au (aQ++Array.replicate (fn.ntmps-aQ.size) undef) w:=by
  refine⟨mW,hs.ext,hs.dE,fun β hb h=>ny.fW.2 (hs.own β hb h),hs.inj,fun i=>?_⟩;have aW:=hs.ch i;by_cases hi:i<args.length
  ·have e:(aQ++Array.replicate (fn.ntmps-aQ.size) undef).getD i undef=aQ.getD i undef:=by rw[gD,if_pos (by omega)]
   rw[e];exact aW
  ·unfold oE at aW⊢;split
   ·rw[List.getElem?_eq_none (by omega)];trivial
   ·rename_i h2;rw[if_neg h2]at aW;have e1:aQ.getD i undef=undef:=by simp[Array.getD,gL,hi]
    have e2:(aQ++Array.replicate (fn.ntmps-aQ.size) undef).getD i undef=undef:=by simp only[Array.getD];rw[dif_neg (by rw[mW];simp at hn;omega)]
    rw[e2];rw[e1]at aW;exact aW
 have fin:∀(fr:Fr) (hp:HP) (a:Act) (w':World),a.defers=[]->c8 (C.fW fn.ntmps hn.2) fr hp a.tmps w'->nE rs aP fr hp->
   a.defers=[]/\∃v,(results fn a.tmps).run C.P w'= .ok v w'/\∃v' ρ' r F H,Ending.returned v= .returned v'/\Qv (C.fW 1 (by decide)) ρ' (nD r F) H #[v'] w'/\aP r F H:=by
  rintro fr hp a w' hd qH ⟨kV,eJ,hw1,hr⟩;obtain⟨qX,dT⟩:=hw1 _ _ _ qH;have ghost:∀ {bc:HP} {r:PV} {v:Value},Qv (C.fW fn.ntmps hn.2) qX kV bc a.tmps w'->Qh C qX bc w' r v->Qv (C.fW 1 (by decide)) qX (nD r kV) bc #[v] w':=by
   intro bc r v dx qJ;refine⟨rfl,dx.ext,dx.dE,fun β hb h=>ny.fW.2 (ny.fW.1 (dx.own β hb h)),dx.inj,fun i=>?_⟩;unfold nD;split
   ·rename_i hi;subst hi;exact qJ
   ·split
    ·trivial
    ·rename_i h0 h1;have aW:=dx.ch i;have e1:a.tmps.getD i undef=undef:=by have hz:a.tmps.size=fn.ntmps:=dx.sz;have u6:fn.ntmps<=1000000:=hn.2;simp only[Array.getD];rw[dif_neg (by omega)]
     have e2:(#[v]:Array Value).getD i undef=undef:=by simp only[Array.getD];rw[dif_neg (by simp;omega)]
     rw[e2];rw[e1]at aW;exact aW
  rcases hr with hr|⟨s,vb,eT⟩|⟨s,t,vb,dx,KZ,eT⟩|⟨s,n,b,cs,vb,Kz,bQ,mS,eT⟩
  ·obtain⟨v,r,h1,h2,_,h3⟩:=AX (C:=C.fW fn.ntmps hn.2) rfl ct dT hr;refine⟨hd,v,h1,v,qX,r,kV,_,rfl,ghost (dT.freeze _) (Qh.yT h2),h3⟩
  ·subst vb;obtain⟨x,hx⟩:∃x,fn.results.toList=[x]:=by have:=iz ct;exact Kcd.1 (by rw[<-this.1];rfl)
   have gu:eF C.P x=some (.t s):=by rw[hx]at ct;simp only[KbR,Kct,KbC,KbV,Kab,Kaq]at ct;obtain⟨y,h1,_,_,h2⟩:=ct;simp only[Kb7]at h2;rw[<-h2.1];exact h1
   have ml:x= .tmp s:=by
    cases x with
    |tmp t=>simpa[eF]using gu
    |cell y t=>simp[eF,Kab]at gu
   subst ml;have ej:(results fn a.tmps).run C.P w'= .ok (a.tmps.getD s undef) w':=by have e:results fn a.tmps=(do let vs<-fn.results.mapM (gd a.tmps);pure (if h:vs.size=1 then vs[0]else .tuple vs)):=rfl;rw[e,Kbj,hx];simp[Kaj,gd]
   exact⟨hd,_,ej,_,qX,_,kV,eJ,rfl,ghost dT (dT.ch s),eT⟩
  ·subst vb;have hlen:=iz ct;obtain⟨x,y,hx⟩:∃x y,fn.results.toList=[x,y]:=by
    have h2:fn.results.toList.length=2:=by rw[<-hlen.1];rfl
    match h3:fn.results.toList,h2 with
    | [x,y],_=>exact⟨x,y,rfl⟩
   rw[hx]at ct;simp only[KbR,Kct,KbC,KbV,Kab,Kaq]at ct;obtain⟨u1,k1,l1,⟨u2,k2,l2,k3,k4⟩,k5⟩:=ct;subst k3 k4;simp only[Kb7,and_true]at k5;obtain⟨rfl,rfl⟩:=k5;have tm:∀ {z:ResultVar} {s:Nat},eF C.P z=some (.t s)->z= .tmp s:=fun {z s} hz=>by
    cases z with
    |tmp t=>simpa[eF]using hz
    |cell y t=>simp[eF,Kab]at hz
   obtain rfl:=tm k1;obtain rfl:=tm k2;have ej:(results fn a.tmps).run C.P w'= .ok (.tuple #[a.tmps.getD s undef,a.tmps.getD t undef]) w':=by have e:results fn a.tmps=(do let vs<-fn.results.mapM (gd a.tmps);pure (if h:vs.size=1 then vs[0]else .tuple vs)):=rfl;rw[e,Kbj,hx];simp[Kaj,gd]
   refine⟨hd,_,ej,_,qX,_,kV,eJ,rfl,ghost (r:=.cW [kV s,kV t]) dT ⟨#[a.tmps.getD s undef,a.tmps.getD t undef],rfl,rfl,fun i x hi=>?_⟩,eT⟩
   match i,hi with
   |0,hi=>simp at hi;subst hi;exact(dT.ch s).vH dx
   |1,hi=>simp at hi;subst hi;exact(dT.ch t).vH KZ
   |i+2,hi=>simp at hi
  ·subst vb;have hlen:=iz ct;obtain⟨x,y,hx⟩:∃x y,fn.results.toList=[x,y]:=by
    have h2:fn.results.toList.length=2:=by rw[<-hlen.1];rfl
    match h3:fn.results.toList,h2 with
    | [x,y],_=>exact⟨x,y,rfl⟩
   rw[hx]at ct;simp only[KbR,Kct,KbC,KbV,Kab,Kaq]at ct;obtain⟨u1,k1,l1,⟨u2,k2,l2,k3,k4⟩,k5⟩:=ct;subst k3 k4;simp only[Kb7,and_true]at k5;obtain⟨rfl,rfl⟩:=k5;obtain⟨x',t',rfl⟩:∃x' t',x= .cell x' t':=by
    cases x with
    |tmp t=>simp[eF]at k1
    |cell y t=>exact⟨y,t,rfl⟩
   have sM:x'=s:=by simp only[eF,Kab,Kaa]at k1;obtain⟨_,_,_,_,he⟩:=k1;cases he;rfl
   subst sM;obtain⟨vs,q1,q2,q3⟩:=acd (C:=C.fW fn.ntmps hn.2) rfl k1 dT mS;obtain⟨u,r1,r2⟩:=IG (C:=C.fW fn.ntmps hn.2) rfl k2 dT bQ;rw[Kz,v7]at r2;have ej:(results fn a.tmps).run C.P w'= .ok (.tuple #[.agg vs,u]) w':=by have e:results fn a.tmps=(do let vs<-fn.results.mapM (gd a.tmps);pure (if h:vs.size=1 then vs[0]else .tuple vs)):=rfl;rw[e,Kbj,hx];have q1':(gd a.tmps (.cell x' t')).run C.P w'= .ok (.agg vs) w':=q1;have r1':(gd a.tmps y).run C.P w'= .ok u w':=r1;simp[Kaj,q1',r1']
   exact⟨hd,_,ej,_,qX,_,kV,eJ,rfl,ghost (r:=.cj cs _) dT ⟨vs,u,rfl,q2,q3,r2⟩,eT⟩
 exact AI (C:=C.fW fn.ntmps hn.2) (R:=nE rs aP) hm c body [] _ (oE args G) au _ w gk ⟨fun fr hp a w' hd hs hv=>(by rw[oq]at hv;exact fin fr hp a w' hd hs hv),fun id cX he=>(by simp[FW.bE]at he),fin⟩ rfl ⟨ρ,kx⟩ (hv (C.fW fn.ntmps hn.2) rfl)
structure nF(C:Ctx)(hp:HP)(au:HP)(gv:Nat->Option Nat):Prop where
 g:∀β γ,gv β=some γ->∃hb,hp γ=some hb/\bg β=true/\(dy β=true->au β=some ⟨hb.e,hb.ty,hb.xs,true⟩)/\(dy β=false->au β=some hb/\hb.fz=false/\bg γ=true/\(aF β=false->aF γ=false))
 a:∀β,au β≠none->∃γ,gv β=some γ
 i:∀β bd γ,gv β=some γ->gv bd=some γ->β=bd
def gn(gv:Nat->Option Nat):Nat->Option Nat:=fun β=>if dy β=true then none else gv β
theorem xk{gv:Nat->Option Nat}{β γ:Nat}(h:gn gv β=some γ):dy β=false/\gv β=some γ:=by
 unfold gn at h;split at h
 ·cases h
 ·rename_i hr;exact⟨by simpa using hr,h⟩
theorem rN{gv:Nat->Option Nat}{β:Nat}(h:dy β=false):gn gv β=gv β:=by unfold gn;rw[h];rfl
theorem nF.n{C:Ctx}{hp au:HP}{gv:Nat->Option Nat}(hh:nF C hp au gv)(β γ:Nat)(h:gn gv β=some γ):∃hb,au β=some hb/\hp γ=some hb/\hb.fz=false/\bg β=true/\bg γ=true/\(aF β=false->aF γ=false):=by obtain⟨hr,h⟩:=xk h;obtain⟨hb,h1,h2,_,h4⟩:=hh.g β γ h;obtain⟨k1,k2,k3,k4⟩:=h4 hr;exact⟨hb,k1,h1,k2,h2,k3,k4⟩
theorem nF.s{C:Ctx}{hp au:HP}{gv:Nat->Option Nat}(hh:nF C hp au gv)(β γ:Nat)(h:gv β=some γ):∃hb an,hp γ=some hb/\au β=some an/\an.e=hb.e/\an.ty=hb.ty/\an.xs=hb.xs/\(an.fz=false->hb=an/\dy β=false)/\(dy β=true->an.fz=true)/\bg β=true:=by
 obtain⟨hb,h1,h2,h3,h4⟩:=hh.g β γ h;cases hr:dy β with
 |true=>exact⟨hb,_,h1,h3 hr,rfl,rfl,rfl,(fun h=>by cases h),fun _=>rfl,h2⟩
 |false=>obtain⟨k1,k2,_⟩:=h4 hr;exact⟨hb,hb,h1,k1,rfl,rfl,rfl,(fun _=>⟨rfl,rfl⟩),(fun h=>by cases h),h2⟩
def oF (C:Ctx) (ρ:Nat->Option Nat) (fr:Fr) (hp au:HP) (tmps:Array Value) (w:World) (gv:Nat->Option Nat) (hs:Qv C ρ fr hp tmps w) (hh:nF C hp au gv) (n:Nat) (hn:n<=1000000):Ctx where
 P:=C.P
 N:=n
 w0:=w
 X0:=fun b=>ay C ρ hp b/\¬∃β γ,gn gv β=some γ/\ρ γ=some b
 ye:=fun b hb=>tZ hs b hb.1
 hN:=hn
 fx:=fun β=>if aF β=true then(gv β).bind ρ else none
 kp :=fun β b h=>by
  split at h
  ·cases hq:gv β with
   |none=>rw[hq]at h;cases h
   |some γ=>rw[hq]at h;obtain⟨hb,h2,_⟩:=hh.g β γ hq;have:=(hs.own γ hb h2).b8;rw[show ρ γ=some b from h]at this;exact⟨this.2.1,fun hr hx=>hx.2 ⟨β,γ,(rN hr).trans hq,h⟩⟩
  ·cases h
 Z0:=fun b=>∃β γ,gn gv β=some γ/\aF β=false/\ρ γ=some b
 yg :=fun b ⟨β,γ,h1,h2,h3⟩=>by
  obtain⟨hb,_,k2,_⟩:=hh.n β γ h1;have:=(hs.own γ hb k2).b8;rw[h3]at this;refine⟨this.2.1,fun hx=>hx.2 ⟨β,γ,h1,h3⟩,fun bd hf=>?_⟩;split at hf
  ·rename_i hy;cases hq:gv bd with
   |none=>rw[hq]at hf;cases hf
   |some aO=>rw[hq]at hf;obtain⟨an,yN,_⟩:=hh.g bd aO hq;have e:=hs.inj γ aO b (by simp[k2]) (by simp[yN]) h3 hf;subst e;have e2:=hh.i β bd γ (xk h1).2 hq;subst e2;rw[h2]at hy;cases hy
  ·cases hf
theorem L'{tmps:Array Value}{w:World}{au:HP}{gv:Nat->Option Nat}{τ:Nat->Nat}{args:List PV}{aM:List PV}{G:Fr}{av:Array Value}(hs:Qv C ρ fr hp tmps w)(hh:nF C hp au gv)
  (vo:∀β γ,gv β=some γ->τ γ=β) (dL:av.size=args.length) (cr:args.map (cd τ)=aM) (hav:∀(i:Nat)(x:PV),args[i]? =some x->Qh C ρ hp w x (av.getD i undef))
  (ks:∀x∈args,∀γ∈x.refs++x.aI,∃β,gv β=some γ) (hG:∀s,1000000<=s->G s= .undef∨∃s',1000000<=s'/\G s=cd τ (fr s')/\∀γ∈(fr s').refs++(fr s').aI,∃β,gv β=some γ) (cK:aM.length<=1000000):
  Qv (oF C ρ fr hp au tmps w gv hs hh aM.length cK) (fun β=>(gv β).bind ρ) (oE aM G) au av w:=by
 subst cr;have hX:∀b,ay (oF C ρ fr hp au tmps w gv hs hh (args.map (cd τ)).length cK) (fun β=>(gv β).bind ρ) au b->ay C ρ hp b:=by
  rintro b (hx|⟨β,hb,h1,h2,h3⟩)
  ·exact hx.1
  ·cases hq:gv β with
   |none=>simp only[hq]at h3;cases h3
   |some γ=>simp only[hq,KbW]at h3;obtain⟨aX,an,k2,k1,_,_,_,k6,_⟩:=hh.s β γ hq;rw[h1]at k1;cases k1;exact .inr ⟨γ,aX,k2,by rw[(k6 h2).1];exact h2,h3⟩
 have hr:∀γ,(∃β,gv β=some γ)->oI τ ρ (fun β=>(gv β).bind ρ) hp au γ:=fun γ ⟨β,ah⟩=>by
  obtain⟨hb,cl,k2,k1,k3,k4,k5,_,_,k8⟩:=hh.s β γ ah;refine⟨?_,fun an h'=>?_,fun _=>by rw[vo β γ ah];exact k8⟩
  ·show(gv (τ γ)).bind ρ=ρ γ;rw[vo β γ ah,ah];rfl
  ·rw[k2]at h';cases h';exact⟨cl,by rw[vo β γ ah];exact k1,k3,k4,k5⟩
 refine⟨by rw[dL];simp[oF],Ext.refl _ _,fun _ _ _ _ _ h=>h,fun β hb ah=>?_,fun β δ b h1 h2 h3 h4=>?_,fun i=>?_⟩
 ·obtain⟨γ,af⟩:=hh.a β (by simp[ah]);obtain⟨aX,an,k2,k1,k3,k4,k5,k6,k7,_⟩:=hh.s β γ af;rw[ah]at k1;cases k1;obtain⟨q1,q2,q3,q4,q5⟩:=hs.own γ aX k2;refine⟨by rw[k3];exact q1,by rw[k3,k5];exact q2,?_,fun hy=>?_,k7⟩
  ·simp only[af,KbW];cases hr:ρ γ with
   |none=>rw[hr]at q3;rw[k5];exact q3
   | some b=>
    rw[hr]at q3;refine⟨?_,q3.2.1,q3.2.2.move rfl k3 k4 k5 fun q u hq=>Qo.sub hq hX⟩;unfold Ctx.cls;split
    ·rename_i hy;show(if aF β=true then(gv β).bind ρ else none)=some b;rw[if_pos hy,af];exact hr
    ·rename_i hy;exact .inr ⟨β,γ,(rN (rI (by simpa using hy))).trans af,by simpa using hy,hr⟩
  ·show(gv β).bind ρ=(if aF β=true then(gv β).bind ρ else none)
   rw[if_pos hy]
 ·obtain⟨sX,e1⟩:=hh.a β h1;obtain⟨LD,e2⟩:=hh.a δ h2;simp only[e1,KbW]at h3;simp only[e2,KbW]at h4;obtain⟨aX,k1,_⟩:=hh.g β sX e1;obtain⟨cl,k2,_⟩:=hh.g δ LD e2;have:=hs.inj sX LD b (by simp[k1]) (by simp[k2]) h3 h4;subst this;exact hh.i β δ sX e1 e2
 ·unfold oE;split
  ·rw[Kap];cases hi:args[i]? with
   |none=>trivial
   |some x=>simp only[KbL,Kbm];exact(hav i x hi).eE hX fun γ af=>hr γ (ks x (Kag hi) γ af)
  ·rename_i hi;have e1:av.getD i undef=undef:=by simp only[Array.getD];rw[dif_neg (by simp at cK;omega)]
   rcases hG i (by omega)with e|⟨s',dw,e,hn⟩
   ·rw[e];trivial
   ·rw[e,e1];have aW:=hs.ch s';have e2:tmps.getD s' undef=undef:=by simp only[Array.getD];rw[dif_neg (by rw[hs.sz];have:=C.hN;omega)]
    rw[e2]at aW;exact aW.eE hX fun γ af=>hr γ (hn γ af)
theorem NI{tmps:Array Value}{au H bc:HP}{gv eo:Nat->Option Nat}{σ:Nat->Nat}{F dR:Fr}{r:PV}{v:Value}{d:Option Nat}{n:Nat}{hn:n<=1000000}{jh:Nat->Option Nat}(hs:Qv C ρ fr hp tmps w)(hh:nF C hp au gv)
  (h2:Qv ((oF C ρ fr hp au tmps w gv hs hh n hn).fW 1 (by decide)) jh (nD r F) H #[v] w') (hd:∀x,d=some x->x<C.N)
  (e1:∀γ β,eo γ=some β->H β≠none/\σ β=γ/\bg γ=true/\((aF β=true/\gn gv β=some γ)∨(aF β=false/\aF γ=false/\(hp γ=none∨∃bd,gn gv bd=some γ))))
  (e2:∀β γ,gn gv β=some γ->aF β=true->eo γ=some β)
  (q1:∀γ β,eo γ=some β->bc γ=H β) (q2:∀γ,eo γ=none->(∃β,gn gv β=some γ)->bc γ=none) (q3:∀γ,eo γ=none->(¬∃β,gn gv β=some γ)->bc γ=hp γ)
  (hS:∀s,dR s= .undef∨
   (d≠some s/\dR s=fr s/\(∀γ∈(fr s).refs++(fr s).aI,(¬∃β,gn gv β=some γ)∨∃β hb an,gn gv β=some γ/\aF β=true/\hp γ=some hb/\H β=some an/\an.e=hb.e/\hb.xs.length<=an.xs.length)/\∀γ e ty xs,fr s= .az γ e ty xs->¬∃β,gn gv β=some γ)∨
   (d=some s/\dR s=cd σ r/\∀β∈r.refs++r.aI,eo (σ β)=some β)∨
   (∃s',1000000<=s'/\(∃γ e ty xs,F s'= .az γ e ty xs)/\dR s=cd σ (F s')/\∀β∈(F s').refs++(F s').aI,eo (σ β)=some β)):
  c8 C dR bc (oB tmps d v) w':=by
 obtain⟨Yg,ql⟩:∃f:Nat->Prop,f=fun b=>∃β γ,gn gv β=some γ/\ρ γ=some b:=⟨_,rfl⟩
 have yX:∀b,Yg b->ay C ρ hp b:=fun b hb=>by rw[ql]at hb;obtain⟨β,γ,h1,h3⟩:=hb;obtain⟨hb,_,k2,k3,_⟩:=hh.n β γ h1;exact .inr ⟨γ,hb,k2,k3,h3⟩
 have fT:Ext Yg w w':=h2.ext.mono fun b _ hb=>by
  rw[ql];rcases hb with⟨β,hr,hb⟩|⟨β,γ,h1,_,h3⟩
  ·have hb:(if aF β=true then(gv β).bind ρ else none)=some b:=hb;split at hb
   ·cases hq:gv β with
    |none=>rw[hq]at hb;cases hb
    |some γ=>rw[hq]at hb;exact⟨β,γ,(rN hr).trans hq,hb⟩
   ·cases hb
  ·exact⟨β,γ,h1,h3⟩
 have y4:∀b,Yg b->∃β γ,gn gv β=some γ/\ρ γ=some b/\C.cls γ b/\hp γ≠none/\dy γ=false:=fun b hb=>by
  rw[ql]at hb;obtain⟨β,γ,h1,h3⟩:=hb;obtain⟨hb,_,k2,k3,_⟩:=hh.n β γ h1;have:=(hs.own γ hb k2).b8;rw[h3]at this;refine⟨β,γ,h1,h3,this.1,by simp[k2],?_⟩;cases hR:dy γ with
  |false=>rfl
  |true=>have:=(hs.own γ hb k2).ro hR;rw[k3]at this;cases this
 have vw:∀γ b,hp γ≠none->(¬∃β,gn gv β=some γ)->ρ γ=some b->¬Yg b:=fun γ b hk nP hr hy=>by obtain⟨β,aO,h1,h3,_,h5,_⟩:=y4 b hy;have:=hs.inj γ aO b hk h5 hr h3;subst this;exact nP ⟨β,h1⟩
 have sR:∀β hb,H β=some hb->ny (oF C ρ fr hp au tmps w gv hs hh n hn) jh H w' β hb:=fun β hb h=>ny.fW.1 (h2.own β hb h);have xR:∀β γ,aF β=true->gn gv β=some γ->H β≠none->jh β=ρ γ:=fun β γ hy hg hH=>by obtain⟨hb,hq⟩:=Kbx.1 hH;have:=(sR β hb hq).fix hy;rw[this];show(if aF β=true then(gv β).bind ρ else none)=ρ γ;rw[if_pos hy,(xk hg).2];rfl
 have JP:∀β hb b,aF β=false->H β=some hb->jh β=some b->w.heap.size<=b∨Yg b:=fun β hb b hy hH hr=>by
  have:=(sR β hb hH).b8;rw[hr]at this;rcases Ctx.oK this.1 hy with h|⟨bd,aO,k1,_,k3⟩
  ·exact .inl h
  ·exact .inr (by rw[ql];exact⟨bd,aO,k1,k3⟩)
 have Zt:∀β hb b,aF β=false->H β=some hb->jh β=some b->C.w0.heap.size<=b∨C.Z0 b:=fun β hb b hy hH hr=>by
  have:=(sR β hb hH).b8;rw[hr]at this;rcases Ctx.oK this.1 hy with h|⟨bd,aO,k1,k2,k3⟩
  ·exact .inl (KaY hs.ext.size h)
  ·obtain⟨an,_,l2,_,_,_,l6⟩:=hh.n bd aO k1;have:=(hs.own aO an l2).b8;rw[k3]at this;exact Ctx.oK this.1 (l6 k2)
 obtain⟨ρ',aU⟩:∃f:Nat->Option Nat,f=fun γ=>match eo γ with|some β=>jh β|none=>ρ γ:=⟨_,rfl⟩
 have rs:∀γ β,eo γ=some β->ρ' γ=jh β:=fun γ β h=>by rw[aU];simp[h]
 have rn:∀γ,eo γ=none->ρ' γ=ρ γ:=fun γ h=>by rw[aU];simp[h]
 have yf:∀b,ay C ρ' bc b->ay (oF C ρ fr hp au tmps w gv hs hh n hn) jh H b:=by
  rintro b (hx|⟨γ,hb,h1,h3,h4⟩)
  ·refine .inl ⟨.inl hx,fun hy=>?_⟩;obtain⟨_,γ,_,_,h5,_,h7⟩:=y4 b (by rw[ql];exact hy);exact Ctx.xO h5 h7 hx
  ·cases hq:eo γ with
   |some β=>rw[q1 γ β hq]at h1;rw[rs γ β hq]at h4;exact .inr ⟨β,hb,h1,h3,h4⟩
   | none=>
    rw[rn γ hq]at h4;by_cases hg:∃β,gn gv β=some γ
    ·rw[q2 γ hq hg]at h1;cases h1
    ·rw[q3 γ hq hg]at h1;exact .inl ⟨.inr ⟨γ,hb,h1,h3,h4⟩,fun hy=>vw γ b (by simp[h1]) hg h4 (by rw[ql];exact hy)⟩
 have qk:∀b,b<w.heap.size->ay C ρ' bc b->ay C ρ hp b:=fun b hb hx=>by
  rcases yf b hx with hx|⟨β,DU,h1,h3,h4⟩
  ·exact hx.1
  ·by_cases hy:aF β=true
   ·have:=(sR β DU h1).fix hy;rw[h4]at this;have this:some b=(if aF β=true then(gv β).bind ρ else none):=this;rw[if_pos hy]at this;have hR:dy β=false:=by
     cases hR:dy β with
     |false=>rfl
     |true=>have:=(sR β DU h1).ro hR;rw[h3]at this;cases this
    cases hq:gv β with
    |none=>rw[hq]at this;cases this
    |some γ=>rw[hq]at this;exact yX b (by rw[ql];exact⟨β,γ,(rN hR).trans hq,this.symm⟩)
   ·rcases JP β DU b (by simpa using hy) h1 h4 with h|h
    ·omega
    ·exact yX b h
 have aR:iN w w' (ay C ρ hp) (ay C ρ' bc):=⟨fun b hb iY=>fT.block b hb fun hy=>iY (yX b hy),fun b hb iY hx=>iY (qk b hb hx),fT.size⟩
 have JM:∀β γ b,aF β=true->gn gv β=some γ->ρ γ=some b->∀e cap,cu w b e cap->cu w' b e cap:=fun β γ b hy hg hr e cap hc=>by refine h2.dE β b ?_ e cap hc;show(if aF β=true then(gv β).bind ρ else none)=some b;rw[if_pos hy,(xk hg).2];exact hr
 refine⟨ρ',?_,?_,fun β b hb e cap hc=>?_,fun γ hb af=>?_,fun γ δ b g1 g2 g3 g4=>?_,fun s=>?_⟩
 ·cases d with
  |none=>exact hs.sz
  |some d=>simp only[oB];simpa using hs.sz
 ·refine hs.ext.trans' fT fun b hb hy=>?_;obtain⟨_,_,_,_,h5,_,h7⟩:=y4 b hy;exact(Ctx.xP h5 h7).resolve_left (by omega)
 ·have h1:=hs.dE β b hb e cap hc;by_cases hy:Yg b
  ·obtain⟨EY,sX,k1,k3,k4,k5,_⟩:=y4 b hy;by_cases hY:aF EY=true
   ·exact JM EY sX b hY k1 k3 e cap h1
   ·obtain⟨_,_,_,_,_,_,l6⟩:=hh.n EY sX k1;exact absurd hb (Ctx.Fb (Ctx.oK k4 (l6 (by simpa using hY))))
  ·exact gU (fT.block b (gY h1) hy) h1
 ·cases hq:eo γ with
  | some β=>
   have hH:H β=some hb:=by rw[<-q1 γ β hq];exact af
   obtain⟨k1,k2,k3,k4⟩:=e1 γ β hq;obtain⟨o1,o2,o3,o4,o5⟩:=sR β hb hH;refine⟨o1,o2,?_,fun hy=>?_,fun hR=>?_⟩
   ·rw[rs γ β hq];cases hr:jh β with
    |none=>rw[hr]at o3;exact o3
    | some b=>
     rw[hr]at o3;refine⟨?_,o3.2.1,o3.2.2.move rfl rfl rfl rfl fun q u hq=>Qo.sub hq yf⟩;rcases k4 with⟨k4,k5⟩|⟨k4,k5,_⟩
     ·have e:=xR β γ k4 k5 k1;rw[hr]at e;obtain⟨an,_,l2,_⟩:=hh.n β γ k5;have:=(hs.own γ an l2).b8;rw[<-e]at this;exact this.1
     ·exact Ctx.JQ (Zt β hb b k4 hH hr) k5
   ·rcases k4 with⟨k4,k5⟩|⟨_,k5,_⟩
    ·rw[rs γ β hq,xR β γ k4 k5 k1];obtain⟨an,_,l2,_⟩:=hh.n β γ k5;exact(hs.own γ an l2).fix hy
    ·rw[k5]at hy;cases hy
   ·rcases k4 with⟨k4,k5⟩|⟨_,k5,_⟩
    ·obtain⟨an,_,l2,l3,_⟩:=hh.n β γ k5;have:=(hs.own γ an l2).ro hR;rw[l3]at this;cases this
    ·rw[rI k5]at hR;cases hR
  | none=>
   by_cases hg:∃β,gn gv β=some γ
   ·rw[q2 γ hq hg]at af;cases af
   ·rw[q3 γ hq hg]at af;obtain⟨o1,o2,o3,o4,o5⟩:=hs.own γ hb af;refine⟨o1,o2,?_,(fun hy=>by rw[rn γ hq];exact o4 hy),o5⟩;rw[rn γ hq];cases hr:ρ γ with
    |none=>rw[hr]at o3;exact o3
    |some b=>rw[hr]at o3;exact⟨o3.1,Ka7 o3.2.1 fT.size,o3.2.2.move (fT.block b o3.2.1 (vw γ b (by simp[af]) hg hr)) rfl rfl rfl aR.rc⟩
 ·have JS:∀γ δ β,eo γ=some β->eo δ=none->bc δ≠none->jh β=some b->ρ δ=some b->False:=fun γ δ β h1 h3 h5 h6 h7=>by
   have hg:¬∃β,gn gv β=some δ:=fun hg=>h5 (q2 δ h3 hg);rw[q3 δ h3 hg]at h5;obtain⟨k1,k2,k3,k4⟩:=e1 γ β h1;obtain⟨hb,hH⟩:=Kbx.1 k1;rcases k4 with⟨k4,k5⟩|⟨k4,k5,_⟩
   ·rw[xR β γ k4 k5 k1]at h6;obtain⟨an,_,l2,_⟩:=hh.n β γ k5;have:=hs.inj γ δ b (by simp[l2]) h5 h6 h7;subst this;exact hg ⟨β,k5⟩
   ·rcases JP β hb b k4 hH h6 with h|h
    ·obtain⟨an,hq⟩:=Kbx.1 h5;have:=(hs.own δ an hq).b8;rw[h7]at this;omega
    ·exact vw δ b h5 hg h7 h
  cases h1:eo γ with
  | some β=>
   rw[rs γ β h1]at g3;cases h3:eo δ with
   |some bd=>rw[rs δ bd h3]at g4;have:=h2.inj β bd b (e1 γ β h1).1 (e1 δ bd h3).1 g3 g4;rw[<-(e1 γ β h1).2.1,<-(e1 δ bd h3).2.1,this]
   |none=>rw[rn δ h3]at g4;exact(JS γ δ β h1 h3 g2 g3 g4).elim
  | none=>
   rw[rn γ h1]at g3;cases h3:eo δ with
   |some bd=>rw[rs δ bd h3]at g4;exact(JS δ γ bd h3 h1 g1 g4 g3).elim
   | none=>
    rw[rn δ h3]at g4;have k:∀γ,eo γ=none->bc γ≠none->hp γ≠none:=fun γ h hq=>by
     by_cases hg:∃β,gn gv β=some γ
     ·exact absurd (q2 γ h hg) hq
     ·rwa[q3 γ h hg]at hq
    exact hs.inj γ δ b (k γ h1 g1) (k δ h3 g2) g3 g4
 ·have jb:∀β,eo (σ β)=some β->oI σ jh ρ' H bc β:=fun β h=>⟨rs _ _ h,(fun hb hq=>⟨hb,by rw[q1 _ _ h];exact hq,rfl,rfl,rfl⟩),fun _=>(e1 _ _ h).2.2.1⟩
  rcases hS s with e|⟨k1,k2,k3,k4⟩|⟨k1,k2,k3⟩|⟨s',k1,k2,k3,k4⟩
  ·rw[e];trivial
  ·have hv:(oB tmps d v).getD s undef=tmps.getD s undef:=by
    cases d with
    |none=>rfl
    |some x=>simp only[oB,KaA];rw[Kb5 (fun e=>k1 (by rw[e]))]
   rw[hv,k2];have aW:=hs.ch s;have qw:=aW.known;have JV:∀γ,hp γ≠none->(¬∃β,gn gv β=some γ)->kH ρ ρ' hp bc w w' γ:=fun γ hk hg=>by
    have oU:eo γ=none:=by
     cases hq:eo γ with
     |none=>rfl
     |some β=>
      rcases(e1 γ β hq).2.2.2 with⟨_,h⟩|⟨_,_,h|h⟩
      ·exact absurd ⟨β,h⟩ hg
      ·exact absurd h hk
      ·exact absurd h hg
    refine⟨rn γ oU,fun hb hq=>⟨hb,by rw[q3 γ oU hg];exact hq,rfl,Kae _,fun b cap hr hc=>gU (fT.block b (gY hc) (vw γ b hk hg hr)) hc,fun he=>⟨he,rfl,fun b hr=>fT.block b ?_ (vw γ b hk hg hr)⟩⟩⟩;have:=(hs.own γ hb hq).b8;rw[hr]at this;exact this.2.1
   have par:∀γ,hp γ≠none->((¬∃β,gn gv β=some γ)∨∃β hb an,gn gv β=some γ/\aF β=true/\hp γ=some hb/\H β=some an/\an.e=hb.e/\hb.xs.length<=an.xs.length)->pX ρ ρ' hp bc w w' γ:=fun γ hk h=>by
    rcases h with h|⟨β,hb,an,l1,l2,l3,l4,l5,l6⟩
    ·exact(JV γ hk h).sW
    ·have oU:=e2 β γ l1 l2;refine⟨by rw[rs γ β oU];exact xR β γ l2 l1 (by simp[l4]),fun iT hq=>?_⟩;rw[l3]at hq;cases hq;exact⟨an,by rw[q1 γ β oU];exact l4,l5,l6,fun b cap hr hc=>JM β γ b l2 l1 hr _ cap hc⟩
   refine aW.move aR (fun γ af=>?_) (fun γ af=>par γ (qw.2 γ af) (k3 γ (Kbe _ af))) (fun γ e ty xs e0=>JV γ (qw.2 γ (by rw[e0];simp[PV.aI])) (k4 γ e ty xs e0));have:=par γ (qw.1 γ af) (k3 γ (KbQ _ af));exact⟨this.r,this.h⟩
  ·subst k1;have hv:(oB tmps (some s) v).getD s undef=v:=by have:=hd s rfl;simp[oB,Array.getD,hs.sz,this]
   rw[hv,k2];have:=h2.ch 0;exact Qh.eE (C':=C) (ρ':=ρ') (hp':=bc) this yf fun β ah=>jb β (k3 β ah)
  ·obtain⟨γ,e,ty,xs,hF⟩:=k2;rw[k3];have:=h2.ch s';have e0:nD r F s'=F s':=by unfold nD;rw[if_neg (by omega),if_neg (by omega)]
   rw[e0]at this;have h3:=Qh.eE (C':=C) (ρ':=ρ') (hp':=bc) this yf fun β ah=>jb β (k4 β ah);rw[hF]at h3⊢;exact h3
theorem NJ{tmps:Array Value}{au H:HP}{gv:Nat->Option Nat}{F:Fr}{r:PV}{v:Value}{n:Nat}{hn:n<=1000000}{jh:Nat->Option Nat}(hs:Qv C ρ fr hp tmps w)(hh:nF C hp au gv)
  (h2:Qv ((oF C ρ fr hp au tmps w gv hs hh n hn).fW 1 (by decide)) jh (nD r F) H #[v] w') (h0:∀β,gn gv β=none):Ext bO w w':=h2.ext.mono fun b _ hb=>by
 rcases hb with⟨β,hr,hb⟩|⟨β,γ,h1,_,h3⟩
 ·have hb:(if aF β=true then(gv β).bind ρ else none)=some b:=hb;have e:=(rN (gv:=gv) hr).symm;rw[e,h0 β]at hb;split at hb<;>cases hb
 ·rw[h0 β]at h1;cases h1
end Go.FW
namespace Go.FW
open Go
variable {C : Ctx} {R : Qg} {fr : Fr} {hp : HP} {K : Qg}
theorem okA{sk:List It}(h:dI R sk:=by repeat (first|exact Qx|exact Qq|exact Qr|exact Qt|exact Qu|apply Qp|apply Qw|apply Q3|apply Q8|apply Q9|apply Qn)):dI R sk:=h
theorem okB{sk:List It}(h:dI R sk:=by repeat (first|exact Qx|exact Qq|exact Qr|exact Qt|exact Qu|apply Qp|apply Qw|apply Q3|apply Q8|apply Q9|apply Qn|apply Q7)):dI R sk:=h
theorem fnV {P : Program} {f : FuncId} {fn : Func} {sf : aw} {args : List PV} {Rr : PV -> Prop} {n : Nat} {rs : List RV} {b : SC} (hm : P.follows .mixedOrders = true) (hf : P.funcs[f]? = some fn) (hc : Qe P fn = some sf) (hv : ∀ C : Ctx, C.P = P -> vc C (eg rs Rr) [.c b] (fO args) au) (he : sf = ⟨n, rs, b⟩ := by conv => lhs; whnf) (kt : (fn.name != "runtime.NumGoroutine") = true := by rfl) (hn : args.length <= n /\ n <= 1000000 := by simp) : Qd P f args Rr := by subst he;exact Qf hm hf kt hc hn hv
theorem acJ{P:Program}(hP:C.P=P){g:FuncId}{first cap args:List PV}{pr:Bool}{d:Option Nat}{r:PV}(h:Qd P g ((first++args++cap).map (Qy hp)) (· =r))(hK:K (ew fr d r) hp)(cQ:((first++args++cap).map (Qy hp)).all PV.ax=true:=by exact rfl)(hr:(first++args++cap).flatMap PV.refs=[]:=by exact rfl):ez C pr (.fn g first cap) args d fr hp K:=Qa hP h rfl cQ hr hK
theorem Oz{p:Prop}(h:p:=by omega):p:=h
theorem Nz{a b:Nat}(h:(Nat.ble a b&&Nat.ble b 1000000)=true:=by rfl):a<=b/\b<=1000000:=by simp only[Kbb,Nat.ble_eq]at h;exact h
theorem Wz0{p:Prop}{P:Program}(hP:C.P=P){g:FuncId}{first cap args aM:List PV}{pr:Bool}{d:Option Nat}{r:PV}(h:Qd P g aM (· =r))(hK:K (ew fr d r) hp)(e:p=ez C pr (.fn g first cap) args d fr hp K:=by conv=>lhs;simp+decide (disch:=try exact Dz0) only[go_sem])(ha:(first++args++cap).map (Qy hp)=aM:=by exact rfl)(cQ:aM.all PV.ax=true:=by exact rfl)(hr:(first++args++cap).flatMap PV.refs=[]:=by exact rfl):p:=(e).mpr (Qa hP h ha cQ hr hK)
theorem Wz1{p A0:Prop}(x0:A0){P:Program}(hP:C.P=P){g:FuncId}{first cap args aM:List PV}{pr:Bool}{d:Option Nat}{r:PV}(h:Qd P g aM (· =r))(hK:K (ew fr d r) hp)(e:A0->p=ez C pr (.fn g first cap) args d fr hp K:=by intro x0;conv=>lhs;simp+decide (disch:=try exact Dz1 @x0) only[go_sem,x0])(ha:(first++args++cap).map (Qy hp)=aM:=by exact rfl)(cQ:aM.all PV.ax=true:=by exact rfl)(hr:(first++args++cap).flatMap PV.refs=[]:=by exact rfl):p:=(e x0).mpr (Qa hP h ha cQ hr hK)
theorem Wz2{p A0 A1:Prop}(x0:A0)(x1:A1){P:Program}(hP:C.P=P){g:FuncId}{first cap args aM:List PV}{pr:Bool}{d:Option Nat}{r:PV}(h:Qd P g aM (· =r))(hK:K (ew fr d r) hp)(e:A0->A1->p=ez C pr (.fn g first cap) args d fr hp K:=by intro x0 x1;conv=>lhs;simp+decide (disch:=try exact Dz2 @x0 @x1) only[go_sem,x0,x1])(ha:(first++args++cap).map (Qy hp)=aM:=by exact rfl)(cQ:aM.all PV.ax=true:=by exact rfl)(hr:(first++args++cap).flatMap PV.refs=[]:=by exact rfl):p:=(e x0 x1).mpr (Qa hP h ha cQ hr hK)
theorem Wz3{p A0 A1 A2:Prop}(x0:A0)(x1:A1)(x2:A2){P:Program}(hP:C.P=P){g:FuncId}{first cap args aM:List PV}{pr:Bool}{d:Option Nat}{r:PV}(h:Qd P g aM (· =r))(hK:K (ew fr d r) hp)(e:A0->A1->A2->p=ez C pr (.fn g first cap) args d fr hp K:=by intro x0 x1 x2;conv=>lhs;simp+decide (disch:=try exact Dz3 @x0 @x1 @x2) only[go_sem,x0,x1,x2])(ha:(first++args++cap).map (Qy hp)=aM:=by exact rfl)(cQ:aM.all PV.ax=true:=by exact rfl)(hr:(first++args++cap).flatMap PV.refs=[]:=by exact rfl):p:=(e x0 x1 x2).mpr (Qa hP h ha cQ hr hK)
theorem Wz4{p A0 A1 A2 A3:Prop}(x0:A0)(x1:A1)(x2:A2)(x3:A3){P:Program}(hP:C.P=P){g:FuncId}{first cap args aM:List PV}{pr:Bool}{d:Option Nat}{r:PV}(h:Qd P g aM (· =r))(hK:K (ew fr d r) hp)(e:A0->A1->A2->A3->p=ez C pr (.fn g first cap) args d fr hp K:=by intro x0 x1 x2 x3;conv=>lhs;simp+decide (disch:=try exact Dz4 @x0 @x1 @x2 @x3) only[go_sem,x0,x1,x2,x3])(ha:(first++args++cap).map (Qy hp)=aM:=by exact rfl)(cQ:aM.all PV.ax=true:=by exact rfl)(hr:(first++args++cap).flatMap PV.refs=[]:=by exact rfl):p:=(e x0 x1 x2 x3).mpr (Qa hP h ha cQ hr hK)
theorem Wz5{p A0 A1 A2 A3 A4:Prop}(x0:A0)(x1:A1)(x2:A2)(x3:A3)(x4:A4){P:Program}(hP:C.P=P){g:FuncId}{first cap args aM:List PV}{pr:Bool}{d:Option Nat}{r:PV}(h:Qd P g aM (· =r))(hK:K (ew fr d r) hp)(e:A0->A1->A2->A3->A4->p=ez C pr (.fn g first cap) args d fr hp K:=by intro x0 x1 x2 x3 x4;conv=>lhs;simp+decide (disch:=try exact Dz5 @x0 @x1 @x2 @x3 @x4) only[go_sem,x0,x1,x2,x3,x4])(ha:(first++args++cap).map (Qy hp)=aM:=by exact rfl)(cQ:aM.all PV.ax=true:=by exact rfl)(hr:(first++args++cap).flatMap PV.refs=[]:=by exact rfl):p:=(e x0 x1 x2 x3 x4).mpr (Qa hP h ha cQ hr hK)
end Go.FW
