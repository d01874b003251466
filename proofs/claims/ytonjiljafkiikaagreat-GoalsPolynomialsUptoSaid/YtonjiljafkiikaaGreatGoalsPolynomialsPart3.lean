/- Part 3 of the proof of GoalsPolynomials: FwNF, FwSu. Own lemmas; no conditions. -/
import Derived.Test.YtonjiljafkiikaaGreatGoalsPolynomialsPart2
set_option maxHeartbeats 1000000
set_option linter.unusedSimpArgs false
set_option linter.unusedVariables false
set_option linter.unnecessarySimpa false
set_option maxRecDepth 100000
namespace Go.FW
open Go
variable {C : Ctx} {ρ : Nat -> Option Nat} {fr aw : Fr} {hp hp' : HP} {w w' : World} {K R : Qg}
def pd(args:List PV)(G:Fr):Fr:=fun s=>if s<1000000 then(args[s]?).getD .undef else G s
def n5(r:PV)(F:Fr):Fr:=fun s=>if s=0 then r else if s<1000000 then .undef else F s
def Ctx.gy(C:Ctx)(n:Nat)(hn:n<=1000000):Ctx:={ C with N:=n,hN:=hn }
theorem n6.gy{C:Ctx}{n:Nat}{hn:n<=1000000}{β:Nat}{hb:HB}:n6 (C.gy n hn) ρ hp w β hb↔n6 C ρ hp w β hb:=⟨fun h=>⟨h.gF,h.len,h.ca,h.fix,h.ro⟩,fun h=>⟨h.gF,h.len,h.ca,h.fix,h.ro⟩⟩
def sr(P:Program)(f:FuncId)(args:List PV)(G:Fr)(au:HP)(aT:PV->Fr->HP->Prop):Prop:=
 lI P f/\∀(C:Ctx)(ρ:Nat->Option Nat)(aU:Array Value)(w:World),C.P=P->C.w0=w->C.N=args.length->Qv C ρ (pd args G) au aU w->
  Calls P f aU w fun e w'=>∃v ρ' r F H,e= .returned v/\Qv (C.gy 1 (by decide)) ρ' (n5 r F) H #[v] w'/\aT r F H
def PV.Gf:PV->Bool
 |.aq β _ _=>bm β
 |.int .. | .bool _| .aa=>true
 |_=>false
theorem Qj.wO{p:PV}{v:Value}(h:Qj C ρ hp w p v)(h1:p.Gf=true):b8 C ρ hp w p v:=by
 cases p with
 |aq β o n=>exact⟨h1,h⟩
 |int k n=>exact h
 |bool b=>exact h
 |aa=>exact h
 |_=>cases h1
def yJ(fr:Fr)(s n:Nat)(cs:List PV):Prop:=∃γ i o e ty xs,fr s= .np γ i o/\fr γ= .aC γ e ty xs/\∃h:i<xs.length,o+n<=e/\nG true n o (xs[i]'h)= .aH cs
theorem ad2{P:Program}(hP:C.P=P){a:Act}{x t n:Nat}{cs:List PV}(hc:eT P (.cell x t)=some (.cell x n true))(h:Qv C ρ fr hp a.tmps w)(hn:yJ fr x n cs):
  ∃vs:Array Value,(gC a.tmps (.cell x t)).run P w= .ok (.agg vs) w/\vs.size=cs.length/\∀(i:Nat)(y:PV),cs[i]? =some y->b8 C ρ hp w y (vs.getD i undef):=by
 subst hP;obtain⟨γ,i,o,e,ty,xs,h1,h2,hi,hle,hr⟩:=hn;simp only[eT,Kab,Kaa]at hc;obtain⟨n',v5,ag,fX,he⟩:=hc;cases he;have hx:=h.cd x;rw[h1]at hx;obtain⟨hB,b,hb,g1,g2,g3⟩:=hx.zO;have a9:=h.cd γ;rw[h2]at a9;obtain⟨_,qX,b',ao,cur,cap,q1,q2,q3,q4,q5,q6,q7,q8,q9,rL,oE⟩:=a9;rw[g1]at q1;cases q1;rw[g2]at q2;cases q2;rw[q4]at g3;have eg:=Kaf hi;have dY:=rL i _ eg;have mF:∀j,j<n->i*e+o+j<cur.size:=fun j hj=>by rw[q7];exact jM (show i<cap by omega) hle hj
 have bD:=tP (P:=C.P) (t:=t) (b:=b) (off:=i*e+o) (vs:=Array.ofFn (n:=n) fun j=>cur.getD (i*e+o+j.val) undef) v5 fX (fun h=>by cases h) (by simp) w
  (fun j hj=>by rw[mV (f:=fun j=>cur.getD (i*e+o+j) undef) hj];exact iu q6 (mF j hj))
 have eA:=Cp (C:=C) (ρ:=ρ) (hp:=hp) (w:=w) (ag:=true) (n:=n) (off:=o) (x:=xs[i]) (vs:=Array.ofFn (n:=n) fun j=>cur.getD (i*e+o+j.val) undef) (by simp) (by rw[dY];exact hle) (fun h=>by cases h) (fun j y hj hy=>by rw[mV (f:=fun j=>cur.getD (i*e+o+j) undef) hj,KbL];exact oE i _ eg (o+j) y hy);rw[hr]at eA;obtain⟨vs,ev,k1,k2⟩:=eA;refine⟨vs,?_,k1,k2⟩;rw[<-ev,<-bD];simp only[gC,g3,asAddr,Kak,KaN,Kai]
def n8(rs:List RV)(aT:PV->Fr->HP->Prop):Qg:=fun fr hp=>∃aw hp',Wk fr hp aw hp'/\
 (eE rs (fun r=>aT r aw (bw hp' (rs.flatMap (lr aw)))) aw hp'∨(∃s,rs=[.t s]/\aT (aw s) aw hp')∨(∃s t,rs=[.t s,.t t]/\(aw s).Gf=true/\(aw t).Gf=true/\aT (.dk [aw s,aw t]) aw hp')∨∃s n b cs,rs=[.cell s n true,b]/\lr aw b=[]/\gQ aw hp' b/\yJ aw s n cs/\aT (.cm cs (gx aw hp' b)) aw hp')
theorem Ky{s n:Nat}{b:RV}{cs:List PV}{aT:PV->Fr->HP->Prop}(h1:yJ fr s n cs)(h2:lr fr b=[])(h3:gQ fr hp b)(h:aT (.cm cs (gx fr hp b)) fr hp):n8 [.cell s n true,b] aT fr hp:=⟨fr,hp,Wk.refl _ _,.inr (.inr (.inr ⟨s,n,b,cs,rfl,h2,h3,h1,h⟩))⟩
theorem Ta{rs:List RV}{aT:PV->Fr->HP->Prop}:KM (n8 rs aT) (n8 rs aT):=by rintro f f' hp hf ⟨aw,hp',h1,h2⟩;exact⟨aw,hp',hf.wk.trans h1,h2⟩
theorem Qu{rs:List RV}{aT:PV->Fr->HP->Prop}:dQ (n8 rs aT) []:=⟨Ta,.nil⟩
theorem rV {P : Program} {f : FuncId} {fn : Func} {sf : az} {args : List PV} {G : Fr} {au : HP} {aT : PV -> Fr -> HP -> Prop} (hm : P.follows .mixedOrders = true) (hf : P.funcs[f]? = some fn) (kT : (fn.name != "runtime.NumGoroutine") = true) (hc : Qe P fn = some sf.strip) (hn : args.length <= sf.n /\ sf.n <= 1000000)
  (hv:∀C:Ctx,C.P=P->vc C (n8 sf.rs aT) [.c sf.body] (pd args G) au):sr P f args G au aT:=by
 simp only[Qe,Kab,Kaa]at hc;obtain⟨c,hb,sb,fY,rs,cr,we⟩:=hc;obtain⟨n,Gi,body⟩:=sf;simp only[az.strip,az.mk.injEq]at we;obtain⟨rfl,rfl,rfl⟩:=we;refine⟨by simp[lI,hf,hb];simpa using kT,fun C ρ aU w hP hw hN hs=>?_⟩;subst hP;refine calls_of_wp hf hb ?_;have ie:aU.size=args.length:=by rw[hs.sz,hN]
 have nD:(aU++Array.replicate (fn.ntmps-aU.size) undef).size=fn.ntmps:=by simp at hn ⊢;omega
 have kW:Qv (C.gy fn.ntmps hn.2) ρ (pd args G) au (aU++Array.replicate (fn.ntmps-aU.size) undef) w:=by
  refine⟨nD,hs.ext,hs.dK,fun β hb h=>n6.gy.2 (hs.own β hb h),hs.inj,fun i=>?_⟩;have a9:=hs.cd i;by_cases hi:i<args.length
  ·have e:(aU++Array.replicate (fn.ntmps-aU.size) undef).getD i undef=aU.getD i undef:=by rw[gV,if_pos (by omega)]
   rw[e];exact a9
  ·unfold pd at a9⊢;split
   ·rw[List.getElem?_eq_none (by omega)];trivial
   ·rename_i h2;rw[if_neg h2]at a9;have e1:aU.getD i undef=undef:=by simp[Array.getD,ie,hi]
    have e2:(aU++Array.replicate (fn.ntmps-aU.size) undef).getD i undef=undef:=by simp only[Array.getD];rw[dif_neg (by rw[nD];simp at hn;omega)]
    rw[e2];rw[e1]at a9;exact a9
 have fin:∀(fr:Fr) (hp:HP) (a:Act) (w':World),a.defers=[]->cT (C.gy fn.ntmps hn.2) fr hp a.tmps w'->n8 rs aT fr hp->
   a.defers=[]/\∃v,(results fn a.tmps).run C.P w'= .ok v w'/\∃v' ρ' r F H,Ending.returned v= .returned v'/\Qv (C.gy 1 (by decide)) ρ' (n5 r F) H #[v'] w'/\aT r F H:=by
  rintro fr hp a w' hd ru ⟨jk,ew,hw1,hr⟩;obtain⟨rN,ee⟩:=hw1 _ _ _ ru;have ghost:∀ {bu:HP} {r:PV} {v:Value},Qv (C.gy fn.ntmps hn.2) rN jk bu a.tmps w'->Qj C rN bu w' r v->Qv (C.gy 1 (by decide)) rN (n5 r jk) bu #[v] w':=by
   intro bu r v dH oy;refine⟨rfl,dH.ext,dH.dK,fun β hb h=>n6.gy.2 (n6.gy.1 (dH.own β hb h)),dH.inj,fun i=>?_⟩;unfold n5;split
   ·rename_i hi;subst hi;exact oy
   ·split
    ·trivial
    ·rename_i h0 h1;have a9:=dH.cd i;have e1:a.tmps.getD i undef=undef:=by have hz:a.tmps.size=fn.ntmps:=dH.sz;have v7:fn.ntmps<=1000000:=hn.2;simp only[Array.getD];rw[dif_neg (by omega)]
     have e2:(#[v]:Array Value).getD i undef=undef:=by simp only[Array.getD];rw[dif_neg (by simp;omega)]
     rw[e2];rw[e1]at a9;exact a9
  rcases hr with hr|⟨s,wc,fj⟩|⟨s,t,wc,dH,Mt,fj⟩|⟨s,n,b,cs,wc,L7,bQ,ny,fj⟩
  ·obtain⟨v,r,h1,h2,_,h3⟩:=By (C:=C.gy fn.ntmps hn.2) rfl cr ee hr;refine⟨hd,v,h1,v,rN,r,jk,_,rfl,ghost (ee.freeze _) (Qj.zP h2),h3⟩
  ·subst wc;obtain⟨x,hx⟩:∃x,fn.results.toList=[x]:=by have:=iV cr;exact Kcf.1 (by rw[<-this.1];rfl)
   have gL:eT C.P x=some (.t s):=by rw[hx]at cr;simp only[KbT,Kcx,KbF,KbX,Kab,Kar]at cr;obtain⟨y,h1,_,_,h2⟩:=cr;simp only[Kb9]at h2;rw[<-h2.1];exact h1
   have mO:x= .tmp s:=by
    cases x with
    |tmp t=>simpa[eT]using gL
    |cell y t=>simp[eT,Kab]at gL
   subst mO;have eI:(results fn a.tmps).run C.P w'= .ok (a.tmps.getD s undef) w':=by have e:results fn a.tmps=(do let vs<-fn.results.mapM (gC a.tmps);pure (if h:vs.size=1 then vs[0]else .tuple vs)):=rfl;rw[e,Kbl,hx];simp[Kak,gC]
   exact⟨hd,_,eI,_,rN,_,jk,ew,rfl,ghost ee (ee.cd s),fj⟩
  ·subst wc;have hlen:=iV cr;obtain⟨x,y,hx⟩:∃x y,fn.results.toList=[x,y]:=by
    have h2:fn.results.toList.length=2:=by rw[<-hlen.1];rfl
    match h3:fn.results.toList,h2 with
    | [x,y],_=>exact⟨x,y,rfl⟩
   rw[hx]at cr;simp only[KbT,Kcx,KbF,KbX,Kab,Kar]at cr;obtain⟨u1,k1,l1,⟨u2,k2,l2,k3,k4⟩,k5⟩:=cr;subst k3 k4;simp only[Kb9,and_true]at k5;obtain⟨rfl,rfl⟩:=k5;have tm:∀ {z:ResultVar} {s:Nat},eT C.P z=some (.t s)->z= .tmp s:=fun {z s} hz=>by
    cases z with
    |tmp t=>simpa[eT]using hz
    |cell y t=>simp[eT,Kab]at hz
   obtain rfl:=tm k1;obtain rfl:=tm k2;have eI:(results fn a.tmps).run C.P w'= .ok (.tuple #[a.tmps.getD s undef,a.tmps.getD t undef]) w':=by have e:results fn a.tmps=(do let vs<-fn.results.mapM (gC a.tmps);pure (if h:vs.size=1 then vs[0]else .tuple vs)):=rfl;rw[e,Kbl,hx];simp[Kak,gC]
   refine⟨hd,_,eI,_,rN,_,jk,ew,rfl,ghost (r:=.dk [jk s,jk t]) ee ⟨#[a.tmps.getD s undef,a.tmps.getD t undef],rfl,rfl,fun i x hi=>?_⟩,fj⟩
   match i,hi with
   |0,hi=>simp at hi;subst hi;exact(ee.cd s).wO dH
   |1,hi=>simp at hi;subst hi;exact(ee.cd t).wO Mt
   |i+2,hi=>simp at hi
  ·subst wc;have hlen:=iV cr;obtain⟨x,y,hx⟩:∃x y,fn.results.toList=[x,y]:=by
    have h2:fn.results.toList.length=2:=by rw[<-hlen.1];rfl
    match h3:fn.results.toList,h2 with
    | [x,y],_=>exact⟨x,y,rfl⟩
   rw[hx]at cr;simp only[KbT,Kcx,KbF,KbX,Kab,Kar]at cr;obtain⟨u1,k1,l1,⟨u2,k2,l2,k3,k4⟩,k5⟩:=cr;subst k3 k4;simp only[Kb9,and_true]at k5;obtain⟨rfl,rfl⟩:=k5;obtain⟨x',t',rfl⟩:∃x' t',x= .cell x' t':=by
    cases x with
    |tmp t=>simp[eT]at k1
    |cell y t=>exact⟨y,t,rfl⟩
   have tz:x'=s:=by simp only[eT,Kab,Kaa]at k1;obtain⟨_,_,_,_,he⟩:=k1;cases he;rfl
   subst tz;obtain⟨vs,q1,q2,q3⟩:=ad2 (C:=C.gy fn.ntmps hn.2) rfl k1 ee ny;obtain⟨u,r1,r2⟩:=Kg (C:=C.gy fn.ntmps hn.2) rfl k2 ee bQ;rw[L7,tS]at r2;have eI:(results fn a.tmps).run C.P w'= .ok (.tuple #[.agg vs,u]) w':=by have e:results fn a.tmps=(do let vs<-fn.results.mapM (gC a.tmps);pure (if h:vs.size=1 then vs[0]else .tuple vs)):=rfl;rw[e,Kbl,hx];have q1':(gC a.tmps (.cell x' t')).run C.P w'= .ok (.agg vs) w':=q1;have r1':(gC a.tmps y).run C.P w'= .ok u w':=r1;simp[Kak,q1',r1']
   exact⟨hd,_,eI,_,rN,_,jk,ew,rfl,ghost (r:=.cm cs _) ee ⟨vs,u,rfl,q2,q3,r2⟩,fj⟩
 exact Be (C:=C.gy fn.ntmps hn.2) (R:=n8 rs aT) hm c body [] _ (pd args G) au _ w fY ⟨fun fr hp a w' hd hs hv=>(by rw[oW]at hv;exact fin fr hp a w' hd hs hv),fun id dm he=>(by simp[FW.bJ]at he),fin⟩ rfl ⟨ρ,kW⟩ (hv (C.gy fn.ntmps hn.2) rfl)
structure n9(C:Ctx)(hp:HP)(au:HP)(gv:Nat->Option Nat):Prop where
 g:∀β γ,gv β=some γ->∃hb,hp γ=some hb/\bm β=true/\(dJ β=true->au β=some ⟨hb.e,hb.ty,hb.xs,true⟩)/\(dJ β=false->au β=some hb/\hb.fz=false/\bm γ=true/\(aI β=false->aI γ=false))
 a:∀β,au β≠none->∃γ,gv β=some γ
 i:∀β bo γ,gv β=some γ->gv bo=some γ->β=bo
def gn(gv:Nat->Option Nat):Nat->Option Nat:=fun β=>if dJ β=true then none else gv β
theorem yg{gv:Nat->Option Nat}{β γ:Nat}(h:gn gv β=some γ):dJ β=false/\gv β=some γ:=by
 unfold gn at h;split at h
 ·cases h
 ·rename_i hr;exact⟨by simpa using hr,h⟩
theorem sK{gv:Nat->Option Nat}{β:Nat}(h:dJ β=false):gn gv β=gv β:=by unfold gn;rw[h];rfl
theorem n9.n{C:Ctx}{hp au:HP}{gv:Nat->Option Nat}(hh:n9 C hp au gv)(β γ:Nat)(h:gn gv β=some γ):∃hb,au β=some hb/\hp γ=some hb/\hb.fz=false/\bm β=true/\bm γ=true/\(aI β=false->aI γ=false):=by obtain⟨hr,h⟩:=yg h;obtain⟨hb,h1,h2,_,h4⟩:=hh.g β γ h;obtain⟨k1,k2,k3,k4⟩:=h4 hr;exact⟨hb,k1,h1,k2,h2,k3,k4⟩
theorem n9.s{C:Ctx}{hp au:HP}{gv:Nat->Option Nat}(hh:n9 C hp au gv)(β γ:Nat)(h:gv β=some γ):∃hb ao,hp γ=some hb/\au β=some ao/\ao.e=hb.e/\ao.ty=hb.ty/\ao.xs=hb.xs/\(ao.fz=false->hb=ao/\dJ β=false)/\(dJ β=true->ao.fz=true)/\bm β=true:=by
 obtain⟨hb,h1,h2,h3,h4⟩:=hh.g β γ h;cases hr:dJ β with
 |true=>exact⟨hb,_,h1,h3 hr,rfl,rfl,rfl,(fun h=>by cases h),fun _=>rfl,h2⟩
 |false=>obtain⟨k1,k2,_⟩:=h4 hr;exact⟨hb,hb,h1,k1,rfl,rfl,rfl,(fun _=>⟨rfl,rfl⟩),(fun h=>by cases h),h2⟩
def pe (C:Ctx) (ρ:Nat->Option Nat) (fr:Fr) (hp au:HP) (tmps:Array Value) (w:World) (gv:Nat->Option Nat) (hs:Qv C ρ fr hp tmps w) (hh:n9 C hp au gv) (n:Nat) (hn:n<=1000000):Ctx where
 P:=C.P
 N:=n
 w0:=w
 X0:=fun b=>aB C ρ hp b/\¬∃β γ,gn gv β=some γ/\ρ γ=some b
 y7:=fun b hb=>u3 hs b hb.1
 hN:=hn
 fx:=fun β=>if aI β=true then(gv β).bind ρ else none
 kP :=fun β b h=>by
  split at h
  ·cases hq:gv β with
   |none=>rw[hq]at h;cases h
   |some γ=>rw[hq]at h;obtain⟨hb,h2,_⟩:=hh.g β γ hq;have:=(hs.own γ hb h2).ca;rw[show ρ γ=some b from h]at this;exact⟨this.2.1,fun hr hx=>hx.2 ⟨β,γ,(sK hr).trans hq,h⟩⟩
  ·cases h
 Z0:=fun b=>∃β γ,gn gv β=some γ/\aI β=false/\ρ γ=some b
 y9 :=fun b ⟨β,γ,h1,h2,h3⟩=>by
  obtain⟨hb,_,k2,_⟩:=hh.n β γ h1;have:=(hs.own γ hb k2).ca;rw[h3]at this;refine⟨this.2.1,fun hx=>hx.2 ⟨β,γ,h1,h3⟩,fun bo hf=>?_⟩;split at hf
  ·rename_i hy;cases hq:gv bo with
   |none=>rw[hq]at hf;cases hf
   |some aS=>rw[hq]at hf;obtain⟨ao,rE,_⟩:=hh.g bo aS hq;have e:=hs.inj γ aS b (by simp[k2]) (by simp[rE]) h3 hf;subst e;have e2:=hh.i β bo γ (yg h1).2 hq;subst e2;rw[h2]at hy;cases hy
  ·cases hf
theorem Nt{tmps:Array Value}{w:World}{au:HP}{gv:Nat->Option Nat}{τ:Nat->Nat}{args:List PV}{aM:List PV}{G:Fr}{av:Array Value}(hs:Qv C ρ fr hp tmps w)(hh:n9 C hp au gv)
  (wy:∀β γ,gv β=some γ->τ γ=β) (dI:av.size=args.length) (cl:args.map (cc τ)=aM) (hav:∀(i:Nat)(x:PV),args[i]? =some x->Qj C ρ hp w x (av.getD i undef))
  (kS:∀x∈args,∀γ∈x.refs++x.aJ,∃β,gv β=some γ) (hG:∀s,1000000<=s->G s= .undef∨∃s',1000000<=s'/\G s=cc τ (fr s')/\∀γ∈(fr s').refs++(fr s').aJ,∃β,gv β=some γ) (cJ:aM.length<=1000000):
  Qv (pe C ρ fr hp au tmps w gv hs hh aM.length cJ) (fun β=>(gv β).bind ρ) (pd aM G) au av w:=by
 subst cl;have hX:∀b,aB (pe C ρ fr hp au tmps w gv hs hh (args.map (cc τ)).length cJ) (fun β=>(gv β).bind ρ) au b->aB C ρ hp b:=by
  rintro b (hx|⟨β,hb,h1,h2,h3⟩)
  ·exact hx.1
  ·cases hq:gv β with
   |none=>simp only[hq]at h3;cases h3
   |some γ=>simp only[hq,KbZ]at h3;obtain⟨ba,ao,k2,k1,_,_,_,k6,_⟩:=hh.s β γ hq;rw[h1]at k1;cases k1;exact .inr ⟨γ,ba,k2,by rw[(k6 h2).1];exact h2,h3⟩
 have hr:∀γ,(∃β,gv β=some γ)->pg τ ρ (fun β=>(gv β).bind ρ) hp au γ:=fun γ ⟨β,aj⟩=>by
  obtain⟨hb,cq,k2,k1,k3,k4,k5,_,_,k8⟩:=hh.s β γ aj;refine⟨?_,fun ao h'=>?_,fun _=>by rw[wy β γ aj];exact k8⟩
  ·show(gv (τ γ)).bind ρ=ρ γ;rw[wy β γ aj,aj];rfl
  ·rw[k2]at h';cases h';exact⟨cq,by rw[wy β γ aj];exact k1,k3,k4,k5⟩
 refine⟨by rw[dI];simp[pe],Ext.refl _ _,fun _ _ _ _ _ h=>h,fun β hb aj=>?_,fun β δ b h1 h2 h3 h4=>?_,fun i=>?_⟩
 ·obtain⟨γ,ah⟩:=hh.a β (by simp[aj]);obtain⟨ba,ao,k2,k1,k3,k4,k5,k6,k7,_⟩:=hh.s β γ ah;rw[aj]at k1;cases k1;obtain⟨q1,q2,q3,q4,q5⟩:=hs.own γ ba k2;refine⟨by rw[k3];exact q1,by rw[k3,k5];exact q2,?_,fun hy=>?_,k7⟩
  ·simp only[ah,KbZ];cases hr:ρ γ with
   |none=>rw[hr]at q3;rw[k5];exact q3
   | some b=>
    rw[hr]at q3;refine⟨?_,q3.2.1,q3.2.2.move rfl k3 k4 k5 fun q u hq=>Qo.sub hq hX⟩;unfold Ctx.cls;split
    ·rename_i hy;show(if aI β=true then(gv β).bind ρ else none)=some b;rw[if_pos hy,ah];exact hr
    ·rename_i hy;exact .inr ⟨β,γ,(sK (sC (by simpa using hy))).trans ah,by simpa using hy,hr⟩
  ·show(gv β).bind ρ=(if aI β=true then(gv β).bind ρ else none)
   rw[if_pos hy]
 ·obtain⟨tK,e1⟩:=hh.a β h1;obtain⟨M',e2⟩:=hh.a δ h2;simp only[e1,KbZ]at h3;simp only[e2,KbZ]at h4;obtain⟨ba,k1,_⟩:=hh.g β tK e1;obtain⟨cq,k2,_⟩:=hh.g δ M' e2;have:=hs.inj tK M' b (by simp[k1]) (by simp[k2]) h3 h4;subst this;exact hh.i β δ tK e1 e2
 ·unfold pd;split
  ·rw[Kap];cases hi:args[i]? with
   |none=>trivial
   |some x=>simp only[KbN,Kbo];exact(hav i x hi).eJ hX fun γ ah=>hr γ (kS x (Kah hi) γ ah)
  ·rename_i hi;have e1:av.getD i undef=undef:=by simp only[Array.getD];rw[dif_neg (by simp at cJ;omega)]
   rcases hG i (by omega)with e|⟨s',dt,e,hn⟩
   ·rw[e];trivial
   ·rw[e,e1];have a9:=hs.cd s';have e2:tmps.getD s' undef=undef:=by simp only[Array.getD];rw[dif_neg (by rw[hs.sz];have:=C.hN;omega)]
    rw[e2]at a9;exact a9.eJ hX fun γ ah=>hr γ (hn γ ah)
theorem Pv{tmps:Array Value}{au H bu:HP}{gv eo:Nat->Option Nat}{σ:Nat->Nat}{F dX:Fr}{r:PV}{v:Value}{d:Option Nat}{n:Nat}{hn:n<=1000000}{jE:Nat->Option Nat}(hs:Qv C ρ fr hp tmps w)(hh:n9 C hp au gv)
  (h2:Qv ((pe C ρ fr hp au tmps w gv hs hh n hn).gy 1 (by decide)) jE (n5 r F) H #[v] w') (hd:∀x,d=some x->x<C.N)
  (e1:∀γ β,eo γ=some β->H β≠none/\σ β=γ/\bm γ=true/\((aI β=true/\gn gv β=some γ)∨(aI β=false/\aI γ=false/\(hp γ=none∨∃bo,gn gv bo=some γ))))
  (e2:∀β γ,gn gv β=some γ->aI β=true->eo γ=some β)
  (q1:∀γ β,eo γ=some β->bu γ=H β) (q2:∀γ,eo γ=none->(∃β,gn gv β=some γ)->bu γ=none) (q3:∀γ,eo γ=none->(¬∃β,gn gv β=some γ)->bu γ=hp γ)
  (hS:∀s,dX s= .undef∨
   (d≠some s/\dX s=fr s/\(∀γ∈(fr s).refs++(fr s).aJ,(¬∃β,gn gv β=some γ)∨∃β hb ao,gn gv β=some γ/\aI β=true/\hp γ=some hb/\H β=some ao/\ao.e=hb.e/\hb.xs.length<=ao.xs.length)/\∀γ e ty xs,fr s= .aC γ e ty xs->¬∃β,gn gv β=some γ)∨
   (d=some s/\dX s=cc σ r/\∀β∈r.refs++r.aJ,eo (σ β)=some β)∨
   (∃s',1000000<=s'/\(∃γ e ty xs,F s'= .aC γ e ty xs)/\dX s=cc σ (F s')/\∀β∈(F s').refs++(F s').aJ,eo (σ β)=some β)):
  cT C dX bu (o8 tmps d v) w':=by
 obtain⟨Yg,qS⟩:∃f:Nat->Prop,f=fun b=>∃β γ,gn gv β=some γ/\ρ γ=some b:=⟨_,rfl⟩
 have yX:∀b,Yg b->aB C ρ hp b:=fun b hb=>by rw[qS]at hb;obtain⟨β,γ,h1,h3⟩:=hb;obtain⟨hb,_,k2,k3,_⟩:=hh.n β γ h1;exact .inr ⟨γ,hb,k2,k3,h3⟩
 have gu:Ext Yg w w':=h2.ext.mono fun b _ hb=>by
  rw[qS];rcases hb with⟨β,hr,hb⟩|⟨β,γ,h1,_,h3⟩
  ·have hb:(if aI β=true then(gv β).bind ρ else none)=some b:=hb;split at hb
   ·cases hq:gv β with
    |none=>rw[hq]at hb;cases hb
    |some γ=>rw[hq]at hb;exact⟨β,γ,(sK hr).trans hq,hb⟩
   ·cases hb
  ·exact⟨β,γ,h1,h3⟩
 have zZ:∀b,Yg b->∃β γ,gn gv β=some γ/\ρ γ=some b/\C.cls γ b/\hp γ≠none/\dJ γ=false:=fun b hb=>by
  rw[qS]at hb;obtain⟨β,γ,h1,h3⟩:=hb;obtain⟨hb,_,k2,k3,_⟩:=hh.n β γ h1;have:=(hs.own γ hb k2).ca;rw[h3]at this;refine⟨β,γ,h1,h3,this.1,by simp[k2],?_⟩;cases hR:dJ γ with
  |false=>rfl
  |true=>have:=(hs.own γ hb k2).ro hR;rw[k3]at this;cases this
 have wG:∀γ b,hp γ≠none->(¬∃β,gn gv β=some γ)->ρ γ=some b->¬Yg b:=fun γ b hk ov hr hy=>by obtain⟨β,aS,h1,h3,_,h5,_⟩:=zZ b hy;have:=hs.inj γ aS b hk h5 hr h3;subst this;exact ov ⟨β,h1⟩
 have tE:∀β hb,H β=some hb->n6 (pe C ρ fr hp au tmps w gv hs hh n hn) jE H w' β hb:=fun β hb h=>n6.gy.1 (h2.own β hb h);have yQ:∀β γ,aI β=true->gn gv β=some γ->H β≠none->jE β=ρ γ:=fun β γ hy hg hH=>by obtain⟨hb,hq⟩:=Kbe.1 hH;have:=(tE β hb hq).fix hy;rw[this];show(if aI β=true then(gv β).bind ρ else none)=ρ γ;rw[if_pos hy,(yg hg).2];rfl
 have Lg:∀β hb b,aI β=false->H β=some hb->jE β=some b->w.heap.size<=b∨Yg b:=fun β hb b hy hH hr=>by
  have:=(tE β hb hH).ca;rw[hr]at this;rcases Ctx.pj this.1 hy with h|⟨bo,aS,k1,_,k3⟩
  ·exact .inl h
  ·exact .inr (by rw[qS];exact⟨bo,aS,k1,k3⟩)
 have abl:∀β hb b,aI β=false->H β=some hb->jE β=some b->C.w0.heap.size<=b∨C.Z0 b:=fun β hb b hy hH hr=>by
  have:=(tE β hb hH).ca;rw[hr]at this;rcases Ctx.pj this.1 hy with h|⟨bo,aS,k1,k2,k3⟩
  ·exact .inl (KaZ hs.ext.size h)
  ·obtain⟨ao,_,l2,_,_,_,l6⟩:=hh.n bo aS k1;have:=(hs.own aS ao l2).ca;rw[k3]at this;exact Ctx.pj this.1 (l6 k2)
 obtain⟨ρ',aZ⟩:∃f:Nat->Option Nat,f=fun γ=>match eo γ with|some β=>jE β|none=>ρ γ:=⟨_,rfl⟩
 have rs:∀γ β,eo γ=some β->ρ' γ=jE β:=fun γ β h=>by rw[aZ];simp[h]
 have rn:∀γ,eo γ=none->ρ' γ=ρ γ:=fun γ h=>by rw[aZ];simp[h]
 have y8:∀b,aB C ρ' bu b->aB (pe C ρ fr hp au tmps w gv hs hh n hn) jE H b:=by
  rintro b (hx|⟨γ,hb,h1,h3,h4⟩)
  ·refine .inl ⟨.inl hx,fun hy=>?_⟩;obtain⟨_,γ,_,_,h5,_,h7⟩:=zZ b (by rw[qS];exact hy);exact Ctx.yN h5 h7 hx
  ·cases hq:eo γ with
   |some β=>rw[q1 γ β hq]at h1;rw[rs γ β hq]at h4;exact .inr ⟨β,hb,h1,h3,h4⟩
   | none=>
    rw[rn γ hq]at h4;by_cases hg:∃β,gn gv β=some γ
    ·rw[q2 γ hq hg]at h1;cases h1
    ·rw[q3 γ hq hg]at h1;exact .inl ⟨.inr ⟨γ,hb,h1,h3,h4⟩,fun hy=>wG γ b (by simp[h1]) hg h4 (by rw[qS];exact hy)⟩
 have qR:∀b,b<w.heap.size->aB C ρ' bu b->aB C ρ hp b:=fun b hb hx=>by
  rcases y8 b hx with hx|⟨β,Fl,h1,h3,h4⟩
  ·exact hx.1
  ·by_cases hy:aI β=true
   ·have:=(tE β Fl h1).fix hy;rw[h4]at this;have this:some b=(if aI β=true then(gv β).bind ρ else none):=this;rw[if_pos hy]at this;have hR:dJ β=false:=by
     cases hR:dJ β with
     |false=>rfl
     |true=>have:=(tE β Fl h1).ro hR;rw[h3]at this;cases this
    cases hq:gv β with
    |none=>rw[hq]at this;cases this
    |some γ=>rw[hq]at this;exact yX b (by rw[qS];exact⟨β,γ,(sK hR).trans hq,this.symm⟩)
   ·rcases Lg β Fl b (by simpa using hy) h1 h4 with h|h
    ·omega
    ·exact yX b h
 have aW:jg w w' (aB C ρ hp) (aB C ρ' bu):=⟨fun b hb jv=>gu.block b hb fun hy=>jv (yX b hy),fun b hb jv hx=>jv (qR b hb hx),gu.size⟩
 have Ld:∀β γ b,aI β=true->gn gv β=some γ->ρ γ=some b->∀e cap,cy w b e cap->cy w' b e cap:=fun β γ b hy hg hr e cap hc=>by refine h2.dK β b ?_ e cap hc;show(if aI β=true then(gv β).bind ρ else none)=some b;rw[if_pos hy,(yg hg).2];exact hr
 refine⟨ρ',?_,?_,fun β b hb e cap hc=>?_,fun γ hb ah=>?_,fun γ δ b g1 g2 g3 g4=>?_,fun s=>?_⟩
 ·cases d with
  |none=>exact hs.sz
  |some d=>simp only[o8];simpa using hs.sz
 ·refine hs.ext.trans' gu fun b hb hy=>?_;obtain⟨_,_,_,_,h5,_,h7⟩:=zZ b hy;exact(Ctx.yO h5 h7).resolve_left (by omega)
 ·have h1:=hs.dK β b hb e cap hc;by_cases hy:Yg b
  ·obtain⟨Gp,tK,k1,k3,k4,k5,_⟩:=zZ b hy;by_cases hY:aI Gp=true
   ·exact Ld Gp tK b hY k1 k3 e cap h1
   ·obtain⟨_,_,_,_,_,_,l6⟩:=hh.n Gp tK k1;exact absurd hb (Ctx.Gs (Ctx.pj k4 (l6 (by simpa using hY))))
  ·exact iv (gu.block b (iy h1) hy) h1
 ·cases hq:eo γ with
  | some β=>
   have hH:H β=some hb:=by rw[<-q1 γ β hq];exact ah
   obtain⟨k1,k2,k3,k4⟩:=e1 γ β hq;obtain⟨o1,o2,o3,o4,o5⟩:=tE β hb hH;refine⟨o1,o2,?_,fun hy=>?_,fun hR=>?_⟩
   ·rw[rs γ β hq];cases hr:jE β with
    |none=>rw[hr]at o3;exact o3
    | some b=>
     rw[hr]at o3;refine⟨?_,o3.2.1,o3.2.2.move rfl rfl rfl rfl fun q u hq=>Qo.sub hq y8⟩;rcases k4 with⟨k4,k5⟩|⟨k4,k5,_⟩
     ·have e:=yQ β γ k4 k5 k1;rw[hr]at e;obtain⟨ao,_,l2,_⟩:=hh.n β γ k5;have:=(hs.own γ ao l2).ca;rw[<-e]at this;exact this.1
     ·exact Ctx.Lh (abl β hb b k4 hH hr) k5
   ·rcases k4 with⟨k4,k5⟩|⟨_,k5,_⟩
    ·rw[rs γ β hq,yQ β γ k4 k5 k1];obtain⟨ao,_,l2,_⟩:=hh.n β γ k5;exact(hs.own γ ao l2).fix hy
    ·rw[k5]at hy;cases hy
   ·rcases k4 with⟨k4,k5⟩|⟨_,k5,_⟩
    ·obtain⟨ao,_,l2,l3,_⟩:=hh.n β γ k5;have:=(hs.own γ ao l2).ro hR;rw[l3]at this;cases this
    ·rw[sC k5]at hR;cases hR
  | none=>
   by_cases hg:∃β,gn gv β=some γ
   ·rw[q2 γ hq hg]at ah;cases ah
   ·rw[q3 γ hq hg]at ah;obtain⟨o1,o2,o3,o4,o5⟩:=hs.own γ hb ah;refine⟨o1,o2,?_,(fun hy=>by rw[rn γ hq];exact o4 hy),o5⟩;rw[rn γ hq];cases hr:ρ γ with
    |none=>rw[hr]at o3;exact o3
    |some b=>rw[hr]at o3;exact⟨o3.1,Ka8 o3.2.1 gu.size,o3.2.2.move (gu.block b o3.2.1 (wG γ b (by simp[ah]) hg hr)) rfl rfl rfl aW.rc⟩
 ·have Lj:∀γ δ β,eo γ=some β->eo δ=none->bu δ≠none->jE β=some b->ρ δ=some b->False:=fun γ δ β h1 h3 h5 h6 h7=>by
   have hg:¬∃β,gn gv β=some δ:=fun hg=>h5 (q2 δ h3 hg);rw[q3 δ h3 hg]at h5;obtain⟨k1,k2,k3,k4⟩:=e1 γ β h1;obtain⟨hb,hH⟩:=Kbe.1 k1;rcases k4 with⟨k4,k5⟩|⟨k4,k5,_⟩
   ·rw[yQ β γ k4 k5 k1]at h6;obtain⟨ao,_,l2,_⟩:=hh.n β γ k5;have:=hs.inj γ δ b (by simp[l2]) h5 h6 h7;subst this;exact hg ⟨β,k5⟩
   ·rcases Lg β hb b k4 hH h6 with h|h
    ·obtain⟨ao,hq⟩:=Kbe.1 h5;have:=(hs.own δ ao hq).ca;rw[h7]at this;omega
    ·exact wG δ b h5 hg h7 h
  cases h1:eo γ with
  | some β=>
   rw[rs γ β h1]at g3;cases h3:eo δ with
   |some bo=>rw[rs δ bo h3]at g4;have:=h2.inj β bo b (e1 γ β h1).1 (e1 δ bo h3).1 g3 g4;rw[<-(e1 γ β h1).2.1,<-(e1 δ bo h3).2.1,this]
   |none=>rw[rn δ h3]at g4;exact(Lj γ δ β h1 h3 g2 g3 g4).elim
  | none=>
   rw[rn γ h1]at g3;cases h3:eo δ with
   |some bo=>rw[rs δ bo h3]at g4;exact(Lj δ γ bo h3 h1 g1 g4 g3).elim
   | none=>
    rw[rn δ h3]at g4;have k:∀γ,eo γ=none->bu γ≠none->hp γ≠none:=fun γ h hq=>by
     by_cases hg:∃β,gn gv β=some γ
     ·exact absurd (q2 γ h hg) hq
     ·rwa[q3 γ h hg]at hq
    exact hs.inj γ δ b (k γ h1 g1) (k δ h3 g2) g3 g4
 ·have iM:∀β,eo (σ β)=some β->pg σ jE ρ' H bu β:=fun β h=>⟨rs _ _ h,(fun hb hq=>⟨hb,by rw[q1 _ _ h];exact hq,rfl,rfl,rfl⟩),fun _=>(e1 _ _ h).2.2.1⟩
  rcases hS s with e|⟨k1,k2,k3,k4⟩|⟨k1,k2,k3⟩|⟨s',k1,k2,k3,k4⟩
  ·rw[e];trivial
  ·have hv:(o8 tmps d v).getD s undef=tmps.getD s undef:=by
    cases d with
    |none=>rfl
    |some x=>simp only[o8,KaD];rw[Kb7 (fun e=>k1 (by rw[e]))]
   rw[hv,k2];have a9:=hs.cd s;have ra:=a9.known;have Lm:∀γ,hp γ≠none->(¬∃β,gn gv β=some γ)->ll ρ ρ' hp bu w w' γ:=fun γ hk hg=>by
    have pH:eo γ=none:=by
     cases hq:eo γ with
     |none=>rfl
     |some β=>
      rcases(e1 γ β hq).2.2.2 with⟨_,h⟩|⟨_,_,h|h⟩
      ·exact absurd ⟨β,h⟩ hg
      ·exact absurd h hk
      ·exact absurd h hg
    refine⟨rn γ pH,fun hb hq=>⟨hb,by rw[q3 γ pH hg];exact hq,rfl,Kag _,fun b cap hr hc=>iv (gu.block b (iy hc) (wG γ b hk hg hr)) hc,fun he=>⟨he,rfl,fun b hr=>gu.block b ?_ (wG γ b hk hg hr)⟩⟩⟩;have:=(hs.own γ hb hq).ca;rw[hr]at this;exact this.2.1
   have par:∀γ,hp γ≠none->((¬∃β,gn gv β=some γ)∨∃β hb ao,gn gv β=some γ/\aI β=true/\hp γ=some hb/\H β=some ao/\ao.e=hb.e/\hb.xs.length<=ao.xs.length)->qD ρ ρ' hp bu w w' γ:=fun γ hk h=>by
    rcases h with h|⟨β,hb,ao,l1,l2,l3,l4,l5,l6⟩
    ·exact(Lm γ hk h).tJ
    ·have pH:=e2 β γ l1 l2;refine⟨by rw[rs γ β pH];exact yQ β γ l2 l1 (by simp[l4]),fun jq hq=>?_⟩;rw[l3]at hq;cases hq;exact⟨ao,by rw[q1 γ β pH];exact l4,l5,l6,fun b cap hr hc=>Ld β γ b l2 l1 hr _ cap hc⟩
   refine a9.move aW (fun γ ah=>?_) (fun γ ah=>par γ (ra.2 γ ah) (k3 γ (Kbh _ ah))) (fun γ e ty xs e0=>Lm γ (ra.2 γ (by rw[e0];simp[PV.aJ])) (k4 γ e ty xs e0));have:=par γ (ra.1 γ ah) (k3 γ (KbS _ ah));exact⟨this.r,this.h⟩
  ·subst k1;have hv:(o8 tmps (some s) v).getD s undef=v:=by have:=hd s rfl;simp[o8,Array.getD,hs.sz,this]
   rw[hv,k2];have:=h2.cd 0;exact Qj.eJ (C':=C) (ρ':=ρ') (hp':=bu) this y8 fun β aj=>iM β (k3 β aj)
  ·obtain⟨γ,e,ty,xs,hF⟩:=k2;rw[k3];have:=h2.cd s';have e0:n5 r F s'=F s':=by unfold n5;rw[if_neg (by omega),if_neg (by omega)]
   rw[e0]at this;have h3:=Qj.eJ (C':=C) (ρ':=ρ') (hp':=bu) this y8 fun β aj=>iM β (k4 β aj);rw[hF]at h3⊢;exact h3
theorem Pw{tmps:Array Value}{au H:HP}{gv:Nat->Option Nat}{F:Fr}{r:PV}{v:Value}{n:Nat}{hn:n<=1000000}{jE:Nat->Option Nat}(hs:Qv C ρ fr hp tmps w)(hh:n9 C hp au gv)
  (h2:Qv ((pe C ρ fr hp au tmps w gv hs hh n hn).gy 1 (by decide)) jE (n5 r F) H #[v] w') (h0:∀β,gn gv β=none):Ext bW w w':=h2.ext.mono fun b _ hb=>by
 rcases hb with⟨β,hr,hb⟩|⟨β,γ,h1,_,h3⟩
 ·have hb:(if aI β=true then(gv β).bind ρ else none)=some b:=hb;have e:=(sK (gv:=gv) hr).symm;rw[e,h0 β]at hb;split at hb<;>cases hb
 ·rw[h0 β]at h1;cases h1
end Go.FW
namespace Go.FW
open Go
variable {C : Ctx} {R : Qg} {fr : Fr} {hp : HP} {K : Qg}
theorem okA{sk:List It}(h:dQ R sk:=by repeat (first|exact Qx|exact Qq|exact Qr|exact Qt|exact Qu|apply Qp|apply Qw|apply Q2|apply Q7|apply Q8|apply Qn)):dQ R sk:=h
theorem okB{sk:List It}(h:dQ R sk:=by repeat (first|exact Qx|exact Qq|exact Qr|exact Qt|exact Qu|apply Qp|apply Qw|apply Q2|apply Q7|apply Q8|apply Qn|apply Q6)):dQ R sk:=h
theorem fnV {P : Program} {f : FuncId} {fn : Func} {sf : az} {args : List PV} {Rr : PV -> Prop} {n : Nat} {rs : List RV} {b : SC} (hm : P.follows .mixedOrders = true) (hf : P.funcs[f]? = some fn) (hc : Qe P fn = some sf) (hv : ∀ C : Ctx, C.P = P -> vc C (eE rs Rr) [.c b] (fe args) au) (he : sf = ⟨n, rs, b⟩ := by conv => lhs; whnf) (kT : (fn.name != "runtime.NumGoroutine") = true := by rfl) (hn : args.length <= n /\ n <= 1000000 := by simp) : Qd P f args Rr := by subst he;exact Qf hm hf kT hc hn hv
theorem aes{P:Program}(hP:C.P=P){g:FuncId}{first cap args:List PV}{pr:Bool}{d:Option Nat}{r:PV}(h:Qd P g ((first++args++cap).map (Qy hp)) (· =r))(hK:K (eO fr d r) hp)(cQ:((first++args++cap).map (Qy hp)).all PV.aA=true:=by exact rfl)(hr:(first++args++cap).flatMap PV.refs=[]:=by exact rfl):eD C pr (.fn g first cap) args d fr hp K:=Qa hP h rfl cQ hr hK
theorem Oz{p:Prop}(h:p:=by omega):p:=h
theorem Nz{a b:Nat}(h:(Nat.ble a b&&Nat.ble b 1000000)=true:=by rfl):a<=b/\b<=1000000:=by simp only[Ka1,Nat.ble_eq]at h;exact h
theorem Wz0{p:Prop}{P:Program}(hP:C.P=P){g:FuncId}{first cap args aM:List PV}{pr:Bool}{d:Option Nat}{r:PV}(h:Qd P g aM (· =r))(hK:K (eO fr d r) hp)(e:p=eD C pr (.fn g first cap) args d fr hp K:=by conv=>lhs;simp+decide (disch:=try exact Dz0) only[go_sem])(ha:(first++args++cap).map (Qy hp)=aM:=by exact rfl)(cQ:aM.all PV.aA=true:=by exact rfl)(hr:(first++args++cap).flatMap PV.refs=[]:=by exact rfl):p:=(e).mpr (Qa hP h ha cQ hr hK)
theorem Wz1{p A0:Prop}(x0:A0){P:Program}(hP:C.P=P){g:FuncId}{first cap args aM:List PV}{pr:Bool}{d:Option Nat}{r:PV}(h:Qd P g aM (· =r))(hK:K (eO fr d r) hp)(e:A0->p=eD C pr (.fn g first cap) args d fr hp K:=by intro x0;conv=>lhs;simp+decide (disch:=try exact Dz1 @x0) only[go_sem,x0])(ha:(first++args++cap).map (Qy hp)=aM:=by exact rfl)(cQ:aM.all PV.aA=true:=by exact rfl)(hr:(first++args++cap).flatMap PV.refs=[]:=by exact rfl):p:=(e x0).mpr (Qa hP h ha cQ hr hK)
theorem Wz2{p A0 A1:Prop}(x0:A0)(x1:A1){P:Program}(hP:C.P=P){g:FuncId}{first cap args aM:List PV}{pr:Bool}{d:Option Nat}{r:PV}(h:Qd P g aM (· =r))(hK:K (eO fr d r) hp)(e:A0->A1->p=eD C pr (.fn g first cap) args d fr hp K:=by intro x0 x1;conv=>lhs;simp+decide (disch:=try exact Dz2 @x0 @x1) only[go_sem,x0,x1])(ha:(first++args++cap).map (Qy hp)=aM:=by exact rfl)(cQ:aM.all PV.aA=true:=by exact rfl)(hr:(first++args++cap).flatMap PV.refs=[]:=by exact rfl):p:=(e x0 x1).mpr (Qa hP h ha cQ hr hK)
theorem Wz3{p A0 A1 A2:Prop}(x0:A0)(x1:A1)(x2:A2){P:Program}(hP:C.P=P){g:FuncId}{first cap args aM:List PV}{pr:Bool}{d:Option Nat}{r:PV}(h:Qd P g aM (· =r))(hK:K (eO fr d r) hp)(e:A0->A1->A2->p=eD C pr (.fn g first cap) args d fr hp K:=by intro x0 x1 x2;conv=>lhs;simp+decide (disch:=try exact Dz3 @x0 @x1 @x2) only[go_sem,x0,x1,x2])(ha:(first++args++cap).map (Qy hp)=aM:=by exact rfl)(cQ:aM.all PV.aA=true:=by exact rfl)(hr:(first++args++cap).flatMap PV.refs=[]:=by exact rfl):p:=(e x0 x1 x2).mpr (Qa hP h ha cQ hr hK)
theorem Wz4{p A0 A1 A2 A3:Prop}(x0:A0)(x1:A1)(x2:A2)(x3:A3){P:Program}(hP:C.P=P){g:FuncId}{first cap args aM:List PV}{pr:Bool}{d:Option Nat}{r:PV}(h:Qd P g aM (· =r))(hK:K (eO fr d r) hp)(e:A0->A1->A2->A3->p=eD C pr (.fn g first cap) args d fr hp K:=by intro x0 x1 x2 x3;conv=>lhs;simp+decide (disch:=try exact Dz4 @x0 @x1 @x2 @x3) only[go_sem,x0,x1,x2,x3])(ha:(first++args++cap).map (Qy hp)=aM:=by exact rfl)(cQ:aM.all PV.aA=true:=by exact rfl)(hr:(first++args++cap).flatMap PV.refs=[]:=by exact rfl):p:=(e x0 x1 x2 x3).mpr (Qa hP h ha cQ hr hK)
theorem Wz5{p A0 A1 A2 A3 A4:Prop}(x0:A0)(x1:A1)(x2:A2)(x3:A3)(x4:A4){P:Program}(hP:C.P=P){g:FuncId}{first cap args aM:List PV}{pr:Bool}{d:Option Nat}{r:PV}(h:Qd P g aM (· =r))(hK:K (eO fr d r) hp)(e:A0->A1->A2->A3->A4->p=eD C pr (.fn g first cap) args d fr hp K:=by intro x0 x1 x2 x3 x4;conv=>lhs;simp+decide (disch:=try exact Dz5 @x0 @x1 @x2 @x3 @x4) only[go_sem,x0,x1,x2,x3,x4])(ha:(first++args++cap).map (Qy hp)=aM:=by exact rfl)(cQ:aM.all PV.aA=true:=by exact rfl)(hr:(first++args++cap).flatMap PV.refs=[]:=by exact rfl):p:=(e x0 x1 x2 x3 x4).mpr (Qa hP h ha cQ hr hK)
end Go.FW
