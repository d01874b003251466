/- Part 3 of the proof of SquaresProofs: FwNF, FwSu. Own lemmas; no conditions. -/
import Derived.Test.YtkoclfmjlolkhaaGreatSquaresProofsPart2
set_option maxHeartbeats 1000000
set_option linter.unusedSimpArgs false
set_option linter.unusedVariables false
set_option linter.unnecessarySimpa false
set_option maxRecDepth 100000
namespace Go.FW
open Go
variable {C : Ctx} {ρ : Nat -> Option Nat} {fr aC : Fr} {hp hp' : HP} {w w' : World} {K R : Qh}
def sn(args:List PV)(G:Fr):Fr:=fun s=>if s<1000000 then(args[s]?).getD .undef else G s
def jV(r:PV)(F:Fr):Fr:=fun s=>if s=0 then r else if s<1000000 then .undef else F s
def Ctx.kL(C:Ctx)(n:Nat)(hn:n<=1000000):Ctx:={ C with N:=n,hN:=hn }
theorem tQ.kL{C:Ctx}{n:Nat}{hn:n<=1000000}{β:Nat}{hb:HB}:tQ (C.kL n hn) ρ hp w β hb↔tQ C ρ hp w β hb:=⟨fun h=>⟨h.lg,h.len,h.cL,h.fix,h.ro⟩,fun h=>⟨h.lg,h.len,h.cL,h.fix,h.ro⟩⟩
def jC(P:Program)(f:FuncId)(args:List PV)(G:Fr)(aA:HP)(aT:PV->Fr->HP->Prop):Prop:=
 qO P f/\∀(C:Ctx)(ρ:Nat->Option Nat)(bu:Array Value)(w:World),C.P=P->C.w0=w->C.N=args.length->Qr C ρ (sn args G) aA bu w->
  Calls P f bu w fun e w'=>∃v ρ' r F H,e= .returned v/\Qr (C.kL 1 (by decide)) ρ' (jV r F) H #[v] w'/\aT r F H
def qS(rs:List RV)(aT:PV->Fr->HP->Prop):Qh:=fun fr hp=>∃aC hp',Wk fr hp aC hp'/\
 (ff rs (fun r=>aT r aC (bV hp' (rs.flatMap (lr aC)))) aC hp'∨∃s,rs=[.t s]/\aT (aC s) aC hp')
theorem tq{rs:List RV}{aT:PV->Fr->HP->Prop}(h:ff rs (fun r=>aT r fr (bV hp (rs.flatMap (lr fr)))) fr hp):qS rs aT fr hp:=⟨fr,hp,Wk.refl _ _,.inl h⟩
theorem afm{rs:List RV}{aT:PV->Fr->HP->Prop}{bJ:Fr}{aA:HP}(hw:Wk fr hp bJ aA)(h:qS rs aT bJ aA):qS rs aT fr hp:=by
 obtain⟨f,h',h1,h2⟩:=h
 exact⟨f,h',hw.trans h1,h2⟩
theorem Ng{s:Nat}{aT:PV->Fr->HP->Prop}(h:aT (fr s) fr hp):qS [.t s] aT fr hp:=⟨fr,hp,Wk.refl _ _,.inr ⟨s,rfl,h⟩⟩
theorem afn{rs:List RV}{aT:PV->Fr->HP->Prop}:KM (qS rs aT) (qS rs aT):=by
 rintro f f' hp hf ⟨aC,hp',h1,h2⟩
 exact⟨aC,hp',hf.wk.trans h1,h2⟩
theorem Mt{rs:List RV}{aT:PV->Fr->HP->Prop}:eI (qS rs aT) []:=⟨afn,.nil⟩
theorem tr {P : Program} {f : FuncId} {fn : Func} {sf : ay} {args : List PV} {G : Fr} {aA : HP} {aT : PV -> Fr -> HP -> Prop} (hm : P.follows .mixedOrders = true) (hf : P.funcs[f]? = some fn) (pn : (fn.name != "runtime.NumGoroutine") = true) (hc : Qe P fn = some sf.strip) (hn : args.length <= sf.n /\ sf.n <= 1000000)
  (hv:∀C:Ctx,C.P=P->vc C (qS sf.rs aT) [.c sf.body] (sn args G) aA):jC P f args G aA aT:=by
 simp only[Qe,Kab,Kaa]at hc
 obtain⟨c,hb,sb,jo,rs,dD,CQ⟩:=hc
 obtain⟨n,LI,body⟩:=sf
 simp only[ay.strip,ay.mk.injEq]at CQ
 obtain⟨rfl,rfl,rfl⟩:=CQ
 refine⟨by simp[qO,hf,hb];simpa using pn,fun C ρ bu w hP hw hN hs=> ?_⟩
 subst hP
 refine calls_of_wp hf hb ?_
 have lv:bu.size=args.length:=by rw[hs.sz,hN]
 have sU:(bu++Array.replicate (fn.ntmps-bu.size) undef).size=fn.ntmps:=by simp at hn ⊢;omega
 have nk:Qr (C.kL fn.ntmps hn.2) ρ (sn args G) aA (bu++Array.replicate (fn.ntmps-bu.size) undef) w:=by
  refine⟨sU,hs.ext,hs.fp,fun β hb h=>tQ.kL.2 (hs.own β hb h),hs.inj,fun i=> ?_⟩
  have bb:=hs.cS i
  by_cases hi:i<args.length
  ·have e:(bu++Array.replicate (fn.ntmps-bu.size) undef).getD i undef=bu.getD i undef:=by
    rw[kQ,if_pos (by omega)]
   rw[e];exact bb
  ·unfold sn at bb⊢
   split
   ·rw[KcN (by omega)];trivial
   ·rename_i h2
    rw[if_neg h2]at bb
    have e1:bu.getD i undef=undef:=by simp[Array.getD,lv,hi]
    have e2:(bu++Array.replicate (fn.ntmps-bu.size) undef).getD i undef=undef:=by
     simp only[Array.getD];rw[dif_neg (by rw[sU];simp at hn;omega)]
    rw[e2];rw[e1]at bb;exact bb
 have fin:∀(fr:Fr) (hp:HP) (a:Act) (w':World),a.defers=[]->eu (C.kL fn.ntmps hn.2) fr hp a.tmps w'->qS rs aT fr hp->
   a.defers=[]/\∃v,(results fn a.tmps).run C.P w'= .ok v w'/\∃v' ρ' r F H,Ending.returned v= .returned v'/\Qr (C.kL 1 (by decide)) ρ' (jV r F) H #[v'] w'/\aT r F H:=by
  rintro fr hp a w' hd gz ⟨vP,ka,Lo,hr⟩
  obtain⟨Dd,eT⟩:=Lo _ _ _ gz
  have ghost:∀ {cc:HP} {r:PV} {v:Value},Qr (C.kL fn.ntmps hn.2) Dd vP cc a.tmps w'->Qm C Dd cc w' r v->Qr (C.kL 1 (by decide)) Dd (jV r vP) cc #[v] w':=by
   intro cc r v cR ym
   refine⟨rfl,cR.ext,cR.fp,fun β hb h=>tQ.kL.2 (tQ.kL.1 (cR.own β hb h)),cR.inj,fun i=> ?_⟩
   unfold jV
   split
   ·rename_i hi;subst hi;exact ym
   ·split
    ·trivial
    ·rename_i h0 h1
     have bb:=cR.cS i
     have e1:a.tmps.getD i undef=undef:=by
      have hz:a.tmps.size=fn.ntmps:=cR.sz
      have oc:fn.ntmps<=1000000:=hn.2
      simp only[Array.getD];rw[dif_neg (by omega)]
     have e2:(#[v]:Array Value).getD i undef=undef:=by
      simp only[Array.getD];rw[dif_neg (by simp;omega)]
     rw[e2];rw[e1]at bb;exact bb
  rcases hr with hr|⟨s,aqI,fT⟩
  ·obtain⟨v,r,h1,h2,_,h3⟩:=Iq (C:=C.kL fn.ntmps hn.2) rfl dD eT hr
   refine⟨hd,v,h1,v,Dd,r,vP,_,rfl,ghost (eT.freeze _) (Qm.G4 h2),h3⟩
  ·subst aqI
   obtain⟨x,hx⟩:∃x,fn.results.toList=[x]:=by
    have:=oE dD
    exact KcE.1 (by rw[<-this.1];rfl)
   have ir:kO C.P x=some (.t s):=by
    rw[hx]at dD
    simp only[KcD,List.mapM_nil,Kch,KcJ,Kab,KaC]at dD
    obtain⟨y,h1,_,_,h2⟩:=dD
    simp only[Kc1]at h2
    rw[<-h2.1];exact h1
   have CU:x= .tmp s:=by
    cases x with
    |tmp t=>simpa[kO]using ir
    |cell y t=>simp[kO,Kab]at ir
   subst CU
   have gy:(results fn a.tmps).run C.P w'= .ok (a.tmps.getD s undef) w':=by
    have e:results fn a.tmps=(do let vs<-fn.results.mapM (qP a.tmps);pure (if h:vs.size=1 then vs[0]else .tuple vs)):=rfl
    rw[e,KbW,hx]
    simp[Kaq,qP]
   exact⟨hd,_,gy,_,Dd,_,vP,ka,rfl,ghost eT (eT.cS s),fT⟩
 exact Ia (C:=C.kL fn.ntmps hn.2) (R:=qS rs aT) hm c body [] _ (sn args G) aA _ w jo ⟨fun fr hp a w' hd hs hv=>(by rw[vd]at hv;exact fin fr hp a w' hd hs hv),fun id dZ he=>(by simp[FW.ch]at he),fin⟩ rfl ⟨ρ,nk⟩ (hv (C.kL fn.ntmps hn.2) rfl)
structure tP(C:Ctx)(hp:HP)(aA:HP)(gv:Nat->Option Nat):Prop where
 g:∀β γ,gv β=some γ->∃hb,hp γ=some hb/\bE β=true/\(dK β=true->aA β=some ⟨hb.e,hb.ty,hb.xs,true⟩)/\(dK β=false->aA β=some hb/\hb.fz=false/\bE γ=true/\(aP β=false->aP γ=false))
 a:∀β,aA β≠none->∃γ,gv β=some γ
 i:∀β bn γ,gv β=some γ->gv bn=some γ->β=bn
def gn(gv:Nat->Option Nat):Nat->Option Nat:=fun β=>if dK β=true then none else gv β
theorem zo{gv:Nat->Option Nat}{β γ:Nat}(h:gn gv β=some γ):dK β=false/\gv β=some γ:=by
 unfold gn at h
 split at h
 ·cases h
 ·rename_i hr;exact⟨by simpa using hr,h⟩
theorem vk{gv:Nat->Option Nat}{β:Nat}(h:dK β=false):gn gv β=gv β:=by unfold gn;rw[h];rfl
theorem tP.n{C:Ctx}{hp aA:HP}{gv:Nat->Option Nat}(hh:tP C hp aA gv)(β γ:Nat)(h:gn gv β=some γ):∃hb,aA β=some hb/\hp γ=some hb/\hb.fz=false/\bE β=true/\bE γ=true/\(aP β=false->aP γ=false):=by
 obtain⟨hr,h⟩:=zo h
 obtain⟨hb,h1,h2,_,h4⟩:=hh.g β γ h
 obtain⟨k1,k2,k3,k4⟩:=h4 hr
 exact⟨hb,k1,h1,k2,h2,k3,k4⟩
theorem tP.s{C:Ctx}{hp aA:HP}{gv:Nat->Option Nat}(hh:tP C hp aA gv)(β γ:Nat)(h:gv β=some γ):∃hb aw,hp γ=some hb/\aA β=some aw/\aw.e=hb.e/\aw.ty=hb.ty/\aw.xs=hb.xs/\(aw.fz=false->hb=aw/\dK β=false)/\(dK β=true->aw.fz=true)/\bE β=true:=by
 obtain⟨hb,h1,h2,h3,h4⟩:=hh.g β γ h
 cases hr:dK β with
 |true=>exact⟨hb,_,h1,h3 hr,rfl,rfl,rfl,(fun h=>by cases h),fun _=>rfl,h2⟩
 |false=>
  obtain⟨k1,k2,_⟩:=h4 hr
  exact⟨hb,hb,h1,k1,rfl,rfl,rfl,(fun _=>⟨rfl,rfl⟩),(fun h=>by cases h),h2⟩
def vu (C:Ctx) (ρ:Nat->Option Nat) (fr:Fr) (hp aA:HP) (tmps:Array Value) (w:World) (gv:Nat->Option Nat) (hs:Qr C ρ fr hp tmps w) (hh:tP C hp aA gv) (n:Nat) (hn:n<=1000000):Ctx where
 P:=C.P
 N:=n
 w0:=w
 X0:=fun b=>aK C ρ hp b/\¬∃β γ,gn gv β=some γ/\ρ γ=some b
 Cp:=fun b hb=>BL hs b hb.1
 hN:=hn
 fx:=fun β=>if aP β=true then(gv β).bind ρ else none
 pj :=fun β b h=>by
  split at h
  ·cases hq:gv β with
   |none=>rw[hq]at h;cases h
   |some γ=>
    rw[hq]at h
    obtain⟨hb,h2,_⟩:=hh.g β γ hq
    have:=(hs.own γ hb h2).cL
    rw[show ρ γ=some b from h]at this
    exact⟨this.2.1,fun hr hx=>hx.2 ⟨β,γ,(vk hr).trans hq,h⟩⟩
  ·cases h
 Z0:=fun b=>∃β γ,gn gv β=some γ/\aP β=false/\ρ γ=some b
 Gc :=fun b ⟨β,γ,h1,h2,h3⟩=>by
  obtain⟨hb,_,k2,_⟩:=hh.n β γ h1
  have:=(hs.own γ hb k2).cL
  rw[h3]at this
  refine⟨this.2.1,fun hx=>hx.2 ⟨β,γ,h1,h3⟩,fun bn hf=> ?_⟩
  split at hf
  ·rename_i hy
   cases hq:gv bn with
   |none=>rw[hq]at hf;cases hf
   |some bo=>
    rw[hq]at hf
    obtain⟨aw,k2',_⟩:=hh.g bn bo hq
    have e:=hs.inj γ bo b (by simp[k2]) (by simp[k2']) h3 hf
    subst e
    have e2:=hh.i β bn γ (zo h1).2 hq
    subst e2
    rw[h2]at hy;cases hy
  ·cases hf
theorem ZW{tmps:Array Value}{w:World}{aA:HP}{gv:Nat->Option Nat}{τ:Nat->Nat}{args:List PV}{aZ:List PV}{G:Fr}{av:Array Value}(hs:Qr C ρ fr hp tmps w)(hh:tP C hp aA gv)
  (sX:∀β γ,gv β=some γ->τ γ=β) (dV:av.size=args.length) (cl:args.map (b6 τ)=aZ) (Gf:∀(i:Nat)(x:PV),args[i]? =some x->Qm C ρ hp w x (av.getD i undef))
  (iF:∀x∈args,∀γ∈x.refs++x.aQ,∃β,gv β=some γ) (hG:∀s,1000000<=s->G s= .undef∨∃s',1000000<=s'/\G s=b6 τ (fr s')/\∀γ∈(fr s').refs++(fr s').aQ,∃β,gv β=some γ) (bx:aZ.length<=1000000):
  Qr (vu C ρ fr hp aA tmps w gv hs hh aZ.length bx) (fun β=>(gv β).bind ρ) (sn aZ G) aA av w:=by
 subst cl
 have hX:∀b,aK (vu C ρ fr hp aA tmps w gv hs hh (args.map (b6 τ)).length bx) (fun β=>(gv β).bind ρ) aA b->aK C ρ hp b:=by
  rintro b (hx|⟨β,hb,h1,h2,h3⟩)
  ·exact hx.1
  ·cases hq:gv β with
   |none=>simp only[hq]at h3;cases h3
   |some γ=>
    simp only[hq,Kcl]at h3
    obtain⟨hb1,aw,k2,k1,_,_,_,k6,_⟩:=hh.s β γ hq
    rw[h1]at k1;cases k1
    exact .inr ⟨γ,hb1,k2,by rw[(k6 h2).1];exact h2,h3⟩
 have hr:∀γ,(∃β,gv β=some γ)->vF τ ρ (fun β=>(gv β).bind ρ) hp aA γ:=fun γ ⟨β,af⟩=>by
  obtain⟨hb,hb2,k2,k1,k3,k4,k5,_,_,k8⟩:=hh.s β γ af
  refine⟨?_,fun aw h'=> ?_,fun _=>by rw[sX β γ af];exact k8⟩
  ·show(gv (τ γ)).bind ρ=ρ γ
   rw[sX β γ af,af];rfl
  ·rw[k2]at h';cases h'
   exact⟨hb2,by rw[sX β γ af];exact k1,k3,k4,k5⟩
 refine⟨by rw[dV];simp[vu],Ext.refl _ _,fun _ _ _ _ _ h=>h,fun β hb af=> ?_,fun β δ b h1 h2 h3 h4=> ?_,fun i=> ?_⟩
 ·obtain⟨γ,aj⟩:=hh.a β (by simp[af])
  obtain⟨hb1,aw,k2,k1,k3,k4,k5,k6,k7,_⟩:=hh.s β γ aj
  rw[af]at k1;cases k1
  obtain⟨q1,q2,q3,q4,q5⟩:=hs.own γ hb1 k2
  refine⟨by rw[k3];exact q1,by rw[k3,k5];exact q2,?_,fun hy=> ?_,k7⟩
  ·simp only[aj,Kcl]
   cases hr:ρ γ with
   |none=>rw[hr]at q3;rw[k5];exact q3
   | some b=>
    rw[hr]at q3
    refine⟨?_,q3.2.1,q3.2.2.move rfl k3 k4 k5 fun q u hq=>Qp.sub hq hX⟩
    unfold Ctx.cls
    split
    ·rename_i hy
     show(if aP β=true then(gv β).bind ρ else none)=some b
     rw[if_pos hy,aj];exact hr
    ·rename_i hy
     exact .inr ⟨β,γ,(vk (zt (by simpa using hy))).trans aj,by simpa using hy,hr⟩
  ·show(gv β).bind ρ=(if aP β=true then(gv β).bind ρ else none)
   rw[if_pos hy]
 ·obtain⟨γ1,e1⟩:=hh.a β h1
  obtain⟨γ2,e2⟩:=hh.a δ h2
  simp only[e1,Kcl]at h3
  simp only[e2,Kcl]at h4
  obtain⟨hb1,k1,_⟩:=hh.g β γ1 e1
  obtain⟨hb2,k2,_⟩:=hh.g δ γ2 e2
  have:=hs.inj γ1 γ2 b (by simp[k1]) (by simp[k2]) h3 h4
  subst this
  exact hh.i β δ γ1 e1 e2
 ·unfold sn
  split
  ·rw[Kav]
   cases hi:args[i]? with
   |none=>trivial
   |some x=>
    simp only[Kcd,Kbe]
    exact(Gf i x hi).iI hX fun γ aj=>hr γ (iF x (Kaj hi) γ aj)
  ·rename_i hi
   have e1:av.getD i undef=undef:=by
    simp only[Array.getD];rw[dif_neg (by simp at bx;omega)]
   rcases hG i (by omega)with e|⟨s',eC,e,hn⟩
   ·rw[e];trivial
   ·rw[e,e1]
    have bb:=hs.cS s'
    have e2:tmps.getD s' undef=undef:=by
     simp only[Array.getD];rw[dif_neg (by rw[hs.sz];have:=C.hN;omega)]
    rw[e2]at bb
    exact bb.iI hX fun γ aj=>hr γ (hn γ aj)
theorem abk{tmps:Array Value}{aA H cc:HP}{gv eo:Nat->Option Nat}{σ:Nat->Nat}{F fC:Fr}{r:PV}{v:Value}{d:Option Nat}{n:Nat}{hn:n<=1000000}{lI:Nat->Option Nat}(hs:Qr C ρ fr hp tmps w)(hh:tP C hp aA gv)
  (h2:Qr ((vu C ρ fr hp aA tmps w gv hs hh n hn).kL 1 (by decide)) lI (jV r F) H #[v] w') (hd:∀x,d=some x->x<C.N)
  (e1:∀γ β,eo γ=some β->H β≠none/\σ β=γ/\bE γ=true/\((aP β=true/\gn gv β=some γ)∨(aP β=false/\aP γ=false/\(hp γ=none∨∃bn,gn gv bn=some γ))))
  (e2:∀β γ,gn gv β=some γ->aP β=true->eo γ=some β)
  (q1:∀γ β,eo γ=some β->cc γ=H β) (q2:∀γ,eo γ=none->(∃β,gn gv β=some γ)->cc γ=none) (q3:∀γ,eo γ=none->(¬∃β,gn gv β=some γ)->cc γ=hp γ)
  (hS:∀s,fC s= .undef∨
   (d≠some s/\fC s=fr s/\(∀γ∈(fr s).refs++(fr s).aQ,(¬∃β,gn gv β=some γ)∨∃β hb aw,gn gv β=some γ/\aP β=true/\hp γ=some hb/\H β=some aw/\aw.e=hb.e/\hb.xs.length<=aw.xs.length)/\∀γ e ty xs,fr s= .aF γ e ty xs->¬∃β,gn gv β=some γ)∨
   (d=some s/\fC s=b6 σ r/\∀β∈r.refs++r.aQ,eo (σ β)=some β)∨
   (∃s',1000000<=s'/\(∃γ e ty xs,F s'= .aF γ e ty xs)/\fC s=b6 σ (F s')/\∀β∈(F s').refs++(F s').aQ,eo (σ β)=some β)):
  eu C fC cc (vz tmps d v) w':=by
 obtain⟨Yg,xH⟩:∃f:Nat->Prop,f=fun b=>∃β γ,gn gv β=some γ/\ρ γ=some b:=⟨_,rfl⟩
 have yX:∀b,Yg b->aK C ρ hp b:=fun b hb=>by
  rw[xH]at hb
  obtain⟨β,γ,h1,h3⟩:=hb
  obtain⟨hb,_,k2,k3,_⟩:=hh.n β γ h1
  exact .inr ⟨γ,hb,k2,k3,h3⟩
 have jZ:Ext Yg w w':=h2.ext.mono fun b _ hb=>by
  rw[xH]
  rcases hb with⟨β,hr,hb⟩|⟨β,γ,h1,_,h3⟩
  ·have hb:(if aP β=true then(gv β).bind ρ else none)=some b:=hb
   split at hb
   ·cases hq:gv β with
    |none=>rw[hq]at hb;cases hb
    |some γ=>rw[hq]at hb;exact⟨β,γ,(vk hr).trans hq,hb⟩
   ·cases hb
  ·exact⟨β,γ,h1,h3⟩
 have Hd:∀b,Yg b->∃β γ,gn gv β=some γ/\ρ γ=some b/\C.cls γ b/\hp γ≠none/\dK γ=false:=fun b hb=>by
  rw[xH]at hb
  obtain⟨β,γ,h1,h3⟩:=hb
  obtain⟨hb,_,k2,k3,_⟩:=hh.n β γ h1
  have:=(hs.own γ hb k2).cL
  rw[h3]at this
  refine⟨β,γ,h1,h3,this.1,by simp[k2],?_⟩
  cases hR:dK γ with
  |false=>rfl
  |true=>have:=(hs.own γ hb k2).ro hR;rw[k3]at this;cases this
 have C5:∀γ b,hp γ≠none->(¬∃β,gn gv β=some γ)->ρ γ=some b->¬Yg b:=fun γ b hk sN hr hy=>by
  obtain⟨β,bo,h1,h3,_,h5,_⟩:=Hd b hy
  have:=hs.inj γ bo b hk h5 hr h3
  subst this
  exact sN ⟨β,h1⟩
 have As:∀β hb,H β=some hb->tQ (vu C ρ fr hp aA tmps w gv hs hh n hn) lI H w' β hb:=fun β hb h=>tQ.kL.1 (h2.own β hb h)
 have FR:∀β γ,aP β=true->gn gv β=some γ->H β≠none->lI β=ρ γ:=fun β γ hy hg hH=>by
  obtain⟨hb,hq⟩:=KbT.1 hH
  have:=(As β hb hq).fix hy
  rw[this]
  show(if aP β=true then(gv β).bind ρ else none)=ρ γ
  rw[if_pos hy,(zo hg).2];rfl
 have TO:∀β hb b,aP β=false->H β=some hb->lI β=some b->w.heap.size<=b∨Yg b:=fun β hb b hy hH hr=>by
  have:=(As β hb hH).cL
  rw[hr]at this
  rcases Ctx.vO this.1 hy with h|⟨bn,bo,k1,_,k3⟩
  ·exact .inl h
  ·exact .inr (by rw[xH];exact⟨bn,bo,k1,k3⟩)
 have aoS:∀β hb b,aP β=false->H β=some hb->lI β=some b->C.w0.heap.size<=b∨C.Z0 b:=fun β hb b hy hH hr=>by
  have:=(As β hb hH).cL
  rw[hr]at this
  rcases Ctx.vO this.1 hy with h|⟨bn,bo,k1,k2,k3⟩
  ·exact .inl (Kao hs.ext.size h)
  ·obtain⟨aw,_,l2,_,_,_,l6⟩:=hh.n bn bo k1
   have:=(hs.own bo aw l2).cL
   rw[k3]at this
   exact Ctx.vO this.1 (l6 k2)
 obtain⟨ρ',bD⟩:∃f:Nat->Option Nat,f=fun γ=>match eo γ with|some β=>lI β|none=>ρ γ:=⟨_,rfl⟩
 have rs:∀γ β,eo γ=some β->ρ' γ=lI β:=fun γ β h=>by rw[bD];simp[h]
 have rn:∀γ,eo γ=none->ρ' γ=ρ γ:=fun γ h=>by rw[bD];simp[h]
 have Gb:∀b,aK C ρ' cc b->aK (vu C ρ fr hp aA tmps w gv hs hh n hn) lI H b:=by
  rintro b (hx|⟨γ,hb,h1,h3,h4⟩)
  ·refine .inl ⟨.inl hx,fun hy=> ?_⟩
   obtain⟨_,γ,_,_,h5,_,h7⟩:=Hd b (by rw[xH];exact hy)
   exact Ctx.FP h5 h7 hx
  ·cases hq:eo γ with
   |some β=>rw[q1 γ β hq]at h1;rw[rs γ β hq]at h4;exact .inr ⟨β,hb,h1,h3,h4⟩
   | none=>
    rw[rn γ hq]at h4
    by_cases hg:∃β,gn gv β=some γ
    ·rw[q2 γ hq hg]at h1;cases h1
    ·rw[q3 γ hq hg]at h1
     exact .inl ⟨.inr ⟨γ,hb,h1,h3,h4⟩,fun hy=>C5 γ b (by simp[h1]) hg h4 (by rw[xH];exact hy)⟩
 have xG:∀b,b<w.heap.size->aK C ρ' cc b->aK C ρ hp b:=fun b hb hx=>by
  rcases Gb b hx with hx|⟨β,KD,h1,h3,h4⟩
  ·exact hx.1
  ·by_cases hy:aP β=true
   ·have:=(As β KD h1).fix hy
    rw[h4]at this
    have this:some b=(if aP β=true then(gv β).bind ρ else none):=this
    rw[if_pos hy]at this
    have hR:dK β=false:=by
     cases hR:dK β with
     |false=>rfl
     |true=>have:=(As β KD h1).ro hR;rw[h3]at this;cases this
    cases hq:gv β with
    |none=>rw[hq]at this;cases this
    |some γ=>rw[hq]at this;exact yX b (by rw[xH];exact⟨β,γ,(vk hR).trans hq,this.symm⟩)
   ·rcases TO β KD b (by simpa using hy) h1 h4 with h|h
    ·omega
    ·exact yX b h
 have bA:mW w w' (aK C ρ hp) (aK C ρ' cc):=⟨fun b hb fo=>jZ.block b hb fun hy=>fo (yX b hy),fun b hb fo hx=>fo (xG b hb hx),jZ.size⟩
 have TL:∀β γ b,aP β=true->gn gv β=some γ->ρ γ=some b->∀e cap,cZ w b e cap->cZ w' b e cap:=fun β γ b hy hg hr e cap hc=>by
  refine h2.fp β b ?_ e cap hc
  show(if aP β=true then(gv β).bind ρ else none)=some b
  rw[if_pos hy,(zo hg).2];exact hr
 refine⟨ρ',?_,?_,fun β b hb e cap hc=> ?_,fun γ hb aj=> ?_,fun γ δ b g1 g2 g3 g4=> ?_,fun s=> ?_⟩
 ·cases d with
  |none=>exact hs.sz
  |some d=>simp only[vz];simpa using hs.sz
 ·refine hs.ext.trans' jZ fun b hb hy=> ?_
  obtain⟨_,_,_,_,h5,_,h7⟩:=Hd b hy
  exact(Ctx.FQ h5 h7).resolve_left (by omega)
 ·have h1:=hs.fp β b hb e cap hc
  by_cases hy:Yg b
  ·obtain⟨dt,γ1,k1,k3,k4,k5,_⟩:=Hd b hy
   by_cases hY:aP dt=true
   ·exact TL dt γ1 b hY k1 k3 e cap h1
   ·obtain⟨_,_,_,_,_,_,l6⟩:=hh.n dt γ1 k1
    exact absurd hb (Ctx.LO (Ctx.vO k4 (l6 (by simpa using hY))))
  ·exact mA (jZ.block b (mC h1) hy) h1
 ·cases hq:eo γ with
  | some β=>
   have hH:H β=some hb:=by rw[<-q1 γ β hq];exact aj
   obtain⟨k1,k2,k3,k4⟩:=e1 γ β hq
   obtain⟨o1,o2,o3,o4,o5⟩:=As β hb hH
   refine⟨o1,o2,?_,fun hy=> ?_,fun hR=> ?_⟩
   ·rw[rs γ β hq]
    cases hr:lI β with
    |none=>rw[hr]at o3;exact o3
    | some b=>
     rw[hr]at o3
     refine⟨?_,o3.2.1,o3.2.2.move rfl rfl rfl rfl fun q u hq=>Qp.sub hq Gb⟩
     rcases k4 with⟨k4,k5⟩|⟨k4,k5,_⟩
     ·have e:=FR β γ k4 k5 k1
      rw[hr]at e
      obtain⟨aw,_,l2,_⟩:=hh.n β γ k5
      have:=(hs.own γ aw l2).cL
      rw[<-e]at this
      exact this.1
     ·exact Ctx.TP (aoS β hb b k4 hH hr) k5
   ·rcases k4 with⟨k4,k5⟩|⟨_,k5,_⟩
    ·rw[rs γ β hq,FR β γ k4 k5 k1]
     obtain⟨aw,_,l2,_⟩:=hh.n β γ k5
     exact(hs.own γ aw l2).fix hy
    ·rw[k5]at hy;cases hy
   ·rcases k4 with⟨k4,k5⟩|⟨_,k5,_⟩
    ·obtain⟨aw,_,l2,l3,_⟩:=hh.n β γ k5
     have:=(hs.own γ aw l2).ro hR
     rw[l3]at this;cases this
    ·rw[zt k5]at hR;cases hR
  | none=>
   by_cases hg:∃β,gn gv β=some γ
   ·rw[q2 γ hq hg]at aj;cases aj
   ·rw[q3 γ hq hg]at aj
    obtain⟨o1,o2,o3,o4,o5⟩:=hs.own γ hb aj
    refine⟨o1,o2,?_,(fun hy=>by rw[rn γ hq];exact o4 hy),o5⟩
    rw[rn γ hq]
    cases hr:ρ γ with
    |none=>rw[hr]at o3;exact o3
    |some b=>
     rw[hr]at o3
     exact⟨o3.1,Kbu o3.2.1 jZ.size,o3.2.2.move (jZ.block b o3.2.1 (C5 γ b (by simp[aj]) hg hr)) rfl rfl rfl bA.rc⟩
 ·have TR:∀γ δ β,eo γ=some β->eo δ=none->cc δ≠none->lI β=some b->ρ δ=some b->False:=fun γ δ β h1 h3 h5 h6 h7=>by
   have hg:¬∃β,gn gv β=some δ:=fun hg=>h5 (q2 δ h3 hg)
   rw[q3 δ h3 hg]at h5
   obtain⟨k1,k2,k3,k4⟩:=e1 γ β h1
   obtain⟨hb,hH⟩:=KbT.1 k1
   rcases k4 with⟨k4,k5⟩|⟨k4,k5,_⟩
   ·rw[FR β γ k4 k5 k1]at h6
    obtain⟨aw,_,l2,_⟩:=hh.n β γ k5
    have:=hs.inj γ δ b (by simp[l2]) h5 h6 h7
    subst this
    exact hg ⟨β,k5⟩
   ·rcases TO β hb b k4 hH h6 with h|h
    ·obtain⟨aw,hq⟩:=KbT.1 h5
     have:=(hs.own δ aw hq).cL
     rw[h7]at this
     omega
    ·exact C5 δ b h5 hg h7 h
  cases h1:eo γ with
  | some β=>
   rw[rs γ β h1]at g3
   cases h3:eo δ with
   |some bn=>
    rw[rs δ bn h3]at g4
    have:=h2.inj β bn b (e1 γ β h1).1 (e1 δ bn h3).1 g3 g4
    rw[<-(e1 γ β h1).2.1,<-(e1 δ bn h3).2.1,this]
   |none=>rw[rn δ h3]at g4;exact(TR γ δ β h1 h3 g2 g3 g4).elim
  | none=>
   rw[rn γ h1]at g3
   cases h3:eo δ with
   |some bn=>rw[rs δ bn h3]at g4;exact(TR δ γ bn h3 h1 g1 g4 g3).elim
   | none=>
    rw[rn δ h3]at g4
    have k:∀γ,eo γ=none->cc γ≠none->hp γ≠none:=fun γ h hq=>by
     by_cases hg:∃β,gn gv β=some γ
     ·exact absurd (q2 γ h hg) hq
     ·rwa[q3 γ h hg]at hq
    exact hs.inj γ δ b (k γ h1 g1) (k δ h3 g2) g3 g4
 ·have jt:∀β,eo (σ β)=some β->vF σ lI ρ' H cc β:=fun β h=>⟨rs _ _ h,(fun hb hq=>⟨hb,by rw[q1 _ _ h];exact hq,rfl,rfl,rfl⟩),fun _=>(e1 _ _ h).2.2.1⟩
  rcases hS s with e|⟨k1,k2,k3,k4⟩|⟨k1,k2,k3⟩|⟨s',k1,k2,k3,k4⟩
  ·rw[e];trivial
  ·have hv:(vz tmps d v).getD s undef=tmps.getD s undef:=by
    cases d with
    |none=>rfl
    |some x=>
     simp only[vz,KaW]
     rw[Kcv (fun e=>k1 (by rw[e]))]
   rw[hv,k2]
   have bb:=hs.cS s
   have xS:=bb.known
   have TX:∀γ,hp γ≠none->(¬∃β,gn gv β=some γ)->pI ρ ρ' hp cc w w' γ:=fun γ hk hg=>by
    have n7:eo γ=none:=by
     cases hq:eo γ with
     |none=>rfl
     |some β=>
      rcases(e1 γ β hq).2.2.2 with⟨_,h⟩|⟨_,_,h|h⟩
      ·exact absurd ⟨β,h⟩ hg
      ·exact absurd h hk
      ·exact absurd h hg
    refine⟨rn γ n7,fun hb hq=>⟨hb,by rw[q3 γ n7 hg];exact hq,rfl,Kaf _,fun b cap hr hc=>mA (jZ.block b (mC hc) (C5 γ b hk hg hr)) hc,fun he=>⟨he,rfl,fun b hr=>jZ.block b ?_ (C5 γ b hk hg hr)⟩⟩⟩
    have:=(hs.own γ hb hq).cL
    rw[hr]at this
    exact this.2.1
   have par:∀γ,hp γ≠none->((¬∃β,gn gv β=some γ)∨∃β hb aw,gn gv β=some γ/\aP β=true/\hp γ=some hb/\H β=some aw/\aw.e=hb.e/\hb.xs.length<=aw.xs.length)->vA ρ ρ' hp cc w w' γ:=fun γ hk h=>by
    rcases h with h|⟨β,hb,aw,l1,l2,l3,l4,l5,l6⟩
    ·exact(TX γ hk h).yB
    ·have n7:=e2 β γ l1 l2
     refine⟨by rw[rs γ β n7];exact FR β γ l2 l1 (by simp[l4]),fun cI hq=> ?_⟩
     rw[l3]at hq;cases hq
     exact⟨aw,by rw[q1 γ β n7];exact l4,l5,l6,fun b cap hr hc=>TL β γ b l2 l1 hr _ cap hc⟩
   refine bb.move bA (fun γ aj=> ?_) (fun γ aj=>par γ (xS.2 γ aj) (k3 γ (Kb0 _ aj))) (fun γ e ty xs e0=>TX γ (xS.2 γ (by rw[e0];simp[PV.aQ])) (k4 γ e ty xs e0))
   have:=par γ (xS.1 γ aj) (k3 γ (Kct _ aj))
   exact⟨this.r,this.h⟩
  ·subst k1
   have hv:(vz tmps (some s) v).getD s undef=v:=by
    have:=hd s rfl
    simp[vz,Array.getD,hs.sz,this]
   rw[hv,k2]
   have:=h2.cS 0
   exact Qm.iI (C':=C) (ρ':=ρ') (hp':=cc) this Gb fun β af=>jt β (k3 β af)
  ·obtain⟨γ,e,ty,xs,hF⟩:=k2
   rw[k3]
   have:=h2.cS s'
   have e0:jV r F s'=F s':=by unfold jV;rw[if_neg (by omega),if_neg (by omega)]
   rw[e0]at this
   have h3:=Qm.iI (C':=C) (ρ':=ρ') (hp':=cc) this Gb fun β af=>jt β (k4 β af)
   rw[hF]at h3⊢
   exact h3
theorem abl{tmps:Array Value}{aA H:HP}{gv:Nat->Option Nat}{F:Fr}{r:PV}{v:Value}{n:Nat}{hn:n<=1000000}{lI:Nat->Option Nat}(hs:Qr C ρ fr hp tmps w)(hh:tP C hp aA gv)
  (h2:Qr ((vu C ρ fr hp aA tmps w gv hs hh n hn).kL 1 (by decide)) lI (jV r F) H #[v] w') (h0:∀β,gn gv β=none):Ext dL w w':=h2.ext.mono fun b _ hb=>by
 rcases hb with⟨β,hr,hb⟩|⟨β,γ,h1,_,h3⟩
 ·have hb:(if aP β=true then(gv β).bind ρ else none)=some b:=hb
  have e:=(vk (gv:=gv) hr).symm
  rw[e,h0 β]at hb
  split at hb<;>cases hb
 ·rw[h0 β]at h1;cases h1
end Go.FW
namespace Go.FW
open Go
variable {C : Ctx} {R : Qh} {fr : Fr} {hp : HP} {K : Qh}
theorem dq{sk:List It}(h:eI R sk:=by repeat (first|exact Ny|exact Mh|exact Mi|exact Ms|exact Mt|apply Mg|apply Nx|apply ON|apply PK|apply PL|apply SD)):eI R sk:=h
theorem okB{sk:List It}(h:eI R sk:=by repeat (first|exact Ny|exact Mh|exact Mi|exact Ms|exact Mt|apply Mg|apply Nx|apply ON|apply PK|apply PL|apply SD|apply ZT)):eI R sk:=h
theorem aE {P : Program} {f : FuncId} {fn : Func} {sf : ay} {args : List PV} {Rr : PV -> Prop} {n : Nat} {rs : List RV} {b : SC} (hm : P.follows .mixedOrders = true) (hf : P.funcs[f]? = some fn) (hc : Qe P fn = some sf) (hv : ∀ C : Ctx, C.P = P -> vc C (ff rs Rr) [.c b] (jT args) aA) (he : sf = ⟨n, rs, b⟩ := by conv => lhs; whnf; try dsimp only [Zo, Zg, Zm, Zc, Zf, Zl, Zh, Zs, Zi, Zb, Zk, Zn, Zu, Zq, Zr, Zz, Ya, Yb, Yc, Yd, Ye, Yf, Yh, Yi, Yj, Yk, Yl, Ym, Yn, Yo, Yp, Yq, Yr, Ys, Yu, Yv, Yw, Yx, Yy, Yz, YA, YB, YC, YD, YE, YG, YH, YI, YJ, YK, YL, YM, YN, YO, YP, YQ, YS, YT, YU, YV, YW, YX, YY, YZ, dG, jh, BY, qd, mX, sA, sB, qe, mY, gZ, lU, hO, sC, ew, BZ, sD, gh, oY, qZ, ji, jH, zO, vJ, jj, vK, vG, nV, jW, kX, qW, eS, qX, lR, xv, jE, jF, lS, xw, jG, cX, gg, ky, vH, lT, vI, jX, qY, BW, BX, oX, ia, nX, ra, xx, zP, B2, kZ, jk, mZ, tV, re, gK, Nat.reduceAdd]) (pn : (fn.name != "runtime.NumGoroutine") = true := by exact rfl) (hn : args.length <= n /\ n <= 1000000 := by simp) : Qd P f args Rr := by
 subst he
 exact acP hm hf pn hc hn hv
theorem Qb{P:Program}(hP:C.P=P){g:FuncId}{first cap args:List PV}{pr:Bool}{d:Option Nat}{r:PV}(h:Qd P g ((first++args++cap).map (aO hp)) (· =r))(hK:K (dB fr d r) hp)(iE:((first++args++cap).map (aO hp)).all PV.aL=true:=by exact rfl)(hr:(first++args++cap).flatMap PV.refs=[]:=by exact rfl):fY C pr (.fn g first cap) args d fr hp K:=Nm hP h rfl iE hr hK
theorem Oz{p:Prop}(h:p:=by omega):p:=h
theorem Nz{a b:Nat}(h:(Nat.ble a b&&Nat.ble b 1000000)=true:=by exact rfl):a<=b/\b<=1000000:=by
 simp only[Kar,Nat.ble_eq]at h
 exact h
theorem ic{p q:Prop}(h:q)(e:p=q:=by conv=>lhs;try dsimp only[Zo,Zg,Zm,Zc,Zf,Zl,Zh,Zs,Zi,Zb,Zk,Zn,Zu,Zq,Zr,Zz,Ya,Yb,Yc,Yd,Ye,Yf,Yh,Yi,Yj,Yk,Yl,Ym,Yn,Yo,Yp,Yq,Yr,Ys,Yu,Yv,Yw,Yx,Yy,Yz,YA,YB,YC,YD,YE,YG,YH,YI,YJ,YK,YL,YM,YN,YO,YP,YQ,YS,YT,YU,YV,YW,YX,YY,YZ,dG,jh,BY,qd,mX,sA,sB,qe,mY,gZ,lU,hO,sC,ew,BZ,sD,gh,oY,qZ,ji,jH,zO,vJ,jj,vK,vG,nV,jW,kX,qW,eS,qX,lR,xv,jE,jF,lS,xw,jG,cX,gg,ky,vH,lT,vI,jX,qY,BW,BX,oX,ia,nX,ra,xx,zP,B2,kZ,jk,mZ,tV,re,gK,Nat.reduceAdd]):p:=e▸h
end Go.FW
