/- Part 3 of the proof of InequalityPolys: FwNF, FwSu. Own lemmas; no conditions. -/
import Derived.Test.YtikalonaompbdaaGreatInequalityPolysPart2
set_option maxHeartbeats 1000000
set_option linter.all false
set_option maxRecDepth 100000
namespace Go.FW
open Go
variable {C : Ctx} {ρ : Nat -> Option Nat} {fr aG : Fr} {hp hp' : HP} {w w' : World} {K R : Qf}
variable{P:Program}{f:FuncId}{fn:Func}{sf:ax}{tmps:Array Value}{v:Value}
def rK(args:List PV)(G:Fr):Fr:=λs=>if s<1000000 then(args[s]?).getD .undef else G s
def uf(r:PV)(F:Fr):Fr:=λs=>if s=0 then r else if s<1000000 then .undef else F s
def Ctx.lL(C:Ctx)(n:Nat)(hn:n<=1000000):Ctx:={ C with N:=n,hN:=hn }
def vG.lL{C:Ctx}{n:Nat}{hn:n<=1000000}{O:Nat}{hb:HB}:vG (C.lL n hn) ρ hp w O hb↔vG C ρ hp w O hb:=⟨λh=>⟨h.mA,h.len,h.du,h.fix,h.ro⟩,λh=>⟨h.mA,h.len,h.du,h.fix,h.ro⟩⟩
def jc(P:Program)(f:FuncId)(args:List PV)(G:Fr)(aB:HP)(aN:PV->Fr->HP->Prop):Prop:=
 qk P f/\∀(C:Ctx)(ρ:Nat->Option Nat)(aL:Array Value)(w:World),C.P=P->C.w0=w->C.N=args.length->Qt C ρ (rK args G) aB aL w->
  Calls P f aL w λe w'=>∃v ρ' r F H,e= .returned v/\Qt (C.lL 1 (by decide)) ρ' (uf r F) H #[v] w'/\aN r F H
def AL(Q:(Nat->Option Nat)->Prop)(P:Program)(f:FuncId)(args:List PV)(G:Fr)(aB:HP)(aN:PV->Fr->HP->Prop):Prop:=
 qk P f/\∀(C:Ctx)(ρ:Nat->Option Nat)(aL:Array Value)(w:World),C.P=P->C.w0=w->C.N=args.length->Q C.fx->Qt C ρ (rK args G) aB aL w->
  Calls P f aL w λe w'=>∃v ρ' r F H,e= .returned v/\Qt (C.lL 1 (by decide)) ρ' (uf r F) H #[v] w'/\aN r F H
def PV.OX:PV->Bool
 |.aD O _ _=>bN O
 |.int .. | .bool _| .aa=>true
 |_=>false
def Qj.Fw{p:PV}(h:Qj C ρ hp w p v)(h1:p.OX=true):dx C ρ hp w p v:=by
 cases p with
 |aD O o n=>exact⟨h1,h⟩
 |int k n=>exact h
 |bool b=>exact h
 |aa=>exact h
 |_=>cases h1
def FF(fr:Fr)(s n:Nat)(cs:List PV):Prop:=∃γ i o e ty xs,fr s= .np γ i o/\fr γ= .aH γ e ty xs/\∃h:i<xs.length,o+n<=e/\tx true n o (xs[i]'h)= .aU cs
def ayH(hP:C.P=P){a:Act}{x t n:Nat}{cs:List PV}(hc:jv P (.cell x t)=some (.cell x n true))(h:Qt C ρ fr hp a.tmps w)(hn:FF fr x n cs):
  ∃vs:Array Value,(mi a.tmps (.cell x t)).run P w= .ok (.agg vs) w/\vs.size=cs.length/\∀(i:Nat)(y:PV),cs[i]? =some y->dx C ρ hp w y (vs.getD i undef):=by
 subst hP;obtain⟨γ,i,o,e,ty,xs,h1,h2,hi,hle,hr⟩:=hn;simp only[jv,Kab,Kaa]at hc;obtain⟨n',uF,ag,lv,he⟩:=hc;cases he;have hx:=h.cQ x;rw[h1]at hx;obtain⟨hB,b,hb,g1,g2,g3⟩:=hx.Fq;have bm:=h.cQ γ;rw[h2]at bm;obtain⟨_,zA,b',aE,cur,cap,q1,q2,q3,q4,q5,q6,q7,q8,q9,Aa,wD⟩:=bm;rw[g1]at q1;cases q1;rw[g2]at q2;cases q2;rw[q4]at g3;have gB:=Kae hi;have ff:=Aa i _ gB;have tk:∀j,j<n->i*e+o+j<cur.size:=λj hj=>by rw[q7];exact o6 (show i<cap by omega) hle hj
 have cN:=Ct (P:=C.P) (t:=t) (b:=b) (off:=i*e+o) (vs:=Array.ofFn (n:=n) λj=>cur.getD (i*e+o+j.val) undef) uF lv (λh=>by cases h) (by simp) w
  (λj hj=>by rw[tK (f:=λj=>cur.getD (i*e+o+j) undef) hj];exact nC q6 (tk j hj))
 have iK:=MT (C:=C) (ρ:=ρ) (hp:=hp) (w:=w) (ag:=true) (n:=n) (off:=o) (x:=xs[i]) (vs:=Array.ofFn (n:=n) λj=>cur.getD (i*e+o+j.val) undef) (by simp) (by rw[ff];exact hle) (λh=>by cases h) (λj y hj hy=>by rw[tK (f:=λj=>cur.getD (i*e+o+j) undef) hj,Kb5];exact wD i _ gB (o+j) y hy);rw[hr]at iK;obtain⟨vs,ev,k1,k2⟩:=iK;refine⟨vs,?_,k1,k2⟩;rw[<-ev,<-cN];simp only[mi,g3,asAddr,Kau,KaY,Kan]
def lW(rs:List RV)(aN:PV->Fr->HP->Prop):Qf:=λfr hp=>∃aG hp',Wk fr hp aG hp'/\
 (gQ rs (λr=>aN r aG (Qu hp' (rs.flatMap (lr aG)))) aG hp'\/(∃s,rs=[.t s]/\aN (aG s) aG hp')\/(∃s t,rs=[.t s,.t t]/\(aG s).OX=true/\(aG t).OX=true/\aN (.fH [aG s,aG t]) aG hp')\/∃s n b cs,rs=[.cell s n true,b]/\lr aG b=[]/\mI aG hp' b/\FF aG s n cs/\aN (.dQ cs (lK aG hp' b)) aG hp')
def rp{rs:List RV}{aN:PV->Fr->HP->Prop}(h:gQ rs (λr=>aN r fr (Qu hp (rs.flatMap (lr fr)))) fr hp):lW rs aN fr hp:=⟨fr,hp,Wk.refl _ _,.inl h⟩
def aln{rs:List RV}{aN:PV->Fr->HP->Prop}{aX:Fr}{aB:HP}(hw:Wk fr hp aX aB)(h:lW rs aN aX aB):lW rs aN fr hp:=by obtain⟨f,h',h1,h2⟩:=h;exact⟨f,h',hw.trans h1,h2⟩
def MR{s:Nat}{aN:PV->Fr->HP->Prop}(h:aN (fr s) fr hp):lW [.t s] aN fr hp:=⟨fr,hp,Wk.refl _ _,.inr (.inl ⟨s,rfl,h⟩)⟩
def RC{s n:Nat}{b:RV}{cs:List PV}{aN:PV->Fr->HP->Prop}(h1:FF fr s n cs)(h2:lr fr b=[])(h3:mI fr hp b)(h:aN (.dQ cs (lK fr hp b)) fr hp):lW [.cell s n true,b] aN fr hp:=⟨fr,hp,Wk.refl _ _,.inr (.inr (.inr ⟨s,n,b,cs,rfl,h2,h3,h1,h⟩))⟩
def alo{rs:List RV}{aN:PV->Fr->HP->Prop}:KM (lW rs aN) (lW rs aN):=by rintro f f' hp hf ⟨aG,hp',h1,h2⟩;exact⟨aG,hp',hf.wk.trans h1,h2⟩
def GO{rs:List RV}{aN:PV->Fr->HP->Prop}:gu (lW rs aN) []:=⟨alo,.nil⟩
def GP {Q : (Nat -> Option Nat) -> Prop}     {args : List PV} {G : Fr} {aB : HP} {aN : PV -> Fr -> HP -> Prop} (hm : P.follows .mixedOrders = true) (hf : P.funcs[f]? = some fn) (nd : (fn.name != "runtime.NumGoroutine") = true) (hc : Qc P fn = some sf.strip) (hn : args.length <= sf.n /\ sf.n <= 1000000)
  (hv:∀C:Ctx,C.P=P->Q C.fx->vc C (lW sf.rs aN) [.c sf.body] (rK args G) aB):AL Q P f args G aB aN:=by
 simp only[Qc,Kab,Kaa]at hc;obtain⟨c,hb,sb,iG,rs,cU,EZ⟩:=hc;obtain⟨n,O2,body⟩:=sf;simp only[ax.strip,ax.mk.injEq]at EZ;obtain⟨rfl,rfl,rfl⟩:=EZ;refine⟨by simp[qk,hf,hb];simpa using nd,λC ρ aL w hP hw hN hQ hs=>?_⟩;subst hP;refine calls_of_wp hf hb ?_;have nj:aL.size=args.length:=by rw[hs.sz,hN]
 have uP:(aL++Array.replicate (fn.ntmps-aL.size) undef).size=fn.ntmps:=by simp at hn ⊢;omega
 have qS:Qt (C.lL fn.ntmps hn.2) ρ (rK args G) aB (aL++Array.replicate (fn.ntmps-aL.size) undef) w:=by
  refine⟨uP,hs.ext,hs.fG,λO hb h=>vG.lL.2 (hs.own O hb h),hs.inj,λi=>?_⟩;have bm:=hs.cQ i;by_cases hi:i<args.length
  .have e:(aL++Array.replicate (fn.ntmps-aL.size) undef).getD i undef=aL.getD i undef:=by rw[lP,if_pos Oz]
   rw[e];exact bm
  .unfold rK at bm⊢;split
   .rw[List.getElem?_eq_none Oz];trivial
   .rename_i h2;rw[if_neg h2]at bm;have e1:aL.getD i undef=undef:=by simp[Array.getD,nj,hi]
    have e2:(aL++Array.replicate (fn.ntmps-aL.size) undef).getD i undef=undef:=by simp only[Array.getD];rw[dif_neg (by rw[uP];simp at hn;omega)]
    rw[e2];rw[e1]at bm;exact bm
 have fin:∀(fr:Fr) (hp:HP) (a:Act) (w':World),a.defers=[]->eT (C.lL fn.ntmps hn.2) fr hp a.tmps w'->lW rs aN fr hp->
   a.defers=[]/\∃v,(results fn a.tmps).run C.P w'= .ok v w'/\∃v' ρ' r F H,Ending.returned v= .returned v'/\Qt (C.lL 1 (by decide)) ρ' (uf r F) H #[v'] w'/\aN r F H:=by
  rintro fr hp a w' hd uN ⟨oB,iI,hw1,hr⟩;obtain⟨Ad,gI⟩:=hw1 _ _ _ uN;have ghost:∀ {cy:HP} {r:PV} {v:Value},Qt (C.lL fn.ntmps hn.2) Ad oB cy a.tmps w'->Qj C Ad cy w' r v->Qt (C.lL 1 (by decide)) Ad (uf r oB) cy #[v] w':=by
   intro cy r v dA tu;refine⟨rfl,dA.ext,dA.fG,λO hb h=>vG.lL.2 (vG.lL.1 (dA.own O hb h)),dA.inj,λi=>?_⟩;unfold uf;split
   .rename_i hi;subst hi;exact tu
   .split
    .trivial
    .rename_i h0 h1;have bm:=dA.cQ i;have e1:a.tmps.getD i undef=undef:=by have hz:a.tmps.size=fn.ntmps:=dA.sz;have uG:fn.ntmps<=1000000:=hn.2;simp only[Array.getD];rw[dif_neg Oz]
     have e2:(#[v]:Array Value).getD i undef=undef:=by simp only[Array.getD];rw[dif_neg (by simp;omega)]
     rw[e2];rw[e1]at bm;exact bm
  rcases hr with hr|⟨s,EX,dY⟩|⟨s,t,EX,dA,Jc,dY⟩|⟨s,n,b,cs,EX,Oa,aT,uH,dY⟩
  .obtain⟨v,r,h1,h2,_,h3⟩:=LS (C:=C.lL fn.ntmps hn.2) rfl cU gI hr;refine⟨hd,v,h1,v,Ad,r,oB,_,rfl,ghost (gI.freeze _) (Qj.JD h2),h3⟩
  .subst EX;obtain⟨x,hx⟩:∃x,fn.results.toList=[x]:=by have:=n8 cU;exact KcB.1 (by rw[<-this.1];rfl)
   have jF:jv C.P x=some (.t s):=by rw[hx]at cU;simp only[Kb9,Kc5,KbW,Kcc,Kab,KaG]at cU;obtain⟨y,h1,_,_,h2⟩:=cU;simp only[Kct]at h2;rw[<-h2.1];exact h1
   have tv:x= .tmp s:=by
    cases x with
    |tmp t=>simpa[jv]using jF
    |cell y t=>simp[jv,Kab]at jF
   subst tv;have gH:(results fn a.tmps).run C.P w'= .ok (a.tmps.getD s undef) w':=by have e:results fn a.tmps=(do let vs<-fn.results.mapM (mi a.tmps);pure (if h:vs.size=1 then vs[0]else .tuple vs)):=rfl;rw[e,Kbv,hx];simp[Kau,mi]
   exact⟨hd,_,gH,_,Ad,_,oB,iI,rfl,ghost gI (gI.cQ s),dY⟩
  .subst EX;have hlen:=n8 cU;obtain⟨x,y,hx⟩:∃x y,fn.results.toList=[x,y]:=by
    have h2:fn.results.toList.length=2:=by rw[<-hlen.1];rfl
    match h3:fn.results.toList,h2 with
    | [x,y],_=>exact⟨x,y,rfl⟩
   rw[hx]at cU;simp only[Kb9,Kc5,KbW,Kcc,Kab,KaG]at cU;obtain⟨u1,k1,l1,⟨u2,k2,l2,k3,k4⟩,k5⟩:=cU;subst k3 k4;simp only[Kct,and_true]at k5;obtain⟨rfl,rfl⟩:=k5;have tm:∀ {z:ResultVar} {s:Nat},jv C.P z=some (.t s)->z= .tmp s:=fun {z s} hz=>by
    cases z with
    |tmp t=>simpa[jv]using hz
    |cell y t=>simp[jv,Kab]at hz
   obtain rfl:=tm k1;obtain rfl:=tm k2;have gH:(results fn a.tmps).run C.P w'= .ok (.tuple #[a.tmps.getD s undef,a.tmps.getD t undef]) w':=by have e:results fn a.tmps=(do let vs<-fn.results.mapM (mi a.tmps);pure (if h:vs.size=1 then vs[0]else .tuple vs)):=rfl;rw[e,Kbv,hx];simp[Kau,mi]
   refine⟨hd,_,gH,_,Ad,_,oB,iI,rfl,ghost (r:=.fH [oB s,oB t]) gI ⟨#[a.tmps.getD s undef,a.tmps.getD t undef],rfl,rfl,λi x hi=>?_⟩,dY⟩
   match i,hi with
   |0,hi=>simp at hi;subst hi;exact(gI.cQ s).Fw dA
   |1,hi=>simp at hi;subst hi;exact(gI.cQ t).Fw Jc
   |i+2,hi=>simp at hi
  .subst EX;have hlen:=n8 cU;obtain⟨x,y,hx⟩:∃x y,fn.results.toList=[x,y]:=by
    have h2:fn.results.toList.length=2:=by rw[<-hlen.1];rfl
    match h3:fn.results.toList,h2 with
    | [x,y],_=>exact⟨x,y,rfl⟩
   rw[hx]at cU;simp only[Kb9,Kc5,KbW,Kcc,Kab,KaG]at cU;obtain⟨u1,k1,l1,⟨u2,k2,l2,k3,k4⟩,k5⟩:=cU;subst k3 k4;simp only[Kct,and_true]at k5;obtain⟨rfl,rfl⟩:=k5;obtain⟨x',t',rfl⟩:∃x' t',x= .cell x' t':=by
    cases x with
    |tmp t=>simp[jv]at k1
    |cell y t=>exact⟨y,t,rfl⟩
   have oO:x'=s:=by simp only[jv,Kab,Kaa]at k1;obtain⟨_,_,_,_,he⟩:=k1;cases he;rfl
   subst oO;obtain⟨vs,q1,q2,q3⟩:=ayH (C:=C.lL fn.ntmps hn.2) rfl k1 gI uH;obtain⟨u,r1,r2⟩:=QM (C:=C.lL fn.ntmps hn.2) rfl k2 gI aT;rw[Oa,vd]at r2;have gH:(results fn a.tmps).run C.P w'= .ok (.tuple #[.agg vs,u]) w':=by have e:results fn a.tmps=(do let vs<-fn.results.mapM (mi a.tmps);pure (if h:vs.size=1 then vs[0]else .tuple vs)):=rfl;rw[e,Kbv,hx];have Fu:(mi a.tmps (.cell x' t')).run C.P w'= .ok (.agg vs) w':=q1;have r1':(mi a.tmps y).run C.P w'= .ok u w':=r1;simp[Kau,Fu,r1']
   exact⟨hd,_,gH,_,Ad,_,oB,iI,rfl,ghost (r:=.dQ cs _) gI ⟨vs,u,rfl,q2,q3,r2⟩,dY⟩
 exact Lz (C:=C.lL fn.ntmps hn.2) (R:=lW rs aN) hm c body [] _ (rK args G) aB _ w iG ⟨λfr hp a w' hd hs hv=>(by rw[wW]at hv;exact fin fr hp a w' hd hs hv),λid fI he=>(by simp[FW.cS]at he),fin⟩ rfl ⟨ρ,qS⟩ (hv (C.lL fn.ntmps hn.2) rfl hQ)
def jd     {args : List PV} {G : Fr} {aB : HP} {aN : PV -> Fr -> HP -> Prop} (hm : P.follows .mixedOrders = true) (hf : P.funcs[f]? = some fn) (nd : (fn.name != "runtime.NumGoroutine") = true) (hc : Qc P fn = some sf.strip) (hn : args.length <= sf.n /\ sf.n <= 1000000)
  (hv:∀C:Ctx,C.P=P->vc C (lW sf.rs aN) [.c sf.body] (rK args G) aB):jc P f args G aB aN:=by
 obtain⟨h1,h2⟩:=GP (Q:=λ_=>True) hm hf nd hc hn λC hP _=>hv C hP
 exact⟨h1,λC ρ aL w a b c d=>h2 C ρ aL w a b c trivial d⟩
structure uh(C:Ctx)(hp:HP)(aB:HP)(gv:Nat->Option Nat):Prop where
 g:∀O γ,gv O=some γ->∃hb,hp γ=some hb/\bN O=true/\(eB O=true->aB O=some ⟨hb.e,hb.ty,hb.xs,true⟩)/\(eB O=false->aB O=some hb/\hb.fz=false/\bN γ=true/\(aP O=false->aP γ=false))
 a:∀O,aB O≠none->∃γ,gv O=some γ
 i:∀O bq γ,gv O=some γ->gv bq=some γ->O=bq
def gn(gv:Nat->Option Nat):Nat->Option Nat:=λO=>if eB O=true then none else gv O
def AM{gv:Nat->Option Nat}{O γ:Nat}(h:gn gv O=some γ):eB O=false/\gv O=some γ:=by
 unfold gn at h;split at h
 .cases h
 .rename_i hr;exact⟨by simpa using hr,h⟩
def wY{gv:Nat->Option Nat}{O:Nat}(h:eB O=false):gn gv O=gv O:=by unfold gn;rw[h];rfl
def uh.n{C:Ctx}{hp aB:HP}{gv:Nat->Option Nat}(hh:uh C hp aB gv)(O γ:Nat)(h:gn gv O=some γ):∃hb,aB O=some hb/\hp γ=some hb/\hb.fz=false/\bN O=true/\bN γ=true/\(aP O=false->aP γ=false):=by obtain⟨hr,h⟩:=AM h;obtain⟨hb,h1,h2,_,h4⟩:=hh.g O γ h;obtain⟨k1,k2,k3,k4⟩:=h4 hr;exact⟨hb,k1,h1,k2,h2,k3,k4⟩
def uh.s{C:Ctx}{hp aB:HP}{gv:Nat->Option Nat}(hh:uh C hp aB gv)(O γ:Nat)(h:gv O=some γ):∃hb aE,hp γ=some hb/\aB O=some aE/\aE.e=hb.e/\aE.ty=hb.ty/\aE.xs=hb.xs/\(aE.fz=false->hb=aE/\eB O=false)/\(eB O=true->aE.fz=true)/\bN O=true:=by
 obtain⟨hb,h1,h2,h3,h4⟩:=hh.g O γ h;cases hr:eB O with
 |true=>exact⟨hb,_,h1,h3 hr,rfl,rfl,rfl,(λh=>by cases h),λ_=>rfl,h2⟩
 |false=>obtain⟨k1,k2,_⟩:=h4 hr;exact⟨hb,hb,h1,k1,rfl,rfl,rfl,(λ_=>⟨rfl,rfl⟩),(λh=>by cases h),h2⟩
def vK (C:Ctx) (ρ:Nat->Option Nat) (fr:Fr) (hp aB:HP) (tmps:Array Value) (w:World) (gv:Nat->Option Nat) (hs:Qt C ρ fr hp tmps w) (hh:uh C hp aB gv) (n:Nat) (hn:n<=1000000):Ctx where
 P:=C.P
 N:=n
 w0:=w
 X0:=λb=>aM C ρ hp b/\¬∃O γ,gn gv O=some γ/\ρ γ=some b
 IG:=λb hb=>DA hs b hb.1
 hN:=hn
 fx:=λO=>if aP O=true then(gv O).bind ρ else none
 qL :=λO b h=>by
  split at h
  .cases hq:gv O with
   |none=>rw[hq]at h;cases h
   |some γ=>rw[hq]at h;obtain⟨hb,h2,_⟩:=hh.g O γ hq;have:=(hs.own γ hb h2).du;rw[show ρ γ=some b from h]at this;exact⟨this.2.1,λhr hx=>hx.2 ⟨O,γ,(wY hr).trans hq,h⟩⟩
  .cases h
 Z0:=λb=>∃O γ,gn gv O=some γ/\aP O=false/\ρ γ=some b
 II :=λb ⟨O,γ,h1,h2,h3⟩=>by
  obtain⟨hb,_,k2,_⟩:=hh.n O γ h1;have:=(hs.own γ hb k2).du;rw[h3]at this;refine⟨this.2.1,λhx=>hx.2 ⟨O,γ,h1,h3⟩,λbq hf=>?_⟩;split at hf
  .rename_i hy;cases hq:gv bq with
   |none=>rw[hq]at hf;cases hf
   |some bo=>rw[hq]at hf;obtain⟨aE,Js,_⟩:=hh.g bq bo hq;have e:=hs.inj γ bo b (by simp[k2]) (by simp[Js]) h3 hf;subst e;have e2:=hh.i O bq γ (AM h1).2 hq;subst e2;rw[h2]at hy;cases hy
  .cases hf
def Wv{w:World}{aB:HP}{gv:Nat->Option Nat}{τ:Nat->Nat}{args:List PV}{aQ:List PV}{G:Fr}{av:Array Value}(hs:Qt C ρ fr hp tmps w)(hh:uh C hp aB gv)
  (jZ:∀O γ,gv O=some γ->τ γ=O) (fF:av.size=args.length) (cF:args.map (bF τ)=aQ) (NH:∀(i:Nat)(x:PV),args[i]? =some x->Qj C ρ hp w x (av.getD i undef))
  (js:∀x∈args,∀γ∈x.refs++x.aO,∃O,gv O=some γ) (hG:∀s,1000000<=s->G s= .undef\/∃s',1000000<=s'/\G s=bF τ (fr s')/\∀γ∈(fr s').refs++(fr s').aO,∃O,gv O=some γ) (bx:aQ.length<=1000000):
  Qt (vK C ρ fr hp aB tmps w gv hs hh aQ.length bx) (λO=>(gv O).bind ρ) (rK aQ G) aB av w:=by
 subst cF;have hX:∀b,aM (vK C ρ fr hp aB tmps w gv hs hh (args.map (bF τ)).length bx) (λO=>(gv O).bind ρ) aB b->aM C ρ hp b:=by
  rintro b (hx|⟨O,hb,h1,h2,h3⟩)
  .exact hx.1
  .cases hq:gv O with
   |none=>simp only[hq]at h3;cases h3
   |some γ=>simp only[hq,Kcf]at h3;obtain⟨hb1,aE,k2,k1,_,_,_,k6,_⟩:=hh.s O γ hq;rw[h1]at k1;cases k1;exact .inr ⟨γ,hb1,k2,by rw[(k6 h2).1];exact h2,h3⟩
 have hr:∀γ,(∃O,gv O=some γ)->xv τ ρ (λO=>(gv O).bind ρ) hp aB γ:=λγ ⟨O,ao⟩=>by
  obtain⟨hb,hb2,k2,k1,k3,k4,k5,_,_,k8⟩:=hh.s O γ ao;refine⟨?_,λaE h'=>?_,λ_=>by rw[jZ O γ ao];exact k8⟩
  .show(gv (τ γ)).bind ρ=ρ γ;rw[jZ O γ ao,ao];rfl
  .rw[k2]at h';cases h';exact⟨hb2,by rw[jZ O γ ao];exact k1,k3,k4,k5⟩
 refine⟨by rw[fF];simp[vK],Ext.refl _ _,λ_ _ _ _ _ h=>h,λO hb ao=>?_,λO δ b h1 h2 h3 h4=>?_,λi=>?_⟩
 .obtain⟨γ,ak⟩:=hh.a O (by simp[ao]);obtain⟨hb1,aE,k2,k1,k3,k4,k5,k6,k7,_⟩:=hh.s O γ ak;rw[ao]at k1;cases k1;obtain⟨q1,q2,q3,q4,q5⟩:=hs.own γ hb1 k2;refine⟨by rw[k3];exact q1,by rw[k3,k5];exact q2,?_,λhy=>?_,k7⟩
  .simp only[ak,Kcf];cases hr:ρ γ with
   |none=>rw[hr]at q3;rw[k5];exact q3
   | some b=>
    rw[hr]at q3;refine⟨?_,q3.2.1,q3.2.2.move rfl k3 k4 k5 λq u hq=>Qn.sub hq hX⟩;unfold Ctx.cls;split
    .rename_i hy;show(if aP O=true then(gv O).bind ρ else none)=some b;rw[if_pos hy,ak];exact hr
    .rename_i hy;exact .inr ⟨O,γ,(wY (AU (by simpa using hy))).trans ak,by simpa using hy,hr⟩
  .show(gv O).bind ρ=(if aP O=true then(gv O).bind ρ else none)
   rw[if_pos hy]
 .obtain⟨γ1,e1⟩:=hh.a O h1;obtain⟨γ2,e2⟩:=hh.a δ h2;simp only[e1,Kcf]at h3;simp only[e2,Kcf]at h4;obtain⟨hb1,k1,_⟩:=hh.g O γ1 e1;obtain⟨hb2,k2,_⟩:=hh.g δ γ2 e2;have:=hs.inj γ1 γ2 b (by simp[k1]) (by simp[k2]) h3 h4;subst this;exact hh.i O δ γ1 e1 e2
 .unfold rK;split
  .rw[Kaw];cases hi:args[i]? with
   |none=>trivial
   |some x=>simp only[KbZ,Kbl];exact(NH i x hi).iY hX λγ ak=>hr γ (js x (Kaj hi) γ ak)
  .rename_i hi;have e1:av.getD i undef=undef:=by simp only[Array.getD];rw[dif_neg (by simp at bx;omega)]
   rcases hG i Oz with e|⟨s',fS,e,hn⟩
   .rw[e];trivial
   .rw[e,e1];have bm:=hs.cQ s';have e2:tmps.getD s' undef=undef:=by simp only[Array.getD];rw[dif_neg (by rw[hs.sz];have:=C.hN;omega)]
    rw[e2]at bm;exact bm.iY hX λγ ak=>hr γ (hn γ ak)
def PT{aB H cy:HP}{gv eo:Nat->Option Nat}{σ:Nat->Nat}{F ij:Fr}{r:PV}{d:Option Nat}{n:Nat}{hn:n<=1000000}{oT:Nat->Option Nat}(hs:Qt C ρ fr hp tmps w)(hh:uh C hp aB gv)
  (h2:Qt ((vK C ρ fr hp aB tmps w gv hs hh n hn).lL 1 (by decide)) oT (uf r F) H #[v] w') (hd:∀x,d=some x->x<C.N)
  (e1:∀γ O,eo γ=some O->H O≠none/\σ O=γ/\bN γ=true/\((aP O=true/\gn gv O=some γ)\/(aP O=false/\aP γ=false/\(hp γ=none\/∃bq,gn gv bq=some γ))))
  (e2:∀O γ,gn gv O=some γ->aP O=true->eo γ=some O)
  (q1:∀γ O,eo γ=some O->cy γ=H O) (q2:∀γ,eo γ=none->(∃O,gn gv O=some γ)->cy γ=none) (q3:∀γ,eo γ=none->(¬∃O,gn gv O=some γ)->cy γ=hp γ)
  (hS:∀s,ij s= .undef\/
   (d≠some s/\ij s=fr s/\(∀γ∈(fr s).refs++(fr s).aO,(¬∃O,gn gv O=some γ)\/∃O hb aE,gn gv O=some γ/\aP O=true/\hp γ=some hb/\H O=some aE/\aE.e=hb.e/\hb.xs.length<=aE.xs.length)/\∀γ e ty xs,fr s= .aH γ e ty xs->¬∃O,gn gv O=some γ)\/
   (d=some s/\ij s=bF σ r/\∀O∈r.refs++r.aO,eo (σ O)=some O)\/
   (∃s',1000000<=s'/\(∃γ e ty xs,F s'= .aH γ e ty xs)/\ij s=bF σ (F s')/\∀O∈(F s').refs++(F s').aO,eo (σ O)=some O)):
  eT C ij cy (xh tmps d v) w':=by
 obtain⟨Yg,zs⟩:∃f:Nat->Prop,f=λb=>∃O γ,gn gv O=some γ/\ρ γ=some b:=⟨_,rfl⟩
 have yX:∀b,Yg b->aM C ρ hp b:=λb hb=>by rw[zs]at hb;obtain⟨O,γ,h1,h3⟩:=hb;obtain⟨hb,_,k2,k3,_⟩:=hh.n O γ h1;exact .inr ⟨γ,hb,k2,k3,h3⟩
 have l7:Ext Yg w w':=h2.ext.mono λb _ hb=>by
  rw[zs];rcases hb with⟨O,hr,hb⟩|⟨O,γ,h1,_,h3⟩
  .have hb:(if aP O=true then(gv O).bind ρ else none)=some b:=hb;split at hb
   .cases hq:gv O with
    |none=>rw[hq]at hb;cases hb
    |some γ=>rw[hq]at hb;exact⟨O,γ,(wY hr).trans hq,hb⟩
   .cases hb
  .exact⟨O,γ,h1,h3⟩
 have JU:∀b,Yg b->∃O γ,gn gv O=some γ/\ρ γ=some b/\C.cls γ b/\hp γ≠none/\eB γ=false:=λb hb=>by
  rw[zs]at hb;obtain⟨O,γ,h1,h3⟩:=hb;obtain⟨hb,_,k2,k3,_⟩:=hh.n O γ h1;have:=(hs.own γ hb k2).du;rw[h3]at this;refine⟨O,γ,h1,h3,this.1,by simp[k2],?_⟩;cases hR:eB γ with
  |false=>rfl
  |true=>have:=(hs.own γ hb k2).ro hR;rw[k3]at this;cases this
 have Fp:∀γ b,hp γ≠none->(¬∃O,gn gv O=some γ)->ρ γ=some b->¬Yg b:=λγ b hk nX hr hy=>by obtain⟨O,bo,h1,h3,_,h5,_⟩:=JU b hy;have:=hs.inj γ bo b hk h5 hr h3;subst this;exact nX ⟨O,h1⟩
 have Ca:∀O hb,H O=some hb->vG (vK C ρ fr hp aB tmps w gv hs hh n hn) oT H w' O hb:=λO hb h=>vG.lL.1 (h2.own O hb h)
 have Io:∀O γ,aP O=true->gn gv O=some γ->H O≠none->oT O=ρ γ:=λO γ hy hg hH=>by obtain⟨hb,hq⟩:=Kbq.1 hH;have:=(Ca O hb hq).fix hy;rw[this];show(if aP O=true then(gv O).bind ρ else none)=ρ γ;rw[if_pos hy,(AM hg).2];rfl
 have XE:∀O hb b,aP O=false->H O=some hb->oT O=some b->w.heap.size<=b\/Yg b:=λO hb b hy hH hr=>by
  have:=(Ca O hb hH).du;rw[hr]at this;rcases Ctx.xB this.1 hy with h|⟨bq,bo,k1,_,k3⟩
  .exact .inl h
  .exact .inr (by rw[zs];exact⟨bq,bo,k1,k3⟩)
 have avD:∀O hb b,aP O=false->H O=some hb->oT O=some b->C.w0.heap.size<=b\/C.Z0 b:=λO hb b hy hH hr=>by
  have:=(Ca O hb hH).du;rw[hr]at this;rcases Ctx.xB this.1 hy with h|⟨bq,bo,k1,k2,k3⟩
  .exact .inl (KaK hs.ext.size h)
  .obtain⟨aE,_,l2,_,_,_,l6⟩:=hh.n bq bo k1;have:=(hs.own bo aE l2).du;rw[k3]at this;exact Ctx.xB this.1 (l6 k2)
 obtain⟨ρ',bT⟩:∃f:Nat->Option Nat,f=λγ=>match eo γ with|some O=>oT O|none=>ρ γ:=⟨_,rfl⟩
 have rs:∀γ O,eo γ=some O->ρ' γ=oT O:=λγ O h=>by rw[bT];simp[h]
 have rn:∀γ,eo γ=none->ρ' γ=ρ γ:=λγ h=>by rw[bT];simp[h]
 have IH:∀b,aM C ρ' cy b->aM (vK C ρ fr hp aB tmps w gv hs hh n hn) oT H b:=by
  rintro b (hx|⟨γ,hb,h1,h3,h4⟩)
  .refine .inl ⟨.inl hx,λhy=>?_⟩;obtain⟨_,γ,_,_,h5,_,h7⟩:=JU b (by rw[zs];exact hy);exact Ctx.Ik h5 h7 hx
  .cases hq:eo γ with
   |some O=>rw[q1 γ O hq]at h1;rw[rs γ O hq]at h4;exact .inr ⟨O,hb,h1,h3,h4⟩
   | none=>
    rw[rn γ hq]at h4;by_cases hg:∃O,gn gv O=some γ
    .rw[q2 γ hq hg]at h1;cases h1
    .rw[q3 γ hq hg]at h1;exact .inl ⟨.inr ⟨γ,hb,h1,h3,h4⟩,λhy=>Fp γ b (by simp[h1]) hg h4 (by rw[zs];exact hy)⟩
 have zr:∀b,b<w.heap.size->aM C ρ' cy b->aM C ρ hp b:=λb hb hx=>by
  rcases IH b hx with hx|⟨O,NL,h1,h3,h4⟩
  .exact hx.1
  .by_cases hy:aP O=true
   .have:=(Ca O NL h1).fix hy;rw[h4]at this;have this:some b=(if aP O=true then(gv O).bind ρ else none):=this;rw[if_pos hy]at this;have hR:eB O=false:=by
     cases hR:eB O with
     |false=>rfl
     |true=>have:=(Ca O NL h1).ro hR;rw[h3]at this;cases this
    cases hq:gv O with
    |none=>rw[hq]at this;cases this
    |some γ=>rw[hq]at this;exact yX b (by rw[zs];exact⟨O,γ,(wY hR).trans hq,this.symm⟩)
   .rcases XE O NL b (by simpa using hy) h1 h4 with h|h
    .omega
    .exact yX b h
 have a9:nK w w' (aM C ρ hp) (aM C ρ' cy):=⟨λb hb il=>l7.block b hb λhy=>il (yX b hy),λb hb il hx=>il (zr b hb hx),l7.size⟩
 have XB:∀O γ b,aP O=true->gn gv O=some γ->ρ γ=some b->∀e cap,eh w b e cap->eh w' b e cap:=λO γ b hy hg hr e cap hc=>by refine h2.fG O b ?_ e cap hc;show(if aP O=true then(gv O).bind ρ else none)=some b;rw[if_pos hy,(AM hg).2];exact hr
 refine⟨ρ',?_,?_,λO b hb e cap hc=>?_,λγ hb ak=>?_,λγ δ b g1 g2 g3 g4=>?_,λs=>?_⟩
 .cases d with
  |none=>exact hs.sz
  |some d=>simp only[xh];simpa using hs.sz
 .refine hs.ext.trans' l7 λb hb hy=>?_
  obtain⟨_,_,_,_,h5,_,h7⟩:=JU b hy;exact(Ctx.Il h5 h7).resolve_left Oz
 .have h1:=hs.fG O b hb e cap hc;by_cases hy:Yg b
  .obtain⟨β1,γ1,k1,k3,k4,k5,_⟩:=JU b hy;by_cases hY:aP β1=true
   .exact XB β1 γ1 b hY k1 k3 e cap h1
   .obtain⟨_,_,_,_,_,_,l6⟩:=hh.n β1 γ1 k1;exact absurd hb (Ctx.Pa (Ctx.xB k4 (l6 (by simpa using hY))))
  .exact nA (l7.block b (nE h1) hy) h1
 .cases hq:eo γ with
  | some O=>
   have hH:H O=some hb:=by rw[<-q1 γ O hq];exact ak
   obtain⟨k1,k2,k3,k4⟩:=e1 γ O hq;obtain⟨o1,o2,o3,o4,o5⟩:=Ca O hb hH;refine⟨o1,o2,?_,λhy=>?_,λhR=>?_⟩
   .rw[rs γ O hq];cases hr:oT O with
    |none=>rw[hr]at o3;exact o3
    | some b=>
     rw[hr]at o3;refine⟨?_,o3.2.1,o3.2.2.move rfl rfl rfl rfl λq u hq=>Qn.sub hq IH⟩;rcases k4 with⟨k4,k5⟩|⟨k4,k5,_⟩
     .have e:=Io O γ k4 k5 k1;rw[hr]at e;obtain⟨aE,_,l2,_⟩:=hh.n O γ k5;have:=(hs.own γ aE l2).du;rw[<-e]at this;exact this.1
     .exact Ctx.XF (avD O hb b k4 hH hr) k5
   .rcases k4 with⟨k4,k5⟩|⟨_,k5,_⟩
    .rw[rs γ O hq,Io O γ k4 k5 k1];obtain⟨aE,_,l2,_⟩:=hh.n O γ k5;exact(hs.own γ aE l2).fix hy
    .rw[k5]at hy;cases hy
   .rcases k4 with⟨k4,k5⟩|⟨_,k5,_⟩
    .obtain⟨aE,_,l2,l3,_⟩:=hh.n O γ k5;have:=(hs.own γ aE l2).ro hR;rw[l3]at this;cases this
    .rw[AU k5]at hR;cases hR
  | none=>
   by_cases hg:∃O,gn gv O=some γ
   .rw[q2 γ hq hg]at ak;cases ak
   .rw[q3 γ hq hg]at ak;obtain⟨o1,o2,o3,o4,o5⟩:=hs.own γ hb ak;refine⟨o1,o2,?_,(λhy=>by rw[rn γ hq];exact o4 hy),o5⟩;rw[rn γ hq];cases hr:ρ γ with
    |none=>rw[hr]at o3;exact o3
    |some b=>rw[hr]at o3;exact⟨o3.1,Kbj o3.2.1 l7.size,o3.2.2.move (l7.block b o3.2.1 (Fp γ b (by simp[ak]) hg hr)) rfl rfl rfl a9.rc⟩
 .have XG:∀γ δ O,eo γ=some O->eo δ=none->cy δ≠none->oT O=some b->ρ δ=some b->False:=λγ δ O h1 h3 h5 h6 h7=>by
   have hg:¬∃O,gn gv O=some δ:=λhg=>h5 (q2 δ h3 hg)
   rw[q3 δ h3 hg]at h5;obtain⟨k1,k2,k3,k4⟩:=e1 γ O h1;obtain⟨hb,hH⟩:=Kbq.1 k1;rcases k4 with⟨k4,k5⟩|⟨k4,k5,_⟩
   .rw[Io O γ k4 k5 k1]at h6;obtain⟨aE,_,l2,_⟩:=hh.n O γ k5;have:=hs.inj γ δ b (by simp[l2]) h5 h6 h7;subst this;exact hg ⟨O,k5⟩
   .rcases XE O hb b k4 hH h6 with h|h
    .obtain⟨aE,hq⟩:=Kbq.1 h5;have:=(hs.own δ aE hq).du;rw[h7]at this;omega
    .exact Fp δ b h5 hg h7 h
  cases h1:eo γ with
  | some O=>
   rw[rs γ O h1]at g3;cases h3:eo δ with
   |some bq=>rw[rs δ bq h3]at g4;have:=h2.inj O bq b (e1 γ O h1).1 (e1 δ bq h3).1 g3 g4;rw[<-(e1 γ O h1).2.1,<-(e1 δ bq h3).2.1,this]
   |none=>rw[rn δ h3]at g4;exact(XG γ δ O h1 h3 g2 g3 g4).elim
  | none=>
   rw[rn γ h1]at g3;cases h3:eo δ with
   |some bq=>rw[rs δ bq h3]at g4;exact(XG δ γ bq h3 h1 g1 g4 g3).elim
   | none=>
    rw[rn δ h3]at g4;have k:∀γ,eo γ=none->cy γ≠none->hp γ≠none:=λγ h hq=>by
     by_cases hg:∃O,gn gv O=some γ
     .exact absurd (q2 γ h hg) hq
     .rwa[q3 γ h hg]at hq
    exact hs.inj γ δ b (k γ h1 g1) (k δ h3 g2) g3 g4
 .have jX:∀O,eo (σ O)=some O->xv σ oT ρ' H cy O:=λO h=>⟨rs _ _ h,(λhb hq=>⟨hb,by rw[q1 _ _ h];exact hq,rfl,rfl,rfl⟩),λ_=>(e1 _ _ h).2.2.1⟩
  rcases hS s with e|⟨k1,k2,k3,k4⟩|⟨k1,k2,k3⟩|⟨s',k1,k2,k3,k4⟩
  .rw[e];trivial
  .have hv:(xh tmps d v).getD s undef=tmps.getD s undef:=by
    cases d with
    |none=>rfl
    |some x=>simp only[xh,KaS];rw[Kcr (λe=>k1 (by rw[e]))]
   rw[hv,k2];have bm:=hs.cQ s;have zD:=bm.known;have XK:∀γ,hp γ≠none->(¬∃O,gn gv O=some γ)->pW ρ ρ' hp cy w w' γ:=λγ hk hg=>by
    have jV:eo γ=none:=by
     cases hq:eo γ with
     |none=>rfl
     |some O=>
      rcases(e1 γ O hq).2.2.2 with⟨_,h⟩|⟨_,_,h|h⟩
      .exact absurd ⟨O,h⟩ hg
      .exact absurd h hk
      .exact absurd h hg
    refine⟨rn γ jV,λhb hq=>⟨hb,by rw[q3 γ jV hg];exact hq,rfl,Kag _,λb cap hr hc=>nA (l7.block b (nE hc) (Fp γ b hk hg hr)) hc,λhe=>⟨he,rfl,λb hr=>l7.block b ?_ (Fp γ b hk hg hr)⟩⟩⟩;have:=(hs.own γ hb hq).du;rw[hr]at this;exact this.2.1
   have par:∀γ,hp γ≠none->((¬∃O,gn gv O=some γ)\/∃O hb aE,gn gv O=some γ/\aP O=true/\hp γ=some hb/\H O=some aE/\aE.e=hb.e/\hb.xs.length<=aE.xs.length)->xj ρ ρ' hp cy w w' γ:=λγ hk h=>by
    rcases h with h|⟨O,hb,aE,l1,l2,l3,l4,l5,l6⟩
    .exact(XK γ hk h).Ac
    .have jV:=e2 O γ l1 l2;refine⟨by rw[rs γ O jV];exact Io O γ l2 l1 (by simp[l4]),λoE hq=>?_⟩;rw[l3]at hq;cases hq;exact⟨aE,by rw[q1 γ O jV];exact l4,l5,l6,λb cap hr hc=>XB O γ b l2 l1 hr _ cap hc⟩
   refine bm.move a9 (λγ ak=>?_) (λγ ak=>par γ (zD.2 γ ak) (k3 γ (Kbd _ ak))) (λγ e ty xs e0=>XK γ (zD.2 γ (by rw[e0];simp[PV.aO])) (k4 γ e ty xs e0));have:=par γ (zD.1 γ ak) (k3 γ (KbF _ ak));exact⟨this.r,this.h⟩
  .subst k1;have hv:(xh tmps (some s) v).getD s undef=v:=by have:=hd s rfl;simp[xh,Array.getD,hs.sz,this]
   rw[hv,k2];have:=h2.cQ 0;exact Qj.iY (C':=C) (ρ':=ρ') (hp':=cy) this IH λO ao=>jX O (k3 O ao)
  .obtain⟨γ,e,ty,xs,hF⟩:=k2;rw[k3];have:=h2.cQ s';have e0:uf r F s'=F s':=by unfold uf;rw[if_neg Oz,if_neg Oz]
   rw[e0]at this;have h3:=Qj.iY (C':=C) (ρ':=ρ') (hp':=cy) this IH λO ao=>jX O (k4 O ao)
   rw[hF]at h3⊢;exact h3
def PU{aB H:HP}{gv:Nat->Option Nat}{F:Fr}{r:PV}{n:Nat}{hn:n<=1000000}{oT:Nat->Option Nat}(hs:Qt C ρ fr hp tmps w)(hh:uh C hp aB gv)
  (h2:Qt ((vK C ρ fr hp aB tmps w gv hs hh n hn).lL 1 (by decide)) oT (uf r F) H #[v] w') (h0:∀O,gn gv O=none):Ext di w w':=h2.ext.mono λb _ hb=>by
 rcases hb with⟨O,hr,hb⟩|⟨O,γ,h1,_,h3⟩
 .have hb:(if aP O=true then(gv O).bind ρ else none)=some b:=hb;have e:=(wY (gv:=gv) hr).symm;rw[e,h0 O]at hb;split at hb<;>cases hb
 .rw[h0 O]at h1;cases h1
end Go.FW
namespace Go.FW
open Go
variable {C : Ctx} {R : Qf} {fr : Fr} {hp : HP} {K : Qf}
variable{A0 A1 A2 A3 A4 p q:Prop}{P:Program}{Rr:PV -> Prop}{aQ args cap first:List PV}{b x:SC}{d:Option Nat}{f g:FuncId}{fn:Func}{n:Nat}{pr:Bool}{r:PV}{sf:ax}{sk:List It}
def eO(h:gu R sk:=by repeat (first|exact Hh|exact GY|exact GH|exact GN|exact GO|apply GX|apply Hg|apply Hu|apply HL|apply HM|apply GC)):gu R sk:=h
def okB(h:gu R sk:=by repeat (first|exact Hh|exact GY|exact GH|exact GN|exact GO|apply GX|apply Hg|apply Hu|apply HL|apply HM|apply GC|apply afI)):gu R sk:=h
def aF        {rs : List RV}  (hm : P.follows .mixedOrders = true) (hf : P.funcs[f]? = some fn) (hc : Qc P fn = some sf) (hv : ∀ C : Ctx, C.P = P -> vc C (gQ rs Rr) [.c b] (kJ args) aB) (he : sf = ⟨n, rs, b⟩ := by conv => lhs; whnf; try dsimp only [Zo, Zg, Zm, Zc, Zf, Zl, Zh, Zs, Zi, Zb, Zk, Zn, Zu, Zq, Zr, Zz, Ya, Yb, Yc, Yd, Ye, Yf, Yh, Yi, Yj, Yk, Yl, Ym, Yn, Yo, Yp, Yq, Yr, Ys, Yu, Yv, Yw, Yx, Yy, Yz, YA, YB, YC, YD, YE, YG, YH, YI, YJ, YK, YL, YM, YN, YO, YP, YQ, YS, YT, YU, YV, YW, YX, YY, YZ, dS, MZ, dp, cM, ew, uu, eA, iS, dH, nQ, cW, dq, qv, iB, dT, mX, my, rN, fe, fO, qw, pz, iC, iD, vP, jR, By, uk, Bz, kO, DV, kA, dW, eu, um, uo, eF, BA, jA, ic, mw, jm, iR, fb, fc, qu, fC, gz, sV, uq, BB, xw, jS, xx, xy, BC, mY, BD, mZ, sW, DW, BE, Nat.reduceAdd]) (nd : (fn.name != "runtime.NumGoroutine") = true := by exact rfl) (hn : args.length <= n /\ n <= 1000000 := by simp) : Qa P f args Rr := by subst he;exact tQ hm hf nd hc hn hv
def fnC       {rs : List RV}  (hm : P.follows .mixedOrders = true) (hf : P.funcs[f]? = some fn) (hv : ∀ C : Ctx, C.P = P -> vc C (gQ rs Rr) [.c b] (kJ args) aB) (hc : Qc P fn = some ⟨n, rs, b⟩ := by conv => lhs; cbv) (nd : (fn.name != "runtime.NumGoroutine") = true := by exact rfl) (hn : (Nat.ble args.length n && Nat.ble n 1000000) = true := by exact rfl) : Qa P f args Rr := by simp only[Kav,Nat.ble_eq]at hn;exact tQ hm hf nd hc hn hv
def Qy(hP:C.P=P)(h:Qa P g ((first++args++cap).map (Qr hp)) (· =r))(hK:K (dj fr d r) hp)(fm:((first++args++cap).map (Qr hp)).all PV.aJ=true:=by exact rfl)(hr:(first++args++cap).flatMap PV.refs=[]:=by exact rfl):eI C pr (.fn g first cap) args d fr hp K:=Qv hP h rfl fm hr hK
def Nz{a b:Nat}(h:(Nat.ble a b&&Nat.ble b 1000000)=true:=by exact rfl):a<=b/\b<=1000000:=by simp only[Kav,Nat.ble_eq]at h;exact h
def ay(hP:C.P=P)(h:Qa P g aQ (· =r))(hK:K (dj fr d r) hp)(e:p=eI C pr (.fn g first cap) args d fr hp K:=by conv=>lhs;simp+decide (disch:=try exact Dz0) only[go_sem])(ha:(first++args++cap).map (Qr hp)=aQ:=by exact rfl)(fm:aQ.all PV.aJ=true:=by exact rfl)(hr:(first++args++cap).flatMap PV.refs=[]:=by exact rfl):p:=(e).mpr (Qv hP h ha fm hr hK)
def gE(x0:A0)(hP:C.P=P)(h:Qa P g aQ (· =r))(hK:K (dj fr d r) hp)(e:A0->p=eI C pr (.fn g first cap) args d fr hp K:=by intro x0;conv=>lhs;simp+decide (disch:=try exact Dz1 @x0) only[go_sem,x0])(ha:(first++args++cap).map (Qr hp)=aQ:=by exact rfl)(fm:aQ.all PV.aJ=true:=by exact rfl)(hr:(first++args++cap).flatMap PV.refs=[]:=by exact rfl):p:=(e x0).mpr (Qv hP h ha fm hr hK)
def bE(x0:A0)(x1:A1)(hP:C.P=P)(h:Qa P g aQ (· =r))(hK:K (dj fr d r) hp)(e:A0->A1->p=eI C pr (.fn g first cap) args d fr hp K:=by intro x0 x1;conv=>lhs;simp+decide (disch:=try exact Dz2 @x0 @x1) only[go_sem,x0,x1])(ha:(first++args++cap).map (Qr hp)=aQ:=by exact rfl)(fm:aQ.all PV.aJ=true:=by exact rfl)(hr:(first++args++cap).flatMap PV.refs=[]:=by exact rfl):p:=(e x0 x1).mpr (Qv hP h ha fm hr hK)
def eL(x0:A0)(x1:A1)(x2:A2)(hP:C.P=P)(h:Qa P g aQ (· =r))(hK:K (dj fr d r) hp)(e:A0->A1->A2->p=eI C pr (.fn g first cap) args d fr hp K:=by intro x0 x1 x2;conv=>lhs;simp+decide (disch:=try exact Dz3 @x0 @x1 @x2) only[go_sem,x0,x1,x2])(ha:(first++args++cap).map (Qr hp)=aQ:=by exact rfl)(fm:aQ.all PV.aJ=true:=by exact rfl)(hr:(first++args++cap).flatMap PV.refs=[]:=by exact rfl):p:=(e x0 x1 x2).mpr (Qv hP h ha fm hr hK)
def gy(x0:A0)(x1:A1)(x2:A2)(x3:A3)(hP:C.P=P)(h:Qa P g aQ (· =r))(hK:K (dj fr d r) hp)(e:A0->A1->A2->A3->p=eI C pr (.fn g first cap) args d fr hp K:=by intro x0 x1 x2 x3;conv=>lhs;simp+decide (disch:=try exact Dz4 @x0 @x1 @x2 @x3) only[go_sem,x0,x1,x2,x3])(ha:(first++args++cap).map (Qr hp)=aQ:=by exact rfl)(fm:aQ.all PV.aJ=true:=by exact rfl)(hr:(first++args++cap).flatMap PV.refs=[]:=by exact rfl):p:=(e x0 x1 x2 x3).mpr (Qv hP h ha fm hr hK)
def kN(x0:A0)(x1:A1)(x2:A2)(x3:A3)(x4:A4)(hP:C.P=P)(h:Qa P g aQ (· =r))(hK:K (dj fr d r) hp)(e:A0->A1->A2->A3->A4->p=eI C pr (.fn g first cap) args d fr hp K:=by intro x0 x1 x2 x3 x4;conv=>lhs;simp+decide (disch:=try exact Dz5 @x0 @x1 @x2 @x3 @x4) only[go_sem,x0,x1,x2,x3,x4])(ha:(first++args++cap).map (Qr hp)=aQ:=by exact rfl)(fm:aQ.all PV.aJ=true:=by exact rfl)(hr:(first++args++cap).flatMap PV.refs=[]:=by exact rfl):p:=(e x0 x1 x2 x3 x4).mpr (Qv hP h ha fm hr hK)
def bD{P:Prop}{j:Decidable p}{y:SC}(h1:p->vc C R (.c x::sk) fr hp)(h2:¬p->vc C R (.c y::sk) fr hp)(e:P=mf C R (.bool (@decide p j)) x y sk fr hp:=by conv=>lhs;simp+decide (disch:=try exact Dz0) only[go_sem]):P:=e▸Qm h1 h2
def aZ{P:Prop}(x0:A0){j:Decidable p}{y:SC}(h1:p->vc C R (.c x::sk) fr hp)(h2:¬p->vc C R (.c y::sk) fr hp)(e:A0->P=mf C R (.bool (@decide p j)) x y sk fr hp:=by intro x0;conv=>lhs;simp+decide (disch:=try exact Dz1 @x0) only[go_sem,x0]):P:=(e x0)▸Qm h1 h2
def cH{P:Prop}(x0:A0)(x1:A1){j:Decidable p}{y:SC}(h1:p->vc C R (.c x::sk) fr hp)(h2:¬p->vc C R (.c y::sk) fr hp)(e:A0->A1->P=mf C R (.bool (@decide p j)) x y sk fr hp:=by intro x0 x1;conv=>lhs;simp+decide (disch:=try exact Dz2 @x0 @x1) only[go_sem,x0,x1]):P:=(e x0 x1)▸Qm h1 h2
def iq{P:Prop}(x0:A0)(x1:A1)(x2:A2){j:Decidable p}{y:SC}(h1:p->vc C R (.c x::sk) fr hp)(h2:¬p->vc C R (.c y::sk) fr hp)(e:A0->A1->A2->P=mf C R (.bool (@decide p j)) x y sk fr hp:=by intro x0 x1 x2;conv=>lhs;simp+decide (disch:=try exact Dz3 @x0 @x1 @x2) only[go_sem,x0,x1,x2]):P:=(e x0 x1 x2)▸Qm h1 h2
def cf{P:Prop}(h:P:=by simp+decide (disch:=try exact Dz0) only[go_sem];exact Qb rfl rfl):P:=h
def cC(h:q)(e:p=q:=by conv=>lhs;try dsimp only[Zo,Zg,Zm,Zc,Zf,Zl,Zh,Zs,Zi,Zb,Zk,Zn,Zu,Zq,Zr,Zz,Ya,Yb,Yc,Yd,Ye,Yf,Yh,Yi,Yj,Yk,Yl,Ym,Yn,Yo,Yp,Yq,Yr,Ys,Yu,Yv,Yw,Yx,Yy,Yz,YA,YB,YC,YD,YE,YG,YH,YI,YJ,YK,YL,YM,YN,YO,YP,YQ,YS,YT,YU,YV,YW,YX,YY,YZ,dS,MZ,dp,cM,ew,uu,eA,iS,dH,nQ,cW,dq,qv,iB,dT,mX,my,rN,fe,fO,qw,pz,iC,iD,vP,jR,By,uk,Bz,kO,DV,kA,dW,eu,um,uo,eF,BA,jA,ic,mw,jm,iR,fb,fc,qu,fC,gz,sV,uq,BB,xw,jS,xx,xy,BC,mY,BD,mZ,sW,DW,BE,Nat.reduceAdd]):p:=e▸h
end Go.FW
