/- Part 2 of the proof of InequalityPolys: FwP, FwQ, FwR, FwS, FwT, FwU, FwV, FwW, FwX, FwY, FwZ, FwBA, FwBB, FwBC, FwBD, FwBE, FwBF, FwBG, FwBH, FwCA, FwCB, FwCC, FwCD, FwCE, FwCF, FwCG, FwCH, FwCI, FwCJ, FwCK, FwCL, FwMA, FwMB, FwMC, FwPA, FwPB, FwPC, FwSA, FwSB, FwSC, FwTA, FwSet, FwSt, FwUB, FwNA, FwNB, FwND, FwNE. Own lemmas; no conditions. -/
import Derived.Test.YtikalonaompbdaaGreatInequalityPolysPart1
import Derived.LoopN
import Derived.ChangeSame
import Derived.ChangeStays
import Derived.Deep.Slices
import Derived.OpenShut
import Derived.RowKit
import Derived.ProofKit
import Derived.JoinedCond
set_option maxHeartbeats 1000000
set_option linter.all false
set_option maxRecDepth 100000
namespace Go.FW
open Go
variable {C : Ctx} {ρ : Nat -> Option Nat} {fr : Fr} {hp : HP} {w : World} {a : Act} {K R : Qf}
variable{P:Program}{c:aW}{fn:Func}{ops:Array Oper}{r:RT}{s x:SC}{sk:List It}{v:Value}
structure O'(C:Ctx)(R:Qf)(sk:List It)(Q:Exit->Act->World->Prop):Prop where
 z9:Next C (vc C R sk) Q
 ext:∀id fI,FW.cS id sk=some fI->∀fr hp (a:Act) w,a.defers=[]->eT C fr hp a.tmps w->vc C R fI fr hp->Q (.exit id) a w
 ret:∀fr hp (a:Act) w,a.defers=[]->eT C fr hp a.tmps w->R fr hp->Q .ret a w
def HR{y:SC}:vc C R (.c (.seq x y)::sk) fr hp=vc C R (.c x:: .c y::sk) fr hp:=by rw[vc]
def G6{id:Nat}:vc C R (.c (.block id x)::sk) fr hp=vc C R (.c x:: .eb id::sk) fr hp:=by rw[vc]
def HA:vc C R (.c .skip::sk) fr hp=vc C R sk fr hp:=by rw[vc]
def K5:vc C R (.c (.rg r)::sk) fr hp=vc C R (.o r::sk) fr hp:=by rw[vc]
def FM{id:Nat}:vc C R (.eb id::sk) fr hp=vc C R sk fr hp:=by rw[vc]
def yS{J:Qf}:vc C R (.el J::sk) fr hp=J fr hp:=by rw[vc]
def HS:vc C R (.c .ret::sk) fr hp=R fr hp:=by rw[vc]
def wW:vc C R [] fr hp=R fr hp:=by rw[vc]
def vC(c:PV)(A B:Prop):Prop:=match c with
 |.bool t=>(t=true->A)/\(t=false->B)
 |_=>False
def HC{y:SC}:vc C R (.c (.cond c x y)::sk) fr hp=vC (ev fr c) (vc C R (.c x::sk) fr hp) (vc C R (.c y::sk) fr hp):=by rw[vc];rfl
def yT(C:Ctx)(R:Qf)(sk:Option (List It))(fr:Fr)(hp:HP):Prop:=match sk with
 |some sk=>vc C R sk fr hp
 |none=>False
def HD{id:Nat}:vc C R (.c (.exit id)::sk) fr hp=yT C R (FW.cS id sk) fr hp:=by
 rw[vc];unfold yT;split
 .rename_i h;rw[h]
 .rename_i h;rw[h]
def At:vc C R (.c (.loop x)::sk) fr hp=∃(I:Qf)(μ:Fr->HP->Nat),(∃aX aB,Wk fr hp aX aB/\I aX aB)/\∀fr hp,I fr hp->vc C R (.c x:: .el (λaG hp'=>∃aX aB,Wk aG hp' aX aB/\I aX aB/\μ aX aB<μ fr hp)::sk) fr hp:=by rw[vc]
def Wk.refl(fr:Fr)(hp:HP):Wk fr hp fr hp:=λ_ _ _ h=>h
def Wk.trans{oB ij Ip:Fr}{iI cy pK:HP}(h:Wk oB iI ij cy)(k:Wk ij cy Ip pK):Wk oB iI Ip pK:=λC t w hs=>k C t w (h C t w hs)
def Bf(I:Qf)(μ:Fr->HP->Nat)(n:Nat):Qf:=λaG hp'=>∃aX aB,Wk aG hp' aX aB/\I aX aB/\μ aX aB<n
def aiP(I:Qf)(μ:Fr->HP->Nat){aX:Fr}{aB:HP}(hw:Wk fr hp aX aB)(h0:I aX aB)(h:∀fr hp,I fr hp->vc C R (.c x:: .el (Bf I μ (μ fr hp))::sk) fr hp):vc C R (.c (.loop x)::sk) fr hp:=by rw[At];exact⟨I,μ,⟨aX,aB,hw,h0⟩,h⟩
def afp(h:s.strip= .skip):s= .skip:=by cases s<;>simp[SC.strip]at h⊢
def agm(h:s.strip= .ret):s= .ret:=by cases s<;>simp[SC.strip]at h⊢
def ae4{id:Nat}(h:s.strip= .exit id):s= .exit id:=by cases s<;>simp[SC.strip]at h ⊢;exact h
def agn{id:Nat}(h:s.strip= .raw id ops):s= .raw id ops:=by cases s<;>simp[SC.strip]at h ⊢;exact h
def agQ{a b:SC}(h:s.strip= .seq a b):∃a' b',s= .seq a' b'/\a'.strip=a/\b'.strip=b:=by cases s<;>simp[SC.strip]at h;exact⟨_,_,rfl,h.1,h.2⟩
def ae5{a b:SC}(h:s.strip= .cond c a b):∃a' b',s= .cond c a' b'/\a'.strip=a/\b'.strip=b:=by
 cases s with
 |cond c' a' b'=>simp only[SC.strip,SC.cond.injEq]at h;obtain⟨rfl,h1,h2⟩:=h;exact⟨a',b',rfl,h1,h2⟩
 |_=>simp[SC.strip]at h
def Q8b{a:SC}{id:Nat}(h:s.strip= .block id a):∃a',s= .block id a'/\a'.strip=a:=by
 cases s with
 |block c' a'=>simp only[SC.strip,SC.block.injEq]at h;obtain⟨rfl,h1⟩:=h;exact⟨a',rfl,h1⟩
 |_=>simp[SC.strip]at h
def ae6{a:SC}(h:s.strip= .loop a):∃a',s= .loop a'/\a'.strip=a:=by
 cases s with
 |loop a'=>simp only[SC.strip,SC.loop.injEq]at h;exact⟨a',rfl,h⟩
 |_=>simp[SC.strip]at h
def Lz(hm:C.P.follows .mixedOrders=true):∀(c:Code)(s:SC)(sk:List It)(Q:Exit->Act->World->Prop)(fr:Fr)(hp:HP)(a:Act)(w:World),
  gX C.P C.N c=some s.strip->O' C R sk Q->a.defers=[]->eT C fr hp a.tmps w->vc C R (.c s::sk) fr hp->c.wp C.P Q a w:=by
 intro c;induction c with
 |skip=>intro s sk Q fr hp a w hc hL hd hs hv;simp only[gX,KaG]at hc;obtain rfl:=afp hc.symm;rw[HA]at hv;exact wp_skip (hL.z9 fr hp a w hd hs hv)
 | region id ops draw=>
  intro s sk Q fr hp a w hc hL hd hs hv;simp only[gX]at hc;split at hc
  .rename_i s' fS;rw[hc]at fS;exact Q4z hm hL.z9 fS hd hs hv
  .split at hc
   .rename_i xO;obtain rfl:=agn (Kbn hc).symm;have awM:draw=true:=xO;subst awM;rw[vc]at hv;obtain⟨tmps,defers⟩:=a;simp only at hd hs;subst hd;exact hv tmps w Q hs (λaG hp' yn w' fS qV=>hL.z9 aG hp' _ w' rfl fS qV)
   .cases hc
 |seq x y nq zX=>
  intro s sk Q fr hp a w hc hL hd hs hv;simp only[gX,Kab,Kaa]at hc;obtain⟨sx,hx,sy,hy,he⟩:=hc;obtain⟨sx,sy,rfl,rfl,rfl⟩:=agQ he.symm;rw[HR]at hv;refine wp_seq (nq sx (.c sy::sk) _ fr hp a w hx ⟨λfr hp a w hd hs hv=>?_,λid fI he fr hp a w hd hs hv=>?_,λfr hp a w hd hs hv=>?_⟩ hd hs hv)
  .exact zX sy sk Q fr hp a w hy hL hd hs hv
  .exact hL.ext id fI (by simpa[FW.cS]using he) fr hp a w hd hs hv
  .exact hL.ret fr hp a w hd hs hv
 | cond c x y nq zX=>
  intro s sk Q fr hp a w hc hL hd hs hv;simp only[gX,Kab,Kaa]at hc;obtain⟨pc,iJ,sx,hx,sy,hy,he⟩:=hc;obtain⟨sx,sy,rfl,rfl,rfl⟩:=ae5 he.symm;rw[HC]at hv;obtain⟨ρ,nY⟩:=hs;have hr:=dm nY iJ;unfold vC at hv;split at hv
  .rename_i t ht;rw[ht]at hr;exact wp_cond_split hr.BF (λh=>nq sx sk Q fr hp a w hx hL hd ⟨ρ,nY⟩ (hv.1 h)) (λh=>zX sy sk Q fr hp a w hy hL hd ⟨ρ,nY⟩ (hv.2 h))
  .exact hv.elim
 | block id x nq=>
  intro s sk Q fr hp a w hc hL hd hs hv;simp only[gX,Kaa]at hc;obtain⟨sx,hx,he⟩:=hc;obtain⟨sx,rfl,rfl⟩:=Q8b he.symm;rw[G6]at hv;refine wp_block (nq sx (.eb id::sk) _ fr hp a w hx ⟨λfr hp a w hd hs hv=>?_,λid' fI he fr hp a w hd hs hv=>?_,λfr hp a w hd hs hv=>?_⟩ hd hs hv)
  .rw[FM]at hv;exact hL.z9 fr hp a w hd hs hv
  .simp only[FW.cS]at he;simp only[Exit.inBlock];by_cases hi:id=id'
   .subst hi;simp only[if_true]at he ⊢;cases he;exact hL.z9 fr hp a w hd hs hv
   .rw[if_neg hi]at he;rw[if_neg (λe=>hi e.symm)];exact hL.ext id' fI he fr hp a w hd hs hv
  .exact hL.ret fr hp a w hd hs hv
 | loop x nq=>
  intro s sk Q fr hp a w hc hL hd hs hv;simp only[gX,Kaa]at hc;obtain⟨sx,hx,he⟩:=hc;obtain⟨sx,rfl,rfl⟩:=ae6 he.symm;rw[At]at hv;obtain⟨I,μ,⟨aX,aB,hwk,h0⟩,axN⟩:=hv;have key:∀(n:Nat)(fr:Fr)(hp:HP)(a:Act)(w:World),μ fr hp<n->I fr hp->a.defers=[]->eT C fr hp a.tmps w->Code.rounds C.P x Q n a w:=by
   intro n;induction n with
   |zero=>intro _ _ _ _ h;omega
   | succ n ih=>
    intro fr hp a w aA hI hd hs;rw[rounds_succ];refine nq sx _ _ fr hp a w hx ⟨λaG hp' a' w' wa fS qV=>?_,λid fI he fr hp a w hd hs hv=>?_,λfr hp a w hd hs hv=>?_⟩ hd hs (axN fr hp hI)
    .rw[yS]at qV;obtain⟨ij,cy,OI,hI2,zF⟩:=qV;exact ih ij cy a' w' Oz hI2 wa (OI _ _ _ fS)
    .exact hL.ext id fI (by simpa[FW.cS]using he) fr hp a w hd hs hv
    .exact hL.ret fr hp a w hd hs hv
  exact wp_loop_rounds (μ aX aB+1) (key _ aX aB a w (Kce _) h0 hd (hwk _ _ _ hs))
 | exit id=>
  intro s sk Q fr hp a w hc hL hd hs hv;simp only[gX,KaG]at hc;obtain rfl:=ae4 hc.symm;rw[HD]at hv;unfold yT at hv;split at hv
  .rename_i fI he;exact wp_exit (hL.ext id fI he fr hp a w hd hs hv)
  .exact hv.elim
 |ret=>intro s sk Q fr hp a w hc hL hd hs hv;simp only[gX,KaG]at hc;obtain rfl:=agm hc.symm;rw[HS]at hv;exact wp_ret (hL.ret fr hp a w hd hs hv)
 |_=>intro s sk Q fr hp a w hc;simp[gX]at hc
def LR(hm:C.P.follows .mixedOrders=true)(c:Code)(s:SC)(sk:List It)(Q:Exit->Act->World->Prop)(fr:Fr)(hp:HP)(a:Act)(w:World)
  (hc:gX C.P C.N c=some s) (hL:O' C R sk Q) (hd:a.defers=[]) (hs:eT C fr hp a.tmps w) (hv:vc C R (.c s::sk) fr hp):c.wp C.P Q a w:=
 Lz hm c s sk Q fr hp a w (by rw[UZ _ _ hc];exact hc) hL hd hs hv
def PV.oR:PV->PV->Prop
 |.aa,.sl _ []=>True
 |p,q=>p=q
def PV.Fm:List PV->List PV->Prop
 | [],[]=>True
 |p::ps,q::qs=>PV.oR p q/\PV.Fm ps qs
 |_,_=>False
def PV.le:PV->PV->Prop
 |.agg ps,.agg qs=>PV.Fm ps qs
 |p,q=>PV.oR p q
def PV.Fo:List PV->List PV->Prop
 | [],[]=>True
 |p::ps,q::qs=>PV.le p q/\PV.Fo ps qs
 |_,_=>False
def PV.yd:PV->PV->Prop
 |.aI ps,.aI qs=>PV.Fo ps qs
 |p,q=>PV.le p q
def tP(p:PV):PV.oR p p:=by cases p<;>first|rfl|(unfold PV.oR;split<;>trivial)
def QI:∀(l:List PV),PV.Fm l l
 | []=>trivial
 |p::ps=>⟨tP p,QI ps⟩
def Qi(p:PV):PV.le p p:=by cases p<;>first|exact QI _|(simp only[PV.le];exact tP _)
def QJ:∀(l:List PV),PV.Fo l l
 | []=>trivial
 |p::ps=>⟨Qi p,QJ ps⟩
def aiQ(p:PV):PV.yd p p:=by cases p<;>first|exact QJ _|(simp only[PV.yd];exact Qi _)
def Qn.le{X:Nat->Prop}{p q:PV}(h:Qn w X p v)(hl:PV.oR p q):Qn w X q v:=by
 unfold PV.oR at hl;split at hl
 .cases h;exact .ma _ _ _ (KbK _)
 .subst hl;exact h
def Sk:∀(ps qs:List PV),PV.Fm ps qs->qs.length=ps.length/\∀(i:Nat)(q:PV),qs[i]? =some q->∃p,ps[i]? =some p/\PV.oR p q
 | [],[],_=>⟨rfl,by simp⟩
 | [],_::_,h=>h.elim
 |_::_,[],h=>h.elim
 |p::ps,q::qs,h=>by
  obtain⟨h1,h2⟩:=Sk ps qs h.2;refine⟨by simp[h1],λi x hx=>?_⟩;cases i with
  |zero=>simp at hx;subst hx;exact⟨p,rfl,h.1⟩
  |succ i=>simp at hx;simpa using h2 i x hx
def MW:∀(ps qs:List PV),PV.Fo ps qs->qs.length=ps.length/\∀(i:Nat)(q:PV),qs[i]? =some q->∃p,ps[i]? =some p/\PV.le p q
 | [],[],_=>⟨rfl,by simp⟩
 | [],_::_,h=>h.elim
 |_::_,[],h=>h.elim
 |p::ps,q::qs,h=>by
  obtain⟨h1,h2⟩:=MW ps qs h.2;refine⟨by simp[h1],λi x hx=>?_⟩;cases i with
  |zero=>simp at hx;subst hx;exact⟨p,rfl,h.1⟩
  |succ i=>simp at hx;simpa using h2 i x hx
def bS.le{X:Nat->Prop}{p q:PV}{v:Value}(h:bS w X p v)(hl:PV.le p q):bS w X q v:=by
 by_cases hp:∃ps,p= .agg ps
 .obtain⟨ps,rfl⟩:=hp;by_cases hq:∃qs,q= .agg qs
  .obtain⟨qs,rfl⟩:=hq;obtain⟨h1,h2⟩:=Sk ps qs hl;obtain⟨vs,rfl,g1,g2⟩:=h;refine⟨vs,rfl,Oz,λi x hx=>?_⟩;obtain⟨p,hp,hle⟩:=h2 i x hx;exact(g2 i p hp).le hle
  .have:PV.oR (.agg ps) q:=by cases q<;>first|exact hl|exact absurd ⟨_,rfl⟩ hq
   have:q= .agg ps:=by
    unfold PV.oR at this;split at this
    .rename_i h1;cases h1
    .exact this.symm
   exact absurd ⟨_,this⟩ hq
 .have h1:Qn w X p v:=by cases p<;>first|exact h|exact absurd ⟨_,rfl⟩ hp
  have h2:PV.oR p q:=by cases p<;>first|exact hl|exact absurd ⟨_,rfl⟩ hp
  exact bS.tC (h1.le h2)
def gq.le{X:Nat->Prop}{p q:PV}{v:Value}(h:gq w X p v)(hl:PV.yd p q):gq w X q v:=by
 by_cases hp:∃ps,p= .aI ps
 .obtain⟨ps,rfl⟩:=hp;by_cases hq:∃qs,q= .aI qs
  .obtain⟨qs,rfl⟩:=hq;obtain⟨h1,h2⟩:=MW ps qs hl;obtain⟨vs,rfl,g1,g2⟩:=h;refine⟨vs,rfl,Oz,λi x hx=>?_⟩;obtain⟨p,hp,hle⟩:=h2 i x hx;exact(g2 i p hp).le hle
  .have:PV.le (.aI ps) q:=by cases q<;>first|exact hl|exact absurd ⟨_,rfl⟩ hq
   have:PV.oR (.aI ps) q:=this;have:q= .aI ps:=by
    unfold PV.oR at this;split at this
    .rename_i h1;cases h1
    .exact this.symm
   exact absurd ⟨_,this⟩ hq
 .have h1:bS w X p v:=by cases p<;>first|exact h|exact absurd ⟨_,rfl⟩ hp
  have h2:PV.le p q:=by cases p<;>first|exact hl|exact absurd ⟨_,rfl⟩ hp
  exact gq.of1 (h1.le h2)
def qk (P : Program) (f : FuncId) : Prop := (P.funcs[f]?).any (λfn => fn.body.isSome && fn.name != "runtime.NumGoroutine") = true
def Qa(P:Program)(f:FuncId)(args:List PV)(R:PV->Prop):Prop:=
 qk P f/\∀(w:World)(X:Nat->Prop)(aL:Array Value),(∀b,X b->b<w.heap.size)->aL.size=args.length->(∀(i:Nat)(x:PV),args[i]? =some x->bS w X x (aL.getD i undef))->
  Calls P f aL w λe w'=>∃v r,e= .returned v/\Ext di w w'/\gq w' X r v/\R r
def Qa.le{P:Program}{f:FuncId}{args args':List PV}{R:PV->Prop}(h:Qa P f args R)(hl:PV.Fo args' args):Qa P f args' R:=by obtain⟨h1,h2⟩:=MW _ _ hl;refine⟨h.1,λw X aL g1 g2 g3=>h.2 w X aL g1 Oz (λi x hx=>?_)⟩;obtain⟨p,hp,hle⟩:=h2 i x hx;exact(g3 i p hp).le hle
def kJ(args:List PV):Fr:=λi=>(args[i]?).getD .undef
def mI(fr:Fr)(hp:HP):RV->Prop
 |.t s=>(Qr hp (fr s)).aJ=true
 |.cell s n ag=>match fr s with
  |.mp O i o=>match hp O with
   |some hb=>i<hb.xs.length/\o+n<=hb.e/\(ag=false->n=1)
   |none=>False
  |_=>False
def lK(fr:Fr)(hp:HP):RV->PV
 |.t s=>Qr hp (fr s)
 |.cell s n ag=>match fr s with
  |.mp O i o=>match hp O with
   |some hb=>fg ag n o ((hb.xs[i]?).getD .undef)
   |none=>.undef
  |_=>.undef
def gQ(rs:List RV)(R:PV->Prop):Qf:=λfr hp=>match rs with
 | [r]=>mI fr hp r/\∃p,PV.le (lK fr hp r) p/\R p
 |rs=>(∀r∈rs,mI fr hp r)/\∃p,PV.yd (.aI (rs.map (lK fr hp))) p/\R p
def mi(tmps:Array Value):ResultVar->Sem Value
 |.tmp t=>pure (tmps.getD t undef)
 |.cell x t=>do loadVar t (<-asAddr (tmps.getD x undef))
def lr(fr:Fr):RV->List Nat
 |.t s=>(fr s).refs
 |.cell _ _ _=>[]
def QL{l l':List Nat}(h:∀O∈l,O∈l'){b:Nat}(hx:aM C ρ (Qu hp l') b):aM C ρ (Qu hp l) b:=by
 rcases hx with hx|⟨γ,hg,h1,h2,h3⟩
 .exact .inl hx
 .obtain⟨rS,g1,_,_,_,g5,g6⟩:=Cu h1;refine .inr ⟨γ,rS,?_,by rw[<-g5 h2];exact h2,h3⟩;have hn:γ ∉ l:=λhl=>g6 h2 (h γ hl)
  unfold Qu;rw[if_neg (by simpa using hn)];exact g1
def vd:Qu hp []=hp:=by funext O;simp[Qu]
def ae7{p:PV}(h:(Qr hp p).aJ=true):∀O∈p.refs,aP O=false:=by
 have h1:∀q:PV,(cA hp q).jH=true->∀O∈q.cm,aP O=false:=by
  intro q hq O ao;cases q with
  |mp γ i o=>simp only[PV.cm,Kax]at ao;subst ao;cases hy:aP O with
   |false=>rfl
   |true=>simp[cA,hy,PV.jH]at hq
  |aD γ o n=>simp only[PV.cm,Kax]at ao;subst ao;cases hy:aP O with
   |false=>rfl
   |true=>simp[cA,hy,PV.jH]at hq
  |rb=>simp[cA,PV.jH]at hq
  |_=>cases ao
 intro O ao;cases p with
 |mp γ i o=>exact h1 (.mp γ i o) (by cases hq:cA hp (.mp γ i o)<;>simp_all[Qr,PV.aJ,PV.jH]) O ao
 |aD γ o n=>exact h1 (.aD γ o n) (by cases hq:cA hp (.aD γ o n)<;>simp_all[Qr,PV.aJ,PV.jH]) O ao
 |rb=>simp[Qr,cA,PV.aJ]at h
 |fn f first cap=>
  simp only[Qr,PV.aJ,Kav,List.all_map,Kas]at h;rcases KaN.1 ao with ao|ao
  .obtain⟨x,hx,ao⟩:=Kat.1 ao;exact h1 x (h.1 x hx) O ao
  .obtain⟨x,hx,ao⟩:=Kat.1 ao;exact h1 x (h.2 x hx) O ao
 |_=>cases ao
def adR{rv:RV}(h:mI fr hp rv):∀O∈lr fr rv,aP O=false:=by
 cases rv with
 |t s=>exact ae7 h
 |cell=>intro O ao;cases ao
def QM(hP:C.P=P){r:ResultVar}{rv:RV}(hc:jv P r=some rv)(h:Qt C ρ fr hp a.tmps w)(ho:mI fr hp rv):
  ∃v,(mi a.tmps r).run P w= .ok v w/\bS w (aM C ρ (Qu hp (lr fr rv))) (lK fr hp rv) v:=by
 subst hP;cases r with
 |tmp t=>simp[jv]at hc;subst hc;exact⟨_,rfl,tO h (h.cQ t) (λO ao=>ao) ho⟩
 | cell x t=>
  simp only[jv,Kab,Kaa]at hc;obtain⟨n,hn,ag,lv,rfl⟩:=hc;have hx:=h.cQ x;simp only[mI]at ho;split at ho
  .rename_i O i o qL;rw[qL]at hx;split at ho
   .rename_i hb ao;obtain⟨h1,h2,h3⟩:=ho;obtain⟨b,hb2,g1,g2,g3⟩:=hx.B6;rw[ao]at g2;cases g2;have bP:=h.own O hb ao;have bu:=bP.du;rw[g1]at bu;obtain⟨_,nW,cur,cap,c1,c2,c3,c4,c5⟩:=bu;have gB:=Kae h1;have ff:=(bP.len i _ gB).1;have eY:i<cap:=Oz;have tk:∀j,j<n->i*hb.e+o+j<cur.size:=λj hj=>by rw[c2];exact o6 eY h2 hj
    have cN:=Ct (P:=C.P) (t:=t) (b:=b) (off:=i*hb.e+o) (vs:=Array.ofFn (n:=n) λj=>cur.getD (i*hb.e+o+j.val) undef) hn lv h3 (by simp) w
     (λj hj=>by rw[tK (f:=λj=>cur.getD (i*hb.e+o+j) undef) hj];exact nC c1 (tk j hj))
    obtain⟨V,hV⟩:∃V:Value,V=(if ag then .agg (Array.ofFn (n:=n) λj=>cur.getD (i*hb.e+o+j.val) undef)else(Array.ofFn (n:=n) λj=>cur.getD (i*hb.e+o+j.val) undef).getD 0 undef):=⟨_,rfl⟩
    rw[<-hV]at cN;refine⟨V,?_,?_⟩
    .simp only[mi,g3,asAddr,Kau,KaY,Kan];exact cN
    .have:bS w (aM C ρ hp) (fg ag n o (hb.xs[i]'h1)) (if ag then .agg (Array.ofFn (n:=n) λj=>cur.getD (i*hb.e+o+j.val) undef)else(Array.ofFn (n:=n) λj=>cur.getD (i*hb.e+o+j.val) undef).getD 0 undef):=
      Df (by simp) (by rw[ff];exact h2) h3 (λj y hj hy=>by rw[tK (f:=λj=>cur.getD (i*hb.e+o+j) undef) hj,Kb5];exact c5 i _ gB (o+j) y hy)
     simp only[lK,qL,ao,gB,Kbl];rw[hV];simp only[lr,vd];exact this
   .exact ho.elim
  .exact ho.elim
def Pr{P:Program}(hP:C.P=P)(h:Qt C ρ fr hp a.tmps w):∀(rl:List ResultVar)(rs:List RV),rl.mapM (jv P)=some rs->(∀r∈rs,mI fr hp r)->
  ∃vs:List Value,vs.length=rs.length/\(rl.mapM (mi a.tmps)).run P w= .ok vs w/\∀(i:Nat)(r:RV),rs[i]? =some r->∃v,vs[i]? =some v/\bS w (aM C ρ (Qu hp (rs.flatMap (lr fr)))) (lK fr hp r) v
 | [],rs,hc,_=>by simp at hc;subst hc;exact⟨[],rfl,by simp,by simp⟩
 | x::rl,rs,hc,ho=>by
  rw[Kb9]at hc;simp only[KbW,Kcc,Kab,KaG]at hc;obtain⟨r,hr,O2,cU,rfl⟩:=hc;obtain⟨v,h1,h2⟩:=QM hP hr h (ho r (by simp));obtain⟨vs,g1,g2,g3⟩:=Pr hP h rl O2 cU (λq hq=>ho q (by simp[hq]));refine⟨v::vs,by simp[g1],by simp[Kb9,Kau,h1,g2],λi q hq=>?_⟩;cases i with
  |zero=>simp at hq;subst hq;exact⟨v,rfl,h2.mono (λ_ _ _=>rfl) (λ_ _ hn hx=>hn (QL (λO ao=>by rw[Kal];exact KbF _ ao) hx)) (Kag _)⟩
  |succ i=>simp at hq;obtain⟨v',k1,k2⟩:=g3 i q hq;exact⟨v',by simpa using k1,k2.mono (λ_ _ _=>rfl) (λ_ _ hn hx=>hn (QL (λO ao=>by rw[Kal];exact Kbd _ ao) hx)) (Kag _)⟩
def LS(hP:C.P=P){rs:List RV}{Rr:PV->Prop}(hc:fn.results.toList.mapM (jv P)=some rs)(h:Qt C ρ fr hp a.tmps w)(hr:gQ rs Rr fr hp):
  ∃v r,(results fn a.tmps).run P w= .ok v w/\gq w (aM C ρ (Qu hp (rs.flatMap (lr fr)))) r v/\(∀O∈rs.flatMap (lr fr),aP O=false)/\Rr r:=by
 have bY:(∀r∈rs,mI fr hp r):=by
  intro r dO
  match rs,hr,dO with
  | [r0],hr,dO=>simp at dO;subst dO;exact hr.1
  | [],hr,dO=>cases dO
  |r0::r1::rest,hr,dO=>exact hr.1 r dO
 have hN:∀O∈rs.flatMap (lr fr),aP O=false:=λO ao=>by obtain⟨r,hr,ao⟩:=Kat.1 ao;exact adR (bY r hr) O ao
 obtain⟨vs,hlen,cN,BZ⟩:=Pr hP h _ rs hc bY;have gH:(results fn a.tmps).run P w= .ok (if h:vs.toArray.size=1 then vs.toArray[0]else .tuple vs.toArray) w:=by
  have e:results fn a.tmps=(do let vs<-fn.results.mapM (mi a.tmps);pure (if h:vs.size=1 then vs[0]else .tuple vs)):=rfl;rw[e,Kbv];simp only[Kau];have h2:(List.toArray<$>fn.results.toList.mapM (mi a.tmps):Sem (Array Value)).run P w= .ok vs.toArray w:=by simp[cN]
  rw[h2];rfl
 match rs,hr,hlen,BZ,hN with
 | [r0],hr,hlen,BZ,hN=>
  have h1:vs.toArray.size=1:=by simpa using hlen
  rw[dif_pos h1]at gH;obtain⟨v,h2,h3⟩:=BZ 0 r0 rfl;have e:vs.toArray[0]=v:=by
   have:vs[0]? =some (vs.toArray[0]):=by simp[hlen]
   rw[h2]at this;exact(Kbn this).symm
  rw[e]at gH;obtain⟨_,p,hle,Ep⟩:=hr;exact⟨_,_,gH,gq.of1 (h3.le hle),hN,Ep⟩
 | [],hr,hlen,BZ,hN=>
  have h1:¬vs.toArray.size=1:=by simp[hlen]
  rw[dif_neg h1]at gH;obtain⟨_,p,hle,Ep⟩:=hr;exact⟨_,_,gH,gq.le (p:=.aI []) ⟨vs.toArray,rfl,by simp[hlen],by simp⟩ hle,hN,Ep⟩
 |r0::r1::rest,hr,hlen,BZ,hN=>
  have h1:¬vs.toArray.size=1:=by simp[hlen]
  rw[dif_neg h1]at gH;obtain⟨_,p,hle,Ep⟩:=hr;refine⟨_,_,gH,gq.le (p:=.aI ((r0::r1::rest).map (lK fr hp))) ⟨vs.toArray,rfl,by simp[hlen],λi x hx=>?_⟩ hle,hN,Ep⟩;simp only[Kaw,Kaa]at hx;obtain⟨rv,hrv,rfl⟩:=hx;obtain⟨v,h2,h3⟩:=BZ i rv hrv;rw[yv,Kac,h2];exact h3
def Ps(hP:C.P=P){rs:List RV}{Rr:PV->Prop}(hc:fn.results.toList.mapM (jv P)=some rs)(h:Qt C ρ fr hp a.tmps w)(hr:gQ rs Rr fr hp):
  ∃v r,(results fn a.tmps).run P w= .ok v w/\gq w C.X0 r v/\Rr r:=by
 obtain⟨v,r,h1,h2,_,h3⟩:=LS hP hc h hr;exact⟨v,r,h1,h2.mono (λ_ _ _=>rfl) (λ_ _ hn hx=>hn (.inl hx)) (Kag _),h3⟩
def ae8(hP:C.P=P){rs:List RV}{Rr:PV->Prop}(hc:fn.results.toList.mapM (jv P)=some rs)(h:Qt C ρ fr hp a.tmps w)(hr:gQ rs Rr fr hp)
  {X:Nat->Prop} (hX:∀c,X c->C.X0 c\/∃O hb,aP O=true/\hp O=some hb/\hb.fz=false/\ρ O=some c):
  ∃v r,(results fn a.tmps).run P w= .ok v w/\gq w X r v/\Rr r:=by
 obtain⟨v,r,h1,h2,h3,h4⟩:=LS hP hc h hr;refine⟨v,r,h1,h2.mono (λ_ _ _=>rfl) (λc _ hn hx=>hn ?_) (Kag _),h4⟩;rcases hX c hx with hx|⟨O,hb,k1,k2,k3,k4⟩
 .exact .inl hx
 .refine .inr ⟨O,hb,?_,k3,k4⟩;have hn:O ∉ rs.flatMap (lr fr):=λhl=>by rw[h3 O hl]at k1;cases k1
  unfold Qu;rw[if_neg (by simpa using hn)];exact k2
def tQ  {f : FuncId}  {sf : ax} {args : List PV} {Rr : PV -> Prop} (hm : P.follows .mixedOrders = true) (hf : P.funcs[f]? = some fn) (nd : (fn.name != "runtime.NumGoroutine") = true) (hc : Qc P fn = some sf) (hn : args.length <= sf.n /\ sf.n <= 1000000)
  (hv:∀C:Ctx,C.P=P->vc C (gQ sf.rs Rr) [.c sf.body] (kJ args) aB):Qa P f args Rr:=by
 simp only[Qc,Kab,Kaa]at hc;obtain⟨c,hb,sb,iG,rs,cU,rfl⟩:=hc;refine⟨by simp[qk,hf,hb];simpa using nd,λw X aL hX fF iK=>?_⟩
 let C:Ctx:=Ctx.plain P fn.ntmps w X hX hn.2
 refine calls_of_wp hf hb ?_;have uP:(aL++Array.replicate (fn.ntmps-aL.size) undef).size=fn.ntmps:=by simp at hn ⊢;omega
 have qS:eT C (kJ args) aB (aL++Array.replicate (fn.ntmps-aL.size) undef) w:=by
  refine⟨λ_=>none,uP,Ext.refl _ _,(λ_ _ h=>by cases h),by simp[aB],by simp[aB],λi=>?_⟩;unfold kJ;cases hi:args[i]? with
  |none=>trivial
  | some p=>
   simp only[Kbl];have iU:i<aL.size:=by rw[fF];exact(Kah.1 hi).1
   have hr:=iK i p hi;have e:(aL++Array.replicate (fn.ntmps-aL.size) undef).getD i undef=aL.getD i undef:=by rw[lP,if_pos iU]
   rw[e];refine Qj.n7 (hr.mono (λ_ _ _=>rfl) (λb _ hn hx=>?_) (Kag _));rcases hx with hx|⟨_,_,h1,_⟩
   .exact hn hx
   .simp[aB]at h1
 have fin:∀(fr:Fr)(hp:HP)(a:Act)(w':World),a.defers=[]->eT C fr hp a.tmps w'->gQ rs Rr fr hp->
   a.defers=[]/\∃v,(results fn a.tmps).run P w'= .ok v w'/\∃v' r,Ending.returned v= .returned v'/\Ext di w w'/\gq w' X r v'/\Rr r:=by
  intro fr hp a w' hd ⟨ρ,hs⟩ hr;obtain⟨v,r,h1,h2,h3⟩:=Ps (C:=C) rfl cU hs hr;exact⟨hd,v,h1,v,r,rfl,Ctx.OZ hs.ext,h2,h3⟩
 exact LR (C:=C) (R:=gQ rs Rr) hm c sb [] _ (kJ args) aB _ w iG ⟨λfr hp a w' hd hs hv=>(by rw[wW]at hv;exact fin fr hp a w' hd hs hv),λid fI he=>(by simp[FW.cS]at he),fin⟩ rfl qS (hv C rfl)
end Go.FW
namespace Go.FW
open Go
variable {C : Ctx} {ρ : Nat -> Option Nat} {fr : Fr} {hp : HP} {w : World} {a : Act} {K R : Qf}
variable{P:Program}{b pr:Bool}{c:aW}{g:FuncId}{o:cZ}{p:Prop}{r:RT}{sk:List It}{tmps:Array Value}{v:Value}{x:SC}
def dj(fr:Fr)(d:Option Nat)(r:PV):Fr:=match d with|some d=>ae fr d r|none=>fr
def Qj.JD{p:PV}(h:gq w (aM C ρ hp) p v):Qj C ρ hp w p v:=by
 cases p with
 |aI ps=>exact h
 |_=>exact Qj.n7 h
def DA(h:Qt C ρ fr hp tmps w):∀b,aM C ρ hp b->b<w.heap.size:=by
 rintro b (hx|⟨O,hb,h1,_,h3⟩)
 .exact Kbj (C.IG b hx) h.ext.size
 .have:=(h.own O hb h1).du;rw[h3]at this;exact this.2.1
def Qt.JS{d:Option Nat}(h:Qt C ρ fr hp tmps w){p:PV}(hv:Qj C ρ hp w p v)(hd:∀x,d=some x->x<C.N):Qt C ρ (dj fr d p) hp (xh tmps d v) w:=by
 cases d with
 |some d=>exact h.ae hv (hd d rfl)
 |none=>exact h
def QN{first cap args:List PV}{fv cv av:Array Value}(hs:Qt C ρ fr hp tmps w)(h1:fv.size=first.length)(_h2:cv.size=cap.length)(h3:av.size=args.length)
  (pM:∀(i:Nat)(x:PV),first[i]? =some x->dy C ρ hp w x (fv.getD i undef)) (jX:∀(i:Nat)(x:PV),cap[i]? =some x->dy C ρ hp w x (cv.getD i undef)) (oJ:∀(i:Nat)(x:PV),args[i]? =some x->Qj C ρ hp w x (av.getD i undef))
  (fm:((first++args++cap).map (Qr hp)).all PV.aJ=true):
  ∀(i:Nat)(x:PV),((first++args++cap).map (Qr hp))[i]? =some x->bS w (aM C ρ (Qu hp ((first++args++cap).flatMap PV.refs))) x ((fv++av++cv).getD i undef):=by
 intro i x hx;rw[Kas]at fm;have lF:=fm x (Kaj hx);simp only[Kaw,Kaa]at hx;obtain⟨p,hp',rfl⟩:=hx;have eV:=Kaj hp';have hl:∀O∈p.refs,O∈(first++args++cap).flatMap PV.refs:=λO ao=>Kat.2 ⟨p,eV,ao⟩
 have toF:∀ {p:PV} {v:Value},dy C ρ hp w p v->(Qr hp p).aJ=true->Qj C ρ hp w p v:=by
  intro p v hr hd;cases p with
  |undef=>trivial
  |mp=>exact hr
  |aD=>exact hr
  |rb=>exact hr
  |np=>exact hr
  |aK=>exact hr
  |_=>exact Qj.n7 (bS.tC hr)
 rw[lP];rw[KaV]at hp';by_cases c1:i<(first++args).length
 .rw[if_pos c1]at hp';rw[if_pos (by simp only[Kb4,h1,h3];simpa using c1),lP];rw[KaV]at hp';by_cases c2:i<first.length
  .rw[if_pos c2]at hp';rw[if_pos Oz];exact tO hs (toF (pM i p hp') lF) hl lF
  .rw[if_neg c2]at hp';rw[if_neg Oz,h1];exact tO hs (oJ _ p hp') hl lF
 .rw[if_neg c1]at hp';have fF:(fv++av).size=(first++args).length:=by simp[h1,h3]
  rw[if_neg Oz,fF];exact tO hs (toF (jX _ p hp') lF) hl lF
def Pu(hP:C.P=P){first cap args aQ:List PV}{d:Option Nat}{Rr:PV->Prop}(h:Qa P g aQ Rr)(cF:(first++args++cap).map (Qr hp)=aQ)(fm:aQ.all PV.aJ=true)
  (hK:∀r,Rr r->K (dj fr d r) (Qu hp ((first++args++cap).flatMap PV.refs))):eI C pr (.fn g first cap) args d fr hp K:=by
 subst hP;refine⟨h.1,λρ tmps w fv cv av qI hs h1 h2 h3 pM jX oJ=>?_⟩;have hf:=hs.freeze ((first++args++cap).flatMap PV.refs);refine(h.2 w _ (fv++av++cv) (DA hf) (by rw[<-cF];simp[h1,h2,h3]) (by rw[<-cF];exact QN hs h1 h2 h3 pM jX oJ (by rw[cF];exact fm))).mono ?_;rintro e w' ⟨v,r,rfl,hx,hr,hRr⟩;exact⟨v,_,_,rfl,⟨ρ,(hf.grow hx).JS (Qj.JD hr) qI⟩,λ_=>hx,hK r hRr⟩
def ko(hP:C.P=P){first cap args aQ:List PV}{d:Option Nat}{r:PV}(h:Qa P g aQ (· =r))(cF:(first++args++cap).map (Qr hp)=aQ)(fm:aQ.all PV.aJ=true)
  (hK:K (dj fr d r) (Qu hp ((first++args++cap).flatMap PV.refs))):eI C pr (.fn g first cap) args d fr hp K:=
 Pu hP h cF fm (λ_ hr=>hr▸hK)
def PV.OQ:PV->Bool
 |.int .. | .bool _=>true
 |.aI ps=>ps.all λp=>match p with| .int .. | .bool _=>true|_=>false
 |_=>false
def aiR{X X':Nat->Prop}{p:PV}(hs:p.OQ=true)(h:gq w X p v):gq w X' p v:=by
 have one:∀(p:PV)(v:Value),(match p with| .int .. | .bool _=>true|_=>false:Bool)=true->bS w X p v->bS w X' p v:=by
  intro p v hs h;cases p with
  |int k n=>cases h;exact Qn.int k n
  |bool b=>cases h;exact Qn.bool b
  |_=>cases hs
 cases p with
 |int k n=>exact one (.int k n) v rfl h
 |bool b=>exact one (.bool b) v rfl h
 |aI ps=>obtain⟨vs,rfl,h1,h2⟩:=h;simp only[PV.OQ,Kas]at hs;exact⟨vs,rfl,h1,λi x hx=>one x _ (hs x (Kaj hx)) (h2 i x hx)⟩
 |_=>cases hs
def mf(C:Ctx)(R:Qf)(c:PV)(x y:SC)(sk:List It)(fr:Fr)(hp:HP):Prop:=vC c (vc C R (.c x::sk) fr hp) (vc C R (.c y::sk) fr hp)
def vQ(C:Ctx)(R:Qf)(x y:RT)(sk:List It)(fr:Fr)(hp:HP):Prop:=vc C R (.o x::sk) fr hp/\vc C R (.o y::sk) fr hp
def kt(C:Ctx)(p:PV)(s:Nat)(want:Bool)(o:cZ)(fr:Fr)(hp:HP)(K:Qf):Prop:=match p with
  |.bool t=>(t=want->bK C o (ae fr s (.bool want)) hp K)/\(t=(!want)->lS o (ae fr s (.bool !want)) hp K)
  |.aI []=>lS o fr hp K
  |_=>False
def Qm[Decidable p]{y:SC}(h1:p->vc C R (.c x::sk) fr hp)(h2:¬p->vc C R (.c y::sk) fr hp):mf C R (.bool (decide p)) x y sk fr hp:=
 ⟨λh=>h1 (of_decide_eq_true h),λh=>h2 (of_decide_eq_false h)⟩
def CS{y:SC}(h1:b=true->vc C R (.c x::sk) fr hp)(h2:b=false->vc C R (.c y::sk) fr hp):mf C R (.bool b) x y sk fr hp:=⟨h1,h2⟩
def fJ{p:Prop}[Decidable p]{s:Nat}{o:cZ}(h1:p->kt C (.bool true) s true o (ae fr s (.bool true)) hp K)(h2:¬p->kt C (.bool false) s true o (ae fr s (.bool false)) hp K):kt C (.bool (decide p)) s true o fr hp K:=by
 have hu:∀(b:Bool),ae (ae fr s (.bool b)) s (.bool b)=ae fr s (.bool b):=λb=>by funext i;unfold ae;split<;>rfl
 refine⟨λh=>?_,λh=>?_⟩
 .have:=(h1 (of_decide_eq_true h)).1 rfl
  rwa[hu]at this
 .have:=(h2 (of_decide_eq_false h)).2 rfl
  rwa[show(!true)=false from rfl,hu]at this
def Qo[Decidable p]{s:Nat}(h1:p->kt C (.bool true) s false o (ae fr s (.bool true)) hp K)(h2:¬p->kt C (.bool false) s false o (ae fr s (.bool false)) hp K):kt C (.bool (decide p)) s false o fr hp K:=by
 have hu:∀(b:Bool),ae (ae fr s (.bool b)) s (.bool b)=ae fr s (.bool b):=λb=>by funext i;unfold ae;split<;>rfl
 refine⟨λh=>?_,λh=>?_⟩
 .have:=(h2 (of_decide_eq_false h)).1 rfl
  rwa[hu]at this
 .have:=(h1 (of_decide_eq_true h)).2 rfl
  rwa[show(!false)=true from rfl,hu]at this
def Au{want:Bool}{s:Nat}(h1:b=true->kt C (.bool true) s want o (ae fr s (.bool true)) hp K)(h2:b=false->kt C (.bool false) s want o (ae fr s (.bool false)) hp K):kt C (.bool b) s want o fr hp K:=by
 have:= @fJ C fr hp K (b=true) _ s o;have e:b=decide (b=true):=by cases b<;>rfl
 rw[e];cases want with
 |true=>exact fJ h1 (λh=>h2 (by simpa using h))
 |false=>exact Qo h1 (λh=>h2 (by simpa using h))
def ail{y:SC}:vc C R (.c (.cond c x y)::sk) fr hp=mf C R (ev fr c) x y sk fr hp:=HC
def apY{x y:RT}:vc C R (.o (.br x y)::sk) fr hp=vQ C R x y sk fr hp:=Us
def apq:vc C R (.o (.o none o r)::sk) fr hp=bK C o fr hp (vc C R (.o r::sk)):=DK
def apr{s:Nat}:vc C R (.o (.o (some (s,b)) o r)::sk) fr hp=kt C (fr s) s b o fr hp (vc C R (.o r::sk)):=DK
def vcs:
  (∀(C:Ctx)(R:Qf)(sk:List It)(x y:SC)(fr:Fr)(hp:HP),vc C R (.c (.seq x y)::sk) fr hp=vc C R (.c x:: .c y::sk) fr hp)/\
  (∀(C:Ctx)(R:Qf)(sk:List It)(id:Nat)(x:SC)(fr:Fr)(hp:HP),vc C R (.c (.block id x)::sk) fr hp=vc C R (.c x:: .eb id::sk) fr hp)/\
  (∀(C:Ctx)(R:Qf)(sk:List It)(fr:Fr)(hp:HP),vc C R (.c .skip::sk) fr hp=vc C R sk fr hp)/\
  (∀(C:Ctx)(R:Qf)(sk:List It)(r:RT)(fr:Fr)(hp:HP),vc C R (.c (.rg r)::sk) fr hp=vc C R (.o r::sk) fr hp)/\
  (∀(C:Ctx)(R:Qf)(sk:List It)(id:Nat)(fr:Fr)(hp:HP),vc C R (.eb id::sk) fr hp=vc C R sk fr hp)/\
  (∀(C:Ctx)(R:Qf)(sk:List It)(J:Qf)(fr:Fr)(hp:HP),vc C R (.el J::sk) fr hp=J fr hp)/\
  (∀(C:Ctx)(R:Qf)(sk:List It)(fr:Fr)(hp:HP),vc C R (.c .ret::sk) fr hp=R fr hp)/\
  (∀(C:Ctx)(R:Qf)(fr:Fr)(hp:HP),vc C R [] fr hp=R fr hp)/\
  (∀(C:Ctx)(R:Qf)(sk:List It)(c:aW)(x y:SC)(fr:Fr)(hp:HP),vc C R (.c (.cond c x y)::sk) fr hp=mf C R (ev fr c) x y sk fr hp)/\
  (∀(C:Ctx)(R:Qf)(sk:List It)(id:Nat)(fr:Fr)(hp:HP),vc C R (.c (.exit id)::sk) fr hp=yT C R (FW.cS id sk) fr hp)/\
  (∀(C:Ctx)(R:Qf)(sk:List It)(fr:Fr)(hp:HP),vc C R (.o .nil::sk) fr hp=vc C R sk fr hp)/\
  (∀(C:Ctx)(R:Qf)(sk:List It)(o:cZ)(r:RT)(fr:Fr)(hp:HP),vc C R (.o (.o none o r)::sk) fr hp=bK C o fr hp (vc C R (.o r::sk)))/\
  (∀(C:Ctx)(R:Qf)(sk:List It)(s:Nat)(b:Bool)(o:cZ)(r:RT)(fr:Fr)(hp:HP),vc C R (.o (.o (some (s,b)) o r)::sk) fr hp=kt C (fr s) s b o fr hp (vc C R (.o r::sk)))/\
  (∀(C:Ctx)(R:Qf)(sk:List It)(x y:RT)(fr:Fr)(hp:HP),vc C R (.o (.br x y)::sk) fr hp=vQ C R x y sk fr hp)/\
  (∀(C:Ctx)(R:Qf)(x y:SC)(sk:List It)(fr:Fr)(hp:HP),mf C R (.bool true) x y sk fr hp=vc C R (.c x::sk) fr hp)/\
  (∀(C:Ctx)(R:Qf)(x y:SC)(sk:List It)(fr:Fr)(hp:HP),mf C R (.bool false) x y sk fr hp=vc C R (.c y::sk) fr hp)/\
  (∀(C:Ctx)(R:Qf)(sk:List It)(fr:Fr)(hp:HP),yT C R (some sk) fr hp=vc C R sk fr hp)/\
  (∀(id:Nat)(s:SC)(sk:List It),FW.cS id (.c s::sk)=FW.cS id sk)/\
  (∀(id:Nat)(r:RT)(sk:List It),FW.cS id (.o r::sk)=FW.cS id sk)/\
  (∀(id:Nat)(J:Qf)(sk:List It),FW.cS id (.el J::sk)=FW.cS id sk)/\
  (∀(id i:Nat)(sk:List It),FW.cS id (.eb i::sk)=if i=id then some sk else FW.cS id sk)/\
  (∀(C:Ctx)(s:Nat)(o:cZ)(fr:Fr)(hp:HP)(K:Qf),kt C (.bool true) s true o fr hp K=bK C o (ae fr s (.bool true)) hp K)/\
  (∀(C:Ctx)(s:Nat)(o:cZ)(fr:Fr)(hp:HP)(K:Qf),kt C (.bool false) s true o fr hp K=lS o (ae fr s (.bool false)) hp K)/\
  (∀(C:Ctx)(s:Nat)(o:cZ)(fr:Fr)(hp:HP)(K:Qf),kt C (.bool true) s false o fr hp K=lS o (ae fr s (.bool true)) hp K)/\
  (∀(C:Ctx)(s:Nat)(o:cZ)(fr:Fr)(hp:HP)(K:Qf),kt C (.bool false) s false o fr hp K=bK C o (ae fr s (.bool false)) hp K)/\
  (∀(C:Ctx)(s:Nat)(b:Bool)(o:cZ)(fr:Fr)(hp:HP)(K:Qf),kt C (.aI []) s b o fr hp K=lS o fr hp K):=by
 refine⟨λ_ _ _ _ _ _ _=>HR,λ_ _ _ _ _ _ _=>G6,λ_ _ _ _ _=>HA,λ_ _ _ _ _ _=>K5,λ_ _ _ _ _ _=>FM,λ_ _ _ _ _ _=>yS,λ_ _ _ _ _=>HS,λ_ _ _ _=>wW,λ_ _ _ _ _ _ _ _=>ail,
  λ_ _ _ _ _ _=>HD,λ_ _ _ _ _=>Dx,λ_ _ _ _ _ _ _=>apq,λ_ _ _ _ _ _ _ _ _=>apr,λ_ _ _ _ _ _ _=>apY,λ_ _ _ _ _ _ _=>?_,λ_ _ _ _ _ _ _=>?_,λ_ _ _ _ _=>rfl,λ_ _ _=>rfl,λ_ _ _=>rfl,λ_ _ _=>rfl,λ_ _ _=>rfl,?_,?_,?_,?_,λ_ _ _ _ _ _ _=>rfl⟩
 .simp[mf,vC]
 .simp[mf,vC]
 all_goals intros;simp[kt]
end Go.FW
namespace Go.FW
open Go
variable {C : Ctx} {fr : Fr} {hp : HP} {K R : Qf}
variable{L m n:Int}{O by_ d e o ty:Nat}{ag:Bool}{k:IntKind}{p v x z:PV}{xs ys:List PV}
def yD(h1: -9223372036854775808<=n)(h2:n<=9223372036854775807):IntKind.i64.wrap n=n:=by rw[IntKind.wrap_i64];omega
def aim(h1: -2147483648<=n)(h2:n<=2147483647):IntKind.i32.wrap n=n:=by rw[IntKind.wrap_i32];omega
def vf(h1:0<=n)(h2:n<=18446744073709551615):IntKind.u64.wrap n=n:=by rw[IntKind.wrap_u64];omega
def Hc(h1:0<=n)(h2:n<=4294967295):IntKind.u32.wrap n=n:=by rw[IntKind.wrap_u32];omega
def ain(h1:0<=n)(h2:n<=65535):IntKind.u16.wrap n=n:=by simp only[IntKind.wrap,IntKind.bits,IntKind.signed];simp;omega
def alf(h1:0<=n)(h2:n<=255):IntKind.u8.wrap n=n:=by rw[IntKind.wrap_u8];omega
def alg{x y:Int}(h:0<=x):x.tdiv y=x/y:=Int.tdiv_eq_ediv_of_nonneg h
def ak1{x y:Int}(h:0<=x):x.tmod y=x%y:=Int.tmod_eq_emod_of_nonneg h
def lI(hb:Option HB)(n:Nat)(ag:Bool)(i o:Nat)(d:Nat)(fr:Fr)(hp:HP)(K:Qf):Prop:=match hb with
 |some hb=>∃h:i<hb.xs.length,o+n<=hb.e/\(ag=false->n=1)/\K (ae fr d (fg ag n o (hb.xs[i]'h))) hp
 |none=>False
def stM (hb:Option HB) (O:Nat) (n:Nat) (i o:Nat) (v:PV) (fr:Fr) (hp:HP) (K:Qf):Prop:=match hb with
  |some hb=>hb.fz=false/\v.aJ=true/\v.cells.length=n/\∃h:i<hb.xs.length,o+n<=hb.e/\
        K fr (Qg hp O { hb with xs:=hb.xs.set i (if n=hb.e then v else uX (hb.xs[i]'h) o v) })
  |none=>False
def za(R:PV->Prop)(p:PV):Prop:=p.aJ=true/\∃q,PV.le p q/\R q
def Qb{r:PV}(h:p=r)(hd:r.aJ=true):za (· =r) p:=by subst h;exact⟨hd,_,Qi _,rfl⟩
def od{r:PV}(h:PV.le p r)(hd:p.aJ=true):za (· =r) p:=⟨hd,_,h,rfl⟩
def Sl{n:Nat}{fz:Bool}(h:o+n<=e)(ha:ag=false->n=1):lI (some ⟨e,ty,[x],fz⟩) n ag 0 o d fr hp K=K (ae fr d (fg ag n o x)) hp:=by simp[lI,h];intro _;exact ha
def ry{n i:Nat}{fz:Bool}(h:i<xs.length)(h1:o+n<=e)(ha:ag=false->n=1):lI (some ⟨e,ty,xs,fz⟩) n ag i o d fr hp K=K (ae fr d (fg ag n o (xs[i]'h))) hp:=by simp[lI,h,h1];intro _;exact ha
def aps{n i:Nat}(h:i<xs.length)(hv:v.aJ=true)(hl:v.cells.length=n)(h1:o+n<=e):stM (some ⟨e,ty,xs,false⟩) O n i o v fr hp K=K fr (Qg hp O ⟨e,ty,xs.set i (if n=e then v else uX (xs[i]'h) o v),false⟩):=by simp[stM,h,h1,hv,hl]
def va{n i:Nat}(h:i<xs.length)(hv:v.aJ=true)(hl:v.cells.length=n):stM (some ⟨n,ty,xs,false⟩) O n i 0 v fr hp K=K fr (Qg hp O ⟨n,ty,xs.set i v,false⟩):=by rw[aps h hv hl Oz];simp
def KD(h0:0<=m)(h:m<xs.length):ej e (.sl e xs) (.int k m) d fr hp K=K (ae fr d (.pt (xs[m.toNat]'Oz).cells)) hp:=by have:m.toNat<xs.length:=Oz;simp[ej,h0,this]
def yJ{α:Type}{f:α->PV}{xs:List α}(h0:0<=m)(h:m<xs.length):ej e (.sl e (xs.map f)) (.int k m) d fr hp K=K (ae fr d (.pt (f (xs[m.toNat]'Oz)).cells)) hp:=by rw[KD h0 (by simpa using h)];simp
def HT{n:Nat}(h0:0<=m)(h:m<n)(he:(hp O).map (·.e)=some e):ej e (.aD O o n) (.int k m) d fr hp K=K (ae fr d (.mp O (o+m.toNat) 0)) hp:=by have:m.toNat<n:=Oz;simp[ej,h0,this,he]
def FN{k':IntKind}{Cc:Int}(h0:0<e)(hz:z.cells.length=e)(h1:0<=L)(h2:L<=Cc)(h3:by_*Cc<=281474976710656)(h4:Cc<=9223372036854775807):
  pR e by_ ty z (.int k L) (.int k' Cc) d fr hp K=K (ae (cI d fr) d (.ms d L.toNat)) (Qg hp d ⟨e,ty,List.replicate L.toNat z,false⟩):=by
 simp[pR,h0,hz,h1,h2,h3,h4]
def apt{n m:Nat}(hB:aP O=true):fM n ty (.aD O o m) d fr hp K=K (ae fr d (.rb O o m)) hp:=by simp[fM,hB]
def adS{m:Nat}:gU 1 false (.rb O o m) d fr hp K=K (ae fr d (.aD O o m)) hp:=by simp[gU]
def LU(hs:kI hp x=some (e,ys))(h0:0<e)(h1:ys.length*by_<=140737488355328)(h2:ys.length<=9223372036854775807):
  jO e by_ ty .aa x d fr hp K=K (ae (cI d fr) d (.ms d ys.length)) (Qg hp d ⟨e,ty,ys,false⟩):=by
 simp[jO,hs,h0,h1,h2]
def GA{n:Nat}(hs:kI hp x=some (e,ys))(hb:hp O=some ⟨e,ty,xs,false⟩)(h0:0<e)(hn:n<=xs.length)(h1:(n+ys.length)*by_<=140737488355328)(h2:n+ys.length<=9223372036854775807)(hB:bN O=false:=by decide):
  jO e by_ ty (.ms O n) x d fr hp K=K (ae (cI O fr) d (.ms O (n+ys.length))) (Qg hp O ⟨e,ty,xs.take n++ys,false⟩):=by
 simp[jO,hs,hb,h0,hn,h1,h2,hB]
def K3{lo hi:Option PV}{H:Int}(h1:jL 0 lo=some L)(h2:jL xs.length hi=some H)(h3:0<=L)(h4:L<=H)(h5:H<=xs.length):
  jI e (.sl e xs) lo hi none d fr hp K=K (ae fr d (.sl e ((xs.take H.toNat).drop L.toNat))) hp:=by
 have hM:jL (xs.length) none=some (xs.length:Int):=rfl;simp only[jI,h1,h2,hM];simp[h3,h4,h5]
def adT{H:Int}(h4:0<=H)(h5:H<=xs.length):
  jI e (.sl e xs) none (some (.int k H)) none d fr hp K=K (ae fr d (.sl e (xs.take H.toNat))) hp:=by
 rw[K3 (L:=0) (H:=H) rfl rfl Oz h4 h5];simp
def adU(h4:0<=L)(h5:L<=xs.length):
  jI e (.sl e xs) (some (.int k L)) none none d fr hp K=K (ae fr d (.sl e (xs.drop L.toNat))) hp:=by
 rw[K3 (L:=L) (H:=xs.length) rfl rfl h4 h5 Oz];simp
def ayy:
  (∀(C:Ctx)(d:Nat)(x:aW)(fr:Fr)(hp:HP)(K:Qf),bK C (.mv d x) fr hp K=K (ae fr d (ev fr x)) hp)/\
  (∀(C:Ctx)(d:Nat)(c a b:aW)(fr:Fr)(hp:HP)(K:Qf),bK C (.pick d c a b) fr hp K=vB (ev fr c) (ev fr a) (ev fr b) d fr hp K)/\
  (∀(C:Ctx)(d:Nat)(op:BinOp)(bt:Bool)(a b:aW)(fr:Fr)(hp:HP)(K:Qf),bK C (.bin d op bt a b) fr hp K=cJ op bt (ev fr a) (ev fr b) d fr hp K)/\
  (∀(C:Ctx)(d:Nat)(op:UnOp)(a:aW)(fr:Fr)(hp:HP)(K:Qf),bK C (.un d op a) fr hp K=yo op (ev fr a) d fr hp K)/\
  (∀(C:Ctx)(d:Nat)(k:IntKind)(a:aW)(fr:Fr)(hp:HP)(K:Qf),bK C (.conv d k a) fr hp K=yQ k (ev fr a) d fr hp K)/\
  (∀(C:Ctx)(d:Nat)(a:aW)(fr:Fr)(hp:HP)(K:Qf),bK C (.len d a) fr hp K=rG (ev fr a) d fr hp K)/\
  (∀(C:Ctx)(d:Nat)(a b:aW)(fr:Fr)(hp:HP)(K:Qf),bK C (.mx d a b) fr hp K=z7 (ev fr a) (ev fr b) d fr hp K)/\
  (∀(C:Ctx)(d:Nat)(ng:Bool)(a:aW)(fr:Fr)(hp:HP)(K:Qf),bK C (.zY d ng a) fr hp K=ue ng (ev fr a) d fr hp K)/\
  (∀(C:Ctx)(d:Nat)(a b:aW)(fr:Fr)(hp:HP)(K:Qf),bK C (.mn d a b) fr hp K=z5 (ev fr a) (ev fr b) d fr hp K)/\
  (∀(C:Ctx)(d e:Nat)(a b:aW)(fr:Fr)(hp:HP)(K:Qf),bK C (.idx d e a b) fr hp K=ej e (ev fr a) (ev fr b) d fr hp K)/\
  (∀(C:Ctx)(d n e:Nat)(a b:aW)(fr:Fr)(hp:HP)(K:Qf),bK C (.qW d n e a b) fr hp K=rB n e (ev fr a) (ev fr b) d fr hp K)/\
  (∀(C:Ctx)(d n e:Nat)(ag:Bool)(a b:aW)(fr:Fr)(hp:HP)(K:Qf),bK C (.B3 d n e ag a b) fr hp K=xf n e ag (ev fr a) (ev fr b) d fr hp K)/\
  (∀(C:Ctx)(d off:Nat)(a:aW)(fr:Fr)(hp:HP)(K:Qf),bK C (.dI d off a) fr hp K=qp off (ev fr a) d fr hp K)/\
  (∀(C:Ctx)(d off n:Nat)(ag:Bool)(a:aW)(fr:Fr)(hp:HP)(K:Qf),bK C (.BJ d off n ag a) fr hp K=tW off n ag (ev fr a) d fr hp K)/\
  (∀(C:Ctx)(d n:Nat)(ag:Bool)(a:aW)(fr:Fr)(hp:HP)(K:Qf),bK C (.ld d n ag a) fr hp K=gU n ag (ev fr a) d fr hp K)/\
  (∀(C:Ctx)(n:Nat)(a b:aW)(fr:Fr)(hp:HP)(K:Qf),bK C (.st n a b) fr hp K=pV n (ev fr a) (ev fr b) fr hp K)/\
  (∀(C:Ctx)(d n ty:Nat)(a:aW)(fr:Fr)(hp:HP)(K:Qf),bK C (.box d n ty a) fr hp K=fM n ty (ev fr a) d fr hp K)/\
  (∀(C:Ctx)(d n ty:Nat)(z:PV)(fr:Fr)(hp:HP)(K:Qf),bK C (.alloc d n ty z) fr hp K=fM n ty z d fr hp K)/\
  (∀(C:Ctx)(d e by_ ty:Nat)(z:PV)(l c:aW)(fr:Fr)(hp:HP)(K:Qf),bK C (.mk d e by_ ty z l c) fr hp K=pR e by_ ty z (ev fr l) (ev fr c) d fr hp K)/\
  (∀(C:Ctx)(d e ty:Nat)(ps:List aW)(fr:Fr)(hp:HP)(K:Qf),bK C (.bs d e ty ps) fr hp K=oz e ty (ps.map (ev fr)) d fr hp K)/\
  (∀(C:Ctx)(d e by_ ty:Nat)(a b:aW)(fr:Fr)(hp:HP)(K:Qf),bK C (.app d e by_ ty a b) fr hp K=jO e by_ ty (ev fr a) (ev fr b) d fr hp K)/\
  (∀(C:Ctx)(d e:Nat)(a b:aW)(fr:Fr)(hp:HP)(K:Qf),bK C (.vT d e a b) fr hp K=sP e (ev fr a) (ev fr b) d fr hp K)/\
  (∀(C:Ctx)(d e:Nat)(a:aW)(l h m:Option aW)(fr:Fr)(hp:HP)(K:Qf),bK C (.sl d e a l h m) fr hp K=jI e (ev fr a) (l.map (ev fr)) (h.map (ev fr)) (m.map (ev fr)) d fr hp K)/\
  (∀(C:Ctx)(d:Nat)(a:aW)(i:Nat)(fr:Fr)(hp:HP)(K:Qf),bK C (.ext d a i) fr hp K=ou (ev fr a) i d fr hp K)/\
  (∀(C:Ctx)(d:Nat)(z:List PV)(ps:List (Nat×Nat×aW))(fr:Fr)(hp:HP)(K:Qf),bK C (.cD d z ps) fr hp K=nJ z (ps.map λp=>(p.1,p.2.1,ev fr p.2.2)) d fr hp K)/\
  (∀(C:Ctx)(d f:Nat)(x y:List aW)(fr:Fr)(hp:HP)(K:Qf),bK C (.fn d f x y) fr hp K=((x.map (ev fr)++y.map (ev fr)).all PV.nr=true/\K (ae fr d (.fn f (x.map (ev fr)) (y.map (ev fr)))) hp))/\
  (∀(C:Ctx)(d:Option Nat)(pr:Bool)(f:aW)(W6:List aW)(fr:Fr)(hp:HP)(K:Qf),bK C (.call d pr f W6) fr hp K=eI C pr (ev fr f) (W6.map (ev fr)) d fr hp K)/\
  (∀(C:Ctx)(d:Option Nat)(x:aW)(fr:Fr)(hp:HP)(K:Qf),bK C (.B7 d x) fr hp K=yR (ev fr x) d fr hp K)/\
  (∀(fr:Fr)(n:Nat),ev fr (.t n)=fr n)/\(∀(fr:Fr)(p:PV),ev fr (.c p)=p):=by
 refine⟨?_,?_,?_,?_,?_,?_,?_,?_,?_,?_,?_,?_,?_,?_,?_,?_,?_,?_,?_,?_,?_,?_,?_,?_,?_,?_,?_,?_,?_,?_⟩<;>intros<;>rfl
def ayz:
  (∀(bt:Bool)(k:IntKind)(x y:Int)(d:Nat)(fr:Fr)(hp:HP)(K:Qf),cJ .add bt (.int k x) (.int k y) d fr hp K=K (ae fr d (.int k (k.wrap (x+y)))) hp)/\
  (∀(bt:Bool)(k:IntKind)(x y:Int)(d:Nat)(fr:Fr)(hp:HP)(K:Qf),cJ .sub bt (.int k x) (.int k y) d fr hp K=K (ae fr d (.int k (k.wrap (x-y)))) hp)/\
  (∀(bt:Bool)(k:IntKind)(x y:Int)(d:Nat)(fr:Fr)(hp:HP)(K:Qf),cJ .mul bt (.int k x) (.int k y) d fr hp K=K (ae fr d (.int k (k.wrap (x*y)))) hp)/\
  (∀(bt:Bool)(k:IntKind)(x y:Int)(d:Nat)(fr:Fr)(hp:HP)(K:Qf),cJ .eql bt (.int k x) (.int k y) d fr hp K=K (ae fr d (.bool (decide (x=y)))) hp)/\
  (∀(bt:Bool)(k:IntKind)(x y:Int)(d:Nat)(fr:Fr)(hp:HP)(K:Qf),cJ .neq bt (.int k x) (.int k y) d fr hp K=K (ae fr d (.bool (decide (¬x=y)))) hp)/\
  (∀(bt:Bool)(k:IntKind)(x y:Int)(d:Nat)(fr:Fr)(hp:HP)(K:Qf),cJ .lss bt (.int k x) (.int k y) d fr hp K=K (ae fr d (.bool (decide (x<y)))) hp)/\
  (∀(bt:Bool)(k:IntKind)(x y:Int)(d:Nat)(fr:Fr)(hp:HP)(K:Qf),cJ .leq bt (.int k x) (.int k y) d fr hp K=K (ae fr d (.bool (decide (x<=y)))) hp)/\
  (∀(bt:Bool)(k:IntKind)(x y:Int)(d:Nat)(fr:Fr)(hp:HP)(K:Qf),cJ .gtr bt (.int k x) (.int k y) d fr hp K=K (ae fr d (.bool (decide (y<x)))) hp)/\
  (∀(bt:Bool)(k:IntKind)(x y:Int)(d:Nat)(fr:Fr)(hp:HP)(K:Qf),cJ .geq bt (.int k x) (.int k y) d fr hp K=K (ae fr d (.bool (decide (y<=x)))) hp)/\
  (∀(x y:Bool)(d:Nat)(fr:Fr)(hp:HP)(K:Qf),cJ .eql true (.bool x) (.bool y) d fr hp K=K (ae fr d (.bool (x==y))) hp)/\
  (∀(x y:Bool)(d:Nat)(fr:Fr)(hp:HP)(K:Qf),cJ .neq true (.bool x) (.bool y) d fr hp K=K (ae fr d (.bool (!(x==y)))) hp)/\
  (∀(b:Bool)(d:Nat)(fr:Fr)(hp:HP)(K:Qf),yo .not (.bool b) d fr hp K=K (ae fr d (.bool (!b))) hp)/\
  (∀(k:IntKind)(n:Int)(d:Nat)(fr:Fr)(hp:HP)(K:Qf),yo .neg (.int k n) d fr hp K=K (ae fr d (.int k (k.wrap (0-n)))) hp)/\
  (∀(k k':IntKind)(n:Int)(d:Nat)(fr:Fr)(hp:HP)(K:Qf),yQ k (.int k' n) d fr hp K=K (ae fr d (.int k (k.wrap n))) hp)/\
  (∀(d:Nat)(fr:Fr)(hp:HP)(K:Qf),rG .aa d fr hp K=K (ae fr d (.int .i64 0)) hp)/\
  (∀(e:Nat)(xs:List PV)(d:Nat)(fr:Fr)(hp:HP)(K:Qf),rG (.sl e xs) d fr hp K=K (ae fr d (.int .i64 xs.length)) hp)/\
  (∀(O o n:Nat)(d:Nat)(fr:Fr)(hp:HP)(K:Qf),rG (.aD O o n) d fr hp K=K (ae fr d (.int .i64 n)) hp)/\
  (∀(k k':IntKind)(x y:Int)(d:Nat)(fr:Fr)(hp:HP)(K:Qf),z7 (.int k x) (.int k' y) d fr hp K=K (ae fr d (.int k (max x y))) hp)/\
  (∀(k k':IntKind)(x y:Int)(d:Nat)(fr:Fr)(hp:HP)(K:Qf),z5 (.int k x) (.int k' y) d fr hp K=K (ae fr d (.int k (min x y))) hp)/\
  (∀(a b:PV)(d:Nat)(fr:Fr)(hp:HP)(K:Qf),vB (.bool true) a b d fr hp K=K (ae fr d a) hp)/\
  (∀(a b:PV)(d:Nat)(fr:Fr)(hp:HP)(K:Qf),vB (.bool false) a b d fr hp K=K (ae fr d b) hp)/\
  (∀(off O i o:Nat)(d:Nat)(fr:Fr)(hp:HP)(K:Qf),qp off (.mp O i o) d fr hp K=K (ae fr d (.mp O i (o+off))) hp)/\
  (∀(n:Nat)(ag:Bool)(O i o:Nat)(d:Nat)(fr:Fr)(hp:HP)(K:Qf),gU n ag (.mp O i o) d fr hp K=lI (hp O) n ag i o d fr hp K)/\
  (∀(c:PV)(cs:List PV)(d:Nat)(fr:Fr)(hp:HP)(K:Qf),gU 1 false (.pt (c::cs)) d fr hp K=K (ae fr d c) hp)/\
  (∀(n:Nat)(O i o:Nat)(v:PV)(fr:Fr)(hp:HP)(K:Qf),pV n (.mp O i o) v fr hp K=stM (Qu hp v.refs O) O n i o (Qr hp v) fr (Qu hp v.refs) K)/\
  (∀(ps:List PV)(p:PV)(d:Nat)(fr:Fr)(hp:HP)(K:Qf),ou (.aI (p::ps)) 0 d fr hp K=(p.aJ=true/\K (ae fr d p) hp))/\
  (∀(ps:List PV)(p q:PV)(d:Nat)(fr:Fr)(hp:HP)(K:Qf),ou (.aI (p::q::ps)) 1 d fr hp K=(q.aJ=true/\K (ae fr d q) hp))/\
  (∀(ps:List PV)(p q r:PV)(d:Nat)(fr:Fr)(hp:HP)(K:Qf),ou (.aI (p::q::r::ps)) 2 d fr hp K=(r.aJ=true/\K (ae fr d r) hp))/\
  (∀(s:Nat)(Rr:PV->Prop)(fr:Fr)(hp:HP),gQ [.t s] Rr fr hp=za Rr (Qr hp (fr s)))/\
  (∀(e:Nat)(xs:List PV),kI aB (.sl e xs)=some (e,xs))/\
  (∀(hp:HP),Qu hp []=hp)/\
  (∀(fr:Fr)(r:PV),dj fr none r=fr)/\(∀(fr:Fr)(d:Nat)(r:PV),dj fr (some d) r=ae fr d r)/\
  (∀(O:Nat)(fr:Fr)(i:Nat),cI O fr i=ct O (fr i)):=by
 refine⟨?_,?_,?_,?_,?_,?_,?_,?_,?_,?_,?_,?_,?_,?_,?_,?_,?_,?_,?_,?_,?_,?_,?_,?_,?_,?_,?_,?_,?_,?_,?_,?_,?_,?_⟩<;>intros
 all_goals first
  |rfl
  |(simp[cJ,vB,ou,gU,fg,PV.cells,pV,stM];done)
  |(simp[cJ,vB,ou,gU,fg,PV.cells,pV,stM];try rfl)
  |skip
end Go.FW
namespace Go.FW
open Go
variable {C : Ctx} {ρ : Nat -> Option Nat} {fr : Fr} {hp : HP} {w : World} {K R : Qf}
def Tu(i O e ty:Nat)(he:0<e)(hi:fr i= .aa)(hB:bN O=false:=by decide):Wk fr hp (ae (cI O fr) i (.ms O 0)) (Qg hp O ⟨e,ty,[],false⟩):=by
 rintro C tmps w ⟨ρ,hs⟩;have hr:=hs.rebind (w':=w) O none ⟨e,ty,[],false⟩ hB (Ext.refl _ _) (by simp) he (by simp) (by simp) (by simp);refine⟨_,hr.sz,hr.ext,hr.fG,hr.own,hr.inj,λj=>?_⟩;unfold ae;split
 .rename_i hj;subst hj;have:=hs.cQ j;rw[hi]at this;have e:=Qj.yf this;exact⟨_,by simp[Qg];rfl,by simp,.inl ⟨jx _ _ _,e,rfl,rfl⟩⟩
 .exact hr.cQ j
end Go.FW
namespace Go.FW
open Go
variable {C : Ctx} {ρ : Nat -> Option Nat} {fr : Fr} {hp : HP} {w : World} {K R : Qf}
variable{L n:Int}{P:Program}{bt fz pr:Bool}{first xs ys:List PV}{g:FuncId}{k k':IntKind}{r:PV}{sk:List It}{x:SC}{α:Type}
def ak2(fr:Fr)(a:Nat)(v w:PV):ae (ae fr a v) a w=ae fr a w:=by funext i;unfold ae;split<;>rfl
def Ma{α:Type}{f:α->PV}{e d:Nat}{xs:List α}{k:IntKind}{H:Int}(h4:0<=H)(h5:H<=xs.length):
  jI e (.sl e (xs.map f)) none (some (.int k H)) none d fr hp K=K (ae fr d (.sl e ((xs.take H.toNat).map f))) hp:=by
 rw[adT h4 (by simpa using h5)];simp
def agR{f:α->PV}{e d:Nat}{xs:List α}(h4:0<=L)(h5:L<=xs.length):
  jI e (.sl e (xs.map f)) (some (.int k L)) none none d fr hp K=K (ae fr d (.sl e ((xs.drop L.toNat).map f))) hp:=by
 rw[adU h4 (by simpa using h5)];simp
def Q8c{f:α->PV}{e d:Nat}{xs:List α}{H:Int}(h3:0<=L)(h4:L<=H)(h5:H<=xs.length):
  jI e (.sl e (xs.map f)) (some (.int k L)) (some (.int k' H)) none d fr hp K=K (ae fr d (.sl e (((xs.take H.toNat).drop L.toNat).map f))) hp:=by
 rw[K3 (L:=L) (H:=H) rfl rfl h3 h4 (by simpa using h5)];simp
def ak3(hp:HP)(e:Nat)(xs:List PV):Qr hp (.sl e xs)= .sl e xs:=rfl
def aio(hp:HP)(k:IntKind)(n:Int):Qr hp (.int k n)= .int k n:=rfl
def agS(hp:HP)(b:Bool):Qr hp (.bool b)= .bool b:=rfl
def aip(hp:HP)(cs:List PV):Qr hp (.agg cs)= .agg cs:=rfl
def aiq(hp:HP):Qr hp .aa= .aa:=rfl
def MX(hp:HP)(O n:Nat)(e ty:Nat)(xs:List PV)(fz:Bool)(h:hp O=some ⟨e,ty,xs,fz⟩)(hB:bN O=false:=by decide):Qr hp (.ms O n)= .sl e (xs.take n):=by simp[Qr,cA,h,yM hB]
def ak4(e:Nat)(xs:List PV):(PV.sl e xs).refs=[]:=rfl
def air(k:IntKind)(n:Int):(PV.int k n).refs=[]:=rfl
def agT(b:Bool):(PV.bool b).refs=[]:=rfl
def ais(cs:List PV):(PV.agg cs).refs=[]:=rfl
def ait:PV.aa.refs=[]:=rfl
def aiu(O e:Nat)(xs:List PV):ct O (.sl e xs)= .sl e xs:=rfl
def agU(O:Nat)(k:IntKind)(n:Int):ct O (.int k n)= .int k n:=rfl
def ae9(O:Nat)(b:Bool):ct O (.bool b)= .bool b:=rfl
def agV(O:Nat)(cs:List PV):ct O (.agg cs)= .agg cs:=rfl
def agW(O:Nat):ct O .aa= .aa:=rfl
def QO(O γ o n:Nat):ct O (.aD γ o n)=if γ=O then .undef else .aD γ o n:=by
 by_cases h:γ=O
 .subst h;simp[ct,PV.refs]
 .simp[ct,PV.refs,h];intro h';exact absurd h'.symm h
def ai2(O γ o n:Nat):ct O (.rb γ o n)=if γ=O then .undef else .rb γ o n:=by
 by_cases h:γ=O
 .subst h;simp[ct,PV.refs]
 .simp[ct,PV.refs,h];intro h';exact absurd h'.symm h
def QP(O γ i o:Nat):ct O (.mp γ i o)=if γ=O then .undef else .mp γ i o:=by
 by_cases h:γ=O
 .subst h;simp[ct,PV.refs]
 .simp[ct,PV.refs,h];intro h';exact absurd h'.symm h
def aeo:
  (∀(fr:Fr)(a:Nat)(v:PV)(b:Nat),ae fr a v b=if b=a then v else fr b)/\
  (∀(h:HP)(a:Nat)(v:HB)(b:Nat),Qg h a v b=if b=a then some v else h b)/\
  (∀(O:Nat),aB O=none)/\
  (∀(hp:HP)(e:Nat)(xs:List PV),Qr hp (.sl e xs)= .sl e xs)/\
  (∀(hp:HP)(k:IntKind)(n:Int),Qr hp (.int k n)= .int k n)/\
  (∀(hp:HP)(b:Bool),Qr hp (.bool b)= .bool b)/\
  (∀(hp:HP)(cs:List PV),Qr hp (.agg cs)= .agg cs)/\
  (∀(hp:HP),Qr hp .aa= .aa)/\
  (∀(e:Nat)(xs:List PV),(PV.sl e xs).refs=[])/\
  (∀(k:IntKind)(n:Int),(PV.int k n).refs=[])/\
  (∀(b:Bool),(PV.bool b).refs=[])/\
  (∀(cs:List PV),(PV.agg cs).refs=[])/\
  (PV.aa.refs=[])/\
  (∀(O o n:Nat),(PV.aD O o n).refs=[O])/\
  (∀(O i o:Nat),(PV.mp O i o).refs=[O])/\
  (∀(O e:Nat)(xs:List PV),ct O (.sl e xs)= .sl e xs)/\
  (∀(O:Nat)(k:IntKind)(n:Int),ct O (.int k n)= .int k n)/\
  (∀(O:Nat)(b:Bool),ct O (.bool b)= .bool b)/\
  (∀(O:Nat)(cs:List PV),ct O (.agg cs)= .agg cs)/\
  (∀(O:Nat),ct O .aa= .aa)/\
  (∀(O γ o n:Nat),ct O (.aD γ o n)=if γ=O then .undef else .aD γ o n)/\
  (∀(O γ i o:Nat),ct O (.mp γ i o)=if γ=O then .undef else .mp γ i o)/\
  (∀(O γ o n:Nat),ct O (.rb γ o n)=if γ=O then .undef else .rb γ o n)/\
  (∀(O o n:Nat),(PV.rb O o n).refs=[O])/\
  (∀(o:cZ)(fr:Fr)(hp:HP)(K:Qf),lS o fr hp K=match o.dst with|some d=>K (ae fr d (.aI [])) hp|none=>K fr hp)/\
  (∀(f:aW->PV),Option.map f none=none)/\(∀(f:aW->PV)(x:aW),Option.map f (some x)=some (f x))/\
  (∀(k:IntKind)(n:Int),(PV.int k n).cells=[.int k n])/\
  (∀(b:Bool),(PV.bool b).cells=[.bool b])/\
  (∀(e:Nat)(xs:List PV),(PV.sl e xs).cells=[.sl e xs])/\
  (∀(cs:List PV),(PV.agg cs).cells=cs):=by
 refine⟨λ_ _ _ _=>rfl,λ_ _ _ _=>rfl,λ_=>rfl,ak3,aio,agS,aip,aiq,ak4,air,agT,ais,ait,λ_ _ _=>rfl,λ_ _ _=>rfl,aiu,agU,ae9,agV,agW,QO,QP,ai2,λ_ _ _=>rfl,λ_ _ _ _=>rfl,λ_=>rfl,λ_ _=>rfl,λ_ _=>rfl,λ_=>rfl,λ_ _=>rfl,λ_=>rfl⟩
def aep{p:Nat->Prop}(h:∃m,p m):∃m,p m/\∀k,p k->m<=k:=by
 obtain⟨m,hm⟩:=h;induction m using Nat.strongRecOn with
 |ind m ih=>
  by_cases hk:∃k,k<m/\p k
  .obtain⟨k,h1,h2⟩:=hk;exact ih k h1 h2
  .exact⟨m,hm,λk cY=>Nat.le_of_not_lt λaA=>hk ⟨k,aA,cY⟩⟩
def AV(I:Nat->Qf)(n:Nat):Qf:=λaG hp'=>∃aX aB,Wk aG hp' aX aB/\∃m,m<n/\I m aX aB
def pX{I:Nat->Qf}{n m:Nat}(hl:m<n)(h:I m fr hp):AV I n fr hp:=⟨fr,hp,Wk.refl _ _,m,hl,h⟩
def MI{I:Nat->Qf}{n m:Nat}{aG:Fr}{hp':HP}(hl:m<n)(hw:Wk fr hp aG hp')(h:I m aG hp'):AV I n fr hp:=⟨aG,hp',hw,m,hl,h⟩
def CT(I:Nat->Qf)(m0:Nat){aX:Fr}{aB:HP}(hw:Wk fr hp aX aB)(h0:I m0 aX aB)(h:∀m fr hp,I m fr hp->vc C R (.c x:: .el (AV I m)::sk) fr hp):vc C R (.c (.loop x)::sk) fr hp:=by
 refine aiP (λfr hp=>∃m,I m fr hp) (λfr hp=>Classical.epsilon λm=>I m fr hp/\∀k,I k fr hp->m<=k) hw ⟨m0,h0⟩ ?_;intro fr hp hI;have key:∀fr hp,(∃m,I m fr hp)->I (Classical.epsilon λm=>I m fr hp/\∀k,I k fr hp->m<=k) fr hp/\∀k,I k fr hp->(Classical.epsilon λm=>I m fr hp/\∀k,I k fr hp->m<=k)<=k:=λfr hp hI=>Classical.epsilon_spec (aep hI)
 have e:Bf (λfr hp=>∃m,I m fr hp) (λfr hp=>Classical.epsilon λm=>I m fr hp/\∀k,I k fr hp->m<=k) (Classical.epsilon λm=>I m fr hp/\∀k,I k fr hp->m<=k)=AV I (Classical.epsilon λm=>I m fr hp/\∀k,I k fr hp->m<=k):=by
  funext aG hp';apply propext;constructor
  .rintro⟨aX,aB,h1,h2,h3⟩;exact⟨aX,aB,h1,_,h3,(key aX aB h2).1⟩
  .rintro⟨aX,aB,h1,m,h2,h3⟩;exact⟨aX,aB,h1,⟨m,h3⟩,KcD ((key aX aB ⟨m,h3⟩).2 m h3) h2⟩
 rw[e];exact h _ fr hp (key fr hp hI).1
def tR(I:Nat->Qf)(m0:Nat)(h0:I m0 fr hp)(h:∀m fr hp,I m fr hp->vc C R (.c x:: .el (AV I m)::sk) fr hp):vc C R (.c (.loop x)::sk) fr hp:=
 CT I m0 (Wk.refl _ _) h0 h
def apu{e:Nat}{f:α->PV}:PV.le .aa (.sl e (([]:List α).map f)):=trivial
def Qv(hP:C.P=P){cap args aQ:List PV}{d:Option Nat}(h:Qa P g aQ (· =r))(cF:(first++args++cap).map (Qr hp)=aQ)(fm:aQ.all PV.aJ=true)(hr:(first++args++cap).flatMap PV.refs=[])
  (hK:K (dj fr d r) hp):eI C pr (.fn g first cap) args d fr hp K:=by
 refine ko hP h cF fm ?_;rw[hr];exact hK
def kG(hP:C.P=P){cap args aQ:List PV}{d:Option Nat}{Rr:PV->Prop}(h:Qa P g aQ Rr)(cF:(first++args++cap).map (Qr hp)=aQ)(fm:aQ.all PV.aJ=true)(hr:(first++args++cap).flatMap PV.refs=[])
  (hK:∀r,Rr r->K (dj fr d r) hp):eI C pr (.fn g first cap) args d fr hp K:=by
 refine Pu hP h cF fm λr h=>?_
 rw[hr];exact hK r h
def ak5{d O n ty:Nat}(hb:hp O=some ⟨1,ty,xs,false⟩)(hn:n=xs.length):
  sP 1 (.ms O n) (.sl 1 ys) d fr hp K=K (ae fr d (.int .i64 (min (ys.length:Int) n))) (Qg hp O ⟨1,ty,ys.take n++xs.drop ys.length,false⟩):=by
 simp[sP,kI,hb,hn]
def ai3{d O n ty e:Nat}(hb:hp O=some ⟨e,ty,xs,false⟩)(he:0<e)(hn:n=xs.length):
  sP e (.ms O n) (.sl e ys) d fr hp K=K (ae fr d (.int .i64 (min (ys.length:Int) n))) (Qg hp O ⟨e,ty,ys.take n++xs.drop ys.length,false⟩):=by
 simp[sP,kI,hb,hn,he]
def Tv{by_ ty d:Nat}{kz:IntKind}{nz:Int}{Cc:Int}(h1:0<=L)(h2:L<=Cc)(h3:by_*Cc<=281474976710656)(h4:Cc<=9223372036854775807):
  pR 1 by_ ty (.int kz nz) (.int k L) (.int k' Cc) d fr hp K=K (ae (cI d fr) d (.ms d L.toNat)) (Qg hp d ⟨1,ty,List.replicate L.toNat (.int kz nz),false⟩):=by
 exact FN (e:=1) Oz rfl h1 h2 h3 h4
def Tw{ty O i:Nat}(h:i<xs.length):stM (some ⟨1,ty,xs,false⟩) O 1 i 0 (.int k n) fr hp K=K fr (Qg hp O ⟨1,ty,xs.set i (.int k n),false⟩):=
 va h rfl rfl
def agX(h:HP)(a:Nat)(v w:HB):Qg (Qg h a v) a w=Qg h a w:=by funext i;unfold Qg;split<;>rfl
def apv{ty d:Nat}:oz 1 ty [.int k n] d fr hp K=K (ae (cI d fr) d (.ms d 1)) (Qg hp d ⟨1,ty,[.int k n],false⟩):=by simp[oz,rH,oe,DZ,Hz,Qr,cA,PV.refs,PV.aJ,PV.cells];rfl
def vj{O n e ty:Nat}(hb:hp O=some ⟨e,ty,xs,fz⟩)(h:PV.sl e (xs.take n)=r)(hB:bN O=false:=by decide):za (· =r) (Qr hp (.ms O n)):=by rw[MX hp O n e ty xs fz hb hB];exact Qb h (by rw[<-h];rfl)
def Hd{e by_ ty ty' d O γ n:Nat}{y:PV}(hb:hp O=some ⟨e,ty,xs,false⟩)(hy:hp γ=some ⟨e,ty',[y],fz⟩)(h0:0<e)(hn:n=xs.length)(h1:(n+1)*by_<=140737488355328)(h2:n+1<=9223372036854775807)(hB:bN O=false:=by decide):
  jO e by_ ty (.ms O n) (.ms γ 1) d fr hp K=K (ae (cI O fr) d (.ms O (n+1))) (Qg hp O ⟨e,ty,xs++[y],false⟩):=by
 subst hn;rw[GA (ys:=[y]) (xs:=xs) (by simp[kI,hy]) hb h0 (Kag _) (by simpa using h1) (by simpa using h2) hB];simp
def Vh(n:Nat):IntKind.u16.wrap (n:Int)=((n%65536:Nat):Int):=by simp only[IntKind.wrap,IntKind.bits,IntKind.signed];simp
def KE{x y:Int}{d:Nat}(h:0<=y):cJ .shr bt (.int k x) (.int k' y) d fr hp K=K (ae fr d (.int k (x.fdiv (2^(min y.toNat k.bits))))) hp:=by simp[cJ,h]
def Pv{bt:Bool}{k':IntKind}{n d:Nat}:cJ .shr bt (.int .u64 (n:Int)) (.int k' 16) d fr hp K=K (ae fr d (.int .u64 ((n/65536:Nat):Int))) hp:=by
 rw[KE Oz];have:min (16:Int).toNat IntKind.u64.bits=16:=by decide
 rw[this,KcO _ Oz];simp
def agY{n d:Nat}:cJ .shr bt (.int .u32 (n:Int)) (.int k' 16) d fr hp K=K (ae fr d (.int .u32 ((n/65536:Nat):Int))) hp:=by
 rw[KE Oz];have:min (16:Int).toNat IntKind.u32.bits=16:=by decide
 rw[this,KcO _ Oz];simp
end Go.FW
namespace Go.FW
variable{l:List Nat}{n:Nat}
def val:List Nat->Nat
 | []=>0
 |x::xs=>x+65536*val xs
def Qk(l:List Nat):Prop:=∀x∈l,x<65536
def aw(n:Nat):List Nat:=if h:n=0 then []else n%65536::aw (n/65536)
termination_by n
decreasing_by omega
def nl(n:Nat):Nat:=(aw n).length
def qc:Qk []:=by simp[Qk]
def jK{x:Nat}:Qk (x::l)↔x<65536/\Qk l:=by simp[Qk]
def pY{m:List Nat}:Qk (l++m)↔Qk l/\Qk m:=by
 simp only[Qk,KaN];constructor
 .intro h;exact⟨λx hx=>h x (.inl hx),λx hx=>h x (.inr hx)⟩
 .rintro⟨h1,h2⟩ x (hx|hx)
  .exact h1 x hx
  .exact h2 x hx
def Av(h:Qk l)(n:Nat):Qk (l.take n):=λx hx=>h x (Kby hx)
def Cz(h:Qk l)(n:Nat):Qk (l.drop n):=λx hx=>h x (Kb2 hx)
def fK(h:Qk l){i:Nat}(hi:i<l.length):l[i]<65536:=h _ (Kad hi)
def iu:aw 0=[]:=by rw[aw];simp
def wS(h:n≠0):aw n=n%65536::aw (n/65536):=by rw[aw];simp[h]
def Ql(n:Nat):Qk (aw n):=by
 induction n using aw.induct with
 |case1=>rw[iu];exact qc
 |case2 n h ih=>rw[wS h,jK];exact⟨by omega,ih⟩
def Qx(n:Nat):val (aw n)=n:=by
 induction n using aw.induct with
 |case1=>rw[iu];rfl
 |case2 n h ih=>rw[wS h,val,ih];omega
def mM:aw n=[]↔n=0:=by
 constructor
 .intro h;have:=Qx n;rw[h]at this;exact this.symm
 .rintro rfl;exact iu
def Kb:nl 0=0:=by simp[nl,iu]
def GB{n:Nat}:nl n=0↔n=0:=by rw[nl,KaE,mM]
def apw(h:n≠0):nl n=nl (n/65536)+1:=by simp[nl,wS h]
def oW(l m:List Nat):val (l++m)=val l+65536^l.length*val m:=by
 induction l with
 |nil=>simp[val]
 |cons x l ih=>simp only[KaT,val,ih,KaX,KbA];rw[Ka0,<-Nat.mul_assoc,KaU 65536 (65536^_)];omega
def rz(h:Qk l):val l<65536^l.length:=by
 induction l with
 |nil=>simp[val]
 |cons x l ih=>rw[jK]at h;have:=ih h.2;simp only[val,KaX,KbA];omega
def Pw(n:Nat):val (List.replicate n 0)=0:=by
 induction n with
 |zero=>rfl
 |succ n ih=>simp[KbC,val,ih]
def Dh(h:Qk l)(hl:l.getLast? ≠some 0):aw (val l)=l:=by
 induction l with
 |nil=>simp[val,iu]
 | cons x l ih=>
  rw[jK]at h;have we:l.getLast? ≠some 0:=by intro hh;apply hl;rw[KcE,hh];rfl
  have aS:val (x::l)≠0:=by simp only[val];intro h0;have h1:val l=0:=Oz;have:=ih h.2 we;rw[h1,iu]at this;subst this;simp at hl;omega
  rw[wS aS];simp only[val];rw[show(x+65536*val l)%65536=x by omega,show(x+65536*val l)/65536=val l by omega,ih h.2 we]
def Da(n:Nat):(aw n).getLast? ≠some 0:=by
 induction n using aw.induct with
 |case1=>simp[iu]
 | case2 n h ih=>
  rw[wS h,KcE];cases hd:(aw (n/65536)).getLast? with
  |none=>
   have:n/65536=0:=by rw[List.getLast?_eq_none_iff,mM]at hd;exact hd
   simp;omega
  |some y=>rw[hd]at ih;simpa using ih
def cut(l:List Nat):Nat->List Nat
 |0=>[]
 |n+1=>if l[n]? =some 0 then cut l n else l.take (n+1)
def Tx{l:List Nat}(h:Qk l):∀n,n<=l.length->cut l n=aw (val (l.take n))
 |0,_=>by simp[cut,val,iu]
 | n+1,hn=>by
  have e:l.take (n+1)=l.take n++[l[n]]:=by rw[Kam Oz]
  unfold cut;split
  .rename_i hz;rw[Tx h n Oz,e,oW];rw[Kae Oz]at hz;have wz:l[n]=0:=by simpa using hz
   simp[val,wz]
  .rename_i hz;rw[Dh (Av h _)];rw[e,List.getLast?_concat];intro h0;apply hz;rw[Kae Oz];exact h0
def Di(h:Qk l):cut l l.length=aw (val l):=by rw[Tx h _ (Kag _),KaQ]
def cB(h:Qk l):nl (val l)<=l.length:=by
 rw[nl,<-Di h];have:∀n,(cut l n).length<=n:=by
  intro n;induction n with
  |zero=>simp[cut]
  |succ n ih=>
   unfold cut;split
   .omega
   .simp;omega
 have h1:=this l.length;exact h1
def o9{k:Nat}:nl n<=k↔n<65536^k:=by
 induction k generalizing n with
 |zero=>simp[GB]
 | succ k ih=>
  by_cases h:n=0
  .subst h;simp[Kb];exact Kb0 Oz
  .rw[apw h,Nat.add_le_add_iff_right,ih,KbA,Kba Oz]
def kp{m:Nat}(h:m<=n):nl m<=nl n:=o9.2 (KcD h (o9.1 (Kag _)))
def Ty(m n:Nat):nl (m+n)<=max (nl m) (nl n)+1:=by rw[o9,KbA];have h1:m<65536^(max (nl m) (nl n)):=o9.1 Oz;have h2:n<65536^(max (nl m) (nl n)):=o9.1 Oz;omega
def sG(m n:Nat):nl (m*n)<=nl m+nl n:=by rw[o9,Nat.pow_add];exact Nat.mul_lt_mul'' (o9.1 (Kag _)) (o9.1 (Kag _))
def qf(h:n<18446744073709551616):nl n<=4:=o9.2 (by simpa using h)
def GS:nl n<=4↔n<18446744073709551616:=by rw[o9]
def vk:aw 1=[1]:=by rw[wS Oz];simp[iu]
open Go
variable {C : Ctx} {ρ : Nat -> Option Nat} {fr : Fr} {hp : HP} {w : World} {K R : Qf}
variable{P:Program}{first:List PV}{fz pr:Bool}{g:FuncId}{k k':IntKind}{l:List Int}{r:PV}{α:Type}
abbrev cK(l:List Nat):List PV:=l.map λ(x:Nat)=>.int .u16 x
abbrev nL(l:List Int):List PV:=l.map λ(x:Int)=>.int .i64 x
def apx(a b:Nat):(a:Int)+(b:Int)=((a+b:Nat):Int):=rfl
def ak6(a:Nat):(a:Int)+1=((a+1:Nat):Int):=rfl
def ak7(a:Nat):(a:Int)+2=((a+2:Nat):Int):=rfl
def ak8(a:Nat):(a:Int)+3=((a+3:Nat):Int):=rfl
def apy(a b:Nat):(a:Int)*(b:Int)=((a*b:Nat):Int):=rfl
def ak9{f:α->PV}{e d:Nat}{i:Nat}{xs:List α}(h:i<xs.length):
  ej e (.sl e (xs.map f)) (.int k (i:Int)) d fr hp K=K (ae fr d (.pt (f (xs[i]'h)).cells)) hp:=by
 rw[yJ Oz Oz];rfl
def ala{e d O o n i:Nat}(h:i<n)(he:(hp O).map (·.e)=some e):ej e (.aD O o n) (.int k (i:Int)) d fr hp K=K (ae fr d (.mp O (o+i) 0)) hp:=by rw[HT Oz Oz he];rfl
def apz{f:α->PV}{e d:Nat}{xs:List α}{n:Nat}(h5:n<=xs.length):
  jI e (.sl e (xs.map f)) none (some (.int k (n:Int))) none d fr hp K=K (ae fr d (.sl e ((xs.take n).map f))) hp:=by
 rw[Ma Oz Oz];rfl
def ap3{f:α->PV}{e d:Nat}{xs:List α}{n:Nat}(h5:n<=xs.length):
  jI e (.sl e (xs.map f)) (some (.int k (n:Int))) none none d fr hp K=K (ae fr d (.sl e ((xs.drop n).map f))) hp:=by
 rw[agR Oz Oz];rfl
def ai4{f:α->PV}{e d:Nat}{xs:List α}{m n:Nat}(h4:m<=n)(h5:n<=xs.length):
  jI e (.sl e (xs.map f)) (some (.int k (m:Int))) (some (.int k' (n:Int))) none d fr hp K=K (ae fr d (.sl e (((xs.take n).drop m).map f))) hp:=by
 rw[Q8c Oz Oz Oz];rfl
def ap4{by_ ty d:Nat}{n c:Nat}(h2:n<=c)(h3:by_*c<=281474976710656)(h4:c<=9223372036854775807):
  pR 1 by_ ty (.int .u16 0) (.int k (n:Int)) (.int k' (c:Int)) d fr hp K=K (ae (cI d fr) d (.ms d n)) (Qg hp d ⟨1,ty,cK (List.replicate n 0),false⟩):=by
 rw[Tv Oz Oz Oz Oz];simp[cK]
def ap5{ty i d:Nat}{l:List Nat}(h:i<l.length):lI (some ⟨1,ty,cK l,fz⟩) 1 false i 0 d fr hp K=K (ae fr d (.int .u16 (l[i]'h:Nat))) hp:=by rw[ry (by simpa using h) Oz (by simp)];simp[fg,PV.cells]
def ap6{ty i d:Nat}(h:i<l.length):lI (some ⟨1,ty,nL l,fz⟩) 1 false i 0 d fr hp K=K (ae fr d (.int .i64 (l[i]'h))) hp:=by rw[ry (by simpa using h) Oz (by simp)];simp[fg,PV.cells]
def TA{ty O i v:Nat}{l:List Nat}(h:i<l.length):stM (some ⟨1,ty,cK l,false⟩) O 1 i 0 (.int .u16 (v:Int)) fr hp K=K fr (Qg hp O ⟨1,ty,cK (l.set i v),false⟩):=by rw[Tw (by simpa using h)];simp[cK,List.map_set]
def ap7{ty O i:Nat}{v:Int}(h:i<l.length):stM (some ⟨1,ty,nL l,false⟩) O 1 i 0 (.int .i64 v) fr hp K=K fr (Qg hp O ⟨1,ty,nL (l.set i v),false⟩):=by rw[Tw (by simpa using h)];simp[nL,List.map_set]
def ai5{O n ty:Nat}{l:List Nat}(h:hp O=some ⟨1,ty,cK l,fz⟩)(hn:n=l.length)(hB:bN O=false:=by decide):Qr hp (.ms O n)= .sl 1 (cK l):=by rw[MX hp O n _ _ _ _ h hB,Kaf (by simp[hn])]
def yB(hP:C.P=P){cap args aQ:List PV}{d:Option Nat}(h:Qa P g aQ (· =r))(cF:(first++args++cap).map (Qr hp)=aQ)(fm:aQ.all PV.aJ=true)
  (hK:∀hp',K (dj fr d r) hp'):eI C pr (.fn g first cap) args d fr hp K:=ko hP h cF fm (hK _)
end Go.FW
namespace Go.FW
variable{a b l:List Nat}{i k n x:Nat}
def jy(x y:Nat):Int:=if x<y then -1 else if y<x then 1 else 0
def Kc{y:Nat}(h:x<y):jy x y= -1:=by simp[jy,h]
def Kd{y:Nat}(h:y<x):jy x y=1:=by simp[jy,h];omega
def Sm{y:Nat}(h:x=y):jy x y=0:=by simp[jy,h]
def QQ{x y:Nat}(h:nl x<nl y):x<y:=by
 rcases KcF x y with h1|h1
 .exact h1
 .have:=kp h1;omega
def sr(l:List Nat)(k:Nat)(hk:k<=l.length):val l=val (l.take k)+65536^k*val (l.drop k):=by have:=oW (l.take k) (l.drop k);rw[Kbt,Kay,Kb1 hk]at this;exact this
def wJ(h:Qk l)(k:Nat)(hk:k<=l.length):val (l.take k)<65536^k:=by
 have:=rz (Av h k)
 rwa[Kay,Kb1 hk]at this
def oc(hk:k<l.length):val (l.drop k)=l[k]+65536*val (l.drop (k+1)):=by rw[KaB hk,val]
def Q8d(ha:Qk a)(IX:k<=a.length)(EI:k<=b.length)(h:val (a.drop k)<val (b.drop k)):val a<val b:=by rw[sr a k IX,sr b k EI];have h1:=wJ ha k IX;have h2:65536^k*(val (a.drop k)+1)<=65536^k*val (b.drop k):=Ka8 _ h;rw[Ka0]at h2;omega
def Px(ha:Qk a)(IX:k<a.length)(EI:k<b.length)(h:a[k]<b[k])(he:val (a.drop (k+1))=val (b.drop (k+1))):val a<val b:=by refine Q8d ha (k:=k) Oz Oz ?_;rw[oc IX,oc EI,he];omega
def lj:List Nat->List Nat->Nat->List Nat
 | [],_,c=>if c=0 then []else [c]
 |x::xs,ys,c=>(c+x+ys.headD 0)%65536::lj xs ys.tail ((c+x+ys.headD 0)/65536)
def CF(l:List Nat):val l=l.headD 0+65536*val l.tail:=by cases l<;>simp[val]
def Ri:∀(a b:List Nat)(c:Nat),b.length<=a.length->val (lj a b c)=val a+val b+c
 | [],b,c,h=>by have:b=[]:=KaE.1 (by simpa using h);subst this;unfold lj;split<;>simp[val];omega
 |x::xs,b,c,h=>by rw[lj,val,Ri xs b.tail _ (by simp at h ⊢;omega),val,CF b];omega
def Wf:∀(a b:List Nat)(c:Nat),c<65536->Qk a->Qk b->b.length<=a.length->Qk (lj a b c)
 | [],b,c,hc,_,_,_=>by unfold lj;split<;>simp[Qk];exact hc
 |x::xs,b,c,hc,ha,hb,h=>by
  rw[jK]at ha;have oE:b.headD 0<65536:=by cases b with|nil=>simp|cons y ys=>exact hb _ (by simp)
  rw[lj,jK];exact⟨by omega,Wf xs b.tail _ Oz ha.2 (λx hx=>hb x (List.mem_of_mem_tail hx)) (by simp at h ⊢;omega)⟩
def Py:∀(a b:List Nat)(c:Nat),a.getLast? ≠some 0->(lj a b c).getLast? ≠some 0
 | [],b,c,_=>by unfold lj;split<;>simp;assumption
 | x::xs,b,c,h=>by
  rw[lj,KcE];cases xs with
  |nil=>
   simp only[List.getLast?_singleton,ne_eq,KaG]at h;simp only[lj];generalize b.headD 0=y;split
   .rename_i h0;simp;omega
   .rename_i h0;simp;omega
  |cons y ys=>
   have ih:=Py (y::ys) b.tail ((c+x+b.headD 0)/65536) (by rw[KcE]at h;simpa[KcE]using h);cases hl:(lj (y::ys) b.tail ((c+x+b.headD 0)/65536)).getLast? with
   |none=>rw[List.getLast?_eq_none_iff]at hl;simp[lj]at hl
   |some z=>rw[hl]at ih;simpa using ih
def ai6{y:Nat}(h:nl y<=nl x):lj (aw x) (aw y) 0=aw (x+y):=by have h1:=Ri (aw x) (aw y) 0 h;rw[Qx,Qx,KaW]at h1;rw[<-h1,Dh (Wf _ _ _ Oz (Ql x) (Ql y) h) (Py _ _ _ (Da x))]
def ow:List Nat->List Nat->Nat->List Nat
 | [],_,_=>[]
 |x::xs,ys,c=>(x+65536-c-ys.headD 0)%65536::ow xs ys.tail (if x<c+ys.headD 0 then 1 else 0)
def Wg:∀(a b:List Nat)(c:Nat),Qk (ow a b c)
 | [],_,_=>qc
 |x::xs,b,c=>by rw[ow,jK];exact⟨by omega,Wg xs _ _⟩
def VB:∀(a b:List Nat)(c:Nat),(ow a b c).length=a.length
 | [],_,_=>rfl
 |x::xs,b,c=>by simp[ow,VB xs]
def Rj:∀(a b:List Nat)(c:Nat),c<=1->Qk a->Qk b->b.length<=a.length->val b+c<=val a->val (ow a b c)+val b+c=val a
 | [],b,c,_,_,_,h,h2=>by have:b=[]:=KaE.1 (by simpa using h);subst this;simp[val]at h2 ⊢;simp[ow,val,h2]
 |x::xs,b,c,hc,ha,hb,h,h2=>by
  rw[jK]at ha;have oE:b.headD 0<65536:=by cases b with|nil=>simp|cons y ys=>exact hb _ (by simp)
  rw[val,CF b]at h2;rw[ow,val,val,CF b];have ih:=Rj xs b.tail (if x<c+b.headD 0 then 1 else 0) (by split<;>omega) ha.2 (λx hx=>hb x (List.mem_of_mem_tail hx)) (by simp at h ⊢;omega) (by generalize b.headD 0=y at *;split<;>omega);generalize b.headD 0=y at *
  split at ih
  .rename_i h0;rw[if_pos h0];omega
  .rename_i h0;rw[if_neg h0];omega
def Db{done:List Nat}{i n v:Nat}(h:done.length=i)(hn:0<n):(done++List.replicate n 0).set i v=(done++[v])++List.replicate (n-1) 0:=by
 subst h;obtain⟨n,rfl⟩:∃k,n=k+1:=⟨n-1,Oz⟩
 simp[KbC]
def MJ{done:List Nat}{m:Nat}(h:done.length=i)(hn:i+n=m):(done++List.replicate n 0).length=m:=by simp[h,hn]
def agZ{c:Nat}(h:i<a.length):lj (a.drop i) (b.drop i) c=(c+a[i]+b.getD i 0)%65536::lj (a.drop (i+1)) (b.drop (i+1)) ((c+a[i]+b.getD i 0)/65536):=by rw[KaB h,lj];simp[KbI,Kcs,Kac]
def ag0{c:Nat}(h:i<a.length):ow (a.drop i) (b.drop i) c=(a[i]+65536-c-b.getD i 0)%65536::ow (a.drop (i+1)) (b.drop (i+1)) (if a[i]<c+b.getD i 0 then 1 else 0):=by rw[KaB h,ow];simp[KbI,Kcs,Kac]
def iZ(h:i<b.length):b.getD i 0=b[i]:=by simp[Kac,h]
def ja(h:¬i<b.length):b.getD i 0=0:=by simp[Kac,h]
open Go
variable {C : Ctx} {ρ : Nat -> Option Nat} {fr : Fr} {hp : HP} {w : World} {K K' R : Qf}
variable{sk:List It}
def MK(h:∀fr hp,K fr hp->K' fr hp)(o:cZ):bK C o fr hp K->bK C o fr hp K':=by
 cases o with
 | call d pr f args=>
  simp only[bK,eI];split
  .rintro⟨h1,h2⟩;refine⟨h1,λρ tmps w fv cv av a1 a2 a3 a4 a5 a6 a7 a8=>(h2 ρ tmps w fv cv av a1 a2 a3 a4 a5 a6 a7 a8).mono ?_⟩;rintro e w' ⟨v,aG,hp',e1,e2,e3,e4⟩;exact⟨v,aG,hp',e1,e2,e3,h _ _ e4⟩
  .exact id
 |bs d e ty ps=>
  simp only[bK,oz];split
  .exact λH=>⟨H.1,h _ _ H.2⟩
  .exact λH=>⟨H.1,H.2.1,h _ _ H.2.2⟩
 | app d e by_ ty s x=>
  simp only[bK,jO];intro H;revert H;split
  .unfold Bw;split
   .split
    .rintro⟨a1,a2,a3,H⟩;refine⟨a1,a2,a3,?_⟩;revert H;split
     .exact λH=>⟨H.1,h _ _ H.2⟩
     .split
      .exact λH=>⟨H.1,H.2.1,h _ _ H.2.2⟩
      .exact id
     .exact id
    .exact id
   .exact id
  .rintro⟨h0,h1,H⟩;refine⟨h0,h1,?_⟩;revert H;split
   .rintro⟨a,b,c⟩;exact⟨a,b,h _ _ c⟩
   .split
    .rintro(⟨a1,a2,a3,a4,a5,a6,a7,c⟩|⟨a1,a2,a3,c⟩)
     .exact .inl ⟨a1,a2,a3,a4,a5,a6,a7,h _ _ c⟩
     .exact .inr ⟨a1,a2,a3,h _ _ c⟩
    .exact id
   .exact id
 |bin d op bt x y=>
  simp only[bK,cJ];intro H;revert H;split
  .split<;>first|exact λH=>⟨H.1,H.2.1,h _ _ H.2.2⟩|exact λH=>⟨H.1,h _ _ H.2⟩|exact id
  .split<;>first|exact λH=>⟨H.1,h _ _ H.2⟩|exact id
  .exact id
 | _=>
  simp only[bK,uc,ud,ue,y9,xe,vB,yo,yQ,rG,z7,z5,ej,rB,xf,qp,tW,gU,pV,fM,xg,pR,oz,jO,sP,jI,ou,nJ,FL,yR]
  try (intro H;revert H)
  try (repeat' split)
  all_goals first
   |exact id
   |exact h _ _
   |grind
def Wh(h:∀fr hp,K fr hp->K' fr hp)(o:cZ):lS o fr hp K->lS o fr hp K':=by unfold lS;split<;>exact h _ _
def ag1(h:∀fr hp,K fr hp->K' fr hp)(g:Option (Nat×Bool))(o:cZ):iy C g o fr hp K->iy C g o fr hp K':=by
 unfold iy;split
 .exact MK h o
 .split
  .exact λH=>⟨λe=>MK h o (H.1 e),λe=>Wh h o (H.2 e)⟩
  .exact Wh h o
  .exact id
def TC{g:Option (Nat×Bool)}{o:cZ}{r:RT}:vc C R (.o (.o g o r)::sk) fr hp=iy C g o fr hp (λfr hp=>vc C R (.o r::sk) fr hp):=by rw[vc]
def TD{x y:RT}:vc C R (.o (.br x y)::sk) fr hp=(vc C R (.o x::sk) fr hp/\vc C R (.o y::sk) fr hp):=by rw[vc]
def CA{id:Nat}{M:Qf}{sk:List It}:∀(pre:List It),(∃p,FW.cS id (pre++ .el M::sk)=some (p++ .el M::sk)/\FW.cS id (pre++sk)=some (p++sk)/\cz p<=cz pre)\/FW.cS id (pre++ .el M::sk)=FW.cS id (pre++sk)
 | []=>.inr rfl
 |.c s::pre=>by
  rcases CA (id:=id) (M:=M) (sk:=sk) pre with⟨p,h1,h2,h3⟩|h
  .exact .inl ⟨p,h1,h2,by simp only[cz];omega⟩
  .exact .inr h
 |.o s::pre=>by
  rcases CA (id:=id) (M:=M) (sk:=sk) pre with⟨p,h1,h2,h3⟩|h
  .exact .inl ⟨p,h1,h2,by simp only[cz];omega⟩
  .exact .inr h
 |.el s::pre=>by
  rcases CA (id:=id) (M:=M) (sk:=sk) pre with⟨p,h1,h2,h3⟩|h
  .exact .inl ⟨p,h1,h2,by simp only[cz];omega⟩
  .exact .inr h
 |.eb i::pre=>by
  by_cases hi:i=id
  .exact .inl ⟨pre,by simp[FW.cS,hi],by simp[FW.cS,hi],by simp only[cz];omega⟩
  .rcases CA (id:=id) (M:=M) (sk:=sk) pre with⟨p,h1,h2,h3⟩|h
   .exact .inl ⟨p,by simp[FW.cS,hi,h1],by simp[FW.cS,hi,h2],by simp only[cz];omega⟩
   .exact .inr (by simp[FW.cS,hi,h])
def Dj{M:Qf}(hM:∀fr hp,M fr hp->vc C R sk fr hp):∀(n:Nat)(pre:List It)(fr:Fr)(hp:HP),cz pre<=n->vc C R (pre++ .el M::sk) fr hp->vc C R (pre++sk) fr hp:=by
 intro n;induction n with
 | zero=>
  intro pre fr hp hn h;cases pre with
  |nil=>simp only[KaO,yS]at h ⊢;exact hM _ _ h
  |cons i pre=>
   exfalso;have:=SC.Cf;cases i<;>simp only[cz,It.sz]at hn
   .rename_i s;have:=SC.Cf s;omega
   .rename_i s;have:=RT.Cf s;omega
   .omega
   .omega
 | succ n ih=>
  intro pre fr hp hn h;cases pre with
  |nil=>simp only[KaO,yS]at h ⊢;exact hM _ _ h
  | cons i pre=>
   cases i with
   |eb i=>simp only[KaT,FM]at h⊢;exact ih _ _ _ (by simp only[cz,It.sz]at hn;omega) h
   |el J=>simp only[KaT,yS]at h ⊢;exact h
   | o r=>
    cases r with
    |nil=>simp only[KaT,Dx]at h⊢;exact ih _ _ _ (by simp only[cz,It.sz,RT.sz]at hn;omega) h
    |o g o r=>simp only[KaT,TC]at h⊢;refine ag1 (λfr hp h=>?_) g o h;exact ih (.o r::pre) _ _ (by simp only[cz,It.sz,RT.sz]at hn ⊢;omega) h
    |wk r=>simp only[KaT,Dy]at h⊢;obtain⟨aX,aB,hw,h⟩:=h;exact⟨aX,aB,hw,ih (.o r::pre) _ _ (by simp only[cz,It.sz,RT.sz]at hn ⊢;omega) h⟩
    |br x y=>simp only[KaT,TD]at h⊢;exact⟨ih (.o x::pre) _ _ (by simp only[cz,It.sz,RT.sz]at hn ⊢;omega) h.1,ih (.o y::pre) _ _ (by simp only[cz,It.sz,RT.sz]at hn ⊢;omega) h.2⟩
   | c s=>
    cases s with
    |skip=>simp only[KaT,HA]at h⊢;exact ih _ _ _ (by simp only[cz,It.sz,SC.sz]at hn;omega) h
    |rg r=>simp only[KaT,K5]at h⊢;exact ih (.o r::pre) _ _ (by simp only[cz,It.sz,SC.sz]at hn ⊢;omega) h
    |raw id ops=>
     simp only[KaT]at h⊢;rw[vc]at h⊢;intro tmps w Q hs hQ;refine h tmps w Q hs λaG hp' yn w' fS hv=>hQ aG hp' yn w' fS ?_
     exact ih _ _ _ (by simp only[cz,It.sz,SC.sz]at hn;omega) hv
    |seq a b=>simp only[KaT,HR]at h⊢;exact ih (.c a:: .c b::pre) _ _ (by simp only[cz,It.sz,SC.sz]at hn ⊢;omega) h
    |block id a=>simp only[KaT,G6]at h⊢;exact ih (.c a:: .eb id::pre) _ _ (by simp only[cz,It.sz,SC.sz]at hn ⊢;omega) h
    |ret=>simp only[KaT,HS]at h ⊢;exact h
    |cond c x y=>
     simp only[KaT,HC]at h⊢;unfold vC at h⊢;split at h
     .exact⟨λe=>ih (.c x::pre) _ _ (by simp only[cz,It.sz,SC.sz]at hn ⊢;omega) (h.1 e),λe=>ih (.c y::pre) _ _ (by simp only[cz,It.sz,SC.sz]at hn ⊢;omega) (h.2 e)⟩
     .exact h
    | exit id=>
     simp only[KaT,HD]at h⊢;rcases CA (id:=id) (M:=M) (sk:=sk) pre with⟨p,h1,h2,h3⟩|he
     .rw[h1]at h;rw[h2];simp only[yT]at h⊢;exact ih _ _ _ (by simp only[cz,It.sz,SC.sz]at hn;omega) h
     .rw[he]at h;exact h
    |loop a=>simp only[KaT,At]at h⊢;obtain⟨I,μ,h1,h2⟩:=h;refine⟨I,μ,h1,λfr hp hI=>?_⟩;exact ih (.c a:: .el _::pre) _ _ (by simp only[cz,It.sz,SC.sz]at hn ⊢;omega) (h2 fr hp hI)
def Ax{c:PV}{x y:SC}(M:Qf)(h:mf C R c x y (.el M::sk) fr hp)(hM:∀fr hp,M fr hp->vc C R sk fr hp):mf C R c x y sk fr hp:=by
 unfold mf vC at h⊢;split at h
 .exact⟨λe=>Dj hM _ [.c x] _ _ (Kag _) (h.1 e),λe=>Dj hM _ [.c y] _ _ (Kag _) (h.2 e)⟩
 .exact h
end Go.FW
namespace Go.FW
open Go
variable {C : Ctx} {ρ : Nat -> Option Nat} {fr : Fr} {hp : HP} {w : World} {K K' R : Qf}
variable{fz:Bool}
def DL(R:PV->Prop)(p q:PV):Prop:=(p.aJ=true/\q.aJ=true)/\∃r,PV.yd (.aI [p,q]) r/\R r
def FB(R:PV->Prop)(p q s:PV):Prop:=(p.aJ=true/\q.aJ=true/\s.aJ=true)/\∃r,PV.yd (.aI [p,q,s]) r/\R r
def Ut(R:PV->Prop):Prop:=∃r,PV.yd (.aI []) r/\R r
def ap8{a b:Nat}{Rr:PV->Prop}:gQ [.t a,.t b] Rr fr hp=DL Rr (Qr hp (fr a)) (Qr hp (fr b)):=by simp[gQ,DL,mI,lK]
def ap9{a b c:Nat}{Rr:PV->Prop}:gQ [.t a,.t b,.t c] Rr fr hp=FB Rr (Qr hp (fr a)) (Qr hp (fr b)) (Qr hp (fr c)):=by simp[gQ,FB,mI,lK]
def aqa{Rr:PV->Prop}:gQ [] Rr fr hp=Ut Rr:=by simp[gQ,Ut]
def ek{p q p' q' r:PV}(h:r= .aI [p',q'])(d1:p.aJ=true)(d2:q.aJ=true)(h1:PV.le p p')(h2:PV.le q q'):DL (· =r) p q:=⟨⟨d1,d2⟩,r,by subst h;exact⟨h1,h2,trivial⟩,rfl⟩
def ox{p q s p' q' s' r:PV}(h:r= .aI [p',q',s'])(d1:p.aJ=true)(d2:q.aJ=true)(d3:s.aJ=true)(h1:PV.le p p')(h2:PV.le q q')(h3:PV.le s s'):FB (· =r) p q s:=⟨⟨d1,d2,d3⟩,r,by subst h;exact⟨h1,h2,h3,trivial⟩,rfl⟩
def wQ{p q:PV}(h:p=q):PV.le p q:=h▸Qi p
def CV{O n ty:Nat}{l:List Nat}(h:hp O=some ⟨1,ty,cK l,fz⟩)(hn:n=l.length)(hB:bN O=false:=by decide):(([]:List PV)++[PV.ms O n]++([]:List PV)).map (Qr hp)=[.sl 1 (cK l)]:=by simp[ai5 h hn hB]
def sm{n:Nat}(h:(aw n).length=0):aw n=[]:=KaE.1 h
abbrev PV.nat(l:List Nat):PV:=.sl 1 (cK l)
abbrev PV.num(n:Nat):PV:=PV.nat (aw n)
def AD:PV.le .aa (PV.num 0):=by rw[PV.num,iu];trivial
def Dk{n:Nat}(h:n=0):PV.le .aa (PV.num n):=by subst h;exact AD
end Go.FW
namespace Go.FW
variable{a b l:List Nat}{i x:Nat}
def mj:List Nat->List Nat->Nat->Nat->List Nat
 |r::rs,y::ys,x,c=>(c+(r+x*y))%65536::mj rs ys x ((c+(r+x*y))/65536)
 |_,_,_,c=>[c]
def Rk:∀(r b:List Nat)(x c:Nat),r.length=b.length->val (mj r b x c)=val r+x*val b+c
 | [],[],x,c,_=>by simp[mj,val]
 |r::rs,y::ys,x,c,h=>by rw[mj,val,Rk rs ys x _ (by simpa using h),val,val,Ka0 x,KbE x 65536];generalize x*y=p;generalize x*val ys=q;omega
 | [],_::_,_,_,h=>by simp at h
 |_::_,[],_,_,h=>by simp at h
def wM{y:Nat}(hx:x<65536)(hy:y<65536):x*y<=4294836225:=by have:=KaZ (show x<=65535 by omega) (show y<=65535 by omega);omega
def Wi:∀(r b:List Nat)(x c:Nat),c<65536->x<65536->Qk r->Qk b->Qk (mj r b x c)
 |r::rs,y::ys,x,c,hc,hx,hr,hb=>by rw[jK]at hr hb;have:=wM hx hb.1;rw[mj,jK];exact⟨by omega,Wi rs ys x _ Oz hx hr.2 hb.2⟩
 | [],_,x,c,hc,_,_,_=>by simp[mj,Qk];exact hc
 |_::_,[],x,c,hc,_,_,_=>by simp[mj,Qk];exact hc
def VC:∀(r b:List Nat)(x c:Nat),r.length=b.length->(mj r b x c).length=r.length+1
 |r::rs,y::ys,x,c,h=>by simp[mj,VC rs ys x _ (by simpa using h)]
 | [],[],x,c,_=>rfl
 | [],_::_,_,_,h=>by simp at h
 |_::_,[],_,_,h=>by simp at h
def Hs{p t:List Nat}{r j:Nat}(h:p.length=j)(hj:j<(p++r::t).length):(p++r::t)[j]=r:=by subst h;simp
def qg{p t:List Nat}{r j v:Nat}(h:p.length=j):(p++r::t).set j v=p++v::t:=by subst h;simp
def Cq(h:i<l.length):val (l.take (i+1))=val (l.take i)+65536^i*l[i]:=by rw[Kam h,oW,Kay,Kb1 Oz];simp[val]
def ai7{lo:List Nat}(h:i<a.length)(hl:lo.length=i+b.length)(hv:val lo=val (a.take i)*val b):
  val (lo.take i++mj (lo.drop i) b a[i] 0)=val (a.take (i+1))*val b:=by
 rw[oW,Rk _ _ _ _ (by simp[hl]),Cq h,Kay,Kb1 Oz,KaL,<-hv,sr lo i Oz,KaW,Ka0,Kbg];omega
open Go
variable {C : Ctx} {ρ : Nat -> Option Nat} {fr : Fr} {hp : HP} {w : World} {K K' R : Qf}
variable{P:Program}{fn:Func}{fz:Bool}{g:FuncId}{ty:TypeId}
def B0:Nat:=1000000
def pb(xs:List PV):Prop:=∀x∈xs,∃k n,x= .int k n
def tS(l:List Nat):pb (cK l):=by intro x hx;simp only[cK,KaD]at hx;obtain⟨n,_,rfl⟩:=hx;exact⟨_,_,rfl⟩
def ql(w:World)(b:Nat)(ty:TypeId)(xs:List PV):Prop:=pb xs/\∃(cur:Array Value)(cap:Nat),w.heap[b]? =some (.cells cur ty (0,0))/\cur.size=cap*1/\xs.length<=cap/\cap<=maxLen/\
 ∀(i:Nat)(k:IntKind)(n:Int),xs[i]? =some (.int k n)->cur.getD i undef= .int k n
def ql.lM{b:Nat}{xs:List PV}{X:Nat->Prop}(h:ql w b ty xs):Bq w X b ⟨1,ty,xs,fz⟩:=by
 obtain⟨hi,cur,cap,h1,h2,h3,h4,h5⟩:=h;refine⟨cur,cap,h1,h2,h3,h4,λi x hx j y hy=>?_⟩;obtain⟨k,n,rfl⟩:=hi x (Kaj hx);cases j with
 |zero=>simp[PV.cells]at hy;subst hy;rw[KbR,KaW,h5 i k n hx];exact Qn.int k n
 |succ j=>simp[PV.cells]at hy
def ql.OW{b:Nat}{xs:List PV}{X:Nat->Prop}(h:Bq w X b ⟨1,ty,xs,fz⟩)(hi:pb xs):ql w b ty xs:=by obtain⟨cur,cap,h1,h2,h3,h4,h5⟩:=h;refine⟨hi,cur,cap,h1,h2,h3,h4,λi k n hx=>?_⟩;have:=h5 i _ hx 0 (.int k n) rfl;simp only[KbR,KaW]at this;generalize hg:cur.getD i undef=v at this;cases this;rfl
def He{xs:List PV}(h:pb xs):∀(i:Nat)(x:PV),xs[i]? =some x->x.cells.length=1/\x.aJ=true:=by intro i x hx;obtain⟨k,n,rfl⟩:=h x (Kaj hx);exact⟨rfl,rfl⟩
def W5(w:World)(b len:Nat)(o n:Nat)(v:Value):Prop:=o+n<=len/\∃cap,v= .slice (some ⟨b,o*1,none⟩) n cap/\eh w b 1 (o+cap)/\o+cap<=maxLen
def aaQ(w:World)(X:Nat->Prop)(b len:Nat)(p:PV)(v:Value):Prop:=match p with
 |.aD O o n=>O=B0/\W5 w b len o n v
 |p=>bS w X p v
def W3(w:World)(X:Nat->Prop)(b len:Nat)(p:PV)(v:Value):Prop:=match p with
 |.aD O o n=>O=B0/\W5 w b len o n v
 |p=>gq w X p v
def AI(P:Program)(f:FuncId)(args:List PV)(ty:TypeId)(xs:List PV)(aN:PV->List PV->Prop):Prop:=
 qk P f/\∀(w:World)(X:Nat->Prop)(b:Nat)(aL:Array Value),(∀c,X c->c<w.heap.size)->X b->aL.size=args.length->ql w b ty xs->0<xs.length->
  (∀(i:Nat)(x:PV),args[i]? =some x->aaQ w X b xs.length x (aL.getD i undef))->
  Calls P f aL w λe w'=>∃v r xs',e= .returned v/\Ext (λc=>c=b) w w'/\(∀e cap,eh w b e cap->eh w' b e cap)/\ql w' b ty xs'/\xs'.length=xs.length/\W3 w' X b xs.length r v/\aN r xs'
def vD(rs:List RV)(ty:TypeId)(len:Nat)(aN:PV->List PV->Prop):Qf:=λfr hp=>
 ∃xs',hp B0=some ⟨1,ty,xs',false⟩/\pb xs'/\xs'.length=len/\
  (gQ rs (λr=>(∀O o n,r≠ .aD O o n)/\aN r xs') fr hp\/∃s o n,rs=[.t s]/\fr s= .aD B0 o n/\aN (.aD B0 o n) xs')
def GU  {f : FuncId}  {sf : ax} {args : List PV}  {xs : List PV} {aN : PV -> List PV -> Prop} (hm : P.follows .mixedOrders = true) (hf : P.funcs[f]? = some fn) (nd : (fn.name != "runtime.NumGoroutine") = true) (hc : Qc P fn = some sf) (hn : args.length <= sf.n /\ sf.n <= 1000000)
  (hv:∀C:Ctx,C.P=P->vc C (vD sf.rs ty xs.length aN) [.c sf.body] (kJ args) (Qg aB B0 ⟨1,ty,xs,false⟩)):AI P f args ty xs aN:=by
 simp only[Qc,Kab,Kaa]at hc;obtain⟨c,hb,sb,iG,rs,cU,rfl⟩:=hc;refine⟨by simp[qk,hf,hb];simpa using nd,λw X b aL hX zr fF hI qQ iK=>?_⟩;have qL:∀O c,(λO=>if O=B0 then some b else none:Nat->Option Nat) O=some c->c<w.heap.size/\(eB O=false->¬(X c/\c≠b)):=λO c h=>by
  simp only at h;split at h
  .cases h;exact⟨hX b zr,λ_ h=>h.2 rfl⟩
  .cases h
 let C:Ctx:=⟨P,fn.ntmps,w,λc=>X c/\c≠b,λc hc=>hX c hc.1,hn.2,λO=>if O=B0 then some b else none,qL,di,λ_ h=>h.elim⟩
 refine calls_of_wp hf hb ?_;have uP:(aL++Array.replicate (fn.ntmps-aL.size) undef).size=fn.ntmps:=by simp at hn ⊢;omega
 have awe:∀c,aM C (λO=>if O=B0 then some b else none) (Qg aB B0 ⟨1,ty,xs,false⟩) c->X c:=by
  rintro c (hx|⟨O,_,h1,_,h3⟩)
  .exact hx.1
  .simp only at h3;split at h3
   .cases h3;exact zr
   .cases h3
 have qS:eT C (kJ args) (Qg aB B0 ⟨1,ty,xs,false⟩) (aL++Array.replicate (fn.ntmps-aL.size) undef) w:=by
  refine⟨λO=>if O=B0 then some b else none,uP,Ext.refl _ _,λ_ _ _ _ _ h=>h,λO aE ao=>?_,λO γ b' h1 h2 h3 h4=>?_,λi=>?_⟩
  .unfold Qg at ao;split at ao
   .rename_i ayn;cases ao;subst ayn;refine⟨by simp,He hI.1,?_,(λ_=>rfl),λh=>by cases h⟩;simp only[if_pos];exact⟨rfl,hX b zr,hI.lM⟩
   .simp[aB]at ao
  .have:∀O,(if O=B0 then some b else none:Option Nat)=some b'->O=B0:=λO h=>by
    split at h
    .assumption
    .cases h
   rw[this O h3,this γ h4]
  .unfold kJ;cases hi:args[i]? with
   |none=>trivial
   | some p=>
    simp only[Kbl];have iU:i<aL.size:=by rw[fF];exact(Kah.1 hi).1
    have hr:=iK i p hi;have e:(aL++Array.replicate (fn.ntmps-aL.size) undef).getD i undef=aL.getD i undef:=by rw[lP,if_pos iU]
    rw[e];have key:bS w X p (aL.getD i undef)->Qj C (λO=>if O=B0 then some b else none) (Qg aB B0 ⟨1,ty,xs,false⟩) w p (aL.getD i undef):=λhr=>
     Qj.n7 (hr.mono (λ_ _ _=>rfl) (λc _ hn hx=>hn (awe c hx)) (Kag _))
    cases p with
    |aD O o n=>obtain⟨rfl,h1,cap,h2,h3,h4⟩:=hr;exact⟨⟨1,ty,xs,false⟩,by simp[Qg],h1,.inr ⟨b,cap,by simp,h2,h3,h4⟩⟩
    |_=>exact key hr
 have fin:∀(fr:Fr)(hp:HP)(a:Act)(w':World),a.defers=[]->eT C fr hp a.tmps w'->vD rs ty xs.length aN fr hp->
   a.defers=[]/\∃v,(results fn a.tmps).run P w'= .ok v w'/\∃v' r xs',Ending.returned v= .returned v'/\Ext (λc=>c=b) w w'/\(∀e cap,eh w b e cap->eh w' b e cap)/\ql w' b ty xs'/\xs'.length=xs.length/\W3 w' X b xs.length r v'/\aN r xs':=by
  rintro fr hp a w' hd ⟨ρ,hs⟩ ⟨xs',hB,hint,hlen,hr⟩;have bP:=hs.own B0 _ hB;have bu:=bP.du;have bT:ρ B0=some b:=by
   cases hq:ρ B0 with
   |none=>rw[hq]at bu;simp only at bu;rw[bu]at hlen;simp at hlen;omega
   |some b'=>rw[<-hq];exact bP.fix rfl
  rw[bT]at bu;have zo:ql w' b ty xs':=ql.OW bu.2.2 hint;have hxe:Ext (λc=>c=b) w w':=hs.ext.mono λc _ hc=>by
   rcases hc with⟨O,_,hc⟩|hc
   .have hc:(if O=B0 then some b else none:Option Nat)=some c:=hc;split at hc
    .cases hc;rfl
    .cases hc
   .exact hc.elim
  have ZF:∀e cap,eh w b e cap->eh w' b e cap:=hs.fG B0 b rfl;rcases hr with hr|⟨s,o,n,rfl,qK,hp⟩
  .obtain⟨v,r,h1,h2,h3,h4⟩:=ae8 (C:=C) rfl cU hs hr (X:=X) (λc hc=>by
    by_cases e:c=b
    .subst e;exact .inr ⟨B0,_,rfl,hB,rfl,bT⟩
    .exact .inl ⟨hc,e⟩)
   refine⟨hd,v,h1,v,r,xs',rfl,hxe,ZF,zo,hlen,?_,h4⟩;cases r with
   |aD O o n=>exact absurd rfl (h3 O o n)
   |_=>exact h2
  .have bm:=hs.cQ s;rw[qK]at bm;obtain⟨hb2,g1,g2,g3⟩:=bm;rw[hB]at g1;cases g1;rcases g3 with⟨g3,_⟩|⟨b',cap,g3,g4,g5,g6⟩
   .rw[bT]at g3;cases g3
   .rw[bT]at g3;cases g3;obtain⟨x,hx⟩:∃x,fn.results.toList=[x]:=by have:=n8 cU;exact KcB.1 (by rw[<-this.1];rfl)
    have jF:jv P x=some (.t s):=by rw[hx]at cU;simp only[Kb9,Kc5,KbW,Kcc,Kab,KaG]at cU;obtain⟨y,h1,_,_,h2⟩:=cU;simp only[Kct]at h2;rw[<-h2.1];exact h1
    have tv:x= .tmp s:=by
     cases x with
     |tmp t=>simpa[jv]using jF
     |cell y t=>simp[jv,Kab]at jF
    subst tv;have gH:(results fn a.tmps).run P w'= .ok (a.tmps.getD s undef) w':=by have e:results fn a.tmps=(do let vs<-fn.results.mapM (mi a.tmps);pure (if h:vs.size=1 then vs[0]else .tuple vs)):=rfl;rw[e,Kbv,hx];simp[Kau,mi]
    refine⟨hd,_,gH,_,.aD B0 o n,xs',rfl,hxe,ZF,zo,hlen,⟨rfl,hlen▸g2,cap,g4,g5,g6⟩,hp⟩
 exact LR (C:=C) (R:=vD rs ty xs.length aN) hm c sb [] _ (kJ args) _ _ w iG ⟨λfr hp a w' hd hs hv=>(by rw[wW]at hv;exact fin fr hp a w' hd hs hv),λid fI he=>(by simp[FW.cS]at he),fin⟩ rfl qS (hv C rfl)
def PV.pP:PV->Bool
 |.aD .. =>true
 |p=>p.aJ
def lM(O:Nat):PV->PV
 |.aD γ o n=>if γ=O then .aD B0 o n else .undef
 |.mp _ _ _=>.undef
 |.rb _ _ _=>.undef
 |.fn _ _ _=>.undef
 |.aK _ _ _| .np _ _ _| .aU _| .fH _| .dQ _ _| .aH _ _ _ _=>.undef
 |p=>p
def qh(O:Nat):PV->PV
 |.aD _ o n=>.aD O o n
 |p=>p
def HU(hP:C.P=P){args aQ:List PV}{d:Option Nat}{O:Nat}{xs:List PV}{aN:PV->List PV->Prop}(h:AI P g aQ ty xs aN)(ao:hp O=some ⟨1,ty,xs,false⟩)(hint:pb xs)(qQ:0<xs.length)
  (cF:args.map (lM O)=aQ) (fm:aQ.all PV.pP=true)
  (hK:∀r xs',pb xs'->xs'.length=xs.length->aN r xs'->K (dj fr d (qh O r)) (Qg hp O ⟨1,ty,xs',false⟩)):eI C false (.fn g [] []) args d fr hp K:=by
 subst hP;refine⟨h.1,λρ tmps w fv cv av qI hs h1 h2 h3 _ _ oJ=>?_⟩;have bP:=hs.own O _ ao;have bu:=bP.du;obtain⟨b,bT⟩:∃b,ρ O=some b:=by
  cases hq:ρ O with
  |none=>rw[hq]at bu;simp only at bu;rw[bu]at qQ;simp at qQ
  |some b=>exact⟨b,rfl⟩
 rw[bT]at bu;have zr:aM C ρ hp b:=.inr ⟨O,_,ao,rfl,bT⟩;have e1:fv= #[]:=KbU (by simpa using h1);have e2:cv= #[]:=KbU (by simpa using h2);subst e1;subst e2;simp only[Array.empty_append,Array.append_empty];refine(h.2 w (aM C ρ hp) b av (DA hs) zr (by rw[<-cF];simp[h3]) (ql.OW bu.2.2 hint) qQ (λi x hx=>?_)).mono ?_
 .rw [<-cF]at hx;simp only[Kaw,Kaa]at hx;obtain⟨p,hp',zO⟩:=hx;have hr:=oJ i p hp';have lF:PV.pP x=true:=by rw[Kas]at fm;refine fm x ?_;rw[<-cF,<-zO];exact Kcv (Kaj hp')
  subst zO;cases p with
  | aD γ o n=>
   simp only[lM]at lF⊢;split
   .rename_i ak;subst ak;obtain⟨hb2,g1,g2,g3⟩:=hr;rw[ao]at g1;cases g1;rcases g3 with⟨g3,_⟩|⟨b',cap,g3,g4,g5,g6⟩
    .rw[bT]at g3;cases g3
    .rw[bT]at g3;cases g3;exact⟨rfl,g2,cap,g4,g5,g6⟩
   .rename_i ak;rw[if_neg ak]at lF;simp[PV.pP,PV.aJ]at lF
  |mp=>simp[lM,PV.pP,PV.aJ]at lF
  |rb=>simp[lM,PV.pP,PV.aJ]at lF
  |fn=>simp[lM,PV.pP,PV.aJ]at lF
  |undef=>simp[lM,PV.pP,PV.aJ]at lF
  |aK=>simp[lM,PV.pP,PV.aJ]at lF
  |np=>simp[lM,PV.pP,PV.aJ]at lF
  |aU=>simp[lM,PV.pP,PV.aJ]at lF
  |fH=>simp[lM,PV.pP,PV.aJ]at lF
  |dQ=>simp[lM,PV.pP,PV.aJ]at lF
  |aH=>simp[lM,PV.pP,PV.aJ]at lF
  |aI=>simp[lM,PV.pP,PV.aJ]at lF
  |agg cs=>exact hr
  |_=>exact hr
 .rintro e w' ⟨v,r,xs',rfl,hx,eY,zo,hlen,gH,dY⟩;have a9:=hs.store O b ⟨1,ty,xs,false⟩ ⟨1,ty,xs',false⟩ ao rfl (by intro e;simp at e;rw[e]at qQ;simp at qQ) bT hx rfl hlen rfl (He zo.1) eY (zo.lM (X:=aM C ρ hp) (fz:=false) |> λ⟨cur,cap,c1,c2,c3,c4,c5⟩=>⟨cur,cap,c1,c2,c3,c4,λi x hi j y hy=>by
   obtain⟨k,n,rfl⟩:=zo.1 x (Kaj hi);have:=c5 i _ hi j y hy;cases j with
   |zero=>simp[PV.cells]at hy;subst hy;generalize hg:cur.getD (i*1+0) undef=u at this;cases this;exact Qn.int k n
   |succ j=>simp[PV.cells]at hy⟩)
  have NB:aM C ρ (Qg hp O ⟨1,ty,xs',false⟩)=aM C ρ hp:=by
   funext c;apply propext;constructor
   .rintro(hx|⟨γ,hg,h1,h2,h3⟩)
    .exact .inl hx
    .by_cases ak:γ=O
     .subst ak;exact .inr ⟨γ,_,ao,rfl,h3⟩
     .simp only[Qg,if_neg ak]at h1;exact .inr ⟨γ,hg,h1,h2,h3⟩
   .rintro(hx|⟨γ,hg,h1,h2,h3⟩)
    .exact .inl hx
    .by_cases ak:γ=O
     .subst ak;exact .inr ⟨γ,⟨1,ty,xs',false⟩,by simp[Qg],rfl,h3⟩
     .exact .inr ⟨γ,hg,by simp[Qg,ak,h1],h2,h3⟩
  refine⟨v,_,_,rfl,⟨ρ,a9.JS (p:=qh O r) ?_ qI⟩,by simp,hK r xs' zo.1 hlen dY⟩;cases r with
  |aD γ o n=>obtain⟨_,g1,cap,g2,g3,g4⟩:=gH;exact⟨⟨1,ty,xs',false⟩,by simp[Qg],by simp only[qh];omega,.inr ⟨b,cap,bT,g2,g3,g4⟩⟩
  |_=>exact Qj.JD (p:=_) (by rw[NB];exact gH)
end Go.FW
namespace Go.FW
open Go
variable {C : Ctx} {ρ : Nat -> Option Nat} {fr : Fr} {hp : HP} {w : World} {K K' R : Qf}
variable{P:Program}{args xs:List PV}{fn:Func}{g:FuncId}{p:PV}{tmps:Array Value}{ty:TypeId}
def Dl(P:Program)(f:FuncId)(args:List PV)(ty:TypeId)(aN:List PV->Prop):Prop:=
 qk P f/\∀(w:World)(X:Nat->Prop)(aL:Array Value),(∀b,X b->b<w.heap.size)->aL.size=args.length->(∀(i:Nat)(x:PV),args[i]? =some x->bS w X x (aL.getD i undef))->
  Calls P f aL w λe w'=>∃v b cap ys,e= .returned v/\v= .slice (some ⟨b,0,none⟩) ys.length cap/\w.heap.size<=b/\Ext di w w'/\ql w' b ty ys/\eh w' b 1 cap/\cap<=maxLen/\aN ys
def Bg(rs:List RV)(ty:TypeId)(aN:List PV->Prop):Qf:=λfr hp=>
 ∃s O n xs,rs=[.t s]/\fr s= .aD O 0 n/\bN O=false/\hp O=some ⟨1,ty,xs,false⟩/\pb xs/\0<n/\aN (xs.take n)
def ag2(h:pb xs)(n:Nat):pb (xs.take n):=λx hx=>h x (Kby hx)
def ag3  {f : FuncId}  {sf : ax}   {aN : List PV -> Prop} (hm : P.follows .mixedOrders = true) (hf : P.funcs[f]? = some fn) (nd : (fn.name != "runtime.NumGoroutine") = true) (hc : Qc P fn = some sf) (hn : args.length <= sf.n /\ sf.n <= 1000000)
  (hv:∀C:Ctx,C.P=P->vc C (Bg sf.rs ty aN) [.c sf.body] (kJ args) aB):Dl P f args ty aN:=by
 simp only[Qc,Kab,Kaa]at hc;obtain⟨c,hb,sb,iG,rs,cU,rfl⟩:=hc;refine⟨by simp[qk,hf,hb];simpa using nd,λw X aL hX fF iK=>?_⟩
 let C:Ctx:=Ctx.plain P fn.ntmps w X hX hn.2
 refine calls_of_wp hf hb ?_;have uP:(aL++Array.replicate (fn.ntmps-aL.size) undef).size=fn.ntmps:=by simp at hn ⊢;omega
 have qS:eT C (kJ args) aB (aL++Array.replicate (fn.ntmps-aL.size) undef) w:=by
  refine⟨λ_=>none,uP,Ext.refl _ _,(λ_ _ h=>by cases h),by simp[aB],by simp[aB],λi=>?_⟩;unfold kJ;cases hi:args[i]? with
  |none=>trivial
  | some p=>
   simp only[Kbl];have iU:i<aL.size:=by rw[fF];exact(Kah.1 hi).1
   have hr:=iK i p hi;have e:(aL++Array.replicate (fn.ntmps-aL.size) undef).getD i undef=aL.getD i undef:=by rw[lP,if_pos iU]
   rw[e];refine Qj.n7 (hr.mono (λ_ _ _=>rfl) (λb _ hn hx=>?_) (Kag _));rcases hx with hx|⟨_,_,h1,_⟩
   .exact hn hx
   .simp[aB]at h1
 have fin:∀(fr:Fr)(hp:HP)(a:Act)(w':World),a.defers=[]->eT C fr hp a.tmps w'->Bg rs ty aN fr hp->
   a.defers=[]/\∃v,(results fn a.tmps).run P w'= .ok v w'/\∃v' b cap ys,Ending.returned v= .returned v'/\v'= .slice (some ⟨b,0,none⟩) ys.length cap/\w.heap.size<=b/\Ext di w w'/\ql w' b ty ys/\eh w' b 1 cap/\cap<=maxLen/\aN ys:=by
  rintro fr hp a w' hd ⟨ρ,hs⟩ ⟨s,O,n,xs,rfl,qK,hB,ao,hint,qQ,hp⟩;have bP:=hs.own O _ ao;have bu:=bP.du;have bm:=hs.cQ s;rw[qK]at bm;obtain⟨hb2,g1,g2,g3⟩:=bm;rw[ao]at g1;cases g1;rcases g3 with⟨_,_,g3,_⟩|⟨b,cap,g3,g4,g5,g6⟩
  .omega
  .rw[g3]at bu;simp only[hB]at bu;obtain⟨x,hx⟩:∃x,fn.results.toList=[x]:=by have:=n8 cU;exact KcB.1 (by rw[<-this.1];rfl)
   have jF:jv P x=some (.t s):=by rw[hx]at cU;simp only[Kb9,Kc5,KbW,Kcc,Kab,KaG]at cU;obtain⟨y,h1,_,_,h2⟩:=cU;simp only[Kct]at h2;rw[<-h2.1];exact h1
   have tv:x= .tmp s:=by
    cases x with
    |tmp t=>simpa[jv]using jF
    |cell y t=>simp[jv,Kab]at jF
   subst tv;have gH:(results fn a.tmps).run P w'= .ok (a.tmps.getD s undef) w':=by have e:results fn a.tmps=(do let vs<-fn.results.mapM (mi a.tmps);pure (if h:vs.size=1 then vs[0]else .tuple vs)):=rfl;rw[e,Kbv,hx];simp[mi]
   have hlen:(xs.take n).length=n:=by simp at g2 ⊢;omega
   refine⟨hd,_,gH,_,b,cap,xs.take n,rfl,by rw[g4,hlen,Kci],(Ctx.xB bu.1 (yM hB)).resolve_right (λh=>h),Ctx.OZ hs.ext,?_,by rw[Ka2]at g5;exact g5,Oz,hp⟩;obtain⟨_,cur,cp,i1,i2,i3,i4,i5⟩:=ql.OW bu.2.2 hint;exact⟨ag2 hint n,cur,cp,i1,i2,by simp;omega,i4,λi k m hi=>i5 i k m (by
    have au:i<n:=by have:=(Kah.1 hi).1;omega
    rwa[KaM au]at hi)⟩
 exact LR (C:=C) (R:=Bg rs ty aN) hm c sb [] _ (kJ args) aB _ w iG ⟨λfr hp a w' hd hs hv=>(by rw[wW]at hv;exact fin fr hp a w' hd hs hv),λid fI he=>(by simp[FW.cS]at he),fin⟩ rfl qS (hv C rfl)
def aqb(hP:C.P=P){aQ:List PV}{d:Nat}{aN:List PV->Prop}(h:Dl P g aQ ty aN)(cF:([]++args++[]).map (Qr hp)=aQ)(fm:aQ.all PV.aJ=true)(hr:([]++args++[]).flatMap PV.refs=[])
  (hB:bN d=false) (hK:∀ys,pb ys->aN ys->K (ae (cI d fr) d (.ms d ys.length)) (Qg hp d ⟨1,ty,ys,false⟩)):eI C false (.fn g [] []) args (some d) fr hp K:=by
 subst hP;refine⟨h.1,λρ tmps w fv cv av qI hs h1 h2 h3 pM jX oJ=>?_⟩;have IQ:Qu hp (([]++args++[]).flatMap PV.refs)=hp:=by rw[hr];rfl
 have iK:=QN hs h1 h2 h3 pM jX oJ (by rw[cF];exact fm);rw[IQ,cF]at iK;refine(h.2 w _ (fv++av++cv) (DA hs) (by rw[<-cF];simp[h1,h2,h3]) iK).mono ?_;rintro e w' ⟨v,b,cap,ys,rfl,rfl,hb,hx,hI,eY,hm,dY⟩;have pF:b<w'.heap.size:=by obtain⟨_,cur,cp,i1,_⟩:=hI;exact(Kbp.1 i1).1
 have hrb:=hs.rebind (w':=w') d (some b) ⟨1,ty,ys,false⟩ hB (hx.mono (λ_ _ h=>h.elim)) (λc hc=>by cases hc;exact⟨.inl (KaK hs.ext.size hb),pF,.inl hb⟩) (by simp) (He hI.1) (by simp)
  (λc hc=>by
   cases hc;obtain⟨hint,cur,cp,i1,i2,i3,i4,i5⟩:=hI;refine⟨cur,cp,i1,i2,i3,i4,λi x hi j y hy=>?_⟩;obtain⟨k,n,rfl⟩:=hint x (Kaj hi);cases j with
   |zero=>simp[PV.cells]at hy;subst hy;rw[KbR,KaW,i5 i k n hi];exact Qn.int k n
   |succ j=>simp[PV.cells]at hy)
 refine⟨_,_,_,rfl,⟨_,hrb.JS (d:=some d) (p:=.ms d ys.length) ?_ qI⟩,by simp,hK ys hI.1 dY⟩;exact⟨⟨1,ty,ys,false⟩,by simp[Qg],by simp,.inr ⟨b,cap,jx _ _ _,by simp,by rw[Ka2];exact eY,Oz⟩⟩
def gZ(hp:HP):PV->PV
 |.mp O i o=>match hp O with
  |some hb=>match hb.xs[i]? with
   |some x=>.pt (x.cells.drop o)
   |none=>.undef
  |none=>.undef
 |.aD O o n=>match hp O with
  |some hb=>.sl hb.e ((hb.xs.drop o).take n)
  |none=>.undef
 |.rb O o n=>match hp O with
  |some hb=>.pt [.sl hb.e ((hb.xs.drop o).take n)]
  |none=>.undef
 |p=>p
def zb(C:Ctx)(ρ:Nat->Option Nat)(hp:HP)(l:List Nat):Nat->Prop:=λc=>aM C ρ hp c/\¬∃O∈l,ρ O=some c
def Qn.zg{l:List Nat}{q:PV}{u:Value}(h:Qn w (aM C ρ hp) q u):Qn w (zb C ρ hp l) q u:=
 h.mono (λ_ _ _=>rfl) (λ_ _ hn hx=>hn hx.1) (Kag _)
def fV.zg{tmps:Array Value}(h:Qt C ρ fr hp tmps w){O o n:Nat}{v:Value}{l:List Nat}{hb:HB}(hr:fV ρ hp w O o n v)(zW:O∈l)(g1:hp O=some hb):Qn w (zb C ρ hp l) (.sl hb.e ((hb.xs.drop o).take n)) v:=by
 obtain⟨hb2,Ir,g2,g3⟩:=hr;rw[g1]at Ir;cases Ir;rcases g3 with⟨g3,rfl,rfl,rfl⟩|⟨b,cap,g3,rfl,g5,g6⟩
 .simp only[Kcn];exact .ma _ _ _ (KbK _)
 .have bP:=h.own O hb g1;have bu:=bP.du;rw[g3]at bu;obtain⟨_,aA,cur,fZ,c1,c2,c3,c4,c5⟩:=bu;obtain⟨cur',ty',d1,d2⟩:=g5;rw[c1]at d1;cases d1;have kB:o+cap=fZ:=by rw[c2]at d2;exact(KbB bP.mA d2).symm
  subst kB;have hlen:((hb.xs.drop o).take n).length=n:=by simp;omega
  have gg:∀(i:Nat)(x:PV),((hb.xs.drop o).take n)[i]? =some x->i<n/\hb.xs[o+i]? =some x:=λi x hx=>by
   have hi:i<n:=by have:=(Kah.1 hx).1;omega
   rw[KaM hi,Ka1]at hx;exact⟨hi,hx⟩
  have:=Qn.sl (w:=w) (X:=zb C ρ hp l) hb.e ((hb.xs.drop o).take n) b (o*hb.e) cap (λi j=>cur.getD ((o+i)*hb.e+j) undef) (λFf=>Ff.2 ⟨O,zW,g3⟩) aA Oz Oz
   (λi x hx=>(bP.len _ x (gg i x hx).2).1)
   (λi hi j hj=>by rw[hlen]at hi;have:=o6 (i:=o+i) (e:=hb.e) (o:=0) (j:=j) (n:=hb.e) (cap:=o+cap) Oz Oz hj;rw[KaW]at this;rw[show o*hb.e+i*hb.e+j=(o+i)*hb.e+j by rw[KaL]];exact nC c1 (by rw[c2];exact this))
   (λi x hx j y hy=>(c5 _ x (gg i x hx).2 j y hy).zg)
  rwa[hlen]at this
def GV(h:Qt C ρ fr hp tmps w){v:Value}{l:List Nat}(hr:dy C ρ hp w p v)(hl:∀O∈p.cm,O∈l)(hu:(gZ hp p).aJ=true)(rV:∀f a b,p≠ .fn f a b):bS w (zb C ρ hp l) (gZ hp p) v:=by
 cases p with
 | mp O i o=>
  obtain⟨b,hb,g1,g2,rfl⟩:=hr;have zW:=hl O (by simp[PV.cm]);have bP:=h.own O hb g2;have bu:=bP.du;rw[g1]at bu;obtain⟨_,aA,cur,cap,c1,c2,c3,c4,c5⟩:=bu;simp only[gZ,g2]at hu⊢;cases hx:hb.xs[i]? with
  |none=>simp[hx,PV.aJ]at hu
  | some x=>
   have hi:i<hb.xs.length:=(Kah.1 hx).1;have ff:=(bP.len i x hx).1;refine Qn.pt _ b _ (λj=>cur.getD (i*hb.e+o+j) undef) (λFf=>Ff.2 ⟨O,zW,g1⟩) aA (λj hj=>?_) (λj y hy=>?_)
   .have dz:o+(j+1)<=hb.e:=by simp[ff]at hj;omega
    exact nC c1 (by rw[c2];exact o6 Oz dz (Kce j))
   .rw[Ka1]at hy;rw[Kb5];exact(c5 i x hx (o+j) y hy).zg
 |aD O o n=>obtain⟨hb,g1,_⟩:=id hr;simp only[gZ,g1];exact fV.zg h hr (hl O (by simp[PV.cm])) g1
 | rb O o n=>
  obtain⟨b,u,rfl,e2,e3,e4,hb,g1,e5⟩:=hr;simp only[gZ,g1];refine Qn.pt _ b 0 (λ_=>u) (λhx=>e3 hx.1) e2 (λj hj=>?_) (λj y hy=>?_)
  .obtain rfl:j=0:=by simpa using hj
   simpa using e4
  .cases j with
   |zero=>simp at hy;subst hy;exact fV.zg h ⟨hb,g1,e5⟩ (hl O (by simp[PV.cm])) g1
   |succ j=>simp at hy
 |undef=>simp[gZ,PV.aJ]at hu
 |fn f a b=>exact absurd rfl (rV f a b)
 |aI=>simp[gZ,PV.aJ]at hu
 |aK=>simp[gZ,PV.aJ]at hu
 |np=>simp[gZ,PV.aJ]at hu
 |aU=>simp[gZ,PV.aJ]at hu
 |fH=>simp[gZ,PV.aJ]at hu
 |dQ=>simp[gZ,PV.aJ]at hu
 |aH=>simp[gZ,PV.aJ]at hu
 |agg=>cases hr
 |_=>exact Qn.zg hr
end Go.FW
namespace Go.FW
open Go
variable {C : Ctx} {ρ : Nat -> Option Nat} {fr : Fr} {hp : HP} {w : World} {K K' R : Qf}
variable{P:Program}{g:FuncId}{pr:Bool}{tmps:Array Value}{v:Value}
def PV.yh:PV->Bool
 |.fn .. =>false
 |p=>p.aJ
def Wj{p:PV}(h:p.yh=true):p.aJ=true/\∀f a b,p≠ .fn f a b:=by cases p<;>simp_all[PV.yh,PV.aJ]
def afa(h:Qt C ρ fr hp tmps w){p:PV}{l:List Nat}(hr:Qj C ρ hp w p v)(hl:∀O∈p.refs,O∈l)(hu:(gZ hp p).yh=true):bS w (zb C ρ hp l) (gZ hp p) v:=by
 obtain⟨hd,rV⟩:=Wj hu;cases p with
 |mp O i o=>exact GV (p:=.mp O i o) h hr (λbq oP=>hl bq oP) hd (by simp)
 |aD O o n=>exact GV (p:=.aD O o n) h hr (λbq oP=>hl bq oP) hd (by simp)
 |rb O o n=>exact GV (p:=.rb O o n) h hr (λbq oP=>hl bq oP) hd (by simp)
 |fn f a b=>exact absurd rfl (rV f a b)
 |undef=>simp[gZ,PV.yh,PV.aJ]at hu
 |aI=>simp[gZ,PV.yh,PV.aJ]at hu
 |agg cs=>exact bS.mono (p:=.agg cs) hr (λ_ _ _=>rfl) (λ_ _ hn hx=>hn hx.1) (Kag _)
 |aK=>simp[gZ,PV.aJ]at hd
 |np=>simp[gZ,PV.aJ]at hd
 |aU=>simp[gZ,PV.aJ]at hd
 |fH=>simp[gZ,PV.aJ]at hd
 |dQ=>simp[gZ,PV.aJ]at hd
 |aH=>simp[gZ,PV.aJ]at hd
 |_=>exact Qn.zg hr
def Wl(h:Qt C ρ fr hp tmps w){p:PV}{l:List Nat}(hr:dy C ρ hp w p v)(hl:∀O∈p.refs,O∈l)(hu:(gZ hp p).yh=true):bS w (zb C ρ hp l) (gZ hp p) v:=by
 obtain⟨hd,rV⟩:=Wj hu;refine GV h hr (λO ao=>hl O ?_) hd ?_
 .cases p<;>simp_all[PV.cm,PV.refs]
 .intro f a b hp';subst hp';exact rV f a b rfl
def ag4(hP:C.P=P){first cap args aQ:List PV}{d:Option Nat}{r:PV}(h:Qa P g aQ (· =r))(cF:(first++args++cap).map (gZ hp)=aQ)(fm:aQ.all PV.yh=true)(hr:r.OQ=true)
  (hK:K (dj fr d r) hp):eI C pr (.fn g first cap) args d fr hp K:=by
 subst hP;refine⟨h.1,λρ tmps w fv cv av qI hs h1 h2 h3 pM jX oJ=>?_⟩;refine(h.2 w (zb C ρ hp ((first++args++cap).flatMap PV.refs)) (fv++av++cv) (λb hb=>DA hs b hb.1) (by rw[<-cF];simp[h1,h2,h3]) (λi x hx=>?_)).mono ?_
 .have zy:x.yh=true:=by rw[Kas]at fm;exact fm x (Kaj hx)
  rw[<-cF]at hx;simp only[Kaw,Kaa]at hx;obtain⟨p,hp',rfl⟩:=hx;have eV:=Kaj hp';have hl:∀O∈p.refs,O∈(first++args++cap).flatMap PV.refs:=λO ao=>Kat.2 ⟨p,eV,ao⟩
  rw[lP];rw[KaV]at hp';by_cases c1:i<(first++args).length
  .rw[if_pos c1]at hp';rw[if_pos (by simp only[Kb4,h1,h3];simpa using c1),lP];rw[KaV]at hp';by_cases c2:i<first.length
   .rw[if_pos c2]at hp';rw[if_pos Oz];exact Wl hs (pM i p hp') hl zy
   .rw[if_neg c2]at hp';rw[if_neg Oz,h1];exact afa hs (oJ _ p hp') hl zy
  .rw[if_neg c1]at hp';have fF:(fv++av).size=(first++args).length:=by simp[h1,h3]
   rw[if_neg Oz,fF];exact Wl hs (jX _ p hp') hl zy
 .rintro e w' ⟨v,r',rfl,hx,dO,rfl⟩;exact⟨v,_,_,rfl,⟨ρ,(hs.grow hx).JS (Qj.JD (aiR hr dO)) qI⟩,λ_=>hx,hK⟩
end Go.FW
namespace Go.FW
variable{a b:List Nat}{i:Nat}
def mU:List Nat->List Nat->Nat->List Nat
 | [],_,_=>[]
 |x::xs,ys,c=>(c+x+ys.headD 0)%65536::mU xs ys.tail ((c+x+ys.headD 0)/65536)
def VD:∀(a b:List Nat)(c:Nat),(mU a b c).length=a.length
 | [],_,_=>rfl
 |x::xs,b,c=>by simp[mU,VD xs]
def Wm:∀(a b:List Nat)(c:Nat),Qk (mU a b c)
 | [],_,_=>qc
 |x::xs,b,c=>by rw[mU,jK];exact⟨by omega,Wm xs _ _⟩
def ag5{c:Nat}(h:i<a.length):mU (a.drop i) (b.drop i) c=(c+a[i]+b.getD i 0)%65536::mU (a.drop (i+1)) (b.drop (i+1)) ((c+a[i]+b.getD i 0)/65536):=by rw[KaB h,mU];simp[KbI,Kcs,Kac]
def Rl:∀(a b:List Nat)(c:Nat),b.length<=a.length->∃k,val (mU a b c)+65536^a.length*k=val a+val b+c
 | [],b,c,h=>by have:b=[]:=KaE.1 (by simpa using h);subst this;exact⟨c,by simp[mU,val]⟩
 |x::xs,b,c,h=>by
  obtain⟨k,hk⟩:=Rl xs b.tail ((c+x+b.headD 0)/65536) (by simp at h ⊢;omega);refine⟨k,?_⟩;rw[mU,val,val,CF b,KaX,KbA,KaU (65536^xs.length) 65536,Kbg];generalize 65536^xs.length*k=z at *
  generalize b.headD 0=y at *
  omega
def gR:List Nat->List Nat->Nat->Nat->Nat->List Nat×Nat×Nat
 | [],_,_,c,b=>([],c,b)
 |x::xs,ys,q,c,b=>
  let r:=gR xs ys.tail q ((c+q*ys.headD 0)/65536) (if x<(c+q*ys.headD 0)%65536+b then 1 else 0)
  ((x+65536-(c+q*ys.headD 0)%65536-b)%65536::r.1,r.2)
def VE:∀(a v:List Nat)(q c b:Nat),(gR a v q c b).1.length=a.length
 | [],_,_,_,_=>rfl
 |x::xs,v,q,c,b=>by simp[gR,VE xs]
def Wn:∀(a v:List Nat)(q c b:Nat),Qk (gR a v q c b).1
 | [],_,_,_,_=>qc
 |x::xs,v,q,c,b=>by simp only[gR];rw[jK];exact⟨by omega,Wn xs _ _ _ _⟩
def ag6{v:List Nat}{q c b:Nat}(h:i<a.length):gR (a.drop i) (v.drop i) q c b=
    ((a[i]+65536-(c+q*v.getD i 0)%65536-b)%65536::(gR (a.drop (i+1)) (v.drop (i+1)) q ((c+q*v.getD i 0)/65536) (if a[i]<(c+q*v.getD i 0)%65536+b then 1 else 0)).1,
     (gR (a.drop (i+1)) (v.drop (i+1)) q ((c+q*v.getD i 0)/65536) (if a[i]<(c+q*v.getD i 0)%65536+b then 1 else 0)).2):=by
  rw[KaB h,gR];simp[KbI,Kcs,Kac]
def Rm:∀(a v:List Nat)(q c b:Nat),Qk a->b<=1->v.length<=a.length->
  val (gR a v q c b).1+(q*val v+c+b)=val a+65536^a.length*((gR a v q c b).2.1+(gR a v q c b).2.2)/\(gR a v q c b).2.2<=1
 | [],v,q,c,b,_,hb,h=>by have:v=[]:=KaE.1 (by simpa using h);subst this;simp[gR,val,hb]
 |x::xs,v,q,c,b,ha,hb,h=>by
  rw[jK]at ha;have aE:(if x<(c+q*v.headD 0)%65536+b then 1 else 0)<=1:=by split<;>omega
  obtain⟨ih,OP⟩:=Rm xs v.tail q ((c+q*v.headD 0)/65536) (if x<(c+q*v.headD 0)%65536+b then 1 else 0) ha.2 aE (by simp at h ⊢;omega);refine⟨?_,OP⟩;simp only[gR];rw[val,val,CF v,KaX,KbA,KaU (65536^xs.length) 65536,Kbg,Ka0 q,KbE q 65536];generalize gR xs v.tail q ((c+q*v.headD 0)/65536) (if x<(c+q*v.headD 0)%65536+b then 1 else 0)=r at *
  generalize 65536^xs.length*(r.2.1+r.2.2)=z at *
  generalize q*v.headD 0=y at *
  generalize q*val v.tail=t at *
  have h0:=ha.1;split at ih
  .omega
  .omega
open Go
variable {fr : Fr} {hp : HP}
variable{aN:PV->List PV->Prop}{len n o ty:Nat}{p:PV}{xs':List PV}
def aqc(hB:hp B0=some ⟨1,ty,xs',false⟩)(hi:pb xs')(hl:xs'.length=len)(hp':aN (.aI []) xs'):vD [] ty len aN fr hp:=
 ⟨xs',hB,hi,hl,.inl ⟨by simp,.aI [],trivial,by simp,hp'⟩⟩
def TE{s:Nat}(hB:hp B0=some ⟨1,ty,xs',false⟩)(hi:pb xs')(hl:xs'.length=len)(hs:Qr hp (fr s)=p)(hd:p.aJ=true)(hp':aN p xs'):vD [.t s] ty len aN fr hp:=
 ⟨xs',hB,hi,hl,.inl ⟨by simp only[mI];rw[hs];exact hd,p,by simp only[lK];rw[hs];exact Qi p,λO o n e=>by subst e;simp[PV.aJ]at hd,hp'⟩⟩
def Sn{s:Nat}(hB:hp B0=some ⟨1,ty,xs',false⟩)(hi:pb xs')(hl:xs'.length=len)(hs:fr s= .aD B0 o n)(hp':aN (.aD B0 o n) xs'):vD [.t s] ty len aN fr hp:=
 ⟨xs',hB,hi,hl,.inr ⟨s,o,n,rfl,hs,hp'⟩⟩
end Go.FW
namespace Go.FW
open Go
variable {C : Ctx} {fr : Fr} {hp : HP} {K : Qf}
variable{O d e i n o s x:Nat}{bt:Bool}{k k':IntKind}{l:List Nat}
def DB{a b:Nat}(h:b<2^i):a*2^i|||b=a*2^i+b:=by rw[<-Nat.shiftLeft_eq,Nat.shiftLeft_add_eq_or_of_lt h]
def Tr{bt:Bool}{x y d:Nat}(hx:x<18446744073709551616)(hy:y<18446744073709551616):cJ .or bt (.int .u64 (x:Int)) (.int .u64 (y:Int)) d fr hp K=K (ae fr d (.int .u64 ((x|||y:Nat):Int))) hp:=by
 have h1:(BitVec.ofInt 64 (x:Int)|||BitVec.ofInt 64 (y:Int)).toNat=x|||y:=by rw[BitVec.toNat_or,BitVec.ofInt_natCast,BitVec.ofInt_natCast,BitVec.toNat_ofNat,BitVec.toNat_ofNat,KaP hx,KaP hy]
 have h2:x|||y<18446744073709551616:=Nat.or_lt_two_pow (n:=64) hx hy;simp only[cJ,IntKind.bits,h1,true_and];rw[vf Oz Oz];exact congrArg (λz:Nat=>K (ae fr d (.int .u64 (z:Int))) hp) h1
def Ts{y:Nat}(hx:x<4294967296)(hy:y<4294967296):cJ .or bt (.int .u32 (x:Int)) (.int .u32 (y:Int)) d fr hp K=K (ae fr d (.int .u32 ((x|||y:Nat):Int))) hp:=by
 have h1:(BitVec.ofInt 32 (x:Int)|||BitVec.ofInt 32 (y:Int)).toNat=x|||y:=by rw[BitVec.toNat_or,BitVec.ofInt_natCast,BitVec.ofInt_natCast,BitVec.toNat_ofNat,BitVec.toNat_ofNat,KaP hx,KaP hy]
 have h2:x|||y<4294967296:=Nat.or_lt_two_pow (n:=32) hx hy;simp only[cJ,IntKind.bits,h1,true_and];rw[Hc Oz Oz];exact congrArg (λz:Nat=>K (ae fr d (.int .u32 (z:Int))) hp) h1
def aqd{bt:Bool}{x y d:Nat}(hx:x<65536)(hy:y<65536):cJ .or bt (.int .u16 (x:Int)) (.int .u16 (y:Int)) d fr hp K=K (ae fr d (.int .u16 ((x|||y:Nat):Int))) hp:=by
 have h1:(BitVec.ofInt 16 (x:Int)|||BitVec.ofInt 16 (y:Int)).toNat=x|||y:=by rw[BitVec.toNat_or,BitVec.ofInt_natCast,BitVec.ofInt_natCast,BitVec.toNat_ofNat,BitVec.toNat_ofNat,KaP hx,KaP hy]
 have h2:x|||y<65536:=Nat.or_lt_two_pow (n:=16) hx hy;simp only[cJ,IntKind.bits,h1,true_and];rw[ain Oz Oz];exact congrArg (λz:Nat=>K (ae fr d (.int .u16 (z:Int))) hp) h1
def So{bt:Bool}{k':IntKind}{x s d:Nat}(hs:s<=64)(h:x*2^s<18446744073709551616):cJ .shl bt (.int .u64 (x:Int)) (.int k' (s:Int)) d fr hp K=K (ae fr d (.int .u64 ((x*2^s:Nat):Int))) hp:=by
 have h0:(0:Int)<=s:=Oz;have h1:min ((s:Int).toNat) IntKind.u64.bits=s:=by simp[IntKind.bits];omega
 simp only[cJ,h0,true_and,h1];rw[show(x:Int)*2^s=((x*2^s:Nat):Int)by push_cast;rfl,vf Oz Oz]
def R6{bt:Bool}{k':IntKind}{x s d:Nat}(hs:s<=32)(h:x*2^s<4294967296):cJ .shl bt (.int .u32 (x:Int)) (.int k' (s:Int)) d fr hp K=K (ae fr d (.int .u32 ((x*2^s:Nat):Int))) hp:=by
 have h0:(0:Int)<=s:=Oz;have h1:min ((s:Int).toNat) IntKind.u32.bits=s:=by simp[IntKind.bits];omega
 simp only[cJ,h0,true_and,h1];rw[show(x:Int)*2^s=((x*2^s:Nat):Int)by push_cast;rfl,Hc Oz Oz]
def Mb{bt:Bool}{k':IntKind}{x d:Nat}(h:x<281474976710656):cJ .shl bt (.int .u64 (x:Int)) (.int k' 16) d fr hp K=K (ae fr d (.int .u64 ((x*65536:Nat):Int))) hp:=
 So (s:=16) Oz Oz
def Mc{bt:Bool}{k':IntKind}{x d:Nat}(h:x<65536):cJ .shl bt (.int .u32 (x:Int)) (.int k' 16) d fr hp K=K (ae fr d (.int .u32 ((x*65536:Nat):Int))) hp:=
 R6 (s:=16) Oz Oz
def Ke{bt:Bool}{k':IntKind}{x s d:Nat}(hs:s<=32):cJ .shr bt (.int .u32 (x:Int)) (.int k' (s:Int)) d fr hp K=K (ae fr d (.int .u32 ((x/2^s:Nat):Int))) hp:=by
 rw[KE Oz];have h1:min ((s:Int).toNat) IntKind.u32.bits=s:=by simp[IntKind.bits];omega
 rw[h1,KcO _ (Int.pow_nonneg Oz)];rw[show(x:Int)/2^s=((x/2^s:Nat):Int)by push_cast;rfl]
def ML{bt:Bool}{x y d:Nat}(hx:x<281474976710656)(hy:y<65536):cJ .or bt (.int .u64 ((x*65536:Nat):Int)) (.int .u64 (y:Int)) d fr hp K=K (ae fr d (.int .u64 ((x*65536+y:Nat):Int))) hp:=by rw[Tr Oz Oz,show x*65536|||y=x*65536+y from DB (i:=16) hy]
def ai8{bt:Bool}{x y d:Nat}(hx:x<65536)(hy:y<65536):cJ .or bt (.int .u32 ((x*65536:Nat):Int)) (.int .u32 (y:Int)) d fr hp K=K (ae fr d (.int .u32 ((x*65536+y:Nat):Int))) hp:=by rw[Ts Oz Oz,show x*65536|||y=x*65536+y from DB (i:=16) hy]
def Pz{y:Nat}(hx:x<65536)(hy:y<65536):cJ .or bt (.int .u32 (y:Int)) (.int .u32 ((x*65536:Nat):Int)) d fr hp K=K (ae fr d (.int .u32 ((x*65536+y:Nat):Int))) hp:=by rw[Ts Oz Oz,Nat.or_comm,show x*65536|||y=x*65536+y from DB (i:=16) hy]
def Kf{y:Nat}(hy:0<y)(hw:k.wrap ((x/y:Nat):Int)=((x/y:Nat):Int)):cJ .quo bt (.int k (x:Int)) (.int k (y:Int)) d fr hp K=K (ae fr d (.int k ((x/y:Nat):Int))) hp:=by have:(y:Int)≠0:=Oz;simp only[cJ,ne_eq,this,not_false_eq_true,true_and];rw[alg Oz,<-hw];rfl
def sw{bt:Bool}{k:IntKind}{x y d:Nat}(hy:0<y):cJ .rem bt (.int k (x:Int)) (.int k (y:Int)) d fr hp K=K (ae fr d (.int k ((x%y:Nat):Int))) hp:=by have:(y:Int)≠0:=Oz;simp only[cJ,ne_eq,this,not_false_eq_true,true_and];rw[ak1 Oz];rfl
def agJ(h:n<18446744073709551616):IntKind.u64.wrap (n:Int)=n:=vf Oz Oz
def agK(h:n<4294967296):IntKind.u32.wrap (n:Int)=n:=Hc Oz Oz
def agL(h:n<9223372036854775808):IntKind.i64.wrap (n:Int)=n:=yD Oz Oz
def Dm{bt:Bool}{x y d:Nat}(hy:0<y)(hx:x<18446744073709551616):cJ .quo bt (.int .u64 (x:Int)) (.int .u64 (y:Int)) d fr hp K=K (ae fr d (.int .u64 ((x/y:Nat):Int))) hp:=
 Kf hy (agJ (KcD (KcG x y) hx))
def als{bt:Bool}{x y d:Nat}(hy:0<y)(hx:x<4294967296):cJ .quo bt (.int .u32 (x:Int)) (.int .u32 (y:Int)) d fr hp K=K (ae fr d (.int .u32 ((x/y:Nat):Int))) hp:=
 Kf hy (agK (KcD (KcG x y) hx))
def Ht{y:Nat}(hy:0<y)(hx:x<9223372036854775808):cJ .quo bt (.int .i64 (x:Int)) (.int .i64 (y:Int)) d fr hp K=K (ae fr d (.int .i64 ((x/y:Nat):Int))) hp:=
 Kf hy (agL (KcD (KcG x y) hx))
def alu{H:Nat}(h:H<=n)(he:(hp O).map (·.e)=some e):jI e (.aD O o n) none (some (.int k (H:Int))) none d fr hp K=K (ae fr d (.aD O o H)) hp:=by have h1:(H:Int)<=(n:Int):=Oz;simp[jI,jL,he,h1]
def alv{L H:Nat}(h1:L<=H)(h:H<=n)(h0:L<n)(he:(hp O).map (·.e)=some e):jI e (.aD O o n) (some (.int k (L:Int))) (some (.int k' (H:Int))) none d fr hp K=K (ae fr d (.aD O (o+L) (H-L))) hp:=by have q1:(H:Int)<=(n:Int):=Oz;have q2:(L:Int)<=(H:Int):=Oz;have q3:(L:Int)<(n:Int):=Oz;simp[jI,jL,he,q1,q2,q3]
def PA{bt:Bool}{x d:Nat}(hx:x<9223372036854775808):cJ .quo bt (.int .i64 (x:Int)) (.int .i64 16) d fr hp K=K (ae fr d (.int .i64 ((x/16:Nat):Int))) hp:=
 Ht (y:=16) Oz hx
def Pb{bt:Bool}{x d:Nat}:cJ .rem bt (.int .i64 (x:Int)) (.int .i64 16) d fr hp K=K (ae fr d (.int .i64 ((x%16:Nat):Int))) hp:=
 sw (y:=16) Oz
def qm(s:Nat):List Nat->Nat->List Nat
 | [],c=>[c]
 |x::xs,c=>((x*2^s)%65536+c)::qm s xs (x*2^s/65536)
def Rn(s:Nat):∀(l:List Nat)(c:Nat),val (qm s l c)=val l*2^s+c
 | [],c=>by simp[qm,val]
 |x::xs,c=>by rw[qm,val,Rn s xs,val,KaL,Kbg];generalize x*2^s=y;generalize val xs*2^s=z;omega
def Md(h:s<=16):(65536:Nat)=2^s*2^(16-s):=by rw[<-Nat.pow_add,show s+(16-s)=16 by omega]
def Ro{c:Nat}(h:s<=16)(hc:c<2^s):(x*2^s)%65536+c<65536/\c|||(x*2^s)%65536=(x*2^s)%65536+c:=by
 have e:(x*2^s)%65536=(x%2^(16-s))*2^s:=by rw[Md h,KaU x,Nat.mul_mod_mul_left,KaU]
 have h1:x%2^(16-s)<2^(16-s):=Kbo _ (Kb0 Oz);have h2:(x%2^(16-s)+1)*2^s<=2^(16-s)*2^s:=Kap _ h1;rw[KaL,KaU (2^(16-s)),<-Md h]at h2;rw[e];refine⟨by omega,?_⟩;rw[Nat.or_comm,DB hc]
def Pc(h:s<=16)(hx:x<65536):x*2^s/65536<2^s:=by rw[Kba Oz,KaU];exact Nat.mul_lt_mul_of_pos_left hx (Kb0 Oz)
def Wo{s:Nat}(h:s<=15):∀(l:List Nat)(c:Nat),Qk l->c<2^s->Qk (qm s l c)
 | [],c,_,hc=>by have:2^s<=2^15:=KbG Oz h;simp[qm,Qk];omega
 |x::xs,c,hl,hc=>by rw[jK]at hl;rw[qm,jK];exact⟨(Ro Oz hc).1,Wo h xs _ hl.2 (Pc Oz hl.1)⟩
def VF(s:Nat):∀(l:List Nat)(c:Nat),(qm s l c).length=l.length+1
 | [],_=>rfl
 |x::xs,c=>by simp[qm,VF s xs]
def aqe(h:s<=15)(hx:x<65536):x*2^s<2147483648:=by have:2^s<=2^15:=KbG Oz h;have:=KaZ (show x<=65535 by omega) this;omega
def Rp(l:List Nat):∀n,n<=l.length->cut l n=l.take (cut l n).length
 |0,_=>by simp[cut]
 |n+1,h=>by
  unfold cut;split
  .exact Rp l n Oz
  .rw[Kay,Kb1 h]
def ai9(h:Qk l):l.take (nl (val l))=aw (val l):=by have:=Rp l l.length (Kag _);rw[Di h]at this;exact this.symm
end Go.FW
namespace Go.FW
open Go
variable{P:Program}{args ys:List PV}
def Dl.toV{f:FuncId}{ty:TypeId}(h:Dl P f args ty (· =ys)):Qa P f args (· = .sl 1 ys):=by
 refine⟨h.1,λw X aL hX h2 h3=>(h.2 w X aL hX h2 h3).mono ?_⟩;rintro e w' ⟨v,b,cap,ys',rfl,rfl,hb,hx,hI,eY,hm,rfl⟩;refine⟨_,_,rfl,hx,?_,rfl⟩;obtain⟨hint,cur,cp,i1,i2,i3,i4,i5⟩:=hI;obtain⟨cur',ty',d1,d2⟩:=eY;rw[i1]at d1;cases d1;have pF:b<w'.heap.size:=(Kbp.1 i1).1;have e:cp=cap:=Oz;subst e;refine Qn.sl (w:=w') (X:=X) 1 ys' b 0 cp (λi j=>cur.getD (i+j) undef) (λFf=>by have:=hX b Ff;omega) pF i3 i4 (He hint |> λh i x hx=>(h i x hx).1) (λi hi j hj=>?_) (λi x hx j y hy=>?_)
 .have:j=0:=Oz;subst this;simp only[Ka2,KbR,KaW];exact nC i1 Oz
 .obtain⟨k,n,rfl⟩:=hint x (Kaj hx);cases j with
  |zero=>simp[PV.cells]at hy;subst hy;show Qn w' X (.int k n) (cur.getD (i+0) undef);rw[KaW,i5 i k n hx];exact Qn.int k n
  |succ j=>simp[PV.cells]at hy
variable{i s x:Nat}{l:List Nat}
def pd(s:Nat):List Nat->List Nat
 | []=>[]
 |x::xs=>((xs.headD 0*65536+x)/2^s)%65536::pd s xs
def LA(s:Nat):∀l,(pd s l).length=l.length
 | []=>rfl
 |x::xs=>by simp[pd,LA s xs]
def VS(s:Nat):∀l,Qk (pd s l)
 | []=>qc
 |x::xs=>by rw[pd,jK];exact⟨by omega,VS s xs⟩
def agM(h:i<l.length):pd s (l.drop i)=((l.getD (i+1) 0*65536+l[i])/2^s)%65536::pd s (l.drop (i+1)):=by rw[KaB h,pd];simp[KbI,Kcs,Kac]
def aja{V:Nat}(hs:s<=16)(hx:x<65536):(x+65536*V)/2^s=((V%65536*65536+x)/2^s)%65536+65536*(V/2^s):=by
 have hp:0<2^s:=Kb0 Oz;have e0:=Kbe V (2^s);have hr:=Kbo V hp;generalize hq:V/2^s=q at *
 generalize rY:V%2^s=r at *
 have hy:V%65536%2^s=r:=by rw[Md hs,Nat.mod_mul_right_mod];exact rY
 have e1:=Kbe (V%65536) (2^s);rw[hy]at e1;generalize V%65536/2^s=t at *
 have aA:(65536*r+x)/2^s<65536:=by rw[Kba hp];have:65536*(r+1)<=65536*2^s:=Ka8 _ hr;omega
 have k1:x+65536*V=(65536*r+x)+2^s*(65536*q):=by rw[<-e0,Ka0,KbE];omega
 have k2:V%65536*65536+x=(65536*r+x)+2^s*(65536*t):=by rw[<-e1,KaL,Kbg,KaU t 65536];omega
 rw[k1,k2,Kcq _ _ hp,Kcq _ _ hp,Kco,KaP aA]
def Rq{s:Nat}(hs:s<=16):∀l,Qk l->val (pd s l)=val l/2^s
 | [],_=>by simp[pd,val]
 | x::xs,h=>by
  rw[jK]at h;rw[pd,val,Rq hs xs h.2,val,aja hs h.1];have:xs.headD 0=val xs%65536:=by
   cases xs with
   |nil=>simp[val]
   |cons y ys=>have:=h.2 y (by simp);simp[val];omega
  rw[this]
variable {C : Ctx} {ρ : Nat -> Option Nat} {fr aG : Fr} {hp : HP} {w : World} {K K' R R' : Qf}
variable{tmps:Array Value}
def cR(fr aG:Fr):Prop:=∀s,aG s=fr s\/aG s= .undef
def cR.refl(fr:Fr):cR fr fr:=λ_=>.inl rfl
def cR.trans{a b c:Fr}(h:cR a b)(k:cR b c):cR a c:=λs=>by
 rcases k s with e|e
 .rw[e];exact h s
 .exact .inr e
def cR.ae(h:cR fr aG)(d:Nat){v v':PV}(hv:v'=v\/v'= .undef):cR (ae fr d v) (ae aG d v'):=λs=>by
 unfold FW.ae;split
 .exact hv
 .exact h s
def cR.kE(h:cR fr aG)(d:Nat)(v:PV):cR (FW.ae fr d v) (FW.ae aG d v):=h.ae d (.inl rfl)
def cR.kill(h:cR fr aG)(O:Nat):cR (cI O fr) (cI O aG):=λs=>by
 unfold cI;rcases h s with e|e
 .exact .inl (by rw[e])
 .right;rw[e];simp[ct,PV.refs]
def cR.ev(h:cR fr aG)(x:aW):ev aG x=ev fr x\/ev aG x= .undef:=by
 cases x with
 |t n=>exact h n
 |c p=>exact .inl rfl
def cR.mem(h:cR fr aG){q:PV->Prop}(hq:¬q .undef){l:List aW}(hl:∀p∈l.map (FW.ev aG),q p):l.map (FW.ev aG)=l.map (FW.ev fr):=by
 refine KaF λx hx=>?_
 rcases h.ev x with e|e
 .exact e
 .exact absurd (e▸hl _ (Kcv hx)) hq
def cR.aH(h:cR fr aG){γ bo e ty:Nat}{xs:List PV}(e1:aG γ= .aH bo e ty xs):fr γ= .aH bo e ty xs:=by
 rcases h γ with e2|e2
 .rw[<-e2];exact e1
 .rw[e1]at e2;cases e2
def cR.drop(h:cR fr aG)(γ:Nat):cR (gC γ fr) (gC γ aG):=λs=>by
 unfold gC;rcases h s with e|e
 .exact .inl (by rw[e])
 .right;rw[e];rfl
def cR.take(h:cR fr aG)(O:Nat):cR (gP O fr) (gP O aG):=λs=>by
 unfold gP;rcases h s with e|e
 .exact .inl (by rw[e])
 .right;rw[e];simp[dF,ct,PV.refs]
def cR.wk(h:cR fr aG):Wk fr hp aG hp:=by
 rintro C tmps w ⟨ρ,hs⟩;refine⟨ρ,hs.sz,hs.ext,hs.fG,hs.own,hs.inj,λs=>?_⟩;rcases h s with h|h<;>rw[h]
 .exact hs.cQ s
 .trivial
def cR.sim(h:cR fr aG)(hs:Qt C ρ fr hp tmps w):Qt C ρ aG hp tmps w:=by
 refine⟨hs.sz,hs.ext,hs.fG,hs.own,hs.inj,λs=>?_⟩;rcases h s with h|h<;>rw[h]
 .exact hs.cQ s
 .trivial
def K4(h:cR fr aG)(x:Option aW):x.map (ev aG)=x.map (ev fr)\/x.map (ev aG)=some .undef:=by
 cases x with
 |none=>exact .inl rfl
 |some x=>rcases h.ev x with e|e<;>simp[e]
def Q3i(d:Int):jL d (some .undef)=none:=rfl
def Kg (h:cR fr aG) (hK:∀f f' hp,cR f f'->K' f' hp->K f hp) (o:cZ):bK C o aG hp K'->bK C o fr hp K:=by
 have hu:∀(d:Nat)(v:PV)(hp:HP),K' (ae aG d v) hp->K (ae fr d v) hp:=λd v hp H=>hK _ _ _ (h.kE d v) H
 have hk:∀(O d:Nat)(v:PV)(hp:HP),K' (ae (cI O aG) d v) hp->K (ae (cI O fr) d v) hp:=λO d v hp H=>hK _ _ _ ((h.kill O).kE d v) H
 have hz:∀hp,K' aG hp->K fr hp:=λhp H=>hK _ _ _ h H
 have mono:∀ {o:cZ},bK C o fr hp K'->bK C o fr hp K:=λH=>MK (λf hp H=>hK _ _ _ (cR.refl f) H) _ H
 cases o with
 |mv d x=>exact λH=>hK _ _ _ (h.ae d (h.ev x)) H
 | pick d c a b=>
  simp only[bK,vB];rcases h.ev c with e|e
  .rw[e];split
   .exact λH=>⟨λt=>hK _ _ _ (h.ae d (h.ev a)) (H.1 t),λt=>hK _ _ _ (h.ae d (h.ev b)) (H.2 t)⟩
   .exact id
  .rw[e];exact False.elim
 | call d pr f args=>
  simp only[bK,eI];rcases h.ev f with e|e
  .rw[e];split
   .rintro⟨h1,h2⟩;refine⟨h1,λρ tmps w fv cv av a1 a2 a3 a4 a5 a6 a7 a8=>?_⟩;refine(h2 ρ tmps w fv cv av a1 (h.sim a2) a3 a4 (by simpa using a5) a6 a7 (λi x hx=>?_)).mono ?_
    .simp only[Kaw,Kaa]at hx;obtain⟨y,hy,rfl⟩:=hx;rcases h.ev y with e|e
     .rw[e];exact a8 i _ (by simp[hy])
     .rw[e];trivial
    .rintro e w' ⟨v,f1,hp',e1,e2,e3,e4⟩;exact⟨v,f1,hp',e1,e2,e3,hK _ _ _ (cR.refl _) e4⟩
   .exact id
  .rw[e];exact False.elim
 | bs d e ty ps=>
  simp only[bK,oz];by_cases hb:rH (ps.map (ev aG))=true
  .rw[if_pos hb];rintro⟨h1,h2⟩;have e:ps.map (ev aG)=ps.map (ev fr):=by
    match ps,hb with
    | [],hb=>simp[rH]at hb
    | [p],hb=>
     rcases h.ev p with e|e
     .simp[e]
     .rw[Ka3,Kbs,e]at hb;simp[rH,oe]at hb
    |p::q::ps,hb=>simp[rH]at hb
   rw[e]at h2 hb;rw[if_pos hb];exact⟨h1,hK _ _ _ (((h.take _).kE _ _).kE _ _) h2⟩
  .rw[if_neg hb];rintro⟨h1,h2,h3⟩;have e:=h.mem (q:=λp=>(Qr hp p).aJ=true) (by simp[Qr,cA,PV.aJ]) (l:=ps) (λp hp=>(h2 p hp).1);rw[e]at h2 h3 hb;rw[if_neg hb];exact⟨h1,h2,hk _ _ _ _ h3⟩
 | cD d z ps=>
  have key:((∀x∈ps,ev aG x.2.2≠ .undef)->(ps.map λp=>(p.1,p.2.1,ev aG p.2.2))=ps.map λp=>(p.1,p.2.1,ev fr p.2.2)):=λhu=>by
   refine KaF λx hx=>?_
   rcases h.ev x.2.2 with e|e
   .rw[e]
   .exact absurd e (hu x hx)
  intro H;simp only[bK,nJ]at H;split at H
  .rename_i hn;obtain⟨h2,h3⟩:=H;have e:=key λx hx e=>by obtain⟨cs,h4,_⟩:=h2 _ (Kcv hx);rw[e]at h4;simp[gM]at h4
   rw[e]at h2 h3 hn;simp only[bK,nJ];rw[if_pos hn];exact⟨h2,hK _ _ _ (h.kE _ _) h3⟩
  .rename_i hn;obtain⟨h2,h3⟩:=H;have e:=key λx hx e=>by have:=(h2 _ (Kcv hx)).1;rw[e]at this;simp[Qr,cA,PV.aJ]at this
   rw[e]at h2 h3 hn;simp only[bK,nJ];rw[if_neg hn];exact⟨h2,hK _ _ _ (h.kE _ _) h3⟩
 |fn d f first cap=>simp only[bK];rintro⟨h2,h3⟩;have m8:=h2;rw[List.all_append,Kav,Kas,Kas]at m8;have e1:=h.mem (q:=λp=>p.nr=true) (by simp[PV.nr]) m8.1;have e2:=h.mem (q:=λp=>p.nr=true) (by simp[PV.nr]) m8.2;rw[e1,e2]at h2 h3;exact⟨h2,hK _ _ _ (h.kE _ _) h3⟩
 | B7 d x=>
  simp only[bK,yR];rcases h.ev x with e|e
  .rw[e];intro H;revert H
   repeat' split
   all_goals first|exact id|exact hz _|exact hu _ _ _|grind
  .rw[e];intro H;revert H;repeat' split
   all_goals first|exact id|exact False.elim|grind
 | bin d op bt x y=>
  simp only[bK];rcases h.ev x with e|e<;>rcases h.ev y with e'|e'<;>rw[e,e']
  .unfold cJ;intro H;revert H;split
   .split<;>first|exact λH=>⟨H.1,hu _ _ _ H.2⟩|exact λH=>⟨H.1,H.2.1,hu _ _ _ H.2.2⟩|exact id
   .split<;>first|exact λH=>⟨H.1,hu _ _ _ H.2⟩|exact id
   .exact id
  all_goals
   unfold cJ;intro H;revert H
   repeat' split
   all_goals first|exact False.elim|(intros;simp_all;done)|(rename_i h1 _;cases h1;done)|(rename_i h1;cases h1;done)
 | sl d e x lo hi mx=>
  simp only[bK,jI];rcases h.ev x with e0|e0<;>rcases K4 h lo with e1|e1<;>rcases K4 h hi with e2|e2<;>rcases K4 h mx with e3|e3<;>rw[e0,e1,e2,e3]
  all_goals
   intro H;revert H
   try simp only[Q3i]
   repeat' split
   all_goals first|exact id|exact False.elim|(intros;simp_all;done)|grind
 | ld d n ag x=>
  simp only[bK,gU];rcases h.ev x with e|e
  .rw[e];intro H;revert H;split
   .split
    .exact λ⟨a,b,c,k⟩=>⟨a,b,c,hu _ _ _ k⟩
    .exact id
   .exact λ⟨a,b,k⟩=>⟨a,b,hu _ _ _ k⟩
   .exact λ⟨a,b,k⟩=>⟨a,b,hu _ _ _ k⟩
   .intro H;split at H
    .rename_i ak;rw[h.aH ak];obtain⟨a,b,c,d,k⟩:=H;exact⟨a,b,c,d,hu _ _ _ k⟩
    .exact H.elim
   .exact id
  .rw[e];exact λH=>H.elim
 | st n x y=>
  simp only[bK,pV];rcases h.ev x with e|e<;>rcases h.ev y with e'|e'<;>rw[e,e']
  .intro H;revert H;split
   .split
    .exact λ⟨a,b,c,d,f,k⟩=>⟨a,b,c,d,f,hz _ k⟩
    .exact id
   .intro H;split at H
    .rename_i ak;rw[h.aH ak];obtain⟨a,b,c,d,H⟩:=H;refine⟨a,b,c,d,?_⟩;revert H;split
     .exact λ⟨f,k⟩=>⟨f,hK _ _ _ ((h.drop _).kE _ _) k⟩
     .exact id
    .exact H.elim
   .exact id
  .intro H;exfalso;revert H;split
   .split
    .rintro⟨_,b,_⟩;simp[Qr,cA,PV.aJ]at b
    .exact id
   .split
    .rintro⟨_,_,_,_,H⟩;exact H
    .exact id
   .exact id
  .exact λH=>H.elim
  .exact λH=>H.elim
 | app d e by_ ty x y=>
  simp only[bK,jO];rcases h.ev y with e'|e'
  .rw [e'];intro H;revert H;split
   .unfold Bw;split
    .rename_i δ _;rcases h δ with e2|e2
     .rw [e2];split
      .rintro⟨a1,a2,a3,H⟩;refine⟨a1,a2,a3,?_⟩;rcases h.ev x with e|e
       .rw[e]at H;revert H;split
        .exact λH=>⟨H.1,hK _ _ _ (((h.take _).kE _ _).kE _ _) H.2⟩
        .rename_i γ k _;rcases h γ with e3|e3
         .rw[e3];split
          .exact λH=>⟨H.1,H.2.1,hK _ _ _ (((h.take _).kE _ _).kE _ _) H.2.2⟩
          .exact id
         .rw[e3];exact λH=>H.elim
        .exact id
       .rw[e]at H;exact H.elim
      .exact id
     .rw[e2];exact λH=>H.elim
    .exact id
   .rintro⟨h0,h1,H⟩;refine⟨h0,h1,?_⟩;rcases h.ev x with e|e
    .rw[e]at H;revert H;split
     .rintro⟨a,b,c⟩;exact⟨a,b,hk _ _ _ _ c⟩
     .split
      .rintro(⟨a1,a2,a3,a4,a5,a6,a7,c⟩|⟨a1,a2,a3,c⟩)
       .exact .inl ⟨a1,a2,a3,a4,a5,a6,a7,hk _ _ _ _ c⟩
       .exact .inr ⟨a1,a2,a3,hK _ _ _ ((h.take _).kE _ _) c⟩
      .exact id
     .exact id
    .rw[e]at H;exact H.elim
  .rw[e'];exact λH=>H.elim
 | un d op x|conv d k x|len d x|ym d x|zY d ng x|dI d o x|BJ d o n ag x|ext d x i=>
  all_goals
   simp only[bK,yo,yQ,rG,y9,ue,qp,tW,gU,ou]
   try (rcases h.ev x with e|e<;>rw[e])
  all_goals
   intro H;revert H
   repeat' split
   all_goals first|exact id|exact False.elim|exact hu _ _ _|grind [Qr,cA,PV.aJ]
 | box d n ty x=>
  simp only[bK];rcases h.ev x with e|e
  .rw[e];unfold fM;split
   .unfold xg;exact λH=>⟨H.1,hK _ _ _ (((h.take _).kE _ _).kE _ _) H.2⟩
   .split
    .exact hu _ _ _
    .exact λH=>⟨H.1,H.2.1,H.2.2.1,hk _ _ _ _ H.2.2.2⟩
  .rw[e];intro H;simp[fM,Qr,cA,PV.aJ]at H
 | alloc d n ty z=>
  simp only[bK];unfold fM;split
  .unfold xg;exact λH=>⟨H.1,hK _ _ _ (((h.take _).kE _ _).kE _ _) H.2⟩
  .split
   .exact hu _ _ _
   .exact λH=>⟨H.1,H.2.1,H.2.2.1,hk _ _ _ _ H.2.2.2⟩
 | eqs d ng x y|gj d ng x y|yl d x y|mx d x y|mn d x y|idx d e x y|qW d n e x y|B3 d n e ag x y|mk d e by_ ty z x y|vT d e x y=>
  all_goals
   simp only[bK,uc,ud,xe,z7,z5,ej,rB,xf,pV,pR,jO,sP];rcases h.ev x with e|e<;>rcases h.ev y with e'|e'<;>rw[e,e']
  all_goals
   intro H;revert H
   repeat' split
   all_goals first|exact id|exact False.elim|exact hu _ _ _|grind [Qr,cA,PV.aJ,kI]
 |bad d=>exact id
end Go.FW
namespace Go.FW
open Go
variable {C : Ctx} {ρ : Nat -> Option Nat} {fr aG : Fr} {hp : HP} {w : World} {K K' R R' : Qf}
variable{Rr:PV->Prop}{aN:PV->List PV->Prop}{sk:List It}{ty:TypeId}{v:PV}{x:SC}
def KM(K' K:Qf):Prop:=∀f f' hp,cR f f'->K' f' hp->K f hp
inductive pe:List It->List It->Prop
 |nil:pe [] []
 |c (s:SC) {a b:List It}:pe a b->pe (.c s::a) (.c s::b)
 |o (r:RT) {a b:List It}:pe a b->pe (.o r::a) (.o r::b)
 |eb (i:Nat) {a b:List It}:pe a b->pe (.eb i::a) (.eb i::b)
 |el {J' J:Qf} {a b:List It}:KM J' J->pe a b->pe (.el J'::a) (.el J::b)
def pe.exit{id:Nat}:∀ {a b:List It},pe a b->(∃a' b',FW.cS id a=some a'/\FW.cS id b=some b'/\pe a' b'/\cz a'<=cz a)\/(FW.cS id a=none/\FW.cS id b=none):=by
 intro a b h;induction h with
 |nil=>exact .inr ⟨rfl,rfl⟩
 |c s h ih|o s h ih=>
  rcases ih with⟨a',b',h1,h2,h3,h4⟩|⟨h1,h2⟩
  .exact .inl ⟨a',b',by simpa[FW.cS]using h1,by simpa[FW.cS]using h2,h3,by simp only[cz];omega⟩
  .exact .inr ⟨by simpa[FW.cS]using h1,by simpa[FW.cS]using h2⟩
 |el _ h ih=>
  rcases ih with⟨a',b',h1,h2,h3,h4⟩|⟨h1,h2⟩
  .exact .inl ⟨a',b',by simpa[FW.cS]using h1,by simpa[FW.cS]using h2,h3,by simp only[cz];omega⟩
  .exact .inr ⟨by simpa[FW.cS]using h1,by simpa[FW.cS]using h2⟩
 | eb i h ih=>
  by_cases hi:i=id
  .exact .inl ⟨_,_,by simp[FW.cS,hi],by simp[FW.cS,hi],h,by simp only[cz];omega⟩
  .rcases ih with⟨a',b',h1,h2,h3,h4⟩|⟨h1,h2⟩
   .exact .inl ⟨a',b',by simpa[FW.cS,hi]using h1,by simpa[FW.cS,hi]using h2,h3,by simp only[cz];omega⟩
   .exact .inr ⟨by simpa[FW.cS,hi]using h1,by simpa[FW.cS,hi]using h2⟩
def GW(h:cR fr aG)(hK:KM K' K)(o:cZ):lS o aG hp K'->lS o fr hp K:=by
 unfold lS;split
 .exact hK _ _ _ (h.kE _ _)
 .exact hK _ _ _ h
def ajb(h:cR fr aG)(hK:KM K' K)(g:Option (Nat×Bool))(o:cZ):iy C g o aG hp K'->iy C g o fr hp K:=by
 unfold iy;split
 .exact Kg h hK o
 .rename_i s want;rcases h s with e|e
  .rw[e];split
   .exact λH=>⟨λt=>Kg (h.kE _ _) hK o (H.1 t),λt=>GW (h.kE _ _) hK o (H.2 t)⟩
   .exact GW h hK o
   .exact id
  .rw[e];exact False.elim
def rA(hR:KM R' R):∀(n:Nat)(fI sk:List It)(aG fr:Fr)(hp:HP),cz fI<=n->pe fI sk->cR fr aG->vc C R' fI aG hp->vc C R sk fr hp:=by
 intro n;induction n with
 |zero=>
  intro fI sk aG fr hp hn hs hf h;cases hs with
  |nil=>rw[wW]at h ⊢;exact hR _ _ _ hf h
  |el hJ _=>rw[yS]at h ⊢;exact hJ _ _ _ hf h
  |c s _=>exfalso;have:=SC.Cf s;simp only[cz,It.sz]at hn;omega
  |o s _=>exfalso;have:=RT.Cf s;simp only[cz,It.sz]at hn;omega
  |eb _ _=>exfalso;simp only[cz,It.sz]at hn;omega
 | succ n ih=>
  intro fI sk aG fr hp hn hs hf h;cases hs with
  |nil=>rw[wW]at h ⊢;exact hR _ _ _ hf h
  |el hJ _=>rw[yS]at h ⊢;exact hJ _ _ _ hf h
  |eb i hs=>rw[FM]at h⊢;exact ih _ _ _ _ _ (by simp only[cz,It.sz]at hn;omega) hs hf h
  | o r hs=>
   cases r with
   |nil=>rw[Dx]at h ⊢;exact ih _ _ _ _ _ (by simp only[cz,It.sz,RT.sz]at hn;omega) hs hf h
   |o g o r=>rw[TC]at h⊢;exact ajb (K':=λfr hp=>vc C R' (.o r::_) fr hp) (K:=λfr hp=>vc C R (.o r::_) fr hp) hf (λf f' hp NX H=>ih (.o r::_) (.o r::_) _ _ hp (by simp only[cz,It.sz,RT.sz]at hn ⊢;omega) (.o r hs) NX H) g o h
   |wk r=>rw[Dy]at h⊢;obtain⟨aX,aB,hw,h⟩:=h;exact⟨aX,aB,(λtmps w hs=>hw _ _ (hf.wk _ _ _ hs)),ih (.o r::_) (.o r::_) _ _ _ (by simp only[cz,It.sz,RT.sz]at hn ⊢;omega) (.o r hs) (cR.refl _) h⟩
   |br x y=>rw[TD]at h⊢;exact⟨ih (.o x::_) (.o x::_) _ _ _ (by simp only[cz,It.sz,RT.sz]at hn ⊢;omega) (.o x hs) hf h.1,ih (.o y::_) (.o y::_) _ _ _ (by simp only[cz,It.sz,RT.sz]at hn ⊢;omega) (.o y hs) hf h.2⟩
  | @c s a b hs=>
   cases s with
   |skip=>rw[HA]at h ⊢;exact ih _ _ _ _ _ (by simp only[cz,It.sz,SC.sz]at hn;omega) hs hf h
   |rg r=>rw[K5]at h ⊢;exact ih (.o r::_) (.o r::_) _ _ _ (by simp only[cz,It.sz,SC.sz]at hn ⊢;omega) (.o r hs) hf h
   | raw id ops=>
    rw[vc]at h⊢;intro tmps w Q qS hQ;refine h tmps w Q ?_ λij cy ayT w2 dA hv=>hQ ij cy ayT w2 dA ?_
    .obtain⟨ρ,qS⟩:=qS;exact⟨ρ,hf.sim qS⟩
    .exact ih _ _ _ _ _ (by simp only[cz,It.sz,SC.sz]at hn;omega) hs (cR.refl _) hv
   |seq x y=>rw[HR]at h ⊢;exact ih (.c x:: .c y::_) (.c x:: .c y::_) _ _ _ (by simp only[cz,It.sz,SC.sz]at hn ⊢;omega) (.c x (.c y hs)) hf h
   |block id x=>rw[G6]at h ⊢;exact ih (.c x:: .eb id::_) (.c x:: .eb id::_) _ _ _ (by simp only[cz,It.sz,SC.sz]at hn ⊢;omega) (.c x (.eb id hs)) hf h
   |ret=>rw[HS]at h ⊢;exact hR _ _ _ hf h
   | cond c x y=>
    rw[HC]at h⊢;rcases hf.ev c with e|e
    .rw[e]at h;unfold vC at h⊢;split at h
     .exact⟨λe=>ih (.c x::_) (.c x::_) _ _ _ (by simp only[cz,It.sz,SC.sz]at hn ⊢;omega) (.c x hs) hf (h.1 e),λe=>ih (.c y::_) (.c y::_) _ _ _ (by simp only[cz,It.sz,SC.sz]at hn ⊢;omega) (.c y hs) hf (h.2 e)⟩
     .exact h
    .rw[e]at h;exact h.elim
   | exit id=>
    rw[HD]at h⊢;rcases hs.exit (id:=id)with⟨a',b',h1,h2,h3,h4⟩|⟨h1,h2⟩
    .rw[h1]at h;rw[h2];simp only[yT]at h⊢;exact ih _ _ _ _ _ (by simp only[cz,It.sz,SC.sz]at hn;omega) h3 hf h
    .rw[h1]at h;exact h.elim
   |loop x=>rw[At]at h⊢;obtain⟨I,μ,⟨aX,aB,h1,jC⟩,h2⟩:=h;refine⟨I,μ,⟨aX,aB,hf.wk.trans h1,jC⟩,λfr hp hI=>?_⟩;refine ih (.c x:: .el _::_) (.c x:: .el _::_) _ _ _ (by simp only[cz,It.sz,SC.sz]at hn ⊢;omega) (.c x (.el ?_ hs)) (cR.refl _) (h2 fr hp hI);rintro f f' hp' hf ⟨aX,aB,g1,g2,g3⟩;exact⟨aX,aB,hf.wk.trans g1,g2,g3⟩
def n6:List (Nat×Nat)->Nat->Bool
 | [],_=>false
 |(a,b)::W,s=>(decide (a<=s)&&decide (s<=b))||n6 W s
def alw(s:Nat):n6 [] s=false:=rfl
def Hf(a b s:Nat)(W:List (Nat×Nat)):n6 ((a,b)::W) s=((decide (a<=s)&&decide (s<=b))||n6 W s):=rfl
def aY(W:List (Nat×Nat))(J F:Fr):Fr:=λs=>if n6 W s then J s else F s
def Tt(W:List (Nat×Nat))(J F:Fr)(s:Nat):aY W J F s=if n6 W s then J s else F s:=rfl
def R7{W:List (Nat×Nat)}{a:Nat}{J F:Fr}(h:n6 W a=true):ae (aY W J F) a v=aY W (ae J a v) F:=by
 funext s;unfold ae aY;by_cases hs:s=a
 .subst hs;rw[if_pos rfl,if_pos h];simp
 .rw[if_neg hs];split
  .simp[hs]
  .rfl
def ajc{W:List (Nat×Nat)}{a:Nat}{J F:Fr}:ae (aY W J F) a v=if n6 W a=true then aY W (ae J a v) F else aY ((a,a)::W) (ae J a v) F:=by
 split
 .exact R7 ‹_›
 .funext s;unfold ae aY;by_cases hs:s=a
  .subst hs;simp[n6]
  .have:(decide (a<=s)&&decide (s<=a))=false:=by rw[Bool.and_eq_false_iff];simp only[decide_eq_false_iff_not];omega
   simp only[Hf,this,Bool.false_or,if_neg hs]
def agN{W:List (Nat×Nat)}{O:Nat}{J F:Fr}:cI O (aY W J F)=aY W (cI O J) (cI O F):=by funext s;unfold cI aY;split<;>rfl
def b7(B:List Nat)(F:Fr):Fr:=λs=>if(F s).refs.any B.contains then .undef else F s
def iM(F:Fr):b7 [] F=F:=by funext s;simp[b7]
def F8{O:Nat}{B:List Nat}{F:Fr}(h:B.contains O=true):cI O (b7 B F)=b7 B F:=by
 funext s;show ct O (b7 B F s)=b7 B F s;by_cases h1:(F s).refs.any B.contains=true
 .have:b7 B F s= .undef:=if_pos h1;rw[this];rfl
 .have:b7 B F s=F s:=if_neg h1;rw[this,ct,if_neg];intro h2;exact h1 (KaJ.2 ⟨O,by simpa using h2,h⟩)
def Q3j{O:Nat}{B:List Nat}{F:Fr}:cI O (b7 B F)=if B.contains O=true then b7 B F else b7 (O::B) F:=by
 split
 .exact F8 ‹_›
 .funext s;show ct O (b7 B F s)=b7 (O::B) F s;unfold b7 ct;by_cases h1:(F s).refs.any B.contains=true
  .have h2:(F s).refs.any (O::B).contains=true:=by obtain⟨x,hx,jF⟩:=KaJ.1 h1;exact KaJ.2 ⟨x,hx,by rw[Kak,jF,Bool.or_true]⟩
   simp only[if_pos h1,if_pos h2];rfl
  .simp only[if_neg h1];by_cases h2:(F s).refs.contains O=true
   .have h3:(F s).refs.any (O::B).contains=true:=KaJ.2 ⟨O,by simpa using h2,by simp⟩;rw[if_pos h2,if_pos h3]
   .rw[if_neg h2,if_neg];intro h3;obtain⟨x,hx,jF⟩:=KaJ.1 h3;rw[Kak,KbL]at jF;rcases jF with e|e
    .have:x=O:=by simpa using e
     subst this;exact h2 (by simpa using hx)
    .exact h1 (KaJ.2 ⟨x,hx,e⟩)
def Me(B:List Nat)(F:Fr)(s:Nat):b7 B F s=if(F s).refs.any B.contains then .undef else F s:=rfl
def MM(W:List (Nat×Nat))(B:List Nat):cR fr (aY W fr (b7 B fr)):=λs=>by
 unfold aY b7;split
 .exact .inl rfl
 .split
  .exact .inr rfl
  .exact .inl rfl
def Bh(W:List (Nat×Nat))(F:Fr)(I:Nat->Fr->HP->Prop)(n:Nat):Qf:=λaG hp'=>∃J m,cR aG (aY W J F)/\m<n/\I m J hp'
def Qe{W:List (Nat×Nat)}{F J:Fr}{I:Nat->Fr->HP->Prop}{n:Nat}(m:Nat)(hl:m<n)(h:I m J hp):Bh W F I n (aY W J F) hp:=⟨J,m,cR.refl _,hl,h⟩
def ajd{W:List (Nat×Nat)}{F:Fr}{I:Nat->Fr->HP->Prop}{n:Nat}:KM (Bh W F I n) (Bh W F I n):=by rintro f f' hp hf ⟨J,m,h1,h2,h3⟩;exact⟨J,m,hf.trans h1,h2,h3⟩
def gu(R:Qf)(sk:List It):Prop:=KM R R/\pe sk sk
def Qh(aT:gu R sk)(W:List (Nat×Nat))(B:List Nat)(I:Nat->Fr->HP->Prop)(m0:Nat)(h0:I m0 fr hp)
  (h:∀m J hp,I m J hp->vc C R (.c x:: .el (Bh W (b7 B fr) I m)::sk) (aY W J (b7 B fr)) hp):vc C R (.c (.loop x)::sk) fr hp:=by
 refine CT (λm aG hp'=>∃J,aG=aY W J (b7 B fr)/\I m J hp') m0 (MM W B).wk ⟨fr,rfl,h0⟩ ?_;rintro m _ hp' ⟨J,rfl,hI⟩;refine rA aT.1 _ _ _ _ _ _ (Kag _) (.c x (.el ?_ aT.2)) (cR.refl _) (h m J hp' hI);rintro f f' cy hf ⟨J2,m2,e2,hl,h2⟩;exact MI hl (hf.trans e2).wk ⟨J2,rfl,h2⟩
def pg(W:List (Nat×Nat))(F:Fr)(M:Fr->HP->Prop):Qf:=λaG hp'=>∃J,cR aG (aY W J F)/\M J hp'
def vl{W:List (Nat×Nat)}{F J:Fr}{M:Fr->HP->Prop}(h:M J hp):pg W F M (aY W J F) hp:=⟨J,cR.refl _,h⟩
def AJ{W:List (Nat×Nat)}{F:Fr}{M:Fr->HP->Prop}:KM (pg W F M) (pg W F M):=by rintro f f' hp hf ⟨J,h1,h3⟩;exact⟨J,hf.trans h1,h3⟩
def GX{W:List (Nat×Nat)}{F:Fr}{I:Nat->Fr->HP->Prop}{n:Nat}(h:gu R sk):gu R (.el (Bh W F I n)::sk):=⟨h.1,.el ajd h.2⟩
def Hg{W:List (Nat×Nat)}{F:Fr}{M:Fr->HP->Prop}(h:gu R sk):gu R (.el (pg W F M)::sk):=⟨h.1,.el AJ h.2⟩
def Hu{i:Nat}(h:gu R sk):gu R (.eb i::sk):=⟨h.1,.eb i h.2⟩
def HL{s:SC}(h:gu R sk):gu R (.c s::sk):=⟨h.1,.c s h.2⟩
def HM{s:RT}(h:gu R sk):gu R (.o s::sk):=⟨h.1,.o s h.2⟩
def GC{I:Nat->Qf}{n:Nat}(h:gu R sk):gu R (.el (AV I n)::sk):=⟨h.1,.el (λf f' hp hf ⟨a,b,h1,h2⟩=>⟨a,b,hf.wk.trans h1,h2⟩) h.2⟩
def R8{rs:List RV}:KM (gQ rs Rr) (gQ rs Rr):=by
 have one:∀(f f':Fr)(hp:HP)(r:RV),cR f f'->mI f' hp r->mI f hp r/\lK f' hp r=lK f hp r:=by
  intro f f' hp r hf ho;cases r with
  |t s=>
   simp only[mI,lK]at ho⊢;rcases hf s with e|e
   .rw[e]at ho ⊢;exact⟨ho,rfl⟩
   .rw[e]at ho;simp[Qr,cA,PV.aJ]at ho
  |cell s n ag=>
   simp only[mI,lK]at ho⊢;rcases hf s with e|e
   .rw[e]at ho ⊢;exact⟨ho,rfl⟩
   .rw[e]at ho;exact ho.elim
 intro f f' hp hf h;unfold gQ at h⊢;split at h
 .rename_i r;obtain⟨h1,h2⟩:=h;obtain⟨g1,g2⟩:=one f f' hp r hf h1;rw[g2]at h2;exact⟨g1,h2⟩
 .obtain⟨h1,h2⟩:=h;have e:rs.map (lK f' hp)=rs.map (lK f hp):=KaF λr hr=>(one f f' hp r hf (h1 r hr)).2
  rw[e]at h2;exact⟨λr hr=>(one f f' hp r hf (h1 r hr)).1,h2⟩
def aje{rs:List RV}{len:Nat}:KM (vD rs ty len aN) (vD rs ty len aN):=by
 rintro f f' hp hf ⟨xs',h1,h2,h3,h4⟩;refine⟨xs',h1,h2,h3,?_⟩;rcases h4 with h4|⟨s,o,n,h4,h5,h6⟩
 .exact .inl (R8 _ _ _ hf h4)
 .refine .inr ⟨s,o,n,h4,?_,h6⟩;rcases hf s with e|e
  .rw[<-e];exact h5
  .rw[h5]at e;cases e
def ajf{rs:List RV}{aN:List PV->Prop}:KM (Bg rs ty aN) (Bg rs ty aN):=by
 rintro f f' hp hf ⟨s,O,n,xs,h1,h2,h3⟩;refine⟨s,O,n,xs,h1,?_,h3⟩;rcases hf s with e|e
 .rw[<-e];exact h2
 .rw[h2]at e;cases e
def Hh{rs:List RV}:gu (gQ rs Rr) []:=⟨R8,.nil⟩
def GY{rs:List RV}{len:Nat}:gu (vD rs ty len aN) []:=⟨aje,.nil⟩
def GH{rs:List RV}{aN:List PV->Prop}:gu (Bg rs ty aN) []:=⟨ajf,.nil⟩
def kq(i O e ty:Nat)(he:0<e)(hi:fr i= .aa)(h:vc C R (.c (.loop x)::sk) (ae (cI O fr) i (.ms O 0)) (Qg hp O ⟨e,ty,[],false⟩))(hB:bN O=false:=by decide):vc C R (.c (.loop x)::sk) fr hp:=by rw[At]at h⊢;obtain⟨I,μ,⟨aX,aB,h1,jC⟩,h2⟩:=h;exact⟨I,μ,⟨aX,aB,(Tu i O e ty he hi hB).trans h1,jC⟩,h2⟩
end Go.FW
namespace Go.FW
open Go
variable {C : Ctx} {fr : Fr} {hp : HP} {w : World} {K R : Qf}
variable{P:Program}{k:IntKind}{r:PV}
def Q8e{f:FuncId}{x:Int}{v:Value}(hg:qk P f)(h:∀w,Calls P f #[.int k x] w λe w'=>e= .returned v/\w'=w)(hr:∀w X,gq w X r v):Qa P f [.int k x] (· =r):=by
 refine⟨hg,λw X aL hX hs iK=>?_⟩;have h0:∀u,Qn w X (.int k x) u->u= .int k x:=λu hu=>by cases hu;rfl
 have e:aL= #[.int k x]:=by
  have h1:aL.getD 0 undef= .int k x:=h0 _ (iK 0 _ rfl);apply Array.ext
  .simpa using hs
  .intro i hi au;have rU:i=0:=by simp at au;omega
   subst rU;simpa[Array.getD,hi]using h1
 rw[e];refine(h w).mono ?_;rintro e w' ⟨rfl,rfl⟩;exact⟨v,r,rfl,Ext.refl _ _,hr _ _,rfl⟩
end Go.FW
namespace Go.FW
open Go
variable {C : Ctx} {fr : Fr} {hp : HP} {w : World} {K R : Qf}
variable{V d e hi n u2 v0 v1 v2 w0:Nat}{l:List Nat}
def agO(a b:Nat)(IJ:a≠b)(h:HP)(v w:HB):Qg (Qg h a v) b w=Qg (Qg h b w) a v:=by
 funext c;unfold Qg;by_cases h1:c=a
 .subst h1;simp[IJ]
 .simp[h1]
def afb{W P:Nat}(hV:V=(v1*65536+v2)*P+v0)(hW:W=(hi*65536+u2)*P+w0)(Jf:w0<P)(Je:u2<65536)(h1:0<v1):W<(hi/v1+1)*V:=by
 have e1:hi+1<=(hi/v1+1)*v1:=by have:=Kbe hi v1;have:=Kbo hi h1;rw[KaL,KaU];omega
 have e2:W<(hi+1)*65536*P:=by have:(hi*65536+u2+1)*P<=(hi+1)*65536*P:=Kap _ Oz;rw[KaL _ 1]at this;omega
 refine Kbj e2 ?_
 calc (hi+1)*65536*P<=((hi/v1+1)*v1)*65536*P:=Kap _ (Kap _ e1)
  _=(hi/v1+1)*(v1*65536*P):=by rw[Kbg,Kbg,Kbg]
  _<=(hi/v1+1)*V:=Ka8 _ (by rw[hV,KaL];omega)
def ajg{W P r:Nat}(hV:V=(v1*65536+v2)*P+v0)(hW:W=(hi*65536+u2)*P+w0)(Jf:w0<P)(hd:d*v1+r=hi)(ht:r*65536+u2<d*v2):W<d*V:=by
 have h1:hi*65536+u2+1<=d*(v1*65536+v2):=by rw[Ka0,<-Nat.mul_assoc,<-hd,KaL];omega
 have h2:W<(hi*65536+u2+1)*P:=by rw[hW,KaL _ 1];omega
 refine Kbj h2 (KaK (Kap _ h1) ?_);rw[Kbg];exact Ka8 _ (by rw[hV];exact Nat.le_add_right _ _)
def ajh{W P r:Nat}(hV:V=(v1*65536+v2)*P+v0)(hW:W=(hi*65536+u2)*P+w0)(r9:v0<P)(wx:1<=v1)(he:e+1<65536)(hd:(e+1)*v1+r=hi)(ht:¬r*65536+u2<(e+1)*v2):e*V<=W:=by
 have h1:(e+1)*(v1*65536+v2)<=hi*65536+u2:=by rw[Ka0,<-Nat.mul_assoc,<-hd,KaL ((e+1)*v1)];omega
 have h2:e*v0<=(v1*65536+v2)*P:=KaZ Oz Oz
 calc e*V=e*(v1*65536+v2)*P+e*v0:=by rw[hV,Ka0,Kbg]
  _<=e*(v1*65536+v2)*P+(v1*65536+v2)*P:=Nat.add_le_add_left h2 _
  _=(e+1)*(v1*65536+v2)*P:=by rw[KaL e,KcQ,KaL (e*_)]
  _<=(hi*65536+u2)*P:=Kap _ h1
  _<=W:=by rw[hW];exact Nat.le_add_right _ _
def aji{W P:Nat}(hV:V=(v1*65536+v2)*P+v0)(hW:W=(hi*65536+u2)*P+w0)(r9:v0<P)(h:W<65536*V)(hP:0<P):hi<=v1*65536+v2:=by
 have h1:hi*(65536*P)<(v1*65536+v2+1)*(65536*P):=by
  have e1:hi*(65536*P)<=W:=by rw[hW,KaL,Kbg];omega
  have e2:V<=(v1*65536+v2+1)*P:=by rw[hV,KaL _ 1];omega
  have e3:65536*V<=65536*((v1*65536+v2+1)*P):=Ka8 _ e2;rw[KbE]at e3;omega
 have:=Nat.lt_of_mul_lt_mul_right h1;omega
def US:∀(a:List Nat)(q b:Nat),(gR a [] q 0 b).2.1=0
 | [],_,_=>rfl
 |x::xs,q,b=>by simp only[gR,List.headD_nil,Kb3,List.tail_nil];exact US xs q _
def VT:∀(a v:List Nat)(q c b:Nat),v.length<a.length->c<65536->q<65536->Qk v->(gR a v q c b).2.1=0
 | [],_,_,_,_,h,_,_,_=>by simp at h
 |x::xs,[],q,c,b,h,hc,hq,hv=>by simp only[gR,List.headD_nil,Kb3,List.tail_nil,KaW];rw[KbV hc];exact US xs q _
 |x::xs,y::ys,q,c,b,h,hc,hq,hv=>by rw[jK]at hv;simp only[gR,List.headD_cons,List.tail_cons];refine VT xs ys q _ _ (by simpa using h) ?_ hq hv.2;have:=wM hq hv.1;omega
def Gk{k:Nat}(h:val l<65536^k):val (l.drop k)=0:=by
 rcases KcF k l.length with hk|hk
 .have:=sr l k Oz;have:65536^k*val (l.drop k)<65536^k*1:=Oz;have:=Nat.lt_of_mul_lt_mul_left this;omega
 .rw[Kar hk];rfl
def R9(h:l.length=n+2):val l=(l.getD (n+1) 0*65536+l.getD n 0)*65536^n+val (l.take n):=by have e:=sr l n Oz;rw[oc Oz,oc Oz,Kar Oz]at e;rw[e,iZ Oz,iZ Oz,val,Kb3,KaW,KaU (65536^n)];rw[KaU 65536,KbM (l[n]),KbM]
def aqf:
  (∀(O:Nat)(cs:List PV),ct O (.pt cs)= .pt cs)/\(∀(O:Nat),ct O .undef= .undef)/\(∀(O:Nat)(cs:List PV),ct O (.aI cs)= .aI cs)/\
  (∀(cs:List PV),(PV.pt cs).refs=[])/\(PV.undef.refs=[])/\(∀(cs:List PV),(PV.aI cs).refs=[])/\
  (∀(hp:HP)(cs:List PV),Qr hp (.pt cs)= .pt cs)/\(∀(hp:HP)(cs:List PV),Qr hp (.aI cs)= .aI cs)/\
  (∀(O f:Nat)(a b:List PV),ct O (.fn f a b)=if(a.flatMap PV.cm++b.flatMap PV.cm).contains O then .undef else .fn f a b)/\
  (∀(O o n:Nat),(PV.aD O o n).cm=[O])/\(∀(O o n:Nat),(PV.rb O o n).cm=[O])/\(∀(O o n:Nat),(PV.mp O o n).cm=[O])/\
  (∀(k:IntKind)(n:Int),(PV.int k n).cm=[])/\(∀(b:Bool),(PV.bool b).cm=[])/\(∀(e:Nat)(xs:List PV),(PV.sl e xs).cm=[])/\(PV.aa.cm=[])/\(∀(xs:List PV),(PV.pt xs).cm=[]):=by
 refine⟨λ_ _=>rfl,λ_=>rfl,λ_ _=>rfl,λ_=>rfl,rfl,λ_=>rfl,λ_ _=>rfl,λ_ _=>rfl,λ_ _ _ _=>rfl,λ_ _ _=>rfl,λ_ _ _=>rfl,λ_ _ _=>rfl,λ_ _=>rfl,λ_=>rfl,λ_ _=>rfl,rfl,λ_=>rfl⟩
def ayA:
  (∀(ty d e:Nat)(xs:List PV)(fr:Fr)(hp:HP)(K:Qf),fM 1 ty (.sl e xs) d fr hp K=K (ae (cI d fr) d (.mp d 0 0)) (Qg hp d ⟨1,ty,[.sl e xs],false⟩))/\
  (∀(ty d:Nat)(k:IntKind)(x:Int)(fr:Fr)(hp:HP)(K:Qf),fM 1 ty (.int k x) d fr hp K=K (ae (cI d fr) d (.mp d 0 0)) (Qg hp d ⟨1,ty,[.int k x],false⟩))/\
  (∀(ty d:Nat)(x:Bool)(fr:Fr)(hp:HP)(K:Qf),fM 1 ty (.bool x) d fr hp K=K (ae (cI d fr) d (.mp d 0 0)) (Qg hp d ⟨1,ty,[.bool x],false⟩))/\
  (∀(ty d:Nat)(fr:Fr)(hp:HP)(K:Qf),fM 1 ty .aa d fr hp K=K (ae (cI d fr) d (.mp d 0 0)) (Qg hp d ⟨1,ty,[.aa],false⟩))/\
  (∀(n ty d o m:Nat)(fr:Fr)(hp:HP)(K:Qf),fM n ty (.aD 1000000 o m) d fr hp K=K (ae fr d (.rb 1000000 o m)) hp)/\
  (∀(n ty d:Nat)(x:PV)(cs:List PV)(fr:Fr)(hp:HP)(K:Qf),fM n ty (.agg (x::cs)) d fr hp K=(cs.length+1=n/\K (ae (cI d fr) d (.mp d 0 0)) (Qg hp d ⟨n,ty,[.agg (x::cs)],false⟩)))/\
  (∀(ty d:Nat)(x:PV)(fz:Bool)(fr:Fr)(hp:HP)(K:Qf),lI (some ⟨1,ty,[x],fz⟩) 1 false 0 0 d fr hp K=K (ae fr d (fg false 1 0 x)) hp)/\
  (∀(ty O e:Nat)(x:PV)(xs:List PV)(fr:Fr)(hp:HP)(K:Qf),stM (some ⟨1,ty,[x],false⟩) O 1 0 0 (.sl e xs) fr hp K=K fr (Qg hp O ⟨1,ty,[.sl e xs],false⟩))/\
  (∀(ty O:Nat)(x:PV)(k:IntKind)(y:Int)(fr:Fr)(hp:HP)(K:Qf),stM (some ⟨1,ty,[x],false⟩) O 1 0 0 (.int k y) fr hp K=K fr (Qg hp O ⟨1,ty,[.int k y],false⟩))/\
  (∀(ty O:Nat)(x:PV)(y:Bool)(fr:Fr)(hp:HP)(K:Qf),stM (some ⟨1,ty,[x],false⟩) O 1 0 0 (.bool y) fr hp K=K fr (Qg hp O ⟨1,ty,[.bool y],false⟩))/\
  (∀(ty O:Nat)(x:PV)(fr:Fr)(hp:HP)(K:Qf),stM (some ⟨1,ty,[x],false⟩) O 1 0 0 .aa fr hp K=K fr (Qg hp O ⟨1,ty,[.aa],false⟩))/\
  (∀(e:Nat)(xs:List PV),fg false 1 0 (.sl e xs)= .sl e xs)/\(∀(k:IntKind)(x:Int),fg false 1 0 (.int k x)= .int k x)/\(∀(x:Bool),fg false 1 0 (.bool x)= .bool x)/\(fg false 1 0 .aa= .aa):=by
 have fz:∀hp:HP,Qu hp []=hp:=λ_=>rfl
 refine⟨λ_ _ _ _ _ _ _=>?_,λ_ _ _ _ _ _ _=>?_,λ_ _ _ _ _ _=>?_,λ_ _ _ _ _=>?_,λ_ _ _ _ _ _ _ _=>apt (by decide),λn ty d x cs fr hp K=>?_,λ_ _ _ _ _ _ _=>?_,λ_ _ _ _ _ _ _ _=>?_,λ_ _ _ _ _ _ _ _=>?_,λ_ _ _ _ _ _ _=>?_,λ_ _ _ _ _ _=>?_,λ_ _=>rfl,λ_ _=>rfl,λ_=>rfl,rfl⟩
 .simp[fM,Qr,cA,PV.aJ,PV.cells,PV.refs,fz]
 .simp[fM,Qr,cA,PV.aJ,PV.cells,PV.refs,fz]
 .simp[fM,Qr,cA,PV.aJ,PV.cells,PV.refs,fz]
 .simp[fM,Qr,cA,PV.aJ,PV.cells,PV.refs,fz]
 .apply propext;simp only[fM,Qr,cA,PV.aJ,PV.cells,PV.refs,KaX,fz];exact⟨λ⟨_,h1,_,h2⟩=>⟨h1,h2⟩,λ⟨h1,h2⟩=>⟨trivial,h1,Oz,h2⟩⟩
 all_goals simp[lI,stM,PV.aJ,PV.cells]
end Go.FW
namespace Go.FW
variable{V n s:Nat}{l:List Nat}{o:cZ}{p:PV}{sk:List It}{want:Bool}{x:RT}
def aqg{j:Nat}(hl:Qk l)(hlen:j+n+3<=l.length)(hV:V<=65536^(n+2))(hz:val (l.drop (j+1))<V):
  ∃pre w post,l=pre++(w++post)/\pre.length=j/\w.length=n+3/\Qk pre/\Qk w/\Qk post/\val post=0/\val (l.drop j)=val w/\val w<65536*V/\
   ∃w0,w0<65536^n/\val w=((l.getD (j+(n+2)) 0*65536+l.getD (j+(n+1)) 0)*65536+l.getD (j+n) 0)*65536^n+w0:=by
 have dY:val (l.drop (j+n+3))=0:=by have:=Gk (l:=l.drop (j+1)) (k:=n+2) Oz;rw[List.drop_drop]at this;rw[<-this];congr 2;omega
 have hw:Qk ((l.drop j).take (n+3)):=Av (Cz hl j) _;have nk:((l.drop j).take (n+3)).length=n+3:=by simp;omega
 have im:l.drop j=(l.drop j).take (n+3)++l.drop (j+n+3):=by have:=(Kbt (n+3) (l.drop j)).symm;rw[List.drop_drop]at this;exact this
 have fW:val (l.drop j)=val ((l.drop j).take (n+3)):=by
  conv=>lhs;rw[im]
  rw[oW,dY,Kb3,KaW]
 have gg:∀i,i<n+3->((l.drop j).take (n+3)).getD i 0=l.getD (j+i) 0:=by intro i hi;simp[Kac,Kcj,hi]
 refine⟨l.take j,(l.drop j).take (n+3),l.drop (j+n+3),?_,by simp;omega,nk,Av hl j,hw,Cz hl _,dY,fW,?_,?_⟩
 .rw[<-im,Kbt]
 .rw[<-fW,oc Oz];have:=fK hl (show j<l.length by omega);omega
 .refine⟨val (((l.drop j).take (n+3)).take n),wJ hw n Oz,?_⟩;rw[R9 (n:=n+1) nk,gg _ Oz,gg _ Oz,Cq Oz];rw[<-iZ,gg _ Oz,KbA];generalize l.getD (j+(n+1)) 0=a;generalize l.getD (j+n) 0=b;generalize l.getD (j+(n+1+1)) 0=c;rw[KaL _ b,Kbg _ 65536,KaU 65536 (65536^n),KaU (65536^n) b];omega
def agP{U L qs W R q pre B:Nat}(hU:U=L+V*(65536*B*qs))(hL:L=pre+B*W)(hW:W=q*V+R):U=(pre+B*R)+V*(B*(q+65536*qs)):=by
 subst hW hL;rw[hU,Ka0 B,Ka0 B q,Ka0 V];have e1:B*(q*V)=V*(B*q):=by rw[KaU q V,KbE]
 have e2:V*(65536*B*qs)=V*(B*(65536*qs)):=by rw[KaU 65536 B,Kbg]
 omega
open Go
variable {C : Ctx} {fr : Fr} {hp : HP} {w : World} {K R : Qf}
def fU{y:RT}(h1:vc C R (.o x::sk) fr hp)(h2:vc C R (.o y::sk) fr hp):vQ C R x y sk fr hp:=⟨h1,h2⟩
def alx{y:RT}{W:List (Nat×Nat)}{J F:Fr}(P:Fr->Prop)(h0:P J)(h:∀J,P J->vQ C R x y sk (aY W J F) hp):vQ C R x y sk (aY W J F) hp:=h J h0
def Rs{x:SC}(aT:gu R sk)(W:List (Nat×Nat))(B:List Nat)(I:Nat->Fr->HP->Prop)(m0:Nat)(h0:I m0 fr hp)
  (h:∀F,F=b7 B fr->∀m J hp,I m J hp->vc C R (.c x:: .el (Bh W F I m)::sk) (aY W J F) hp):vc C R (.c (.loop x)::sk) fr hp:=
 Qh aT W B I m0 h0 (h _ rfl)
def ajj{y:RT}{W0:List (Nat×Nat)}{J0 F0:Fr}(aT:gu R sk)(B:List Nat)(M:Fr->HP->Prop)
  (h:∀F,F=b7 B F0->vQ C R x y (.el (pg W0 F M)::sk) (aY W0 J0 F) hp) (hM:∀J hp,M J hp->vc C R sk (aY W0 J (b7 B F0)) hp):vQ C R x y sk (aY W0 J0 F0) hp:=by
 have hle:cR (aY W0 J0 F0) (aY W0 J0 (b7 B F0)):=λs=>by
  unfold aY b7;split
  .exact .inl rfl
  .split
   .exact .inr rfl
   .exact .inl rfl
 have key:∀(r:RT),vc C R (.o r:: .el (pg W0 (b7 B F0) M)::sk) (aY W0 J0 (b7 B F0)) hp->vc C R (.o r::sk) (aY W0 J0 F0) hp:=by
  intro r hr;refine Dj (M:=pg W0 (b7 B F0) M) ?_ _ [.o r] _ _ (Kag _) ?_
  .rintro aG hp' ⟨J,h1,h2⟩;exact rA aT.1 _ _ _ _ _ _ (Kag _) aT.2 h1 (hM J hp' h2)
  .exact rA aT.1 _ _ _ _ _ _ (Kag _) (.o r (.el AJ aT.2)) hle hr
 exact⟨key x (h _ rfl).1,key y (h _ rfl).2⟩
def afA{aG:Fr}{K':Qf}(h:cR fr aG)(hK:KM K' K):kt C p s want o aG hp K'->kt C p s want o fr hp K:=by
 unfold kt;split
 .exact λH=>⟨λt=>Kg (h.kE _ _) hK o (H.1 t),λt=>GW (h.kE _ _) hK o (H.2 t)⟩
 .exact GW h hK o
 .exact id
def Q8f{r:RT}(aT:gu R sk)(W:List (Nat×Nat))(B:List Nat)(M:Fr->HP->Prop)
  (h:kt C p s want o (aY W fr (b7 B fr)) hp (vc C R (.o r:: .el (pg W (b7 B fr) M)::sk))) (hM:∀J hp,M J hp->vc C R sk (aY W J (b7 B fr)) hp):kt C p s want o fr hp (vc C R (.o r::sk)):=by
 refine afA (MM W B) (λf f' hp hf H=>?_) h;have H':=rA aT.1 _ _ _ _ _ _ (Kag _) (.o r (.el AJ aT.2)) hf H;refine Dj (M:=pg W (b7 B fr) M) ?_ _ [.o r] _ _ (Kag _) H';rintro aG hp' ⟨J,h1,h2⟩;exact rA aT.1 _ _ _ _ _ _ (Kag _) aT.2 h1 (hM J hp' h2)
def XC:(∀(a b c:Nat),(PV.mp a b c).nr=true)/\(∀(a b c:Nat),(PV.aD a b c).nr=true)/\(∀(a b c:Nat),(PV.rb a b c).nr=true)/\(∀(k:IntKind)(n:Int),(PV.int k n).nr=true)/\
  (∀b,(PV.bool b).nr=true)/\(PV.aa.nr=true)/\(∀(e:Nat)(xs:List PV),(PV.sl e xs).nr=true)/\(∀(xs:List PV),(PV.pt xs).nr=true):=
 ⟨λ_ _ _=>rfl,λ_ _ _=>rfl,λ_ _ _=>rfl,λ_ _=>rfl,λ_=>rfl,rfl,λ_ _=>rfl,λ_=>rfl⟩
end Go.FW
namespace Go.FW
variable{V:List (Nat×Nat)}{W d e j s:Nat}{qs:List Nat}
def zc(V W:List (Nat×Nat)):Bool:=V.all λp=>W.any λq=>decide (q.1<=p.1)&&decide (p.2<=q.2)
def ahf{W:List (Nat×Nat)}(h:zc V W=true)(hs:n6 V s=true):n6 W s=true:=by
 induction V with
 |nil=>cases hs
 | cons p V ih=>
  simp only[zc,List.all_cons,Kav]at h;rw[Hf,KbL]at hs;rcases hs with hs|hs
  .obtain⟨q,hq,pL⟩:=KaJ.1 h.1;simp only[Kav,decide_eq_true_eq]at pL hs;clear h ih;induction W with
   |nil=>cases hq
   |cons r W ih=>
    rw[Hf,KbL];rcases KaA.1 hq with rfl|hq
    .left;simp only[Kav,decide_eq_true_eq];omega
    .right;exact ih hq
  .exact ih h.2 hs
def Q3k{B B':List Nat}{F:Fr}(h:B.all B'.contains=true):b7 B (b7 B' F)=b7 B' F:=by
 funext s;by_cases h1:(F s).refs.any B'.contains=true
 .have:b7 B' F s= .undef:=if_pos h1;show(if(b7 B' F s).refs.any B.contains=true then PV.undef else b7 B' F s)=_;rw[this];rfl
 .have:b7 B' F s=F s:=if_neg h1;show(if(b7 B' F s).refs.any B.contains=true then PV.undef else b7 B' F s)=_;rw[this,if_neg];intro h2;obtain⟨x,hx,jF⟩:=KaJ.1 h2;exact h1 (KaJ.2 ⟨x,hx,Kas.1 h x (by simpa using jF)⟩)
def gY{W:List (Nat×Nat)}{X Z F:Fr}(h:zc V W=true):aY V X (aY W Z F)=aY W (aY V X Z) F:=by
 funext s;unfold aY;by_cases h1:n6 V s=true
 .simp[h1,ahf h h1]
 .simp[h1]
def aqh{V S:Nat}(hs:S+d*V=W)(NS:W<(d+1)*V):S<V/\W=d*V+S:=by rw[KaL]at NS;omega
def aly{V B S k res:Nat}(hs:S+(e+1)*V=W+B)(hS:S<B)(X8:e*V<=W)(hr:res+B*k=S+V)(gH:res<B)(hWB:W<B):res<V/\W=e*V+res:=by
 rw[KaL,KcQ]at hs;generalize e*V=x at *
 have hk:k=1:=by
  match k,hr with
  |0,hr=>omega
  |1,_=>rfl
  |k+2,hr=>
   have:B*(k+2)=B*k+B+B:=by rw[Ka0];omega
   omega
 subst hk;omega
def Pd{pre R post:List Nat}{q U V L:Nat}(hp:pre.length=j)(dY:val post=0)(hU:U=L+V*(65536^(j+1)*val qs))(hL:L=val pre+65536^j*W)(hW:W=q*V+val R):
  val ((pre++(R++post)).drop j)=val R/\U=val (pre++(R++post))+V*(65536^j*val (q::qs)):=by
 have e:(pre++(R++post)).drop j=R++post:=by rw[<-hp,List.drop_left]
 have e2:val (R++post)=val R:=by rw[oW,dY,Kb3,KaW]
 refine⟨by rw[e,e2],?_⟩;rw[oW,e2,hp,val];exact agP (by rw[hU,KbA,KaU (65536^j)]) hL hW
def Hv{q:Nat}:(List.replicate (j+1) 0++qs).set j q=List.replicate j 0++(q::qs):=by rw[KcP,Kbr,List.singleton_append,qg (by simp)]
open Go
variable {C : Ctx} {fr : Fr} {hp : HP} {w : World} {K R : Qf}
variable{i:Nat}{k:IntKind}{α:Type}
def ayB:(∀(C:Ctx)(d:Nat)(ng:Bool)(x y:aW)(fr:Fr)(hp:HP)(K:Qf),bK C (.eqs d ng x y) fr hp K=uc ng (ev fr x) (ev fr y) d fr hp K)/\
  (∀(k l:IntKind)(x y x' y':Int)(d:Nat)(fr:Fr)(hp:HP)(K:Qf),uc false (.agg [.int k x,.int l y]) (.agg [.int k x',.int l y']) d fr hp K=K (ae fr d (.bool (decide (x=x')&&decide (y=y')))) hp)/\
  (∀(k l:IntKind)(x y x' y':Int)(d:Nat)(fr:Fr)(hp:HP)(K:Qf),uc true (.agg [.int k x,.int l y]) (.agg [.int k x',.int l y']) d fr hp K=K (ae fr d (.bool (!(decide (x=x')&&decide (y=y'))))) hp):=
 ⟨λ_ _ _ _ _ _ _ _=>rfl,λ_ _ _ _ _ _ _ _ _ _=>by simp[uc],λ_ _ _ _ _ _ _ _ _ _=>by simp[uc]⟩
def ayC:(∀(C:Ctx)(d:Nat)(ng:Bool)(x y:aW)(fr:Fr)(hp:HP)(K:Qf),bK C (.gj d ng x y) fr hp K=ud ng (ev fr x) (ev fr y) d fr hp K)/\
  (∀(C:Ctx)(d:Nat)(x:aW)(fr:Fr)(hp:HP)(K:Qf),bK C (.ym d x) fr hp K=y9 (ev fr x) d fr hp K)/\
  (∀(C:Ctx)(d:Nat)(x i:aW)(fr:Fr)(hp:HP)(K:Qf),bK C (.yl d x i) fr hp K=xe (ev fr x) (ev fr i) d fr hp K)/\
  (∀(x y:ByteArray)(d:Nat)(fr:Fr)(hp:HP)(K:Qf),ud false (.str x) (.str y) d fr hp K=K (ae fr d (.bool (decide (x=y)))) hp)/\
  (∀(x y:ByteArray)(d:Nat)(fr:Fr)(hp:HP)(K:Qf),ud true (.str x) (.str y) d fr hp K=K (ae fr d (.bool (!decide (x=y)))) hp)/\
  (∀(x:ByteArray)(d:Nat)(fr:Fr)(hp:HP)(K:Qf),y9 (.str x) d fr hp K=K (ae fr d (.int .i64 x.size)) hp):=
 ⟨λ_ _ _ _ _ _ _ _=>rfl,λ_ _ _ _ _ _=>rfl,λ_ _ _ _ _ _ _=>rfl,λ_ _ _ _ _ _=>by simp[ud],λ_ _ _ _ _ _=>by simp[ud],λ_ _ _ _ _=>rfl⟩
def aqi{s:ByteArray}(h:i<s.size):xe (.str s) (.int k i) d fr hp K=K (ae fr d (.int .u8 (s.get! i).toNat)) hp:=by simp[xe,h]
def ajk{f:α->PV}{xs:List α}(h:0<xs.length):ej e (.sl e (xs.map f)) (.int k 0) d fr hp K=K (ae fr d (.pt (f (xs[0]'h)).cells)) hp:=by rw[yJ Oz Oz];rfl
def ajl{f:α->PV}{xs:List α}(h:1<xs.length):ej e (.sl e (xs.map f)) (.int k 1) d fr hp K=K (ae fr d (.pt (f (xs[1]'h)).cells)) hp:=by rw[yJ Oz Oz];rfl
def ajm{x:PV}{xs:List PV}:ej e (.sl e (x::xs)) (.int k 0) d fr hp K=K (ae fr d (.pt x.cells)) hp:=by rw[KD Oz (by simp only[KaX];omega)];rfl
def ajn{x y:PV}{xs:List PV}:ej e (.sl e (x::y::xs)) (.int k 1) d fr hp K=K (ae fr d (.pt y.cells)) hp:=by rw[KD Oz (by simp only[KaX];omega)];rfl
def PV.flat:PV->Bool
 |.int .. | .bool _| .aa| .sl .. | .agg _| .pt _| .str _=>true
 |_=>false
def ajo:∀s,(PV.str s).flat=true:=λ_=>rfl
def ajp:∀s,(PV.str s).aJ=true:=λ_=>rfl
def aeq:(∀(k:IntKind)(n:Int),(PV.int k n).flat=true)/\(∀b,(PV.bool b).flat=true)/\(PV.aa.flat=true)/\(∀(e:Nat)(xs:List PV),(PV.sl e xs).flat=true)/\(∀xs,(PV.agg xs).flat=true)/\(∀xs,(PV.pt xs).flat=true):=
 ⟨λ_ _=>rfl,λ_=>rfl,rfl,λ_ _=>rfl,λ_=>rfl,λ_=>rfl⟩
def aer:(∀(k:IntKind)(n:Int),(PV.int k n).aJ=true)/\(∀b,(PV.bool b).aJ=true)/\(PV.aa.aJ=true)/\(∀(e:Nat)(xs:List PV),(PV.sl e xs).aJ=true)/\(∀xs,(PV.agg xs).aJ=true)/\(∀xs,(PV.pt xs).aJ=true):=
 ⟨λ_ _=>rfl,λ_=>rfl,rfl,λ_ _=>rfl,λ_=>rfl,λ_=>rfl⟩
def tL{p:PV}(h:p.flat=true):Qr hp p=p/\p.refs=[]/\p.aJ=true:=by cases p<;>first|(cases h;done)|exact⟨rfl,rfl,rfl⟩
def yK{ty:Nat}{ps:List PV}(h:ps.all PV.flat=true)(hl:∀p∈ps,p.cells.length=e)(he:0<e):oz e ty ps d fr hp K=K (ae (cI d fr) d (.ms d ps.length)) (Qg hp d ⟨e,ty,ps,false⟩):=by
 have h':=Kas.1 h;have e1:ps.map (Qr hp)=ps:=by
  conv=>rhs;rw[<-List.map_id ps]
  exact KaF λp hp'=>(tL (h' p hp')).1
 have e2:ps.flatMap PV.refs=[]:=by rw[Kcw];exact λp hp'=>(tL (hp:=hp) (h' p hp')).2.1
 have e3:Hz hp e ps:=λp hp'=>by obtain⟨h1,_,h3⟩:=tL (hp:=hp) (h' p hp');rw[h1];exact⟨h3,hl p hp'⟩
 have hbg:rH ps=false:=by
  unfold rH;split
  .rename_i x;have:=Kas.1 h x (by simp);unfold oe;split
   .cases this
   .rfl
  .rfl
 simp only[oz,hbg,Kbk,if_false,DZ,e1,e2,e3,he,true_and];rfl
def bs1{ty:Nat}{p:PV}(h:p.flat=true)(hl:p.cells.length=e)(he:0<e):oz e ty [p] d fr hp K=K (ae (cI d fr) d (.ms d 1)) (Qg hp d ⟨e,ty,[p],false⟩):=
 yK (by simp[h]) (by simpa using hl) he
def bs2{ty:Nat}{p q:PV}(h:p.flat=true)(h2:q.flat=true)(hl:p.cells.length=e)(jr:q.cells.length=e)(he:0<e):oz e ty [p,q] d fr hp K=K (ae (cI d fr) d (.ms d 2)) (Qg hp d ⟨e,ty,[p,q],false⟩):=
 yK (by simp[h,h2]) (by simp[hl,jr]) he
end Go.FW
namespace Go.FW
variable{n s yi:Nat}
def Q8g{y:Nat}(hy:(aw y).length=n+2)(xZ:(aw y)[n+1]'Oz=yi)(h1:2^15<=yi*2^s)(h2:(yi+1)*2^s<=65536):
  (aw (y*2^s)).length=n+2/\32768<=(aw (y*2^s)).getD (n+1) 0/\32768*65536^(n+1)<=y*2^s:=by
 have hl:=Ql y;have e:=sr (aw y) (n+1) Oz;have ht:=wJ hl (n+1) Oz;rw[oc Oz,Kar Oz,xZ,Qx]at e;simp only[val,Kb3,KaW]at e;have g1:32768*65536^(n+1)<=y*2^s:=by
  calc 32768*65536^(n+1)<=(yi*2^s)*65536^(n+1):=Kap _ h1
   _=(65536^(n+1)*yi)*2^s:=by rw[KaU (65536^(n+1)),Nat.mul_right_comm]
   _<=y*2^s:=Kap _ Oz
 have g2:y*2^s<65536^(n+2):=by
  have hp:0<2^s:=Kb0 Oz
  calc y*2^s<(65536^(n+1)*(yi+1))*2^s:=Nat.mul_lt_mul_of_pos_right (by rw[Ka0];omega) hp
   _=65536^(n+1)*((yi+1)*2^s):=Kbg _ _ _
   _<=65536^(n+1)*65536:=Ka8 _ h2
   _=65536^(n+2):=(KbA ..).symm
 have hle:nl (y*2^s)<=n+2:=o9.2 g2;have jE:¬nl (y*2^s)<=n+1:=λh=>by have:=o9.1 h;omega
 have hlen:(aw (y*2^s)).length=n+2:=by unfold nl at hle jE;omega
 refine⟨hlen,?_,g1⟩;have e2:=sr (aw (y*2^s)) (n+1) Oz;have Jc:=wJ (Ql (y*2^s)) (n+1) Oz;rw[oc Oz,Kar Oz,Qx]at e2;simp only[val,Kb3,KaW]at e2;have hg:(aw (y*2^s)).getD (n+1) 0=(aw (y*2^s))[n+1]'Oz:=iZ Oz;rw[hg];apply Decidable.byContradiction;intro h;have:65536^(n+1)*(aw (y*2^s))[n+1]<=65536^(n+1)*32767:=Ka8 _ Oz;omega
def ahg(hs:s<=15)(h1:2^(16-s)<=2*yi)(h2:yi<2^(16-s)):2^15<=yi*2^s/\(yi+1)*2^s<=65536:=by
 have e:2^(16-s)*2^s=65536:=by rw[<-Nat.pow_add,show 16-s+s=16 by omega]
 constructor
 .have:=Kap (2^s) h1;rw[e,Kbg]at this;omega
 .rw[<-e];exact Kap _ h2
def Q8h{x m Y:Nat}(hx:(aw x).length=m+2)(hs:s<=15)(fQ:n<=m)(hY:32768*65536^(n+1)<=Y):
  ∃u ex,aw (x*2^s)++[0,0]=u++ex/\u.length=m+3/\Qk u/\val u=x*2^s/\ex.length<=2/\val (u.drop (m+3-(n+2)))<Y:=by
 have aak:=rz (Ql x);rw[hx,Qx]at aak;have hp:0<2^s:=Kb0 Oz;have xW:2^s<=2^15:=KbG Oz hs;have hX:x*2^s<2^s*65536^(m+2):=by rw[KaU (2^s)];exact Nat.mul_lt_mul_of_pos_right aak hp
 have hX2:x*2^s<65536^(m+3):=by have:2^s*65536^(m+2)<=65536*65536^(m+2):=Kap _ Oz;rw[KbA 65536 (m+2),KaU _ 65536];omega
 have nn:¬nl (x*2^s)<=m+1:=λh=>by
  have h2:¬nl x<=m+1:=by unfold nl;omega
  have h3:=kp (show x<=x*2^s from Kb7 _ hp);omega
 have jF:nl (x*2^s)<=m+3:=o9.2 hX2;have tr:Qk (aw (x*2^s)++[0,0]):=pY.2 ⟨Ql _,by intro z hz;simp at hz;omega⟩;have fW:val (aw (x*2^s)++[0,0])=x*2^s:=by rw[oW,Qx];simp[val]
 have hlen:(aw (x*2^s)++[0,0]).length=nl (x*2^s)+2:=by simp[nl]
 generalize aw (x*2^s)++[0,0]=D at *
 have hv:=sr D (m+3) Oz;have hz:val (D.drop (m+3))=0:=Gk Oz;have zT:(D.take (m+3)).length=m+3:=by rw[Kay];omega
 refine⟨D.take (m+3),D.drop (m+3),(Kbt _ _).symm,zT,Av tr _,by rw[hz]at hv;omega,by rw[Ka4];omega,?_⟩;have hu:val (D.take (m+3))=x*2^s:=by rw[hz]at hv;omega
 have tu:=sr (D.take (m+3)) (m+3-(n+2)) Oz;generalize D.take (m+3)=u at *
 have e:65536^(m+2)=65536^(m+3-(n+2))*65536^(n+1):=by rw[<-Nat.pow_add];congr 1;omega
 have:65536^(m+3-(n+2))*val (u.drop (m+3-(n+2)))<65536^(m+3-(n+2))*(2^s*65536^(n+1)):=by rw[KbE,<-e];omega
 have h4:=Nat.lt_of_mul_lt_mul_left this;have:2^s*65536^(n+1)<=32768*65536^(n+1):=Kap _ xW;omega
open Go
variable {C : Ctx} {fr : Fr} {hp : HP} {w : World} {K R : Qf}
variable{O d e o ty:Nat}{Rr:PV->Prop}{fz:Bool}{p v x:PV}{r:RV}{z:List PV}
def ajq(h:o+n<=e):lI (some ⟨e,ty,[x],fz⟩) n true 0 o d fr hp K=K (ae fr d (fg true n o x)) hp:=Sl h (by simp)
def ajr(h:o+1<=e):lI (some ⟨e,ty,[x],fz⟩) 1 false 0 o d fr hp K=K (ae fr d (fg false 1 o x)) hp:=Sl h (by simp)
def aes(n o:Nat)(cs:List PV):fg true n o (.agg cs)= .agg ((cs.drop o).take n):=rfl
def aet(n o:Nat)(cs:List PV):fg false n o (.agg cs)=(cs.drop o).headD .undef:=rfl
def afB(n ty O:Nat)(x:PV)(cs:List PV):stM (some ⟨n,ty,[x],false⟩) O n 0 0 (.agg cs) fr hp K=(cs.length=n/\K fr (Qg hp O ⟨n,ty,[.agg cs],false⟩)):=by simp[stM,PV.aJ,PV.cells]
def aiS(h:v.flat=true)(hn:¬n=e)(hl:v.cells.length=n)(ho:o+n<=e):stM (some ⟨e,ty,[x],false⟩) O n 0 o v fr hp K=K fr (Qg hp O ⟨e,ty,[uX x o v],false⟩):=by have:=(tL (hp:=hp) h).2.2;simp[stM,this,hl,ho,hn]
def alz(cs:List PV)(o:Nat)(v:PV):uX (.agg cs) o v= .agg (cs.take o++v.cells++cs.drop (o+v.cells.length)):=rfl
def CG(k:IntKind)(n:Int):(PV.int k n).cells=[.int k n]:=rfl
def ahh:(PV.aa).cells=[.aa]:=rfl
def afC(h:p.flat=true):p.qX=false:=by cases p<;>simp_all[PV.flat,PV.qX]
def CW{ps:List (Nat×Nat×PV)}(h:ps.all (λp=>p.2.2.flat)=true):
  nJ z ps d fr hp K=((∀p∈ps,p.2.2.cells.length=p.2.1/\p.1+p.2.1<=z.length)/\K (ae fr d (.agg (jN z (ps.map λp=>(p.1,p.2.2.cells))))) hp):=by
 have h':=Kas.1 h;have e1:(ps.map λp=>(p.1,(Qr hp p.2.2).cells))=ps.map λp=>(p.1,p.2.2.cells):=KaF λp hp'=>by rw[(tL (h' p hp')).1]
 have e2:(ps.flatMap λp=>p.2.2.refs)=[]:=by rw[Kcw];exact λp hp'=>(tL (hp:=hp) (h' p hp')).2.1
 have e3:Tq hp z.length ps=(∀p∈ps,p.2.2.cells.length=p.2.1/\p.1+p.2.1<=z.length):=by
  apply propext;constructor
  .intro H p hp';obtain⟨_,h2,h3⟩:=H p hp';rw[(tL (h' p hp')).1]at h2;exact⟨h2,h3⟩
  .intro H p hp';obtain⟨h2,h3⟩:=H p hp';obtain⟨g1,_,g3⟩:=tL (hp:=hp) (h' p hp');rw[g1];exact⟨g3,h2,h3⟩
 have e4:ps.any (λp=>p.2.2.qX)=false:=by rw[KbP];exact λp hp'=>by simp[afC (h' p hp')]
 simp only[nJ,e4,FL,e1,e2,e3,Kbk,if_false];rfl
def arY(z:List PV)(d:Nat):nJ z [] d fr hp K=K (ae fr d (.agg z)) hp:=by rw[CW rfl];simp[jN]
def arZ(h:p.flat=true):nJ z [(o,n,p)] d fr hp K=((p.cells.length=n/\o+n<=z.length)/\K (ae fr d (.agg (z.take o++p.cells++z.drop (o+p.cells.length)))) hp):=by rw[CW (by simp[h])];simp[jN]
def ar0{o2 n2:Nat}{q:PV}(h:p.flat=true)(h2:q.flat=true):nJ z [(o,n,p),(o2,n2,q)] d fr hp K=
  ((p.cells.length=n/\o+n<=z.length)/\(q.cells.length=n2/\o2+n2<=z.length)/\K (ae fr d (.agg (jN z [(o,p.cells),(o2,q.cells)]))) hp):=by
 rw[CW (by simp[h,h2])];simp[and_assoc]
def ar1{o2 n2 o3 n3:Nat}{q r:PV}(h:p.flat=true)(h2:q.flat=true)(h3:r.flat=true):nJ z [(o,n,p),(o2,n2,q),(o3,n3,r)] d fr hp K=
  ((p.cells.length=n/\o+n<=z.length)/\(q.cells.length=n2/\o2+n2<=z.length)/\(r.cells.length=n3/\o3+n3<=z.length)/\K (ae fr d (.agg (jN z [(o,p.cells),(o2,q.cells),(o3,r.cells)]))) hp):=by
 rw[CW (by simp[h,h2,h3])];simp[and_assoc]
def ahi(c:List PV):jN c []=c:=rfl
def afD(c xs:List PV)(o:Nat)(r:List (Nat×List PV)):jN c ((o,xs)::r)=jN (c.take o++xs++c.drop (o+xs.length)) r:=rfl
def FC(p:PV)(hp:HP)(n:Nat)(ag:Bool):PV:=match p with
 |.mp O i o=>match hp O with
  |some hb=>if i<hb.xs.length/\o+n<=hb.e/\(ag=false->n=1)then fg ag n o ((hb.xs[i]?).getD .undef)else .undef
  |none=>.undef
 |_=>.undef
def gv(fr:Fr)(hp:HP):RV->PV
 |.t s=>Qr hp (fr s)
 |.cell s n ag=>FC (fr s) hp n ag
def DJ(hb:Option HB)(n:Nat)(ag:Bool)(i o:Nat):PV:=match hb with
  |some hb=>if i<hb.xs.length/\o+n<=hb.e/\(ag=false->n=1)then fg ag n o ((hb.xs[i]?).getD .undef)else .undef
  |none=>.undef
def avN(fr:Fr)(hp:HP)(s:Nat):gv fr hp (.t s)=Qr hp (fr s):=rfl
def avM(fr:Fr)(hp:HP)(s n:Nat)(ag:Bool):gv fr hp (.cell s n ag)=FC (fr s) hp n ag:=rfl
def aiT(hp:HP)(n:Nat)(ag:Bool)(O i o:Nat):FC (.mp O i o) hp n ag=DJ (hp O) n ag i o:=rfl
def alA(h:o+n<=e):DJ (some ⟨e,ty,[x],fz⟩) n true 0 o=fg true n o x:=by simp[DJ,h]
def alB(h:o+1<=e):DJ (some ⟨e,ty,[x],fz⟩) 1 false 0 o=fg false 1 o x:=by simp[DJ,h]
def tX(h:(gv fr hp r).aJ=true):mI fr hp r/\lK fr hp r=gv fr hp r:=by
 cases r with
 |t s=>exact⟨h,rfl⟩
 | cell s n ag=>
  simp only[gv,mI,lK]at h⊢;cases qK:fr s with
  | mp O i o=>
   rw[qK]at h;simp only[FC]at h⊢;cases ao:hp O with
   |none=>rw[ao]at h;cases h
   | some hb=>
    rw[ao]at h;simp only at h⊢;split at h
    .rename_i hc;rw[if_pos hc];exact⟨hc,rfl⟩
    .cases h
  |_=>rw[qK]at h;cases h
def cx(h:za Rr (gv fr hp r)):gQ [r] Rr fr hp:=by obtain⟨h1,h2⟩:=tX h.1;exact⟨h1,by rw[h2];exact h.2⟩
def nH{s:RV}(h:DL Rr (gv fr hp r) (gv fr hp s)):gQ [r,s] Rr fr hp:=by obtain⟨⟨a,b⟩,c⟩:=h;obtain⟨h1,h2⟩:=tX a;obtain⟨h3,h4⟩:=tX b;refine⟨by simp[h1,h3],?_⟩;simp only[Ka3,Kbs,h2,h4];exact c
def FD{s t:RV}(h:FB Rr (gv fr hp r) (gv fr hp s) (gv fr hp t)):gQ [r,s,t] Rr fr hp:=by obtain⟨⟨a,b,b'⟩,c⟩:=h;obtain⟨h1,h2⟩:=tX a;obtain⟨h3,h4⟩:=tX b;obtain⟨h5,h6⟩:=tX b';refine⟨by simp[h1,h3,h5],?_⟩;simp only[Ka3,Kbs,h2,h4,h6];exact c
end Go.FW
namespace Go.FW
open Go
variable{a b:List Nat}{n:Bool}{x:Int}
def zv(n:Bool)(a:List Nat):Int:=if n then -(val a:Int)else val a
abbrev PV.zi(n:Bool)(a:List Nat):PV:=.agg [.bool n,PV.nat a]
abbrev PV.zz(z:Int):PV:=.agg [.bool (decide (z<0)),PV.num z.natAbs]
def Kh(n:Bool)(x:Nat):PV.agg [.bool (n&&decide (0<(aw x).length)),PV.num x]=PV.zz (if n then -(x:Int)else x):=by
 have h:0<(aw x).length↔x≠0:=by
  constructor
  .intro h h0;rw[h0,iu]at h;simp at h
  .intro h;apply Kbf;intro h0;exact h (mM.1 (sm h0))
 cases n
 .simp
 .simp only[KcK,if_true,PV.zz,Int.natAbs_neg,KbH];congr 3;exact decide_eq_decide.2 (by rw[h];omega)
def om(z:Int):zv (decide (z<0)) (aw z.natAbs)=z:=by unfold zv;rw[Qx];by_cases h:z<0<;>simp[h]<;>omega
def lh(n:Bool)(a:List Nat):(zv n a).natAbs=val a:=by unfold zv;split<;>simp
def wP(a:List Nat):zv false a=val a:=rfl
def vp(n:Bool)(x:Nat):zv n (aw x)=if n then -(x:Int)else x:=by unfold zv;rw[Qx]
def gL(z:Int):Int:=if z<0 then -1 else if 0<z then 1 else 0
def eR(x y:Int):Int:=if x<y then -1 else if y<x then 1 else 0
def KH(n:Bool)(a:List Nat):gL (zv n a)=if val a=0 then 0 else if n then -1 else 1:=by unfold gL zv;cases n<;>simp<;>split<;>(try split)<;>omega
def Dn:gL x<0↔x<0:=by unfold gL;split<;>(try split)<;>omega
def alC{y:Int}(h:gL x<gL y):eR x y= -1:=by unfold gL at h;unfold eR;rw[if_pos];split at h<;>split at h<;>(try split at h)<;>(try split at h)<;>omega
def alD{y:Int}(h:gL y<gL x):eR x y=1:=by
 have:y<x:=by unfold gL at h;split at h<;>split at h<;>(try split at h)<;>(try split at h)<;>omega
 unfold eR;rw[if_neg Oz,if_pos this]
def Hi(n:Bool)(a:List Nat):zv n a=val a\/zv n a= -(val a:Int):=by unfold zv;split<;>simp
def alE{m:Bool}(h:zv n a<0)(h2:zv m b<0):jy (val b) (val a)=eR (zv n a) (zv m b):=by
 unfold jy eR;have e:=Hi n a;have f:=Hi m b;generalize zv n a=p at *
 generalize zv m b=q at *
 repeat' split
 all_goals omega
def alF{m:Bool}(h:¬zv n a<0)(h2:¬zv m b<0):jy (val a) (val b)=eR (zv n a) (zv m b):=by
 unfold jy eR;have e:=Hi n a;have f:=Hi m b;generalize zv n a=p at *
 generalize zv m b=q at *
 repeat' split
 all_goals omega
def Hj{x y:Nat}:jy x y<0↔x<y:=by unfold jy;split<;>(try split)<;>omega
variable {C : Ctx} {fr : Fr} {hp : HP} {w : World} {K R : Qf}
variable{D d off:Nat}{z:Int}
def K6(hb:Option HB)(o n:Nat):PV:=match hb with
 |some hb=>.sl hb.e ((hb.xs.drop o).take n)
 |none=>.undef
def ch:(∀(hp:HP)(O o n:Nat),Qr hp (.aD O o n)=if aP O=true then .undef else K6 (hp O) o n)/\
  (∀(e ty o n:Nat)(xs:List PV)(fz:Bool),K6 (some ⟨e,ty,xs,fz⟩) o n= .sl e ((xs.drop o).take n))/\
  (∀(O:Nat),aP O=(decide (1000000<=O)&&decide (O<2000000)))/\
  (∀(hp:HP)(l:List Nat)(O:Nat),FW.Qu hp l O=if l.contains O=true then(hp O).map (λhb=>{ hb with fz:=true })else hp O):=by
 refine⟨λhp O o n=>?_,λ_ _ _ _ _ _=>rfl,λ_=>rfl,λ_ _ _=>rfl⟩;simp only[Qr,cA,K6];cases aP O<;>cases hp O<;>rfl
def aqj{n:Nat}{cs:List PV}(h:n<=cs.length):gU n true (.pt cs) d fr hp K=K (ae fr d (.agg (cs.take n))) hp:=by simp[gU,h,fg,PV.cells]
def aqk{cs:List PV}(h:off<=cs.length):qp off (.pt cs) d fr hp K=K (ae fr d (.pt (cs.drop off))) hp:=by simp[qp,h]
def aql{n:Nat}{cs:List PV}(h:off+n<=cs.length):tW off n true (.agg cs) d fr hp K=K (ae fr d (.agg ((cs.drop off).take n))) hp:=by simp[tW,h,fg,PV.cells]
def aqm{cs:List PV}(h:off+1<=cs.length):tW off 1 false (.agg cs) d fr hp K=K (ae fr d ((cs.drop off).headD .undef)) hp:=by simp[tW,h,fg,PV.cells]
def rv(n:Bool)(a d:List Nat):Rat:=mkRat (zv n a) (val d)
abbrev PV.rr(n:Bool)(a d:List Nat):PV:=.agg [.bool n,PV.nat a,PV.nat d]
abbrev PV.rat(q:Rat):PV:=.agg [.bool (decide (q.num<0)),PV.num q.num.natAbs,PV.num q.den]
def gm(q:Rat):rv (decide (q.num<0)) (aw q.num.natAbs) (aw q.den)=q:=by unfold rv;rw[om,Qx,KcZ]
def CH(hD:D≠0):(mkRat z D).num=z/(Nat.gcd z.natAbs D:Int)/\(mkRat z D).den=D/Nat.gcd z.natAbs D:=by rw[Rat.mkRat_def,dif_neg hD,Rat.normalize_eq];exact⟨rfl,rfl⟩
def TH(hD:D≠0):PV.agg [.bool (decide (z<0)),PV.num (z.natAbs/Nat.gcd z.natAbs D),PV.num (D/Nat.gcd z.natAbs D)]=PV.rat (mkRat z D):=by
 obtain⟨h1,h2⟩:=CH (z:=z) hD;have hg:0<Nat.gcd z.natAbs D:=Nat.gcd_pos_of_pos_right _ (Kbf hD);have NU:(Nat.gcd z.natAbs D:Int)∣z:=Int.ofNat_dvd_left.2 (Kc1 _ _);obtain⟨k,hk⟩:=NU;rw[PV.rat,h1,h2];generalize hgg:Nat.gcd z.natAbs D=g at *
 have e1:z/(g:Int)=k:=by rw[hk,Int.mul_ediv_cancel_left _ Oz]
 have e2:z.natAbs/g=k.natAbs:=by rw[hk,Int.natAbs_mul,KbH,Nat.mul_div_cancel_left _ hg]
 have e3:z<0↔k<0:=by
  rw[hk];constructor
  .intro h;apply Decidable.byContradiction;intro h';have:=Int.mul_nonneg (show(0:Int)<=g by omega) (show 0<=k by omega);omega
  .intro h;exact Int.mul_neg_of_pos_of_neg Oz h
 rw[e1,e2,decide_eq_decide.2 e3]
def aeu(z:Int):PV.agg [.bool (decide (z<0)),PV.num z.natAbs,PV.nat [1]]=PV.rat (mkRat z 1):=by rw[<-TH Oz,Nat.gcd_one_right,Nat.div_one,Nat.div_one,PV.num,PV.num,vk]
def Sa:PV.le (.agg [.bool false,.aa,PV.nat [1]]) (PV.rat 0):=by
 show PV.Fm _ _;refine⟨rfl,?_,?_,trivial⟩
 .show PV.oR .aa (PV.nat (aw 0));rw[iu];trivial
 .show PV.oR (PV.nat [1]) (PV.nat (aw 1));rw[vk];exact tP _
def VG(h:D=0\/z=0):mkRat z D=0:=by
 rcases h with h|h
 .rw[h,Rat.mkRat_zero]
 .rw[h,Rat.zero_mkRat]
def rs(q:Rat):Nat:=max (nl q.num.natAbs) (nl q.den)
def TI(x y:Nat):nl (x/y)<=nl x:=kp (KcG _ _)
def AW:nl 1=1:=by unfold nl;rw[vk];rfl
def Hk(z:Int)(D:Nat):rs (mkRat z D)<=max (nl z.natAbs) (max (nl D) 1):=by
 by_cases hD:D=0
 .rw[hD,Rat.mkRat_zero];show max (nl 0) (nl 1)<=_;rw[Kb,AW];omega
 .obtain⟨h1,h2⟩:=CH (z:=z) hD;unfold rs;rw[h1,h2];have e:(z/(Nat.gcd z.natAbs D:Int)).natAbs<=z.natAbs:=by have NU:(Nat.gcd z.natAbs D:Int)∣z:=Int.ofNat_dvd_left.2 (Kc1 _ _);rw[Int.natAbs_ediv_of_dvd NU];exact KcG _ _
  have:=kp e;have:=TI D (Nat.gcd z.natAbs D);omega
def Cr(x y:Int):nl (x+y).natAbs<=max (nl x.natAbs) (nl y.natAbs)+1:=
 KaK (kp (Int.natAbs_add_le x y)) (Ty _ _)
def mL(x y:Int):nl (x*y).natAbs<=nl x.natAbs+nl y.natAbs:=by rw[Int.natAbs_mul];exact sG _ _
def KJ(q:Rat):1<=rs q:=by
 have:nl q.den≠0:=λh=>q.den_nz (GB.1 h)
 unfold rs;omega
def o7(a b:Rat):rs (a+b)<=rs a+rs b+1:=by
 have e:a+b=mkRat (a.num*b.den+b.num*a.den) (a.den*b.den):=by
  conv=>lhs;rw[<-Rat.mkRat_self a,<-Rat.mkRat_self b]
  exact Rat.mkRat_add_mkRat _ _ a.den_nz b.den_nz
 rw[e];have h1:=Hk (a.num*b.den+b.num*a.den) (a.den*b.den);have h2:=Cr (a.num*b.den) (b.num*a.den);have h3:=mL a.num b.den;have h4:=mL b.num a.den;have h5:=sG a.den b.den;rw[KbH]at h3 h4;unfold rs at *
 omega
def mO(a b:Rat):rs (a*b)<=rs a+rs b:=by
 have e:a*b=mkRat (a.num*b.num) (a.den*b.den):=by
  conv=>lhs;rw[<-Rat.mkRat_self a,<-Rat.mkRat_self b]
  exact Rat.mkRat_mul_mkRat _ _ _ _
 rw[e];have h1:=Hk (a.num*b.num) (a.den*b.den);have h3:=mL a.num b.num;have h5:=sG a.den b.den;have:=KJ a;unfold rs at *
 omega
def DC(a:Rat):rs (-a)=rs a:=by unfold rs;rw[Rat.neg_num,Rat.neg_den,Int.natAbs_neg]
def aqn{n k:Nat}{d:List Nat}{b:Bool}(ha:Qk a)(hd:Qk d)(h1:a.length<=k)(h2:d.length<=k)(hk:1<=k):rs (rv b a d)<=k:=by unfold rv;have h:=Hk (zv b a) (val d);rw[lh]at h;have:=cB ha;have:=cB hd;omega
end Go.FW
namespace Go.FW
open Go
variable{D d g:Nat}{a:List Nat}{n:Bool}{p:Rat}{x z:Int}
def ji(q:Rat):Int:=gL q.num
def qn(p q:Rat):Int:=if p<q then -1 else if q<p then 1 else 0
def Lj(hD:D≠0):∃g:Nat,0<g/\z=(mkRat z D).num*g/\D=(mkRat z D).den*g:=by
 obtain⟨h1,h2⟩:=CH (z:=z) hD;have hg:0<Nat.gcd z.natAbs D:=Nat.gcd_pos_of_pos_right _ (Kbf hD);refine⟨_,hg,?_,?_⟩
 .rw[h1,Int.ediv_mul_cancel (Int.ofNat_dvd_left.2 (Kc1 _ _))]
 .rw[h2,Nat.div_mul_cancel (Nat.gcd_dvd_right _ _)]
def afE{a:Int}(hg:0<g):a*g<0↔a<0:=by
 constructor
 .intro h;apply Decidable.byContradiction;intro h';have:=Int.mul_nonneg (show 0<=a by omega) (show(0:Int)<=g by omega);omega
 .intro h;exact Int.mul_neg_of_neg_of_pos h Oz
def afF{a:Int}(hg:0<g):0<a*g↔0<a:=by
 constructor
 .intro h;apply Decidable.byContradiction;intro h';have:=Int.mul_nonneg (show 0<= -a by omega) (show(0:Int)<=g by omega);rw[Int.neg_mul]at this;omega
 .intro h;exact Int.mul_pos h Oz
def ahj(hD:D≠0):ji (mkRat z D)=gL z:=by
 obtain⟨g,hg,h1,_⟩:=Lj (z:=z) hD;unfold ji;generalize(mkRat z D).num=x at *
 subst h1;unfold gL;have:=afE (a:=x) hg;have:=afF (a:=x) hg
 repeat' split
 all_goals omega
def Rt{y:Int}{c:Nat}(hd:d≠0)(hc:c≠0):mkRat x d<mkRat y c↔x*c<y*d:=by
 obtain⟨g,hg,h1,h2⟩:=Lj (z:=x) hd;obtain⟨k,hk,h3,h4⟩:=Lj (z:=y) hc;rw[Rat.lt_iff];generalize(mkRat x d).num=p at *
 generalize(mkRat x d).den=p' at *
 generalize(mkRat y c).num=q at *
 generalize(mkRat y c).den=q' at *
 subst h1 h2 h3 h4;have e1:p*(g:Int)*((q'*k:Nat):Int)=(p*q')*((g*k:Nat):Int):=by push_cast;grind
 have e2:q*(k:Int)*((p'*g:Nat):Int)=(q*p')*((g*k:Nat):Int):=by push_cast;grind
 rw[e1,e2];have YR:(0:Int)<((g*k:Nat):Int):=by exact_mod_cast Nat.mul_pos hg hk
 exact⟨λh=>Int.mul_lt_mul_of_pos_right h YR,λh=>Int.lt_of_mul_lt_mul_right h (Int.le_of_lt YR)⟩
def Sb{y:Int}{c:Nat}(hd:d≠0)(hc:c≠0):qn (mkRat x d) (mkRat y c)=eR (x*c) (y*d):=by unfold qn eR;simp only[Rt hd hc,Rt hc hd]
def MN:gL x=0↔x=0:=by unfold gL;(repeat' split)<;>omega
def fy{q:Rat}:ji q=0↔q=0:=by unfold ji;rw[MN,Rat.num_eq_zero]
def CX{q:Rat}:ji q<0↔q<0:=by unfold ji;rw[Dn,Rat.lt_iff];simp
def Hl{q:Rat}:0<ji q↔0<q:=by
 unfold ji;rw[Rat.lt_iff];unfold gL;simp;repeat' split
 all_goals omega
def Pe(q:Rat):ji q= -1\/ji q=0\/ji q=1:=by unfold ji gL;(repeat' split)<;>omega
def Ru{q:Rat}(h:ji p<ji q):qn p q= -1:=by
 unfold qn;rw[if_pos];rcases Pe p with h1|h1|h1<;>rcases Pe q with h2|h2|h2<;>first|omega|skip
 .have a:=CX.1 (show ji p<0 by omega);have b:=fy.1 h2;grind
 .have a:=CX.1 (show ji p<0 by omega);have b:=Hl.1 (show 0<ji q by omega);grind
 .have a:=fy.1 h1;have b:=Hl.1 (show 0<ji q by omega);grind
def aiU{q:Rat}(h:ji q<ji p):qn p q=1:=by
 have:=Ru h;unfold qn at *
 have aA:q<p:=by apply Decidable.byContradiction;intro hn;rw[if_neg hn]at this;split at this<;>omega
 rw[if_neg (by grind),if_pos aA]
def Mf{q:Rat}:qn p q=0↔p=q:=by
 unfold qn;constructor
 .intro h;split at h
  .omega
  .split at h
   .omega
   .grind
 .rintro rfl;rw[if_neg (by grind),if_neg (by grind)]
def qi(n:Bool)(a:List Nat):Bool:=if a=[]then !n else decide (a.getLast? ≠some 0)
def fL(n:Bool)(a d:List Nat):Bool:=qi n a&&(decide (d≠[]/\d.getLast? ≠some 0)&&decide (Nat.gcd (val a) (val d)=1))
def Rv{d:List Nat}(ha:Qk a)(hd:Qk d)(h:fL n a d=true):n=decide ((rv n a d).num<0)/\a=aw (rv n a d).num.natAbs/\d=aw (rv n a d).den:=by
 simp only[fL,qi,Kav,decide_eq_true_eq]at h;obtain⟨h1,⟨h2,h3⟩,h4⟩:=h;have ea:a=aw (val a):=by
  refine(Dh ha ?_).symm;split at h1
  .rename_i h;subst h;simp
  .simpa using h1
 have ed:d=aw (val d):=(Dh hd h3).symm;have hD:val d≠0:=λh=>h2 (by rw[ed,h,iu])
 obtain⟨g1,g2⟩:=CH (z:=zv n a) hD;rw[lh,h4]at g1 g2;have Ir:(rv n a d).num=zv n a:=by unfold rv;rw[g1];simp
 have g2':(rv n a d).den=val d:=by unfold rv;rw[g2];simp
 rw[Ir,g2',lh];refine⟨?_,ea,ed⟩;unfold zv;split at h1
 .rename_i h;subst h;simp at h1;subst h1;simp[val]
 .rename_i h;have h0:val a≠0:=λh'=>h (by rw[ea,h',iu])
  cases n<;>simp;omega
def yU{d:List Nat}(ha:Qk a)(hd:Qk d)(h:fL n a d=true):PV.rr n a d=PV.rat (rv n a d):=by obtain⟨h1,h2,h3⟩:=Rv ha hd h;rw[PV.rr,PV.rat,<-h1,PV.num,PV.num,<-h2,<-h3]
def VH{k:Nat}(h:a.length=k+1):a.getLast? =some (a[k]'Oz):=by rw[Kbh,show a.length-1=k by omega];exact Kae _
variable{a:List Int}{i k:Nat}
def eN(a:List Int)(i:Nat):Int:=a.getD i 0
def mQ(h:i<a.length):eN a i=a[i]:=by simp[eN,Kac,h]
def mR(h:a.length<=i):eN a i=0:=by simp[eN,Kac,List.getElem?_eq_none h]
def aqo(i:Nat):eN [] i=0:=by simp[eN]
def oy(l:List Int):Nat->List Int
 |0=>[]
 |n+1=>if l[n]? =some 0 then oy l n else l.take (n+1)
def fa(l:List Int):List Int:=oy l l.length
def VI(l:List Int):∀n,(oy l n).length<=n
 |0=>by simp[oy]
 |n+1=>by
  rw[oy];split
  .have:=VI l n;omega
  .simp;omega
def Pf(l:List Int):∀n,n<=l.length->(oy l n).getLast? ≠some 0
 |0,_=>by simp[oy]
 | n+1,h=>by
  rw[oy];split
  .exact Pf l n Oz
  .rename_i hn;have:(l.take (n+1)).getLast? =l[n]? :=by rw[Kbh,Kay,Kb1 h];simp[Kcj]
   rw[this];exact hn
def Sc(l:List Int)(i:Nat):∀n,n<=l.length->eN (oy l n) i=if i<n then eN l i else 0
 |0,_=>by simp[oy,eN]
 | n +1,h=>by
  rw[oy];split
  .rename_i hn;rw[Sc l i n Oz];by_cases h1:i<n
   .simp[h1,show i<n+1 by omega]
   .rw[if_neg h1];split
    .obtain rfl:i=n:=by omega
     simp[eN,Kac,hn]
    .rfl
  .simp only[eN,Kac,Kcj];split<;>simp_all
def Rw(l:List Int)(i:Nat):eN (fa l) i=eN l i:=by
 rw[fa,Sc l i _ (Kag _)];split
 .rfl
 .exact(mR Oz).symm
def VU(l:List Int):(fa l).getLast? ≠some 0:=Pf l _ (Kag _)
def Gc(l:List Int):(fa l).length<=l.length:=VI l _
def Hm{b:List Int}(ha:a.getLast? ≠some 0)(hb:b.getLast? ≠some 0)(h:∀i,eN a i=eN b i):a=b:=by
 have key:∀(a b:List Int),b.getLast? ≠some 0->(∀i,eN a i=eN b i)->¬a.length<b.length:=by intro a b hb h aA;have h1:=h (b.length-1);rw[mR Oz,mQ Oz]at h1;apply hb;rw[Kbh,Kae Oz,<-h1]
 have h1:=key a b hb h;have h2:=key b a ha (λi=>(h i).symm);refine Ka9 Oz λi h3 h4=>?_
 have:=h i
 rwa[mQ h3,mQ h4]at this
def Rx(h:a.getLast? ≠some 0):fa a=a:=Hm (VU a) h (Rw a)
def fN(a b:List Int):Nat->Int
 |0=>0
 |n+1=>if eN a n=eN b n then fN a b n else eR (eN a n) (eN b n)
def bC(a b:List Int):Int:=fN a b (max a.length b.length)
def alG{y:Int}:eR x y=0↔x=y:=by unfold eR;(repeat' split)<;>omega
def Sd{y:Int}:eR x y<0↔x<y:=by unfold eR;(repeat' split)<;>omega
def aiV(x y:Int):eR y x= -eR x y:=by unfold eR;(repeat' split)<;>omega
def GI(a b:List Int):∀n,fN a b n=0↔∀i,i<n->eN a i=eN b i
 |0=>by simp[fN]
 | n+1=>by
  rw[fN];split
  .rename_i h;rw[GI a b n];exact⟨λH i hi=>by
    by_cases h1:i=n
    .subst h1;exact h
    .exact H i Oz,λH i hi=>H i Oz⟩
  .rename_i h;rw[alG];exact⟨λH=>absurd H h,λH=>H n Oz⟩
def Ry(a b:List Int):∀n,fN b a n= -fN a b n
 |0=>rfl
 |n+1=>by
  rw[fN,fN];by_cases h:eN a n=eN b n
  .rw[if_pos h,if_pos h.symm,Ry a b n]
  .rw[if_neg h,if_neg (λh'=>h h'.symm),aiV]
def VV{a b c:List Int}:∀n,fN a b n<0->fN b c n<0->fN a c n<0
 |0=>by simp[fN]
 | n+1=>by
  intro h1 h2;rw[fN]at h1 h2⊢;split at h1<;>split at h2
  .rename_i e1 e2;rw[if_pos (e1.trans e2)];exact VV n h1 h2
  .rename_i e1 e2;rw[e1,if_neg e2];exact h2
  .rename_i e1 e2;rw[<-e2,if_neg e1];exact h1
  .rename_i e1 e2;rw[Sd]at h1 h2;rw[if_neg Oz,Sd];omega
def CY{b:List Int}{m:Nat}(h:max a.length b.length<=m):fN a b m=bC a b:=by
 obtain⟨k,rfl⟩:∃k,m=max a.length b.length+k:=⟨m-max a.length b.length,Oz⟩
 induction k with
 |zero=>rfl
 |succ k ih=>rw[<-Nat.add_assoc,fN,if_pos (by rw[mR Oz,mR Oz])];exact ih Oz
def Ki{b:List Int}(ha:a.getLast? ≠some 0)(hb:b.getLast? ≠some 0):bC a b=0↔a=b:=by
 unfold bC;rw[GI];constructor
 .intro h;refine Hm ha hb λi=>?_
  by_cases hi:i<max a.length b.length
  .exact h i hi
  .rw[mR Oz,mR Oz]
 .rintro rfl i _;rfl
def Mg(a:List Int):bC a a=0:=by rw[bC,GI];intros;rfl
def CZ(a b:List Int):bC b a= -bC a b:=by unfold bC;rw[Nat.max_comm,Ry]
def afG{b c:List Int}(h1:bC a b<0)(h2:bC b c<0):bC a c<0:=by
 have e:∀x y:List Int,x.length<=a.length+b.length+c.length->y.length<=a.length+b.length+c.length->bC x y=fN x y (a.length+b.length+c.length):=λx y hx hy=>(CY Oz).symm
 rw[e _ _ Oz Oz]at *
 exact VV _ h1 h2
def afH{b c d:List Int}(h1:∀i,eN a i=eN c i)(h2:∀i,eN b i=eN d i):bC a b=bC c d:=by
 have key:∀n,fN a b n=fN c d n:=by
  intro n;induction n with
  |zero=>rfl
  |succ n ih=>rw[fN,fN,h1,h2,ih]
 rw[<-CY (m:=max (max a.length b.length) (max c.length d.length)) Oz,key,CY Oz]
def nM(g:Int->Int->Int)(a b:List Int):List Int:=(List.range (max a.length b.length)).map λi=>g (eN a i) (eN b i)
def tF(g:Int->Int->Int)(a b:List Int):(nM g a b).length=max a.length b.length:=by simp[nM]
def Se{g:Int->Int->Int}(hg:g 0 0=0)(a b:List Int)(i:Nat):eN (nM g a b) i=g (eN a i) (eN b i):=by
 by_cases h:i<max a.length b.length
 .rw[mQ (by rw[tF];exact h)];simp[nM]
 .rw[mR (by rw[tF];omega),mR Oz,mR Oz,hg]
def eJ(a b:List Int):List Int:=fa (nM (· + ·) a b)
def AK(a b:List Int)(i:Nat):eN (eJ a b) i=eN a i+eN b i:=by rw[eJ,Rw,Se (by simp)]
def CI(a b:List Int):(eJ a b).getLast? ≠some 0:=VU _
def Mh(a b:List Int):eJ a b=eJ b a:=Hm (CI _ _) (CI _ _) λi=>by rw[AK,AK,Int.add_comm]
def MO(h:a.getLast? ≠some 0):eJ a []=a:=Hm (CI _ _) h λi=>by rw[AK,aqo,Int.add_zero]
def aiW(a b c:List Int):bC (eJ a c) (eJ b c)=bC a b:=by
 have key:∀n,fN (eJ a c) (eJ b c) n=fN a b n:=by
  intro n;induction n with
  |zero=>rfl
  |succ n ih=>
   rw[fN,fN,AK,AK,ih];by_cases h:eN a n=eN b n
   .rw[if_pos h,if_pos Oz]
   .rw[if_neg h,if_neg Oz];unfold eR;(repeat' split)<;>omega
 rw[<-CY (m:=max (max (eJ a c).length (eJ b c).length) (max a.length b.length)) Oz,key,CY Oz]
def ml(a:List Int):Int:=a.sum
def eH(a:List Int):Bool:=decide (a.length<=64)&&(decide (a.getLast? ≠some 0)&&a.all λx=>decide (0<=x)&&decide (x<=1048576))
def nN(o:Int)(a b:List Int):Int:=if o=1/\ml a≠ml b then eR (ml a) (ml b)else bC a b
structure MB(k:Nat)(a:List Int):Prop where
 len:a.length<=64
 lo:∀x∈a,0<=x
 hi:∀x∈a,x<=k
def MB.eN{k:Nat}{a:List Int}(h:MB k a)(i:Nat):0<=FW.eN a i/\FW.eN a i<=k:=by
 by_cases hi:i<a.length
 .rw[mQ hi];exact⟨h.lo _ (Kad _),h.hi _ (Kad _)⟩
 .rw[mR Oz];omega
def MB.mono{k':Nat}(h:MB k a)(hk:k<=k'):MB k' a:=⟨h.len,h.lo,λx hx=>by have:=h.hi x hx;omega⟩
def MB.wC(h:eH a=true):MB 1048576 a:=by simp only[eH,Kav,decide_eq_true_eq,Kas]at h;exact⟨h.1,λx hx=>(h.2.2 x hx).1,λx hx=>(h.2.2 x hx).2⟩
def MB.mul{l:Nat}{b:List Int}(h:MB k a)(g:MB l b):MB (k+l) (eJ a b):=by
 have hl:(eJ a b).length<=64:=by have:=Gc (nM (· + ·) a b);rw[tF]at this;have:=h.len;have:=g.len;unfold eJ;omega
 refine⟨hl,λx hx=>?_,λx hx=>?_⟩
 all_goals
  obtain⟨i,hi,rfl⟩:=KaH hx;rw[<-mQ hi,AK];have:=h.eN i;have:=g.eN i
  push_cast;omega
variable {C : Ctx} {fr : Fr} {hp : HP} {w : World} {K R : Qf}
variable{O by_ e n ty:Nat}{fz:Bool}{k k':IntKind}{α:Type}
def aev{f:α->PV}{xs:List α}(h5:n<=xs.length):
  jI e (.sl e (xs.map f)) none (some (.int k (n:Int))) (some (.int k' (n:Int))) d fr hp K=K (ae fr d (.sl e ((xs.take n).map f))) hp:=by
 simp[jI,jL,h5]
def MP{a:List α}{k:Nat}(h:a.length=k+1):a.getLast? =some (a[k]'Oz):=by rw[Kbh,show a.length-1=k by omega];exact Kae _
def Q8i{f:α->PV}{xs:List α}(h0:0<e)(h1:xs.length*by_<=140737488355328)(h2:xs.length<=9223372036854775807):
  jO e by_ ty .aa (.sl e (xs.map f)) d fr hp K=K (ae (cI d fr) d (.ms d xs.length)) (Qg hp d ⟨e,ty,xs.map f,false⟩):=by
 have:=LU (fr:=fr) (hp:=hp) (K:=K) (e:=e) (by_:=by_) (ty:=ty) (d:=d) (x:=.sl e (xs.map f)) (ys:=xs.map f) rfl h0 (by simpa using h1) (by simpa using h2);simpa using this
def oZ{f:α->PV}{xs ys:List α}(hb:hp O=some ⟨e,ty,xs.map f,false⟩)(hn:n=xs.length)(h0:0<e)(h1:(n+ys.length)*by_<=140737488355328)(h2:n+ys.length<=9223372036854775807)(hB:bN O=false:=by decide):
  jO e by_ ty (.ms O n) (.sl e (ys.map f)) d fr hp K=K (ae (cI O fr) d (.ms O (n+ys.length))) (Qg hp O ⟨e,ty,(xs++ys).map f,false⟩):=by
 rw[GA (ys:=ys.map f) (xs:=xs.map f) rfl hb h0 (by simp[hn]) (by simpa using h1) (by simpa using h2) hB];rw[Kaf (by simp[hn]),KbN,KaC]
def Qq{f:α->PV}{y:α}{ty' γ:Nat}{xs:List α}(hb:hp O=some ⟨e,ty,xs.map f,false⟩)(hy:hp γ=some ⟨e,ty',[f y],fz⟩)(h0:0<e)(hn:n=xs.length)(h1:(n+1)*by_<=140737488355328)(h2:n+1<=9223372036854775807)(hB:bN O=false:=by decide):
  jO e by_ ty (.ms O n) (.ms γ 1) d fr hp K=K (ae (cI O fr) d (.ms O (n+1))) (Qg hp O ⟨e,ty,(xs++[y]).map f,false⟩):=by
 rw[Hd hb hy h0 (by simp[hn]) h1 h2 hB];simp
abbrev PV.mono(a:List Int):PV:=.sl 1 (nL a)
def Pg(h:a=[]):PV.le .aa (PV.mono a):=by subst h;trivial
def aqp{c:Nat}(h2:n<=c)(h3:by_*c<=281474976710656)(h4:c<=9223372036854775807):
  pR 1 by_ ty (.int .i64 0) (.int k (n:Int)) (.int k' (c:Int)) d fr hp K=K (ae (cI d fr) d (.ms d n)) (Qg hp d ⟨1,ty,nL (List.replicate n 0),false⟩):=by
 rw[Tv Oz Oz Oz Oz];simp[nL]
def Sf(a b:Nat):max (a:Int) (b:Int)=((max a b:Nat):Int):=Oz
end Go.FW
namespace Go.FW
open Go
variable {C : Ctx} {fr : Fr} {hp : HP} {w : World} {K R : Qf}
variable{a:List Int}{i n:Nat}{α:Type}
def ahk{done:List α}{v z:α}(h:done.length=i)(hn:0<n):(done++List.replicate n z).set i v=(done++[v])++List.replicate (n-1) z:=by
 obtain⟨m,rfl⟩:∃m,n=m+1:=⟨n-1,Oz⟩
 subst h;simp[KbC]
def Mi{g:Int->Int->Int}{b:List Int}(h:i<max a.length b.length):(nM g a b).take (i+1)=(nM g a b).take i++[g (eN a i) (eN b i)]:=by rw[Kam (by rw[tF];exact h)];simp[nM]
end Go.FW
namespace Go.FW
open Go
variable{E by_ d e i ty:Nat}{a:List Int}{k k':IntKind}
abbrev Tm:=Rat×List Int
abbrev PV.term(t:Tm):PV:=.agg [.bool (decide (t.1.num<0)),PV.num t.1.num.natAbs,PV.num t.1.den,PV.mono t.2]
abbrev PV.aC(p:List Tm):PV:=.sl 4 (p.map PV.term)
abbrev PV.ayE(l:List (List Tm)):PV:=.sl 1 (l.map PV.aC)
def Qp:List Tm->List Tm->List Tm
 | [],q=>q
 |p,[]=>p
 |(c,m)::p,(d,l)::q=>
  if 0<bC m l then(c,m)::Qp p ((d,l)::q)
  else if bC m l<0 then(d,l)::Qp ((c,m)::p) q
  else if c+d=0 then Qp p q else(c+d,m)::Qp p q
termination_by p q=>p.length+q.length
def oY(p:List Tm):Qp p []=p:=by cases p<;>rw[Qp];simp
def yE(p:List Tm):Qp [] p=p:=by rw[Qp]
structure TB(K E:Nat)(t:Tm):Prop where
 c:rs t.1+1<=K
 m:MB E t.2
 l:t.2.getLast? ≠some 0
def PB(K E:Nat)(p:List Tm):Prop:=∀t∈p,TB K E t
def TB.mono{K K' E E':Nat}{t:Tm}(h:TB K E t)(hK:K<=K')(hE:E<=E'):TB K' E' t:=⟨KaK h.c hK,h.m.mono hE,h.l⟩
def PB.mono{K K' E E':Nat}{p:List Tm}(h:PB K E p)(hK:K<=K')(hE:E<=E'):PB K' E' p:=λt ht=>(h t ht).mono hK hE
def PB.nil(K E:Nat):PB K E []:=λt ht=>by cases ht
def PB.cons{K:Nat}{t:Tm}{p:List Tm}:PB K E (t::p)↔TB K E t/\PB K E p:=by simp[PB]
def PB.take{K E:Nat}{p:List Tm}(h:PB K E p)(n:Nat):PB K E (p.take n):=λt ht=>h t (Kby ht)
def PB.get{K:Nat}{p:List Tm}(h:PB K E p)(hi:i<p.length):TB K E p[i]:=h _ (Kad hi)
def Gl:∀(p q:List Tm),(Qp p q).length<=p.length+q.length:=by
 intro p q;induction p,q using Qp.induct with
 |case1 q=>rw[Qp];simp
 |case2 p h=>rw[oY];simp
 |case3 c m p d l q h ih=>rw[Qp,if_pos h];simp at ih ⊢;omega
 |case4 c m p d l q h1 h2 ih=>rw[Qp,if_neg h1,if_pos h2];simp at ih ⊢;omega
 |case5 c m p d l q h1 h2 h3 ih=>rw[Qp,if_neg h1,if_neg h2,if_pos h3];simp at ih ⊢;omega
 |case6 c m p d l q h1 h2 h3 ih=>rw[Qp,if_neg h1,if_neg h2,if_neg h3];simp at ih ⊢;omega
def Hw{K L:Nat}:∀(p q:List Tm),PB K E p->PB L E q->PB (K+L) E (Qp p q):=by
 intro p q;induction p,q using Qp.induct with
 |case1 q=>rw[Qp];exact λ_ h=>h.mono Oz Oz
 |case2 p h=>rw[oY];exact λh _=>h.mono Oz Oz
 |case3 c m p d l q h ih=>intro hp hq;rw[Qp,if_pos h];rw[PB.cons]at hp⊢;exact⟨hp.1.mono Oz Oz,ih hp.2 hq⟩
 |case4 c m p d l q h1 h2 ih=>intro hp hq;rw[Qp,if_neg h1,if_pos h2];rw[PB.cons]at hq⊢;exact⟨hq.1.mono Oz Oz,ih hp hq.2⟩
 |case5 c m p d l q h1 h2 h3 ih=>intro hp hq;rw[Qp,if_neg h1,if_neg h2,if_pos h3];rw[PB.cons]at hp hq;exact ih hp.2 hq.2
 |case6 c m p d l q h1 h2 h3 ih=>intro hp hq;rw[Qp,if_neg h1,if_neg h2,if_neg h3];rw[PB.cons]at hp hq⊢;refine⟨⟨?_,hp.1.m,hp.1.l⟩,ih hp.2 hq.2⟩;have:=o7 c d;have:=hp.1.c;have:=hq.1.c;simp only at *;omega
def hO(l:List (List Tm)):List Tm:=
 match l with
 | []=>[]
 | [p]=>p
 |p::q::r=>Qp (hO ((p::q::r).take ((p::q::r).length/2))) (hO ((p::q::r).drop ((p::q::r).length/2)))
termination_by l.length
decreasing_by
 all_goals simp[Kay,Ka4];omega
def GJ{l:List (List Tm)}(h:2<=l.length):hO l=Qp (hO (l.take (l.length/2))) (hO (l.drop (l.length/2))):=by
 match l,h with
 |p::q::r,_=>rw[hO]
def rI(l:List (List Tm)):Nat:=(l.map List.length).sum
def VW(l:List (List Tm))(n:Nat):rI (l.take n)+rI (l.drop n)=rI l:=by unfold rI;rw[<-List.sum_append,<-List.map_append,Kbt]
def LV{K:Nat}:∀(n:Nat)(l:List (List Tm)),l.length<=n->(∀p∈l,PB K E p)->PB (l.length*K) E (hO l)/\(hO l).length<=rI l:=by
 intro n;induction n with
 |zero=>intro l hl _;have:l=[]:=KaE.1 Oz;subst this;rw[hO];exact⟨PB.nil _ _,by simp⟩
 | succ n ih=>
  intro l hl h
  match l,h with
  | [],_=>rw[hO];exact⟨PB.nil _ _,by simp⟩
  | [p],h=>rw[hO];exact⟨by simpa using h p (by simp),by simp[rI]⟩
  | p::q::r,h=>
   rw[GJ (by simp)];generalize hL:p::q::r=L at *
   have hlen:2<=L.length:=by rw[<-hL];simp
   obtain⟨a1,a2⟩:=ih (L.take (L.length/2)) (by rw[Kay];omega) (λx hx=>h x (Kby hx));obtain⟨b1,b2⟩:=ih (L.drop (L.length/2)) (by rw[Ka4];omega) (λx hx=>h x (Kb2 hx));have hs:=VW L (L.length/2);constructor
   .have e:(L.take (L.length/2)).length*K+(L.drop (L.length/2)).length*K=L.length*K:=by rw[<-Nat.add_mul,Kay,Ka4];congr 1;omega
    rw[<-e];exact Hw _ _ a1 b1
   .have:=Gl (hO (L.take (L.length/2))) (hO (L.drop (L.length/2)));omega
def cr(p:List Tm)(t:Tm):List Tm:=p.filterMap λx=>if x.1*t.1=0 then none else some (x.1*t.1,eJ x.2 t.2)
def yr(p:List Tm)(t:Tm):(cr p t).length<=p.length:=KcU _ _
def Ay{K L F:Nat}{p:List Tm}{t:Tm}(hp:PB K E p)(ht:TB L F t):PB (K+L) (E+F) (cr p t):=by
 intro x hx;simp only[cr,Kck]at hx;obtain⟨y,hy,h⟩:=hx;split at h
 .cases h
 .cases h;have g:=hp y hy;refine⟨?_,g.m.mul ht.m,CI _ _⟩;have:=mO y.1 t.1;have:=g.c;have:=ht.c;simp only;omega
def vE(p q:List Tm):List Tm:=hO (p.map (cr q))
def dD(p q:List Tm):List Tm:=if q.length<p.length then vE q p else vE p q
def Li(p q:List Tm):rI (p.map (cr q))<=p.length*q.length:=by
 unfold rI;induction p with
 |nil=>simp
 |cons t p ih=>have:=yr q t;simp only[Ka3,KcW,KaX,KaL,KcQ];omega
def VJ{K L F:Nat}{p q:List Tm}(hp:PB K E p)(hq:PB L F q):PB (p.length*(K+L)) (E+F) (vE p q)/\(vE p q).length<=p.length*q.length:=by obtain⟨h1,h2⟩:=LV (K:=K+L) (E:=E+F) _ (p.map (cr q)) (Kag _) (λx hx=>by obtain⟨t,ht,rfl⟩:=KaD.1 hx;exact(Ay hq (hp t ht)).mono Oz Oz);rw[KaC]at h1;exact⟨h1,KaK h2 (Li p q)⟩
def GD{K L F:Nat}{p q:List Tm}(hp:PB K E p)(hq:PB L F q):PB (min p.length q.length*(K+L)) (E+F) (dD p q)/\(dD p q).length<=p.length*q.length:=by
 unfold dD;split
 .rename_i h;obtain⟨h1,h2⟩:=VJ hq hp;rw[Kc2 Oz,KbM K,KbM E,KaU p.length];exact⟨h1,h2⟩
 .rename_i h;obtain⟨h1,h2⟩:=VJ hp hq;rw[Kb1 Oz];exact⟨h1,h2⟩
def CJ(x y:Tm)(p q:List Tm):Qp (x::p) (y::q)=if 0<bC x.2 y.2 then x::Qp p (y::q)else if bC x.2 y.2<0 then y::Qp (x::p) q else if x.1+y.1=0 then Qp p q else(x.1+y.1,x.2)::Qp p q:=by obtain⟨c,m⟩:=x;obtain⟨d,l⟩:=y;rw[Qp]
def Ph{p q:List Tm}{k:Nat}(hi:i<p.length)(hk:k<q.length):Qp (p.drop i) (q.drop k)=if 0<bC p[i].2 q[k].2 then p[i]::Qp (p.drop (i+1)) (q.drop k)else if bC p[i].2 q[k].2<0 then q[k]::Qp (p.drop i) (q.drop (k+1))else if p[i].1+q[k].1=0 then Qp (p.drop (i+1)) (q.drop (k+1))else(p[i].1+q[k].1,p[i].2)::Qp (p.drop (i+1)) (q.drop (k+1)):=by rw[KaB hi,KaB hk,CJ]
def HN(a b:List Int):nN 0 a b=bC a b:=by simp[nN]
def LW{b:List Int}(h1:¬0<bC a b)(h2:¬bC a b<0)(ha:a.getLast? ≠some 0)(hb:b.getLast? ≠some 0):a=b:=(Ki ha hb).1 Oz
def yF:PV.le .aa (PV.aC []):=trivial
def CK{p:List Tm}(h:p=[]):PV.le .aa (PV.aC p):=by subst h;trivial
section
variable {C : Ctx} {fr : Fr} {hp : HP} {w : World} {K R : Qf}
def aiX{z:PV}{Cc:Int}(h0:0<e)(hz:z.cells.length=e)(h2:0<=Cc)(h3:by_*Cc<=281474976710656)(h4:Cc<=9223372036854775807):
  pR e by_ ty z (.int k 0) (.int k' Cc) d fr hp K=K (ae (cI d fr) d (.ms d 0)) (Qg hp d ⟨e,ty,[],false⟩):=FN h0 hz Oz h2 h3 h4
end
end Go.FW
namespace Go.FW
open Go
variable{E K i:Nat}{a:List Int}{p:List Tm}
def ee(p:List Tm)(a:Rat):List Tm:=if a=0 then []else cr p (a,[])
def vH(p:List Tm):List Tm:=ee p (-1)
def bX(p q:List Tm):List Tm:=Qp p (vH q)
def mc(a:Rat):List Tm:=if a=0 then []else [(a,[])]
def rJ(v:Nat):List Int:=List.replicate v 0++[1]
def bJ(v:Int):List Tm:=if v<0\/64<=v then []else [(1,rJ v.toNat)]
def TB.num{a:Rat}(h:rs a+1<=K):TB K E (a,[]):=⟨h,⟨by simp,by simp,by simp⟩,by simp⟩
def Mj{a:Rat}{L:Nat}(hp:PB K E p)(ha:rs a+1<=L):PB (K+L) E (ee p a):=by
 unfold ee;split
 .exact PB.nil _ _
 .exact(Ay (F:=0) hp (TB.num ha)).mono Oz Oz
def FZ(p:List Tm)(a:Rat):(ee p a).length<=p.length:=by
 unfold ee;split
 .simp
 .exact yr _ _
def FE:rs (-1)<=1:=by have:rs (-1)=max (nl 1) (nl 1):=rfl;rw[this,AW];omega
def ph:rs 1<=1:=by have:rs 1=max (nl 1) (nl 1):=rfl;rw[this,AW];omega
def Af:rs 0<=1:=by have:rs 0=max (nl 0) (nl 1):=rfl;rw[this,AW,Kb];omega
def SB(hp:PB K E p):PB (K+2) E (vH p):=Mj hp (by have:=FE;omega)
def pj(s t:Tm):Int:=if bC s.2 t.2≠0 then bC s.2 t.2 else qn s.1 t.1
def kK:List Tm->List Tm->Int
 | [],[]=>0
 | [],_::_=> -1
 |_::_,[]=>1
 |s::p,t::q=>if pj s t≠0 then pj s t else kK p q
def alH{s t:Tm}(hs:s.2.getLast? ≠some 0)(ht:t.2.getLast? ≠some 0):pj s t=0↔s=t:=by
 unfold pj;constructor
 .intro h;split at h
  .omega
  .rename_i h1;have e1:=(Ki hs ht).1 (Decidable.not_not.1 h1);exact Prod.ext (Mf.1 h) e1
 .rintro rfl;rw[if_neg (by simp[Mg]),Mf.2 rfl]
def Kj:∀ {p q:List Tm},(∀t∈p,t.2.getLast? ≠some 0)->(∀t∈q,t.2.getLast? ≠some 0)->(kK p q=0↔p=q)
 | [],[],_,_=>by simp[kK]
 | [],_::_,_,_=>by simp[kK]
 |_::_,[],_,_=>by simp[kK]
 | s::p,t::q,hp,hq=>by
  rw[kK];have h1:=alH (hp s (by simp)) (hq t (by simp));have h2:=Kj (p:=p) (q:=q) (λx hx=>hp x (by simp[hx])) (λx hx=>hq x (by simp[hx]));split
  .rename_i h;simp only[Kct];exact⟨λh'=>absurd h' h,λh'=>absurd (h1.2 h'.1) h⟩
  .rename_i h;rw[h2,Kct,<-h1];exact⟨λh'=>⟨Decidable.not_not.1 h,h'⟩,λh'=>h'.2⟩
def PJ{q:List Tm}(hi:i<p.length)(hk:i<q.length):kK (p.drop i) (q.drop i)=if pj p[i] q[i]≠0 then pj p[i] q[i]else kK (p.drop (i+1)) (q.drop (i+1)):=by rw[KaB hi,KaB hk,kK]
def C0{q:List Tm}:kK [] q=if q.length=0 then 0 else -1:=by cases q<;>simp[kK]
def PB.last(h:PB K E p):∀t∈p,t.2.getLast? ≠some 0:=λt ht=>(h t ht).l
def xm(p:List Tm):Int:=p.foldl (λd t=>max d (ml t.2)) (-1)
def Kk(h:MB E a):0<=ml a/\ml a<=64*E:=by
 have key:∀(l:List Int),(∀x∈l,0<=x)->(∀x∈l,x<=E)->0<=l.sum/\l.sum<=l.length*E:=by
  intro l;induction l with
  |nil=>simp
  |cons x l ih=>
   intro h1 h2;obtain⟨a1,a2⟩:=ih (λy hy=>h1 y (by simp[hy])) (λy hy=>h2 y (by simp[hy]));have b1:=h1 x (by simp);have b2:=h2 x (by simp);rw[KcW,KaX]
   push_cast
   rw[Int.add_mul];omega
 obtain⟨h1,h2⟩:=key a h.lo h.hi;refine⟨h1,Int.le_trans h2 (Int.mul_le_mul_of_nonneg_right ?_ Oz)⟩;have:=h.len;omega
variable{k:Nat}
structure bO where
 n:Bool
 a:List Nat
 d:List Nat
 m:List Int
abbrev PV.sh(t:bO):PV:=.agg [.bool t.n,PV.nat t.a,PV.nat t.d,PV.mono t.m]
abbrev PV.tD(l:List bO):PV:=.sl 4 (l.map PV.sh)
def bO.q(t:bO):Rat:=rv t.n t.a t.d
def bO.tm(t:bO):Tm:=(t.q,t.m)
structure RB(k:Nat)(t:bO):Prop where
 r:Qk t.a/\Qk t.d/\t.a.length<=k/\t.d.length<=k
 l:t.m.length<2^40
def gV(t:bO):Bool:=fL t.n t.a t.d&&(decide (t.q≠0)&&eH t.m)
def eC:List bO->Bool
 | []=>true
 | [t]=>gV t
 |s::t::l=>gV s&&(decide (0<bC s.m t.m)&&eC (t::l))
def MQ:∀(l:List bO),eC l=true↔(∀i (h:i<l.length),gV l[i]=true)/\(∀i (h:i+1<l.length),0<bC l[i].m l[i+1].m)
 | []=>by simp[eC]
 | [t]=>by
  rw[eC];constructor
  .intro h;exact⟨λi hi=>by have:i=0:=(by simp at hi;omega);subst this;exact h,λi hi=>by simp at hi⟩
  .intro h;exact h.1 0 (by simp)
 | s::t::l=>by
  rw[eC,Kav,Kav,decide_eq_true_eq,MQ (t::l)];constructor
  .rintro⟨h1,h2,h3,h4⟩;refine⟨λi hi=>?_,λi hi=>?_⟩
   .cases i with
    |zero=>exact h1
    |succ i=>exact h3 i (by simpa using hi)
   .cases i with
    |zero=>exact h2
    |succ i=>exact h4 i (by simpa using hi)
  .rintro⟨h1,h2⟩;exact⟨h1 0 (by simp),h2 0 (by simp),λi hi=>h1 (i+1) (by simpa using hi),λi hi=>h2 (i+1) (by simpa using hi)⟩
def ahl{s:bO}{l:List bO}(h:eC (s::l)=true):gV s=true/\eC l=true:=by
 cases l with
 |nil=>exact⟨h,rfl⟩
 |cons t l=>rw[eC,Kav,Kav]at h;exact⟨h.1,h.2.2⟩
structure TV(t:Tm):Prop where
 c:t.1≠0
 m:eH t.2=true
def mN:List Tm->Prop
 | []=>True
 |s::p=>(∀t∈p,0<bC s.2 t.2)/\mN p
structure yq(p:List Tm):Prop where
 t:∀t∈p,TV t
 s:mN p
def aiY{t:bO}(hb:RB k t)(h:gV t=true):PV.sh t=PV.term t.tm/\TV t.tm:=by simp only[gV,Kav,decide_eq_true_eq]at h;obtain⟨h1,h2,h3⟩:=h;obtain⟨e1,e2,e3⟩:=Rv hb.r.1 hb.r.2.1 h1;refine⟨?_,h2,h3⟩;rw[PV.sh,PV.term,bO.tm,bO.q,<-e1,PV.num,PV.num,<-e2,<-e3]
def An{b c:List Int}(h1:0<bC a b)(h2:0<bC b c):0<bC a c:=by have e1:=CZ a b;have e2:=CZ b c;have e3:=CZ a c;have:=afG (a:=c) (b:=b) (c:=a) Oz Oz;omega
def GK:∀ {l:List bO},(∀t∈l,RB k t)->eC l=true->PV.tD l=PV.aC (l.map bO.tm)/\yq (l.map bO.tm):=by
 intro l;induction l with
 |nil=>intro _ _;exact⟨rfl,⟨by simp,trivial⟩⟩
 | cons s l ih=>
  intro hb h;obtain⟨h1,h2⟩:=ahl h;obtain⟨e1,v1⟩:=aiY (hb s (by simp)) h1;obtain⟨e2,v2⟩:=ih (λt ht=>hb t (by simp[ht])) h2;refine⟨?_,⟨λt ht=>?_,?_,v2.s⟩⟩
  .have e2':l.map PV.sh=(l.map bO.tm).map PV.term:=by injection e2
   show PV.sl 4 (PV.sh s::l.map PV.sh)=PV.sl 4 (PV.term s.tm::(l.map bO.tm).map PV.term);rw[e1,e2']
  .simp only[Ka3,KaA]at ht;rcases ht with rfl|ht
   .exact v1
   .exact v2.t t ht
  .cases l with
   |nil=>intro t ht;simp at ht
   |cons u l=>
    rw[eC,Kav,Kav,decide_eq_true_eq]at h;intro t ht;rw[Ka3]at ht v2;rcases KaA.1 ht with rfl|ht
    .exact h.2.1
    .exact An h.2.1 (v2.s.1 t ht)
def LB(h:eH a=true):a.getLast? ≠some 0:=by simp only[eH,Kav,decide_eq_true_eq]at h;exact h.2.1
variable {C : Ctx} {ρ : Nat -> Option Nat} {fr : Fr} {hp : HP} {w : World} {K R : Qf}
variable{bt:Bool}{sk:List It}
def vm(s:Nat)(hd:(Qr hp (fr s)).aJ=true):Wk fr hp (ae fr s (Qr hp (fr s))) (FW.Qu hp (fr s).refs):=by
 rintro C tmps w ⟨ρ,hs⟩;have hf:=hs.freeze (fr s).refs;refine⟨ρ,hf.sz,hf.ext,hf.fG,hf.own,hf.inj,λi=>?_⟩;unfold ae;split
 .rename_i hi;subst hi;exact Qj.n7 (tO hs (hs.cQ i) (λO h=>h) hd)
 .exact hf.cQ i
def yV(W:List (Nat×Nat))(F:Fr)(I:Nat->Fr->HP->Prop)(n:Nat):Qf:=λaG hp'=>∃J cy m,Wk aG hp' (aY W J F) cy/\m<n/\I m J cy
def aiZ{W:List (Nat×Nat)}{F:Fr}{I:Nat->Fr->HP->Prop}{n:Nat}:KM (yV W F I n) (yV W F I n):=by rintro f f' hp hf ⟨J,cy,m,h1,h2,h3⟩;exact⟨J,cy,m,hf.wk.trans h1,h2,h3⟩
def afI{W:List (Nat×Nat)}{F:Fr}{I:Nat->Fr->HP->Prop}{n:Nat}(h:gu R sk):gu R (.el (yV W F I n)::sk):=⟨h.1,.el aiZ h.2⟩
def gO{W:List (Nat×Nat)}{F J:Fr}{I:Nat->Fr->HP->Prop}{n:Nat}(m:Nat)(hl:m<n)(h:I m J hp):yV W F I n (aY W J F) hp:=⟨J,hp,m,Wk.refl _ _,hl,h⟩
def VX{W:List (Nat×Nat)}{F J:Fr}{I:Nat->Fr->HP->Prop}{n:Nat}(s m:Nat)(hs:n6 W s=true)(hd:(Qr hp (J s)).aJ=true)(hl:m<n)(h:I m (ae J s (Qr hp (J s))) (FW.Qu hp (J s).refs)):yV W F I n (aY W J F) hp:=by
 have e:aY W J F s=J s:=by rw[Tt,if_pos hs]
 have hw:=vm (fr:=aY W J F) (hp:=hp) s (by rw[e];exact hd);rw[e,R7 hs]at hw;exact⟨_,_,m,hw,hl,h⟩
def Rz{x:SC}(aT:gu R sk)(W:List (Nat×Nat))(B:List Nat)(I:Nat->Fr->HP->Prop)(m0:Nat)(h0:I m0 fr hp)
  (h:∀m J hp,I m J hp->vc C R (.c x:: .el (yV W (b7 B fr) I m)::sk) (aY W J (b7 B fr)) hp):vc C R (.c (.loop x)::sk) fr hp:=by
 refine CT (λm aG hp'=>∃J,aG=aY W J (b7 B fr)/\I m J hp') m0 (MM W B).wk ⟨fr,rfl,h0⟩ ?_;rintro m _ hp' ⟨J,rfl,hI⟩;refine rA aT.1 _ _ _ _ _ _ (Kag _) (.c x (.el ?_ aT.2)) (cR.refl _) (h m J hp' hI);rintro f f' cy hf ⟨J2,pK,m2,e2,hl,h2⟩;exact MI hl (hf.wk.trans e2) ⟨J2,rfl,h2⟩
abbrev dg(a:List Nat)(i:Nat):Nat:=a.getD i 0
def yW{a:List Nat}(h:Qk a)(i:Nat):dg a i<65536:=by
 by_cases hi:i<a.length
 .rw[dg,iZ hi];exact fK h hi
 .rw[dg,ja hi];omega
def Az(a:List Nat)(i:Nat):val (a.drop i)=dg a i+65536*val (a.drop (i+1)):=by
 by_cases hi:i<a.length
 .rw[oc hi,dg,iZ hi]
 .rw[dg,ja hi,Kar Oz,Kar Oz];rfl
def LX(a:List Nat)(i:Nat):val a=val (a.take i)+65536^i*val (a.drop i):=by
 by_cases hi:i<=a.length
 .exact sr a i hi
 .rw[Kaf Oz,Kar Oz];simp[val]
def Q5t{a:List Nat}(h:Qk a)(i:Nat):val (a.take i)<65536^i:=by
 by_cases hi:i<=a.length
 .exact wJ h i hi
 .rw[Kaf Oz];exact Kbj (rz h) (KbG Oz Oz)
def UT(a:List Nat)(i:Nat):val (a.take (i+1))=val (a.take i)+65536^i*dg a i:=by
 by_cases hi:i<a.length
 .rw[Cq hi,dg,iZ hi]
 .rw[dg,ja hi,Kaf Oz,Kaf Oz];simp
def Vm{a b:List Nat}(ha:Qk a){i:Nat}(h:val (a.drop i)<val (b.drop i)):val a<val b:=by rw[LX a i,LX b i];have h1:=Q5t ha i;have:65536^i*(val (a.drop i)+1)<=65536^i*val (b.drop i):=Ka8 _ h;rw[Ka0]at this;omega
def SD{l:List Nat}{j v:Nat}(h:j<l.length):val (l.set j v)+65536^j*l[j]=val l+65536^j*v:=by have e:l.set j v=l.take j++v::l.drop (j+1):=List.set_eq_take_append_cons_drop.trans (by rw[if_pos h]);have e2:=sr l j Oz;rw[oc h]at e2;rw[e,oW,Kay,Kb1 Oz,val,e2,Ka0,Ka0];omega
def Hn(l:List Nat)(x:Nat):val (l++[x])=val l+65536^l.length*x:=by rw[oW];simp[val]
def afJ{l:List Nat}{j:Nat}(h:val (l.drop j)=0):dg l j=0:=by have:=Az l j;omega
def aqq{n d:Nat}:cJ .rem bt (.int .u64 (n:Int)) (.int .u64 65536) d fr hp K=K (ae fr d (.int .u64 ((n%65536:Nat):Int))) hp:=by rw[show(65536:Int)=((65536:Nat):Int)from rfl,sw Oz]
def apZ{n d:Nat}(h:n<18446744073709551616):cJ .quo bt (.int .u64 (n:Int)) (.int .u64 65536) d fr hp K=K (ae fr d (.int .u64 ((n/65536:Nat):Int))) hp:=by rw[show(65536:Int)=((65536:Nat):Int)from rfl,Dm Oz h]
def alI{n d:Nat}:cJ .rem bt (.int .i64 (n:Int)) (.int .i64 65536) d fr hp K=K (ae fr d (.int .i64 ((n%65536:Nat):Int))) hp:=by rw[show(65536:Int)=((65536:Nat):Int)from rfl,sw Oz]
def alJ{n d:Nat}(h:n<9223372036854775808):cJ .quo bt (.int .i64 (n:Int)) (.int .i64 65536) d fr hp K=K (ae fr d (.int .i64 ((n/65536:Nat):Int))) hp:=by rw[show(65536:Int)=((65536:Nat):Int)from rfl,Ht Oz h]
def ap0(n:Nat):(n:Int)*65536=((n*65536:Nat):Int):=Oz
end Go.FW
namespace Go.FW
variable{i j:Nat}{l:List Nat}
def PK{P x y V ai c q r M S T:Nat}(h1:S+P*x=M+P*r)(h2:M+P*(c+ai*(y+65536*V))=T)(h3:65536*q+r=x+ai*y+c):S+P*65536*(q+ai*V)=T:=by
 have e:P*(65536*q+r)=P*(x+ai*y+c):=by rw[h3]
 have a1:P*(c+ai*(y+65536*V))=P*c+P*(ai*y)+65536*(P*(ai*V)):=by rw[Ka0 ai,Ka0,Ka0,KbE ai 65536,KbE P 65536];omega
 have a2:P*65536*(q+ai*V)=65536*(P*q)+65536*(P*(ai*V)):=by rw[KaU P,Kbg,Ka0,Ka0]
 have a3:P*(65536*q+r)=65536*(P*q)+P*r:=by rw[Ka0,KbE]
 have a4:P*(x+ai*y+c)=P*x+P*(ai*y)+P*c:=by rw[Ka0,Ka0]
 omega
def PL{v:Nat}(h:i≠j):dg (l.set i v) j=dg l j:=by simp[dg,Kac,List.getElem?_set_ne h]
open Go
variable {C : Ctx} {ρ : Nat -> Option Nat} {fr : Fr} {hp : HP} {w : World} {K R : Qf}
variable{sk:List It}
def Wt{x V d q:Nat}(hd:0<d)(h:q=V/d):(V%d*65536+x)/d+65536*q=(x+65536*V)/d/\(V%d*65536+x)%d=(x+65536*V)%d:=by
 subst h;have e:x+65536*V=(V%d*65536+x)+d*(65536*(V/d)):=by
  have:=Kbe V d
  calc x+65536*V=x+65536*(d*(V/d)+V%d):=by rw[this]
   _=_:=by rw[Ka0,KbE];omega
 rw[e,Kcq _ _ hd,Kco];exact⟨rfl,rfl⟩
def alK(i e:Nat)(hi:fr i= .aa):Wk fr hp (ae fr i (.sl e [])) hp:=by
 rintro C tmps w ⟨ρ,hs⟩;refine⟨ρ,hs.sz,hs.ext,hs.fG,hs.own,hs.inj,λj=>?_⟩;unfold ae;split
 .rename_i hj;subst hj;have:=hs.cQ j;rw[hi]at this;rw[Qj.yf this];exact Qn.ma _ _ _ (KbK _)
 .exact hs.cQ j
def wT{x:SC}(i e:Nat)(hi:fr i= .aa)(h:vc C R (.c (.loop x)::sk) (ae fr i (.sl e [])) hp):vc C R (.c (.loop x)::sk) fr hp:=by rw[At]at h⊢;obtain⟨I,μ,⟨aX,aB,h1,jC⟩,h2⟩:=h;exact⟨I,μ,⟨aX,aB,(alK i e hi).trans h1,jC⟩,h2⟩
end Go.FW
namespace Go.FW
open Go Go.ChangeShapes Go.WideShapes
variable{Q:List PV->Prop}{fn:Func}{fs:Array Field}{ps:List MemPlace}{r:Reach}
section
variable {H : Type} {enc : TypeId × Value -> H} {P : Program} {w : World} {base : Nat} {spare : Nat -> Bool} {held : Bool}
structure Fz(cV:DataW H->Nat):Prop where
 len:∀(elems spare:List (DataW H)),elems.length<=cV (.slice elems spare)
 sl:∀(elems spare:List (DataW H))(d:DataW H),d∈elems->cV d<=cV (.slice elems spare)
 ag:∀(parts:List (DataW H))(d:DataW H),d∈parts->cV d<=cV (.agg parts)
def lT(enc:TypeId×Value->H)(P:Program)(cV:DataW H->Nat)(N:Nat)(t:TypeId)(Q:List PV->Prop):Prop:=
 ∀(w:World)(base:Nat)(spare:Nat->Bool)(held:Bool)(fuel:Nat)(cs:List Value)(x:DataW H×List MemPlace),DataW.trod enc P w base spare held fuel t cs=some x->cV x.1<=N->
  ∃ps,Q ps/\ps.length=cs.length/\∀(i:Nat)(p:PV),ps[i]? =some p->Qn w di p (cs.getD i undef)
variable {cV : DataW H -> Nat} {N : Nat}
def C1{w:World}{p:PV}{v:Value}(h:Qn w di p v):∀(i:Nat)(q:PV),[p][i]? =some q->Qn w di q ([v].getD i undef):=by
 intro i q hq
 match i,hq with
 |0,hq=>simp at hq;subst hq;exact h
 |i+1,hq=>simp at hq
def lT.mono{t:TypeId}{Q':List PV->Prop}(h:lT enc P cV N t Q)(hQ:∀ps,Q ps->Q' ps):lT enc P cV N t Q':=
 λw base spare held fuel cs x hx hn=>let⟨ps,h1,h2,h3⟩:=h w base spare held fuel cs x hx hn;⟨ps,hQ ps h1,h2,h3⟩
def PM{t:TypeId}{k:IntKind}(ht:P.underlying t=some (.int k)):lT enc P cV N t λps=>∃n,ps=[.int k n]/\(Lit.int k n).wf=true:=by intro w base spare held fuel cs x hx _;obtain⟨n,rfl,rfl,hw⟩:=DataW.trod_int ht hx;exact⟨_,⟨n,rfl,hw⟩,rfl,C1 (.int k n)⟩
def afK{t:TypeId}(ht:P.underlying t=some .bool):lT enc P cV N t λps=>∃b,ps=[.bool b]:=by intro w base spare held fuel cs x hx _;obtain⟨b,rfl,rfl⟩:=DataW.trod_bool ht hx;exact⟨_,⟨b,rfl⟩,rfl,C1 (.bool b)⟩
def ahm{t:TypeId}(ht:P.underlying t=some (.int .u16)):lT enc P cV N t λps=>∃n:Nat,ps=[.int .u16 n]/\n<65536:=by refine(PM ht).mono ?_;rintro ps ⟨n,rfl,hw⟩;simp[Lit.wf,IntKind.min,IntKind.max,IntKind.signed,IntKind.bits]at hw;obtain⟨m,rfl⟩:=Kb8 hw.1;exact⟨m,rfl,Oz⟩
def GL{t:TypeId}(ht:P.underlying t=some (.int .i64)):lT enc P cV N t λps=>∃n:Int,ps=[.int .i64 n]/\ -9223372036854775808<=n/\n<=9223372036854775807:=by refine(PM ht).mono ?_;rintro ps ⟨n,rfl,hw⟩;simp[Lit.wf,IntKind.min,IntKind.max,IntKind.signed,IntKind.bits]at hw;exact⟨n,rfl,Oz⟩
def yz{α:Type}[Inhabited α]{f:α->PV}{G:α->Prop}{t e:TypeId}(hB:Fz cV)(ht:P.underlying t=some (.slice e))(qQ:0<P.cellsOf e)
  (he:lT enc P cV N e λps=>∃a:α,ps=(f a).cells/\G a):lT enc P cV N t λps=>∃l:List α,ps=[.sl (P.cellsOf e) (l.map f)]/\l.length<=N/\∀a∈l,G a:=by
 intro w base spare held fuel cs x hx hn;rcases Deep.open_slice ht hx with⟨rfl,rfl⟩|⟨a,len,cap,m,n,D,Pl,rfl,_,hl,hm,I2,rfl,bY⟩
 .exact⟨_,⟨[],rfl,KbK _,λ_ h=>by cases h⟩,rfl,C1 (.ma _ none 0 (KbK _))⟩
 have EN:len<=m:=by rw[I2];split<;>omega
 obtain⟨A,hA⟩:=Deep.choose_lt (α:=α×List Value) (n:=len) (p:=λi y=>w.cells? base (a.add (i*P.cellsOf e)) (P.cellsOf e)=some y.2/\G y.1/\(f y.1).cells.length=y.2.length/\∀(j:Nat)(p:PV),(f y.1).cells[j]? =some p->Qn w di p (y.2.getD j undef)) (λi hi=>by obtain⟨cs',h1,h2⟩:=bY i Oz;have hd:D i∈(List.range len).map D:=Kcv (KbY.2 hi);obtain⟨_,⟨b,rfl,hG⟩,h3,h4⟩:=he w base spare held n cs' _ h2 (KaK (hB.sl _ _ _ hd) hn);exact⟨(b,cs'),h1,hG,h3,h4⟩);have hlen:=hB.len ((List.range len).map D) ((List.range (m-len)).map λj=>D (len+j));simp only[KaC,List.length_range]at hlen hn;refine⟨_,⟨(List.range len).map λi=>(A i).1,rfl,by simp;omega,λb hb=>?_⟩,rfl,C1 ?_⟩
 .obtain⟨i,hi,rfl⟩:=KaD.1 hb;exact(hA i (KbY.1 hi)).2.1
 .rcases Nat.eq_zero_or_pos len with rfl|hp
  .exact .ma _ _ _ hm
  have sp:a.spot=none:=by obtain⟨_,h2,h3⟩:=World.cells?_some (hA 0 hp).1;have h4:=h3 0 qQ;rw[Kae Oz]at h4;simpa[Addr.add]using World.cell?_spot h4
  obtain⟨b,off,spot⟩:=a;have sp':spot=none:=sp;subst sp';have qG:∀i,i<len->∀j,j<P.cellsOf e->w.cell? ⟨b,off+i*P.cellsOf e+j,none⟩=some ((A i).2.getD j undef):=λi hi j hj=>by obtain⟨_,h2,h3⟩:=World.cells?_some (hA i hi).1;have h4:=h3 j hj;rw[Kae Oz,add_plain,add_plain]at h4;rw[h4];simp[Kac,Kae (show j<(A i).2.length by omega)]
  have e1:((List.range len).map λi=>(A i).1).map f=(List.range len).map λi=>f (A i).1:=by simp
  have e2:((List.range len).map λi=>f (A i).1).length=len:=by simp
  have get:∀(i:Nat)(x:PV),((List.range len).map λi=>f (A i).1)[i]? =some x->i<len/\x=f (A i).1:=λi x hx=>by obtain⟨hi,h⟩:=Kah.1 hx;rw[e2]at hi;exact⟨hi,by simpa using h.symm⟩
  rw[e1];have:=Qn.sl (w:=w) (X:=di) (P.cellsOf e) ((List.range len).map λi=>f (A i).1) b off cap (λi j=>(A i).2.getD j undef) (λh=>h) (afc (qG 0 hp 0 qQ)) (by rw[e2];exact hl) hm
   (λi x hx=>by obtain⟨hi,rfl⟩:=get i x hx;rw[(hA i hi).2.2.1];exact(World.cells?_some (hA i hi).1).2.1)
   (λi hi j hj=>qG i (by rwa[e2]at hi) j hj)
   (λi x hx j y hy=>by obtain⟨hi,rfl⟩:=get i x hx;exact(hA i hi).2.2.2 j y hy)
  rwa[e2]at this
def F2{t:TypeId}{f0 f1:Field}{Q0 Q1:List PV->Prop}(hB:Fz cV)(ht:P.underlying t=some (.struct #[f0,f1]))(h0:f0.offset=0)(h1:f1.offset=P.cellsOf f0.type)(hc:P.cellsOf t=P.cellsOf f0.type+P.cellsOf f1.type)
  (r0:lT enc P cV N f0.type Q0) (r1:lT enc P cV N f1.type Q1):lT enc P cV N t λps=>∃p q,ps=p++q/\Q0 p/\Q1 q:=by
 intro w base spare held fuel cs x hx hn;obtain⟨y0,y1,n,rfl,hl,g0,g1⟩:=trod_struct2 ht hx;obtain⟨p,hp,cy,pK⟩:=r0 _ _ _ _ _ _ _ g0 (KaK (hB.ag _ _ (by simp)) hn);obtain⟨q,hq,pL,I9⟩:=r1 _ _ _ _ _ _ _ g1 (KaK (hB.ag _ _ (by simp)) hn);rw[h0]at cy pK;rw[h1]at pL I9;simp only[Ka6,Kay,Ka4]at cy pL;have lp:p.length=P.cellsOf f0.type:=Oz;have lq:q.length=P.cellsOf f1.type:=Oz;refine⟨_,⟨p,q,rfl,hp,hq⟩,by rw[Kaz];omega,λi v hv=>?_⟩;by_cases hi:i<p.length
 .rw[Kbw hi]at hv;have:=pK i v hv;rw[Ka6,Kac,Kcj,if_pos Oz]at this;rw[Kac];exact this
 .rw[Kbb Oz]at hv;have:=I9 _ v hv;have jW:i-p.length<q.length:=(Kah.1 hv).1;rw[Kac,Kcj,if_pos Oz,Ka1,show P.cellsOf f0.type+(i-p.length)=i by omega]at this;rw[Kac];exact this
def alL{r:Reach}{b0:Nat}{t:TypeId}{v:Value}{d:DataW H}(hr:lT enc P cV N t Q)(hd:DataW.Trod enc P w base spare held t v d ps)(hn:cV d<=N)
  (hv:v.cells= #[v]):∃p,Q [p]/\bS w di p v:=by
 obtain⟨fuel,hf⟩:=hd;obtain⟨qs,h1,h2,h3⟩:=hr _ _ _ _ _ _ _ hf hn;rw[hv]at h2 h3
 match qs,h2 with
 | [p],_=>exact⟨p,h1,bS.tC (by simpa using h3 0 p rfl)⟩
def PN{b0:Nat}{t e:TypeId}{v:Value}{d:DataW H}(ht:P.underlying t=some (.slice e))(fW:Value.okWide P w r b0 t v)(hr:lT enc P cV N t Q)(hd:DataW.Trod enc P w base spare held t v d ps)(hn:cV d<=N):
  ∃p,Q [p]/\bS w di p v:=by
 obtain⟨a,len,cap,rfl⟩:=okWide_slice ht fW;exact alL (r:=r) (b0:=b0) hr hd hn rfl
def afL{b0:Nat}{t:TypeId}{v:Value}{d:DataW H}(ht:P.underlying t=some (.struct fs))(fW:Value.okWide P w r b0 t v)(hr:lT enc P cV N t Q)(hd:DataW.Trod enc P w base spare held t v d ps)(hn:cV d<=N):
  ∃p,Q p/\bS w di (.agg p) v:=by
 obtain⟨vs,rfl,_⟩:=okWide_struct ht fW;obtain⟨fuel,hf⟩:=hd;obtain⟨qs,h1,h2,h3⟩:=hr _ _ _ _ _ _ _ hf hn;refine⟨qs,h1,vs,rfl,by simpa[Value.cells]using h2.symm,λi x hx=>?_⟩;have:=h3 i x hx;simpa[Value.cells,Kac,KaS]using this
def Ext.sameAt{W W':World}(h:Ext di W W'){p:MemPlace}(hp:p.block<W.heap.size):W.sameAt W' p:=by
 cases p with
 |cell b off=>exact yx (h.block b hp (λh=>h))
 |map b=>exact h.block b hp (λh=>h)
def Ext.keptBut{W W':World}(h:Ext di W W')(may:MemPlace->Prop):W.keptBut W' may:=by
 refine⟨h.os,h.output,λi hi=>?_⟩;rw[h.block i hi (λh=>h)];cases hh:W.heap[i]? with
 |none=>rfl
 |some o=>cases o with
  |cells c t fr=>exact⟨rfl,rfl,rfl,λ_ _=>rfl⟩
  |map es clock=>exact Or.inr ⟨rfl,rfl⟩
  |_=>rfl
def Ext.frozen{W W':World}(h:Ext di W W'){a:Addr}(ha:a.block<W.heap.size):W'.frozen? a=W.frozen? a:=by unfold World.frozen?;rw[h.block _ ha (λh=>h)]
def PO(hl:laidOutB P=true)(hm:mapsRowed P=true)(fF:∀ {t e:TypeId},t<P.types.size->P.underlying t=some (.slice e)->0<P.cellsOf e){W W':World}(hx:Ext di W W')(sp:Nat->Bool):
  ∀ {ts:List TypeId} {vs:List Value} {ds:List (DataW H)} {ps:List MemPlace},(∀t∈ts,t<P.types.size)->DataW.TrodAll enc P W 0 (λ_=>true) true ts vs ds ps->(∀p∈ps,sp p.block=true)->DataW.TrodAll enc P W' 0 sp true ts vs ds ps
 | [],_,_,_,_,h,_=>by obtain⟨rfl,rfl,rfl⟩:=trodAll_nil h;rfl
 |t::ts,_,_,_,nZ,h,hs=>by obtain⟨v,vs,d,ds,p,q,rfl,rfl,rfl,⟨fuel,h1⟩,h2⟩:=trodAll_cons h;refine⟨p,q,⟨fuel,?_⟩,PO hl hm fF hx sp (λt ht=>nZ t (by simp[ht])) h2 (λx bc=>hs x (by simp[bc])),rfl⟩;exact DataW.trod_stays (kids_rows hl hm) fF (λh=>by cases h) (nZ t (by simp)) h1 (λx bc=>hx.sameAt (DataW.trod_lt _ _ _ _ h1 x bc)) (λx bc=>hs x (by simp[bc]))
def Q5u{f:FuncId}{s:ChangeSpec}{ap fresh handsOn Bf:Bool}{W:World}{args:Array Value}{ds gs:List (DataW H)}{before:List MemPlace}{aQ:List PV}{tb:TypeId}
  (hW:DataW.Whole enc P fn.params.toList s.vars ap W args.toList ds gs before) (Fb:s.vars=[]) (gH:fn.resultTypes= #[tb]) (Jd:P.underlying tb=some .bool)
  (hl:laidOutB P=true) (hm:mapsRowed P=true) (fF:∀ {t e:TypeId},t<P.types.size->P.underlying t=some (.slice e)->0<P.cellsOf e) (I8:∀t∈fn.params.toList,t<P.types.size)
  (EC:s.fn H (ds++gs)={ results:=[.lit (.bool true)],args:=ds })
  (hF:Qa P f aQ (· = .bool true)) (Oy:args.size=aQ.length) (iK:∀(i:Nat)(x:PV),aQ[i]? =some x->bS W di x (args.getD i undef)):
  Calls P f args W λe W'=>∃v,e= .returned v/\s.post enc P fn ap fresh handsOn Bf W args v W':=by
 refine(hF.2 W di args (λ_ h=>h.elim) Oy iK).mono ?_;rintro e W' ⟨v,r,rfl,hx,hr,rfl⟩;have hv:v= .bool true:=by cases hr;rfl
 subst hv;refine⟨_,rfl,?_⟩;have Er:=hW;obtain⟨p,q,hA,hV,rfl,hz,hn⟩:=hW;rw[Fb]at hV;obtain⟨rfl,rfl⟩:=trodVars_none hV;simp only[Kai]at Er hz hn;have aA:∀x∈p,x.block<W.heap.size:=λx bc=>by simpa using Er.lt x bc
 have xG:∀sp:Nat->Bool,(∀x∈p,sp x.block=true)->DataW.TrodAll enc P W' 0 sp true fn.params.toList args.toList ds p:=λsp hs=>PO hl hm fF hx sp I8 hA hs
 have hR:∀(b:Nat)(sp:Nat->Bool)(hd:Bool),DataW.TrodAll enc P W' b sp hd fn.resultTypes.toList ((Value.bool true).resultList fn.resultTypes.size) [.lit (.bool true)] []:=λb sp hd=>by rw[gH];exact trodAll_mk1 ⟨1,by simp[DataW.trod,Value.cells,Jd]⟩
 have hold:∀x∈p,(λb=>decide (b<W.heap.size)) x.block=true:=λx bc=>by simpa using aA x bc
 refine⟨ds,[],p,[],p,[],Er,?_,?_,?_,hx.keptBut _,λ_=>⟨?_,?_⟩⟩
 .rw[EC];exact hR _ _ _
 .rw[EC];simpa using xG _ hold
 .rw[EC,Fb];rfl
 .exact RowKit.ok_one gH rfl (RowKit.okWide_bool_mk Jd _)
 .refine⟨[.lit (.bool true)]++ds,[],p,⟨[]++p,[],trodAll_append (xG _ (λ_ _=>rfl)) (hR _ _ _),?_,by simp,?_,?_⟩,?_⟩
  .rw[Fb];rfl
  .intro b off hp;rw[hx.frozen (aA _ hp)];exact hz b off hp
  .exact hn
  .intro x bc _;exact bc
end
end Go.FW
namespace Go.FW
open Go
attribute [go_sem ↓] vcs ayy
attribute [go_sem] ayz ayA ayB ayC aqi ajo ajp aqj aqk aql aqm ajq ajr aes aet afB aiS alz arY arZ ar0 ar1 ahi afD List.drop_succ_cons List.drop_zero List.take_succ_cons List.take_zero List.headD_cons List.cons_append List.nil_append ahh avN avM aiT alA alB and_true List.length_cons List.length_nil ap8 ap9 aqa B0 ak2 agX ak9 ajk ajl ajm ajn ala apz ap3 ai4 alu alv adS ap4 ap5 ap6 TA ap7 apv bs1 bs2 apx ak6 ak7 ak8 apy Nat.add_zero Vh agY Pv Int.toNat_natCast Nat.zero_add Option.map_some Option.map_none aeo aqf aer true_and Tt ajc agN Q3j iM Me Hf alw Bool.and_true Bool.true_and Bool.and_false Bool.false_and decide_true decide_false List.contains_cons List.contains_nil Bool.or_false Bool.false_or Bool.or_true Bool.true_or List.any_cons List.any_nil Bool.false_eq_true cZ.dst yD aim vf Hc alf Bool.not_true Bool.not_false List.length_map List.map_cons List.map_nil aeq Option.some.injEq kJ List.getElem?_cons_zero List.getElem?_cons_succ Option.getD_some
attribute [go_sem] aqq apZ alI alJ ap0 aiX aev Q8i aqp Sf
variable{A0 A1 A2 A3 A4 A5 A6 A7 A8 A9 fT jJ mK p q:Prop}
def Dz0(h:p:=by first|omega|rfl|(simp+decide only[go_sem]<;>rfl)|fail):p:=h
def Dz1(x0:A0)(h:A0->p:=by intro x0;first|omega|rfl|(simp+decide only[go_sem,x0]<;>rfl)|fail):p:=h x0
def Dz2(x0:A0)(x1:A1)(h:A0->A1->p:=by intro x0 x1;first|omega|rfl|(simp+decide only[go_sem,x0,x1]<;>rfl)|fail):p:=h x0 x1
def Dz3(x0:A0)(x1:A1)(x2:A2)(h:A0->A1->A2->p:=by intro x0 x1 x2;first|omega|rfl|(simp+decide only[go_sem,x0,x1,x2]<;>rfl)|fail):p:=h x0 x1 x2
def Dz4(x0:A0)(x1:A1)(x2:A2)(x3:A3)(h:A0->A1->A2->A3->p:=by intro x0 x1 x2 x3;first|omega|rfl|(simp+decide only[go_sem,x0,x1,x2,x3]<;>rfl)|fail):p:=h x0 x1 x2 x3
def Dz5(x0:A0)(x1:A1)(x2:A2)(x3:A3)(x4:A4)(h:A0->A1->A2->A3->A4->p:=by intro x0 x1 x2 x3 x4;first|omega|rfl|(simp+decide only[go_sem,x0,x1,x2,x3,x4]<;>rfl)|fail):p:=h x0 x1 x2 x3 x4
def Dz6(x0:A0)(x1:A1)(x2:A2)(x3:A3)(x4:A4)(x5:A5)(h:A0->A1->A2->A3->A4->A5->p:=by intro x0 x1 x2 x3 x4 x5;first|omega|rfl|(simp+decide only[go_sem,x0,x1,x2,x3,x4,x5]<;>rfl)|fail):p:=h x0 x1 x2 x3 x4 x5
def Dz7(x0:A0)(x1:A1)(x2:A2)(x3:A3)(x4:A4)(x5:A5)(x6:A6)(h:A0->A1->A2->A3->A4->A5->A6->p:=by intro x0 x1 x2 x3 x4 x5 x6;first|omega|rfl|(simp+decide only[go_sem,x0,x1,x2,x3,x4,x5,x6]<;>rfl)|fail):p:=h x0 x1 x2 x3 x4 x5 x6
def Dz8(x0:A0)(x1:A1)(x2:A2)(x3:A3)(x4:A4)(x5:A5)(x6:A6)(x7:A7)(h:A0->A1->A2->A3->A4->A5->A6->A7->p:=by intro x0 x1 x2 x3 x4 x5 x6 x7;first|omega|rfl|(simp+decide only[go_sem,x0,x1,x2,x3,x4,x5,x6,x7]<;>rfl)|fail):p:=h x0 x1 x2 x3 x4 x5 x6 x7
def Dz9(x0:A0)(x1:A1)(x2:A2)(x3:A3)(x4:A4)(x5:A5)(x6:A6)(x7:A7)(x8:A8)(h:A0->A1->A2->A3->A4->A5->A6->A7->A8->p:=by intro x0 x1 x2 x3 x4 x5 x6 x7 x8;first|omega|rfl|(simp+decide only[go_sem,x0,x1,x2,x3,x4,x5,x6,x7,x8]<;>rfl)|fail):p:=h x0 x1 x2 x3 x4 x5 x6 x7 x8
def Dz10(x0:A0)(x1:A1)(x2:A2)(x3:A3)(x4:A4)(x5:A5)(x6:A6)(x7:A7)(x8:A8)(x9:A9)(h:A0->A1->A2->A3->A4->A5->A6->A7->A8->A9->p:=by intro x0 x1 x2 x3 x4 x5 x6 x7 x8 x9;first|omega|rfl|(simp+decide only[go_sem,x0,x1,x2,x3,x4,x5,x6,x7,x8,x9]<;>rfl)|fail):p:=h x0 x1 x2 x3 x4 x5 x6 x7 x8 x9
def Dz11(x0:A0)(x1:A1)(x2:A2)(x3:A3)(x4:A4)(x5:A5)(x6:A6)(x7:A7)(x8:A8)(x9:A9)(dt:fT)(h:A0->A1->A2->A3->A4->A5->A6->A7->A8->A9->fT->p:=by intro x0 x1 x2 x3 x4 x5 x6 x7 x8 x9 dt;first|omega|rfl|(simp+decide only[go_sem,x0,x1,x2,x3,x4,x5,x6,x7,x8,x9,dt]<;>rfl)|fail):p:=h x0 x1 x2 x3 x4 x5 x6 x7 x8 x9 dt
def Dz12(x0:A0)(x1:A1)(x2:A2)(x3:A3)(x4:A4)(x5:A5)(x6:A6)(x7:A7)(x8:A8)(x9:A9)(dt:fT)(fi:jJ)(h:A0->A1->A2->A3->A4->A5->A6->A7->A8->A9->fT->jJ->p:=by intro x0 x1 x2 x3 x4 x5 x6 x7 x8 x9 dt fi;first|omega|rfl|(simp+decide only[go_sem,x0,x1,x2,x3,x4,x5,x6,x7,x8,x9,dt,fi]<;>rfl)|fail):p:=h x0 x1 x2 x3 x4 x5 x6 x7 x8 x9 dt fi
def Dz13(x0:A0)(x1:A1)(x2:A2)(x3:A3)(x4:A4)(x5:A5)(x6:A6)(x7:A7)(x8:A8)(x9:A9)(dt:fT)(fi:jJ)(iL:mK)(h:A0->A1->A2->A3->A4->A5->A6->A7->A8->A9->fT->jJ->mK->p:=by intro x0 x1 x2 x3 x4 x5 x6 x7 x8 x9 dt fi iL;first|omega|rfl|(simp+decide only[go_sem,x0,x1,x2,x3,x4,x5,x6,x7,x8,x9,dt,fi,iL]<;>rfl)|fail):p:=h x0 x1 x2 x3 x4 x5 x6 x7 x8 x9 dt fi iL
def Dz14{wF:Prop}(x0:A0)(x1:A1)(x2:A2)(x3:A3)(x4:A4)(x5:A5)(x6:A6)(x7:A7)(x8:A8)(x9:A9)(dt:fT)(fi:jJ)(iL:mK)(re:wF)(h:A0->A1->A2->A3->A4->A5->A6->A7->A8->A9->fT->jJ->mK->wF->p:=by intro x0 x1 x2 x3 x4 x5 x6 x7 x8 x9 dt fi iL re;first|omega|rfl|(simp+decide only[go_sem,x0,x1,x2,x3,x4,x5,x6,x7,x8,x9,dt,fi,iL,re]<;>rfl)|fail):p:=h x0 x1 x2 x3 x4 x5 x6 x7 x8 x9 dt fi iL re
def Sz0(h:q)(e:p=q:=by conv=>lhs;simp+decide (disch:=try exact Dz0) only[go_sem]):p:=e▸h
def Tz0(h:p:=by simp+decide (disch:=try exact Dz0) only[go_sem]):p:=h
def Qw(h:p:=by simp+decide (disch:=try exact Dz0) only[go_sem]<;>rfl):p:=h
def Sz1(x0:A0)(h:q)(e:A0->p=q:=by intro x0;conv=>lhs;simp+decide (disch:=try exact Dz1 @x0) only[go_sem,x0]):p:=(e x0)▸h
def Tz1(x0:A0)(h:A0->p:=by intro x0;simp+decide (disch:=try exact Dz1 @x0) only[go_sem,x0]):p:=h x0
def iQ(x0:A0)(h:A0->p:=by intro x0;simp+decide (disch:=try exact Dz1 @x0) only[go_sem,x0]<;>rfl):p:=h x0
def Sz2(x0:A0)(x1:A1)(h:q)(e:A0->A1->p=q:=by intro x0 x1;conv=>lhs;simp+decide (disch:=try exact Dz2 @x0 @x1) only[go_sem,x0,x1]):p:=(e x0 x1)▸h
def Tz2(x0:A0)(x1:A1)(h:A0->A1->p:=by intro x0 x1;simp+decide (disch:=try exact Dz2 @x0 @x1) only[go_sem,x0,x1]):p:=h x0 x1
def Sz3(x0:A0)(x1:A1)(x2:A2)(h:q)(e:A0->A1->A2->p=q:=by intro x0 x1 x2;conv=>lhs;simp+decide (disch:=try exact Dz3 @x0 @x1 @x2) only[go_sem,x0,x1,x2]):p:=(e x0 x1 x2)▸h
def Tz3(x0:A0)(x1:A1)(x2:A2)(h:A0->A1->A2->p:=by intro x0 x1 x2;simp+decide (disch:=try exact Dz3 @x0 @x1 @x2) only[go_sem,x0,x1,x2]):p:=h x0 x1 x2
def Tzr3(x0:A0)(x1:A1)(x2:A2)(h:A0->A1->A2->p:=by intro x0 x1 x2;simp+decide (disch:=try exact Dz3 @x0 @x1 @x2) only[go_sem,x0,x1,x2]<;>rfl):p:=h x0 x1 x2
def Sz4(x0:A0)(x1:A1)(x2:A2)(x3:A3)(h:q)(e:A0->A1->A2->A3->p=q:=by intro x0 x1 x2 x3;conv=>lhs;simp+decide (disch:=try exact Dz4 @x0 @x1 @x2 @x3) only[go_sem,x0,x1,x2,x3]):p:=(e x0 x1 x2 x3)▸h
def Tz4(x0:A0)(x1:A1)(x2:A2)(x3:A3)(h:A0->A1->A2->A3->p:=by intro x0 x1 x2 x3;simp+decide (disch:=try exact Dz4 @x0 @x1 @x2 @x3) only[go_sem,x0,x1,x2,x3]):p:=h x0 x1 x2 x3
def Sz5(x0:A0)(x1:A1)(x2:A2)(x3:A3)(x4:A4)(h:q)(e:A0->A1->A2->A3->A4->p=q:=by intro x0 x1 x2 x3 x4;conv=>lhs;simp+decide (disch:=try exact Dz5 @x0 @x1 @x2 @x3 @x4) only[go_sem,x0,x1,x2,x3,x4]):p:=(e x0 x1 x2 x3 x4)▸h
def Tz5(x0:A0)(x1:A1)(x2:A2)(x3:A3)(x4:A4)(h:A0->A1->A2->A3->A4->p:=by intro x0 x1 x2 x3 x4;simp+decide (disch:=try exact Dz5 @x0 @x1 @x2 @x3 @x4) only[go_sem,x0,x1,x2,x3,x4]):p:=h x0 x1 x2 x3 x4
def Sz6(x0:A0)(x1:A1)(x2:A2)(x3:A3)(x4:A4)(x5:A5)(h:q)(e:A0->A1->A2->A3->A4->A5->p=q:=by intro x0 x1 x2 x3 x4 x5;conv=>lhs;simp+decide (disch:=try exact Dz6 @x0 @x1 @x2 @x3 @x4 @x5) only[go_sem,x0,x1,x2,x3,x4,x5]):p:=(e x0 x1 x2 x3 x4 x5)▸h
def Tz6(x0:A0)(x1:A1)(x2:A2)(x3:A3)(x4:A4)(x5:A5)(h:A0->A1->A2->A3->A4->A5->p:=by intro x0 x1 x2 x3 x4 x5;simp+decide (disch:=try exact Dz6 @x0 @x1 @x2 @x3 @x4 @x5) only[go_sem,x0,x1,x2,x3,x4,x5]):p:=h x0 x1 x2 x3 x4 x5
def Sz7(x0:A0)(x1:A1)(x2:A2)(x3:A3)(x4:A4)(x5:A5)(x6:A6)(h:q)(e:A0->A1->A2->A3->A4->A5->A6->p=q:=by intro x0 x1 x2 x3 x4 x5 x6;conv=>lhs;simp+decide (disch:=try exact Dz7 @x0 @x1 @x2 @x3 @x4 @x5 @x6) only[go_sem,x0,x1,x2,x3,x4,x5,x6]):p:=(e x0 x1 x2 x3 x4 x5 x6)▸h
def Tz7(x0:A0)(x1:A1)(x2:A2)(x3:A3)(x4:A4)(x5:A5)(x6:A6)(h:A0->A1->A2->A3->A4->A5->A6->p:=by intro x0 x1 x2 x3 x4 x5 x6;simp+decide (disch:=try exact Dz7 @x0 @x1 @x2 @x3 @x4 @x5 @x6) only[go_sem,x0,x1,x2,x3,x4,x5,x6]):p:=h x0 x1 x2 x3 x4 x5 x6
def Sz8(x0:A0)(x1:A1)(x2:A2)(x3:A3)(x4:A4)(x5:A5)(x6:A6)(x7:A7)(h:q)(e:A0->A1->A2->A3->A4->A5->A6->A7->p=q:=by intro x0 x1 x2 x3 x4 x5 x6 x7;conv=>lhs;simp+decide (disch:=try exact Dz8 @x0 @x1 @x2 @x3 @x4 @x5 @x6 @x7) only[go_sem,x0,x1,x2,x3,x4,x5,x6,x7]):p:=(e x0 x1 x2 x3 x4 x5 x6 x7)▸h
def Sz9(x0:A0)(x1:A1)(x2:A2)(x3:A3)(x4:A4)(x5:A5)(x6:A6)(x7:A7)(x8:A8)(h:q)(e:A0->A1->A2->A3->A4->A5->A6->A7->A8->p=q:=by intro x0 x1 x2 x3 x4 x5 x6 x7 x8;conv=>lhs;simp+decide (disch:=try exact Dz9 @x0 @x1 @x2 @x3 @x4 @x5 @x6 @x7 @x8) only[go_sem,x0,x1,x2,x3,x4,x5,x6,x7,x8]):p:=(e x0 x1 x2 x3 x4 x5 x6 x7 x8)▸h
def xo(x0:A0)(x1:A1)(x2:A2)(x3:A3)(x4:A4)(x5:A5)(x6:A6)(x7:A7)(x8:A8)(x9:A9)(h:q)(e:A0->A1->A2->A3->A4->A5->A6->A7->A8->A9->p=q:=by intro x0 x1 x2 x3 x4 x5 x6 x7 x8 x9;conv=>lhs;simp+decide (disch:=try exact Dz10 @x0 @x1 @x2 @x3 @x4 @x5 @x6 @x7 @x8 @x9) only[go_sem,x0,x1,x2,x3,x4,x5,x6,x7,x8,x9]):p:=(e x0 x1 x2 x3 x4 x5 x6 x7 x8 x9)▸h
def Tz10(x0:A0)(x1:A1)(x2:A2)(x3:A3)(x4:A4)(x5:A5)(x6:A6)(x7:A7)(x8:A8)(x9:A9)(h:A0->A1->A2->A3->A4->A5->A6->A7->A8->A9->p:=by intro x0 x1 x2 x3 x4 x5 x6 x7 x8 x9;simp+decide (disch:=try exact Dz10 @x0 @x1 @x2 @x3 @x4 @x5 @x6 @x7 @x8 @x9) only[go_sem,x0,x1,x2,x3,x4,x5,x6,x7,x8,x9]):p:=h x0 x1 x2 x3 x4 x5 x6 x7 x8 x9
def Ag(x0:A0)(x1:A1)(x2:A2)(x3:A3)(x4:A4)(x5:A5)(x6:A6)(x7:A7)(x8:A8)(x9:A9)(dt:fT)(h:q)(e:A0->A1->A2->A3->A4->A5->A6->A7->A8->A9->fT->p=q:=by intro x0 x1 x2 x3 x4 x5 x6 x7 x8 x9 dt;conv=>lhs;simp+decide (disch:=try exact Dz11 @x0 @x1 @x2 @x3 @x4 @x5 @x6 @x7 @x8 @x9 @dt) only[go_sem,x0,x1,x2,x3,x4,x5,x6,x7,x8,x9,dt]):p:=(e x0 x1 x2 x3 x4 x5 x6 x7 x8 x9 dt)▸h
def Tz11(x0:A0)(x1:A1)(x2:A2)(x3:A3)(x4:A4)(x5:A5)(x6:A6)(x7:A7)(x8:A8)(x9:A9)(dt:fT)(h:A0->A1->A2->A3->A4->A5->A6->A7->A8->A9->fT->p:=by intro x0 x1 x2 x3 x4 x5 x6 x7 x8 x9 dt;simp+decide (disch:=try exact Dz11 @x0 @x1 @x2 @x3 @x4 @x5 @x6 @x7 @x8 @x9 @dt) only[go_sem,x0,x1,x2,x3,x4,x5,x6,x7,x8,x9,dt]):p:=h x0 x1 x2 x3 x4 x5 x6 x7 x8 x9 dt
def zd(x0:A0)(x1:A1)(x2:A2)(x3:A3)(x4:A4)(x5:A5)(x6:A6)(x7:A7)(x8:A8)(x9:A9)(dt:fT)(fi:jJ)(h:q)(e:A0->A1->A2->A3->A4->A5->A6->A7->A8->A9->fT->jJ->p=q:=by intro x0 x1 x2 x3 x4 x5 x6 x7 x8 x9 dt fi;conv=>lhs;simp+decide (disch:=try exact Dz12 @x0 @x1 @x2 @x3 @x4 @x5 @x6 @x7 @x8 @x9 @dt @fi) only[go_sem,x0,x1,x2,x3,x4,x5,x6,x7,x8,x9,dt,fi]):p:=(e x0 x1 x2 x3 x4 x5 x6 x7 x8 x9 dt fi)▸h
def Ci(x0:A0)(x1:A1)(x2:A2)(x3:A3)(x4:A4)(x5:A5)(x6:A6)(x7:A7)(x8:A8)(x9:A9)(dt:fT)(fi:jJ)(iL:mK)(h:q)(e:A0->A1->A2->A3->A4->A5->A6->A7->A8->A9->fT->jJ->mK->p=q:=by intro x0 x1 x2 x3 x4 x5 x6 x7 x8 x9 dt fi iL;conv=>lhs;simp+decide (disch:=try exact Dz13 @x0 @x1 @x2 @x3 @x4 @x5 @x6 @x7 @x8 @x9 @dt @fi @iL) only[go_sem,x0,x1,x2,x3,x4,x5,x6,x7,x8,x9,dt,fi,iL]):p:=(e x0 x1 x2 x3 x4 x5 x6 x7 x8 x9 dt fi iL)▸h
def Tz13(x0:A0)(x1:A1)(x2:A2)(x3:A3)(x4:A4)(x5:A5)(x6:A6)(x7:A7)(x8:A8)(x9:A9)(dt:fT)(fi:jJ)(iL:mK)(h:A0->A1->A2->A3->A4->A5->A6->A7->A8->A9->fT->jJ->mK->p:=by intro x0 x1 x2 x3 x4 x5 x6 x7 x8 x9 dt fi iL;simp+decide (disch:=try exact Dz13 @x0 @x1 @x2 @x3 @x4 @x5 @x6 @x7 @x8 @x9 @dt @fi @iL) only[go_sem,x0,x1,x2,x3,x4,x5,x6,x7,x8,x9,dt,fi,iL]):p:=h x0 x1 x2 x3 x4 x5 x6 x7 x8 x9 dt fi iL
def Sz14{wF:Prop}(x0:A0)(x1:A1)(x2:A2)(x3:A3)(x4:A4)(x5:A5)(x6:A6)(x7:A7)(x8:A8)(x9:A9)(dt:fT)(fi:jJ)(iL:mK)(re:wF)(h:q)(e:A0->A1->A2->A3->A4->A5->A6->A7->A8->A9->fT->jJ->mK->wF->p=q:=by intro x0 x1 x2 x3 x4 x5 x6 x7 x8 x9 dt fi iL re;conv=>lhs;simp+decide (disch:=try exact Dz14 @x0 @x1 @x2 @x3 @x4 @x5 @x6 @x7 @x8 @x9 @dt @fi @iL @re) only[go_sem,x0,x1,x2,x3,x4,x5,x6,x7,x8,x9,dt,fi,iL,re]):p:=(e x0 x1 x2 x3 x4 x5 x6 x7 x8 x9 dt fi iL re)▸h
def Tz14{wF:Prop}(x0:A0)(x1:A1)(x2:A2)(x3:A3)(x4:A4)(x5:A5)(x6:A6)(x7:A7)(x8:A8)(x9:A9)(dt:fT)(fi:jJ)(iL:mK)(re:wF)(h:A0->A1->A2->A3->A4->A5->A6->A7->A8->A9->fT->jJ->mK->wF->p:=by intro x0 x1 x2 x3 x4 x5 x6 x7 x8 x9 dt fi iL re;simp+decide (disch:=try exact Dz14 @x0 @x1 @x2 @x3 @x4 @x5 @x6 @x7 @x8 @x9 @dt @fi @iL @re) only[go_sem,x0,x1,x2,x3,x4,x5,x6,x7,x8,x9,dt,fi,iL,re]):p:=h x0 x1 x2 x3 x4 x5 x6 x7 x8 x9 dt fi iL re
def Ez0(h:p:=by first|omega|rfl|(simp+decide only[go_sem,ch,Kak,Kao,Kal,Kaq,Kai]<;>rfl)|fail):p:=h
def Ez1(x0:A0)(h:A0->p:=by intro x0;first|omega|rfl|(simp+decide only[go_sem,ch,Kak,Kao,Kal,Kaq,Kai,x0]<;>rfl)|fail):p:=h x0
def Ez2(x0:A0)(x1:A1)(h:A0->A1->p:=by intro x0 x1;first|omega|rfl|(simp+decide only[go_sem,ch,Kak,Kao,Kal,Kaq,Kai,x0,x1]<;>rfl)|fail):p:=h x0 x1
def Ez3(x0:A0)(x1:A1)(x2:A2)(h:A0->A1->A2->p:=by intro x0 x1 x2;first|omega|rfl|(simp+decide only[go_sem,ch,Kak,Kao,Kal,Kaq,Kai,x0,x1,x2]<;>rfl)|fail):p:=h x0 x1 x2
def Ez4(x0:A0)(x1:A1)(x2:A2)(x3:A3)(h:A0->A1->A2->A3->p:=by intro x0 x1 x2 x3;first|omega|rfl|(simp+decide only[go_sem,ch,Kak,Kao,Kal,Kaq,Kai,x0,x1,x2,x3]<;>rfl)|fail):p:=h x0 x1 x2 x3
def Ez5(x0:A0)(x1:A1)(x2:A2)(x3:A3)(x4:A4)(h:A0->A1->A2->A3->A4->p:=by intro x0 x1 x2 x3 x4;first|omega|rfl|(simp+decide only[go_sem,ch,Kak,Kao,Kal,Kaq,Kai,x0,x1,x2,x3,x4]<;>rfl)|fail):p:=h x0 x1 x2 x3 x4
def Ez7(x0:A0)(x1:A1)(x2:A2)(x3:A3)(x4:A4)(x5:A5)(x6:A6)(h:A0->A1->A2->A3->A4->A5->A6->p:=by intro x0 x1 x2 x3 x4 x5 x6;first|omega|rfl|(simp+decide only[go_sem,ch,Kak,Kao,Kal,Kaq,Kai,x0,x1,x2,x3,x4,x5,x6]<;>rfl)|fail):p:=h x0 x1 x2 x3 x4 x5 x6
def de(h:q)(e:p=q:=by conv=>lhs;simp+decide (disch:=try exact Ez0) only[go_sem,ch,Kak,Kao,Kal,Kaq,Kai]):p:=e▸h
def sU(h:p:=by simp+decide (disch:=try exact Ez0) only[go_sem,ch,Kak,Kao,Kal,Kaq,Kai]):p:=h
def ba(h:p:=by simp+decide (disch:=try exact Ez0) only[go_sem,ch,Kak,Kao,Kal,Kaq,Kai]<;>rfl):p:=h
def jQ(x0:A0)(h:q)(e:A0->p=q:=by intro x0;conv=>lhs;simp+decide (disch:=try exact Ez1 @x0) only[go_sem,ch,Kak,Kao,Kal,Kaq,Kai,x0]):p:=(e x0)▸h
def Bx(x0:A0)(h:A0->p:=by intro x0;simp+decide (disch:=try exact Ez1 @x0) only[go_sem,ch,Kak,Kao,Kal,Kaq,Kai,x0]):p:=h x0
def W4(x0:A0)(h:A0->p:=by intro x0;simp+decide (disch:=try exact Ez1 @x0) only[go_sem,ch,Kak,Kao,Kal,Kaq,Kai,x0]<;>rfl):p:=h x0
def mu(x0:A0)(x1:A1)(h:q)(e:A0->A1->p=q:=by intro x0 x1;conv=>lhs;simp+decide (disch:=try exact Ez2 @x0 @x1) only[go_sem,ch,Kak,Kao,Kal,Kaq,Kai,x0,x1]):p:=(e x0 x1)▸h
def Ib(x0:A0)(x1:A1)(h:A0->A1->p:=by intro x0 x1;simp+decide (disch:=try exact Ez2 @x0 @x1) only[go_sem,ch,Kak,Kao,Kal,Kaq,Kai,x0,x1]<;>rfl):p:=h x0 x1
def ze(x0:A0)(x1:A1)(x2:A2)(h:q)(e:A0->A1->A2->p=q:=by intro x0 x1 x2;conv=>lhs;simp+decide (disch:=try exact Ez3 @x0 @x1 @x2) only[go_sem,ch,Kak,Kao,Kal,Kaq,Kai,x0,x1,x2]):p:=(e x0 x1 x2)▸h
def Vz4(x0:A0)(x1:A1)(x2:A2)(x3:A3)(h:q)(e:A0->A1->A2->A3->p=q:=by intro x0 x1 x2 x3;conv=>lhs;simp+decide (disch:=try exact Ez4 @x0 @x1 @x2 @x3) only[go_sem,ch,Kak,Kao,Kal,Kaq,Kai,x0,x1,x2,x3]):p:=(e x0 x1 x2 x3)▸h
def Ic(x0:A0)(x1:A1)(x2:A2)(x3:A3)(x4:A4)(h:q)(e:A0->A1->A2->A3->A4->p=q:=by intro x0 x1 x2 x3 x4;conv=>lhs;simp+decide (disch:=try exact Ez5 @x0 @x1 @x2 @x3 @x4) only[go_sem,ch,Kak,Kao,Kal,Kaq,Kai,x0,x1,x2,x3,x4]):p:=(e x0 x1 x2 x3 x4)▸h
def Vz7(x0:A0)(x1:A1)(x2:A2)(x3:A3)(x4:A4)(x5:A5)(x6:A6)(h:q)(e:A0->A1->A2->A3->A4->A5->A6->p=q:=by intro x0 x1 x2 x3 x4 x5 x6;conv=>lhs;simp+decide (disch:=try exact Ez7 @x0 @x1 @x2 @x3 @x4 @x5 @x6) only[go_sem,ch,Kak,Kao,Kal,Kaq,Kai,x0,x1,x2,x3,x4,x5,x6]):p:=(e x0 x1 x2 x3 x4 x5 x6)▸h
variable {C : Ctx} {fr : Fr} {hp : HP} {R : Qf}
end Go.FW
namespace Go.FW
open Go
variable {C : Ctx} {ρ : Nat -> Option Nat} {fr aG : Fr} {hp : HP} {w : World} {K R : Qf}
variable{fz:Bool}{hb:HB}{p:PV}{sk:List It}{tmps:Array Value}{v:Value}{xs:List PV}{α:Type}
def dx.known(h:dx C ρ hp w p v):∀γ∈p.dM,hp γ≠none:=by
 intro γ ak;cases p with
 |aD O o n=>simp[PV.dM]at ak;subst ak;obtain⟨_,hb,h1,_⟩:=h;simp[h1]
 |aK O o n=>simp[PV.dM]at ak;subst ak;obtain⟨_,hb,b,cap,h1,_⟩:=h;simp[h1]
 |np O o n=>cases h
 |_=>cases ak
def dy.known(h:dy C ρ hp w p v):(∀γ∈p.cm,hp γ≠none)/\∀γ∈p.fu,hp γ≠none:=by
 cases p with
 |mp O i o=>obtain⟨b,hb,h1,h2,_⟩:=h;simp[PV.cm,PV.fu,h2]
 |aD O o n=>obtain⟨hb,h1,_⟩:=h;simp[PV.cm,PV.fu,h1]
 |rb O o n=>obtain⟨b,u,_,_,_,_,hb,h1,_⟩:=h;simp[PV.cm,PV.fu,h1]
 |np γ i o=>obtain⟨_,b,hb,h1,h2,_⟩:=h;simp[PV.cm,PV.fu,h2]
 |aK γ o n=>obtain⟨_,hb,b,cap,h1,_⟩:=h;simp[PV.cm,PV.fu,h1]
 |_=>exact⟨(λγ ak=>by cases ak),(λγ ak=>by cases ak)⟩
def Qj.known{p:PV}{v:Value}(h:Qj C ρ hp w p v):(∀γ∈p.refs,hp γ≠none)/\∀γ∈p.aO,hp γ≠none:=by
 cases p with
 |mp O i o=>obtain⟨b,hb,h1,h2,_⟩:=h;simp[PV.refs,PV.aO,h2]
 |aD O o n=>obtain⟨hb,h1,_⟩:=h;simp[PV.refs,PV.aO,h1]
 |rb O o n=>obtain⟨b,u,_,_,_,_,hb,h1,_⟩:=h;simp[PV.refs,PV.aO,h1]
 |np γ i o=>obtain⟨_,b,hb,h1,h2,_⟩:=h;simp[PV.refs,PV.aO,h2]
 |aK γ o n=>obtain⟨_,hb,b,cap,h1,_⟩:=h;simp[PV.refs,PV.aO,h1]
 |aU cs=>obtain⟨vs,_,_,h2⟩:=h;refine⟨λγ ak=>(by cases ak),λγ ak=>?_⟩;obtain⟨x,hx,ak⟩:=Kat.1 ak;obtain⟨i,hi⟩:=KaI hx;exact(h2 i x hi).known γ ak
 |fH cs=>obtain⟨vs,_,_,h2⟩:=h;refine⟨λγ ak=>(by cases ak),λγ ak=>?_⟩;obtain⟨x,hx,ak⟩:=Kat.1 ak;obtain⟨i,hi⟩:=KaI hx;exact(h2 i x hi).known γ ak
 |dQ cs q=>obtain⟨vs,u,_,_,h2,_⟩:=h;refine⟨λγ ak=>(by cases ak),λγ ak=>?_⟩;obtain⟨x,hx,ak⟩:=Kat.1 ak;obtain⟨i,hi⟩:=KaI hx;exact(h2 i x hi).known γ ak
 | aH O e ty xs=>
  obtain⟨_,_,b,hb,cur,cap,_,g2,_,_,_,_,_,_,_,_,cE⟩:=h;refine⟨λγ ak=>(by cases ak),λγ ak=>?_⟩;rcases KaA.1 ak with rfl|ak
  .simp[g2]
  .obtain⟨x,hx,ak⟩:=Kat.1 ak;obtain⟨y,hy,ak⟩:=Kat.1 ak;obtain⟨i,hi⟩:=KaI hx;obtain⟨j,hj⟩:=KaI hy;exact(cE i x hi j y hj).known γ ak
 | fn f first cap=>
  obtain⟨fv,cv,_,_,_,h3,h4⟩:=h;have g:∀(l:List PV)(u:Array Value),(∀(i:Nat)(x:PV),l[i]? =some x->dy C ρ hp w x (u.getD i undef))->(∀γ∈l.flatMap PV.cm,hp γ≠none)/\∀γ∈l.flatMap PV.fu,hp γ≠none:=by
   intro l u hl;refine⟨λγ ak=>?_,λγ ak=>?_⟩<;>
   .obtain⟨x,hx,ak⟩:=Kat.1 ak;obtain⟨i,hi⟩:=KaI hx
    first|exact(hl i x hi).known.1 γ ak|exact(hl i x hi).known.2 γ ak
  refine⟨λγ ak=>?_,λγ ak=>?_⟩
  .rcases KaN.1 ak with ak|ak
   .exact(g first fv h3).1 γ ak
   .exact(g cap cv h4).1 γ ak
  .rcases KaN.1 ak with ak|ak
   .exact(g first fv h3).2 γ ak
   .exact(g cap cv h4).2 γ ak
 |_=>exact⟨(λγ ak=>by cases ak),(λγ ak=>by cases ak)⟩
def kU(O:Nat):Bool:=decide (2000000<=O)
def mH(O:Nat):Bool:=kU O||decide (O<1000000)
def aew{O:Nat}(h:mH O=false):kU O=false:=by simp[mH]at h;exact h.1
def ky:PV->PV
 |.aH _ _ _ _| .aU _| .fH _| .dQ _ _=>.undef
 |p=>if p.refs.any kU||p.aO.any mH then .undef else p
def iz(F:Fr):Fr:=λs=>ky (F s)
def uZ(p:PV):Prop:=(∀O∈p.refs,kU O=false)/\(∀O∈p.aO,mH O=false)/\(∀γ e ty xs,p≠ .aH γ e ty xs)/\∀cs,p≠ .aU cs/\p≠ .fH cs/\∀q,p≠ .dQ cs q
def ai0(p:PV):uZ (ky p):=by
 have h0:uZ .undef:=⟨(λO h=>by cases h),(λO h=>by cases h),(λ_ _ _ _ h=>by cases h),(λ_=>⟨(λh=>by cases h),(λh=>by cases h),λ_ h=>by cases h⟩)⟩
 unfold ky;split
 .exact h0
 .exact h0
 .exact h0
 .exact h0
 .rename_i hn uG hn3 Oe;split
  .exact h0
  .rename_i h;simp only[KbL,not_or,Bool.not_eq_true,KbP]at h;exact⟨λO ao=>by simpa using h.1 O ao,λO ao=>by simpa using h.2 O ao,λγ e ty xs=>hn γ e ty xs,λcs=>⟨uG cs,hn3 cs,Oe cs⟩⟩
def uZ.kill(h:uZ p){B:List Nat}:uZ (if p.refs.any B.contains then .undef else p):=by
 split
 .exact⟨(λO h=>by cases h),(λO h=>by cases h),(λ_ _ _ _ h=>by cases h),(λ_=>⟨(λh=>by cases h),(λh=>by cases h),λ_ h=>by cases h⟩)⟩
 .exact h
def PR{O:Nat}(h:∀γ∈p.refs,γ≠O):ct O p=p:=by unfold ct;rw[if_neg];intro hc;exact h O (by simpa using hc) rfl
def Ml{O:Nat}(h:∀γ∈p.dM,γ≠O):jM O p=p:=by
 cases p with
 |aD γ o n=>simp only[jM];rw[if_neg (h γ (by simp[PV.dM]))]
 |aK γ o n=>simp only[jM];rw[if_neg (h γ (by simp[PV.dM]))]
 |_=>rfl
def ahn{O:Nat}(h:∀γ∈p.refs,γ≠O)(h2:∀γ∈p.aO,γ≠O)(h3:∀γ e ty xs,p≠ .aH γ e ty xs):dF O p=p:=by
 cases p with
 |aH γ e ty xs=>exact absurd rfl (h3 _ _ _ _)
 |aU cs=>
  simp only[dF];congr 1;conv=>rhs;rw[<-List.map_id cs]
  exact KaF λx hx=>Ml λγ ak=>h2 γ (Kat.2 ⟨x,hx,ak⟩)
 |fH cs=>
  simp only[dF];congr 1;conv=>rhs;rw[<-List.map_id cs]
  exact KaF λx hx=>Ml λγ ak=>h2 γ (Kat.2 ⟨x,hx,ak⟩)
 |dQ cs q=>
  simp only[dF];congr 1;conv=>rhs;rw[<-List.map_id cs]
  exact KaF λx hx=>Ml λγ ak=>h2 γ (Kat.2 ⟨x,hx,ak⟩)
 |aK γ o n=>simp only[dF];rw[if_neg (h2 γ (by simp[PV.aO]))]
 |np γ i o=>simp only[dF];rw[if_neg (h2 γ (by simp[PV.aO]))]
 |fn f first cap=>simp only[dF];rw[if_neg,PR h];intro hc;exact h2 O (by simpa[PV.aO]using hc) rfl
 |_=>exact PR h
def TJ{O γ:Nat}(h:2000000<=O)(h2:kU γ=false):γ≠O:=by simp[kU]at h2;omega
abbrev cO(B:List Nat)(F:Fr):Fr:=b7 B (iz F)
def wU(B:List Nat)(F:Fr)(s:Nat):uZ (cO B F s):=(ai0 (F s)).kill
def PS{O:Nat}{B:List Nat}{F:Fr}(h:2000000<=O):gP O (cO B F)=cO B F:=by funext s;have hc:=wU B F s;exact ahn (λγ ak=>TJ h (hc.1 γ ak)) (λγ ak=>TJ h (aew (hc.2.1 γ ak))) hc.2.2.1
def CL{γ:Nat}{B:List Nat}{F:Fr}:gC γ (cO B F)=cO B F:=by
 funext s;have hc:=wU B F s;show fj γ (cO B F s)=_;generalize cO B F s=p at *
 cases p with
 |aH bo e ty xs=>exact absurd rfl (hc.2.2.1 _ _ _ _)
 |_=>rfl
def aho{W:List (Nat×Nat)}{O:Nat}{J F:Fr}:gP O (aY W J F)=aY W (gP O J) (gP O F):=by funext s;unfold gP aY;split<;>rfl
def GM{W:List (Nat×Nat)}{O:Nat}{J F:Fr}:gC O (aY W J F)=aY W (gC O J) (gC O F):=by funext s;unfold gC aY;split<;>rfl
def ahp{O d:Nat}{F:Fr}{v:PV}:gP O (ae F d v)=ae (gP O F) d (dF O v):=by funext s;unfold gP ae;split<;>rfl
def ahq{O d:Nat}{F:Fr}{v:PV}:gC O (ae F d v)=ae (gC O F) d (fj O v):=by funext s;unfold gC ae;split<;>rfl
def ai1{O:Nat}{F:Fr}{s:Nat}:gP O F s=dF O (F s):=rfl
def ajB{O:Nat}{F:Fr}{s:Nat}:gC O F s=fj O (F s):=rfl
def Hx(W:List (Nat×Nat))(B:List Nat):cR fr (aY W fr (cO B fr)):=λs=>by
 unfold aY cO b7;split
 .exact .inl rfl
 .split
  .exact .inr rfl
  .unfold iz ky;split
   .exact .inr rfl
   .exact .inr rfl
   .exact .inr rfl
   .exact .inr rfl
   .split
    .exact .inr rfl
    .exact .inl rfl
def je{x:SC}(aT:gu R sk)(W:List (Nat×Nat))(B:List Nat)(I:Nat->Fr->HP->Prop)(m0:Nat)(h0:I m0 fr hp)
  (h:∀m J hp,I m J hp->vc C R (.c x:: .el (yV W (cO B fr) I m)::sk) (aY W J (cO B fr)) hp):vc C R (.c (.loop x)::sk) fr hp:=by
 refine CT (λm aG hp'=>∃J,aG=aY W J (cO B fr)/\I m J hp') m0 (Hx W B).wk ⟨fr,rfl,h0⟩ ?_;rintro m _ hp' ⟨J,rfl,hI⟩;refine rA aT.1 _ _ _ _ _ _ (Kag _) (.c x (.el ?_ aT.2)) (cR.refl _) (h m J hp' hI);rintro f f' cy hf ⟨J2,pK,m2,e2,hl,h2⟩;exact MI hl (hf.wk.trans e2) ⟨J2,rfl,h2⟩
def bn(l:List (Nat×Nat)):List PV:=l.map λx=>.aD x.1 0 x.2
def aex(d:Nat)(S:List Nat)(γ n:Nat)(x:PV)(fr:Fr):Fr:=λs=>if s=γ then x else if S.contains s then .aK γ 0 n else ct d (fr s)
def Q5w(h:Qt C ρ fr hp tmps w){O b:Nat}{l:List Nat}(hB:aP O=false)(ao:hp O=some hb)(hl:O∈l)(bT:ρ O=some b):¬aM C ρ (Qu hp l) b:=by
 have bu:=(h.own O hb ao).du;rw[bT]at bu;rintro(hx|⟨γ,hg,h1,h2,h3⟩)
 .exact Ctx.Ik bu.1 (AU hB) hx
 .obtain⟨rS,g1,_,_,_,_,g6⟩:=Cu h1;have:=h.inj γ O b (by simp[g1]) (by simp[ao]) h3 bT;subst this;exact g6 h2 hl
def fV.snap(h:Qt C ρ fr hp tmps w){O o n:Nat}{l:List Nat}(hr:fV ρ hp w O o n v)(hB:aP O=false)(hl:O∈l)(ao:hp O=some hb):Qn w (aM C ρ (Qu hp l)) (.sl hb.e ((hb.xs.drop o).take n)) v:=by
 obtain⟨aE,g1,g2,g3⟩:=hr;rw[ao]at g1;cases g1;rcases g3 with⟨g3,rfl,rfl,rfl⟩|⟨b,cap,g3,rfl,g5,g6⟩
 .simp only[Kcn];exact .ma _ _ _ (KbK _)
 .have bP:=h.own O hb ao;have bu:=bP.du;rw[g3]at bu;obtain⟨_,aA,cur,fZ,c1,c2,c3,c4,c5⟩:=bu;obtain⟨cur',ty',d1,d2⟩:=g5;rw[c1]at d1;cases d1;have kB:o+cap=fZ:=by rw[c2]at d2;exact(KbB bP.mA d2).symm
  subst kB;have hlen:((hb.xs.drop o).take n).length=n:=by simp;omega
  have gg:∀(i:Nat)(x:PV),((hb.xs.drop o).take n)[i]? =some x->i<n/\hb.xs[o+i]? =some x:=λi x hx=>by
   have hi:i<n:=by have:=(Kah.1 hx).1;omega
   rw[KaM hi,Ka1]at hx;exact⟨hi,hx⟩
  have:=Qn.sl (w:=w) (X:=aM C ρ (Qu hp l)) hb.e ((hb.xs.drop o).take n) b (o*hb.e) cap (λi j=>cur.getD ((o+i)*hb.e+j) undef) (Q5w h hB ao hl g3) aA Oz Oz
   (λi x hx=>(bP.len _ x (gg i x hx).2).1)
   (λi hi j hj=>by rw[hlen]at hi;have:=o6 (i:=o+i) (e:=hb.e) (o:=0) (j:=j) (n:=hb.e) (cap:=o+cap) Oz Oz hj;rw[KaW]at this;rw[show o*hb.e+i*hb.e+j=(o+i)*hb.e+j by rw[KaL]];exact nC c1 (by rw[c2];exact this))
   (λi x hx j y hy=>(c5 _ x (gg i x hx).2 j y hy).freeze)
  rwa[hlen]at this
def vI(R:Qf):Qf:=λfr hp=>∃aG hp',Wk fr hp aG hp'/\R aG hp'
def SE{hp':HP}(hw:Wk fr hp aG hp')(h:R aG hp'):vI R fr hp:=⟨aG,hp',hw,h⟩
def ss(h:R fr hp):vI R fr hp:=⟨fr,hp,Wk.refl _ _,h⟩
def alM:KM (vI R) (vI R):=by rintro f f' hp hf ⟨aG,hp',h1,h2⟩;exact⟨aG,hp',hf.wk.trans h1,h2⟩
def GN:gu (vI R) []:=⟨alM,.nil⟩
def alN{d γ m i:Nat}{k:IntKind}(h:i<m)(he:(hp γ).map (·.e)=some 1):ej 1 (.aK γ 0 m) (.int k (i:Int)) d fr hp K=K (ae fr d (.np γ i 0)) hp:=by have e:(0:Int)<=(i:Int):=Oz;simp[ej,e,h,he]
def alO{d γ o m:Nat}:rG (.aK γ o m) d fr hp K=K (ae fr d (.int .i64 m)) hp:=rfl
def aey{d γ i ty:Nat}{l:List (Nat×Nat)}(ak:fr γ= .aH γ 1 ty (bn l))(h:i<l.length):gU 1 false (.np γ i 0) d fr hp K=K (ae fr d (.ms (l[i]'h).1 (l[i]'h).2)) hp:=by
 have hh:∃h:i<l.length,K (ae fr d (.ms (l[i]'h).1 (l[i]'h).2)) hp↔K (ae fr d (.ms (l[i]'h).1 (l[i]'h).2)) hp:=⟨h,Iff.rfl⟩
 simp only[gU,ak];have h2:i<(bn l).length:=by simpa[bn]using h
 simp only[h2,exists_true_left,true_and,Kag,Ka2,implies_true];simp[tx,bn,PV.aV,PV.cells]
def SF{e by_ ty ty' d O γ n:Nat}{y:PV}(hb:hp O=some ⟨e,ty,xs,false⟩)(hy:hp γ=some ⟨e,ty',[y],fz⟩)(h0:0<e)(hn:n=xs.length)(h1:(n+1)*by_<=140737488355328)(h2:n+1<=9223372036854775807)(hB:2000000<=O):
  jO e by_ ty (.ms O n) (.ms γ 1) d fr hp K=K (ae (gP O fr) d (.ms O (n+1))) (Qg hp O ⟨e,ty,xs++[y],false⟩):=by
 subst hn;have b1:bN O=true:=by simp[bN];omega
 have b2:aP O=false:=by simp[aP];omega
 simp[jO,kI,hy,hb,h0,b1,b2,h1,h2]
def wK{f:α->PV}{y:α}{e by_ ty ty' d O γ n:Nat}{xs:List α}(hb:hp O=some ⟨e,ty,xs.map f,false⟩)(hy:hp γ=some ⟨e,ty',[f y],fz⟩)(h0:0<e)(hn:n=xs.length)(h1:(n+1)*by_<=140737488355328)(h2:n+1<=9223372036854775807)(hB:2000000<=O):
  jO e by_ ty (.ms O n) (.ms γ 1) d fr hp K=K (ae (gP O fr) d (.ms O (n+1))) (Qg hp O ⟨e,ty,(xs++[y]).map f,false⟩):=by
 rw[SF hb hy h0 (by simp[hn]) h1 h2 hB];simp
def ahr{γ e ty k:Nat}{l:List (Nat×Nat)}(h:k<l.length)(aS:γ≠(l[k]'h).1)(hd:∀j (hj:j<l.length),l[j].1=(l[k]'h).1->j=k):dF (l[k]'h).1 (.aH γ e ty (bn l))= .aH γ e ty ((bn l).set k .undef):=by
 simp only[dF,if_neg aS];congr 1;refine Ka9 (by simp[bn]) λj h1 h2=>?_
 have hj:j<l.length:=by simpa[bn]using h1
 simp only[bn,Kbc,Kc3,PV.aV,PV.cells,Ka3,Kbs,eW,jM];by_cases e:j=k
 .subst e;simp
 .rw[if_neg λe2=>e (hd j hj e2),if_neg λe2=>e e2.symm]
def ahs{O γ o n:Nat}(h:γ≠O):dF O (.aK γ o n)= .aK γ o n:=by simp only[dF];rw[if_neg h]
def ajC{O γ o n:Nat}(h:γ≠O):dF O (.np γ o n)= .np γ o n:=by simp only[dF];rw[if_neg h]
def aez:
  (∀(O:Nat)(k:IntKind)(n:Int),dF O (.int k n)= .int k n)/\
  (∀(O:Nat)(b:Bool),dF O (.bool b)= .bool b)/\
  (∀(O e:Nat)(xs:List PV),dF O (.sl e xs)= .sl e xs)/\
  (∀(O:Nat)(cs:List PV),dF O (.agg cs)= .agg cs)/\
  (∀(O:Nat)(cs:List PV),dF O (.pt cs)= .pt cs)/\
  (∀(O:Nat),dF O .aa= .aa)/\
  (∀(O:Nat),dF O .undef= .undef)/\
  (∀(γ:Nat)(k:IntKind)(n:Int),fj γ (.int k n)= .int k n)/\
  (∀(γ:Nat)(b:Bool),fj γ (.bool b)= .bool b)/\
  (∀(γ e:Nat)(xs:List PV),fj γ (.sl e xs)= .sl e xs)/\
  (∀(γ:Nat)(cs:List PV),fj γ (.agg cs)= .agg cs)/\
  (∀(γ:Nat)(cs:List PV),fj γ (.pt cs)= .pt cs)/\
  (∀(γ:Nat),fj γ .aa= .aa)/\
  (∀(γ:Nat),fj γ .undef= .undef)/\
  (∀(γ O o n:Nat),fj γ (.aD O o n)= .aD O o n)/\
  (∀(γ O o n:Nat),fj γ (.mp O o n)= .mp O o n)/\
  (∀(γ O o n:Nat),fj γ (.rb O o n)= .rb O o n)/\
  (∀(γ O o n:Nat),fj γ (.aK O o n)= .aK O o n)/\
  (∀(γ O o n:Nat),fj γ (.np O o n)= .np O o n)/\
  (∀(O γ o n:Nat),ct O (.aK γ o n)= .aK γ o n)/\
  (∀(O γ o n:Nat),ct O (.np γ o n)= .np γ o n)/\
  (∀(O γ e ty:Nat)(xs:List PV),ct O (.aH γ e ty xs)= .aH γ e ty xs)/\
  (∀(O:Nat),ct O .undef= .undef)/\
  (∀(O:Nat)(cs:List PV),ct O (.pt cs)= .pt cs):=by
 refine⟨?_,?_,?_,?_,?_,?_,?_,?_,?_,?_,?_,?_,?_,?_,?_,?_,?_,?_,?_,?_,?_,?_,?_,?_⟩<;>intros<;>rfl
def ajD(O γ o n:Nat):dF O (.aD γ o n)=if γ=O then .undef else .aD γ o n:=QO O γ o n
def ajE(O γ o n:Nat):dF O (.mp γ o n)=if γ=O then .undef else .mp γ o n:=QP O γ o n
end Go.FW
namespace Go.FW
open Go
variable {C : Ctx} {ρ : Nat -> Option Nat} {fr aG : Fr} {hp : HP} {w : World} {K R : Qf}
variable{k':IntKind}
def alP{F:Fr}{s:Nat}:iz F s=ky (F s):=rfl
def aeA:
  (∀(k:IntKind)(n:Int),ky (.int k n)= .int k n)/\
  (∀(b:Bool),ky (.bool b)= .bool b)/\
  (∀(e:Nat)(xs:List PV),ky (.sl e xs)= .sl e xs)/\
  (∀(cs:List PV),ky (.agg cs)= .agg cs)/\
  (∀(cs:List PV),ky (.pt cs)= .pt cs)/\
  (ky .aa= .aa)/\(ky .undef= .undef)/\
  (∀(O o n:Nat),ky (.aD O o n)=if kU O then .undef else .aD O o n)/\
  (∀(O o n:Nat),ky (.mp O o n)=if kU O then .undef else .mp O o n)/\
  (∀(O o n:Nat),ky (.rb O o n)=if kU O then .undef else .rb O o n)/\
  (∀(O o n:Nat),ky (.aK O o n)=if mH O then .undef else .aK O o n)/\
  (∀(O o n:Nat),ky (.np O o n)=if mH O then .undef else .np O o n):=by
 refine⟨λ_ _=>rfl,λ_=>rfl,λ_ _=>rfl,λ_=>rfl,λ_=>rfl,rfl,rfl,?_,?_,?_,?_,?_⟩<;>intros<;>simp[ky,PV.refs,PV.aO]
def ap1{O:Nat}:mH O=(kU O||decide (O<1000000)):=rfl
def ap2{O:Nat}:kU O=decide (2000000<=O):=rfl
def rws(B n:Nat)(L:Nat->Nat):List (Nat×Nat):=(List.range n).map λi=>(B+i,L i)
def Wu(B n:Nat)(L:Nat->Nat):(rws B n L).length=n:=by simp[rws]
def vo{B n i:Nat}{L:Nat->Nat}(h:i<(rws B n L).length):(rws B n L)[i]=(B+i,L i):=by simp[rws]
def alQ{B n i m:Nat}{L L':Nat->Nat}(h:∀j,j<n->L' j=if j=i then m else L j):(rws B n L).set i (B+i,m)=rws B n L':=by
 refine Ka9 (by simp[rws]) λj h1 h2=>?_
 have hj:j<n:=by simpa[rws]using h2
 rw[vo,Kc3,vo,h j hj];split
 .rename_i e;subst e;simp
 .rename_i e;rw[if_neg λe2=>e e2.symm]
def aht{γ e ty k B n:Nat}{L:Nat->Nat}(h:k<n)(aS:¬(B<=γ/\γ<B+n)):dF (B+k) (.aH γ e ty (bn (rws B n L)))= .aH γ e ty ((bn (rws B n L)).set k .undef):=by
 have hk:k<(rws B n L).length:=by rw[Wu];exact h
 have:=ahr (γ:=γ) (e:=e) (ty:=ty) hk (by rw[vo];simp only;omega) (λj hj=>by rw[vo,vo];simp only;omega)
 rwa[vo]at this
def aqB{d γ i ty B n:Nat}{L:Nat->Nat}(ak:fr γ= .aH γ 1 ty (bn (rws B n L)))(h:i<n):gU 1 false (.np γ i 0) d fr hp K=K (ae fr d (.ms (B+i) (L i))) hp:=by rw[aey ak (by rw[Wu];exact h),vo]
def ajF{d γ n:Nat}{S:List Nat}{x:PV}{s:Nat}:aex d S γ n x fr s=if s=γ then x else if S.contains s then .aK γ 0 n else ct d (fr s):=rfl
def alR{by_ ty d:Nat}{k:IntKind}{n c:Nat}(h2:n<=c)(h3:by_*c<=281474976710656)(h4:c<=9223372036854775807):
  pR 1 by_ ty .aa (.int k (n:Int)) (.int k' (c:Int)) d fr hp K=K (ae (cI d fr) d (.ms d n)) (Qg hp d ⟨1,ty,List.replicate n .aa,false⟩):=by
 rw[FN (e:=1) Oz rfl Oz Oz Oz Oz];rfl
def aqC{k c:Nat}(h:c<3000000):(3000000+k=c)=False:=by simp;omega
def alS{k c:Nat}(h:c<3000000):(c=3000000+k)=False:=by simp;omega
def aqD{k j:Nat}:(3000000+k=3000000+j)=(k=j):=by simp
attribute [go_sem] aqC alS aqD alR ajF aho GM ahp ahq ai1 ajB PS CL aez ajD ajE ahs ajC alN alO alP aeA ap1 ap2
end Go.FW
namespace Go.FW
open Go
variable {C C' : Ctx} {ρ ρ' : Nat -> Option Nat} {fr aG : Fr} {hp hp' : HP} {w : World} {K R : Qf}
variable{cs:List PV}{p:PV}{r:RT}{sk:List It}{v:Value}
def bV{aX:Fr}{aB:HP}(hw:Wk fr hp aX aB)(h:vc C R (.o r::sk) aX aB):vc C R (.o (.wk r)::sk) fr hp:=by rw[Dy];exact⟨aX,aB,hw.c C,h⟩
def AX{aX:Fr}{aB:HP}(hw:DU C fr hp aX aB)(h:vc C R (.o r::sk) aX aB):vc C R (.o (.wk r)::sk) fr hp:=by rw[Dy];exact⟨aX,aB,hw,h⟩
def dh(σ:Nat->Nat):PV->PV
 |.mp O i o=>.mp (σ O) i o
 |.aD O o n=>.aD (σ O) o n
 |.rb O o n=>.rb (σ O) o n
 |.np O i o=>.np (σ O) i o
 |.aK O o n=>.aK (σ O) o n
 |p=>p
def bF(σ:Nat->Nat):PV->PV
 |.fn f a b=>.fn f (a.map (dh σ)) (b.map (dh σ))
 |.aU cs=>.aU (cs.map (dh σ))
 |.fH cs=>.fH (cs.map (dh σ))
 |.dQ cs q=>.dQ (cs.map (dh σ)) q
 |.aH γ e ty xs=>.aH (σ γ) e ty (xs.map λx=>eW (x.aV.map (dh σ)))
 |p=>dh σ p
structure xv(σ:Nat->Nat)(ρ ρ':Nat->Option Nat)(hp hp':HP)(O:Nat):Prop where
 r:ρ' (σ O)=ρ O
 h:∀hb,hp O=some hb->∃hb2,hp' (σ O)=some hb2/\hb2.e=hb.e/\hb2.ty=hb.ty/\hb2.xs=hb.xs
 b:bN O=true->bN (σ O)=true
def fV.iY{σ:Nat->Nat}{O o n:Nat}(h:fV ρ hp w O o n v)(hr:xv σ ρ ρ' hp hp' O):fV ρ' hp' w (σ O) o n v:=by obtain⟨hb,h1,h2,h3⟩:=h;obtain⟨aE,k1,k2,k3,k4⟩:=hr.h hb h1;refine⟨aE,k1,by rw[k4];exact h2,?_⟩;rw[hr.r,k2];exact h3
def qq.iY{σ:Nat->Nat}{γ o n:Nat}(h:qq ρ hp w γ o n v)(hr:xv σ ρ ρ' hp hp' γ):qq ρ' hp' w (σ γ) o n v:=by obtain⟨h0,hb,b,cap,h1,h2,h3⟩:=h;obtain⟨aE,k1,k2,k3,k4⟩:=hr.h hb h1;exact⟨hr.b h0,aE,b,cap,k1,by rw[hr.r];exact h2,by rw[k2];exact h3⟩
def Qn.sub{X X':Nat->Prop}(h:Qn w X p v)(hX:∀b,X' b->X b):Qn w X' p v:=h.mono (λ_ _ _=>rfl) (λb _ hn hx=>hn (hX b hx)) (Kag _)
def dx.iY{σ:Nat->Nat}{p:PV}{v:Value}(h:dx C ρ hp w p v)(hX:∀b,aM C' ρ' hp' b->aM C ρ hp b)(hr:∀O∈p.dM,xv σ ρ ρ' hp hp' O):dx C' ρ' hp' w (dh σ p) v:=by
 cases p with
 |undef=>trivial
 |aD O o n=>exact⟨(hr O (by simp[PV.dM])).b h.1,h.2.iY (hr O (by simp[PV.dM]))⟩
 |aK γ o n=>exact qq.iY h (hr γ (by simp[PV.dM]))
 |mp=>cases h
 |rb=>cases h
 |np=>cases h
 |_=>exact Qn.sub h hX
def dy.iY{σ:Nat->Nat}{p:PV}{v:Value}(h:dy C ρ hp w p v)(hX:∀b,aM C' ρ' hp' b->aM C ρ hp b)(hr:∀O∈p.cm++p.fu,xv σ ρ ρ' hp hp' O):dy C' ρ' hp' w (dh σ p) v:=by
 cases p with
 |mp O i o=>have hq:=hr O (by simp[PV.cm]);obtain⟨b,hb,h1,h2,h3⟩:=h;obtain⟨aE,k1,k2,k3,k4⟩:=hq.h hb h2;exact⟨b,aE,by rw[hq.r];exact h1,k1,by rw[k2];exact h3⟩
 |aD O o n=>exact fV.iY h (hr O (by simp[PV.cm]))
 |rb O o n=>obtain⟨b,u,h1,h2,h3,h4,h5⟩:=h;exact⟨b,u,h1,h2,λhx=>h3 (hX b hx),h4,h5.iY (hr O (by simp[PV.cm]))⟩
 |np γ i o=>have hq:=hr γ (by simp[PV.cm,PV.fu]);obtain⟨h0,b,hb,h1,h2,h3⟩:=h;obtain⟨aE,k1,k2,k3,k4⟩:=hq.h hb h2;exact⟨hq.b h0,b,aE,by rw[hq.r];exact h1,k1,by rw[k2];exact h3⟩
 |aK γ o n=>exact qq.iY h (hr γ (by simp[PV.cm,PV.fu]))
 |_=>exact Qn.sub h hX
def Vn(h:∀c∈cs,(∀ds,c≠ .agg ds)/\∀ds,c≠ .aU ds):(eW cs).aV=cs:=by
 match cs,h with
 | [],_=>rfl
 | [c],h=>
  obtain⟨h1,h2⟩:=h c (by simp);cases c with
  |agg ds=>exact absurd rfl (h1 ds)
  |aU ds=>exact absurd rfl (h2 ds)
  |_=>rfl
 |c::d::cs,_=>simp only[eW,lR];split<;>rfl
def dx.one(h:dx C ρ hp w p v):(∀ds,p≠ .agg ds)/\∀ds,p≠ .aU ds:=by refine⟨λds e=>?_,λds e=>?_⟩<;>subst e<;>cases h
def Qj.iY{σ:Nat->Nat}{p:PV}{v:Value}(h:Qj C ρ hp w p v)(hX:∀b,aM C' ρ' hp' b->aM C ρ hp b)(hr:∀O∈p.refs++p.aO,xv σ ρ ρ' hp hp' O):Qj C' ρ' hp' w (bF σ p) v:=by
 have hV:∀q u,Qn w (aM C ρ hp) q u->Qn w (aM C' ρ' hp') q u:=λq u hq=>Qn.sub hq hX
 cases p with
 |undef=>trivial
 |mp O i o=>exact dy.iY (w:=w) (p:=.mp O i o) h hX (by simpa[PV.refs,PV.aO,PV.cm,PV.fu]using hr)
 |aD O o n=>exact dy.iY (w:=w) (p:=.aD O o n) h hX (by simpa[PV.refs,PV.aO,PV.cm,PV.fu]using hr)
 |rb O o n=>exact dy.iY (w:=w) (p:=.rb O o n) h hX (by simpa[PV.refs,PV.aO,PV.cm,PV.fu]using hr)
 |np γ i o=>exact dy.iY (w:=w) (p:=.np γ i o) h hX (by simpa[PV.refs,PV.aO,PV.cm,PV.fu]using hr)
 |aK γ o n=>exact dy.iY (w:=w) (p:=.aK γ o n) h hX (by simpa[PV.refs,PV.aO,PV.cm,PV.fu]using hr)
 |aU cs=>obtain⟨vs,rfl,h1,h2⟩:=h;refine⟨vs,rfl,by simpa using h1,λi x hi=>?_⟩;simp only[Kaw,Kaa]at hi;obtain⟨y,hy,rfl⟩:=hi;exact(h2 i y hy).iY hX λO ao=>hr O (Kbd _ (Kat.2 ⟨y,Kaj hy,ao⟩))
 |fH cs=>obtain⟨vs,rfl,h1,h2⟩:=h;refine⟨vs,rfl,by simpa using h1,λi x hi=>?_⟩;simp only[Kaw,Kaa]at hi;obtain⟨y,hy,rfl⟩:=hi;exact(h2 i y hy).iY hX λO ao=>hr O (Kbd _ (Kat.2 ⟨y,Kaj hy,ao⟩))
 |dQ cs q=>obtain⟨vs,u,rfl,h1,h2,h3⟩:=h;refine⟨vs,u,rfl,by simpa using h1,λi x hi=>?_,h3.mono (λ_ _ _=>rfl) (λb _ hn hx=>hn (hX b hx)) (Kag _)⟩;simp only[Kaw,Kaa]at hi;obtain⟨y,hy,rfl⟩:=hi;exact(h2 i y hy).iY hX λO ao=>hr O (Kbd _ (Kat.2 ⟨y,Kaj hy,ao⟩))
 | aH γ e ty xs=>
  obtain⟨h0,he,b,hb,cur,cap,h1,h2,h3,h4,h5,h6,h7,h8,h9,bp,cE⟩:=h;have hq:=hr γ (by simp[PV.aO]);have key:∀(i:Nat)(x:PV),xs[i]? =some x->∀(j:Nat)(y:PV),x.aV[j]? =some y->dx C' ρ' hp' w (dh σ y) (cur.getD (i*e+j) undef):=λi x hx j y hy=>
   (cE i x hx j y hy).iY hX λO ao=>hr O (Kbd _ (Kbx _ (Kat.2 ⟨x,Kaj hx,Kat.2 ⟨y,Kaj hy,ao⟩⟩)))
  have uH:∀(i:Nat)(x:PV),xs[i]? =some x->(eW (x.aV.map (dh σ))).aV=x.aV.map (dh σ):=λi x hx=>by
   refine Vn λc hc=>?_
   obtain⟨y,hy,rfl⟩:=KaD.1 hc;obtain⟨j,hj⟩:=KaI hy;exact(key i x hx j y hj).one
  obtain⟨aE,k1,k2,k3,k4⟩:=hq.h hb h2;refine⟨hq.b h0,he,b,aE,cur,cap,by rw[hq.r];exact h1,k1,by rw[k4];exact h3,by rw[k2];exact h4,by rw[k3];exact h5,h6,h7,by simpa using h8,h9,λi x hx=>?_,λi x hx j y hy=>?_⟩
  .simp only[Kaw,Kaa]at hx;obtain⟨x0,bQ,rfl⟩:=hx;rw[uH i x0 bQ,KaC];exact bp i x0 bQ
  .simp only[Kaw,Kaa]at hx;obtain⟨x0,bQ,rfl⟩:=hx;rw[uH i x0 bQ,Kaw,Kaa]at hy;obtain⟨y0,dZ,rfl⟩:=hy;exact key i x0 bQ j y0 dZ
 | fn f first cap=>
  obtain⟨fv,cv,rfl,h1,h2,h3,h4⟩:=h;have hm:∀(l:List PV)(x:PV),x∈l->∀O∈x.cm++x.fu,O∈l.flatMap PV.cm++l.flatMap PV.fu:=λl x hx O ao=>by
   rcases KaN.1 ao with ao|ao
   .exact KbF _ (Kat.2 ⟨x,hx,ao⟩)
   .exact Kbd _ (Kat.2 ⟨x,hx,ao⟩)
  refine⟨fv,cv,rfl,by simpa using h1,by simpa using h2,λi x hi=>?_,λi x hi=>?_⟩
  .simp only[Kaw,Kaa]at hi;obtain⟨y,hy,rfl⟩:=hi;refine(h3 i y hy).iY hX λO ao=>hr O ?_
   have:=hm first y (Kaj hy) O ao
   simp only[PV.refs,PV.aO,KaN]at this⊢;rcases this with h|h
   .exact .inl (.inl h)
   .exact .inr (.inl h)
  .simp only[Kaw,Kaa]at hi;obtain⟨y,hy,rfl⟩:=hi;refine(h4 i y hy).iY hX λO ao=>hr O ?_
   have:=hm cap y (Kaj hy) O ao;simp only[PV.refs,PV.aO,KaN]at this⊢;rcases this with h|h
   .exact .inl (.inr h)
   .exact .inr (.inr h)
 |agg cs=>exact gq.move (p:=.agg cs) h hV
 |aI cs=>exact gq.move (p:=.aI cs) h hV
 |_=>exact hV _ _ h
def aqE(σ τ:Nat->Nat)(h1:∀O hb,hp O=some hb->hp' (σ O)=some hb/\τ (σ O)=O)(h2:∀γ hb,hp' γ=some hb->hp (τ γ)=some hb/\σ (τ γ)=γ)
  (hB:∀O,hp O≠none->bN O=true->bN (σ O)=true) (hY:∀O,hp O≠none->aP (σ O)=aP O/\(aP O=true->σ O=O)) (hf:∀s,aG s=bF σ (fr s)\/aG s= .undef):Wk fr hp aG hp':=by
 rintro C tmps w ⟨ρ,hs⟩;obtain⟨ρ',bT⟩:∃f:Nat->Option Nat,f=λγ=>if hp' γ=none then none else ρ (τ γ):=⟨_,rfl⟩
 have hr:∀O,hp O≠none->xv σ ρ ρ' hp hp' O:=λO ao=>by obtain⟨hb,hq⟩:=Kbq.1 ao;obtain⟨a1,a2⟩:=h1 O hb hq;refine⟨?_,(λhb hq=>⟨hb,(h1 O hb hq).1,rfl,rfl,rfl⟩),hB O ao⟩;rw[bT];simp only[];rw[if_neg (by rw[a1];simp),a2]
 have aE:∀γ hb,hp' γ=some hb->ρ' γ=ρ (τ γ):=λγ hb hq=>by rw[bT];simp only[];rw[if_neg (by rw[hq];simp)]
 have hX:∀b,aM C ρ' hp' b->aM C ρ hp b:=by
  rintro b (hx|⟨γ,hg,g1,g2,g3⟩)
  .exact .inl hx
  .rw[aE γ hg g1]at g3;exact .inr ⟨τ γ,hg,(h2 γ hg g1).1,g2,g3⟩
 refine⟨ρ',hs.sz,hs.ext,hs.fG,λγ hb ak=>?_,λγ δ b g1 g2 g3 g4=>?_,λi=>?_⟩
 .obtain⟨a1,a2⟩:=h2 γ hb ak;obtain⟨q1,q2,q3,q4,q5⟩:=hs.own (τ γ) hb a1;obtain⟨y1,y2⟩:=hY (τ γ) (by simp[a1]);rw[a2]at y1 y2;refine⟨q1,q2,?_,λhy=>?_,λhR=>?_⟩
  rotate_left
  rotate_left
  .have hy:aP γ=true:=by simp[eB]at hR;simp[aP];omega
   have e:=y2 (by rw[<-y1];exact hy);exact q5 (by rw[<-e];exact hR)
  .rw[aE γ hb ak];cases hq:ρ (τ γ)with
   |none=>rw[hq]at q3;exact q3
   |some b=>
    rw[hq]at q3;refine⟨?_,q3.2.1,q3.2.2.move rfl rfl rfl rfl λq u hq=>Qn.sub hq hX⟩;have:=q3.1;unfold Ctx.cls at this⊢;rw[y1];split at this
    .rename_i hy;rw[if_pos hy,y2 hy];exact this
    .rename_i hy;rw[if_neg hy];exact this
  .rw[aE γ hb ak,q4 (by rw[<-y1];exact hy),<-y2 (by rw[<-y1];exact hy)]
 .obtain⟨x1,k1⟩:=Kbq.1 g1;obtain⟨x2,k2⟩:=Kbq.1 g2;rw[aE γ x1 k1]at g3;rw[aE δ x2 k2]at g4;have:=hs.inj (τ γ) (τ δ) b (by rw[(h2 γ x1 k1).1];simp) (by rw[(h2 δ x2 k2).1];simp) g3 g4;rw[<-(h2 γ x1 k1).2,<-(h2 δ x2 k2).2,this]
 .have bm:=hs.cQ i;rcases hf i with e|e
  .rw[e];exact bm.iY hX λO ao=>hr O (by
    rcases KaN.1 ao with h|h
    .exact bm.known.1 O h
    .exact bm.known.2 O h)
  .rw[e];trivial
def kW(O δ x:Nat):Nat:=if x=O then δ else x
def tA(O δ:Nat)(fr:Fr):Fr:=λs=>bF (kW O δ) (fr s)
def Jy(O δ:Nat)(hp:HP):HP:=λx=>if x=δ then hp O else if x=O then none else hp x
def kv(O δ:Nat)(fq:hp δ=none)(h2:2000000<=δ)(hY:aP O=false)(aS:O≠δ):Wk fr hp (tA O δ fr) (Jy O δ hp):=by
 have bδ:bN δ=true:=by simp[bN];omega
 have yδ:aP δ=false:=by simp[aP];omega
 refine aqE (kW O δ) (λy=>if y=δ then O else y) (λx hb hx=>?_) (λy hb hy=>?_) (λx hx hb=>?_) (λx hx=>?_) (λs=>.inl rfl)
 .unfold kW Jy;by_cases e:x=O
  .subst e;simp[hx]
  .have e2:x≠δ:=λe2=>by rw[e2,fq]at hx;cases hx
   simp[e,e2,hx]
 .unfold Jy at hy;unfold kW;by_cases e:y=δ
  .subst e;simp at hy;simp[hy]
  .rw[if_neg e]at hy;by_cases e2:y=O
   .rw[if_pos e2]at hy;cases hy
   .rw[if_neg e2]at hy;simp[e,e2,hy]
 .unfold kW;split
  .exact bδ
  .exact hb
 .unfold kW;split
  .rename_i e;subst e;rw[yδ,hY];simp
  .simp
def aqF{O δ x:Nat}:Jy O δ hp x=if x=δ then hp O else if x=O then none else hp x:=rfl
def aqG{O δ s:Nat}:tA O δ fr s=bF (kW O δ) (fr s):=rfl
def aqH{O δ x:Nat}:kW O δ x=if x=O then δ else x:=rfl
def alh{O δ d:Nat}{v:PV}:tA O δ (ae fr d v)=ae (tA O δ fr) d (bF (kW O δ) v):=by funext s;unfold tA ae;split<;>rfl
def ali{W:List (Nat×Nat)}{O δ:Nat}{J F:Fr}:tA O δ (aY W J F)=aY W (tA O δ J) (tA O δ F):=by funext s;unfold tA aY;split<;>rfl
def TK{σ:Nat->Nat}(h:∀O∈p.cm++p.fu,σ O=O):dh σ p=p:=by
 cases p with
 |mp O=>simp only[dh];rw[h O (by simp[PV.cm])]
 |aD O=>simp only[dh];rw[h O (by simp[PV.cm])]
 |rb O=>simp only[dh];rw[h O (by simp[PV.cm])]
 |np O=>simp only[dh];rw[h O (by simp[PV.cm,PV.fu])]
 |aK O=>simp only[dh];rw[h O (by simp[PV.cm,PV.fu])]
 |_=>rfl
def alj{σ:Nat->Nat}(h:uZ p)(lH:∀O∈p.refs++p.aO,σ O=O):bF σ p=p:=by
 have hm:∀(l:List PV),(∀O∈l.flatMap PV.cm++l.flatMap PV.fu,σ O=O)->l.map (dh σ)=l:=λl hl=>by
  conv=>rhs;rw[<-List.map_id l]
  refine KaF λx hx=>TK λO ao=>hl O ?_
  rcases KaN.1 ao with ao|ao
  .exact KbF _ (Kat.2 ⟨x,hx,ao⟩)
  .exact Kbd _ (Kat.2 ⟨x,hx,ao⟩)
 cases p with
 |aH γ e ty xs=>exact absurd rfl (h.2.2.1 _ _ _ _)
 |aU cs=>exact absurd rfl (h.2.2.2 _).1
 |fH cs=>exact absurd rfl (h.2.2.2 _).2.1
 |dQ cs q=>exact absurd rfl ((h.2.2.2 _).2.2 _)
 | fn f a b=>
  simp only[bF];rw[hm a,hm b]
  .intro O ao;refine lH O ?_;simp only[PV.refs,PV.aO,KaN]at ao⊢;rcases ao with h|h
   .exact .inl (.inr h)
   .exact .inr (.inr h)
  .intro O ao;refine lH O ?_;simp only[PV.refs,PV.aO,KaN]at ao⊢;rcases ao with h|h
   .exact .inl (.inl h)
   .exact .inr (.inl h)
 |mp O=>simp only[bF,dh];rw[lH O (by simp[PV.refs])]
 |aD O=>simp only[bF,dh];rw[lH O (by simp[PV.refs])]
 |rb O=>simp only[bF,dh];rw[lH O (by simp[PV.refs])]
 |np O=>simp only[bF,dh];rw[lH O (by simp[PV.refs,PV.aO])]
 |aK O=>simp only[bF,dh];rw[lH O (by simp[PV.refs,PV.aO])]
 |_=>rfl
def ajG{B:List Nat}{F:Fr}{s O:Nat}(h:O∈(cO B F s).refs):B.contains O=false:=by
 cases hq:B.contains O with
 |false=>rfl
 |true=>
  unfold cO b7 at h;split at h
  .cases h
  .rename_i hn;exact absurd (KaJ.2 ⟨O,h,hq⟩) hn
def alk{B:List Nat}{F:Fr}{O δ:Nat}(ao:B.contains O=true\/2000000<=O)(aAb:O<1000000\/2000000<=O):tA O δ (cO B F)=cO B F:=by
 funext s;have hc:=wU B F s;refine alj hc λx hx=>if_neg λe=>?_
 subst e;rcases ao with ao|ao
 .rcases KaN.1 hx with h|h
  .rw[ajG h]at ao;cases ao
  .have h1:=hc.2.1 x h;simp[mH,kU]at h1;omega
 .rcases KaN.1 hx with h|h
  .have:=hc.1 x h;simp[kU]at this;omega
  .have:=hc.2.1 x h;simp[mH,kU]at this;omega
end Go.FW
namespace Go.FW
open Go
variable {C C' : Ctx} {ρ ρ' : Nat -> Option Nat} {fr aG : Fr} {hp hp' : HP} {w : World} {K R : Qf}
variable{cs xs xs':List PV}{fz:Bool}{hb:HB}{tmps:Array Value}
def gw(γ:Nat):PV->PV
 |.aD O o n=>if O=γ then .aK γ o n else .aD O o n
 |.mp O i o=>if O=γ then .np γ i o else .mp O i o
 |.rb O o n=>if O=γ then .undef else .rb O o n
 |p=>p
def eS(γ:Nat):PV->PV
 |.fn f a b=>ct γ (.fn f a b)
 |.aU cs=>.aU (cs.map (gw γ))
 |.fH cs=>.fH (cs.map (gw γ))
 |.dQ cs q=>.dQ (cs.map (gw γ)) q
 |.aH bo e ty xs=>if bo=γ then .undef else .aH bo e ty (xs.map λx=>eW (x.aV.map (gw γ)))
 |p=>gw γ p
def Ah(γ:Nat)(x:PV)(fr:Fr):Fr:=λs=>if s=γ then x else eS γ (fr s)
def me {γ e ty:Nat}   (ak:hp γ=some ⟨e,ty,xs,fz⟩) (h0:xs≠[]) (h2:2000000<=γ) (hd:∀x∈xs,x.aV=x.cells):Wk fr hp (Ah γ (.aH γ e ty xs) fr) (Qg hp γ ⟨e,ty,[],fz⟩):=by
 rintro C tmps w ⟨ρ,hs⟩;have BG:bN γ=true:=by simp[bN];omega
 have bP:=hs.own γ _ ak;have bu:=bP.du;obtain⟨b,bT⟩:∃b,ρ γ=some b:=by
  cases hq:ρ γ with
  |none=>rw[hq]at bu;exact absurd bu h0
  |some b=>exact⟨b,rfl⟩
 rw[bT]at bu;obtain⟨b1,b2,cur,cap,c1,c2,c3,c4,c5⟩:=bu;have mA:=bP.mA;obtain⟨hp',lC⟩:∃f,f=Qg hp γ ⟨e,ty,[],fz⟩:=⟨_,rfl⟩
 rw[<-lC];have pU:hp' γ=some ⟨e,ty,[],fz⟩:=by rw[lC];simp[Qg]
 have po:∀O,O≠γ->hp' O=hp O:=λO ao=>by rw[lC];simp[Qg,ao]
 have hX:aM C ρ hp'=aM C ρ hp:=by
  funext c;apply propext;constructor
  .rintro(hx|⟨O,hb,g1,g2,g3⟩)
   .exact .inl hx
   .by_cases ao:O=γ
    .subst ao;rw[pU]at g1;cases g1;exact .inr ⟨O,_,ak,g2,g3⟩
    .rw[po O ao]at g1;exact .inr ⟨O,hb,g1,g2,g3⟩
  .rintro(hx|⟨O,hb,g1,g2,g3⟩)
   .exact .inl hx
   .by_cases ao:O=γ
    .subst ao;rw[ak]at g1;cases g1;exact .inr ⟨O,_,pU,g2,g3⟩
    .exact .inr ⟨O,hb,by rw[po O ao];exact g1,g2,g3⟩
 have a9:nK w w (aM C ρ hp) (aM C ρ hp'):=by rw[hX];exact⟨λ_ _ _=>rfl,λ_ _ hn=>hn,Kag _⟩
 have c0:∀O,O≠γ->pW ρ ρ hp hp' w w O:=λO ao=>⟨rfl,λhb hq=>⟨hb,by rw[po O ao];exact hq,rfl,Kag _,λ_ _ _ h=>h,λh=>⟨h,rfl,λ_ _=>rfl⟩⟩⟩
 have Fw:∀ {o n:Nat} {v:Value},fV ρ hp w γ o n v->qq ρ hp' w γ o n v:=by
  rintro o n v ⟨hb,g1,g2,g3⟩;rw[ak]at g1;cases g1;rcases g3 with⟨g3,_⟩|⟨b',cp,g3,g4,g5,g6⟩
  .rw[bT]at g3;cases g3
  .rw[bT]at g3;cases g3;refine⟨BG,_,b,cp,pU,bT,g4,g5,g6,?_⟩;obtain⟨cur',ty',d1,d2⟩:=g5;rw[c1]at d1;cases d1;have:cap=o+cp:=KbB mA (by rw[<-c2,<-d2]);simp only at g2 c3;omega
 have cell:∀ {p:PV} {v:Value},dx C ρ hp w p v->dx C ρ hp' w (gw γ p) v:=by
  intro p v h;cases p with
  |aD O o n=>
   by_cases ao:O=γ
   .subst ao;simp only[gw,if_true];exact Fw h.2
   .simp only[gw,if_neg ao];exact dx.move (p:=.aD O o n) h a9 λx hx=>by simp[PV.dM]at hx;subst hx;exact(c0 _ ao).Ac
  | aK O o n=>
   by_cases ao:O=γ
   .obtain⟨_,hb,b',cp,k1,k2,k3,k4,k5,k6⟩:=h;subst ao;rw[ak]at k1;cases k1;exact⟨BG,_,b',cp,pU,k2,k3,k4,k5,k6⟩
   .exact dx.move (p:=.aK O o n) h a9 λx hx=>by simp[PV.dM]at hx;subst hx;exact(c0 _ ao).Ac
  |mp=>cases h
  |rb=>cases h
  |np=>cases h
  |undef=>trivial
  |_=>exact dx.move h a9 (λx hx=>by cases hx)
 refine⟨ρ,hs.sz,hs.ext,hs.fG,λO hb ao=>?_,λO δ c g1 g2 g3 g4=>?_,λi=>?_⟩
 .by_cases hq:O=γ
  .subst hq;rw[pU]at ao;cases ao;refine⟨mA,(λi x hx=>by simp at hx),?_,bP.fix,bP.ro⟩;rw[bT];exact⟨b1,b2,cur,cap,c1,c2,KbK _,c4,λi x hx=>by simp at hx⟩
  .rw[po O hq]at ao;obtain⟨q1,q2,q3,q4,q5⟩:=hs.own O hb ao;refine⟨q1,q2,?_,q4,q5⟩;cases hr:ρ O with
   |none=>rw[hr]at q3;exact q3
   |some c=>rw[hr]at q3;exact⟨q3.1,q3.2.1,q3.2.2.move rfl rfl rfl rfl a9.rc⟩
 .have f:∀O,hp' O≠none->hp O≠none:=λO ao=>by
   by_cases hq:O=γ
   .subst hq;simp[ak]
   .rwa[po O hq]at ao
  exact hs.inj O δ c (f O g1) (f δ g2) g3 g4
 .have bm:=hs.cQ i;show Qj C ρ hp' w (Ah γ (.aH γ e ty xs) fr i) _;unfold Ah;split
  .refine⟨BG,mA,b,_,cur,cap,bT,pU,rfl,rfl,rfl,c1,c2,c3,c4,λk x hx=>?_,λk x hx j y hy=>?_⟩
   .rw[hd x (Kaj hx)];exact(bP.len k x hx).1
   .rw[hd x (Kaj hx)]at hy;have:=c5 k x hx j y hy;have h3:Qn w (aM C ρ hp') y (cur.getD (k*e+j) undef):=by rw[hX];exact this
    cases y with
    |undef=>trivial
    |aD=>cases h3
    |aK=>cases h3
    |_=>exact h3
  .generalize fr i=p at bm;cases p with
   |aD O o n=>
    by_cases ao:O=γ
    .subst ao;simp only[eS,gw,if_true];exact Fw bm
    .simp only[eS,gw,if_neg ao];exact Qj.sg bm a9 (λx hx=>by simp[PV.refs]at hx;subst hx;exact(c0 _ ao).o) (λx hx=>by cases hx)
   | mp O k o=>
    by_cases ao:O=γ
    .subst ao;simp only[eS,gw,if_true];obtain⟨b',hb,g1,g2,g3⟩:=bm;rw[ak]at g2;cases g2;exact⟨BG,b',_,g1,pU,g3⟩
    .simp only[eS,gw,if_neg ao];exact Qj.sg bm a9 (λx hx=>by simp[PV.refs]at hx;subst hx;exact(c0 _ ao).o) (λx hx=>by cases hx)
   |rb O o n=>
    by_cases ao:O=γ
    .simp only[eS,gw,if_pos ao];trivial
    .simp only[eS,gw,if_neg ao];exact Qj.sg bm a9 (λx hx=>by simp[PV.refs]at hx;subst hx;exact(c0 _ ao).o) (λx hx=>by cases hx)
   | np O k o=>
    by_cases ao:O=γ
    .subst ao;obtain⟨_,b',hb,g1,g2,g3⟩:=bm;rw[ak]at g2;cases g2;exact⟨BG,b',_,g1,pU,g3⟩
    .refine Qj.sg (p:=.np O k o) bm a9 (λx hx=>by cases hx) (λx hx=>?_);have e1:x=O:=by simpa[PV.aO]using hx
     rw[e1];exact c0 _ ao
   |aK O o n=>exact cell (p:=.aK O o n) bm
   |aU cs=>obtain⟨vs,e1,h1,h3⟩:=bm;refine⟨vs,e1,by simpa using h1,λk x hk=>?_⟩;simp only[Kaw,Kaa]at hk;obtain⟨y,hy,rfl⟩:=hk;exact cell (h3 k y hy)
   |fH cs=>obtain⟨vs,e1,h1,h3⟩:=bm;refine⟨vs,e1,by simpa using h1,λk x hk=>?_⟩;simp only[Kaw,Kaa]at hk;obtain⟨y,hy,rfl⟩:=hk;exact cell (h3 k y hy)
   |dQ cs q=>obtain⟨vs,u,e1,h1,h3,h4⟩:=bm;refine⟨vs,u,e1,by simpa using h1,λk x hk=>?_,h4.mono a9.du a9.out a9.size⟩;simp only[Kaw,Kaa]at hk;obtain⟨y,hy,rfl⟩:=hk;exact cell (h3 k y hy)
   | aH O e' ty' ys=>
    simp only[eS];split
    .trivial
    .rename_i ao;obtain⟨k0,he,b',hb,cur',fZ,k1,k2,k3,k4,k5,k6,k7,k8,k9,se,ya⟩:=bm;have uH:∀(k:Nat)(x:PV),ys[k]? =some x->(eW (x.aV.map (gw γ))).aV=x.aV.map (gw γ):=λk x hx=>by
      refine Vn λc hc=>?_
      obtain⟨y,hy,rfl⟩:=KaD.1 hc;obtain⟨j,hj⟩:=KaI hy;exact(cell (ya k x hx j y hj)).one
     refine⟨k0,he,b',hb,cur',fZ,k1,by rw[po O ao];exact k2,k3,k4,k5,k6,k7,by simpa using k8,k9,λk x hx=>?_,λk x hx j y hy=>?_⟩
     .simp only[Kaw,Kaa]at hx;obtain⟨x0,bQ,rfl⟩:=hx;rw[uH k x0 bQ,KaC];exact se k x0 bQ
     .simp only[Kaw,Kaa]at hx;obtain⟨x0,bQ,rfl⟩:=hx;rw[uH k x0 bQ,Kaw,Kaa]at hy;obtain⟨y0,dZ,rfl⟩:=hy;exact cell (ya k x0 bQ j y0 dZ)
   | fn f a c=>
    simp only[eS,ct];split
    .trivial
    .rename_i hn;have uF:γ ∉ (PV.fn f a c).refs:=by simpa using hn
     by_cases hm:γ∈(PV.fn f a c).aO
     .
      obtain⟨fv,cv,g1,g2,g3,g4,g5⟩:=bm;have Ij:∀ {x:PV} {v:Value},γ ∉ x.cm->dy C ρ hp w x v->dy C ρ hp' w x v:=by
       intro x v hx h;cases x with
       | np O k o=>
        by_cases ao:O=γ
        .subst ao;obtain⟨_,b',hb,k1,k2,k3⟩:=h;rw[ak]at k2;cases k2;exact⟨BG,b',_,k1,pU,k3⟩
        .exact dy.move (p:=.np O k o) h a9 (λx hx=>by cases hx) (λx hx=>by simp[PV.fu]at hx;subst hx;exact(c0 _ ao).Ac)
       |aK O o n=>exact cell (p:=.aK O o n) h
       |mp O k o=>exact dy.move (p:=.mp O k o) h a9 (λx bc=>by simp[PV.cm]at bc hx;subst bc;exact(c0 _ (λe=>hx e.symm)).o) (λx hx=>by cases hx)
       |aD O k o=>exact dy.move (p:=.aD O k o) h a9 (λx bc=>by simp[PV.cm]at bc hx;subst bc;exact(c0 _ (λe=>hx e.symm)).o) (λx hx=>by cases hx)
       |rb O k o=>exact dy.move (p:=.rb O k o) h a9 (λx bc=>by simp[PV.cm]at bc hx;subst bc;exact(c0 _ (λe=>hx e.symm)).o) (λx hx=>by cases hx)
       |_=>exact dy.move h a9 (λx hx=>by cases hx) (λx hx=>by cases hx)
      exact⟨fv,cv,g1,g2,g3,λk x hk=>Ij (λhx=>uF (Lg hk γ hx)) (g4 k x hk),λk x hk=>Ij (λhx=>uF (Lp hk γ hx)) (g5 k x hk)⟩
     .exact Qj.sg bm a9 (λx hx=>(c0 x (λe=>uF (e▸hx))).o) (λx hx=>c0 x (λe=>hm (e▸hx)))
   |_=>exact Qj.sg bm a9 (λx hx=>by cases hx) (λx hx=>by cases hx)
def RA{γ e ty:Nat}(D:Nat->Option (Nat×Nat))(na:fr γ= .aH γ e ty xs)(hD:∀δ x,D δ=some x->hp δ=none/\2000000<=δ/\0<x.1)(hl:xs'.length=xs.length)
  (hx:∀(i:Nat)(x x':PV),xs[i]? =some x->xs'[i]? =some x'->x'.aV.length=x.aV.length/\∀(j:Nat)(y y':PV),x.aV[j]? =some y->x'.aV[j]? =some y'->y'=y\/(y= .aa/\∃δ z,D δ=some z/\y'= .aD δ 0 0)):
  Wk fr hp (ae fr γ (.aH γ e ty xs')) (λδ=>match D δ with|some x=>some ⟨x.1,x.2,[],false⟩|none=>hp δ):=by
 rintro C tmps w ⟨ρ,hs⟩;obtain⟨hp',lC⟩:∃f:HP,f=λδ=>match D δ with|some x=>some ⟨x.1,x.2,[],false⟩|none=>hp δ:=⟨_,rfl⟩
 obtain⟨ρ',aap⟩:∃f:Nat->Option Nat,f=λδ=>if(D δ).isSome then none else ρ δ:=⟨_,rfl⟩
 rw[<-lC];have pD:∀δ x,D δ=some x->hp' δ=some ⟨x.1,x.2,[],false⟩/\ρ' δ=none:=λδ x fq=>by rw[lC,aap];simp[fq]
 have po:∀δ,D δ=none->hp' δ=hp δ/\ρ' δ=ρ δ:=λδ fq=>by rw[lC,aap];simp[fq]
 have hk:∀O,hp O≠none->D O=none:=λO ao=>by
  cases hq:D O with
  |none=>rfl
  |some x=>exact absurd (hD O x hq).1 ao
 have hX:∀c,aM C ρ' hp' c->aM C ρ hp c:=by
  rintro c (h|⟨O,hb,g1,g2,g3⟩)
  .exact .inl h
  .cases hq:D O with
   |none=>rw[(po O hq).1]at g1;rw[(po O hq).2]at g3;exact .inr ⟨O,hb,g1,g2,g3⟩
   |some x=>rw[(pD O x hq).2]at g3;cases g3
 have a9:nK w w (aM C ρ hp) (aM C ρ' hp'):=⟨λ_ _ _=>rfl,λc _ hn h=>hn (hX c h),Kag _⟩
 have c0:∀O,hp O≠none->pW ρ ρ' hp hp' w w O:=λO ao=>⟨(po O (hk O ao)).2,λhb hq=>⟨hb,by rw[(po O (hk O ao)).1];exact hq,rfl,Kag _,λ_ _ _ h=>h,λh=>⟨h,rfl,λ_ _=>rfl⟩⟩⟩
 refine⟨ρ',hs.sz,hs.ext,hs.fG,λO hb ao=>?_,λO δ c g1 g2 g3 g4=>?_,λi=>?_⟩
 .cases hq:D O with
  |some x=>rw[(pD O x hq).1]at ao;cases ao;obtain⟨_,d2,d3⟩:=hD O x hq;refine⟨d3,(λi x hx=>by simp at hx),?_,(λh=>by simp[aP]at h;omega),λh=>by simp[eB]at h;omega⟩;rw[(pD O x hq).2]
  |none=>
   rw[(po O hq).1]at ao;obtain⟨q1,q2,q3,q4,q5⟩:=hs.own O hb ao;refine⟨q1,q2,?_,(by rw[(po O hq).2];exact q4),q5⟩;rw[(po O hq).2];cases hr:ρ O with
   |none=>rw[hr]at q3;exact q3
   |some c=>rw[hr]at q3;exact⟨q3.1,q3.2.1,q3.2.2.move rfl rfl rfl rfl a9.rc⟩
 .have f:∀O,hp' O≠none->∀c,ρ' O=some c->hp O≠none/\ρ O=some c:=λO ao c hc=>by
   cases hq:D O with
   |none=>rw[(po O hq).1]at ao;rw[(po O hq).2]at hc;exact⟨ao,hc⟩
   |some x=>rw[(pD O x hq).2]at hc;cases hc
  exact hs.inj O δ c (f O g1 c g3).1 (f δ g2 c g4).1 (f O g1 c g3).2 (f δ g2 c g4).2
 .have zD:=(hs.cQ i).known;have B9:Qj C ρ' hp' w (fr i) (tmps.getD i undef):=(hs.cQ i).sg a9 (λO ao=>(c0 O (zD.1 O ao)).o) (λO ao=>c0 O (zD.2 O ao));unfold ae;split
  .rename_i hi;subst hi;rw[na]at B9;obtain⟨k0,he,b',hb,cur',fZ,k1,k2,k3,k4,k5,k6,k7,k8,k9,se,ya⟩:=B9;have gg:∀(k:Nat)(x':PV),xs'[k]? =some x'->∃x,xs[k]? =some x:=λk x' cY=>by
    have:k<xs.length:=by have:=(Kah.1 cY).1;omega
    exact⟨_,Kae this⟩
   refine⟨k0,he,b',hb,cur',fZ,k1,k2,k3,k4,k5,k6,k7,Oz,k9,λk x' cY=>?_,λk x' cY j y' iV=>?_⟩
   .obtain⟨x,wy⟩:=gg k x' cY;rw[(hx k x x' wy cY).1];exact se k x wy
   .obtain⟨x,wy⟩:=gg k x' cY;obtain⟨l1,l2⟩:=hx k x x' wy cY;have hj:j<x.aV.length:=by have:=(Kah.1 iV).1;omega
    have hy:=Kae hj;have hr:=ya k x wy j _ hy;rcases l2 j _ y' hy iV with e1|⟨e1,δ,z,e2,e3⟩
    .rw[e1];exact hr
    .rw[e1]at hr;obtain⟨_,d2,_⟩:=hD δ z e2;rw[e3];have hv:cur'.getD (k*e+j) undef= .slice none 0 0:=by generalize cur'.getD (k*e+j) undef=u at hr;cases hr;rfl
     exact⟨by simp[bN];omega,_,(pD δ z e2).1,Kag _,.inl ⟨(pD δ z e2).2,hv,rfl,rfl⟩⟩
  .exact B9
def B5:List PV->PV
 | [c]=>c
 |cs=>.agg cs
def iE(fr:Fr)(hp:HP):Nat->PV->PV
 |0,p=>p
 | k+1,p=>match p with
  |.aD O o n=>match hp O with
   |some hb=>.sl hb.e ((hb.xs.drop o).take n)
   |none=>.undef
  |.aK γ o n=>match fr γ with
   |.aH _ e _ xs=>.sl e (((xs.drop o).take n).map λx=>B5 (x.aV.map (iE fr hp k)))
   |_=>.undef
  |p=>p
def nw(fr:Fr):Nat->PV->List Nat
 |0,_=>[]
 | k+1,p=>match p with
  |.aD O _ _=>[O]
  |.aK γ o n=>match fr γ with
   |.aH _ _ _ xs=>γ::(((xs.drop o).take n).flatMap λx=>x.aV.flatMap (nw fr k))
   |_=>[]
  |_=>[]
def qY(fr:Fr):Nat->PV->Prop
 |0,p=>match p with
  |.undef| .aD _ _ _| .aK _ _ _=>False
  |_=>True
 | k+1,p=>match p with
  |.undef=>False
  |.aD O _ _=>aP O=false
  |.aK γ o n=>match fr γ with
   |.aH bo _ _ xs=>bo=γ/\aP γ=false/\o+n<=xs.length/\∀x∈(xs.drop o).take n,∀c∈x.aV,qY fr k c
   |_=>False
  |_=>True
def alm(h:Qt C ρ fr hp tmps w){O b:Nat}{l:List Nat}(hB:aP O=false)(ao:hp O=some hb)(hl:O∈l)(bT:ρ O=some b):¬aM C ρ (Qu hp l) b:=by
 have bu:=(h.own O hb ao).du;rw[bT]at bu;rintro(hx|⟨γ,hg,h1,h2,h3⟩)
 .exact Ctx.Ik bu.1 (AU hB) hx
 .obtain⟨rS,g1,_,_,_,_,g6⟩:=Cu h1;have:=h.inj γ O b (by simp[g1]) (by simp[ao]) h3 bT;subst this;exact g6 h2 hl
def ahu(h:∀c∈cs,c.cells=[c]):(B5 cs).cells=cs:=by
 match cs,h with
 | [],_=>rfl
 | [c],h=>exact h c (by simp)
 |_::_::_,_=>rfl
def Kl{tmps:Array Value}(h:Qt C ρ fr hp tmps w){l:List Nat}:∀(k:Nat) {p:PV} {v:Value},dx C ρ hp w p v->qY fr k p->(∀O∈nw fr k p,O∈l)->Qn w (aM C ρ (Qu hp l)) (iE fr hp k p) v
 |0,p,v,hr,ho,_=>by
  cases p with
  |undef=>cases ho
  |aD=>cases ho
  |aK=>cases ho
  |_=>exact Qn.freeze hr
 | k +1,p,v,hr,ho,hl=>by
  cases p with
  |undef=>cases ho
  |aD O o n=>
   obtain⟨hb,ao⟩:∃hb,hp O=some hb:=by obtain⟨_,hb,h1,_⟩:=hr;exact⟨hb,h1⟩
   have:=fV.snap h hr.2 ho (hl O (by simp[nw])) ao;simp only[iE,ao];exact this
  | aK γ o n=>
   simp only[qY]at ho;split at ho
   .rename_i bo e ty xs ak;obtain⟨rfl,hY,Ok,ho2⟩:=ho;have bm:=h.cQ bo;rw[ak]at bm;obtain⟨k0,he,b,hb,cur,cap,k1,k2,k3,k4,k5,k6,k7,k8,k9,se,ya⟩:=bm;obtain⟨_,hb2,b2,Ea,g1,g2,rfl,g4,g5,g6⟩:=hr;rw[k2]at g1;cases g1;rw[k1]at g2;cases g2;have eV:bo∈l:=hl bo (by simp[nw,ak]);have hX:=alm (l:=l) h hY k2 eV k1;have aA:=(Kbp.1 k6).1;obtain⟨cur',ty',d1,d2⟩:=g4;rw[k6]at d1;cases d1;rw[k4]at d2;have kB:cap=o+Ea:=KbB he (by rw[<-k7,<-d2]);have key:∀i (x:PV),((xs.drop o).take n)[i]? =some x->i<n/\xs[o+i]? =some x:=λi x hx=>by
     have hi:i<n:=by have:=(Kah.1 hx).1;simp at this;omega
     rw[KaM hi,Ka1]at hx;exact⟨hi,hx⟩
    have XD:∀i (x:PV),((xs.drop o).take n)[i]? =some x->∀j (y:PV),x.aV[j]? =some y->Qn w (aM C ρ (Qu hp l)) (iE fr hp k y) (cur.getD ((o+i)*e+j) undef):=λi x hx j y hy=>by
     have pN:=Kaj hx;refine Kl h k (ya (o+i) x (key i x hx).2 j y hy) (ho2 x pN y (Kaj hy)) λO ao=>hl O ?_
     simp only[nw,ak];exact Kbx _ (Kat.2 ⟨x,pN,Kat.2 ⟨y,Kaj hy,ao⟩⟩)
    have uH:∀i (x:PV),((xs.drop o).take n)[i]? =some x->(B5 (x.aV.map (iE fr hp k))).cells=x.aV.map (iE fr hp k):=λi x hx=>by
     refine ahu λc hc=>?_
     obtain⟨y,hy,rfl⟩:=KaD.1 hc;obtain⟨j,hj⟩:=KaI hy;exact(XD i x hx j y hj).uV.2.2
    simp only[iE,ak];have hlen:(((xs.drop o).take n).map λx=>B5 (x.aV.map (iE fr hp k))).length=n:=by simp;omega
    have:=Qn.sl (w:=w) (X:=aM C ρ (Qu hp l)) e (((xs.drop o).take n).map λx=>B5 (x.aV.map (iE fr hp k))) b (o*hb.e) Ea (λi j=>cur.getD ((o+i)*e+j) undef) hX aA Oz Oz
     (λi x hx=>by simp only[Kaw,Kaa]at hx;obtain⟨x0,bQ,rfl⟩:=hx;rw[uH i x0 bQ,KaC];exact se _ x0 (key i x0 bQ).2)
     (λi hi j hj=>by rw[hlen]at hi;rw[k4];have:=o6 (i:=o+i) (e:=e) (o:=0) (j:=j) (n:=e) (cap:=cap) Oz Oz hj;rw[KaW]at this;rw[show o*e+i*e+j=(o+i)*e+j by rw[KaL]];exact nC k6 (by rw[k7];exact this))
     (λi x hx j y hy=>by simp only[Kaw,Kaa]at hx;obtain⟨x0,bQ,rfl⟩:=hx;rw[uH i x0 bQ,Kaw,Kaa]at hy;obtain⟨y0,dZ,rfl⟩:=hy;exact XD i x0 bQ j y0 dZ)
    rw[hlen]at this;exact this
   .exact ho.elim
  |_=>exact Qn.freeze hr
def vJ(fr:Fr)(hp:HP)(k:Nat):PV->PV
 |.aU cs=>.agg (cs.map (iE fr hp k))
 |p=>iE fr hp k p
def xp(fr:Fr)(k:Nat):PV->List Nat
 |.aU cs=>cs.flatMap (nw fr k)
 |p=>nw fr k p
def Ai(fr:Fr)(k:Nat):PV->Prop
 |.aU cs=>∀c∈cs,qY fr k c
 |.aK γ o n=>qY fr k (.aK γ o n)
 |_=>False
def TL(s k:Nat)(ho:Ai fr k (fr s)):Wk fr hp (ae fr s (vJ fr hp k (fr s))) (Qu hp (xp fr k (fr s))):=by
 rintro C tmps w ⟨ρ,hs⟩;have hf:=hs.freeze (xp fr k (fr s));refine⟨ρ,hf.sz,hf.ext,hf.fG,hf.own,hf.inj,λi=>?_⟩;unfold ae;split
 .rename_i hi;subst hi;have bm:=hs.cQ i;generalize aB:fr i=p at *
  cases p with
  |aU cs=>obtain⟨vs,e1,h1,h2⟩:=bm;refine⟨vs,e1,by simpa using h1,λj x hj=>?_⟩;simp only[Kaw,Kaa]at hj;obtain⟨y,hy,rfl⟩:=hj;exact Kl hs k (h2 j y hy) (ho y (Kaj hy)) λO ao=>Kat.2 ⟨y,Kaj hy,ao⟩
  |aK γ o n=>have:=Kl (l:=nw fr k (.aK γ o n)) hs k (p:=.aK γ o n) bm ho (λO ao=>ao);exact Qj.n7 (bS.tC this)
  |_=>cases ho
 .exact hf.cQ i
end Go.FW
