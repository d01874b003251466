/- Part 2 of the proof of SquaresQuadratics: FwP, FwQ, FwR, FwS, FwT, FwU, FwV, FwW, FwX, FwY, FwZ, FwBA, FwBB, FwBC, FwBD, FwBE, FwBF, FwBG, FwBH, FwCA, FwCB, FwCC, FwCD, FwCE, FwCF, FwCG, FwCH, FwCI, FwCJ, FwCK, FwCL, FwMA, FwMB, FwMC, FwPA, FwPB, FwPC, FwSA, FwSB, FwSC, FwTA, FwSet, FwSt, FwUB, FwNA, FwNB, FwND. Own lemmas; no conditions. -/
import Derived.Test.YtkoclfmjlolkhaaGreatSquaresQuadraticsPart1
import Derived.LoopN
import Derived.ChangeSame
import Derived.ChangeStays
import Derived.Deep.Slices
import Derived.OpenShut
import Derived.RowKit
import Derived.ProofKit
import Derived.JoinedCond
set_option maxHeartbeats 1000000
set_option linter.unusedSimpArgs false
set_option linter.unusedVariables false
set_option linter.unnecessarySimpa false
set_option maxRecDepth 100000
namespace Go.FW
open Go
variable {C : Ctx} {ρ : Nat -> Option Nat} {fr : Fr} {hp : HP} {w : World} {a : Act} {K R : Qh}
structure Oo(C:Ctx)(R:Qh)(sk:List It)(Q:Exit->Act->World->Prop):Prop where
 uG:Next C (vc C R sk) Q
 ext:∀id fj,FW.cC id sk=some fj->∀fr hp (a:Act) w,a.defers=[]->ft C fr hp a.tmps w->vc C R fj fr hp->Q (.exit id) a w
 ret:∀fr hp (a:Act) w,a.defers=[]->ft C fr hp a.tmps w->R fr hp->Q .ret a w
theorem HW{sk:List It}{x y:SC}:vc C R (.c (.seq x y)::sk) fr hp=vc C R (.c x:: .c y::sk) fr hp:=by rw[vc]
theorem G9{sk:List It}{id:Nat}{x:SC}:vc C R (.c (.block id x)::sk) fr hp=vc C R (.c x:: .eb id::sk) fr hp:=by rw[vc]
theorem HG{sk:List It}:vc C R (.c .skip::sk) fr hp=vc C R sk fr hp:=by rw[vc]
theorem Kl{sk:List It}{r:RT}:vc C R (.c (.rg r)::sk) fr hp=vc C R (.o r::sk) fr hp:=by rw[vc]
theorem FV{sk:List It}{id:Nat}:vc C R (.eb id::sk) fr hp=vc C R sk fr hp:=by rw[vc]
theorem yI{sk:List It}{J:Qh}:vc C R (.el J::sk) fr hp=J fr hp:=by rw[vc]
theorem HX{sk:List It}:vc C R (.c .ret::sk) fr hp=R fr hp:=by rw[vc]
theorem wN:vc C R [] fr hp=R fr hp:=by rw[vc]
def tQ(c:PV)(A B:Prop):Prop:=match c with
 |.bool t=>(t=true->A)/\(t=false->B)
 |_=>False
theorem HH{sk:List It}{c:aX}{x y:SC}:vc C R (.c (.cond c x y)::sk) fr hp=tQ (ev fr c) (vc C R (.c x::sk) fr hp) (vc C R (.c y::sk) fr hp):=by rw[vc];rfl
def yJ(C:Ctx)(R:Qh)(sk:Option (List It))(fr:Fr)(hp:HP):Prop:=match sk with
 |some sk=>vc C R sk fr hp
 |none=>False
theorem HI{sk:List It}{id:Nat}:vc C R (.c (.exit id)::sk) fr hp=yJ C R (FW.cC id sk) fr hp:=by
 rw[vc];unfold yJ;split
 ·rename_i h;rw[h]
 ·rename_i h;rw[h]
theorem Aq{sk:List It}{x:SC}:vc C R (.c (.loop x)::sk) fr hp=∃(I:Qh)(μ:Fr->HP->Nat),(∃bU aA,Wk fr hp bU aA/\I bU aA)/\∀fr hp,I fr hp->vc C R (.c x:: .el (fun aG hp'=>∃bU aA,Wk aG hp' bU aA/\I bU aA/\μ bU aA<μ fr hp)::sk) fr hp:=by rw[vc]
theorem Wk.refl(fr:Fr)(hp:HP):Wk fr hp fr hp:=fun _ _ _ h=>h
theorem Wk.trans{sV gJ H8:Fr}{jn cz rX:HP}(h:Wk sV jn gJ cz)(k:Wk gJ cz H8 rX):Wk sV jn H8 rX:=fun C t w hs=>k C t w (h C t w hs)
def Bj(I:Qh)(μ:Fr->HP->Nat)(n:Nat):Qh:=fun aG hp'=>∃bU aA,Wk aG hp' bU aA/\I bU aA/\μ bU aA<n
theorem af1{sk:List It}{x:SC}(I:Qh)(μ:Fr->HP->Nat){bU:Fr}{aA:HP}(hw:Wk fr hp bU aA)(h0:I bU aA)(h:∀fr hp,I fr hp->vc C R (.c x:: .el (Bj I μ (μ fr hp))::sk) fr hp):vc C R (.c (.loop x)::sk) fr hp:=by rw[Aq];exact⟨I,μ,⟨bU,aA,hw,h0⟩,h⟩
theorem acE{s:SC}(h:s.strip= .skip):s= .skip:=by cases s<;>simp[SC.strip]at h⊢
theorem aef{s:SC}(h:s.strip= .ret):s= .ret:=by cases s<;>simp[SC.strip]at h⊢
theorem acF{s:SC}{id:Nat}(h:s.strip= .exit id):s= .exit id:=by cases s<;>simp[SC.strip]at h ⊢;exact h
theorem aeg{s:SC}{id:Nat}{ops:Array Oper}(h:s.strip= .raw id ops):s= .raw id ops:=by cases s<;>simp[SC.strip]at h ⊢;exact h
theorem aeh{s a b:SC}(h:s.strip= .seq a b):∃a' b',s= .seq a' b'/\a'.strip=a/\b'.strip=b:=by cases s<;>simp[SC.strip]at h;exact⟨_,_,rfl,h.1,h.2⟩
theorem acG{s a b:SC}{c:aX}(h:s.strip= .cond c a b):∃a' b',s= .cond c a' b'/\a'.strip=a/\b'.strip=b:=by
 cases s with
 |cond c' a' b'=>simp only[SC.strip,SC.cond.injEq]at h;obtain⟨rfl,h1,h2⟩:=h;exact⟨a',b',rfl,h1,h2⟩
 |_=>simp[SC.strip]at h
theorem Q9n{s a:SC}{id:Nat}(h:s.strip= .block id a):∃a',s= .block id a'/\a'.strip=a:=by
 cases s with
 |block c' a'=>simp only[SC.strip,SC.block.injEq]at h;obtain⟨rfl,h1⟩:=h;exact⟨a',rfl,h1⟩
 |_=>simp[SC.strip]at h
theorem acH{s a:SC}(h:s.strip= .loop a):∃a',s= .loop a'/\a'.strip=a:=by
 cases s with
 |loop a'=>simp only[SC.strip,SC.loop.injEq]at h;exact⟨a',rfl,h⟩
 |_=>simp[SC.strip]at h
theorem KP(hm:C.P.follows .mixedOrders=true):∀(c:Code)(s:SC)(sk:List It)(Q:Exit->Act->World->Prop)(fr:Fr)(hp:HP)(a:Act)(w:World),
  gD C.P C.N c=some s.strip->Oo C R sk Q->a.defers=[]->ft C fr hp a.tmps w->vc C R (.c s::sk) fr hp->c.wp C.P Q a w:=by
 intro c;induction c with
 |skip=>intro s sk Q fr hp a w hc hL hd hs hv;simp only[gD,KaH]at hc;obtain rfl:=acE hc.symm;rw[HG]at hv;exact wp_skip (hL.uG fr hp a w hd hs hv)
 | region id ops draw=>
  intro s sk Q fr hp a w hc hL hd hs hv;simp only[gD]at hc;split at hc
  ·rename_i s' fA;rw[hc]at fA;exact Q6a hm hL.uG fA hd hs hv
  ·split at hc
   ·rename_i xA;obtain rfl:=aeg (KbM hc).symm;have ate:draw=true:=xA;subst ate;rw[vc]at hv;obtain⟨tmps,defers⟩:=a;simp only at hd hs;subst hd;exact hv tmps w Q hs (fun aG hp' FE w' fA re=>hL.uG aG hp' _ w' rfl fA re)
   ·cases hc
 |seq x y nj zW=>
  intro s sk Q fr hp a w hc hL hd hs hv;simp only[gD,Kab,Kaa]at hc;obtain⟨sx,hx,sy,hy,he⟩:=hc;obtain⟨sx,sy,rfl,rfl,rfl⟩:=aeh he.symm;rw[HW]at hv;refine wp_seq (nj sx (.c sy::sk) _ fr hp a w hx ⟨fun fr hp a w hd hs hv=>?_,fun id fj he fr hp a w hd hs hv=>?_,fun fr hp a w hd hs hv=>?_⟩ hd hs hv)
  ·exact zW sy sk Q fr hp a w hy hL hd hs hv
  ·exact hL.ext id fj (by simpa[FW.cC]using he) fr hp a w hd hs hv
  ·exact hL.ret fr hp a w hd hs hv
 | cond c x y nj zW=>
  intro s sk Q fr hp a w hc hL hd hs hv;simp only[gD,Kab,Kaa]at hc;obtain⟨pc,iu,sx,hx,sy,hy,he⟩:=hc;obtain⟨sx,sy,rfl,rfl,rfl⟩:=acG he.symm;rw[HH]at hv;obtain⟨ρ,kE⟩:=hs;have hr:=cR kE iu;unfold tQ at hv;split at hv
  ·rename_i t ht;rw[ht]at hr;exact wp_cond_split hr.Bs (fun h=>nj sx sk Q fr hp a w hx hL hd ⟨ρ,kE⟩ (hv.1 h)) (fun h=>zW sy sk Q fr hp a w hy hL hd ⟨ρ,kE⟩ (hv.2 h))
  ·exact hv.elim
 | block id x nj=>
  intro s sk Q fr hp a w hc hL hd hs hv;simp only[gD,Kaa]at hc;obtain⟨sx,hx,he⟩:=hc;obtain⟨sx,rfl,rfl⟩:=Q9n he.symm;rw[G9]at hv;refine wp_block (nj sx (.eb id::sk) _ fr hp a w hx ⟨fun fr hp a w hd hs hv=>?_,fun ZO fj he fr hp a w hd hs hv=>?_,fun fr hp a w hd hs hv=>?_⟩ hd hs hv)
  ·rw[FV]at hv;exact hL.uG fr hp a w hd hs hv
  ·simp only[FW.cC]at he;simp only[Exit.inBlock];by_cases hi:id=ZO
   ·subst hi;simp only[if_true]at he ⊢;cases he;exact hL.uG fr hp a w hd hs hv
   ·rw[if_neg hi]at he;rw[if_neg (fun e=>hi e.symm)];exact hL.ext ZO fj he fr hp a w hd hs hv
  ·exact hL.ret fr hp a w hd hs hv
 | loop x nj=>
  intro s sk Q fr hp a w hc hL hd hs hv;simp only[gD,Kaa]at hc;obtain⟨sx,hx,he⟩:=hc;obtain⟨sx,rfl,rfl⟩:=acH he.symm;rw[Aq]at hv;obtain⟨I,μ,⟨bU,aA,hwk,h0⟩,at8⟩:=hv;have key:∀(n:Nat)(fr:Fr)(hp:HP)(a:Act)(w:World),μ fr hp<n->I fr hp->a.defers=[]->ft C fr hp a.tmps w->Code.rounds C.P x Q n a w:=by
   intro n;induction n with
   |zero=>intro _ _ _ _ h;omega
   | succ n ih=>
    intro fr hp a w aw hI hd hs;rw[rounds_succ];refine nj sx _ _ fr hp a w hx ⟨fun aG hp' a' w' zo fA re=>?_,fun id fj he fr hp a w hd hs hv=>?_,fun fr hp a w hd hs hv=>?_⟩ hd hs (at8 fr hp hI)
    ·rw[yI]at re;obtain⟨gJ,cz,IY,hI2,zA⟩:=re;exact ih gJ cz a' w' (by omega) hI2 zo (IY _ _ _ fA)
    ·exact hL.ext id fj (by simpa[FW.cC]using he) fr hp a w hd hs hv
    ·exact hL.ret fr hp a w hd hs hv
  exact wp_loop_rounds (μ bU aA+1) (key _ bU aA a w (Nat.lt_succ_self _) h0 hd (hwk _ _ _ hs))
 | exit id=>
  intro s sk Q fr hp a w hc hL hd hs hv;simp only[gD,KaH]at hc;obtain rfl:=acF hc.symm;rw[HI]at hv;unfold yJ at hv;split at hv
  ·rename_i fj he;exact wp_exit (hL.ext id fj he fr hp a w hd hs hv)
  ·exact hv.elim
 |ret=>intro s sk Q fr hp a w hc hL hd hs hv;simp only[gD,KaH]at hc;obtain rfl:=aef hc.symm;rw[HX]at hv;exact wp_ret (hL.ret fr hp a w hd hs hv)
 |_=>intro s sk Q fr hp a w hc;simp[gD]at hc
theorem K5(hm:C.P.follows .mixedOrders=true)(c:Code)(s:SC)(sk:List It)(Q:Exit->Act->World->Prop)(fr:Fr)(hp:HP)(a:Act)(w:World)
  (hc:gD C.P C.N c=some s) (hL:Oo C R sk Q) (hd:a.defers=[]) (hs:ft C fr hp a.tmps w) (hv:vc C R (.c s::sk) fr hp):c.wp C.P Q a w:=
 KP hm c s sk Q fr hp a w (by rw[UA _ _ hc];exact hc) hL hd hs hv
def PV.oa:PV->PV->Prop
 |.au,.sl _ []=>True
 |p,q=>p=q
def PV.BZ:List PV->List PV->Prop
 | [],[]=>True
 |p::ps,q::qs=>PV.oa p q/\PV.BZ ps qs
 |_,_=>False
def PV.le:PV->PV->Prop
 |.agg ps,.agg qs=>PV.BZ ps qs
 |p,q=>PV.oa p q
def PV.Fo:List PV->List PV->Prop
 | [],[]=>True
 |p::ps,q::qs=>PV.le p q/\PV.Fo ps qs
 |_,_=>False
def PV.zX:PV->PV->Prop
 |.aH ps,.aH qs=>PV.Fo ps qs
 |p,q=>PV.le p q
theorem AF(p:PV):PV.oa p p:=by cases p<;>first|rfl|(unfold PV.oa;split<;>trivial)
theorem QC:∀(l:List PV),PV.BZ l l
 | []=>trivial
 |p::ps=>⟨AF p,QC ps⟩
theorem Ql(p:PV):PV.le p p:=by cases p<;>first|exact QC _|(simp only[PV.le];exact AF _)
theorem QD:∀(l:List PV),PV.Fo l l
 | []=>trivial
 |p::ps=>⟨Ql p,QD ps⟩
theorem af2(p:PV):PV.zX p p:=by cases p<;>first|exact QD _|(simp only[PV.zX];exact Ql _)
theorem Qu.le{X:Nat->Prop}{p q:PV}{v:Value}(h:Qu w X p v)(hl:PV.oa p q):Qu w X q v:=by
 unfold PV.oa at hl;split at hl
 ·cases h;exact .oS _ _ _ (Kbz _)
 ·subst hl;exact h
theorem RY:∀(ps qs:List PV),PV.BZ ps qs->qs.length=ps.length/\∀(i:Nat)(q:PV),qs[i]? =some q->∃p,ps[i]? =some p/\PV.oa p q
 | [],[],_=>⟨rfl,by simp⟩
 | [],_::_,h=>h.elim
 |_::_,[],h=>h.elim
 |p::ps,q::qs,h=>by
  obtain⟨h1,h2⟩:=RY ps qs h.2;refine⟨by simp[h1],fun i x hx=>?_⟩;cases i with
  |zero=>simp at hx;subst hx;exact⟨p,rfl,h.1⟩
  |succ i=>simp at hx;simpa using h2 i x hx
theorem Js:∀(ps qs:List PV),PV.Fo ps qs->qs.length=ps.length/\∀(i:Nat)(q:PV),qs[i]? =some q->∃p,ps[i]? =some p/\PV.le p q
 | [],[],_=>⟨rfl,by simp⟩
 | [],_::_,h=>h.elim
 |_::_,[],h=>h.elim
 |p::ps,q::qs,h=>by
  obtain⟨h1,h2⟩:=Js ps qs h.2;refine⟨by simp[h1],fun i x hx=>?_⟩;cases i with
  |zero=>simp at hx;subst hx;exact⟨p,rfl,h.1⟩
  |succ i=>simp at hx;simpa using h2 i x hx
theorem bT.le{X:Nat->Prop}{p q:PV}{v:Value}(h:bT w X p v)(hl:PV.le p q):bT w X q v:=by
 by_cases hp:∃ps,p= .agg ps
 ·obtain⟨ps,rfl⟩:=hp;by_cases hq:∃qs,q= .agg qs
  ·obtain⟨qs,rfl⟩:=hq;obtain⟨h1,h2⟩:=RY ps qs hl;obtain⟨vs,rfl,g1,g2⟩:=h;refine⟨vs,rfl,by omega,fun i x hx=>?_⟩;obtain⟨p,hp,hle⟩:=h2 i x hx;exact(g2 i p hp).le hle
  ·have:PV.oa (.agg ps) q:=by cases q<;>first|exact hl|exact absurd ⟨_,rfl⟩ hq
   have:q= .agg ps:=by
    unfold PV.oa at this;split at this
    ·rename_i h1;cases h1
    ·exact this.symm
   exact absurd ⟨_,this⟩ hq
 ·have h1:Qu w X p v:=by cases p<;>first|exact h|exact absurd ⟨_,rfl⟩ hp
  have h2:PV.oa p q:=by cases p<;>first|exact hl|exact absurd ⟨_,rfl⟩ hp
  exact bT.tB (h1.le h2)
theorem fE.le{X:Nat->Prop}{p q:PV}{v:Value}(h:fE w X p v)(hl:PV.zX p q):fE w X q v:=by
 by_cases hp:∃ps,p= .aH ps
 ·obtain⟨ps,rfl⟩:=hp;by_cases hq:∃qs,q= .aH qs
  ·obtain⟨qs,rfl⟩:=hq;obtain⟨h1,h2⟩:=Js ps qs hl;obtain⟨vs,rfl,g1,g2⟩:=h;refine⟨vs,rfl,by omega,fun i x hx=>?_⟩;obtain⟨p,hp,hle⟩:=h2 i x hx;exact(g2 i p hp).le hle
  ·have:PV.le (.aH ps) q:=by cases q<;>first|exact hl|exact absurd ⟨_,rfl⟩ hq
   have:PV.oa (.aH ps) q:=this;have:q= .aH ps:=by
    unfold PV.oa at this;split at this
    ·rename_i h1;cases h1
    ·exact this.symm
   exact absurd ⟨_,this⟩ hq
 ·have h1:bT w X p v:=by cases p<;>first|exact h|exact absurd ⟨_,rfl⟩ hp
  have h2:PV.le p q:=by cases p<;>first|exact hl|exact absurd ⟨_,rfl⟩ hp
  exact fE.ZV (h1.le h2)
def sM (P : Program) (f : FuncId) : Prop := (P.funcs[f]?).any (fun fn => fn.body.isSome && fn.name != "runtime.NumGoroutine") = true
def Qd(P:Program)(f:FuncId)(args:List PV)(R:PV->Prop):Prop:=
 sM P f/\∀(w:World)(X:Nat->Prop)(bC:Array Value),(∀b,X b->b<w.heap.size)->bC.size=args.length->(∀(i:Nat)(x:PV),args[i]? =some x->bT w X x (bC.getD i undef))->
  Calls P f bC w fun e w'=>∃v r,e= .returned v/\Ext eP w w'/\fE w' X r v/\R r
theorem Qd.mono{P:Program}{f:FuncId}{args:List PV}{R R':PV->Prop}(h:Qd P f args R)(hr:∀r,R r->R' r):Qd P f args R':=
 ⟨h.1,fun w X bC h1 h2 h3=>(h.2 w X bC h1 h2 h3).mono fun _ _ ⟨v,r,e1,e2,e3,e4⟩=>⟨v,r,e1,e2,e3,hr r e4⟩⟩
theorem Qd.le{P:Program}{f:FuncId}{args args':List PV}{R:PV->Prop}(h:Qd P f args R)(hl:PV.Fo args' args):Qd P f args' R:=by obtain⟨h1,h2⟩:=Js _ _ hl;refine⟨h.1,fun w X bC g1 g2 g3=>h.2 w X bC g1 (by omega) (fun i x hx=>?_)⟩;obtain⟨p,hp,hle⟩:=h2 i x hx;exact(g3 i p hp).le hle
def lE(args:List PV):Fr:=fun i=>(args[i]?).getD .undef
def oe(fr:Fr)(hp:HP):RV->Prop
 |.t s=>(aU hp (fr s)).aN=true
 |.cell s n ag=>match fr s with
  |.mp β i o=>match hp β with
   |some hb=>i<hb.xs.length/\o+n<=hb.e/\(ag=false->n=1)
   |none=>False
  |_=>False
def nr(fr:Fr)(hp:HP):RV->PV
 |.t s=>aU hp (fr s)
 |.cell s n ag=>match fr s with
  |.mp β i o=>match hp β with
   |some hb=>fB ag n o ((hb.xs[i]?).getD .undef)
   |none=>.undef
  |_=>.undef
def gm(rs:List RV)(R:PV->Prop):Qh:=fun fr hp=>match rs with
 | [r]=>oe fr hp r/\∃p,PV.le (nr fr hp r) p/\R p
 |rs=>(∀r∈rs,oe fr hp r)/\∃p,PV.zX (.aH (rs.map (nr fr hp))) p/\R p
def qF(tmps:Array Value):ResultVar->Sem Value
 |.tmp t=>pure (tmps.getD t undef)
 |.cell x t=>do loadVar t (<-asAddr (tmps.getD x undef))
def lr(fr:Fr):RV->List Nat
 |.t s=>(fr s).refs
 |.cell _ _ _=>[]
theorem QE{l l':List Nat}(h:∀β∈l,β∈l'){b:Nat}(hx:aK C ρ (bW hp l') b):aK C ρ (bW hp l) b:=by
 rcases hx with hx|⟨γ,hg,h1,h2,h3⟩
 ·exact .inl hx
 ·obtain⟨rT,g1,_,_,_,g5,g6⟩:=Ck h1;refine .inr ⟨γ,rT,?_,by rw[<-g5 h2];exact h2,h3⟩;have hn:γ ∉ l:=fun hl=>g6 h2 (h γ hl);unfold bW;rw[if_neg (by simpa using hn)];exact g1
theorem VB:bW hp []=hp:=by funext β;simp[bW]
theorem acI{p:PV}(h:(aU hp p).aN=true):∀β∈p.refs,aR β=false:=by
 have h1:∀q:PV,(cZ hp q).ki=true->∀β∈q.cn,aR β=false:=by
  intro q hq β ae;cases q with
  |mp γ i o=>simp only[PV.cn,Kau]at ae;subst ae;cases hy:aR β with
   |false=>rfl
   |true=>simp[cZ,hy,PV.ki]at hq
  |aB γ o n=>simp only[PV.cn,Kau]at ae;subst ae;cases hy:aR β with
   |false=>rfl
   |true=>simp[cZ,hy,PV.ki]at hq
  |rb=>simp[cZ,PV.ki]at hq
  |_=>cases ae
 intro β ae;cases p with
 |mp γ i o=>exact h1 (.mp γ i o) (by cases hq:cZ hp (.mp γ i o)<;>simp_all[aU,PV.aN,PV.ki]) β ae
 |aB γ o n=>exact h1 (.aB γ o n) (by cases hq:cZ hp (.aB γ o n)<;>simp_all[aU,PV.aN,PV.ki]) β ae
 |rb=>simp[aU,cZ,PV.aN]at h
 |fn f first cap=>
  simp only[aU,PV.aN,KaC,List.all_map,Kax]at h;rcases KaL.1 ae with ae|ae
  ·obtain⟨x,hx,ae⟩:=Kat.1 ae;exact h1 x (h.1 x hx) β ae
  ·obtain⟨x,hx,ae⟩:=Kat.1 ae;exact h1 x (h.2 x hx) β ae
 |_=>cases ae
theorem aoG{rv:RV}(h:oe fr hp rv):∀β∈lr fr rv,aR β=false:=by
 cases rv with
 |t s=>exact acI h
 |cell=>intro β ae;cases ae
theorem af3{P:Program}(hP:C.P=P){r:ResultVar}{rv:RV}(hc:kK P r=some rv)(h:Qv C ρ fr hp a.tmps w)(ho:oe fr hp rv):
  ∃v,(qF a.tmps r).run P w= .ok v w/\bT w (aK C ρ (bW hp (lr fr rv))) (nr fr hp rv) v:=by
 subst hP;cases r with
 |tmp t=>simp[kK]at hc;subst hc;exact⟨_,rfl,tH h (h.cN t) (fun β ae=>ae) ho⟩
 | cell x t=>
  simp only[kK,Kab,Kaa]at hc;obtain⟨n,hn,ag,kU,rfl⟩:=hc;have hx:=h.cN x;simp only[oe]at ho;split at ho
  ·rename_i β i o qS;rw[qS]at hx;split at ho
   ·rename_i hb ae;obtain⟨h1,h2,h3⟩:=ho;obtain⟨b,hb2,g1,g2,g3⟩:=hx.B3;rw[ae]at g2;cases g2;have bE:=h.own β hb ae;have bl:=bE.dd;rw[g1]at bl;obtain⟨_,nU,cur,cap,c1,c2,c3,c4,c5⟩:=bl;have gR:=Kag h1;have kV:=(bE.len i _ gR).1;have eD:i<cap:=by omega
    have tf:∀j,j<n->i*hb.e+o+j<cur.size:=fun j hj=>by rw[c2];exact qx eD h2 hj
    have cH:=Gh (P:=C.P) (t:=t) (b:=b) (off:=i*hb.e+o) (vs:=Array.ofFn (n:=n) fun j=>cur.getD (i*hb.e+o+j.val) undef) hn kU h3 (by simp) w
     (fun j hj=>by rw[wu (f:=fun j=>cur.getD (i*hb.e+o+j) undef) hj];exact og c1 (tf j hj))
    obtain⟨V,hV⟩:∃V:Value,V=(if ag then .agg (Array.ofFn (n:=n) fun j=>cur.getD (i*hb.e+o+j.val) undef)else(Array.ofFn (n:=n) fun j=>cur.getD (i*hb.e+o+j.val) undef).getD 0 undef):=⟨_,rfl⟩
    rw[<-hV]at cH;refine⟨V,?_,?_⟩
    ·simp only[qF,g3,asAddr,Kar,Ka3,Kan];exact cH
    ·have:bT w (aK C ρ hp) (fB ag n o (hb.xs[i]'h1)) (if ag then .agg (Array.ofFn (n:=n) fun j=>cur.getD (i*hb.e+o+j.val) undef)else(Array.ofFn (n:=n) fun j=>cur.getD (i*hb.e+o+j.val) undef).getD 0 undef):=
      Dk (by simp) (by rw[kV];exact h2) h3 (fun j y hj hy=>by rw[wu (f:=fun j=>cur.getD (i*hb.e+o+j) undef) hj,Kco];exact c5 i _ gR (o+j) y hy)
     simp only[nr,qS,ae,gR,Kbb];rw[hV];simp only[lr,VB];exact this
   ·exact ho.elim
  ·exact ho.elim
theorem OP{P:Program}(hP:C.P=P)(h:Qv C ρ fr hp a.tmps w):∀(rl:List ResultVar)(rs:List RV),rl.mapM (kK P)=some rs->(∀r∈rs,oe fr hp r)->
  ∃vs:List Value,vs.length=rs.length/\(rl.mapM (qF a.tmps)).run P w= .ok vs w/\∀(i:Nat)(r:RV),rs[i]? =some r->∃v,vs[i]? =some v/\bT w (aK C ρ (bW hp (rs.flatMap (lr fr)))) (nr fr hp r) v
 | [],rs,hc,_=>by simp at hc;subst hc;exact⟨[],rfl,by simp,by simp⟩
 | x::rl,rs,hc,ho=>by
  rw[KcD]at hc;simp only[Kce,KcH,Kab,KaH]at hc;obtain⟨r,hr,Oi,dt,rfl⟩:=hc;obtain⟨v,h1,h2⟩:=af3 hP hr h (ho r (by simp));obtain⟨vs,g1,g2,g3⟩:=OP hP h rl Oi dt (fun q hq=>ho q (by simp[hq]));refine⟨v::vs,by simp[g1],by simp[KcD,Kar,h1,g2],fun i q hq=>?_⟩;cases i with
  |zero=>simp at hq;subst hq;exact⟨v,rfl,h2.mono (fun _ _ _=>rfl) (fun _ _ hn hx=>hn (QE (fun β ae=>by rw[Kav];exact Kcn _ ae) hx)) (Kae _)⟩
  |succ i=>simp at hq;obtain⟨v',k1,k2⟩:=g3 i q hq;exact⟨v',by simpa using k1,k2.mono (fun _ _ _=>rfl) (fun _ _ hn hx=>hn (QE (fun β ae=>by rw[Kav];exact KbI _ ae) hx)) (Kae _)⟩
theorem K6{P:Program}(hP:C.P=P){fn:Func}{rs:List RV}{Rr:PV->Prop}(hc:fn.results.toList.mapM (kK P)=some rs)(h:Qv C ρ fr hp a.tmps w)(hr:gm rs Rr fr hp):
  ∃v r,(results fn a.tmps).run P w= .ok v w/\fE w (aK C ρ (bW hp (rs.flatMap (lr fr)))) r v/\(∀β∈rs.flatMap (lr fr),aR β=false)/\Rr r:=by
 have cU:(∀r∈rs,oe fr hp r):=by
  intro r cM
  match rs,hr,cM with
  | [r0],hr,cM=>simp at cM;subst cM;exact hr.1
  | [],hr,cM=>cases cM
  |r0::r1::rest,hr,cM=>exact hr.1 r cM
 have hN:∀β∈rs.flatMap (lr fr),aR β=false:=fun β ae=>by obtain⟨r,hr,ae⟩:=Kat.1 ae;exact aoG (cU r hr) β ae
 obtain⟨vs,hlen,cH,BS⟩:=OP hP h _ rs hc cU;have gP:(results fn a.tmps).run P w= .ok (if h:vs.toArray.size=1 then vs.toArray[0]else .tuple vs.toArray) w:=by
  have e:results fn a.tmps=(do let vs<-fn.results.mapM (qF a.tmps);pure (if h:vs.size=1 then vs[0]else .tuple vs)):=rfl;rw[e,KbN];simp only[Kar];have h2:(List.toArray<$>fn.results.toList.mapM (qF a.tmps):Sem (Array Value)).run P w= .ok vs.toArray w:=by simp[cH]
  rw[h2];rfl
 match rs,hr,hlen,BS,hN with
 | [r0],hr,hlen,BS,hN=>
  have h1:vs.toArray.size=1:=by simpa using hlen
  rw[dif_pos h1]at gP;obtain⟨v,h2,h3⟩:=BS 0 r0 rfl;have e:vs.toArray[0]=v:=by
   have:vs[0]? =some (vs.toArray[0]):=by simp[hlen]
   rw[h2]at this;exact(KbM this).symm
  rw[e]at gP;obtain⟨_,p,hle,Ek⟩:=hr;exact⟨_,_,gP,fE.ZV (h3.le hle),hN,Ek⟩
 | [],hr,hlen,BS,hN=>
  have h1:¬vs.toArray.size=1:=by simp[hlen]
  rw[dif_neg h1]at gP;obtain⟨_,p,hle,Ek⟩:=hr;exact⟨_,_,gP,fE.le (p:=.aH []) ⟨vs.toArray,rfl,by simp[hlen],by simp⟩ hle,hN,Ek⟩
 |r0::r1::rest,hr,hlen,BS,hN=>
  have h1:¬vs.toArray.size=1:=by simp[hlen]
  rw[dif_neg h1]at gP;obtain⟨_,p,hle,Ek⟩:=hr;refine⟨_,_,gP,fE.le (p:=.aH ((r0::r1::rest).map (nr fr hp))) ⟨vs.toArray,rfl,by simp[hlen],fun i x hx=>?_⟩ hle,hN,Ek⟩;simp only[Kas,Kaa]at hx;obtain⟨rv,hrv,rfl⟩:=hx;obtain⟨v,h2,h3⟩:=BS i rv hrv;rw[yf,Kad,h2];exact h3
theorem OQ{P:Program}(hP:C.P=P){fn:Func}{rs:List RV}{Rr:PV->Prop}(hc:fn.results.toList.mapM (kK P)=some rs)(h:Qv C ρ fr hp a.tmps w)(hr:gm rs Rr fr hp):
  ∃v r,(results fn a.tmps).run P w= .ok v w/\fE w C.X0 r v/\Rr r:=by
 obtain⟨v,r,h1,h2,_,h3⟩:=K6 hP hc h hr;exact⟨v,r,h1,h2.mono (fun _ _ _=>rfl) (fun _ _ hn hx=>hn (.inl hx)) (Kae _),h3⟩
theorem acJ{P:Program}(hP:C.P=P){fn:Func}{rs:List RV}{Rr:PV->Prop}(hc:fn.results.toList.mapM (kK P)=some rs)(h:Qv C ρ fr hp a.tmps w)(hr:gm rs Rr fr hp)
  {X:Nat->Prop} (hX:∀c,X c->C.X0 c∨∃β hb,aR β=true/\hp β=some hb/\hb.fz=false/\ρ β=some c):
  ∃v r,(results fn a.tmps).run P w= .ok v w/\fE w X r v/\Rr r:=by
 obtain⟨v,r,h1,h2,h3,h4⟩:=K6 hP hc h hr;refine⟨v,r,h1,h2.mono (fun _ _ _=>rfl) (fun c _ hn hx=>hn ?_) (Kae _),h4⟩;rcases hX c hx with hx|⟨β,hb,k1,k2,k3,k4⟩
 ·exact .inl hx
 ·refine .inr ⟨β,hb,?_,k3,k4⟩;have hn:β ∉ rs.flatMap (lr fr):=fun hl=>by rw[h3 β hl]at k1;cases k1
  unfold bW;rw[if_neg (by simpa using hn)];exact k2
theorem af4 {P : Program} {f : FuncId} {fn : Func} {sf : ay} {args : List PV} {Rr : PV -> Prop} (hm : P.follows .mixedOrders = true) (hf : P.funcs[f]? = some fn) (qU : (fn.name != "runtime.NumGoroutine") = true) (hc : Qe P fn = some sf) (hn : args.length <= sf.n /\ sf.n <= 1000000)
  (hv:∀C:Ctx,C.P=P->vc C (gm sf.rs Rr) [.c sf.body] (lE args) aA):Qd P f args Rr:=by
 simp only[Qe,Kab,Kaa]at hc;obtain⟨c,hb,sb,kB,rs,dt,rfl⟩:=hc;refine⟨by simp[sM,hf,hb];simpa using qU,fun w X bC hX dM iF=>?_⟩
 let C:Ctx:=Ctx.plain P fn.ntmps w X hX hn.2
 refine calls_of_wp hf hb ?_;have uA:(bC++Array.replicate (fn.ntmps-bC.size) undef).size=fn.ntmps:=by simp at hn ⊢;omega
 have oO:ft C (lE args) aA (bC++Array.replicate (fn.ntmps-bC.size) undef) w:=by
  refine⟨fun _=>none,uA,Ext.refl _ _,(fun _ _ h=>by cases h),by simp[aA],by simp[aA],fun i=>?_⟩;unfold lE;cases hi:args[i]? with
  |none=>trivial
  | some p=>
   simp only[Kbb];have jY:i<bC.size:=by rw[dM];exact(Kaf.1 hi).1
   have hr:=iF i p hi;have e:(bC++Array.replicate (fn.ntmps-bC.size) undef).getD i undef=bC.getD i undef:=by rw[mK,if_pos jY]
   rw[e];refine Qn.oc (hr.mono (fun _ _ _=>rfl) (fun b _ hn hx=>?_) (Kae _));rcases hx with hx|⟨_,_,h1,_⟩
   ·exact hn hx
   ·simp[aA]at h1
 have fin:∀(fr:Fr)(hp:HP)(a:Act)(w':World),a.defers=[]->ft C fr hp a.tmps w'->gm rs Rr fr hp->
   a.defers=[]/\∃v,(results fn a.tmps).run P w'= .ok v w'/\∃v' r,Ending.returned v= .returned v'/\Ext eP w w'/\fE w' X r v'/\Rr r:=by
  intro fr hp a w' hd ⟨ρ,hs⟩ hr;obtain⟨v,r,h1,h2,h3⟩:=OQ (C:=C) rfl dt hs hr;exact⟨hd,v,h1,v,r,rfl,Ctx.Jc hs.ext,h2,h3⟩
 exact K5 (C:=C) (R:=gm rs Rr) hm c sb [] _ (lE args) aA _ w kB ⟨fun fr hp a w' hd hs hv=>(by rw[wN]at hv;exact fin fr hp a w' hd hs hv),fun id fj he=>(by simp[FW.cC]at he),fin⟩ rfl oO (hv C rfl)
end Go.FW
namespace Go.FW
open Go
variable {C : Ctx} {ρ : Nat -> Option Nat} {fr : Fr} {hp : HP} {w : World} {a : Act} {K R : Qh}
def dv(fr:Fr)(d:Option Nat)(r:PV):Fr:=match d with|some d=>af fr d r|none=>fr
theorem Qn.Jb{p:PV}{v:Value}(h:fE w (aK C ρ hp) p v):Qn C ρ hp w p v:=by
 cases p with
 |aH ps=>exact h
 |_=>exact Qn.oc h
theorem DD{tmps:Array Value}(h:Qv C ρ fr hp tmps w):∀b,aK C ρ hp b->b<w.heap.size:=by
 rintro b (hx|⟨β,hb,h1,_,h3⟩)
 ·exact Kby (C.Es b hx) h.ext.size
 ·have:=(h.own β hb h1).dd;rw[h3]at this;exact this.2.1
theorem Qv.Jk{tmps:Array Value}{d:Option Nat}(h:Qv C ρ fr hp tmps w){p:PV}{v:Value}(hv:Qn C ρ hp w p v)(hd:∀x,d=some x->x<C.N):Qv C ρ (dv fr d p) hp (w7 tmps d v) w:=by
 cases d with
 |some d=>exact h.af hv (hd d rfl)
 |none=>exact h
theorem QG{tmps:Array Value}{first cap args:List PV}{fv cv av:Array Value}(hs:Qv C ρ fr hp tmps w)(h1:fv.size=first.length)(_h2:cv.size=cap.length)(h3:av.size=args.length)
  (lR:∀(i:Nat)(x:PV),first[i]? =some x->dh C ρ hp w x (fv.getD i undef)) (iE:∀(i:Nat)(x:PV),cap[i]? =some x->dh C ρ hp w x (cv.getD i undef)) (oN:∀(i:Nat)(x:PV),args[i]? =some x->Qn C ρ hp w x (av.getD i undef))
  (jG:((first++args++cap).map (aU hp)).all PV.aN=true):
  ∀(i:Nat)(x:PV),((first++args++cap).map (aU hp))[i]? =some x->bT w (aK C ρ (bW hp ((first++args++cap).flatMap PV.refs))) x ((fv++av++cv).getD i undef):=by
 intro i x hx;rw[Kax]at jG;have lS:=jG x (Kai hx);simp only[Kas,Kaa]at hx;obtain⟨p,hp',rfl⟩:=hx;have dB:=Kai hp';have hl:∀β∈p.refs,β∈(first++args++cap).flatMap PV.refs:=fun β ae=>Kat.2 ⟨p,dB,ae⟩;have toF:∀ {p:PV} {v:Value},dh C ρ hp w p v->(aU hp p).aN=true->Qn C ρ hp w p v:=by
  intro p v hr hd;cases p with
  |undef=>trivial
  |mp=>exact hr
  |aB=>exact hr
  |rb=>exact hr
  |np=>exact hr
  |aI=>exact hr
  |_=>exact Qn.oc (bT.tB hr)
 rw[mK];rw[Ka2]at hp';by_cases c1:i<(first++args).length
 ·rw[if_pos c1]at hp';rw[if_pos (by simp only[Kcp,h1,h3];simpa using c1),mK];rw[Ka2]at hp';by_cases c2:i<first.length
  ·rw[if_pos c2]at hp';rw[if_pos (by omega)];exact tH hs (toF (lR i p hp') lS) hl lS
  ·rw[if_neg c2]at hp';rw[if_neg (by omega),h1];exact tH hs (oN _ p hp') hl lS
 ·rw[if_neg c1]at hp';have dM:(fv++av).size=(first++args).length:=by simp[h1,h3]
  rw[if_neg (by omega),dM];exact tH hs (toF (iE _ p hp') lS) hl lS
theorem OR{P:Program}(hP:C.P=P){g:FuncId}{first cap args bx:List PV}{pr:Bool}{d:Option Nat}{Rr:PV->Prop}(h:Qd P g bx Rr)(cK:(first++args++cap).map (aU hp)=bx)(jG:bx.all PV.aN=true)
  (hK:∀r,Rr r->K (dv fr d r) (bW hp ((first++args++cap).flatMap PV.refs))):gl C pr (.fn g first cap) args d fr hp K:=by
 subst hP;refine⟨h.1,fun ρ tmps w fv cv av s0 hs h1 h2 h3 lR iE oN=>?_⟩;have hf:=hs.freeze ((first++args++cap).flatMap PV.refs);refine(h.2 w _ (fv++av++cv) (DD hf) (by rw[<-cK];simp[h1,h2,h3]) (by rw[<-cK];exact QG hs h1 h2 h3 lR iE oN (by rw[cK];exact jG))).mono ?_;rintro e w' ⟨v,r,rfl,hx,hr,hRr⟩;exact⟨v,_,_,rfl,⟨ρ,(hf.grow hx).Jk (Qn.Jb hr) s0⟩,fun _=>hx,hK r hRr⟩
theorem ln{P:Program}(hP:C.P=P){g:FuncId}{first cap args bx:List PV}{pr:Bool}{d:Option Nat}{r:PV}(h:Qd P g bx (· =r))(cK:(first++args++cap).map (aU hp)=bx)(jG:bx.all PV.aN=true)
  (hK:K (dv fr d r) (bW hp ((first++args++cap).flatMap PV.refs))):gl C pr (.fn g first cap) args d fr hp K:=
 OR hP h cK jG (fun _ hr=>hr▸hK)
def PV.N9:PV->Bool
 |.int .. | .bool _=>true
 |.aH ps=>ps.all fun p=>match p with| .int .. | .bool _=>true|_=>false
 |_=>false
theorem af5{X X':Nat->Prop}{p:PV}{v:Value}(hs:p.N9=true)(h:fE w X p v):fE w X' p v:=by
 have one:∀(p:PV)(v:Value),(match p with| .int .. | .bool _=>true|_=>false:Bool)=true->bT w X p v->bT w X' p v:=by
  intro p v hs h;cases p with
  |int k n=>cases h;exact Qu.int k n
  |bool b=>cases h;exact Qu.bool b
  |_=>cases hs
 cases p with
 |int k n=>exact one (.int k n) v rfl h
 |bool b=>exact one (.bool b) v rfl h
 |aH ps=>obtain⟨vs,rfl,h1,h2⟩:=h;simp only[PV.N9,Kax]at hs;exact⟨vs,rfl,h1,fun i x hx=>one x _ (hs x (Kai hx)) (h2 i x hx)⟩
 |_=>cases hs
def mN(C:Ctx)(R:Qh)(c:PV)(x y:SC)(sk:List It)(fr:Fr)(hp:HP):Prop:=tQ c (vc C R (.c x::sk) fr hp) (vc C R (.c y::sk) fr hp)
def vB(C:Ctx)(R:Qh)(x y:RT)(sk:List It)(fr:Fr)(hp:HP):Prop:=vc C R (.o x::sk) fr hp/\vc C R (.o y::sk) fr hp
def jM(C:Ctx)(p:PV)(s:Nat)(want:Bool)(o:cO)(fr:Fr)(hp:HP)(K:Qh):Prop:=match p with
  |.bool t=>(t=want->bP C o (af fr s (.bool want)) hp K)/\(t=(!want)->lA o (af fr s (.bool !want)) hp K)
  |.aH []=>lA o fr hp K
  |_=>False
theorem Qa{p:Prop}[Decidable p]{x y:SC}{sk:List It}(h1:p->vc C R (.c x::sk) fr hp)(h2:¬p->vc C R (.c y::sk) fr hp):mN C R (.bool (decide p)) x y sk fr hp:=
 ⟨fun h=>h1 (of_decide_eq_true h),fun h=>h2 (of_decide_eq_false h)⟩
theorem CD{b:Bool}{x y:SC}{sk:List It}(h1:b=true->vc C R (.c x::sk) fr hp)(h2:b=false->vc C R (.c y::sk) fr hp):mN C R (.bool b) x y sk fr hp:=⟨h1,h2⟩
theorem fN{p:Prop}[Decidable p]{s:Nat}{o:cO}(h1:p->jM C (.bool true) s true o (af fr s (.bool true)) hp K)(h2:¬p->jM C (.bool false) s true o (af fr s (.bool false)) hp K):jM C (.bool (decide p)) s true o fr hp K:=by
 have hu:∀(b:Bool),af (af fr s (.bool b)) s (.bool b)=af fr s (.bool b):=fun b=>by funext i;unfold af;split<;>rfl
 refine⟨fun h=>?_,fun h=>?_⟩
 ·have:=(h1 (of_decide_eq_true h)).1 rfl
  rwa[hu]at this
 ·have:=(h2 (of_decide_eq_false h)).2 rfl
  rwa[show(!true)=false from rfl,hu]at this
theorem fb{p:Prop}[Decidable p]{s:Nat}{o:cO}(h1:p->jM C (.bool true) s false o (af fr s (.bool true)) hp K)(h2:¬p->jM C (.bool false) s false o (af fr s (.bool false)) hp K):jM C (.bool (decide p)) s false o fr hp K:=by
 have hu:∀(b:Bool),af (af fr s (.bool b)) s (.bool b)=af fr s (.bool b):=fun b=>by funext i;unfold af;split<;>rfl
 refine⟨fun h=>?_,fun h=>?_⟩
 ·have:=(h2 (of_decide_eq_false h)).1 rfl
  rwa[hu]at this
 ·have:=(h1 (of_decide_eq_true h)).2 rfl
  rwa[show(!false)=true from rfl,hu]at this
theorem Ar{b want:Bool}{s:Nat}{o:cO}(h1:b=true->jM C (.bool true) s want o (af fr s (.bool true)) hp K)(h2:b=false->jM C (.bool false) s want o (af fr s (.bool false)) hp K):jM C (.bool b) s want o fr hp K:=by
 have:= @fN C fr hp K (b=true) _ s o;have e:b=decide (b=true):=by cases b<;>rfl
 rw[e];cases want with
 |true=>exact fN h1 (fun h=>h2 (by simpa using h))
 |false=>exact fb h1 (fun h=>h2 (by simpa using h))
theorem af6{sk:List It}{c:aX}{x y:SC}:vc C R (.c (.cond c x y)::sk) fr hp=mN C R (ev fr c) x y sk fr hp:=HH
theorem al8{sk:List It}{x y:RT}:vc C R (.o (.br x y)::sk) fr hp=vB C R x y sk fr hp:=TX
theorem alA{sk:List It}{o:cO}{r:RT}:vc C R (.o (.o none o r)::sk) fr hp=bP C o fr hp (vc C R (.o r::sk)):=DL
theorem alB{sk:List It}{s:Nat}{b:Bool}{o:cO}{r:RT}:vc C R (.o (.o (some (s,b)) o r)::sk) fr hp=jM C (fr s) s b o fr hp (vc C R (.o r::sk)):=DL
theorem vcs:
  (∀(C:Ctx)(R:Qh)(sk:List It)(x y:SC)(fr:Fr)(hp:HP),vc C R (.c (.seq x y)::sk) fr hp=vc C R (.c x:: .c y::sk) fr hp)/\
  (∀(C:Ctx)(R:Qh)(sk:List It)(id:Nat)(x:SC)(fr:Fr)(hp:HP),vc C R (.c (.block id x)::sk) fr hp=vc C R (.c x:: .eb id::sk) fr hp)/\
  (∀(C:Ctx)(R:Qh)(sk:List It)(fr:Fr)(hp:HP),vc C R (.c .skip::sk) fr hp=vc C R sk fr hp)/\
  (∀(C:Ctx)(R:Qh)(sk:List It)(r:RT)(fr:Fr)(hp:HP),vc C R (.c (.rg r)::sk) fr hp=vc C R (.o r::sk) fr hp)/\
  (∀(C:Ctx)(R:Qh)(sk:List It)(id:Nat)(fr:Fr)(hp:HP),vc C R (.eb id::sk) fr hp=vc C R sk fr hp)/\
  (∀(C:Ctx)(R:Qh)(sk:List It)(J:Qh)(fr:Fr)(hp:HP),vc C R (.el J::sk) fr hp=J fr hp)/\
  (∀(C:Ctx)(R:Qh)(sk:List It)(fr:Fr)(hp:HP),vc C R (.c .ret::sk) fr hp=R fr hp)/\
  (∀(C:Ctx)(R:Qh)(fr:Fr)(hp:HP),vc C R [] fr hp=R fr hp)/\
  (∀(C:Ctx)(R:Qh)(sk:List It)(c:aX)(x y:SC)(fr:Fr)(hp:HP),vc C R (.c (.cond c x y)::sk) fr hp=mN C R (ev fr c) x y sk fr hp)/\
  (∀(C:Ctx)(R:Qh)(sk:List It)(id:Nat)(fr:Fr)(hp:HP),vc C R (.c (.exit id)::sk) fr hp=yJ C R (FW.cC id sk) fr hp)/\
  (∀(C:Ctx)(R:Qh)(sk:List It)(fr:Fr)(hp:HP),vc C R (.o .nil::sk) fr hp=vc C R sk fr hp)/\
  (∀(C:Ctx)(R:Qh)(sk:List It)(o:cO)(r:RT)(fr:Fr)(hp:HP),vc C R (.o (.o none o r)::sk) fr hp=bP C o fr hp (vc C R (.o r::sk)))/\
  (∀(C:Ctx)(R:Qh)(sk:List It)(s:Nat)(b:Bool)(o:cO)(r:RT)(fr:Fr)(hp:HP),vc C R (.o (.o (some (s,b)) o r)::sk) fr hp=jM C (fr s) s b o fr hp (vc C R (.o r::sk)))/\
  (∀(C:Ctx)(R:Qh)(sk:List It)(x y:RT)(fr:Fr)(hp:HP),vc C R (.o (.br x y)::sk) fr hp=vB C R x y sk fr hp)/\
  (∀(C:Ctx)(R:Qh)(x y:SC)(sk:List It)(fr:Fr)(hp:HP),mN C R (.bool true) x y sk fr hp=vc C R (.c x::sk) fr hp)/\
  (∀(C:Ctx)(R:Qh)(x y:SC)(sk:List It)(fr:Fr)(hp:HP),mN C R (.bool false) x y sk fr hp=vc C R (.c y::sk) fr hp)/\
  (∀(C:Ctx)(R:Qh)(sk:List It)(fr:Fr)(hp:HP),yJ C R (some sk) fr hp=vc C R sk fr hp)/\
  (∀(id:Nat)(s:SC)(sk:List It),FW.cC id (.c s::sk)=FW.cC id sk)/\
  (∀(id:Nat)(r:RT)(sk:List It),FW.cC id (.o r::sk)=FW.cC id sk)/\
  (∀(id:Nat)(J:Qh)(sk:List It),FW.cC id (.el J::sk)=FW.cC id sk)/\
  (∀(id i:Nat)(sk:List It),FW.cC id (.eb i::sk)=if i=id then some sk else FW.cC id sk)/\
  (∀(C:Ctx)(s:Nat)(o:cO)(fr:Fr)(hp:HP)(K:Qh),jM C (.bool true) s true o fr hp K=bP C o (af fr s (.bool true)) hp K)/\
  (∀(C:Ctx)(s:Nat)(o:cO)(fr:Fr)(hp:HP)(K:Qh),jM C (.bool false) s true o fr hp K=lA o (af fr s (.bool false)) hp K)/\
  (∀(C:Ctx)(s:Nat)(o:cO)(fr:Fr)(hp:HP)(K:Qh),jM C (.bool true) s false o fr hp K=lA o (af fr s (.bool true)) hp K)/\
  (∀(C:Ctx)(s:Nat)(o:cO)(fr:Fr)(hp:HP)(K:Qh),jM C (.bool false) s false o fr hp K=bP C o (af fr s (.bool false)) hp K)/\
  (∀(C:Ctx)(s:Nat)(b:Bool)(o:cO)(fr:Fr)(hp:HP)(K:Qh),jM C (.aH []) s b o fr hp K=lA o fr hp K):=by
 refine⟨fun _ _ _ _ _ _ _=>HW,fun _ _ _ _ _ _ _=>G9,fun _ _ _ _ _=>HG,fun _ _ _ _ _ _=>Kl,fun _ _ _ _ _ _=>FV,fun _ _ _ _ _ _=>yI,fun _ _ _ _ _=>HX,fun _ _ _ _=>wN,fun _ _ _ _ _ _ _ _=>af6,
  fun _ _ _ _ _ _=>HI,fun _ _ _ _ _=>DC,fun _ _ _ _ _ _ _=>alA,fun _ _ _ _ _ _ _ _ _=>alB,fun _ _ _ _ _ _ _=>al8,fun _ _ _ _ _ _ _=>?_,fun _ _ _ _ _ _ _=>?_,fun _ _ _ _ _=>rfl,fun _ _ _=>rfl,fun _ _ _=>rfl,fun _ _ _=>rfl,fun _ _ _=>rfl,?_,?_,?_,?_,fun _ _ _ _ _ _ _=>rfl⟩
 ·simp[mN,tQ]
 ·simp[mN,tQ]
 all_goals intros;simp[jM]
end Go.FW
namespace Go.FW
open Go
variable {C : Ctx} {fr : Fr} {hp : HP} {K R : Qh}
theorem yr{n:Int}(h1: -9223372036854775808<=n)(h2:n<=9223372036854775807):IntKind.i64.wrap n=n:=by rw[IntKind.wrap_i64];omega
theorem af7{n:Int}(h1: -2147483648<=n)(h2:n<=2147483647):IntKind.i32.wrap n=n:=by rw[IntKind.wrap_i32];omega
theorem uS{n:Int}(h1:0<=n)(h2:n<=18446744073709551615):IntKind.u64.wrap n=n:=by rw[IntKind.wrap_u64];omega
theorem G5{n:Int}(h1:0<=n)(h2:n<=4294967295):IntKind.u32.wrap n=n:=by rw[IntKind.wrap_u32];omega
theorem afA{n:Int}(h1:0<=n)(h2:n<=65535):IntKind.u16.wrap n=n:=by simp only[IntKind.wrap,IntKind.bits,IntKind.signed];simp;omega
theorem ahY{n:Int}(h1:0<=n)(h2:n<=255):IntKind.u8.wrap n=n:=by rw[IntKind.wrap_u8];omega
theorem ahZ{x y:Int}(h:0<=x):x.tdiv y=x/y:=Int.tdiv_eq_ediv_of_nonneg h
theorem ah0{x y:Int}(h:0<=x):x.tmod y=x%y:=Int.tmod_eq_emod_of_nonneg h
def nq(hb:Option HB)(n:Nat)(ag:Bool)(i o:Nat)(d:Nat)(fr:Fr)(hp:HP)(K:Qh):Prop:=match hb with
 |some hb=>∃h:i<hb.xs.length,o+n<=hb.e/\(ag=false->n=1)/\K (af fr d (fB ag n o (hb.xs[i]'h))) hp
 |none=>False
def stM (hb:Option HB) (β:Nat) (n:Nat) (i o:Nat) (v:PV) (fr:Fr) (hp:HP) (K:Qh):Prop:=match hb with
  |some hb=>hb.fz=false/\v.aN=true/\v.cells.length=n/\∃h:i<hb.xs.length,o+n<=hb.e/\
        K fr (Qj hp β { hb with xs:=hb.xs.set i (if n=hb.e then v else uI (hb.xs[i]'h) o v) })
  |none=>False
def Ae(R:PV->Prop)(p:PV):Prop:=p.aN=true/\∃q,PV.le p q/\R q
theorem Qc{p r:PV}(h:p=r)(hd:r.aN=true):Ae (· =r) p:=by subst h;exact⟨hd,_,Ql _,rfl⟩
theorem pg{p r:PV}(h:PV.le p r)(hd:p.aN=true):Ae (· =r) p:=⟨hd,_,h,rfl⟩
theorem RZ{e ty n:Nat}{ag fz:Bool}{o d:Nat}{x:PV}(h:o+n<=e)(ha:ag=false->n=1):nq (some ⟨e,ty,[x],fz⟩) n ag 0 o d fr hp K=K (af fr d (fB ag n o x)) hp:=by simp[nq,h];intro _;exact ha
theorem uZ{e ty n i:Nat}{ag fz:Bool}{o d:Nat}{xs:List PV}(h:i<xs.length)(h1:o+n<=e)(ha:ag=false->n=1):nq (some ⟨e,ty,xs,fz⟩) n ag i o d fr hp K=K (af fr d (fB ag n o (xs[i]'h))) hp:=by simp[nq,h,h1];intro _;exact ha
theorem alC{e ty n β i:Nat}{o:Nat}{xs:List PV}{v:PV}(h:i<xs.length)(hv:v.aN=true)(hl:v.cells.length=n)(h1:o+n<=e):stM (some ⟨e,ty,xs,false⟩) β n i o v fr hp K=K fr (Qj hp β ⟨e,ty,xs.set i (if n=e then v else uI (xs[i]'h) o v),false⟩):=by simp[stM,h,h1,hv,hl]
theorem qp{ty n β i:Nat}{xs:List PV}{v:PV}(h:i<xs.length)(hv:v.aN=true)(hl:v.cells.length=n):stM (some ⟨n,ty,xs,false⟩) β n i 0 v fr hp K=K fr (Qj hp β ⟨n,ty,xs.set i v,false⟩):=by rw[alC h hv hl (by omega)];simp
theorem JZ{e d:Nat}{k:IntKind}{m:Int}{xs:List PV}(h0:0<=m)(h:m<xs.length):jQ e (.sl e xs) (.int k m) d fr hp K=K (af fr d (.pt (xs[m.toNat]'(by omega)).cells)) hp:=by
 have:m.toNat<xs.length:=by omega
 simp[jQ,h0,this]
theorem AU{α:Type}{f:α->PV}{e d:Nat}{k:IntKind}{m:Int}{xs:List α}(h0:0<=m)(h:m<xs.length):jQ e (.sl e (xs.map f)) (.int k m) d fr hp K=K (af fr d (.pt (f (xs[m.toNat]'(by omega))).cells)) hp:=by rw[JZ h0 (by simpa using h)];simp
theorem alD{e d β o n:Nat}{k:IntKind}{m:Int}(h0:0<=m)(h:m<n)(he:(hp β).map (·.e)=some e):jQ e (.aB β o n) (.int k m) d fr hp K=K (af fr d (.mp β (o+m.toNat) 0)) hp:=by
 have:m.toNat<n:=by omega
 simp[jQ,h0,this,he]
theorem FX{e by_ ty d:Nat}{z:PV}{k k':IntKind}{L Cc:Int}(h0:0<e)(hz:z.cells.length=e)(h1:0<=L)(h2:L<=Cc)(h3:by_*Cc<=281474976710656)(h4:Cc<=9223372036854775807):
  qe e by_ ty z (.int k L) (.int k' Cc) d fr hp K=K (af (cP d fr) d (.ms d L.toNat)) (Qj hp d ⟨e,ty,List.replicate L.toNat z,false⟩):=by
 simp[qe,h0,hz,h1,h2,h3,h4]
theorem alE{n ty d β o m:Nat}(hB:aR β=true):jB n ty (.aB β o m) d fr hp K=K (af fr d (.rb β o m)) hp:=by simp[jB,hB]
theorem aoH{d β o m:Nat}:kf 1 false (.rb β o m) d fr hp K=K (af fr d (.aB β o m)) hp:=by simp[kf]
theorem GB{e by_ ty d:Nat}{x:PV}{ys:List PV}(hs:jx hp x=some (e,ys))(h0:0<e)(h1:ys.length*by_<=140737488355328)(h2:ys.length<=9223372036854775807):
  ia e by_ ty .au x d fr hp K=K (af (cP d fr) d (.ms d ys.length)) (Qj hp d ⟨e,ty,ys,false⟩):=by
 simp[ia,hs,h0,h1,h2]
theorem K7{e by_ ty d β n:Nat}{x:PV}{ys xs:List PV}(hs:jx hp x=some (e,ys))(hb:hp β=some ⟨e,ty,xs,false⟩)(h0:0<e)(hn:n<=xs.length)(h1:(n+ys.length)*by_<=140737488355328)(h2:n+ys.length<=9223372036854775807)(hB:bJ β=false:=by decide):
  ia e by_ ty (.ms β n) x d fr hp K=K (af (cP β fr) d (.ms β (n+ys.length))) (Qj hp β ⟨e,ty,xs.take n++ys,false⟩):=by
 simp[ia,hs,hb,h0,hn,h1,h2,hB]
theorem Kj{e d:Nat}{xs:List PV}{lo hi:Option PV}{L H:Int}(h1:jL 0 lo=some L)(h2:jL xs.length hi=some H)(h3:0<=L)(h4:L<=H)(h5:H<=xs.length):
  kj e (.sl e xs) lo hi none d fr hp K=K (af fr d (.sl e ((xs.take H.toNat).drop L.toNat))) hp:=by
 have hM:jL (xs.length) none=some (xs.length:Int):=rfl;simp only[kj,h1,h2,hM];simp[h3,h4,h5]
theorem aoI{e d:Nat}{xs:List PV}{k:IntKind}{H:Int}(h4:0<=H)(h5:H<=xs.length):
  kj e (.sl e xs) none (some (.int k H)) none d fr hp K=K (af fr d (.sl e (xs.take H.toNat))) hp:=by
 rw[Kj (L:=0) (H:=H) rfl rfl (by omega) h4 h5];simp
theorem aoJ{e d:Nat}{xs:List PV}{k:IntKind}{L:Int}(h4:0<=L)(h5:L<=xs.length):
  kj e (.sl e xs) (some (.int k L)) none none d fr hp K=K (af fr d (.sl e (xs.drop L.toNat))) hp:=by
 rw[Kj (L:=L) (H:=xs.length) rfl rfl h4 h5 (by omega)];simp
theorem auV:
  (∀(C:Ctx)(d:Nat)(x:aX)(fr:Fr)(hp:HP)(K:Qh),bP C (.mv d x) fr hp K=K (af fr d (ev fr x)) hp)/\
  (∀(C:Ctx)(d:Nat)(c a b:aX)(fr:Fr)(hp:HP)(K:Qh),bP C (.pick d c a b) fr hp K=vf (ev fr c) (ev fr a) (ev fr b) d fr hp K)/\
  (∀(C:Ctx)(d:Nat)(op:BinOp)(bt:Bool)(a b:aX)(fr:Fr)(hp:HP)(K:Qh),bP C (.bin d op bt a b) fr hp K=cu op bt (ev fr a) (ev fr b) d fr hp K)/\
  (∀(C:Ctx)(d:Nat)(op:UnOp)(a:aX)(fr:Fr)(hp:HP)(K:Qh),bP C (.un d op a) fr hp K=xY op (ev fr a) d fr hp K)/\
  (∀(C:Ctx)(d:Nat)(k:IntKind)(a:aX)(fr:Fr)(hp:HP)(K:Qh),bP C (.conv d k a) fr hp K=yK k (ev fr a) d fr hp K)/\
  (∀(C:Ctx)(d:Nat)(a:aX)(fr:Fr)(hp:HP)(K:Qh),bP C (.len d a) fr hp K=rI (ev fr a) d fr hp K)/\
  (∀(C:Ctx)(d:Nat)(a b:aX)(fr:Fr)(hp:HP)(K:Qh),bP C (.mx d a b) fr hp K=z6 (ev fr a) (ev fr b) d fr hp K)/\
  (∀(C:Ctx)(d:Nat)(a b:aX)(fr:Fr)(hp:HP)(K:Qh),bP C (.mn d a b) fr hp K=z4 (ev fr a) (ev fr b) d fr hp K)/\
  (∀(C:Ctx)(d e:Nat)(a b:aX)(fr:Fr)(hp:HP)(K:Qh),bP C (.idx d e a b) fr hp K=jQ e (ev fr a) (ev fr b) d fr hp K)/\
  (∀(C:Ctx)(d n e:Nat)(a b:aX)(fr:Fr)(hp:HP)(K:Qh),bP C (.BV d n e a b) fr hp K=wR n e (ev fr a) (ev fr b) d fr hp K)/\
  (∀(C:Ctx)(d n e:Nat)(ag:Bool)(a b:aX)(fr:Fr)(hp:HP)(K:Qh),bP C (.BW d n e ag a b) fr hp K=wZ n e ag (ev fr a) (ev fr b) d fr hp K)/\
  (∀(C:Ctx)(d off:Nat)(a:aX)(fr:Fr)(hp:HP)(K:Qh),bP C (.gI d off a) fr hp K=tX off (ev fr a) d fr hp K)/\
  (∀(C:Ctx)(d off n:Nat)(ag:Bool)(a:aX)(fr:Fr)(hp:HP)(K:Qh),bP C (.Bv d off n ag a) fr hp K=tS off n ag (ev fr a) d fr hp K)/\
  (∀(C:Ctx)(d n:Nat)(ag:Bool)(a:aX)(fr:Fr)(hp:HP)(K:Qh),bP C (.ld d n ag a) fr hp K=kf n ag (ev fr a) d fr hp K)/\
  (∀(C:Ctx)(n:Nat)(a b:aX)(fr:Fr)(hp:HP)(K:Qh),bP C (.st n a b) fr hp K=qf n (ev fr a) (ev fr b) fr hp K)/\
  (∀(C:Ctx)(d n ty:Nat)(a:aX)(fr:Fr)(hp:HP)(K:Qh),bP C (.box d n ty a) fr hp K=jB n ty (ev fr a) d fr hp K)/\
  (∀(C:Ctx)(d n ty:Nat)(z:PV)(fr:Fr)(hp:HP)(K:Qh),bP C (.alloc d n ty z) fr hp K=jB n ty z d fr hp K)/\
  (∀(C:Ctx)(d e by_ ty:Nat)(z:PV)(l c:aX)(fr:Fr)(hp:HP)(K:Qh),bP C (.mk d e by_ ty z l c) fr hp K=qe e by_ ty z (ev fr l) (ev fr c) d fr hp K)/\
  (∀(C:Ctx)(d e ty:Nat)(ps:List aX)(fr:Fr)(hp:HP)(K:Qh),bP C (.bs d e ty ps) fr hp K=mu e ty (ps.map (ev fr)) d fr hp K)/\
  (∀(C:Ctx)(d e by_ ty:Nat)(a b:aX)(fr:Fr)(hp:HP)(K:Qh),bP C (.app d e by_ ty a b) fr hp K=ia e by_ ty (ev fr a) (ev fr b) d fr hp K)/\
  (∀(C:Ctx)(d e:Nat)(a b:aX)(fr:Fr)(hp:HP)(K:Qh),bP C (.vD d e a b) fr hp K=sK e (ev fr a) (ev fr b) d fr hp K)/\
  (∀(C:Ctx)(d e:Nat)(a:aX)(l h m:Option aX)(fr:Fr)(hp:HP)(K:Qh),bP C (.sl d e a l h m) fr hp K=kj e (ev fr a) (l.map (ev fr)) (h.map (ev fr)) (m.map (ev fr)) d fr hp K)/\
  (∀(C:Ctx)(d:Nat)(a:aX)(i:Nat)(fr:Fr)(hp:HP)(K:Qh),bP C (.ext d a i) fr hp K=qD (ev fr a) i d fr hp K)/\
  (∀(C:Ctx)(d:Nat)(z:List PV)(ps:List (Nat×Nat×aX))(fr:Fr)(hp:HP)(K:Qh),bP C (.eB d z ps) fr hp K=oA z (ps.map fun p=>(p.1,p.2.1,ev fr p.2.2)) d fr hp K)/\
  (∀(C:Ctx)(d f:Nat)(x y:List aX)(fr:Fr)(hp:HP)(K:Qh),bP C (.fn d f x y) fr hp K=((x.map (ev fr)++y.map (ev fr)).all PV.nk=true/\K (af fr d (.fn f (x.map (ev fr)) (y.map (ev fr)))) hp))/\
  (∀(C:Ctx)(d:Option Nat)(pr:Bool)(f:aX)(Wy:List aX)(fr:Fr)(hp:HP)(K:Qh),bP C (.call d pr f Wy) fr hp K=gl C pr (ev fr f) (Wy.map (ev fr)) d fr hp K)/\
  (∀(C:Ctx)(d:Option Nat)(x:aX)(fr:Fr)(hp:HP)(K:Qh),bP C (.Fp d x) fr hp K=DK (ev fr x) d fr hp K)/\
  (∀(fr:Fr)(n:Nat),ev fr (.t n)=fr n)/\(∀(fr:Fr)(p:PV),ev fr (.c p)=p):=by
 refine⟨?_,?_,?_,?_,?_,?_,?_,?_,?_,?_,?_,?_,?_,?_,?_,?_,?_,?_,?_,?_,?_,?_,?_,?_,?_,?_,?_,?_,?_⟩<;>intros<;>rfl
theorem auW:
  (∀(bt:Bool)(k:IntKind)(x y:Int)(d:Nat)(fr:Fr)(hp:HP)(K:Qh),cu .add bt (.int k x) (.int k y) d fr hp K=K (af fr d (.int k (k.wrap (x+y)))) hp)/\
  (∀(bt:Bool)(k:IntKind)(x y:Int)(d:Nat)(fr:Fr)(hp:HP)(K:Qh),cu .sub bt (.int k x) (.int k y) d fr hp K=K (af fr d (.int k (k.wrap (x-y)))) hp)/\
  (∀(bt:Bool)(k:IntKind)(x y:Int)(d:Nat)(fr:Fr)(hp:HP)(K:Qh),cu .mul bt (.int k x) (.int k y) d fr hp K=K (af fr d (.int k (k.wrap (x*y)))) hp)/\
  (∀(bt:Bool)(k:IntKind)(x y:Int)(d:Nat)(fr:Fr)(hp:HP)(K:Qh),cu .eql bt (.int k x) (.int k y) d fr hp K=K (af fr d (.bool (decide (x=y)))) hp)/\
  (∀(bt:Bool)(k:IntKind)(x y:Int)(d:Nat)(fr:Fr)(hp:HP)(K:Qh),cu .neq bt (.int k x) (.int k y) d fr hp K=K (af fr d (.bool (decide (¬x=y)))) hp)/\
  (∀(bt:Bool)(k:IntKind)(x y:Int)(d:Nat)(fr:Fr)(hp:HP)(K:Qh),cu .lss bt (.int k x) (.int k y) d fr hp K=K (af fr d (.bool (decide (x<y)))) hp)/\
  (∀(bt:Bool)(k:IntKind)(x y:Int)(d:Nat)(fr:Fr)(hp:HP)(K:Qh),cu .leq bt (.int k x) (.int k y) d fr hp K=K (af fr d (.bool (decide (x<=y)))) hp)/\
  (∀(bt:Bool)(k:IntKind)(x y:Int)(d:Nat)(fr:Fr)(hp:HP)(K:Qh),cu .gtr bt (.int k x) (.int k y) d fr hp K=K (af fr d (.bool (decide (y<x)))) hp)/\
  (∀(bt:Bool)(k:IntKind)(x y:Int)(d:Nat)(fr:Fr)(hp:HP)(K:Qh),cu .geq bt (.int k x) (.int k y) d fr hp K=K (af fr d (.bool (decide (y<=x)))) hp)/\
  (∀(x y:Bool)(d:Nat)(fr:Fr)(hp:HP)(K:Qh),cu .eql true (.bool x) (.bool y) d fr hp K=K (af fr d (.bool (x==y))) hp)/\
  (∀(x y:Bool)(d:Nat)(fr:Fr)(hp:HP)(K:Qh),cu .neq true (.bool x) (.bool y) d fr hp K=K (af fr d (.bool (!(x==y)))) hp)/\
  (∀(b:Bool)(d:Nat)(fr:Fr)(hp:HP)(K:Qh),xY .not (.bool b) d fr hp K=K (af fr d (.bool (!b))) hp)/\
  (∀(k:IntKind)(n:Int)(d:Nat)(fr:Fr)(hp:HP)(K:Qh),xY .neg (.int k n) d fr hp K=K (af fr d (.int k (k.wrap (0-n)))) hp)/\
  (∀(k k':IntKind)(n:Int)(d:Nat)(fr:Fr)(hp:HP)(K:Qh),yK k (.int k' n) d fr hp K=K (af fr d (.int k (k.wrap n))) hp)/\
  (∀(d:Nat)(fr:Fr)(hp:HP)(K:Qh),rI .au d fr hp K=K (af fr d (.int .i64 0)) hp)/\
  (∀(e:Nat)(xs:List PV)(d:Nat)(fr:Fr)(hp:HP)(K:Qh),rI (.sl e xs) d fr hp K=K (af fr d (.int .i64 xs.length)) hp)/\
  (∀(β o n:Nat)(d:Nat)(fr:Fr)(hp:HP)(K:Qh),rI (.aB β o n) d fr hp K=K (af fr d (.int .i64 n)) hp)/\
  (∀(k k':IntKind)(x y:Int)(d:Nat)(fr:Fr)(hp:HP)(K:Qh),z6 (.int k x) (.int k' y) d fr hp K=K (af fr d (.int k (max x y))) hp)/\
  (∀(k k':IntKind)(x y:Int)(d:Nat)(fr:Fr)(hp:HP)(K:Qh),z4 (.int k x) (.int k' y) d fr hp K=K (af fr d (.int k (min x y))) hp)/\
  (∀(a b:PV)(d:Nat)(fr:Fr)(hp:HP)(K:Qh),vf (.bool true) a b d fr hp K=K (af fr d a) hp)/\
  (∀(a b:PV)(d:Nat)(fr:Fr)(hp:HP)(K:Qh),vf (.bool false) a b d fr hp K=K (af fr d b) hp)/\
  (∀(off β i o:Nat)(d:Nat)(fr:Fr)(hp:HP)(K:Qh),tX off (.mp β i o) d fr hp K=K (af fr d (.mp β i (o+off))) hp)/\
  (∀(n:Nat)(ag:Bool)(β i o:Nat)(d:Nat)(fr:Fr)(hp:HP)(K:Qh),kf n ag (.mp β i o) d fr hp K=nq (hp β) n ag i o d fr hp K)/\
  (∀(c:PV)(cs:List PV)(d:Nat)(fr:Fr)(hp:HP)(K:Qh),kf 1 false (.pt (c::cs)) d fr hp K=K (af fr d c) hp)/\
  (∀(n:Nat)(β i o:Nat)(v:PV)(fr:Fr)(hp:HP)(K:Qh),qf n (.mp β i o) v fr hp K=stM (bW hp v.refs β) β n i o (aU hp v) fr (bW hp v.refs) K)/\
  (∀(ps:List PV)(p:PV)(d:Nat)(fr:Fr)(hp:HP)(K:Qh),qD (.aH (p::ps)) 0 d fr hp K=(p.aN=true/\K (af fr d p) hp))/\
  (∀(ps:List PV)(p q:PV)(d:Nat)(fr:Fr)(hp:HP)(K:Qh),qD (.aH (p::q::ps)) 1 d fr hp K=(q.aN=true/\K (af fr d q) hp))/\
  (∀(ps:List PV)(p q r:PV)(d:Nat)(fr:Fr)(hp:HP)(K:Qh),qD (.aH (p::q::r::ps)) 2 d fr hp K=(r.aN=true/\K (af fr d r) hp))/\
  (∀(s:Nat)(Rr:PV->Prop)(fr:Fr)(hp:HP),gm [.t s] Rr fr hp=Ae Rr (aU hp (fr s)))/\
  (∀(e:Nat)(xs:List PV),jx aA (.sl e xs)=some (e,xs))/\
  (∀(hp:HP),bW hp []=hp)/\
  (∀(fr:Fr)(r:PV),dv fr none r=fr)/\(∀(fr:Fr)(d:Nat)(r:PV),dv fr (some d) r=af fr d r)/\
  (∀(β:Nat)(fr:Fr)(i:Nat),cP β fr i=cA β (fr i)):=by
 refine⟨?_,?_,?_,?_,?_,?_,?_,?_,?_,?_,?_,?_,?_,?_,?_,?_,?_,?_,?_,?_,?_,?_,?_,?_,?_,?_,?_,?_,?_,?_,?_,?_,?_,?_⟩<;>intros
 all_goals first
  |rfl
  |(simp[cu,vf,qD,kf,fB,PV.cells,qf,stM];done)
  |(simp[cu,vf,qD,kf,fB,PV.cells,qf,stM];try rfl)
  |skip
end Go.FW
namespace Go.FW
open Go
variable {C : Ctx} {ρ : Nat -> Option Nat} {fr : Fr} {hp : HP} {w : World} {K R : Qh}
theorem Tf(i β e ty:Nat)(he:0<e)(hi:fr i= .au)(hB:bJ β=false:=by decide):Wk fr hp (af (cP β fr) i (.ms β 0)) (Qj hp β ⟨e,ty,[],false⟩):=by
 rintro C tmps w ⟨ρ,hs⟩;have hr:=hs.rebind (w':=w) β none ⟨e,ty,[],false⟩ hB (Ext.refl _ _) (by simp) he (by simp) (by simp) (by simp);refine⟨_,hr.sz,hr.ext,hr.fT,hr.own,hr.inj,fun j=>?_⟩;unfold af;split
 ·rename_i hj;subst hj;have:=hs.cN j;rw[hi]at this;have e:=Qn.z7 this;exact⟨_,by simp[Qj];rfl,by simp,.inl ⟨kn _ _ _,e,rfl,rfl⟩⟩
 ·exact hr.cN j
end Go.FW
namespace Go.FW
open Go
variable {C : Ctx} {ρ : Nat -> Option Nat} {fr : Fr} {hp : HP} {w : World} {K R : Qh}
theorem ah1(fr:Fr)(a:Nat)(v w:PV):af (af fr a v) a w=af fr a w:=by funext i;unfold af;split<;>rfl
theorem LL{α:Type}{f:α->PV}{e d:Nat}{xs:List α}{k:IntKind}{H:Int}(h4:0<=H)(h5:H<=xs.length):
  kj e (.sl e (xs.map f)) none (some (.int k H)) none d fr hp K=K (af fr d (.sl e ((xs.take H.toNat).map f))) hp:=by
 rw[aoI h4 (by simpa using h5)];simp
theorem aei{α:Type}{f:α->PV}{e d:Nat}{xs:List α}{k:IntKind}{L:Int}(h4:0<=L)(h5:L<=xs.length):
  kj e (.sl e (xs.map f)) (some (.int k L)) none none d fr hp K=K (af fr d (.sl e ((xs.drop L.toNat).map f))) hp:=by
 rw[aoJ h4 (by simpa using h5)];simp
theorem Q9o{α:Type}{f:α->PV}{e d:Nat}{xs:List α}{k k':IntKind}{L H:Int}(h3:0<=L)(h4:L<=H)(h5:H<=xs.length):
  kj e (.sl e (xs.map f)) (some (.int k L)) (some (.int k' H)) none d fr hp K=K (af fr d (.sl e (((xs.take H.toNat).drop L.toNat).map f))) hp:=by
 rw[Kj (L:=L) (H:=H) rfl rfl h3 h4 (by simpa using h5)];simp
theorem ah2(hp:HP)(e:Nat)(xs:List PV):aU hp (.sl e xs)= .sl e xs:=rfl
theorem afB(hp:HP)(k:IntKind)(n:Int):aU hp (.int k n)= .int k n:=rfl
theorem aej(hp:HP)(b:Bool):aU hp (.bool b)= .bool b:=rfl
theorem afC(hp:HP)(cs:List PV):aU hp (.agg cs)= .agg cs:=rfl
theorem afD(hp:HP):aU hp .au= .au:=rfl
theorem Jt(hp:HP)(β n:Nat)(e ty:Nat)(xs:List PV)(fz:Bool)(h:hp β=some ⟨e,ty,xs,fz⟩)(hB:bJ β=false:=by decide):aU hp (.ms β n)= .sl e (xs.take n):=by simp[aU,cZ,h,Bb hB]
theorem ahH(e:Nat)(xs:List PV):(PV.sl e xs).refs=[]:=rfl
theorem afE(k:IntKind)(n:Int):(PV.int k n).refs=[]:=rfl
theorem aek(b:Bool):(PV.bool b).refs=[]:=rfl
theorem afF(cs:List PV):(PV.agg cs).refs=[]:=rfl
theorem afG:PV.au.refs=[]:=rfl
theorem afH(β e:Nat)(xs:List PV):cA β (.sl e xs)= .sl e xs:=rfl
theorem ael(β:Nat)(k:IntKind)(n:Int):cA β (.int k n)= .int k n:=rfl
theorem acK(β:Nat)(b:Bool):cA β (.bool b)= .bool b:=rfl
theorem aem(β:Nat)(cs:List PV):cA β (.agg cs)= .agg cs:=rfl
theorem aen(β:Nat):cA β .au= .au:=rfl
theorem QH(β γ o n:Nat):cA β (.aB γ o n)=if γ=β then .undef else .aB γ o n:=by
 by_cases h:γ=β
 ·subst h;simp[cA,PV.refs]
 ·simp[cA,PV.refs,h];intro h';exact absurd h'.symm h
theorem afI(β γ o n:Nat):cA β (.rb γ o n)=if γ=β then .undef else .rb γ o n:=by
 by_cases h:γ=β
 ·subst h;simp[cA,PV.refs]
 ·simp[cA,PV.refs,h];intro h';exact absurd h'.symm h
theorem QI(β γ i o:Nat):cA β (.mp γ i o)=if γ=β then .undef else .mp γ i o:=by
 by_cases h:γ=β
 ·subst h;simp[cA,PV.refs]
 ·simp[cA,PV.refs,h];intro h';exact absurd h'.symm h
theorem aoK:
  (∀(fr:Fr)(a:Nat)(v:PV)(b:Nat),af fr a v b=if b=a then v else fr b)/\
  (∀(h:HP)(a:Nat)(v:HB)(b:Nat),Qj h a v b=if b=a then some v else h b)/\
  (∀(β:Nat),aA β=none)/\
  (∀(hp:HP)(e:Nat)(xs:List PV),aU hp (.sl e xs)= .sl e xs)/\
  (∀(hp:HP)(k:IntKind)(n:Int),aU hp (.int k n)= .int k n)/\
  (∀(hp:HP)(b:Bool),aU hp (.bool b)= .bool b)/\
  (∀(hp:HP)(cs:List PV),aU hp (.agg cs)= .agg cs)/\
  (∀(hp:HP),aU hp .au= .au)/\
  (∀(e:Nat)(xs:List PV),(PV.sl e xs).refs=[])/\
  (∀(k:IntKind)(n:Int),(PV.int k n).refs=[])/\
  (∀(b:Bool),(PV.bool b).refs=[])/\
  (∀(cs:List PV),(PV.agg cs).refs=[])/\
  (PV.au.refs=[])/\
  (∀(β o n:Nat),(PV.aB β o n).refs=[β])/\
  (∀(β i o:Nat),(PV.mp β i o).refs=[β])/\
  (∀(β e:Nat)(xs:List PV),cA β (.sl e xs)= .sl e xs)/\
  (∀(β:Nat)(k:IntKind)(n:Int),cA β (.int k n)= .int k n)/\
  (∀(β:Nat)(b:Bool),cA β (.bool b)= .bool b)/\
  (∀(β:Nat)(cs:List PV),cA β (.agg cs)= .agg cs)/\
  (∀(β:Nat),cA β .au= .au)/\
  (∀(β γ o n:Nat),cA β (.aB γ o n)=if γ=β then .undef else .aB γ o n)/\
  (∀(β γ i o:Nat),cA β (.mp γ i o)=if γ=β then .undef else .mp γ i o)/\
  (∀(β γ o n:Nat),cA β (.rb γ o n)=if γ=β then .undef else .rb γ o n)/\
  (∀(β o n:Nat),(PV.rb β o n).refs=[β])/\
  (∀(o:cO)(fr:Fr)(hp:HP)(K:Qh),lA o fr hp K=match o.dst with|some d=>K (af fr d (.aH [])) hp|none=>K fr hp)/\
  (∀(f:aX->PV),Option.map f none=none)/\(∀(f:aX->PV)(x:aX),Option.map f (some x)=some (f x))/\
  (∀(k:IntKind)(n:Int),(PV.int k n).cells=[.int k n])/\
  (∀(b:Bool),(PV.bool b).cells=[.bool b])/\
  (∀(e:Nat)(xs:List PV),(PV.sl e xs).cells=[.sl e xs])/\
  (∀(cs:List PV),(PV.agg cs).cells=cs):=by
 refine⟨fun _ _ _ _=>rfl,fun _ _ _ _=>rfl,fun _=>rfl,ah2,afB,aej,afC,afD,ahH,afE,aek,afF,afG,fun _ _ _=>rfl,fun _ _ _=>rfl,afH,ael,acK,aem,aen,QH,QI,afI,fun _ _ _=>rfl,fun _ _ _ _=>rfl,fun _=>rfl,fun _ _=>rfl,fun _ _=>rfl,fun _=>rfl,fun _ _=>rfl,fun _=>rfl⟩
theorem aoL{p:Nat->Prop}(h:∃m,p m):∃m,p m/\∀k,p k->m<=k:=by
 obtain⟨m,hm⟩:=h;induction m using Nat.strongRecOn with
 |ind m ih=>
  by_cases hk:∃k,k<m/\p k
  ·obtain⟨k,h1,h2⟩:=hk;exact ih k h1 h2
  ·exact⟨m,hm,fun k bI=>Nat.le_of_not_lt fun aw=>hk ⟨k,aw,bI⟩⟩
def Bc(I:Nat->Qh)(n:Nat):Qh:=fun aG hp'=>∃bU aA,Wk aG hp' bU aA/\∃m,m<n/\I m bU aA
theorem qk{I:Nat->Qh}{n m:Nat}(hl:m<n)(h:I m fr hp):Bc I n fr hp:=⟨fr,hp,Wk.refl _ _,m,hl,h⟩
theorem Mb{I:Nat->Qh}{n m:Nat}{aG:Fr}{hp':HP}(hl:m<n)(hw:Wk fr hp aG hp')(h:I m aG hp'):Bc I n fr hp:=⟨aG,hp',hw,m,hl,h⟩
theorem CE{sk:List It}{x:SC}(I:Nat->Qh)(m0:Nat){bU:Fr}{aA:HP}(hw:Wk fr hp bU aA)(h0:I m0 bU aA)(h:∀m fr hp,I m fr hp->vc C R (.c x:: .el (Bc I m)::sk) fr hp):vc C R (.c (.loop x)::sk) fr hp:=by
 refine af1 (fun fr hp=>∃m,I m fr hp) (fun fr hp=>Classical.epsilon fun m=>I m fr hp/\∀k,I k fr hp->m<=k) hw ⟨m0,h0⟩ ?_;intro fr hp hI;have key:∀fr hp,(∃m,I m fr hp)->I (Classical.epsilon fun m=>I m fr hp/\∀k,I k fr hp->m<=k) fr hp/\∀k,I k fr hp->(Classical.epsilon fun m=>I m fr hp/\∀k,I k fr hp->m<=k)<=k:=fun fr hp hI=>Classical.epsilon_spec (aoL hI);have e:Bj (fun fr hp=>∃m,I m fr hp) (fun fr hp=>Classical.epsilon fun m=>I m fr hp/\∀k,I k fr hp->m<=k) (Classical.epsilon fun m=>I m fr hp/\∀k,I k fr hp->m<=k)=Bc I (Classical.epsilon fun m=>I m fr hp/\∀k,I k fr hp->m<=k):=by
  funext aG hp';apply propext;constructor
  ·rintro⟨bU,aA,h1,h2,h3⟩;exact⟨bU,aA,h1,_,h3,(key bU aA h2).1⟩
  ·rintro⟨bU,aA,h1,m,h2,h3⟩;exact⟨bU,aA,h1,⟨m,h3⟩,KcP ((key bU aA ⟨m,h3⟩).2 m h3) h2⟩
 rw[e];exact h _ fr hp (key fr hp hI).1
theorem tI{sk:List It}{x:SC}(I:Nat->Qh)(m0:Nat)(h0:I m0 fr hp)(h:∀m fr hp,I m fr hp->vc C R (.c x:: .el (Bc I m)::sk) fr hp):vc C R (.c (.loop x)::sk) fr hp:=
 CE I m0 (Wk.refl _ _) h0 h
theorem alF{α:Type}{e:Nat}{f:α->PV}:PV.le .au (.sl e (([]:List α).map f)):=trivial
theorem CY{P:Program}(hP:C.P=P){g:FuncId}{first cap args bx:List PV}{pr:Bool}{d:Option Nat}{r:PV}(h:Qd P g bx (· =r))(cK:(first++args++cap).map (aU hp)=bx)(jG:bx.all PV.aN=true)(hr:(first++args++cap).flatMap PV.refs=[])
  (hK:K (dv fr d r) hp):gl C pr (.fn g first cap) args d fr hp K:=by
 refine ln hP h cK jG ?_;rw[hr];exact hK
theorem nu{P:Program}(hP:C.P=P){g:FuncId}{first cap args bx:List PV}{pr:Bool}{d:Option Nat}{Rr:PV->Prop}(h:Qd P g bx Rr)(cK:(first++args++cap).map (aU hp)=bx)(jG:bx.all PV.aN=true)(hr:(first++args++cap).flatMap PV.refs=[])
  (hK:∀r,Rr r->K (dv fr d r) hp):gl C pr (.fn g first cap) args d fr hp K:=by
 refine OR hP h cK jG fun r h=>?_;rw[hr];exact hK r h
theorem ahI{d β n ty:Nat}{xs ys:List PV}(hb:hp β=some ⟨1,ty,xs,false⟩)(hn:n=xs.length):
  sK 1 (.ms β n) (.sl 1 ys) d fr hp K=K (af fr d (.int .i64 (min (ys.length:Int) n))) (Qj hp β ⟨1,ty,ys.take n++xs.drop ys.length,false⟩):=by
 simp[sK,jx,hb,hn]
theorem afJ{d β n ty e:Nat}{xs ys:List PV}(hb:hp β=some ⟨e,ty,xs,false⟩)(he:0<e)(hn:n=xs.length):
  sK e (.ms β n) (.sl e ys) d fr hp K=K (af fr d (.int .i64 (min (ys.length:Int) n))) (Qj hp β ⟨e,ty,ys.take n++xs.drop ys.length,false⟩):=by
 simp[sK,jx,hb,hn,he]
theorem Tg{by_ ty d:Nat}{kz k k':IntKind}{nz:Int}{L Cc:Int}(h1:0<=L)(h2:L<=Cc)(h3:by_*Cc<=281474976710656)(h4:Cc<=9223372036854775807):
  qe 1 by_ ty (.int kz nz) (.int k L) (.int k' Cc) d fr hp K=K (af (cP d fr) d (.ms d L.toNat)) (Qj hp d ⟨1,ty,List.replicate L.toNat (.int kz nz),false⟩):=by
 exact FX (e:=1) (by omega) rfl h1 h2 h3 h4
theorem S'{ty β i:Nat}{xs:List PV}{k:IntKind}{n:Int}(h:i<xs.length):stM (some ⟨1,ty,xs,false⟩) β 1 i 0 (.int k n) fr hp K=K fr (Qj hp β ⟨1,ty,xs.set i (.int k n),false⟩):=
 qp h rfl rfl
theorem adW(h:HP)(a:Nat)(v w:HB):Qj (Qj h a v) a w=Qj h a w:=by funext i;unfold Qj;split<;>rfl
theorem alG{ty d:Nat}{k:IntKind}{n:Int}:mu 1 ty [.int k n] d fr hp K=K (af (cP d fr) d (.ms d 1)) (Qj hp d ⟨1,ty,[.int k n],false⟩):=by simp[mu,nA,ko,DU,HF,aU,cZ,PV.refs,PV.aN,PV.cells];rfl
theorem Da{β n e ty:Nat}{xs:List PV}{fz:Bool}{r:PV}(hb:hp β=some ⟨e,ty,xs,fz⟩)(h:PV.sl e (xs.take n)=r)(hB:bJ β=false:=by decide):Ae (· =r) (aU hp (.ms β n)):=by rw[Jt hp β n e ty xs fz hb hB];exact Qc h (by rw[<-h];rfl)
theorem CZ{e by_ ty ty' d β γ n:Nat}{xs:List PV}{y:PV}{fz:Bool}(hb:hp β=some ⟨e,ty,xs,false⟩)(hy:hp γ=some ⟨e,ty',[y],fz⟩)(h0:0<e)(hn:n=xs.length)(h1:(n+1)*by_<=140737488355328)(h2:n+1<=9223372036854775807)(hB:bJ β=false:=by decide):
  ia e by_ ty (.ms β n) (.ms γ 1) d fr hp K=K (af (cP β fr) d (.ms β (n+1))) (Qj hp β ⟨e,ty,xs++[y],false⟩):=by
 subst hn;rw[K7 (ys:=[y]) (xs:=xs) (by simp[jx,hy]) hb h0 (Kae _) (by simpa using h1) (by simpa using h2) hB];simp
theorem UG(n:Nat):IntKind.u16.wrap (n:Int)=((n%65536:Nat):Int):=by simp only[IntKind.wrap,IntKind.bits,IntKind.signed];simp
theorem J6{bt:Bool}{k k':IntKind}{x y:Int}{d:Nat}(h:0<=y):cu .shr bt (.int k x) (.int k' y) d fr hp K=K (af fr d (.int k (x.fdiv (2^(min y.toNat k.bits))))) hp:=by simp[cu,h]
theorem OS{bt:Bool}{k':IntKind}{n d:Nat}:cu .shr bt (.int .u64 (n:Int)) (.int k' 16) d fr hp K=K (af fr d (.int .u64 ((n/65536:Nat):Int))) hp:=by
 rw[J6 (by omega)];have:min (16:Int).toNat IntKind.u64.bits=16:=by decide
 rw[this,Kc2 _ (by omega)];simp
theorem adX{bt:Bool}{k':IntKind}{n d:Nat}:cu .shr bt (.int .u32 (n:Int)) (.int k' 16) d fr hp K=K (af fr d (.int .u32 ((n/65536:Nat):Int))) hp:=by
 rw[J6 (by omega)];have:min (16:Int).toNat IntKind.u32.bits=16:=by decide
 rw[this,Kc2 _ (by omega)];simp
end Go.FW
namespace Go.FW
def val:List Nat->Nat
 | []=>0
 |x::xs=>x+65536*val xs
def Qk(l:List Nat):Prop:=∀x∈l,x<65536
def ao(n:Nat):List Nat:=if h:n=0 then []else n%65536::ao (n/65536)
termination_by n
decreasing_by omega
def nl(n:Nat):Nat:=(ao n).length
theorem qq:Qk []:=by simp[Qk]
theorem jt{x:Nat}{l:List Nat}:Qk (x::l)↔x<65536/\Qk l:=by simp[Qk]
theorem ql{l m:List Nat}:Qk (l++m)↔Qk l/\Qk m:=by
 simp only[Qk,KaL];constructor
 ·intro h;exact⟨fun x hx=>h x (.inl hx),fun x hx=>h x (.inr hx)⟩
 ·rintro⟨h1,h2⟩ x (hx|hx)
  ·exact h1 x hx
  ·exact h2 x hx
theorem As{l:List Nat}(h:Qk l)(n:Nat):Qk (l.take n):=fun x hx=>h x (Kbf hx)
theorem Cu{l:List Nat}(h:Qk l)(n:Nat):Qk (l.drop n):=fun x hx=>h x (KbO hx)
theorem fm{l:List Nat}(h:Qk l){i:Nat}(hi:i<l.length):l[i]<65536:=h _ (Kah hi)
theorem gW:ao 0=[]:=by rw[ao];simp
theorem wK{n:Nat}(h:n≠0):ao n=n%65536::ao (n/65536):=by rw[ao];simp[h]
theorem Qm(n:Nat):Qk (ao n):=by
 induction n using ao.induct with
 |case1=>rw[gW];exact qq
 |case2 n h ih=>rw[wK h,jt];exact⟨by omega,ih⟩
theorem Qy(n:Nat):val (ao n)=n:=by
 induction n using ao.induct with
 |case1=>rw[gW];rfl
 |case2 n h ih=>rw[wK h,val,ih];omega
theorem mL{n:Nat}:ao n=[]↔n=0:=by
 constructor
 ·intro h;have:=Qy n;rw[h]at this;exact this.symm
 ·rintro rfl;exact gW
theorem yy:nl 0=0:=by simp[nl,gW]
theorem Cv{n:Nat}:nl n=0↔n=0:=by rw[nl,KaI,mL]
theorem alH{n:Nat}(h:n≠0):nl n=nl (n/65536)+1:=by simp[nl,wK h]
theorem oW(l m:List Nat):val (l++m)=val l+65536^l.length*val m:=by
 induction l with
 |nil=>simp[val]
 |cons x l ih=>simp only[KaW,val,ih,KaT,Kbv];rw[Ka4,<-Nat.mul_assoc,KaP 65536 (65536^_)];omega
theorem rE{l:List Nat}(h:Qk l):val l<65536^l.length:=by
 induction l with
 |nil=>simp[val]
 |cons x l ih=>rw[jt]at h;have:=ih h.2;simp only[val,KaT,Kbv];omega
theorem OT(n:Nat):val (List.replicate n 0)=0:=by
 induction n with
 |zero=>rfl
 |succ n ih=>simp[KbL,val,ih]
theorem Db{l:List Nat}(h:Qk l)(hl:l.getLast? ≠some 0):ao (val l)=l:=by
 induction l with
 |nil=>simp[val,gW]
 | cons x l ih=>
  rw[jt]at h;have XU:l.getLast? ≠some 0:=by intro hh;apply hl;rw[KcQ,hh];rfl
  have aJ:val (x::l)≠0:=by
   simp only[val];intro h0;have h1:val l=0:=by omega
   have:=ih h.2 XU;rw[h1,gW]at this;subst this;simp at hl;omega
  rw[wK aJ];simp only[val];rw[show(x+65536*val l)%65536=x by omega,show(x+65536*val l)/65536=val l by omega,ih h.2 XU]
theorem C0(n:Nat):(ao n).getLast? ≠some 0:=by
 induction n using ao.induct with
 |case1=>simp[gW]
 | case2 n h ih=>
  rw[wK h,KcQ];cases hd:(ao (n/65536)).getLast? with
  |none=>
   have:n/65536=0:=by rw[List.getLast?_eq_none_iff,mL]at hd;exact hd
   simp;omega
  |some y=>rw[hd]at ih;simpa using ih
def cut(l:List Nat):Nat->List Nat
 |0=>[]
 |n+1=>if l[n]? =some 0 then cut l n else l.take (n+1)
theorem Ta{l:List Nat}(h:Qk l):∀n,n<=l.length->cut l n=ao (val (l.take n))
 |0,_=>by simp[cut,val,gW]
 | n+1,hn=>by
  have e:l.take (n+1)=l.take n++[l[n]]:=by rw[Kak (by omega)]
  unfold cut;split
  ·rename_i hz;rw[Ta h n (by omega),e,oW];rw[Kag (by omega)]at hz;have v3:l[n]=0:=by simpa using hz
   simp[val,v3]
  ·rename_i hz;rw[Db (As h _)];rw[e,List.getLast?_concat];intro h0;apply hz;rw[Kag (by omega)];exact h0
theorem Dc{l:List Nat}(h:Qk l):cut l l.length=ao (val l):=by rw[Ta h _ (Kae _),Kaz]
theorem cq{l:List Nat}(h:Qk l):nl (val l)<=l.length:=by
 rw[nl,<-Dc h];have:∀n,(cut l n).length<=n:=by
  intro n;induction n with
  |zero=>simp[cut]
  |succ n ih=>
   unfold cut;split
   ·omega
   ·simp;omega
 have h1:=this l.length;exact h1
theorem nw{n k:Nat}:nl n<=k↔n<65536^k:=by
 induction k generalizing n with
 |zero=>simp[Cv]
 | succ k ih=>
  by_cases h:n=0
  ·subst h;simp[yy];exact Kbw (by omega)
  ·rw[alH h,Nat.add_le_add_iff_right,ih,Kbv,Kbi (by omega)]
theorem iL{m n:Nat}(h:m<=n):nl m<=nl n:=nw.2 (KcP h (nw.1 (Kae _)))
theorem Tb(m n:Nat):nl (m+n)<=max (nl m) (nl n)+1:=by rw[nw,Kbv];have h1:m<65536^(max (nl m) (nl n)):=nw.1 (by omega);have h2:n<65536^(max (nl m) (nl n)):=nw.1 (by omega);omega
theorem rF(m n:Nat):nl (m*n)<=nl m+nl n:=by rw[nw,Nat.pow_add];exact Nat.mul_lt_mul'' (nw.1 (Kae _)) (nw.1 (Kae _))
theorem qu{n:Nat}(h:n<18446744073709551616):nl n<=4:=nw.2 (by simpa using h)
theorem GR{n:Nat}:nl n<=4↔n<18446744073709551616:=by rw[nw]
theorem uW:ao 1=[1]:=by rw[wK (by omega)];simp[gW]
open Go
variable {C : Ctx} {ρ : Nat -> Option Nat} {fr : Fr} {hp : HP} {w : World} {K R : Qh}
abbrev cD(l:List Nat):List PV:=l.map fun(x:Nat)=>.int .u16 x
abbrev nC(l:List Int):List PV:=l.map fun(x:Int)=>.int .i64 x
theorem alI(a b:Nat):(a:Int)+(b:Int)=((a+b:Nat):Int):=rfl
theorem ahJ(a:Nat):(a:Int)+1=((a+1:Nat):Int):=rfl
theorem ahK(a:Nat):(a:Int)+2=((a+2:Nat):Int):=rfl
theorem ahL(a:Nat):(a:Int)+3=((a+3:Nat):Int):=rfl
theorem alJ(a b:Nat):(a:Int)*(b:Int)=((a*b:Nat):Int):=rfl
theorem ahM{α:Type}{f:α->PV}{e d:Nat}{k:IntKind}{i:Nat}{xs:List α}(h:i<xs.length):
  jQ e (.sl e (xs.map f)) (.int k (i:Int)) d fr hp K=K (af fr d (.pt (f (xs[i]'h)).cells)) hp:=by
 rw[AU (by omega) (by omega)];rfl
theorem ahN{e d β o n i:Nat}{k:IntKind}(h:i<n)(he:(hp β).map (·.e)=some e):jQ e (.aB β o n) (.int k (i:Int)) d fr hp K=K (af fr d (.mp β (o+i) 0)) hp:=by rw[alD (by omega) (by omega) he];rfl
theorem ame{α:Type}{f:α->PV}{e d:Nat}{xs:List α}{k:IntKind}{n:Nat}(h5:n<=xs.length):
  kj e (.sl e (xs.map f)) none (some (.int k (n:Int))) none d fr hp K=K (af fr d (.sl e ((xs.take n).map f))) hp:=by
 rw[LL (by omega) (by omega)];rfl
theorem amf{α:Type}{f:α->PV}{e d:Nat}{xs:List α}{k:IntKind}{n:Nat}(h5:n<=xs.length):
  kj e (.sl e (xs.map f)) (some (.int k (n:Int))) none none d fr hp K=K (af fr d (.sl e ((xs.drop n).map f))) hp:=by
 rw[aei (by omega) (by omega)];rfl
theorem age{α:Type}{f:α->PV}{e d:Nat}{xs:List α}{k k':IntKind}{m n:Nat}(h4:m<=n)(h5:n<=xs.length):
  kj e (.sl e (xs.map f)) (some (.int k (m:Int))) (some (.int k' (n:Int))) none d fr hp K=K (af fr d (.sl e (((xs.take n).drop m).map f))) hp:=by
 rw[Q9o (by omega) (by omega) (by omega)];rfl
theorem amg{by_ ty d:Nat}{k k':IntKind}{n c:Nat}(h2:n<=c)(h3:by_*c<=281474976710656)(h4:c<=9223372036854775807):
  qe 1 by_ ty (.int .u16 0) (.int k (n:Int)) (.int k' (c:Int)) d fr hp K=K (af (cP d fr) d (.ms d n)) (Qj hp d ⟨1,ty,cD (List.replicate n 0),false⟩):=by
 rw[Tg (by omega) (by omega) (by omega) (by omega)];simp[cD]
theorem amh{ty i d:Nat}{fz:Bool}{l:List Nat}(h:i<l.length):nq (some ⟨1,ty,cD l,fz⟩) 1 false i 0 d fr hp K=K (af fr d (.int .u16 (l[i]'h:Nat))) hp:=by rw[uZ (by simpa using h) (by omega) (by simp)];simp[fB,PV.cells]
theorem ami{ty i d:Nat}{fz:Bool}{l:List Int}(h:i<l.length):nq (some ⟨1,ty,nC l,fz⟩) 1 false i 0 d fr hp K=K (af fr d (.int .i64 (l[i]'h))) hp:=by rw[uZ (by simpa using h) (by omega) (by simp)];simp[fB,PV.cells]
theorem Tc{ty β i v:Nat}{l:List Nat}(h:i<l.length):stM (some ⟨1,ty,cD l,false⟩) β 1 i 0 (.int .u16 (v:Int)) fr hp K=K fr (Qj hp β ⟨1,ty,cD (l.set i v),false⟩):=by rw[S' (by simpa using h)];simp[cD,List.map_set]
theorem amj{ty β i:Nat}{v:Int}{l:List Int}(h:i<l.length):stM (some ⟨1,ty,nC l,false⟩) β 1 i 0 (.int .i64 v) fr hp K=K fr (Qj hp β ⟨1,ty,nC (l.set i v),false⟩):=by rw[S' (by simpa using h)];simp[nC,List.map_set]
theorem agf{β n ty:Nat}{l:List Nat}{fz:Bool}(h:hp β=some ⟨1,ty,cD l,fz⟩)(hn:n=l.length)(hB:bJ β=false:=by decide):aU hp (.ms β n)= .sl 1 (cD l):=by rw[Jt hp β n _ _ _ _ h hB,Kac (by simp[hn])]
theorem ym{P:Program}(hP:C.P=P){g:FuncId}{first cap args bx:List PV}{pr:Bool}{d:Option Nat}{r:PV}(h:Qd P g bx (· =r))(cK:(first++args++cap).map (aU hp)=bx)(jG:bx.all PV.aN=true)
  (hK:∀hp',K (dv fr d r) hp'):gl C pr (.fn g first cap) args d fr hp K:=ln hP h cK jG (hK _)
end Go.FW
namespace Go.FW
def ji(x y:Nat):Int:=if x<y then -1 else if y<x then 1 else 0
theorem Ju{x y:Nat}(h:x<y):ji x y= -1:=by simp[ji,h]
theorem Jv{x y:Nat}(h:y<x):ji x y=1:=by simp[ji,h];omega
theorem R0{x y:Nat}(h:x=y):ji x y=0:=by simp[ji,h]
theorem QJ{x y:Nat}(h:nl x<nl y):x<y:=by
 rcases Kcz x y with h1|h1
 ·exact h1
 ·have:=iL h1;omega
theorem ss(l:List Nat)(k:Nat)(hk:k<=l.length):val l=val (l.take k)+65536^k*val (l.drop k):=by have:=oW (l.take k) (l.drop k);rw[KbB,KaF,Kcb hk]at this;exact this
theorem wo{l:List Nat}(h:Qk l)(k:Nat)(hk:k<=l.length):val (l.take k)<65536^k:=by
 have:=rE (As h k)
 rwa[KaF,Kcb hk]at this
theorem ot{l:List Nat}{k:Nat}(hk:k<l.length):val (l.drop k)=l[k]+65536*val (l.drop (k+1)):=by rw[KaA hk,val]
theorem Q9p{a b:List Nat}(ha:Qk a){k:Nat}(IJ:k<=a.length)(EL:k<=b.length)(h:val (a.drop k)<val (b.drop k)):val a<val b:=by rw[ss a k IJ,ss b k EL];have h1:=wo ha k IJ;have h2:65536^k*(val (a.drop k)+1)<=65536^k*val (b.drop k):=KaE _ h;rw[Ka4]at h2;omega
theorem OU{a b:List Nat}(ha:Qk a){k:Nat}(IJ:k<a.length)(EL:k<b.length)(h:a[k]<b[k])(he:val (a.drop (k+1))=val (b.drop (k+1))):val a<val b:=by refine Q9p ha (k:=k) (by omega) (by omega) ?_;rw[ot IJ,ot EL,he];omega
def kP:List Nat->List Nat->Nat->List Nat
 | [],_,c=>if c=0 then []else [c]
 |x::xs,ys,c=>(c+x+ys.headD 0)%65536::kP xs ys.tail ((c+x+ys.headD 0)/65536)
theorem CF(l:List Nat):val l=l.headD 0+65536*val l.tail:=by cases l<;>simp[val]
theorem QK:∀(a b:List Nat)(c:Nat),b.length<=a.length->val (kP a b c)=val a+val b+c
 | [],b,c,h=>by have:b=[]:=KaI.1 (by simpa using h);subst this;unfold kP;split<;>simp[val];omega
 |x::xs,b,c,h=>by rw[kP,val,QK xs b.tail _ (by simp at h ⊢;omega),val,CF b];omega
theorem VC:∀(a b:List Nat)(c:Nat),c<65536->Qk a->Qk b->b.length<=a.length->Qk (kP a b c)
 | [],b,c,hc,_,_,_=>by unfold kP;split<;>simp[Qk];exact hc
 |x::xs,b,c,hc,ha,hb,h=>by
  rw[jt]at ha;have hb0:b.headD 0<65536:=by cases b with|nil=>simp|cons y ys=>exact hb _ (by simp)
  rw[kP,jt];exact⟨by omega,VC xs b.tail _ (by omega) ha.2 (fun x hx=>hb x (List.mem_of_mem_tail hx)) (by simp at h ⊢;omega)⟩
theorem OV:∀(a b:List Nat)(c:Nat),a.getLast? ≠some 0->(kP a b c).getLast? ≠some 0
 | [],b,c,_=>by unfold kP;split<;>simp;assumption
 | x::xs,b,c,h=>by
  rw[kP,KcQ];cases xs with
  |nil=>
   simp only[List.getLast?_singleton,ne_eq,KaH]at h;simp only[kP];generalize b.headD 0=y;split
   ·rename_i h0;simp;omega
   ·rename_i h0;simp;omega
  |cons y ys=>
   have ih:=OV (y::ys) b.tail ((c+x+b.headD 0)/65536) (by rw[KcQ]at h;simpa[KcQ]using h);cases hl:(kP (y::ys) b.tail ((c+x+b.headD 0)/65536)).getLast? with
   |none=>rw[List.getLast?_eq_none_iff]at hl;simp[kP]at hl
   |some z=>rw[hl]at ih;simpa using ih
theorem agh{x y:Nat}(h:nl y<=nl x):kP (ao x) (ao y) 0=ao (x+y):=by have h1:=QK (ao x) (ao y) 0 h;rw[Qy,Qy,KaY]at h1;rw[<-h1,Db (VC _ _ _ (by omega) (Qm x) (Qm y) h) (OV _ _ _ (C0 x))]
def oB:List Nat->List Nat->Nat->List Nat
 | [],_,_=>[]
 |x::xs,ys,c=>(x+65536-c-ys.headD 0)%65536::oB xs ys.tail (if x<c+ys.headD 0 then 1 else 0)
theorem VD:∀(a b:List Nat)(c:Nat),Qk (oB a b c)
 | [],_,_=>qq
 |x::xs,b,c=>by rw[oB,jt];exact⟨by omega,VD xs _ _⟩
theorem Vc:∀(a b:List Nat)(c:Nat),(oB a b c).length=a.length
 | [],_,_=>rfl
 |x::xs,b,c=>by simp[oB,Vc xs]
theorem QL:∀(a b:List Nat)(c:Nat),c<=1->Qk a->Qk b->b.length<=a.length->val b+c<=val a->val (oB a b c)+val b+c=val a
 | [],b,c,_,_,_,h,h2=>by have:b=[]:=KaI.1 (by simpa using h);subst this;simp[val]at h2 ⊢;simp[oB,val,h2]
 |x::xs,b,c,hc,ha,hb,h,h2=>by
  rw[jt]at ha;have hb0:b.headD 0<65536:=by cases b with|nil=>simp|cons y ys=>exact hb _ (by simp)
  rw[val,CF b]at h2;rw[oB,val,val,CF b];have ih:=QL xs b.tail (if x<c+b.headD 0 then 1 else 0) (by split<;>omega) ha.2 (fun x hx=>hb x (List.mem_of_mem_tail hx)) (by simp at h ⊢;omega) (by generalize b.headD 0=y at *;split<;>omega);generalize b.headD 0=y at *
  split at ih
  ·rename_i h0;rw[if_pos h0];omega
  ·rename_i h0;rw[if_neg h0];omega
theorem C1{done:List Nat}{i n v:Nat}(h:done.length=i)(hn:0<n):(done++List.replicate n 0).set i v=(done++[v])++List.replicate (n-1) 0:=by
 subst h;obtain⟨n,rfl⟩:∃k,n=k+1:=⟨n-1,by omega⟩
 simp[KbL]
theorem Mc{done:List Nat}{i n m:Nat}(h:done.length=i)(hn:i+n=m):(done++List.replicate n 0).length=m:=by simp[h,hn]
theorem adY{a b:List Nat}{i c:Nat}(h:i<a.length):kP (a.drop i) (b.drop i) c=(c+a[i]+b.getD i 0)%65536::kP (a.drop (i+1)) (b.drop (i+1)) ((c+a[i]+b.getD i 0)/65536):=by rw[KaA h,kP];simp[KbP,KcJ,Kad]
theorem adZ{a b:List Nat}{i c:Nat}(h:i<a.length):oB (a.drop i) (b.drop i) c=(a[i]+65536-c-b.getD i 0)%65536::oB (a.drop (i+1)) (b.drop (i+1)) (if a[i]<c+b.getD i 0 then 1 else 0):=by rw[KaA h,oB];simp[KbP,KcJ,Kad]
theorem iM{b:List Nat}{i:Nat}(h:i<b.length):b.getD i 0=b[i]:=by simp[Kad,h]
theorem iO{b:List Nat}{i:Nat}(h:¬i<b.length):b.getD i 0=0:=by simp[Kad,h]
open Go
variable {C : Ctx} {ρ : Nat -> Option Nat} {fr : Fr} {hp : HP} {w : World} {K K' R : Qh}
theorem Md(h:∀fr hp,K fr hp->K' fr hp)(o:cO):bP C o fr hp K->bP C o fr hp K':=by
 cases o with
 | call d pr f args=>
  simp only[bP,gl];split
  ·rintro⟨h1,h2⟩;refine⟨h1,fun ρ tmps w fv cv av a1 a2 a3 a4 a5 a6 a7 a8=>(h2 ρ tmps w fv cv av a1 a2 a3 a4 a5 a6 a7 a8).mono ?_⟩;rintro e w' ⟨v,aG,hp',e1,e2,e3,e4⟩;exact⟨v,aG,hp',e1,e2,e3,h _ _ e4⟩
  ·exact id
 |bs d e ty ps=>
  simp only[bP,mu];split
  ·exact fun H=>⟨H.1,h _ _ H.2⟩
  ·exact fun H=>⟨H.1,H.2.1,h _ _ H.2.2⟩
 | app d e by_ ty s x=>
  simp only[bP,ia];intro H;revert H;split
  ·unfold w6;split
   ·split
    ·rintro⟨a1,a2,a3,H⟩;refine⟨a1,a2,a3,?_⟩;revert H;split
     ·exact fun H=>⟨H.1,h _ _ H.2⟩
     ·split
      ·exact fun H=>⟨H.1,H.2.1,h _ _ H.2.2⟩
      ·exact id
     ·exact id
    ·exact id
   ·exact id
  ·rintro⟨h0,h1,H⟩;refine⟨h0,h1,?_⟩;revert H;split
   ·rintro⟨a,b,c⟩;exact⟨a,b,h _ _ c⟩
   ·split
    ·rintro(⟨a1,a2,a3,a4,a5,a6,a7,c⟩|⟨a1,a2,a3,c⟩)
     ·exact .inl ⟨a1,a2,a3,a4,a5,a6,a7,h _ _ c⟩
     ·exact .inr ⟨a1,a2,a3,h _ _ c⟩
    ·exact id
   ·exact id
 |bin d op bt x y=>
  simp only[bP,cu];intro H;revert H;split
  ·split<;>first|exact fun H=>⟨H.1,H.2.1,h _ _ H.2.2⟩|exact fun H=>⟨H.1,h _ _ H.2⟩|exact id
  ·split<;>first|exact fun H=>⟨H.1,h _ _ H.2⟩|exact id
  ·exact id
 | _=>
  simp only[bP,tV,tW,yR,wY,vf,xY,yK,rI,z6,z4,jQ,wR,wZ,tX,tS,kf,qf,jB,qe,mu,ia,sK,kj,qD,oA,FU,DK]
  try (intro H;revert H)
  try (repeat' split)
  all_goals first
   |exact id
   |exact h _ _
   |grind
theorem VE(h:∀fr hp,K fr hp->K' fr hp)(o:cO):lA o fr hp K->lA o fr hp K':=by unfold lA;split<;>exact h _ _
theorem ad0(h:∀fr hp,K fr hp->K' fr hp)(g:Option (Nat×Bool))(o:cO):rJ C g o fr hp K->rJ C g o fr hp K':=by
 unfold rJ;split
 ·exact Md h o
 ·split
  ·exact fun H=>⟨fun e=>Md h o (H.1 e),fun e=>VE h o (H.2 e)⟩
  ·exact VE h o
  ·exact id
theorem Td{sk:List It}{g:Option (Nat×Bool)}{o:cO}{r:RT}:vc C R (.o (.o g o r)::sk) fr hp=rJ C g o fr hp (fun fr hp=>vc C R (.o r::sk) fr hp):=by rw[vc]
theorem Ti{sk:List It}{x y:RT}:vc C R (.o (.br x y)::sk) fr hp=(vc C R (.o x::sk) fr hp/\vc C R (.o y::sk) fr hp):=by rw[vc]
theorem Cw{id:Nat}{M:Qh}{sk:List It}:∀(pre:List It),(∃p,FW.cC id (pre++ .el M::sk)=some (p++ .el M::sk)/\FW.cC id (pre++sk)=some (p++sk)/\cw p<=cw pre)∨FW.cC id (pre++ .el M::sk)=FW.cC id (pre++sk)
 | []=>.inr rfl
 |.c s::pre=>by
  rcases Cw (id:=id) (M:=M) (sk:=sk) pre with⟨p,h1,h2,h3⟩|h
  ·exact .inl ⟨p,h1,h2,by simp only[cw];omega⟩
  ·exact .inr h
 |.o s::pre=>by
  rcases Cw (id:=id) (M:=M) (sk:=sk) pre with⟨p,h1,h2,h3⟩|h
  ·exact .inl ⟨p,h1,h2,by simp only[cw];omega⟩
  ·exact .inr h
 |.el s::pre=>by
  rcases Cw (id:=id) (M:=M) (sk:=sk) pre with⟨p,h1,h2,h3⟩|h
  ·exact .inl ⟨p,h1,h2,by simp only[cw];omega⟩
  ·exact .inr h
 |.eb i::pre=>by
  by_cases hi:i=id
  ·exact .inl ⟨pre,by simp[FW.cC,hi],by simp[FW.cC,hi],by simp only[cw];omega⟩
  ·rcases Cw (id:=id) (M:=M) (sk:=sk) pre with⟨p,h1,h2,h3⟩|h
   ·exact .inl ⟨p,by simp[FW.cC,hi,h1],by simp[FW.cC,hi,h2],by simp only[cw];omega⟩
   ·exact .inr (by simp[FW.cC,hi,h])
theorem Dd{M:Qh}{sk:List It}(hM:∀fr hp,M fr hp->vc C R sk fr hp):∀(n:Nat)(pre:List It)(fr:Fr)(hp:HP),cw pre<=n->vc C R (pre++ .el M::sk) fr hp->vc C R (pre++sk) fr hp:=by
 intro n;induction n with
 | zero=>
  intro pre fr hp hn h;cases pre with
  |nil=>simp only[KaO,yI]at h ⊢;exact hM _ _ h
  |cons i pre=>
   exfalso;have:=SC.B9;cases i<;>simp only[cw,It.sz]at hn
   ·rename_i s;have:=SC.B9 s;omega
   ·rename_i s;have:=RT.B9 s;omega
   ·omega
   ·omega
 | succ n ih=>
  intro pre fr hp hn h;cases pre with
  |nil=>simp only[KaO,yI]at h ⊢;exact hM _ _ h
  | cons i pre=>
   cases i with
   |eb i=>simp only[KaW,FV]at h⊢;exact ih _ _ _ (by simp only[cw,It.sz]at hn;omega) h
   |el J=>simp only[KaW,yI]at h ⊢;exact h
   | o r=>
    cases r with
    |nil=>simp only[KaW,DC]at h⊢;exact ih _ _ _ (by simp only[cw,It.sz,RT.sz]at hn;omega) h
    |o g o r=>simp only[KaW,Td]at h⊢;refine ad0 (fun fr hp h=>?_) g o h;exact ih (.o r::pre) _ _ (by simp only[cw,It.sz,RT.sz]at hn ⊢;omega) h
    |wk r=>simp only[KaW,HV]at h⊢;obtain⟨bU,aA,hw,h⟩:=h;exact⟨bU,aA,hw,ih (.o r::pre) _ _ (by simp only[cw,It.sz,RT.sz]at hn ⊢;omega) h⟩
    |br x y=>simp only[KaW,Ti]at h⊢;exact⟨ih (.o x::pre) _ _ (by simp only[cw,It.sz,RT.sz]at hn ⊢;omega) h.1,ih (.o y::pre) _ _ (by simp only[cw,It.sz,RT.sz]at hn ⊢;omega) h.2⟩
   | c s=>
    cases s with
    |skip=>simp only[KaW,HG]at h⊢;exact ih _ _ _ (by simp only[cw,It.sz,SC.sz]at hn;omega) h
    |rg r=>simp only[KaW,Kl]at h⊢;exact ih (.o r::pre) _ _ (by simp only[cw,It.sz,SC.sz]at hn ⊢;omega) h
    |raw id ops=>simp only[KaW]at h⊢;rw[vc]at h⊢;intro tmps w Q hs hQ;refine h tmps w Q hs fun aG hp' FE w' fA hv=>hQ aG hp' FE w' fA ?_;exact ih _ _ _ (by simp only[cw,It.sz,SC.sz]at hn;omega) hv
    |seq a b=>simp only[KaW,HW]at h⊢;exact ih (.c a:: .c b::pre) _ _ (by simp only[cw,It.sz,SC.sz]at hn ⊢;omega) h
    |block id a=>simp only[KaW,G9]at h⊢;exact ih (.c a:: .eb id::pre) _ _ (by simp only[cw,It.sz,SC.sz]at hn ⊢;omega) h
    |ret=>simp only[KaW,HX]at h ⊢;exact h
    |cond c x y=>
     simp only[KaW,HH]at h⊢;unfold tQ at h⊢;split at h
     ·exact⟨fun e=>ih (.c x::pre) _ _ (by simp only[cw,It.sz,SC.sz]at hn ⊢;omega) (h.1 e),fun e=>ih (.c y::pre) _ _ (by simp only[cw,It.sz,SC.sz]at hn ⊢;omega) (h.2 e)⟩
     ·exact h
    | exit id=>
     simp only[KaW,HI]at h⊢;rcases Cw (id:=id) (M:=M) (sk:=sk) pre with⟨p,h1,h2,h3⟩|he
     ·rw[h1]at h;rw[h2];simp only[yJ]at h⊢;exact ih _ _ _ (by simp only[cw,It.sz,SC.sz]at hn;omega) h
     ·rw[he]at h;exact h
    |loop a=>simp only[KaW,Aq]at h⊢;obtain⟨I,μ,h1,h2⟩:=h;refine⟨I,μ,h1,fun fr hp hI=>?_⟩;exact ih (.c a:: .el _::pre) _ _ (by simp only[cw,It.sz,SC.sz]at hn ⊢;omega) (h2 fr hp hI)
theorem yn{c:PV}{x y:SC}{sk:List It}(M:Qh)(h:mN C R c x y (.el M::sk) fr hp)(hM:∀fr hp,M fr hp->vc C R sk fr hp):mN C R c x y sk fr hp:=by
 unfold mN tQ at h⊢;split at h
 ·exact⟨fun e=>Dd hM _ [.c x] _ _ (Kae _) (h.1 e),fun e=>Dd hM _ [.c y] _ _ (Kae _) (h.2 e)⟩
 ·exact h
end Go.FW
namespace Go.FW
open Go
variable {C : Ctx} {ρ : Nat -> Option Nat} {fr : Fr} {hp : HP} {w : World} {K K' R : Qh}
def FY(R:PV->Prop)(p q:PV):Prop:=(p.aN=true/\q.aN=true)/\∃r,PV.zX (.aH [p,q]) r/\R r
def FZ(R:PV->Prop)(p q s:PV):Prop:=(p.aN=true/\q.aN=true/\s.aN=true)/\∃r,PV.zX (.aH [p,q,s]) r/\R r
def TY(R:PV->Prop):Prop:=∃r,PV.zX (.aH []) r/\R r
theorem amk{a b:Nat}{Rr:PV->Prop}:gm [.t a,.t b] Rr fr hp=FY Rr (aU hp (fr a)) (aU hp (fr b)):=by simp[gm,FY,oe,nr]
theorem aml{a b c:Nat}{Rr:PV->Prop}:gm [.t a,.t b,.t c] Rr fr hp=FZ Rr (aU hp (fr a)) (aU hp (fr b)) (aU hp (fr c)):=by simp[gm,FZ,oe,nr]
theorem amm{Rr:PV->Prop}:gm [] Rr fr hp=TY Rr:=by simp[gm,TY]
theorem fp{p q p' q' r:PV}(h:r= .aH [p',q'])(d1:p.aN=true)(d2:q.aN=true)(h1:PV.le p p')(h2:PV.le q q'):FY (· =r) p q:=⟨⟨d1,d2⟩,r,by subst h;exact⟨h1,h2,trivial⟩,rfl⟩
theorem jy{p q s p' q' s' r:PV}(h:r= .aH [p',q',s'])(d1:p.aN=true)(d2:q.aN=true)(d3:s.aN=true)(h1:PV.le p p')(h2:PV.le q q')(h3:PV.le s s'):FZ (· =r) p q s:=⟨⟨d1,d2,d3⟩,r,by subst h;exact⟨h1,h2,h3,trivial⟩,rfl⟩
theorem wC{p q:PV}(h:p=q):PV.le p q:=h▸Ql p
theorem C3{β n ty:Nat}{l:List Nat}{fz:Bool}(h:hp β=some ⟨1,ty,cD l,fz⟩)(hn:n=l.length)(hB:bJ β=false:=by decide):(([]:List PV)++[PV.ms β n]++([]:List PV)).map (aU hp)=[.sl 1 (cD l)]:=by simp[agf h hn hB]
theorem sj{n:Nat}(h:(ao n).length=0):ao n=[]:=KaI.1 h
abbrev PV.nat(l:List Nat):PV:=.sl 1 (cD l)
abbrev PV.num(n:Nat):PV:=PV.nat (ao n)
theorem AG:PV.le .au (PV.num 0):=by rw[PV.num,gW];trivial
theorem De{n:Nat}(h:n=0):PV.le .au (PV.num n):=by subst h;exact AG
end Go.FW
namespace Go.FW
def ma:List Nat->List Nat->Nat->Nat->List Nat
 |r::rs,y::ys,x,c=>(c+(r+x*y))%65536::ma rs ys x ((c+(r+x*y))/65536)
 |_,_,_,c=>[c]
theorem QM:∀(r b:List Nat)(x c:Nat),r.length=b.length->val (ma r b x c)=val r+x*val b+c
 | [],[],x,c,_=>by simp[ma,val]
 |r::rs,y::ys,x,c,h=>by rw[ma,val,QM rs ys x _ (by simpa using h),val,val,Ka4 x,Kbl x 65536];generalize x*y=p;generalize x*val ys=q;omega
 | [],_::_,_,_,h=>by simp at h
 |_::_,[],_,_,h=>by simp at h
theorem wy{x y:Nat}(hx:x<65536)(hy:y<65536):x*y<=4294836225:=by have:=KaQ (show x<=65535 by omega) (show y<=65535 by omega);omega
theorem VF:∀(r b:List Nat)(x c:Nat),c<65536->x<65536->Qk r->Qk b->Qk (ma r b x c)
 |r::rs,y::ys,x,c,hc,hx,hr,hb=>by rw[jt]at hr hb;have:=wy hx hb.1;rw[ma,jt];exact⟨by omega,VF rs ys x _ (by omega) hx hr.2 hb.2⟩
 | [],_,x,c,hc,_,_,_=>by simp[ma,Qk];exact hc
 |_::_,[],x,c,hc,_,_,_=>by simp[ma,Qk];exact hc
theorem Vd:∀(r b:List Nat)(x c:Nat),r.length=b.length->(ma r b x c).length=r.length+1
 |r::rs,y::ys,x,c,h=>by simp[ma,Vd rs ys x _ (by simpa using h)]
 | [],[],x,c,_=>rfl
 | [],_::_,_,_,h=>by simp at h
 |_::_,[],_,_,h=>by simp at h
theorem HJ{p t:List Nat}{r j:Nat}(h:p.length=j)(hj:j<(p++r::t).length):(p++r::t)[j]=r:=by subst h;simp
theorem qv{p t:List Nat}{r j v:Nat}(h:p.length=j):(p++r::t).set j v=p++v::t:=by subst h;simp
theorem Cj{l:List Nat}{i:Nat}(h:i<l.length):val (l.take (i+1))=val (l.take i)+65536^i*l[i]:=by rw[Kak h,oW,KaF,Kcb (by omega)];simp[val]
theorem agi{a lo b:List Nat}{i:Nat}(h:i<a.length)(hl:lo.length=i+b.length)(hv:val lo=val (a.take i)*val b):
  val (lo.take i++ma (lo.drop i) b a[i] 0)=val (a.take (i+1))*val b:=by
 rw[oW,QM _ _ _ _ (by simp[hl]),Cj h,KaF,Kcb (by omega),KaK,<-hv,ss lo i (by omega),KaY,Ka4,Kbm];omega
open Go
variable {C : Ctx} {ρ : Nat -> Option Nat} {fr : Fr} {hp : HP} {w : World} {K K' R : Qh}
def B0:Nat:=1000000
def pA(xs:List PV):Prop:=∀x∈xs,∃k n,x= .int k n
theorem tJ(l:List Nat):pA (cD l):=by intro x hx;simp only[cD,Kaq]at hx;obtain⟨n,_,rfl⟩:=hx;exact⟨_,_,rfl⟩
def qG(w:World)(b:Nat)(ty:TypeId)(xs:List PV):Prop:=pA xs/\∃(cur:Array Value)(cap:Nat),w.heap[b]? =some (.cells cur ty (0,0))/\cur.size=cap*1/\xs.length<=cap/\cap<=maxLen/\
 ∀(i:Nat)(k:IntKind)(n:Int),xs[i]? =some (.int k n)->cur.getD i undef= .int k n
theorem qG.lW{b:Nat}{ty:TypeId}{xs:List PV}{fz:Bool}{X:Nat->Prop}(h:qG w b ty xs):Ab w X b ⟨1,ty,xs,fz⟩:=by
 obtain⟨hi,cur,cap,h1,h2,h3,h4,h5⟩:=h;refine⟨cur,cap,h1,h2,h3,h4,fun i x hx j y hy=>?_⟩;obtain⟨k,n,rfl⟩:=hi x (Kai hx);cases j with
 |zero=>simp[PV.cells]at hy;subst hy;rw[KbK,KaY,h5 i k n hx];exact Qu.int k n
 |succ j=>simp[PV.cells]at hy
theorem qG.Od{b:Nat}{ty:TypeId}{xs:List PV}{fz:Bool}{X:Nat->Prop}(h:Ab w X b ⟨1,ty,xs,fz⟩)(hi:pA xs):qG w b ty xs:=by obtain⟨cur,cap,h1,h2,h3,h4,h5⟩:=h;refine⟨hi,cur,cap,h1,h2,h3,h4,fun i k n hx=>?_⟩;have:=h5 i _ hx 0 (.int k n) rfl;simp only[KbK,KaY]at this;generalize hg:cur.getD i undef=v at this;cases this;rfl
theorem G6{xs:List PV}(h:pA xs):∀(i:Nat)(x:PV),xs[i]? =some x->x.cells.length=1/\x.aN=true:=by intro i x hx;obtain⟨k,n,rfl⟩:=h x (Kai hx);exact⟨rfl,rfl⟩
def Wx(w:World)(b len:Nat)(o n:Nat)(v:Value):Prop:=o+n<=len/\∃cap,v= .slice (some ⟨b,o*1,none⟩) n cap/\dH w b 1 (o+cap)/\o+cap<=maxLen
def aaj(w:World)(X:Nat->Prop)(b len:Nat)(p:PV)(v:Value):Prop:=match p with
 |.aB β o n=>β=B0/\Wx w b len o n v
 |p=>bT w X p v
def Wv(w:World)(X:Nat->Prop)(b len:Nat)(p:PV)(v:Value):Prop:=match p with
 |.aB β o n=>β=B0/\Wx w b len o n v
 |p=>fE w X p v
def AV(P:Program)(f:FuncId)(args:List PV)(ty:TypeId)(xs:List PV)(aZ:PV->List PV->Prop):Prop:=
 sM P f/\∀(w:World)(X:Nat->Prop)(b:Nat)(bC:Array Value),(∀c,X c->c<w.heap.size)->X b->bC.size=args.length->qG w b ty xs->0<xs.length->
  (∀(i:Nat)(x:PV),args[i]? =some x->aaj w X b xs.length x (bC.getD i undef))->
  Calls P f bC w fun e w'=>∃v r xs',e= .returned v/\Ext (fun c=>c=b) w w'/\(∀e cap,dH w b e cap->dH w' b e cap)/\qG w' b ty xs'/\xs'.length=xs.length/\Wv w' X b xs.length r v/\aZ r xs'
def vg(rs:List RV)(ty:TypeId)(len:Nat)(aZ:PV->List PV->Prop):Qh:=fun fr hp=>
 ∃xs',hp B0=some ⟨1,ty,xs',false⟩/\pA xs'/\xs'.length=len/\
  (gm rs (fun r=>(∀β o n,r≠ .aB β o n)/\aZ r xs') fr hp∨∃s o n,rs=[.t s]/\fr s= .aB B0 o n/\aZ (.aB B0 o n) xs')
theorem GS {P : Program} {f : FuncId} {fn : Func} {sf : ay} {args : List PV} {ty : TypeId} {xs : List PV} {aZ : PV -> List PV -> Prop} (hm : P.follows .mixedOrders = true) (hf : P.funcs[f]? = some fn) (qU : (fn.name != "runtime.NumGoroutine") = true) (hc : Qe P fn = some sf) (hn : args.length <= sf.n /\ sf.n <= 1000000)
  (hv:∀C:Ctx,C.P=P->vc C (vg sf.rs ty xs.length aZ) [.c sf.body] (lE args) (Qj aA B0 ⟨1,ty,xs,false⟩)):AV P f args ty xs aZ:=by
 simp only[Qe,Kab,Kaa]at hc;obtain⟨c,hb,sb,kB,rs,dt,rfl⟩:=hc;refine⟨by simp[sM,hf,hb];simpa using qU,fun w X b bC hX ze dM hI jZ iF=>?_⟩;have qS:∀β c,(fun β=>if β=B0 then some b else none:Nat->Option Nat) β=some c->c<w.heap.size/\(eH β=false->¬(X c/\c≠b)):=fun β c h=>by
  simp only at h;split at h
  ·cases h;exact⟨hX b ze,fun _ h=>h.2 rfl⟩
  ·cases h
 let C:Ctx:=⟨P,fn.ntmps,w,fun c=>X c/\c≠b,fun c hc=>hX c hc.1,hn.2,fun β=>if β=B0 then some b else none,qS,eP,fun _ h=>h.elim⟩
 refine calls_of_wp hf hb ?_;have uA:(bC++Array.replicate (fn.ntmps-bC.size) undef).size=fn.ntmps:=by simp at hn ⊢;omega
 have asN:∀c,aK C (fun β=>if β=B0 then some b else none) (Qj aA B0 ⟨1,ty,xs,false⟩) c->X c:=by
  rintro c (hx|⟨β,_,h1,_,h3⟩)
  ·exact hx.1
  ·simp only at h3;split at h3
   ·cases h3;exact ze
   ·cases h3
 have oO:ft C (lE args) (Qj aA B0 ⟨1,ty,xs,false⟩) (bC++Array.replicate (fn.ntmps-bC.size) undef) w:=by
  refine⟨fun β=>if β=B0 then some b else none,uA,Ext.refl _ _,fun _ _ _ _ _ h=>h,fun β ax ae=>?_,fun β γ b' h1 h2 h3 h4=>?_,fun i=>?_⟩
  ·unfold Qj at ae;split at ae
   ·rename_i auO;cases ae;subst auO;refine⟨by simp,G6 hI.1,?_,(fun _=>rfl),fun h=>by cases h⟩;simp only[if_pos];exact⟨rfl,hX b ze,hI.lW⟩
   ·simp[aA]at ae
  ·have:∀β,(if β=B0 then some b else none:Option Nat)=some b'->β=B0:=fun β h=>by
    split at h
    ·assumption
    ·cases h
   rw[this β h3,this γ h4]
  ·unfold lE;cases hi:args[i]? with
   |none=>trivial
   | some p=>
    simp only[Kbb];have jY:i<bC.size:=by rw[dM];exact(Kaf.1 hi).1
    have hr:=iF i p hi;have e:(bC++Array.replicate (fn.ntmps-bC.size) undef).getD i undef=bC.getD i undef:=by rw[mK,if_pos jY]
    rw[e];have key:bT w X p (bC.getD i undef)->Qn C (fun β=>if β=B0 then some b else none) (Qj aA B0 ⟨1,ty,xs,false⟩) w p (bC.getD i undef):=fun hr=>
     Qn.oc (hr.mono (fun _ _ _=>rfl) (fun c _ hn hx=>hn (asN c hx)) (Kae _))
    cases p with
    |aB β o n=>obtain⟨rfl,h1,cap,h2,h3,h4⟩:=hr;exact⟨⟨1,ty,xs,false⟩,by simp[Qj],h1,.inr ⟨b,cap,by simp,h2,h3,h4⟩⟩
    |_=>exact key hr
 have fin:∀(fr:Fr)(hp:HP)(a:Act)(w':World),a.defers=[]->ft C fr hp a.tmps w'->vg rs ty xs.length aZ fr hp->
   a.defers=[]/\∃v,(results fn a.tmps).run P w'= .ok v w'/\∃v' r xs',Ending.returned v= .returned v'/\Ext (fun c=>c=b) w w'/\(∀e cap,dH w b e cap->dH w' b e cap)/\qG w' b ty xs'/\xs'.length=xs.length/\Wv w' X b xs.length r v'/\aZ r xs':=by
  rintro fr hp a w' hd ⟨ρ,hs⟩ ⟨xs',hB,hint,hlen,hr⟩;have bE:=hs.own B0 _ hB;have bl:=bE.dd;have bK:ρ B0=some b:=by
   cases hq:ρ B0 with
   |none=>rw[hq]at bl;simp only at bl;rw[bl]at hlen;simp at hlen;omega
   |some b'=>rw[<-hq];exact bE.fix rfl
  rw[bK]at bl;have za:qG w' b ty xs':=qG.Od bl.2.2 hint;have I1:Ext (fun c=>c=b) w w':=hs.ext.mono fun c _ hc=>by
   rcases hc with⟨β,_,hc⟩|hc
   ·have hc:(if β=B0 then some b else none:Option Nat)=some c:=hc;split at hc
    ·cases hc;rfl
    ·cases hc
   ·exact hc.elim
  have EN:∀e cap,dH w b e cap->dH w' b e cap:=hs.fT B0 b rfl;rcases hr with hr|⟨s,o,n,rfl,kW,hp⟩
  ·obtain⟨v,r,h1,h2,h3,h4⟩:=acJ (C:=C) rfl dt hs hr (X:=X) (fun c hc=>by
    by_cases e:c=b
    ·subst e;exact .inr ⟨B0,_,rfl,hB,rfl,bK⟩
    ·exact .inl ⟨hc,e⟩)
   refine⟨hd,v,h1,v,r,xs',rfl,I1,EN,za,hlen,?_,h4⟩;cases r with
   |aB β o n=>exact absurd rfl (h3 β o n)
   |_=>exact h2
  ·have bb:=hs.cN s;rw[kW]at bb;obtain⟨hb2,g1,g2,g3⟩:=bb;rw[hB]at g1;cases g1;rcases g3 with⟨g3,_⟩|⟨b',cap,g3,g4,g5,g6⟩
   ·rw[bK]at g3;cases g3
   ·rw[bK]at g3;cases g3;obtain⟨x,hx⟩:∃x,fn.results.toList=[x]:=by have:=oZ dt;exact KcO.1 (by rw[<-this.1];rfl)
    have gQ:kK P x=some (.t s):=by rw[hx]at dt;simp only[KcD,List.mapM_nil,Kce,KcH,Kab,KaH]at dt;obtain⟨y,h1,_,_,h2⟩:=dt;simp only[KcU]at h2;rw[<-h2.1];exact h1
    have Fg:x= .tmp s:=by
     cases x with
     |tmp t=>simpa[kK]using gQ
     |cell y t=>simp[kK,Kab]at gQ
    subst Fg;have gP:(results fn a.tmps).run P w'= .ok (a.tmps.getD s undef) w':=by have e:results fn a.tmps=(do let vs<-fn.results.mapM (qF a.tmps);pure (if h:vs.size=1 then vs[0]else .tuple vs)):=rfl;rw[e,KbN,hx];simp[Kar,qF]
    refine⟨hd,_,gP,_,.aB B0 o n,xs',rfl,I1,EN,za,hlen,⟨rfl,hlen▸g2,cap,g4,g5,g6⟩,hp⟩
 exact K5 (C:=C) (R:=vg rs ty xs.length aZ) hm c sb [] _ (lE args) _ _ w kB ⟨fun fr hp a w' hd hs hv=>(by rw[wN]at hv;exact fin fr hp a w' hd hs hv),fun id fj he=>(by simp[FW.cC]at he),fin⟩ rfl oO (hv C rfl)
def PV.ri:PV->Bool
 |.aB .. =>true
 |p=>p.aN
def lW(β:Nat):PV->PV
 |.aB γ o n=>if γ=β then .aB B0 o n else .undef
 |.mp _ _ _=>.undef
 |.rb _ _ _=>.undef
 |.fn _ _ _=>.undef
 |.aI _ _ _| .np _ _ _| .bo _| .dX _| .aC _ _ _ _=>.undef
 |p=>p
def qz(β:Nat):PV->PV
 |.aB _ o n=>.aB β o n
 |p=>p
theorem HT{P:Program}(hP:C.P=P){g:FuncId}{args bx:List PV}{d:Option Nat}{β:Nat}{ty:TypeId}{xs:List PV}{aZ:PV->List PV->Prop}(h:AV P g bx ty xs aZ)(ae:hp β=some ⟨1,ty,xs,false⟩)(hint:pA xs)(jZ:0<xs.length)
  (cK:args.map (lW β)=bx) (jG:bx.all PV.ri=true)
  (hK:∀r xs',pA xs'->xs'.length=xs.length->aZ r xs'->K (dv fr d (qz β r)) (Qj hp β ⟨1,ty,xs',false⟩)):gl C false (.fn g [] []) args d fr hp K:=by
 subst hP;refine⟨h.1,fun ρ tmps w fv cv av s0 hs h1 h2 h3 _ _ oN=>?_⟩;have bE:=hs.own β _ ae;have bl:=bE.dd;obtain⟨b,bK⟩:∃b,ρ β=some b:=by
  cases hq:ρ β with
  |none=>rw[hq]at bl;simp only at bl;rw[bl]at jZ;simp at jZ
  |some b=>exact⟨b,rfl⟩
 rw[bK]at bl;have ze:aK C ρ hp b:=.inr ⟨β,_,ae,rfl,bK⟩;have e1:fv= #[]:=Kb0 (by simpa using h1);have e2:cv= #[]:=Kb0 (by simpa using h2);subst e1;subst e2;simp only[Array.empty_append,Array.append_empty];refine(h.2 w (aK C ρ hp) b av (DD hs) ze (by rw[<-cK];simp[h3]) (qG.Od bl.2.2 hint) jZ (fun i x hx=>?_)).mono ?_
 ·rw [<-cK]at hx;simp only[Kas,Kaa]at hx;obtain⟨p,hp',zI⟩:=hx;have hr:=oN i p hp';have lS:PV.ri x=true:=by rw[Kax]at jG;refine jG x ?_;rw[<-cK,<-zI];exact KcN (Kai hp')
  subst zI;cases p with
  | aB γ o n=>
   simp only[lW]at lS⊢;split
   ·rename_i aj;subst aj;obtain⟨hb2,g1,g2,g3⟩:=hr;rw[ae]at g1;cases g1;rcases g3 with⟨g3,_⟩|⟨b',cap,g3,g4,g5,g6⟩
    ·rw[bK]at g3;cases g3
    ·rw[bK]at g3;cases g3;exact⟨rfl,g2,cap,g4,g5,g6⟩
   ·rename_i aj;rw[if_neg aj]at lS;simp[PV.ri,PV.aN]at lS
  |mp=>simp[lW,PV.ri,PV.aN]at lS
  |rb=>simp[lW,PV.ri,PV.aN]at lS
  |fn=>simp[lW,PV.ri,PV.aN]at lS
  |undef=>simp[lW,PV.ri,PV.aN]at lS
  |aI=>simp[lW,PV.ri,PV.aN]at lS
  |np=>simp[lW,PV.ri,PV.aN]at lS
  |bo=>simp[lW,PV.ri,PV.aN]at lS
  |dX=>simp[lW,PV.ri,PV.aN]at lS
  |aC=>simp[lW,PV.ri,PV.aN]at lS
  |aH=>simp[lW,PV.ri,PV.aN]at lS
  |agg cs=>exact hr
  |_=>exact hr
 ·rintro e w' ⟨v,r,xs',rfl,hx,eD,za,hlen,gP,eY⟩;have bc:=hs.store β b ⟨1,ty,xs,false⟩ ⟨1,ty,xs',false⟩ ae rfl (by intro e;simp at e;rw[e]at jZ;simp at jZ) bK hx rfl hlen rfl (G6 za.1) eD (za.lW (X:=aK C ρ hp) (fz:=false) |> fun⟨cur,cap,c1,c2,c3,c4,c5⟩=>⟨cur,cap,c1,c2,c3,c4,fun i x hi j y hy=>by
   obtain⟨k,n,rfl⟩:=za.1 x (Kai hi);have:=c5 i _ hi j y hy;cases j with
   |zero=>simp[PV.cells]at hy;subst hy;generalize hg:cur.getD (i*1+0) undef=u at this;cases this;exact Qu.int k n
   |succ j=>simp[PV.cells]at hy⟩)
  have MV:aK C ρ (Qj hp β ⟨1,ty,xs',false⟩)=aK C ρ hp:=by
   funext c;apply propext;constructor
   ·rintro(hx|⟨γ,hg,h1,h2,h3⟩)
    ·exact .inl hx
    ·by_cases aj:γ=β
     ·subst aj;exact .inr ⟨γ,_,ae,rfl,h3⟩
     ·simp only[Qj,if_neg aj]at h1;exact .inr ⟨γ,hg,h1,h2,h3⟩
   ·rintro(hx|⟨γ,hg,h1,h2,h3⟩)
    ·exact .inl hx
    ·by_cases aj:γ=β
     ·subst aj;exact .inr ⟨γ,⟨1,ty,xs',false⟩,by simp[Qj],rfl,h3⟩
     ·exact .inr ⟨γ,hg,by simp[Qj,aj,h1],h2,h3⟩
  refine⟨v,_,_,rfl,⟨ρ,bc.Jk (p:=qz β r) ?_ s0⟩,by simp,hK r xs' za.1 hlen eY⟩;cases r with
  |aB γ o n=>obtain⟨_,g1,cap,g2,g3,g4⟩:=gP;exact⟨⟨1,ty,xs',false⟩,by simp[Qj],by simp only[qz];omega,.inr ⟨b,cap,bK,g2,g3,g4⟩⟩
  |_=>exact Qn.Jb (p:=_) (by rw[MV];exact gP)
end Go.FW
namespace Go.FW
open Go
variable {C : Ctx} {ρ : Nat -> Option Nat} {fr : Fr} {hp : HP} {w : World} {K K' R : Qh}
def Df(P:Program)(f:FuncId)(args:List PV)(ty:TypeId)(aZ:List PV->Prop):Prop:=
 sM P f/\∀(w:World)(X:Nat->Prop)(bC:Array Value),(∀b,X b->b<w.heap.size)->bC.size=args.length->(∀(i:Nat)(x:PV),args[i]? =some x->bT w X x (bC.getD i undef))->
  Calls P f bC w fun e w'=>∃v b cap ys,e= .returned v/\v= .slice (some ⟨b,0,none⟩) ys.length cap/\w.heap.size<=b/\Ext eP w w'/\qG w' b ty ys/\dH w' b 1 cap/\cap<=maxLen/\aZ ys
def Bk(rs:List RV)(ty:TypeId)(aZ:List PV->Prop):Qh:=fun fr hp=>
 ∃s β n xs,rs=[.t s]/\fr s= .aB β 0 n/\bJ β=false/\hp β=some ⟨1,ty,xs,false⟩/\pA xs/\0<n/\aZ (xs.take n)
theorem aex{xs:List PV}(h:pA xs)(n:Nat):pA (xs.take n):=fun x hx=>h x (Kbf hx)
theorem aey {P : Program} {f : FuncId} {fn : Func} {sf : ay} {args : List PV} {ty : TypeId} {aZ : List PV -> Prop} (hm : P.follows .mixedOrders = true) (hf : P.funcs[f]? = some fn) (qU : (fn.name != "runtime.NumGoroutine") = true) (hc : Qe P fn = some sf) (hn : args.length <= sf.n /\ sf.n <= 1000000)
  (hv:∀C:Ctx,C.P=P->vc C (Bk sf.rs ty aZ) [.c sf.body] (lE args) aA):Df P f args ty aZ:=by
 simp only[Qe,Kab,Kaa]at hc;obtain⟨c,hb,sb,kB,rs,dt,rfl⟩:=hc;refine⟨by simp[sM,hf,hb];simpa using qU,fun w X bC hX dM iF=>?_⟩
 let C:Ctx:=Ctx.plain P fn.ntmps w X hX hn.2
 refine calls_of_wp hf hb ?_;have uA:(bC++Array.replicate (fn.ntmps-bC.size) undef).size=fn.ntmps:=by simp at hn ⊢;omega
 have oO:ft C (lE args) aA (bC++Array.replicate (fn.ntmps-bC.size) undef) w:=by
  refine⟨fun _=>none,uA,Ext.refl _ _,(fun _ _ h=>by cases h),by simp[aA],by simp[aA],fun i=>?_⟩;unfold lE;cases hi:args[i]? with
  |none=>trivial
  | some p=>
   simp only[Kbb];have jY:i<bC.size:=by rw[dM];exact(Kaf.1 hi).1
   have hr:=iF i p hi;have e:(bC++Array.replicate (fn.ntmps-bC.size) undef).getD i undef=bC.getD i undef:=by rw[mK,if_pos jY]
   rw[e];refine Qn.oc (hr.mono (fun _ _ _=>rfl) (fun b _ hn hx=>?_) (Kae _));rcases hx with hx|⟨_,_,h1,_⟩
   ·exact hn hx
   ·simp[aA]at h1
 have fin:∀(fr:Fr)(hp:HP)(a:Act)(w':World),a.defers=[]->ft C fr hp a.tmps w'->Bk rs ty aZ fr hp->
   a.defers=[]/\∃v,(results fn a.tmps).run P w'= .ok v w'/\∃v' b cap ys,Ending.returned v= .returned v'/\v'= .slice (some ⟨b,0,none⟩) ys.length cap/\w.heap.size<=b/\Ext eP w w'/\qG w' b ty ys/\dH w' b 1 cap/\cap<=maxLen/\aZ ys:=by
  rintro fr hp a w' hd ⟨ρ,hs⟩ ⟨s,β,n,xs,rfl,kW,hB,ae,hint,jZ,hp⟩;have bE:=hs.own β _ ae;have bl:=bE.dd;have bb:=hs.cN s;rw[kW]at bb;obtain⟨hb2,g1,g2,g3⟩:=bb;rw[ae]at g1;cases g1;rcases g3 with⟨_,_,g3,_⟩|⟨b,cap,g3,g4,g5,g6⟩
  ·omega
  ·rw[g3]at bl;simp only[hB]at bl;obtain⟨x,hx⟩:∃x,fn.results.toList=[x]:=by have:=oZ dt;exact KcO.1 (by rw[<-this.1];rfl)
   have gQ:kK P x=some (.t s):=by rw[hx]at dt;simp only[KcD,List.mapM_nil,Kce,KcH,Kab,KaH]at dt;obtain⟨y,h1,_,_,h2⟩:=dt;simp only[KcU]at h2;rw[<-h2.1];exact h1
   have Fg:x= .tmp s:=by
    cases x with
    |tmp t=>simpa[kK]using gQ
    |cell y t=>simp[kK,Kab]at gQ
   subst Fg;have gP:(results fn a.tmps).run P w'= .ok (a.tmps.getD s undef) w':=by have e:results fn a.tmps=(do let vs<-fn.results.mapM (qF a.tmps);pure (if h:vs.size=1 then vs[0]else .tuple vs)):=rfl;rw[e,KbN,hx];simp[qF]
   have hlen:(xs.take n).length=n:=by simp at g2 ⊢;omega
   refine⟨hd,_,gP,_,b,cap,xs.take n,rfl,by rw[g4,hlen,KcM],(Ctx.xm bl.1 (Bb hB)).resolve_right (fun h=>h),Ctx.Jc hs.ext,?_,by rw[Kbh]at g5;exact g5,by omega,hp⟩;obtain⟨_,cur,cp,i1,i2,i3,i4,i5⟩:=qG.Od bl.2.2 hint;exact⟨aex hint n,cur,cp,i1,i2,by simp;omega,i4,fun i k m hi=>i5 i k m (by
    have al:i<n:=by have:=(Kaf.1 hi).1;omega
    rwa[KaN al]at hi)⟩
 exact K5 (C:=C) (R:=Bk rs ty aZ) hm c sb [] _ (lE args) aA _ w kB ⟨fun fr hp a w' hd hs hv=>(by rw[wN]at hv;exact fin fr hp a w' hd hs hv),fun id fj he=>(by simp[FW.cC]at he),fin⟩ rfl oO (hv C rfl)
theorem amn{P:Program}(hP:C.P=P){g:FuncId}{args bx:List PV}{d:Nat}{ty:TypeId}{aZ:List PV->Prop}(h:Df P g bx ty aZ)(cK:([]++args++[]).map (aU hp)=bx)(jG:bx.all PV.aN=true)(hr:([]++args++[]).flatMap PV.refs=[])
  (hB:bJ d=false) (hK:∀ys,pA ys->aZ ys->K (af (cP d fr) d (.ms d ys.length)) (Qj hp d ⟨1,ty,ys,false⟩)):gl C false (.fn g [] []) args (some d) fr hp K:=by
 subst hP;refine⟨h.1,fun ρ tmps w fv cv av s0 hs h1 h2 h3 lR iE oN=>?_⟩;have hf0:bW hp (([]++args++[]).flatMap PV.refs)=hp:=by rw[hr];rfl
 have iF:=QG hs h1 h2 h3 lR iE oN (by rw[cK];exact jG);rw[hf0,cK]at iF;refine(h.2 w _ (fv++av++cv) (DD hs) (by rw[<-cK];simp[h1,h2,h3]) iF).mono ?_;rintro e w' ⟨v,b,cap,ys,rfl,rfl,hb,hx,hI,eD,hm,eY⟩;have m7:b<w'.heap.size:=by obtain⟨_,cur,cp,i1,_⟩:=hI;exact(KbW.1 i1).1
 have hrb:=hs.rebind (w':=w') d (some b) ⟨1,ty,ys,false⟩ hB (hx.mono (fun _ _ h=>h.elim)) (fun c hc=>by cases hc;exact⟨.inl (Kap hs.ext.size hb),m7,.inl hb⟩) (by simp) (G6 hI.1) (by simp)
  (fun c hc=>by
   cases hc;obtain⟨hint,cur,cp,i1,i2,i3,i4,i5⟩:=hI;refine⟨cur,cp,i1,i2,i3,i4,fun i x hi j y hy=>?_⟩;obtain⟨k,n,rfl⟩:=hint x (Kai hi);cases j with
   |zero=>simp[PV.cells]at hy;subst hy;rw[KbK,KaY,i5 i k n hi];exact Qu.int k n
   |succ j=>simp[PV.cells]at hy)
 refine⟨_,_,_,rfl,⟨_,hrb.Jk (d:=some d) (p:=.ms d ys.length) ?_ s0⟩,by simp,hK ys hI.1 eY⟩;exact⟨⟨1,ty,ys,false⟩,by simp[Qj],by simp,.inr ⟨b,cap,kn _ _ _,by simp,by rw[Kbh];exact eD,by omega⟩⟩
def ix(hp:HP):PV->PV
 |.mp β i o=>match hp β with
  |some hb=>match hb.xs[i]? with
   |some x=>.pt (x.cells.drop o)
   |none=>.undef
  |none=>.undef
 |.aB β o n=>match hp β with
  |some hb=>.sl hb.e ((hb.xs.drop o).take n)
  |none=>.undef
 |.rb β o n=>match hp β with
  |some hb=>.pt [.sl hb.e ((hb.xs.drop o).take n)]
  |none=>.undef
 |p=>p
def yS(C:Ctx)(ρ:Nat->Option Nat)(hp:HP)(l:List Nat):Nat->Prop:=fun c=>aK C ρ hp c/\¬∃β∈l,ρ β=some c
theorem Qu.y5{l:List Nat}{q:PV}{u:Value}(h:Qu w (aK C ρ hp) q u):Qu w (yS C ρ hp l) q u:=
 h.mono (fun _ _ _=>rfl) (fun _ _ hn hx=>hn hx.1) (Kae _)
theorem fF.y5{tmps:Array Value}(h:Qv C ρ fr hp tmps w){β o n:Nat}{v:Value}{l:List Nat}{hb:HB}(hr:fF ρ hp w β o n v)(zV:β∈l)(g1:hp β=some hb):Qu w (yS C ρ hp l) (.sl hb.e ((hb.xs.drop o).take n)) v:=by
 obtain⟨hb2,H9,g2,g3⟩:=hr;rw[g1]at H9;cases H9;rcases g3 with⟨g3,rfl,rfl,rfl⟩|⟨b,cap,g3,rfl,g5,g6⟩
 ·simp only[Kcg];exact .oS _ _ _ (Kbz _)
 ·have bE:=h.own β hb g1;have bl:=bE.dd;rw[g3]at bl;obtain⟨_,aw,cur,eW,c1,c2,c3,c4,c5⟩:=bl;obtain⟨cur',ty',d1,d2⟩:=g5;rw[c1]at d1;cases d1;have jk:o+cap=eW:=by rw[c2]at d2;exact(KbJ bE.m6 d2).symm
  subst jk;have hlen:((hb.xs.drop o).take n).length=n:=by simp;omega
  have fJ:∀(i:Nat)(x:PV),((hb.xs.drop o).take n)[i]? =some x->i<n/\hb.xs[o+i]? =some x:=fun i x hx=>by
   have hi:i<n:=by have:=(Kaf.1 hx).1;omega
   rw[KaN hi,Kbe]at hx;exact⟨hi,hx⟩
  have:=Qu.sl (w:=w) (X:=yS C ρ hp l) hb.e ((hb.xs.drop o).take n) b (o*hb.e) cap (fun i j=>cur.getD ((o+i)*hb.e+j) undef) (fun Fh=>Fh.2 ⟨β,zV,g3⟩) aw (by omega) (by omega)
   (fun i x hx=>(bE.len _ x (fJ i x hx).2).1)
   (fun i hi j hj=>by rw[hlen]at hi;have:=qx (i:=o+i) (e:=hb.e) (o:=0) (j:=j) (n:=hb.e) (cap:=o+cap) (by omega) (by omega) hj;rw[KaY]at this;rw[show o*hb.e+i*hb.e+j=(o+i)*hb.e+j by rw[KaK]];exact og c1 (by rw[c2];exact this))
   (fun i x hx j y hy=>(c5 _ x (fJ i x hx).2 j y hy).y5)
  rwa[hlen]at this
theorem GU{tmps:Array Value}(h:Qv C ρ fr hp tmps w){p:PV}{v:Value}{l:List Nat}(hr:dh C ρ hp w p v)(hl:∀β∈p.cn,β∈l)(hu:(ix hp p).aN=true)(EX:∀f a b,p≠ .fn f a b):bT w (yS C ρ hp l) (ix hp p) v:=by
 cases p with
 | mp β i o=>
  obtain⟨b,hb,g1,g2,rfl⟩:=hr;have zV:=hl β (by simp[PV.cn]);have bE:=h.own β hb g2;have bl:=bE.dd;rw[g1]at bl;obtain⟨_,aw,cur,cap,c1,c2,c3,c4,c5⟩:=bl;simp only[ix,g2]at hu⊢;cases hx:hb.xs[i]? with
  |none=>simp[hx,PV.aN]at hu
  | some x=>
   have hi:i<hb.xs.length:=(Kaf.1 hx).1;have kV:=(bE.len i x hx).1;refine Qu.pt _ b _ (fun j=>cur.getD (i*hb.e+o+j) undef) (fun Fh=>Fh.2 ⟨β,zV,g1⟩) aw (fun j hj=>?_) (fun j y hy=>?_)
   ·have et:o+(j+1)<=hb.e:=by simp[kV]at hj;omega
    exact og c1 (by rw[c2];exact qx (by omega) et (Nat.lt_succ_self j))
   ·rw[Kbe]at hy;rw[Kco];exact(c5 i x hx (o+j) y hy).y5
 |aB β o n=>obtain⟨hb,g1,_⟩:=id hr;simp only[ix,g1];exact fF.y5 h hr (hl β (by simp[PV.cn])) g1
 | rb β o n=>
  obtain⟨b,u,rfl,e2,e3,e4,hb,g1,e5⟩:=hr;simp only[ix,g1];refine Qu.pt _ b 0 (fun _=>u) (fun hx=>e3 hx.1) e2 (fun j hj=>?_) (fun j y hy=>?_)
  ·obtain rfl:j=0:=by simpa using hj
   simpa using e4
  ·cases j with
   |zero=>simp at hy;subst hy;exact fF.y5 h ⟨hb,g1,e5⟩ (hl β (by simp[PV.cn])) g1
   |succ j=>simp at hy
 |undef=>simp[ix,PV.aN]at hu
 |fn f a b=>exact absurd rfl (EX f a b)
 |aH=>simp[ix,PV.aN]at hu
 |aI=>simp[ix,PV.aN]at hu
 |np=>simp[ix,PV.aN]at hu
 |bo=>simp[ix,PV.aN]at hu
 |dX=>simp[ix,PV.aN]at hu
 |aC=>simp[ix,PV.aN]at hu
 |agg=>cases hr
 |_=>exact Qu.y5 hr
end Go.FW
namespace Go.FW
open Go
variable {C : Ctx} {ρ : Nat -> Option Nat} {fr : Fr} {hp : HP} {w : World} {K K' R : Qh}
def PV.xU:PV->Bool
 |.fn .. =>false
 |p=>p.aN
theorem VG{p:PV}(h:p.xU=true):p.aN=true/\∀f a b,p≠ .fn f a b:=by cases p<;>simp_all[PV.xU,PV.aN]
theorem acL{tmps:Array Value}(h:Qv C ρ fr hp tmps w){p:PV}{v:Value}{l:List Nat}(hr:Qn C ρ hp w p v)(hl:∀β∈p.refs,β∈l)(hu:(ix hp p).xU=true):bT w (yS C ρ hp l) (ix hp p) v:=by
 obtain⟨hd,EX⟩:=VG hu;cases p with
 |mp β i o=>exact GU (p:=.mp β i o) h hr (fun bA oP=>hl bA oP) hd (by simp)
 |aB β o n=>exact GU (p:=.aB β o n) h hr (fun bA oP=>hl bA oP) hd (by simp)
 |rb β o n=>exact GU (p:=.rb β o n) h hr (fun bA oP=>hl bA oP) hd (by simp)
 |fn f a b=>exact absurd rfl (EX f a b)
 |undef=>simp[ix,PV.xU,PV.aN]at hu
 |aH=>simp[ix,PV.xU,PV.aN]at hu
 |agg cs=>exact bT.mono (p:=.agg cs) hr (fun _ _ _=>rfl) (fun _ _ hn hx=>hn hx.1) (Kae _)
 |aI=>simp[ix,PV.aN]at hd
 |np=>simp[ix,PV.aN]at hd
 |bo=>simp[ix,PV.aN]at hd
 |dX=>simp[ix,PV.aN]at hd
 |aC=>simp[ix,PV.aN]at hd
 |_=>exact Qu.y5 hr
theorem VH{tmps:Array Value}(h:Qv C ρ fr hp tmps w){p:PV}{v:Value}{l:List Nat}(hr:dh C ρ hp w p v)(hl:∀β∈p.refs,β∈l)(hu:(ix hp p).xU=true):bT w (yS C ρ hp l) (ix hp p) v:=by
 obtain⟨hd,EX⟩:=VG hu;refine GU h hr (fun β ae=>hl β ?_) hd ?_
 ·cases p<;>simp_all[PV.cn,PV.refs]
 ·intro f a b hp';subst hp';exact EX f a b rfl
theorem aez{P:Program}(hP:C.P=P){g:FuncId}{first cap args bx:List PV}{pr:Bool}{d:Option Nat}{r:PV}(h:Qd P g bx (· =r))(cK:(first++args++cap).map (ix hp)=bx)(jG:bx.all PV.xU=true)(hr:r.N9=true)
  (hK:K (dv fr d r) hp):gl C pr (.fn g first cap) args d fr hp K:=by
 subst hP;refine⟨h.1,fun ρ tmps w fv cv av s0 hs h1 h2 h3 lR iE oN=>?_⟩;refine(h.2 w (yS C ρ hp ((first++args++cap).flatMap PV.refs)) (fv++av++cv) (fun b hb=>DD hs b hb.1) (by rw[<-cK];simp[h1,h2,h3]) (fun i x hx=>?_)).mono ?_
 ·have zq:x.xU=true:=by rw[Kax]at jG;exact jG x (Kai hx)
  rw[<-cK]at hx;simp only[Kas,Kaa]at hx;obtain⟨p,hp',rfl⟩:=hx;have dB:=Kai hp';have hl:∀β∈p.refs,β∈(first++args++cap).flatMap PV.refs:=fun β ae=>Kat.2 ⟨p,dB,ae⟩;rw[mK];rw[Ka2]at hp';by_cases c1:i<(first++args).length
  ·rw[if_pos c1]at hp';rw[if_pos (by simp only[Kcp,h1,h3];simpa using c1),mK];rw[Ka2]at hp';by_cases c2:i<first.length
   ·rw[if_pos c2]at hp';rw[if_pos (by omega)];exact VH hs (lR i p hp') hl zq
   ·rw[if_neg c2]at hp';rw[if_neg (by omega),h1];exact acL hs (oN _ p hp') hl zq
  ·rw[if_neg c1]at hp';have dM:(fv++av).size=(first++args).length:=by simp[h1,h3]
   rw[if_neg (by omega),dM];exact VH hs (iE _ p hp') hl zq
 ·rintro e w' ⟨v,r',rfl,hx,cM,rfl⟩;exact⟨v,_,_,rfl,⟨ρ,(hs.grow hx).Jk (Qn.Jb (af5 hr cM)) s0⟩,fun _=>hx,hK⟩
end Go.FW
namespace Go.FW
def mR:List Nat->List Nat->Nat->List Nat
 | [],_,_=>[]
 |x::xs,ys,c=>(c+x+ys.headD 0)%65536::mR xs ys.tail ((c+x+ys.headD 0)/65536)
theorem Ve:∀(a b:List Nat)(c:Nat),(mR a b c).length=a.length
 | [],_,_=>rfl
 |x::xs,b,c=>by simp[mR,Ve xs]
theorem VI:∀(a b:List Nat)(c:Nat),Qk (mR a b c)
 | [],_,_=>qq
 |x::xs,b,c=>by rw[mR,jt];exact⟨by omega,VI xs _ _⟩
theorem aeA{a b:List Nat}{i c:Nat}(h:i<a.length):mR (a.drop i) (b.drop i) c=(c+a[i]+b.getD i 0)%65536::mR (a.drop (i+1)) (b.drop (i+1)) ((c+a[i]+b.getD i 0)/65536):=by rw[KaA h,mR];simp[KbP,KcJ,Kad]
theorem QN:∀(a b:List Nat)(c:Nat),b.length<=a.length->∃k,val (mR a b c)+65536^a.length*k=val a+val b+c
 | [],b,c,h=>by have:b=[]:=KaI.1 (by simpa using h);subst this;exact⟨c,by simp[mR,val]⟩
 |x::xs,b,c,h=>by
  obtain⟨k,hk⟩:=QN xs b.tail ((c+x+b.headD 0)/65536) (by simp at h ⊢;omega);refine⟨k,?_⟩;rw[mR,val,val,CF b,KaT,Kbv,KaP (65536^xs.length) 65536,Kbm];generalize 65536^xs.length*k=z at *
  generalize b.headD 0=y at *
  omega
def gu:List Nat->List Nat->Nat->Nat->Nat->List Nat×Nat×Nat
 | [],_,_,c,b=>([],c,b)
 |x::xs,ys,q,c,b=>
  let r:=gu xs ys.tail q ((c+q*ys.headD 0)/65536) (if x<(c+q*ys.headD 0)%65536+b then 1 else 0)
  ((x+65536-(c+q*ys.headD 0)%65536-b)%65536::r.1,r.2)
theorem Vf:∀(a v:List Nat)(q c b:Nat),(gu a v q c b).1.length=a.length
 | [],_,_,_,_=>rfl
 |x::xs,v,q,c,b=>by simp[gu,Vf xs]
theorem VJ:∀(a v:List Nat)(q c b:Nat),Qk (gu a v q c b).1
 | [],_,_,_,_=>qq
 |x::xs,v,q,c,b=>by simp only[gu];rw[jt];exact⟨by omega,VJ xs _ _ _ _⟩
theorem aeB{a v:List Nat}{i q c b:Nat}(h:i<a.length):gu (a.drop i) (v.drop i) q c b=
    ((a[i]+65536-(c+q*v.getD i 0)%65536-b)%65536::(gu (a.drop (i+1)) (v.drop (i+1)) q ((c+q*v.getD i 0)/65536) (if a[i]<(c+q*v.getD i 0)%65536+b then 1 else 0)).1,
     (gu (a.drop (i+1)) (v.drop (i+1)) q ((c+q*v.getD i 0)/65536) (if a[i]<(c+q*v.getD i 0)%65536+b then 1 else 0)).2):=by
  rw[KaA h,gu];simp[KbP,KcJ,Kad]
theorem QO:∀(a v:List Nat)(q c b:Nat),Qk a->b<=1->v.length<=a.length->
  val (gu a v q c b).1+(q*val v+c+b)=val a+65536^a.length*((gu a v q c b).2.1+(gu a v q c b).2.2)/\(gu a v q c b).2.2<=1
 | [],v,q,c,b,_,hb,h=>by have:v=[]:=KaI.1 (by simpa using h);subst this;simp[gu,val,hb]
 |x::xs,v,q,c,b,ha,hb,h=>by
  rw[jt]at ha;have ax:(if x<(c+q*v.headD 0)%65536+b then 1 else 0)<=1:=by split<;>omega
  obtain⟨ih,N8⟩:=QO xs v.tail q ((c+q*v.headD 0)/65536) (if x<(c+q*v.headD 0)%65536+b then 1 else 0) ha.2 ax (by simp at h ⊢;omega);refine⟨?_,N8⟩;simp only[gu];rw[val,val,CF v,KaT,Kbv,KaP (65536^xs.length) 65536,Kbm,Ka4 q,Kbl q 65536];generalize gu xs v.tail q ((c+q*v.headD 0)/65536) (if x<(c+q*v.headD 0)%65536+b then 1 else 0)=r at *
  generalize 65536^xs.length*(r.2.1+r.2.2)=z at *
  generalize q*v.headD 0=y at *
  generalize q*val v.tail=t at *
  have h0:=ha.1;split at ih
  ·omega
  ·omega
open Go
variable {fr : Fr} {hp : HP}
theorem amo{ty len:Nat}{aZ:PV->List PV->Prop}{xs':List PV}(hB:hp B0=some ⟨1,ty,xs',false⟩)(hi:pA xs')(hl:xs'.length=len)(hp':aZ (.aH []) xs'):vg [] ty len aZ fr hp:=
 ⟨xs',hB,hi,hl,.inl ⟨by simp,.aH [],trivial,by simp,hp'⟩⟩
theorem Tj{ty len s:Nat}{aZ:PV->List PV->Prop}{xs':List PV}{p:PV}(hB:hp B0=some ⟨1,ty,xs',false⟩)(hi:pA xs')(hl:xs'.length=len)(hs:aU hp (fr s)=p)(hd:p.aN=true)(hp':aZ p xs'):vg [.t s] ty len aZ fr hp:=
 ⟨xs',hB,hi,hl,.inl ⟨by simp only[oe];rw[hs];exact hd,p,by simp only[nr];rw[hs];exact Ql p,fun β o n e=>by subst e;simp[PV.aN]at hd,hp'⟩⟩
theorem R1{ty len s o n:Nat}{aZ:PV->List PV->Prop}{xs':List PV}(hB:hp B0=some ⟨1,ty,xs',false⟩)(hi:pA xs')(hl:xs'.length=len)(hs:fr s= .aB B0 o n)(hp':aZ (.aB B0 o n) xs'):vg [.t s] ty len aZ fr hp:=
 ⟨xs',hB,hi,hl,.inr ⟨s,o,n,rfl,hs,hp'⟩⟩
end Go.FW
namespace Go.FW
open Go
variable {C : Ctx} {fr : Fr} {hp : HP} {K : Qh}
theorem DE{a b i:Nat}(h:b<2^i):a*2^i|||b=a*2^i+b:=by rw[<-Nat.shiftLeft_eq,Nat.shiftLeft_add_eq_or_of_lt h]
theorem Tk{bt:Bool}{x y d:Nat}(hx:x<18446744073709551616)(hy:y<18446744073709551616):cu .or bt (.int .u64 (x:Int)) (.int .u64 (y:Int)) d fr hp K=K (af fr d (.int .u64 ((x|||y:Nat):Int))) hp:=by
 have h1:(BitVec.ofInt 64 (x:Int)|||BitVec.ofInt 64 (y:Int)).toNat=x|||y:=by rw[BitVec.toNat_or,BitVec.ofInt_natCast,BitVec.ofInt_natCast,BitVec.toNat_ofNat,BitVec.toNat_ofNat,KaS hx,KaS hy]
 have h2:x|||y<18446744073709551616:=Nat.or_lt_two_pow (n:=64) hx hy;simp only[cu,IntKind.bits,h1,true_and];rw[uS (by omega) (by omega)];exact congrArg (fun z:Nat=>K (af fr d (.int .u64 (z:Int))) hp) h1
theorem Tl{bt:Bool}{x y d:Nat}(hx:x<4294967296)(hy:y<4294967296):cu .or bt (.int .u32 (x:Int)) (.int .u32 (y:Int)) d fr hp K=K (af fr d (.int .u32 ((x|||y:Nat):Int))) hp:=by
 have h1:(BitVec.ofInt 32 (x:Int)|||BitVec.ofInt 32 (y:Int)).toNat=x|||y:=by rw[BitVec.toNat_or,BitVec.ofInt_natCast,BitVec.ofInt_natCast,BitVec.toNat_ofNat,BitVec.toNat_ofNat,KaS hx,KaS hy]
 have h2:x|||y<4294967296:=Nat.or_lt_two_pow (n:=32) hx hy;simp only[cu,IntKind.bits,h1,true_and];rw[G5 (by omega) (by omega)];exact congrArg (fun z:Nat=>K (af fr d (.int .u32 (z:Int))) hp) h1
theorem amp{bt:Bool}{x y d:Nat}(hx:x<65536)(hy:y<65536):cu .or bt (.int .u16 (x:Int)) (.int .u16 (y:Int)) d fr hp K=K (af fr d (.int .u16 ((x|||y:Nat):Int))) hp:=by
 have h1:(BitVec.ofInt 16 (x:Int)|||BitVec.ofInt 16 (y:Int)).toNat=x|||y:=by rw[BitVec.toNat_or,BitVec.ofInt_natCast,BitVec.ofInt_natCast,BitVec.toNat_ofNat,BitVec.toNat_ofNat,KaS hx,KaS hy]
 have h2:x|||y<65536:=Nat.or_lt_two_pow (n:=16) hx hy;simp only[cu,IntKind.bits,h1,true_and];rw[afA (by omega) (by omega)];exact congrArg (fun z:Nat=>K (af fr d (.int .u16 (z:Int))) hp) h1
theorem R2{bt:Bool}{k':IntKind}{x s d:Nat}(hs:s<=64)(h:x*2^s<18446744073709551616):cu .shl bt (.int .u64 (x:Int)) (.int k' (s:Int)) d fr hp K=K (af fr d (.int .u64 ((x*2^s:Nat):Int))) hp:=by
 have h0:(0:Int)<=s:=by omega
 have h1:min ((s:Int).toNat) IntKind.u64.bits=s:=by simp[IntKind.bits];omega
 simp only[cu,h0,true_and,h1];rw[show(x:Int)*2^s=((x*2^s:Nat):Int)by push_cast;rfl,uS (by omega) (by omega)]
theorem R3{bt:Bool}{k':IntKind}{x s d:Nat}(hs:s<=32)(h:x*2^s<4294967296):cu .shl bt (.int .u32 (x:Int)) (.int k' (s:Int)) d fr hp K=K (af fr d (.int .u32 ((x*2^s:Nat):Int))) hp:=by
 have h0:(0:Int)<=s:=by omega
 have h1:min ((s:Int).toNat) IntKind.u32.bits=s:=by simp[IntKind.bits];omega
 simp only[cu,h0,true_and,h1];rw[show(x:Int)*2^s=((x*2^s:Nat):Int)by push_cast;rfl,G5 (by omega) (by omega)]
theorem LM{bt:Bool}{k':IntKind}{x d:Nat}(h:x<281474976710656):cu .shl bt (.int .u64 (x:Int)) (.int k' 16) d fr hp K=K (af fr d (.int .u64 ((x*65536:Nat):Int))) hp:=
 R2 (s:=16) (by omega) (by omega)
theorem LN{bt:Bool}{k':IntKind}{x d:Nat}(h:x<65536):cu .shl bt (.int .u32 (x:Int)) (.int k' 16) d fr hp K=K (af fr d (.int .u32 ((x*65536:Nat):Int))) hp:=
 R3 (s:=16) (by omega) (by omega)
theorem Jw{bt:Bool}{k':IntKind}{x s d:Nat}(hs:s<=32):cu .shr bt (.int .u32 (x:Int)) (.int k' (s:Int)) d fr hp K=K (af fr d (.int .u32 ((x/2^s:Nat):Int))) hp:=by
 rw[J6 (by omega)];have h1:min ((s:Int).toNat) IntKind.u32.bits=s:=by simp[IntKind.bits];omega
 rw[h1,Kc2 _ (Int.pow_nonneg (by omega))];rw[show(x:Int)/2^s=((x/2^s:Nat):Int)by push_cast;rfl]
theorem Me{bt:Bool}{x y d:Nat}(hx:x<281474976710656)(hy:y<65536):cu .or bt (.int .u64 ((x*65536:Nat):Int)) (.int .u64 (y:Int)) d fr hp K=K (af fr d (.int .u64 ((x*65536+y:Nat):Int))) hp:=by rw[Tk (by omega) (by omega),show x*65536|||y=x*65536+y from DE (i:=16) hy]
theorem agj{bt:Bool}{x y d:Nat}(hx:x<65536)(hy:y<65536):cu .or bt (.int .u32 ((x*65536:Nat):Int)) (.int .u32 (y:Int)) d fr hp K=K (af fr d (.int .u32 ((x*65536+y:Nat):Int))) hp:=by rw[Tl (by omega) (by omega),show x*65536|||y=x*65536+y from DE (i:=16) hy]
theorem OW{bt:Bool}{x y d:Nat}(hx:x<65536)(hy:y<65536):cu .or bt (.int .u32 (y:Int)) (.int .u32 ((x*65536:Nat):Int)) d fr hp K=K (af fr d (.int .u32 ((x*65536+y:Nat):Int))) hp:=by rw[Tl (by omega) (by omega),Nat.or_comm,show x*65536|||y=x*65536+y from DE (i:=16) hy]
theorem Jx{bt:Bool}{k:IntKind}{x y d:Nat}(hy:0<y)(hw:k.wrap ((x/y:Nat):Int)=((x/y:Nat):Int)):cu .quo bt (.int k (x:Int)) (.int k (y:Int)) d fr hp K=K (af fr d (.int k ((x/y:Nat):Int))) hp:=by
 have:(y:Int)≠0:=by omega
 simp only[cu,ne_eq,this,not_false_eq_true,true_and];rw[ahZ (by omega),<-hw];rfl
theorem rD{bt:Bool}{k:IntKind}{x y d:Nat}(hy:0<y):cu .rem bt (.int k (x:Int)) (.int k (y:Int)) d fr hp K=K (af fr d (.int k ((x%y:Nat):Int))) hp:=by
 have:(y:Int)≠0:=by omega
 simp only[cu,ne_eq,this,not_false_eq_true,true_and];rw[ah0 (by omega)];rfl
theorem aeC{n:Nat}(h:n<18446744073709551616):IntKind.u64.wrap (n:Int)=n:=uS (by omega) (by omega)
theorem aeD{n:Nat}(h:n<4294967296):IntKind.u32.wrap (n:Int)=n:=G5 (by omega) (by omega)
theorem aeE{n:Nat}(h:n<9223372036854775808):IntKind.i64.wrap (n:Int)=n:=yr (by omega) (by omega)
theorem Dg{bt:Bool}{x y d:Nat}(hy:0<y)(hx:x<18446744073709551616):cu .quo bt (.int .u64 (x:Int)) (.int .u64 (y:Int)) d fr hp K=K (af fr d (.int .u64 ((x/y:Nat):Int))) hp:=
 Jx hy (aeC (KcP (KcV x y) hx))
theorem ahO{bt:Bool}{x y d:Nat}(hy:0<y)(hx:x<4294967296):cu .quo bt (.int .u32 (x:Int)) (.int .u32 (y:Int)) d fr hp K=K (af fr d (.int .u32 ((x/y:Nat):Int))) hp:=
 Jx hy (aeD (KcP (KcV x y) hx))
theorem Dh{bt:Bool}{x y d:Nat}(hy:0<y)(hx:x<9223372036854775808):cu .quo bt (.int .i64 (x:Int)) (.int .i64 (y:Int)) d fr hp K=K (af fr d (.int .i64 ((x/y:Nat):Int))) hp:=
 Jx hy (aeE (KcP (KcV x y) hx))
theorem ahP{e d β o n H:Nat}{k:IntKind}(h:H<=n)(he:(hp β).map (·.e)=some e):kj e (.aB β o n) none (some (.int k (H:Int))) none d fr hp K=K (af fr d (.aB β o H)) hp:=by
 have h1:(H:Int)<=(n:Int):=by omega
 simp[kj,jL,he,h1]
theorem ahQ{e d β o n L H:Nat}{k k':IntKind}(h1:L<=H)(h:H<=n)(h0:L<n)(he:(hp β).map (·.e)=some e):kj e (.aB β o n) (some (.int k (L:Int))) (some (.int k' (H:Int))) none d fr hp K=K (af fr d (.aB β (o+L) (H-L))) hp:=by
 have q1:(H:Int)<=(n:Int):=by omega
 have q2:(L:Int)<=(H:Int):=by omega
 have q3:(L:Int)<(n:Int):=by omega
 simp[kj,jL,he,q1,q2,q3]
theorem OX{bt:Bool}{x d:Nat}(hx:x<9223372036854775808):cu .quo bt (.int .i64 (x:Int)) (.int .i64 16) d fr hp K=K (af fr d (.int .i64 ((x/16:Nat):Int))) hp:=
 Dh (y:=16) (by omega) hx
theorem OY{bt:Bool}{x d:Nat}:cu .rem bt (.int .i64 (x:Int)) (.int .i64 16) d fr hp K=K (af fr d (.int .i64 ((x%16:Nat):Int))) hp:=
 rD (y:=16) (by omega)
def qH(s:Nat):List Nat->Nat->List Nat
 | [],c=>[c]
 |x::xs,c=>((x*2^s)%65536+c)::qH s xs (x*2^s/65536)
theorem QP(s:Nat):∀(l:List Nat)(c:Nat),val (qH s l c)=val l*2^s+c
 | [],c=>by simp[qH,val]
 |x::xs,c=>by rw[qH,val,QP s xs,val,KaK,Kbm];generalize x*2^s=y;generalize val xs*2^s=z;omega
theorem LO{s:Nat}(h:s<=16):(65536:Nat)=2^s*2^(16-s):=by rw[<-Nat.pow_add,show s+(16-s)=16 by omega]
theorem QQ{s x c:Nat}(h:s<=16)(hc:c<2^s):(x*2^s)%65536+c<65536/\c|||(x*2^s)%65536=(x*2^s)%65536+c:=by
 have e:(x*2^s)%65536=(x%2^(16-s))*2^s:=by rw[LO h,KaP x,Nat.mul_mod_mul_left,KaP]
 have h1:x%2^(16-s)<2^(16-s):=Kbx _ (Kbw (by omega));have h2:(x%2^(16-s)+1)*2^s<=2^(16-s)*2^s:=Kaj _ h1;rw[KaK,KaP (2^(16-s)),<-LO h]at h2;rw[e];refine⟨by omega,?_⟩;rw[Nat.or_comm,DE hc]
theorem OZ{s x:Nat}(h:s<=16)(hx:x<65536):x*2^s/65536<2^s:=by rw[Kbi (by omega),KaP];exact Nat.mul_lt_mul_of_pos_left hx (Kbw (by omega))
theorem Wa{s:Nat}(h:s<=15):∀(l:List Nat)(c:Nat),Qk l->c<2^s->Qk (qH s l c)
 | [],c,_,hc=>by have:2^s<=2^15:=KaR (by omega) h;simp[qH,Qk];omega
 |x::xs,c,hl,hc=>by rw[jt]at hl;rw[qH,jt];exact⟨(QQ (by omega) hc).1,Wa h xs _ hl.2 (OZ (by omega) hl.1)⟩
theorem Vg(s:Nat):∀(l:List Nat)(c:Nat),(qH s l c).length=l.length+1
 | [],_=>rfl
 |x::xs,c=>by simp[qH,Vg s xs]
theorem amq{s x:Nat}(h:s<=15)(hx:x<65536):x*2^s<2147483648:=by have:2^s<=2^15:=KaR (by omega) h;have:=KaQ (show x<=65535 by omega) this;omega
theorem QR(l:List Nat):∀n,n<=l.length->cut l n=l.take (cut l n).length
 |0,_=>by simp[cut]
 |n+1,h=>by
  unfold cut;split
  ·exact QR l n (by omega)
  ·rw[KaF,Kcb h]
theorem agk{l:List Nat}(h:Qk l):l.take (nl (val l))=ao (val l):=by have:=QR l l.length (Kae _);rw[Dc h]at this;exact this.symm
end Go.FW
namespace Go.FW
open Go
theorem Df.toV{P:Program}{f:FuncId}{args:List PV}{ty:TypeId}{ys:List PV}(h:Df P f args ty (· =ys)):Qd P f args (· = .sl 1 ys):=by
 refine⟨h.1,fun w X bC hX h2 h3=>(h.2 w X bC hX h2 h3).mono ?_⟩;rintro e w' ⟨v,b,cap,ys',rfl,rfl,hb,hx,hI,eD,hm,rfl⟩;refine⟨_,_,rfl,hx,?_,rfl⟩;obtain⟨hint,cur,cp,i1,i2,i3,i4,i5⟩:=hI;obtain⟨cur',ty',d1,d2⟩:=eD;rw[i1]at d1;cases d1;have m7:b<w'.heap.size:=(KbW.1 i1).1;have e:cp=cap:=by omega
 subst e;refine Qu.sl (w:=w') (X:=X) 1 ys' b 0 cp (fun i j=>cur.getD (i+j) undef) (fun Fh=>by have:=hX b Fh;omega) m7 i3 i4 (G6 hint |> fun h i x hx=>(h i x hx).1) (fun i hi j hj=>?_) (fun i x hx j y hy=>?_)
 ·have:j=0:=by omega
  subst this;simp only[Kbh,KbK,KaY];exact og i1 (by omega)
 ·obtain⟨k,n,rfl⟩:=hint x (Kai hx);cases j with
  |zero=>simp[PV.cells]at hy;subst hy;show Qu w' X (.int k n) (cur.getD (i+0) undef);rw[KaY,i5 i k n hx];exact Qu.int k n
  |succ j=>simp[PV.cells]at hy
def pB(s:Nat):List Nat->List Nat
 | []=>[]
 |x::xs=>((xs.headD 0*65536+x)/2^s)%65536::pB s xs
theorem KQ(s:Nat):∀l,(pB s l).length=l.length
 | []=>rfl
 |x::xs=>by simp[pB,KQ s xs]
theorem Wb(s:Nat):∀l,Qk (pB s l)
 | []=>qq
 |x::xs=>by rw[pB,jt];exact⟨by omega,Wb s xs⟩
theorem aeF{s i:Nat}{l:List Nat}(h:i<l.length):pB s (l.drop i)=((l.getD (i+1) 0*65536+l[i])/2^s)%65536::pB s (l.drop (i+1)):=by rw[KaA h,pB];simp[KbP,KcJ,Kad]
theorem agl{x V s:Nat}(hs:s<=16)(hx:x<65536):(x+65536*V)/2^s=((V%65536*65536+x)/2^s)%65536+65536*(V/2^s):=by
 have hp:0<2^s:=Kbw (by omega);have e0:=Kbq V (2^s);have hr:=Kbx V hp;generalize hq:V/2^s=q at *
 generalize BO:V%2^s=r at *
 have hy:V%65536%2^s=r:=by rw[LO hs,Nat.mod_mul_right_mod];exact BO
 have e1:=Kbq (V%65536) (2^s);rw[hy]at e1;generalize V%65536/2^s=t at *
 have aw:(65536*r+x)/2^s<65536:=by rw[Kbi hp];have:65536*(r+1)<=65536*2^s:=KaE _ hr;omega
 have k1:x+65536*V=(65536*r+x)+2^s*(65536*q):=by rw[<-e0,Ka4,Kbl];omega
 have k2:V%65536*65536+x=(65536*r+x)+2^s*(65536*t):=by rw[<-e1,KaK,Kbm,KaP t 65536];omega
 rw[k1,k2,KcF _ _ hp,KcF _ _ hp,KcE,KaS aw]
theorem QS{s:Nat}(hs:s<=16):∀l,Qk l->val (pB s l)=val l/2^s
 | [],_=>by simp[pB,val]
 | x::xs,h=>by
  rw[jt]at h;rw[pB,val,QS hs xs h.2,val,agl hs h.1];have:xs.headD 0=val xs%65536:=by
   cases xs with
   |nil=>simp[val]
   |cons y ys=>have:=h.2 y (by simp);simp[val];omega
  rw[this]
variable {C : Ctx} {ρ : Nat -> Option Nat} {fr aG : Fr} {hp : HP} {w : World} {K K' R R' : Qh}
def cB(fr aG:Fr):Prop:=∀s,aG s=fr s∨aG s= .undef
theorem cB.refl(fr:Fr):cB fr fr:=fun _=>.inl rfl
theorem cB.trans{a b c:Fr}(h:cB a b)(k:cB b c):cB a c:=fun s=>by
 rcases k s with e|e
 ·rw[e];exact h s
 ·exact .inr e
theorem cB.af(h:cB fr aG)(d:Nat){v v':PV}(hv:v'=v∨v'= .undef):cB (af fr d v) (af aG d v'):=fun s=>by
 unfold FW.af;split
 ·exact hv
 ·exact h s
theorem cB.mJ(h:cB fr aG)(d:Nat)(v:PV):cB (FW.af fr d v) (FW.af aG d v):=h.af d (.inl rfl)
theorem cB.kill(h:cB fr aG)(β:Nat):cB (cP β fr) (cP β aG):=fun s=>by
 unfold cP;rcases h s with e|e
 ·exact .inl (by rw[e])
 ·right;rw[e];simp[cA,PV.refs]
theorem cB.ev(h:cB fr aG)(x:aX):ev aG x=ev fr x∨ev aG x= .undef:=by
 cases x with
 |t n=>exact h n
 |c p=>exact .inl rfl
theorem cB.mem(h:cB fr aG){q:PV->Prop}(hq:¬q .undef){l:List aX}(hl:∀p∈l.map (FW.ev aG),q p):l.map (FW.ev aG)=l.map (FW.ev fr):=by
 refine KaJ fun x hx=>?_;rcases h.ev x with e|e
 ·exact e
 ·exact absurd (e▸hl _ (KcN hx)) hq
theorem cB.aC(h:cB fr aG){γ bu e ty:Nat}{xs:List PV}(e1:aG γ= .aC bu e ty xs):fr γ= .aC bu e ty xs:=by
 rcases h γ with e2|e2
 ·rw[<-e2];exact e1
 ·rw[e1]at e2;cases e2
theorem cB.drop(h:cB fr aG)(γ:Nat):cB (iP γ fr) (iP γ aG):=fun s=>by
 unfold iP;rcases h s with e|e
 ·exact .inl (by rw[e])
 ·right;rw[e];rfl
theorem cB.take(h:cB fr aG)(β:Nat):cB (fX β fr) (fX β aG):=fun s=>by
 unfold fX;rcases h s with e|e
 ·exact .inl (by rw[e])
 ·right;rw[e];simp[cV,cA,PV.refs]
theorem cB.wk(h:cB fr aG):Wk fr hp aG hp:=by
 rintro C tmps w ⟨ρ,hs⟩;refine⟨ρ,hs.sz,hs.ext,hs.fT,hs.own,hs.inj,fun s=>?_⟩;rcases h s with h|h<;>rw[h]
 ·exact hs.cN s
 ·trivial
theorem cB.sim{tmps:Array Value}(h:cB fr aG)(hs:Qv C ρ fr hp tmps w):Qv C ρ aG hp tmps w:=by
 refine⟨hs.sz,hs.ext,hs.fT,hs.own,hs.inj,fun s=>?_⟩;rcases h s with h|h<;>rw[h]
 ·exact hs.cN s
 ·trivial
theorem Kk(h:cB fr aG)(x:Option aX):x.map (ev aG)=x.map (ev fr)∨x.map (ev aG)=some .undef:=by
 cases x with
 |none=>exact .inl rfl
 |some x=>rcases h.ev x with e|e<;>simp[e]
theorem Q43(d:Int):jL d (some .undef)=none:=rfl
theorem Jy (h:cB fr aG) (hK:∀f f' hp,cB f f'->K' f' hp->K f hp) (o:cO):bP C o aG hp K'->bP C o fr hp K:=by
 have hu:∀(d:Nat)(v:PV)(hp:HP),K' (af aG d v) hp->K (af fr d v) hp:=fun d v hp H=>hK _ _ _ (h.mJ d v) H;have hk:∀(β d:Nat)(v:PV)(hp:HP),K' (af (cP β aG) d v) hp->K (af (cP β fr) d v) hp:=fun β d v hp H=>hK _ _ _ ((h.kill β).mJ d v) H;have hz:∀hp,K' aG hp->K fr hp:=fun hp H=>hK _ _ _ h H;have mono:∀ {o:cO},bP C o fr hp K'->bP C o fr hp K:=fun H=>Md (fun f hp H=>hK _ _ _ (cB.refl f) H) _ H;cases o with
 |mv d x=>exact fun H=>hK _ _ _ (h.af d (h.ev x)) H
 | pick d c a b=>
  simp only[bP,vf];rcases h.ev c with e|e
  ·rw[e];split
   ·exact fun H=>⟨fun t=>hK _ _ _ (h.af d (h.ev a)) (H.1 t),fun t=>hK _ _ _ (h.af d (h.ev b)) (H.2 t)⟩
   ·exact id
  ·rw[e];exact False.elim
 | call d pr f args=>
  simp only[bP,gl];rcases h.ev f with e|e
  ·rw[e];split
   ·rintro⟨h1,h2⟩;refine⟨h1,fun ρ tmps w fv cv av a1 a2 a3 a4 a5 a6 a7 a8=>?_⟩;refine(h2 ρ tmps w fv cv av a1 (h.sim a2) a3 a4 (by simpa using a5) a6 a7 (fun i x hx=>?_)).mono ?_
    ·simp only[Kas,Kaa]at hx;obtain⟨y,hy,rfl⟩:=hx;rcases h.ev y with e|e
     ·rw[e];exact a8 i _ (by simp[hy])
     ·rw[e];trivial
    ·rintro e w' ⟨v,f1,hp',e1,e2,e3,e4⟩;exact⟨v,f1,hp',e1,e2,e3,hK _ _ _ (cB.refl _) e4⟩
   ·exact id
  ·rw[e];exact False.elim
 | bs d e ty ps=>
  simp only[bP,mu];by_cases hb:nA (ps.map (ev aG))=true
  ·rw[if_pos hb];rintro⟨h1,h2⟩;have e:ps.map (ev aG)=ps.map (ev fr):=by
    match ps,hb with
    | [],hb=>simp[nA]at hb
    | [p],hb=>
     rcases h.ev p with e|e
     ·simp[e]
     ·rw[Kba,Kbu,e]at hb;simp[nA,ko]at hb
    |p::q::ps,hb=>simp[nA]at hb
   rw[e]at h2 hb;rw[if_pos hb];exact⟨h1,hK _ _ _ (((h.take _).mJ _ _).mJ _ _) h2⟩
  ·rw[if_neg hb];rintro⟨h1,h2,h3⟩;have e:=h.mem (q:=fun p=>(aU hp p).aN=true) (by simp[aU,cZ,PV.aN]) (l:=ps) (fun p hp=>(h2 p hp).1);rw[e]at h2 h3 hb;rw[if_neg hb];exact⟨h1,h2,hk _ _ _ _ h3⟩
 | eB d z ps=>
  have key:((∀x∈ps,ev aG x.2.2≠ .undef)->(ps.map fun p=>(p.1,p.2.1,ev aG p.2.2))=ps.map fun p=>(p.1,p.2.1,ev fr p.2.2)):=fun hu=>by
   refine KaJ fun x hx=>?_;rcases h.ev x.2.2 with e|e
   ·rw[e]
   ·exact absurd e (hu x hx)
  intro H;simp only[bP,oA]at H;split at H
  ·rename_i hn;obtain⟨h2,h3⟩:=H;have e:=key fun x hx e=>by obtain⟨cs,h4,_⟩:=h2 _ (KcN hx);rw[e]at h4;simp[fU]at h4
   rw[e]at h2 h3 hn;simp only[bP,oA];rw[if_pos hn];exact⟨h2,hK _ _ _ (h.mJ _ _) h3⟩
  ·rename_i hn;obtain⟨h2,h3⟩:=H;have e:=key fun x hx e=>by have:=(h2 _ (KcN hx)).1;rw[e]at this;simp[aU,cZ,PV.aN]at this
   rw[e]at h2 h3 hn;simp only[bP,oA];rw[if_neg hn];exact⟨h2,hK _ _ _ (h.mJ _ _) h3⟩
 |fn d f first cap=>simp only[bP];rintro⟨h2,h3⟩;have oF:=h2;rw[List.all_append,KaC,Kax,Kax]at oF;have e1:=h.mem (q:=fun p=>p.nk=true) (by simp[PV.nk]) oF.1;have e2:=h.mem (q:=fun p=>p.nk=true) (by simp[PV.nk]) oF.2;rw[e1,e2]at h2 h3;exact⟨h2,hK _ _ _ (h.mJ _ _) h3⟩
 | Fp d x=>
  simp only[bP,DK];rcases h.ev x with e|e
  ·rw[e];intro H;revert H
   repeat' split
   all_goals first|exact id|exact hz _|exact hu _ _ _|grind
  ·rw[e];intro H;revert H;repeat' split
   all_goals first|exact id|exact False.elim|grind
 | bin d op bt x y=>
  simp only[bP];rcases h.ev x with e|e<;>rcases h.ev y with e'|e'<;>rw[e,e']
  ·unfold cu;intro H;revert H;split
   ·split<;>first|exact fun H=>⟨H.1,hu _ _ _ H.2⟩|exact fun H=>⟨H.1,H.2.1,hu _ _ _ H.2.2⟩|exact id
   ·split<;>first|exact fun H=>⟨H.1,hu _ _ _ H.2⟩|exact id
   ·exact id
  all_goals
   unfold cu;intro H;revert H
   repeat' split
   all_goals first|exact False.elim|(intros;simp_all;done)|(rename_i h1 _;cases h1;done)|(rename_i h1;cases h1;done)
 | sl d e x lo hi mx=>
  simp only[bP,kj];rcases h.ev x with e0|e0<;>rcases Kk h lo with e1|e1<;>rcases Kk h hi with e2|e2<;>rcases Kk h mx with e3|e3<;>rw[e0,e1,e2,e3]
  all_goals
   intro H;revert H
   try simp only[Q43]
   repeat' split
   all_goals first|exact id|exact False.elim|(intros;simp_all;done)|grind
 | ld d n ag x=>
  simp only[bP,kf];rcases h.ev x with e|e
  ·rw[e];intro H;revert H;split
   ·split
    ·exact fun⟨a,b,c,k⟩=>⟨a,b,c,hu _ _ _ k⟩
    ·exact id
   ·exact fun⟨a,b,k⟩=>⟨a,b,hu _ _ _ k⟩
   ·exact fun⟨a,b,k⟩=>⟨a,b,hu _ _ _ k⟩
   ·intro H;split at H
    ·rename_i aj;rw[h.aC aj];obtain⟨a,b,c,d,k⟩:=H;exact⟨a,b,c,d,hu _ _ _ k⟩
    ·exact H.elim
   ·exact id
  ·rw[e];exact fun H=>H.elim
 | st n x y=>
  simp only[bP,qf];rcases h.ev x with e|e<;>rcases h.ev y with e'|e'<;>rw[e,e']
  ·intro H;revert H;split
   ·split
    ·exact fun⟨a,b,c,d,f,k⟩=>⟨a,b,c,d,f,hz _ k⟩
    ·exact id
   ·intro H;split at H
    ·rename_i aj;rw[h.aC aj];obtain⟨a,b,c,d,H⟩:=H;refine⟨a,b,c,d,?_⟩;revert H;split
     ·exact fun⟨f,k⟩=>⟨f,hK _ _ _ ((h.drop _).mJ _ _) k⟩
     ·exact id
    ·exact H.elim
   ·exact id
  ·intro H;exfalso;revert H;split
   ·split
    ·rintro⟨_,b,_⟩;simp[aU,cZ,PV.aN]at b
    ·exact id
   ·split
    ·rintro⟨_,_,_,_,H⟩;exact H
    ·exact id
   ·exact id
  ·exact fun H=>H.elim
  ·exact fun H=>H.elim
 | app d e by_ ty x y=>
  simp only[bP,ia];rcases h.ev y with e'|e'
  ·rw [e'];intro H;revert H;split
   ·unfold w6;split
    ·rename_i δ _;rcases h δ with e2|e2
     ·rw [e2];split
      ·rintro⟨a1,a2,a3,H⟩;refine⟨a1,a2,a3,?_⟩;rcases h.ev x with e|e
       ·rw[e]at H;revert H;split
        ·exact fun H=>⟨H.1,hK _ _ _ (((h.take _).mJ _ _).mJ _ _) H.2⟩
        ·rename_i γ k _;rcases h γ with e3|e3
         ·rw[e3];split
          ·exact fun H=>⟨H.1,H.2.1,hK _ _ _ (((h.take _).mJ _ _).mJ _ _) H.2.2⟩
          ·exact id
         ·rw[e3];exact fun H=>H.elim
        ·exact id
       ·rw[e]at H;exact H.elim
      ·exact id
     ·rw[e2];exact fun H=>H.elim
    ·exact id
   ·rintro⟨h0,h1,H⟩;refine⟨h0,h1,?_⟩;rcases h.ev x with e|e
    ·rw[e]at H;revert H;split
     ·rintro⟨a,b,c⟩;exact⟨a,b,hk _ _ _ _ c⟩
     ·split
      ·rintro(⟨a1,a2,a3,a4,a5,a6,a7,c⟩|⟨a1,a2,a3,c⟩)
       ·exact .inl ⟨a1,a2,a3,a4,a5,a6,a7,hk _ _ _ _ c⟩
       ·exact .inr ⟨a1,a2,a3,hK _ _ _ ((h.take _).mJ _ _) c⟩
      ·exact id
     ·exact id
    ·rw[e]at H;exact H.elim
  ·rw[e'];exact fun H=>H.elim
 | un d op x|conv d k x|len d x|FA d x|gI d o x|Bv d o n ag x|ext d x i|box d n ty x|alloc d n ty z=>
  all_goals
   simp only[bP,xY,yK,rI,yR,tX,tS,kf,qD,jB]
   try (rcases h.ev x with e|e<;>rw[e])
  all_goals
   intro H;revert H
   repeat' split
   all_goals first|exact id|exact False.elim|exact hu _ _ _|grind [aU,cZ,PV.aN]
 | eqs d ng x y|cY d ng x y|Fz d x y|mx d x y|mn d x y|idx d e x y|BV d n e x y|BW d n e ag x y|mk d e by_ ty z x y|vD d e x y=>
  all_goals
   simp only[bP,tV,tW,wY,z6,z4,jQ,wR,wZ,qf,qe,ia,sK];rcases h.ev x with e|e<;>rcases h.ev y with e'|e'<;>rw[e,e']
  all_goals
   intro H;revert H
   repeat' split
   all_goals first|exact id|exact False.elim|exact hu _ _ _|grind [aU,cZ,PV.aN,jx]
 |bad d=>exact id
end Go.FW
namespace Go.FW
open Go
variable {C : Ctx} {ρ : Nat -> Option Nat} {fr aG : Fr} {hp : HP} {w : World} {K K' R R' : Qh}
def KM(K' K:Qh):Prop:=∀f f' hp,cB f f'->K' f' hp->K f hp
inductive pC:List It->List It->Prop
 |nil:pC [] []
 |c (s:SC) {a b:List It}:pC a b->pC (.c s::a) (.c s::b)
 |o (r:RT) {a b:List It}:pC a b->pC (.o r::a) (.o r::b)
 |eb (i:Nat) {a b:List It}:pC a b->pC (.eb i::a) (.eb i::b)
 |el {J' J:Qh} {a b:List It}:KM J' J->pC a b->pC (.el J'::a) (.el J::b)
theorem pC.exit{id:Nat}:∀ {a b:List It},pC a b->(∃a' b',FW.cC id a=some a'/\FW.cC id b=some b'/\pC a' b'/\cw a'<=cw a)∨(FW.cC id a=none/\FW.cC id b=none):=by
 intro a b h;induction h with
 |nil=>exact .inr ⟨rfl,rfl⟩
 |c s h ih|o s h ih=>
  rcases ih with⟨a',b',h1,h2,h3,h4⟩|⟨h1,h2⟩
  ·exact .inl ⟨a',b',by simpa[FW.cC]using h1,by simpa[FW.cC]using h2,h3,by simp only[cw];omega⟩
  ·exact .inr ⟨by simpa[FW.cC]using h1,by simpa[FW.cC]using h2⟩
 |el _ h ih=>
  rcases ih with⟨a',b',h1,h2,h3,h4⟩|⟨h1,h2⟩
  ·exact .inl ⟨a',b',by simpa[FW.cC]using h1,by simpa[FW.cC]using h2,h3,by simp only[cw];omega⟩
  ·exact .inr ⟨by simpa[FW.cC]using h1,by simpa[FW.cC]using h2⟩
 | eb i h ih=>
  by_cases hi:i=id
  ·exact .inl ⟨_,_,by simp[FW.cC,hi],by simp[FW.cC,hi],h,by simp only[cw];omega⟩
  ·rcases ih with⟨a',b',h1,h2,h3,h4⟩|⟨h1,h2⟩
   ·exact .inl ⟨a',b',by simpa[FW.cC,hi]using h1,by simpa[FW.cC,hi]using h2,h3,by simp only[cw];omega⟩
   ·exact .inr ⟨by simpa[FW.cC,hi]using h1,by simpa[FW.cC,hi]using h2⟩
theorem GV(h:cB fr aG)(hK:KM K' K)(o:cO):lA o aG hp K'->lA o fr hp K:=by
 unfold lA;split
 ·exact hK _ _ _ (h.mJ _ _)
 ·exact hK _ _ _ h
theorem agm(h:cB fr aG)(hK:KM K' K)(g:Option (Nat×Bool))(o:cO):rJ C g o aG hp K'->rJ C g o fr hp K:=by
 unfold rJ;split
 ·exact Jy h hK o
 ·rename_i s want;rcases h s with e|e
  ·rw[e];split
   ·exact fun H=>⟨fun t=>Jy (h.mJ _ _) hK o (H.1 t),fun t=>GV (h.mJ _ _) hK o (H.2 t)⟩
   ·exact GV h hK o
   ·exact id
  ·rw[e];exact False.elim
theorem ou(hR:KM R' R):∀(n:Nat)(fj sk:List It)(aG fr:Fr)(hp:HP),cw fj<=n->pC fj sk->cB fr aG->vc C R' fj aG hp->vc C R sk fr hp:=by
 intro n;induction n with
 |zero=>
  intro fj sk aG fr hp hn hs hf h;cases hs with
  |nil=>rw[wN]at h ⊢;exact hR _ _ _ hf h
  |el hJ _=>rw[yI]at h ⊢;exact hJ _ _ _ hf h
  |c s _=>exfalso;have:=SC.B9 s;simp only[cw,It.sz]at hn;omega
  |o s _=>exfalso;have:=RT.B9 s;simp only[cw,It.sz]at hn;omega
  |eb _ _=>exfalso;simp only[cw,It.sz]at hn;omega
 | succ n ih=>
  intro fj sk aG fr hp hn hs hf h;cases hs with
  |nil=>rw[wN]at h ⊢;exact hR _ _ _ hf h
  |el hJ _=>rw[yI]at h ⊢;exact hJ _ _ _ hf h
  |eb i hs=>rw[FV]at h⊢;exact ih _ _ _ _ _ (by simp only[cw,It.sz]at hn;omega) hs hf h
  | o r hs=>
   cases r with
   |nil=>rw[DC]at h ⊢;exact ih _ _ _ _ _ (by simp only[cw,It.sz,RT.sz]at hn;omega) hs hf h
   |o g o r=>rw[Td]at h⊢;exact agm (K':=fun fr hp=>vc C R' (.o r::_) fr hp) (K:=fun fr hp=>vc C R (.o r::_) fr hp) hf (fun f f' hp hf' H=>ih (.o r::_) (.o r::_) _ _ hp (by simp only[cw,It.sz,RT.sz]at hn ⊢;omega) (.o r hs) hf' H) g o h
   |wk r=>rw[HV]at h⊢;obtain⟨bU,aA,hw,h⟩:=h;exact⟨bU,aA,hf.wk.trans hw,ih (.o r::_) (.o r::_) _ _ _ (by simp only[cw,It.sz,RT.sz]at hn ⊢;omega) (.o r hs) (cB.refl _) h⟩
   |br x y=>rw[Ti]at h⊢;exact⟨ih (.o x::_) (.o x::_) _ _ _ (by simp only[cw,It.sz,RT.sz]at hn ⊢;omega) (.o x hs) hf h.1,ih (.o y::_) (.o y::_) _ _ _ (by simp only[cw,It.sz,RT.sz]at hn ⊢;omega) (.o y hs) hf h.2⟩
  | @c s a b hs=>
   cases s with
   |skip=>rw[HG]at h ⊢;exact ih _ _ _ _ _ (by simp only[cw,It.sz,SC.sz]at hn;omega) hs hf h
   |rg r=>rw[Kl]at h ⊢;exact ih (.o r::_) (.o r::_) _ _ _ (by simp only[cw,It.sz,SC.sz]at hn ⊢;omega) (.o r hs) hf h
   | raw id ops=>
    rw[vc]at h⊢;intro tmps w Q oO hQ;refine h tmps w Q ?_ fun gJ cz avh w2 cS hv=>hQ gJ cz avh w2 cS ?_
    ·obtain⟨ρ,oO⟩:=oO;exact⟨ρ,hf.sim oO⟩
    ·exact ih _ _ _ _ _ (by simp only[cw,It.sz,SC.sz]at hn;omega) hs (cB.refl _) hv
   |seq x y=>rw[HW]at h ⊢;exact ih (.c x:: .c y::_) (.c x:: .c y::_) _ _ _ (by simp only[cw,It.sz,SC.sz]at hn ⊢;omega) (.c x (.c y hs)) hf h
   |block id x=>rw[G9]at h ⊢;exact ih (.c x:: .eb id::_) (.c x:: .eb id::_) _ _ _ (by simp only[cw,It.sz,SC.sz]at hn ⊢;omega) (.c x (.eb id hs)) hf h
   |ret=>rw[HX]at h ⊢;exact hR _ _ _ hf h
   | cond c x y=>
    rw[HH]at h⊢;rcases hf.ev c with e|e
    ·rw[e]at h;unfold tQ at h⊢;split at h
     ·exact⟨fun e=>ih (.c x::_) (.c x::_) _ _ _ (by simp only[cw,It.sz,SC.sz]at hn ⊢;omega) (.c x hs) hf (h.1 e),fun e=>ih (.c y::_) (.c y::_) _ _ _ (by simp only[cw,It.sz,SC.sz]at hn ⊢;omega) (.c y hs) hf (h.2 e)⟩
     ·exact h
    ·rw[e]at h;exact h.elim
   | exit id=>
    rw[HI]at h⊢;rcases hs.exit (id:=id)with⟨a',b',h1,h2,h3,h4⟩|⟨h1,h2⟩
    ·rw[h1]at h;rw[h2];simp only[yJ]at h⊢;exact ih _ _ _ _ _ (by simp only[cw,It.sz,SC.sz]at hn;omega) h3 hf h
    ·rw[h1]at h;exact h.elim
   |loop x=>rw[Aq]at h⊢;obtain⟨I,μ,⟨bU,aA,h1,lH⟩,h2⟩:=h;refine⟨I,μ,⟨bU,aA,hf.wk.trans h1,lH⟩,fun fr hp hI=>?_⟩;refine ih (.c x:: .el _::_) (.c x:: .el _::_) _ _ _ (by simp only[cw,It.sz,SC.sz]at hn ⊢;omega) (.c x (.el ?_ hs)) (cB.refl _) (h2 fr hp hI);rintro f f' hp' hf ⟨bU,aA,g1,g2,g3⟩;exact⟨bU,aA,hf.wk.trans g1,g2,g3⟩
def rh:List (Nat×Nat)->Nat->Bool
 | [],_=>false
 |(a,b)::W,s=>(decide (a<=s)&&decide (s<=b))||rh W s
theorem aid(s:Nat):rh [] s=false:=rfl
theorem G7(a b s:Nat)(W:List (Nat×Nat)):rh ((a,b)::W) s=((decide (a<=s)&&decide (s<=b))||rh W s):=rfl
def aY(W:List (Nat×Nat))(J F:Fr):Fr:=fun s=>if rh W s then J s else F s
theorem Tn(W:List (Nat×Nat))(J F:Fr)(s:Nat):aY W J F s=if rh W s then J s else F s:=rfl
theorem R4{W:List (Nat×Nat)}{a:Nat}{v:PV}{J F:Fr}(h:rh W a=true):af (aY W J F) a v=aY W (af J a v) F:=by
 funext s;unfold af aY;by_cases hs:s=a
 ·subst hs;rw[if_pos rfl,if_pos h];simp
 ·rw[if_neg hs];split
  ·simp[hs]
  ·rfl
theorem agn{W:List (Nat×Nat)}{a:Nat}{v:PV}{J F:Fr}:af (aY W J F) a v=if rh W a=true then aY W (af J a v) F else aY ((a,a)::W) (af J a v) F:=by
 split
 ·exact R4 ‹_›
 ·funext s;unfold af aY;by_cases hs:s=a
  ·subst hs;simp[rh]
  ·have:(decide (a<=s)&&decide (s<=a))=false:=by rw[Bool.and_eq_false_iff];simp only[decide_eq_false_iff_not];omega
   simp only[G7,this,Bool.false_or,if_neg hs]
theorem aeG{W:List (Nat×Nat)}{β:Nat}{J F:Fr}:cP β (aY W J F)=aY W (cP β J) (cP β F):=by funext s;unfold cP aY;split<;>rfl
def bO(B:List Nat)(F:Fr):Fr:=fun s=>if(F s).refs.any B.contains then .undef else F s
theorem fV(F:Fr):bO [] F=F:=by funext s;simp[bO]
theorem Gj{β:Nat}{B:List Nat}{F:Fr}(h:B.contains β=true):cP β (bO B F)=bO B F:=by
 funext s;show cA β (bO B F s)=bO B F s;by_cases h1:(F s).refs.any B.contains=true
 ·have:bO B F s= .undef:=if_pos h1;rw[this];rfl
 ·have:bO B F s=F s:=if_neg h1;rw[this,cA,if_neg];intro h2;exact h1 (Ka6.2 ⟨β,by simpa using h2,h⟩)
theorem Q44{β:Nat}{B:List Nat}{F:Fr}:cP β (bO B F)=if B.contains β=true then bO B F else bO (β::B) F:=by
 split
 ·exact Gj ‹_›
 ·funext s;show cA β (bO B F s)=bO (β::B) F s;unfold bO cA;by_cases h1:(F s).refs.any B.contains=true
  ·have h2:(F s).refs.any (β::B).contains=true:=by obtain⟨x,hx,gQ⟩:=Ka6.1 h1;exact Ka6.2 ⟨x,hx,by rw[Kaw,gQ,Bool.or_true]⟩
   simp only[if_pos h1,if_pos h2];rfl
  ·simp only[if_neg h1];by_cases h2:(F s).refs.contains β=true
   ·have h3:(F s).refs.any (β::B).contains=true:=Ka6.2 ⟨β,by simpa using h2,by simp⟩;rw[if_pos h2,if_pos h3]
   ·rw[if_neg h2,if_neg];intro h3;obtain⟨x,hx,gQ⟩:=Ka6.1 h3;rw[Kaw,Kct]at gQ;rcases gQ with e|e
    ·have:x=β:=by simpa using e
     subst this;exact h2 (by simpa using hx)
    ·exact h1 (Ka6.2 ⟨x,hx,e⟩)
theorem LP(B:List Nat)(F:Fr)(s:Nat):bO B F s=if(F s).refs.any B.contains then .undef else F s:=rfl
theorem C4(W:List (Nat×Nat))(B:List Nat):cB fr (aY W fr (bO B fr)):=fun s=>by
 unfold aY bO;split
 ·exact .inl rfl
 ·split
  ·exact .inr rfl
  ·exact .inl rfl
def Bg(W:List (Nat×Nat))(F:Fr)(I:Nat->Fr->HP->Prop)(n:Nat):Qh:=fun aG hp'=>∃J m,cB aG (aY W J F)/\m<n/\I m J hp'
theorem Qf{W:List (Nat×Nat)}{F J:Fr}{I:Nat->Fr->HP->Prop}{n:Nat}(m:Nat)(hl:m<n)(h:I m J hp):Bg W F I n (aY W J F) hp:=⟨J,m,cB.refl _,hl,h⟩
theorem ago{W:List (Nat×Nat)}{F:Fr}{I:Nat->Fr->HP->Prop}{n:Nat}:KM (Bg W F I n) (Bg W F I n):=by rintro f f' hp hf ⟨J,m,h1,h2,h3⟩;exact⟨J,m,hf.trans h1,h2,h3⟩
def fG(R:Qh)(sk:List It):Prop:=KM R R/\pC sk sk
theorem Qi{sk:List It}{x:SC}(bR:fG R sk)(W:List (Nat×Nat))(B:List Nat)(I:Nat->Fr->HP->Prop)(m0:Nat)(h0:I m0 fr hp)
  (h:∀m J hp,I m J hp->vc C R (.c x:: .el (Bg W (bO B fr) I m)::sk) (aY W J (bO B fr)) hp):vc C R (.c (.loop x)::sk) fr hp:=by
 refine CE (fun m aG hp'=>∃J,aG=aY W J (bO B fr)/\I m J hp') m0 (C4 W B).wk ⟨fr,rfl,h0⟩ ?_;rintro m _ hp' ⟨J,rfl,hI⟩;refine ou bR.1 _ _ _ _ _ _ (Kae _) (.c x (.el ?_ bR.2)) (cB.refl _) (h m J hp' hI);rintro f f' cz hf ⟨J2,m2,e2,hl,h2⟩;exact Mb hl (hf.trans e2).wk ⟨J2,rfl,h2⟩
def nD(W:List (Nat×Nat))(F:Fr)(M:Fr->HP->Prop):Qh:=fun aG hp'=>∃J,cB aG (aY W J F)/\M J hp'
theorem nv{W:List (Nat×Nat)}{F J:Fr}{M:Fr->HP->Prop}(h:M J hp):nD W F M (aY W J F) hp:=⟨J,cB.refl _,h⟩
theorem wL{W:List (Nat×Nat)}{F:Fr}{M:Fr->HP->Prop}:KM (nD W F M) (nD W F M):=by rintro f f' hp hf ⟨J,h1,h3⟩;exact⟨J,hf.trans h1,h3⟩
theorem OJ{sk:List It}{W:List (Nat×Nat)}{F:Fr}{I:Nat->Fr->HP->Prop}{n:Nat}(h:fG R sk):fG R (.el (Bg W F I n)::sk):=⟨h.1,.el ago h.2⟩
theorem QT{sk:List It}{W:List (Nat×Nat)}{F:Fr}{M:Fr->HP->Prop}(h:fG R sk):fG R (.el (nD W F M)::sk):=⟨h.1,.el wL h.2⟩
theorem Si{sk:List It}{i:Nat}(h:fG R sk):fG R (.eb i::sk):=⟨h.1,.eb i h.2⟩
theorem To{sk:List It}{s:SC}(h:fG R sk):fG R (.c s::sk):=⟨h.1,.c s h.2⟩
theorem Tp{sk:List It}{s:RT}(h:fG R sk):fG R (.o s::sk):=⟨h.1,.o s h.2⟩
theorem Wc{sk:List It}{I:Nat->Qh}{n:Nat}(h:fG R sk):fG R (.el (Bc I n)::sk):=⟨h.1,.el (fun f f' hp hf ⟨a,b,h1,h2⟩=>⟨a,b,hf.wk.trans h1,h2⟩) h.2⟩
theorem K8{c:PV}{x y:SC}{sk:List It}(bR:fG R sk)(W:List (Nat×Nat))(B:List Nat)(M:Fr->HP->Prop)
  (h:mN C R c x y (.el (nD W (bO B fr) M)::sk) (aY W fr (bO B fr)) hp) (hM:∀J hp,M J hp->vc C R sk (aY W J (bO B fr)) hp):mN C R c x y sk fr hp:=by
 refine yn (nD W (bO B fr) M) ?_ ?_
 ·unfold mN tQ at h⊢;split at h
  ·exact⟨fun e=>ou bR.1 _ _ _ _ _ _ (Kae _) (.c x (.el wL bR.2)) (C4 W B) (h.1 e),fun e=>ou bR.1 _ _ _ _ _ _ (Kae _) (.c y (.el wL bR.2)) (C4 W B) (h.2 e)⟩
  ·exact h
 ·rintro aG hp' ⟨J,h1,h2⟩;exact ou bR.1 _ _ _ _ _ _ (Kae _) bR.2 h1 (hM J hp' h2)
theorem Sj{rs:List RV}{Rr:PV->Prop}:KM (gm rs Rr) (gm rs Rr):=by
 have one:∀(f f':Fr)(hp:HP)(r:RV),cB f f'->oe f' hp r->oe f hp r/\nr f' hp r=nr f hp r:=by
  intro f f' hp r hf ho;cases r with
  |t s=>
   simp only[oe,nr]at ho⊢;rcases hf s with e|e
   ·rw[e]at ho ⊢;exact⟨ho,rfl⟩
   ·rw[e]at ho;simp[aU,cZ,PV.aN]at ho
  |cell s n ag=>
   simp only[oe,nr]at ho⊢;rcases hf s with e|e
   ·rw[e]at ho ⊢;exact⟨ho,rfl⟩
   ·rw[e]at ho;exact ho.elim
 intro f f' hp hf h;unfold gm at h⊢;split at h
 ·rename_i r;obtain⟨h1,h2⟩:=h;obtain⟨g1,g2⟩:=one f f' hp r hf h1;rw[g2]at h2;exact⟨g1,h2⟩
 ·obtain⟨h1,h2⟩:=h;have e:rs.map (nr f' hp)=rs.map (nr f hp):=KaJ fun r hr=>(one f f' hp r hf (h1 r hr)).2;rw[e]at h2;exact⟨fun r hr=>(one f f' hp r hf (h1 r hr)).1,h2⟩
theorem agp{rs:List RV}{ty:TypeId}{len:Nat}{aZ:PV->List PV->Prop}:KM (vg rs ty len aZ) (vg rs ty len aZ):=by
 rintro f f' hp hf ⟨xs',h1,h2,h3,h4⟩;refine⟨xs',h1,h2,h3,?_⟩;rcases h4 with h4|⟨s,o,n,h4,h5,h6⟩
 ·exact .inl (Sj _ _ _ hf h4)
 ·refine .inr ⟨s,o,n,h4,?_,h6⟩;rcases hf s with e|e
  ·rw[<-e];exact h5
  ·rw[h5]at e;cases e
theorem agq{rs:List RV}{ty:TypeId}{aZ:List PV->Prop}:KM (Bk rs ty aZ) (Bk rs ty aZ):=by
 rintro f f' hp hf ⟨s,β,n,xs,h1,h2,h3⟩;refine⟨s,β,n,xs,h1,?_,h3⟩;rcases hf s with e|e
 ·rw[<-e];exact h2
 ·rw[h2]at e;cases e
theorem QU{rs:List RV}{Rr:PV->Prop}:fG (gm rs Rr) []:=⟨Sj,.nil⟩
theorem O4{rs:List RV}{ty:TypeId}{len:Nat}{aZ:PV->List PV->Prop}:fG (vg rs ty len aZ) []:=⟨agp,.nil⟩
theorem O5{rs:List RV}{ty:TypeId}{aZ:List PV->Prop}:fG (Bk rs ty aZ) []:=⟨agq,.nil⟩
theorem fW{sk:List It}{x:SC}(i β e ty:Nat)(he:0<e)(hi:fr i= .au)(h:vc C R (.c (.loop x)::sk) (af (cP β fr) i (.ms β 0)) (Qj hp β ⟨e,ty,[],false⟩))(hB:bJ β=false:=by decide):vc C R (.c (.loop x)::sk) fr hp:=by rw[Aq]at h⊢;obtain⟨I,μ,⟨bU,aA,h1,lH⟩,h2⟩:=h;exact⟨I,μ,⟨bU,aA,(Tf i β e ty he hi hB).trans h1,lH⟩,h2⟩
end Go.FW
namespace Go.FW
open Go
variable {C : Ctx} {fr : Fr} {hp : HP} {w : World} {K R : Qh}
theorem Q9q{P:Program}{f:FuncId}{k:IntKind}{x:Int}{r:PV}{v:Value}(hg:sM P f)(h:∀w,Calls P f #[.int k x] w fun e w'=>e= .returned v/\w'=w)(hr:∀w X,fE w X r v):Qd P f [.int k x] (· =r):=by
 refine⟨hg,fun w X bC hX hs iF=>?_⟩;have h0:∀u,Qu w X (.int k x) u->u= .int k x:=fun u hu=>by cases hu;rfl
 have e:bC= #[.int k x]:=by
  have h1:bC.getD 0 undef= .int k x:=h0 _ (iF 0 _ rfl);apply Array.ext
  ·simpa using hs
  ·intro i hi al;have uq:i=0:=by simp at al;omega
   subst uq;simpa[Array.getD,hi]using h1
 rw[e];refine(h w).mono ?_;rintro e w' ⟨rfl,rfl⟩;exact⟨v,r,rfl,Ext.refl _ _,hr _ _,rfl⟩
end Go.FW
namespace Go.FW
open Go
variable {C : Ctx} {fr : Fr} {hp : HP} {w : World} {K R : Qh}
theorem aeH(a b:Nat)(rP:a≠b)(h:HP)(v w:HB):Qj (Qj h a v) b w=Qj (Qj h b w) a v:=by
 funext c;unfold Qj;by_cases h1:c=a
 ·subst h1;simp[rP]
 ·simp[h1]
theorem ac5{V W P v1 v2 v0 hi u2 w0:Nat}(hV:V=(v1*65536+v2)*P+v0)(hW:W=(hi*65536+u2)*P+w0)(zS:w0<P)(IX:u2<65536)(h1:0<v1):W<(hi/v1+1)*V:=by
 have e1:hi+1<=(hi/v1+1)*v1:=by have:=Kbq hi v1;have:=Kbx hi h1;rw[KaK,KaP];omega
 have e2:W<(hi+1)*65536*P:=by have:(hi*65536+u2+1)*P<=(hi+1)*65536*P:=Kaj _ (by omega);rw[KaK _ 1]at this;omega
 refine Kby e2 ?_
 calc (hi+1)*65536*P<=((hi/v1+1)*v1)*65536*P:=Kaj _ (Kaj _ e1)
  _=(hi/v1+1)*(v1*65536*P):=by rw[Kbm,Kbm,Kbm]
  _<=(hi/v1+1)*V:=KaE _ (by rw[hV,KaK];omega)
theorem agr{V W P v1 v2 v0 hi u2 w0 d r:Nat}(hV:V=(v1*65536+v2)*P+v0)(hW:W=(hi*65536+u2)*P+w0)(zS:w0<P)(hd:d*v1+r=hi)(ht:r*65536+u2<d*v2):W<d*V:=by
 have h1:hi*65536+u2+1<=d*(v1*65536+v2):=by rw[Ka4,<-Nat.mul_assoc,<-hd,KaK];omega
 have h2:W<(hi*65536+u2+1)*P:=by rw[hW,KaK _ 1];omega
 refine Kby h2 (Kap (Kaj _ h1) ?_);rw[Kbm];exact KaE _ (by rw[hV];exact Nat.le_add_right _ _)
theorem ags{V W P v1 v2 v0 hi u2 w0 e r:Nat}(hV:V=(v1*65536+v2)*P+v0)(hW:W=(hi*65536+u2)*P+w0)(zO:v0<P)(zP:1<=v1)(he:e+1<65536)(hd:(e+1)*v1+r=hi)(ht:¬r*65536+u2<(e+1)*v2):e*V<=W:=by
 have h1:(e+1)*(v1*65536+v2)<=hi*65536+u2:=by rw[Ka4,<-Nat.mul_assoc,<-hd,KaK ((e+1)*v1)];omega
 have h2:e*v0<=(v1*65536+v2)*P:=KaQ (by omega) (by omega)
 calc e*V=e*(v1*65536+v2)*P+e*v0:=by rw[hV,Ka4,Kbm]
  _<=e*(v1*65536+v2)*P+(v1*65536+v2)*P:=Nat.add_le_add_left h2 _
  _=(e+1)*(v1*65536+v2)*P:=by rw[KaK e,KcT,KaK (e*_)]
  _<=(hi*65536+u2)*P:=Kaj _ h1
  _<=W:=by rw[hW];exact Nat.le_add_right _ _
theorem agt{V W P v1 v2 v0 hi u2 w0:Nat}(hV:V=(v1*65536+v2)*P+v0)(hW:W=(hi*65536+u2)*P+w0)(zO:v0<P)(h:W<65536*V)(hP:0<P):hi<=v1*65536+v2:=by
 have h1:hi*(65536*P)<(v1*65536+v2+1)*(65536*P):=by
  have e1:hi*(65536*P)<=W:=by rw[hW,KaK,Kbm];omega
  have e2:V<=(v1*65536+v2+1)*P:=by rw[hV,KaK _ 1];omega
  have e3:65536*V<=65536*((v1*65536+v2+1)*P):=KaE _ e2;rw[Kbl]at e3;omega
 have:=Nat.lt_of_mul_lt_mul_right h1;omega
theorem Uk:∀(a:List Nat)(q b:Nat),(gu a [] q 0 b).2.1=0
 | [],_,_=>rfl
 |x::xs,q,b=>by simp only[gu,List.headD_nil,Kcd,List.tail_nil];exact Uk xs q _
theorem Wd:∀(a v:List Nat)(q c b:Nat),v.length<a.length->c<65536->q<65536->Qk v->(gu a v q c b).2.1=0
 | [],_,_,_,_,h,_,_,_=>by simp at h
 |x::xs,[],q,c,b,h,hc,hq,hv=>by simp only[gu,List.headD_nil,Kcd,List.tail_nil,KaY];rw[Kb4 hc];exact Uk xs q _
 |x::xs,y::ys,q,c,b,h,hc,hq,hv=>by rw[jt]at hv;simp only[gu,List.headD_cons,List.tail_cons];refine Wd xs ys q _ _ (by simpa using h) ?_ hq hv.2;have:=wy hq hv.1;omega
theorem Gq{l:List Nat}{k:Nat}(h:val l<65536^k):val (l.drop k)=0:=by
 rcases Kcz k l.length with hk|hk
 ·have:=ss l k (by omega);have:65536^k*val (l.drop k)<65536^k*1:=by omega
  have:=Nat.lt_of_mul_lt_mul_left this;omega
 ·rw[Kao hk];rfl
theorem Sk{l:List Nat}{n:Nat}(h:l.length=n+2):val l=(l.getD (n+1) 0*65536+l.getD n 0)*65536^n+val (l.take n):=by have e:=ss l n (by omega);rw[ot (by omega),ot (by omega),Kao (by omega)]at e;rw[e,iM (by omega),iM (by omega),val,Kcd,KaY,KaP (65536^n)];rw[KaP 65536,KbQ (l[n]),KbQ]
theorem amr:
  (∀(β:Nat)(cs:List PV),cA β (.pt cs)= .pt cs)/\(∀(β:Nat),cA β .undef= .undef)/\(∀(β:Nat)(cs:List PV),cA β (.aH cs)= .aH cs)/\
  (∀(cs:List PV),(PV.pt cs).refs=[])/\(PV.undef.refs=[])/\(∀(cs:List PV),(PV.aH cs).refs=[])/\
  (∀(hp:HP)(cs:List PV),aU hp (.pt cs)= .pt cs)/\(∀(hp:HP)(cs:List PV),aU hp (.aH cs)= .aH cs)/\
  (∀(β f:Nat)(a b:List PV),cA β (.fn f a b)=if(a.flatMap PV.cn++b.flatMap PV.cn).contains β then .undef else .fn f a b)/\
  (∀(β o n:Nat),(PV.aB β o n).cn=[β])/\(∀(β o n:Nat),(PV.rb β o n).cn=[β])/\(∀(β o n:Nat),(PV.mp β o n).cn=[β])/\
  (∀(k:IntKind)(n:Int),(PV.int k n).cn=[])/\(∀(b:Bool),(PV.bool b).cn=[])/\(∀(e:Nat)(xs:List PV),(PV.sl e xs).cn=[])/\(PV.au.cn=[])/\(∀(xs:List PV),(PV.pt xs).cn=[]):=by
 refine⟨fun _ _=>rfl,fun _=>rfl,fun _ _=>rfl,fun _=>rfl,rfl,fun _=>rfl,fun _ _=>rfl,fun _ _=>rfl,fun _ _ _ _=>rfl,fun _ _ _=>rfl,fun _ _ _=>rfl,fun _ _ _=>rfl,fun _ _=>rfl,fun _=>rfl,fun _ _=>rfl,rfl,fun _=>rfl⟩
theorem auX:
  (∀(ty d e:Nat)(xs:List PV)(fr:Fr)(hp:HP)(K:Qh),jB 1 ty (.sl e xs) d fr hp K=K (af (cP d fr) d (.mp d 0 0)) (Qj hp d ⟨1,ty,[.sl e xs],false⟩))/\
  (∀(ty d:Nat)(k:IntKind)(x:Int)(fr:Fr)(hp:HP)(K:Qh),jB 1 ty (.int k x) d fr hp K=K (af (cP d fr) d (.mp d 0 0)) (Qj hp d ⟨1,ty,[.int k x],false⟩))/\
  (∀(ty d:Nat)(x:Bool)(fr:Fr)(hp:HP)(K:Qh),jB 1 ty (.bool x) d fr hp K=K (af (cP d fr) d (.mp d 0 0)) (Qj hp d ⟨1,ty,[.bool x],false⟩))/\
  (∀(ty d:Nat)(fr:Fr)(hp:HP)(K:Qh),jB 1 ty .au d fr hp K=K (af (cP d fr) d (.mp d 0 0)) (Qj hp d ⟨1,ty,[.au],false⟩))/\
  (∀(n ty d o m:Nat)(fr:Fr)(hp:HP)(K:Qh),jB n ty (.aB 1000000 o m) d fr hp K=K (af fr d (.rb 1000000 o m)) hp)/\
  (∀(n ty d:Nat)(x:PV)(cs:List PV)(fr:Fr)(hp:HP)(K:Qh),jB n ty (.agg (x::cs)) d fr hp K=(cs.length+1=n/\K (af (cP d fr) d (.mp d 0 0)) (Qj hp d ⟨n,ty,[.agg (x::cs)],false⟩)))/\
  (∀(ty d:Nat)(x:PV)(fz:Bool)(fr:Fr)(hp:HP)(K:Qh),nq (some ⟨1,ty,[x],fz⟩) 1 false 0 0 d fr hp K=K (af fr d (fB false 1 0 x)) hp)/\
  (∀(ty β e:Nat)(x:PV)(xs:List PV)(fr:Fr)(hp:HP)(K:Qh),stM (some ⟨1,ty,[x],false⟩) β 1 0 0 (.sl e xs) fr hp K=K fr (Qj hp β ⟨1,ty,[.sl e xs],false⟩))/\
  (∀(ty β:Nat)(x:PV)(k:IntKind)(y:Int)(fr:Fr)(hp:HP)(K:Qh),stM (some ⟨1,ty,[x],false⟩) β 1 0 0 (.int k y) fr hp K=K fr (Qj hp β ⟨1,ty,[.int k y],false⟩))/\
  (∀(ty β:Nat)(x:PV)(y:Bool)(fr:Fr)(hp:HP)(K:Qh),stM (some ⟨1,ty,[x],false⟩) β 1 0 0 (.bool y) fr hp K=K fr (Qj hp β ⟨1,ty,[.bool y],false⟩))/\
  (∀(ty β:Nat)(x:PV)(fr:Fr)(hp:HP)(K:Qh),stM (some ⟨1,ty,[x],false⟩) β 1 0 0 .au fr hp K=K fr (Qj hp β ⟨1,ty,[.au],false⟩))/\
  (∀(e:Nat)(xs:List PV),fB false 1 0 (.sl e xs)= .sl e xs)/\(∀(k:IntKind)(x:Int),fB false 1 0 (.int k x)= .int k x)/\(∀(x:Bool),fB false 1 0 (.bool x)= .bool x)/\(fB false 1 0 .au= .au):=by
 have fz:∀hp:HP,bW hp []=hp:=fun _=>rfl;refine⟨fun _ _ _ _ _ _ _=>?_,fun _ _ _ _ _ _ _=>?_,fun _ _ _ _ _ _=>?_,fun _ _ _ _ _=>?_,fun _ _ _ _ _ _ _ _=>alE (by decide),fun n ty d x cs fr hp K=>?_,fun _ _ _ _ _ _ _=>?_,fun _ _ _ _ _ _ _ _=>?_,fun _ _ _ _ _ _ _ _=>?_,fun _ _ _ _ _ _ _=>?_,fun _ _ _ _ _ _=>?_,fun _ _=>rfl,fun _ _=>rfl,fun _=>rfl,rfl⟩
 ·simp[jB,aU,cZ,PV.aN,PV.cells,PV.refs,fz]
 ·simp[jB,aU,cZ,PV.aN,PV.cells,PV.refs,fz]
 ·simp[jB,aU,cZ,PV.aN,PV.cells,PV.refs,fz]
 ·simp[jB,aU,cZ,PV.aN,PV.cells,PV.refs,fz]
 ·apply propext;simp only[jB,aU,cZ,PV.aN,PV.cells,PV.refs,KaT,fz];exact⟨fun⟨_,h1,_,h2⟩=>⟨h1,h2⟩,fun⟨h1,h2⟩=>⟨trivial,h1,by omega,h2⟩⟩
 all_goals simp[nq,stM,PV.aN,PV.cells]
end Go.FW
namespace Go.FW
theorem ams{l:List Nat}{j n V:Nat}(hl:Qk l)(hlen:j+n+3<=l.length)(hV:V<=65536^(n+2))(hz:val (l.drop (j+1))<V):
  ∃pre w post,l=pre++(w++post)/\pre.length=j/\w.length=n+3/\Qk pre/\Qk w/\Qk post/\val post=0/\val (l.drop j)=val w/\val w<65536*V/\
   ∃w0,w0<65536^n/\val w=((l.getD (j+(n+2)) 0*65536+l.getD (j+(n+1)) 0)*65536+l.getD (j+n) 0)*65536^n+w0:=by
 have eY:val (l.drop (j+n+3))=0:=by have:=Gq (l:=l.drop (j+1)) (k:=n+2) (by omega);rw[List.drop_drop]at this;rw[<-this];congr 2;omega
 have hw:Qk ((l.drop j).take (n+3)):=As (Cu hl j) _;have rf:((l.drop j).take (n+3)).length=n+3:=by simp;omega
 have eZ:l.drop j=(l.drop j).take (n+3)++l.drop (j+n+3):=by have:=(KbB (n+3) (l.drop j)).symm;rw[List.drop_drop]at this;exact this
 have gH:val (l.drop j)=val ((l.drop j).take (n+3)):=by
  conv=>lhs;rw[eZ]
  rw[oW,eY,Kcd,KaY]
 have fJ:∀i,i<n+3->((l.drop j).take (n+3)).getD i 0=l.getD (j+i) 0:=by intro i hi;simp[Kad,KcR,hi]
 refine⟨l.take j,(l.drop j).take (n+3),l.drop (j+n+3),?_,by simp;omega,rf,As hl j,hw,Cu hl _,eY,gH,?_,?_⟩
 ·rw[<-eZ,KbB]
 ·rw[<-gH,ot (by omega)];have:=fm hl (show j<l.length by omega);omega
 ·refine⟨val (((l.drop j).take (n+3)).take n),wo hw n (by omega),?_⟩;rw[Sk (n:=n+1) rf,fJ _ (by omega),fJ _ (by omega),Cj (by omega)];rw[<-iM,fJ _ (by omega),Kbv];generalize l.getD (j+(n+1)) 0=a;generalize l.getD (j+n) 0=b;generalize l.getD (j+(n+1+1)) 0=c;rw[KaK _ b,Kbm _ 65536,KaP 65536 (65536^n),KaP (65536^n) b];omega
theorem aeI{U V L qs W R q pre B:Nat}(hU:U=L+V*(65536*B*qs))(hL:L=pre+B*W)(hW:W=q*V+R):U=(pre+B*R)+V*(B*(q+65536*qs)):=by
 subst hW hL;rw[hU,Ka4 B,Ka4 B q,Ka4 V];have e1:B*(q*V)=V*(B*q):=by rw[KaP q V,Kbl]
 have e2:V*(65536*B*qs)=V*(B*(65536*qs)):=by rw[KaP 65536 B,Kbm]
 omega
open Go
variable {C : Ctx} {fr : Fr} {hp : HP} {w : World} {K R : Qh}
theorem lk{x y:RT}{sk:List It}(h1:vc C R (.o x::sk) fr hp)(h2:vc C R (.o y::sk) fr hp):vB C R x y sk fr hp:=⟨h1,h2⟩
theorem aie{x y:RT}{sk:List It}{W:List (Nat×Nat)}{J F:Fr}(P:Fr->Prop)(h0:P J)(h:∀J,P J->vB C R x y sk (aY W J F) hp):vB C R x y sk (aY W J F) hp:=h J h0
theorem QV{sk:List It}{x:SC}(bR:fG R sk)(W:List (Nat×Nat))(B:List Nat)(I:Nat->Fr->HP->Prop)(m0:Nat)(h0:I m0 fr hp)
  (h:∀F,F=bO B fr->∀m J hp,I m J hp->vc C R (.c x:: .el (Bg W F I m)::sk) (aY W J F) hp):vc C R (.c (.loop x)::sk) fr hp:=
 Qi bR W B I m0 h0 (h _ rfl)
theorem agu{x y:RT}{sk:List It}{W0:List (Nat×Nat)}{J0 F0:Fr}(bR:fG R sk)(B:List Nat)(M:Fr->HP->Prop)
  (h:∀F,F=bO B F0->vB C R x y (.el (nD W0 F M)::sk) (aY W0 J0 F) hp) (hM:∀J hp,M J hp->vc C R sk (aY W0 J (bO B F0)) hp):vB C R x y sk (aY W0 J0 F0) hp:=by
 have hle:cB (aY W0 J0 F0) (aY W0 J0 (bO B F0)):=fun s=>by
  unfold aY bO;split
  ·exact .inl rfl
  ·split
   ·exact .inr rfl
   ·exact .inl rfl
 have key:∀(r:RT),vc C R (.o r:: .el (nD W0 (bO B F0) M)::sk) (aY W0 J0 (bO B F0)) hp->vc C R (.o r::sk) (aY W0 J0 F0) hp:=by
  intro r hr;refine Dd (M:=nD W0 (bO B F0) M) ?_ _ [.o r] _ _ (Kae _) ?_
  ·rintro aG hp' ⟨J,h1,h2⟩;exact ou bR.1 _ _ _ _ _ _ (Kae _) bR.2 h1 (hM J hp' h2)
  ·exact ou bR.1 _ _ _ _ _ _ (Kae _) (.o r (.el wL bR.2)) hle hr
 exact⟨key x (h _ rfl).1,key y (h _ rfl).2⟩
theorem ac6{aG:Fr}{K':Qh}{p:PV}{s:Nat}{want:Bool}{o:cO}(h:cB fr aG)(hK:KM K' K):jM C p s want o aG hp K'->jM C p s want o fr hp K:=by
 unfold jM;split
 ·exact fun H=>⟨fun t=>Jy (h.mJ _ _) hK o (H.1 t),fun t=>GV (h.mJ _ _) hK o (H.2 t)⟩
 ·exact GV h hK o
 ·exact id
theorem Q9r{p:PV}{s:Nat}{want:Bool}{o:cO}{r:RT}{sk:List It}(bR:fG R sk)(W:List (Nat×Nat))(B:List Nat)(M:Fr->HP->Prop)
  (h:jM C p s want o (aY W fr (bO B fr)) hp (vc C R (.o r:: .el (nD W (bO B fr) M)::sk))) (hM:∀J hp,M J hp->vc C R sk (aY W J (bO B fr)) hp):jM C p s want o fr hp (vc C R (.o r::sk)):=by
 refine ac6 (C4 W B) (fun f f' hp hf H=>?_) h;have H':=ou bR.1 _ _ _ _ _ _ (Kae _) (.o r (.el wL bR.2)) hf H;refine Dd (M:=nD W (bO B fr) M) ?_ _ [.o r] _ _ (Kae _) H';rintro aG hp' ⟨J,h1,h2⟩;exact ou bR.1 _ _ _ _ _ _ (Kae _) bR.2 h1 (hM J hp' h2)
theorem WW:(∀(a b c:Nat),(PV.mp a b c).nk=true)/\(∀(a b c:Nat),(PV.aB a b c).nk=true)/\(∀(a b c:Nat),(PV.rb a b c).nk=true)/\(∀(k:IntKind)(n:Int),(PV.int k n).nk=true)/\
  (∀b,(PV.bool b).nk=true)/\(PV.au.nk=true)/\(∀(e:Nat)(xs:List PV),(PV.sl e xs).nk=true)/\(∀(xs:List PV),(PV.pt xs).nk=true):=
 ⟨fun _ _ _=>rfl,fun _ _ _=>rfl,fun _ _ _=>rfl,fun _ _=>rfl,fun _=>rfl,rfl,fun _ _=>rfl,fun _=>rfl⟩
end Go.FW
namespace Go.FW
def yT(V W:List (Nat×Nat)):Bool:=V.all fun p=>W.any fun q=>decide (q.1<=p.1)&&decide (p.2<=q.2)
theorem aeJ{V W:List (Nat×Nat)}(h:yT V W=true){s:Nat}(hs:rh V s=true):rh W s=true:=by
 induction V with
 |nil=>cases hs
 | cons p V ih=>
  simp only[yT,List.all_cons,KaC]at h;rw[G7,Kct]at hs;rcases hs with hs|hs
  ·obtain⟨q,hq,xL⟩:=Ka6.1 h.1;simp only[KaC,decide_eq_true_eq]at xL hs;clear h ih;induction W with
   |nil=>cases hq
   |cons r W ih=>
    rw[G7,Kct];rcases KaG.1 hq with rfl|hq
    ·left;simp only[KaC,decide_eq_true_eq];omega
    ·right;exact ih hq
  ·exact ih h.2 hs
theorem Q45{B B':List Nat}{F:Fr}(h:B.all B'.contains=true):bO B (bO B' F)=bO B' F:=by
 funext s;by_cases h1:(F s).refs.any B'.contains=true
 ·have:bO B' F s= .undef:=if_pos h1;show(if(bO B' F s).refs.any B.contains=true then PV.undef else bO B' F s)=_;rw[this];rfl
 ·have:bO B' F s=F s:=if_neg h1;show(if(bO B' F s).refs.any B.contains=true then PV.undef else bO B' F s)=_;rw[this,if_neg];intro h2;obtain⟨x,hx,gQ⟩:=Ka6.1 h2;exact h1 (Ka6.2 ⟨x,hx,Kax.1 h x (by simpa using gQ)⟩)
theorem dS{V W:List (Nat×Nat)}{X Z F:Fr}(h:yT V W=true):aY V X (aY W Z F)=aY W (aY V X Z) F:=by
 funext s;unfold aY;by_cases h1:rh V s=true
 ·simp[h1,aeJ h h1]
 ·simp[h1]
theorem amt{W V S d:Nat}(hs:S+d*V=W)(Nf:W<(d+1)*V):S<V/\W=d*V+S:=by rw[KaK]at Nf;omega
theorem aif{W V B S e k res:Nat}(hs:S+(e+1)*V=W+B)(hS:S<B)(XA:e*V<=W)(hr:res+B*k=S+V)(gP:res<B)(hWB:W<B):res<V/\W=e*V+res:=by
 rw[KaK,KcT]at hs;generalize e*V=x at *
 have hk:k=1:=by
  match k,hr with
  |0,hr=>omega
  |1,_=>rfl
  |k+2,hr=>
   have:B*(k+2)=B*k+B+B:=by rw[Ka4];omega
   omega
 subst hk;omega
theorem O6{pre R post qs:List Nat}{j q U V L W:Nat}(hp:pre.length=j)(eY:val post=0)(hU:U=L+V*(65536^(j+1)*val qs))(hL:L=val pre+65536^j*W)(hW:W=q*V+val R):
  val ((pre++(R++post)).drop j)=val R/\U=val (pre++(R++post))+V*(65536^j*val (q::qs)):=by
 have e:(pre++(R++post)).drop j=R++post:=by rw[<-hp,List.drop_left]
 have e2:val (R++post)=val R:=by rw[oW,eY,Kcd,KaY]
 refine⟨by rw[e,e2],?_⟩;rw[oW,e2,hp,val];exact aeI (by rw[hU,Kbv,KaP (65536^j)]) hL hW
theorem Hw{j q:Nat}{qs:List Nat}:(List.replicate (j+1) 0++qs).set j q=List.replicate j 0++(q::qs):=by rw[KcG,Kbt,List.singleton_append,qv (by simp)]
open Go
variable {C : Ctx} {fr : Fr} {hp : HP} {w : World} {K R : Qh}
theorem auY:(∀(C:Ctx)(d:Nat)(ng:Bool)(x y:aX)(fr:Fr)(hp:HP)(K:Qh),bP C (.eqs d ng x y) fr hp K=tV ng (ev fr x) (ev fr y) d fr hp K)/\
  (∀(k l:IntKind)(x y x' y':Int)(d:Nat)(fr:Fr)(hp:HP)(K:Qh),tV false (.agg [.int k x,.int l y]) (.agg [.int k x',.int l y']) d fr hp K=K (af fr d (.bool (decide (x=x')&&decide (y=y')))) hp)/\
  (∀(k l:IntKind)(x y x' y':Int)(d:Nat)(fr:Fr)(hp:HP)(K:Qh),tV true (.agg [.int k x,.int l y]) (.agg [.int k x',.int l y']) d fr hp K=K (af fr d (.bool (!(decide (x=x')&&decide (y=y'))))) hp):=
 ⟨fun _ _ _ _ _ _ _ _=>rfl,fun _ _ _ _ _ _ _ _ _ _=>by simp[tV],fun _ _ _ _ _ _ _ _ _ _=>by simp[tV]⟩
theorem auZ:(∀(C:Ctx)(d:Nat)(ng:Bool)(x y:aX)(fr:Fr)(hp:HP)(K:Qh),bP C (.cY d ng x y) fr hp K=tW ng (ev fr x) (ev fr y) d fr hp K)/\
  (∀(C:Ctx)(d:Nat)(x:aX)(fr:Fr)(hp:HP)(K:Qh),bP C (.FA d x) fr hp K=yR (ev fr x) d fr hp K)/\
  (∀(C:Ctx)(d:Nat)(x i:aX)(fr:Fr)(hp:HP)(K:Qh),bP C (.Fz d x i) fr hp K=wY (ev fr x) (ev fr i) d fr hp K)/\
  (∀(x y:ByteArray)(d:Nat)(fr:Fr)(hp:HP)(K:Qh),tW false (.str x) (.str y) d fr hp K=K (af fr d (.bool (decide (x=y)))) hp)/\
  (∀(x y:ByteArray)(d:Nat)(fr:Fr)(hp:HP)(K:Qh),tW true (.str x) (.str y) d fr hp K=K (af fr d (.bool (!decide (x=y)))) hp)/\
  (∀(x:ByteArray)(d:Nat)(fr:Fr)(hp:HP)(K:Qh),yR (.str x) d fr hp K=K (af fr d (.int .i64 x.size)) hp):=
 ⟨fun _ _ _ _ _ _ _ _=>rfl,fun _ _ _ _ _ _=>rfl,fun _ _ _ _ _ _ _=>rfl,fun _ _ _ _ _ _=>by simp[tW],fun _ _ _ _ _ _=>by simp[tW],fun _ _ _ _ _=>rfl⟩
theorem amu{s:ByteArray}{k:IntKind}{i:Nat}{d:Nat}(h:i<s.size):wY (.str s) (.int k i) d fr hp K=K (af fr d (.int .u8 (s.get! i).toNat)) hp:=by simp[wY,h]
theorem agv{α:Type}{f:α->PV}{e d:Nat}{k:IntKind}{xs:List α}(h:0<xs.length):jQ e (.sl e (xs.map f)) (.int k 0) d fr hp K=K (af fr d (.pt (f (xs[0]'h)).cells)) hp:=by rw[AU (by omega) (by omega)];rfl
theorem agw{α:Type}{f:α->PV}{e d:Nat}{k:IntKind}{xs:List α}(h:1<xs.length):jQ e (.sl e (xs.map f)) (.int k 1) d fr hp K=K (af fr d (.pt (f (xs[1]'h)).cells)) hp:=by rw[AU (by omega) (by omega)];rfl
theorem agx{e d:Nat}{k:IntKind}{x:PV}{xs:List PV}:jQ e (.sl e (x::xs)) (.int k 0) d fr hp K=K (af fr d (.pt x.cells)) hp:=by rw[JZ (by omega) (by simp only[KaT];omega)];rfl
theorem agy{e d:Nat}{k:IntKind}{x y:PV}{xs:List PV}:jQ e (.sl e (x::y::xs)) (.int k 1) d fr hp K=K (af fr d (.pt y.cells)) hp:=by rw[JZ (by omega) (by simp only[KaT];omega)];rfl
def PV.flat:PV->Bool
 |.int .. | .bool _| .au| .sl .. | .agg _| .pt _| .str _=>true
 |_=>false
theorem agz:∀s,(PV.str s).flat=true:=fun _=>rfl
theorem agA:∀s,(PV.str s).aN=true:=fun _=>rfl
theorem aod:(∀(k:IntKind)(n:Int),(PV.int k n).flat=true)/\(∀b,(PV.bool b).flat=true)/\(PV.au.flat=true)/\(∀(e:Nat)(xs:List PV),(PV.sl e xs).flat=true)/\(∀xs,(PV.agg xs).flat=true)/\(∀xs,(PV.pt xs).flat=true):=
 ⟨fun _ _=>rfl,fun _=>rfl,rfl,fun _ _=>rfl,fun _=>rfl,fun _=>rfl⟩
theorem aoe:(∀(k:IntKind)(n:Int),(PV.int k n).aN=true)/\(∀b,(PV.bool b).aN=true)/\(PV.au.aN=true)/\(∀(e:Nat)(xs:List PV),(PV.sl e xs).aN=true)/\(∀xs,(PV.agg xs).aN=true)/\(∀xs,(PV.pt xs).aN=true):=
 ⟨fun _ _=>rfl,fun _=>rfl,rfl,fun _ _=>rfl,fun _=>rfl,fun _=>rfl⟩
theorem wz{p:PV}(h:p.flat=true):aU hp p=p/\p.refs=[]/\p.aN=true:=by cases p<;>first|(cases h;done)|exact⟨rfl,rfl,rfl⟩
theorem Jz{e ty d:Nat}{ps:List PV}(h:ps.all PV.flat=true)(hl:∀p∈ps,p.cells.length=e)(he:0<e):mu e ty ps d fr hp K=K (af (cP d fr) d (.ms d ps.length)) (Qj hp d ⟨e,ty,ps,false⟩):=by
 have h':=Kax.1 h;have e1:ps.map (aU hp)=ps:=by
  conv=>rhs;rw[<-List.map_id ps]
  exact KaJ fun p hp'=>(wz (h' p hp')).1
 have e2:ps.flatMap PV.refs=[]:=by rw[List.flatMap_eq_nil_iff];exact fun p hp'=>(wz (hp:=hp) (h' p hp')).2.1
 have e3:HF hp e ps:=fun p hp'=>by obtain⟨h1,_,h3⟩:=wz (hp:=hp) (h' p hp');rw[h1];exact⟨h3,hl p hp'⟩
 have M4:nA ps=false:=by
  unfold nA;split
  ·rename_i x;have:=Kax.1 h x (by simp);unfold ko;split
   ·cases this
   ·rfl
  ·rfl
 simp only[mu,M4,Kbs,if_false,DU,e1,e2,e3,he,true_and];rfl
theorem bs1{e ty d:Nat}{p:PV}(h:p.flat=true)(hl:p.cells.length=e)(he:0<e):mu e ty [p] d fr hp K=K (af (cP d fr) d (.ms d 1)) (Qj hp d ⟨e,ty,[p],false⟩):=
 Jz (by simp[h]) (by simpa using hl) he
theorem bs2{e ty d:Nat}{p q:PV}(h:p.flat=true)(h2:q.flat=true)(hl:p.cells.length=e)(rV:q.cells.length=e)(he:0<e):mu e ty [p,q] d fr hp K=K (af (cP d fr) d (.ms d 2)) (Qj hp d ⟨e,ty,[p,q],false⟩):=
 Jz (by simp[h,h2]) (by simp[hl,rV]) he
end Go.FW
namespace Go.FW
theorem Q9s{y n s yi:Nat}(hy:(ao y).length=n+2)(tt:(ao y)[n+1]'(by omega)=yi)(h1:2^15<=yi*2^s)(h2:(yi+1)*2^s<=65536):
  (ao (y*2^s)).length=n+2/\32768<=(ao (y*2^s)).getD (n+1) 0/\32768*65536^(n+1)<=y*2^s:=by
 have hl:=Qm y;have e:=ss (ao y) (n+1) (by omega);have ht:=wo hl (n+1) (by omega);rw[ot (by omega),Kao (by omega),tt,Qy]at e;simp only[val,Kcd,KaY]at e;have g1:32768*65536^(n+1)<=y*2^s:=by
  calc 32768*65536^(n+1)<=(yi*2^s)*65536^(n+1):=Kaj _ h1
   _=(65536^(n+1)*yi)*2^s:=by rw[KaP (65536^(n+1)),Nat.mul_right_comm]
   _<=y*2^s:=Kaj _ (by omega)
 have g2:y*2^s<65536^(n+2):=by
  have hp:0<2^s:=Kbw (by omega)
  calc y*2^s<(65536^(n+1)*(yi+1))*2^s:=Nat.mul_lt_mul_of_pos_right (by rw[Ka4];omega) hp
   _=65536^(n+1)*((yi+1)*2^s):=Kbm _ _ _
   _<=65536^(n+1)*65536:=KaE _ h2
   _=65536^(n+2):=(Kbv ..).symm
 have hle:nl (y*2^s)<=n+2:=nw.2 g2;have iY:¬nl (y*2^s)<=n+1:=fun h=>by have:=nw.1 h;omega
 have hlen:(ao (y*2^s)).length=n+2:=by unfold nl at hle iY;omega
 refine⟨hlen,?_,g1⟩;have e2:=ss (ao (y*2^s)) (n+1) (by omega);have Zx:=wo (Qm (y*2^s)) (n+1) (by omega);rw[ot (by omega),Kao (by omega),Qy]at e2;simp only[val,Kcd,KaY]at e2;have hg:(ao (y*2^s)).getD (n+1) 0=(ao (y*2^s))[n+1]'(by omega):=iM (by omega);rw[hg];apply Decidable.byContradiction;intro h;have:65536^(n+1)*(ao (y*2^s))[n+1]<=65536^(n+1)*32767:=KaE _ (by omega);omega
theorem aeK{yi s:Nat}(hs:s<=15)(h1:2^(16-s)<=2*yi)(h2:yi<2^(16-s)):2^15<=yi*2^s/\(yi+1)*2^s<=65536:=by
 have e:2^(16-s)*2^s=65536:=by rw[<-Nat.pow_add,show 16-s+s=16 by omega]
 constructor
 ·have:=Kaj (2^s) h1;rw[e,Kbm]at this;omega
 ·rw[<-e];exact Kaj _ h2
theorem Q9t{x s m n Y:Nat}(hx:(ao x).length=m+2)(hs:s<=15)(gM:n<=m)(hY:32768*65536^(n+1)<=Y):
  ∃u ex,ao (x*2^s)++[0,0]=u++ex/\u.length=m+3/\Qk u/\val u=x*2^s/\ex.length<=2/\val (u.drop (m+3-(n+2)))<Y:=by
 have ZH:=rE (Qm x);rw[hx,Qy]at ZH;have hp:0<2^s:=Kbw (by omega);have xO:2^s<=2^15:=KaR (by omega) hs;have hX:x*2^s<2^s*65536^(m+2):=by rw[KaP (2^s)];exact Nat.mul_lt_mul_of_pos_right ZH hp
 have hX2:x*2^s<65536^(m+3):=by have:2^s*65536^(m+2)<=65536*65536^(m+2):=Kaj _ (by omega);rw[Kbv 65536 (m+2),KaP _ 65536];omega
 have iv:¬nl (x*2^s)<=m+1:=fun h=>by
  have h2:¬nl x<=m+1:=by unfold nl;omega
  have h3:=iL (show x<=x*2^s from KaZ _ hp);omega
 have gQ:nl (x*2^s)<=m+3:=nw.2 hX2;have tj:Qk (ao (x*2^s)++[0,0]):=ql.2 ⟨Qm _,by intro z hz;simp at hz;omega⟩;have gH:val (ao (x*2^s)++[0,0])=x*2^s:=by rw[oW,Qy];simp[val]
 have hlen:(ao (x*2^s)++[0,0]).length=nl (x*2^s)+2:=by simp[nl]
 generalize ao (x*2^s)++[0,0]=D at *
 have hv:=ss D (m+3) (by omega);have hz:val (D.drop (m+3))=0:=Gq (by omega);have zN:(D.take (m+3)).length=m+3:=by rw[KaF];omega
 refine⟨D.take (m+3),D.drop (m+3),(KbB _ _).symm,zN,As tj _,by rw[hz]at hv;omega,by rw[Kbc];omega,?_⟩;have hu:val (D.take (m+3))=x*2^s:=by rw[hz]at hv;omega
 have zQ:=ss (D.take (m+3)) (m+3-(n+2)) (by omega);generalize D.take (m+3)=u at *
 have e:65536^(m+2)=65536^(m+3-(n+2))*65536^(n+1):=by rw[<-Nat.pow_add];congr 1;omega
 have:65536^(m+3-(n+2))*val (u.drop (m+3-(n+2)))<65536^(m+3-(n+2))*(2^s*65536^(n+1)):=by rw[Kbl,<-e];omega
 have h4:=Nat.lt_of_mul_lt_mul_left this;have:2^s*65536^(n+1)<=32768*65536^(n+1):=Kaj _ xO;omega
open Go
variable {C : Ctx} {fr : Fr} {hp : HP} {w : World} {K R : Qh}
theorem agB{e ty n:Nat}{fz:Bool}{o d:Nat}{x:PV}(h:o+n<=e):nq (some ⟨e,ty,[x],fz⟩) n true 0 o d fr hp K=K (af fr d (fB true n o x)) hp:=RZ h (by simp)
theorem agC{e ty:Nat}{fz:Bool}{o d:Nat}{x:PV}(h:o+1<=e):nq (some ⟨e,ty,[x],fz⟩) 1 false 0 o d fr hp K=K (af fr d (fB false 1 o x)) hp:=RZ h (by simp)
theorem aof(n o:Nat)(cs:List PV):fB true n o (.agg cs)= .agg ((cs.drop o).take n):=rfl
theorem aog(n o:Nat)(cs:List PV):fB false n o (.agg cs)=(cs.drop o).headD .undef:=rfl
theorem ac7(n ty β:Nat)(x:PV)(cs:List PV):stM (some ⟨n,ty,[x],false⟩) β n 0 0 (.agg cs) fr hp K=(cs.length=n/\K fr (Qj hp β ⟨n,ty,[.agg cs],false⟩)):=by simp[stM,PV.aN,PV.cells]
theorem agD{e n ty β o:Nat}{x v:PV}(h:v.flat=true)(hn:¬n=e)(hl:v.cells.length=n)(ho:o+n<=e):stM (some ⟨e,ty,[x],false⟩) β n 0 o v fr hp K=K fr (Qj hp β ⟨e,ty,[uI x o v],false⟩):=by have:=(wz (hp:=hp) h).2.2;simp[stM,this,hl,ho,hn]
theorem aih(cs:List PV)(o:Nat)(v:PV):uI (.agg cs) o v= .agg (cs.take o++v.cells++cs.drop (o+v.cells.length)):=rfl
theorem LQ(k:IntKind)(n:Int):(PV.int k n).cells=[.int k n]:=rfl
theorem aeL:(PV.au).cells=[.au]:=rfl
theorem ac8{p:PV}(h:p.flat=true):p.rj=false:=by cases p<;>simp_all[PV.flat,PV.rj]
theorem G8{z:List PV}{ps:List (Nat×Nat×PV)}{d:Nat}(h:ps.all (fun p=>p.2.2.flat)=true):
  oA z ps d fr hp K=((∀p∈ps,p.2.2.cells.length=p.2.1/\p.1+p.2.1<=z.length)/\K (af fr d (.agg (jN z (ps.map fun p=>(p.1,p.2.2.cells))))) hp):=by
 have h':=Kax.1 h;have e1:(ps.map fun p=>(p.1,(aU hp p.2.2).cells))=ps.map fun p=>(p.1,p.2.2.cells):=KaJ fun p hp'=>by rw[(wz (h' p hp')).1]
 have e2:(ps.flatMap fun p=>p.2.2.refs)=[]:=by rw[List.flatMap_eq_nil_iff];exact fun p hp'=>(wz (hp:=hp) (h' p hp')).2.1
 have e3:SZ hp z.length ps=(∀p∈ps,p.2.2.cells.length=p.2.1/\p.1+p.2.1<=z.length):=by
  apply propext;constructor
  ·intro H p hp';obtain⟨_,h2,h3⟩:=H p hp';rw[(wz (h' p hp')).1]at h2;exact⟨h2,h3⟩
  ·intro H p hp';obtain⟨h2,h3⟩:=H p hp';obtain⟨g1,_,g3⟩:=wz (hp:=hp) (h' p hp');rw[g1];exact⟨g3,h2,h3⟩
 have e4:ps.any (fun p=>p.2.2.rj)=false:=by rw[KbU];exact fun p hp'=>by simp[ac8 (h' p hp')]
 simp only[oA,e4,FU,e1,e2,e3,Kbs,if_false];rfl
theorem apa(z:List PV)(d:Nat):oA z [] d fr hp K=K (af fr d (.agg z)) hp:=by rw[G8 rfl];simp[jN]
theorem apb{z:List PV}{o n d:Nat}{p:PV}(h:p.flat=true):oA z [(o,n,p)] d fr hp K=((p.cells.length=n/\o+n<=z.length)/\K (af fr d (.agg (z.take o++p.cells++z.drop (o+p.cells.length)))) hp):=by rw[G8 (by simp[h])];simp[jN]
theorem apc{z:List PV}{o n o2 n2 d:Nat}{p q:PV}(h:p.flat=true)(h2:q.flat=true):oA z [(o,n,p),(o2,n2,q)] d fr hp K=
  ((p.cells.length=n/\o+n<=z.length)/\(q.cells.length=n2/\o2+n2<=z.length)/\K (af fr d (.agg (jN z [(o,p.cells),(o2,q.cells)]))) hp):=by
 rw[G8 (by simp[h,h2])];simp[and_assoc]
theorem apd{z:List PV}{o n o2 n2 o3 n3 d:Nat}{p q r:PV}(h:p.flat=true)(h2:q.flat=true)(h3:r.flat=true):oA z [(o,n,p),(o2,n2,q),(o3,n3,r)] d fr hp K=
  ((p.cells.length=n/\o+n<=z.length)/\(q.cells.length=n2/\o2+n2<=z.length)/\(r.cells.length=n3/\o3+n3<=z.length)/\K (af fr d (.agg (jN z [(o,p.cells),(o2,q.cells),(o3,r.cells)]))) hp):=by
 rw[G8 (by simp[h,h2,h3])];simp[and_assoc]
theorem aeM(c:List PV):jN c []=c:=rfl
theorem ac9(c xs:List PV)(o:Nat)(r:List (Nat×List PV)):jN c ((o,xs)::r)=jN (c.take o++xs++c.drop (o+xs.length)) r:=rfl
def F2(p:PV)(hp:HP)(n:Nat)(ag:Bool):PV:=match p with
 |.mp β i o=>match hp β with
  |some hb=>if i<hb.xs.length/\o+n<=hb.e/\(ag=false->n=1)then fB ag n o ((hb.xs[i]?).getD .undef)else .undef
  |none=>.undef
 |_=>.undef
def gv(fr:Fr)(hp:HP):RV->PV
 |.t s=>aU hp (fr s)
 |.cell s n ag=>F2 (fr s) hp n ag
def DM(hb:Option HB)(n:Nat)(ag:Bool)(i o:Nat):PV:=match hb with
  |some hb=>if i<hb.xs.length/\o+n<=hb.e/\(ag=false->n=1)then fB ag n o ((hb.xs[i]?).getD .undef)else .undef
  |none=>.undef
theorem asr(fr:Fr)(hp:HP)(s:Nat):gv fr hp (.t s)=aU hp (fr s):=rfl
theorem asq(fr:Fr)(hp:HP)(s n:Nat)(ag:Bool):gv fr hp (.cell s n ag)=F2 (fr s) hp n ag:=rfl
theorem agE(hp:HP)(n:Nat)(ag:Bool)(β i o:Nat):F2 (.mp β i o) hp n ag=DM (hp β) n ag i o:=rfl
theorem aii{e ty n o:Nat}{fz:Bool}{x:PV}(h:o+n<=e):DM (some ⟨e,ty,[x],fz⟩) n true 0 o=fB true n o x:=by simp[DM,h]
theorem aij{e ty o:Nat}{fz:Bool}{x:PV}(h:o+1<=e):DM (some ⟨e,ty,[x],fz⟩) 1 false 0 o=fB false 1 o x:=by simp[DM,h]
theorem Bh{r:RV}(h:(gv fr hp r).aN=true):oe fr hp r/\nr fr hp r=gv fr hp r:=by
 cases r with
 |t s=>exact⟨h,rfl⟩
 | cell s n ag=>
  simp only[gv,oe,nr]at h⊢;cases kW:fr s with
  | mp β i o=>
   rw[kW]at h;simp only[F2]at h⊢;cases ae:hp β with
   |none=>rw[ae]at h;cases h
   | some hb=>
    rw[ae]at h;simp only at h⊢;split at h
    ·rename_i hc;rw[if_pos hc];exact⟨hc,rfl⟩
    ·cases h
  |_=>rw[kW]at h;cases h
theorem cr{r:RV}{Rr:PV->Prop}(h:Ae Rr (gv fr hp r)):gm [r] Rr fr hp:=by obtain⟨h1,h2⟩:=Bh h.1;exact⟨h1,by rw[h2];exact h.2⟩
theorem mO{r s:RV}{Rr:PV->Prop}(h:FY Rr (gv fr hp r) (gv fr hp s)):gm [r,s] Rr fr hp:=by obtain⟨⟨a,b⟩,c⟩:=h;obtain⟨h1,h2⟩:=Bh a;obtain⟨h3,h4⟩:=Bh b;refine⟨by simp[h1,h3],?_⟩;simp only[Kba,Kbu,h2,h4];exact c
theorem Ko{r s t:RV}{Rr:PV->Prop}(h:FZ Rr (gv fr hp r) (gv fr hp s) (gv fr hp t)):gm [r,s,t] Rr fr hp:=by obtain⟨⟨a,b,b'⟩,c⟩:=h;obtain⟨h1,h2⟩:=Bh a;obtain⟨h3,h4⟩:=Bh b;obtain⟨h5,h6⟩:=Bh b';refine⟨by simp[h1,h3,h5],?_⟩;simp only[Kba,Kbu,h2,h4,h6];exact c
end Go.FW
namespace Go.FW
open Go
def zv(n:Bool)(a:List Nat):Int:=if n then -(val a:Int)else val a
abbrev PV.zi(n:Bool)(a:List Nat):PV:=.agg [.bool n,PV.nat a]
abbrev PV.zz(z:Int):PV:=.agg [.bool (decide (z<0)),PV.num z.natAbs]
theorem JA(n:Bool)(x:Nat):PV.agg [.bool (n&&decide (0<(ao x).length)),PV.num x]=PV.zz (if n then -(x:Int)else x):=by
 have h:0<(ao x).length↔x≠0:=by
  constructor
  ·intro h h0;rw[h0,gW]at h;simp at h
  ·intro h;apply Kbg;intro h0;exact h (mL.1 (sj h0))
 cases n
 ·simp
 ·simp only[KcA,if_true,PV.zz,Kdg,Kbj];congr 3;exact decide_eq_decide.2 (by rw[h];omega)
theorem ow(z:Int):zv (decide (z<0)) (ao z.natAbs)=z:=by unfold zv;rw[Qy];by_cases h:z<0<;>simp[h]<;>omega
theorem kJ(n:Bool)(a:List Nat):(zv n a).natAbs=val a:=by unfold zv;split<;>simp
theorem wD(a:List Nat):zv false a=val a:=rfl
theorem u7(n:Bool)(x:Nat):zv n (ao x)=if n then -(x:Int)else x:=by unfold zv;rw[Qy]
def gf(z:Int):Int:=if z<0 then -1 else if 0<z then 1 else 0
def ep(x y:Int):Int:=if x<y then -1 else if y<x then 1 else 0
theorem J7(n:Bool)(a:List Nat):gf (zv n a)=if val a=0 then 0 else if n then -1 else 1:=by unfold gf zv;cases n<;>simp<;>split<;>(try split)<;>omega
theorem Di{x:Int}:gf x<0↔x<0:=by unfold gf;split<;>(try split)<;>omega
theorem aik{x y:Int}(h:gf x<gf y):ep x y= -1:=by unfold gf at h;unfold ep;rw[if_pos];split at h<;>split at h<;>(try split at h)<;>(try split at h)<;>omega
theorem ail{x y:Int}(h:gf y<gf x):ep x y=1:=by
 have:y<x:=by unfold gf at h;split at h<;>split at h<;>(try split at h)<;>(try split at h)<;>omega
 unfold ep;rw[if_neg (by omega),if_pos this]
theorem Ha(n:Bool)(a:List Nat):zv n a=val a∨zv n a= -(val a:Int):=by unfold zv;split<;>simp
theorem aim{n m:Bool}{a b:List Nat}(h:zv n a<0)(h2:zv m b<0):ji (val b) (val a)=ep (zv n a) (zv m b):=by
 unfold ji ep;have e:=Ha n a;have f:=Ha m b;generalize zv n a=p at *
 generalize zv m b=q at *
 repeat' split
 all_goals omega
theorem ain{n m:Bool}{a b:List Nat}(h:¬zv n a<0)(h2:¬zv m b<0):ji (val a) (val b)=ep (zv n a) (zv m b):=by
 unfold ji ep;have e:=Ha n a;have f:=Ha m b;generalize zv n a=p at *
 generalize zv m b=q at *
 repeat' split
 all_goals omega
theorem Hb{x y:Nat}:ji x y<0↔x<y:=by unfold ji;split<;>(try split)<;>omega
variable {C : Ctx} {fr : Fr} {hp : HP} {w : World} {K R : Qh}
def Kp(hb:Option HB)(o n:Nat):PV:=match hb with
 |some hb=>.sl hb.e ((hb.xs.drop o).take n)
 |none=>.undef
theorem ek:(∀(hp:HP)(β o n:Nat),aU hp (.aB β o n)=if aR β=true then .undef else Kp (hp β) o n)/\
  (∀(e ty o n:Nat)(xs:List PV)(fz:Bool),Kp (some ⟨e,ty,xs,fz⟩) o n= .sl e ((xs.drop o).take n))/\
  (∀(β:Nat),aR β=(decide (1000000<=β)&&decide (β<2000000)))/\
  (∀(hp:HP)(l:List Nat)(β:Nat),FW.bW hp l β=if l.contains β=true then(hp β).map (fun hb=>{ hb with fz:=true })else hp β):=by
 refine⟨fun hp β o n=>?_,fun _ _ _ _ _ _=>rfl,fun _=>rfl,fun _ _ _=>rfl⟩;simp only[aU,cZ,Kp];cases aR β<;>cases hp β<;>rfl
theorem amv{n d:Nat}{cs:List PV}(h:n<=cs.length):kf n true (.pt cs) d fr hp K=K (af fr d (.agg (cs.take n))) hp:=by simp[kf,h,fB,PV.cells]
theorem amw{off d:Nat}{cs:List PV}(h:off<=cs.length):tX off (.pt cs) d fr hp K=K (af fr d (.pt (cs.drop off))) hp:=by simp[tX,h]
theorem amx{off n d:Nat}{cs:List PV}(h:off+n<=cs.length):tS off n true (.agg cs) d fr hp K=K (af fr d (.agg ((cs.drop off).take n))) hp:=by simp[tS,h,fB,PV.cells]
theorem amy{off d:Nat}{cs:List PV}(h:off+1<=cs.length):tS off 1 false (.agg cs) d fr hp K=K (af fr d ((cs.drop off).headD .undef)) hp:=by simp[tS,h,fB,PV.cells]
def rv(n:Bool)(a d:List Nat):Rat:=mkRat (zv n a) (val d)
abbrev PV.rr(n:Bool)(a d:List Nat):PV:=.agg [.bool n,PV.nat a,PV.nat d]
abbrev PV.rat(q:Rat):PV:=.agg [.bool (decide (q.num<0)),PV.num q.num.natAbs,PV.num q.den]
theorem eA(q:Rat):rv (decide (q.num<0)) (ao q.num.natAbs) (ao q.den)=q:=by unfold rv;rw[ow,Qy,Kc4]
theorem CG{z:Int}{D:Nat}(hD:D≠0):(mkRat z D).num=z/(Nat.gcd z.natAbs D:Int)/\(mkRat z D).den=D/Nat.gcd z.natAbs D:=by rw[Rat.mkRat_def,dif_neg hD,Rat.normalize_eq];exact⟨rfl,rfl⟩
theorem Tq{z:Int}{D:Nat}(hD:D≠0):PV.agg [.bool (decide (z<0)),PV.num (z.natAbs/Nat.gcd z.natAbs D),PV.num (D/Nat.gcd z.natAbs D)]=PV.rat (mkRat z D):=by
 obtain⟨h1,h2⟩:=CG (z:=z) hD;have hg:0<Nat.gcd z.natAbs D:=Nat.gcd_pos_of_pos_right _ (Kbg hD);have Ni:(Nat.gcd z.natAbs D:Int)∣z:=Int.ofNat_dvd_left.2 (Kdh _ _);obtain⟨k,hk⟩:=Ni;rw[PV.rat,h1,h2];generalize hgg:Nat.gcd z.natAbs D=g at *
 have e1:z/(g:Int)=k:=by rw[hk,Int.mul_ediv_cancel_left _ (by omega)]
 have e2:z.natAbs/g=k.natAbs:=by rw[hk,Int.natAbs_mul,Kbj,Nat.mul_div_cancel_left _ hg]
 have e3:z<0↔k<0:=by
  rw[hk];constructor
  ·intro h;apply Decidable.byContradiction;intro h';have:=Int.mul_nonneg (show(0:Int)<=g by omega) (show 0<=k by omega);omega
  ·intro h;exact Int.mul_neg_of_pos_of_neg (by omega) h
 rw[e1,e2,decide_eq_decide.2 e3]
theorem aoh(z:Int):PV.agg [.bool (decide (z<0)),PV.num z.natAbs,PV.nat [1]]=PV.rat (mkRat z 1):=by rw[<-Tq (by omega),Nat.gcd_one_right,Nat.div_one,Nat.div_one,PV.num,PV.num,uW]
theorem Sl:PV.le (.agg [.bool false,.au,PV.nat [1]]) (PV.rat 0):=by
 show PV.BZ _ _;refine⟨rfl,?_,?_,trivial⟩
 ·show PV.oa .au (PV.nat (ao 0));rw[gW];trivial
 ·show PV.oa (PV.nat [1]) (PV.nat (ao 1));rw[uW];exact AF _
theorem Vh{z:Int}{D:Nat}(h:D=0∨z=0):mkRat z D=0:=by
 rcases h with h|h
 ·rw[h,Rat.mkRat_zero]
 ·rw[h,Rat.zero_mkRat]
def rs(q:Rat):Nat:=max (nl q.num.natAbs) (nl q.den)
theorem Tr(x y:Nat):nl (x/y)<=nl x:=iL (KcV _ _)
theorem u9:nl 1=1:=by unfold nl;rw[uW];rfl
theorem Hc(z:Int)(D:Nat):rs (mkRat z D)<=max (nl z.natAbs) (max (nl D) 1):=by
 by_cases hD:D=0
 ·rw[hD,Rat.mkRat_zero];show max (nl 0) (nl 1)<=_;rw[yy,u9];omega
 ·obtain⟨h1,h2⟩:=CG (z:=z) hD;unfold rs;rw[h1,h2];have e:(z/(Nat.gcd z.natAbs D:Int)).natAbs<=z.natAbs:=by have Ni:(Nat.gcd z.natAbs D:Int)∣z:=Int.ofNat_dvd_left.2 (Kdh _ _);rw[Int.natAbs_ediv_of_dvd Ni];exact KcV _ _
  have:=iL e;have:=Tr D (Nat.gcd z.natAbs D);omega
theorem tE(x y:Int):nl (x+y).natAbs<=max (nl x.natAbs) (nl y.natAbs)+1:=
 Kap (iL (Int.natAbs_add_le x y)) (Tb _ _)
theorem js(x y:Int):nl (x*y).natAbs<=nl x.natAbs+nl y.natAbs:=by rw[Int.natAbs_mul];exact rF _ _
theorem J8(q:Rat):1<=rs q:=by have:nl q.den≠0:=fun h=>q.den_nz (Cv.1 h);unfold rs;omega
theorem lz(a b:Rat):rs (a+b)<=rs a+rs b+1:=by
 have e:a+b=mkRat (a.num*b.den+b.num*a.den) (a.den*b.den):=by
  conv=>lhs;rw[<-Rat.mkRat_self a,<-Rat.mkRat_self b]
  exact Rat.mkRat_add_mkRat _ _ a.den_nz b.den_nz
 rw[e];have h1:=Hc (a.num*b.den+b.num*a.den) (a.den*b.den);have h2:=tE (a.num*b.den) (b.num*a.den);have h3:=js a.num b.den;have h4:=js b.num a.den;have h5:=rF a.den b.den;rw[Kbj]at h3 h4;unfold rs at *
 omega
theorem fD(a b:Rat):rs (a*b)<=rs a+rs b:=by
 have e:a*b=mkRat (a.num*b.num) (a.den*b.den):=by
  conv=>lhs;rw[<-Rat.mkRat_self a,<-Rat.mkRat_self b]
  exact Rat.mkRat_mul_mkRat _ _ _ _
 rw[e];have h1:=Hc (a.num*b.num) (a.den*b.den);have h3:=js a.num b.num;have h5:=rF a.den b.den;have:=J8 a;unfold rs at *
 omega
theorem sw(a:Rat):rs (-a)=rs a:=by unfold rs;rw[Rat.neg_num,Rat.neg_den,Kdg]
theorem amz{n k:Nat}{a d:List Nat}{b:Bool}(ha:Qk a)(hd:Qk d)(h1:a.length<=k)(h2:d.length<=k)(hk:1<=k):rs (rv b a d)<=k:=by unfold rv;have h:=Hc (zv b a) (val d);rw[kJ]at h;have:=cq ha;have:=cq hd;omega
end Go.FW
namespace Go.FW
open Go
def fc(q:Rat):Int:=gf q.num
def qI(p q:Rat):Int:=if p<q then -1 else if q<p then 1 else 0
theorem Kz{z:Int}{D:Nat}(hD:D≠0):∃g:Nat,0<g/\z=(mkRat z D).num*g/\D=(mkRat z D).den*g:=by
 obtain⟨h1,h2⟩:=CG (z:=z) hD;have hg:0<Nat.gcd z.natAbs D:=Nat.gcd_pos_of_pos_right _ (Kbg hD);refine⟨_,hg,?_,?_⟩
 ·rw[h1,Int.ediv_mul_cancel (Int.ofNat_dvd_left.2 (Kdh _ _))]
 ·rw[h2,Nat.div_mul_cancel (Nat.gcd_dvd_right _ _)]
theorem ada{a:Int}{g:Nat}(hg:0<g):a*g<0↔a<0:=by
 constructor
 ·intro h;apply Decidable.byContradiction;intro h';have:=Int.mul_nonneg (show 0<=a by omega) (show(0:Int)<=g by omega);omega
 ·intro h;exact Int.mul_neg_of_neg_of_pos h (by omega)
theorem adb{a:Int}{g:Nat}(hg:0<g):0<a*g↔0<a:=by
 constructor
 ·intro h;apply Decidable.byContradiction;intro h';have:=Int.mul_nonneg (show 0<= -a by omega) (show(0:Int)<=g by omega);rw[Int.neg_mul]at this;omega
 ·intro h;exact Int.mul_pos h (by omega)
theorem aeN{z:Int}{D:Nat}(hD:D≠0):fc (mkRat z D)=gf z:=by
 obtain⟨g,hg,h1,_⟩:=Kz (z:=z) hD;unfold fc;generalize(mkRat z D).num=x at *
 subst h1;unfold gf;have:=ada (a:=x) hg;have:=adb (a:=x) hg
 repeat' split
 all_goals omega
theorem QW{x y:Int}{d c:Nat}(hd:d≠0)(hc:c≠0):mkRat x d<mkRat y c↔x*c<y*d:=by
 obtain⟨g,hg,h1,h2⟩:=Kz (z:=x) hd;obtain⟨k,hk,h3,h4⟩:=Kz (z:=y) hc;rw[Rat.lt_iff];generalize(mkRat x d).num=p at *
 generalize(mkRat x d).den=p' at *
 generalize(mkRat y c).num=q at *
 generalize(mkRat y c).den=q' at *
 subst h1 h2 h3 h4;have e1:p*(g:Int)*((q'*k:Nat):Int)=(p*q')*((g*k:Nat):Int):=by push_cast;grind
 have e2:q*(k:Int)*((p'*g:Nat):Int)=(q*p')*((g*k:Nat):Int):=by push_cast;grind
 rw[e1,e2];have XH:(0:Int)<((g*k:Nat):Int):=by exact_mod_cast Nat.mul_pos hg hk
 exact⟨fun h=>Int.mul_lt_mul_of_pos_right h XH,fun h=>Int.lt_of_mul_lt_mul_right h (Int.le_of_lt XH)⟩
theorem Sm{x y:Int}{d c:Nat}(hd:d≠0)(hc:c≠0):qI (mkRat x d) (mkRat y c)=ep (x*c) (y*d):=by unfold qI ep;simp only[QW hd hc,QW hc hd]
theorem Mf{x:Int}:gf x=0↔x=0:=by unfold gf;(repeat' split)<;>omega
theorem dy{q:Rat}:fc q=0↔q=0:=by unfold fc;rw[Mf,Rat.num_eq_zero]
theorem rB{q:Rat}:fc q<0↔q<0:=by unfold fc;rw[Di,Rat.lt_iff];simp
theorem Mg{q:Rat}:0<fc q↔0<q:=by
 unfold fc;rw[Rat.lt_iff];unfold gf;simp;repeat' split
 all_goals omega
theorem O7(q:Rat):fc q= -1∨fc q=0∨fc q=1:=by unfold fc gf;(repeat' split)<;>omega
theorem QX{p q:Rat}(h:fc p<fc q):qI p q= -1:=by
 unfold qI;rw[if_pos];rcases O7 p with h1|h1|h1<;>rcases O7 q with h2|h2|h2<;>first|omega|skip
 ·have a:=rB.1 (show fc p<0 by omega);have b:=dy.1 h2;grind
 ·have a:=rB.1 (show fc p<0 by omega);have b:=Mg.1 (show 0<fc q by omega);grind
 ·have a:=dy.1 h1;have b:=Mg.1 (show 0<fc q by omega);grind
theorem af8{p q:Rat}(h:fc q<fc p):qI p q=1:=by
 have:=QX h;unfold qI at *
 have aw:q<p:=by apply Decidable.byContradiction;intro hn;rw[if_neg hn]at this;split at this<;>omega
 rw[if_neg (by grind),if_pos aw]
theorem GW{p q:Rat}:qI p q=0↔p=q:=by
 unfold qI;constructor
 ·intro h;split at h
  ·omega
  ·split at h
   ·omega
   ·grind
 ·rintro rfl;rw[if_neg (by grind),if_neg (by grind)]
def qA(n:Bool)(a:List Nat):Bool:=if a=[]then !n else decide (a.getLast? ≠some 0)
def lB(n:Bool)(a d:List Nat):Bool:=qA n a&&(decide (d≠[]/\d.getLast? ≠some 0)&&decide (Nat.gcd (val a) (val d)=1))
theorem P8{n:Bool}{a d:List Nat}(ha:Qk a)(hd:Qk d)(h:lB n a d=true):n=decide ((rv n a d).num<0)/\a=ao (rv n a d).num.natAbs/\d=ao (rv n a d).den:=by
 simp only[lB,qA,KaC,decide_eq_true_eq]at h;obtain⟨h1,⟨h2,h3⟩,h4⟩:=h;have ea:a=ao (val a):=by
  refine(Db ha ?_).symm;split at h1
  ·rename_i h;subst h;simp
  ·simpa using h1
 have ed:d=ao (val d):=(Db hd h3).symm;have hD:val d≠0:=fun h=>h2 (by rw[ed,h,gW]);obtain⟨g1,g2⟩:=CG (z:=zv n a) hD;rw[kJ,h4]at g1 g2;have H9:(rv n a d).num=zv n a:=by unfold rv;rw[g1];simp
 have g2':(rv n a d).den=val d:=by unfold rv;rw[g2];simp
 rw[H9,g2',kJ];refine⟨?_,ea,ed⟩;unfold zv;split at h1
 ·rename_i h;subst h;simp at h1;subst h1;simp[val]
 ·rename_i h;have h0:val a≠0:=fun h'=>h (by rw[ea,h',gW]);cases n<;>simp;omega
theorem aoi{n:Bool}{a d:List Nat}(ha:Qk a)(hd:Qk d)(h:lB n a d=true):PV.rr n a d=PV.rat (rv n a d):=by obtain⟨h1,h2,h3⟩:=P8 ha hd h;rw[PV.rr,PV.rat,<-h1,PV.num,PV.num,<-h2,<-h3]
theorem Vi{a:List Nat}{k:Nat}(h:a.length=k+1):a.getLast? =some (a[k]'(by omega)):=by rw[Kbn,show a.length-1=k by omega];exact Kag _
def eN(a:List Int)(i:Nat):Int:=a.getD i 0
theorem fY{a:List Int}{i:Nat}(h:i<a.length):eN a i=a[i]:=by simp[eN,Kad,h]
theorem jh{a:List Int}{i:Nat}(h:a.length<=i):eN a i=0:=by simp[eN,Kad,Kcj h]
theorem HY(i:Nat):eN [] i=0:=by simp[eN]
def mS(l:List Int):Nat->List Int
 |0=>[]
 |n+1=>if l[n]? =some 0 then mS l n else l.take (n+1)
def cQ(l:List Int):List Int:=mS l l.length
theorem Vj(l:List Int):∀n,(mS l n).length<=n
 |0=>by simp[mS]
 |n+1=>by
  rw[mS];split
  ·have:=Vj l n;omega
  ·simp;omega
theorem O8(l:List Int):∀n,n<=l.length->(mS l n).getLast? ≠some 0
 |0,_=>by simp[mS]
 | n+1,h=>by
  rw[mS];split
  ·exact O8 l n (by omega)
  ·rename_i hn;have:(l.take (n+1)).getLast? =l[n]? :=by rw[Kbn,KaF,Kcb h];simp[KcR]
   rw[this];exact hn
theorem Sn(l:List Int)(i:Nat):∀n,n<=l.length->eN (mS l n) i=if i<n then eN l i else 0
 |0,_=>by simp[mS,eN]
 | n +1,h=>by
  rw[mS];split
  ·rename_i hn;rw[Sn l i n (by omega)];by_cases h1:i<n
   ·simp[h1,show i<n+1 by omega]
   ·rw[if_neg h1];split
    ·obtain rfl:i=n:=by omega
     simp[eN,Kad,hn]
    ·rfl
  ·simp only[eN,Kad,KcR];split<;>simp_all
theorem C5(l:List Int)(i:Nat):eN (cQ l) i=eN l i:=by
 rw[cQ,Sn l i _ (Kae _)];split
 ·rfl
 ·exact(jh (by omega)).symm
theorem GC(l:List Int):(cQ l).getLast? ≠some 0:=O8 l _ (Kae _)
theorem tD(l:List Int):(cQ l).length<=l.length:=Vj l _
theorem tK{a b:List Int}(ha:a.getLast? ≠some 0)(hb:b.getLast? ≠some 0)(h:∀i,eN a i=eN b i):a=b:=by
 have key:∀(a b:List Int),b.getLast? ≠some 0->(∀i,eN a i=eN b i)->¬a.length<b.length:=by intro a b hb h aw;have h1:=h (b.length-1);rw[jh (by omega),fY (by omega)]at h1;apply hb;rw[Kbn,Kag (by omega),<-h1]
 have h1:=key a b hb h;have h2:=key b a ha (fun i=>(h i).symm);refine Ka7 (by omega) fun i h3 h4=>?_;have:=h i
 rwa[fY h3,fY h4]at this
theorem Mh{a:List Int}(h:a.getLast? ≠some 0):cQ a=a:=tK (GC a) h (C5 a)
def eS(a b:List Int):Nat->Int
 |0=>0
 |n+1=>if eN a n=eN b n then eS a b n else ep (eN a n) (eN b n)
def bm(a b:List Int):Int:=eS a b (max a.length b.length)
theorem aio{x y:Int}:ep x y=0↔x=y:=by unfold ep;(repeat' split)<;>omega
theorem AW{x y:Int}:ep x y<0↔x<y:=by unfold ep;(repeat' split)<;>omega
theorem af9(x y:Int):ep y x= -ep x y:=by unfold ep;(repeat' split)<;>omega
theorem GX(a b:List Int):∀n,eS a b n=0↔∀i,i<n->eN a i=eN b i
 |0=>by simp[eS]
 | n+1=>by
  rw[eS];split
  ·rename_i h;rw[GX a b n];exact⟨fun H i hi=>by
    by_cases h1:i=n
    ·subst h1;exact h
    ·exact H i (by omega),fun H i hi=>H i (by omega)⟩
  ·rename_i h;rw[aio];exact⟨fun H=>absurd H h,fun H=>H n (by omega)⟩
theorem P9(a b:List Int):∀n,eS b a n= -eS a b n
 |0=>rfl
 |n+1=>by
  rw[eS,eS];by_cases h:eN a n=eN b n
  ·rw[if_pos h,if_pos h.symm,P9 a b n]
  ·rw[if_neg h,if_neg (fun h'=>h h'.symm),af9]
theorem We{a b c:List Int}:∀n,eS a b n<0->eS b c n<0->eS a c n<0
 |0=>by simp[eS]
 | n+1=>by
  intro h1 h2;rw[eS]at h1 h2⊢;split at h1<;>split at h2
  ·rename_i e1 e2;rw[if_pos (e1.trans e2)];exact We n h1 h2
  ·rename_i e1 e2;rw[e1,if_neg e2];exact h2
  ·rename_i e1 e2;rw[<-e2,if_neg e1];exact h1
  ·rename_i e1 e2;rw[AW]at h1 h2;rw[if_neg (by omega),AW];omega
theorem AH{a b:List Int}{m:Nat}(h:max a.length b.length<=m):eS a b m=bm a b:=by
 obtain⟨k,rfl⟩:∃k,m=max a.length b.length+k:=⟨m-max a.length b.length,by omega⟩
 induction k with
 |zero=>rfl
 |succ k ih=>rw[<-Nat.add_assoc,eS,if_pos (by rw[jh (by omega),jh (by omega)])];exact ih (by omega)
theorem wM{a b:List Int}(ha:a.getLast? ≠some 0)(hb:b.getLast? ≠some 0):bm a b=0↔a=b:=by
 unfold bm;rw[GX];constructor
 ·intro h;refine tK ha hb fun i=>?_;by_cases hi:i<max a.length b.length
  ·exact h i hi
  ·rw[jh (by omega),jh (by omega)]
 ·rintro rfl i _;rfl
theorem CH(a:List Int):bm a a=0:=by rw[bm,GX];intros;rfl
theorem AI(a b:List Int):bm b a= -bm a b:=by unfold bm;rw[Nat.max_comm,P9]
theorem ade{a b c:List Int}(h1:bm a b<0)(h2:bm b c<0):bm a c<0:=by
 have e:∀x y:List Int,x.length<=a.length+b.length+c.length->y.length<=a.length+b.length+c.length->bm x y=eS x y (a.length+b.length+c.length):=fun x y hx hy=>(AH (by omega)).symm;rw[e _ _ (by omega) (by omega)]at *
 exact We _ h1 h2
theorem adf{a b c d:List Int}(h1:∀i,eN a i=eN c i)(h2:∀i,eN b i=eN d i):bm a b=bm c d:=by
 have key:∀n,eS a b n=eS c d n:=by
  intro n;induction n with
  |zero=>rfl
  |succ n ih=>rw[eS,eS,h1,h2,ih]
 rw[<-AH (m:=max (max a.length b.length) (max c.length d.length)) (by omega),key,AH (by omega)]
def mc(g:Int->Int->Int)(a b:List Int):List Int:=(List.range (max a.length b.length)).map fun i=>g (eN a i) (eN b i)
theorem rp(g:Int->Int->Int)(a b:List Int):(mc g a b).length=max a.length b.length:=by simp[mc]
theorem So{g:Int->Int->Int}(hg:g 0 0=0)(a b:List Int)(i:Nat):eN (mc g a b) i=g (eN a i) (eN b i):=by
 by_cases h:i<max a.length b.length
 ·rw[fY (by rw[rp];exact h)];simp[mc]
 ·rw[jh (by rw[rp];omega),jh (by omega),jh (by omega),hg]
def bF(a b:List Int):List Int:=cQ (mc (· + ·) a b)
theorem ph(a b:List Int)(i:Nat):eN (bF a b) i=eN a i+eN b i:=by rw[bF,C5,So (by simp)]
theorem ry(a b:List Int):(bF a b).getLast? ≠some 0:=GC _
theorem AB(a b:List Int):bF a b=bF b a:=tK (ry _ _) (ry _ _) fun i=>by rw[ph,ph,Int.add_comm]
theorem P'{a:List Int}(h:a.getLast? ≠some 0):bF a []=a:=tK (ry _ _) h fun i=>by rw[ph,HY,Int.add_zero]
theorem aga(a b c:List Int):bm (bF a c) (bF b c)=bm a b:=by
 have key:∀n,eS (bF a c) (bF b c) n=eS a b n:=by
  intro n;induction n with
  |zero=>rfl
  |succ n ih=>
   rw[eS,eS,ph,ph,ih];by_cases h:eN a n=eN b n
   ·rw[if_pos h,if_pos (by omega)]
   ·rw[if_neg h,if_neg (by omega)];unfold ep;(repeat' split)<;>omega
 rw[<-AH (m:=max (max (bF a c).length (bF b c).length) (max a.length b.length)) (by omega),key,AH (by omega)]
def dT(a:List Int):Int:=a.sum
def ck(a:List Int):Bool:=decide (a.length<=64)&&(decide (a.getLast? ≠some 0)&&a.all fun x=>decide (0<=x)&&decide (x<=1048576))
def me(o:Int)(a b:List Int):Int:=if o=1/\dT a≠dT b then ep (dT a) (dT b)else bm a b
structure MB(k:Nat)(a:List Int):Prop where
 len:a.length<=64
 lo:∀x∈a,0<=x
 hi:∀x∈a,x<=k
theorem MB.eN{k:Nat}{a:List Int}(h:MB k a)(i:Nat):0<=FW.eN a i/\FW.eN a i<=k:=by
 by_cases hi:i<a.length
 ·rw[fY hi];exact⟨h.lo _ (Kah _),h.hi _ (Kah _)⟩
 ·rw[jh (by omega)];omega
theorem MB.mono{k k':Nat}{a:List Int}(h:MB k a)(hk:k<=k'):MB k' a:=⟨h.len,h.lo,fun x hx=>by have:=h.hi x hx;omega⟩
theorem MB.tA{a:List Int}(h:ck a=true):MB 1048576 a:=by simp only[ck,KaC,decide_eq_true_eq,Kax]at h;exact⟨h.1,fun x hx=>(h.2.2 x hx).1,fun x hx=>(h.2.2 x hx).2⟩
theorem MB.mul{k l:Nat}{a b:List Int}(h:MB k a)(g:MB l b):MB (k+l) (bF a b):=by
 have hl:(bF a b).length<=64:=by have:=tD (mc (· + ·) a b);rw[rp]at this;have:=h.len;have:=g.len;unfold bF;omega
 refine⟨hl,fun x hx=>?_,fun x hx=>?_⟩
 all_goals
  obtain⟨i,hi,rfl⟩:=KaV hx;rw[<-fY hi,ph];have:=h.eN i;have:=g.eN i
  push_cast;omega
variable {C : Ctx} {fr : Fr} {hp : HP} {w : World} {K R : Qh}
theorem aoj{α:Type}{f:α->PV}{e d:Nat}{xs:List α}{k k':IntKind}{n:Nat}(h5:n<=xs.length):
  kj e (.sl e (xs.map f)) none (some (.int k (n:Int))) (some (.int k' (n:Int))) d fr hp K=K (af fr d (.sl e ((xs.take n).map f))) hp:=by
 simp[kj,jL,h5]
theorem Mi{α:Type}{a:List α}{k:Nat}(h:a.length=k+1):a.getLast? =some (a[k]'(by omega)):=by rw[Kbn,show a.length-1=k by omega];exact Kag _
theorem Q9u{α:Type}{f:α->PV}{e by_ ty d:Nat}{xs:List α}(h0:0<e)(h1:xs.length*by_<=140737488355328)(h2:xs.length<=9223372036854775807):
  ia e by_ ty .au (.sl e (xs.map f)) d fr hp K=K (af (cP d fr) d (.ms d xs.length)) (Qj hp d ⟨e,ty,xs.map f,false⟩):=by
 have:=GB (fr:=fr) (hp:=hp) (K:=K) (e:=e) (by_:=by_) (ty:=ty) (d:=d) (x:=.sl e (xs.map f)) (ys:=xs.map f) rfl h0 (by simpa using h1) (by simpa using h2);simpa using this
theorem mM{α:Type}{f:α->PV}{e by_ ty d β n:Nat}{xs ys:List α}(hb:hp β=some ⟨e,ty,xs.map f,false⟩)(hn:n=xs.length)(h0:0<e)(h1:(n+ys.length)*by_<=140737488355328)(h2:n+ys.length<=9223372036854775807)(hB:bJ β=false:=by decide):
  ia e by_ ty (.ms β n) (.sl e (ys.map f)) d fr hp K=K (af (cP β fr) d (.ms β (n+ys.length))) (Qj hp β ⟨e,ty,(xs++ys).map f,false⟩):=by
 rw[K7 (ys:=ys.map f) (xs:=xs.map f) rfl hb h0 (by simp[hn]) (by simpa using h1) (by simpa using h2) hB];rw[Kac (by simp[hn]),Ka9,Kal]
theorem Qr{α:Type}{f:α->PV}{y:α}{e by_ ty ty' d β γ n:Nat}{xs:List α}{fz:Bool}(hb:hp β=some ⟨e,ty,xs.map f,false⟩)(hy:hp γ=some ⟨e,ty',[f y],fz⟩)(h0:0<e)(hn:n=xs.length)(h1:(n+1)*by_<=140737488355328)(h2:n+1<=9223372036854775807)(hB:bJ β=false:=by decide):
  ia e by_ ty (.ms β n) (.ms γ 1) d fr hp K=K (af (cP β fr) d (.ms β (n+1))) (Qj hp β ⟨e,ty,(xs++[y]).map f,false⟩):=by
 rw[CZ hb hy h0 (by simp[hn]) h1 h2 hB];simp
abbrev PV.mono(a:List Int):PV:=.sl 1 (nC a)
theorem LR{a:List Int}(h:a=[]):PV.le .au (PV.mono a):=by subst h;trivial
theorem amA{by_ ty d:Nat}{k k':IntKind}{n c:Nat}(h2:n<=c)(h3:by_*c<=281474976710656)(h4:c<=9223372036854775807):
  qe 1 by_ ty (.int .i64 0) (.int k (n:Int)) (.int k' (c:Int)) d fr hp K=K (af (cP d fr) d (.ms d n)) (Qj hp d ⟨1,ty,nC (List.replicate n 0),false⟩):=by
 rw[Tg (by omega) (by omega) (by omega) (by omega)];simp[nC]
theorem Sp(a b:Nat):max (a:Int) (b:Int)=((max a b:Nat):Int):=by omega
end Go.FW
namespace Go.FW
open Go
variable {C : Ctx} {fr : Fr} {hp : HP} {w : World} {K R : Qh}
theorem aeo{α:Type}{done:List α}{i n:Nat}{v z:α}(h:done.length=i)(hn:0<n):(done++List.replicate n z).set i v=(done++[v])++List.replicate (n-1) z:=by
 obtain⟨m,rfl⟩:∃m,n=m+1:=⟨n-1,by omega⟩
 subst h;simp[KbL]
theorem LS{g:Int->Int->Int}{a b:List Int}{i:Nat}(h:i<max a.length b.length):(mc g a b).take (i+1)=(mc g a b).take i++[g (eN a i) (eN b i)]:=by rw[Kak (by rw[rp];exact h)];simp[mc]
end Go.FW
namespace Go.FW
open Go
abbrev Tm:=Rat×List Int
abbrev PV.term(t:Tm):PV:=.agg [.bool (decide (t.1.num<0)),PV.num t.1.num.natAbs,PV.num t.1.den,PV.mono t.2]
abbrev PV.aL(p:List Tm):PV:=.sl 4 (p.map PV.term)
abbrev PV.au4(l:List (List Tm)):PV:=.sl 1 (l.map PV.aL)
def aW:List Tm->List Tm->List Tm
 | [],q=>q
 |p,[]=>p
 |(c,m)::p,(d,l)::q=>
  if 0<bm m l then(c,m)::aW p ((d,l)::q)
  else if bm m l<0 then(d,l)::aW ((c,m)::p) q
  else if c+d=0 then aW p q else(c+d,m)::aW p q
termination_by p q=>p.length+q.length
theorem o9(p:List Tm):aW p []=p:=by cases p<;>rw[aW];simp
theorem yt(p:List Tm):aW [] p=p:=by rw[aW]
structure TB(K E:Nat)(t:Tm):Prop where
 c:rs t.1+1<=K
 m:MB E t.2
 l:t.2.getLast? ≠some 0
def PB(K E:Nat)(p:List Tm):Prop:=∀t∈p,TB K E t
theorem TB.mono{K K' E E':Nat}{t:Tm}(h:TB K E t)(hK:K<=K')(hE:E<=E'):TB K' E' t:=⟨Kap h.c hK,h.m.mono hE,h.l⟩
theorem PB.mono{K K' E E':Nat}{p:List Tm}(h:PB K E p)(hK:K<=K')(hE:E<=E'):PB K' E' p:=fun t ht=>(h t ht).mono hK hE
theorem PB.nil(K E:Nat):PB K E []:=fun t ht=>by cases ht
theorem PB.cons{K E:Nat}{t:Tm}{p:List Tm}:PB K E (t::p)↔TB K E t/\PB K E p:=by simp[PB]
theorem PB.drop{K E:Nat}{p:List Tm}(h:PB K E p)(n:Nat):PB K E (p.drop n):=fun t ht=>h t (KbO ht)
theorem PB.take{K E:Nat}{p:List Tm}(h:PB K E p)(n:Nat):PB K E (p.take n):=fun t ht=>h t (Kbf ht)
theorem PB.get{K E:Nat}{p:List Tm}(h:PB K E p){i:Nat}(hi:i<p.length):TB K E p[i]:=h _ (Kah hi)
theorem KR:∀(p q:List Tm),(aW p q).length<=p.length+q.length:=by
 intro p q;induction p,q using aW.induct with
 |case1 q=>rw[aW];simp
 |case2 p h=>rw[o9];simp
 |case3 c m p d l q h ih=>rw[aW,if_pos h];simp at ih ⊢;omega
 |case4 c m p d l q h1 h2 ih=>rw[aW,if_neg h1,if_pos h2];simp at ih ⊢;omega
 |case5 c m p d l q h1 h2 h3 ih=>rw[aW,if_neg h1,if_neg h2,if_pos h3];simp at ih ⊢;omega
 |case6 c m p d l q h1 h2 h3 ih=>rw[aW,if_neg h1,if_neg h2,if_neg h3];simp at ih ⊢;omega
theorem JB{K L E:Nat}:∀(p q:List Tm),PB K E p->PB L E q->PB (K+L) E (aW p q):=by
 intro p q;induction p,q using aW.induct with
 |case1 q=>rw[aW];exact fun _ h=>h.mono (by omega) (by omega)
 |case2 p h=>rw[o9];exact fun h _=>h.mono (by omega) (by omega)
 |case3 c m p d l q h ih=>intro hp hq;rw[aW,if_pos h];rw[PB.cons]at hp⊢;exact⟨hp.1.mono (by omega) (by omega),ih hp.2 hq⟩
 |case4 c m p d l q h1 h2 ih=>intro hp hq;rw[aW,if_neg h1,if_pos h2];rw[PB.cons]at hq⊢;exact⟨hq.1.mono (by omega) (by omega),ih hp hq.2⟩
 |case5 c m p d l q h1 h2 h3 ih=>intro hp hq;rw[aW,if_neg h1,if_neg h2,if_pos h3];rw[PB.cons]at hp hq;exact ih hp.2 hq.2
 |case6 c m p d l q h1 h2 h3 ih=>intro hp hq;rw[aW,if_neg h1,if_neg h2,if_neg h3];rw[PB.cons]at hp hq⊢;refine⟨⟨?_,hp.1.m,hp.1.l⟩,ih hp.2 hq.2⟩;have:=lz c d;have:=hp.1.c;have:=hq.1.c;simp only at *;omega
def fH(l:List (List Tm)):List Tm:=
 match l with
 | []=>[]
 | [p]=>p
 |p::q::r=>aW (fH ((p::q::r).take ((p::q::r).length/2))) (fH ((p::q::r).drop ((p::q::r).length/2)))
termination_by l.length
decreasing_by
 all_goals simp[KaF,Kbc];omega
theorem CI{l:List (List Tm)}(h:2<=l.length):fH l=aW (fH (l.take (l.length/2))) (fH (l.drop (l.length/2))):=by
 match l,h with
 |p::q::r,_=>rw[fH]
def rK(l:List (List Tm)):Nat:=(l.map List.length).sum
theorem Wf(l:List (List Tm))(n:Nat):rK (l.take n)+rK (l.drop n)=rK l:=by unfold rK;rw[<-List.sum_append,<-List.map_append,KbB]
theorem GD{K E:Nat}:∀(n:Nat)(l:List (List Tm)),l.length<=n->(∀p∈l,PB K E p)->PB (l.length*K) E (fH l)/\(fH l).length<=rK l:=by
 intro n;induction n with
 |zero=>intro l hl _;have:l=[]:=KaI.1 (by omega);subst this;rw[fH];exact⟨PB.nil _ _,by simp⟩
 | succ n ih=>
  intro l hl h
  match l,h with
  | [],_=>rw[fH];exact⟨PB.nil _ _,by simp⟩
  | [p],h=>rw[fH];exact⟨by simpa using h p (by simp),by simp[rK]⟩
  | p::q::r,h=>
   rw[CI (by simp)];generalize hL:p::q::r=L at *
   have hlen:2<=L.length:=by rw[<-hL];simp
   obtain⟨a1,a2⟩:=ih (L.take (L.length/2)) (by rw[KaF];omega) (fun x hx=>h x (Kbf hx));obtain⟨b1,b2⟩:=ih (L.drop (L.length/2)) (by rw[Kbc];omega) (fun x hx=>h x (KbO hx));have hs:=Wf L (L.length/2);constructor
   ·have e:(L.take (L.length/2)).length*K+(L.drop (L.length/2)).length*K=L.length*K:=by rw[<-Nat.add_mul,KaF,Kbc];congr 1;omega
    rw[<-e];exact JB _ _ a1 b1
   ·have:=KR (fH (L.take (L.length/2))) (fH (L.drop (L.length/2)));omega
def ca(p:List Tm)(t:Tm):List Tm:=p.filterMap fun x=>if x.1*t.1=0 then none else some (x.1*t.1,bF x.2 t.2)
theorem ye(p:List Tm)(t:Tm):(ca p t).length<=p.length:=Kc7 _ _
theorem Av{K L E F:Nat}{p:List Tm}{t:Tm}(hp:PB K E p)(ht:TB L F t):PB (K+L) (E+F) (ca p t):=by
 intro x hx;simp only[ca,Kcc]at hx;obtain⟨y,hy,h⟩:=hx;split at h
 ·cases h
 ·cases h;have g:=hp y hy;refine⟨?_,g.m.mul ht.m,ry _ _⟩;have:=fD y.1 t.1;have:=g.c;have:=ht.c;simp only;omega
def tR(p q:List Tm):List Tm:=fH (p.map (ca q))
def hO(p q:List Tm):List Tm:=if q.length<p.length then tR q p else tR p q
theorem Kx(p q:List Tm):rK (p.map (ca q))<=p.length*q.length:=by
 unfold rK;induction p with
 |nil=>simp
 |cons t p ih=>have:=ye q t;simp only[Kba,KcZ,KaT,KaK,KcT];omega
theorem Vk{K L E F:Nat}{p q:List Tm}(hp:PB K E p)(hq:PB L F q):PB (p.length*(K+L)) (E+F) (tR p q)/\(tR p q).length<=p.length*q.length:=by obtain⟨h1,h2⟩:=GD (K:=K+L) (E:=E+F) _ (p.map (ca q)) (Kae _) (fun x hx=>by obtain⟨t,ht,rfl⟩:=Kaq.1 hx;exact(Av hq (hp t ht)).mono (by omega) (by omega));rw[Kal]at h1;exact⟨h1,Kap h2 (Kx p q)⟩
theorem Wg{K L E F:Nat}{p q:List Tm}(hp:PB K E p)(hq:PB L F q):PB (min p.length q.length*(K+L)) (E+F) (hO p q)/\(hO p q).length<=p.length*q.length:=by
 unfold hO;split
 ·rename_i h;obtain⟨h1,h2⟩:=Vk hq hp;rw[Kdi (by omega),KbQ K,KbQ E,KaP p.length];exact⟨h1,h2⟩
 ·rename_i h;obtain⟨h1,h2⟩:=Vk hp hq;rw[Kcb (by omega)];exact⟨h1,h2⟩
theorem CJ(x y:Tm)(p q:List Tm):aW (x::p) (y::q)=if 0<bm x.2 y.2 then x::aW p (y::q)else if bm x.2 y.2<0 then y::aW (x::p) q else if x.1+y.1=0 then aW p q else(x.1+y.1,x.2)::aW p q:=by obtain⟨c,m⟩:=x;obtain⟨d,l⟩:=y;rw[aW]
theorem O9{p q:List Tm}{i k:Nat}(hi:i<p.length)(hk:k<q.length):aW (p.drop i) (q.drop k)=if 0<bm p[i].2 q[k].2 then p[i]::aW (p.drop (i+1)) (q.drop k)else if bm p[i].2 q[k].2<0 then q[k]::aW (p.drop i) (q.drop (k+1))else if p[i].1+q[k].1=0 then aW (p.drop (i+1)) (q.drop (k+1))else(p[i].1+q[k].1,p[i].2)::aW (p.drop (i+1)) (q.drop (k+1)):=by rw[KaA hi,KaA hk,CJ]
theorem DF(a b:List Int):me 0 a b=bm a b:=by simp[me]
theorem Lk{a b:List Int}(h1:¬0<bm a b)(h2:¬bm a b<0)(ha:a.getLast? ≠some 0)(hb:b.getLast? ≠some 0):a=b:=(wM ha hb).1 (by omega)
theorem L0:PV.le .au (PV.aL []):=trivial
theorem LU{p:List Tm}(h:p=[]):PV.le .au (PV.aL p):=by subst h;trivial
section
variable {C : Ctx} {fr : Fr} {hp : HP} {w : World} {K R : Qh}
theorem agb{e by_ ty d:Nat}{z:PV}{k k':IntKind}{Cc:Int}(h0:0<e)(hz:z.cells.length=e)(h2:0<=Cc)(h3:by_*Cc<=281474976710656)(h4:Cc<=9223372036854775807):
  qe e by_ ty z (.int k 0) (.int k' Cc) d fr hp K=K (af (cP d fr) d (.ms d 0)) (Qj hp d ⟨e,ty,[],false⟩):=FX h0 hz (by omega) h2 h3 h4
end
end Go.FW
namespace Go.FW
open Go
def l7(p:List Tm)(a:Rat):List Tm:=if a=0 then []else ca p (a,[])
def Oe(p:List Tm):List Tm:=l7 p (-1)
def Of(p q:List Tm):List Tm:=aW p (Oe q)
def tM(a:Rat):List Tm:=if a=0 then []else [(a,[])]
def aai(v:Nat):List Int:=List.replicate v 0++[1]
def ic(v:Int):List Tm:=if v<0∨64<=v then []else [(1,aai v.toNat)]
theorem TB.num{a:Rat}{K E:Nat}(h:rs a+1<=K):TB K E (a,[]):=⟨h,⟨by simp,by simp,by simp⟩,by simp⟩
theorem O'{p:List Tm}{a:Rat}{K E L:Nat}(hp:PB K E p)(ha:rs a+1<=L):PB (K+L) E (l7 p a):=by
 unfold l7;split
 ·exact PB.nil _ _
 ·exact(Av (F:=0) hp (TB.num ha)).mono (by omega) (by omega)
theorem Uq(p:List Tm)(a:Rat):(l7 p a).length<=p.length:=by
 unfold l7;split
 ·simp
 ·exact ye _ _
theorem F3:rs (-1)<=1:=by have:rs (-1)=max (nl 1) (nl 1):=rfl;rw[this,u9];omega
theorem mT:rs 1<=1:=by have:rs 1=max (nl 1) (nl 1):=rfl;rw[this,u9];omega
theorem sN:rs 0<=1:=by have:rs 0=max (nl 0) (nl 1):=rfl;rw[this,u9,yy];omega
theorem aip{p:List Tm}{K E:Nat}(hp:PB K E p):PB (K+2) E (Oe p):=O' hp (by have:=F3;omega)
def pE(s t:Tm):Int:=if bm s.2 t.2≠0 then bm s.2 t.2 else qI s.1 t.1
def ks:List Tm->List Tm->Int
 | [],[]=>0
 | [],_::_=> -1
 |_::_,[]=>1
 |s::p,t::q=>if pE s t≠0 then pE s t else ks p q
theorem aiq{s t:Tm}(hs:s.2.getLast? ≠some 0)(ht:t.2.getLast? ≠some 0):pE s t=0↔s=t:=by
 unfold pE;constructor
 ·intro h;split at h
  ·omega
  ·rename_i h1;have e1:=(wM hs ht).1 (Decidable.not_not.1 h1);exact Prod.ext (GW.1 h) e1
 ·rintro rfl;rw[if_neg (by simp[CH]),GW.2 rfl]
theorem JC:∀ {p q:List Tm},(∀t∈p,t.2.getLast? ≠some 0)->(∀t∈q,t.2.getLast? ≠some 0)->(ks p q=0↔p=q)
 | [],[],_,_=>by simp[ks]
 | [],_::_,_,_=>by simp[ks]
 |_::_,[],_,_=>by simp[ks]
 | s::p,t::q,hp,hq=>by
  rw[ks];have h1:=aiq (hp s (by simp)) (hq t (by simp));have h2:=JC (p:=p) (q:=q) (fun x hx=>hp x (by simp[hx])) (fun x hx=>hq x (by simp[hx]));split
  ·rename_i h;simp only[KcU];exact⟨fun h'=>absurd h' h,fun h'=>absurd (h1.2 h'.1) h⟩
  ·rename_i h;rw[h2,KcU,<-h1];exact⟨fun h'=>⟨Decidable.not_not.1 h,h'⟩,fun h'=>h'.2⟩
theorem Pa{p q:List Tm}{i:Nat}(hi:i<p.length)(hk:i<q.length):ks (p.drop i) (q.drop i)=if pE p[i] q[i]≠0 then pE p[i] q[i]else ks (p.drop (i+1)) (q.drop (i+1)):=by rw[KaA hi,KaA hk,ks]
theorem C6{q:List Tm}:ks [] q=if q.length=0 then 0 else -1:=by cases q<;>simp[ks]
theorem PB.last{K E:Nat}{p:List Tm}(h:PB K E p):∀t∈p,t.2.getLast? ≠some 0:=fun t ht=>(h t ht).l
def jz(p:List Tm):Int:=p.foldl (fun d t=>max d (dT t.2)) (-1)
theorem Dm{E:Nat}{a:List Int}(h:MB E a):0<=dT a/\dT a<=64*E:=by
 have key:∀(l:List Int),(∀x∈l,0<=x)->(∀x∈l,x<=E)->0<=l.sum/\l.sum<=l.length*E:=by
  intro l;induction l with
  |nil=>simp
  |cons x l ih=>
   intro h1 h2;obtain⟨a1,a2⟩:=ih (fun y hy=>h1 y (by simp[hy])) (fun y hy=>h2 y (by simp[hy]));have b1:=h1 x (by simp);have b2:=h2 x (by simp);rw[KcZ,KaT]
   push_cast
   rw[Int.add_mul];omega
 obtain⟨h1,h2⟩:=key a h.lo h.hi;refine⟨h1,Int.le_trans h2 (Int.mul_le_mul_of_nonneg_right ?_ (by omega))⟩;have:=h.len;omega
structure aP where
 n:Bool
 a:List Nat
 d:List Nat
 m:List Int
abbrev PV.r8(t:aP):PV:=.agg [.bool t.n,PV.nat t.a,PV.nat t.d,PV.mono t.m]
abbrev PV.jI(l:List aP):PV:=.sl 4 (l.map PV.r8)
def aP.q(t:aP):Rat:=rv t.n t.a t.d
def aP.tm(t:aP):Tm:=(t.q,t.m)
structure RB(k:Nat)(t:aP):Prop where
 r:Qk t.a/\Qk t.d/\t.a.length<=k/\t.d.length<=k
 l:t.m.length<2^40
def gC(t:aP):Bool:=lB t.n t.a t.d&&(decide (t.q≠0)&&ck t.m)
def dz:List aP->Bool
 | []=>true
 | [t]=>gC t
 |s::t::l=>gC s&&(decide (0<bm s.m t.m)&&dz (t::l))
theorem L1:∀(l:List aP),dz l=true↔(∀i (h:i<l.length),gC l[i]=true)/\(∀i (h:i+1<l.length),0<bm l[i].m l[i+1].m)
 | []=>by simp[dz]
 | [t]=>by
  rw[dz];constructor
  ·intro h;exact⟨fun i hi=>by have:i=0:=(by simp at hi;omega);subst this;exact h,fun i hi=>by simp at hi⟩
  ·intro h;exact h.1 0 (by simp)
 | s::t::l=>by
  rw[dz,KaC,KaC,decide_eq_true_eq,L1 (t::l)];constructor
  ·rintro⟨h1,h2,h3,h4⟩;refine⟨fun i hi=>?_,fun i hi=>?_⟩
   ·cases i with
    |zero=>exact h1
    |succ i=>exact h3 i (by simpa using hi)
   ·cases i with
    |zero=>exact h2
    |succ i=>exact h4 i (by simpa using hi)
  ·rintro⟨h1,h2⟩;exact⟨h1 0 (by simp),h2 0 (by simp),fun i hi=>h1 (i+1) (by simpa using hi),fun i hi=>h2 (i+1) (by simpa using hi)⟩
theorem aep{s:aP}{l:List aP}(h:dz (s::l)=true):gC s=true/\dz l=true:=by
 cases l with
 |nil=>exact⟨h,rfl⟩
 |cons t l=>rw[dz,KaC,KaC]at h;exact⟨h.1,h.2.2⟩
structure TV(t:Tm):Prop where
 c:t.1≠0
 m:ck t.2=true
def kL:List Tm->Prop
 | []=>True
 |s::p=>(∀t∈p,0<bm s.2 t.2)/\kL p
structure qi(p:List Tm):Prop where
 t:∀t∈p,TV t
 s:kL p
theorem agc{t:aP}{k:Nat}(hb:RB k t)(h:gC t=true):PV.r8 t=PV.term t.tm/\TV t.tm:=by simp only[gC,KaC,decide_eq_true_eq]at h;obtain⟨h1,h2,h3⟩:=h;obtain⟨e1,e2,e3⟩:=P8 hb.r.1 hb.r.2.1 h1;refine⟨?_,h2,h3⟩;rw[PV.r8,PV.term,aP.tm,aP.q,<-e1,PV.num,PV.num,<-e2,<-e3]
theorem Ak{a b c:List Int}(h1:0<bm a b)(h2:0<bm b c):0<bm a c:=by have e1:=AI a b;have e2:=AI b c;have e3:=AI a c;have:=ade (a:=c) (b:=b) (c:=a) (by omega) (by omega);omega
theorem GY{k:Nat}:∀ {l:List aP},(∀t∈l,RB k t)->dz l=true->PV.jI l=PV.aL (l.map aP.tm)/\qi (l.map aP.tm):=by
 intro l;induction l with
 |nil=>intro _ _;exact⟨rfl,⟨by simp,trivial⟩⟩
 | cons s l ih=>
  intro hb h;obtain⟨h1,h2⟩:=aep h;obtain⟨e1,v1⟩:=agc (hb s (by simp)) h1;obtain⟨e2,v2⟩:=ih (fun t ht=>hb t (by simp[ht])) h2;refine⟨?_,⟨fun t ht=>?_,?_,v2.s⟩⟩
  ·have e2':l.map PV.r8=(l.map aP.tm).map PV.term:=by injection e2
   show PV.sl 4 (PV.r8 s::l.map PV.r8)=PV.sl 4 (PV.term s.tm::(l.map aP.tm).map PV.term);rw[e1,e2']
  ·simp only[Kba,KaG]at ht;rcases ht with rfl|ht
   ·exact v1
   ·exact v2.t t ht
  ·cases l with
   |nil=>intro t ht;simp at ht
   |cons u l=>
    rw[dz,KaC,KaC,decide_eq_true_eq]at h;intro t ht;rw[Kba]at ht v2;rcases KaG.1 ht with rfl|ht
    ·exact h.2.1
    ·exact Ak h.2.1 (v2.s.1 t ht)
theorem yj{a:List Int}(h:ck a=true):a.getLast? ≠some 0:=by simp only[ck,KaC,decide_eq_true_eq]at h;exact h.2.1
variable {C : Ctx} {ρ : Nat -> Option Nat} {fr : Fr} {hp : HP} {w : World} {K R : Qh}
theorem JD(s:Nat)(hd:(aU hp (fr s)).aN=true):Wk fr hp (af fr s (aU hp (fr s))) (FW.bW hp (fr s).refs):=by
 rintro C tmps w ⟨ρ,hs⟩;have hf:=hs.freeze (fr s).refs;refine⟨ρ,hf.sz,hf.ext,hf.fT,hf.own,hf.inj,fun i=>?_⟩;unfold af;split
 ·rename_i hi;subst hi;exact Qn.oc (tH hs (hs.cN i) (fun β h=>h) hd)
 ·exact hf.cN i
def yL(W:List (Nat×Nat))(F:Fr)(I:Nat->Fr->HP->Prop)(n:Nat):Qh:=fun aG hp'=>∃J cz m,Wk aG hp' (aY W J F) cz/\m<n/\I m J cz
theorem agd{W:List (Nat×Nat)}{F:Fr}{I:Nat->Fr->HP->Prop}{n:Nat}:KM (yL W F I n) (yL W F I n):=by rintro f f' hp hf ⟨J,cz,m,h1,h2,h3⟩;exact⟨J,cz,m,hf.wk.trans h1,h2,h3⟩
theorem adg{sk:List It}{W:List (Nat×Nat)}{F:Fr}{I:Nat->Fr->HP->Prop}{n:Nat}(h:fG R sk):fG R (.el (yL W F I n)::sk):=⟨h.1,.el agd h.2⟩
theorem de{W:List (Nat×Nat)}{F J:Fr}{I:Nat->Fr->HP->Prop}{n:Nat}(m:Nat)(hl:m<n)(h:I m J hp):yL W F I n (aY W J F) hp:=⟨J,hp,m,Wk.refl _ _,hl,h⟩
theorem Wh{W:List (Nat×Nat)}{F J:Fr}{I:Nat->Fr->HP->Prop}{n:Nat}(s m:Nat)(hs:rh W s=true)(hd:(aU hp (J s)).aN=true)(hl:m<n)(h:I m (af J s (aU hp (J s))) (FW.bW hp (J s).refs)):yL W F I n (aY W J F) hp:=by
 have e:aY W J F s=J s:=by rw[Tn,if_pos hs]
 have hw:=JD (fr:=aY W J F) (hp:=hp) s (by rw[e];exact hd);rw[e,R4 hs]at hw;exact⟨_,_,m,hw,hl,h⟩
theorem QA{sk:List It}{x:SC}(bR:fG R sk)(W:List (Nat×Nat))(B:List Nat)(I:Nat->Fr->HP->Prop)(m0:Nat)(h0:I m0 fr hp)
  (h:∀m J hp,I m J hp->vc C R (.c x:: .el (yL W (bO B fr) I m)::sk) (aY W J (bO B fr)) hp):vc C R (.c (.loop x)::sk) fr hp:=by
 refine CE (fun m aG hp'=>∃J,aG=aY W J (bO B fr)/\I m J hp') m0 (C4 W B).wk ⟨fr,rfl,h0⟩ ?_;rintro m _ hp' ⟨J,rfl,hI⟩;refine ou bR.1 _ _ _ _ _ _ (Kae _) (.c x (.el ?_ bR.2)) (cB.refl _) (h m J hp' hI);rintro f f' cz hf ⟨J2,rX,m2,e2,hl,h2⟩;exact Mb hl (hf.wk.trans e2) ⟨J2,rfl,h2⟩
abbrev dg(a:List Nat)(i:Nat):Nat:=a.getD i 0
theorem yM{a:List Nat}(h:Qk a)(i:Nat):dg a i<65536:=by
 by_cases hi:i<a.length
 ·rw[dg,iM hi];exact fm h hi
 ·rw[dg,iO hi];omega
theorem Aw(a:List Nat)(i:Nat):val (a.drop i)=dg a i+65536*val (a.drop (i+1)):=by
 by_cases hi:i<a.length
 ·rw[ot hi,dg,iM hi]
 ·rw[dg,iO hi,Kao (by omega),Kao (by omega)];rfl
theorem Ll(a:List Nat)(i:Nat):val a=val (a.take i)+65536^i*val (a.drop i):=by
 by_cases hi:i<=a.length
 ·exact ss a i hi
 ·rw[Kac (by omega),Kao (by omega)];simp[val]
theorem Q64{a:List Nat}(h:Qk a)(i:Nat):val (a.take i)<65536^i:=by
 by_cases hi:i<=a.length
 ·exact wo h i hi
 ·rw[Kac (by omega)];exact Kby (rE h) (KaR (by omega) (by omega))
theorem Un(a:List Nat)(i:Nat):val (a.take (i+1))=val (a.take i)+65536^i*dg a i:=by
 by_cases hi:i<a.length
 ·rw[Cj hi,dg,iM hi]
 ·rw[dg,iO hi,Kac (by omega),Kac (by omega)];simp
theorem Vl{a b:List Nat}(ha:Qk a){i:Nat}(h:val (a.drop i)<val (b.drop i)):val a<val b:=by rw[Ll a i,Ll b i];have h1:=Q64 ha i;have:65536^i*(val (a.drop i)+1)<=65536^i*val (b.drop i):=KaE _ h;rw[Ka4]at this;omega
theorem Sr{l:List Nat}{j v:Nat}(h:j<l.length):val (l.set j v)+65536^j*l[j]=val l+65536^j*v:=by have e:l.set j v=l.take j++v::l.drop (j+1):=List.set_eq_take_append_cons_drop.trans (by rw[if_pos h]);have e2:=ss l j (by omega);rw[ot h]at e2;rw[e,oW,KaF,Kcb (by omega),val,e2,Ka4,Ka4];omega
theorem Hd(l:List Nat)(x:Nat):val (l++[x])=val l+65536^l.length*x:=by rw[oW];simp[val]
theorem adh{l:List Nat}{j:Nat}(h:val (l.drop j)=0):dg l j=0:=by have:=Aw l j;omega
theorem al9{bt:Bool}{n d:Nat}:cu .rem bt (.int .u64 (n:Int)) (.int .u64 65536) d fr hp K=K (af fr d (.int .u64 ((n%65536:Nat):Int))) hp:=by rw[show(65536:Int)=((65536:Nat):Int)from rfl,rD (by omega)]
theorem ama{bt:Bool}{n d:Nat}(h:n<18446744073709551616):cu .quo bt (.int .u64 (n:Int)) (.int .u64 65536) d fr hp K=K (af fr d (.int .u64 ((n/65536:Nat):Int))) hp:=by rw[show(65536:Int)=((65536:Nat):Int)from rfl,Dg (by omega) h]
theorem air{bt:Bool}{n d:Nat}:cu .rem bt (.int .i64 (n:Int)) (.int .i64 65536) d fr hp K=K (af fr d (.int .i64 ((n%65536:Nat):Int))) hp:=by rw[show(65536:Int)=((65536:Nat):Int)from rfl,rD (by omega)]
theorem ais{bt:Bool}{n d:Nat}(h:n<9223372036854775808):cu .quo bt (.int .i64 (n:Int)) (.int .i64 65536) d fr hp K=K (af fr d (.int .i64 ((n/65536:Nat):Int))) hp:=by rw[show(65536:Int)=((65536:Nat):Int)from rfl,Dh (by omega) h]
theorem amb(n:Nat):(n:Int)*65536=((n*65536:Nat):Int):=by omega
end Go.FW
namespace Go.FW
theorem Pb{P x y V ai c q r M S T:Nat}(h1:S+P*x=M+P*r)(h2:M+P*(c+ai*(y+65536*V))=T)(h3:65536*q+r=x+ai*y+c):S+P*65536*(q+ai*V)=T:=by
 have e:P*(65536*q+r)=P*(x+ai*y+c):=by rw[h3]
 have a1:P*(c+ai*(y+65536*V))=P*c+P*(ai*y)+65536*(P*(ai*V)):=by rw[Ka4 ai,Ka4,Ka4,Kbl ai 65536,Kbl P 65536];omega
 have a2:P*65536*(q+ai*V)=65536*(P*q)+65536*(P*(ai*V)):=by rw[KaP P,Kbm,Ka4,Ka4]
 have a3:P*(65536*q+r)=65536*(P*q)+P*r:=by rw[Ka4,Kbl]
 have a4:P*(x+ai*y+c)=P*x+P*(ai*y)+P*c:=by rw[Ka4,Ka4]
 omega
theorem Pc{l:List Nat}{i j v:Nat}(h:i≠j):dg (l.set i v) j=dg l j:=by simp[dg,Kad,Kc3 h]
open Go
variable {C : Ctx} {ρ : Nat -> Option Nat} {fr : Fr} {hp : HP} {w : World} {K R : Qh}
theorem Wi{x V d q:Nat}(hd:0<d)(h:q=V/d):(V%d*65536+x)/d+65536*q=(x+65536*V)/d/\(V%d*65536+x)%d=(x+65536*V)%d:=by
 subst h;have e:x+65536*V=(V%d*65536+x)+d*(65536*(V/d)):=by
  have:=Kbq V d
  calc x+65536*V=x+65536*(d*(V/d)+V%d):=by rw[this]
   _=_:=by rw[Ka4,Kbl];omega
 rw[e,KcF _ _ hd,KcE];exact⟨rfl,rfl⟩
theorem ait(i e:Nat)(hi:fr i= .au):Wk fr hp (af fr i (.sl e [])) hp:=by
 rintro C tmps w ⟨ρ,hs⟩;refine⟨ρ,hs.sz,hs.ext,hs.fT,hs.own,hs.inj,fun j=>?_⟩;unfold af;split
 ·rename_i hj;subst hj;have:=hs.cN j;rw[hi]at this;rw[Qn.z7 this];exact Qu.oS _ _ _ (Kbz _)
 ·exact hs.cN j
theorem yz{sk:List It}{x:SC}(i e:Nat)(hi:fr i= .au)(h:vc C R (.c (.loop x)::sk) (af fr i (.sl e [])) hp):vc C R (.c (.loop x)::sk) fr hp:=by rw[Aq]at h⊢;obtain⟨I,μ,⟨bU,aA,h1,lH⟩,h2⟩:=h;exact⟨I,μ,⟨bU,aA,(ait i e hi).trans h1,lH⟩,h2⟩
end Go.FW
namespace Go.FW
open Go Go.ChangeShapes Go.WideShapes
section
variable {H : Type} {enc : TypeId × Value -> H} {P : Program} {w : World} {base : Nat} {spare : Nat -> Bool} {held : Bool}
structure Jm(fq:DataW H->Nat):Prop where
 len:∀(elems spare:List (DataW H)),elems.length<=fq (.slice elems spare)
 sl:∀(elems spare:List (DataW H))(d:DataW H),d∈elems->fq d<=fq (.slice elems spare)
 ag:∀(parts:List (DataW H))(d:DataW H),d∈parts->fq d<=fq (.agg parts)
def ox(enc:TypeId×Value->H)(P:Program)(fq:DataW H->Nat)(N:Nat)(t:TypeId)(Q:List PV->Prop):Prop:=
 ∀(w:World)(base:Nat)(spare:Nat->Bool)(held:Bool)(fuel:Nat)(cs:List Value)(x:DataW H×List MemPlace),DataW.trod enc P w base spare held fuel t cs=some x->fq x.1<=N->
  ∃ps,Q ps/\ps.length=cs.length/\∀(i:Nat)(p:PV),ps[i]? =some p->Qu w eP p (cs.getD i undef)
variable {fq : DataW H -> Nat} {N : Nat}
theorem He{w:World}{p:PV}{v:Value}(h:Qu w eP p v):∀(i:Nat)(q:PV),[p][i]? =some q->Qu w eP q ([v].getD i undef):=by
 intro i q hq
 match i,hq with
 |0,hq=>simp at hq;subst hq;exact h
 |i+1,hq=>simp at hq
theorem ox.mono{t:TypeId}{Q Q':List PV->Prop}(h:ox enc P fq N t Q)(hQ:∀ps,Q ps->Q' ps):ox enc P fq N t Q':=
 fun w base spare held fuel cs x hx hn=>let⟨ps,h1,h2,h3⟩:=h w base spare held fuel cs x hx hn;⟨ps,hQ ps h1,h2,h3⟩
theorem Pd{t:TypeId}{k:IntKind}(ht:P.underlying t=some (.int k)):ox enc P fq N t fun ps=>∃n,ps=[.int k n]/\(Lit.int k n).wf=true:=by intro w base spare held fuel cs x hx _;obtain⟨n,rfl,rfl,hw⟩:=DataW.trod_int ht hx;exact⟨_,⟨n,rfl,hw⟩,rfl,He (.int k n)⟩
theorem adi{t:TypeId}(ht:P.underlying t=some .bool):ox enc P fq N t fun ps=>∃b,ps=[.bool b]:=by intro w base spare held fuel cs x hx _;obtain⟨b,rfl,rfl⟩:=DataW.trod_bool ht hx;exact⟨_,⟨b,rfl⟩,rfl,He (.bool b)⟩
theorem aeq{t:TypeId}(ht:P.underlying t=some (.int .u16)):ox enc P fq N t fun ps=>∃n:Nat,ps=[.int .u16 n]/\n<65536:=by refine(Pd ht).mono ?_;rintro ps ⟨n,rfl,hw⟩;simp[Lit.wf,IntKind.min,IntKind.max,IntKind.signed,IntKind.bits]at hw;obtain⟨m,rfl⟩:=KbV hw.1;exact⟨m,rfl,by omega⟩
theorem aer{t:TypeId}(ht:P.underlying t=some (.int .i64)):ox enc P fq N t fun ps=>∃n:Int,ps=[.int .i64 n]/\ -9223372036854775808<=n/\n<=9223372036854775807:=by refine(Pd ht).mono ?_;rintro ps ⟨n,rfl,hw⟩;simp[Lit.wf,IntKind.min,IntKind.max,IntKind.signed,IntKind.bits]at hw;exact⟨n,rfl,by omega⟩
theorem KS{α:Type}[Inhabited α]{f:α->PV}{G:α->Prop}{t e:TypeId}(hB:Jm fq)(ht:P.underlying t=some (.slice e))(jZ:0<P.cellsOf e)
  (he:ox enc P fq N e fun ps=>∃a:α,ps=(f a).cells/\G a):ox enc P fq N t fun ps=>∃l:List α,ps=[.sl (P.cellsOf e) (l.map f)]/\l.length<=N/\∀a∈l,G a:=by
 intro w base spare held fuel cs x hx hn;rcases Deep.open_slice ht hx with⟨rfl,rfl⟩|⟨a,len,cap,m,n,D,Pl,rfl,_,hl,hm,xI,rfl,cU⟩
 ·exact⟨_,⟨[],rfl,Kbz _,fun _ h=>by cases h⟩,rfl,He (.oS _ none 0 (Kbz _))⟩
 have rW:len<=m:=by rw[xI];split<;>omega
 obtain⟨A,hA⟩:=Deep.choose_lt (α:=α×List Value) (n:=len) (p:=fun i y=>w.cells? base (a.add (i*P.cellsOf e)) (P.cellsOf e)=some y.2/\G y.1/\(f y.1).cells.length=y.2.length/\∀(j:Nat)(p:PV),(f y.1).cells[j]? =some p->Qu w eP p (y.2.getD j undef)) (fun i hi=>by obtain⟨cs',h1,h2⟩:=cU i (by omega);have hd:D i∈(List.range len).map D:=KcN (Kbo.2 hi);obtain⟨_,⟨b,rfl,hG⟩,h3,h4⟩:=he w base spare held n cs' _ h2 (Kap (hB.sl _ _ _ hd) hn);exact⟨(b,cs'),h1,hG,h3,h4⟩);have hlen:=hB.len ((List.range len).map D) ((List.range (m-len)).map fun j=>D (len+j));simp only[Kal,List.length_range]at hlen hn;refine⟨_,⟨(List.range len).map fun i=>(A i).1,rfl,by simp;omega,fun b hb=>?_⟩,rfl,He ?_⟩
 ·obtain⟨i,hi,rfl⟩:=Kaq.1 hb;exact(hA i (Kbo.1 hi)).2.1
 ·rcases Nat.eq_zero_or_pos len with rfl|hp
  ·exact .oS _ _ _ hm
  have sp:a.spot=none:=by obtain⟨_,h2,h3⟩:=World.cells?_some (hA 0 hp).1;have h4:=h3 0 jZ;rw[Kag (by omega)]at h4;simpa[Addr.add]using World.cell?_spot h4
  obtain⟨b,off,spot⟩:=a;have sp':spot=none:=sp;subst sp';have qQ:∀i,i<len->∀j,j<P.cellsOf e->w.cell? ⟨b,off+i*P.cellsOf e+j,none⟩=some ((A i).2.getD j undef):=fun i hi j hj=>by obtain⟨_,h2,h3⟩:=World.cells?_some (hA i hi).1;have h4:=h3 j hj;rw[Kag (by omega),add_plain,add_plain]at h4;rw[h4];simp[Kad,Kag (show j<(A i).2.length by omega)]
  have e1:((List.range len).map fun i=>(A i).1).map f=(List.range len).map fun i=>f (A i).1:=by simp
  have e2:((List.range len).map fun i=>f (A i).1).length=len:=by simp
  have get:∀(i:Nat)(x:PV),((List.range len).map fun i=>f (A i).1)[i]? =some x->i<len/\x=f (A i).1:=fun i x hx=>by obtain⟨hi,h⟩:=Kaf.1 hx;rw[e2]at hi;exact⟨hi,by simpa using h.symm⟩
  rw[e1];have:=Qu.sl (w:=w) (X:=eP) (P.cellsOf e) ((List.range len).map fun i=>f (A i).1) b off cap (fun i j=>(A i).2.getD j undef) (fun h=>h) (acM (qQ 0 hp 0 jZ)) (by rw[e2];exact hl) hm
   (fun i x hx=>by obtain⟨hi,rfl⟩:=get i x hx;rw[(hA i hi).2.2.1];exact(World.cells?_some (hA i hi).1).2.1)
   (fun i hi j hj=>qQ i (by rwa[e2]at hi) j hj)
   (fun i x hx j y hy=>by obtain⟨hi,rfl⟩:=get i x hx;exact(hA i hi).2.2.2 j y hy)
  rwa[e2]at this
theorem KA{t:TypeId}{f0 f1:Field}{Q0 Q1:List PV->Prop}(hB:Jm fq)(ht:P.underlying t=some (.struct #[f0,f1]))(h0:f0.offset=0)(h1:f1.offset=P.cellsOf f0.type)(hc:P.cellsOf t=P.cellsOf f0.type+P.cellsOf f1.type)
  (r0:ox enc P fq N f0.type Q0) (r1:ox enc P fq N f1.type Q1):ox enc P fq N t fun ps=>∃p q,ps=p++q/\Q0 p/\Q1 q:=by
 intro w base spare held fuel cs x hx hn;obtain⟨y0,y1,n,rfl,hl,g0,g1⟩:=trod_struct2 ht hx;obtain⟨p,hp,cz,rX⟩:=r0 _ _ _ _ _ _ _ g0 (Kap (hB.ag _ _ (by simp)) hn);obtain⟨q,hq,xL,X5⟩:=r1 _ _ _ _ _ _ _ g1 (Kap (hB.ag _ _ (by simp)) hn);rw[h0]at cz rX;rw[h1]at xL X5;simp only[Ka0,KaF,Kbc]at cz xL;have lp:p.length=P.cellsOf f0.type:=by omega
 have lq:q.length=P.cellsOf f1.type:=by omega
 refine⟨_,⟨p,q,rfl,hp,hq⟩,by rw[Kay];omega,fun i v hv=>?_⟩;by_cases hi:i<p.length
 ·rw[KbD hi]at hv;have:=rX i v hv;rw[Ka0,Kad,KcR,if_pos (by omega)]at this;rw[Kad];exact this
 ·rw[KbX (by omega)]at hv;have:=X5 _ v hv;have dZ:i-p.length<q.length:=(Kaf.1 hv).1;rw[Kad,KcR,if_pos (by omega),Kbe,show P.cellsOf f0.type+(i-p.length)=i by omega]at this;rw[Kad];exact this
theorem aiu{r:Reach}{b0:Nat}{t:TypeId}{v:Value}{d:DataW H}{ps:List MemPlace}{Q:List PV->Prop}(hr:ox enc P fq N t Q)(hd:DataW.Trod enc P w base spare held t v d ps)(hn:fq d<=N)
  (hv:v.cells= #[v]):∃p,Q [p]/\bT w eP p v:=by
 obtain⟨fuel,hf⟩:=hd;obtain⟨qs,h1,h2,h3⟩:=hr _ _ _ _ _ _ _ hf hn;rw[hv]at h2 h3
 match qs,h2 with
 | [p],_=>exact⟨p,h1,bT.tB (by simpa using h3 0 p rfl)⟩
theorem aes{r:Reach}{b0:Nat}{t e:TypeId}{v:Value}{d:DataW H}{ps:List MemPlace}{Q:List PV->Prop}(ht:P.underlying t=some (.slice e))(gH:Value.okWide P w r b0 t v)(hr:ox enc P fq N t Q)(hd:DataW.Trod enc P w base spare held t v d ps)(hn:fq d<=N):
  ∃p,Q [p]/\bT w eP p v:=by
 obtain⟨a,len,cap,rfl⟩:=okWide_slice ht gH;exact aiu (r:=r) (b0:=b0) hr hd hn rfl
theorem Ext.sameAt{W W':World}(h:Ext eP W W'){p:MemPlace}(hp:p.block<W.heap.size):W.sameAt W' p:=by
 cases p with
 |cell b off=>exact yg (h.block b hp (fun h=>h))
 |map b=>exact h.block b hp (fun h=>h)
theorem Ext.keptBut{W W':World}(h:Ext eP W W')(may:MemPlace->Prop):W.keptBut W' may:=by
 refine⟨h.os,h.output,fun i hi=>?_⟩;rw[h.block i hi (fun h=>h)];cases hh:W.heap[i]? with
 |none=>rfl
 |some o=>cases o with
  |cells c t fr=>exact⟨rfl,rfl,rfl,fun _ _=>rfl⟩
  |map es clock=>exact Or.inr ⟨rfl,rfl⟩
  |_=>rfl
theorem Ext.frozen{W W':World}(h:Ext eP W W'){a:Addr}(ha:a.block<W.heap.size):W'.frozen? a=W.frozen? a:=by unfold World.frozen?;rw[h.block _ ha (fun h=>h)]
theorem Pe(hl:laidOutB P=true)(hm:mapsRowed P=true)(dM:∀ {t e:TypeId},t<P.types.size->P.underlying t=some (.slice e)->0<P.cellsOf e){W W':World}(hx:Ext eP W W')(sp:Nat->Bool):
  ∀ {ts:List TypeId} {vs:List Value} {ds:List (DataW H)} {ps:List MemPlace},(∀t∈ts,t<P.types.size)->DataW.TrodAll enc P W 0 (fun _=>true) true ts vs ds ps->(∀p∈ps,sp p.block=true)->DataW.TrodAll enc P W' 0 sp true ts vs ds ps
 | [],_,_,_,_,h,_=>by obtain⟨rfl,rfl,rfl⟩:=trodAll_nil h;rfl
 |t::ts,_,_,_,nZ,h,hs=>by obtain⟨v,vs,d,ds,p,q,rfl,rfl,rfl,⟨fuel,h1⟩,h2⟩:=trodAll_cons h;refine⟨p,q,⟨fuel,?_⟩,Pe hl hm dM hx sp (fun t ht=>nZ t (by simp[ht])) h2 (fun x bk=>hs x (by simp[bk])),rfl⟩;exact DataW.trod_stays (kids_rows hl hm) dM (fun h=>by cases h) (nZ t (by simp)) h1 (fun x bk=>hx.sameAt (DataW.trod_lt _ _ _ _ h1 x bk)) (fun x bk=>hs x (by simp[bk]))
theorem Q65{f:FuncId}{fn:Func}{s:ChangeSpec}{ap fresh handsOn Bj:Bool}{W:World}{args:Array Value}{ds gs:List (DataW H)}{before:List MemPlace}{bx:List PV}{tb:TypeId}
  (hW:DataW.Whole enc P fn.params.toList s.vars ap W args.toList ds gs before) (Fe:s.vars=[]) (gP:fn.resultTypes= #[tb]) (IV:P.underlying tb=some .bool)
  (hl:laidOutB P=true) (hm:mapsRowed P=true) (dM:∀ {t e:TypeId},t<P.types.size->P.underlying t=some (.slice e)->0<P.cellsOf e) (IP:∀t∈fn.params.toList,t<P.types.size)
  (ED:s.fn H (ds++gs)={ results:=[.lit (.bool true)],args:=ds })
  (hF:Qd P f bx (· = .bool true)) (NP:args.size=bx.length) (iF:∀(i:Nat)(x:PV),bx[i]? =some x->bT W eP x (args.getD i undef)):
  Calls P f args W fun e W'=>∃v,e= .returned v/\s.post enc P fn ap fresh handsOn Bj W args v W':=by
 refine(hF.2 W eP args (fun _ h=>h.elim) NP iF).mono ?_;rintro e W' ⟨v,r,rfl,hx,hr,rfl⟩;have hv:v= .bool true:=by cases hr;rfl
 subst hv;refine⟨_,rfl,?_⟩;have Er:=hW;obtain⟨p,q,hA,hV,rfl,hz,hn⟩:=hW;rw[Fe]at hV;obtain⟨rfl,rfl⟩:=trodVars_none hV;simp only[Kam]at Er hz hn;have aw:∀x∈p,x.block<W.heap.size:=fun x bk=>by simpa using Er.lt x bk
 have Ec:∀sp:Nat->Bool,(∀x∈p,sp x.block=true)->DataW.TrodAll enc P W' 0 sp true fn.params.toList args.toList ds p:=fun sp hs=>Pe hl hm dM hx sp IP hA hs;have hR:∀(b:Nat)(sp:Nat->Bool)(hd:Bool),DataW.TrodAll enc P W' b sp hd fn.resultTypes.toList ((Value.bool true).resultList fn.resultTypes.size) [.lit (.bool true)] []:=fun b sp hd=>by rw[gP];exact trodAll_mk1 ⟨1,by simp[DataW.trod,Value.cells,IV]⟩
 have hold:∀x∈p,(fun b=>decide (b<W.heap.size)) x.block=true:=fun x bk=>by simpa using aw x bk
 refine⟨ds,[],p,[],p,[],Er,?_,?_,?_,hx.keptBut _,fun _=>⟨?_,?_⟩⟩
 ·rw[ED];exact hR _ _ _
 ·rw[ED];simpa using Ec _ hold
 ·rw[ED,Fe];rfl
 ·exact RowKit.ok_one gP rfl (RowKit.okWide_bool_mk IV _)
 ·refine⟨[.lit (.bool true)]++ds,[],p,⟨[]++p,[],trodAll_append (Ec _ (fun _ _=>rfl)) (hR _ _ _),?_,by simp,?_,?_⟩,?_⟩
  ·rw[Fe];rfl
  ·intro b off hp;rw[hx.frozen (aw _ hp)];exact hz b off hp
  ·exact hn
  ·intro x bk _;exact bk
end
end Go.FW
namespace Go.FW
open Go
attribute [go_sem ↓] vcs auV
attribute [go_sem] auW auX auY auZ amu agz agA amv amw amx amy agB agC aof aog ac7 agD aih apa apb apc apd aeM ac9 List.drop_succ_cons List.drop_zero List.take_succ_cons List.take_zero List.headD_cons List.cons_append List.nil_append aeL asr asq agE aii aij and_true List.length_cons List.length_nil amk aml amm B0 ah1 adW ahM agv agw agx agy ahN ame amf age ahP ahQ aoH amg amh ami Tc amj alG bs1 bs2 alI ahJ ahK ahL alJ Nat.add_zero UG adX OS Int.toNat_natCast Nat.zero_add Option.map_some Option.map_none aoK amr aoe true_and Tn agn aeG Q44 fV LP G7 aid Bool.and_true Bool.true_and Bool.and_false Bool.false_and decide_true decide_false List.contains_cons List.contains_nil Bool.or_false Bool.false_or Bool.or_true Bool.true_or List.any_cons List.any_nil Bool.false_eq_true cO.dst yr af7 uS G5 ahY Bool.not_true Bool.not_false List.length_map List.map_cons List.map_nil aod Option.some.injEq lE List.getElem?_cons_zero List.getElem?_cons_succ Option.getD_some
attribute [go_sem] al9 ama air ais amb agb aoj Q9u amA Sp
theorem Dz0{p:Prop}(h:p:=by first|omega|rfl|(simp+decide only[go_sem]<;>rfl)|fail):p:=h
theorem Dz1{p A0:Prop}(x0:A0)(h:A0->p:=by intro x0;first|omega|rfl|(simp+decide only[go_sem,x0]<;>rfl)|fail):p:=h x0
theorem Dz2{p A0 A1:Prop}(x0:A0)(x1:A1)(h:A0->A1->p:=by intro x0 x1;first|omega|rfl|(simp+decide only[go_sem,x0,x1]<;>rfl)|fail):p:=h x0 x1
theorem Dz3{p A0 A1 A2:Prop}(x0:A0)(x1:A1)(x2:A2)(h:A0->A1->A2->p:=by intro x0 x1 x2;first|omega|rfl|(simp+decide only[go_sem,x0,x1,x2]<;>rfl)|fail):p:=h x0 x1 x2
theorem Dz4{p A0 A1 A2 A3:Prop}(x0:A0)(x1:A1)(x2:A2)(x3:A3)(h:A0->A1->A2->A3->p:=by intro x0 x1 x2 x3;first|omega|rfl|(simp+decide only[go_sem,x0,x1,x2,x3]<;>rfl)|fail):p:=h x0 x1 x2 x3
theorem Dz5{p A0 A1 A2 A3 A4:Prop}(x0:A0)(x1:A1)(x2:A2)(x3:A3)(x4:A4)(h:A0->A1->A2->A3->A4->p:=by intro x0 x1 x2 x3 x4;first|omega|rfl|(simp+decide only[go_sem,x0,x1,x2,x3,x4]<;>rfl)|fail):p:=h x0 x1 x2 x3 x4
theorem Dz6{p A0 A1 A2 A3 A4 A5:Prop}(x0:A0)(x1:A1)(x2:A2)(x3:A3)(x4:A4)(x5:A5)(h:A0->A1->A2->A3->A4->A5->p:=by intro x0 x1 x2 x3 x4 x5;first|omega|rfl|(simp+decide only[go_sem,x0,x1,x2,x3,x4,x5]<;>rfl)|fail):p:=h x0 x1 x2 x3 x4 x5
theorem Dz7{p A0 A1 A2 A3 A4 A5 A6:Prop}(x0:A0)(x1:A1)(x2:A2)(x3:A3)(x4:A4)(x5:A5)(x6:A6)(h:A0->A1->A2->A3->A4->A5->A6->p:=by intro x0 x1 x2 x3 x4 x5 x6;first|omega|rfl|(simp+decide only[go_sem,x0,x1,x2,x3,x4,x5,x6]<;>rfl)|fail):p:=h x0 x1 x2 x3 x4 x5 x6
theorem Dz8{p A0 A1 A2 A3 A4 A5 A6 A7:Prop}(x0:A0)(x1:A1)(x2:A2)(x3:A3)(x4:A4)(x5:A5)(x6:A6)(x7:A7)(h:A0->A1->A2->A3->A4->A5->A6->A7->p:=by intro x0 x1 x2 x3 x4 x5 x6 x7;first|omega|rfl|(simp+decide only[go_sem,x0,x1,x2,x3,x4,x5,x6,x7]<;>rfl)|fail):p:=h x0 x1 x2 x3 x4 x5 x6 x7
theorem Dz9{p A0 A1 A2 A3 A4 A5 A6 A7 A8:Prop}(x0:A0)(x1:A1)(x2:A2)(x3:A3)(x4:A4)(x5:A5)(x6:A6)(x7:A7)(x8:A8)(h:A0->A1->A2->A3->A4->A5->A6->A7->A8->p:=by intro x0 x1 x2 x3 x4 x5 x6 x7 x8;first|omega|rfl|(simp+decide only[go_sem,x0,x1,x2,x3,x4,x5,x6,x7,x8]<;>rfl)|fail):p:=h x0 x1 x2 x3 x4 x5 x6 x7 x8
theorem Dz10{p A0 A1 A2 A3 A4 A5 A6 A7 A8 A9:Prop}(x0:A0)(x1:A1)(x2:A2)(x3:A3)(x4:A4)(x5:A5)(x6:A6)(x7:A7)(x8:A8)(x9:A9)(h:A0->A1->A2->A3->A4->A5->A6->A7->A8->A9->p:=by intro x0 x1 x2 x3 x4 x5 x6 x7 x8 x9;first|omega|rfl|(simp+decide only[go_sem,x0,x1,x2,x3,x4,x5,x6,x7,x8,x9]<;>rfl)|fail):p:=h x0 x1 x2 x3 x4 x5 x6 x7 x8 x9
theorem Dz11{p A0 A1 A2 A3 A4 A5 A6 A7 A8 A9 dO:Prop}(x0:A0)(x1:A1)(x2:A2)(x3:A3)(x4:A4)(x5:A5)(x6:A6)(x7:A7)(x8:A8)(x9:A9)(cl:dO)(h:A0->A1->A2->A3->A4->A5->A6->A7->A8->A9->dO->p:=by intro x0 x1 x2 x3 x4 x5 x6 x7 x8 x9 cl;first|omega|rfl|(simp+decide only[go_sem,x0,x1,x2,x3,x4,x5,x6,x7,x8,x9,cl]<;>rfl)|fail):p:=h x0 x1 x2 x3 x4 x5 x6 x7 x8 x9 cl
theorem Dz12{p A0 A1 A2 A3 A4 A5 A6 A7 A8 A9 dO gh:Prop}(x0:A0)(x1:A1)(x2:A2)(x3:A3)(x4:A4)(x5:A5)(x6:A6)(x7:A7)(x8:A8)(x9:A9)(cl:dO)(dG:gh)(h:A0->A1->A2->A3->A4->A5->A6->A7->A8->A9->dO->gh->p:=by intro x0 x1 x2 x3 x4 x5 x6 x7 x8 x9 cl dG;first|omega|rfl|(simp+decide only[go_sem,x0,x1,x2,x3,x4,x5,x6,x7,x8,x9,cl,dG]<;>rfl)|fail):p:=h x0 x1 x2 x3 x4 x5 x6 x7 x8 x9 cl dG
theorem Dz13{p A0 A1 A2 A3 A4 A5 A6 A7 A8 A9 dO gh kI:Prop}(x0:A0)(x1:A1)(x2:A2)(x3:A3)(x4:A4)(x5:A5)(x6:A6)(x7:A7)(x8:A8)(x9:A9)(cl:dO)(dG:gh)(gg:kI)(h:A0->A1->A2->A3->A4->A5->A6->A7->A8->A9->dO->gh->kI->p:=by intro x0 x1 x2 x3 x4 x5 x6 x7 x8 x9 cl dG gg;first|omega|rfl|(simp+decide only[go_sem,x0,x1,x2,x3,x4,x5,x6,x7,x8,x9,cl,dG,gg]<;>rfl)|fail):p:=h x0 x1 x2 x3 x4 x5 x6 x7 x8 x9 cl dG gg
theorem Dz14{p A0 A1 A2 A3 A4 A5 A6 A7 A8 A9 dO gh kI wh:Prop}(x0:A0)(x1:A1)(x2:A2)(x3:A3)(x4:A4)(x5:A5)(x6:A6)(x7:A7)(x8:A8)(x9:A9)(cl:dO)(dG:gh)(gg:kI)(se:wh)(h:A0->A1->A2->A3->A4->A5->A6->A7->A8->A9->dO->gh->kI->wh->p:=by intro x0 x1 x2 x3 x4 x5 x6 x7 x8 x9 cl dG gg se;first|omega|rfl|(simp+decide only[go_sem,x0,x1,x2,x3,x4,x5,x6,x7,x8,x9,cl,dG,gg,se]<;>rfl)|fail):p:=h x0 x1 x2 x3 x4 x5 x6 x7 x8 x9 cl dG gg se
theorem Sz0{p q:Prop}(h:q)(e:p=q:=by conv=>lhs;simp+decide (disch:=try exact Dz0) only[go_sem]):p:=e▸h
theorem Tz0{p:Prop}(h:p:=by simp+decide (disch:=try exact Dz0) only[go_sem]):p:=h
theorem cE{p:Prop}(h:p:=by simp+decide (disch:=try exact Dz0) only[go_sem]<;>rfl):p:=h
theorem Sz1{p q A0:Prop}(x0:A0)(h:q)(e:A0->p=q:=by intro x0;conv=>lhs;simp+decide (disch:=try exact Dz1 @x0) only[go_sem,x0]):p:=(e x0)▸h
theorem Tz1{p A0:Prop}(x0:A0)(h:A0->p:=by intro x0;simp+decide (disch:=try exact Dz1 @x0) only[go_sem,x0]):p:=h x0
theorem Cd{p A0:Prop}(x0:A0)(h:A0->p:=by intro x0;simp+decide (disch:=try exact Dz1 @x0) only[go_sem,x0]<;>rfl):p:=h x0
theorem Sz2{p q A0 A1:Prop}(x0:A0)(x1:A1)(h:q)(e:A0->A1->p=q:=by intro x0 x1;conv=>lhs;simp+decide (disch:=try exact Dz2 @x0 @x1) only[go_sem,x0,x1]):p:=(e x0 x1)▸h
theorem Tz2{p A0 A1:Prop}(x0:A0)(x1:A1)(h:A0->A1->p:=by intro x0 x1;simp+decide (disch:=try exact Dz2 @x0 @x1) only[go_sem,x0,x1]):p:=h x0 x1
theorem Sz3{p q A0 A1 A2:Prop}(x0:A0)(x1:A1)(x2:A2)(h:q)(e:A0->A1->A2->p=q:=by intro x0 x1 x2;conv=>lhs;simp+decide (disch:=try exact Dz3 @x0 @x1 @x2) only[go_sem,x0,x1,x2]):p:=(e x0 x1 x2)▸h
theorem Tz3{p A0 A1 A2:Prop}(x0:A0)(x1:A1)(x2:A2)(h:A0->A1->A2->p:=by intro x0 x1 x2;simp+decide (disch:=try exact Dz3 @x0 @x1 @x2) only[go_sem,x0,x1,x2]):p:=h x0 x1 x2
theorem Sz4{p q A0 A1 A2 A3:Prop}(x0:A0)(x1:A1)(x2:A2)(x3:A3)(h:q)(e:A0->A1->A2->A3->p=q:=by intro x0 x1 x2 x3;conv=>lhs;simp+decide (disch:=try exact Dz4 @x0 @x1 @x2 @x3) only[go_sem,x0,x1,x2,x3]):p:=(e x0 x1 x2 x3)▸h
theorem Tz4{p A0 A1 A2 A3:Prop}(x0:A0)(x1:A1)(x2:A2)(x3:A3)(h:A0->A1->A2->A3->p:=by intro x0 x1 x2 x3;simp+decide (disch:=try exact Dz4 @x0 @x1 @x2 @x3) only[go_sem,x0,x1,x2,x3]):p:=h x0 x1 x2 x3
theorem Sz5{p q A0 A1 A2 A3 A4:Prop}(x0:A0)(x1:A1)(x2:A2)(x3:A3)(x4:A4)(h:q)(e:A0->A1->A2->A3->A4->p=q:=by intro x0 x1 x2 x3 x4;conv=>lhs;simp+decide (disch:=try exact Dz5 @x0 @x1 @x2 @x3 @x4) only[go_sem,x0,x1,x2,x3,x4]):p:=(e x0 x1 x2 x3 x4)▸h
theorem Tz5{p A0 A1 A2 A3 A4:Prop}(x0:A0)(x1:A1)(x2:A2)(x3:A3)(x4:A4)(h:A0->A1->A2->A3->A4->p:=by intro x0 x1 x2 x3 x4;simp+decide (disch:=try exact Dz5 @x0 @x1 @x2 @x3 @x4) only[go_sem,x0,x1,x2,x3,x4]):p:=h x0 x1 x2 x3 x4
theorem Sz6{p q A0 A1 A2 A3 A4 A5:Prop}(x0:A0)(x1:A1)(x2:A2)(x3:A3)(x4:A4)(x5:A5)(h:q)(e:A0->A1->A2->A3->A4->A5->p=q:=by intro x0 x1 x2 x3 x4 x5;conv=>lhs;simp+decide (disch:=try exact Dz6 @x0 @x1 @x2 @x3 @x4 @x5) only[go_sem,x0,x1,x2,x3,x4,x5]):p:=(e x0 x1 x2 x3 x4 x5)▸h
theorem Tz6{p A0 A1 A2 A3 A4 A5:Prop}(x0:A0)(x1:A1)(x2:A2)(x3:A3)(x4:A4)(x5:A5)(h:A0->A1->A2->A3->A4->A5->p:=by intro x0 x1 x2 x3 x4 x5;simp+decide (disch:=try exact Dz6 @x0 @x1 @x2 @x3 @x4 @x5) only[go_sem,x0,x1,x2,x3,x4,x5]):p:=h x0 x1 x2 x3 x4 x5
theorem Sz7{p q A0 A1 A2 A3 A4 A5 A6:Prop}(x0:A0)(x1:A1)(x2:A2)(x3:A3)(x4:A4)(x5:A5)(x6:A6)(h:q)(e:A0->A1->A2->A3->A4->A5->A6->p=q:=by intro x0 x1 x2 x3 x4 x5 x6;conv=>lhs;simp+decide (disch:=try exact Dz7 @x0 @x1 @x2 @x3 @x4 @x5 @x6) only[go_sem,x0,x1,x2,x3,x4,x5,x6]):p:=(e x0 x1 x2 x3 x4 x5 x6)▸h
theorem Sz8{p q A0 A1 A2 A3 A4 A5 A6 A7:Prop}(x0:A0)(x1:A1)(x2:A2)(x3:A3)(x4:A4)(x5:A5)(x6:A6)(x7:A7)(h:q)(e:A0->A1->A2->A3->A4->A5->A6->A7->p=q:=by intro x0 x1 x2 x3 x4 x5 x6 x7;conv=>lhs;simp+decide (disch:=try exact Dz8 @x0 @x1 @x2 @x3 @x4 @x5 @x6 @x7) only[go_sem,x0,x1,x2,x3,x4,x5,x6,x7]):p:=(e x0 x1 x2 x3 x4 x5 x6 x7)▸h
theorem Sz9{p q A0 A1 A2 A3 A4 A5 A6 A7 A8:Prop}(x0:A0)(x1:A1)(x2:A2)(x3:A3)(x4:A4)(x5:A5)(x6:A6)(x7:A7)(x8:A8)(h:q)(e:A0->A1->A2->A3->A4->A5->A6->A7->A8->p=q:=by intro x0 x1 x2 x3 x4 x5 x6 x7 x8;conv=>lhs;simp+decide (disch:=try exact Dz9 @x0 @x1 @x2 @x3 @x4 @x5 @x6 @x7 @x8) only[go_sem,x0,x1,x2,x3,x4,x5,x6,x7,x8]):p:=(e x0 x1 x2 x3 x4 x5 x6 x7 x8)▸h
theorem yP{p q A0 A1 A2 A3 A4 A5 A6 A7 A8 A9:Prop}(x0:A0)(x1:A1)(x2:A2)(x3:A3)(x4:A4)(x5:A5)(x6:A6)(x7:A7)(x8:A8)(x9:A9)(h:q)(e:A0->A1->A2->A3->A4->A5->A6->A7->A8->A9->p=q:=by intro x0 x1 x2 x3 x4 x5 x6 x7 x8 x9;conv=>lhs;simp+decide (disch:=try exact Dz10 @x0 @x1 @x2 @x3 @x4 @x5 @x6 @x7 @x8 @x9) only[go_sem,x0,x1,x2,x3,x4,x5,x6,x7,x8,x9]):p:=(e x0 x1 x2 x3 x4 x5 x6 x7 x8 x9)▸h
theorem Tz10{p A0 A1 A2 A3 A4 A5 A6 A7 A8 A9:Prop}(x0:A0)(x1:A1)(x2:A2)(x3:A3)(x4:A4)(x5:A5)(x6:A6)(x7:A7)(x8:A8)(x9:A9)(h:A0->A1->A2->A3->A4->A5->A6->A7->A8->A9->p:=by intro x0 x1 x2 x3 x4 x5 x6 x7 x8 x9;simp+decide (disch:=try exact Dz10 @x0 @x1 @x2 @x3 @x4 @x5 @x6 @x7 @x8 @x9) only[go_sem,x0,x1,x2,x3,x4,x5,x6,x7,x8,x9]):p:=h x0 x1 x2 x3 x4 x5 x6 x7 x8 x9
theorem Sz11{p q A0 A1 A2 A3 A4 A5 A6 A7 A8 A9 dO:Prop}(x0:A0)(x1:A1)(x2:A2)(x3:A3)(x4:A4)(x5:A5)(x6:A6)(x7:A7)(x8:A8)(x9:A9)(cl:dO)(h:q)(e:A0->A1->A2->A3->A4->A5->A6->A7->A8->A9->dO->p=q:=by intro x0 x1 x2 x3 x4 x5 x6 x7 x8 x9 cl;conv=>lhs;simp+decide (disch:=try exact Dz11 @x0 @x1 @x2 @x3 @x4 @x5 @x6 @x7 @x8 @x9 @cl) only[go_sem,x0,x1,x2,x3,x4,x5,x6,x7,x8,x9,cl]):p:=(e x0 x1 x2 x3 x4 x5 x6 x7 x8 x9 cl)▸h
theorem Tz11{p A0 A1 A2 A3 A4 A5 A6 A7 A8 A9 dO:Prop}(x0:A0)(x1:A1)(x2:A2)(x3:A3)(x4:A4)(x5:A5)(x6:A6)(x7:A7)(x8:A8)(x9:A9)(cl:dO)(h:A0->A1->A2->A3->A4->A5->A6->A7->A8->A9->dO->p:=by intro x0 x1 x2 x3 x4 x5 x6 x7 x8 x9 cl;simp+decide (disch:=try exact Dz11 @x0 @x1 @x2 @x3 @x4 @x5 @x6 @x7 @x8 @x9 @cl) only[go_sem,x0,x1,x2,x3,x4,x5,x6,x7,x8,x9,cl]):p:=h x0 x1 x2 x3 x4 x5 x6 x7 x8 x9 cl
theorem Sz12{p q A0 A1 A2 A3 A4 A5 A6 A7 A8 A9 dO gh:Prop}(x0:A0)(x1:A1)(x2:A2)(x3:A3)(x4:A4)(x5:A5)(x6:A6)(x7:A7)(x8:A8)(x9:A9)(cl:dO)(dG:gh)(h:q)(e:A0->A1->A2->A3->A4->A5->A6->A7->A8->A9->dO->gh->p=q:=by intro x0 x1 x2 x3 x4 x5 x6 x7 x8 x9 cl dG;conv=>lhs;simp+decide (disch:=try exact Dz12 @x0 @x1 @x2 @x3 @x4 @x5 @x6 @x7 @x8 @x9 @cl @dG) only[go_sem,x0,x1,x2,x3,x4,x5,x6,x7,x8,x9,cl,dG]):p:=(e x0 x1 x2 x3 x4 x5 x6 x7 x8 x9 cl dG)▸h
theorem Sz13{p q A0 A1 A2 A3 A4 A5 A6 A7 A8 A9 dO gh kI:Prop}(x0:A0)(x1:A1)(x2:A2)(x3:A3)(x4:A4)(x5:A5)(x6:A6)(x7:A7)(x8:A8)(x9:A9)(cl:dO)(dG:gh)(gg:kI)(h:q)(e:A0->A1->A2->A3->A4->A5->A6->A7->A8->A9->dO->gh->kI->p=q:=by intro x0 x1 x2 x3 x4 x5 x6 x7 x8 x9 cl dG gg;conv=>lhs;simp+decide (disch:=try exact Dz13 @x0 @x1 @x2 @x3 @x4 @x5 @x6 @x7 @x8 @x9 @cl @dG @gg) only[go_sem,x0,x1,x2,x3,x4,x5,x6,x7,x8,x9,cl,dG,gg]):p:=(e x0 x1 x2 x3 x4 x5 x6 x7 x8 x9 cl dG gg)▸h
theorem Tz13{p A0 A1 A2 A3 A4 A5 A6 A7 A8 A9 dO gh kI:Prop}(x0:A0)(x1:A1)(x2:A2)(x3:A3)(x4:A4)(x5:A5)(x6:A6)(x7:A7)(x8:A8)(x9:A9)(cl:dO)(dG:gh)(gg:kI)(h:A0->A1->A2->A3->A4->A5->A6->A7->A8->A9->dO->gh->kI->p:=by intro x0 x1 x2 x3 x4 x5 x6 x7 x8 x9 cl dG gg;simp+decide (disch:=try exact Dz13 @x0 @x1 @x2 @x3 @x4 @x5 @x6 @x7 @x8 @x9 @cl @dG @gg) only[go_sem,x0,x1,x2,x3,x4,x5,x6,x7,x8,x9,cl,dG,gg]):p:=h x0 x1 x2 x3 x4 x5 x6 x7 x8 x9 cl dG gg
theorem Sz14{p q A0 A1 A2 A3 A4 A5 A6 A7 A8 A9 dO gh kI wh:Prop}(x0:A0)(x1:A1)(x2:A2)(x3:A3)(x4:A4)(x5:A5)(x6:A6)(x7:A7)(x8:A8)(x9:A9)(cl:dO)(dG:gh)(gg:kI)(se:wh)(h:q)(e:A0->A1->A2->A3->A4->A5->A6->A7->A8->A9->dO->gh->kI->wh->p=q:=by intro x0 x1 x2 x3 x4 x5 x6 x7 x8 x9 cl dG gg se;conv=>lhs;simp+decide (disch:=try exact Dz14 @x0 @x1 @x2 @x3 @x4 @x5 @x6 @x7 @x8 @x9 @cl @dG @gg @se) only[go_sem,x0,x1,x2,x3,x4,x5,x6,x7,x8,x9,cl,dG,gg,se]):p:=(e x0 x1 x2 x3 x4 x5 x6 x7 x8 x9 cl dG gg se)▸h
theorem Ez0{p:Prop}(h:p:=by first|omega|rfl|(simp+decide only[go_sem,ek,Kaw,KaD,Kav,KaB,Kam]<;>rfl)|fail):p:=h
theorem Ez1{p A0:Prop}(x0:A0)(h:A0->p:=by intro x0;first|omega|rfl|(simp+decide only[go_sem,ek,Kaw,KaD,Kav,KaB,Kam,x0]<;>rfl)|fail):p:=h x0
theorem Ez2{p A0 A1:Prop}(x0:A0)(x1:A1)(h:A0->A1->p:=by intro x0 x1;first|omega|rfl|(simp+decide only[go_sem,ek,Kaw,KaD,Kav,KaB,Kam,x0,x1]<;>rfl)|fail):p:=h x0 x1
theorem Ez3{p A0 A1 A2:Prop}(x0:A0)(x1:A1)(x2:A2)(h:A0->A1->A2->p:=by intro x0 x1 x2;first|omega|rfl|(simp+decide only[go_sem,ek,Kaw,KaD,Kav,KaB,Kam,x0,x1,x2]<;>rfl)|fail):p:=h x0 x1 x2
theorem Ez4{p A0 A1 A2 A3:Prop}(x0:A0)(x1:A1)(x2:A2)(x3:A3)(h:A0->A1->A2->A3->p:=by intro x0 x1 x2 x3;first|omega|rfl|(simp+decide only[go_sem,ek,Kaw,KaD,Kav,KaB,Kam,x0,x1,x2,x3]<;>rfl)|fail):p:=h x0 x1 x2 x3
theorem Ez5{p A0 A1 A2 A3 A4:Prop}(x0:A0)(x1:A1)(x2:A2)(x3:A3)(x4:A4)(h:A0->A1->A2->A3->A4->p:=by intro x0 x1 x2 x3 x4;first|omega|rfl|(simp+decide only[go_sem,ek,Kaw,KaD,Kav,KaB,Kam,x0,x1,x2,x3,x4]<;>rfl)|fail):p:=h x0 x1 x2 x3 x4
theorem Ez7{p A0 A1 A2 A3 A4 A5 A6:Prop}(x0:A0)(x1:A1)(x2:A2)(x3:A3)(x4:A4)(x5:A5)(x6:A6)(h:A0->A1->A2->A3->A4->A5->A6->p:=by intro x0 x1 x2 x3 x4 x5 x6;first|omega|rfl|(simp+decide only[go_sem,ek,Kaw,KaD,Kav,KaB,Kam,x0,x1,x2,x3,x4,x5,x6]<;>rfl)|fail):p:=h x0 x1 x2 x3 x4 x5 x6
theorem ij{p q:Prop}(h:q)(e:p=q:=by conv=>lhs;simp+decide (disch:=try exact Ez0) only[go_sem,ek,Kaw,KaD,Kav,KaB,Kam]):p:=e▸h
theorem vv{p:Prop}(h:p:=by simp+decide (disch:=try exact Ez0) only[go_sem,ek,Kaw,KaD,Kav,KaB,Kam]):p:=h
theorem Mv{p:Prop}(h:p:=by simp+decide (disch:=try exact Ez0) only[go_sem,ek,Kaw,KaD,Kav,KaB,Kam]<;>rfl):p:=h
theorem lG{p q A0:Prop}(x0:A0)(h:q)(e:A0->p=q:=by intro x0;conv=>lhs;simp+decide (disch:=try exact Ez1 @x0) only[go_sem,ek,Kaw,KaD,Kav,KaB,Kam,x0]):p:=(e x0)▸h
theorem pG{p A0:Prop}(x0:A0)(h:A0->p:=by intro x0;simp+decide (disch:=try exact Ez1 @x0) only[go_sem,ek,Kaw,KaD,Kav,KaB,Kam,x0]):p:=h x0
theorem mm{p q A0 A1:Prop}(x0:A0)(x1:A1)(h:q)(e:A0->A1->p=q:=by intro x0 x1;conv=>lhs;simp+decide (disch:=try exact Ez2 @x0 @x1) only[go_sem,ek,Kaw,KaD,Kav,KaB,Kam,x0,x1]):p:=(e x0 x1)▸h
theorem Af{p A0 A1:Prop}(x0:A0)(x1:A1)(h:A0->A1->p:=by intro x0 x1;simp+decide (disch:=try exact Ez2 @x0 @x1) only[go_sem,ek,Kaw,KaD,Kav,KaB,Kam,x0,x1]<;>rfl):p:=h x0 x1
theorem vw{p q A0 A1 A2:Prop}(x0:A0)(x1:A1)(x2:A2)(h:q)(e:A0->A1->A2->p=q:=by intro x0 x1 x2;conv=>lhs;simp+decide (disch:=try exact Ez3 @x0 @x1 @x2) only[go_sem,ek,Kaw,KaD,Kav,KaB,Kam,x0,x1,x2]):p:=(e x0 x1 x2)▸h
theorem Uz3{p A0 A1 A2:Prop}(x0:A0)(x1:A1)(x2:A2)(h:A0->A1->A2->p:=by intro x0 x1 x2;simp+decide (disch:=try exact Ez3 @x0 @x1 @x2) only[go_sem,ek,Kaw,KaD,Kav,KaB,Kam,x0,x1,x2]):p:=h x0 x1 x2
theorem Vz4{p q A0 A1 A2 A3:Prop}(x0:A0)(x1:A1)(x2:A2)(x3:A3)(h:q)(e:A0->A1->A2->A3->p=q:=by intro x0 x1 x2 x3;conv=>lhs;simp+decide (disch:=try exact Ez4 @x0 @x1 @x2 @x3) only[go_sem,ek,Kaw,KaD,Kav,KaB,Kam,x0,x1,x2,x3]):p:=(e x0 x1 x2 x3)▸h
theorem DQ{p q A0 A1 A2 A3 A4:Prop}(x0:A0)(x1:A1)(x2:A2)(x3:A3)(x4:A4)(h:q)(e:A0->A1->A2->A3->A4->p=q:=by intro x0 x1 x2 x3 x4;conv=>lhs;simp+decide (disch:=try exact Ez5 @x0 @x1 @x2 @x3 @x4) only[go_sem,ek,Kaw,KaD,Kav,KaB,Kam,x0,x1,x2,x3,x4]):p:=(e x0 x1 x2 x3 x4)▸h
theorem Ww{p q A0 A1 A2 A3 A4 A5 A6:Prop}(x0:A0)(x1:A1)(x2:A2)(x3:A3)(x4:A4)(x5:A5)(x6:A6)(h:q)(e:A0->A1->A2->A3->A4->A5->A6->p=q:=by intro x0 x1 x2 x3 x4 x5 x6;conv=>lhs;simp+decide (disch:=try exact Ez7 @x0 @x1 @x2 @x3 @x4 @x5 @x6) only[go_sem,ek,Kaw,KaD,Kav,KaB,Kam,x0,x1,x2,x3,x4,x5,x6]):p:=(e x0 x1 x2 x3 x4 x5 x6)▸h
variable {C : Ctx} {fr : Fr} {hp : HP} {R : Qh}
end Go.FW
namespace Go.FW
open Go
variable {C : Ctx} {ρ : Nat -> Option Nat} {fr aG : Fr} {hp : HP} {w : World} {K R : Qh}
theorem df.known{p:PV}{v:Value}(h:df C ρ hp w p v):∀γ∈p.gU,hp γ≠none:=by
 intro γ aj;cases p with
 |aB β o n=>simp[PV.gU]at aj;subst aj;obtain⟨_,hb,h1,_⟩:=h;simp[h1]
 |aI β o n=>simp[PV.gU]at aj;subst aj;obtain⟨_,hb,b,cap,h1,_⟩:=h;simp[h1]
 |np β o n=>cases h
 |_=>cases aj
theorem dh.known{p:PV}{v:Value}(h:dh C ρ hp w p v):(∀γ∈p.cn,hp γ≠none)/\∀γ∈p.fh,hp γ≠none:=by
 cases p with
 |mp β i o=>obtain⟨b,hb,h1,h2,_⟩:=h;simp[PV.cn,PV.fh,h2]
 |aB β o n=>obtain⟨hb,h1,_⟩:=h;simp[PV.cn,PV.fh,h1]
 |rb β o n=>obtain⟨b,u,_,_,_,_,hb,h1,_⟩:=h;simp[PV.cn,PV.fh,h1]
 |np γ i o=>obtain⟨_,b,hb,h1,h2,_⟩:=h;simp[PV.cn,PV.fh,h2]
 |aI γ o n=>obtain⟨_,hb,b,cap,h1,_⟩:=h;simp[PV.cn,PV.fh,h1]
 |_=>exact⟨(fun γ aj=>by cases aj),(fun γ aj=>by cases aj)⟩
theorem Qn.known{p:PV}{v:Value}(h:Qn C ρ hp w p v):(∀γ∈p.refs,hp γ≠none)/\∀γ∈p.aQ,hp γ≠none:=by
 cases p with
 |mp β i o=>obtain⟨b,hb,h1,h2,_⟩:=h;simp[PV.refs,PV.aQ,h2]
 |aB β o n=>obtain⟨hb,h1,_⟩:=h;simp[PV.refs,PV.aQ,h1]
 |rb β o n=>obtain⟨b,u,_,_,_,_,hb,h1,_⟩:=h;simp[PV.refs,PV.aQ,h1]
 |np γ i o=>obtain⟨_,b,hb,h1,h2,_⟩:=h;simp[PV.refs,PV.aQ,h2]
 |aI γ o n=>obtain⟨_,hb,b,cap,h1,_⟩:=h;simp[PV.refs,PV.aQ,h1]
 |bo cs=>obtain⟨vs,_,_,h2⟩:=h;refine⟨fun γ aj=>(by cases aj),fun γ aj=>?_⟩;obtain⟨x,hx,aj⟩:=Kat.1 aj;obtain⟨i,hi⟩:=KaM hx;exact(h2 i x hi).known γ aj
 |dX cs=>obtain⟨vs,_,_,h2⟩:=h;refine⟨fun γ aj=>(by cases aj),fun γ aj=>?_⟩;obtain⟨x,hx,aj⟩:=Kat.1 aj;obtain⟨i,hi⟩:=KaM hx;exact(h2 i x hi).known γ aj
 | aC β e ty xs=>
  obtain⟨_,_,b,hb,cur,cap,_,g2,_,_,_,_,_,_,_,_,bZ⟩:=h;refine⟨fun γ aj=>(by cases aj),fun γ aj=>?_⟩;rcases KaG.1 aj with rfl|aj
  ·simp[g2]
  ·obtain⟨x,hx,aj⟩:=Kat.1 aj;obtain⟨y,hy,aj⟩:=Kat.1 aj;obtain⟨i,hi⟩:=KaM hx;obtain⟨j,hj⟩:=KaM hy;exact(bZ i x hi j y hj).known γ aj
 | fn f first cap=>
  obtain⟨fv,cv,_,_,_,h3,h4⟩:=h;have g:∀(l:List PV)(u:Array Value),(∀(i:Nat)(x:PV),l[i]? =some x->dh C ρ hp w x (u.getD i undef))->(∀γ∈l.flatMap PV.cn,hp γ≠none)/\∀γ∈l.flatMap PV.fh,hp γ≠none:=by
   intro l u hl;refine⟨fun γ aj=>?_,fun γ aj=>?_⟩<;>
   ·obtain⟨x,hx,aj⟩:=Kat.1 aj;obtain⟨i,hi⟩:=KaM hx
    first|exact(hl i x hi).known.1 γ aj|exact(hl i x hi).known.2 γ aj
  refine⟨fun γ aj=>?_,fun γ aj=>?_⟩
  ·rcases KaL.1 aj with aj|aj
   ·exact(g first fv h3).1 γ aj
   ·exact(g cap cv h4).1 γ aj
  ·rcases KaL.1 aj with aj|aj
   ·exact(g first fv h3).2 γ aj
   ·exact(g cap cv h4).2 γ aj
 |_=>exact⟨(fun γ aj=>by cases aj),(fun γ aj=>by cases aj)⟩
def nn(β:Nat):Bool:=decide (2000000<=β)
def n8(β:Nat):Bool:=nn β||decide (β<1000000)
theorem aok{β:Nat}(h:n8 β=false):nn β=false:=by simp[n8]at h;exact h.1
def jR:PV->PV
 |.aC _ _ _ _| .bo _| .dX _=>.undef
 |p=>if p.refs.any nn||p.aQ.any n8 then .undef else p
def ie(F:Fr):Fr:=fun s=>jR (F s)
def wj(p:PV):Prop:=(∀β∈p.refs,nn β=false)/\(∀β∈p.aQ,n8 β=false)/\(∀γ e ty xs,p≠ .aC γ e ty xs)/\∀cs,p≠ .bo cs/\p≠ .dX cs
theorem agO(p:PV):wj (jR p):=by
 have h0:wj .undef:=⟨(fun β h=>by cases h),(fun β h=>by cases h),(fun _ _ _ _ h=>by cases h),(fun _=>⟨(fun h=>by cases h),fun h=>by cases h⟩)⟩
 unfold jR;split
 ·exact h0
 ·exact h0
 ·exact h0
 ·rename_i hn nV XY;split
  ·exact h0
  ·rename_i h;simp only[Kct,not_or,Bool.not_eq_true,KbU]at h;exact⟨fun β ae=>by simpa using h.1 β ae,fun β ae=>by simpa using h.2 β ae,fun γ e ty xs=>hn γ e ty xs,fun cs=>⟨nV cs,XY cs⟩⟩
theorem wj.kill{p:PV}(h:wj p){B:List Nat}:wj (if p.refs.any B.contains then .undef else p):=by
 split
 ·exact⟨(fun β h=>by cases h),(fun β h=>by cases h),(fun _ _ _ _ h=>by cases h),(fun _=>⟨(fun h=>by cases h),fun h=>by cases h⟩)⟩
 ·exact h
theorem Pf{β:Nat}{p:PV}(h:∀γ∈p.refs,γ≠β):cA β p=p:=by unfold cA;rw[if_neg];intro hc;exact h β (by simpa using hc) rfl
theorem Pg{β:Nat}{p:PV}(h:∀γ∈p.gU,γ≠β):jv β p=p:=by
 cases p with
 |aB γ o n=>simp only[jv];rw[if_neg (h γ (by simp[PV.gU]))]
 |aI γ o n=>simp only[jv];rw[if_neg (h γ (by simp[PV.gU]))]
 |_=>rfl
theorem aet{β:Nat}{p:PV}(h:∀γ∈p.refs,γ≠β)(h2:∀γ∈p.aQ,γ≠β)(h3:∀γ e ty xs,p≠ .aC γ e ty xs):cV β p=p:=by
 cases p with
 |aC γ e ty xs=>exact absurd rfl (h3 _ _ _ _)
 |bo cs=>
  simp only[cV];congr 1;conv=>rhs;rw[<-List.map_id cs]
  exact KaJ fun x hx=>Pg fun γ aj=>h2 γ (Kat.2 ⟨x,hx,aj⟩)
 |dX cs=>
  simp only[cV];congr 1;conv=>rhs;rw[<-List.map_id cs]
  exact KaJ fun x hx=>Pg fun γ aj=>h2 γ (Kat.2 ⟨x,hx,aj⟩)
 |aI γ o n=>simp only[cV];rw[if_neg (h2 γ (by simp[PV.aQ]))]
 |np γ i o=>simp only[cV];rw[if_neg (h2 γ (by simp[PV.aQ]))]
 |fn f first cap=>simp only[cV];rw[if_neg,Pf h];intro hc;exact h2 β (by simpa[PV.aQ]using hc) rfl
 |_=>exact Pf h
theorem Th{β γ:Nat}(h:2000000<=β)(h2:nn γ=false):γ≠β:=by simp[nn]at h2;omega
abbrev dk(B:List Nat)(F:Fr):Fr:=bO B (ie F)
theorem AX(B:List Nat)(F:Fr)(s:Nat):wj (dk B F s):=(agO (F s)).kill
theorem Ph{β:Nat}{B:List Nat}{F:Fr}(h:2000000<=β):fX β (dk B F)=dk B F:=by funext s;have hc:=AX B F s;exact aet (fun γ aj=>Th h (hc.1 γ aj)) (fun γ aj=>Th h (aok (hc.2.1 γ aj))) hc.2.2.1
theorem Pj{γ:Nat}{B:List Nat}{F:Fr}:iP γ (dk B F)=dk B F:=by
 funext s;have hc:=AX B F s;show gE γ (dk B F s)=_;generalize dk B F s=p at *
 cases p with
 |aC bu e ty xs=>exact absurd rfl (hc.2.2.1 _ _ _ _)
 |_=>rfl
theorem aeu{W:List (Nat×Nat)}{β:Nat}{J F:Fr}:fX β (aY W J F)=aY W (fX β J) (fX β F):=by funext s;unfold fX aY;split<;>rfl
theorem aev{W:List (Nat×Nat)}{β:Nat}{J F:Fr}:iP β (aY W J F)=aY W (iP β J) (iP β F):=by funext s;unfold iP aY;split<;>rfl
theorem aew{β d:Nat}{F:Fr}{v:PV}:fX β (af F d v)=af (fX β F) d (cV β v):=by funext s;unfold fX af;split<;>rfl
theorem aeV{β d:Nat}{F:Fr}{v:PV}:iP β (af F d v)=af (iP β F) d (gE β v):=by funext s;unfold iP af;split<;>rfl
theorem agP{β:Nat}{F:Fr}{s:Nat}:fX β F s=cV β (F s):=rfl
theorem agQ{β:Nat}{F:Fr}{s:Nat}:iP β F s=gE β (F s):=rfl
theorem Hx(W:List (Nat×Nat))(B:List Nat):cB fr (aY W fr (dk B fr)):=fun s=>by
 unfold aY dk bO;split
 ·exact .inl rfl
 ·split
  ·exact .inr rfl
  ·unfold ie jR;split
   ·exact .inr rfl
   ·exact .inr rfl
   ·exact .inr rfl
   ·split
    ·exact .inr rfl
    ·exact .inl rfl
theorem eO{sk:List It}{x:SC}(bR:fG R sk)(W:List (Nat×Nat))(B:List Nat)(I:Nat->Fr->HP->Prop)(m0:Nat)(h0:I m0 fr hp)
  (h:∀m J hp,I m J hp->vc C R (.c x:: .el (yL W (dk B fr) I m)::sk) (aY W J (dk B fr)) hp):vc C R (.c (.loop x)::sk) fr hp:=by
 refine CE (fun m aG hp'=>∃J,aG=aY W J (dk B fr)/\I m J hp') m0 (Hx W B).wk ⟨fr,rfl,h0⟩ ?_;rintro m _ hp' ⟨J,rfl,hI⟩;refine ou bR.1 _ _ _ _ _ _ (Kae _) (.c x (.el ?_ bR.2)) (cB.refl _) (h m J hp' hI);rintro f f' cz hf ⟨J2,rX,m2,e2,hl,h2⟩;exact Mb hl (hf.wk.trans e2) ⟨J2,rfl,h2⟩
def Qs(l:List (Nat×Nat)):List PV:=l.map fun x=>.aB x.1 0 x.2
def aol(d:Nat)(S:List Nat)(γ n:Nat)(x:PV)(fr:Fr):Fr:=fun s=>if s=γ then x else if S.contains s then .aI γ 0 n else cA d (fr s)
theorem Q67{tmps:Array Value}(h:Qv C ρ fr hp tmps w){β b:Nat}{hb:HB}{l:List Nat}(hB:aR β=false)(ae:hp β=some hb)(hl:β∈l)(bK:ρ β=some b):¬aK C ρ (bW hp l) b:=by
 have bl:=(h.own β hb ae).dd;rw[bK]at bl;rintro(hx|⟨γ,hg,h1,h2,h3⟩)
 ·exact Ctx.H4 bl.1 (Ba hB) hx
 ·obtain⟨rT,g1,_,_,_,_,g6⟩:=Ck h1;have:=h.inj γ β b (by simp[g1]) (by simp[ae]) h3 bK;subst this;exact g6 h2 hl
theorem fF.snap{tmps:Array Value}(h:Qv C ρ fr hp tmps w){β o n:Nat}{v:Value}{l:List Nat}{hb:HB}(hr:fF ρ hp w β o n v)(hB:aR β=false)(hl:β∈l)(ae:hp β=some hb):Qu w (aK C ρ (bW hp l)) (.sl hb.e ((hb.xs.drop o).take n)) v:=by
 obtain⟨ax,g1,g2,g3⟩:=hr;rw[ae]at g1;cases g1;rcases g3 with⟨g3,rfl,rfl,rfl⟩|⟨b,cap,g3,rfl,g5,g6⟩
 ·simp only[Kcg];exact .oS _ _ _ (Kbz _)
 ·have bE:=h.own β hb ae;have bl:=bE.dd;rw[g3]at bl;obtain⟨_,aw,cur,eW,c1,c2,c3,c4,c5⟩:=bl;obtain⟨cur',ty',d1,d2⟩:=g5;rw[c1]at d1;cases d1;have jk:o+cap=eW:=by rw[c2]at d2;exact(KbJ bE.m6 d2).symm
  subst jk;have hlen:((hb.xs.drop o).take n).length=n:=by simp;omega
  have fJ:∀(i:Nat)(x:PV),((hb.xs.drop o).take n)[i]? =some x->i<n/\hb.xs[o+i]? =some x:=fun i x hx=>by
   have hi:i<n:=by have:=(Kaf.1 hx).1;omega
   rw[KaN hi,Kbe]at hx;exact⟨hi,hx⟩
  have:=Qu.sl (w:=w) (X:=aK C ρ (bW hp l)) hb.e ((hb.xs.drop o).take n) b (o*hb.e) cap (fun i j=>cur.getD ((o+i)*hb.e+j) undef) (Q67 h hB ae hl g3) aw (by omega) (by omega)
   (fun i x hx=>(bE.len _ x (fJ i x hx).2).1)
   (fun i hi j hj=>by rw[hlen]at hi;have:=qx (i:=o+i) (e:=hb.e) (o:=0) (j:=j) (n:=hb.e) (cap:=o+cap) (by omega) (by omega) hj;rw[KaY]at this;rw[show o*hb.e+i*hb.e+j=(o+i)*hb.e+j by rw[KaK]];exact og c1 (by rw[c2];exact this))
   (fun i x hx j y hy=>(c5 _ x (fJ i x hx).2 j y hy).freeze)
  rwa[hlen]at this
def vo(R:Qh):Qh:=fun fr hp=>∃aG hp',Wk fr hp aG hp'/\R aG hp'
theorem JE{hp':HP}(hw:Wk fr hp aG hp')(h:R aG hp'):vo R fr hp:=⟨aG,hp',hw,h⟩
theorem qt(h:R fr hp):vo R fr hp:=⟨fr,hp,Wk.refl _ _,h⟩
theorem aiv:KM (vo R) (vo R):=by rintro f f' hp hf ⟨aG,hp',h1,h2⟩;exact⟨aG,hp',hf.wk.trans h1,h2⟩
theorem Pk:fG (vo R) []:=⟨aiv,.nil⟩
theorem aiw{d γ m i:Nat}{k:IntKind}(h:i<m)(he:(hp γ).map (·.e)=some 1):jQ 1 (.aI γ 0 m) (.int k (i:Int)) d fr hp K=K (af fr d (.np γ i 0)) hp:=by
 have e:(0:Int)<=(i:Int):=by omega
 simp[jQ,e,h,he]
theorem aix{d γ o m:Nat}:rI (.aI γ o m) d fr hp K=K (af fr d (.int .i64 m)) hp:=rfl
theorem aom{d γ i ty:Nat}{l:List (Nat×Nat)}(aj:fr γ= .aC γ 1 ty (Qs l))(h:i<l.length):kf 1 false (.np γ i 0) d fr hp K=K (af fr d (.ms (l[i]'h).1 (l[i]'h).2)) hp:=by
 have hh:∃h:i<l.length,K (af fr d (.ms (l[i]'h).1 (l[i]'h).2)) hp↔K (af fr d (.ms (l[i]'h).1 (l[i]'h).2)) hp:=⟨h,Iff.rfl⟩
 simp only[kf,aj];have h2:i<(Qs l).length:=by simpa[Qs]using h
 simp only[h2,exists_true_left,true_and,Kae,Kbh,implies_true];simp[tv,Qs,PV.aS,PV.cells]
theorem JF{e by_ ty ty' d β γ n:Nat}{xs:List PV}{y:PV}{fz:Bool}(hb:hp β=some ⟨e,ty,xs,false⟩)(hy:hp γ=some ⟨e,ty',[y],fz⟩)(h0:0<e)(hn:n=xs.length)(h1:(n+1)*by_<=140737488355328)(h2:n+1<=9223372036854775807)(hB:2000000<=β):
  ia e by_ ty (.ms β n) (.ms γ 1) d fr hp K=K (af (fX β fr) d (.ms β (n+1))) (Qj hp β ⟨e,ty,xs++[y],false⟩):=by
 subst hn;have b1:bJ β=true:=by simp[bJ];omega
 have b2:aR β=false:=by simp[aR];omega
 simp[ia,jx,hy,hb,h0,b1,b2,h1,h2]
theorem An{α:Type}{f:α->PV}{y:α}{e by_ ty ty' d β γ n:Nat}{xs:List α}{fz:Bool}(hb:hp β=some ⟨e,ty,xs.map f,false⟩)(hy:hp γ=some ⟨e,ty',[f y],fz⟩)(h0:0<e)(hn:n=xs.length)(h1:(n+1)*by_<=140737488355328)(h2:n+1<=9223372036854775807)(hB:2000000<=β):
  ia e by_ ty (.ms β n) (.ms γ 1) d fr hp K=K (af (fX β fr) d (.ms β (n+1))) (Qj hp β ⟨e,ty,(xs++[y]).map f,false⟩):=by
 rw[JF hb hy h0 (by simp[hn]) h1 h2 hB];simp
theorem aeW{γ e ty k:Nat}{l:List (Nat×Nat)}(h:k<l.length)(aJ:γ≠(l[k]'h).1)(hd:∀j (hj:j<l.length),l[j].1=(l[k]'h).1->j=k):cV (l[k]'h).1 (.aC γ e ty (Qs l))= .aC γ e ty ((Qs l).set k .undef):=by
 simp only[cV,if_neg aJ];congr 1;refine Ka7 (by simp[Qs]) fun j h1 h2=>?_;have hj:j<l.length:=by simpa[Qs]using h1
 simp only[Qs,Ka8,Kc6,PV.aS,PV.cells,Kba,Kbu,fo,jv];by_cases e:j=k
 ·subst e;simp
 ·rw[if_neg fun e2=>e (hd j hj e2),if_neg fun e2=>e e2.symm]
theorem aeX{β γ o n:Nat}(h:γ≠β):cV β (.aI γ o n)= .aI γ o n:=by simp only[cV];rw[if_neg h]
theorem agR{β γ o n:Nat}(h:γ≠β):cV β (.np γ o n)= .np γ o n:=by simp only[cV];rw[if_neg h]
theorem abO:
  (∀(β:Nat)(k:IntKind)(n:Int),cV β (.int k n)= .int k n)/\
  (∀(β:Nat)(b:Bool),cV β (.bool b)= .bool b)/\
  (∀(β e:Nat)(xs:List PV),cV β (.sl e xs)= .sl e xs)/\
  (∀(β:Nat)(cs:List PV),cV β (.agg cs)= .agg cs)/\
  (∀(β:Nat)(cs:List PV),cV β (.pt cs)= .pt cs)/\
  (∀(β:Nat),cV β .au= .au)/\
  (∀(β:Nat),cV β .undef= .undef)/\
  (∀(γ:Nat)(k:IntKind)(n:Int),gE γ (.int k n)= .int k n)/\
  (∀(γ:Nat)(b:Bool),gE γ (.bool b)= .bool b)/\
  (∀(γ e:Nat)(xs:List PV),gE γ (.sl e xs)= .sl e xs)/\
  (∀(γ:Nat)(cs:List PV),gE γ (.agg cs)= .agg cs)/\
  (∀(γ:Nat)(cs:List PV),gE γ (.pt cs)= .pt cs)/\
  (∀(γ:Nat),gE γ .au= .au)/\
  (∀(γ:Nat),gE γ .undef= .undef)/\
  (∀(γ β o n:Nat),gE γ (.aB β o n)= .aB β o n)/\
  (∀(γ β o n:Nat),gE γ (.mp β o n)= .mp β o n)/\
  (∀(γ β o n:Nat),gE γ (.rb β o n)= .rb β o n)/\
  (∀(γ β o n:Nat),gE γ (.aI β o n)= .aI β o n)/\
  (∀(γ β o n:Nat),gE γ (.np β o n)= .np β o n)/\
  (∀(β γ o n:Nat),cA β (.aI γ o n)= .aI γ o n)/\
  (∀(β γ o n:Nat),cA β (.np γ o n)= .np γ o n)/\
  (∀(β γ e ty:Nat)(xs:List PV),cA β (.aC γ e ty xs)= .aC γ e ty xs)/\
  (∀(β:Nat),cA β .undef= .undef)/\
  (∀(β:Nat)(cs:List PV),cA β (.pt cs)= .pt cs):=by
 refine⟨?_,?_,?_,?_,?_,?_,?_,?_,?_,?_,?_,?_,?_,?_,?_,?_,?_,?_,?_,?_,?_,?_,?_,?_⟩<;>intros<;>rfl
theorem agS(β γ o n:Nat):cV β (.aB γ o n)=if γ=β then .undef else .aB γ o n:=QH β γ o n
theorem agT(β γ o n:Nat):cV β (.mp γ o n)=if γ=β then .undef else .mp γ o n:=QI β γ o n
end Go.FW
namespace Go.FW
open Go
variable {C : Ctx} {ρ : Nat -> Option Nat} {fr aG : Fr} {hp : HP} {w : World} {K R : Qh}
theorem aiy{F:Fr}{s:Nat}:ie F s=jR (F s):=rfl
theorem abP:
  (∀(k:IntKind)(n:Int),jR (.int k n)= .int k n)/\
  (∀(b:Bool),jR (.bool b)= .bool b)/\
  (∀(e:Nat)(xs:List PV),jR (.sl e xs)= .sl e xs)/\
  (∀(cs:List PV),jR (.agg cs)= .agg cs)/\
  (∀(cs:List PV),jR (.pt cs)= .pt cs)/\
  (jR .au= .au)/\(jR .undef= .undef)/\
  (∀(β o n:Nat),jR (.aB β o n)=if nn β then .undef else .aB β o n)/\
  (∀(β o n:Nat),jR (.mp β o n)=if nn β then .undef else .mp β o n)/\
  (∀(β o n:Nat),jR (.rb β o n)=if nn β then .undef else .rb β o n)/\
  (∀(β o n:Nat),jR (.aI β o n)=if n8 β then .undef else .aI β o n)/\
  (∀(β o n:Nat),jR (.np β o n)=if n8 β then .undef else .np β o n):=by
 refine⟨fun _ _=>rfl,fun _=>rfl,fun _ _=>rfl,fun _=>rfl,fun _=>rfl,rfl,rfl,?_,?_,?_,?_,?_⟩<;>intros<;>simp[jR,PV.refs,PV.aQ]
theorem amc{β:Nat}:n8 β=(nn β||decide (β<1000000)):=rfl
theorem amd{β:Nat}:nn β=decide (2000000<=β):=rfl
def rws(B n:Nat)(L:Nat->Nat):List (Nat×Nat):=(List.range n).map fun i=>(B+i,L i)
theorem Cx(B n:Nat)(L:Nat->Nat):(rws B n L).length=n:=by simp[rws]
theorem su{B n i:Nat}{L:Nat->Nat}(h:i<(rws B n L).length):(rws B n L)[i]=(B+i,L i):=by simp[rws]
theorem aiz{B n i m:Nat}{L L':Nat->Nat}(h:∀j,j<n->L' j=if j=i then m else L j):(rws B n L).set i (B+i,m)=rws B n L':=by
 refine Ka7 (by simp[rws]) fun j h1 h2=>?_;have hj:j<n:=by simpa[rws]using h2
 rw[su,Kc6,su,h j hj];split
 ·rename_i e;subst e;simp
 ·rename_i e;rw[if_neg fun e2=>e e2.symm]
theorem Pm{γ e ty k B n:Nat}{L:Nat->Nat}(h:k<n)(aJ:¬(B<=γ/\γ<B+n)):cV (B+k) (.aC γ e ty (Qs (rws B n L)))= .aC γ e ty ((Qs (rws B n L)).set k .undef):=by
 have hk:k<(rws B n L).length:=by rw[Cx];exact h
 have:=aeW (γ:=γ) (e:=e) (ty:=ty) hk (by rw[su];simp only;omega) (fun j hj=>by rw[su,su];simp only;omega)
 rwa[su]at this
theorem Tv{d γ i ty B n:Nat}{L:Nat->Nat}(aj:fr γ= .aC γ 1 ty (Qs (rws B n L)))(h:i<n):kf 1 false (.np γ i 0) d fr hp K=K (af fr d (.ms (B+i) (L i))) hp:=by rw[aom aj (by rw[Cx];exact h),su]
theorem agU{d γ n:Nat}{S:List Nat}{x:PV}{s:Nat}:aol d S γ n x fr s=if s=γ then x else if S.contains s then .aI γ 0 n else cA d (fr s):=rfl
theorem aiA{by_ ty d:Nat}{k k':IntKind}{n c:Nat}(h2:n<=c)(h3:by_*c<=281474976710656)(h4:c<=9223372036854775807):
  qe 1 by_ ty .au (.int k (n:Int)) (.int k' (c:Int)) d fr hp K=K (af (cP d fr) d (.ms d n)) (Qj hp d ⟨1,ty,List.replicate n .au,false⟩):=by
 rw[FX (e:=1) (by omega) rfl (by omega) (by omega) (by omega) (by omega)];rfl
theorem amL{k c:Nat}(h:c<3000000):(3000000+k=c)=False:=by simp;omega
theorem aiB{k c:Nat}(h:c<3000000):(c=3000000+k)=False:=by simp;omega
theorem amM{k j:Nat}:(3000000+k=3000000+j)=(k=j):=by simp
attribute [go_sem] amL aiB amM aiA agU aeu aev aew aeV agP agQ Ph Pj abO agS agT aeX agR aiw aix aiy abP amc amd
end Go.FW
namespace Go.FW
open Go
variable {C C' : Ctx} {ρ ρ' : Nat -> Option Nat} {fr aG : Fr} {hp hp' : HP} {w : World} {K R : Qh}
theorem di{sk:List It}{r:RT}{bU:Fr}{aA:HP}(hw:Wk fr hp bU aA)(h:vc C R (.o r::sk) bU aA):vc C R (.o (.wk r)::sk) fr hp:=by rw[HV];exact⟨bU,aA,hw,h⟩
def dW(σ:Nat->Nat):PV->PV
 |.mp β i o=>.mp (σ β) i o
 |.aB β o n=>.aB (σ β) o n
 |.rb β o n=>.rb (σ β) o n
 |.np β i o=>.np (σ β) i o
 |.aI β o n=>.aI (σ β) o n
 |p=>p
def ch(σ:Nat->Nat):PV->PV
 |.fn f a b=>.fn f (a.map (dW σ)) (b.map (dW σ))
 |.bo cs=>.bo (cs.map (dW σ))
 |.dX cs=>.dX (cs.map (dW σ))
 |.aC γ e ty xs=>.aC (σ γ) e ty (xs.map fun x=>fo (x.aS.map (dW σ)))
 |p=>dW σ p
structure xc(σ:Nat->Nat)(ρ ρ':Nat->Option Nat)(hp hp':HP)(β:Nat):Prop where
 r:ρ' (σ β)=ρ β
 h:∀hb,hp β=some hb->∃hb2,hp' (σ β)=some hb2/\hb2.e=hb.e/\hb2.ty=hb.ty/\hb2.xs=hb.xs
 b:bJ β=true->bJ (σ β)=true
theorem fF.jr{σ:Nat->Nat}{β o n:Nat}{v:Value}(h:fF ρ hp w β o n v)(hr:xc σ ρ ρ' hp hp' β):fF ρ' hp' w (σ β) o n v:=by obtain⟨hb,h1,h2,h3⟩:=h;obtain⟨ax,k1,k2,k3,k4⟩:=hr.h hb h1;refine⟨ax,k1,by rw[k4];exact h2,?_⟩;rw[hr.r,k2];exact h3
theorem qE.jr{σ:Nat->Nat}{γ o n:Nat}{v:Value}(h:qE ρ hp w γ o n v)(hr:xc σ ρ ρ' hp hp' γ):qE ρ' hp' w (σ γ) o n v:=by obtain⟨h0,hb,b,cap,h1,h2,h3⟩:=h;obtain⟨ax,k1,k2,k3,k4⟩:=hr.h hb h1;exact⟨hr.b h0,ax,b,cap,k1,by rw[hr.r];exact h2,by rw[k2];exact h3⟩
theorem Qu.sub{X X':Nat->Prop}{p:PV}{v:Value}(h:Qu w X p v)(hX:∀b,X' b->X b):Qu w X' p v:=h.mono (fun _ _ _=>rfl) (fun b _ hn hx=>hn (hX b hx)) (Kae _)
theorem df.jr{σ:Nat->Nat}{p:PV}{v:Value}(h:df C ρ hp w p v)(hX:∀b,aK C' ρ' hp' b->aK C ρ hp b)(hr:∀β∈p.gU,xc σ ρ ρ' hp hp' β):df C' ρ' hp' w (dW σ p) v:=by
 cases p with
 |undef=>trivial
 |aB β o n=>exact⟨(hr β (by simp[PV.gU])).b h.1,h.2.jr (hr β (by simp[PV.gU]))⟩
 |aI γ o n=>exact qE.jr h (hr γ (by simp[PV.gU]))
 |mp=>cases h
 |rb=>cases h
 |np=>cases h
 |_=>exact Qu.sub h hX
theorem dh.jr{σ:Nat->Nat}{p:PV}{v:Value}(h:dh C ρ hp w p v)(hX:∀b,aK C' ρ' hp' b->aK C ρ hp b)(hr:∀β∈p.cn++p.fh,xc σ ρ ρ' hp hp' β):dh C' ρ' hp' w (dW σ p) v:=by
 cases p with
 |mp β i o=>have hq:=hr β (by simp[PV.cn]);obtain⟨b,hb,h1,h2,h3⟩:=h;obtain⟨ax,k1,k2,k3,k4⟩:=hq.h hb h2;exact⟨b,ax,by rw[hq.r];exact h1,k1,by rw[k2];exact h3⟩
 |aB β o n=>exact fF.jr h (hr β (by simp[PV.cn]))
 |rb β o n=>obtain⟨b,u,h1,h2,h3,h4,h5⟩:=h;exact⟨b,u,h1,h2,fun hx=>h3 (hX b hx),h4,h5.jr (hr β (by simp[PV.cn]))⟩
 |np γ i o=>have hq:=hr γ (by simp[PV.cn,PV.fh]);obtain⟨h0,b,hb,h1,h2,h3⟩:=h;obtain⟨ax,k1,k2,k3,k4⟩:=hq.h hb h2;exact⟨hq.b h0,b,ax,by rw[hq.r];exact h1,k1,by rw[k2];exact h3⟩
 |aI γ o n=>exact qE.jr h (hr γ (by simp[PV.cn,PV.fh]))
 |_=>exact Qu.sub h hX
theorem KT{cs:List PV}(h:∀c∈cs,(∀ds,c≠ .agg ds)/\∀ds,c≠ .bo ds):(fo cs).aS=cs:=by
 match cs,h with
 | [],_=>rfl
 | [c],h=>
  obtain⟨h1,h2⟩:=h c (by simp);cases c with
  |agg ds=>exact absurd rfl (h1 ds)
  |bo ds=>exact absurd rfl (h2 ds)
  |_=>rfl
 |c::d::cs,_=>simp only[fo,pq];split<;>rfl
theorem df.one{p:PV}{v:Value}(h:df C ρ hp w p v):(∀ds,p≠ .agg ds)/\∀ds,p≠ .bo ds:=by refine⟨fun ds e=>?_,fun ds e=>?_⟩<;>subst e<;>cases h
theorem Qn.jr{σ:Nat->Nat}{p:PV}{v:Value}(h:Qn C ρ hp w p v)(hX:∀b,aK C' ρ' hp' b->aK C ρ hp b)(hr:∀β∈p.refs++p.aQ,xc σ ρ ρ' hp hp' β):Qn C' ρ' hp' w (ch σ p) v:=by
 have hV:∀q u,Qu w (aK C ρ hp) q u->Qu w (aK C' ρ' hp') q u:=fun q u hq=>Qu.sub hq hX;cases p with
 |undef=>trivial
 |mp β i o=>exact dh.jr (w:=w) (p:=.mp β i o) h hX (by simpa[PV.refs,PV.aQ,PV.cn,PV.fh]using hr)
 |aB β o n=>exact dh.jr (w:=w) (p:=.aB β o n) h hX (by simpa[PV.refs,PV.aQ,PV.cn,PV.fh]using hr)
 |rb β o n=>exact dh.jr (w:=w) (p:=.rb β o n) h hX (by simpa[PV.refs,PV.aQ,PV.cn,PV.fh]using hr)
 |np γ i o=>exact dh.jr (w:=w) (p:=.np γ i o) h hX (by simpa[PV.refs,PV.aQ,PV.cn,PV.fh]using hr)
 |aI γ o n=>exact dh.jr (w:=w) (p:=.aI γ o n) h hX (by simpa[PV.refs,PV.aQ,PV.cn,PV.fh]using hr)
 |bo cs=>obtain⟨vs,rfl,h1,h2⟩:=h;refine⟨vs,rfl,by simpa using h1,fun i x hi=>?_⟩;simp only[Kas,Kaa]at hi;obtain⟨y,hy,rfl⟩:=hi;exact(h2 i y hy).jr hX fun β ae=>hr β (KbI _ (Kat.2 ⟨y,Kai hy,ae⟩))
 |dX cs=>obtain⟨vs,rfl,h1,h2⟩:=h;refine⟨vs,rfl,by simpa using h1,fun i x hi=>?_⟩;simp only[Kas,Kaa]at hi;obtain⟨y,hy,rfl⟩:=hi;exact(h2 i y hy).jr hX fun β ae=>hr β (KbI _ (Kat.2 ⟨y,Kai hy,ae⟩))
 | aC γ e ty xs=>
  obtain⟨h0,he,b,hb,cur,cap,h1,h2,h3,h4,h5,h6,h7,h8,h9,bp,bZ⟩:=h;have hq:=hr γ (by simp[PV.aQ]);have key:∀(i:Nat)(x:PV),xs[i]? =some x->∀(j:Nat)(y:PV),x.aS[j]? =some y->df C' ρ' hp' w (dW σ y) (cur.getD (i*e+j) undef):=fun i x hx j y hy=>
   (bZ i x hx j y hy).jr hX fun β ae=>hr β (KbI _ (Ka1 _ (Kat.2 ⟨x,Kai hx,Kat.2 ⟨y,Kai hy,ae⟩⟩)))
  have tk:∀(i:Nat)(x:PV),xs[i]? =some x->(fo (x.aS.map (dW σ))).aS=x.aS.map (dW σ):=fun i x hx=>by refine KT fun c hc=>?_;obtain⟨y,hy,rfl⟩:=Kaq.1 hc;obtain⟨j,hj⟩:=KaM hy;exact(key i x hx j y hj).one
  obtain⟨ax,k1,k2,k3,k4⟩:=hq.h hb h2;refine⟨hq.b h0,he,b,ax,cur,cap,by rw[hq.r];exact h1,k1,by rw[k4];exact h3,by rw[k2];exact h4,by rw[k3];exact h5,h6,h7,by simpa using h8,h9,fun i x hx=>?_,fun i x hx j y hy=>?_⟩
  ·simp only[Kas,Kaa]at hx;obtain⟨x0,bG,rfl⟩:=hx;rw[tk i x0 bG,Kal];exact bp i x0 bG
  ·simp only[Kas,Kaa]at hx;obtain⟨x0,bG,rfl⟩:=hx;rw[tk i x0 bG,Kas,Kaa]at hy;obtain⟨y0,du,rfl⟩:=hy;exact key i x0 bG j y0 du
 | fn f first cap=>
  obtain⟨fv,cv,rfl,h1,h2,h3,h4⟩:=h;have hm:∀(l:List PV)(x:PV),x∈l->∀β∈x.cn++x.fh,β∈l.flatMap PV.cn++l.flatMap PV.fh:=fun l x hx β ae=>by
   rcases KaL.1 ae with ae|ae
   ·exact Kcn _ (Kat.2 ⟨x,hx,ae⟩)
   ·exact KbI _ (Kat.2 ⟨x,hx,ae⟩)
  refine⟨fv,cv,rfl,by simpa using h1,by simpa using h2,fun i x hi=>?_,fun i x hi=>?_⟩
  ·simp only[Kas,Kaa]at hi;obtain⟨y,hy,rfl⟩:=hi;refine(h3 i y hy).jr hX fun β ae=>hr β ?_;have:=hm first y (Kai hy) β ae
   simp only[PV.refs,PV.aQ,KaL]at this⊢;rcases this with h|h
   ·exact .inl (.inl h)
   ·exact .inr (.inl h)
  ·simp only[Kas,Kaa]at hi;obtain⟨y,hy,rfl⟩:=hi;refine(h4 i y hy).jr hX fun β ae=>hr β ?_;have:=hm cap y (Kai hy) β ae;simp only[PV.refs,PV.aQ,KaL]at this⊢;rcases this with h|h
   ·exact .inl (.inr h)
   ·exact .inr (.inr h)
 |agg cs=>exact fE.move (p:=.agg cs) h hV
 |aH cs=>exact fE.move (p:=.aH cs) h hV
 |_=>exact hV _ _ h
theorem amN(σ τ:Nat->Nat)(h1:∀β hb,hp β=some hb->hp' (σ β)=some hb/\τ (σ β)=β)(h2:∀γ hb,hp' γ=some hb->hp (τ γ)=some hb/\σ (τ γ)=γ)
  (hB:∀β,hp β≠none->bJ β=true->bJ (σ β)=true) (hY:∀β,hp β≠none->aR (σ β)=aR β/\(aR β=true->σ β=β)) (hf:∀s,aG s=ch σ (fr s)∨aG s= .undef):Wk fr hp aG hp':=by
 rintro C tmps w ⟨ρ,hs⟩;obtain⟨ρ',bK⟩:∃f:Nat->Option Nat,f=fun γ=>if hp' γ=none then none else ρ (τ γ):=⟨_,rfl⟩
 have hr:∀β,hp β≠none->xc σ ρ ρ' hp hp' β:=fun β ae=>by obtain⟨hb,hq⟩:=KbY.1 ae;obtain⟨a1,a2⟩:=h1 β hb hq;refine⟨?_,(fun hb hq=>⟨hb,(h1 β hb hq).1,rfl,rfl,rfl⟩),hB β ae⟩;rw[bK];simp only[];rw[if_neg (by rw[a1];simp),a2]
 have ax:∀γ hb,hp' γ=some hb->ρ' γ=ρ (τ γ):=fun γ hb hq=>by rw[bK];simp only[];rw[if_neg (by rw[hq];simp)]
 have hX:∀b,aK C ρ' hp' b->aK C ρ hp b:=by
  rintro b (hx|⟨γ,hg,g1,g2,g3⟩)
  ·exact .inl hx
  ·rw[ax γ hg g1]at g3;exact .inr ⟨τ γ,hg,(h2 γ hg g1).1,g2,g3⟩
 refine⟨ρ',hs.sz,hs.ext,hs.fT,fun γ hb aj=>?_,fun γ δ b g1 g2 g3 g4=>?_,fun i=>?_⟩
 ·obtain⟨a1,a2⟩:=h2 γ hb aj;obtain⟨q1,q2,q3,q4,q5⟩:=hs.own (τ γ) hb a1;obtain⟨y1,y2⟩:=hY (τ γ) (by simp[a1]);rw[a2]at y1 y2;refine⟨q1,q2,?_,fun hy=>?_,fun hR=>?_⟩
  rotate_left
  rotate_left
  ·have hy:aR γ=true:=by simp[eH]at hR;simp[aR];omega
   have e:=y2 (by rw[<-y1];exact hy);exact q5 (by rw[<-e];exact hR)
  ·rw[ax γ hb aj];cases hq:ρ (τ γ)with
   |none=>rw[hq]at q3;exact q3
   |some b=>
    rw[hq]at q3;refine⟨?_,q3.2.1,q3.2.2.move rfl rfl rfl rfl fun q u hq=>Qu.sub hq hX⟩;have:=q3.1;unfold Ctx.cls at this⊢;rw[y1];split at this
    ·rename_i hy;rw[if_pos hy,y2 hy];exact this
    ·rename_i hy;rw[if_neg hy];exact this
  ·rw[ax γ hb aj,q4 (by rw[<-y1];exact hy),<-y2 (by rw[<-y1];exact hy)]
 ·obtain⟨x1,k1⟩:=KbY.1 g1;obtain⟨x2,k2⟩:=KbY.1 g2;rw[ax γ x1 k1]at g3;rw[ax δ x2 k2]at g4;have:=hs.inj (τ γ) (τ δ) b (by rw[(h2 γ x1 k1).1];simp) (by rw[(h2 δ x2 k2).1];simp) g3 g4;rw[<-(h2 γ x1 k1).2,<-(h2 δ x2 k2).2,this]
 ·have bb:=hs.cN i;rcases hf i with e|e
  ·rw[e];exact bb.jr hX fun β ae=>hr β (by
    rcases KaL.1 ae with h|h
    ·exact bb.known.1 β h
    ·exact bb.known.2 β h)
  ·rw[e];trivial
def iJ(β δ x:Nat):Nat:=if x=β then δ else x
def tz(β δ:Nat)(fr:Fr):Fr:=fun s=>ch (iJ β δ) (fr s)
def I9(β δ:Nat)(hp:HP):HP:=fun x=>if x=δ then hp β else if x=β then none else hp x
theorem mP(β δ:Nat)(mE:hp δ=none)(h2:2000000<=δ)(hY:aR β=false)(aJ:β≠δ):Wk fr hp (tz β δ fr) (I9 β δ hp):=by
 have bδ:bJ δ=true:=by simp[bJ];omega
 have yδ:aR δ=false:=by simp[aR];omega
 refine amN (iJ β δ) (fun y=>if y=δ then β else y) (fun x hb hx=>?_) (fun y hb hy=>?_) (fun x hx hb=>?_) (fun x hx=>?_) (fun s=>.inl rfl)
 ·unfold iJ I9;by_cases e:x=β
  ·subst e;simp[hx]
  ·have e2:x≠δ:=fun e2=>by rw[e2,mE]at hx;cases hx
   simp[e,e2,hx]
 ·unfold I9 at hy;unfold iJ;by_cases e:y=δ
  ·subst e;simp at hy;simp[hy]
  ·rw[if_neg e]at hy;by_cases e2:y=β
   ·rw[if_pos e2]at hy;cases hy
   ·rw[if_neg e2]at hy;simp[e,e2,hy]
 ·unfold iJ;split
  ·exact bδ
  ·exact hb
 ·unfold iJ;split
  ·rename_i e;subst e;rw[yδ,hY];simp
  ·simp
theorem amO{β δ x:Nat}:I9 β δ hp x=if x=δ then hp β else if x=β then none else hp x:=rfl
theorem amP{β δ s:Nat}:tz β δ fr s=ch (iJ β δ) (fr s):=rfl
theorem amQ{β δ x:Nat}:iJ β δ x=if x=β then δ else x:=rfl
theorem aiC{β δ d:Nat}{v:PV}:tz β δ (af fr d v)=af (tz β δ fr) d (ch (iJ β δ) v):=by funext s;unfold tz af;split<;>rfl
theorem aiD{W:List (Nat×Nat)}{β δ:Nat}{J F:Fr}:tz β δ (aY W J F)=aY W (tz β δ J) (tz β δ F):=by funext s;unfold tz aY;split<;>rfl
theorem Tw{σ:Nat->Nat}{p:PV}(h:∀β∈p.cn++p.fh,σ β=β):dW σ p=p:=by
 cases p with
 |mp β=>simp only[dW];rw[h β (by simp[PV.cn])]
 |aB β=>simp only[dW];rw[h β (by simp[PV.cn])]
 |rb β=>simp only[dW];rw[h β (by simp[PV.cn])]
 |np β=>simp only[dW];rw[h β (by simp[PV.cn,PV.fh])]
 |aI β=>simp only[dW];rw[h β (by simp[PV.cn,PV.fh])]
 |_=>rfl
theorem ah3{σ:Nat->Nat}{p:PV}(h:wj p)(v7:∀β∈p.refs++p.aQ,σ β=β):ch σ p=p:=by
 have hm:∀(l:List PV),(∀β∈l.flatMap PV.cn++l.flatMap PV.fh,σ β=β)->l.map (dW σ)=l:=fun l hl=>by
  conv=>rhs;rw[<-List.map_id l]
  refine KaJ fun x hx=>Tw fun β ae=>hl β ?_;rcases KaL.1 ae with ae|ae
  ·exact Kcn _ (Kat.2 ⟨x,hx,ae⟩)
  ·exact KbI _ (Kat.2 ⟨x,hx,ae⟩)
 cases p with
 |aC γ e ty xs=>exact absurd rfl (h.2.2.1 _ _ _ _)
 |bo cs=>exact absurd rfl (h.2.2.2 _).1
 |dX cs=>exact absurd rfl (h.2.2.2 _).2
 | fn f a b=>
  simp only[ch];rw[hm a,hm b]
  ·intro β ae;refine v7 β ?_;simp only[PV.refs,PV.aQ,KaL]at ae⊢;rcases ae with h|h
   ·exact .inl (.inr h)
   ·exact .inr (.inr h)
  ·intro β ae;refine v7 β ?_;simp only[PV.refs,PV.aQ,KaL]at ae⊢;rcases ae with h|h
   ·exact .inl (.inl h)
   ·exact .inr (.inl h)
 |mp β=>simp only[ch,dW];rw[v7 β (by simp[PV.refs])]
 |aB β=>simp only[ch,dW];rw[v7 β (by simp[PV.refs])]
 |rb β=>simp only[ch,dW];rw[v7 β (by simp[PV.refs])]
 |np β=>simp only[ch,dW];rw[v7 β (by simp[PV.refs,PV.aQ])]
 |aI β=>simp only[ch,dW];rw[v7 β (by simp[PV.refs,PV.aQ])]
 |_=>rfl
theorem agV{B:List Nat}{F:Fr}{s β:Nat}(h:β∈(dk B F s).refs):B.contains β=false:=by
 cases hq:B.contains β with
 |false=>rfl
 |true=>
  unfold dk bO at h;split at h
  ·cases h
  ·rename_i hn;exact absurd (Ka6.2 ⟨β,h,hq⟩) hn
theorem ah4{B:List Nat}{F:Fr}{β δ:Nat}(ae:B.contains β=true∨2000000<=β)(awt:β<1000000∨2000000<=β):tz β δ (dk B F)=dk B F:=by
 funext s;have hc:=AX B F s;refine ah3 hc fun x hx=>if_neg fun e=>?_;subst e;rcases ae with ae|ae
 ·rcases KaL.1 hx with h|h
  ·rw[agV h]at ae;cases ae
  ·have h1:=hc.2.1 x h;simp[n8,nn]at h1;omega
 ·rcases KaL.1 hx with h|h
  ·have:=hc.1 x h;simp[nn]at this;omega
  ·have:=hc.2.1 x h;simp[n8,nn]at this;omega
end Go.FW
