/- Part 2 of the proof of CertcheckNames: FwP, FwQ, FwR, FwS, FwT, FwU, FwV, FwW, FwX, FwY, FwZ, FwBA, FwBB, FwBC, FwBD, FwBE, FwBF, FwBG, FwBH, FwCA, FwCB, FwCC, FwCD, FwCE, FwCF, FwCG, FwCH, FwCI, FwCJ, FwCK, FwCL, FwMA, FwMB, FwMC, FwPA, FwPB, FwPC, FwSA, FwSB, FwSC, FwTA, FwSet, FwSt, FwUB, FwNA, FwNB, FwND, FwNE. Own lemmas; no conditions. -/
import Derived.Test.YtccppnepkfbpkaaGreatCertcheckNamesPart1
import Derived.LoopN
import Derived.ChangeSame
import Derived.ChangeStays
import Derived.Deep.Slices
import Derived.OpenShut
import Derived.RowKit
import Derived.ProofKit
import Derived.JoinedCond
set_option maxHeartbeats 1000000
set_option linter.unusedSimpArgs false
set_option linter.unusedVariables false
set_option linter.unnecessarySimpa false
set_option maxRecDepth 100000
namespace Go.FW
open Go
variable {C : Ctx} {ρ : Nat -> Option Nat} {fr : Fr} {hp : HP} {w : World} {a : Act} {K R : Qh}
structure KU(C:Ctx)(R:Qh)(sk:List It)(Q:Exit->Act->World->Prop):Prop where
 rR:Ck C (vc C R sk) Q
 ext:∀id dW,FW.bW id sk=some dW->∀fr hp (a:Act) w,a.defers=[]->dB C fr hp a.tmps w->vc C R dW fr hp->Q (.exit id) a w
 ret:∀fr hp (a:Act) w,a.defers=[]->dB C fr hp a.tmps w->R fr hp->Q .ret a w
theorem Ei{sk:List It}{x y:SC}:vc C R (.c (.seq x y)::sk) fr hp=vc C R (.c x:: .c y::sk) fr hp:=by rw[vc]
theorem Dp{sk:List It}{id:Nat}{x:SC}:vc C R (.c (.block id x)::sk) fr hp=vc C R (.c x:: .eb id::sk) fr hp:=by rw[vc]
theorem DP{sk:List It}:vc C R (.c .skip::sk) fr hp=vc C R sk fr hp:=by rw[vc]
theorem GB{sk:List It}{r:RT}:vc C R (.c (.rg r)::sk) fr hp=vc C R (.o r::sk) fr hp:=by rw[vc]
theorem B1{sk:List It}{id:Nat}:vc C R (.eb id::sk) fr hp=vc C R sk fr hp:=by rw[vc]
theorem vr{sk:List It}{J:Qh}:vc C R (.el J::sk) fr hp=J fr hp:=by rw[vc]
theorem Ej{sk:List It}:vc C R (.c .ret::sk) fr hp=R fr hp:=by rw[vc]
theorem tL:vc C R [] fr hp=R fr hp:=by rw[vc]
def tN(c:PV)(A B:Prop):Prop:=match c with
 |.bool t=>(t=true->A)/\(t=false->B)
 |_=>False
theorem DQ{sk:List It}{c:aI}{x y:SC}:vc C R (.c (.cond c x y)::sk) fr hp=tN (ev fr c) (vc C R (.c x::sk) fr hp) (vc C R (.c y::sk) fr hp):=by rw[vc];rfl
def vt(C:Ctx)(R:Qh)(sk:Option (List It))(fr:Fr)(hp:HP):Prop:=match sk with
 |some sk=>vc C R sk fr hp
 |none=>False
theorem DR{sk:List It}{id:Nat}:vc C R (.c (.exit id)::sk) fr hp=vt C R (FW.bW id sk) fr hp:=by
 rw[vc];unfold vt;split
 ·rename_i h;rw[h]
 ·rename_i h;rw[h]
theorem wY{sk:List It}{x:SC}:vc C R (.c (.loop x)::sk) fr hp=∃(I:Qh)(μ:Fr->HP->Nat),(∃aJ aw,Wk fr hp aJ aw/\I aJ aw)/\∀fr hp,I fr hp->vc C R (.c x:: .el (fun aA hp'=>∃aJ aw,Wk aA hp' aJ aw/\I aJ aw/\μ aJ aw<μ fr hp)::sk) fr hp:=by rw[vc]
theorem Wk.refl(fr:Fr)(hp:HP):Wk fr hp fr hp:=fun _ _ _ h=>h
theorem Wk.trans{ma fc EN:Fr}{ft bI ot:HP}(h:Wk ma ft fc bI)(k:Wk fc bI EN ot):Wk ma ft EN ot:=fun C t w hs=>k C t w (h C t w hs)
def xI(I:Qh)(μ:Fr->HP->Nat)(n:Nat):Qh:=fun aA hp'=>∃aJ aw,Wk aA hp' aJ aw/\I aJ aw/\μ aJ aw<n
theorem aaz{sk:List It}{x:SC}(I:Qh)(μ:Fr->HP->Nat){aJ:Fr}{aw:HP}(hw:Wk fr hp aJ aw)(h0:I aJ aw)(h:∀fr hp,I fr hp->vc C R (.c x:: .el (xI I μ (μ fr hp))::sk) fr hp):vc C R (.c (.loop x)::sk) fr hp:=by rw[wY];exact⟨I,μ,⟨aJ,aw,hw,h0⟩,h⟩
theorem Ws{s:SC}(h:s.strip= .skip):s= .skip:=by cases s<;>simp[SC.strip]at h⊢
theorem XI{s:SC}(h:s.strip= .ret):s= .ret:=by cases s<;>simp[SC.strip]at h⊢
theorem Wt{s:SC}{id:Nat}(h:s.strip= .exit id):s= .exit id:=by cases s<;>simp[SC.strip]at h ⊢;exact h
theorem XJ{s:SC}{id:Nat}{ops:Array Oper}(h:s.strip= .raw id ops):s= .raw id ops:=by cases s<;>simp[SC.strip]at h ⊢;exact h
theorem XK{s a b:SC}(h:s.strip= .seq a b):∃a' b',s= .seq a' b'/\a'.strip=a/\b'.strip=b:=by cases s<;>simp[SC.strip]at h;exact⟨_,_,rfl,h.1,h.2⟩
theorem Wu{s a b:SC}{c:aI}(h:s.strip= .cond c a b):∃a' b',s= .cond c a' b'/\a'.strip=a/\b'.strip=b:=by
 cases s with
 |cond c' a' b'=>simp only[SC.strip,SC.cond.injEq]at h;obtain⟨rfl,h1,h2⟩:=h;exact⟨a',b',rfl,h1,h2⟩
 |_=>simp[SC.strip]at h
theorem Vd{s a:SC}{id:Nat}(h:s.strip= .block id a):∃a',s= .block id a'/\a'.strip=a:=by
 cases s with
 |block c' a'=>simp only[SC.strip,SC.block.injEq]at h;obtain⟨rfl,h1⟩:=h;exact⟨a',rfl,h1⟩
 |_=>simp[SC.strip]at h
theorem Wv{s a:SC}(h:s.strip= .loop a):∃a',s= .loop a'/\a'.strip=a:=by
 cases s with
 |loop a'=>simp only[SC.strip,SC.loop.injEq]at h;exact⟨a',rfl,h⟩
 |_=>simp[SC.strip]at h
theorem G7(hm:C.P.follows .mixedOrders=true):∀(c:Code)(s:SC)(sk:List It)(Q:Exit->Act->World->Prop)(fr:Fr)(hp:HP)(a:Act)(w:World),
  e7 C.P C.N c=some s.strip->KU C R sk Q->a.defers=[]->dB C fr hp a.tmps w->vc C R (.c s::sk) fr hp->c.wp C.P Q a w:=by
 intro c;induction c with
 |skip=>intro s sk Q fr hp a w hc hL hd hs hv;simp only[e7,Kaz]at hc;obtain rfl:=Ws hc.symm;rw[DP]at hv;exact wp_skip (hL.rR fr hp a w hd hs hv)
 | region id ops draw=>
  intro s sk Q fr hp a w hc hL hd hs hv;simp only[e7]at hc;split at hc
  ·rename_i s' dZ;rw[hc]at dZ;exact UI hm hL.rR dZ hd hs hv
  ·split at hc
   ·rename_i ux;obtain rfl:=XJ (Kac hc).symm;have anZ:draw=true:=ux;subst anZ;rw[vc]at hv;obtain⟨tmps,defers⟩:=a;simp only at hd hs;subst hd;exact hv tmps w Q hs (fun aA hp' uY w' dZ oz=>hL.rR aA hp' _ w' rfl dZ oz)
   ·cases hc
 |seq x y kK wF=>
  intro s sk Q fr hp a w hc hL hd hs hv;simp only[e7,Kab,Kaa]at hc;obtain⟨sx,hx,sy,hy,he⟩:=hc;obtain⟨sx,sy,rfl,rfl,rfl⟩:=XK he.symm;rw[Ei]at hv;refine wp_seq (kK sx (.c sy::sk) _ fr hp a w hx ⟨fun fr hp a w hd hs hv=>?_,fun id dW he fr hp a w hd hs hv=>?_,fun fr hp a w hd hs hv=>?_⟩ hd hs hv)
  ·exact wF sy sk Q fr hp a w hy hL hd hs hv
  ·exact hL.ext id dW (by simpa[FW.bW]using he) fr hp a w hd hs hv
  ·exact hL.ret fr hp a w hd hs hv
 | cond c x y kK wF=>
  intro s sk Q fr hp a w hc hL hd hs hv;simp only[e7,Kab,Kaa]at hc;obtain⟨pc,eX,sx,hx,sy,hy,he⟩:=hc;obtain⟨sx,sy,rfl,rfl,rfl⟩:=Wu he.symm;rw[DQ]at hv;obtain⟨ρ,ow⟩:=hs;have hr:=cn ow eX;unfold tN at hv;split at hv
  ·rename_i t ht;rw[ht]at hr;exact wp_cond_split hr.yh (fun h=>kK sx sk Q fr hp a w hx hL hd ⟨ρ,ow⟩ (hv.1 h)) (fun h=>wF sy sk Q fr hp a w hy hL hd ⟨ρ,ow⟩ (hv.2 h))
  ·exact hv.elim
 | block id x kK=>
  intro s sk Q fr hp a w hc hL hd hs hv;simp only[e7,Kaa]at hc;obtain⟨sx,hx,he⟩:=hc;obtain⟨sx,rfl,rfl⟩:=Vd he.symm;rw[Dp]at hv;refine wp_block (kK sx (.eb id::sk) _ fr hp a w hx ⟨fun fr hp a w hd hs hv=>?_,fun TJ dW he fr hp a w hd hs hv=>?_,fun fr hp a w hd hs hv=>?_⟩ hd hs hv)
  ·rw[B1]at hv;exact hL.rR fr hp a w hd hs hv
  ·simp only[FW.bW]at he;simp only[Exit.inBlock];by_cases hi:id=TJ
   ·subst hi;simp only[if_true]at he ⊢;cases he;exact hL.rR fr hp a w hd hs hv
   ·rw[if_neg hi]at he;rw[if_neg (fun e=>hi e.symm)];exact hL.ext TJ dW he fr hp a w hd hs hv
  ·exact hL.ret fr hp a w hd hs hv
 | loop x kK=>
  intro s sk Q fr hp a w hc hL hd hs hv;simp only[e7,Kaa]at hc;obtain⟨sx,hx,he⟩:=hc;obtain⟨sx,rfl,rfl⟩:=Wv he.symm;rw[wY]at hv;obtain⟨I,μ,⟨aJ,aw,hwk,h0⟩,aoT⟩:=hv;have key:∀(n:Nat)(fr:Fr)(hp:HP)(a:Act)(w:World),μ fr hp<n->I fr hp->a.defers=[]->dB C fr hp a.tmps w->Code.rounds C.P x Q n a w:=by
   intro n;induction n with
   |zero=>intro _ _ _ _ h;omega
   | succ n ih=>
    intro fr hp a w aq hI hd hs;rw[rounds_succ];refine kK sx _ _ fr hp a w hx ⟨fun aA hp' a' w' sY dZ oz=>?_,fun id dW he fr hp a w hd hs hv=>?_,fun fr hp a w hd hs hv=>?_⟩ hd hs (aoT fr hp hI)
    ·rw[vr]at oz;obtain⟨fc,bI,hw2,hI2,wb⟩:=oz;exact ih fc bI a' w' (by omega) hI2 sY (hw2 _ _ _ dZ)
    ·exact hL.ext id dW (by simpa[FW.bW]using he) fr hp a w hd hs hv
    ·exact hL.ret fr hp a w hd hs hv
  exact wp_loop_rounds (μ aJ aw+1) (key _ aJ aw a w (Kcv _) h0 hd (hwk _ _ _ hs))
 | exit id=>
  intro s sk Q fr hp a w hc hL hd hs hv;simp only[e7,Kaz]at hc;obtain rfl:=Wt hc.symm;rw[DR]at hv;unfold vt at hv;split at hv
  ·rename_i dW he;exact wp_exit (hL.ext id dW he fr hp a w hd hs hv)
  ·exact hv.elim
 |ret=>intro s sk Q fr hp a w hc hL hd hs hv;simp only[e7,Kaz]at hc;obtain rfl:=XI hc.symm;rw[Ej]at hv;exact wp_ret (hL.ret fr hp a w hd hs hv)
 |_=>intro s sk Q fr hp a w hc;simp[e7]at hc
theorem Hh(hm:C.P.follows .mixedOrders=true)(c:Code)(s:SC)(sk:List It)(Q:Exit->Act->World->Prop)(fr:Fr)(hp:HP)(a:Act)(w:World)
  (hc:e7 C.P C.N c=some s) (hL:KU C R sk Q) (hd:a.defers=[]) (hs:dB C fr hp a.tmps w) (hv:vc C R (.c s::sk) fr hp):c.wp C.P Q a w:=
 G7 hm c s sk Q fr hp a w (by rw[NX _ _ hc];exact hc) hL hd hs hv
def PV.mC:PV->PV->Prop
 |.aa,.sl _ []=>True
 |p,q=>p=q
def PV.BM:List PV->List PV->Prop
 | [],[]=>True
 |p::ps,q::qs=>PV.mC p q/\PV.BM ps qs
 |_,_=>False
def PV.le:PV->PV->Prop
 |.agg ps,.agg qs=>PV.BM ps qs
 |p,q=>PV.mC p q
def PV.FU:List PV->List PV->Prop
 | [],[]=>True
 |p::ps,q::qs=>PV.le p q/\PV.FU ps qs
 |_,_=>False
def PV.BN:PV->PV->Prop
 |.aG ps,.aG qs=>PV.FU ps qs
 |p,q=>PV.le p q
theorem zQ(p:PV):PV.mC p p:=by cases p<;>first|rfl|(unfold PV.mC;split<;>trivial)
theorem Lb:∀(l:List PV),PV.BM l l
 | []=>trivial
 |p::ps=>⟨zQ p,Lb ps⟩
theorem Qf(p:PV):PV.le p p:=by cases p<;>first|exact Lb _|(simp only[PV.le];exact zQ _)
theorem Qp.le{X:Nat->Prop}{p q:PV}{v:Value}(h:Qp w X p v)(hl:PV.mC p q):Qp w X q v:=by
 unfold PV.mC at hl;split at hl
 ·cases h;exact .mE _ _ _ (KbR _)
 ·subst hl;exact h
theorem Md:∀(ps qs:List PV),PV.BM ps qs->qs.length=ps.length/\∀(i:Nat)(q:PV),qs[i]? =some q->∃p,ps[i]? =some p/\PV.mC p q
 | [],[],_=>⟨rfl,by simp⟩
 | [],_::_,h=>h.elim
 |_::_,[],h=>h.elim
 |p::ps,q::qs,h=>by
  obtain⟨h1,h2⟩:=Md ps qs h.2;refine⟨by simp[h1],fun i x hx=>?_⟩;cases i with
  |zero=>simp at hx;subst hx;exact⟨p,rfl,h.1⟩
  |succ i=>simp at hx;simpa using h2 i x hx
theorem Iq:∀(ps qs:List PV),PV.FU ps qs->qs.length=ps.length/\∀(i:Nat)(q:PV),qs[i]? =some q->∃p,ps[i]? =some p/\PV.le p q
 | [],[],_=>⟨rfl,by simp⟩
 | [],_::_,h=>h.elim
 |_::_,[],h=>h.elim
 |p::ps,q::qs,h=>by
  obtain⟨h1,h2⟩:=Iq ps qs h.2;refine⟨by simp[h1],fun i x hx=>?_⟩;cases i with
  |zero=>simp at hx;subst hx;exact⟨p,rfl,h.1⟩
  |succ i=>simp at hx;simpa using h2 i x hx
theorem Q6.le{X:Nat->Prop}{p q:PV}{v:Value}(h:Q6 w X p v)(hl:PV.le p q):Q6 w X q v:=by
 by_cases hp:∃ps,p= .agg ps
 ·obtain⟨ps,rfl⟩:=hp;by_cases hq:∃qs,q= .agg qs
  ·obtain⟨qs,rfl⟩:=hq;obtain⟨h1,h2⟩:=Md ps qs hl;obtain⟨vs,rfl,g1,g2⟩:=h;refine⟨vs,rfl,by omega,fun i x hx=>?_⟩;obtain⟨p,hp,hle⟩:=h2 i x hx;exact(g2 i p hp).le hle
  ·have:PV.mC (.agg ps) q:=by cases q<;>first|exact hl|exact absurd ⟨_,rfl⟩ hq
   have:q= .agg ps:=by
    unfold PV.mC at this;split at this
    ·rename_i h1;cases h1
    ·exact this.symm
   exact absurd ⟨_,this⟩ hq
 ·have h1:Qp w X p v:=by cases p<;>first|exact h|exact absurd ⟨_,rfl⟩ hp
  have h2:PV.mC p q:=by cases p<;>first|exact hl|exact absurd ⟨_,rfl⟩ hp
  exact Q6.qB (h1.le h2)
theorem eB.le{X:Nat->Prop}{p q:PV}{v:Value}(h:eB w X p v)(hl:PV.BN p q):eB w X q v:=by
 by_cases hp:∃ps,p= .aG ps
 ·obtain⟨ps,rfl⟩:=hp;by_cases hq:∃qs,q= .aG qs
  ·obtain⟨qs,rfl⟩:=hq;obtain⟨h1,h2⟩:=Iq ps qs hl;obtain⟨vs,rfl,g1,g2⟩:=h;refine⟨vs,rfl,by omega,fun i x hx=>?_⟩;obtain⟨p,hp,hle⟩:=h2 i x hx;exact(g2 i p hp).le hle
  ·have:PV.le (.aG ps) q:=by cases q<;>first|exact hl|exact absurd ⟨_,rfl⟩ hq
   have:PV.mC (.aG ps) q:=this;have:q= .aG ps:=by
    unfold PV.mC at this;split at this
    ·rename_i h1;cases h1
    ·exact this.symm
   exact absurd ⟨_,this⟩ hq
 ·have h1:Q6 w X p v:=by cases p<;>first|exact h|exact absurd ⟨_,rfl⟩ hp
  have h2:PV.le p q:=by cases p<;>first|exact hl|exact absurd ⟨_,rfl⟩ hp
  exact eB.TO (h1.le h2)
def oV (P : Program) (f : FuncId) : Prop := (P.funcs[f]?).any (fun fn => fn.body.isSome && fn.name != "runtime.NumGoroutine") = true
def Qd(P:Program)(f:FuncId)(args:List PV)(R:PV->Prop):Prop:=
 oV P f/\∀(w:World)(X:Nat->Prop)(bd:Array Value),(∀b,X b->b<w.heap.size)->bd.size=args.length->(∀(i:Nat)(x:PV),args[i]? =some x->Q6 w X x (bd.getD i undef))->
  Calls P f bd w fun e w'=>∃v r,e= .returned v/\Ext cg w w'/\eB w' X r v/\R r
theorem Qd.mono{P:Program}{f:FuncId}{args:List PV}{R R':PV->Prop}(h:Qd P f args R)(hr:∀r,R r->R' r):Qd P f args R':=
 ⟨h.1,fun w X bd h1 h2 h3=>(h.2 w X bd h1 h2 h3).mono fun _ _ ⟨v,r,e1,e2,e3,e4⟩=>⟨v,r,e1,e2,e3,hr r e4⟩⟩
theorem Qd.le{P:Program}{f:FuncId}{args args':List PV}{R:PV->Prop}(h:Qd P f args R)(hl:PV.FU args' args):Qd P f args' R:=by obtain⟨h1,h2⟩:=Iq _ _ hl;refine⟨h.1,fun w X bd g1 g2 g3=>h.2 w X bd g1 (by omega) (fun i x hx=>?_)⟩;obtain⟨p,hp,hle⟩:=h2 i x hx;exact(g3 i p hp).le hle
def gG(args:List PV):Fr:=fun i=>(args[i]?).getD .undef
def kg(fr:Fr)(hp:HP):RV->Prop
 |.t s=>(Qu hp (fr s)).aD=true
 |.cell s n ag=>match fr s with
  |.mp β i o=>match hp β with
   |some hb=>i<hb.xs.length/\o+n<=hb.e/\(ag=false->n=1)
   |none=>False
  |_=>False
def jC(fr:Fr)(hp:HP):RV->PV
 |.t s=>Qu hp (fr s)
 |.cell s n ag=>match fr s with
  |.mp β i o=>match hp β with
   |some hb=>dQ ag n o ((hb.xs[i]?).getD .undef)
   |none=>.undef
  |_=>.undef
def fD(rs:List RV)(R:PV->Prop):Qh:=fun fr hp=>match rs with
 | [r]=>kg fr hp r/\∃p,PV.le (jC fr hp r) p/\R p
 |rs=>(∀r∈rs,kg fr hp r)/\∃p,PV.BN (.aG (rs.map (jC fr hp))) p/\R p
def jL(tmps:Array Value):ResultVar->Sem Value
 |.tmp t=>pure (tmps.getD t undef)
 |.cell x t=>do loadVar t (<-asAddr (tmps.getD x undef))
def lr(fr:Fr):RV->List Nat
 |.t s=>(fr s).refs
 |.cell _ _ _=>[]
theorem Lc{l l':List Nat}(h:∀β∈l,β∈l'){b:Nat}(hx:aE C ρ (Qx hp l') b):aE C ρ (Qx hp l) b:=by
 rcases hx with hx|⟨γ,hg,h1,h2,h3⟩
 ·exact .inl hx
 ·obtain⟨iL,g1,_,_,_,g5,g6⟩:=zf h1;refine .inr ⟨γ,iL,?_,by rw[<-g5 h2];exact h2,h3⟩;have hn:γ ∉ l:=fun hl=>g6 h2 (h γ hl);unfold Qx;rw[if_neg (by simpa using hn)];exact g1
theorem zp:Qx hp []=hp:=by funext β;simp[Qx]
theorem Ww{p:PV}(h:(Qu hp p).aD=true):∀β∈p.refs,aM β=false:=by
 have h1:∀q:PV,(cq hp q).gz=true->∀β∈q.bw,aM β=false:=by
  intro q hq β aj;cases q with
  |mp γ i o=>simp only[PV.bw,Kay]at aj;subst aj;cases hy:aM β with
   |false=>rfl
   |true=>simp[cq,hy,PV.gz]at hq
  |au γ o n=>simp only[PV.bw,Kay]at aj;subst aj;cases hy:aM β with
   |false=>rfl
   |true=>simp[cq,hy,PV.gz]at hq
  |rb=>simp[cq,PV.gz]at hq
  |_=>cases aj
 intro β aj;cases p with
 |mp γ i o=>exact h1 (.mp γ i o) (by cases hq:cq hp (.mp γ i o)<;>simp_all[Qu,PV.aD,PV.gz]) β aj
 |au γ o n=>exact h1 (.au γ o n) (by cases hq:cq hp (.au γ o n)<;>simp_all[Qu,PV.aD,PV.gz]) β aj
 |rb=>simp[Qu,cq,PV.aD]at h
 |fn f first cap=>
  simp only[Qu,PV.aD,Kav,List.all_map,Kaq]at h;rcases KaM.1 aj with aj|aj
  ·obtain⟨x,hx,aj⟩:=Kap.1 aj;exact h1 x (h.1 x hx) β aj
  ·obtain⟨x,hx,aj⟩:=Kap.1 aj;exact h1 x (h.2 x hx) β aj
 |_=>cases aj
theorem aiE{rv:RV}(h:kg fr hp rv):∀β∈lr fr rv,aM β=false:=by
 cases rv with
 |t s=>exact Ww h
 |cell=>intro β aj;cases aj
theorem Ld{P:Program}(hP:C.P=P){r:ResultVar}{rv:RV}(hc:gf P r=some rv)(h:Qr C ρ fr hp a.tmps w)(ho:kg fr hp rv):
  ∃v,(jL a.tmps r).run P w= .ok v w/\Q6 w (aE C ρ (Qx hp (lr fr rv))) (jC fr hp rv) v:=by
 subst hP;cases r with
 |tmp t=>simp[gf]at hc;subst hc;exact⟨_,rfl,qJ h (h.cH t) (fun β aj=>aj) ho⟩
 | cell x t=>
  simp only[gf,Kab,Kaa]at hc;obtain⟨n,hn,ag,ja,rfl⟩:=hc;have hx:=h.cH x;simp only[kg]at ho;split at ho
  ·rename_i β i o om;rw[om]at hx;split at ho
   ·rename_i hb aj;obtain⟨h1,h2,h3⟩:=ho;obtain⟨b,dN,g1,g2,g3⟩:=hx.yO;rw[aj]at g2;cases g2;have bj:=h.own β hb aj;have aU:=bj.cD;rw[g1]at aU;obtain⟨_,lB,cur,cap,c1,c2,c3,c4,c5⟩:=aU;have fe:=Kag h1;have cX:=(bj.len i _ fe).1;have dw:i<cap:=by omega
    have o9:∀j,j<n->i*hb.e+o+j<cur.size:=fun j hj=>by rw[c2];exact mR dw h2 hj
    have bS:=ze (P:=C.P) (t:=t) (b:=b) (off:=i*hb.e+o) (vs:=Array.ofFn (n:=n) fun j=>cur.getD (i*hb.e+o+j.val) undef) hn ja h3 (by simp) w
     (fun j hj=>by rw[qG (f:=fun j=>cur.getD (i*hb.e+o+j) undef) hj];exact kR c1 (o9 j hj))
    obtain⟨V,hV⟩:∃V:Value,V=(if ag then .agg (Array.ofFn (n:=n) fun j=>cur.getD (i*hb.e+o+j.val) undef)else(Array.ofFn (n:=n) fun j=>cur.getD (i*hb.e+o+j.val) undef).getD 0 undef):=⟨_,rfl⟩
    rw[<-hV]at bS;refine⟨V,?_,?_⟩
    ·simp only[jL,g3,asAddr,Kao,KaX,Kak];exact bS
    ·have:Q6 w (aE C ρ hp) (dQ ag n o (hb.xs[i]'h1)) (if ag then .agg (Array.ofFn (n:=n) fun j=>cur.getD (i*hb.e+o+j.val) undef)else(Array.ofFn (n:=n) fun j=>cur.getD (i*hb.e+o+j.val) undef).getD 0 undef):=
      z5 (by simp) (by rw[cX];exact h2) h3 (fun j y hj hy=>by rw[qG (f:=fun j=>cur.getD (i*hb.e+o+j) undef) hj,Kb3];exact c5 i _ fe (o+j) y hy)
     simp only[jC,om,aj,fe,Kbd];rw[hV];simp only[lr,zp];exact this
   ·exact ho.elim
  ·exact ho.elim
theorem P4{P:Program}(hP:C.P=P)(h:Qr C ρ fr hp a.tmps w):∀(rl:List ResultVar)(rs:List RV),rl.mapM (gf P)=some rs->(∀r∈rs,kg fr hp r)->
  ∃vs:List Value,vs.length=rs.length/\(rl.mapM (jL a.tmps)).run P w= .ok vs w/\∀(i:Nat)(r:RV),rs[i]? =some r->∃v,vs[i]? =some v/\Q6 w (aE C ρ (Qx hp (rs.flatMap (lr fr)))) (jC fr hp r) v
 | [],rs,hc,_=>by simp at hc;subst hc;exact⟨[],rfl,by simp,by simp⟩
 | x::rl,rs,hc,ho=>by
  rw[Kcb]at hc;simp only[KbQ,Kcf,Kab,Kaz]at hc;obtain⟨r,hr,KJ,cG,rfl⟩:=hc;obtain⟨v,h1,h2⟩:=Ld hP hr h (ho r (by simp));obtain⟨vs,g1,g2,g3⟩:=P4 hP h rl KJ cG (fun q hq=>ho q (by simp[hq]));refine⟨v::vs,by simp[g1],by simp[Kcb,Kao,h1,g2],fun i q hq=>?_⟩;cases i with
  |zero=>simp at hq;subst hq;exact⟨v,rfl,h2.mono (fun _ _ _=>rfl) (fun _ _ hn hx=>hn (Lc (fun β aj=>by rw[KaR];exact Kca _ aj) hx)) (Kad _)⟩
  |succ i=>simp at hq;obtain⟨v',k1,k2⟩:=g3 i q hq;exact⟨v',by simpa using k1,k2.mono (fun _ _ _=>rfl) (fun _ _ hn hx=>hn (Lc (fun β aj=>by rw[KaR];exact Kbp _ aj) hx)) (Kad _)⟩
theorem Hi{P:Program}(hP:C.P=P){fn:Func}{rs:List RV}{Rr:PV->Prop}(hc:fn.results.toList.mapM (gf P)=some rs)(h:Qr C ρ fr hp a.tmps w)(hr:fD rs Rr fr hp):
  ∃v r,(results fn a.tmps).run P w= .ok v w/\eB w (aE C ρ (Qx hp (rs.flatMap (lr fr)))) r v/\(∀β∈rs.flatMap (lr fr),aM β=false)/\Rr r:=by
 have aW:(∀r∈rs,kg fr hp r):=by
  intro r dP
  match rs,hr,dP with
  | [r0],hr,dP=>simp at dP;subst dP;exact hr.1
  | [],hr,dP=>cases dP
  |r0::r1::rest,hr,dP=>exact hr.1 r dP
 have hN:∀β∈rs.flatMap (lr fr),aM β=false:=fun β aj=>by obtain⟨r,hr,aj⟩:=Kap.1 aj;exact aiE (aW r hr) β aj
 obtain⟨vs,hlen,bS,yI⟩:=P4 hP h _ rs hc aW;have eY:(results fn a.tmps).run P w= .ok (if h:vs.toArray.size=1 then vs.toArray[0]else .tuple vs.toArray) w:=by
  have e:results fn a.tmps=(do let vs<-fn.results.mapM (jL a.tmps);pure (if h:vs.size=1 then vs[0]else .tuple vs)):=rfl;rw[e,Kbr];simp only[Kao];have h2:(List.toArray<$>fn.results.toList.mapM (jL a.tmps):Sem (Array Value)).run P w= .ok vs.toArray w:=by simp[bS]
  rw[h2];rfl
 match rs,hr,hlen,yI,hN with
 | [r0],hr,hlen,yI,hN=>
  have h1:vs.toArray.size=1:=by simpa using hlen
  rw[dif_pos h1]at eY;obtain⟨v,h2,h3⟩:=yI 0 r0 rfl;have e:vs.toArray[0]=v:=by
   have:vs[0]? =some (vs.toArray[0]):=by simp[hlen]
   rw[h2]at this;exact(Kac this).symm
  rw[e]at eY;obtain⟨_,p,hle,AX⟩:=hr;exact⟨_,_,eY,eB.TO (h3.le hle),hN,AX⟩
 | [],hr,hlen,yI,hN=>
  have h1:¬vs.toArray.size=1:=by simp[hlen]
  rw[dif_neg h1]at eY;obtain⟨_,p,hle,AX⟩:=hr;exact⟨_,_,eY,eB.le (p:=.aG []) ⟨vs.toArray,rfl,by simp[hlen],by simp⟩ hle,hN,AX⟩
 |r0::r1::rest,hr,hlen,yI,hN=>
  have h1:¬vs.toArray.size=1:=by simp[hlen]
  rw[dif_neg h1]at eY;obtain⟨_,p,hle,AX⟩:=hr;refine⟨_,_,eY,eB.le (p:=.aG ((r0::r1::rest).map (jC fr hp))) ⟨vs.toArray,rfl,by simp[hlen],fun i x hx=>?_⟩ hle,hN,AX⟩;simp only[Kat,Kaa]at hx;obtain⟨rv,hrv,rfl⟩:=hx;obtain⟨v,h2,h3⟩:=yI i rv hrv;rw[u7,Kae,h2];exact h3
theorem P5{P:Program}(hP:C.P=P){fn:Func}{rs:List RV}{Rr:PV->Prop}(hc:fn.results.toList.mapM (gf P)=some rs)(h:Qr C ρ fr hp a.tmps w)(hr:fD rs Rr fr hp):
  ∃v r,(results fn a.tmps).run P w= .ok v w/\eB w C.X0 r v/\Rr r:=by
 obtain⟨v,r,h1,h2,_,h3⟩:=Hi hP hc h hr;exact⟨v,r,h1,h2.mono (fun _ _ _=>rfl) (fun _ _ hn hx=>hn (.inl hx)) (Kad _),h3⟩
theorem Wx{P:Program}(hP:C.P=P){fn:Func}{rs:List RV}{Rr:PV->Prop}(hc:fn.results.toList.mapM (gf P)=some rs)(h:Qr C ρ fr hp a.tmps w)(hr:fD rs Rr fr hp)
  {X:Nat->Prop} (hX:∀c,X c->C.X0 c∨∃β hb,aM β=true/\hp β=some hb/\hb.fz=false/\ρ β=some c):
  ∃v r,(results fn a.tmps).run P w= .ok v w/\eB w X r v/\Rr r:=by
 obtain⟨v,r,h1,h2,h3,h4⟩:=Hi hP hc h hr;refine⟨v,r,h1,h2.mono (fun _ _ _=>rfl) (fun c _ hn hx=>hn ?_) (Kad _),h4⟩;rcases hX c hx with hx|⟨β,hb,k1,k2,k3,k4⟩
 ·exact .inl hx
 ·refine .inr ⟨β,hb,?_,k3,k4⟩;have hn:β ∉ rs.flatMap (lr fr):=fun hl=>by rw[h3 β hl]at k1;cases k1
  unfold Qx;rw[if_neg (by simpa using hn)];exact k2
theorem qK {P : Program} {f : FuncId} {fn : Func} {sf : ay} {args : List PV} {Rr : PV -> Prop} (hm : P.follows .mixedOrders = true) (hf : P.funcs[f]? = some fn) (oo : (fn.name != "runtime.NumGoroutine") = true) (hc : Qe P fn = some sf) (hn : args.length <= sf.n /\ sf.n <= 1000000)
  (hv:∀C:Ctx,C.P=P->vc C (fD sf.rs Rr) [.c sf.body] (gG args) aw):Qd P f args Rr:=by
 simp only[Qe,Kab,Kaa]at hc;obtain⟨c,hb,sb,jb,rs,cG,rfl⟩:=hc;refine⟨by simp[oV,hf,hb];simpa using oo,fun w X bd hX eE fw=>?_⟩
 let C:Ctx:=Ctx.plain P fn.ntmps w X hX hn.2
 refine calls_of_wp hf hb ?_;have rN:(bd++Array.replicate (fn.ntmps-bd.size) undef).size=fn.ntmps:=by simp at hn ⊢;omega
 have ov:dB C (gG args) aw (bd++Array.replicate (fn.ntmps-bd.size) undef) w:=by
  refine⟨fun _=>none,rN,Ext.refl _ _,(fun _ _ h=>by cases h),by simp[aw],by simp[aw],fun i=>?_⟩;unfold gG;cases hi:args[i]? with
  |none=>trivial
  | some p=>
   simp only[Kbd];have fI:i<bd.size:=by rw[eE];exact(Kaf.1 hi).1
   have hr:=fw i p hi;have e:(bd++Array.replicate (fn.ntmps-bd.size) undef).getD i undef=bd.getD i undef:=by rw[ko,if_pos fI]
   rw[e];refine Qm.lG (hr.mono (fun _ _ _=>rfl) (fun b _ hn hx=>?_) (Kad _));rcases hx with hx|⟨_,_,h1,_⟩
   ·exact hn hx
   ·simp[aw]at h1
 have fin:∀(fr:Fr)(hp:HP)(a:Act)(w':World),a.defers=[]->dB C fr hp a.tmps w'->fD rs Rr fr hp->
   a.defers=[]/\∃v,(results fn a.tmps).run P w'= .ok v w'/\∃v' r,Ending.returned v= .returned v'/\Ext cg w w'/\eB w' X r v'/\Rr r:=by
  intro fr hp a w' hd ⟨ρ,hs⟩ hr;obtain⟨v,r,h1,h2,h3⟩:=P5 (C:=C) rfl cG hs hr;exact⟨hd,v,h1,v,r,rfl,Ctx.KF hs.ext,h2,h3⟩
 exact Hh (C:=C) (R:=fD rs Rr) hm c sb [] _ (gG args) aw _ w jb ⟨fun fr hp a w' hd hs hv=>(by rw[tL]at hv;exact fin fr hp a w' hd hs hv),fun id dW he=>(by simp[FW.bW]at he),fin⟩ rfl ov (hv C rfl)
end Go.FW
namespace Go.FW
open Go
variable {C : Ctx} {ρ : Nat -> Option Nat} {fr : Fr} {hp : HP} {w : World} {a : Act} {K R : Qh}
def fQ(fr:Fr)(d:Option Nat)(r:PV):Fr:=match d with|some d=>ae fr d r|none=>fr
theorem Qm.F2{p:PV}{v:Value}(h:eB w (aE C ρ hp) p v):Qm C ρ hp w p v:=by
 cases p with
 |aG ps=>exact h
 |_=>exact Qm.lG h
theorem Ai{tmps:Array Value}(h:Qr C ρ fr hp tmps w):∀b,aE C ρ hp b->b<w.heap.size:=by
 rintro b (hx|⟨β,hb,h1,_,h3⟩)
 ·exact Kbi (C.AZ b hx) h.ext.size
 ·have:=(h.own β hb h1).cD;rw[h3]at this;exact this.2.1
theorem Qr.Gb{tmps:Array Value}{d:Option Nat}(h:Qr C ρ fr hp tmps w){p:PV}{v:Value}(hv:Qm C ρ hp w p v)(hd:∀x,d=some x->x<C.N):Qr C ρ (fQ fr d p) hp (tU tmps d v) w:=by
 cases d with
 |some d=>exact h.ae hv (hd d rfl)
 |none=>exact h
theorem Le{tmps:Array Value}{first cap args:List PV}{fv cv av:Array Value}(hs:Qr C ρ fr hp tmps w)(h1:fv.size=first.length)(_h2:cv.size=cap.length)(h3:av.size=args.length)
  (ou:∀(i:Nat)(x:PV),first[i]? =some x->cI C ρ hp w x (fv.getD i undef)) (my:∀(i:Nat)(x:PV),cap[i]? =some x->cI C ρ hp w x (cv.getD i undef)) (qt:∀(i:Nat)(x:PV),args[i]? =some x->Qm C ρ hp w x (av.getD i undef))
  (dx:((first++args++cap).map (Qu hp)).all PV.aD=true):
  ∀(i:Nat)(x:PV),((first++args++cap).map (Qu hp))[i]? =some x->Q6 w (aE C ρ (Qx hp ((first++args++cap).flatMap PV.refs))) x ((fv++av++cv).getD i undef):=by
 intro i x hx;rw[Kaq]at dx;have jf:=dx x (Kaj hx);simp only[Kat,Kaa]at hx;obtain⟨p,hp',rfl⟩:=hx;have im:=Kaj hp';have hl:∀β∈p.refs,β∈(first++args++cap).flatMap PV.refs:=fun β aj=>Kap.2 ⟨p,im,aj⟩;have Uf:∀ {p:PV} {v:Value},cI C ρ hp w p v->(Qu hp p).aD=true->Qm C ρ hp w p v:=by
  intro p v hr hd;cases p with
  |undef=>trivial
  |mp=>exact hr
  |au=>exact hr
  |rb=>exact hr
  |np=>exact hr
  |aH=>exact hr
  |_=>exact Qm.lG (Q6.qB hr)
 rw[ko];rw[Ka3]at hp';by_cases c1:i<(first++args).length
 ·rw[if_pos c1]at hp';rw[if_pos (by simp only[Kcd,h1,h3];simpa using c1),ko];rw[Ka3]at hp';by_cases c2:i<first.length
  ·rw[if_pos c2]at hp';rw[if_pos (by omega)];exact qJ hs (Uf (ou i p hp') jf) hl jf
  ·rw[if_neg c2]at hp';rw[if_neg (by omega),h1];exact qJ hs (qt _ p hp') hl jf
 ·rw[if_neg c1]at hp';have eE:(fv++av).size=(first++args).length:=by simp[h1,h3]
  rw[if_neg (by omega),eE];exact qJ hs (Uf (my _ p hp') jf) hl jf
theorem P6{P:Program}(hP:C.P=P){g:FuncId}{first cap args aQ:List PV}{pr:Bool}{d:Option Nat}{Rr:PV->Prop}(h:Qd P g aQ Rr)(cN:(first++args++cap).map (Qu hp)=aQ)(dx:aQ.all PV.aD=true)
  (hK:∀r,Rr r->K (fQ fr d r) (Qx hp ((first++args++cap).flatMap PV.refs))):fC C pr (.fn g first cap) args d fr hp K:=by
 subst hP;refine⟨h.1,fun ρ tmps w fv cv av qi hs h1 h2 h3 ou my qt=>?_⟩;have hf:=hs.freeze ((first++args++cap).flatMap PV.refs);refine(h.2 w _ (fv++av++cv) (Ai hf) (by rw[<-cN];simp[h1,h2,h3]) (by rw[<-cN];exact Le hs h1 h2 h3 ou my qt (by rw[cN];exact dx))).mono ?_;rintro e w' ⟨v,r,rfl,hx,hr,hRr⟩;exact⟨v,_,_,rfl,⟨ρ,(hf.grow hx).Gb (Qm.F2 hr) qi⟩,fun _=>hx,hK r hRr⟩
theorem oJ{P:Program}(hP:C.P=P){g:FuncId}{first cap args aQ:List PV}{pr:Bool}{d:Option Nat}{r:PV}(h:Qd P g aQ (· =r))(cN:(first++args++cap).map (Qu hp)=aQ)(dx:aQ.all PV.aD=true)
  (hK:K (fQ fr d r) (Qx hp ((first++args++cap).flatMap PV.refs))):fC C pr (.fn g first cap) args d fr hp K:=
 P6 hP h cN dx (fun _ hr=>hr▸hK)
def PV.Kp:PV->Bool
 |.int .. | .bool _=>true
 |.aG ps=>ps.all fun p=>match p with| .int .. | .bool _=>true|_=>false
 |_=>false
theorem aaA{X X':Nat->Prop}{p:PV}{v:Value}(hs:p.Kp=true)(h:eB w X p v):eB w X' p v:=by
 have one:∀(p:PV)(v:Value),(match p with| .int .. | .bool _=>true|_=>false:Bool)=true->Q6 w X p v->Q6 w X' p v:=by
  intro p v hs h;cases p with
  |int k n=>cases h;exact Qp.int k n
  |bool b=>cases h;exact Qp.bool b
  |_=>cases hs
 cases p with
 |int k n=>exact one (.int k n) v rfl h
 |bool b=>exact one (.bool b) v rfl h
 |aG ps=>obtain⟨vs,rfl,h1,h2⟩:=h;simp only[PV.Kp,Kaq]at hs;exact⟨vs,rfl,h1,fun i x hx=>one x _ (hs x (Kaj hx)) (h2 i x hx)⟩
 |_=>cases hs
def pQ(C:Ctx)(R:Qh)(c:PV)(x y:SC)(sk:List It)(fr:Fr)(hp:HP):Prop:=tN c (vc C R (.c x::sk) fr hp) (vc C R (.c y::sk) fr hp)
def sR(C:Ctx)(R:Qh)(x y:RT)(sk:List It)(fr:Fr)(hp:HP):Prop:=vc C R (.o x::sk) fr hp/\vc C R (.o y::sk) fr hp
def gU(C:Ctx)(p:PV)(s:Nat)(want:Bool)(o:ch)(fr:Fr)(hp:HP)(K:Qh):Prop:=match p with
  |.bool t=>(t=want->bh C o (ae fr s (.bool want)) hp K)/\(t=(!want)->jk o (ae fr s (.bool !want)) hp K)
  |.aG []=>jk o fr hp K
  |_=>False
theorem Qb{p:Prop}[Decidable p]{x y:SC}{sk:List It}(h1:p->vc C R (.c x::sk) fr hp)(h2:¬p->vc C R (.c y::sk) fr hp):pQ C R (.bool (decide p)) x y sk fr hp:=
 ⟨fun h=>h1 (of_decide_eq_true h),fun h=>h2 (of_decide_eq_false h)⟩
theorem zC{b:Bool}{x y:SC}{sk:List It}(h1:b=true->vc C R (.c x::sk) fr hp)(h2:b=false->vc C R (.c y::sk) fr hp):pQ C R (.bool b) x y sk fr hp:=⟨h1,h2⟩
theorem Q4{p:Prop}[Decidable p]{s:Nat}{o:ch}(h1:p->gU C (.bool true) s true o (ae fr s (.bool true)) hp K)(h2:¬p->gU C (.bool false) s true o (ae fr s (.bool false)) hp K):gU C (.bool (decide p)) s true o fr hp K:=by
 have hu:∀(b:Bool),ae (ae fr s (.bool b)) s (.bool b)=ae fr s (.bool b):=fun b=>by funext i;unfold ae;split<;>rfl
 refine⟨fun h=>?_,fun h=>?_⟩
 ·have:=(h1 (of_decide_eq_true h)).1 rfl
  rwa[hu]at this
 ·have:=(h2 (of_decide_eq_false h)).2 rfl
  rwa[show(!true)=false from rfl,hu]at this
theorem Qo{p:Prop}[Decidable p]{s:Nat}{o:ch}(h1:p->gU C (.bool true) s false o (ae fr s (.bool true)) hp K)(h2:¬p->gU C (.bool false) s false o (ae fr s (.bool false)) hp K):gU C (.bool (decide p)) s false o fr hp K:=by
 have hu:∀(b:Bool),ae (ae fr s (.bool b)) s (.bool b)=ae fr s (.bool b):=fun b=>by funext i;unfold ae;split<;>rfl
 refine⟨fun h=>?_,fun h=>?_⟩
 ·have:=(h2 (of_decide_eq_false h)).1 rfl
  rwa[hu]at this
 ·have:=(h1 (of_decide_eq_true h)).2 rfl
  rwa[show(!false)=true from rfl,hu]at this
theorem wZ{b want:Bool}{s:Nat}{o:ch}(h1:b=true->gU C (.bool true) s want o (ae fr s (.bool true)) hp K)(h2:b=false->gU C (.bool false) s want o (ae fr s (.bool false)) hp K):gU C (.bool b) s want o fr hp K:=by
 have:= @Q4 C fr hp K (b=true) _ s o;have e:b=decide (b=true):=by cases b<;>rfl
 rw[e];cases want with
 |true=>exact Q4 h1 (fun h=>h2 (by simpa using h))
 |false=>exact Qo h1 (fun h=>h2 (by simpa using h))
theorem aaB{sk:List It}{c:aI}{x y:SC}:vc C R (.c (.cond c x y)::sk) fr hp=pQ C R (ev fr c) x y sk fr hp:=DQ
theorem af4{sk:List It}{x y:RT}:vc C R (.o (.br x y)::sk) fr hp=sR C R x y sk fr hp:=NK
theorem af5{sk:List It}{o:ch}{r:RT}:vc C R (.o (.o none o r)::sk) fr hp=bh C o fr hp (vc C R (.o r::sk)):=Au
theorem af6{sk:List It}{s:Nat}{b:Bool}{o:ch}{r:RT}:vc C R (.o (.o (some (s,b)) o r)::sk) fr hp=gU C (fr s) s b o fr hp (vc C R (.o r::sk)):=Au
theorem vcs:
  (∀(C:Ctx)(R:Qh)(sk:List It)(x y:SC)(fr:Fr)(hp:HP),vc C R (.c (.seq x y)::sk) fr hp=vc C R (.c x:: .c y::sk) fr hp)/\
  (∀(C:Ctx)(R:Qh)(sk:List It)(id:Nat)(x:SC)(fr:Fr)(hp:HP),vc C R (.c (.block id x)::sk) fr hp=vc C R (.c x:: .eb id::sk) fr hp)/\
  (∀(C:Ctx)(R:Qh)(sk:List It)(fr:Fr)(hp:HP),vc C R (.c .skip::sk) fr hp=vc C R sk fr hp)/\
  (∀(C:Ctx)(R:Qh)(sk:List It)(r:RT)(fr:Fr)(hp:HP),vc C R (.c (.rg r)::sk) fr hp=vc C R (.o r::sk) fr hp)/\
  (∀(C:Ctx)(R:Qh)(sk:List It)(id:Nat)(fr:Fr)(hp:HP),vc C R (.eb id::sk) fr hp=vc C R sk fr hp)/\
  (∀(C:Ctx)(R:Qh)(sk:List It)(J:Qh)(fr:Fr)(hp:HP),vc C R (.el J::sk) fr hp=J fr hp)/\
  (∀(C:Ctx)(R:Qh)(sk:List It)(fr:Fr)(hp:HP),vc C R (.c .ret::sk) fr hp=R fr hp)/\
  (∀(C:Ctx)(R:Qh)(fr:Fr)(hp:HP),vc C R [] fr hp=R fr hp)/\
  (∀(C:Ctx)(R:Qh)(sk:List It)(c:aI)(x y:SC)(fr:Fr)(hp:HP),vc C R (.c (.cond c x y)::sk) fr hp=pQ C R (ev fr c) x y sk fr hp)/\
  (∀(C:Ctx)(R:Qh)(sk:List It)(id:Nat)(fr:Fr)(hp:HP),vc C R (.c (.exit id)::sk) fr hp=vt C R (FW.bW id sk) fr hp)/\
  (∀(C:Ctx)(R:Qh)(sk:List It)(fr:Fr)(hp:HP),vc C R (.o .nil::sk) fr hp=vc C R sk fr hp)/\
  (∀(C:Ctx)(R:Qh)(sk:List It)(o:ch)(r:RT)(fr:Fr)(hp:HP),vc C R (.o (.o none o r)::sk) fr hp=bh C o fr hp (vc C R (.o r::sk)))/\
  (∀(C:Ctx)(R:Qh)(sk:List It)(s:Nat)(b:Bool)(o:ch)(r:RT)(fr:Fr)(hp:HP),vc C R (.o (.o (some (s,b)) o r)::sk) fr hp=gU C (fr s) s b o fr hp (vc C R (.o r::sk)))/\
  (∀(C:Ctx)(R:Qh)(sk:List It)(x y:RT)(fr:Fr)(hp:HP),vc C R (.o (.br x y)::sk) fr hp=sR C R x y sk fr hp)/\
  (∀(C:Ctx)(R:Qh)(x y:SC)(sk:List It)(fr:Fr)(hp:HP),pQ C R (.bool true) x y sk fr hp=vc C R (.c x::sk) fr hp)/\
  (∀(C:Ctx)(R:Qh)(x y:SC)(sk:List It)(fr:Fr)(hp:HP),pQ C R (.bool false) x y sk fr hp=vc C R (.c y::sk) fr hp)/\
  (∀(C:Ctx)(R:Qh)(sk:List It)(fr:Fr)(hp:HP),vt C R (some sk) fr hp=vc C R sk fr hp)/\
  (∀(id:Nat)(s:SC)(sk:List It),FW.bW id (.c s::sk)=FW.bW id sk)/\
  (∀(id:Nat)(r:RT)(sk:List It),FW.bW id (.o r::sk)=FW.bW id sk)/\
  (∀(id:Nat)(J:Qh)(sk:List It),FW.bW id (.el J::sk)=FW.bW id sk)/\
  (∀(id i:Nat)(sk:List It),FW.bW id (.eb i::sk)=if i=id then some sk else FW.bW id sk)/\
  (∀(C:Ctx)(s:Nat)(o:ch)(fr:Fr)(hp:HP)(K:Qh),gU C (.bool true) s true o fr hp K=bh C o (ae fr s (.bool true)) hp K)/\
  (∀(C:Ctx)(s:Nat)(o:ch)(fr:Fr)(hp:HP)(K:Qh),gU C (.bool false) s true o fr hp K=jk o (ae fr s (.bool false)) hp K)/\
  (∀(C:Ctx)(s:Nat)(o:ch)(fr:Fr)(hp:HP)(K:Qh),gU C (.bool true) s false o fr hp K=jk o (ae fr s (.bool true)) hp K)/\
  (∀(C:Ctx)(s:Nat)(o:ch)(fr:Fr)(hp:HP)(K:Qh),gU C (.bool false) s false o fr hp K=bh C o (ae fr s (.bool false)) hp K)/\
  (∀(C:Ctx)(s:Nat)(b:Bool)(o:ch)(fr:Fr)(hp:HP)(K:Qh),gU C (.aG []) s b o fr hp K=jk o fr hp K):=by
 refine⟨fun _ _ _ _ _ _ _=>Ei,fun _ _ _ _ _ _ _=>Dp,fun _ _ _ _ _=>DP,fun _ _ _ _ _ _=>GB,fun _ _ _ _ _ _=>B1,fun _ _ _ _ _ _=>vr,fun _ _ _ _ _=>Ej,fun _ _ _ _=>tL,fun _ _ _ _ _ _ _ _=>aaB,
  fun _ _ _ _ _ _=>DR,fun _ _ _ _ _=>Ah,fun _ _ _ _ _ _ _=>af5,fun _ _ _ _ _ _ _ _ _=>af6,fun _ _ _ _ _ _ _=>af4,fun _ _ _ _ _ _ _=>?_,fun _ _ _ _ _ _ _=>?_,fun _ _ _ _ _=>rfl,fun _ _ _=>rfl,fun _ _ _=>rfl,fun _ _ _=>rfl,fun _ _ _=>rfl,?_,?_,?_,?_,fun _ _ _ _ _ _ _=>rfl⟩
 ·simp[pQ,tN]
 ·simp[pQ,tN]
 all_goals intros;simp[gU]
end Go.FW
namespace Go.FW
open Go
variable {C : Ctx} {fr : Fr} {hp : HP} {K R : Qh}
theorem vf{n:Int}(h1: -9223372036854775808<=n)(h2:n<=9223372036854775807):IntKind.i64.wrap n=n:=by rw[IntKind.wrap_i64];omega
theorem aaC{n:Int}(h1: -2147483648<=n)(h2:n<=2147483647):IntKind.i32.wrap n=n:=by rw[IntKind.wrap_i32];omega
theorem se{n:Int}(h1:0<=n)(h2:n<=18446744073709551615):IntKind.u64.wrap n=n:=by rw[IntKind.wrap_u64];omega
theorem Dq{n:Int}(h1:0<=n)(h2:n<=4294967295):IntKind.u32.wrap n=n:=by rw[IntKind.wrap_u32];omega
theorem aaD{n:Int}(h1:0<=n)(h2:n<=65535):IntKind.u16.wrap n=n:=by simp only[IntKind.wrap,IntKind.bits,IntKind.signed];simp;omega
theorem adf{n:Int}(h1:0<=n)(h2:n<=255):IntKind.u8.wrap n=n:=by rw[IntKind.wrap_u8];omega
theorem adg{x y:Int}(h:0<=x):x.tdiv y=x/y:=Int.tdiv_eq_ediv_of_nonneg h
theorem adh{x y:Int}(h:0<=x):x.tmod y=x%y:=Int.tmod_eq_emod_of_nonneg h
def iu(hb:Option HB)(n:Nat)(ag:Bool)(i o:Nat)(d:Nat)(fr:Fr)(hp:HP)(K:Qh):Prop:=match hb with
 |some hb=>∃h:i<hb.xs.length,o+n<=hb.e/\(ag=false->n=1)/\K (ae fr d (dQ ag n o (hb.xs[i]'h))) hp
 |none=>False
def stM (hb:Option HB) (β:Nat) (n:Nat) (i o:Nat) (v:PV) (fr:Fr) (hp:HP) (K:Qh):Prop:=match hb with
  |some hb=>hb.fz=false/\v.aD=true/\v.cells.length=n/\∃h:i<hb.xs.length,o+n<=hb.e/\
        K fr (Ql hp β { hb with xs:=hb.xs.set i (if n=hb.e then v else rU (hb.xs[i]'h) o v) })
  |none=>False
def vB(R:PV->Prop)(p:PV):Prop:=p.aD=true/\∃q,PV.le p q/\R q
theorem Qc{p r:PV}(h:p=r)(hd:r.aD=true):vB (· =r) p:=by subst h;exact⟨hd,_,Qf _,rfl⟩
theorem oK{p r:PV}(h:PV.le p r)(hd:p.aD=true):vB (· =r) p:=⟨hd,_,h,rfl⟩
theorem Me{e ty n:Nat}{ag fz:Bool}{o d:Nat}{x:PV}(h:o+n<=e)(ha:ag=false->n=1):iu (some ⟨e,ty,[x],fz⟩) n ag 0 o d fr hp K=K (ae fr d (dQ ag n o x)) hp:=by simp[iu,h];intro _;exact ha
theorem oN{e ty n i:Nat}{ag fz:Bool}{o d:Nat}{xs:List PV}(h:i<xs.length)(h1:o+n<=e)(ha:ag=false->n=1):iu (some ⟨e,ty,xs,fz⟩) n ag i o d fr hp K=K (ae fr d (dQ ag n o (xs[i]'h))) hp:=by simp[iu,h,h1];intro _;exact ha
theorem af7{e ty n β i:Nat}{o:Nat}{xs:List PV}{v:PV}(h:i<xs.length)(hv:v.aD=true)(hl:v.cells.length=n)(h1:o+n<=e):stM (some ⟨e,ty,xs,false⟩) β n i o v fr hp K=K fr (Ql hp β ⟨e,ty,xs.set i (if n=e then v else rU (xs[i]'h) o v),false⟩):=by simp[stM,h,h1,hv,hl]
theorem XL{ty n β i:Nat}{xs:List PV}{v:PV}(h:i<xs.length)(hv:v.aD=true)(hl:v.cells.length=n):stM (some ⟨n,ty,xs,false⟩) β n i 0 v fr hp K=K fr (Ql hp β ⟨n,ty,xs.set i v,false⟩):=by rw[af7 h hv hl (by omega)];simp
theorem Gi{e d:Nat}{k:IntKind}{m:Int}{xs:List PV}(h0:0<=m)(h:m<xs.length):Q7 e (.sl e xs) (.int k m) d fr hp K=K (ae fr d (.pt (xs[m.toNat]'(by omega)).cells)) hp:=by
 have:m.toNat<xs.length:=by omega
 simp[Q7,h0,this]
theorem vh{α:Type}{f:α->PV}{e d:Nat}{k:IntKind}{m:Int}{xs:List α}(h0:0<=m)(h:m<xs.length):Q7 e (.sl e (xs.map f)) (.int k m) d fr hp K=K (ae fr d (.pt (f (xs[m.toNat]'(by omega))).cells)) hp:=by rw[Gi h0 (by simpa using h)];simp
theorem Ek{e d β o n:Nat}{k:IntKind}{m:Int}(h0:0<=m)(h:m<n)(he:(hp β).map (·.e)=some e):Q7 e (.au β o n) (.int k m) d fr hp K=K (ae fr d (.mp β (o+m.toNat) 0)) hp:=by
 have:m.toNat<n:=by omega
 simp[Q7,h0,this,he]
theorem B2{e by_ ty d:Nat}{z:PV}{k k':IntKind}{L Cc:Int}(h0:0<e)(hz:z.cells.length=e)(h1:0<=L)(h2:L<=Cc)(h3:by_*Cc<=281474976710656)(h4:Cc<=9223372036854775807):
  nH e by_ ty z (.int k L) (.int k' Cc) d fr hp K=K (ae (bE d fr) d (.ms d L.toNat)) (Ql hp d ⟨e,ty,List.replicate L.toNat z,false⟩):=by
 simp[nH,h0,hz,h1,h2,h3,h4]
theorem af8{n ty d β o m:Nat}(hB:aM β=true):eQ n ty (.au β o m) d fr hp K=K (ae fr d (.rb β o m)) hp:=by simp[eQ,hB]
theorem aiF{d β o m:Nat}:bn 1 false (.rb β o m) d fr hp K=K (ae fr d (.au β o m)) hp:=by simp[bn]
theorem Hm{e by_ ty d:Nat}{x:PV}{ys:List PV}(hs:jj hp x=some (e,ys))(h0:0<e)(h1:ys.length*by_<=140737488355328)(h2:ys.length<=9223372036854775807):
  iF e by_ ty .aa x d fr hp K=K (ae (bE d fr) d (.ms d ys.length)) (Ql hp d ⟨e,ty,ys,false⟩):=by
 simp[iF,hs,h0,h1,h2]
theorem Hn{e by_ ty d β n:Nat}{x:PV}{ys xs:List PV}(hs:jj hp x=some (e,ys))(hb:hp β=some ⟨e,ty,xs,false⟩)(h0:0<e)(hn:n<=xs.length)(h1:(n+ys.length)*by_<=140737488355328)(h2:n+ys.length<=9223372036854775807)(hB:bB β=false:=by decide):
  iF e by_ ty (.ms β n) x d fr hp K=K (ae (bE β fr) d (.ms β (n+ys.length))) (Ql hp β ⟨e,ty,xs.take n++ys,false⟩):=by
 simp[iF,hs,hb,h0,hn,h1,h2,hB]
theorem GC{e d:Nat}{xs:List PV}{lo hi:Option PV}{L H:Int}(h1:gS 0 lo=some L)(h2:gS xs.length hi=some H)(h3:0<=L)(h4:L<=H)(h5:H<=xs.length):
  iw e (.sl e xs) lo hi none d fr hp K=K (ae fr d (.sl e ((xs.take H.toNat).drop L.toNat))) hp:=by
 have hM:gS (xs.length) none=some (xs.length:Int):=rfl;simp only[iw,h1,h2,hM];simp[h3,h4,h5]
theorem aiG{e d:Nat}{xs:List PV}{k:IntKind}{H:Int}(h4:0<=H)(h5:H<=xs.length):
  iw e (.sl e xs) none (some (.int k H)) none d fr hp K=K (ae fr d (.sl e (xs.take H.toNat))) hp:=by
 rw[GC (L:=0) (H:=H) rfl rfl (by omega) h4 h5];simp
theorem aiH{e d:Nat}{xs:List PV}{k:IntKind}{L:Int}(h4:0<=L)(h5:L<=xs.length):
  iw e (.sl e xs) (some (.int k L)) none none d fr hp K=K (ae fr d (.sl e (xs.drop L.toNat))) hp:=by
 rw[GC (L:=L) (H:=xs.length) rfl rfl h4 h5 (by omega)];simp
theorem apP:
  (∀(C:Ctx)(d:Nat)(x:aI)(fr:Fr)(hp:HP)(K:Qh),bh C (.mv d x) fr hp K=K (ae fr d (ev fr x)) hp)/\
  (∀(C:Ctx)(d:Nat)(c a b:aI)(fr:Fr)(hp:HP)(K:Qh),bh C (.pick d c a b) fr hp K=sF (ev fr c) (ev fr a) (ev fr b) d fr hp K)/\
  (∀(C:Ctx)(d:Nat)(op:BinOp)(bt:Bool)(a b:aI)(fr:Fr)(hp:HP)(K:Qh),bh C (.bin d op bt a b) fr hp K=bO op bt (ev fr a) (ev fr b) d fr hp K)/\
  (∀(C:Ctx)(d:Nat)(op:UnOp)(a:aI)(fr:Fr)(hp:HP)(K:Qh),bh C (.un d op a) fr hp K=uZ op (ev fr a) d fr hp K)/\
  (∀(C:Ctx)(d:Nat)(k:IntKind)(a:aI)(fr:Fr)(hp:HP)(K:Qh),bh C (.conv d k a) fr hp K=vu k (ev fr a) d fr hp K)/\
  (∀(C:Ctx)(d:Nat)(a:aI)(fr:Fr)(hp:HP)(K:Qh),bh C (.len d a) fr hp K=oU (ev fr a) d fr hp K)/\
  (∀(C:Ctx)(d:Nat)(a b:aI)(fr:Fr)(hp:HP)(K:Qh),bh C (.mx d a b) fr hp K=wL (ev fr a) (ev fr b) d fr hp K)/\
  (∀(C:Ctx)(d:Nat)(a b:aI)(fr:Fr)(hp:HP)(K:Qh),bh C (.mn d a b) fr hp K=wJ (ev fr a) (ev fr b) d fr hp K)/\
  (∀(C:Ctx)(d e:Nat)(a b:aI)(fr:Fr)(hp:HP)(K:Qh),bh C (.idx d e a b) fr hp K=Q7 e (ev fr a) (ev fr b) d fr hp K)/\
  (∀(C:Ctx)(d n e:Nat)(a b:aI)(fr:Fr)(hp:HP)(K:Qh),bh C (.wE d n e a b) fr hp K=kX n e (ev fr a) (ev fr b) d fr hp K)/\
  (∀(C:Ctx)(d n e:Nat)(ag:Bool)(a b:aI)(fr:Fr)(hp:HP)(K:Qh),bh C (.BJ d n e ag a b) fr hp K=xP n e ag (ev fr a) (ev fr b) d fr hp K)/\
  (∀(C:Ctx)(d off:Nat)(a:aI)(fr:Fr)(hp:HP)(K:Qh),bh C (.cc d off a) fr hp K=rf off (ev fr a) d fr hp K)/\
  (∀(C:Ctx)(d off n:Nat)(ag:Bool)(a:aI)(fr:Fr)(hp:HP)(K:Qh),bh C (.ym d off n ag a) fr hp K=qV off n ag (ev fr a) d fr hp K)/\
  (∀(C:Ctx)(d n:Nat)(ag:Bool)(a:aI)(fr:Fr)(hp:HP)(K:Qh),bh C (.ld d n ag a) fr hp K=bn n ag (ev fr a) d fr hp K)/\
  (∀(C:Ctx)(n:Nat)(a b:aI)(fr:Fr)(hp:HP)(K:Qh),bh C (.st n a b) fr hp K=nK n (ev fr a) (ev fr b) fr hp K)/\
  (∀(C:Ctx)(d n ty:Nat)(a:aI)(fr:Fr)(hp:HP)(K:Qh),bh C (.box d n ty a) fr hp K=eQ n ty (ev fr a) d fr hp K)/\
  (∀(C:Ctx)(d n ty:Nat)(z:PV)(fr:Fr)(hp:HP)(K:Qh),bh C (.alloc d n ty z) fr hp K=eQ n ty z d fr hp K)/\
  (∀(C:Ctx)(d e by_ ty:Nat)(z:PV)(l c:aI)(fr:Fr)(hp:HP)(K:Qh),bh C (.mk d e by_ ty z l c) fr hp K=nH e by_ ty z (ev fr l) (ev fr c) d fr hp K)/\
  (∀(C:Ctx)(d e ty:Nat)(ps:List aI)(fr:Fr)(hp:HP)(K:Qh),bh C (.bs d e ty ps) fr hp K=kE e ty (ps.map (ev fr)) d fr hp K)/\
  (∀(C:Ctx)(d e by_ ty:Nat)(a b:aI)(fr:Fr)(hp:HP)(K:Qh),bh C (.app d e by_ ty a b) fr hp K=iF e by_ ty (ev fr a) (ev fr b) d fr hp K)/\
  (∀(C:Ctx)(d e:Nat)(a b:aI)(fr:Fr)(hp:HP)(K:Qh),bh C (.uj d e a b) fr hp K=tT e (ev fr a) (ev fr b) d fr hp K)/\
  (∀(C:Ctx)(d e:Nat)(a:aI)(l h m:Option aI)(fr:Fr)(hp:HP)(K:Qh),bh C (.sl d e a l h m) fr hp K=iw e (ev fr a) (l.map (ev fr)) (h.map (ev fr)) (m.map (ev fr)) d fr hp K)/\
  (∀(C:Ctx)(d:Nat)(a:aI)(i:Nat)(fr:Fr)(hp:HP)(K:Qh),bh C (.ext d a i) fr hp K=lW (ev fr a) i d fr hp K)/\
  (∀(C:Ctx)(d:Nat)(z:List PV)(ps:List (Nat×Nat×aI))(fr:Fr)(hp:HP)(K:Qh),bh C (.dv d z ps) fr hp K=kC z (ps.map fun p=>(p.1,p.2.1,ev fr p.2.2)) d fr hp K)/\
  (∀(C:Ctx)(d f:Nat)(x y:List aI)(fr:Fr)(hp:HP)(K:Qh),bh C (.fn d f x y) fr hp K=((x.map (ev fr)++y.map (ev fr)).all PV.kL=true/\K (ae fr d (.fn f (x.map (ev fr)) (y.map (ev fr)))) hp))/\
  (∀(C:Ctx)(d:Option Nat)(pr:Bool)(f:aI)(yg:List aI)(fr:Fr)(hp:HP)(K:Qh),bh C (.call d pr f yg) fr hp K=fC C pr (ev fr f) (yg.map (ev fr)) d fr hp K)/\
  (∀(C:Ctx)(d:Option Nat)(x:aI)(fr:Fr)(hp:HP)(K:Qh),bh C (.BP d x) fr hp K=Ax (ev fr x) d fr hp K)/\
  (∀(fr:Fr)(n:Nat),ev fr (.t n)=fr n)/\(∀(fr:Fr)(p:PV),ev fr (.c p)=p):=by
 refine⟨?_,?_,?_,?_,?_,?_,?_,?_,?_,?_,?_,?_,?_,?_,?_,?_,?_,?_,?_,?_,?_,?_,?_,?_,?_,?_,?_,?_,?_⟩<;>intros<;>rfl
theorem apQ:
  (∀(bt:Bool)(k:IntKind)(x y:Int)(d:Nat)(fr:Fr)(hp:HP)(K:Qh),bO .add bt (.int k x) (.int k y) d fr hp K=K (ae fr d (.int k (k.wrap (x+y)))) hp)/\
  (∀(bt:Bool)(k:IntKind)(x y:Int)(d:Nat)(fr:Fr)(hp:HP)(K:Qh),bO .sub bt (.int k x) (.int k y) d fr hp K=K (ae fr d (.int k (k.wrap (x-y)))) hp)/\
  (∀(bt:Bool)(k:IntKind)(x y:Int)(d:Nat)(fr:Fr)(hp:HP)(K:Qh),bO .mul bt (.int k x) (.int k y) d fr hp K=K (ae fr d (.int k (k.wrap (x*y)))) hp)/\
  (∀(bt:Bool)(k:IntKind)(x y:Int)(d:Nat)(fr:Fr)(hp:HP)(K:Qh),bO .eql bt (.int k x) (.int k y) d fr hp K=K (ae fr d (.bool (decide (x=y)))) hp)/\
  (∀(bt:Bool)(k:IntKind)(x y:Int)(d:Nat)(fr:Fr)(hp:HP)(K:Qh),bO .neq bt (.int k x) (.int k y) d fr hp K=K (ae fr d (.bool (decide (¬x=y)))) hp)/\
  (∀(bt:Bool)(k:IntKind)(x y:Int)(d:Nat)(fr:Fr)(hp:HP)(K:Qh),bO .lss bt (.int k x) (.int k y) d fr hp K=K (ae fr d (.bool (decide (x<y)))) hp)/\
  (∀(bt:Bool)(k:IntKind)(x y:Int)(d:Nat)(fr:Fr)(hp:HP)(K:Qh),bO .leq bt (.int k x) (.int k y) d fr hp K=K (ae fr d (.bool (decide (x<=y)))) hp)/\
  (∀(bt:Bool)(k:IntKind)(x y:Int)(d:Nat)(fr:Fr)(hp:HP)(K:Qh),bO .gtr bt (.int k x) (.int k y) d fr hp K=K (ae fr d (.bool (decide (y<x)))) hp)/\
  (∀(bt:Bool)(k:IntKind)(x y:Int)(d:Nat)(fr:Fr)(hp:HP)(K:Qh),bO .geq bt (.int k x) (.int k y) d fr hp K=K (ae fr d (.bool (decide (y<=x)))) hp)/\
  (∀(x y:Bool)(d:Nat)(fr:Fr)(hp:HP)(K:Qh),bO .eql true (.bool x) (.bool y) d fr hp K=K (ae fr d (.bool (x==y))) hp)/\
  (∀(x y:Bool)(d:Nat)(fr:Fr)(hp:HP)(K:Qh),bO .neq true (.bool x) (.bool y) d fr hp K=K (ae fr d (.bool (!(x==y)))) hp)/\
  (∀(b:Bool)(d:Nat)(fr:Fr)(hp:HP)(K:Qh),uZ .not (.bool b) d fr hp K=K (ae fr d (.bool (!b))) hp)/\
  (∀(k:IntKind)(n:Int)(d:Nat)(fr:Fr)(hp:HP)(K:Qh),uZ .neg (.int k n) d fr hp K=K (ae fr d (.int k (k.wrap (0-n)))) hp)/\
  (∀(k k':IntKind)(n:Int)(d:Nat)(fr:Fr)(hp:HP)(K:Qh),vu k (.int k' n) d fr hp K=K (ae fr d (.int k (k.wrap n))) hp)/\
  (∀(d:Nat)(fr:Fr)(hp:HP)(K:Qh),oU .aa d fr hp K=K (ae fr d (.int .i64 0)) hp)/\
  (∀(e:Nat)(xs:List PV)(d:Nat)(fr:Fr)(hp:HP)(K:Qh),oU (.sl e xs) d fr hp K=K (ae fr d (.int .i64 xs.length)) hp)/\
  (∀(β o n:Nat)(d:Nat)(fr:Fr)(hp:HP)(K:Qh),oU (.au β o n) d fr hp K=K (ae fr d (.int .i64 n)) hp)/\
  (∀(k k':IntKind)(x y:Int)(d:Nat)(fr:Fr)(hp:HP)(K:Qh),wL (.int k x) (.int k' y) d fr hp K=K (ae fr d (.int k (max x y))) hp)/\
  (∀(k k':IntKind)(x y:Int)(d:Nat)(fr:Fr)(hp:HP)(K:Qh),wJ (.int k x) (.int k' y) d fr hp K=K (ae fr d (.int k (min x y))) hp)/\
  (∀(a b:PV)(d:Nat)(fr:Fr)(hp:HP)(K:Qh),sF (.bool true) a b d fr hp K=K (ae fr d a) hp)/\
  (∀(a b:PV)(d:Nat)(fr:Fr)(hp:HP)(K:Qh),sF (.bool false) a b d fr hp K=K (ae fr d b) hp)/\
  (∀(off β i o:Nat)(d:Nat)(fr:Fr)(hp:HP)(K:Qh),rf off (.mp β i o) d fr hp K=K (ae fr d (.mp β i (o+off))) hp)/\
  (∀(n:Nat)(ag:Bool)(β i o:Nat)(d:Nat)(fr:Fr)(hp:HP)(K:Qh),bn n ag (.mp β i o) d fr hp K=iu (hp β) n ag i o d fr hp K)/\
  (∀(c:PV)(cs:List PV)(d:Nat)(fr:Fr)(hp:HP)(K:Qh),bn 1 false (.pt (c::cs)) d fr hp K=K (ae fr d c) hp)/\
  (∀(n:Nat)(β i o:Nat)(v:PV)(fr:Fr)(hp:HP)(K:Qh),nK n (.mp β i o) v fr hp K=stM (Qx hp v.refs β) β n i o (Qu hp v) fr (Qx hp v.refs) K)/\
  (∀(ps:List PV)(p:PV)(d:Nat)(fr:Fr)(hp:HP)(K:Qh),lW (.aG (p::ps)) 0 d fr hp K=(p.aD=true/\K (ae fr d p) hp))/\
  (∀(ps:List PV)(p q:PV)(d:Nat)(fr:Fr)(hp:HP)(K:Qh),lW (.aG (p::q::ps)) 1 d fr hp K=(q.aD=true/\K (ae fr d q) hp))/\
  (∀(ps:List PV)(p q r:PV)(d:Nat)(fr:Fr)(hp:HP)(K:Qh),lW (.aG (p::q::r::ps)) 2 d fr hp K=(r.aD=true/\K (ae fr d r) hp))/\
  (∀(s:Nat)(Rr:PV->Prop)(fr:Fr)(hp:HP),fD [.t s] Rr fr hp=vB Rr (Qu hp (fr s)))/\
  (∀(e:Nat)(xs:List PV),jj aw (.sl e xs)=some (e,xs))/\
  (∀(hp:HP),Qx hp []=hp)/\
  (∀(fr:Fr)(r:PV),fQ fr none r=fr)/\(∀(fr:Fr)(d:Nat)(r:PV),fQ fr (some d) r=ae fr d r)/\
  (∀(β:Nat)(fr:Fr)(i:Nat),bE β fr i=bx β (fr i)):=by
 refine⟨?_,?_,?_,?_,?_,?_,?_,?_,?_,?_,?_,?_,?_,?_,?_,?_,?_,?_,?_,?_,?_,?_,?_,?_,?_,?_,?_,?_,?_,?_,?_,?_,?_,?_⟩<;>intros
 all_goals first
  |rfl
  |(simp[bO,sF,lW,bn,dQ,PV.cells,nK,stM];done)
  |(simp[bO,sF,lW,bn,dQ,PV.cells,nK,stM];try rfl)
  |skip
end Go.FW
namespace Go.FW
open Go
variable {C : Ctx} {ρ : Nat -> Option Nat} {fr : Fr} {hp : HP} {w : World} {K R : Qh}
theorem M1(i β e ty:Nat)(he:0<e)(hi:fr i= .aa)(hB:bB β=false:=by decide):Wk fr hp (ae (bE β fr) i (.ms β 0)) (Ql hp β ⟨e,ty,[],false⟩):=by
 rintro C tmps w ⟨ρ,hs⟩;have hr:=hs.rebind (w':=w) β none ⟨e,ty,[],false⟩ hB (Ext.refl _ _) (by simp) he (by simp) (by simp) (by simp);refine⟨_,hr.sz,hr.ext,hr.eG,hr.own,hr.inj,fun j=>?_⟩;unfold ae;split
 ·rename_i hj;subst hj;have:=hs.cH j;rw[hi]at this;have e:=Qm.wN this;exact⟨_,by simp[Ql];rfl,by simp,.inl ⟨gh _ _ _,e,rfl,rfl⟩⟩
 ·exact hr.cH j
end Go.FW
namespace Go.FW
open Go
variable {C : Ctx} {ρ : Nat -> Option Nat} {fr : Fr} {hp : HP} {w : World} {K R : Qh}
theorem adi(fr:Fr)(a:Nat)(v w:PV):ae (ae fr a v) a w=ae fr a w:=by funext i;unfold ae;split<;>rfl
theorem Hr{α:Type}{f:α->PV}{e d:Nat}{xs:List α}{k:IntKind}{H:Int}(h4:0<=H)(h5:H<=xs.length):
  iw e (.sl e (xs.map f)) none (some (.int k H)) none d fr hp K=K (ae fr d (.sl e ((xs.take H.toNat).map f))) hp:=by
 rw[aiG h4 (by simpa using h5)];simp
theorem Xg{α:Type}{f:α->PV}{e d:Nat}{xs:List α}{k:IntKind}{L:Int}(h4:0<=L)(h5:L<=xs.length):
  iw e (.sl e (xs.map f)) (some (.int k L)) none none d fr hp K=K (ae fr d (.sl e ((xs.drop L.toNat).map f))) hp:=by
 rw[aiH h4 (by simpa using h5)];simp
theorem Ve{α:Type}{f:α->PV}{e d:Nat}{xs:List α}{k k':IntKind}{L H:Int}(h3:0<=L)(h4:L<=H)(h5:H<=xs.length):
  iw e (.sl e (xs.map f)) (some (.int k L)) (some (.int k' H)) none d fr hp K=K (ae fr d (.sl e (((xs.take H.toNat).drop L.toNat).map f))) hp:=by
 rw[GC (L:=L) (H:=H) rfl rfl h3 h4 (by simpa using h5)];simp
theorem adj(hp:HP)(e:Nat)(xs:List PV):Qu hp (.sl e xs)= .sl e xs:=rfl
theorem aaE(hp:HP)(k:IntKind)(n:Int):Qu hp (.int k n)= .int k n:=rfl
theorem Xh(hp:HP)(b:Bool):Qu hp (.bool b)= .bool b:=rfl
theorem abc(hp:HP)(cs:List PV):Qu hp (.agg cs)= .agg cs:=rfl
theorem abd(hp:HP):Qu hp .aa= .aa:=rfl
theorem DS(hp:HP)(β n:Nat)(e ty:Nat)(xs:List PV)(fz:Bool)(h:hp β=some ⟨e,ty,xs,fz⟩)(hB:bB β=false:=by decide):Qu hp (.ms β n)= .sl e (xs.take n):=by simp[Qu,cq,h,xB hB]
theorem adk(e:Nat)(xs:List PV):(PV.sl e xs).refs=[]:=rfl
theorem abe(k:IntKind)(n:Int):(PV.int k n).refs=[]:=rfl
theorem Xi(b:Bool):(PV.bool b).refs=[]:=rfl
theorem abf(cs:List PV):(PV.agg cs).refs=[]:=rfl
theorem abg:PV.aa.refs=[]:=rfl
theorem abh(β e:Nat)(xs:List PV):bx β (.sl e xs)= .sl e xs:=rfl
theorem Xj(β:Nat)(k:IntKind)(n:Int):bx β (.int k n)= .int k n:=rfl
theorem Wy(β:Nat)(b:Bool):bx β (.bool b)= .bool b:=rfl
theorem Xk(β:Nat)(cs:List PV):bx β (.agg cs)= .agg cs:=rfl
theorem Xl(β:Nat):bx β .aa= .aa:=rfl
theorem Lf(β γ o n:Nat):bx β (.au γ o n)=if γ=β then .undef else .au γ o n:=by
 by_cases h:γ=β
 ·subst h;simp[bx,PV.refs]
 ·simp[bx,PV.refs,h];intro h';exact absurd h'.symm h
theorem abi(β γ o n:Nat):bx β (.rb γ o n)=if γ=β then .undef else .rb γ o n:=by
 by_cases h:γ=β
 ·subst h;simp[bx,PV.refs]
 ·simp[bx,PV.refs,h];intro h';exact absurd h'.symm h
theorem Lg(β γ i o:Nat):bx β (.mp γ i o)=if γ=β then .undef else .mp γ i o:=by
 by_cases h:γ=β
 ·subst h;simp[bx,PV.refs]
 ·simp[bx,PV.refs,h];intro h';exact absurd h'.symm h
theorem aiI:
  (∀(fr:Fr)(a:Nat)(v:PV)(b:Nat),ae fr a v b=if b=a then v else fr b)/\
  (∀(h:HP)(a:Nat)(v:HB)(b:Nat),Ql h a v b=if b=a then some v else h b)/\
  (∀(β:Nat),aw β=none)/\
  (∀(hp:HP)(e:Nat)(xs:List PV),Qu hp (.sl e xs)= .sl e xs)/\
  (∀(hp:HP)(k:IntKind)(n:Int),Qu hp (.int k n)= .int k n)/\
  (∀(hp:HP)(b:Bool),Qu hp (.bool b)= .bool b)/\
  (∀(hp:HP)(cs:List PV),Qu hp (.agg cs)= .agg cs)/\
  (∀(hp:HP),Qu hp .aa= .aa)/\
  (∀(e:Nat)(xs:List PV),(PV.sl e xs).refs=[])/\
  (∀(k:IntKind)(n:Int),(PV.int k n).refs=[])/\
  (∀(b:Bool),(PV.bool b).refs=[])/\
  (∀(cs:List PV),(PV.agg cs).refs=[])/\
  (PV.aa.refs=[])/\
  (∀(β o n:Nat),(PV.au β o n).refs=[β])/\
  (∀(β i o:Nat),(PV.mp β i o).refs=[β])/\
  (∀(β e:Nat)(xs:List PV),bx β (.sl e xs)= .sl e xs)/\
  (∀(β:Nat)(k:IntKind)(n:Int),bx β (.int k n)= .int k n)/\
  (∀(β:Nat)(b:Bool),bx β (.bool b)= .bool b)/\
  (∀(β:Nat)(cs:List PV),bx β (.agg cs)= .agg cs)/\
  (∀(β:Nat),bx β .aa= .aa)/\
  (∀(β γ o n:Nat),bx β (.au γ o n)=if γ=β then .undef else .au γ o n)/\
  (∀(β γ i o:Nat),bx β (.mp γ i o)=if γ=β then .undef else .mp γ i o)/\
  (∀(β γ o n:Nat),bx β (.rb γ o n)=if γ=β then .undef else .rb γ o n)/\
  (∀(β o n:Nat),(PV.rb β o n).refs=[β])/\
  (∀(o:ch)(fr:Fr)(hp:HP)(K:Qh),jk o fr hp K=match o.dst with|some d=>K (ae fr d (.aG [])) hp|none=>K fr hp)/\
  (∀(f:aI->PV),Option.map f none=none)/\(∀(f:aI->PV)(x:aI),Option.map f (some x)=some (f x))/\
  (∀(k:IntKind)(n:Int),(PV.int k n).cells=[.int k n])/\
  (∀(b:Bool),(PV.bool b).cells=[.bool b])/\
  (∀(e:Nat)(xs:List PV),(PV.sl e xs).cells=[.sl e xs])/\
  (∀(cs:List PV),(PV.agg cs).cells=cs):=by
 refine⟨fun _ _ _ _=>rfl,fun _ _ _ _=>rfl,fun _=>rfl,adj,aaE,Xh,abc,abd,adk,abe,Xi,abf,abg,fun _ _ _=>rfl,fun _ _ _=>rfl,abh,Xj,Wy,Xk,Xl,Lf,Lg,abi,fun _ _ _=>rfl,fun _ _ _ _=>rfl,fun _=>rfl,fun _ _=>rfl,fun _ _=>rfl,fun _=>rfl,fun _ _=>rfl,fun _=>rfl⟩
theorem aiJ{p:Nat->Prop}(h:∃m,p m):∃m,p m/\∀k,p k->m<=k:=by
 obtain⟨m,hm⟩:=h;induction m using Nat.strongRecOn with
 |ind m ih=>
  by_cases hk:∃k,k<m/\p k
  ·obtain⟨k,h1,h2⟩:=hk;exact ih k h1 h2
  ·exact⟨m,hm,fun k cP=>Nat.le_of_not_lt fun aq=>hk ⟨k,aq,cP⟩⟩
def xC(I:Nat->Qh)(n:Nat):Qh:=fun aA hp'=>∃aJ aw,Wk aA hp' aJ aw/\∃m,m<n/\I m aJ aw
theorem nL{I:Nat->Qh}{n m:Nat}(hl:m<n)(h:I m fr hp):xC I n fr hp:=⟨fr,hp,Wk.refl _ _,m,hl,h⟩
theorem HT{I:Nat->Qh}{n m:Nat}{aA:Fr}{hp':HP}(hl:m<n)(hw:Wk fr hp aA hp')(h:I m aA hp'):xC I n fr hp:=⟨aA,hp',hw,m,hl,h⟩
theorem zD{sk:List It}{x:SC}(I:Nat->Qh)(m0:Nat){aJ:Fr}{aw:HP}(hw:Wk fr hp aJ aw)(h0:I m0 aJ aw)(h:∀m fr hp,I m fr hp->vc C R (.c x:: .el (xC I m)::sk) fr hp):vc C R (.c (.loop x)::sk) fr hp:=by
 refine aaz (fun fr hp=>∃m,I m fr hp) (fun fr hp=>Classical.epsilon fun m=>I m fr hp/\∀k,I k fr hp->m<=k) hw ⟨m0,h0⟩ ?_;intro fr hp hI;have key:∀fr hp,(∃m,I m fr hp)->I (Classical.epsilon fun m=>I m fr hp/\∀k,I k fr hp->m<=k) fr hp/\∀k,I k fr hp->(Classical.epsilon fun m=>I m fr hp/\∀k,I k fr hp->m<=k)<=k:=fun fr hp hI=>Classical.epsilon_spec (aiJ hI);have e:xI (fun fr hp=>∃m,I m fr hp) (fun fr hp=>Classical.epsilon fun m=>I m fr hp/\∀k,I k fr hp->m<=k) (Classical.epsilon fun m=>I m fr hp/\∀k,I k fr hp->m<=k)=xC I (Classical.epsilon fun m=>I m fr hp/\∀k,I k fr hp->m<=k):=by
  funext aA hp';apply propext;constructor
  ·rintro⟨aJ,aw,h1,h2,h3⟩;exact⟨aJ,aw,h1,_,h3,(key aJ aw h2).1⟩
  ·rintro⟨aJ,aw,h1,m,h2,h3⟩;exact⟨aJ,aw,h1,⟨m,h3⟩,KcB ((key aJ aw ⟨m,h3⟩).2 m h3) h2⟩
 rw[e];exact h _ fr hp (key fr hp hI).1
theorem qL{sk:List It}{x:SC}(I:Nat->Qh)(m0:Nat)(h0:I m0 fr hp)(h:∀m fr hp,I m fr hp->vc C R (.c x:: .el (xC I m)::sk) fr hp):vc C R (.c (.loop x)::sk) fr hp:=
 zD I m0 (Wk.refl _ _) h0 h
theorem af9{α:Type}{e:Nat}{f:α->PV}:PV.le .aa (.sl e (([]:List α).map f)):=trivial
theorem Qa{P:Program}(hP:C.P=P){g:FuncId}{first cap args aQ:List PV}{pr:Bool}{d:Option Nat}{r:PV}(h:Qd P g aQ (· =r))(cN:(first++args++cap).map (Qu hp)=aQ)(dx:aQ.all PV.aD=true)(hr:(first++args++cap).flatMap PV.refs=[])
  (hK:K (fQ fr d r) hp):fC C pr (.fn g first cap) args d fr hp K:=by
 refine oJ hP h cN dx ?_;rw[hr];exact hK
theorem fM{P:Program}(hP:C.P=P){g:FuncId}{first cap args aQ:List PV}{pr:Bool}{d:Option Nat}{Rr:PV->Prop}(h:Qd P g aQ Rr)(cN:(first++args++cap).map (Qu hp)=aQ)(dx:aQ.all PV.aD=true)(hr:(first++args++cap).flatMap PV.refs=[])
  (hK:∀r,Rr r->K (fQ fr d r) hp):fC C pr (.fn g first cap) args d fr hp K:=by
 refine P6 hP h cN dx fun r h=>?_;rw[hr];exact hK r h
theorem adl{d β n ty:Nat}{xs ys:List PV}(hb:hp β=some ⟨1,ty,xs,false⟩)(hn:n=xs.length):
  tT 1 (.ms β n) (.sl 1 ys) d fr hp K=K (ae fr d (.int .i64 (min (ys.length:Int) n))) (Ql hp β ⟨1,ty,ys.take n++xs.drop ys.length,false⟩):=by
 simp[tT,jj,hb,hn]
theorem MX{by_ ty d:Nat}{kz k k':IntKind}{nz:Int}{L Cc:Int}(h1:0<=L)(h2:L<=Cc)(h3:by_*Cc<=281474976710656)(h4:Cc<=9223372036854775807):
  nH 1 by_ ty (.int kz nz) (.int k L) (.int k' Cc) d fr hp K=K (ae (bE d fr) d (.ms d L.toNat)) (Ql hp d ⟨1,ty,List.replicate L.toNat (.int kz nz),false⟩):=by
 exact B2 (e:=1) (by omega) rfl h1 h2 h3 h4
theorem MY{ty β i:Nat}{xs:List PV}{k:IntKind}{n:Int}(h:i<xs.length):stM (some ⟨1,ty,xs,false⟩) β 1 i 0 (.int k n) fr hp K=K fr (Ql hp β ⟨1,ty,xs.set i (.int k n),false⟩):=
 XL h rfl rfl
theorem Xm(h:HP)(a:Nat)(v w:HB):Ql (Ql h a v) a w=Ql h a w:=by funext i;unfold Ql;split<;>rfl
theorem aga{ty d:Nat}{k:IntKind}{n:Int}:kE 1 ty [.int k n] d fr hp K=K (ae (bE d fr) d (.ms d 1)) (Ql hp d ⟨1,ty,[.int k n],false⟩):=by simp[kE,mX,lN,AK,z4,Qu,cq,PV.refs,PV.aD,PV.cells];rfl
theorem gj{β n e ty:Nat}{xs:List PV}{fz:Bool}{r:PV}(hb:hp β=some ⟨e,ty,xs,fz⟩)(h:PV.sl e (xs.take n)=r)(hB:bB β=false:=by decide):vB (· =r) (Qu hp (.ms β n)):=by rw[DS hp β n e ty xs fz hb hB];exact Qc h (by rw[<-h];rfl)
theorem HU{e by_ ty ty' d β γ n:Nat}{xs:List PV}{y:PV}{fz:Bool}(hb:hp β=some ⟨e,ty,xs,false⟩)(hy:hp γ=some ⟨e,ty',[y],fz⟩)(h0:0<e)(hn:n=xs.length)(h1:(n+1)*by_<=140737488355328)(h2:n+1<=9223372036854775807)(hB:bB β=false:=by decide):
  iF e by_ ty (.ms β n) (.ms γ 1) d fr hp K=K (ae (bE β fr) d (.ms β (n+1))) (Ql hp β ⟨e,ty,xs++[y],false⟩):=by
 subst hn;rw[Hn (ys:=[y]) (xs:=xs) (by simp[jj,hy]) hb h0 (Kad _) (by simpa using h1) (by simpa using h2) hB];simp
theorem NW(n:Nat):IntKind.u16.wrap (n:Int)=((n%65536:Nat):Int):=by simp only[IntKind.wrap,IntKind.bits,IntKind.signed];simp
theorem Gj{bt:Bool}{k k':IntKind}{x y:Int}{d:Nat}(h:0<=y):bO .shr bt (.int k x) (.int k' y) d fr hp K=K (ae fr d (.int k (x.fdiv (2^(min y.toNat k.bits))))) hp:=by simp[bO,h]
theorem P7{bt:Bool}{k':IntKind}{n d:Nat}:bO .shr bt (.int .u64 (n:Int)) (.int k' 16) d fr hp K=K (ae fr d (.int .u64 ((n/65536:Nat):Int))) hp:=by
 rw[Gj (by omega)];have:min (16:Int).toNat IntKind.u64.bits=16:=by decide
 rw[this,KcK _ (by omega)];simp
theorem Xn{bt:Bool}{k':IntKind}{n d:Nat}:bO .shr bt (.int .u32 (n:Int)) (.int k' 16) d fr hp K=K (ae fr d (.int .u32 ((n/65536:Nat):Int))) hp:=by
 rw[Gj (by omega)];have:min (16:Int).toNat IntKind.u32.bits=16:=by decide
 rw[this,KcK _ (by omega)];simp
end Go.FW
namespace Go.FW
def val:List Nat->Nat
 | []=>0
 |x::xs=>x+65536*val xs
def Qj(l:List Nat):Prop:=∀x∈l,x<65536
def ak(n:Nat):List Nat:=if h:n=0 then []else n%65536::ak (n/65536)
termination_by n
decreasing_by omega
def nl(n:Nat):Nat:=(ak n).length
theorem nO:Qj []:=by simp[Qj]
theorem gB{x:Nat}{l:List Nat}:Qj (x::l)↔x<65536/\Qj l:=by simp[Qj]
theorem nM{l m:List Nat}:Qj (l++m)↔Qj l/\Qj m:=by
 simp only[Qj,KaM];constructor
 ·intro h;exact⟨fun x hx=>h x (.inl hx),fun x hx=>h x (.inr hx)⟩
 ·rintro⟨h1,h2⟩ x (hx|hx)
  ·exact h1 x hx
  ·exact h2 x hx
theorem w7{l:List Nat}(h:Qj l)(n:Nat):Qj (l.take n):=fun x hx=>h x (Ka8 hx)
theorem zq{l:List Nat}(h:Qj l)(n:Nat):Qj (l.drop n):=fun x hx=>h x (Kbt hx)
theorem dX{l:List Nat}(h:Qj l){i:Nat}(hi:i<l.length):l[i]<65536:=h _ (Kah hi)
theorem ff:ak 0=[]:=by rw[ak];simp
theorem tG{n:Nat}(h:n≠0):ak n=n%65536::ak (n/65536):=by rw[ak];simp[h]
theorem Qk(n:Nat):Qj (ak n):=by
 induction n using ak.induct with
 |case1=>rw[ff];exact nO
 |case2 n h ih=>rw[tG h,gB];exact⟨by omega,ih⟩
theorem Qt(n:Nat):val (ak n)=n:=by
 induction n using ak.induct with
 |case1=>rw[ff];rfl
 |case2 n h ih=>rw[tG h,val,ih];omega
theorem lH{n:Nat}:ak n=[]↔n=0:=by
 constructor
 ·intro h;have:=Qt n;rw[h]at this;exact this.symm
 ·rintro rfl;exact ff
theorem xv:nl 0=0:=by simp[nl,ff]
theorem w9{n:Nat}:nl n=0↔n=0:=by rw[nl,Kar,lH]
theorem agb{n:Nat}(h:n≠0):nl n=nl (n/65536)+1:=by simp[nl,tG h]
theorem mN(l m:List Nat):val (l++m)=val l+65536^l.length*val m:=by
 induction l with
 |nil=>simp[val]
 |cons x l ih=>simp only[KaK,val,ih,KaT,Kbz];rw[Ka1,<-Nat.mul_assoc,KaQ 65536 (65536^_)];omega
theorem oO{l:List Nat}(h:Qj l):val l<65536^l.length:=by
 induction l with
 |nil=>simp[val]
 |cons x l ih=>rw[gB]at h;have:=ih h.2;simp only[val,KaT,Kbz];omega
theorem P8(n:Nat):val (List.replicate n 0)=0:=by
 induction n with
 |zero=>rfl
 |succ n ih=>simp[KbJ,val,ih]
theorem z7{l:List Nat}(h:Qj l)(hl:l.getLast? ≠some 0):ak (val l)=l:=by
 induction l with
 |nil=>simp[val,ff]
 | cons x l ih=>
  rw[gB]at h;have rC:l.getLast? ≠some 0:=by intro hh;apply hl;rw[KcC,hh];rfl
  have aT:val (x::l)≠0:=by
   simp only[val];intro h0;have h1:val l=0:=by omega
   have:=ih h.2 rC;rw[h1,ff]at this;subst this;simp at hl;omega
  rw[tG aT];simp only[val];rw[show(x+65536*val l)%65536=x by omega,show(x+65536*val l)/65536=val l by omega,ih h.2 rC]
theorem HV(n:Nat):(ak n).getLast? ≠some 0:=by
 induction n using ak.induct with
 |case1=>simp[ff]
 | case2 n h ih=>
  rw[tG h,KcC];cases hd:(ak (n/65536)).getLast? with
  |none=>
   have:n/65536=0:=by rw[List.getLast?_eq_none_iff,lH]at hd;exact hd
   simp;omega
  |some y=>rw[hd]at ih;simpa using ih
def cut(l:List Nat):Nat->List Nat
 |0=>[]
 |n+1=>if l[n]? =some 0 then cut l n else l.take (n+1)
theorem M4{l:List Nat}(h:Qj l):∀n,n<=l.length->cut l n=ak (val (l.take n))
 |0,_=>by simp[cut,val,ff]
 | n+1,hn=>by
  have e:l.take (n+1)=l.take n++[l[n]]:=by rw[Kam (by omega)]
  unfold cut;split
  ·rename_i hz;rw[M4 h n (by omega),e,mN];rw[Kag (by omega)]at hz;have tj:l[n]=0:=by simpa using hz
   simp[val,tj]
  ·rename_i hz;rw[z7 (w7 h _)];rw[e,List.getLast?_concat];intro h0;apply hz;rw[Kag (by omega)];exact h0
theorem z8{l:List Nat}(h:Qj l):cut l l.length=ak (val l):=by rw[M4 h _ (Kad _),KaE]
theorem bF{l:List Nat}(h:Qj l):nl (val l)<=l.length:=by
 rw[nl,<-z8 h];have:∀n,(cut l n).length<=n:=by
  intro n;induction n with
  |zero=>simp[cut]
  |succ n ih=>
   unfold cut;split
   ·omega
   ·simp;omega
 have h1:=this l.length;exact h1
theorem mS{n k:Nat}:nl n<=k↔n<65536^k:=by
 induction k generalizing n with
 |zero=>simp[w9]
 | succ k ih=>
  by_cases h:n=0
  ·subst h;simp[xv];exact KbS (by omega)
  ·rw[agb h,Nat.add_le_add_iff_right,ih,Kbz,Kbf (by omega)]
theorem fh{m n:Nat}(h:m<=n):nl m<=nl n:=mS.2 (KcB h (mS.1 (Kad _)))
theorem Aj(m n:Nat):nl (m+n)<=max (nl m) (nl n)+1:=by rw[mS,Kbz];have h1:m<65536^(max (nl m) (nl n)):=mS.1 (by omega);have h2:n<65536^(max (nl m) (nl n)):=mS.1 (by omega);omega
theorem iP(m n:Nat):nl (m*n)<=nl m+nl n:=by rw[mS,Nat.pow_add];exact Nat.mul_lt_mul'' (mS.1 (Kad _)) (mS.1 (Kad _))
theorem qM{n:Nat}(h:n<18446744073709551616):nl n<=4:=mS.2 (by simpa using h)
theorem C8{n:Nat}:nl n<=4↔n<18446744073709551616:=by rw[mS]
theorem sr:ak 1=[1]:=by rw[tG (by omega)];simp[ff]
open Go
variable {C : Ctx} {ρ : Nat -> Option Nat} {fr : Fr} {hp : HP} {w : World} {K R : Qh}
abbrev bV(l:List Nat):List PV:=l.map fun(x:Nat)=>.int .u16 x
abbrev pU(l:List Int):List PV:=l.map fun(x:Int)=>.int .i64 x
theorem agc(a b:Nat):(a:Int)+(b:Int)=((a+b:Nat):Int):=rfl
theorem adm(a:Nat):(a:Int)+1=((a+1:Nat):Int):=rfl
theorem adn(a:Nat):(a:Int)+2=((a+2:Nat):Int):=rfl
theorem ado(a:Nat):(a:Int)+3=((a+3:Nat):Int):=rfl
theorem agd(a b:Nat):(a:Int)*(b:Int)=((a*b:Nat):Int):=rfl
theorem adp{α:Type}{f:α->PV}{e d:Nat}{k:IntKind}{i:Nat}{xs:List α}(h:i<xs.length):
  Q7 e (.sl e (xs.map f)) (.int k (i:Int)) d fr hp K=K (ae fr d (.pt (f (xs[i]'h)).cells)) hp:=by
 rw[vh (by omega) (by omega)];rfl
theorem adq{e d β o n i:Nat}{k:IntKind}(h:i<n)(he:(hp β).map (·.e)=some e):Q7 e (.au β o n) (.int k (i:Int)) d fr hp K=K (ae fr d (.mp β (o+i) 0)) hp:=by rw[Ek (by omega) (by omega) he];rfl
theorem age{α:Type}{f:α->PV}{e d:Nat}{xs:List α}{k:IntKind}{n:Nat}(h5:n<=xs.length):
  iw e (.sl e (xs.map f)) none (some (.int k (n:Int))) none d fr hp K=K (ae fr d (.sl e ((xs.take n).map f))) hp:=by
 rw[Hr (by omega) (by omega)];rfl
theorem agf{α:Type}{f:α->PV}{e d:Nat}{xs:List α}{k:IntKind}{n:Nat}(h5:n<=xs.length):
  iw e (.sl e (xs.map f)) (some (.int k (n:Int))) none none d fr hp K=K (ae fr d (.sl e ((xs.drop n).map f))) hp:=by
 rw[Xg (by omega) (by omega)];rfl
theorem abj{α:Type}{f:α->PV}{e d:Nat}{xs:List α}{k k':IntKind}{m n:Nat}(h4:m<=n)(h5:n<=xs.length):
  iw e (.sl e (xs.map f)) (some (.int k (m:Int))) (some (.int k' (n:Int))) none d fr hp K=K (ae fr d (.sl e (((xs.take n).drop m).map f))) hp:=by
 rw[Ve (by omega) (by omega) (by omega)];rfl
theorem agh{by_ ty d:Nat}{k k':IntKind}{n c:Nat}(h2:n<=c)(h3:by_*c<=281474976710656)(h4:c<=9223372036854775807):
  nH 1 by_ ty (.int .u16 0) (.int k (n:Int)) (.int k' (c:Int)) d fr hp K=K (ae (bE d fr) d (.ms d n)) (Ql hp d ⟨1,ty,bV (List.replicate n 0),false⟩):=by
 rw[MX (by omega) (by omega) (by omega) (by omega)];simp[bV]
theorem agi{ty i d:Nat}{fz:Bool}{l:List Nat}(h:i<l.length):iu (some ⟨1,ty,bV l,fz⟩) 1 false i 0 d fr hp K=K (ae fr d (.int .u16 (l[i]'h:Nat))) hp:=by rw[oN (by simpa using h) (by omega) (by simp)];simp[dQ,PV.cells]
theorem agj{ty i d:Nat}{fz:Bool}{l:List Int}(h:i<l.length):iu (some ⟨1,ty,pU l,fz⟩) 1 false i 0 d fr hp K=K (ae fr d (.int .i64 (l[i]'h))) hp:=by rw[oN (by simpa using h) (by omega) (by simp)];simp[dQ,PV.cells]
theorem M5{ty β i v:Nat}{l:List Nat}(h:i<l.length):stM (some ⟨1,ty,bV l,false⟩) β 1 i 0 (.int .u16 (v:Int)) fr hp K=K fr (Ql hp β ⟨1,ty,bV (l.set i v),false⟩):=by rw[MY (by simpa using h)];simp[bV,List.map_set]
theorem agk{ty β i:Nat}{v:Int}{l:List Int}(h:i<l.length):stM (some ⟨1,ty,pU l,false⟩) β 1 i 0 (.int .i64 v) fr hp K=K fr (Ql hp β ⟨1,ty,pU (l.set i v),false⟩):=by rw[MY (by simpa using h)];simp[pU,List.map_set]
theorem abk{β n ty:Nat}{l:List Nat}{fz:Bool}(h:hp β=some ⟨1,ty,bV l,fz⟩)(hn:n=l.length)(hB:bB β=false:=by decide):Qu hp (.ms β n)= .sl 1 (bV l):=by rw[DS hp β n _ _ _ _ h hB,Kai (by simp[hn])]
theorem vd{P:Program}(hP:C.P=P){g:FuncId}{first cap args aQ:List PV}{pr:Bool}{d:Option Nat}{r:PV}(h:Qd P g aQ (· =r))(cN:(first++args++cap).map (Qu hp)=aQ)(dx:aQ.all PV.aD=true)
  (hK:∀hp',K (fQ fr d r) hp'):fC C pr (.fn g first cap) args d fr hp K:=oJ hP h cN dx (hK _)
end Go.FW
namespace Go.FW
def gm(x y:Nat):Int:=if x<y then -1 else if y<x then 1 else 0
theorem Ir{x y:Nat}(h:x<y):gm x y= -1:=by simp[gm,h]
theorem Is{x y:Nat}(h:y<x):gm x y=1:=by simp[gm,h];omega
theorem Mf{x y:Nat}(h:x=y):gm x y=0:=by simp[gm,h]
theorem Lh{x y:Nat}(h:nl x<nl y):x<y:=by
 rcases KcR x y with h1|h1
 ·exact h1
 ·have:=fh h1;omega
theorem pB(l:List Nat)(k:Nat)(hk:k<=l.length):val l=val (l.take k)+65536^k*val (l.drop k):=by have:=mN (l.take k) (l.drop k);rw[Kbg,Kax,KbV hk]at this;exact this
theorem tv{l:List Nat}(h:Qj l)(k:Nat)(hk:k<=l.length):val (l.take k)<65536^k:=by
 have:=oO (w7 h k)
 rwa[Kax,KbV hk]at this
theorem lI{l:List Nat}{k:Nat}(hk:k<l.length):val (l.drop k)=l[k]+65536*val (l.drop (k+1)):=by rw[Kau hk,val]
theorem Vu{a b:List Nat}(ha:Qj a){k:Nat}(Fs:k<=a.length)(Bl:k<=b.length)(h:val (a.drop k)<val (b.drop k)):val a<val b:=by rw[pB a k Fs,pB b k Bl];have h1:=tv ha k Fs;have h2:65536^k*(val (a.drop k)+1)<=65536^k*val (b.drop k):=Kbc _ h;rw[Ka1]at h2;omega
theorem P9{a b:List Nat}(ha:Qj a){k:Nat}(Fs:k<a.length)(Bl:k<b.length)(h:a[k]<b[k])(he:val (a.drop (k+1))=val (b.drop (k+1))):val a<val b:=by refine Vu ha (k:=k) (by omega) (by omega) ?_;rw[lI Fs,lI Bl,he];omega
def iW:List Nat->List Nat->Nat->List Nat
 | [],_,c=>if c=0 then []else [c]
 |x::xs,ys,c=>(c+x+ys.headD 0)%65536::iW xs ys.tail ((c+x+ys.headD 0)/65536)
theorem zE(l:List Nat):val l=l.headD 0+65536*val l.tail:=by cases l<;>simp[val]
theorem Lj:∀(a b:List Nat)(c:Nat),b.length<=a.length->val (iW a b c)=val a+val b+c
 | [],b,c,h=>by have:b=[]:=Kar.1 (by simpa using h);subst this;unfold iW;split<;>simp[val];omega
 |x::xs,b,c,h=>by rw[iW,val,Lj xs b.tail _ (by simp at h ⊢;omega),val,zE b];omega
theorem OP:∀(a b:List Nat)(c:Nat),c<65536->Qj a->Qj b->b.length<=a.length->Qj (iW a b c)
 | [],b,c,hc,_,_,_=>by unfold iW;split<;>simp[Qj];exact hc
 |x::xs,b,c,hc,ha,hb,h=>by
  rw[gB]at ha;have lu:b.headD 0<65536:=by cases b with|nil=>simp|cons y ys=>exact hb _ (by simp)
  rw[iW,gB];exact⟨by omega,OP xs b.tail _ (by omega) ha.2 (fun x hx=>hb x (List.mem_of_mem_tail hx)) (by simp at h ⊢;omega)⟩
theorem QA:∀(a b:List Nat)(c:Nat),a.getLast? ≠some 0->(iW a b c).getLast? ≠some 0
 | [],b,c,_=>by unfold iW;split<;>simp;assumption
 | x::xs,b,c,h=>by
  rw[iW,KcC];cases xs with
  |nil=>
   simp only[List.getLast?_singleton,ne_eq,Kaz]at h;simp only[iW];generalize b.headD 0=y;split
   ·rename_i h0;simp;omega
   ·rename_i h0;simp;omega
  |cons y ys=>
   have ih:=QA (y::ys) b.tail ((c+x+b.headD 0)/65536) (by rw[KcC]at h;simpa[KcC]using h);cases hl:(iW (y::ys) b.tail ((c+x+b.headD 0)/65536)).getLast? with
   |none=>rw[List.getLast?_eq_none_iff]at hl;simp[iW]at hl
   |some z=>rw[hl]at ih;simpa using ih
theorem abl{x y:Nat}(h:nl y<=nl x):iW (ak x) (ak y) 0=ak (x+y):=by have h1:=Lj (ak x) (ak y) 0 h;rw[Qt,Qt,KaO]at h1;rw[<-h1,z7 (OP _ _ _ (by omega) (Qk x) (Qk y) h) (QA _ _ _ (HV x))]
def lZ:List Nat->List Nat->Nat->List Nat
 | [],_,_=>[]
 |x::xs,ys,c=>(x+65536-c-ys.headD 0)%65536::lZ xs ys.tail (if x<c+ys.headD 0 then 1 else 0)
theorem OQ:∀(a b:List Nat)(c:Nat),Qj (lZ a b c)
 | [],_,_=>nO
 |x::xs,b,c=>by rw[lZ,gB];exact⟨by omega,OQ xs _ _⟩
theorem Oh:∀(a b:List Nat)(c:Nat),(lZ a b c).length=a.length
 | [],_,_=>rfl
 |x::xs,b,c=>by simp[lZ,Oh xs]
theorem Lk:∀(a b:List Nat)(c:Nat),c<=1->Qj a->Qj b->b.length<=a.length->val b+c<=val a->val (lZ a b c)+val b+c=val a
 | [],b,c,_,_,_,h,h2=>by have:b=[]:=Kar.1 (by simpa using h);subst this;simp[val]at h2 ⊢;simp[lZ,val,h2]
 |x::xs,b,c,hc,ha,hb,h,h2=>by
  rw[gB]at ha;have lu:b.headD 0<65536:=by cases b with|nil=>simp|cons y ys=>exact hb _ (by simp)
  rw[val,zE b]at h2;rw[lZ,val,val,zE b];have ih:=Lk xs b.tail (if x<c+b.headD 0 then 1 else 0) (by split<;>omega) ha.2 (fun x hx=>hb x (List.mem_of_mem_tail hx)) (by simp at h ⊢;omega) (by generalize b.headD 0=y at *;split<;>omega);generalize b.headD 0=y at *
  split at ih
  ·rename_i h0;rw[if_pos h0];omega
  ·rename_i h0;rw[if_neg h0];omega
theorem zR{done:List Nat}{i n v:Nat}(h:done.length=i)(hn:0<n):(done++List.replicate n 0).set i v=(done++[v])++List.replicate (n-1) 0:=by
 subst h;obtain⟨n,rfl⟩:∃k,n=k+1:=⟨n-1,by omega⟩
 simp[KbJ]
theorem HW{done:List Nat}{i n m:Nat}(h:done.length=i)(hn:i+n=m):(done++List.replicate n 0).length=m:=by simp[h,hn]
theorem XV{a b:List Nat}{i c:Nat}(h:i<a.length):iW (a.drop i) (b.drop i) c=(c+a[i]+b.getD i 0)%65536::iW (a.drop (i+1)) (b.drop (i+1)) ((c+a[i]+b.getD i 0)/65536):=by rw[Kau h,iW];simp[KbG,Kcp,Kae]
theorem XW{a b:List Nat}{i c:Nat}(h:i<a.length):lZ (a.drop i) (b.drop i) c=(a[i]+65536-c-b.getD i 0)%65536::lZ (a.drop (i+1)) (b.drop (i+1)) (if a[i]<c+b.getD i 0 then 1 else 0):=by rw[Kau h,lZ];simp[KbG,Kcp,Kae]
theorem fN{b:List Nat}{i:Nat}(h:i<b.length):b.getD i 0=b[i]:=by simp[Kae,h]
theorem fO{b:List Nat}{i:Nat}(h:¬i<b.length):b.getD i 0=0:=by simp[Kae,h]
open Go
variable {C : Ctx} {ρ : Nat -> Option Nat} {fr : Fr} {hp : HP} {w : World} {K K' R : Qh}
theorem HX(h:∀fr hp,K fr hp->K' fr hp)(o:ch):bh C o fr hp K->bh C o fr hp K':=by
 cases o with
 | call d pr f args=>
  simp only[bh,fC];split
  ·rintro⟨h1,h2⟩;refine⟨h1,fun ρ tmps w fv cv av a1 a2 a3 a4 a5 a6 a7 a8=>(h2 ρ tmps w fv cv av a1 a2 a3 a4 a5 a6 a7 a8).mono ?_⟩;rintro e w' ⟨v,aA,hp',e1,e2,e3,e4⟩;exact⟨v,aA,hp',e1,e2,e3,h _ _ e4⟩
  ·exact id
 |bs d e ty ps=>
  simp only[bh,kE];split
  ·exact fun H=>⟨H.1,h _ _ H.2⟩
  ·exact fun H=>⟨H.1,H.2.1,h _ _ H.2.2⟩
 | app d e by_ ty s x=>
  simp only[bh,iF];intro H;revert H;split
  ·unfold xQ;split
   ·split
    ·rintro⟨a1,a2,a3,H⟩;refine⟨a1,a2,a3,?_⟩;revert H;split
     ·exact fun H=>⟨H.1,h _ _ H.2⟩
     ·split
      ·exact fun H=>⟨H.1,H.2.1,h _ _ H.2.2⟩
      ·exact id
     ·exact id
    ·exact id
   ·exact id
  ·rintro⟨h0,h1,H⟩;refine⟨h0,h1,?_⟩;revert H;split
   ·rintro⟨a,b,c⟩;exact⟨a,b,h _ _ c⟩
   ·split
    ·rintro(⟨a1,a2,a3,a4,a5,a6,a7,c⟩|⟨a1,a2,a3,c⟩)
     ·exact .inl ⟨a1,a2,a3,a4,a5,a6,a7,h _ _ c⟩
     ·exact .inr ⟨a1,a2,a3,h _ _ c⟩
    ·exact id
   ·exact id
 |bin d op bt x y=>
  simp only[bh,bO];intro H;revert H;split
  ·split<;>first|exact fun H=>⟨H.1,H.2.1,h _ _ H.2.2⟩|exact fun H=>⟨H.1,h _ _ H.2⟩|exact id
  ·split<;>first|exact fun H=>⟨H.1,h _ _ H.2⟩|exact id
  ·exact id
 | _=>
  simp only[bh,ra,re,vD,tR,sF,uZ,vu,oU,wL,wJ,Q7,kX,xP,rf,qV,bn,nK,eQ,tS,nH,kE,iF,tT,iw,lW,kC,Aw,Ax]
  try (intro H;revert H)
  try (repeat' split)
  all_goals first
   |exact id
   |exact h _ _
   |grind
theorem OR(h:∀fr hp,K fr hp->K' fr hp)(o:ch):jk o fr hp K->jk o fr hp K':=by unfold jk;split<;>exact h _ _
theorem XX(h:∀fr hp,K fr hp->K' fr hp)(g:Option (Nat×Bool))(o:ch):hZ C g o fr hp K->hZ C g o fr hp K':=by
 unfold hZ;split
 ·exact HX h o
 ·split
  ·exact fun H=>⟨fun e=>HX h o (H.1 e),fun e=>OR h o (H.2 e)⟩
  ·exact OR h o
  ·exact id
theorem M6{sk:List It}{g:Option (Nat×Bool)}{o:ch}{r:RT}:vc C R (.o (.o g o r)::sk) fr hp=hZ C g o fr hp (fun fr hp=>vc C R (.o r::sk) fr hp):=by rw[vc]
theorem M7{sk:List It}{x y:RT}:vc C R (.o (.br x y)::sk) fr hp=(vc C R (.o x::sk) fr hp/\vc C R (.o y::sk) fr hp):=by rw[vc]
theorem zr{id:Nat}{M:Qh}{sk:List It}:∀(pre:List It),(∃p,FW.bW id (pre++ .el M::sk)=some (p++ .el M::sk)/\FW.bW id (pre++sk)=some (p++sk)/\bG p<=bG pre)∨FW.bW id (pre++ .el M::sk)=FW.bW id (pre++sk)
 | []=>.inr rfl
 |.c s::pre=>by
  rcases zr (id:=id) (M:=M) (sk:=sk) pre with⟨p,h1,h2,h3⟩|h
  ·exact .inl ⟨p,h1,h2,by simp only[bG];omega⟩
  ·exact .inr h
 |.o s::pre=>by
  rcases zr (id:=id) (M:=M) (sk:=sk) pre with⟨p,h1,h2,h3⟩|h
  ·exact .inl ⟨p,h1,h2,by simp only[bG];omega⟩
  ·exact .inr h
 |.el s::pre=>by
  rcases zr (id:=id) (M:=M) (sk:=sk) pre with⟨p,h1,h2,h3⟩|h
  ·exact .inl ⟨p,h1,h2,by simp only[bG];omega⟩
  ·exact .inr h
 |.eb i::pre=>by
  by_cases hi:i=id
  ·exact .inl ⟨pre,by simp[FW.bW,hi],by simp[FW.bW,hi],by simp only[bG];omega⟩
  ·rcases zr (id:=id) (M:=M) (sk:=sk) pre with⟨p,h1,h2,h3⟩|h
   ·exact .inl ⟨p,by simp[FW.bW,hi,h1],by simp[FW.bW,hi,h2],by simp only[bG];omega⟩
   ·exact .inr (by simp[FW.bW,hi,h])
theorem z9{M:Qh}{sk:List It}(hM:∀fr hp,M fr hp->vc C R sk fr hp):∀(n:Nat)(pre:List It)(fr:Fr)(hp:HP),bG pre<=n->vc C R (pre++ .el M::sk) fr hp->vc C R (pre++sk) fr hp:=by
 intro n;induction n with
 | zero=>
  intro pre fr hp hn h;cases pre with
  |nil=>simp only[KaI,vr]at h ⊢;exact hM _ _ h
  |cons i pre=>
   exfalso;have:=SC.yW;cases i<;>simp only[bG,It.sz]at hn
   ·rename_i s;have:=SC.yW s;omega
   ·rename_i s;have:=RT.yW s;omega
   ·omega
   ·omega
 | succ n ih=>
  intro pre fr hp hn h;cases pre with
  |nil=>simp only[KaI,vr]at h ⊢;exact hM _ _ h
  | cons i pre=>
   cases i with
   |eb i=>simp only[KaK,B1]at h⊢;exact ih _ _ _ (by simp only[bG,It.sz]at hn;omega) h
   |el J=>simp only[KaK,vr]at h ⊢;exact h
   | o r=>
    cases r with
    |nil=>simp only[KaK,Ah]at h⊢;exact ih _ _ _ (by simp only[bG,It.sz,RT.sz]at hn;omega) h
    |o g o r=>simp only[KaK,M6]at h⊢;refine XX (fun fr hp h=>?_) g o h;exact ih (.o r::pre) _ _ (by simp only[bG,It.sz,RT.sz]at hn ⊢;omega) h
    |wk r=>simp only[KaK,Eh]at h⊢;obtain⟨aJ,aw,hw,h⟩:=h;exact⟨aJ,aw,hw,ih (.o r::pre) _ _ (by simp only[bG,It.sz,RT.sz]at hn ⊢;omega) h⟩
    |br x y=>simp only[KaK,M7]at h⊢;exact⟨ih (.o x::pre) _ _ (by simp only[bG,It.sz,RT.sz]at hn ⊢;omega) h.1,ih (.o y::pre) _ _ (by simp only[bG,It.sz,RT.sz]at hn ⊢;omega) h.2⟩
   | c s=>
    cases s with
    |skip=>simp only[KaK,DP]at h⊢;exact ih _ _ _ (by simp only[bG,It.sz,SC.sz]at hn;omega) h
    |rg r=>simp only[KaK,GB]at h⊢;exact ih (.o r::pre) _ _ (by simp only[bG,It.sz,SC.sz]at hn ⊢;omega) h
    |raw id ops=>simp only[KaK]at h⊢;rw[vc]at h⊢;intro tmps w Q hs hQ;refine h tmps w Q hs fun aA hp' uY w' dZ hv=>hQ aA hp' uY w' dZ ?_;exact ih _ _ _ (by simp only[bG,It.sz,SC.sz]at hn;omega) hv
    |seq a b=>simp only[KaK,Ei]at h⊢;exact ih (.c a:: .c b::pre) _ _ (by simp only[bG,It.sz,SC.sz]at hn ⊢;omega) h
    |block id a=>simp only[KaK,Dp]at h⊢;exact ih (.c a:: .eb id::pre) _ _ (by simp only[bG,It.sz,SC.sz]at hn ⊢;omega) h
    |ret=>simp only[KaK,Ej]at h ⊢;exact h
    |cond c x y=>
     simp only[KaK,DQ]at h⊢;unfold tN at h⊢;split at h
     ·exact⟨fun e=>ih (.c x::pre) _ _ (by simp only[bG,It.sz,SC.sz]at hn ⊢;omega) (h.1 e),fun e=>ih (.c y::pre) _ _ (by simp only[bG,It.sz,SC.sz]at hn ⊢;omega) (h.2 e)⟩
     ·exact h
    | exit id=>
     simp only[KaK,DR]at h⊢;rcases zr (id:=id) (M:=M) (sk:=sk) pre with⟨p,h1,h2,h3⟩|he
     ·rw[h1]at h;rw[h2];simp only[vt]at h⊢;exact ih _ _ _ (by simp only[bG,It.sz,SC.sz]at hn;omega) h
     ·rw[he]at h;exact h
    |loop a=>simp only[KaK,wY]at h⊢;obtain⟨I,μ,h1,h2⟩:=h;refine⟨I,μ,h1,fun fr hp hI=>?_⟩;exact ih (.c a:: .el _::pre) _ _ (by simp only[bG,It.sz,SC.sz]at hn ⊢;omega) (h2 fr hp hI)
theorem zF{c:PV}{x y:SC}{sk:List It}(M:Qh)(h:pQ C R c x y (.el M::sk) fr hp)(hM:∀fr hp,M fr hp->vc C R sk fr hp):pQ C R c x y sk fr hp:=by
 unfold pQ tN at h⊢;split at h
 ·exact⟨fun e=>z9 hM _ [.c x] _ _ (Kad _) (h.1 e),fun e=>z9 hM _ [.c y] _ _ (Kad _) (h.2 e)⟩
 ·exact h
end Go.FW
namespace Go.FW
open Go
variable {C : Ctx} {ρ : Nat -> Option Nat} {fr : Fr} {hp : HP} {w : World} {K K' R : Qh}
def Av(R:PV->Prop)(p q:PV):Prop:=(p.aD=true/\q.aD=true)/\∃r,PV.BN (.aG [p,q]) r/\R r
def GD(R:PV->Prop)(p q s:PV):Prop:=(p.aD=true/\q.aD=true/\s.aD=true)/\∃r,PV.BN (.aG [p,q,s]) r/\R r
def Nw(R:PV->Prop):Prop:=∃r,PV.BN (.aG []) r/\R r
theorem agl{a b:Nat}{Rr:PV->Prop}:fD [.t a,.t b] Rr fr hp=Av Rr (Qu hp (fr a)) (Qu hp (fr b)):=by simp[fD,Av,kg,jC]
theorem agm{a b c:Nat}{Rr:PV->Prop}:fD [.t a,.t b,.t c] Rr fr hp=GD Rr (Qu hp (fr a)) (Qu hp (fr b)) (Qu hp (fr c)):=by simp[fD,GD,kg,jC]
theorem agn{Rr:PV->Prop}:fD [] Rr fr hp=Nw Rr:=by simp[fD,Nw]
theorem cA{p q p' q' r:PV}(h:r= .aG [p',q'])(d1:p.aD=true)(d2:q.aD=true)(h1:PV.le p p')(h2:PV.le q q'):Av (· =r) p q:=⟨⟨d1,d2⟩,r,by subst h;exact⟨h1,h2,trivial⟩,rfl⟩
theorem tQ{p q s p' q' s' r:PV}(h:r= .aG [p',q',s'])(d1:p.aD=true)(d2:q.aD=true)(d3:s.aD=true)(h1:PV.le p p')(h2:PV.le q q')(h3:PV.le s s'):GD (· =r) p q s:=⟨⟨d1,d2,d3⟩,r,by subst h;exact⟨h1,h2,h3,trivial⟩,rfl⟩
theorem tD{p q:PV}(h:p=q):PV.le p q:=h▸Qf p
theorem zS{β n ty:Nat}{l:List Nat}{fz:Bool}(h:hp β=some ⟨1,ty,bV l,fz⟩)(hn:n=l.length)(hB:bB β=false:=by decide):(([]:List PV)++[PV.ms β n]++([]:List PV)).map (Qu hp)=[.sl 1 (bV l)]:=by simp[abk h hn hB]
theorem pE{n:Nat}(h:(ak n).length=0):ak n=[]:=Kar.1 h
abbrev PV.nat(l:List Nat):PV:=.sl 1 (bV l)
abbrev PV.num(n:Nat):PV:=PV.nat (ak n)
theorem xl:PV.le .aa (PV.num 0):=by rw[PV.num,ff];trivial
theorem z'{n:Nat}(h:n=0):PV.le .aa (PV.num n):=by subst h;exact xl
end Go.FW
namespace Go.FW
def jM:List Nat->List Nat->Nat->Nat->List Nat
 |r::rs,y::ys,x,c=>(c+(r+x*y))%65536::jM rs ys x ((c+(r+x*y))/65536)
 |_,_,_,c=>[c]
theorem Ll:∀(r b:List Nat)(x c:Nat),r.length=b.length->val (jM r b x c)=val r+x*val b+c
 | [],[],x,c,_=>by simp[jM,val]
 |r::rs,y::ys,x,c,h=>by rw[jM,val,Ll rs ys x _ (by simpa using h),val,val,Ka1 x,Kbw x 65536];generalize x*y=p;generalize x*val ys=q;omega
 | [],_::_,_,_,h=>by simp at h
 |_::_,[],_,_,h=>by simp at h
theorem tw{x y:Nat}(hx:x<65536)(hy:y<65536):x*y<=4294836225:=by have:=KbU (show x<=65535 by omega) (show y<=65535 by omega);omega
theorem O7:∀(r b:List Nat)(x c:Nat),c<65536->x<65536->Qj r->Qj b->Qj (jM r b x c)
 |r::rs,y::ys,x,c,hc,hx,hr,hb=>by rw[gB]at hr hb;have:=tw hx hb.1;rw[jM,gB];exact⟨by omega,O7 rs ys x _ (by omega) hx hr.2 hb.2⟩
 | [],_,x,c,hc,_,_,_=>by simp[jM,Qj];exact hc
 |_::_,[],x,c,hc,_,_,_=>by simp[jM,Qj];exact hc
theorem Oi:∀(r b:List Nat)(x c:Nat),r.length=b.length->(jM r b x c).length=r.length+1
 |r::rs,y::ys,x,c,h=>by simp[jM,Oi rs ys x _ (by simpa using h)]
 | [],[],x,c,_=>rfl
 | [],_::_,_,_,h=>by simp at h
 |_::_,[],_,_,h=>by simp at h
theorem DT{p t:List Nat}{r j:Nat}(h:p.length=j)(hj:j<(p++r::t).length):(p++r::t)[j]=r:=by subst h;simp
theorem nP{p t:List Nat}{r j v:Nat}(h:p.length=j):(p++r::t).set j v=p++v::t:=by subst h;simp
theorem za{l:List Nat}{i:Nat}(h:i<l.length):val (l.take (i+1))=val (l.take i)+65536^i*l[i]:=by rw[Kam h,mN,Kax,KbV (by omega)];simp[val]
theorem abm{a lo b:List Nat}{i:Nat}(h:i<a.length)(hl:lo.length=i+b.length)(hv:val lo=val (a.take i)*val b):
  val (lo.take i++jM (lo.drop i) b a[i] 0)=val (a.take (i+1))*val b:=by
 rw[mN,Ll _ _ _ _ (by simp[hl]),za h,Kax,KbV (by omega),KaG,<-hv,pB lo i (by omega),KaO,Ka1,Kba];omega
open Go
variable {C : Ctx} {ρ : Nat -> Option Nat} {fr : Fr} {hp : HP} {w : World} {K K' R : Qh}
def B0:Nat:=1000000
def mY(xs:List PV):Prop:=∀x∈xs,∃k n,x= .int k n
theorem qN(l:List Nat):mY (bV l):=by intro x hx;simp only[bV,KaF]at hx;obtain⟨n,_,rfl⟩:=hx;exact⟨_,_,rfl⟩
def nZ(w:World)(b:Nat)(ty:TypeId)(xs:List PV):Prop:=mY xs/\∃(cur:Array Value)(cap:Nat),w.heap[b]? =some (.cells cur ty (0,0))/\cur.size=cap*1/\xs.length<=cap/\cap<=maxLen/\
 ∀(i:Nat)(k:IntKind)(n:Int),xs[i]? =some (.int k n)->cur.getD i undef= .int k n
theorem nZ.jg{b:Nat}{ty:TypeId}{xs:List PV}{fz:Bool}{X:Nat->Prop}(h:nZ w b ty xs):xR w X b ⟨1,ty,xs,fz⟩:=by
 obtain⟨hi,cur,cap,h1,h2,h3,h4,h5⟩:=h;refine⟨cur,cap,h1,h2,h3,h4,fun i x hx j y hy=>?_⟩;obtain⟨k,n,rfl⟩:=hi x (Kaj hx);cases j with
 |zero=>simp[PV.cells]at hy;subst hy;rw[KbL,KaO,h5 i k n hx];exact Qp.int k n
 |succ j=>simp[PV.cells]at hy
theorem nZ.KD{b:Nat}{ty:TypeId}{xs:List PV}{fz:Bool}{X:Nat->Prop}(h:xR w X b ⟨1,ty,xs,fz⟩)(hi:mY xs):nZ w b ty xs:=by obtain⟨cur,cap,h1,h2,h3,h4,h5⟩:=h;refine⟨hi,cur,cap,h1,h2,h3,h4,fun i k n hx=>?_⟩;have:=h5 i _ hx 0 (.int k n) rfl;simp only[KbL,KaO]at this;generalize hg:cur.getD i undef=v at this;cases this;rfl
theorem Dw{xs:List PV}(h:mY xs):∀(i:Nat)(x:PV),xs[i]? =some x->x.cells.length=1/\x.aD=true:=by intro i x hx;obtain⟨k,n,rfl⟩:=h x (Kaj hx);exact⟨rfl,rfl⟩
def Rk(w:World)(b len:Nat)(o n:Nat)(v:Value):Prop:=o+n<=len/\∃cap,v= .slice (some ⟨b,o*1,none⟩) n cap/\cV w b 1 (o+cap)/\o+cap<=maxLen
def Un(w:World)(X:Nat->Prop)(b len:Nat)(p:PV)(v:Value):Prop:=match p with
 |.au β o n=>β=B0/\Rk w b len o n v
 |p=>Q6 w X p v
def Ri(w:World)(X:Nat->Prop)(b len:Nat)(p:PV)(v:Value):Prop:=match p with
 |.au β o n=>β=B0/\Rk w b len o n v
 |p=>eB w X p v
def xw(P:Program)(f:FuncId)(args:List PV)(ty:TypeId)(xs:List PV)(bb:PV->List PV->Prop):Prop:=
 oV P f/\∀(w:World)(X:Nat->Prop)(b:Nat)(bd:Array Value),(∀c,X c->c<w.heap.size)->X b->bd.size=args.length->nZ w b ty xs->0<xs.length->
  (∀(i:Nat)(x:PV),args[i]? =some x->Un w X b xs.length x (bd.getD i undef))->
  Calls P f bd w fun e w'=>∃v r xs',e= .returned v/\Ext (fun c=>c=b) w w'/\(∀e cap,cV w b e cap->cV w' b e cap)/\nZ w' b ty xs'/\xs'.length=xs.length/\Ri w' X b xs.length r v/\bb r xs'
def sG(rs:List RV)(ty:TypeId)(len:Nat)(bb:PV->List PV->Prop):Qh:=fun fr hp=>
 ∃xs',hp B0=some ⟨1,ty,xs',false⟩/\mY xs'/\xs'.length=len/\
  (fD rs (fun r=>(∀β o n,r≠ .au β o n)/\bb r xs') fr hp∨∃s o n,rs=[.t s]/\fr s= .au B0 o n/\bb (.au B0 o n) xs')
theorem C9 {P : Program} {f : FuncId} {fn : Func} {sf : ay} {args : List PV} {ty : TypeId} {xs : List PV} {bb : PV -> List PV -> Prop} (hm : P.follows .mixedOrders = true) (hf : P.funcs[f]? = some fn) (oo : (fn.name != "runtime.NumGoroutine") = true) (hc : Qe P fn = some sf) (hn : args.length <= sf.n /\ sf.n <= 1000000)
  (hv:∀C:Ctx,C.P=P->vc C (sG sf.rs ty xs.length bb) [.c sf.body] (gG args) (Ql aw B0 ⟨1,ty,xs,false⟩)):xw P f args ty xs bb:=by
 simp only[Qe,Kab,Kaa]at hc;obtain⟨c,hb,sb,jb,rs,cG,rfl⟩:=hc;refine⟨by simp[oV,hf,hb];simpa using oo,fun w X b bd hX vR eE hI rH fw=>?_⟩;have om:∀β c,(fun β=>if β=B0 then some b else none:Nat->Option Nat) β=some c->c<w.heap.size/\(eF β=false->¬(X c/\c≠b)):=fun β c h=>by
  simp only at h;split at h
  ·cases h;exact⟨hX b vR,fun _ h=>h.2 rfl⟩
  ·cases h
 let C:Ctx:=⟨P,fn.ntmps,w,fun c=>X c/\c≠b,fun c hc=>hX c hc.1,hn.2,fun β=>if β=B0 then some b else none,om,cg,fun _ h=>h.elim⟩
 refine calls_of_wp hf hb ?_;have rN:(bd++Array.replicate (fn.ntmps-bd.size) undef).size=fn.ntmps:=by simp at hn ⊢;omega
 have anw:∀c,aE C (fun β=>if β=B0 then some b else none) (Ql aw B0 ⟨1,ty,xs,false⟩) c->X c:=by
  rintro c (hx|⟨β,_,h1,_,h3⟩)
  ·exact hx.1
  ·simp only at h3;split at h3
   ·cases h3;exact vR
   ·cases h3
 have ov:dB C (gG args) (Ql aw B0 ⟨1,ty,xs,false⟩) (bd++Array.replicate (fn.ntmps-bd.size) undef) w:=by
  refine⟨fun β=>if β=B0 then some b else none,rN,Ext.refl _ _,fun _ _ _ _ _ h=>h,fun β ax aj=>?_,fun β γ b' h1 h2 h3 h4=>?_,fun i=>?_⟩
  ·unfold Ql at aj;split at aj
   ·rename_i apF;cases aj;subst apF;refine⟨by simp,Dw hI.1,?_,(fun _=>rfl),fun h=>by cases h⟩;simp only[if_pos];exact⟨rfl,hX b vR,hI.jg⟩
   ·simp[aw]at aj
  ·have:∀β,(if β=B0 then some b else none:Option Nat)=some b'->β=B0:=fun β h=>by
    split at h
    ·assumption
    ·cases h
   rw[this β h3,this γ h4]
  ·unfold gG;cases hi:args[i]? with
   |none=>trivial
   | some p=>
    simp only[Kbd];have fI:i<bd.size:=by rw[eE];exact(Kaf.1 hi).1
    have hr:=fw i p hi;have e:(bd++Array.replicate (fn.ntmps-bd.size) undef).getD i undef=bd.getD i undef:=by rw[ko,if_pos fI]
    rw[e];have key:Q6 w X p (bd.getD i undef)->Qm C (fun β=>if β=B0 then some b else none) (Ql aw B0 ⟨1,ty,xs,false⟩) w p (bd.getD i undef):=fun hr=>
     Qm.lG (hr.mono (fun _ _ _=>rfl) (fun c _ hn hx=>hn (anw c hx)) (Kad _))
    cases p with
    |au β o n=>obtain⟨rfl,h1,cap,h2,h3,h4⟩:=hr;exact⟨⟨1,ty,xs,false⟩,by simp[Ql],h1,.inr ⟨b,cap,by simp,h2,h3,h4⟩⟩
    |_=>exact key hr
 have fin:∀(fr:Fr)(hp:HP)(a:Act)(w':World),a.defers=[]->dB C fr hp a.tmps w'->sG rs ty xs.length bb fr hp->
   a.defers=[]/\∃v,(results fn a.tmps).run P w'= .ok v w'/\∃v' r xs',Ending.returned v= .returned v'/\Ext (fun c=>c=b) w w'/\(∀e cap,cV w b e cap->cV w' b e cap)/\nZ w' b ty xs'/\xs'.length=xs.length/\Ri w' X b xs.length r v'/\bb r xs':=by
  rintro fr hp a w' hd ⟨ρ,hs⟩ ⟨xs',hB,hint,hlen,hr⟩;have bj:=hs.own B0 _ hB;have aU:=bj.cD;have bl:ρ B0=some b:=by
   cases hq:ρ B0 with
   |none=>rw[hq]at aU;simp only at aU;rw[aU]at hlen;simp at hlen;omega
   |some b'=>rw[<-hq];exact bj.fix rfl
  rw[bl]at aU;have vP:nZ w' b ty xs':=nZ.KD aU.2.2 hint;have TD:Ext (fun c=>c=b) w w':=hs.ext.mono fun c _ hc=>by
   rcases hc with⟨β,_,hc⟩|hc
   ·have hc:(if β=B0 then some b else none:Option Nat)=some c:=hc;split at hc
    ·cases hc;rfl
    ·cases hc
   ·exact hc.elim
  have Ft:∀e cap,cV w b e cap->cV w' b e cap:=hs.eG B0 b rfl;rcases hr with hr|⟨s,o,n,rfl,oh,hp⟩
  ·obtain⟨v,r,h1,h2,h3,h4⟩:=Wx (C:=C) rfl cG hs hr (X:=X) (fun c hc=>by
    by_cases e:c=b
    ·subst e;exact .inr ⟨B0,_,rfl,hB,rfl,bl⟩
    ·exact .inl ⟨hc,e⟩)
   refine⟨hd,v,h1,v,r,xs',rfl,TD,Ft,vP,hlen,?_,h4⟩;cases r with
   |au β o n=>exact absurd rfl (h3 β o n)
   |_=>exact h2
  ·have bc:=hs.cH s;rw[oh]at bc;obtain⟨dN,g1,g2,g3⟩:=bc;rw[hB]at g1;cases g1;rcases g3 with⟨g3,_⟩|⟨b',cap,g3,g4,g5,g6⟩
   ·rw[bl]at g3;cases g3
   ·rw[bl]at g3;cases g3;obtain⟨x,hx⟩:∃x,fn.results.toList=[x]:=by have:=lJ cG;exact KcA.1 (by rw[<-this.1];rfl)
    have jB:gf P x=some (.t s):=by rw[hx]at cG;simp only[Kcb,Kc2,KbQ,Kcf,Kab,Kaz]at cG;obtain⟨y,h1,_,_,h2⟩:=cG;simp only[Kcq]at h2;rw[<-h2.1];exact h1
    have qv:x= .tmp s:=by
     cases x with
     |tmp t=>simpa[gf]using jB
     |cell y t=>simp[gf,Kab]at jB
    subst qv;have eY:(results fn a.tmps).run P w'= .ok (a.tmps.getD s undef) w':=by have e:results fn a.tmps=(do let vs<-fn.results.mapM (jL a.tmps);pure (if h:vs.size=1 then vs[0]else .tuple vs)):=rfl;rw[e,Kbr,hx];simp[Kao,jL]
    refine⟨hd,_,eY,_,.au B0 o n,xs',rfl,TD,Ft,vP,hlen,⟨rfl,hlen▸g2,cap,g4,g5,g6⟩,hp⟩
 exact Hh (C:=C) (R:=sG rs ty xs.length bb) hm c sb [] _ (gG args) _ _ w jb ⟨fun fr hp a w' hd hs hv=>(by rw[tL]at hv;exact fin fr hp a w' hd hs hv),fun id dW he=>(by simp[FW.bW]at he),fin⟩ rfl ov (hv C rfl)
def PV.nE:PV->Bool
 |.au .. =>true
 |p=>p.aD
def jg(β:Nat):PV->PV
 |.au γ o n=>if γ=β then .au B0 o n else .undef
 |.mp _ _ _=>.undef
 |.rb _ _ _=>.undef
 |.fn _ _ _=>.undef
 |.aH _ _ _| .np _ _ _| .aK _| .dV _| .cO _ _| .aF _ _ _ _=>.undef
 |p=>p
def nR(β:Nat):PV->PV
 |.au _ o n=>.au β o n
 |p=>p
theorem En{P:Program}(hP:C.P=P){g:FuncId}{args aQ:List PV}{d:Option Nat}{β:Nat}{ty:TypeId}{xs:List PV}{bb:PV->List PV->Prop}(h:xw P g aQ ty xs bb)(aj:hp β=some ⟨1,ty,xs,false⟩)(hint:mY xs)(rH:0<xs.length)
  (cN:args.map (jg β)=aQ) (dx:aQ.all PV.nE=true)
  (hK:∀r xs',mY xs'->xs'.length=xs.length->bb r xs'->K (fQ fr d (nR β r)) (Ql hp β ⟨1,ty,xs',false⟩)):fC C false (.fn g [] []) args d fr hp K:=by
 subst hP;refine⟨h.1,fun ρ tmps w fv cv av qi hs h1 h2 h3 _ _ qt=>?_⟩;have bj:=hs.own β _ aj;have aU:=bj.cD;obtain⟨b,bl⟩:∃b,ρ β=some b:=by
  cases hq:ρ β with
  |none=>rw[hq]at aU;simp only at aU;rw[aU]at rH;simp at rH
  |some b=>exact⟨b,rfl⟩
 rw[bl]at aU;have vR:aE C ρ hp b:=.inr ⟨β,_,aj,rfl,bl⟩;have e1:fv= #[]:=KbN (by simpa using h1);have e2:cv= #[]:=KbN (by simpa using h2);subst e1;subst e2;simp only[Array.empty_append,Array.append_empty];refine(h.2 w (aE C ρ hp) b av (Ai hs) vR (by rw[<-cN];simp[h3]) (nZ.KD aU.2.2 hint) rH (fun i x hx=>?_)).mono ?_
 ·rw [<-cN]at hx;simp only[Kat,Kaa]at hx;obtain⟨p,hp',wo⟩:=hx;have hr:=qt i p hp';have jf:PV.nE x=true:=by rw[Kaq]at dx;refine dx x ?_;rw[<-cN,<-wo];exact Kcs (Kaj hp')
  subst wo;cases p with
  | au γ o n=>
   simp only[jg]at jf⊢;split
   ·rename_i ah;subst ah;obtain⟨dN,g1,g2,g3⟩:=hr;rw[aj]at g1;cases g1;rcases g3 with⟨g3,_⟩|⟨b',cap,g3,g4,g5,g6⟩
    ·rw[bl]at g3;cases g3
    ·rw[bl]at g3;cases g3;exact⟨rfl,g2,cap,g4,g5,g6⟩
   ·rename_i ah;rw[if_neg ah]at jf;simp[PV.nE,PV.aD]at jf
  |mp=>simp[jg,PV.nE,PV.aD]at jf
  |rb=>simp[jg,PV.nE,PV.aD]at jf
  |fn=>simp[jg,PV.nE,PV.aD]at jf
  |undef=>simp[jg,PV.nE,PV.aD]at jf
  |aH=>simp[jg,PV.nE,PV.aD]at jf
  |np=>simp[jg,PV.nE,PV.aD]at jf
  |aK=>simp[jg,PV.nE,PV.aD]at jf
  |dV=>simp[jg,PV.nE,PV.aD]at jf
  |cO=>simp[jg,PV.nE,PV.aD]at jf
  |aF=>simp[jg,PV.nE,PV.aD]at jf
  |aG=>simp[jg,PV.nE,PV.aD]at jf
  |agg cs=>exact hr
  |_=>exact hr
 ·rintro e w' ⟨v,r,xs',rfl,hx,dw,vP,hlen,eY,gR⟩;have aL:=hs.store β b ⟨1,ty,xs,false⟩ ⟨1,ty,xs',false⟩ aj rfl (by intro e;simp at e;rw[e]at rH;simp at rH) bl hx rfl hlen rfl (Dw vP.1) dw (vP.jg (X:=aE C ρ hp) (fz:=false) |> fun⟨cur,cap,c1,c2,c3,c4,c5⟩=>⟨cur,cap,c1,c2,c3,c4,fun i x hi j y hy=>by
   obtain⟨k,n,rfl⟩:=vP.1 x (Kaj hi);have:=c5 i _ hi j y hy;cases j with
   |zero=>simp[PV.cells]at hy;subst hy;generalize hg:cur.getD (i*1+0) undef=u at this;cases this;exact Qp.int k n
   |succ j=>simp[PV.cells]at hy⟩)
  have Jj:aE C ρ (Ql hp β ⟨1,ty,xs',false⟩)=aE C ρ hp:=by
   funext c;apply propext;constructor
   ·rintro(hx|⟨γ,hg,h1,h2,h3⟩)
    ·exact .inl hx
    ·by_cases ah:γ=β
     ·subst ah;exact .inr ⟨γ,_,aj,rfl,h3⟩
     ·simp only[Ql,if_neg ah]at h1;exact .inr ⟨γ,hg,h1,h2,h3⟩
   ·rintro(hx|⟨γ,hg,h1,h2,h3⟩)
    ·exact .inl hx
    ·by_cases ah:γ=β
     ·subst ah;exact .inr ⟨γ,⟨1,ty,xs',false⟩,by simp[Ql],rfl,h3⟩
     ·exact .inr ⟨γ,hg,by simp[Ql,ah,h1],h2,h3⟩
  refine⟨v,_,_,rfl,⟨ρ,aL.Gb (p:=nR β r) ?_ qi⟩,by simp,hK r xs' vP.1 hlen gR⟩;cases r with
  |au γ o n=>obtain⟨_,g1,cap,g2,g3,g4⟩:=eY;exact⟨⟨1,ty,xs',false⟩,by simp[Ql],by simp only[nR];omega,.inr ⟨b,cap,bl,g2,g3,g4⟩⟩
  |_=>exact Qm.F2 (p:=_) (by rw[Jj];exact eY)
end Go.FW
namespace Go.FW
open Go
variable {C : Ctx} {ρ : Nat -> Option Nat} {fr : Fr} {hp : HP} {w : World} {K K' R : Qh}
def Aa(P:Program)(f:FuncId)(args:List PV)(ty:TypeId)(bb:List PV->Prop):Prop:=
 oV P f/\∀(w:World)(X:Nat->Prop)(bd:Array Value),(∀b,X b->b<w.heap.size)->bd.size=args.length->(∀(i:Nat)(x:PV),args[i]? =some x->Q6 w X x (bd.getD i undef))->
  Calls P f bd w fun e w'=>∃v b cap ys,e= .returned v/\v= .slice (some ⟨b,0,none⟩) ys.length cap/\w.heap.size<=b/\Ext cg w w'/\nZ w' b ty ys/\cV w' b 1 cap/\cap<=maxLen/\bb ys
def xJ(rs:List RV)(ty:TypeId)(bb:List PV->Prop):Qh:=fun fr hp=>
 ∃s β n xs,rs=[.t s]/\fr s= .au β 0 n/\bB β=false/\hp β=some ⟨1,ty,xs,false⟩/\mY xs/\0<n/\bb (xs.take n)
theorem XY{xs:List PV}(h:mY xs)(n:Nat):mY (xs.take n):=fun x hx=>h x (Ka8 hx)
theorem XZ {P : Program} {f : FuncId} {fn : Func} {sf : ay} {args : List PV} {ty : TypeId} {bb : List PV -> Prop} (hm : P.follows .mixedOrders = true) (hf : P.funcs[f]? = some fn) (oo : (fn.name != "runtime.NumGoroutine") = true) (hc : Qe P fn = some sf) (hn : args.length <= sf.n /\ sf.n <= 1000000)
  (hv:∀C:Ctx,C.P=P->vc C (xJ sf.rs ty bb) [.c sf.body] (gG args) aw):Aa P f args ty bb:=by
 simp only[Qe,Kab,Kaa]at hc;obtain⟨c,hb,sb,jb,rs,cG,rfl⟩:=hc;refine⟨by simp[oV,hf,hb];simpa using oo,fun w X bd hX eE fw=>?_⟩
 let C:Ctx:=Ctx.plain P fn.ntmps w X hX hn.2
 refine calls_of_wp hf hb ?_;have rN:(bd++Array.replicate (fn.ntmps-bd.size) undef).size=fn.ntmps:=by simp at hn ⊢;omega
 have ov:dB C (gG args) aw (bd++Array.replicate (fn.ntmps-bd.size) undef) w:=by
  refine⟨fun _=>none,rN,Ext.refl _ _,(fun _ _ h=>by cases h),by simp[aw],by simp[aw],fun i=>?_⟩;unfold gG;cases hi:args[i]? with
  |none=>trivial
  | some p=>
   simp only[Kbd];have fI:i<bd.size:=by rw[eE];exact(Kaf.1 hi).1
   have hr:=fw i p hi;have e:(bd++Array.replicate (fn.ntmps-bd.size) undef).getD i undef=bd.getD i undef:=by rw[ko,if_pos fI]
   rw[e];refine Qm.lG (hr.mono (fun _ _ _=>rfl) (fun b _ hn hx=>?_) (Kad _));rcases hx with hx|⟨_,_,h1,_⟩
   ·exact hn hx
   ·simp[aw]at h1
 have fin:∀(fr:Fr)(hp:HP)(a:Act)(w':World),a.defers=[]->dB C fr hp a.tmps w'->xJ rs ty bb fr hp->
   a.defers=[]/\∃v,(results fn a.tmps).run P w'= .ok v w'/\∃v' b cap ys,Ending.returned v= .returned v'/\v'= .slice (some ⟨b,0,none⟩) ys.length cap/\w.heap.size<=b/\Ext cg w w'/\nZ w' b ty ys/\cV w' b 1 cap/\cap<=maxLen/\bb ys:=by
  rintro fr hp a w' hd ⟨ρ,hs⟩ ⟨s,β,n,xs,rfl,oh,hB,aj,hint,rH,hp⟩;have bj:=hs.own β _ aj;have aU:=bj.cD;have bc:=hs.cH s;rw[oh]at bc;obtain⟨dN,g1,g2,g3⟩:=bc;rw[aj]at g1;cases g1;rcases g3 with⟨_,_,g3,_⟩|⟨b,cap,g3,g4,g5,g6⟩
  ·omega
  ·rw[g3]at aU;simp only[hB]at aU;obtain⟨x,hx⟩:∃x,fn.results.toList=[x]:=by have:=lJ cG;exact KcA.1 (by rw[<-this.1];rfl)
   have jB:gf P x=some (.t s):=by rw[hx]at cG;simp only[Kcb,Kc2,KbQ,Kcf,Kab,Kaz]at cG;obtain⟨y,h1,_,_,h2⟩:=cG;simp only[Kcq]at h2;rw[<-h2.1];exact h1
   have qv:x= .tmp s:=by
    cases x with
    |tmp t=>simpa[gf]using jB
    |cell y t=>simp[gf,Kab]at jB
   subst qv;have eY:(results fn a.tmps).run P w'= .ok (a.tmps.getD s undef) w':=by have e:results fn a.tmps=(do let vs<-fn.results.mapM (jL a.tmps);pure (if h:vs.size=1 then vs[0]else .tuple vs)):=rfl;rw[e,Kbr,hx];simp[jL]
   have hlen:(xs.take n).length=n:=by simp at g2 ⊢;omega
   refine⟨hd,_,eY,_,b,cap,xs.take n,rfl,by rw[g4,hlen,KbI],(Ctx.uh aU.1 (xB hB)).resolve_right (fun h=>h),Ctx.KF hs.ext,?_,by rw[Ka9]at g5;exact g5,by omega,hp⟩;obtain⟨_,cur,cp,i1,i2,i3,i4,i5⟩:=nZ.KD aU.2.2 hint;exact⟨XY hint n,cur,cp,i1,i2,by simp;omega,i4,fun i k m hi=>i5 i k m (by
    have az:i<n:=by have:=(Kaf.1 hi).1;omega
    rwa[KaH az]at hi)⟩
 exact Hh (C:=C) (R:=xJ rs ty bb) hm c sb [] _ (gG args) aw _ w jb ⟨fun fr hp a w' hd hs hv=>(by rw[tL]at hv;exact fin fr hp a w' hd hs hv),fun id dW he=>(by simp[FW.bW]at he),fin⟩ rfl ov (hv C rfl)
theorem ago{P:Program}(hP:C.P=P){g:FuncId}{args aQ:List PV}{d:Nat}{ty:TypeId}{bb:List PV->Prop}(h:Aa P g aQ ty bb)(cN:([]++args++[]).map (Qu hp)=aQ)(dx:aQ.all PV.aD=true)(hr:([]++args++[]).flatMap PV.refs=[])
  (hB:bB d=false) (hK:∀ys,mY ys->bb ys->K (ae (bE d fr) d (.ms d ys.length)) (Ql hp d ⟨1,ty,ys,false⟩)):fC C false (.fn g [] []) args (some d) fr hp K:=by
 subst hP;refine⟨h.1,fun ρ tmps w fv cv av qi hs h1 h2 h3 ou my qt=>?_⟩;have qj:Qx hp (([]++args++[]).flatMap PV.refs)=hp:=by rw[hr];rfl
 have fw:=Le hs h1 h2 h3 ou my qt (by rw[cN];exact dx);rw[qj,cN]at fw;refine(h.2 w _ (fv++av++cv) (Ai hs) (by rw[<-cN];simp[h1,h2,h3]) fw).mono ?_;rintro e w' ⟨v,b,cap,ys,rfl,rfl,hb,hx,hI,dw,hm,gR⟩;have yt:b<w'.heap.size:=by obtain⟨_,cur,cp,i1,_⟩:=hI;exact(Kbm.1 i1).1
 have hrb:=hs.rebind (w':=w') d (some b) ⟨1,ty,ys,false⟩ hB (hx.mono (fun _ _ h=>h.elim)) (fun c hc=>by cases hc;exact⟨.inl (KaL hs.ext.size hb),yt,.inl hb⟩) (by simp) (Dw hI.1) (by simp)
  (fun c hc=>by
   cases hc;obtain⟨hint,cur,cp,i1,i2,i3,i4,i5⟩:=hI;refine⟨cur,cp,i1,i2,i3,i4,fun i x hi j y hy=>?_⟩;obtain⟨k,n,rfl⟩:=hint x (Kaj hi);cases j with
   |zero=>simp[PV.cells]at hy;subst hy;rw[KbL,KaO,i5 i k n hi];exact Qp.int k n
   |succ j=>simp[PV.cells]at hy)
 refine⟨_,_,_,rfl,⟨_,hrb.Gb (d:=some d) (p:=.ms d ys.length) ?_ qi⟩,by simp,hK ys hI.1 gR⟩;exact⟨⟨1,ty,ys,false⟩,by simp[Ql],by simp,.inr ⟨b,cap,gh _ _ _,by simp,by rw[Ka9];exact dw,by omega⟩⟩
def fa(hp:HP):PV->PV
 |.mp β i o=>match hp β with
  |some hb=>match hb.xs[i]? with
   |some x=>.pt (x.cells.drop o)
   |none=>.undef
  |none=>.undef
 |.au β o n=>match hp β with
  |some hb=>.sl hb.e ((hb.xs.drop o).take n)
  |none=>.undef
 |.rb β o n=>match hp β with
  |some hb=>.pt [.sl hb.e ((hb.xs.drop o).take n)]
  |none=>.undef
 |p=>p
def vC(C:Ctx)(ρ:Nat->Option Nat)(hp:HP)(l:List Nat):Nat->Prop:=fun c=>aE C ρ hp c/\¬∃β∈l,ρ β=some c
theorem Qp.vM{l:List Nat}{q:PV}{u:Value}(h:Qp w (aE C ρ hp) q u):Qp w (vC C ρ hp l) q u:=
 h.mono (fun _ _ _=>rfl) (fun _ _ hn hx=>hn hx.1) (Kad _)
theorem eh.vM{tmps:Array Value}(h:Qr C ρ fr hp tmps w){β o n:Nat}{v:Value}{l:List Nat}{hb:HB}(hr:eh ρ hp w β o n v)(wD:β∈l)(g1:hp β=some hb):Qp w (vC C ρ hp l) (.sl hb.e ((hb.xs.drop o).take n)) v:=by
 obtain⟨dN,EO,g2,g3⟩:=hr;rw[g1]at EO;cases EO;rcases g3 with⟨g3,rfl,rfl,rfl⟩|⟨b,cap,g3,rfl,g5,g6⟩
 ·simp only[Kcc];exact .mE _ _ _ (KbR _)
 ·have bj:=h.own β hb g1;have aU:=bj.cD;rw[g3]at aU;obtain⟨_,aq,cur,et,c1,c2,c3,c4,c5⟩:=aU;obtain⟨cur',ty',d1,d2⟩:=g5;rw[c1]at d1;cases d1;have fU:o+cap=et:=by rw[c2]at d2;exact(KbA bj.jV d2).symm
  subst fU;have hlen:((hb.xs.drop o).take n).length=n:=by simp;omega
  have ew:∀(i:Nat)(x:PV),((hb.xs.drop o).take n)[i]? =some x->i<n/\hb.xs[o+i]? =some x:=fun i x hx=>by
   have hi:i<n:=by have:=(Kaf.1 hx).1;omega
   rw[KaH hi,Ka5]at hx;exact⟨hi,hx⟩
  have:=Qp.sl (w:=w) (X:=vC C ρ hp l) hb.e ((hb.xs.drop o).take n) b (o*hb.e) cap (fun i j=>cur.getD ((o+i)*hb.e+j) undef) (fun BF=>BF.2 ⟨β,wD,g3⟩) aq (by omega) (by omega)
   (fun i x hx=>(bj.len _ x (ew i x hx).2).1)
   (fun i hi j hj=>by rw[hlen]at hi;have:=mR (i:=o+i) (e:=hb.e) (o:=0) (j:=j) (n:=hb.e) (cap:=o+cap) (by omega) (by omega) hj;rw[KaO]at this;rw[show o*hb.e+i*hb.e+j=(o+i)*hb.e+j by rw[KaG]];exact kR c1 (by rw[c2];exact this))
   (fun i x hx j y hy=>(c5 _ x (ew i x hx).2 j y hy).vM)
  rwa[hlen]at this
theorem Da{tmps:Array Value}(h:Qr C ρ fr hp tmps w){p:PV}{v:Value}{l:List Nat}(hr:cI C ρ hp w p v)(hl:∀β∈p.bw,β∈l)(hu:(fa hp p).aD=true)(Bs:∀f a b,p≠ .fn f a b):Q6 w (vC C ρ hp l) (fa hp p) v:=by
 cases p with
 | mp β i o=>
  obtain⟨b,hb,g1,g2,rfl⟩:=hr;have wD:=hl β (by simp[PV.bw]);have bj:=h.own β hb g2;have aU:=bj.cD;rw[g1]at aU;obtain⟨_,aq,cur,cap,c1,c2,c3,c4,c5⟩:=aU;simp only[fa,g2]at hu⊢;cases hx:hb.xs[i]? with
  |none=>simp[hx,PV.aD]at hu
  | some x=>
   have hi:i<hb.xs.length:=(Kaf.1 hx).1;have cX:=(bj.len i x hx).1;refine Qp.pt _ b _ (fun j=>cur.getD (i*hb.e+o+j) undef) (fun BF=>BF.2 ⟨β,wD,g1⟩) aq (fun j hj=>?_) (fun j y hy=>?_)
   ·have dj:o+(j+1)<=hb.e:=by simp[cX]at hj;omega
    exact kR c1 (by rw[c2];exact mR (by omega) dj (Kcv j))
   ·rw[Ka5]at hy;rw[Kb3];exact(c5 i x hx (o+j) y hy).vM
 |au β o n=>obtain⟨hb,g1,_⟩:=id hr;simp only[fa,g1];exact eh.vM h hr (hl β (by simp[PV.bw])) g1
 | rb β o n=>
  obtain⟨b,u,rfl,e2,e3,e4,hb,g1,e5⟩:=hr;simp only[fa,g1];refine Qp.pt _ b 0 (fun _=>u) (fun hx=>e3 hx.1) e2 (fun j hj=>?_) (fun j y hy=>?_)
  ·obtain rfl:j=0:=by simpa using hj
   simpa using e4
  ·cases j with
   |zero=>simp at hy;subst hy;exact eh.vM h ⟨hb,g1,e5⟩ (hl β (by simp[PV.bw])) g1
   |succ j=>simp at hy
 |undef=>simp[fa,PV.aD]at hu
 |fn f a b=>exact absurd rfl (Bs f a b)
 |aG=>simp[fa,PV.aD]at hu
 |aH=>simp[fa,PV.aD]at hu
 |np=>simp[fa,PV.aD]at hu
 |aK=>simp[fa,PV.aD]at hu
 |dV=>simp[fa,PV.aD]at hu
 |cO=>simp[fa,PV.aD]at hu
 |aF=>simp[fa,PV.aD]at hu
 |agg=>cases hr
 |_=>exact Qp.vM hr
end Go.FW
namespace Go.FW
open Go
variable {C : Ctx} {ρ : Nat -> Option Nat} {fr : Fr} {hp : HP} {w : World} {K K' R : Qh}
def PV.uU:PV->Bool
 |.fn .. =>false
 |p=>p.aD
theorem O8{p:PV}(h:p.uU=true):p.aD=true/\∀f a b,p≠ .fn f a b:=by cases p<;>simp_all[PV.uU,PV.aD]
theorem Wz{tmps:Array Value}(h:Qr C ρ fr hp tmps w){p:PV}{v:Value}{l:List Nat}(hr:Qm C ρ hp w p v)(hl:∀β∈p.refs,β∈l)(hu:(fa hp p).uU=true):Q6 w (vC C ρ hp l) (fa hp p) v:=by
 obtain⟨hd,Bs⟩:=O8 hu;cases p with
 |mp β i o=>exact Da (p:=.mp β i o) h hr (fun bA mB=>hl bA mB) hd (by simp)
 |au β o n=>exact Da (p:=.au β o n) h hr (fun bA mB=>hl bA mB) hd (by simp)
 |rb β o n=>exact Da (p:=.rb β o n) h hr (fun bA mB=>hl bA mB) hd (by simp)
 |fn f a b=>exact absurd rfl (Bs f a b)
 |undef=>simp[fa,PV.uU,PV.aD]at hu
 |aG=>simp[fa,PV.uU,PV.aD]at hu
 |agg cs=>exact Q6.mono (p:=.agg cs) hr (fun _ _ _=>rfl) (fun _ _ hn hx=>hn hx.1) (Kad _)
 |aH=>simp[fa,PV.aD]at hd
 |np=>simp[fa,PV.aD]at hd
 |aK=>simp[fa,PV.aD]at hd
 |dV=>simp[fa,PV.aD]at hd
 |cO=>simp[fa,PV.aD]at hd
 |aF=>simp[fa,PV.aD]at hd
 |_=>exact Qp.vM hr
theorem O9{tmps:Array Value}(h:Qr C ρ fr hp tmps w){p:PV}{v:Value}{l:List Nat}(hr:cI C ρ hp w p v)(hl:∀β∈p.refs,β∈l)(hu:(fa hp p).uU=true):Q6 w (vC C ρ hp l) (fa hp p) v:=by
 obtain⟨hd,Bs⟩:=O8 hu;refine Da h hr (fun β aj=>hl β ?_) hd ?_
 ·cases p<;>simp_all[PV.bw,PV.refs]
 ·intro f a b hp';subst hp';exact Bs f a b rfl
theorem X1{P:Program}(hP:C.P=P){g:FuncId}{first cap args aQ:List PV}{pr:Bool}{d:Option Nat}{r:PV}(h:Qd P g aQ (· =r))(cN:(first++args++cap).map (fa hp)=aQ)(dx:aQ.all PV.uU=true)(hr:r.Kp=true)
  (hK:K (fQ fr d r) hp):fC C pr (.fn g first cap) args d fr hp K:=by
 subst hP;refine⟨h.1,fun ρ tmps w fv cv av qi hs h1 h2 h3 ou my qt=>?_⟩;refine(h.2 w (vC C ρ hp ((first++args++cap).flatMap PV.refs)) (fv++av++cv) (fun b hb=>Ai hs b hb.1) (by rw[<-cN];simp[h1,h2,h3]) (fun i x hx=>?_)).mono ?_
 ·have vW:x.uU=true:=by rw[Kaq]at dx;exact dx x (Kaj hx)
  rw[<-cN]at hx;simp only[Kat,Kaa]at hx;obtain⟨p,hp',rfl⟩:=hx;have im:=Kaj hp';have hl:∀β∈p.refs,β∈(first++args++cap).flatMap PV.refs:=fun β aj=>Kap.2 ⟨p,im,aj⟩;rw[ko];rw[Ka3]at hp';by_cases c1:i<(first++args).length
  ·rw[if_pos c1]at hp';rw[if_pos (by simp only[Kcd,h1,h3];simpa using c1),ko];rw[Ka3]at hp';by_cases c2:i<first.length
   ·rw[if_pos c2]at hp';rw[if_pos (by omega)];exact O9 hs (ou i p hp') hl vW
   ·rw[if_neg c2]at hp';rw[if_neg (by omega),h1];exact Wz hs (qt _ p hp') hl vW
  ·rw[if_neg c1]at hp';have eE:(fv++av).size=(first++args).length:=by simp[h1,h3]
   rw[if_neg (by omega),eE];exact O9 hs (my _ p hp') hl vW
 ·rintro e w' ⟨v,r',rfl,hx,dP,rfl⟩;exact⟨v,_,_,rfl,⟨ρ,(hs.grow hx).Gb (Qm.F2 (aaA hr dP)) qi⟩,fun _=>hx,hK⟩
end Go.FW
namespace Go.FW
def kA:List Nat->List Nat->Nat->List Nat
 | [],_,_=>[]
 |x::xs,ys,c=>(c+x+ys.headD 0)%65536::kA xs ys.tail ((c+x+ys.headD 0)/65536)
theorem Oj:∀(a b:List Nat)(c:Nat),(kA a b c).length=a.length
 | [],_,_=>rfl
 |x::xs,b,c=>by simp[kA,Oj xs]
theorem O':∀(a b:List Nat)(c:Nat),Qj (kA a b c)
 | [],_,_=>nO
 |x::xs,b,c=>by rw[kA,gB];exact⟨by omega,O' xs _ _⟩
theorem X2{a b:List Nat}{i c:Nat}(h:i<a.length):kA (a.drop i) (b.drop i) c=(c+a[i]+b.getD i 0)%65536::kA (a.drop (i+1)) (b.drop (i+1)) ((c+a[i]+b.getD i 0)/65536):=by rw[Kau h,kA];simp[KbG,Kcp,Kae]
theorem Lm:∀(a b:List Nat)(c:Nat),b.length<=a.length->∃k,val (kA a b c)+65536^a.length*k=val a+val b+c
 | [],b,c,h=>by have:b=[]:=Kar.1 (by simpa using h);subst this;exact⟨c,by simp[kA,val]⟩
 |x::xs,b,c,h=>by
  obtain⟨k,hk⟩:=Lm xs b.tail ((c+x+b.headD 0)/65536) (by simp at h ⊢;omega);refine⟨k,?_⟩;rw[kA,val,val,zE b,KaT,Kbz,KaQ (65536^xs.length) 65536,Kba];generalize 65536^xs.length*k=z at *
  generalize b.headD 0=y at *
  omega
def eR:List Nat->List Nat->Nat->Nat->Nat->List Nat×Nat×Nat
 | [],_,_,c,b=>([],c,b)
 |x::xs,ys,q,c,b=>
  let r:=eR xs ys.tail q ((c+q*ys.headD 0)/65536) (if x<(c+q*ys.headD 0)%65536+b then 1 else 0)
  ((x+65536-(c+q*ys.headD 0)%65536-b)%65536::r.1,r.2)
theorem Ok:∀(a v:List Nat)(q c b:Nat),(eR a v q c b).1.length=a.length
 | [],_,_,_,_=>rfl
 |x::xs,v,q,c,b=>by simp[eR,Ok xs]
theorem Pa:∀(a v:List Nat)(q c b:Nat),Qj (eR a v q c b).1
 | [],_,_,_,_=>nO
 |x::xs,v,q,c,b=>by simp only[eR];rw[gB];exact⟨by omega,Pa xs _ _ _ _⟩
theorem X3{a v:List Nat}{i q c b:Nat}(h:i<a.length):eR (a.drop i) (v.drop i) q c b=
    ((a[i]+65536-(c+q*v.getD i 0)%65536-b)%65536::(eR (a.drop (i+1)) (v.drop (i+1)) q ((c+q*v.getD i 0)/65536) (if a[i]<(c+q*v.getD i 0)%65536+b then 1 else 0)).1,
     (eR (a.drop (i+1)) (v.drop (i+1)) q ((c+q*v.getD i 0)/65536) (if a[i]<(c+q*v.getD i 0)%65536+b then 1 else 0)).2):=by
  rw[Kau h,eR];simp[KbG,Kcp,Kae]
theorem Ln:∀(a v:List Nat)(q c b:Nat),Qj a->b<=1->v.length<=a.length->
  val (eR a v q c b).1+(q*val v+c+b)=val a+65536^a.length*((eR a v q c b).2.1+(eR a v q c b).2.2)/\(eR a v q c b).2.2<=1
 | [],v,q,c,b,_,hb,h=>by have:v=[]:=Kar.1 (by simpa using h);subst this;simp[eR,val,hb]
 |x::xs,v,q,c,b,ha,hb,h=>by
  rw[gB]at ha;have ax:(if x<(c+q*v.headD 0)%65536+b then 1 else 0)<=1:=by split<;>omega
  obtain⟨ih,Ko⟩:=Ln xs v.tail q ((c+q*v.headD 0)/65536) (if x<(c+q*v.headD 0)%65536+b then 1 else 0) ha.2 ax (by simp at h ⊢;omega);refine⟨?_,Ko⟩;simp only[eR];rw[val,val,zE v,KaT,Kbz,KaQ (65536^xs.length) 65536,Kba,Ka1 q,Kbw q 65536];generalize eR xs v.tail q ((c+q*v.headD 0)/65536) (if x<(c+q*v.headD 0)%65536+b then 1 else 0)=r at *
  generalize 65536^xs.length*(r.2.1+r.2.2)=z at *
  generalize q*v.headD 0=y at *
  generalize q*val v.tail=t at *
  have h0:=ha.1;split at ih
  ·omega
  ·omega
open Go
variable {fr : Fr} {hp : HP}
theorem agp{ty len:Nat}{bb:PV->List PV->Prop}{xs':List PV}(hB:hp B0=some ⟨1,ty,xs',false⟩)(hi:mY xs')(hl:xs'.length=len)(hp':bb (.aG []) xs'):sG [] ty len bb fr hp:=
 ⟨xs',hB,hi,hl,.inl ⟨by simp,.aG [],trivial,by simp,hp'⟩⟩
theorem M8{ty len s:Nat}{bb:PV->List PV->Prop}{xs':List PV}{p:PV}(hB:hp B0=some ⟨1,ty,xs',false⟩)(hi:mY xs')(hl:xs'.length=len)(hs:Qu hp (fr s)=p)(hd:p.aD=true)(hp':bb p xs'):sG [.t s] ty len bb fr hp:=
 ⟨xs',hB,hi,hl,.inl ⟨by simp only[kg];rw[hs];exact hd,p,by simp only[jC];rw[hs];exact Qf p,fun β o n e=>by subst e;simp[PV.aD]at hd,hp'⟩⟩
theorem Mg{ty len s o n:Nat}{bb:PV->List PV->Prop}{xs':List PV}(hB:hp B0=some ⟨1,ty,xs',false⟩)(hi:mY xs')(hl:xs'.length=len)(hs:fr s= .au B0 o n)(hp':bb (.au B0 o n) xs'):sG [.t s] ty len bb fr hp:=
 ⟨xs',hB,hi,hl,.inr ⟨s,o,n,rfl,hs,hp'⟩⟩
end Go.FW
namespace Go.FW
open Go
variable {C : Ctx} {fr : Fr} {hp : HP} {K : Qh}
theorem Ak{a b i:Nat}(h:b<2^i):a*2^i|||b=a*2^i+b:=by rw[<-Nat.shiftLeft_eq,Nat.shiftLeft_add_eq_or_of_lt h]
theorem M9{bt:Bool}{x y d:Nat}(hx:x<18446744073709551616)(hy:y<18446744073709551616):bO .or bt (.int .u64 (x:Int)) (.int .u64 (y:Int)) d fr hp K=K (ae fr d (.int .u64 ((x|||y:Nat):Int))) hp:=by
 have h1:(BitVec.ofInt 64 (x:Int)|||BitVec.ofInt 64 (y:Int)).toNat=x|||y:=by rw[BitVec.toNat_or,BitVec.ofInt_natCast,BitVec.ofInt_natCast,BitVec.toNat_ofNat,BitVec.toNat_ofNat,KaJ hx,KaJ hy]
 have h2:x|||y<18446744073709551616:=Nat.or_lt_two_pow (n:=64) hx hy;simp only[bO,IntKind.bits,h1,true_and];rw[se (by omega) (by omega)];exact congrArg (fun z:Nat=>K (ae fr d (.int .u64 (z:Int))) hp) h1
theorem M'{bt:Bool}{x y d:Nat}(hx:x<4294967296)(hy:y<4294967296):bO .or bt (.int .u32 (x:Int)) (.int .u32 (y:Int)) d fr hp K=K (ae fr d (.int .u32 ((x|||y:Nat):Int))) hp:=by
 have h1:(BitVec.ofInt 32 (x:Int)|||BitVec.ofInt 32 (y:Int)).toNat=x|||y:=by rw[BitVec.toNat_or,BitVec.ofInt_natCast,BitVec.ofInt_natCast,BitVec.toNat_ofNat,BitVec.toNat_ofNat,KaJ hx,KaJ hy]
 have h2:x|||y<4294967296:=Nat.or_lt_two_pow (n:=32) hx hy;simp only[bO,IntKind.bits,h1,true_and];rw[Dq (by omega) (by omega)];exact congrArg (fun z:Nat=>K (ae fr d (.int .u32 (z:Int))) hp) h1
theorem agq{bt:Bool}{x y d:Nat}(hx:x<65536)(hy:y<65536):bO .or bt (.int .u16 (x:Int)) (.int .u16 (y:Int)) d fr hp K=K (ae fr d (.int .u16 ((x|||y:Nat):Int))) hp:=by
 have h1:(BitVec.ofInt 16 (x:Int)|||BitVec.ofInt 16 (y:Int)).toNat=x|||y:=by rw[BitVec.toNat_or,BitVec.ofInt_natCast,BitVec.ofInt_natCast,BitVec.toNat_ofNat,BitVec.toNat_ofNat,KaJ hx,KaJ hy]
 have h2:x|||y<65536:=Nat.or_lt_two_pow (n:=16) hx hy;simp only[bO,IntKind.bits,h1,true_and];rw[aaD (by omega) (by omega)];exact congrArg (fun z:Nat=>K (ae fr d (.int .u16 (z:Int))) hp) h1
theorem Mh{bt:Bool}{k':IntKind}{x s d:Nat}(hs:s<=64)(h:x*2^s<18446744073709551616):bO .shl bt (.int .u64 (x:Int)) (.int k' (s:Int)) d fr hp K=K (ae fr d (.int .u64 ((x*2^s:Nat):Int))) hp:=by
 have h0:(0:Int)<=s:=by omega
 have h1:min ((s:Int).toNat) IntKind.u64.bits=s:=by simp[IntKind.bits];omega
 simp only[bO,h0,true_and,h1];rw[show(x:Int)*2^s=((x*2^s:Nat):Int)by push_cast;rfl,se (by omega) (by omega)]
theorem Mi{bt:Bool}{k':IntKind}{x s d:Nat}(hs:s<=32)(h:x*2^s<4294967296):bO .shl bt (.int .u32 (x:Int)) (.int k' (s:Int)) d fr hp K=K (ae fr d (.int .u32 ((x*2^s:Nat):Int))) hp:=by
 have h0:(0:Int)<=s:=by omega
 have h1:min ((s:Int).toNat) IntKind.u32.bits=s:=by simp[IntKind.bits];omega
 simp only[bO,h0,true_and,h1];rw[show(x:Int)*2^s=((x*2^s:Nat):Int)by push_cast;rfl,Dq (by omega) (by omega)]
theorem Hs{bt:Bool}{k':IntKind}{x d:Nat}(h:x<281474976710656):bO .shl bt (.int .u64 (x:Int)) (.int k' 16) d fr hp K=K (ae fr d (.int .u64 ((x*65536:Nat):Int))) hp:=
 Mh (s:=16) (by omega) (by omega)
theorem HD{bt:Bool}{k':IntKind}{x d:Nat}(h:x<65536):bO .shl bt (.int .u32 (x:Int)) (.int k' 16) d fr hp K=K (ae fr d (.int .u32 ((x*65536:Nat):Int))) hp:=
 Mi (s:=16) (by omega) (by omega)
theorem Iu{bt:Bool}{k':IntKind}{x s d:Nat}(hs:s<=32):bO .shr bt (.int .u32 (x:Int)) (.int k' (s:Int)) d fr hp K=K (ae fr d (.int .u32 ((x/2^s:Nat):Int))) hp:=by
 rw[Gj (by omega)];have h1:min ((s:Int).toNat) IntKind.u32.bits=s:=by simp[IntKind.bits];omega
 rw[h1,KcK _ (Int.pow_nonneg (by omega))];rw[show(x:Int)/2^s=((x/2^s:Nat):Int)by push_cast;rfl]
theorem HY{bt:Bool}{x y d:Nat}(hx:x<281474976710656)(hy:y<65536):bO .or bt (.int .u64 ((x*65536:Nat):Int)) (.int .u64 (y:Int)) d fr hp K=K (ae fr d (.int .u64 ((x*65536+y:Nat):Int))) hp:=by rw[M9 (by omega) (by omega),show x*65536|||y=x*65536+y from Ak (i:=16) hy]
theorem abn{bt:Bool}{x y d:Nat}(hx:x<65536)(hy:y<65536):bO .or bt (.int .u32 ((x*65536:Nat):Int)) (.int .u32 (y:Int)) d fr hp K=K (ae fr d (.int .u32 ((x*65536+y:Nat):Int))) hp:=by rw[M' (by omega) (by omega),show x*65536|||y=x*65536+y from Ak (i:=16) hy]
theorem QB{bt:Bool}{x y d:Nat}(hx:x<65536)(hy:y<65536):bO .or bt (.int .u32 (y:Int)) (.int .u32 ((x*65536:Nat):Int)) d fr hp K=K (ae fr d (.int .u32 ((x*65536+y:Nat):Int))) hp:=by rw[M' (by omega) (by omega),Nat.or_comm,show x*65536|||y=x*65536+y from Ak (i:=16) hy]
theorem Iv{bt:Bool}{k:IntKind}{x y d:Nat}(hy:0<y)(hw:k.wrap ((x/y:Nat):Int)=((x/y:Nat):Int)):bO .quo bt (.int k (x:Int)) (.int k (y:Int)) d fr hp K=K (ae fr d (.int k ((x/y:Nat):Int))) hp:=by
 have:(y:Int)≠0:=by omega
 simp only[bO,ne_eq,this,not_false_eq_true,true_and];rw[adg (by omega),<-hw];rfl
theorem pH{bt:Bool}{k:IntKind}{x y d:Nat}(hy:0<y):bO .rem bt (.int k (x:Int)) (.int k (y:Int)) d fr hp K=K (ae fr d (.int k ((x%y:Nat):Int))) hp:=by
 have:(y:Int)≠0:=by omega
 simp only[bO,ne_eq,this,not_false_eq_true,true_and];rw[adh (by omega)];rfl
theorem X4{n:Nat}(h:n<18446744073709551616):IntKind.u64.wrap (n:Int)=n:=se (by omega) (by omega)
theorem X5{n:Nat}(h:n<4294967296):IntKind.u32.wrap (n:Int)=n:=Dq (by omega) (by omega)
theorem X6{n:Nat}(h:n<9223372036854775808):IntKind.i64.wrap (n:Int)=n:=vf (by omega) (by omega)
theorem Ab{bt:Bool}{x y d:Nat}(hy:0<y)(hx:x<18446744073709551616):bO .quo bt (.int .u64 (x:Int)) (.int .u64 (y:Int)) d fr hp K=K (ae fr d (.int .u64 ((x/y:Nat):Int))) hp:=
 Iv hy (X4 (KcB (KcD x y) hx))
theorem adr{bt:Bool}{x y d:Nat}(hy:0<y)(hx:x<4294967296):bO .quo bt (.int .u32 (x:Int)) (.int .u32 (y:Int)) d fr hp K=K (ae fr d (.int .u32 ((x/y:Nat):Int))) hp:=
 Iv hy (X5 (KcB (KcD x y) hx))
theorem DU{bt:Bool}{x y d:Nat}(hy:0<y)(hx:x<9223372036854775808):bO .quo bt (.int .i64 (x:Int)) (.int .i64 (y:Int)) d fr hp K=K (ae fr d (.int .i64 ((x/y:Nat):Int))) hp:=
 Iv hy (X6 (KcB (KcD x y) hx))
theorem ads{e d β o n H:Nat}{k:IntKind}(h:H<=n)(he:(hp β).map (·.e)=some e):iw e (.au β o n) none (some (.int k (H:Int))) none d fr hp K=K (ae fr d (.au β o H)) hp:=by
 have h1:(H:Int)<=(n:Int):=by omega
 simp[iw,gS,he,h1]
theorem adt{e d β o n L H:Nat}{k k':IntKind}(h1:L<=H)(h:H<=n)(h0:L<n)(he:(hp β).map (·.e)=some e):iw e (.au β o n) (some (.int k (L:Int))) (some (.int k' (H:Int))) none d fr hp K=K (ae fr d (.au β (o+L) (H-L))) hp:=by
 have q1:(H:Int)<=(n:Int):=by omega
 have q2:(L:Int)<=(H:Int):=by omega
 have q3:(L:Int)<(n:Int):=by omega
 simp[iw,gS,he,q1,q2,q3]
theorem QC{bt:Bool}{x d:Nat}(hx:x<9223372036854775808):bO .quo bt (.int .i64 (x:Int)) (.int .i64 16) d fr hp K=K (ae fr d (.int .i64 ((x/16:Nat):Int))) hp:=
 DU (y:=16) (by omega) hx
theorem QD{bt:Bool}{x d:Nat}:bO .rem bt (.int .i64 (x:Int)) (.int .i64 16) d fr hp K=K (ae fr d (.int .i64 ((x%16:Nat):Int))) hp:=
 pH (y:=16) (by omega)
def n5(s:Nat):List Nat->Nat->List Nat
 | [],c=>[c]
 |x::xs,c=>((x*2^s)%65536+c)::n5 s xs (x*2^s/65536)
theorem Lo(s:Nat):∀(l:List Nat)(c:Nat),val (n5 s l c)=val l*2^s+c
 | [],c=>by simp[n5,val]
 |x::xs,c=>by rw[n5,val,Lo s xs,val,KaG,Kba];generalize x*2^s=y;generalize val xs*2^s=z;omega
theorem HE{s:Nat}(h:s<=16):(65536:Nat)=2^s*2^(16-s):=by rw[<-Nat.pow_add,show s+(16-s)=16 by omega]
theorem Lp{s x c:Nat}(h:s<=16)(hc:c<2^s):(x*2^s)%65536+c<65536/\c|||(x*2^s)%65536=(x*2^s)%65536+c:=by
 have e:(x*2^s)%65536=(x%2^(16-s))*2^s:=by rw[HE h,KaQ x,Nat.mul_mod_mul_left,KaQ]
 have h1:x%2^(16-s)<2^(16-s):=Kbs _ (KbS (by omega));have h2:(x%2^(16-s)+1)*2^s<=2^(16-s)*2^s:=Kal _ h1;rw[KaG,KaQ (2^(16-s)),<-HE h]at h2;rw[e];refine⟨by omega,?_⟩;rw[Nat.or_comm,Ak hc]
theorem QE{s x:Nat}(h:s<=16)(hx:x<65536):x*2^s/65536<2^s:=by rw[Kbf (by omega),KaQ];exact Nat.mul_lt_mul_of_pos_left hx (KbS (by omega))
theorem Pb{s:Nat}(h:s<=15):∀(l:List Nat)(c:Nat),Qj l->c<2^s->Qj (n5 s l c)
 | [],c,_,hc=>by have:2^s<=2^15:=Kbu (by omega) h;simp[n5,Qj];omega
 |x::xs,c,hl,hc=>by rw[gB]at hl;rw[n5,gB];exact⟨(Lp (by omega) hc).1,Pb h xs _ hl.2 (QE (by omega) hl.1)⟩
theorem Ol(s:Nat):∀(l:List Nat)(c:Nat),(n5 s l c).length=l.length+1
 | [],_=>rfl
 |x::xs,c=>by simp[n5,Ol s xs]
theorem agr{s x:Nat}(h:s<=15)(hx:x<65536):x*2^s<2147483648:=by have:2^s<=2^15:=Kbu (by omega) h;have:=KbU (show x<=65535 by omega) this;omega
theorem Lq(l:List Nat):∀n,n<=l.length->cut l n=l.take (cut l n).length
 |0,_=>by simp[cut]
 |n+1,h=>by
  unfold cut;split
  ·exact Lq l n (by omega)
  ·rw[Kax,KbV h]
theorem abo{l:List Nat}(h:Qj l):l.take (nl (val l))=ak (val l):=by have:=Lq l l.length (Kad _);rw[z8 h]at this;exact this.symm
end Go.FW
namespace Go.FW
open Go
theorem Aa.Ug{P:Program}{f:FuncId}{args:List PV}{ty:TypeId}{ys:List PV}(h:Aa P f args ty (· =ys)):Qd P f args (· = .sl 1 ys):=by
 refine⟨h.1,fun w X bd hX h2 h3=>(h.2 w X bd hX h2 h3).mono ?_⟩;rintro e w' ⟨v,b,cap,ys',rfl,rfl,hb,hx,hI,dw,hm,rfl⟩;refine⟨_,_,rfl,hx,?_,rfl⟩;obtain⟨hint,cur,cp,i1,i2,i3,i4,i5⟩:=hI;obtain⟨cur',ty',d1,d2⟩:=dw;rw[i1]at d1;cases d1;have yt:b<w'.heap.size:=(Kbm.1 i1).1;have e:cp=cap:=by omega
 subst e;refine Qp.sl (w:=w') (X:=X) 1 ys' b 0 cp (fun i j=>cur.getD (i+j) undef) (fun BF=>by have:=hX b BF;omega) yt i3 i4 (Dw hint |> fun h i x hx=>(h i x hx).1) (fun i hi j hj=>?_) (fun i x hx j y hy=>?_)
 ·have:j=0:=by omega
  subst this;simp only[Ka9,KbL,KaO];exact kR i1 (by omega)
 ·obtain⟨k,n,rfl⟩:=hint x (Kaj hx);cases j with
  |zero=>simp[PV.cells]at hy;subst hy;show Qp w' X (.int k n) (cur.getD (i+0) undef);rw[KaO,i5 i k n hx];exact Qp.int k n
  |succ j=>simp[PV.cells]at hy
def mZ(s:Nat):List Nat->List Nat
 | []=>[]
 |x::xs=>((xs.headD 0*65536+x)/2^s)%65536::mZ s xs
theorem G8(s:Nat):∀l,(mZ s l).length=l.length
 | []=>rfl
 |x::xs=>by simp[mZ,G8 s xs]
theorem Pc(s:Nat):∀l,Qj (mZ s l)
 | []=>nO
 |x::xs=>by rw[mZ,gB];exact⟨by omega,Pc s xs⟩
theorem X7{s i:Nat}{l:List Nat}(h:i<l.length):mZ s (l.drop i)=((l.getD (i+1) 0*65536+l[i])/2^s)%65536::mZ s (l.drop (i+1)):=by rw[Kau h,mZ];simp[KbG,Kcp,Kae]
theorem abp{x V s:Nat}(hs:s<=16)(hx:x<65536):(x+65536*V)/2^s=((V%65536*65536+x)/2^s)%65536+65536*(V/2^s):=by
 have hp:0<2^s:=KbS (by omega);have e0:=Kbl V (2^s);have hr:=Kbs V hp;generalize hq:V/2^s=q at *
 generalize Tk:V%2^s=r at *
 have hy:V%65536%2^s=r:=by rw[HE hs,Nat.mod_mul_right_mod];exact Tk
 have e1:=Kbl (V%65536) (2^s);rw[hy]at e1;generalize V%65536/2^s=t at *
 have aq:(65536*r+x)/2^s<65536:=by rw[Kbf hp];have:65536*(r+1)<=65536*2^s:=Kbc _ hr;omega
 have k1:x+65536*V=(65536*r+x)+2^s*(65536*q):=by rw[<-e0,Ka1,Kbw];omega
 have k2:V%65536*65536+x=(65536*r+x)+2^s*(65536*t):=by rw[<-e1,KaG,Kba,KaQ t 65536];omega
 rw[k1,k2,Kcn _ _ hp,Kcn _ _ hp,Kcm,KaJ aq]
theorem Lr{s:Nat}(hs:s<=16):∀l,Qj l->val (mZ s l)=val l/2^s
 | [],_=>by simp[mZ,val]
 | x::xs,h=>by
  rw[gB]at h;rw[mZ,val,Lr hs xs h.2,val,abp hs h.1];have:xs.headD 0=val xs%65536:=by
   cases xs with
   |nil=>simp[val]
   |cons y ys=>have:=h.2 y (by simp);simp[val];omega
  rw[this]
variable {C : Ctx} {ρ : Nat -> Option Nat} {fr aA : Fr} {hp : HP} {w : World} {K K' R R' : Qh}
def bU(fr aA:Fr):Prop:=∀s,aA s=fr s∨aA s= .undef
theorem bU.refl(fr:Fr):bU fr fr:=fun _=>.inl rfl
theorem bU.trans{a b c:Fr}(h:bU a b)(k:bU b c):bU a c:=fun s=>by
 rcases k s with e|e
 ·rw[e];exact h s
 ·exact .inr e
theorem bU.ae(h:bU fr aA)(d:Nat){v v':PV}(hv:v'=v∨v'= .undef):bU (ae fr d v) (ae aA d v'):=fun s=>by
 unfold FW.ae;split
 ·exact hv
 ·exact h s
theorem bU.ix(h:bU fr aA)(d:Nat)(v:PV):bU (FW.ae fr d v) (FW.ae aA d v):=h.ae d (.inl rfl)
theorem bU.kill(h:bU fr aA)(β:Nat):bU (bE β fr) (bE β aA):=fun s=>by
 unfold bE;rcases h s with e|e
 ·exact .inl (by rw[e])
 ·right;rw[e];simp[bx,PV.refs]
theorem bU.ev(h:bU fr aA)(x:aI):ev aA x=ev fr x∨ev aA x= .undef:=by
 cases x with
 |t n=>exact h n
 |c p=>exact .inl rfl
theorem bU.mem(h:bU fr aA){q:PV->Prop}(hq:¬q .undef){l:List aI}(hl:∀p∈l.map (FW.ev aA),q p):l.map (FW.ev aA)=l.map (FW.ev fr):=by
 refine Ka6 fun x hx=>?_;rcases h.ev x with e|e
 ·exact e
 ·exact absurd (e▸hl _ (Kcs hx)) hq
theorem bU.aF(h:bU fr aA){γ ba e ty:Nat}{xs:List PV}(e1:aA γ= .aF ba e ty xs):fr γ= .aF ba e ty xs:=by
 rcases h γ with e2|e2
 ·rw[<-e2];exact e1
 ·rw[e1]at e2;cases e2
theorem bU.drop(h:bU fr aA)(γ:Nat):bU (iE γ fr) (iE γ aA):=fun s=>by
 unfold iE;rcases h s with e|e
 ·exact .inl (by rw[e])
 ·right;rw[e];rfl
theorem bU.take(h:bU fr aA)(β:Nat):bU (e9 β fr) (e9 β aA):=fun s=>by
 unfold e9;rcases h s with e|e
 ·exact .inl (by rw[e])
 ·right;rw[e];simp[cR,bx,PV.refs]
theorem bU.wk(h:bU fr aA):Wk fr hp aA hp:=by
 rintro C tmps w ⟨ρ,hs⟩;refine⟨ρ,hs.sz,hs.ext,hs.eG,hs.own,hs.inj,fun s=>?_⟩;rcases h s with h|h<;>rw[h]
 ·exact hs.cH s
 ·trivial
theorem bU.Ua{tmps:Array Value}(h:bU fr aA)(hs:Qr C ρ fr hp tmps w):Qr C ρ aA hp tmps w:=by
 refine⟨hs.sz,hs.ext,hs.eG,hs.own,hs.inj,fun s=>?_⟩;rcases h s with h|h<;>rw[h]
 ·exact hs.cH s
 ·trivial
theorem GF(h:bU fr aA)(x:Option aI):x.map (ev aA)=x.map (ev fr)∨x.map (ev aA)=some .undef:=by
 cases x with
 |none=>exact .inl rfl
 |some x=>rcases h.ev x with e|e<;>simp[e]
theorem Qz3(d:Int):gS d (some .undef)=none:=rfl
theorem Iw (h:bU fr aA) (hK:∀f f' hp,bU f f'->K' f' hp->K f hp) (o:ch):bh C o aA hp K'->bh C o fr hp K:=by
 have hu:∀(d:Nat)(v:PV)(hp:HP),K' (ae aA d v) hp->K (ae fr d v) hp:=fun d v hp H=>hK _ _ _ (h.ix d v) H;have hk:∀(β d:Nat)(v:PV)(hp:HP),K' (ae (bE β aA) d v) hp->K (ae (bE β fr) d v) hp:=fun β d v hp H=>hK _ _ _ ((h.kill β).ix d v) H;have hz:∀hp,K' aA hp->K fr hp:=fun hp H=>hK _ _ _ h H;have mono:∀ {o:ch},bh C o fr hp K'->bh C o fr hp K:=fun H=>HX (fun f hp H=>hK _ _ _ (bU.refl f) H) _ H;cases o with
 |mv d x=>exact fun H=>hK _ _ _ (h.ae d (h.ev x)) H
 | pick d c a b=>
  simp only[bh,sF];rcases h.ev c with e|e
  ·rw[e];split
   ·exact fun H=>⟨fun t=>hK _ _ _ (h.ae d (h.ev a)) (H.1 t),fun t=>hK _ _ _ (h.ae d (h.ev b)) (H.2 t)⟩
   ·exact id
  ·rw[e];exact False.elim
 | call d pr f args=>
  simp only[bh,fC];rcases h.ev f with e|e
  ·rw[e];split
   ·rintro⟨h1,h2⟩;refine⟨h1,fun ρ tmps w fv cv av a1 a2 a3 a4 a5 a6 a7 a8=>?_⟩;refine(h2 ρ tmps w fv cv av a1 (h.Ua a2) a3 a4 (by simpa using a5) a6 a7 (fun i x hx=>?_)).mono ?_
    ·simp only[Kat,Kaa]at hx;obtain⟨y,hy,rfl⟩:=hx;rcases h.ev y with e|e
     ·rw[e];exact a8 i _ (by simp[hy])
     ·rw[e];trivial
    ·rintro e w' ⟨v,f1,hp',e1,e2,e3,e4⟩;exact⟨v,f1,hp',e1,e2,e3,hK _ _ _ (bU.refl _) e4⟩
   ·exact id
  ·rw[e];exact False.elim
 | bs d e ty ps=>
  simp only[bh,kE];by_cases hb:mX (ps.map (ev aA))=true
  ·rw[if_pos hb];rintro⟨h1,h2⟩;have e:ps.map (ev aA)=ps.map (ev fr):=by
    match ps,hb with
    | [],hb=>simp[mX]at hb
    | [p],hb=>
     rcases h.ev p with e|e
     ·simp[e]
     ·rw[Kbe,Kby,e]at hb;simp[mX,lN]at hb
    |p::q::ps,hb=>simp[mX]at hb
   rw[e]at h2 hb;rw[if_pos hb];exact⟨h1,hK _ _ _ (((h.take _).ix _ _).ix _ _) h2⟩
  ·rw[if_neg hb];rintro⟨h1,h2,h3⟩;have e:=h.mem (q:=fun p=>(Qu hp p).aD=true) (by simp[Qu,cq,PV.aD]) (l:=ps) (fun p hp=>(h2 p hp).1);rw[e]at h2 h3 hb;rw[if_neg hb];exact⟨h1,h2,hk _ _ _ _ h3⟩
 | dv d z ps=>
  have key:((∀x∈ps,ev aA x.2.2≠ .undef)->(ps.map fun p=>(p.1,p.2.1,ev aA p.2.2))=ps.map fun p=>(p.1,p.2.1,ev fr p.2.2)):=fun hu=>by
   refine Ka6 fun x hx=>?_;rcases h.ev x.2.2 with e|e
   ·rw[e]
   ·exact absurd e (hu x hx)
  intro H;simp only[bh,kC]at H;split at H
  ·rename_i hn;obtain⟨h2,h3⟩:=H;have e:=key fun x hx e=>by obtain⟨cs,h4,_⟩:=h2 _ (Kcs hx);rw[e]at h4;simp[eP]at h4
   rw[e]at h2 h3 hn;simp only[bh,kC];rw[if_pos hn];exact⟨h2,hK _ _ _ (h.ix _ _) h3⟩
  ·rename_i hn;obtain⟨h2,h3⟩:=H;have e:=key fun x hx e=>by have:=(h2 _ (Kcs hx)).1;rw[e]at this;simp[Qu,cq,PV.aD]at this
   rw[e]at h2 h3 hn;simp only[bh,kC];rw[if_neg hn];exact⟨h2,hK _ _ _ (h.ix _ _) h3⟩
 |fn d f first cap=>simp only[bh];rintro⟨h2,h3⟩;have lk:=h2;rw[List.all_append,Kav,Kaq,Kaq]at lk;have e1:=h.mem (q:=fun p=>p.kL=true) (by simp[PV.kL]) lk.1;have e2:=h.mem (q:=fun p=>p.kL=true) (by simp[PV.kL]) lk.2;rw[e1,e2]at h2 h3;exact⟨h2,hK _ _ _ (h.ix _ _) h3⟩
 | BP d x=>
  simp only[bh,Ax];rcases h.ev x with e|e
  ·rw[e];intro H;revert H
   repeat' split
   all_goals first|exact id|exact hz _|exact hu _ _ _|grind
  ·rw[e];intro H;revert H;repeat' split
   all_goals first|exact id|exact False.elim|grind
 | bin d op bt x y=>
  simp only[bh];rcases h.ev x with e|e<;>rcases h.ev y with e'|e'<;>rw[e,e']
  ·unfold bO;intro H;revert H;split
   ·split<;>first|exact fun H=>⟨H.1,hu _ _ _ H.2⟩|exact fun H=>⟨H.1,H.2.1,hu _ _ _ H.2.2⟩|exact id
   ·split<;>first|exact fun H=>⟨H.1,hu _ _ _ H.2⟩|exact id
   ·exact id
  all_goals
   unfold bO;intro H;revert H
   repeat' split
   all_goals first|exact False.elim|(intros;simp_all;done)|(rename_i h1 _;cases h1;done)|(rename_i h1;cases h1;done)
 | sl d e x lo hi mx=>
  simp only[bh,iw];rcases h.ev x with e0|e0<;>rcases GF h lo with e1|e1<;>rcases GF h hi with e2|e2<;>rcases GF h mx with e3|e3<;>rw[e0,e1,e2,e3]
  all_goals
   intro H;revert H
   try simp only[Qz3]
   repeat' split
   all_goals first|exact id|exact False.elim|(intros;simp_all;done)|grind
 | ld d n ag x=>
  simp only[bh,bn];rcases h.ev x with e|e
  ·rw[e];intro H;revert H;split
   ·split
    ·exact fun⟨a,b,c,k⟩=>⟨a,b,c,hu _ _ _ k⟩
    ·exact id
   ·exact fun⟨a,b,k⟩=>⟨a,b,hu _ _ _ k⟩
   ·exact fun⟨a,b,k⟩=>⟨a,b,hu _ _ _ k⟩
   ·intro H;split at H
    ·rename_i ah;rw[h.aF ah];obtain⟨a,b,c,d,k⟩:=H;exact⟨a,b,c,d,hu _ _ _ k⟩
    ·exact H.elim
   ·exact id
  ·rw[e];exact fun H=>H.elim
 | st n x y=>
  simp only[bh,nK];rcases h.ev x with e|e<;>rcases h.ev y with e'|e'<;>rw[e,e']
  ·intro H;revert H;split
   ·split
    ·exact fun⟨a,b,c,d,f,k⟩=>⟨a,b,c,d,f,hz _ k⟩
    ·exact id
   ·intro H;split at H
    ·rename_i ah;rw[h.aF ah];obtain⟨a,b,c,d,H⟩:=H;refine⟨a,b,c,d,?_⟩;revert H;split
     ·exact fun⟨f,k⟩=>⟨f,hK _ _ _ ((h.drop _).ix _ _) k⟩
     ·exact id
    ·exact H.elim
   ·exact id
  ·intro H;exfalso;revert H;split
   ·split
    ·rintro⟨_,b,_⟩;simp[Qu,cq,PV.aD]at b
    ·exact id
   ·split
    ·rintro⟨_,_,_,_,H⟩;exact H
    ·exact id
   ·exact id
  ·exact fun H=>H.elim
  ·exact fun H=>H.elim
 | app d e by_ ty x y=>
  simp only[bh,iF];rcases h.ev y with e'|e'
  ·rw [e'];intro H;revert H;split
   ·unfold xQ;split
    ·rename_i δ _;rcases h δ with e2|e2
     ·rw [e2];split
      ·rintro⟨a1,a2,a3,H⟩;refine⟨a1,a2,a3,?_⟩;rcases h.ev x with e|e
       ·rw[e]at H;revert H;split
        ·exact fun H=>⟨H.1,hK _ _ _ (((h.take _).ix _ _).ix _ _) H.2⟩
        ·rename_i γ k _;rcases h γ with e3|e3
         ·rw[e3];split
          ·exact fun H=>⟨H.1,H.2.1,hK _ _ _ (((h.take _).ix _ _).ix _ _) H.2.2⟩
          ·exact id
         ·rw[e3];exact fun H=>H.elim
        ·exact id
       ·rw[e]at H;exact H.elim
      ·exact id
     ·rw[e2];exact fun H=>H.elim
    ·exact id
   ·rintro⟨h0,h1,H⟩;refine⟨h0,h1,?_⟩;rcases h.ev x with e|e
    ·rw[e]at H;revert H;split
     ·rintro⟨a,b,c⟩;exact⟨a,b,hk _ _ _ _ c⟩
     ·split
      ·rintro(⟨a1,a2,a3,a4,a5,a6,a7,c⟩|⟨a1,a2,a3,c⟩)
       ·exact .inl ⟨a1,a2,a3,a4,a5,a6,a7,hk _ _ _ _ c⟩
       ·exact .inr ⟨a1,a2,a3,hK _ _ _ ((h.take _).ix _ _) c⟩
      ·exact id
     ·exact id
    ·rw[e]at H;exact H.elim
  ·rw[e'];exact fun H=>H.elim
 | un d op x|conv d k x|len d x|BX d x|cc d o x|ym d o n ag x|ext d x i=>
  all_goals
   simp only[bh,uZ,vu,oU,vD,rf,qV,bn,lW]
   try (rcases h.ev x with e|e<;>rw[e])
  all_goals
   intro H;revert H
   repeat' split
   all_goals first|exact id|exact False.elim|exact hu _ _ _|grind [Qu,cq,PV.aD]
 | box d n ty x=>
  simp only[bh];rcases h.ev x with e|e
  ·rw[e];unfold eQ;split
   ·unfold tS;exact fun H=>⟨H.1,hK _ _ _ (((h.take _).ix _ _).ix _ _) H.2⟩
   ·split
    ·exact hu _ _ _
    ·exact fun H=>⟨H.1,H.2.1,H.2.2.1,hk _ _ _ _ H.2.2.2⟩
  ·rw[e];intro H;simp[eQ,Qu,cq,PV.aD]at H
 | alloc d n ty z=>
  simp only[bh];unfold eQ;split
  ·unfold tS;exact fun H=>⟨H.1,hK _ _ _ (((h.take _).ix _ _).ix _ _) H.2⟩
  ·split
   ·exact hu _ _ _
   ·exact fun H=>⟨H.1,H.2.1,H.2.2.1,hk _ _ _ _ H.2.2.2⟩
 | eqs d ng x y|wQ d ng x y|BW d x y|mx d x y|mn d x y|idx d e x y|wE d n e x y|BJ d n e ag x y|mk d e by_ ty z x y|uj d e x y=>
  all_goals
   simp only[bh,ra,re,tR,wL,wJ,Q7,kX,xP,nK,nH,iF,tT];rcases h.ev x with e|e<;>rcases h.ev y with e'|e'<;>rw[e,e']
  all_goals
   intro H;revert H
   repeat' split
   all_goals first|exact id|exact False.elim|exact hu _ _ _|grind [Qu,cq,PV.aD,jj]
 |bad d=>exact id
end Go.FW
namespace Go.FW
open Go
variable {C : Ctx} {ρ : Nat -> Option Nat} {fr aA : Fr} {hp : HP} {w : World} {K K' R R' : Qh}
def KM(K' K:Qh):Prop:=∀f f' hp,bU f f'->K' f' hp->K f hp
inductive m8:List It->List It->Prop
 |nil:m8 [] []
 |c (s:SC) {a b:List It}:m8 a b->m8 (.c s::a) (.c s::b)
 |o (r:RT) {a b:List It}:m8 a b->m8 (.o r::a) (.o r::b)
 |eb (i:Nat) {a b:List It}:m8 a b->m8 (.eb i::a) (.eb i::b)
 |el {J' J:Qh} {a b:List It}:KM J' J->m8 a b->m8 (.el J'::a) (.el J::b)
theorem m8.exit{id:Nat}:∀ {a b:List It},m8 a b->(∃a' b',FW.bW id a=some a'/\FW.bW id b=some b'/\m8 a' b'/\bG a'<=bG a)∨(FW.bW id a=none/\FW.bW id b=none):=by
 intro a b h;induction h with
 |nil=>exact .inr ⟨rfl,rfl⟩
 |c s h ih|o s h ih=>
  rcases ih with⟨a',b',h1,h2,h3,h4⟩|⟨h1,h2⟩
  ·exact .inl ⟨a',b',by simpa[FW.bW]using h1,by simpa[FW.bW]using h2,h3,by simp only[bG];omega⟩
  ·exact .inr ⟨by simpa[FW.bW]using h1,by simpa[FW.bW]using h2⟩
 |el _ h ih=>
  rcases ih with⟨a',b',h1,h2,h3,h4⟩|⟨h1,h2⟩
  ·exact .inl ⟨a',b',by simpa[FW.bW]using h1,by simpa[FW.bW]using h2,h3,by simp only[bG];omega⟩
  ·exact .inr ⟨by simpa[FW.bW]using h1,by simpa[FW.bW]using h2⟩
 | eb i h ih=>
  by_cases hi:i=id
  ·exact .inl ⟨_,_,by simp[FW.bW,hi],by simp[FW.bW,hi],h,by simp only[bG];omega⟩
  ·rcases ih with⟨a',b',h1,h2,h3,h4⟩|⟨h1,h2⟩
   ·exact .inl ⟨a',b',by simpa[FW.bW,hi]using h1,by simpa[FW.bW,hi]using h2,h3,by simp only[bG];omega⟩
   ·exact .inr ⟨by simpa[FW.bW,hi]using h1,by simpa[FW.bW,hi]using h2⟩
theorem Db(h:bU fr aA)(hK:KM K' K)(o:ch):jk o aA hp K'->jk o fr hp K:=by
 unfold jk;split
 ·exact hK _ _ _ (h.ix _ _)
 ·exact hK _ _ _ h
theorem abq(h:bU fr aA)(hK:KM K' K)(g:Option (Nat×Bool))(o:ch):hZ C g o aA hp K'->hZ C g o fr hp K:=by
 unfold hZ;split
 ·exact Iw h hK o
 ·rename_i s want;rcases h s with e|e
  ·rw[e];split
   ·exact fun H=>⟨fun t=>Iw (h.ix _ _) hK o (H.1 t),fun t=>Db (h.ix _ _) hK o (H.2 t)⟩
   ·exact Db h hK o
   ·exact id
  ·rw[e];exact False.elim
theorem sw(hR:KM R' R):∀(n:Nat)(dW sk:List It)(aA fr:Fr)(hp:HP),bG dW<=n->m8 dW sk->bU fr aA->vc C R' dW aA hp->vc C R sk fr hp:=by
 intro n;induction n with
 |zero=>
  intro dW sk aA fr hp hn hs hf h;cases hs with
  |nil=>rw[tL]at h ⊢;exact hR _ _ _ hf h
  |el hJ _=>rw[vr]at h ⊢;exact hJ _ _ _ hf h
  |c s _=>exfalso;have:=SC.yW s;simp only[bG,It.sz]at hn;omega
  |o s _=>exfalso;have:=RT.yW s;simp only[bG,It.sz]at hn;omega
  |eb _ _=>exfalso;simp only[bG,It.sz]at hn;omega
 | succ n ih=>
  intro dW sk aA fr hp hn hs hf h;cases hs with
  |nil=>rw[tL]at h ⊢;exact hR _ _ _ hf h
  |el hJ _=>rw[vr]at h ⊢;exact hJ _ _ _ hf h
  |eb i hs=>rw[B1]at h⊢;exact ih _ _ _ _ _ (by simp only[bG,It.sz]at hn;omega) hs hf h
  | o r hs=>
   cases r with
   |nil=>rw[Ah]at h ⊢;exact ih _ _ _ _ _ (by simp only[bG,It.sz,RT.sz]at hn;omega) hs hf h
   |o g o r=>rw[M6]at h⊢;exact abq (K':=fun fr hp=>vc C R' (.o r::_) fr hp) (K:=fun fr hp=>vc C R (.o r::_) fr hp) hf (fun f f' hp JE H=>ih (.o r::_) (.o r::_) _ _ hp (by simp only[bG,It.sz,RT.sz]at hn ⊢;omega) (.o r hs) JE H) g o h
   |wk r=>rw[Eh]at h⊢;obtain⟨aJ,aw,hw,h⟩:=h;exact⟨aJ,aw,hf.wk.trans hw,ih (.o r::_) (.o r::_) _ _ _ (by simp only[bG,It.sz,RT.sz]at hn ⊢;omega) (.o r hs) (bU.refl _) h⟩
   |br x y=>rw[M7]at h⊢;exact⟨ih (.o x::_) (.o x::_) _ _ _ (by simp only[bG,It.sz,RT.sz]at hn ⊢;omega) (.o x hs) hf h.1,ih (.o y::_) (.o y::_) _ _ _ (by simp only[bG,It.sz,RT.sz]at hn ⊢;omega) (.o y hs) hf h.2⟩
  | @c s a b hs=>
   cases s with
   |skip=>rw[DP]at h ⊢;exact ih _ _ _ _ _ (by simp only[bG,It.sz,SC.sz]at hn;omega) hs hf h
   |rg r=>rw[GB]at h ⊢;exact ih (.o r::_) (.o r::_) _ _ _ (by simp only[bG,It.sz,SC.sz]at hn ⊢;omega) (.o r hs) hf h
   | raw id ops=>
    rw[vc]at h⊢;intro tmps w Q ov hQ;refine h tmps w Q ?_ fun fc bI ap6 w2 cL hv=>hQ fc bI ap6 w2 cL ?_
    ·obtain⟨ρ,ov⟩:=ov;exact⟨ρ,hf.Ua ov⟩
    ·exact ih _ _ _ _ _ (by simp only[bG,It.sz,SC.sz]at hn;omega) hs (bU.refl _) hv
   |seq x y=>rw[Ei]at h ⊢;exact ih (.c x:: .c y::_) (.c x:: .c y::_) _ _ _ (by simp only[bG,It.sz,SC.sz]at hn ⊢;omega) (.c x (.c y hs)) hf h
   |block id x=>rw[Dp]at h ⊢;exact ih (.c x:: .eb id::_) (.c x:: .eb id::_) _ _ _ (by simp only[bG,It.sz,SC.sz]at hn ⊢;omega) (.c x (.eb id hs)) hf h
   |ret=>rw[Ej]at h ⊢;exact hR _ _ _ hf h
   | cond c x y=>
    rw[DQ]at h⊢;rcases hf.ev c with e|e
    ·rw[e]at h;unfold tN at h⊢;split at h
     ·exact⟨fun e=>ih (.c x::_) (.c x::_) _ _ _ (by simp only[bG,It.sz,SC.sz]at hn ⊢;omega) (.c x hs) hf (h.1 e),fun e=>ih (.c y::_) (.c y::_) _ _ _ (by simp only[bG,It.sz,SC.sz]at hn ⊢;omega) (.c y hs) hf (h.2 e)⟩
     ·exact h
    ·rw[e]at h;exact h.elim
   | exit id=>
    rw[DR]at h⊢;rcases hs.exit (id:=id)with⟨a',b',h1,h2,h3,h4⟩|⟨h1,h2⟩
    ·rw[h1]at h;rw[h2];simp only[vt]at h⊢;exact ih _ _ _ _ _ (by simp only[bG,It.sz,SC.sz]at hn;omega) h3 hf h
    ·rw[h1]at h;exact h.elim
   |loop x=>rw[wY]at h⊢;obtain⟨I,μ,⟨aJ,aw,h1,ie⟩,h2⟩:=h;refine⟨I,μ,⟨aJ,aw,hf.wk.trans h1,ie⟩,fun fr hp hI=>?_⟩;refine ih (.c x:: .el _::_) (.c x:: .el _::_) _ _ _ (by simp only[bG,It.sz,SC.sz]at hn ⊢;omega) (.c x (.el ?_ hs)) (bU.refl _) (h2 fr hp hI);rintro f f' hp' hf ⟨aJ,aw,g1,g2,g3⟩;exact⟨aJ,aw,hf.wk.trans g1,g2,g3⟩
def lE:List (Nat×Nat)->Nat->Bool
 | [],_=>false
 |(a,b)::W,s=>(decide (a<=s)&&decide (s<=b))||lE W s
theorem adu(s:Nat):lE [] s=false:=rfl
theorem Dx(a b s:Nat)(W:List (Nat×Nat)):lE ((a,b)::W) s=((decide (a<=s)&&decide (s<=b))||lE W s):=rfl
def bg(W:List (Nat×Nat))(J F:Fr):Fr:=fun s=>if lE W s then J s else F s
theorem Na(W:List (Nat×Nat))(J F:Fr)(s:Nat):bg W J F s=if lE W s then J s else F s:=rfl
theorem Mj{W:List (Nat×Nat)}{a:Nat}{v:PV}{J F:Fr}(h:lE W a=true):ae (bg W J F) a v=bg W (ae J a v) F:=by
 funext s;unfold ae bg;by_cases hs:s=a
 ·subst hs;rw[if_pos rfl,if_pos h];simp
 ·rw[if_neg hs];split
  ·simp[hs]
  ·rfl
theorem abr{W:List (Nat×Nat)}{a:Nat}{v:PV}{J F:Fr}:ae (bg W J F) a v=if lE W a=true then bg W (ae J a v) F else bg ((a,a)::W) (ae J a v) F:=by
 split
 ·exact Mj ‹_›
 ·funext s;unfold ae bg;by_cases hs:s=a
  ·subst hs;simp[lE]
  ·have:(decide (a<=s)&&decide (s<=a))=false:=by rw[Bool.and_eq_false_iff];simp only[decide_eq_false_iff_not];omega
   simp only[Dx,this,Bool.false_or,if_neg hs]
theorem X8{W:List (Nat×Nat)}{β:Nat}{J F:Fr}:bE β (bg W J F)=bg W (bE β J) (bE β F):=by funext s;unfold bE bg;split<;>rfl
def Qy(B:List Nat)(F:Fr):Fr:=fun s=>if(F s).refs.any B.contains then .undef else F s
theorem jG(F:Fr):Qy [] F=F:=by funext s;simp[Qy]
theorem Cx{β:Nat}{B:List Nat}{F:Fr}(h:B.contains β=true):bE β (Qy B F)=Qy B F:=by
 funext s;show bx β (Qy B F s)=Qy B F s;by_cases h1:(F s).refs.any B.contains=true
 ·have:Qy B F s= .undef:=if_pos h1;rw[this];rfl
 ·have:Qy B F s=F s:=if_neg h1;rw[this,bx,if_neg];intro h2;exact h1 (KaW.2 ⟨β,by simpa using h2,h⟩)
theorem Qz4{β:Nat}{B:List Nat}{F:Fr}:bE β (Qy B F)=if B.contains β=true then Qy B F else Qy (β::B) F:=by
 split
 ·exact Cx ‹_›
 ·funext s;show bx β (Qy B F s)=Qy (β::B) F s;unfold Qy bx;by_cases h1:(F s).refs.any B.contains=true
  ·have h2:(F s).refs.any (β::B).contains=true:=by obtain⟨x,hx,jB⟩:=KaW.1 h1;exact KaW.2 ⟨x,hx,by rw[KaP,jB,Bool.or_true]⟩
   simp only[if_pos h1,if_pos h2];rfl
  ·simp only[if_neg h1];by_cases h2:(F s).refs.contains β=true
   ·have h3:(F s).refs.any (β::B).contains=true:=KaW.2 ⟨β,by simpa using h2,by simp⟩;rw[if_pos h2,if_pos h3]
   ·rw[if_neg h2,if_neg];intro h3;obtain⟨x,hx,jB⟩:=KaW.1 h3;rw[KaP,KbC]at jB;rcases jB with e|e
    ·have:x=β:=by simpa using e
     subst this;exact h2 (by simpa using hx)
    ·exact h1 (KaW.2 ⟨x,hx,e⟩)
theorem HF(B:List Nat)(F:Fr)(s:Nat):Qy B F s=if(F s).refs.any B.contains then .undef else F s:=rfl
theorem Dy(W:List (Nat×Nat))(B:List Nat):bU fr (bg W fr (Qy B fr)):=fun s=>by
 unfold bg Qy;split
 ·exact .inl rfl
 ·split
  ·exact .inr rfl
  ·exact .inl rfl
def xK(W:List (Nat×Nat))(F:Fr)(I:Nat->Fr->HP->Prop)(n:Nat):Qh:=fun aA hp'=>∃J m,bU aA (bg W J F)/\m<n/\I m J hp'
theorem Qi{W:List (Nat×Nat)}{F J:Fr}{I:Nat->Fr->HP->Prop}{n:Nat}(m:Nat)(hl:m<n)(h:I m J hp):xK W F I n (bg W J F) hp:=⟨J,m,bU.refl _,hl,h⟩
theorem abt{W:List (Nat×Nat)}{F:Fr}{I:Nat->Fr->HP->Prop}{n:Nat}:KM (xK W F I n) (xK W F I n):=by rintro f f' hp hf ⟨J,m,h1,h2,h3⟩;exact⟨J,m,hf.trans h1,h2,h3⟩
def eJ(R:Qh)(sk:List It):Prop:=KM R R/\m8 sk sk
theorem Qn{sk:List It}{x:SC}(aO:eJ R sk)(W:List (Nat×Nat))(B:List Nat)(I:Nat->Fr->HP->Prop)(m0:Nat)(h0:I m0 fr hp)
  (h:∀m J hp,I m J hp->vc C R (.c x:: .el (xK W (Qy B fr) I m)::sk) (bg W J (Qy B fr)) hp):vc C R (.c (.loop x)::sk) fr hp:=by
 refine zD (fun m aA hp'=>∃J,aA=bg W J (Qy B fr)/\I m J hp') m0 (Dy W B).wk ⟨fr,rfl,h0⟩ ?_;rintro m _ hp' ⟨J,rfl,hI⟩;refine sw aO.1 _ _ _ _ _ _ (Kad _) (.c x (.el ?_ aO.2)) (bU.refl _) (h m J hp' hI);rintro f f' bI hf ⟨J2,m2,e2,hl,h2⟩;exact HT hl (hf.trans e2).wk ⟨J2,rfl,h2⟩
def oW(W:List (Nat×Nat))(F:Fr)(M:Fr->HP->Prop):Qh:=fun aA hp'=>∃J,bU aA (bg W J F)/\M J hp'
theorem DV{W:List (Nat×Nat)}{F J:Fr}{M:Fr->HP->Prop}(h:M J hp):oW W F M (bg W J F) hp:=⟨J,bU.refl _,h⟩
theorem DW{W:List (Nat×Nat)}{F:Fr}{M:Fr->HP->Prop}:KM (oW W F M) (oW W F M):=by rintro f f' hp hf ⟨J,h1,h3⟩;exact⟨J,hf.trans h1,h3⟩
theorem Dc{sk:List It}{W:List (Nat×Nat)}{F:Fr}{I:Nat->Fr->HP->Prop}{n:Nat}(h:eJ R sk):eJ R (.el (xK W F I n)::sk):=⟨h.1,.el abt h.2⟩
theorem DA{sk:List It}{W:List (Nat×Nat)}{F:Fr}{M:Fr->HP->Prop}(h:eJ R sk):eJ R (.el (oW W F M)::sk):=⟨h.1,.el DW h.2⟩
theorem DX{sk:List It}{i:Nat}(h:eJ R sk):eJ R (.eb i::sk):=⟨h.1,.eb i h.2⟩
theorem Eo{sk:List It}{s:SC}(h:eJ R sk):eJ R (.c s::sk):=⟨h.1,.c s h.2⟩
theorem Ep{sk:List It}{s:RT}(h:eJ R sk):eJ R (.o s::sk):=⟨h.1,.o s h.2⟩
theorem CU{sk:List It}{I:Nat->Qh}{n:Nat}(h:eJ R sk):eJ R (.el (xC I n)::sk):=⟨h.1,.el (fun f f' hp hf ⟨a,b,h1,h2⟩=>⟨a,b,hf.wk.trans h1,h2⟩) h.2⟩
theorem Mk{rs:List RV}{Rr:PV->Prop}:KM (fD rs Rr) (fD rs Rr):=by
 have one:∀(f f':Fr)(hp:HP)(r:RV),bU f f'->kg f' hp r->kg f hp r/\jC f' hp r=jC f hp r:=by
  intro f f' hp r hf ho;cases r with
  |t s=>
   simp only[kg,jC]at ho⊢;rcases hf s with e|e
   ·rw[e]at ho ⊢;exact⟨ho,rfl⟩
   ·rw[e]at ho;simp[Qu,cq,PV.aD]at ho
  |cell s n ag=>
   simp only[kg,jC]at ho⊢;rcases hf s with e|e
   ·rw[e]at ho ⊢;exact⟨ho,rfl⟩
   ·rw[e]at ho;exact ho.elim
 intro f f' hp hf h;unfold fD at h⊢;split at h
 ·rename_i r;obtain⟨h1,h2⟩:=h;obtain⟨g1,g2⟩:=one f f' hp r hf h1;rw[g2]at h2;exact⟨g1,h2⟩
 ·obtain⟨h1,h2⟩:=h;have e:rs.map (jC f' hp)=rs.map (jC f hp):=Ka6 fun r hr=>(one f f' hp r hf (h1 r hr)).2;rw[e]at h2;exact⟨fun r hr=>(one f f' hp r hf (h1 r hr)).1,h2⟩
theorem abu{rs:List RV}{ty:TypeId}{len:Nat}{bb:PV->List PV->Prop}:KM (sG rs ty len bb) (sG rs ty len bb):=by
 rintro f f' hp hf ⟨xs',h1,h2,h3,h4⟩;refine⟨xs',h1,h2,h3,?_⟩;rcases h4 with h4|⟨s,o,n,h4,h5,h6⟩
 ·exact .inl (Mk _ _ _ hf h4)
 ·refine .inr ⟨s,o,n,h4,?_,h6⟩;rcases hf s with e|e
  ·rw[<-e];exact h5
  ·rw[h5]at e;cases e
theorem abv{rs:List RV}{ty:TypeId}{bb:List PV->Prop}:KM (xJ rs ty bb) (xJ rs ty bb):=by
 rintro f f' hp hf ⟨s,β,n,xs,h1,h2,h3⟩;refine⟨s,β,n,xs,h1,?_,h3⟩;rcases hf s with e|e
 ·rw[<-e];exact h2
 ·rw[h2]at e;cases e
theorem DB{rs:List RV}{Rr:PV->Prop}:eJ (fD rs Rr) []:=⟨Mk,.nil⟩
theorem Dd{rs:List RV}{ty:TypeId}{len:Nat}{bb:PV->List PV->Prop}:eJ (sG rs ty len bb) []:=⟨abu,.nil⟩
theorem De{rs:List RV}{ty:TypeId}{bb:List PV->Prop}:eJ (xJ rs ty bb) []:=⟨abv,.nil⟩
theorem oL{sk:List It}{x:SC}(i β e ty:Nat)(he:0<e)(hi:fr i= .aa)(h:vc C R (.c (.loop x)::sk) (ae (bE β fr) i (.ms β 0)) (Ql hp β ⟨e,ty,[],false⟩))(hB:bB β=false:=by decide):vc C R (.c (.loop x)::sk) fr hp:=by rw[wY]at h⊢;obtain⟨I,μ,⟨aJ,aw,h1,ie⟩,h2⟩:=h;exact⟨I,μ,⟨aJ,aw,(M1 i β e ty he hi hB).trans h1,ie⟩,h2⟩
end Go.FW
namespace Go.FW
open Go
variable {C : Ctx} {fr : Fr} {hp : HP} {w : World} {K R : Qh}
theorem Vv{P:Program}{f:FuncId}{k:IntKind}{x:Int}{r:PV}{v:Value}(hg:oV P f)(h:∀w,Calls P f #[.int k x] w fun e w'=>e= .returned v/\w'=w)(hr:∀w X,eB w X r v):Qd P f [.int k x] (· =r):=by
 refine⟨hg,fun w X bd hX hs fw=>?_⟩;have h0:∀u,Qp w X (.int k x) u->u= .int k x:=fun u hu=>by cases hu;rfl
 have e:bd= #[.int k x]:=by
  have h1:bd.getD 0 undef= .int k x:=h0 _ (fw 0 _ rfl);apply Array.ext
  ·simpa using hs
  ·intro i hi az;have vY:i=0:=by simp at az;omega
   subst vY;simpa[Array.getD,hi]using h1
 rw[e];refine(h w).mono ?_;rintro e w' ⟨rfl,rfl⟩;exact⟨v,r,rfl,Ext.refl _ _,hr _ _,rfl⟩
end Go.FW
namespace Go.FW
open Go
variable {C : Ctx} {fr : Fr} {hp : HP} {w : World} {K R : Qh}
theorem X9(a b:Nat)(Ba:a≠b)(h:HP)(v w:HB):Ql (Ql h a v) b w=Ql (Ql h b w) a v:=by
 funext c;unfold Ql;by_cases h1:c=a
 ·subst h1;simp[Ba]
 ·simp[h1]
theorem abw{x y:RT}{sk:List It}(aO:eJ R sk)(W:List (Nat×Nat))(B:List Nat)(M:Fr->HP->Prop)
  (h:sR C R x y (.el (oW W (Qy B fr) M)::sk) (bg W fr (Qy B fr)) hp) (hM:∀J hp,M J hp->vc C R sk (bg W J (Qy B fr)) hp):sR C R x y sk fr hp:=by
 have key:∀(r:RT),vc C R (.o r:: .el (oW W (Qy B fr) M)::sk) (bg W fr (Qy B fr)) hp->vc C R (.o r::sk) fr hp:=by
  intro r hr;refine z9 (M:=oW W (Qy B fr) M) ?_ _ [.o r] _ _ (Kad _) ?_
  ·rintro aA hp' ⟨J,h1,h2⟩;exact sw aO.1 _ _ _ _ _ _ (Kad _) aO.2 h1 (hM J hp' h2)
  ·exact sw aO.1 _ _ _ _ _ _ (Kad _) (.o r (.el DW aO.2)) (Dy W B) hr
 exact⟨key x h.1,key y h.2⟩
theorem WA{V W P v1 v2 v0 hi u2 w0:Nat}(hV:V=(v1*65536+v2)*P+v0)(hW:W=(hi*65536+u2)*P+w0)(FI:w0<P)(Kg:u2<65536)(h1:0<v1):W<(hi/v1+1)*V:=by
 have e1:hi+1<=(hi/v1+1)*v1:=by have:=Kbl hi v1;have:=Kbs hi h1;rw[KaG,KaQ];omega
 have e2:W<(hi+1)*65536*P:=by have:(hi*65536+u2+1)*P<=(hi+1)*65536*P:=Kal _ (by omega);rw[KaG _ 1]at this;omega
 refine Kbi e2 ?_
 calc (hi+1)*65536*P<=((hi/v1+1)*v1)*65536*P:=Kal _ (Kal _ e1)
  _=(hi/v1+1)*(v1*65536*P):=by rw[Kba,Kba,Kba]
  _<=(hi/v1+1)*V:=Kbc _ (by rw[hV,KaG];omega)
theorem abx{V W P v1 v2 v0 hi u2 w0 d r:Nat}(hV:V=(v1*65536+v2)*P+v0)(hW:W=(hi*65536+u2)*P+w0)(FI:w0<P)(hd:d*v1+r=hi)(ht:r*65536+u2<d*v2):W<d*V:=by
 have h1:hi*65536+u2+1<=d*(v1*65536+v2):=by rw[Ka1,<-Nat.mul_assoc,<-hd,KaG];omega
 have h2:W<(hi*65536+u2+1)*P:=by rw[hW,KaG _ 1];omega
 refine Kbi h2 (KaL (Kal _ h1) ?_);rw[Kba];exact Kbc _ (by rw[hV];exact Nat.le_add_right _ _)
theorem aby{V W P v1 v2 v0 hi u2 w0 e r:Nat}(hV:V=(v1*65536+v2)*P+v0)(hW:W=(hi*65536+u2)*P+w0)(wA:v0<P)(tf:1<=v1)(he:e+1<65536)(hd:(e+1)*v1+r=hi)(ht:¬r*65536+u2<(e+1)*v2):e*V<=W:=by
 have h1:(e+1)*(v1*65536+v2)<=hi*65536+u2:=by rw[Ka1,<-Nat.mul_assoc,<-hd,KaG ((e+1)*v1)];omega
 have h2:e*v0<=(v1*65536+v2)*P:=KbU (by omega) (by omega)
 calc e*V=e*(v1*65536+v2)*P+e*v0:=by rw[hV,Ka1,Kba]
  _<=e*(v1*65536+v2)*P+(v1*65536+v2)*P:=Nat.add_le_add_left h2 _
  _=(e+1)*(v1*65536+v2)*P:=by rw[KaG e,Kck,KaG (e*_)]
  _<=(hi*65536+u2)*P:=Kal _ h1
  _<=W:=by rw[hW];exact Nat.le_add_right _ _
theorem abz{V W P v1 v2 v0 hi u2 w0:Nat}(hV:V=(v1*65536+v2)*P+v0)(hW:W=(hi*65536+u2)*P+w0)(wA:v0<P)(h:W<65536*V)(hP:0<P):hi<=v1*65536+v2:=by
 have h1:hi*(65536*P)<(v1*65536+v2+1)*(65536*P):=by
  have e1:hi*(65536*P)<=W:=by rw[hW,KaG,Kba];omega
  have e2:V<=(v1*65536+v2+1)*P:=by rw[hV,KaG _ 1];omega
  have e3:65536*V<=65536*((v1*65536+v2+1)*P):=Kbc _ e2;rw[Kbw]at e3;omega
 have:=Nat.lt_of_mul_lt_mul_right h1;omega
theorem NQ:∀(a:List Nat)(q b:Nat),(eR a [] q 0 b).2.1=0
 | [],_,_=>rfl
 |x::xs,q,b=>by simp only[eR,List.headD_nil,KbZ,List.tail_nil];exact NQ xs q _
theorem Pd:∀(a v:List Nat)(q c b:Nat),v.length<a.length->c<65536->q<65536->Qj v->(eR a v q c b).2.1=0
 | [],_,_,_,_,h,_,_,_=>by simp at h
 |x::xs,[],q,c,b,h,hc,hq,hv=>by simp only[eR,List.headD_nil,KbZ,List.tail_nil,KaO];rw[Kcw hc];exact NQ xs q _
 |x::xs,y::ys,q,c,b,h,hc,hq,hv=>by rw[gB]at hv;simp only[eR,List.headD_cons,List.tail_cons];refine Pd xs ys q _ _ (by simpa using h) ?_ hq hv.2;have:=tw hq hv.1;omega
theorem CL{l:List Nat}{k:Nat}(h:val l<65536^k):val (l.drop k)=0:=by
 rcases KcR k l.length with hk|hk
 ·have:=pB l k (by omega);have:65536^k*val (l.drop k)<65536^k*1:=by omega
  have:=Nat.lt_of_mul_lt_mul_left this;omega
 ·rw[Kan hk];rfl
theorem Ml{l:List Nat}{n:Nat}(h:l.length=n+2):val l=(l.getD (n+1) 0*65536+l.getD n 0)*65536^n+val (l.take n):=by have e:=pB l n (by omega);rw[lI (by omega),lI (by omega),Kan (by omega)]at e;rw[e,fN (by omega),fN (by omega),val,KbZ,KaO,KaQ (65536^n)];rw[KaQ 65536,KbY (l[n]),KbY]
theorem ags:
  (∀(β:Nat)(cs:List PV),bx β (.pt cs)= .pt cs)/\(∀(β:Nat),bx β .undef= .undef)/\(∀(β:Nat)(cs:List PV),bx β (.aG cs)= .aG cs)/\
  (∀(cs:List PV),(PV.pt cs).refs=[])/\(PV.undef.refs=[])/\(∀(cs:List PV),(PV.aG cs).refs=[])/\
  (∀(hp:HP)(cs:List PV),Qu hp (.pt cs)= .pt cs)/\(∀(hp:HP)(cs:List PV),Qu hp (.aG cs)= .aG cs)/\
  (∀(β f:Nat)(a b:List PV),bx β (.fn f a b)=if(a.flatMap PV.bw++b.flatMap PV.bw).contains β then .undef else .fn f a b)/\
  (∀(β o n:Nat),(PV.au β o n).bw=[β])/\(∀(β o n:Nat),(PV.rb β o n).bw=[β])/\(∀(β o n:Nat),(PV.mp β o n).bw=[β])/\
  (∀(k:IntKind)(n:Int),(PV.int k n).bw=[])/\(∀(b:Bool),(PV.bool b).bw=[])/\(∀(e:Nat)(xs:List PV),(PV.sl e xs).bw=[])/\(PV.aa.bw=[])/\(∀(xs:List PV),(PV.pt xs).bw=[]):=by
 refine⟨fun _ _=>rfl,fun _=>rfl,fun _ _=>rfl,fun _=>rfl,rfl,fun _=>rfl,fun _ _=>rfl,fun _ _=>rfl,fun _ _ _ _=>rfl,fun _ _ _=>rfl,fun _ _ _=>rfl,fun _ _ _=>rfl,fun _ _=>rfl,fun _=>rfl,fun _ _=>rfl,rfl,fun _=>rfl⟩
theorem apR:
  (∀(ty d e:Nat)(xs:List PV)(fr:Fr)(hp:HP)(K:Qh),eQ 1 ty (.sl e xs) d fr hp K=K (ae (bE d fr) d (.mp d 0 0)) (Ql hp d ⟨1,ty,[.sl e xs],false⟩))/\
  (∀(ty d:Nat)(k:IntKind)(x:Int)(fr:Fr)(hp:HP)(K:Qh),eQ 1 ty (.int k x) d fr hp K=K (ae (bE d fr) d (.mp d 0 0)) (Ql hp d ⟨1,ty,[.int k x],false⟩))/\
  (∀(ty d:Nat)(x:Bool)(fr:Fr)(hp:HP)(K:Qh),eQ 1 ty (.bool x) d fr hp K=K (ae (bE d fr) d (.mp d 0 0)) (Ql hp d ⟨1,ty,[.bool x],false⟩))/\
  (∀(ty d:Nat)(fr:Fr)(hp:HP)(K:Qh),eQ 1 ty .aa d fr hp K=K (ae (bE d fr) d (.mp d 0 0)) (Ql hp d ⟨1,ty,[.aa],false⟩))/\
  (∀(n ty d o m:Nat)(fr:Fr)(hp:HP)(K:Qh),eQ n ty (.au 1000000 o m) d fr hp K=K (ae fr d (.rb 1000000 o m)) hp)/\
  (∀(n ty d:Nat)(x:PV)(cs:List PV)(fr:Fr)(hp:HP)(K:Qh),eQ n ty (.agg (x::cs)) d fr hp K=(cs.length+1=n/\K (ae (bE d fr) d (.mp d 0 0)) (Ql hp d ⟨n,ty,[.agg (x::cs)],false⟩)))/\
  (∀(ty d:Nat)(x:PV)(fz:Bool)(fr:Fr)(hp:HP)(K:Qh),iu (some ⟨1,ty,[x],fz⟩) 1 false 0 0 d fr hp K=K (ae fr d (dQ false 1 0 x)) hp)/\
  (∀(ty β e:Nat)(x:PV)(xs:List PV)(fr:Fr)(hp:HP)(K:Qh),stM (some ⟨1,ty,[x],false⟩) β 1 0 0 (.sl e xs) fr hp K=K fr (Ql hp β ⟨1,ty,[.sl e xs],false⟩))/\
  (∀(ty β:Nat)(x:PV)(k:IntKind)(y:Int)(fr:Fr)(hp:HP)(K:Qh),stM (some ⟨1,ty,[x],false⟩) β 1 0 0 (.int k y) fr hp K=K fr (Ql hp β ⟨1,ty,[.int k y],false⟩))/\
  (∀(ty β:Nat)(x:PV)(y:Bool)(fr:Fr)(hp:HP)(K:Qh),stM (some ⟨1,ty,[x],false⟩) β 1 0 0 (.bool y) fr hp K=K fr (Ql hp β ⟨1,ty,[.bool y],false⟩))/\
  (∀(ty β:Nat)(x:PV)(fr:Fr)(hp:HP)(K:Qh),stM (some ⟨1,ty,[x],false⟩) β 1 0 0 .aa fr hp K=K fr (Ql hp β ⟨1,ty,[.aa],false⟩))/\
  (∀(e:Nat)(xs:List PV),dQ false 1 0 (.sl e xs)= .sl e xs)/\(∀(k:IntKind)(x:Int),dQ false 1 0 (.int k x)= .int k x)/\(∀(x:Bool),dQ false 1 0 (.bool x)= .bool x)/\(dQ false 1 0 .aa= .aa):=by
 have fz:∀hp:HP,Qx hp []=hp:=fun _=>rfl;refine⟨fun _ _ _ _ _ _ _=>?_,fun _ _ _ _ _ _ _=>?_,fun _ _ _ _ _ _=>?_,fun _ _ _ _ _=>?_,fun _ _ _ _ _ _ _ _=>af8 (by decide),fun n ty d x cs fr hp K=>?_,fun _ _ _ _ _ _ _=>?_,fun _ _ _ _ _ _ _ _=>?_,fun _ _ _ _ _ _ _ _=>?_,fun _ _ _ _ _ _ _=>?_,fun _ _ _ _ _ _=>?_,fun _ _=>rfl,fun _ _=>rfl,fun _=>rfl,rfl⟩
 ·simp[eQ,Qu,cq,PV.aD,PV.cells,PV.refs,fz]
 ·simp[eQ,Qu,cq,PV.aD,PV.cells,PV.refs,fz]
 ·simp[eQ,Qu,cq,PV.aD,PV.cells,PV.refs,fz]
 ·simp[eQ,Qu,cq,PV.aD,PV.cells,PV.refs,fz]
 ·apply propext;simp only[eQ,Qu,cq,PV.aD,PV.cells,PV.refs,KaT,fz];exact⟨fun⟨_,h1,_,h2⟩=>⟨h1,h2⟩,fun⟨h1,h2⟩=>⟨trivial,h1,by omega,h2⟩⟩
 all_goals simp[iu,stM,PV.aD,PV.cells]
end Go.FW
namespace Go.FW
theorem afV{l:List Nat}{j n V:Nat}(hl:Qj l)(hlen:j+n+3<=l.length)(hV:V<=65536^(n+2))(hz:val (l.drop (j+1))<V):
  ∃pre w post,l=pre++(w++post)/\pre.length=j/\w.length=n+3/\Qj pre/\Qj w/\Qj post/\val post=0/\val (l.drop j)=val w/\val w<65536*V/\
   ∃w0,w0<65536^n/\val w=((l.getD (j+(n+2)) 0*65536+l.getD (j+(n+1)) 0)*65536+l.getD (j+n) 0)*65536^n+w0:=by
 have gR:val (l.drop (j+n+3))=0:=by have:=CL (l:=l.drop (j+1)) (k:=n+2) (by omega);rw[List.drop_drop]at this;rw[<-this];congr 2;omega
 have hw:Qj ((l.drop j).take (n+3)):=w7 (zq hl j) _;have lD:((l.drop j).take (n+3)).length=n+3:=by simp;omega
 have gw:l.drop j=(l.drop j).take (n+3)++l.drop (j+n+3):=by have:=(Kbg (n+3) (l.drop j)).symm;rw[List.drop_drop]at this;exact this
 have dH:val (l.drop j)=val ((l.drop j).take (n+3)):=by
  conv=>lhs;rw[gw]
  rw[mN,gR,KbZ,KaO]
 have ew:∀i,i<n+3->((l.drop j).take (n+3)).getD i 0=l.getD (j+i) 0:=by intro i hi;simp[Kae,Kcj,hi]
 refine⟨l.take j,(l.drop j).take (n+3),l.drop (j+n+3),?_,by simp;omega,lD,w7 hl j,hw,zq hl _,gR,dH,?_,?_⟩
 ·rw[<-gw,Kbg]
 ·rw[<-dH,lI (by omega)];have:=dX hl (show j<l.length by omega);omega
 ·refine⟨val (((l.drop j).take (n+3)).take n),tv hw n (by omega),?_⟩;rw[Ml (n:=n+1) lD,ew _ (by omega),ew _ (by omega),za (by omega)];rw[<-fN,ew _ (by omega),Kbz];generalize l.getD (j+(n+1)) 0=a;generalize l.getD (j+n) 0=b;generalize l.getD (j+(n+1+1)) 0=c;rw[KaG _ b,Kba _ 65536,KaQ 65536 (65536^n),KaQ (65536^n) b];omega
theorem Yt{U V L qs W R q pre B:Nat}(hU:U=L+V*(65536*B*qs))(hL:L=pre+B*W)(hW:W=q*V+R):U=(pre+B*R)+V*(B*(q+65536*qs)):=by
 subst hW hL;rw[hU,Ka1 B,Ka1 B q,Ka1 V];have e1:B*(q*V)=V*(B*q):=by rw[KaQ q V,Kbw]
 have e2:V*(65536*B*qs)=V*(B*(65536*qs)):=by rw[KaQ 65536 B,Kba]
 omega
open Go
variable {C : Ctx} {fr : Fr} {hp : HP} {w : World} {K R : Qh}
theorem dp{x y:RT}{sk:List It}(h1:vc C R (.o x::sk) fr hp)(h2:vc C R (.o y::sk) fr hp):sR C R x y sk fr hp:=⟨h1,h2⟩
theorem adv{x y:RT}{sk:List It}{W:List (Nat×Nat)}{J F:Fr}(P:Fr->Prop)(h0:P J)(h:∀J,P J->sR C R x y sk (bg W J F) hp):sR C R x y sk (bg W J F) hp:=h J h0
theorem Ls{sk:List It}{x:SC}(aO:eJ R sk)(W:List (Nat×Nat))(B:List Nat)(I:Nat->Fr->HP->Prop)(m0:Nat)(h0:I m0 fr hp)
  (h:∀F,F=Qy B fr->∀m J hp,I m J hp->vc C R (.c x:: .el (xK W F I m)::sk) (bg W J F) hp):vc C R (.c (.loop x)::sk) fr hp:=
 Qn aO W B I m0 h0 (h _ rfl)
theorem abA{x y:RT}{sk:List It}{W0:List (Nat×Nat)}{J0 F0:Fr}(aO:eJ R sk)(B:List Nat)(M:Fr->HP->Prop)
  (h:∀F,F=Qy B F0->sR C R x y (.el (oW W0 F M)::sk) (bg W0 J0 F) hp) (hM:∀J hp,M J hp->vc C R sk (bg W0 J (Qy B F0)) hp):sR C R x y sk (bg W0 J0 F0) hp:=by
 have hle:bU (bg W0 J0 F0) (bg W0 J0 (Qy B F0)):=fun s=>by
  unfold bg Qy;split
  ·exact .inl rfl
  ·split
   ·exact .inr rfl
   ·exact .inl rfl
 have key:∀(r:RT),vc C R (.o r:: .el (oW W0 (Qy B F0) M)::sk) (bg W0 J0 (Qy B F0)) hp->vc C R (.o r::sk) (bg W0 J0 F0) hp:=by
  intro r hr;refine z9 (M:=oW W0 (Qy B F0) M) ?_ _ [.o r] _ _ (Kad _) ?_
  ·rintro aA hp' ⟨J,h1,h2⟩;exact sw aO.1 _ _ _ _ _ _ (Kad _) aO.2 h1 (hM J hp' h2)
  ·exact sw aO.1 _ _ _ _ _ _ (Kad _) (.o r (.el DW aO.2)) hle hr
 exact⟨key x (h _ rfl).1,key y (h _ rfl).2⟩
theorem WC{aA:Fr}{K':Qh}{p:PV}{s:Nat}{want:Bool}{o:ch}(h:bU fr aA)(hK:KM K' K):gU C p s want o aA hp K'->gU C p s want o fr hp K:=by
 unfold gU;split
 ·exact fun H=>⟨fun t=>Iw (h.ix _ _) hK o (H.1 t),fun t=>Db (h.ix _ _) hK o (H.2 t)⟩
 ·exact Db h hK o
 ·exact id
theorem Vw{p:PV}{s:Nat}{want:Bool}{o:ch}{r:RT}{sk:List It}(aO:eJ R sk)(W:List (Nat×Nat))(B:List Nat)(M:Fr->HP->Prop)
  (h:gU C p s want o (bg W fr (Qy B fr)) hp (vc C R (.o r:: .el (oW W (Qy B fr) M)::sk))) (hM:∀J hp,M J hp->vc C R sk (bg W J (Qy B fr)) hp):gU C p s want o fr hp (vc C R (.o r::sk)):=by
 refine WC (Dy W B) (fun f f' hp hf H=>?_) h;have H':=sw aO.1 _ _ _ _ _ _ (Kad _) (.o r (.el DW aO.2)) hf H;refine z9 (M:=oW W (Qy B fr) M) ?_ _ [.o r] _ _ (Kad _) H';rintro aA hp' ⟨J,h1,h2⟩;exact sw aO.1 _ _ _ _ _ _ (Kad _) aO.2 h1 (hM J hp' h2)
theorem RA:(∀(a b c:Nat),(PV.mp a b c).kL=true)/\(∀(a b c:Nat),(PV.au a b c).kL=true)/\(∀(a b c:Nat),(PV.rb a b c).kL=true)/\(∀(k:IntKind)(n:Int),(PV.int k n).kL=true)/\
  (∀b,(PV.bool b).kL=true)/\(PV.aa.kL=true)/\(∀(e:Nat)(xs:List PV),(PV.sl e xs).kL=true)/\(∀(xs:List PV),(PV.pt xs).kL=true):=
 ⟨fun _ _ _=>rfl,fun _ _ _=>rfl,fun _ _ _=>rfl,fun _ _=>rfl,fun _=>rfl,rfl,fun _ _=>rfl,fun _=>rfl⟩
end Go.FW
namespace Go.FW
def Cl(V W:List (Nat×Nat)):Bool:=V.all fun p=>W.any fun q=>decide (q.1<=p.1)&&decide (p.2<=q.2)
theorem YR{V W:List (Nat×Nat)}(h:Cl V W=true){s:Nat}(hs:lE V s=true):lE W s=true:=by
 induction V with
 |nil=>cases hs
 | cons p V ih=>
  simp only[Cl,List.all_cons,Kav]at h;rw[Dx,KbC]at hs;rcases hs with hs|hs
  ·obtain⟨q,hq,ph⟩:=KaW.1 h.1;simp only[Kav,decide_eq_true_eq]at ph hs;clear h ih;induction W with
   |nil=>cases hq
   |cons r W ih=>
    rw[Dx,KbC];rcases KaC.1 hq with rfl|hq
    ·left;simp only[Kav,decide_eq_true_eq];omega
    ·right;exact ih hq
  ·exact ih h.2 hs
theorem Qz5{B B':List Nat}{F:Fr}(h:B.all B'.contains=true):Qy B (Qy B' F)=Qy B' F:=by
 funext s;by_cases h1:(F s).refs.any B'.contains=true
 ·have:Qy B' F s= .undef:=if_pos h1;show(if(Qy B' F s).refs.any B.contains=true then PV.undef else Qy B' F s)=_;rw[this];rfl
 ·have:Qy B' F s=F s:=if_neg h1;show(if(Qy B' F s).refs.any B.contains=true then PV.undef else Qy B' F s)=_;rw[this,if_neg];intro h2;obtain⟨x,hx,jB⟩:=KaW.1 h2;exact h1 (KaW.2 ⟨x,hx,Kaq.1 h x (by simpa using jB)⟩)
theorem pI{V W:List (Nat×Nat)}{X Z F:Fr}(h:Cl V W=true):bg V X (bg W Z F)=bg W (bg V X Z) F:=by
 funext s;unfold bg;by_cases h1:lE V s=true
 ·simp[h1,YR h h1]
 ·simp[h1]
theorem afW{W V S d:Nat}(hs:S+d*V=W)(JA:W<(d+1)*V):S<V/\W=d*V+S:=by rw[KaG]at JA;omega
theorem adw{W V B S e k res:Nat}(hs:S+(e+1)*V=W+B)(hS:S<B)(St:e*V<=W)(hr:res+B*k=S+V)(eY:res<B)(hWB:W<B):res<V/\W=e*V+res:=by
 rw[KaG,Kck]at hs;generalize e*V=x at *
 have hk:k=1:=by
  match k,hr with
  |0,hr=>omega
  |1,_=>rfl
  |k+2,hr=>
   have:B*(k+2)=B*k+B+B:=by rw[Ka1];omega
   omega
 subst hk;omega
theorem PJ{pre R post qs:List Nat}{j q U V L W:Nat}(hp:pre.length=j)(gR:val post=0)(hU:U=L+V*(65536^(j+1)*val qs))(hL:L=val pre+65536^j*W)(hW:W=q*V+val R):
  val ((pre++(R++post)).drop j)=val R/\U=val (pre++(R++post))+V*(65536^j*val (q::qs)):=by
 have e:(pre++(R++post)).drop j=R++post:=by rw[<-hp,List.drop_left]
 have e2:val (R++post)=val R:=by rw[mN,gR,KbZ,KaO]
 refine⟨by rw[e,e2],?_⟩;rw[mN,e2,hp,val];exact Yt (by rw[hU,Kbz,KaQ (65536^j)]) hL hW
theorem DY{j q:Nat}{qs:List Nat}:(List.replicate (j+1) 0++qs).set j q=List.replicate j 0++(q::qs):=by rw[List.replicate_succ',Kbv,List.singleton_append,nP (by simp)]
open Go
variable {C : Ctx} {fr : Fr} {hp : HP} {w : World} {K R : Qh}
theorem apS:(∀(C:Ctx)(d:Nat)(ng:Bool)(x y:aI)(fr:Fr)(hp:HP)(K:Qh),bh C (.eqs d ng x y) fr hp K=ra ng (ev fr x) (ev fr y) d fr hp K)/\
  (∀(k l:IntKind)(x y x' y':Int)(d:Nat)(fr:Fr)(hp:HP)(K:Qh),ra false (.agg [.int k x,.int l y]) (.agg [.int k x',.int l y']) d fr hp K=K (ae fr d (.bool (decide (x=x')&&decide (y=y')))) hp)/\
  (∀(k l:IntKind)(x y x' y':Int)(d:Nat)(fr:Fr)(hp:HP)(K:Qh),ra true (.agg [.int k x,.int l y]) (.agg [.int k x',.int l y']) d fr hp K=K (ae fr d (.bool (!(decide (x=x')&&decide (y=y'))))) hp):=
 ⟨fun _ _ _ _ _ _ _ _=>rfl,fun _ _ _ _ _ _ _ _ _ _=>by simp[ra],fun _ _ _ _ _ _ _ _ _ _=>by simp[ra]⟩
theorem apT:(∀(C:Ctx)(d:Nat)(ng:Bool)(x y:aI)(fr:Fr)(hp:HP)(K:Qh),bh C (.wQ d ng x y) fr hp K=re ng (ev fr x) (ev fr y) d fr hp K)/\
  (∀(C:Ctx)(d:Nat)(x:aI)(fr:Fr)(hp:HP)(K:Qh),bh C (.BX d x) fr hp K=vD (ev fr x) d fr hp K)/\
  (∀(C:Ctx)(d:Nat)(x i:aI)(fr:Fr)(hp:HP)(K:Qh),bh C (.BW d x i) fr hp K=tR (ev fr x) (ev fr i) d fr hp K)/\
  (∀(x y:ByteArray)(d:Nat)(fr:Fr)(hp:HP)(K:Qh),re false (.str x) (.str y) d fr hp K=K (ae fr d (.bool (decide (x=y)))) hp)/\
  (∀(x y:ByteArray)(d:Nat)(fr:Fr)(hp:HP)(K:Qh),re true (.str x) (.str y) d fr hp K=K (ae fr d (.bool (!decide (x=y)))) hp)/\
  (∀(x:ByteArray)(d:Nat)(fr:Fr)(hp:HP)(K:Qh),vD (.str x) d fr hp K=K (ae fr d (.int .i64 x.size)) hp):=
 ⟨fun _ _ _ _ _ _ _ _=>rfl,fun _ _ _ _ _ _=>rfl,fun _ _ _ _ _ _ _=>rfl,fun _ _ _ _ _ _=>by simp[re],fun _ _ _ _ _ _=>by simp[re],fun _ _ _ _ _=>rfl⟩
theorem afX{s:ByteArray}{k:IntKind}{i:Nat}{d:Nat}(h:i<s.size):tR (.str s) (.int k i) d fr hp K=K (ae fr d (.int .u8 (s.get! i).toNat)) hp:=by simp[tR,h]
theorem abB{α:Type}{f:α->PV}{e d:Nat}{k:IntKind}{xs:List α}(h:0<xs.length):Q7 e (.sl e (xs.map f)) (.int k 0) d fr hp K=K (ae fr d (.pt (f (xs[0]'h)).cells)) hp:=by rw[vh (by omega) (by omega)];rfl
theorem abC{α:Type}{f:α->PV}{e d:Nat}{k:IntKind}{xs:List α}(h:1<xs.length):Q7 e (.sl e (xs.map f)) (.int k 1) d fr hp K=K (ae fr d (.pt (f (xs[1]'h)).cells)) hp:=by rw[vh (by omega) (by omega)];rfl
theorem aa2{e d:Nat}{k:IntKind}{x:PV}{xs:List PV}:Q7 e (.sl e (x::xs)) (.int k 0) d fr hp K=K (ae fr d (.pt x.cells)) hp:=by rw[Gi (by omega) (by simp only[KaT];omega)];rfl
theorem aa3{e d:Nat}{k:IntKind}{x y:PV}{xs:List PV}:Q7 e (.sl e (x::y::xs)) (.int k 1) d fr hp K=K (ae fr d (.pt y.cells)) hp:=by rw[Gi (by omega) (by simp only[KaT];omega)];rfl
def PV.flat:PV->Bool
 |.int .. | .bool _| .aa| .sl .. | .agg _| .pt _| .str _=>true
 |_=>false
theorem aa4:∀s,(PV.str s).flat=true:=fun _=>rfl
theorem aa5:∀s,(PV.str s).aD=true:=fun _=>rfl
theorem aiK:(∀(k:IntKind)(n:Int),(PV.int k n).flat=true)/\(∀b,(PV.bool b).flat=true)/\(PV.aa.flat=true)/\(∀(e:Nat)(xs:List PV),(PV.sl e xs).flat=true)/\(∀xs,(PV.agg xs).flat=true)/\(∀xs,(PV.pt xs).flat=true):=
 ⟨fun _ _=>rfl,fun _=>rfl,rfl,fun _ _=>rfl,fun _=>rfl,fun _=>rfl⟩
theorem ajj:(∀(k:IntKind)(n:Int),(PV.int k n).aD=true)/\(∀b,(PV.bool b).aD=true)/\(PV.aa.aD=true)/\(∀(e:Nat)(xs:List PV),(PV.sl e xs).aD=true)/\(∀xs,(PV.agg xs).aD=true)/\(∀xs,(PV.pt xs).aD=true):=
 ⟨fun _ _=>rfl,fun _=>rfl,rfl,fun _ _=>rfl,fun _=>rfl,fun _=>rfl⟩
theorem qH{p:PV}(h:p.flat=true):Qu hp p=p/\p.refs=[]/\p.aD=true:=by cases p<;>first|(cases h;done)|exact⟨rfl,rfl,rfl⟩
theorem Ac{e ty d:Nat}{ps:List PV}(h:ps.all PV.flat=true)(hl:∀p∈ps,p.cells.length=e)(he:0<e):kE e ty ps d fr hp K=K (ae (bE d fr) d (.ms d ps.length)) (Ql hp d ⟨e,ty,ps,false⟩):=by
 have h':=Kaq.1 h;have e1:ps.map (Qu hp)=ps:=by
  conv=>rhs;rw[<-List.map_id ps]
  exact Ka6 fun p hp'=>(qH (h' p hp')).1
 have e2:ps.flatMap PV.refs=[]:=by rw[List.flatMap_eq_nil_iff];exact fun p hp'=>(qH (hp:=hp) (h' p hp')).2.1
 have e3:z4 hp e ps:=fun p hp'=>by obtain⟨h1,_,h3⟩:=qH (hp:=hp) (h' p hp');rw[h1];exact⟨h3,hl p hp'⟩
 have Js:mX ps=false:=by
  unfold mX;split
  ·rename_i x;have:=Kaq.1 h x (by simp);unfold lN;split
   ·cases this
   ·rfl
  ·rfl
 simp only[kE,Js,Kbj,if_false,AK,e1,e2,e3,he,true_and];rfl
theorem bs1{e ty d:Nat}{p:PV}(h:p.flat=true)(hl:p.cells.length=e)(he:0<e):kE e ty [p] d fr hp K=K (ae (bE d fr) d (.ms d 1)) (Ql hp d ⟨e,ty,[p],false⟩):=
 Ac (by simp[h]) (by simpa using hl) he
theorem bs2{e ty d:Nat}{p q:PV}(h:p.flat=true)(h2:q.flat=true)(hl:p.cells.length=e)(nw:q.cells.length=e)(he:0<e):kE e ty [p,q] d fr hp K=K (ae (bE d fr) d (.ms d 2)) (Ql hp d ⟨e,ty,[p,q],false⟩):=
 Ac (by simp[h,h2]) (by simp[hl,nw]) he
end Go.FW
namespace Go.FW
theorem Vx{y n s yi:Nat}(hy:(ak y).length=n+2)(uQ:(ak y)[n+1]'(by omega)=yi)(h1:2^15<=yi*2^s)(h2:(yi+1)*2^s<=65536):
  (ak (y*2^s)).length=n+2/\32768<=(ak (y*2^s)).getD (n+1) 0/\32768*65536^(n+1)<=y*2^s:=by
 have hl:=Qk y;have e:=pB (ak y) (n+1) (by omega);have ht:=tv hl (n+1) (by omega);rw[lI (by omega),Kan (by omega),uQ,Qt]at e;simp only[val,KbZ,KaO]at e;have g1:32768*65536^(n+1)<=y*2^s:=by
  calc 32768*65536^(n+1)<=(yi*2^s)*65536^(n+1):=Kal _ h1
   _=(65536^(n+1)*yi)*2^s:=by rw[KaQ (65536^(n+1)),Nat.mul_right_comm]
   _<=y*2^s:=Kal _ (by omega)
 have g2:y*2^s<65536^(n+2):=by
  have hp:0<2^s:=KbS (by omega)
  calc y*2^s<(65536^(n+1)*(yi+1))*2^s:=Nat.mul_lt_mul_of_pos_right (by rw[Ka1];omega) hp
   _=65536^(n+1)*((yi+1)*2^s):=Kba _ _ _
   _<=65536^(n+1)*65536:=Kbc _ h2
   _=65536^(n+2):=(Kbz ..).symm
 have hle:nl (y*2^s)<=n+2:=mS.2 g2;have iM:¬nl (y*2^s)<=n+1:=fun h=>by have:=mS.1 h;omega
 have hlen:(ak (y*2^s)).length=n+2:=by unfold nl at hle iM;omega
 refine⟨hlen,?_,g1⟩;have e2:=pB (ak (y*2^s)) (n+1) (by omega);have Tt:=tv (Qk (y*2^s)) (n+1) (by omega);rw[lI (by omega),Kan (by omega),Qt]at e2;simp only[val,KbZ,KaO]at e2;have hg:(ak (y*2^s)).getD (n+1) 0=(ak (y*2^s))[n+1]'(by omega):=fN (by omega);rw[hg];apply Decidable.byContradiction;intro h;have:65536^(n+1)*(ak (y*2^s))[n+1]<=65536^(n+1)*32767:=Kbc _ (by omega);omega
theorem Za{yi s:Nat}(hs:s<=15)(h1:2^(16-s)<=2*yi)(h2:yi<2^(16-s)):2^15<=yi*2^s/\(yi+1)*2^s<=65536:=by
 have e:2^(16-s)*2^s=65536:=by rw[<-Nat.pow_add,show 16-s+s=16 by omega]
 constructor
 ·have:=Kal (2^s) h1;rw[e,Kba]at this;omega
 ·rw[<-e];exact Kal _ h2
theorem Vy{x s m n Y:Nat}(hx:(ak x).length=m+2)(hs:s<=15)(fY:n<=m)(hY:32768*65536^(n+1)<=Y):
  ∃u ex,ak (x*2^s)++[0,0]=u++ex/\u.length=m+3/\Qj u/\val u=x*2^s/\ex.length<=2/\val (u.drop (m+3-(n+2)))<Y:=by
 have TE:=oO (Qk x);rw[hx,Qt]at TE;have hp:0<2^s:=KbS (by omega);have uN:2^s<=2^15:=Kbu (by omega) hs;have hX:x*2^s<2^s*65536^(m+2):=by rw[KaQ (2^s)];exact Nat.mul_lt_mul_of_pos_right TE hp
 have hX2:x*2^s<65536^(m+3):=by have:2^s*65536^(m+2)<=65536*65536^(m+2):=Kal _ (by omega);rw[Kbz 65536 (m+2),KaQ _ 65536];omega
 have hx1:¬nl (x*2^s)<=m+1:=fun h=>by
  have h2:¬nl x<=m+1:=by unfold nl;omega
  have h3:=fh (show x<=x*2^s from Kct _ hp);omega
 have jB:nl (x*2^s)<=m+3:=mS.2 hX2;have qo:Qj (ak (x*2^s)++[0,0]):=nM.2 ⟨Qk _,by intro z hz;simp at hz;omega⟩;have dH:val (ak (x*2^s)++[0,0])=x*2^s:=by rw[mN,Qt];simp[val]
 have hlen:(ak (x*2^s)++[0,0]).length=nl (x*2^s)+2:=by simp[nl]
 generalize ak (x*2^s)++[0,0]=D at *
 have hv:=pB D (m+3) (by omega);have hz:val (D.drop (m+3))=0:=CL (by omega);have Kh:(D.take (m+3)).length=m+3:=by rw[Kax];omega
 refine⟨D.take (m+3),D.drop (m+3),(Kbg _ _).symm,Kh,w7 qo _,by rw[hz]at hv;omega,by rw[Ka2];omega,?_⟩;have hu:val (D.take (m+3))=x*2^s:=by rw[hz]at hv;omega
 have tg:=pB (D.take (m+3)) (m+3-(n+2)) (by omega);generalize D.take (m+3)=u at *
 have e:65536^(m+2)=65536^(m+3-(n+2))*65536^(n+1):=by rw[<-Nat.pow_add];congr 1;omega
 have:65536^(m+3-(n+2))*val (u.drop (m+3-(n+2)))<65536^(m+3-(n+2))*(2^s*65536^(n+1)):=by rw[Kbw,<-e];omega
 have h4:=Nat.lt_of_mul_lt_mul_left this;have:2^s*65536^(n+1)<=32768*65536^(n+1):=Kal _ uN;omega
open Go
variable {C : Ctx} {fr : Fr} {hp : HP} {w : World} {K R : Qh}
theorem aa6{e ty n:Nat}{fz:Bool}{o d:Nat}{x:PV}(h:o+n<=e):iu (some ⟨e,ty,[x],fz⟩) n true 0 o d fr hp K=K (ae fr d (dQ true n o x)) hp:=Me h (by simp)
theorem aa7{e ty:Nat}{fz:Bool}{o d:Nat}{x:PV}(h:o+1<=e):iu (some ⟨e,ty,[x],fz⟩) 1 false 0 o d fr hp K=K (ae fr d (dQ false 1 o x)) hp:=Me h (by simp)
theorem ajk(n o:Nat)(cs:List PV):dQ true n o (.agg cs)= .agg ((cs.drop o).take n):=rfl
theorem ajl(n o:Nat)(cs:List PV):dQ false n o (.agg cs)=(cs.drop o).headD .undef:=rfl
theorem WD(n ty β:Nat)(x:PV)(cs:List PV):stM (some ⟨n,ty,[x],false⟩) β n 0 0 (.agg cs) fr hp K=(cs.length=n/\K fr (Ql hp β ⟨n,ty,[.agg cs],false⟩)):=by simp[stM,PV.aD,PV.cells]
theorem aa8{e n ty β o:Nat}{x v:PV}(h:v.flat=true)(hn:¬n=e)(hl:v.cells.length=n)(ho:o+n<=e):stM (some ⟨e,ty,[x],false⟩) β n 0 o v fr hp K=K fr (Ql hp β ⟨e,ty,[rU x o v],false⟩):=by have:=(qH (hp:=hp) h).2.2;simp[stM,this,hl,ho,hn]
theorem adx(cs:List PV)(o:Nat)(v:PV):rU (.agg cs) o v= .agg (cs.take o++v.cells++cs.drop (o+v.cells.length)):=rfl
theorem zG(k:IntKind)(n:Int):(PV.int k n).cells=[.int k n]:=rfl
theorem Zd:(PV.aa).cells=[.aa]:=rfl
theorem Pe{p:PV}(h:p.flat=true):p.nF=false:=by cases p<;>simp_all[PV.flat,PV.nF]
theorem DC{z:List PV}{ps:List (Nat×Nat×PV)}{d:Nat}(h:ps.all (fun p=>p.2.2.flat)=true):
  kC z ps d fr hp K=((∀p∈ps,p.2.2.cells.length=p.2.1/\p.1+p.2.1<=z.length)/\K (ae fr d (.agg (gE z (ps.map fun p=>(p.1,p.2.2.cells))))) hp):=by
 have h':=Kaq.1 h;have e1:(ps.map fun p=>(p.1,(Qu hp p.2.2).cells))=ps.map fun p=>(p.1,p.2.2.cells):=Ka6 fun p hp'=>by rw[(qH (h' p hp')).1]
 have e2:(ps.flatMap fun p=>p.2.2.refs)=[]:=by rw[List.flatMap_eq_nil_iff];exact fun p hp'=>(qH (hp:=hp) (h' p hp')).2.1
 have e3:Gh hp z.length ps=(∀p∈ps,p.2.2.cells.length=p.2.1/\p.1+p.2.1<=z.length):=by
  apply propext;constructor
  ·intro H p hp';obtain⟨_,h2,h3⟩:=H p hp';rw[(qH (h' p hp')).1]at h2;exact⟨h2,h3⟩
  ·intro H p hp';obtain⟨h2,h3⟩:=H p hp';obtain⟨g1,_,g3⟩:=qH (hp:=hp) (h' p hp');rw[g1];exact⟨g3,h2,h3⟩
 have e4:ps.any (fun p=>p.2.2.nF)=false:=by rw[KcG];exact fun p hp'=>by simp[Pe (h' p hp')]
 simp only[kC,e4,Aw,e1,e2,e3,Kbj,if_false];rfl
theorem ako(z:List PV)(d:Nat):kC z [] d fr hp K=K (ae fr d (.agg z)) hp:=by rw[DC rfl];simp[gE]
theorem akp{z:List PV}{o n d:Nat}{p:PV}(h:p.flat=true):kC z [(o,n,p)] d fr hp K=((p.cells.length=n/\o+n<=z.length)/\K (ae fr d (.agg (z.take o++p.cells++z.drop (o+p.cells.length)))) hp):=by rw[DC (by simp[h])];simp[gE]
theorem akq{z:List PV}{o n o2 n2 d:Nat}{p q:PV}(h:p.flat=true)(h2:q.flat=true):kC z [(o,n,p),(o2,n2,q)] d fr hp K=
  ((p.cells.length=n/\o+n<=z.length)/\(q.cells.length=n2/\o2+n2<=z.length)/\K (ae fr d (.agg (gE z [(o,p.cells),(o2,q.cells)]))) hp):=by
 rw[DC (by simp[h,h2])];simp[and_assoc]
theorem akr{z:List PV}{o n o2 n2 o3 n3 d:Nat}{p q r:PV}(h:p.flat=true)(h2:q.flat=true)(h3:r.flat=true):kC z [(o,n,p),(o2,n2,q),(o3,n3,r)] d fr hp K=
  ((p.cells.length=n/\o+n<=z.length)/\(q.cells.length=n2/\o2+n2<=z.length)/\(r.cells.length=n3/\o3+n3<=z.length)/\K (ae fr d (.agg (gE z [(o,p.cells),(o2,q.cells),(o3,r.cells)]))) hp):=by
 rw[DC (by simp[h,h2,h3])];simp[and_assoc]
theorem XM(c:List PV):gE c []=c:=rfl
theorem WE(c xs:List PV)(o:Nat)(r:List (Nat×List PV)):gE c ((o,xs)::r)=gE (c.take o++xs++c.drop (o+xs.length)) r:=rfl
def B3(p:PV)(hp:HP)(n:Nat)(ag:Bool):PV:=match p with
 |.mp β i o=>match hp β with
  |some hb=>if i<hb.xs.length/\o+n<=hb.e/\(ag=false->n=1)then dQ ag n o ((hb.xs[i]?).getD .undef)else .undef
  |none=>.undef
 |_=>.undef
def gv(fr:Fr)(hp:HP):RV->PV
 |.t s=>Qu hp (fr s)
 |.cell s n ag=>B3 (fr s) hp n ag
def AA(hb:Option HB)(n:Nat)(ag:Bool)(i o:Nat):PV:=match hb with
  |some hb=>if i<hb.xs.length/\o+n<=hb.e/\(ag=false->n=1)then dQ ag n o ((hb.xs[i]?).getD .undef)else .undef
  |none=>.undef
theorem am7(fr:Fr)(hp:HP)(s:Nat):gv fr hp (.t s)=Qu hp (fr s):=rfl
theorem am6(fr:Fr)(hp:HP)(s n:Nat)(ag:Bool):gv fr hp (.cell s n ag)=B3 (fr s) hp n ag:=rfl
theorem aa9(hp:HP)(n:Nat)(ag:Bool)(β i o:Nat):B3 (.mp β i o) hp n ag=AA (hp β) n ag i o:=rfl
theorem ady{e ty n o:Nat}{fz:Bool}{x:PV}(h:o+n<=e):AA (some ⟨e,ty,[x],fz⟩) n true 0 o=dQ true n o x:=by simp[AA,h]
theorem adz{e ty o:Nat}{fz:Bool}{x:PV}(h:o+1<=e):AA (some ⟨e,ty,[x],fz⟩) 1 false 0 o=dQ false 1 o x:=by simp[AA,h]
theorem B4{r:RV}(h:(gv fr hp r).aD=true):kg fr hp r/\jC fr hp r=gv fr hp r:=by
 cases r with
 |t s=>exact⟨h,rfl⟩
 | cell s n ag=>
  simp only[gv,kg,jC]at h⊢;cases oh:fr s with
  | mp β i o=>
   rw[oh]at h;simp only[B3]at h⊢;cases aj:hp β with
   |none=>rw[aj]at h;cases h
   | some hb=>
    rw[aj]at h;simp only at h⊢;split at h
    ·rename_i hc;rw[if_pos hc];exact⟨hc,rfl⟩
    ·cases h
  |_=>rw[oh]at h;cases h
theorem cY{r:RV}{Rr:PV->Prop}(h:vB Rr (gv fr hp r)):fD [r] Rr fr hp:=by obtain⟨h1,h2⟩:=B4 h.1;exact⟨h1,by rw[h2];exact h.2⟩
theorem eA{r s:RV}{Rr:PV->Prop}(h:Av Rr (gv fr hp r) (gv fr hp s)):fD [r,s] Rr fr hp:=by obtain⟨⟨a,b⟩,c⟩:=h;obtain⟨h1,h2⟩:=B4 a;obtain⟨h3,h4⟩:=B4 b;refine⟨by simp[h1,h3],?_⟩;simp only[Kbe,Kby,h2,h4];exact c
end Go.FW
namespace Go.FW
open Go
def zv(n:Bool)(a:List Nat):Int:=if n then -(val a:Int)else val a
abbrev PV.zi(n:Bool)(a:List Nat):PV:=.agg [.bool n,PV.nat a]
abbrev PV.zz(z:Int):PV:=.agg [.bool (decide (z<0)),PV.num z.natAbs]
theorem Ix(n:Bool)(x:Nat):PV.agg [.bool (n&&decide (0<(ak x).length)),PV.num x]=PV.zz (if n then -(x:Int)else x):=by
 have h:0<(ak x).length↔x≠0:=by
  constructor
  ·intro h h0;rw[h0,ff]at h;simp at h
  ·intro h;apply KaU;intro h0;exact h (lH.1 (pE h0))
 cases n
 ·simp
 ·simp only[KcH,if_true,PV.zz,KcL,KaD];congr 3;exact decide_eq_decide.2 (by rw[h];omega)
theorem lR(z:Int):zv (decide (z<0)) (ak z.natAbs)=z:=by unfold zv;rw[Qt];by_cases h:z<0<;>simp[h]<;>omega
theorem iO(n:Bool)(a:List Nat):(zv n a).natAbs=val a:=by unfold zv;split<;>simp
theorem sg(a:List Nat):zv false a=val a:=rfl
theorem sA(n:Bool)(x:Nat):zv n (ak x)=if n then -(x:Int)else x:=by unfold zv;rw[Qt]
def eO(z:Int):Int:=if z<0 then -1 else if 0<z then 1 else 0
def dk(x y:Int):Int:=if x<y then -1 else if y<x then 1 else 0
theorem Gk(n:Bool)(a:List Nat):eO (zv n a)=if val a=0 then 0 else if n then -1 else 1:=by unfold eO zv;cases n<;>simp<;>split<;>(try split)<;>omega
theorem xx{x:Int}:eO x<0↔x<0:=by unfold eO;split<;>(try split)<;>omega
theorem adA{x y:Int}(h:eO x<eO y):dk x y= -1:=by unfold eO at h;unfold dk;rw[if_pos];split at h<;>split at h<;>(try split at h)<;>(try split at h)<;>omega
theorem ac0{x y:Int}(h:eO y<eO x):dk x y=1:=by
 have:y<x:=by unfold eO at h;split at h<;>split at h<;>(try split at h)<;>(try split at h)<;>omega
 unfold dk;rw[if_neg (by omega),if_pos this]
theorem DD(n:Bool)(a:List Nat):zv n a=val a∨zv n a= -(val a:Int):=by unfold zv;split<;>simp
theorem ac1{n m:Bool}{a b:List Nat}(h:zv n a<0)(h2:zv m b<0):gm (val b) (val a)=dk (zv n a) (zv m b):=by
 unfold gm dk;have e:=DD n a;have f:=DD m b;generalize zv n a=p at *
 generalize zv m b=q at *
 repeat' split
 all_goals omega
theorem ac2{n m:Bool}{a b:List Nat}(h:¬zv n a<0)(h2:¬zv m b<0):gm (val a) (val b)=dk (zv n a) (zv m b):=by
 unfold gm dk;have e:=DD n a;have f:=DD m b;generalize zv n a=p at *
 generalize zv m b=q at *
 repeat' split
 all_goals omega
theorem DE{x y:Nat}:gm x y<0↔x<y:=by unfold gm;split<;>(try split)<;>omega
variable {C : Ctx} {fr : Fr} {hp : HP} {w : World} {K R : Qh}
def GG(hb:Option HB)(o n:Nat):PV:=match hb with
 |some hb=>.sl hb.e ((hb.xs.drop o).take n)
 |none=>.undef
theorem iB:(∀(hp:HP)(β o n:Nat),Qu hp (.au β o n)=if aM β=true then .undef else GG (hp β) o n)/\
  (∀(e ty o n:Nat)(xs:List PV)(fz:Bool),GG (some ⟨e,ty,xs,fz⟩) o n= .sl e ((xs.drop o).take n))/\
  (∀(β:Nat),aM β=(decide (1000000<=β)&&decide (β<2000000)))/\
  (∀(hp:HP)(l:List Nat)(β:Nat),FW.Qx hp l β=if l.contains β=true then(hp β).map (fun hb=>{ hb with fz:=true })else hp β):=by
 refine⟨fun hp β o n=>?_,fun _ _ _ _ _ _=>rfl,fun _=>rfl,fun _ _ _=>rfl⟩;simp only[Qu,cq,GG];cases aM β<;>cases hp β<;>rfl
theorem afY{n d:Nat}{cs:List PV}(h:n<=cs.length):bn n true (.pt cs) d fr hp K=K (ae fr d (.agg (cs.take n))) hp:=by simp[bn,h,dQ,PV.cells]
theorem afZ{off d:Nat}{cs:List PV}(h:off<=cs.length):rf off (.pt cs) d fr hp K=K (ae fr d (.pt (cs.drop off))) hp:=by simp[rf,h]
theorem af0{off n d:Nat}{cs:List PV}(h:off+n<=cs.length):qV off n true (.agg cs) d fr hp K=K (ae fr d (.agg ((cs.drop off).take n))) hp:=by simp[qV,h,dQ,PV.cells]
theorem af1{off d:Nat}{cs:List PV}(h:off+1<=cs.length):qV off 1 false (.agg cs) d fr hp K=K (ae fr d ((cs.drop off).headD .undef)) hp:=by simp[qV,h,dQ,PV.cells]
def rv(n:Bool)(a d:List Nat):Rat:=mkRat (zv n a) (val d)
abbrev PV.rr(n:Bool)(a d:List Nat):PV:=.agg [.bool n,PV.nat a,PV.nat d]
abbrev PV.rat(q:Rat):PV:=.agg [.bool (decide (q.num<0)),PV.num q.num.natAbs,PV.num q.den]
theorem gF(q:Rat):rv (decide (q.num<0)) (ak q.num.natAbs) (ak q.den)=q:=by unfold rv;rw[lR,Qt,KcX]
theorem zH{z:Int}{D:Nat}(hD:D≠0):(mkRat z D).num=z/(Nat.gcd z.natAbs D:Int)/\(mkRat z D).den=D/Nat.gcd z.natAbs D:=by rw[Rat.mkRat_def,dif_neg hD,Rat.normalize_eq];exact⟨rfl,rfl⟩
theorem M3{z:Int}{D:Nat}(hD:D≠0):PV.agg [.bool (decide (z<0)),PV.num (z.natAbs/Nat.gcd z.natAbs D),PV.num (D/Nat.gcd z.natAbs D)]=PV.rat (mkRat z D):=by
 obtain⟨h1,h2⟩:=zH (z:=z) hD;have hg:0<Nat.gcd z.natAbs D:=Nat.gcd_pos_of_pos_right _ (KaU hD);have JC:(Nat.gcd z.natAbs D:Int)∣z:=KcT.2 (KbO _ _);obtain⟨k,hk⟩:=JC;rw[PV.rat,h1,h2];generalize hgg:Nat.gcd z.natAbs D=g at *
 have e1:z/(g:Int)=k:=by rw[hk,Int.mul_ediv_cancel_left _ (by omega)]
 have e2:z.natAbs/g=k.natAbs:=by rw[hk,Kb4,KaD,Kbb _ hg]
 have e3:z<0↔k<0:=by
  rw[hk];constructor
  ·intro h;apply Decidable.byContradiction;intro h';have:=Int.mul_nonneg (show(0:Int)<=g by omega) (show 0<=k by omega);omega
  ·intro h;exact Int.mul_neg_of_pos_of_neg (by omega) h
 rw[e1,e2,decide_eq_decide.2 e3]
theorem ajm(z:Int):PV.agg [.bool (decide (z<0)),PV.num z.natAbs,PV.nat [1]]=PV.rat (mkRat z 1):=by rw[<-M3 (by omega),Nat.gcd_one_right,Nat.div_one,Nat.div_one,PV.num,PV.num,sr]
theorem Mm:PV.le (.agg [.bool false,.aa,PV.nat [1]]) (PV.rat 0):=by
 show PV.BM _ _;refine⟨rfl,?_,?_,trivial⟩
 ·show PV.mC .aa (PV.nat (ak 0));rw[ff];trivial
 ·show PV.mC (PV.nat [1]) (PV.nat (ak 1));rw[sr];exact zQ _
theorem Om{z:Int}{D:Nat}(h:D=0∨z=0):mkRat z D=0:=by
 rcases h with h|h
 ·rw[h,Rat.mkRat_zero]
 ·rw[h,Rat.zero_mkRat]
def rs(q:Rat):Nat:=max (nl q.num.natAbs) (nl q.den)
theorem xD(x y:Nat):nl (x/y)<=nl x:=fh (KcD _ _)
theorem lO:nl 1=1:=by unfold nl;rw[sr];rfl
theorem DF(z:Int)(D:Nat):rs (mkRat z D)<=max (nl z.natAbs) (max (nl D) 1):=by
 by_cases hD:D=0
 ·rw[hD,Rat.mkRat_zero];show max (nl 0) (nl 1)<=_;rw[xv,lO];omega
 ·obtain⟨h1,h2⟩:=zH (z:=z) hD;unfold rs;rw[h1,h2];have e:(z/(Nat.gcd z.natAbs D:Int)).natAbs<=z.natAbs:=by have JC:(Nat.gcd z.natAbs D:Int)∣z:=KcT.2 (KbO _ _);rw[Int.natAbs_ediv_of_dvd JC];exact KcD _ _
  have:=fh e;have:=xD D (Nat.gcd z.natAbs D);omega
theorem zb(x y:Int):nl (x+y).natAbs<=max (nl x.natAbs) (nl y.natAbs)+1:=
 KaL (fh (Int.natAbs_add_le x y)) (Aj _ _)
theorem kj(x y:Int):nl (x*y).natAbs<=nl x.natAbs+nl y.natAbs:=by rw[Kb4];exact iP _ _
theorem Gl(q:Rat):1<=rs q:=by have:nl q.den≠0:=fun h=>q.den_nz (w9.1 h);unfold rs;omega
theorem vk(a b:Rat):rs (a+b)<=rs a+rs b+1:=by
 have e:a+b=mkRat (a.num*b.den+b.num*a.den) (a.den*b.den):=by
  conv=>lhs;rw[<-Rat.mkRat_self a,<-Rat.mkRat_self b]
  exact Rat.mkRat_add_mkRat _ _ a.den_nz b.den_nz
 rw[e];have h1:=DF (a.num*b.den+b.num*a.den) (a.den*b.den);have h2:=zb (a.num*b.den) (b.num*a.den);have h3:=kj a.num b.den;have h4:=kj b.num a.den;have h5:=iP a.den b.den;rw[KaD]at h3 h4;unfold rs at *
 omega
theorem vl(a b:Rat):rs (a*b)<=rs a+rs b:=by
 have e:a*b=mkRat (a.num*b.num) (a.den*b.den):=by
  conv=>lhs;rw[<-Rat.mkRat_self a,<-Rat.mkRat_self b]
  exact Rat.mkRat_mul_mkRat _ _ _ _
 rw[e];have h1:=DF (a.num*b.num) (a.den*b.den);have h3:=kj a.num b.num;have h5:=iP a.den b.den;have:=Gl a;unfold rs at *
 omega
theorem af2(a:Rat):rs (-a)=rs a:=by unfold rs;rw[Rat.neg_num,Rat.neg_den,KcL]
theorem af3{n k:Nat}{a d:List Nat}{b:Bool}(ha:Qj a)(hd:Qj d)(h1:a.length<=k)(h2:d.length<=k)(hk:1<=k):rs (rv b a d)<=k:=by unfold rv;have h:=DF (zv b a) (val d);rw[iO]at h;have:=bF ha;have:=bF hd;omega
end Go.FW
namespace Go.FW
open Go
def fk(q:Rat):Int:=eO q.num
def n6(p q:Rat):Int:=if p<q then -1 else if q<p then 1 else 0
theorem GQ{z:Int}{D:Nat}(hD:D≠0):∃g:Nat,0<g/\z=(mkRat z D).num*g/\D=(mkRat z D).den*g:=by
 obtain⟨h1,h2⟩:=zH (z:=z) hD;have hg:0<Nat.gcd z.natAbs D:=Nat.gcd_pos_of_pos_right _ (KaU hD);refine⟨_,hg,?_,?_⟩
 ·rw[h1,Int.ediv_mul_cancel (KcT.2 (KbO _ _))]
 ·rw[h2,Nat.div_mul_cancel (Kce _ _)]
theorem WG{a:Int}{g:Nat}(hg:0<g):a*g<0↔a<0:=by
 constructor
 ·intro h;apply Decidable.byContradiction;intro h';have:=Int.mul_nonneg (show 0<=a by omega) (show(0:Int)<=g by omega);omega
 ·intro h;exact Int.mul_neg_of_neg_of_pos h (by omega)
theorem WH{a:Int}{g:Nat}(hg:0<g):0<a*g↔0<a:=by
 constructor
 ·intro h;apply Decidable.byContradiction;intro h';have:=Int.mul_nonneg (show 0<= -a by omega) (show(0:Int)<=g by omega);rw[Int.neg_mul]at this;omega
 ·intro h;exact Int.mul_pos h (by omega)
theorem XN{z:Int}{D:Nat}(hD:D≠0):fk (mkRat z D)=eO z:=by
 obtain⟨g,hg,h1,_⟩:=GQ (z:=z) hD;unfold fk;generalize(mkRat z D).num=x at *
 subst h1;unfold eO;have:=WG (a:=x) hg;have:=WH (a:=x) hg
 repeat' split
 all_goals omega
theorem Lt{x y:Int}{d c:Nat}(hd:d≠0)(hc:c≠0):mkRat x d<mkRat y c↔x*c<y*d:=by
 obtain⟨g,hg,h1,h2⟩:=GQ (z:=x) hd;obtain⟨k,hk,h3,h4⟩:=GQ (z:=y) hc;rw[Rat.lt_iff];generalize(mkRat x d).num=p at *
 generalize(mkRat x d).den=p' at *
 generalize(mkRat y c).num=q at *
 generalize(mkRat y c).den=q' at *
 subst h1 h2 h3 h4;have e1:p*(g:Int)*((q'*k:Nat):Int)=(p*q')*((g*k:Nat):Int):=by push_cast;grind
 have e2:q*(k:Int)*((p'*g:Nat):Int)=(q*p')*((g*k:Nat):Int):=by push_cast;grind
 rw[e1,e2];have Sx:(0:Int)<((g*k:Nat):Int):=by exact_mod_cast KcO hg hk
 exact⟨fun h=>Int.mul_lt_mul_of_pos_right h Sx,fun h=>Int.lt_of_mul_lt_mul_right h (Int.le_of_lt Sx)⟩
theorem Mn{x y:Int}{d c:Nat}(hd:d≠0)(hc:c≠0):n6 (mkRat x d) (mkRat y c)=dk (x*c) (y*d):=by unfold n6 dk;simp only[Lt hd hc,Lt hc hd]
theorem DG{x:Int}:eO x=0↔x=0:=by unfold eO;(repeat' split)<;>omega
theorem fZ{q:Rat}:fk q=0↔q=0:=by unfold fk;rw[DG,Rat.num_eq_zero]
theorem DH{q:Rat}:fk q<0↔q<0:=by unfold fk;rw[xx,Rat.lt_iff];simp
theorem Lu{q:Rat}:0<fk q↔0<q:=by
 unfold fk;rw[Rat.lt_iff];unfold eO;simp;repeat' split
 all_goals omega
theorem PK(q:Rat):fk q= -1∨fk q=0∨fk q=1:=by unfold fk eO;(repeat' split)<;>omega
theorem Lv{p q:Rat}(h:fk p<fk q):n6 p q= -1:=by
 unfold n6;rw[if_pos];rcases PK p with h1|h1|h1<;>rcases PK q with h2|h2|h2<;>first|omega|skip
 ·have a:=DH.1 (show fk p<0 by omega);have b:=fZ.1 h2;grind
 ·have a:=DH.1 (show fk p<0 by omega);have b:=Lu.1 (show 0<fk q by omega);grind
 ·have a:=fZ.1 h1;have b:=Lu.1 (show 0<fk q by omega);grind
theorem aba{p q:Rat}(h:fk q<fk p):n6 p q=1:=by
 have:=Lv h;unfold n6 at *
 have aq:q<p:=by apply Decidable.byContradiction;intro hn;rw[if_neg hn]at this;split at this<;>omega
 rw[if_neg (by grind),if_pos aq]
theorem PL{p q:Rat}:n6 p q=0↔p=q:=by
 unfold n6;constructor
 ·intro h;split at h
  ·omega
  ·split at h
   ·omega
   ·grind
 ·rintro rfl;rw[if_neg (by grind),if_neg (by grind)]
def oS(n:Bool)(a:List Nat):Bool:=if a=[]then !n else decide (a.getLast? ≠some 0)
def ku(n:Bool)(a d:List Nat):Bool:=oS n a&&(decide (d≠[]/\d.getLast? ≠some 0)&&decide (Nat.gcd (val a) (val d)=1))
theorem K5{n:Bool}{a d:List Nat}(ha:Qj a)(hd:Qj d)(h:ku n a d=true):n=decide ((rv n a d).num<0)/\a=ak (rv n a d).num.natAbs/\d=ak (rv n a d).den:=by
 simp only[ku,oS,Kav,decide_eq_true_eq]at h;obtain⟨h1,⟨h2,h3⟩,h4⟩:=h;have ea:a=ak (val a):=by
  refine(z7 ha ?_).symm;split at h1
  ·rename_i h;subst h;simp
  ·simpa using h1
 have ed:d=ak (val d):=(z7 hd h3).symm;have hD:val d≠0:=fun h=>h2 (by rw[ed,h,ff]);obtain⟨g1,g2⟩:=zH (z:=zv n a) hD;rw[iO,h4]at g1 g2;have EO:(rv n a d).num=zv n a:=by unfold rv;rw[g1];simp
 have g2':(rv n a d).den=val d:=by unfold rv;rw[g2];simp
 rw[EO,g2',iO];refine⟨?_,ea,ed⟩;unfold zv;split at h1
 ·rename_i h;subst h;simp at h1;subst h1;simp[val]
 ·rename_i h;have h0:val a≠0:=fun h'=>h (by rw[ea,h',ff]);cases n<;>simp;omega
theorem ajn{n:Bool}{a d:List Nat}(ha:Qj a)(hd:Qj d)(h:ku n a d=true):PV.rr n a d=PV.rat (rv n a d):=by obtain⟨h1,h2,h3⟩:=K5 ha hd h;rw[PV.rr,PV.rat,<-h1,PV.num,PV.num,<-h2,<-h3]
theorem On{a:List Nat}{k:Nat}(h:a.length=k+1):a.getLast? =some (a[k]'(by omega)):=by rw[Kbh,show a.length-1=k by omega];exact Kag _
def eN(a:List Int)(i:Nat):Int:=a.getD i 0
theorem gY{a:List Int}{i:Nat}(h:i<a.length):eN a i=a[i]:=by simp[eN,Kae,h]
theorem kZ{a:List Int}{i:Nat}(h:a.length<=i):eN a i=0:=by simp[eN,Kae,KcE h]
theorem agC(i:Nat):eN [] i=0:=by simp[eN]
def n7(l:List Int):Nat->List Int
 |0=>[]
 |n+1=>if l[n]? =some 0 then n7 l n else l.take (n+1)
def qW(l:List Int):List Int:=n7 l l.length
theorem Oo(l:List Int):∀n,(n7 l n).length<=n
 |0=>by simp[n7]
 |n+1=>by
  rw[n7];split
  ·have:=Oo l n;omega
  ·simp;omega
theorem PM(l:List Int):∀n,n<=l.length->(n7 l n).getLast? ≠some 0
 |0,_=>by simp[n7]
 | n+1,h=>by
  rw[n7];split
  ·exact PM l n (by omega)
  ·rename_i hn;have:(l.take (n+1)).getLast? =l[n]? :=by rw[Kbh,Kax,KbV h];simp[Kcj]
   rw[this];exact hn
theorem Mo(l:List Int)(i:Nat):∀n,n<=l.length->eN (n7 l n) i=if i<n then eN l i else 0
 |0,_=>by simp[n7,eN]
 | n +1,h=>by
  rw[n7];split
  ·rename_i hn;rw[Mo l i n (by omega)];by_cases h1:i<n
   ·simp[h1,show i<n+1 by omega]
   ·rw[if_neg h1];split
    ·obtain rfl:i=n:=by omega
     simp[eN,Kae,hn]
    ·rfl
  ·simp only[eN,Kae,Kcj];split<;>simp_all
theorem K6(l:List Int)(i:Nat):eN (qW l) i=eN l i:=by
 rw[qW,Mo l i _ (Kad _)];split
 ·rfl
 ·exact(kZ (by omega)).symm
theorem Pf(l:List Int):(qW l).getLast? ≠some 0:=PM l _ (Kad _)
theorem Cy(l:List Int):(qW l).length<=l.length:=Oo l _
theorem DI{a b:List Int}(ha:a.getLast? ≠some 0)(hb:b.getLast? ≠some 0)(h:∀i,eN a i=eN b i):a=b:=by
 have key:∀(a b:List Int),b.getLast? ≠some 0->(∀i,eN a i=eN b i)->¬a.length<b.length:=by intro a b hb h aq;have h1:=h (b.length-1);rw[kZ (by omega),gY (by omega)]at h1;apply hb;rw[Kbh,Kag (by omega),<-h1]
 have h1:=key a b hb h;have h2:=key b a ha (fun i=>(h i).symm);refine List.ext_getElem (by omega) fun i h3 h4=>?_;have:=h i
 rwa[gY h3,gY h4]at this
theorem K7{a:List Int}(h:a.getLast? ≠some 0):qW a=a:=DI (Pf a) h (K6 a)
def dI(a b:List Int):Nat->Int
 |0=>0
 |n+1=>if eN a n=eN b n then dI a b n else dk (eN a n) (eN b n)
def aY(a b:List Int):Int:=dI a b (max a.length b.length)
theorem ac3{x y:Int}:dk x y=0↔x=y:=by unfold dk;(repeat' split)<;>omega
theorem xy{x y:Int}:dk x y<0↔x<y:=by unfold dk;(repeat' split)<;>omega
theorem abb(x y:Int):dk y x= -dk x y:=by unfold dk;(repeat' split)<;>omega
theorem Df(a b:List Int):∀n,dI a b n=0↔∀i,i<n->eN a i=eN b i
 |0=>by simp[dI]
 | n+1=>by
  rw[dI];split
  ·rename_i h;rw[Df a b n];exact⟨fun H i hi=>by
    by_cases h1:i=n
    ·subst h1;exact h
    ·exact H i (by omega),fun H i hi=>H i (by omega)⟩
  ·rename_i h;rw[ac3];exact⟨fun H=>absurd H h,fun H=>H n (by omega)⟩
theorem K8(a b:List Int):∀n,dI b a n= -dI a b n
 |0=>rfl
 |n+1=>by
  rw[dI,dI];by_cases h:eN a n=eN b n
  ·rw[if_pos h,if_pos h.symm,K8 a b n]
  ·rw[if_neg h,if_neg (fun h'=>h h'.symm),abb]
theorem Pg{a b c:List Int}:∀n,dI a b n<0->dI b c n<0->dI a c n<0
 |0=>by simp[dI]
 | n+1=>by
  intro h1 h2;rw[dI]at h1 h2⊢;split at h1<;>split at h2
  ·rename_i e1 e2;rw[if_pos (e1.trans e2)];exact Pg n h1 h2
  ·rename_i e1 e2;rw[e1,if_neg e2];exact h2
  ·rename_i e1 e2;rw[<-e2,if_neg e1];exact h1
  ·rename_i e1 e2;rw[xy]at h1 h2;rw[if_neg (by omega),xy];omega
theorem xm{a b:List Int}{m:Nat}(h:max a.length b.length<=m):dI a b m=aY a b:=by
 obtain⟨k,rfl⟩:∃k,m=max a.length b.length+k:=⟨m-max a.length b.length,by omega⟩
 induction k with
 |zero=>rfl
 |succ k ih=>rw[<-Nat.add_assoc,dI,if_pos (by rw[kZ (by omega),kZ (by omega)])];exact ih (by omega)
theorem Iy{a b:List Int}(ha:a.getLast? ≠some 0)(hb:b.getLast? ≠some 0):aY a b=0↔a=b:=by
 unfold aY;rw[Df];constructor
 ·intro h;refine DI ha hb fun i=>?_;by_cases hi:i<max a.length b.length
  ·exact h i hi
  ·rw[kZ (by omega),kZ (by omega)]
 ·rintro rfl i _;rfl
theorem HG(a:List Int):aY a a=0:=by rw[aY,Df];intros;rfl
theorem xo(a b:List Int):aY b a= -aY a b:=by unfold aY;rw[Nat.max_comm,K8]
theorem WI{a b c:List Int}(h1:aY a b<0)(h2:aY b c<0):aY a c<0:=by
 have e:∀x y:List Int,x.length<=a.length+b.length+c.length->y.length<=a.length+b.length+c.length->aY x y=dI x y (a.length+b.length+c.length):=fun x y hx hy=>(xm (by omega)).symm;rw[e _ _ (by omega) (by omega)]at *
 exact Pg _ h1 h2
theorem WJ{a b c d:List Int}(h1:∀i,eN a i=eN c i)(h2:∀i,eN b i=eN d i):aY a b=aY c d:=by
 have key:∀n,dI a b n=dI c d n:=by
  intro n;induction n with
  |zero=>rfl
  |succ n ih=>rw[dI,dI,h1,h2,ih]
 rw[<-xm (m:=max (max a.length b.length) (max c.length d.length)) (by omega),key,xm (by omega)]
def kB(g:Int->Int->Int)(a b:List Int):List Int:=(List.range (max a.length b.length)).map fun i=>g (eN a i) (eN b i)
theorem pA(g:Int->Int->Int)(a b:List Int):(kB g a b).length=max a.length b.length:=by simp[kB]
theorem Mp{g:Int->Int->Int}(hg:g 0 0=0)(a b:List Int)(i:Nat):eN (kB g a b) i=g (eN a i) (eN b i):=by
 by_cases h:i<max a.length b.length
 ·rw[gY (by rw[pA];exact h)];simp[kB]
 ·rw[kZ (by rw[pA];omega),kZ (by omega),kZ (by omega),hg]
def di(a b:List Int):List Int:=qW (kB (· + ·) a b)
theorem xz(a b:List Int)(i:Nat):eN (di a b) i=eN a i+eN b i:=by rw[di,K6,Mp (by simp)]
theorem zI(a b:List Int):(di a b).getLast? ≠some 0:=Pf _
theorem zJ(a b:List Int):di a b=di b a:=DI (zI _ _) (zI _ _) fun i=>by rw[xz,xz,Int.add_comm]
theorem zT{a:List Int}(h:a.getLast? ≠some 0):di a []=a:=DI (zI _ _) h fun i=>by rw[xz,agC,Int.add_zero]
theorem abN(a b c:List Int):aY (di a c) (di b c)=aY a b:=by
 have key:∀n,dI (di a c) (di b c) n=dI a b n:=by
  intro n;induction n with
  |zero=>rfl
  |succ n ih=>
   rw[dI,dI,xz,xz,ih];by_cases h:eN a n=eN b n
   ·rw[if_pos h,if_pos (by omega)]
   ·rw[if_neg h,if_neg (by omega)];unfold dk;(repeat' split)<;>omega
 rw[<-xm (m:=max (max (di a c).length (di b c).length) (max a.length b.length)) (by omega),key,xm (by omega)]
def jN(a:List Int):Int:=a.sum
def iR(a:List Int):Bool:=decide (a.length<=64)&&(decide (a.getLast? ≠some 0)&&a.all fun x=>decide (0<=x)&&decide (x<=1048576))
def jO(o:Int)(a b:List Int):Int:=if o=1/\jN a≠jN b then dk (jN a) (jN b)else aY a b
structure MB(k:Nat)(a:List Int):Prop where
 len:a.length<=64
 lo:∀x∈a,0<=x
 hi:∀x∈a,x<=k
theorem MB.eN{k:Nat}{a:List Int}(h:MB k a)(i:Nat):0<=FW.eN a i/\FW.eN a i<=k:=by
 by_cases hi:i<a.length
 ·rw[gY hi];exact⟨h.lo _ (Kah _),h.hi _ (Kah _)⟩
 ·rw[kZ (by omega)];omega
theorem MB.mono{k k':Nat}{a:List Int}(h:MB k a)(hk:k<=k'):MB k' a:=⟨h.len,h.lo,fun x hx=>by have:=h.hi x hx;omega⟩
theorem MB.uV{a:List Int}(h:iR a=true):MB 1048576 a:=by simp only[iR,Kav,decide_eq_true_eq,Kaq]at h;exact⟨h.1,fun x hx=>(h.2.2 x hx).1,fun x hx=>(h.2.2 x hx).2⟩
theorem MB.mul{k l:Nat}{a b:List Int}(h:MB k a)(g:MB l b):MB (k+l) (di a b):=by
 have hl:(di a b).length<=64:=by have:=Cy (kB (· + ·) a b);rw[pA]at this;have:=h.len;have:=g.len;unfold di;omega
 refine⟨hl,fun x hx=>?_,fun x hx=>?_⟩
 all_goals
  obtain⟨i,hi,rfl⟩:=KaA hx;rw[<-gY hi,xz];have:=h.eN i;have:=g.eN i
  push_cast;omega
variable {C : Ctx} {fr : Fr} {hp : HP} {w : World} {K R : Qh}
theorem ajo{α:Type}{f:α->PV}{e d:Nat}{xs:List α}{k k':IntKind}{n:Nat}(h5:n<=xs.length):
  iw e (.sl e (xs.map f)) none (some (.int k (n:Int))) (some (.int k' (n:Int))) d fr hp K=K (ae fr d (.sl e ((xs.take n).map f))) hp:=by
 simp[iw,gS,h5]
theorem HZ{α:Type}{a:List α}{k:Nat}(h:a.length=k+1):a.getLast? =some (a[k]'(by omega)):=by rw[Kbh,show a.length-1=k by omega];exact Kag _
theorem VA{α:Type}{f:α->PV}{e by_ ty d:Nat}{xs:List α}(h0:0<e)(h1:xs.length*by_<=140737488355328)(h2:xs.length<=9223372036854775807):
  iF e by_ ty .aa (.sl e (xs.map f)) d fr hp K=K (ae (bE d fr) d (.ms d xs.length)) (Ql hp d ⟨e,ty,xs.map f,false⟩):=by
 have:=Hm (fr:=fr) (hp:=hp) (K:=K) (e:=e) (by_:=by_) (ty:=ty) (d:=d) (x:=.sl e (xs.map f)) (ys:=xs.map f) rfl h0 (by simpa using h1) (by simpa using h2);simpa using this
theorem jI{α:Type}{f:α->PV}{e by_ ty d β n:Nat}{xs ys:List α}(hb:hp β=some ⟨e,ty,xs.map f,false⟩)(hn:n=xs.length)(h0:0<e)(h1:(n+ys.length)*by_<=140737488355328)(h2:n+ys.length<=9223372036854775807)(hB:bB β=false:=by decide):
  iF e by_ ty (.ms β n) (.sl e (ys.map f)) d fr hp K=K (ae (bE β fr) d (.ms β (n+ys.length))) (Ql hp β ⟨e,ty,(xs++ys).map f,false⟩):=by
 rw[Hn (ys:=ys.map f) (xs:=xs.map f) rfl hb h0 (by simp[hn]) (by simpa using h1) (by simpa using h2) hB];rw[Kai (by simp[hn]),KbW,Ka0]
theorem Qz{α:Type}{f:α->PV}{y:α}{e by_ ty ty' d β γ n:Nat}{xs:List α}{fz:Bool}(hb:hp β=some ⟨e,ty,xs.map f,false⟩)(hy:hp γ=some ⟨e,ty',[f y],fz⟩)(h0:0<e)(hn:n=xs.length)(h1:(n+1)*by_<=140737488355328)(h2:n+1<=9223372036854775807)(hB:bB β=false:=by decide):
  iF e by_ ty (.ms β n) (.ms γ 1) d fr hp K=K (ae (bE β fr) d (.ms β (n+1))) (Ql hp β ⟨e,ty,(xs++[y]).map f,false⟩):=by
 rw[HU hb hy h0 (by simp[hn]) h1 h2 hB];simp
abbrev PV.mono(a:List Int):PV:=.sl 1 (pU a)
theorem XO{a:List Int}(h:a=[]):PV.le .aa (PV.mono a):=by subst h;trivial
theorem agD{by_ ty d:Nat}{k k':IntKind}{n c:Nat}(h2:n<=c)(h3:by_*c<=281474976710656)(h4:c<=9223372036854775807):
  nH 1 by_ ty (.int .i64 0) (.int k (n:Int)) (.int k' (c:Int)) d fr hp K=K (ae (bE d fr) d (.ms d n)) (Ql hp d ⟨1,ty,pU (List.replicate n 0),false⟩):=by
 rw[MX (by omega) (by omega) (by omega) (by omega)];simp[pU]
theorem Mq(a b:Nat):max (a:Int) (b:Int)=((max a b:Nat):Int):=by omega
end Go.FW
namespace Go.FW
open Go
variable {C : Ctx} {fr : Fr} {hp : HP} {w : World} {K R : Qh}
theorem XP{α:Type}{done:List α}{i n:Nat}{v z:α}(h:done.length=i)(hn:0<n):(done++List.replicate n z).set i v=(done++[v])++List.replicate (n-1) z:=by
 obtain⟨m,rfl⟩:∃m,n=m+1:=⟨n-1,by omega⟩
 subst h;simp[KbJ]
theorem HH{g:Int->Int->Int}{a b:List Int}{i:Nat}(h:i<max a.length b.length):(kB g a b).take (i+1)=(kB g a b).take i++[g (eN a i) (eN b i)]:=by rw[Kam (by rw[pA];exact h)];simp[kB]
end Go.FW
namespace Go.FW
open Go
abbrev Tm:=Rat×List Int
abbrev PV.term(t:Tm):PV:=.agg [.bool (decide (t.1.num<0)),PV.num t.1.num.natAbs,PV.num t.1.den,PV.mono t.2]
abbrev PV.ao(p:List Tm):PV:=.sl 4 (p.map PV.term)
abbrev PV.eI(l:List (List Tm)):PV:=.sl 1 (l.map PV.ao)
def Qq:List Tm->List Tm->List Tm
 | [],q=>q
 |p,[]=>p
 |(c,m)::p,(d,l)::q=>
  if 0<aY m l then(c,m)::Qq p ((d,l)::q)
  else if aY m l<0 then(d,l)::Qq ((c,m)::p) q
  else if c+d=0 then Qq p q else(c+d,m)::Qq p q
termination_by p q=>p.length+q.length
theorem kW(p:List Tm):Qq p []=p:=by cases p<;>rw[Qq];simp
theorem sh(p:List Tm):Qq [] p=p:=by rw[Qq]
structure TB(K E:Nat)(t:Tm):Prop where
 c:rs t.1+1<=K
 m:MB E t.2
 l:t.2.getLast? ≠some 0
def PB(K E:Nat)(p:List Tm):Prop:=∀t∈p,TB K E t
theorem TB.mono{K K' E E':Nat}{t:Tm}(h:TB K E t)(hK:K<=K')(hE:E<=E'):TB K' E' t:=⟨KaL h.c hK,h.m.mono hE,h.l⟩
theorem PB.mono{K K' E E':Nat}{p:List Tm}(h:PB K E p)(hK:K<=K')(hE:E<=E'):PB K' E' p:=fun t ht=>(h t ht).mono hK hE
theorem PB.nil(K E:Nat):PB K E []:=fun t ht=>by cases ht
theorem PB.cons{K E:Nat}{t:Tm}{p:List Tm}:PB K E (t::p)↔TB K E t/\PB K E p:=by simp[PB]
theorem PB.drop{K E:Nat}{p:List Tm}(h:PB K E p)(n:Nat):PB K E (p.drop n):=fun t ht=>h t (Kbt ht)
theorem PB.take{K E:Nat}{p:List Tm}(h:PB K E p)(n:Nat):PB K E (p.take n):=fun t ht=>h t (Ka8 ht)
theorem PB.get{K E:Nat}{p:List Tm}(h:PB K E p){i:Nat}(hi:i<p.length):TB K E p[i]:=h _ (Kah hi)
theorem G9:∀(p q:List Tm),(Qq p q).length<=p.length+q.length:=by
 intro p q;induction p,q using Qq.induct with
 |case1 q=>rw[Qq];simp
 |case2 p h=>rw[kW];simp
 |case3 c m p d l q h ih=>rw[Qq,if_pos h];simp at ih ⊢;omega
 |case4 c m p d l q h1 h2 ih=>rw[Qq,if_neg h1,if_pos h2];simp at ih ⊢;omega
 |case5 c m p d l q h1 h2 h3 ih=>rw[Qq,if_neg h1,if_neg h2,if_pos h3];simp at ih ⊢;omega
 |case6 c m p d l q h1 h2 h3 ih=>rw[Qq,if_neg h1,if_neg h2,if_neg h3];simp at ih ⊢;omega
theorem DZ{K L E:Nat}:∀(p q:List Tm),PB K E p->PB L E q->PB (K+L) E (Qq p q):=by
 intro p q;induction p,q using Qq.induct with
 |case1 q=>rw[Qq];exact fun _ h=>h.mono (by omega) (by omega)
 |case2 p h=>rw[kW];exact fun h _=>h.mono (by omega) (by omega)
 |case3 c m p d l q h ih=>intro hp hq;rw[Qq,if_pos h];rw[PB.cons]at hp⊢;exact⟨hp.1.mono (by omega) (by omega),ih hp.2 hq⟩
 |case4 c m p d l q h1 h2 ih=>intro hp hq;rw[Qq,if_neg h1,if_pos h2];rw[PB.cons]at hq⊢;exact⟨hq.1.mono (by omega) (by omega),ih hp hq.2⟩
 |case5 c m p d l q h1 h2 h3 ih=>intro hp hq;rw[Qq,if_neg h1,if_neg h2,if_pos h3];rw[PB.cons]at hp hq;exact ih hp.2 hq.2
 |case6 c m p d l q h1 h2 h3 ih=>intro hp hq;rw[Qq,if_neg h1,if_neg h2,if_neg h3];rw[PB.cons]at hp hq⊢;refine⟨⟨?_,hp.1.m,hp.1.l⟩,ih hp.2 hq.2⟩;have:=vk c d;have:=hp.1.c;have:=hq.1.c;simp only at *;omega
def cB(l:List (List Tm)):List Tm:=
 match l with
 | []=>[]
 | [p]=>p
 |p::q::r=>Qq (cB ((p::q::r).take ((p::q::r).length/2))) (cB ((p::q::r).drop ((p::q::r).length/2)))
termination_by l.length
decreasing_by
 all_goals simp[Kax,Ka2];omega
theorem zK{l:List (List Tm)}(h:2<=l.length):cB l=Qq (cB (l.take (l.length/2))) (cB (l.drop (l.length/2))):=by
 match l,h with
 |p::q::r,_=>rw[cB]
def sL(l:List (List Tm)):Nat:=(l.map List.length).sum
theorem Ph(l:List (List Tm))(n:Nat):sL (l.take n)+sL (l.drop n)=sL l:=by unfold sL;rw[<-List.sum_append,<-List.map_append,Kbg]
theorem Ho{K E:Nat}:∀(n:Nat)(l:List (List Tm)),l.length<=n->(∀p∈l,PB K E p)->PB (l.length*K) E (cB l)/\(cB l).length<=sL l:=by
 intro n;induction n with
 |zero=>intro l hl _;have:l=[]:=Kar.1 (by omega);subst this;rw[cB];exact⟨PB.nil _ _,by simp⟩
 | succ n ih=>
  intro l hl h
  match l,h with
  | [],_=>rw[cB];exact⟨PB.nil _ _,by simp⟩
  | [p],h=>rw[cB];exact⟨by simpa using h p (by simp),by simp[sL]⟩
  | p::q::r,h=>
   rw[zK (by simp)];generalize hL:p::q::r=L at *
   have hlen:2<=L.length:=by rw[<-hL];simp
   obtain⟨a1,a2⟩:=ih (L.take (L.length/2)) (by rw[Kax];omega) (fun x hx=>h x (Ka8 hx));obtain⟨b1,b2⟩:=ih (L.drop (L.length/2)) (by rw[Ka2];omega) (fun x hx=>h x (Kbt hx));have hs:=Ph L (L.length/2);constructor
   ·have e:(L.take (L.length/2)).length*K+(L.drop (L.length/2)).length*K=L.length*K:=by rw[<-Nat.add_mul,Kax,Ka2];congr 1;omega
    rw[<-e];exact DZ _ _ a1 b1
   ·have:=G9 (cB (L.take (L.length/2))) (cB (L.drop (L.length/2)));omega
def Qw(p:List Tm)(t:Tm):List Tm:=p.filterMap fun x=>if x.1*t.1=0 then none else some (x.1*t.1,di x.2 t.2)
theorem u6(p:List Tm)(t:Tm):(Qw p t).length<=p.length:=List.length_filterMap_le _ _
theorem tx{K L E F:Nat}{p:List Tm}{t:Tm}(hp:PB K E p)(ht:TB L F t):PB (K+L) (E+F) (Qw p t):=by
 intro x hx;simp only[Qw,Kb7]at hx;obtain⟨y,hy,h⟩:=hx;split at h
 ·cases h
 ·cases h;have g:=hp y hy;refine⟨?_,g.m.mul ht.m,zI _ _⟩;have:=vl y.1 t.1;have:=g.c;have:=ht.c;simp only;omega
def oT(p q:List Tm):List Tm:=cB (p.map (Qw q))
def aV(p q:List Tm):List Tm:=if q.length<p.length then oT q p else oT p q
theorem GP(p q:List Tm):sL (p.map (Qw q))<=p.length*q.length:=by
 unfold sL;induction p with
 |nil=>simp
 |cons t p ih=>have:=u6 q t;simp only[Kbe,Kc3,KaT,KaG,Kck];omega
theorem Oq{K L E F:Nat}{p q:List Tm}(hp:PB K E p)(hq:PB L F q):PB (p.length*(K+L)) (E+F) (oT p q)/\(oT p q).length<=p.length*q.length:=by obtain⟨h1,h2⟩:=Ho (K:=K+L) (E:=E+F) _ (p.map (Qw q)) (Kad _) (fun x hx=>by obtain⟨t,ht,rfl⟩:=KaF.1 hx;exact(tx hq (hp t ht)).mono (by omega) (by omega));rw[Ka0]at h1;exact⟨h1,KaL h2 (GP p q)⟩
theorem Pj{K L E F:Nat}{p q:List Tm}(hp:PB K E p)(hq:PB L F q):PB (min p.length q.length*(K+L)) (E+F) (aV p q)/\(aV p q).length<=p.length*q.length:=by
 unfold aV;split
 ·rename_i h;obtain⟨h1,h2⟩:=Oq hq hp;rw[KcZ (by omega),KbY K,KbY E,KaQ p.length];exact⟨h1,h2⟩
 ·rename_i h;obtain⟨h1,h2⟩:=Oq hp hq;rw[KbV (by omega)];exact⟨h1,h2⟩
theorem zL(x y:Tm)(p q:List Tm):Qq (x::p) (y::q)=if 0<aY x.2 y.2 then x::Qq p (y::q)else if aY x.2 y.2<0 then y::Qq (x::p) q else if x.1+y.1=0 then Qq p q else(x.1+y.1,x.2)::Qq p q:=by obtain⟨c,m⟩:=x;obtain⟨d,l⟩:=y;rw[Qq]
theorem PN{p q:List Tm}{i k:Nat}(hi:i<p.length)(hk:k<q.length):Qq (p.drop i) (q.drop k)=if 0<aY p[i].2 q[k].2 then p[i]::Qq (p.drop (i+1)) (q.drop k)else if aY p[i].2 q[k].2<0 then q[k]::Qq (p.drop i) (q.drop (k+1))else if p[i].1+q[k].1=0 then Qq (p.drop (i+1)) (q.drop (k+1))else(p[i].1+q[k].1,p[i].2)::Qq (p.drop (i+1)) (q.drop (k+1)):=by rw[Kau hi,Kau hk,zL]
theorem Er(a b:List Int):jO 0 a b=aY a b:=by simp[jO]
theorem Hp{a b:List Int}(h1:¬0<aY a b)(h2:¬aY a b<0)(ha:a.getLast? ≠some 0)(hb:b.getLast? ≠some 0):a=b:=(Iy ha hb).1 (by omega)
theorem si:PV.le .aa (PV.ao []):=trivial
theorem HI{p:List Tm}(h:p=[]):PV.le .aa (PV.ao p):=by subst h;trivial
section
variable {C : Ctx} {fr : Fr} {hp : HP} {w : World} {K R : Qh}
theorem abO{e by_ ty d:Nat}{z:PV}{k k':IntKind}{Cc:Int}(h0:0<e)(hz:z.cells.length=e)(h2:0<=Cc)(h3:by_*Cc<=281474976710656)(h4:Cc<=9223372036854775807):
  nH e by_ ty z (.int k 0) (.int k' Cc) d fr hp K=K (ae (bE d fr) d (.ms d 0)) (Ql hp d ⟨e,ty,[],false⟩):=B2 h0 hz (by omega) h2 h3 h4
end
end Go.FW
namespace Go.FW
open Go
def Q5(p:List Tm)(a:Rat):List Tm:=if a=0 then []else Qw p (a,[])
def tW(p:List Tm):List Tm:=Q5 p (-1)
def bQ(p q:List Tm):List Tm:=Qq p (tW q)
def cM(a:Rat):List Tm:=if a=0 then []else [(a,[])]
def tX(v:Nat):List Int:=List.replicate v 0++[1]
def Q3(v:Int):List Tm:=if v<0∨64<=v then []else [(1,tX v.toNat)]
theorem TB.num{a:Rat}{K E:Nat}(h:rs a+1<=K):TB K E (a,[]):=⟨h,⟨by simp,by simp,by simp⟩,by simp⟩
theorem zt{p:List Tm}{a:Rat}{K E L:Nat}(hp:PB K E p)(ha:rs a+1<=L):PB (K+L) E (Q5 p a):=by
 unfold Q5;split
 ·exact PB.nil _ _
 ·exact(tx (F:=0) hp (TB.num ha)).mono (by omega) (by omega)
theorem zc(p:List Tm)(a:Rat):(Q5 p a).length<=p.length:=by
 unfold Q5;split
 ·simp
 ·exact u6 _ _
theorem agE(z:Int)(h1: -18446744073709551616<z)(h2:z<18446744073709551616):rs (z:Rat)<=4:=by unfold rs;rw[Rat.num_intCast,Rat.den_intCast,lO];have:=qM (n:=z.natAbs) (by omega);omega
theorem B5:rs (-1)<=1:=by have:rs (-1)=max (nl 1) (nl 1):=rfl;rw[this,lO];omega
theorem sM:rs 1<=1:=by have:rs 1=max (nl 1) (nl 1):=rfl;rw[this,lO];omega
theorem KK:rs 0<=1:=by have:rs 0=max (nl 0) (nl 1):=rfl;rw[this,lO,xv];omega
theorem ac4{p:List Tm}{K E:Nat}(hp:PB K E p):PB (K+2) E (tW p):=zt hp (by have:=B5;omega)
def mU(s t:Tm):Int:=if aY s.2 t.2≠0 then aY s.2 t.2 else n6 s.1 t.1
def iG:List Tm->List Tm->Int
 | [],[]=>0
 | [],_::_=> -1
 |_::_,[]=>1
 |s::p,t::q=>if mU s t≠0 then mU s t else iG p q
theorem ac5{s t:Tm}(hs:s.2.getLast? ≠some 0)(ht:t.2.getLast? ≠some 0):mU s t=0↔s=t:=by
 unfold mU;constructor
 ·intro h;split at h
  ·omega
  ·rename_i h1;have e1:=(Iy hs ht).1 (Decidable.not_not.1 h1);exact Prod.ext (PL.1 h) e1
 ·rintro rfl;rw[if_neg (by simp[HG]),PL.2 rfl]
theorem Iz:∀ {p q:List Tm},(∀t∈p,t.2.getLast? ≠some 0)->(∀t∈q,t.2.getLast? ≠some 0)->(iG p q=0↔p=q)
 | [],[],_,_=>by simp[iG]
 | [],_::_,_,_=>by simp[iG]
 |_::_,[],_,_=>by simp[iG]
 | s::p,t::q,hp,hq=>by
  rw[iG];have h1:=ac5 (hp s (by simp)) (hq t (by simp));have h2:=Iz (p:=p) (q:=q) (fun x hx=>hp x (by simp[hx])) (fun x hx=>hq x (by simp[hx]));split
  ·rename_i h;simp only[Kcq];exact⟨fun h'=>absurd h' h,fun h'=>absurd (h1.2 h'.1) h⟩
  ·rename_i h;rw[h2,Kcq,<-h1];exact⟨fun h'=>⟨Decidable.not_not.1 h,h'⟩,fun h'=>h'.2⟩
theorem PO{p q:List Tm}{i:Nat}(hi:i<p.length)(hk:i<q.length):iG (p.drop i) (q.drop i)=if mU p[i] q[i]≠0 then mU p[i] q[i]else iG (p.drop (i+1)) (q.drop (i+1)):=by rw[Kau hi,Kau hk,iG]
theorem zU{q:List Tm}:iG [] q=if q.length=0 then 0 else -1:=by cases q<;>simp[iG]
theorem PB.last{K E:Nat}{p:List Tm}(h:PB K E p):∀t∈p,t.2.getLast? ≠some 0:=fun t ht=>(h t ht).l
def tY(p:List Tm):Int:=p.foldl (fun d t=>max d (jN t.2)) (-1)
theorem IA{E:Nat}{a:List Int}(h:MB E a):0<=jN a/\jN a<=64*E:=by
 have key:∀(l:List Int),(∀x∈l,0<=x)->(∀x∈l,x<=E)->0<=l.sum/\l.sum<=l.length*E:=by
  intro l;induction l with
  |nil=>simp
  |cons x l ih=>
   intro h1 h2;obtain⟨a1,a2⟩:=ih (fun y hy=>h1 y (by simp[hy])) (fun y hy=>h2 y (by simp[hy]));have b1:=h1 x (by simp);have b2:=h2 x (by simp);rw[Kc3,KaT]
   push_cast
   rw[Int.add_mul];omega
 obtain⟨h1,h2⟩:=key a h.lo h.hi;refine⟨h1,Int.le_trans h2 (Int.mul_le_mul_of_nonneg_right ?_ (by omega))⟩;have:=h.len;omega
structure cS where
 n:Bool
 a:List Nat
 d:List Nat
 m:List Int
abbrev PV.qC(t:cS):PV:=.agg [.bool t.n,PV.nat t.a,PV.nat t.d,PV.mono t.m]
abbrev PV.mD(l:List cS):PV:=.sl 4 (l.map PV.qC)
def cS.q(t:cS):Rat:=rv t.n t.a t.d
def cS.tm(t:cS):Tm:=(t.q,t.m)
structure RB(k:Nat)(t:cS):Prop where
 r:Qj t.a/\Qj t.d/\t.a.length<=k/\t.d.length<=k
 l:t.m.length<2^40
def fJ(t:cS):Bool:=ku t.n t.a t.d&&(decide (t.q≠0)&&iR t.m)
def dt:List cS->Bool
 | []=>true
 | [t]=>fJ t
 |s::t::l=>fJ s&&(decide (0<aY s.m t.m)&&dt (t::l))
theorem H2:∀(l:List cS),dt l=true↔(∀i (h:i<l.length),fJ l[i]=true)/\(∀i (h:i+1<l.length),0<aY l[i].m l[i+1].m)
 | []=>by simp[dt]
 | [t]=>by
  rw[dt];constructor
  ·intro h;exact⟨fun i hi=>by have:i=0:=(by simp at hi;omega);subst this;exact h,fun i hi=>by simp at hi⟩
  ·intro h;exact h.1 0 (by simp)
 | s::t::l=>by
  rw[dt,Kav,Kav,decide_eq_true_eq,H2 (t::l)];constructor
  ·rintro⟨h1,h2,h3,h4⟩;refine⟨fun i hi=>?_,fun i hi=>?_⟩
   ·cases i with
    |zero=>exact h1
    |succ i=>exact h3 i (by simpa using hi)
   ·cases i with
    |zero=>exact h2
    |succ i=>exact h4 i (by simpa using hi)
  ·rintro⟨h1,h2⟩;exact⟨h1 0 (by simp),h2 0 (by simp),fun i hi=>h1 (i+1) (by simpa using hi),fun i hi=>h2 (i+1) (by simpa using hi)⟩
theorem XQ{s:cS}{l:List cS}(h:dt (s::l)=true):fJ s=true/\dt l=true:=by
 cases l with
 |nil=>exact⟨h,rfl⟩
 |cons t l=>rw[dt,Kav,Kav]at h;exact⟨h.1,h.2.2⟩
structure TV(t:Tm):Prop where
 c:t.1≠0
 m:iR t.2=true
def iz:List Tm->Prop
 | []=>True
 |s::p=>(∀t∈p,0<aY s.2 t.2)/\iz p
structure Gf(p:List Tm):Prop where
 t:∀t∈p,TV t
 s:iz p
theorem abP{t:cS}{k:Nat}(hb:RB k t)(h:fJ t=true):PV.qC t=PV.term t.tm/\TV t.tm:=by simp only[fJ,Kav,decide_eq_true_eq]at h;obtain⟨h1,h2,h3⟩:=h;obtain⟨e1,e2,e3⟩:=K5 hb.r.1 hb.r.2.1 h1;refine⟨?_,h2,h3⟩;rw[PV.qC,PV.term,cS.tm,cS.q,<-e1,PV.num,PV.num,<-e2,<-e3]
theorem wT{a b c:List Int}(h1:0<aY a b)(h2:0<aY b c):0<aY a c:=by have e1:=xo a b;have e2:=xo b c;have e3:=xo a c;have:=WI (a:=c) (b:=b) (c:=a) (by omega) (by omega);omega
theorem XR{k:Nat}:∀ {l:List cS},(∀t∈l,RB k t)->dt l=true->PV.mD l=PV.ao (l.map cS.tm)/\Gf (l.map cS.tm):=by
 intro l;induction l with
 |nil=>intro _ _;exact⟨rfl,⟨by simp,trivial⟩⟩
 | cons s l ih=>
  intro hb h;obtain⟨h1,h2⟩:=XQ h;obtain⟨e1,v1⟩:=abP (hb s (by simp)) h1;obtain⟨e2,v2⟩:=ih (fun t ht=>hb t (by simp[ht])) h2;refine⟨?_,⟨fun t ht=>?_,?_,v2.s⟩⟩
  ·have e2':l.map PV.qC=(l.map cS.tm).map PV.term:=by injection e2
   show PV.sl 4 (PV.qC s::l.map PV.qC)=PV.sl 4 (PV.term s.tm::(l.map cS.tm).map PV.term);rw[e1,e2']
  ·simp only[Kbe,KaC]at ht;rcases ht with rfl|ht
   ·exact v1
   ·exact v2.t t ht
  ·cases l with
   |nil=>intro t ht;simp at ht
   |cons u l=>
    rw[dt,Kav,Kav,decide_eq_true_eq]at h;intro t ht;rw[Kbe]at ht v2;rcases KaC.1 ht with rfl|ht
    ·exact h.2.1
    ·exact wT h.2.1 (v2.s.1 t ht)
theorem TV.MB{t:Tm}(h:TV t):MB 1048576 t.2:=MB.uV h.m
theorem Ot{a:List Int}(h:iR a=true):a.getLast? ≠some 0:=by simp only[iR,Kav,decide_eq_true_eq]at h;exact h.2.1
variable {C : Ctx} {ρ : Nat -> Option Nat} {fr : Fr} {hp : HP} {w : World} {K R : Qh}
theorem jh(s:Nat)(hd:(Qu hp (fr s)).aD=true):Wk fr hp (ae fr s (Qu hp (fr s))) (FW.Qx hp (fr s).refs):=by
 rintro C tmps w ⟨ρ,hs⟩;have hf:=hs.freeze (fr s).refs;refine⟨ρ,hf.sz,hf.ext,hf.eG,hf.own,hf.inj,fun i=>?_⟩;unfold ae;split
 ·rename_i hi;subst hi;exact Qm.lG (qJ hs (hs.cH i) (fun β h=>h) hd)
 ·exact hf.cH i
def vw(W:List (Nat×Nat))(F:Fr)(I:Nat->Fr->HP->Prop)(n:Nat):Qh:=fun aA hp'=>∃J bI m,Wk aA hp' (bg W J F) bI/\m<n/\I m J bI
theorem abQ{W:List (Nat×Nat)}{F:Fr}{I:Nat->Fr->HP->Prop}{n:Nat}:KM (vw W F I n) (vw W F I n):=by rintro f f' hp hf ⟨J,bI,m,h1,h2,h3⟩;exact⟨J,bI,m,hf.wk.trans h1,h2,h3⟩
theorem WK{sk:List It}{W:List (Nat×Nat)}{F:Fr}{I:Nat->Fr->HP->Prop}{n:Nat}(h:eJ R sk):eJ R (.el (vw W F I n)::sk):=⟨h.1,.el abQ h.2⟩
theorem zu{W:List (Nat×Nat)}{F J:Fr}{I:Nat->Fr->HP->Prop}{n:Nat}(m:Nat)(hl:m<n)(h:I m J hp):vw W F I n (bg W J F) hp:=⟨J,hp,m,Wk.refl _ _,hl,h⟩
theorem Pk{W:List (Nat×Nat)}{F J:Fr}{I:Nat->Fr->HP->Prop}{n:Nat}(s m:Nat)(hs:lE W s=true)(hd:(Qu hp (J s)).aD=true)(hl:m<n)(h:I m (ae J s (Qu hp (J s))) (FW.Qx hp (J s).refs)):vw W F I n (bg W J F) hp:=by
 have e:bg W J F s=J s:=by rw[Na,if_pos hs]
 have hw:=jh (fr:=bg W J F) (hp:=hp) s (by rw[e];exact hd);rw[e,Mj hs]at hw;exact⟨_,_,m,hw,hl,h⟩
theorem K9{sk:List It}{x:SC}(aO:eJ R sk)(W:List (Nat×Nat))(B:List Nat)(I:Nat->Fr->HP->Prop)(m0:Nat)(h0:I m0 fr hp)
  (h:∀m J hp,I m J hp->vc C R (.c x:: .el (vw W (Qy B fr) I m)::sk) (bg W J (Qy B fr)) hp):vc C R (.c (.loop x)::sk) fr hp:=by
 refine zD (fun m aA hp'=>∃J,aA=bg W J (Qy B fr)/\I m J hp') m0 (Dy W B).wk ⟨fr,rfl,h0⟩ ?_;rintro m _ hp' ⟨J,rfl,hI⟩;refine sw aO.1 _ _ _ _ _ _ (Kad _) (.c x (.el ?_ aO.2)) (bU.refl _) (h m J hp' hI);rintro f f' bI hf ⟨J2,ot,m2,e2,hl,h2⟩;exact HT hl (hf.wk.trans e2) ⟨J2,rfl,h2⟩
abbrev dg(a:List Nat)(i:Nat):Nat:=a.getD i 0
theorem vz{a:List Nat}(h:Qj a)(i:Nat):dg a i<65536:=by
 by_cases hi:i<a.length
 ·rw[dg,fN hi];exact dX h hi
 ·rw[dg,fO hi];omega
theorem xc(a:List Nat)(i:Nat):val (a.drop i)=dg a i+65536*val (a.drop (i+1)):=by
 by_cases hi:i<a.length
 ·rw[lI hi,dg,fN hi]
 ·rw[dg,fO hi,Kan (by omega),Kan (by omega)];rfl
theorem Hq(a:List Nat)(i:Nat):val a=val (a.take i)+65536^i*val (a.drop i):=by
 by_cases hi:i<=a.length
 ·exact pB a i hi
 ·rw[Kai (by omega),Kan (by omega)];simp[val]
theorem UE{a:List Nat}(h:Qj a)(i:Nat):val (a.take i)<65536^i:=by
 by_cases hi:i<=a.length
 ·exact tv h i hi
 ·rw[Kai (by omega)];exact Kbi (oO h) (Kbu (by omega) (by omega))
theorem NR(a:List Nat)(i:Nat):val (a.take (i+1))=val (a.take i)+65536^i*dg a i:=by
 by_cases hi:i<a.length
 ·rw[za hi,dg,fN hi]
 ·rw[dg,fO hi,Kai (by omega),Kai (by omega)];simp
theorem Ou{a b:List Nat}(ha:Qj a){i:Nat}(h:val (a.drop i)<val (b.drop i)):val a<val b:=by rw[Hq a i,Hq b i];have h1:=UE ha i;have:65536^i*(val (a.drop i)+1)<=65536^i*val (b.drop i):=Kbc _ h;rw[Ka1]at this;omega
theorem Mr{l:List Nat}{j v:Nat}(h:j<l.length):val (l.set j v)+65536^j*l[j]=val l+65536^j*v:=by have e:l.set j v=l.take j++v::l.drop (j+1):=List.set_eq_take_append_cons_drop.trans (by rw[if_pos h]);have e2:=pB l j (by omega);rw[lI h]at e2;rw[e,mN,Kax,KbV (by omega),val,e2,Ka1,Ka1];omega
theorem DJ(l:List Nat)(x:Nat):val (l++[x])=val l+65536^l.length*x:=by rw[mN];simp[val]
theorem Wi{l:List Nat}{j:Nat}(h:val (l.drop j)=0):dg l j=0:=by have:=xc l j;omega
theorem agF{bt:Bool}{n d:Nat}:bO .rem bt (.int .u64 (n:Int)) (.int .u64 65536) d fr hp K=K (ae fr d (.int .u64 ((n%65536:Nat):Int))) hp:=by rw[show(65536:Int)=((65536:Nat):Int)from rfl,pH (by omega)]
theorem agG{bt:Bool}{n d:Nat}(h:n<18446744073709551616):bO .quo bt (.int .u64 (n:Int)) (.int .u64 65536) d fr hp K=K (ae fr d (.int .u64 ((n/65536:Nat):Int))) hp:=by rw[show(65536:Int)=((65536:Nat):Int)from rfl,Ab (by omega) h]
theorem ac6{bt:Bool}{n d:Nat}:bO .rem bt (.int .i64 (n:Int)) (.int .i64 65536) d fr hp K=K (ae fr d (.int .i64 ((n%65536:Nat):Int))) hp:=by rw[show(65536:Int)=((65536:Nat):Int)from rfl,pH (by omega)]
theorem ac7{bt:Bool}{n d:Nat}(h:n<9223372036854775808):bO .quo bt (.int .i64 (n:Int)) (.int .i64 65536) d fr hp K=K (ae fr d (.int .i64 ((n/65536:Nat):Int))) hp:=by rw[show(65536:Int)=((65536:Nat):Int)from rfl,DU (by omega) h]
theorem agH(n:Nat):(n:Int)*65536=((n*65536:Nat):Int):=by omega
end Go.FW
namespace Go.FW
theorem PR{P x y V ai c q r M S T:Nat}(h1:S+P*x=M+P*r)(h2:M+P*(c+ai*(y+65536*V))=T)(h3:65536*q+r=x+ai*y+c):S+P*65536*(q+ai*V)=T:=by
 have e:P*(65536*q+r)=P*(x+ai*y+c):=by rw[h3]
 have a1:P*(c+ai*(y+65536*V))=P*c+P*(ai*y)+65536*(P*(ai*V)):=by rw[Ka1 ai,Ka1,Ka1,Kbw ai 65536,Kbw P 65536];omega
 have a2:P*65536*(q+ai*V)=65536*(P*q)+65536*(P*(ai*V)):=by rw[KaQ P,Kba,Ka1,Ka1]
 have a3:P*(65536*q+r)=65536*(P*q)+P*r:=by rw[Ka1,Kbw]
 have a4:P*(x+ai*y+c)=P*x+P*(ai*y)+P*c:=by rw[Ka1,Ka1]
 omega
theorem PT{l:List Nat}{i j v:Nat}(h:i≠j):dg (l.set i v) j=dg l j:=by simp[dg,Kae,List.getElem?_set_ne h]
open Go
variable {C : Ctx} {ρ : Nat -> Option Nat} {fr : Fr} {hp : HP} {w : World} {K R : Qh}
theorem Pm{x V d q:Nat}(hd:0<d)(h:q=V/d):(V%d*65536+x)/d+65536*q=(x+65536*V)/d/\(V%d*65536+x)%d=(x+65536*V)%d:=by
 subst h;have e:x+65536*V=(V%d*65536+x)+d*(65536*(V/d)):=by
  have:=Kbl V d
  calc x+65536*V=x+65536*(d*(V/d)+V%d):=by rw[this]
   _=_:=by rw[Ka1,Kbw];omega
 rw[e,Kcn _ _ hd,Kcm];exact⟨rfl,rfl⟩
theorem ac8(i e:Nat)(hi:fr i= .aa):Wk fr hp (ae fr i (.sl e [])) hp:=by
 rintro C tmps w ⟨ρ,hs⟩;refine⟨ρ,hs.sz,hs.ext,hs.eG,hs.own,hs.inj,fun j=>?_⟩;unfold ae;split
 ·rename_i hj;subst hj;have:=hs.cH j;rw[hi]at this;rw[Qm.wN this];exact Qp.mE _ _ _ (KbR _)
 ·exact hs.cH j
theorem xp{sk:List It}{x:SC}(i e:Nat)(hi:fr i= .aa)(h:vc C R (.c (.loop x)::sk) (ae fr i (.sl e [])) hp):vc C R (.c (.loop x)::sk) fr hp:=by rw[wY]at h⊢;obtain⟨I,μ,⟨aJ,aw,h1,ie⟩,h2⟩:=h;exact⟨I,μ,⟨aJ,aw,(ac8 i e hi).trans h1,ie⟩,h2⟩
end Go.FW
namespace Go.FW
open Go Go.ChangeShapes Go.WideShapes
section
variable {H : Type} {enc : TypeId × Value -> H} {P : Program} {w : World} {base : Nat} {spare : Nat -> Bool} {held : Bool}
structure Ch(bZ:DataW H->Nat):Prop where
 len:∀(elems spare:List (DataW H)),elems.length<=bZ (.slice elems spare)
 sl:∀(elems spare:List (DataW H))(d:DataW H),d∈elems->bZ d<=bZ (.slice elems spare)
 ag:∀(parts:List (DataW H))(d:DataW H),d∈parts->bZ d<=bZ (.agg parts)
def iU(enc:TypeId×Value->H)(P:Program)(bZ:DataW H->Nat)(N:Nat)(t:TypeId)(Q:List PV->Prop):Prop:=
 ∀(w:World)(base:Nat)(spare:Nat->Bool)(held:Bool)(fuel:Nat)(cs:List Value)(x:DataW H×List MemPlace),DataW.trod enc P w base spare held fuel t cs=some x->bZ x.1<=N->
  ∃ps,Q ps/\ps.length=cs.length/\∀(i:Nat)(p:PV),ps[i]? =some p->Qp w cg p (cs.getD i undef)
variable {bZ : DataW H -> Nat} {N : Nat}
theorem zV{w:World}{p:PV}{v:Value}(h:Qp w cg p v):∀(i:Nat)(q:PV),[p][i]? =some q->Qp w cg q ([v].getD i undef):=by
 intro i q hq
 match i,hq with
 |0,hq=>simp at hq;subst hq;exact h
 |i+1,hq=>simp at hq
theorem iU.mono{t:TypeId}{Q Q':List PV->Prop}(h:iU enc P bZ N t Q)(hQ:∀ps,Q ps->Q' ps):iU enc P bZ N t Q':=
 fun w base spare held fuel cs x hx hn=>let⟨ps,h1,h2,h3⟩:=h w base spare held fuel cs x hx hn;⟨ps,hQ ps h1,h2,h3⟩
theorem PU{t:TypeId}{k:IntKind}(ht:P.underlying t=some (.int k)):iU enc P bZ N t fun ps=>∃n,ps=[.int k n]/\(Lit.int k n).wf=true:=by intro w base spare held fuel cs x hx _;obtain⟨n,rfl,rfl,hw⟩:=DataW.trod_int ht hx;exact⟨_,⟨n,rfl,hw⟩,rfl,zV (.int k n)⟩
theorem Wj{t:TypeId}(ht:P.underlying t=some .bool):iU enc P bZ N t fun ps=>∃b,ps=[.bool b]:=by intro w base spare held fuel cs x hx _;obtain⟨b,rfl,rfl⟩:=DataW.trod_bool ht hx;exact⟨_,⟨b,rfl⟩,rfl,zV (.bool b)⟩
theorem XS{t:TypeId}(ht:P.underlying t=some (.int .u16)):iU enc P bZ N t fun ps=>∃n:Nat,ps=[.int .u16 n]/\n<65536:=by refine(PU ht).mono ?_;rintro ps ⟨n,rfl,hw⟩;simp[Lit.wf,IntKind.min,IntKind.max,IntKind.signed,IntKind.bits]at hw;obtain⟨m,rfl⟩:=Int.eq_ofNat_of_zero_le hw.1;exact⟨m,rfl,by omega⟩
theorem zw{t:TypeId}(ht:P.underlying t=some (.int .i64)):iU enc P bZ N t fun ps=>∃n:Int,ps=[.int .i64 n]/\ -9223372036854775808<=n/\n<=9223372036854775807:=by refine(PU ht).mono ?_;rintro ps ⟨n,rfl,hw⟩;simp[Lit.wf,IntKind.min,IntKind.max,IntKind.signed,IntKind.bits]at hw;exact⟨n,rfl,by omega⟩
theorem wV{α:Type}[Inhabited α]{f:α->PV}{G:α->Prop}{t e:TypeId}(hB:Ch bZ)(ht:P.underlying t=some (.slice e))(rH:0<P.cellsOf e)
  (he:iU enc P bZ N e fun ps=>∃a:α,ps=(f a).cells/\G a):iU enc P bZ N t fun ps=>∃l:List α,ps=[.sl (P.cellsOf e) (l.map f)]/\l.length<=N/\∀a∈l,G a:=by
 intro w base spare held fuel cs x hx hn;rcases Deep.open_slice ht hx with⟨rfl,rfl⟩|⟨a,len,cap,m,n,D,Pl,rfl,_,hl,hm,uI,rfl,aW⟩
 ·exact⟨_,⟨[],rfl,KbR _,fun _ h=>by cases h⟩,rfl,zV (.mE _ none 0 (KbR _))⟩
 have JP:len<=m:=by rw[uI];split<;>omega
 obtain⟨A,hA⟩:=Deep.choose_lt (α:=α×List Value) (n:=len) (p:=fun i y=>w.cells? base (a.add (i*P.cellsOf e)) (P.cellsOf e)=some y.2/\G y.1/\(f y.1).cells.length=y.2.length/\∀(j:Nat)(p:PV),(f y.1).cells[j]? =some p->Qp w cg p (y.2.getD j undef)) (fun i hi=>by obtain⟨cs',h1,h2⟩:=aW i (by omega);have hd:D i∈(List.range len).map D:=Kcs (KcY.2 hi);obtain⟨_,⟨b,rfl,hG⟩,h3,h4⟩:=he w base spare held n cs' _ h2 (KaL (hB.sl _ _ _ hd) hn);exact⟨(b,cs'),h1,hG,h3,h4⟩);have hlen:=hB.len ((List.range len).map D) ((List.range (m-len)).map fun j=>D (len+j));simp only[Ka0,List.length_range]at hlen hn;refine⟨_,⟨(List.range len).map fun i=>(A i).1,rfl,by simp;omega,fun b hb=>?_⟩,rfl,zV ?_⟩
 ·obtain⟨i,hi,rfl⟩:=KaF.1 hb;exact(hA i (KcY.1 hi)).2.1
 ·rcases Nat.eq_zero_or_pos len with rfl|hp
  ·exact .mE _ _ _ hm
  have sp:a.spot=none:=by obtain⟨_,h2,h3⟩:=World.cells?_some (hA 0 hp).1;have h4:=h3 0 rH;rw[Kag (by omega)]at h4;simpa[Addr.add]using World.cell?_spot h4
  obtain⟨b,off,spot⟩:=a;have sp':spot=none:=sp;subst sp';have qh:∀i,i<len->∀j,j<P.cellsOf e->w.cell? ⟨b,off+i*P.cellsOf e+j,none⟩=some ((A i).2.getD j undef):=fun i hi j hj=>by obtain⟨_,h2,h3⟩:=World.cells?_some (hA i hi).1;have h4:=h3 j hj;rw[Kag (by omega),add_plain,add_plain]at h4;rw[h4];simp[Kae,Kag (show j<(A i).2.length by omega)]
  have e1:((List.range len).map fun i=>(A i).1).map f=(List.range len).map fun i=>f (A i).1:=by simp
  have e2:((List.range len).map fun i=>f (A i).1).length=len:=by simp
  have get:∀(i:Nat)(x:PV),((List.range len).map fun i=>f (A i).1)[i]? =some x->i<len/\x=f (A i).1:=fun i x hx=>by obtain⟨hi,h⟩:=Kaf.1 hx;rw[e2]at hi;exact⟨hi,by simpa using h.symm⟩
  rw[e1];have:=Qp.sl (w:=w) (X:=cg) (P.cellsOf e) ((List.range len).map fun i=>f (A i).1) b off cap (fun i j=>(A i).2.getD j undef) (fun h=>h) (Wh (qh 0 hp 0 rH)) (by rw[e2];exact hl) hm
   (fun i x hx=>by obtain⟨hi,rfl⟩:=get i x hx;rw[(hA i hi).2.2.1];exact(World.cells?_some (hA i hi).1).2.1)
   (fun i hi j hj=>qh i (by rwa[e2]at hi) j hj)
   (fun i x hx j y hy=>by obtain⟨hi,rfl⟩:=get i x hx;exact(hA i hi).2.2.2 j y hy)
  rwa[e2]at this
theorem GU{t:TypeId}{f0 f1:Field}{Q0 Q1:List PV->Prop}(hB:Ch bZ)(ht:P.underlying t=some (.struct #[f0,f1]))(h0:f0.offset=0)(h1:f1.offset=P.cellsOf f0.type)(hc:P.cellsOf t=P.cellsOf f0.type+P.cellsOf f1.type)
  (r0:iU enc P bZ N f0.type Q0) (r1:iU enc P bZ N f1.type Q1):iU enc P bZ N t fun ps=>∃p q,ps=p++q/\Q0 p/\Q1 q:=by
 intro w base spare held fuel cs x hx hn;obtain⟨y0,y1,n,rfl,hl,g0,g1⟩:=trod_struct2 ht hx;obtain⟨p,hp,bI,ot⟩:=r0 _ _ _ _ _ _ _ g0 (KaL (hB.ag _ _ (by simp)) hn);obtain⟨q,hq,ph,FD⟩:=r1 _ _ _ _ _ _ _ g1 (KaL (hB.ag _ _ (by simp)) hn);rw[h0]at bI ot;rw[h1]at ph FD;simp only[Kbx,Kax,Ka2]at bI ph;have lp:p.length=P.cellsOf f0.type:=by omega
 have lq:q.length=P.cellsOf f1.type:=by omega
 refine⟨_,⟨p,q,rfl,hp,hq⟩,by rw[Kaw];omega,fun i v hv=>?_⟩;by_cases hi:i<p.length
 ·rw[Kcl hi]at hv;have:=ot i v hv;rw[Kbx,Kae,Kcj,if_pos (by omega)]at this;rw[Kae];exact this
 ·rw[Kb0 (by omega)]at hv;have:=FD _ v hv;have nu:i-p.length<q.length:=(Kaf.1 hv).1;rw[Kae,Kcj,if_pos (by omega),Ka5,show P.cellsOf f0.type+(i-p.length)=i by omega]at this;rw[Kae];exact this
theorem Ms{r:Reach}{b0:Nat}{t:TypeId}{v:Value}{d:DataW H}{ps:List MemPlace}{Q:List PV->Prop}(hr:iU enc P bZ N t Q)(hd:DataW.Trod enc P w base spare held t v d ps)(hn:bZ d<=N)
  (hv:v.cells= #[v]):∃p,Q [p]/\Q6 w cg p v:=by
 obtain⟨fuel,hf⟩:=hd;obtain⟨qs,h1,h2,h3⟩:=hr _ _ _ _ _ _ _ hf hn;rw[hv]at h2 h3
 match qs,h2 with
 | [p],_=>exact⟨p,h1,Q6.qB (by simpa using h3 0 p rfl)⟩
theorem XT{r:Reach}{b0:Nat}{t e:TypeId}{v:Value}{d:DataW H}{ps:List MemPlace}{Q:List PV->Prop}(ht:P.underlying t=some (.slice e))(dH:Value.okWide P w r b0 t v)(hr:iU enc P bZ N t Q)(hd:DataW.Trod enc P w base spare held t v d ps)(hn:bZ d<=N):
  ∃p,Q [p]/\Q6 w cg p v:=by
 obtain⟨a,len,cap,rfl⟩:=okWide_slice ht dH;exact Ms (r:=r) (b0:=b0) hr hd hn rfl
theorem ac9{r:Reach}{b0:Nat}{t:TypeId}{k:IntKind}{v:Value}{d:DataW H}{ps:List MemPlace}{Q:List PV->Prop}(ht:P.underlying t=some (.int k))(dH:Value.okWide P w r b0 t v)(hr:iU enc P bZ N t Q)(hd:DataW.Trod enc P w base spare held t v d ps)(hn:bZ d<=N):
  ∃p,Q [p]/\Q6 w cg p v:=by
 obtain⟨n,rfl⟩:=okWide_int ht dH;exact Ms (r:=r) (b0:=b0) hr hd hn rfl
theorem Wl{r:Reach}{b0:Nat}{t:TypeId}{fs:Array Field}{v:Value}{d:DataW H}{ps:List MemPlace}{Q:List PV->Prop}(ht:P.underlying t=some (.struct fs))(dH:Value.okWide P w r b0 t v)(hr:iU enc P bZ N t Q)(hd:DataW.Trod enc P w base spare held t v d ps)(hn:bZ d<=N):
  ∃p,Q p/\Q6 w cg (.agg p) v:=by
 obtain⟨vs,rfl,_⟩:=okWide_struct ht dH;obtain⟨fuel,hf⟩:=hd;obtain⟨qs,h1,h2,h3⟩:=hr _ _ _ _ _ _ _ hf hn;refine⟨qs,h1,vs,rfl,by simpa[Value.cells]using h2.symm,fun i x hx=>?_⟩;have:=h3 i x hx;simpa[Value.cells,Kae,KaN]using this
theorem Ext.sameAt{W W':World}(h:Ext cg W W'){p:MemPlace}(hp:p.block<W.heap.size):W.sameAt W' p:=by
 cases p with
 |cell b off=>exact va (h.block b hp (fun h=>h))
 |map b=>exact h.block b hp (fun h=>h)
theorem Ext.keptBut{W W':World}(h:Ext cg W W')(may:MemPlace->Prop):W.keptBut W' may:=by
 refine⟨h.os,h.output,fun i hi=>?_⟩;rw[h.block i hi (fun h=>h)];cases hh:W.heap[i]? with
 |none=>rfl
 |some o=>cases o with
  |cells c t fr=>exact⟨rfl,rfl,rfl,fun _ _=>rfl⟩
  |map es clock=>exact Or.inr ⟨rfl,rfl⟩
  |_=>rfl
theorem Ext.frozen{W W':World}(h:Ext cg W W'){a:Addr}(ha:a.block<W.heap.size):W'.frozen? a=W.frozen? a:=by unfold World.frozen?;rw[h.block _ ha (fun h=>h)]
theorem PW(hl:laidOutB P=true)(hm:mapsRowed P=true)(eE:∀ {t e:TypeId},t<P.types.size->P.underlying t=some (.slice e)->0<P.cellsOf e){W W':World}(hx:Ext cg W W')(sp:Nat->Bool):
  ∀ {ts:List TypeId} {vs:List Value} {ds:List (DataW H)} {ps:List MemPlace},(∀t∈ts,t<P.types.size)->DataW.TrodAll enc P W 0 (fun _=>true) true ts vs ds ps->(∀p∈ps,sp p.block=true)->DataW.TrodAll enc P W' 0 sp true ts vs ds ps
 | [],_,_,_,_,h,_=>by obtain⟨rfl,rfl,rfl⟩:=trodAll_nil h;rfl
 |t::ts,_,_,_,lC,h,hs=>by obtain⟨v,vs,d,ds,p,q,rfl,rfl,rfl,⟨fuel,h1⟩,h2⟩:=trodAll_cons h;refine⟨p,q,⟨fuel,?_⟩,PW hl hm eE hx sp (fun t ht=>lC t (by simp[ht])) h2 (fun x aP=>hs x (by simp[aP])),rfl⟩;exact DataW.trod_stays (kids_rows hl hm) eE (fun h=>by cases h) (lC t (by simp)) h1 (fun x aP=>hx.sameAt (DataW.trod_lt _ _ _ _ h1 x aP)) (fun x aP=>hs x (by simp[aP]))
theorem UF{f:FuncId}{fn:Func}{s:ChangeSpec}{ap fresh handsOn xI:Bool}{W:World}{args:Array Value}{ds gs:List (DataW H)}{before:List MemPlace}{aQ:List PV}{tb:TypeId}
  (hW:DataW.Whole enc P fn.params.toList s.vars ap W args.toList ds gs before) (BC:s.vars=[]) (eY:fn.resultTypes= #[tb]) (Tu:P.underlying tb=some .bool)
  (hl:laidOutB P=true) (hm:mapsRowed P=true) (eE:∀ {t e:TypeId},t<P.types.size->P.underlying t=some (.slice e)->0<P.cellsOf e) (FB:∀t∈fn.params.toList,t<P.types.size)
  (uz:s.fn H (ds++gs)={ results:=[.lit (.bool true)],args:=ds })
  (hF:Qd P f aQ (· = .bool true)) (Kd:args.size=aQ.length) (fw:∀(i:Nat)(x:PV),aQ[i]? =some x->Q6 W cg x (args.getD i undef)):
  Calls P f args W fun e W'=>∃v,e= .returned v/\s.post enc P fn ap fresh handsOn xI W args v W':=by
 refine(hF.2 W cg args (fun _ h=>h.elim) Kd fw).mono ?_;rintro e W' ⟨v,r,rfl,hx,hr,rfl⟩;have hv:v= .bool true:=by cases hr;rfl
 subst hv;refine⟨_,rfl,?_⟩;have AY:=hW;obtain⟨p,q,hA,hV,rfl,hz,hn⟩:=hW;rw[BC]at hV;obtain⟨rfl,rfl⟩:=trodVars_none hV;simp only[Kas]at AY hz hn;have aq:∀x∈p,x.block<W.heap.size:=fun x aP=>by simpa using AY.lt x aP
 have RQ:∀sp:Nat->Bool,(∀x∈p,sp x.block=true)->DataW.TrodAll enc P W' 0 sp true fn.params.toList args.toList ds p:=fun sp hs=>PW hl hm eE hx sp FB hA hs;have hR:∀(b:Nat)(sp:Nat->Bool)(hd:Bool),DataW.TrodAll enc P W' b sp hd fn.resultTypes.toList ((Value.bool true).resultList fn.resultTypes.size) [.lit (.bool true)] []:=fun b sp hd=>by rw[eY];exact trodAll_mk1 ⟨1,by simp[DataW.trod,Value.cells,Tu]⟩
 have hold:∀x∈p,(fun b=>decide (b<W.heap.size)) x.block=true:=fun x aP=>by simpa using aq x aP
 refine⟨ds,[],p,[],p,[],AY,?_,?_,?_,hx.keptBut _,fun _=>⟨?_,?_⟩⟩
 ·rw[uz];exact hR _ _ _
 ·rw[uz];simpa using RQ _ hold
 ·rw[uz,BC];rfl
 ·exact RowKit.ok_one eY rfl (RowKit.okWide_bool_mk Tu _)
 ·refine⟨[.lit (.bool true)]++ds,[],p,⟨[]++p,[],trodAll_append (RQ _ (fun _ _=>rfl)) (hR _ _ _),?_,by simp,?_,?_⟩,?_⟩
  ·rw[BC];rfl
  ·intro b off hp;rw[hx.frozen (aq _ hp)];exact hz b off hp
  ·exact hn
  ·intro x aP _;exact aP
end
end Go.FW
namespace Go.FW
open Go
attribute [go_sem ↓] vcs apP
attribute [go_sem] apQ apR apS apT afX aa4 aa5 afY afZ af0 af1 aa6 aa7 ajk ajl WD aa8 adx ako akp akq akr XM WE List.drop_succ_cons List.drop_zero List.take_succ_cons List.take_zero List.headD_cons List.cons_append List.nil_append Zd am7 am6 aa9 ady adz and_true List.length_cons List.length_nil agl agm agn B0 adi Xm adp abB abC aa2 aa3 adq age agf abj ads adt aiF agh agi agj M5 agk aga bs1 bs2 agc adm adn ado agd Nat.add_zero NW Xn P7 Int.toNat_natCast Nat.zero_add Option.map_some Option.map_none aiI ags ajj true_and Na abr X8 Qz4 jG HF Dx adu Bool.and_true Bool.true_and Bool.and_false Bool.false_and decide_true decide_false List.contains_cons List.contains_nil Bool.or_false Bool.false_or Bool.or_true Bool.true_or List.any_cons List.any_nil Bool.false_eq_true ch.dst vf aaC se Dq adf Bool.not_true Bool.not_false List.length_map List.map_cons List.map_nil aiK Option.some.injEq gG List.getElem?_cons_zero List.getElem?_cons_succ Option.getD_some
attribute [go_sem] agF agG ac6 ac7 agH abO ajo VA agD Mq
theorem Dz0{p:Prop}(h:p:=by first|omega|rfl|(simp+decide only[go_sem]<;>rfl)|fail):p:=h
theorem Dz1{p A0:Prop}(x0:A0)(h:A0->p:=by intro x0;first|omega|rfl|(simp+decide only[go_sem,x0]<;>rfl)|fail):p:=h x0
theorem Dz2{p A0 A1:Prop}(x0:A0)(x1:A1)(h:A0->A1->p:=by intro x0 x1;first|omega|rfl|(simp+decide only[go_sem,x0,x1]<;>rfl)|fail):p:=h x0 x1
theorem Dz3{p A0 A1 A2:Prop}(x0:A0)(x1:A1)(x2:A2)(h:A0->A1->A2->p:=by intro x0 x1 x2;first|omega|rfl|(simp+decide only[go_sem,x0,x1,x2]<;>rfl)|fail):p:=h x0 x1 x2
theorem Dz4{p A0 A1 A2 A3:Prop}(x0:A0)(x1:A1)(x2:A2)(x3:A3)(h:A0->A1->A2->A3->p:=by intro x0 x1 x2 x3;first|omega|rfl|(simp+decide only[go_sem,x0,x1,x2,x3]<;>rfl)|fail):p:=h x0 x1 x2 x3
theorem Dz5{p A0 A1 A2 A3 A4:Prop}(x0:A0)(x1:A1)(x2:A2)(x3:A3)(x4:A4)(h:A0->A1->A2->A3->A4->p:=by intro x0 x1 x2 x3 x4;first|omega|rfl|(simp+decide only[go_sem,x0,x1,x2,x3,x4]<;>rfl)|fail):p:=h x0 x1 x2 x3 x4
theorem Dz6{p A0 A1 A2 A3 A4 A5:Prop}(x0:A0)(x1:A1)(x2:A2)(x3:A3)(x4:A4)(x5:A5)(h:A0->A1->A2->A3->A4->A5->p:=by intro x0 x1 x2 x3 x4 x5;first|omega|rfl|(simp+decide only[go_sem,x0,x1,x2,x3,x4,x5]<;>rfl)|fail):p:=h x0 x1 x2 x3 x4 x5
theorem Dz7{p A0 A1 A2 A3 A4 A5 A6:Prop}(x0:A0)(x1:A1)(x2:A2)(x3:A3)(x4:A4)(x5:A5)(x6:A6)(h:A0->A1->A2->A3->A4->A5->A6->p:=by intro x0 x1 x2 x3 x4 x5 x6;first|omega|rfl|(simp+decide only[go_sem,x0,x1,x2,x3,x4,x5,x6]<;>rfl)|fail):p:=h x0 x1 x2 x3 x4 x5 x6
theorem Dz8{p A0 A1 A2 A3 A4 A5 A6 A7:Prop}(x0:A0)(x1:A1)(x2:A2)(x3:A3)(x4:A4)(x5:A5)(x6:A6)(x7:A7)(h:A0->A1->A2->A3->A4->A5->A6->A7->p:=by intro x0 x1 x2 x3 x4 x5 x6 x7;first|omega|rfl|(simp+decide only[go_sem,x0,x1,x2,x3,x4,x5,x6,x7]<;>rfl)|fail):p:=h x0 x1 x2 x3 x4 x5 x6 x7
theorem Dz9{p A0 A1 A2 A3 A4 A5 A6 A7 A8:Prop}(x0:A0)(x1:A1)(x2:A2)(x3:A3)(x4:A4)(x5:A5)(x6:A6)(x7:A7)(x8:A8)(h:A0->A1->A2->A3->A4->A5->A6->A7->A8->p:=by intro x0 x1 x2 x3 x4 x5 x6 x7 x8;first|omega|rfl|(simp+decide only[go_sem,x0,x1,x2,x3,x4,x5,x6,x7,x8]<;>rfl)|fail):p:=h x0 x1 x2 x3 x4 x5 x6 x7 x8
theorem Dz10{p A0 A1 A2 A3 A4 A5 A6 A7 A8 A9:Prop}(x0:A0)(x1:A1)(x2:A2)(x3:A3)(x4:A4)(x5:A5)(x6:A6)(x7:A7)(x8:A8)(x9:A9)(h:A0->A1->A2->A3->A4->A5->A6->A7->A8->A9->p:=by intro x0 x1 x2 x3 x4 x5 x6 x7 x8 x9;first|omega|rfl|(simp+decide only[go_sem,x0,x1,x2,x3,x4,x5,x6,x7,x8,x9]<;>rfl)|fail):p:=h x0 x1 x2 x3 x4 x5 x6 x7 x8 x9
theorem Dz11{p A0 A1 A2 A3 A4 A5 A6 A7 A8 A9 eg:Prop}(x0:A0)(x1:A1)(x2:A2)(x3:A3)(x4:A4)(x5:A5)(x6:A6)(x7:A7)(x8:A8)(x9:A9)(ct:eg)(h:A0->A1->A2->A3->A4->A5->A6->A7->A8->A9->eg->p:=by intro x0 x1 x2 x3 x4 x5 x6 x7 x8 x9 ct;first|omega|rfl|(simp+decide only[go_sem,x0,x1,x2,x3,x4,x5,x6,x7,x8,x9,ct]<;>rfl)|fail):p:=h x0 x1 x2 x3 x4 x5 x6 x7 x8 x9 ct
theorem Dz12{p A0 A1 A2 A3 A4 A5 A6 A7 A8 A9 eg gA:Prop}(x0:A0)(x1:A1)(x2:A2)(x3:A3)(x4:A4)(x5:A5)(x6:A6)(x7:A7)(x8:A8)(x9:A9)(ct:eg)(dG:gA)(h:A0->A1->A2->A3->A4->A5->A6->A7->A8->A9->eg->gA->p:=by intro x0 x1 x2 x3 x4 x5 x6 x7 x8 x9 ct dG;first|omega|rfl|(simp+decide only[go_sem,x0,x1,x2,x3,x4,x5,x6,x7,x8,x9,ct,dG]<;>rfl)|fail):p:=h x0 x1 x2 x3 x4 x5 x6 x7 x8 x9 ct dG
theorem Dz13{p A0 A1 A2 A3 A4 A5 A6 A7 A8 A9 eg gA ki:Prop}(x0:A0)(x1:A1)(x2:A2)(x3:A3)(x4:A4)(x5:A5)(x6:A6)(x7:A7)(x8:A8)(x9:A9)(ct:eg)(dG:gA)(fy:ki)(h:A0->A1->A2->A3->A4->A5->A6->A7->A8->A9->eg->gA->ki->p:=by intro x0 x1 x2 x3 x4 x5 x6 x7 x8 x9 ct dG fy;first|omega|rfl|(simp+decide only[go_sem,x0,x1,x2,x3,x4,x5,x6,x7,x8,x9,ct,dG,fy]<;>rfl)|fail):p:=h x0 x1 x2 x3 x4 x5 x6 x7 x8 x9 ct dG fy
theorem Dz14{p A0 A1 A2 A3 A4 A5 A6 A7 A8 A9 eg gA ki tq:Prop}(x0:A0)(x1:A1)(x2:A2)(x3:A3)(x4:A4)(x5:A5)(x6:A6)(x7:A7)(x8:A8)(x9:A9)(ct:eg)(dG:gA)(fy:ki)(oF:tq)(h:A0->A1->A2->A3->A4->A5->A6->A7->A8->A9->eg->gA->ki->tq->p:=by intro x0 x1 x2 x3 x4 x5 x6 x7 x8 x9 ct dG fy oF;first|omega|rfl|(simp+decide only[go_sem,x0,x1,x2,x3,x4,x5,x6,x7,x8,x9,ct,dG,fy,oF]<;>rfl)|fail):p:=h x0 x1 x2 x3 x4 x5 x6 x7 x8 x9 ct dG fy oF
theorem Sz0{p q:Prop}(h:q)(e:p=q:=by conv=>lhs;simp+decide (disch:=try exact Dz0) only[go_sem]):p:=e▸h
theorem Tz0{p:Prop}(h:p:=by simp+decide (disch:=try exact Dz0) only[go_sem]):p:=h
theorem bf{p:Prop}(h:p:=by simp+decide (disch:=try exact Dz0) only[go_sem]<;>rfl):p:=h
theorem Sz1{p q A0:Prop}(x0:A0)(h:q)(e:A0->p=q:=by intro x0;conv=>lhs;simp+decide (disch:=try exact Dz1 @x0) only[go_sem,x0]):p:=(e x0)▸h
theorem Tz1{p A0:Prop}(x0:A0)(h:A0->p:=by intro x0;simp+decide (disch:=try exact Dz1 @x0) only[go_sem,x0]):p:=h x0
theorem lf{p A0:Prop}(x0:A0)(h:A0->p:=by intro x0;simp+decide (disch:=try exact Dz1 @x0) only[go_sem,x0]<;>rfl):p:=h x0
theorem Sz2{p q A0 A1:Prop}(x0:A0)(x1:A1)(h:q)(e:A0->A1->p=q:=by intro x0 x1;conv=>lhs;simp+decide (disch:=try exact Dz2 @x0 @x1) only[go_sem,x0,x1]):p:=(e x0 x1)▸h
theorem Tz2{p A0 A1:Prop}(x0:A0)(x1:A1)(h:A0->A1->p:=by intro x0 x1;simp+decide (disch:=try exact Dz2 @x0 @x1) only[go_sem,x0,x1]):p:=h x0 x1
theorem Sz3{p q A0 A1 A2:Prop}(x0:A0)(x1:A1)(x2:A2)(h:q)(e:A0->A1->A2->p=q:=by intro x0 x1 x2;conv=>lhs;simp+decide (disch:=try exact Dz3 @x0 @x1 @x2) only[go_sem,x0,x1,x2]):p:=(e x0 x1 x2)▸h
theorem Tz3{p A0 A1 A2:Prop}(x0:A0)(x1:A1)(x2:A2)(h:A0->A1->A2->p:=by intro x0 x1 x2;simp+decide (disch:=try exact Dz3 @x0 @x1 @x2) only[go_sem,x0,x1,x2]):p:=h x0 x1 x2
theorem Sz4{p q A0 A1 A2 A3:Prop}(x0:A0)(x1:A1)(x2:A2)(x3:A3)(h:q)(e:A0->A1->A2->A3->p=q:=by intro x0 x1 x2 x3;conv=>lhs;simp+decide (disch:=try exact Dz4 @x0 @x1 @x2 @x3) only[go_sem,x0,x1,x2,x3]):p:=(e x0 x1 x2 x3)▸h
theorem Tz4{p A0 A1 A2 A3:Prop}(x0:A0)(x1:A1)(x2:A2)(x3:A3)(h:A0->A1->A2->A3->p:=by intro x0 x1 x2 x3;simp+decide (disch:=try exact Dz4 @x0 @x1 @x2 @x3) only[go_sem,x0,x1,x2,x3]):p:=h x0 x1 x2 x3
theorem Sz5{p q A0 A1 A2 A3 A4:Prop}(x0:A0)(x1:A1)(x2:A2)(x3:A3)(x4:A4)(h:q)(e:A0->A1->A2->A3->A4->p=q:=by intro x0 x1 x2 x3 x4;conv=>lhs;simp+decide (disch:=try exact Dz5 @x0 @x1 @x2 @x3 @x4) only[go_sem,x0,x1,x2,x3,x4]):p:=(e x0 x1 x2 x3 x4)▸h
theorem Tz5{p A0 A1 A2 A3 A4:Prop}(x0:A0)(x1:A1)(x2:A2)(x3:A3)(x4:A4)(h:A0->A1->A2->A3->A4->p:=by intro x0 x1 x2 x3 x4;simp+decide (disch:=try exact Dz5 @x0 @x1 @x2 @x3 @x4) only[go_sem,x0,x1,x2,x3,x4]):p:=h x0 x1 x2 x3 x4
theorem Sz6{p q A0 A1 A2 A3 A4 A5:Prop}(x0:A0)(x1:A1)(x2:A2)(x3:A3)(x4:A4)(x5:A5)(h:q)(e:A0->A1->A2->A3->A4->A5->p=q:=by intro x0 x1 x2 x3 x4 x5;conv=>lhs;simp+decide (disch:=try exact Dz6 @x0 @x1 @x2 @x3 @x4 @x5) only[go_sem,x0,x1,x2,x3,x4,x5]):p:=(e x0 x1 x2 x3 x4 x5)▸h
theorem Sz7{p q A0 A1 A2 A3 A4 A5 A6:Prop}(x0:A0)(x1:A1)(x2:A2)(x3:A3)(x4:A4)(x5:A5)(x6:A6)(h:q)(e:A0->A1->A2->A3->A4->A5->A6->p=q:=by intro x0 x1 x2 x3 x4 x5 x6;conv=>lhs;simp+decide (disch:=try exact Dz7 @x0 @x1 @x2 @x3 @x4 @x5 @x6) only[go_sem,x0,x1,x2,x3,x4,x5,x6]):p:=(e x0 x1 x2 x3 x4 x5 x6)▸h
theorem Tz7{p A0 A1 A2 A3 A4 A5 A6:Prop}(x0:A0)(x1:A1)(x2:A2)(x3:A3)(x4:A4)(x5:A5)(x6:A6)(h:A0->A1->A2->A3->A4->A5->A6->p:=by intro x0 x1 x2 x3 x4 x5 x6;simp+decide (disch:=try exact Dz7 @x0 @x1 @x2 @x3 @x4 @x5 @x6) only[go_sem,x0,x1,x2,x3,x4,x5,x6]):p:=h x0 x1 x2 x3 x4 x5 x6
theorem Sz8{p q A0 A1 A2 A3 A4 A5 A6 A7:Prop}(x0:A0)(x1:A1)(x2:A2)(x3:A3)(x4:A4)(x5:A5)(x6:A6)(x7:A7)(h:q)(e:A0->A1->A2->A3->A4->A5->A6->A7->p=q:=by intro x0 x1 x2 x3 x4 x5 x6 x7;conv=>lhs;simp+decide (disch:=try exact Dz8 @x0 @x1 @x2 @x3 @x4 @x5 @x6 @x7) only[go_sem,x0,x1,x2,x3,x4,x5,x6,x7]):p:=(e x0 x1 x2 x3 x4 x5 x6 x7)▸h
theorem Sz9{p q A0 A1 A2 A3 A4 A5 A6 A7 A8:Prop}(x0:A0)(x1:A1)(x2:A2)(x3:A3)(x4:A4)(x5:A5)(x6:A6)(x7:A7)(x8:A8)(h:q)(e:A0->A1->A2->A3->A4->A5->A6->A7->A8->p=q:=by intro x0 x1 x2 x3 x4 x5 x6 x7 x8;conv=>lhs;simp+decide (disch:=try exact Dz9 @x0 @x1 @x2 @x3 @x4 @x5 @x6 @x7 @x8) only[go_sem,x0,x1,x2,x3,x4,x5,x6,x7,x8]):p:=(e x0 x1 x2 x3 x4 x5 x6 x7 x8)▸h
theorem y4{p q A0 A1 A2 A3 A4 A5 A6 A7 A8 A9:Prop}(x0:A0)(x1:A1)(x2:A2)(x3:A3)(x4:A4)(x5:A5)(x6:A6)(x7:A7)(x8:A8)(x9:A9)(h:q)(e:A0->A1->A2->A3->A4->A5->A6->A7->A8->A9->p=q:=by intro x0 x1 x2 x3 x4 x5 x6 x7 x8 x9;conv=>lhs;simp+decide (disch:=try exact Dz10 @x0 @x1 @x2 @x3 @x4 @x5 @x6 @x7 @x8 @x9) only[go_sem,x0,x1,x2,x3,x4,x5,x6,x7,x8,x9]):p:=(e x0 x1 x2 x3 x4 x5 x6 x7 x8 x9)▸h
theorem Tz10{p A0 A1 A2 A3 A4 A5 A6 A7 A8 A9:Prop}(x0:A0)(x1:A1)(x2:A2)(x3:A3)(x4:A4)(x5:A5)(x6:A6)(x7:A7)(x8:A8)(x9:A9)(h:A0->A1->A2->A3->A4->A5->A6->A7->A8->A9->p:=by intro x0 x1 x2 x3 x4 x5 x6 x7 x8 x9;simp+decide (disch:=try exact Dz10 @x0 @x1 @x2 @x3 @x4 @x5 @x6 @x7 @x8 @x9) only[go_sem,x0,x1,x2,x3,x4,x5,x6,x7,x8,x9]):p:=h x0 x1 x2 x3 x4 x5 x6 x7 x8 x9
theorem Ci{p q A0 A1 A2 A3 A4 A5 A6 A7 A8 A9 eg:Prop}(x0:A0)(x1:A1)(x2:A2)(x3:A3)(x4:A4)(x5:A5)(x6:A6)(x7:A7)(x8:A8)(x9:A9)(ct:eg)(h:q)(e:A0->A1->A2->A3->A4->A5->A6->A7->A8->A9->eg->p=q:=by intro x0 x1 x2 x3 x4 x5 x6 x7 x8 x9 ct;conv=>lhs;simp+decide (disch:=try exact Dz11 @x0 @x1 @x2 @x3 @x4 @x5 @x6 @x7 @x8 @x9 @ct) only[go_sem,x0,x1,x2,x3,x4,x5,x6,x7,x8,x9,ct]):p:=(e x0 x1 x2 x3 x4 x5 x6 x7 x8 x9 ct)▸h
theorem Tz11{p A0 A1 A2 A3 A4 A5 A6 A7 A8 A9 eg:Prop}(x0:A0)(x1:A1)(x2:A2)(x3:A3)(x4:A4)(x5:A5)(x6:A6)(x7:A7)(x8:A8)(x9:A9)(ct:eg)(h:A0->A1->A2->A3->A4->A5->A6->A7->A8->A9->eg->p:=by intro x0 x1 x2 x3 x4 x5 x6 x7 x8 x9 ct;simp+decide (disch:=try exact Dz11 @x0 @x1 @x2 @x3 @x4 @x5 @x6 @x7 @x8 @x9 @ct) only[go_sem,x0,x1,x2,x3,x4,x5,x6,x7,x8,x9,ct]):p:=h x0 x1 x2 x3 x4 x5 x6 x7 x8 x9 ct
theorem vF{p q A0 A1 A2 A3 A4 A5 A6 A7 A8 A9 eg gA:Prop}(x0:A0)(x1:A1)(x2:A2)(x3:A3)(x4:A4)(x5:A5)(x6:A6)(x7:A7)(x8:A8)(x9:A9)(ct:eg)(dG:gA)(h:q)(e:A0->A1->A2->A3->A4->A5->A6->A7->A8->A9->eg->gA->p=q:=by intro x0 x1 x2 x3 x4 x5 x6 x7 x8 x9 ct dG;conv=>lhs;simp+decide (disch:=try exact Dz12 @x0 @x1 @x2 @x3 @x4 @x5 @x6 @x7 @x8 @x9 @ct @dG) only[go_sem,x0,x1,x2,x3,x4,x5,x6,x7,x8,x9,ct,dG]):p:=(e x0 x1 x2 x3 x4 x5 x6 x7 x8 x9 ct dG)▸h
theorem Sz13{p q A0 A1 A2 A3 A4 A5 A6 A7 A8 A9 eg gA ki:Prop}(x0:A0)(x1:A1)(x2:A2)(x3:A3)(x4:A4)(x5:A5)(x6:A6)(x7:A7)(x8:A8)(x9:A9)(ct:eg)(dG:gA)(fy:ki)(h:q)(e:A0->A1->A2->A3->A4->A5->A6->A7->A8->A9->eg->gA->ki->p=q:=by intro x0 x1 x2 x3 x4 x5 x6 x7 x8 x9 ct dG fy;conv=>lhs;simp+decide (disch:=try exact Dz13 @x0 @x1 @x2 @x3 @x4 @x5 @x6 @x7 @x8 @x9 @ct @dG @fy) only[go_sem,x0,x1,x2,x3,x4,x5,x6,x7,x8,x9,ct,dG,fy]):p:=(e x0 x1 x2 x3 x4 x5 x6 x7 x8 x9 ct dG fy)▸h
theorem Tz13{p A0 A1 A2 A3 A4 A5 A6 A7 A8 A9 eg gA ki:Prop}(x0:A0)(x1:A1)(x2:A2)(x3:A3)(x4:A4)(x5:A5)(x6:A6)(x7:A7)(x8:A8)(x9:A9)(ct:eg)(dG:gA)(fy:ki)(h:A0->A1->A2->A3->A4->A5->A6->A7->A8->A9->eg->gA->ki->p:=by intro x0 x1 x2 x3 x4 x5 x6 x7 x8 x9 ct dG fy;simp+decide (disch:=try exact Dz13 @x0 @x1 @x2 @x3 @x4 @x5 @x6 @x7 @x8 @x9 @ct @dG @fy) only[go_sem,x0,x1,x2,x3,x4,x5,x6,x7,x8,x9,ct,dG,fy]):p:=h x0 x1 x2 x3 x4 x5 x6 x7 x8 x9 ct dG fy
theorem Sz14{p q A0 A1 A2 A3 A4 A5 A6 A7 A8 A9 eg gA ki tq:Prop}(x0:A0)(x1:A1)(x2:A2)(x3:A3)(x4:A4)(x5:A5)(x6:A6)(x7:A7)(x8:A8)(x9:A9)(ct:eg)(dG:gA)(fy:ki)(oF:tq)(h:q)(e:A0->A1->A2->A3->A4->A5->A6->A7->A8->A9->eg->gA->ki->tq->p=q:=by intro x0 x1 x2 x3 x4 x5 x6 x7 x8 x9 ct dG fy oF;conv=>lhs;simp+decide (disch:=try exact Dz14 @x0 @x1 @x2 @x3 @x4 @x5 @x6 @x7 @x8 @x9 @ct @dG @fy @oF) only[go_sem,x0,x1,x2,x3,x4,x5,x6,x7,x8,x9,ct,dG,fy,oF]):p:=(e x0 x1 x2 x3 x4 x5 x6 x7 x8 x9 ct dG fy oF)▸h
theorem Tz14{p A0 A1 A2 A3 A4 A5 A6 A7 A8 A9 eg gA ki tq:Prop}(x0:A0)(x1:A1)(x2:A2)(x3:A3)(x4:A4)(x5:A5)(x6:A6)(x7:A7)(x8:A8)(x9:A9)(ct:eg)(dG:gA)(fy:ki)(oF:tq)(h:A0->A1->A2->A3->A4->A5->A6->A7->A8->A9->eg->gA->ki->tq->p:=by intro x0 x1 x2 x3 x4 x5 x6 x7 x8 x9 ct dG fy oF;simp+decide (disch:=try exact Dz14 @x0 @x1 @x2 @x3 @x4 @x5 @x6 @x7 @x8 @x9 @ct @dG @fy @oF) only[go_sem,x0,x1,x2,x3,x4,x5,x6,x7,x8,x9,ct,dG,fy,oF]):p:=h x0 x1 x2 x3 x4 x5 x6 x7 x8 x9 ct dG fy oF
theorem Ez0{p:Prop}(h:p:=by first|omega|rfl|(simp+decide only[go_sem,iB,KaP,KaY,KaR,KaV,Kas]<;>rfl)|fail):p:=h
theorem Ez1{p A0:Prop}(x0:A0)(h:A0->p:=by intro x0;first|omega|rfl|(simp+decide only[go_sem,iB,KaP,KaY,KaR,KaV,Kas,x0]<;>rfl)|fail):p:=h x0
theorem Ez2{p A0 A1:Prop}(x0:A0)(x1:A1)(h:A0->A1->p:=by intro x0 x1;first|omega|rfl|(simp+decide only[go_sem,iB,KaP,KaY,KaR,KaV,Kas,x0,x1]<;>rfl)|fail):p:=h x0 x1
theorem Ez3{p A0 A1 A2:Prop}(x0:A0)(x1:A1)(x2:A2)(h:A0->A1->A2->p:=by intro x0 x1 x2;first|omega|rfl|(simp+decide only[go_sem,iB,KaP,KaY,KaR,KaV,Kas,x0,x1,x2]<;>rfl)|fail):p:=h x0 x1 x2
theorem Ez4{p A0 A1 A2 A3:Prop}(x0:A0)(x1:A1)(x2:A2)(x3:A3)(h:A0->A1->A2->A3->p:=by intro x0 x1 x2 x3;first|omega|rfl|(simp+decide only[go_sem,iB,KaP,KaY,KaR,KaV,Kas,x0,x1,x2,x3]<;>rfl)|fail):p:=h x0 x1 x2 x3
theorem bo{p q:Prop}(h:q)(e:p=q:=by conv=>lhs;simp+decide (disch:=try exact Ez0) only[go_sem,iB,KaP,KaY,KaR,KaV,Kas]):p:=e▸h
theorem gJ{p:Prop}(h:p:=by simp+decide (disch:=try exact Ez0) only[go_sem,iB,KaP,KaY,KaR,KaV,Kas]):p:=h
theorem Rj{p q A0:Prop}(x0:A0)(h:q)(e:A0->p=q:=by intro x0;conv=>lhs;simp+decide (disch:=try exact Ez1 @x0) only[go_sem,iB,KaP,KaY,KaR,KaV,Kas,x0]):p:=(e x0)▸h
theorem xY{p q A0 A1:Prop}(x0:A0)(x1:A1)(h:q)(e:A0->A1->p=q:=by intro x0 x1;conv=>lhs;simp+decide (disch:=try exact Ez2 @x0 @x1) only[go_sem,iB,KaP,KaY,KaR,KaV,Kas,x0,x1]):p:=(e x0 x1)▸h
theorem EG{p q A0 A1 A2:Prop}(x0:A0)(x1:A1)(x2:A2)(h:q)(e:A0->A1->A2->p=q:=by intro x0 x1 x2;conv=>lhs;simp+decide (disch:=try exact Ez3 @x0 @x1 @x2) only[go_sem,iB,KaP,KaY,KaR,KaV,Kas,x0,x1,x2]):p:=(e x0 x1 x2)▸h
theorem Vz4{p q A0 A1 A2 A3:Prop}(x0:A0)(x1:A1)(x2:A2)(x3:A3)(h:q)(e:A0->A1->A2->A3->p=q:=by intro x0 x1 x2 x3;conv=>lhs;simp+decide (disch:=try exact Ez4 @x0 @x1 @x2 @x3) only[go_sem,iB,KaP,KaY,KaR,KaV,Kas,x0,x1,x2,x3]):p:=(e x0 x1 x2 x3)▸h
variable {C : Ctx} {fr : Fr} {hp : HP} {R : Qh}
end Go.FW
namespace Go.FW
open Go
variable {C : Ctx} {ρ : Nat -> Option Nat} {fr aA : Fr} {hp : HP} {w : World} {K R : Qh}
theorem cz.known{p:PV}{v:Value}(h:cz C ρ hp w p v):∀γ∈p.dh,hp γ≠none:=by
 intro γ ah;cases p with
 |au β o n=>simp[PV.dh]at ah;subst ah;obtain⟨_,hb,h1,_⟩:=h;simp[h1]
 |aH β o n=>simp[PV.dh]at ah;subst ah;obtain⟨_,hb,b,cap,h1,_⟩:=h;simp[h1]
 |np β o n=>cases h
 |_=>cases ah
theorem cI.known{p:PV}{v:Value}(h:cI C ρ hp w p v):(∀γ∈p.bw,hp γ≠none)/\∀γ∈p.dU,hp γ≠none:=by
 cases p with
 |mp β i o=>obtain⟨b,hb,h1,h2,_⟩:=h;simp[PV.bw,PV.dU,h2]
 |au β o n=>obtain⟨hb,h1,_⟩:=h;simp[PV.bw,PV.dU,h1]
 |rb β o n=>obtain⟨b,u,_,_,_,_,hb,h1,_⟩:=h;simp[PV.bw,PV.dU,h1]
 |np γ i o=>obtain⟨_,b,hb,h1,h2,_⟩:=h;simp[PV.bw,PV.dU,h2]
 |aH γ o n=>obtain⟨_,hb,b,cap,h1,_⟩:=h;simp[PV.bw,PV.dU,h1]
 |_=>exact⟨(fun γ ah=>by cases ah),(fun γ ah=>by cases ah)⟩
theorem Qm.known{p:PV}{v:Value}(h:Qm C ρ hp w p v):(∀γ∈p.refs,hp γ≠none)/\∀γ∈p.aN,hp γ≠none:=by
 cases p with
 |mp β i o=>obtain⟨b,hb,h1,h2,_⟩:=h;simp[PV.refs,PV.aN,h2]
 |au β o n=>obtain⟨hb,h1,_⟩:=h;simp[PV.refs,PV.aN,h1]
 |rb β o n=>obtain⟨b,u,_,_,_,_,hb,h1,_⟩:=h;simp[PV.refs,PV.aN,h1]
 |np γ i o=>obtain⟨_,b,hb,h1,h2,_⟩:=h;simp[PV.refs,PV.aN,h2]
 |aH γ o n=>obtain⟨_,hb,b,cap,h1,_⟩:=h;simp[PV.refs,PV.aN,h1]
 |aK cs=>obtain⟨vs,_,_,h2⟩:=h;refine⟨fun γ ah=>(by cases ah),fun γ ah=>?_⟩;obtain⟨x,hx,ah⟩:=Kap.1 ah;obtain⟨i,hi⟩:=KaB hx;exact(h2 i x hi).known γ ah
 |dV cs=>obtain⟨vs,_,_,h2⟩:=h;refine⟨fun γ ah=>(by cases ah),fun γ ah=>?_⟩;obtain⟨x,hx,ah⟩:=Kap.1 ah;obtain⟨i,hi⟩:=KaB hx;exact(h2 i x hi).known γ ah
 |cO cs q=>obtain⟨vs,u,_,_,h2,_⟩:=h;refine⟨fun γ ah=>(by cases ah),fun γ ah=>?_⟩;obtain⟨x,hx,ah⟩:=Kap.1 ah;obtain⟨i,hi⟩:=KaB hx;exact(h2 i x hi).known γ ah
 | aF β e ty xs=>
  obtain⟨_,_,b,hb,cur,cap,_,g2,_,_,_,_,_,_,_,_,cj⟩:=h;refine⟨fun γ ah=>(by cases ah),fun γ ah=>?_⟩;rcases KaC.1 ah with rfl|ah
  ·simp[g2]
  ·obtain⟨x,hx,ah⟩:=Kap.1 ah;obtain⟨y,hy,ah⟩:=Kap.1 ah;obtain⟨i,hi⟩:=KaB hx;obtain⟨j,hj⟩:=KaB hy;exact(cj i x hi j y hj).known γ ah
 | fn f first cap=>
  obtain⟨fv,cv,_,_,_,h3,h4⟩:=h;have g:∀(l:List PV)(u:Array Value),(∀(i:Nat)(x:PV),l[i]? =some x->cI C ρ hp w x (u.getD i undef))->(∀γ∈l.flatMap PV.bw,hp γ≠none)/\∀γ∈l.flatMap PV.dU,hp γ≠none:=by
   intro l u hl;refine⟨fun γ ah=>?_,fun γ ah=>?_⟩<;>
   ·obtain⟨x,hx,ah⟩:=Kap.1 ah;obtain⟨i,hi⟩:=KaB hx
    first|exact(hl i x hi).known.1 γ ah|exact(hl i x hi).known.2 γ ah
  refine⟨fun γ ah=>?_,fun γ ah=>?_⟩
  ·rcases KaM.1 ah with ah|ah
   ·exact(g first fv h3).1 γ ah
   ·exact(g cap cv h4).1 γ ah
  ·rcases KaM.1 ah with ah|ah
   ·exact(g first fv h3).2 γ ah
   ·exact(g cap cv h4).2 γ ah
 |_=>exact⟨(fun γ ah=>by cases ah),(fun γ ah=>by cases ah)⟩
def j1(β:Nat):Bool:=decide (2000000<=β)
def lF(β:Nat):Bool:=j1 β||decide (β<1000000)
theorem ajp{β:Nat}(h:lF β=false):j1 β=false:=by simp[lF]at h;exact h.1
def jP:PV->PV
 |.aF _ _ _ _| .aK _| .dV _| .cO _ _=>.undef
 |p=>if p.refs.any j1||p.aN.any lF then .undef else p
def vG(F:Fr):Fr:=fun s=>jP (F s)
def tt(p:PV):Prop:=(∀β∈p.refs,j1 β=false)/\(∀β∈p.aN,lF β=false)/\(∀γ e ty xs,p≠ .aF γ e ty xs)/\∀cs,p≠ .aK cs/\p≠ .dV cs/\∀q,p≠ .cO cs q
theorem abR(p:PV):tt (jP p):=by
 have h0:tt .undef:=⟨(fun β h=>by cases h),(fun β h=>by cases h),(fun _ _ _ _ h=>by cases h),(fun _=>⟨(fun h=>by cases h),(fun h=>by cases h),fun _ h=>by cases h⟩)⟩
 unfold jP;split
 ·exact h0
 ·exact h0
 ·exact h0
 ·exact h0
 ·rename_i hn s8 hn3 JT;split
  ·exact h0
  ·rename_i h;simp only[KbC,not_or,Bool.not_eq_true,KcG]at h;exact⟨fun β aj=>by simpa using h.1 β aj,fun β aj=>by simpa using h.2 β aj,fun γ e ty xs=>hn γ e ty xs,fun cs=>⟨s8 cs,hn3 cs,JT cs⟩⟩
theorem tt.kill{p:PV}(h:tt p){B:List Nat}:tt (if p.refs.any B.contains then .undef else p):=by
 split
 ·exact⟨(fun β h=>by cases h),(fun β h=>by cases h),(fun _ _ _ _ h=>by cases h),(fun _=>⟨(fun h=>by cases h),(fun h=>by cases h),fun _ h=>by cases h⟩)⟩
 ·exact h
theorem QF{β:Nat}{p:PV}(h:∀γ∈p.refs,γ≠β):bx β p=p:=by unfold bx;rw[if_neg];intro hc;exact h β (by simpa using hc) rfl
theorem HJ{β:Nat}{p:PV}(h:∀γ∈p.dh,γ≠β):gX β p=p:=by
 cases p with
 |au γ o n=>simp only[gX];rw[if_neg (h γ (by simp[PV.dh]))]
 |aH γ o n=>simp only[gX];rw[if_neg (h γ (by simp[PV.dh]))]
 |_=>rfl
theorem XU{β:Nat}{p:PV}(h:∀γ∈p.refs,γ≠β)(h2:∀γ∈p.aN,γ≠β)(h3:∀γ e ty xs,p≠ .aF γ e ty xs):cR β p=p:=by
 cases p with
 |aF γ e ty xs=>exact absurd rfl (h3 _ _ _ _)
 |aK cs=>
  simp only[cR];congr 1;conv=>rhs;rw[<-List.map_id cs]
  exact Ka6 fun x hx=>HJ fun γ ah=>h2 γ (Kap.2 ⟨x,hx,ah⟩)
 |dV cs=>
  simp only[cR];congr 1;conv=>rhs;rw[<-List.map_id cs]
  exact Ka6 fun x hx=>HJ fun γ ah=>h2 γ (Kap.2 ⟨x,hx,ah⟩)
 |cO cs q=>
  simp only[cR];congr 1;conv=>rhs;rw[<-List.map_id cs]
  exact Ka6 fun x hx=>HJ fun γ ah=>h2 γ (Kap.2 ⟨x,hx,ah⟩)
 |aH γ o n=>simp only[cR];rw[if_neg (h2 γ (by simp[PV.aN]))]
 |np γ i o=>simp only[cR];rw[if_neg (h2 γ (by simp[PV.aN]))]
 |fn f first cap=>simp only[cR];rw[if_neg,QF h];intro hc;exact h2 β (by simpa[PV.aN]using hc) rfl
 |_=>exact QF h
theorem Nc{β γ:Nat}(h:2000000<=β)(h2:j1 γ=false):γ≠β:=by simp[j1]at h2;omega
abbrev eK(B:List Nat)(F:Fr):Fr:=Qy B (vG F)
theorem Ad(B:List Nat)(F:Fr)(s:Nat):tt (eK B F s):=(abR (F s)).kill
theorem QG{β:Nat}{B:List Nat}{F:Fr}(h:2000000<=β):e9 β (eK B F)=eK B F:=by funext s;have hc:=Ad B F s;exact XU (fun γ ah=>Nc h (hc.1 γ ah)) (fun γ ah=>Nc h (ajp (hc.2.1 γ ah))) hc.2.2.1
theorem QH{γ:Nat}{B:List Nat}{F:Fr}:iE γ (eK B F)=eK B F:=by
 funext s;have hc:=Ad B F s;show iQ γ (eK B F s)=_;generalize eK B F s=p at *
 cases p with
 |aF ba e ty xs=>exact absurd rfl (hc.2.2.1 _ _ _ _)
 |_=>rfl
theorem ZB{W:List (Nat×Nat)}{β:Nat}{J F:Fr}:e9 β (bg W J F)=bg W (e9 β J) (e9 β F):=by funext s;unfold e9 bg;split<;>rfl
theorem ZC{W:List (Nat×Nat)}{β:Nat}{J F:Fr}:iE β (bg W J F)=bg W (iE β J) (iE β F):=by funext s;unfold iE bg;split<;>rfl
theorem ZD{β d:Nat}{F:Fr}{v:PV}:e9 β (ae F d v)=ae (e9 β F) d (cR β v):=by funext s;unfold e9 ae;split<;>rfl
theorem ZE{β d:Nat}{F:Fr}{v:PV}:iE β (ae F d v)=ae (iE β F) d (iQ β v):=by funext s;unfold iE ae;split<;>rfl
theorem abS{β:Nat}{F:Fr}{s:Nat}:e9 β F s=cR β (F s):=rfl
theorem abT{β:Nat}{F:Fr}{s:Nat}:iE β F s=iQ β (F s):=rfl
theorem adL(W:List (Nat×Nat))(B:List Nat):bU fr (bg W fr (eK B fr)):=fun s=>by
 unfold bg eK Qy;split
 ·exact .inl rfl
 ·split
  ·exact .inr rfl
  ·unfold vG jP;split
   ·exact .inr rfl
   ·exact .inr rfl
   ·exact .inr rfl
   ·exact .inr rfl
   ·split
    ·exact .inr rfl
    ·exact .inl rfl
theorem DK{sk:List It}{x:SC}(aO:eJ R sk)(W:List (Nat×Nat))(B:List Nat)(I:Nat->Fr->HP->Prop)(m0:Nat)(h0:I m0 fr hp)
  (h:∀m J hp,I m J hp->vc C R (.c x:: .el (vw W (eK B fr) I m)::sk) (bg W J (eK B fr)) hp):vc C R (.c (.loop x)::sk) fr hp:=by
 refine zD (fun m aA hp'=>∃J,aA=bg W J (eK B fr)/\I m J hp') m0 (adL W B).wk ⟨fr,rfl,h0⟩ ?_;rintro m _ hp' ⟨J,rfl,hI⟩;refine sw aO.1 _ _ _ _ _ _ (Kad _) (.c x (.el ?_ aO.2)) (bU.refl _) (h m J hp' hI);rintro f f' bI hf ⟨J2,ot,m2,e2,hl,h2⟩;exact HT hl (hf.wk.trans e2) ⟨J2,rfl,h2⟩
def jJ(l:List (Nat×Nat)):List PV:=l.map fun x=>.au x.1 0 x.2
def ajq(d:Nat)(S:List Nat)(γ n:Nat)(x:PV)(fr:Fr):Fr:=fun s=>if s=γ then x else if S.contains s then .aH γ 0 n else bx d (fr s)
theorem UG{tmps:Array Value}(h:Qr C ρ fr hp tmps w){β b:Nat}{hb:HB}{l:List Nat}(hB:aM β=false)(aj:hp β=some hb)(hl:β∈l)(bl:ρ β=some b):¬aE C ρ (Qx hp l) b:=by
 have aU:=(h.own β hb aj).cD;rw[bl]at aU;rintro(hx|⟨γ,hg,h1,h2,h3⟩)
 ·exact Ctx.EJ aU.1 (xA hB) hx
 ·obtain⟨iL,g1,_,_,_,_,g6⟩:=zf h1;have:=h.inj γ β b (by simp[g1]) (by simp[aj]) h3 bl;subst this;exact g6 h2 hl
theorem eh.snap{tmps:Array Value}(h:Qr C ρ fr hp tmps w){β o n:Nat}{v:Value}{l:List Nat}{hb:HB}(hr:eh ρ hp w β o n v)(hB:aM β=false)(hl:β∈l)(aj:hp β=some hb):Qp w (aE C ρ (Qx hp l)) (.sl hb.e ((hb.xs.drop o).take n)) v:=by
 obtain⟨ax,g1,g2,g3⟩:=hr;rw[aj]at g1;cases g1;rcases g3 with⟨g3,rfl,rfl,rfl⟩|⟨b,cap,g3,rfl,g5,g6⟩
 ·simp only[Kcc];exact .mE _ _ _ (KbR _)
 ·have bj:=h.own β hb aj;have aU:=bj.cD;rw[g3]at aU;obtain⟨_,aq,cur,et,c1,c2,c3,c4,c5⟩:=aU;obtain⟨cur',ty',d1,d2⟩:=g5;rw[c1]at d1;cases d1;have fU:o+cap=et:=by rw[c2]at d2;exact(KbA bj.jV d2).symm
  subst fU;have hlen:((hb.xs.drop o).take n).length=n:=by simp;omega
  have ew:∀(i:Nat)(x:PV),((hb.xs.drop o).take n)[i]? =some x->i<n/\hb.xs[o+i]? =some x:=fun i x hx=>by
   have hi:i<n:=by have:=(Kaf.1 hx).1;omega
   rw[KaH hi,Ka5]at hx;exact⟨hi,hx⟩
  have:=Qp.sl (w:=w) (X:=aE C ρ (Qx hp l)) hb.e ((hb.xs.drop o).take n) b (o*hb.e) cap (fun i j=>cur.getD ((o+i)*hb.e+j) undef) (UG h hB aj hl g3) aq (by omega) (by omega)
   (fun i x hx=>(bj.len _ x (ew i x hx).2).1)
   (fun i hi j hj=>by rw[hlen]at hi;have:=mR (i:=o+i) (e:=hb.e) (o:=0) (j:=j) (n:=hb.e) (cap:=o+cap) (by omega) (by omega) hj;rw[KaO]at this;rw[show o*hb.e+i*hb.e+j=(o+i)*hb.e+j by rw[KaG]];exact kR c1 (by rw[c2];exact this))
   (fun i x hx j y hy=>(c5 _ x (ew i x hx).2 j y hy).freeze)
  rwa[hlen]at this
def sN(R:Qh):Qh:=fun fr hp=>∃aA hp',Wk fr hp aA hp'/\R aA hp'
theorem Ea{hp':HP}(hw:Wk fr hp aA hp')(h:R aA hp'):sN R fr hp:=⟨aA,hp',hw,h⟩
theorem kS(h:R fr hp):sN R fr hp:=⟨fr,hp,Wk.refl _ _,h⟩
theorem adM:KM (sN R) (sN R):=by rintro f f' hp hf ⟨aA,hp',h1,h2⟩;exact⟨aA,hp',hf.wk.trans h1,h2⟩
theorem Dg:eJ (sN R) []:=⟨adM,.nil⟩
theorem adN{d γ m i:Nat}{k:IntKind}(h:i<m)(he:(hp γ).map (·.e)=some 1):Q7 1 (.aH γ 0 m) (.int k (i:Int)) d fr hp K=K (ae fr d (.np γ i 0)) hp:=by
 have e:(0:Int)<=(i:Int):=by omega
 simp[Q7,e,h,he]
theorem adO{d γ o m:Nat}:oU (.aH γ o m) d fr hp K=K (ae fr d (.int .i64 m)) hp:=rfl
theorem adP{e by_ ty ty' d β γ n:Nat}{xs:List PV}{y:PV}{fz:Bool}(hb:hp β=some ⟨e,ty,xs,false⟩)(hy:hp γ=some ⟨e,ty',[y],fz⟩)(h0:0<e)(hn:n=xs.length)(h1:(n+1)*by_<=140737488355328)(h2:n+1<=9223372036854775807)(hB:2000000<=β):
  iF e by_ ty (.ms β n) (.ms γ 1) d fr hp K=K (ae (e9 β fr) d (.ms β (n+1))) (Ql hp β ⟨e,ty,xs++[y],false⟩):=by
 subst hn;have b1:bB β=true:=by simp[bB];omega
 have b2:aM β=false:=by simp[aM];omega
 simp[iF,jj,hy,hb,h0,b1,b2,h1,h2]
theorem CM{α:Type}{f:α->PV}{y:α}{e by_ ty ty' d β γ n:Nat}{xs:List α}{fz:Bool}(hb:hp β=some ⟨e,ty,xs.map f,false⟩)(hy:hp γ=some ⟨e,ty',[f y],fz⟩)(h0:0<e)(hn:n=xs.length)(h1:(n+1)*by_<=140737488355328)(h2:n+1<=9223372036854775807)(hB:2000000<=β):
  iF e by_ ty (.ms β n) (.ms γ 1) d fr hp K=K (ae (e9 β fr) d (.ms β (n+1))) (Ql hp β ⟨e,ty,(xs++[y]).map f,false⟩):=by
 rw[adP hb hy h0 (by simp[hn]) h1 h2 hB];simp
theorem ZF{β γ o n:Nat}(h:γ≠β):cR β (.aH γ o n)= .aH γ o n:=by simp only[cR];rw[if_neg h]
theorem abU{β γ o n:Nat}(h:γ≠β):cR β (.np γ o n)= .np γ o n:=by simp only[cR];rw[if_neg h]
theorem ajr:
  (∀(β:Nat)(k:IntKind)(n:Int),cR β (.int k n)= .int k n)/\
  (∀(β:Nat)(b:Bool),cR β (.bool b)= .bool b)/\
  (∀(β e:Nat)(xs:List PV),cR β (.sl e xs)= .sl e xs)/\
  (∀(β:Nat)(cs:List PV),cR β (.agg cs)= .agg cs)/\
  (∀(β:Nat)(cs:List PV),cR β (.pt cs)= .pt cs)/\
  (∀(β:Nat),cR β .aa= .aa)/\
  (∀(β:Nat),cR β .undef= .undef)/\
  (∀(γ:Nat)(k:IntKind)(n:Int),iQ γ (.int k n)= .int k n)/\
  (∀(γ:Nat)(b:Bool),iQ γ (.bool b)= .bool b)/\
  (∀(γ e:Nat)(xs:List PV),iQ γ (.sl e xs)= .sl e xs)/\
  (∀(γ:Nat)(cs:List PV),iQ γ (.agg cs)= .agg cs)/\
  (∀(γ:Nat)(cs:List PV),iQ γ (.pt cs)= .pt cs)/\
  (∀(γ:Nat),iQ γ .aa= .aa)/\
  (∀(γ:Nat),iQ γ .undef= .undef)/\
  (∀(γ β o n:Nat),iQ γ (.au β o n)= .au β o n)/\
  (∀(γ β o n:Nat),iQ γ (.mp β o n)= .mp β o n)/\
  (∀(γ β o n:Nat),iQ γ (.rb β o n)= .rb β o n)/\
  (∀(γ β o n:Nat),iQ γ (.aH β o n)= .aH β o n)/\
  (∀(γ β o n:Nat),iQ γ (.np β o n)= .np β o n)/\
  (∀(β γ o n:Nat),bx β (.aH γ o n)= .aH γ o n)/\
  (∀(β γ o n:Nat),bx β (.np γ o n)= .np γ o n)/\
  (∀(β γ e ty:Nat)(xs:List PV),bx β (.aF γ e ty xs)= .aF γ e ty xs)/\
  (∀(β:Nat),bx β .undef= .undef)/\
  (∀(β:Nat)(cs:List PV),bx β (.pt cs)= .pt cs):=by
 refine⟨?_,?_,?_,?_,?_,?_,?_,?_,?_,?_,?_,?_,?_,?_,?_,?_,?_,?_,?_,?_,?_,?_,?_,?_⟩<;>intros<;>rfl
theorem abV(β γ o n:Nat):cR β (.au γ o n)=if γ=β then .undef else .au γ o n:=Lf β γ o n
theorem abW(β γ o n:Nat):cR β (.mp γ o n)=if γ=β then .undef else .mp γ o n:=Lg β γ o n
end Go.FW
namespace Go.FW
open Go
variable {C : Ctx} {ρ : Nat -> Option Nat} {fr aA : Fr} {hp : HP} {w : World} {K R : Qh}
theorem adQ{F:Fr}{s:Nat}:vG F s=jP (F s):=rfl
theorem ajs:
  (∀(k:IntKind)(n:Int),jP (.int k n)= .int k n)/\
  (∀(b:Bool),jP (.bool b)= .bool b)/\
  (∀(e:Nat)(xs:List PV),jP (.sl e xs)= .sl e xs)/\
  (∀(cs:List PV),jP (.agg cs)= .agg cs)/\
  (∀(cs:List PV),jP (.pt cs)= .pt cs)/\
  (jP .aa= .aa)/\(jP .undef= .undef)/\
  (∀(β o n:Nat),jP (.au β o n)=if j1 β then .undef else .au β o n)/\
  (∀(β o n:Nat),jP (.mp β o n)=if j1 β then .undef else .mp β o n)/\
  (∀(β o n:Nat),jP (.rb β o n)=if j1 β then .undef else .rb β o n)/\
  (∀(β o n:Nat),jP (.aH β o n)=if lF β then .undef else .aH β o n)/\
  (∀(β o n:Nat),jP (.np β o n)=if lF β then .undef else .np β o n):=by
 refine⟨fun _ _=>rfl,fun _=>rfl,fun _ _=>rfl,fun _=>rfl,fun _=>rfl,rfl,rfl,?_,?_,?_,?_,?_⟩<;>intros<;>simp[jP,PV.refs,PV.aN]
theorem agI{β:Nat}:lF β=(j1 β||decide (β<1000000)):=rfl
theorem agJ{β:Nat}:j1 β=decide (2000000<=β):=rfl
theorem abX{d γ n:Nat}{S:List Nat}{x:PV}{s:Nat}:ajq d S γ n x fr s=if s=γ then x else if S.contains s then .aH γ 0 n else bx d (fr s):=rfl
theorem adR{by_ ty d:Nat}{k k':IntKind}{n c:Nat}(h2:n<=c)(h3:by_*c<=281474976710656)(h4:c<=9223372036854775807):
  nH 1 by_ ty .aa (.int k (n:Int)) (.int k' (c:Int)) d fr hp K=K (ae (bE d fr) d (.ms d n)) (Ql hp d ⟨1,ty,List.replicate n .aa,false⟩):=by
 rw[B2 (e:=1) (by omega) rfl (by omega) (by omega) (by omega) (by omega)];rfl
theorem agK{k c:Nat}(h:c<3000000):(3000000+k=c)=False:=by simp;omega
theorem adS{k c:Nat}(h:c<3000000):(c=3000000+k)=False:=by simp;omega
theorem agL{k j:Nat}:(3000000+k=3000000+j)=(k=j):=by simp
attribute [go_sem] agK adS agL adR abX ZB ZC ZD ZE abS abT QG QH ajr abV abW ZF abU adN adO adQ ajs agI agJ
end Go.FW
namespace Go.FW
open Go
variable {C C' : Ctx} {ρ ρ' : Nat -> Option Nat} {fr aA : Fr} {hp hp' : HP} {w : World} {K R : Qh}
theorem bT{sk:List It}{r:RT}{aJ:Fr}{aw:HP}(hw:Wk fr hp aJ aw)(h:vc C R (.o r::sk) aJ aw):vc C R (.o (.wk r)::sk) fr hp:=by rw[Eh];exact⟨aJ,aw,hw,h⟩
def cW(σ:Nat->Nat):PV->PV
 |.mp β i o=>.mp (σ β) i o
 |.au β o n=>.au (σ β) o n
 |.rb β o n=>.rb (σ β) o n
 |.np β i o=>.np (σ β) i o
 |.aH β o n=>.aH (σ β) o n
 |p=>p
def cE(σ:Nat->Nat):PV->PV
 |.fn f a b=>.fn f (a.map (cW σ)) (b.map (cW σ))
 |.aK cs=>.aK (cs.map (cW σ))
 |.dV cs=>.dV (cs.map (cW σ))
 |.cO cs q=>.cO (cs.map (cW σ)) q
 |.aF γ e ty xs=>.aF (σ γ) e ty (xs.map fun x=>fj (x.aX.map (cW σ)))
 |p=>cW σ p
structure uc(σ:Nat->Nat)(ρ ρ':Nat->Option Nat)(hp hp':HP)(β:Nat):Prop where
 r:ρ' (σ β)=ρ β
 h:∀hb,hp β=some hb->∃dN,hp' (σ β)=some dN/\dN.e=hb.e/\dN.ty=hb.ty/\dN.xs=hb.xs
 b:bB β=true->bB (σ β)=true
theorem Qp.cW{X:Nat->Prop}{σ:Nat->Nat}{p:PV}{v:Value}(h:Qp w X p v):FW.cW σ p=p:=by cases h<;>rfl
theorem eh.fK{σ:Nat->Nat}{β o n:Nat}{v:Value}(h:eh ρ hp w β o n v)(hr:uc σ ρ ρ' hp hp' β):eh ρ' hp' w (σ β) o n v:=by obtain⟨hb,h1,h2,h3⟩:=h;obtain⟨ax,k1,k2,k3,k4⟩:=hr.h hb h1;refine⟨ax,k1,by rw[k4];exact h2,?_⟩;rw[hr.r,k2];exact h3
theorem nY.fK{σ:Nat->Nat}{γ o n:Nat}{v:Value}(h:nY ρ hp w γ o n v)(hr:uc σ ρ ρ' hp hp' γ):nY ρ' hp' w (σ γ) o n v:=by obtain⟨h0,hb,b,cap,h1,h2,h3⟩:=h;obtain⟨ax,k1,k2,k3,k4⟩:=hr.h hb h1;exact⟨hr.b h0,ax,b,cap,k1,by rw[hr.r];exact h2,by rw[k2];exact h3⟩
theorem Qp.sub{X X':Nat->Prop}{p:PV}{v:Value}(h:Qp w X p v)(hX:∀b,X' b->X b):Qp w X' p v:=h.mono (fun _ _ _=>rfl) (fun b _ hn hx=>hn (hX b hx)) (Kad _)
theorem cz.fK{σ:Nat->Nat}{p:PV}{v:Value}(h:cz C ρ hp w p v)(hX:∀b,aE C' ρ' hp' b->aE C ρ hp b)(hr:∀β∈p.dh,uc σ ρ ρ' hp hp' β):cz C' ρ' hp' w (cW σ p) v:=by
 cases p with
 |undef=>trivial
 |au β o n=>exact⟨(hr β (by simp[PV.dh])).b h.1,h.2.fK (hr β (by simp[PV.dh]))⟩
 |aH γ o n=>exact nY.fK h (hr γ (by simp[PV.dh]))
 |mp=>cases h
 |rb=>cases h
 |np=>cases h
 |_=>exact Qp.sub h hX
theorem cI.fK{σ:Nat->Nat}{p:PV}{v:Value}(h:cI C ρ hp w p v)(hX:∀b,aE C' ρ' hp' b->aE C ρ hp b)(hr:∀β∈p.bw++p.dU,uc σ ρ ρ' hp hp' β):cI C' ρ' hp' w (cW σ p) v:=by
 cases p with
 |mp β i o=>have hq:=hr β (by simp[PV.bw]);obtain⟨b,hb,h1,h2,h3⟩:=h;obtain⟨ax,k1,k2,k3,k4⟩:=hq.h hb h2;exact⟨b,ax,by rw[hq.r];exact h1,k1,by rw[k2];exact h3⟩
 |au β o n=>exact eh.fK h (hr β (by simp[PV.bw]))
 |rb β o n=>obtain⟨b,u,h1,h2,h3,h4,h5⟩:=h;exact⟨b,u,h1,h2,fun hx=>h3 (hX b hx),h4,h5.fK (hr β (by simp[PV.bw]))⟩
 |np γ i o=>have hq:=hr γ (by simp[PV.bw,PV.dU]);obtain⟨h0,b,hb,h1,h2,h3⟩:=h;obtain⟨ax,k1,k2,k3,k4⟩:=hq.h hb h2;exact⟨hq.b h0,b,ax,by rw[hq.r];exact h1,k1,by rw[k2];exact h3⟩
 |aH γ o n=>exact nY.fK h (hr γ (by simp[PV.bw,PV.dU]))
 |_=>exact Qp.sub h hX
theorem Ov{cs:List PV}(h:∀c∈cs,(∀ds,c≠ .agg ds)/\∀ds,c≠ .aK ds):(fj cs).aX=cs:=by
 match cs,h with
 | [],_=>rfl
 | [c],h=>
  obtain⟨h1,h2⟩:=h c (by simp);cases c with
  |agg ds=>exact absurd rfl (h1 ds)
  |aK ds=>exact absurd rfl (h2 ds)
  |_=>rfl
 |c::d::cs,_=>simp only[fj,nQ];split<;>rfl
theorem cz.one{p:PV}{v:Value}(h:cz C ρ hp w p v):(∀ds,p≠ .agg ds)/\∀ds,p≠ .aK ds:=by refine⟨fun ds e=>?_,fun ds e=>?_⟩<;>subst e<;>cases h
theorem Qm.fK{σ:Nat->Nat}{p:PV}{v:Value}(h:Qm C ρ hp w p v)(hX:∀b,aE C' ρ' hp' b->aE C ρ hp b)(hr:∀β∈p.refs++p.aN,uc σ ρ ρ' hp hp' β):Qm C' ρ' hp' w (cE σ p) v:=by
 have hV:∀q u,Qp w (aE C ρ hp) q u->Qp w (aE C' ρ' hp') q u:=fun q u hq=>Qp.sub hq hX;cases p with
 |undef=>trivial
 |mp β i o=>exact cI.fK (w:=w) (p:=.mp β i o) h hX (by simpa[PV.refs,PV.aN,PV.bw,PV.dU]using hr)
 |au β o n=>exact cI.fK (w:=w) (p:=.au β o n) h hX (by simpa[PV.refs,PV.aN,PV.bw,PV.dU]using hr)
 |rb β o n=>exact cI.fK (w:=w) (p:=.rb β o n) h hX (by simpa[PV.refs,PV.aN,PV.bw,PV.dU]using hr)
 |np γ i o=>exact cI.fK (w:=w) (p:=.np γ i o) h hX (by simpa[PV.refs,PV.aN,PV.bw,PV.dU]using hr)
 |aH γ o n=>exact cI.fK (w:=w) (p:=.aH γ o n) h hX (by simpa[PV.refs,PV.aN,PV.bw,PV.dU]using hr)
 |aK cs=>obtain⟨vs,rfl,h1,h2⟩:=h;refine⟨vs,rfl,by simpa using h1,fun i x hi=>?_⟩;simp only[Kat,Kaa]at hi;obtain⟨y,hy,rfl⟩:=hi;exact(h2 i y hy).fK hX fun β aj=>hr β (Kbp _ (Kap.2 ⟨y,Kaj hy,aj⟩))
 |dV cs=>obtain⟨vs,rfl,h1,h2⟩:=h;refine⟨vs,rfl,by simpa using h1,fun i x hi=>?_⟩;simp only[Kat,Kaa]at hi;obtain⟨y,hy,rfl⟩:=hi;exact(h2 i y hy).fK hX fun β aj=>hr β (Kbp _ (Kap.2 ⟨y,Kaj hy,aj⟩))
 |cO cs q=>obtain⟨vs,u,rfl,h1,h2,h3⟩:=h;refine⟨vs,u,rfl,by simpa using h1,fun i x hi=>?_,h3.mono (fun _ _ _=>rfl) (fun b _ hn hx=>hn (hX b hx)) (Kad _)⟩;simp only[Kat,Kaa]at hi;obtain⟨y,hy,rfl⟩:=hi;exact(h2 i y hy).fK hX fun β aj=>hr β (Kbp _ (Kap.2 ⟨y,Kaj hy,aj⟩))
 | aF γ e ty xs=>
  obtain⟨h0,he,b,hb,cur,cap,h1,h2,h3,h4,h5,h6,h7,h8,h9,bp,cj⟩:=h;have hq:=hr γ (by simp[PV.aN]);have key:∀(i:Nat)(x:PV),xs[i]? =some x->∀(j:Nat)(y:PV),x.aX[j]? =some y->cz C' ρ' hp' w (cW σ y) (cur.getD (i*e+j) undef):=fun i x hx j y hy=>
   (cj i x hx j y hy).fK hX fun β aj=>hr β (Kbp _ (KaZ _ (Kap.2 ⟨x,Kaj hx,Kap.2 ⟨y,Kaj hy,aj⟩⟩)))
  have rF:∀(i:Nat)(x:PV),xs[i]? =some x->(fj (x.aX.map (cW σ))).aX=x.aX.map (cW σ):=fun i x hx=>by refine Ov fun c hc=>?_;obtain⟨y,hy,rfl⟩:=KaF.1 hc;obtain⟨j,hj⟩:=KaB hy;exact(key i x hx j y hj).one
  obtain⟨ax,k1,k2,k3,k4⟩:=hq.h hb h2;refine⟨hq.b h0,he,b,ax,cur,cap,by rw[hq.r];exact h1,k1,by rw[k4];exact h3,by rw[k2];exact h4,by rw[k3];exact h5,h6,h7,by simpa using h8,h9,fun i x hx=>?_,fun i x hx j y hy=>?_⟩
  ·simp only[Kat,Kaa]at hx;obtain⟨x0,bY,rfl⟩:=hx;rw[rF i x0 bY,Ka0];exact bp i x0 bY
  ·simp only[Kat,Kaa]at hx;obtain⟨x0,bY,rfl⟩:=hx;rw[rF i x0 bY,Kat,Kaa]at hy;obtain⟨y0,cU,rfl⟩:=hy;exact key i x0 bY j y0 cU
 | fn f first cap=>
  obtain⟨fv,cv,rfl,h1,h2,h3,h4⟩:=h;have hm:∀(l:List PV)(x:PV),x∈l->∀β∈x.bw++x.dU,β∈l.flatMap PV.bw++l.flatMap PV.dU:=fun l x hx β aj=>by
   rcases KaM.1 aj with aj|aj
   ·exact Kca _ (Kap.2 ⟨x,hx,aj⟩)
   ·exact Kbp _ (Kap.2 ⟨x,hx,aj⟩)
  refine⟨fv,cv,rfl,by simpa using h1,by simpa using h2,fun i x hi=>?_,fun i x hi=>?_⟩
  ·simp only[Kat,Kaa]at hi;obtain⟨y,hy,rfl⟩:=hi;refine(h3 i y hy).fK hX fun β aj=>hr β ?_;have:=hm first y (Kaj hy) β aj
   simp only[PV.refs,PV.aN,KaM]at this⊢;rcases this with h|h
   ·exact .inl (.inl h)
   ·exact .inr (.inl h)
  ·simp only[Kat,Kaa]at hi;obtain⟨y,hy,rfl⟩:=hi;refine(h4 i y hy).fK hX fun β aj=>hr β ?_;have:=hm cap y (Kaj hy) β aj;simp only[PV.refs,PV.aN,KaM]at this⊢;rcases this with h|h
   ·exact .inl (.inr h)
   ·exact .inr (.inr h)
 |agg cs=>exact eB.move (p:=.agg cs) h hV
 |aG cs=>exact eB.move (p:=.aG cs) h hV
 |_=>exact hV _ _ h
theorem agM(σ τ:Nat->Nat)(h1:∀β hb,hp β=some hb->hp' (σ β)=some hb/\τ (σ β)=β)(h2:∀γ hb,hp' γ=some hb->hp (τ γ)=some hb/\σ (τ γ)=γ)
  (hB:∀β,hp β≠none->bB β=true->bB (σ β)=true) (hY:∀β,hp β≠none->aM (σ β)=aM β/\(aM β=true->σ β=β)) (hf:∀s,aA s=cE σ (fr s)∨aA s= .undef):Wk fr hp aA hp':=by
 rintro C tmps w ⟨ρ,hs⟩;obtain⟨ρ',bl⟩:∃f:Nat->Option Nat,f=fun γ=>if hp' γ=none then none else ρ (τ γ):=⟨_,rfl⟩
 have hr:∀β,hp β≠none->uc σ ρ ρ' hp hp' β:=fun β aj=>by obtain⟨hb,hq⟩:=Kbn.1 aj;obtain⟨a1,a2⟩:=h1 β hb hq;refine⟨?_,(fun hb hq=>⟨hb,(h1 β hb hq).1,rfl,rfl,rfl⟩),hB β aj⟩;rw[bl];simp only[];rw[if_neg (by rw[a1];simp),a2]
 have ax:∀γ hb,hp' γ=some hb->ρ' γ=ρ (τ γ):=fun γ hb hq=>by rw[bl];simp only[];rw[if_neg (by rw[hq];simp)]
 have hX:∀b,aE C ρ' hp' b->aE C ρ hp b:=by
  rintro b (hx|⟨γ,hg,g1,g2,g3⟩)
  ·exact .inl hx
  ·rw[ax γ hg g1]at g3;exact .inr ⟨τ γ,hg,(h2 γ hg g1).1,g2,g3⟩
 refine⟨ρ',hs.sz,hs.ext,hs.eG,fun γ hb ah=>?_,fun γ δ b g1 g2 g3 g4=>?_,fun i=>?_⟩
 ·obtain⟨a1,a2⟩:=h2 γ hb ah;obtain⟨q1,q2,q3,q4,q5⟩:=hs.own (τ γ) hb a1;obtain⟨y1,y2⟩:=hY (τ γ) (by simp[a1]);rw[a2]at y1 y2;refine⟨q1,q2,?_,fun hy=>?_,fun hR=>?_⟩
  rotate_left
  rotate_left
  ·have hy:aM γ=true:=by simp[eF]at hR;simp[aM];omega
   have e:=y2 (by rw[<-y1];exact hy);exact q5 (by rw[<-e];exact hR)
  ·rw[ax γ hb ah];cases hq:ρ (τ γ)with
   |none=>rw[hq]at q3;exact q3
   |some b=>
    rw[hq]at q3;refine⟨?_,q3.2.1,q3.2.2.move rfl rfl rfl rfl fun q u hq=>Qp.sub hq hX⟩;have:=q3.1;unfold Ctx.cls at this⊢;rw[y1];split at this
    ·rename_i hy;rw[if_pos hy,y2 hy];exact this
    ·rename_i hy;rw[if_neg hy];exact this
  ·rw[ax γ hb ah,q4 (by rw[<-y1];exact hy),<-y2 (by rw[<-y1];exact hy)]
 ·obtain⟨x1,k1⟩:=Kbn.1 g1;obtain⟨x2,k2⟩:=Kbn.1 g2;rw[ax γ x1 k1]at g3;rw[ax δ x2 k2]at g4;have:=hs.inj (τ γ) (τ δ) b (by rw[(h2 γ x1 k1).1];simp) (by rw[(h2 δ x2 k2).1];simp) g3 g4;rw[<-(h2 γ x1 k1).2,<-(h2 δ x2 k2).2,this]
 ·have bc:=hs.cH i;rcases hf i with e|e
  ·rw[e];exact bc.fK hX fun β aj=>hr β (by
    rcases KaM.1 aj with h|h
    ·exact bc.known.1 β h
    ·exact bc.known.2 β h)
  ·rw[e];trivial
def oB(β δ x:Nat):Nat:=if x=β then δ else x
def qz(β δ:Nat)(fr:Fr):Fr:=fun s=>cE (oB β δ) (fr s)
def FV(β δ:Nat)(hp:HP):HP:=fun x=>if x=δ then hp β else if x=β then none else hp x
theorem pN(β δ:Nat)(nD:hp δ=none)(h2:2000000<=δ)(hY:aM β=false)(aT:β≠δ):Wk fr hp (qz β δ fr) (FV β δ hp):=by
 have bδ:bB δ=true:=by simp[bB];omega
 have yδ:aM δ=false:=by simp[aM];omega
 refine agM (oB β δ) (fun y=>if y=δ then β else y) (fun x hb hx=>?_) (fun y hb hy=>?_) (fun x hx hb=>?_) (fun x hx=>?_) (fun s=>.inl rfl)
 ·unfold oB FV;by_cases e:x=β
  ·subst e;simp[hx]
  ·have e2:x≠δ:=fun e2=>by rw[e2,nD]at hx;cases hx
   simp[e,e2,hx]
 ·unfold FV at hy;unfold oB;by_cases e:y=δ
  ·subst e;simp at hy;simp[hy]
  ·rw[if_neg e]at hy;by_cases e2:y=β
   ·rw[if_pos e2]at hy;cases hy
   ·rw[if_neg e2]at hy;simp[e,e2,hy]
 ·unfold oB;split
  ·exact bδ
  ·exact hb
 ·unfold oB;split
  ·rename_i e;subst e;rw[yδ,hY];simp
  ·simp
theorem agN{β δ x:Nat}:FV β δ hp x=if x=δ then hp β else if x=β then none else hp x:=rfl
theorem agO{β δ s:Nat}:qz β δ fr s=cE (oB β δ) (fr s):=rfl
theorem agP{β δ x:Nat}:oB β δ x=if x=β then δ else x:=rfl
theorem adT{β δ d:Nat}{v:PV}:qz β δ (ae fr d v)=ae (qz β δ fr) d (cE (oB β δ) v):=by funext s;unfold qz ae;split<;>rfl
theorem adU{W:List (Nat×Nat)}{β δ:Nat}{J F:Fr}:qz β δ (bg W J F)=bg W (qz β δ J) (qz β δ F):=by funext s;unfold qz bg;split<;>rfl
theorem Nd{σ:Nat->Nat}{p:PV}(h:∀β∈p.bw++p.dU,σ β=β):cW σ p=p:=by
 cases p with
 |mp β=>simp only[cW];rw[h β (by simp[PV.bw])]
 |au β=>simp only[cW];rw[h β (by simp[PV.bw])]
 |rb β=>simp only[cW];rw[h β (by simp[PV.bw])]
 |np β=>simp only[cW];rw[h β (by simp[PV.bw,PV.dU])]
 |aH β=>simp only[cW];rw[h β (by simp[PV.bw,PV.dU])]
 |_=>rfl
theorem adV{σ:Nat->Nat}{p:PV}(h:tt p)(tl:∀β∈p.refs++p.aN,σ β=β):cE σ p=p:=by
 have hm:∀(l:List PV),(∀β∈l.flatMap PV.bw++l.flatMap PV.dU,σ β=β)->l.map (cW σ)=l:=fun l hl=>by
  conv=>rhs;rw[<-List.map_id l]
  refine Ka6 fun x hx=>Nd fun β aj=>hl β ?_;rcases KaM.1 aj with aj|aj
  ·exact Kca _ (Kap.2 ⟨x,hx,aj⟩)
  ·exact Kbp _ (Kap.2 ⟨x,hx,aj⟩)
 cases p with
 |aF γ e ty xs=>exact absurd rfl (h.2.2.1 _ _ _ _)
 |aK cs=>exact absurd rfl (h.2.2.2 _).1
 |dV cs=>exact absurd rfl (h.2.2.2 _).2.1
 |cO cs q=>exact absurd rfl ((h.2.2.2 _).2.2 _)
 | fn f a b=>
  simp only[cE];rw[hm a,hm b]
  ·intro β aj;refine tl β ?_;simp only[PV.refs,PV.aN,KaM]at aj⊢;rcases aj with h|h
   ·exact .inl (.inr h)
   ·exact .inr (.inr h)
  ·intro β aj;refine tl β ?_;simp only[PV.refs,PV.aN,KaM]at aj⊢;rcases aj with h|h
   ·exact .inl (.inl h)
   ·exact .inr (.inl h)
 |mp β=>simp only[cE,cW];rw[tl β (by simp[PV.refs])]
 |au β=>simp only[cE,cW];rw[tl β (by simp[PV.refs])]
 |rb β=>simp only[cE,cW];rw[tl β (by simp[PV.refs])]
 |np β=>simp only[cE,cW];rw[tl β (by simp[PV.refs,PV.aN])]
 |aH β=>simp only[cE,cW];rw[tl β (by simp[PV.refs,PV.aN])]
 |_=>rfl
theorem abY{B:List Nat}{F:Fr}{s β:Nat}(h:β∈(eK B F s).refs):B.contains β=false:=by
 cases hq:B.contains β with
 |false=>rfl
 |true=>
  unfold eK Qy at h;split at h
  ·cases h
  ·rename_i hn;exact absurd (KaW.2 ⟨β,h,hq⟩) hn
theorem adW{B:List Nat}{F:Fr}{β δ:Nat}(aj:B.contains β=true∨2000000<=β)(art:β<1000000∨2000000<=β):qz β δ (eK B F)=eK B F:=by
 funext s;have hc:=Ad B F s;refine adV hc fun x hx=>if_neg fun e=>?_;subst e;rcases aj with aj|aj
 ·rcases KaM.1 hx with h|h
  ·rw[abY h]at aj;cases aj
  ·have h1:=hc.2.1 x h;simp[lF,j1]at h1;omega
 ·rcases KaM.1 hx with h|h
  ·have:=hc.1 x h;simp[j1]at this;omega
  ·have:=hc.2.1 x h;simp[lF,j1]at this;omega
end Go.FW
namespace Go.FW
open Go
variable {C C' : Ctx} {ρ ρ' : Nat -> Option Nat} {fr aA : Fr} {hp hp' : HP} {w : World} {K R : Qh}
def eC(γ:Nat):PV->PV
 |.au β o n=>if β=γ then .aH γ o n else .au β o n
 |.mp β i o=>if β=γ then .np γ i o else .mp β i o
 |.rb β o n=>if β=γ then .undef else .rb β o n
 |p=>p
def dm(γ:Nat):PV->PV
 |.fn f a b=>bx γ (.fn f a b)
 |.aK cs=>.aK (cs.map (eC γ))
 |.dV cs=>.dV (cs.map (eC γ))
 |.cO cs q=>.cO (cs.map (eC γ)) q
 |.aF ba e ty xs=>if ba=γ then .undef else .aF ba e ty (xs.map fun x=>fj (x.aX.map (eC γ)))
 |p=>eC γ p
def xU(γ:Nat)(x:PV)(fr:Fr):Fr:=fun s=>if s=γ then x else dm γ (fr s)
theorem pK {γ e ty:Nat} {xs:List PV} {fz:Bool} (ah:hp γ=some ⟨e,ty,xs,fz⟩) (h0:xs≠[]) (h2:2000000<=γ) (hd:∀x∈xs,x.aX=x.cells):Wk fr hp (xU γ (.aF γ e ty xs) fr) (Ql hp γ ⟨e,ty,[],fz⟩):=by
 rintro C tmps w ⟨ρ,hs⟩;have yj:bB γ=true:=by simp[bB];omega
 have bj:=hs.own γ _ ah;have aU:=bj.cD;obtain⟨b,bl⟩:∃b,ρ γ=some b:=by
  cases hq:ρ γ with
  |none=>rw[hq]at aU;exact absurd aU h0
  |some b=>exact⟨b,rfl⟩
 rw[bl]at aU;obtain⟨b1,b2,cur,cap,c1,c2,c3,c4,c5⟩:=aU;have jV:=bj.jV;obtain⟨hp',mw⟩:∃f,f=Ql hp γ ⟨e,ty,[],fz⟩:=⟨_,rfl⟩
 rw[<-mw];have tn:hp' γ=some ⟨e,ty,[],fz⟩:=by rw[mw];simp[Ql]
 have po:∀β,β≠γ->hp' β=hp β:=fun β aj=>by rw[mw];simp[Ql,aj]
 have hX:aE C ρ hp'=aE C ρ hp:=by
  funext c;apply propext;constructor
  ·rintro(hx|⟨β,hb,g1,g2,g3⟩)
   ·exact .inl hx
   ·by_cases aj:β=γ
    ·subst aj;rw[tn]at g1;cases g1;exact .inr ⟨β,_,ah,g2,g3⟩
    ·rw[po β aj]at g1;exact .inr ⟨β,hb,g1,g2,g3⟩
  ·rintro(hx|⟨β,hb,g1,g2,g3⟩)
   ·exact .inl hx
   ·by_cases aj:β=γ
    ·subst aj;rw[ah]at g1;cases g1;exact .inr ⟨β,_,tn,g2,g3⟩
    ·exact .inr ⟨β,hb,by rw[po β aj];exact g1,g2,g3⟩
 have aL:lX w w (aE C ρ hp) (aE C ρ hp'):=by rw[hX];exact⟨fun _ _ _=>rfl,fun _ _ hn=>hn,Kad _⟩
 have c0:∀β,β≠γ->oH ρ ρ hp hp' w w β:=fun β aj=>⟨rfl,fun hb hq=>⟨hb,by rw[po β aj];exact hq,rfl,Kad _,fun _ _ _ h=>h,fun h=>⟨h,rfl,fun _ _=>rfl⟩⟩⟩
 have BY:∀ {o n:Nat} {v:Value},eh ρ hp w γ o n v->nY ρ hp' w γ o n v:=by
  rintro o n v ⟨hb,g1,g2,g3⟩;rw[ah]at g1;cases g1;rcases g3 with⟨g3,_⟩|⟨b',cp,g3,g4,g5,g6⟩
  ·rw[bl]at g3;cases g3
  ·rw[bl]at g3;cases g3;refine⟨yj,_,b,cp,tn,bl,g4,g5,g6,?_⟩;obtain⟨cur',ty',d1,d2⟩:=g5;rw[c1]at d1;cases d1;have:cap=o+cp:=KbA jV (by rw[<-c2,<-d2]);simp only at g2 c3;omega
 have cell:∀ {p:PV} {v:Value},cz C ρ hp w p v->cz C ρ hp' w (eC γ p) v:=by
  intro p v h;cases p with
  |au β o n=>
   by_cases aj:β=γ
   ·subst aj;simp only[eC,if_true];exact BY h.2
   ·simp only[eC,if_neg aj];exact cz.move (p:=.au β o n) h aL fun x hx=>by simp[PV.dh]at hx;subst hx;exact(c0 _ aj).yY
  | aH β o n=>
   by_cases aj:β=γ
   ·obtain⟨_,hb,b',cp,k1,k2,k3,k4,k5,k6⟩:=h;subst aj;rw[ah]at k1;cases k1;exact⟨yj,_,b',cp,tn,k2,k3,k4,k5,k6⟩
   ·exact cz.move (p:=.aH β o n) h aL fun x hx=>by simp[PV.dh]at hx;subst hx;exact(c0 _ aj).yY
  |mp=>cases h
  |rb=>cases h
  |np=>cases h
  |undef=>trivial
  |_=>exact cz.move h aL (fun x hx=>by cases hx)
 refine⟨ρ,hs.sz,hs.ext,hs.eG,fun β hb aj=>?_,fun β δ c g1 g2 g3 g4=>?_,fun i=>?_⟩
 ·by_cases hq:β=γ
  ·subst hq;rw[tn]at aj;cases aj;refine⟨jV,(fun i x hx=>by simp at hx),?_,bj.fix,bj.ro⟩;rw[bl];exact⟨b1,b2,cur,cap,c1,c2,KbR _,c4,fun i x hx=>by simp at hx⟩
  ·rw[po β hq]at aj;obtain⟨q1,q2,q3,q4,q5⟩:=hs.own β hb aj;refine⟨q1,q2,?_,q4,q5⟩;cases hr:ρ β with
   |none=>rw[hr]at q3;exact q3
   |some c=>rw[hr]at q3;exact⟨q3.1,q3.2.1,q3.2.2.move rfl rfl rfl rfl aL.rc⟩
 ·have f:∀β,hp' β≠none->hp β≠none:=fun β aj=>by
   by_cases hq:β=γ
   ·subst hq;simp[ah]
   ·rwa[po β hq]at aj
  exact hs.inj β δ c (f β g1) (f δ g2) g3 g4
 ·have bc:=hs.cH i;show Qm C ρ hp' w (xU γ (.aF γ e ty xs) fr i) _;unfold xU;split
  ·refine⟨yj,jV,b,_,cur,cap,bl,tn,rfl,rfl,rfl,c1,c2,c3,c4,fun k x hx=>?_,fun k x hx j y hy=>?_⟩
   ·rw[hd x (Kaj hx)];exact(bj.len k x hx).1
   ·rw[hd x (Kaj hx)]at hy;have:=c5 k x hx j y hy;have h3:Qp w (aE C ρ hp') y (cur.getD (k*e+j) undef):=by rw[hX];exact this
    cases y with
    |undef=>trivial
    |au=>cases h3
    |aH=>cases h3
    |_=>exact h3
  ·generalize fr i=p at bc;cases p with
   |au β o n=>
    by_cases aj:β=γ
    ·subst aj;simp only[dm,eC,if_true];exact BY bc
    ·simp only[dm,eC,if_neg aj];exact Qm.pw bc aL (fun x hx=>by simp[PV.refs]at hx;subst hx;exact(c0 _ aj).o) (fun x hx=>by cases hx)
   | mp β k o=>
    by_cases aj:β=γ
    ·subst aj;simp only[dm,eC,if_true];obtain⟨b',hb,g1,g2,g3⟩:=bc;rw[ah]at g2;cases g2;exact⟨yj,b',_,g1,tn,g3⟩
    ·simp only[dm,eC,if_neg aj];exact Qm.pw bc aL (fun x hx=>by simp[PV.refs]at hx;subst hx;exact(c0 _ aj).o) (fun x hx=>by cases hx)
   |rb β o n=>
    by_cases aj:β=γ
    ·simp only[dm,eC,if_pos aj];trivial
    ·simp only[dm,eC,if_neg aj];exact Qm.pw bc aL (fun x hx=>by simp[PV.refs]at hx;subst hx;exact(c0 _ aj).o) (fun x hx=>by cases hx)
   | np β k o=>
    by_cases aj:β=γ
    ·subst aj;obtain⟨_,b',hb,g1,g2,g3⟩:=bc;rw[ah]at g2;cases g2;exact⟨yj,b',_,g1,tn,g3⟩
    ·refine Qm.pw (p:=.np β k o) bc aL (fun x hx=>by cases hx) (fun x hx=>?_);have e1:x=β:=by simpa[PV.aN]using hx
     rw[e1];exact c0 _ aj
   |aH β o n=>exact cell (p:=.aH β o n) bc
   |aK cs=>obtain⟨vs,e1,h1,h3⟩:=bc;refine⟨vs,e1,by simpa using h1,fun k x hk=>?_⟩;simp only[Kat,Kaa]at hk;obtain⟨y,hy,rfl⟩:=hk;exact cell (h3 k y hy)
   |dV cs=>obtain⟨vs,e1,h1,h3⟩:=bc;refine⟨vs,e1,by simpa using h1,fun k x hk=>?_⟩;simp only[Kat,Kaa]at hk;obtain⟨y,hy,rfl⟩:=hk;exact cell (h3 k y hy)
   |cO cs q=>obtain⟨vs,u,e1,h1,h3,h4⟩:=bc;refine⟨vs,u,e1,by simpa using h1,fun k x hk=>?_,h4.mono aL.cD aL.out aL.size⟩;simp only[Kat,Kaa]at hk;obtain⟨y,hy,rfl⟩:=hk;exact cell (h3 k y hy)
   | aF β e' ty' ys=>
    simp only[dm];split
    ·trivial
    ·rename_i aj;obtain⟨k0,he,b',hb,cur',et,k1,k2,k3,k4,k5,k6,k7,k8,k9,BL,yM⟩:=bc;have rF:∀(k:Nat)(x:PV),ys[k]? =some x->(fj (x.aX.map (eC γ))).aX=x.aX.map (eC γ):=fun k x hx=>by refine Ov fun c hc=>?_;obtain⟨y,hy,rfl⟩:=KaF.1 hc;obtain⟨j,hj⟩:=KaB hy;exact(cell (yM k x hx j y hj)).one
     refine⟨k0,he,b',hb,cur',et,k1,by rw[po β aj];exact k2,k3,k4,k5,k6,k7,by simpa using k8,k9,fun k x hx=>?_,fun k x hx j y hy=>?_⟩
     ·simp only[Kat,Kaa]at hx;obtain⟨x0,bY,rfl⟩:=hx;rw[rF k x0 bY,Ka0];exact BL k x0 bY
     ·simp only[Kat,Kaa]at hx;obtain⟨x0,bY,rfl⟩:=hx;rw[rF k x0 bY,Kat,Kaa]at hy;obtain⟨y0,cU,rfl⟩:=hy;exact cell (yM k x0 bY j y0 cU)
   | fn f a c=>
    simp only[dm,bx];split
    ·trivial
    ·rename_i hn;have s7:γ ∉ (PV.fn f a c).refs:=by simpa using hn
     by_cases hm:γ∈(PV.fn f a c).aN
     ·
      obtain⟨fv,cv,g1,g2,g3,g4,g5⟩:=bc;have EI:∀ {x:PV} {v:Value},γ ∉ x.bw->cI C ρ hp w x v->cI C ρ hp' w x v:=by
       intro x v hx h;cases x with
       | np β k o=>
        by_cases aj:β=γ
        ·subst aj;obtain⟨_,b',hb,k1,k2,k3⟩:=h;rw[ah]at k2;cases k2;exact⟨yj,b',_,k1,tn,k3⟩
        ·exact cI.move (p:=.np β k o) h aL (fun x hx=>by cases hx) (fun x hx=>by simp[PV.dU]at hx;subst hx;exact(c0 _ aj).yY)
       |aH β o n=>exact cell (p:=.aH β o n) h
       |mp β k o=>exact cI.move (p:=.mp β k o) h aL (fun x aP=>by simp[PV.bw]at aP hx;subst aP;exact(c0 _ (fun e=>hx e.symm)).o) (fun x hx=>by cases hx)
       |au β k o=>exact cI.move (p:=.au β k o) h aL (fun x aP=>by simp[PV.bw]at aP hx;subst aP;exact(c0 _ (fun e=>hx e.symm)).o) (fun x hx=>by cases hx)
       |rb β k o=>exact cI.move (p:=.rb β k o) h aL (fun x aP=>by simp[PV.bw]at aP hx;subst aP;exact(c0 _ (fun e=>hx e.symm)).o) (fun x hx=>by cases hx)
       |_=>exact cI.move h aL (fun x hx=>by cases hx) (fun x hx=>by cases hx)
      exact⟨fv,cv,g1,g2,g3,fun k x hk=>EI (fun hx=>s7 (GN hk γ hx)) (g4 k x hk),fun k x hk=>EI (fun hx=>s7 (GR hk γ hx)) (g5 k x hk)⟩
     ·exact Qm.pw bc aL (fun x hx=>(c0 x (fun e=>s7 (e▸hx))).o) (fun x hx=>c0 x (fun e=>hm (e▸hx)))
   |_=>exact Qm.pw bc aL (fun x hx=>by cases hx) (fun x hx=>by cases hx)
theorem La{γ e ty:Nat}{xs xs':List PV}(D:Nat->Option (Nat×Nat))(uA:fr γ= .aF γ e ty xs)(hD:∀δ x,D δ=some x->hp δ=none/\2000000<=δ/\0<x.1)(hl:xs'.length=xs.length)
  (hx:∀(i:Nat)(x x':PV),xs[i]? =some x->xs'[i]? =some x'->x'.aX.length=x.aX.length/\∀(j:Nat)(y y':PV),x.aX[j]? =some y->x'.aX[j]? =some y'->y'=y∨(y= .aa/\∃δ z,D δ=some z/\y'= .au δ 0 0)):
  Wk fr hp (ae fr γ (.aF γ e ty xs')) (fun δ=>match D δ with|some x=>some ⟨x.1,x.2,[],false⟩|none=>hp δ):=by
 rintro C tmps w ⟨ρ,hs⟩;obtain⟨hp',mw⟩:∃f:HP,f=fun δ=>match D δ with|some x=>some ⟨x.1,x.2,[],false⟩|none=>hp δ:=⟨_,rfl⟩
 obtain⟨ρ',TI⟩:∃f:Nat->Option Nat,f=fun δ=>if(D δ).isSome then none else ρ δ:=⟨_,rfl⟩
 rw[<-mw];have pD:∀δ x,D δ=some x->hp' δ=some ⟨x.1,x.2,[],false⟩/\ρ' δ=none:=fun δ x nD=>by rw[mw,TI];simp[nD]
 have po:∀δ,D δ=none->hp' δ=hp δ/\ρ' δ=ρ δ:=fun δ nD=>by rw[mw,TI];simp[nD]
 have hk:∀β,hp β≠none->D β=none:=fun β aj=>by
  cases hq:D β with
  |none=>rfl
  |some x=>exact absurd (hD β x hq).1 aj
 have hX:∀c,aE C ρ' hp' c->aE C ρ hp c:=by
  rintro c (h|⟨β,hb,g1,g2,g3⟩)
  ·exact .inl h
  ·cases hq:D β with
   |none=>rw[(po β hq).1]at g1;rw[(po β hq).2]at g3;exact .inr ⟨β,hb,g1,g2,g3⟩
   |some x=>rw[(pD β x hq).2]at g3;cases g3
 have aL:lX w w (aE C ρ hp) (aE C ρ' hp'):=⟨fun _ _ _=>rfl,fun c _ hn h=>hn (hX c h),Kad _⟩
 have c0:∀β,hp β≠none->oH ρ ρ' hp hp' w w β:=fun β aj=>⟨(po β (hk β aj)).2,fun hb hq=>⟨hb,by rw[(po β (hk β aj)).1];exact hq,rfl,Kad _,fun _ _ _ h=>h,fun h=>⟨h,rfl,fun _ _=>rfl⟩⟩⟩
 refine⟨ρ',hs.sz,hs.ext,hs.eG,fun β hb aj=>?_,fun β δ c g1 g2 g3 g4=>?_,fun i=>?_⟩
 ·cases hq:D β with
  |some x=>rw[(pD β x hq).1]at aj;cases aj;obtain⟨_,d2,d3⟩:=hD β x hq;refine⟨d3,(fun i x hx=>by simp at hx),?_,(fun h=>by simp[aM]at h;omega),fun h=>by simp[eF]at h;omega⟩;rw[(pD β x hq).2]
  |none=>
   rw[(po β hq).1]at aj;obtain⟨q1,q2,q3,q4,q5⟩:=hs.own β hb aj;refine⟨q1,q2,?_,(by rw[(po β hq).2];exact q4),q5⟩;rw[(po β hq).2];cases hr:ρ β with
   |none=>rw[hr]at q3;exact q3
   |some c=>rw[hr]at q3;exact⟨q3.1,q3.2.1,q3.2.2.move rfl rfl rfl rfl aL.rc⟩
 ·have f:∀β,hp' β≠none->∀c,ρ' β=some c->hp β≠none/\ρ β=some c:=fun β aj c hc=>by
   cases hq:D β with
   |none=>rw[(po β hq).1]at aj;rw[(po β hq).2]at hc;exact⟨aj,hc⟩
   |some x=>rw[(pD β x hq).2]at hc;cases hc
  exact hs.inj β δ c (f β g1 c g3).1 (f δ g2 c g4).1 (f β g1 c g3).2 (f δ g2 c g4).2
 ·have v9:=(hs.cH i).known;have yQ:Qm C ρ' hp' w (fr i) (tmps.getD i undef):=(hs.cH i).pw aL (fun β aj=>(c0 β (v9.1 β aj)).o) (fun β aj=>c0 β (v9.2 β aj));unfold ae;split
  ·rename_i hi;subst hi;rw[uA]at yQ;obtain⟨k0,he,b',hb,cur',et,k1,k2,k3,k4,k5,k6,k7,k8,k9,BL,yM⟩:=yQ;have ew:∀(k:Nat)(x':PV),xs'[k]? =some x'->∃x,xs[k]? =some x:=fun k x' cP=>by
    have:k<xs.length:=by have:=(Kaf.1 cP).1;omega
    exact⟨_,Kag this⟩
   refine⟨k0,he,b',hb,cur',et,k1,k2,k3,k4,k5,k6,k7,by omega,k9,fun k x' cP=>?_,fun k x' cP j y' nC=>?_⟩
   ·obtain⟨x,th⟩:=ew k x' cP;rw[(hx k x x' th cP).1];exact BL k x th
   ·obtain⟨x,th⟩:=ew k x' cP;obtain⟨l1,l2⟩:=hx k x x' th cP;have hj:j<x.aX.length:=by have:=(Kaf.1 nC).1;omega
    have hy:=Kag hj;have hr:=yM k x th j _ hy;rcases l2 j _ y' hy nC with e1|⟨e1,δ,z,e2,e3⟩
    ·rw[e1];exact hr
    ·rw[e1]at hr;obtain⟨_,d2,_⟩:=hD δ z e2;rw[e3];have hv:cur'.getD (k*e+j) undef= .slice none 0 0:=by generalize cur'.getD (k*e+j) undef=u at hr;cases hr;rfl
     exact⟨by simp[bB];omega,_,(pD δ z e2).1,Kad _,.inl ⟨(pD δ z e2).2,hv,rfl,rfl⟩⟩
  ·exact yQ
def BO:List PV->PV
 | [c]=>c
 |cs=>.agg cs
def ob(fr:Fr)(hp:HP):Nat->PV->PV
 |0,p=>p
 | k+1,p=>match p with
  |.au β o n=>match hp β with
   |some hb=>.sl hb.e ((hb.xs.drop o).take n)
   |none=>.undef
  |.aH γ o n=>match fr γ with
   |.aF _ e _ xs=>.sl e (((xs.drop o).take n).map fun x=>BO (x.aX.map (ob fr hp k)))
   |_=>.undef
  |p=>p
def rT(fr:Fr):Nat->PV->List Nat
 |0,_=>[]
 | k+1,p=>match p with
  |.au β _ _=>[β]
  |.aH γ o n=>match fr γ with
   |.aF _ _ _ xs=>γ::(((xs.drop o).take n).flatMap fun x=>x.aX.flatMap (rT fr k))
   |_=>[]
  |_=>[]
def BR(fr:Fr):Nat->PV->Prop
 |0,p=>match p with
  |.undef| .au _ _ _| .aH _ _ _=>False
  |_=>True
 | k+1,p=>match p with
  |.undef=>False
  |.au β _ _=>aM β=false
  |.aH γ o n=>match fr γ with
   |.aF ba _ _ xs=>ba=γ/\aM γ=false/\o+n<=xs.length/\∀x∈(xs.drop o).take n,∀c∈x.aX,BR fr k c
   |_=>False
  |_=>True
theorem adX{tmps:Array Value}(h:Qr C ρ fr hp tmps w){β b:Nat}{hb:HB}{l:List Nat}(hB:aM β=false)(aj:hp β=some hb)(hl:β∈l)(bl:ρ β=some b):¬aE C ρ (Qx hp l) b:=by
 have aU:=(h.own β hb aj).cD;rw[bl]at aU;rintro(hx|⟨γ,hg,h1,h2,h3⟩)
 ·exact Ctx.EJ aU.1 (xA hB) hx
 ·obtain⟨iL,g1,_,_,_,_,g6⟩:=zf h1;have:=h.inj γ β b (by simp[g1]) (by simp[aj]) h3 bl;subst this;exact g6 h2 hl
theorem ZG{cs:List PV}(h:∀c∈cs,c.cells=[c]):(BO cs).cells=cs:=by
 match cs,h with
 | [],_=>rfl
 | [c],h=>exact h c (by simp)
 |_::_::_,_=>rfl
theorem IB{tmps:Array Value}(h:Qr C ρ fr hp tmps w){l:List Nat}:∀(k:Nat) {p:PV} {v:Value},cz C ρ hp w p v->BR fr k p->(∀β∈rT fr k p,β∈l)->Qp w (aE C ρ (Qx hp l)) (ob fr hp k p) v
 |0,p,v,hr,ho,_=>by
  cases p with
  |undef=>cases ho
  |au=>cases ho
  |aH=>cases ho
  |_=>exact Qp.freeze hr
 | k +1,p,v,hr,ho,hl=>by
  cases p with
  |undef=>cases ho
  |au β o n=>
   obtain⟨hb,aj⟩:∃hb,hp β=some hb:=by obtain⟨_,hb,h1,_⟩:=hr;exact⟨hb,h1⟩
   have:=eh.snap h hr.2 ho (hl β (by simp[rT])) aj;simp only[ob,aj];exact this
  | aH γ o n=>
   simp only[BR]at ho;split at ho
   ·rename_i ba e ty xs ah;obtain⟨rfl,hY,J4,J5⟩:=ho;have bc:=h.cH ba;rw[ah]at bc;obtain⟨k0,he,b,hb,cur,cap,k1,k2,k3,k4,k5,k6,k7,k8,k9,BL,yM⟩:=bc;obtain⟨_,dN,b2,AN,g1,g2,rfl,g4,g5,g6⟩:=hr;rw[k2]at g1;cases g1;rw[k1]at g2;cases g2;have im:ba∈l:=hl ba (by simp[rT,ah]);have hX:=adX (l:=l) h hY k2 im k1;have aq:=(Kbm.1 k6).1;obtain⟨cur',ty',d1,d2⟩:=g4;rw[k6]at d1;cases d1;rw[k4]at d2;have fU:cap=o+AN:=KbA he (by rw[<-k7,<-d2]);have key:∀i (x:PV),((xs.drop o).take n)[i]? =some x->i<n/\xs[o+i]? =some x:=fun i x hx=>by
     have hi:i<n:=by have:=(Kaf.1 hx).1;simp at this;omega
     rw[KaH hi,Ka5]at hx;exact⟨hi,hx⟩
    have RD:∀i (x:PV),((xs.drop o).take n)[i]? =some x->∀j (y:PV),x.aX[j]? =some y->Qp w (aE C ρ (Qx hp l)) (ob fr hp k y) (cur.getD ((o+i)*e+j) undef):=fun i x hx j y hy=>by have nB:=Kaj hx;refine IB h k (yM (o+i) x (key i x hx).2 j y hy) (J5 x nB y (Kaj hy)) fun β aj=>hl β ?_;simp only[rT,ah];exact KaZ _ (Kap.2 ⟨x,nB,Kap.2 ⟨y,Kaj hy,aj⟩⟩)
    have rF:∀i (x:PV),((xs.drop o).take n)[i]? =some x->(BO (x.aX.map (ob fr hp k))).cells=x.aX.map (ob fr hp k):=fun i x hx=>by refine ZG fun c hc=>?_;obtain⟨y,hy,rfl⟩:=KaF.1 hc;obtain⟨j,hj⟩:=KaB hy;exact(RD i x hx j y hj).rS.2.2
    simp only[ob,ah];have hlen:(((xs.drop o).take n).map fun x=>BO (x.aX.map (ob fr hp k))).length=n:=by simp;omega
    have:=Qp.sl (w:=w) (X:=aE C ρ (Qx hp l)) e (((xs.drop o).take n).map fun x=>BO (x.aX.map (ob fr hp k))) b (o*hb.e) AN (fun i j=>cur.getD ((o+i)*e+j) undef) hX aq (by omega) (by omega)
     (fun i x hx=>by simp only[Kat,Kaa]at hx;obtain⟨x0,bY,rfl⟩:=hx;rw[rF i x0 bY,Ka0];exact BL _ x0 (key i x0 bY).2)
     (fun i hi j hj=>by rw[hlen]at hi;rw[k4];have:=mR (i:=o+i) (e:=e) (o:=0) (j:=j) (n:=e) (cap:=cap) (by omega) (by omega) hj;rw[KaO]at this;rw[show o*e+i*e+j=(o+i)*e+j by rw[KaG]];exact kR k6 (by rw[k7];exact this))
     (fun i x hx j y hy=>by simp only[Kat,Kaa]at hx;obtain⟨x0,bY,rfl⟩:=hx;rw[rF i x0 bY,Kat,Kaa]at hy;obtain⟨y0,cU,rfl⟩:=hy;exact RD i x0 bY j y0 cU)
    rw[hlen]at this;exact this
   ·exact ho.elim
  |_=>exact Qp.freeze hr
def Cj(fr:Fr)(hp:HP)(k:Nat):PV->PV
 |.aK cs=>.agg (cs.map (ob fr hp k))
 |p=>ob fr hp k p
def y5(fr:Fr)(k:Nat):PV->List Nat
 |.aK cs=>cs.flatMap (rT fr k)
 |p=>rT fr k p
def TS(fr:Fr)(k:Nat):PV->Prop
 |.aK cs=>∀c∈cs,BR fr k c
 |.aH γ o n=>BR fr k (.aH γ o n)
 |_=>False
theorem agQ(s k:Nat)(ho:TS fr k (fr s)):Wk fr hp (ae fr s (Cj fr hp k (fr s))) (Qx hp (y5 fr k (fr s))):=by
 rintro C tmps w ⟨ρ,hs⟩;have hf:=hs.freeze (y5 fr k (fr s));refine⟨ρ,hf.sz,hf.ext,hf.eG,hf.own,hf.inj,fun i=>?_⟩;unfold ae;split
 ·rename_i hi;subst hi;have bc:=hs.cH i;generalize aw:fr i=p at *
  cases p with
  |aK cs=>obtain⟨vs,e1,h1,h2⟩:=bc;refine⟨vs,e1,by simpa using h1,fun j x hj=>?_⟩;simp only[Kat,Kaa]at hj;obtain⟨y,hy,rfl⟩:=hj;exact IB hs k (h2 j y hy) (ho y (Kaj hy)) fun β aj=>Kap.2 ⟨y,Kaj hy,aj⟩
  |aH γ o n=>have:=IB (l:=rT fr k (.aH γ o n)) hs k (p:=.aH γ o n) bc ho (fun β aj=>aj);exact Qm.lG (Q6.qB this)
  |_=>cases ho
 ·exact hf.cH i
end Go.FW
