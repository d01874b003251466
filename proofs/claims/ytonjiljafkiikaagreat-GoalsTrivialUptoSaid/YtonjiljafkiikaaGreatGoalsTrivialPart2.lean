/- Part 2 of the proof of GoalsTrivial: FwP, FwQ, FwR, FwS, FwT, FwU, FwV, FwW, FwX, FwY, FwZ, FwBA, FwBB, FwBC, FwBD, FwBE, FwBF, FwBG, FwBH, FwCA, FwCB, FwCC, FwCD, FwCE, FwCF, FwCG, FwCH, FwCI, FwCJ, FwCK, FwCL, FwMA, FwMB, FwMC, FwPA, FwPB, FwPC, FwSA, FwSB, FwSC, FwTA, FwSet, FwSt, FwUB, FwNA, FwNB, FwND, FwNE. Own lemmas; no conditions. -/
import Derived.Test.YtonjiljafkiikaaGreatGoalsTrivialPart1
import Derived.LoopN
import Derived.ChangeSame
import Derived.ChangeStays
import Derived.Deep.Slices
import Derived.OpenShut
import Derived.RowKit
import Derived.ProofKit
import Derived.JoinedCond
set_option maxHeartbeats 1000000
set_option linter.unusedSimpArgs false
set_option linter.unusedVariables false
set_option linter.unnecessarySimpa false
set_option maxRecDepth 100000
namespace Go.FW
open Go
variable {C : Ctx} {ρ : Nat -> Option Nat} {fr : Fr} {hp : HP} {w : World} {a : Act} {K R : Qg}
structure Fa(C:Ctx)(R:Qg)(sk:List It)(Q:Exit->Act->World->Prop):Prop where
 vz:xJ C (vc C R sk) Q
 ext:∀id cX,FW.bE id sk=some cX->∀fr hp (a:Act) w,a.defers=[]->c8 C fr hp a.tmps w->vc C R cX fr hp->Q (.exit id) a w
 ret:∀fr hp (a:Act) w,a.defers=[]->c8 C fr hp a.tmps w->R fr hp->Q .ret a w
theorem xm{sk:List It}{x y:SC}:vc C R (.c (.seq x y)::sk) fr hp=vc C R (.c x:: .c y::sk) fr hp:=by rw[vc]
theorem wK{sk:List It}{id:Nat}{x:SC}:vc C R (.c (.block id x)::sk) fr hp=vc C R (.c x:: .eb id::sk) fr hp:=by rw[vc]
theorem xd{sk:List It}:vc C R (.c .skip::sk) fr hp=vc C R sk fr hp:=by rw[vc]
theorem CC{sk:List It}{r:RT}:vc C R (.c (.rg r)::sk) fr hp=vc C R (.o r::sk) fr hp:=by rw[vc]
theorem xz{sk:List It}{id:Nat}:vc C R (.eb id::sk) fr hp=vc C R sk fr hp:=by rw[vc]
theorem pO{sk:List It}{J:Qg}:vc C R (.el J::sk) fr hp=J fr hp:=by rw[vc]
theorem xo{sk:List It}:vc C R (.c .ret::sk) fr hp=R fr hp:=by rw[vc]
theorem oq:vc C R [] fr hp=R fr hp:=by rw[vc]
def ow(c:PV)(A B:Prop):Prop:=match c with
 |.bool t=>(t=true->A)/\(t=false->B)
 |_=>False
theorem xe{sk:List It}{c:aD}{x y:SC}:vc C R (.c (.cond c x y)::sk) fr hp=ow (ev fr c) (vc C R (.c x::sk) fr hp) (vc C R (.c y::sk) fr hp):=by rw[vc];rfl
def pP(C:Ctx)(R:Qg)(sk:Option (List It))(fr:Fr)(hp:HP):Prop:=match sk with
 |some sk=>vc C R sk fr hp
 |none=>False
theorem xf{sk:List It}{id:Nat}:vc C R (.c (.exit id)::sk) fr hp=pP C R (FW.bE id sk) fr hp:=by
 rw[vc];unfold pP;split
 ·rename_i h;rw[h]
 ·rename_i h;rw[h]
theorem ri{sk:List It}{x:SC}:vc C R (.c (.loop x)::sk) fr hp=∃(I:Qg)(μ:Fr->HP->Nat),(∃aY au,Wk fr hp aY au/\I aY au)/\∀fr hp,I fr hp->vc C R (.c x:: .el (fun aq hp'=>∃aY au,Wk aq hp' aY au/\I aY au/\μ aY au<μ fr hp)::sk) fr hp:=by rw[vc]
theorem Wk.refl(fr:Fr)(hp:HP):Wk fr hp fr hp:=fun _ _ _ h=>h
theorem Wk.trans{kV dR xS:Fr}{eJ bc kv:HP}(h:Wk kV eJ dR bc)(k:Wk dR bc xS kv):Wk kV eJ xS kv:=fun C t w hs=>k C t w (h C t w hs)
def rS(I:Qg)(μ:Fr->HP->Nat)(n:Nat):Qg:=fun aq hp'=>∃aY au,Wk aq hp' aY au/\I aY au/\μ aY au<n
theorem N8{sk:List It}{x:SC}(I:Qg)(μ:Fr->HP->Nat){aY:Fr}{au:HP}(hw:Wk fr hp aY au)(h0:I aY au)(h:∀fr hp,I fr hp->vc C R (.c x:: .el (rS I μ (μ fr hp))::sk) fr hp):vc C R (.c (.loop x)::sk) fr hp:=by rw[ri];exact⟨I,μ,⟨aY,au,hw,h0⟩,h⟩
theorem YI{s:SC}(h:s.strip= .skip):s= .skip:=by cases s<;>simp[SC.strip]at h⊢
theorem MW{s:SC}(h:s.strip= .ret):s= .ret:=by cases s<;>simp[SC.strip]at h⊢
theorem YJ{s:SC}{id:Nat}(h:s.strip= .exit id):s= .exit id:=by cases s<;>simp[SC.strip]at h ⊢;exact h
theorem MX{s:SC}{id:Nat}{ops:Array Oper}(h:s.strip= .raw id ops):s= .raw id ops:=by cases s<;>simp[SC.strip]at h ⊢;exact h
theorem MY{s a b:SC}(h:s.strip= .seq a b):∃a' b',s= .seq a' b'/\a'.strip=a/\b'.strip=b:=by cases s<;>simp[SC.strip]at h;exact⟨_,_,rfl,h.1,h.2⟩
theorem YK{s a b:SC}{c:aD}(h:s.strip= .cond c a b):∃a' b',s= .cond c a' b'/\a'.strip=a/\b'.strip=b:=by
 cases s with
 |cond c' a' b'=>simp only[SC.strip,SC.cond.injEq]at h;obtain⟨rfl,h1,h2⟩:=h;exact⟨a',b',rfl,h1,h2⟩
 |_=>simp[SC.strip]at h
theorem Ye{s a:SC}{id:Nat}(h:s.strip= .block id a):∃a',s= .block id a'/\a'.strip=a:=by
 cases s with
 |block c' a'=>simp only[SC.strip,SC.block.injEq]at h;obtain⟨rfl,h1⟩:=h;exact⟨a',rfl,h1⟩
 |_=>simp[SC.strip]at h
theorem YL{s a:SC}(h:s.strip= .loop a):∃a',s= .loop a'/\a'.strip=a:=by
 cases s with
 |loop a'=>simp only[SC.strip,SC.loop.injEq]at h;exact⟨a',rfl,h⟩
 |_=>simp[SC.strip]at h
theorem AI(hm:C.P.follows .mixedOrders=true):∀(c:Code)(s:SC)(sk:List It)(Q:Exit->Act->World->Prop)(fr:Fr)(hp:HP)(a:Act)(w:World),
  dN C.P C.N c=some s.strip->Fa C R sk Q->a.defers=[]->c8 C fr hp a.tmps w->vc C R (.c s::sk) fr hp->c.wp C.P Q a w:=by
 intro c;induction c with
 |skip=>intro s sk Q fr hp a w hc hL hd hs hv;simp only[dN,Kaq]at hc;obtain rfl:=YI hc.symm;rw[xd]at hv;exact wp_skip (hL.vz fr hp a w hd hs hv)
 | region id ops draw=>
  intro s sk Q fr hp a w hc hL hd hs hv;simp only[dN]at hc;split at hc
  ·rename_i s' dw;rw[hc]at dw;exact XH hm hL.vz dw hd hs hv
  ·split at hc
   ·rename_i oT;obtain rfl:=MX (Kcm hc).symm;have aav:draw=true:=oT;subst aav;rw[vc]at hv;obtain⟨tmps,defers⟩:=a;simp only at hd hs;subst hd;exact hv tmps w Q hs (fun aq hp' vG w' dw kA=>hL.vz aq hp' _ w' rfl dw kA)
   ·cases hc
 |seq x y gM qM=>
  intro s sk Q fr hp a w hc hL hd hs hv;simp only[dN,Kab,Kaa]at hc;obtain⟨sx,hx,sy,hy,he⟩:=hc;obtain⟨sx,sy,rfl,rfl,rfl⟩:=MY he.symm;rw[xm]at hv;refine wp_seq (gM sx (.c sy::sk) _ fr hp a w hx ⟨fun fr hp a w hd hs hv=>?_,fun id cX he fr hp a w hd hs hv=>?_,fun fr hp a w hd hs hv=>?_⟩ hd hs hv)
  ·exact qM sy sk Q fr hp a w hy hL hd hs hv
  ·exact hL.ext id cX (by simpa[FW.bE]using he) fr hp a w hd hs hv
  ·exact hL.ret fr hp a w hd hs hv
 | cond c x y gM qM=>
  intro s sk Q fr hp a w hc hL hd hs hv;simp only[dN,Kab,Kaa]at hc;obtain⟨pc,jF,sx,hx,sy,hy,he⟩:=hc;obtain⟨sx,sy,rfl,rfl,rfl⟩:=YK he.symm;rw[xe]at hv;obtain⟨ρ,mg⟩:=hs;have hr:=bR mg jF;unfold ow at hv;split at hv
  ·rename_i t ht;rw[ht]at hr;exact wp_cond_split hr.se (fun h=>gM sx sk Q fr hp a w hx hL hd ⟨ρ,mg⟩ (hv.1 h)) (fun h=>qM sy sk Q fr hp a w hy hL hd ⟨ρ,mg⟩ (hv.2 h))
  ·exact hv.elim
 | block id x gM=>
  intro s sk Q fr hp a w hc hL hd hs hv;simp only[dN,Kaa]at hc;obtain⟨sx,hx,he⟩:=hc;obtain⟨sx,rfl,rfl⟩:=Ye he.symm;rw[wK]at hv;refine wp_block (gM sx (.eb id::sk) _ fr hp a w hx ⟨fun fr hp a w hd hs hv=>?_,fun Ld cX he fr hp a w hd hs hv=>?_,fun fr hp a w hd hs hv=>?_⟩ hd hs hv)
  ·rw[xz]at hv;exact hL.vz fr hp a w hd hs hv
  ·simp only[FW.bE]at he;simp only[Exit.inBlock];by_cases hi:id=Ld
   ·subst hi;simp only[if_true]at he ⊢;cases he;exact hL.vz fr hp a w hd hs hv
   ·rw[if_neg hi]at he;rw[if_neg (fun e=>hi e.symm)];exact hL.ext Ld cX he fr hp a w hd hs hv
  ·exact hL.ret fr hp a w hd hs hv
 | loop x gM=>
  intro s sk Q fr hp a w hc hL hd hs hv;simp only[dN,Kaa]at hc;obtain⟨sx,hx,he⟩:=hc;obtain⟨sx,rfl,rfl⟩:=YL he.symm;rw[ri]at hv;obtain⟨I,μ,⟨aY,au,hwk,h0⟩,abd⟩:=hv;have key:∀(n:Nat)(fr:Fr)(hp:HP)(a:Act)(w:World),μ fr hp<n->I fr hp->a.defers=[]->c8 C fr hp a.tmps w->Code.rounds C.P x Q n a w:=by
   intro n;induction n with
   |zero=>intro _ _ _ _ h;omega
   | succ n ih=>
    intro fr hp a w ak hI hd hs;rw[rounds_succ];refine gM sx _ _ fr hp a w hx ⟨fun aq hp' a' w' qq dw kA=>?_,fun id cX he fr hp a w hd hs hv=>?_,fun fr hp a w hd hs hv=>?_⟩ hd hs (abd fr hp hI)
    ·rw[pO]at kA;obtain⟨dR,bc,hw2,ZM,qy⟩:=kA;exact ih dR bc a' w' (by omega) ZM qq (hw2 _ _ _ dw)
    ·exact hL.ext id cX (by simpa[FW.bE]using he) fr hp a w hd hs hv
    ·exact hL.ret fr hp a w hd hs hv
  exact wp_loop_rounds (μ aY au+1) (key _ aY au a w (Kcb _) h0 hd (hwk _ _ _ hs))
 | exit id=>
  intro s sk Q fr hp a w hc hL hd hs hv;simp only[dN,Kaq]at hc;obtain rfl:=YJ hc.symm;rw[xf]at hv;unfold pP at hv;split at hv
  ·rename_i cX he;exact wp_exit (hL.ext id cX he fr hp a w hd hs hv)
  ·exact hv.elim
 |ret=>intro s sk Q fr hp a w hc hL hd hs hv;simp only[dN,Kaq]at hc;obtain rfl:=MW hc.symm;rw[xo]at hv;exact wp_ret (hL.ret fr hp a w hd hs hv)
 |_=>intro s sk Q fr hp a w hc;simp[dN]at hc
theorem AW(hm:C.P.follows .mixedOrders=true)(c:Code)(s:SC)(sk:List It)(Q:Exit->Act->World->Prop)(fr:Fr)(hp:HP)(a:Act)(w:World)
  (hc:dN C.P C.N c=some s) (hL:Fa C R sk Q) (hd:a.defers=[]) (hs:c8 C fr hp a.tmps w) (hv:vc C R (.c s::sk) fr hp):c.wp C.P Q a w:=
 AI hm c s sk Q fr hp a w (by rw[Xl _ _ hc];exact hc) hL hd hs hv
def PV.jf:PV->PV->Prop
 |.aa,.sl _ []=>True
 |p,q=>p=q
def PV.vr:List PV->List PV->Prop
 | [],[]=>True
 |p::ps,q::qs=>PV.jf p q/\PV.vr ps qs
 |_,_=>False
def PV.le:PV->PV->Prop
 |.agg ps,.agg qs=>PV.vr ps qs
 |p,q=>PV.jf p q
def PV.yO:List PV->List PV->Prop
 | [],[]=>True
 |p::ps,q::qs=>PV.le p q/\PV.yO ps qs
 |_,_=>False
def PV.vt:PV->PV->Prop
 |.aJ ps,.aJ qs=>PV.yO ps qs
 |p,q=>PV.le p q
theorem tG(p:PV):PV.jf p p:=by cases p<;>first|rfl|(unfold PV.jf;split<;>trivial)
theorem IE:∀(l:List PV),PV.vr l l
 | []=>trivial
 |p::ps=>⟨tG p,IE ps⟩
theorem cf(p:PV):PV.le p p:=by cases p<;>first|exact IE _|(simp only[PV.le];exact tG _)
theorem Qo.le{X:Nat->Prop}{p q:PV}{v:Value}(h:Qo w X p v)(hl:PV.jf p q):Qo w X q v:=by
 unfold PV.jf at hl;split at hl
 ·cases h;exact .gB _ _ _ (KbE _)
 ·subst hl;exact h
theorem Jm:∀(ps qs:List PV),PV.vr ps qs->qs.length=ps.length/\∀(i:Nat)(q:PV),qs[i]? =some q->∃p,ps[i]? =some p/\PV.jf p q
 | [],[],_=>⟨rfl,by simp⟩
 | [],_::_,h=>h.elim
 |_::_,[],h=>h.elim
 |p::ps,q::qs,h=>by
  obtain⟨h1,h2⟩:=Jm ps qs h.2;refine⟨by simp[h1],fun i x hx=>?_⟩;cases i with
  |zero=>simp at hx;subst hx;exact⟨p,rfl,h.1⟩
  |succ i=>simp at hx;simpa using h2 i x hx
theorem Cb:∀(ps qs:List PV),PV.yO ps qs->qs.length=ps.length/\∀(i:Nat)(q:PV),qs[i]? =some q->∃p,ps[i]? =some p/\PV.le p q
 | [],[],_=>⟨rfl,by simp⟩
 | [],_::_,h=>h.elim
 |_::_,[],h=>h.elim
 |p::ps,q::qs,h=>by
  obtain⟨h1,h2⟩:=Cb ps qs h.2;refine⟨by simp[h1],fun i x hx=>?_⟩;cases i with
  |zero=>simp at hx;subst hx;exact⟨p,rfl,h.1⟩
  |succ i=>simp at hx;simpa using h2 i x hx
theorem aV.le{X:Nat->Prop}{p q:PV}{v:Value}(h:aV w X p v)(hl:PV.le p q):aV w X q v:=by
 by_cases hp:∃ps,p= .agg ps
 ·obtain⟨ps,rfl⟩:=hp;by_cases hq:∃qs,q= .agg qs
  ·obtain⟨qs,rfl⟩:=hq;obtain⟨h1,h2⟩:=Jm ps qs hl;obtain⟨vs,rfl,g1,g2⟩:=h;refine⟨vs,rfl,by omega,fun i x hx=>?_⟩;obtain⟨p,hp,hle⟩:=h2 i x hx;exact(g2 i p hp).le hle
  ·have:PV.jf (.agg ps) q:=by cases q<;>first|exact hl|exact absurd ⟨_,rfl⟩ hq
   have:q= .agg ps:=by
    unfold PV.jf at this;split at this
    ·rename_i h1;cases h1
    ·exact this.symm
   exact absurd ⟨_,this⟩ hq
 ·have h1:Qo w X p v:=by cases p<;>first|exact h|exact absurd ⟨_,rfl⟩ hp
  have h2:PV.jf p q:=by cases p<;>first|exact hl|exact absurd ⟨_,rfl⟩ hp
  exact aV.mr (h1.le h2)
theorem dn.le{X:Nat->Prop}{p q:PV}{v:Value}(h:dn w X p v)(hl:PV.vt p q):dn w X q v:=by
 by_cases hp:∃ps,p= .aJ ps
 ·obtain⟨ps,rfl⟩:=hp;by_cases hq:∃qs,q= .aJ qs
  ·obtain⟨qs,rfl⟩:=hq;obtain⟨h1,h2⟩:=Cb ps qs hl;obtain⟨vs,rfl,g1,g2⟩:=h;refine⟨vs,rfl,by omega,fun i x hx=>?_⟩;obtain⟨p,hp,hle⟩:=h2 i x hx;exact(g2 i p hp).le hle
  ·have:PV.le (.aJ ps) q:=by cases q<;>first|exact hl|exact absurd ⟨_,rfl⟩ hq
   have:PV.jf (.aJ ps) q:=this;have:q= .aJ ps:=by
    unfold PV.jf at this;split at this
    ·rename_i h1;cases h1
    ·exact this.symm
   exact absurd ⟨_,this⟩ hq
 ·have h1:aV w X p v:=by cases p<;>first|exact h|exact absurd ⟨_,rfl⟩ hp
  have h2:PV.le p q:=by cases p<;>first|exact hl|exact absurd ⟨_,rfl⟩ hp
  exact dn.Li (h1.le h2)
def kQ (P : Program) (f : FuncId) : Prop := (P.funcs[f]?).any (fun fn => fn.body.isSome && fn.name != "runtime.NumGoroutine") = true
def Qd(P:Program)(f:FuncId)(args:List PV)(R:PV->Prop):Prop:=
 kQ P f/\∀(w:World)(X:Nat->Prop)(aQ:Array Value),(∀b,X b->b<w.heap.size)->aQ.size=args.length->(∀(i:Nat)(x:PV),args[i]? =some x->aV w X x (aQ.getD i undef))->
  Calls P f aQ w fun e w'=>∃v r,e= .returned v/\Ext bO w w'/\dn w' X r v/\R r
theorem Qd.le{P:Program}{f:FuncId}{args args':List PV}{R:PV->Prop}(h:Qd P f args R)(hl:PV.yO args' args):Qd P f args' R:=by obtain⟨h1,h2⟩:=Cb _ _ hl;refine⟨h.1,fun w X aQ g1 g2 g3=>h.2 w X aQ g1 (by omega) (fun i x hx=>?_)⟩;obtain⟨p,hp,hle⟩:=h2 i x hx;exact(g3 i p hp).le hle
def fO(args:List PV):Fr:=fun i=>(args[i]?).getD .undef
def gz(fr:Fr)(hp:HP):RV->Prop
 |.t s=>(Qy hp (fr s)).ax=true
 |.cell s n ag=>match fr s with
  |.mp β i o=>match hp β with
   |some hb=>i<hb.xs.length/\o+n<=hb.e/\(ag=false->n=1)
   |none=>False
  |_=>False
def fV(fr:Fr)(hp:HP):RV->PV
 |.t s=>Qy hp (fr s)
 |.cell s n ag=>match fr s with
  |.mp β i o=>match hp β with
   |some hb=>dk ag n o ((hb.xs[i]?).getD .undef)
   |none=>.undef
  |_=>.undef
def eg(rs:List RV)(R:PV->Prop):Qg:=fun fr hp=>match rs with
 | [r]=>gz fr hp r/\∃p,PV.le (fV fr hp r) p/\R p
 |rs=>(∀r∈rs,gz fr hp r)/\∃p,PV.vt (.aJ (rs.map (fV fr hp))) p/\R p
def gd(tmps:Array Value):ResultVar->Sem Value
 |.tmp t=>pure (tmps.getD t undef)
 |.cell x t=>do loadVar t (<-asAddr (tmps.getD x undef))
def lr(fr:Fr):RV->List Nat
 |.t s=>(fr s).refs
 |.cell _ _ _=>[]
theorem IF{l l':List Nat}(h:∀β∈l,β∈l'){b:Nat}(hx:ay C ρ (bq hp l') b):ay C ρ (bq hp l) b:=by
 rcases hx with hx|⟨γ,hg,h1,h2,h3⟩
 ·exact .inl hx
 ·obtain⟨kZ,g1,_,_,_,g5,g6⟩:=s8 h1;refine .inr ⟨γ,kZ,?_,by rw[<-g5 h2];exact h2,h3⟩;have hn:γ ∉ l:=fun hl=>g6 h2 (h γ hl);unfold bq;rw[if_neg (by simpa using hn)];exact g1
theorem v7:bq hp []=hp:=by funext β;simp[bq]
theorem LS{p:PV}(h:(Qy hp p).ax=true):∀β∈p.refs,aF β=false:=by
 have h1:∀q:PV,(bS hp q).eK=true->∀β∈q.bb,aF β=false:=by
  intro q hq β ah;cases q with
  |mp γ i o=>simp only[PV.bb,KaQ]at ah;subst ah;cases hy:aF β with
   |false=>rfl
   |true=>simp[bS,hy,PV.eK]at hq
  |ao γ o n=>simp only[PV.bb,KaQ]at ah;subst ah;cases hy:aF β with
   |false=>rfl
   |true=>simp[bS,hy,PV.eK]at hq
  |rb=>simp[bS,PV.eK]at hq
  |_=>cases ah
 intro β ah;cases p with
 |mp γ i o=>exact h1 (.mp γ i o) (by cases hq:bS hp (.mp γ i o)<;>simp_all[Qy,PV.ax,PV.eK]) β ah
 |ao γ o n=>exact h1 (.ao γ o n) (by cases hq:bS hp (.ao γ o n)<;>simp_all[Qy,PV.ax,PV.eK]) β ah
 |rb=>simp[Qy,bS,PV.ax]at h
 |fn f first cap=>
  simp only[Qy,PV.ax,Kbb,List.all_map,KaB]at h;rcases KaR.1 ah with ah|ah
  ·obtain⟨x,hx,ah⟩:=Kam.1 ah;exact h1 x (h.1 x hx) β ah
  ·obtain⟨x,hx,ah⟩:=Kam.1 ah;exact h1 x (h.2 x hx) β ah
 |_=>cases ah
theorem VK{rv:RV}(h:gz fr hp rv):∀β∈lr fr rv,aF β=false:=by
 cases rv with
 |t s=>exact LS h
 |cell=>intro β ah;cases ah
theorem IG{P:Program}(hP:C.P=P){r:ResultVar}{rv:RV}(hc:eF P r=some rv)(h:Qv C ρ fr hp a.tmps w)(ho:gz fr hp rv):
  ∃v,(gd a.tmps r).run P w= .ok v w/\aV w (ay C ρ (bq hp (lr fr rv))) (fV fr hp rv) v:=by
 subst hP;cases r with
 |tmp t=>simp[eF]at hc;subst hc;exact⟨_,rfl,my h (h.ch t) (fun β ah=>ah) ho⟩
 | cell x t=>
  simp only[eF,Kab,Kaa]at hc;obtain⟨n,hn,ag,fG,rfl⟩:=hc;have hx:=h.ch x;simp only[gz]at ho;split at ho
  ·rename_i β i o kp;rw[kp]at hx;split at ho
   ·rename_i hb ah;obtain⟨h1,h2,h3⟩:=ho;obtain⟨b,cl,g1,g2,g3⟩:=hx.sP;rw[ah]at g2;cases g2;have aT:=h.own β hb ah;have aK:=aT.b8;rw[g1]at aK;obtain⟨_,iq,cur,cap,c1,c2,c3,c4,c5⟩:=aK;have dU:=Kaf h1;have dt:=(aT.len i _ dU).1;have cJ:i<cap:=by omega
    have l8:∀j,j<n->i*hb.e+o+j<cur.size:=fun j hj=>by rw[c2];exact jn cJ h2 hj
    have bz:=s4 (P:=C.P) (t:=t) (b:=b) (off:=i*hb.e+o) (vs:=Array.ofFn (n:=n) fun j=>cur.getD (i*hb.e+o+j.val) undef) hn fG h3 (by simp) w
     (fun j hj=>by rw[mA (f:=fun j=>cur.getD (i*hb.e+o+j) undef) hj];exact gT c1 (l8 j hj))
    obtain⟨V,hV⟩:∃V:Value,V=(if ag then .agg (Array.ofFn (n:=n) fun j=>cur.getD (i*hb.e+o+j.val) undef)else(Array.ofFn (n:=n) fun j=>cur.getD (i*hb.e+o+j.val) undef).getD 0 undef):=⟨_,rfl⟩
    rw[<-hV]at bz;refine⟨V,?_,?_⟩
    ·simp only[gd,g3,asAddr,Kaj,KaK,Kah];exact bz
    ·have:aV w (ay C ρ hp) (dk ag n o (hb.xs[i]'h1)) (if ag then .agg (Array.ofFn (n:=n) fun j=>cur.getD (i*hb.e+o+j.val) undef)else(Array.ofFn (n:=n) fun j=>cur.getD (i*hb.e+o+j.val) undef).getD 0 undef):=
      tK (by simp) (by rw[dt];exact h2) h3 (fun j y hj hy=>by rw[mA (f:=fun j=>cur.getD (i*hb.e+o+j) undef) hj,KbJ];exact c5 i _ dU (o+j) y hy)
     simp only[fV,kp,ah,dU,Kbm];rw[hV];simp only[lr,v7];exact this
   ·exact ho.elim
  ·exact ho.elim
theorem HQ{P:Program}(hP:C.P=P)(h:Qv C ρ fr hp a.tmps w):∀(rl:List ResultVar)(rs:List RV),rl.mapM (eF P)=some rs->(∀r∈rs,gz fr hp r)->
  ∃vs:List Value,vs.length=rs.length/\(rl.mapM (gd a.tmps)).run P w= .ok vs w/\∀(i:Nat)(r:RV),rs[i]? =some r->∃v,vs[i]? =some v/\aV w (ay C ρ (bq hp (rs.flatMap (lr fr)))) (fV fr hp r) v
 | [],rs,hc,_=>by simp at hc;subst hc;exact⟨[],rfl,by simp,by simp⟩
 | x::rl,rs,hc,ho=>by
  rw[KbR]at hc;simp only[KbC,KbV,Kab,Kaq]at hc;obtain⟨r,hr,EU,ct,rfl⟩:=hc;obtain⟨v,h1,h2⟩:=IG hP hr h (ho r (by simp));obtain⟨vs,g1,g2,g3⟩:=HQ hP h rl EU ct (fun q hq=>ho q (by simp[hq]));refine⟨v::vs,by simp[g1],by simp[KbR,Kaj,h1,g2],fun i q hq=>?_⟩;cases i with
  |zero=>simp at hq;subst hq;exact⟨v,rfl,h2.mono (fun _ _ _=>rfl) (fun _ _ hn hx=>hn (IF (fun β ah=>by rw[Kay];exact KbQ _ ah) hx)) (Kae _)⟩
  |succ i=>simp at hq;obtain⟨v',k1,k2⟩:=g3 i q hq;exact⟨v',by simpa using k1,k2.mono (fun _ _ _=>rfl) (fun _ _ hn hx=>hn (IF (fun β ah=>by rw[Kay];exact Kbe _ ah) hx)) (Kae _)⟩
theorem AX{P:Program}(hP:C.P=P){fn:Func}{rs:List RV}{Rr:PV->Prop}(hc:fn.results.toList.mapM (eF P)=some rs)(h:Qv C ρ fr hp a.tmps w)(hr:eg rs Rr fr hp):
  ∃v r,(results fn a.tmps).run P w= .ok v w/\dn w (ay C ρ (bq hp (rs.flatMap (lr fr)))) r v/\(∀β∈rs.flatMap (lr fr),aF β=false)/\Rr r:=by
 have dJ:(∀r∈rs,gz fr hp r):=by
  intro r dS
  match rs,hr,dS with
  | [r0],hr,dS=>simp at dS;subst dS;exact hr.1
  | [],hr,dS=>cases dS
  |r0::r1::rest,hr,dS=>exact hr.1 r dS
 have hN:∀β∈rs.flatMap (lr fr),aF β=false:=fun β ah=>by obtain⟨r,hr,ah⟩:=Kam.1 ah;exact VK (dJ r hr) β ah
 obtain⟨vs,hlen,bz,sK⟩:=HQ hP h _ rs hc dJ;have ej:(results fn a.tmps).run P w= .ok (if h:vs.toArray.size=1 then vs.toArray[0]else .tuple vs.toArray) w:=by
  have e:results fn a.tmps=(do let vs<-fn.results.mapM (gd a.tmps);pure (if h:vs.size=1 then vs[0]else .tuple vs)):=rfl;rw[e,Kbj];simp only[Kaj];have h2:(List.toArray<$>fn.results.toList.mapM (gd a.tmps):Sem (Array Value)).run P w= .ok vs.toArray w:=by simp[bz]
  rw[h2];rfl
 match rs,hr,hlen,sK,hN with
 | [r0],hr,hlen,sK,hN=>
  have h1:vs.toArray.size=1:=by simpa using hlen
  rw[dif_pos h1]at ej;obtain⟨v,h2,h3⟩:=sK 0 r0 rfl;have e:vs.toArray[0]=v:=by
   have:vs[0]? =some (vs.toArray[0]):=by simp[hlen]
   rw[h2]at this;exact(Kcm this).symm
  rw[e]at ej;obtain⟨_,p,hle,uF⟩:=hr;exact⟨_,_,ej,dn.Li (h3.le hle),hN,uF⟩
 | [],hr,hlen,sK,hN=>
  have h1:¬vs.toArray.size=1:=by simp[hlen]
  rw[dif_neg h1]at ej;obtain⟨_,p,hle,uF⟩:=hr;exact⟨_,_,ej,dn.le (p:=.aJ []) ⟨vs.toArray,rfl,by simp[hlen],by simp⟩ hle,hN,uF⟩
 |r0::r1::rest,hr,hlen,sK,hN=>
  have h1:¬vs.toArray.size=1:=by simp[hlen]
  rw[dif_neg h1]at ej;obtain⟨_,p,hle,uF⟩:=hr;refine⟨_,_,ej,dn.le (p:=.aJ ((r0::r1::rest).map (fV fr hp))) ⟨vs.toArray,rfl,by simp[hlen],fun i x hx=>?_⟩ hle,hN,uF⟩;simp only[Kap,Kaa]at hx;obtain⟨rv,hrv,rfl⟩:=hx;obtain⟨v,h2,h3⟩:=sK i rv hrv;rw[pk,Kad,h2];exact h3
theorem HR{P:Program}(hP:C.P=P){fn:Func}{rs:List RV}{Rr:PV->Prop}(hc:fn.results.toList.mapM (eF P)=some rs)(h:Qv C ρ fr hp a.tmps w)(hr:eg rs Rr fr hp):
  ∃v r,(results fn a.tmps).run P w= .ok v w/\dn w C.X0 r v/\Rr r:=by
 obtain⟨v,r,h1,h2,_,h3⟩:=AX hP hc h hr;exact⟨v,r,h1,h2.mono (fun _ _ _=>rfl) (fun _ _ hn hx=>hn (.inl hx)) (Kae _),h3⟩
theorem LU{P:Program}(hP:C.P=P){fn:Func}{rs:List RV}{Rr:PV->Prop}(hc:fn.results.toList.mapM (eF P)=some rs)(h:Qv C ρ fr hp a.tmps w)(hr:eg rs Rr fr hp)
  {X:Nat->Prop} (hX:∀c,X c->C.X0 c∨∃β hb,aF β=true/\hp β=some hb/\hb.fz=false/\ρ β=some c):
  ∃v r,(results fn a.tmps).run P w= .ok v w/\dn w X r v/\Rr r:=by
 obtain⟨v,r,h1,h2,h3,h4⟩:=AX hP hc h hr;refine⟨v,r,h1,h2.mono (fun _ _ _=>rfl) (fun c _ hn hx=>hn ?_) (Kae _),h4⟩;rcases hX c hx with hx|⟨β,hb,k1,k2,k3,k4⟩
 ·exact .inl hx
 ·refine .inr ⟨β,hb,?_,k3,k4⟩;have hn:β ∉ rs.flatMap (lr fr):=fun hl=>by rw[h3 β hl]at k1;cases k1
  unfold bq;rw[if_neg (by simpa using hn)];exact k2
theorem Qf {P : Program} {f : FuncId} {fn : Func} {sf : aw} {args : List PV} {Rr : PV -> Prop} (hm : P.follows .mixedOrders = true) (hf : P.funcs[f]? = some fn) (kt : (fn.name != "runtime.NumGoroutine") = true) (hc : Qe P fn = some sf) (hn : args.length <= sf.n /\ sf.n <= 1000000)
  (hv:∀C:Ctx,C.P=P->vc C (eg sf.rs Rr) [.c sf.body] (fO args) au):Qd P f args Rr:=by
 simp only[Qe,Kab,Kaa]at hc;obtain⟨c,hb,sb,gk,rs,ct,rfl⟩:=hc;refine⟨by simp[kQ,hf,hb];simpa using kt,fun w X aQ hX dL ed=>?_⟩
 let C:Ctx:=Ctx.plain P fn.ntmps w X hX hn.2
 refine calls_of_wp hf hb ?_;have mW:(aQ++Array.replicate (fn.ntmps-aQ.size) undef).size=fn.ntmps:=by simp at hn ⊢;omega
 have kx:c8 C (fO args) au (aQ++Array.replicate (fn.ntmps-aQ.size) undef) w:=by
  refine⟨fun _=>none,mW,Ext.refl _ _,(fun _ _ h=>by cases h),by simp[au],by simp[au],fun i=>?_⟩;unfold fO;cases hi:args[i]? with
  |none=>trivial
  | some p=>
   simp only[Kbm];have fe:i<aQ.size:=by rw[dL];exact(Kac.1 hi).1
   have hr:=ed i p hi;have e:(aQ++Array.replicate (fn.ntmps-aQ.size) undef).getD i undef=aQ.getD i undef:=by rw[gD,if_pos fe]
   rw[e];refine Qh.iy (hr.mono (fun _ _ _=>rfl) (fun b _ hn hx=>?_) (Kae _));rcases hx with hx|⟨_,_,h1,_⟩
   ·exact hn hx
   ·simp[au]at h1
 have fin:∀(fr:Fr)(hp:HP)(a:Act)(w':World),a.defers=[]->c8 C fr hp a.tmps w'->eg rs Rr fr hp->
   a.defers=[]/\∃v,(results fn a.tmps).run P w'= .ok v w'/\∃v' r,Ending.returned v= .returned v'/\Ext bO w w'/\dn w' X r v'/\Rr r:=by
  intro fr hp a w' hd ⟨ρ,hs⟩ hr;obtain⟨v,r,h1,h2,h3⟩:=HR (C:=C) rfl ct hs hr;exact⟨hd,v,h1,v,r,rfl,Ctx.ER hs.ext,h2,h3⟩
 exact AW (C:=C) (R:=eg rs Rr) hm c sb [] _ (fO args) au _ w gk ⟨fun fr hp a w' hd hs hv=>(by rw[oq]at hv;exact fin fr hp a w' hd hs hv),fun id cX he=>(by simp[FW.bE]at he),fin⟩ rfl kx (hv C rfl)
end Go.FW
namespace Go.FW
open Go
variable {C : Ctx} {ρ : Nat -> Option Nat} {fr : Fr} {hp : HP} {w : World} {a : Act} {K R : Qg}
def ew(fr:Fr)(d:Option Nat)(r:PV):Fr:=match d with|some d=>ae fr d r|none=>fr
theorem Qh.yT{p:PV}{v:Value}(h:dn w (ay C ρ hp) p v):Qh C ρ hp w p v:=by
 cases p with
 |aJ ps=>exact h
 |_=>exact Qh.iy h
theorem tZ{tmps:Array Value}(h:Qv C ρ fr hp tmps w):∀b,ay C ρ hp b->b<w.heap.size:=by
 rintro b (hx|⟨β,hb,h1,_,h3⟩)
 ·exact Ka7 (C.ye b hx) h.ext.size
 ·have:=(h.own β hb h1).b8;rw[h3]at this;exact this.2.1
theorem Qv.yZ{tmps:Array Value}{d:Option Nat}(h:Qv C ρ fr hp tmps w){p:PV}{v:Value}(hv:Qh C ρ hp w p v)(hd:∀x,d=some x->x<C.N):Qv C ρ (ew fr d p) hp (oB tmps d v) w:=by
 cases d with
 |some d=>exact h.ae hv (hd d rfl)
 |none=>exact h
theorem IH{tmps:Array Value}{first cap args:List PV}{fv cv av:Array Value}(hs:Qv C ρ fr hp tmps w)(h1:fv.size=first.length)(_h2:cv.size=cap.length)(h3:av.size=args.length)
  (me:∀(i:Nat)(x:PV),first[i]? =some x->cg C ρ hp w x (fv.getD i undef)) (jb:∀(i:Nat)(x:PV),cap[i]? =some x->cg C ρ hp w x (cv.getD i undef)) (mf:∀(i:Nat)(x:PV),args[i]? =some x->Qh C ρ hp w x (av.getD i undef))
  (cQ:((first++args++cap).map (Qy hp)).all PV.ax=true):
  ∀(i:Nat)(x:PV),((first++args++cap).map (Qy hp))[i]? =some x->aV w (ay C ρ (bq hp ((first++args++cap).flatMap PV.refs))) x ((fv++av++cv).getD i undef):=by
 intro i x hx;rw[KaB]at cQ;have fI:=cQ x (Kag hx);simp only[Kap,Kaa]at hx;obtain⟨p,hp',rfl⟩:=hx;have sD:=Kag hp';have hl:∀β∈p.refs,β∈(first++args++cap).flatMap PV.refs:=fun β ah=>Kam.2 ⟨p,sD,ah⟩;have Lv:∀ {p:PV} {v:Value},cg C ρ hp w p v->(Qy hp p).ax=true->Qh C ρ hp w p v:=by
  intro p v hr hd;cases p with
  |undef=>trivial
  |mp=>exact hr
  |ao=>exact hr
  |rb=>exact hr
  |np=>exact hr
  |aB=>exact hr
  |_=>exact Qh.iy (aV.mr hr)
 rw[gD];rw[KaN]at hp';by_cases c1:i<(first++args).length
 ·rw[if_pos c1]at hp';rw[if_pos (by simp only[KbT,h1,h3];simpa using c1),gD];rw[KaN]at hp';by_cases c2:i<first.length
  ·rw[if_pos c2]at hp';rw[if_pos (by omega)];exact my hs (Lv (me i p hp') fI) hl fI
  ·rw[if_neg c2]at hp';rw[if_neg (by omega),h1];exact my hs (mf _ p hp') hl fI
 ·rw[if_neg c1]at hp';have dL:(fv++av).size=(first++args).length:=by simp[h1,h3]
  rw[if_neg (by omega),dL];exact my hs (Lv (jb _ p hp') fI) hl fI
theorem HS{P:Program}(hP:C.P=P){g:FuncId}{first cap args aM:List PV}{pr:Bool}{d:Option Nat}{Rr:PV->Prop}(h:Qd P g aM Rr)(cr:(first++args++cap).map (Qy hp)=aM)(cQ:aM.all PV.ax=true)
  (hK:∀r,Rr r->K (ew fr d r) (bq hp ((first++args++cap).flatMap PV.refs))):ez C pr (.fn g first cap) args d fr hp K:=by
 subst hP;refine⟨h.1,fun ρ tmps w fv cv av lZ hs h1 h2 h3 me jb mf=>?_⟩;have hf:=hs.freeze ((first++args++cap).flatMap PV.refs);refine(h.2 w _ (fv++av++cv) (tZ hf) (by rw[<-cr];simp[h1,h2,h3]) (by rw[<-cr];exact IH hs h1 h2 h3 me jb mf (by rw[cr];exact cQ))).mono ?_;rintro e w' ⟨v,r,rfl,hx,hr,ZP⟩;exact⟨v,_,_,rfl,⟨ρ,(hf.grow hx).yZ (Qh.yT hr) lZ⟩,fun _=>hx,hK r ZP⟩
theorem gX{P:Program}(hP:C.P=P){g:FuncId}{first cap args aM:List PV}{pr:Bool}{d:Option Nat}{r:PV}(h:Qd P g aM (· =r))(cr:(first++args++cap).map (Qy hp)=aM)(cQ:aM.all PV.ax=true)
  (hK:K (ew fr d r) (bq hp ((first++args++cap).flatMap PV.refs))):ez C pr (.fn g first cap) args d fr hp K:=
 HS hP h cr cQ (fun _ hr=>hr▸hK)
def PV.EI:PV->Bool
 |.int .. | .bool _=>true
 |.aJ ps=>ps.all fun p=>match p with| .int .. | .bool _=>true|_=>false
 |_=>false
theorem N9{X X':Nat->Prop}{p:PV}{v:Value}(hs:p.EI=true)(h:dn w X p v):dn w X' p v:=by
 have one:∀(p:PV)(v:Value),(match p with| .int .. | .bool _=>true|_=>false:Bool)=true->aV w X p v->aV w X' p v:=by
  intro p v hs h;cases p with
  |int k n=>cases h;exact Qo.int k n
  |bool b=>cases h;exact Qo.bool b
  |_=>cases hs
 cases p with
 |int k n=>exact one (.int k n) v rfl h
 |bool b=>exact one (.bool b) v rfl h
 |aJ ps=>obtain⟨vs,rfl,h1,h2⟩:=h;simp only[PV.EI,KaB]at hs;exact⟨vs,rfl,h1,fun i x hx=>one x _ (hs x (Kag hx)) (h2 i x hx)⟩
 |_=>cases hs
def lM(C:Ctx)(R:Qg)(c:PV)(x y:SC)(sk:List It)(fr:Fr)(hp:HP):Prop:=ow c (vc C R (.c x::sk) fr hp) (vc C R (.c y::sk) fr hp)
def qd(C:Ctx)(R:Qg)(x y:RT)(sk:List It)(fr:Fr)(hp:HP):Prop:=vc C R (.o x::sk) fr hp/\vc C R (.o y::sk) fr hp
def e7(C:Ctx)(p:PV)(s:Nat)(want:Bool)(o:bN)(fr:Fr)(hp:HP)(K:Qg):Prop:=match p with
  |.bool t=>(t=want->aS C o (ae fr s (.bool want)) hp K)/\(t=(!want)->fL o (ae fr s (.bool !want)) hp K)
  |.aJ []=>fL o fr hp K
  |_=>False
theorem Qb{p:Prop}[Decidable p]{x y:SC}{sk:List It}(h1:p->vc C R (.c x::sk) fr hp)(h2:¬p->vc C R (.c y::sk) fr hp):lM C R (.bool (decide p)) x y sk fr hp:=
 ⟨fun h=>h1 (of_decide_eq_true h),fun h=>h2 (of_decide_eq_false h)⟩
theorem tk{b:Bool}{x y:SC}{sk:List It}(h1:b=true->vc C R (.c x::sk) fr hp)(h2:b=false->vc C R (.c y::sk) fr hp):lM C R (.bool b) x y sk fr hp:=⟨h1,h2⟩
theorem ep{p:Prop}[Decidable p]{s:Nat}{o:bN}(h1:p->e7 C (.bool true) s true o (ae fr s (.bool true)) hp K)(h2:¬p->e7 C (.bool false) s true o (ae fr s (.bool false)) hp K):e7 C (.bool (decide p)) s true o fr hp K:=by
 have hu:∀(b:Bool),ae (ae fr s (.bool b)) s (.bool b)=ae fr s (.bool b):=fun b=>by funext i;unfold ae;split<;>rfl
 refine⟨fun h=>?_,fun h=>?_⟩
 ·have:=(h1 (of_decide_eq_true h)).1 rfl
  rwa[hu]at this
 ·have:=(h2 (of_decide_eq_false h)).2 rfl
  rwa[show(!true)=false from rfl,hu]at this
theorem Q6{p:Prop}[Decidable p]{s:Nat}{o:bN}(h1:p->e7 C (.bool true) s false o (ae fr s (.bool true)) hp K)(h2:¬p->e7 C (.bool false) s false o (ae fr s (.bool false)) hp K):e7 C (.bool (decide p)) s false o fr hp K:=by
 have hu:∀(b:Bool),ae (ae fr s (.bool b)) s (.bool b)=ae fr s (.bool b):=fun b=>by funext i;unfold ae;split<;>rfl
 refine⟨fun h=>?_,fun h=>?_⟩
 ·have:=(h2 (of_decide_eq_false h)).1 rfl
  rwa[hu]at this
 ·have:=(h1 (of_decide_eq_true h)).2 rfl
  rwa[show(!false)=true from rfl,hu]at this
theorem ra{b want:Bool}{s:Nat}{o:bN}(h1:b=true->e7 C (.bool true) s want o (ae fr s (.bool true)) hp K)(h2:b=false->e7 C (.bool false) s want o (ae fr s (.bool false)) hp K):e7 C (.bool b) s want o fr hp K:=by
 have:= @ep C fr hp K (b=true) _ s o;have e:b=decide (b=true):=by cases b<;>rfl
 rw[e];cases want with
 |true=>exact ep h1 (fun h=>h2 (by simpa using h))
 |false=>exact Q6 h1 (fun h=>h2 (by simpa using h))
theorem N'{sk:List It}{c:aD}{x y:SC}:vc C R (.c (.cond c x y)::sk) fr hp=lM C R (ev fr c) x y sk fr hp:=xe
theorem SW{sk:List It}{x y:RT}:vc C R (.o (.br x y)::sk) fr hp=qd C R x y sk fr hp:=FX
theorem SX{sk:List It}{o:bN}{r:RT}:vc C R (.o (.o none o r)::sk) fr hp=aS C o fr hp (vc C R (.o r::sk)):=uc
theorem SY{sk:List It}{s:Nat}{b:Bool}{o:bN}{r:RT}:vc C R (.o (.o (some (s,b)) o r)::sk) fr hp=e7 C (fr s) s b o fr hp (vc C R (.o r::sk)):=uc
theorem vcs:
  (∀(C:Ctx)(R:Qg)(sk:List It)(x y:SC)(fr:Fr)(hp:HP),vc C R (.c (.seq x y)::sk) fr hp=vc C R (.c x:: .c y::sk) fr hp)/\
  (∀(C:Ctx)(R:Qg)(sk:List It)(id:Nat)(x:SC)(fr:Fr)(hp:HP),vc C R (.c (.block id x)::sk) fr hp=vc C R (.c x:: .eb id::sk) fr hp)/\
  (∀(C:Ctx)(R:Qg)(sk:List It)(fr:Fr)(hp:HP),vc C R (.c .skip::sk) fr hp=vc C R sk fr hp)/\
  (∀(C:Ctx)(R:Qg)(sk:List It)(r:RT)(fr:Fr)(hp:HP),vc C R (.c (.rg r)::sk) fr hp=vc C R (.o r::sk) fr hp)/\
  (∀(C:Ctx)(R:Qg)(sk:List It)(id:Nat)(fr:Fr)(hp:HP),vc C R (.eb id::sk) fr hp=vc C R sk fr hp)/\
  (∀(C:Ctx)(R:Qg)(sk:List It)(J:Qg)(fr:Fr)(hp:HP),vc C R (.el J::sk) fr hp=J fr hp)/\
  (∀(C:Ctx)(R:Qg)(sk:List It)(fr:Fr)(hp:HP),vc C R (.c .ret::sk) fr hp=R fr hp)/\
  (∀(C:Ctx)(R:Qg)(fr:Fr)(hp:HP),vc C R [] fr hp=R fr hp)/\
  (∀(C:Ctx)(R:Qg)(sk:List It)(c:aD)(x y:SC)(fr:Fr)(hp:HP),vc C R (.c (.cond c x y)::sk) fr hp=lM C R (ev fr c) x y sk fr hp)/\
  (∀(C:Ctx)(R:Qg)(sk:List It)(id:Nat)(fr:Fr)(hp:HP),vc C R (.c (.exit id)::sk) fr hp=pP C R (FW.bE id sk) fr hp)/\
  (∀(C:Ctx)(R:Qg)(sk:List It)(fr:Fr)(hp:HP),vc C R (.o .nil::sk) fr hp=vc C R sk fr hp)/\
  (∀(C:Ctx)(R:Qg)(sk:List It)(o:bN)(r:RT)(fr:Fr)(hp:HP),vc C R (.o (.o none o r)::sk) fr hp=aS C o fr hp (vc C R (.o r::sk)))/\
  (∀(C:Ctx)(R:Qg)(sk:List It)(s:Nat)(b:Bool)(o:bN)(r:RT)(fr:Fr)(hp:HP),vc C R (.o (.o (some (s,b)) o r)::sk) fr hp=e7 C (fr s) s b o fr hp (vc C R (.o r::sk)))/\
  (∀(C:Ctx)(R:Qg)(sk:List It)(x y:RT)(fr:Fr)(hp:HP),vc C R (.o (.br x y)::sk) fr hp=qd C R x y sk fr hp)/\
  (∀(C:Ctx)(R:Qg)(x y:SC)(sk:List It)(fr:Fr)(hp:HP),lM C R (.bool true) x y sk fr hp=vc C R (.c x::sk) fr hp)/\
  (∀(C:Ctx)(R:Qg)(x y:SC)(sk:List It)(fr:Fr)(hp:HP),lM C R (.bool false) x y sk fr hp=vc C R (.c y::sk) fr hp)/\
  (∀(C:Ctx)(R:Qg)(sk:List It)(fr:Fr)(hp:HP),pP C R (some sk) fr hp=vc C R sk fr hp)/\
  (∀(id:Nat)(s:SC)(sk:List It),FW.bE id (.c s::sk)=FW.bE id sk)/\
  (∀(id:Nat)(r:RT)(sk:List It),FW.bE id (.o r::sk)=FW.bE id sk)/\
  (∀(id:Nat)(J:Qg)(sk:List It),FW.bE id (.el J::sk)=FW.bE id sk)/\
  (∀(id i:Nat)(sk:List It),FW.bE id (.eb i::sk)=if i=id then some sk else FW.bE id sk)/\
  (∀(C:Ctx)(s:Nat)(o:bN)(fr:Fr)(hp:HP)(K:Qg),e7 C (.bool true) s true o fr hp K=aS C o (ae fr s (.bool true)) hp K)/\
  (∀(C:Ctx)(s:Nat)(o:bN)(fr:Fr)(hp:HP)(K:Qg),e7 C (.bool false) s true o fr hp K=fL o (ae fr s (.bool false)) hp K)/\
  (∀(C:Ctx)(s:Nat)(o:bN)(fr:Fr)(hp:HP)(K:Qg),e7 C (.bool true) s false o fr hp K=fL o (ae fr s (.bool true)) hp K)/\
  (∀(C:Ctx)(s:Nat)(o:bN)(fr:Fr)(hp:HP)(K:Qg),e7 C (.bool false) s false o fr hp K=aS C o (ae fr s (.bool false)) hp K)/\
  (∀(C:Ctx)(s:Nat)(b:Bool)(o:bN)(fr:Fr)(hp:HP)(K:Qg),e7 C (.aJ []) s b o fr hp K=fL o fr hp K):=by
 refine⟨fun _ _ _ _ _ _ _=>xm,fun _ _ _ _ _ _ _=>wK,fun _ _ _ _ _=>xd,fun _ _ _ _ _ _=>CC,fun _ _ _ _ _ _=>xz,fun _ _ _ _ _ _=>pO,fun _ _ _ _ _=>xo,fun _ _ _ _=>oq,fun _ _ _ _ _ _ _ _=>N',
  fun _ _ _ _ _ _=>xf,fun _ _ _ _ _=>tY,fun _ _ _ _ _ _ _=>SX,fun _ _ _ _ _ _ _ _ _=>SY,fun _ _ _ _ _ _ _=>SW,fun _ _ _ _ _ _ _=>?_,fun _ _ _ _ _ _ _=>?_,fun _ _ _ _ _=>rfl,fun _ _ _=>rfl,fun _ _ _=>rfl,fun _ _ _=>rfl,fun _ _ _=>rfl,?_,?_,?_,?_,fun _ _ _ _ _ _ _=>rfl⟩
 ·simp[lM,ow]
 ·simp[lM,ow]
 all_goals intros;simp[e7]
end Go.FW
namespace Go.FW
open Go
variable {C : Ctx} {fr : Fr} {hp : HP} {K R : Qg}
theorem pE{n:Int}(h1: -9223372036854775808<=n)(h2:n<=9223372036854775807):IntKind.i64.wrap n=n:=by rw[IntKind.wrap_i64];omega
theorem OG{n:Int}(h1: -2147483648<=n)(h2:n<=2147483647):IntKind.i32.wrap n=n:=by rw[IntKind.wrap_i32];omega
theorem nd{n:Int}(h1:0<=n)(h2:n<=18446744073709551615):IntKind.u64.wrap n=n:=by rw[IntKind.wrap_u64];omega
theorem wQ{n:Int}(h1:0<=n)(h2:n<=4294967295):IntKind.u32.wrap n=n:=by rw[IntKind.wrap_u32];omega
theorem OH{n:Int}(h1:0<=n)(h2:n<=65535):IntKind.u16.wrap n=n:=by simp only[IntKind.wrap,IntKind.bits,IntKind.signed];simp;omega
theorem QL{n:Int}(h1:0<=n)(h2:n<=255):IntKind.u8.wrap n=n:=by rw[IntKind.wrap_u8];omega
theorem QM{x y:Int}(h:0<=x):x.tdiv y=x/y:=Int.tdiv_eq_ediv_of_nonneg h
theorem QN{x y:Int}(h:0<=x):x.tmod y=x%y:=Int.tmod_eq_emod_of_nonneg h
def fU(hb:Option HB)(n:Nat)(ag:Bool)(i o:Nat)(d:Nat)(fr:Fr)(hp:HP)(K:Qg):Prop:=match hb with
 |some hb=>∃h:i<hb.xs.length,o+n<=hb.e/\(ag=false->n=1)/\K (ae fr d (dk ag n o (hb.xs[i]'h))) hp
 |none=>False
def stM (hb:Option HB) (β:Nat) (n:Nat) (i o:Nat) (v:PV) (fr:Fr) (hp:HP) (K:Qg):Prop:=match hb with
  |some hb=>hb.fz=false/\v.ax=true/\v.cells.length=n/\∃h:i<hb.xs.length,o+n<=hb.e/\
        K fr (Qi hp β { hb with xs:=hb.xs.set i (if n=hb.e then v else m6 (hb.xs[i]'h) o v) })
  |none=>False
def pU(R:PV->Prop)(p:PV):Prop:=p.ax=true/\∃q,PV.le p q/\R q
theorem Qc{p r:PV}(h:p=r)(hd:r.ax=true):pU (· =r) p:=by subst h;exact⟨hd,_,cf _,rfl⟩
theorem lE{p r:PV}(h:PV.le p r)(hd:p.ax=true):pU (· =r) p:=⟨hd,_,h,rfl⟩
theorem Jn{e ty n:Nat}{ag fz:Bool}{o d:Nat}{x:PV}(h:o+n<=e)(ha:ag=false->n=1):fU (some ⟨e,ty,[x],fz⟩) n ag 0 o d fr hp K=K (ae fr d (dk ag n o x)) hp:=by simp[fU,h];intro _;exact ha
theorem lJ{e ty n i:Nat}{ag fz:Bool}{o d:Nat}{xs:List PV}(h:i<xs.length)(h1:o+n<=e)(ha:ag=false->n=1):fU (some ⟨e,ty,xs,fz⟩) n ag i o d fr hp K=K (ae fr d (dk ag n o (xs[i]'h))) hp:=by simp[fU,h,h1];intro _;exact ha
theorem SZ{e ty n β i:Nat}{o:Nat}{xs:List PV}{v:PV}(h:i<xs.length)(hv:v.ax=true)(hl:v.cells.length=n)(h1:o+n<=e):stM (some ⟨e,ty,xs,false⟩) β n i o v fr hp K=K fr (Qi hp β ⟨e,ty,xs.set i (if n=e then v else m6 (xs[i]'h) o v),false⟩):=by simp[stM,h,h1,hv,hl]
theorem MZ{ty n β i:Nat}{xs:List PV}{v:PV}(h:i<xs.length)(hv:v.ax=true)(hl:v.cells.length=n):stM (some ⟨n,ty,xs,false⟩) β n i 0 v fr hp K=K fr (Qi hp β ⟨n,ty,xs.set i v,false⟩):=by rw[SZ h hv hl (by omega)];simp
theorem Cs{e d:Nat}{k:IntKind}{m:Int}{xs:List PV}(h0:0<=m)(h:m<xs.length):cG e (.sl e xs) (.int k m) d fr hp K=K (ae fr d (.pt (xs[m.toNat]'(by omega)).cells)) hp:=by
 have:m.toNat<xs.length:=by omega
 simp[cG,h0,this]
theorem pI{α:Type}{f:α->PV}{e d:Nat}{k:IntKind}{m:Int}{xs:List α}(h0:0<=m)(h:m<xs.length):cG e (.sl e (xs.map f)) (.int k m) d fr hp K=K (ae fr d (.pt (f (xs[m.toNat]'(by omega))).cells)) hp:=by rw[Cs h0 (by simpa using h)];simp
theorem xp{e d β o n:Nat}{k:IntKind}{m:Int}(h0:0<=m)(h:m<n)(he:(hp β).map (·.e)=some e):cG e (.ao β o n) (.int k m) d fr hp K=K (ae fr d (.mp β (o+m.toNat) 0)) hp:=by
 have:m.toNat<n:=by omega
 simp[cG,h0,this,he]
theorem xA{e by_ ty d:Nat}{z:PV}{k k':IntKind}{L Cc:Int}(h0:0<e)(hz:z.cells.length=e)(h1:0<=L)(h2:L<=Cc)(h3:by_*Cc<=281474976710656)(h4:Cc<=9223372036854775807):
  jM e by_ ty z (.int k L) (.int k' Cc) d fr hp K=K (ae (bI d fr) d (.ms d L.toNat)) (Qi hp d ⟨e,ty,List.replicate L.toNat z,false⟩):=by
 simp[jM,h0,hz,h1,h2,h3,h4]
theorem S'{n ty d β o m:Nat}(hB:aF β=true):dG n ty (.ao β o m) d fr hp K=K (ae fr d (.rb β o m)) hp:=by simp[dG,hB]
theorem VL{d β o m:Nat}:gQ 1 false (.rb β o m) d fr hp K=K (ae fr d (.ao β o m)) hp:=by simp[gQ]
theorem Bi{e by_ ty d:Nat}{x:PV}{ys:List PV}(hs:fK hp x=some (e,ys))(h0:0<e)(h1:ys.length*by_<=140737488355328)(h2:ys.length<=9223372036854775807):
  fl e by_ ty .aa x d fr hp K=K (ae (bI d fr) d (.ms d ys.length)) (Qi hp d ⟨e,ty,ys,false⟩):=by
 simp[fl,hs,h0,h1,h2]
theorem Bj{e by_ ty d β n:Nat}{x:PV}{ys xs:List PV}(hs:fK hp x=some (e,ys))(hb:hp β=some ⟨e,ty,xs,false⟩)(h0:0<e)(hn:n<=xs.length)(h1:(n+ys.length)*by_<=140737488355328)(h2:n+ys.length<=9223372036854775807)(hB:bg β=false:=by decide):
  fl e by_ ty (.ms β n) x d fr hp K=K (ae (bI β fr) d (.ms β (n+ys.length))) (Qi hp β ⟨e,ty,xs.take n++ys,false⟩):=by
 simp[fl,hs,hb,h0,hn,h1,h2,hB]
theorem y6{e d:Nat}{xs:List PV}{lo hi:Option PV}{L H:Int}(h1:eW 0 lo=some L)(h2:eW xs.length hi=some H)(h3:0<=L)(h4:L<=H)(h5:H<=xs.length):
  fh e (.sl e xs) lo hi none d fr hp K=K (ae fr d (.sl e ((xs.take H.toNat).drop L.toNat))) hp:=by
 have hM:eW (xs.length) none=some (xs.length:Int):=rfl;simp only[fh,h1,h2,hM];simp[h3,h4,h5]
theorem Ww{e d:Nat}{xs:List PV}{k:IntKind}{H:Int}(h4:0<=H)(h5:H<=xs.length):
  fh e (.sl e xs) none (some (.int k H)) none d fr hp K=K (ae fr d (.sl e (xs.take H.toNat))) hp:=by
 rw[y6 (L:=0) (H:=H) rfl rfl (by omega) h4 h5];simp
theorem Wx{e d:Nat}{xs:List PV}{k:IntKind}{L:Int}(h4:0<=L)(h5:L<=xs.length):
  fh e (.sl e xs) (some (.int k L)) none none d fr hp K=K (ae fr d (.sl e (xs.drop L.toNat))) hp:=by
 rw[y6 (L:=L) (H:=xs.length) rfl rfl h4 h5 (by omega)];simp
theorem ab2:
  (∀(C:Ctx)(d:Nat)(x:aD)(fr:Fr)(hp:HP)(K:Qg),aS C (.mv d x) fr hp K=K (ae fr d (ev fr x)) hp)/\
  (∀(C:Ctx)(d:Nat)(c a b:aD)(fr:Fr)(hp:HP)(K:Qg),aS C (.pick d c a b) fr hp K=ns (ev fr c) (ev fr a) (ev fr b) d fr hp K)/\
  (∀(C:Ctx)(d:Nat)(op:BinOp)(bt:Bool)(a b:aD)(fr:Fr)(hp:HP)(K:Qg),aS C (.bin d op bt a b) fr hp K=bF op bt (ev fr a) (ev fr b) d fr hp K)/\
  (∀(C:Ctx)(d:Nat)(op:UnOp)(a:aD)(fr:Fr)(hp:HP)(K:Qg),aS C (.un d op a) fr hp K=pb op (ev fr a) d fr hp K)/\
  (∀(C:Ctx)(d:Nat)(k:IntKind)(a:aD)(fr:Fr)(hp:HP)(K:Qg),aS C (.conv d k a) fr hp K=pN k (ev fr a) d fr hp K)/\
  (∀(C:Ctx)(d:Nat)(a:aD)(fr:Fr)(hp:HP)(K:Qg),aS C (.len d a) fr hp K=kS (ev fr a) d fr hp K)/\
  (∀(C:Ctx)(d:Nat)(a b:aD)(fr:Fr)(hp:HP)(K:Qg),aS C (.mx d a b) fr hp K=qR (ev fr a) (ev fr b) d fr hp K)/\
  (∀(C:Ctx)(d:Nat)(a b:aD)(fr:Fr)(hp:HP)(K:Qg),aS C (.mn d a b) fr hp K=qP (ev fr a) (ev fr b) d fr hp K)/\
  (∀(C:Ctx)(d e:Nat)(a b:aD)(fr:Fr)(hp:HP)(K:Qg),aS C (.idx d e a b) fr hp K=cG e (ev fr a) (ev fr b) d fr hp K)/\
  (∀(C:Ctx)(d n e:Nat)(a b:aD)(fr:Fr)(hp:HP)(K:Qg),aS C (.kB d n e a b) fr hp K=mG n e (ev fr a) (ev fr b) d fr hp K)/\
  (∀(C:Ctx)(d n e:Nat)(ag:Bool)(a b:aD)(fr:Fr)(hp:HP)(K:Qg),aS C (.vp d n e ag a b) fr hp K=rY n e ag (ev fr a) (ev fr b) d fr hp K)/\
  (∀(C:Ctx)(d off:Nat)(a:aD)(fr:Fr)(hp:HP)(K:Qg),aS C (.bw d off a) fr hp K=mN off (ev fr a) d fr hp K)/\
  (∀(C:Ctx)(d off n:Nat)(ag:Bool)(a:aD)(fr:Fr)(hp:HP)(K:Qg),aS C (.si d off n ag a) fr hp K=mH off n ag (ev fr a) d fr hp K)/\
  (∀(C:Ctx)(d n:Nat)(ag:Bool)(a:aD)(fr:Fr)(hp:HP)(K:Qg),aS C (.ld d n ag a) fr hp K=gQ n ag (ev fr a) d fr hp K)/\
  (∀(C:Ctx)(n:Nat)(a b:aD)(fr:Fr)(hp:HP)(K:Qg),aS C (.st n a b) fr hp K=jN n (ev fr a) (ev fr b) fr hp K)/\
  (∀(C:Ctx)(d n ty:Nat)(a:aD)(fr:Fr)(hp:HP)(K:Qg),aS C (.box d n ty a) fr hp K=dG n ty (ev fr a) d fr hp K)/\
  (∀(C:Ctx)(d n ty:Nat)(z:PV)(fr:Fr)(hp:HP)(K:Qg),aS C (.alloc d n ty z) fr hp K=dG n ty z d fr hp K)/\
  (∀(C:Ctx)(d e by_ ty:Nat)(z:PV)(l c:aD)(fr:Fr)(hp:HP)(K:Qg),aS C (.mk d e by_ ty z l c) fr hp K=jM e by_ ty z (ev fr l) (ev fr c) d fr hp K)/\
  (∀(C:Ctx)(d e ty:Nat)(ps:List aD)(fr:Fr)(hp:HP)(K:Qg),aS C (.bs d e ty ps) fr hp K=ki e ty (ps.map (ev fr)) d fr hp K)/\
  (∀(C:Ctx)(d e by_ ty:Nat)(a b:aD)(fr:Fr)(hp:HP)(K:Qg),aS C (.app d e by_ ty a b) fr hp K=fl e by_ ty (ev fr a) (ev fr b) d fr hp K)/\
  (∀(C:Ctx)(d e:Nat)(a b:aD)(fr:Fr)(hp:HP)(K:Qg),aS C (.oL d e a b) fr hp K=oA e (ev fr a) (ev fr b) d fr hp K)/\
  (∀(C:Ctx)(d e:Nat)(a:aD)(l h m:Option aD)(fr:Fr)(hp:HP)(K:Qg),aS C (.sl d e a l h m) fr hp K=fh e (ev fr a) (l.map (ev fr)) (h.map (ev fr)) (m.map (ev fr)) d fr hp K)/\
  (∀(C:Ctx)(d:Nat)(a:aD)(i:Nat)(fr:Fr)(hp:HP)(K:Qg),aS C (.ext d a i) fr hp K=iL (ev fr a) i d fr hp K)/\
  (∀(C:Ctx)(d:Nat)(z:List PV)(ps:List (Nat×Nat×aD))(fr:Fr)(hp:HP)(K:Qg),aS C (.cc d z ps) fr hp K=iM z (ps.map fun p=>(p.1,p.2.1,ev fr p.2.2)) d fr hp K)/\
  (∀(C:Ctx)(d f:Nat)(x y:List aD)(fr:Fr)(hp:HP)(K:Qg),aS C (.fn d f x y) fr hp K=((x.map (ev fr)++y.map (ev fr)).all PV.gO=true/\K (ae fr d (.fn f (x.map (ev fr)) (y.map (ev fr)))) hp))/\
  (∀(C:Ctx)(d:Option Nat)(pr:Bool)(f:aD)(JK:List aD)(fr:Fr)(hp:HP)(K:Qg),aS C (.call d pr f JK) fr hp K=ez C pr (ev fr f) (JK.map (ev fr)) d fr hp K)/\
  (∀(C:Ctx)(d:Option Nat)(x:aD)(fr:Fr)(hp:HP)(K:Qg),aS C (.vv d x) fr hp K=ud (ev fr x) d fr hp K)/\
  (∀(fr:Fr)(n:Nat),ev fr (.t n)=fr n)/\(∀(fr:Fr)(p:PV),ev fr (.c p)=p):=by
 refine⟨?_,?_,?_,?_,?_,?_,?_,?_,?_,?_,?_,?_,?_,?_,?_,?_,?_,?_,?_,?_,?_,?_,?_,?_,?_,?_,?_,?_,?_⟩<;>intros<;>rfl
theorem ab3:
  (∀(bt:Bool)(k:IntKind)(x y:Int)(d:Nat)(fr:Fr)(hp:HP)(K:Qg),bF .add bt (.int k x) (.int k y) d fr hp K=K (ae fr d (.int k (k.wrap (x+y)))) hp)/\
  (∀(bt:Bool)(k:IntKind)(x y:Int)(d:Nat)(fr:Fr)(hp:HP)(K:Qg),bF .sub bt (.int k x) (.int k y) d fr hp K=K (ae fr d (.int k (k.wrap (x-y)))) hp)/\
  (∀(bt:Bool)(k:IntKind)(x y:Int)(d:Nat)(fr:Fr)(hp:HP)(K:Qg),bF .mul bt (.int k x) (.int k y) d fr hp K=K (ae fr d (.int k (k.wrap (x*y)))) hp)/\
  (∀(bt:Bool)(k:IntKind)(x y:Int)(d:Nat)(fr:Fr)(hp:HP)(K:Qg),bF .eql bt (.int k x) (.int k y) d fr hp K=K (ae fr d (.bool (decide (x=y)))) hp)/\
  (∀(bt:Bool)(k:IntKind)(x y:Int)(d:Nat)(fr:Fr)(hp:HP)(K:Qg),bF .neq bt (.int k x) (.int k y) d fr hp K=K (ae fr d (.bool (decide (¬x=y)))) hp)/\
  (∀(bt:Bool)(k:IntKind)(x y:Int)(d:Nat)(fr:Fr)(hp:HP)(K:Qg),bF .lss bt (.int k x) (.int k y) d fr hp K=K (ae fr d (.bool (decide (x<y)))) hp)/\
  (∀(bt:Bool)(k:IntKind)(x y:Int)(d:Nat)(fr:Fr)(hp:HP)(K:Qg),bF .leq bt (.int k x) (.int k y) d fr hp K=K (ae fr d (.bool (decide (x<=y)))) hp)/\
  (∀(bt:Bool)(k:IntKind)(x y:Int)(d:Nat)(fr:Fr)(hp:HP)(K:Qg),bF .gtr bt (.int k x) (.int k y) d fr hp K=K (ae fr d (.bool (decide (y<x)))) hp)/\
  (∀(bt:Bool)(k:IntKind)(x y:Int)(d:Nat)(fr:Fr)(hp:HP)(K:Qg),bF .geq bt (.int k x) (.int k y) d fr hp K=K (ae fr d (.bool (decide (y<=x)))) hp)/\
  (∀(x y:Bool)(d:Nat)(fr:Fr)(hp:HP)(K:Qg),bF .eql true (.bool x) (.bool y) d fr hp K=K (ae fr d (.bool (x==y))) hp)/\
  (∀(x y:Bool)(d:Nat)(fr:Fr)(hp:HP)(K:Qg),bF .neq true (.bool x) (.bool y) d fr hp K=K (ae fr d (.bool (!(x==y)))) hp)/\
  (∀(b:Bool)(d:Nat)(fr:Fr)(hp:HP)(K:Qg),pb .not (.bool b) d fr hp K=K (ae fr d (.bool (!b))) hp)/\
  (∀(k:IntKind)(n:Int)(d:Nat)(fr:Fr)(hp:HP)(K:Qg),pb .neg (.int k n) d fr hp K=K (ae fr d (.int k (k.wrap (0-n)))) hp)/\
  (∀(k k':IntKind)(n:Int)(d:Nat)(fr:Fr)(hp:HP)(K:Qg),pN k (.int k' n) d fr hp K=K (ae fr d (.int k (k.wrap n))) hp)/\
  (∀(d:Nat)(fr:Fr)(hp:HP)(K:Qg),kS .aa d fr hp K=K (ae fr d (.int .i64 0)) hp)/\
  (∀(e:Nat)(xs:List PV)(d:Nat)(fr:Fr)(hp:HP)(K:Qg),kS (.sl e xs) d fr hp K=K (ae fr d (.int .i64 xs.length)) hp)/\
  (∀(β o n:Nat)(d:Nat)(fr:Fr)(hp:HP)(K:Qg),kS (.ao β o n) d fr hp K=K (ae fr d (.int .i64 n)) hp)/\
  (∀(k k':IntKind)(x y:Int)(d:Nat)(fr:Fr)(hp:HP)(K:Qg),qR (.int k x) (.int k' y) d fr hp K=K (ae fr d (.int k (max x y))) hp)/\
  (∀(k k':IntKind)(x y:Int)(d:Nat)(fr:Fr)(hp:HP)(K:Qg),qP (.int k x) (.int k' y) d fr hp K=K (ae fr d (.int k (min x y))) hp)/\
  (∀(a b:PV)(d:Nat)(fr:Fr)(hp:HP)(K:Qg),ns (.bool true) a b d fr hp K=K (ae fr d a) hp)/\
  (∀(a b:PV)(d:Nat)(fr:Fr)(hp:HP)(K:Qg),ns (.bool false) a b d fr hp K=K (ae fr d b) hp)/\
  (∀(off β i o:Nat)(d:Nat)(fr:Fr)(hp:HP)(K:Qg),mN off (.mp β i o) d fr hp K=K (ae fr d (.mp β i (o+off))) hp)/\
  (∀(n:Nat)(ag:Bool)(β i o:Nat)(d:Nat)(fr:Fr)(hp:HP)(K:Qg),gQ n ag (.mp β i o) d fr hp K=fU (hp β) n ag i o d fr hp K)/\
  (∀(c:PV)(cs:List PV)(d:Nat)(fr:Fr)(hp:HP)(K:Qg),gQ 1 false (.pt (c::cs)) d fr hp K=K (ae fr d c) hp)/\
  (∀(n:Nat)(β i o:Nat)(v:PV)(fr:Fr)(hp:HP)(K:Qg),jN n (.mp β i o) v fr hp K=stM (bq hp v.refs β) β n i o (Qy hp v) fr (bq hp v.refs) K)/\
  (∀(ps:List PV)(p:PV)(d:Nat)(fr:Fr)(hp:HP)(K:Qg),iL (.aJ (p::ps)) 0 d fr hp K=(p.ax=true/\K (ae fr d p) hp))/\
  (∀(ps:List PV)(p q:PV)(d:Nat)(fr:Fr)(hp:HP)(K:Qg),iL (.aJ (p::q::ps)) 1 d fr hp K=(q.ax=true/\K (ae fr d q) hp))/\
  (∀(ps:List PV)(p q r:PV)(d:Nat)(fr:Fr)(hp:HP)(K:Qg),iL (.aJ (p::q::r::ps)) 2 d fr hp K=(r.ax=true/\K (ae fr d r) hp))/\
  (∀(s:Nat)(Rr:PV->Prop)(fr:Fr)(hp:HP),eg [.t s] Rr fr hp=pU Rr (Qy hp (fr s)))/\
  (∀(e:Nat)(xs:List PV),fK au (.sl e xs)=some (e,xs))/\
  (∀(hp:HP),bq hp []=hp)/\
  (∀(fr:Fr)(r:PV),ew fr none r=fr)/\(∀(fr:Fr)(d:Nat)(r:PV),ew fr (some d) r=ae fr d r)/\
  (∀(β:Nat)(fr:Fr)(i:Nat),bI β fr i=bf β (fr i)):=by
 refine⟨?_,?_,?_,?_,?_,?_,?_,?_,?_,?_,?_,?_,?_,?_,?_,?_,?_,?_,?_,?_,?_,?_,?_,?_,?_,?_,?_,?_,?_,?_,?_,?_,?_,?_⟩<;>intros
 all_goals first
  |rfl
  |(simp[bF,ns,iL,gQ,dk,PV.cells,jN,stM];done)
  |(simp[bF,ns,iL,gQ,dk,PV.cells,jN,stM];try rfl)
  |skip
end Go.FW
namespace Go.FW
open Go
variable {C : Ctx} {ρ : Nat -> Option Nat} {fr : Fr} {hp : HP} {w : World} {K R : Qg}
theorem Fl(i β e ty:Nat)(he:0<e)(hi:fr i= .aa)(hB:bg β=false:=by decide):Wk fr hp (ae (bI β fr) i (.ms β 0)) (Qi hp β ⟨e,ty,[],false⟩):=by
 rintro C tmps w ⟨ρ,hs⟩;have hr:=hs.rebind (w':=w) β none ⟨e,ty,[],false⟩ hB (Ext.refl _ _) (by simp) he (by simp) (by simp) (by simp);refine⟨_,hr.sz,hr.ext,hr.dE,hr.own,hr.inj,fun j=>?_⟩;unfold ae;split
 ·rename_i hj;subst hj;have:=hs.ch j;rw[hi]at this;have e:=Qh.qT this;exact⟨_,by simp[Qi];rfl,by simp,.inl ⟨eH _ _ _,e,rfl,rfl⟩⟩
 ·exact hr.ch j
end Go.FW
namespace Go.FW
open Go
variable {C : Ctx} {ρ : Nat -> Option Nat} {fr : Fr} {hp : HP} {w : World} {K R : Qg}
theorem QO(fr:Fr)(a:Nat)(v w:PV):ae (ae fr a v) a w=ae fr a w:=by funext i;unfold ae;split<;>rfl
theorem Bx{α:Type}{f:α->PV}{e d:Nat}{xs:List α}{k:IntKind}{H:Int}(h4:0<=H)(h5:H<=xs.length):
  fh e (.sl e (xs.map f)) none (some (.int k H)) none d fr hp K=K (ae fr d (.sl e ((xs.take H.toNat).map f))) hp:=by
 rw[Ww h4 (by simpa using h5)];simp
theorem M0{α:Type}{f:α->PV}{e d:Nat}{xs:List α}{k:IntKind}{L:Int}(h4:0<=L)(h5:L<=xs.length):
  fh e (.sl e (xs.map f)) (some (.int k L)) none none d fr hp K=K (ae fr d (.sl e ((xs.drop L.toNat).map f))) hp:=by
 rw[Wx h4 (by simpa using h5)];simp
theorem Yf{α:Type}{f:α->PV}{e d:Nat}{xs:List α}{k k':IntKind}{L H:Int}(h3:0<=L)(h4:L<=H)(h5:H<=xs.length):
  fh e (.sl e (xs.map f)) (some (.int k L)) (some (.int k' H)) none d fr hp K=K (ae fr d (.sl e (((xs.take H.toNat).drop L.toNat).map f))) hp:=by
 rw[y6 (L:=L) (H:=H) rfl rfl h3 h4 (by simpa using h5)];simp
theorem QP(hp:HP)(e:Nat)(xs:List PV):Qy hp (.sl e xs)= .sl e xs:=rfl
theorem OI(hp:HP)(k:IntKind)(n:Int):Qy hp (.int k n)= .int k n:=rfl
theorem M1(hp:HP)(b:Bool):Qy hp (.bool b)= .bool b:=rfl
theorem OJ(hp:HP)(cs:List PV):Qy hp (.agg cs)= .agg cs:=rfl
theorem OK(hp:HP):Qy hp .aa= .aa:=rfl
theorem Jo(hp:HP)(β n:Nat)(e ty:Nat)(xs:List PV)(fz:Bool)(h:hp β=some ⟨e,ty,xs,fz⟩)(hB:bg β=false:=by decide):Qy hp (.ms β n)= .sl e (xs.take n):=by simp[Qy,bS,h,rJ hB]
theorem QQ(e:Nat)(xs:List PV):(PV.sl e xs).refs=[]:=rfl
theorem OL(k:IntKind)(n:Int):(PV.int k n).refs=[]:=rfl
theorem M3(b:Bool):(PV.bool b).refs=[]:=rfl
theorem OM(cs:List PV):(PV.agg cs).refs=[]:=rfl
theorem ON:PV.aa.refs=[]:=rfl
theorem OO(β e:Nat)(xs:List PV):bf β (.sl e xs)= .sl e xs:=rfl
theorem M4(β:Nat)(k:IntKind)(n:Int):bf β (.int k n)= .int k n:=rfl
theorem LV(β:Nat)(b:Bool):bf β (.bool b)= .bool b:=rfl
theorem M5(β:Nat)(cs:List PV):bf β (.agg cs)= .agg cs:=rfl
theorem M6(β:Nat):bf β .aa= .aa:=rfl
theorem II(β γ o n:Nat):bf β (.ao γ o n)=if γ=β then .undef else .ao γ o n:=by
 by_cases h:γ=β
 ·subst h;simp[bf,PV.refs]
 ·simp[bf,PV.refs,h];intro h';exact absurd h'.symm h
theorem OP(β γ o n:Nat):bf β (.rb γ o n)=if γ=β then .undef else .rb γ o n:=by
 by_cases h:γ=β
 ·subst h;simp[bf,PV.refs]
 ·simp[bf,PV.refs,h];intro h';exact absurd h'.symm h
theorem IJ(β γ i o:Nat):bf β (.mp γ i o)=if γ=β then .undef else .mp γ i o:=by
 by_cases h:γ=β
 ·subst h;simp[bf,PV.refs]
 ·simp[bf,PV.refs,h];intro h';exact absurd h'.symm h
theorem Wy:
  (∀(fr:Fr)(a:Nat)(v:PV)(b:Nat),ae fr a v b=if b=a then v else fr b)/\
  (∀(h:HP)(a:Nat)(v:HB)(b:Nat),Qi h a v b=if b=a then some v else h b)/\
  (∀(β:Nat),au β=none)/\
  (∀(hp:HP)(e:Nat)(xs:List PV),Qy hp (.sl e xs)= .sl e xs)/\
  (∀(hp:HP)(k:IntKind)(n:Int),Qy hp (.int k n)= .int k n)/\
  (∀(hp:HP)(b:Bool),Qy hp (.bool b)= .bool b)/\
  (∀(hp:HP)(cs:List PV),Qy hp (.agg cs)= .agg cs)/\
  (∀(hp:HP),Qy hp .aa= .aa)/\
  (∀(e:Nat)(xs:List PV),(PV.sl e xs).refs=[])/\
  (∀(k:IntKind)(n:Int),(PV.int k n).refs=[])/\
  (∀(b:Bool),(PV.bool b).refs=[])/\
  (∀(cs:List PV),(PV.agg cs).refs=[])/\
  (PV.aa.refs=[])/\
  (∀(β o n:Nat),(PV.ao β o n).refs=[β])/\
  (∀(β i o:Nat),(PV.mp β i o).refs=[β])/\
  (∀(β e:Nat)(xs:List PV),bf β (.sl e xs)= .sl e xs)/\
  (∀(β:Nat)(k:IntKind)(n:Int),bf β (.int k n)= .int k n)/\
  (∀(β:Nat)(b:Bool),bf β (.bool b)= .bool b)/\
  (∀(β:Nat)(cs:List PV),bf β (.agg cs)= .agg cs)/\
  (∀(β:Nat),bf β .aa= .aa)/\
  (∀(β γ o n:Nat),bf β (.ao γ o n)=if γ=β then .undef else .ao γ o n)/\
  (∀(β γ i o:Nat),bf β (.mp γ i o)=if γ=β then .undef else .mp γ i o)/\
  (∀(β γ o n:Nat),bf β (.rb γ o n)=if γ=β then .undef else .rb γ o n)/\
  (∀(β o n:Nat),(PV.rb β o n).refs=[β])/\
  (∀(o:bN)(fr:Fr)(hp:HP)(K:Qg),fL o fr hp K=match o.dst with|some d=>K (ae fr d (.aJ [])) hp|none=>K fr hp)/\
  (∀(f:aD->PV),Option.map f none=none)/\(∀(f:aD->PV)(x:aD),Option.map f (some x)=some (f x))/\
  (∀(k:IntKind)(n:Int),(PV.int k n).cells=[.int k n])/\
  (∀(b:Bool),(PV.bool b).cells=[.bool b])/\
  (∀(e:Nat)(xs:List PV),(PV.sl e xs).cells=[.sl e xs])/\
  (∀(cs:List PV),(PV.agg cs).cells=cs):=by
 refine⟨fun _ _ _ _=>rfl,fun _ _ _ _=>rfl,fun _=>rfl,QP,OI,M1,OJ,OK,QQ,OL,M3,OM,ON,fun _ _ _=>rfl,fun _ _ _=>rfl,OO,M4,LV,M5,M6,II,IJ,OP,fun _ _ _=>rfl,fun _ _ _ _=>rfl,fun _=>rfl,fun _ _=>rfl,fun _ _=>rfl,fun _=>rfl,fun _ _=>rfl,fun _=>rfl⟩
theorem Wz{p:Nat->Prop}(h:∃m,p m):∃m,p m/\∀k,p k->m<=k:=by
 obtain⟨m,hm⟩:=h;induction m using Nat.strongRecOn with
 |ind m ih=>
  by_cases hk:∃k,k<m/\p k
  ·obtain⟨k,h1,h2⟩:=hk;exact ih k h1 h2
  ·exact⟨m,hm,fun k du=>Nat.le_of_not_lt fun ak=>hk ⟨k,ak,du⟩⟩
def rK(I:Nat->Qg)(n:Nat):Qg:=fun aq hp'=>∃aY au,Wk aq hp' aY au/\∃m,m<n/\I m aY au
theorem jO{I:Nat->Qg}{n m:Nat}(hl:m<n)(h:I m fr hp):rK I n fr hp:=⟨fr,hp,Wk.refl _ _,m,hl,h⟩
theorem BH{I:Nat->Qg}{n m:Nat}{aq:Fr}{hp':HP}(hl:m<n)(hw:Wk fr hp aq hp')(h:I m aq hp'):rK I n fr hp:=⟨aq,hp',hw,m,hl,h⟩
theorem tl{sk:List It}{x:SC}(I:Nat->Qg)(m0:Nat){aY:Fr}{au:HP}(hw:Wk fr hp aY au)(h0:I m0 aY au)(h:∀m fr hp,I m fr hp->vc C R (.c x:: .el (rK I m)::sk) fr hp):vc C R (.c (.loop x)::sk) fr hp:=by
 refine N8 (fun fr hp=>∃m,I m fr hp) (fun fr hp=>Classical.epsilon fun m=>I m fr hp/\∀k,I k fr hp->m<=k) hw ⟨m0,h0⟩ ?_;intro fr hp hI;have key:∀fr hp,(∃m,I m fr hp)->I (Classical.epsilon fun m=>I m fr hp/\∀k,I k fr hp->m<=k) fr hp/\∀k,I k fr hp->(Classical.epsilon fun m=>I m fr hp/\∀k,I k fr hp->m<=k)<=k:=fun fr hp hI=>Classical.epsilon_spec (Wz hI);have e:rS (fun fr hp=>∃m,I m fr hp) (fun fr hp=>Classical.epsilon fun m=>I m fr hp/\∀k,I k fr hp->m<=k) (Classical.epsilon fun m=>I m fr hp/\∀k,I k fr hp->m<=k)=rK I (Classical.epsilon fun m=>I m fr hp/\∀k,I k fr hp->m<=k):=by
  funext aq hp';apply propext;constructor
  ·rintro⟨aY,au,h1,h2,h3⟩;exact⟨aY,au,h1,_,h3,(key aY au h2).1⟩
  ·rintro⟨aY,au,h1,m,h2,h3⟩;exact⟨aY,au,h1,⟨m,h3⟩,Kce ((key aY au ⟨m,h3⟩).2 m h3) h2⟩
 rw[e];exact h _ fr hp (key fr hp hI).1
theorem mD{sk:List It}{x:SC}(I:Nat->Qg)(m0:Nat)(h0:I m0 fr hp)(h:∀m fr hp,I m fr hp->vc C R (.c x:: .el (rK I m)::sk) fr hp):vc C R (.c (.loop x)::sk) fr hp:=
 tl I m0 (Wk.refl _ _) h0 h
theorem Ta{α:Type}{e:Nat}{f:α->PV}:PV.le .aa (.sl e (([]:List α).map f)):=trivial
theorem Qa{P:Program}(hP:C.P=P){g:FuncId}{first cap args aM:List PV}{pr:Bool}{d:Option Nat}{r:PV}(h:Qd P g aM (· =r))(cr:(first++args++cap).map (Qy hp)=aM)(cQ:aM.all PV.ax=true)(hr:(first++args++cap).flatMap PV.refs=[])
  (hK:K (ew fr d r) hp):ez C pr (.fn g first cap) args d fr hp K:=by
 refine gX hP h cr cQ ?_;rw[hr];exact hK
theorem gW{P:Program}(hP:C.P=P){g:FuncId}{first cap args aM:List PV}{pr:Bool}{d:Option Nat}{Rr:PV->Prop}(h:Qd P g aM Rr)(cr:(first++args++cap).map (Qy hp)=aM)(cQ:aM.all PV.ax=true)(hr:(first++args++cap).flatMap PV.refs=[])
  (hK:∀r,Rr r->K (ew fr d r) hp):ez C pr (.fn g first cap) args d fr hp K:=by
 refine HS hP h cr cQ fun r h=>?_;rw[hr];exact hK r h
theorem QR{d β n ty:Nat}{xs ys:List PV}(hb:hp β=some ⟨1,ty,xs,false⟩)(hn:n=xs.length):
  oA 1 (.ms β n) (.sl 1 ys) d fr hp K=K (ae fr d (.int .i64 (min (ys.length:Int) n))) (Qi hp β ⟨1,ty,ys.take n++xs.drop ys.length,false⟩):=by
 simp[oA,fK,hb,hn]
theorem Fm{by_ ty d:Nat}{kz k k':IntKind}{nz:Int}{L Cc:Int}(h1:0<=L)(h2:L<=Cc)(h3:by_*Cc<=281474976710656)(h4:Cc<=9223372036854775807):
  jM 1 by_ ty (.int kz nz) (.int k L) (.int k' Cc) d fr hp K=K (ae (bI d fr) d (.ms d L.toNat)) (Qi hp d ⟨1,ty,List.replicate L.toNat (.int kz nz),false⟩):=by
 exact xA (e:=1) (by omega) rfl h1 h2 h3 h4
theorem Fo{ty β i:Nat}{xs:List PV}{k:IntKind}{n:Int}(h:i<xs.length):stM (some ⟨1,ty,xs,false⟩) β 1 i 0 (.int k n) fr hp K=K fr (Qi hp β ⟨1,ty,xs.set i (.int k n),false⟩):=
 MZ h rfl rfl
theorem M7(h:HP)(a:Nat)(v w:HB):Qi (Qi h a v) a w=Qi h a w:=by funext i;unfold Qi;split<;>rfl
theorem Tb{ty d:Nat}{k:IntKind}{n:Int}:ki 1 ty [.int k n] d fr hp K=K (ae (bI d fr) d (.ms d 1)) (Qi hp d ⟨1,ty,[.int k n],false⟩):=by simp[ki,kT,iG,xM,B7,Qy,bS,PV.refs,PV.ax,PV.cells];rfl
theorem iF{β n e ty:Nat}{xs:List PV}{fz:Bool}{r:PV}(hb:hp β=some ⟨e,ty,xs,fz⟩)(h:PV.sl e (xs.take n)=r)(hB:bg β=false:=by decide):pU (· =r) (Qy hp (.ms β n)):=by rw[Jo hp β n e ty xs fz hb hB];exact Qc h (by rw[<-h];rfl)
theorem BI{e by_ ty ty' d β γ n:Nat}{xs:List PV}{y:PV}{fz:Bool}(hb:hp β=some ⟨e,ty,xs,false⟩)(hy:hp γ=some ⟨e,ty',[y],fz⟩)(h0:0<e)(hn:n=xs.length)(h1:(n+1)*by_<=140737488355328)(h2:n+1<=9223372036854775807)(hB:bg β=false:=by decide):
  fl e by_ ty (.ms β n) (.ms γ 1) d fr hp K=K (ae (bI β fr) d (.ms β (n+1))) (Qi hp β ⟨e,ty,xs++[y],false⟩):=by
 subst hn;rw[Bj (ys:=[y]) (xs:=xs) (by simp[fK,hy]) hb h0 (Kae _) (by simpa using h1) (by simpa using h2) hB];simp
theorem Gt(n:Nat):IntKind.u16.wrap (n:Int)=((n%65536:Nat):Int):=by simp only[IntKind.wrap,IntKind.bits,IntKind.signed];simp
theorem Ct{bt:Bool}{k k':IntKind}{x y:Int}{d:Nat}(h:0<=y):bF .shr bt (.int k x) (.int k' y) d fr hp K=K (ae fr d (.int k (x.fdiv (2^(min y.toNat k.bits))))) hp:=by simp[bF,h]
theorem HT{bt:Bool}{k':IntKind}{n d:Nat}:bF .shr bt (.int .u64 (n:Int)) (.int k' 16) d fr hp K=K (ae fr d (.int .u64 ((n/65536:Nat):Int))) hp:=by
 rw[Ct (by omega)];have:min (16:Int).toNat IntKind.u64.bits=16:=by decide
 rw[this,Kci _ (by omega)];simp
theorem M8{bt:Bool}{k':IntKind}{n d:Nat}:bF .shr bt (.int .u32 (n:Int)) (.int k' 16) d fr hp K=K (ae fr d (.int .u32 ((n/65536:Nat):Int))) hp:=by
 rw[Ct (by omega)];have:min (16:Int).toNat IntKind.u32.bits=16:=by decide
 rw[this,Kci _ (by omega)];simp
end Go.FW
namespace Go.FW
def val:List Nat->Nat
 | []=>0
 |x::xs=>x+65536*val xs
def Qj(l:List Nat):Prop:=∀x∈l,x<65536
def aj(n:Nat):List Nat:=if h:n=0 then []else n%65536::aj (n/65536)
termination_by n
decreasing_by omega
def nl(n:Nat):Nat:=(aj n).length
theorem jT:Qj []:=by simp[Qj]
theorem eM{x:Nat}{l:List Nat}:Qj (x::l)↔x<65536/\Qj l:=by simp[Qj]
theorem jQ{l m:List Nat}:Qj (l++m)↔Qj l/\Qj m:=by
 simp only[Qj,KaR];constructor
 ·intro h;exact⟨fun x hx=>h x (.inl hx),fun x hx=>h x (.inr hx)⟩
 ·rintro⟨h1,h2⟩ x (hx|hx)
  ·exact h1 x hx
  ·exact h2 x hx
theorem re{l:List Nat}(h:Qj l)(n:Nat):Qj (l.take n):=fun x hx=>h x (Ka2 hx)
theorem s7{l:List Nat}(h:Qj l)(n:Nat):Qj (l.drop n):=fun x hx=>h x (Kby hx)
theorem cY{l:List Nat}(h:Qj l){i:Nat}(hi:i<l.length):l[i]<65536:=h _ (Kao hi)
theorem ek:aj 0=[]:=by rw[aj];simp
theorem om{n:Nat}(h:n≠0):aj n=n%65536::aj (n/65536):=by rw[aj];simp[h]
theorem Ql(n:Nat):Qj (aj n):=by
 induction n using aj.induct with
 |case1=>rw[ek];exact jT
 |case2 n h ih=>rw[om h,eM];exact⟨by omega,ih⟩
theorem Qz(n:Nat):val (aj n)=n:=by
 induction n using aj.induct with
 |case1=>rw[ek];rfl
 |case2 n h ih=>rw[om h,val,ih];omega
theorem iA{n:Nat}:aj n=[]↔n=0:=by
 constructor
 ·intro h;have:=Qz n;rw[h]at this;exact this.symm
 ·rintro rfl;exact ek
theorem Jp:nl 0=0:=by simp[nl,ek]
theorem Bk{n:Nat}:nl n=0↔n=0:=by rw[nl,Kas,iA]
theorem Tc{n:Nat}(h:n≠0):nl n=nl (n/65536)+1:=by simp[nl,om h]
theorem jk(l m:List Nat):val (l++m)=val l+65536^l.length*val m:=by
 induction l with
 |nil=>simp[val]
 |cons x l ih=>simp only[KaE,val,ih,KaW,Kbg];rw[KaL,<-Nat.mul_assoc,KaP 65536 (65536^_)];omega
theorem kJ{l:List Nat}(h:Qj l):val l<65536^l.length:=by
 induction l with
 |nil=>simp[val]
 |cons x l ih=>rw[eM]at h;have:=ih h.2;simp only[val,KaW,Kbg];omega
theorem HU(n:Nat):val (List.replicate n 0)=0:=by
 induction n with
 |zero=>rfl
 |succ n ih=>simp[Kbv,val,ih]
theorem Ce{l:List Nat}(h:Qj l)(hl:l.getLast? ≠some 0):aj (val l)=l:=by
 induction l with
 |nil=>simp[val,ek]
 | cons x l ih=>
  rw[eM]at h;have mQ:l.getLast? ≠some 0:=by intro hh;apply hl;rw[Kcf,hh];rfl
  have a9:val (x::l)≠0:=by
   simp only[val];intro h0;have h1:val l=0:=by omega
   have:=ih h.2 mQ;rw[h1,ek]at this;subst this;simp at hl;omega
  rw[om a9];simp only[val];rw[show(x+65536*val l)%65536=x by omega,show(x+65536*val l)/65536=val l by omega,ih h.2 mQ]
theorem BJ(n:Nat):(aj n).getLast? ≠some 0:=by
 induction n using aj.induct with
 |case1=>simp[ek]
 | case2 n h ih=>
  rw[om h,Kcf];cases hd:(aj (n/65536)).getLast? with
  |none=>
   have:n/65536=0:=by rw[List.getLast?_eq_none_iff,iA]at hd;exact hd
   simp;omega
  |some y=>rw[hd]at ih;simpa using ih
def cut(l:List Nat):Nat->List Nat
 |0=>[]
 |n+1=>if l[n]? =some 0 then cut l n else l.take (n+1)
theorem Ff{l:List Nat}(h:Qj l):∀n,n<=l.length->cut l n=aj (val (l.take n))
 |0,_=>by simp[cut,val,ek]
 | n+1,hn=>by
  have e:l.take (n+1)=l.take n++[l[n]]:=by rw[KaD (by omega)]
  unfold cut;split
  ·rename_i hz;rw[Ff h n (by omega),e,jk];rw[Kaf (by omega)]at hz;have nU:l[n]=0:=by simpa using hz
   simp[val,nU]
  ·rename_i hz;rw[Ce (re h _)];rw[e,List.getLast?_concat];intro h0;apply hz;rw[Kaf (by omega)];exact h0
theorem tM{l:List Nat}(h:Qj l):cut l l.length=aj (val l):=by rw[Ff h _ (Kae _),Kbn]
theorem bP{l:List Nat}(h:Qj l):nl (val l)<=l.length:=by
 rw[nl,<-tM h];have:∀n,(cut l n).length<=n:=by
  intro n;induction n with
  |zero=>simp[cut]
  |succ n ih=>
   unfold cut;split
   ·omega
   ·simp;omega
 have h1:=this l.length;exact h1
theorem jr{n k:Nat}:nl n<=k↔n<65536^k:=by
 induction k generalizing n with
 |zero=>simp[Bk]
 | succ k ih=>
  by_cases h:n=0
  ·subst h;simp[Jp];exact KbG (by omega)
  ·rw[Tc h,Nat.add_le_add_iff_right,ih,Kbg,Ka5 (by omega)]
theorem eX{m n:Nat}(h:m<=n):nl m<=nl n:=jr.2 (Kce h (jr.1 (Kae _)))
theorem Fg(m n:Nat):nl (m+n)<=max (nl m) (nl n)+1:=by rw[jr,Kbg];have h1:m<65536^(max (nl m) (nl n)):=jr.1 (by omega);have h2:n<65536^(max (nl m) (nl n)):=jr.1 (by omega);omega
theorem lK(m n:Nat):nl (m*n)<=nl m+nl n:=by rw[jr,Nat.pow_add];exact Nat.mul_lt_mul'' (jr.1 (Kae _)) (jr.1 (Kae _))
theorem nf{n:Nat}(h:n<18446744073709551616):nl n<=4:=jr.2 (by simpa using h)
theorem wy{n:Nat}:nl n<=4↔n<18446744073709551616:=by rw[jr]
theorem ni:aj 1=[1]:=by rw[om (by omega)];simp[ek]
open Go
variable {C : Ctx} {ρ : Nat -> Option Nat} {fr : Fr} {hp : HP} {w : World} {K R : Qg}
abbrev bD(l:List Nat):List PV:=l.map fun(x:Nat)=>.int .u16 x
abbrev lT(l:List Int):List PV:=l.map fun(x:Int)=>.int .i64 x
theorem Td(a b:Nat):(a:Int)+(b:Int)=((a+b:Nat):Int):=rfl
theorem QS(a:Nat):(a:Int)+1=((a+1:Nat):Int):=rfl
theorem QT(a:Nat):(a:Int)+2=((a+2:Nat):Int):=rfl
theorem QU(a:Nat):(a:Int)+3=((a+3:Nat):Int):=rfl
theorem Te(a b:Nat):(a:Int)*(b:Int)=((a*b:Nat):Int):=rfl
theorem P9{α:Type}{f:α->PV}{e d:Nat}{k:IntKind}{i:Nat}{xs:List α}(h:i<xs.length):
  cG e (.sl e (xs.map f)) (.int k (i:Int)) d fr hp K=K (ae fr d (.pt (f (xs[i]'h)).cells)) hp:=by
 rw[pI (by omega) (by omega)];rfl
theorem P'{e d β o n i:Nat}{k:IntKind}(h:i<n)(he:(hp β).map (·.e)=some e):cG e (.ao β o n) (.int k (i:Int)) d fr hp K=K (ae fr d (.mp β (o+i) 0)) hp:=by rw[xp (by omega) (by omega) he];rfl
theorem TL{α:Type}{f:α->PV}{e d:Nat}{xs:List α}{k:IntKind}{n:Nat}(h5:n<=xs.length):
  fh e (.sl e (xs.map f)) none (some (.int k (n:Int))) none d fr hp K=K (ae fr d (.sl e ((xs.take n).map f))) hp:=by
 rw[Bx (by omega) (by omega)];rfl
theorem TM{α:Type}{f:α->PV}{e d:Nat}{xs:List α}{k:IntKind}{n:Nat}(h5:n<=xs.length):
  fh e (.sl e (xs.map f)) (some (.int k (n:Int))) none none d fr hp K=K (ae fr d (.sl e ((xs.drop n).map f))) hp:=by
 rw[M0 (by omega) (by omega)];rfl
theorem OQ{α:Type}{f:α->PV}{e d:Nat}{xs:List α}{k k':IntKind}{m n:Nat}(h4:m<=n)(h5:n<=xs.length):
  fh e (.sl e (xs.map f)) (some (.int k (m:Int))) (some (.int k' (n:Int))) none d fr hp K=K (ae fr d (.sl e (((xs.take n).drop m).map f))) hp:=by
 rw[Yf (by omega) (by omega) (by omega)];rfl
theorem TN{by_ ty d:Nat}{k k':IntKind}{n c:Nat}(h2:n<=c)(h3:by_*c<=281474976710656)(h4:c<=9223372036854775807):
  jM 1 by_ ty (.int .u16 0) (.int k (n:Int)) (.int k' (c:Int)) d fr hp K=K (ae (bI d fr) d (.ms d n)) (Qi hp d ⟨1,ty,bD (List.replicate n 0),false⟩):=by
 rw[Fm (by omega) (by omega) (by omega) (by omega)];simp[bD]
theorem TO{ty i d:Nat}{fz:Bool}{l:List Nat}(h:i<l.length):fU (some ⟨1,ty,bD l,fz⟩) 1 false i 0 d fr hp K=K (ae fr d (.int .u16 (l[i]'h:Nat))) hp:=by rw[lJ (by simpa using h) (by omega) (by simp)];simp[dk,PV.cells]
theorem TP{ty i d:Nat}{fz:Bool}{l:List Int}(h:i<l.length):fU (some ⟨1,ty,lT l,fz⟩) 1 false i 0 d fr hp K=K (ae fr d (.int .i64 (l[i]'h))) hp:=by rw[lJ (by simpa using h) (by omega) (by simp)];simp[dk,PV.cells]
theorem Fh{ty β i v:Nat}{l:List Nat}(h:i<l.length):stM (some ⟨1,ty,bD l,false⟩) β 1 i 0 (.int .u16 (v:Int)) fr hp K=K fr (Qi hp β ⟨1,ty,bD (l.set i v),false⟩):=by rw[Fo (by simpa using h)];simp[bD,List.map_set]
theorem TQ{ty β i:Nat}{v:Int}{l:List Int}(h:i<l.length):stM (some ⟨1,ty,lT l,false⟩) β 1 i 0 (.int .i64 v) fr hp K=K fr (Qi hp β ⟨1,ty,lT (l.set i v),false⟩):=by rw[Fo (by simpa using h)];simp[lT,List.map_set]
theorem OR{β n ty:Nat}{l:List Nat}{fz:Bool}(h:hp β=some ⟨1,ty,bD l,fz⟩)(hn:n=l.length)(hB:bg β=false:=by decide):Qy hp (.ms β n)= .sl 1 (bD l):=by rw[Jo hp β n _ _ _ _ h hB,Kai (by simp[hn])]
theorem pB{P:Program}(hP:C.P=P){g:FuncId}{first cap args aM:List PV}{pr:Bool}{d:Option Nat}{r:PV}(h:Qd P g aM (· =r))(cr:(first++args++cap).map (Qy hp)=aM)(cQ:aM.all PV.ax=true)
  (hK:∀hp',K (ew fr d r) hp'):ez C pr (.fn g first cap) args d fr hp K:=gX hP h cr cQ (hK _)
end Go.FW
namespace Go.FW
def fP(x y:Nat):Int:=if x<y then -1 else if y<x then 1 else 0
theorem Cf{x y:Nat}(h:x<y):fP x y= -1:=by simp[fP,h]
theorem Cg{x y:Nat}(h:y<x):fP x y=1:=by simp[fP,h];omega
theorem Jq{x y:Nat}(h:x=y):fP x y=0:=by simp[fP,h]
theorem Ij{x y:Nat}(h:nl x<nl y):x<y:=by
 rcases Nat.lt_or_ge x y with h1|h1
 ·exact h1
 ·have:=eX h1;omega
theorem lB(l:List Nat)(k:Nat)(hk:k<=l.length):val l=val (l.take k)+65536^k*val (l.drop k):=by have:=jk (l.take k) (l.drop k);rw[Kbh,Kau,KbH hk]at this;exact this
theorem n7{l:List Nat}(h:Qj l)(k:Nat)(hk:k<=l.length):val (l.take k)<65536^k:=by
 have:=kJ (re h k)
 rwa[Kau,KbH hk]at this
theorem iD{l:List Nat}{k:Nat}(hk:k<l.length):val (l.drop k)=l[k]+65536*val (l.drop (k+1)):=by rw[Kar hk,val]
theorem Yh{a b:List Nat}(ha:Qj a){k:Nat}(yr:k<=a.length)(uT:k<=b.length)(h:val (a.drop k)<val (b.drop k)):val a<val b:=by rw[lB a k yr,lB b k uT];have h1:=n7 ha k yr;have h2:65536^k*(val (a.drop k)+1)<=65536^k*val (b.drop k):=Kbk _ h;rw[KaL]at h2;omega
theorem HV{a b:List Nat}(ha:Qj a){k:Nat}(yr:k<a.length)(uT:k<b.length)(h:a[k]<b[k])(he:val (a.drop (k+1))=val (b.drop (k+1))):val a<val b:=by refine Yh ha (k:=k) (by omega) (by omega) ?_;rw[iD yr,iD uT,he];omega
def fC:List Nat->List Nat->Nat->List Nat
 | [],_,c=>if c=0 then []else [c]
 |x::xs,ys,c=>(c+x+ys.headD 0)%65536::fC xs ys.tail ((c+x+ys.headD 0)/65536)
theorem tn(l:List Nat):val l=l.headD 0+65536*val l.tail:=by cases l<;>simp[val]
theorem Ik:∀(a b:List Nat)(c:Nat),b.length<=a.length->val (fC a b c)=val a+val b+c
 | [],b,c,h=>by have:b=[]:=Kas.1 (by simpa using h);subst this;unfold fC;split<;>simp[val];omega
 |x::xs,b,c,h=>by rw[fC,val,Ik xs b.tail _ (by simp at h ⊢;omega),val,tn b];omega
theorem GZ:∀(a b:List Nat)(c:Nat),c<65536->Qj a->Qj b->b.length<=a.length->Qj (fC a b c)
 | [],b,c,hc,_,_,_=>by unfold fC;split<;>simp[Qj];exact hc
 |x::xs,b,c,hc,ha,hb,h=>by
  rw[eM]at ha;have iT:b.headD 0<65536:=by cases b with|nil=>simp|cons y ys=>exact hb _ (by simp)
  rw[fC,eM];exact⟨by omega,GZ xs b.tail _ (by omega) ha.2 (fun x hx=>hb x (List.mem_of_mem_tail hx)) (by simp at h ⊢;omega)⟩
theorem HW:∀(a b:List Nat)(c:Nat),a.getLast? ≠some 0->(fC a b c).getLast? ≠some 0
 | [],b,c,_=>by unfold fC;split<;>simp;assumption
 | x::xs,b,c,h=>by
  rw[fC,Kcf];cases xs with
  |nil=>
   simp only[List.getLast?_singleton,ne_eq,Kaq]at h;simp only[fC];generalize b.headD 0=y;split
   ·rename_i h0;simp;omega
   ·rename_i h0;simp;omega
  |cons y ys=>
   have ih:=HW (y::ys) b.tail ((c+x+b.headD 0)/65536) (by rw[Kcf]at h;simpa[Kcf]using h);cases hl:(fC (y::ys) b.tail ((c+x+b.headD 0)/65536)).getLast? with
   |none=>rw[List.getLast?_eq_none_iff]at hl;simp[fC]at hl
   |some z=>rw[hl]at ih;simpa using ih
theorem OS{x y:Nat}(h:nl y<=nl x):fC (aj x) (aj y) 0=aj (x+y):=by have h1:=Ik (aj x) (aj y) 0 h;rw[Qz,Qz,KaJ]at h1;rw[<-h1,Ce (GZ _ _ _ (by omega) (Ql x) (Ql y) h) (HW _ _ _ (BJ x))]
def iO:List Nat->List Nat->Nat->List Nat
 | [],_,_=>[]
 |x::xs,ys,c=>(x+65536-c-ys.headD 0)%65536::iO xs ys.tail (if x<c+ys.headD 0 then 1 else 0)
theorem G1:∀(a b:List Nat)(c:Nat),Qj (iO a b c)
 | [],_,_=>jT
 |x::xs,b,c=>by rw[iO,eM];exact⟨by omega,G1 xs _ _⟩
theorem GA:∀(a b:List Nat)(c:Nat),(iO a b c).length=a.length
 | [],_,_=>rfl
 |x::xs,b,c=>by simp[iO,GA xs]
theorem Il:∀(a b:List Nat)(c:Nat),c<=1->Qj a->Qj b->b.length<=a.length->val b+c<=val a->val (iO a b c)+val b+c=val a
 | [],b,c,_,_,_,h,h2=>by have:b=[]:=Kas.1 (by simpa using h);subst this;simp[val]at h2 ⊢;simp[iO,val,h2]
 |x::xs,b,c,hc,ha,hb,h,h2=>by
  rw[eM]at ha;have iT:b.headD 0<65536:=by cases b with|nil=>simp|cons y ys=>exact hb _ (by simp)
  rw[val,tn b]at h2;rw[iO,val,val,tn b];have ih:=Il xs b.tail (if x<c+b.headD 0 then 1 else 0) (by split<;>omega) ha.2 (fun x hx=>hb x (List.mem_of_mem_tail hx)) (by simp at h ⊢;omega) (by generalize b.headD 0=y at *;split<;>omega);generalize b.headD 0=y at *
  split at ih
  ·rename_i h0;rw[if_pos h0];omega
  ·rename_i h0;rw[if_neg h0];omega
theorem tH{done:List Nat}{i n v:Nat}(h:done.length=i)(hn:0<n):(done++List.replicate n 0).set i v=(done++[v])++List.replicate (n-1) 0:=by
 subst h;obtain⟨n,rfl⟩:∃k,n=k+1:=⟨n-1,by omega⟩
 simp[Kbv]
theorem BK{done:List Nat}{i n m:Nat}(h:done.length=i)(hn:i+n=m):(done++List.replicate n 0).length=m:=by simp[h,hn]
theorem MG{a b:List Nat}{i c:Nat}(h:i<a.length):fC (a.drop i) (b.drop i) c=(c+a[i]+b.getD i 0)%65536::fC (a.drop (i+1)) (b.drop (i+1)) ((c+a[i]+b.getD i 0)/65536):=by rw[Kar h,fC];simp[Kbu,Kb6,Kad]
theorem MH{a b:List Nat}{i c:Nat}(h:i<a.length):iO (a.drop i) (b.drop i) c=(a[i]+65536-c-b.getD i 0)%65536::iO (a.drop (i+1)) (b.drop (i+1)) (if a[i]<c+b.getD i 0 then 1 else 0):=by rw[Kar h,iO];simp[Kbu,Kb6,Kad]
theorem et{b:List Nat}{i:Nat}(h:i<b.length):b.getD i 0=b[i]:=by simp[Kad,h]
theorem eu{b:List Nat}{i:Nat}(h:¬i<b.length):b.getD i 0=0:=by simp[Kad,h]
open Go
variable {C : Ctx} {ρ : Nat -> Option Nat} {fr : Fr} {hp : HP} {w : World} {K K' R : Qg}
theorem BL(h:∀fr hp,K fr hp->K' fr hp)(o:bN):aS C o fr hp K->aS C o fr hp K':=by
 cases o with
 | call d pr f args=>
  simp only[aS,ez];split
  ·rintro⟨h1,h2⟩;refine⟨h1,fun ρ tmps w fv cv av a1 a2 a3 a4 a5 a6 a7 a8=>(h2 ρ tmps w fv cv av a1 a2 a3 a4 a5 a6 a7 a8).mono ?_⟩;rintro e w' ⟨v,aq,hp',e1,e2,e3,e4⟩;exact⟨v,aq,hp',e1,e2,e3,h _ _ e4⟩
  ·exact id
 |bs d e ty ps=>
  simp only[aS,ki];split
  ·exact fun H=>⟨H.1,h _ _ H.2⟩
  ·exact fun H=>⟨H.1,H.2.1,h _ _ H.2.2⟩
 | app d e by_ ty s x=>
  simp only[aS,fl];intro H;revert H;split
  ·unfold rZ;split
   ·split
    ·rintro⟨a1,a2,a3,H⟩;refine⟨a1,a2,a3,?_⟩;revert H;split
     ·exact fun H=>⟨H.1,h _ _ H.2⟩
     ·split
      ·exact fun H=>⟨H.1,H.2.1,h _ _ H.2.2⟩
      ·exact id
     ·exact id
    ·exact id
   ·exact id
  ·rintro⟨h0,h1,H⟩;refine⟨h0,h1,?_⟩;revert H;split
   ·rintro⟨a,b,c⟩;exact⟨a,b,h _ _ c⟩
   ·split
    ·rintro(⟨a1,a2,a3,a4,a5,a6,a7,c⟩|⟨a1,a2,a3,c⟩)
     ·exact .inl ⟨a1,a2,a3,a4,a5,a6,a7,h _ _ c⟩
     ·exact .inr ⟨a1,a2,a3,h _ _ c⟩
    ·exact id
   ·exact id
 |bin d op bt x y=>
  simp only[aS,bF];intro H;revert H;split
  ·split<;>first|exact fun H=>⟨H.1,H.2.1,h _ _ H.2.2⟩|exact fun H=>⟨H.1,h _ _ H.2⟩|exact id
  ·split<;>first|exact fun H=>⟨H.1,h _ _ H.2⟩|exact id
  ·exact id
 | _=>
  simp only[aS,mL,mM,pW,oy,ns,pb,pN,kS,qR,qP,cG,mG,rY,mN,mH,gQ,jN,dG,oz,jM,ki,fl,oA,fh,iL,iM,xI,ud]
  try (intro H;revert H)
  try (repeat' split)
  all_goals first
   |exact id
   |exact h _ _
   |grind
theorem G2(h:∀fr hp,K fr hp->K' fr hp)(o:bN):fL o fr hp K->fL o fr hp K':=by unfold fL;split<;>exact h _ _
theorem MI(h:∀fr hp,K fr hp->K' fr hp)(g:Option (Nat×Bool))(o:bN):ju C g o fr hp K->ju C g o fr hp K':=by
 unfold ju;split
 ·exact BL h o
 ·split
  ·exact fun H=>⟨fun e=>BL h o (H.1 e),fun e=>G2 h o (H.2 e)⟩
  ·exact G2 h o
  ·exact id
theorem Fi{sk:List It}{g:Option (Nat×Bool)}{o:bN}{r:RT}:vc C R (.o (.o g o r)::sk) fr hp=ju C g o fr hp (fun fr hp=>vc C R (.o r::sk) fr hp):=by rw[vc]
theorem Fj{sk:List It}{x y:RT}:vc C R (.o (.br x y)::sk) fr hp=(vc C R (.o x::sk) fr hp/\vc C R (.o y::sk) fr hp):=by rw[vc]
theorem td{id:Nat}{M:Qg}{sk:List It}:∀(pre:List It),(∃p,FW.bE id (pre++ .el M::sk)=some (p++ .el M::sk)/\FW.bE id (pre++sk)=some (p++sk)/\bl p<=bl pre)∨FW.bE id (pre++ .el M::sk)=FW.bE id (pre++sk)
 | []=>.inr rfl
 |.c s::pre=>by
  rcases td (id:=id) (M:=M) (sk:=sk) pre with⟨p,h1,h2,h3⟩|h
  ·exact .inl ⟨p,h1,h2,by simp only[bl];omega⟩
  ·exact .inr h
 |.o s::pre=>by
  rcases td (id:=id) (M:=M) (sk:=sk) pre with⟨p,h1,h2,h3⟩|h
  ·exact .inl ⟨p,h1,h2,by simp only[bl];omega⟩
  ·exact .inr h
 |.el s::pre=>by
  rcases td (id:=id) (M:=M) (sk:=sk) pre with⟨p,h1,h2,h3⟩|h
  ·exact .inl ⟨p,h1,h2,by simp only[bl];omega⟩
  ·exact .inr h
 |.eb i::pre=>by
  by_cases hi:i=id
  ·exact .inl ⟨pre,by simp[FW.bE,hi],by simp[FW.bE,hi],by simp only[bl];omega⟩
  ·rcases td (id:=id) (M:=M) (sk:=sk) pre with⟨p,h1,h2,h3⟩|h
   ·exact .inl ⟨p,by simp[FW.bE,hi,h1],by simp[FW.bE,hi,h2],by simp only[bl];omega⟩
   ·exact .inr (by simp[FW.bE,hi,h])
theorem xg{M:Qg}{sk:List It}(hM:∀fr hp,M fr hp->vc C R sk fr hp):∀(n:Nat)(pre:List It)(fr:Fr)(hp:HP),bl pre<=n->vc C R (pre++ .el M::sk) fr hp->vc C R (pre++sk) fr hp:=by
 intro n;induction n with
 | zero=>
  intro pre fr hp hn h;cases pre with
  |nil=>simp only[KaC,pO]at h ⊢;exact hM _ _ h
  |cons i pre=>
   exfalso;have:=SC.sV;cases i<;>simp only[bl,It.sz]at hn
   ·rename_i s;have:=SC.sV s;omega
   ·rename_i s;have:=RT.sV s;omega
   ·omega
   ·omega
 | succ n ih=>
  intro pre fr hp hn h;cases pre with
  |nil=>simp only[KaC,pO]at h ⊢;exact hM _ _ h
  | cons i pre=>
   cases i with
   |eb i=>simp only[KaE,xz]at h⊢;exact ih _ _ _ (by simp only[bl,It.sz]at hn;omega) h
   |el J=>simp only[KaE,pO]at h ⊢;exact h
   | o r=>
    cases r with
    |nil=>simp only[KaE,tY]at h⊢;exact ih _ _ _ (by simp only[bl,It.sz,RT.sz]at hn;omega) h
    |o g o r=>simp only[KaE,Fi]at h⊢;refine MI (fun fr hp h=>?_) g o h;exact ih (.o r::pre) _ _ (by simp only[bl,It.sz,RT.sz]at hn ⊢;omega) h
    |wk r=>simp only[KaE,xl]at h⊢;obtain⟨aY,au,hw,h⟩:=h;exact⟨aY,au,hw,ih (.o r::pre) _ _ (by simp only[bl,It.sz,RT.sz]at hn ⊢;omega) h⟩
    |br x y=>simp only[KaE,Fj]at h⊢;exact⟨ih (.o x::pre) _ _ (by simp only[bl,It.sz,RT.sz]at hn ⊢;omega) h.1,ih (.o y::pre) _ _ (by simp only[bl,It.sz,RT.sz]at hn ⊢;omega) h.2⟩
   | c s=>
    cases s with
    |skip=>simp only[KaE,xd]at h⊢;exact ih _ _ _ (by simp only[bl,It.sz,SC.sz]at hn;omega) h
    |rg r=>simp only[KaE,CC]at h⊢;exact ih (.o r::pre) _ _ (by simp only[bl,It.sz,SC.sz]at hn ⊢;omega) h
    |raw id ops=>simp only[KaE]at h⊢;rw[vc]at h⊢;intro tmps w Q hs hQ;refine h tmps w Q hs fun aq hp' vG w' dw hv=>hQ aq hp' vG w' dw ?_;exact ih _ _ _ (by simp only[bl,It.sz,SC.sz]at hn;omega) hv
    |seq a b=>simp only[KaE,xm]at h⊢;exact ih (.c a:: .c b::pre) _ _ (by simp only[bl,It.sz,SC.sz]at hn ⊢;omega) h
    |block id a=>simp only[KaE,wK]at h⊢;exact ih (.c a:: .eb id::pre) _ _ (by simp only[bl,It.sz,SC.sz]at hn ⊢;omega) h
    |ret=>simp only[KaE,xo]at h ⊢;exact h
    |cond c x y=>
     simp only[KaE,xe]at h⊢;unfold ow at h⊢;split at h
     ·exact⟨fun e=>ih (.c x::pre) _ _ (by simp only[bl,It.sz,SC.sz]at hn ⊢;omega) (h.1 e),fun e=>ih (.c y::pre) _ _ (by simp only[bl,It.sz,SC.sz]at hn ⊢;omega) (h.2 e)⟩
     ·exact h
    | exit id=>
     simp only[KaE,xf]at h⊢;rcases td (id:=id) (M:=M) (sk:=sk) pre with⟨p,h1,h2,h3⟩|he
     ·rw[h1]at h;rw[h2];simp only[pP]at h⊢;exact ih _ _ _ (by simp only[bl,It.sz,SC.sz]at hn;omega) h
     ·rw[he]at h;exact h
    |loop a=>simp only[KaE,ri]at h⊢;obtain⟨I,μ,h1,h2⟩:=h;refine⟨I,μ,h1,fun fr hp hI=>?_⟩;exact ih (.c a:: .el _::pre) _ _ (by simp only[bl,It.sz,SC.sz]at hn ⊢;omega) (h2 fr hp hI)
theorem tp{c:PV}{x y:SC}{sk:List It}(M:Qg)(h:lM C R c x y (.el M::sk) fr hp)(hM:∀fr hp,M fr hp->vc C R sk fr hp):lM C R c x y sk fr hp:=by
 unfold lM ow at h⊢;split at h
 ·exact⟨fun e=>xg hM _ [.c x] _ _ (Kae _) (h.1 e),fun e=>xg hM _ [.c y] _ _ (Kae _) (h.2 e)⟩
 ·exact h
end Go.FW
namespace Go.FW
open Go
variable {C : Ctx} {ρ : Nat -> Option Nat} {fr : Fr} {hp : HP} {w : World} {K K' R : Qg}
def ug(R:PV->Prop)(p q:PV):Prop:=(p.ax=true/\q.ax=true)/\∃r,PV.vt (.aJ [p,q]) r/\R r
def y7(R:PV->Prop)(p q s:PV):Prop:=(p.ax=true/\q.ax=true/\s.ax=true)/\∃r,PV.vt (.aJ [p,q,s]) r/\R r
def FY(R:PV->Prop):Prop:=∃r,PV.vt (.aJ []) r/\R r
theorem TR{a b:Nat}{Rr:PV->Prop}:eg [.t a,.t b] Rr fr hp=ug Rr (Qy hp (fr a)) (Qy hp (fr b)):=by simp[eg,ug,gz,fV]
theorem TS{a b c:Nat}{Rr:PV->Prop}:eg [.t a,.t b,.t c] Rr fr hp=y7 Rr (Qy hp (fr a)) (Qy hp (fr b)) (Qy hp (fr c)):=by simp[eg,y7,gz,fV]
theorem TT{Rr:PV->Prop}:eg [] Rr fr hp=FY Rr:=by simp[eg,FY]
theorem lP{p q p' q' r:PV}(h:r= .aJ [p',q'])(d1:p.ax=true)(d2:q.ax=true)(h1:PV.le p p')(h2:PV.le q q'):ug (· =r) p q:=⟨⟨d1,d2⟩,r,by subst h;exact⟨h1,h2,trivial⟩,rfl⟩
theorem oC{p q s p' q' s' r:PV}(h:r= .aJ [p',q',s'])(d1:p.ax=true)(d2:q.ax=true)(d3:s.ax=true)(h1:PV.le p p')(h2:PV.le q q')(h3:PV.le s s'):y7 (· =r) p q s:=⟨⟨d1,d2,d3⟩,r,by subst h;exact⟨h1,h2,h3,trivial⟩,rfl⟩
theorem od{p q:PV}(h:p=q):PV.le p q:=h▸cf p
theorem tw{β n ty:Nat}{l:List Nat}{fz:Bool}(h:hp β=some ⟨1,ty,bD l,fz⟩)(hn:n=l.length)(hB:bg β=false:=by decide):(([]:List PV)++[PV.ms β n]++([]:List PV)).map (Qy hp)=[.sl 1 (bD l)]:=by simp[OR h hn hB]
theorem lA{n:Nat}(h:(aj n).length=0):aj n=[]:=Kas.1 h
abbrev PV.nat(l:List Nat):PV:=.sl 1 (bD l)
abbrev PV.num(n:Nat):PV:=PV.nat (aj n)
theorem rA:PV.le .aa (PV.num 0):=by rw[PV.num,ek];trivial
theorem tN{n:Nat}(h:n=0):PV.le .aa (PV.num n):=by subst h;exact rA
end Go.FW
namespace Go.FW
def gf:List Nat->List Nat->Nat->Nat->List Nat
 |r::rs,y::ys,x,c=>(c+(r+x*y))%65536::gf rs ys x ((c+(r+x*y))/65536)
 |_,_,_,c=>[c]
theorem Im:∀(r b:List Nat)(x c:Nat),r.length=b.length->val (gf r b x c)=val r+x*val b+c
 | [],[],x,c,_=>by simp[gf,val]
 |r::rs,y::ys,x,c,h=>by rw[gf,val,Im rs ys x _ (by simpa using h),val,val,KaL x,Kbt x 65536];generalize x*y=p;generalize x*val ys=q;omega
 | [],_::_,_,_,h=>by simp at h
 |_::_,[],_,_,h=>by simp at h
theorem oa{x y:Nat}(hx:x<65536)(hy:y<65536):x*y<=4294836225:=by have:=KbS (show x<=65535 by omega) (show y<=65535 by omega);omega
theorem He:∀(r b:List Nat)(x c:Nat),c<65536->x<65536->Qj r->Qj b->Qj (gf r b x c)
 |r::rs,y::ys,x,c,hc,hx,hr,hb=>by rw[eM]at hr hb;have:=oa hx hb.1;rw[gf,eM];exact⟨by omega,He rs ys x _ (by omega) hx hr.2 hb.2⟩
 | [],_,x,c,hc,_,_,_=>by simp[gf,Qj];exact hc
 |_::_,[],x,c,hc,_,_,_=>by simp[gf,Qj];exact hc
theorem GB:∀(r b:List Nat)(x c:Nat),r.length=b.length->(gf r b x c).length=r.length+1
 |r::rs,y::ys,x,c,h=>by simp[gf,GB rs ys x _ (by simpa using h)]
 | [],[],x,c,_=>rfl
 | [],_::_,_,_,h=>by simp at h
 |_::_,[],_,_,h=>by simp at h
theorem xh{p t:List Nat}{r j:Nat}(h:p.length=j)(hj:j<(p++r::t).length):(p++r::t)[j]=r:=by subst h;simp
theorem jV{p t:List Nat}{r j v:Nat}(h:p.length=j):(p++r::t).set j v=p++v::t:=by subst h;simp
theorem sZ{l:List Nat}{i:Nat}(h:i<l.length):val (l.take (i+1))=val (l.take i)+65536^i*l[i]:=by rw[KaD h,jk,Kau,KbH (by omega)];simp[val]
theorem OT{a lo b:List Nat}{i:Nat}(h:i<a.length)(hl:lo.length=i+b.length)(hv:val lo=val (a.take i)*val b):
  val (lo.take i++gf (lo.drop i) b a[i] 0)=val (a.take (i+1))*val b:=by
 rw[jk,Im _ _ _ _ (by simp[hl]),sZ h,Kau,KbH (by omega),Kax,<-hv,lB lo i (by omega),KaJ,KaL,Ka4];omega
open Go
variable {C : Ctx} {ρ : Nat -> Option Nat} {fr : Fr} {hp : HP} {w : World} {K K' R : Qg}
def B0:Nat:=1000000
def jv(xs:List PV):Prop:=∀x∈xs,∃k n,x= .int k n
theorem mE(l:List Nat):jv (bD l):=by intro x hx;simp only[bD,KaM]at hx;obtain⟨n,_,rfl⟩:=hx;exact⟨_,_,rfl⟩
def j'(w:World)(b:Nat)(ty:TypeId)(xs:List PV):Prop:=jv xs/\∃(cur:Array Value)(cap:Nat),w.heap[b]? =some (.cells cur ty (0,0))/\cur.size=cap*1/\xs.length<=cap/\cap<=maxLen/\
 ∀(i:Nat)(k:IntKind)(n:Int),xs[i]? =some (.int k n)->cur.getD i undef= .int k n
theorem j'.fJ{b:Nat}{ty:TypeId}{xs:List PV}{fz:Bool}{X:Nat->Prop}(h:j' w b ty xs):r7 w X b ⟨1,ty,xs,fz⟩:=by
 obtain⟨hi,cur,cap,h1,h2,h3,h4,h5⟩:=h;refine⟨cur,cap,h1,h2,h3,h4,fun i x hx j y hy=>?_⟩;obtain⟨k,n,rfl⟩:=hi x (Kag hx);cases j with
 |zero=>simp[PV.cells]at hy;subst hy;rw[Kb1,KaJ,h5 i k n hx];exact Qo.int k n
 |succ j=>simp[PV.cells]at hy
theorem j'.EO{b:Nat}{ty:TypeId}{xs:List PV}{fz:Bool}{X:Nat->Prop}(h:r7 w X b ⟨1,ty,xs,fz⟩)(hi:jv xs):j' w b ty xs:=by obtain⟨cur,cap,h1,h2,h3,h4,h5⟩:=h;refine⟨hi,cur,cap,h1,h2,h3,h4,fun i k n hx=>?_⟩;have:=h5 i _ hx 0 (.int k n) rfl;simp only[Kb1,KaJ]at this;generalize hg:cur.getD i undef=v at this;cases this;rfl
theorem wR{xs:List PV}(h:jv xs):∀(i:Nat)(x:PV),xs[i]? =some x->x.cells.length=1/\x.ax=true:=by intro i x hx;obtain⟨k,n,rfl⟩:=h x (Kag hx);exact⟨rfl,rfl⟩
def JJ(w:World)(b len:Nat)(o n:Nat)(v:Value):Prop:=o+n<=len/\∃cap,v= .slice (some ⟨b,o*1,none⟩) n cap/\cu w b 1 (o+cap)/\o+cap<=maxLen
def LG(w:World)(X:Nat->Prop)(b len:Nat)(p:PV)(v:Value):Prop:=match p with
 |.ao β o n=>β=B0/\JJ w b len o n v
 |p=>aV w X p v
def JH(w:World)(X:Nat->Prop)(b len:Nat)(p:PV)(v:Value):Prop:=match p with
 |.ao β o n=>β=B0/\JJ w b len o n v
 |p=>dn w X p v
def rD(P:Program)(f:FuncId)(args:List PV)(ty:TypeId)(xs:List PV)(aP:PV->List PV->Prop):Prop:=
 kQ P f/\∀(w:World)(X:Nat->Prop)(b:Nat)(aQ:Array Value),(∀c,X c->c<w.heap.size)->X b->aQ.size=args.length->j' w b ty xs->0<xs.length->
  (∀(i:Nat)(x:PV),args[i]? =some x->LG w X b xs.length x (aQ.getD i undef))->
  Calls P f aQ w fun e w'=>∃v r xs',e= .returned v/\Ext (fun c=>c=b) w w'/\(∀e cap,cu w b e cap->cu w' b e cap)/\j' w' b ty xs'/\xs'.length=xs.length/\JH w' X b xs.length r v/\aP r xs'
def nt(rs:List RV)(ty:TypeId)(len:Nat)(aP:PV->List PV->Prop):Qg:=fun fr hp=>
 ∃xs',hp B0=some ⟨1,ty,xs',false⟩/\jv xs'/\xs'.length=len/\
  (eg rs (fun r=>(∀β o n,r≠ .ao β o n)/\aP r xs') fr hp∨∃s o n,rs=[.t s]/\fr s= .ao B0 o n/\aP (.ao B0 o n) xs')
theorem wz {P : Program} {f : FuncId} {fn : Func} {sf : aw} {args : List PV} {ty : TypeId} {xs : List PV} {aP : PV -> List PV -> Prop} (hm : P.follows .mixedOrders = true) (hf : P.funcs[f]? = some fn) (kt : (fn.name != "runtime.NumGoroutine") = true) (hc : Qe P fn = some sf) (hn : args.length <= sf.n /\ sf.n <= 1000000)
  (hv:∀C:Ctx,C.P=P->vc C (nt sf.rs ty xs.length aP) [.c sf.body] (fO args) (Qi au B0 ⟨1,ty,xs,false⟩)):rD P f args ty xs aP:=by
 simp only[Qe,Kab,Kaa]at hc;obtain⟨c,hb,sb,gk,rs,ct,rfl⟩:=hc;refine⟨by simp[kQ,hf,hb];simpa using kt,fun w X b aQ hX qk dL hI mT ed=>?_⟩;have kp:∀β c,(fun β=>if β=B0 then some b else none:Nat->Option Nat) β=some c->c<w.heap.size/\(dy β=false->¬(X c/\c≠b)):=fun β c h=>by
  simp only at h;split at h
  ·cases h;exact⟨hX b qk,fun _ h=>h.2 rfl⟩
  ·cases h
 let C:Ctx:=⟨P,fn.ntmps,w,fun c=>X c/\c≠b,fun c hc=>hX c hc.1,hn.2,fun β=>if β=B0 then some b else none,kp,bO,fun _ h=>h.elim⟩
 refine calls_of_wp hf hb ?_;have mW:(aQ++Array.replicate (fn.ntmps-aQ.size) undef).size=fn.ntmps:=by simp at hn ⊢;omega
 have ZS:∀c,ay C (fun β=>if β=B0 then some b else none) (Qi au B0 ⟨1,ty,xs,false⟩) c->X c:=by
  rintro c (hx|⟨β,_,h1,_,h3⟩)
  ·exact hx.1
  ·simp only at h3;split at h3
   ·cases h3;exact qk
   ·cases h3
 have kx:c8 C (fO args) (Qi au B0 ⟨1,ty,xs,false⟩) (aQ++Array.replicate (fn.ntmps-aQ.size) undef) w:=by
  refine⟨fun β=>if β=B0 then some b else none,mW,Ext.refl _ _,fun _ _ _ _ _ h=>h,fun β an ah=>?_,fun β γ b' h1 h2 h3 h4=>?_,fun i=>?_⟩
  ·unfold Qi at ah;split at ah
   ·rename_i abT;cases ah;subst abT;refine⟨by simp,wR hI.1,?_,(fun _=>rfl),fun h=>by cases h⟩;simp only[if_pos];exact⟨rfl,hX b qk,hI.fJ⟩
   ·simp[au]at ah
  ·have:∀β,(if β=B0 then some b else none:Option Nat)=some b'->β=B0:=fun β h=>by
    split at h
    ·assumption
    ·cases h
   rw[this β h3,this γ h4]
  ·unfold fO;cases hi:args[i]? with
   |none=>trivial
   | some p=>
    simp only[Kbm];have fe:i<aQ.size:=by rw[dL];exact(Kac.1 hi).1
    have hr:=ed i p hi;have e:(aQ++Array.replicate (fn.ntmps-aQ.size) undef).getD i undef=aQ.getD i undef:=by rw[gD,if_pos fe]
    rw[e];have key:aV w X p (aQ.getD i undef)->Qh C (fun β=>if β=B0 then some b else none) (Qi au B0 ⟨1,ty,xs,false⟩) w p (aQ.getD i undef):=fun hr=>
     Qh.iy (hr.mono (fun _ _ _=>rfl) (fun c _ hn hx=>hn (ZS c hx)) (Kae _))
    cases p with
    |ao β o n=>obtain⟨rfl,h1,cap,h2,h3,h4⟩:=hr;exact⟨⟨1,ty,xs,false⟩,by simp[Qi],h1,.inr ⟨b,cap,by simp,h2,h3,h4⟩⟩
    |_=>exact key hr
 have fin:∀(fr:Fr)(hp:HP)(a:Act)(w':World),a.defers=[]->c8 C fr hp a.tmps w'->nt rs ty xs.length aP fr hp->
   a.defers=[]/\∃v,(results fn a.tmps).run P w'= .ok v w'/\∃v' r xs',Ending.returned v= .returned v'/\Ext (fun c=>c=b) w w'/\(∀e cap,cu w b e cap->cu w' b e cap)/\j' w' b ty xs'/\xs'.length=xs.length/\JH w' X b xs.length r v'/\aP r xs':=by
  rintro fr hp a w' hd ⟨ρ,hs⟩ ⟨xs',hB,hint,hlen,hr⟩;have aT:=hs.own B0 _ hB;have aK:=aT.b8;have aU:ρ B0=some b:=by
   cases hq:ρ B0 with
   |none=>rw[hq]at aK;simp only at aK;rw[aK]at hlen;simp at hlen;omega
   |some b'=>rw[<-hq];exact aT.fix rfl
  rw[aU]at aK;have qi:j' w' b ty xs':=j'.EO aK.2.2 hint;have K7:Ext (fun c=>c=b) w w':=hs.ext.mono fun c _ hc=>by
   rcases hc with⟨β,_,hc⟩|hc
   ·have hc:(if β=B0 then some b else none:Option Nat)=some c:=hc;split at hc
    ·cases hc;rfl
    ·cases hc
   ·exact hc.elim
  have Kx:∀e cap,cu w b e cap->cu w' b e cap:=hs.dE B0 b rfl;rcases hr with hr|⟨s,o,n,rfl,ko,hp⟩
  ·obtain⟨v,r,h1,h2,h3,h4⟩:=LU (C:=C) rfl ct hs hr (X:=X) (fun c hc=>by
    by_cases e:c=b
    ·subst e;exact .inr ⟨B0,_,rfl,hB,rfl,aU⟩
    ·exact .inl ⟨hc,e⟩)
   refine⟨hd,v,h1,v,r,xs',rfl,K7,Kx,qi,hlen,?_,h4⟩;cases r with
   |ao β o n=>exact absurd rfl (h3 β o n)
   |_=>exact h2
  ·have aW:=hs.ch s;rw[ko]at aW;obtain⟨cl,g1,g2,g3⟩:=aW;rw[hB]at g1;cases g1;rcases g3 with⟨g3,_⟩|⟨b',cap,g3,g4,g5,g6⟩
   ·rw[aU]at g3;cases g3
   ·rw[aU]at g3;cases g3;obtain⟨x,hx⟩:∃x,fn.results.toList=[x]:=by have:=iz ct;exact Kcd.1 (by rw[<-this.1];rfl)
    have gu:eF P x=some (.t s):=by rw[hx]at ct;simp only[KbR,Kct,KbC,KbV,Kab,Kaq]at ct;obtain⟨y,h1,_,_,h2⟩:=ct;simp only[Kb7]at h2;rw[<-h2.1];exact h1
    have ml:x= .tmp s:=by
     cases x with
     |tmp t=>simpa[eF]using gu
     |cell y t=>simp[eF,Kab]at gu
    subst ml;have ej:(results fn a.tmps).run P w'= .ok (a.tmps.getD s undef) w':=by have e:results fn a.tmps=(do let vs<-fn.results.mapM (gd a.tmps);pure (if h:vs.size=1 then vs[0]else .tuple vs)):=rfl;rw[e,Kbj,hx];simp[Kaj,gd]
    refine⟨hd,_,ej,_,.ao B0 o n,xs',rfl,K7,Kx,qi,hlen,⟨rfl,hlen▸g2,cap,g4,g5,g6⟩,hp⟩
 exact AW (C:=C) (R:=nt rs ty xs.length aP) hm c sb [] _ (fO args) _ _ w gk ⟨fun fr hp a w' hd hs hv=>(by rw[oq]at hv;exact fin fr hp a w' hd hs hv),fun id cX he=>(by simp[FW.bE]at he),fin⟩ rfl kx (hv C rfl)
def PV.jK:PV->Bool
 |.ao .. =>true
 |p=>p.ax
def fJ(β:Nat):PV->PV
 |.ao γ o n=>if γ=β then .ao B0 o n else .undef
 |.mp _ _ _=>.undef
 |.rb _ _ _=>.undef
 |.fn _ _ _=>.undef
 |.aB _ _ _| .np _ _ _| .aE _| .cW _| .cj _ _| .az _ _ _ _=>.undef
 |p=>p
def jX(β:Nat):PV->PV
 |.ao _ o n=>.ao β o n
 |p=>p
theorem xw{P:Program}(hP:C.P=P){g:FuncId}{args aM:List PV}{d:Option Nat}{β:Nat}{ty:TypeId}{xs:List PV}{aP:PV->List PV->Prop}(h:rD P g aM ty xs aP)(ah:hp β=some ⟨1,ty,xs,false⟩)(hint:jv xs)(mT:0<xs.length)
  (cr:args.map (fJ β)=aM) (cQ:aM.all PV.jK=true)
  (hK:∀r xs',jv xs'->xs'.length=xs.length->aP r xs'->K (ew fr d (jX β r)) (Qi hp β ⟨1,ty,xs',false⟩)):ez C false (.fn g [] []) args d fr hp K:=by
 subst hP;refine⟨h.1,fun ρ tmps w fv cv av lZ hs h1 h2 h3 _ _ mf=>?_⟩;have aT:=hs.own β _ ah;have aK:=aT.b8;obtain⟨b,aU⟩:∃b,ρ β=some b:=by
  cases hq:ρ β with
  |none=>rw[hq]at aK;simp only at aK;rw[aK]at mT;simp at mT
  |some b=>exact⟨b,rfl⟩
 rw[aU]at aK;have qk:ay C ρ hp b:=.inr ⟨β,_,ah,rfl,aU⟩;have e1:fv= #[]:=KbB (by simpa using h1);have e2:cv= #[]:=KbB (by simpa using h2);subst e1;subst e2;simp only[Array.empty_append,Array.append_empty];refine(h.2 w (ay C ρ hp) b av (tZ hs) qk (by rw[<-cr];simp[h3]) (j'.EO aK.2.2 hint) mT (fun i x hx=>?_)).mono ?_
 ·rw [<-cr]at hx;simp only[Kap,Kaa]at hx;obtain⟨p,hp',qE⟩:=hx;have hr:=mf i p hp';have fI:PV.jK x=true:=by rw[KaB]at cQ;refine cQ x ?_;rw[<-cr,<-qE];exact Kca (Kag hp')
  subst qE;cases p with
  | ao γ o n=>
   simp only[fJ]at fI⊢;split
   ·rename_i af;subst af;obtain⟨cl,g1,g2,g3⟩:=hr;rw[ah]at g1;cases g1;rcases g3 with⟨g3,_⟩|⟨b',cap,g3,g4,g5,g6⟩
    ·rw[aU]at g3;cases g3
    ·rw[aU]at g3;cases g3;exact⟨rfl,g2,cap,g4,g5,g6⟩
   ·rename_i af;rw[if_neg af]at fI;simp[PV.jK,PV.ax]at fI
  |mp=>simp[fJ,PV.jK,PV.ax]at fI
  |rb=>simp[fJ,PV.jK,PV.ax]at fI
  |fn=>simp[fJ,PV.jK,PV.ax]at fI
  |undef=>simp[fJ,PV.jK,PV.ax]at fI
  |aB=>simp[fJ,PV.jK,PV.ax]at fI
  |np=>simp[fJ,PV.jK,PV.ax]at fI
  |aE=>simp[fJ,PV.jK,PV.ax]at fI
  |cW=>simp[fJ,PV.jK,PV.ax]at fI
  |cj=>simp[fJ,PV.jK,PV.ax]at fI
  |az=>simp[fJ,PV.jK,PV.ax]at fI
  |aJ=>simp[fJ,PV.jK,PV.ax]at fI
  |agg cs=>exact hr
  |_=>exact hr
 ·rintro e w' ⟨v,r,xs',rfl,hx,cJ,qi,hlen,ej,eT⟩;have aR:=hs.store β b ⟨1,ty,xs,false⟩ ⟨1,ty,xs',false⟩ ah rfl (by intro e;simp at e;rw[e]at mT;simp at mT) aU hx rfl hlen rfl (wR qi.1) cJ (qi.fJ (X:=ay C ρ hp) (fz:=false) |> fun⟨cur,cap,c1,c2,c3,c4,c5⟩=>⟨cur,cap,c1,c2,c3,c4,fun i x hi j y hy=>by
   obtain⟨k,n,rfl⟩:=qi.1 x (Kag hi);have:=c5 i _ hi j y hy;cases j with
   |zero=>simp[PV.cells]at hy;subst hy;generalize hg:cur.getD (i*1+0) undef=u at this;cases this;exact Qo.int k n
   |succ j=>simp[PV.cells]at hy⟩)
  have DQ:ay C ρ (Qi hp β ⟨1,ty,xs',false⟩)=ay C ρ hp:=by
   funext c;apply propext;constructor
   ·rintro(hx|⟨γ,hg,h1,h2,h3⟩)
    ·exact .inl hx
    ·by_cases af:γ=β
     ·subst af;exact .inr ⟨γ,_,ah,rfl,h3⟩
     ·simp only[Qi,if_neg af]at h1;exact .inr ⟨γ,hg,h1,h2,h3⟩
   ·rintro(hx|⟨γ,hg,h1,h2,h3⟩)
    ·exact .inl hx
    ·by_cases af:γ=β
     ·subst af;exact .inr ⟨γ,⟨1,ty,xs',false⟩,by simp[Qi],rfl,h3⟩
     ·exact .inr ⟨γ,hg,by simp[Qi,af,h1],h2,h3⟩
  refine⟨v,_,_,rfl,⟨ρ,aR.yZ (p:=jX β r) ?_ lZ⟩,by simp,hK r xs' qi.1 hlen eT⟩;cases r with
  |ao γ o n=>obtain⟨_,g1,cap,g2,g3,g4⟩:=ej;exact⟨⟨1,ty,xs',false⟩,by simp[Qi],by simp only[jX];omega,.inr ⟨b,cap,aU,g2,g3,g4⟩⟩
  |_=>exact Qh.yT (p:=_) (by rw[DQ];exact ej)
end Go.FW
namespace Go.FW
open Go
variable {C : Ctx} {ρ : Nat -> Option Nat} {fr : Fr} {hp : HP} {w : World} {K K' R : Qg}
def tO(P:Program)(f:FuncId)(args:List PV)(ty:TypeId)(aP:List PV->Prop):Prop:=
 kQ P f/\∀(w:World)(X:Nat->Prop)(aQ:Array Value),(∀b,X b->b<w.heap.size)->aQ.size=args.length->(∀(i:Nat)(x:PV),args[i]? =some x->aV w X x (aQ.getD i undef))->
  Calls P f aQ w fun e w'=>∃v b cap ys,e= .returned v/\v= .slice (some ⟨b,0,none⟩) ys.length cap/\w.heap.size<=b/\Ext bO w w'/\j' w' b ty ys/\cu w' b 1 cap/\cap<=maxLen/\aP ys
def rT(rs:List RV)(ty:TypeId)(aP:List PV->Prop):Qg:=fun fr hp=>
 ∃s β n xs,rs=[.t s]/\fr s= .ao β 0 n/\bg β=false/\hp β=some ⟨1,ty,xs,false⟩/\jv xs/\0<n/\aP (xs.take n)
theorem MJ{xs:List PV}(h:jv xs)(n:Nat):jv (xs.take n):=fun x hx=>h x (Ka2 hx)
theorem MK {P : Program} {f : FuncId} {fn : Func} {sf : aw} {args : List PV} {ty : TypeId} {aP : List PV -> Prop} (hm : P.follows .mixedOrders = true) (hf : P.funcs[f]? = some fn) (kt : (fn.name != "runtime.NumGoroutine") = true) (hc : Qe P fn = some sf) (hn : args.length <= sf.n /\ sf.n <= 1000000)
  (hv:∀C:Ctx,C.P=P->vc C (rT sf.rs ty aP) [.c sf.body] (fO args) au):tO P f args ty aP:=by
 simp only[Qe,Kab,Kaa]at hc;obtain⟨c,hb,sb,gk,rs,ct,rfl⟩:=hc;refine⟨by simp[kQ,hf,hb];simpa using kt,fun w X aQ hX dL ed=>?_⟩
 let C:Ctx:=Ctx.plain P fn.ntmps w X hX hn.2
 refine calls_of_wp hf hb ?_;have mW:(aQ++Array.replicate (fn.ntmps-aQ.size) undef).size=fn.ntmps:=by simp at hn ⊢;omega
 have kx:c8 C (fO args) au (aQ++Array.replicate (fn.ntmps-aQ.size) undef) w:=by
  refine⟨fun _=>none,mW,Ext.refl _ _,(fun _ _ h=>by cases h),by simp[au],by simp[au],fun i=>?_⟩;unfold fO;cases hi:args[i]? with
  |none=>trivial
  | some p=>
   simp only[Kbm];have fe:i<aQ.size:=by rw[dL];exact(Kac.1 hi).1
   have hr:=ed i p hi;have e:(aQ++Array.replicate (fn.ntmps-aQ.size) undef).getD i undef=aQ.getD i undef:=by rw[gD,if_pos fe]
   rw[e];refine Qh.iy (hr.mono (fun _ _ _=>rfl) (fun b _ hn hx=>?_) (Kae _));rcases hx with hx|⟨_,_,h1,_⟩
   ·exact hn hx
   ·simp[au]at h1
 have fin:∀(fr:Fr)(hp:HP)(a:Act)(w':World),a.defers=[]->c8 C fr hp a.tmps w'->rT rs ty aP fr hp->
   a.defers=[]/\∃v,(results fn a.tmps).run P w'= .ok v w'/\∃v' b cap ys,Ending.returned v= .returned v'/\v'= .slice (some ⟨b,0,none⟩) ys.length cap/\w.heap.size<=b/\Ext bO w w'/\j' w' b ty ys/\cu w' b 1 cap/\cap<=maxLen/\aP ys:=by
  rintro fr hp a w' hd ⟨ρ,hs⟩ ⟨s,β,n,xs,rfl,ko,hB,ah,hint,mT,hp⟩;have aT:=hs.own β _ ah;have aK:=aT.b8;have aW:=hs.ch s;rw[ko]at aW;obtain⟨cl,g1,g2,g3⟩:=aW;rw[ah]at g1;cases g1;rcases g3 with⟨_,_,g3,_⟩|⟨b,cap,g3,g4,g5,g6⟩
  ·omega
  ·rw[g3]at aK;simp only[hB]at aK;obtain⟨x,hx⟩:∃x,fn.results.toList=[x]:=by have:=iz ct;exact Kcd.1 (by rw[<-this.1];rfl)
   have gu:eF P x=some (.t s):=by rw[hx]at ct;simp only[KbR,Kct,KbC,KbV,Kab,Kaq]at ct;obtain⟨y,h1,_,_,h2⟩:=ct;simp only[Kb7]at h2;rw[<-h2.1];exact h1
   have ml:x= .tmp s:=by
    cases x with
    |tmp t=>simpa[eF]using gu
    |cell y t=>simp[eF,Kab]at gu
   subst ml;have ej:(results fn a.tmps).run P w'= .ok (a.tmps.getD s undef) w':=by have e:results fn a.tmps=(do let vs<-fn.results.mapM (gd a.tmps);pure (if h:vs.size=1 then vs[0]else .tuple vs)):=rfl;rw[e,Kbj,hx];simp[gd]
   have hlen:(xs.take n).length=n:=by simp at g2 ⊢;omega
   refine⟨hd,_,ej,_,b,cap,xs.take n,rfl,by rw[g4,hlen,Kb8],(Ctx.oK aK.1 (rJ hB)).resolve_right (fun h=>h),Ctx.ER hs.ext,?_,by rw[Ka0]at g5;exact g5,by omega,hp⟩;obtain⟨_,cur,cp,i1,i2,i3,i4,i5⟩:=j'.EO aK.2.2 hint;exact⟨MJ hint n,cur,cp,i1,i2,by simp;omega,i4,fun i k m hi=>i5 i k m (by
    have aA:i<n:=by have:=(Kac.1 hi).1;omega
    rwa[Kav aA]at hi)⟩
 exact AW (C:=C) (R:=rT rs ty aP) hm c sb [] _ (fO args) au _ w gk ⟨fun fr hp a w' hd hs hv=>(by rw[oq]at hv;exact fin fr hp a w' hd hs hv),fun id cX he=>(by simp[FW.bE]at he),fin⟩ rfl kx (hv C rfl)
theorem TU{P:Program}(hP:C.P=P){g:FuncId}{args aM:List PV}{d:Nat}{ty:TypeId}{aP:List PV->Prop}(h:tO P g aM ty aP)(cr:([]++args++[]).map (Qy hp)=aM)(cQ:aM.all PV.ax=true)(hr:([]++args++[]).flatMap PV.refs=[])
  (hB:bg d=false) (hK:∀ys,jv ys->aP ys->K (ae (bI d fr) d (.ms d ys.length)) (Qi hp d ⟨1,ty,ys,false⟩)):ez C false (.fn g [] []) args (some d) fr hp K:=by
 subst hP;refine⟨h.1,fun ρ tmps w fv cv av lZ hs h1 h2 h3 me jb mf=>?_⟩;have hf0:bq hp (([]++args++[]).flatMap PV.refs)=hp:=by rw[hr];rfl
 have ed:=IH hs h1 h2 h3 me jb mf (by rw[cr];exact cQ);rw[hf0,cr]at ed;refine(h.2 w _ (fv++av++cv) (tZ hs) (by rw[<-cr];simp[h1,h2,h3]) ed).mono ?_;rintro e w' ⟨v,b,cap,ys,rfl,rfl,hb,hx,hI,cJ,hm,eT⟩;have sr:b<w'.heap.size:=by obtain⟨_,cur,cp,i1,_⟩:=hI;exact(Kbq.1 i1).1
 have hrb:=hs.rebind (w':=w') d (some b) ⟨1,ty,ys,false⟩ hB (hx.mono (fun _ _ h=>h.elim)) (fun c hc=>by cases hc;exact⟨.inl (KaY hs.ext.size hb),sr,.inl hb⟩) (by simp) (wR hI.1) (by simp)
  (fun c hc=>by
   cases hc;obtain⟨hint,cur,cp,i1,i2,i3,i4,i5⟩:=hI;refine⟨cur,cp,i1,i2,i3,i4,fun i x hi j y hy=>?_⟩;obtain⟨k,n,rfl⟩:=hint x (Kag hi);cases j with
   |zero=>simp[PV.cells]at hy;subst hy;rw[Kb1,KaJ,i5 i k n hi];exact Qo.int k n
   |succ j=>simp[PV.cells]at hy)
 refine⟨_,_,_,rfl,⟨_,hrb.yZ (d:=some d) (p:=.ms d ys.length) ?_ lZ⟩,by simp,hK ys hI.1 eT⟩;exact⟨⟨1,ty,ys,false⟩,by simp[Qi],by simp,.inr ⟨b,cap,eH _ _ _,by simp,by rw[Ka0];exact cJ,by omega⟩⟩
def dP(hp:HP):PV->PV
 |.mp β i o=>match hp β with
  |some hb=>match hb.xs[i]? with
   |some x=>.pt (x.cells.drop o)
   |none=>.undef
  |none=>.undef
 |.ao β o n=>match hp β with
  |some hb=>.sl hb.e ((hb.xs.drop o).take n)
  |none=>.undef
 |.rb β o n=>match hp β with
  |some hb=>.pt [.sl hb.e ((hb.xs.drop o).take n)]
  |none=>.undef
 |p=>p
def pV(C:Ctx)(ρ:Nat->Option Nat)(hp:HP)(l:List Nat):Nat->Prop:=fun c=>ay C ρ hp c/\¬∃β∈l,ρ β=some c
theorem Qo.qe{l:List Nat}{q:PV}{u:Value}(h:Qo w (ay C ρ hp) q u):Qo w (pV C ρ hp l) q u:=
 h.mono (fun _ _ _=>rfl) (fun _ _ hn hx=>hn hx.1) (Kae _)
theorem dh.qe{tmps:Array Value}(h:Qv C ρ fr hp tmps w){β o n:Nat}{v:Value}{l:List Nat}{hb:HB}(hr:dh ρ hp w β o n v)(qL:β∈l)(g1:hp β=some hb):Qo w (pV C ρ hp l) (.sl hb.e ((hb.xs.drop o).take n)) v:=by
 obtain⟨cl,JW,g2,g3⟩:=hr;rw[g1]at JW;cases JW;rcases g3 with⟨g3,rfl,rfl,rfl⟩|⟨b,cap,g3,rfl,g5,g6⟩
 ·simp only[Kb0];exact .gB _ _ _ (KbE _)
 ·have aT:=h.own β hb g1;have aK:=aT.b8;rw[g3]at aK;obtain⟨_,ak,cur,di,c1,c2,c3,c4,c5⟩:=aK;obtain⟨cur',ty',d1,d2⟩:=g5;rw[c1]at d1;cases d1;have fb:o+cap=di:=by rw[c2]at d2;exact(Kbr aT.gh d2).symm
  subst fb;have hlen:((hb.xs.drop o).take n).length=n:=by simp;omega
  have dj:∀(i:Nat)(x:PV),((hb.xs.drop o).take n)[i]? =some x->i<n/\hb.xs[o+i]? =some x:=fun i x hx=>by
   have hi:i<n:=by have:=(Kac.1 hx).1;omega
   rw[Kav hi,KaO]at hx;exact⟨hi,hx⟩
  have:=Qo.sl (w:=w) (X:=pV C ρ hp l) hb.e ((hb.xs.drop o).take n) b (o*hb.e) cap (fun i j=>cur.getD ((o+i)*hb.e+j) undef) (fun vm=>vm.2 ⟨β,qL,g3⟩) ak (by omega) (by omega)
   (fun i x hx=>(aT.len _ x (dj i x hx).2).1)
   (fun i hi j hj=>by rw[hlen]at hi;have:=jn (i:=o+i) (e:=hb.e) (o:=0) (j:=j) (n:=hb.e) (cap:=o+cap) (by omega) (by omega) hj;rw[KaJ]at this;rw[show o*hb.e+i*hb.e+j=(o+i)*hb.e+j by rw[Kax]];exact gT c1 (by rw[c2];exact this))
   (fun i x hx j y hy=>(c5 _ x (dj i x hx).2 j y hy).qe)
  rwa[hlen]at this
theorem wA{tmps:Array Value}(h:Qv C ρ fr hp tmps w){p:PV}{v:Value}{l:List Nat}(hr:cg C ρ hp w p v)(hl:∀β∈p.bb,β∈l)(hu:(dP hp p).ax=true)(u7:∀f a b,p≠ .fn f a b):aV w (pV C ρ hp l) (dP hp p) v:=by
 cases p with
 | mp β i o=>
  obtain⟨b,hb,g1,g2,rfl⟩:=hr;have qL:=hl β (by simp[PV.bb]);have aT:=h.own β hb g2;have aK:=aT.b8;rw[g1]at aK;obtain⟨_,ak,cur,cap,c1,c2,c3,c4,c5⟩:=aK;simp only[dP,g2]at hu⊢;cases hx:hb.xs[i]? with
  |none=>simp[hx,PV.ax]at hu
  | some x=>
   have hi:i<hb.xs.length:=(Kac.1 hx).1;have dt:=(aT.len i x hx).1;refine Qo.pt _ b _ (fun j=>cur.getD (i*hb.e+o+j) undef) (fun vm=>vm.2 ⟨β,qL,g1⟩) ak (fun j hj=>?_) (fun j y hy=>?_)
   ·have cR:o+(j+1)<=hb.e:=by simp[dt]at hj;omega
    exact gT c1 (by rw[c2];exact jn (by omega) cR (Kcb j))
   ·rw[KaO]at hy;rw[KbJ];exact(c5 i x hx (o+j) y hy).qe
 |ao β o n=>obtain⟨hb,g1,_⟩:=id hr;simp only[dP,g1];exact dh.qe h hr (hl β (by simp[PV.bb])) g1
 | rb β o n=>
  obtain⟨b,u,rfl,e2,e3,e4,hb,g1,e5⟩:=hr;simp only[dP,g1];refine Qo.pt _ b 0 (fun _=>u) (fun hx=>e3 hx.1) e2 (fun j hj=>?_) (fun j y hy=>?_)
  ·obtain rfl:j=0:=by simpa using hj
   simpa using e4
  ·cases j with
   |zero=>simp at hy;subst hy;exact dh.qe h ⟨hb,g1,e5⟩ (hl β (by simp[PV.bb])) g1
   |succ j=>simp at hy
 |undef=>simp[dP,PV.ax]at hu
 |fn f a b=>exact absurd rfl (u7 f a b)
 |aJ=>simp[dP,PV.ax]at hu
 |aB=>simp[dP,PV.ax]at hu
 |np=>simp[dP,PV.ax]at hu
 |aE=>simp[dP,PV.ax]at hu
 |cW=>simp[dP,PV.ax]at hu
 |cj=>simp[dP,PV.ax]at hu
 |az=>simp[dP,PV.ax]at hu
 |agg=>cases hr
 |_=>exact Qo.qe hr
end Go.FW
namespace Go.FW
open Go
variable {C : Ctx} {ρ : Nat -> Option Nat} {fr : Fr} {hp : HP} {w : World} {K K' R : Qg}
def PV.pa:PV->Bool
 |.fn .. =>false
 |p=>p.ax
theorem Hf{p:PV}(h:p.pa=true):p.ax=true/\∀f a b,p≠ .fn f a b:=by cases p<;>simp_all[PV.pa,PV.ax]
theorem LW{tmps:Array Value}(h:Qv C ρ fr hp tmps w){p:PV}{v:Value}{l:List Nat}(hr:Qh C ρ hp w p v)(hl:∀β∈p.refs,β∈l)(hu:(dP hp p).pa=true):aV w (pV C ρ hp l) (dP hp p) v:=by
 obtain⟨hd,u7⟩:=Hf hu;cases p with
 |mp β i o=>exact wA (p:=.mp β i o) h hr (fun bd je=>hl bd je) hd (by simp)
 |ao β o n=>exact wA (p:=.ao β o n) h hr (fun bd je=>hl bd je) hd (by simp)
 |rb β o n=>exact wA (p:=.rb β o n) h hr (fun bd je=>hl bd je) hd (by simp)
 |fn f a b=>exact absurd rfl (u7 f a b)
 |undef=>simp[dP,PV.pa,PV.ax]at hu
 |aJ=>simp[dP,PV.pa,PV.ax]at hu
 |agg cs=>exact aV.mono (p:=.agg cs) hr (fun _ _ _=>rfl) (fun _ _ hn hx=>hn hx.1) (Kae _)
 |aB=>simp[dP,PV.ax]at hd
 |np=>simp[dP,PV.ax]at hd
 |aE=>simp[dP,PV.ax]at hd
 |cW=>simp[dP,PV.ax]at hd
 |cj=>simp[dP,PV.ax]at hd
 |az=>simp[dP,PV.ax]at hd
 |_=>exact Qo.qe hr
theorem Hg{tmps:Array Value}(h:Qv C ρ fr hp tmps w){p:PV}{v:Value}{l:List Nat}(hr:cg C ρ hp w p v)(hl:∀β∈p.refs,β∈l)(hu:(dP hp p).pa=true):aV w (pV C ρ hp l) (dP hp p) v:=by
 obtain⟨hd,u7⟩:=Hf hu;refine wA h hr (fun β ah=>hl β ?_) hd ?_
 ·cases p<;>simp_all[PV.bb,PV.refs]
 ·intro f a b hp';subst hp';exact u7 f a b rfl
theorem Nh{P:Program}(hP:C.P=P){g:FuncId}{first cap args aM:List PV}{pr:Bool}{d:Option Nat}{r:PV}(h:Qd P g aM (· =r))(cr:(first++args++cap).map (dP hp)=aM)(cQ:aM.all PV.pa=true)(hr:r.EI=true)
  (hK:K (ew fr d r) hp):ez C pr (.fn g first cap) args d fr hp K:=by
 subst hP;refine⟨h.1,fun ρ tmps w fv cv av lZ hs h1 h2 h3 me jb mf=>?_⟩;refine(h.2 w (pV C ρ hp ((first++args++cap).flatMap PV.refs)) (fv++av++cv) (fun b hb=>tZ hs b hb.1) (by rw[<-cr];simp[h1,h2,h3]) (fun i x hx=>?_)).mono ?_
 ·have qu:x.pa=true:=by rw[KaB]at cQ;exact cQ x (Kag hx)
  rw[<-cr]at hx;simp only[Kap,Kaa]at hx;obtain⟨p,hp',rfl⟩:=hx;have sD:=Kag hp';have hl:∀β∈p.refs,β∈(first++args++cap).flatMap PV.refs:=fun β ah=>Kam.2 ⟨p,sD,ah⟩;rw[gD];rw[KaN]at hp';by_cases c1:i<(first++args).length
  ·rw[if_pos c1]at hp';rw[if_pos (by simp only[KbT,h1,h3];simpa using c1),gD];rw[KaN]at hp';by_cases c2:i<first.length
   ·rw[if_pos c2]at hp';rw[if_pos (by omega)];exact Hg hs (me i p hp') hl qu
   ·rw[if_neg c2]at hp';rw[if_neg (by omega),h1];exact LW hs (mf _ p hp') hl qu
  ·rw[if_neg c1]at hp';have dL:(fv++av).size=(first++args).length:=by simp[h1,h3]
   rw[if_neg (by omega),dL];exact Hg hs (jb _ p hp') hl qu
 ·rintro e w' ⟨v,r',rfl,hx,dS,rfl⟩;exact⟨v,_,_,rfl,⟨ρ,(hs.grow hx).yZ (Qh.yT (N9 hr dS)) lZ⟩,fun _=>hx,hK⟩
end Go.FW
namespace Go.FW
def gF:List Nat->List Nat->Nat->List Nat
 | [],_,_=>[]
 |x::xs,ys,c=>(c+x+ys.headD 0)%65536::gF xs ys.tail ((c+x+ys.headD 0)/65536)
theorem GC:∀(a b:List Nat)(c:Nat),(gF a b c).length=a.length
 | [],_,_=>rfl
 |x::xs,b,c=>by simp[gF,GC xs]
theorem Hh:∀(a b:List Nat)(c:Nat),Qj (gF a b c)
 | [],_,_=>jT
 |x::xs,b,c=>by rw[gF,eM];exact⟨by omega,Hh xs _ _⟩
theorem Ni{a b:List Nat}{i c:Nat}(h:i<a.length):gF (a.drop i) (b.drop i) c=(c+a[i]+b.getD i 0)%65536::gF (a.drop (i+1)) (b.drop (i+1)) ((c+a[i]+b.getD i 0)/65536):=by rw[Kar h,gF];simp[Kbu,Kb6,Kad]
theorem Io:∀(a b:List Nat)(c:Nat),b.length<=a.length->∃k,val (gF a b c)+65536^a.length*k=val a+val b+c
 | [],b,c,h=>by have:b=[]:=Kas.1 (by simpa using h);subst this;exact⟨c,by simp[gF,val]⟩
 |x::xs,b,c,h=>by
  obtain⟨k,hk⟩:=Io xs b.tail ((c+x+b.headD 0)/65536) (by simp at h ⊢;omega);refine⟨k,?_⟩;rw[gF,val,val,tn b,KaW,Kbg,KaP (65536^xs.length) 65536,Ka4];generalize 65536^xs.length*k=z at *
  generalize b.headD 0=y at *
  omega
def dH:List Nat->List Nat->Nat->Nat->Nat->List Nat×Nat×Nat
 | [],_,_,c,b=>([],c,b)
 |x::xs,ys,q,c,b=>
  let r:=dH xs ys.tail q ((c+q*ys.headD 0)/65536) (if x<(c+q*ys.headD 0)%65536+b then 1 else 0)
  ((x+65536-(c+q*ys.headD 0)%65536-b)%65536::r.1,r.2)
theorem GD:∀(a v:List Nat)(q c b:Nat),(dH a v q c b).1.length=a.length
 | [],_,_,_,_=>rfl
 |x::xs,v,q,c,b=>by simp[dH,GD xs]
theorem Hi:∀(a v:List Nat)(q c b:Nat),Qj (dH a v q c b).1
 | [],_,_,_,_=>jT
 |x::xs,v,q,c,b=>by simp only[dH];rw[eM];exact⟨by omega,Hi xs _ _ _ _⟩
theorem Nj{a v:List Nat}{i q c b:Nat}(h:i<a.length):dH (a.drop i) (v.drop i) q c b=
    ((a[i]+65536-(c+q*v.getD i 0)%65536-b)%65536::(dH (a.drop (i+1)) (v.drop (i+1)) q ((c+q*v.getD i 0)/65536) (if a[i]<(c+q*v.getD i 0)%65536+b then 1 else 0)).1,
     (dH (a.drop (i+1)) (v.drop (i+1)) q ((c+q*v.getD i 0)/65536) (if a[i]<(c+q*v.getD i 0)%65536+b then 1 else 0)).2):=by
  rw[Kar h,dH];simp[Kbu,Kb6,Kad]
theorem Ip:∀(a v:List Nat)(q c b:Nat),Qj a->b<=1->v.length<=a.length->
  val (dH a v q c b).1+(q*val v+c+b)=val a+65536^a.length*((dH a v q c b).2.1+(dH a v q c b).2.2)/\(dH a v q c b).2.2<=1
 | [],v,q,c,b,_,hb,h=>by have:v=[]:=Kas.1 (by simpa using h);subst this;simp[dH,val,hb]
 |x::xs,v,q,c,b,ha,hb,h=>by
  rw[eM]at ha;have an:(if x<(c+q*v.headD 0)%65536+b then 1 else 0)<=1:=by split<;>omega
  obtain⟨ih,EH⟩:=Ip xs v.tail q ((c+q*v.headD 0)/65536) (if x<(c+q*v.headD 0)%65536+b then 1 else 0) ha.2 an (by simp at h ⊢;omega);refine⟨?_,EH⟩;simp only[dH];rw[val,val,tn v,KaW,Kbg,KaP (65536^xs.length) 65536,Ka4,KaL q,Kbt q 65536];generalize dH xs v.tail q ((c+q*v.headD 0)/65536) (if x<(c+q*v.headD 0)%65536+b then 1 else 0)=r at *
  generalize 65536^xs.length*(r.2.1+r.2.2)=z at *
  generalize q*v.headD 0=y at *
  generalize q*val v.tail=t at *
  have h0:=ha.1;split at ih
  ·omega
  ·omega
open Go
variable {fr : Fr} {hp : HP}
theorem TV{ty len:Nat}{aP:PV->List PV->Prop}{xs':List PV}(hB:hp B0=some ⟨1,ty,xs',false⟩)(hi:jv xs')(hl:xs'.length=len)(hp':aP (.aJ []) xs'):nt [] ty len aP fr hp:=
 ⟨xs',hB,hi,hl,.inl ⟨by simp,.aJ [],trivial,by simp,hp'⟩⟩
theorem Fs{ty len s:Nat}{aP:PV->List PV->Prop}{xs':List PV}{p:PV}(hB:hp B0=some ⟨1,ty,xs',false⟩)(hi:jv xs')(hl:xs'.length=len)(hs:Qy hp (fr s)=p)(hd:p.ax=true)(hp':aP p xs'):nt [.t s] ty len aP fr hp:=
 ⟨xs',hB,hi,hl,.inl ⟨by simp only[gz];rw[hs];exact hd,p,by simp only[fV];rw[hs];exact cf p,fun β o n e=>by subst e;simp[PV.ax]at hd,hp'⟩⟩
theorem I9{ty len s o n:Nat}{aP:PV->List PV->Prop}{xs':List PV}(hB:hp B0=some ⟨1,ty,xs',false⟩)(hi:jv xs')(hl:xs'.length=len)(hs:fr s= .ao B0 o n)(hp':aP (.ao B0 o n) xs'):nt [.t s] ty len aP fr hp:=
 ⟨xs',hB,hi,hl,.inr ⟨s,o,n,rfl,hs,hp'⟩⟩
end Go.FW
namespace Go.FW
open Go
variable {C : Ctx} {fr : Fr} {hp : HP} {K : Qg}
theorem tU{a b i:Nat}(h:b<2^i):a*2^i|||b=a*2^i+b:=by rw[<-Nat.shiftLeft_eq,Nat.shiftLeft_add_eq_or_of_lt h]
theorem Ft{bt:Bool}{x y d:Nat}(hx:x<18446744073709551616)(hy:y<18446744073709551616):bF .or bt (.int .u64 (x:Int)) (.int .u64 (y:Int)) d fr hp K=K (ae fr d (.int .u64 ((x|||y:Nat):Int))) hp:=by
 have h1:(BitVec.ofInt 64 (x:Int)|||BitVec.ofInt 64 (y:Int)).toNat=x|||y:=by rw[BitVec.toNat_or,BitVec.ofInt_natCast,BitVec.ofInt_natCast,BitVec.toNat_ofNat,BitVec.toNat_ofNat,Kaz hx,Kaz hy]
 have h2:x|||y<18446744073709551616:=Nat.or_lt_two_pow (n:=64) hx hy;simp only[bF,IntKind.bits,h1,true_and];rw[nd (by omega) (by omega)];exact congrArg (fun z:Nat=>K (ae fr d (.int .u64 (z:Int))) hp) h1
theorem Fu{bt:Bool}{x y d:Nat}(hx:x<4294967296)(hy:y<4294967296):bF .or bt (.int .u32 (x:Int)) (.int .u32 (y:Int)) d fr hp K=K (ae fr d (.int .u32 ((x|||y:Nat):Int))) hp:=by
 have h1:(BitVec.ofInt 32 (x:Int)|||BitVec.ofInt 32 (y:Int)).toNat=x|||y:=by rw[BitVec.toNat_or,BitVec.ofInt_natCast,BitVec.ofInt_natCast,BitVec.toNat_ofNat,BitVec.toNat_ofNat,Kaz hx,Kaz hy]
 have h2:x|||y<4294967296:=Nat.or_lt_two_pow (n:=32) hx hy;simp only[bF,IntKind.bits,h1,true_and];rw[wQ (by omega) (by omega)];exact congrArg (fun z:Nat=>K (ae fr d (.int .u32 (z:Int))) hp) h1
theorem TW{bt:Bool}{x y d:Nat}(hx:x<65536)(hy:y<65536):bF .or bt (.int .u16 (x:Int)) (.int .u16 (y:Int)) d fr hp K=K (ae fr d (.int .u16 ((x|||y:Nat):Int))) hp:=by
 have h1:(BitVec.ofInt 16 (x:Int)|||BitVec.ofInt 16 (y:Int)).toNat=x|||y:=by rw[BitVec.toNat_or,BitVec.ofInt_natCast,BitVec.ofInt_natCast,BitVec.toNat_ofNat,BitVec.toNat_ofNat,Kaz hx,Kaz hy]
 have h2:x|||y<65536:=Nat.or_lt_two_pow (n:=16) hx hy;simp only[bF,IntKind.bits,h1,true_and];rw[OH (by omega) (by omega)];exact congrArg (fun z:Nat=>K (ae fr d (.int .u16 (z:Int))) hp) h1
theorem I'{bt:Bool}{k':IntKind}{x s d:Nat}(hs:s<=64)(h:x*2^s<18446744073709551616):bF .shl bt (.int .u64 (x:Int)) (.int k' (s:Int)) d fr hp K=K (ae fr d (.int .u64 ((x*2^s:Nat):Int))) hp:=by
 have h0:(0:Int)<=s:=by omega
 have h1:min ((s:Int).toNat) IntKind.u64.bits=s:=by simp[IntKind.bits];omega
 simp only[bF,h0,true_and,h1];rw[show(x:Int)*2^s=((x*2^s:Nat):Int)by push_cast;rfl,nd (by omega) (by omega)]
theorem Ja{bt:Bool}{k':IntKind}{x s d:Nat}(hs:s<=32)(h:x*2^s<4294967296):bF .shl bt (.int .u32 (x:Int)) (.int k' (s:Int)) d fr hp K=K (ae fr d (.int .u32 ((x*2^s:Nat):Int))) hp:=by
 have h0:(0:Int)<=s:=by omega
 have h1:min ((s:Int).toNat) IntKind.u32.bits=s:=by simp[IntKind.bits];omega
 simp only[bF,h0,true_and,h1];rw[show(x:Int)*2^s=((x*2^s:Nat):Int)by push_cast;rfl,wQ (by omega) (by omega)]
theorem Bp{bt:Bool}{k':IntKind}{x d:Nat}(h:x<281474976710656):bF .shl bt (.int .u64 (x:Int)) (.int k' 16) d fr hp K=K (ae fr d (.int .u64 ((x*65536:Nat):Int))) hp:=
 I' (s:=16) (by omega) (by omega)
theorem Bq{bt:Bool}{k':IntKind}{x d:Nat}(h:x<65536):bF .shl bt (.int .u32 (x:Int)) (.int k' 16) d fr hp K=K (ae fr d (.int .u32 ((x*65536:Nat):Int))) hp:=
 Ja (s:=16) (by omega) (by omega)
theorem Ch{bt:Bool}{k':IntKind}{x s d:Nat}(hs:s<=32):bF .shr bt (.int .u32 (x:Int)) (.int k' (s:Int)) d fr hp K=K (ae fr d (.int .u32 ((x/2^s:Nat):Int))) hp:=by
 rw[Ct (by omega)];have h1:min ((s:Int).toNat) IntKind.u32.bits=s:=by simp[IntKind.bits];omega
 rw[h1,Kci _ (Int.pow_nonneg (by omega))];rw[show(x:Int)/2^s=((x/2^s:Nat):Int)by push_cast;rfl]
theorem BM{bt:Bool}{x y d:Nat}(hx:x<281474976710656)(hy:y<65536):bF .or bt (.int .u64 ((x*65536:Nat):Int)) (.int .u64 (y:Int)) d fr hp K=K (ae fr d (.int .u64 ((x*65536+y:Nat):Int))) hp:=by rw[Ft (by omega) (by omega),show x*65536|||y=x*65536+y from tU (i:=16) hy]
theorem OU{bt:Bool}{x y d:Nat}(hx:x<65536)(hy:y<65536):bF .or bt (.int .u32 ((x*65536:Nat):Int)) (.int .u32 (y:Int)) d fr hp K=K (ae fr d (.int .u32 ((x*65536+y:Nat):Int))) hp:=by rw[Fu (by omega) (by omega),show x*65536|||y=x*65536+y from tU (i:=16) hy]
theorem HX{bt:Bool}{x y d:Nat}(hx:x<65536)(hy:y<65536):bF .or bt (.int .u32 (y:Int)) (.int .u32 ((x*65536:Nat):Int)) d fr hp K=K (ae fr d (.int .u32 ((x*65536+y:Nat):Int))) hp:=by rw[Fu (by omega) (by omega),Nat.or_comm,show x*65536|||y=x*65536+y from tU (i:=16) hy]
theorem Ci{bt:Bool}{k:IntKind}{x y d:Nat}(hy:0<y)(hw:k.wrap ((x/y:Nat):Int)=((x/y:Nat):Int)):bF .quo bt (.int k (x:Int)) (.int k (y:Int)) d fr hp K=K (ae fr d (.int k ((x/y:Nat):Int))) hp:=by
 have:(y:Int)≠0:=by omega
 simp only[bF,ne_eq,this,not_false_eq_true,true_and];rw[QM (by omega),<-hw];rfl
theorem mB{bt:Bool}{k:IntKind}{x y d:Nat}(hy:0<y):bF .rem bt (.int k (x:Int)) (.int k (y:Int)) d fr hp K=K (ae fr d (.int k ((x%y:Nat):Int))) hp:=by
 have:(y:Int)≠0:=by omega
 simp only[bF,ne_eq,this,not_false_eq_true,true_and];rw[QN (by omega)];rfl
theorem Nk{n:Nat}(h:n<18446744073709551616):IntKind.u64.wrap (n:Int)=n:=nd (by omega) (by omega)
theorem Nl{n:Nat}(h:n<4294967296):IntKind.u32.wrap (n:Int)=n:=wQ (by omega) (by omega)
theorem Nn{n:Nat}(h:n<9223372036854775808):IntKind.i64.wrap (n:Int)=n:=pE (by omega) (by omega)
theorem tP{bt:Bool}{x y d:Nat}(hy:0<y)(hx:x<18446744073709551616):bF .quo bt (.int .u64 (x:Int)) (.int .u64 (y:Int)) d fr hp K=K (ae fr d (.int .u64 ((x/y:Nat):Int))) hp:=
 Ci hy (Nk (Kce (Kcg x y) hx))
theorem QA{bt:Bool}{x y d:Nat}(hy:0<y)(hx:x<4294967296):bF .quo bt (.int .u32 (x:Int)) (.int .u32 (y:Int)) d fr hp K=K (ae fr d (.int .u32 ((x/y:Nat):Int))) hp:=
 Ci hy (Nl (Kce (Kcg x y) hx))
theorem Cj{bt:Bool}{x y d:Nat}(hy:0<y)(hx:x<9223372036854775808):bF .quo bt (.int .i64 (x:Int)) (.int .i64 (y:Int)) d fr hp K=K (ae fr d (.int .i64 ((x/y:Nat):Int))) hp:=
 Ci hy (Nn (Kce (Kcg x y) hx))
theorem QB{e d β o n H:Nat}{k:IntKind}(h:H<=n)(he:(hp β).map (·.e)=some e):fh e (.ao β o n) none (some (.int k (H:Int))) none d fr hp K=K (ae fr d (.ao β o H)) hp:=by
 have h1:(H:Int)<=(n:Int):=by omega
 simp[fh,eW,he,h1]
theorem QC{e d β o n L H:Nat}{k k':IntKind}(h1:L<=H)(h:H<=n)(h0:L<n)(he:(hp β).map (·.e)=some e):fh e (.ao β o n) (some (.int k (L:Int))) (some (.int k' (H:Int))) none d fr hp K=K (ae fr d (.ao β (o+L) (H-L))) hp:=by
 have q1:(H:Int)<=(n:Int):=by omega
 have q2:(L:Int)<=(H:Int):=by omega
 have q3:(L:Int)<(n:Int):=by omega
 simp[fh,eW,he,q1,q2,q3]
theorem HY{bt:Bool}{x d:Nat}(hx:x<9223372036854775808):bF .quo bt (.int .i64 (x:Int)) (.int .i64 16) d fr hp K=K (ae fr d (.int .i64 ((x/16:Nat):Int))) hp:=
 Cj (y:=16) (by omega) hx
theorem HZ{bt:Bool}{x d:Nat}:bF .rem bt (.int .i64 (x:Int)) (.int .i64 16) d fr hp K=K (ae fr d (.int .i64 ((x%16:Nat):Int))) hp:=
 mB (y:=16) (by omega)
def ke(s:Nat):List Nat->Nat->List Nat
 | [],c=>[c]
 |x::xs,c=>((x*2^s)%65536+c)::ke s xs (x*2^s/65536)
theorem Iq(s:Nat):∀(l:List Nat)(c:Nat),val (ke s l c)=val l*2^s+c
 | [],c=>by simp[ke,val]
 |x::xs,c=>by rw[ke,val,Iq s xs,val,Kax,Ka4];generalize x*2^s=y;generalize val xs*2^s=z;omega
theorem Br{s:Nat}(h:s<=16):(65536:Nat)=2^s*2^(16-s):=by rw[<-Nat.pow_add,show s+(16-s)=16 by omega]
theorem Ir{s x c:Nat}(h:s<=16)(hc:c<2^s):(x*2^s)%65536+c<65536/\c|||(x*2^s)%65536=(x*2^s)%65536+c:=by
 have e:(x*2^s)%65536=(x%2^(16-s))*2^s:=by rw[Br h,KaP x,Nat.mul_mod_mul_left,KaP]
 have h1:x%2^(16-s)<2^(16-s):=Kbl _ (KbG (by omega));have h2:(x%2^(16-s)+1)*2^s<=2^(16-s)*2^s:=Kal _ h1;rw[Kax,KaP (2^(16-s)),<-Br h]at h2;rw[e];refine⟨by omega,?_⟩;rw[Nat.or_comm,tU hc]
theorem H0{s x:Nat}(h:s<=16)(hx:x<65536):x*2^s/65536<2^s:=by rw[Ka5 (by omega),KaP];exact Nat.mul_lt_mul_of_pos_left hx (KbG (by omega))
theorem Hj{s:Nat}(h:s<=15):∀(l:List Nat)(c:Nat),Qj l->c<2^s->Qj (ke s l c)
 | [],c,_,hc=>by have:2^s<=2^15:=KaV (by omega) h;simp[ke,Qj];omega
 |x::xs,c,hl,hc=>by rw[eM]at hl;rw[ke,eM];exact⟨(Ir (by omega) hc).1,Hj h xs _ hl.2 (H0 (by omega) hl.1)⟩
theorem GG(s:Nat):∀(l:List Nat)(c:Nat),(ke s l c).length=l.length+1
 | [],_=>rfl
 |x::xs,c=>by simp[ke,GG s xs]
theorem TX{s x:Nat}(h:s<=15)(hx:x<65536):x*2^s<2147483648:=by have:2^s<=2^15:=KaV (by omega) h;have:=KbS (show x<=65535 by omega) this;omega
theorem Is(l:List Nat):∀n,n<=l.length->cut l n=l.take (cut l n).length
 |0,_=>by simp[cut]
 |n+1,h=>by
  unfold cut;split
  ·exact Is l n (by omega)
  ·rw[Kau,KbH h]
theorem OV{l:List Nat}(h:Qj l):l.take (nl (val l))=aj (val l):=by have:=Is l l.length (Kae _);rw[tM h]at this;exact this.symm
end Go.FW
namespace Go.FW
open Go
theorem tO.Lw{P:Program}{f:FuncId}{args:List PV}{ty:TypeId}{ys:List PV}(h:tO P f args ty (· =ys)):Qd P f args (· = .sl 1 ys):=by
 refine⟨h.1,fun w X aQ hX h2 h3=>(h.2 w X aQ hX h2 h3).mono ?_⟩;rintro e w' ⟨v,b,cap,ys',rfl,rfl,hb,hx,hI,cJ,hm,rfl⟩;refine⟨_,_,rfl,hx,?_,rfl⟩;obtain⟨hint,cur,cp,i1,i2,i3,i4,i5⟩:=hI;obtain⟨cur',ty',d1,d2⟩:=cJ;rw[i1]at d1;cases d1;have sr:b<w'.heap.size:=(Kbq.1 i1).1;have e:cp=cap:=by omega
 subst e;refine Qo.sl (w:=w') (X:=X) 1 ys' b 0 cp (fun i j=>cur.getD (i+j) undef) (fun vm=>by have:=hX b vm;omega) sr i3 i4 (wR hint |> fun h i x hx=>(h i x hx).1) (fun i hi j hj=>?_) (fun i x hx j y hy=>?_)
 ·have:j=0:=by omega
  subst this;simp only[Ka0,Kb1,KaJ];exact gT i1 (by omega)
 ·obtain⟨k,n,rfl⟩:=hint x (Kag hx);cases j with
  |zero=>simp[PV.cells]at hy;subst hy;show Qo w' X (.int k n) (cur.getD (i+0) undef);rw[KaJ,i5 i k n hx];exact Qo.int k n
  |succ j=>simp[PV.cells]at hy
def jx(s:Nat):List Nat->List Nat
 | []=>[]
 |x::xs=>((xs.headD 0*65536+x)/2^s)%65536::jx s xs
theorem AJ(s:Nat):∀l,(jx s l).length=l.length
 | []=>rfl
 |x::xs=>by simp[jx,AJ s xs]
theorem Hk(s:Nat):∀l,Qj (jx s l)
 | []=>jT
 |x::xs=>by rw[jx,eM];exact⟨by omega,Hk s xs⟩
theorem No{s i:Nat}{l:List Nat}(h:i<l.length):jx s (l.drop i)=((l.getD (i+1) 0*65536+l[i])/2^s)%65536::jx s (l.drop (i+1)):=by rw[Kar h,jx];simp[Kbu,Kb6,Kad]
theorem OW{x V s:Nat}(hs:s<=16)(hx:x<65536):(x+65536*V)/2^s=((V%65536*65536+x)/2^s)%65536+65536*(V/2^s):=by
 have hp:0<2^s:=KbG (by omega);have e0:=Ka9 V (2^s);have hr:=Kbl V hp;generalize hq:V/2^s=q at *
 generalize KR:V%2^s=r at *
 have hy:V%65536%2^s=r:=by rw[Br hs,Nat.mod_mul_right_mod];exact KR
 have e1:=Ka9 (V%65536) (2^s);rw[hy]at e1;generalize V%65536/2^s=t at *
 have ak:(65536*r+x)/2^s<65536:=by rw[Ka5 hp];have:65536*(r+1)<=65536*2^s:=Kbk _ hr;omega
 have k1:x+65536*V=(65536*r+x)+2^s*(65536*q):=by rw[<-e0,KaL,Kbt];omega
 have k2:V%65536*65536+x=(65536*r+x)+2^s*(65536*t):=by rw[<-e1,Kax,Ka4,KaP t 65536];omega
 rw[k1,k2,Kb4 _ _ hp,Kb4 _ _ hp,Kb2,Kaz ak]
theorem Iu{s:Nat}(hs:s<=16):∀l,Qj l->val (jx s l)=val l/2^s
 | [],_=>by simp[jx,val]
 | x::xs,h=>by
  rw[eM]at h;rw[jx,val,Iu hs xs h.2,val,OW hs h.1];have:xs.headD 0=val xs%65536:=by
   cases xs with
   |nil=>simp[val]
   |cons y ys=>have:=h.2 y (by simp);simp[val];omega
  rw[this]
variable {C : Ctx} {ρ : Nat -> Option Nat} {fr aq : Fr} {hp : HP} {w : World} {K K' R R' : Qg}
def bC(fr aq:Fr):Prop:=∀s,aq s=fr s∨aq s= .undef
theorem bC.refl(fr:Fr):bC fr fr:=fun _=>.inl rfl
theorem bC.trans{a b c:Fr}(h:bC a b)(k:bC b c):bC a c:=fun s=>by
 rcases k s with e|e
 ·rw[e];exact h s
 ·exact .inr e
theorem bC.ae(h:bC fr aq)(d:Nat){v v':PV}(hv:v'=v∨v'= .undef):bC (ae fr d v) (ae aq d v'):=fun s=>by
 unfold FW.ae;split
 ·exact hv
 ·exact h s
theorem bC.fi(h:bC fr aq)(d:Nat)(v:PV):bC (FW.ae fr d v) (FW.ae aq d v):=h.ae d (.inl rfl)
theorem bC.kill(h:bC fr aq)(β:Nat):bC (bI β fr) (bI β aq):=fun s=>by
 unfold bI;rcases h s with e|e
 ·exact .inl (by rw[e])
 ·right;rw[e];simp[bf,PV.refs]
theorem bC.ev(h:bC fr aq)(x:aD):ev aq x=ev fr x∨ev aq x= .undef:=by
 cases x with
 |t n=>exact h n
 |c p=>exact .inl rfl
theorem bC.mem(h:bC fr aq){q:PV->Prop}(hq:¬q .undef){l:List aD}(hl:∀p∈l.map (FW.ev aq),q p):l.map (FW.ev aq)=l.map (FW.ev fr):=by
 refine KaT fun x hx=>?_;rcases h.ev x with e|e
 ·exact e
 ·exact absurd (e▸hl _ (Kca hx)) hq
theorem bC.az(h:bC fr aq){γ aO e ty:Nat}{xs:List PV}(e1:aq γ= .az aO e ty xs):fr γ= .az aO e ty xs:=by
 rcases h γ with e2|e2
 ·rw[<-e2];exact e1
 ·rw[e1]at e2;cases e2
theorem bC.drop(h:bC fr aq)(γ:Nat):bC (fm γ fr) (fm γ aq):=fun s=>by
 unfold fm;rcases h s with e|e
 ·exact .inl (by rw[e])
 ·right;rw[e];rfl
theorem bC.take(h:bC fr aq)(β:Nat):bC (dO β fr) (dO β aq):=fun s=>by
 unfold dO;rcases h s with e|e
 ·exact .inl (by rw[e])
 ·right;rw[e];simp[cn,bf,PV.refs]
theorem bC.wk(h:bC fr aq):Wk fr hp aq hp:=by
 rintro C tmps w ⟨ρ,hs⟩;refine⟨ρ,hs.sz,hs.ext,hs.dE,hs.own,hs.inj,fun s=>?_⟩;rcases h s with h|h<;>rw[h]
 ·exact hs.ch s
 ·trivial
theorem bC.Ls{tmps:Array Value}(h:bC fr aq)(hs:Qv C ρ fr hp tmps w):Qv C ρ aq hp tmps w:=by
 refine⟨hs.sz,hs.ext,hs.dE,hs.own,hs.inj,fun s=>?_⟩;rcases h s with h|h<;>rw[h]
 ·exact hs.ch s
 ·trivial
theorem y8(h:bC fr aq)(x:Option aD):x.map (ev aq)=x.map (ev fr)∨x.map (ev aq)=some .undef:=by
 cases x with
 |none=>exact .inl rfl
 |some x=>rcases h.ev x with e|e<;>simp[e]
theorem Xp(d:Int):eW d (some .undef)=none:=rfl
theorem Ck (h:bC fr aq) (hK:∀f f' hp,bC f f'->K' f' hp->K f hp) (o:bN):aS C o aq hp K'->aS C o fr hp K:=by
 have hu:∀(d:Nat)(v:PV)(hp:HP),K' (ae aq d v) hp->K (ae fr d v) hp:=fun d v hp H=>hK _ _ _ (h.fi d v) H;have hk:∀(β d:Nat)(v:PV)(hp:HP),K' (ae (bI β aq) d v) hp->K (ae (bI β fr) d v) hp:=fun β d v hp H=>hK _ _ _ ((h.kill β).fi d v) H;have hz:∀hp,K' aq hp->K fr hp:=fun hp H=>hK _ _ _ h H;have mono:∀ {o:bN},aS C o fr hp K'->aS C o fr hp K:=fun H=>BL (fun f hp H=>hK _ _ _ (bC.refl f) H) _ H;cases o with
 |mv d x=>exact fun H=>hK _ _ _ (h.ae d (h.ev x)) H
 | pick d c a b=>
  simp only[aS,ns];rcases h.ev c with e|e
  ·rw[e];split
   ·exact fun H=>⟨fun t=>hK _ _ _ (h.ae d (h.ev a)) (H.1 t),fun t=>hK _ _ _ (h.ae d (h.ev b)) (H.2 t)⟩
   ·exact id
  ·rw[e];exact False.elim
 | call d pr f args=>
  simp only[aS,ez];rcases h.ev f with e|e
  ·rw[e];split
   ·rintro⟨h1,h2⟩;refine⟨h1,fun ρ tmps w fv cv av a1 a2 a3 a4 a5 a6 a7 a8=>?_⟩;refine(h2 ρ tmps w fv cv av a1 (h.Ls a2) a3 a4 (by simpa using a5) a6 a7 (fun i x hx=>?_)).mono ?_
    ·simp only[Kap,Kaa]at hx;obtain⟨y,hy,rfl⟩:=hx;rcases h.ev y with e|e
     ·rw[e];exact a8 i _ (by simp[hy])
     ·rw[e];trivial
    ·rintro e w' ⟨v,f1,hp',e1,e2,e3,e4⟩;exact⟨v,f1,hp',e1,e2,e3,hK _ _ _ (bC.refl _) e4⟩
   ·exact id
  ·rw[e];exact False.elim
 | bs d e ty ps=>
  simp only[aS,ki];by_cases hb:kT (ps.map (ev aq))=true
  ·rw[if_pos hb];rintro⟨h1,h2⟩;have e:ps.map (ev aq)=ps.map (ev fr):=by
    match ps,hb with
    | [],hb=>simp[kT]at hb
    | [p],hb=>
     rcases h.ev p with e|e
     ·simp[e]
     ·rw[Ka3,Kbf,e]at hb;simp[kT,iG]at hb
    |p::q::ps,hb=>simp[kT]at hb
   rw[e]at h2 hb;rw[if_pos hb];exact⟨h1,hK _ _ _ (((h.take _).fi _ _).fi _ _) h2⟩
  ·rw[if_neg hb];rintro⟨h1,h2,h3⟩;have e:=h.mem (q:=fun p=>(Qy hp p).ax=true) (by simp[Qy,bS,PV.ax]) (l:=ps) (fun p hp=>(h2 p hp).1);rw[e]at h2 h3 hb;rw[if_neg hb];exact⟨h1,h2,hk _ _ _ _ h3⟩
 | cc d z ps=>
  have key:((∀x∈ps,ev aq x.2.2≠ .undef)->(ps.map fun p=>(p.1,p.2.1,ev aq p.2.2))=ps.map fun p=>(p.1,p.2.1,ev fr p.2.2)):=fun hu=>by
   refine KaT fun x hx=>?_;rcases h.ev x.2.2 with e|e
   ·rw[e]
   ·exact absurd e (hu x hx)
  intro H;simp only[aS,iM]at H;split at H
  ·rename_i hn;obtain⟨h2,h3⟩:=H;have e:=key fun x hx e=>by obtain⟨cs,h4,_⟩:=h2 _ (Kca hx);rw[e]at h4;simp[cT]at h4
   rw[e]at h2 h3 hn;simp only[aS,iM];rw[if_pos hn];exact⟨h2,hK _ _ _ (h.fi _ _) h3⟩
  ·rename_i hn;obtain⟨h2,h3⟩:=H;have e:=key fun x hx e=>by have:=(h2 _ (Kca hx)).1;rw[e]at this;simp[Qy,bS,PV.ax]at this
   rw[e]at h2 h3 hn;simp only[aS,iM];rw[if_neg hn];exact⟨h2,hK _ _ _ (h.fi _ _) h3⟩
 |fn d f first cap=>simp only[aS];rintro⟨h2,h3⟩;have iP:=h2;rw[List.all_append,Kbb,KaB,KaB]at iP;have e1:=h.mem (q:=fun p=>p.gO=true) (by simp[PV.gO]) iP.1;have e2:=h.mem (q:=fun p=>p.gO=true) (by simp[PV.gO]) iP.2;rw[e1,e2]at h2 h3;exact⟨h2,hK _ _ _ (h.fi _ _) h3⟩
 | vv d x=>
  simp only[aS,ud];rcases h.ev x with e|e
  ·rw[e];intro H;revert H
   repeat' split
   all_goals first|exact id|exact hz _|exact hu _ _ _|grind
  ·rw[e];intro H;revert H;repeat' split
   all_goals first|exact id|exact False.elim|grind
 | bin d op bt x y=>
  simp only[aS];rcases h.ev x with e|e<;>rcases h.ev y with e'|e'<;>rw[e,e']
  ·unfold bF;intro H;revert H;split
   ·split<;>first|exact fun H=>⟨H.1,hu _ _ _ H.2⟩|exact fun H=>⟨H.1,H.2.1,hu _ _ _ H.2.2⟩|exact id
   ·split<;>first|exact fun H=>⟨H.1,hu _ _ _ H.2⟩|exact id
   ·exact id
  all_goals
   unfold bF;intro H;revert H
   repeat' split
   all_goals first|exact False.elim|(intros;simp_all;done)|(rename_i h1 _;cases h1;done)|(rename_i h1;cases h1;done)
 | sl d e x lo hi mx=>
  simp only[aS,fh];rcases h.ev x with e0|e0<;>rcases y8 h lo with e1|e1<;>rcases y8 h hi with e2|e2<;>rcases y8 h mx with e3|e3<;>rw[e0,e1,e2,e3]
  all_goals
   intro H;revert H
   try simp only[Xp]
   repeat' split
   all_goals first|exact id|exact False.elim|(intros;simp_all;done)|grind
 | ld d n ag x=>
  simp only[aS,gQ];rcases h.ev x with e|e
  ·rw[e];intro H;revert H;split
   ·split
    ·exact fun⟨a,b,c,k⟩=>⟨a,b,c,hu _ _ _ k⟩
    ·exact id
   ·exact fun⟨a,b,k⟩=>⟨a,b,hu _ _ _ k⟩
   ·exact fun⟨a,b,k⟩=>⟨a,b,hu _ _ _ k⟩
   ·intro H;split at H
    ·rename_i af;rw[h.az af];obtain⟨a,b,c,d,k⟩:=H;exact⟨a,b,c,d,hu _ _ _ k⟩
    ·exact H.elim
   ·exact id
  ·rw[e];exact fun H=>H.elim
 | st n x y=>
  simp only[aS,jN];rcases h.ev x with e|e<;>rcases h.ev y with e'|e'<;>rw[e,e']
  ·intro H;revert H;split
   ·split
    ·exact fun⟨a,b,c,d,f,k⟩=>⟨a,b,c,d,f,hz _ k⟩
    ·exact id
   ·intro H;split at H
    ·rename_i af;rw[h.az af];obtain⟨a,b,c,d,H⟩:=H;refine⟨a,b,c,d,?_⟩;revert H;split
     ·exact fun⟨f,k⟩=>⟨f,hK _ _ _ ((h.drop _).fi _ _) k⟩
     ·exact id
    ·exact H.elim
   ·exact id
  ·intro H;exfalso;revert H;split
   ·split
    ·rintro⟨_,b,_⟩;simp[Qy,bS,PV.ax]at b
    ·exact id
   ·split
    ·rintro⟨_,_,_,_,H⟩;exact H
    ·exact id
   ·exact id
  ·exact fun H=>H.elim
  ·exact fun H=>H.elim
 | app d e by_ ty x y=>
  simp only[aS,fl];rcases h.ev y with e'|e'
  ·rw [e'];intro H;revert H;split
   ·unfold rZ;split
    ·rename_i δ _;rcases h δ with e2|e2
     ·rw [e2];split
      ·rintro⟨a1,a2,a3,H⟩;refine⟨a1,a2,a3,?_⟩;rcases h.ev x with e|e
       ·rw[e]at H;revert H;split
        ·exact fun H=>⟨H.1,hK _ _ _ (((h.take _).fi _ _).fi _ _) H.2⟩
        ·rename_i γ k _;rcases h γ with e3|e3
         ·rw[e3];split
          ·exact fun H=>⟨H.1,H.2.1,hK _ _ _ (((h.take _).fi _ _).fi _ _) H.2.2⟩
          ·exact id
         ·rw[e3];exact fun H=>H.elim
        ·exact id
       ·rw[e]at H;exact H.elim
      ·exact id
     ·rw[e2];exact fun H=>H.elim
    ·exact id
   ·rintro⟨h0,h1,H⟩;refine⟨h0,h1,?_⟩;rcases h.ev x with e|e
    ·rw[e]at H;revert H;split
     ·rintro⟨a,b,c⟩;exact⟨a,b,hk _ _ _ _ c⟩
     ·split
      ·rintro(⟨a1,a2,a3,a4,a5,a6,a7,c⟩|⟨a1,a2,a3,c⟩)
       ·exact .inl ⟨a1,a2,a3,a4,a5,a6,a7,hk _ _ _ _ c⟩
       ·exact .inr ⟨a1,a2,a3,hK _ _ _ ((h.take _).fi _ _) c⟩
      ·exact id
     ·exact id
    ·rw[e]at H;exact H.elim
  ·rw[e'];exact fun H=>H.elim
 | un d op x|conv d k x|len d x|vF d x|bw d o x|si d o n ag x|ext d x i=>
  all_goals
   simp only[aS,pb,pN,kS,pW,mN,mH,gQ,iL]
   try (rcases h.ev x with e|e<;>rw[e])
  all_goals
   intro H;revert H
   repeat' split
   all_goals first|exact id|exact False.elim|exact hu _ _ _|grind [Qy,bS,PV.ax]
 | box d n ty x=>
  simp only[aS];rcases h.ev x with e|e
  ·rw[e];unfold dG;split
   ·unfold oz;exact fun H=>⟨H.1,hK _ _ _ (((h.take _).fi _ _).fi _ _) H.2⟩
   ·split
    ·exact hu _ _ _
    ·exact fun H=>⟨H.1,H.2.1,H.2.2.1,hk _ _ _ _ H.2.2.2⟩
  ·rw[e];intro H;simp[dG,Qy,bS,PV.ax]at H
 | alloc d n ty z=>
  simp only[aS];unfold dG;split
  ·unfold oz;exact fun H=>⟨H.1,hK _ _ _ (((h.take _).fi _ _).fi _ _) H.2⟩
  ·split
   ·exact hu _ _ _
   ·exact fun H=>⟨H.1,H.2.1,H.2.2.1,hk _ _ _ _ H.2.2.2⟩
 | eqs d ng x y|qW d ng x y|vE d x y|mx d x y|mn d x y|idx d e x y|kB d n e x y|vp d n e ag x y|mk d e by_ ty z x y|oL d e x y=>
  all_goals
   simp only[aS,mL,mM,oy,qR,qP,cG,mG,rY,jN,jM,fl,oA];rcases h.ev x with e|e<;>rcases h.ev y with e'|e'<;>rw[e,e']
  all_goals
   intro H;revert H
   repeat' split
   all_goals first|exact id|exact False.elim|exact hu _ _ _|grind [Qy,bS,PV.ax,fK]
 |bad d=>exact id
end Go.FW
namespace Go.FW
open Go
variable {C : Ctx} {ρ : Nat -> Option Nat} {fr aq : Fr} {hp : HP} {w : World} {K K' R R' : Qg}
def KM(K' K:Qg):Prop:=∀f f' hp,bC f f'->K' f' hp->K f hp
inductive jy:List It->List It->Prop
 |nil:jy [] []
 |c (s:SC) {a b:List It}:jy a b->jy (.c s::a) (.c s::b)
 |o (r:RT) {a b:List It}:jy a b->jy (.o r::a) (.o r::b)
 |eb (i:Nat) {a b:List It}:jy a b->jy (.eb i::a) (.eb i::b)
 |el {J' J:Qg} {a b:List It}:KM J' J->jy a b->jy (.el J'::a) (.el J::b)
theorem jy.exit{id:Nat}:∀ {a b:List It},jy a b->(∃a' b',FW.bE id a=some a'/\FW.bE id b=some b'/\jy a' b'/\bl a'<=bl a)∨(FW.bE id a=none/\FW.bE id b=none):=by
 intro a b h;induction h with
 |nil=>exact .inr ⟨rfl,rfl⟩
 |c s h ih|o s h ih=>
  rcases ih with⟨a',b',h1,h2,h3,h4⟩|⟨h1,h2⟩
  ·exact .inl ⟨a',b',by simpa[FW.bE]using h1,by simpa[FW.bE]using h2,h3,by simp only[bl];omega⟩
  ·exact .inr ⟨by simpa[FW.bE]using h1,by simpa[FW.bE]using h2⟩
 |el _ h ih=>
  rcases ih with⟨a',b',h1,h2,h3,h4⟩|⟨h1,h2⟩
  ·exact .inl ⟨a',b',by simpa[FW.bE]using h1,by simpa[FW.bE]using h2,h3,by simp only[bl];omega⟩
  ·exact .inr ⟨by simpa[FW.bE]using h1,by simpa[FW.bE]using h2⟩
 | eb i h ih=>
  by_cases hi:i=id
  ·exact .inl ⟨_,_,by simp[FW.bE,hi],by simp[FW.bE,hi],h,by simp only[bl];omega⟩
  ·rcases ih with⟨a',b',h1,h2,h3,h4⟩|⟨h1,h2⟩
   ·exact .inl ⟨a',b',by simpa[FW.bE,hi]using h1,by simpa[FW.bE,hi]using h2,h3,by simp only[bl];omega⟩
   ·exact .inr ⟨by simpa[FW.bE,hi]using h1,by simpa[FW.bE,hi]using h2⟩
theorem wB(h:bC fr aq)(hK:KM K' K)(o:bN):fL o aq hp K'->fL o fr hp K:=by
 unfold fL;split
 ·exact hK _ _ _ (h.fi _ _)
 ·exact hK _ _ _ h
theorem OX(h:bC fr aq)(hK:KM K' K)(g:Option (Nat×Bool))(o:bN):ju C g o aq hp K'->ju C g o fr hp K:=by
 unfold ju;split
 ·exact Ck h hK o
 ·rename_i s want;rcases h s with e|e
  ·rw[e];split
   ·exact fun H=>⟨fun t=>Ck (h.fi _ _) hK o (H.1 t),fun t=>wB (h.fi _ _) hK o (H.2 t)⟩
   ·exact wB h hK o
   ·exact id
  ·rw[e];exact False.elim
theorem pJ(hR:KM R' R):∀(n:Nat)(cX sk:List It)(aq fr:Fr)(hp:HP),bl cX<=n->jy cX sk->bC fr aq->vc C R' cX aq hp->vc C R sk fr hp:=by
 intro n;induction n with
 |zero=>
  intro cX sk aq fr hp hn hs hf h;cases hs with
  |nil=>rw[oq]at h ⊢;exact hR _ _ _ hf h
  |el hJ _=>rw[pO]at h ⊢;exact hJ _ _ _ hf h
  |c s _=>exfalso;have:=SC.sV s;simp only[bl,It.sz]at hn;omega
  |o s _=>exfalso;have:=RT.sV s;simp only[bl,It.sz]at hn;omega
  |eb _ _=>exfalso;simp only[bl,It.sz]at hn;omega
 | succ n ih=>
  intro cX sk aq fr hp hn hs hf h;cases hs with
  |nil=>rw[oq]at h ⊢;exact hR _ _ _ hf h
  |el hJ _=>rw[pO]at h ⊢;exact hJ _ _ _ hf h
  |eb i hs=>rw[xz]at h⊢;exact ih _ _ _ _ _ (by simp only[bl,It.sz]at hn;omega) hs hf h
  | o r hs=>
   cases r with
   |nil=>rw[tY]at h ⊢;exact ih _ _ _ _ _ (by simp only[bl,It.sz,RT.sz]at hn;omega) hs hf h
   |o g o r=>rw[Fi]at h⊢;exact OX (K':=fun fr hp=>vc C R' (.o r::_) fr hp) (K:=fun fr hp=>vc C R (.o r::_) fr hp) hf (fun f f' hp Ed H=>ih (.o r::_) (.o r::_) _ _ hp (by simp only[bl,It.sz,RT.sz]at hn ⊢;omega) (.o r hs) Ed H) g o h
   |wk r=>rw[xl]at h⊢;obtain⟨aY,au,hw,h⟩:=h;exact⟨aY,au,hf.wk.trans hw,ih (.o r::_) (.o r::_) _ _ _ (by simp only[bl,It.sz,RT.sz]at hn ⊢;omega) (.o r hs) (bC.refl _) h⟩
   |br x y=>rw[Fj]at h⊢;exact⟨ih (.o x::_) (.o x::_) _ _ _ (by simp only[bl,It.sz,RT.sz]at hn ⊢;omega) (.o x hs) hf h.1,ih (.o y::_) (.o y::_) _ _ _ (by simp only[bl,It.sz,RT.sz]at hn ⊢;omega) (.o y hs) hf h.2⟩
  | @c s a b hs=>
   cases s with
   |skip=>rw[xd]at h ⊢;exact ih _ _ _ _ _ (by simp only[bl,It.sz,SC.sz]at hn;omega) hs hf h
   |rg r=>rw[CC]at h ⊢;exact ih (.o r::_) (.o r::_) _ _ _ (by simp only[bl,It.sz,SC.sz]at hn ⊢;omega) (.o r hs) hf h
   | raw id ops=>
    rw[vc]at h⊢;intro tmps w Q kx hQ;refine h tmps w Q ?_ fun dR bc acm w2 dx hv=>hQ dR bc acm w2 dx ?_
    ·obtain⟨ρ,kx⟩:=kx;exact⟨ρ,hf.Ls kx⟩
    ·exact ih _ _ _ _ _ (by simp only[bl,It.sz,SC.sz]at hn;omega) hs (bC.refl _) hv
   |seq x y=>rw[xm]at h ⊢;exact ih (.c x:: .c y::_) (.c x:: .c y::_) _ _ _ (by simp only[bl,It.sz,SC.sz]at hn ⊢;omega) (.c x (.c y hs)) hf h
   |block id x=>rw[wK]at h ⊢;exact ih (.c x:: .eb id::_) (.c x:: .eb id::_) _ _ _ (by simp only[bl,It.sz,SC.sz]at hn ⊢;omega) (.c x (.eb id hs)) hf h
   |ret=>rw[xo]at h ⊢;exact hR _ _ _ hf h
   | cond c x y=>
    rw[xe]at h⊢;rcases hf.ev c with e|e
    ·rw[e]at h;unfold ow at h⊢;split at h
     ·exact⟨fun e=>ih (.c x::_) (.c x::_) _ _ _ (by simp only[bl,It.sz,SC.sz]at hn ⊢;omega) (.c x hs) hf (h.1 e),fun e=>ih (.c y::_) (.c y::_) _ _ _ (by simp only[bl,It.sz,SC.sz]at hn ⊢;omega) (.c y hs) hf (h.2 e)⟩
     ·exact h
    ·rw[e]at h;exact h.elim
   | exit id=>
    rw[xf]at h⊢;rcases hs.exit (id:=id)with⟨a',b',h1,h2,h3,h4⟩|⟨h1,h2⟩
    ·rw[h1]at h;rw[h2];simp only[pP]at h⊢;exact ih _ _ _ _ _ (by simp only[bl,It.sz,SC.sz]at hn;omega) h3 hf h
    ·rw[h1]at h;exact h.elim
   |loop x=>rw[ri]at h⊢;obtain⟨I,μ,⟨aY,au,h1,gi⟩,h2⟩:=h;refine⟨I,μ,⟨aY,au,hf.wk.trans h1,gi⟩,fun fr hp hI=>?_⟩;refine ih (.c x:: .el _::_) (.c x:: .el _::_) _ _ _ (by simp only[bl,It.sz,SC.sz]at hn ⊢;omega) (.c x (.el ?_ hs)) (bC.refl _) (h2 fr hp hI);rintro f f' hp' hf ⟨aY,au,g1,g2,g3⟩;exact⟨aY,au,hf.wk.trans g1,g2,g3⟩
def iw:List (Nat×Nat)->Nat->Bool
 | [],_=>false
 |(a,b)::W,s=>(decide (a<=s)&&decide (s<=b))||iw W s
theorem QD(s:Nat):iw [] s=false:=rfl
theorem wS(a b s:Nat)(W:List (Nat×Nat)):iw ((a,b)::W) s=((decide (a<=s)&&decide (s<=b))||iw W s):=rfl
def ba(W:List (Nat×Nat))(J F:Fr):Fr:=fun s=>if iw W s then J s else F s
theorem Fv(W:List (Nat×Nat))(J F:Fr)(s:Nat):ba W J F s=if iw W s then J s else F s:=rfl
theorem Jb{W:List (Nat×Nat)}{a:Nat}{v:PV}{J F:Fr}(h:iw W a=true):ae (ba W J F) a v=ba W (ae J a v) F:=by
 funext s;unfold ae ba;by_cases hs:s=a
 ·subst hs;rw[if_pos rfl,if_pos h];simp
 ·rw[if_neg hs];split
  ·simp[hs]
  ·rfl
theorem OY{W:List (Nat×Nat)}{a:Nat}{v:PV}{J F:Fr}:ae (ba W J F) a v=if iw W a=true then ba W (ae J a v) F else ba ((a,a)::W) (ae J a v) F:=by
 split
 ·exact Jb ‹_›
 ·funext s;unfold ae ba;by_cases hs:s=a
  ·subst hs;simp[iw]
  ·have:(decide (a<=s)&&decide (s<=a))=false:=by rw[Bool.and_eq_false_iff];simp only[decide_eq_false_iff_not];omega
   simp only[wS,this,Bool.false_or,if_neg hs]
theorem Np{W:List (Nat×Nat)}{β:Nat}{J F:Fr}:bI β (ba W J F)=ba W (bI β J) (bI β F):=by funext s;unfold bI ba;split<;>rfl
def bX(B:List Nat)(F:Fr):Fr:=fun s=>if(F s).refs.any B.contains then .undef else F s
theorem jS(F:Fr):bX [] F=F:=by funext s;simp[bX]
theorem vY{β:Nat}{B:List Nat}{F:Fr}(h:B.contains β=true):bI β (bX B F)=bX B F:=by
 funext s;show bf β (bX B F s)=bX B F s;by_cases h1:(F s).refs.any B.contains=true
 ·have:bX B F s= .undef:=if_pos h1;rw[this];rfl
 ·have:bX B F s=F s:=if_neg h1;rw[this,bf,if_neg];intro h2;exact h1 (KaS.2 ⟨β,by simpa using h2,h⟩)
theorem Xq{β:Nat}{B:List Nat}{F:Fr}:bI β (bX B F)=if B.contains β=true then bX B F else bX (β::B) F:=by
 split
 ·exact vY ‹_›
 ·funext s;show bf β (bX B F s)=bX (β::B) F s;unfold bX bf;by_cases h1:(F s).refs.any B.contains=true
  ·have h2:(F s).refs.any (β::B).contains=true:=by obtain⟨x,hx,gu⟩:=KaS.1 h1;exact KaS.2 ⟨x,hx,by rw[Kaw,gu,Bool.or_true]⟩
   simp only[if_pos h1,if_pos h2];rfl
  ·simp only[if_neg h1];by_cases h2:(F s).refs.contains β=true
   ·have h3:(F s).refs.any (β::B).contains=true:=KaS.2 ⟨β,by simpa using h2,by simp⟩;rw[if_pos h2,if_pos h3]
   ·rw[if_neg h2,if_neg];intro h3;obtain⟨x,hx,gu⟩:=KaS.1 h3;rw[Kaw,KbF]at gu;rcases gu with e|e
    ·have:x=β:=by simpa using e
     subst this;exact h2 (by simpa using hx)
    ·exact h1 (KaS.2 ⟨x,hx,e⟩)
theorem Nq(B:List Nat)(F:Fr)(s:Nat):bX B F s=if(F s).refs.any B.contains then .undef else F s:=rfl
theorem BO(W:List (Nat×Nat))(B:List Nat):bC fr (ba W fr (bX B fr)):=fun s=>by
 unfold ba bX;split
 ·exact .inl rfl
 ·split
  ·exact .inr rfl
  ·exact .inl rfl
def rU(W:List (Nat×Nat))(F:Fr)(I:Nat->Fr->HP->Prop)(n:Nat):Qg:=fun aq hp'=>∃J m,bC aq (ba W J F)/\m<n/\I m J hp'
theorem Qm{W:List (Nat×Nat)}{F J:Fr}{I:Nat->Fr->HP->Prop}{n:Nat}(m:Nat)(hl:m<n)(h:I m J hp):rU W F I n (ba W J F) hp:=⟨J,m,bC.refl _,hl,h⟩
theorem OZ{W:List (Nat×Nat)}{F:Fr}{I:Nat->Fr->HP->Prop}{n:Nat}:KM (rU W F I n) (rU W F I n):=by rintro f f' hp hf ⟨J,m,h1,h2,h3⟩;exact⟨J,m,hf.trans h1,h2,h3⟩
def dI(R:Qg)(sk:List It):Prop:=KM R R/\jy sk sk
theorem Q5{sk:List It}{x:SC}(bQ:dI R sk)(W:List (Nat×Nat))(B:List Nat)(I:Nat->Fr->HP->Prop)(m0:Nat)(h0:I m0 fr hp)
  (h:∀m J hp,I m J hp->vc C R (.c x:: .el (rU W (bX B fr) I m)::sk) (ba W J (bX B fr)) hp):vc C R (.c (.loop x)::sk) fr hp:=by
 refine tl (fun m aq hp'=>∃J,aq=ba W J (bX B fr)/\I m J hp') m0 (BO W B).wk ⟨fr,rfl,h0⟩ ?_;rintro m _ hp' ⟨J,rfl,hI⟩;refine pJ bQ.1 _ _ _ _ _ _ (Kae _) (.c x (.el ?_ bQ.2)) (bC.refl _) (h m J hp' hI);rintro f f' bc hf ⟨J2,m2,e2,hl,h2⟩;exact BH hl (hf.trans e2).wk ⟨J2,rfl,h2⟩
def nA(W:List (Nat×Nat))(F:Fr)(M:Fr->HP->Prop):Qg:=fun aq hp'=>∃J,bC aq (ba W J F)/\M J hp'
theorem Cl{W:List (Nat×Nat)}{F J:Fr}{M:Fr->HP->Prop}(h:M J hp):nA W F M (ba W J F) hp:=⟨J,bC.refl _,h⟩
theorem Cm{W:List (Nat×Nat)}{F:Fr}{M:Fr->HP->Prop}:KM (nA W F M) (nA W F M):=by rintro f f' hp hf ⟨J,h1,h3⟩;exact⟨J,hf.trans h1,h3⟩
theorem Qp{sk:List It}{W:List (Nat×Nat)}{F:Fr}{I:Nat->Fr->HP->Prop}{n:Nat}(h:dI R sk):dI R (.el (rU W F I n)::sk):=⟨h.1,.el OZ h.2⟩
theorem Qw{sk:List It}{W:List (Nat×Nat)}{F:Fr}{M:Fr->HP->Prop}(h:dI R sk):dI R (.el (nA W F M)::sk):=⟨h.1,.el Cm h.2⟩
theorem Q3{sk:List It}{i:Nat}(h:dI R sk):dI R (.eb i::sk):=⟨h.1,.eb i h.2⟩
theorem Q8{sk:List It}{s:SC}(h:dI R sk):dI R (.c s::sk):=⟨h.1,.c s h.2⟩
theorem Q9{sk:List It}{s:RT}(h:dI R sk):dI R (.o s::sk):=⟨h.1,.o s h.2⟩
theorem Qn{sk:List It}{I:Nat->Qg}{n:Nat}(h:dI R sk):dI R (.el (rK I n)::sk):=⟨h.1,.el (fun f f' hp hf ⟨a,b,h1,h2⟩=>⟨a,b,hf.wk.trans h1,h2⟩) h.2⟩
theorem Jc{rs:List RV}{Rr:PV->Prop}:KM (eg rs Rr) (eg rs Rr):=by
 have one:∀(f f':Fr)(hp:HP)(r:RV),bC f f'->gz f' hp r->gz f hp r/\fV f' hp r=fV f hp r:=by
  intro f f' hp r hf ho;cases r with
  |t s=>
   simp only[gz,fV]at ho⊢;rcases hf s with e|e
   ·rw[e]at ho ⊢;exact⟨ho,rfl⟩
   ·rw[e]at ho;simp[Qy,bS,PV.ax]at ho
  |cell s n ag=>
   simp only[gz,fV]at ho⊢;rcases hf s with e|e
   ·rw[e]at ho ⊢;exact⟨ho,rfl⟩
   ·rw[e]at ho;exact ho.elim
 intro f f' hp hf h;unfold eg at h⊢;split at h
 ·rename_i r;obtain⟨h1,h2⟩:=h;obtain⟨g1,g2⟩:=one f f' hp r hf h1;rw[g2]at h2;exact⟨g1,h2⟩
 ·obtain⟨h1,h2⟩:=h;have e:rs.map (fV f' hp)=rs.map (fV f hp):=KaT fun r hr=>(one f f' hp r hf (h1 r hr)).2;rw[e]at h2;exact⟨fun r hr=>(one f f' hp r hf (h1 r hr)).1,h2⟩
theorem O0{rs:List RV}{ty:TypeId}{len:Nat}{aP:PV->List PV->Prop}:KM (nt rs ty len aP) (nt rs ty len aP):=by
 rintro f f' hp hf ⟨xs',h1,h2,h3,h4⟩;refine⟨xs',h1,h2,h3,?_⟩;rcases h4 with h4|⟨s,o,n,h4,h5,h6⟩
 ·exact .inl (Jc _ _ _ hf h4)
 ·refine .inr ⟨s,o,n,h4,?_,h6⟩;rcases hf s with e|e
  ·rw[<-e];exact h5
  ·rw[h5]at e;cases e
theorem O1{rs:List RV}{ty:TypeId}{aP:List PV->Prop}:KM (rT rs ty aP) (rT rs ty aP):=by
 rintro f f' hp hf ⟨s,β,n,xs,h1,h2,h3⟩;refine⟨s,β,n,xs,h1,?_,h3⟩;rcases hf s with e|e
 ·rw[<-e];exact h2
 ·rw[h2]at e;cases e
theorem Qx{rs:List RV}{Rr:PV->Prop}:dI (eg rs Rr) []:=⟨Jc,.nil⟩
theorem Qq{rs:List RV}{ty:TypeId}{len:Nat}{aP:PV->List PV->Prop}:dI (nt rs ty len aP) []:=⟨O0,.nil⟩
theorem Qr{rs:List RV}{ty:TypeId}{aP:List PV->Prop}:dI (rT rs ty aP) []:=⟨O1,.nil⟩
theorem mC{sk:List It}{x:SC}(i β e ty:Nat)(he:0<e)(hi:fr i= .aa)(h:vc C R (.c (.loop x)::sk) (ae (bI β fr) i (.ms β 0)) (Qi hp β ⟨e,ty,[],false⟩))(hB:bg β=false:=by decide):vc C R (.c (.loop x)::sk) fr hp:=by rw[ri]at h⊢;obtain⟨I,μ,⟨aY,au,h1,gi⟩,h2⟩:=h;exact⟨I,μ,⟨aY,au,(Fl i β e ty he hi hB).trans h1,gi⟩,h2⟩
end Go.FW
namespace Go.FW
open Go
variable {C : Ctx} {fr : Fr} {hp : HP} {w : World} {K R : Qg}
theorem Yi{P:Program}{f:FuncId}{k:IntKind}{x:Int}{r:PV}{v:Value}(hg:kQ P f)(h:∀w,Calls P f #[.int k x] w fun e w'=>e= .returned v/\w'=w)(hr:∀w X,dn w X r v):Qd P f [.int k x] (· =r):=by
 refine⟨hg,fun w X aQ hX hs ed=>?_⟩;have h0:∀u,Qo w X (.int k x) u->u= .int k x:=fun u hu=>by cases hu;rfl
 have e:aQ= #[.int k x]:=by
  have h1:aQ.getD 0 undef= .int k x:=h0 _ (ed 0 _ rfl);apply Array.ext
  ·simpa using hs
  ·intro i hi aA;have Ei:i=0:=by simp at aA;omega
   subst Ei;simpa[Array.getD,hi]using h1
 rw[e];refine(h w).mono ?_;rintro e w' ⟨rfl,rfl⟩;exact⟨v,r,rfl,Ext.refl _ _,hr _ _,rfl⟩
end Go.FW
namespace Go.FW
open Go
variable {C : Ctx} {fr : Fr} {hp : HP} {w : World} {K R : Qg}
theorem Nr(a b:Nat)(ZX:a≠b)(h:HP)(v w:HB):Qi (Qi h a v) b w=Qi (Qi h b w) a v:=by
 funext c;unfold Qi;by_cases h1:c=a
 ·subst h1;simp[ZX]
 ·simp[h1]
theorem LX{V W P v1 v2 v0 hi u2 w0:Nat}(hV:V=(v1*65536+v2)*P+v0)(hW:W=(hi*65536+u2)*P+w0)(yD:w0<P)(EC:u2<65536)(h1:0<v1):W<(hi/v1+1)*V:=by
 have e1:hi+1<=(hi/v1+1)*v1:=by have:=Ka9 hi v1;have:=Kbl hi h1;rw[Kax,KaP];omega
 have e2:W<(hi+1)*65536*P:=by have:(hi*65536+u2+1)*P<=(hi+1)*65536*P:=Kal _ (by omega);rw[Kax _ 1]at this;omega
 refine Ka7 e2 ?_
 calc (hi+1)*65536*P<=((hi/v1+1)*v1)*65536*P:=Kal _ (Kal _ e1)
  _=(hi/v1+1)*(v1*65536*P):=by rw[Ka4,Ka4,Ka4]
  _<=(hi/v1+1)*V:=Kbk _ (by rw[hV,Kax];omega)
theorem O2{V W P v1 v2 v0 hi u2 w0 d r:Nat}(hV:V=(v1*65536+v2)*P+v0)(hW:W=(hi*65536+u2)*P+w0)(yD:w0<P)(hd:d*v1+r=hi)(ht:r*65536+u2<d*v2):W<d*V:=by
 have h1:hi*65536+u2+1<=d*(v1*65536+v2):=by rw[KaL,<-Nat.mul_assoc,<-hd,Kax];omega
 have h2:W<(hi*65536+u2+1)*P:=by rw[hW,Kax _ 1];omega
 refine Ka7 h2 (KaY (Kal _ h1) ?_);rw[Ka4];exact Kbk _ (by rw[hV];exact Nat.le_add_right _ _)
theorem O3{V W P v1 v2 v0 hi u2 w0 e r:Nat}(hV:V=(v1*65536+v2)*P+v0)(hW:W=(hi*65536+u2)*P+w0)(vg:v0<P)(sL:1<=v1)(he:e+1<65536)(hd:(e+1)*v1+r=hi)(ht:¬r*65536+u2<(e+1)*v2):e*V<=W:=by
 have h1:(e+1)*(v1*65536+v2)<=hi*65536+u2:=by rw[KaL,<-Nat.mul_assoc,<-hd,Kax ((e+1)*v1)];omega
 have h2:e*v0<=(v1*65536+v2)*P:=KbS (by omega) (by omega)
 calc e*V=e*(v1*65536+v2)*P+e*v0:=by rw[hV,KaL,Ka4]
  _<=e*(v1*65536+v2)*P+(v1*65536+v2)*P:=Nat.add_le_add_left h2 _
  _=(e+1)*(v1*65536+v2)*P:=by rw[Kax e,Nat.one_mul,Kax (e*_)]
  _<=(hi*65536+u2)*P:=Kal _ h1
  _<=W:=by rw[hW];exact Nat.le_add_right _ _
theorem O4{V W P v1 v2 v0 hi u2 w0:Nat}(hV:V=(v1*65536+v2)*P+v0)(hW:W=(hi*65536+u2)*P+w0)(vg:v0<P)(h:W<65536*V)(hP:0<P):hi<=v1*65536+v2:=by
 have h1:hi*(65536*P)<(v1*65536+v2+1)*(65536*P):=by
  have e1:hi*(65536*P)<=W:=by rw[hW,Kax,Ka4];omega
  have e2:V<=(v1*65536+v2+1)*P:=by rw[hV,Kax _ 1];omega
  have e3:65536*V<=65536*((v1*65536+v2+1)*P):=Kbk _ e2;rw[Kbt]at e3;omega
 have:=Nat.lt_of_mul_lt_mul_right h1;omega
theorem Ge:∀(a:List Nat)(q b:Nat),(dH a [] q 0 b).2.1=0
 | [],_,_=>rfl
 |x::xs,q,b=>by simp only[dH,List.headD_nil,KbI,List.tail_nil];exact Ge xs q _
theorem Hl:∀(a v:List Nat)(q c b:Nat),v.length<a.length->c<65536->q<65536->Qj v->(dH a v q c b).2.1=0
 | [],_,_,_,_,h,_,_,_=>by simp at h
 |x::xs,[],q,c,b,h,hc,hq,hv=>by simp only[dH,List.headD_nil,KbI,List.tail_nil,KaJ];rw[Kcc hc];exact Ge xs q _
 |x::xs,y::ys,q,c,b,h,hc,hq,hv=>by rw[eM]at hv;simp only[dH,List.headD_cons,List.tail_cons];refine Hl xs ys q _ _ (by simpa using h) ?_ hq hv.2;have:=oa hq hv.1;omega
theorem wb{l:List Nat}{k:Nat}(h:val l<65536^k):val (l.drop k)=0:=by
 rcases Nat.lt_or_ge k l.length with hk|hk
 ·have:=lB l k (by omega);have:65536^k*val (l.drop k)<65536^k*1:=by omega
  have:=Nat.lt_of_mul_lt_mul_left this;omega
 ·rw[Kak hk];rfl
theorem Jd{l:List Nat}{n:Nat}(h:l.length=n+2):val l=(l.getD (n+1) 0*65536+l.getD n 0)*65536^n+val (l.take n):=by have e:=lB l n (by omega);rw[iD (by omega),iD (by omega),Kak (by omega)]at e;rw[e,et (by omega),et (by omega),val,KbI,KaJ,KaP (65536^n)];rw[KaP 65536,KbM (l[n]),KbM]
theorem TY:
  (∀(β:Nat)(cs:List PV),bf β (.pt cs)= .pt cs)/\(∀(β:Nat),bf β .undef= .undef)/\(∀(β:Nat)(cs:List PV),bf β (.aJ cs)= .aJ cs)/\
  (∀(cs:List PV),(PV.pt cs).refs=[])/\(PV.undef.refs=[])/\(∀(cs:List PV),(PV.aJ cs).refs=[])/\
  (∀(hp:HP)(cs:List PV),Qy hp (.pt cs)= .pt cs)/\(∀(hp:HP)(cs:List PV),Qy hp (.aJ cs)= .aJ cs)/\
  (∀(β f:Nat)(a b:List PV),bf β (.fn f a b)=if(a.flatMap PV.bb++b.flatMap PV.bb).contains β then .undef else .fn f a b)/\
  (∀(β o n:Nat),(PV.ao β o n).bb=[β])/\(∀(β o n:Nat),(PV.rb β o n).bb=[β])/\(∀(β o n:Nat),(PV.mp β o n).bb=[β])/\
  (∀(k:IntKind)(n:Int),(PV.int k n).bb=[])/\(∀(b:Bool),(PV.bool b).bb=[])/\(∀(e:Nat)(xs:List PV),(PV.sl e xs).bb=[])/\(PV.aa.bb=[])/\(∀(xs:List PV),(PV.pt xs).bb=[]):=by
 refine⟨fun _ _=>rfl,fun _=>rfl,fun _ _=>rfl,fun _=>rfl,rfl,fun _=>rfl,fun _ _=>rfl,fun _ _=>rfl,fun _ _ _ _=>rfl,fun _ _ _=>rfl,fun _ _ _=>rfl,fun _ _ _=>rfl,fun _ _=>rfl,fun _=>rfl,fun _ _=>rfl,rfl,fun _=>rfl⟩
theorem ab4:
  (∀(ty d e:Nat)(xs:List PV)(fr:Fr)(hp:HP)(K:Qg),dG 1 ty (.sl e xs) d fr hp K=K (ae (bI d fr) d (.mp d 0 0)) (Qi hp d ⟨1,ty,[.sl e xs],false⟩))/\
  (∀(ty d:Nat)(k:IntKind)(x:Int)(fr:Fr)(hp:HP)(K:Qg),dG 1 ty (.int k x) d fr hp K=K (ae (bI d fr) d (.mp d 0 0)) (Qi hp d ⟨1,ty,[.int k x],false⟩))/\
  (∀(ty d:Nat)(x:Bool)(fr:Fr)(hp:HP)(K:Qg),dG 1 ty (.bool x) d fr hp K=K (ae (bI d fr) d (.mp d 0 0)) (Qi hp d ⟨1,ty,[.bool x],false⟩))/\
  (∀(ty d:Nat)(fr:Fr)(hp:HP)(K:Qg),dG 1 ty .aa d fr hp K=K (ae (bI d fr) d (.mp d 0 0)) (Qi hp d ⟨1,ty,[.aa],false⟩))/\
  (∀(n ty d o m:Nat)(fr:Fr)(hp:HP)(K:Qg),dG n ty (.ao 1000000 o m) d fr hp K=K (ae fr d (.rb 1000000 o m)) hp)/\
  (∀(n ty d:Nat)(x:PV)(cs:List PV)(fr:Fr)(hp:HP)(K:Qg),dG n ty (.agg (x::cs)) d fr hp K=(cs.length+1=n/\K (ae (bI d fr) d (.mp d 0 0)) (Qi hp d ⟨n,ty,[.agg (x::cs)],false⟩)))/\
  (∀(ty d:Nat)(x:PV)(fz:Bool)(fr:Fr)(hp:HP)(K:Qg),fU (some ⟨1,ty,[x],fz⟩) 1 false 0 0 d fr hp K=K (ae fr d (dk false 1 0 x)) hp)/\
  (∀(ty β e:Nat)(x:PV)(xs:List PV)(fr:Fr)(hp:HP)(K:Qg),stM (some ⟨1,ty,[x],false⟩) β 1 0 0 (.sl e xs) fr hp K=K fr (Qi hp β ⟨1,ty,[.sl e xs],false⟩))/\
  (∀(ty β:Nat)(x:PV)(k:IntKind)(y:Int)(fr:Fr)(hp:HP)(K:Qg),stM (some ⟨1,ty,[x],false⟩) β 1 0 0 (.int k y) fr hp K=K fr (Qi hp β ⟨1,ty,[.int k y],false⟩))/\
  (∀(ty β:Nat)(x:PV)(y:Bool)(fr:Fr)(hp:HP)(K:Qg),stM (some ⟨1,ty,[x],false⟩) β 1 0 0 (.bool y) fr hp K=K fr (Qi hp β ⟨1,ty,[.bool y],false⟩))/\
  (∀(ty β:Nat)(x:PV)(fr:Fr)(hp:HP)(K:Qg),stM (some ⟨1,ty,[x],false⟩) β 1 0 0 .aa fr hp K=K fr (Qi hp β ⟨1,ty,[.aa],false⟩))/\
  (∀(e:Nat)(xs:List PV),dk false 1 0 (.sl e xs)= .sl e xs)/\(∀(k:IntKind)(x:Int),dk false 1 0 (.int k x)= .int k x)/\(∀(x:Bool),dk false 1 0 (.bool x)= .bool x)/\(dk false 1 0 .aa= .aa):=by
 have fz:∀hp:HP,bq hp []=hp:=fun _=>rfl;refine⟨fun _ _ _ _ _ _ _=>?_,fun _ _ _ _ _ _ _=>?_,fun _ _ _ _ _ _=>?_,fun _ _ _ _ _=>?_,fun _ _ _ _ _ _ _ _=>S' (by decide),fun n ty d x cs fr hp K=>?_,fun _ _ _ _ _ _ _=>?_,fun _ _ _ _ _ _ _ _=>?_,fun _ _ _ _ _ _ _ _=>?_,fun _ _ _ _ _ _ _=>?_,fun _ _ _ _ _ _=>?_,fun _ _=>rfl,fun _ _=>rfl,fun _=>rfl,rfl⟩
 ·simp[dG,Qy,bS,PV.ax,PV.cells,PV.refs,fz]
 ·simp[dG,Qy,bS,PV.ax,PV.cells,PV.refs,fz]
 ·simp[dG,Qy,bS,PV.ax,PV.cells,PV.refs,fz]
 ·simp[dG,Qy,bS,PV.ax,PV.cells,PV.refs,fz]
 ·apply propext;simp only[dG,Qy,bS,PV.ax,PV.cells,PV.refs,KaW,fz];exact⟨fun⟨_,h1,_,h2⟩=>⟨h1,h2⟩,fun⟨h1,h2⟩=>⟨trivial,h1,by omega,h2⟩⟩
 all_goals simp[fU,stM,PV.ax,PV.cells]
end Go.FW
namespace Go.FW
theorem TZ{l:List Nat}{j n V:Nat}(hl:Qj l)(hlen:j+n+3<=l.length)(hV:V<=65536^(n+2))(hz:val (l.drop (j+1))<V):
  ∃pre w post,l=pre++(w++post)/\pre.length=j/\w.length=n+3/\Qj pre/\Qj w/\Qj post/\val post=0/\val (l.drop j)=val w/\val w<65536*V/\
   ∃w0,w0<65536^n/\val w=((l.getD (j+(n+2)) 0*65536+l.getD (j+(n+1)) 0)*65536+l.getD (j+n) 0)*65536^n+w0:=by
 have eT:val (l.drop (j+n+3))=0:=by have:=wb (l:=l.drop (j+1)) (k:=n+2) (by omega);rw[List.drop_drop]at this;rw[<-this];congr 2;omega
 have hw:Qj ((l.drop j).take (n+3)):=re (s7 hl j) _;have iu:((l.drop j).take (n+3)).length=n+3:=by simp;omega
 have fg:l.drop j=(l.drop j).take (n+3)++l.drop (j+n+3):=by have:=(Kbh (n+3) (l.drop j)).symm;rw[List.drop_drop]at this;exact this
 have dz:val (l.drop j)=val ((l.drop j).take (n+3)):=by
  conv=>lhs;rw[fg]
  rw[jk,eT,KbI,KaJ]
 have dj:∀i,i<n+3->((l.drop j).take (n+3)).getD i 0=l.getD (j+i) 0:=by intro i hi;simp[Kad,KbY,hi]
 refine⟨l.take j,(l.drop j).take (n+3),l.drop (j+n+3),?_,by simp;omega,iu,re hl j,hw,s7 hl _,eT,dz,?_,?_⟩
 ·rw[<-fg,Kbh]
 ·rw[<-dz,iD (by omega)];have:=cY hl (show j<l.length by omega);omega
 ·refine⟨val (((l.drop j).take (n+3)).take n),n7 hw n (by omega),?_⟩;rw[Jd (n:=n+1) iu,dj _ (by omega),dj _ (by omega),sZ (by omega)];rw[<-et,dj _ (by omega),Kbg];generalize l.getD (j+(n+1)) 0=a;generalize l.getD (j+n) 0=b;generalize l.getD (j+(n+1+1)) 0=c;rw[Kax _ b,Ka4 _ 65536,KaP 65536 (65536^n),KaP (65536^n) b];omega
theorem Ns{U V L qs W R q pre B:Nat}(hU:U=L+V*(65536*B*qs))(hL:L=pre+B*W)(hW:W=q*V+R):U=(pre+B*R)+V*(B*(q+65536*qs)):=by
 subst hW hL;rw[hU,KaL B,KaL B q,KaL V];have e1:B*(q*V)=V*(B*q):=by rw[KaP q V,Kbt]
 have e2:V*(65536*B*qs)=V*(B*(65536*qs)):=by rw[KaP 65536 B,Ka4]
 omega
open Go
variable {C : Ctx} {fr : Fr} {hp : HP} {w : World} {K R : Qg}
theorem iE{x y:RT}{sk:List It}(h1:vc C R (.o x::sk) fr hp)(h2:vc C R (.o y::sk) fr hp):qd C R x y sk fr hp:=⟨h1,h2⟩
theorem QE{x y:RT}{sk:List It}{W:List (Nat×Nat)}{J F:Fr}(P:Fr->Prop)(h0:P J)(h:∀J,P J->qd C R x y sk (ba W J F) hp):qd C R x y sk (ba W J F) hp:=h J h0
theorem IL{sk:List It}{x:SC}(bQ:dI R sk)(W:List (Nat×Nat))(B:List Nat)(I:Nat->Fr->HP->Prop)(m0:Nat)(h0:I m0 fr hp)
  (h:∀F,F=bX B fr->∀m J hp,I m J hp->vc C R (.c x:: .el (rU W F I m)::sk) (ba W J F) hp):vc C R (.c (.loop x)::sk) fr hp:=
 Q5 bQ W B I m0 h0 (h _ rfl)
theorem O5{x y:RT}{sk:List It}{W0:List (Nat×Nat)}{J0 F0:Fr}(bQ:dI R sk)(B:List Nat)(M:Fr->HP->Prop)
  (h:∀F,F=bX B F0->qd C R x y (.el (nA W0 F M)::sk) (ba W0 J0 F) hp) (hM:∀J hp,M J hp->vc C R sk (ba W0 J (bX B F0)) hp):qd C R x y sk (ba W0 J0 F0) hp:=by
 have hle:bC (ba W0 J0 F0) (ba W0 J0 (bX B F0)):=fun s=>by
  unfold ba bX;split
  ·exact .inl rfl
  ·split
   ·exact .inr rfl
   ·exact .inl rfl
 have key:∀(r:RT),vc C R (.o r:: .el (nA W0 (bX B F0) M)::sk) (ba W0 J0 (bX B F0)) hp->vc C R (.o r::sk) (ba W0 J0 F0) hp:=by
  intro r hr;refine xg (M:=nA W0 (bX B F0) M) ?_ _ [.o r] _ _ (Kae _) ?_
  ·rintro aq hp' ⟨J,h1,h2⟩;exact pJ bQ.1 _ _ _ _ _ _ (Kae _) bQ.2 h1 (hM J hp' h2)
  ·exact pJ bQ.1 _ _ _ _ _ _ (Kae _) (.o r (.el Cm bQ.2)) hle hr
 exact⟨key x (h _ rfl).1,key y (h _ rfl).2⟩
theorem LY{aq:Fr}{K':Qg}{p:PV}{s:Nat}{want:Bool}{o:bN}(h:bC fr aq)(hK:KM K' K):e7 C p s want o aq hp K'->e7 C p s want o fr hp K:=by
 unfold e7;split
 ·exact fun H=>⟨fun t=>Ck (h.fi _ _) hK o (H.1 t),fun t=>wB (h.fi _ _) hK o (H.2 t)⟩
 ·exact wB h hK o
 ·exact id
theorem Yj{p:PV}{s:Nat}{want:Bool}{o:bN}{r:RT}{sk:List It}(bQ:dI R sk)(W:List (Nat×Nat))(B:List Nat)(M:Fr->HP->Prop)
  (h:e7 C p s want o (ba W fr (bX B fr)) hp (vc C R (.o r:: .el (nA W (bX B fr) M)::sk))) (hM:∀J hp,M J hp->vc C R sk (ba W J (bX B fr)) hp):e7 C p s want o fr hp (vc C R (.o r::sk)):=by
 refine LY (BO W B) (fun f f' hp hf H=>?_) h;have H':=pJ bQ.1 _ _ _ _ _ _ (Kae _) (.o r (.el Cm bQ.2)) hf H;refine xg (M:=nA W (bX B fr) M) ?_ _ [.o r] _ _ (Kae _) H';rintro aq hp' ⟨J,h1,h2⟩;exact pJ bQ.1 _ _ _ _ _ _ (Kae _) bQ.2 h1 (hM J hp' h2)
theorem JN:(∀(a b c:Nat),(PV.mp a b c).gO=true)/\(∀(a b c:Nat),(PV.ao a b c).gO=true)/\(∀(a b c:Nat),(PV.rb a b c).gO=true)/\(∀(k:IntKind)(n:Int),(PV.int k n).gO=true)/\
  (∀b,(PV.bool b).gO=true)/\(PV.aa.gO=true)/\(∀(e:Nat)(xs:List PV),(PV.sl e xs).gO=true)/\(∀(xs:List PV),(PV.pt xs).gO=true):=
 ⟨fun _ _ _=>rfl,fun _ _ _=>rfl,fun _ _ _=>rfl,fun _ _=>rfl,fun _=>rfl,rfl,fun _ _=>rfl,fun _=>rfl⟩
end Go.FW
namespace Go.FW
def ze(V W:List (Nat×Nat)):Bool:=V.all fun p=>W.any fun q=>decide (q.1<=p.1)&&decide (p.2<=q.2)
theorem Nt{V W:List (Nat×Nat)}(h:ze V W=true){s:Nat}(hs:iw V s=true):iw W s=true:=by
 induction V with
 |nil=>cases hs
 | cons p V ih=>
  simp only[ze,List.all_cons,Kbb]at h;rw[wS,KbF]at hs;rcases hs with hs|hs
  ·obtain⟨q,hq,lg⟩:=KaS.1 h.1;simp only[Kbb,decide_eq_true_eq]at lg hs;clear h ih;induction W with
   |nil=>cases hq
   |cons r W ih=>
    rw[wS,KbF];rcases KaH.1 hq with rfl|hq
    ·left;simp only[Kbb,decide_eq_true_eq];omega
    ·right;exact ih hq
  ·exact ih h.2 hs
theorem Xr{B B':List Nat}{F:Fr}(h:B.all B'.contains=true):bX B (bX B' F)=bX B' F:=by
 funext s;by_cases h1:(F s).refs.any B'.contains=true
 ·have:bX B' F s= .undef:=if_pos h1;show(if(bX B' F s).refs.any B.contains=true then PV.undef else bX B' F s)=_;rw[this];rfl
 ·have:bX B' F s=F s:=if_neg h1;show(if(bX B' F s).refs.any B.contains=true then PV.undef else bX B' F s)=_;rw[this,if_neg];intro h2;obtain⟨x,hx,gu⟩:=KaS.1 h2;exact h1 (KaS.2 ⟨x,hx,KaB.1 h x (by simpa using gu)⟩)
theorem tQ{V W:List (Nat×Nat)}{X Z F:Fr}(h:ze V W=true):ba V X (ba W Z F)=ba W (ba V X Z) F:=by
 funext s;unfold ba;by_cases h1:iw V s=true
 ·simp[h1,Nt h h1]
 ·simp[h1]
theorem Ua{W V S d:Nat}(hs:S+d*V=W)(D':W<(d+1)*V):S<V/\W=d*V+S:=by rw[Kax]at D';omega
theorem QF{W V B S e k res:Nat}(hs:S+(e+1)*V=W+B)(hS:S<B)(Ki:e*V<=W)(hr:res+B*k=S+V)(ej:res<B)(hWB:W<B):res<V/\W=e*V+res:=by
 rw[Kax,Nat.one_mul]at hs;generalize e*V=x at *
 have hk:k=1:=by
  match k,hr with
  |0,hr=>omega
  |1,_=>rfl
  |k+2,hr=>
   have:B*(k+2)=B*k+B+B:=by rw[KaL];omega
   omega
 subst hk;omega
theorem H2{pre R post qs:List Nat}{j q U V L W:Nat}(hp:pre.length=j)(eT:val post=0)(hU:U=L+V*(65536^(j+1)*val qs))(hL:L=val pre+65536^j*W)(hW:W=q*V+val R):
  val ((pre++(R++post)).drop j)=val R/\U=val (pre++(R++post))+V*(65536^j*val (q::qs)):=by
 have e:(pre++(R++post)).drop j=R++post:=by rw[<-hp,List.drop_left]
 have e2:val (R++post)=val R:=by rw[jk,eT,KbI,KaJ]
 refine⟨by rw[e,e2],?_⟩;rw[jk,e2,hp,val];exact Ns (by rw[hU,Kbg,KaP (65536^j)]) hL hW
theorem xj{j q:Nat}{qs:List Nat}:(List.replicate (j+1) 0++qs).set j q=List.replicate j 0++(q::qs):=by rw[List.replicate_succ',Kbs,List.singleton_append,jV (by simp)]
open Go
variable {C : Ctx} {fr : Fr} {hp : HP} {w : World} {K R : Qg}
theorem ab5:(∀(C:Ctx)(d:Nat)(ng:Bool)(x y:aD)(fr:Fr)(hp:HP)(K:Qg),aS C (.eqs d ng x y) fr hp K=mL ng (ev fr x) (ev fr y) d fr hp K)/\
  (∀(k l:IntKind)(x y x' y':Int)(d:Nat)(fr:Fr)(hp:HP)(K:Qg),mL false (.agg [.int k x,.int l y]) (.agg [.int k x',.int l y']) d fr hp K=K (ae fr d (.bool (decide (x=x')&&decide (y=y')))) hp)/\
  (∀(k l:IntKind)(x y x' y':Int)(d:Nat)(fr:Fr)(hp:HP)(K:Qg),mL true (.agg [.int k x,.int l y]) (.agg [.int k x',.int l y']) d fr hp K=K (ae fr d (.bool (!(decide (x=x')&&decide (y=y'))))) hp):=
 ⟨fun _ _ _ _ _ _ _ _=>rfl,fun _ _ _ _ _ _ _ _ _ _=>by simp[mL],fun _ _ _ _ _ _ _ _ _ _=>by simp[mL]⟩
theorem ab6:(∀(C:Ctx)(d:Nat)(ng:Bool)(x y:aD)(fr:Fr)(hp:HP)(K:Qg),aS C (.qW d ng x y) fr hp K=mM ng (ev fr x) (ev fr y) d fr hp K)/\
  (∀(C:Ctx)(d:Nat)(x:aD)(fr:Fr)(hp:HP)(K:Qg),aS C (.vF d x) fr hp K=pW (ev fr x) d fr hp K)/\
  (∀(C:Ctx)(d:Nat)(x i:aD)(fr:Fr)(hp:HP)(K:Qg),aS C (.vE d x i) fr hp K=oy (ev fr x) (ev fr i) d fr hp K)/\
  (∀(x y:ByteArray)(d:Nat)(fr:Fr)(hp:HP)(K:Qg),mM false (.str x) (.str y) d fr hp K=K (ae fr d (.bool (decide (x=y)))) hp)/\
  (∀(x y:ByteArray)(d:Nat)(fr:Fr)(hp:HP)(K:Qg),mM true (.str x) (.str y) d fr hp K=K (ae fr d (.bool (!decide (x=y)))) hp)/\
  (∀(x:ByteArray)(d:Nat)(fr:Fr)(hp:HP)(K:Qg),pW (.str x) d fr hp K=K (ae fr d (.int .i64 x.size)) hp):=
 ⟨fun _ _ _ _ _ _ _ _=>rfl,fun _ _ _ _ _ _=>rfl,fun _ _ _ _ _ _ _=>rfl,fun _ _ _ _ _ _=>by simp[mM],fun _ _ _ _ _ _=>by simp[mM],fun _ _ _ _ _=>rfl⟩
theorem Ub{s:ByteArray}{k:IntKind}{i:Nat}{d:Nat}(h:i<s.size):oy (.str s) (.int k i) d fr hp K=K (ae fr d (.int .u8 (s.get! i).toNat)) hp:=by simp[oy,h]
theorem Ow{α:Type}{f:α->PV}{e d:Nat}{k:IntKind}{xs:List α}(h:0<xs.length):cG e (.sl e (xs.map f)) (.int k 0) d fr hp K=K (ae fr d (.pt (f (xs[0]'h)).cells)) hp:=by rw[pI (by omega) (by omega)];rfl
theorem Ox{α:Type}{f:α->PV}{e d:Nat}{k:IntKind}{xs:List α}(h:1<xs.length):cG e (.sl e (xs.map f)) (.int k 1) d fr hp K=K (ae fr d (.pt (f (xs[1]'h)).cells)) hp:=by rw[pI (by omega) (by omega)];rfl
theorem Oy{e d:Nat}{k:IntKind}{x:PV}{xs:List PV}:cG e (.sl e (x::xs)) (.int k 0) d fr hp K=K (ae fr d (.pt x.cells)) hp:=by rw[Cs (by omega) (by simp only[KaW];omega)];rfl
theorem OA{e d:Nat}{k:IntKind}{x y:PV}{xs:List PV}:cG e (.sl e (x::y::xs)) (.int k 1) d fr hp K=K (ae fr d (.pt y.cells)) hp:=by rw[Cs (by omega) (by simp only[KaW];omega)];rfl
def PV.flat:PV->Bool
 |.int .. | .bool _| .aa| .sl .. | .agg _| .pt _| .str _=>true
 |_=>false
theorem OB:∀s,(PV.str s).flat=true:=fun _=>rfl
theorem OC:∀s,(PV.str s).ax=true:=fun _=>rfl
theorem WA:(∀(k:IntKind)(n:Int),(PV.int k n).flat=true)/\(∀b,(PV.bool b).flat=true)/\(PV.aa.flat=true)/\(∀(e:Nat)(xs:List PV),(PV.sl e xs).flat=true)/\(∀xs,(PV.agg xs).flat=true)/\(∀xs,(PV.pt xs).flat=true):=
 ⟨fun _ _=>rfl,fun _=>rfl,rfl,fun _ _=>rfl,fun _=>rfl,fun _=>rfl⟩
theorem WC:(∀(k:IntKind)(n:Int),(PV.int k n).ax=true)/\(∀b,(PV.bool b).ax=true)/\(PV.aa.ax=true)/\(∀(e:Nat)(xs:List PV),(PV.sl e xs).ax=true)/\(∀xs,(PV.agg xs).ax=true)/\(∀xs,(PV.pt xs).ax=true):=
 ⟨fun _ _=>rfl,fun _=>rfl,rfl,fun _ _=>rfl,fun _=>rfl,fun _=>rfl⟩
theorem m8{p:PV}(h:p.flat=true):Qy hp p=p/\p.refs=[]/\p.ax=true:=by cases p<;>first|(cases h;done)|exact⟨rfl,rfl,rfl⟩
theorem lF{e ty d:Nat}{ps:List PV}(h:ps.all PV.flat=true)(hl:∀p∈ps,p.cells.length=e)(he:0<e):ki e ty ps d fr hp K=K (ae (bI d fr) d (.ms d ps.length)) (Qi hp d ⟨e,ty,ps,false⟩):=by
 have h':=KaB.1 h;have e1:ps.map (Qy hp)=ps:=by
  conv=>rhs;rw[<-List.map_id ps]
  exact KaT fun p hp'=>(m8 (h' p hp')).1
 have e2:ps.flatMap PV.refs=[]:=by rw[List.flatMap_eq_nil_iff];exact fun p hp'=>(m8 (hp:=hp) (h' p hp')).2.1
 have e3:B7 hp e ps:=fun p hp'=>by obtain⟨h1,_,h3⟩:=m8 (hp:=hp) (h' p hp');rw[h1];exact⟨h3,hl p hp'⟩
 have hbg:kT ps=false:=by
  unfold kT;split
  ·rename_i x;have:=KaB.1 h x (by simp);unfold iG;split
   ·cases this
   ·rfl
  ·rfl
 simp only[ki,hbg,Kbd,if_false,xM,e1,e2,e3,he,true_and];rfl
theorem Ze{e ty d:Nat}{p:PV}(h:p.flat=true)(hl:p.cells.length=e)(he:0<e):ki e ty [p] d fr hp K=K (ae (bI d fr) d (.ms d 1)) (Qi hp d ⟨e,ty,[p],false⟩):=
 lF (by simp[h]) (by simpa using hl) he
theorem Zj{e ty d:Nat}{p q:PV}(h:p.flat=true)(h2:q.flat=true)(hl:p.cells.length=e)(mb:q.cells.length=e)(he:0<e):ki e ty [p,q] d fr hp K=K (ae (bI d fr) d (.ms d 2)) (Qi hp d ⟨e,ty,[p,q],false⟩):=
 lF (by simp[h,h2]) (by simp[hl,mb]) he
end Go.FW
namespace Go.FW
theorem Yk{y n s yi:Nat}(hy:(aj y).length=n+2)(o8:(aj y)[n+1]'(by omega)=yi)(h1:2^15<=yi*2^s)(h2:(yi+1)*2^s<=65536):
  (aj (y*2^s)).length=n+2/\32768<=(aj (y*2^s)).getD (n+1) 0/\32768*65536^(n+1)<=y*2^s:=by
 have hl:=Ql y;have e:=lB (aj y) (n+1) (by omega);have ht:=n7 hl (n+1) (by omega);rw[iD (by omega),Kak (by omega),o8,Qz]at e;simp only[val,KbI,KaJ]at e;have g1:32768*65536^(n+1)<=y*2^s:=by
  calc 32768*65536^(n+1)<=(yi*2^s)*65536^(n+1):=Kal _ h1
   _=(65536^(n+1)*yi)*2^s:=by rw[KaP (65536^(n+1)),Nat.mul_right_comm]
   _<=y*2^s:=Kal _ (by omega)
 have g2:y*2^s<65536^(n+2):=by
  have hp:0<2^s:=KbG (by omega)
  calc y*2^s<(65536^(n+1)*(yi+1))*2^s:=Nat.mul_lt_mul_of_pos_right (by rw[KaL];omega) hp
   _=65536^(n+1)*((yi+1)*2^s):=Ka4 _ _ _
   _<=65536^(n+1)*65536:=Kbk _ h2
   _=65536^(n+2):=(Kbg ..).symm
 have hle:nl (y*2^s)<=n+2:=jr.2 g2;have fc:¬nl (y*2^s)<=n+1:=fun h=>by have:=jr.1 h;omega
 have hlen:(aj (y*2^s)).length=n+2:=by unfold nl at hle fc;omega
 refine⟨hlen,?_,g1⟩;have e2:=lB (aj (y*2^s)) (n+1) (by omega);have KZ:=n7 (Ql (y*2^s)) (n+1) (by omega);rw[iD (by omega),Kak (by omega),Qz]at e2;simp only[val,KbI,KaJ]at e2;have hg:(aj (y*2^s)).getD (n+1) 0=(aj (y*2^s))[n+1]'(by omega):=et (by omega);rw[hg];apply Decidable.byContradiction;intro h;have:65536^(n+1)*(aj (y*2^s))[n+1]<=65536^(n+1)*32767:=Kbk _ (by omega);omega
theorem Nu{yi s:Nat}(hs:s<=15)(h1:2^(16-s)<=2*yi)(h2:yi<2^(16-s)):2^15<=yi*2^s/\(yi+1)*2^s<=65536:=by
 have e:2^(16-s)*2^s=65536:=by rw[<-Nat.pow_add,show 16-s+s=16 by omega]
 constructor
 ·have:=Kal (2^s) h1;rw[e,Ka4]at this;omega
 ·rw[<-e];exact Kal _ h2
theorem XV{x s m n Y:Nat}(hx:(aj x).length=m+2)(hs:s<=15)(eD:n<=m)(hY:32768*65536^(n+1)<=Y):
  ∃u ex,aj (x*2^s)++[0,0]=u++ex/\u.length=m+3/\Qj u/\val u=x*2^s/\ex.length<=2/\val (u.drop (m+3-(n+2)))<Y:=by
 have K8:=kJ (Ql x);rw[hx,Qz]at K8;have hp:0<2^s:=KbG (by omega);have o6:2^s<=2^15:=KaV (by omega) hs;have hX:x*2^s<2^s*65536^(m+2):=by rw[KaP (2^s)];exact Nat.mul_lt_mul_of_pos_right K8 hp
 have ZQ:x*2^s<65536^(m+3):=by have:2^s*65536^(m+2)<=65536*65536^(m+2):=Kal _ (by omega);rw[Kbg 65536 (m+2),KaP _ 65536];omega
 have hx1:¬nl (x*2^s)<=m+1:=fun h=>by
  have h2:¬nl x<=m+1:=by unfold nl;omega
  have h3:=eX (show x<=x*2^s from Nat.le_mul_of_pos_right _ hp);omega
 have gu:nl (x*2^s)<=m+3:=jr.2 ZQ;have mc:Qj (aj (x*2^s)++[0,0]):=jQ.2 ⟨Ql _,by intro z hz;simp at hz;omega⟩;have dz:val (aj (x*2^s)++[0,0])=x*2^s:=by rw[jk,Qz];simp[val]
 have hlen:(aj (x*2^s)++[0,0]).length=nl (x*2^s)+2:=by simp[nl]
 generalize aj (x*2^s)++[0,0]=D at *
 have hv:=lB D (m+3) (by omega);have hz:val (D.drop (m+3))=0:=wb (by omega);have ED:(D.take (m+3)).length=m+3:=by rw[Kau];omega
 refine⟨D.take (m+3),D.drop (m+3),(Kbh _ _).symm,ED,re mc _,by rw[hz]at hv;omega,by rw[KaX];omega,?_⟩;have hu:val (D.take (m+3))=x*2^s:=by rw[hz]at hv;omega
 have qJ:=lB (D.take (m+3)) (m+3-(n+2)) (by omega);generalize D.take (m+3)=u at *
 have e:65536^(m+2)=65536^(m+3-(n+2))*65536^(n+1):=by rw[<-Nat.pow_add];congr 1;omega
 have:65536^(m+3-(n+2))*val (u.drop (m+3-(n+2)))<65536^(m+3-(n+2))*(2^s*65536^(n+1)):=by rw[Kbt,<-e];omega
 have h4:=Nat.lt_of_mul_lt_mul_left this;have:2^s*65536^(n+1)<=32768*65536^(n+1):=Kal _ o6;omega
open Go
variable {C : Ctx} {fr : Fr} {hp : HP} {w : World} {K R : Qg}
theorem OD{e ty n:Nat}{fz:Bool}{o d:Nat}{x:PV}(h:o+n<=e):fU (some ⟨e,ty,[x],fz⟩) n true 0 o d fr hp K=K (ae fr d (dk true n o x)) hp:=Jn h (by simp)
theorem OE{e ty:Nat}{fz:Bool}{o d:Nat}{x:PV}(h:o+1<=e):fU (some ⟨e,ty,[x],fz⟩) 1 false 0 o d fr hp K=K (ae fr d (dk false 1 o x)) hp:=Jn h (by simp)
theorem WD(n o:Nat)(cs:List PV):dk true n o (.agg cs)= .agg ((cs.drop o).take n):=rfl
theorem WE(n o:Nat)(cs:List PV):dk false n o (.agg cs)=(cs.drop o).headD .undef:=rfl
theorem LZ(n ty β:Nat)(x:PV)(cs:List PV):stM (some ⟨n,ty,[x],false⟩) β n 0 0 (.agg cs) fr hp K=(cs.length=n/\K fr (Qi hp β ⟨n,ty,[.agg cs],false⟩)):=by simp[stM,PV.ax,PV.cells]
theorem OF{e n ty β o:Nat}{x v:PV}(h:v.flat=true)(hn:¬n=e)(hl:v.cells.length=n)(ho:o+n<=e):stM (some ⟨e,ty,[x],false⟩) β n 0 o v fr hp K=K fr (Qi hp β ⟨e,ty,[m6 x o v],false⟩):=by have:=(m8 (hp:=hp) h).2.2;simp[stM,this,hl,ho,hn]
theorem QG(cs:List PV)(o:Nat)(v:PV):m6 (.agg cs) o v= .agg (cs.take o++v.cells++cs.drop (o+v.cells.length)):=rfl
theorem Bs(k:IntKind)(n:Int):(PV.int k n).cells=[.int k n]:=rfl
theorem Nv:(PV.aa).cells=[.aa]:=rfl
theorem L0{p:PV}(h:p.flat=true):p.kC=false:=by cases p<;>simp_all[PV.flat,PV.kC]
theorem wT{z:List PV}{ps:List (Nat×Nat×PV)}{d:Nat}(h:ps.all (fun p=>p.2.2.flat)=true):
  iM z ps d fr hp K=((∀p∈ps,p.2.2.cells.length=p.2.1/\p.1+p.2.1<=z.length)/\K (ae fr d (.agg (eZ z (ps.map fun p=>(p.1,p.2.2.cells))))) hp):=by
 have h':=KaB.1 h;have e1:(ps.map fun p=>(p.1,(Qy hp p.2.2).cells))=ps.map fun p=>(p.1,p.2.2.cells):=KaT fun p hp'=>by rw[(m8 (h' p hp')).1]
 have e2:(ps.flatMap fun p=>p.2.2.refs)=[]:=by rw[List.flatMap_eq_nil_iff];exact fun p hp'=>(m8 (hp:=hp) (h' p hp')).2.1
 have e3:Fe hp z.length ps=(∀p∈ps,p.2.2.cells.length=p.2.1/\p.1+p.2.1<=z.length):=by
  apply propext;constructor
  ·intro H p hp';obtain⟨_,h2,h3⟩:=H p hp';rw[(m8 (h' p hp')).1]at h2;exact⟨h2,h3⟩
  ·intro H p hp';obtain⟨h2,h3⟩:=H p hp';obtain⟨g1,_,g3⟩:=m8 (hp:=hp) (h' p hp');rw[g1];exact⟨g3,h2,h3⟩
 have e4:ps.any (fun p=>p.2.2.kC)=false:=by rw[Kco];exact fun p hp'=>by simp[L0 (h' p hp')]
 simp only[iM,e4,xI,e1,e2,e3,Kbd,if_false];rfl
theorem YY(z:List PV)(d:Nat):iM z [] d fr hp K=K (ae fr d (.agg z)) hp:=by rw[wT rfl];simp[eZ]
theorem YZ{z:List PV}{o n d:Nat}{p:PV}(h:p.flat=true):iM z [(o,n,p)] d fr hp K=((p.cells.length=n/\o+n<=z.length)/\K (ae fr d (.agg (z.take o++p.cells++z.drop (o+p.cells.length)))) hp):=by rw[wT (by simp[h])];simp[eZ]
theorem Za{z:List PV}{o n o2 n2 d:Nat}{p q:PV}(h:p.flat=true)(h2:q.flat=true):iM z [(o,n,p),(o2,n2,q)] d fr hp K=
  ((p.cells.length=n/\o+n<=z.length)/\(q.cells.length=n2/\o2+n2<=z.length)/\K (ae fr d (.agg (eZ z [(o,p.cells),(o2,q.cells)]))) hp):=by
 rw[wT (by simp[h,h2])];simp[and_assoc]
theorem Zd{z:List PV}{o n o2 n2 o3 n3 d:Nat}{p q r:PV}(h:p.flat=true)(h2:q.flat=true)(h3:r.flat=true):iM z [(o,n,p),(o2,n2,q),(o3,n3,r)] d fr hp K=
  ((p.cells.length=n/\o+n<=z.length)/\(q.cells.length=n2/\o2+n2<=z.length)/\(r.cells.length=n3/\o3+n3<=z.length)/\K (ae fr d (.agg (eZ z [(o,p.cells),(o2,q.cells),(o3,r.cells)]))) hp):=by
 rw[wT (by simp[h,h2,h3])];simp[and_assoc]
theorem Nw(c:List PV):eZ c []=c:=rfl
theorem L1(c xs:List PV)(o:Nat)(r:List (Nat×List PV)):eZ c ((o,xs)::r)=eZ (c.take o++xs++c.drop (o+xs.length)) r:=rfl
def xB(p:PV)(hp:HP)(n:Nat)(ag:Bool):PV:=match p with
 |.mp β i o=>match hp β with
  |some hb=>if i<hb.xs.length/\o+n<=hb.e/\(ag=false->n=1)then dk ag n o ((hb.xs[i]?).getD .undef)else .undef
  |none=>.undef
 |_=>.undef
def gv(fr:Fr)(hp:HP):RV->PV
 |.t s=>Qy hp (fr s)
 |.cell s n ag=>xB (fr s) hp n ag
def uh(hb:Option HB)(n:Nat)(ag:Bool)(i o:Nat):PV:=match hb with
  |some hb=>if i<hb.xs.length/\o+n<=hb.e/\(ag=false->n=1)then dk ag n o ((hb.xs[i]?).getD .undef)else .undef
  |none=>.undef
theorem ZB(fr:Fr)(hp:HP)(s:Nat):gv fr hp (.t s)=Qy hp (fr s):=rfl
theorem ZA(fr:Fr)(hp:HP)(s n:Nat)(ag:Bool):gv fr hp (.cell s n ag)=xB (fr s) hp n ag:=rfl
theorem O6(hp:HP)(n:Nat)(ag:Bool)(β i o:Nat):xB (.mp β i o) hp n ag=uh (hp β) n ag i o:=rfl
theorem QH{e ty n o:Nat}{fz:Bool}{x:PV}(h:o+n<=e):uh (some ⟨e,ty,[x],fz⟩) n true 0 o=dk true n o x:=by simp[uh,h]
theorem Rg{e ty o:Nat}{fz:Bool}{x:PV}(h:o+1<=e):uh (some ⟨e,ty,[x],fz⟩) 1 false 0 o=dk false 1 o x:=by simp[uh,h]
theorem xC{r:RV}(h:(gv fr hp r).ax=true):gz fr hp r/\fV fr hp r=gv fr hp r:=by
 cases r with
 |t s=>exact⟨h,rfl⟩
 | cell s n ag=>
  simp only[gv,gz,fV]at h⊢;cases ko:fr s with
  | mp β i o=>
   rw[ko]at h;simp only[xB]at h⊢;cases ah:hp β with
   |none=>rw[ah]at h;cases h
   | some hb=>
    rw[ah]at h;simp only at h⊢;split at h
    ·rename_i hc;rw[if_pos hc];exact⟨hc,rfl⟩
    ·cases h
  |_=>rw[ko]at h;cases h
theorem cF{r:RV}{Rr:PV->Prop}(h:pU Rr (gv fr hp r)):eg [r] Rr fr hp:=by obtain⟨h1,h2⟩:=xC h.1;exact⟨h1,by rw[h2];exact h.2⟩
theorem uj{r s:RV}{Rr:PV->Prop}(h:ug Rr (gv fr hp r) (gv fr hp s)):eg [r,s] Rr fr hp:=by obtain⟨⟨a,b⟩,c⟩:=h;obtain⟨h1,h2⟩:=xC a;obtain⟨h3,h4⟩:=xC b;refine⟨by simp[h1,h3],?_⟩;simp only[Ka3,Kbf,h2,h4];exact c
end Go.FW
namespace Go.FW
open Go
def zv(n:Bool)(a:List Nat):Int:=if n then -(val a:Int)else val a
abbrev PV.zi(n:Bool)(a:List Nat):PV:=.agg [.bool n,PV.nat a]
abbrev PV.zz(z:Int):PV:=.agg [.bool (decide (z<0)),PV.num z.natAbs]
theorem BY(n:Bool)(x:Nat):PV.agg [.bool (n&&decide (0<(aj x).length)),PV.num x]=PV.zz (if n then -(x:Int)else x):=by
 have h:0<(aj x).length↔x≠0:=by
  constructor
  ·intro h h0;rw[h0,ek]at h;simp at h
  ·intro h;apply Ka8;intro h0;exact h (iA.1 (lA h0))
 cases n
 ·simp
 ·simp only[Bool.true_and,if_true,PV.zz,Int.natAbs_neg,KbN];congr 3;exact decide_eq_decide.2 (by rw[h];omega)
theorem kN(z:Int):zv (decide (z<0)) (aj z.natAbs)=z:=by unfold zv;rw[Qz];by_cases h:z<0<;>simp[h]<;>omega
theorem jU(n:Bool)(a:List Nat):(zv n a).natAbs=val a:=by unfold zv;split<;>simp
theorem tx(a:List Nat):zv false a=val a:=rfl
theorem pK(n:Bool)(x:Nat):zv n (aj x)=if n then -(x:Int)else x:=by unfold zv;rw[Qz]
def gA(z:Int):Int:=if z<0 then -1 else if 0<z then 1 else 0
def dQ(x y:Int):Int:=if x<y then -1 else if y<x then 1 else 0
theorem Uc(n:Bool)(a:List Nat):gA (zv n a)=if val a=0 then 0 else if n then -1 else 1:=by unfold gA zv;cases n<;>simp<;>split<;>(try split)<;>omega
theorem wU{x y:Nat}:fP x y<0↔x<y:=by unfold fP;split<;>(try split)<;>omega
variable {C : Ctx} {fr : Fr} {hp : HP} {w : World} {K R : Qg}
def y9(hb:Option HB)(o n:Nat):PV:=match hb with
 |some hb=>.sl hb.e ((hb.xs.drop o).take n)
 |none=>.undef
theorem eG:(∀(hp:HP)(β o n:Nat),Qy hp (.ao β o n)=if aF β=true then .undef else y9 (hp β) o n)/\
  (∀(e ty o n:Nat)(xs:List PV)(fz:Bool),y9 (some ⟨e,ty,xs,fz⟩) o n= .sl e ((xs.drop o).take n))/\
  (∀(β:Nat),aF β=(decide (1000000<=β)&&decide (β<2000000)))/\
  (∀(hp:HP)(l:List Nat)(β:Nat),FW.bq hp l β=if l.contains β=true then(hp β).map (fun hb=>{ hb with fz:=true })else hp β):=by
 refine⟨fun hp β o n=>?_,fun _ _ _ _ _ _=>rfl,fun _=>rfl,fun _ _ _=>rfl⟩;simp only[Qy,bS,y9];cases aF β<;>cases hp β<;>rfl
theorem Ud{n d:Nat}{cs:List PV}(h:n<=cs.length):gQ n true (.pt cs) d fr hp K=K (ae fr d (.agg (cs.take n))) hp:=by simp[gQ,h,dk,PV.cells]
theorem Ue{off d:Nat}{cs:List PV}(h:off<=cs.length):mN off (.pt cs) d fr hp K=K (ae fr d (.pt (cs.drop off))) hp:=by simp[mN,h]
theorem Uf{off n d:Nat}{cs:List PV}(h:off+n<=cs.length):mH off n true (.agg cs) d fr hp K=K (ae fr d (.agg ((cs.drop off).take n))) hp:=by simp[mH,h,dk,PV.cells]
theorem Ug{off d:Nat}{cs:List PV}(h:off+1<=cs.length):mH off 1 false (.agg cs) d fr hp K=K (ae fr d ((cs.drop off).headD .undef)) hp:=by simp[mH,h,dk,PV.cells]
def rv(n:Bool)(a d:List Nat):Rat:=mkRat (zv n a) (val d)
abbrev PV.rr(n:Bool)(a d:List Nat):PV:=.agg [.bool n,PV.nat a,PV.nat d]
abbrev PV.rat(q:Rat):PV:=.agg [.bool (decide (q.num<0)),PV.num q.num.natAbs,PV.num q.den]
theorem js(q:Rat):rv (decide (q.num<0)) (aj q.num.natAbs) (aj q.den)=q:=by unfold rv;rw[kN,Qz,Kcp]
theorem wC{z:Int}{D:Nat}(hD:D≠0):(mkRat z D).num=z/(Nat.gcd z.natAbs D:Int)/\(mkRat z D).den=D/Nat.gcd z.natAbs D:=by rw[Rat.mkRat_def,dif_neg hD,Rat.normalize_eq];exact⟨rfl,rfl⟩
theorem Fw{z:Int}{D:Nat}(hD:D≠0):PV.agg [.bool (decide (z<0)),PV.num (z.natAbs/Nat.gcd z.natAbs D),PV.num (D/Nat.gcd z.natAbs D)]=PV.rat (mkRat z D):=by
 obtain⟨h1,h2⟩:=wC (z:=z) hD;have hg:0<Nat.gcd z.natAbs D:=Nat.gcd_pos_of_pos_right _ (Ka8 hD);have Ea:(Nat.gcd z.natAbs D:Int)∣z:=Int.ofNat_dvd_left.2 (Kcq _ _);obtain⟨k,hk⟩:=Ea;rw[PV.rat,h1,h2];generalize hgg:Nat.gcd z.natAbs D=g at *
 have e1:z/(g:Int)=k:=by rw[hk,Int.mul_ediv_cancel_left _ (by omega)]
 have e2:z.natAbs/g=k.natAbs:=by rw[hk,Int.natAbs_mul,KbN,Nat.mul_div_cancel_left _ hg]
 have e3:z<0↔k<0:=by
  rw[hk];constructor
  ·intro h;apply Decidable.byContradiction;intro h';have:=Int.mul_nonneg (show(0:Int)<=g by omega) (show 0<=k by omega);omega
  ·intro h;exact Int.mul_neg_of_pos_of_neg (by omega) h
 rw[e1,e2,decide_eq_decide.2 e3]
theorem WG(z:Int):PV.agg [.bool (decide (z<0)),PV.num z.natAbs,PV.nat [1]]=PV.rat (mkRat z 1):=by rw[<-Fw (by omega),Nat.gcd_one_right,Nat.div_one,Nat.div_one,PV.num,PV.num,ni]
theorem Je:PV.le (.agg [.bool false,.aa,PV.nat [1]]) (PV.rat 0):=by
 show PV.vr _ _;refine⟨rfl,?_,?_,trivial⟩
 ·show PV.jf .aa (PV.nat (aj 0));rw[ek];trivial
 ·show PV.jf (PV.nat [1]) (PV.nat (aj 1));rw[ni];exact tG _
theorem GH{z:Int}{D:Nat}(h:D=0∨z=0):mkRat z D=0:=by
 rcases h with h|h
 ·rw[h,Rat.mkRat_zero]
 ·rw[h,Rat.zero_mkRat]
def rs(q:Rat):Nat:=max (nl q.num.natAbs) (nl q.den)
theorem Fx(x y:Nat):nl (x/y)<=nl x:=eX (Kcg _ _)
theorem tV:nl 1=1:=by unfold nl;rw[ni];rfl
theorem BP(z:Int)(D:Nat):rs (mkRat z D)<=max (nl z.natAbs) (max (nl D) 1):=by
 by_cases hD:D=0
 ·rw[hD,Rat.mkRat_zero];show max (nl 0) (nl 1)<=_;rw[Jp,tV];omega
 ·obtain⟨h1,h2⟩:=wC (z:=z) hD;unfold rs;rw[h1,h2];have e:(z/(Nat.gcd z.natAbs D:Int)).natAbs<=z.natAbs:=by have Ea:(Nat.gcd z.natAbs D:Int)∣z:=Int.ofNat_dvd_left.2 (Kcq _ _);rw[Int.natAbs_ediv_of_dvd Ea];exact Kcg _ _
  have:=eX e;have:=Fx D (Nat.gcd z.natAbs D);omega
theorem s0(x y:Int):nl (x+y).natAbs<=max (nl x.natAbs) (nl y.natAbs)+1:=
 KaY (eX (Int.natAbs_add_le x y)) (Fg _ _)
theorem jP(x y:Int):nl (x*y).natAbs<=nl x.natAbs+nl y.natAbs:=by rw[Int.natAbs_mul];exact lK _ _
theorem Fy(q:Rat):1<=rs q:=by have:nl q.den≠0:=fun h=>q.den_nz (Bk.1 h);unfold rs;omega
theorem xx(a b:Rat):rs (a+b)<=rs a+rs b+1:=by
 have e:a+b=mkRat (a.num*b.den+b.num*a.den) (a.den*b.den):=by
  conv=>lhs;rw[<-Rat.mkRat_self a,<-Rat.mkRat_self b]
  exact Rat.mkRat_add_mkRat _ _ a.den_nz b.den_nz
 rw[e];have h1:=BP (a.num*b.den+b.num*a.den) (a.den*b.den);have h2:=s0 (a.num*b.den) (b.num*a.den);have h3:=jP a.num b.den;have h4:=jP b.num a.den;have h5:=lK a.den b.den;rw[KbN]at h3 h4;unfold rs at *
 omega
theorem Fz(a b:Rat):rs (a*b)<=rs a+rs b:=by
 have e:a*b=mkRat (a.num*b.num) (a.den*b.den):=by
  conv=>lhs;rw[<-Rat.mkRat_self a,<-Rat.mkRat_self b]
  exact Rat.mkRat_mul_mkRat _ _ _ _
 rw[e];have h1:=BP (a.num*b.num) (a.den*b.den);have h3:=jP a.num b.num;have h5:=lK a.den b.den;have:=Fy a;unfold rs at *
 omega
theorem Uh{n k:Nat}{a d:List Nat}{b:Bool}(ha:Qj a)(hd:Qj d)(h1:a.length<=k)(h2:d.length<=k)(hk:1<=k):rs (rv b a d)<=k:=by unfold rv;have h:=BP (zv b a) (val d);rw[jU]at h;have:=bP ha;have:=bP hd;omega
end Go.FW
namespace Go.FW
open Go
def ox(q:Rat):Int:=gA q.num
def pY(p q:Rat):Int:=if p<q then -1 else if q<p then 1 else 0
theorem AD{z:Int}{D:Nat}(hD:D≠0):∃g:Nat,0<g/\z=(mkRat z D).num*g/\D=(mkRat z D).den*g:=by
 obtain⟨h1,h2⟩:=wC (z:=z) hD;have hg:0<Nat.gcd z.natAbs D:=Nat.gcd_pos_of_pos_right _ (Ka8 hD);refine⟨_,hg,?_,?_⟩
 ·rw[h1,Int.ediv_mul_cancel (Int.ofNat_dvd_left.2 (Kcq _ _))]
 ·rw[h2,Nat.div_mul_cancel (Nat.gcd_dvd_right _ _)]
theorem L2{a:Int}{g:Nat}(hg:0<g):a*g<0↔a<0:=by
 constructor
 ·intro h;apply Decidable.byContradiction;intro h';have:=Int.mul_nonneg (show 0<=a by omega) (show(0:Int)<=g by omega);omega
 ·intro h;exact Int.mul_neg_of_neg_of_pos h (by omega)
theorem L3{a:Int}{g:Nat}(hg:0<g):0<a*g↔0<a:=by
 constructor
 ·intro h;apply Decidable.byContradiction;intro h';have:=Int.mul_nonneg (show 0<= -a by omega) (show(0:Int)<=g by omega);rw[Int.neg_mul]at this;omega
 ·intro h;exact Int.mul_pos h (by omega)
theorem Nx{z:Int}{D:Nat}(hD:D≠0):ox (mkRat z D)=gA z:=by
 obtain⟨g,hg,h1,_⟩:=AD (z:=z) hD;unfold ox;generalize(mkRat z D).num=x at *
 subst h1;unfold gA;have:=L2 (a:=x) hg;have:=L3 (a:=x) hg
 repeat' split
 all_goals omega
theorem IM{x y:Int}{d c:Nat}(hd:d≠0)(hc:c≠0):mkRat x d<mkRat y c↔x*c<y*d:=by
 obtain⟨g,hg,h1,h2⟩:=AD (z:=x) hd;obtain⟨k,hk,h3,h4⟩:=AD (z:=y) hc;rw[Rat.lt_iff];generalize(mkRat x d).num=p at *
 generalize(mkRat x d).den=p' at *
 generalize(mkRat y c).num=q at *
 generalize(mkRat y c).den=q' at *
 subst h1 h2 h3 h4;have e1:p*(g:Int)*((q'*k:Nat):Int)=(p*q')*((g*k:Nat):Int):=by push_cast;grind
 have e2:q*(k:Int)*((p'*g:Nat):Int)=(q*p')*((g*k:Nat):Int):=by push_cast;grind
 rw[e1,e2];have Kk:(0:Int)<((g*k:Nat):Int):=by exact_mod_cast Nat.mul_pos hg hk
 exact⟨fun h=>Int.mul_lt_mul_of_pos_right h Kk,fun h=>Int.lt_of_mul_lt_mul_right h (Int.le_of_lt Kk)⟩
theorem Rh{x y:Int}{d c:Nat}(hd:d≠0)(hc:c≠0):pY (mkRat x d) (mkRat y c)=dQ (x*c) (y*d):=by unfold pY dQ;simp only[IM hd hc,IM hc hd]
theorem O7{x:Int}:gA x=0↔x=0:=by unfold gA;(repeat' split)<;>omega
theorem iC{q:Rat}:ox q=0↔q=0:=by unfold ox;rw[O7,Rat.num_eq_zero]
theorem H3{p q:Rat}:pY p q=0↔p=q:=by
 unfold pY;constructor
 ·intro h;split at h
  ·omega
  ·split at h
   ·omega
   ·grind
 ·rintro rfl;rw[if_neg (by grind),if_neg (by grind)]
def lN(n:Bool)(a:List Nat):Bool:=if a=[]then !n else decide (a.getLast? ≠some 0)
def kO(n:Bool)(a d:List Nat):Bool:=lN n a&&(decide (d≠[]/\d.getLast? ≠some 0)&&decide (Nat.gcd (val a) (val d)=1))
theorem GI{a:List Nat}{k:Nat}(h:a.length=k+1):a.getLast? =some (a[k]'(by omega)):=by rw[Ka6,show a.length-1=k by omega];exact Kaf _
def eN(a:List Int)(i:Nat):Int:=a.getD i 0
theorem iI{a:List Int}{i:Nat}(h:i<a.length):eN a i=a[i]:=by simp[eN,Kad,h]
theorem gZ{a:List Int}{i:Nat}(h:a.length<=i):eN a i=0:=by simp[eN,Kad,List.getElem?_eq_none h]
theorem Ui(i:Nat):eN [] i=0:=by simp[eN]
def kg(l:List Int):Nat->List Int
 |0=>[]
 |n+1=>if l[n]? =some 0 then kg l n else l.take (n+1)
def nu(l:List Int):List Int:=kg l l.length
theorem GJ(l:List Int):∀n,(kg l n).length<=n
 |0=>by simp[kg]
 |n+1=>by
  rw[kg];split
  ·have:=GJ l n;omega
  ·simp;omega
theorem H4(l:List Int):∀n,n<=l.length->(kg l n).getLast? ≠some 0
 |0,_=>by simp[kg]
 | n+1,h=>by
  rw[kg];split
  ·exact H4 l n (by omega)
  ·rename_i hn;have:(l.take (n+1)).getLast? =l[n]? :=by rw[Ka6,Kau,KbH h];simp[KbY]
   rw[this];exact hn
theorem Jf(l:List Int)(i:Nat):∀n,n<=l.length->eN (kg l n) i=if i<n then eN l i else 0
 |0,_=>by simp[kg,eN]
 | n +1,h=>by
  rw[kg];split
  ·rename_i hn;rw[Jf l i n (by omega)];by_cases h1:i<n
   ·simp[h1,show i<n+1 by omega]
   ·rw[if_neg h1];split
    ·obtain rfl:i=n:=by omega
     simp[eN,Kad,hn]
    ·rfl
  ·simp only[eN,Kad,KbY];split<;>simp_all
theorem IN(l:List Int)(i:Nat):eN (nu l) i=eN l i:=by
 rw[nu,Jf l i _ (Kae _)];split
 ·rfl
 ·exact(gZ (by omega)).symm
theorem Hm(l:List Int):(nu l).getLast? ≠some 0:=H4 l _ (Kae _)
theorem AF(l:List Int):(nu l).length<=l.length:=GJ l _
theorem wV{a b:List Int}(ha:a.getLast? ≠some 0)(hb:b.getLast? ≠some 0)(h:∀i,eN a i=eN b i):a=b:=by
 have key:∀(a b:List Int),b.getLast? ≠some 0->(∀i,eN a i=eN b i)->¬a.length<b.length:=by intro a b hb h ak;have h1:=h (b.length-1);rw[gZ (by omega),iI (by omega)]at h1;apply hb;rw[Ka6,Kaf (by omega),<-h1]
 have h1:=key a b hb h;have h2:=key b a ha (fun i=>(h i).symm);refine List.ext_getElem (by omega) fun i h3 h4=>?_;have:=h i
 rwa[iI h3,iI h4]at this
theorem O8{a:List Int}(h:a.getLast? ≠some 0):nu a=a:=wV (Hm a) h (IN a)
def cZ(a b:List Int):Nat->Int
 |0=>0
 |n+1=>if eN a n=eN b n then cZ a b n else dQ (eN a n) (eN b n)
def bh(a b:List Int):Int:=cZ a b (max a.length b.length)
theorem Ri{x y:Int}:dQ x y=0↔x=y:=by unfold dQ;(repeat' split)<;>omega
theorem Jg{x y:Int}:dQ x y<0↔x<y:=by unfold dQ;(repeat' split)<;>omega
theorem O9(x y:Int):dQ y x= -dQ x y:=by unfold dQ;(repeat' split)<;>omega
theorem wD(a b:List Int):∀n,cZ a b n=0↔∀i,i<n->eN a i=eN b i
 |0=>by simp[cZ]
 | n+1=>by
  rw[cZ];split
  ·rename_i h;rw[wD a b n];exact⟨fun H i hi=>by
    by_cases h1:i=n
    ·subst h1;exact h
    ·exact H i (by omega),fun H i hi=>H i (by omega)⟩
  ·rename_i h;rw[Ri];exact⟨fun H=>absurd H h,fun H=>H n (by omega)⟩
theorem IP(a b:List Int):∀n,cZ b a n= -cZ a b n
 |0=>rfl
 |n+1=>by
  rw[cZ,cZ];by_cases h:eN a n=eN b n
  ·rw[if_pos h,if_pos h.symm,IP a b n]
  ·rw[if_neg h,if_neg (fun h'=>h h'.symm),O9]
theorem Hn{a b c:List Int}:∀n,cZ a b n<0->cZ b c n<0->cZ a c n<0
 |0=>by simp[cZ]
 | n+1=>by
  intro h1 h2;rw[cZ]at h1 h2⊢;split at h1<;>split at h2
  ·rename_i e1 e2;rw[if_pos (e1.trans e2)];exact Hn n h1 h2
  ·rename_i e1 e2;rw[e1,if_neg e2];exact h2
  ·rename_i e1 e2;rw[<-e2,if_neg e1];exact h1
  ·rename_i e1 e2;rw[Jg]at h1 h2;rw[if_neg (by omega),Jg];omega
theorem tz{a b:List Int}{m:Nat}(h:max a.length b.length<=m):cZ a b m=bh a b:=by
 obtain⟨k,rfl⟩:∃k,m=max a.length b.length+k:=⟨m-max a.length b.length,by omega⟩
 induction k with
 |zero=>rfl
 |succ k ih=>rw[<-Nat.add_assoc,cZ,if_pos (by rw[gZ (by omega),gZ (by omega)])];exact ih (by omega)
theorem BZ{a b:List Int}(ha:a.getLast? ≠some 0)(hb:b.getLast? ≠some 0):bh a b=0↔a=b:=by
 unfold bh;rw[wD];constructor
 ·intro h;refine wV ha hb fun i=>?_;by_cases hi:i<max a.length b.length
  ·exact h i hi
  ·rw[gZ (by omega),gZ (by omega)]
 ·rintro rfl i _;rfl
theorem Bt(a:List Int):bh a a=0:=by rw[bh,wD];intros;rfl
theorem tA(a b:List Int):bh b a= -bh a b:=by unfold bh;rw[Nat.max_comm,IP]
theorem L4{a b c:List Int}(h1:bh a b<0)(h2:bh b c<0):bh a c<0:=by
 have e:∀x y:List Int,x.length<=a.length+b.length+c.length->y.length<=a.length+b.length+c.length->bh x y=cZ x y (a.length+b.length+c.length):=fun x y hx hy=>(tz (by omega)).symm;rw[e _ _ (by omega) (by omega)]at *
 exact Hn _ h1 h2
theorem L5{a b c d:List Int}(h1:∀i,eN a i=eN c i)(h2:∀i,eN b i=eN d i):bh a b=bh c d:=by
 have key:∀n,cZ a b n=cZ c d n:=by
  intro n;induction n with
  |zero=>rfl
  |succ n ih=>rw[cZ,cZ,h1,h2,ih]
 rw[<-tz (m:=max (max a.length b.length) (max c.length d.length)) (by omega),key,tz (by omega)]
def gG(g:Int->Int->Int)(a b:List Int):List Int:=(List.range (max a.length b.length)).map fun i=>g (eN a i) (eN b i)
theorem lv(g:Int->Int->Int)(a b:List Int):(gG g a b).length=max a.length b.length:=by simp[gG]
theorem Jh{g:Int->Int->Int}(hg:g 0 0=0)(a b:List Int)(i:Nat):eN (gG g a b) i=g (eN a i) (eN b i):=by
 by_cases h:i<max a.length b.length
 ·rw[iI (by rw[lv];exact h)];simp[gG]
 ·rw[gZ (by rw[lv];omega),gZ (by omega),gZ (by omega),hg]
def cH(a b:List Int):List Int:=nu (gG (· + ·) a b)
theorem rE(a b:List Int)(i:Nat):eN (cH a b) i=eN a i+eN b i:=by rw[cH,IN,Jh (by simp)]
theorem tq(a b:List Int):(cH a b).getLast? ≠some 0:=Hm _
theorem tr(a b:List Int):cH a b=cH b a:=wV (tq _ _) (tq _ _) fun i=>by rw[rE,rE,Int.add_comm]
theorem IQ{a:List Int}(h:a.getLast? ≠some 0):cH a []=a:=wV (tq _ _) h fun i=>by rw[rE,Ui,Int.add_zero]
theorem O'(a b c:List Int):bh (cH a c) (cH b c)=bh a b:=by
 have key:∀n,cZ (cH a c) (cH b c) n=cZ a b n:=by
  intro n;induction n with
  |zero=>rfl
  |succ n ih=>
   rw[cZ,cZ,rE,rE,ih];by_cases h:eN a n=eN b n
   ·rw[if_pos h,if_pos (by omega)]
   ·rw[if_neg h,if_neg (by omega)];unfold dQ;(repeat' split)<;>omega
 rw[<-tz (m:=max (max (cH a c).length (cH b c).length) (max a.length b.length)) (by omega),key,tz (by omega)]
def hZ(a:List Int):Int:=a.sum
def ia(o:Int)(a b:List Int):Int:=if o=1/\hZ a≠hZ b then dQ (hZ a) (hZ b)else bh a b
structure MB(k:Nat)(a:List Int):Prop where
 len:a.length<=64
 lo:∀x∈a,0<=x
 hi:∀x∈a,x<=k
theorem MB.eN{k:Nat}{a:List Int}(h:MB k a)(i:Nat):0<=FW.eN a i/\FW.eN a i<=k:=by
 by_cases hi:i<a.length
 ·rw[iI hi];exact⟨h.lo _ (Kao _),h.hi _ (Kao _)⟩
 ·rw[gZ (by omega)];omega
theorem MB.mono{k k':Nat}{a:List Int}(h:MB k a)(hk:k<=k'):MB k' a:=⟨h.len,h.lo,fun x hx=>by have:=h.hi x hx;omega⟩
theorem MB.mul{k l:Nat}{a b:List Int}(h:MB k a)(g:MB l b):MB (k+l) (cH a b):=by
 have hl:(cH a b).length<=64:=by have:=AF (gG (· + ·) a b);rw[lv]at this;have:=h.len;have:=g.len;unfold cH;omega
 refine⟨hl,fun x hx=>?_,fun x hx=>?_⟩
 all_goals
  obtain⟨i,hi,rfl⟩:=KaZ hx;rw[<-iI hi,rE];have:=h.eN i;have:=g.eN i
  push_cast;omega
variable {C : Ctx} {fr : Fr} {hp : HP} {w : World} {K R : Qg}
theorem WH{α:Type}{f:α->PV}{e d:Nat}{xs:List α}{k k':IntKind}{n:Nat}(h5:n<=xs.length):
  fh e (.sl e (xs.map f)) none (some (.int k (n:Int))) (some (.int k' (n:Int))) d fr hp K=K (ae fr d (.sl e ((xs.take n).map f))) hp:=by
 simp[fh,eW,h5]
theorem Pa{α:Type}{a:List α}{k:Nat}(h:a.length=k+1):a.getLast? =some (a[k]'(by omega)):=by rw[Ka6,show a.length-1=k by omega];exact Kaf _
theorem XW{α:Type}{f:α->PV}{e by_ ty d:Nat}{xs:List α}(h0:0<e)(h1:xs.length*by_<=140737488355328)(h2:xs.length<=9223372036854775807):
  fl e by_ ty .aa (.sl e (xs.map f)) d fr hp K=K (ae (bI d fr) d (.ms d xs.length)) (Qi hp d ⟨e,ty,xs.map f,false⟩):=by
 have:=Bi (fr:=fr) (hp:=hp) (K:=K) (e:=e) (by_:=by_) (ty:=ty) (d:=d) (x:=.sl e (xs.map f)) (ys:=xs.map f) rfl h0 (by simpa using h1) (by simpa using h2);simpa using this
theorem jq{α:Type}{f:α->PV}{e by_ ty d β n:Nat}{xs ys:List α}(hb:hp β=some ⟨e,ty,xs.map f,false⟩)(hn:n=xs.length)(h0:0<e)(h1:(n+ys.length)*by_<=140737488355328)(h2:n+ys.length<=9223372036854775807)(hB:bg β=false:=by decide):
  fl e by_ ty (.ms β n) (.sl e (ys.map f)) d fr hp K=K (ae (bI β fr) d (.ms β (n+ys.length))) (Qi hp β ⟨e,ty,(xs++ys).map f,false⟩):=by
 rw[Bj (ys:=ys.map f) (xs:=xs.map f) rfl hb h0 (by simp[hn]) (by simpa using h1) (by simpa using h2) hB];rw[Kai (by simp[hn]),List.map_append,Ka1]
theorem dm{α:Type}{f:α->PV}{y:α}{e by_ ty ty' d β γ n:Nat}{xs:List α}{fz:Bool}(hb:hp β=some ⟨e,ty,xs.map f,false⟩)(hy:hp γ=some ⟨e,ty',[f y],fz⟩)(h0:0<e)(hn:n=xs.length)(h1:(n+1)*by_<=140737488355328)(h2:n+1<=9223372036854775807)(hB:bg β=false:=by decide):
  fl e by_ ty (.ms β n) (.ms γ 1) d fr hp K=K (ae (bI β fr) d (.ms β (n+1))) (Qi hp β ⟨e,ty,(xs++[y]).map f,false⟩):=by
 rw[BI hb hy h0 (by simp[hn]) h1 h2 hB];simp
abbrev PV.mono(a:List Int):PV:=.sl 1 (lT a)
theorem Ny{a:List Int}(h:a=[]):PV.le .aa (PV.mono a):=by subst h;trivial
theorem TH{by_ ty d:Nat}{k k':IntKind}{n c:Nat}(h2:n<=c)(h3:by_*c<=281474976710656)(h4:c<=9223372036854775807):
  jM 1 by_ ty (.int .i64 0) (.int k (n:Int)) (.int k' (c:Int)) d fr hp K=K (ae (bI d fr) d (.ms d n)) (Qi hp d ⟨1,ty,lT (List.replicate n 0),false⟩):=by
 rw[Fm (by omega) (by omega) (by omega) (by omega)];simp[lT]
theorem Jr(a b:Nat):max (a:Int) (b:Int)=((max a b:Nat):Int):=by omega
end Go.FW
namespace Go.FW
open Go
variable {C : Ctx} {fr : Fr} {hp : HP} {w : World} {K R : Qg}
theorem NA{α:Type}{done:List α}{i n:Nat}{v z:α}(h:done.length=i)(hn:0<n):(done++List.replicate n z).set i v=(done++[v])++List.replicate (n-1) z:=by
 obtain⟨m,rfl⟩:∃m,n=m+1:=⟨n-1,by omega⟩
 subst h;simp[Kbv]
theorem Bu{g:Int->Int->Int}{a b:List Int}{i:Nat}(h:i<max a.length b.length):(gG g a b).take (i+1)=(gG g a b).take i++[g (eN a i) (eN b i)]:=by rw[KaD (by rw[lv];exact h)];simp[gG]
end Go.FW
namespace Go.FW
open Go
abbrev Tm:=Rat×List Int
abbrev PV.term(t:Tm):PV:=.agg [.bool (decide (t.1.num<0)),PV.num t.1.num.natAbs,PV.num t.1.den,PV.mono t.2]
abbrev PV.aC(p:List Tm):PV:=.sl 4 (p.map PV.term)
abbrev PV.qU(l:List (List Tm)):PV:=.sl 1 (l.map PV.aC)
def Q2:List Tm->List Tm->List Tm
 | [],q=>q
 |p,[]=>p
 |(c,m)::p,(d,l)::q=>
  if 0<bh m l then(c,m)::Q2 p ((d,l)::q)
  else if bh m l<0 then(d,l)::Q2 ((c,m)::p) q
  else if c+d=0 then Q2 p q else(c+d,m)::Q2 p q
termination_by p q=>p.length+q.length
theorem jm(p:List Tm):Q2 p []=p:=by cases p<;>rw[Q2];simp
theorem pF(p:List Tm):Q2 [] p=p:=by rw[Q2]
structure TB(K E:Nat)(t:Tm):Prop where
 c:rs t.1+1<=K
 m:MB E t.2
 l:t.2.getLast? ≠some 0
def PB(K E:Nat)(p:List Tm):Prop:=∀t∈p,TB K E t
theorem TB.mono{K K' E E':Nat}{t:Tm}(h:TB K E t)(hK:K<=K')(hE:E<=E'):TB K' E' t:=⟨KaY h.c hK,h.m.mono hE,h.l⟩
theorem PB.mono{K K' E E':Nat}{p:List Tm}(h:PB K E p)(hK:K<=K')(hE:E<=E'):PB K' E' p:=fun t ht=>(h t ht).mono hK hE
theorem PB.nil(K E:Nat):PB K E []:=fun t ht=>by cases ht
theorem PB.cons{K E:Nat}{t:Tm}{p:List Tm}:PB K E (t::p)↔TB K E t/\PB K E p:=by simp[PB]
theorem PB.drop{K E:Nat}{p:List Tm}(h:PB K E p)(n:Nat):PB K E (p.drop n):=fun t ht=>h t (Kby ht)
theorem PB.take{K E:Nat}{p:List Tm}(h:PB K E p)(n:Nat):PB K E (p.take n):=fun t ht=>h t (Ka2 ht)
theorem PB.get{K E:Nat}{p:List Tm}(h:PB K E p){i:Nat}(hi:i<p.length):TB K E p[i]:=h _ (Kao hi)
theorem AK:∀(p q:List Tm),(Q2 p q).length<=p.length+q.length:=by
 intro p q;induction p,q using Q2.induct with
 |case1 q=>rw[Q2];simp
 |case2 p h=>rw[jm];simp
 |case3 c m p d l q h ih=>rw[Q2,if_pos h];simp at ih ⊢;omega
 |case4 c m p d l q h1 h2 ih=>rw[Q2,if_neg h1,if_pos h2];simp at ih ⊢;omega
 |case5 c m p d l q h1 h2 h3 ih=>rw[Q2,if_neg h1,if_neg h2,if_pos h3];simp at ih ⊢;omega
 |case6 c m p d l q h1 h2 h3 ih=>rw[Q2,if_neg h1,if_neg h2,if_neg h3];simp at ih ⊢;omega
theorem B1{K L E:Nat}:∀(p q:List Tm),PB K E p->PB L E q->PB (K+L) E (Q2 p q):=by
 intro p q;induction p,q using Q2.induct with
 |case1 q=>rw[Q2];exact fun _ h=>h.mono (by omega) (by omega)
 |case2 p h=>rw[jm];exact fun h _=>h.mono (by omega) (by omega)
 |case3 c m p d l q h ih=>intro hp hq;rw[Q2,if_pos h];rw[PB.cons]at hp⊢;exact⟨hp.1.mono (by omega) (by omega),ih hp.2 hq⟩
 |case4 c m p d l q h1 h2 ih=>intro hp hq;rw[Q2,if_neg h1,if_pos h2];rw[PB.cons]at hq⊢;exact⟨hq.1.mono (by omega) (by omega),ih hp hq.2⟩
 |case5 c m p d l q h1 h2 h3 ih=>intro hp hq;rw[Q2,if_neg h1,if_neg h2,if_pos h3];rw[PB.cons]at hp hq;exact ih hp.2 hq.2
 |case6 c m p d l q h1 h2 h3 ih=>intro hp hq;rw[Q2,if_neg h1,if_neg h2,if_neg h3];rw[PB.cons]at hp hq⊢;refine⟨⟨?_,hp.1.m,hp.1.l⟩,ih hp.2 hq.2⟩;have:=xx c d;have:=hp.1.c;have:=hq.1.c;simp only at *;omega
def dp(l:List (List Tm)):List Tm:=
 match l with
 | []=>[]
 | [p]=>p
 |p::q::r=>Q2 (dp ((p::q::r).take ((p::q::r).length/2))) (dp ((p::q::r).drop ((p::q::r).length/2)))
termination_by l.length
decreasing_by
 all_goals simp[Kau,KaX];omega
theorem tt{l:List (List Tm)}(h:2<=l.length):dp l=Q2 (dp (l.take (l.length/2))) (dp (l.drop (l.length/2))):=by
 match l,h with
 |p::q::r,_=>rw[dp]
def nB(l:List (List Tm)):Nat:=(l.map List.length).sum
theorem Ho(l:List (List Tm))(n:Nat):nB (l.take n)+nB (l.drop n)=nB l:=by unfold nB;rw[<-List.sum_append,<-List.map_append,Kbh]
theorem Bl{K E:Nat}:∀(n:Nat)(l:List (List Tm)),l.length<=n->(∀p∈l,PB K E p)->PB (l.length*K) E (dp l)/\(dp l).length<=nB l:=by
 intro n;induction n with
 |zero=>intro l hl _;have:l=[]:=Kas.1 (by omega);subst this;rw[dp];exact⟨PB.nil _ _,by simp⟩
 | succ n ih=>
  intro l hl h
  match l,h with
  | [],_=>rw[dp];exact⟨PB.nil _ _,by simp⟩
  | [p],h=>rw[dp];exact⟨by simpa using h p (by simp),by simp[nB]⟩
  | p::q::r,h=>
   rw[tt (by simp)];generalize hL:p::q::r=L at *
   have hlen:2<=L.length:=by rw[<-hL];simp
   obtain⟨a1,a2⟩:=ih (L.take (L.length/2)) (by rw[Kau];omega) (fun x hx=>h x (Ka2 hx));obtain⟨b1,b2⟩:=ih (L.drop (L.length/2)) (by rw[KaX];omega) (fun x hx=>h x (Kby hx));have hs:=Ho L (L.length/2);constructor
   ·have e:(L.take (L.length/2)).length*K+(L.drop (L.length/2)).length*K=L.length*K:=by rw[<-Nat.add_mul,Kau,KaX];congr 1;omega
    rw[<-e];exact B1 _ _ a1 b1
   ·have:=AK (dp (L.take (L.length/2))) (dp (L.drop (L.length/2)));omega
def aZ(p:List Tm)(t:Tm):List Tm:=p.filterMap fun x=>if x.1*t.1=0 then none else some (x.1*t.1,cH x.2 t.2)
theorem pj(p:List Tm)(t:Tm):(aZ p t).length<=p.length:=List.length_filterMap_le _ _
theorem rk{K L E F:Nat}{p:List Tm}{t:Tm}(hp:PB K E p)(ht:TB L F t):PB (K+L) (E+F) (aZ p t):=by
 intro x hx;simp only[aZ,KbZ]at hx;obtain⟨y,hy,h⟩:=hx;split at h
 ·cases h
 ·cases h;have g:=hp y hy;refine⟨?_,g.m.mul ht.m,tq _ _⟩;have:=Fz y.1 t.1;have:=g.c;have:=ht.c;simp only;omega
def mI(p q:List Tm):List Tm:=dp (p.map (aZ q))
def bU(p q:List Tm):List Tm:=if q.length<p.length then mI q p else mI p q
theorem AB(p q:List Tm):nB (p.map (aZ q))<=p.length*q.length:=by
 unfold nB;induction p with
 |nil=>simp
 |cons t p ih=>have:=pj q t;simp only[Ka3,Kcu,KaW,Kax,Nat.one_mul];omega
theorem GK{K L E F:Nat}{p q:List Tm}(hp:PB K E p)(hq:PB L F q):PB (p.length*(K+L)) (E+F) (mI p q)/\(mI p q).length<=p.length*q.length:=by obtain⟨h1,h2⟩:=Bl (K:=K+L) (E:=E+F) _ (p.map (aZ q)) (Kae _) (fun x hx=>by obtain⟨t,ht,rfl⟩:=KaM.1 hx;exact(rk hq (hp t ht)).mono (by omega) (by omega));rw[Ka1]at h1;exact⟨h1,KaY h2 (AB p q)⟩
theorem L6{K L E F:Nat}{p q:List Tm}(hp:PB K E p)(hq:PB L F q):PB (min p.length q.length*(K+L)) (E+F) (bU p q)/\(bU p q).length<=p.length*q.length:=by
 unfold bU;split
 ·rename_i h;obtain⟨h1,h2⟩:=GK hq hp;rw[Kcr (by omega),KbM K,KbM E,KaP p.length];exact⟨h1,h2⟩
 ·rename_i h;obtain⟨h1,h2⟩:=GK hp hq;rw[KbH (by omega)];exact⟨h1,h2⟩
theorem tu(x y:Tm)(p q:List Tm):Q2 (x::p) (y::q)=if 0<bh x.2 y.2 then x::Q2 p (y::q)else if bh x.2 y.2<0 then y::Q2 (x::p) q else if x.1+y.1=0 then Q2 p q else(x.1+y.1,x.2)::Q2 p q:=by obtain⟨c,m⟩:=x;obtain⟨d,l⟩:=y;rw[Q2]
theorem H5{p q:List Tm}{i k:Nat}(hi:i<p.length)(hk:k<q.length):Q2 (p.drop i) (q.drop k)=if 0<bh p[i].2 q[k].2 then p[i]::Q2 (p.drop (i+1)) (q.drop k)else if bh p[i].2 q[k].2<0 then q[k]::Q2 (p.drop i) (q.drop (k+1))else if p[i].1+q[k].1=0 then Q2 (p.drop (i+1)) (q.drop (k+1))else(p[i].1+q[k].1,p[i].2)::Q2 (p.drop (i+1)) (q.drop (k+1)):=by rw[Kar hi,Kar hk,tu]
theorem Fp(a b:List Int):ia 0 a b=bh a b:=by simp[ia]
theorem Bm{a b:List Int}(h1:¬0<bh a b)(h2:¬bh a b<0)(ha:a.getLast? ≠some 0)(hb:b.getLast? ≠some 0):a=b:=(BZ ha hb).1 (by omega)
theorem Bv{p:List Tm}(h:p=[]):PV.le .aa (PV.aC p):=by subst h;trivial
section
variable {C : Ctx} {fr : Fr} {hp : HP} {w : World} {K R : Qg}
theorem Pb{e by_ ty d:Nat}{z:PV}{k k':IntKind}{Cc:Int}(h0:0<e)(hz:z.cells.length=e)(h2:0<=Cc)(h3:by_*Cc<=281474976710656)(h4:Cc<=9223372036854775807):
  jM e by_ ty z (.int k 0) (.int k' Cc) d fr hp K=K (ae (bI d fr) d (.ms d 0)) (Qi hp d ⟨e,ty,[],false⟩):=xA h0 hz (by omega) h2 h3 h4
end
end Go.FW
namespace Go.FW
open Go
def er(p:List Tm)(a:Rat):List Tm:=if a=0 then []else aZ p (a,[])
def gH(p:List Tm):List Tm:=er p (-1)
def b6(p q:List Tm):List Tm:=Q2 p (gH q)
def kK(a:Rat):List Tm:=if a=0 then []else [(a,[])]
def oD(v:Nat):List Int:=List.replicate v 0++[1]
def bV(v:Int):List Tm:=if v<0∨64<=v then []else [(1,oD v.toNat)]
theorem TB.num{a:Rat}{K E:Nat}(h:rs a+1<=K):TB K E (a,[]):=⟨h,⟨by simp,by simp,by simp⟩,by simp⟩
theorem H6{p:List Tm}{a:Rat}{K E L:Nat}(hp:PB K E p)(ha:rs a+1<=L):PB (K+L) E (er p a):=by
 unfold er;split
 ·exact PB.nil _ _
 ·exact(rk (F:=0) hp (TB.num ha)).mono (by omega) (by omega)
theorem AE(p:List Tm)(a:Rat):(er p a).length<=p.length:=by
 unfold er;split
 ·simp
 ·exact pj _ _
theorem xD:rs (-1)<=1:=by have:rs (-1)=max (nl 1) (nl 1):=rfl;rw[this,tV];omega
theorem Lr:rs 1<=1:=by have:rs 1=max (nl 1) (nl 1):=rfl;rw[this,tV];omega
theorem Js{p:List Tm}{K E:Nat}(hp:PB K E p):PB (K+2) E (gH p):=H6 hp (by have:=xD;omega)
def lQ(s t:Tm):Int:=if bh s.2 t.2≠0 then bh s.2 t.2 else pY s.1 t.1
def ib:List Tm->List Tm->Int
 | [],[]=>0
 | [],_::_=> -1
 |_::_,[]=>1
 |s::p,t::q=>if lQ s t≠0 then lQ s t else ib p q
theorem Rj{s t:Tm}(hs:s.2.getLast? ≠some 0)(ht:t.2.getLast? ≠some 0):lQ s t=0↔s=t:=by
 unfold lQ;constructor
 ·intro h;split at h
  ·omega
  ·rename_i h1;have e1:=(BZ hs ht).1 (Decidable.not_not.1 h1);exact Prod.ext (H3.1 h) e1
 ·rintro rfl;rw[if_neg (by simp[Bt]),H3.2 rfl]
theorem Jt:∀ {p q:List Tm},(∀t∈p,t.2.getLast? ≠some 0)->(∀t∈q,t.2.getLast? ≠some 0)->(ib p q=0↔p=q)
 | [],[],_,_=>by simp[ib]
 | [],_::_,_,_=>by simp[ib]
 |_::_,[],_,_=>by simp[ib]
 | s::p,t::q,hp,hq=>by
  rw[ib];have h1:=Rj (hp s (by simp)) (hq t (by simp));have h2:=Jt (p:=p) (q:=q) (fun x hx=>hp x (by simp[hx])) (fun x hx=>hq x (by simp[hx]));split
  ·rename_i h;simp only[Kb7];exact⟨fun h'=>absurd h' h,fun h'=>absurd (h1.2 h'.1) h⟩
  ·rename_i h;rw[h2,Kb7,<-h1];exact⟨fun h'=>⟨Decidable.not_not.1 h,h'⟩,fun h'=>h'.2⟩
theorem M9{p q:List Tm}{i:Nat}(hi:i<p.length)(hk:i<q.length):ib (p.drop i) (q.drop i)=if lQ p[i] q[i]≠0 then lQ p[i] q[i]else ib (p.drop (i+1)) (q.drop (i+1)):=by rw[Kar hi,Kar hk,ib]
theorem wW{q:List Tm}:ib [] q=if q.length=0 then 0 else -1:=by cases q<;>simp[ib]
theorem PB.last{K E:Nat}{p:List Tm}(h:PB K E p):∀t∈p,t.2.getLast? ≠some 0:=fun t ht=>(h t ht).l
theorem Ju{E:Nat}{a:List Int}(h:MB E a):0<=hZ a/\hZ a<=64*E:=by
 have key:∀(l:List Int),(∀x∈l,0<=x)->(∀x∈l,x<=E)->0<=l.sum/\l.sum<=l.length*E:=by
  intro l;induction l with
  |nil=>simp
  |cons x l ih=>
   intro h1 h2;obtain⟨a1,a2⟩:=ih (fun y hy=>h1 y (by simp[hy])) (fun y hy=>h2 y (by simp[hy]));have b1:=h1 x (by simp);have b2:=h2 x (by simp);rw[Kcu,KaW]
   push_cast
   rw[Int.add_mul];omega
 obtain⟨h1,h2⟩:=key a h.lo h.hi;refine⟨h1,Int.le_trans h2 (Int.mul_le_mul_of_nonneg_right ?_ (by omega))⟩;have:=h.len;omega
structure YV where
 n:Bool
 a:List Nat
 d:List Nat
 m:List Int
def gE:List Tm->Prop
 | []=>True
 |s::p=>(∀t∈p,0<bh s.2 t.2)/\gE p
theorem s3{a b c:List Int}(h1:0<bh a b)(h2:0<bh b c):0<bh a c:=by have e1:=tA a b;have e2:=tA b c;have e3:=tA a c;have:=L4 (a:=c) (b:=b) (c:=a) (by omega) (by omega);omega
variable {C : Ctx} {ρ : Nat -> Option Nat} {fr : Fr} {hp : HP} {w : World} {K R : Qg}
theorem lG(s:Nat)(hd:(Qy hp (fr s)).ax=true):Wk fr hp (ae fr s (Qy hp (fr s))) (FW.bq hp (fr s).refs):=by
 rintro C tmps w ⟨ρ,hs⟩;have hf:=hs.freeze (fr s).refs;refine⟨ρ,hf.sz,hf.ext,hf.dE,hf.own,hf.inj,fun i=>?_⟩;unfold ae;split
 ·rename_i hi;subst hi;exact Qh.iy (my hs (hs.ch i) (fun β h=>h) hd)
 ·exact hf.ch i
def pQ(W:List (Nat×Nat))(F:Fr)(I:Nat->Fr->HP->Prop)(n:Nat):Qg:=fun aq hp'=>∃J bc m,Wk aq hp' (ba W J F) bc/\m<n/\I m J bc
theorem Pc{W:List (Nat×Nat)}{F:Fr}{I:Nat->Fr->HP->Prop}{n:Nat}:KM (pQ W F I n) (pQ W F I n):=by rintro f f' hp hf ⟨J,bc,m,h1,h2,h3⟩;exact⟨J,bc,m,hf.wk.trans h1,h2,h3⟩
theorem Q7{sk:List It}{W:List (Nat×Nat)}{F:Fr}{I:Nat->Fr->HP->Prop}{n:Nat}(h:dI R sk):dI R (.el (pQ W F I n)::sk):=⟨h.1,.el Pc h.2⟩
theorem By{W:List (Nat×Nat)}{F J:Fr}{I:Nat->Fr->HP->Prop}{n:Nat}(m:Nat)(hl:m<n)(h:I m J hp):pQ W F I n (ba W J F) hp:=⟨J,hp,m,Wk.refl _ _,hl,h⟩
theorem Hp{W:List (Nat×Nat)}{F J:Fr}{I:Nat->Fr->HP->Prop}{n:Nat}(s m:Nat)(hs:iw W s=true)(hd:(Qy hp (J s)).ax=true)(hl:m<n)(h:I m (ae J s (Qy hp (J s))) (FW.bq hp (J s).refs)):pQ W F I n (ba W J F) hp:=by
 have e:ba W J F s=J s:=by rw[Fv,if_pos hs]
 have hw:=lG (fr:=ba W J F) (hp:=hp) s (by rw[e];exact hd);rw[e,Jb hs]at hw;exact⟨_,_,m,hw,hl,h⟩
theorem IS{sk:List It}{x:SC}(bQ:dI R sk)(W:List (Nat×Nat))(B:List Nat)(I:Nat->Fr->HP->Prop)(m0:Nat)(h0:I m0 fr hp)
  (h:∀m J hp,I m J hp->vc C R (.c x:: .el (pQ W (bX B fr) I m)::sk) (ba W J (bX B fr)) hp):vc C R (.c (.loop x)::sk) fr hp:=by
 refine tl (fun m aq hp'=>∃J,aq=ba W J (bX B fr)/\I m J hp') m0 (BO W B).wk ⟨fr,rfl,h0⟩ ?_;rintro m _ hp' ⟨J,rfl,hI⟩;refine pJ bQ.1 _ _ _ _ _ _ (Kae _) (.c x (.el ?_ bQ.2)) (bC.refl _) (h m J hp' hI);rintro f f' bc hf ⟨J2,kv,m2,e2,hl,h2⟩;exact BH hl (hf.wk.trans e2) ⟨J2,rfl,h2⟩
abbrev dg(a:List Nat)(i:Nat):Nat:=a.getD i 0
theorem pR{a:List Nat}(h:Qj a)(i:Nat):dg a i<65536:=by
 by_cases hi:i<a.length
 ·rw[dg,et hi];exact cY h hi
 ·rw[dg,eu hi];omega
theorem rm(a:List Nat)(i:Nat):val (a.drop i)=dg a i+65536*val (a.drop (i+1)):=by
 by_cases hi:i<a.length
 ·rw[iD hi,dg,et hi]
 ·rw[dg,eu hi,Kak (by omega),Kak (by omega)];rfl
theorem Bn(a:List Nat)(i:Nat):val a=val (a.take i)+65536^i*val (a.drop i):=by
 by_cases hi:i<=a.length
 ·exact lB a i hi
 ·rw[Kai (by omega),Kak (by omega)];simp[val]
theorem XO{a:List Nat}(h:Qj a)(i:Nat):val (a.take i)<65536^i:=by
 by_cases hi:i<=a.length
 ·exact n7 h i hi
 ·rw[Kai (by omega)];exact Ka7 (kJ h) (KaV (by omega) (by omega))
theorem Gf(a:List Nat)(i:Nat):val (a.take (i+1))=val (a.take i)+65536^i*dg a i:=by
 by_cases hi:i<a.length
 ·rw[sZ hi,dg,et hi]
 ·rw[dg,eu hi,Kai (by omega),Kai (by omega)];simp
theorem GL{a b:List Nat}(ha:Qj a){i:Nat}(h:val (a.drop i)<val (b.drop i)):val a<val b:=by rw[Bn a i,Bn b i];have h1:=XO ha i;have:65536^i*(val (a.drop i)+1)<=65536^i*val (b.drop i):=Kbk _ h;rw[KaL]at this;omega
theorem Jv{l:List Nat}{j v:Nat}(h:j<l.length):val (l.set j v)+65536^j*l[j]=val l+65536^j*v:=by have e:l.set j v=l.take j++v::l.drop (j+1):=List.set_eq_take_append_cons_drop.trans (by rw[if_pos h]);have e2:=lB l j (by omega);rw[iD h]at e2;rw[e,jk,Kau,KbH (by omega),val,e2,KaL,KaL];omega
theorem wX(l:List Nat)(x:Nat):val (l++[x])=val l+65536^l.length*x:=by rw[jk];simp[val]
theorem L7{l:List Nat}{j:Nat}(h:val (l.drop j)=0):dg l j=0:=by have:=rm l j;omega
theorem TI{bt:Bool}{n d:Nat}:bF .rem bt (.int .u64 (n:Int)) (.int .u64 65536) d fr hp K=K (ae fr d (.int .u64 ((n%65536:Nat):Int))) hp:=by rw[show(65536:Int)=((65536:Nat):Int)from rfl,mB (by omega)]
theorem TJ{bt:Bool}{n d:Nat}(h:n<18446744073709551616):bF .quo bt (.int .u64 (n:Int)) (.int .u64 65536) d fr hp K=K (ae fr d (.int .u64 ((n/65536:Nat):Int))) hp:=by rw[show(65536:Int)=((65536:Nat):Int)from rfl,tP (by omega) h]
theorem Rk{bt:Bool}{n d:Nat}:bF .rem bt (.int .i64 (n:Int)) (.int .i64 65536) d fr hp K=K (ae fr d (.int .i64 ((n%65536:Nat):Int))) hp:=by rw[show(65536:Int)=((65536:Nat):Int)from rfl,mB (by omega)]
theorem Rl{bt:Bool}{n d:Nat}(h:n<9223372036854775808):bF .quo bt (.int .i64 (n:Int)) (.int .i64 65536) d fr hp K=K (ae fr d (.int .i64 ((n/65536:Nat):Int))) hp:=by rw[show(65536:Int)=((65536:Nat):Int)from rfl,Cj (by omega) h]
theorem TK(n:Nat):(n:Int)*65536=((n*65536:Nat):Int):=by omega
end Go.FW
namespace Go.FW
theorem Hy{P x y V ai c q r M S T:Nat}(h1:S+P*x=M+P*r)(h2:M+P*(c+ai*(y+65536*V))=T)(h3:65536*q+r=x+ai*y+c):S+P*65536*(q+ai*V)=T:=by
 have e:P*(65536*q+r)=P*(x+ai*y+c):=by rw[h3]
 have a1:P*(c+ai*(y+65536*V))=P*c+P*(ai*y)+65536*(P*(ai*V)):=by rw[KaL ai,KaL,KaL,Kbt ai 65536,Kbt P 65536];omega
 have a2:P*65536*(q+ai*V)=65536*(P*q)+65536*(P*(ai*V)):=by rw[KaP P,Ka4,KaL,KaL]
 have a3:P*(65536*q+r)=65536*(P*q)+P*r:=by rw[KaL,Kbt]
 have a4:P*(x+ai*y+c)=P*x+P*(ai*y)+P*c:=by rw[KaL,KaL]
 omega
theorem Hz{l:List Nat}{i j v:Nat}(h:i≠j):dg (l.set i v) j=dg l j:=by simp[dg,Kad,List.getElem?_set_ne h]
open Go
variable {C : Ctx} {ρ : Nat -> Option Nat} {fr : Fr} {hp : HP} {w : World} {K R : Qg}
theorem Hq{x V d q:Nat}(hd:0<d)(h:q=V/d):(V%d*65536+x)/d+65536*q=(x+65536*V)/d/\(V%d*65536+x)%d=(x+65536*V)%d:=by
 subst h;have e:x+65536*V=(V%d*65536+x)+d*(65536*(V/d)):=by
  have:=Ka9 V d
  calc x+65536*V=x+65536*(d*(V/d)+V%d):=by rw[this]
   _=_:=by rw[KaL,Kbt];omega
 rw[e,Kb4 _ _ hd,Kb2];exact⟨rfl,rfl⟩
theorem Rm(i e:Nat)(hi:fr i= .aa):Wk fr hp (ae fr i (.sl e [])) hp:=by
 rintro C tmps w ⟨ρ,hs⟩;refine⟨ρ,hs.sz,hs.ext,hs.dE,hs.own,hs.inj,fun j=>?_⟩;unfold ae;split
 ·rename_i hj;subst hj;have:=hs.ch j;rw[hi]at this;rw[Qh.qT this];exact Qo.gB _ _ _ (KbE _)
 ·exact hs.ch j
theorem tR{sk:List It}{x:SC}(i e:Nat)(hi:fr i= .aa)(h:vc C R (.c (.loop x)::sk) (ae fr i (.sl e [])) hp):vc C R (.c (.loop x)::sk) fr hp:=by rw[ri]at h⊢;obtain⟨I,μ,⟨aY,au,h1,gi⟩,h2⟩:=h;exact⟨I,μ,⟨aY,au,(Rm i e hi).trans h1,gi⟩,h2⟩
end Go.FW
namespace Go.FW
open Go Go.ChangeShapes Go.WideShapes
section
variable {H : Type} {enc : TypeId × Value -> H} {P : Program} {w : World} {base : Nat} {spare : Nat -> Bool} {held : Bool}
structure vI(bW:DataW H->Nat):Prop where
 len:∀(elems spare:List (DataW H)),elems.length<=bW (.slice elems spare)
 sl:∀(elems spare:List (DataW H))(d:DataW H),d∈elems->bW d<=bW (.slice elems spare)
 ag:∀(parts:List (DataW H))(d:DataW H),d∈parts->bW d<=bW (.agg parts)
def fM(enc:TypeId×Value->H)(P:Program)(bW:DataW H->Nat)(N:Nat)(t:TypeId)(Q:List PV->Prop):Prop:=
 ∀(w:World)(base:Nat)(spare:Nat->Bool)(held:Bool)(fuel:Nat)(cs:List Value)(x:DataW H×List MemPlace),DataW.trod enc P w base spare held fuel t cs=some x->bW x.1<=N->
  ∃ps,Q ps/\ps.length=cs.length/\∀(i:Nat)(p:PV),ps[i]? =some p->Qo w bO p (cs.getD i undef)
variable {bW : DataW H -> Nat} {N : Nat}
theorem tB{w:World}{p:PV}{v:Value}(h:Qo w bO p v):∀(i:Nat)(q:PV),[p][i]? =some q->Qo w bO q ([v].getD i undef):=by
 intro i q hq
 match i,hq with
 |0,hq=>simp at hq;subst hq;exact h
 |i+1,hq=>simp at hq
theorem fM.mono{t:TypeId}{Q Q':List PV->Prop}(h:fM enc P bW N t Q)(hQ:∀ps,Q ps->Q' ps):fM enc P bW N t Q':=
 fun w base spare held fuel cs x hx hn=>let⟨ps,h1,h2,h3⟩:=h w base spare held fuel cs x hx hn;⟨ps,hQ ps h1,h2,h3⟩
theorem HA{t:TypeId}{k:IntKind}(ht:P.underlying t=some (.int k)):fM enc P bW N t fun ps=>∃n,ps=[.int k n]/\(Lit.int k n).wf=true:=by intro w base spare held fuel cs x hx _;obtain⟨n,rfl,rfl,hw⟩:=DataW.trod_int ht hx;exact⟨_,⟨n,rfl,hw⟩,rfl,tB (.int k n)⟩
theorem L8{t:TypeId}(ht:P.underlying t=some .bool):fM enc P bW N t fun ps=>∃b,ps=[.bool b]:=by intro w base spare held fuel cs x hx _;obtain⟨b,rfl,rfl⟩:=DataW.trod_bool ht hx;exact⟨_,⟨b,rfl⟩,rfl,tB (.bool b)⟩
theorem M'{t:TypeId}(ht:P.underlying t=some (.int .u16)):fM enc P bW N t fun ps=>∃n:Nat,ps=[.int .u16 n]/\n<65536:=by refine(HA ht).mono ?_;rintro ps ⟨n,rfl,hw⟩;simp[Lit.wf,IntKind.min,IntKind.max,IntKind.signed,IntKind.bits]at hw;obtain⟨m,rfl⟩:=Int.eq_ofNat_of_zero_le hw.1;exact⟨m,rfl,by omega⟩
theorem wE{t:TypeId}(ht:P.underlying t=some (.int .i64)):fM enc P bW N t fun ps=>∃n:Int,ps=[.int .i64 n]/\ -9223372036854775808<=n/\n<=9223372036854775807:=by refine(HA ht).mono ?_;rintro ps ⟨n,rfl,hw⟩;simp[Lit.wf,IntKind.min,IntKind.max,IntKind.signed,IntKind.bits]at hw;exact⟨n,rfl,by omega⟩
theorem wc{α:Type}[Inhabited α]{f:α->PV}{G:α->Prop}{t e:TypeId}(hB:vI bW)(ht:P.underlying t=some (.slice e))(mT:0<P.cellsOf e)
  (he:fM enc P bW N e fun ps=>∃a:α,ps=(f a).cells/\G a):fM enc P bW N t fun ps=>∃l:List α,ps=[.sl (P.cellsOf e) (l.map f)]/\l.length<=N/\∀a∈l,G a:=by
 intro w base spare held fuel cs x hx hn;rcases Deep.open_slice ht hx with⟨rfl,rfl⟩|⟨a,len,cap,m,n,D,Pl,rfl,_,hl,hm,hmm,rfl,dJ⟩
 ·exact⟨_,⟨[],rfl,KbE _,fun _ h=>by cases h⟩,rfl,tB (.gB _ none 0 (KbE _))⟩
 have Ek:len<=m:=by rw[hmm];split<;>omega
 obtain⟨A,hA⟩:=Deep.choose_lt (α:=α×List Value) (n:=len) (p:=fun i y=>w.cells? base (a.add (i*P.cellsOf e)) (P.cellsOf e)=some y.2/\G y.1/\(f y.1).cells.length=y.2.length/\∀(j:Nat)(p:PV),(f y.1).cells[j]? =some p->Qo w bO p (y.2.getD j undef)) (fun i hi=>by obtain⟨cs',h1,h2⟩:=dJ i (by omega);have hd:D i∈(List.range len).map D:=Kca (List.mem_range.2 hi);obtain⟨_,⟨b,rfl,hG⟩,h3,h4⟩:=he w base spare held n cs' _ h2 (KaY (hB.sl _ _ _ hd) hn);exact⟨(b,cs'),h1,hG,h3,h4⟩);have hlen:=hB.len ((List.range len).map D) ((List.range (m-len)).map fun j=>D (len+j));simp only[Ka1,List.length_range]at hlen hn;refine⟨_,⟨(List.range len).map fun i=>(A i).1,rfl,by simp;omega,fun b hb=>?_⟩,rfl,tB ?_⟩
 ·obtain⟨i,hi,rfl⟩:=KaM.1 hb;exact(hA i (List.mem_range.1 hi)).2.1
 ·rcases Nat.eq_zero_or_pos len with rfl|hp
  ·exact .gB _ _ _ hm
  have sp:a.spot=none:=by obtain⟨_,h2,h3⟩:=World.cells?_some (hA 0 hp).1;have h4:=h3 0 mT;rw[Kaf (by omega)]at h4;simpa[Addr.add]using World.cell?_spot h4
  obtain⟨b,off,spot⟩:=a;have sp':spot=none:=sp;subst sp';have lY:∀i,i<len->∀j,j<P.cellsOf e->w.cell? ⟨b,off+i*P.cellsOf e+j,none⟩=some ((A i).2.getD j undef):=fun i hi j hj=>by obtain⟨_,h2,h3⟩:=World.cells?_some (hA i hi).1;have h4:=h3 j hj;rw[Kaf (by omega),add_plain,add_plain]at h4;rw[h4];simp[Kad,Kaf (show j<(A i).2.length by omega)]
  have e1:((List.range len).map fun i=>(A i).1).map f=(List.range len).map fun i=>f (A i).1:=by simp
  have e2:((List.range len).map fun i=>f (A i).1).length=len:=by simp
  have get:∀(i:Nat)(x:PV),((List.range len).map fun i=>f (A i).1)[i]? =some x->i<len/\x=f (A i).1:=fun i x hx=>by obtain⟨hi,h⟩:=Kac.1 hx;rw[e2]at hi;exact⟨hi,by simpa using h.symm⟩
  rw[e1];have:=Qo.sl (w:=w) (X:=bO) (P.cellsOf e) ((List.range len).map fun i=>f (A i).1) b off cap (fun i j=>(A i).2.getD j undef) (fun h=>h) (YM (lY 0 hp 0 mT)) (by rw[e2];exact hl) hm
   (fun i x hx=>by obtain⟨hi,rfl⟩:=get i x hx;rw[(hA i hi).2.2.1];exact(World.cells?_some (hA i hi).1).2.1)
   (fun i hi j hj=>lY i (by rwa[e2]at hi) j hj)
   (fun i x hx j y hy=>by obtain⟨hi,rfl⟩:=get i x hx;exact(hA i hi).2.2.2 j y hy)
  rwa[e2]at this
theorem Gj{t:TypeId}{f0 f1:Field}{Q0 Q1:List PV->Prop}(hB:vI bW)(ht:P.underlying t=some (.struct #[f0,f1]))(h0:f0.offset=0)(h1:f1.offset=P.cellsOf f0.type)(hc:P.cellsOf t=P.cellsOf f0.type+P.cellsOf f1.type)
  (r0:fM enc P bW N f0.type Q0) (r1:fM enc P bW N f1.type Q1):fM enc P bW N t fun ps=>∃p q,ps=p++q/\Q0 p/\Q1 q:=by
 intro w base spare held fuel cs x hx hn;obtain⟨y0,y1,n,rfl,hl,g0,g1⟩:=trod_struct2 ht hx;obtain⟨p,hp,bc,kv⟩:=r0 _ _ _ _ _ _ _ g0 (KaY (hB.ag _ _ (by simp)) hn);obtain⟨q,hq,lg,yz⟩:=r1 _ _ _ _ _ _ _ g1 (KaY (hB.ag _ _ (by simp)) hn);rw[h0]at bc kv;rw[h1]at lg yz;simp only[Kbp,Kau,KaX]at bc lg;have lp:p.length=P.cellsOf f0.type:=by omega
 have lq:q.length=P.cellsOf f1.type:=by omega
 refine⟨_,⟨p,q,rfl,hp,hq⟩,by rw[KaG];omega,fun i v hv=>?_⟩;by_cases hi:i<p.length
 ·rw[KbK hi]at hv;have:=kv i v hv;rw[Kbp,Kad,KbY,if_pos (by omega)]at this;rw[Kad];exact this
 ·rw[Kba (by omega)]at hv;have:=yz _ v hv;have kq:i-p.length<q.length:=(Kac.1 hv).1;rw[Kad,KbY,if_pos (by omega),KaO,show P.cellsOf f0.type+(i-p.length)=i by omega]at this;rw[Kad];exact this
theorem Rn{r:Reach}{b0:Nat}{t:TypeId}{v:Value}{d:DataW H}{ps:List MemPlace}{Q:List PV->Prop}(hr:fM enc P bW N t Q)(hd:DataW.Trod enc P w base spare held t v d ps)(hn:bW d<=N)
  (hv:v.cells= #[v]):∃p,Q [p]/\aV w bO p v:=by
 obtain⟨fuel,hf⟩:=hd;obtain⟨qs,h1,h2,h3⟩:=hr _ _ _ _ _ _ _ hf hn;rw[hv]at h2 h3
 match qs,h2 with
 | [p],_=>exact⟨p,h1,aV.mr (by simpa using h3 0 p rfl)⟩
theorem Ro{r:Reach}{b0:Nat}{t:TypeId}{k:IntKind}{v:Value}{d:DataW H}{ps:List MemPlace}{Q:List PV->Prop}(ht:P.underlying t=some (.int k))(dz:Value.okWide P w r b0 t v)(hr:fM enc P bW N t Q)(hd:DataW.Trod enc P w base spare held t v d ps)(hn:bW d<=N):
  ∃p,Q [p]/\aV w bO p v:=by
 obtain⟨n,rfl⟩:=okWide_int ht dz;exact Rn (r:=r) (b0:=b0) hr hd hn rfl
theorem L9{r:Reach}{b0:Nat}{t:TypeId}{fs:Array Field}{v:Value}{d:DataW H}{ps:List MemPlace}{Q:List PV->Prop}(ht:P.underlying t=some (.struct fs))(dz:Value.okWide P w r b0 t v)(hr:fM enc P bW N t Q)(hd:DataW.Trod enc P w base spare held t v d ps)(hn:bW d<=N):
  ∃p,Q p/\aV w bO (.agg p) v:=by
 obtain⟨vs,rfl,_⟩:=okWide_struct ht dz;obtain⟨fuel,hf⟩:=hd;obtain⟨qs,h1,h2,h3⟩:=hr _ _ _ _ _ _ _ hf hn;refine⟨qs,h1,vs,rfl,by simpa[Value.cells]using h2.symm,fun i x hx=>?_⟩;have:=h3 i x hx;simpa[Value.cells,Kad,KaA]using this
theorem Ext.sameAt{W W':World}(h:Ext bO W W'){p:MemPlace}(hp:p.block<W.heap.size):W.sameAt W' p:=by
 cases p with
 |cell b off=>exact ph (h.block b hp (fun h=>h))
 |map b=>exact h.block b hp (fun h=>h)
theorem Ext.keptBut{W W':World}(h:Ext bO W W')(may:MemPlace->Prop):W.keptBut W' may:=by
 refine⟨h.os,h.output,fun i hi=>?_⟩;rw[h.block i hi (fun h=>h)];cases hh:W.heap[i]? with
 |none=>rfl
 |some o=>cases o with
  |cells c t fr=>exact⟨rfl,rfl,rfl,fun _ _=>rfl⟩
  |map es clock=>exact Or.inr ⟨rfl,rfl⟩
  |_=>rfl
theorem Ext.frozen{W W':World}(h:Ext bO W W'){a:Addr}(ha:a.block<W.heap.size):W'.frozen? a=W.frozen? a:=by unfold World.frozen?;rw[h.block _ ha (fun h=>h)]
theorem HC(hl:laidOutB P=true)(hm:mapsRowed P=true)(dL:∀ {t e:TypeId},t<P.types.size->P.underlying t=some (.slice e)->0<P.cellsOf e){W W':World}(hx:Ext bO W W')(sp:Nat->Bool):
  ∀ {ts:List TypeId} {vs:List Value} {ds:List (DataW H)} {ps:List MemPlace},(∀t∈ts,t<P.types.size)->DataW.TrodAll enc P W 0 (fun _=>true) true ts vs ds ps->(∀p∈ps,sp p.block=true)->DataW.TrodAll enc P W' 0 sp true ts vs ds ps
 | [],_,_,_,_,h,_=>by obtain⟨rfl,rfl,rfl⟩:=trodAll_nil h;rfl
 |t::ts,_,_,_,ir,h,hs=>by obtain⟨v,vs,d,ds,p,q,rfl,rfl,rfl,⟨fuel,h1⟩,h2⟩:=trodAll_cons h;refine⟨p,q,⟨fuel,?_⟩,HC hl hm dL hx sp (fun t ht=>ir t (by simp[ht])) h2 (fun x aG=>hs x (by simp[aG])),rfl⟩;exact DataW.trod_stays (kids_rows hl hm) dL (fun h=>by cases h) (ir t (by simp)) h1 (fun x aG=>hx.sameAt (DataW.trod_lt _ _ _ _ h1 x aG)) (fun x aG=>hs x (by simp[aG]))
theorem XP{f:FuncId}{fn:Func}{s:ChangeSpec}{ap fresh handsOn rS:Bool}{W:World}{args:Array Value}{ds gs:List (DataW H)}{before:List MemPlace}{aM:List PV}{tb:TypeId}
  (hW:DataW.Whole enc P fn.params.toList s.vars ap W args.toList ds gs before) (vh:s.vars=[]) (ej:fn.resultTypes= #[tb]) (K0:P.underlying tb=some .bool)
  (hl:laidOutB P=true) (hm:mapsRowed P=true) (dL:∀ {t e:TypeId},t<P.types.size->P.underlying t=some (.slice e)->0<P.cellsOf e) (yy:∀t∈fn.params.toList,t<P.types.size)
  (uO:s.fn H (ds++gs)={ results:=[.lit (.bool true)],args:=ds })
  (hF:Qd P f aM (· = .bool true)) (Ey:args.size=aM.length) (ed:∀(i:Nat)(x:PV),aM[i]? =some x->aV W bO x (args.getD i undef)):
  Calls P f args W fun e W'=>∃v,e= .returned v/\s.post enc P fn ap fresh handsOn rS W args v W':=by
 refine(hF.2 W bO args (fun _ h=>h.elim) Ey ed).mono ?_;rintro e W' ⟨v,r,rfl,hx,hr,rfl⟩;have hv:v= .bool true:=by cases hr;rfl
 subst hv;refine⟨_,rfl,?_⟩;have uG:=hW;obtain⟨p,q,hA,hV,rfl,hz,hn⟩:=hW;rw[vh]at hV;obtain⟨rfl,rfl⟩:=trodVars_none hV;simp only[Kan]at uG hz hn;have ak:∀x∈p,x.block<W.heap.size:=fun x aG=>by simpa using uG.lt x aG
 have JX:∀sp:Nat->Bool,(∀x∈p,sp x.block=true)->DataW.TrodAll enc P W' 0 sp true fn.params.toList args.toList ds p:=fun sp hs=>HC hl hm dL hx sp yy hA hs;have hR:∀(b:Nat)(sp:Nat->Bool)(hd:Bool),DataW.TrodAll enc P W' b sp hd fn.resultTypes.toList ((Value.bool true).resultList fn.resultTypes.size) [.lit (.bool true)] []:=fun b sp hd=>by rw[ej];exact trodAll_mk1 ⟨1,by simp[DataW.trod,Value.cells,K0]⟩
 have hold:∀x∈p,(fun b=>decide (b<W.heap.size)) x.block=true:=fun x aG=>by simpa using ak x aG
 refine⟨ds,[],p,[],p,[],uG,?_,?_,?_,hx.keptBut _,fun _=>⟨?_,?_⟩⟩
 ·rw[uO];exact hR _ _ _
 ·rw[uO];simpa using JX _ hold
 ·rw[uO,vh];rfl
 ·exact RowKit.ok_one ej rfl (RowKit.okWide_bool_mk K0 _)
 ·refine⟨[.lit (.bool true)]++ds,[],p,⟨[]++p,[],trodAll_append (JX _ (fun _ _=>rfl)) (hR _ _ _),?_,by simp,?_,?_⟩,?_⟩
  ·rw[vh];rfl
  ·intro b off hp;rw[hx.frozen (ak _ hp)];exact hz b off hp
  ·exact hn
  ·intro x aG _;exact aG
end
end Go.FW
namespace Go.FW
open Go
attribute [go_sem ↓] vcs ab2
attribute [go_sem] ab3 ab4 ab5 ab6 Ub OB OC Ud Ue Uf Ug OD OE WD WE LZ OF QG YY YZ Za Zd Nw L1 List.drop_succ_cons List.drop_zero List.take_succ_cons List.take_zero List.headD_cons List.cons_append List.nil_append Nv ZB ZA O6 QH Rg and_true List.length_cons List.length_nil TR TS TT B0 QO M7 P9 Ow Ox Oy OA P' TL TM OQ QB QC VL TN TO TP Fh TQ Tb Ze Zj Td QS QT QU Te Nat.add_zero Gt M8 HT Int.toNat_natCast Nat.zero_add Option.map_some Option.map_none Wy TY WC true_and Fv OY Np Xq jS Nq wS QD Bool.and_true Bool.true_and Bool.and_false Bool.false_and decide_true decide_false List.contains_cons List.contains_nil Bool.or_false Bool.false_or Bool.or_true Bool.true_or List.any_cons List.any_nil Bool.false_eq_true bN.dst pE OG nd wQ QL Bool.not_true Bool.not_false List.length_map List.map_cons List.map_nil WA Option.some.injEq fO List.getElem?_cons_zero List.getElem?_cons_succ Option.getD_some
attribute [go_sem] TI TJ Rk Rl TK Pb WH XW TH Jr
theorem Dz0{p:Prop}(h:p:=by first|omega|rfl|(simp+decide only[go_sem]<;>rfl)|fail):p:=h
theorem Dz1{p A0:Prop}(x0:A0)(h:A0->p:=by intro x0;first|omega|rfl|(simp+decide only[go_sem,x0]<;>rfl)|fail):p:=h x0
theorem Dz2{p A0 A1:Prop}(x0:A0)(x1:A1)(h:A0->A1->p:=by intro x0 x1;first|omega|rfl|(simp+decide only[go_sem,x0,x1]<;>rfl)|fail):p:=h x0 x1
theorem Dz3{p A0 A1 A2:Prop}(x0:A0)(x1:A1)(x2:A2)(h:A0->A1->A2->p:=by intro x0 x1 x2;first|omega|rfl|(simp+decide only[go_sem,x0,x1,x2]<;>rfl)|fail):p:=h x0 x1 x2
theorem Dz4{p A0 A1 A2 A3:Prop}(x0:A0)(x1:A1)(x2:A2)(x3:A3)(h:A0->A1->A2->A3->p:=by intro x0 x1 x2 x3;first|omega|rfl|(simp+decide only[go_sem,x0,x1,x2,x3]<;>rfl)|fail):p:=h x0 x1 x2 x3
theorem Dz5{p A0 A1 A2 A3 A4:Prop}(x0:A0)(x1:A1)(x2:A2)(x3:A3)(x4:A4)(h:A0->A1->A2->A3->A4->p:=by intro x0 x1 x2 x3 x4;first|omega|rfl|(simp+decide only[go_sem,x0,x1,x2,x3,x4]<;>rfl)|fail):p:=h x0 x1 x2 x3 x4
theorem Dz6{p A0 A1 A2 A3 A4 A5:Prop}(x0:A0)(x1:A1)(x2:A2)(x3:A3)(x4:A4)(x5:A5)(h:A0->A1->A2->A3->A4->A5->p:=by intro x0 x1 x2 x3 x4 x5;first|omega|rfl|(simp+decide only[go_sem,x0,x1,x2,x3,x4,x5]<;>rfl)|fail):p:=h x0 x1 x2 x3 x4 x5
theorem Dz7{p A0 A1 A2 A3 A4 A5 A6:Prop}(x0:A0)(x1:A1)(x2:A2)(x3:A3)(x4:A4)(x5:A5)(x6:A6)(h:A0->A1->A2->A3->A4->A5->A6->p:=by intro x0 x1 x2 x3 x4 x5 x6;first|omega|rfl|(simp+decide only[go_sem,x0,x1,x2,x3,x4,x5,x6]<;>rfl)|fail):p:=h x0 x1 x2 x3 x4 x5 x6
theorem Dz8{p A0 A1 A2 A3 A4 A5 A6 A7:Prop}(x0:A0)(x1:A1)(x2:A2)(x3:A3)(x4:A4)(x5:A5)(x6:A6)(x7:A7)(h:A0->A1->A2->A3->A4->A5->A6->A7->p:=by intro x0 x1 x2 x3 x4 x5 x6 x7;first|omega|rfl|(simp+decide only[go_sem,x0,x1,x2,x3,x4,x5,x6,x7]<;>rfl)|fail):p:=h x0 x1 x2 x3 x4 x5 x6 x7
theorem Dz9{p A0 A1 A2 A3 A4 A5 A6 A7 A8:Prop}(x0:A0)(x1:A1)(x2:A2)(x3:A3)(x4:A4)(x5:A5)(x6:A6)(x7:A7)(x8:A8)(h:A0->A1->A2->A3->A4->A5->A6->A7->A8->p:=by intro x0 x1 x2 x3 x4 x5 x6 x7 x8;first|omega|rfl|(simp+decide only[go_sem,x0,x1,x2,x3,x4,x5,x6,x7,x8]<;>rfl)|fail):p:=h x0 x1 x2 x3 x4 x5 x6 x7 x8
theorem Dz10{p A0 A1 A2 A3 A4 A5 A6 A7 A8 A9:Prop}(x0:A0)(x1:A1)(x2:A2)(x3:A3)(x4:A4)(x5:A5)(x6:A6)(x7:A7)(x8:A8)(x9:A9)(h:A0->A1->A2->A3->A4->A5->A6->A7->A8->A9->p:=by intro x0 x1 x2 x3 x4 x5 x6 x7 x8 x9;first|omega|rfl|(simp+decide only[go_sem,x0,x1,x2,x3,x4,x5,x6,x7,x8,x9]<;>rfl)|fail):p:=h x0 x1 x2 x3 x4 x5 x6 x7 x8 x9
theorem Dz11{p A0 A1 A2 A3 A4 A5 A6 A7 A8 A9 de:Prop}(x0:A0)(x1:A1)(x2:A2)(x3:A3)(x4:A4)(x5:A5)(x6:A6)(x7:A7)(x8:A8)(x9:A9)(bT:de)(h:A0->A1->A2->A3->A4->A5->A6->A7->A8->A9->de->p:=by intro x0 x1 x2 x3 x4 x5 x6 x7 x8 x9 bT;first|omega|rfl|(simp+decide only[go_sem,x0,x1,x2,x3,x4,x5,x6,x7,x8,x9,bT]<;>rfl)|fail):p:=h x0 x1 x2 x3 x4 x5 x6 x7 x8 x9 bT
theorem Dz12{p A0 A1 A2 A3 A4 A5 A6 A7 A8 A9 de eL:Prop}(x0:A0)(x1:A1)(x2:A2)(x3:A3)(x4:A4)(x5:A5)(x6:A6)(x7:A7)(x8:A8)(x9:A9)(bT:de)(cP:eL)(h:A0->A1->A2->A3->A4->A5->A6->A7->A8->A9->de->eL->p:=by intro x0 x1 x2 x3 x4 x5 x6 x7 x8 x9 bT cP;first|omega|rfl|(simp+decide only[go_sem,x0,x1,x2,x3,x4,x5,x6,x7,x8,x9,bT,cP]<;>rfl)|fail):p:=h x0 x1 x2 x3 x4 x5 x6 x7 x8 x9 bT cP
theorem Dz13{p A0 A1 A2 A3 A4 A5 A6 A7 A8 A9 de eL gC:Prop}(x0:A0)(x1:A1)(x2:A2)(x3:A3)(x4:A4)(x5:A5)(x6:A6)(x7:A7)(x8:A8)(x9:A9)(bT:de)(cP:eL)(ee:gC)(h:A0->A1->A2->A3->A4->A5->A6->A7->A8->A9->de->eL->gC->p:=by intro x0 x1 x2 x3 x4 x5 x6 x7 x8 x9 bT cP ee;first|omega|rfl|(simp+decide only[go_sem,x0,x1,x2,x3,x4,x5,x6,x7,x8,x9,bT,cP,ee]<;>rfl)|fail):p:=h x0 x1 x2 x3 x4 x5 x6 x7 x8 x9 bT cP ee
theorem Dz14{p A0 A1 A2 A3 A4 A5 A6 A7 A8 A9 de eL gC n4:Prop}(x0:A0)(x1:A1)(x2:A2)(x3:A3)(x4:A4)(x5:A5)(x6:A6)(x7:A7)(x8:A8)(x9:A9)(bT:de)(cP:eL)(ee:gC)(kG:n4)(h:A0->A1->A2->A3->A4->A5->A6->A7->A8->A9->de->eL->gC->n4->p:=by intro x0 x1 x2 x3 x4 x5 x6 x7 x8 x9 bT cP ee kG;first|omega|rfl|(simp+decide only[go_sem,x0,x1,x2,x3,x4,x5,x6,x7,x8,x9,bT,cP,ee,kG]<;>rfl)|fail):p:=h x0 x1 x2 x3 x4 x5 x6 x7 x8 x9 bT cP ee kG
theorem Sz0{p q:Prop}(h:q)(e:p=q:=by conv=>lhs;simp+decide (disch:=try exact Dz0) only[go_sem]):p:=e▸h
theorem Tz0{p:Prop}(h:p:=by simp+decide (disch:=try exact Dz0) only[go_sem]):p:=h
theorem bA{p:Prop}(h:p:=by simp+decide (disch:=try exact Dz0) only[go_sem]<;>rfl):p:=h
theorem Sz1{p q A0:Prop}(x0:A0)(h:q)(e:A0->p=q:=by intro x0;conv=>lhs;simp+decide (disch:=try exact Dz1 @x0) only[go_sem,x0]):p:=(e x0)▸h
theorem Tz1{p A0:Prop}(x0:A0)(h:A0->p:=by intro x0;simp+decide (disch:=try exact Dz1 @x0) only[go_sem,x0]):p:=h x0
theorem jz{p A0:Prop}(x0:A0)(h:A0->p:=by intro x0;simp+decide (disch:=try exact Dz1 @x0) only[go_sem,x0]<;>rfl):p:=h x0
theorem Sz2{p q A0 A1:Prop}(x0:A0)(x1:A1)(h:q)(e:A0->A1->p=q:=by intro x0 x1;conv=>lhs;simp+decide (disch:=try exact Dz2 @x0 @x1) only[go_sem,x0,x1]):p:=(e x0 x1)▸h
theorem Tz2{p A0 A1:Prop}(x0:A0)(x1:A1)(h:A0->A1->p:=by intro x0 x1;simp+decide (disch:=try exact Dz2 @x0 @x1) only[go_sem,x0,x1]):p:=h x0 x1
theorem Sz3{p q A0 A1 A2:Prop}(x0:A0)(x1:A1)(x2:A2)(h:q)(e:A0->A1->A2->p=q:=by intro x0 x1 x2;conv=>lhs;simp+decide (disch:=try exact Dz3 @x0 @x1 @x2) only[go_sem,x0,x1,x2]):p:=(e x0 x1 x2)▸h
theorem Tz3{p A0 A1 A2:Prop}(x0:A0)(x1:A1)(x2:A2)(h:A0->A1->A2->p:=by intro x0 x1 x2;simp+decide (disch:=try exact Dz3 @x0 @x1 @x2) only[go_sem,x0,x1,x2]):p:=h x0 x1 x2
theorem Sz4{p q A0 A1 A2 A3:Prop}(x0:A0)(x1:A1)(x2:A2)(x3:A3)(h:q)(e:A0->A1->A2->A3->p=q:=by intro x0 x1 x2 x3;conv=>lhs;simp+decide (disch:=try exact Dz4 @x0 @x1 @x2 @x3) only[go_sem,x0,x1,x2,x3]):p:=(e x0 x1 x2 x3)▸h
theorem Tz4{p A0 A1 A2 A3:Prop}(x0:A0)(x1:A1)(x2:A2)(x3:A3)(h:A0->A1->A2->A3->p:=by intro x0 x1 x2 x3;simp+decide (disch:=try exact Dz4 @x0 @x1 @x2 @x3) only[go_sem,x0,x1,x2,x3]):p:=h x0 x1 x2 x3
theorem Sz5{p q A0 A1 A2 A3 A4:Prop}(x0:A0)(x1:A1)(x2:A2)(x3:A3)(x4:A4)(h:q)(e:A0->A1->A2->A3->A4->p=q:=by intro x0 x1 x2 x3 x4;conv=>lhs;simp+decide (disch:=try exact Dz5 @x0 @x1 @x2 @x3 @x4) only[go_sem,x0,x1,x2,x3,x4]):p:=(e x0 x1 x2 x3 x4)▸h
theorem Tz5{p A0 A1 A2 A3 A4:Prop}(x0:A0)(x1:A1)(x2:A2)(x3:A3)(x4:A4)(h:A0->A1->A2->A3->A4->p:=by intro x0 x1 x2 x3 x4;simp+decide (disch:=try exact Dz5 @x0 @x1 @x2 @x3 @x4) only[go_sem,x0,x1,x2,x3,x4]):p:=h x0 x1 x2 x3 x4
theorem Sz6{p q A0 A1 A2 A3 A4 A5:Prop}(x0:A0)(x1:A1)(x2:A2)(x3:A3)(x4:A4)(x5:A5)(h:q)(e:A0->A1->A2->A3->A4->A5->p=q:=by intro x0 x1 x2 x3 x4 x5;conv=>lhs;simp+decide (disch:=try exact Dz6 @x0 @x1 @x2 @x3 @x4 @x5) only[go_sem,x0,x1,x2,x3,x4,x5]):p:=(e x0 x1 x2 x3 x4 x5)▸h
theorem Sz7{p q A0 A1 A2 A3 A4 A5 A6:Prop}(x0:A0)(x1:A1)(x2:A2)(x3:A3)(x4:A4)(x5:A5)(x6:A6)(h:q)(e:A0->A1->A2->A3->A4->A5->A6->p=q:=by intro x0 x1 x2 x3 x4 x5 x6;conv=>lhs;simp+decide (disch:=try exact Dz7 @x0 @x1 @x2 @x3 @x4 @x5 @x6) only[go_sem,x0,x1,x2,x3,x4,x5,x6]):p:=(e x0 x1 x2 x3 x4 x5 x6)▸h
theorem Tz7{p A0 A1 A2 A3 A4 A5 A6:Prop}(x0:A0)(x1:A1)(x2:A2)(x3:A3)(x4:A4)(x5:A5)(x6:A6)(h:A0->A1->A2->A3->A4->A5->A6->p:=by intro x0 x1 x2 x3 x4 x5 x6;simp+decide (disch:=try exact Dz7 @x0 @x1 @x2 @x3 @x4 @x5 @x6) only[go_sem,x0,x1,x2,x3,x4,x5,x6]):p:=h x0 x1 x2 x3 x4 x5 x6
theorem Sz8{p q A0 A1 A2 A3 A4 A5 A6 A7:Prop}(x0:A0)(x1:A1)(x2:A2)(x3:A3)(x4:A4)(x5:A5)(x6:A6)(x7:A7)(h:q)(e:A0->A1->A2->A3->A4->A5->A6->A7->p=q:=by intro x0 x1 x2 x3 x4 x5 x6 x7;conv=>lhs;simp+decide (disch:=try exact Dz8 @x0 @x1 @x2 @x3 @x4 @x5 @x6 @x7) only[go_sem,x0,x1,x2,x3,x4,x5,x6,x7]):p:=(e x0 x1 x2 x3 x4 x5 x6 x7)▸h
theorem Sz9{p q A0 A1 A2 A3 A4 A5 A6 A7 A8:Prop}(x0:A0)(x1:A1)(x2:A2)(x3:A3)(x4:A4)(x5:A5)(x6:A6)(x7:A7)(x8:A8)(h:q)(e:A0->A1->A2->A3->A4->A5->A6->A7->A8->p=q:=by intro x0 x1 x2 x3 x4 x5 x6 x7 x8;conv=>lhs;simp+decide (disch:=try exact Dz9 @x0 @x1 @x2 @x3 @x4 @x5 @x6 @x7 @x8) only[go_sem,x0,x1,x2,x3,x4,x5,x6,x7,x8]):p:=(e x0 x1 x2 x3 x4 x5 x6 x7 x8)▸h
theorem uu{p q A0 A1 A2 A3 A4 A5 A6 A7 A8 A9:Prop}(x0:A0)(x1:A1)(x2:A2)(x3:A3)(x4:A4)(x5:A5)(x6:A6)(x7:A7)(x8:A8)(x9:A9)(h:q)(e:A0->A1->A2->A3->A4->A5->A6->A7->A8->A9->p=q:=by intro x0 x1 x2 x3 x4 x5 x6 x7 x8 x9;conv=>lhs;simp+decide (disch:=try exact Dz10 @x0 @x1 @x2 @x3 @x4 @x5 @x6 @x7 @x8 @x9) only[go_sem,x0,x1,x2,x3,x4,x5,x6,x7,x8,x9]):p:=(e x0 x1 x2 x3 x4 x5 x6 x7 x8 x9)▸h
theorem Tz10{p A0 A1 A2 A3 A4 A5 A6 A7 A8 A9:Prop}(x0:A0)(x1:A1)(x2:A2)(x3:A3)(x4:A4)(x5:A5)(x6:A6)(x7:A7)(x8:A8)(x9:A9)(h:A0->A1->A2->A3->A4->A5->A6->A7->A8->A9->p:=by intro x0 x1 x2 x3 x4 x5 x6 x7 x8 x9;simp+decide (disch:=try exact Dz10 @x0 @x1 @x2 @x3 @x4 @x5 @x6 @x7 @x8 @x9) only[go_sem,x0,x1,x2,x3,x4,x5,x6,x7,x8,x9]):p:=h x0 x1 x2 x3 x4 x5 x6 x7 x8 x9
theorem vJ{p q A0 A1 A2 A3 A4 A5 A6 A7 A8 A9 de:Prop}(x0:A0)(x1:A1)(x2:A2)(x3:A3)(x4:A4)(x5:A5)(x6:A6)(x7:A7)(x8:A8)(x9:A9)(bT:de)(h:q)(e:A0->A1->A2->A3->A4->A5->A6->A7->A8->A9->de->p=q:=by intro x0 x1 x2 x3 x4 x5 x6 x7 x8 x9 bT;conv=>lhs;simp+decide (disch:=try exact Dz11 @x0 @x1 @x2 @x3 @x4 @x5 @x6 @x7 @x8 @x9 @bT) only[go_sem,x0,x1,x2,x3,x4,x5,x6,x7,x8,x9,bT]):p:=(e x0 x1 x2 x3 x4 x5 x6 x7 x8 x9 bT)▸h
theorem Tz11{p A0 A1 A2 A3 A4 A5 A6 A7 A8 A9 de:Prop}(x0:A0)(x1:A1)(x2:A2)(x3:A3)(x4:A4)(x5:A5)(x6:A6)(x7:A7)(x8:A8)(x9:A9)(bT:de)(h:A0->A1->A2->A3->A4->A5->A6->A7->A8->A9->de->p:=by intro x0 x1 x2 x3 x4 x5 x6 x7 x8 x9 bT;simp+decide (disch:=try exact Dz11 @x0 @x1 @x2 @x3 @x4 @x5 @x6 @x7 @x8 @x9 @bT) only[go_sem,x0,x1,x2,x3,x4,x5,x6,x7,x8,x9,bT]):p:=h x0 x1 x2 x3 x4 x5 x6 x7 x8 x9 bT
theorem pZ{p q A0 A1 A2 A3 A4 A5 A6 A7 A8 A9 de eL:Prop}(x0:A0)(x1:A1)(x2:A2)(x3:A3)(x4:A4)(x5:A5)(x6:A6)(x7:A7)(x8:A8)(x9:A9)(bT:de)(cP:eL)(h:q)(e:A0->A1->A2->A3->A4->A5->A6->A7->A8->A9->de->eL->p=q:=by intro x0 x1 x2 x3 x4 x5 x6 x7 x8 x9 bT cP;conv=>lhs;simp+decide (disch:=try exact Dz12 @x0 @x1 @x2 @x3 @x4 @x5 @x6 @x7 @x8 @x9 @bT @cP) only[go_sem,x0,x1,x2,x3,x4,x5,x6,x7,x8,x9,bT,cP]):p:=(e x0 x1 x2 x3 x4 x5 x6 x7 x8 x9 bT cP)▸h
theorem zt{p q A0 A1 A2 A3 A4 A5 A6 A7 A8 A9 de eL gC:Prop}(x0:A0)(x1:A1)(x2:A2)(x3:A3)(x4:A4)(x5:A5)(x6:A6)(x7:A7)(x8:A8)(x9:A9)(bT:de)(cP:eL)(ee:gC)(h:q)(e:A0->A1->A2->A3->A4->A5->A6->A7->A8->A9->de->eL->gC->p=q:=by intro x0 x1 x2 x3 x4 x5 x6 x7 x8 x9 bT cP ee;conv=>lhs;simp+decide (disch:=try exact Dz13 @x0 @x1 @x2 @x3 @x4 @x5 @x6 @x7 @x8 @x9 @bT @cP @ee) only[go_sem,x0,x1,x2,x3,x4,x5,x6,x7,x8,x9,bT,cP,ee]):p:=(e x0 x1 x2 x3 x4 x5 x6 x7 x8 x9 bT cP ee)▸h
theorem Tz13{p A0 A1 A2 A3 A4 A5 A6 A7 A8 A9 de eL gC:Prop}(x0:A0)(x1:A1)(x2:A2)(x3:A3)(x4:A4)(x5:A5)(x6:A6)(x7:A7)(x8:A8)(x9:A9)(bT:de)(cP:eL)(ee:gC)(h:A0->A1->A2->A3->A4->A5->A6->A7->A8->A9->de->eL->gC->p:=by intro x0 x1 x2 x3 x4 x5 x6 x7 x8 x9 bT cP ee;simp+decide (disch:=try exact Dz13 @x0 @x1 @x2 @x3 @x4 @x5 @x6 @x7 @x8 @x9 @bT @cP @ee) only[go_sem,x0,x1,x2,x3,x4,x5,x6,x7,x8,x9,bT,cP,ee]):p:=h x0 x1 x2 x3 x4 x5 x6 x7 x8 x9 bT cP ee
theorem Sz14{p q A0 A1 A2 A3 A4 A5 A6 A7 A8 A9 de eL gC n4:Prop}(x0:A0)(x1:A1)(x2:A2)(x3:A3)(x4:A4)(x5:A5)(x6:A6)(x7:A7)(x8:A8)(x9:A9)(bT:de)(cP:eL)(ee:gC)(kG:n4)(h:q)(e:A0->A1->A2->A3->A4->A5->A6->A7->A8->A9->de->eL->gC->n4->p=q:=by intro x0 x1 x2 x3 x4 x5 x6 x7 x8 x9 bT cP ee kG;conv=>lhs;simp+decide (disch:=try exact Dz14 @x0 @x1 @x2 @x3 @x4 @x5 @x6 @x7 @x8 @x9 @bT @cP @ee @kG) only[go_sem,x0,x1,x2,x3,x4,x5,x6,x7,x8,x9,bT,cP,ee,kG]):p:=(e x0 x1 x2 x3 x4 x5 x6 x7 x8 x9 bT cP ee kG)▸h
theorem Tz14{p A0 A1 A2 A3 A4 A5 A6 A7 A8 A9 de eL gC n4:Prop}(x0:A0)(x1:A1)(x2:A2)(x3:A3)(x4:A4)(x5:A5)(x6:A6)(x7:A7)(x8:A8)(x9:A9)(bT:de)(cP:eL)(ee:gC)(kG:n4)(h:A0->A1->A2->A3->A4->A5->A6->A7->A8->A9->de->eL->gC->n4->p:=by intro x0 x1 x2 x3 x4 x5 x6 x7 x8 x9 bT cP ee kG;simp+decide (disch:=try exact Dz14 @x0 @x1 @x2 @x3 @x4 @x5 @x6 @x7 @x8 @x9 @bT @cP @ee @kG) only[go_sem,x0,x1,x2,x3,x4,x5,x6,x7,x8,x9,bT,cP,ee,kG]):p:=h x0 x1 x2 x3 x4 x5 x6 x7 x8 x9 bT cP ee kG
theorem Ez0{p:Prop}(h:p:=by first|omega|rfl|(simp+decide only[go_sem,eG,Kaw,KaF,Kay,KaI,Kan]<;>rfl)|fail):p:=h
theorem Ez1{p A0:Prop}(x0:A0)(h:A0->p:=by intro x0;first|omega|rfl|(simp+decide only[go_sem,eG,Kaw,KaF,Kay,KaI,Kan,x0]<;>rfl)|fail):p:=h x0
theorem Ez2{p A0 A1:Prop}(x0:A0)(x1:A1)(h:A0->A1->p:=by intro x0 x1;first|omega|rfl|(simp+decide only[go_sem,eG,Kaw,KaF,Kay,KaI,Kan,x0,x1]<;>rfl)|fail):p:=h x0 x1
theorem Ez3{p A0 A1 A2:Prop}(x0:A0)(x1:A1)(x2:A2)(h:A0->A1->A2->p:=by intro x0 x1 x2;first|omega|rfl|(simp+decide only[go_sem,eG,Kaw,KaF,Kay,KaI,Kan,x0,x1,x2]<;>rfl)|fail):p:=h x0 x1 x2
theorem Ez4{p A0 A1 A2 A3:Prop}(x0:A0)(x1:A1)(x2:A2)(x3:A3)(h:A0->A1->A2->A3->p:=by intro x0 x1 x2 x3;first|omega|rfl|(simp+decide only[go_sem,eG,Kaw,KaF,Kay,KaI,Kan,x0,x1,x2,x3]<;>rfl)|fail):p:=h x0 x1 x2 x3
theorem cC{p q:Prop}(h:q)(e:p=q:=by conv=>lhs;simp+decide (disch:=try exact Ez0) only[go_sem,eG,Kaw,KaF,Kay,KaI,Kan]):p:=e▸h
theorem ie{p:Prop}(h:p:=by simp+decide (disch:=try exact Ez0) only[go_sem,eG,Kaw,KaF,Kay,KaI,Kan]):p:=h
theorem zu{p:Prop}(h:p:=by simp+decide (disch:=try exact Ez0) only[go_sem,eG,Kaw,KaF,Kay,KaI,Kan]<;>rfl):p:=h
theorem JI{p q A0:Prop}(x0:A0)(h:q)(e:A0->p=q:=by intro x0;conv=>lhs;simp+decide (disch:=try exact Ez1 @x0) only[go_sem,eG,Kaw,KaF,Kay,KaI,Kan,x0]):p:=(e x0)▸h
theorem ux{p q A0 A1:Prop}(x0:A0)(x1:A1)(h:q)(e:A0->A1->p=q:=by intro x0 x1;conv=>lhs;simp+decide (disch:=try exact Ez2 @x0 @x1) only[go_sem,eG,Kaw,KaF,Kay,KaI,Kan,x0,x1]):p:=(e x0 x1)▸h
theorem xL{p q A0 A1 A2:Prop}(x0:A0)(x1:A1)(x2:A2)(h:q)(e:A0->A1->A2->p=q:=by intro x0 x1 x2;conv=>lhs;simp+decide (disch:=try exact Ez3 @x0 @x1 @x2) only[go_sem,eG,Kaw,KaF,Kay,KaI,Kan,x0,x1,x2]):p:=(e x0 x1 x2)▸h
theorem YW{p q A0 A1 A2 A3:Prop}(x0:A0)(x1:A1)(x2:A2)(x3:A3)(h:q)(e:A0->A1->A2->A3->p=q:=by intro x0 x1 x2 x3;conv=>lhs;simp+decide (disch:=try exact Ez4 @x0 @x1 @x2 @x3) only[go_sem,eG,Kaw,KaF,Kay,KaI,Kan,x0,x1,x2,x3]):p:=(e x0 x1 x2 x3)▸h
variable {C : Ctx} {fr : Fr} {hp : HP} {R : Qg}
end Go.FW
namespace Go.FW
open Go
variable {C : Ctx} {ρ : Nat -> Option Nat} {fr aq : Fr} {hp : HP} {w : World} {K R : Qg}
theorem bZ.known{p:PV}{v:Value}(h:bZ C ρ hp w p v):∀γ∈p.cA,hp γ≠none:=by
 intro γ af;cases p with
 |ao β o n=>simp[PV.cA]at af;subst af;obtain⟨_,hb,h1,_⟩:=h;simp[h1]
 |aB β o n=>simp[PV.cA]at af;subst af;obtain⟨_,hb,b,cap,h1,_⟩:=h;simp[h1]
 |np β o n=>cases h
 |_=>cases af
theorem cg.known{p:PV}{v:Value}(h:cg C ρ hp w p v):(∀γ∈p.bb,hp γ≠none)/\∀γ∈p.cV,hp γ≠none:=by
 cases p with
 |mp β i o=>obtain⟨b,hb,h1,h2,_⟩:=h;simp[PV.bb,PV.cV,h2]
 |ao β o n=>obtain⟨hb,h1,_⟩:=h;simp[PV.bb,PV.cV,h1]
 |rb β o n=>obtain⟨b,u,_,_,_,_,hb,h1,_⟩:=h;simp[PV.bb,PV.cV,h1]
 |np γ i o=>obtain⟨_,b,hb,h1,h2,_⟩:=h;simp[PV.bb,PV.cV,h2]
 |aB γ o n=>obtain⟨_,hb,b,cap,h1,_⟩:=h;simp[PV.bb,PV.cV,h1]
 |_=>exact⟨(fun γ af=>by cases af),(fun γ af=>by cases af)⟩
theorem Qh.known{p:PV}{v:Value}(h:Qh C ρ hp w p v):(∀γ∈p.refs,hp γ≠none)/\∀γ∈p.aI,hp γ≠none:=by
 cases p with
 |mp β i o=>obtain⟨b,hb,h1,h2,_⟩:=h;simp[PV.refs,PV.aI,h2]
 |ao β o n=>obtain⟨hb,h1,_⟩:=h;simp[PV.refs,PV.aI,h1]
 |rb β o n=>obtain⟨b,u,_,_,_,_,hb,h1,_⟩:=h;simp[PV.refs,PV.aI,h1]
 |np γ i o=>obtain⟨_,b,hb,h1,h2,_⟩:=h;simp[PV.refs,PV.aI,h2]
 |aB γ o n=>obtain⟨_,hb,b,cap,h1,_⟩:=h;simp[PV.refs,PV.aI,h1]
 |aE cs=>obtain⟨vs,_,_,h2⟩:=h;refine⟨fun γ af=>(by cases af),fun γ af=>?_⟩;obtain⟨x,hx,af⟩:=Kam.1 af;obtain⟨i,hi⟩:=Kat hx;exact(h2 i x hi).known γ af
 |cW cs=>obtain⟨vs,_,_,h2⟩:=h;refine⟨fun γ af=>(by cases af),fun γ af=>?_⟩;obtain⟨x,hx,af⟩:=Kam.1 af;obtain⟨i,hi⟩:=Kat hx;exact(h2 i x hi).known γ af
 |cj cs q=>obtain⟨vs,u,_,_,h2,_⟩:=h;refine⟨fun γ af=>(by cases af),fun γ af=>?_⟩;obtain⟨x,hx,af⟩:=Kam.1 af;obtain⟨i,hi⟩:=Kat hx;exact(h2 i x hi).known γ af
 | az β e ty xs=>
  obtain⟨_,_,b,hb,cur,cap,_,g2,_,_,_,_,_,_,_,_,cx⟩:=h;refine⟨fun γ af=>(by cases af),fun γ af=>?_⟩;rcases KaH.1 af with rfl|af
  ·simp[g2]
  ·obtain⟨x,hx,af⟩:=Kam.1 af;obtain⟨y,hy,af⟩:=Kam.1 af;obtain⟨i,hi⟩:=Kat hx;obtain⟨j,hj⟩:=Kat hy;exact(cx i x hi j y hj).known γ af
 | fn f first cap=>
  obtain⟨fv,cv,_,_,_,h3,h4⟩:=h;have g:∀(l:List PV)(u:Array Value),(∀(i:Nat)(x:PV),l[i]? =some x->cg C ρ hp w x (u.getD i undef))->(∀γ∈l.flatMap PV.bb,hp γ≠none)/\∀γ∈l.flatMap PV.cV,hp γ≠none:=by
   intro l u hl;refine⟨fun γ af=>?_,fun γ af=>?_⟩<;>
   ·obtain⟨x,hx,af⟩:=Kam.1 af;obtain⟨i,hi⟩:=Kat hx
    first|exact(hl i x hi).known.1 γ af|exact(hl i x hi).known.2 γ af
  refine⟨fun γ af=>?_,fun γ af=>?_⟩
  ·rcases KaR.1 af with af|af
   ·exact(g first fv h3).1 γ af
   ·exact(g cap cv h4).1 γ af
  ·rcases KaR.1 af with af|af
   ·exact(g first fv h3).2 γ af
   ·exact(g cap cv h4).2 γ af
 |_=>exact⟨(fun γ af=>by cases af),(fun γ af=>by cases af)⟩
def gy(β:Nat):Bool:=decide (2000000<=β)
def ix(β:Nat):Bool:=gy β||decide (β<1000000)
theorem WI{β:Nat}(h:ix β=false):gy β=false:=by simp[ix]at h;exact h.1
def gg:PV->PV
 |.az _ _ _ _| .aE _| .cW _| .cj _ _=>.undef
 |p=>if p.refs.any gy||p.aI.any ix then .undef else p
def qa(F:Fr):Fr:=fun s=>gg (F s)
def n5(p:PV):Prop:=(∀β∈p.refs,gy β=false)/\(∀β∈p.aI,ix β=false)/\(∀γ e ty xs,p≠ .az γ e ty xs)/\∀cs,p≠ .aE cs/\p≠ .cW cs/\∀q,p≠ .cj cs q
theorem Pd(p:PV):n5 (gg p):=by
 have h0:n5 .undef:=⟨(fun β h=>by cases h),(fun β h=>by cases h),(fun _ _ _ _ h=>by cases h),(fun _=>⟨(fun h=>by cases h),(fun h=>by cases h),fun _ h=>by cases h⟩)⟩
 unfold gg;split
 ·exact h0
 ·exact h0
 ·exact h0
 ·exact h0
 ·rename_i hn u6 hn3 Ep;split
  ·exact h0
  ·rename_i h;simp only[KbF,not_or,Bool.not_eq_true,Kco]at h;exact⟨fun β ah=>by simpa using h.1 β ah,fun β ah=>by simpa using h.2 β ah,fun γ e ty xs=>hn γ e ty xs,fun cs=>⟨u6 cs,hn3 cs,Ep cs⟩⟩
theorem n5.kill{p:PV}(h:n5 p){B:List Nat}:n5 (if p.refs.any B.contains then .undef else p):=by
 split
 ·exact⟨(fun β h=>by cases h),(fun β h=>by cases h),(fun _ _ _ _ h=>by cases h),(fun _=>⟨(fun h=>by cases h),(fun h=>by cases h),fun _ h=>by cases h⟩)⟩
 ·exact h
theorem HD{β:Nat}{p:PV}(h:∀γ∈p.refs,γ≠β):bf β p=p:=by unfold bf;rw[if_neg];intro hc;exact h β (by simpa using hc) rfl
theorem Bz{β:Nat}{p:PV}(h:∀γ∈p.cA,γ≠β):eY β p=p:=by
 cases p with
 |ao γ o n=>simp only[eY];rw[if_neg (h γ (by simp[PV.cA]))]
 |aB γ o n=>simp only[eY];rw[if_neg (h γ (by simp[PV.cA]))]
 |_=>rfl
theorem Na{β:Nat}{p:PV}(h:∀γ∈p.refs,γ≠β)(h2:∀γ∈p.aI,γ≠β)(h3:∀γ e ty xs,p≠ .az γ e ty xs):cn β p=p:=by
 cases p with
 |az γ e ty xs=>exact absurd rfl (h3 _ _ _ _)
 |aE cs=>
  simp only[cn];congr 1;conv=>rhs;rw[<-List.map_id cs]
  exact KaT fun x hx=>Bz fun γ af=>h2 γ (Kam.2 ⟨x,hx,af⟩)
 |cW cs=>
  simp only[cn];congr 1;conv=>rhs;rw[<-List.map_id cs]
  exact KaT fun x hx=>Bz fun γ af=>h2 γ (Kam.2 ⟨x,hx,af⟩)
 |cj cs q=>
  simp only[cn];congr 1;conv=>rhs;rw[<-List.map_id cs]
  exact KaT fun x hx=>Bz fun γ af=>h2 γ (Kam.2 ⟨x,hx,af⟩)
 |aB γ o n=>simp only[cn];rw[if_neg (h2 γ (by simp[PV.aI]))]
 |np γ i o=>simp only[cn];rw[if_neg (h2 γ (by simp[PV.aI]))]
 |fn f first cap=>simp only[cn];rw[if_neg,HD h];intro hc;exact h2 β (by simpa[PV.aI]using hc) rfl
 |_=>exact HD h
theorem Fq{β γ:Nat}(h:2000000<=β)(h2:gy γ=false):γ≠β:=by simp[gy]at h2;omega
abbrev dA(B:List Nat)(F:Fr):Fr:=bX B (qa F)
theorem tS(B:List Nat)(F:Fr)(s:Nat):n5 (dA B F s):=(Pd (F s)).kill
theorem HE{β:Nat}{B:List Nat}{F:Fr}(h:2000000<=β):dO β (dA B F)=dA B F:=by funext s;have hc:=tS B F s;exact Na (fun γ af=>Fq h (hc.1 γ af)) (fun γ af=>Fq h (WI (hc.2.1 γ af))) hc.2.2.1
theorem HF{γ:Nat}{B:List Nat}{F:Fr}:fm γ (dA B F)=dA B F:=by
 funext s;have hc:=tS B F s;show fy γ (dA B F s)=_;generalize dA B F s=p at *
 cases p with
 |az aO e ty xs=>exact absurd rfl (hc.2.2.1 _ _ _ _)
 |_=>rfl
theorem Nb{W:List (Nat×Nat)}{β:Nat}{J F:Fr}:dO β (ba W J F)=ba W (dO β J) (dO β F):=by funext s;unfold dO ba;split<;>rfl
theorem Nc{W:List (Nat×Nat)}{β:Nat}{J F:Fr}:fm β (ba W J F)=ba W (fm β J) (fm β F):=by funext s;unfold fm ba;split<;>rfl
theorem Nd{β d:Nat}{F:Fr}{v:PV}:dO β (ae F d v)=ae (dO β F) d (cn β v):=by funext s;unfold dO ae;split<;>rfl
theorem Nf{β d:Nat}{F:Fr}{v:PV}:fm β (ae F d v)=ae (fm β F) d (fy β v):=by funext s;unfold fm ae;split<;>rfl
theorem Pe{β:Nat}{F:Fr}{s:Nat}:dO β F s=cn β (F s):=rfl
theorem Pf{β:Nat}{F:Fr}{s:Nat}:fm β F s=fy β (F s):=rfl
theorem Rp(W:List (Nat×Nat))(B:List Nat):bC fr (ba W fr (dA B fr)):=fun s=>by
 unfold ba dA bX;split
 ·exact .inl rfl
 ·split
  ·exact .inr rfl
  ·unfold qa gg;split
   ·exact .inr rfl
   ·exact .inr rfl
   ·exact .inr rfl
   ·exact .inr rfl
   ·split
    ·exact .inr rfl
    ·exact .inl rfl
theorem IT{sk:List It}{x:SC}(bQ:dI R sk)(W:List (Nat×Nat))(B:List Nat)(I:Nat->Fr->HP->Prop)(m0:Nat)(h0:I m0 fr hp)
  (h:∀m J hp,I m J hp->vc C R (.c x:: .el (pQ W (dA B fr) I m)::sk) (ba W J (dA B fr)) hp):vc C R (.c (.loop x)::sk) fr hp:=by
 refine tl (fun m aq hp'=>∃J,aq=ba W J (dA B fr)/\I m J hp') m0 (Rp W B).wk ⟨fr,rfl,h0⟩ ?_;rintro m _ hp' ⟨J,rfl,hI⟩;refine pJ bQ.1 _ _ _ _ _ _ (Kae _) (.c x (.el ?_ bQ.2)) (bC.refl _) (h m J hp' hI);rintro f f' bc hf ⟨J2,kv,m2,e2,hl,h2⟩;exact BH hl (hf.wk.trans e2) ⟨J2,rfl,h2⟩
def fY(l:List (Nat×Nat)):List PV:=l.map fun x=>.ao x.1 0 x.2
def WJ(d:Nat)(S:List Nat)(γ n:Nat)(x:PV)(fr:Fr):Fr:=fun s=>if s=γ then x else if S.contains s then .aB γ 0 n else bf d (fr s)
theorem XQ{tmps:Array Value}(h:Qv C ρ fr hp tmps w){β b:Nat}{hb:HB}{l:List Nat}(hB:aF β=false)(ah:hp β=some hb)(hl:β∈l)(aU:ρ β=some b):¬ay C ρ (bq hp l) b:=by
 have aK:=(h.own β hb ah).b8;rw[aU]at aK;rintro(hx|⟨γ,hg,h1,h2,h3⟩)
 ·exact Ctx.xO aK.1 (rI hB) hx
 ·obtain⟨kZ,g1,_,_,_,_,g6⟩:=s8 h1;have:=h.inj γ β b (by simp[g1]) (by simp[ah]) h3 aU;subst this;exact g6 h2 hl
theorem dh.snap{tmps:Array Value}(h:Qv C ρ fr hp tmps w){β o n:Nat}{v:Value}{l:List Nat}{hb:HB}(hr:dh ρ hp w β o n v)(hB:aF β=false)(hl:β∈l)(ah:hp β=some hb):Qo w (ay C ρ (bq hp l)) (.sl hb.e ((hb.xs.drop o).take n)) v:=by
 obtain⟨an,g1,g2,g3⟩:=hr;rw[ah]at g1;cases g1;rcases g3 with⟨g3,rfl,rfl,rfl⟩|⟨b,cap,g3,rfl,g5,g6⟩
 ·simp only[Kb0];exact .gB _ _ _ (KbE _)
 ·have aT:=h.own β hb ah;have aK:=aT.b8;rw[g3]at aK;obtain⟨_,ak,cur,di,c1,c2,c3,c4,c5⟩:=aK;obtain⟨cur',ty',d1,d2⟩:=g5;rw[c1]at d1;cases d1;have fb:o+cap=di:=by rw[c2]at d2;exact(Kbr aT.gh d2).symm
  subst fb;have hlen:((hb.xs.drop o).take n).length=n:=by simp;omega
  have dj:∀(i:Nat)(x:PV),((hb.xs.drop o).take n)[i]? =some x->i<n/\hb.xs[o+i]? =some x:=fun i x hx=>by
   have hi:i<n:=by have:=(Kac.1 hx).1;omega
   rw[Kav hi,KaO]at hx;exact⟨hi,hx⟩
  have:=Qo.sl (w:=w) (X:=ay C ρ (bq hp l)) hb.e ((hb.xs.drop o).take n) b (o*hb.e) cap (fun i j=>cur.getD ((o+i)*hb.e+j) undef) (XQ h hB ah hl g3) ak (by omega) (by omega)
   (fun i x hx=>(aT.len _ x (dj i x hx).2).1)
   (fun i hi j hj=>by rw[hlen]at hi;have:=jn (i:=o+i) (e:=hb.e) (o:=0) (j:=j) (n:=hb.e) (cap:=o+cap) (by omega) (by omega) hj;rw[KaJ]at this;rw[show o*hb.e+i*hb.e+j=(o+i)*hb.e+j by rw[Kax]];exact gT c1 (by rw[c2];exact this))
   (fun i x hx j y hy=>(c5 _ x (dj i x hx).2 j y hy).freeze)
  rwa[hlen]at this
def nC(R:Qg):Qg:=fun fr hp=>∃aq hp',Wk fr hp aq hp'/\R aq hp'
theorem oo{hp':HP}(hw:Wk fr hp aq hp')(h:R aq hp'):nC R fr hp:=⟨aq,hp',hw,h⟩
theorem HG(h:R fr hp):nC R fr hp:=⟨fr,hp,Wk.refl _ _,h⟩
theorem Rq:KM (nC R) (nC R):=by rintro f f' hp hf ⟨aq,hp',h1,h2⟩;exact⟨aq,hp',hf.wk.trans h1,h2⟩
theorem Qt:dI (nC R) []:=⟨Rq,.nil⟩
theorem Rs{d γ m i:Nat}{k:IntKind}(h:i<m)(he:(hp γ).map (·.e)=some 1):cG 1 (.aB γ 0 m) (.int k (i:Int)) d fr hp K=K (ae fr d (.np γ i 0)) hp:=by
 have e:(0:Int)<=(i:Int):=by omega
 simp[cG,e,h,he]
theorem Rt{d γ o m:Nat}:kS (.aB γ o m) d fr hp K=K (ae fr d (.int .i64 m)) hp:=rfl
theorem Ru{e by_ ty ty' d β γ n:Nat}{xs:List PV}{y:PV}{fz:Bool}(hb:hp β=some ⟨e,ty,xs,false⟩)(hy:hp γ=some ⟨e,ty',[y],fz⟩)(h0:0<e)(hn:n=xs.length)(h1:(n+1)*by_<=140737488355328)(h2:n+1<=9223372036854775807)(hB:2000000<=β):
  fl e by_ ty (.ms β n) (.ms γ 1) d fr hp K=K (ae (dO β fr) d (.ms β (n+1))) (Qi hp β ⟨e,ty,xs++[y],false⟩):=by
 subst hn;have b1:bg β=true:=by simp[bg];omega
 have b2:aF β=false:=by simp[aF];omega
 simp[fl,fK,hy,hb,h0,b1,b2,h1,h2]
theorem GM{α:Type}{f:α->PV}{y:α}{e by_ ty ty' d β γ n:Nat}{xs:List α}{fz:Bool}(hb:hp β=some ⟨e,ty,xs.map f,false⟩)(hy:hp γ=some ⟨e,ty',[f y],fz⟩)(h0:0<e)(hn:n=xs.length)(h1:(n+1)*by_<=140737488355328)(h2:n+1<=9223372036854775807)(hB:2000000<=β):
  fl e by_ ty (.ms β n) (.ms γ 1) d fr hp K=K (ae (dO β fr) d (.ms β (n+1))) (Qi hp β ⟨e,ty,(xs++[y]).map f,false⟩):=by
 rw[Ru hb hy h0 (by simp[hn]) h1 h2 hB];simp
theorem Ng{β γ o n:Nat}(h:γ≠β):cn β (.aB γ o n)= .aB γ o n:=by simp only[cn];rw[if_neg h]
theorem Pg{β γ o n:Nat}(h:γ≠β):cn β (.np γ o n)= .np γ o n:=by simp only[cn];rw[if_neg h]
theorem WK:
  (∀(β:Nat)(k:IntKind)(n:Int),cn β (.int k n)= .int k n)/\
  (∀(β:Nat)(b:Bool),cn β (.bool b)= .bool b)/\
  (∀(β e:Nat)(xs:List PV),cn β (.sl e xs)= .sl e xs)/\
  (∀(β:Nat)(cs:List PV),cn β (.agg cs)= .agg cs)/\
  (∀(β:Nat)(cs:List PV),cn β (.pt cs)= .pt cs)/\
  (∀(β:Nat),cn β .aa= .aa)/\
  (∀(β:Nat),cn β .undef= .undef)/\
  (∀(γ:Nat)(k:IntKind)(n:Int),fy γ (.int k n)= .int k n)/\
  (∀(γ:Nat)(b:Bool),fy γ (.bool b)= .bool b)/\
  (∀(γ e:Nat)(xs:List PV),fy γ (.sl e xs)= .sl e xs)/\
  (∀(γ:Nat)(cs:List PV),fy γ (.agg cs)= .agg cs)/\
  (∀(γ:Nat)(cs:List PV),fy γ (.pt cs)= .pt cs)/\
  (∀(γ:Nat),fy γ .aa= .aa)/\
  (∀(γ:Nat),fy γ .undef= .undef)/\
  (∀(γ β o n:Nat),fy γ (.ao β o n)= .ao β o n)/\
  (∀(γ β o n:Nat),fy γ (.mp β o n)= .mp β o n)/\
  (∀(γ β o n:Nat),fy γ (.rb β o n)= .rb β o n)/\
  (∀(γ β o n:Nat),fy γ (.aB β o n)= .aB β o n)/\
  (∀(γ β o n:Nat),fy γ (.np β o n)= .np β o n)/\
  (∀(β γ o n:Nat),bf β (.aB γ o n)= .aB γ o n)/\
  (∀(β γ o n:Nat),bf β (.np γ o n)= .np γ o n)/\
  (∀(β γ e ty:Nat)(xs:List PV),bf β (.az γ e ty xs)= .az γ e ty xs)/\
  (∀(β:Nat),bf β .undef= .undef)/\
  (∀(β:Nat)(cs:List PV),bf β (.pt cs)= .pt cs):=by
 refine⟨?_,?_,?_,?_,?_,?_,?_,?_,?_,?_,?_,?_,?_,?_,?_,?_,?_,?_,?_,?_,?_,?_,?_,?_⟩<;>intros<;>rfl
theorem Ph(β γ o n:Nat):cn β (.ao γ o n)=if γ=β then .undef else .ao γ o n:=II β γ o n
theorem Pj(β γ o n:Nat):cn β (.mp γ o n)=if γ=β then .undef else .mp γ o n:=IJ β γ o n
end Go.FW
namespace Go.FW
open Go
variable {C : Ctx} {ρ : Nat -> Option Nat} {fr aq : Fr} {hp : HP} {w : World} {K R : Qg}
theorem Rv{F:Fr}{s:Nat}:qa F s=gg (F s):=rfl
theorem WL:
  (∀(k:IntKind)(n:Int),gg (.int k n)= .int k n)/\
  (∀(b:Bool),gg (.bool b)= .bool b)/\
  (∀(e:Nat)(xs:List PV),gg (.sl e xs)= .sl e xs)/\
  (∀(cs:List PV),gg (.agg cs)= .agg cs)/\
  (∀(cs:List PV),gg (.pt cs)= .pt cs)/\
  (gg .aa= .aa)/\(gg .undef= .undef)/\
  (∀(β o n:Nat),gg (.ao β o n)=if gy β then .undef else .ao β o n)/\
  (∀(β o n:Nat),gg (.mp β o n)=if gy β then .undef else .mp β o n)/\
  (∀(β o n:Nat),gg (.rb β o n)=if gy β then .undef else .rb β o n)/\
  (∀(β o n:Nat),gg (.aB β o n)=if ix β then .undef else .aB β o n)/\
  (∀(β o n:Nat),gg (.np β o n)=if ix β then .undef else .np β o n):=by
 refine⟨fun _ _=>rfl,fun _=>rfl,fun _ _=>rfl,fun _=>rfl,fun _=>rfl,rfl,rfl,?_,?_,?_,?_,?_⟩<;>intros<;>simp[gg,PV.refs,PV.aI]
theorem Ut{β:Nat}:ix β=(gy β||decide (β<1000000)):=rfl
theorem Uu{β:Nat}:gy β=decide (2000000<=β):=rfl
theorem Pk{d γ n:Nat}{S:List Nat}{x:PV}{s:Nat}:WJ d S γ n x fr s=if s=γ then x else if S.contains s then .aB γ 0 n else bf d (fr s):=rfl
theorem Rw{by_ ty d:Nat}{k k':IntKind}{n c:Nat}(h2:n<=c)(h3:by_*c<=281474976710656)(h4:c<=9223372036854775807):
  jM 1 by_ ty .aa (.int k (n:Int)) (.int k' (c:Int)) d fr hp K=K (ae (bI d fr) d (.ms d n)) (Qi hp d ⟨1,ty,List.replicate n .aa,false⟩):=by
 rw[xA (e:=1) (by omega) rfl (by omega) (by omega) (by omega) (by omega)];rfl
theorem Uv{k c:Nat}(h:c<3000000):(3000000+k=c)=False:=by simp;omega
theorem Rx{k c:Nat}(h:c<3000000):(c=3000000+k)=False:=by simp;omega
theorem Uw{k j:Nat}:(3000000+k=3000000+j)=(k=j):=by simp
attribute [go_sem] Uv Rx Uw Rw Pk Nb Nc Nd Nf Pe Pf HE HF WK Ph Pj Ng Pg Rs Rt Rv WL Ut Uu
end Go.FW
namespace Go.FW
open Go
variable {C C' : Ctx} {ρ ρ' : Nat -> Option Nat} {fr aq : Fr} {hp hp' : HP} {w : World} {K R : Qg}
theorem cq{sk:List It}{r:RT}{aY:Fr}{au:HP}(hw:Wk fr hp aY au)(h:vc C R (.o r::sk) aY au):vc C R (.o (.wk r)::sk) fr hp:=by rw[xl];exact⟨aY,au,hw,h⟩
def cw(σ:Nat->Nat):PV->PV
 |.mp β i o=>.mp (σ β) i o
 |.ao β o n=>.ao (σ β) o n
 |.rb β o n=>.rb (σ β) o n
 |.np β i o=>.np (σ β) i o
 |.aB β o n=>.aB (σ β) o n
 |p=>p
def cd(σ:Nat->Nat):PV->PV
 |.fn f a b=>.fn f (a.map (cw σ)) (b.map (cw σ))
 |.aE cs=>.aE (cs.map (cw σ))
 |.cW cs=>.cW (cs.map (cw σ))
 |.cj cs q=>.cj (cs.map (cw σ)) q
 |.az γ e ty xs=>.az (σ γ) e ty (xs.map fun x=>dX (x.aL.map (cw σ)))
 |p=>cw σ p
structure oI(σ:Nat->Nat)(ρ ρ':Nat->Option Nat)(hp hp':HP)(β:Nat):Prop where
 r:ρ' (σ β)=ρ β
 h:∀hb,hp β=some hb->∃cl,hp' (σ β)=some cl/\cl.e=hb.e/\cl.ty=hb.ty/\cl.xs=hb.xs
 b:bg β=true->bg (σ β)=true
theorem Qo.cw{X:Nat->Prop}{σ:Nat->Nat}{p:PV}{v:Value}(h:Qo w X p v):FW.cw σ p=p:=by cases h<;>rfl
theorem dh.eE{σ:Nat->Nat}{β o n:Nat}{v:Value}(h:dh ρ hp w β o n v)(hr:oI σ ρ ρ' hp hp' β):dh ρ' hp' w (σ β) o n v:=by obtain⟨hb,h1,h2,h3⟩:=h;obtain⟨an,k1,k2,k3,k4⟩:=hr.h hb h1;refine⟨an,k1,by rw[k4];exact h2,?_⟩;rw[hr.r,k2];exact h3
theorem j2.eE{σ:Nat->Nat}{γ o n:Nat}{v:Value}(h:j2 ρ hp w γ o n v)(hr:oI σ ρ ρ' hp hp' γ):j2 ρ' hp' w (σ γ) o n v:=by obtain⟨h0,hb,b,cap,h1,h2,h3⟩:=h;obtain⟨an,k1,k2,k3,k4⟩:=hr.h hb h1;exact⟨hr.b h0,an,b,cap,k1,by rw[hr.r];exact h2,by rw[k2];exact h3⟩
theorem Qo.sub{X X':Nat->Prop}{p:PV}{v:Value}(h:Qo w X p v)(hX:∀b,X' b->X b):Qo w X' p v:=h.mono (fun _ _ _=>rfl) (fun b _ hn hx=>hn (hX b hx)) (Kae _)
theorem bZ.eE{σ:Nat->Nat}{p:PV}{v:Value}(h:bZ C ρ hp w p v)(hX:∀b,ay C' ρ' hp' b->ay C ρ hp b)(hr:∀β∈p.cA,oI σ ρ ρ' hp hp' β):bZ C' ρ' hp' w (cw σ p) v:=by
 cases p with
 |undef=>trivial
 |ao β o n=>exact⟨(hr β (by simp[PV.cA])).b h.1,h.2.eE (hr β (by simp[PV.cA]))⟩
 |aB γ o n=>exact j2.eE h (hr γ (by simp[PV.cA]))
 |mp=>cases h
 |rb=>cases h
 |np=>cases h
 |_=>exact Qo.sub h hX
theorem cg.eE{σ:Nat->Nat}{p:PV}{v:Value}(h:cg C ρ hp w p v)(hX:∀b,ay C' ρ' hp' b->ay C ρ hp b)(hr:∀β∈p.bb++p.cV,oI σ ρ ρ' hp hp' β):cg C' ρ' hp' w (cw σ p) v:=by
 cases p with
 |mp β i o=>have hq:=hr β (by simp[PV.bb]);obtain⟨b,hb,h1,h2,h3⟩:=h;obtain⟨an,k1,k2,k3,k4⟩:=hq.h hb h2;exact⟨b,an,by rw[hq.r];exact h1,k1,by rw[k2];exact h3⟩
 |ao β o n=>exact dh.eE h (hr β (by simp[PV.bb]))
 |rb β o n=>obtain⟨b,u,h1,h2,h3,h4,h5⟩:=h;exact⟨b,u,h1,h2,fun hx=>h3 (hX b hx),h4,h5.eE (hr β (by simp[PV.bb]))⟩
 |np γ i o=>have hq:=hr γ (by simp[PV.bb,PV.cV]);obtain⟨h0,b,hb,h1,h2,h3⟩:=h;obtain⟨an,k1,k2,k3,k4⟩:=hq.h hb h2;exact⟨hq.b h0,b,an,by rw[hq.r];exact h1,k1,by rw[k2];exact h3⟩
 |aB γ o n=>exact j2.eE h (hr γ (by simp[PV.bb,PV.cV]))
 |_=>exact Qo.sub h hX
theorem GN{cs:List PV}(h:∀c∈cs,(∀ds,c≠ .agg ds)/\∀ds,c≠ .aE ds):(dX cs).aL=cs:=by
 match cs,h with
 | [],_=>rfl
 | [c],h=>
  obtain⟨h1,h2⟩:=h c (by simp);cases c with
  |agg ds=>exact absurd rfl (h1 ds)
  |aE ds=>exact absurd rfl (h2 ds)
  |_=>rfl
 |c::d::cs,_=>simp only[dX,jY];split<;>rfl
theorem bZ.one{p:PV}{v:Value}(h:bZ C ρ hp w p v):(∀ds,p≠ .agg ds)/\∀ds,p≠ .aE ds:=by refine⟨fun ds e=>?_,fun ds e=>?_⟩<;>subst e<;>cases h
theorem Qh.eE{σ:Nat->Nat}{p:PV}{v:Value}(h:Qh C ρ hp w p v)(hX:∀b,ay C' ρ' hp' b->ay C ρ hp b)(hr:∀β∈p.refs++p.aI,oI σ ρ ρ' hp hp' β):Qh C' ρ' hp' w (cd σ p) v:=by
 have hV:∀q u,Qo w (ay C ρ hp) q u->Qo w (ay C' ρ' hp') q u:=fun q u hq=>Qo.sub hq hX;cases p with
 |undef=>trivial
 |mp β i o=>exact cg.eE (w:=w) (p:=.mp β i o) h hX (by simpa[PV.refs,PV.aI,PV.bb,PV.cV]using hr)
 |ao β o n=>exact cg.eE (w:=w) (p:=.ao β o n) h hX (by simpa[PV.refs,PV.aI,PV.bb,PV.cV]using hr)
 |rb β o n=>exact cg.eE (w:=w) (p:=.rb β o n) h hX (by simpa[PV.refs,PV.aI,PV.bb,PV.cV]using hr)
 |np γ i o=>exact cg.eE (w:=w) (p:=.np γ i o) h hX (by simpa[PV.refs,PV.aI,PV.bb,PV.cV]using hr)
 |aB γ o n=>exact cg.eE (w:=w) (p:=.aB γ o n) h hX (by simpa[PV.refs,PV.aI,PV.bb,PV.cV]using hr)
 |aE cs=>obtain⟨vs,rfl,h1,h2⟩:=h;refine⟨vs,rfl,by simpa using h1,fun i x hi=>?_⟩;simp only[Kap,Kaa]at hi;obtain⟨y,hy,rfl⟩:=hi;exact(h2 i y hy).eE hX fun β ah=>hr β (Kbe _ (Kam.2 ⟨y,Kag hy,ah⟩))
 |cW cs=>obtain⟨vs,rfl,h1,h2⟩:=h;refine⟨vs,rfl,by simpa using h1,fun i x hi=>?_⟩;simp only[Kap,Kaa]at hi;obtain⟨y,hy,rfl⟩:=hi;exact(h2 i y hy).eE hX fun β ah=>hr β (Kbe _ (Kam.2 ⟨y,Kag hy,ah⟩))
 |cj cs q=>obtain⟨vs,u,rfl,h1,h2,h3⟩:=h;refine⟨vs,u,rfl,by simpa using h1,fun i x hi=>?_,h3.mono (fun _ _ _=>rfl) (fun b _ hn hx=>hn (hX b hx)) (Kae _)⟩;simp only[Kap,Kaa]at hi;obtain⟨y,hy,rfl⟩:=hi;exact(h2 i y hy).eE hX fun β ah=>hr β (Kbe _ (Kam.2 ⟨y,Kag hy,ah⟩))
 | az γ e ty xs=>
  obtain⟨h0,he,b,hb,cur,cap,h1,h2,h3,h4,h5,h6,h7,h8,h9,bx,cx⟩:=h;have hq:=hr γ (by simp[PV.aI]);have key:∀(i:Nat)(x:PV),xs[i]? =some x->∀(j:Nat)(y:PV),x.aL[j]? =some y->bZ C' ρ' hp' w (cw σ y) (cur.getD (i*e+j) undef):=fun i x hx j y hy=>
   (cx i x hx j y hy).eE hX fun β ah=>hr β (Kbe _ (Kb3 _ (Kam.2 ⟨x,Kag hx,Kam.2 ⟨y,Kag hy,ah⟩⟩)))
  have mS:∀(i:Nat)(x:PV),xs[i]? =some x->(dX (x.aL.map (cw σ))).aL=x.aL.map (cw σ):=fun i x hx=>by refine GN fun c hc=>?_;obtain⟨y,hy,rfl⟩:=KaM.1 hc;obtain⟨j,hj⟩:=Kat hy;exact(key i x hx j y hj).one
  obtain⟨an,k1,k2,k3,k4⟩:=hq.h hb h2;refine⟨hq.b h0,he,b,an,cur,cap,by rw[hq.r];exact h1,k1,by rw[k4];exact h3,by rw[k2];exact h4,by rw[k3];exact h5,h6,h7,by simpa using h8,h9,fun i x hx=>?_,fun i x hx j y hy=>?_⟩
  ·simp only[Kap,Kaa]at hx;obtain⟨x0,bG,rfl⟩:=hx;rw[mS i x0 bG,Ka1];exact bx i x0 bG
  ·simp only[Kap,Kaa]at hx;obtain⟨x0,bG,rfl⟩:=hx;rw[mS i x0 bG,Kap,Kaa]at hy;obtain⟨y0,cz,rfl⟩:=hy;exact key i x0 bG j y0 cz
 | fn f first cap=>
  obtain⟨fv,cv,rfl,h1,h2,h3,h4⟩:=h;have hm:∀(l:List PV)(x:PV),x∈l->∀β∈x.bb++x.cV,β∈l.flatMap PV.bb++l.flatMap PV.cV:=fun l x hx β ah=>by
   rcases KaR.1 ah with ah|ah
   ·exact KbQ _ (Kam.2 ⟨x,hx,ah⟩)
   ·exact Kbe _ (Kam.2 ⟨x,hx,ah⟩)
  refine⟨fv,cv,rfl,by simpa using h1,by simpa using h2,fun i x hi=>?_,fun i x hi=>?_⟩
  ·simp only[Kap,Kaa]at hi;obtain⟨y,hy,rfl⟩:=hi;refine(h3 i y hy).eE hX fun β ah=>hr β ?_;have:=hm first y (Kag hy) β ah
   simp only[PV.refs,PV.aI,KaR]at this⊢;rcases this with h|h
   ·exact .inl (.inl h)
   ·exact .inr (.inl h)
  ·simp only[Kap,Kaa]at hi;obtain⟨y,hy,rfl⟩:=hi;refine(h4 i y hy).eE hX fun β ah=>hr β ?_;have:=hm cap y (Kag hy) β ah;simp only[PV.refs,PV.aI,KaR]at this⊢;rcases this with h|h
   ·exact .inl (.inr h)
   ·exact .inr (.inr h)
 |agg cs=>exact dn.move (p:=.agg cs) h hV
 |aJ cs=>exact dn.move (p:=.aJ cs) h hV
 |_=>exact hV _ _ h
theorem Ux(σ τ:Nat->Nat)(h1:∀β hb,hp β=some hb->hp' (σ β)=some hb/\τ (σ β)=β)(h2:∀γ hb,hp' γ=some hb->hp (τ γ)=some hb/\σ (τ γ)=γ)
  (hB:∀β,hp β≠none->bg β=true->bg (σ β)=true) (hY:∀β,hp β≠none->aF (σ β)=aF β/\(aF β=true->σ β=β)) (hf:∀s,aq s=cd σ (fr s)∨aq s= .undef):Wk fr hp aq hp':=by
 rintro C tmps w ⟨ρ,hs⟩;obtain⟨ρ',aU⟩:∃f:Nat->Option Nat,f=fun γ=>if hp' γ=none then none else ρ (τ γ):=⟨_,rfl⟩
 have hr:∀β,hp β≠none->oI σ ρ ρ' hp hp' β:=fun β ah=>by obtain⟨hb,hq⟩:=Kbx.1 ah;obtain⟨a1,a2⟩:=h1 β hb hq;refine⟨?_,(fun hb hq=>⟨hb,(h1 β hb hq).1,rfl,rfl,rfl⟩),hB β ah⟩;rw[aU];simp only[];rw[if_neg (by rw[a1];simp),a2]
 have an:∀γ hb,hp' γ=some hb->ρ' γ=ρ (τ γ):=fun γ hb hq=>by rw[aU];simp only[];rw[if_neg (by rw[hq];simp)]
 have hX:∀b,ay C ρ' hp' b->ay C ρ hp b:=by
  rintro b (hx|⟨γ,hg,g1,g2,g3⟩)
  ·exact .inl hx
  ·rw[an γ hg g1]at g3;exact .inr ⟨τ γ,hg,(h2 γ hg g1).1,g2,g3⟩
 refine⟨ρ',hs.sz,hs.ext,hs.dE,fun γ hb af=>?_,fun γ δ b g1 g2 g3 g4=>?_,fun i=>?_⟩
 ·obtain⟨a1,a2⟩:=h2 γ hb af;obtain⟨q1,q2,q3,q4,q5⟩:=hs.own (τ γ) hb a1;obtain⟨y1,y2⟩:=hY (τ γ) (by simp[a1]);rw[a2]at y1 y2;refine⟨q1,q2,?_,fun hy=>?_,fun hR=>?_⟩
  rotate_left
  rotate_left
  ·have hy:aF γ=true:=by simp[dy]at hR;simp[aF];omega
   have e:=y2 (by rw[<-y1];exact hy);exact q5 (by rw[<-e];exact hR)
  ·rw[an γ hb af];cases hq:ρ (τ γ)with
   |none=>rw[hq]at q3;exact q3
   |some b=>
    rw[hq]at q3;refine⟨?_,q3.2.1,q3.2.2.move rfl rfl rfl rfl fun q u hq=>Qo.sub hq hX⟩;have:=q3.1;unfold Ctx.cls at this⊢;rw[y1];split at this
    ·rename_i hy;rw[if_pos hy,y2 hy];exact this
    ·rename_i hy;rw[if_neg hy];exact this
  ·rw[an γ hb af,q4 (by rw[<-y1];exact hy),<-y2 (by rw[<-y1];exact hy)]
 ·obtain⟨x1,k1⟩:=Kbx.1 g1;obtain⟨x2,k2⟩:=Kbx.1 g2;rw[an γ x1 k1]at g3;rw[an δ x2 k2]at g4;have:=hs.inj (τ γ) (τ δ) b (by rw[(h2 γ x1 k1).1];simp) (by rw[(h2 δ x2 k2).1];simp) g3 g4;rw[<-(h2 γ x1 k1).2,<-(h2 δ x2 k2).2,this]
 ·have aW:=hs.ch i;rcases hf i with e|e
  ·rw[e];exact aW.eE hX fun β ah=>hr β (by
    rcases KaR.1 ah with h|h
    ·exact aW.known.1 β h
    ·exact aW.known.2 β h)
  ·rw[e];trivial
def kE(β δ x:Nat):Nat:=if x=β then δ else x
def mq(β δ:Nat)(fr:Fr):Fr:=fun s=>cd (kE β δ) (fr s)
def yP(β δ:Nat)(hp:HP):HP:=fun x=>if x=δ then hp β else if x=β then none else hp x
theorem mJ(β δ:Nat)(jJ:hp δ=none)(h2:2000000<=δ)(hY:aF β=false)(a9:β≠δ):Wk fr hp (mq β δ fr) (yP β δ hp):=by
 have Zp:bg δ=true:=by simp[bg];omega
 have yδ:aF δ=false:=by simp[aF];omega
 refine Ux (kE β δ) (fun y=>if y=δ then β else y) (fun x hb hx=>?_) (fun y hb hy=>?_) (fun x hx hb=>?_) (fun x hx=>?_) (fun s=>.inl rfl)
 ·unfold kE yP;by_cases e:x=β
  ·subst e;simp[hx]
  ·have e2:x≠δ:=fun e2=>by rw[e2,jJ]at hx;cases hx
   simp[e,e2,hx]
 ·unfold yP at hy;unfold kE;by_cases e:y=δ
  ·subst e;simp at hy;simp[hy]
  ·rw[if_neg e]at hy;by_cases e2:y=β
   ·rw[if_pos e2]at hy;cases hy
   ·rw[if_neg e2]at hy;simp[e,e2,hy]
 ·unfold kE;split
  ·exact Zp
  ·exact hb
 ·unfold kE;split
  ·rename_i e;subst e;rw[yδ,hY];simp
  ·simp
theorem Uy{β δ x:Nat}:yP β δ hp x=if x=δ then hp β else if x=β then none else hp x:=rfl
theorem UA{β δ s:Nat}:mq β δ fr s=cd (kE β δ) (fr s):=rfl
theorem UB{β δ x:Nat}:kE β δ x=if x=β then δ else x:=rfl
theorem Ry{β δ d:Nat}{v:PV}:mq β δ (ae fr d v)=ae (mq β δ fr) d (cd (kE β δ) v):=by funext s;unfold mq ae;split<;>rfl
theorem Rz{W:List (Nat×Nat)}{β δ:Nat}{J F:Fr}:mq β δ (ba W J F)=ba W (mq β δ J) (mq β δ F):=by funext s;unfold mq ba;split<;>rfl
theorem FF{σ:Nat->Nat}{p:PV}(h:∀β∈p.bb++p.cV,σ β=β):cw σ p=p:=by
 cases p with
 |mp β=>simp only[cw];rw[h β (by simp[PV.bb])]
 |ao β=>simp only[cw];rw[h β (by simp[PV.bb])]
 |rb β=>simp only[cw];rw[h β (by simp[PV.bb])]
 |np β=>simp only[cw];rw[h β (by simp[PV.bb,PV.cV])]
 |aB β=>simp only[cw];rw[h β (by simp[PV.bb,PV.cV])]
 |_=>rfl
theorem RA{σ:Nat->Nat}{p:PV}(h:n5 p)(nW:∀β∈p.refs++p.aI,σ β=β):cd σ p=p:=by
 have hm:∀(l:List PV),(∀β∈l.flatMap PV.bb++l.flatMap PV.cV,σ β=β)->l.map (cw σ)=l:=fun l hl=>by
  conv=>rhs;rw[<-List.map_id l]
  refine KaT fun x hx=>FF fun β ah=>hl β ?_;rcases KaR.1 ah with ah|ah
  ·exact KbQ _ (Kam.2 ⟨x,hx,ah⟩)
  ·exact Kbe _ (Kam.2 ⟨x,hx,ah⟩)
 cases p with
 |az γ e ty xs=>exact absurd rfl (h.2.2.1 _ _ _ _)
 |aE cs=>exact absurd rfl (h.2.2.2 _).1
 |cW cs=>exact absurd rfl (h.2.2.2 _).2.1
 |cj cs q=>exact absurd rfl ((h.2.2.2 _).2.2 _)
 | fn f a b=>
  simp only[cd];rw[hm a,hm b]
  ·intro β ah;refine nW β ?_;simp only[PV.refs,PV.aI,KaR]at ah⊢;rcases ah with h|h
   ·exact .inl (.inr h)
   ·exact .inr (.inr h)
  ·intro β ah;refine nW β ?_;simp only[PV.refs,PV.aI,KaR]at ah⊢;rcases ah with h|h
   ·exact .inl (.inl h)
   ·exact .inr (.inl h)
 |mp β=>simp only[cd,cw];rw[nW β (by simp[PV.refs])]
 |ao β=>simp only[cd,cw];rw[nW β (by simp[PV.refs])]
 |rb β=>simp only[cd,cw];rw[nW β (by simp[PV.refs])]
 |np β=>simp only[cd,cw];rw[nW β (by simp[PV.refs,PV.aI])]
 |aB β=>simp only[cd,cw];rw[nW β (by simp[PV.refs,PV.aI])]
 |_=>rfl
theorem Pm{B:List Nat}{F:Fr}{s β:Nat}(h:β∈(dA B F s).refs):B.contains β=false:=by
 cases hq:B.contains β with
 |false=>rfl
 |true=>
  unfold dA bX at h;split at h
  ·cases h
  ·rename_i hn;exact absurd (KaS.2 ⟨β,h,hq⟩) hn
theorem RB{B:List Nat}{F:Fr}{β δ:Nat}(ah:B.contains β=true∨2000000<=β)(adE:β<1000000∨2000000<=β):mq β δ (dA B F)=dA B F:=by
 funext s;have hc:=tS B F s;refine RA hc fun x hx=>if_neg fun e=>?_;subst e;rcases ah with ah|ah
 ·rcases KaR.1 hx with h|h
  ·rw[Pm h]at ah;cases ah
  ·have h1:=hc.2.1 x h;simp[ix,gy]at h1;omega
 ·rcases KaR.1 hx with h|h
  ·have:=hc.1 x h;simp[gy]at this;omega
  ·have:=hc.2.1 x h;simp[ix,gy]at this;omega
end Go.FW
namespace Go.FW
open Go
variable {C C' : Ctx} {ρ ρ' : Nat -> Option Nat} {fr aq : Fr} {hp hp' : HP} {w : World} {K R : Qg}
def dq(γ:Nat):PV->PV
 |.ao β o n=>if β=γ then .aB γ o n else .ao β o n
 |.mp β i o=>if β=γ then .np γ i o else .mp β i o
 |.rb β o n=>if β=γ then .undef else .rb β o n
 |p=>p
def cE(γ:Nat):PV->PV
 |.fn f a b=>bf γ (.fn f a b)
 |.aE cs=>.aE (cs.map (dq γ))
 |.cW cs=>.cW (cs.map (dq γ))
 |.cj cs q=>.cj (cs.map (dq γ)) q
 |.az aO e ty xs=>if aO=γ then .undef else .az aO e ty (xs.map fun x=>dX (x.aL.map (dq γ)))
 |p=>dq γ p
def rV(γ:Nat)(x:PV)(fr:Fr):Fr:=fun s=>if s=γ then x else cE γ (fr s)
theorem mF {γ e ty:Nat} {xs:List PV} {fz:Bool} (af:hp γ=some ⟨e,ty,xs,fz⟩) (h0:xs≠[]) (h2:2000000<=γ) (hd:∀x∈xs,x.aL=x.cells):Wk fr hp (rV γ (.az γ e ty xs) fr) (Qi hp γ ⟨e,ty,[],fz⟩):=by
 rintro C tmps w ⟨ρ,hs⟩;have sg:bg γ=true:=by simp[bg];omega
 have aT:=hs.own γ _ af;have aK:=aT.b8;obtain⟨b,aU⟩:∃b,ρ γ=some b:=by
  cases hq:ρ γ with
  |none=>rw[hq]at aK;exact absurd aK h0
  |some b=>exact⟨b,rfl⟩
 rw[aU]at aK;obtain⟨b1,b2,cur,cap,c1,c2,c3,c4,c5⟩:=aK;have gh:=aT.gh;obtain⟨hp',ja⟩:∃f,f=Qi hp γ ⟨e,ty,[],fz⟩:=⟨_,rfl⟩
 rw[<-ja];have nX:hp' γ=some ⟨e,ty,[],fz⟩:=by rw[ja];simp[Qi]
 have po:∀β,β≠γ->hp' β=hp β:=fun β ah=>by rw[ja];simp[Qi,ah]
 have hX:ay C ρ hp'=ay C ρ hp:=by
  funext c;apply propext;constructor
  ·rintro(hx|⟨β,hb,g1,g2,g3⟩)
   ·exact .inl hx
   ·by_cases ah:β=γ
    ·subst ah;rw[nX]at g1;cases g1;exact .inr ⟨β,_,af,g2,g3⟩
    ·rw[po β ah]at g1;exact .inr ⟨β,hb,g1,g2,g3⟩
  ·rintro(hx|⟨β,hb,g1,g2,g3⟩)
   ·exact .inl hx
   ·by_cases ah:β=γ
    ·subst ah;rw[af]at g1;cases g1;exact .inr ⟨β,_,nX,g2,g3⟩
    ·exact .inr ⟨β,hb,by rw[po β ah];exact g1,g2,g3⟩
 have aR:iN w w (ay C ρ hp) (ay C ρ hp'):=by rw[hX];exact⟨fun _ _ _=>rfl,fun _ _ hn=>hn,Kae _⟩
 have c0:∀β,β≠γ->kH ρ ρ hp hp' w w β:=fun β ah=>⟨rfl,fun hb hq=>⟨hb,by rw[po β ah];exact hq,rfl,Kae _,fun _ _ _ h=>h,fun h=>⟨h,rfl,fun _ _=>rfl⟩⟩⟩
 have vH:∀ {o n:Nat} {v:Value},dh ρ hp w γ o n v->j2 ρ hp' w γ o n v:=by
  rintro o n v ⟨hb,g1,g2,g3⟩;rw[af]at g1;cases g1;rcases g3 with⟨g3,_⟩|⟨b',cp,g3,g4,g5,g6⟩
  ·rw[aU]at g3;cases g3
  ·rw[aU]at g3;cases g3;refine⟨sg,_,b,cp,nX,aU,g4,g5,g6,?_⟩;obtain⟨cur',ty',d1,d2⟩:=g5;rw[c1]at d1;cases d1;have:cap=o+cp:=Kbr gh (by rw[<-c2,<-d2]);simp only at g2 c3;omega
 have cell:∀ {p:PV} {v:Value},bZ C ρ hp w p v->bZ C ρ hp' w (dq γ p) v:=by
  intro p v h;cases p with
  |ao β o n=>
   by_cases ah:β=γ
   ·subst ah;simp only[dq,if_true];exact vH h.2
   ·simp only[dq,if_neg ah];exact bZ.move (p:=.ao β o n) h aR fun x hx=>by simp[PV.cA]at hx;subst hx;exact(c0 _ ah).sW
  | aB β o n=>
   by_cases ah:β=γ
   ·obtain⟨_,hb,b',cp,k1,k2,k3,k4,k5,k6⟩:=h;subst ah;rw[af]at k1;cases k1;exact⟨sg,_,b',cp,nX,k2,k3,k4,k5,k6⟩
   ·exact bZ.move (p:=.aB β o n) h aR fun x hx=>by simp[PV.cA]at hx;subst hx;exact(c0 _ ah).sW
  |mp=>cases h
  |rb=>cases h
  |np=>cases h
  |undef=>trivial
  |_=>exact bZ.move h aR (fun x hx=>by cases hx)
 refine⟨ρ,hs.sz,hs.ext,hs.dE,fun β hb ah=>?_,fun β δ c g1 g2 g3 g4=>?_,fun i=>?_⟩
 ·by_cases hq:β=γ
  ·subst hq;rw[nX]at ah;cases ah;refine⟨gh,(fun i x hx=>by simp at hx),?_,aT.fix,aT.ro⟩;rw[aU];exact⟨b1,b2,cur,cap,c1,c2,KbE _,c4,fun i x hx=>by simp at hx⟩
  ·rw[po β hq]at ah;obtain⟨q1,q2,q3,q4,q5⟩:=hs.own β hb ah;refine⟨q1,q2,?_,q4,q5⟩;cases hr:ρ β with
   |none=>rw[hr]at q3;exact q3
   |some c=>rw[hr]at q3;exact⟨q3.1,q3.2.1,q3.2.2.move rfl rfl rfl rfl aR.rc⟩
 ·have f:∀β,hp' β≠none->hp β≠none:=fun β ah=>by
   by_cases hq:β=γ
   ·subst hq;simp[af]
   ·rwa[po β hq]at ah
  exact hs.inj β δ c (f β g1) (f δ g2) g3 g4
 ·have aW:=hs.ch i;show Qh C ρ hp' w (rV γ (.az γ e ty xs) fr i) _;unfold rV;split
  ·refine⟨sg,gh,b,_,cur,cap,aU,nX,rfl,rfl,rfl,c1,c2,c3,c4,fun k x hx=>?_,fun k x hx j y hy=>?_⟩
   ·rw[hd x (Kag hx)];exact(aT.len k x hx).1
   ·rw[hd x (Kag hx)]at hy;have:=c5 k x hx j y hy;have h3:Qo w (ay C ρ hp') y (cur.getD (k*e+j) undef):=by rw[hX];exact this
    cases y with
    |undef=>trivial
    |ao=>cases h3
    |aB=>cases h3
    |_=>exact h3
  ·generalize fr i=p at aW;cases p with
   |ao β o n=>
    by_cases ah:β=γ
    ·subst ah;simp only[cE,dq,if_true];exact vH aW
    ·simp only[cE,dq,if_neg ah];exact Qh.ln aW aR (fun x hx=>by simp[PV.refs]at hx;subst hx;exact(c0 _ ah).o) (fun x hx=>by cases hx)
   | mp β k o=>
    by_cases ah:β=γ
    ·subst ah;simp only[cE,dq,if_true];obtain⟨b',hb,g1,g2,g3⟩:=aW;rw[af]at g2;cases g2;exact⟨sg,b',_,g1,nX,g3⟩
    ·simp only[cE,dq,if_neg ah];exact Qh.ln aW aR (fun x hx=>by simp[PV.refs]at hx;subst hx;exact(c0 _ ah).o) (fun x hx=>by cases hx)
   |rb β o n=>
    by_cases ah:β=γ
    ·simp only[cE,dq,if_pos ah];trivial
    ·simp only[cE,dq,if_neg ah];exact Qh.ln aW aR (fun x hx=>by simp[PV.refs]at hx;subst hx;exact(c0 _ ah).o) (fun x hx=>by cases hx)
   | np β k o=>
    by_cases ah:β=γ
    ·subst ah;obtain⟨_,b',hb,g1,g2,g3⟩:=aW;rw[af]at g2;cases g2;exact⟨sg,b',_,g1,nX,g3⟩
    ·refine Qh.ln (p:=.np β k o) aW aR (fun x hx=>by cases hx) (fun x hx=>?_);have e1:x=β:=by simpa[PV.aI]using hx
     rw[e1];exact c0 _ ah
   |aB β o n=>exact cell (p:=.aB β o n) aW
   |aE cs=>obtain⟨vs,e1,h1,h3⟩:=aW;refine⟨vs,e1,by simpa using h1,fun k x hk=>?_⟩;simp only[Kap,Kaa]at hk;obtain⟨y,hy,rfl⟩:=hk;exact cell (h3 k y hy)
   |cW cs=>obtain⟨vs,e1,h1,h3⟩:=aW;refine⟨vs,e1,by simpa using h1,fun k x hk=>?_⟩;simp only[Kap,Kaa]at hk;obtain⟨y,hy,rfl⟩:=hk;exact cell (h3 k y hy)
   |cj cs q=>obtain⟨vs,u,e1,h1,h3,h4⟩:=aW;refine⟨vs,u,e1,by simpa using h1,fun k x hk=>?_,h4.mono aR.b8 aR.out aR.size⟩;simp only[Kap,Kaa]at hk;obtain⟨y,hy,rfl⟩:=hk;exact cell (h3 k y hy)
   | az β e' ty' ys=>
    simp only[cE];split
    ·trivial
    ·rename_i ah;obtain⟨k0,he,b',hb,cur',di,k1,k2,k3,k4,k5,k6,k7,k8,k9,vq,sN⟩:=aW;have mS:∀(k:Nat)(x:PV),ys[k]? =some x->(dX (x.aL.map (dq γ))).aL=x.aL.map (dq γ):=fun k x hx=>by refine GN fun c hc=>?_;obtain⟨y,hy,rfl⟩:=KaM.1 hc;obtain⟨j,hj⟩:=Kat hy;exact(cell (sN k x hx j y hj)).one
     refine⟨k0,he,b',hb,cur',di,k1,by rw[po β ah];exact k2,k3,k4,k5,k6,k7,by simpa using k8,k9,fun k x hx=>?_,fun k x hx j y hy=>?_⟩
     ·simp only[Kap,Kaa]at hx;obtain⟨x0,bG,rfl⟩:=hx;rw[mS k x0 bG,Ka1];exact vq k x0 bG
     ·simp only[Kap,Kaa]at hx;obtain⟨x0,bG,rfl⟩:=hx;rw[mS k x0 bG,Kap,Kaa]at hy;obtain⟨y0,cz,rfl⟩:=hy;exact cell (sN k x0 bG j y0 cz)
   | fn f a c=>
    simp only[cE,bf];split
    ·trivial
    ·rename_i hn;have u5:γ ∉ (PV.fn f a c).refs:=by simpa using hn
     by_cases hm:γ∈(PV.fn f a c).aI
     ·
      obtain⟨fv,cv,g1,g2,g3,g4,g5⟩:=aW;have xN:∀ {x:PV} {v:Value},γ ∉ x.bb->cg C ρ hp w x v->cg C ρ hp' w x v:=by
       intro x v hx h;cases x with
       | np β k o=>
        by_cases ah:β=γ
        ·subst ah;obtain⟨_,b',hb,k1,k2,k3⟩:=h;rw[af]at k2;cases k2;exact⟨sg,b',_,k1,nX,k3⟩
        ·exact cg.move (p:=.np β k o) h aR (fun x hx=>by cases hx) (fun x hx=>by simp[PV.cV]at hx;subst hx;exact(c0 _ ah).sW)
       |aB β o n=>exact cell (p:=.aB β o n) h
       |mp β k o=>exact cg.move (p:=.mp β k o) h aR (fun x aG=>by simp[PV.bb]at aG hx;subst aG;exact(c0 _ (fun e=>hx e.symm)).o) (fun x hx=>by cases hx)
       |ao β k o=>exact cg.move (p:=.ao β k o) h aR (fun x aG=>by simp[PV.bb]at aG hx;subst aG;exact(c0 _ (fun e=>hx e.symm)).o) (fun x hx=>by cases hx)
       |rb β k o=>exact cg.move (p:=.rb β k o) h aR (fun x aG=>by simp[PV.bb]at aG hx;subst aG;exact(c0 _ (fun e=>hx e.symm)).o) (fun x hx=>by cases hx)
       |_=>exact cg.move h aR (fun x hx=>by cases hx) (fun x hx=>by cases hx)
      exact⟨fv,cv,g1,g2,g3,fun k x hk=>xN (fun hx=>u5 (Az hk γ hx)) (g4 k x hk),fun k x hk=>xN (fun hx=>u5 (AG hk γ hx)) (g5 k x hk)⟩
     ·exact Qh.ln aW aR (fun x hx=>(c0 x (fun e=>u5 (e▸hx))).o) (fun x hx=>c0 x (fun e=>hm (e▸hx)))
   |_=>exact Qh.ln aW aR (fun x hx=>by cases hx) (fun x hx=>by cases hx)
theorem IU{γ e ty:Nat}{xs xs':List PV}(D:Nat->Option (Nat×Nat))(oV:fr γ= .az γ e ty xs)(hD:∀δ x,D δ=some x->hp δ=none/\2000000<=δ/\0<x.1)(hl:xs'.length=xs.length)
  (hx:∀(i:Nat)(x x':PV),xs[i]? =some x->xs'[i]? =some x'->x'.aL.length=x.aL.length/\∀(j:Nat)(y y':PV),x.aL[j]? =some y->x'.aL[j]? =some y'->y'=y∨(y= .aa/\∃δ z,D δ=some z/\y'= .ao δ 0 0)):
  Wk fr hp (ae fr γ (.az γ e ty xs')) (fun δ=>match D δ with|some x=>some ⟨x.1,x.2,[],false⟩|none=>hp δ):=by
 rintro C tmps w ⟨ρ,hs⟩;obtain⟨hp',ja⟩:∃f:HP,f=fun δ=>match D δ with|some x=>some ⟨x.1,x.2,[],false⟩|none=>hp δ:=⟨_,rfl⟩
 obtain⟨ρ',Lc⟩:∃f:Nat->Option Nat,f=fun δ=>if(D δ).isSome then none else ρ δ:=⟨_,rfl⟩
 rw[<-ja];have pD:∀δ x,D δ=some x->hp' δ=some ⟨x.1,x.2,[],false⟩/\ρ' δ=none:=fun δ x jJ=>by rw[ja,Lc];simp[jJ]
 have po:∀δ,D δ=none->hp' δ=hp δ/\ρ' δ=ρ δ:=fun δ jJ=>by rw[ja,Lc];simp[jJ]
 have hk:∀β,hp β≠none->D β=none:=fun β ah=>by
  cases hq:D β with
  |none=>rfl
  |some x=>exact absurd (hD β x hq).1 ah
 have hX:∀c,ay C ρ' hp' c->ay C ρ hp c:=by
  rintro c (h|⟨β,hb,g1,g2,g3⟩)
  ·exact .inl h
  ·cases hq:D β with
   |none=>rw[(po β hq).1]at g1;rw[(po β hq).2]at g3;exact .inr ⟨β,hb,g1,g2,g3⟩
   |some x=>rw[(pD β x hq).2]at g3;cases g3
 have aR:iN w w (ay C ρ hp) (ay C ρ' hp'):=⟨fun _ _ _=>rfl,fun c _ hn h=>hn (hX c h),Kae _⟩
 have c0:∀β,hp β≠none->kH ρ ρ' hp hp' w w β:=fun β ah=>⟨(po β (hk β ah)).2,fun hb hq=>⟨hb,by rw[(po β (hk β ah)).1];exact hq,rfl,Kae _,fun _ _ _ h=>h,fun h=>⟨h,rfl,fun _ _=>rfl⟩⟩⟩
 refine⟨ρ',hs.sz,hs.ext,hs.dE,fun β hb ah=>?_,fun β δ c g1 g2 g3 g4=>?_,fun i=>?_⟩
 ·cases hq:D β with
  |some x=>rw[(pD β x hq).1]at ah;cases ah;obtain⟨_,d2,d3⟩:=hD β x hq;refine⟨d3,(fun i x hx=>by simp at hx),?_,(fun h=>by simp[aF]at h;omega),fun h=>by simp[dy]at h;omega⟩;rw[(pD β x hq).2]
  |none=>
   rw[(po β hq).1]at ah;obtain⟨q1,q2,q3,q4,q5⟩:=hs.own β hb ah;refine⟨q1,q2,?_,(by rw[(po β hq).2];exact q4),q5⟩;rw[(po β hq).2];cases hr:ρ β with
   |none=>rw[hr]at q3;exact q3
   |some c=>rw[hr]at q3;exact⟨q3.1,q3.2.1,q3.2.2.move rfl rfl rfl rfl aR.rc⟩
 ·have f:∀β,hp' β≠none->∀c,ρ' β=some c->hp β≠none/\ρ β=some c:=fun β ah c hc=>by
   cases hq:D β with
   |none=>rw[(po β hq).1]at ah;rw[(po β hq).2]at hc;exact⟨ah,hc⟩
   |some x=>rw[(pD β x hq).2]at hc;cases hc
  exact hs.inj β δ c (f β g1 c g3).1 (f δ g2 c g4).1 (f β g1 c g3).2 (f δ g2 c g4).2
 ·have qw:=(hs.ch i).known;have sQ:Qh C ρ' hp' w (fr i) (tmps.getD i undef):=(hs.ch i).ln aR (fun β ah=>(c0 β (qw.1 β ah)).o) (fun β ah=>c0 β (qw.2 β ah));unfold ae;split
  ·rename_i hi;subst hi;rw[oV]at sQ;obtain⟨k0,he,b',hb,cur',di,k1,k2,k3,k4,k5,k6,k7,k8,k9,vq,sN⟩:=sQ;have dj:∀(k:Nat)(x':PV),xs'[k]? =some x'->∃x,xs[k]? =some x:=fun k x' du=>by
    have:k<xs.length:=by have:=(Kac.1 du).1;omega
    exact⟨_,Kaf this⟩
   refine⟨k0,he,b',hb,cur',di,k1,k2,k3,k4,k5,k6,k7,by omega,k9,fun k x' du=>?_,fun k x' du j y' jI=>?_⟩
   ·obtain⟨x,nT⟩:=dj k x' du;rw[(hx k x x' nT du).1];exact vq k x nT
   ·obtain⟨x,nT⟩:=dj k x' du;obtain⟨l1,l2⟩:=hx k x x' nT du;have hj:j<x.aL.length:=by have:=(Kac.1 jI).1;omega
    have hy:=Kaf hj;have hr:=sN k x nT j _ hy;rcases l2 j _ y' hy jI with e1|⟨e1,δ,z,e2,e3⟩
    ·rw[e1];exact hr
    ·rw[e1]at hr;obtain⟨_,d2,_⟩:=hD δ z e2;rw[e3];have hv:cur'.getD (k*e+j) undef= .slice none 0 0:=by generalize cur'.getD (k*e+j) undef=u at hr;cases hr;rfl
     exact⟨by simp[bg];omega,_,(pD δ z e2).1,Kae _,.inl ⟨(pD δ z e2).2,hv,rfl,rfl⟩⟩
  ·exact sQ
def vu:List PV->PV
 | [c]=>c
 |cs=>.agg cs
def kU(fr:Fr)(hp:HP):Nat->PV->PV
 |0,p=>p
 | k+1,p=>match p with
  |.ao β o n=>match hp β with
   |some hb=>.sl hb.e ((hb.xs.drop o).take n)
   |none=>.undef
  |.aB γ o n=>match fr γ with
   |.az _ e _ xs=>.sl e (((xs.drop o).take n).map fun x=>vu (x.aL.map (kU fr hp k)))
   |_=>.undef
  |p=>p
def nZ(fr:Fr):Nat->PV->List Nat
 |0,_=>[]
 | k+1,p=>match p with
  |.ao β _ _=>[β]
  |.aB γ o n=>match fr γ with
   |.az _ _ _ xs=>γ::(((xs.drop o).take n).flatMap fun x=>x.aL.flatMap (nZ fr k))
   |_=>[]
  |_=>[]
def vA(fr:Fr):Nat->PV->Prop
 |0,p=>match p with
  |.undef| .ao _ _ _| .aB _ _ _=>False
  |_=>True
 | k+1,p=>match p with
  |.undef=>False
  |.ao β _ _=>aF β=false
  |.aB γ o n=>match fr γ with
   |.az aO _ _ xs=>aO=γ/\aF γ=false/\o+n<=xs.length/\∀x∈(xs.drop o).take n,∀c∈x.aL,vA fr k c
   |_=>False
  |_=>True
theorem RC{tmps:Array Value}(h:Qv C ρ fr hp tmps w){β b:Nat}{hb:HB}{l:List Nat}(hB:aF β=false)(ah:hp β=some hb)(hl:β∈l)(aU:ρ β=some b):¬ay C ρ (bq hp l) b:=by
 have aK:=(h.own β hb ah).b8;rw[aU]at aK;rintro(hx|⟨γ,hg,h1,h2,h3⟩)
 ·exact Ctx.xO aK.1 (rI hB) hx
 ·obtain⟨kZ,g1,_,_,_,_,g6⟩:=s8 h1;have:=h.inj γ β b (by simp[g1]) (by simp[ah]) h3 aU;subst this;exact g6 h2 hl
theorem NH{cs:List PV}(h:∀c∈cs,c.cells=[c]):(vu cs).cells=cs:=by
 match cs,h with
 | [],_=>rfl
 | [c],h=>exact h c (by simp)
 |_::_::_,_=>rfl
theorem B2{tmps:Array Value}(h:Qv C ρ fr hp tmps w){l:List Nat}:∀(k:Nat) {p:PV} {v:Value},bZ C ρ hp w p v->vA fr k p->(∀β∈nZ fr k p,β∈l)->Qo w (ay C ρ (bq hp l)) (kU fr hp k p) v
 |0,p,v,hr,ho,_=>by
  cases p with
  |undef=>cases ho
  |ao=>cases ho
  |aB=>cases ho
  |_=>exact Qo.freeze hr
 | k +1,p,v,hr,ho,hl=>by
  cases p with
  |undef=>cases ho
  |ao β o n=>
   obtain⟨hb,ah⟩:∃hb,hp β=some hb:=by obtain⟨_,hb,h1,_⟩:=hr;exact⟨hb,h1⟩
   have:=dh.snap h hr.2 ho (hl β (by simp[nZ])) ah;simp only[kU,ah];exact this
  | aB γ o n=>
   simp only[vA]at ho;split at ho
   ·rename_i aO e ty xs af;obtain⟨rfl,hY,ho1,ho2⟩:=ho;have aW:=h.ch aO;rw[af]at aW;obtain⟨k0,he,b,hb,cur,cap,k1,k2,k3,k4,k5,k6,k7,k8,k9,vq,sN⟩:=aW;obtain⟨_,cl,b2,uA,g1,g2,rfl,g4,g5,g6⟩:=hr;rw[k2]at g1;cases g1;rw[k1]at g2;cases g2;have sD:aO∈l:=hl aO (by simp[nZ,af]);have hX:=RC (l:=l) h hY k2 sD k1;have ak:=(Kbq.1 k6).1;obtain⟨cur',ty',d1,d2⟩:=g4;rw[k6]at d1;cases d1;rw[k4]at d2;have fb:cap=o+uA:=Kbr he (by rw[<-k7,<-d2]);have key:∀i (x:PV),((xs.drop o).take n)[i]? =some x->i<n/\xs[o+i]? =some x:=fun i x hx=>by
     have hi:i<n:=by have:=(Kac.1 hx).1;simp at this;omega
     rw[Kav hi,KaO]at hx;exact⟨hi,hx⟩
    have JO:∀i (x:PV),((xs.drop o).take n)[i]? =some x->∀j (y:PV),x.aL[j]? =some y->Qo w (ay C ρ (bq hp l)) (kU fr hp k y) (cur.getD ((o+i)*e+j) undef):=fun i x hx j y hy=>by have jH:=Kag hx;refine B2 h k (sN (o+i) x (key i x hx).2 j y hy) (ho2 x jH y (Kag hy)) fun β ah=>hl β ?_;simp only[nZ,af];exact Kb3 _ (Kam.2 ⟨x,jH,Kam.2 ⟨y,Kag hy,ah⟩⟩)
    have mS:∀i (x:PV),((xs.drop o).take n)[i]? =some x->(vu (x.aL.map (kU fr hp k))).cells=x.aL.map (kU fr hp k):=fun i x hx=>by refine NH fun c hc=>?_;obtain⟨y,hy,rfl⟩:=KaM.1 hc;obtain⟨j,hj⟩:=Kat hy;exact(JO i x hx j y hj).m5.2.2
    simp only[kU,af];have hlen:(((xs.drop o).take n).map fun x=>vu (x.aL.map (kU fr hp k))).length=n:=by simp;omega
    have:=Qo.sl (w:=w) (X:=ay C ρ (bq hp l)) e (((xs.drop o).take n).map fun x=>vu (x.aL.map (kU fr hp k))) b (o*hb.e) uA (fun i j=>cur.getD ((o+i)*e+j) undef) hX ak (by omega) (by omega)
     (fun i x hx=>by simp only[Kap,Kaa]at hx;obtain⟨x0,bG,rfl⟩:=hx;rw[mS i x0 bG,Ka1];exact vq _ x0 (key i x0 bG).2)
     (fun i hi j hj=>by rw[hlen]at hi;rw[k4];have:=jn (i:=o+i) (e:=e) (o:=0) (j:=j) (n:=e) (cap:=cap) (by omega) (by omega) hj;rw[KaJ]at this;rw[show o*e+i*e+j=(o+i)*e+j by rw[Kax]];exact gT k6 (by rw[k7];exact this))
     (fun i x hx j y hy=>by simp only[Kap,Kaa]at hx;obtain⟨x0,bG,rfl⟩:=hx;rw[mS i x0 bG,Kap,Kaa]at hy;obtain⟨y0,cz,rfl⟩:=hy;exact JO i x0 bG j y0 cz)
    rw[hlen]at this;exact this
   ·exact ho.elim
  |_=>exact Qo.freeze hr
def zw(fr:Fr)(hp:HP)(k:Nat):PV->PV
 |.aE cs=>.agg (cs.map (kU fr hp k))
 |p=>kU fr hp k p
def vK(fr:Fr)(k:Nat):PV->List Nat
 |.aE cs=>cs.flatMap (nZ fr k)
 |p=>nZ fr k p
def Lm(fr:Fr)(k:Nat):PV->Prop
 |.aE cs=>∀c∈cs,vA fr k c
 |.aB γ o n=>vA fr k (.aB γ o n)
 |_=>False
theorem UC(s k:Nat)(ho:Lm fr k (fr s)):Wk fr hp (ae fr s (zw fr hp k (fr s))) (bq hp (vK fr k (fr s))):=by
 rintro C tmps w ⟨ρ,hs⟩;have hf:=hs.freeze (vK fr k (fr s));refine⟨ρ,hf.sz,hf.ext,hf.dE,hf.own,hf.inj,fun i=>?_⟩;unfold ae;split
 ·rename_i hi;subst hi;have aW:=hs.ch i;generalize au:fr i=p at *
  cases p with
  |aE cs=>obtain⟨vs,e1,h1,h2⟩:=aW;refine⟨vs,e1,by simpa using h1,fun j x hj=>?_⟩;simp only[Kap,Kaa]at hj;obtain⟨y,hy,rfl⟩:=hj;exact B2 hs k (h2 j y hy) (ho y (Kag hy)) fun β ah=>Kam.2 ⟨y,Kag hy,ah⟩
  |aB γ o n=>have:=B2 (l:=nZ fr k (.aB γ o n)) hs k (p:=.aB γ o n) aW ho (fun β ah=>ah);exact Qh.iy (aV.mr this)
  |_=>cases ho
 ·exact hf.ch i
end Go.FW
