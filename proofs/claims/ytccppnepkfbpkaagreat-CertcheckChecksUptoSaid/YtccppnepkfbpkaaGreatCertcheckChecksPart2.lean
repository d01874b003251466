/- Part 2 of the proof of CertcheckChecks: FwP, FwQ, FwR, FwS, FwT, FwU, FwV, FwW, FwX, FwY, FwZ, FwBA, FwBB, FwBC, FwBD, FwBE, FwBF, FwBG, FwBH, FwCA, FwCB, FwCC, FwCD, FwCE, FwCF, FwCG, FwCH, FwCI, FwCJ, FwCK, FwCL, FwMA, FwMB, FwMC, FwPA, FwPB, FwPC, FwSA, FwSB, FwSC, FwTA, FwSet, FwSt, FwUB, FwNA, FwNB, FwND, FwNE. Own lemmas; no conditions. -/
import Derived.Test.YtccppnepkfbpkaaGreatCertcheckChecksPart1
import Derived.LoopN
import Derived.ChangeSame
import Derived.ChangeStays
import Derived.Deep.Slices
import Derived.OpenShut
import Derived.RowKit
import Derived.ProofKit
import Derived.JoinedCond
set_option maxHeartbeats 1000000
set_option linter.unusedSimpArgs false
set_option linter.unusedVariables false
set_option linter.unnecessarySimpa false
set_option maxRecDepth 100000
namespace Go.FW
open Go
variable {C : Ctx} {ρ : Nat -> Option Nat} {fr : Fr} {hp : HP} {w : World} {a : Act} {K R : Qi}
structure KB(C:Ctx)(R:Qi)(sk:List It)(Q:Exit->Act->World->Prop):Prop where
 rS:B7 C (vc C R sk) Q
 ext:∀id ee,FW.bW id sk=some ee->∀fr hp (a:Act) w,a.defers=[]->dD C fr hp a.tmps w->vc C R ee fr hp->Q (.exit id) a w
 ret:∀fr hp (a:Act) w,a.defers=[]->dD C fr hp a.tmps w->R fr hp->Q .ret a w
theorem DV{sk:List It}{x y:SC}:vc C R (.c (.seq x y)::sk) fr hp=vc C R (.c x:: .c y::sk) fr hp:=by rw[vc]
theorem Dh{sk:List It}{id:Nat}{x:SC}:vc C R (.c (.block id x)::sk) fr hp=vc C R (.c x:: .eb id::sk) fr hp:=by rw[vc]
theorem Dy{sk:List It}:vc C R (.c .skip::sk) fr hp=vc C R sk fr hp:=by rw[vc]
theorem Gh{sk:List It}{r:RT}:vc C R (.c (.rg r)::sk) fr hp=vc C R (.o r::sk) fr hp:=by rw[vc]
theorem BQ{sk:List It}{id:Nat}:vc C R (.eb id::sk) fr hp=vc C R sk fr hp:=by rw[vc]
theorem vq{sk:List It}{J:Qi}:vc C R (.el J::sk) fr hp=J fr hp:=by rw[vc]
theorem DW{sk:List It}:vc C R (.c .ret::sk) fr hp=R fr hp:=by rw[vc]
theorem tM:vc C R [] fr hp=R fr hp:=by rw[vc]
def tO(c:PV)(A B:Prop):Prop:=match c with
 |.bool t=>(t=true->A)/\(t=false->B)
 |_=>False
theorem DA{sk:List It}{c:aJ}{x y:SC}:vc C R (.c (.cond c x y)::sk) fr hp=tO (ev fr c) (vc C R (.c x::sk) fr hp) (vc C R (.c y::sk) fr hp):=by rw[vc];rfl
def vo(C:Ctx)(R:Qi)(sk:Option (List It))(fr:Fr)(hp:HP):Prop:=match sk with
 |some sk=>vc C R sk fr hp
 |none=>False
theorem DB{sk:List It}{id:Nat}:vc C R (.c (.exit id)::sk) fr hp=vo C R (FW.bW id sk) fr hp:=by
 rw[vc];unfold vo;split
 ·rename_i h;rw[h]
 ·rename_i h;rw[h]
theorem wU{sk:List It}{x:SC}:vc C R (.c (.loop x)::sk) fr hp=∃(I:Qi)(μ:Fr->HP->Nat),(∃aK ax,Wk fr hp aK ax/\I aK ax)/\∀fr hp,I fr hp->vc C R (.c x:: .el (fun aA hp'=>∃aK ax,Wk aA hp' aK ax/\I aK ax/\μ aK ax<μ fr hp)::sk) fr hp:=by rw[vc]
theorem Wk.refl(fr:Fr)(hp:HP):Wk fr hp fr hp:=fun _ _ _ h=>h
theorem Wk.trans{mc fh Eo:Fr}{fy bI ou:HP}(h:Wk mc fy fh bI)(k:Wk fh bI Eo ou):Wk mc fy Eo ou:=fun C t w hs=>k C t w (h C t w hs)
def xC(I:Qi)(μ:Fr->HP->Nat)(n:Nat):Qi:=fun aA hp'=>∃aK ax,Wk aA hp' aK ax/\I aK ax/\μ aK ax<n
theorem aaK{sk:List It}{x:SC}(I:Qi)(μ:Fr->HP->Nat){aK:Fr}{ax:HP}(hw:Wk fr hp aK ax)(h0:I aK ax)(h:∀fr hp,I fr hp->vc C R (.c x:: .el (xC I μ (μ fr hp))::sk) fr hp):vc C R (.c (.loop x)::sk) fr hp:=by rw[wU];exact⟨I,μ,⟨aK,ax,hw,h0⟩,h⟩
theorem Wa{s:SC}(h:s.strip= .skip):s= .skip:=by cases s<;>simp[SC.strip]at h⊢
theorem Xo{s:SC}(h:s.strip= .ret):s= .ret:=by cases s<;>simp[SC.strip]at h⊢
theorem Wb{s:SC}{id:Nat}(h:s.strip= .exit id):s= .exit id:=by cases s<;>simp[SC.strip]at h ⊢;exact h
theorem Xp{s:SC}{id:Nat}{ops:Array Oper}(h:s.strip= .raw id ops):s= .raw id ops:=by cases s<;>simp[SC.strip]at h ⊢;exact h
theorem Xq{s a b:SC}(h:s.strip= .seq a b):∃a' b',s= .seq a' b'/\a'.strip=a/\b'.strip=b:=by cases s<;>simp[SC.strip]at h;exact⟨_,_,rfl,h.1,h.2⟩
theorem Wc{s a b:SC}{c:aJ}(h:s.strip= .cond c a b):∃a' b',s= .cond c a' b'/\a'.strip=a/\b'.strip=b:=by
 cases s with
 |cond c' a' b'=>simp only[SC.strip,SC.cond.injEq]at h;obtain⟨rfl,h1,h2⟩:=h;exact⟨a',b',rfl,h1,h2⟩
 |_=>simp[SC.strip]at h
theorem UO{s a:SC}{id:Nat}(h:s.strip= .block id a):∃a',s= .block id a'/\a'.strip=a:=by
 cases s with
 |block c' a'=>simp only[SC.strip,SC.block.injEq]at h;obtain⟨rfl,h1⟩:=h;exact⟨a',rfl,h1⟩
 |_=>simp[SC.strip]at h
theorem Wd{s a:SC}(h:s.strip= .loop a):∃a',s= .loop a'/\a'.strip=a:=by
 cases s with
 |loop a'=>simp only[SC.strip,SC.loop.injEq]at h;exact⟨a',rfl,h⟩
 |_=>simp[SC.strip]at h
theorem GK(hm:C.P.follows .mixedOrders=true):∀(c:Code)(s:SC)(sk:List It)(Q:Exit->Act->World->Prop)(fr:Fr)(hp:HP)(a:Act)(w:World),
  fe C.P C.N c=some s.strip->KB C R sk Q->a.defers=[]->dD C fr hp a.tmps w->vc C R (.c s::sk) fr hp->c.wp C.P Q a w:=by
 intro c;induction c with
 |skip=>intro s sk Q fr hp a w hc hL hd hs hv;simp only[fe,KaA]at hc;obtain rfl:=Wa hc.symm;rw[Dy]at hv;exact wp_skip (hL.rS fr hp a w hd hs hv)
 | region id ops draw=>
  intro s sk Q fr hp a w hc hL hd hs hv;simp only[fe]at hc;split at hc
  ·rename_i s' ek;rw[hc]at ek;exact Uo hm hL.rS ek hd hs hv
  ·split at hc
   ·rename_i uw;obtain rfl:=Xp (Kac hc).symm;have anH:draw=true:=uw;subst anH;rw[vc]at hv;obtain⟨tmps,defers⟩:=a;simp only at hd hs;subst hd;exact hv tmps w Q hs (fun aA hp' uT w' ek oz=>hL.rS aA hp' _ w' rfl ek oz)
   ·cases hc
 |seq x y kM wC=>
  intro s sk Q fr hp a w hc hL hd hs hv;simp only[fe,Kab,Kaa]at hc;obtain⟨sx,hx,sy,hy,he⟩:=hc;obtain⟨sx,sy,rfl,rfl,rfl⟩:=Xq he.symm;rw[DV]at hv;refine wp_seq (kM sx (.c sy::sk) _ fr hp a w hx ⟨fun fr hp a w hd hs hv=>?_,fun id ee he fr hp a w hd hs hv=>?_,fun fr hp a w hd hs hv=>?_⟩ hd hs hv)
  ·exact wC sy sk Q fr hp a w hy hL hd hs hv
  ·exact hL.ext id ee (by simpa[FW.bW]using he) fr hp a w hd hs hv
  ·exact hL.ret fr hp a w hd hs hv
 | cond c x y kM wC=>
  intro s sk Q fr hp a w hc hL hd hs hv;simp only[fe,Kab,Kaa]at hc;obtain⟨pc,fC,sx,hx,sy,hy,he⟩:=hc;obtain⟨sx,sy,rfl,rfl,rfl⟩:=Wc he.symm;rw[DA]at hv;obtain⟨ρ,ow⟩:=hs;have hr:=ch ow fC;unfold tO at hv;split at hv
  ·rename_i t ht;rw[ht]at hr;exact wp_cond_split hr.yb (fun h=>kM sx sk Q fr hp a w hx hL hd ⟨ρ,ow⟩ (hv.1 h)) (fun h=>wC sy sk Q fr hp a w hy hL hd ⟨ρ,ow⟩ (hv.2 h))
  ·exact hv.elim
 | block id x kM=>
  intro s sk Q fr hp a w hc hL hd hs hv;simp only[fe,Kaa]at hc;obtain⟨sx,hx,he⟩:=hc;obtain⟨sx,rfl,rfl⟩:=UO he.symm;rw[Dh]at hv;refine wp_block (kM sx (.eb id::sk) _ fr hp a w hx ⟨fun fr hp a w hd hs hv=>?_,fun Tt ee he fr hp a w hd hs hv=>?_,fun fr hp a w hd hs hv=>?_⟩ hd hs hv)
  ·rw[BQ]at hv;exact hL.rS fr hp a w hd hs hv
  ·simp only[FW.bW]at he;simp only[Exit.inBlock];by_cases hi:id=Tt
   ·subst hi;simp only[if_true]at he ⊢;cases he;exact hL.rS fr hp a w hd hs hv
   ·rw[if_neg hi]at he;rw[if_neg (fun e=>hi e.symm)];exact hL.ext Tt ee he fr hp a w hd hs hv
  ·exact hL.ret fr hp a w hd hs hv
 | loop x kM=>
  intro s sk Q fr hp a w hc hL hd hs hv;simp only[fe,Kaa]at hc;obtain⟨sx,hx,he⟩:=hc;obtain⟨sx,rfl,rfl⟩:=Wd he.symm;rw[wU]at hv;obtain⟨I,μ,⟨aK,ax,hwk,h0⟩,aos⟩:=hv;have key:∀(n:Nat)(fr:Fr)(hp:HP)(a:Act)(w:World),μ fr hp<n->I fr hp->a.defers=[]->dD C fr hp a.tmps w->Code.rounds C.P x Q n a w:=by
   intro n;induction n with
   |zero=>intro _ _ _ _ h;omega
   | succ n ih=>
    intro fr hp a w aq hI hd hs;rw[rounds_succ];refine kM sx _ _ fr hp a w hx ⟨fun aA hp' a' w' sW ek oz=>?_,fun id ee he fr hp a w hd hs hv=>?_,fun fr hp a w hd hs hv=>?_⟩ hd hs (aos fr hp hI)
    ·rw[vq]at oz;obtain⟨fh,bI,hw2,hI2,wb⟩:=oz;exact ih fh bI a' w' (by omega) hI2 sW (hw2 _ _ _ ek)
    ·exact hL.ext id ee (by simpa[FW.bW]using he) fr hp a w hd hs hv
    ·exact hL.ret fr hp a w hd hs hv
  exact wp_loop_rounds (μ aK ax+1) (key _ aK ax a w (Kck _) h0 hd (hwk _ _ _ hs))
 | exit id=>
  intro s sk Q fr hp a w hc hL hd hs hv;simp only[fe,KaA]at hc;obtain rfl:=Wb hc.symm;rw[DB]at hv;unfold vo at hv;split at hv
  ·rename_i ee he;exact wp_exit (hL.ext id ee he fr hp a w hd hs hv)
  ·exact hv.elim
 |ret=>intro s sk Q fr hp a w hc hL hd hs hv;simp only[fe,KaA]at hc;obtain rfl:=Xo hc.symm;rw[DW]at hv;exact wp_ret (hL.ret fr hp a w hd hs hv)
 |_=>intro s sk Q fr hp a w hc;simp[fe]at hc
theorem GY(hm:C.P.follows .mixedOrders=true)(c:Code)(s:SC)(sk:List It)(Q:Exit->Act->World->Prop)(fr:Fr)(hp:HP)(a:Act)(w:World)
  (hc:fe C.P C.N c=some s) (hL:KB C R sk Q) (hd:a.defers=[]) (hs:dD C fr hp a.tmps w) (hv:vc C R (.c s::sk) fr hp):c.wp C.P Q a w:=
 GK hm c s sk Q fr hp a w (by rw[NG _ _ hc];exact hc) hL hd hs hv
def PV.mD:PV->PV->Prop
 |.aa,.sl _ []=>True
 |p,q=>p=q
def PV.BB:List PV->List PV->Prop
 | [],[]=>True
 |p::ps,q::qs=>PV.mD p q/\PV.BB ps qs
 |_,_=>False
def PV.le:PV->PV->Prop
 |.agg ps,.agg qs=>PV.BB ps qs
 |p,q=>PV.mD p q
def PV.FB:List PV->List PV->Prop
 | [],[]=>True
 |p::ps,q::qs=>PV.le p q/\PV.FB ps qs
 |_,_=>False
def PV.BC:PV->PV->Prop
 |.aI ps,.aI qs=>PV.FB ps qs
 |p,q=>PV.le p q
theorem zC(p:PV):PV.mD p p:=by cases p<;>first|rfl|(unfold PV.mD;split<;>trivial)
theorem KX:∀(l:List PV),PV.BB l l
 | []=>trivial
 |p::ps=>⟨zC p,KX ps⟩
theorem Qf(p:PV):PV.le p p:=by cases p<;>first|exact KX _|(simp only[PV.le];exact zC _)
theorem Qp.le{X:Nat->Prop}{p q:PV}{v:Value}(h:Qp w X p v)(hl:PV.mD p q):Qp w X q v:=by
 unfold PV.mD at hl;split at hl
 ·cases h;exact .mE _ _ _ (KbL _)
 ·subst hl;exact h
theorem LW:∀(ps qs:List PV),PV.BB ps qs->qs.length=ps.length/\∀(i:Nat)(q:PV),qs[i]? =some q->∃p,ps[i]? =some p/\PV.mD p q
 | [],[],_=>⟨rfl,by simp⟩
 | [],_::_,h=>h.elim
 |_::_,[],h=>h.elim
 |p::ps,q::qs,h=>by
  obtain⟨h1,h2⟩:=LW ps qs h.2;refine⟨by simp[h1],fun i x hx=>?_⟩;cases i with
  |zero=>simp at hx;subst hx;exact⟨p,rfl,h.1⟩
  |succ i=>simp at hx;simpa using h2 i x hx
theorem H2:∀(ps qs:List PV),PV.FB ps qs->qs.length=ps.length/\∀(i:Nat)(q:PV),qs[i]? =some q->∃p,ps[i]? =some p/\PV.le p q
 | [],[],_=>⟨rfl,by simp⟩
 | [],_::_,h=>h.elim
 |_::_,[],h=>h.elim
 |p::ps,q::qs,h=>by
  obtain⟨h1,h2⟩:=H2 ps qs h.2;refine⟨by simp[h1],fun i x hx=>?_⟩;cases i with
  |zero=>simp at hx;subst hx;exact⟨p,rfl,h.1⟩
  |succ i=>simp at hx;simpa using h2 i x hx
theorem Q6.le{X:Nat->Prop}{p q:PV}{v:Value}(h:Q6 w X p v)(hl:PV.le p q):Q6 w X q v:=by
 by_cases hp:∃ps,p= .agg ps
 ·obtain⟨ps,rfl⟩:=hp;by_cases hq:∃qs,q= .agg qs
  ·obtain⟨qs,rfl⟩:=hq;obtain⟨h1,h2⟩:=LW ps qs hl;obtain⟨vs,rfl,g1,g2⟩:=h;refine⟨vs,rfl,by omega,fun i x hx=>?_⟩;obtain⟨p,hp,hle⟩:=h2 i x hx;exact(g2 i p hp).le hle
  ·have:PV.mD (.agg ps) q:=by cases q<;>first|exact hl|exact absurd ⟨_,rfl⟩ hq
   have:q= .agg ps:=by
    unfold PV.mD at this;split at this
    ·rename_i h1;cases h1
    ·exact this.symm
   exact absurd ⟨_,this⟩ hq
 ·have h1:Qp w X p v:=by cases p<;>first|exact h|exact absurd ⟨_,rfl⟩ hp
  have h2:PV.mD p q:=by cases p<;>first|exact hl|exact absurd ⟨_,rfl⟩ hp
  exact Q6.qD (h1.le h2)
theorem eD.le{X:Nat->Prop}{p q:PV}{v:Value}(h:eD w X p v)(hl:PV.BC p q):eD w X q v:=by
 by_cases hp:∃ps,p= .aI ps
 ·obtain⟨ps,rfl⟩:=hp;by_cases hq:∃qs,q= .aI qs
  ·obtain⟨qs,rfl⟩:=hq;obtain⟨h1,h2⟩:=H2 ps qs hl;obtain⟨vs,rfl,g1,g2⟩:=h;refine⟨vs,rfl,by omega,fun i x hx=>?_⟩;obtain⟨p,hp,hle⟩:=h2 i x hx;exact(g2 i p hp).le hle
  ·have:PV.le (.aI ps) q:=by cases q<;>first|exact hl|exact absurd ⟨_,rfl⟩ hq
   have:PV.mD (.aI ps) q:=this;have:q= .aI ps:=by
    unfold PV.mD at this;split at this
    ·rename_i h1;cases h1
    ·exact this.symm
   exact absurd ⟨_,this⟩ hq
 ·have h1:Q6 w X p v:=by cases p<;>first|exact h|exact absurd ⟨_,rfl⟩ hp
  have h2:PV.le p q:=by cases p<;>first|exact hl|exact absurd ⟨_,rfl⟩ hp
  exact eD.Ty (h1.le h2)
def oZ (P : Program) (f : FuncId) : Prop := (P.funcs[f]?).any (fun fn => fn.body.isSome && fn.name != "runtime.NumGoroutine") = true
def Qd(P:Program)(f:FuncId)(args:List PV)(R:PV->Prop):Prop:=
 oZ P f/\∀(w:World)(X:Nat->Prop)(bb:Array Value),(∀b,X b->b<w.heap.size)->bb.size=args.length->(∀(i:Nat)(x:PV),args[i]? =some x->Q6 w X x (bb.getD i undef))->
  Calls P f bb w fun e w'=>∃v r,e= .returned v/\Ext ca w w'/\eD w' X r v/\R r
theorem Qd.mono{P:Program}{f:FuncId}{args:List PV}{R R':PV->Prop}(h:Qd P f args R)(hr:∀r,R r->R' r):Qd P f args R':=
 ⟨h.1,fun w X bb h1 h2 h3=>(h.2 w X bb h1 h2 h3).mono fun _ _ ⟨v,r,e1,e2,e3,e4⟩=>⟨v,r,e1,e2,e3,hr r e4⟩⟩
theorem Qd.le{P:Program}{f:FuncId}{args args':List PV}{R:PV->Prop}(h:Qd P f args R)(hl:PV.FB args' args):Qd P f args' R:=by obtain⟨h1,h2⟩:=H2 _ _ hl;refine⟨h.1,fun w X bb g1 g2 g3=>h.2 w X bb g1 (by omega) (fun i x hx=>?_)⟩;obtain⟨p,hp,hle⟩:=h2 i x hx;exact(g3 i p hp).le hle
def gQ(args:List PV):Fr:=fun i=>(args[i]?).getD .undef
def ki(fr:Fr)(hp:HP):RV->Prop
 |.t s=>(Qt hp (fr s)).aD=true
 |.cell s n ag=>match fr s with
  |.mp β i o=>match hp β with
   |some hb=>i<hb.xs.length/\o+n<=hb.e/\(ag=false->n=1)
   |none=>False
  |_=>False
def jD(fr:Fr)(hp:HP):RV->PV
 |.t s=>Qt hp (fr s)
 |.cell s n ag=>match fr s with
  |.mp β i o=>match hp β with
   |some hb=>dQ ag n o ((hb.xs[i]?).getD .undef)
   |none=>.undef
  |_=>.undef
def fI(rs:List RV)(R:PV->Prop):Qi:=fun fr hp=>match rs with
 | [r]=>ki fr hp r/\∃p,PV.le (jD fr hp r) p/\R p
 |rs=>(∀r∈rs,ki fr hp r)/\∃p,PV.BC (.aI (rs.map (jD fr hp))) p/\R p
def jL(tmps:Array Value):ResultVar->Sem Value
 |.tmp t=>pure (tmps.getD t undef)
 |.cell x t=>do loadVar t (<-asAddr (tmps.getD x undef))
def lr(fr:Fr):RV->List Nat
 |.t s=>(fr s).refs
 |.cell _ _ _=>[]
theorem KY{l l':List Nat}(h:∀β∈l,β∈l'){b:Nat}(hx:aE C ρ (Qy hp l') b):aE C ρ (Qy hp l) b:=by
 rcases hx with hx|⟨γ,hg,h1,h2,h3⟩
 ·exact .inl hx
 ·obtain⟨lA,g1,_,_,_,g5,g6⟩:=y4 h1;refine .inr ⟨γ,lA,?_,by rw[<-g5 h2];exact h2,h3⟩;have hn:γ ∉ l:=fun hl=>g6 h2 (h γ hl);unfold Qy;rw[if_neg (by simpa using hn)];exact g1
theorem za:Qy hp []=hp:=by funext β;simp[Qy]
theorem We{p:PV}(h:(Qt hp p).aD=true):∀β∈p.refs,aO β=false:=by
 have h1:∀q:PV,(cj hp q).gF=true->∀β∈q.bw,aO β=false:=by
  intro q hq β aj;cases q with
  |mp γ i o=>simp only[PV.bw,Kaw]at aj;subst aj;cases hy:aO β with
   |false=>rfl
   |true=>simp[cj,hy,PV.gF]at hq
  |aw γ o n=>simp only[PV.bw,Kaw]at aj;subst aj;cases hy:aO β with
   |false=>rfl
   |true=>simp[cj,hy,PV.gF]at hq
  |rb=>simp[cj,PV.gF]at hq
  |_=>cases aj
 intro β aj;cases p with
 |mp γ i o=>exact h1 (.mp γ i o) (by cases hq:cj hp (.mp γ i o)<;>simp_all[Qt,PV.aD,PV.gF]) β aj
 |aw γ o n=>exact h1 (.aw γ o n) (by cases hq:cj hp (.aw γ o n)<;>simp_all[Qt,PV.aD,PV.gF]) β aj
 |rb=>simp[Qt,cj,PV.aD]at h
 |fn f first cap=>
  simp only[Qt,PV.aD,Kav,List.all_map,Kap]at h;rcases KaG.1 aj with aj|aj
  ·obtain⟨x,hx,aj⟩:=Kaq.1 aj;exact h1 x (h.1 x hx) β aj
  ·obtain⟨x,hx,aj⟩:=Kaq.1 aj;exact h1 x (h.2 x hx) β aj
 |_=>cases aj
theorem aiK{rv:RV}(h:ki fr hp rv):∀β∈lr fr rv,aO β=false:=by
 cases rv with
 |t s=>exact We h
 |cell=>intro β aj;cases aj
theorem KZ{P:Program}(hP:C.P=P){r:ResultVar}{rv:RV}(hc:gu P r=some rv)(h:Qr C ρ fr hp a.tmps w)(ho:ki fr hp rv):
  ∃v,(jL a.tmps r).run P w= .ok v w/\Q6 w (aE C ρ (Qy hp (lr fr rv))) (jD fr hp rv) v:=by
 subst hP;cases r with
 |tmp t=>simp[gu]at hc;subst hc;exact⟨_,rfl,qL h (h.cE t) (fun β aj=>aj) ho⟩
 | cell x t=>
  simp only[gu,Kab,Kaa]at hc;obtain⟨n,hn,ag,ji,rfl⟩:=hc;have hx:=h.cE x;simp only[ki]at ho;split at ho
  ·rename_i β i o oh;rw[oh]at hx;split at ho
   ·rename_i hb aj;obtain⟨h1,h2,h3⟩:=ho;obtain⟨b,dv,g1,g2,g3⟩:=hx.yH;rw[aj]at g2;cases g2;have bj:=h.own β hb aj;have aV:=bj.cB;rw[g1]at aV;obtain⟨_,lD,cur,cap,c1,c2,c3,c4,c5⟩:=aV;have fj:=Kag h1;have di:=(bj.len i _ fj).1;have dw:i<cap:=by omega
    have pg:∀j,j<n->i*hb.e+o+j<cur.size:=fun j hj=>by rw[c2];exact mR dw h2 hj
    have bS:=yY (P:=C.P) (t:=t) (b:=b) (off:=i*hb.e+o) (vs:=Array.ofFn (n:=n) fun j=>cur.getD (i*hb.e+o+j.val) undef) hn ji h3 (by simp) w
     (fun j hj=>by rw[qI (f:=fun j=>cur.getD (i*hb.e+o+j) undef) hj];exact kU c1 (pg j hj))
    obtain⟨V,hV⟩:∃V:Value,V=(if ag then .agg (Array.ofFn (n:=n) fun j=>cur.getD (i*hb.e+o+j.val) undef)else(Array.ofFn (n:=n) fun j=>cur.getD (i*hb.e+o+j.val) undef).getD 0 undef):=⟨_,rfl⟩
    rw[<-hV]at bS;refine⟨V,?_,?_⟩
    ·simp only[jL,g3,asAddr,Kan,KaU,Kak];exact bS
    ·have:Q6 w (aE C ρ hp) (dQ ag n o (hb.xs[i]'h1)) (if ag then .agg (Array.ofFn (n:=n) fun j=>cur.getD (i*hb.e+o+j.val) undef)else(Array.ofFn (n:=n) fun j=>cur.getD (i*hb.e+o+j.val) undef).getD 0 undef):=
      zM (by simp) (by rw[di];exact h2) h3 (fun j y hj hy=>by rw[qI (f:=fun j=>cur.getD (i*hb.e+o+j) undef) hj,KbX];exact c5 i _ fj (o+j) y hy)
     simp only[jD,oh,aj,fj,Kba];rw[hV];simp only[lr,za];exact this
   ·exact ho.elim
  ·exact ho.elim
theorem PL{P:Program}(hP:C.P=P)(h:Qr C ρ fr hp a.tmps w):∀(rl:List ResultVar)(rs:List RV),rl.mapM (gu P)=some rs->(∀r∈rs,ki fr hp r)->
  ∃vs:List Value,vs.length=rs.length/\(rl.mapM (jL a.tmps)).run P w= .ok vs w/\∀(i:Nat)(r:RV),rs[i]? =some r->∃v,vs[i]? =some v/\Q6 w (aE C ρ (Qy hp (rs.flatMap (lr fr)))) (jD fr hp r) v
 | [],rs,hc,_=>by simp at hc;subst hc;exact⟨[],rfl,by simp,by simp⟩
 | x::rl,rs,hc,ho=>by
  rw[Kb4]at hc;simp only[KbK,Kb7,Kab,KaA]at hc;obtain⟨r,hr,Kr,cN,rfl⟩:=hc;obtain⟨v,h1,h2⟩:=KZ hP hr h (ho r (by simp));obtain⟨vs,g1,g2,g3⟩:=PL hP h rl Kr cN (fun q hq=>ho q (by simp[hq]));refine⟨v::vs,by simp[g1],by simp[Kb4,Kan,h1,g2],fun i q hq=>?_⟩;cases i with
  |zero=>simp at hq;subst hq;exact⟨v,rfl,h2.mono (fun _ _ _=>rfl) (fun _ _ hn hx=>hn (KY (fun β aj=>by rw[KaN];exact Kb3 _ aj) hx)) (Kae _)⟩
  |succ i=>simp at hq;obtain⟨v',k1,k2⟩:=g3 i q hq;exact⟨v',by simpa using k1,k2.mono (fun _ _ _=>rfl) (fun _ _ hn hx=>hn (KY (fun β aj=>by rw[KaN];exact Kbo _ aj) hx)) (Kae _)⟩
theorem GZ{P:Program}(hP:C.P=P){fn:Func}{rs:List RV}{Rr:PV->Prop}(hc:fn.results.toList.mapM (gu P)=some rs)(h:Qr C ρ fr hp a.tmps w)(hr:fI rs Rr fr hp):
  ∃v r,(results fn a.tmps).run P w= .ok v w/\eD w (aE C ρ (Qy hp (rs.flatMap (lr fr)))) r v/\(∀β∈rs.flatMap (lr fr),aO β=false)/\Rr r:=by
 have aP:(∀r∈rs,ki fr hp r):=by
  intro r du
  match rs,hr,du with
  | [r0],hr,du=>simp at du;subst du;exact hr.1
  | [],hr,du=>cases du
  |r0::r1::rest,hr,du=>exact hr.1 r du
 have hN:∀β∈rs.flatMap (lr fr),aO β=false:=fun β aj=>by obtain⟨r,hr,aj⟩:=Kaq.1 aj;exact aiK (aP r hr) β aj
 obtain⟨vs,hlen,bS,yB⟩:=PL hP h _ rs hc aP;have fb:(results fn a.tmps).run P w= .ok (if h:vs.toArray.size=1 then vs.toArray[0]else .tuple vs.toArray) w:=by
  have e:results fn a.tmps=(do let vs<-fn.results.mapM (jL a.tmps);pure (if h:vs.size=1 then vs[0]else .tuple vs)):=rfl;rw[e,Kbr];simp only[Kan];have h2:(List.toArray<$>fn.results.toList.mapM (jL a.tmps):Sem (Array Value)).run P w= .ok vs.toArray w:=by simp[bS]
  rw[h2];rfl
 match rs,hr,hlen,yB,hN with
 | [r0],hr,hlen,yB,hN=>
  have h1:vs.toArray.size=1:=by simpa using hlen
  rw[dif_pos h1]at fb;obtain⟨v,h2,h3⟩:=yB 0 r0 rfl;have e:vs.toArray[0]=v:=by
   have:vs[0]? =some (vs.toArray[0]):=by simp[hlen]
   rw[h2]at this;exact(Kac this).symm
  rw[e]at fb;obtain⟨_,p,hle,AJ⟩:=hr;exact⟨_,_,fb,eD.Ty (h3.le hle),hN,AJ⟩
 | [],hr,hlen,yB,hN=>
  have h1:¬vs.toArray.size=1:=by simp[hlen]
  rw[dif_neg h1]at fb;obtain⟨_,p,hle,AJ⟩:=hr;exact⟨_,_,fb,eD.le (p:=.aI []) ⟨vs.toArray,rfl,by simp[hlen],by simp⟩ hle,hN,AJ⟩
 |r0::r1::rest,hr,hlen,yB,hN=>
  have h1:¬vs.toArray.size=1:=by simp[hlen]
  rw[dif_neg h1]at fb;obtain⟨_,p,hle,AJ⟩:=hr;refine⟨_,_,fb,eD.le (p:=.aI ((r0::r1::rest).map (jD fr hp))) ⟨vs.toArray,rfl,by simp[hlen],fun i x hx=>?_⟩ hle,hN,AJ⟩;simp only[Kas,Kaa]at hx;obtain⟨rv,hrv,rfl⟩:=hx;obtain⟨v,h2,h3⟩:=yB i rv hrv;rw[uZ,Kad,h2];exact h3
theorem PM{P:Program}(hP:C.P=P){fn:Func}{rs:List RV}{Rr:PV->Prop}(hc:fn.results.toList.mapM (gu P)=some rs)(h:Qr C ρ fr hp a.tmps w)(hr:fI rs Rr fr hp):
  ∃v r,(results fn a.tmps).run P w= .ok v w/\eD w C.X0 r v/\Rr r:=by
 obtain⟨v,r,h1,h2,_,h3⟩:=GZ hP hc h hr;exact⟨v,r,h1,h2.mono (fun _ _ _=>rfl) (fun _ _ hn hx=>hn (.inl hx)) (Kae _),h3⟩
theorem Wf{P:Program}(hP:C.P=P){fn:Func}{rs:List RV}{Rr:PV->Prop}(hc:fn.results.toList.mapM (gu P)=some rs)(h:Qr C ρ fr hp a.tmps w)(hr:fI rs Rr fr hp)
  {X:Nat->Prop} (hX:∀c,X c->C.X0 c∨∃β hb,aO β=true/\hp β=some hb/\hb.fz=false/\ρ β=some c):
  ∃v r,(results fn a.tmps).run P w= .ok v w/\eD w X r v/\Rr r:=by
 obtain⟨v,r,h1,h2,h3,h4⟩:=GZ hP hc h hr;refine⟨v,r,h1,h2.mono (fun _ _ _=>rfl) (fun c _ hn hx=>hn ?_) (Kae _),h4⟩;rcases hX c hx with hx|⟨β,hb,k1,k2,k3,k4⟩
 ·exact .inl hx
 ·refine .inr ⟨β,hb,?_,k3,k4⟩;have hn:β ∉ rs.flatMap (lr fr):=fun hl=>by rw[h3 β hl]at k1;cases k1
  unfold Qy;rw[if_neg (by simpa using hn)];exact k2
theorem tE {P : Program} {f : FuncId} {fn : Func} {sf : ay} {args : List PV} {Rr : PV -> Prop} (hm : P.follows .mixedOrders = true) (hf : P.funcs[f]? = some fn) (oo : (fn.name != "runtime.NumGoroutine") = true) (hc : Qe P fn = some sf) (hn : args.length <= sf.n /\ sf.n <= 1000000)
  (hv:∀C:Ctx,C.P=P->vc C (fI sf.rs Rr) [.c sf.body] (gQ args) ax):Qd P f args Rr:=by
 simp only[Qe,Kab,Kaa]at hc;obtain⟨c,hb,sb,jk,rs,cN,rfl⟩:=hc;refine⟨by simp[oZ,hf,hb];simpa using oo,fun w X bb hX eH fE=>?_⟩
 let C:Ctx:=Ctx.plain P fn.ntmps w X hX hn.2
 refine calls_of_wp hf hb ?_;have rO:(bb++Array.replicate (fn.ntmps-bb.size) undef).size=fn.ntmps:=by simp at hn ⊢;omega
 have ov:dD C (gQ args) ax (bb++Array.replicate (fn.ntmps-bb.size) undef) w:=by
  refine⟨fun _=>none,rO,Ext.refl _ _,(fun _ _ h=>by cases h),by simp[ax],by simp[ax],fun i=>?_⟩;unfold gQ;cases hi:args[i]? with
  |none=>trivial
  | some p=>
   simp only[Kba];have fO:i<bb.size:=by rw[eH];exact(Kaf.1 hi).1
   have hr:=fE i p hi;have e:(bb++Array.replicate (fn.ntmps-bb.size) undef).getD i undef=bb.getD i undef:=by rw[ko,if_pos fO]
   rw[e];refine Qm.lJ (hr.mono (fun _ _ _=>rfl) (fun b _ hn hx=>?_) (Kae _));rcases hx with hx|⟨_,_,h1,_⟩
   ·exact hn hx
   ·simp[ax]at h1
 have fin:∀(fr:Fr)(hp:HP)(a:Act)(w':World),a.defers=[]->dD C fr hp a.tmps w'->fI rs Rr fr hp->
   a.defers=[]/\∃v,(results fn a.tmps).run P w'= .ok v w'/\∃v' r,Ending.returned v= .returned v'/\Ext ca w w'/\eD w' X r v'/\Rr r:=by
  intro fr hp a w' hd ⟨ρ,hs⟩ hr;obtain⟨v,r,h1,h2,h3⟩:=PM (C:=C) rfl cN hs hr;exact⟨hd,v,h1,v,r,rfl,Ctx.Kp hs.ext,h2,h3⟩
 exact GY (C:=C) (R:=fI rs Rr) hm c sb [] _ (gQ args) ax _ w jk ⟨fun fr hp a w' hd hs hv=>(by rw[tM]at hv;exact fin fr hp a w' hd hs hv),fun id ee he=>(by simp[FW.bW]at he),fin⟩ rfl ov (hv C rfl)
end Go.FW
namespace Go.FW
open Go
variable {C : Ctx} {ρ : Nat -> Option Nat} {fr : Fr} {hp : HP} {w : World} {a : Act} {K R : Qi}
def fW(fr:Fr)(d:Option Nat)(r:PV):Fr:=match d with|some d=>ab fr d r|none=>fr
theorem Qm.FG{p:PV}{v:Value}(h:eD w (aE C ρ hp) p v):Qm C ρ hp w p v:=by
 cases p with
 |aI ps=>exact h
 |_=>exact Qm.lJ h
theorem z9{tmps:Array Value}(h:Qr C ρ fr hp tmps w):∀b,aE C ρ hp b->b<w.heap.size:=by
 rintro b (hx|⟨β,hb,h1,_,h3⟩)
 ·exact Kbh (C.AL b hx) h.ext.size
 ·have:=(h.own β hb h1).cB;rw[h3]at this;exact this.2.1
theorem Qr.FO{tmps:Array Value}{d:Option Nat}(h:Qr C ρ fr hp tmps w){p:PV}{v:Value}(hv:Qm C ρ hp w p v)(hd:∀x,d=some x->x<C.N):Qr C ρ (fW fr d p) hp (tX tmps d v) w:=by
 cases d with
 |some d=>exact h.ab hv (hd d rfl)
 |none=>exact h
theorem K0{tmps:Array Value}{first cap args:List PV}{fv cv av:Array Value}(hs:Qr C ρ fr hp tmps w)(h1:fv.size=first.length)(_h2:cv.size=cap.length)(h3:av.size=args.length)
  (qv:∀(i:Nat)(x:PV),first[i]? =some x->cF C ρ hp w x (fv.getD i undef)) (mz:∀(i:Nat)(x:PV),cap[i]? =some x->cF C ρ hp w x (cv.getD i undef)) (qw:∀(i:Nat)(x:PV),args[i]? =some x->Qm C ρ hp w x (av.getD i undef))
  (dx:((first++args++cap).map (Qt hp)).all PV.aD=true):
  ∀(i:Nat)(x:PV),((first++args++cap).map (Qt hp))[i]? =some x->Q6 w (aE C ρ (Qy hp ((first++args++cap).flatMap PV.refs))) x ((fv++av++cv).getD i undef):=by
 intro i x hx;rw[Kap]at dx;have jo:=dx x (Kaj hx);simp only[Kas,Kaa]at hx;obtain⟨p,hp',rfl⟩:=hx;have gD:=Kaj hp';have hl:∀β∈p.refs,β∈(first++args++cap).flatMap PV.refs:=fun β aj=>Kaq.2 ⟨p,gD,aj⟩;have TQ:∀ {p:PV} {v:Value},cF C ρ hp w p v->(Qt hp p).aD=true->Qm C ρ hp w p v:=by
  intro p v hr hd;cases p with
  |undef=>trivial
  |mp=>exact hr
  |aw=>exact hr
  |rb=>exact hr
  |np=>exact hr
  |aG=>exact hr
  |_=>exact Qm.lJ (Q6.qD hr)
 rw[ko];rw[Ka0]at hp';by_cases c1:i<(first++args).length
 ·rw[if_pos c1]at hp';rw[if_pos (by simp only[Kb6,h1,h3];simpa using c1),ko];rw[Ka0]at hp';by_cases c2:i<first.length
  ·rw[if_pos c2]at hp';rw[if_pos (by omega)];exact qL hs (TQ (qv i p hp') jo) hl jo
  ·rw[if_neg c2]at hp';rw[if_neg (by omega),h1];exact qL hs (qw _ p hp') hl jo
 ·rw[if_neg c1]at hp';have eH:(fv++av).size=(first++args).length:=by simp[h1,h3]
  rw[if_neg (by omega),eH];exact qL hs (TQ (mz _ p hp') jo) hl jo
theorem PN{P:Program}(hP:C.P=P){g:FuncId}{first cap args aT:List PV}{pr:Bool}{d:Option Nat}{Rr:PV->Prop}(h:Qd P g aT Rr)(cL:(first++args++cap).map (Qt hp)=aT)(dx:aT.all PV.aD=true)
  (hK:∀r,Rr r->K (fW fr d r) (Qy hp ((first++args++cap).flatMap PV.refs))):fH C pr (.fn g first cap) args d fr hp K:=by
 subst hP;refine⟨h.1,fun ρ tmps w fv cv av qk hs h1 h2 h3 qv mz qw=>?_⟩;have hf:=hs.freeze ((first++args++cap).flatMap PV.refs);refine(h.2 w _ (fv++av++cv) (z9 hf) (by rw[<-cL];simp[h1,h2,h3]) (by rw[<-cL];exact K0 hs h1 h2 h3 qv mz qw (by rw[cL];exact dx))).mono ?_;rintro e w' ⟨v,r,rfl,hx,hr,hRr⟩;exact⟨v,_,_,rfl,⟨ρ,(hf.grow hx).FO (Qm.FG hr) qk⟩,fun _=>hx,hK r hRr⟩
theorem nM{P:Program}(hP:C.P=P){g:FuncId}{first cap args aT:List PV}{pr:Bool}{d:Option Nat}{r:PV}(h:Qd P g aT (· =r))(cL:(first++args++cap).map (Qt hp)=aT)(dx:aT.all PV.aD=true)
  (hK:K (fW fr d r) (Qy hp ((first++args++cap).flatMap PV.refs))):fH C pr (.fn g first cap) args d fr hp K:=
 PN hP h cL dx (fun _ hr=>hr▸hK)
def PV.Ka:PV->Bool
 |.int .. | .bool _=>true
 |.aI ps=>ps.all fun p=>match p with| .int .. | .bool _=>true|_=>false
 |_=>false
theorem aad{X X':Nat->Prop}{p:PV}{v:Value}(hs:p.Ka=true)(h:eD w X p v):eD w X' p v:=by
 have one:∀(p:PV)(v:Value),(match p with| .int .. | .bool _=>true|_=>false:Bool)=true->Q6 w X p v->Q6 w X' p v:=by
  intro p v hs h;cases p with
  |int k n=>cases h;exact Qp.int k n
  |bool b=>cases h;exact Qp.bool b
  |_=>cases hs
 cases p with
 |int k n=>exact one (.int k n) v rfl h
 |bool b=>exact one (.bool b) v rfl h
 |aI ps=>obtain⟨vs,rfl,h1,h2⟩:=h;simp only[PV.Ka,Kap]at hs;exact⟨vs,rfl,h1,fun i x hx=>one x _ (hs x (Kaj hx)) (h2 i x hx)⟩
 |_=>cases hs
def pS(C:Ctx)(R:Qi)(c:PV)(x y:SC)(sk:List It)(fr:Fr)(hp:HP):Prop:=tO c (vc C R (.c x::sk) fr hp) (vc C R (.c y::sk) fr hp)
def sP(C:Ctx)(R:Qi)(x y:RT)(sk:List It)(fr:Fr)(hp:HP):Prop:=vc C R (.o x::sk) fr hp/\vc C R (.o y::sk) fr hp
def ib(C:Ctx)(p:PV)(s:Nat)(want:Bool)(o:cc)(fr:Fr)(hp:HP)(K:Qi):Prop:=match p with
  |.bool t=>(t=want->bg C o (ab fr s (.bool want)) hp K)/\(t=(!want)->jv o (ab fr s (.bool !want)) hp K)
  |.aI []=>jv o fr hp K
  |_=>False
theorem Qb{p:Prop}[Decidable p]{x y:SC}{sk:List It}(h1:p->vc C R (.c x::sk) fr hp)(h2:¬p->vc C R (.c y::sk) fr hp):pS C R (.bool (decide p)) x y sk fr hp:=
 ⟨fun h=>h1 (of_decide_eq_true h),fun h=>h2 (of_decide_eq_false h)⟩
theorem zk{b:Bool}{x y:SC}{sk:List It}(h1:b=true->vc C R (.c x::sk) fr hp)(h2:b=false->vc C R (.c y::sk) fr hp):pS C R (.bool b) x y sk fr hp:=⟨h1,h2⟩
theorem Q5{p:Prop}[Decidable p]{s:Nat}{o:cc}(h1:p->ib C (.bool true) s true o (ab fr s (.bool true)) hp K)(h2:¬p->ib C (.bool false) s true o (ab fr s (.bool false)) hp K):ib C (.bool (decide p)) s true o fr hp K:=by
 have hu:∀(b:Bool),ab (ab fr s (.bool b)) s (.bool b)=ab fr s (.bool b):=fun b=>by funext i;unfold ab;split<;>rfl
 refine⟨fun h=>?_,fun h=>?_⟩
 ·have:=(h1 (of_decide_eq_true h)).1 rfl
  rwa[hu]at this
 ·have:=(h2 (of_decide_eq_false h)).2 rfl
  rwa[show(!true)=false from rfl,hu]at this
theorem Qo{p:Prop}[Decidable p]{s:Nat}{o:cc}(h1:p->ib C (.bool true) s false o (ab fr s (.bool true)) hp K)(h2:¬p->ib C (.bool false) s false o (ab fr s (.bool false)) hp K):ib C (.bool (decide p)) s false o fr hp K:=by
 have hu:∀(b:Bool),ab (ab fr s (.bool b)) s (.bool b)=ab fr s (.bool b):=fun b=>by funext i;unfold ab;split<;>rfl
 refine⟨fun h=>?_,fun h=>?_⟩
 ·have:=(h2 (of_decide_eq_false h)).1 rfl
  rwa[hu]at this
 ·have:=(h1 (of_decide_eq_true h)).2 rfl
  rwa[show(!false)=true from rfl,hu]at this
theorem wV{b want:Bool}{s:Nat}{o:cc}(h1:b=true->ib C (.bool true) s want o (ab fr s (.bool true)) hp K)(h2:b=false->ib C (.bool false) s want o (ab fr s (.bool false)) hp K):ib C (.bool b) s want o fr hp K:=by
 have:= @Q5 C fr hp K (b=true) _ s o;have e:b=decide (b=true):=by cases b<;>rfl
 rw[e];cases want with
 |true=>exact Q5 h1 (fun h=>h2 (by simpa using h))
 |false=>exact Qo h1 (fun h=>h2 (by simpa using h))
theorem aae{sk:List It}{c:aJ}{x y:SC}:vc C R (.c (.cond c x y)::sk) fr hp=pS C R (ev fr c) x y sk fr hp:=DA
theorem afD{sk:List It}{x y:RT}:vc C R (.o (.br x y)::sk) fr hp=sP C R x y sk fr hp:=Nf
theorem ae5{sk:List It}{o:cc}{r:RT}:vc C R (.o (.o none o r)::sk) fr hp=bg C o fr hp (vc C R (.o r::sk)):=An
theorem ae6{sk:List It}{s:Nat}{b:Bool}{o:cc}{r:RT}:vc C R (.o (.o (some (s,b)) o r)::sk) fr hp=ib C (fr s) s b o fr hp (vc C R (.o r::sk)):=An
theorem vcs:
  (∀(C:Ctx)(R:Qi)(sk:List It)(x y:SC)(fr:Fr)(hp:HP),vc C R (.c (.seq x y)::sk) fr hp=vc C R (.c x:: .c y::sk) fr hp)/\
  (∀(C:Ctx)(R:Qi)(sk:List It)(id:Nat)(x:SC)(fr:Fr)(hp:HP),vc C R (.c (.block id x)::sk) fr hp=vc C R (.c x:: .eb id::sk) fr hp)/\
  (∀(C:Ctx)(R:Qi)(sk:List It)(fr:Fr)(hp:HP),vc C R (.c .skip::sk) fr hp=vc C R sk fr hp)/\
  (∀(C:Ctx)(R:Qi)(sk:List It)(r:RT)(fr:Fr)(hp:HP),vc C R (.c (.rg r)::sk) fr hp=vc C R (.o r::sk) fr hp)/\
  (∀(C:Ctx)(R:Qi)(sk:List It)(id:Nat)(fr:Fr)(hp:HP),vc C R (.eb id::sk) fr hp=vc C R sk fr hp)/\
  (∀(C:Ctx)(R:Qi)(sk:List It)(J:Qi)(fr:Fr)(hp:HP),vc C R (.el J::sk) fr hp=J fr hp)/\
  (∀(C:Ctx)(R:Qi)(sk:List It)(fr:Fr)(hp:HP),vc C R (.c .ret::sk) fr hp=R fr hp)/\
  (∀(C:Ctx)(R:Qi)(fr:Fr)(hp:HP),vc C R [] fr hp=R fr hp)/\
  (∀(C:Ctx)(R:Qi)(sk:List It)(c:aJ)(x y:SC)(fr:Fr)(hp:HP),vc C R (.c (.cond c x y)::sk) fr hp=pS C R (ev fr c) x y sk fr hp)/\
  (∀(C:Ctx)(R:Qi)(sk:List It)(id:Nat)(fr:Fr)(hp:HP),vc C R (.c (.exit id)::sk) fr hp=vo C R (FW.bW id sk) fr hp)/\
  (∀(C:Ctx)(R:Qi)(sk:List It)(fr:Fr)(hp:HP),vc C R (.o .nil::sk) fr hp=vc C R sk fr hp)/\
  (∀(C:Ctx)(R:Qi)(sk:List It)(o:cc)(r:RT)(fr:Fr)(hp:HP),vc C R (.o (.o none o r)::sk) fr hp=bg C o fr hp (vc C R (.o r::sk)))/\
  (∀(C:Ctx)(R:Qi)(sk:List It)(s:Nat)(b:Bool)(o:cc)(r:RT)(fr:Fr)(hp:HP),vc C R (.o (.o (some (s,b)) o r)::sk) fr hp=ib C (fr s) s b o fr hp (vc C R (.o r::sk)))/\
  (∀(C:Ctx)(R:Qi)(sk:List It)(x y:RT)(fr:Fr)(hp:HP),vc C R (.o (.br x y)::sk) fr hp=sP C R x y sk fr hp)/\
  (∀(C:Ctx)(R:Qi)(x y:SC)(sk:List It)(fr:Fr)(hp:HP),pS C R (.bool true) x y sk fr hp=vc C R (.c x::sk) fr hp)/\
  (∀(C:Ctx)(R:Qi)(x y:SC)(sk:List It)(fr:Fr)(hp:HP),pS C R (.bool false) x y sk fr hp=vc C R (.c y::sk) fr hp)/\
  (∀(C:Ctx)(R:Qi)(sk:List It)(fr:Fr)(hp:HP),vo C R (some sk) fr hp=vc C R sk fr hp)/\
  (∀(id:Nat)(s:SC)(sk:List It),FW.bW id (.c s::sk)=FW.bW id sk)/\
  (∀(id:Nat)(r:RT)(sk:List It),FW.bW id (.o r::sk)=FW.bW id sk)/\
  (∀(id:Nat)(J:Qi)(sk:List It),FW.bW id (.el J::sk)=FW.bW id sk)/\
  (∀(id i:Nat)(sk:List It),FW.bW id (.eb i::sk)=if i=id then some sk else FW.bW id sk)/\
  (∀(C:Ctx)(s:Nat)(o:cc)(fr:Fr)(hp:HP)(K:Qi),ib C (.bool true) s true o fr hp K=bg C o (ab fr s (.bool true)) hp K)/\
  (∀(C:Ctx)(s:Nat)(o:cc)(fr:Fr)(hp:HP)(K:Qi),ib C (.bool false) s true o fr hp K=jv o (ab fr s (.bool false)) hp K)/\
  (∀(C:Ctx)(s:Nat)(o:cc)(fr:Fr)(hp:HP)(K:Qi),ib C (.bool true) s false o fr hp K=jv o (ab fr s (.bool true)) hp K)/\
  (∀(C:Ctx)(s:Nat)(o:cc)(fr:Fr)(hp:HP)(K:Qi),ib C (.bool false) s false o fr hp K=bg C o (ab fr s (.bool false)) hp K)/\
  (∀(C:Ctx)(s:Nat)(b:Bool)(o:cc)(fr:Fr)(hp:HP)(K:Qi),ib C (.aI []) s b o fr hp K=jv o fr hp K):=by
 refine⟨fun _ _ _ _ _ _ _=>DV,fun _ _ _ _ _ _ _=>Dh,fun _ _ _ _ _=>Dy,fun _ _ _ _ _ _=>Gh,fun _ _ _ _ _ _=>BQ,fun _ _ _ _ _ _=>vq,fun _ _ _ _ _=>DW,fun _ _ _ _=>tM,fun _ _ _ _ _ _ _ _=>aae,
  fun _ _ _ _ _ _=>DB,fun _ _ _ _ _=>z8,fun _ _ _ _ _ _ _=>ae5,fun _ _ _ _ _ _ _ _ _=>ae6,fun _ _ _ _ _ _ _=>afD,fun _ _ _ _ _ _ _=>?_,fun _ _ _ _ _ _ _=>?_,fun _ _ _ _ _=>rfl,fun _ _ _=>rfl,fun _ _ _=>rfl,fun _ _ _=>rfl,fun _ _ _=>rfl,?_,?_,?_,?_,fun _ _ _ _ _ _ _=>rfl⟩
 ·simp[pS,tO]
 ·simp[pS,tO]
 all_goals intros;simp[ib]
end Go.FW
namespace Go.FW
open Go
variable {C : Ctx} {fr : Fr} {hp : HP} {K R : Qi}
theorem va{n:Int}(h1: -9223372036854775808<=n)(h2:n<=9223372036854775807):IntKind.i64.wrap n=n:=by rw[IntKind.wrap_i64];omega
theorem aaf{n:Int}(h1: -2147483648<=n)(h2:n<=2147483647):IntKind.i32.wrap n=n:=by rw[IntKind.wrap_i32];omega
theorem se{n:Int}(h1:0<=n)(h2:n<=18446744073709551615):IntKind.u64.wrap n=n:=by rw[IntKind.wrap_u64];omega
theorem Dc{n:Int}(h1:0<=n)(h2:n<=4294967295):IntKind.u32.wrap n=n:=by rw[IntKind.wrap_u32];omega
theorem aag{n:Int}(h1:0<=n)(h2:n<=65535):IntKind.u16.wrap n=n:=by simp only[IntKind.wrap,IntKind.bits,IntKind.signed];simp;omega
theorem acu{n:Int}(h1:0<=n)(h2:n<=255):IntKind.u8.wrap n=n:=by rw[IntKind.wrap_u8];omega
theorem acv{x y:Int}(h:0<=x):x.tdiv y=x/y:=Int.tdiv_eq_ediv_of_nonneg h
theorem acw{x y:Int}(h:0<=x):x.tmod y=x%y:=Int.tmod_eq_emod_of_nonneg h
def iD(hb:Option HB)(n:Nat)(ag:Bool)(i o:Nat)(d:Nat)(fr:Fr)(hp:HP)(K:Qi):Prop:=match hb with
 |some hb=>∃h:i<hb.xs.length,o+n<=hb.e/\(ag=false->n=1)/\K (ab fr d (dQ ag n o (hb.xs[i]'h))) hp
 |none=>False
def stM (hb:Option HB) (β:Nat) (n:Nat) (i o:Nat) (v:PV) (fr:Fr) (hp:HP) (K:Qi):Prop:=match hb with
  |some hb=>hb.fz=false/\v.aD=true/\v.cells.length=n/\∃h:i<hb.xs.length,o+n<=hb.e/\
        K fr (Qk hp β { hb with xs:=hb.xs.set i (if n=hb.e then v else rW (hb.xs[i]'h) o v) })
  |none=>False
def vC(R:PV->Prop)(p:PV):Prop:=p.aD=true/\∃q,PV.le p q/\R q
theorem Qc{p r:PV}(h:p=r)(hd:r.aD=true):vC (· =r) p:=by subst h;exact⟨hd,_,Qf _,rfl⟩
theorem oL{p r:PV}(h:PV.le p r)(hd:p.aD=true):vC (· =r) p:=⟨hd,_,h,rfl⟩
theorem LX{e ty n:Nat}{ag fz:Bool}{o d:Nat}{x:PV}(h:o+n<=e)(ha:ag=false->n=1):iD (some ⟨e,ty,[x],fz⟩) n ag 0 o d fr hp K=K (ab fr d (dQ ag n o x)) hp:=by simp[iD,h];intro _;exact ha
theorem oO{e ty n i:Nat}{ag fz:Bool}{o d:Nat}{xs:List PV}(h:i<xs.length)(h1:o+n<=e)(ha:ag=false->n=1):iD (some ⟨e,ty,xs,fz⟩) n ag i o d fr hp K=K (ab fr d (dQ ag n o (xs[i]'h))) hp:=by simp[iD,h,h1];intro _;exact ha
theorem ae7{e ty n β i:Nat}{o:Nat}{xs:List PV}{v:PV}(h:i<xs.length)(hv:v.aD=true)(hl:v.cells.length=n)(h1:o+n<=e):stM (some ⟨e,ty,xs,false⟩) β n i o v fr hp K=K fr (Qk hp β ⟨e,ty,xs.set i (if n=e then v else rW (xs[i]'h) o v),false⟩):=by simp[stM,h,h1,hv,hl]
theorem Xr{ty n β i:Nat}{xs:List PV}{v:PV}(h:i<xs.length)(hv:v.aD=true)(hl:v.cells.length=n):stM (some ⟨n,ty,xs,false⟩) β n i 0 v fr hp K=K fr (Qk hp β ⟨n,ty,xs.set i v,false⟩):=by rw[ae7 h hv hl (by omega)];simp
theorem FX{e d:Nat}{k:IntKind}{m:Int}{xs:List PV}(h0:0<=m)(h:m<xs.length):Q7 e (.sl e xs) (.int k m) d fr hp K=K (ab fr d (.pt (xs[m.toNat]'(by omega)).cells)) hp:=by
 have:m.toNat<xs.length:=by omega
 simp[Q7,h0,this]
theorem ve{α:Type}{f:α->PV}{e d:Nat}{k:IntKind}{m:Int}{xs:List α}(h0:0<=m)(h:m<xs.length):Q7 e (.sl e (xs.map f)) (.int k m) d fr hp K=K (ab fr d (.pt (f (xs[m.toNat]'(by omega))).cells)) hp:=by rw[FX h0 (by simpa using h)];simp
theorem DX{e d β o n:Nat}{k:IntKind}{m:Int}(h0:0<=m)(h:m<n)(he:(hp β).map (·.e)=some e):Q7 e (.aw β o n) (.int k m) d fr hp K=K (ab fr d (.mp β (o+m.toNat) 0)) hp:=by
 have:m.toNat<n:=by omega
 simp[Q7,h0,this,he]
theorem BR{e by_ ty d:Nat}{z:PV}{k k':IntKind}{L Cc:Int}(h0:0<e)(hz:z.cells.length=e)(h1:0<=L)(h2:L<=Cc)(h3:by_*Cc<=281474976710656)(h4:Cc<=9223372036854775807):
  nD e by_ ty z (.int k L) (.int k' Cc) d fr hp K=K (ab (bE d fr) d (.ms d L.toNat)) (Qk hp d ⟨e,ty,List.replicate L.toNat z,false⟩):=by
 simp[nD,h0,hz,h1,h2,h3,h4]
theorem ae8{n ty d β o m:Nat}(hB:aO β=true):eU n ty (.aw β o m) d fr hp K=K (ab fr d (.rb β o m)) hp:=by simp[eU,hB]
theorem aiL{d β o m:Nat}:bo 1 false (.rb β o m) d fr hp K=K (ab fr d (.aw β o m)) hp:=by simp[bo]
theorem G1{e by_ ty d:Nat}{x:PV}{ys:List PV}(hs:ju hp x=some (e,ys))(h0:0<e)(h1:ys.length*by_<=140737488355328)(h2:ys.length<=9223372036854775807):
  iL e by_ ty .aa x d fr hp K=K (ab (bE d fr) d (.ms d ys.length)) (Qk hp d ⟨e,ty,ys,false⟩):=by
 simp[iL,hs,h0,h1,h2]
theorem G2{e by_ ty d β n:Nat}{x:PV}{ys xs:List PV}(hs:ju hp x=some (e,ys))(hb:hp β=some ⟨e,ty,xs,false⟩)(h0:0<e)(hn:n<=xs.length)(h1:(n+ys.length)*by_<=140737488355328)(h2:n+ys.length<=9223372036854775807)(hB:bC β=false:=by decide):
  iL e by_ ty (.ms β n) x d fr hp K=K (ab (bE β fr) d (.ms β (n+ys.length))) (Qk hp β ⟨e,ty,xs.take n++ys,false⟩):=by
 simp[iL,hs,hb,h0,hn,h1,h2,hB]
theorem Gi{e d:Nat}{xs:List PV}{lo hi:Option PV}{L H:Int}(h1:gZ 0 lo=some L)(h2:gZ xs.length hi=some H)(h3:0<=L)(h4:L<=H)(h5:H<=xs.length):
  iE e (.sl e xs) lo hi none d fr hp K=K (ab fr d (.sl e ((xs.take H.toNat).drop L.toNat))) hp:=by
 have hM:gZ (xs.length) none=some (xs.length:Int):=rfl;simp only[iE,h1,h2,hM];simp[h3,h4,h5]
theorem aiM{e d:Nat}{xs:List PV}{k:IntKind}{H:Int}(h4:0<=H)(h5:H<=xs.length):
  iE e (.sl e xs) none (some (.int k H)) none d fr hp K=K (ab fr d (.sl e (xs.take H.toNat))) hp:=by
 rw[Gi (L:=0) (H:=H) rfl rfl (by omega) h4 h5];simp
theorem aiN{e d:Nat}{xs:List PV}{k:IntKind}{L:Int}(h4:0<=L)(h5:L<=xs.length):
  iE e (.sl e xs) (some (.int k L)) none none d fr hp K=K (ab fr d (.sl e (xs.drop L.toNat))) hp:=by
 rw[Gi (L:=L) (H:=xs.length) rfl rfl h4 h5 (by omega)];simp
theorem api:
  (∀(C:Ctx)(d:Nat)(x:aJ)(fr:Fr)(hp:HP)(K:Qi),bg C (.mv d x) fr hp K=K (ab fr d (ev fr x)) hp)/\
  (∀(C:Ctx)(d:Nat)(c a b:aJ)(fr:Fr)(hp:HP)(K:Qi),bg C (.pick d c a b) fr hp K=sC (ev fr c) (ev fr a) (ev fr b) d fr hp K)/\
  (∀(C:Ctx)(d:Nat)(op:BinOp)(bt:Bool)(a b:aJ)(fr:Fr)(hp:HP)(K:Qi),bg C (.bin d op bt a b) fr hp K=bQ op bt (ev fr a) (ev fr b) d fr hp K)/\
  (∀(C:Ctx)(d:Nat)(op:UnOp)(a:aJ)(fr:Fr)(hp:HP)(K:Qi),bg C (.un d op a) fr hp K=uU op (ev fr a) d fr hp K)/\
  (∀(C:Ctx)(d:Nat)(k:IntKind)(a:aJ)(fr:Fr)(hp:HP)(K:Qi),bg C (.conv d k a) fr hp K=vp k (ev fr a) d fr hp K)/\
  (∀(C:Ctx)(d:Nat)(a:aJ)(fr:Fr)(hp:HP)(K:Qi),bg C (.len d a) fr hp K=oY (ev fr a) d fr hp K)/\
  (∀(C:Ctx)(d:Nat)(a b:aJ)(fr:Fr)(hp:HP)(K:Qi),bg C (.mx d a b) fr hp K=wI (ev fr a) (ev fr b) d fr hp K)/\
  (∀(C:Ctx)(d:Nat)(a b:aJ)(fr:Fr)(hp:HP)(K:Qi),bg C (.mn d a b) fr hp K=wG (ev fr a) (ev fr b) d fr hp K)/\
  (∀(C:Ctx)(d e:Nat)(a b:aJ)(fr:Fr)(hp:HP)(K:Qi),bg C (.idx d e a b) fr hp K=Q7 e (ev fr a) (ev fr b) d fr hp K)/\
  (∀(C:Ctx)(d n e:Nat)(a b:aJ)(fr:Fr)(hp:HP)(K:Qi),bg C (.wB d n e a b) fr hp K=jI n e (ev fr a) (ev fr b) d fr hp K)/\
  (∀(C:Ctx)(d n e:Nat)(ag:Bool)(a b:aJ)(fr:Fr)(hp:HP)(K:Qi),bg C (.Bx d n e ag a b) fr hp K=xJ n e ag (ev fr a) (ev fr b) d fr hp K)/\
  (∀(C:Ctx)(d off:Nat)(a:aJ)(fr:Fr)(hp:HP)(K:Qi),bg C (.bY d off a) fr hp K=rf off (ev fr a) d fr hp K)/\
  (∀(C:Ctx)(d off n:Nat)(ag:Bool)(a:aJ)(fr:Fr)(hp:HP)(K:Qi),bg C (.ye d off n ag a) fr hp K=qV off n ag (ev fr a) d fr hp K)/\
  (∀(C:Ctx)(d n:Nat)(ag:Bool)(a:aJ)(fr:Fr)(hp:HP)(K:Qi),bg C (.ld d n ag a) fr hp K=bo n ag (ev fr a) d fr hp K)/\
  (∀(C:Ctx)(n:Nat)(a b:aJ)(fr:Fr)(hp:HP)(K:Qi),bg C (.st n a b) fr hp K=nH n (ev fr a) (ev fr b) fr hp K)/\
  (∀(C:Ctx)(d n ty:Nat)(a:aJ)(fr:Fr)(hp:HP)(K:Qi),bg C (.box d n ty a) fr hp K=eU n ty (ev fr a) d fr hp K)/\
  (∀(C:Ctx)(d n ty:Nat)(z:PV)(fr:Fr)(hp:HP)(K:Qi),bg C (.alloc d n ty z) fr hp K=eU n ty z d fr hp K)/\
  (∀(C:Ctx)(d e by_ ty:Nat)(z:PV)(l c:aJ)(fr:Fr)(hp:HP)(K:Qi),bg C (.mk d e by_ ty z l c) fr hp K=nD e by_ ty z (ev fr l) (ev fr c) d fr hp K)/\
  (∀(C:Ctx)(d e ty:Nat)(ps:List aJ)(fr:Fr)(hp:HP)(K:Qi),bg C (.bs d e ty ps) fr hp K=kF e ty (ps.map (ev fr)) d fr hp K)/\
  (∀(C:Ctx)(d e by_ ty:Nat)(a b:aJ)(fr:Fr)(hp:HP)(K:Qi),bg C (.app d e by_ ty a b) fr hp K=iL e by_ ty (ev fr a) (ev fr b) d fr hp K)/\
  (∀(C:Ctx)(d e:Nat)(a b:aJ)(fr:Fr)(hp:HP)(K:Qi),bg C (.uk d e a b) fr hp K=tW e (ev fr a) (ev fr b) d fr hp K)/\
  (∀(C:Ctx)(d e:Nat)(a:aJ)(l h m:Option aJ)(fr:Fr)(hp:HP)(K:Qi),bg C (.sl d e a l h m) fr hp K=iE e (ev fr a) (l.map (ev fr)) (h.map (ev fr)) (m.map (ev fr)) d fr hp K)/\
  (∀(C:Ctx)(d:Nat)(a:aJ)(i:Nat)(fr:Fr)(hp:HP)(K:Qi),bg C (.ext d a i) fr hp K=lY (ev fr a) i d fr hp K)/\
  (∀(C:Ctx)(d:Nat)(z:List PV)(ps:List (Nat×Nat×aJ))(fr:Fr)(hp:HP)(K:Qi),bg C (.ej d z ps) fr hp K=ky z (ps.map fun p=>(p.1,p.2.1,ev fr p.2.2)) d fr hp K)/\
  (∀(C:Ctx)(d f:Nat)(x y:List aJ)(fr:Fr)(hp:HP)(K:Qi),bg C (.fn d f x y) fr hp K=((x.map (ev fr)++y.map (ev fr)).all PV.kN=true/\K (ab fr d (.fn f (x.map (ev fr)) (y.map (ev fr)))) hp))/\
  (∀(C:Ctx)(d:Option Nat)(pr:Bool)(f:aJ)(ya:List aJ)(fr:Fr)(hp:HP)(K:Qi),bg C (.call d pr f ya) fr hp K=fH C pr (ev fr f) (ya.map (ev fr)) d fr hp K)/\
  (∀(C:Ctx)(d:Option Nat)(x:aJ)(fr:Fr)(hp:HP)(K:Qi),bg C (.BE d x) fr hp K=Am (ev fr x) d fr hp K)/\
  (∀(fr:Fr)(n:Nat),ev fr (.t n)=fr n)/\(∀(fr:Fr)(p:PV),ev fr (.c p)=p):=by
 refine⟨?_,?_,?_,?_,?_,?_,?_,?_,?_,?_,?_,?_,?_,?_,?_,?_,?_,?_,?_,?_,?_,?_,?_,?_,?_,?_,?_,?_,?_⟩<;>intros<;>rfl
theorem apj:
  (∀(bt:Bool)(k:IntKind)(x y:Int)(d:Nat)(fr:Fr)(hp:HP)(K:Qi),bQ .add bt (.int k x) (.int k y) d fr hp K=K (ab fr d (.int k (k.wrap (x+y)))) hp)/\
  (∀(bt:Bool)(k:IntKind)(x y:Int)(d:Nat)(fr:Fr)(hp:HP)(K:Qi),bQ .sub bt (.int k x) (.int k y) d fr hp K=K (ab fr d (.int k (k.wrap (x-y)))) hp)/\
  (∀(bt:Bool)(k:IntKind)(x y:Int)(d:Nat)(fr:Fr)(hp:HP)(K:Qi),bQ .mul bt (.int k x) (.int k y) d fr hp K=K (ab fr d (.int k (k.wrap (x*y)))) hp)/\
  (∀(bt:Bool)(k:IntKind)(x y:Int)(d:Nat)(fr:Fr)(hp:HP)(K:Qi),bQ .eql bt (.int k x) (.int k y) d fr hp K=K (ab fr d (.bool (decide (x=y)))) hp)/\
  (∀(bt:Bool)(k:IntKind)(x y:Int)(d:Nat)(fr:Fr)(hp:HP)(K:Qi),bQ .neq bt (.int k x) (.int k y) d fr hp K=K (ab fr d (.bool (decide (¬x=y)))) hp)/\
  (∀(bt:Bool)(k:IntKind)(x y:Int)(d:Nat)(fr:Fr)(hp:HP)(K:Qi),bQ .lss bt (.int k x) (.int k y) d fr hp K=K (ab fr d (.bool (decide (x<y)))) hp)/\
  (∀(bt:Bool)(k:IntKind)(x y:Int)(d:Nat)(fr:Fr)(hp:HP)(K:Qi),bQ .leq bt (.int k x) (.int k y) d fr hp K=K (ab fr d (.bool (decide (x<=y)))) hp)/\
  (∀(bt:Bool)(k:IntKind)(x y:Int)(d:Nat)(fr:Fr)(hp:HP)(K:Qi),bQ .gtr bt (.int k x) (.int k y) d fr hp K=K (ab fr d (.bool (decide (y<x)))) hp)/\
  (∀(bt:Bool)(k:IntKind)(x y:Int)(d:Nat)(fr:Fr)(hp:HP)(K:Qi),bQ .geq bt (.int k x) (.int k y) d fr hp K=K (ab fr d (.bool (decide (y<=x)))) hp)/\
  (∀(x y:Bool)(d:Nat)(fr:Fr)(hp:HP)(K:Qi),bQ .eql true (.bool x) (.bool y) d fr hp K=K (ab fr d (.bool (x==y))) hp)/\
  (∀(x y:Bool)(d:Nat)(fr:Fr)(hp:HP)(K:Qi),bQ .neq true (.bool x) (.bool y) d fr hp K=K (ab fr d (.bool (!(x==y)))) hp)/\
  (∀(b:Bool)(d:Nat)(fr:Fr)(hp:HP)(K:Qi),uU .not (.bool b) d fr hp K=K (ab fr d (.bool (!b))) hp)/\
  (∀(k:IntKind)(n:Int)(d:Nat)(fr:Fr)(hp:HP)(K:Qi),uU .neg (.int k n) d fr hp K=K (ab fr d (.int k (k.wrap (0-n)))) hp)/\
  (∀(k k':IntKind)(n:Int)(d:Nat)(fr:Fr)(hp:HP)(K:Qi),vp k (.int k' n) d fr hp K=K (ab fr d (.int k (k.wrap n))) hp)/\
  (∀(d:Nat)(fr:Fr)(hp:HP)(K:Qi),oY .aa d fr hp K=K (ab fr d (.int .i64 0)) hp)/\
  (∀(e:Nat)(xs:List PV)(d:Nat)(fr:Fr)(hp:HP)(K:Qi),oY (.sl e xs) d fr hp K=K (ab fr d (.int .i64 xs.length)) hp)/\
  (∀(β o n:Nat)(d:Nat)(fr:Fr)(hp:HP)(K:Qi),oY (.aw β o n) d fr hp K=K (ab fr d (.int .i64 n)) hp)/\
  (∀(k k':IntKind)(x y:Int)(d:Nat)(fr:Fr)(hp:HP)(K:Qi),wI (.int k x) (.int k' y) d fr hp K=K (ab fr d (.int k (max x y))) hp)/\
  (∀(k k':IntKind)(x y:Int)(d:Nat)(fr:Fr)(hp:HP)(K:Qi),wG (.int k x) (.int k' y) d fr hp K=K (ab fr d (.int k (min x y))) hp)/\
  (∀(a b:PV)(d:Nat)(fr:Fr)(hp:HP)(K:Qi),sC (.bool true) a b d fr hp K=K (ab fr d a) hp)/\
  (∀(a b:PV)(d:Nat)(fr:Fr)(hp:HP)(K:Qi),sC (.bool false) a b d fr hp K=K (ab fr d b) hp)/\
  (∀(off β i o:Nat)(d:Nat)(fr:Fr)(hp:HP)(K:Qi),rf off (.mp β i o) d fr hp K=K (ab fr d (.mp β i (o+off))) hp)/\
  (∀(n:Nat)(ag:Bool)(β i o:Nat)(d:Nat)(fr:Fr)(hp:HP)(K:Qi),bo n ag (.mp β i o) d fr hp K=iD (hp β) n ag i o d fr hp K)/\
  (∀(c:PV)(cs:List PV)(d:Nat)(fr:Fr)(hp:HP)(K:Qi),bo 1 false (.pt (c::cs)) d fr hp K=K (ab fr d c) hp)/\
  (∀(n:Nat)(β i o:Nat)(v:PV)(fr:Fr)(hp:HP)(K:Qi),nH n (.mp β i o) v fr hp K=stM (Qy hp v.refs β) β n i o (Qt hp v) fr (Qy hp v.refs) K)/\
  (∀(ps:List PV)(p:PV)(d:Nat)(fr:Fr)(hp:HP)(K:Qi),lY (.aI (p::ps)) 0 d fr hp K=(p.aD=true/\K (ab fr d p) hp))/\
  (∀(ps:List PV)(p q:PV)(d:Nat)(fr:Fr)(hp:HP)(K:Qi),lY (.aI (p::q::ps)) 1 d fr hp K=(q.aD=true/\K (ab fr d q) hp))/\
  (∀(ps:List PV)(p q r:PV)(d:Nat)(fr:Fr)(hp:HP)(K:Qi),lY (.aI (p::q::r::ps)) 2 d fr hp K=(r.aD=true/\K (ab fr d r) hp))/\
  (∀(s:Nat)(Rr:PV->Prop)(fr:Fr)(hp:HP),fI [.t s] Rr fr hp=vC Rr (Qt hp (fr s)))/\
  (∀(e:Nat)(xs:List PV),ju ax (.sl e xs)=some (e,xs))/\
  (∀(hp:HP),Qy hp []=hp)/\
  (∀(fr:Fr)(r:PV),fW fr none r=fr)/\(∀(fr:Fr)(d:Nat)(r:PV),fW fr (some d) r=ab fr d r)/\
  (∀(β:Nat)(fr:Fr)(i:Nat),bE β fr i=bx β (fr i)):=by
 refine⟨?_,?_,?_,?_,?_,?_,?_,?_,?_,?_,?_,?_,?_,?_,?_,?_,?_,?_,?_,?_,?_,?_,?_,?_,?_,?_,?_,?_,?_,?_,?_,?_,?_,?_⟩<;>intros
 all_goals first
  |rfl
  |(simp[bQ,sC,lY,bo,dQ,PV.cells,nH,stM];done)
  |(simp[bQ,sC,lY,bo,dQ,PV.cells,nH,stM];try rfl)
  |skip
end Go.FW
namespace Go.FW
open Go
variable {C : Ctx} {ρ : Nat -> Option Nat} {fr : Fr} {hp : HP} {w : World} {K R : Qi}
theorem MG(i β e ty:Nat)(he:0<e)(hi:fr i= .aa)(hB:bC β=false:=by decide):Wk fr hp (ab (bE β fr) i (.ms β 0)) (Qk hp β ⟨e,ty,[],false⟩):=by
 rintro C tmps w ⟨ρ,hs⟩;have hr:=hs.rebind (w':=w) β none ⟨e,ty,[],false⟩ hB (Ext.refl _ _) (by simp) he (by simp) (by simp) (by simp);refine⟨_,hr.sz,hr.ext,hr.eJ,hr.own,hr.inj,fun j=>?_⟩;unfold ab;split
 ·rename_i hj;subst hj;have:=hs.cE j;rw[hi]at this;have e:=Qm.wK this;exact⟨_,by simp[Qk];rfl,by simp,.inl ⟨gw _ _ _,e,rfl,rfl⟩⟩
 ·exact hr.cE j
end Go.FW
namespace Go.FW
open Go
variable {C : Ctx} {ρ : Nat -> Option Nat} {fr : Fr} {hp : HP} {w : World} {K R : Qi}
theorem acx(fr:Fr)(a:Nat)(v w:PV):ab (ab fr a v) a w=ab fr a w:=by funext i;unfold ab;split<;>rfl
theorem Hn{α:Type}{f:α->PV}{e d:Nat}{xs:List α}{k:IntKind}{H:Int}(h4:0<=H)(h5:H<=xs.length):
  iE e (.sl e (xs.map f)) none (some (.int k H)) none d fr hp K=K (ab fr d (.sl e ((xs.take H.toNat).map f))) hp:=by
 rw[aiM h4 (by simpa using h5)];simp
theorem Xs{α:Type}{f:α->PV}{e d:Nat}{xs:List α}{k:IntKind}{L:Int}(h4:0<=L)(h5:L<=xs.length):
  iE e (.sl e (xs.map f)) (some (.int k L)) none none d fr hp K=K (ab fr d (.sl e ((xs.drop L.toNat).map f))) hp:=by
 rw[aiN h4 (by simpa using h5)];simp
theorem Vb{α:Type}{f:α->PV}{e d:Nat}{xs:List α}{k k':IntKind}{L H:Int}(h3:0<=L)(h4:L<=H)(h5:H<=xs.length):
  iE e (.sl e (xs.map f)) (some (.int k L)) (some (.int k' H)) none d fr hp K=K (ab fr d (.sl e (((xs.take H.toNat).drop L.toNat).map f))) hp:=by
 rw[Gi (L:=L) (H:=H) rfl rfl h3 h4 (by simpa using h5)];simp
theorem acy(hp:HP)(e:Nat)(xs:List PV):Qt hp (.sl e xs)= .sl e xs:=rfl
theorem aah(hp:HP)(k:IntKind)(n:Int):Qt hp (.int k n)= .int k n:=rfl
theorem Xt(hp:HP)(b:Bool):Qt hp (.bool b)= .bool b:=rfl
theorem aai(hp:HP)(cs:List PV):Qt hp (.agg cs)= .agg cs:=rfl
theorem aaj(hp:HP):Qt hp .aa= .aa:=rfl
theorem DC(hp:HP)(β n:Nat)(e ty:Nat)(xs:List PV)(fz:Bool)(h:hp β=some ⟨e,ty,xs,fz⟩)(hB:bC β=false:=by decide):Qt hp (.ms β n)= .sl e (xs.take n):=by simp[Qt,cj,h,xv hB]
theorem acz(e:Nat)(xs:List PV):(PV.sl e xs).refs=[]:=rfl
theorem aak(k:IntKind)(n:Int):(PV.int k n).refs=[]:=rfl
theorem Xu(b:Bool):(PV.bool b).refs=[]:=rfl
theorem aal(cs:List PV):(PV.agg cs).refs=[]:=rfl
theorem aam:PV.aa.refs=[]:=rfl
theorem aaU(β e:Nat)(xs:List PV):bx β (.sl e xs)= .sl e xs:=rfl
theorem Xv(β:Nat)(k:IntKind)(n:Int):bx β (.int k n)= .int k n:=rfl
theorem Wg(β:Nat)(b:Bool):bx β (.bool b)= .bool b:=rfl
theorem W2(β:Nat)(cs:List PV):bx β (.agg cs)= .agg cs:=rfl
theorem W3(β:Nat):bx β .aa= .aa:=rfl
theorem K1(β γ o n:Nat):bx β (.aw γ o n)=if γ=β then .undef else .aw γ o n:=by
 by_cases h:γ=β
 ·subst h;simp[bx,PV.refs]
 ·simp[bx,PV.refs,h];intro h';exact absurd h'.symm h
theorem aaV(β γ o n:Nat):bx β (.rb γ o n)=if γ=β then .undef else .rb γ o n:=by
 by_cases h:γ=β
 ·subst h;simp[bx,PV.refs]
 ·simp[bx,PV.refs,h];intro h';exact absurd h'.symm h
theorem K2(β γ i o:Nat):bx β (.mp γ i o)=if γ=β then .undef else .mp γ i o:=by
 by_cases h:γ=β
 ·subst h;simp[bx,PV.refs]
 ·simp[bx,PV.refs,h];intro h';exact absurd h'.symm h
theorem aiO:
  (∀(fr:Fr)(a:Nat)(v:PV)(b:Nat),ab fr a v b=if b=a then v else fr b)/\
  (∀(h:HP)(a:Nat)(v:HB)(b:Nat),Qk h a v b=if b=a then some v else h b)/\
  (∀(β:Nat),ax β=none)/\
  (∀(hp:HP)(e:Nat)(xs:List PV),Qt hp (.sl e xs)= .sl e xs)/\
  (∀(hp:HP)(k:IntKind)(n:Int),Qt hp (.int k n)= .int k n)/\
  (∀(hp:HP)(b:Bool),Qt hp (.bool b)= .bool b)/\
  (∀(hp:HP)(cs:List PV),Qt hp (.agg cs)= .agg cs)/\
  (∀(hp:HP),Qt hp .aa= .aa)/\
  (∀(e:Nat)(xs:List PV),(PV.sl e xs).refs=[])/\
  (∀(k:IntKind)(n:Int),(PV.int k n).refs=[])/\
  (∀(b:Bool),(PV.bool b).refs=[])/\
  (∀(cs:List PV),(PV.agg cs).refs=[])/\
  (PV.aa.refs=[])/\
  (∀(β o n:Nat),(PV.aw β o n).refs=[β])/\
  (∀(β i o:Nat),(PV.mp β i o).refs=[β])/\
  (∀(β e:Nat)(xs:List PV),bx β (.sl e xs)= .sl e xs)/\
  (∀(β:Nat)(k:IntKind)(n:Int),bx β (.int k n)= .int k n)/\
  (∀(β:Nat)(b:Bool),bx β (.bool b)= .bool b)/\
  (∀(β:Nat)(cs:List PV),bx β (.agg cs)= .agg cs)/\
  (∀(β:Nat),bx β .aa= .aa)/\
  (∀(β γ o n:Nat),bx β (.aw γ o n)=if γ=β then .undef else .aw γ o n)/\
  (∀(β γ i o:Nat),bx β (.mp γ i o)=if γ=β then .undef else .mp γ i o)/\
  (∀(β γ o n:Nat),bx β (.rb γ o n)=if γ=β then .undef else .rb γ o n)/\
  (∀(β o n:Nat),(PV.rb β o n).refs=[β])/\
  (∀(o:cc)(fr:Fr)(hp:HP)(K:Qi),jv o fr hp K=match o.dst with|some d=>K (ab fr d (.aI [])) hp|none=>K fr hp)/\
  (∀(f:aJ->PV),Option.map f none=none)/\(∀(f:aJ->PV)(x:aJ),Option.map f (some x)=some (f x))/\
  (∀(k:IntKind)(n:Int),(PV.int k n).cells=[.int k n])/\
  (∀(b:Bool),(PV.bool b).cells=[.bool b])/\
  (∀(e:Nat)(xs:List PV),(PV.sl e xs).cells=[.sl e xs])/\
  (∀(cs:List PV),(PV.agg cs).cells=cs):=by
 refine⟨fun _ _ _ _=>rfl,fun _ _ _ _=>rfl,fun _=>rfl,acy,aah,Xt,aai,aaj,acz,aak,Xu,aal,aam,fun _ _ _=>rfl,fun _ _ _=>rfl,aaU,Xv,Wg,W2,W3,K1,K2,aaV,fun _ _ _=>rfl,fun _ _ _ _=>rfl,fun _=>rfl,fun _ _=>rfl,fun _ _=>rfl,fun _=>rfl,fun _ _=>rfl,fun _=>rfl⟩
theorem aiP{p:Nat->Prop}(h:∃m,p m):∃m,p m/\∀k,p k->m<=k:=by
 obtain⟨m,hm⟩:=h;induction m using Nat.strongRecOn with
 |ind m ih=>
  by_cases hk:∃k,k<m/\p k
  ·obtain⟨k,h1,h2⟩:=hk;exact ih k h1 h2
  ·exact⟨m,hm,fun k cI=>Nat.le_of_not_lt fun aq=>hk ⟨k,aq,cI⟩⟩
def xw(I:Nat->Qi)(n:Nat):Qi:=fun aA hp'=>∃aK ax,Wk aA hp' aK ax/\∃m,m<n/\I m aK ax
theorem nI{I:Nat->Qi}{n m:Nat}(hl:m<n)(h:I m fr hp):xw I n fr hp:=⟨fr,hp,Wk.refl _ _,m,hl,h⟩
theorem HI{I:Nat->Qi}{n m:Nat}{aA:Fr}{hp':HP}(hl:m<n)(hw:Wk fr hp aA hp')(h:I m aA hp'):xw I n fr hp:=⟨aA,hp',hw,m,hl,h⟩
theorem zn{sk:List It}{x:SC}(I:Nat->Qi)(m0:Nat){aK:Fr}{ax:HP}(hw:Wk fr hp aK ax)(h0:I m0 aK ax)(h:∀m fr hp,I m fr hp->vc C R (.c x:: .el (xw I m)::sk) fr hp):vc C R (.c (.loop x)::sk) fr hp:=by
 refine aaK (fun fr hp=>∃m,I m fr hp) (fun fr hp=>Classical.epsilon fun m=>I m fr hp/\∀k,I k fr hp->m<=k) hw ⟨m0,h0⟩ ?_;intro fr hp hI;have key:∀fr hp,(∃m,I m fr hp)->I (Classical.epsilon fun m=>I m fr hp/\∀k,I k fr hp->m<=k) fr hp/\∀k,I k fr hp->(Classical.epsilon fun m=>I m fr hp/\∀k,I k fr hp->m<=k)<=k:=fun fr hp hI=>Classical.epsilon_spec (aiP hI);have e:xC (fun fr hp=>∃m,I m fr hp) (fun fr hp=>Classical.epsilon fun m=>I m fr hp/\∀k,I k fr hp->m<=k) (Classical.epsilon fun m=>I m fr hp/\∀k,I k fr hp->m<=k)=xw I (Classical.epsilon fun m=>I m fr hp/\∀k,I k fr hp->m<=k):=by
  funext aA hp';apply propext;constructor
  ·rintro⟨aK,ax,h1,h2,h3⟩;exact⟨aK,ax,h1,_,h3,(key aK ax h2).1⟩
  ·rintro⟨aK,ax,h1,m,h2,h3⟩;exact⟨aK,ax,h1,⟨m,h3⟩,Kcs ((key aK ax ⟨m,h3⟩).2 m h3) h2⟩
 rw[e];exact h _ fr hp (key fr hp hI).1
theorem qM{sk:List It}{x:SC}(I:Nat->Qi)(m0:Nat)(h0:I m0 fr hp)(h:∀m fr hp,I m fr hp->vc C R (.c x:: .el (xw I m)::sk) fr hp):vc C R (.c (.loop x)::sk) fr hp:=
 zn I m0 (Wk.refl _ _) h0 h
theorem ae9{α:Type}{e:Nat}{f:α->PV}:PV.le .aa (.sl e (([]:List α).map f)):=trivial
theorem Qa{P:Program}(hP:C.P=P){g:FuncId}{first cap args aT:List PV}{pr:Bool}{d:Option Nat}{r:PV}(h:Qd P g aT (· =r))(cL:(first++args++cap).map (Qt hp)=aT)(dx:aT.all PV.aD=true)(hr:(first++args++cap).flatMap PV.refs=[])
  (hK:K (fW fr d r) hp):fH C pr (.fn g first cap) args d fr hp K:=by
 refine nM hP h cL dx ?_;rw[hr];exact hK
theorem fT{P:Program}(hP:C.P=P){g:FuncId}{first cap args aT:List PV}{pr:Bool}{d:Option Nat}{Rr:PV->Prop}(h:Qd P g aT Rr)(cL:(first++args++cap).map (Qt hp)=aT)(dx:aT.all PV.aD=true)(hr:(first++args++cap).flatMap PV.refs=[])
  (hK:∀r,Rr r->K (fW fr d r) hp):fH C pr (.fn g first cap) args d fr hp K:=by
 refine PN hP h cL dx fun r h=>?_;rw[hr];exact hK r h
theorem acA{d β n ty:Nat}{xs ys:List PV}(hb:hp β=some ⟨1,ty,xs,false⟩)(hn:n=xs.length):
  tW 1 (.ms β n) (.sl 1 ys) d fr hp K=K (ab fr d (.int .i64 (min (ys.length:Int) n))) (Qk hp β ⟨1,ty,ys.take n++xs.drop ys.length,false⟩):=by
 simp[tW,ju,hb,hn]
theorem Mz{by_ ty d:Nat}{kz k k':IntKind}{nz:Int}{L Cc:Int}(h1:0<=L)(h2:L<=Cc)(h3:by_*Cc<=281474976710656)(h4:Cc<=9223372036854775807):
  nD 1 by_ ty (.int kz nz) (.int k L) (.int k' Cc) d fr hp K=K (ab (bE d fr) d (.ms d L.toNat)) (Qk hp d ⟨1,ty,List.replicate L.toNat (.int kz nz),false⟩):=by
 exact BR (e:=1) (by omega) rfl h1 h2 h3 h4
theorem MA{ty β i:Nat}{xs:List PV}{k:IntKind}{n:Int}(h:i<xs.length):stM (some ⟨1,ty,xs,false⟩) β 1 i 0 (.int k n) fr hp K=K fr (Qk hp β ⟨1,ty,xs.set i (.int k n),false⟩):=
 Xr h rfl rfl
theorem W4(h:HP)(a:Nat)(v w:HB):Qk (Qk h a v) a w=Qk h a w:=by funext i;unfold Qk;split<;>rfl
theorem afa{ty d:Nat}{k:IntKind}{n:Int}:kF 1 ty [.int k n] d fr hp K=K (ab (bE d fr) d (.ms d 1)) (Qk hp d ⟨1,ty,[.int k n],false⟩):=by simp[kF,mY,lR,Ax,zL,Qt,cj,PV.refs,PV.aD,PV.cells];rfl
theorem gy{β n e ty:Nat}{xs:List PV}{fz:Bool}{r:PV}(hb:hp β=some ⟨e,ty,xs,fz⟩)(h:PV.sl e (xs.take n)=r)(hB:bC β=false:=by decide):vC (· =r) (Qt hp (.ms β n)):=by rw[DC hp β n e ty xs fz hb hB];exact Qc h (by rw[<-h];rfl)
theorem HJ{e by_ ty ty' d β γ n:Nat}{xs:List PV}{y:PV}{fz:Bool}(hb:hp β=some ⟨e,ty,xs,false⟩)(hy:hp γ=some ⟨e,ty',[y],fz⟩)(h0:0<e)(hn:n=xs.length)(h1:(n+1)*by_<=140737488355328)(h2:n+1<=9223372036854775807)(hB:bC β=false:=by decide):
  iL e by_ ty (.ms β n) (.ms γ 1) d fr hp K=K (ab (bE β fr) d (.ms β (n+1))) (Qk hp β ⟨e,ty,xs++[y],false⟩):=by
 subst hn;rw[G2 (ys:=[y]) (xs:=xs) (by simp[ju,hy]) hb h0 (Kae _) (by simpa using h1) (by simpa using h2) hB];simp
theorem NR(n:Nat):IntKind.u16.wrap (n:Int)=((n%65536:Nat):Int):=by simp only[IntKind.wrap,IntKind.bits,IntKind.signed];simp
theorem FY{bt:Bool}{k k':IntKind}{x y:Int}{d:Nat}(h:0<=y):bQ .shr bt (.int k x) (.int k' y) d fr hp K=K (ab fr d (.int k (x.fdiv (2^(min y.toNat k.bits))))) hp:=by simp[bQ,h]
theorem PO{bt:Bool}{k':IntKind}{n d:Nat}:bQ .shr bt (.int .u64 (n:Int)) (.int k' 16) d fr hp K=K (ab fr d (.int .u64 ((n/65536:Nat):Int))) hp:=by
 rw[FY (by omega)];have:min (16:Int).toNat IntKind.u64.bits=16:=by decide
 rw[this,KcA _ (by omega)];simp
theorem W5{bt:Bool}{k':IntKind}{n d:Nat}:bQ .shr bt (.int .u32 (n:Int)) (.int k' 16) d fr hp K=K (ab fr d (.int .u32 ((n/65536:Nat):Int))) hp:=by
 rw[FY (by omega)];have:min (16:Int).toNat IntKind.u32.bits=16:=by decide
 rw[this,KcA _ (by omega)];simp
end Go.FW
namespace Go.FW
def val:List Nat->Nat
 | []=>0
 |x::xs=>x+65536*val xs
def Qj(l:List Nat):Prop:=∀x∈l,x<65536
def ak(n:Nat):List Nat:=if h:n=0 then []else n%65536::ak (n/65536)
termination_by n
decreasing_by omega
def nl(n:Nat):Nat:=(ak n).length
theorem nL:Qj []:=by simp[Qj]
theorem gH{x:Nat}{l:List Nat}:Qj (x::l)↔x<65536/\Qj l:=by simp[Qj]
theorem nJ{l m:List Nat}:Qj (l++m)↔Qj l/\Qj m:=by
 simp only[Qj,KaG];constructor
 ·intro h;exact⟨fun x hx=>h x (.inl hx),fun x hx=>h x (.inr hx)⟩
 ·rintro⟨h1,h2⟩ x (hx|hx)
  ·exact h1 x hx
  ·exact h2 x hx
theorem wW{l:List Nat}(h:Qj l)(n:Nat):Qj (l.take n):=fun x hx=>h x (Ka4 hx)
theorem zb{l:List Nat}(h:Qj l)(n:Nat):Qj (l.drop n):=fun x hx=>h x (Kbt hx)
theorem eg{l:List Nat}(h:Qj l){i:Nat}(hi:i<l.length):l[i]<65536:=h _ (Kah hi)
theorem fk:ak 0=[]:=by rw[ak];simp
theorem tJ{n:Nat}(h:n≠0):ak n=n%65536::ak (n/65536):=by rw[ak];simp[h]
theorem Qn(n:Nat):Qj (ak n):=by
 induction n using ak.induct with
 |case1=>rw[fk];exact nL
 |case2 n h ih=>rw[tJ h,gH];exact⟨by omega,ih⟩
theorem Qu(n:Nat):val (ak n)=n:=by
 induction n using ak.induct with
 |case1=>rw[fk];rfl
 |case2 n h ih=>rw[tJ h,val,ih];omega
theorem lK{n:Nat}:ak n=[]↔n=0:=by
 constructor
 ·intro h;have:=Qu n;rw[h]at this;exact this.symm
 ·rintro rfl;exact fk
theorem DD:nl 0=0:=by simp[nl,fk]
theorem wX{n:Nat}:nl n=0↔n=0:=by rw[nl,Kat,lK]
theorem afb{n:Nat}(h:n≠0):nl n=nl (n/65536)+1:=by simp[nl,tJ h]
theorem mP(l m:List Nat):val (l++m)=val l+65536^l.length*val m:=by
 induction l with
 |nil=>simp[val]
 |cons x l ih=>simp only[KaJ,val,ih,KaQ,Kbz];rw[KaW,<-Nat.mul_assoc,KaX 65536 (65536^_)];omega
theorem oP{l:List Nat}(h:Qj l):val l<65536^l.length:=by
 induction l with
 |nil=>simp[val]
 |cons x l ih=>rw[gH]at h;have:=ih h.2;simp only[val,KaQ,Kbz];omega
theorem PR(n:Nat):val (List.replicate n 0)=0:=by
 induction n with
 |zero=>rfl
 |succ n ih=>simp[KbB,val,ih]
theorem zO{l:List Nat}(h:Qj l)(hl:l.getLast? ≠some 0):ak (val l)=l:=by
 induction l with
 |nil=>simp[val,fk]
 | cons x l ih=>
  rw[gH]at h;have rE:l.getLast? ≠some 0:=by intro hh;apply hl;rw[Kct,hh];rfl
  have aQ:val (x::l)≠0:=by
   simp only[val];intro h0;have h1:val l=0:=by omega
   have:=ih h.2 rE;rw[h1,fk]at this;subst this;simp at hl;omega
  rw[tJ aQ];simp only[val];rw[show(x+65536*val l)%65536=x by omega,show(x+65536*val l)/65536=val l by omega,ih h.2 rE]
theorem HK(n:Nat):(ak n).getLast? ≠some 0:=by
 induction n using ak.induct with
 |case1=>simp[fk]
 | case2 n h ih=>
  rw[tJ h,Kct];cases hd:(ak (n/65536)).getLast? with
  |none=>
   have:n/65536=0:=by rw[List.getLast?_eq_none_iff,lK]at hd;exact hd
   simp;omega
  |some y=>rw[hd]at ih;simpa using ih
def cut(l:List Nat):Nat->List Nat
 |0=>[]
 |n+1=>if l[n]? =some 0 then cut l n else l.take (n+1)
theorem MC{l:List Nat}(h:Qj l):∀n,n<=l.length->cut l n=ak (val (l.take n))
 |0,_=>by simp[cut,val,fk]
 | n+1,hn=>by
  have e:l.take (n+1)=l.take n++[l[n]]:=by rw[Kao (by omega)]
  unfold cut;split
  ·rename_i hz;rw[MC h n (by omega),e,mP];rw[Kag (by omega)]at hz;have tk:l[n]=0:=by simpa using hz
   simp[val,tk]
  ·rename_i hz;rw[zO (wW h _)];rw[e,List.getLast?_concat];intro h0;apply hz;rw[Kag (by omega)];exact h0
theorem zP{l:List Nat}(h:Qj l):cut l l.length=ak (val l):=by rw[MC h _ (Kae _),KaT]
theorem bF{l:List Nat}(h:Qj l):nl (val l)<=l.length:=by
 rw[nl,<-zP h];have:∀n,(cut l n).length<=n:=by
  intro n;induction n with
  |zero=>simp[cut]
  |succ n ih=>
   unfold cut;split
   ·omega
   ·simp;omega
 have h1:=this l.length;exact h1
theorem mT{n k:Nat}:nl n<=k↔n<65536^k:=by
 induction k generalizing n with
 |zero=>simp[wX]
 | succ k ih=>
  by_cases h:n=0
  ·subst h;simp[DD];exact KbM (by omega)
  ·rw[afb h,Nat.add_le_add_iff_right,ih,Kbz,Kbd (by omega)]
theorem fG{m n:Nat}(h:m<=n):nl m<=nl n:=mT.2 (Kcs h (mT.1 (Kae _)))
theorem z'(m n:Nat):nl (m+n)<=max (nl m) (nl n)+1:=by rw[mT,Kbz];have h1:m<65536^(max (nl m) (nl n)):=mT.1 (by omega);have h2:n<65536^(max (nl m) (nl n)):=mT.1 (by omega);omega
theorem kq(m n:Nat):nl (m*n)<=nl m+nl n:=by rw[mT,Nat.pow_add];exact Nat.mul_lt_mul'' (mT.1 (Kae _)) (mT.1 (Kae _))
theorem sg{n:Nat}(h:n<18446744073709551616):nl n<=4:=mT.2 (by simpa using h)
theorem CV{n:Nat}:nl n<=4↔n<18446744073709551616:=by rw[mT]
theorem sn:ak 1=[1]:=by rw[tJ (by omega)];simp[fk]
open Go
variable {C : Ctx} {ρ : Nat -> Option Nat} {fr : Fr} {hp : HP} {w : World} {K R : Qi}
abbrev bV(l:List Nat):List PV:=l.map fun(x:Nat)=>.int .u16 x
abbrev pU(l:List Int):List PV:=l.map fun(x:Int)=>.int .i64 x
theorem afc(a b:Nat):(a:Int)+(b:Int)=((a+b:Nat):Int):=rfl
theorem acT(a:Nat):(a:Int)+1=((a+1:Nat):Int):=rfl
theorem acU(a:Nat):(a:Int)+2=((a+2:Nat):Int):=rfl
theorem acV(a:Nat):(a:Int)+3=((a+3:Nat):Int):=rfl
theorem afd(a b:Nat):(a:Int)*(b:Int)=((a*b:Nat):Int):=rfl
theorem acW{α:Type}{f:α->PV}{e d:Nat}{k:IntKind}{i:Nat}{xs:List α}(h:i<xs.length):
  Q7 e (.sl e (xs.map f)) (.int k (i:Int)) d fr hp K=K (ab fr d (.pt (f (xs[i]'h)).cells)) hp:=by
 rw[ve (by omega) (by omega)];rfl
theorem acX{e d β o n i:Nat}{k:IntKind}(h:i<n)(he:(hp β).map (·.e)=some e):Q7 e (.aw β o n) (.int k (i:Int)) d fr hp K=K (ab fr d (.mp β (o+i) 0)) hp:=by rw[DX (by omega) (by omega) he];rfl
theorem afe{α:Type}{f:α->PV}{e d:Nat}{xs:List α}{k:IntKind}{n:Nat}(h5:n<=xs.length):
  iE e (.sl e (xs.map f)) none (some (.int k (n:Int))) none d fr hp K=K (ab fr d (.sl e ((xs.take n).map f))) hp:=by
 rw[Hn (by omega) (by omega)];rfl
theorem afJ{α:Type}{f:α->PV}{e d:Nat}{xs:List α}{k:IntKind}{n:Nat}(h5:n<=xs.length):
  iE e (.sl e (xs.map f)) (some (.int k (n:Int))) none none d fr hp K=K (ab fr d (.sl e ((xs.drop n).map f))) hp:=by
 rw[Xs (by omega) (by omega)];rfl
theorem aaW{α:Type}{f:α->PV}{e d:Nat}{xs:List α}{k k':IntKind}{m n:Nat}(h4:m<=n)(h5:n<=xs.length):
  iE e (.sl e (xs.map f)) (some (.int k (m:Int))) (some (.int k' (n:Int))) none d fr hp K=K (ab fr d (.sl e (((xs.take n).drop m).map f))) hp:=by
 rw[Vb (by omega) (by omega) (by omega)];rfl
theorem afK{by_ ty d:Nat}{k k':IntKind}{n c:Nat}(h2:n<=c)(h3:by_*c<=281474976710656)(h4:c<=9223372036854775807):
  nD 1 by_ ty (.int .u16 0) (.int k (n:Int)) (.int k' (c:Int)) d fr hp K=K (ab (bE d fr) d (.ms d n)) (Qk hp d ⟨1,ty,bV (List.replicate n 0),false⟩):=by
 rw[Mz (by omega) (by omega) (by omega) (by omega)];simp[bV]
theorem afL{ty i d:Nat}{fz:Bool}{l:List Nat}(h:i<l.length):iD (some ⟨1,ty,bV l,fz⟩) 1 false i 0 d fr hp K=K (ab fr d (.int .u16 (l[i]'h:Nat))) hp:=by rw[oO (by simpa using h) (by omega) (by simp)];simp[dQ,PV.cells]
theorem afM{ty i d:Nat}{fz:Bool}{l:List Int}(h:i<l.length):iD (some ⟨1,ty,pU l,fz⟩) 1 false i 0 d fr hp K=K (ab fr d (.int .i64 (l[i]'h))) hp:=by rw[oO (by simpa using h) (by omega) (by simp)];simp[dQ,PV.cells]
theorem MD{ty β i v:Nat}{l:List Nat}(h:i<l.length):stM (some ⟨1,ty,bV l,false⟩) β 1 i 0 (.int .u16 (v:Int)) fr hp K=K fr (Qk hp β ⟨1,ty,bV (l.set i v),false⟩):=by rw[MA (by simpa using h)];simp[bV,List.map_set]
theorem afN{ty β i:Nat}{v:Int}{l:List Int}(h:i<l.length):stM (some ⟨1,ty,pU l,false⟩) β 1 i 0 (.int .i64 v) fr hp K=K fr (Qk hp β ⟨1,ty,pU (l.set i v),false⟩):=by rw[MA (by simpa using h)];simp[pU,List.map_set]
theorem aaX{β n ty:Nat}{l:List Nat}{fz:Bool}(h:hp β=some ⟨1,ty,bV l,fz⟩)(hn:n=l.length)(hB:bC β=false:=by decide):Qt hp (.ms β n)= .sl 1 (bV l):=by rw[DC hp β n _ _ _ _ h hB,Kai (by simp[hn])]
theorem u7{P:Program}(hP:C.P=P){g:FuncId}{first cap args aT:List PV}{pr:Bool}{d:Option Nat}{r:PV}(h:Qd P g aT (· =r))(cL:(first++args++cap).map (Qt hp)=aT)(dx:aT.all PV.aD=true)
  (hK:∀hp',K (fW fr d r) hp'):fH C pr (.fn g first cap) args d fr hp K:=nM hP h cL dx (hK _)
end Go.FW
namespace Go.FW
def gA(x y:Nat):Int:=if x<y then -1 else if y<x then 1 else 0
theorem H3{x y:Nat}(h:x<y):gA x y= -1:=by simp[gA,h]
theorem H4{x y:Nat}(h:y<x):gA x y=1:=by simp[gA,h];omega
theorem LY{x y:Nat}(h:x=y):gA x y=0:=by simp[gA,h]
theorem K3{x y:Nat}(h:nl x<nl y):x<y:=by
 rcases KcF x y with h1|h1
 ·exact h1
 ·have:=fG h1;omega
theorem pF(l:List Nat)(k:Nat)(hk:k<=l.length):val l=val (l.take k)+65536^k*val (l.drop k):=by have:=mP (l.take k) (l.drop k);rw[Kbe,Kay,KbP hk]at this;exact this
theorem tw{l:List Nat}(h:Qj l)(k:Nat)(hk:k<=l.length):val (l.take k)<65536^k:=by
 have:=oP (wW h k)
 rwa[Kay,KbP hk]at this
theorem lO{l:List Nat}{k:Nat}(hk:k<l.length):val (l.drop k)=l[k]+65536*val (l.drop (k+1)):=by rw[Kau hk,val]
theorem Vc{a b:List Nat}(ha:Qj a){k:Nat}(EV:k<=a.length)(AZ:k<=b.length)(h:val (a.drop k)<val (b.drop k)):val a<val b:=by rw[pF a k EV,pF b k AZ];have h1:=tw ha k EV;have h2:65536^k*(val (a.drop k)+1)<=65536^k*val (b.drop k):=Ka9 _ h;rw[KaW]at h2;omega
theorem PT{a b:List Nat}(ha:Qj a){k:Nat}(EV:k<a.length)(AZ:k<b.length)(h:a[k]<b[k])(he:val (a.drop (k+1))=val (b.drop (k+1))):val a<val b:=by refine Vc ha (k:=k) (by omega) (by omega) ?_;rw[lO EV,lO AZ,he];omega
def ja:List Nat->List Nat->Nat->List Nat
 | [],_,c=>if c=0 then []else [c]
 |x::xs,ys,c=>(c+x+ys.headD 0)%65536::ja xs ys.tail ((c+x+ys.headD 0)/65536)
theorem zo(l:List Nat):val l=l.headD 0+65536*val l.tail:=by cases l<;>simp[val]
theorem K4:∀(a b:List Nat)(c:Nat),b.length<=a.length->val (ja a b c)=val a+val b+c
 | [],b,c,h=>by have:b=[]:=Kat.1 (by simpa using h);subst this;unfold ja;split<;>simp[val];omega
 |x::xs,b,c,h=>by rw[ja,val,K4 xs b.tail _ (by simp at h ⊢;omega),val,zo b];omega
theorem Oy:∀(a b:List Nat)(c:Nat),c<65536->Qj a->Qj b->b.length<=a.length->Qj (ja a b c)
 | [],b,c,hc,_,_,_=>by unfold ja;split<;>simp[Qj];exact hc
 |x::xs,b,c,hc,ha,hb,h=>by
  rw[gH]at ha;have jj:b.headD 0<65536:=by cases b with|nil=>simp|cons y ys=>exact hb _ (by simp)
  rw[ja,gH];exact⟨by omega,Oy xs b.tail _ (by omega) ha.2 (fun x hx=>hb x (List.mem_of_mem_tail hx)) (by simp at h ⊢;omega)⟩
theorem PU:∀(a b:List Nat)(c:Nat),a.getLast? ≠some 0->(ja a b c).getLast? ≠some 0
 | [],b,c,_=>by unfold ja;split<;>simp;assumption
 | x::xs,b,c,h=>by
  rw[ja,Kct];cases xs with
  |nil=>
   simp only[List.getLast?_singleton,ne_eq,KaA]at h;simp only[ja];generalize b.headD 0=y;split
   ·rename_i h0;simp;omega
   ·rename_i h0;simp;omega
  |cons y ys=>
   have ih:=PU (y::ys) b.tail ((c+x+b.headD 0)/65536) (by rw[Kct]at h;simpa[Kct]using h);cases hl:(ja (y::ys) b.tail ((c+x+b.headD 0)/65536)).getLast? with
   |none=>rw[List.getLast?_eq_none_iff]at hl;simp[ja]at hl
   |some z=>rw[hl]at ih;simpa using ih
theorem aaY{x y:Nat}(h:nl y<=nl x):ja (ak x) (ak y) 0=ak (x+y):=by have h1:=K4 (ak x) (ak y) 0 h;rw[Qu,Qu,KaM]at h1;rw[<-h1,zO (Oy _ _ _ (by omega) (Qn x) (Qn y) h) (PU _ _ _ (HK x))]
def l7:List Nat->List Nat->Nat->List Nat
 | [],_,_=>[]
 |x::xs,ys,c=>(x+65536-c-ys.headD 0)%65536::l7 xs ys.tail (if x<c+ys.headD 0 then 1 else 0)
theorem OA:∀(a b:List Nat)(c:Nat),Qj (l7 a b c)
 | [],_,_=>nL
 |x::xs,b,c=>by rw[l7,gH];exact⟨by omega,OA xs _ _⟩
theorem Od:∀(a b:List Nat)(c:Nat),(l7 a b c).length=a.length
 | [],_,_=>rfl
 |x::xs,b,c=>by simp[l7,Od xs]
theorem K5:∀(a b:List Nat)(c:Nat),c<=1->Qj a->Qj b->b.length<=a.length->val b+c<=val a->val (l7 a b c)+val b+c=val a
 | [],b,c,_,_,_,h,h2=>by have:b=[]:=Kat.1 (by simpa using h);subst this;simp[val]at h2 ⊢;simp[l7,val,h2]
 |x::xs,b,c,hc,ha,hb,h,h2=>by
  rw[gH]at ha;have jj:b.headD 0<65536:=by cases b with|nil=>simp|cons y ys=>exact hb _ (by simp)
  rw[val,zo b]at h2;rw[l7,val,val,zo b];have ih:=K5 xs b.tail (if x<c+b.headD 0 then 1 else 0) (by split<;>omega) ha.2 (fun x hx=>hb x (List.mem_of_mem_tail hx)) (by simp at h ⊢;omega) (by generalize b.headD 0=y at *;split<;>omega);generalize b.headD 0=y at *
  split at ih
  ·rename_i h0;rw[if_pos h0];omega
  ·rename_i h0;rw[if_neg h0];omega
theorem zD{done:List Nat}{i n v:Nat}(h:done.length=i)(hn:0<n):(done++List.replicate n 0).set i v=(done++[v])++List.replicate (n-1) 0:=by
 subst h;obtain⟨n,rfl⟩:∃k,n=k+1:=⟨n-1,by omega⟩
 simp[KbB]
theorem HL{done:List Nat}{i n m:Nat}(h:done.length=i)(hn:i+n=m):(done++List.replicate n 0).length=m:=by simp[h,hn]
theorem W6{a b:List Nat}{i c:Nat}(h:i<a.length):ja (a.drop i) (b.drop i) c=(c+a[i]+b.getD i 0)%65536::ja (a.drop (i+1)) (b.drop (i+1)) ((c+a[i]+b.getD i 0)/65536):=by rw[Kau h,ja];simp[KbF,Kcg,Kad]
theorem W7{a b:List Nat}{i c:Nat}(h:i<a.length):l7 (a.drop i) (b.drop i) c=(a[i]+65536-c-b.getD i 0)%65536::l7 (a.drop (i+1)) (b.drop (i+1)) (if a[i]<c+b.getD i 0 then 1 else 0):=by rw[Kau h,l7];simp[KbF,Kcg,Kad]
theorem fU{b:List Nat}{i:Nat}(h:i<b.length):b.getD i 0=b[i]:=by simp[Kad,h]
theorem fV{b:List Nat}{i:Nat}(h:¬i<b.length):b.getD i 0=0:=by simp[Kad,h]
open Go
variable {C : Ctx} {ρ : Nat -> Option Nat} {fr : Fr} {hp : HP} {w : World} {K K' R : Qi}
theorem HM(h:∀fr hp,K fr hp->K' fr hp)(o:cc):bg C o fr hp K->bg C o fr hp K':=by
 cases o with
 | call d pr f args=>
  simp only[bg,fH];split
  ·rintro⟨h1,h2⟩;refine⟨h1,fun ρ tmps w fv cv av a1 a2 a3 a4 a5 a6 a7 a8=>(h2 ρ tmps w fv cv av a1 a2 a3 a4 a5 a6 a7 a8).mono ?_⟩;rintro e w' ⟨v,aA,hp',e1,e2,e3,e4⟩;exact⟨v,aA,hp',e1,e2,e3,h _ _ e4⟩
  ·exact id
 |bs d e ty ps=>
  simp only[bg,kF];split
  ·exact fun H=>⟨H.1,h _ _ H.2⟩
  ·exact fun H=>⟨H.1,H.2.1,h _ _ H.2.2⟩
 | app d e by_ ty s x=>
  simp only[bg,iL];intro H;revert H;split
  ·unfold xK;split
   ·split
    ·rintro⟨a1,a2,a3,H⟩;refine⟨a1,a2,a3,?_⟩;revert H;split
     ·exact fun H=>⟨H.1,h _ _ H.2⟩
     ·split
      ·exact fun H=>⟨H.1,H.2.1,h _ _ H.2.2⟩
      ·exact id
     ·exact id
    ·exact id
   ·exact id
  ·rintro⟨h0,h1,H⟩;refine⟨h0,h1,?_⟩;revert H;split
   ·rintro⟨a,b,c⟩;exact⟨a,b,h _ _ c⟩
   ·split
    ·rintro(⟨a1,a2,a3,a4,a5,a6,a7,c⟩|⟨a1,a2,a3,c⟩)
     ·exact .inl ⟨a1,a2,a3,a4,a5,a6,a7,h _ _ c⟩
     ·exact .inr ⟨a1,a2,a3,h _ _ c⟩
    ·exact id
   ·exact id
 |bin d op bt x y=>
  simp only[bg,bQ];intro H;revert H;split
  ·split<;>first|exact fun H=>⟨H.1,H.2.1,h _ _ H.2.2⟩|exact fun H=>⟨H.1,h _ _ H.2⟩|exact id
  ·split<;>first|exact fun H=>⟨H.1,h _ _ H.2⟩|exact id
  ·exact id
 | _=>
  simp only[bg,ra,re,vA,tU,sC,uU,vp,oY,wI,wG,Q7,jI,xJ,rf,qV,bo,nH,eU,tV,nD,kF,iL,tW,iE,lY,ky,Al,Am]
  try (intro H;revert H)
  try (repeat' split)
  all_goals first
   |exact id
   |exact h _ _
   |grind
theorem OB(h:∀fr hp,K fr hp->K' fr hp)(o:cc):jv o fr hp K->jv o fr hp K':=by unfold jv;split<;>exact h _ _
theorem XF(h:∀fr hp,K fr hp->K' fr hp)(g:Option (Nat×Bool))(o:cc):im C g o fr hp K->im C g o fr hp K':=by
 unfold im;split
 ·exact HM h o
 ·split
  ·exact fun H=>⟨fun e=>HM h o (H.1 e),fun e=>OB h o (H.2 e)⟩
  ·exact OB h o
  ·exact id
theorem MJ{sk:List It}{g:Option (Nat×Bool)}{o:cc}{r:RT}:vc C R (.o (.o g o r)::sk) fr hp=im C g o fr hp (fun fr hp=>vc C R (.o r::sk) fr hp):=by rw[vc]
theorem MK{sk:List It}{x y:RT}:vc C R (.o (.br x y)::sk) fr hp=(vc C R (.o x::sk) fr hp/\vc C R (.o y::sk) fr hp):=by rw[vc]
theorem zc{id:Nat}{M:Qi}{sk:List It}:∀(pre:List It),(∃p,FW.bW id (pre++ .el M::sk)=some (p++ .el M::sk)/\FW.bW id (pre++sk)=some (p++sk)/\bG p<=bG pre)∨FW.bW id (pre++ .el M::sk)=FW.bW id (pre++sk)
 | []=>.inr rfl
 |.c s::pre=>by
  rcases zc (id:=id) (M:=M) (sk:=sk) pre with⟨p,h1,h2,h3⟩|h
  ·exact .inl ⟨p,h1,h2,by simp only[bG];omega⟩
  ·exact .inr h
 |.o s::pre=>by
  rcases zc (id:=id) (M:=M) (sk:=sk) pre with⟨p,h1,h2,h3⟩|h
  ·exact .inl ⟨p,h1,h2,by simp only[bG];omega⟩
  ·exact .inr h
 |.el s::pre=>by
  rcases zc (id:=id) (M:=M) (sk:=sk) pre with⟨p,h1,h2,h3⟩|h
  ·exact .inl ⟨p,h1,h2,by simp only[bG];omega⟩
  ·exact .inr h
 |.eb i::pre=>by
  by_cases hi:i=id
  ·exact .inl ⟨pre,by simp[FW.bW,hi],by simp[FW.bW,hi],by simp only[bG];omega⟩
  ·rcases zc (id:=id) (M:=M) (sk:=sk) pre with⟨p,h1,h2,h3⟩|h
   ·exact .inl ⟨p,by simp[FW.bW,hi,h1],by simp[FW.bW,hi,h2],by simp only[bG];omega⟩
   ·exact .inr (by simp[FW.bW,hi,h])
theorem zQ{M:Qi}{sk:List It}(hM:∀fr hp,M fr hp->vc C R sk fr hp):∀(n:Nat)(pre:List It)(fr:Fr)(hp:HP),bG pre<=n->vc C R (pre++ .el M::sk) fr hp->vc C R (pre++sk) fr hp:=by
 intro n;induction n with
 | zero=>
  intro pre fr hp hn h;cases pre with
  |nil=>simp only[KaH,vq]at h ⊢;exact hM _ _ h
  |cons i pre=>
   exfalso;have:=SC.yO;cases i<;>simp only[bG,It.sz]at hn
   ·rename_i s;have:=SC.yO s;omega
   ·rename_i s;have:=RT.yO s;omega
   ·omega
   ·omega
 | succ n ih=>
  intro pre fr hp hn h;cases pre with
  |nil=>simp only[KaH,vq]at h ⊢;exact hM _ _ h
  | cons i pre=>
   cases i with
   |eb i=>simp only[KaJ,BQ]at h⊢;exact ih _ _ _ (by simp only[bG,It.sz]at hn;omega) h
   |el J=>simp only[KaJ,vq]at h ⊢;exact h
   | o r=>
    cases r with
    |nil=>simp only[KaJ,z8]at h⊢;exact ih _ _ _ (by simp only[bG,It.sz,RT.sz]at hn;omega) h
    |o g o r=>simp only[KaJ,MJ]at h⊢;refine XF (fun fr hp h=>?_) g o h;exact ih (.o r::pre) _ _ (by simp only[bG,It.sz,RT.sz]at hn ⊢;omega) h
    |wk r=>simp only[KaJ,DU]at h⊢;obtain⟨aK,ax,hw,h⟩:=h;exact⟨aK,ax,hw,ih (.o r::pre) _ _ (by simp only[bG,It.sz,RT.sz]at hn ⊢;omega) h⟩
    |br x y=>simp only[KaJ,MK]at h⊢;exact⟨ih (.o x::pre) _ _ (by simp only[bG,It.sz,RT.sz]at hn ⊢;omega) h.1,ih (.o y::pre) _ _ (by simp only[bG,It.sz,RT.sz]at hn ⊢;omega) h.2⟩
   | c s=>
    cases s with
    |skip=>simp only[KaJ,Dy]at h⊢;exact ih _ _ _ (by simp only[bG,It.sz,SC.sz]at hn;omega) h
    |rg r=>simp only[KaJ,Gh]at h⊢;exact ih (.o r::pre) _ _ (by simp only[bG,It.sz,SC.sz]at hn ⊢;omega) h
    |raw id ops=>simp only[KaJ]at h⊢;rw[vc]at h⊢;intro tmps w Q hs hQ;refine h tmps w Q hs fun aA hp' uT w' ek hv=>hQ aA hp' uT w' ek ?_;exact ih _ _ _ (by simp only[bG,It.sz,SC.sz]at hn;omega) hv
    |seq a b=>simp only[KaJ,DV]at h⊢;exact ih (.c a:: .c b::pre) _ _ (by simp only[bG,It.sz,SC.sz]at hn ⊢;omega) h
    |block id a=>simp only[KaJ,Dh]at h⊢;exact ih (.c a:: .eb id::pre) _ _ (by simp only[bG,It.sz,SC.sz]at hn ⊢;omega) h
    |ret=>simp only[KaJ,DW]at h ⊢;exact h
    |cond c x y=>
     simp only[KaJ,DA]at h⊢;unfold tO at h⊢;split at h
     ·exact⟨fun e=>ih (.c x::pre) _ _ (by simp only[bG,It.sz,SC.sz]at hn ⊢;omega) (h.1 e),fun e=>ih (.c y::pre) _ _ (by simp only[bG,It.sz,SC.sz]at hn ⊢;omega) (h.2 e)⟩
     ·exact h
    | exit id=>
     simp only[KaJ,DB]at h⊢;rcases zc (id:=id) (M:=M) (sk:=sk) pre with⟨p,h1,h2,h3⟩|he
     ·rw[h1]at h;rw[h2];simp only[vo]at h⊢;exact ih _ _ _ (by simp only[bG,It.sz,SC.sz]at hn;omega) h
     ·rw[he]at h;exact h
    |loop a=>simp only[KaJ,wU]at h⊢;obtain⟨I,μ,h1,h2⟩:=h;refine⟨I,μ,h1,fun fr hp hI=>?_⟩;exact ih (.c a:: .el _::pre) _ _ (by simp only[bG,It.sz,SC.sz]at hn ⊢;omega) (h2 fr hp hI)
theorem zp{c:PV}{x y:SC}{sk:List It}(M:Qi)(h:pS C R c x y (.el M::sk) fr hp)(hM:∀fr hp,M fr hp->vc C R sk fr hp):pS C R c x y sk fr hp:=by
 unfold pS tO at h⊢;split at h
 ·exact⟨fun e=>zQ hM _ [.c x] _ _ (Kae _) (h.1 e),fun e=>zQ hM _ [.c y] _ _ (Kae _) (h.2 e)⟩
 ·exact h
end Go.FW
namespace Go.FW
open Go
variable {C : Ctx} {ρ : Nat -> Option Nat} {fr : Fr} {hp : HP} {w : World} {K K' R : Qi}
def Ak(R:PV->Prop)(p q:PV):Prop:=(p.aD=true/\q.aD=true)/\∃r,PV.BC (.aI [p,q]) r/\R r
def Gj(R:PV->Prop)(p q s:PV):Prop:=(p.aD=true/\q.aD=true/\s.aD=true)/\∃r,PV.BC (.aI [p,q,s]) r/\R r
def Ng(R:PV->Prop):Prop:=∃r,PV.BC (.aI []) r/\R r
theorem afO{a b:Nat}{Rr:PV->Prop}:fI [.t a,.t b] Rr fr hp=Ak Rr (Qt hp (fr a)) (Qt hp (fr b)):=by simp[fI,Ak,ki,jD]
theorem afP{a b c:Nat}{Rr:PV->Prop}:fI [.t a,.t b,.t c] Rr fr hp=Gj Rr (Qt hp (fr a)) (Qt hp (fr b)) (Qt hp (fr c)):=by simp[fI,Gj,ki,jD]
theorem afQ{Rr:PV->Prop}:fI [] Rr fr hp=Ng Rr:=by simp[fI,Ng]
theorem cG{p q p' q' r:PV}(h:r= .aI [p',q'])(d1:p.aD=true)(d2:q.aD=true)(h1:PV.le p p')(h2:PV.le q q'):Ak (· =r) p q:=⟨⟨d1,d2⟩,r,by subst h;exact⟨h1,h2,trivial⟩,rfl⟩
theorem tY{p q s p' q' s' r:PV}(h:r= .aI [p',q',s'])(d1:p.aD=true)(d2:q.aD=true)(d3:s.aD=true)(h1:PV.le p p')(h2:PV.le q q')(h3:PV.le s s'):Gj (· =r) p q s:=⟨⟨d1,d2,d3⟩,r,by subst h;exact⟨h1,h2,h3,trivial⟩,rfl⟩
theorem tF{p q:PV}(h:p=q):PV.le p q:=h▸Qf p
theorem zE{β n ty:Nat}{l:List Nat}{fz:Bool}(h:hp β=some ⟨1,ty,bV l,fz⟩)(hn:n=l.length)(hB:bC β=false:=by decide):(([]:List PV)++[PV.ms β n]++([]:List PV)).map (Qt hp)=[.sl 1 (bV l)]:=by simp[aaX h hn hB]
theorem pH{n:Nat}(h:(ak n).length=0):ak n=[]:=Kat.1 h
abbrev PV.nat(l:List Nat):PV:=.sl 1 (bV l)
abbrev PV.num(n:Nat):PV:=PV.nat (ak n)
theorem xf:PV.le .aa (PV.num 0):=by rw[PV.num,fk];trivial
theorem zS{n:Nat}(h:n=0):PV.le .aa (PV.num n):=by subst h;exact xf
end Go.FW
namespace Go.FW
def jM:List Nat->List Nat->Nat->Nat->List Nat
 |r::rs,y::ys,x,c=>(c+(r+x*y))%65536::jM rs ys x ((c+(r+x*y))/65536)
 |_,_,_,c=>[c]
theorem K6:∀(r b:List Nat)(x c:Nat),r.length=b.length->val (jM r b x c)=val r+x*val b+c
 | [],[],x,c,_=>by simp[jM,val]
 |r::rs,y::ys,x,c,h=>by rw[jM,val,K6 rs ys x _ (by simpa using h),val,val,KaW x,KbE x 65536];generalize x*y=p;generalize x*val ys=q;omega
 | [],_::_,_,_,h=>by simp at h
 |_::_,[],_,_,h=>by simp at h
theorem tB{x y:Nat}(hx:x<65536)(hy:y<65536):x*y<=4294836225:=by have:=KbO (show x<=65535 by omega) (show y<=65535 by omega);omega
theorem OC:∀(r b:List Nat)(x c:Nat),c<65536->x<65536->Qj r->Qj b->Qj (jM r b x c)
 |r::rs,y::ys,x,c,hc,hx,hr,hb=>by rw[gH]at hr hb;have:=tB hx hb.1;rw[jM,gH];exact⟨by omega,OC rs ys x _ (by omega) hx hr.2 hb.2⟩
 | [],_,x,c,hc,_,_,_=>by simp[jM,Qj];exact hc
 |_::_,[],x,c,hc,_,_,_=>by simp[jM,Qj];exact hc
theorem Oe:∀(r b:List Nat)(x c:Nat),r.length=b.length->(jM r b x c).length=r.length+1
 |r::rs,y::ys,x,c,h=>by simp[jM,Oe rs ys x _ (by simpa using h)]
 | [],[],x,c,_=>rfl
 | [],_::_,_,_,h=>by simp at h
 |_::_,[],_,_,h=>by simp at h
theorem DE{p t:List Nat}{r j:Nat}(h:p.length=j)(hj:j<(p++r::t).length):(p++r::t)[j]=r:=by subst h;simp
theorem nN{p t:List Nat}{r j v:Nat}(h:p.length=j):(p++r::t).set j v=p++v::t:=by subst h;simp
theorem yZ{l:List Nat}{i:Nat}(h:i<l.length):val (l.take (i+1))=val (l.take i)+65536^i*l[i]:=by rw[Kao h,mP,Kay,KbP (by omega)];simp[val]
theorem aaZ{a lo b:List Nat}{i:Nat}(h:i<a.length)(hl:lo.length=i+b.length)(hv:val lo=val (a.take i)*val b):
  val (lo.take i++jM (lo.drop i) b a[i] 0)=val (a.take (i+1))*val b:=by
 rw[mP,K6 _ _ _ _ (by simp[hl]),yZ h,Kay,KbP (by omega),KaD,<-hv,pF lo i (by omega),KaM,KaW,Kbb];omega
open Go
variable {C : Ctx} {ρ : Nat -> Option Nat} {fr : Fr} {hp : HP} {w : World} {K K' R : Qi}
def B0:Nat:=1000000
def mZ(xs:List PV):Prop:=∀x∈xs,∃k n,x= .int k n
theorem qN(l:List Nat):mZ (bV l):=by intro x hx;simp only[bV,KaE]at hx;obtain⟨n,_,rfl⟩:=hx;exact⟨_,_,rfl⟩
def nX(w:World)(b:Nat)(ty:TypeId)(xs:List PV):Prop:=mZ xs/\∃(cur:Array Value)(cap:Nat),w.heap[b]? =some (.cells cur ty (0,0))/\cur.size=cap*1/\xs.length<=cap/\cap<=maxLen/\
 ∀(i:Nat)(k:IntKind)(n:Int),xs[i]? =some (.int k n)->cur.getD i undef= .int k n
theorem nX.jq{b:Nat}{ty:TypeId}{xs:List PV}{fz:Bool}{X:Nat->Prop}(h:nX w b ty xs):xL w X b ⟨1,ty,xs,fz⟩:=by
 obtain⟨hi,cur,cap,h1,h2,h3,h4,h5⟩:=h;refine⟨cur,cap,h1,h2,h3,h4,fun i x hx j y hy=>?_⟩;obtain⟨k,n,rfl⟩:=hi x (Kaj hx);cases j with
 |zero=>simp[PV.cells]at hy;subst hy;rw[KbV,KaM,h5 i k n hx];exact Qp.int k n
 |succ j=>simp[PV.cells]at hy
theorem nX.Kn{b:Nat}{ty:TypeId}{xs:List PV}{fz:Bool}{X:Nat->Prop}(h:xL w X b ⟨1,ty,xs,fz⟩)(hi:mZ xs):nX w b ty xs:=by obtain⟨cur,cap,h1,h2,h3,h4,h5⟩:=h;refine⟨hi,cur,cap,h1,h2,h3,h4,fun i k n hx=>?_⟩;have:=h5 i _ hx 0 (.int k n) rfl;simp only[KbV,KaM]at this;generalize hg:cur.getD i undef=v at this;cases this;rfl
theorem Dd{xs:List PV}(h:mZ xs):∀(i:Nat)(x:PV),xs[i]? =some x->x.cells.length=1/\x.aD=true:=by intro i x hx;obtain⟨k,n,rfl⟩:=h x (Kaj hx);exact⟨rfl,rfl⟩
def Re(w:World)(b len:Nat)(o n:Nat)(v:Value):Prop:=o+n<=len/\∃cap,v= .slice (some ⟨b,o*1,none⟩) n cap/\cV w b 1 (o+cap)/\o+cap<=maxLen
def TZ(w:World)(X:Nat->Prop)(b len:Nat)(p:PV)(v:Value):Prop:=match p with
 |.aw β o n=>β=B0/\Re w b len o n v
 |p=>Q6 w X p v
def Rb(w:World)(X:Nat->Prop)(b len:Nat)(p:PV)(v:Value):Prop:=match p with
 |.aw β o n=>β=B0/\Re w b len o n v
 |p=>eD w X p v
def xl(P:Program)(f:FuncId)(args:List PV)(ty:TypeId)(xs:List PV)(a9:PV->List PV->Prop):Prop:=
 oZ P f/\∀(w:World)(X:Nat->Prop)(b:Nat)(bb:Array Value),(∀c,X c->c<w.heap.size)->X b->bb.size=args.length->nX w b ty xs->0<xs.length->
  (∀(i:Nat)(x:PV),args[i]? =some x->TZ w X b xs.length x (bb.getD i undef))->
  Calls P f bb w fun e w'=>∃v r xs',e= .returned v/\Ext (fun c=>c=b) w w'/\(∀e cap,cV w b e cap->cV w' b e cap)/\nX w' b ty xs'/\xs'.length=xs.length/\Rb w' X b xs.length r v/\a9 r xs'
def sD(rs:List RV)(ty:TypeId)(len:Nat)(a9:PV->List PV->Prop):Qi:=fun fr hp=>
 ∃xs',hp B0=some ⟨1,ty,xs',false⟩/\mZ xs'/\xs'.length=len/\
  (fI rs (fun r=>(∀β o n,r≠ .aw β o n)/\a9 r xs') fr hp∨∃s o n,rs=[.t s]/\fr s= .aw B0 o n/\a9 (.aw B0 o n) xs')
theorem CX {P : Program} {f : FuncId} {fn : Func} {sf : ay} {args : List PV} {ty : TypeId} {xs : List PV} {a9 : PV -> List PV -> Prop} (hm : P.follows .mixedOrders = true) (hf : P.funcs[f]? = some fn) (oo : (fn.name != "runtime.NumGoroutine") = true) (hc : Qe P fn = some sf) (hn : args.length <= sf.n /\ sf.n <= 1000000)
  (hv:∀C:Ctx,C.P=P->vc C (sD sf.rs ty xs.length a9) [.c sf.body] (gQ args) (Qk ax B0 ⟨1,ty,xs,false⟩)):xl P f args ty xs a9:=by
 simp only[Qe,Kab,Kaa]at hc;obtain⟨c,hb,sb,jk,rs,cN,rfl⟩:=hc;refine⟨by simp[oZ,hf,hb];simpa using oo,fun w X b bb hX vQ eH hI rJ fE=>?_⟩;have oh:∀β c,(fun β=>if β=B0 then some b else none:Nat->Option Nat) β=some c->c<w.heap.size/\(eI β=false->¬(X c/\c≠b)):=fun β c h=>by
  simp only at h;split at h
  ·cases h;exact⟨hX b vQ,fun _ h=>h.2 rfl⟩
  ·cases h
 let C:Ctx:=⟨P,fn.ntmps,w,fun c=>X c/\c≠b,fun c hc=>hX c hc.1,hn.2,fun β=>if β=B0 then some b else none,oh,ca,fun _ h=>h.elim⟩
 refine calls_of_wp hf hb ?_;have rO:(bb++Array.replicate (fn.ntmps-bb.size) undef).size=fn.ntmps:=by simp at hn ⊢;omega
 have anb:∀c,aE C (fun β=>if β=B0 then some b else none) (Qk ax B0 ⟨1,ty,xs,false⟩) c->X c:=by
  rintro c (hx|⟨β,_,h1,_,h3⟩)
  ·exact hx.1
  ·simp only at h3;split at h3
   ·cases h3;exact vQ
   ·cases h3
 have ov:dD C (gQ args) (Qk ax B0 ⟨1,ty,xs,false⟩) (bb++Array.replicate (fn.ntmps-bb.size) undef) w:=by
  refine⟨fun β=>if β=B0 then some b else none,rO,Ext.refl _ _,fun _ _ _ _ _ h=>h,fun β au aj=>?_,fun β γ b' h1 h2 h3 h4=>?_,fun i=>?_⟩
  ·unfold Qk at aj;split at aj
   ·rename_i ao9;cases aj;subst ao9;refine⟨by simp,Dd hI.1,?_,(fun _=>rfl),fun h=>by cases h⟩;simp only[if_pos];exact⟨rfl,hX b vQ,hI.jq⟩
   ·simp[ax]at aj
  ·have:∀β,(if β=B0 then some b else none:Option Nat)=some b'->β=B0:=fun β h=>by
    split at h
    ·assumption
    ·cases h
   rw[this β h3,this γ h4]
  ·unfold gQ;cases hi:args[i]? with
   |none=>trivial
   | some p=>
    simp only[Kba];have fO:i<bb.size:=by rw[eH];exact(Kaf.1 hi).1
    have hr:=fE i p hi;have e:(bb++Array.replicate (fn.ntmps-bb.size) undef).getD i undef=bb.getD i undef:=by rw[ko,if_pos fO]
    rw[e];have key:Q6 w X p (bb.getD i undef)->Qm C (fun β=>if β=B0 then some b else none) (Qk ax B0 ⟨1,ty,xs,false⟩) w p (bb.getD i undef):=fun hr=>
     Qm.lJ (hr.mono (fun _ _ _=>rfl) (fun c _ hn hx=>hn (anb c hx)) (Kae _))
    cases p with
    |aw β o n=>obtain⟨rfl,h1,cap,h2,h3,h4⟩:=hr;exact⟨⟨1,ty,xs,false⟩,by simp[Qk],h1,.inr ⟨b,cap,by simp,h2,h3,h4⟩⟩
    |_=>exact key hr
 have fin:∀(fr:Fr)(hp:HP)(a:Act)(w':World),a.defers=[]->dD C fr hp a.tmps w'->sD rs ty xs.length a9 fr hp->
   a.defers=[]/\∃v,(results fn a.tmps).run P w'= .ok v w'/\∃v' r xs',Ending.returned v= .returned v'/\Ext (fun c=>c=b) w w'/\(∀e cap,cV w b e cap->cV w' b e cap)/\nX w' b ty xs'/\xs'.length=xs.length/\Rb w' X b xs.length r v'/\a9 r xs':=by
  rintro fr hp a w' hd ⟨ρ,hs⟩ ⟨xs',hB,hint,hlen,hr⟩;have bj:=hs.own B0 _ hB;have aV:=bj.cB;have bl:ρ B0=some b:=by
   cases hq:ρ B0 with
   |none=>rw[hq]at aV;simp only at aV;rw[aV]at hlen;simp at hlen;omega
   |some b'=>rw[<-hq];exact bj.fix rfl
  rw[bl]at aV;have vO:nX w' b ty xs':=nX.Kn aV.2.2 hint;have Tn:Ext (fun c=>c=b) w w':=hs.ext.mono fun c _ hc=>by
   rcases hc with⟨β,_,hc⟩|hc
   ·have hc:(if β=B0 then some b else none:Option Nat)=some c:=hc;split at hc
    ·cases hc;rfl
    ·cases hc
   ·exact hc.elim
  have EW:∀e cap,cV w b e cap->cV w' b e cap:=hs.eJ B0 b rfl;rcases hr with hr|⟨s,o,n,rfl,og,hp⟩
  ·obtain⟨v,r,h1,h2,h3,h4⟩:=Wf (C:=C) rfl cN hs hr (X:=X) (fun c hc=>by
    by_cases e:c=b
    ·subst e;exact .inr ⟨B0,_,rfl,hB,rfl,bl⟩
    ·exact .inl ⟨hc,e⟩)
   refine⟨hd,v,h1,v,r,xs',rfl,Tn,EW,vO,hlen,?_,h4⟩;cases r with
   |aw β o n=>exact absurd rfl (h3 β o n)
   |_=>exact h2
  ·have ba:=hs.cE s;rw[og]at ba;obtain⟨dv,g1,g2,g3⟩:=ba;rw[hB]at g1;cases g1;rcases g3 with⟨g3,_⟩|⟨b',cap,g3,g4,g5,g6⟩
   ·rw[bl]at g3;cases g3
   ·rw[bl]at g3;cases g3;obtain⟨x,hx⟩:∃x,fn.results.toList=[x]:=by have:=lM cN;exact Kcr.1 (by rw[<-this.1];rfl)
    have jC:gu P x=some (.t s):=by rw[hx]at cN;simp only[Kb4,KcT,KbK,Kb7,Kab,KaA]at cN;obtain⟨y,h1,_,_,h2⟩:=cN;simp only[Kch]at h2;rw[<-h2.1];exact h1
    have qy:x= .tmp s:=by
     cases x with
     |tmp t=>simpa[gu]using jC
     |cell y t=>simp[gu,Kab]at jC
    subst qy;have fb:(results fn a.tmps).run P w'= .ok (a.tmps.getD s undef) w':=by have e:results fn a.tmps=(do let vs<-fn.results.mapM (jL a.tmps);pure (if h:vs.size=1 then vs[0]else .tuple vs)):=rfl;rw[e,Kbr,hx];simp[Kan,jL]
    refine⟨hd,_,fb,_,.aw B0 o n,xs',rfl,Tn,EW,vO,hlen,⟨rfl,hlen▸g2,cap,g4,g5,g6⟩,hp⟩
 exact GY (C:=C) (R:=sD rs ty xs.length a9) hm c sb [] _ (gQ args) _ _ w jk ⟨fun fr hp a w' hd hs hv=>(by rw[tM]at hv;exact fin fr hp a w' hd hs hv),fun id ee he=>(by simp[FW.bW]at he),fin⟩ rfl ov (hv C rfl)
def PV.nA:PV->Bool
 |.aw .. =>true
 |p=>p.aD
def jq(β:Nat):PV->PV
 |.aw γ o n=>if γ=β then .aw B0 o n else .undef
 |.mp _ _ _=>.undef
 |.rb _ _ _=>.undef
 |.fn _ _ _=>.undef
 |.aG _ _ _| .np _ _ _| .aM _| .dZ _| .cP _ _| .aF _ _ _ _=>.undef
 |p=>p
def nR(β:Nat):PV->PV
 |.aw _ o n=>.aw β o n
 |p=>p
theorem DR{P:Program}(hP:C.P=P){g:FuncId}{args aT:List PV}{d:Option Nat}{β:Nat}{ty:TypeId}{xs:List PV}{a9:PV->List PV->Prop}(h:xl P g aT ty xs a9)(aj:hp β=some ⟨1,ty,xs,false⟩)(hint:mZ xs)(rJ:0<xs.length)
  (cL:args.map (jq β)=aT) (dx:aT.all PV.nA=true)
  (hK:∀r xs',mZ xs'->xs'.length=xs.length->a9 r xs'->K (fW fr d (nR β r)) (Qk hp β ⟨1,ty,xs',false⟩)):fH C false (.fn g [] []) args d fr hp K:=by
 subst hP;refine⟨h.1,fun ρ tmps w fv cv av qk hs h1 h2 h3 _ _ qw=>?_⟩;have bj:=hs.own β _ aj;have aV:=bj.cB;obtain⟨b,bl⟩:∃b,ρ β=some b:=by
  cases hq:ρ β with
  |none=>rw[hq]at aV;simp only at aV;rw[aV]at rJ;simp at rJ
  |some b=>exact⟨b,rfl⟩
 rw[bl]at aV;have vQ:aE C ρ hp b:=.inr ⟨β,_,aj,rfl,bl⟩;have e1:fv= #[]:=KbJ (by simpa using h1);have e2:cv= #[]:=KbJ (by simpa using h2);subst e1;subst e2;simp only[Array.empty_append,Array.append_empty];refine(h.2 w (aE C ρ hp) b av (z9 hs) vQ (by rw[<-cL];simp[h3]) (nX.Kn aV.2.2 hint) rJ (fun i x hx=>?_)).mono ?_
 ·rw [<-cL]at hx;simp only[Kas,Kaa]at hx;obtain⟨p,hp',wm⟩:=hx;have hr:=qw i p hp';have jo:PV.nA x=true:=by rw[Kap]at dx;refine dx x ?_;rw[<-cL,<-wm];exact Kci (Kaj hp')
  subst wm;cases p with
  | aw γ o n=>
   simp only[jq]at jo⊢;split
   ·rename_i ah;subst ah;obtain⟨dv,g1,g2,g3⟩:=hr;rw[aj]at g1;cases g1;rcases g3 with⟨g3,_⟩|⟨b',cap,g3,g4,g5,g6⟩
    ·rw[bl]at g3;cases g3
    ·rw[bl]at g3;cases g3;exact⟨rfl,g2,cap,g4,g5,g6⟩
   ·rename_i ah;rw[if_neg ah]at jo;simp[PV.nA,PV.aD]at jo
  |mp=>simp[jq,PV.nA,PV.aD]at jo
  |rb=>simp[jq,PV.nA,PV.aD]at jo
  |fn=>simp[jq,PV.nA,PV.aD]at jo
  |undef=>simp[jq,PV.nA,PV.aD]at jo
  |aG=>simp[jq,PV.nA,PV.aD]at jo
  |np=>simp[jq,PV.nA,PV.aD]at jo
  |aM=>simp[jq,PV.nA,PV.aD]at jo
  |dZ=>simp[jq,PV.nA,PV.aD]at jo
  |cP=>simp[jq,PV.nA,PV.aD]at jo
  |aF=>simp[jq,PV.nA,PV.aD]at jo
  |aI=>simp[jq,PV.nA,PV.aD]at jo
  |agg cs=>exact hr
  |_=>exact hr
 ·rintro e w' ⟨v,r,xs',rfl,hx,dw,vO,hlen,fb,gV⟩;have aH:=hs.store β b ⟨1,ty,xs,false⟩ ⟨1,ty,xs',false⟩ aj rfl (by intro e;simp at e;rw[e]at rJ;simp at rJ) bl hx rfl hlen rfl (Dd vO.1) dw (vO.jq (X:=aE C ρ hp) (fz:=false) |> fun⟨cur,cap,c1,c2,c3,c4,c5⟩=>⟨cur,cap,c1,c2,c3,c4,fun i x hi j y hy=>by
   obtain⟨k,n,rfl⟩:=vO.1 x (Kaj hi);have:=c5 i _ hi j y hy;cases j with
   |zero=>simp[PV.cells]at hy;subst hy;generalize hg:cur.getD (i*1+0) undef=u at this;cases this;exact Qp.int k n
   |succ j=>simp[PV.cells]at hy⟩)
  have I4:aE C ρ (Qk hp β ⟨1,ty,xs',false⟩)=aE C ρ hp:=by
   funext c;apply propext;constructor
   ·rintro(hx|⟨γ,hg,h1,h2,h3⟩)
    ·exact .inl hx
    ·by_cases ah:γ=β
     ·subst ah;exact .inr ⟨γ,_,aj,rfl,h3⟩
     ·simp only[Qk,if_neg ah]at h1;exact .inr ⟨γ,hg,h1,h2,h3⟩
   ·rintro(hx|⟨γ,hg,h1,h2,h3⟩)
    ·exact .inl hx
    ·by_cases ah:γ=β
     ·subst ah;exact .inr ⟨γ,⟨1,ty,xs',false⟩,by simp[Qk],rfl,h3⟩
     ·exact .inr ⟨γ,hg,by simp[Qk,ah,h1],h2,h3⟩
  refine⟨v,_,_,rfl,⟨ρ,aH.FO (p:=nR β r) ?_ qk⟩,by simp,hK r xs' vO.1 hlen gV⟩;cases r with
  |aw γ o n=>obtain⟨_,g1,cap,g2,g3,g4⟩:=fb;exact⟨⟨1,ty,xs',false⟩,by simp[Qk],by simp only[nR];omega,.inr ⟨b,cap,bl,g2,g3,g4⟩⟩
  |_=>exact Qm.FG (p:=_) (by rw[I4];exact fb)
end Go.FW
namespace Go.FW
open Go
variable {C : Ctx} {ρ : Nat -> Option Nat} {fr : Fr} {hp : HP} {w : World} {K K' R : Qi}
def zT(P:Program)(f:FuncId)(args:List PV)(ty:TypeId)(a9:List PV->Prop):Prop:=
 oZ P f/\∀(w:World)(X:Nat->Prop)(bb:Array Value),(∀b,X b->b<w.heap.size)->bb.size=args.length->(∀(i:Nat)(x:PV),args[i]? =some x->Q6 w X x (bb.getD i undef))->
  Calls P f bb w fun e w'=>∃v b cap ys,e= .returned v/\v= .slice (some ⟨b,0,none⟩) ys.length cap/\w.heap.size<=b/\Ext ca w w'/\nX w' b ty ys/\cV w' b 1 cap/\cap<=maxLen/\a9 ys
def xD(rs:List RV)(ty:TypeId)(a9:List PV->Prop):Qi:=fun fr hp=>
 ∃s β n xs,rs=[.t s]/\fr s= .aw β 0 n/\bC β=false/\hp β=some ⟨1,ty,xs,false⟩/\mZ xs/\0<n/\a9 (xs.take n)
theorem XG{xs:List PV}(h:mZ xs)(n:Nat):mZ (xs.take n):=fun x hx=>h x (Ka4 hx)
theorem XH {P : Program} {f : FuncId} {fn : Func} {sf : ay} {args : List PV} {ty : TypeId} {a9 : List PV -> Prop} (hm : P.follows .mixedOrders = true) (hf : P.funcs[f]? = some fn) (oo : (fn.name != "runtime.NumGoroutine") = true) (hc : Qe P fn = some sf) (hn : args.length <= sf.n /\ sf.n <= 1000000)
  (hv:∀C:Ctx,C.P=P->vc C (xD sf.rs ty a9) [.c sf.body] (gQ args) ax):zT P f args ty a9:=by
 simp only[Qe,Kab,Kaa]at hc;obtain⟨c,hb,sb,jk,rs,cN,rfl⟩:=hc;refine⟨by simp[oZ,hf,hb];simpa using oo,fun w X bb hX eH fE=>?_⟩
 let C:Ctx:=Ctx.plain P fn.ntmps w X hX hn.2
 refine calls_of_wp hf hb ?_;have rO:(bb++Array.replicate (fn.ntmps-bb.size) undef).size=fn.ntmps:=by simp at hn ⊢;omega
 have ov:dD C (gQ args) ax (bb++Array.replicate (fn.ntmps-bb.size) undef) w:=by
  refine⟨fun _=>none,rO,Ext.refl _ _,(fun _ _ h=>by cases h),by simp[ax],by simp[ax],fun i=>?_⟩;unfold gQ;cases hi:args[i]? with
  |none=>trivial
  | some p=>
   simp only[Kba];have fO:i<bb.size:=by rw[eH];exact(Kaf.1 hi).1
   have hr:=fE i p hi;have e:(bb++Array.replicate (fn.ntmps-bb.size) undef).getD i undef=bb.getD i undef:=by rw[ko,if_pos fO]
   rw[e];refine Qm.lJ (hr.mono (fun _ _ _=>rfl) (fun b _ hn hx=>?_) (Kae _));rcases hx with hx|⟨_,_,h1,_⟩
   ·exact hn hx
   ·simp[ax]at h1
 have fin:∀(fr:Fr)(hp:HP)(a:Act)(w':World),a.defers=[]->dD C fr hp a.tmps w'->xD rs ty a9 fr hp->
   a.defers=[]/\∃v,(results fn a.tmps).run P w'= .ok v w'/\∃v' b cap ys,Ending.returned v= .returned v'/\v'= .slice (some ⟨b,0,none⟩) ys.length cap/\w.heap.size<=b/\Ext ca w w'/\nX w' b ty ys/\cV w' b 1 cap/\cap<=maxLen/\a9 ys:=by
  rintro fr hp a w' hd ⟨ρ,hs⟩ ⟨s,β,n,xs,rfl,og,hB,aj,hint,rJ,hp⟩;have bj:=hs.own β _ aj;have aV:=bj.cB;have ba:=hs.cE s;rw[og]at ba;obtain⟨dv,g1,g2,g3⟩:=ba;rw[aj]at g1;cases g1;rcases g3 with⟨_,_,g3,_⟩|⟨b,cap,g3,g4,g5,g6⟩
  ·omega
  ·rw[g3]at aV;simp only[hB]at aV;obtain⟨x,hx⟩:∃x,fn.results.toList=[x]:=by have:=lM cN;exact Kcr.1 (by rw[<-this.1];rfl)
   have jC:gu P x=some (.t s):=by rw[hx]at cN;simp only[Kb4,KcT,KbK,Kb7,Kab,KaA]at cN;obtain⟨y,h1,_,_,h2⟩:=cN;simp only[Kch]at h2;rw[<-h2.1];exact h1
   have qy:x= .tmp s:=by
    cases x with
    |tmp t=>simpa[gu]using jC
    |cell y t=>simp[gu,Kab]at jC
   subst qy;have fb:(results fn a.tmps).run P w'= .ok (a.tmps.getD s undef) w':=by have e:results fn a.tmps=(do let vs<-fn.results.mapM (jL a.tmps);pure (if h:vs.size=1 then vs[0]else .tuple vs)):=rfl;rw[e,Kbr,hx];simp[jL]
   have hlen:(xs.take n).length=n:=by simp at g2 ⊢;omega
   refine⟨hd,_,fb,_,b,cap,xs.take n,rfl,by rw[g4,hlen,KbG],(Ctx.uj aV.1 (xv hB)).resolve_right (fun h=>h),Ctx.Kp hs.ext,?_,by rw[Ka5]at g5;exact g5,by omega,hp⟩;obtain⟨_,cur,cp,i1,i2,i3,i4,i5⟩:=nX.Kn aV.2.2 hint;exact⟨XG hint n,cur,cp,i1,i2,by simp;omega,i4,fun i k m hi=>i5 i k m (by
    have az:i<n:=by have:=(Kaf.1 hi).1;omega
    rwa[KaF az]at hi)⟩
 exact GY (C:=C) (R:=xD rs ty a9) hm c sb [] _ (gQ args) ax _ w jk ⟨fun fr hp a w' hd hs hv=>(by rw[tM]at hv;exact fin fr hp a w' hd hs hv),fun id ee he=>(by simp[FW.bW]at he),fin⟩ rfl ov (hv C rfl)
theorem afR{P:Program}(hP:C.P=P){g:FuncId}{args aT:List PV}{d:Nat}{ty:TypeId}{a9:List PV->Prop}(h:zT P g aT ty a9)(cL:([]++args++[]).map (Qt hp)=aT)(dx:aT.all PV.aD=true)(hr:([]++args++[]).flatMap PV.refs=[])
  (hB:bC d=false) (hK:∀ys,mZ ys->a9 ys->K (ab (bE d fr) d (.ms d ys.length)) (Qk hp d ⟨1,ty,ys,false⟩)):fH C false (.fn g [] []) args (some d) fr hp K:=by
 subst hP;refine⟨h.1,fun ρ tmps w fv cv av qk hs h1 h2 h3 qv mz qw=>?_⟩;have EN:Qy hp (([]++args++[]).flatMap PV.refs)=hp:=by rw[hr];rfl
 have fE:=K0 hs h1 h2 h3 qv mz qw (by rw[cL];exact dx);rw[EN,cL]at fE;refine(h.2 w _ (fv++av++cv) (z9 hs) (by rw[<-cL];simp[h1,h2,h3]) fE).mono ?_;rintro e w' ⟨v,b,cap,ys,rfl,rfl,hb,hx,hI,dw,hm,gV⟩;have ym:b<w'.heap.size:=by obtain⟨_,cur,cp,i1,_⟩:=hI;exact(Kbl.1 i1).1
 have hrb:=hs.rebind (w':=w') d (some b) ⟨1,ty,ys,false⟩ hB (hx.mono (fun _ _ h=>h.elim)) (fun c hc=>by cases hc;exact⟨.inl (KaO hs.ext.size hb),ym,.inl hb⟩) (by simp) (Dd hI.1) (by simp)
  (fun c hc=>by
   cases hc;obtain⟨hint,cur,cp,i1,i2,i3,i4,i5⟩:=hI;refine⟨cur,cp,i1,i2,i3,i4,fun i x hi j y hy=>?_⟩;obtain⟨k,n,rfl⟩:=hint x (Kaj hi);cases j with
   |zero=>simp[PV.cells]at hy;subst hy;rw[KbV,KaM,i5 i k n hi];exact Qp.int k n
   |succ j=>simp[PV.cells]at hy)
 refine⟨_,_,_,rfl,⟨_,hrb.FO (d:=some d) (p:=.ms d ys.length) ?_ qk⟩,by simp,hK ys hI.1 gV⟩;exact⟨⟨1,ty,ys,false⟩,by simp[Qk],by simp,.inr ⟨b,cap,gw _ _ _,by simp,by rw[Ka5];exact dw,by omega⟩⟩
def fg(hp:HP):PV->PV
 |.mp β i o=>match hp β with
  |some hb=>match hb.xs[i]? with
   |some x=>.pt (x.cells.drop o)
   |none=>.undef
  |none=>.undef
 |.aw β o n=>match hp β with
  |some hb=>.sl hb.e ((hb.xs.drop o).take n)
  |none=>.undef
 |.rb β o n=>match hp β with
  |some hb=>.pt [.sl hb.e ((hb.xs.drop o).take n)]
  |none=>.undef
 |p=>p
def vD(C:Ctx)(ρ:Nat->Option Nat)(hp:HP)(l:List Nat):Nat->Prop:=fun c=>aE C ρ hp c/\¬∃β∈l,ρ β=some c
theorem Qp.vL{l:List Nat}{q:PV}{u:Value}(h:Qp w (aE C ρ hp) q u):Qp w (vD C ρ hp l) q u:=
 h.mono (fun _ _ _=>rfl) (fun _ _ hn hx=>hn hx.1) (Kae _)
theorem et.vL{tmps:Array Value}(h:Qr C ρ fr hp tmps w){β o n:Nat}{v:Value}{l:List Nat}{hb:HB}(hr:et ρ hp w β o n v)(wA:β∈l)(g1:hp β=some hb):Qp w (vD C ρ hp l) (.sl hb.e ((hb.xs.drop o).take n)) v:=by
 obtain⟨dv,Ep,g2,g3⟩:=hr;rw[g1]at Ep;cases Ep;rcases g3 with⟨g3,rfl,rfl,rfl⟩|⟨b,cap,g3,rfl,g5,g6⟩
 ·simp only[Kb5];exact .mE _ _ _ (KbL _)
 ·have bj:=h.own β hb g1;have aV:=bj.cB;rw[g3]at aV;obtain⟨_,aq,cur,ew,c1,c2,c3,c4,c5⟩:=aV;obtain⟨cur',ty',d1,d2⟩:=g5;rw[c1]at d1;cases d1;have iz:o+cap=ew:=by rw[c2]at d2;exact(KbA bj.jU d2).symm
  subst iz;have hlen:((hb.xs.drop o).take n).length=n:=by simp;omega
  have ez:∀(i:Nat)(x:PV),((hb.xs.drop o).take n)[i]? =some x->i<n/\hb.xs[o+i]? =some x:=fun i x hx=>by
   have hi:i<n:=by have:=(Kaf.1 hx).1;omega
   rw[KaF hi,Ka2]at hx;exact⟨hi,hx⟩
  have:=Qp.sl (w:=w) (X:=vD C ρ hp l) hb.e ((hb.xs.drop o).take n) b (o*hb.e) cap (fun i j=>cur.getD ((o+i)*hb.e+j) undef) (fun Bu=>Bu.2 ⟨β,wA,g3⟩) aq (by omega) (by omega)
   (fun i x hx=>(bj.len _ x (ez i x hx).2).1)
   (fun i hi j hj=>by rw[hlen]at hi;have:=mR (i:=o+i) (e:=hb.e) (o:=0) (j:=j) (n:=hb.e) (cap:=o+cap) (by omega) (by omega) hj;rw[KaM]at this;rw[show o*hb.e+i*hb.e+j=(o+i)*hb.e+j by rw[KaD]];exact kU c1 (by rw[c2];exact this))
   (fun i x hx j y hy=>(c5 _ x (ez i x hx).2 j y hy).vL)
  rwa[hlen]at this
theorem CY{tmps:Array Value}(h:Qr C ρ fr hp tmps w){p:PV}{v:Value}{l:List Nat}(hr:cF C ρ hp w p v)(hl:∀β∈p.bw,β∈l)(hu:(fg hp p).aD=true)(Bg:∀f a b,p≠ .fn f a b):Q6 w (vD C ρ hp l) (fg hp p) v:=by
 cases p with
 | mp β i o=>
  obtain⟨b,hb,g1,g2,rfl⟩:=hr;have wA:=hl β (by simp[PV.bw]);have bj:=h.own β hb g2;have aV:=bj.cB;rw[g1]at aV;obtain⟨_,aq,cur,cap,c1,c2,c3,c4,c5⟩:=aV;simp only[fg,g2]at hu⊢;cases hx:hb.xs[i]? with
  |none=>simp[hx,PV.aD]at hu
  | some x=>
   have hi:i<hb.xs.length:=(Kaf.1 hx).1;have di:=(bj.len i x hx).1;refine Qp.pt _ b _ (fun j=>cur.getD (i*hb.e+o+j) undef) (fun Bu=>Bu.2 ⟨β,wA,g1⟩) aq (fun j hj=>?_) (fun j y hy=>?_)
   ·have cg:o+(j+1)<=hb.e:=by simp[di]at hj;omega
    exact kU c1 (by rw[c2];exact mR (by omega) cg (Kck j))
   ·rw[Ka2]at hy;rw[KbX];exact(c5 i x hx (o+j) y hy).vL
 |aw β o n=>obtain⟨hb,g1,_⟩:=id hr;simp only[fg,g1];exact et.vL h hr (hl β (by simp[PV.bw])) g1
 | rb β o n=>
  obtain⟨b,u,rfl,e2,e3,e4,hb,g1,e5⟩:=hr;simp only[fg,g1];refine Qp.pt _ b 0 (fun _=>u) (fun hx=>e3 hx.1) e2 (fun j hj=>?_) (fun j y hy=>?_)
  ·obtain rfl:j=0:=by simpa using hj
   simpa using e4
  ·cases j with
   |zero=>simp at hy;subst hy;exact et.vL h ⟨hb,g1,e5⟩ (hl β (by simp[PV.bw])) g1
   |succ j=>simp at hy
 |undef=>simp[fg,PV.aD]at hu
 |fn f a b=>exact absurd rfl (Bg f a b)
 |aI=>simp[fg,PV.aD]at hu
 |aG=>simp[fg,PV.aD]at hu
 |np=>simp[fg,PV.aD]at hu
 |aM=>simp[fg,PV.aD]at hu
 |dZ=>simp[fg,PV.aD]at hu
 |cP=>simp[fg,PV.aD]at hu
 |aF=>simp[fg,PV.aD]at hu
 |agg=>cases hr
 |_=>exact Qp.vL hr
end Go.FW
namespace Go.FW
open Go
variable {C : Ctx} {ρ : Nat -> Option Nat} {fr : Fr} {hp : HP} {w : World} {K K' R : Qi}
def PV.uP:PV->Bool
 |.fn .. =>false
 |p=>p.aD
theorem OD{p:PV}(h:p.uP=true):p.aD=true/\∀f a b,p≠ .fn f a b:=by cases p<;>simp_all[PV.uP,PV.aD]
theorem Wh{tmps:Array Value}(h:Qr C ρ fr hp tmps w){p:PV}{v:Value}{l:List Nat}(hr:Qm C ρ hp w p v)(hl:∀β∈p.refs,β∈l)(hu:(fg hp p).uP=true):Q6 w (vD C ρ hp l) (fg hp p) v:=by
 obtain⟨hd,Bg⟩:=OD hu;cases p with
 |mp β i o=>exact CY (p:=.mp β i o) h hr (fun bB mC=>hl bB mC) hd (by simp)
 |aw β o n=>exact CY (p:=.aw β o n) h hr (fun bB mC=>hl bB mC) hd (by simp)
 |rb β o n=>exact CY (p:=.rb β o n) h hr (fun bB mC=>hl bB mC) hd (by simp)
 |fn f a b=>exact absurd rfl (Bg f a b)
 |undef=>simp[fg,PV.uP,PV.aD]at hu
 |aI=>simp[fg,PV.uP,PV.aD]at hu
 |agg cs=>exact Q6.mono (p:=.agg cs) hr (fun _ _ _=>rfl) (fun _ _ hn hx=>hn hx.1) (Kae _)
 |aG=>simp[fg,PV.aD]at hd
 |np=>simp[fg,PV.aD]at hd
 |aM=>simp[fg,PV.aD]at hd
 |dZ=>simp[fg,PV.aD]at hd
 |cP=>simp[fg,PV.aD]at hd
 |aF=>simp[fg,PV.aD]at hd
 |_=>exact Qp.vL hr
theorem OE{tmps:Array Value}(h:Qr C ρ fr hp tmps w){p:PV}{v:Value}{l:List Nat}(hr:cF C ρ hp w p v)(hl:∀β∈p.refs,β∈l)(hu:(fg hp p).uP=true):Q6 w (vD C ρ hp l) (fg hp p) v:=by
 obtain⟨hd,Bg⟩:=OD hu;refine CY h hr (fun β aj=>hl β ?_) hd ?_
 ·cases p<;>simp_all[PV.bw,PV.refs]
 ·intro f a b hp';subst hp';exact Bg f a b rfl
theorem XI{P:Program}(hP:C.P=P){g:FuncId}{first cap args aT:List PV}{pr:Bool}{d:Option Nat}{r:PV}(h:Qd P g aT (· =r))(cL:(first++args++cap).map (fg hp)=aT)(dx:aT.all PV.uP=true)(hr:r.Ka=true)
  (hK:K (fW fr d r) hp):fH C pr (.fn g first cap) args d fr hp K:=by
 subst hP;refine⟨h.1,fun ρ tmps w fv cv av qk hs h1 h2 h3 qv mz qw=>?_⟩;refine(h.2 w (vD C ρ hp ((first++args++cap).flatMap PV.refs)) (fv++av++cv) (fun b hb=>z9 hs b hb.1) (by rw[<-cL];simp[h1,h2,h3]) (fun i x hx=>?_)).mono ?_
 ·have vW:x.uP=true:=by rw[Kap]at dx;exact dx x (Kaj hx)
  rw[<-cL]at hx;simp only[Kas,Kaa]at hx;obtain⟨p,hp',rfl⟩:=hx;have gD:=Kaj hp';have hl:∀β∈p.refs,β∈(first++args++cap).flatMap PV.refs:=fun β aj=>Kaq.2 ⟨p,gD,aj⟩;rw[ko];rw[Ka0]at hp';by_cases c1:i<(first++args).length
  ·rw[if_pos c1]at hp';rw[if_pos (by simp only[Kb6,h1,h3];simpa using c1),ko];rw[Ka0]at hp';by_cases c2:i<first.length
   ·rw[if_pos c2]at hp';rw[if_pos (by omega)];exact OE hs (qv i p hp') hl vW
   ·rw[if_neg c2]at hp';rw[if_neg (by omega),h1];exact Wh hs (qw _ p hp') hl vW
  ·rw[if_neg c1]at hp';have eH:(fv++av).size=(first++args).length:=by simp[h1,h3]
   rw[if_neg (by omega),eH];exact OE hs (mz _ p hp') hl vW
 ·rintro e w' ⟨v,r',rfl,hx,du,rfl⟩;exact⟨v,_,_,rfl,⟨ρ,(hs.grow hx).FO (Qm.FG (aad hr du)) qk⟩,fun _=>hx,hK⟩
end Go.FW
namespace Go.FW
def kA:List Nat->List Nat->Nat->List Nat
 | [],_,_=>[]
 |x::xs,ys,c=>(c+x+ys.headD 0)%65536::kA xs ys.tail ((c+x+ys.headD 0)/65536)
theorem Of:∀(a b:List Nat)(c:Nat),(kA a b c).length=a.length
 | [],_,_=>rfl
 |x::xs,b,c=>by simp[kA,Of xs]
theorem OF:∀(a b:List Nat)(c:Nat),Qj (kA a b c)
 | [],_,_=>nL
 |x::xs,b,c=>by rw[kA,gH];exact⟨by omega,OF xs _ _⟩
theorem XJ{a b:List Nat}{i c:Nat}(h:i<a.length):kA (a.drop i) (b.drop i) c=(c+a[i]+b.getD i 0)%65536::kA (a.drop (i+1)) (b.drop (i+1)) ((c+a[i]+b.getD i 0)/65536):=by rw[Kau h,kA];simp[KbF,Kcg,Kad]
theorem K7:∀(a b:List Nat)(c:Nat),b.length<=a.length->∃k,val (kA a b c)+65536^a.length*k=val a+val b+c
 | [],b,c,h=>by have:b=[]:=Kat.1 (by simpa using h);subst this;exact⟨c,by simp[kA,val]⟩
 |x::xs,b,c,h=>by
  obtain⟨k,hk⟩:=K7 xs b.tail ((c+x+b.headD 0)/65536) (by simp at h ⊢;omega);refine⟨k,?_⟩;rw[kA,val,val,zo b,KaQ,Kbz,KaX (65536^xs.length) 65536,Kbb];generalize 65536^xs.length*k=z at *
  generalize b.headD 0=y at *
  omega
def eV:List Nat->List Nat->Nat->Nat->Nat->List Nat×Nat×Nat
 | [],_,_,c,b=>([],c,b)
 |x::xs,ys,q,c,b=>
  let r:=eV xs ys.tail q ((c+q*ys.headD 0)/65536) (if x<(c+q*ys.headD 0)%65536+b then 1 else 0)
  ((x+65536-(c+q*ys.headD 0)%65536-b)%65536::r.1,r.2)
theorem Og:∀(a v:List Nat)(q c b:Nat),(eV a v q c b).1.length=a.length
 | [],_,_,_,_=>rfl
 |x::xs,v,q,c,b=>by simp[eV,Og xs]
theorem OG:∀(a v:List Nat)(q c b:Nat),Qj (eV a v q c b).1
 | [],_,_,_,_=>nL
 |x::xs,v,q,c,b=>by simp only[eV];rw[gH];exact⟨by omega,OG xs _ _ _ _⟩
theorem XK{a v:List Nat}{i q c b:Nat}(h:i<a.length):eV (a.drop i) (v.drop i) q c b=
    ((a[i]+65536-(c+q*v.getD i 0)%65536-b)%65536::(eV (a.drop (i+1)) (v.drop (i+1)) q ((c+q*v.getD i 0)/65536) (if a[i]<(c+q*v.getD i 0)%65536+b then 1 else 0)).1,
     (eV (a.drop (i+1)) (v.drop (i+1)) q ((c+q*v.getD i 0)/65536) (if a[i]<(c+q*v.getD i 0)%65536+b then 1 else 0)).2):=by
  rw[Kau h,eV];simp[KbF,Kcg,Kad]
theorem K8:∀(a v:List Nat)(q c b:Nat),Qj a->b<=1->v.length<=a.length->
  val (eV a v q c b).1+(q*val v+c+b)=val a+65536^a.length*((eV a v q c b).2.1+(eV a v q c b).2.2)/\(eV a v q c b).2.2<=1
 | [],v,q,c,b,_,hb,h=>by have:v=[]:=Kat.1 (by simpa using h);subst this;simp[eV,val,hb]
 |x::xs,v,q,c,b,ha,hb,h=>by
  rw[gH]at ha;have au:(if x<(c+q*v.headD 0)%65536+b then 1 else 0)<=1:=by split<;>omega
  obtain⟨ih,J9⟩:=K8 xs v.tail q ((c+q*v.headD 0)/65536) (if x<(c+q*v.headD 0)%65536+b then 1 else 0) ha.2 au (by simp at h ⊢;omega);refine⟨?_,J9⟩;simp only[eV];rw[val,val,zo v,KaQ,Kbz,KaX (65536^xs.length) 65536,Kbb,KaW q,KbE q 65536];generalize eV xs v.tail q ((c+q*v.headD 0)/65536) (if x<(c+q*v.headD 0)%65536+b then 1 else 0)=r at *
  generalize 65536^xs.length*(r.2.1+r.2.2)=z at *
  generalize q*v.headD 0=y at *
  generalize q*val v.tail=t at *
  have h0:=ha.1;split at ih
  ·omega
  ·omega
open Go
variable {fr : Fr} {hp : HP}
theorem afS{ty len:Nat}{a9:PV->List PV->Prop}{xs':List PV}(hB:hp B0=some ⟨1,ty,xs',false⟩)(hi:mZ xs')(hl:xs'.length=len)(hp':a9 (.aI []) xs'):sD [] ty len a9 fr hp:=
 ⟨xs',hB,hi,hl,.inl ⟨by simp,.aI [],trivial,by simp,hp'⟩⟩
theorem MM{ty len s:Nat}{a9:PV->List PV->Prop}{xs':List PV}{p:PV}(hB:hp B0=some ⟨1,ty,xs',false⟩)(hi:mZ xs')(hl:xs'.length=len)(hs:Qt hp (fr s)=p)(hd:p.aD=true)(hp':a9 p xs'):sD [.t s] ty len a9 fr hp:=
 ⟨xs',hB,hi,hl,.inl ⟨by simp only[ki];rw[hs];exact hd,p,by simp only[jD];rw[hs];exact Qf p,fun β o n e=>by subst e;simp[PV.aD]at hd,hp'⟩⟩
theorem LZ{ty len s o n:Nat}{a9:PV->List PV->Prop}{xs':List PV}(hB:hp B0=some ⟨1,ty,xs',false⟩)(hi:mZ xs')(hl:xs'.length=len)(hs:fr s= .aw B0 o n)(hp':a9 (.aw B0 o n) xs'):sD [.t s] ty len a9 fr hp:=
 ⟨xs',hB,hi,hl,.inr ⟨s,o,n,rfl,hs,hp'⟩⟩
end Go.FW
namespace Go.FW
open Go
variable {C : Ctx} {fr : Fr} {hp : HP} {K : Qi}
theorem z5{a b i:Nat}(h:b<2^i):a*2^i|||b=a*2^i+b:=by rw[<-Nat.shiftLeft_eq,Nat.shiftLeft_add_eq_or_of_lt h]
theorem MN{bt:Bool}{x y d:Nat}(hx:x<18446744073709551616)(hy:y<18446744073709551616):bQ .or bt (.int .u64 (x:Int)) (.int .u64 (y:Int)) d fr hp K=K (ab fr d (.int .u64 ((x|||y:Nat):Int))) hp:=by
 have h1:(BitVec.ofInt 64 (x:Int)|||BitVec.ofInt 64 (y:Int)).toNat=x|||y:=by rw[BitVec.toNat_or,BitVec.ofInt_natCast,BitVec.ofInt_natCast,BitVec.toNat_ofNat,BitVec.toNat_ofNat,KaI hx,KaI hy]
 have h2:x|||y<18446744073709551616:=Nat.or_lt_two_pow (n:=64) hx hy;simp only[bQ,IntKind.bits,h1,true_and];rw[se (by omega) (by omega)];exact congrArg (fun z:Nat=>K (ab fr d (.int .u64 (z:Int))) hp) h1
theorem MO{bt:Bool}{x y d:Nat}(hx:x<4294967296)(hy:y<4294967296):bQ .or bt (.int .u32 (x:Int)) (.int .u32 (y:Int)) d fr hp K=K (ab fr d (.int .u32 ((x|||y:Nat):Int))) hp:=by
 have h1:(BitVec.ofInt 32 (x:Int)|||BitVec.ofInt 32 (y:Int)).toNat=x|||y:=by rw[BitVec.toNat_or,BitVec.ofInt_natCast,BitVec.ofInt_natCast,BitVec.toNat_ofNat,BitVec.toNat_ofNat,KaI hx,KaI hy]
 have h2:x|||y<4294967296:=Nat.or_lt_two_pow (n:=32) hx hy;simp only[bQ,IntKind.bits,h1,true_and];rw[Dc (by omega) (by omega)];exact congrArg (fun z:Nat=>K (ab fr d (.int .u32 (z:Int))) hp) h1
theorem afT{bt:Bool}{x y d:Nat}(hx:x<65536)(hy:y<65536):bQ .or bt (.int .u16 (x:Int)) (.int .u16 (y:Int)) d fr hp K=K (ab fr d (.int .u16 ((x|||y:Nat):Int))) hp:=by
 have h1:(BitVec.ofInt 16 (x:Int)|||BitVec.ofInt 16 (y:Int)).toNat=x|||y:=by rw[BitVec.toNat_or,BitVec.ofInt_natCast,BitVec.ofInt_natCast,BitVec.toNat_ofNat,BitVec.toNat_ofNat,KaI hx,KaI hy]
 have h2:x|||y<65536:=Nat.or_lt_two_pow (n:=16) hx hy;simp only[bQ,IntKind.bits,h1,true_and];rw[aag (by omega) (by omega)];exact congrArg (fun z:Nat=>K (ab fr d (.int .u16 (z:Int))) hp) h1
theorem L0{bt:Bool}{k':IntKind}{x s d:Nat}(hs:s<=64)(h:x*2^s<18446744073709551616):bQ .shl bt (.int .u64 (x:Int)) (.int k' (s:Int)) d fr hp K=K (ab fr d (.int .u64 ((x*2^s:Nat):Int))) hp:=by
 have h0:(0:Int)<=s:=by omega
 have h1:min ((s:Int).toNat) IntKind.u64.bits=s:=by simp[IntKind.bits];omega
 simp only[bQ,h0,true_and,h1];rw[show(x:Int)*2^s=((x*2^s:Nat):Int)by push_cast;rfl,se (by omega) (by omega)]
theorem L1{bt:Bool}{k':IntKind}{x s d:Nat}(hs:s<=32)(h:x*2^s<4294967296):bQ .shl bt (.int .u32 (x:Int)) (.int k' (s:Int)) d fr hp K=K (ab fr d (.int .u32 ((x*2^s:Nat):Int))) hp:=by
 have h0:(0:Int)<=s:=by omega
 have h1:min ((s:Int).toNat) IntKind.u32.bits=s:=by simp[IntKind.bits];omega
 simp only[bQ,h0,true_and,h1];rw[show(x:Int)*2^s=((x*2^s:Nat):Int)by push_cast;rfl,Dc (by omega) (by omega)]
theorem Hf{bt:Bool}{k':IntKind}{x d:Nat}(h:x<281474976710656):bQ .shl bt (.int .u64 (x:Int)) (.int k' 16) d fr hp K=K (ab fr d (.int .u64 ((x*65536:Nat):Int))) hp:=
 L0 (s:=16) (by omega) (by omega)
theorem Hg{bt:Bool}{k':IntKind}{x d:Nat}(h:x<65536):bQ .shl bt (.int .u32 (x:Int)) (.int k' 16) d fr hp K=K (ab fr d (.int .u32 ((x*65536:Nat):Int))) hp:=
 L1 (s:=16) (by omega) (by omega)
theorem H5{bt:Bool}{k':IntKind}{x s d:Nat}(hs:s<=32):bQ .shr bt (.int .u32 (x:Int)) (.int k' (s:Int)) d fr hp K=K (ab fr d (.int .u32 ((x/2^s:Nat):Int))) hp:=by
 rw[FY (by omega)];have h1:min ((s:Int).toNat) IntKind.u32.bits=s:=by simp[IntKind.bits];omega
 rw[h1,KcA _ (Int.pow_nonneg (by omega))];rw[show(x:Int)/2^s=((x/2^s:Nat):Int)by push_cast;rfl]
theorem HN{bt:Bool}{x y d:Nat}(hx:x<281474976710656)(hy:y<65536):bQ .or bt (.int .u64 ((x*65536:Nat):Int)) (.int .u64 (y:Int)) d fr hp K=K (ab fr d (.int .u64 ((x*65536+y:Nat):Int))) hp:=by rw[MN (by omega) (by omega),show x*65536|||y=x*65536+y from z5 (i:=16) hy]
theorem aa0{bt:Bool}{x y d:Nat}(hx:x<65536)(hy:y<65536):bQ .or bt (.int .u32 ((x*65536:Nat):Int)) (.int .u32 (y:Int)) d fr hp K=K (ab fr d (.int .u32 ((x*65536+y:Nat):Int))) hp:=by rw[MO (by omega) (by omega),show x*65536|||y=x*65536+y from z5 (i:=16) hy]
theorem PW{bt:Bool}{x y d:Nat}(hx:x<65536)(hy:y<65536):bQ .or bt (.int .u32 (y:Int)) (.int .u32 ((x*65536:Nat):Int)) d fr hp K=K (ab fr d (.int .u32 ((x*65536+y:Nat):Int))) hp:=by rw[MO (by omega) (by omega),Nat.or_comm,show x*65536|||y=x*65536+y from z5 (i:=16) hy]
theorem H6{bt:Bool}{k:IntKind}{x y d:Nat}(hy:0<y)(hw:k.wrap ((x/y:Nat):Int)=((x/y:Nat):Int)):bQ .quo bt (.int k (x:Int)) (.int k (y:Int)) d fr hp K=K (ab fr d (.int k ((x/y:Nat):Int))) hp:=by
 have:(y:Int)≠0:=by omega
 simp only[bQ,ne_eq,this,not_false_eq_true,true_and];rw[acv (by omega),<-hw];rfl
theorem pL{bt:Bool}{k:IntKind}{x y d:Nat}(hy:0<y):bQ .rem bt (.int k (x:Int)) (.int k (y:Int)) d fr hp K=K (ab fr d (.int k ((x%y:Nat):Int))) hp:=by
 have:(y:Int)≠0:=by omega
 simp only[bQ,ne_eq,this,not_false_eq_true,true_and];rw[acw (by omega)];rfl
theorem XL{n:Nat}(h:n<18446744073709551616):IntKind.u64.wrap (n:Int)=n:=se (by omega) (by omega)
theorem XM{n:Nat}(h:n<4294967296):IntKind.u32.wrap (n:Int)=n:=Dc (by omega) (by omega)
theorem XN{n:Nat}(h:n<9223372036854775808):IntKind.i64.wrap (n:Int)=n:=va (by omega) (by omega)
theorem zU{bt:Bool}{x y d:Nat}(hy:0<y)(hx:x<18446744073709551616):bQ .quo bt (.int .u64 (x:Int)) (.int .u64 (y:Int)) d fr hp K=K (ab fr d (.int .u64 ((x/y:Nat):Int))) hp:=
 H6 hy (XL (Kcs (Kcv x y) hx))
theorem acY{bt:Bool}{x y d:Nat}(hy:0<y)(hx:x<4294967296):bQ .quo bt (.int .u32 (x:Int)) (.int .u32 (y:Int)) d fr hp K=K (ab fr d (.int .u32 ((x/y:Nat):Int))) hp:=
 H6 hy (XM (Kcs (Kcv x y) hx))
theorem DF{bt:Bool}{x y d:Nat}(hy:0<y)(hx:x<9223372036854775808):bQ .quo bt (.int .i64 (x:Int)) (.int .i64 (y:Int)) d fr hp K=K (ab fr d (.int .i64 ((x/y:Nat):Int))) hp:=
 H6 hy (XN (Kcs (Kcv x y) hx))
theorem acZ{e d β o n H:Nat}{k:IntKind}(h:H<=n)(he:(hp β).map (·.e)=some e):iE e (.aw β o n) none (some (.int k (H:Int))) none d fr hp K=K (ab fr d (.aw β o H)) hp:=by
 have h1:(H:Int)<=(n:Int):=by omega
 simp[iE,gZ,he,h1]
theorem ac0{e d β o n L H:Nat}{k k':IntKind}(h1:L<=H)(h:H<=n)(h0:L<n)(he:(hp β).map (·.e)=some e):iE e (.aw β o n) (some (.int k (L:Int))) (some (.int k' (H:Int))) none d fr hp K=K (ab fr d (.aw β (o+L) (H-L))) hp:=by
 have q1:(H:Int)<=(n:Int):=by omega
 have q2:(L:Int)<=(H:Int):=by omega
 have q3:(L:Int)<(n:Int):=by omega
 simp[iE,gZ,he,q1,q2,q3]
theorem PX{bt:Bool}{x d:Nat}(hx:x<9223372036854775808):bQ .quo bt (.int .i64 (x:Int)) (.int .i64 16) d fr hp K=K (ab fr d (.int .i64 ((x/16:Nat):Int))) hp:=
 DF (y:=16) (by omega) hx
theorem PY{bt:Bool}{x d:Nat}:bQ .rem bt (.int .i64 (x:Int)) (.int .i64 16) d fr hp K=K (ab fr d (.int .i64 ((x%16:Nat):Int))) hp:=
 pL (y:=16) (by omega)
def nY(s:Nat):List Nat->Nat->List Nat
 | [],c=>[c]
 |x::xs,c=>((x*2^s)%65536+c)::nY s xs (x*2^s/65536)
theorem K9(s:Nat):∀(l:List Nat)(c:Nat),val (nY s l c)=val l*2^s+c
 | [],c=>by simp[nY,val]
 |x::xs,c=>by rw[nY,val,K9 s xs,val,KaD,Kbb];generalize x*2^s=y;generalize val xs*2^s=z;omega
theorem Hh{s:Nat}(h:s<=16):(65536:Nat)=2^s*2^(16-s):=by rw[<-Nat.pow_add,show s+(16-s)=16 by omega]
theorem La{s x c:Nat}(h:s<=16)(hc:c<2^s):(x*2^s)%65536+c<65536/\c|||(x*2^s)%65536=(x*2^s)%65536+c:=by
 have e:(x*2^s)%65536=(x%2^(16-s))*2^s:=by rw[Hh h,KaX x,Nat.mul_mod_mul_left,KaX]
 have h1:x%2^(16-s)<2^(16-s):=Kbs _ (KbM (by omega));have h2:(x%2^(16-s)+1)*2^s<=2^(16-s)*2^s:=Kam _ h1;rw[KaD,KaX (2^(16-s)),<-Hh h]at h2;rw[e];refine⟨by omega,?_⟩;rw[Nat.or_comm,z5 hc]
theorem PZ{s x:Nat}(h:s<=16)(hx:x<65536):x*2^s/65536<2^s:=by rw[Kbd (by omega),KaX];exact Nat.mul_lt_mul_of_pos_left hx (KbM (by omega))
theorem OX{s:Nat}(h:s<=15):∀(l:List Nat)(c:Nat),Qj l->c<2^s->Qj (nY s l c)
 | [],c,_,hc=>by have:2^s<=2^15:=Kbu (by omega) h;simp[nY,Qj];omega
 |x::xs,c,hl,hc=>by rw[gH]at hl;rw[nY,gH];exact⟨(La (by omega) hc).1,OX h xs _ hl.2 (PZ (by omega) hl.1)⟩
theorem Oh(s:Nat):∀(l:List Nat)(c:Nat),(nY s l c).length=l.length+1
 | [],_=>rfl
 |x::xs,c=>by simp[nY,Oh s xs]
theorem afU{s x:Nat}(h:s<=15)(hx:x<65536):x*2^s<2147483648:=by have:2^s<=2^15:=Kbu (by omega) h;have:=KbO (show x<=65535 by omega) this;omega
theorem Lb(l:List Nat):∀n,n<=l.length->cut l n=l.take (cut l n).length
 |0,_=>by simp[cut]
 |n+1,h=>by
  unfold cut;split
  ·exact Lb l n (by omega)
  ·rw[Kay,KbP h]
theorem aa1{l:List Nat}(h:Qj l):l.take (nl (val l))=ak (val l):=by have:=Lb l l.length (Kae _);rw[zP h]at this;exact this.symm
end Go.FW
namespace Go.FW
open Go
theorem zT.TR{P:Program}{f:FuncId}{args:List PV}{ty:TypeId}{ys:List PV}(h:zT P f args ty (· =ys)):Qd P f args (· = .sl 1 ys):=by
 refine⟨h.1,fun w X bb hX h2 h3=>(h.2 w X bb hX h2 h3).mono ?_⟩;rintro e w' ⟨v,b,cap,ys',rfl,rfl,hb,hx,hI,dw,hm,rfl⟩;refine⟨_,_,rfl,hx,?_,rfl⟩;obtain⟨hint,cur,cp,i1,i2,i3,i4,i5⟩:=hI;obtain⟨cur',ty',d1,d2⟩:=dw;rw[i1]at d1;cases d1;have ym:b<w'.heap.size:=(Kbl.1 i1).1;have e:cp=cap:=by omega
 subst e;refine Qp.sl (w:=w') (X:=X) 1 ys' b 0 cp (fun i j=>cur.getD (i+j) undef) (fun Bu=>by have:=hX b Bu;omega) ym i3 i4 (Dd hint |> fun h i x hx=>(h i x hx).1) (fun i hi j hj=>?_) (fun i x hx j y hy=>?_)
 ·have:j=0:=by omega
  subst this;simp only[Ka5,KbV,KaM];exact kU i1 (by omega)
 ·obtain⟨k,n,rfl⟩:=hint x (Kaj hx);cases j with
  |zero=>simp[PV.cells]at hy;subst hy;show Qp w' X (.int k n) (cur.getD (i+0) undef);rw[KaM,i5 i k n hx];exact Qp.int k n
  |succ j=>simp[PV.cells]at hy
def m8(s:Nat):List Nat->List Nat
 | []=>[]
 |x::xs=>((xs.headD 0*65536+x)/2^s)%65536::m8 s xs
theorem GL(s:Nat):∀l,(m8 s l).length=l.length
 | []=>rfl
 |x::xs=>by simp[m8,GL s xs]
theorem OY(s:Nat):∀l,Qj (m8 s l)
 | []=>nL
 |x::xs=>by rw[m8,gH];exact⟨by omega,OY s xs⟩
theorem XO{s i:Nat}{l:List Nat}(h:i<l.length):m8 s (l.drop i)=((l.getD (i+1) 0*65536+l[i])/2^s)%65536::m8 s (l.drop (i+1)):=by rw[Kau h,m8];simp[KbF,Kcg,Kad]
theorem aa2{x V s:Nat}(hs:s<=16)(hx:x<65536):(x+65536*V)/2^s=((V%65536*65536+x)/2^s)%65536+65536*(V/2^s):=by
 have hp:0<2^s:=KbM (by omega);have e0:=Kbi V (2^s);have hr:=Kbs V hp;generalize hq:V/2^s=q at *
 generalize SV:V%2^s=r at *
 have hy:V%65536%2^s=r:=by rw[Hh hs,Nat.mod_mul_right_mod];exact SV
 have e1:=Kbi (V%65536) (2^s);rw[hy]at e1;generalize V%65536/2^s=t at *
 have aq:(65536*r+x)/2^s<65536:=by rw[Kbd hp];have:65536*(r+1)<=65536*2^s:=Ka9 _ hr;omega
 have k1:x+65536*V=(65536*r+x)+2^s*(65536*q):=by rw[<-e0,KaW,KbE];omega
 have k2:V%65536*65536+x=(65536*r+x)+2^s*(65536*t):=by rw[<-e1,KaD,Kbb,KaX t 65536];omega
 rw[k1,k2,Kce _ _ hp,Kce _ _ hp,Kcd,KaI aq]
theorem Lc{s:Nat}(hs:s<=16):∀l,Qj l->val (m8 s l)=val l/2^s
 | [],_=>by simp[m8,val]
 | x::xs,h=>by
  rw[gH]at h;rw[m8,val,Lc hs xs h.2,val,aa2 hs h.1];have:xs.headD 0=val xs%65536:=by
   cases xs with
   |nil=>simp[val]
   |cons y ys=>have:=h.2 y (by simp);simp[val];omega
  rw[this]
variable {C : Ctx} {ρ : Nat -> Option Nat} {fr aA : Fr} {hp : HP} {w : World} {K K' R R' : Qi}
def bU(fr aA:Fr):Prop:=∀s,aA s=fr s∨aA s= .undef
theorem bU.refl(fr:Fr):bU fr fr:=fun _=>.inl rfl
theorem bU.trans{a b c:Fr}(h:bU a b)(k:bU b c):bU a c:=fun s=>by
 rcases k s with e|e
 ·rw[e];exact h s
 ·exact .inr e
theorem bU.ab(h:bU fr aA)(d:Nat){v v':PV}(hv:v'=v∨v'= .undef):bU (ab fr d v) (ab aA d v'):=fun s=>by
 unfold FW.ab;split
 ·exact hv
 ·exact h s
theorem bU.iF(h:bU fr aA)(d:Nat)(v:PV):bU (FW.ab fr d v) (FW.ab aA d v):=h.ab d (.inl rfl)
theorem bU.kill(h:bU fr aA)(β:Nat):bU (bE β fr) (bE β aA):=fun s=>by
 unfold bE;rcases h s with e|e
 ·exact .inl (by rw[e])
 ·right;rw[e];simp[bx,PV.refs]
theorem bU.ev(h:bU fr aA)(x:aJ):ev aA x=ev fr x∨ev aA x= .undef:=by
 cases x with
 |t n=>exact h n
 |c p=>exact .inl rfl
theorem bU.mem(h:bU fr aA){q:PV->Prop}(hq:¬q .undef){l:List aJ}(hl:∀p∈l.map (FW.ev aA),q p):l.map (FW.ev aA)=l.map (FW.ev fr):=by
 refine Ka1 fun x hx=>?_;rcases h.ev x with e|e
 ·exact e
 ·exact absurd (e▸hl _ (Kci hx)) hq
theorem bU.aF(h:bU fr aA){γ aZ e ty:Nat}{xs:List PV}(e1:aA γ= .aF aZ e ty xs):fr γ= .aF aZ e ty xs:=by
 rcases h γ with e2|e2
 ·rw[<-e2];exact e1
 ·rw[e1]at e2;cases e2
theorem bU.drop(h:bU fr aA)(γ:Nat):bU (iJ γ fr) (iJ γ aA):=fun s=>by
 unfold iJ;rcases h s with e|e
 ·exact .inl (by rw[e])
 ·right;rw[e];rfl
theorem bU.take(h:bU fr aA)(β:Nat):bU (ff β fr) (ff β aA):=fun s=>by
 unfold ff;rcases h s with e|e
 ·exact .inl (by rw[e])
 ·right;rw[e];simp[cS,bx,PV.refs]
theorem bU.wk(h:bU fr aA):Wk fr hp aA hp:=by
 rintro C tmps w ⟨ρ,hs⟩;refine⟨ρ,hs.sz,hs.ext,hs.eJ,hs.own,hs.inj,fun s=>?_⟩;rcases h s with h|h<;>rw[h]
 ·exact hs.cE s
 ·trivial
theorem bU.TL{tmps:Array Value}(h:bU fr aA)(hs:Qr C ρ fr hp tmps w):Qr C ρ aA hp tmps w:=by
 refine⟨hs.sz,hs.ext,hs.eJ,hs.own,hs.inj,fun s=>?_⟩;rcases h s with h|h<;>rw[h]
 ·exact hs.cE s
 ·trivial
theorem Gk(h:bU fr aA)(x:Option aJ):x.map (ev aA)=x.map (ev fr)∨x.map (ev aA)=some .undef:=by
 cases x with
 |none=>exact .inl rfl
 |some x=>rcases h.ev x with e|e<;>simp[e]
theorem Qzz(d:Int):gZ d (some .undef)=none:=rfl
theorem H7 (h:bU fr aA) (hK:∀f f' hp,bU f f'->K' f' hp->K f hp) (o:cc):bg C o aA hp K'->bg C o fr hp K:=by
 have hu:∀(d:Nat)(v:PV)(hp:HP),K' (ab aA d v) hp->K (ab fr d v) hp:=fun d v hp H=>hK _ _ _ (h.iF d v) H;have hk:∀(β d:Nat)(v:PV)(hp:HP),K' (ab (bE β aA) d v) hp->K (ab (bE β fr) d v) hp:=fun β d v hp H=>hK _ _ _ ((h.kill β).iF d v) H;have hz:∀hp,K' aA hp->K fr hp:=fun hp H=>hK _ _ _ h H;have mono:∀ {o:cc},bg C o fr hp K'->bg C o fr hp K:=fun H=>HM (fun f hp H=>hK _ _ _ (bU.refl f) H) _ H;cases o with
 |mv d x=>exact fun H=>hK _ _ _ (h.ab d (h.ev x)) H
 | pick d c a b=>
  simp only[bg,sC];rcases h.ev c with e|e
  ·rw[e];split
   ·exact fun H=>⟨fun t=>hK _ _ _ (h.ab d (h.ev a)) (H.1 t),fun t=>hK _ _ _ (h.ab d (h.ev b)) (H.2 t)⟩
   ·exact id
  ·rw[e];exact False.elim
 | call d pr f args=>
  simp only[bg,fH];rcases h.ev f with e|e
  ·rw[e];split
   ·rintro⟨h1,h2⟩;refine⟨h1,fun ρ tmps w fv cv av a1 a2 a3 a4 a5 a6 a7 a8=>?_⟩;refine(h2 ρ tmps w fv cv av a1 (h.TL a2) a3 a4 (by simpa using a5) a6 a7 (fun i x hx=>?_)).mono ?_
    ·simp only[Kas,Kaa]at hx;obtain⟨y,hy,rfl⟩:=hx;rcases h.ev y with e|e
     ·rw[e];exact a8 i _ (by simp[hy])
     ·rw[e];trivial
    ·rintro e w' ⟨v,f1,hp',e1,e2,e3,e4⟩;exact⟨v,f1,hp',e1,e2,e3,hK _ _ _ (bU.refl _) e4⟩
   ·exact id
  ·rw[e];exact False.elim
 | bs d e ty ps=>
  simp only[bg,kF];by_cases hb:mY (ps.map (ev aA))=true
  ·rw[if_pos hb];rintro⟨h1,h2⟩;have e:ps.map (ev aA)=ps.map (ev fr):=by
    match ps,hb with
    | [],hb=>simp[mY]at hb
    | [p],hb=>
     rcases h.ev p with e|e
     ·simp[e]
     ·rw[Kbk,Kby,e]at hb;simp[mY,lR]at hb
    |p::q::ps,hb=>simp[mY]at hb
   rw[e]at h2 hb;rw[if_pos hb];exact⟨h1,hK _ _ _ (((h.take _).iF _ _).iF _ _) h2⟩
  ·rw[if_neg hb];rintro⟨h1,h2,h3⟩;have e:=h.mem (q:=fun p=>(Qt hp p).aD=true) (by simp[Qt,cj,PV.aD]) (l:=ps) (fun p hp=>(h2 p hp).1);rw[e]at h2 h3 hb;rw[if_neg hb];exact⟨h1,h2,hk _ _ _ _ h3⟩
 | ej d z ps=>
  have key:((∀x∈ps,ev aA x.2.2≠ .undef)->(ps.map fun p=>(p.1,p.2.1,ev aA p.2.2))=ps.map fun p=>(p.1,p.2.1,ev fr p.2.2)):=fun hu=>by
   refine Ka1 fun x hx=>?_;rcases h.ev x.2.2 with e|e
   ·rw[e]
   ·exact absurd e (hu x hx)
  intro H;simp only[bg,ky]at H;split at H
  ·rename_i hn;obtain⟨h2,h3⟩:=H;have e:=key fun x hx e=>by obtain⟨cs,h4,_⟩:=h2 _ (Kci hx);rw[e]at h4;simp[eT]at h4
   rw[e]at h2 h3 hn;simp only[bg,ky];rw[if_pos hn];exact⟨h2,hK _ _ _ (h.iF _ _) h3⟩
  ·rename_i hn;obtain⟨h2,h3⟩:=H;have e:=key fun x hx e=>by have:=(h2 _ (Kci hx)).1;rw[e]at this;simp[Qt,cj,PV.aD]at this
   rw[e]at h2 h3 hn;simp only[bg,ky];rw[if_neg hn];exact⟨h2,hK _ _ _ (h.iF _ _) h3⟩
 |fn d f first cap=>simp only[bg];rintro⟨h2,h3⟩;have ll:=h2;rw[List.all_append,Kav,Kap,Kap]at ll;have e1:=h.mem (q:=fun p=>p.kN=true) (by simp[PV.kN]) ll.1;have e2:=h.mem (q:=fun p=>p.kN=true) (by simp[PV.kN]) ll.2;rw[e1,e2]at h2 h3;exact⟨h2,hK _ _ _ (h.iF _ _) h3⟩
 | BE d x=>
  simp only[bg,Am];rcases h.ev x with e|e
  ·rw[e];intro H;revert H
   repeat' split
   all_goals first|exact id|exact hz _|exact hu _ _ _|grind
  ·rw[e];intro H;revert H;repeat' split
   all_goals first|exact id|exact False.elim|grind
 | bin d op bt x y=>
  simp only[bg];rcases h.ev x with e|e<;>rcases h.ev y with e'|e'<;>rw[e,e']
  ·unfold bQ;intro H;revert H;split
   ·split<;>first|exact fun H=>⟨H.1,hu _ _ _ H.2⟩|exact fun H=>⟨H.1,H.2.1,hu _ _ _ H.2.2⟩|exact id
   ·split<;>first|exact fun H=>⟨H.1,hu _ _ _ H.2⟩|exact id
   ·exact id
  all_goals
   unfold bQ;intro H;revert H
   repeat' split
   all_goals first|exact False.elim|(intros;simp_all;done)|(rename_i h1 _;cases h1;done)|(rename_i h1;cases h1;done)
 | sl d e x lo hi mx=>
  simp only[bg,iE];rcases h.ev x with e0|e0<;>rcases Gk h lo with e1|e1<;>rcases Gk h hi with e2|e2<;>rcases Gk h mx with e3|e3<;>rw[e0,e1,e2,e3]
  all_goals
   intro H;revert H
   try simp only[Qzz]
   repeat' split
   all_goals first|exact id|exact False.elim|(intros;simp_all;done)|grind
 | ld d n ag x=>
  simp only[bg,bo];rcases h.ev x with e|e
  ·rw[e];intro H;revert H;split
   ·split
    ·exact fun⟨a,b,c,k⟩=>⟨a,b,c,hu _ _ _ k⟩
    ·exact id
   ·exact fun⟨a,b,k⟩=>⟨a,b,hu _ _ _ k⟩
   ·exact fun⟨a,b,k⟩=>⟨a,b,hu _ _ _ k⟩
   ·intro H;split at H
    ·rename_i ah;rw[h.aF ah];obtain⟨a,b,c,d,k⟩:=H;exact⟨a,b,c,d,hu _ _ _ k⟩
    ·exact H.elim
   ·exact id
  ·rw[e];exact fun H=>H.elim
 | st n x y=>
  simp only[bg,nH];rcases h.ev x with e|e<;>rcases h.ev y with e'|e'<;>rw[e,e']
  ·intro H;revert H;split
   ·split
    ·exact fun⟨a,b,c,d,f,k⟩=>⟨a,b,c,d,f,hz _ k⟩
    ·exact id
   ·intro H;split at H
    ·rename_i ah;rw[h.aF ah];obtain⟨a,b,c,d,H⟩:=H;refine⟨a,b,c,d,?_⟩;revert H;split
     ·exact fun⟨f,k⟩=>⟨f,hK _ _ _ ((h.drop _).iF _ _) k⟩
     ·exact id
    ·exact H.elim
   ·exact id
  ·intro H;exfalso;revert H;split
   ·split
    ·rintro⟨_,b,_⟩;simp[Qt,cj,PV.aD]at b
    ·exact id
   ·split
    ·rintro⟨_,_,_,_,H⟩;exact H
    ·exact id
   ·exact id
  ·exact fun H=>H.elim
  ·exact fun H=>H.elim
 | app d e by_ ty x y=>
  simp only[bg,iL];rcases h.ev y with e'|e'
  ·rw [e'];intro H;revert H;split
   ·unfold xK;split
    ·rename_i δ _;rcases h δ with e2|e2
     ·rw [e2];split
      ·rintro⟨a1,a2,a3,H⟩;refine⟨a1,a2,a3,?_⟩;rcases h.ev x with e|e
       ·rw[e]at H;revert H;split
        ·exact fun H=>⟨H.1,hK _ _ _ (((h.take _).iF _ _).iF _ _) H.2⟩
        ·rename_i γ k _;rcases h γ with e3|e3
         ·rw[e3];split
          ·exact fun H=>⟨H.1,H.2.1,hK _ _ _ (((h.take _).iF _ _).iF _ _) H.2.2⟩
          ·exact id
         ·rw[e3];exact fun H=>H.elim
        ·exact id
       ·rw[e]at H;exact H.elim
      ·exact id
     ·rw[e2];exact fun H=>H.elim
    ·exact id
   ·rintro⟨h0,h1,H⟩;refine⟨h0,h1,?_⟩;rcases h.ev x with e|e
    ·rw[e]at H;revert H;split
     ·rintro⟨a,b,c⟩;exact⟨a,b,hk _ _ _ _ c⟩
     ·split
      ·rintro(⟨a1,a2,a3,a4,a5,a6,a7,c⟩|⟨a1,a2,a3,c⟩)
       ·exact .inl ⟨a1,a2,a3,a4,a5,a6,a7,hk _ _ _ _ c⟩
       ·exact .inr ⟨a1,a2,a3,hK _ _ _ ((h.take _).iF _ _) c⟩
      ·exact id
     ·exact id
    ·rw[e]at H;exact H.elim
  ·rw[e'];exact fun H=>H.elim
 | un d op x|conv d k x|len d x|BN d x|bY d o x|ye d o n ag x|ext d x i=>
  all_goals
   simp only[bg,uU,vp,oY,vA,rf,qV,bo,lY]
   try (rcases h.ev x with e|e<;>rw[e])
  all_goals
   intro H;revert H
   repeat' split
   all_goals first|exact id|exact False.elim|exact hu _ _ _|grind [Qt,cj,PV.aD]
 | box d n ty x=>
  simp only[bg];rcases h.ev x with e|e
  ·rw[e];unfold eU;split
   ·unfold tV;exact fun H=>⟨H.1,hK _ _ _ (((h.take _).iF _ _).iF _ _) H.2⟩
   ·split
    ·exact hu _ _ _
    ·exact fun H=>⟨H.1,H.2.1,H.2.2.1,hk _ _ _ _ H.2.2.2⟩
  ·rw[e];intro H;simp[eU,Qt,cj,PV.aD]at H
 | alloc d n ty z=>
  simp only[bg];unfold eU;split
  ·unfold tV;exact fun H=>⟨H.1,hK _ _ _ (((h.take _).iF _ _).iF _ _) H.2⟩
  ·split
   ·exact hu _ _ _
   ·exact fun H=>⟨H.1,H.2.1,H.2.2.1,hk _ _ _ _ H.2.2.2⟩
 | eqs d ng x y|wN d ng x y|BM d x y|mx d x y|mn d x y|idx d e x y|wB d n e x y|Bx d n e ag x y|mk d e by_ ty z x y|uk d e x y=>
  all_goals
   simp only[bg,ra,re,tU,wI,wG,Q7,jI,xJ,nH,nD,iL,tW];rcases h.ev x with e|e<;>rcases h.ev y with e'|e'<;>rw[e,e']
  all_goals
   intro H;revert H
   repeat' split
   all_goals first|exact id|exact False.elim|exact hu _ _ _|grind [Qt,cj,PV.aD,ju]
 |bad d=>exact id
end Go.FW
namespace Go.FW
open Go
variable {C : Ctx} {ρ : Nat -> Option Nat} {fr aA : Fr} {hp : HP} {w : World} {K K' R R' : Qi}
def KM(K' K:Qi):Prop:=∀f f' hp,bU f f'->K' f' hp->K f hp
inductive mV:List It->List It->Prop
 |nil:mV [] []
 |c (s:SC) {a b:List It}:mV a b->mV (.c s::a) (.c s::b)
 |o (r:RT) {a b:List It}:mV a b->mV (.o r::a) (.o r::b)
 |eb (i:Nat) {a b:List It}:mV a b->mV (.eb i::a) (.eb i::b)
 |el {J' J:Qi} {a b:List It}:KM J' J->mV a b->mV (.el J'::a) (.el J::b)
theorem mV.exit{id:Nat}:∀ {a b:List It},mV a b->(∃a' b',FW.bW id a=some a'/\FW.bW id b=some b'/\mV a' b'/\bG a'<=bG a)∨(FW.bW id a=none/\FW.bW id b=none):=by
 intro a b h;induction h with
 |nil=>exact .inr ⟨rfl,rfl⟩
 |c s h ih|o s h ih=>
  rcases ih with⟨a',b',h1,h2,h3,h4⟩|⟨h1,h2⟩
  ·exact .inl ⟨a',b',by simpa[FW.bW]using h1,by simpa[FW.bW]using h2,h3,by simp only[bG];omega⟩
  ·exact .inr ⟨by simpa[FW.bW]using h1,by simpa[FW.bW]using h2⟩
 |el _ h ih=>
  rcases ih with⟨a',b',h1,h2,h3,h4⟩|⟨h1,h2⟩
  ·exact .inl ⟨a',b',by simpa[FW.bW]using h1,by simpa[FW.bW]using h2,h3,by simp only[bG];omega⟩
  ·exact .inr ⟨by simpa[FW.bW]using h1,by simpa[FW.bW]using h2⟩
 | eb i h ih=>
  by_cases hi:i=id
  ·exact .inl ⟨_,_,by simp[FW.bW,hi],by simp[FW.bW,hi],h,by simp only[bG];omega⟩
  ·rcases ih with⟨a',b',h1,h2,h3,h4⟩|⟨h1,h2⟩
   ·exact .inl ⟨a',b',by simpa[FW.bW,hi]using h1,by simpa[FW.bW,hi]using h2,h3,by simp only[bG];omega⟩
   ·exact .inr ⟨by simpa[FW.bW,hi]using h1,by simpa[FW.bW,hi]using h2⟩
theorem CZ(h:bU fr aA)(hK:KM K' K)(o:cc):jv o aA hp K'->jv o fr hp K:=by
 unfold jv;split
 ·exact hK _ _ _ (h.iF _ _)
 ·exact hK _ _ _ h
theorem aa3(h:bU fr aA)(hK:KM K' K)(g:Option (Nat×Bool))(o:cc):im C g o aA hp K'->im C g o fr hp K:=by
 unfold im;split
 ·exact H7 h hK o
 ·rename_i s want;rcases h s with e|e
  ·rw[e];split
   ·exact fun H=>⟨fun t=>H7 (h.iF _ _) hK o (H.1 t),fun t=>CZ (h.iF _ _) hK o (H.2 t)⟩
   ·exact CZ h hK o
   ·exact id
  ·rw[e];exact False.elim
theorem su(hR:KM R' R):∀(n:Nat)(ee sk:List It)(aA fr:Fr)(hp:HP),bG ee<=n->mV ee sk->bU fr aA->vc C R' ee aA hp->vc C R sk fr hp:=by
 intro n;induction n with
 |zero=>
  intro ee sk aA fr hp hn hs hf h;cases hs with
  |nil=>rw[tM]at h ⊢;exact hR _ _ _ hf h
  |el hJ _=>rw[vq]at h ⊢;exact hJ _ _ _ hf h
  |c s _=>exfalso;have:=SC.yO s;simp only[bG,It.sz]at hn;omega
  |o s _=>exfalso;have:=RT.yO s;simp only[bG,It.sz]at hn;omega
  |eb _ _=>exfalso;simp only[bG,It.sz]at hn;omega
 | succ n ih=>
  intro ee sk aA fr hp hn hs hf h;cases hs with
  |nil=>rw[tM]at h ⊢;exact hR _ _ _ hf h
  |el hJ _=>rw[vq]at h ⊢;exact hJ _ _ _ hf h
  |eb i hs=>rw[BQ]at h⊢;exact ih _ _ _ _ _ (by simp only[bG,It.sz]at hn;omega) hs hf h
  | o r hs=>
   cases r with
   |nil=>rw[z8]at h ⊢;exact ih _ _ _ _ _ (by simp only[bG,It.sz,RT.sz]at hn;omega) hs hf h
   |o g o r=>rw[MJ]at h⊢;exact aa3 (K':=fun fr hp=>vc C R' (.o r::_) fr hp) (K:=fun fr hp=>vc C R (.o r::_) fr hp) hf (fun f f' hp Jn H=>ih (.o r::_) (.o r::_) _ _ hp (by simp only[bG,It.sz,RT.sz]at hn ⊢;omega) (.o r hs) Jn H) g o h
   |wk r=>rw[DU]at h⊢;obtain⟨aK,ax,hw,h⟩:=h;exact⟨aK,ax,hf.wk.trans hw,ih (.o r::_) (.o r::_) _ _ _ (by simp only[bG,It.sz,RT.sz]at hn ⊢;omega) (.o r hs) (bU.refl _) h⟩
   |br x y=>rw[MK]at h⊢;exact⟨ih (.o x::_) (.o x::_) _ _ _ (by simp only[bG,It.sz,RT.sz]at hn ⊢;omega) (.o x hs) hf h.1,ih (.o y::_) (.o y::_) _ _ _ (by simp only[bG,It.sz,RT.sz]at hn ⊢;omega) (.o y hs) hf h.2⟩
  | @c s a b hs=>
   cases s with
   |skip=>rw[Dy]at h ⊢;exact ih _ _ _ _ _ (by simp only[bG,It.sz,SC.sz]at hn;omega) hs hf h
   |rg r=>rw[Gh]at h ⊢;exact ih (.o r::_) (.o r::_) _ _ _ (by simp only[bG,It.sz,SC.sz]at hn ⊢;omega) (.o r hs) hf h
   | raw id ops=>
    rw[vc]at h⊢;intro tmps w Q ov hQ;refine h tmps w Q ?_ fun fh bI apA w2 dA hv=>hQ fh bI apA w2 dA ?_
    ·obtain⟨ρ,ov⟩:=ov;exact⟨ρ,hf.TL ov⟩
    ·exact ih _ _ _ _ _ (by simp only[bG,It.sz,SC.sz]at hn;omega) hs (bU.refl _) hv
   |seq x y=>rw[DV]at h ⊢;exact ih (.c x:: .c y::_) (.c x:: .c y::_) _ _ _ (by simp only[bG,It.sz,SC.sz]at hn ⊢;omega) (.c x (.c y hs)) hf h
   |block id x=>rw[Dh]at h ⊢;exact ih (.c x:: .eb id::_) (.c x:: .eb id::_) _ _ _ (by simp only[bG,It.sz,SC.sz]at hn ⊢;omega) (.c x (.eb id hs)) hf h
   |ret=>rw[DW]at h ⊢;exact hR _ _ _ hf h
   | cond c x y=>
    rw[DA]at h⊢;rcases hf.ev c with e|e
    ·rw[e]at h;unfold tO at h⊢;split at h
     ·exact⟨fun e=>ih (.c x::_) (.c x::_) _ _ _ (by simp only[bG,It.sz,SC.sz]at hn ⊢;omega) (.c x hs) hf (h.1 e),fun e=>ih (.c y::_) (.c y::_) _ _ _ (by simp only[bG,It.sz,SC.sz]at hn ⊢;omega) (.c y hs) hf (h.2 e)⟩
     ·exact h
    ·rw[e]at h;exact h.elim
   | exit id=>
    rw[DB]at h⊢;rcases hs.exit (id:=id)with⟨a',b',h1,h2,h3,h4⟩|⟨h1,h2⟩
    ·rw[h1]at h;rw[h2];simp only[vo]at h⊢;exact ih _ _ _ _ _ (by simp only[bG,It.sz,SC.sz]at hn;omega) h3 hf h
    ·rw[h1]at h;exact h.elim
   |loop x=>rw[wU]at h⊢;obtain⟨I,μ,⟨aK,ax,h1,iv⟩,h2⟩:=h;refine⟨I,μ,⟨aK,ax,hf.wk.trans h1,iv⟩,fun fr hp hI=>?_⟩;refine ih (.c x:: .el _::_) (.c x:: .el _::_) _ _ _ (by simp only[bG,It.sz,SC.sz]at hn ⊢;omega) (.c x (.el ?_ hs)) (bU.refl _) (h2 fr hp hI);rintro f f' hp' hf ⟨aK,ax,g1,g2,g3⟩;exact⟨aK,ax,hf.wk.trans g1,g2,g3⟩
def lH:List (Nat×Nat)->Nat->Bool
 | [],_=>false
 |(a,b)::W,s=>(decide (a<=s)&&decide (s<=b))||lH W s
theorem ac1(s:Nat):lH [] s=false:=rfl
theorem De(a b s:Nat)(W:List (Nat×Nat)):lH ((a,b)::W) s=((decide (a<=s)&&decide (s<=b))||lH W s):=rfl
def bd(W:List (Nat×Nat))(J F:Fr):Fr:=fun s=>if lH W s then J s else F s
theorem MP(W:List (Nat×Nat))(J F:Fr)(s:Nat):bd W J F s=if lH W s then J s else F s:=rfl
theorem L2{W:List (Nat×Nat)}{a:Nat}{v:PV}{J F:Fr}(h:lH W a=true):ab (bd W J F) a v=bd W (ab J a v) F:=by
 funext s;unfold ab bd;by_cases hs:s=a
 ·subst hs;rw[if_pos rfl,if_pos h];simp
 ·rw[if_neg hs];split
  ·simp[hs]
  ·rfl
theorem aa4{W:List (Nat×Nat)}{a:Nat}{v:PV}{J F:Fr}:ab (bd W J F) a v=if lH W a=true then bd W (ab J a v) F else bd ((a,a)::W) (ab J a v) F:=by
 split
 ·exact L2 ‹_›
 ·funext s;unfold ab bd;by_cases hs:s=a
  ·subst hs;simp[lH]
  ·have:(decide (a<=s)&&decide (s<=a))=false:=by rw[Bool.and_eq_false_iff];simp only[decide_eq_false_iff_not];omega
   simp only[De,this,Bool.false_or,if_neg hs]
theorem XP{W:List (Nat×Nat)}{β:Nat}{J F:Fr}:bE β (bd W J F)=bd W (bE β J) (bE β F):=by funext s;unfold bE bd;split<;>rfl
def Qz(B:List Nat)(F:Fr):Fr:=fun s=>if(F s).refs.any B.contains then .undef else F s
theorem iT(F:Fr):Qz [] F=F:=by funext s;simp[Qz]
theorem Cq{β:Nat}{B:List Nat}{F:Fr}(h:B.contains β=true):bE β (Qz B F)=Qz B F:=by
 funext s;show bx β (Qz B F s)=Qz B F s;by_cases h1:(F s).refs.any B.contains=true
 ·have:Qz B F s= .undef:=if_pos h1;rw[this];rfl
 ·have:Qz B F s=F s:=if_neg h1;rw[this,bx,if_neg];intro h2;exact h1 (KaS.2 ⟨β,by simpa using h2,h⟩)
theorem Qz0{β:Nat}{B:List Nat}{F:Fr}:bE β (Qz B F)=if B.contains β=true then Qz B F else Qz (β::B) F:=by
 split
 ·exact Cq ‹_›
 ·funext s;show bx β (Qz B F s)=Qz (β::B) F s;unfold Qz bx;by_cases h1:(F s).refs.any B.contains=true
  ·have h2:(F s).refs.any (β::B).contains=true:=by obtain⟨x,hx,jC⟩:=KaS.1 h1;exact KaS.2 ⟨x,hx,by rw[KaK,jC,Bool.or_true]⟩
   simp only[if_pos h1,if_pos h2];rfl
  ·simp only[if_neg h1];by_cases h2:(F s).refs.contains β=true
   ·have h3:(F s).refs.any (β::B).contains=true:=KaS.2 ⟨β,by simpa using h2,by simp⟩;rw[if_pos h2,if_pos h3]
   ·rw[if_neg h2,if_neg];intro h3;obtain⟨x,hx,jC⟩:=KaS.1 h3;rw[KaK,KbC]at jC;rcases jC with e|e
    ·have:x=β:=by simpa using e
     subst this;exact h2 (by simpa using hx)
    ·exact h1 (KaS.2 ⟨x,hx,e⟩)
theorem Hi(B:List Nat)(F:Fr)(s:Nat):Qz B F s=if(F s).refs.any B.contains then .undef else F s:=rfl
theorem Df(W:List (Nat×Nat))(B:List Nat):bU fr (bd W fr (Qz B fr)):=fun s=>by
 unfold bd Qz;split
 ·exact .inl rfl
 ·split
  ·exact .inr rfl
  ·exact .inl rfl
def xE(W:List (Nat×Nat))(F:Fr)(I:Nat->Fr->HP->Prop)(n:Nat):Qi:=fun aA hp'=>∃J m,bU aA (bd W J F)/\m<n/\I m J hp'
theorem Qg{W:List (Nat×Nat)}{F J:Fr}{I:Nat->Fr->HP->Prop}{n:Nat}(m:Nat)(hl:m<n)(h:I m J hp):xE W F I n (bd W J F) hp:=⟨J,m,bU.refl _,hl,h⟩
theorem aa5{W:List (Nat×Nat)}{F:Fr}{I:Nat->Fr->HP->Prop}{n:Nat}:KM (xE W F I n) (xE W F I n):=by rintro f f' hp hf ⟨J,m,h1,h2,h3⟩;exact⟨J,m,hf.trans h1,h2,h3⟩
def eM(R:Qi)(sk:List It):Prop:=KM R R/\mV sk sk
theorem Ql{sk:List It}{x:SC}(aL:eM R sk)(W:List (Nat×Nat))(B:List Nat)(I:Nat->Fr->HP->Prop)(m0:Nat)(h0:I m0 fr hp)
  (h:∀m J hp,I m J hp->vc C R (.c x:: .el (xE W (Qz B fr) I m)::sk) (bd W J (Qz B fr)) hp):vc C R (.c (.loop x)::sk) fr hp:=by
 refine zn (fun m aA hp'=>∃J,aA=bd W J (Qz B fr)/\I m J hp') m0 (Df W B).wk ⟨fr,rfl,h0⟩ ?_;rintro m _ hp' ⟨J,rfl,hI⟩;refine su aL.1 _ _ _ _ _ _ (Kae _) (.c x (.el ?_ aL.2)) (bU.refl _) (h m J hp' hI);rintro f f' bI hf ⟨J2,m2,e2,hl,h2⟩;exact HI hl (hf.trans e2).wk ⟨J2,rfl,h2⟩
def o0(W:List (Nat×Nat))(F:Fr)(M:Fr->HP->Prop):Qi:=fun aA hp'=>∃J,bU aA (bd W J F)/\M J hp'
theorem DG{W:List (Nat×Nat)}{F J:Fr}{M:Fr->HP->Prop}(h:M J hp):o0 W F M (bd W J F) hp:=⟨J,bU.refl _,h⟩
theorem DH{W:List (Nat×Nat)}{F:Fr}{M:Fr->HP->Prop}:KM (o0 W F M) (o0 W F M):=by rintro f f' hp hf ⟨J,h1,h3⟩;exact⟨J,hf.trans h1,h3⟩
theorem P0{sk:List It}{W:List (Nat×Nat)}{F:Fr}{I:Nat->Fr->HP->Prop}{n:Nat}(h:eM R sk):eM R (.el (xE W F I n)::sk):=⟨h.1,.el aa5 h.2⟩
theorem Ld{sk:List It}{W:List (Nat×Nat)}{F:Fr}{M:Fr->HP->Prop}(h:eM R sk):eM R (.el (o0 W F M)::sk):=⟨h.1,.el DH h.2⟩
theorem L3{sk:List It}{i:Nat}(h:eM R sk):eM R (.eb i::sk):=⟨h.1,.eb i h.2⟩
theorem MQ{sk:List It}{s:SC}(h:eM R sk):eM R (.c s::sk):=⟨h.1,.c s h.2⟩
theorem MR{sk:List It}{s:RT}(h:eM R sk):eM R (.o s::sk):=⟨h.1,.o s h.2⟩
theorem OZ{sk:List It}{I:Nat->Qi}{n:Nat}(h:eM R sk):eM R (.el (xw I n)::sk):=⟨h.1,.el (fun f f' hp hf ⟨a,b,h1,h2⟩=>⟨a,b,hf.wk.trans h1,h2⟩) h.2⟩
theorem L4{rs:List RV}{Rr:PV->Prop}:KM (fI rs Rr) (fI rs Rr):=by
 have one:∀(f f':Fr)(hp:HP)(r:RV),bU f f'->ki f' hp r->ki f hp r/\jD f' hp r=jD f hp r:=by
  intro f f' hp r hf ho;cases r with
  |t s=>
   simp only[ki,jD]at ho⊢;rcases hf s with e|e
   ·rw[e]at ho ⊢;exact⟨ho,rfl⟩
   ·rw[e]at ho;simp[Qt,cj,PV.aD]at ho
  |cell s n ag=>
   simp only[ki,jD]at ho⊢;rcases hf s with e|e
   ·rw[e]at ho ⊢;exact⟨ho,rfl⟩
   ·rw[e]at ho;exact ho.elim
 intro f f' hp hf h;unfold fI at h⊢;split at h
 ·rename_i r;obtain⟨h1,h2⟩:=h;obtain⟨g1,g2⟩:=one f f' hp r hf h1;rw[g2]at h2;exact⟨g1,h2⟩
 ·obtain⟨h1,h2⟩:=h;have e:rs.map (jD f' hp)=rs.map (jD f hp):=Ka1 fun r hr=>(one f f' hp r hf (h1 r hr)).2;rw[e]at h2;exact⟨fun r hr=>(one f f' hp r hf (h1 r hr)).1,h2⟩
theorem aa6{rs:List RV}{ty:TypeId}{len:Nat}{a9:PV->List PV->Prop}:KM (sD rs ty len a9) (sD rs ty len a9):=by
 rintro f f' hp hf ⟨xs',h1,h2,h3,h4⟩;refine⟨xs',h1,h2,h3,?_⟩;rcases h4 with h4|⟨s,o,n,h4,h5,h6⟩
 ·exact .inl (L4 _ _ _ hf h4)
 ·refine .inr ⟨s,o,n,h4,?_,h6⟩;rcases hf s with e|e
  ·rw[<-e];exact h5
  ·rw[h5]at e;cases e
theorem aa7{rs:List RV}{ty:TypeId}{a9:List PV->Prop}:KM (xD rs ty a9) (xD rs ty a9):=by
 rintro f f' hp hf ⟨s,β,n,xs,h1,h2,h3⟩;refine⟨s,β,n,xs,h1,?_,h3⟩;rcases hf s with e|e
 ·rw[<-e];exact h2
 ·rw[h2]at e;cases e
theorem Le{rs:List RV}{Rr:PV->Prop}:eM (fI rs Rr) []:=⟨L4,.nil⟩
theorem P1{rs:List RV}{ty:TypeId}{len:Nat}{a9:PV->List PV->Prop}:eM (sD rs ty len a9) []:=⟨aa6,.nil⟩
theorem P2{rs:List RV}{ty:TypeId}{a9:List PV->Prop}:eM (xD rs ty a9) []:=⟨aa7,.nil⟩
theorem oM{sk:List It}{x:SC}(i β e ty:Nat)(he:0<e)(hi:fr i= .aa)(h:vc C R (.c (.loop x)::sk) (ab (bE β fr) i (.ms β 0)) (Qk hp β ⟨e,ty,[],false⟩))(hB:bC β=false:=by decide):vc C R (.c (.loop x)::sk) fr hp:=by rw[wU]at h⊢;obtain⟨I,μ,⟨aK,ax,h1,iv⟩,h2⟩:=h;exact⟨I,μ,⟨aK,ax,(MG i β e ty he hi hB).trans h1,iv⟩,h2⟩
end Go.FW
namespace Go.FW
open Go
variable {C : Ctx} {fr : Fr} {hp : HP} {w : World} {K R : Qi}
theorem Vd{P:Program}{f:FuncId}{k:IntKind}{x:Int}{r:PV}{v:Value}(hg:oZ P f)(h:∀w,Calls P f #[.int k x] w fun e w'=>e= .returned v/\w'=w)(hr:∀w X,eD w X r v):Qd P f [.int k x] (· =r):=by
 refine⟨hg,fun w X bb hX hs fE=>?_⟩;have h0:∀u,Qp w X (.int k x) u->u= .int k x:=fun u hu=>by cases hu;rfl
 have e:bb= #[.int k x]:=by
  have h1:bb.getD 0 undef= .int k x:=h0 _ (fE 0 _ rfl);apply Array.ext
  ·simpa using hs
  ·intro i hi az;have vY:i=0:=by simp at az;omega
   subst vY;simpa[Array.getD,hi]using h1
 rw[e];refine(h w).mono ?_;rintro e w' ⟨rfl,rfl⟩;exact⟨v,r,rfl,Ext.refl _ _,hr _ _,rfl⟩
end Go.FW
namespace Go.FW
open Go
variable {C : Ctx} {fr : Fr} {hp : HP} {w : World} {K R : Qi}
theorem XQ(a b:Nat)(I6:a≠b)(h:HP)(v w:HB):Qk (Qk h a v) b w=Qk (Qk h b w) a v:=by
 funext c;unfold Qk;by_cases h1:c=a
 ·subst h1;simp[I6]
 ·simp[h1]
theorem aa8{x y:RT}{sk:List It}(aL:eM R sk)(W:List (Nat×Nat))(B:List Nat)(M:Fr->HP->Prop)
  (h:sP C R x y (.el (o0 W (Qz B fr) M)::sk) (bd W fr (Qz B fr)) hp) (hM:∀J hp,M J hp->vc C R sk (bd W J (Qz B fr)) hp):sP C R x y sk fr hp:=by
 have key:∀(r:RT),vc C R (.o r:: .el (o0 W (Qz B fr) M)::sk) (bd W fr (Qz B fr)) hp->vc C R (.o r::sk) fr hp:=by
  intro r hr;refine zQ (M:=o0 W (Qz B fr) M) ?_ _ [.o r] _ _ (Kae _) ?_
  ·rintro aA hp' ⟨J,h1,h2⟩;exact su aL.1 _ _ _ _ _ _ (Kae _) aL.2 h1 (hM J hp' h2)
  ·exact su aL.1 _ _ _ _ _ _ (Kae _) (.o r (.el DH aL.2)) (Df W B) hr
 exact⟨key x h.1,key y h.2⟩
theorem Wi{V W P v1 v2 v0 hi u2 w0:Nat}(hV:V=(v1*65536+v2)*P+v0)(hW:W=(hi*65536+u2)*P+w0)(Fp:w0<P)(JV:u2<65536)(h1:0<v1):W<(hi/v1+1)*V:=by
 have e1:hi+1<=(hi/v1+1)*v1:=by have:=Kbi hi v1;have:=Kbs hi h1;rw[KaD,KaX];omega
 have e2:W<(hi+1)*65536*P:=by have:(hi*65536+u2+1)*P<=(hi+1)*65536*P:=Kam _ (by omega);rw[KaD _ 1]at this;omega
 refine Kbh e2 ?_
 calc (hi+1)*65536*P<=((hi/v1+1)*v1)*65536*P:=Kam _ (Kam _ e1)
  _=(hi/v1+1)*(v1*65536*P):=by rw[Kbb,Kbb,Kbb]
  _<=(hi/v1+1)*V:=Ka9 _ (by rw[hV,KaD];omega)
theorem aa9{V W P v1 v2 v0 hi u2 w0 d r:Nat}(hV:V=(v1*65536+v2)*P+v0)(hW:W=(hi*65536+u2)*P+w0)(Fp:w0<P)(hd:d*v1+r=hi)(ht:r*65536+u2<d*v2):W<d*V:=by
 have h1:hi*65536+u2+1<=d*(v1*65536+v2):=by rw[KaW,<-Nat.mul_assoc,<-hd,KaD];omega
 have h2:W<(hi*65536+u2+1)*P:=by rw[hW,KaD _ 1];omega
 refine Kbh h2 (KaO (Kam _ h1) ?_);rw[Kbb];exact Ka9 _ (by rw[hV];exact Nat.le_add_right _ _)
theorem aba{V W P v1 v2 v0 hi u2 w0 e r:Nat}(hV:V=(v1*65536+v2)*P+v0)(hW:W=(hi*65536+u2)*P+w0)(wx:v0<P)(tg:1<=v1)(he:e+1<65536)(hd:(e+1)*v1+r=hi)(ht:¬r*65536+u2<(e+1)*v2):e*V<=W:=by
 have h1:(e+1)*(v1*65536+v2)<=hi*65536+u2:=by rw[KaW,<-Nat.mul_assoc,<-hd,KaD ((e+1)*v1)];omega
 have h2:e*v0<=(v1*65536+v2)*P:=KbO (by omega) (by omega)
 calc e*V=e*(v1*65536+v2)*P+e*v0:=by rw[hV,KaW,Kbb]
  _<=e*(v1*65536+v2)*P+(v1*65536+v2)*P:=Nat.add_le_add_left h2 _
  _=(e+1)*(v1*65536+v2)*P:=by rw[KaD e,Kcu,KaD (e*_)]
  _<=(hi*65536+u2)*P:=Kam _ h1
  _<=W:=by rw[hW];exact Nat.le_add_right _ _
theorem abb{V W P v1 v2 v0 hi u2 w0:Nat}(hV:V=(v1*65536+v2)*P+v0)(hW:W=(hi*65536+u2)*P+w0)(wx:v0<P)(h:W<65536*V)(hP:0<P):hi<=v1*65536+v2:=by
 have h1:hi*(65536*P)<(v1*65536+v2+1)*(65536*P):=by
  have e1:hi*(65536*P)<=W:=by rw[hW,KaD,Kbb];omega
  have e2:V<=(v1*65536+v2+1)*P:=by rw[hV,KaD _ 1];omega
  have e3:65536*V<=65536*((v1*65536+v2+1)*P):=Ka9 _ e2;rw[KbE]at e3;omega
 have:=Nat.lt_of_mul_lt_mul_right h1;omega
theorem NA:∀(a:List Nat)(q b:Nat),(eV a [] q 0 b).2.1=0
 | [],_,_=>rfl
 |x::xs,q,b=>by simp only[eV,List.headD_nil,KbS,List.tail_nil];exact NA xs q _
theorem O0:∀(a v:List Nat)(q c b:Nat),v.length<a.length->c<65536->q<65536->Qj v->(eV a v q c b).2.1=0
 | [],_,_,_,_,h,_,_,_=>by simp at h
 |x::xs,[],q,c,b,h,hc,hq,hv=>by simp only[eV,List.headD_nil,KbS,List.tail_nil,KaM];rw[Kcl hc];exact NA xs q _
 |x::xs,y::ys,q,c,b,h,hc,hq,hv=>by rw[gH]at hv;simp only[eV,List.headD_cons,List.tail_cons];refine O0 xs ys q _ _ (by simpa using h) ?_ hq hv.2;have:=tB hq hv.1;omega
theorem CE{l:List Nat}{k:Nat}(h:val l<65536^k):val (l.drop k)=0:=by
 rcases KcF k l.length with hk|hk
 ·have:=pF l k (by omega);have:65536^k*val (l.drop k)<65536^k*1:=by omega
  have:=Nat.lt_of_mul_lt_mul_left this;omega
 ·rw[Kal hk];rfl
theorem L5{l:List Nat}{n:Nat}(h:l.length=n+2):val l=(l.getD (n+1) 0*65536+l.getD n 0)*65536^n+val (l.take n):=by have e:=pF l n (by omega);rw[lO (by omega),lO (by omega),Kal (by omega)]at e;rw[e,fU (by omega),fU (by omega),val,KbS,KaM,KaX (65536^n)];rw[KaX 65536,KbR (l[n]),KbR]
theorem afV:
  (∀(β:Nat)(cs:List PV),bx β (.pt cs)= .pt cs)/\(∀(β:Nat),bx β .undef= .undef)/\(∀(β:Nat)(cs:List PV),bx β (.aI cs)= .aI cs)/\
  (∀(cs:List PV),(PV.pt cs).refs=[])/\(PV.undef.refs=[])/\(∀(cs:List PV),(PV.aI cs).refs=[])/\
  (∀(hp:HP)(cs:List PV),Qt hp (.pt cs)= .pt cs)/\(∀(hp:HP)(cs:List PV),Qt hp (.aI cs)= .aI cs)/\
  (∀(β f:Nat)(a b:List PV),bx β (.fn f a b)=if(a.flatMap PV.bw++b.flatMap PV.bw).contains β then .undef else .fn f a b)/\
  (∀(β o n:Nat),(PV.aw β o n).bw=[β])/\(∀(β o n:Nat),(PV.rb β o n).bw=[β])/\(∀(β o n:Nat),(PV.mp β o n).bw=[β])/\
  (∀(k:IntKind)(n:Int),(PV.int k n).bw=[])/\(∀(b:Bool),(PV.bool b).bw=[])/\(∀(e:Nat)(xs:List PV),(PV.sl e xs).bw=[])/\(PV.aa.bw=[])/\(∀(xs:List PV),(PV.pt xs).bw=[]):=by
 refine⟨fun _ _=>rfl,fun _=>rfl,fun _ _=>rfl,fun _=>rfl,rfl,fun _=>rfl,fun _ _=>rfl,fun _ _=>rfl,fun _ _ _ _=>rfl,fun _ _ _=>rfl,fun _ _ _=>rfl,fun _ _ _=>rfl,fun _ _=>rfl,fun _=>rfl,fun _ _=>rfl,rfl,fun _=>rfl⟩
theorem apk:
  (∀(ty d e:Nat)(xs:List PV)(fr:Fr)(hp:HP)(K:Qi),eU 1 ty (.sl e xs) d fr hp K=K (ab (bE d fr) d (.mp d 0 0)) (Qk hp d ⟨1,ty,[.sl e xs],false⟩))/\
  (∀(ty d:Nat)(k:IntKind)(x:Int)(fr:Fr)(hp:HP)(K:Qi),eU 1 ty (.int k x) d fr hp K=K (ab (bE d fr) d (.mp d 0 0)) (Qk hp d ⟨1,ty,[.int k x],false⟩))/\
  (∀(ty d:Nat)(x:Bool)(fr:Fr)(hp:HP)(K:Qi),eU 1 ty (.bool x) d fr hp K=K (ab (bE d fr) d (.mp d 0 0)) (Qk hp d ⟨1,ty,[.bool x],false⟩))/\
  (∀(ty d:Nat)(fr:Fr)(hp:HP)(K:Qi),eU 1 ty .aa d fr hp K=K (ab (bE d fr) d (.mp d 0 0)) (Qk hp d ⟨1,ty,[.aa],false⟩))/\
  (∀(n ty d o m:Nat)(fr:Fr)(hp:HP)(K:Qi),eU n ty (.aw 1000000 o m) d fr hp K=K (ab fr d (.rb 1000000 o m)) hp)/\
  (∀(n ty d:Nat)(x:PV)(cs:List PV)(fr:Fr)(hp:HP)(K:Qi),eU n ty (.agg (x::cs)) d fr hp K=(cs.length+1=n/\K (ab (bE d fr) d (.mp d 0 0)) (Qk hp d ⟨n,ty,[.agg (x::cs)],false⟩)))/\
  (∀(ty d:Nat)(x:PV)(fz:Bool)(fr:Fr)(hp:HP)(K:Qi),iD (some ⟨1,ty,[x],fz⟩) 1 false 0 0 d fr hp K=K (ab fr d (dQ false 1 0 x)) hp)/\
  (∀(ty β e:Nat)(x:PV)(xs:List PV)(fr:Fr)(hp:HP)(K:Qi),stM (some ⟨1,ty,[x],false⟩) β 1 0 0 (.sl e xs) fr hp K=K fr (Qk hp β ⟨1,ty,[.sl e xs],false⟩))/\
  (∀(ty β:Nat)(x:PV)(k:IntKind)(y:Int)(fr:Fr)(hp:HP)(K:Qi),stM (some ⟨1,ty,[x],false⟩) β 1 0 0 (.int k y) fr hp K=K fr (Qk hp β ⟨1,ty,[.int k y],false⟩))/\
  (∀(ty β:Nat)(x:PV)(y:Bool)(fr:Fr)(hp:HP)(K:Qi),stM (some ⟨1,ty,[x],false⟩) β 1 0 0 (.bool y) fr hp K=K fr (Qk hp β ⟨1,ty,[.bool y],false⟩))/\
  (∀(ty β:Nat)(x:PV)(fr:Fr)(hp:HP)(K:Qi),stM (some ⟨1,ty,[x],false⟩) β 1 0 0 .aa fr hp K=K fr (Qk hp β ⟨1,ty,[.aa],false⟩))/\
  (∀(e:Nat)(xs:List PV),dQ false 1 0 (.sl e xs)= .sl e xs)/\(∀(k:IntKind)(x:Int),dQ false 1 0 (.int k x)= .int k x)/\(∀(x:Bool),dQ false 1 0 (.bool x)= .bool x)/\(dQ false 1 0 .aa= .aa):=by
 have fz:∀hp:HP,Qy hp []=hp:=fun _=>rfl;refine⟨fun _ _ _ _ _ _ _=>?_,fun _ _ _ _ _ _ _=>?_,fun _ _ _ _ _ _=>?_,fun _ _ _ _ _=>?_,fun _ _ _ _ _ _ _ _=>ae8 (by decide),fun n ty d x cs fr hp K=>?_,fun _ _ _ _ _ _ _=>?_,fun _ _ _ _ _ _ _ _=>?_,fun _ _ _ _ _ _ _ _=>?_,fun _ _ _ _ _ _ _=>?_,fun _ _ _ _ _ _=>?_,fun _ _=>rfl,fun _ _=>rfl,fun _=>rfl,rfl⟩
 ·simp[eU,Qt,cj,PV.aD,PV.cells,PV.refs,fz]
 ·simp[eU,Qt,cj,PV.aD,PV.cells,PV.refs,fz]
 ·simp[eU,Qt,cj,PV.aD,PV.cells,PV.refs,fz]
 ·simp[eU,Qt,cj,PV.aD,PV.cells,PV.refs,fz]
 ·apply propext;simp only[eU,Qt,cj,PV.aD,PV.cells,PV.refs,KaQ,fz];exact⟨fun⟨_,h1,_,h2⟩=>⟨h1,h2⟩,fun⟨h1,h2⟩=>⟨trivial,h1,by omega,h2⟩⟩
 all_goals simp[iD,stM,PV.aD,PV.cells]
end Go.FW
namespace Go.FW
theorem afW{l:List Nat}{j n V:Nat}(hl:Qj l)(hlen:j+n+3<=l.length)(hV:V<=65536^(n+2))(hz:val (l.drop (j+1))<V):
  ∃pre w post,l=pre++(w++post)/\pre.length=j/\w.length=n+3/\Qj pre/\Qj w/\Qj post/\val post=0/\val (l.drop j)=val w/\val w<65536*V/\
   ∃w0,w0<65536^n/\val w=((l.getD (j+(n+2)) 0*65536+l.getD (j+(n+1)) 0)*65536+l.getD (j+n) 0)*65536^n+w0:=by
 have gV:val (l.drop (j+n+3))=0:=by have:=CE (l:=l.drop (j+1)) (k:=n+2) (by omega);rw[List.drop_drop]at this;rw[<-this];congr 2;omega
 have hw:Qj ((l.drop j).take (n+3)):=wW (zb hl j) _;have lG:((l.drop j).take (n+3)).length=n+3:=by simp;omega
 have iC:l.drop j=(l.drop j).take (n+3)++l.drop (j+n+3):=by have:=(Kbe (n+3) (l.drop j)).symm;rw[List.drop_drop]at this;exact this
 have dT:val (l.drop j)=val ((l.drop j).take (n+3)):=by
  conv=>lhs;rw[iC]
  rw[mP,gV,KbS,KaM]
 have ez:∀i,i<n+3->((l.drop j).take (n+3)).getD i 0=l.getD (j+i) 0:=by intro i hi;simp[Kad,Kcb,hi]
 refine⟨l.take j,(l.drop j).take (n+3),l.drop (j+n+3),?_,by simp;omega,lG,wW hl j,hw,zb hl _,gV,dT,?_,?_⟩
 ·rw[<-iC,Kbe]
 ·rw[<-dT,lO (by omega)];have:=eg hl (show j<l.length by omega);omega
 ·refine⟨val (((l.drop j).take (n+3)).take n),tw hw n (by omega),?_⟩;rw[L5 (n:=n+1) lG,ez _ (by omega),ez _ (by omega),yZ (by omega)];rw[<-fU,ez _ (by omega),Kbz];generalize l.getD (j+(n+1)) 0=a;generalize l.getD (j+n) 0=b;generalize l.getD (j+(n+1+1)) 0=c;rw[KaD _ b,Kbb _ 65536,KaX 65536 (65536^n),KaX (65536^n) b];omega
theorem XR{U V L qs W R q pre B:Nat}(hU:U=L+V*(65536*B*qs))(hL:L=pre+B*W)(hW:W=q*V+R):U=(pre+B*R)+V*(B*(q+65536*qs)):=by
 subst hW hL;rw[hU,KaW B,KaW B q,KaW V];have e1:B*(q*V)=V*(B*q):=by rw[KaX q V,KbE]
 have e2:V*(65536*B*qs)=V*(B*(65536*qs)):=by rw[KaX 65536 B,Kbb]
 omega
open Go
variable {C : Ctx} {fr : Fr} {hp : HP} {w : World} {K R : Qi}
theorem dI{x y:RT}{sk:List It}(h1:vc C R (.o x::sk) fr hp)(h2:vc C R (.o y::sk) fr hp):sP C R x y sk fr hp:=⟨h1,h2⟩
theorem ac2{x y:RT}{sk:List It}{W:List (Nat×Nat)}{J F:Fr}(P:Fr->Prop)(h0:P J)(h:∀J,P J->sP C R x y sk (bd W J F) hp):sP C R x y sk (bd W J F) hp:=h J h0
theorem Lf{sk:List It}{x:SC}(aL:eM R sk)(W:List (Nat×Nat))(B:List Nat)(I:Nat->Fr->HP->Prop)(m0:Nat)(h0:I m0 fr hp)
  (h:∀F,F=Qz B fr->∀m J hp,I m J hp->vc C R (.c x:: .el (xE W F I m)::sk) (bd W J F) hp):vc C R (.c (.loop x)::sk) fr hp:=
 Ql aL W B I m0 h0 (h _ rfl)
theorem abc{x y:RT}{sk:List It}{W0:List (Nat×Nat)}{J0 F0:Fr}(aL:eM R sk)(B:List Nat)(M:Fr->HP->Prop)
  (h:∀F,F=Qz B F0->sP C R x y (.el (o0 W0 F M)::sk) (bd W0 J0 F) hp) (hM:∀J hp,M J hp->vc C R sk (bd W0 J (Qz B F0)) hp):sP C R x y sk (bd W0 J0 F0) hp:=by
 have hle:bU (bd W0 J0 F0) (bd W0 J0 (Qz B F0)):=fun s=>by
  unfold bd Qz;split
  ·exact .inl rfl
  ·split
   ·exact .inr rfl
   ·exact .inl rfl
 have key:∀(r:RT),vc C R (.o r:: .el (o0 W0 (Qz B F0) M)::sk) (bd W0 J0 (Qz B F0)) hp->vc C R (.o r::sk) (bd W0 J0 F0) hp:=by
  intro r hr;refine zQ (M:=o0 W0 (Qz B F0) M) ?_ _ [.o r] _ _ (Kae _) ?_
  ·rintro aA hp' ⟨J,h1,h2⟩;exact su aL.1 _ _ _ _ _ _ (Kae _) aL.2 h1 (hM J hp' h2)
  ·exact su aL.1 _ _ _ _ _ _ (Kae _) (.o r (.el DH aL.2)) hle hr
 exact⟨key x (h _ rfl).1,key y (h _ rfl).2⟩
theorem Wj{aA:Fr}{K':Qi}{p:PV}{s:Nat}{want:Bool}{o:cc}(h:bU fr aA)(hK:KM K' K):ib C p s want o aA hp K'->ib C p s want o fr hp K:=by
 unfold ib;split
 ·exact fun H=>⟨fun t=>H7 (h.iF _ _) hK o (H.1 t),fun t=>CZ (h.iF _ _) hK o (H.2 t)⟩
 ·exact CZ h hK o
 ·exact id
theorem Ve{p:PV}{s:Nat}{want:Bool}{o:cc}{r:RT}{sk:List It}(aL:eM R sk)(W:List (Nat×Nat))(B:List Nat)(M:Fr->HP->Prop)
  (h:ib C p s want o (bd W fr (Qz B fr)) hp (vc C R (.o r:: .el (o0 W (Qz B fr) M)::sk))) (hM:∀J hp,M J hp->vc C R sk (bd W J (Qz B fr)) hp):ib C p s want o fr hp (vc C R (.o r::sk)):=by
 refine Wj (Df W B) (fun f f' hp hf H=>?_) h;have H':=su aL.1 _ _ _ _ _ _ (Kae _) (.o r (.el DH aL.2)) hf H;refine zQ (M:=o0 W (Qz B fr) M) ?_ _ [.o r] _ _ (Kae _) H';rintro aA hp' ⟨J,h1,h2⟩;exact su aL.1 _ _ _ _ _ _ (Kae _) aL.2 h1 (hM J hp' h2)
theorem Rv:(∀(a b c:Nat),(PV.mp a b c).kN=true)/\(∀(a b c:Nat),(PV.aw a b c).kN=true)/\(∀(a b c:Nat),(PV.rb a b c).kN=true)/\(∀(k:IntKind)(n:Int),(PV.int k n).kN=true)/\
  (∀b,(PV.bool b).kN=true)/\(PV.aa.kN=true)/\(∀(e:Nat)(xs:List PV),(PV.sl e xs).kN=true)/\(∀(xs:List PV),(PV.pt xs).kN=true):=
 ⟨fun _ _ _=>rfl,fun _ _ _=>rfl,fun _ _ _=>rfl,fun _ _=>rfl,fun _=>rfl,rfl,fun _ _=>rfl,fun _=>rfl⟩
end Go.FW
namespace Go.FW
def Cb(V W:List (Nat×Nat)):Bool:=V.all fun p=>W.any fun q=>decide (q.1<=p.1)&&decide (p.2<=q.2)
theorem XS{V W:List (Nat×Nat)}(h:Cb V W=true){s:Nat}(hs:lH V s=true):lH W s=true:=by
 induction V with
 |nil=>cases hs
 | cons p V ih=>
  simp only[Cb,List.all_cons,Kav]at h;rw[De,KbC]at hs;rcases hs with hs|hs
  ·obtain⟨q,hq,pq⟩:=KaS.1 h.1;simp only[Kav,decide_eq_true_eq]at pq hs;clear h ih;induction W with
   |nil=>cases hq
   |cons r W ih=>
    rw[De,KbC];rcases KaC.1 hq with rfl|hq
    ·left;simp only[Kav,decide_eq_true_eq];omega
    ·right;exact ih hq
  ·exact ih h.2 hs
theorem Qz1{B B':List Nat}{F:Fr}(h:B.all B'.contains=true):Qz B (Qz B' F)=Qz B' F:=by
 funext s;by_cases h1:(F s).refs.any B'.contains=true
 ·have:Qz B' F s= .undef:=if_pos h1;show(if(Qz B' F s).refs.any B.contains=true then PV.undef else Qz B' F s)=_;rw[this];rfl
 ·have:Qz B' F s=F s:=if_neg h1;show(if(Qz B' F s).refs.any B.contains=true then PV.undef else Qz B' F s)=_;rw[this,if_neg];intro h2;obtain⟨x,hx,jC⟩:=KaS.1 h2;exact h1 (KaS.2 ⟨x,hx,Kap.1 h x (by simpa using jC)⟩)
theorem nO{V W:List (Nat×Nat)}{X Z F:Fr}(h:Cb V W=true):bd V X (bd W Z F)=bd W (bd V X Z) F:=by
 funext s;unfold bd;by_cases h1:lH V s=true
 ·simp[h1,XS h h1]
 ·simp[h1]
theorem afX{W V S d:Nat}(hs:S+d*V=W)(Jj:W<(d+1)*V):S<V/\W=d*V+S:=by rw[KaD]at Jj;omega
theorem ac3{W V B S e k res:Nat}(hs:S+(e+1)*V=W+B)(hS:S<B)(Sh:e*V<=W)(hr:res+B*k=S+V)(fb:res<B)(hWB:W<B):res<V/\W=e*V+res:=by
 rw[KaD,Kcu]at hs;generalize e*V=x at *
 have hk:k=1:=by
  match k,hr with
  |0,hr=>omega
  |1,_=>rfl
  |k+2,hr=>
   have:B*(k+2)=B*k+B+B:=by rw[KaW];omega
   omega
 subst hk;omega
theorem P3{pre R post qs:List Nat}{j q U V L W:Nat}(hp:pre.length=j)(gV:val post=0)(hU:U=L+V*(65536^(j+1)*val qs))(hL:L=val pre+65536^j*W)(hW:W=q*V+val R):
  val ((pre++(R++post)).drop j)=val R/\U=val (pre++(R++post))+V*(65536^j*val (q::qs)):=by
 have e:(pre++(R++post)).drop j=R++post:=by rw[<-hp,List.drop_left]
 have e2:val (R++post)=val R:=by rw[mP,gV,KbS,KaM]
 refine⟨by rw[e,e2],?_⟩;rw[mP,e2,hp,val];exact XR (by rw[hU,Kbz,KaX (65536^j)]) hL hW
theorem DI{j q:Nat}{qs:List Nat}:(List.replicate (j+1) 0++qs).set j q=List.replicate j 0++(q::qs):=by rw[List.replicate_succ',Kbv,List.singleton_append,nN (by simp)]
open Go
variable {C : Ctx} {fr : Fr} {hp : HP} {w : World} {K R : Qi}
theorem apl:(∀(C:Ctx)(d:Nat)(ng:Bool)(x y:aJ)(fr:Fr)(hp:HP)(K:Qi),bg C (.eqs d ng x y) fr hp K=ra ng (ev fr x) (ev fr y) d fr hp K)/\
  (∀(k l:IntKind)(x y x' y':Int)(d:Nat)(fr:Fr)(hp:HP)(K:Qi),ra false (.agg [.int k x,.int l y]) (.agg [.int k x',.int l y']) d fr hp K=K (ab fr d (.bool (decide (x=x')&&decide (y=y')))) hp)/\
  (∀(k l:IntKind)(x y x' y':Int)(d:Nat)(fr:Fr)(hp:HP)(K:Qi),ra true (.agg [.int k x,.int l y]) (.agg [.int k x',.int l y']) d fr hp K=K (ab fr d (.bool (!(decide (x=x')&&decide (y=y'))))) hp):=
 ⟨fun _ _ _ _ _ _ _ _=>rfl,fun _ _ _ _ _ _ _ _ _ _=>by simp[ra],fun _ _ _ _ _ _ _ _ _ _=>by simp[ra]⟩
theorem apm:(∀(C:Ctx)(d:Nat)(ng:Bool)(x y:aJ)(fr:Fr)(hp:HP)(K:Qi),bg C (.wN d ng x y) fr hp K=re ng (ev fr x) (ev fr y) d fr hp K)/\
  (∀(C:Ctx)(d:Nat)(x:aJ)(fr:Fr)(hp:HP)(K:Qi),bg C (.BN d x) fr hp K=vA (ev fr x) d fr hp K)/\
  (∀(C:Ctx)(d:Nat)(x i:aJ)(fr:Fr)(hp:HP)(K:Qi),bg C (.BM d x i) fr hp K=tU (ev fr x) (ev fr i) d fr hp K)/\
  (∀(x y:ByteArray)(d:Nat)(fr:Fr)(hp:HP)(K:Qi),re false (.str x) (.str y) d fr hp K=K (ab fr d (.bool (decide (x=y)))) hp)/\
  (∀(x y:ByteArray)(d:Nat)(fr:Fr)(hp:HP)(K:Qi),re true (.str x) (.str y) d fr hp K=K (ab fr d (.bool (!decide (x=y)))) hp)/\
  (∀(x:ByteArray)(d:Nat)(fr:Fr)(hp:HP)(K:Qi),vA (.str x) d fr hp K=K (ab fr d (.int .i64 x.size)) hp):=
 ⟨fun _ _ _ _ _ _ _ _=>rfl,fun _ _ _ _ _ _=>rfl,fun _ _ _ _ _ _ _=>rfl,fun _ _ _ _ _ _=>by simp[re],fun _ _ _ _ _ _=>by simp[re],fun _ _ _ _ _=>rfl⟩
theorem afY{s:ByteArray}{k:IntKind}{i:Nat}{d:Nat}(h:i<s.size):tU (.str s) (.int k i) d fr hp K=K (ab fr d (.int .u8 (s.get! i).toNat)) hp:=by simp[tU,h]
theorem abd{α:Type}{f:α->PV}{e d:Nat}{k:IntKind}{xs:List α}(h:0<xs.length):Q7 e (.sl e (xs.map f)) (.int k 0) d fr hp K=K (ab fr d (.pt (f (xs[0]'h)).cells)) hp:=by rw[ve (by omega) (by omega)];rfl
theorem abe{α:Type}{f:α->PV}{e d:Nat}{k:IntKind}{xs:List α}(h:1<xs.length):Q7 e (.sl e (xs.map f)) (.int k 1) d fr hp K=K (ab fr d (.pt (f (xs[1]'h)).cells)) hp:=by rw[ve (by omega) (by omega)];rfl
theorem abf{e d:Nat}{k:IntKind}{x:PV}{xs:List PV}:Q7 e (.sl e (x::xs)) (.int k 0) d fr hp K=K (ab fr d (.pt x.cells)) hp:=by rw[FX (by omega) (by simp only[KaQ];omega)];rfl
theorem abg{e d:Nat}{k:IntKind}{x y:PV}{xs:List PV}:Q7 e (.sl e (x::y::xs)) (.int k 1) d fr hp K=K (ab fr d (.pt y.cells)) hp:=by rw[FX (by omega) (by simp only[KaQ];omega)];rfl
def PV.flat:PV->Bool
 |.int .. | .bool _| .aa| .sl .. | .agg _| .pt _| .str _=>true
 |_=>false
theorem abh:∀s,(PV.str s).flat=true:=fun _=>rfl
theorem abi:∀s,(PV.str s).aD=true:=fun _=>rfl
theorem aiQ:(∀(k:IntKind)(n:Int),(PV.int k n).flat=true)/\(∀b,(PV.bool b).flat=true)/\(PV.aa.flat=true)/\(∀(e:Nat)(xs:List PV),(PV.sl e xs).flat=true)/\(∀xs,(PV.agg xs).flat=true)/\(∀xs,(PV.pt xs).flat=true):=
 ⟨fun _ _=>rfl,fun _=>rfl,rfl,fun _ _=>rfl,fun _=>rfl,fun _=>rfl⟩
theorem aiR:(∀(k:IntKind)(n:Int),(PV.int k n).aD=true)/\(∀b,(PV.bool b).aD=true)/\(PV.aa.aD=true)/\(∀(e:Nat)(xs:List PV),(PV.sl e xs).aD=true)/\(∀xs,(PV.agg xs).aD=true)/\(∀xs,(PV.pt xs).aD=true):=
 ⟨fun _ _=>rfl,fun _=>rfl,rfl,fun _ _=>rfl,fun _=>rfl,fun _=>rfl⟩
theorem qJ{p:PV}(h:p.flat=true):Qt hp p=p/\p.refs=[]/\p.aD=true:=by cases p<;>first|(cases h;done)|exact⟨rfl,rfl,rfl⟩
theorem zV{e ty d:Nat}{ps:List PV}(h:ps.all PV.flat=true)(hl:∀p∈ps,p.cells.length=e)(he:0<e):kF e ty ps d fr hp K=K (ab (bE d fr) d (.ms d ps.length)) (Qk hp d ⟨e,ty,ps,false⟩):=by
 have h':=Kap.1 h;have e1:ps.map (Qt hp)=ps:=by
  conv=>rhs;rw[<-List.map_id ps]
  exact Ka1 fun p hp'=>(qJ (h' p hp')).1
 have e2:ps.flatMap PV.refs=[]:=by rw[List.flatMap_eq_nil_iff];exact fun p hp'=>(qJ (hp:=hp) (h' p hp')).2.1
 have e3:zL hp e ps:=fun p hp'=>by obtain⟨h1,_,h3⟩:=qJ (hp:=hp) (h' p hp');rw[h1];exact⟨h3,hl p hp'⟩
 have Jb:mY ps=false:=by
  unfold mY;split
  ·rename_i x;have:=Kap.1 h x (by simp);unfold lR;split
   ·cases this
   ·rfl
  ·rfl
 simp only[kF,Jb,Ka8,if_false,Ax,e1,e2,e3,he,true_and];rfl
theorem bs1{e ty d:Nat}{p:PV}(h:p.flat=true)(hl:p.cells.length=e)(he:0<e):kF e ty [p] d fr hp K=K (ab (bE d fr) d (.ms d 1)) (Qk hp d ⟨e,ty,[p],false⟩):=
 zV (by simp[h]) (by simpa using hl) he
theorem bs2{e ty d:Nat}{p q:PV}(h:p.flat=true)(h2:q.flat=true)(hl:p.cells.length=e)(mm:q.cells.length=e)(he:0<e):kF e ty [p,q] d fr hp K=K (ab (bE d fr) d (.ms d 2)) (Qk hp d ⟨e,ty,[p,q],false⟩):=
 zV (by simp[h,h2]) (by simp[hl,mm]) he
end Go.FW
namespace Go.FW
theorem Vf{y n s yi:Nat}(hy:(ak y).length=n+2)(uL:(ak y)[n+1]'(by omega)=yi)(h1:2^15<=yi*2^s)(h2:(yi+1)*2^s<=65536):
  (ak (y*2^s)).length=n+2/\32768<=(ak (y*2^s)).getD (n+1) 0/\32768*65536^(n+1)<=y*2^s:=by
 have hl:=Qn y;have e:=pF (ak y) (n+1) (by omega);have ht:=tw hl (n+1) (by omega);rw[lO (by omega),Kal (by omega),uL,Qu]at e;simp only[val,KbS,KaM]at e;have g1:32768*65536^(n+1)<=y*2^s:=by
  calc 32768*65536^(n+1)<=(yi*2^s)*65536^(n+1):=Kam _ h1
   _=(65536^(n+1)*yi)*2^s:=by rw[KaX (65536^(n+1)),Nat.mul_right_comm]
   _<=y*2^s:=Kam _ (by omega)
 have g2:y*2^s<65536^(n+2):=by
  have hp:0<2^s:=KbM (by omega)
  calc y*2^s<(65536^(n+1)*(yi+1))*2^s:=Nat.mul_lt_mul_of_pos_right (by rw[KaW];omega) hp
   _=65536^(n+1)*((yi+1)*2^s):=Kbb _ _ _
   _<=65536^(n+1)*65536:=Ka9 _ h2
   _=65536^(n+2):=(Kbz ..).symm
 have hle:nl (y*2^s)<=n+2:=mT.2 g2;have jm:¬nl (y*2^s)<=n+1:=fun h=>by have:=mT.1 h;omega
 have hlen:(ak (y*2^s)).length=n+2:=by unfold nl at hle jm;omega
 refine⟨hlen,?_,g1⟩;have e2:=pF (ak (y*2^s)) (n+1) (by omega);have Te:=tw (Qn (y*2^s)) (n+1) (by omega);rw[lO (by omega),Kal (by omega),Qu]at e2;simp only[val,KbS,KaM]at e2;have hg:(ak (y*2^s)).getD (n+1) 0=(ak (y*2^s))[n+1]'(by omega):=fU (by omega);rw[hg];apply Decidable.byContradiction;intro h;have:65536^(n+1)*(ak (y*2^s))[n+1]<=65536^(n+1)*32767:=Ka9 _ (by omega);omega
theorem XT{yi s:Nat}(hs:s<=15)(h1:2^(16-s)<=2*yi)(h2:yi<2^(16-s)):2^15<=yi*2^s/\(yi+1)*2^s<=65536:=by
 have e:2^(16-s)*2^s=65536:=by rw[<-Nat.pow_add,show 16-s+s=16 by omega]
 constructor
 ·have:=Kam (2^s) h1;rw[e,Kbb]at this;omega
 ·rw[<-e];exact Kam _ h2
theorem Vg{x s m n Y:Nat}(hx:(ak x).length=m+2)(hs:s<=15)(gp:n<=m)(hY:32768*65536^(n+1)<=Y):
  ∃u ex,ak (x*2^s)++[0,0]=u++ex/\u.length=m+3/\Qj u/\val u=x*2^s/\ex.length<=2/\val (u.drop (m+3-(n+2)))<Y:=by
 have To:=oP (Qn x);rw[hx,Qu]at To;have hp:0<2^s:=KbM (by omega);have uJ:2^s<=2^15:=Kbu (by omega) hs;have hX:x*2^s<2^s*65536^(m+2):=by rw[KaX (2^s)];exact Nat.mul_lt_mul_of_pos_right To hp
 have hX2:x*2^s<65536^(m+3):=by have:2^s*65536^(m+2)<=65536*65536^(m+2):=Kam _ (by omega);rw[Kbz 65536 (m+2),KaX _ 65536];omega
 have hx1:¬nl (x*2^s)<=m+1:=fun h=>by
  have h2:¬nl x<=m+1:=by unfold nl;omega
  have h3:=fG (show x<=x*2^s from Kcj _ hp);omega
 have jC:nl (x*2^s)<=m+3:=mT.2 hX2;have qt:Qj (ak (x*2^s)++[0,0]):=nJ.2 ⟨Qn _,by intro z hz;simp at hz;omega⟩;have dT:val (ak (x*2^s)++[0,0])=x*2^s:=by rw[mP,Qu];simp[val]
 have hlen:(ak (x*2^s)++[0,0]).length=nl (x*2^s)+2:=by simp[nl]
 generalize ak (x*2^s)++[0,0]=D at *
 have hv:=pF D (m+3) (by omega);have hz:val (D.drop (m+3))=0:=CE (by omega);have JW:(D.take (m+3)).length=m+3:=by rw[Kay];omega
 refine⟨D.take (m+3),D.drop (m+3),(Kbe _ _).symm,JW,wW qt _,by rw[hz]at hv;omega,by rw[KaY];omega,?_⟩;have hu:val (D.take (m+3))=x*2^s:=by rw[hz]at hv;omega
 have th:=pF (D.take (m+3)) (m+3-(n+2)) (by omega);generalize D.take (m+3)=u at *
 have e:65536^(m+2)=65536^(m+3-(n+2))*65536^(n+1):=by rw[<-Nat.pow_add];congr 1;omega
 have:65536^(m+3-(n+2))*val (u.drop (m+3-(n+2)))<65536^(m+3-(n+2))*(2^s*65536^(n+1)):=by rw[KbE,<-e];omega
 have h4:=Nat.lt_of_mul_lt_mul_left this;have:2^s*65536^(n+1)<=32768*65536^(n+1):=Kam _ uJ;omega
open Go
variable {C : Ctx} {fr : Fr} {hp : HP} {w : World} {K R : Qi}
theorem abj{e ty n:Nat}{fz:Bool}{o d:Nat}{x:PV}(h:o+n<=e):iD (some ⟨e,ty,[x],fz⟩) n true 0 o d fr hp K=K (ab fr d (dQ true n o x)) hp:=LX h (by simp)
theorem aaL{e ty:Nat}{fz:Bool}{o d:Nat}{x:PV}(h:o+1<=e):iD (some ⟨e,ty,[x],fz⟩) 1 false 0 o d fr hp K=K (ab fr d (dQ false 1 o x)) hp:=LX h (by simp)
theorem aiS(n o:Nat)(cs:List PV):dQ true n o (.agg cs)= .agg ((cs.drop o).take n):=rfl
theorem aik(n o:Nat)(cs:List PV):dQ false n o (.agg cs)=(cs.drop o).headD .undef:=rfl
theorem Wl(n ty β:Nat)(x:PV)(cs:List PV):stM (some ⟨n,ty,[x],false⟩) β n 0 0 (.agg cs) fr hp K=(cs.length=n/\K fr (Qk hp β ⟨n,ty,[.agg cs],false⟩)):=by simp[stM,PV.aD,PV.cells]
theorem aaM{e n ty β o:Nat}{x v:PV}(h:v.flat=true)(hn:¬n=e)(hl:v.cells.length=n)(ho:o+n<=e):stM (some ⟨e,ty,[x],false⟩) β n 0 o v fr hp K=K fr (Qk hp β ⟨e,ty,[rW x o v],false⟩):=by have:=(qJ (hp:=hp) h).2.2;simp[stM,this,hl,ho,hn]
theorem ac4(cs:List PV)(o:Nat)(v:PV):rW (.agg cs) o v= .agg (cs.take o++v.cells++cs.drop (o+v.cells.length)):=rfl
theorem zq(k:IntKind)(n:Int):(PV.int k n).cells=[.int k n]:=rfl
theorem XU:(PV.aa).cells=[.aa]:=rfl
theorem O1{p:PV}(h:p.flat=true):p.nB=false:=by cases p<;>simp_all[PV.flat,PV.nB]
theorem Dg{z:List PV}{ps:List (Nat×Nat×PV)}{d:Nat}(h:ps.all (fun p=>p.2.2.flat)=true):
  ky z ps d fr hp K=((∀p∈ps,p.2.2.cells.length=p.2.1/\p.1+p.2.1<=z.length)/\K (ab fr d (.agg (gL z (ps.map fun p=>(p.1,p.2.2.cells))))) hp):=by
 have h':=Kap.1 h;have e1:(ps.map fun p=>(p.1,(Qt hp p.2.2).cells))=ps.map fun p=>(p.1,p.2.2.cells):=Ka1 fun p hp'=>by rw[(qJ (h' p hp')).1]
 have e2:(ps.flatMap fun p=>p.2.2.refs)=[]:=by rw[List.flatMap_eq_nil_iff];exact fun p hp'=>(qJ (hp:=hp) (h' p hp')).2.1
 have e3:FU hp z.length ps=(∀p∈ps,p.2.2.cells.length=p.2.1/\p.1+p.2.1<=z.length):=by
  apply propext;constructor
  ·intro H p hp';obtain⟨_,h2,h3⟩:=H p hp';rw[(qJ (h' p hp')).1]at h2;exact⟨h2,h3⟩
  ·intro H p hp';obtain⟨h2,h3⟩:=H p hp';obtain⟨g1,_,g3⟩:=qJ (hp:=hp) (h' p hp');rw[g1];exact⟨g3,h2,h3⟩
 have e4:ps.any (fun p=>p.2.2.nB)=false:=by rw[Kcy];exact fun p hp'=>by simp[O1 (h' p hp')]
 simp only[ky,e4,Al,e1,e2,e3,Ka8,if_false];rfl
theorem aj3(z:List PV)(d:Nat):ky z [] d fr hp K=K (ab fr d (.agg z)) hp:=by rw[Dg rfl];simp[gL]
theorem aj4{z:List PV}{o n d:Nat}{p:PV}(h:p.flat=true):ky z [(o,n,p)] d fr hp K=((p.cells.length=n/\o+n<=z.length)/\K (ab fr d (.agg (z.take o++p.cells++z.drop (o+p.cells.length)))) hp):=by rw[Dg (by simp[h])];simp[gL]
theorem aj5{z:List PV}{o n o2 n2 d:Nat}{p q:PV}(h:p.flat=true)(h2:q.flat=true):ky z [(o,n,p),(o2,n2,q)] d fr hp K=
  ((p.cells.length=n/\o+n<=z.length)/\(q.cells.length=n2/\o2+n2<=z.length)/\K (ab fr d (.agg (gL z [(o,p.cells),(o2,q.cells)]))) hp):=by
 rw[Dg (by simp[h,h2])];simp[and_assoc]
theorem aj6{z:List PV}{o n o2 n2 o3 n3 d:Nat}{p q r:PV}(h:p.flat=true)(h2:q.flat=true)(h3:r.flat=true):ky z [(o,n,p),(o2,n2,q),(o3,n3,r)] d fr hp K=
  ((p.cells.length=n/\o+n<=z.length)/\(q.cells.length=n2/\o2+n2<=z.length)/\(r.cells.length=n3/\o3+n3<=z.length)/\K (ab fr d (.agg (gL z [(o,p.cells),(o2,q.cells),(o3,r.cells)]))) hp):=by
 rw[Dg (by simp[h,h2,h3])];simp[and_assoc]
theorem XV(c:List PV):gL c []=c:=rfl
theorem Wm(c xs:List PV)(o:Nat)(r:List (Nat×List PV)):gL c ((o,xs)::r)=gL (c.take o++xs++c.drop (o+xs.length)) r:=rfl
def BS(p:PV)(hp:HP)(n:Nat)(ag:Bool):PV:=match p with
 |.mp β i o=>match hp β with
  |some hb=>if i<hb.xs.length/\o+n<=hb.e/\(ag=false->n=1)then dQ ag n o ((hb.xs[i]?).getD .undef)else .undef
  |none=>.undef
 |_=>.undef
def gv(fr:Fr)(hp:HP):RV->PV
 |.t s=>Qt hp (fr s)
 |.cell s n ag=>BS (fr s) hp n ag
def Ao(hb:Option HB)(n:Nat)(ag:Bool)(i o:Nat):PV:=match hb with
  |some hb=>if i<hb.xs.length/\o+n<=hb.e/\(ag=false->n=1)then dQ ag n o ((hb.xs[i]?).getD .undef)else .undef
  |none=>.undef
theorem amQ(fr:Fr)(hp:HP)(s:Nat):gv fr hp (.t s)=Qt hp (fr s):=rfl
theorem amP(fr:Fr)(hp:HP)(s n:Nat)(ag:Bool):gv fr hp (.cell s n ag)=BS (fr s) hp n ag:=rfl
theorem aaN(hp:HP)(n:Nat)(ag:Bool)(β i o:Nat):BS (.mp β i o) hp n ag=Ao (hp β) n ag i o:=rfl
theorem ac5{e ty n o:Nat}{fz:Bool}{x:PV}(h:o+n<=e):Ao (some ⟨e,ty,[x],fz⟩) n true 0 o=dQ true n o x:=by simp[Ao,h]
theorem ac6{e ty o:Nat}{fz:Bool}{x:PV}(h:o+1<=e):Ao (some ⟨e,ty,[x],fz⟩) 1 false 0 o=dQ false 1 o x:=by simp[Ao,h]
theorem BT{r:RV}(h:(gv fr hp r).aD=true):ki fr hp r/\jD fr hp r=gv fr hp r:=by
 cases r with
 |t s=>exact⟨h,rfl⟩
 | cell s n ag=>
  simp only[gv,ki,jD]at h⊢;cases og:fr s with
  | mp β i o=>
   rw[og]at h;simp only[BS]at h⊢;cases aj:hp β with
   |none=>rw[aj]at h;cases h
   | some hb=>
    rw[aj]at h;simp only at h⊢;split at h
    ·rename_i hc;rw[if_pos hc];exact⟨hc,rfl⟩
    ·cases h
  |_=>rw[og]at h;cases h
theorem cY{r:RV}{Rr:PV->Prop}(h:vC Rr (gv fr hp r)):fI [r] Rr fr hp:=by obtain⟨h1,h2⟩:=BT h.1;exact⟨h1,by rw[h2];exact h.2⟩
theorem fp{r s:RV}{Rr:PV->Prop}(h:Ak Rr (gv fr hp r) (gv fr hp s)):fI [r,s] Rr fr hp:=by obtain⟨⟨a,b⟩,c⟩:=h;obtain⟨h1,h2⟩:=BT a;obtain⟨h3,h4⟩:=BT b;refine⟨by simp[h1,h3],?_⟩;simp only[Kbk,Kby,h2,h4];exact c
end Go.FW
namespace Go.FW
open Go
def zv(n:Bool)(a:List Nat):Int:=if n then -(val a:Int)else val a
abbrev PV.zi(n:Bool)(a:List Nat):PV:=.agg [.bool n,PV.nat a]
abbrev PV.zz(z:Int):PV:=.agg [.bool (decide (z<0)),PV.num z.natAbs]
theorem H9(n:Bool)(x:Nat):PV.agg [.bool (n&&decide (0<(ak x).length)),PV.num x]=PV.zz (if n then -(x:Int)else x):=by
 have h:0<(ak x).length↔x≠0:=by
  constructor
  ·intro h h0;rw[h0,fk]at h;simp at h
  ·intro h;apply Ka6;intro h0;exact h (lK.1 (pH h0))
 cases n
 ·simp
 ·simp only[KcH,if_true,PV.zz,Int.natAbs_neg,Ka7];congr 3;exact decide_eq_decide.2 (by rw[h];omega)
theorem lS(z:Int):zv (decide (z<0)) (ak z.natAbs)=z:=by unfold zv;rw[Qu];by_cases h:z<0<;>simp[h]<;>omega
theorem iU(n:Bool)(a:List Nat):(zv n a).natAbs=val a:=by unfold zv;split<;>simp
theorem tG(a:List Nat):zv false a=val a:=rfl
theorem tN(n:Bool)(x:Nat):zv n (ak x)=if n then -(x:Int)else x:=by unfold zv;rw[Qu]
def eS(z:Int):Int:=if z<0 then -1 else if 0<z then 1 else 0
def dq(x y:Int):Int:=if x<y then -1 else if y<x then 1 else 0
theorem FZ(n:Bool)(a:List Nat):eS (zv n a)=if val a=0 then 0 else if n then -1 else 1:=by unfold eS zv;cases n<;>simp<;>split<;>(try split)<;>omega
theorem zW{x:Int}:eS x<0↔x<0:=by unfold eS;split<;>(try split)<;>omega
theorem ac7{x y:Int}(h:eS x<eS y):dq x y= -1:=by unfold eS at h;unfold dq;rw[if_pos];split at h<;>split at h<;>(try split at h)<;>(try split at h)<;>omega
theorem ac8{x y:Int}(h:eS y<eS x):dq x y=1:=by
 have:y<x:=by unfold eS at h;split at h<;>split at h<;>(try split at h)<;>(try split at h)<;>omega
 unfold dq;rw[if_neg (by omega),if_pos this]
theorem Dk(n:Bool)(a:List Nat):zv n a=val a∨zv n a= -(val a:Int):=by unfold zv;split<;>simp
theorem ac9{n m:Bool}{a b:List Nat}(h:zv n a<0)(h2:zv m b<0):gA (val b) (val a)=dq (zv n a) (zv m b):=by
 unfold gA dq;have e:=Dk n a;have f:=Dk m b;generalize zv n a=p at *
 generalize zv m b=q at *
 repeat' split
 all_goals omega
theorem ada{n m:Bool}{a b:List Nat}(h:¬zv n a<0)(h2:¬zv m b<0):gA (val a) (val b)=dq (zv n a) (zv m b):=by
 unfold gA dq;have e:=Dk n a;have f:=Dk m b;generalize zv n a=p at *
 generalize zv m b=q at *
 repeat' split
 all_goals omega
theorem Dl{x y:Nat}:gA x y<0↔x<y:=by unfold gA;split<;>(try split)<;>omega
variable {C : Ctx} {fr : Fr} {hp : HP} {w : World} {K R : Qi}
def Gl(hb:Option HB)(o n:Nat):PV:=match hb with
 |some hb=>.sl hb.e ((hb.xs.drop o).take n)
 |none=>.undef
theorem ia:(∀(hp:HP)(β o n:Nat),Qt hp (.aw β o n)=if aO β=true then .undef else Gl (hp β) o n)/\
  (∀(e ty o n:Nat)(xs:List PV)(fz:Bool),Gl (some ⟨e,ty,xs,fz⟩) o n= .sl e ((xs.drop o).take n))/\
  (∀(β:Nat),aO β=(decide (1000000<=β)&&decide (β<2000000)))/\
  (∀(hp:HP)(l:List Nat)(β:Nat),FW.Qy hp l β=if l.contains β=true then(hp β).map (fun hb=>{ hb with fz:=true })else hp β):=by
 refine⟨fun hp β o n=>?_,fun _ _ _ _ _ _=>rfl,fun _=>rfl,fun _ _ _=>rfl⟩;simp only[Qt,cj,Gl];cases aO β<;>cases hp β<;>rfl
theorem afZ{n d:Nat}{cs:List PV}(h:n<=cs.length):bo n true (.pt cs) d fr hp K=K (ab fr d (.agg (cs.take n))) hp:=by simp[bo,h,dQ,PV.cells]
theorem af0{off d:Nat}{cs:List PV}(h:off<=cs.length):rf off (.pt cs) d fr hp K=K (ab fr d (.pt (cs.drop off))) hp:=by simp[rf,h]
theorem af1{off n d:Nat}{cs:List PV}(h:off+n<=cs.length):qV off n true (.agg cs) d fr hp K=K (ab fr d (.agg ((cs.drop off).take n))) hp:=by simp[qV,h,dQ,PV.cells]
theorem af2{off d:Nat}{cs:List PV}(h:off+1<=cs.length):qV off 1 false (.agg cs) d fr hp K=K (ab fr d ((cs.drop off).headD .undef)) hp:=by simp[qV,h,dQ,PV.cells]
def rv(n:Bool)(a d:List Nat):Rat:=mkRat (zv n a) (val d)
abbrev PV.rr(n:Bool)(a d:List Nat):PV:=.agg [.bool n,PV.nat a,PV.nat d]
abbrev PV.rat(q:Rat):PV:=.agg [.bool (decide (q.num<0)),PV.num q.num.natAbs,PV.num q.den]
theorem gM(q:Rat):rv (decide (q.num<0)) (ak q.num.natAbs) (ak q.den)=q:=by unfold rv;rw[lS,Qu,KcO]
theorem zr{z:Int}{D:Nat}(hD:D≠0):(mkRat z D).num=z/(Nat.gcd z.natAbs D:Int)/\(mkRat z D).den=D/Nat.gcd z.natAbs D:=by rw[Rat.mkRat_def,dif_neg hD,Rat.normalize_eq];exact⟨rfl,rfl⟩
theorem MS{z:Int}{D:Nat}(hD:D≠0):PV.agg [.bool (decide (z<0)),PV.num (z.natAbs/Nat.gcd z.natAbs D),PV.num (D/Nat.gcd z.natAbs D)]=PV.rat (mkRat z D):=by
 obtain⟨h1,h2⟩:=zr (z:=z) hD;have hg:0<Nat.gcd z.natAbs D:=Nat.gcd_pos_of_pos_right _ (Ka6 hD);have Jl:(Nat.gcd z.natAbs D:Int)∣z:=Int.ofNat_dvd_left.2 (KcP _ _);obtain⟨k,hk⟩:=Jl;rw[PV.rat,h1,h2];generalize hgg:Nat.gcd z.natAbs D=g at *
 have e1:z/(g:Int)=k:=by rw[hk,Int.mul_ediv_cancel_left _ (by omega)]
 have e2:z.natAbs/g=k.natAbs:=by rw[hk,Int.natAbs_mul,Ka7,Nat.mul_div_cancel_left _ hg]
 have e3:z<0↔k<0:=by
  rw[hk];constructor
  ·intro h;apply Decidable.byContradiction;intro h';have:=Int.mul_nonneg (show(0:Int)<=g by omega) (show 0<=k by omega);omega
  ·intro h;exact Int.mul_neg_of_pos_of_neg (by omega) h
 rw[e1,e2,decide_eq_decide.2 e3]
theorem ail(z:Int):PV.agg [.bool (decide (z<0)),PV.num z.natAbs,PV.nat [1]]=PV.rat (mkRat z 1):=by rw[<-MS (by omega),Nat.gcd_one_right,Nat.div_one,Nat.div_one,PV.num,PV.num,sn]
theorem L6:PV.le (.agg [.bool false,.aa,PV.nat [1]]) (PV.rat 0):=by
 show PV.BB _ _;refine⟨rfl,?_,?_,trivial⟩
 ·show PV.mD .aa (PV.nat (ak 0));rw[fk];trivial
 ·show PV.mD (PV.nat [1]) (PV.nat (ak 1));rw[sn];exact zC _
theorem Oi{z:Int}{D:Nat}(h:D=0∨z=0):mkRat z D=0:=by
 rcases h with h|h
 ·rw[h,Rat.mkRat_zero]
 ·rw[h,Rat.zero_mkRat]
def rs(q:Rat):Nat:=max (nl q.num.natAbs) (nl q.den)
theorem MH(x y:Nat):nl (x/y)<=nl x:=fG (Kcv _ _)
theorem oQ:nl 1=1:=by unfold nl;rw[sn];rfl
theorem Dm(z:Int)(D:Nat):rs (mkRat z D)<=max (nl z.natAbs) (max (nl D) 1):=by
 by_cases hD:D=0
 ·rw[hD,Rat.mkRat_zero];show max (nl 0) (nl 1)<=_;rw[DD,oQ];omega
 ·obtain⟨h1,h2⟩:=zr (z:=z) hD;unfold rs;rw[h1,h2];have e:(z/(Nat.gcd z.natAbs D:Int)).natAbs<=z.natAbs:=by have Jl:(Nat.gcd z.natAbs D:Int)∣z:=Int.ofNat_dvd_left.2 (KcP _ _);rw[Int.natAbs_ediv_of_dvd Jl];exact Kcv _ _
  have:=fG e;have:=MH D (Nat.gcd z.natAbs D);omega
theorem y3(x y:Int):nl (x+y).natAbs<=max (nl x.natAbs) (nl y.natAbs)+1:=
 KaO (fG (Int.natAbs_add_le x y)) (z' _ _)
theorem kk(x y:Int):nl (x*y).natAbs<=nl x.natAbs+nl y.natAbs:=by rw[Int.natAbs_mul];exact kq _ _
theorem FV(q:Rat):1<=rs q:=by have:nl q.den≠0:=fun h=>q.den_nz (wX.1 h);unfold rs;omega
theorem vh(a b:Rat):rs (a+b)<=rs a+rs b+1:=by
 have e:a+b=mkRat (a.num*b.den+b.num*a.den) (a.den*b.den):=by
  conv=>lhs;rw[<-Rat.mkRat_self a,<-Rat.mkRat_self b]
  exact Rat.mkRat_add_mkRat _ _ a.den_nz b.den_nz
 rw[e];have h1:=Dm (a.num*b.den+b.num*a.den) (a.den*b.den);have h2:=y3 (a.num*b.den) (b.num*a.den);have h3:=kk a.num b.den;have h4:=kk b.num a.den;have h5:=kq a.den b.den;rw[Ka7]at h3 h4;unfold rs at *
 omega
theorem vj(a b:Rat):rs (a*b)<=rs a+rs b:=by
 have e:a*b=mkRat (a.num*b.num) (a.den*b.den):=by
  conv=>lhs;rw[<-Rat.mkRat_self a,<-Rat.mkRat_self b]
  exact Rat.mkRat_mul_mkRat _ _ _ _
 rw[e];have h1:=Dm (a.num*b.num) (a.den*b.den);have h3:=kk a.num b.num;have h5:=kq a.den b.den;have:=FV a;unfold rs at *
 omega
theorem af3(a:Rat):rs (-a)=rs a:=by unfold rs;rw[Rat.neg_num,Rat.neg_den,Int.natAbs_neg]
theorem af4{n k:Nat}{a d:List Nat}{b:Bool}(ha:Qj a)(hd:Qj d)(h1:a.length<=k)(h2:d.length<=k)(hk:1<=k):rs (rv b a d)<=k:=by unfold rv;have h:=Dm (zv b a) (val d);rw[iU]at h;have:=bF ha;have:=bF hd;omega
end Go.FW
namespace Go.FW
open Go
def fX(q:Rat):Int:=eS q.num
def nZ(p q:Rat):Int:=if p<q then -1 else if q<p then 1 else 0
theorem Gw{z:Int}{D:Nat}(hD:D≠0):∃g:Nat,0<g/\z=(mkRat z D).num*g/\D=(mkRat z D).den*g:=by
 obtain⟨h1,h2⟩:=zr (z:=z) hD;have hg:0<Nat.gcd z.natAbs D:=Nat.gcd_pos_of_pos_right _ (Ka6 hD);refine⟨_,hg,?_,?_⟩
 ·rw[h1,Int.ediv_mul_cancel (Int.ofNat_dvd_left.2 (KcP _ _))]
 ·rw[h2,Nat.div_mul_cancel (Nat.gcd_dvd_right _ _)]
theorem Wn{a:Int}{g:Nat}(hg:0<g):a*g<0↔a<0:=by
 constructor
 ·intro h;apply Decidable.byContradiction;intro h';have:=Int.mul_nonneg (show 0<=a by omega) (show(0:Int)<=g by omega);omega
 ·intro h;exact Int.mul_neg_of_neg_of_pos h (by omega)
theorem Wo{a:Int}{g:Nat}(hg:0<g):0<a*g↔0<a:=by
 constructor
 ·intro h;apply Decidable.byContradiction;intro h';have:=Int.mul_nonneg (show 0<= -a by omega) (show(0:Int)<=g by omega);rw[Int.neg_mul]at this;omega
 ·intro h;exact Int.mul_pos h (by omega)
theorem Xw{z:Int}{D:Nat}(hD:D≠0):fX (mkRat z D)=eS z:=by
 obtain⟨g,hg,h1,_⟩:=Gw (z:=z) hD;unfold fX;generalize(mkRat z D).num=x at *
 subst h1;unfold eS;have:=Wn (a:=x) hg;have:=Wo (a:=x) hg
 repeat' split
 all_goals omega
theorem KO{x y:Int}{d c:Nat}(hd:d≠0)(hc:c≠0):mkRat x d<mkRat y c↔x*c<y*d:=by
 obtain⟨g,hg,h1,h2⟩:=Gw (z:=x) hd;obtain⟨k,hk,h3,h4⟩:=Gw (z:=y) hc;rw[Rat.lt_iff];generalize(mkRat x d).num=p at *
 generalize(mkRat x d).den=p' at *
 generalize(mkRat y c).num=q at *
 generalize(mkRat y c).den=q' at *
 subst h1 h2 h3 h4;have e1:p*(g:Int)*((q'*k:Nat):Int)=(p*q')*((g*k:Nat):Int):=by push_cast;grind
 have e2:q*(k:Int)*((p'*g:Nat):Int)=(q*p')*((g*k:Nat):Int):=by push_cast;grind
 rw[e1,e2];have Sj:(0:Int)<((g*k:Nat):Int):=by exact_mod_cast KcM hg hk
 exact⟨fun h=>Int.mul_lt_mul_of_pos_right h Sj,fun h=>Int.lt_of_mul_lt_mul_right h (Int.le_of_lt Sj)⟩
theorem L7{x y:Int}{d c:Nat}(hd:d≠0)(hc:c≠0):nZ (mkRat x d) (mkRat y c)=dq (x*c) (y*d):=by unfold nZ dq;simp only[KO hd hc,KO hc hd]
theorem KP{x:Int}:eS x=0↔x=0:=by unfold eS;(repeat' split)<;>omega
theorem gq{q:Rat}:fX q=0↔q=0:=by unfold fX;rw[KP,Rat.num_eq_zero]
theorem KQ{q:Rat}:fX q<0↔q<0:=by unfold fX;rw[zW,Rat.lt_iff];simp
theorem KR{q:Rat}:0<fX q↔0<q:=by
 unfold fX;rw[Rat.lt_iff];unfold eS;simp;repeat' split
 all_goals omega
theorem P4(q:Rat):fX q= -1∨fX q=0∨fX q=1:=by unfold fX eS;(repeat' split)<;>omega
theorem KS{p q:Rat}(h:fX p<fX q):nZ p q= -1:=by
 unfold nZ;rw[if_pos];rcases P4 p with h1|h1|h1<;>rcases P4 q with h2|h2|h2<;>first|omega|skip
 ·have a:=KQ.1 (show fX p<0 by omega);have b:=gq.1 h2;grind
 ·have a:=KQ.1 (show fX p<0 by omega);have b:=KR.1 (show 0<fX q by omega);grind
 ·have a:=gq.1 h1;have b:=KR.1 (show 0<fX q by omega);grind
theorem aaO{p q:Rat}(h:fX q<fX p):nZ p q=1:=by
 have:=KS h;unfold nZ at *
 have aq:q<p:=by apply Decidable.byContradiction;intro hn;rw[if_neg hn]at this;split at this<;>omega
 rw[if_neg (by grind),if_pos aq]
theorem P5{p q:Rat}:nZ p q=0↔p=q:=by
 unfold nZ;constructor
 ·intro h;split at h
  ·omega
  ·split at h
   ·omega
   ·grind
 ·rintro rfl;rw[if_neg (by grind),if_neg (by grind)]
def oU(n:Bool)(a:List Nat):Bool:=if a=[]then !n else decide (a.getLast? ≠some 0)
def ku(n:Bool)(a d:List Nat):Bool:=oU n a&&(decide (d≠[]/\d.getLast? ≠some 0)&&decide (Nat.gcd (val a) (val d)=1))
theorem KT{n:Bool}{a d:List Nat}(ha:Qj a)(hd:Qj d)(h:ku n a d=true):n=decide ((rv n a d).num<0)/\a=ak (rv n a d).num.natAbs/\d=ak (rv n a d).den:=by
 simp only[ku,oU,Kav,decide_eq_true_eq]at h;obtain⟨h1,⟨h2,h3⟩,h4⟩:=h;have ea:a=ak (val a):=by
  refine(zO ha ?_).symm;split at h1
  ·rename_i h;subst h;simp
  ·simpa using h1
 have ed:d=ak (val d):=(zO hd h3).symm;have hD:val d≠0:=fun h=>h2 (by rw[ed,h,fk]);obtain⟨g1,g2⟩:=zr (z:=zv n a) hD;rw[iU,h4]at g1 g2;have Ep:(rv n a d).num=zv n a:=by unfold rv;rw[g1];simp
 have g2':(rv n a d).den=val d:=by unfold rv;rw[g2];simp
 rw[Ep,g2',iU];refine⟨?_,ea,ed⟩;unfold zv;split at h1
 ·rename_i h;subst h;simp at h1;subst h1;simp[val]
 ·rename_i h;have h0:val a≠0:=fun h'=>h (by rw[ea,h',fk]);cases n<;>simp;omega
theorem aim{n:Bool}{a d:List Nat}(ha:Qj a)(hd:Qj d)(h:ku n a d=true):PV.rr n a d=PV.rat (rv n a d):=by obtain⟨h1,h2,h3⟩:=KT ha hd h;rw[PV.rr,PV.rat,<-h1,PV.num,PV.num,<-h2,<-h3]
theorem NY{a:List Nat}{k:Nat}(h:a.length=k+1):a.getLast? =some (a[k]'(by omega)):=by rw[Kbf,show a.length-1=k by omega];exact Kag _
def eN(a:List Int)(i:Nat):Int:=a.getD i 0
theorem ik{a:List Int}{i:Nat}(h:i<a.length):eN a i=a[i]:=by simp[eN,Kad,h]
theorem lg{a:List Int}{i:Nat}(h:a.length<=i):eN a i=0:=by simp[eN,Kad,Kcw h]
theorem af5(i:Nat):eN [] i=0:=by simp[eN]
def n5(l:List Int):Nat->List Int
 |0=>[]
 |n+1=>if l[n]? =some 0 then n5 l n else l.take (n+1)
def qW(l:List Int):List Int:=n5 l l.length
theorem N1(l:List Int):∀n,(n5 l n).length<=n
 |0=>by simp[n5]
 |n+1=>by
  rw[n5];split
  ·have:=N1 l n;omega
  ·simp;omega
theorem P6(l:List Int):∀n,n<=l.length->(n5 l n).getLast? ≠some 0
 |0,_=>by simp[n5]
 | n+1,h=>by
  rw[n5];split
  ·exact P6 l n (by omega)
  ·rename_i hn;have:(l.take (n+1)).getLast? =l[n]? :=by rw[Kbf,Kay,KbP h];simp[Kcb]
   rw[this];exact hn
theorem L8(l:List Int)(i:Nat):∀n,n<=l.length->eN (n5 l n) i=if i<n then eN l i else 0
 |0,_=>by simp[n5,eN]
 | n +1,h=>by
  rw[n5];split
  ·rename_i hn;rw[L8 l i n (by omega)];by_cases h1:i<n
   ·simp[h1,show i<n+1 by omega]
   ·rw[if_neg h1];split
    ·obtain rfl:i=n:=by omega
     simp[eN,Kad,hn]
    ·rfl
  ·simp only[eN,Kad,Kcb];split<;>simp_all
theorem KU(l:List Int)(i:Nat):eN (qW l) i=eN l i:=by
 rw[qW,L8 l i _ (Kae _)];split
 ·rfl
 ·exact(lg (by omega)).symm
theorem O2(l:List Int):(qW l).getLast? ≠some 0:=P6 l _ (Kae _)
theorem Cr(l:List Int):(qW l).length<=l.length:=N1 l _
theorem Dp{a b:List Int}(ha:a.getLast? ≠some 0)(hb:b.getLast? ≠some 0)(h:∀i,eN a i=eN b i):a=b:=by
 have key:∀(a b:List Int),b.getLast? ≠some 0->(∀i,eN a i=eN b i)->¬a.length<b.length:=by intro a b hb h aq;have h1:=h (b.length-1);rw[lg (by omega),ik (by omega)]at h1;apply hb;rw[Kbf,Kag (by omega),<-h1]
 have h1:=key a b hb h;have h2:=key b a ha (fun i=>(h i).symm);refine List.ext_getElem (by omega) fun i h3 h4=>?_;have:=h i
 rwa[ik h3,ik h4]at this
theorem KV{a:List Int}(h:a.getLast? ≠some 0):qW a=a:=Dp (O2 a) h (KU a)
def dJ(a b:List Int):Nat->Int
 |0=>0
 |n+1=>if eN a n=eN b n then dJ a b n else dq (eN a n) (eN b n)
def aX(a b:List Int):Int:=dJ a b (max a.length b.length)
theorem adb{x y:Int}:dq x y=0↔x=y:=by unfold dq;(repeat' split)<;>omega
theorem xm{x y:Int}:dq x y<0↔x<y:=by unfold dq;(repeat' split)<;>omega
theorem aaP(x y:Int):dq y x= -dq x y:=by unfold dq;(repeat' split)<;>omega
theorem C1(a b:List Int):∀n,dJ a b n=0↔∀i,i<n->eN a i=eN b i
 |0=>by simp[dJ]
 | n+1=>by
  rw[dJ];split
  ·rename_i h;rw[C1 a b n];exact⟨fun H i hi=>by
    by_cases h1:i=n
    ·subst h1;exact h
    ·exact H i (by omega),fun H i hi=>H i (by omega)⟩
  ·rename_i h;rw[adb];exact⟨fun H=>absurd H h,fun H=>H n (by omega)⟩
theorem KW(a b:List Int):∀n,dJ b a n= -dJ a b n
 |0=>rfl
 |n+1=>by
  rw[dJ,dJ];by_cases h:eN a n=eN b n
  ·rw[if_pos h,if_pos h.symm,KW a b n]
  ·rw[if_neg h,if_neg (fun h'=>h h'.symm),aaP]
theorem O3{a b c:List Int}:∀n,dJ a b n<0->dJ b c n<0->dJ a c n<0
 |0=>by simp[dJ]
 | n+1=>by
  intro h1 h2;rw[dJ]at h1 h2⊢;split at h1<;>split at h2
  ·rename_i e1 e2;rw[if_pos (e1.trans e2)];exact O3 n h1 h2
  ·rename_i e1 e2;rw[e1,if_neg e2];exact h2
  ·rename_i e1 e2;rw[<-e2,if_neg e1];exact h1
  ·rename_i e1 e2;rw[xm]at h1 h2;rw[if_neg (by omega),xm];omega
theorem xg{a b:List Int}{m:Nat}(h:max a.length b.length<=m):dJ a b m=aX a b:=by
 obtain⟨k,rfl⟩:∃k,m=max a.length b.length+k:=⟨m-max a.length b.length,by omega⟩
 induction k with
 |zero=>rfl
 |succ k ih=>rw[<-Nat.add_assoc,dJ,if_pos (by rw[lg (by omega),lg (by omega)])];exact ih (by omega)
theorem Ia{a b:List Int}(ha:a.getLast? ≠some 0)(hb:b.getLast? ≠some 0):aX a b=0↔a=b:=by
 unfold aX;rw[C1];constructor
 ·intro h;refine Dp ha hb fun i=>?_;by_cases hi:i<max a.length b.length
  ·exact h i hi
  ·rw[lg (by omega),lg (by omega)]
 ·rintro rfl i _;rfl
theorem Hj(a:List Int):aX a a=0:=by rw[aX,C1];intros;rfl
theorem xh(a b:List Int):aX b a= -aX a b:=by unfold aX;rw[Nat.max_comm,KW]
theorem Wp{a b c:List Int}(h1:aX a b<0)(h2:aX b c<0):aX a c<0:=by
 have e:∀x y:List Int,x.length<=a.length+b.length+c.length->y.length<=a.length+b.length+c.length->aX x y=dJ x y (a.length+b.length+c.length):=fun x y hx hy=>(xg (by omega)).symm;rw[e _ _ (by omega) (by omega)]at *
 exact O3 _ h1 h2
theorem Wq{a b c d:List Int}(h1:∀i,eN a i=eN c i)(h2:∀i,eN b i=eN d i):aX a b=aX c d:=by
 have key:∀n,dJ a b n=dJ c d n:=by
  intro n;induction n with
  |zero=>rfl
  |succ n ih=>rw[dJ,dJ,h1,h2,ih]
 rw[<-xg (m:=max (max a.length b.length) (max c.length d.length)) (by omega),key,xg (by omega)]
def kB(g:Int->Int->Int)(a b:List Int):List Int:=(List.range (max a.length b.length)).map fun i=>g (eN a i) (eN b i)
theorem pE(g:Int->Int->Int)(a b:List Int):(kB g a b).length=max a.length b.length:=by simp[kB]
theorem L9{g:Int->Int->Int}(hg:g 0 0=0)(a b:List Int)(i:Nat):eN (kB g a b) i=g (eN a i) (eN b i):=by
 by_cases h:i<max a.length b.length
 ·rw[ik (by rw[pE];exact h)];simp[kB]
 ·rw[lg (by rw[pE];omega),lg (by omega),lg (by omega),hg]
def dk(a b:List Int):List Int:=qW (kB (· + ·) a b)
theorem xo(a b:List Int)(i:Nat):eN (dk a b) i=eN a i+eN b i:=by rw[dk,KU,L9 (by simp)]
theorem zt(a b:List Int):(dk a b).getLast? ≠some 0:=O2 _
theorem zu(a b:List Int):dk a b=dk b a:=Dp (zt _ _) (zt _ _) fun i=>by rw[xo,xo,Int.add_comm]
theorem Dq{a:List Int}(h:a.getLast? ≠some 0):dk a []=a:=Dp (zt _ _) h fun i=>by rw[xo,af5,Int.add_zero]
theorem aaQ(a b c:List Int):aX (dk a c) (dk b c)=aX a b:=by
 have key:∀n,dJ (dk a c) (dk b c) n=dJ a b n:=by
  intro n;induction n with
  |zero=>rfl
  |succ n ih=>
   rw[dJ,dJ,xo,xo,ih];by_cases h:eN a n=eN b n
   ·rw[if_pos h,if_pos (by omega)]
   ·rw[if_neg h,if_neg (by omega)];unfold dq;(repeat' split)<;>omega
 rw[<-xg (m:=max (max (dk a c).length (dk b c).length) (max a.length b.length)) (by omega),key,xg (by omega)]
def jN(a:List Int):Int:=a.sum
def iV(a:List Int):Bool:=decide (a.length<=64)&&(decide (a.getLast? ≠some 0)&&a.all fun x=>decide (0<=x)&&decide (x<=1048576))
def jO(o:Int)(a b:List Int):Int:=if o=1/\jN a≠jN b then dq (jN a) (jN b)else aX a b
structure MB(k:Nat)(a:List Int):Prop where
 len:a.length<=64
 lo:∀x∈a,0<=x
 hi:∀x∈a,x<=k
theorem MB.eN{k:Nat}{a:List Int}(h:MB k a)(i:Nat):0<=FW.eN a i/\FW.eN a i<=k:=by
 by_cases hi:i<a.length
 ·rw[ik hi];exact⟨h.lo _ (Kah _),h.hi _ (Kah _)⟩
 ·rw[lg (by omega)];omega
theorem MB.mono{k k':Nat}{a:List Int}(h:MB k a)(hk:k<=k'):MB k' a:=⟨h.len,h.lo,fun x hx=>by have:=h.hi x hx;omega⟩
theorem MB.uQ{a:List Int}(h:iV a=true):MB 1048576 a:=by simp only[iV,Kav,decide_eq_true_eq,Kap]at h;exact⟨h.1,fun x hx=>(h.2.2 x hx).1,fun x hx=>(h.2.2 x hx).2⟩
theorem MB.mul{k l:Nat}{a b:List Int}(h:MB k a)(g:MB l b):MB (k+l) (dk a b):=by
 have hl:(dk a b).length<=64:=by have:=Cr (kB (· + ·) a b);rw[pE]at this;have:=h.len;have:=g.len;unfold dk;omega
 refine⟨hl,fun x hx=>?_,fun x hx=>?_⟩
 all_goals
  obtain⟨i,hi,rfl⟩:=Kaz hx;rw[<-ik hi,xo];have:=h.eN i;have:=g.eN i
  push_cast;omega
variable {C : Ctx} {fr : Fr} {hp : HP} {w : World} {K R : Qi}
theorem ain{α:Type}{f:α->PV}{e d:Nat}{xs:List α}{k k':IntKind}{n:Nat}(h5:n<=xs.length):
  iE e (.sl e (xs.map f)) none (some (.int k (n:Int))) (some (.int k' (n:Int))) d fr hp K=K (ab fr d (.sl e ((xs.take n).map f))) hp:=by
 simp[iE,gZ,h5]
theorem HO{α:Type}{a:List α}{k:Nat}(h:a.length=k+1):a.getLast? =some (a[k]'(by omega)):=by rw[Kbf,show a.length-1=k by omega];exact Kag _
theorem Vh{α:Type}{f:α->PV}{e by_ ty d:Nat}{xs:List α}(h0:0<e)(h1:xs.length*by_<=140737488355328)(h2:xs.length<=9223372036854775807):
  iL e by_ ty .aa (.sl e (xs.map f)) d fr hp K=K (ab (bE d fr) d (.ms d xs.length)) (Qk hp d ⟨e,ty,xs.map f,false⟩):=by
 have:=G1 (fr:=fr) (hp:=hp) (K:=K) (e:=e) (by_:=by_) (ty:=ty) (d:=d) (x:=.sl e (xs.map f)) (ys:=xs.map f) rfl h0 (by simpa using h1) (by simpa using h2);simpa using this
theorem jG{α:Type}{f:α->PV}{e by_ ty d β n:Nat}{xs ys:List α}(hb:hp β=some ⟨e,ty,xs.map f,false⟩)(hn:n=xs.length)(h0:0<e)(h1:(n+ys.length)*by_<=140737488355328)(h2:n+ys.length<=9223372036854775807)(hB:bC β=false:=by decide):
  iL e by_ ty (.ms β n) (.sl e (ys.map f)) d fr hp K=K (ab (bE β fr) d (.ms β (n+ys.length))) (Qk hp β ⟨e,ty,(xs++ys).map f,false⟩):=by
 rw[G2 (ys:=ys.map f) (xs:=xs.map f) rfl hb h0 (by simp[hn]) (by simpa using h1) (by simpa using h2) hB];rw[Kai (by simp[hn]),KbQ,KaV]
theorem Q3{α:Type}{f:α->PV}{y:α}{e by_ ty ty' d β γ n:Nat}{xs:List α}{fz:Bool}(hb:hp β=some ⟨e,ty,xs.map f,false⟩)(hy:hp γ=some ⟨e,ty',[f y],fz⟩)(h0:0<e)(hn:n=xs.length)(h1:(n+1)*by_<=140737488355328)(h2:n+1<=9223372036854775807)(hB:bC β=false:=by decide):
  iL e by_ ty (.ms β n) (.ms γ 1) d fr hp K=K (ab (bE β fr) d (.ms β (n+1))) (Qk hp β ⟨e,ty,(xs++[y]).map f,false⟩):=by
 rw[HJ hb hy h0 (by simp[hn]) h1 h2 hB];simp
abbrev PV.mono(a:List Int):PV:=.sl 1 (pU a)
theorem Xx{a:List Int}(h:a=[]):PV.le .aa (PV.mono a):=by subst h;trivial
theorem af6{by_ ty d:Nat}{k k':IntKind}{n c:Nat}(h2:n<=c)(h3:by_*c<=281474976710656)(h4:c<=9223372036854775807):
  nD 1 by_ ty (.int .i64 0) (.int k (n:Int)) (.int k' (c:Int)) d fr hp K=K (ab (bE d fr) d (.ms d n)) (Qk hp d ⟨1,ty,pU (List.replicate n 0),false⟩):=by
 rw[Mz (by omega) (by omega) (by omega) (by omega)];simp[pU]
theorem L'(a b:Nat):max (a:Int) (b:Int)=((max a b:Nat):Int):=by omega
end Go.FW
namespace Go.FW
open Go
variable {C : Ctx} {fr : Fr} {hp : HP} {w : World} {K R : Qi}
theorem Xy{α:Type}{done:List α}{i n:Nat}{v z:α}(h:done.length=i)(hn:0<n):(done++List.replicate n z).set i v=(done++[v])++List.replicate (n-1) z:=by
 obtain⟨m,rfl⟩:∃m,n=m+1:=⟨n-1,by omega⟩
 subst h;simp[KbB]
theorem Hk{g:Int->Int->Int}{a b:List Int}{i:Nat}(h:i<max a.length b.length):(kB g a b).take (i+1)=(kB g a b).take i++[g (eN a i) (eN b i)]:=by rw[Kao (by rw[pE];exact h)];simp[kB]
end Go.FW
namespace Go.FW
open Go
abbrev Tm:=Rat×List Int
abbrev PV.term(t:Tm):PV:=.agg [.bool (decide (t.1.num<0)),PV.num t.1.num.natAbs,PV.num t.1.den,PV.mono t.2]
abbrev PV.ao(p:List Tm):PV:=.sl 4 (p.map PV.term)
abbrev PV.dp(l:List (List Tm)):PV:=.sl 1 (l.map PV.ao)
def Qq:List Tm->List Tm->List Tm
 | [],q=>q
 |p,[]=>p
 |(c,m)::p,(d,l)::q=>
  if 0<aX m l then(c,m)::Qq p ((d,l)::q)
  else if aX m l<0 then(d,l)::Qq ((c,m)::p) q
  else if c+d=0 then Qq p q else(c+d,m)::Qq p q
termination_by p q=>p.length+q.length
theorem kX(p:List Tm):Qq p []=p:=by cases p<;>rw[Qq];simp
theorem qO(p:List Tm):Qq [] p=p:=by rw[Qq]
structure TB(K E:Nat)(t:Tm):Prop where
 c:rs t.1+1<=K
 m:MB E t.2
 l:t.2.getLast? ≠some 0
def PB(K E:Nat)(p:List Tm):Prop:=∀t∈p,TB K E t
theorem TB.mono{K K' E E':Nat}{t:Tm}(h:TB K E t)(hK:K<=K')(hE:E<=E'):TB K' E' t:=⟨KaO h.c hK,h.m.mono hE,h.l⟩
theorem PB.mono{K K' E E':Nat}{p:List Tm}(h:PB K E p)(hK:K<=K')(hE:E<=E'):PB K' E' p:=fun t ht=>(h t ht).mono hK hE
theorem PB.nil(K E:Nat):PB K E []:=fun t ht=>by cases ht
theorem PB.cons{K E:Nat}{t:Tm}{p:List Tm}:PB K E (t::p)↔TB K E t/\PB K E p:=by simp[PB]
theorem PB.drop{K E:Nat}{p:List Tm}(h:PB K E p)(n:Nat):PB K E (p.drop n):=fun t ht=>h t (Kbt ht)
theorem PB.take{K E:Nat}{p:List Tm}(h:PB K E p)(n:Nat):PB K E (p.take n):=fun t ht=>h t (Ka4 ht)
theorem PB.get{K E:Nat}{p:List Tm}(h:PB K E p){i:Nat}(hi:i<p.length):TB K E p[i]:=h _ (Kah hi)
theorem GM:∀(p q:List Tm),(Qq p q).length<=p.length+q.length:=by
 intro p q;induction p,q using Qq.induct with
 |case1 q=>rw[Qq];simp
 |case2 p h=>rw[kX];simp
 |case3 c m p d l q h ih=>rw[Qq,if_pos h];simp at ih ⊢;omega
 |case4 c m p d l q h1 h2 ih=>rw[Qq,if_neg h1,if_pos h2];simp at ih ⊢;omega
 |case5 c m p d l q h1 h2 h3 ih=>rw[Qq,if_neg h1,if_neg h2,if_pos h3];simp at ih ⊢;omega
 |case6 c m p d l q h1 h2 h3 ih=>rw[Qq,if_neg h1,if_neg h2,if_neg h3];simp at ih ⊢;omega
theorem DJ{K L E:Nat}:∀(p q:List Tm),PB K E p->PB L E q->PB (K+L) E (Qq p q):=by
 intro p q;induction p,q using Qq.induct with
 |case1 q=>rw[Qq];exact fun _ h=>h.mono (by omega) (by omega)
 |case2 p h=>rw[kX];exact fun h _=>h.mono (by omega) (by omega)
 |case3 c m p d l q h ih=>intro hp hq;rw[Qq,if_pos h];rw[PB.cons]at hp⊢;exact⟨hp.1.mono (by omega) (by omega),ih hp.2 hq⟩
 |case4 c m p d l q h1 h2 ih=>intro hp hq;rw[Qq,if_neg h1,if_pos h2];rw[PB.cons]at hq⊢;exact⟨hq.1.mono (by omega) (by omega),ih hp hq.2⟩
 |case5 c m p d l q h1 h2 h3 ih=>intro hp hq;rw[Qq,if_neg h1,if_neg h2,if_pos h3];rw[PB.cons]at hp hq;exact ih hp.2 hq.2
 |case6 c m p d l q h1 h2 h3 ih=>intro hp hq;rw[Qq,if_neg h1,if_neg h2,if_neg h3];rw[PB.cons]at hp hq⊢;refine⟨⟨?_,hp.1.m,hp.1.l⟩,ih hp.2 hq.2⟩;have:=vh c d;have:=hp.1.c;have:=hq.1.c;simp only at *;omega
def cy(l:List (List Tm)):List Tm:=
 match l with
 | []=>[]
 | [p]=>p
 |p::q::r=>Qq (cy ((p::q::r).take ((p::q::r).length/2))) (cy ((p::q::r).drop ((p::q::r).length/2)))
termination_by l.length
decreasing_by
 all_goals simp[Kay,KaY];omega
theorem zw{l:List (List Tm)}(h:2<=l.length):cy l=Qq (cy (l.take (l.length/2))) (cy (l.drop (l.length/2))):=by
 match l,h with
 |p::q::r,_=>rw[cy]
def sI(l:List (List Tm)):Nat:=(l.map List.length).sum
theorem O4(l:List (List Tm))(n:Nat):sI (l.take n)+sI (l.drop n)=sI l:=by unfold sI;rw[<-List.sum_append,<-List.map_append,Kbe]
theorem Ha{K E:Nat}:∀(n:Nat)(l:List (List Tm)),l.length<=n->(∀p∈l,PB K E p)->PB (l.length*K) E (cy l)/\(cy l).length<=sI l:=by
 intro n;induction n with
 |zero=>intro l hl _;have:l=[]:=Kat.1 (by omega);subst this;rw[cy];exact⟨PB.nil _ _,by simp⟩
 | succ n ih=>
  intro l hl h
  match l,h with
  | [],_=>rw[cy];exact⟨PB.nil _ _,by simp⟩
  | [p],h=>rw[cy];exact⟨by simpa using h p (by simp),by simp[sI]⟩
  | p::q::r,h=>
   rw[zw (by simp)];generalize hL:p::q::r=L at *
   have hlen:2<=L.length:=by rw[<-hL];simp
   obtain⟨a1,a2⟩:=ih (L.take (L.length/2)) (by rw[Kay];omega) (fun x hx=>h x (Ka4 hx));obtain⟨b1,b2⟩:=ih (L.drop (L.length/2)) (by rw[KaY];omega) (fun x hx=>h x (Kbt hx));have hs:=O4 L (L.length/2);constructor
   ·have e:(L.take (L.length/2)).length*K+(L.drop (L.length/2)).length*K=L.length*K:=by rw[<-Nat.add_mul,Kay,KaY];congr 1;omega
    rw[<-e];exact DJ _ _ a1 b1
   ·have:=GM (cy (L.take (L.length/2))) (cy (L.drop (L.length/2)));omega
def Qw(p:List Tm)(t:Tm):List Tm:=p.filterMap fun x=>if x.1*t.1=0 then none else some (x.1*t.1,dk x.2 t.2)
theorem uY(p:List Tm)(t:Tm):(Qw p t).length<=p.length:=List.length_filterMap_le _ _
theorem tC{K L E F:Nat}{p:List Tm}{t:Tm}(hp:PB K E p)(ht:TB L F t):PB (K+L) (E+F) (Qw p t):=by
 intro x hx;simp only[Qw,Kb0]at hx;obtain⟨y,hy,h⟩:=hx;split at h
 ·cases h
 ·cases h;have g:=hp y hy;refine⟨?_,g.m.mul ht.m,zt _ _⟩;have:=vj y.1 t.1;have:=g.c;have:=ht.c;simp only;omega
def oV(p q:List Tm):List Tm:=cy (p.map (Qw q))
def Q8(p q:List Tm):List Tm:=if q.length<p.length then oV q p else oV p q
theorem Gv(p q:List Tm):sI (p.map (Qw q))<=p.length*q.length:=by
 unfold sI;induction p with
 |nil=>simp
 |cons t p ih=>have:=uY q t;simp only[Kbk,KcU,KaQ,KaD,Kcu];omega
theorem N2{K L E F:Nat}{p q:List Tm}(hp:PB K E p)(hq:PB L F q):PB (p.length*(K+L)) (E+F) (oV p q)/\(oV p q).length<=p.length*q.length:=by obtain⟨h1,h2⟩:=Ha (K:=K+L) (E:=E+F) _ (p.map (Qw q)) (Kae _) (fun x hx=>by obtain⟨t,ht,rfl⟩:=KaE.1 hx;exact(tC hq (hp t ht)).mono (by omega) (by omega));rw[KaV]at h1;exact⟨h1,KaO h2 (Gv p q)⟩
theorem Hb{K L E F:Nat}{p q:List Tm}(hp:PB K E p)(hq:PB L F q):PB (min p.length q.length*(K+L)) (E+F) (Q8 p q)/\(Q8 p q).length<=p.length*q.length:=by
 unfold Q8;split
 ·rename_i h;obtain⟨h1,h2⟩:=N2 hq hp;rw[KcQ (by omega),KbR K,KbR E,KaX p.length];exact⟨h1,h2⟩
 ·rename_i h;obtain⟨h1,h2⟩:=N2 hp hq;rw[KbP (by omega)];exact⟨h1,h2⟩
theorem zx(x y:Tm)(p q:List Tm):Qq (x::p) (y::q)=if 0<aX x.2 y.2 then x::Qq p (y::q)else if aX x.2 y.2<0 then y::Qq (x::p) q else if x.1+y.1=0 then Qq p q else(x.1+y.1,x.2)::Qq p q:=by obtain⟨c,m⟩:=x;obtain⟨d,l⟩:=y;rw[Qq]
theorem P7{p q:List Tm}{i k:Nat}(hi:i<p.length)(hk:k<q.length):Qq (p.drop i) (q.drop k)=if 0<aX p[i].2 q[k].2 then p[i]::Qq (p.drop (i+1)) (q.drop k)else if aX p[i].2 q[k].2<0 then q[k]::Qq (p.drop i) (q.drop (k+1))else if p[i].1+q[k].1=0 then Qq (p.drop (i+1)) (q.drop (k+1))else(p[i].1+q[k].1,p[i].2)::Qq (p.drop (i+1)) (q.drop (k+1)):=by rw[Kau hi,Kau hk,zx]
theorem Ea(a b:List Int):jO 0 a b=aX a b:=by simp[jO]
theorem Hc{a b:List Int}(h1:¬0<aX a b)(h2:¬aX a b<0)(ha:a.getLast? ≠some 0)(hb:b.getLast? ≠some 0):a=b:=(Ia ha hb).1 (by omega)
theorem mQ:PV.le .aa (PV.ao []):=trivial
theorem Hl{p:List Tm}(h:p=[]):PV.le .aa (PV.ao p):=by subst h;trivial
section
variable {C : Ctx} {fr : Fr} {hp : HP} {w : World} {K R : Qi}
theorem aaR{e by_ ty d:Nat}{z:PV}{k k':IntKind}{Cc:Int}(h0:0<e)(hz:z.cells.length=e)(h2:0<=Cc)(h3:by_*Cc<=281474976710656)(h4:Cc<=9223372036854775807):
  nD e by_ ty z (.int k 0) (.int k' Cc) d fr hp K=K (ab (bE d fr) d (.ms d 0)) (Qk hp d ⟨e,ty,[],false⟩):=BR h0 hz (by omega) h2 h3 h4
end
end Go.FW
namespace Go.FW
open Go
def dS(p:List Tm)(a:Rat):List Tm:=if a=0 then []else Qw p (a,[])
def tS(p:List Tm):List Tm:=dS p (-1)
def bK(p q:List Tm):List Tm:=Qq p (tS q)
def cD(a:Rat):List Tm:=if a=0 then []else [(a,[])]
def sJ(v:Nat):List Int:=List.replicate v 0++[1]
def Qx(v:Int):List Tm:=if v<0∨64<=v then []else [(1,sJ v.toNat)]
theorem TB.num{a:Rat}{K E:Nat}(h:rs a+1<=K):TB K E (a,[]):=⟨h,⟨by simp,by simp,by simp⟩,by simp⟩
theorem P8{p:List Tm}{a:Rat}{K E L:Nat}(hp:PB K E p)(ha:rs a+1<=L):PB (K+L) E (dS p a):=by
 unfold dS;split
 ·exact PB.nil _ _
 ·exact(tC (F:=0) hp (TB.num ha)).mono (by omega) (by omega)
theorem NJ(p:List Tm)(a:Rat):(dS p a).length<=p.length:=by
 unfold dS;split
 ·simp
 ·exact uY _ _
theorem BU:rs (-1)<=1:=by have:rs (-1)=max (nl 1) (nl 1):=rfl;rw[this,oQ];omega
theorem pV:rs 1<=1:=by have:rs 1=max (nl 1) (nl 1):=rfl;rw[this,oQ];omega
theorem Ks:rs 0<=1:=by have:rs 0=max (nl 0) (nl 1):=rfl;rw[this,oQ,DD];omega
theorem ade{p:List Tm}{K E:Nat}(hp:PB K E p):PB (K+2) E (tS p):=P8 hp (by have:=BU;omega)
def mW(s t:Tm):Int:=if aX s.2 t.2≠0 then aX s.2 t.2 else nZ s.1 t.1
def iM:List Tm->List Tm->Int
 | [],[]=>0
 | [],_::_=> -1
 |_::_,[]=>1
 |s::p,t::q=>if mW s t≠0 then mW s t else iM p q
theorem adf{s t:Tm}(hs:s.2.getLast? ≠some 0)(ht:t.2.getLast? ≠some 0):mW s t=0↔s=t:=by
 unfold mW;constructor
 ·intro h;split at h
  ·omega
  ·rename_i h1;have e1:=(Ia hs ht).1 (Decidable.not_not.1 h1);exact Prod.ext (P5.1 h) e1
 ·rintro rfl;rw[if_neg (by simp[Hj]),P5.2 rfl]
theorem Ib:∀ {p q:List Tm},(∀t∈p,t.2.getLast? ≠some 0)->(∀t∈q,t.2.getLast? ≠some 0)->(iM p q=0↔p=q)
 | [],[],_,_=>by simp[iM]
 | [],_::_,_,_=>by simp[iM]
 |_::_,[],_,_=>by simp[iM]
 | s::p,t::q,hp,hq=>by
  rw[iM];have h1:=adf (hp s (by simp)) (hq t (by simp));have h2:=Ib (p:=p) (q:=q) (fun x hx=>hp x (by simp[hx])) (fun x hx=>hq x (by simp[hx]));split
  ·rename_i h;simp only[Kch];exact⟨fun h'=>absurd h' h,fun h'=>absurd (h1.2 h'.1) h⟩
  ·rename_i h;rw[h2,Kch,<-h1];exact⟨fun h'=>⟨Decidable.not_not.1 h,h'⟩,fun h'=>h'.2⟩
theorem P9{p q:List Tm}{i:Nat}(hi:i<p.length)(hk:i<q.length):iM (p.drop i) (q.drop i)=if mW p[i] q[i]≠0 then mW p[i] q[i]else iM (p.drop (i+1)) (q.drop (i+1)):=by rw[Kau hi,Kau hk,iM]
theorem zH{q:List Tm}:iM [] q=if q.length=0 then 0 else -1:=by cases q<;>simp[iM]
theorem PB.last{K E:Nat}{p:List Tm}(h:PB K E p):∀t∈p,t.2.getLast? ≠some 0:=fun t ht=>(h t ht).l
def tT(p:List Tm):Int:=p.foldl (fun d t=>max d (jN t.2)) (-1)
theorem Ic{E:Nat}{a:List Int}(h:MB E a):0<=jN a/\jN a<=64*E:=by
 have key:∀(l:List Int),(∀x∈l,0<=x)->(∀x∈l,x<=E)->0<=l.sum/\l.sum<=l.length*E:=by
  intro l;induction l with
  |nil=>simp
  |cons x l ih=>
   intro h1 h2;obtain⟨a1,a2⟩:=ih (fun y hy=>h1 y (by simp[hy])) (fun y hy=>h2 y (by simp[hy]));have b1:=h1 x (by simp);have b2:=h2 x (by simp);rw[KcU,KaQ]
   push_cast
   rw[Int.add_mul];omega
 obtain⟨h1,h2⟩:=key a h.lo h.hi;refine⟨h1,Int.le_trans h2 (Int.mul_le_mul_of_nonneg_right ?_ (by omega))⟩;have:=h.len;omega
structure cm where
 n:Bool
 a:List Nat
 d:List Nat
 m:List Int
abbrev PV.qE(t:cm):PV:=.agg [.bool t.n,PV.nat t.a,PV.nat t.d,PV.mono t.m]
abbrev PV.kT(l:List cm):PV:=.sl 4 (l.map PV.qE)
def cm.q(t:cm):Rat:=rv t.n t.a t.d
def cm.tm(t:cm):Tm:=(t.q,t.m)
structure RB(k:Nat)(t:cm):Prop where
 r:Qj t.a/\Qj t.d/\t.a.length<=k/\t.d.length<=k
 l:t.m.length<2^40
def fQ(t:cm):Bool:=ku t.n t.a t.d&&(decide (t.q≠0)&&iV t.m)
def cK:List cm->Bool
 | []=>true
 | [t]=>fQ t
 |s::t::l=>fQ s&&(decide (0<aX s.m t.m)&&cK (t::l))
theorem Hw:∀(l:List cm),cK l=true↔(∀i (h:i<l.length),fQ l[i]=true)/\(∀i (h:i+1<l.length),0<aX l[i].m l[i+1].m)
 | []=>by simp[cK]
 | [t]=>by
  rw[cK];constructor
  ·intro h;exact⟨fun i hi=>by have:i=0:=(by simp at hi;omega);subst this;exact h,fun i hi=>by simp at hi⟩
  ·intro h;exact h.1 0 (by simp)
 | s::t::l=>by
  rw[cK,Kav,Kav,decide_eq_true_eq,Hw (t::l)];constructor
  ·rintro⟨h1,h2,h3,h4⟩;refine⟨fun i hi=>?_,fun i hi=>?_⟩
   ·cases i with
    |zero=>exact h1
    |succ i=>exact h3 i (by simpa using hi)
   ·cases i with
    |zero=>exact h2
    |succ i=>exact h4 i (by simpa using hi)
  ·rintro⟨h1,h2⟩;exact⟨h1 0 (by simp),h2 0 (by simp),fun i hi=>h1 (i+1) (by simpa using hi),fun i hi=>h2 (i+1) (by simpa using hi)⟩
theorem Xz{s:cm}{l:List cm}(h:cK (s::l)=true):fQ s=true/\cK l=true:=by
 cases l with
 |nil=>exact⟨h,rfl⟩
 |cons t l=>rw[cK,Kav,Kav]at h;exact⟨h.1,h.2.2⟩
structure TV(t:Tm):Prop where
 c:t.1≠0
 m:iV t.2=true
def iH:List Tm->Prop
 | []=>True
 |s::p=>(∀t∈p,0<aX s.2 t.2)/\iH p
structure FR(p:List Tm):Prop where
 t:∀t∈p,TV t
 s:iH p
theorem aaS{t:cm}{k:Nat}(hb:RB k t)(h:fQ t=true):PV.qE t=PV.term t.tm/\TV t.tm:=by simp only[fQ,Kav,decide_eq_true_eq]at h;obtain⟨h1,h2,h3⟩:=h;obtain⟨e1,e2,e3⟩:=KT hb.r.1 hb.r.2.1 h1;refine⟨?_,h2,h3⟩;rw[PV.qE,PV.term,cm.tm,cm.q,<-e1,PV.num,PV.num,<-e2,<-e3]
theorem wQ{a b c:List Int}(h1:0<aX a b)(h2:0<aX b c):0<aX a c:=by have e1:=xh a b;have e2:=xh b c;have e3:=xh a c;have:=Wp (a:=c) (b:=b) (c:=a) (by omega) (by omega);omega
theorem XA{k:Nat}:∀ {l:List cm},(∀t∈l,RB k t)->cK l=true->PV.kT l=PV.ao (l.map cm.tm)/\FR (l.map cm.tm):=by
 intro l;induction l with
 |nil=>intro _ _;exact⟨rfl,⟨by simp,trivial⟩⟩
 | cons s l ih=>
  intro hb h;obtain⟨h1,h2⟩:=Xz h;obtain⟨e1,v1⟩:=aaS (hb s (by simp)) h1;obtain⟨e2,v2⟩:=ih (fun t ht=>hb t (by simp[ht])) h2;refine⟨?_,⟨fun t ht=>?_,?_,v2.s⟩⟩
  ·have e2':l.map PV.qE=(l.map cm.tm).map PV.term:=by injection e2
   show PV.sl 4 (PV.qE s::l.map PV.qE)=PV.sl 4 (PV.term s.tm::(l.map cm.tm).map PV.term);rw[e1,e2']
  ·simp only[Kbk,KaC]at ht;rcases ht with rfl|ht
   ·exact v1
   ·exact v2.t t ht
  ·cases l with
   |nil=>intro t ht;simp at ht
   |cons u l=>
    rw[cK,Kav,Kav,decide_eq_true_eq]at h;intro t ht;rw[Kbk]at ht v2;rcases KaC.1 ht with rfl|ht
    ·exact h.2.1
    ·exact wQ h.2.1 (v2.s.1 t ht)
theorem TV.MB{t:Tm}(h:TV t):MB 1048576 t.2:=MB.uQ h.m
theorem N3{a:List Int}(h:iV a=true):a.getLast? ≠some 0:=by simp only[iV,Kav,decide_eq_true_eq]at h;exact h.2.1
variable {C : Ctx} {ρ : Nat -> Option Nat} {fr : Fr} {hp : HP} {w : World} {K R : Qi}
theorem jr(s:Nat)(hd:(Qt hp (fr s)).aD=true):Wk fr hp (ab fr s (Qt hp (fr s))) (FW.Qy hp (fr s).refs):=by
 rintro C tmps w ⟨ρ,hs⟩;have hf:=hs.freeze (fr s).refs;refine⟨ρ,hf.sz,hf.ext,hf.eJ,hf.own,hf.inj,fun i=>?_⟩;unfold ab;split
 ·rename_i hi;subst hi;exact Qm.lJ (qL hs (hs.cE i) (fun β h=>h) hd)
 ·exact hf.cE i
def vt(W:List (Nat×Nat))(F:Fr)(I:Nat->Fr->HP->Prop)(n:Nat):Qi:=fun aA hp'=>∃J bI m,Wk aA hp' (bd W J F) bI/\m<n/\I m J bI
theorem aaT{W:List (Nat×Nat)}{F:Fr}{I:Nat->Fr->HP->Prop}{n:Nat}:KM (vt W F I n) (vt W F I n):=by rintro f f' hp hf ⟨J,bI,m,h1,h2,h3⟩;exact⟨J,bI,m,hf.wk.trans h1,h2,h3⟩
theorem Wr{sk:List It}{W:List (Nat×Nat)}{F:Fr}{I:Nat->Fr->HP->Prop}{n:Nat}(h:eM R sk):eM R (.el (vt W F I n)::sk):=⟨h.1,.el aaT h.2⟩
theorem zy{W:List (Nat×Nat)}{F J:Fr}{I:Nat->Fr->HP->Prop}{n:Nat}(m:Nat)(hl:m<n)(h:I m J hp):vt W F I n (bd W J F) hp:=⟨J,hp,m,Wk.refl _ _,hl,h⟩
theorem O5{W:List (Nat×Nat)}{F J:Fr}{I:Nat->Fr->HP->Prop}{n:Nat}(s m:Nat)(hs:lH W s=true)(hd:(Qt hp (J s)).aD=true)(hl:m<n)(h:I m (ab J s (Qt hp (J s))) (FW.Qy hp (J s).refs)):vt W F I n (bd W J F) hp:=by
 have e:bd W J F s=J s:=by rw[MP,if_pos hs]
 have hw:=jr (fr:=bd W J F) (hp:=hp) s (by rw[e];exact hd);rw[e,L2 hs]at hw;exact⟨_,_,m,hw,hl,h⟩
theorem Li{sk:List It}{x:SC}(aL:eM R sk)(W:List (Nat×Nat))(B:List Nat)(I:Nat->Fr->HP->Prop)(m0:Nat)(h0:I m0 fr hp)
  (h:∀m J hp,I m J hp->vc C R (.c x:: .el (vt W (Qz B fr) I m)::sk) (bd W J (Qz B fr)) hp):vc C R (.c (.loop x)::sk) fr hp:=by
 refine zn (fun m aA hp'=>∃J,aA=bd W J (Qz B fr)/\I m J hp') m0 (Df W B).wk ⟨fr,rfl,h0⟩ ?_;rintro m _ hp' ⟨J,rfl,hI⟩;refine su aL.1 _ _ _ _ _ _ (Kae _) (.c x (.el ?_ aL.2)) (bU.refl _) (h m J hp' hI);rintro f f' bI hf ⟨J2,ou,m2,e2,hl,h2⟩;exact HI hl (hf.wk.trans e2) ⟨J2,rfl,h2⟩
abbrev dg(a:List Nat)(i:Nat):Nat:=a.getD i 0
theorem vu{a:List Nat}(h:Qj a)(i:Nat):dg a i<65536:=by
 by_cases hi:i<a.length
 ·rw[dg,fU hi];exact eg h hi
 ·rw[dg,fV hi];omega
theorem w7(a:List Nat)(i:Nat):val (a.drop i)=dg a i+65536*val (a.drop (i+1)):=by
 by_cases hi:i<a.length
 ·rw[lO hi,dg,fU hi]
 ·rw[dg,fV hi,Kal (by omega),Kal (by omega)];rfl
theorem Hd(a:List Nat)(i:Nat):val a=val (a.take i)+65536^i*val (a.drop i):=by
 by_cases hi:i<=a.length
 ·exact pF a i hi
 ·rw[Kai (by omega),Kal (by omega)];simp[val]
theorem Uv{a:List Nat}(h:Qj a)(i:Nat):val (a.take i)<65536^i:=by
 by_cases hi:i<=a.length
 ·exact tw h i hi
 ·rw[Kai (by omega)];exact Kbh (oP h) (Kbu (by omega) (by omega))
theorem NB(a:List Nat)(i:Nat):val (a.take (i+1))=val (a.take i)+65536^i*dg a i:=by
 by_cases hi:i<a.length
 ·rw[yZ hi,dg,fU hi]
 ·rw[dg,fV hi,Kai (by omega),Kai (by omega)];simp
theorem N4{a b:List Nat}(ha:Qj a){i:Nat}(h:val (a.drop i)<val (b.drop i)):val a<val b:=by rw[Hd a i,Hd b i];have h1:=Uv ha i;have:65536^i*(val (a.drop i)+1)<=65536^i*val (b.drop i):=Ka9 _ h;rw[KaW]at this;omega
theorem Ma{l:List Nat}{j v:Nat}(h:j<l.length):val (l.set j v)+65536^j*l[j]=val l+65536^j*v:=by have e:l.set j v=l.take j++v::l.drop (j+1):=List.set_eq_take_append_cons_drop.trans (by rw[if_pos h]);have e2:=pF l j (by omega);rw[lO h]at e2;rw[e,mP,Kay,KbP (by omega),val,e2,KaW,KaW];omega
theorem Dr(l:List Nat)(x:Nat):val (l++[x])=val l+65536^l.length*x:=by rw[mP];simp[val]
theorem Ws{l:List Nat}{j:Nat}(h:val (l.drop j)=0):dg l j=0:=by have:=w7 l j;omega
theorem afE{bt:Bool}{n d:Nat}:bQ .rem bt (.int .u64 (n:Int)) (.int .u64 65536) d fr hp K=K (ab fr d (.int .u64 ((n%65536:Nat):Int))) hp:=by rw[show(65536:Int)=((65536:Nat):Int)from rfl,pL (by omega)]
theorem afF{bt:Bool}{n d:Nat}(h:n<18446744073709551616):bQ .quo bt (.int .u64 (n:Int)) (.int .u64 65536) d fr hp K=K (ab fr d (.int .u64 ((n/65536:Nat):Int))) hp:=by rw[show(65536:Int)=((65536:Nat):Int)from rfl,zU (by omega) h]
theorem adg{bt:Bool}{n d:Nat}:bQ .rem bt (.int .i64 (n:Int)) (.int .i64 65536) d fr hp K=K (ab fr d (.int .i64 ((n%65536:Nat):Int))) hp:=by rw[show(65536:Int)=((65536:Nat):Int)from rfl,pL (by omega)]
theorem adh{bt:Bool}{n d:Nat}(h:n<9223372036854775808):bQ .quo bt (.int .i64 (n:Int)) (.int .i64 65536) d fr hp K=K (ab fr d (.int .i64 ((n/65536:Nat):Int))) hp:=by rw[show(65536:Int)=((65536:Nat):Int)from rfl,DF (by omega) h]
theorem afG(n:Nat):(n:Int)*65536=((n*65536:Nat):Int):=by omega
end Go.FW
namespace Go.FW
theorem QA{P x y V ai c q r M S T:Nat}(h1:S+P*x=M+P*r)(h2:M+P*(c+ai*(y+65536*V))=T)(h3:65536*q+r=x+ai*y+c):S+P*65536*(q+ai*V)=T:=by
 have e:P*(65536*q+r)=P*(x+ai*y+c):=by rw[h3]
 have a1:P*(c+ai*(y+65536*V))=P*c+P*(ai*y)+65536*(P*(ai*V)):=by rw[KaW ai,KaW,KaW,KbE ai 65536,KbE P 65536];omega
 have a2:P*65536*(q+ai*V)=65536*(P*q)+65536*(P*(ai*V)):=by rw[KaX P,Kbb,KaW,KaW]
 have a3:P*(65536*q+r)=65536*(P*q)+P*r:=by rw[KaW,KbE]
 have a4:P*(x+ai*y+c)=P*x+P*(ai*y)+P*c:=by rw[KaW,KaW]
 omega
theorem QB{l:List Nat}{i j v:Nat}(h:i≠j):dg (l.set i v) j=dg l j:=by simp[dg,Kad,List.getElem?_set_ne h]
open Go
variable {C : Ctx} {ρ : Nat -> Option Nat} {fr : Fr} {hp : HP} {w : World} {K R : Qi}
theorem O6{x V d q:Nat}(hd:0<d)(h:q=V/d):(V%d*65536+x)/d+65536*q=(x+65536*V)/d/\(V%d*65536+x)%d=(x+65536*V)%d:=by
 subst h;have e:x+65536*V=(V%d*65536+x)+d*(65536*(V/d)):=by
  have:=Kbi V d
  calc x+65536*V=x+65536*(d*(V/d)+V%d):=by rw[this]
   _=_:=by rw[KaW,KbE];omega
 rw[e,Kce _ _ hd,Kcd];exact⟨rfl,rfl⟩
theorem adi(i e:Nat)(hi:fr i= .aa):Wk fr hp (ab fr i (.sl e [])) hp:=by
 rintro C tmps w ⟨ρ,hs⟩;refine⟨ρ,hs.sz,hs.ext,hs.eJ,hs.own,hs.inj,fun j=>?_⟩;unfold ab;split
 ·rename_i hj;subst hj;have:=hs.cE j;rw[hi]at this;rw[Qm.wK this];exact Qp.mE _ _ _ (KbL _)
 ·exact hs.cE j
theorem vf{sk:List It}{x:SC}(i e:Nat)(hi:fr i= .aa)(h:vc C R (.c (.loop x)::sk) (ab fr i (.sl e [])) hp):vc C R (.c (.loop x)::sk) fr hp:=by rw[wU]at h⊢;obtain⟨I,μ,⟨aK,ax,h1,iv⟩,h2⟩:=h;exact⟨I,μ,⟨aK,ax,(adi i e hi).trans h1,iv⟩,h2⟩
end Go.FW
namespace Go.FW
open Go Go.ChangeShapes Go.WideShapes
section
variable {H : Type} {enc : TypeId × Value -> H} {P : Program} {w : World} {base : Nat} {spare : Nat -> Bool} {held : Bool}
structure Ce(bR:DataW H->Nat):Prop where
 len:∀(elems spare:List (DataW H)),elems.length<=bR (.slice elems spare)
 sl:∀(elems spare:List (DataW H))(d:DataW H),d∈elems->bR d<=bR (.slice elems spare)
 ag:∀(parts:List (DataW H))(d:DataW H),d∈parts->bR d<=bR (.agg parts)
def iY(enc:TypeId×Value->H)(P:Program)(bR:DataW H->Nat)(N:Nat)(t:TypeId)(Q:List PV->Prop):Prop:=
 ∀(w:World)(base:Nat)(spare:Nat->Bool)(held:Bool)(fuel:Nat)(cs:List Value)(x:DataW H×List MemPlace),DataW.trod enc P w base spare held fuel t cs=some x->bR x.1<=N->
  ∃ps,Q ps/\ps.length=cs.length/\∀(i:Nat)(p:PV),ps[i]? =some p->Qp w ca p (cs.getD i undef)
variable {bR : DataW H -> Nat} {N : Nat}
theorem zI{w:World}{p:PV}{v:Value}(h:Qp w ca p v):∀(i:Nat)(q:PV),[p][i]? =some q->Qp w ca q ([v].getD i undef):=by
 intro i q hq
 match i,hq with
 |0,hq=>simp at hq;subst hq;exact h
 |i+1,hq=>simp at hq
theorem iY.mono{t:TypeId}{Q Q':List PV->Prop}(h:iY enc P bR N t Q)(hQ:∀ps,Q ps->Q' ps):iY enc P bR N t Q':=
 fun w base spare held fuel cs x hx hn=>let⟨ps,h1,h2,h3⟩:=h w base spare held fuel cs x hx hn;⟨ps,hQ ps h1,h2,h3⟩
theorem QC{t:TypeId}{k:IntKind}(ht:P.underlying t=some (.int k)):iY enc P bR N t fun ps=>∃n,ps=[.int k n]/\(Lit.int k n).wf=true:=by intro w base spare held fuel cs x hx _;obtain⟨n,rfl,rfl,hw⟩:=DataW.trod_int ht hx;exact⟨_,⟨n,rfl,hw⟩,rfl,zI (.int k n)⟩
theorem Wt{t:TypeId}(ht:P.underlying t=some .bool):iY enc P bR N t fun ps=>∃b,ps=[.bool b]:=by intro w base spare held fuel cs x hx _;obtain⟨b,rfl,rfl⟩:=DataW.trod_bool ht hx;exact⟨_,⟨b,rfl⟩,rfl,zI (.bool b)⟩
theorem XC{t:TypeId}(ht:P.underlying t=some (.int .u16)):iY enc P bR N t fun ps=>∃n:Nat,ps=[.int .u16 n]/\n<65536:=by refine(QC ht).mono ?_;rintro ps ⟨n,rfl,hw⟩;simp[Lit.wf,IntKind.min,IntKind.max,IntKind.signed,IntKind.bits]at hw;obtain⟨m,rfl⟩:=Int.eq_ofNat_of_zero_le hw.1;exact⟨m,rfl,by omega⟩
theorem w9{t:TypeId}(ht:P.underlying t=some (.int .i64)):iY enc P bR N t fun ps=>∃n:Int,ps=[.int .i64 n]/\ -9223372036854775808<=n/\n<=9223372036854775807:=by refine(QC ht).mono ?_;rintro ps ⟨n,rfl,hw⟩;simp[Lit.wf,IntKind.min,IntKind.max,IntKind.signed,IntKind.bits]at hw;exact⟨n,rfl,by omega⟩
theorem tx{α:Type}[Inhabited α]{f:α->PV}{G:α->Prop}{t e:TypeId}(hB:Ce bR)(ht:P.underlying t=some (.slice e))(rJ:0<P.cellsOf e)
  (he:iY enc P bR N e fun ps=>∃a:α,ps=(f a).cells/\G a):iY enc P bR N t fun ps=>∃l:List α,ps=[.sl (P.cellsOf e) (l.map f)]/\l.length<=N/\∀a∈l,G a:=by
 intro w base spare held fuel cs x hx hn;rcases Deep.open_slice ht hx with⟨rfl,rfl⟩|⟨a,len,cap,m,n,D,Pl,rfl,_,hl,hm,mq,rfl,aP⟩
 ·exact⟨_,⟨[],rfl,KbL _,fun _ h=>by cases h⟩,rfl,zI (.mE _ none 0 (KbL _))⟩
 have Jw:len<=m:=by rw[mq];split<;>omega
 obtain⟨A,hA⟩:=Deep.choose_lt (α:=α×List Value) (n:=len) (p:=fun i y=>w.cells? base (a.add (i*P.cellsOf e)) (P.cellsOf e)=some y.2/\G y.1/\(f y.1).cells.length=y.2.length/\∀(j:Nat)(p:PV),(f y.1).cells[j]? =some p->Qp w ca p (y.2.getD j undef)) (fun i hi=>by obtain⟨cs',h1,h2⟩:=aP i (by omega);have hd:D i∈(List.range len).map D:=Kci (Kco.2 hi);obtain⟨_,⟨b,rfl,hG⟩,h3,h4⟩:=he w base spare held n cs' _ h2 (KaO (hB.sl _ _ _ hd) hn);exact⟨(b,cs'),h1,hG,h3,h4⟩);have hlen:=hB.len ((List.range len).map D) ((List.range (m-len)).map fun j=>D (len+j));simp only[KaV,List.length_range]at hlen hn;refine⟨_,⟨(List.range len).map fun i=>(A i).1,rfl,by simp;omega,fun b hb=>?_⟩,rfl,zI ?_⟩
 ·obtain⟨i,hi,rfl⟩:=KaE.1 hb;exact(hA i (Kco.1 hi)).2.1
 ·rcases Nat.eq_zero_or_pos len with rfl|hp
  ·exact .mE _ _ _ hm
  have sp:a.spot=none:=by obtain⟨_,h2,h3⟩:=World.cells?_some (hA 0 hp).1;have h4:=h3 0 rJ;rw[Kag (by omega)]at h4;simpa[Addr.add]using World.cell?_spot h4
  obtain⟨b,off,spot⟩:=a;have sp':spot=none:=sp;subst sp';have qj:∀i,i<len->∀j,j<P.cellsOf e->w.cell? ⟨b,off+i*P.cellsOf e+j,none⟩=some ((A i).2.getD j undef):=fun i hi j hj=>by obtain⟨_,h2,h3⟩:=World.cells?_some (hA i hi).1;have h4:=h3 j hj;rw[Kag (by omega),add_plain,add_plain]at h4;rw[h4];simp[Kad,Kag (show j<(A i).2.length by omega)]
  have e1:((List.range len).map fun i=>(A i).1).map f=(List.range len).map fun i=>f (A i).1:=by simp
  have e2:((List.range len).map fun i=>f (A i).1).length=len:=by simp
  have get:∀(i:Nat)(x:PV),((List.range len).map fun i=>f (A i).1)[i]? =some x->i<len/\x=f (A i).1:=fun i x hx=>by obtain⟨hi,h⟩:=Kaf.1 hx;rw[e2]at hi;exact⟨hi,by simpa using h.symm⟩
  rw[e1];have:=Qp.sl (w:=w) (X:=ca) (P.cellsOf e) ((List.range len).map fun i=>f (A i).1) b off cap (fun i j=>(A i).2.getD j undef) (fun h=>h) (VO (qj 0 hp 0 rJ)) (by rw[e2];exact hl) hm
   (fun i x hx=>by obtain⟨hi,rfl⟩:=get i x hx;rw[(hA i hi).2.2.1];exact(World.cells?_some (hA i hi).1).2.1)
   (fun i hi j hj=>qj i (by rwa[e2]at hi) j hj)
   (fun i x hx j y hy=>by obtain⟨hi,rfl⟩:=get i x hx;exact(hA i hi).2.2.2 j y hy)
  rwa[e2]at this
theorem Gx{t:TypeId}{f0 f1:Field}{Q0 Q1:List PV->Prop}(hB:Ce bR)(ht:P.underlying t=some (.struct #[f0,f1]))(h0:f0.offset=0)(h1:f1.offset=P.cellsOf f0.type)(hc:P.cellsOf t=P.cellsOf f0.type+P.cellsOf f1.type)
  (r0:iY enc P bR N f0.type Q0) (r1:iY enc P bR N f1.type Q1):iY enc P bR N t fun ps=>∃p q,ps=p++q/\Q0 p/\Q1 q:=by
 intro w base spare held fuel cs x hx hn;obtain⟨y0,y1,n,rfl,hl,g0,g1⟩:=trod_struct2 ht hx;obtain⟨p,hp,bI,ou⟩:=r0 _ _ _ _ _ _ _ g0 (KaO (hB.ag _ _ (by simp)) hn);obtain⟨q,hq,pq,Fh⟩:=r1 _ _ _ _ _ _ _ g1 (KaO (hB.ag _ _ (by simp)) hn);rw[h0]at bI ou;rw[h1]at pq Fh;simp only[Kbw,Kay,KaY]at bI pq;have lp:p.length=P.cellsOf f0.type:=by omega
 have lq:q.length=P.cellsOf f1.type:=by omega
 refine⟨_,⟨p,q,rfl,hp,hq⟩,by rw[Kax];omega,fun i v hv=>?_⟩;by_cases hi:i<p.length
 ·rw[Kcc hi]at hv;have:=ou i v hv;rw[Kbw,Kad,Kcb,if_pos (by omega)]at this;rw[Kad];exact this
 ·rw[KbT (by omega)]at hv;have:=Fh _ v hv;have lC:i-p.length<q.length:=(Kaf.1 hv).1;rw[Kad,Kcb,if_pos (by omega),Ka2,show P.cellsOf f0.type+(i-p.length)=i by omega]at this;rw[Kad];exact this
theorem Mb{r:Reach}{b0:Nat}{t:TypeId}{v:Value}{d:DataW H}{ps:List MemPlace}{Q:List PV->Prop}(hr:iY enc P bR N t Q)(hd:DataW.Trod enc P w base spare held t v d ps)(hn:bR d<=N)
  (hv:v.cells= #[v]):∃p,Q [p]/\Q6 w ca p v:=by
 obtain⟨fuel,hf⟩:=hd;obtain⟨qs,h1,h2,h3⟩:=hr _ _ _ _ _ _ _ hf hn;rw[hv]at h2 h3
 match qs,h2 with
 | [p],_=>exact⟨p,h1,Q6.qD (by simpa using h3 0 p rfl)⟩
theorem XD{r:Reach}{b0:Nat}{t e:TypeId}{v:Value}{d:DataW H}{ps:List MemPlace}{Q:List PV->Prop}(ht:P.underlying t=some (.slice e))(dT:Value.okWide P w r b0 t v)(hr:iY enc P bR N t Q)(hd:DataW.Trod enc P w base spare held t v d ps)(hn:bR d<=N):
  ∃p,Q [p]/\Q6 w ca p v:=by
 obtain⟨a,len,cap,rfl⟩:=okWide_slice ht dT;exact Mb (r:=r) (b0:=b0) hr hd hn rfl
theorem adj{r:Reach}{b0:Nat}{t:TypeId}{k:IntKind}{v:Value}{d:DataW H}{ps:List MemPlace}{Q:List PV->Prop}(ht:P.underlying t=some (.int k))(dT:Value.okWide P w r b0 t v)(hr:iY enc P bR N t Q)(hd:DataW.Trod enc P w base spare held t v d ps)(hn:bR d<=N):
  ∃p,Q [p]/\Q6 w ca p v:=by
 obtain⟨n,rfl⟩:=okWide_int ht dT;exact Mb (r:=r) (b0:=b0) hr hd hn rfl
theorem Wu{r:Reach}{b0:Nat}{t:TypeId}{fs:Array Field}{v:Value}{d:DataW H}{ps:List MemPlace}{Q:List PV->Prop}(ht:P.underlying t=some (.struct fs))(dT:Value.okWide P w r b0 t v)(hr:iY enc P bR N t Q)(hd:DataW.Trod enc P w base spare held t v d ps)(hn:bR d<=N):
  ∃p,Q p/\Q6 w ca (.agg p) v:=by
 obtain⟨vs,rfl,_⟩:=okWide_struct ht dT;obtain⟨fuel,hf⟩:=hd;obtain⟨qs,h1,h2,h3⟩:=hr _ _ _ _ _ _ _ hf hn;refine⟨qs,h1,vs,rfl,by simpa[Value.cells]using h2.symm,fun i x hx=>?_⟩;have:=h3 i x hx;simpa[Value.cells,Kad,KaL]using this
theorem Ext.sameAt{W W':World}(h:Ext ca W W'){p:MemPlace}(hp:p.block<W.heap.size):W.sameAt W' p:=by
 cases p with
 |cell b off=>exact u5 (h.block b hp (fun h=>h))
 |map b=>exact h.block b hp (fun h=>h)
theorem Ext.keptBut{W W':World}(h:Ext ca W W')(may:MemPlace->Prop):W.keptBut W' may:=by
 refine⟨h.os,h.output,fun i hi=>?_⟩;rw[h.block i hi (fun h=>h)];cases hh:W.heap[i]? with
 |none=>rfl
 |some o=>cases o with
  |cells c t fr=>exact⟨rfl,rfl,rfl,fun _ _=>rfl⟩
  |map es clock=>exact Or.inr ⟨rfl,rfl⟩
  |_=>rfl
theorem Ext.frozen{W W':World}(h:Ext ca W W'){a:Addr}(ha:a.block<W.heap.size):W'.frozen? a=W.frozen? a:=by unfold World.frozen?;rw[h.block _ ha (fun h=>h)]
theorem Py(hl:laidOutB P=true)(hm:mapsRowed P=true)(eH:∀ {t e:TypeId},t<P.types.size->P.underlying t=some (.slice e)->0<P.cellsOf e){W W':World}(hx:Ext ca W W')(sp:Nat->Bool):
  ∀ {ts:List TypeId} {vs:List Value} {ds:List (DataW H)} {ps:List MemPlace},(∀t∈ts,t<P.types.size)->DataW.TrodAll enc P W 0 (fun _=>true) true ts vs ds ps->(∀p∈ps,sp p.block=true)->DataW.TrodAll enc P W' 0 sp true ts vs ds ps
 | [],_,_,_,_,h,_=>by obtain⟨rfl,rfl,rfl⟩:=trodAll_nil h;rfl
 |t::ts,_,_,_,lF,h,hs=>by obtain⟨v,vs,d,ds,p,q,rfl,rfl,rfl,⟨fuel,h1⟩,h2⟩:=trodAll_cons h;refine⟨p,q,⟨fuel,?_⟩,Py hl hm eH hx sp (fun t ht=>lF t (by simp[ht])) h2 (fun x aS=>hs x (by simp[aS])),rfl⟩;exact DataW.trod_stays (kids_rows hl hm) eH (fun h=>by cases h) (lF t (by simp)) h1 (fun x aS=>hx.sameAt (DataW.trod_lt _ _ _ _ h1 x aS)) (fun x aS=>hs x (by simp[aS]))
theorem Uw{f:FuncId}{fn:Func}{s:ChangeSpec}{ap fresh handsOn xC:Bool}{W:World}{args:Array Value}{ds gs:List (DataW H)}{before:List MemPlace}{aT:List PV}{tb:TypeId}
  (hW:DataW.Whole enc P fn.params.toList s.vars ap W args.toList ds gs before) (Br:s.vars=[]) (fb:fn.resultTypes= #[tb]) (Tf:P.underlying tb=some .bool)
  (hl:laidOutB P=true) (hm:mapsRowed P=true) (eH:∀ {t e:TypeId},t<P.types.size->P.underlying t=some (.slice e)->0<P.cellsOf e) (Ff:∀t∈fn.params.toList,t<P.types.size)
  (AU:s.fn H (ds++gs)={ results:=[.lit (.bool true)],args:=ds })
  (hF:Qd P f aT (· = .bool true)) (JS:args.size=aT.length) (fE:∀(i:Nat)(x:PV),aT[i]? =some x->Q6 W ca x (args.getD i undef)):
  Calls P f args W fun e W'=>∃v,e= .returned v/\s.post enc P fn ap fresh handsOn xC W args v W':=by
 refine(hF.2 W ca args (fun _ h=>h.elim) JS fE).mono ?_;rintro e W' ⟨v,r,rfl,hx,hr,rfl⟩;have hv:v= .bool true:=by cases hr;rfl
 subst hv;refine⟨_,rfl,?_⟩;have AK:=hW;obtain⟨p,q,hA,hV,rfl,hz,hn⟩:=hW;rw[Br]at hV;obtain⟨rfl,rfl⟩:=trodVars_none hV;simp only[Kar]at AK hz hn;have aq:∀x∈p,x.block<W.heap.size:=fun x aS=>by simpa using AK.lt x aS
 have RI:∀sp:Nat->Bool,(∀x∈p,sp x.block=true)->DataW.TrodAll enc P W' 0 sp true fn.params.toList args.toList ds p:=fun sp hs=>Py hl hm eH hx sp Ff hA hs;have hR:∀(b:Nat)(sp:Nat->Bool)(hd:Bool),DataW.TrodAll enc P W' b sp hd fn.resultTypes.toList ((Value.bool true).resultList fn.resultTypes.size) [.lit (.bool true)] []:=fun b sp hd=>by rw[fb];exact trodAll_mk1 ⟨1,by simp[DataW.trod,Value.cells,Tf]⟩
 have hold:∀x∈p,(fun b=>decide (b<W.heap.size)) x.block=true:=fun x aS=>by simpa using aq x aS
 refine⟨ds,[],p,[],p,[],AK,?_,?_,?_,hx.keptBut _,fun _=>⟨?_,?_⟩⟩
 ·rw[AU];exact hR _ _ _
 ·rw[AU];simpa using RI _ hold
 ·rw[AU,Br];rfl
 ·exact RowKit.ok_one fb rfl (RowKit.okWide_bool_mk Tf _)
 ·refine⟨[.lit (.bool true)]++ds,[],p,⟨[]++p,[],trodAll_append (RI _ (fun _ _=>rfl)) (hR _ _ _),?_,by simp,?_,?_⟩,?_⟩
  ·rw[Br];rfl
  ·intro b off hp;rw[hx.frozen (aq _ hp)];exact hz b off hp
  ·exact hn
  ·intro x aS _;exact aS
end
end Go.FW
namespace Go.FW
open Go
attribute [go_sem ↓] vcs api
attribute [go_sem] apj apk apl apm afY abh abi afZ af0 af1 af2 abj aaL aiS aik Wl aaM ac4 aj3 aj4 aj5 aj6 XV Wm List.drop_succ_cons List.drop_zero List.take_succ_cons List.take_zero List.headD_cons List.cons_append List.nil_append XU amQ amP aaN ac5 ac6 and_true List.length_cons List.length_nil afO afP afQ B0 acx W4 acW abd abe abf abg acX afe afJ aaW acZ ac0 aiL afK afL afM MD afN afa bs1 bs2 afc acT acU acV afd Nat.add_zero NR W5 PO Int.toNat_natCast Nat.zero_add Option.map_some Option.map_none aiO afV aiR true_and MP aa4 XP Qz0 iT Hi De ac1 Bool.and_true Bool.true_and Bool.and_false Bool.false_and decide_true decide_false List.contains_cons List.contains_nil Bool.or_false Bool.false_or Bool.or_true Bool.true_or List.any_cons List.any_nil Bool.false_eq_true cc.dst va aaf se Dc acu Bool.not_true Bool.not_false List.length_map List.map_cons List.map_nil aiQ Option.some.injEq gQ List.getElem?_cons_zero List.getElem?_cons_succ Option.getD_some
attribute [go_sem] afE afF adg adh afG aaR ain Vh af6 L'
theorem Dz0{p:Prop}(h:p:=by first|omega|rfl|(simp+decide only[go_sem]<;>rfl)|fail):p:=h
theorem Dz1{p A0:Prop}(x0:A0)(h:A0->p:=by intro x0;first|omega|rfl|(simp+decide only[go_sem,x0]<;>rfl)|fail):p:=h x0
theorem Dz2{p A0 A1:Prop}(x0:A0)(x1:A1)(h:A0->A1->p:=by intro x0 x1;first|omega|rfl|(simp+decide only[go_sem,x0,x1]<;>rfl)|fail):p:=h x0 x1
theorem Dz3{p A0 A1 A2:Prop}(x0:A0)(x1:A1)(x2:A2)(h:A0->A1->A2->p:=by intro x0 x1 x2;first|omega|rfl|(simp+decide only[go_sem,x0,x1,x2]<;>rfl)|fail):p:=h x0 x1 x2
theorem Dz4{p A0 A1 A2 A3:Prop}(x0:A0)(x1:A1)(x2:A2)(x3:A3)(h:A0->A1->A2->A3->p:=by intro x0 x1 x2 x3;first|omega|rfl|(simp+decide only[go_sem,x0,x1,x2,x3]<;>rfl)|fail):p:=h x0 x1 x2 x3
theorem Dz5{p A0 A1 A2 A3 A4:Prop}(x0:A0)(x1:A1)(x2:A2)(x3:A3)(x4:A4)(h:A0->A1->A2->A3->A4->p:=by intro x0 x1 x2 x3 x4;first|omega|rfl|(simp+decide only[go_sem,x0,x1,x2,x3,x4]<;>rfl)|fail):p:=h x0 x1 x2 x3 x4
theorem Dz6{p A0 A1 A2 A3 A4 A5:Prop}(x0:A0)(x1:A1)(x2:A2)(x3:A3)(x4:A4)(x5:A5)(h:A0->A1->A2->A3->A4->A5->p:=by intro x0 x1 x2 x3 x4 x5;first|omega|rfl|(simp+decide only[go_sem,x0,x1,x2,x3,x4,x5]<;>rfl)|fail):p:=h x0 x1 x2 x3 x4 x5
theorem Dz7{p A0 A1 A2 A3 A4 A5 A6:Prop}(x0:A0)(x1:A1)(x2:A2)(x3:A3)(x4:A4)(x5:A5)(x6:A6)(h:A0->A1->A2->A3->A4->A5->A6->p:=by intro x0 x1 x2 x3 x4 x5 x6;first|omega|rfl|(simp+decide only[go_sem,x0,x1,x2,x3,x4,x5,x6]<;>rfl)|fail):p:=h x0 x1 x2 x3 x4 x5 x6
theorem Dz8{p A0 A1 A2 A3 A4 A5 A6 A7:Prop}(x0:A0)(x1:A1)(x2:A2)(x3:A3)(x4:A4)(x5:A5)(x6:A6)(x7:A7)(h:A0->A1->A2->A3->A4->A5->A6->A7->p:=by intro x0 x1 x2 x3 x4 x5 x6 x7;first|omega|rfl|(simp+decide only[go_sem,x0,x1,x2,x3,x4,x5,x6,x7]<;>rfl)|fail):p:=h x0 x1 x2 x3 x4 x5 x6 x7
theorem Dz9{p A0 A1 A2 A3 A4 A5 A6 A7 A8:Prop}(x0:A0)(x1:A1)(x2:A2)(x3:A3)(x4:A4)(x5:A5)(x6:A6)(x7:A7)(x8:A8)(h:A0->A1->A2->A3->A4->A5->A6->A7->A8->p:=by intro x0 x1 x2 x3 x4 x5 x6 x7 x8;first|omega|rfl|(simp+decide only[go_sem,x0,x1,x2,x3,x4,x5,x6,x7,x8]<;>rfl)|fail):p:=h x0 x1 x2 x3 x4 x5 x6 x7 x8
theorem Dz10{p A0 A1 A2 A3 A4 A5 A6 A7 A8 A9:Prop}(x0:A0)(x1:A1)(x2:A2)(x3:A3)(x4:A4)(x5:A5)(x6:A6)(x7:A7)(x8:A8)(x9:A9)(h:A0->A1->A2->A3->A4->A5->A6->A7->A8->A9->p:=by intro x0 x1 x2 x3 x4 x5 x6 x7 x8 x9;first|omega|rfl|(simp+decide only[go_sem,x0,x1,x2,x3,x4,x5,x6,x7,x8,x9]<;>rfl)|fail):p:=h x0 x1 x2 x3 x4 x5 x6 x7 x8 x9
theorem Dz11{p A0 A1 A2 A3 A4 A5 A6 A7 A8 A9 er:Prop}(x0:A0)(x1:A1)(x2:A2)(x3:A3)(x4:A4)(x5:A5)(x6:A6)(x7:A7)(x8:A8)(x9:A9)(cq:er)(h:A0->A1->A2->A3->A4->A5->A6->A7->A8->A9->er->p:=by intro x0 x1 x2 x3 x4 x5 x6 x7 x8 x9 cq;first|omega|rfl|(simp+decide only[go_sem,x0,x1,x2,x3,x4,x5,x6,x7,x8,x9,cq]<;>rfl)|fail):p:=h x0 x1 x2 x3 x4 x5 x6 x7 x8 x9 cq
theorem Dz12{p A0 A1 A2 A3 A4 A5 A6 A7 A8 A9 er gG:Prop}(x0:A0)(x1:A1)(x2:A2)(x3:A3)(x4:A4)(x5:A5)(x6:A6)(x7:A7)(x8:A8)(x9:A9)(cq:er)(dH:gG)(h:A0->A1->A2->A3->A4->A5->A6->A7->A8->A9->er->gG->p:=by intro x0 x1 x2 x3 x4 x5 x6 x7 x8 x9 cq dH;first|omega|rfl|(simp+decide only[go_sem,x0,x1,x2,x3,x4,x5,x6,x7,x8,x9,cq,dH]<;>rfl)|fail):p:=h x0 x1 x2 x3 x4 x5 x6 x7 x8 x9 cq dH
theorem Dz13{p A0 A1 A2 A3 A4 A5 A6 A7 A8 A9 er gG kj:Prop}(x0:A0)(x1:A1)(x2:A2)(x3:A3)(x4:A4)(x5:A5)(x6:A6)(x7:A7)(x8:A8)(x9:A9)(cq:er)(dH:gG)(fF:kj)(h:A0->A1->A2->A3->A4->A5->A6->A7->A8->A9->er->gG->kj->p:=by intro x0 x1 x2 x3 x4 x5 x6 x7 x8 x9 cq dH fF;first|omega|rfl|(simp+decide only[go_sem,x0,x1,x2,x3,x4,x5,x6,x7,x8,x9,cq,dH,fF]<;>rfl)|fail):p:=h x0 x1 x2 x3 x4 x5 x6 x7 x8 x9 cq dH fF
theorem Dz14{p A0 A1 A2 A3 A4 A5 A6 A7 A8 A9 er gG kj tt:Prop}(x0:A0)(x1:A1)(x2:A2)(x3:A3)(x4:A4)(x5:A5)(x6:A6)(x7:A7)(x8:A8)(x9:A9)(cq:er)(dH:gG)(fF:kj)(oF:tt)(h:A0->A1->A2->A3->A4->A5->A6->A7->A8->A9->er->gG->kj->tt->p:=by intro x0 x1 x2 x3 x4 x5 x6 x7 x8 x9 cq dH fF oF;first|omega|rfl|(simp+decide only[go_sem,x0,x1,x2,x3,x4,x5,x6,x7,x8,x9,cq,dH,fF,oF]<;>rfl)|fail):p:=h x0 x1 x2 x3 x4 x5 x6 x7 x8 x9 cq dH fF oF
theorem Sz0{p q:Prop}(h:q)(e:p=q:=by conv=>lhs;simp+decide (disch:=try exact Dz0) only[go_sem]):p:=e▸h
theorem Tz0{p:Prop}(h:p:=by simp+decide (disch:=try exact Dz0) only[go_sem]):p:=h
theorem bc{p:Prop}(h:p:=by simp+decide (disch:=try exact Dz0) only[go_sem]<;>rfl):p:=h
theorem Sz1{p q A0:Prop}(x0:A0)(h:q)(e:A0->p=q:=by intro x0;conv=>lhs;simp+decide (disch:=try exact Dz1 @x0) only[go_sem,x0]):p:=(e x0)▸h
theorem Tz1{p A0:Prop}(x0:A0)(h:A0->p:=by intro x0;simp+decide (disch:=try exact Dz1 @x0) only[go_sem,x0]):p:=h x0
theorem lh{p A0:Prop}(x0:A0)(h:A0->p:=by intro x0;simp+decide (disch:=try exact Dz1 @x0) only[go_sem,x0]<;>rfl):p:=h x0
theorem Sz2{p q A0 A1:Prop}(x0:A0)(x1:A1)(h:q)(e:A0->A1->p=q:=by intro x0 x1;conv=>lhs;simp+decide (disch:=try exact Dz2 @x0 @x1) only[go_sem,x0,x1]):p:=(e x0 x1)▸h
theorem Tz2{p A0 A1:Prop}(x0:A0)(x1:A1)(h:A0->A1->p:=by intro x0 x1;simp+decide (disch:=try exact Dz2 @x0 @x1) only[go_sem,x0,x1]):p:=h x0 x1
theorem Sz3{p q A0 A1 A2:Prop}(x0:A0)(x1:A1)(x2:A2)(h:q)(e:A0->A1->A2->p=q:=by intro x0 x1 x2;conv=>lhs;simp+decide (disch:=try exact Dz3 @x0 @x1 @x2) only[go_sem,x0,x1,x2]):p:=(e x0 x1 x2)▸h
theorem Tz3{p A0 A1 A2:Prop}(x0:A0)(x1:A1)(x2:A2)(h:A0->A1->A2->p:=by intro x0 x1 x2;simp+decide (disch:=try exact Dz3 @x0 @x1 @x2) only[go_sem,x0,x1,x2]):p:=h x0 x1 x2
theorem Sz4{p q A0 A1 A2 A3:Prop}(x0:A0)(x1:A1)(x2:A2)(x3:A3)(h:q)(e:A0->A1->A2->A3->p=q:=by intro x0 x1 x2 x3;conv=>lhs;simp+decide (disch:=try exact Dz4 @x0 @x1 @x2 @x3) only[go_sem,x0,x1,x2,x3]):p:=(e x0 x1 x2 x3)▸h
theorem Tz4{p A0 A1 A2 A3:Prop}(x0:A0)(x1:A1)(x2:A2)(x3:A3)(h:A0->A1->A2->A3->p:=by intro x0 x1 x2 x3;simp+decide (disch:=try exact Dz4 @x0 @x1 @x2 @x3) only[go_sem,x0,x1,x2,x3]):p:=h x0 x1 x2 x3
theorem Sz5{p q A0 A1 A2 A3 A4:Prop}(x0:A0)(x1:A1)(x2:A2)(x3:A3)(x4:A4)(h:q)(e:A0->A1->A2->A3->A4->p=q:=by intro x0 x1 x2 x3 x4;conv=>lhs;simp+decide (disch:=try exact Dz5 @x0 @x1 @x2 @x3 @x4) only[go_sem,x0,x1,x2,x3,x4]):p:=(e x0 x1 x2 x3 x4)▸h
theorem Tz5{p A0 A1 A2 A3 A4:Prop}(x0:A0)(x1:A1)(x2:A2)(x3:A3)(x4:A4)(h:A0->A1->A2->A3->A4->p:=by intro x0 x1 x2 x3 x4;simp+decide (disch:=try exact Dz5 @x0 @x1 @x2 @x3 @x4) only[go_sem,x0,x1,x2,x3,x4]):p:=h x0 x1 x2 x3 x4
theorem Sz6{p q A0 A1 A2 A3 A4 A5:Prop}(x0:A0)(x1:A1)(x2:A2)(x3:A3)(x4:A4)(x5:A5)(h:q)(e:A0->A1->A2->A3->A4->A5->p=q:=by intro x0 x1 x2 x3 x4 x5;conv=>lhs;simp+decide (disch:=try exact Dz6 @x0 @x1 @x2 @x3 @x4 @x5) only[go_sem,x0,x1,x2,x3,x4,x5]):p:=(e x0 x1 x2 x3 x4 x5)▸h
theorem Sz7{p q A0 A1 A2 A3 A4 A5 A6:Prop}(x0:A0)(x1:A1)(x2:A2)(x3:A3)(x4:A4)(x5:A5)(x6:A6)(h:q)(e:A0->A1->A2->A3->A4->A5->A6->p=q:=by intro x0 x1 x2 x3 x4 x5 x6;conv=>lhs;simp+decide (disch:=try exact Dz7 @x0 @x1 @x2 @x3 @x4 @x5 @x6) only[go_sem,x0,x1,x2,x3,x4,x5,x6]):p:=(e x0 x1 x2 x3 x4 x5 x6)▸h
theorem Tz7{p A0 A1 A2 A3 A4 A5 A6:Prop}(x0:A0)(x1:A1)(x2:A2)(x3:A3)(x4:A4)(x5:A5)(x6:A6)(h:A0->A1->A2->A3->A4->A5->A6->p:=by intro x0 x1 x2 x3 x4 x5 x6;simp+decide (disch:=try exact Dz7 @x0 @x1 @x2 @x3 @x4 @x5 @x6) only[go_sem,x0,x1,x2,x3,x4,x5,x6]):p:=h x0 x1 x2 x3 x4 x5 x6
theorem Sz8{p q A0 A1 A2 A3 A4 A5 A6 A7:Prop}(x0:A0)(x1:A1)(x2:A2)(x3:A3)(x4:A4)(x5:A5)(x6:A6)(x7:A7)(h:q)(e:A0->A1->A2->A3->A4->A5->A6->A7->p=q:=by intro x0 x1 x2 x3 x4 x5 x6 x7;conv=>lhs;simp+decide (disch:=try exact Dz8 @x0 @x1 @x2 @x3 @x4 @x5 @x6 @x7) only[go_sem,x0,x1,x2,x3,x4,x5,x6,x7]):p:=(e x0 x1 x2 x3 x4 x5 x6 x7)▸h
theorem Sz9{p q A0 A1 A2 A3 A4 A5 A6 A7 A8:Prop}(x0:A0)(x1:A1)(x2:A2)(x3:A3)(x4:A4)(x5:A5)(x6:A6)(x7:A7)(x8:A8)(h:q)(e:A0->A1->A2->A3->A4->A5->A6->A7->A8->p=q:=by intro x0 x1 x2 x3 x4 x5 x6 x7 x8;conv=>lhs;simp+decide (disch:=try exact Dz9 @x0 @x1 @x2 @x3 @x4 @x5 @x6 @x7 @x8) only[go_sem,x0,x1,x2,x3,x4,x5,x6,x7,x8]):p:=(e x0 x1 x2 x3 x4 x5 x6 x7 x8)▸h
theorem yS{p q A0 A1 A2 A3 A4 A5 A6 A7 A8 A9:Prop}(x0:A0)(x1:A1)(x2:A2)(x3:A3)(x4:A4)(x5:A5)(x6:A6)(x7:A7)(x8:A8)(x9:A9)(h:q)(e:A0->A1->A2->A3->A4->A5->A6->A7->A8->A9->p=q:=by intro x0 x1 x2 x3 x4 x5 x6 x7 x8 x9;conv=>lhs;simp+decide (disch:=try exact Dz10 @x0 @x1 @x2 @x3 @x4 @x5 @x6 @x7 @x8 @x9) only[go_sem,x0,x1,x2,x3,x4,x5,x6,x7,x8,x9]):p:=(e x0 x1 x2 x3 x4 x5 x6 x7 x8 x9)▸h
theorem Tz10{p A0 A1 A2 A3 A4 A5 A6 A7 A8 A9:Prop}(x0:A0)(x1:A1)(x2:A2)(x3:A3)(x4:A4)(x5:A5)(x6:A6)(x7:A7)(x8:A8)(x9:A9)(h:A0->A1->A2->A3->A4->A5->A6->A7->A8->A9->p:=by intro x0 x1 x2 x3 x4 x5 x6 x7 x8 x9;simp+decide (disch:=try exact Dz10 @x0 @x1 @x2 @x3 @x4 @x5 @x6 @x7 @x8 @x9) only[go_sem,x0,x1,x2,x3,x4,x5,x6,x7,x8,x9]):p:=h x0 x1 x2 x3 x4 x5 x6 x7 x8 x9
theorem B9{p q A0 A1 A2 A3 A4 A5 A6 A7 A8 A9 er:Prop}(x0:A0)(x1:A1)(x2:A2)(x3:A3)(x4:A4)(x5:A5)(x6:A6)(x7:A7)(x8:A8)(x9:A9)(cq:er)(h:q)(e:A0->A1->A2->A3->A4->A5->A6->A7->A8->A9->er->p=q:=by intro x0 x1 x2 x3 x4 x5 x6 x7 x8 x9 cq;conv=>lhs;simp+decide (disch:=try exact Dz11 @x0 @x1 @x2 @x3 @x4 @x5 @x6 @x7 @x8 @x9 @cq) only[go_sem,x0,x1,x2,x3,x4,x5,x6,x7,x8,x9,cq]):p:=(e x0 x1 x2 x3 x4 x5 x6 x7 x8 x9 cq)▸h
theorem Tz11{p A0 A1 A2 A3 A4 A5 A6 A7 A8 A9 er:Prop}(x0:A0)(x1:A1)(x2:A2)(x3:A3)(x4:A4)(x5:A5)(x6:A6)(x7:A7)(x8:A8)(x9:A9)(cq:er)(h:A0->A1->A2->A3->A4->A5->A6->A7->A8->A9->er->p:=by intro x0 x1 x2 x3 x4 x5 x6 x7 x8 x9 cq;simp+decide (disch:=try exact Dz11 @x0 @x1 @x2 @x3 @x4 @x5 @x6 @x7 @x8 @x9 @cq) only[go_sem,x0,x1,x2,x3,x4,x5,x6,x7,x8,x9,cq]):p:=h x0 x1 x2 x3 x4 x5 x6 x7 x8 x9 cq
theorem vw{p q A0 A1 A2 A3 A4 A5 A6 A7 A8 A9 er gG:Prop}(x0:A0)(x1:A1)(x2:A2)(x3:A3)(x4:A4)(x5:A5)(x6:A6)(x7:A7)(x8:A8)(x9:A9)(cq:er)(dH:gG)(h:q)(e:A0->A1->A2->A3->A4->A5->A6->A7->A8->A9->er->gG->p=q:=by intro x0 x1 x2 x3 x4 x5 x6 x7 x8 x9 cq dH;conv=>lhs;simp+decide (disch:=try exact Dz12 @x0 @x1 @x2 @x3 @x4 @x5 @x6 @x7 @x8 @x9 @cq @dH) only[go_sem,x0,x1,x2,x3,x4,x5,x6,x7,x8,x9,cq,dH]):p:=(e x0 x1 x2 x3 x4 x5 x6 x7 x8 x9 cq dH)▸h
theorem Sz13{p q A0 A1 A2 A3 A4 A5 A6 A7 A8 A9 er gG kj:Prop}(x0:A0)(x1:A1)(x2:A2)(x3:A3)(x4:A4)(x5:A5)(x6:A6)(x7:A7)(x8:A8)(x9:A9)(cq:er)(dH:gG)(fF:kj)(h:q)(e:A0->A1->A2->A3->A4->A5->A6->A7->A8->A9->er->gG->kj->p=q:=by intro x0 x1 x2 x3 x4 x5 x6 x7 x8 x9 cq dH fF;conv=>lhs;simp+decide (disch:=try exact Dz13 @x0 @x1 @x2 @x3 @x4 @x5 @x6 @x7 @x8 @x9 @cq @dH @fF) only[go_sem,x0,x1,x2,x3,x4,x5,x6,x7,x8,x9,cq,dH,fF]):p:=(e x0 x1 x2 x3 x4 x5 x6 x7 x8 x9 cq dH fF)▸h
theorem Tz13{p A0 A1 A2 A3 A4 A5 A6 A7 A8 A9 er gG kj:Prop}(x0:A0)(x1:A1)(x2:A2)(x3:A3)(x4:A4)(x5:A5)(x6:A6)(x7:A7)(x8:A8)(x9:A9)(cq:er)(dH:gG)(fF:kj)(h:A0->A1->A2->A3->A4->A5->A6->A7->A8->A9->er->gG->kj->p:=by intro x0 x1 x2 x3 x4 x5 x6 x7 x8 x9 cq dH fF;simp+decide (disch:=try exact Dz13 @x0 @x1 @x2 @x3 @x4 @x5 @x6 @x7 @x8 @x9 @cq @dH @fF) only[go_sem,x0,x1,x2,x3,x4,x5,x6,x7,x8,x9,cq,dH,fF]):p:=h x0 x1 x2 x3 x4 x5 x6 x7 x8 x9 cq dH fF
theorem Sz14{p q A0 A1 A2 A3 A4 A5 A6 A7 A8 A9 er gG kj tt:Prop}(x0:A0)(x1:A1)(x2:A2)(x3:A3)(x4:A4)(x5:A5)(x6:A6)(x7:A7)(x8:A8)(x9:A9)(cq:er)(dH:gG)(fF:kj)(oF:tt)(h:q)(e:A0->A1->A2->A3->A4->A5->A6->A7->A8->A9->er->gG->kj->tt->p=q:=by intro x0 x1 x2 x3 x4 x5 x6 x7 x8 x9 cq dH fF oF;conv=>lhs;simp+decide (disch:=try exact Dz14 @x0 @x1 @x2 @x3 @x4 @x5 @x6 @x7 @x8 @x9 @cq @dH @fF @oF) only[go_sem,x0,x1,x2,x3,x4,x5,x6,x7,x8,x9,cq,dH,fF,oF]):p:=(e x0 x1 x2 x3 x4 x5 x6 x7 x8 x9 cq dH fF oF)▸h
theorem Tz14{p A0 A1 A2 A3 A4 A5 A6 A7 A8 A9 er gG kj tt:Prop}(x0:A0)(x1:A1)(x2:A2)(x3:A3)(x4:A4)(x5:A5)(x6:A6)(x7:A7)(x8:A8)(x9:A9)(cq:er)(dH:gG)(fF:kj)(oF:tt)(h:A0->A1->A2->A3->A4->A5->A6->A7->A8->A9->er->gG->kj->tt->p:=by intro x0 x1 x2 x3 x4 x5 x6 x7 x8 x9 cq dH fF oF;simp+decide (disch:=try exact Dz14 @x0 @x1 @x2 @x3 @x4 @x5 @x6 @x7 @x8 @x9 @cq @dH @fF @oF) only[go_sem,x0,x1,x2,x3,x4,x5,x6,x7,x8,x9,cq,dH,fF,oF]):p:=h x0 x1 x2 x3 x4 x5 x6 x7 x8 x9 cq dH fF oF
theorem Ez0{p:Prop}(h:p:=by first|omega|rfl|(simp+decide only[go_sem,ia,KaK,KaR,KaN,KaP,Kar]<;>rfl)|fail):p:=h
theorem Ez1{p A0:Prop}(x0:A0)(h:A0->p:=by intro x0;first|omega|rfl|(simp+decide only[go_sem,ia,KaK,KaR,KaN,KaP,Kar,x0]<;>rfl)|fail):p:=h x0
theorem Ez2{p A0 A1:Prop}(x0:A0)(x1:A1)(h:A0->A1->p:=by intro x0 x1;first|omega|rfl|(simp+decide only[go_sem,ia,KaK,KaR,KaN,KaP,Kar,x0,x1]<;>rfl)|fail):p:=h x0 x1
theorem Ez3{p A0 A1 A2:Prop}(x0:A0)(x1:A1)(x2:A2)(h:A0->A1->A2->p:=by intro x0 x1 x2;first|omega|rfl|(simp+decide only[go_sem,ia,KaK,KaR,KaN,KaP,Kar,x0,x1,x2]<;>rfl)|fail):p:=h x0 x1 x2
theorem Ez4{p A0 A1 A2 A3:Prop}(x0:A0)(x1:A1)(x2:A2)(x3:A3)(h:A0->A1->A2->A3->p:=by intro x0 x1 x2 x3;first|omega|rfl|(simp+decide only[go_sem,ia,KaK,KaR,KaN,KaP,Kar,x0,x1,x2,x3]<;>rfl)|fail):p:=h x0 x1 x2 x3
theorem bp{p q:Prop}(h:q)(e:p=q:=by conv=>lhs;simp+decide (disch:=try exact Ez0) only[go_sem,ia,KaK,KaR,KaN,KaP,Kar]):p:=e▸h
theorem gS{p:Prop}(h:p:=by simp+decide (disch:=try exact Ez0) only[go_sem,ia,KaK,KaR,KaN,KaP,Kar]):p:=h
theorem Rc{p q A0:Prop}(x0:A0)(h:q)(e:A0->p=q:=by intro x0;conv=>lhs;simp+decide (disch:=try exact Ez1 @x0) only[go_sem,ia,KaK,KaR,KaN,KaP,Kar,x0]):p:=(e x0)▸h
theorem xT{p q A0 A1:Prop}(x0:A0)(x1:A1)(h:q)(e:A0->A1->p=q:=by intro x0 x1;conv=>lhs;simp+decide (disch:=try exact Ez2 @x0 @x1) only[go_sem,ia,KaK,KaR,KaN,KaP,Kar,x0,x1]):p:=(e x0 x1)▸h
theorem Eh{p q A0 A1 A2:Prop}(x0:A0)(x1:A1)(x2:A2)(h:q)(e:A0->A1->A2->p=q:=by intro x0 x1 x2;conv=>lhs;simp+decide (disch:=try exact Ez3 @x0 @x1 @x2) only[go_sem,ia,KaK,KaR,KaN,KaP,Kar,x0,x1,x2]):p:=(e x0 x1 x2)▸h
theorem Vz4{p q A0 A1 A2 A3:Prop}(x0:A0)(x1:A1)(x2:A2)(x3:A3)(h:q)(e:A0->A1->A2->A3->p=q:=by intro x0 x1 x2 x3;conv=>lhs;simp+decide (disch:=try exact Ez4 @x0 @x1 @x2 @x3) only[go_sem,ia,KaK,KaR,KaN,KaP,Kar,x0,x1,x2,x3]):p:=(e x0 x1 x2 x3)▸h
variable {C : Ctx} {fr : Fr} {hp : HP} {R : Qi}
end Go.FW
namespace Go.FW
open Go
variable {C : Ctx} {ρ : Nat -> Option Nat} {fr aA : Fr} {hp : HP} {w : World} {K R : Qi}
theorem cx.known{p:PV}{v:Value}(h:cx C ρ hp w p v):∀γ∈p.dj,hp γ≠none:=by
 intro γ ah;cases p with
 |aw β o n=>simp[PV.dj]at ah;subst ah;obtain⟨_,hb,h1,_⟩:=h;simp[h1]
 |aG β o n=>simp[PV.dj]at ah;subst ah;obtain⟨_,hb,b,cap,h1,_⟩:=h;simp[h1]
 |np β o n=>cases h
 |_=>cases ah
theorem cF.known{p:PV}{v:Value}(h:cF C ρ hp w p v):(∀γ∈p.bw,hp γ≠none)/\∀γ∈p.dY,hp γ≠none:=by
 cases p with
 |mp β i o=>obtain⟨b,hb,h1,h2,_⟩:=h;simp[PV.bw,PV.dY,h2]
 |aw β o n=>obtain⟨hb,h1,_⟩:=h;simp[PV.bw,PV.dY,h1]
 |rb β o n=>obtain⟨b,u,_,_,_,_,hb,h1,_⟩:=h;simp[PV.bw,PV.dY,h1]
 |np γ i o=>obtain⟨_,b,hb,h1,h2,_⟩:=h;simp[PV.bw,PV.dY,h2]
 |aG γ o n=>obtain⟨_,hb,b,cap,h1,_⟩:=h;simp[PV.bw,PV.dY,h1]
 |_=>exact⟨(fun γ ah=>by cases ah),(fun γ ah=>by cases ah)⟩
theorem Qm.known{p:PV}{v:Value}(h:Qm C ρ hp w p v):(∀γ∈p.refs,hp γ≠none)/\∀γ∈p.aR,hp γ≠none:=by
 cases p with
 |mp β i o=>obtain⟨b,hb,h1,h2,_⟩:=h;simp[PV.refs,PV.aR,h2]
 |aw β o n=>obtain⟨hb,h1,_⟩:=h;simp[PV.refs,PV.aR,h1]
 |rb β o n=>obtain⟨b,u,_,_,_,_,hb,h1,_⟩:=h;simp[PV.refs,PV.aR,h1]
 |np γ i o=>obtain⟨_,b,hb,h1,h2,_⟩:=h;simp[PV.refs,PV.aR,h2]
 |aG γ o n=>obtain⟨_,hb,b,cap,h1,_⟩:=h;simp[PV.refs,PV.aR,h1]
 |aM cs=>obtain⟨vs,_,_,h2⟩:=h;refine⟨fun γ ah=>(by cases ah),fun γ ah=>?_⟩;obtain⟨x,hx,ah⟩:=Kaq.1 ah;obtain⟨i,hi⟩:=KaB hx;exact(h2 i x hi).known γ ah
 |dZ cs=>obtain⟨vs,_,_,h2⟩:=h;refine⟨fun γ ah=>(by cases ah),fun γ ah=>?_⟩;obtain⟨x,hx,ah⟩:=Kaq.1 ah;obtain⟨i,hi⟩:=KaB hx;exact(h2 i x hi).known γ ah
 |cP cs q=>obtain⟨vs,u,_,_,h2,_⟩:=h;refine⟨fun γ ah=>(by cases ah),fun γ ah=>?_⟩;obtain⟨x,hx,ah⟩:=Kaq.1 ah;obtain⟨i,hi⟩:=KaB hx;exact(h2 i x hi).known γ ah
 | aF β e ty xs=>
  obtain⟨_,_,b,hb,cur,cap,_,g2,_,_,_,_,_,_,_,_,de⟩:=h;refine⟨fun γ ah=>(by cases ah),fun γ ah=>?_⟩;rcases KaC.1 ah with rfl|ah
  ·simp[g2]
  ·obtain⟨x,hx,ah⟩:=Kaq.1 ah;obtain⟨y,hy,ah⟩:=Kaq.1 ah;obtain⟨i,hi⟩:=KaB hx;obtain⟨j,hj⟩:=KaB hy;exact(de i x hi j y hj).known γ ah
 | fn f first cap=>
  obtain⟨fv,cv,_,_,_,h3,h4⟩:=h;have g:∀(l:List PV)(u:Array Value),(∀(i:Nat)(x:PV),l[i]? =some x->cF C ρ hp w x (u.getD i undef))->(∀γ∈l.flatMap PV.bw,hp γ≠none)/\∀γ∈l.flatMap PV.dY,hp γ≠none:=by
   intro l u hl;refine⟨fun γ ah=>?_,fun γ ah=>?_⟩<;>
   ·obtain⟨x,hx,ah⟩:=Kaq.1 ah;obtain⟨i,hi⟩:=KaB hx
    first|exact(hl i x hi).known.1 γ ah|exact(hl i x hi).known.2 γ ah
  refine⟨fun γ ah=>?_,fun γ ah=>?_⟩
  ·rcases KaG.1 ah with ah|ah
   ·exact(g first fv h3).1 γ ah
   ·exact(g cap cv h4).1 γ ah
  ·rcases KaG.1 ah with ah|ah
   ·exact(g first fv h3).2 γ ah
   ·exact(g cap cv h4).2 γ ah
 |_=>exact⟨(fun γ ah=>by cases ah),(fun γ ah=>by cases ah)⟩
def ke(β:Nat):Bool:=decide (2000000<=β)
def lI(β:Nat):Bool:=ke β||decide (β<1000000)
theorem aio{β:Nat}(h:lI β=false):ke β=false:=by simp[lI]at h;exact h.1
def jP:PV->PV
 |.aF _ _ _ _| .aM _| .dZ _| .cP _ _=>.undef
 |p=>if p.refs.any ke||p.aR.any lI then .undef else p
def vz(F:Fr):Fr:=fun s=>jP (F s)
def tu(p:PV):Prop:=(∀β∈p.refs,ke β=false)/\(∀β∈p.aR,lI β=false)/\(∀γ e ty xs,p≠ .aF γ e ty xs)/\∀cs,p≠ .aM cs/\p≠ .dZ cs/\∀q,p≠ .cP cs q
theorem abv(p:PV):tu (jP p):=by
 have h0:tu .undef:=⟨(fun β h=>by cases h),(fun β h=>by cases h),(fun _ _ _ _ h=>by cases h),(fun _=>⟨(fun h=>by cases h),(fun h=>by cases h),fun _ h=>by cases h⟩)⟩
 unfold jP;split
 ·exact h0
 ·exact h0
 ·exact h0
 ·exact h0
 ·rename_i hn rG JB JC;split
  ·exact h0
  ·rename_i h;simp only[KbC,not_or,Bool.not_eq_true,Kcy]at h;exact⟨fun β aj=>by simpa using h.1 β aj,fun β aj=>by simpa using h.2 β aj,fun γ e ty xs=>hn γ e ty xs,fun cs=>⟨rG cs,JB cs,JC cs⟩⟩
theorem tu.kill{p:PV}(h:tu p){B:List Nat}:tu (if p.refs.any B.contains then .undef else p):=by
 split
 ·exact⟨(fun β h=>by cases h),(fun β h=>by cases h),(fun _ _ _ _ h=>by cases h),(fun _=>⟨(fun h=>by cases h),(fun h=>by cases h),fun _ h=>by cases h⟩)⟩
 ·exact h
theorem Pz{β:Nat}{p:PV}(h:∀γ∈p.refs,γ≠β):bx β p=p:=by unfold bx;rw[if_neg];intro hc;exact h β (by simpa using hc) rfl
theorem Ho{β:Nat}{p:PV}(h:∀γ∈p.dj,γ≠β):ij β p=p:=by
 cases p with
 |aw γ o n=>simp only[ij];rw[if_neg (h γ (by simp[PV.dj]))]
 |aG γ o n=>simp only[ij];rw[if_neg (h γ (by simp[PV.dj]))]
 |_=>rfl
theorem XE{β:Nat}{p:PV}(h:∀γ∈p.refs,γ≠β)(h2:∀γ∈p.aR,γ≠β)(h3:∀γ e ty xs,p≠ .aF γ e ty xs):cS β p=p:=by
 cases p with
 |aF γ e ty xs=>exact absurd rfl (h3 _ _ _ _)
 |aM cs=>
  simp only[cS];congr 1;conv=>rhs;rw[<-List.map_id cs]
  exact Ka1 fun x hx=>Ho fun γ ah=>h2 γ (Kaq.2 ⟨x,hx,ah⟩)
 |dZ cs=>
  simp only[cS];congr 1;conv=>rhs;rw[<-List.map_id cs]
  exact Ka1 fun x hx=>Ho fun γ ah=>h2 γ (Kaq.2 ⟨x,hx,ah⟩)
 |cP cs q=>
  simp only[cS];congr 1;conv=>rhs;rw[<-List.map_id cs]
  exact Ka1 fun x hx=>Ho fun γ ah=>h2 γ (Kaq.2 ⟨x,hx,ah⟩)
 |aG γ o n=>simp only[cS];rw[if_neg (h2 γ (by simp[PV.aR]))]
 |np γ i o=>simp only[cS];rw[if_neg (h2 γ (by simp[PV.aR]))]
 |fn f first cap=>simp only[cS];rw[if_neg,Pz h];intro hc;exact h2 β (by simpa[PV.aR]using hc) rfl
 |_=>exact Pz h
theorem MI{β γ:Nat}(h:2000000<=β)(h2:ke γ=false):γ≠β:=by simp[ke]at h2;omega
abbrev eP(B:List Nat)(F:Fr):Fr:=Qz B (vz F)
theorem zX(B:List Nat)(F:Fr)(s:Nat):tu (eP B F s):=(abv (F s)).kill
theorem PA{β:Nat}{B:List Nat}{F:Fr}(h:2000000<=β):ff β (eP B F)=eP B F:=by funext s;have hc:=zX B F s;exact XE (fun γ ah=>MI h (hc.1 γ ah)) (fun γ ah=>MI h (aio (hc.2.1 γ ah))) hc.2.2.1
theorem PC{γ:Nat}{B:List Nat}{F:Fr}:iJ γ (eP B F)=eP B F:=by
 funext s;have hc:=zX B F s;show iX γ (eP B F s)=_;generalize eP B F s=p at *
 cases p with
 |aF aZ e ty xs=>exact absurd rfl (hc.2.2.1 _ _ _ _)
 |_=>rfl
theorem X5{W:List (Nat×Nat)}{β:Nat}{J F:Fr}:ff β (bd W J F)=bd W (ff β J) (ff β F):=by funext s;unfold ff bd;split<;>rfl
theorem X6{W:List (Nat×Nat)}{β:Nat}{J F:Fr}:iJ β (bd W J F)=bd W (iJ β J) (iJ β F):=by funext s;unfold iJ bd;split<;>rfl
theorem X7{β d:Nat}{F:Fr}{v:PV}:ff β (ab F d v)=ab (ff β F) d (cS β v):=by funext s;unfold ff ab;split<;>rfl
theorem X8{β d:Nat}{F:Fr}{v:PV}:iJ β (ab F d v)=ab (iJ β F) d (iX β v):=by funext s;unfold iJ ab;split<;>rfl
theorem abw{β:Nat}{F:Fr}{s:Nat}:ff β F s=cS β (F s):=rfl
theorem abx{β:Nat}{F:Fr}{s:Nat}:iJ β F s=iX β (F s):=rfl
theorem adk(W:List (Nat×Nat))(B:List Nat):bU fr (bd W fr (eP B fr)):=fun s=>by
 unfold bd eP Qz;split
 ·exact .inl rfl
 ·split
  ·exact .inr rfl
  ·unfold vz jP;split
   ·exact .inr rfl
   ·exact .inr rfl
   ·exact .inr rfl
   ·exact .inr rfl
   ·split
    ·exact .inr rfl
    ·exact .inl rfl
theorem Ds{sk:List It}{x:SC}(aL:eM R sk)(W:List (Nat×Nat))(B:List Nat)(I:Nat->Fr->HP->Prop)(m0:Nat)(h0:I m0 fr hp)
  (h:∀m J hp,I m J hp->vc C R (.c x:: .el (vt W (eP B fr) I m)::sk) (bd W J (eP B fr)) hp):vc C R (.c (.loop x)::sk) fr hp:=by
 refine zn (fun m aA hp'=>∃J,aA=bd W J (eP B fr)/\I m J hp') m0 (adk W B).wk ⟨fr,rfl,h0⟩ ?_;rintro m _ hp' ⟨J,rfl,hI⟩;refine su aL.1 _ _ _ _ _ _ (Kae _) (.c x (.el ?_ aL.2)) (bU.refl _) (h m J hp' hI);rintro f f' bI hf ⟨J2,ou,m2,e2,hl,h2⟩;exact HI hl (hf.wk.trans e2) ⟨J2,rfl,h2⟩
def jJ(l:List (Nat×Nat)):List PV:=l.map fun x=>.aw x.1 0 x.2
def aip(d:Nat)(S:List Nat)(γ n:Nat)(x:PV)(fr:Fr):Fr:=fun s=>if s=γ then x else if S.contains s then .aG γ 0 n else bx d (fr s)
theorem Ux{tmps:Array Value}(h:Qr C ρ fr hp tmps w){β b:Nat}{hb:HB}{l:List Nat}(hB:aO β=false)(aj:hp β=some hb)(hl:β∈l)(bl:ρ β=some b):¬aE C ρ (Qy hp l) b:=by
 have aV:=(h.own β hb aj).cB;rw[bl]at aV;rintro(hx|⟨γ,hg,h1,h2,h3⟩)
 ·exact Ctx.Ek aV.1 (xu hB) hx
 ·obtain⟨lA,g1,_,_,_,_,g6⟩:=y4 h1;have:=h.inj γ β b (by simp[g1]) (by simp[aj]) h3 bl;subst this;exact g6 h2 hl
theorem et.snap{tmps:Array Value}(h:Qr C ρ fr hp tmps w){β o n:Nat}{v:Value}{l:List Nat}{hb:HB}(hr:et ρ hp w β o n v)(hB:aO β=false)(hl:β∈l)(aj:hp β=some hb):Qp w (aE C ρ (Qy hp l)) (.sl hb.e ((hb.xs.drop o).take n)) v:=by
 obtain⟨au,g1,g2,g3⟩:=hr;rw[aj]at g1;cases g1;rcases g3 with⟨g3,rfl,rfl,rfl⟩|⟨b,cap,g3,rfl,g5,g6⟩
 ·simp only[Kb5];exact .mE _ _ _ (KbL _)
 ·have bj:=h.own β hb aj;have aV:=bj.cB;rw[g3]at aV;obtain⟨_,aq,cur,ew,c1,c2,c3,c4,c5⟩:=aV;obtain⟨cur',ty',d1,d2⟩:=g5;rw[c1]at d1;cases d1;have iz:o+cap=ew:=by rw[c2]at d2;exact(KbA bj.jU d2).symm
  subst iz;have hlen:((hb.xs.drop o).take n).length=n:=by simp;omega
  have ez:∀(i:Nat)(x:PV),((hb.xs.drop o).take n)[i]? =some x->i<n/\hb.xs[o+i]? =some x:=fun i x hx=>by
   have hi:i<n:=by have:=(Kaf.1 hx).1;omega
   rw[KaF hi,Ka2]at hx;exact⟨hi,hx⟩
  have:=Qp.sl (w:=w) (X:=aE C ρ (Qy hp l)) hb.e ((hb.xs.drop o).take n) b (o*hb.e) cap (fun i j=>cur.getD ((o+i)*hb.e+j) undef) (Ux h hB aj hl g3) aq (by omega) (by omega)
   (fun i x hx=>(bj.len _ x (ez i x hx).2).1)
   (fun i hi j hj=>by rw[hlen]at hi;have:=mR (i:=o+i) (e:=hb.e) (o:=0) (j:=j) (n:=hb.e) (cap:=o+cap) (by omega) (by omega) hj;rw[KaM]at this;rw[show o*hb.e+i*hb.e+j=(o+i)*hb.e+j by rw[KaD]];exact kU c1 (by rw[c2];exact this))
   (fun i x hx j y hy=>(c5 _ x (ez i x hx).2 j y hy).freeze)
  rwa[hlen]at this
def sK(R:Qi):Qi:=fun fr hp=>∃aA hp',Wk fr hp aA hp'/\R aA hp'
theorem DK{hp':HP}(hw:Wk fr hp aA hp')(h:R aA hp'):sK R fr hp:=⟨aA,hp',hw,h⟩
theorem kZ(h:R fr hp):sK R fr hp:=⟨fr,hp,Wk.refl _ _,h⟩
theorem acJ:KM (sK R) (sK R):=by rintro f f' hp hf ⟨aA,hp',h1,h2⟩;exact⟨aA,hp',hf.wk.trans h1,h2⟩
theorem PD:eM (sK R) []:=⟨acJ,.nil⟩
theorem acK{d γ m i:Nat}{k:IntKind}(h:i<m)(he:(hp γ).map (·.e)=some 1):Q7 1 (.aG γ 0 m) (.int k (i:Int)) d fr hp K=K (ab fr d (.np γ i 0)) hp:=by
 have e:(0:Int)<=(i:Int):=by omega
 simp[Q7,e,h,he]
theorem acL{d γ o m:Nat}:oY (.aG γ o m) d fr hp K=K (ab fr d (.int .i64 m)) hp:=rfl
theorem acM{e by_ ty ty' d β γ n:Nat}{xs:List PV}{y:PV}{fz:Bool}(hb:hp β=some ⟨e,ty,xs,false⟩)(hy:hp γ=some ⟨e,ty',[y],fz⟩)(h0:0<e)(hn:n=xs.length)(h1:(n+1)*by_<=140737488355328)(h2:n+1<=9223372036854775807)(hB:2000000<=β):
  iL e by_ ty (.ms β n) (.ms γ 1) d fr hp K=K (ab (ff β fr) d (.ms β (n+1))) (Qk hp β ⟨e,ty,xs++[y],false⟩):=by
 subst hn;have b1:bC β=true:=by simp[bC];omega
 have b2:aO β=false:=by simp[aO];omega
 simp[iL,ju,hy,hb,h0,b1,b2,h1,h2]
theorem CF{α:Type}{f:α->PV}{y:α}{e by_ ty ty' d β γ n:Nat}{xs:List α}{fz:Bool}(hb:hp β=some ⟨e,ty,xs.map f,false⟩)(hy:hp γ=some ⟨e,ty',[f y],fz⟩)(h0:0<e)(hn:n=xs.length)(h1:(n+1)*by_<=140737488355328)(h2:n+1<=9223372036854775807)(hB:2000000<=β):
  iL e by_ ty (.ms β n) (.ms γ 1) d fr hp K=K (ab (ff β fr) d (.ms β (n+1))) (Qk hp β ⟨e,ty,(xs++[y]).map f,false⟩):=by
 rw[acM hb hy h0 (by simp[hn]) h1 h2 hB];simp
theorem X9{β γ o n:Nat}(h:γ≠β):cS β (.aG γ o n)= .aG γ o n:=by simp only[cS];rw[if_neg h]
theorem aby{β γ o n:Nat}(h:γ≠β):cS β (.np γ o n)= .np γ o n:=by simp only[cS];rw[if_neg h]
theorem aiq:
  (∀(β:Nat)(k:IntKind)(n:Int),cS β (.int k n)= .int k n)/\
  (∀(β:Nat)(b:Bool),cS β (.bool b)= .bool b)/\
  (∀(β e:Nat)(xs:List PV),cS β (.sl e xs)= .sl e xs)/\
  (∀(β:Nat)(cs:List PV),cS β (.agg cs)= .agg cs)/\
  (∀(β:Nat)(cs:List PV),cS β (.pt cs)= .pt cs)/\
  (∀(β:Nat),cS β .aa= .aa)/\
  (∀(β:Nat),cS β .undef= .undef)/\
  (∀(γ:Nat)(k:IntKind)(n:Int),iX γ (.int k n)= .int k n)/\
  (∀(γ:Nat)(b:Bool),iX γ (.bool b)= .bool b)/\
  (∀(γ e:Nat)(xs:List PV),iX γ (.sl e xs)= .sl e xs)/\
  (∀(γ:Nat)(cs:List PV),iX γ (.agg cs)= .agg cs)/\
  (∀(γ:Nat)(cs:List PV),iX γ (.pt cs)= .pt cs)/\
  (∀(γ:Nat),iX γ .aa= .aa)/\
  (∀(γ:Nat),iX γ .undef= .undef)/\
  (∀(γ β o n:Nat),iX γ (.aw β o n)= .aw β o n)/\
  (∀(γ β o n:Nat),iX γ (.mp β o n)= .mp β o n)/\
  (∀(γ β o n:Nat),iX γ (.rb β o n)= .rb β o n)/\
  (∀(γ β o n:Nat),iX γ (.aG β o n)= .aG β o n)/\
  (∀(γ β o n:Nat),iX γ (.np β o n)= .np β o n)/\
  (∀(β γ o n:Nat),bx β (.aG γ o n)= .aG γ o n)/\
  (∀(β γ o n:Nat),bx β (.np γ o n)= .np γ o n)/\
  (∀(β γ e ty:Nat)(xs:List PV),bx β (.aF γ e ty xs)= .aF γ e ty xs)/\
  (∀(β:Nat),bx β .undef= .undef)/\
  (∀(β:Nat)(cs:List PV),bx β (.pt cs)= .pt cs):=by
 refine⟨?_,?_,?_,?_,?_,?_,?_,?_,?_,?_,?_,?_,?_,?_,?_,?_,?_,?_,?_,?_,?_,?_,?_,?_⟩<;>intros<;>rfl
theorem abz(β γ o n:Nat):cS β (.aw γ o n)=if γ=β then .undef else .aw γ o n:=K1 β γ o n
theorem abA(β γ o n:Nat):cS β (.mp γ o n)=if γ=β then .undef else .mp γ o n:=K2 β γ o n
end Go.FW
namespace Go.FW
open Go
variable {C : Ctx} {ρ : Nat -> Option Nat} {fr aA : Fr} {hp : HP} {w : World} {K R : Qi}
theorem acN{F:Fr}{s:Nat}:vz F s=jP (F s):=rfl
theorem air:
  (∀(k:IntKind)(n:Int),jP (.int k n)= .int k n)/\
  (∀(b:Bool),jP (.bool b)= .bool b)/\
  (∀(e:Nat)(xs:List PV),jP (.sl e xs)= .sl e xs)/\
  (∀(cs:List PV),jP (.agg cs)= .agg cs)/\
  (∀(cs:List PV),jP (.pt cs)= .pt cs)/\
  (jP .aa= .aa)/\(jP .undef= .undef)/\
  (∀(β o n:Nat),jP (.aw β o n)=if ke β then .undef else .aw β o n)/\
  (∀(β o n:Nat),jP (.mp β o n)=if ke β then .undef else .mp β o n)/\
  (∀(β o n:Nat),jP (.rb β o n)=if ke β then .undef else .rb β o n)/\
  (∀(β o n:Nat),jP (.aG β o n)=if lI β then .undef else .aG β o n)/\
  (∀(β o n:Nat),jP (.np β o n)=if lI β then .undef else .np β o n):=by
 refine⟨fun _ _=>rfl,fun _=>rfl,fun _ _=>rfl,fun _=>rfl,fun _=>rfl,rfl,rfl,?_,?_,?_,?_,?_⟩<;>intros<;>simp[jP,PV.refs,PV.aR]
theorem afH{β:Nat}:lI β=(ke β||decide (β<1000000)):=rfl
theorem afI{β:Nat}:ke β=decide (2000000<=β):=rfl
theorem abB{d γ n:Nat}{S:List Nat}{x:PV}{s:Nat}:aip d S γ n x fr s=if s=γ then x else if S.contains s then .aG γ 0 n else bx d (fr s):=rfl
theorem acO{by_ ty d:Nat}{k k':IntKind}{n c:Nat}(h2:n<=c)(h3:by_*c<=281474976710656)(h4:c<=9223372036854775807):
  nD 1 by_ ty .aa (.int k (n:Int)) (.int k' (c:Int)) d fr hp K=K (ab (bE d fr) d (.ms d n)) (Qk hp d ⟨1,ty,List.replicate n .aa,false⟩):=by
 rw[BR (e:=1) (by omega) rfl (by omega) (by omega) (by omega) (by omega)];rfl
theorem agi{k c:Nat}(h:c<3000000):(3000000+k=c)=False:=by simp;omega
theorem acP{k c:Nat}(h:c<3000000):(c=3000000+k)=False:=by simp;omega
theorem agj{k j:Nat}:(3000000+k=3000000+j)=(k=j):=by simp
attribute [go_sem] agi acP agj acO abB X5 X6 X7 X8 abw abx PA PC aiq abz abA X9 aby acK acL acN air afH afI
end Go.FW
namespace Go.FW
open Go
variable {C C' : Ctx} {ρ ρ' : Nat -> Option Nat} {fr aA : Fr} {hp hp' : HP} {w : World} {K R : Qi}
theorem bT{sk:List It}{r:RT}{aK:Fr}{ax:HP}(hw:Wk fr hp aK ax)(h:vc C R (.o r::sk) aK ax):vc C R (.o (.wk r)::sk) fr hp:=by rw[DU];exact⟨aK,ax,hw,h⟩
def cX(σ:Nat->Nat):PV->PV
 |.mp β i o=>.mp (σ β) i o
 |.aw β o n=>.aw (σ β) o n
 |.rb β o n=>.rb (σ β) o n
 |.np β i o=>.np (σ β) i o
 |.aG β o n=>.aG (σ β) o n
 |p=>p
def cC(σ:Nat->Nat):PV->PV
 |.fn f a b=>.fn f (a.map (cX σ)) (b.map (cX σ))
 |.aM cs=>.aM (cs.map (cX σ))
 |.dZ cs=>.dZ (cs.map (cX σ))
 |.cP cs q=>.cP (cs.map (cX σ)) q
 |.aF γ e ty xs=>.aF (σ γ) e ty (xs.map fun x=>ft (x.aW.map (cX σ)))
 |p=>cX σ p
structure ud(σ:Nat->Nat)(ρ ρ':Nat->Option Nat)(hp hp':HP)(β:Nat):Prop where
 r:ρ' (σ β)=ρ β
 h:∀hb,hp β=some hb->∃dv,hp' (σ β)=some dv/\dv.e=hb.e/\dv.ty=hb.ty/\dv.xs=hb.xs
 b:bC β=true->bC (σ β)=true
theorem Qp.cX{X:Nat->Prop}{σ:Nat->Nat}{p:PV}{v:Value}(h:Qp w X p v):FW.cX σ p=p:=by cases h<;>rfl
theorem et.fR{σ:Nat->Nat}{β o n:Nat}{v:Value}(h:et ρ hp w β o n v)(hr:ud σ ρ ρ' hp hp' β):et ρ' hp' w (σ β) o n v:=by obtain⟨hb,h1,h2,h3⟩:=h;obtain⟨au,k1,k2,k3,k4⟩:=hr.h hb h1;refine⟨au,k1,by rw[k4];exact h2,?_⟩;rw[hr.r,k2];exact h3
theorem nV.fR{σ:Nat->Nat}{γ o n:Nat}{v:Value}(h:nV ρ hp w γ o n v)(hr:ud σ ρ ρ' hp hp' γ):nV ρ' hp' w (σ γ) o n v:=by obtain⟨h0,hb,b,cap,h1,h2,h3⟩:=h;obtain⟨au,k1,k2,k3,k4⟩:=hr.h hb h1;exact⟨hr.b h0,au,b,cap,k1,by rw[hr.r];exact h2,by rw[k2];exact h3⟩
theorem Qp.sub{X X':Nat->Prop}{p:PV}{v:Value}(h:Qp w X p v)(hX:∀b,X' b->X b):Qp w X' p v:=h.mono (fun _ _ _=>rfl) (fun b _ hn hx=>hn (hX b hx)) (Kae _)
theorem cx.fR{σ:Nat->Nat}{p:PV}{v:Value}(h:cx C ρ hp w p v)(hX:∀b,aE C' ρ' hp' b->aE C ρ hp b)(hr:∀β∈p.dj,ud σ ρ ρ' hp hp' β):cx C' ρ' hp' w (cX σ p) v:=by
 cases p with
 |undef=>trivial
 |aw β o n=>exact⟨(hr β (by simp[PV.dj])).b h.1,h.2.fR (hr β (by simp[PV.dj]))⟩
 |aG γ o n=>exact nV.fR h (hr γ (by simp[PV.dj]))
 |mp=>cases h
 |rb=>cases h
 |np=>cases h
 |_=>exact Qp.sub h hX
theorem cF.fR{σ:Nat->Nat}{p:PV}{v:Value}(h:cF C ρ hp w p v)(hX:∀b,aE C' ρ' hp' b->aE C ρ hp b)(hr:∀β∈p.bw++p.dY,ud σ ρ ρ' hp hp' β):cF C' ρ' hp' w (cX σ p) v:=by
 cases p with
 |mp β i o=>have hq:=hr β (by simp[PV.bw]);obtain⟨b,hb,h1,h2,h3⟩:=h;obtain⟨au,k1,k2,k3,k4⟩:=hq.h hb h2;exact⟨b,au,by rw[hq.r];exact h1,k1,by rw[k2];exact h3⟩
 |aw β o n=>exact et.fR h (hr β (by simp[PV.bw]))
 |rb β o n=>obtain⟨b,u,h1,h2,h3,h4,h5⟩:=h;exact⟨b,u,h1,h2,fun hx=>h3 (hX b hx),h4,h5.fR (hr β (by simp[PV.bw]))⟩
 |np γ i o=>have hq:=hr γ (by simp[PV.bw,PV.dY]);obtain⟨h0,b,hb,h1,h2,h3⟩:=h;obtain⟨au,k1,k2,k3,k4⟩:=hq.h hb h2;exact⟨hq.b h0,b,au,by rw[hq.r];exact h1,k1,by rw[k2];exact h3⟩
 |aG γ o n=>exact nV.fR h (hr γ (by simp[PV.bw,PV.dY]))
 |_=>exact Qp.sub h hX
theorem N5{cs:List PV}(h:∀c∈cs,(∀ds,c≠ .agg ds)/\∀ds,c≠ .aM ds):(ft cs).aW=cs:=by
 match cs,h with
 | [],_=>rfl
 | [c],h=>
  obtain⟨h1,h2⟩:=h c (by simp);cases c with
  |agg ds=>exact absurd rfl (h1 ds)
  |aM ds=>exact absurd rfl (h2 ds)
  |_=>rfl
 |c::d::cs,_=>simp only[ft,nQ];split<;>rfl
theorem cx.one{p:PV}{v:Value}(h:cx C ρ hp w p v):(∀ds,p≠ .agg ds)/\∀ds,p≠ .aM ds:=by refine⟨fun ds e=>?_,fun ds e=>?_⟩<;>subst e<;>cases h
theorem Qm.fR{σ:Nat->Nat}{p:PV}{v:Value}(h:Qm C ρ hp w p v)(hX:∀b,aE C' ρ' hp' b->aE C ρ hp b)(hr:∀β∈p.refs++p.aR,ud σ ρ ρ' hp hp' β):Qm C' ρ' hp' w (cC σ p) v:=by
 have hV:∀q u,Qp w (aE C ρ hp) q u->Qp w (aE C' ρ' hp') q u:=fun q u hq=>Qp.sub hq hX;cases p with
 |undef=>trivial
 |mp β i o=>exact cF.fR (w:=w) (p:=.mp β i o) h hX (by simpa[PV.refs,PV.aR,PV.bw,PV.dY]using hr)
 |aw β o n=>exact cF.fR (w:=w) (p:=.aw β o n) h hX (by simpa[PV.refs,PV.aR,PV.bw,PV.dY]using hr)
 |rb β o n=>exact cF.fR (w:=w) (p:=.rb β o n) h hX (by simpa[PV.refs,PV.aR,PV.bw,PV.dY]using hr)
 |np γ i o=>exact cF.fR (w:=w) (p:=.np γ i o) h hX (by simpa[PV.refs,PV.aR,PV.bw,PV.dY]using hr)
 |aG γ o n=>exact cF.fR (w:=w) (p:=.aG γ o n) h hX (by simpa[PV.refs,PV.aR,PV.bw,PV.dY]using hr)
 |aM cs=>obtain⟨vs,rfl,h1,h2⟩:=h;refine⟨vs,rfl,by simpa using h1,fun i x hi=>?_⟩;simp only[Kas,Kaa]at hi;obtain⟨y,hy,rfl⟩:=hi;exact(h2 i y hy).fR hX fun β aj=>hr β (Kbo _ (Kaq.2 ⟨y,Kaj hy,aj⟩))
 |dZ cs=>obtain⟨vs,rfl,h1,h2⟩:=h;refine⟨vs,rfl,by simpa using h1,fun i x hi=>?_⟩;simp only[Kas,Kaa]at hi;obtain⟨y,hy,rfl⟩:=hi;exact(h2 i y hy).fR hX fun β aj=>hr β (Kbo _ (Kaq.2 ⟨y,Kaj hy,aj⟩))
 |cP cs q=>obtain⟨vs,u,rfl,h1,h2,h3⟩:=h;refine⟨vs,u,rfl,by simpa using h1,fun i x hi=>?_,h3.mono (fun _ _ _=>rfl) (fun b _ hn hx=>hn (hX b hx)) (Kae _)⟩;simp only[Kas,Kaa]at hi;obtain⟨y,hy,rfl⟩:=hi;exact(h2 i y hy).fR hX fun β aj=>hr β (Kbo _ (Kaq.2 ⟨y,Kaj hy,aj⟩))
 | aF γ e ty xs=>
  obtain⟨h0,he,b,hb,cur,cap,h1,h2,h3,h4,h5,h6,h7,h8,h9,bh,de⟩:=h;have hq:=hr γ (by simp[PV.aR]);have key:∀(i:Nat)(x:PV),xs[i]? =some x->∀(j:Nat)(y:PV),x.aW[j]? =some y->cx C' ρ' hp' w (cX σ y) (cur.getD (i*e+j) undef):=fun i x hx j y hy=>
   (de i x hx j y hy).fR hX fun β aj=>hr β (Kbo _ (KaZ _ (Kaq.2 ⟨x,Kaj hx,Kaq.2 ⟨y,Kaj hy,aj⟩⟩)))
  have rH:∀(i:Nat)(x:PV),xs[i]? =some x->(ft (x.aW.map (cX σ))).aW=x.aW.map (cX σ):=fun i x hx=>by refine N5 fun c hc=>?_;obtain⟨y,hy,rfl⟩:=KaE.1 hc;obtain⟨j,hj⟩:=KaB hy;exact(key i x hx j y hj).one
  obtain⟨au,k1,k2,k3,k4⟩:=hq.h hb h2;refine⟨hq.b h0,he,b,au,cur,cap,by rw[hq.r];exact h1,k1,by rw[k4];exact h3,by rw[k2];exact h4,by rw[k3];exact h5,h6,h7,by simpa using h8,h9,fun i x hx=>?_,fun i x hx j y hy=>?_⟩
  ·simp only[Kas,Kaa]at hx;obtain⟨x0,bX,rfl⟩:=hx;rw[rH i x0 bX,KaV];exact bh i x0 bX
  ·simp only[Kas,Kaa]at hx;obtain⟨x0,bX,rfl⟩:=hx;rw[rH i x0 bX,Kas,Kaa]at hy;obtain⟨y0,cU,rfl⟩:=hy;exact key i x0 bX j y0 cU
 | fn f first cap=>
  obtain⟨fv,cv,rfl,h1,h2,h3,h4⟩:=h;have hm:∀(l:List PV)(x:PV),x∈l->∀β∈x.bw++x.dY,β∈l.flatMap PV.bw++l.flatMap PV.dY:=fun l x hx β aj=>by
   rcases KaG.1 aj with aj|aj
   ·exact Kb3 _ (Kaq.2 ⟨x,hx,aj⟩)
   ·exact Kbo _ (Kaq.2 ⟨x,hx,aj⟩)
  refine⟨fv,cv,rfl,by simpa using h1,by simpa using h2,fun i x hi=>?_,fun i x hi=>?_⟩
  ·simp only[Kas,Kaa]at hi;obtain⟨y,hy,rfl⟩:=hi;refine(h3 i y hy).fR hX fun β aj=>hr β ?_;have:=hm first y (Kaj hy) β aj
   simp only[PV.refs,PV.aR,KaG]at this⊢;rcases this with h|h
   ·exact .inl (.inl h)
   ·exact .inr (.inl h)
  ·simp only[Kas,Kaa]at hi;obtain⟨y,hy,rfl⟩:=hi;refine(h4 i y hy).fR hX fun β aj=>hr β ?_;have:=hm cap y (Kaj hy) β aj;simp only[PV.refs,PV.aR,KaG]at this⊢;rcases this with h|h
   ·exact .inl (.inr h)
   ·exact .inr (.inr h)
 |agg cs=>exact eD.move (p:=.agg cs) h hV
 |aI cs=>exact eD.move (p:=.aI cs) h hV
 |_=>exact hV _ _ h
theorem agk(σ τ:Nat->Nat)(h1:∀β hb,hp β=some hb->hp' (σ β)=some hb/\τ (σ β)=β)(h2:∀γ hb,hp' γ=some hb->hp (τ γ)=some hb/\σ (τ γ)=γ)
  (hB:∀β,hp β≠none->bC β=true->bC (σ β)=true) (hY:∀β,hp β≠none->aO (σ β)=aO β/\(aO β=true->σ β=β)) (hf:∀s,aA s=cC σ (fr s)∨aA s= .undef):Wk fr hp aA hp':=by
 rintro C tmps w ⟨ρ,hs⟩;obtain⟨ρ',bl⟩:∃f:Nat->Option Nat,f=fun γ=>if hp' γ=none then none else ρ (τ γ):=⟨_,rfl⟩
 have hr:∀β,hp β≠none->ud σ ρ ρ' hp hp' β:=fun β aj=>by obtain⟨hb,hq⟩:=Kbm.1 aj;obtain⟨a1,a2⟩:=h1 β hb hq;refine⟨?_,(fun hb hq=>⟨hb,(h1 β hb hq).1,rfl,rfl,rfl⟩),hB β aj⟩;rw[bl];simp only[];rw[if_neg (by rw[a1];simp),a2]
 have au:∀γ hb,hp' γ=some hb->ρ' γ=ρ (τ γ):=fun γ hb hq=>by rw[bl];simp only[];rw[if_neg (by rw[hq];simp)]
 have hX:∀b,aE C ρ' hp' b->aE C ρ hp b:=by
  rintro b (hx|⟨γ,hg,g1,g2,g3⟩)
  ·exact .inl hx
  ·rw[au γ hg g1]at g3;exact .inr ⟨τ γ,hg,(h2 γ hg g1).1,g2,g3⟩
 refine⟨ρ',hs.sz,hs.ext,hs.eJ,fun γ hb ah=>?_,fun γ δ b g1 g2 g3 g4=>?_,fun i=>?_⟩
 ·obtain⟨a1,a2⟩:=h2 γ hb ah;obtain⟨q1,q2,q3,q4,q5⟩:=hs.own (τ γ) hb a1;obtain⟨y1,y2⟩:=hY (τ γ) (by simp[a1]);rw[a2]at y1 y2;refine⟨q1,q2,?_,fun hy=>?_,fun hR=>?_⟩
  rotate_left
  rotate_left
  ·have hy:aO γ=true:=by simp[eI]at hR;simp[aO];omega
   have e:=y2 (by rw[<-y1];exact hy);exact q5 (by rw[<-e];exact hR)
  ·rw[au γ hb ah];cases hq:ρ (τ γ)with
   |none=>rw[hq]at q3;exact q3
   |some b=>
    rw[hq]at q3;refine⟨?_,q3.2.1,q3.2.2.move rfl rfl rfl rfl fun q u hq=>Qp.sub hq hX⟩;have:=q3.1;unfold Ctx.cls at this⊢;rw[y1];split at this
    ·rename_i hy;rw[if_pos hy,y2 hy];exact this
    ·rename_i hy;rw[if_neg hy];exact this
  ·rw[au γ hb ah,q4 (by rw[<-y1];exact hy),<-y2 (by rw[<-y1];exact hy)]
 ·obtain⟨x1,k1⟩:=Kbm.1 g1;obtain⟨x2,k2⟩:=Kbm.1 g2;rw[au γ x1 k1]at g3;rw[au δ x2 k2]at g4;have:=hs.inj (τ γ) (τ δ) b (by rw[(h2 γ x1 k1).1];simp) (by rw[(h2 δ x2 k2).1];simp) g3 g4;rw[<-(h2 γ x1 k1).2,<-(h2 δ x2 k2).2,this]
 ·have ba:=hs.cE i;rcases hf i with e|e
  ·rw[e];exact ba.fR hX fun β aj=>hr β (by
    rcases KaG.1 aj with h|h
    ·exact ba.known.1 β h
    ·exact ba.known.2 β h)
  ·rw[e];trivial
def oB(β δ x:Nat):Nat:=if x=β then δ else x
def qB(β δ:Nat)(fr:Fr):Fr:=fun s=>cC (oB β δ) (fr s)
def FC(β δ:Nat)(hp:HP):HP:=fun x=>if x=δ then hp β else if x=β then none else hp x
theorem pQ(β δ:Nat)(ny:hp δ=none)(h2:2000000<=δ)(hY:aO β=false)(aQ:β≠δ):Wk fr hp (qB β δ fr) (FC β δ hp):=by
 have bδ:bC δ=true:=by simp[bC];omega
 have yδ:aO δ=false:=by simp[aO];omega
 refine agk (oB β δ) (fun y=>if y=δ then β else y) (fun x hb hx=>?_) (fun y hb hy=>?_) (fun x hx hb=>?_) (fun x hx=>?_) (fun s=>.inl rfl)
 ·unfold oB FC;by_cases e:x=β
  ·subst e;simp[hx]
  ·have e2:x≠δ:=fun e2=>by rw[e2,ny]at hx;cases hx
   simp[e,e2,hx]
 ·unfold FC at hy;unfold oB;by_cases e:y=δ
  ·subst e;simp at hy;simp[hy]
  ·rw[if_neg e]at hy;by_cases e2:y=β
   ·rw[if_pos e2]at hy;cases hy
   ·rw[if_neg e2]at hy;simp[e,e2,hy]
 ·unfold oB;split
  ·exact bδ
  ·exact hb
 ·unfold oB;split
  ·rename_i e;subst e;rw[yδ,hY];simp
  ·simp
theorem agl{β δ x:Nat}:FC β δ hp x=if x=δ then hp β else if x=β then none else hp x:=rfl
theorem agm{β δ s:Nat}:qB β δ fr s=cC (oB β δ) (fr s):=rfl
theorem agn{β δ x:Nat}:oB β δ x=if x=β then δ else x:=rfl
theorem acQ{β δ d:Nat}{v:PV}:qB β δ (ab fr d v)=ab (qB β δ fr) d (cC (oB β δ) v):=by funext s;unfold qB ab;split<;>rfl
theorem acR{W:List (Nat×Nat)}{β δ:Nat}{J F:Fr}:qB β δ (bd W J F)=bd W (qB β δ J) (qB β δ F):=by funext s;unfold qB bd;split<;>rfl
theorem MV{σ:Nat->Nat}{p:PV}(h:∀β∈p.bw++p.dY,σ β=β):cX σ p=p:=by
 cases p with
 |mp β=>simp only[cX];rw[h β (by simp[PV.bw])]
 |aw β=>simp only[cX];rw[h β (by simp[PV.bw])]
 |rb β=>simp only[cX];rw[h β (by simp[PV.bw])]
 |np β=>simp only[cX];rw[h β (by simp[PV.bw,PV.dY])]
 |aG β=>simp only[cX];rw[h β (by simp[PV.bw,PV.dY])]
 |_=>rfl
theorem acS{σ:Nat->Nat}{p:PV}(h:tu p)(tn:∀β∈p.refs++p.aR,σ β=β):cC σ p=p:=by
 have hm:∀(l:List PV),(∀β∈l.flatMap PV.bw++l.flatMap PV.dY,σ β=β)->l.map (cX σ)=l:=fun l hl=>by
  conv=>rhs;rw[<-List.map_id l]
  refine Ka1 fun x hx=>MV fun β aj=>hl β ?_;rcases KaG.1 aj with aj|aj
  ·exact Kb3 _ (Kaq.2 ⟨x,hx,aj⟩)
  ·exact Kbo _ (Kaq.2 ⟨x,hx,aj⟩)
 cases p with
 |aF γ e ty xs=>exact absurd rfl (h.2.2.1 _ _ _ _)
 |aM cs=>exact absurd rfl (h.2.2.2 _).1
 |dZ cs=>exact absurd rfl (h.2.2.2 _).2.1
 |cP cs q=>exact absurd rfl ((h.2.2.2 _).2.2 _)
 | fn f a b=>
  simp only[cC];rw[hm a,hm b]
  ·intro β aj;refine tn β ?_;simp only[PV.refs,PV.aR,KaG]at aj⊢;rcases aj with h|h
   ·exact .inl (.inr h)
   ·exact .inr (.inr h)
  ·intro β aj;refine tn β ?_;simp only[PV.refs,PV.aR,KaG]at aj⊢;rcases aj with h|h
   ·exact .inl (.inl h)
   ·exact .inr (.inl h)
 |mp β=>simp only[cC,cX];rw[tn β (by simp[PV.refs])]
 |aw β=>simp only[cC,cX];rw[tn β (by simp[PV.refs])]
 |rb β=>simp only[cC,cX];rw[tn β (by simp[PV.refs])]
 |np β=>simp only[cC,cX];rw[tn β (by simp[PV.refs,PV.aR])]
 |aG β=>simp only[cC,cX];rw[tn β (by simp[PV.refs,PV.aR])]
 |_=>rfl
theorem abC{B:List Nat}{F:Fr}{s β:Nat}(h:β∈(eP B F s).refs):B.contains β=false:=by
 cases hq:B.contains β with
 |false=>rfl
 |true=>
  unfold eP Qz at h;split at h
  ·cases h
  ·rename_i hn;exact absurd (KaS.2 ⟨β,h,hq⟩) hn
theorem adv{B:List Nat}{F:Fr}{β δ:Nat}(aj:B.contains β=true∨2000000<=β)(aqQ:β<1000000∨2000000<=β):qB β δ (eP B F)=eP B F:=by
 funext s;have hc:=zX B F s;refine acS hc fun x hx=>if_neg fun e=>?_;subst e;rcases aj with aj|aj
 ·rcases KaG.1 hx with h|h
  ·rw[abC h]at aj;cases aj
  ·have h1:=hc.2.1 x h;simp[lI,ke]at h1;omega
 ·rcases KaG.1 hx with h|h
  ·have:=hc.1 x h;simp[ke]at this;omega
  ·have:=hc.2.1 x h;simp[lI,ke]at this;omega
end Go.FW
namespace Go.FW
open Go
variable {C C' : Ctx} {ρ ρ' : Nat -> Option Nat} {fr aA : Fr} {hp hp' : HP} {w : World} {K R : Qi}
def eE(γ:Nat):PV->PV
 |.aw β o n=>if β=γ then .aG γ o n else .aw β o n
 |.mp β i o=>if β=γ then .np γ i o else .mp β i o
 |.rb β o n=>if β=γ then .undef else .rb β o n
 |p=>p
def dt(γ:Nat):PV->PV
 |.fn f a b=>bx γ (.fn f a b)
 |.aM cs=>.aM (cs.map (eE γ))
 |.dZ cs=>.dZ (cs.map (eE γ))
 |.cP cs q=>.cP (cs.map (eE γ)) q
 |.aF aZ e ty xs=>if aZ=γ then .undef else .aF aZ e ty (xs.map fun x=>ft (x.aW.map (eE γ)))
 |p=>eE γ p
def xQ(γ:Nat)(x:PV)(fr:Fr):Fr:=fun s=>if s=γ then x else dt γ (fr s)
theorem pN {γ e ty:Nat} {xs:List PV} {fz:Bool} (ah:hp γ=some ⟨e,ty,xs,fz⟩) (h0:xs≠[]) (h2:2000000<=γ) (hd:∀x∈xs,x.aW=x.cells):Wk fr hp (xQ γ (.aF γ e ty xs) fr) (Qk hp γ ⟨e,ty,[],fz⟩):=by
 rintro C tmps w ⟨ρ,hs⟩;have yc:bC γ=true:=by simp[bC];omega
 have bj:=hs.own γ _ ah;have aV:=bj.cB;obtain⟨b,bl⟩:∃b,ρ γ=some b:=by
  cases hq:ρ γ with
  |none=>rw[hq]at aV;exact absurd aV h0
  |some b=>exact⟨b,rfl⟩
 rw[bl]at aV;obtain⟨b1,b2,cur,cap,c1,c2,c3,c4,c5⟩:=aV;have jU:=bj.jU;obtain⟨hp',my⟩:∃f,f=Qk hp γ ⟨e,ty,[],fz⟩:=⟨_,rfl⟩
 rw[<-my];have tq:hp' γ=some ⟨e,ty,[],fz⟩:=by rw[my];simp[Qk]
 have po:∀β,β≠γ->hp' β=hp β:=fun β aj=>by rw[my];simp[Qk,aj]
 have hX:aE C ρ hp'=aE C ρ hp:=by
  funext c;apply propext;constructor
  ·rintro(hx|⟨β,hb,g1,g2,g3⟩)
   ·exact .inl hx
   ·by_cases aj:β=γ
    ·subst aj;rw[tq]at g1;cases g1;exact .inr ⟨β,_,ah,g2,g3⟩
    ·rw[po β aj]at g1;exact .inr ⟨β,hb,g1,g2,g3⟩
  ·rintro(hx|⟨β,hb,g1,g2,g3⟩)
   ·exact .inl hx
   ·by_cases aj:β=γ
    ·subst aj;rw[ah]at g1;cases g1;exact .inr ⟨β,_,tq,g2,g3⟩
    ·exact .inr ⟨β,hb,by rw[po β aj];exact g1,g2,g3⟩
 have aH:lZ w w (aE C ρ hp) (aE C ρ hp'):=by rw[hX];exact⟨fun _ _ _=>rfl,fun _ _ hn=>hn,Kae _⟩
 have c0:∀β,β≠γ->oH ρ ρ hp hp' w w β:=fun β aj=>⟨rfl,fun hb hq=>⟨hb,by rw[po β aj];exact hq,rfl,Kae _,fun _ _ _ h=>h,fun h=>⟨h,rfl,fun _ _=>rfl⟩⟩⟩
 have BO:∀ {o n:Nat} {v:Value},et ρ hp w γ o n v->nV ρ hp' w γ o n v:=by
  rintro o n v ⟨hb,g1,g2,g3⟩;rw[ah]at g1;cases g1;rcases g3 with⟨g3,_⟩|⟨b',cp,g3,g4,g5,g6⟩
  ·rw[bl]at g3;cases g3
  ·rw[bl]at g3;cases g3;refine⟨yc,_,b,cp,tq,bl,g4,g5,g6,?_⟩;obtain⟨cur',ty',d1,d2⟩:=g5;rw[c1]at d1;cases d1;have:cap=o+cp:=KbA jU (by rw[<-c2,<-d2]);simp only at g2 c3;omega
 have cell:∀ {p:PV} {v:Value},cx C ρ hp w p v->cx C ρ hp' w (eE γ p) v:=by
  intro p v h;cases p with
  |aw β o n=>
   by_cases aj:β=γ
   ·subst aj;simp only[eE,if_true];exact BO h.2
   ·simp only[eE,if_neg aj];exact cx.move (p:=.aw β o n) h aH fun x hx=>by simp[PV.dj]at hx;subst hx;exact(c0 _ aj).yP
  | aG β o n=>
   by_cases aj:β=γ
   ·obtain⟨_,hb,b',cp,k1,k2,k3,k4,k5,k6⟩:=h;subst aj;rw[ah]at k1;cases k1;exact⟨yc,_,b',cp,tq,k2,k3,k4,k5,k6⟩
   ·exact cx.move (p:=.aG β o n) h aH fun x hx=>by simp[PV.dj]at hx;subst hx;exact(c0 _ aj).yP
  |mp=>cases h
  |rb=>cases h
  |np=>cases h
  |undef=>trivial
  |_=>exact cx.move h aH (fun x hx=>by cases hx)
 refine⟨ρ,hs.sz,hs.ext,hs.eJ,fun β hb aj=>?_,fun β δ c g1 g2 g3 g4=>?_,fun i=>?_⟩
 ·by_cases hq:β=γ
  ·subst hq;rw[tq]at aj;cases aj;refine⟨jU,(fun i x hx=>by simp at hx),?_,bj.fix,bj.ro⟩;rw[bl];exact⟨b1,b2,cur,cap,c1,c2,KbL _,c4,fun i x hx=>by simp at hx⟩
  ·rw[po β hq]at aj;obtain⟨q1,q2,q3,q4,q5⟩:=hs.own β hb aj;refine⟨q1,q2,?_,q4,q5⟩;cases hr:ρ β with
   |none=>rw[hr]at q3;exact q3
   |some c=>rw[hr]at q3;exact⟨q3.1,q3.2.1,q3.2.2.move rfl rfl rfl rfl aH.rc⟩
 ·have f:∀β,hp' β≠none->hp β≠none:=fun β aj=>by
   by_cases hq:β=γ
   ·subst hq;simp[ah]
   ·rwa[po β hq]at aj
  exact hs.inj β δ c (f β g1) (f δ g2) g3 g4
 ·have ba:=hs.cE i;show Qm C ρ hp' w (xQ γ (.aF γ e ty xs) fr i) _;unfold xQ;split
  ·refine⟨yc,jU,b,_,cur,cap,bl,tq,rfl,rfl,rfl,c1,c2,c3,c4,fun k x hx=>?_,fun k x hx j y hy=>?_⟩
   ·rw[hd x (Kaj hx)];exact(bj.len k x hx).1
   ·rw[hd x (Kaj hx)]at hy;have:=c5 k x hx j y hy;have h3:Qp w (aE C ρ hp') y (cur.getD (k*e+j) undef):=by rw[hX];exact this
    cases y with
    |undef=>trivial
    |aw=>cases h3
    |aG=>cases h3
    |_=>exact h3
  ·generalize fr i=p at ba;cases p with
   |aw β o n=>
    by_cases aj:β=γ
    ·subst aj;simp only[dt,eE,if_true];exact BO ba
    ·simp only[dt,eE,if_neg aj];exact Qm.pB ba aH (fun x hx=>by simp[PV.refs]at hx;subst hx;exact(c0 _ aj).o) (fun x hx=>by cases hx)
   | mp β k o=>
    by_cases aj:β=γ
    ·subst aj;simp only[dt,eE,if_true];obtain⟨b',hb,g1,g2,g3⟩:=ba;rw[ah]at g2;cases g2;exact⟨yc,b',_,g1,tq,g3⟩
    ·simp only[dt,eE,if_neg aj];exact Qm.pB ba aH (fun x hx=>by simp[PV.refs]at hx;subst hx;exact(c0 _ aj).o) (fun x hx=>by cases hx)
   |rb β o n=>
    by_cases aj:β=γ
    ·simp only[dt,eE,if_pos aj];trivial
    ·simp only[dt,eE,if_neg aj];exact Qm.pB ba aH (fun x hx=>by simp[PV.refs]at hx;subst hx;exact(c0 _ aj).o) (fun x hx=>by cases hx)
   | np β k o=>
    by_cases aj:β=γ
    ·subst aj;obtain⟨_,b',hb,g1,g2,g3⟩:=ba;rw[ah]at g2;cases g2;exact⟨yc,b',_,g1,tq,g3⟩
    ·refine Qm.pB (p:=.np β k o) ba aH (fun x hx=>by cases hx) (fun x hx=>?_);have e1:x=β:=by simpa[PV.aR]using hx
     rw[e1];exact c0 _ aj
   |aG β o n=>exact cell (p:=.aG β o n) ba
   |aM cs=>obtain⟨vs,e1,h1,h3⟩:=ba;refine⟨vs,e1,by simpa using h1,fun k x hk=>?_⟩;simp only[Kas,Kaa]at hk;obtain⟨y,hy,rfl⟩:=hk;exact cell (h3 k y hy)
   |dZ cs=>obtain⟨vs,e1,h1,h3⟩:=ba;refine⟨vs,e1,by simpa using h1,fun k x hk=>?_⟩;simp only[Kas,Kaa]at hk;obtain⟨y,hy,rfl⟩:=hk;exact cell (h3 k y hy)
   |cP cs q=>obtain⟨vs,u,e1,h1,h3,h4⟩:=ba;refine⟨vs,u,e1,by simpa using h1,fun k x hk=>?_,h4.mono aH.cB aH.out aH.size⟩;simp only[Kas,Kaa]at hk;obtain⟨y,hy,rfl⟩:=hk;exact cell (h3 k y hy)
   | aF β e' ty' ys=>
    simp only[dt];split
    ·trivial
    ·rename_i aj;obtain⟨k0,he,b',hb,cur',ew,k1,k2,k3,k4,k5,k6,k7,k8,k9,BA,yF⟩:=ba;have rH:∀(k:Nat)(x:PV),ys[k]? =some x->(ft (x.aW.map (eE γ))).aW=x.aW.map (eE γ):=fun k x hx=>by refine N5 fun c hc=>?_;obtain⟨y,hy,rfl⟩:=KaE.1 hc;obtain⟨j,hj⟩:=KaB hy;exact(cell (yF k x hx j y hj)).one
     refine⟨k0,he,b',hb,cur',ew,k1,by rw[po β aj];exact k2,k3,k4,k5,k6,k7,by simpa using k8,k9,fun k x hx=>?_,fun k x hx j y hy=>?_⟩
     ·simp only[Kas,Kaa]at hx;obtain⟨x0,bX,rfl⟩:=hx;rw[rH k x0 bX,KaV];exact BA k x0 bX
     ·simp only[Kas,Kaa]at hx;obtain⟨x0,bX,rfl⟩:=hx;rw[rH k x0 bX,Kas,Kaa]at hy;obtain⟨y0,cU,rfl⟩:=hy;exact cell (yF k x0 bX j y0 cU)
   | fn f a c=>
    simp only[dt,bx];split
    ·trivial
    ·rename_i hn;have om:γ ∉ (PV.fn f a c).refs:=by simpa using hn
     by_cases hm:γ∈(PV.fn f a c).aR
     ·
      obtain⟨fv,cv,g1,g2,g3,g4,g5⟩:=ba;have Ej:∀ {x:PV} {v:Value},γ ∉ x.bw->cF C ρ hp w x v->cF C ρ hp' w x v:=by
       intro x v hx h;cases x with
       | np β k o=>
        by_cases aj:β=γ
        ·subst aj;obtain⟨_,b',hb,k1,k2,k3⟩:=h;rw[ah]at k2;cases k2;exact⟨yc,b',_,k1,tq,k3⟩
        ·exact cF.move (p:=.np β k o) h aH (fun x hx=>by cases hx) (fun x hx=>by simp[PV.dY]at hx;subst hx;exact(c0 _ aj).yP)
       |aG β o n=>exact cell (p:=.aG β o n) h
       |mp β k o=>exact cF.move (p:=.mp β k o) h aH (fun x aS=>by simp[PV.bw]at aS hx;subst aS;exact(c0 _ (fun e=>hx e.symm)).o) (fun x hx=>by cases hx)
       |aw β k o=>exact cF.move (p:=.aw β k o) h aH (fun x aS=>by simp[PV.bw]at aS hx;subst aS;exact(c0 _ (fun e=>hx e.symm)).o) (fun x hx=>by cases hx)
       |rb β k o=>exact cF.move (p:=.rb β k o) h aH (fun x aS=>by simp[PV.bw]at aS hx;subst aS;exact(c0 _ (fun e=>hx e.symm)).o) (fun x hx=>by cases hx)
       |_=>exact cF.move h aH (fun x hx=>by cases hx) (fun x hx=>by cases hx)
      exact⟨fv,cv,g1,g2,g3,fun k x hk=>Ej (fun hx=>om (Gt hk γ hx)) (g4 k x hk),fun k x hk=>Ej (fun hx=>om (Gz hk γ hx)) (g5 k x hk)⟩
     ·exact Qm.pB ba aH (fun x hx=>(c0 x (fun e=>om (e▸hx))).o) (fun x hx=>c0 x (fun e=>hm (e▸hx)))
   |_=>exact Qm.pB ba aH (fun x hx=>by cases hx) (fun x hx=>by cases hx)
theorem Lj{γ e ty:Nat}{xs xs':List PV}(D:Nat->Option (Nat×Nat))(uz:fr γ= .aF γ e ty xs)(hD:∀δ x,D δ=some x->hp δ=none/\2000000<=δ/\0<x.1)(hl:xs'.length=xs.length)
  (hx:∀(i:Nat)(x x':PV),xs[i]? =some x->xs'[i]? =some x'->x'.aW.length=x.aW.length/\∀(j:Nat)(y y':PV),x.aW[j]? =some y->x'.aW[j]? =some y'->y'=y∨(y= .aa/\∃δ z,D δ=some z/\y'= .aw δ 0 0)):
  Wk fr hp (ab fr γ (.aF γ e ty xs')) (fun δ=>match D δ with|some x=>some ⟨x.1,x.2,[],false⟩|none=>hp δ):=by
 rintro C tmps w ⟨ρ,hs⟩;obtain⟨hp',my⟩:∃f:HP,f=fun δ=>match D δ with|some x=>some ⟨x.1,x.2,[],false⟩|none=>hp δ:=⟨_,rfl⟩
 obtain⟨ρ',Ts⟩:∃f:Nat->Option Nat,f=fun δ=>if(D δ).isSome then none else ρ δ:=⟨_,rfl⟩
 rw[<-my];have pD:∀δ x,D δ=some x->hp' δ=some ⟨x.1,x.2,[],false⟩/\ρ' δ=none:=fun δ x ny=>by rw[my,Ts];simp[ny]
 have po:∀δ,D δ=none->hp' δ=hp δ/\ρ' δ=ρ δ:=fun δ ny=>by rw[my,Ts];simp[ny]
 have hk:∀β,hp β≠none->D β=none:=fun β aj=>by
  cases hq:D β with
  |none=>rfl
  |some x=>exact absurd (hD β x hq).1 aj
 have hX:∀c,aE C ρ' hp' c->aE C ρ hp c:=by
  rintro c (h|⟨β,hb,g1,g2,g3⟩)
  ·exact .inl h
  ·cases hq:D β with
   |none=>rw[(po β hq).1]at g1;rw[(po β hq).2]at g3;exact .inr ⟨β,hb,g1,g2,g3⟩
   |some x=>rw[(pD β x hq).2]at g3;cases g3
 have aH:lZ w w (aE C ρ hp) (aE C ρ' hp'):=⟨fun _ _ _=>rfl,fun c _ hn h=>hn (hX c h),Kae _⟩
 have c0:∀β,hp β≠none->oH ρ ρ' hp hp' w w β:=fun β aj=>⟨(po β (hk β aj)).2,fun hb hq=>⟨hb,by rw[(po β (hk β aj)).1];exact hq,rfl,Kae _,fun _ _ _ h=>h,fun h=>⟨h,rfl,fun _ _=>rfl⟩⟩⟩
 refine⟨ρ',hs.sz,hs.ext,hs.eJ,fun β hb aj=>?_,fun β δ c g1 g2 g3 g4=>?_,fun i=>?_⟩
 ·cases hq:D β with
  |some x=>rw[(pD β x hq).1]at aj;cases aj;obtain⟨_,d2,d3⟩:=hD β x hq;refine⟨d3,(fun i x hx=>by simp at hx),?_,(fun h=>by simp[aO]at h;omega),fun h=>by simp[eI]at h;omega⟩;rw[(pD β x hq).2]
  |none=>
   rw[(po β hq).1]at aj;obtain⟨q1,q2,q3,q4,q5⟩:=hs.own β hb aj;refine⟨q1,q2,?_,(by rw[(po β hq).2];exact q4),q5⟩;rw[(po β hq).2];cases hr:ρ β with
   |none=>rw[hr]at q3;exact q3
   |some c=>rw[hr]at q3;exact⟨q3.1,q3.2.1,q3.2.2.move rfl rfl rfl rfl aH.rc⟩
 ·have f:∀β,hp' β≠none->∀c,ρ' β=some c->hp β≠none/\ρ β=some c:=fun β aj c hc=>by
   cases hq:D β with
   |none=>rw[(po β hq).1]at aj;rw[(po β hq).2]at hc;exact⟨aj,hc⟩
   |some x=>rw[(pD β x hq).2]at hc;cases hc
  exact hs.inj β δ c (f β g1 c g3).1 (f δ g2 c g4).1 (f β g1 c g3).2 (f δ g2 c g4).2
 ·have v9:=(hs.cE i).known;have yJ:Qm C ρ' hp' w (fr i) (tmps.getD i undef):=(hs.cE i).pB aH (fun β aj=>(c0 β (v9.1 β aj)).o) (fun β aj=>c0 β (v9.2 β aj));unfold ab;split
  ·rename_i hi;subst hi;rw[uz]at yJ;obtain⟨k0,he,b',hb,cur',ew,k1,k2,k3,k4,k5,k6,k7,k8,k9,BA,yF⟩:=yJ;have ez:∀(k:Nat)(x':PV),xs'[k]? =some x'->∃x,xs[k]? =some x:=fun k x' cI=>by
    have:k<xs.length:=by have:=(Kaf.1 cI).1;omega
    exact⟨_,Kag this⟩
   refine⟨k0,he,b',hb,cur',ew,k1,k2,k3,k4,k5,k6,k7,by omega,k9,fun k x' cI=>?_,fun k x' cI j y' nw=>?_⟩
   ·obtain⟨x,tj⟩:=ez k x' cI;rw[(hx k x x' tj cI).1];exact BA k x tj
   ·obtain⟨x,tj⟩:=ez k x' cI;obtain⟨l1,l2⟩:=hx k x x' tj cI;have hj:j<x.aW.length:=by have:=(Kaf.1 nw).1;omega
    have hy:=Kag hj;have hr:=yF k x tj j _ hy;rcases l2 j _ y' hy nw with e1|⟨e1,δ,z,e2,e3⟩
    ·rw[e1];exact hr
    ·rw[e1]at hr;obtain⟨_,d2,_⟩:=hD δ z e2;rw[e3];have hv:cur'.getD (k*e+j) undef= .slice none 0 0:=by generalize cur'.getD (k*e+j) undef=u at hr;cases hr;rfl
     exact⟨by simp[bC];omega,_,(pD δ z e2).1,Kae _,.inl ⟨(pD δ z e2).2,hv,rfl,rfl⟩⟩
  ·exact yJ
def BD:List PV->PV
 | [c]=>c
 |cs=>.agg cs
def oa(fr:Fr)(hp:HP):Nat->PV->PV
 |0,p=>p
 | k+1,p=>match p with
  |.aw β o n=>match hp β with
   |some hb=>.sl hb.e ((hb.xs.drop o).take n)
   |none=>.undef
  |.aG γ o n=>match fr γ with
   |.aF _ e _ xs=>.sl e (((xs.drop o).take n).map fun x=>BD (x.aW.map (oa fr hp k)))
   |_=>.undef
  |p=>p
def rU(fr:Fr):Nat->PV->List Nat
 |0,_=>[]
 | k+1,p=>match p with
  |.aw β _ _=>[β]
  |.aG γ o n=>match fr γ with
   |.aF _ _ _ xs=>γ::(((xs.drop o).take n).flatMap fun x=>x.aW.flatMap (rU fr k))
   |_=>[]
  |_=>[]
def BG(fr:Fr):Nat->PV->Prop
 |0,p=>match p with
  |.undef| .aw _ _ _| .aG _ _ _=>False
  |_=>True
 | k+1,p=>match p with
  |.undef=>False
  |.aw β _ _=>aO β=false
  |.aG γ o n=>match fr γ with
   |.aF aZ _ _ xs=>aZ=γ/\aO γ=false/\o+n<=xs.length/\∀x∈(xs.drop o).take n,∀c∈x.aW,BG fr k c
   |_=>False
  |_=>True
theorem adw{tmps:Array Value}(h:Qr C ρ fr hp tmps w){β b:Nat}{hb:HB}{l:List Nat}(hB:aO β=false)(aj:hp β=some hb)(hl:β∈l)(bl:ρ β=some b):¬aE C ρ (Qy hp l) b:=by
 have aV:=(h.own β hb aj).cB;rw[bl]at aV;rintro(hx|⟨γ,hg,h1,h2,h3⟩)
 ·exact Ctx.Ek aV.1 (xu hB) hx
 ·obtain⟨lA,g1,_,_,_,_,g6⟩:=y4 h1;have:=h.inj γ β b (by simp[g1]) (by simp[aj]) h3 bl;subst this;exact g6 h2 hl
theorem Yt{cs:List PV}(h:∀c∈cs,c.cells=[c]):(BD cs).cells=cs:=by
 match cs,h with
 | [],_=>rfl
 | [c],h=>exact h c (by simp)
 |_::_::_,_=>rfl
theorem Ie{tmps:Array Value}(h:Qr C ρ fr hp tmps w){l:List Nat}:∀(k:Nat) {p:PV} {v:Value},cx C ρ hp w p v->BG fr k p->(∀β∈rU fr k p,β∈l)->Qp w (aE C ρ (Qy hp l)) (oa fr hp k p) v
 |0,p,v,hr,ho,_=>by
  cases p with
  |undef=>cases ho
  |aw=>cases ho
  |aG=>cases ho
  |_=>exact Qp.freeze hr
 | k +1,p,v,hr,ho,hl=>by
  cases p with
  |undef=>cases ho
  |aw β o n=>
   obtain⟨hb,aj⟩:∃hb,hp β=some hb:=by obtain⟨_,hb,h1,_⟩:=hr;exact⟨hb,h1⟩
   have:=et.snap h hr.2 ho (hl β (by simp[rU])) aj;simp only[oa,aj];exact this
  | aG γ o n=>
   simp only[BG]at ho;split at ho
   ·rename_i aZ e ty xs ah;obtain⟨rfl,hY,JI,JJ⟩:=ho;have ba:=h.cE aZ;rw[ah]at ba;obtain⟨k0,he,b,hb,cur,cap,k1,k2,k3,k4,k5,k6,k7,k8,k9,BA,yF⟩:=ba;obtain⟨_,dv,b2,AA,g1,g2,rfl,g4,g5,g6⟩:=hr;rw[k2]at g1;cases g1;rw[k1]at g2;cases g2;have gD:aZ∈l:=hl aZ (by simp[rU,ah]);have hX:=adw (l:=l) h hY k2 gD k1;have aq:=(Kbl.1 k6).1;obtain⟨cur',ty',d1,d2⟩:=g4;rw[k6]at d1;cases d1;rw[k4]at d2;have iz:cap=o+AA:=KbA he (by rw[<-k7,<-d2]);have key:∀i (x:PV),((xs.drop o).take n)[i]? =some x->i<n/\xs[o+i]? =some x:=fun i x hx=>by
     have hi:i<n:=by have:=(Kaf.1 hx).1;simp at this;omega
     rw[KaF hi,Ka2]at hx;exact⟨hi,hx⟩
    have Rw:∀i (x:PV),((xs.drop o).take n)[i]? =some x->∀j (y:PV),x.aW[j]? =some y->Qp w (aE C ρ (Qy hp l)) (oa fr hp k y) (cur.getD ((o+i)*e+j) undef):=fun i x hx j y hy=>by have nu:=Kaj hx;refine Ie h k (yF (o+i) x (key i x hx).2 j y hy) (JJ x nu y (Kaj hy)) fun β aj=>hl β ?_;simp only[rU,ah];exact KaZ _ (Kaq.2 ⟨x,nu,Kaq.2 ⟨y,Kaj hy,aj⟩⟩)
    have rH:∀i (x:PV),((xs.drop o).take n)[i]? =some x->(BD (x.aW.map (oa fr hp k))).cells=x.aW.map (oa fr hp k):=fun i x hx=>by refine Yt fun c hc=>?_;obtain⟨y,hy,rfl⟩:=KaE.1 hc;obtain⟨j,hj⟩:=KaB hy;exact(Rw i x hx j y hj).rT.2.2
    simp only[oa,ah];have hlen:(((xs.drop o).take n).map fun x=>BD (x.aW.map (oa fr hp k))).length=n:=by simp;omega
    have:=Qp.sl (w:=w) (X:=aE C ρ (Qy hp l)) e (((xs.drop o).take n).map fun x=>BD (x.aW.map (oa fr hp k))) b (o*hb.e) AA (fun i j=>cur.getD ((o+i)*e+j) undef) hX aq (by omega) (by omega)
     (fun i x hx=>by simp only[Kas,Kaa]at hx;obtain⟨x0,bX,rfl⟩:=hx;rw[rH i x0 bX,KaV];exact BA _ x0 (key i x0 bX).2)
     (fun i hi j hj=>by rw[hlen]at hi;rw[k4];have:=mR (i:=o+i) (e:=e) (o:=0) (j:=j) (n:=e) (cap:=cap) (by omega) (by omega) hj;rw[KaM]at this;rw[show o*e+i*e+j=(o+i)*e+j by rw[KaD]];exact kU k6 (by rw[k7];exact this))
     (fun i x hx j y hy=>by simp only[Kas,Kaa]at hx;obtain⟨x0,bX,rfl⟩:=hx;rw[rH i x0 bX,Kas,Kaa]at hy;obtain⟨y0,cU,rfl⟩:=hy;exact Rw i x0 bX j y0 cU)
    rw[hlen]at this;exact this
   ·exact ho.elim
  |_=>exact Qp.freeze hr
def Ca(fr:Fr)(hp:HP)(k:Nat):PV->PV
 |.aM cs=>.agg (cs.map (oa fr hp k))
 |p=>oa fr hp k p
def yT(fr:Fr)(k:Nat):PV->List Nat
 |.aM cs=>cs.flatMap (rU fr k)
 |p=>rU fr k p
def TE(fr:Fr)(k:Nat):PV->Prop
 |.aM cs=>∀c∈cs,BG fr k c
 |.aG γ o n=>BG fr k (.aG γ o n)
 |_=>False
theorem ago(s k:Nat)(ho:TE fr k (fr s)):Wk fr hp (ab fr s (Ca fr hp k (fr s))) (Qy hp (yT fr k (fr s))):=by
 rintro C tmps w ⟨ρ,hs⟩;have hf:=hs.freeze (yT fr k (fr s));refine⟨ρ,hf.sz,hf.ext,hf.eJ,hf.own,hf.inj,fun i=>?_⟩;unfold ab;split
 ·rename_i hi;subst hi;have ba:=hs.cE i;generalize ax:fr i=p at *
  cases p with
  |aM cs=>obtain⟨vs,e1,h1,h2⟩:=ba;refine⟨vs,e1,by simpa using h1,fun j x hj=>?_⟩;simp only[Kas,Kaa]at hj;obtain⟨y,hy,rfl⟩:=hj;exact Ie hs k (h2 j y hy) (ho y (Kaj hy)) fun β aj=>Kaq.2 ⟨y,Kaj hy,aj⟩
  |aG γ o n=>have:=Ie (l:=rU fr k (.aG γ o n)) hs k (p:=.aG γ o n) ba ho (fun β aj=>aj);exact Qm.lJ (Q6.qD this)
  |_=>cases ho
 ·exact hf.cE i
end Go.FW
