/- Part 2 of the proof of GoalsPolynomials: FwP, FwQ, FwR, FwS, FwT, FwU, FwV, FwW, FwX, FwY, FwZ, FwBA, FwBB, FwBC, FwBD, FwBE, FwBF, FwBG, FwBH, FwCA, FwCB, FwCC, FwCD, FwCE, FwCF, FwCG, FwCH, FwCI, FwCJ, FwCK, FwCL, FwMA, FwMB, FwMC, FwPA, FwPB, FwPC, FwSA, FwSB, FwSC, FwTA, FwSet, FwSt, FwUB, FwNA, FwNB, FwND, FwNE. Own lemmas; no conditions. -/
import Derived.Test.YtonjiljafkiikaaGreatGoalsPolynomialsPart1
import Derived.LoopN
import Derived.ChangeSame
import Derived.ChangeStays
import Derived.Deep.Slices
import Derived.OpenShut
import Derived.RowKit
import Derived.ProofKit
import Derived.JoinedCond
set_option maxHeartbeats 1000000
set_option linter.unusedSimpArgs false
set_option linter.unusedVariables false
set_option linter.unnecessarySimpa false
set_option maxRecDepth 100000
namespace Go.FW
open Go
variable {C : Ctx} {ρ : Nat -> Option Nat} {fr : Fr} {hp : HP} {w : World} {a : Act} {K R : Qg}
structure Gr(C:Ctx)(R:Qg)(sk:List It)(Q:Exit->Act->World->Prop):Prop where
 wH:wP C (vc C R sk) Q
 ext:∀id dm,FW.bJ id sk=some dm->∀fr hp (a:Act) w,a.defers=[]->cT C fr hp a.tmps w->vc C R dm fr hp->Q (.exit id) a w
 ret:∀fr hp (a:Act) w,a.defers=[]->cT C fr hp a.tmps w->R fr hp->Q .ret a w
theorem yr{sk:List It}{x y:SC}:vc C R (.c (.seq x y)::sk) fr hp=vc C R (.c x:: .c y::sk) fr hp:=by rw[vc]
theorem xM{sk:List It}{id:Nat}{x:SC}:vc C R (.c (.block id x)::sk) fr hp=vc C R (.c x:: .eb id::sk) fr hp:=by rw[vc]
theorem xY{sk:List It}:vc C R (.c .skip::sk) fr hp=vc C R sk fr hp:=by rw[vc]
theorem z0{sk:List It}{r:RT}:vc C R (.c (.rg r)::sk) fr hp=vc C R (.o r::sk) fr hp:=by rw[vc]
theorem yE{sk:List It}{id:Nat}:vc C R (.eb id::sk) fr hp=vc C R sk fr hp:=by rw[vc]
theorem qy{sk:List It}{J:Qg}:vc C R (.el J::sk) fr hp=J fr hp:=by rw[vc]
theorem yt{sk:List It}:vc C R (.c .ret::sk) fr hp=R fr hp:=by rw[vc]
theorem oW:vc C R [] fr hp=R fr hp:=by rw[vc]
def oZ(c:PV)(A B:Prop):Prop:=match c with
 |.bool t=>(t=true->A)/\(t=false->B)
 |_=>False
theorem xZ{sk:List It}{c:aF}{x y:SC}:vc C R (.c (.cond c x y)::sk) fr hp=oZ (ev fr c) (vc C R (.c x::sk) fr hp) (vc C R (.c y::sk) fr hp):=by rw[vc];rfl
def qz(C:Ctx)(R:Qg)(sk:Option (List It))(fr:Fr)(hp:HP):Prop:=match sk with
 |some sk=>vc C R sk fr hp
 |none=>False
theorem ya{sk:List It}{id:Nat}:vc C R (.c (.exit id)::sk) fr hp=qz C R (FW.bJ id sk) fr hp:=by
 rw[vc];unfold qz;split
 ·rename_i h;rw[h]
 ·rename_i h;rw[h]
theorem rU{sk:List It}{x:SC}:vc C R (.c (.loop x)::sk) fr hp=∃(I:Qg)(μ:Fr->HP->Nat),(∃aG au,Wk fr hp aG au/\I aG au)/\∀fr hp,I fr hp->vc C R (.c x:: .el (fun aw hp'=>∃aG au,Wk aw hp' aG au/\I aG au/\μ aG au<μ fr hp)::sk) fr hp:=by rw[vc]
theorem Wk.refl(fr:Fr)(hp:HP):Wk fr hp fr hp:=fun _ _ _ h=>h
theorem Wk.trans{jk dX yR:Fr}{ew bu ke:HP}(h:Wk jk ew dX bu)(k:Wk dX bu yR ke):Wk jk ew yR ke:=fun C t w hs=>k C t w (h C t w hs)
def sH(I:Qg)(μ:Fr->HP->Nat)(n:Nat):Qg:=fun aw hp'=>∃aG au,Wk aw hp' aG au/\I aG au/\μ aG au<n
theorem QV{sk:List It}{x:SC}(I:Qg)(μ:Fr->HP->Nat){aG:Fr}{au:HP}(hw:Wk fr hp aG au)(h0:I aG au)(h:∀fr hp,I fr hp->vc C R (.c x:: .el (sH I μ (μ fr hp))::sk) fr hp):vc C R (.c (.loop x)::sk) fr hp:=by rw[rU];exact⟨I,μ,⟨aG,au,hw,h0⟩,h⟩
theorem Nl{s:SC}(h:s.strip= .skip):s= .skip:=by cases s<;>simp[SC.strip]at h⊢
theorem OK{s:SC}(h:s.strip= .ret):s= .ret:=by cases s<;>simp[SC.strip]at h⊢
theorem ND{s:SC}{id:Nat}(h:s.strip= .exit id):s= .exit id:=by cases s<;>simp[SC.strip]at h ⊢;exact h
theorem OL{s:SC}{id:Nat}{ops:Array Oper}(h:s.strip= .raw id ops):s= .raw id ops:=by cases s<;>simp[SC.strip]at h ⊢;exact h
theorem OM{s a b:SC}(h:s.strip= .seq a b):∃a' b',s= .seq a' b'/\a'.strip=a/\b'.strip=b:=by cases s<;>simp[SC.strip]at h;exact⟨_,_,rfl,h.1,h.2⟩
theorem NF{s a b:SC}{c:aF}(h:s.strip= .cond c a b):∃a' b',s= .cond c a' b'/\a'.strip=a/\b'.strip=b:=by
 cases s with
 |cond c' a' b'=>simp only[SC.strip,SC.cond.injEq]at h;obtain⟨rfl,h1,h2⟩:=h;exact⟨a',b',rfl,h1,h2⟩
 |_=>simp[SC.strip]at h
theorem Qyr{s a:SC}{id:Nat}(h:s.strip= .block id a):∃a',s= .block id a'/\a'.strip=a:=by
 cases s with
 |block c' a'=>simp only[SC.strip,SC.block.injEq]at h;obtain⟨rfl,h1⟩:=h;exact⟨a',rfl,h1⟩
 |_=>simp[SC.strip]at h
theorem NG{s a:SC}(h:s.strip= .loop a):∃a',s= .loop a'/\a'.strip=a:=by
 cases s with
 |loop a'=>simp only[SC.strip,SC.loop.injEq]at h;exact⟨a',rfl,h⟩
 |_=>simp[SC.strip]at h
theorem Be(hm:C.P.follows .mixedOrders=true):∀(c:Code)(s:SC)(sk:List It)(Q:Exit->Act->World->Prop)(fr:Fr)(hp:HP)(a:Act)(w:World),
  dT C.P C.N c=some s.strip->Gr C R sk Q->a.defers=[]->cT C fr hp a.tmps w->vc C R (.c s::sk) fr hp->c.wp C.P Q a w:=by
 intro c;induction c with
 |skip=>intro s sk Q fr hp a w hc hL hd hs hv;simp only[dT,Kar]at hc;obtain rfl:=Nl hc.symm;rw[xY]at hv;exact wp_skip (hL.wH fr hp a w hd hs hv)
 | region id ops draw=>
  intro s sk Q fr hp a w hc hL hd hs hv;simp only[dT]at hc;split at hc
  ·rename_i s' dt;rw[hc]at dt;exact Qwh hm hL.wH dt hd hs hv
  ·split at hc
   ·rename_i pG;obtain rfl:=OL (Kac hc).symm;have ace:draw=true:=pG;subst ace;rw[vc]at hv;obtain⟨tmps,defers⟩:=a;simp only at hd hs;subst hd;exact hv tmps w Q hs (fun aw hp' pV w' dt lb=>hL.wH aw hp' _ w' rfl dt lb)
   ·cases hc
 |seq x y ig rB=>
  intro s sk Q fr hp a w hc hL hd hs hv;simp only[dT,Kab,Kaa]at hc;obtain⟨sx,hx,sy,hy,he⟩:=hc;obtain⟨sx,sy,rfl,rfl,rfl⟩:=OM he.symm;rw[yr]at hv;refine wp_seq (ig sx (.c sy::sk) _ fr hp a w hx ⟨fun fr hp a w hd hs hv=>?_,fun id dm he fr hp a w hd hs hv=>?_,fun fr hp a w hd hs hv=>?_⟩ hd hs hv)
  ·exact rB sy sk Q fr hp a w hy hL hd hs hv
  ·exact hL.ext id dm (by simpa[FW.bJ]using he) fr hp a w hd hs hv
  ·exact hL.ret fr hp a w hd hs hv
 | cond c x y ig rB=>
  intro s sk Q fr hp a w hc hL hd hs hv;simp only[dT,Kab,Kaa]at hc;obtain⟨pc,kg,sx,hx,sy,hy,he⟩:=hc;obtain⟨sx,sy,rfl,rfl,rfl⟩:=NF he.symm;rw[xZ]at hv;obtain⟨ρ,kX⟩:=hs;have hr:=bU kX kg;unfold oZ at hv;split at hv
  ·rename_i t ht;rw[ht]at hr;exact wp_cond_split hr.sY (fun h=>ig sx sk Q fr hp a w hx hL hd ⟨ρ,kX⟩ (hv.1 h)) (fun h=>rB sy sk Q fr hp a w hy hL hd ⟨ρ,kX⟩ (hv.2 h))
  ·exact hv.elim
 | block id x ig=>
  intro s sk Q fr hp a w hc hL hd hs hv;simp only[dT,Kaa]at hc;obtain⟨sx,hx,he⟩:=hc;obtain⟨sx,rfl,rfl⟩:=Qyr he.symm;rw[xM]at hv;refine wp_block (ig sx (.eb id::sk) _ fr hp a w hx ⟨fun fr hp a w hd hs hv=>?_,fun MJ dm he fr hp a w hd hs hv=>?_,fun fr hp a w hd hs hv=>?_⟩ hd hs hv)
  ·rw[yE]at hv;exact hL.wH fr hp a w hd hs hv
  ·simp only[FW.bJ]at he;simp only[Exit.inBlock];by_cases hi:id=MJ
   ·subst hi;simp only[if_true]at he ⊢;cases he;exact hL.wH fr hp a w hd hs hv
   ·rw[if_neg hi]at he;rw[if_neg (fun e=>hi e.symm)];exact hL.ext MJ dm he fr hp a w hd hs hv
  ·exact hL.ret fr hp a w hd hs hv
 | loop x ig=>
  intro s sk Q fr hp a w hc hL hd hs hv;simp only[dT,Kaa]at hc;obtain⟨sx,hx,he⟩:=hc;obtain⟨sx,rfl,rfl⟩:=NG he.symm;rw[rU]at hv;obtain⟨I,μ,⟨aG,au,hwk,h0⟩,acX⟩:=hv;have key:∀(n:Nat)(fr:Fr)(hp:HP)(a:Act)(w:World),μ fr hp<n->I fr hp->a.defers=[]->cT C fr hp a.tmps w->Code.rounds C.P x Q n a w:=by
   intro n;induction n with
   |zero=>intro _ _ _ _ h;omega
   | succ n ih=>
    intro fr hp a w an hI hd hs;rw[rounds_succ];refine ig sx _ _ fr hp a w hx ⟨fun aw hp' a' w' oo dt lb=>?_,fun id dm he fr hp a w hd hs hv=>?_,fun fr hp a w hd hs hv=>?_⟩ hd hs (acX fr hp hI)
    ·rw[qy]at lb;obtain⟨dX,bu,hw2,hI2,rf⟩:=lb;exact ih dX bu a' w' (by omega) hI2 oo (hw2 _ _ _ dt)
    ·exact hL.ext id dm (by simpa[FW.bJ]using he) fr hp a w hd hs hv
    ·exact hL.ret fr hp a w hd hs hv
  exact wp_loop_rounds (μ aG au+1) (key _ aG au a w (Kcc _) h0 hd (hwk _ _ _ hs))
 | exit id=>
  intro s sk Q fr hp a w hc hL hd hs hv;simp only[dT,Kar]at hc;obtain rfl:=ND hc.symm;rw[ya]at hv;unfold qz at hv;split at hv
  ·rename_i dm he;exact wp_exit (hL.ext id dm he fr hp a w hd hs hv)
  ·exact hv.elim
 |ret=>intro s sk Q fr hp a w hc hL hd hs hv;simp only[dT,Kar]at hc;obtain rfl:=OK hc.symm;rw[yt]at hv;exact wp_ret (hL.ret fr hp a w hd hs hv)
 |_=>intro s sk Q fr hp a w hc;simp[dT]at hc
theorem Bx(hm:C.P.follows .mixedOrders=true)(c:Code)(s:SC)(sk:List It)(Q:Exit->Act->World->Prop)(fr:Fr)(hp:HP)(a:Act)(w:World)
  (hc:dT C.P C.N c=some s) (hL:Gr C R sk Q) (hd:a.defers=[]) (hs:cT C fr hp a.tmps w) (hv:vc C R (.c s::sk) fr hp):c.wp C.P Q a w:=
 Be hm c s sk Q fr hp a w (by rw[HN _ _ hc];exact hc) hL hd hs hv
def PV.jD:PV->PV->Prop
 |.aa,.sl _ []=>True
 |p,q=>p=q
def PV.wC:List PV->List PV->Prop
 | [],[]=>True
 |p::ps,q::qs=>PV.jD p q/\PV.wC ps qs
 |_,_=>False
def PV.le:PV->PV->Prop
 |.agg ps,.agg qs=>PV.wC ps qs
 |p,q=>PV.jD p q
def PV.zK:List PV->List PV->Prop
 | [],[]=>True
 |p::ps,q::qs=>PV.le p q/\PV.zK ps qs
 |_,_=>False
def PV.wD:PV->PV->Prop
 |.aO ps,.aO qs=>PV.zK ps qs
 |p,q=>PV.le p q
theorem uw(p:PV):PV.jD p p:=by cases p<;>first|rfl|(unfold PV.jD;split<;>trivial)
theorem Ke:∀(l:List PV),PV.wC l l
 | []=>trivial
 |p::ps=>⟨uw p,Ke ps⟩
theorem bT(p:PV):PV.le p p:=by cases p<;>first|exact Ke _|(simp only[PV.le];exact uw _)
theorem Qo.le{X:Nat->Prop}{p q:PV}{v:Value}(h:Qo w X p v)(hl:PV.jD p q):Qo w X q v:=by
 unfold PV.jD at hl;split at hl
 ·cases h;exact .gS _ _ _ (KbG _)
 ·subst hl;exact h
theorem K2:∀(ps qs:List PV),PV.wC ps qs->qs.length=ps.length/\∀(i:Nat)(q:PV),qs[i]? =some q->∃p,ps[i]? =some p/\PV.jD p q
 | [],[],_=>⟨rfl,by simp⟩
 | [],_::_,h=>h.elim
 |_::_,[],h=>h.elim
 |p::ps,q::qs,h=>by
  obtain⟨h1,h2⟩:=K2 ps qs h.2;refine⟨by simp[h1],fun i x hx=>?_⟩;cases i with
  |zero=>simp at hx;subst hx;exact⟨p,rfl,h.1⟩
  |succ i=>simp at hx;simpa using h2 i x hx
theorem Cs:∀(ps qs:List PV),PV.zK ps qs->qs.length=ps.length/\∀(i:Nat)(q:PV),qs[i]? =some q->∃p,ps[i]? =some p/\PV.le p q
 | [],[],_=>⟨rfl,by simp⟩
 | [],_::_,h=>h.elim
 |_::_,[],h=>h.elim
 |p::ps,q::qs,h=>by
  obtain⟨h1,h2⟩:=Cs ps qs h.2;refine⟨by simp[h1],fun i x hx=>?_⟩;cases i with
  |zero=>simp at hx;subst hx;exact⟨p,rfl,h.1⟩
  |succ i=>simp at hx;simpa using h2 i x hx
theorem bc.le{X:Nat->Prop}{p q:PV}{v:Value}(h:bc w X p v)(hl:PV.le p q):bc w X q v:=by
 by_cases hp:∃ps,p= .agg ps
 ·obtain⟨ps,rfl⟩:=hp;by_cases hq:∃qs,q= .agg qs
  ·obtain⟨qs,rfl⟩:=hq;obtain⟨h1,h2⟩:=K2 ps qs hl;obtain⟨vs,rfl,g1,g2⟩:=h;refine⟨vs,rfl,by omega,fun i x hx=>?_⟩;obtain⟨p,hp,hle⟩:=h2 i x hx;exact(g2 i p hp).le hle
  ·have:PV.jD (.agg ps) q:=by cases q<;>first|exact hl|exact absurd ⟨_,rfl⟩ hq
   have:q= .agg ps:=by
    unfold PV.jD at this;split at this
    ·rename_i h1;cases h1
    ·exact this.symm
   exact absurd ⟨_,this⟩ hq
 ·have h1:Qo w X p v:=by cases p<;>first|exact h|exact absurd ⟨_,rfl⟩ hp
  have h2:PV.jD p q:=by cases p<;>first|exact hl|exact absurd ⟨_,rfl⟩ hp
  exact bc.nI (h1.le h2)
theorem dC.le{X:Nat->Prop}{p q:PV}{v:Value}(h:dC w X p v)(hl:PV.wD p q):dC w X q v:=by
 by_cases hp:∃ps,p= .aO ps
 ·obtain⟨ps,rfl⟩:=hp;by_cases hq:∃qs,q= .aO qs
  ·obtain⟨qs,rfl⟩:=hq;obtain⟨h1,h2⟩:=Cs ps qs hl;obtain⟨vs,rfl,g1,g2⟩:=h;refine⟨vs,rfl,by omega,fun i x hx=>?_⟩;obtain⟨p,hp,hle⟩:=h2 i x hx;exact(g2 i p hp).le hle
  ·have:PV.le (.aO ps) q:=by cases q<;>first|exact hl|exact absurd ⟨_,rfl⟩ hq
   have:PV.jD (.aO ps) q:=this;have:q= .aO ps:=by
    unfold PV.jD at this;split at this
    ·rename_i h1;cases h1
    ·exact this.symm
   exact absurd ⟨_,this⟩ hq
 ·have h1:bc w X p v:=by cases p<;>first|exact h|exact absurd ⟨_,rfl⟩ hp
  have h2:PV.le p q:=by cases p<;>first|exact hl|exact absurd ⟨_,rfl⟩ hp
  exact dC.MO (h1.le h2)
def lI (P : Program) (f : FuncId) : Prop := (P.funcs[f]?).any (fun fn => fn.body.isSome && fn.name != "runtime.NumGoroutine") = true
def Qd(P:Program)(f:FuncId)(args:List PV)(R:PV->Prop):Prop:=
 lI P f/\∀(w:World)(X:Nat->Prop)(aU:Array Value),(∀b,X b->b<w.heap.size)->aU.size=args.length->(∀(i:Nat)(x:PV),args[i]? =some x->bc w X x (aU.getD i undef))->
  Calls P f aU w fun e w'=>∃v r,e= .returned v/\Ext bW w w'/\dC w' X r v/\R r
theorem Qd.le{P:Program}{f:FuncId}{args args':List PV}{R:PV->Prop}(h:Qd P f args R)(hl:PV.zK args' args):Qd P f args' R:=by obtain⟨h1,h2⟩:=Cs _ _ hl;refine⟨h.1,fun w X aU g1 g2 g3=>h.2 w X aU g1 (by omega) (fun i x hx=>?_)⟩;obtain⟨p,hp,hle⟩:=h2 i x hx;exact(g3 i p hp).le hle
def fe(args:List PV):Fr:=fun i=>(args[i]?).getD .undef
def gQ(fr:Fr)(hp:HP):RV->Prop
 |.t s=>(Qy hp (fr s)).aA=true
 |.cell s n ag=>match fr s with
  |.mp β i o=>match hp β with
   |some hb=>i<hb.xs.length/\o+n<=hb.e/\(ag=false->n=1)
   |none=>False
  |_=>False
def gx(fr:Fr)(hp:HP):RV->PV
 |.t s=>Qy hp (fr s)
 |.cell s n ag=>match fr s with
  |.mp β i o=>match hp β with
   |some hb=>di ag n o ((hb.xs[i]?).getD .undef)
   |none=>.undef
  |_=>.undef
def eE(rs:List RV)(R:PV->Prop):Qg:=fun fr hp=>match rs with
 | [r]=>gQ fr hp r/\∃p,PV.le (gx fr hp r) p/\R p
 |rs=>(∀r∈rs,gQ fr hp r)/\∃p,PV.wD (.aO (rs.map (gx fr hp))) p/\R p
def gC(tmps:Array Value):ResultVar->Sem Value
 |.tmp t=>pure (tmps.getD t undef)
 |.cell x t=>do loadVar t (<-asAddr (tmps.getD x undef))
def lr(fr:Fr):RV->List Nat
 |.t s=>(fr s).refs
 |.cell _ _ _=>[]
theorem Kf{l l':List Nat}(h:∀β∈l,β∈l'){b:Nat}(hx:aB C ρ (bw hp l') b):aB C ρ (bw hp l) b:=by
 rcases hx with hx|⟨γ,hg,h1,h2,h3⟩
 ·exact .inl hx
 ·obtain⟨lO,g1,_,_,_,g5,g6⟩:=tT h1;refine .inr ⟨γ,lO,?_,by rw[<-g5 h2];exact h2,h3⟩;have hn:γ ∉ l:=fun hl=>g6 h2 (h γ hl);unfold bw;rw[if_neg (by simpa using hn)];exact g1
theorem tS:bw hp []=hp:=by funext β;simp[bw]
theorem NH{p:PV}(h:(Qy hp p).aA=true):∀β∈p.refs,aI β=false:=by
 have h1:∀q:PV,(bR hp q).eY=true->∀β∈q.bg,aI β=false:=by
  intro q hq β aj;cases q with
  |mp γ i o=>simp only[PV.bg,KaB]at aj;subst aj;cases hy:aI β with
   |false=>rfl
   |true=>simp[bR,hy,PV.eY]at hq
  |aq γ o n=>simp only[PV.bg,KaB]at aj;subst aj;cases hy:aI β with
   |false=>rfl
   |true=>simp[bR,hy,PV.eY]at hq
  |rb=>simp[bR,PV.eY]at hq
  |_=>cases aj
 intro β aj;cases p with
 |mp γ i o=>exact h1 (.mp γ i o) (by cases hq:bR hp (.mp γ i o)<;>simp_all[Qy,PV.aA,PV.eY]) β aj
 |aq γ o n=>exact h1 (.aq γ o n) (by cases hq:bR hp (.aq γ o n)<;>simp_all[Qy,PV.aA,PV.eY]) β aj
 |rb=>simp[Qy,bR,PV.aA]at h
 |fn f first cap=>
  simp only[Qy,PV.aA,Ka1,List.all_map,Kaw]at h;rcases KaT.1 aj with aj|aj
  ·obtain⟨x,hx,aj⟩:=Kan.1 aj;exact h1 x (h.1 x hx) β aj
  ·obtain⟨x,hx,aj⟩:=Kan.1 aj;exact h1 x (h.2 x hx) β aj
 |_=>cases aj
theorem YB{rv:RV}(h:gQ fr hp rv):∀β∈lr fr rv,aI β=false:=by
 cases rv with
 |t s=>exact NH h
 |cell=>intro β aj;cases aj
theorem Kg{P:Program}(hP:C.P=P){r:ResultVar}{rv:RV}(hc:eT P r=some rv)(h:Qv C ρ fr hp a.tmps w)(ho:gQ fr hp rv):
  ∃v,(gC a.tmps r).run P w= .ok v w/\bc w (aB C ρ (bw hp (lr fr rv))) (gx fr hp rv) v:=by
 subst hP;cases r with
 |tmp t=>simp[eT]at hc;subst hc;exact⟨_,rfl,m8 h (h.cd t) (fun β aj=>aj) ho⟩
 | cell x t=>
  simp only[eT,Kab,Kaa]at hc;obtain⟨n,hn,ag,fX,rfl⟩:=hc;have hx:=h.cd x;simp only[gQ]at ho;split at ho
  ·rename_i β i o kP;rw[kP]at hx;split at ho
   ·rename_i hb aj;obtain⟨h1,h2,h3⟩:=ho;obtain⟨b,cq,g1,g2,g3⟩:=hx.tC;rw[aj]at g2;cases g2;have aY:=h.own β hb aj;have aP:=aY.ca;rw[g1]at aP;obtain⟨_,iL,cur,cap,c1,c2,c3,c4,c5⟩:=aP;have eg:=Kaf h1;have dY:=(aY.len i _ eg).1;have cP:i<cap:=by omega
    have mF:∀j,j<n->i*hb.e+o+j<cur.size:=fun j hj=>by rw[c2];exact jM cP h2 hj
    have bD:=tP (P:=C.P) (t:=t) (b:=b) (off:=i*hb.e+o) (vs:=Array.ofFn (n:=n) fun j=>cur.getD (i*hb.e+o+j.val) undef) hn fX h3 (by simp) w
     (fun j hj=>by rw[mV (f:=fun j=>cur.getD (i*hb.e+o+j) undef) hj];exact iu c1 (mF j hj))
    obtain⟨V,hV⟩:∃V:Value,V=(if ag then .agg (Array.ofFn (n:=n) fun j=>cur.getD (i*hb.e+o+j.val) undef)else(Array.ofFn (n:=n) fun j=>cur.getD (i*hb.e+o+j.val) undef).getD 0 undef):=⟨_,rfl⟩
    rw[<-hV]at bD;refine⟨V,?_,?_⟩
    ·simp only[gC,g3,asAddr,Kak,KaN,Kai];exact bD
    ·have:bc w (aB C ρ hp) (di ag n o (hb.xs[i]'h1)) (if ag then .agg (Array.ofFn (n:=n) fun j=>cur.getD (i*hb.e+o+j.val) undef)else(Array.ofFn (n:=n) fun j=>cur.getD (i*hb.e+o+j.val) undef).getD 0 undef):=
      uL (by simp) (by rw[dY];exact h2) h3 (fun j y hj hy=>by rw[mV (f:=fun j=>cur.getD (i*hb.e+o+j) undef) hj,KbL];exact c5 i _ eg (o+j) y hy)
     simp only[gx,kP,aj,eg,Kbo];rw[hV];simp only[lr,tS];exact this
   ·exact ho.elim
  ·exact ho.elim
theorem Jq{P:Program}(hP:C.P=P)(h:Qv C ρ fr hp a.tmps w):∀(rl:List ResultVar)(rs:List RV),rl.mapM (eT P)=some rs->(∀r∈rs,gQ fr hp r)->
  ∃vs:List Value,vs.length=rs.length/\(rl.mapM (gC a.tmps)).run P w= .ok vs w/\∀(i:Nat)(r:RV),rs[i]? =some r->∃v,vs[i]? =some v/\bc w (aB C ρ (bw hp (rs.flatMap (lr fr)))) (gx fr hp r) v
 | [],rs,hc,_=>by simp at hc;subst hc;exact⟨[],rfl,by simp,by simp⟩
 | x::rl,rs,hc,ho=>by
  rw[KbT]at hc;simp only[KbF,KbX,Kab,Kar]at hc;obtain⟨r,hr,Gi,cr,rfl⟩:=hc;obtain⟨v,h1,h2⟩:=Kg hP hr h (ho r (by simp));obtain⟨vs,g1,g2,g3⟩:=Jq hP h rl Gi cr (fun q hq=>ho q (by simp[hq]));refine⟨v::vs,by simp[g1],by simp[KbT,Kak,h1,g2],fun i q hq=>?_⟩;cases i with
  |zero=>simp at hq;subst hq;exact⟨v,rfl,h2.mono (fun _ _ _=>rfl) (fun _ _ hn hx=>hn (Kf (fun β aj=>by rw[KaA];exact KbS _ aj) hx)) (Kag _)⟩
  |succ i=>simp at hq;obtain⟨v',k1,k2⟩:=g3 i q hq;exact⟨v',by simpa using k1,k2.mono (fun _ _ _=>rfl) (fun _ _ hn hx=>hn (Kf (fun β aj=>by rw[KaA];exact Kbh _ aj) hx)) (Kag _)⟩
theorem By{P:Program}(hP:C.P=P){fn:Func}{rs:List RV}{Rr:PV->Prop}(hc:fn.results.toList.mapM (eT P)=some rs)(h:Qv C ρ fr hp a.tmps w)(hr:eE rs Rr fr hp):
  ∃v r,(results fn a.tmps).run P w= .ok v w/\dC w (aB C ρ (bw hp (rs.flatMap (lr fr)))) r v/\(∀β∈rs.flatMap (lr fr),aI β=false)/\Rr r:=by
 have cx:(∀r∈rs,gQ fr hp r):=by
  intro r dZ
  match rs,hr,dZ with
  | [r0],hr,dZ=>simp at dZ;subst dZ;exact hr.1
  | [],hr,dZ=>cases dZ
  |r0::r1::rest,hr,dZ=>exact hr.1 r dZ
 have hN:∀β∈rs.flatMap (lr fr),aI β=false:=fun β aj=>by obtain⟨r,hr,aj⟩:=Kan.1 aj;exact YB (cx r hr) β aj
 obtain⟨vs,hlen,bD,tw⟩:=Jq hP h _ rs hc cx;have eI:(results fn a.tmps).run P w= .ok (if h:vs.toArray.size=1 then vs.toArray[0]else .tuple vs.toArray) w:=by
  have e:results fn a.tmps=(do let vs<-fn.results.mapM (gC a.tmps);pure (if h:vs.size=1 then vs[0]else .tuple vs)):=rfl;rw[e,Kbl];simp only[Kak];have h2:(List.toArray<$>fn.results.toList.mapM (gC a.tmps):Sem (Array Value)).run P w= .ok vs.toArray w:=by simp[bD]
  rw[h2];rfl
 match rs,hr,hlen,tw,hN with
 | [r0],hr,hlen,tw,hN=>
  have h1:vs.toArray.size=1:=by simpa using hlen
  rw[dif_pos h1]at eI;obtain⟨v,h2,h3⟩:=tw 0 r0 rfl;have e:vs.toArray[0]=v:=by
   have:vs[0]? =some (vs.toArray[0]):=by simp[hlen]
   rw[h2]at this;exact(Kac this).symm
  rw[e]at eI;obtain⟨_,p,hle,vF⟩:=hr;exact⟨_,_,eI,dC.MO (h3.le hle),hN,vF⟩
 | [],hr,hlen,tw,hN=>
  have h1:¬vs.toArray.size=1:=by simp[hlen]
  rw[dif_neg h1]at eI;obtain⟨_,p,hle,vF⟩:=hr;exact⟨_,_,eI,dC.le (p:=.aO []) ⟨vs.toArray,rfl,by simp[hlen],by simp⟩ hle,hN,vF⟩
 |r0::r1::rest,hr,hlen,tw,hN=>
  have h1:¬vs.toArray.size=1:=by simp[hlen]
  rw[dif_neg h1]at eI;obtain⟨_,p,hle,vF⟩:=hr;refine⟨_,_,eI,dC.le (p:=.aO ((r0::r1::rest).map (gx fr hp))) ⟨vs.toArray,rfl,by simp[hlen],fun i x hx=>?_⟩ hle,hN,vF⟩;simp only[Kap,Kaa]at hx;obtain⟨rv,hrv,rfl⟩:=hx;obtain⟨v,h2,h3⟩:=tw i rv hrv;rw[pX,Kae,h2];exact h3
theorem Jr{P:Program}(hP:C.P=P){fn:Func}{rs:List RV}{Rr:PV->Prop}(hc:fn.results.toList.mapM (eT P)=some rs)(h:Qv C ρ fr hp a.tmps w)(hr:eE rs Rr fr hp):
  ∃v r,(results fn a.tmps).run P w= .ok v w/\dC w C.X0 r v/\Rr r:=by
 obtain⟨v,r,h1,h2,_,h3⟩:=By hP hc h hr;exact⟨v,r,h1,h2.mono (fun _ _ _=>rfl) (fun _ _ hn hx=>hn (.inl hx)) (Kag _),h3⟩
theorem NI{P:Program}(hP:C.P=P){fn:Func}{rs:List RV}{Rr:PV->Prop}(hc:fn.results.toList.mapM (eT P)=some rs)(h:Qv C ρ fr hp a.tmps w)(hr:eE rs Rr fr hp)
  {X:Nat->Prop} (hX:∀c,X c->C.X0 c∨∃β hb,aI β=true/\hp β=some hb/\hb.fz=false/\ρ β=some c):
  ∃v r,(results fn a.tmps).run P w= .ok v w/\dC w X r v/\Rr r:=by
 obtain⟨v,r,h1,h2,h3,h4⟩:=By hP hc h hr;refine⟨v,r,h1,h2.mono (fun _ _ _=>rfl) (fun c _ hn hx=>hn ?_) (Kag _),h4⟩;rcases hX c hx with hx|⟨β,hb,k1,k2,k3,k4⟩
 ·exact .inl hx
 ·refine .inr ⟨β,hb,?_,k3,k4⟩;have hn:β ∉ rs.flatMap (lr fr):=fun hl=>by rw[h3 β hl]at k1;cases k1
  unfold bw;rw[if_neg (by simpa using hn)];exact k2
theorem Qf {P : Program} {f : FuncId} {fn : Func} {sf : az} {args : List PV} {Rr : PV -> Prop} (hm : P.follows .mixedOrders = true) (hf : P.funcs[f]? = some fn) (kT : (fn.name != "runtime.NumGoroutine") = true) (hc : Qe P fn = some sf) (hn : args.length <= sf.n /\ sf.n <= 1000000)
  (hv:∀C:Ctx,C.P=P->vc C (eE sf.rs Rr) [.c sf.body] (fe args) au):Qd P f args Rr:=by
 simp only[Qe,Kab,Kaa]at hc;obtain⟨c,hb,sb,fY,rs,cr,rfl⟩:=hc;refine⟨by simp[lI,hf,hb];simpa using kT,fun w X aU hX dI eA=>?_⟩
 let C:Ctx:=Ctx.plain P fn.ntmps w X hX hn.2
 refine calls_of_wp hf hb ?_;have nD:(aU++Array.replicate (fn.ntmps-aU.size) undef).size=fn.ntmps:=by simp at hn ⊢;omega
 have kW:cT C (fe args) au (aU++Array.replicate (fn.ntmps-aU.size) undef) w:=by
  refine⟨fun _=>none,nD,Ext.refl _ _,(fun _ _ h=>by cases h),by simp[au],by simp[au],fun i=>?_⟩;unfold fe;cases hi:args[i]? with
  |none=>trivial
  | some p=>
   simp only[Kbo];have eH:i<aU.size:=by rw[dI];exact(Kad.1 hi).1
   have hr:=eA i p hi;have e:(aU++Array.replicate (fn.ntmps-aU.size) undef).getD i undef=aU.getD i undef:=by rw[gV,if_pos eH]
   rw[e];refine Qj.iT (hr.mono (fun _ _ _=>rfl) (fun b _ hn hx=>?_) (Kag _));rcases hx with hx|⟨_,_,h1,_⟩
   ·exact hn hx
   ·simp[au]at h1
 have fin:∀(fr:Fr)(hp:HP)(a:Act)(w':World),a.defers=[]->cT C fr hp a.tmps w'->eE rs Rr fr hp->
   a.defers=[]/\∃v,(results fn a.tmps).run P w'= .ok v w'/\∃v' r,Ending.returned v= .returned v'/\Ext bW w w'/\dC w' X r v'/\Rr r:=by
  intro fr hp a w' hd ⟨ρ,hs⟩ hr;obtain⟨v,r,h1,h2,h3⟩:=Jr (C:=C) rfl cr hs hr;exact⟨hd,v,h1,v,r,rfl,Ctx.Gg hs.ext,h2,h3⟩
 exact Bx (C:=C) (R:=eE rs Rr) hm c sb [] _ (fe args) au _ w fY ⟨fun fr hp a w' hd hs hv=>(by rw[oW]at hv;exact fin fr hp a w' hd hs hv),fun id dm he=>(by simp[FW.bJ]at he),fin⟩ rfl kW (hv C rfl)
end Go.FW
namespace Go.FW
open Go
variable {C : Ctx} {ρ : Nat -> Option Nat} {fr : Fr} {hp : HP} {w : World} {a : Act} {K R : Qg}
def eO(fr:Fr)(d:Option Nat)(r:PV):Fr:=match d with|some d=>ae fr d r|none=>fr
theorem Qj.zP{p:PV}{v:Value}(h:dC w (aB C ρ hp) p v):Qj C ρ hp w p v:=by
 cases p with
 |aO ps=>exact h
 |_=>exact Qj.iT h
theorem u3{tmps:Array Value}(h:Qv C ρ fr hp tmps w):∀b,aB C ρ hp b->b<w.heap.size:=by
 rintro b (hx|⟨β,hb,h1,_,h3⟩)
 ·exact Ka8 (C.y7 b hx) h.ext.size
 ·have:=(h.own β hb h1).ca;rw[h3]at this;exact this.2.1
theorem Qv.zX{tmps:Array Value}{d:Option Nat}(h:Qv C ρ fr hp tmps w){p:PV}{v:Value}(hv:Qj C ρ hp w p v)(hd:∀x,d=some x->x<C.N):Qv C ρ (eO fr d p) hp (o8 tmps d v) w:=by
 cases d with
 |some d=>exact h.ae hv (hd d rfl)
 |none=>exact h
theorem Kh{tmps:Array Value}{first cap args:List PV}{fv cv av:Array Value}(hs:Qv C ρ fr hp tmps w)(h1:fv.size=first.length)(_h2:cv.size=cap.length)(h3:av.size=args.length)
  (kV:∀(i:Nat)(x:PV),first[i]? =some x->cg C ρ hp w x (fv.getD i undef)) (iM:∀(i:Nat)(x:PV),cap[i]? =some x->cg C ρ hp w x (cv.getD i undef)) (mL:∀(i:Nat)(x:PV),args[i]? =some x->Qj C ρ hp w x (av.getD i undef))
  (cQ:((first++args++cap).map (Qy hp)).all PV.aA=true):
  ∀(i:Nat)(x:PV),((first++args++cap).map (Qy hp))[i]? =some x->bc w (aB C ρ (bw hp ((first++args++cap).flatMap PV.refs))) x ((fv++av++cv).getD i undef):=by
 intro i x hx;rw[Kaw]at cQ;have gd:=cQ x (Kah hx);simp only[Kap,Kaa]at hx;obtain⟨p,hp',rfl⟩:=hx;have tn:=Kah hp';have hl:∀β∈p.refs,β∈(first++args++cap).flatMap PV.refs:=fun β aj=>Kan.2 ⟨p,tn,aj⟩;have M3:∀ {p:PV} {v:Value},cg C ρ hp w p v->(Qy hp p).aA=true->Qj C ρ hp w p v:=by
  intro p v hr hd;cases p with
  |undef=>trivial
  |mp=>exact hr
  |aq=>exact hr
  |rb=>exact hr
  |np=>exact hr
  |aE=>exact hr
  |_=>exact Qj.iT (bc.nI hr)
 rw[gV];rw[KaQ]at hp';by_cases c1:i<(first++args).length
 ·rw[if_pos c1]at hp';rw[if_pos (by simp only[KbV,h1,h3];simpa using c1),gV];rw[KaQ]at hp';by_cases c2:i<first.length
  ·rw[if_pos c2]at hp';rw[if_pos (by omega)];exact m8 hs (M3 (kV i p hp') gd) hl gd
  ·rw[if_neg c2]at hp';rw[if_neg (by omega),h1];exact m8 hs (mL _ p hp') hl gd
 ·rw[if_neg c1]at hp';have dI:(fv++av).size=(first++args).length:=by simp[h1,h3]
  rw[if_neg (by omega),dI];exact m8 hs (M3 (iM _ p hp') gd) hl gd
theorem Js{P:Program}(hP:C.P=P){g:FuncId}{first cap args aM:List PV}{pr:Bool}{d:Option Nat}{Rr:PV->Prop}(h:Qd P g aM Rr)(cl:(first++args++cap).map (Qy hp)=aM)(cQ:aM.all PV.aA=true)
  (hK:∀r,Rr r->K (eO fr d r) (bw hp ((first++args++cap).flatMap PV.refs))):eD C pr (.fn g first cap) args d fr hp K:=by
 subst hP;refine⟨h.1,fun ρ tmps w fv cv av mB hs h1 h2 h3 kV iM mL=>?_⟩;have hf:=hs.freeze ((first++args++cap).flatMap PV.refs);refine(h.2 w _ (fv++av++cv) (u3 hf) (by rw[<-cl];simp[h1,h2,h3]) (by rw[<-cl];exact Kh hs h1 h2 h3 kV iM mL (by rw[cl];exact cQ))).mono ?_;rintro e w' ⟨v,r,rfl,hx,hr,hRr⟩;exact⟨v,_,_,rfl,⟨ρ,(hf.grow hx).zX (Qj.zP hr) mB⟩,fun _=>hx,hK r hRr⟩
theorem ix{P:Program}(hP:C.P=P){g:FuncId}{first cap args aM:List PV}{pr:Bool}{d:Option Nat}{r:PV}(h:Qd P g aM (· =r))(cl:(first++args++cap).map (Qy hp)=aM)(cQ:aM.all PV.aA=true)
  (hK:K (eO fr d r) (bw hp ((first++args++cap).flatMap PV.refs))):eD C pr (.fn g first cap) args d fr hp K:=
 Js hP h cl cQ (fun _ hr=>hr▸hK)
def PV.F8:PV->Bool
 |.int .. | .bool _=>true
 |.aO ps=>ps.all fun p=>match p with| .int .. | .bool _=>true|_=>false
 |_=>false
theorem QW{X X':Nat->Prop}{p:PV}{v:Value}(hs:p.F8=true)(h:dC w X p v):dC w X' p v:=by
 have one:∀(p:PV)(v:Value),(match p with| .int .. | .bool _=>true|_=>false:Bool)=true->bc w X p v->bc w X' p v:=by
  intro p v hs h;cases p with
  |int k n=>cases h;exact Qo.int k n
  |bool b=>cases h;exact Qo.bool b
  |_=>cases hs
 cases p with
 |int k n=>exact one (.int k n) v rfl h
 |bool b=>exact one (.bool b) v rfl h
 |aO ps=>obtain⟨vs,rfl,h1,h2⟩:=h;simp only[PV.F8,Kaw]at hs;exact⟨vs,rfl,h1,fun i x hx=>one x _ (hs x (Kah hx)) (h2 i x hx)⟩
 |_=>cases hs
def mj(C:Ctx)(R:Qg)(c:PV)(x y:SC)(sk:List It)(fr:Fr)(hp:HP):Prop:=oZ c (vc C R (.c x::sk) fr hp) (vc C R (.c y::sk) fr hp)
def qK(C:Ctx)(R:Qg)(x y:RT)(sk:List It)(fr:Fr)(hp:HP):Prop:=vc C R (.o x::sk) fr hp/\vc C R (.o y::sk) fr hp
def fp(C:Ctx)(p:PV)(s:Nat)(want:Bool)(o:bN)(fr:Fr)(hp:HP)(K:Qg):Prop:=match p with
  |.bool t=>(t=want->aV C o (ae fr s (.bool want)) hp K)/\(t=(!want)->gi o (ae fr s (.bool !want)) hp K)
  |.aO []=>gi o fr hp K
  |_=>False
theorem Qb{p:Prop}[Decidable p]{x y:SC}{sk:List It}(h1:p->vc C R (.c x::sk) fr hp)(h2:¬p->vc C R (.c y::sk) fr hp):mj C R (.bool (decide p)) x y sk fr hp:=
 ⟨fun h=>h1 (of_decide_eq_true h),fun h=>h2 (of_decide_eq_false h)⟩
theorem uf{b:Bool}{x y:SC}{sk:List It}(h1:b=true->vc C R (.c x::sk) fr hp)(h2:b=false->vc C R (.c y::sk) fr hp):mj C R (.bool b) x y sk fr hp:=⟨h1,h2⟩
theorem eK{p:Prop}[Decidable p]{s:Nat}{o:bN}(h1:p->fp C (.bool true) s true o (ae fr s (.bool true)) hp K)(h2:¬p->fp C (.bool false) s true o (ae fr s (.bool false)) hp K):fp C (.bool (decide p)) s true o fr hp K:=by
 have hu:∀(b:Bool),ae (ae fr s (.bool b)) s (.bool b)=ae fr s (.bool b):=fun b=>by funext i;unfold ae;split<;>rfl
 refine⟨fun h=>?_,fun h=>?_⟩
 ·have:=(h1 (of_decide_eq_true h)).1 rfl
  rwa[hu]at this
 ·have:=(h2 (of_decide_eq_false h)).2 rfl
  rwa[show(!true)=false from rfl,hu]at this
theorem dA{p:Prop}[Decidable p]{s:Nat}{o:bN}(h1:p->fp C (.bool true) s false o (ae fr s (.bool true)) hp K)(h2:¬p->fp C (.bool false) s false o (ae fr s (.bool false)) hp K):fp C (.bool (decide p)) s false o fr hp K:=by
 have hu:∀(b:Bool),ae (ae fr s (.bool b)) s (.bool b)=ae fr s (.bool b):=fun b=>by funext i;unfold ae;split<;>rfl
 refine⟨fun h=>?_,fun h=>?_⟩
 ·have:=(h2 (of_decide_eq_false h)).1 rfl
  rwa[hu]at this
 ·have:=(h1 (of_decide_eq_true h)).2 rfl
  rwa[show(!false)=true from rfl,hu]at this
theorem rQ{b want:Bool}{s:Nat}{o:bN}(h1:b=true->fp C (.bool true) s want o (ae fr s (.bool true)) hp K)(h2:b=false->fp C (.bool false) s want o (ae fr s (.bool false)) hp K):fp C (.bool b) s want o fr hp K:=by
 have:= @eK C fr hp K (b=true) _ s o;have e:b=decide (b=true):=by cases b<;>rfl
 rw[e];cases want with
 |true=>exact eK h1 (fun h=>h2 (by simpa using h))
 |false=>exact dA h1 (fun h=>h2 (by simpa using h))
theorem QX{sk:List It}{c:aF}{x y:SC}:vc C R (.c (.cond c x y)::sk) fr hp=mj C R (ev fr c) x y sk fr hp:=xZ
theorem VV{sk:List It}{x y:RT}:vc C R (.o (.br x y)::sk) fr hp=qK C R x y sk fr hp:=Ht
theorem VW{sk:List It}{o:bN}{r:RT}:vc C R (.o (.o none o r)::sk) fr hp=aV C o fr hp (vc C R (.o r::sk)):=ve
theorem VX{sk:List It}{s:Nat}{b:Bool}{o:bN}{r:RT}:vc C R (.o (.o (some (s,b)) o r)::sk) fr hp=fp C (fr s) s b o fr hp (vc C R (.o r::sk)):=ve
theorem vcs:
  (∀(C:Ctx)(R:Qg)(sk:List It)(x y:SC)(fr:Fr)(hp:HP),vc C R (.c (.seq x y)::sk) fr hp=vc C R (.c x:: .c y::sk) fr hp)/\
  (∀(C:Ctx)(R:Qg)(sk:List It)(id:Nat)(x:SC)(fr:Fr)(hp:HP),vc C R (.c (.block id x)::sk) fr hp=vc C R (.c x:: .eb id::sk) fr hp)/\
  (∀(C:Ctx)(R:Qg)(sk:List It)(fr:Fr)(hp:HP),vc C R (.c .skip::sk) fr hp=vc C R sk fr hp)/\
  (∀(C:Ctx)(R:Qg)(sk:List It)(r:RT)(fr:Fr)(hp:HP),vc C R (.c (.rg r)::sk) fr hp=vc C R (.o r::sk) fr hp)/\
  (∀(C:Ctx)(R:Qg)(sk:List It)(id:Nat)(fr:Fr)(hp:HP),vc C R (.eb id::sk) fr hp=vc C R sk fr hp)/\
  (∀(C:Ctx)(R:Qg)(sk:List It)(J:Qg)(fr:Fr)(hp:HP),vc C R (.el J::sk) fr hp=J fr hp)/\
  (∀(C:Ctx)(R:Qg)(sk:List It)(fr:Fr)(hp:HP),vc C R (.c .ret::sk) fr hp=R fr hp)/\
  (∀(C:Ctx)(R:Qg)(fr:Fr)(hp:HP),vc C R [] fr hp=R fr hp)/\
  (∀(C:Ctx)(R:Qg)(sk:List It)(c:aF)(x y:SC)(fr:Fr)(hp:HP),vc C R (.c (.cond c x y)::sk) fr hp=mj C R (ev fr c) x y sk fr hp)/\
  (∀(C:Ctx)(R:Qg)(sk:List It)(id:Nat)(fr:Fr)(hp:HP),vc C R (.c (.exit id)::sk) fr hp=qz C R (FW.bJ id sk) fr hp)/\
  (∀(C:Ctx)(R:Qg)(sk:List It)(fr:Fr)(hp:HP),vc C R (.o .nil::sk) fr hp=vc C R sk fr hp)/\
  (∀(C:Ctx)(R:Qg)(sk:List It)(o:bN)(r:RT)(fr:Fr)(hp:HP),vc C R (.o (.o none o r)::sk) fr hp=aV C o fr hp (vc C R (.o r::sk)))/\
  (∀(C:Ctx)(R:Qg)(sk:List It)(s:Nat)(b:Bool)(o:bN)(r:RT)(fr:Fr)(hp:HP),vc C R (.o (.o (some (s,b)) o r)::sk) fr hp=fp C (fr s) s b o fr hp (vc C R (.o r::sk)))/\
  (∀(C:Ctx)(R:Qg)(sk:List It)(x y:RT)(fr:Fr)(hp:HP),vc C R (.o (.br x y)::sk) fr hp=qK C R x y sk fr hp)/\
  (∀(C:Ctx)(R:Qg)(x y:SC)(sk:List It)(fr:Fr)(hp:HP),mj C R (.bool true) x y sk fr hp=vc C R (.c x::sk) fr hp)/\
  (∀(C:Ctx)(R:Qg)(x y:SC)(sk:List It)(fr:Fr)(hp:HP),mj C R (.bool false) x y sk fr hp=vc C R (.c y::sk) fr hp)/\
  (∀(C:Ctx)(R:Qg)(sk:List It)(fr:Fr)(hp:HP),qz C R (some sk) fr hp=vc C R sk fr hp)/\
  (∀(id:Nat)(s:SC)(sk:List It),FW.bJ id (.c s::sk)=FW.bJ id sk)/\
  (∀(id:Nat)(r:RT)(sk:List It),FW.bJ id (.o r::sk)=FW.bJ id sk)/\
  (∀(id:Nat)(J:Qg)(sk:List It),FW.bJ id (.el J::sk)=FW.bJ id sk)/\
  (∀(id i:Nat)(sk:List It),FW.bJ id (.eb i::sk)=if i=id then some sk else FW.bJ id sk)/\
  (∀(C:Ctx)(s:Nat)(o:bN)(fr:Fr)(hp:HP)(K:Qg),fp C (.bool true) s true o fr hp K=aV C o (ae fr s (.bool true)) hp K)/\
  (∀(C:Ctx)(s:Nat)(o:bN)(fr:Fr)(hp:HP)(K:Qg),fp C (.bool false) s true o fr hp K=gi o (ae fr s (.bool false)) hp K)/\
  (∀(C:Ctx)(s:Nat)(o:bN)(fr:Fr)(hp:HP)(K:Qg),fp C (.bool true) s false o fr hp K=gi o (ae fr s (.bool true)) hp K)/\
  (∀(C:Ctx)(s:Nat)(o:bN)(fr:Fr)(hp:HP)(K:Qg),fp C (.bool false) s false o fr hp K=aV C o (ae fr s (.bool false)) hp K)/\
  (∀(C:Ctx)(s:Nat)(b:Bool)(o:bN)(fr:Fr)(hp:HP)(K:Qg),fp C (.aO []) s b o fr hp K=gi o fr hp K):=by
 refine⟨fun _ _ _ _ _ _ _=>yr,fun _ _ _ _ _ _ _=>xM,fun _ _ _ _ _=>xY,fun _ _ _ _ _ _=>z0,fun _ _ _ _ _ _=>yE,fun _ _ _ _ _ _=>qy,fun _ _ _ _ _=>yt,fun _ _ _ _=>oW,fun _ _ _ _ _ _ _ _=>QX,
  fun _ _ _ _ _ _=>ya,fun _ _ _ _ _=>uU,fun _ _ _ _ _ _ _=>VW,fun _ _ _ _ _ _ _ _ _=>VX,fun _ _ _ _ _ _ _=>VV,fun _ _ _ _ _ _ _=>?_,fun _ _ _ _ _ _ _=>?_,fun _ _ _ _ _=>rfl,fun _ _ _=>rfl,fun _ _ _=>rfl,fun _ _ _=>rfl,fun _ _ _=>rfl,?_,?_,?_,?_,fun _ _ _ _ _ _ _=>rfl⟩
 ·simp[mj,oZ]
 ·simp[mj,oZ]
 all_goals intros;simp[fp]
end Go.FW
namespace Go.FW
open Go
variable {C : Ctx} {fr : Fr} {hp : HP} {K R : Qg}
theorem qh{n:Int}(h1: -9223372036854775808<=n)(h2:n<=9223372036854775807):IntKind.i64.wrap n=n:=by rw[IntKind.wrap_i64];omega
theorem QY{n:Int}(h1: -2147483648<=n)(h2:n<=2147483647):IntKind.i32.wrap n=n:=by rw[IntKind.wrap_i32];omega
theorem nO{n:Int}(h1:0<=n)(h2:n<=18446744073709551615):IntKind.u64.wrap n=n:=by rw[IntKind.wrap_u64];omega
theorem xN{n:Int}(h1:0<=n)(h2:n<=4294967295):IntKind.u32.wrap n=n:=by rw[IntKind.wrap_u32];omega
theorem QZ{n:Int}(h1:0<=n)(h2:n<=65535):IntKind.u16.wrap n=n:=by simp only[IntKind.wrap,IntKind.bits,IntKind.signed];simp;omega
theorem Sw{n:Int}(h1:0<=n)(h2:n<=255):IntKind.u8.wrap n=n:=by rw[IntKind.wrap_u8];omega
theorem Sx{x y:Int}(h:0<=x):x.tdiv y=x/y:=Int.tdiv_eq_ediv_of_nonneg h
theorem Sy{x y:Int}(h:0<=x):x.tmod y=x%y:=Int.tmod_eq_emod_of_nonneg h
def gw(hb:Option HB)(n:Nat)(ag:Bool)(i o:Nat)(d:Nat)(fr:Fr)(hp:HP)(K:Qg):Prop:=match hb with
 |some hb=>∃h:i<hb.xs.length,o+n<=hb.e/\(ag=false->n=1)/\K (ae fr d (di ag n o (hb.xs[i]'h))) hp
 |none=>False
def stM (hb:Option HB) (β:Nat) (n:Nat) (i o:Nat) (v:PV) (fr:Fr) (hp:HP) (K:Qg):Prop:=match hb with
  |some hb=>hb.fz=false/\v.aA=true/\v.cells.length=n/\∃h:i<hb.xs.length,o+n<=hb.e/\
        K fr (Qi hp β { hb with xs:=hb.xs.set i (if n=hb.e then v else nL (hb.xs[i]'h) o v) })
  |none=>False
def qE(R:PV->Prop)(p:PV):Prop:=p.aA=true/\∃q,PV.le p q/\R q
theorem Qc{p r:PV}(h:p=r)(hd:r.aA=true):qE (· =r) p:=by subst h;exact⟨hd,_,bT _,rfl⟩
theorem mc{p r:PV}(h:PV.le p r)(hd:p.aA=true):qE (· =r) p:=⟨hd,_,h,rfl⟩
theorem K3{e ty n:Nat}{ag fz:Bool}{o d:Nat}{x:PV}(h:o+n<=e)(ha:ag=false->n=1):gw (some ⟨e,ty,[x],fz⟩) n ag 0 o d fr hp K=K (ae fr d (di ag n o x)) hp:=by simp[gw,h];intro _;exact ha
theorem mg{e ty n i:Nat}{ag fz:Bool}{o d:Nat}{xs:List PV}(h:i<xs.length)(h1:o+n<=e)(ha:ag=false->n=1):gw (some ⟨e,ty,xs,fz⟩) n ag i o d fr hp K=K (ae fr d (di ag n o (xs[i]'h))) hp:=by simp[gw,h,h1];intro _;exact ha
theorem VY{e ty n β i:Nat}{o:Nat}{xs:List PV}{v:PV}(h:i<xs.length)(hv:v.aA=true)(hl:v.cells.length=n)(h1:o+n<=e):stM (some ⟨e,ty,xs,false⟩) β n i o v fr hp K=K fr (Qi hp β ⟨e,ty,xs.set i (if n=e then v else nL (xs[i]'h) o v),false⟩):=by simp[stM,h,h1,hv,hl]
theorem ON{ty n β i:Nat}{xs:List PV}{v:PV}(h:i<xs.length)(hv:v.aA=true)(hl:v.cells.length=n):stM (some ⟨n,ty,xs,false⟩) β n i 0 v fr hp K=K fr (Qi hp β ⟨n,ty,xs.set i v,false⟩):=by rw[VY h hv hl (by omega)];simp
theorem CM{e d:Nat}{k:IntKind}{m:Int}{xs:List PV}(h0:0<=m)(h:m<xs.length):aK e (.sl e xs) (.int k m) d fr hp K=K (ae fr d (.pt (xs[m.toNat]'(by omega)).cells)) hp:=by
 have:m.toNat<xs.length:=by omega
 simp[aK,h0,this]
theorem ql{α:Type}{f:α->PV}{e d:Nat}{k:IntKind}{m:Int}{xs:List α}(h0:0<=m)(h:m<xs.length):aK e (.sl e (xs.map f)) (.int k m) d fr hp K=K (ae fr d (.pt (f (xs[m.toNat]'(by omega))).cells)) hp:=by rw[CM h0 (by simpa using h)];simp
theorem yu{e d β o n:Nat}{k:IntKind}{m:Int}(h0:0<=m)(h:m<n)(he:(hp β).map (·.e)=some e):aK e (.aq β o n) (.int k m) d fr hp K=K (ae fr d (.mp β (o+m.toNat) 0)) hp:=by
 have:m.toNat<n:=by omega
 simp[aK,h0,this,he]
theorem yF{e by_ ty d:Nat}{z:PV}{k k':IntKind}{L Cc:Int}(h0:0<e)(hz:z.cells.length=e)(h1:0<=L)(h2:L<=Cc)(h3:by_*Cc<=281474976710656)(h4:Cc<=9223372036854775807):
  ks e by_ ty z (.int k L) (.int k' Cc) d fr hp K=K (ae (bB d fr) d (.ms d L.toNat)) (Qi hp d ⟨e,ty,List.replicate L.toNat z,false⟩):=by
 simp[ks,h0,hz,h1,h2,h3,h4]
theorem VZ{n ty d β o m:Nat}(hB:aI β=true):dO n ty (.aq β o m) d fr hp K=K (ae fr d (.rb β o m)) hp:=by simp[dO,hB]
theorem YC{d β o m:Nat}:bb 1 false (.rb β o m) d fr hp K=K (ae fr d (.aq β o m)) hp:=by simp[bb]
theorem Bz{e by_ ty d:Nat}{x:PV}{ys:List PV}(hs:gh hp x=some (e,ys))(h0:0<e)(h1:ys.length*by_<=140737488355328)(h2:ys.length<=9223372036854775807):
  fM e by_ ty .aa x d fr hp K=K (ae (bB d fr) d (.ms d ys.length)) (Qi hp d ⟨e,ty,ys,false⟩):=by
 simp[fM,hs,h0,h1,h2]
theorem BA{e by_ ty d β n:Nat}{x:PV}{ys xs:List PV}(hs:gh hp x=some (e,ys))(hb:hp β=some ⟨e,ty,xs,false⟩)(h0:0<e)(hn:n<=xs.length)(h1:(n+ys.length)*by_<=140737488355328)(h2:n+ys.length<=9223372036854775807)(hB:bm β=false:=by decide):
  fM e by_ ty (.ms β n) x d fr hp K=K (ae (bB β fr) d (.ms β (n+ys.length))) (Qi hp β ⟨e,ty,xs.take n++ys,false⟩):=by
 simp[fM,hs,hb,h0,hn,h1,h2,hB]
theorem z4{e d:Nat}{xs:List PV}{lo hi:Option PV}{L H:Int}(h1:fl 0 lo=some L)(h2:fl xs.length hi=some H)(h3:0<=L)(h4:L<=H)(h5:H<=xs.length):
  fH e (.sl e xs) lo hi none d fr hp K=K (ae fr d (.sl e ((xs.take H.toNat).drop L.toNat))) hp:=by
 have hM:fl (xs.length) none=some (xs.length:Int):=rfl;simp only[fH,h1,h2,hM];simp[h3,h4,h5]
theorem YD{e d:Nat}{xs:List PV}{k:IntKind}{H:Int}(h4:0<=H)(h5:H<=xs.length):
  fH e (.sl e xs) none (some (.int k H)) none d fr hp K=K (ae fr d (.sl e (xs.take H.toNat))) hp:=by
 rw[z4 (L:=0) (H:=H) rfl rfl (by omega) h4 h5];simp
theorem YE{e d:Nat}{xs:List PV}{k:IntKind}{L:Int}(h4:0<=L)(h5:L<=xs.length):
  fH e (.sl e xs) (some (.int k L)) none none d fr hp K=K (ae fr d (.sl e (xs.drop L.toNat))) hp:=by
 rw[z4 (L:=L) (H:=xs.length) rfl rfl h4 h5 (by omega)];simp
theorem adS:
  (∀(C:Ctx)(d:Nat)(x:aF)(fr:Fr)(hp:HP)(K:Qg),aV C (.mv d x) fr hp K=K (ae fr d (ev fr x)) hp)/\
  (∀(C:Ctx)(d:Nat)(c a b:aF)(fr:Fr)(hp:HP)(K:Qg),aV C (.pick d c a b) fr hp K=nW (ev fr c) (ev fr a) (ev fr b) d fr hp K)/\
  (∀(C:Ctx)(d:Nat)(op:BinOp)(bt:Bool)(a b:aF)(fr:Fr)(hp:HP)(K:Qg),aV C (.bin d op bt a b) fr hp K=bG op bt (ev fr a) (ev fr b) d fr hp K)/\
  (∀(C:Ctx)(d:Nat)(op:UnOp)(a:aF)(fr:Fr)(hp:HP)(K:Qg),aV C (.un d op a) fr hp K=pW op (ev fr a) d fr hp K)/\
  (∀(C:Ctx)(d:Nat)(k:IntKind)(a:aF)(fr:Fr)(hp:HP)(K:Qg),aV C (.conv d k a) fr hp K=qx k (ev fr a) d fr hp K)/\
  (∀(C:Ctx)(d:Nat)(a:aF)(fr:Fr)(hp:HP)(K:Qg),aV C (.len d a) fr hp K=lH (ev fr a) d fr hp K)/\
  (∀(C:Ctx)(d:Nat)(a b:aF)(fr:Fr)(hp:HP)(K:Qg),aV C (.mx d a b) fr hp K=rI (ev fr a) (ev fr b) d fr hp K)/\
  (∀(C:Ctx)(d:Nat)(a b:aF)(fr:Fr)(hp:HP)(K:Qg),aV C (.mn d a b) fr hp K=rG (ev fr a) (ev fr b) d fr hp K)/\
  (∀(C:Ctx)(d e:Nat)(a b:aF)(fr:Fr)(hp:HP)(K:Qg),aV C (.idx d e a b) fr hp K=aK e (ev fr a) (ev fr b) d fr hp K)/\
  (∀(C:Ctx)(d n e:Nat)(a b:aF)(fr:Fr)(hp:HP)(K:Qg),aV C (.lf d n e a b) fr hp K=nd n e (ev fr a) (ev fr b) d fr hp K)/\
  (∀(C:Ctx)(d n e:Nat)(ag:Bool)(a b:aF)(fr:Fr)(hp:HP)(K:Qg),aV C (.wA d n e ag a b) fr hp K=sR n e ag (ev fr a) (ev fr b) d fr hp K)/\
  (∀(C:Ctx)(d off:Nat)(a:aF)(fr:Fr)(hp:HP)(K:Qg),aV C (.aX d off a) fr hp K=nr off (ev fr a) d fr hp K)/\
  (∀(C:Ctx)(d off n:Nat)(ag:Bool)(a:aF)(fr:Fr)(hp:HP)(K:Qg),aV C (.s5 d off n ag a) fr hp K=nf off n ag (ev fr a) d fr hp K)/\
  (∀(C:Ctx)(d n:Nat)(ag:Bool)(a:aF)(fr:Fr)(hp:HP)(K:Qg),aV C (.ld d n ag a) fr hp K=bb n ag (ev fr a) d fr hp K)/\
  (∀(C:Ctx)(n:Nat)(a b:aF)(fr:Fr)(hp:HP)(K:Qg),aV C (.st n a b) fr hp K=kt n (ev fr a) (ev fr b) fr hp K)/\
  (∀(C:Ctx)(d n ty:Nat)(a:aF)(fr:Fr)(hp:HP)(K:Qg),aV C (.box d n ty a) fr hp K=dO n ty (ev fr a) d fr hp K)/\
  (∀(C:Ctx)(d n ty:Nat)(z:PV)(fr:Fr)(hp:HP)(K:Qg),aV C (.alloc d n ty z) fr hp K=dO n ty z d fr hp K)/\
  (∀(C:Ctx)(d e by_ ty:Nat)(z:PV)(l c:aF)(fr:Fr)(hp:HP)(K:Qg),aV C (.mk d e by_ ty z l c) fr hp K=ks e by_ ty z (ev fr l) (ev fr c) d fr hp K)/\
  (∀(C:Ctx)(d e ty:Nat)(ps:List aF)(fr:Fr)(hp:HP)(K:Qg),aV C (.bs d e ty ps) fr hp K=jj e ty (ps.map (ev fr)) d fr hp K)/\
  (∀(C:Ctx)(d e by_ ty:Nat)(a b:aF)(fr:Fr)(hp:HP)(K:Qg),aV C (.app d e by_ ty a b) fr hp K=fM e by_ ty (ev fr a) (ev fr b) d fr hp K)/\
  (∀(C:Ctx)(d e:Nat)(a b:aF)(fr:Fr)(hp:HP)(K:Qg),aV C (.pk d e a b) fr hp K=o7 e (ev fr a) (ev fr b) d fr hp K)/\
  (∀(C:Ctx)(d e:Nat)(a:aF)(l h m:Option aF)(fr:Fr)(hp:HP)(K:Qg),aV C (.sl d e a l h m) fr hp K=fH e (ev fr a) (l.map (ev fr)) (h.map (ev fr)) (m.map (ev fr)) d fr hp K)/\
  (∀(C:Ctx)(d:Nat)(a:aF)(i:Nat)(fr:Fr)(hp:HP)(K:Qg),aV C (.ext d a i) fr hp K=jf (ev fr a) i d fr hp K)/\
  (∀(C:Ctx)(d:Nat)(z:List PV)(ps:List (Nat×Nat×aF))(fr:Fr)(hp:HP)(K:Qg),aV C (.cw d z ps) fr hp K=gZ z (ps.map fun p=>(p.1,p.2.1,ev fr p.2.2)) d fr hp K)/\
  (∀(C:Ctx)(d f:Nat)(x y:List aF)(fr:Fr)(hp:HP)(K:Qg),aV C (.fn d f x y) fr hp K=((x.map (ev fr)++y.map (ev fr)).all PV.ij=true/\K (ae fr d (.fn f (x.map (ev fr)) (y.map (ev fr)))) hp))/\
  (∀(C:Ctx)(d:Option Nat)(pr:Bool)(f:aF)(sX:List aF)(fr:Fr)(hp:HP)(K:Qg),aV C (.call d pr f sX) fr hp K=eD C pr (ev fr f) (sX.map (ev fr)) d fr hp K)/\
  (∀(C:Ctx)(d:Option Nat)(x:aF)(fr:Fr)(hp:HP)(K:Qg),aV C (.wF d x) fr hp K=vd (ev fr x) d fr hp K)/\
  (∀(fr:Fr)(n:Nat),ev fr (.t n)=fr n)/\(∀(fr:Fr)(p:PV),ev fr (.c p)=p):=by
 refine⟨?_,?_,?_,?_,?_,?_,?_,?_,?_,?_,?_,?_,?_,?_,?_,?_,?_,?_,?_,?_,?_,?_,?_,?_,?_,?_,?_,?_,?_⟩<;>intros<;>rfl
theorem adT:
  (∀(bt:Bool)(k:IntKind)(x y:Int)(d:Nat)(fr:Fr)(hp:HP)(K:Qg),bG .add bt (.int k x) (.int k y) d fr hp K=K (ae fr d (.int k (k.wrap (x+y)))) hp)/\
  (∀(bt:Bool)(k:IntKind)(x y:Int)(d:Nat)(fr:Fr)(hp:HP)(K:Qg),bG .sub bt (.int k x) (.int k y) d fr hp K=K (ae fr d (.int k (k.wrap (x-y)))) hp)/\
  (∀(bt:Bool)(k:IntKind)(x y:Int)(d:Nat)(fr:Fr)(hp:HP)(K:Qg),bG .mul bt (.int k x) (.int k y) d fr hp K=K (ae fr d (.int k (k.wrap (x*y)))) hp)/\
  (∀(bt:Bool)(k:IntKind)(x y:Int)(d:Nat)(fr:Fr)(hp:HP)(K:Qg),bG .eql bt (.int k x) (.int k y) d fr hp K=K (ae fr d (.bool (decide (x=y)))) hp)/\
  (∀(bt:Bool)(k:IntKind)(x y:Int)(d:Nat)(fr:Fr)(hp:HP)(K:Qg),bG .neq bt (.int k x) (.int k y) d fr hp K=K (ae fr d (.bool (decide (¬x=y)))) hp)/\
  (∀(bt:Bool)(k:IntKind)(x y:Int)(d:Nat)(fr:Fr)(hp:HP)(K:Qg),bG .lss bt (.int k x) (.int k y) d fr hp K=K (ae fr d (.bool (decide (x<y)))) hp)/\
  (∀(bt:Bool)(k:IntKind)(x y:Int)(d:Nat)(fr:Fr)(hp:HP)(K:Qg),bG .leq bt (.int k x) (.int k y) d fr hp K=K (ae fr d (.bool (decide (x<=y)))) hp)/\
  (∀(bt:Bool)(k:IntKind)(x y:Int)(d:Nat)(fr:Fr)(hp:HP)(K:Qg),bG .gtr bt (.int k x) (.int k y) d fr hp K=K (ae fr d (.bool (decide (y<x)))) hp)/\
  (∀(bt:Bool)(k:IntKind)(x y:Int)(d:Nat)(fr:Fr)(hp:HP)(K:Qg),bG .geq bt (.int k x) (.int k y) d fr hp K=K (ae fr d (.bool (decide (y<=x)))) hp)/\
  (∀(x y:Bool)(d:Nat)(fr:Fr)(hp:HP)(K:Qg),bG .eql true (.bool x) (.bool y) d fr hp K=K (ae fr d (.bool (x==y))) hp)/\
  (∀(x y:Bool)(d:Nat)(fr:Fr)(hp:HP)(K:Qg),bG .neq true (.bool x) (.bool y) d fr hp K=K (ae fr d (.bool (!(x==y)))) hp)/\
  (∀(b:Bool)(d:Nat)(fr:Fr)(hp:HP)(K:Qg),pW .not (.bool b) d fr hp K=K (ae fr d (.bool (!b))) hp)/\
  (∀(k:IntKind)(n:Int)(d:Nat)(fr:Fr)(hp:HP)(K:Qg),pW .neg (.int k n) d fr hp K=K (ae fr d (.int k (k.wrap (0-n)))) hp)/\
  (∀(k k':IntKind)(n:Int)(d:Nat)(fr:Fr)(hp:HP)(K:Qg),qx k (.int k' n) d fr hp K=K (ae fr d (.int k (k.wrap n))) hp)/\
  (∀(d:Nat)(fr:Fr)(hp:HP)(K:Qg),lH .aa d fr hp K=K (ae fr d (.int .i64 0)) hp)/\
  (∀(e:Nat)(xs:List PV)(d:Nat)(fr:Fr)(hp:HP)(K:Qg),lH (.sl e xs) d fr hp K=K (ae fr d (.int .i64 xs.length)) hp)/\
  (∀(β o n:Nat)(d:Nat)(fr:Fr)(hp:HP)(K:Qg),lH (.aq β o n) d fr hp K=K (ae fr d (.int .i64 n)) hp)/\
  (∀(k k':IntKind)(x y:Int)(d:Nat)(fr:Fr)(hp:HP)(K:Qg),rI (.int k x) (.int k' y) d fr hp K=K (ae fr d (.int k (max x y))) hp)/\
  (∀(k k':IntKind)(x y:Int)(d:Nat)(fr:Fr)(hp:HP)(K:Qg),rG (.int k x) (.int k' y) d fr hp K=K (ae fr d (.int k (min x y))) hp)/\
  (∀(a b:PV)(d:Nat)(fr:Fr)(hp:HP)(K:Qg),nW (.bool true) a b d fr hp K=K (ae fr d a) hp)/\
  (∀(a b:PV)(d:Nat)(fr:Fr)(hp:HP)(K:Qg),nW (.bool false) a b d fr hp K=K (ae fr d b) hp)/\
  (∀(off β i o:Nat)(d:Nat)(fr:Fr)(hp:HP)(K:Qg),nr off (.mp β i o) d fr hp K=K (ae fr d (.mp β i (o+off))) hp)/\
  (∀(n:Nat)(ag:Bool)(β i o:Nat)(d:Nat)(fr:Fr)(hp:HP)(K:Qg),bb n ag (.mp β i o) d fr hp K=gw (hp β) n ag i o d fr hp K)/\
  (∀(c:PV)(cs:List PV)(d:Nat)(fr:Fr)(hp:HP)(K:Qg),bb 1 false (.pt (c::cs)) d fr hp K=K (ae fr d c) hp)/\
  (∀(n:Nat)(β i o:Nat)(v:PV)(fr:Fr)(hp:HP)(K:Qg),kt n (.mp β i o) v fr hp K=stM (bw hp v.refs β) β n i o (Qy hp v) fr (bw hp v.refs) K)/\
  (∀(ps:List PV)(p:PV)(d:Nat)(fr:Fr)(hp:HP)(K:Qg),jf (.aO (p::ps)) 0 d fr hp K=(p.aA=true/\K (ae fr d p) hp))/\
  (∀(ps:List PV)(p q:PV)(d:Nat)(fr:Fr)(hp:HP)(K:Qg),jf (.aO (p::q::ps)) 1 d fr hp K=(q.aA=true/\K (ae fr d q) hp))/\
  (∀(ps:List PV)(p q r:PV)(d:Nat)(fr:Fr)(hp:HP)(K:Qg),jf (.aO (p::q::r::ps)) 2 d fr hp K=(r.aA=true/\K (ae fr d r) hp))/\
  (∀(s:Nat)(Rr:PV->Prop)(fr:Fr)(hp:HP),eE [.t s] Rr fr hp=qE Rr (Qy hp (fr s)))/\
  (∀(e:Nat)(xs:List PV),gh au (.sl e xs)=some (e,xs))/\
  (∀(hp:HP),bw hp []=hp)/\
  (∀(fr:Fr)(r:PV),eO fr none r=fr)/\(∀(fr:Fr)(d:Nat)(r:PV),eO fr (some d) r=ae fr d r)/\
  (∀(β:Nat)(fr:Fr)(i:Nat),bB β fr i=bl β (fr i)):=by
 refine⟨?_,?_,?_,?_,?_,?_,?_,?_,?_,?_,?_,?_,?_,?_,?_,?_,?_,?_,?_,?_,?_,?_,?_,?_,?_,?_,?_,?_,?_,?_,?_,?_,?_,?_⟩<;>intros
 all_goals first
  |rfl
  |(simp[bG,nW,jf,bb,di,PV.cells,kt,stM];done)
  |(simp[bG,nW,jf,bb,di,PV.cells,kt,stM];try rfl)
  |skip
end Go.FW
namespace Go.FW
open Go
variable {C : Ctx} {ρ : Nat -> Option Nat} {fr : Fr} {hp : HP} {w : World} {K R : Qg}
theorem GV(i β e ty:Nat)(he:0<e)(hi:fr i= .aa)(hB:bm β=false:=by decide):Wk fr hp (ae (bB β fr) i (.ms β 0)) (Qi hp β ⟨e,ty,[],false⟩):=by
 rintro C tmps w ⟨ρ,hs⟩;have hr:=hs.rebind (w':=w) β none ⟨e,ty,[],false⟩ hB (Ext.refl _ _) (by simp) he (by simp) (by simp) (by simp);refine⟨_,hr.sz,hr.ext,hr.dK,hr.own,hr.inj,fun j=>?_⟩;unfold ae;split
 ·rename_i hj;subst hj;have:=hs.cd j;rw[hi]at this;have e:=Qj.rK this;exact⟨_,by simp[Qi];rfl,by simp,.inl ⟨eW _ _ _,e,rfl,rfl⟩⟩
 ·exact hr.cd j
end Go.FW
namespace Go.FW
open Go
variable {C : Ctx} {ρ : Nat -> Option Nat} {fr : Fr} {hp : HP} {w : World} {K R : Qg}
theorem SA(fr:Fr)(a:Nat)(v w:PV):ae (ae fr a v) a w=ae fr a w:=by funext i;unfold ae;split<;>rfl
theorem BK{α:Type}{f:α->PV}{e d:Nat}{xs:List α}{k:IntKind}{H:Int}(h4:0<=H)(h5:H<=xs.length):
  fH e (.sl e (xs.map f)) none (some (.int k H)) none d fr hp K=K (ae fr d (.sl e ((xs.take H.toNat).map f))) hp:=by
 rw[YD h4 (by simpa using h5)];simp
theorem OO{α:Type}{f:α->PV}{e d:Nat}{xs:List α}{k:IntKind}{L:Int}(h4:0<=L)(h5:L<=xs.length):
  fH e (.sl e (xs.map f)) (some (.int k L)) none none d fr hp K=K (ae fr d (.sl e ((xs.drop L.toNat).map f))) hp:=by
 rw[YE h4 (by simpa using h5)];simp
theorem Qys{α:Type}{f:α->PV}{e d:Nat}{xs:List α}{k k':IntKind}{L H:Int}(h3:0<=L)(h4:L<=H)(h5:H<=xs.length):
  fH e (.sl e (xs.map f)) (some (.int k L)) (some (.int k' H)) none d fr hp K=K (ae fr d (.sl e (((xs.take H.toNat).drop L.toNat).map f))) hp:=by
 rw[z4 (L:=L) (H:=H) rfl rfl h3 h4 (by simpa using h5)];simp
theorem SB(hp:HP)(e:Nat)(xs:List PV):Qy hp (.sl e xs)= .sl e xs:=rfl
theorem Ra(hp:HP)(k:IntKind)(n:Int):Qy hp (.int k n)= .int k n:=rfl
theorem OP(hp:HP)(b:Bool):Qy hp (.bool b)= .bool b:=rfl
theorem Rb(hp:HP)(cs:List PV):Qy hp (.agg cs)= .agg cs:=rfl
theorem Rc(hp:HP):Qy hp .aa= .aa:=rfl
theorem K4(hp:HP)(β n:Nat)(e ty:Nat)(xs:List PV)(fz:Bool)(h:hp β=some ⟨e,ty,xs,fz⟩)(hB:bm β=false:=by decide):Qy hp (.ms β n)= .sl e (xs.take n):=by simp[Qy,bR,h,qm hB]
theorem SD(e:Nat)(xs:List PV):(PV.sl e xs).refs=[]:=rfl
theorem Re(k:IntKind)(n:Int):(PV.int k n).refs=[]:=rfl
theorem OQ(b:Bool):(PV.bool b).refs=[]:=rfl
theorem Rf(cs:List PV):(PV.agg cs).refs=[]:=rfl
theorem Rg:PV.aa.refs=[]:=rfl
theorem Rh(β e:Nat)(xs:List PV):bl β (.sl e xs)= .sl e xs:=rfl
theorem OR(β:Nat)(k:IntKind)(n:Int):bl β (.int k n)= .int k n:=rfl
theorem NJ(β:Nat)(b:Bool):bl β (.bool b)= .bool b:=rfl
theorem OS(β:Nat)(cs:List PV):bl β (.agg cs)= .agg cs:=rfl
theorem OT(β:Nat):bl β .aa= .aa:=rfl
theorem Ki(β γ o n:Nat):bl β (.aq γ o n)=if γ=β then .undef else .aq γ o n:=by
 by_cases h:γ=β
 ·subst h;simp[bl,PV.refs]
 ·simp[bl,PV.refs,h];intro h';exact absurd h'.symm h
theorem Ri(β γ o n:Nat):bl β (.rb γ o n)=if γ=β then .undef else .rb γ o n:=by
 by_cases h:γ=β
 ·subst h;simp[bl,PV.refs]
 ·simp[bl,PV.refs,h];intro h';exact absurd h'.symm h
theorem Kj(β γ i o:Nat):bl β (.mp γ i o)=if γ=β then .undef else .mp γ i o:=by
 by_cases h:γ=β
 ·subst h;simp[bl,PV.refs]
 ·simp[bl,PV.refs,h];intro h';exact absurd h'.symm h
theorem YG:
  (∀(fr:Fr)(a:Nat)(v:PV)(b:Nat),ae fr a v b=if b=a then v else fr b)/\
  (∀(h:HP)(a:Nat)(v:HB)(b:Nat),Qi h a v b=if b=a then some v else h b)/\
  (∀(β:Nat),au β=none)/\
  (∀(hp:HP)(e:Nat)(xs:List PV),Qy hp (.sl e xs)= .sl e xs)/\
  (∀(hp:HP)(k:IntKind)(n:Int),Qy hp (.int k n)= .int k n)/\
  (∀(hp:HP)(b:Bool),Qy hp (.bool b)= .bool b)/\
  (∀(hp:HP)(cs:List PV),Qy hp (.agg cs)= .agg cs)/\
  (∀(hp:HP),Qy hp .aa= .aa)/\
  (∀(e:Nat)(xs:List PV),(PV.sl e xs).refs=[])/\
  (∀(k:IntKind)(n:Int),(PV.int k n).refs=[])/\
  (∀(b:Bool),(PV.bool b).refs=[])/\
  (∀(cs:List PV),(PV.agg cs).refs=[])/\
  (PV.aa.refs=[])/\
  (∀(β o n:Nat),(PV.aq β o n).refs=[β])/\
  (∀(β i o:Nat),(PV.mp β i o).refs=[β])/\
  (∀(β e:Nat)(xs:List PV),bl β (.sl e xs)= .sl e xs)/\
  (∀(β:Nat)(k:IntKind)(n:Int),bl β (.int k n)= .int k n)/\
  (∀(β:Nat)(b:Bool),bl β (.bool b)= .bool b)/\
  (∀(β:Nat)(cs:List PV),bl β (.agg cs)= .agg cs)/\
  (∀(β:Nat),bl β .aa= .aa)/\
  (∀(β γ o n:Nat),bl β (.aq γ o n)=if γ=β then .undef else .aq γ o n)/\
  (∀(β γ i o:Nat),bl β (.mp γ i o)=if γ=β then .undef else .mp γ i o)/\
  (∀(β γ o n:Nat),bl β (.rb γ o n)=if γ=β then .undef else .rb γ o n)/\
  (∀(β o n:Nat),(PV.rb β o n).refs=[β])/\
  (∀(o:bN)(fr:Fr)(hp:HP)(K:Qg),gi o fr hp K=match o.dst with|some d=>K (ae fr d (.aO [])) hp|none=>K fr hp)/\
  (∀(f:aF->PV),Option.map f none=none)/\(∀(f:aF->PV)(x:aF),Option.map f (some x)=some (f x))/\
  (∀(k:IntKind)(n:Int),(PV.int k n).cells=[.int k n])/\
  (∀(b:Bool),(PV.bool b).cells=[.bool b])/\
  (∀(e:Nat)(xs:List PV),(PV.sl e xs).cells=[.sl e xs])/\
  (∀(cs:List PV),(PV.agg cs).cells=cs):=by
 refine⟨fun _ _ _ _=>rfl,fun _ _ _ _=>rfl,fun _=>rfl,SB,Ra,OP,Rb,Rc,SD,Re,OQ,Rf,Rg,fun _ _ _=>rfl,fun _ _ _=>rfl,Rh,OR,NJ,OS,OT,Ki,Kj,Ri,fun _ _ _=>rfl,fun _ _ _ _=>rfl,fun _=>rfl,fun _ _=>rfl,fun _ _=>rfl,fun _=>rfl,fun _ _=>rfl,fun _=>rfl⟩
theorem YH{p:Nat->Prop}(h:∃m,p m):∃m,p m/\∀k,p k->m<=k:=by
 obtain⟨m,hm⟩:=h;induction m using Nat.strongRecOn with
 |ind m ih=>
  by_cases hk:∃k,k<m/\p k
  ·obtain⟨k,h1,h2⟩:=hk;exact ih k h1 h2
  ·exact⟨m,hm,fun k dF=>Nat.le_of_not_lt fun an=>hk ⟨k,an,dF⟩⟩
def sD(I:Nat->Qg)(n:Nat):Qg:=fun aw hp'=>∃aG au,Wk aw hp' aG au/\∃m,m<n/\I m aG au
theorem kv{I:Nat->Qg}{n m:Nat}(hl:m<n)(h:I m fr hp):sD I n fr hp:=⟨fr,hp,Wk.refl _ _,m,hl,h⟩
theorem Ca{I:Nat->Qg}{n m:Nat}{aw:Fr}{hp':HP}(hl:m<n)(hw:Wk fr hp aw hp')(h:I m aw hp'):sD I n fr hp:=⟨aw,hp',hw,m,hl,h⟩
theorem ug{sk:List It}{x:SC}(I:Nat->Qg)(m0:Nat){aG:Fr}{au:HP}(hw:Wk fr hp aG au)(h0:I m0 aG au)(h:∀m fr hp,I m fr hp->vc C R (.c x:: .el (sD I m)::sk) fr hp):vc C R (.c (.loop x)::sk) fr hp:=by
 refine QV (fun fr hp=>∃m,I m fr hp) (fun fr hp=>Classical.epsilon fun m=>I m fr hp/\∀k,I k fr hp->m<=k) hw ⟨m0,h0⟩ ?_;intro fr hp hI;have key:∀fr hp,(∃m,I m fr hp)->I (Classical.epsilon fun m=>I m fr hp/\∀k,I k fr hp->m<=k) fr hp/\∀k,I k fr hp->(Classical.epsilon fun m=>I m fr hp/\∀k,I k fr hp->m<=k)<=k:=fun fr hp hI=>Classical.epsilon_spec (YH hI);have e:sH (fun fr hp=>∃m,I m fr hp) (fun fr hp=>Classical.epsilon fun m=>I m fr hp/\∀k,I k fr hp->m<=k) (Classical.epsilon fun m=>I m fr hp/\∀k,I k fr hp->m<=k)=sD I (Classical.epsilon fun m=>I m fr hp/\∀k,I k fr hp->m<=k):=by
  funext aw hp';apply propext;constructor
  ·rintro⟨aG,au,h1,h2,h3⟩;exact⟨aG,au,h1,_,h3,(key aG au h2).1⟩
  ·rintro⟨aG,au,h1,m,h2,h3⟩;exact⟨aG,au,h1,⟨m,h3⟩,Kcg ((key aG au ⟨m,h3⟩).2 m h3) h2⟩
 rw[e];exact h _ fr hp (key fr hp hI).1
theorem m9{sk:List It}{x:SC}(I:Nat->Qg)(m0:Nat)(h0:I m0 fr hp)(h:∀m fr hp,I m fr hp->vc C R (.c x:: .el (sD I m)::sk) fr hp):vc C R (.c (.loop x)::sk) fr hp:=
 ug I m0 (Wk.refl _ _) h0 h
theorem V'{α:Type}{e:Nat}{f:α->PV}:PV.le .aa (.sl e (([]:List α).map f)):=trivial
theorem Qa{P:Program}(hP:C.P=P){g:FuncId}{first cap args aM:List PV}{pr:Bool}{d:Option Nat}{r:PV}(h:Qd P g aM (· =r))(cl:(first++args++cap).map (Qy hp)=aM)(cQ:aM.all PV.aA=true)(hr:(first++args++cap).flatMap PV.refs=[])
  (hK:K (eO fr d r) hp):eD C pr (.fn g first cap) args d fr hp K:=by
 refine ix hP h cl cQ ?_;rw[hr];exact hK
theorem gz{P:Program}(hP:C.P=P){g:FuncId}{first cap args aM:List PV}{pr:Bool}{d:Option Nat}{Rr:PV->Prop}(h:Qd P g aM Rr)(cl:(first++args++cap).map (Qy hp)=aM)(cQ:aM.all PV.aA=true)(hr:(first++args++cap).flatMap PV.refs=[])
  (hK:∀r,Rr r->K (eO fr d r) hp):eD C pr (.fn g first cap) args d fr hp K:=by
 refine Js hP h cl cQ fun r h=>?_;rw[hr];exact hK r h
theorem Tc{d β n ty:Nat}{xs ys:List PV}(hb:hp β=some ⟨1,ty,xs,false⟩)(hn:n=xs.length):
  o7 1 (.ms β n) (.sl 1 ys) d fr hp K=K (ae fr d (.int .i64 (min (ys.length:Int) n))) (Qi hp β ⟨1,ty,ys.take n++xs.drop ys.length,false⟩):=by
 simp[o7,gh,hb,hn]
theorem GW{by_ ty d:Nat}{kz k k':IntKind}{nz:Int}{L Cc:Int}(h1:0<=L)(h2:L<=Cc)(h3:by_*Cc<=281474976710656)(h4:Cc<=9223372036854775807):
  ks 1 by_ ty (.int kz nz) (.int k L) (.int k' Cc) d fr hp K=K (ae (bB d fr) d (.ms d L.toNat)) (Qi hp d ⟨1,ty,List.replicate L.toNat (.int kz nz),false⟩):=by
 exact yF (e:=1) (by omega) rfl h1 h2 h3 h4
theorem GX{ty β i:Nat}{xs:List PV}{k:IntKind}{n:Int}(h:i<xs.length):stM (some ⟨1,ty,xs,false⟩) β 1 i 0 (.int k n) fr hp K=K fr (Qi hp β ⟨1,ty,xs.set i (.int k n),false⟩):=
 ON h rfl rfl
theorem OU(h:HP)(a:Nat)(v w:HB):Qi (Qi h a v) a w=Qi h a w:=by funext i;unfold Qi;split<;>rfl
theorem Wa{ty d:Nat}{k:IntKind}{n:Int}:jj 1 ty [.int k n] d fr hp K=K (ae (bB d fr) d (.ms d 1)) (Qi hp d ⟨1,ty,[.int k n],false⟩):=by simp[jj,kJ,jb,yL,uK,Qy,bR,PV.refs,PV.aA,PV.cells];rfl
theorem eX{β n e ty:Nat}{xs:List PV}{fz:Bool}{r:PV}(hb:hp β=some ⟨e,ty,xs,fz⟩)(h:PV.sl e (xs.take n)=r)(hB:bm β=false:=by decide):qE (· =r) (Qy hp (.ms β n)):=by rw[K4 hp β n e ty xs fz hb hB];exact Qc h (by rw[<-h];rfl)
theorem Cb{e by_ ty ty' d β γ n:Nat}{xs:List PV}{y:PV}{fz:Bool}(hb:hp β=some ⟨e,ty,xs,false⟩)(hy:hp γ=some ⟨e,ty',[y],fz⟩)(h0:0<e)(hn:n=xs.length)(h1:(n+1)*by_<=140737488355328)(h2:n+1<=9223372036854775807)(hB:bm β=false:=by decide):
  fM e by_ ty (.ms β n) (.ms γ 1) d fr hp K=K (ae (bB β fr) d (.ms β (n+1))) (Qi hp β ⟨e,ty,xs++[y],false⟩):=by
 subst hn;rw[BA (ys:=[y]) (xs:=xs) (by simp[gh,hy]) hb h0 (Kag _) (by simpa using h1) (by simpa using h2) hB];simp
theorem HY(n:Nat):IntKind.u16.wrap (n:Int)=((n%65536:Nat):Int):=by simp only[IntKind.wrap,IntKind.bits,IntKind.signed];simp
theorem CN{bt:Bool}{k k':IntKind}{x y:Int}{d:Nat}(h:0<=y):bG .shr bt (.int k x) (.int k' y) d fr hp K=K (ae fr d (.int k (x.fdiv (2^(min y.toNat k.bits))))) hp:=by simp[bG,h]
theorem Jt{bt:Bool}{k':IntKind}{n d:Nat}:bG .shr bt (.int .u64 (n:Int)) (.int k' 16) d fr hp K=K (ae fr d (.int .u64 ((n/65536:Nat):Int))) hp:=by
 rw[CN (by omega)];have:min (16:Int).toNat IntKind.u64.bits=16:=by decide
 rw[this,Kck _ (by omega)];simp
theorem Ot{bt:Bool}{k':IntKind}{n d:Nat}:bG .shr bt (.int .u32 (n:Int)) (.int k' 16) d fr hp K=K (ae fr d (.int .u32 ((n/65536:Nat):Int))) hp:=by
 rw[CN (by omega)];have:min (16:Int).toNat IntKind.u32.bits=16:=by decide
 rw[this,Kck _ (by omega)];simp
end Go.FW
namespace Go.FW
def val:List Nat->Nat
 | []=>0
 |x::xs=>x+65536*val xs
def Qk(l:List Nat):Prop:=∀x∈l,x<65536
def ak(n:Nat):List Nat:=if h:n=0 then []else n%65536::ak (n/65536)
termination_by n
decreasing_by omega
def nl(n:Nat):Nat:=(ak n).length
theorem kA:Qk []:=by simp[Qk]
theorem e7{x:Nat}{l:List Nat}:Qk (x::l)↔x<65536/\Qk l:=by simp[Qk]
theorem ky{l m:List Nat}:Qk (l++m)↔Qk l/\Qk m:=by
 simp only[Qk,KaT];constructor
 ·intro h;exact⟨fun x hx=>h x (.inl hx),fun x hx=>h x (.inr hx)⟩
 ·rintro⟨h1,h2⟩ x (hx|hx)
  ·exact h1 x hx
  ·exact h2 x hx
theorem rR{l:List Nat}(h:Qk l)(n:Nat):Qk (l.take n):=fun x hx=>h x (Ka4 hx)
theorem tW{l:List Nat}(h:Qk l)(n:Nat):Qk (l.drop n):=fun x hx=>h x (KbB hx)
theorem dn{l:List Nat}(h:Qk l){i:Nat}(hi:i<l.length):l[i]<65536:=h _ (Kaq hi)
theorem eh:ak 0=[]:=by rw[ak];simp
theorem oQ{n:Nat}(h:n≠0):ak n=n%65536::ak (n/65536):=by rw[ak];simp[h]
theorem Ql(n:Nat):Qk (ak n):=by
 induction n using ak.induct with
 |case1=>rw[eh];exact kA
 |case2 n h ih=>rw[oQ h,e7];exact⟨by omega,ih⟩
theorem Qz(n:Nat):val (ak n)=n:=by
 induction n using ak.induct with
 |case1=>rw[eh];rfl
 |case2 n h ih=>rw[oQ h,val,ih];omega
theorem iU{n:Nat}:ak n=[]↔n=0:=by
 constructor
 ·intro h;have:=Qz n;rw[h]at this;exact this.symm
 ·rintro rfl;exact eh
theorem K5:nl 0=0:=by simp[nl,eh]
theorem BB{n:Nat}:nl n=0↔n=0:=by rw[nl,Kat,iU]
theorem Wb{n:Nat}(h:n≠0):nl n=nl (n/65536)+1:=by simp[nl,oQ h]
theorem jK(l m:List Nat):val (l++m)=val l+65536^l.length*val m:=by
 induction l with
 |nil=>simp[val]
 |cons x l ih=>simp only[KaH,val,ih,KaU,Kbi];rw[KaO,<-Nat.mul_assoc,KaS 65536 (65536^_)];omega
theorem lv{l:List Nat}(h:Qk l):val l<65536^l.length:=by
 induction l with
 |nil=>simp[val]
 |cons x l ih=>rw[e7]at h;have:=ih h.2;simp only[val,KaU,Kbi];omega
theorem Ju(n:Nat):val (List.replicate n 0)=0:=by
 induction n with
 |zero=>rfl
 |succ n ih=>simp[Kbt,val,ih]
theorem uN{l:List Nat}(h:Qk l)(hl:l.getLast? ≠some 0):ak (val l)=l:=by
 induction l with
 |nil=>simp[val,eh]
 | cons x l ih=>
  rw[e7]at h;have kR:l.getLast? ≠some 0:=by intro hh;apply hl;rw[Kch,hh];rfl
  have bh:val (x::l)≠0:=by
   simp only[val];intro h0;have h1:val l=0:=by omega
   have:=ih h.2 kR;rw[h1,eh]at this;subst this;simp at hl;omega
  rw[oQ bh];simp only[val];rw[show(x+65536*val l)%65536=x by omega,show(x+65536*val l)/65536=val l by omega,ih h.2 kR]
theorem Ce(n:Nat):(ak n).getLast? ≠some 0:=by
 induction n using ak.induct with
 |case1=>simp[eh]
 | case2 n h ih=>
  rw[oQ h,Kch];cases hd:(ak (n/65536)).getLast? with
  |none=>
   have:n/65536=0:=by rw[List.getLast?_eq_none_iff,iU]at hd;exact hd
   simp;omega
  |some y=>rw[hd]at ih;simpa using ih
def cut(l:List Nat):Nat->List Nat
 |0=>[]
 |n+1=>if l[n]? =some 0 then cut l n else l.take (n+1)
theorem GO{l:List Nat}(h:Qk l):∀n,n<=l.length->cut l n=ak (val (l.take n))
 |0,_=>by simp[cut,val,eh]
 | n+1,hn=>by
  have e:l.take (n+1)=l.take n++[l[n]]:=by rw[KaG (by omega)]
  unfold cut;split
  ·rename_i hz;rw[GO h n (by omega),e,jK];rw[Kaf (by omega)]at hz;have oA:l[n]=0:=by simpa using hz
   simp[val,oA]
  ·rename_i hz;rw[uN (rR h _)];rw[e,List.getLast?_concat];intro h0;apply hz;rw[Kaf (by omega)];exact h0
theorem uO{l:List Nat}(h:Qk l):cut l l.length=ak (val l):=by rw[GO h _ (Kag _),Kbp]
theorem bS{l:List Nat}(h:Qk l):nl (val l)<=l.length:=by
 rw[nl,<-uO h];have:∀n,(cut l n).length<=n:=by
  intro n;induction n with
  |zero=>simp[cut]
  |succ n ih=>
   unfold cut;split
   ·omega
   ·simp;omega
 have h1:=this l.length;exact h1
theorem jO{n k:Nat}:nl n<=k↔n<65536^k:=by
 induction k generalizing n with
 |zero=>simp[BB]
 | succ k ih=>
  by_cases h:n=0
  ·subst h;simp[K5];exact KbI (by omega)
  ·rw[Wb h,Nat.add_le_add_iff_right,ih,Kbi,Ka6 (by omega)]
theorem fm{m n:Nat}(h:m<=n):nl m<=nl n:=jO.2 (Kcg h (jO.1 (Kag _)))
theorem GP(m n:Nat):nl (m+n)<=max (nl m) (nl n)+1:=by rw[jO,Kbi];have h1:m<65536^(max (nl m) (nl n)):=jO.1 (by omega);have h2:n<65536^(max (nl m) (nl n)):=jO.1 (by omega);omega
theorem mh(m n:Nat):nl (m*n)<=nl m+nl n:=by rw[jO,Nat.pow_add];exact Nat.mul_lt_mul'' (jO.1 (Kag _)) (jO.1 (Kag _))
theorem nP{n:Nat}(h:n<18446744073709551616):nl n<=4:=jO.2 (by simpa using h)
theorem xJ{n:Nat}:nl n<=4↔n<18446744073709551616:=by rw[jO]
theorem nQ:ak 1=[1]:=by rw[oQ (by omega)];simp[eh]
open Go
variable {C : Ctx} {ρ : Nat -> Option Nat} {fr : Fr} {hp : HP} {w : World} {K R : Qg}
abbrev bI(l:List Nat):List PV:=l.map fun(x:Nat)=>.int .u16 x
abbrev mo(l:List Int):List PV:=l.map fun(x:Int)=>.int .i64 x
theorem Wc(a b:Nat):(a:Int)+(b:Int)=((a+b:Nat):Int):=rfl
theorem Td(a:Nat):(a:Int)+1=((a+1:Nat):Int):=rfl
theorem Te(a:Nat):(a:Int)+2=((a+2:Nat):Int):=rfl
theorem Tf(a:Nat):(a:Int)+3=((a+3:Nat):Int):=rfl
theorem Wd(a b:Nat):(a:Int)*(b:Int)=((a*b:Nat):Int):=rfl
theorem Tg{α:Type}{f:α->PV}{e d:Nat}{k:IntKind}{i:Nat}{xs:List α}(h:i<xs.length):
  aK e (.sl e (xs.map f)) (.int k (i:Int)) d fr hp K=K (ae fr d (.pt (f (xs[i]'h)).cells)) hp:=by
 rw[ql (by omega) (by omega)];rfl
theorem Th{e d β o n i:Nat}{k:IntKind}(h:i<n)(he:(hp β).map (·.e)=some e):aK e (.aq β o n) (.int k (i:Int)) d fr hp K=K (ae fr d (.mp β (o+i) 0)) hp:=by rw[yu (by omega) (by omega) he];rfl
theorem We{α:Type}{f:α->PV}{e d:Nat}{xs:List α}{k:IntKind}{n:Nat}(h5:n<=xs.length):
  fH e (.sl e (xs.map f)) none (some (.int k (n:Int))) none d fr hp K=K (ae fr d (.sl e ((xs.take n).map f))) hp:=by
 rw[BK (by omega) (by omega)];rfl
theorem Wf{α:Type}{f:α->PV}{e d:Nat}{xs:List α}{k:IntKind}{n:Nat}(h5:n<=xs.length):
  fH e (.sl e (xs.map f)) (some (.int k (n:Int))) none none d fr hp K=K (ae fr d (.sl e ((xs.drop n).map f))) hp:=by
 rw[OO (by omega) (by omega)];rfl
theorem Rj{α:Type}{f:α->PV}{e d:Nat}{xs:List α}{k k':IntKind}{m n:Nat}(h4:m<=n)(h5:n<=xs.length):
  fH e (.sl e (xs.map f)) (some (.int k (m:Int))) (some (.int k' (n:Int))) none d fr hp K=K (ae fr d (.sl e (((xs.take n).drop m).map f))) hp:=by
 rw[Qys (by omega) (by omega) (by omega)];rfl
theorem Wg{by_ ty d:Nat}{k k':IntKind}{n c:Nat}(h2:n<=c)(h3:by_*c<=281474976710656)(h4:c<=9223372036854775807):
  ks 1 by_ ty (.int .u16 0) (.int k (n:Int)) (.int k' (c:Int)) d fr hp K=K (ae (bB d fr) d (.ms d n)) (Qi hp d ⟨1,ty,bI (List.replicate n 0),false⟩):=by
 rw[GW (by omega) (by omega) (by omega) (by omega)];simp[bI]
theorem Wh{ty i d:Nat}{fz:Bool}{l:List Nat}(h:i<l.length):gw (some ⟨1,ty,bI l,fz⟩) 1 false i 0 d fr hp K=K (ae fr d (.int .u16 (l[i]'h:Nat))) hp:=by rw[mg (by simpa using h) (by omega) (by simp)];simp[di,PV.cells]
theorem Wi{ty i d:Nat}{fz:Bool}{l:List Int}(h:i<l.length):gw (some ⟨1,ty,mo l,fz⟩) 1 false i 0 d fr hp K=K (ae fr d (.int .i64 (l[i]'h))) hp:=by rw[mg (by simpa using h) (by omega) (by simp)];simp[di,PV.cells]
theorem GQ{ty β i v:Nat}{l:List Nat}(h:i<l.length):stM (some ⟨1,ty,bI l,false⟩) β 1 i 0 (.int .u16 (v:Int)) fr hp K=K fr (Qi hp β ⟨1,ty,bI (l.set i v),false⟩):=by rw[GX (by simpa using h)];simp[bI,List.map_set]
theorem Wj{ty β i:Nat}{v:Int}{l:List Int}(h:i<l.length):stM (some ⟨1,ty,mo l,false⟩) β 1 i 0 (.int .i64 v) fr hp K=K fr (Qi hp β ⟨1,ty,mo (l.set i v),false⟩):=by rw[GX (by simpa using h)];simp[mo,List.map_set]
theorem Rk{β n ty:Nat}{l:List Nat}{fz:Bool}(h:hp β=some ⟨1,ty,bI l,fz⟩)(hn:n=l.length)(hB:bm β=false:=by decide):Qy hp (.ms β n)= .sl 1 (bI l):=by rw[K4 hp β n _ _ _ _ h hB,Kaj (by simp[hn])]
theorem qf{P:Program}(hP:C.P=P){g:FuncId}{first cap args aM:List PV}{pr:Bool}{d:Option Nat}{r:PV}(h:Qd P g aM (· =r))(cl:(first++args++cap).map (Qy hp)=aM)(cQ:aM.all PV.aA=true)
  (hK:∀hp',K (eO fr d r) hp'):eD C pr (.fn g first cap) args d fr hp K:=ix hP h cl cQ (hK _)
end Go.FW
namespace Go.FW
def gk(x y:Nat):Int:=if x<y then -1 else if y<x then 1 else 0
theorem Ct{x y:Nat}(h:x<y):gk x y= -1:=by simp[gk,h]
theorem Cu{x y:Nat}(h:y<x):gk x y=1:=by simp[gk,h];omega
theorem K6{x y:Nat}(h:x=y):gk x y=0:=by simp[gk,h]
theorem Kk{x y:Nat}(h:nl x<nl y):x<y:=by
 rcases Kcn x y with h1|h1
 ·exact h1
 ·have:=fm h1;omega
theorem mb(l:List Nat)(k:Nat)(hk:k<=l.length):val l=val (l.take k)+65536^k*val (l.drop k):=by have:=jK (l.take k) (l.drop k);rw[Kbj,Kav,KbJ hk]at this;exact this
theorem oK{l:List Nat}(h:Qk l)(k:Nat)(hk:k<=l.length):val (l.take k)<65536^k:=by
 have:=lv (rR h k)
 rwa[Kav,KbJ hk]at this
theorem iZ{l:List Nat}{k:Nat}(hk:k<l.length):val (l.drop k)=l[k]+65536*val (l.drop (k+1)):=by rw[Kas hk,val]
theorem Qyt{a b:List Nat}(ha:Qk a){k:Nat}(zn:k<=a.length)(vT:k<=b.length)(h:val (a.drop k)<val (b.drop k)):val a<val b:=by rw[mb a k zn,mb b k vT];have h1:=oK ha k zn;have h2:65536^k*(val (a.drop k)+1)<=65536^k*val (b.drop k):=Kbm _ h;rw[KaO]at h2;omega
theorem Jv{a b:List Nat}(ha:Qk a){k:Nat}(zn:k<a.length)(vT:k<b.length)(h:a[k]<b[k])(he:val (a.drop (k+1))=val (b.drop (k+1))):val a<val b:=by refine Qyt ha (k:=k) (by omega) (by omega) ?_;rw[iZ zn,iZ vT,he];omega
def fT:List Nat->List Nat->Nat->List Nat
 | [],_,c=>if c=0 then []else [c]
 |x::xs,ys,c=>(c+x+ys.headD 0)%65536::fT xs ys.tail ((c+x+ys.headD 0)/65536)
theorem uh(l:List Nat):val l=l.headD 0+65536*val l.tail:=by cases l<;>simp[val]
theorem Kl:∀(a b:List Nat)(c:Nat),b.length<=a.length->val (fT a b c)=val a+val b+c
 | [],b,c,h=>by have:b=[]:=Kat.1 (by simpa using h);subst this;unfold fT;split<;>simp[val];omega
 |x::xs,b,c,h=>by rw[fT,val,Kl xs b.tail _ (by simp at h ⊢;omega),val,uh b];omega
theorem IK:∀(a b:List Nat)(c:Nat),c<65536->Qk a->Qk b->b.length<=a.length->Qk (fT a b c)
 | [],b,c,hc,_,_,_=>by unfold fT;split<;>simp[Qk];exact hc
 |x::xs,b,c,hc,ha,hb,h=>by
  rw[e7]at ha;have jq:b.headD 0<65536:=by cases b with|nil=>simp|cons y ys=>exact hb _ (by simp)
  rw[fT,e7];exact⟨by omega,IK xs b.tail _ (by omega) ha.2 (fun x hx=>hb x (List.mem_of_mem_tail hx)) (by simp at h ⊢;omega)⟩
theorem Jw:∀(a b:List Nat)(c:Nat),a.getLast? ≠some 0->(fT a b c).getLast? ≠some 0
 | [],b,c,_=>by unfold fT;split<;>simp;assumption
 | x::xs,b,c,h=>by
  rw[fT,Kch];cases xs with
  |nil=>
   simp only[List.getLast?_singleton,ne_eq,Kar]at h;simp only[fT];generalize b.headD 0=y;split
   ·rename_i h0;simp;omega
   ·rename_i h0;simp;omega
  |cons y ys=>
   have ih:=Jw (y::ys) b.tail ((c+x+b.headD 0)/65536) (by rw[Kch]at h;simpa[Kch]using h);cases hl:(fT (y::ys) b.tail ((c+x+b.headD 0)/65536)).getLast? with
   |none=>rw[List.getLast?_eq_none_iff]at hl;simp[fT]at hl
   |some z=>rw[hl]at ih;simpa using ih
theorem Rl{x y:Nat}(h:nl y<=nl x):fT (ak x) (ak y) 0=ak (x+y):=by have h1:=Kl (ak x) (ak y) 0 h;rw[Qz,Qz,KaM]at h1;rw[<-h1,uN (IK _ _ _ (by omega) (Ql x) (Ql y) h) (Jw _ _ _ (Ce x))]
def ji:List Nat->List Nat->Nat->List Nat
 | [],_,_=>[]
 |x::xs,ys,c=>(x+65536-c-ys.headD 0)%65536::ji xs ys.tail (if x<c+ys.headD 0 then 1 else 0)
theorem IL:∀(a b:List Nat)(c:Nat),Qk (ji a b c)
 | [],_,_=>kA
 |x::xs,b,c=>by rw[ji,e7];exact⟨by omega,IL xs _ _⟩
theorem Ii:∀(a b:List Nat)(c:Nat),(ji a b c).length=a.length
 | [],_,_=>rfl
 |x::xs,b,c=>by simp[ji,Ii xs]
theorem Km:∀(a b:List Nat)(c:Nat),c<=1->Qk a->Qk b->b.length<=a.length->val b+c<=val a->val (ji a b c)+val b+c=val a
 | [],b,c,_,_,_,h,h2=>by have:b=[]:=Kat.1 (by simpa using h);subst this;simp[val]at h2 ⊢;simp[ji,val,h2]
 |x::xs,b,c,hc,ha,hb,h,h2=>by
  rw[e7]at ha;have jq:b.headD 0<65536:=by cases b with|nil=>simp|cons y ys=>exact hb _ (by simp)
  rw[val,uh b]at h2;rw[ji,val,val,uh b];have ih:=Km xs b.tail (if x<c+b.headD 0 then 1 else 0) (by split<;>omega) ha.2 (fun x hx=>hb x (List.mem_of_mem_tail hx)) (by simp at h ⊢;omega) (by generalize b.headD 0=y at *;split<;>omega);generalize b.headD 0=y at *
  split at ih
  ·rename_i h0;rw[if_pos h0];omega
  ·rename_i h0;rw[if_neg h0];omega
theorem ux{done:List Nat}{i n v:Nat}(h:done.length=i)(hn:0<n):(done++List.replicate n 0).set i v=(done++[v])++List.replicate (n-1) 0:=by
 subst h;obtain⟨n,rfl⟩:∃k,n=k+1:=⟨n-1,by omega⟩
 simp[Kbt]
theorem Cf{done:List Nat}{i n m:Nat}(h:done.length=i)(hn:i+n=m):(done++List.replicate n 0).length=m:=by simp[h,hn]
theorem Ou{a b:List Nat}{i c:Nat}(h:i<a.length):fT (a.drop i) (b.drop i) c=(c+a[i]+b.getD i 0)%65536::fT (a.drop (i+1)) (b.drop (i+1)) ((c+a[i]+b.getD i 0)/65536):=by rw[Kas h,fT];simp[Kbx,Kb8,Kae]
theorem Ov{a b:List Nat}{i c:Nat}(h:i<a.length):ji (a.drop i) (b.drop i) c=(a[i]+65536-c-b.getD i 0)%65536::ji (a.drop (i+1)) (b.drop (i+1)) (if a[i]<c+b.getD i 0 then 1 else 0):=by rw[Kas h,ji];simp[Kbx,Kb8,Kae]
theorem eL{b:List Nat}{i:Nat}(h:i<b.length):b.getD i 0=b[i]:=by simp[Kae,h]
theorem eM{b:List Nat}{i:Nat}(h:¬i<b.length):b.getD i 0=0:=by simp[Kae,h]
open Go
variable {C : Ctx} {ρ : Nat -> Option Nat} {fr : Fr} {hp : HP} {w : World} {K K' R : Qg}
theorem Cg(h:∀fr hp,K fr hp->K' fr hp)(o:bN):aV C o fr hp K->aV C o fr hp K':=by
 cases o with
 | call d pr f args=>
  simp only[aV,eD];split
  ·rintro⟨h1,h2⟩;refine⟨h1,fun ρ tmps w fv cv av a1 a2 a3 a4 a5 a6 a7 a8=>(h2 ρ tmps w fv cv av a1 a2 a3 a4 a5 a6 a7 a8).mono ?_⟩;rintro e w' ⟨v,aw,hp',e1,e2,e3,e4⟩;exact⟨v,aw,hp',e1,e2,e3,h _ _ e4⟩
  ·exact id
 |bs d e ty ps=>
  simp only[aV,jj];split
  ·exact fun H=>⟨H.1,h _ _ H.2⟩
  ·exact fun H=>⟨H.1,H.2.1,h _ _ H.2.2⟩
 | app d e by_ ty s x=>
  simp only[aV,fM];intro H;revert H;split
  ·unfold sS;split
   ·split
    ·rintro⟨a1,a2,a3,H⟩;refine⟨a1,a2,a3,?_⟩;revert H;split
     ·exact fun H=>⟨H.1,h _ _ H.2⟩
     ·split
      ·exact fun H=>⟨H.1,H.2.1,h _ _ H.2.2⟩
      ·exact id
     ·exact id
    ·exact id
   ·exact id
  ·rintro⟨h0,h1,H⟩;refine⟨h0,h1,?_⟩;revert H;split
   ·rintro⟨a,b,c⟩;exact⟨a,b,h _ _ c⟩
   ·split
    ·rintro(⟨a1,a2,a3,a4,a5,a6,a7,c⟩|⟨a1,a2,a3,c⟩)
     ·exact .inl ⟨a1,a2,a3,a4,a5,a6,a7,h _ _ c⟩
     ·exact .inr ⟨a1,a2,a3,h _ _ c⟩
    ·exact id
   ·exact id
 |bin d op bt x y=>
  simp only[aV,bG];intro H;revert H;split
  ·split<;>first|exact fun H=>⟨H.1,H.2.1,h _ _ H.2.2⟩|exact fun H=>⟨H.1,h _ _ H.2⟩|exact id
  ·split<;>first|exact fun H=>⟨H.1,h _ _ H.2⟩|exact id
  ·exact id
 | _=>
  simp only[aV,nn,nq,qC,o0,nW,pW,qx,lH,rI,rG,aK,nd,sR,nr,nf,bb,kt,dO,o6,ks,jj,fM,o7,fH,jf,gZ,vb,vd]
  try (intro H;revert H)
  try (repeat' split)
  all_goals first
   |exact id
   |exact h _ _
   |grind
theorem IM(h:∀fr hp,K fr hp->K' fr hp)(o:bN):gi o fr hp K->gi o fr hp K':=by unfold gi;split<;>exact h _ _
theorem Ow(h:∀fr hp,K fr hp->K' fr hp)(g:Option (Nat×Bool))(o:bN):fq C g o fr hp K->fq C g o fr hp K':=by
 unfold fq;split
 ·exact Cg h o
 ·split
  ·exact fun H=>⟨fun e=>Cg h o (H.1 e),fun e=>IM h o (H.2 e)⟩
  ·exact IM h o
  ·exact id
theorem GR{sk:List It}{g:Option (Nat×Bool)}{o:bN}{r:RT}:vc C R (.o (.o g o r)::sk) fr hp=fq C g o fr hp (fun fr hp=>vc C R (.o r::sk) fr hp):=by rw[vc]
theorem GS{sk:List It}{x y:RT}:vc C R (.o (.br x y)::sk) fr hp=(vc C R (.o x::sk) fr hp/\vc C R (.o y::sk) fr hp):=by rw[vc]
theorem tX{id:Nat}{M:Qg}{sk:List It}:∀(pre:List It),(∃p,FW.bJ id (pre++ .el M::sk)=some (p++ .el M::sk)/\FW.bJ id (pre++sk)=some (p++sk)/\bx p<=bx pre)∨FW.bJ id (pre++ .el M::sk)=FW.bJ id (pre++sk)
 | []=>.inr rfl
 |.c s::pre=>by
  rcases tX (id:=id) (M:=M) (sk:=sk) pre with⟨p,h1,h2,h3⟩|h
  ·exact .inl ⟨p,h1,h2,by simp only[bx];omega⟩
  ·exact .inr h
 |.o s::pre=>by
  rcases tX (id:=id) (M:=M) (sk:=sk) pre with⟨p,h1,h2,h3⟩|h
  ·exact .inl ⟨p,h1,h2,by simp only[bx];omega⟩
  ·exact .inr h
 |.el s::pre=>by
  rcases tX (id:=id) (M:=M) (sk:=sk) pre with⟨p,h1,h2,h3⟩|h
  ·exact .inl ⟨p,h1,h2,by simp only[bx];omega⟩
  ·exact .inr h
 |.eb i::pre=>by
  by_cases hi:i=id
  ·exact .inl ⟨pre,by simp[FW.bJ,hi],by simp[FW.bJ,hi],by simp only[bx];omega⟩
  ·rcases tX (id:=id) (M:=M) (sk:=sk) pre with⟨p,h1,h2,h3⟩|h
   ·exact .inl ⟨p,by simp[FW.bJ,hi,h1],by simp[FW.bJ,hi,h2],by simp only[bx];omega⟩
   ·exact .inr (by simp[FW.bJ,hi,h])
theorem yb{M:Qg}{sk:List It}(hM:∀fr hp,M fr hp->vc C R sk fr hp):∀(n:Nat)(pre:List It)(fr:Fr)(hp:HP),bx pre<=n->vc C R (pre++ .el M::sk) fr hp->vc C R (pre++sk) fr hp:=by
 intro n;induction n with
 | zero=>
  intro pre fr hp hn h;cases pre with
  |nil=>simp only[KaE,qy]at h ⊢;exact hM _ _ h
  |cons i pre=>
   exfalso;have:=SC.tI;cases i<;>simp only[bx,It.sz]at hn
   ·rename_i s;have:=SC.tI s;omega
   ·rename_i s;have:=RT.tI s;omega
   ·omega
   ·omega
 | succ n ih=>
  intro pre fr hp hn h;cases pre with
  |nil=>simp only[KaE,qy]at h ⊢;exact hM _ _ h
  | cons i pre=>
   cases i with
   |eb i=>simp only[KaH,yE]at h⊢;exact ih _ _ _ (by simp only[bx,It.sz]at hn;omega) h
   |el J=>simp only[KaH,qy]at h ⊢;exact h
   | o r=>
    cases r with
    |nil=>simp only[KaH,uU]at h⊢;exact ih _ _ _ (by simp only[bx,It.sz,RT.sz]at hn;omega) h
    |o g o r=>simp only[KaH,GR]at h⊢;refine Ow (fun fr hp h=>?_) g o h;exact ih (.o r::pre) _ _ (by simp only[bx,It.sz,RT.sz]at hn ⊢;omega) h
    |wk r=>simp only[KaH,yq]at h⊢;obtain⟨aG,au,hw,h⟩:=h;exact⟨aG,au,hw,ih (.o r::pre) _ _ (by simp only[bx,It.sz,RT.sz]at hn ⊢;omega) h⟩
    |br x y=>simp only[KaH,GS]at h⊢;exact⟨ih (.o x::pre) _ _ (by simp only[bx,It.sz,RT.sz]at hn ⊢;omega) h.1,ih (.o y::pre) _ _ (by simp only[bx,It.sz,RT.sz]at hn ⊢;omega) h.2⟩
   | c s=>
    cases s with
    |skip=>simp only[KaH,xY]at h⊢;exact ih _ _ _ (by simp only[bx,It.sz,SC.sz]at hn;omega) h
    |rg r=>simp only[KaH,z0]at h⊢;exact ih (.o r::pre) _ _ (by simp only[bx,It.sz,SC.sz]at hn ⊢;omega) h
    |raw id ops=>simp only[KaH]at h⊢;rw[vc]at h⊢;intro tmps w Q hs hQ;refine h tmps w Q hs fun aw hp' pV w' dt hv=>hQ aw hp' pV w' dt ?_;exact ih _ _ _ (by simp only[bx,It.sz,SC.sz]at hn;omega) hv
    |seq a b=>simp only[KaH,yr]at h⊢;exact ih (.c a:: .c b::pre) _ _ (by simp only[bx,It.sz,SC.sz]at hn ⊢;omega) h
    |block id a=>simp only[KaH,xM]at h⊢;exact ih (.c a:: .eb id::pre) _ _ (by simp only[bx,It.sz,SC.sz]at hn ⊢;omega) h
    |ret=>simp only[KaH,yt]at h ⊢;exact h
    |cond c x y=>
     simp only[KaH,xZ]at h⊢;unfold oZ at h⊢;split at h
     ·exact⟨fun e=>ih (.c x::pre) _ _ (by simp only[bx,It.sz,SC.sz]at hn ⊢;omega) (h.1 e),fun e=>ih (.c y::pre) _ _ (by simp only[bx,It.sz,SC.sz]at hn ⊢;omega) (h.2 e)⟩
     ·exact h
    | exit id=>
     simp only[KaH,ya]at h⊢;rcases tX (id:=id) (M:=M) (sk:=sk) pre with⟨p,h1,h2,h3⟩|he
     ·rw[h1]at h;rw[h2];simp only[qz]at h⊢;exact ih _ _ _ (by simp only[bx,It.sz,SC.sz]at hn;omega) h
     ·rw[he]at h;exact h
    |loop a=>simp only[KaH,rU]at h⊢;obtain⟨I,μ,h1,h2⟩:=h;refine⟨I,μ,h1,fun fr hp hI=>?_⟩;exact ih (.c a:: .el _::pre) _ _ (by simp only[bx,It.sz,SC.sz]at hn ⊢;omega) (h2 fr hp hI)
theorem uj{c:PV}{x y:SC}{sk:List It}(M:Qg)(h:mj C R c x y (.el M::sk) fr hp)(hM:∀fr hp,M fr hp->vc C R sk fr hp):mj C R c x y sk fr hp:=by
 unfold mj oZ at h⊢;split at h
 ·exact⟨fun e=>yb hM _ [.c x] _ _ (Kag _) (h.1 e),fun e=>yb hM _ [.c y] _ _ (Kag _) (h.2 e)⟩
 ·exact h
end Go.FW
namespace Go.FW
open Go
variable {C : Ctx} {ρ : Nat -> Option Nat} {fr : Fr} {hp : HP} {w : World} {K K' R : Qg}
def vf(R:PV->Prop)(p q:PV):Prop:=(p.aA=true/\q.aA=true)/\∃r,PV.wD (.aO [p,q]) r/\R r
def z5(R:PV->Prop)(p q s:PV):Prop:=(p.aA=true/\q.aA=true/\s.aA=true)/\∃r,PV.wD (.aO [p,q,s]) r/\R r
def Hu(R:PV->Prop):Prop:=∃r,PV.wD (.aO []) r/\R r
theorem Wl{a b:Nat}{Rr:PV->Prop}:eE [.t a,.t b] Rr fr hp=vf Rr (Qy hp (fr a)) (Qy hp (fr b)):=by simp[eE,vf,gQ,gx]
theorem Wm{a b c:Nat}{Rr:PV->Prop}:eE [.t a,.t b,.t c] Rr fr hp=z5 Rr (Qy hp (fr a)) (Qy hp (fr b)) (Qy hp (fr c)):=by simp[eE,z5,gQ,gx]
theorem Wn{Rr:PV->Prop}:eE [] Rr fr hp=Hu Rr:=by simp[eE,Hu]
theorem jR{p q p' q' r:PV}(h:r= .aO [p',q'])(d1:p.aA=true)(d2:q.aA=true)(h1:PV.le p p')(h2:PV.le q q'):vf (· =r) p q:=⟨⟨d1,d2⟩,r,by subst h;exact⟨h1,h2,trivial⟩,rfl⟩
theorem o9{p q s p' q' s' r:PV}(h:r= .aO [p',q',s'])(d1:p.aA=true)(d2:q.aA=true)(d3:s.aA=true)(h1:PV.le p p')(h2:PV.le q q')(h3:PV.le s s'):z5 (· =r) p q s:=⟨⟨d1,d2,d3⟩,r,by subst h;exact⟨h1,h2,h3,trivial⟩,rfl⟩
theorem oO{p q:PV}(h:p=q):PV.le p q:=h▸bT p
theorem uA{β n ty:Nat}{l:List Nat}{fz:Bool}(h:hp β=some ⟨1,ty,bI l,fz⟩)(hn:n=l.length)(hB:bm β=false:=by decide):(([]:List PV)++[PV.ms β n]++([]:List PV)).map (Qy hp)=[.sl 1 (bI l)]:=by simp[Rk h hn hB]
theorem l0{n:Nat}(h:(ak n).length=0):ak n=[]:=Kat.1 h
abbrev PV.nat(l:List Nat):PV:=.sl 1 (bI l)
abbrev PV.num(n:Nat):PV:=PV.nat (ak n)
theorem sh:PV.le .aa (PV.num 0):=by rw[PV.num,eh];trivial
theorem uP{n:Nat}(h:n=0):PV.le .aa (PV.num n):=by subst h;exact sh
end Go.FW
namespace Go.FW
def gD:List Nat->List Nat->Nat->Nat->List Nat
 |r::rs,y::ys,x,c=>(c+(r+x*y))%65536::gD rs ys x ((c+(r+x*y))/65536)
 |_,_,_,c=>[c]
theorem Kn:∀(r b:List Nat)(x c:Nat),r.length=b.length->val (gD r b x c)=val r+x*val b+c
 | [],[],x,c,_=>by simp[gD,val]
 |r::rs,y::ys,x,c,h=>by rw[gD,val,Kn rs ys x _ (by simpa using h),val,val,KaO x,Kbw x 65536];generalize x*y=p;generalize x*val ys=q;omega
 | [],_::_,_,_,h=>by simp at h
 |_::_,[],_,_,h=>by simp at h
theorem oN{x y:Nat}(hx:x<65536)(hy:y<65536):x*y<=4294836225:=by have:=KbU (show x<=65535 by omega) (show y<=65535 by omega);omega
theorem IN:∀(r b:List Nat)(x c:Nat),c<65536->x<65536->Qk r->Qk b->Qk (gD r b x c)
 |r::rs,y::ys,x,c,hc,hx,hr,hb=>by rw[e7]at hr hb;have:=oN hx hb.1;rw[gD,e7];exact⟨by omega,IN rs ys x _ (by omega) hx hr.2 hb.2⟩
 | [],_,x,c,hc,_,_,_=>by simp[gD,Qk];exact hc
 |_::_,[],x,c,hc,_,_,_=>by simp[gD,Qk];exact hc
theorem Ij:∀(r b:List Nat)(x c:Nat),r.length=b.length->(gD r b x c).length=r.length+1
 |r::rs,y::ys,x,c,h=>by simp[gD,Ij rs ys x _ (by simpa using h)]
 | [],[],x,c,_=>rfl
 | [],_::_,_,_,h=>by simp at h
 |_::_,[],_,_,h=>by simp at h
theorem yc{p t:List Nat}{r j:Nat}(h:p.length=j)(hj:j<(p++r::t).length):(p++r::t)[j]=r:=by subst h;simp
theorem kB{p t:List Nat}{r j v:Nat}(h:p.length=j):(p++r::t).set j v=p++v::t:=by subst h;simp
theorem tM{l:List Nat}{i:Nat}(h:i<l.length):val (l.take (i+1))=val (l.take i)+65536^i*l[i]:=by rw[KaG h,jK,Kav,KbJ (by omega)];simp[val]
theorem Rm{a lo b:List Nat}{i:Nat}(h:i<a.length)(hl:lo.length=i+b.length)(hv:val lo=val (a.take i)*val b):
  val (lo.take i++gD (lo.drop i) b a[i] 0)=val (a.take (i+1))*val b:=by
 rw[jK,Kn _ _ _ _ (by simp[hl]),tM h,Kav,KbJ (by omega),Kaz,<-hv,mb lo i (by omega),KaM,KaO,Ka5];omega
open Go
variable {C : Ctx} {ρ : Nat -> Option Nat} {fr : Fr} {hp : HP} {w : World} {K K' R : Qg}
def B0:Nat:=1000000
def jS(xs:List PV):Prop:=∀x∈xs,∃k n,x= .int k n
theorem na(l:List Nat):jS (bI l):=by intro x hx;simp only[bI,KaL]at hx;obtain⟨n,_,rfl⟩:=hx;exact⟨_,_,rfl⟩
def kL(w:World)(b:Nat)(ty:TypeId)(xs:List PV):Prop:=jS xs/\∃(cur:Array Value)(cap:Nat),w.heap[b]? =some (.cells cur ty (0,0))/\cur.size=cap*1/\xs.length<=cap/\cap<=maxLen/\
 ∀(i:Nat)(k:IntKind)(n:Int),xs[i]? =some (.int k n)->cur.getD i undef= .int k n
theorem kL.gf{b:Nat}{ty:TypeId}{xs:List PV}{fz:Bool}{X:Nat->Prop}(h:kL w b ty xs):sT w X b ⟨1,ty,xs,fz⟩:=by
 obtain⟨hi,cur,cap,h1,h2,h3,h4,h5⟩:=h;refine⟨cur,cap,h1,h2,h3,h4,fun i x hx j y hy=>?_⟩;obtain⟨k,n,rfl⟩:=hi x (Kah hx);cases j with
 |zero=>simp[PV.cells]at hy;subst hy;rw[Kb4,KaM,h5 i k n hx];exact Qo.int k n
 |succ j=>simp[PV.cells]at hy
theorem kL.Ge{b:Nat}{ty:TypeId}{xs:List PV}{fz:Bool}{X:Nat->Prop}(h:sT w X b ⟨1,ty,xs,fz⟩)(hi:jS xs):kL w b ty xs:=by obtain⟨cur,cap,h1,h2,h3,h4,h5⟩:=h;refine⟨hi,cur,cap,h1,h2,h3,h4,fun i k n hx=>?_⟩;have:=h5 i _ hx 0 (.int k n) rfl;simp only[Kb4,KaM]at this;generalize hg:cur.getD i undef=v at this;cases this;rfl
theorem xO{xs:List PV}(h:jS xs):∀(i:Nat)(x:PV),xs[i]? =some x->x.cells.length=1/\x.aA=true:=by intro i x hx;obtain⟨k,n,rfl⟩:=h x (Kah hx);exact⟨rfl,rfl⟩
def Lb(w:World)(b len:Nat)(o n:Nat)(v:Value):Prop:=o+n<=len/\∃cap,v= .slice (some ⟨b,o*1,none⟩) n cap/\cy w b 1 (o+cap)/\o+cap<=maxLen
def Na(w:World)(X:Nat->Prop)(b len:Nat)(p:PV)(v:Value):Prop:=match p with
 |.aq β o n=>β=B0/\Lb w b len o n v
 |p=>bc w X p v
def K9(w:World)(X:Nat->Prop)(b len:Nat)(p:PV)(v:Value):Prop:=match p with
 |.aq β o n=>β=B0/\Lb w b len o n v
 |p=>dC w X p v
def sj(P:Program)(f:FuncId)(args:List PV)(ty:TypeId)(xs:List PV)(aT:PV->List PV->Prop):Prop:=
 lI P f/\∀(w:World)(X:Nat->Prop)(b:Nat)(aU:Array Value),(∀c,X c->c<w.heap.size)->X b->aU.size=args.length->kL w b ty xs->0<xs.length->
  (∀(i:Nat)(x:PV),args[i]? =some x->Na w X b xs.length x (aU.getD i undef))->
  Calls P f aU w fun e w'=>∃v r xs',e= .returned v/\Ext (fun c=>c=b) w w'/\(∀e cap,cy w b e cap->cy w' b e cap)/\kL w' b ty xs'/\xs'.length=xs.length/\K9 w' X b xs.length r v/\aT r xs'
def nX(rs:List RV)(ty:TypeId)(len:Nat)(aT:PV->List PV->Prop):Qg:=fun fr hp=>
 ∃xs',hp B0=some ⟨1,ty,xs',false⟩/\jS xs'/\xs'.length=len/\
  (eE rs (fun r=>(∀β o n,r≠ .aq β o n)/\aT r xs') fr hp∨∃s o n,rs=[.t s]/\fr s= .aq B0 o n/\aT (.aq B0 o n) xs')
theorem xy {P : Program} {f : FuncId} {fn : Func} {sf : az} {args : List PV} {ty : TypeId} {xs : List PV} {aT : PV -> List PV -> Prop} (hm : P.follows .mixedOrders = true) (hf : P.funcs[f]? = some fn) (kT : (fn.name != "runtime.NumGoroutine") = true) (hc : Qe P fn = some sf) (hn : args.length <= sf.n /\ sf.n <= 1000000)
  (hv:∀C:Ctx,C.P=P->vc C (nX sf.rs ty xs.length aT) [.c sf.body] (fe args) (Qi au B0 ⟨1,ty,xs,false⟩)):sj P f args ty xs aT:=by
 simp only[Qe,Kab,Kaa]at hc;obtain⟨c,hb,sb,fY,rs,cr,rfl⟩:=hc;refine⟨by simp[lI,hf,hb];simpa using kT,fun w X b aU hX qR dI hI nA eA=>?_⟩;have kP:∀β c,(fun β=>if β=B0 then some b else none:Nat->Option Nat) β=some c->c<w.heap.size/\(dJ β=false->¬(X c/\c≠b)):=fun β c h=>by
  simp only at h;split at h
  ·cases h;exact⟨hX b qR,fun _ h=>h.2 rfl⟩
  ·cases h
 let C:Ctx:=⟨P,fn.ntmps,w,fun c=>X c/\c≠b,fun c hc=>hX c hc.1,hn.2,fun β=>if β=B0 then some b else none,kP,bW,fun _ h=>h.elim⟩
 refine calls_of_wp hf hb ?_;have nD:(aU++Array.replicate (fn.ntmps-aU.size) undef).size=fn.ntmps:=by simp at hn ⊢;omega
 have abL:∀c,aB C (fun β=>if β=B0 then some b else none) (Qi au B0 ⟨1,ty,xs,false⟩) c->X c:=by
  rintro c (hx|⟨β,_,h1,_,h3⟩)
  ·exact hx.1
  ·simp only at h3;split at h3
   ·cases h3;exact qR
   ·cases h3
 have kW:cT C (fe args) (Qi au B0 ⟨1,ty,xs,false⟩) (aU++Array.replicate (fn.ntmps-aU.size) undef) w:=by
  refine⟨fun β=>if β=B0 then some b else none,nD,Ext.refl _ _,fun _ _ _ _ _ h=>h,fun β ao aj=>?_,fun β γ b' h1 h2 h3 h4=>?_,fun i=>?_⟩
  ·unfold Qi at aj;split at aj
   ·rename_i adG;cases aj;subst adG;refine⟨by simp,xO hI.1,?_,(fun _=>rfl),fun h=>by cases h⟩;simp only[if_pos];exact⟨rfl,hX b qR,hI.gf⟩
   ·simp[au]at aj
  ·have:∀β,(if β=B0 then some b else none:Option Nat)=some b'->β=B0:=fun β h=>by
    split at h
    ·assumption
    ·cases h
   rw[this β h3,this γ h4]
  ·unfold fe;cases hi:args[i]? with
   |none=>trivial
   | some p=>
    simp only[Kbo];have eH:i<aU.size:=by rw[dI];exact(Kad.1 hi).1
    have hr:=eA i p hi;have e:(aU++Array.replicate (fn.ntmps-aU.size) undef).getD i undef=aU.getD i undef:=by rw[gV,if_pos eH]
    rw[e];have key:bc w X p (aU.getD i undef)->Qj C (fun β=>if β=B0 then some b else none) (Qi au B0 ⟨1,ty,xs,false⟩) w p (aU.getD i undef):=fun hr=>
     Qj.iT (hr.mono (fun _ _ _=>rfl) (fun c _ hn hx=>hn (abL c hx)) (Kag _))
    cases p with
    |aq β o n=>obtain⟨rfl,h1,cap,h2,h3,h4⟩:=hr;exact⟨⟨1,ty,xs,false⟩,by simp[Qi],h1,.inr ⟨b,cap,by simp,h2,h3,h4⟩⟩
    |_=>exact key hr
 have fin:∀(fr:Fr)(hp:HP)(a:Act)(w':World),a.defers=[]->cT C fr hp a.tmps w'->nX rs ty xs.length aT fr hp->
   a.defers=[]/\∃v,(results fn a.tmps).run P w'= .ok v w'/\∃v' r xs',Ending.returned v= .returned v'/\Ext (fun c=>c=b) w w'/\(∀e cap,cy w b e cap->cy w' b e cap)/\kL w' b ty xs'/\xs'.length=xs.length/\K9 w' X b xs.length r v'/\aT r xs':=by
  rintro fr hp a w' hd ⟨ρ,hs⟩ ⟨xs',hB,hint,hlen,hr⟩;have aY:=hs.own B0 _ hB;have aP:=aY.ca;have aZ:ρ B0=some b:=by
   cases hq:ρ B0 with
   |none=>rw[hq]at aP;simp only at aP;rw[aP]at hlen;simp at hlen;omega
   |some b'=>rw[<-hq];exact aY.fix rfl
  rw[aZ]at aP;have qP:kL w' b ty xs':=kL.Ge aP.2.2 hint;have MC:Ext (fun c=>c=b) w w':=hs.ext.mono fun c _ hc=>by
   rcases hc with⟨β,_,hc⟩|hc
   ·have hc:(if β=B0 then some b else none:Option Nat)=some c:=hc;split at hc
    ·cases hc;rfl
    ·cases hc
   ·exact hc.elim
  have L5:∀e cap,cy w b e cap->cy w' b e cap:=hs.dK B0 b rfl;rcases hr with hr|⟨s,o,n,rfl,kO,hp⟩
  ·obtain⟨v,r,h1,h2,h3,h4⟩:=NI (C:=C) rfl cr hs hr (X:=X) (fun c hc=>by
    by_cases e:c=b
    ·subst e;exact .inr ⟨B0,_,rfl,hB,rfl,aZ⟩
    ·exact .inl ⟨hc,e⟩)
   refine⟨hd,v,h1,v,r,xs',rfl,MC,L5,qP,hlen,?_,h4⟩;cases r with
   |aq β o n=>exact absurd rfl (h3 β o n)
   |_=>exact h2
  ·have a9:=hs.cd s;rw[kO]at a9;obtain⟨cq,g1,g2,g3⟩:=a9;rw[hB]at g1;cases g1;rcases g3 with⟨g3,_⟩|⟨b',cap,g3,g4,g5,g6⟩
   ·rw[aZ]at g3;cases g3
   ·rw[aZ]at g3;cases g3;obtain⟨x,hx⟩:∃x,fn.results.toList=[x]:=by have:=iV cr;exact Kcf.1 (by rw[<-this.1];rfl)
    have gL:eT P x=some (.t s):=by rw[hx]at cr;simp only[KbT,Kcx,KbF,KbX,Kab,Kar]at cr;obtain⟨y,h1,_,_,h2⟩:=cr;simp only[Kb9]at h2;rw[<-h2.1];exact h1
    have mO:x= .tmp s:=by
     cases x with
     |tmp t=>simpa[eT]using gL
     |cell y t=>simp[eT,Kab]at gL
    subst mO;have eI:(results fn a.tmps).run P w'= .ok (a.tmps.getD s undef) w':=by have e:results fn a.tmps=(do let vs<-fn.results.mapM (gC a.tmps);pure (if h:vs.size=1 then vs[0]else .tuple vs)):=rfl;rw[e,Kbl,hx];simp[Kak,gC]
    refine⟨hd,_,eI,_,.aq B0 o n,xs',rfl,MC,L5,qP,hlen,⟨rfl,hlen▸g2,cap,g4,g5,g6⟩,hp⟩
 exact Bx (C:=C) (R:=nX rs ty xs.length aT) hm c sb [] _ (fe args) _ _ w fY ⟨fun fr hp a w' hd hs hv=>(by rw[oW]at hv;exact fin fr hp a w' hd hs hv),fun id dm he=>(by simp[FW.bJ]at he),fin⟩ rfl kW (hv C rfl)
def PV.kp:PV->Bool
 |.aq .. =>true
 |p=>p.aA
def gf(β:Nat):PV->PV
 |.aq γ o n=>if γ=β then .aq B0 o n else .undef
 |.mp _ _ _=>.undef
 |.rb _ _ _=>.undef
 |.fn _ _ _=>.undef
 |.aE _ _ _| .np _ _ _| .aH _| .dk _| .cm _ _| .aC _ _ _ _=>.undef
 |p=>p
def kD(β:Nat):PV->PV
 |.aq _ o n=>.aq β o n
 |p=>p
theorem yv{P:Program}(hP:C.P=P){g:FuncId}{args aM:List PV}{d:Option Nat}{β:Nat}{ty:TypeId}{xs:List PV}{aT:PV->List PV->Prop}(h:sj P g aM ty xs aT)(aj:hp β=some ⟨1,ty,xs,false⟩)(hint:jS xs)(nA:0<xs.length)
  (cl:args.map (gf β)=aM) (cQ:aM.all PV.kp=true)
  (hK:∀r xs',jS xs'->xs'.length=xs.length->aT r xs'->K (eO fr d (kD β r)) (Qi hp β ⟨1,ty,xs',false⟩)):eD C false (.fn g [] []) args d fr hp K:=by
 subst hP;refine⟨h.1,fun ρ tmps w fv cv av mB hs h1 h2 h3 _ _ mL=>?_⟩;have aY:=hs.own β _ aj;have aP:=aY.ca;obtain⟨b,aZ⟩:∃b,ρ β=some b:=by
  cases hq:ρ β with
  |none=>rw[hq]at aP;simp only at aP;rw[aP]at nA;simp at nA
  |some b=>exact⟨b,rfl⟩
 rw[aZ]at aP;have qR:aB C ρ hp b:=.inr ⟨β,_,aj,rfl,aZ⟩;have e1:fv= #[]:=KbE (by simpa using h1);have e2:cv= #[]:=KbE (by simpa using h2);subst e1;subst e2;simp only[Array.empty_append,Array.append_empty];refine(h.2 w (aB C ρ hp) b av (u3 hs) qR (by rw[<-cl];simp[h3]) (kL.Ge aP.2.2 hint) nA (fun i x hx=>?_)).mono ?_
 ·rw [<-cl]at hx;simp only[Kap,Kaa]at hx;obtain⟨p,hp',rm⟩:=hx;have hr:=mL i p hp';have gd:PV.kp x=true:=by rw[Kaw]at cQ;refine cQ x ?_;rw[<-cl,<-rm];exact Kcb (Kah hp')
  subst rm;cases p with
  | aq γ o n=>
   simp only[gf]at gd⊢;split
   ·rename_i ah;subst ah;obtain⟨cq,g1,g2,g3⟩:=hr;rw[aj]at g1;cases g1;rcases g3 with⟨g3,_⟩|⟨b',cap,g3,g4,g5,g6⟩
    ·rw[aZ]at g3;cases g3
    ·rw[aZ]at g3;cases g3;exact⟨rfl,g2,cap,g4,g5,g6⟩
   ·rename_i ah;rw[if_neg ah]at gd;simp[PV.kp,PV.aA]at gd
  |mp=>simp[gf,PV.kp,PV.aA]at gd
  |rb=>simp[gf,PV.kp,PV.aA]at gd
  |fn=>simp[gf,PV.kp,PV.aA]at gd
  |undef=>simp[gf,PV.kp,PV.aA]at gd
  |aE=>simp[gf,PV.kp,PV.aA]at gd
  |np=>simp[gf,PV.kp,PV.aA]at gd
  |aH=>simp[gf,PV.kp,PV.aA]at gd
  |dk=>simp[gf,PV.kp,PV.aA]at gd
  |cm=>simp[gf,PV.kp,PV.aA]at gd
  |aC=>simp[gf,PV.kp,PV.aA]at gd
  |aO=>simp[gf,PV.kp,PV.aA]at gd
  |agg cs=>exact hr
  |_=>exact hr
 ·rintro e w' ⟨v,r,xs',rfl,hx,cP,qP,hlen,eI,fj⟩;have aW:=hs.store β b ⟨1,ty,xs,false⟩ ⟨1,ty,xs',false⟩ aj rfl (by intro e;simp at e;rw[e]at nA;simp at nA) aZ hx rfl hlen rfl (xO qP.1) cP (qP.gf (X:=aB C ρ hp) (fz:=false) |> fun⟨cur,cap,c1,c2,c3,c4,c5⟩=>⟨cur,cap,c1,c2,c3,c4,fun i x hi j y hy=>by
   obtain⟨k,n,rfl⟩:=qP.1 x (Kah hi);have:=c5 i _ hi j y hy;cases j with
   |zero=>simp[PV.cells]at hy;subst hy;generalize hg:cur.getD (i*1+0) undef=u at this;cases this;exact Qo.int k n
   |succ j=>simp[PV.cells]at hy⟩)
  have Ff:aB C ρ (Qi hp β ⟨1,ty,xs',false⟩)=aB C ρ hp:=by
   funext c;apply propext;constructor
   ·rintro(hx|⟨γ,hg,h1,h2,h3⟩)
    ·exact .inl hx
    ·by_cases ah:γ=β
     ·subst ah;exact .inr ⟨γ,_,aj,rfl,h3⟩
     ·simp only[Qi,if_neg ah]at h1;exact .inr ⟨γ,hg,h1,h2,h3⟩
   ·rintro(hx|⟨γ,hg,h1,h2,h3⟩)
    ·exact .inl hx
    ·by_cases ah:γ=β
     ·subst ah;exact .inr ⟨γ,⟨1,ty,xs',false⟩,by simp[Qi],rfl,h3⟩
     ·exact .inr ⟨γ,hg,by simp[Qi,ah,h1],h2,h3⟩
  refine⟨v,_,_,rfl,⟨ρ,aW.zX (p:=kD β r) ?_ mB⟩,by simp,hK r xs' qP.1 hlen fj⟩;cases r with
  |aq γ o n=>obtain⟨_,g1,cap,g2,g3,g4⟩:=eI;exact⟨⟨1,ty,xs',false⟩,by simp[Qi],by simp only[kD];omega,.inr ⟨b,cap,aZ,g2,g3,g4⟩⟩
  |_=>exact Qj.zP (p:=_) (by rw[Ff];exact eI)
end Go.FW
namespace Go.FW
open Go
variable {C : Ctx} {ρ : Nat -> Option Nat} {fr : Fr} {hp : HP} {w : World} {K K' R : Qg}
def uQ(P:Program)(f:FuncId)(args:List PV)(ty:TypeId)(aT:List PV->Prop):Prop:=
 lI P f/\∀(w:World)(X:Nat->Prop)(aU:Array Value),(∀b,X b->b<w.heap.size)->aU.size=args.length->(∀(i:Nat)(x:PV),args[i]? =some x->bc w X x (aU.getD i undef))->
  Calls P f aU w fun e w'=>∃v b cap ys,e= .returned v/\v= .slice (some ⟨b,0,none⟩) ys.length cap/\w.heap.size<=b/\Ext bW w w'/\kL w' b ty ys/\cy w' b 1 cap/\cap<=maxLen/\aT ys
def sI(rs:List RV)(ty:TypeId)(aT:List PV->Prop):Qg:=fun fr hp=>
 ∃s β n xs,rs=[.t s]/\fr s= .aq β 0 n/\bm β=false/\hp β=some ⟨1,ty,xs,false⟩/\jS xs/\0<n/\aT (xs.take n)
theorem Ox{xs:List PV}(h:jS xs)(n:Nat):jS (xs.take n):=fun x hx=>h x (Ka4 hx)
theorem O3 {P : Program} {f : FuncId} {fn : Func} {sf : az} {args : List PV} {ty : TypeId} {aT : List PV -> Prop} (hm : P.follows .mixedOrders = true) (hf : P.funcs[f]? = some fn) (kT : (fn.name != "runtime.NumGoroutine") = true) (hc : Qe P fn = some sf) (hn : args.length <= sf.n /\ sf.n <= 1000000)
  (hv:∀C:Ctx,C.P=P->vc C (sI sf.rs ty aT) [.c sf.body] (fe args) au):uQ P f args ty aT:=by
 simp only[Qe,Kab,Kaa]at hc;obtain⟨c,hb,sb,fY,rs,cr,rfl⟩:=hc;refine⟨by simp[lI,hf,hb];simpa using kT,fun w X aU hX dI eA=>?_⟩
 let C:Ctx:=Ctx.plain P fn.ntmps w X hX hn.2
 refine calls_of_wp hf hb ?_;have nD:(aU++Array.replicate (fn.ntmps-aU.size) undef).size=fn.ntmps:=by simp at hn ⊢;omega
 have kW:cT C (fe args) au (aU++Array.replicate (fn.ntmps-aU.size) undef) w:=by
  refine⟨fun _=>none,nD,Ext.refl _ _,(fun _ _ h=>by cases h),by simp[au],by simp[au],fun i=>?_⟩;unfold fe;cases hi:args[i]? with
  |none=>trivial
  | some p=>
   simp only[Kbo];have eH:i<aU.size:=by rw[dI];exact(Kad.1 hi).1
   have hr:=eA i p hi;have e:(aU++Array.replicate (fn.ntmps-aU.size) undef).getD i undef=aU.getD i undef:=by rw[gV,if_pos eH]
   rw[e];refine Qj.iT (hr.mono (fun _ _ _=>rfl) (fun b _ hn hx=>?_) (Kag _));rcases hx with hx|⟨_,_,h1,_⟩
   ·exact hn hx
   ·simp[au]at h1
 have fin:∀(fr:Fr)(hp:HP)(a:Act)(w':World),a.defers=[]->cT C fr hp a.tmps w'->sI rs ty aT fr hp->
   a.defers=[]/\∃v,(results fn a.tmps).run P w'= .ok v w'/\∃v' b cap ys,Ending.returned v= .returned v'/\v'= .slice (some ⟨b,0,none⟩) ys.length cap/\w.heap.size<=b/\Ext bW w w'/\kL w' b ty ys/\cy w' b 1 cap/\cap<=maxLen/\aT ys:=by
  rintro fr hp a w' hd ⟨ρ,hs⟩ ⟨s,β,n,xs,rfl,kO,hB,aj,hint,nA,hp⟩;have aY:=hs.own β _ aj;have aP:=aY.ca;have a9:=hs.cd s;rw[kO]at a9;obtain⟨cq,g1,g2,g3⟩:=a9;rw[aj]at g1;cases g1;rcases g3 with⟨_,_,g3,_⟩|⟨b,cap,g3,g4,g5,g6⟩
  ·omega
  ·rw[g3]at aP;simp only[hB]at aP;obtain⟨x,hx⟩:∃x,fn.results.toList=[x]:=by have:=iV cr;exact Kcf.1 (by rw[<-this.1];rfl)
   have gL:eT P x=some (.t s):=by rw[hx]at cr;simp only[KbT,Kcx,KbF,KbX,Kab,Kar]at cr;obtain⟨y,h1,_,_,h2⟩:=cr;simp only[Kb9]at h2;rw[<-h2.1];exact h1
   have mO:x= .tmp s:=by
    cases x with
    |tmp t=>simpa[eT]using gL
    |cell y t=>simp[eT,Kab]at gL
   subst mO;have eI:(results fn a.tmps).run P w'= .ok (a.tmps.getD s undef) w':=by have e:results fn a.tmps=(do let vs<-fn.results.mapM (gC a.tmps);pure (if h:vs.size=1 then vs[0]else .tuple vs)):=rfl;rw[e,Kbl,hx];simp[gC]
   have hlen:(xs.take n).length=n:=by simp at g2 ⊢;omega
   refine⟨hd,_,eI,_,b,cap,xs.take n,rfl,by rw[g4,hlen,Kca],(Ctx.pj aP.1 (qm hB)).resolve_right (fun h=>h),Ctx.Gg hs.ext,?_,by rw[Ka2]at g5;exact g5,by omega,hp⟩;obtain⟨_,cur,cp,i1,i2,i3,i4,i5⟩:=kL.Ge aP.2.2 hint;exact⟨Ox hint n,cur,cp,i1,i2,by simp;omega,i4,fun i k m hi=>i5 i k m (by
    have aD:i<n:=by have:=(Kad.1 hi).1;omega
    rwa[Kax aD]at hi)⟩
 exact Bx (C:=C) (R:=sI rs ty aT) hm c sb [] _ (fe args) au _ w fY ⟨fun fr hp a w' hd hs hv=>(by rw[oW]at hv;exact fin fr hp a w' hd hs hv),fun id dm he=>(by simp[FW.bJ]at he),fin⟩ rfl kW (hv C rfl)
theorem Wo{P:Program}(hP:C.P=P){g:FuncId}{args aM:List PV}{d:Nat}{ty:TypeId}{aT:List PV->Prop}(h:uQ P g aM ty aT)(cl:([]++args++[]).map (Qy hp)=aM)(cQ:aM.all PV.aA=true)(hr:([]++args++[]).flatMap PV.refs=[])
  (hB:bm d=false) (hK:∀ys,jS ys->aT ys->K (ae (bB d fr) d (.ms d ys.length)) (Qi hp d ⟨1,ty,ys,false⟩)):eD C false (.fn g [] []) args (some d) fr hp K:=by
 subst hP;refine⟨h.1,fun ρ tmps w fv cv av mB hs h1 h2 h3 kV iM mL=>?_⟩;have hf0:bw hp (([]++args++[]).flatMap PV.refs)=hp:=by rw[hr];rfl
 have eA:=Kh hs h1 h2 h3 kV iM mL (by rw[cl];exact cQ);rw[hf0,cl]at eA;refine(h.2 w _ (fv++av++cv) (u3 hs) (by rw[<-cl];simp[h1,h2,h3]) eA).mono ?_;rintro e w' ⟨v,b,cap,ys,rfl,rfl,hb,hx,hI,cP,hm,fj⟩;have td:b<w'.heap.size:=by obtain⟨_,cur,cp,i1,_⟩:=hI;exact(Kbc.1 i1).1
 have hrb:=hs.rebind (w':=w') d (some b) ⟨1,ty,ys,false⟩ hB (hx.mono (fun _ _ h=>h.elim)) (fun c hc=>by cases hc;exact⟨.inl (KaZ hs.ext.size hb),td,.inl hb⟩) (by simp) (xO hI.1) (by simp)
  (fun c hc=>by
   cases hc;obtain⟨hint,cur,cp,i1,i2,i3,i4,i5⟩:=hI;refine⟨cur,cp,i1,i2,i3,i4,fun i x hi j y hy=>?_⟩;obtain⟨k,n,rfl⟩:=hint x (Kah hi);cases j with
   |zero=>simp[PV.cells]at hy;subst hy;rw[Kb4,KaM,i5 i k n hi];exact Qo.int k n
   |succ j=>simp[PV.cells]at hy)
 refine⟨_,_,_,rfl,⟨_,hrb.zX (d:=some d) (p:=.ms d ys.length) ?_ mB⟩,by simp,hK ys hI.1 fj⟩;exact⟨⟨1,ty,ys,false⟩,by simp[Qi],by simp,.inr ⟨b,cap,eW _ _ _,by simp,by rw[Ka2];exact cP,by omega⟩⟩
def dV(hp:HP):PV->PV
 |.mp β i o=>match hp β with
  |some hb=>match hb.xs[i]? with
   |some x=>.pt (x.cells.drop o)
   |none=>.undef
  |none=>.undef
 |.aq β o n=>match hp β with
  |some hb=>.sl hb.e ((hb.xs.drop o).take n)
  |none=>.undef
 |.rb β o n=>match hp β with
  |some hb=>.pt [.sl hb.e ((hb.xs.drop o).take n)]
  |none=>.undef
 |p=>p
def qF(C:Ctx)(ρ:Nat->Option Nat)(hp:HP)(l:List Nat):Nat->Prop:=fun c=>aB C ρ hp c/\¬∃β∈l,ρ β=some c
theorem Qo.qL{l:List Nat}{q:PV}{u:Value}(h:Qo w (aB C ρ hp) q u):Qo w (qF C ρ hp l) q u:=
 h.mono (fun _ _ _=>rfl) (fun _ _ hn hx=>hn hx.1) (Kag _)
theorem dw.qL{tmps:Array Value}(h:Qv C ρ fr hp tmps w){β o n:Nat}{v:Value}{l:List Nat}{hb:HB}(hr:dw ρ hp w β o n v)(rA:β∈l)(g1:hp β=some hb):Qo w (qF C ρ hp l) (.sl hb.e ((hb.xs.drop o).take n)) v:=by
 obtain⟨cq,yS,g2,g3⟩:=hr;rw[g1]at yS;cases yS;rcases g3 with⟨g3,rfl,rfl,rfl⟩|⟨b,cap,g3,rfl,g5,g6⟩
 ·simp only[Kb3];exact .gS _ _ _ (KbG _)
 ·have aY:=h.own β hb g1;have aP:=aY.ca;rw[g3]at aP;obtain⟨_,an,cur,dx,c1,c2,c3,c4,c5⟩:=aP;obtain⟨cur',ty',d1,d2⟩:=g5;rw[c1]at d1;cases d1;have fC:o+cap=dx:=by rw[c2]at d2;exact(Kbr aY.gF d2).symm
  subst fC;have hlen:((hb.xs.drop o).take n).length=n:=by simp;omega
  have dz:∀(i:Nat)(x:PV),((hb.xs.drop o).take n)[i]? =some x->i<n/\hb.xs[o+i]? =some x:=fun i x hx=>by
   have hi:i<n:=by have:=(Kad.1 hx).1;omega
   rw[Kax hi,KaR]at hx;exact⟨hi,hx⟩
  have:=Qo.sl (w:=w) (X:=qF C ρ hp l) hb.e ((hb.xs.drop o).take n) b (o*hb.e) cap (fun i j=>cur.getD ((o+i)*hb.e+j) undef) (fun wv=>wv.2 ⟨β,rA,g3⟩) an (by omega) (by omega)
   (fun i x hx=>(aY.len _ x (dz i x hx).2).1)
   (fun i hi j hj=>by rw[hlen]at hi;have:=jM (i:=o+i) (e:=hb.e) (o:=0) (j:=j) (n:=hb.e) (cap:=o+cap) (by omega) (by omega) hj;rw[KaM]at this;rw[show o*hb.e+i*hb.e+j=(o+i)*hb.e+j by rw[Kaz]];exact iu c1 (by rw[c2];exact this))
   (fun i x hx j y hy=>(c5 _ x (dz i x hx).2 j y hy).qL)
  rwa[hlen]at this
theorem xz{tmps:Array Value}(h:Qv C ρ fr hp tmps w){p:PV}{v:Value}{l:List Nat}(hr:cg C ρ hp w p v)(hl:∀β∈p.bg,β∈l)(hu:(dV hp p).aA=true)(v9:∀f a b,p≠ .fn f a b):bc w (qF C ρ hp l) (dV hp p) v:=by
 cases p with
 | mp β i o=>
  obtain⟨b,hb,g1,g2,rfl⟩:=hr;have rA:=hl β (by simp[PV.bg]);have aY:=h.own β hb g2;have aP:=aY.ca;rw[g1]at aP;obtain⟨_,an,cur,cap,c1,c2,c3,c4,c5⟩:=aP;simp only[dV,g2]at hu⊢;cases hx:hb.xs[i]? with
  |none=>simp[hx,PV.aA]at hu
  | some x=>
   have hi:i<hb.xs.length:=(Kad.1 hx).1;have dY:=(aY.len i x hx).1;refine Qo.pt _ b _ (fun j=>cur.getD (i*hb.e+o+j) undef) (fun wv=>wv.2 ⟨β,rA,g1⟩) an (fun j hj=>?_) (fun j y hy=>?_)
   ·have dq:o+(j+1)<=hb.e:=by simp[dY]at hj;omega
    exact iu c1 (by rw[c2];exact jM (by omega) dq (Kcc j))
   ·rw[KaR]at hy;rw[KbL];exact(c5 i x hx (o+j) y hy).qL
 |aq β o n=>obtain⟨hb,g1,_⟩:=id hr;simp only[dV,g1];exact dw.qL h hr (hl β (by simp[PV.bg])) g1
 | rb β o n=>
  obtain⟨b,u,rfl,e2,e3,e4,hb,g1,e5⟩:=hr;simp only[dV,g1];refine Qo.pt _ b 0 (fun _=>u) (fun hx=>e3 hx.1) e2 (fun j hj=>?_) (fun j y hy=>?_)
  ·obtain rfl:j=0:=by simpa using hj
   simpa using e4
  ·cases j with
   |zero=>simp at hy;subst hy;exact dw.qL h ⟨hb,g1,e5⟩ (hl β (by simp[PV.bg])) g1
   |succ j=>simp at hy
 |undef=>simp[dV,PV.aA]at hu
 |fn f a b=>exact absurd rfl (v9 f a b)
 |aO=>simp[dV,PV.aA]at hu
 |aE=>simp[dV,PV.aA]at hu
 |np=>simp[dV,PV.aA]at hu
 |aH=>simp[dV,PV.aA]at hu
 |dk=>simp[dV,PV.aA]at hu
 |cm=>simp[dV,PV.aA]at hu
 |aC=>simp[dV,PV.aA]at hu
 |agg=>cases hr
 |_=>exact Qo.qL hr
end Go.FW
namespace Go.FW
open Go
variable {C : Ctx} {ρ : Nat -> Option Nat} {fr : Fr} {hp : HP} {w : World} {K K' R : Qg}
def PV.pU:PV->Bool
 |.fn .. =>false
 |p=>p.aA
theorem IP{p:PV}(h:p.pU=true):p.aA=true/\∀f a b,p≠ .fn f a b:=by cases p<;>simp_all[PV.pU,PV.aA]
theorem NK{tmps:Array Value}(h:Qv C ρ fr hp tmps w){p:PV}{v:Value}{l:List Nat}(hr:Qj C ρ hp w p v)(hl:∀β∈p.refs,β∈l)(hu:(dV hp p).pU=true):bc w (qF C ρ hp l) (dV hp p) v:=by
 obtain⟨hd,v9⟩:=IP hu;cases p with
 |mp β i o=>exact xz (p:=.mp β i o) h hr (fun bo jC=>hl bo jC) hd (by simp)
 |aq β o n=>exact xz (p:=.aq β o n) h hr (fun bo jC=>hl bo jC) hd (by simp)
 |rb β o n=>exact xz (p:=.rb β o n) h hr (fun bo jC=>hl bo jC) hd (by simp)
 |fn f a b=>exact absurd rfl (v9 f a b)
 |undef=>simp[dV,PV.pU,PV.aA]at hu
 |aO=>simp[dV,PV.pU,PV.aA]at hu
 |agg cs=>exact bc.mono (p:=.agg cs) hr (fun _ _ _=>rfl) (fun _ _ hn hx=>hn hx.1) (Kag _)
 |aE=>simp[dV,PV.aA]at hd
 |np=>simp[dV,PV.aA]at hd
 |aH=>simp[dV,PV.aA]at hd
 |dk=>simp[dV,PV.aA]at hd
 |cm=>simp[dV,PV.aA]at hd
 |aC=>simp[dV,PV.aA]at hd
 |_=>exact Qo.qL hr
theorem IQ{tmps:Array Value}(h:Qv C ρ fr hp tmps w){p:PV}{v:Value}{l:List Nat}(hr:cg C ρ hp w p v)(hl:∀β∈p.refs,β∈l)(hu:(dV hp p).pU=true):bc w (qF C ρ hp l) (dV hp p) v:=by
 obtain⟨hd,v9⟩:=IP hu;refine xz h hr (fun β aj=>hl β ?_) hd ?_
 ·cases p<;>simp_all[PV.bg,PV.refs]
 ·intro f a b hp';subst hp';exact v9 f a b rfl
theorem O4{P:Program}(hP:C.P=P){g:FuncId}{first cap args aM:List PV}{pr:Bool}{d:Option Nat}{r:PV}(h:Qd P g aM (· =r))(cl:(first++args++cap).map (dV hp)=aM)(cQ:aM.all PV.pU=true)(hr:r.F8=true)
  (hK:K (eO fr d r) hp):eD C pr (.fn g first cap) args d fr hp K:=by
 subst hP;refine⟨h.1,fun ρ tmps w fv cv av mB hs h1 h2 h3 kV iM mL=>?_⟩;refine(h.2 w (qF C ρ hp ((first++args++cap).flatMap PV.refs)) (fv++av++cv) (fun b hb=>u3 hs b hb.1) (by rw[<-cl];simp[h1,h2,h3]) (fun i x hx=>?_)).mono ?_
 ·have qW:x.pU=true:=by rw[Kaw]at cQ;exact cQ x (Kah hx)
  rw[<-cl]at hx;simp only[Kap,Kaa]at hx;obtain⟨p,hp',rfl⟩:=hx;have tn:=Kah hp';have hl:∀β∈p.refs,β∈(first++args++cap).flatMap PV.refs:=fun β aj=>Kan.2 ⟨p,tn,aj⟩;rw[gV];rw[KaQ]at hp';by_cases c1:i<(first++args).length
  ·rw[if_pos c1]at hp';rw[if_pos (by simp only[KbV,h1,h3];simpa using c1),gV];rw[KaQ]at hp';by_cases c2:i<first.length
   ·rw[if_pos c2]at hp';rw[if_pos (by omega)];exact IQ hs (kV i p hp') hl qW
   ·rw[if_neg c2]at hp';rw[if_neg (by omega),h1];exact NK hs (mL _ p hp') hl qW
  ·rw[if_neg c1]at hp';have dI:(fv++av).size=(first++args).length:=by simp[h1,h3]
   rw[if_neg (by omega),dI];exact IQ hs (iM _ p hp') hl qW
 ·rintro e w' ⟨v,r',rfl,hx,dZ,rfl⟩;exact⟨v,_,_,rfl,⟨ρ,(hs.grow hx).zX (Qj.zP (QW hr dZ)) mB⟩,fun _=>hx,hK⟩
end Go.FW
namespace Go.FW
def g9:List Nat->List Nat->Nat->List Nat
 | [],_,_=>[]
 |x::xs,ys,c=>(c+x+ys.headD 0)%65536::g9 xs ys.tail ((c+x+ys.headD 0)/65536)
theorem Ik:∀(a b:List Nat)(c:Nat),(g9 a b c).length=a.length
 | [],_,_=>rfl
 |x::xs,b,c=>by simp[g9,Ik xs]
theorem Iv:∀(a b:List Nat)(c:Nat),Qk (g9 a b c)
 | [],_,_=>kA
 |x::xs,b,c=>by rw[g9,e7];exact⟨by omega,Iv xs _ _⟩
theorem O5{a b:List Nat}{i c:Nat}(h:i<a.length):g9 (a.drop i) (b.drop i) c=(c+a[i]+b.getD i 0)%65536::g9 (a.drop (i+1)) (b.drop (i+1)) ((c+a[i]+b.getD i 0)/65536):=by rw[Kas h,g9];simp[Kbx,Kb8,Kae]
theorem Ko:∀(a b:List Nat)(c:Nat),b.length<=a.length->∃k,val (g9 a b c)+65536^a.length*k=val a+val b+c
 | [],b,c,h=>by have:b=[]:=Kat.1 (by simpa using h);subst this;exact⟨c,by simp[g9,val]⟩
 |x::xs,b,c,h=>by
  obtain⟨k,hk⟩:=Ko xs b.tail ((c+x+b.headD 0)/65536) (by simp at h ⊢;omega);refine⟨k,?_⟩;rw[g9,val,val,uh b,KaU,Kbi,KaS (65536^xs.length) 65536,Ka5];generalize 65536^xs.length*k=z at *
  generalize b.headD 0=y at *
  omega
def dP:List Nat->List Nat->Nat->Nat->Nat->List Nat×Nat×Nat
 | [],_,_,c,b=>([],c,b)
 |x::xs,ys,q,c,b=>
  let r:=dP xs ys.tail q ((c+q*ys.headD 0)/65536) (if x<(c+q*ys.headD 0)%65536+b then 1 else 0)
  ((x+65536-(c+q*ys.headD 0)%65536-b)%65536::r.1,r.2)
theorem Il:∀(a v:List Nat)(q c b:Nat),(dP a v q c b).1.length=a.length
 | [],_,_,_,_=>rfl
 |x::xs,v,q,c,b=>by simp[dP,Il xs]
theorem Iw:∀(a v:List Nat)(q c b:Nat),Qk (dP a v q c b).1
 | [],_,_,_,_=>kA
 |x::xs,v,q,c,b=>by simp only[dP];rw[e7];exact⟨by omega,Iw xs _ _ _ _⟩
theorem O6{a v:List Nat}{i q c b:Nat}(h:i<a.length):dP (a.drop i) (v.drop i) q c b=
    ((a[i]+65536-(c+q*v.getD i 0)%65536-b)%65536::(dP (a.drop (i+1)) (v.drop (i+1)) q ((c+q*v.getD i 0)/65536) (if a[i]<(c+q*v.getD i 0)%65536+b then 1 else 0)).1,
     (dP (a.drop (i+1)) (v.drop (i+1)) q ((c+q*v.getD i 0)/65536) (if a[i]<(c+q*v.getD i 0)%65536+b then 1 else 0)).2):=by
  rw[Kas h,dP];simp[Kbx,Kb8,Kae]
theorem Kp:∀(a v:List Nat)(q c b:Nat),Qk a->b<=1->v.length<=a.length->
  val (dP a v q c b).1+(q*val v+c+b)=val a+65536^a.length*((dP a v q c b).2.1+(dP a v q c b).2.2)/\(dP a v q c b).2.2<=1
 | [],v,q,c,b,_,hb,h=>by have:v=[]:=Kat.1 (by simpa using h);subst this;simp[dP,val,hb]
 |x::xs,v,q,c,b,ha,hb,h=>by
  rw[e7]at ha;have ao:(if x<(c+q*v.headD 0)%65536+b then 1 else 0)<=1:=by split<;>omega
  obtain⟨ih,F7⟩:=Kp xs v.tail q ((c+q*v.headD 0)/65536) (if x<(c+q*v.headD 0)%65536+b then 1 else 0) ha.2 ao (by simp at h ⊢;omega);refine⟨?_,F7⟩;simp only[dP];rw[val,val,uh v,KaU,Kbi,KaS (65536^xs.length) 65536,Ka5,KaO q,Kbw q 65536];generalize dP xs v.tail q ((c+q*v.headD 0)/65536) (if x<(c+q*v.headD 0)%65536+b then 1 else 0)=r at *
  generalize 65536^xs.length*(r.2.1+r.2.2)=z at *
  generalize q*v.headD 0=y at *
  generalize q*val v.tail=t at *
  have h0:=ha.1;split at ih
  ·omega
  ·omega
open Go
variable {fr : Fr} {hp : HP}
theorem Wp{ty len:Nat}{aT:PV->List PV->Prop}{xs':List PV}(hB:hp B0=some ⟨1,ty,xs',false⟩)(hi:jS xs')(hl:xs'.length=len)(hp':aT (.aO []) xs'):nX [] ty len aT fr hp:=
 ⟨xs',hB,hi,hl,.inl ⟨by simp,.aO [],trivial,by simp,hp'⟩⟩
theorem G1{ty len s:Nat}{aT:PV->List PV->Prop}{xs':List PV}{p:PV}(hB:hp B0=some ⟨1,ty,xs',false⟩)(hi:jS xs')(hl:xs'.length=len)(hs:Qy hp (fr s)=p)(hd:p.aA=true)(hp':aT p xs'):nX [.t s] ty len aT fr hp:=
 ⟨xs',hB,hi,hl,.inl ⟨by simp only[gQ];rw[hs];exact hd,p,by simp only[gx];rw[hs];exact bT p,fun β o n e=>by subst e;simp[PV.aA]at hd,hp'⟩⟩
theorem K7{ty len s o n:Nat}{aT:PV->List PV->Prop}{xs':List PV}(hB:hp B0=some ⟨1,ty,xs',false⟩)(hi:jS xs')(hl:xs'.length=len)(hs:fr s= .aq B0 o n)(hp':aT (.aq B0 o n) xs'):nX [.t s] ty len aT fr hp:=
 ⟨xs',hB,hi,hl,.inr ⟨s,o,n,rfl,hs,hp'⟩⟩
end Go.FW
namespace Go.FW
open Go
variable {C : Ctx} {fr : Fr} {hp : HP} {K : Qg}
theorem u5{a b i:Nat}(h:b<2^i):a*2^i|||b=a*2^i+b:=by rw[<-Nat.shiftLeft_eq,Nat.shiftLeft_add_eq_or_of_lt h]
theorem G2{bt:Bool}{x y d:Nat}(hx:x<18446744073709551616)(hy:y<18446744073709551616):bG .or bt (.int .u64 (x:Int)) (.int .u64 (y:Int)) d fr hp K=K (ae fr d (.int .u64 ((x|||y:Nat):Int))) hp:=by
 have h1:(BitVec.ofInt 64 (x:Int)|||BitVec.ofInt 64 (y:Int)).toNat=x|||y:=by rw[BitVec.toNat_or,BitVec.ofInt_natCast,BitVec.ofInt_natCast,BitVec.toNat_ofNat,BitVec.toNat_ofNat,KaC hx,KaC hy]
 have h2:x|||y<18446744073709551616:=Nat.or_lt_two_pow (n:=64) hx hy;simp only[bG,IntKind.bits,h1,true_and];rw[nO (by omega) (by omega)];exact congrArg (fun z:Nat=>K (ae fr d (.int .u64 (z:Int))) hp) h1
theorem G3{bt:Bool}{x y d:Nat}(hx:x<4294967296)(hy:y<4294967296):bG .or bt (.int .u32 (x:Int)) (.int .u32 (y:Int)) d fr hp K=K (ae fr d (.int .u32 ((x|||y:Nat):Int))) hp:=by
 have h1:(BitVec.ofInt 32 (x:Int)|||BitVec.ofInt 32 (y:Int)).toNat=x|||y:=by rw[BitVec.toNat_or,BitVec.ofInt_natCast,BitVec.ofInt_natCast,BitVec.toNat_ofNat,BitVec.toNat_ofNat,KaC hx,KaC hy]
 have h2:x|||y<4294967296:=Nat.or_lt_two_pow (n:=32) hx hy;simp only[bG,IntKind.bits,h1,true_and];rw[xN (by omega) (by omega)];exact congrArg (fun z:Nat=>K (ae fr d (.int .u32 (z:Int))) hp) h1
theorem Wq{bt:Bool}{x y d:Nat}(hx:x<65536)(hy:y<65536):bG .or bt (.int .u16 (x:Int)) (.int .u16 (y:Int)) d fr hp K=K (ae fr d (.int .u16 ((x|||y:Nat):Int))) hp:=by
 have h1:(BitVec.ofInt 16 (x:Int)|||BitVec.ofInt 16 (y:Int)).toNat=x|||y:=by rw[BitVec.toNat_or,BitVec.ofInt_natCast,BitVec.ofInt_natCast,BitVec.toNat_ofNat,BitVec.toNat_ofNat,KaC hx,KaC hy]
 have h2:x|||y<65536:=Nat.or_lt_two_pow (n:=16) hx hy;simp only[bG,IntKind.bits,h1,true_and];rw[QZ (by omega) (by omega)];exact congrArg (fun z:Nat=>K (ae fr d (.int .u16 (z:Int))) hp) h1
theorem K8{bt:Bool}{k':IntKind}{x s d:Nat}(hs:s<=64)(h:x*2^s<18446744073709551616):bG .shl bt (.int .u64 (x:Int)) (.int k' (s:Int)) d fr hp K=K (ae fr d (.int .u64 ((x*2^s:Nat):Int))) hp:=by
 have h0:(0:Int)<=s:=by omega
 have h1:min ((s:Int).toNat) IntKind.u64.bits=s:=by simp[IntKind.bits];omega
 simp only[bG,h0,true_and,h1];rw[show(x:Int)*2^s=((x*2^s:Nat):Int)by push_cast;rfl,nO (by omega) (by omega)]
theorem KO{bt:Bool}{k':IntKind}{x s d:Nat}(hs:s<=32)(h:x*2^s<4294967296):bG .shl bt (.int .u32 (x:Int)) (.int k' (s:Int)) d fr hp K=K (ae fr d (.int .u32 ((x*2^s:Nat):Int))) hp:=by
 have h0:(0:Int)<=s:=by omega
 have h1:min ((s:Int).toNat) IntKind.u32.bits=s:=by simp[IntKind.bits];omega
 simp only[bG,h0,true_and,h1];rw[show(x:Int)*2^s=((x*2^s:Nat):Int)by push_cast;rfl,xN (by omega) (by omega)]
theorem BL{bt:Bool}{k':IntKind}{x d:Nat}(h:x<281474976710656):bG .shl bt (.int .u64 (x:Int)) (.int k' 16) d fr hp K=K (ae fr d (.int .u64 ((x*65536:Nat):Int))) hp:=
 K8 (s:=16) (by omega) (by omega)
theorem BM{bt:Bool}{k':IntKind}{x d:Nat}(h:x<65536):bG .shl bt (.int .u32 (x:Int)) (.int k' 16) d fr hp K=K (ae fr d (.int .u32 ((x*65536:Nat):Int))) hp:=
 KO (s:=16) (by omega) (by omega)
theorem Cv{bt:Bool}{k':IntKind}{x s d:Nat}(hs:s<=32):bG .shr bt (.int .u32 (x:Int)) (.int k' (s:Int)) d fr hp K=K (ae fr d (.int .u32 ((x/2^s:Nat):Int))) hp:=by
 rw[CN (by omega)];have h1:min ((s:Int).toNat) IntKind.u32.bits=s:=by simp[IntKind.bits];omega
 rw[h1,Kck _ (Int.pow_nonneg (by omega))];rw[show(x:Int)/2^s=((x/2^s:Nat):Int)by push_cast;rfl]
theorem Ch{bt:Bool}{x y d:Nat}(hx:x<281474976710656)(hy:y<65536):bG .or bt (.int .u64 ((x*65536:Nat):Int)) (.int .u64 (y:Int)) d fr hp K=K (ae fr d (.int .u64 ((x*65536+y:Nat):Int))) hp:=by rw[G2 (by omega) (by omega),show x*65536|||y=x*65536+y from u5 (i:=16) hy]
theorem Rn{bt:Bool}{x y d:Nat}(hx:x<65536)(hy:y<65536):bG .or bt (.int .u32 ((x*65536:Nat):Int)) (.int .u32 (y:Int)) d fr hp K=K (ae fr d (.int .u32 ((x*65536+y:Nat):Int))) hp:=by rw[G3 (by omega) (by omega),show x*65536|||y=x*65536+y from u5 (i:=16) hy]
theorem Jx{bt:Bool}{x y d:Nat}(hx:x<65536)(hy:y<65536):bG .or bt (.int .u32 (y:Int)) (.int .u32 ((x*65536:Nat):Int)) d fr hp K=K (ae fr d (.int .u32 ((x*65536+y:Nat):Int))) hp:=by rw[G3 (by omega) (by omega),Nat.or_comm,show x*65536|||y=x*65536+y from u5 (i:=16) hy]
theorem Cw{bt:Bool}{k:IntKind}{x y d:Nat}(hy:0<y)(hw:k.wrap ((x/y:Nat):Int)=((x/y:Nat):Int)):bG .quo bt (.int k (x:Int)) (.int k (y:Int)) d fr hp K=K (ae fr d (.int k ((x/y:Nat):Int))) hp:=by
 have:(y:Int)≠0:=by omega
 simp only[bG,ne_eq,this,not_false_eq_true,true_and];rw[Sx (by omega),<-hw];rfl
theorem mX{bt:Bool}{k:IntKind}{x y d:Nat}(hy:0<y):bG .rem bt (.int k (x:Int)) (.int k (y:Int)) d fr hp K=K (ae fr d (.int k ((x%y:Nat):Int))) hp:=by
 have:(y:Int)≠0:=by omega
 simp only[bG,ne_eq,this,not_false_eq_true,true_and];rw[Sy (by omega)];rfl
theorem O7{n:Nat}(h:n<18446744073709551616):IntKind.u64.wrap (n:Int)=n:=nO (by omega) (by omega)
theorem O8{n:Nat}(h:n<4294967296):IntKind.u32.wrap (n:Int)=n:=xN (by omega) (by omega)
theorem O9{n:Nat}(h:n<9223372036854775808):IntKind.i64.wrap (n:Int)=n:=qh (by omega) (by omega)
theorem uF{bt:Bool}{x y d:Nat}(hy:0<y)(hx:x<18446744073709551616):bG .quo bt (.int .u64 (x:Int)) (.int .u64 (y:Int)) d fr hp K=K (ae fr d (.int .u64 ((x/y:Nat):Int))) hp:=
 Cw hy (O7 (Kcg (Kci x y) hx))
theorem Ti{bt:Bool}{x y d:Nat}(hy:0<y)(hx:x<4294967296):bG .quo bt (.int .u32 (x:Int)) (.int .u32 (y:Int)) d fr hp K=K (ae fr d (.int .u32 ((x/y:Nat):Int))) hp:=
 Cw hy (O8 (Kcg (Kci x y) hx))
theorem Cx{bt:Bool}{x y d:Nat}(hy:0<y)(hx:x<9223372036854775808):bG .quo bt (.int .i64 (x:Int)) (.int .i64 (y:Int)) d fr hp K=K (ae fr d (.int .i64 ((x/y:Nat):Int))) hp:=
 Cw hy (O9 (Kcg (Kci x y) hx))
theorem Tj{e d β o n H:Nat}{k:IntKind}(h:H<=n)(he:(hp β).map (·.e)=some e):fH e (.aq β o n) none (some (.int k (H:Int))) none d fr hp K=K (ae fr d (.aq β o H)) hp:=by
 have h1:(H:Int)<=(n:Int):=by omega
 simp[fH,fl,he,h1]
theorem Tk{e d β o n L H:Nat}{k k':IntKind}(h1:L<=H)(h:H<=n)(h0:L<n)(he:(hp β).map (·.e)=some e):fH e (.aq β o n) (some (.int k (L:Int))) (some (.int k' (H:Int))) none d fr hp K=K (ae fr d (.aq β (o+L) (H-L))) hp:=by
 have q1:(H:Int)<=(n:Int):=by omega
 have q2:(L:Int)<=(H:Int):=by omega
 have q3:(L:Int)<(n:Int):=by omega
 simp[fH,fl,he,q1,q2,q3]
theorem Jy{bt:Bool}{x d:Nat}(hx:x<9223372036854775808):bG .quo bt (.int .i64 (x:Int)) (.int .i64 16) d fr hp K=K (ae fr d (.int .i64 ((x/16:Nat):Int))) hp:=
 Cx (y:=16) (by omega) hx
theorem Jz{bt:Bool}{x d:Nat}:bG .rem bt (.int .i64 (x:Int)) (.int .i64 16) d fr hp K=K (ae fr d (.int .i64 ((x%16:Nat):Int))) hp:=
 mX (y:=16) (by omega)
def kF(s:Nat):List Nat->Nat->List Nat
 | [],c=>[c]
 |x::xs,c=>((x*2^s)%65536+c)::kF s xs (x*2^s/65536)
theorem Kq(s:Nat):∀(l:List Nat)(c:Nat),val (kF s l c)=val l*2^s+c
 | [],c=>by simp[kF,val]
 |x::xs,c=>by rw[kF,val,Kq s xs,val,Kaz,Ka5];generalize x*2^s=y;generalize val xs*2^s=z;omega
theorem BN{s:Nat}(h:s<=16):(65536:Nat)=2^s*2^(16-s):=by rw[<-Nat.pow_add,show s+(16-s)=16 by omega]
theorem Kr{s x c:Nat}(h:s<=16)(hc:c<2^s):(x*2^s)%65536+c<65536/\c|||(x*2^s)%65536=(x*2^s)%65536+c:=by
 have e:(x*2^s)%65536=(x%2^(16-s))*2^s:=by rw[BN h,KaS x,Nat.mul_mod_mul_left,KaS]
 have h1:x%2^(16-s)<2^(16-s):=Kbn _ (KbI (by omega));have h2:(x%2^(16-s)+1)*2^s<=2^(16-s)*2^s:=Kam _ h1;rw[Kaz,KaS (2^(16-s)),<-BN h]at h2;rw[e];refine⟨by omega,?_⟩;rw[Nat.or_comm,u5 hc]
theorem JA{s x:Nat}(h:s<=16)(hx:x<65536):x*2^s/65536<2^s:=by rw[Ka6 (by omega),KaS];exact Nat.mul_lt_mul_of_pos_left hx (KbI (by omega))
theorem Ix{s:Nat}(h:s<=15):∀(l:List Nat)(c:Nat),Qk l->c<2^s->Qk (kF s l c)
 | [],c,_,hc=>by have:2^s<=2^15:=KaX (by omega) h;simp[kF,Qk];omega
 |x::xs,c,hl,hc=>by rw[e7]at hl;rw[kF,e7];exact⟨(Kr (by omega) hc).1,Ix h xs _ hl.2 (JA (by omega) hl.1)⟩
theorem H3(s:Nat):∀(l:List Nat)(c:Nat),(kF s l c).length=l.length+1
 | [],_=>rfl
 |x::xs,c=>by simp[kF,H3 s xs]
theorem Wr{s x:Nat}(h:s<=15)(hx:x<65536):x*2^s<2147483648:=by have:2^s<=2^15:=KaX (by omega) h;have:=KbU (show x<=65535 by omega) this;omega
theorem Ks(l:List Nat):∀n,n<=l.length->cut l n=l.take (cut l n).length
 |0,_=>by simp[cut]
 |n+1,h=>by
  unfold cut;split
  ·exact Ks l n (by omega)
  ·rw[Kav,KbJ h]
theorem Ro{l:List Nat}(h:Qk l):l.take (nl (val l))=ak (val l):=by have:=Ks l l.length (Kag _);rw[uO h]at this;exact this.symm
end Go.FW
namespace Go.FW
open Go
theorem uQ.M4{P:Program}{f:FuncId}{args:List PV}{ty:TypeId}{ys:List PV}(h:uQ P f args ty (· =ys)):Qd P f args (· = .sl 1 ys):=by
 refine⟨h.1,fun w X aU hX h2 h3=>(h.2 w X aU hX h2 h3).mono ?_⟩;rintro e w' ⟨v,b,cap,ys',rfl,rfl,hb,hx,hI,cP,hm,rfl⟩;refine⟨_,_,rfl,hx,?_,rfl⟩;obtain⟨hint,cur,cp,i1,i2,i3,i4,i5⟩:=hI;obtain⟨cur',ty',d1,d2⟩:=cP;rw[i1]at d1;cases d1;have td:b<w'.heap.size:=(Kbc.1 i1).1;have e:cp=cap:=by omega
 subst e;refine Qo.sl (w:=w') (X:=X) 1 ys' b 0 cp (fun i j=>cur.getD (i+j) undef) (fun wv=>by have:=hX b wv;omega) td i3 i4 (xO hint |> fun h i x hx=>(h i x hx).1) (fun i hi j hj=>?_) (fun i x hx j y hy=>?_)
 ·have:j=0:=by omega
  subst this;simp only[Ka2,Kb4,KaM];exact iu i1 (by omega)
 ·obtain⟨k,n,rfl⟩:=hint x (Kah hx);cases j with
  |zero=>simp[PV.cells]at hy;subst hy;show Qo w' X (.int k n) (cur.getD (i+0) undef);rw[KaM,i5 i k n hx];exact Qo.int k n
  |succ j=>simp[PV.cells]at hy
def jT(s:Nat):List Nat->List Nat
 | []=>[]
 |x::xs=>((xs.headD 0*65536+x)/2^s)%65536::jT s xs
theorem Bf(s:Nat):∀l,(jT s l).length=l.length
 | []=>rfl
 |x::xs=>by simp[jT,Bf s xs]
theorem Iy(s:Nat):∀l,Qk (jT s l)
 | []=>kA
 |x::xs=>by rw[jT,e7];exact⟨by omega,Iy s xs⟩
theorem O'{s i:Nat}{l:List Nat}(h:i<l.length):jT s (l.drop i)=((l.getD (i+1) 0*65536+l[i])/2^s)%65536::jT s (l.drop (i+1)):=by rw[Kas h,jT];simp[Kbx,Kb8,Kae]
theorem Rp{x V s:Nat}(hs:s<=16)(hx:x<65536):(x+65536*V)/2^s=((V%65536*65536+x)/2^s)%65536+65536*(V/2^s):=by
 have hp:0<2^s:=KbI (by omega);have e0:=Kbb V (2^s);have hr:=Kbn V hp;generalize hq:V/2^s=q at *
 generalize Ml:V%2^s=r at *
 have hy:V%65536%2^s=r:=by rw[BN hs,Nat.mod_mul_right_mod];exact Ml
 have e1:=Kbb (V%65536) (2^s);rw[hy]at e1;generalize V%65536/2^s=t at *
 have an:(65536*r+x)/2^s<65536:=by rw[Ka6 hp];have:65536*(r+1)<=65536*2^s:=Kbm _ hr;omega
 have k1:x+65536*V=(65536*r+x)+2^s*(65536*q):=by rw[<-e0,KaO,Kbw];omega
 have k2:V%65536*65536+x=(65536*r+x)+2^s*(65536*t):=by rw[<-e1,Kaz,Ka5,KaS t 65536];omega
 rw[k1,k2,Kb6 _ _ hp,Kb6 _ _ hp,Kb5,KaC an]
theorem Kt{s:Nat}(hs:s<=16):∀l,Qk l->val (jT s l)=val l/2^s
 | [],_=>by simp[jT,val]
 | x::xs,h=>by
  rw[e7]at h;rw[jT,val,Kt hs xs h.2,val,Rp hs h.1];have:xs.headD 0=val xs%65536:=by
   cases xs with
   |nil=>simp[val]
   |cons y ys=>have:=h.2 y (by simp);simp[val];omega
  rw[this]
variable {C : Ctx} {ρ : Nat -> Option Nat} {fr aw : Fr} {hp : HP} {w : World} {K K' R R' : Qg}
def bF(fr aw:Fr):Prop:=∀s,aw s=fr s∨aw s= .undef
theorem bF.refl(fr:Fr):bF fr fr:=fun _=>.inl rfl
theorem bF.trans{a b c:Fr}(h:bF a b)(k:bF b c):bF a c:=fun s=>by
 rcases k s with e|e
 ·rw[e];exact h s
 ·exact .inr e
theorem bF.ae(h:bF fr aw)(d:Nat){v v':PV}(hv:v'=v∨v'= .undef):bF (ae fr d v) (ae aw d v'):=fun s=>by
 unfold FW.ae;split
 ·exact hv
 ·exact h s
theorem bF.fI(h:bF fr aw)(d:Nat)(v:PV):bF (FW.ae fr d v) (FW.ae aw d v):=h.ae d (.inl rfl)
theorem bF.kill(h:bF fr aw)(β:Nat):bF (bB β fr) (bB β aw):=fun s=>by
 unfold bB;rcases h s with e|e
 ·exact .inl (by rw[e])
 ·right;rw[e];simp[bl,PV.refs]
theorem bF.ev(h:bF fr aw)(x:aF):ev aw x=ev fr x∨ev aw x= .undef:=by
 cases x with
 |t n=>exact h n
 |c p=>exact .inl rfl
theorem bF.mem(h:bF fr aw){q:PV->Prop}(hq:¬q .undef){l:List aF}(hl:∀p∈l.map (FW.ev aw),q p):l.map (FW.ev aw)=l.map (FW.ev fr):=by
 refine KaV fun x hx=>?_;rcases h.ev x with e|e
 ·exact e
 ·exact absurd (e▸hl _ (Kcb hx)) hq
theorem bF.aC(h:bF fr aw){γ aS e ty:Nat}{xs:List PV}(e1:aw γ= .aC aS e ty xs):fr γ= .aC aS e ty xs:=by
 rcases h γ with e2|e2
 ·rw[<-e2];exact e1
 ·rw[e1]at e2;cases e2
theorem bF.drop(h:bF fr aw)(γ:Nat):bF (fL γ fr) (fL γ aw):=fun s=>by
 unfold fL;rcases h s with e|e
 ·exact .inl (by rw[e])
 ·right;rw[e];rfl
theorem bF.take(h:bF fr aw)(β:Nat):bF (dU β fr) (dU β aw):=fun s=>by
 unfold dU;rcases h s with e|e
 ·exact .inl (by rw[e])
 ·right;rw[e];simp[cu,bl,PV.refs]
theorem bF.wk(h:bF fr aw):Wk fr hp aw hp:=by
 rintro C tmps w ⟨ρ,hs⟩;refine⟨ρ,hs.sz,hs.ext,hs.dK,hs.own,hs.inj,fun s=>?_⟩;rcases h s with h|h<;>rw[h]
 ·exact hs.cd s
 ·trivial
theorem bF.MZ{tmps:Array Value}(h:bF fr aw)(hs:Qv C ρ fr hp tmps w):Qv C ρ aw hp tmps w:=by
 refine⟨hs.sz,hs.ext,hs.dK,hs.own,hs.inj,fun s=>?_⟩;rcases h s with h|h<;>rw[h]
 ·exact hs.cd s
 ·trivial
theorem z6(h:bF fr aw)(x:Option aF):x.map (ev aw)=x.map (ev fr)∨x.map (ev aw)=some .undef:=by
 cases x with
 |none=>exact .inl rfl
 |some x=>rcases h.ev x with e|e<;>simp[e]
theorem ZW(d:Int):fl d (some .undef)=none:=rfl
theorem Cy (h:bF fr aw) (hK:∀f f' hp,bF f f'->K' f' hp->K f hp) (o:bN):aV C o aw hp K'->aV C o fr hp K:=by
 have hu:∀(d:Nat)(v:PV)(hp:HP),K' (ae aw d v) hp->K (ae fr d v) hp:=fun d v hp H=>hK _ _ _ (h.fI d v) H;have hk:∀(β d:Nat)(v:PV)(hp:HP),K' (ae (bB β aw) d v) hp->K (ae (bB β fr) d v) hp:=fun β d v hp H=>hK _ _ _ ((h.kill β).fI d v) H;have hz:∀hp,K' aw hp->K fr hp:=fun hp H=>hK _ _ _ h H;have mono:∀ {o:bN},aV C o fr hp K'->aV C o fr hp K:=fun H=>Cg (fun f hp H=>hK _ _ _ (bF.refl f) H) _ H;cases o with
 |mv d x=>exact fun H=>hK _ _ _ (h.ae d (h.ev x)) H
 | pick d c a b=>
  simp only[aV,nW];rcases h.ev c with e|e
  ·rw[e];split
   ·exact fun H=>⟨fun t=>hK _ _ _ (h.ae d (h.ev a)) (H.1 t),fun t=>hK _ _ _ (h.ae d (h.ev b)) (H.2 t)⟩
   ·exact id
  ·rw[e];exact False.elim
 | call d pr f args=>
  simp only[aV,eD];rcases h.ev f with e|e
  ·rw[e];split
   ·rintro⟨h1,h2⟩;refine⟨h1,fun ρ tmps w fv cv av a1 a2 a3 a4 a5 a6 a7 a8=>?_⟩;refine(h2 ρ tmps w fv cv av a1 (h.MZ a2) a3 a4 (by simpa using a5) a6 a7 (fun i x hx=>?_)).mono ?_
    ·simp only[Kap,Kaa]at hx;obtain⟨y,hy,rfl⟩:=hx;rcases h.ev y with e|e
     ·rw[e];exact a8 i _ (by simp[hy])
     ·rw[e];trivial
    ·rintro e w' ⟨v,f1,hp',e1,e2,e3,e4⟩;exact⟨v,f1,hp',e1,e2,e3,hK _ _ _ (bF.refl _) e4⟩
   ·exact id
  ·rw[e];exact False.elim
 | bs d e ty ps=>
  simp only[aV,jj];by_cases hb:kJ (ps.map (ev aw))=true
  ·rw[if_pos hb];rintro⟨h1,h2⟩;have e:ps.map (ev aw)=ps.map (ev fr):=by
    match ps,hb with
    | [],hb=>simp[kJ]at hb
    | [p],hb=>
     rcases h.ev p with e|e
     ·simp[e]
     ·rw[Kbs,Kby,e]at hb;simp[kJ,jb]at hb
    |p::q::ps,hb=>simp[kJ]at hb
   rw[e]at h2 hb;rw[if_pos hb];exact⟨h1,hK _ _ _ (((h.take _).fI _ _).fI _ _) h2⟩
  ·rw[if_neg hb];rintro⟨h1,h2,h3⟩;have e:=h.mem (q:=fun p=>(Qy hp p).aA=true) (by simp[Qy,bR,PV.aA]) (l:=ps) (fun p hp=>(h2 p hp).1);rw[e]at h2 h3 hb;rw[if_neg hb];exact⟨h1,h2,hk _ _ _ _ h3⟩
 | cw d z ps=>
  have key:((∀x∈ps,ev aw x.2.2≠ .undef)->(ps.map fun p=>(p.1,p.2.1,ev aw p.2.2))=ps.map fun p=>(p.1,p.2.1,ev fr p.2.2)):=fun hu=>by
   refine KaV fun x hx=>?_;rcases h.ev x.2.2 with e|e
   ·rw[e]
   ·exact absurd e (hu x hx)
  intro H;simp only[aV,gZ]at H;split at H
  ·rename_i hn;obtain⟨h2,h3⟩:=H;have e:=key fun x hx e=>by obtain⟨cs,h4,_⟩:=h2 _ (Kcb hx);rw[e]at h4;simp[df]at h4
   rw[e]at h2 h3 hn;simp only[aV,gZ];rw[if_pos hn];exact⟨h2,hK _ _ _ (h.fI _ _) h3⟩
  ·rename_i hn;obtain⟨h2,h3⟩:=H;have e:=key fun x hx e=>by have:=(h2 _ (Kcb hx)).1;rw[e]at this;simp[Qy,bR,PV.aA]at this
   rw[e]at h2 h3 hn;simp only[aV,gZ];rw[if_neg hn];exact⟨h2,hK _ _ _ (h.fI _ _) h3⟩
 |fn d f first cap=>simp only[aV];rintro⟨h2,h3⟩;have jl:=h2;rw[List.all_append,Ka1,Kaw,Kaw]at jl;have e1:=h.mem (q:=fun p=>p.ij=true) (by simp[PV.ij]) jl.1;have e2:=h.mem (q:=fun p=>p.ij=true) (by simp[PV.ij]) jl.2;rw[e1,e2]at h2 h3;exact⟨h2,hK _ _ _ (h.fI _ _) h3⟩
 | wF d x=>
  simp only[aV,vd];rcases h.ev x with e|e
  ·rw[e];intro H;revert H
   repeat' split
   all_goals first|exact id|exact hz _|exact hu _ _ _|grind
  ·rw[e];intro H;revert H;repeat' split
   all_goals first|exact id|exact False.elim|grind
 | bin d op bt x y=>
  simp only[aV];rcases h.ev x with e|e<;>rcases h.ev y with e'|e'<;>rw[e,e']
  ·unfold bG;intro H;revert H;split
   ·split<;>first|exact fun H=>⟨H.1,hu _ _ _ H.2⟩|exact fun H=>⟨H.1,H.2.1,hu _ _ _ H.2.2⟩|exact id
   ·split<;>first|exact fun H=>⟨H.1,hu _ _ _ H.2⟩|exact id
   ·exact id
  all_goals
   unfold bG;intro H;revert H
   repeat' split
   all_goals first|exact False.elim|(intros;simp_all;done)|(rename_i h1 _;cases h1;done)|(rename_i h1;cases h1;done)
 | sl d e x lo hi mx=>
  simp only[aV,fH];rcases h.ev x with e0|e0<;>rcases z6 h lo with e1|e1<;>rcases z6 h hi with e2|e2<;>rcases z6 h mx with e3|e3<;>rw[e0,e1,e2,e3]
  all_goals
   intro H;revert H
   try simp only[ZW]
   repeat' split
   all_goals first|exact id|exact False.elim|(intros;simp_all;done)|grind
 | ld d n ag x=>
  simp only[aV,bb];rcases h.ev x with e|e
  ·rw[e];intro H;revert H;split
   ·split
    ·exact fun⟨a,b,c,k⟩=>⟨a,b,c,hu _ _ _ k⟩
    ·exact id
   ·exact fun⟨a,b,k⟩=>⟨a,b,hu _ _ _ k⟩
   ·exact fun⟨a,b,k⟩=>⟨a,b,hu _ _ _ k⟩
   ·intro H;split at H
    ·rename_i ah;rw[h.aC ah];obtain⟨a,b,c,d,k⟩:=H;exact⟨a,b,c,d,hu _ _ _ k⟩
    ·exact H.elim
   ·exact id
  ·rw[e];exact fun H=>H.elim
 | st n x y=>
  simp only[aV,kt];rcases h.ev x with e|e<;>rcases h.ev y with e'|e'<;>rw[e,e']
  ·intro H;revert H;split
   ·split
    ·exact fun⟨a,b,c,d,f,k⟩=>⟨a,b,c,d,f,hz _ k⟩
    ·exact id
   ·intro H;split at H
    ·rename_i ah;rw[h.aC ah];obtain⟨a,b,c,d,H⟩:=H;refine⟨a,b,c,d,?_⟩;revert H;split
     ·exact fun⟨f,k⟩=>⟨f,hK _ _ _ ((h.drop _).fI _ _) k⟩
     ·exact id
    ·exact H.elim
   ·exact id
  ·intro H;exfalso;revert H;split
   ·split
    ·rintro⟨_,b,_⟩;simp[Qy,bR,PV.aA]at b
    ·exact id
   ·split
    ·rintro⟨_,_,_,_,H⟩;exact H
    ·exact id
   ·exact id
  ·exact fun H=>H.elim
  ·exact fun H=>H.elim
 | app d e by_ ty x y=>
  simp only[aV,fM];rcases h.ev y with e'|e'
  ·rw [e'];intro H;revert H;split
   ·unfold sS;split
    ·rename_i δ _;rcases h δ with e2|e2
     ·rw [e2];split
      ·rintro⟨a1,a2,a3,H⟩;refine⟨a1,a2,a3,?_⟩;rcases h.ev x with e|e
       ·rw[e]at H;revert H;split
        ·exact fun H=>⟨H.1,hK _ _ _ (((h.take _).fI _ _).fI _ _) H.2⟩
        ·rename_i γ k _;rcases h γ with e3|e3
         ·rw[e3];split
          ·exact fun H=>⟨H.1,H.2.1,hK _ _ _ (((h.take _).fI _ _).fI _ _) H.2.2⟩
          ·exact id
         ·rw[e3];exact fun H=>H.elim
        ·exact id
       ·rw[e]at H;exact H.elim
      ·exact id
     ·rw[e2];exact fun H=>H.elim
    ·exact id
   ·rintro⟨h0,h1,H⟩;refine⟨h0,h1,?_⟩;rcases h.ev x with e|e
    ·rw[e]at H;revert H;split
     ·rintro⟨a,b,c⟩;exact⟨a,b,hk _ _ _ _ c⟩
     ·split
      ·rintro(⟨a1,a2,a3,a4,a5,a6,a7,c⟩|⟨a1,a2,a3,c⟩)
       ·exact .inl ⟨a1,a2,a3,a4,a5,a6,a7,hk _ _ _ _ c⟩
       ·exact .inr ⟨a1,a2,a3,hK _ _ _ ((h.take _).fI _ _) c⟩
      ·exact id
     ·exact id
    ·rw[e]at H;exact H.elim
  ·rw[e'];exact fun H=>H.elim
 | un d op x|conv d k x|len d x|wN d x|aX d o x|s5 d o n ag x|ext d x i=>
  all_goals
   simp only[aV,pW,qx,lH,qC,nr,nf,bb,jf]
   try (rcases h.ev x with e|e<;>rw[e])
  all_goals
   intro H;revert H
   repeat' split
   all_goals first|exact id|exact False.elim|exact hu _ _ _|grind [Qy,bR,PV.aA]
 | box d n ty x=>
  simp only[aV];rcases h.ev x with e|e
  ·rw[e];unfold dO;split
   ·unfold o6;exact fun H=>⟨H.1,hK _ _ _ (((h.take _).fI _ _).fI _ _) H.2⟩
   ·split
    ·exact hu _ _ _
    ·exact fun H=>⟨H.1,H.2.1,H.2.2.1,hk _ _ _ _ H.2.2.2⟩
  ·rw[e];intro H;simp[dO,Qy,bR,PV.aA]at H
 | alloc d n ty z=>
  simp only[aV];unfold dO;split
  ·unfold o6;exact fun H=>⟨H.1,hK _ _ _ (((h.take _).fI _ _).fI _ _) H.2⟩
  ·split
   ·exact hu _ _ _
   ·exact fun H=>⟨H.1,H.2.1,H.2.2.1,hk _ _ _ _ H.2.2.2⟩
 | eqs d ng x y|rM d ng x y|wM d x y|mx d x y|mn d x y|idx d e x y|lf d n e x y|wA d n e ag x y|mk d e by_ ty z x y|pk d e x y=>
  all_goals
   simp only[aV,nn,nq,o0,rI,rG,aK,nd,sR,kt,ks,fM,o7];rcases h.ev x with e|e<;>rcases h.ev y with e'|e'<;>rw[e,e']
  all_goals
   intro H;revert H
   repeat' split
   all_goals first|exact id|exact False.elim|exact hu _ _ _|grind [Qy,bR,PV.aA,gh]
 |bad d=>exact id
end Go.FW
namespace Go.FW
open Go
variable {C : Ctx} {ρ : Nat -> Option Nat} {fr aw : Fr} {hp : HP} {w : World} {K K' R R' : Qg}
def KM(K' K:Qg):Prop:=∀f f' hp,bF f f'->K' f' hp->K f hp
inductive jU:List It->List It->Prop
 |nil:jU [] []
 |c (s:SC) {a b:List It}:jU a b->jU (.c s::a) (.c s::b)
 |o (r:RT) {a b:List It}:jU a b->jU (.o r::a) (.o r::b)
 |eb (i:Nat) {a b:List It}:jU a b->jU (.eb i::a) (.eb i::b)
 |el {J' J:Qg} {a b:List It}:KM J' J->jU a b->jU (.el J'::a) (.el J::b)
theorem jU.exit{id:Nat}:∀ {a b:List It},jU a b->(∃a' b',FW.bJ id a=some a'/\FW.bJ id b=some b'/\jU a' b'/\bx a'<=bx a)∨(FW.bJ id a=none/\FW.bJ id b=none):=by
 intro a b h;induction h with
 |nil=>exact .inr ⟨rfl,rfl⟩
 |c s h ih|o s h ih=>
  rcases ih with⟨a',b',h1,h2,h3,h4⟩|⟨h1,h2⟩
  ·exact .inl ⟨a',b',by simpa[FW.bJ]using h1,by simpa[FW.bJ]using h2,h3,by simp only[bx];omega⟩
  ·exact .inr ⟨by simpa[FW.bJ]using h1,by simpa[FW.bJ]using h2⟩
 |el _ h ih=>
  rcases ih with⟨a',b',h1,h2,h3,h4⟩|⟨h1,h2⟩
  ·exact .inl ⟨a',b',by simpa[FW.bJ]using h1,by simpa[FW.bJ]using h2,h3,by simp only[bx];omega⟩
  ·exact .inr ⟨by simpa[FW.bJ]using h1,by simpa[FW.bJ]using h2⟩
 | eb i h ih=>
  by_cases hi:i=id
  ·exact .inl ⟨_,_,by simp[FW.bJ,hi],by simp[FW.bJ,hi],h,by simp only[bx];omega⟩
  ·rcases ih with⟨a',b',h1,h2,h3,h4⟩|⟨h1,h2⟩
   ·exact .inl ⟨a',b',by simpa[FW.bJ,hi]using h1,by simpa[FW.bJ,hi]using h2,h3,by simp only[bx];omega⟩
   ·exact .inr ⟨by simpa[FW.bJ,hi]using h1,by simpa[FW.bJ,hi]using h2⟩
theorem xA(h:bF fr aw)(hK:KM K' K)(o:bN):gi o aw hp K'->gi o fr hp K:=by
 unfold gi;split
 ·exact hK _ _ _ (h.fI _ _)
 ·exact hK _ _ _ h
theorem Rq(h:bF fr aw)(hK:KM K' K)(g:Option (Nat×Bool))(o:bN):fq C g o aw hp K'->fq C g o fr hp K:=by
 unfold fq;split
 ·exact Cy h hK o
 ·rename_i s want;rcases h s with e|e
  ·rw[e];split
   ·exact fun H=>⟨fun t=>Cy (h.fI _ _) hK o (H.1 t),fun t=>xA (h.fI _ _) hK o (H.2 t)⟩
   ·exact xA h hK o
   ·exact id
  ·rw[e];exact False.elim
theorem qo(hR:KM R' R):∀(n:Nat)(dm sk:List It)(aw fr:Fr)(hp:HP),bx dm<=n->jU dm sk->bF fr aw->vc C R' dm aw hp->vc C R sk fr hp:=by
 intro n;induction n with
 |zero=>
  intro dm sk aw fr hp hn hs hf h;cases hs with
  |nil=>rw[oW]at h ⊢;exact hR _ _ _ hf h
  |el hJ _=>rw[qy]at h ⊢;exact hJ _ _ _ hf h
  |c s _=>exfalso;have:=SC.tI s;simp only[bx,It.sz]at hn;omega
  |o s _=>exfalso;have:=RT.tI s;simp only[bx,It.sz]at hn;omega
  |eb _ _=>exfalso;simp only[bx,It.sz]at hn;omega
 | succ n ih=>
  intro dm sk aw fr hp hn hs hf h;cases hs with
  |nil=>rw[oW]at h ⊢;exact hR _ _ _ hf h
  |el hJ _=>rw[qy]at h ⊢;exact hJ _ _ _ hf h
  |eb i hs=>rw[yE]at h⊢;exact ih _ _ _ _ _ (by simp only[bx,It.sz]at hn;omega) hs hf h
  | o r hs=>
   cases r with
   |nil=>rw[uU]at h ⊢;exact ih _ _ _ _ _ (by simp only[bx,It.sz,RT.sz]at hn;omega) hs hf h
   |o g o r=>rw[GR]at h⊢;exact Rq (K':=fun fr hp=>vc C R' (.o r::_) fr hp) (K:=fun fr hp=>vc C R (.o r::_) fr hp) hf (fun f f' hp Fz H=>ih (.o r::_) (.o r::_) _ _ hp (by simp only[bx,It.sz,RT.sz]at hn ⊢;omega) (.o r hs) Fz H) g o h
   |wk r=>rw[yq]at h⊢;obtain⟨aG,au,hw,h⟩:=h;exact⟨aG,au,hf.wk.trans hw,ih (.o r::_) (.o r::_) _ _ _ (by simp only[bx,It.sz,RT.sz]at hn ⊢;omega) (.o r hs) (bF.refl _) h⟩
   |br x y=>rw[GS]at h⊢;exact⟨ih (.o x::_) (.o x::_) _ _ _ (by simp only[bx,It.sz,RT.sz]at hn ⊢;omega) (.o x hs) hf h.1,ih (.o y::_) (.o y::_) _ _ _ (by simp only[bx,It.sz,RT.sz]at hn ⊢;omega) (.o y hs) hf h.2⟩
  | @c s a b hs=>
   cases s with
   |skip=>rw[xY]at h ⊢;exact ih _ _ _ _ _ (by simp only[bx,It.sz,SC.sz]at hn;omega) hs hf h
   |rg r=>rw[z0]at h ⊢;exact ih (.o r::_) (.o r::_) _ _ _ (by simp only[bx,It.sz,SC.sz]at hn ⊢;omega) (.o r hs) hf h
   | raw id ops=>
    rw[vc]at h⊢;intro tmps w Q kW hQ;refine h tmps w Q ?_ fun dX bu aea w2 dH hv=>hQ dX bu aea w2 dH ?_
    ·obtain⟨ρ,kW⟩:=kW;exact⟨ρ,hf.MZ kW⟩
    ·exact ih _ _ _ _ _ (by simp only[bx,It.sz,SC.sz]at hn;omega) hs (bF.refl _) hv
   |seq x y=>rw[yr]at h ⊢;exact ih (.c x:: .c y::_) (.c x:: .c y::_) _ _ _ (by simp only[bx,It.sz,SC.sz]at hn ⊢;omega) (.c x (.c y hs)) hf h
   |block id x=>rw[xM]at h ⊢;exact ih (.c x:: .eb id::_) (.c x:: .eb id::_) _ _ _ (by simp only[bx,It.sz,SC.sz]at hn ⊢;omega) (.c x (.eb id hs)) hf h
   |ret=>rw[yt]at h ⊢;exact hR _ _ _ hf h
   | cond c x y=>
    rw[xZ]at h⊢;rcases hf.ev c with e|e
    ·rw[e]at h;unfold oZ at h⊢;split at h
     ·exact⟨fun e=>ih (.c x::_) (.c x::_) _ _ _ (by simp only[bx,It.sz,SC.sz]at hn ⊢;omega) (.c x hs) hf (h.1 e),fun e=>ih (.c y::_) (.c y::_) _ _ _ (by simp only[bx,It.sz,SC.sz]at hn ⊢;omega) (.c y hs) hf (h.2 e)⟩
     ·exact h
    ·rw[e]at h;exact h.elim
   | exit id=>
    rw[ya]at h⊢;rcases hs.exit (id:=id)with⟨a',b',h1,h2,h3,h4⟩|⟨h1,h2⟩
    ·rw[h1]at h;rw[h2];simp only[qz]at h⊢;exact ih _ _ _ _ _ (by simp only[bx,It.sz,SC.sz]at hn;omega) h3 hf h
    ·rw[h1]at h;exact h.elim
   |loop x=>rw[rU]at h⊢;obtain⟨I,μ,⟨aG,au,h1,gG⟩,h2⟩:=h;refine⟨I,μ,⟨aG,au,hf.wk.trans h1,gG⟩,fun fr hp hI=>?_⟩;refine ih (.c x:: .el _::_) (.c x:: .el _::_) _ _ _ (by simp only[bx,It.sz,SC.sz]at hn ⊢;omega) (.c x (.el ?_ hs)) (bF.refl _) (h2 fr hp hI);rintro f f' hp' hf ⟨aG,au,g1,g2,g3⟩;exact⟨aG,au,hf.wk.trans g1,g2,g3⟩
def iQ:List (Nat×Nat)->Nat->Bool
 | [],_=>false
 |(a,b)::W,s=>(decide (a<=s)&&decide (s<=b))||iQ W s
theorem Tl(s:Nat):iQ [] s=false:=rfl
theorem xP(a b s:Nat)(W:List (Nat×Nat)):iQ ((a,b)::W) s=((decide (a<=s)&&decide (s<=b))||iQ W s):=rfl
def bj(W:List (Nat×Nat))(J F:Fr):Fr:=fun s=>if iQ W s then J s else F s
theorem G4(W:List (Nat×Nat))(J F:Fr)(s:Nat):bj W J F s=if iQ W s then J s else F s:=rfl
theorem KP{W:List (Nat×Nat)}{a:Nat}{v:PV}{J F:Fr}(h:iQ W a=true):ae (bj W J F) a v=bj W (ae J a v) F:=by
 funext s;unfold ae bj;by_cases hs:s=a
 ·subst hs;rw[if_pos rfl,if_pos h];simp
 ·rw[if_neg hs];split
  ·simp[hs]
  ·rfl
theorem QH{W:List (Nat×Nat)}{a:Nat}{v:PV}{J F:Fr}:ae (bj W J F) a v=if iQ W a=true then bj W (ae J a v) F else bj ((a,a)::W) (ae J a v) F:=by
 split
 ·exact KP ‹_›
 ·funext s;unfold ae bj;by_cases hs:s=a
  ·subst hs;simp[iQ]
  ·have:(decide (a<=s)&&decide (s<=a))=false:=by rw[Bool.and_eq_false_iff];simp only[decide_eq_false_iff_not];omega
   simp only[xP,this,Bool.false_or,if_neg hs]
theorem Pa{W:List (Nat×Nat)}{β:Nat}{J F:Fr}:bB β (bj W J F)=bj W (bB β J) (bB β F):=by funext s;unfold bB bj;split<;>rfl
def bY(B:List Nat)(F:Fr):Fr:=fun s=>if(F s).refs.any B.contains then .undef else F s
theorem ln(F:Fr):bY [] F=F:=by funext s;simp[bY]
theorem xd{β:Nat}{B:List Nat}{F:Fr}(h:B.contains β=true):bB β (bY B F)=bY B F:=by
 funext s;show bl β (bY B F s)=bY B F s;by_cases h1:(F s).refs.any B.contains=true
 ·have:bY B F s= .undef:=if_pos h1;rw[this];rfl
 ·have:bY B F s=F s:=if_neg h1;rw[this,bl,if_neg];intro h2;exact h1 (KaP.2 ⟨β,by simpa using h2,h⟩)
theorem ZX{β:Nat}{B:List Nat}{F:Fr}:bB β (bY B F)=if B.contains β=true then bY B F else bY (β::B) F:=by
 split
 ·exact xd ‹_›
 ·funext s;show bl β (bY B F s)=bY (β::B) F s;unfold bY bl;by_cases h1:(F s).refs.any B.contains=true
  ·have h2:(F s).refs.any (β::B).contains=true:=by obtain⟨x,hx,gL⟩:=KaP.1 h1;exact KaP.2 ⟨x,hx,by rw[Kay,gL,Bool.or_true]⟩
   simp only[if_pos h1,if_pos h2];rfl
  ·simp only[if_neg h1];by_cases h2:(F s).refs.contains β=true
   ·have h3:(F s).refs.any (β::B).contains=true:=KaP.2 ⟨β,by simpa using h2,by simp⟩;rw[if_pos h2,if_pos h3]
   ·rw[if_neg h2,if_neg];intro h3;obtain⟨x,hx,gL⟩:=KaP.1 h3;rw[Kay,Kbu]at gL;rcases gL with e|e
    ·have:x=β:=by simpa using e
     subst this;exact h2 (by simpa using hx)
    ·exact h1 (KaP.2 ⟨x,hx,e⟩)
theorem Pb(B:List Nat)(F:Fr)(s:Nat):bY B F s=if(F s).refs.any B.contains then .undef else F s:=rfl
theorem Ci(W:List (Nat×Nat))(B:List Nat):bF fr (bj W fr (bY B fr)):=fun s=>by
 unfold bj bY;split
 ·exact .inl rfl
 ·split
  ·exact .inr rfl
  ·exact .inl rfl
def sJ(W:List (Nat×Nat))(F:Fr)(I:Nat->Fr->HP->Prop)(n:Nat):Qg:=fun aw hp'=>∃J m,bF aw (bj W J F)/\m<n/\I m J hp'
theorem Qm{W:List (Nat×Nat)}{F J:Fr}{I:Nat->Fr->HP->Prop}{n:Nat}(m:Nat)(hl:m<n)(h:I m J hp):sJ W F I n (bj W J F) hp:=⟨J,m,bF.refl _,hl,h⟩
theorem QI{W:List (Nat×Nat)}{F:Fr}{I:Nat->Fr->HP->Prop}{n:Nat}:KM (sJ W F I n) (sJ W F I n):=by rintro f f' hp hf ⟨J,m,h1,h2,h3⟩;exact⟨J,m,hf.trans h1,h2,h3⟩
def dQ(R:Qg)(sk:List It):Prop:=KM R R/\jU sk sk
theorem Q3{sk:List It}{x:SC}(bQ:dQ R sk)(W:List (Nat×Nat))(B:List Nat)(I:Nat->Fr->HP->Prop)(m0:Nat)(h0:I m0 fr hp)
  (h:∀m J hp,I m J hp->vc C R (.c x:: .el (sJ W (bY B fr) I m)::sk) (bj W J (bY B fr)) hp):vc C R (.c (.loop x)::sk) fr hp:=by
 refine ug (fun m aw hp'=>∃J,aw=bj W J (bY B fr)/\I m J hp') m0 (Ci W B).wk ⟨fr,rfl,h0⟩ ?_;rintro m _ hp' ⟨J,rfl,hI⟩;refine qo bQ.1 _ _ _ _ _ _ (Kag _) (.c x (.el ?_ bQ.2)) (bF.refl _) (h m J hp' hI);rintro f f' bu hf ⟨J2,m2,e2,hl,h2⟩;exact Ca hl (hf.trans e2).wk ⟨J2,rfl,h2⟩
def n7(W:List (Nat×Nat))(F:Fr)(M:Fr->HP->Prop):Qg:=fun aw hp'=>∃J,bF aw (bj W J F)/\M J hp'
theorem Cz{W:List (Nat×Nat)}{F J:Fr}{M:Fr->HP->Prop}(h:M J hp):n7 W F M (bj W J F) hp:=⟨J,bF.refl _,h⟩
theorem CA{W:List (Nat×Nat)}{F:Fr}{M:Fr->HP->Prop}:KM (n7 W F M) (n7 W F M):=by rintro f f' hp hf ⟨J,h1,h3⟩;exact⟨J,hf.trans h1,h3⟩
theorem Qp{sk:List It}{W:List (Nat×Nat)}{F:Fr}{I:Nat->Fr->HP->Prop}{n:Nat}(h:dQ R sk):dQ R (.el (sJ W F I n)::sk):=⟨h.1,.el QI h.2⟩
theorem Qw{sk:List It}{W:List (Nat×Nat)}{F:Fr}{M:Fr->HP->Prop}(h:dQ R sk):dQ R (.el (n7 W F M)::sk):=⟨h.1,.el CA h.2⟩
theorem Q2{sk:List It}{i:Nat}(h:dQ R sk):dQ R (.eb i::sk):=⟨h.1,.eb i h.2⟩
theorem Q7{sk:List It}{s:SC}(h:dQ R sk):dQ R (.c s::sk):=⟨h.1,.c s h.2⟩
theorem Q8{sk:List It}{s:RT}(h:dQ R sk):dQ R (.o s::sk):=⟨h.1,.o s h.2⟩
theorem Qn{sk:List It}{I:Nat->Qg}{n:Nat}(h:dQ R sk):dQ R (.el (sD I n)::sk):=⟨h.1,.el (fun f f' hp hf ⟨a,b,h1,h2⟩=>⟨a,b,hf.wk.trans h1,h2⟩) h.2⟩
theorem KQ{rs:List RV}{Rr:PV->Prop}:KM (eE rs Rr) (eE rs Rr):=by
 have one:∀(f f':Fr)(hp:HP)(r:RV),bF f f'->gQ f' hp r->gQ f hp r/\gx f' hp r=gx f hp r:=by
  intro f f' hp r hf ho;cases r with
  |t s=>
   simp only[gQ,gx]at ho⊢;rcases hf s with e|e
   ·rw[e]at ho ⊢;exact⟨ho,rfl⟩
   ·rw[e]at ho;simp[Qy,bR,PV.aA]at ho
  |cell s n ag=>
   simp only[gQ,gx]at ho⊢;rcases hf s with e|e
   ·rw[e]at ho ⊢;exact⟨ho,rfl⟩
   ·rw[e]at ho;exact ho.elim
 intro f f' hp hf h;unfold eE at h⊢;split at h
 ·rename_i r;obtain⟨h1,h2⟩:=h;obtain⟨g1,g2⟩:=one f f' hp r hf h1;rw[g2]at h2;exact⟨g1,h2⟩
 ·obtain⟨h1,h2⟩:=h;have e:rs.map (gx f' hp)=rs.map (gx f hp):=KaV fun r hr=>(one f f' hp r hf (h1 r hr)).2;rw[e]at h2;exact⟨fun r hr=>(one f f' hp r hf (h1 r hr)).1,h2⟩
theorem QJ{rs:List RV}{ty:TypeId}{len:Nat}{aT:PV->List PV->Prop}:KM (nX rs ty len aT) (nX rs ty len aT):=by
 rintro f f' hp hf ⟨xs',h1,h2,h3,h4⟩;refine⟨xs',h1,h2,h3,?_⟩;rcases h4 with h4|⟨s,o,n,h4,h5,h6⟩
 ·exact .inl (KQ _ _ _ hf h4)
 ·refine .inr ⟨s,o,n,h4,?_,h6⟩;rcases hf s with e|e
  ·rw[<-e];exact h5
  ·rw[h5]at e;cases e
theorem QK{rs:List RV}{ty:TypeId}{aT:List PV->Prop}:KM (sI rs ty aT) (sI rs ty aT):=by
 rintro f f' hp hf ⟨s,β,n,xs,h1,h2,h3⟩;refine⟨s,β,n,xs,h1,?_,h3⟩;rcases hf s with e|e
 ·rw[<-e];exact h2
 ·rw[h2]at e;cases e
theorem Qx{rs:List RV}{Rr:PV->Prop}:dQ (eE rs Rr) []:=⟨KQ,.nil⟩
theorem Qq{rs:List RV}{ty:TypeId}{len:Nat}{aT:PV->List PV->Prop}:dQ (nX rs ty len aT) []:=⟨QJ,.nil⟩
theorem Qr{rs:List RV}{ty:TypeId}{aT:List PV->Prop}:dQ (sI rs ty aT) []:=⟨QK,.nil⟩
theorem mY{sk:List It}{x:SC}(i β e ty:Nat)(he:0<e)(hi:fr i= .aa)(h:vc C R (.c (.loop x)::sk) (ae (bB β fr) i (.ms β 0)) (Qi hp β ⟨e,ty,[],false⟩))(hB:bm β=false:=by decide):vc C R (.c (.loop x)::sk) fr hp:=by rw[rU]at h⊢;obtain⟨I,μ,⟨aG,au,h1,gG⟩,h2⟩:=h;exact⟨I,μ,⟨aG,au,(GV i β e ty he hi hB).trans h1,gG⟩,h2⟩
end Go.FW
namespace Go.FW
open Go
variable {C : Ctx} {fr : Fr} {hp : HP} {w : World} {K R : Qg}
theorem Qyu{P:Program}{f:FuncId}{k:IntKind}{x:Int}{r:PV}{v:Value}(hg:lI P f)(h:∀w,Calls P f #[.int k x] w fun e w'=>e= .returned v/\w'=w)(hr:∀w X,dC w X r v):Qd P f [.int k x] (· =r):=by
 refine⟨hg,fun w X aU hX hs eA=>?_⟩;have h0:∀u,Qo w X (.int k x) u->u= .int k x:=fun u hu=>by cases hu;rfl
 have e:aU= #[.int k x]:=by
  have h1:aU.getD 0 undef= .int k x:=h0 _ (eA 0 _ rfl);apply Array.ext
  ·simpa using hs
  ·intro i hi aD;have FD:i=0:=by simp at aD;omega
   subst FD;simpa[Array.getD,hi]using h1
 rw[e];refine(h w).mono ?_;rintro e w' ⟨rfl,rfl⟩;exact⟨v,r,rfl,Ext.refl _ _,hr _ _,rfl⟩
end Go.FW
namespace Go.FW
open Go
variable {C : Ctx} {fr : Fr} {hp : HP} {w : World} {K R : Qg}
theorem Pc(a b:Nat)(hab:a≠b)(h:HP)(v w:HB):Qi (Qi h a v) b w=Qi (Qi h b w) a v:=by
 funext c;unfold Qi;by_cases h1:c=a
 ·subst h1;simp[hab]
 ·simp[h1]
theorem NL{V W P v1 v2 v0 hi u2 w0:Nat}(hV:V=(v1*65536+v2)*P+v0)(hW:W=(hi*65536+u2)*P+w0)(zA:w0<P)(F2:u2<65536)(h1:0<v1):W<(hi/v1+1)*V:=by
 have e1:hi+1<=(hi/v1+1)*v1:=by have:=Kbb hi v1;have:=Kbn hi h1;rw[Kaz,KaS];omega
 have e2:W<(hi+1)*65536*P:=by have:(hi*65536+u2+1)*P<=(hi+1)*65536*P:=Kam _ (by omega);rw[Kaz _ 1]at this;omega
 refine Ka8 e2 ?_
 calc (hi+1)*65536*P<=((hi/v1+1)*v1)*65536*P:=Kam _ (Kam _ e1)
  _=(hi/v1+1)*(v1*65536*P):=by rw[Ka5,Ka5,Ka5]
  _<=(hi/v1+1)*V:=Kbm _ (by rw[hV,Kaz];omega)
theorem QL{V W P v1 v2 v0 hi u2 w0 d r:Nat}(hV:V=(v1*65536+v2)*P+v0)(hW:W=(hi*65536+u2)*P+w0)(zA:w0<P)(hd:d*v1+r=hi)(ht:r*65536+u2<d*v2):W<d*V:=by
 have h1:hi*65536+u2+1<=d*(v1*65536+v2):=by rw[KaO,<-Nat.mul_assoc,<-hd,Kaz];omega
 have h2:W<(hi*65536+u2+1)*P:=by rw[hW,Kaz _ 1];omega
 refine Ka8 h2 (KaZ (Kam _ h1) ?_);rw[Ka5];exact Kbm _ (by rw[hV];exact Nat.le_add_right _ _)
theorem QM{V W P v1 v2 v0 hi u2 w0 e r:Nat}(hV:V=(v1*65536+v2)*P+v0)(hW:W=(hi*65536+u2)*P+w0)(wj:v0<P)(tx:1<=v1)(he:e+1<65536)(hd:(e+1)*v1+r=hi)(ht:¬r*65536+u2<(e+1)*v2):e*V<=W:=by
 have h1:(e+1)*(v1*65536+v2)<=hi*65536+u2:=by rw[KaO,<-Nat.mul_assoc,<-hd,Kaz ((e+1)*v1)];omega
 have h2:e*v0<=(v1*65536+v2)*P:=KbU (by omega) (by omega)
 calc e*V=e*(v1*65536+v2)*P+e*v0:=by rw[hV,KaO,Ka5]
  _<=e*(v1*65536+v2)*P+(v1*65536+v2)*P:=Nat.add_le_add_left h2 _
  _=(e+1)*(v1*65536+v2)*P:=by rw[Kaz e,Nat.one_mul,Kaz (e*_)]
  _<=(hi*65536+u2)*P:=Kam _ h1
  _<=W:=by rw[hW];exact Nat.le_add_right _ _
theorem QN{V W P v1 v2 v0 hi u2 w0:Nat}(hV:V=(v1*65536+v2)*P+v0)(hW:W=(hi*65536+u2)*P+w0)(wj:v0<P)(h:W<65536*V)(hP:0<P):hi<=v1*65536+v2:=by
 have h1:hi*(65536*P)<(v1*65536+v2+1)*(65536*P):=by
  have e1:hi*(65536*P)<=W:=by rw[hW,Kaz,Ka5];omega
  have e2:V<=(v1*65536+v2+1)*P:=by rw[hV,Kaz _ 1];omega
  have e3:65536*V<=65536*((v1*65536+v2+1)*P):=Kbm _ e2;rw[Kbw]at e3;omega
 have:=Nat.lt_of_mul_lt_mul_right h1;omega
theorem HG:∀(a:List Nat)(q b:Nat),(dP a [] q 0 b).2.1=0
 | [],_,_=>rfl
 |x::xs,q,b=>by simp only[dP,List.headD_nil,KbK,List.tail_nil];exact HG xs q _
theorem Iz:∀(a v:List Nat)(q c b:Nat),v.length<a.length->c<65536->q<65536->Qk v->(dP a v q c b).2.1=0
 | [],_,_,_,_,h,_,_,_=>by simp at h
 |x::xs,[],q,c,b,h,hc,hq,hv=>by simp only[dP,List.headD_nil,KbK,List.tail_nil,KaM];rw[Kcd hc];exact HG xs q _
 |x::xs,y::ys,q,c,b,h,hc,hq,hv=>by rw[e7]at hv;simp only[dP,List.headD_cons,List.tail_cons];refine Iz xs ys q _ _ (by simpa using h) ?_ hq hv.2;have:=oN hq hv.1;omega
theorem xl{l:List Nat}{k:Nat}(h:val l<65536^k):val (l.drop k)=0:=by
 rcases Kcn k l.length with hk|hk
 ·have:=mb l k (by omega);have:65536^k*val (l.drop k)<65536^k*1:=by omega
  have:=Nat.lt_of_mul_lt_mul_left this;omega
 ·rw[Kal hk];rfl
theorem KR{l:List Nat}{n:Nat}(h:l.length=n+2):val l=(l.getD (n+1) 0*65536+l.getD n 0)*65536^n+val (l.take n):=by have e:=mb l n (by omega);rw[iZ (by omega),iZ (by omega),Kal (by omega)]at e;rw[e,eL (by omega),eL (by omega),val,KbK,KaM,KaS (65536^n)];rw[KaS 65536,KbO (l[n]),KbO]
theorem Ws:
  (∀(β:Nat)(cs:List PV),bl β (.pt cs)= .pt cs)/\(∀(β:Nat),bl β .undef= .undef)/\(∀(β:Nat)(cs:List PV),bl β (.aO cs)= .aO cs)/\
  (∀(cs:List PV),(PV.pt cs).refs=[])/\(PV.undef.refs=[])/\(∀(cs:List PV),(PV.aO cs).refs=[])/\
  (∀(hp:HP)(cs:List PV),Qy hp (.pt cs)= .pt cs)/\(∀(hp:HP)(cs:List PV),Qy hp (.aO cs)= .aO cs)/\
  (∀(β f:Nat)(a b:List PV),bl β (.fn f a b)=if(a.flatMap PV.bg++b.flatMap PV.bg).contains β then .undef else .fn f a b)/\
  (∀(β o n:Nat),(PV.aq β o n).bg=[β])/\(∀(β o n:Nat),(PV.rb β o n).bg=[β])/\(∀(β o n:Nat),(PV.mp β o n).bg=[β])/\
  (∀(k:IntKind)(n:Int),(PV.int k n).bg=[])/\(∀(b:Bool),(PV.bool b).bg=[])/\(∀(e:Nat)(xs:List PV),(PV.sl e xs).bg=[])/\(PV.aa.bg=[])/\(∀(xs:List PV),(PV.pt xs).bg=[]):=by
 refine⟨fun _ _=>rfl,fun _=>rfl,fun _ _=>rfl,fun _=>rfl,rfl,fun _=>rfl,fun _ _=>rfl,fun _ _=>rfl,fun _ _ _ _=>rfl,fun _ _ _=>rfl,fun _ _ _=>rfl,fun _ _ _=>rfl,fun _ _=>rfl,fun _=>rfl,fun _ _=>rfl,rfl,fun _=>rfl⟩
theorem adU:
  (∀(ty d e:Nat)(xs:List PV)(fr:Fr)(hp:HP)(K:Qg),dO 1 ty (.sl e xs) d fr hp K=K (ae (bB d fr) d (.mp d 0 0)) (Qi hp d ⟨1,ty,[.sl e xs],false⟩))/\
  (∀(ty d:Nat)(k:IntKind)(x:Int)(fr:Fr)(hp:HP)(K:Qg),dO 1 ty (.int k x) d fr hp K=K (ae (bB d fr) d (.mp d 0 0)) (Qi hp d ⟨1,ty,[.int k x],false⟩))/\
  (∀(ty d:Nat)(x:Bool)(fr:Fr)(hp:HP)(K:Qg),dO 1 ty (.bool x) d fr hp K=K (ae (bB d fr) d (.mp d 0 0)) (Qi hp d ⟨1,ty,[.bool x],false⟩))/\
  (∀(ty d:Nat)(fr:Fr)(hp:HP)(K:Qg),dO 1 ty .aa d fr hp K=K (ae (bB d fr) d (.mp d 0 0)) (Qi hp d ⟨1,ty,[.aa],false⟩))/\
  (∀(n ty d o m:Nat)(fr:Fr)(hp:HP)(K:Qg),dO n ty (.aq 1000000 o m) d fr hp K=K (ae fr d (.rb 1000000 o m)) hp)/\
  (∀(n ty d:Nat)(x:PV)(cs:List PV)(fr:Fr)(hp:HP)(K:Qg),dO n ty (.agg (x::cs)) d fr hp K=(cs.length+1=n/\K (ae (bB d fr) d (.mp d 0 0)) (Qi hp d ⟨n,ty,[.agg (x::cs)],false⟩)))/\
  (∀(ty d:Nat)(x:PV)(fz:Bool)(fr:Fr)(hp:HP)(K:Qg),gw (some ⟨1,ty,[x],fz⟩) 1 false 0 0 d fr hp K=K (ae fr d (di false 1 0 x)) hp)/\
  (∀(ty β e:Nat)(x:PV)(xs:List PV)(fr:Fr)(hp:HP)(K:Qg),stM (some ⟨1,ty,[x],false⟩) β 1 0 0 (.sl e xs) fr hp K=K fr (Qi hp β ⟨1,ty,[.sl e xs],false⟩))/\
  (∀(ty β:Nat)(x:PV)(k:IntKind)(y:Int)(fr:Fr)(hp:HP)(K:Qg),stM (some ⟨1,ty,[x],false⟩) β 1 0 0 (.int k y) fr hp K=K fr (Qi hp β ⟨1,ty,[.int k y],false⟩))/\
  (∀(ty β:Nat)(x:PV)(y:Bool)(fr:Fr)(hp:HP)(K:Qg),stM (some ⟨1,ty,[x],false⟩) β 1 0 0 (.bool y) fr hp K=K fr (Qi hp β ⟨1,ty,[.bool y],false⟩))/\
  (∀(ty β:Nat)(x:PV)(fr:Fr)(hp:HP)(K:Qg),stM (some ⟨1,ty,[x],false⟩) β 1 0 0 .aa fr hp K=K fr (Qi hp β ⟨1,ty,[.aa],false⟩))/\
  (∀(e:Nat)(xs:List PV),di false 1 0 (.sl e xs)= .sl e xs)/\(∀(k:IntKind)(x:Int),di false 1 0 (.int k x)= .int k x)/\(∀(x:Bool),di false 1 0 (.bool x)= .bool x)/\(di false 1 0 .aa= .aa):=by
 have fz:∀hp:HP,bw hp []=hp:=fun _=>rfl;refine⟨fun _ _ _ _ _ _ _=>?_,fun _ _ _ _ _ _ _=>?_,fun _ _ _ _ _ _=>?_,fun _ _ _ _ _=>?_,fun _ _ _ _ _ _ _ _=>VZ (by decide),fun n ty d x cs fr hp K=>?_,fun _ _ _ _ _ _ _=>?_,fun _ _ _ _ _ _ _ _=>?_,fun _ _ _ _ _ _ _ _=>?_,fun _ _ _ _ _ _ _=>?_,fun _ _ _ _ _ _=>?_,fun _ _=>rfl,fun _ _=>rfl,fun _=>rfl,rfl⟩
 ·simp[dO,Qy,bR,PV.aA,PV.cells,PV.refs,fz]
 ·simp[dO,Qy,bR,PV.aA,PV.cells,PV.refs,fz]
 ·simp[dO,Qy,bR,PV.aA,PV.cells,PV.refs,fz]
 ·simp[dO,Qy,bR,PV.aA,PV.cells,PV.refs,fz]
 ·apply propext;simp only[dO,Qy,bR,PV.aA,PV.cells,PV.refs,KaU,fz];exact⟨fun⟨_,h1,_,h2⟩=>⟨h1,h2⟩,fun⟨h1,h2⟩=>⟨trivial,h1,by omega,h2⟩⟩
 all_goals simp[gw,stM,PV.aA,PV.cells]
end Go.FW
namespace Go.FW
theorem VM{l:List Nat}{j n V:Nat}(hl:Qk l)(hlen:j+n+3<=l.length)(hV:V<=65536^(n+2))(hz:val (l.drop (j+1))<V):
  ∃pre w post,l=pre++(w++post)/\pre.length=j/\w.length=n+3/\Qk pre/\Qk w/\Qk post/\val post=0/\val (l.drop j)=val w/\val w<65536*V/\
   ∃w0,w0<65536^n/\val w=((l.getD (j+(n+2)) 0*65536+l.getD (j+(n+1)) 0)*65536+l.getD (j+n) 0)*65536^n+w0:=by
 have fj:val (l.drop (j+n+3))=0:=by have:=xl (l:=l.drop (j+1)) (k:=n+2) (by omega);rw[List.drop_drop]at this;rw[<-this];congr 2;omega
 have hw:Qk ((l.drop j).take (n+3)):=rR (tW hl j) _;have iO:((l.drop j).take (n+3)).length=n+3:=by simp;omega
 have fF:l.drop j=(l.drop j).take (n+3)++l.drop (j+n+3):=by have:=(Kbj (n+3) (l.drop j)).symm;rw[List.drop_drop]at this;exact this
 have er:val (l.drop j)=val ((l.drop j).take (n+3)):=by
  conv=>lhs;rw[fF]
  rw[jK,fj,KbK,KaM]
 have dz:∀i,i<n+3->((l.drop j).take (n+3)).getD i 0=l.getD (j+i) 0:=by intro i hi;simp[Kae,Kb1,hi]
 refine⟨l.take j,(l.drop j).take (n+3),l.drop (j+n+3),?_,by simp;omega,iO,rR hl j,hw,tW hl _,fj,er,?_,?_⟩
 ·rw[<-fF,Kbj]
 ·rw[<-er,iZ (by omega)];have:=dn hl (show j<l.length by omega);omega
 ·refine⟨val (((l.drop j).take (n+3)).take n),oK hw n (by omega),?_⟩;rw[KR (n:=n+1) iO,dz _ (by omega),dz _ (by omega),tM (by omega)];rw[<-eL,dz _ (by omega),Kbi];generalize l.getD (j+(n+1)) 0=a;generalize l.getD (j+n) 0=b;generalize l.getD (j+(n+1+1)) 0=c;rw[Kaz _ b,Ka5 _ 65536,KaS 65536 (65536^n),KaS (65536^n) b];omega
theorem Pd{U V L qs W R q pre B:Nat}(hU:U=L+V*(65536*B*qs))(hL:L=pre+B*W)(hW:W=q*V+R):U=(pre+B*R)+V*(B*(q+65536*qs)):=by
 subst hW hL;rw[hU,KaO B,KaO B q,KaO V];have e1:B*(q*V)=V*(B*q):=by rw[KaS q V,Kbw]
 have e2:V*(65536*B*qs)=V*(B*(65536*qs)):=by rw[KaS 65536 B,Ka5]
 omega
open Go
variable {C : Ctx} {fr : Fr} {hp : HP} {w : World} {K R : Qg}
theorem eV{x y:RT}{sk:List It}(h1:vc C R (.o x::sk) fr hp)(h2:vc C R (.o y::sk) fr hp):qK C R x y sk fr hp:=⟨h1,h2⟩
theorem Tn{x y:RT}{sk:List It}{W:List (Nat×Nat)}{J F:Fr}(P:Fr->Prop)(h0:P J)(h:∀J,P J->qK C R x y sk (bj W J F) hp):qK C R x y sk (bj W J F) hp:=h J h0
theorem J1{sk:List It}{x:SC}(bQ:dQ R sk)(W:List (Nat×Nat))(B:List Nat)(I:Nat->Fr->HP->Prop)(m0:Nat)(h0:I m0 fr hp)
  (h:∀F,F=bY B fr->∀m J hp,I m J hp->vc C R (.c x:: .el (sJ W F I m)::sk) (bj W J F) hp):vc C R (.c (.loop x)::sk) fr hp:=
 Q3 bQ W B I m0 h0 (h _ rfl)
theorem QO{x y:RT}{sk:List It}{W0:List (Nat×Nat)}{J0 F0:Fr}(bQ:dQ R sk)(B:List Nat)(M:Fr->HP->Prop)
  (h:∀F,F=bY B F0->qK C R x y (.el (n7 W0 F M)::sk) (bj W0 J0 F) hp) (hM:∀J hp,M J hp->vc C R sk (bj W0 J (bY B F0)) hp):qK C R x y sk (bj W0 J0 F0) hp:=by
 have hle:bF (bj W0 J0 F0) (bj W0 J0 (bY B F0)):=fun s=>by
  unfold bj bY;split
  ·exact .inl rfl
  ·split
   ·exact .inr rfl
   ·exact .inl rfl
 have key:∀(r:RT),vc C R (.o r:: .el (n7 W0 (bY B F0) M)::sk) (bj W0 J0 (bY B F0)) hp->vc C R (.o r::sk) (bj W0 J0 F0) hp:=by
  intro r hr;refine yb (M:=n7 W0 (bY B F0) M) ?_ _ [.o r] _ _ (Kag _) ?_
  ·rintro aw hp' ⟨J,h1,h2⟩;exact qo bQ.1 _ _ _ _ _ _ (Kag _) bQ.2 h1 (hM J hp' h2)
  ·exact qo bQ.1 _ _ _ _ _ _ (Kag _) (.o r (.el CA bQ.2)) hle hr
 exact⟨key x (h _ rfl).1,key y (h _ rfl).2⟩
theorem NM{aw:Fr}{K':Qg}{p:PV}{s:Nat}{want:Bool}{o:bN}(h:bF fr aw)(hK:KM K' K):fp C p s want o aw hp K'->fp C p s want o fr hp K:=by
 unfold fp;split
 ·exact fun H=>⟨fun t=>Cy (h.fI _ _) hK o (H.1 t),fun t=>xA (h.fI _ _) hK o (H.2 t)⟩
 ·exact xA h hK o
 ·exact id
theorem Qyv{p:PV}{s:Nat}{want:Bool}{o:bN}{r:RT}{sk:List It}(bQ:dQ R sk)(W:List (Nat×Nat))(B:List Nat)(M:Fr->HP->Prop)
  (h:fp C p s want o (bj W fr (bY B fr)) hp (vc C R (.o r:: .el (n7 W (bY B fr) M)::sk))) (hM:∀J hp,M J hp->vc C R sk (bj W J (bY B fr)) hp):fp C p s want o fr hp (vc C R (.o r::sk)):=by
 refine NM (Ci W B) (fun f f' hp hf H=>?_) h;have H':=qo bQ.1 _ _ _ _ _ _ (Kag _) (.o r (.el CA bQ.2)) hf H;refine yb (M:=n7 W (bY B fr) M) ?_ _ [.o r] _ _ (Kag _) H';rintro aw hp' ⟨J,h1,h2⟩;exact qo bQ.1 _ _ _ _ _ _ (Kag _) bQ.2 h1 (hM J hp' h2)
theorem Le:(∀(a b c:Nat),(PV.mp a b c).ij=true)/\(∀(a b c:Nat),(PV.aq a b c).ij=true)/\(∀(a b c:Nat),(PV.rb a b c).ij=true)/\(∀(k:IntKind)(n:Int),(PV.int k n).ij=true)/\
  (∀b,(PV.bool b).ij=true)/\(PV.aa.ij=true)/\(∀(e:Nat)(xs:List PV),(PV.sl e xs).ij=true)/\(∀(xs:List PV),(PV.pt xs).ij=true):=
 ⟨fun _ _ _=>rfl,fun _ _ _=>rfl,fun _ _ _=>rfl,fun _ _=>rfl,fun _=>rfl,rfl,fun _ _=>rfl,fun _=>rfl⟩
end Go.FW
namespace Go.FW
def Ab(V W:List (Nat×Nat)):Bool:=V.all fun p=>W.any fun q=>decide (q.1<=p.1)&&decide (p.2<=q.2)
theorem Pe{V W:List (Nat×Nat)}(h:Ab V W=true){s:Nat}(hs:iQ V s=true):iQ W s=true:=by
 induction V with
 |nil=>cases hs
 | cons p V ih=>
  simp only[Ab,List.all_cons,Ka1]at h;rw[xP,Kbu]at hs;rcases hs with hs|hs
  ·obtain⟨q,hq,lR⟩:=KaP.1 h.1;simp only[Ka1,decide_eq_true_eq]at lR hs;clear h ih;induction W with
   |nil=>cases hq
   |cons r W ih=>
    rw[xP,Kbu];rcases KaF.1 hq with rfl|hq
    ·left;simp only[Ka1,decide_eq_true_eq];omega
    ·right;exact ih hq
  ·exact ih h.2 hs
theorem ZY{B B':List Nat}{F:Fr}(h:B.all B'.contains=true):bY B (bY B' F)=bY B' F:=by
 funext s;by_cases h1:(F s).refs.any B'.contains=true
 ·have:bY B' F s= .undef:=if_pos h1;show(if(bY B' F s).refs.any B.contains=true then PV.undef else bY B' F s)=_;rw[this];rfl
 ·have:bY B' F s=F s:=if_neg h1;show(if(bY B' F s).refs.any B.contains=true then PV.undef else bY B' F s)=_;rw[this,if_neg];intro h2;obtain⟨x,hx,gL⟩:=KaP.1 h2;exact h1 (KaP.2 ⟨x,hx,Kaw.1 h x (by simpa using gL)⟩)
theorem yd{V W:List (Nat×Nat)}{X Z F:Fr}(h:Ab V W=true):bj V X (bj W Z F)=bj W (bj V X Z) F:=by
 funext s;unfold bj;by_cases h1:iQ V s=true
 ·simp[h1,Pe h h1]
 ·simp[h1]
theorem VN{W V S d:Nat}(hs:S+d*V=W)(Ft:W<(d+1)*V):S<V/\W=d*V+S:=by rw[Kaz]at Ft;omega
theorem To{W V B S e k res:Nat}(hs:S+(e+1)*V=W+B)(hS:S<B)(LP:e*V<=W)(hr:res+B*k=S+V)(eI:res<B)(hWB:W<B):res<V/\W=e*V+res:=by
 rw[Kaz,Nat.one_mul]at hs;generalize e*V=x at *
 have hk:k=1:=by
  match k,hr with
  |0,hr=>omega
  |1,_=>rfl
  |k+2,hr=>
   have:B*(k+2)=B*k+B+B:=by rw[KaO];omega
   omega
 subst hk;omega
theorem JB{pre R post qs:List Nat}{j q U V L W:Nat}(hp:pre.length=j)(fj:val post=0)(hU:U=L+V*(65536^(j+1)*val qs))(hL:L=val pre+65536^j*W)(hW:W=q*V+val R):
  val ((pre++(R++post)).drop j)=val R/\U=val (pre++(R++post))+V*(65536^j*val (q::qs)):=by
 have e:(pre++(R++post)).drop j=R++post:=by rw[<-hp,List.drop_left]
 have e2:val (R++post)=val R:=by rw[jK,fj,KbK,KaM]
 refine⟨by rw[e,e2],?_⟩;rw[jK,e2,hp,val];exact Pd (by rw[hU,Kbi,KaS (65536^j)]) hL hW
theorem ye{j q:Nat}{qs:List Nat}:(List.replicate (j+1) 0++qs).set j q=List.replicate j 0++(q::qs):=by rw[List.replicate_succ',Kbv,List.singleton_append,kB (by simp)]
open Go
variable {C : Ctx} {fr : Fr} {hp : HP} {w : World} {K R : Qg}
theorem adV:(∀(C:Ctx)(d:Nat)(ng:Bool)(x y:aF)(fr:Fr)(hp:HP)(K:Qg),aV C (.eqs d ng x y) fr hp K=nn ng (ev fr x) (ev fr y) d fr hp K)/\
  (∀(k l:IntKind)(x y x' y':Int)(d:Nat)(fr:Fr)(hp:HP)(K:Qg),nn false (.agg [.int k x,.int l y]) (.agg [.int k x',.int l y']) d fr hp K=K (ae fr d (.bool (decide (x=x')&&decide (y=y')))) hp)/\
  (∀(k l:IntKind)(x y x' y':Int)(d:Nat)(fr:Fr)(hp:HP)(K:Qg),nn true (.agg [.int k x,.int l y]) (.agg [.int k x',.int l y']) d fr hp K=K (ae fr d (.bool (!(decide (x=x')&&decide (y=y'))))) hp):=
 ⟨fun _ _ _ _ _ _ _ _=>rfl,fun _ _ _ _ _ _ _ _ _ _=>by simp[nn],fun _ _ _ _ _ _ _ _ _ _=>by simp[nn]⟩
theorem adW:(∀(C:Ctx)(d:Nat)(ng:Bool)(x y:aF)(fr:Fr)(hp:HP)(K:Qg),aV C (.rM d ng x y) fr hp K=nq ng (ev fr x) (ev fr y) d fr hp K)/\
  (∀(C:Ctx)(d:Nat)(x:aF)(fr:Fr)(hp:HP)(K:Qg),aV C (.wN d x) fr hp K=qC (ev fr x) d fr hp K)/\
  (∀(C:Ctx)(d:Nat)(x i:aF)(fr:Fr)(hp:HP)(K:Qg),aV C (.wM d x i) fr hp K=o0 (ev fr x) (ev fr i) d fr hp K)/\
  (∀(x y:ByteArray)(d:Nat)(fr:Fr)(hp:HP)(K:Qg),nq false (.str x) (.str y) d fr hp K=K (ae fr d (.bool (decide (x=y)))) hp)/\
  (∀(x y:ByteArray)(d:Nat)(fr:Fr)(hp:HP)(K:Qg),nq true (.str x) (.str y) d fr hp K=K (ae fr d (.bool (!decide (x=y)))) hp)/\
  (∀(x:ByteArray)(d:Nat)(fr:Fr)(hp:HP)(K:Qg),qC (.str x) d fr hp K=K (ae fr d (.int .i64 x.size)) hp):=
 ⟨fun _ _ _ _ _ _ _ _=>rfl,fun _ _ _ _ _ _=>rfl,fun _ _ _ _ _ _ _=>rfl,fun _ _ _ _ _ _=>by simp[nq],fun _ _ _ _ _ _=>by simp[nq],fun _ _ _ _ _=>rfl⟩
theorem VO{s:ByteArray}{k:IntKind}{i:Nat}{d:Nat}(h:i<s.size):o0 (.str s) (.int k i) d fr hp K=K (ae fr d (.int .u8 (s.get! i).toNat)) hp:=by simp[o0,h]
theorem QP{α:Type}{f:α->PV}{e d:Nat}{k:IntKind}{xs:List α}(h:0<xs.length):aK e (.sl e (xs.map f)) (.int k 0) d fr hp K=K (ae fr d (.pt (f (xs[0]'h)).cells)) hp:=by rw[ql (by omega) (by omega)];rfl
theorem Rt{α:Type}{f:α->PV}{e d:Nat}{k:IntKind}{xs:List α}(h:1<xs.length):aK e (.sl e (xs.map f)) (.int k 1) d fr hp K=K (ae fr d (.pt (f (xs[1]'h)).cells)) hp:=by rw[ql (by omega) (by omega)];rfl
theorem Ru{e d:Nat}{k:IntKind}{x:PV}{xs:List PV}:aK e (.sl e (x::xs)) (.int k 0) d fr hp K=K (ae fr d (.pt x.cells)) hp:=by rw[CM (by omega) (by simp only[KaU];omega)];rfl
theorem Rv{e d:Nat}{k:IntKind}{x y:PV}{xs:List PV}:aK e (.sl e (x::y::xs)) (.int k 1) d fr hp K=K (ae fr d (.pt y.cells)) hp:=by rw[CM (by omega) (by simp only[KaU];omega)];rfl
def PV.flat:PV->Bool
 |.int .. | .bool _| .aa| .sl .. | .agg _| .pt _| .str _=>true
 |_=>false
theorem Rw:∀s,(PV.str s).flat=true:=fun _=>rfl
theorem Rx:∀s,(PV.str s).aA=true:=fun _=>rfl
theorem YI:(∀(k:IntKind)(n:Int),(PV.int k n).flat=true)/\(∀b,(PV.bool b).flat=true)/\(PV.aa.flat=true)/\(∀(e:Nat)(xs:List PV),(PV.sl e xs).flat=true)/\(∀xs,(PV.agg xs).flat=true)/\(∀xs,(PV.pt xs).flat=true):=
 ⟨fun _ _=>rfl,fun _=>rfl,rfl,fun _ _=>rfl,fun _=>rfl,fun _=>rfl⟩
theorem YJ:(∀(k:IntKind)(n:Int),(PV.int k n).aA=true)/\(∀b,(PV.bool b).aA=true)/\(PV.aa.aA=true)/\(∀(e:Nat)(xs:List PV),(PV.sl e xs).aA=true)/\(∀xs,(PV.agg xs).aA=true)/\(∀xs,(PV.pt xs).aA=true):=
 ⟨fun _ _=>rfl,fun _=>rfl,rfl,fun _ _=>rfl,fun _=>rfl,fun _=>rfl⟩
theorem mW{p:PV}(h:p.flat=true):Qy hp p=p/\p.refs=[]/\p.aA=true:=by cases p<;>first|(cases h;done)|exact⟨rfl,rfl,rfl⟩
theorem sm{e ty d:Nat}{ps:List PV}(h:ps.all PV.flat=true)(hl:∀p∈ps,p.cells.length=e)(he:0<e):jj e ty ps d fr hp K=K (ae (bB d fr) d (.ms d ps.length)) (Qi hp d ⟨e,ty,ps,false⟩):=by
 have h':=Kaw.1 h;have e1:ps.map (Qy hp)=ps:=by
  conv=>rhs;rw[<-List.map_id ps]
  exact KaV fun p hp'=>(mW (h' p hp')).1
 have e2:ps.flatMap PV.refs=[]:=by rw[List.flatMap_eq_nil_iff];exact fun p hp'=>(mW (hp:=hp) (h' p hp')).2.1
 have e3:uK hp e ps:=fun p hp'=>by obtain⟨h1,_,h3⟩:=mW (hp:=hp) (h' p hp');rw[h1];exact⟨h3,hl p hp'⟩
 have Fk:kJ ps=false:=by
  unfold kJ;split
  ·rename_i x;have:=Kaw.1 h x (by simp);unfold jb;split
   ·cases this
   ·rfl
  ·rfl
 simp only[jj,Fk,Kbf,if_false,yL,e1,e2,e3,he,true_and];rfl
theorem bs1{e ty d:Nat}{p:PV}(h:p.flat=true)(hl:p.cells.length=e)(he:0<e):jj e ty [p] d fr hp K=K (ae (bB d fr) d (.ms d 1)) (Qi hp d ⟨e,ty,[p],false⟩):=
 sm (by simp[h]) (by simpa using hl) he
theorem bs2{e ty d:Nat}{p q:PV}(h:p.flat=true)(h2:q.flat=true)(hl:p.cells.length=e)(mI:q.cells.length=e)(he:0<e):jj e ty [p,q] d fr hp K=K (ae (bB d fr) d (.ms d 2)) (Qi hp d ⟨e,ty,[p,q],false⟩):=
 sm (by simp[h,h2]) (by simp[hl,mI]) he
end Go.FW
namespace Go.FW
theorem Qyw{y n s yi:Nat}(hy:(ak y).length=n+2)(pS:(ak y)[n+1]'(by omega)=yi)(h1:2^15<=yi*2^s)(h2:(yi+1)*2^s<=65536):
  (ak (y*2^s)).length=n+2/\32768<=(ak (y*2^s)).getD (n+1) 0/\32768*65536^(n+1)<=y*2^s:=by
 have hl:=Ql y;have e:=mb (ak y) (n+1) (by omega);have ht:=oK hl (n+1) (by omega);rw[iZ (by omega),Kal (by omega),pS,Qz]at e;simp only[val,KbK,KaM]at e;have g1:32768*65536^(n+1)<=y*2^s:=by
  calc 32768*65536^(n+1)<=(yi*2^s)*65536^(n+1):=Kam _ h1
   _=(65536^(n+1)*yi)*2^s:=by rw[KaS (65536^(n+1)),Nat.mul_right_comm]
   _<=y*2^s:=Kam _ (by omega)
 have g2:y*2^s<65536^(n+2):=by
  have hp:0<2^s:=KbI (by omega)
  calc y*2^s<(65536^(n+1)*(yi+1))*2^s:=Nat.mul_lt_mul_of_pos_right (by rw[KaO];omega) hp
   _=65536^(n+1)*((yi+1)*2^s):=Ka5 _ _ _
   _<=65536^(n+1)*65536:=Kbm _ h2
   _=65536^(n+2):=(Kbi ..).symm
 have hle:nl (y*2^s)<=n+2:=jO.2 g2;have fD:¬nl (y*2^s)<=n+1:=fun h=>by have:=jO.1 h;omega
 have hlen:(ak (y*2^s)).length=n+2:=by unfold nl at hle fD;omega
 refine⟨hlen,?_,g1⟩;have e2:=mb (ak (y*2^s)) (n+1) (by omega);have Mt:=oK (Ql (y*2^s)) (n+1) (by omega);rw[iZ (by omega),Kal (by omega),Qz]at e2;simp only[val,KbK,KaM]at e2;have hg:(ak (y*2^s)).getD (n+1) 0=(ak (y*2^s))[n+1]'(by omega):=eL (by omega);rw[hg];apply Decidable.byContradiction;intro h;have:65536^(n+1)*(ak (y*2^s))[n+1]<=65536^(n+1)*32767:=Kbm _ (by omega);omega
theorem Pf{yi s:Nat}(hs:s<=15)(h1:2^(16-s)<=2*yi)(h2:yi<2^(16-s)):2^15<=yi*2^s/\(yi+1)*2^s<=65536:=by
 have e:2^(16-s)*2^s=65536:=by rw[<-Nat.pow_add,show 16-s+s=16 by omega]
 constructor
 ·have:=Kam (2^s) h1;rw[e,Ka5]at this;omega
 ·rw[<-e];exact Kam _ h2
theorem Qyx{x s m n Y:Nat}(hx:(ak x).length=m+2)(hs:s<=15)(eS:n<=m)(hY:32768*65536^(n+1)<=Y):
  ∃u ex,ak (x*2^s)++[0,0]=u++ex/\u.length=m+3/\Qk u/\val u=x*2^s/\ex.length<=2/\val (u.drop (m+3-(n+2)))<Y:=by
 have MD:=lv (Ql x);rw[hx,Qz]at MD;have hp:0<2^s:=KbI (by omega);have pQ:2^s<=2^15:=KaX (by omega) hs;have hX:x*2^s<2^s*65536^(m+2):=by rw[KaS (2^s)];exact Nat.mul_lt_mul_of_pos_right MD hp
 have hX2:x*2^s<65536^(m+3):=by have:2^s*65536^(m+2)<=65536*65536^(m+2):=Kam _ (by omega);rw[Kbi 65536 (m+2),KaS _ 65536];omega
 have hx1:¬nl (x*2^s)<=m+1:=fun h=>by
  have h2:¬nl x<=m+1:=by unfold nl;omega
  have h3:=fm (show x<=x*2^s from Nat.le_mul_of_pos_right _ hp);omega
 have gL:nl (x*2^s)<=m+3:=jO.2 hX2;have mJ:Qk (ak (x*2^s)++[0,0]):=ky.2 ⟨Ql _,by intro z hz;simp at hz;omega⟩;have er:val (ak (x*2^s)++[0,0])=x*2^s:=by rw[jK,Qz];simp[val]
 have hlen:(ak (x*2^s)++[0,0]).length=nl (x*2^s)+2:=by simp[nl]
 generalize ak (x*2^s)++[0,0]=D at *
 have hv:=mb D (m+3) (by omega);have hz:val (D.drop (m+3))=0:=xl (by omega);have F3:(D.take (m+3)).length=m+3:=by rw[Kav];omega
 refine⟨D.take (m+3),D.drop (m+3),(Kbj _ _).symm,F3,rR mJ _,by rw[hz]at hv;omega,by rw[KaY];omega,?_⟩;have hu:val (D.take (m+3))=x*2^s:=by rw[hz]at hv;omega
 have oy:=mb (D.take (m+3)) (m+3-(n+2)) (by omega);generalize D.take (m+3)=u at *
 have e:65536^(m+2)=65536^(m+3-(n+2))*65536^(n+1):=by rw[<-Nat.pow_add];congr 1;omega
 have:65536^(m+3-(n+2))*val (u.drop (m+3-(n+2)))<65536^(m+3-(n+2))*(2^s*65536^(n+1)):=by rw[Kbw,<-e];omega
 have h4:=Nat.lt_of_mul_lt_mul_left this;have:2^s*65536^(n+1)<=32768*65536^(n+1):=Kam _ pQ;omega
open Go
variable {C : Ctx} {fr : Fr} {hp : HP} {w : World} {K R : Qg}
theorem Ry{e ty n:Nat}{fz:Bool}{o d:Nat}{x:PV}(h:o+n<=e):gw (some ⟨e,ty,[x],fz⟩) n true 0 o d fr hp K=K (ae fr d (di true n o x)) hp:=K3 h (by simp)
theorem Rz{e ty:Nat}{fz:Bool}{o d:Nat}{x:PV}(h:o+1<=e):gw (some ⟨e,ty,[x],fz⟩) 1 false 0 o d fr hp K=K (ae fr d (di false 1 o x)) hp:=K3 h (by simp)
theorem YK(n o:Nat)(cs:List PV):di true n o (.agg cs)= .agg ((cs.drop o).take n):=rfl
theorem YL(n o:Nat)(cs:List PV):di false n o (.agg cs)=(cs.drop o).headD .undef:=rfl
theorem NN(n ty β:Nat)(x:PV)(cs:List PV):stM (some ⟨n,ty,[x],false⟩) β n 0 0 (.agg cs) fr hp K=(cs.length=n/\K fr (Qi hp β ⟨n,ty,[.agg cs],false⟩)):=by simp[stM,PV.aA,PV.cells]
theorem RA{e n ty β o:Nat}{x v:PV}(h:v.flat=true)(hn:¬n=e)(hl:v.cells.length=n)(ho:o+n<=e):stM (some ⟨e,ty,[x],false⟩) β n 0 o v fr hp K=K fr (Qi hp β ⟨e,ty,[nL x o v],false⟩):=by have:=(mW (hp:=hp) h).2.2;simp[stM,this,hl,ho,hn]
theorem Tp(cs:List PV)(o:Nat)(v:PV):nL (.agg cs) o v= .agg (cs.take o++v.cells++cs.drop (o+v.cells.length)):=rfl
theorem BO(k:IntKind)(n:Int):(PV.int k n).cells=[.int k n]:=rfl
theorem Pg:(PV.aa).cells=[.aa]:=rfl
theorem IA{p:PV}(h:p.flat=true):p.iR=false:=by cases p<;>simp_all[PV.flat,PV.iR]
theorem xQ{z:List PV}{ps:List (Nat×Nat×PV)}{d:Nat}(h:ps.all (fun p=>p.2.2.flat)=true):
  gZ z ps d fr hp K=((∀p∈ps,p.2.2.cells.length=p.2.1/\p.1+p.2.1<=z.length)/\K (ae fr d (.agg (fa z (ps.map fun p=>(p.1,p.2.2.cells))))) hp):=by
 have h':=Kaw.1 h;have e1:(ps.map fun p=>(p.1,(Qy hp p.2.2).cells))=ps.map fun p=>(p.1,p.2.2.cells):=KaV fun p hp'=>by rw[(mW (h' p hp')).1]
 have e2:(ps.flatMap fun p=>p.2.2.refs)=[]:=by rw[List.flatMap_eq_nil_iff];exact fun p hp'=>(mW (hp:=hp) (h' p hp')).2.1
 have e3:CK hp z.length ps=(∀p∈ps,p.2.2.cells.length=p.2.1/\p.1+p.2.1<=z.length):=by
  apply propext;constructor
  ·intro H p hp';obtain⟨_,h2,h3⟩:=H p hp';rw[(mW (h' p hp')).1]at h2;exact⟨h2,h3⟩
  ·intro H p hp';obtain⟨h2,h3⟩:=H p hp';obtain⟨g1,_,g3⟩:=mW (hp:=hp) (h' p hp');rw[g1];exact⟨g3,h2,h3⟩
 have e4:ps.any (fun p=>p.2.2.iR)=false:=by rw[Kcs];exact fun p hp'=>by simp[IA (h' p hp')]
 simp only[gZ,e4,vb,e1,e2,e3,Kbf,if_false];rfl
theorem abe(z:List PV)(d:Nat):gZ z [] d fr hp K=K (ae fr d (.agg z)) hp:=by rw[xQ rfl];simp[fa]
theorem abf{z:List PV}{o n d:Nat}{p:PV}(h:p.flat=true):gZ z [(o,n,p)] d fr hp K=((p.cells.length=n/\o+n<=z.length)/\K (ae fr d (.agg (z.take o++p.cells++z.drop (o+p.cells.length)))) hp):=by rw[xQ (by simp[h])];simp[fa]
theorem abg{z:List PV}{o n o2 n2 d:Nat}{p q:PV}(h:p.flat=true)(h2:q.flat=true):gZ z [(o,n,p),(o2,n2,q)] d fr hp K=
  ((p.cells.length=n/\o+n<=z.length)/\(q.cells.length=n2/\o2+n2<=z.length)/\K (ae fr d (.agg (fa z [(o,p.cells),(o2,q.cells)]))) hp):=by
 rw[xQ (by simp[h,h2])];simp[and_assoc]
theorem abh{z:List PV}{o n o2 n2 o3 n3 d:Nat}{p q r:PV}(h:p.flat=true)(h2:q.flat=true)(h3:r.flat=true):gZ z [(o,n,p),(o2,n2,q),(o3,n3,r)] d fr hp K=
  ((p.cells.length=n/\o+n<=z.length)/\(q.cells.length=n2/\o2+n2<=z.length)/\(r.cells.length=n3/\o3+n3<=z.length)/\K (ae fr d (.agg (fa z [(o,p.cells),(o2,q.cells),(o3,r.cells)]))) hp):=by
 rw[xQ (by simp[h,h2,h3])];simp[and_assoc]
theorem Ph(c:List PV):fa c []=c:=rfl
theorem NO(c xs:List PV)(o:Nat)(r:List (Nat×List PV)):fa c ((o,xs)::r)=fa (c.take o++xs++c.drop (o+xs.length)) r:=rfl
def yG(p:PV)(hp:HP)(n:Nat)(ag:Bool):PV:=match p with
 |.mp β i o=>match hp β with
  |some hb=>if i<hb.xs.length/\o+n<=hb.e/\(ag=false->n=1)then di ag n o ((hb.xs[i]?).getD .undef)else .undef
  |none=>.undef
 |_=>.undef
def gv(fr:Fr)(hp:HP):RV->PV
 |.t s=>Qy hp (fr s)
 |.cell s n ag=>yG (fr s) hp n ag
def u9(hb:Option HB)(n:Nat)(ag:Bool)(i o:Nat):PV:=match hb with
  |some hb=>if i<hb.xs.length/\o+n<=hb.e/\(ag=false->n=1)then di ag n o ((hb.xs[i]?).getD .undef)else .undef
  |none=>.undef
theorem abu(fr:Fr)(hp:HP)(s:Nat):gv fr hp (.t s)=Qy hp (fr s):=rfl
theorem abt(fr:Fr)(hp:HP)(s n:Nat)(ag:Bool):gv fr hp (.cell s n ag)=yG (fr s) hp n ag:=rfl
theorem RB(hp:HP)(n:Nat)(ag:Bool)(β i o:Nat):yG (.mp β i o) hp n ag=u9 (hp β) n ag i o:=rfl
theorem Tq{e ty n o:Nat}{fz:Bool}{x:PV}(h:o+n<=e):u9 (some ⟨e,ty,[x],fz⟩) n true 0 o=di true n o x:=by simp[u9,h]
theorem Tr{e ty o:Nat}{fz:Bool}{x:PV}(h:o+1<=e):u9 (some ⟨e,ty,[x],fz⟩) 1 false 0 o=di false 1 o x:=by simp[u9,h]
theorem yH{r:RV}(h:(gv fr hp r).aA=true):gQ fr hp r/\gx fr hp r=gv fr hp r:=by
 cases r with
 |t s=>exact⟨h,rfl⟩
 | cell s n ag=>
  simp only[gv,gQ,gx]at h⊢;cases kO:fr s with
  | mp β i o=>
   rw[kO]at h;simp only[yG]at h⊢;cases aj:hp β with
   |none=>rw[aj]at h;cases h
   | some hb=>
    rw[aj]at h;simp only at h⊢;split at h
    ·rename_i hc;rw[if_pos hc];exact⟨hc,rfl⟩
    ·cases h
  |_=>rw[kO]at h;cases h
theorem cI{r:RV}{Rr:PV->Prop}(h:qE Rr (gv fr hp r)):eE [r] Rr fr hp:=by obtain⟨h1,h2⟩:=yH h.1;exact⟨h1,by rw[h2];exact h.2⟩
theorem va{r s:RV}{Rr:PV->Prop}(h:vf Rr (gv fr hp r) (gv fr hp s)):eE [r,s] Rr fr hp:=by obtain⟨⟨a,b⟩,c⟩:=h;obtain⟨h1,h2⟩:=yH a;obtain⟨h3,h4⟩:=yH b;refine⟨by simp[h1,h3],?_⟩;simp only[Kbs,Kby,h2,h4];exact c
end Go.FW
namespace Go.FW
open Go
def zv(n:Bool)(a:List Nat):Int:=if n then -(val a:Int)else val a
abbrev PV.zi(n:Bool)(a:List Nat):PV:=.agg [.bool n,PV.nat a]
abbrev PV.zz(z:Int):PV:=.agg [.bool (decide (z<0)),PV.num z.natAbs]
theorem CC(n:Bool)(x:Nat):PV.agg [.bool (n&&decide (0<(ak x).length)),PV.num x]=PV.zz (if n then -(x:Int)else x):=by
 have h:0<(ak x).length↔x≠0:=by
  constructor
  ·intro h h0;rw[h0,eh]at h;simp at h
  ·intro h;apply Ka9;intro h0;exact h (iU.1 (l0 h0))
 cases n
 ·simp
 ·simp only[Bool.true_and,if_true,PV.zz,Int.natAbs_neg,KbP];congr 3;exact decide_eq_decide.2 (by rw[h];omega)
theorem lC(z:Int):zv (decide (z<0)) (ak z.natAbs)=z:=by unfold zv;rw[Qz];by_cases h:z<0<;>simp[h]<;>omega
theorem iX(n:Bool)(a:List Nat):(zv n a).natAbs=val a:=by unfold zv;split<;>simp
theorem uB(a:List Nat):zv false a=val a:=rfl
theorem qp(n:Bool)(x:Nat):zv n (ak x)=if n then -(x:Int)else x:=by unfold zv;rw[Qz]
def gR(z:Int):Int:=if z<0 then -1 else if 0<z then 1 else 0
def dW(x y:Int):Int:=if x<y then -1 else if y<x then 1 else 0
theorem VP(n:Bool)(a:List Nat):gR (zv n a)=if val a=0 then 0 else if n then -1 else 1:=by unfold gR zv;cases n<;>simp<;>split<;>(try split)<;>omega
theorem xR{x y:Nat}:gk x y<0↔x<y:=by unfold gk;split<;>(try split)<;>omega
variable {C : Ctx} {fr : Fr} {hp : HP} {w : World} {K R : Qg}
def z7(hb:Option HB)(o n:Nat):PV:=match hb with
 |some hb=>.sl hb.e ((hb.xs.drop o).take n)
 |none=>.undef
theorem eU:(∀(hp:HP)(β o n:Nat),Qy hp (.aq β o n)=if aI β=true then .undef else z7 (hp β) o n)/\
  (∀(e ty o n:Nat)(xs:List PV)(fz:Bool),z7 (some ⟨e,ty,xs,fz⟩) o n= .sl e ((xs.drop o).take n))/\
  (∀(β:Nat),aI β=(decide (1000000<=β)&&decide (β<2000000)))/\
  (∀(hp:HP)(l:List Nat)(β:Nat),FW.bw hp l β=if l.contains β=true then(hp β).map (fun hb=>{ hb with fz:=true })else hp β):=by
 refine⟨fun hp β o n=>?_,fun _ _ _ _ _ _=>rfl,fun _=>rfl,fun _ _ _=>rfl⟩;simp only[Qy,bR,z7];cases aI β<;>cases hp β<;>rfl
theorem VQ{n d:Nat}{cs:List PV}(h:n<=cs.length):bb n true (.pt cs) d fr hp K=K (ae fr d (.agg (cs.take n))) hp:=by simp[bb,h,di,PV.cells]
theorem VR{off d:Nat}{cs:List PV}(h:off<=cs.length):nr off (.pt cs) d fr hp K=K (ae fr d (.pt (cs.drop off))) hp:=by simp[nr,h]
theorem VS{off n d:Nat}{cs:List PV}(h:off+n<=cs.length):nf off n true (.agg cs) d fr hp K=K (ae fr d (.agg ((cs.drop off).take n))) hp:=by simp[nf,h,di,PV.cells]
theorem VT{off d:Nat}{cs:List PV}(h:off+1<=cs.length):nf off 1 false (.agg cs) d fr hp K=K (ae fr d ((cs.drop off).headD .undef)) hp:=by simp[nf,h,di,PV.cells]
def rv(n:Bool)(a d:List Nat):Rat:=mkRat (zv n a) (val d)
abbrev PV.rr(n:Bool)(a d:List Nat):PV:=.agg [.bool n,PV.nat a,PV.nat d]
abbrev PV.rat(q:Rat):PV:=.agg [.bool (decide (q.num<0)),PV.num q.num.natAbs,PV.num q.den]
theorem jP(q:Rat):rv (decide (q.num<0)) (ak q.num.natAbs) (ak q.den)=q:=by unfold rv;rw[lC,Qz,Kct]
theorem uk{z:Int}{D:Nat}(hD:D≠0):(mkRat z D).num=z/(Nat.gcd z.natAbs D:Int)/\(mkRat z D).den=D/Nat.gcd z.natAbs D:=by rw[Rat.mkRat_def,dif_neg hD,Rat.normalize_eq];exact⟨rfl,rfl⟩
theorem G5{z:Int}{D:Nat}(hD:D≠0):PV.agg [.bool (decide (z<0)),PV.num (z.natAbs/Nat.gcd z.natAbs D),PV.num (D/Nat.gcd z.natAbs D)]=PV.rat (mkRat z D):=by
 obtain⟨h1,h2⟩:=uk (z:=z) hD;have hg:0<Nat.gcd z.natAbs D:=Nat.gcd_pos_of_pos_right _ (Ka9 hD);have Fv:(Nat.gcd z.natAbs D:Int)∣z:=Int.ofNat_dvd_left.2 (Kcu _ _);obtain⟨k,hk⟩:=Fv;rw[PV.rat,h1,h2];generalize hgg:Nat.gcd z.natAbs D=g at *
 have e1:z/(g:Int)=k:=by rw[hk,Int.mul_ediv_cancel_left _ (by omega)]
 have e2:z.natAbs/g=k.natAbs:=by rw[hk,Int.natAbs_mul,KbP,Nat.mul_div_cancel_left _ hg]
 have e3:z<0↔k<0:=by
  rw[hk];constructor
  ·intro h;apply Decidable.byContradiction;intro h';have:=Int.mul_nonneg (show(0:Int)<=g by omega) (show 0<=k by omega);omega
  ·intro h;exact Int.mul_neg_of_pos_of_neg (by omega) h
 rw[e1,e2,decide_eq_decide.2 e3]
theorem YM(z:Int):PV.agg [.bool (decide (z<0)),PV.num z.natAbs,PV.nat [1]]=PV.rat (mkRat z 1):=by rw[<-G5 (by omega),Nat.gcd_one_right,Nat.div_one,Nat.div_one,PV.num,PV.num,nQ]
theorem KS:PV.le (.agg [.bool false,.aa,PV.nat [1]]) (PV.rat 0):=by
 show PV.wC _ _;refine⟨rfl,?_,?_,trivial⟩
 ·show PV.jD .aa (PV.nat (ak 0));rw[eh];trivial
 ·show PV.jD (PV.nat [1]) (PV.nat (ak 1));rw[nQ];exact uw _
theorem H4{z:Int}{D:Nat}(h:D=0∨z=0):mkRat z D=0:=by
 rcases h with h|h
 ·rw[h,Rat.mkRat_zero]
 ·rw[h,Rat.zero_mkRat]
def rs(q:Rat):Nat:=max (nl q.num.natAbs) (nl q.den)
theorem G6(x y:Nat):nl (x/y)<=nl x:=fm (Kci _ _)
theorem u6:nl 1=1:=by unfold nl;rw[nQ];rfl
theorem Cj(z:Int)(D:Nat):rs (mkRat z D)<=max (nl z.natAbs) (max (nl D) 1):=by
 by_cases hD:D=0
 ·rw[hD,Rat.mkRat_zero];show max (nl 0) (nl 1)<=_;rw[K5,u6];omega
 ·obtain⟨h1,h2⟩:=uk (z:=z) hD;unfold rs;rw[h1,h2];have e:(z/(Nat.gcd z.natAbs D:Int)).natAbs<=z.natAbs:=by have Fv:(Nat.gcd z.natAbs D:Int)∣z:=Int.ofNat_dvd_left.2 (Kcu _ _);rw[Int.natAbs_ediv_of_dvd Fv];exact Kci _ _
  have:=fm e;have:=G6 D (Nat.gcd z.natAbs D);omega
theorem tN(x y:Int):nl (x+y).natAbs<=max (nl x.natAbs) (nl y.natAbs)+1:=
 KaZ (fm (Int.natAbs_add_le x y)) (GP _ _)
theorem kx(x y:Int):nl (x*y).natAbs<=nl x.natAbs+nl y.natAbs:=by rw[Int.natAbs_mul];exact mh _ _
theorem G7(q:Rat):1<=rs q:=by have:nl q.den≠0:=fun h=>q.den_nz (BB.1 h);unfold rs;omega
theorem yn(a b:Rat):rs (a+b)<=rs a+rs b+1:=by
 have e:a+b=mkRat (a.num*b.den+b.num*a.den) (a.den*b.den):=by
  conv=>lhs;rw[<-Rat.mkRat_self a,<-Rat.mkRat_self b]
  exact Rat.mkRat_add_mkRat _ _ a.den_nz b.den_nz
 rw[e];have h1:=Cj (a.num*b.den+b.num*a.den) (a.den*b.den);have h2:=tN (a.num*b.den) (b.num*a.den);have h3:=kx a.num b.den;have h4:=kx b.num a.den;have h5:=mh a.den b.den;rw[KbP]at h3 h4;unfold rs at *
 omega
theorem G8(a b:Rat):rs (a*b)<=rs a+rs b:=by
 have e:a*b=mkRat (a.num*b.num) (a.den*b.den):=by
  conv=>lhs;rw[<-Rat.mkRat_self a,<-Rat.mkRat_self b]
  exact Rat.mkRat_mul_mkRat _ _ _ _
 rw[e];have h1:=Cj (a.num*b.num) (a.den*b.den);have h3:=kx a.num b.num;have h5:=mh a.den b.den;have:=G7 a;unfold rs at *
 omega
theorem VU{n k:Nat}{a d:List Nat}{b:Bool}(ha:Qk a)(hd:Qk d)(h1:a.length<=k)(h2:d.length<=k)(hk:1<=k):rs (rv b a d)<=k:=by unfold rv;have h:=Cj (zv b a) (val d);rw[iX]at h;have:=bS ha;have:=bS hd;omega
end Go.FW
namespace Go.FW
open Go
def pa(q:Rat):Int:=gR q.num
def qG(p q:Rat):Int:=if p<q then -1 else if q<p then 1 else 0
theorem AU{z:Int}{D:Nat}(hD:D≠0):∃g:Nat,0<g/\z=(mkRat z D).num*g/\D=(mkRat z D).den*g:=by
 obtain⟨h1,h2⟩:=uk (z:=z) hD;have hg:0<Nat.gcd z.natAbs D:=Nat.gcd_pos_of_pos_right _ (Ka9 hD);refine⟨_,hg,?_,?_⟩
 ·rw[h1,Int.ediv_mul_cancel (Int.ofNat_dvd_left.2 (Kcu _ _))]
 ·rw[h2,Nat.div_mul_cancel (Nat.gcd_dvd_right _ _)]
theorem NP{a:Int}{g:Nat}(hg:0<g):a*g<0↔a<0:=by
 constructor
 ·intro h;apply Decidable.byContradiction;intro h';have:=Int.mul_nonneg (show 0<=a by omega) (show(0:Int)<=g by omega);omega
 ·intro h;exact Int.mul_neg_of_neg_of_pos h (by omega)
theorem NQ{a:Int}{g:Nat}(hg:0<g):0<a*g↔0<a:=by
 constructor
 ·intro h;apply Decidable.byContradiction;intro h';have:=Int.mul_nonneg (show 0<= -a by omega) (show(0:Int)<=g by omega);rw[Int.neg_mul]at this;omega
 ·intro h;exact Int.mul_pos h (by omega)
theorem Pj{z:Int}{D:Nat}(hD:D≠0):pa (mkRat z D)=gR z:=by
 obtain⟨g,hg,h1,_⟩:=AU (z:=z) hD;unfold pa;generalize(mkRat z D).num=x at *
 subst h1;unfold gR;have:=NP (a:=x) hg;have:=NQ (a:=x) hg
 repeat' split
 all_goals omega
theorem J4{x y:Int}{d c:Nat}(hd:d≠0)(hc:c≠0):mkRat x d<mkRat y c↔x*c<y*d:=by
 obtain⟨g,hg,h1,h2⟩:=AU (z:=x) hd;obtain⟨k,hk,h3,h4⟩:=AU (z:=y) hc;rw[Rat.lt_iff];generalize(mkRat x d).num=p at *
 generalize(mkRat x d).den=p' at *
 generalize(mkRat y c).num=q at *
 generalize(mkRat y c).den=q' at *
 subst h1 h2 h3 h4;have e1:p*(g:Int)*((q'*k:Nat):Int)=(p*q')*((g*k:Nat):Int):=by push_cast;grind
 have e2:q*(k:Int)*((p'*g:Nat):Int)=(q*p')*((g*k:Nat):Int):=by push_cast;grind
 rw[e1,e2];have LS:(0:Int)<((g*k:Nat):Int):=by exact_mod_cast Nat.mul_pos hg hk
 exact⟨fun h=>Int.mul_lt_mul_of_pos_right h LS,fun h=>Int.lt_of_mul_lt_mul_right h (Int.le_of_lt LS)⟩
theorem Ts{x y:Int}{d c:Nat}(hd:d≠0)(hc:c≠0):qG (mkRat x d) (mkRat y c)=dW (x*c) (y*d):=by unfold qG dW;simp only[J4 hd hc,J4 hc hd]
theorem RC{x:Int}:gR x=0↔x=0:=by unfold gR;(repeat' split)<;>omega
theorem iY{q:Rat}:pa q=0↔q=0:=by unfold pa;rw[RC,Rat.num_eq_zero]
theorem JC{p q:Rat}:qG p q=0↔p=q:=by
 unfold qG;constructor
 ·intro h;split at h
  ·omega
  ·split at h
   ·omega
   ·grind
 ·rintro rfl;rw[if_neg (by grind),if_neg (by grind)]
def lD(n:Bool)(a:List Nat):Bool:=if a=[]then !n else decide (a.getLast? ≠some 0)
def iz(n:Bool)(a d:List Nat):Bool:=lD n a&&(decide (d≠[]/\d.getLast? ≠some 0)&&decide (Nat.gcd (val a) (val d)=1))
theorem RD{n:Bool}{a d:List Nat}(ha:Qk a)(hd:Qk d)(h:iz n a d=true):n=decide ((rv n a d).num<0)/\a=ak (rv n a d).num.natAbs/\d=ak (rv n a d).den:=by
 simp only[iz,lD,Ka1,decide_eq_true_eq]at h;obtain⟨h1,⟨h2,h3⟩,h4⟩:=h;have ea:a=ak (val a):=by
  refine(uN ha ?_).symm;split at h1
  ·rename_i h;subst h;simp
  ·simpa using h1
 have ed:d=ak (val d):=(uN hd h3).symm;have hD:val d≠0:=fun h=>h2 (by rw[ed,h,eh]);obtain⟨g1,g2⟩:=uk (z:=zv n a) hD;rw[iX,h4]at g1 g2;have yS:(rv n a d).num=zv n a:=by unfold rv;rw[g1];simp
 have g2':(rv n a d).den=val d:=by unfold rv;rw[g2];simp
 rw[yS,g2',iX];refine⟨?_,ea,ed⟩;unfold zv;split at h1
 ·rename_i h;subst h;simp at h1;subst h1;simp[val]
 ·rename_i h;have h0:val a≠0:=fun h'=>h (by rw[ea,h',eh]);cases n<;>simp;omega
theorem YN{n:Bool}{a d:List Nat}(ha:Qk a)(hd:Qk d)(h:iz n a d=true):PV.rr n a d=PV.rat (rv n a d):=by obtain⟨h1,h2,h3⟩:=RD ha hd h;rw[PV.rr,PV.rat,<-h1,PV.num,PV.num,<-h2,<-h3]
theorem H5{a:List Nat}{k:Nat}(h:a.length=k+1):a.getLast? =some (a[k]'(by omega)):=by rw[Ka7,show a.length-1=k by omega];exact Kaf _
def eN(a:List Int)(i:Nat):Int:=a.getD i 0
theorem jc{a:List Int}{i:Nat}(h:i<a.length):eN a i=a[i]:=by simp[eN,Kae,h]
theorem iA{a:List Int}{i:Nat}(h:a.length<=i):eN a i=0:=by simp[eN,Kae,List.getElem?_eq_none h]
theorem WD(i:Nat):eN [] i=0:=by simp[eN]
def kG(l:List Int):Nat->List Int
 |0=>[]
 |n+1=>if l[n]? =some 0 then kG l n else l.take (n+1)
def nY(l:List Int):List Int:=kG l l.length
theorem H6(l:List Int):∀n,(kG l n).length<=n
 |0=>by simp[kG]
 |n+1=>by
  rw[kG];split
  ·have:=H6 l n;omega
  ·simp;omega
theorem JD(l:List Int):∀n,n<=l.length->(kG l n).getLast? ≠some 0
 |0,_=>by simp[kG]
 | n+1,h=>by
  rw[kG];split
  ·exact JD l n (by omega)
  ·rename_i hn;have:(l.take (n+1)).getLast? =l[n]? :=by rw[Ka7,Kav,KbJ h];simp[Kb1]
   rw[this];exact hn
theorem KT(l:List Int)(i:Nat):∀n,n<=l.length->eN (kG l n) i=if i<n then eN l i else 0
 |0,_=>by simp[kG,eN]
 | n +1,h=>by
  rw[kG];split
  ·rename_i hn;rw[KT l i n (by omega)];by_cases h1:i<n
   ·simp[h1,show i<n+1 by omega]
   ·rw[if_neg h1];split
    ·obtain rfl:i=n:=by omega
     simp[eN,Kae,hn]
    ·rfl
  ·simp only[eN,Kae,Kb1];split<;>simp_all
theorem J5(l:List Int)(i:Nat):eN (nY l) i=eN l i:=by
 rw[nY,KT l i _ (Kag _)];split
 ·rfl
 ·exact(iA (by omega)).symm
theorem IB(l:List Int):(nY l).getLast? ≠some 0:=JD l _ (Kag _)
theorem AZ(l:List Int):(nY l).length<=l.length:=H6 l _
theorem xS{a b:List Int}(ha:a.getLast? ≠some 0)(hb:b.getLast? ≠some 0)(h:∀i,eN a i=eN b i):a=b:=by
 have key:∀(a b:List Int),b.getLast? ≠some 0->(∀i,eN a i=eN b i)->¬a.length<b.length:=by intro a b hb h an;have h1:=h (b.length-1);rw[iA (by omega),jc (by omega)]at h1;apply hb;rw[Ka7,Kaf (by omega),<-h1]
 have h1:=key a b hb h;have h2:=key b a ha (fun i=>(h i).symm);refine List.ext_getElem (by omega) fun i h3 h4=>?_;have:=h i
 rwa[jc h3,jc h4]at this
theorem RE{a:List Int}(h:a.getLast? ≠some 0):nY a=a:=xS (IB a) h (J5 a)
def dp(a b:List Int):Nat->Int
 |0=>0
 |n+1=>if eN a n=eN b n then dp a b n else dW (eN a n) (eN b n)
def bp(a b:List Int):Int:=dp a b (max a.length b.length)
theorem Tt{x y:Int}:dW x y=0↔x=y:=by unfold dW;(repeat' split)<;>omega
theorem KU{x y:Int}:dW x y<0↔x<y:=by unfold dW;(repeat' split)<;>omega
theorem RF(x y:Int):dW y x= -dW x y:=by unfold dW;(repeat' split)<;>omega
theorem xB(a b:List Int):∀n,dp a b n=0↔∀i,i<n->eN a i=eN b i
 |0=>by simp[dp]
 | n+1=>by
  rw[dp];split
  ·rename_i h;rw[xB a b n];exact⟨fun H i hi=>by
    by_cases h1:i=n
    ·subst h1;exact h
    ·exact H i (by omega),fun H i hi=>H i (by omega)⟩
  ·rename_i h;rw[Tt];exact⟨fun H=>absurd H h,fun H=>H n (by omega)⟩
theorem J6(a b:List Int):∀n,dp b a n= -dp a b n
 |0=>rfl
 |n+1=>by
  rw[dp,dp];by_cases h:eN a n=eN b n
  ·rw[if_pos h,if_pos h.symm,J6 a b n]
  ·rw[if_neg h,if_neg (fun h'=>h h'.symm),RF]
theorem IU{a b c:List Int}:∀n,dp a b n<0->dp b c n<0->dp a c n<0
 |0=>by simp[dp]
 | n+1=>by
  intro h1 h2;rw[dp]at h1 h2⊢;split at h1<;>split at h2
  ·rename_i e1 e2;rw[if_pos (e1.trans e2)];exact IU n h1 h2
  ·rename_i e1 e2;rw[e1,if_neg e2];exact h2
  ·rename_i e1 e2;rw[<-e2,if_neg e1];exact h1
  ·rename_i e1 e2;rw[KU]at h1 h2;rw[if_neg (by omega),KU];omega
theorem uC{a b:List Int}{m:Nat}(h:max a.length b.length<=m):dp a b m=bp a b:=by
 obtain⟨k,rfl⟩:∃k,m=max a.length b.length+k:=⟨m-max a.length b.length,by omega⟩
 induction k with
 |zero=>rfl
 |succ k ih=>rw[<-Nat.add_assoc,dp,if_pos (by rw[iA (by omega),iA (by omega)])];exact ih (by omega)
theorem CD{a b:List Int}(ha:a.getLast? ≠some 0)(hb:b.getLast? ≠some 0):bp a b=0↔a=b:=by
 unfold bp;rw[xB];constructor
 ·intro h;refine xS ha hb fun i=>?_;by_cases hi:i<max a.length b.length
  ·exact h i hi
  ·rw[iA (by omega),iA (by omega)]
 ·rintro rfl i _;rfl
theorem BP(a:List Int):bp a a=0:=by rw[bp,xB];intros;rfl
theorem uD(a b:List Int):bp b a= -bp a b:=by unfold bp;rw[Nat.max_comm,J6]
theorem NR{a b c:List Int}(h1:bp a b<0)(h2:bp b c<0):bp a c<0:=by
 have e:∀x y:List Int,x.length<=a.length+b.length+c.length->y.length<=a.length+b.length+c.length->bp x y=dp x y (a.length+b.length+c.length):=fun x y hx hy=>(uC (by omega)).symm;rw[e _ _ (by omega) (by omega)]at *
 exact IU _ h1 h2
theorem NS{a b c d:List Int}(h1:∀i,eN a i=eN c i)(h2:∀i,eN b i=eN d i):bp a b=bp c d:=by
 have key:∀n,dp a b n=dp c d n:=by
  intro n;induction n with
  |zero=>rfl
  |succ n ih=>rw[dp,dp,h1,h2,ih]
 rw[<-uC (m:=max (max a.length b.length) (max c.length d.length)) (by omega),key,uC (by omega)]
def hZ(g:Int->Int->Int)(a b:List Int):List Int:=(List.range (max a.length b.length)).map fun i=>g (eN a i) (eN b i)
theorem l8(g:Int->Int->Int)(a b:List Int):(hZ g a b).length=max a.length b.length:=by simp[hZ]
theorem KV{g:Int->Int->Int}(hg:g 0 0=0)(a b:List Int)(i:Nat):eN (hZ g a b) i=g (eN a i) (eN b i):=by
 by_cases h:i<max a.length b.length
 ·rw[jc (by rw[l8];exact h)];simp[hZ]
 ·rw[iA (by rw[l8];omega),iA (by omega),iA (by omega),hg]
def cY(a b:List Int):List Int:=nY (hZ (· + ·) a b)
theorem sn(a b:List Int)(i:Nat):eN (cY a b) i=eN a i+eN b i:=by rw[cY,J5,KV (by simp)]
theorem um(a b:List Int):(cY a b).getLast? ≠some 0:=IB _
theorem xC(a b:List Int):cY a b=cY b a:=xS (um _ _) (um _ _) fun i=>by rw[sn,sn,Int.add_comm]
theorem J7{a:List Int}(h:a.getLast? ≠some 0):cY a []=a:=xS (um _ _) h fun i=>by rw[sn,WD,Int.add_zero]
theorem RG(a b c:List Int):bp (cY a c) (cY b c)=bp a b:=by
 have key:∀n,dp (cY a c) (cY b c) n=dp a b n:=by
  intro n;induction n with
  |zero=>rfl
  |succ n ih=>
   rw[dp,dp,sn,sn,ih];by_cases h:eN a n=eN b n
   ·rw[if_pos h,if_pos (by omega)]
   ·rw[if_neg h,if_neg (by omega)];unfold dW;(repeat' split)<;>omega
 rw[<-uC (m:=max (max (cY a c).length (cY b c).length) (max a.length b.length)) (by omega),key,uC (by omega)]
def iB(a:List Int):Int:=a.sum
def iC(o:Int)(a b:List Int):Int:=if o=1/\iB a≠iB b then dW (iB a) (iB b)else bp a b
structure MB(k:Nat)(a:List Int):Prop where
 len:a.length<=64
 lo:∀x∈a,0<=x
 hi:∀x∈a,x<=k
theorem MB.eN{k:Nat}{a:List Int}(h:MB k a)(i:Nat):0<=FW.eN a i/\FW.eN a i<=k:=by
 by_cases hi:i<a.length
 ·rw[jc hi];exact⟨h.lo _ (Kaq _),h.hi _ (Kaq _)⟩
 ·rw[iA (by omega)];omega
theorem MB.mono{k k':Nat}{a:List Int}(h:MB k a)(hk:k<=k'):MB k' a:=⟨h.len,h.lo,fun x hx=>by have:=h.hi x hx;omega⟩
theorem MB.mul{k l:Nat}{a b:List Int}(h:MB k a)(g:MB l b):MB (k+l) (cY a b):=by
 have hl:(cY a b).length<=64:=by have:=AZ (hZ (· + ·) a b);rw[l8]at this;have:=h.len;have:=g.len;unfold cY;omega
 refine⟨hl,fun x hx=>?_,fun x hx=>?_⟩
 all_goals
  obtain⟨i,hi,rfl⟩:=Ka0 hx;rw[<-jc hi,sn];have:=h.eN i;have:=g.eN i
  push_cast;omega
variable {C : Ctx} {fr : Fr} {hp : HP} {w : World} {K R : Qg}
theorem YO{α:Type}{f:α->PV}{e d:Nat}{xs:List α}{k k':IntKind}{n:Nat}(h5:n<=xs.length):
  fH e (.sl e (xs.map f)) none (some (.int k (n:Int))) (some (.int k' (n:Int))) d fr hp K=K (ae fr d (.sl e ((xs.take n).map f))) hp:=by
 simp[fH,fl,h5]
theorem RH{α:Type}{a:List α}{k:Nat}(h:a.length=k+1):a.getLast? =some (a[k]'(by omega)):=by rw[Ka7,show a.length-1=k by omega];exact Kaf _
theorem Qyy{α:Type}{f:α->PV}{e by_ ty d:Nat}{xs:List α}(h0:0<e)(h1:xs.length*by_<=140737488355328)(h2:xs.length<=9223372036854775807):
  fM e by_ ty .aa (.sl e (xs.map f)) d fr hp K=K (ae (bB d fr) d (.ms d xs.length)) (Qi hp d ⟨e,ty,xs.map f,false⟩):=by
 have:=Bz (fr:=fr) (hp:=hp) (K:=K) (e:=e) (by_:=by_) (ty:=ty) (d:=d) (x:=.sl e (xs.map f)) (ys:=xs.map f) rfl h0 (by simpa using h1) (by simpa using h2);simpa using this
theorem jL{α:Type}{f:α->PV}{e by_ ty d β n:Nat}{xs ys:List α}(hb:hp β=some ⟨e,ty,xs.map f,false⟩)(hn:n=xs.length)(h0:0<e)(h1:(n+ys.length)*by_<=140737488355328)(h2:n+ys.length<=9223372036854775807)(hB:bm β=false:=by decide):
  fM e by_ ty (.ms β n) (.sl e (ys.map f)) d fr hp K=K (ae (bB β fr) d (.ms β (n+ys.length))) (Qi hp β ⟨e,ty,(xs++ys).map f,false⟩):=by
 rw[BA (ys:=ys.map f) (xs:=xs.map f) rfl hb h0 (by simp[hn]) (by simpa using h1) (by simpa using h2) hB];rw[Kaj (by simp[hn]),List.map_append,Ka3]
theorem dB{α:Type}{f:α->PV}{y:α}{e by_ ty ty' d β γ n:Nat}{xs:List α}{fz:Bool}(hb:hp β=some ⟨e,ty,xs.map f,false⟩)(hy:hp γ=some ⟨e,ty',[f y],fz⟩)(h0:0<e)(hn:n=xs.length)(h1:(n+1)*by_<=140737488355328)(h2:n+1<=9223372036854775807)(hB:bm β=false:=by decide):
  fM e by_ ty (.ms β n) (.ms γ 1) d fr hp K=K (ae (bB β fr) d (.ms β (n+1))) (Qi hp β ⟨e,ty,(xs++[y]).map f,false⟩):=by
 rw[Cb hb hy h0 (by simp[hn]) h1 h2 hB];simp
abbrev PV.mono(a:List Int):PV:=.sl 1 (mo a)
theorem Pk{a:List Int}(h:a=[]):PV.le .aa (PV.mono a):=by subst h;trivial
theorem WE{by_ ty d:Nat}{k k':IntKind}{n c:Nat}(h2:n<=c)(h3:by_*c<=281474976710656)(h4:c<=9223372036854775807):
  ks 1 by_ ty (.int .i64 0) (.int k (n:Int)) (.int k' (c:Int)) d fr hp K=K (ae (bB d fr) d (.ms d n)) (Qi hp d ⟨1,ty,mo (List.replicate n 0),false⟩):=by
 rw[GW (by omega) (by omega) (by omega) (by omega)];simp[mo]
theorem KW(a b:Nat):max (a:Int) (b:Int)=((max a b:Nat):Int):=by omega
end Go.FW
namespace Go.FW
open Go
variable {C : Ctx} {fr : Fr} {hp : HP} {w : World} {K R : Qg}
theorem OV{α:Type}{done:List α}{i n:Nat}{v z:α}(h:done.length=i)(hn:0<n):(done++List.replicate n z).set i v=(done++[v])++List.replicate (n-1) z:=by
 obtain⟨m,rfl⟩:∃m,n=m+1:=⟨n-1,by omega⟩
 subst h;simp[Kbt]
theorem BQ{g:Int->Int->Int}{a b:List Int}{i:Nat}(h:i<max a.length b.length):(hZ g a b).take (i+1)=(hZ g a b).take i++[g (eN a i) (eN b i)]:=by rw[KaG (by rw[l8];exact h)];simp[hZ]
end Go.FW
namespace Go.FW
open Go
abbrev Tm:=Rat×List Int
abbrev PV.term(t:Tm):PV:=.agg [.bool (decide (t.1.num<0)),PV.num t.1.num.natAbs,PV.num t.1.den,PV.mono t.2]
abbrev PV.ax(p:List Tm):PV:=.sl 4 (p.map PV.term)
abbrev PV.nK(l:List (List Tm)):PV:=.sl 1 (l.map PV.ax)
def Q4:List Tm->List Tm->List Tm
 | [],q=>q
 |p,[]=>p
 |(c,m)::p,(d,l)::q=>
  if 0<bp m l then(c,m)::Q4 p ((d,l)::q)
  else if bp m l<0 then(d,l)::Q4 ((c,m)::p) q
  else if c+d=0 then Q4 p q else(c+d,m)::Q4 p q
termination_by p q=>p.length+q.length
theorem jJ(p:List Tm):Q4 p []=p:=by cases p<;>rw[Q4];simp
theorem qi(p:List Tm):Q4 [] p=p:=by rw[Q4]
structure TB(K E:Nat)(t:Tm):Prop where
 c:rs t.1+1<=K
 m:MB E t.2
 l:t.2.getLast? ≠some 0
def PB(K E:Nat)(p:List Tm):Prop:=∀t∈p,TB K E t
theorem TB.mono{K K' E E':Nat}{t:Tm}(h:TB K E t)(hK:K<=K')(hE:E<=E'):TB K' E' t:=⟨KaZ h.c hK,h.m.mono hE,h.l⟩
theorem PB.mono{K K' E E':Nat}{p:List Tm}(h:PB K E p)(hK:K<=K')(hE:E<=E'):PB K' E' p:=fun t ht=>(h t ht).mono hK hE
theorem PB.nil(K E:Nat):PB K E []:=fun t ht=>by cases ht
theorem PB.cons{K E:Nat}{t:Tm}{p:List Tm}:PB K E (t::p)↔TB K E t/\PB K E p:=by simp[PB]
theorem PB.drop{K E:Nat}{p:List Tm}(h:PB K E p)(n:Nat):PB K E (p.drop n):=fun t ht=>h t (KbB ht)
theorem PB.take{K E:Nat}{p:List Tm}(h:PB K E p)(n:Nat):PB K E (p.take n):=fun t ht=>h t (Ka4 ht)
theorem PB.get{K E:Nat}{p:List Tm}(h:PB K E p){i:Nat}(hi:i<p.length):TB K E p[i]:=h _ (Kaq hi)
theorem Bg:∀(p q:List Tm),(Q4 p q).length<=p.length+q.length:=by
 intro p q;induction p,q using Q4.induct with
 |case1 q=>rw[Q4];simp
 |case2 p h=>rw[jJ];simp
 |case3 c m p d l q h ih=>rw[Q4,if_pos h];simp at ih ⊢;omega
 |case4 c m p d l q h1 h2 ih=>rw[Q4,if_neg h1,if_pos h2];simp at ih ⊢;omega
 |case5 c m p d l q h1 h2 h3 ih=>rw[Q4,if_neg h1,if_neg h2,if_pos h3];simp at ih ⊢;omega
 |case6 c m p d l q h1 h2 h3 ih=>rw[Q4,if_neg h1,if_neg h2,if_neg h3];simp at ih ⊢;omega
theorem CE{K L E:Nat}:∀(p q:List Tm),PB K E p->PB L E q->PB (K+L) E (Q4 p q):=by
 intro p q;induction p,q using Q4.induct with
 |case1 q=>rw[Q4];exact fun _ h=>h.mono (by omega) (by omega)
 |case2 p h=>rw[jJ];exact fun h _=>h.mono (by omega) (by omega)
 |case3 c m p d l q h ih=>intro hp hq;rw[Q4,if_pos h];rw[PB.cons]at hp⊢;exact⟨hp.1.mono (by omega) (by omega),ih hp.2 hq⟩
 |case4 c m p d l q h1 h2 ih=>intro hp hq;rw[Q4,if_neg h1,if_pos h2];rw[PB.cons]at hq⊢;exact⟨hq.1.mono (by omega) (by omega),ih hp hq.2⟩
 |case5 c m p d l q h1 h2 h3 ih=>intro hp hq;rw[Q4,if_neg h1,if_neg h2,if_pos h3];rw[PB.cons]at hp hq;exact ih hp.2 hq.2
 |case6 c m p d l q h1 h2 h3 ih=>intro hp hq;rw[Q4,if_neg h1,if_neg h2,if_neg h3];rw[PB.cons]at hp hq⊢;refine⟨⟨?_,hp.1.m,hp.1.l⟩,ih hp.2 hq.2⟩;have:=yn c d;have:=hp.1.c;have:=hq.1.c;simp only at *;omega
def dD(l:List (List Tm)):List Tm:=
 match l with
 | []=>[]
 | [p]=>p
 |p::q::r=>Q4 (dD ((p::q::r).take ((p::q::r).length/2))) (dD ((p::q::r).drop ((p::q::r).length/2)))
termination_by l.length
decreasing_by
 all_goals simp[Kav,KaY];omega
theorem uo{l:List (List Tm)}(h:2<=l.length):dD l=Q4 (dD (l.take (l.length/2))) (dD (l.drop (l.length/2))):=by
 match l,h with
 |p::q::r,_=>rw[dD]
def n1(l:List (List Tm)):Nat:=(l.map List.length).sum
theorem IV(l:List (List Tm))(n:Nat):n1 (l.take n)+n1 (l.drop n)=n1 l:=by unfold n1;rw[<-List.sum_append,<-List.map_append,Kbj]
theorem Bq{K E:Nat}:∀(n:Nat)(l:List (List Tm)),l.length<=n->(∀p∈l,PB K E p)->PB (l.length*K) E (dD l)/\(dD l).length<=n1 l:=by
 intro n;induction n with
 |zero=>intro l hl _;have:l=[]:=Kat.1 (by omega);subst this;rw[dD];exact⟨PB.nil _ _,by simp⟩
 | succ n ih=>
  intro l hl h
  match l,h with
  | [],_=>rw[dD];exact⟨PB.nil _ _,by simp⟩
  | [p],h=>rw[dD];exact⟨by simpa using h p (by simp),by simp[n1]⟩
  | p::q::r,h=>
   rw[uo (by simp)];generalize hL:p::q::r=L at *
   have hlen:2<=L.length:=by rw[<-hL];simp
   obtain⟨a1,a2⟩:=ih (L.take (L.length/2)) (by rw[Kav];omega) (fun x hx=>h x (Ka4 hx));obtain⟨b1,b2⟩:=ih (L.drop (L.length/2)) (by rw[KaY];omega) (fun x hx=>h x (KbB hx));have hs:=IV L (L.length/2);constructor
   ·have e:(L.take (L.length/2)).length*K+(L.drop (L.length/2)).length*K=L.length*K:=by rw[<-Nat.add_mul,Kav,KaY];congr 1;omega
    rw[<-e];exact CE _ _ a1 b1
   ·have:=Bg (dD (L.take (L.length/2))) (dD (L.drop (L.length/2)));omega
def Q9(p:List Tm)(t:Tm):List Tm:=p.filterMap fun x=>if x.1*t.1=0 then none else some (x.1*t.1,cY x.2 t.2)
theorem qb(p:List Tm)(t:Tm):(Q9 p t).length<=p.length:=List.length_filterMap_le _ _
theorem rY{K L E F:Nat}{p:List Tm}{t:Tm}(hp:PB K E p)(ht:TB L F t):PB (K+L) (E+F) (Q9 p t):=by
 intro x hx;simp only[Q9,Kb2]at hx;obtain⟨y,hy,h⟩:=hx;split at h
 ·cases h
 ·cases h;have g:=hp y hy;refine⟨?_,g.m.mul ht.m,um _ _⟩;have:=G8 y.1 t.1;have:=g.c;have:=ht.c;simp only;omega
def nh(p q:List Tm):List Tm:=dD (p.map (Q9 q))
def cz(p q:List Tm):List Tm:=if q.length<p.length then nh q p else nh p q
theorem AQ(p q:List Tm):n1 (p.map (Q9 q))<=p.length*q.length:=by
 unfold n1;induction p with
 |nil=>simp
 |cons t p ih=>have:=qb q t;simp only[Kbs,Kcy,KaU,Kaz,Nat.one_mul];omega
theorem H7{K L E F:Nat}{p q:List Tm}(hp:PB K E p)(hq:PB L F q):PB (p.length*(K+L)) (E+F) (nh p q)/\(nh p q).length<=p.length*q.length:=by obtain⟨h1,h2⟩:=Bq (K:=K+L) (E:=E+F) _ (p.map (Q9 q)) (Kag _) (fun x hx=>by obtain⟨t,ht,rfl⟩:=KaL.1 hx;exact(rY hq (hp t ht)).mono (by omega) (by omega));rw[Ka3]at h1;exact⟨h1,KaZ h2 (AQ p q)⟩
theorem NT{K L E F:Nat}{p q:List Tm}(hp:PB K E p)(hq:PB L F q):PB (min p.length q.length*(K+L)) (E+F) (cz p q)/\(cz p q).length<=p.length*q.length:=by
 unfold cz;split
 ·rename_i h;obtain⟨h1,h2⟩:=H7 hq hp;rw[Kcv (by omega),KbO K,KbO E,KaS p.length];exact⟨h1,h2⟩
 ·rename_i h;obtain⟨h1,h2⟩:=H7 hp hq;rw[KbJ (by omega)];exact⟨h1,h2⟩
theorem uq(x y:Tm)(p q:List Tm):Q4 (x::p) (y::q)=if 0<bp x.2 y.2 then x::Q4 p (y::q)else if bp x.2 y.2<0 then y::Q4 (x::p) q else if x.1+y.1=0 then Q4 p q else(x.1+y.1,x.2)::Q4 p q:=by obtain⟨c,m⟩:=x;obtain⟨d,l⟩:=y;rw[Q4]
theorem JE{p q:List Tm}{i k:Nat}(hi:i<p.length)(hk:k<q.length):Q4 (p.drop i) (q.drop k)=if 0<bp p[i].2 q[k].2 then p[i]::Q4 (p.drop (i+1)) (q.drop k)else if bp p[i].2 q[k].2<0 then q[k]::Q4 (p.drop i) (q.drop (k+1))else if p[i].1+q[k].1=0 then Q4 (p.drop (i+1)) (q.drop (k+1))else(p[i].1+q[k].1,p[i].2)::Q4 (p.drop (i+1)) (q.drop (k+1)):=by rw[Kas hi,Kas hk,uq]
theorem GY(a b:List Int):iC 0 a b=bp a b:=by simp[iC]
theorem Br{a b:List Int}(h1:¬0<bp a b)(h2:¬bp a b<0)(ha:a.getLast? ≠some 0)(hb:b.getLast? ≠some 0):a=b:=(CD ha hb).1 (by omega)
theorem BR{p:List Tm}(h:p=[]):PV.le .aa (PV.ax p):=by subst h;trivial
section
variable {C : Ctx} {fr : Fr} {hp : HP} {w : World} {K R : Qg}
theorem RI{e by_ ty d:Nat}{z:PV}{k k':IntKind}{Cc:Int}(h0:0<e)(hz:z.cells.length=e)(h2:0<=Cc)(h3:by_*Cc<=281474976710656)(h4:Cc<=9223372036854775807):
  ks e by_ ty z (.int k 0) (.int k' Cc) d fr hp K=K (ae (bB d fr) d (.ms d 0)) (Qi hp d ⟨e,ty,[],false⟩):=yF h0 hz (by omega) h2 h3 h4
end
end Go.FW
namespace Go.FW
open Go
def eC(p:List Tm)(a:Rat):List Tm:=if a=0 then []else Q9 p (a,[])
def wR(p:List Tm):List Tm:=eC p (-1)
def cH(p q:List Tm):List Tm:=Q4 p (wR q)
def lz(a:Rat):List Tm:=if a=0 then []else [(a,[])]
def pb(v:Nat):List Int:=List.replicate v 0++[1]
def bX(v:Int):List Tm:=if v<0∨64<=v then []else [(1,pb v.toNat)]
theorem TB.num{a:Rat}{K E:Nat}(h:rs a+1<=K):TB K E (a,[]):=⟨h,⟨by simp,by simp,by simp⟩,by simp⟩
theorem JF{p:List Tm}{a:Rat}{K E L:Nat}(hp:PB K E p)(ha:rs a+1<=L):PB (K+L) E (eC p a):=by
 unfold eC;split
 ·exact PB.nil _ _
 ·exact(rY (F:=0) hp (TB.num ha)).mono (by omega) (by omega)
theorem AX(p:List Tm)(a:Rat):(eC p a).length<=p.length:=by
 unfold eC;split
 ·simp
 ·exact qb _ _
theorem yI:rs (-1)<=1:=by have:rs (-1)=max (nl 1) (nl 1):=rfl;rw[this,u6];omega
theorem MY:rs 1<=1:=by have:rs 1=max (nl 1) (nl 1):=rfl;rw[this,u6];omega
theorem KX{p:List Tm}{K E:Nat}(hp:PB K E p):PB (K+2) E (wR p):=JF hp (by have:=yI;omega)
def mq(s t:Tm):Int:=if bp s.2 t.2≠0 then bp s.2 t.2 else qG s.1 t.1
def iD:List Tm->List Tm->Int
 | [],[]=>0
 | [],_::_=> -1
 |_::_,[]=>1
 |s::p,t::q=>if mq s t≠0 then mq s t else iD p q
theorem Tu{s t:Tm}(hs:s.2.getLast? ≠some 0)(ht:t.2.getLast? ≠some 0):mq s t=0↔s=t:=by
 unfold mq;constructor
 ·intro h;split at h
  ·omega
  ·rename_i h1;have e1:=(CD hs ht).1 (Decidable.not_not.1 h1);exact Prod.ext (JC.1 h) e1
 ·rintro rfl;rw[if_neg (by simp[BP]),JC.2 rfl]
theorem Gt:∀ {p q:List Tm},(∀t∈p,t.2.getLast? ≠some 0)->(∀t∈q,t.2.getLast? ≠some 0)->(iD p q=0↔p=q)
 | [],[],_,_=>by simp[iD]
 | [],_::_,_,_=>by simp[iD]
 |_::_,[],_,_=>by simp[iD]
 | s::p,t::q,hp,hq=>by
  rw[iD];have h1:=Tu (hp s (by simp)) (hq t (by simp));have h2:=Gt (p:=p) (q:=q) (fun x hx=>hp x (by simp[hx])) (fun x hx=>hq x (by simp[hx]));split
  ·rename_i h;simp only[Kb9];exact⟨fun h'=>absurd h' h,fun h'=>absurd (h1.2 h'.1) h⟩
  ·rename_i h;rw[h2,Kb9,<-h1];exact⟨fun h'=>⟨Decidable.not_not.1 h,h'⟩,fun h'=>h'.2⟩
theorem OW{p q:List Tm}{i:Nat}(hi:i<p.length)(hk:i<q.length):iD (p.drop i) (q.drop i)=if mq p[i] q[i]≠0 then mq p[i] q[i]else iD (p.drop (i+1)) (q.drop (i+1)):=by rw[Kas hi,Kas hk,iD]
theorem xK{q:List Tm}:iD [] q=if q.length=0 then 0 else -1:=by cases q<;>simp[iD]
theorem PB.last{K E:Nat}{p:List Tm}(h:PB K E p):∀t∈p,t.2.getLast? ≠some 0:=fun t ht=>(h t ht).l
theorem Gu{E:Nat}{a:List Int}(h:MB E a):0<=iB a/\iB a<=64*E:=by
 have key:∀(l:List Int),(∀x∈l,0<=x)->(∀x∈l,x<=E)->0<=l.sum/\l.sum<=l.length*E:=by
  intro l;induction l with
  |nil=>simp
  |cons x l ih=>
   intro h1 h2;obtain⟨a1,a2⟩:=ih (fun y hy=>h1 y (by simp[hy])) (fun y hy=>h2 y (by simp[hy]));have b1:=h1 x (by simp);have b2:=h2 x (by simp);rw[Kcy,KaU]
   push_cast
   rw[Int.add_mul];omega
 obtain⟨h1,h2⟩:=key a h.lo h.hi;refine⟨h1,Int.le_trans h2 (Int.mul_le_mul_of_nonneg_right ?_ (by omega))⟩;have:=h.len;omega
structure RTm where
 n:Bool
 a:List Nat
 d:List Nat
 m:List Int
def gX:List Tm->Prop
 | []=>True
 |s::p=>(∀t∈p,0<bp s.2 t.2)/\gX p
theorem tO{a b c:List Int}(h1:0<bp a b)(h2:0<bp b c):0<bp a c:=by have e1:=uD a b;have e2:=uD b c;have e3:=uD a c;have:=NR (a:=c) (b:=b) (c:=a) (by omega) (by omega);omega
variable {C : Ctx} {ρ : Nat -> Option Nat} {fr : Fr} {hp : HP} {w : World} {K R : Qg}
theorem uG(s:Nat)(hd:(Qy hp (fr s)).aA=true):Wk fr hp (ae fr s (Qy hp (fr s))) (FW.bw hp (fr s).refs):=by
 rintro C tmps w ⟨ρ,hs⟩;have hf:=hs.freeze (fr s).refs;refine⟨ρ,hf.sz,hf.ext,hf.dK,hf.own,hf.inj,fun i=>?_⟩;unfold ae;split
 ·rename_i hi;subst hi;exact Qj.iT (m8 hs (hs.cd i) (fun β h=>h) hd)
 ·exact hf.cd i
def qv(W:List (Nat×Nat))(F:Fr)(I:Nat->Fr->HP->Prop)(n:Nat):Qg:=fun aw hp'=>∃J bu m,Wk aw hp' (bj W J F) bu/\m<n/\I m J bu
theorem RJ{W:List (Nat×Nat)}{F:Fr}{I:Nat->Fr->HP->Prop}{n:Nat}:KM (qv W F I n) (qv W F I n):=by rintro f f' hp hf ⟨J,bu,m,h1,h2,h3⟩;exact⟨J,bu,m,hf.wk.trans h1,h2,h3⟩
theorem Q6{sk:List It}{W:List (Nat×Nat)}{F:Fr}{I:Nat->Fr->HP->Prop}{n:Nat}(h:dQ R sk):dQ R (.el (qv W F I n)::sk):=⟨h.1,.el RJ h.2⟩
theorem BS{W:List (Nat×Nat)}{F J:Fr}{I:Nat->Fr->HP->Prop}{n:Nat}(m:Nat)(hl:m<n)(h:I m J hp):qv W F I n (bj W J F) hp:=⟨J,hp,m,Wk.refl _ _,hl,h⟩
theorem IW{W:List (Nat×Nat)}{F J:Fr}{I:Nat->Fr->HP->Prop}{n:Nat}(s m:Nat)(hs:iQ W s=true)(hd:(Qy hp (J s)).aA=true)(hl:m<n)(h:I m (ae J s (Qy hp (J s))) (FW.bw hp (J s).refs)):qv W F I n (bj W J F) hp:=by
 have e:bj W J F s=J s:=by rw[G4,if_pos hs]
 have hw:=uG (fr:=bj W J F) (hp:=hp) s (by rw[e];exact hd);rw[e,KP hs]at hw;exact⟨_,_,m,hw,hl,h⟩
theorem J8{sk:List It}{x:SC}(bQ:dQ R sk)(W:List (Nat×Nat))(B:List Nat)(I:Nat->Fr->HP->Prop)(m0:Nat)(h0:I m0 fr hp)
  (h:∀m J hp,I m J hp->vc C R (.c x:: .el (qv W (bY B fr) I m)::sk) (bj W J (bY B fr)) hp):vc C R (.c (.loop x)::sk) fr hp:=by
 refine ug (fun m aw hp'=>∃J,aw=bj W J (bY B fr)/\I m J hp') m0 (Ci W B).wk ⟨fr,rfl,h0⟩ ?_;rintro m _ hp' ⟨J,rfl,hI⟩;refine qo bQ.1 _ _ _ _ _ _ (Kag _) (.c x (.el ?_ bQ.2)) (bF.refl _) (h m J hp' hI);rintro f f' bu hf ⟨J2,ke,m2,e2,hl,h2⟩;exact Ca hl (hf.wk.trans e2) ⟨J2,rfl,h2⟩
abbrev dg(a:List Nat)(i:Nat):Nat:=a.getD i 0
theorem qw{a:List Nat}(h:Qk a)(i:Nat):dg a i<65536:=by
 by_cases hi:i<a.length
 ·rw[dg,eL hi];exact dn h hi
 ·rw[dg,eM hi];omega
theorem rZ(a:List Nat)(i:Nat):val (a.drop i)=dg a i+65536*val (a.drop (i+1)):=by
 by_cases hi:i<a.length
 ·rw[iZ hi,dg,eL hi]
 ·rw[dg,eM hi,Kal (by omega),Kal (by omega)];rfl
theorem Bs(a:List Nat)(i:Nat):val a=val (a.take i)+65536^i*val (a.drop i):=by
 by_cases hi:i<=a.length
 ·exact mb a i hi
 ·rw[Kaj (by omega),Kal (by omega)];simp[val]
theorem Qw6{a:List Nat}(h:Qk a)(i:Nat):val (a.take i)<65536^i:=by
 by_cases hi:i<=a.length
 ·exact oK h i hi
 ·rw[Kaj (by omega)];exact Ka8 (lv h) (KaX (by omega) (by omega))
theorem HH(a:List Nat)(i:Nat):val (a.take (i+1))=val (a.take i)+65536^i*dg a i:=by
 by_cases hi:i<a.length
 ·rw[tM hi,dg,eL hi]
 ·rw[dg,eM hi,Kaj (by omega),Kaj (by omega)];simp
theorem H8{a b:List Nat}(ha:Qk a){i:Nat}(h:val (a.drop i)<val (b.drop i)):val a<val b:=by rw[Bs a i,Bs b i];have h1:=Qw6 ha i;have:65536^i*(val (a.drop i)+1)<=65536^i*val (b.drop i):=Kbm _ h;rw[KaO]at this;omega
theorem Gv{l:List Nat}{j v:Nat}(h:j<l.length):val (l.set j v)+65536^j*l[j]=val l+65536^j*v:=by have e:l.set j v=l.take j++v::l.drop (j+1):=List.set_eq_take_append_cons_drop.trans (by rw[if_pos h]);have e2:=mb l j (by omega);rw[iZ h]at e2;rw[e,jK,Kav,KbJ (by omega),val,e2,KaO,KaO];omega
theorem xL(l:List Nat)(x:Nat):val (l++[x])=val l+65536^l.length*x:=by rw[jK];simp[val]
theorem NU{l:List Nat}{j:Nat}(h:val (l.drop j)=0):dg l j=0:=by have:=rZ l j;omega
theorem WG{bt:Bool}{n d:Nat}:bG .rem bt (.int .u64 (n:Int)) (.int .u64 65536) d fr hp K=K (ae fr d (.int .u64 ((n%65536:Nat):Int))) hp:=by rw[show(65536:Int)=((65536:Nat):Int)from rfl,mX (by omega)]
theorem WH{bt:Bool}{n d:Nat}(h:n<18446744073709551616):bG .quo bt (.int .u64 (n:Int)) (.int .u64 65536) d fr hp K=K (ae fr d (.int .u64 ((n/65536:Nat):Int))) hp:=by rw[show(65536:Int)=((65536:Nat):Int)from rfl,uF (by omega) h]
theorem Tv{bt:Bool}{n d:Nat}:bG .rem bt (.int .i64 (n:Int)) (.int .i64 65536) d fr hp K=K (ae fr d (.int .i64 ((n%65536:Nat):Int))) hp:=by rw[show(65536:Int)=((65536:Nat):Int)from rfl,mX (by omega)]
theorem Tw{bt:Bool}{n d:Nat}(h:n<9223372036854775808):bG .quo bt (.int .i64 (n:Int)) (.int .i64 65536) d fr hp K=K (ae fr d (.int .i64 ((n/65536:Nat):Int))) hp:=by rw[show(65536:Int)=((65536:Nat):Int)from rfl,Cx (by omega) h]
theorem WI(n:Nat):(n:Int)*65536=((n*65536:Nat):Int):=by omega
end Go.FW
namespace Go.FW
theorem JG{P x y V ai c q r M S T:Nat}(h1:S+P*x=M+P*r)(h2:M+P*(c+ai*(y+65536*V))=T)(h3:65536*q+r=x+ai*y+c):S+P*65536*(q+ai*V)=T:=by
 have e:P*(65536*q+r)=P*(x+ai*y+c):=by rw[h3]
 have a1:P*(c+ai*(y+65536*V))=P*c+P*(ai*y)+65536*(P*(ai*V)):=by rw[KaO ai,KaO,KaO,Kbw ai 65536,Kbw P 65536];omega
 have a2:P*65536*(q+ai*V)=65536*(P*q)+65536*(P*(ai*V)):=by rw[KaS P,Ka5,KaO,KaO]
 have a3:P*(65536*q+r)=65536*(P*q)+P*r:=by rw[KaO,Kbw]
 have a4:P*(x+ai*y+c)=P*x+P*(ai*y)+P*c:=by rw[KaO,KaO]
 omega
theorem JH{l:List Nat}{i j v:Nat}(h:i≠j):dg (l.set i v) j=dg l j:=by simp[dg,Kae,List.getElem?_set_ne h]
open Go
variable {C : Ctx} {ρ : Nat -> Option Nat} {fr : Fr} {hp : HP} {w : World} {K R : Qg}
theorem IX{x V d q:Nat}(hd:0<d)(h:q=V/d):(V%d*65536+x)/d+65536*q=(x+65536*V)/d/\(V%d*65536+x)%d=(x+65536*V)%d:=by
 subst h;have e:x+65536*V=(V%d*65536+x)+d*(65536*(V/d)):=by
  have:=Kbb V d
  calc x+65536*V=x+65536*(d*(V/d)+V%d):=by rw[this]
   _=_:=by rw[KaO,Kbw];omega
 rw[e,Kb6 _ _ hd,Kb5];exact⟨rfl,rfl⟩
theorem Tx(i e:Nat)(hi:fr i= .aa):Wk fr hp (ae fr i (.sl e [])) hp:=by
 rintro C tmps w ⟨ρ,hs⟩;refine⟨ρ,hs.sz,hs.ext,hs.dK,hs.own,hs.inj,fun j=>?_⟩;unfold ae;split
 ·rename_i hj;subst hj;have:=hs.cd j;rw[hi]at this;rw[Qj.rK this];exact Qo.gS _ _ _ (KbG _)
 ·exact hs.cd j
theorem uH{sk:List It}{x:SC}(i e:Nat)(hi:fr i= .aa)(h:vc C R (.c (.loop x)::sk) (ae fr i (.sl e [])) hp):vc C R (.c (.loop x)::sk) fr hp:=by rw[rU]at h⊢;obtain⟨I,μ,⟨aG,au,h1,gG⟩,h2⟩:=h;exact⟨I,μ,⟨aG,au,(Tx i e hi).trans h1,gG⟩,h2⟩
end Go.FW
namespace Go.FW
open Go Go.ChangeShapes Go.WideShapes
section
variable {H : Type} {enc : TypeId × Value -> H} {P : Program} {w : World} {base : Nat} {spare : Nat -> Bool} {held : Bool}
structure wS(cj:DataW H->Nat):Prop where
 len:∀(elems spare:List (DataW H)),elems.length<=cj (.slice elems spare)
 sl:∀(elems spare:List (DataW H))(d:DataW H),d∈elems->cj d<=cj (.slice elems spare)
 ag:∀(parts:List (DataW H))(d:DataW H),d∈parts->cj d<=cj (.agg parts)
def gY(enc:TypeId×Value->H)(P:Program)(cj:DataW H->Nat)(N:Nat)(t:TypeId)(Q:List PV->Prop):Prop:=
 ∀(w:World)(base:Nat)(spare:Nat->Bool)(held:Bool)(fuel:Nat)(cs:List Value)(x:DataW H×List MemPlace),DataW.trod enc P w base spare held fuel t cs=some x->cj x.1<=N->
  ∃ps,Q ps/\ps.length=cs.length/\∀(i:Nat)(p:PV),ps[i]? =some p->Qo w bW p (cs.getD i undef)
variable {cj : DataW H -> Nat} {N : Nat}
theorem uE{w:World}{p:PV}{v:Value}(h:Qo w bW p v):∀(i:Nat)(q:PV),[p][i]? =some q->Qo w bW q ([v].getD i undef):=by
 intro i q hq
 match i,hq with
 |0,hq=>simp at hq;subst hq;exact h
 |i+1,hq=>simp at hq
theorem gY.mono{t:TypeId}{Q Q':List PV->Prop}(h:gY enc P cj N t Q)(hQ:∀ps,Q ps->Q' ps):gY enc P cj N t Q':=
 fun w base spare held fuel cs x hx hn=>let⟨ps,h1,h2,h3⟩:=h w base spare held fuel cs x hx hn;⟨ps,hQ ps h1,h2,h3⟩
theorem JI{t:TypeId}{k:IntKind}(ht:P.underlying t=some (.int k)):gY enc P cj N t fun ps=>∃n,ps=[.int k n]/\(Lit.int k n).wf=true:=by intro w base spare held fuel cs x hx _;obtain⟨n,rfl,rfl,hw⟩:=DataW.trod_int ht hx;exact⟨_,⟨n,rfl,hw⟩,rfl,uE (.int k n)⟩
theorem NV{t:TypeId}(ht:P.underlying t=some .bool):gY enc P cj N t fun ps=>∃b,ps=[.bool b]:=by intro w base spare held fuel cs x hx _;obtain⟨b,rfl,rfl⟩:=DataW.trod_bool ht hx;exact⟨_,⟨b,rfl⟩,rfl,uE (.bool b)⟩
theorem OX{t:TypeId}(ht:P.underlying t=some (.int .u16)):gY enc P cj N t fun ps=>∃n:Nat,ps=[.int .u16 n]/\n<65536:=by refine(JI ht).mono ?_;rintro ps ⟨n,rfl,hw⟩;simp[Lit.wf,IntKind.min,IntKind.max,IntKind.signed,IntKind.bits]at hw;obtain⟨m,rfl⟩:=Int.eq_ofNat_of_zero_le hw.1;exact⟨m,rfl,by omega⟩
theorem BT{t:TypeId}(ht:P.underlying t=some (.int .i64)):gY enc P cj N t fun ps=>∃n:Int,ps=[.int .i64 n]/\ -9223372036854775808<=n/\n<=9223372036854775807:=by refine(JI ht).mono ?_;rintro ps ⟨n,rfl,hw⟩;simp[Lit.wf,IntKind.min,IntKind.max,IntKind.signed,IntKind.bits]at hw;exact⟨n,rfl,by omega⟩
theorem xm{α:Type}[Inhabited α]{f:α->PV}{G:α->Prop}{t e:TypeId}(hB:wS cj)(ht:P.underlying t=some (.slice e))(nA:0<P.cellsOf e)
  (he:gY enc P cj N e fun ps=>∃a:α,ps=(f a).cells/\G a):gY enc P cj N t fun ps=>∃l:List α,ps=[.sl (P.cellsOf e) (l.map f)]/\l.length<=N/\∀a∈l,G a:=by
 intro w base spare held fuel cs x hx hn;rcases Deep.open_slice ht hx with⟨rfl,rfl⟩|⟨a,len,cap,m,n,D,Pl,rfl,_,hl,hm,hmm,rfl,cx⟩
 ·exact⟨_,⟨[],rfl,KbG _,fun _ h=>by cases h⟩,rfl,uE (.gS _ none 0 (KbG _))⟩
 have FH:len<=m:=by rw[hmm];split<;>omega
 obtain⟨A,hA⟩:=Deep.choose_lt (α:=α×List Value) (n:=len) (p:=fun i y=>w.cells? base (a.add (i*P.cellsOf e)) (P.cellsOf e)=some y.2/\G y.1/\(f y.1).cells.length=y.2.length/\∀(j:Nat)(p:PV),(f y.1).cells[j]? =some p->Qo w bW p (y.2.getD j undef)) (fun i hi=>by obtain⟨cs',h1,h2⟩:=cx i (by omega);have hd:D i∈(List.range len).map D:=Kcb (List.mem_range.2 hi);obtain⟨_,⟨b,rfl,hG⟩,h3,h4⟩:=he w base spare held n cs' _ h2 (KaZ (hB.sl _ _ _ hd) hn);exact⟨(b,cs'),h1,hG,h3,h4⟩);have hlen:=hB.len ((List.range len).map D) ((List.range (m-len)).map fun j=>D (len+j));simp only[Ka3,List.length_range]at hlen hn;refine⟨_,⟨(List.range len).map fun i=>(A i).1,rfl,by simp;omega,fun b hb=>?_⟩,rfl,uE ?_⟩
 ·obtain⟨i,hi,rfl⟩:=KaL.1 hb;exact(hA i (List.mem_range.1 hi)).2.1
 ·rcases Nat.eq_zero_or_pos len with rfl|hp
  ·exact .gS _ _ _ hm
  have sp:a.spot=none:=by obtain⟨_,h2,h3⟩:=World.cells?_some (hA 0 hp).1;have h4:=h3 0 nA;rw[Kaf (by omega)]at h4;simpa[Addr.add]using World.cell?_spot h4
  obtain⟨b,off,spot⟩:=a;have sp':spot=none:=sp;subst sp';have mA:∀i,i<len->∀j,j<P.cellsOf e->w.cell? ⟨b,off+i*P.cellsOf e+j,none⟩=some ((A i).2.getD j undef):=fun i hi j hj=>by obtain⟨_,h2,h3⟩:=World.cells?_some (hA i hi).1;have h4:=h3 j hj;rw[Kaf (by omega),add_plain,add_plain]at h4;rw[h4];simp[Kae,Kaf (show j<(A i).2.length by omega)]
  have e1:((List.range len).map fun i=>(A i).1).map f=(List.range len).map fun i=>f (A i).1:=by simp
  have e2:((List.range len).map fun i=>f (A i).1).length=len:=by simp
  have get:∀(i:Nat)(x:PV),((List.range len).map fun i=>f (A i).1)[i]? =some x->i<len/\x=f (A i).1:=fun i x hx=>by obtain⟨hi,h⟩:=Kad.1 hx;rw[e2]at hi;exact⟨hi,by simpa using h.symm⟩
  rw[e1];have:=Qo.sl (w:=w) (X:=bW) (P.cellsOf e) ((List.range len).map fun i=>f (A i).1) b off cap (fun i j=>(A i).2.getD j undef) (fun h=>h) (Nn (mA 0 hp 0 nA)) (by rw[e2];exact hl) hm
   (fun i x hx=>by obtain⟨hi,rfl⟩:=get i x hx;rw[(hA i hi).2.2.1];exact(World.cells?_some (hA i hi).1).2.1)
   (fun i hi j hj=>mA i (by rwa[e2]at hi) j hj)
   (fun i x hx j y hy=>by obtain⟨hi,rfl⟩:=get i x hx;exact(hA i hi).2.2.2 j y hy)
  rwa[e2]at this
theorem HR{t:TypeId}{f0 f1:Field}{Q0 Q1:List PV->Prop}(hB:wS cj)(ht:P.underlying t=some (.struct #[f0,f1]))(h0:f0.offset=0)(h1:f1.offset=P.cellsOf f0.type)(hc:P.cellsOf t=P.cellsOf f0.type+P.cellsOf f1.type)
  (r0:gY enc P cj N f0.type Q0) (r1:gY enc P cj N f1.type Q1):gY enc P cj N t fun ps=>∃p q,ps=p++q/\Q0 p/\Q1 q:=by
 intro w base spare held fuel cs x hx hn;obtain⟨y0,y1,n,rfl,hl,g0,g1⟩:=trod_struct2 ht hx;obtain⟨p,hp,bu,ke⟩:=r0 _ _ _ _ _ _ _ g0 (KaZ (hB.ag _ _ (by simp)) hn);obtain⟨q,hq,lR,zu⟩:=r1 _ _ _ _ _ _ _ g1 (KaZ (hB.ag _ _ (by simp)) hn);rw[h0]at bu ke;rw[h1]at lR zu;simp only[Kbq,Kav,KaY]at bu lR;have lp:p.length=P.cellsOf f0.type:=by omega
 have lq:q.length=P.cellsOf f1.type:=by omega
 refine⟨_,⟨p,q,rfl,hp,hq⟩,by rw[KaJ];omega,fun i v hv=>?_⟩;by_cases hi:i<p.length
 ·rw[KbM hi]at hv;have:=ke i v hv;rw[Kbq,Kae,Kb1,if_pos (by omega)]at this;rw[Kae];exact this
 ·rw[Kbd (by omega)]at hv;have:=zu _ v hv;have kQ:i-p.length<q.length:=(Kad.1 hv).1;rw[Kae,Kb1,if_pos (by omega),KaR,show P.cellsOf f0.type+(i-p.length)=i by omega]at this;rw[Kae];exact this
theorem IY{r:Reach}{b0:Nat}{t:TypeId}{fs:Array Field}{v:Value}{d:DataW H}{ps:List MemPlace}{Q:List PV->Prop}(ht:P.underlying t=some (.struct fs))(er:Value.okWide P w r b0 t v)(hr:gY enc P cj N t Q)(hd:DataW.Trod enc P w base spare held t v d ps)(hn:cj d<=N):
  ∃p,Q p/\bc w bW (.agg p) v:=by
 obtain⟨vs,rfl,_⟩:=okWide_struct ht er;obtain⟨fuel,hf⟩:=hd;obtain⟨qs,h1,h2,h3⟩:=hr _ _ _ _ _ _ _ hf hn;refine⟨qs,h1,vs,rfl,by simpa[Value.cells]using h2.symm,fun i x hx=>?_⟩;have:=h3 i x hx;simpa[Value.cells,Kae,KaD]using this
theorem Ext.sameAt{W W':World}(h:Ext bW W W'){p:MemPlace}(hp:p.block<W.heap.size):W.sameAt W' p:=by
 cases p with
 |cell b off=>exact qd (h.block b hp (fun h=>h))
 |map b=>exact h.block b hp (fun h=>h)
theorem Ext.keptBut{W W':World}(h:Ext bW W W')(may:MemPlace->Prop):W.keptBut W' may:=by
 refine⟨h.os,h.output,fun i hi=>?_⟩;rw[h.block i hi (fun h=>h)];cases hh:W.heap[i]? with
 |none=>rfl
 |some o=>cases o with
  |cells c t fr=>exact⟨rfl,rfl,rfl,fun _ _=>rfl⟩
  |map es clock=>exact Or.inr ⟨rfl,rfl⟩
  |_=>rfl
theorem Ext.frozen{W W':World}(h:Ext bW W W'){a:Addr}(ha:a.block<W.heap.size):W'.frozen? a=W.frozen? a:=by unfold World.frozen?;rw[h.block _ ha (fun h=>h)]
theorem JJ(hl:laidOutB P=true)(hm:mapsRowed P=true)(dI:∀ {t e:TypeId},t<P.types.size->P.underlying t=some (.slice e)->0<P.cellsOf e){W W':World}(hx:Ext bW W W')(sp:Nat->Bool):
  ∀ {ts:List TypeId} {vs:List Value} {ds:List (DataW H)} {ps:List MemPlace},(∀t∈ts,t<P.types.size)->DataW.TrodAll enc P W 0 (fun _=>true) true ts vs ds ps->(∀p∈ps,sp p.block=true)->DataW.TrodAll enc P W' 0 sp true ts vs ds ps
 | [],_,_,_,_,h,_=>by obtain⟨rfl,rfl,rfl⟩:=trodAll_nil h;rfl
 |t::ts,_,_,_,iN,h,hs=>by obtain⟨v,vs,d,ds,p,q,rfl,rfl,rfl,⟨fuel,h1⟩,h2⟩:=trodAll_cons h;refine⟨p,q,⟨fuel,?_⟩,JJ hl hm dI hx sp (fun t ht=>iN t (by simp[ht])) h2 (fun x aL=>hs x (by simp[aL])),rfl⟩;exact DataW.trod_stays (kids_rows hl hm) dI (fun h=>by cases h) (iN t (by simp)) h1 (fun x aL=>hx.sameAt (DataW.trod_lt _ _ _ _ h1 x aL)) (fun x aL=>hs x (by simp[aL]))
theorem Qw7{f:FuncId}{fn:Func}{s:ChangeSpec}{ap fresh handsOn sH:Bool}{W:World}{args:Array Value}{ds gs:List (DataW H)}{before:List MemPlace}{aM:List PV}{tb:TypeId}
  (hW:DataW.Whole enc P fn.params.toList s.vars ap W args.toList ds gs before) (wm:s.vars=[]) (eI:fn.resultTypes= #[tb]) (Mu:P.underlying tb=some .bool)
  (hl:laidOutB P=true) (hm:mapsRowed P=true) (dI:∀ {t e:TypeId},t<P.types.size->P.underlying t=some (.slice e)->0<P.cellsOf e) (zt:∀t∈fn.params.toList,t<P.types.size)
  (vO:s.fn H (ds++gs)={ results:=[.lit (.bool true)],args:=ds })
  (hF:Qd P f aM (· = .bool true)) (FX:args.size=aM.length) (eA:∀(i:Nat)(x:PV),aM[i]? =some x->bc W bW x (args.getD i undef)):
  Calls P f args W fun e W'=>∃v,e= .returned v/\s.post enc P fn ap fresh handsOn sH W args v W':=by
 refine(hF.2 W bW args (fun _ h=>h.elim) FX eA).mono ?_;rintro e W' ⟨v,r,rfl,hx,hr,rfl⟩;have hv:v= .bool true:=by cases hr;rfl
 subst hv;refine⟨_,rfl,?_⟩;have vG:=hW;obtain⟨p,q,hA,hV,rfl,hz,hn⟩:=hW;rw[wm]at hV;obtain⟨rfl,rfl⟩:=trodVars_none hV;simp only[Kao]at vG hz hn;have an:∀x∈p,x.block<W.heap.size:=fun x aL=>by simpa using vG.lt x aL
 have Ln:∀sp:Nat->Bool,(∀x∈p,sp x.block=true)->DataW.TrodAll enc P W' 0 sp true fn.params.toList args.toList ds p:=fun sp hs=>JJ hl hm dI hx sp zt hA hs;have hR:∀(b:Nat)(sp:Nat->Bool)(hd:Bool),DataW.TrodAll enc P W' b sp hd fn.resultTypes.toList ((Value.bool true).resultList fn.resultTypes.size) [.lit (.bool true)] []:=fun b sp hd=>by rw[eI];exact trodAll_mk1 ⟨1,by simp[DataW.trod,Value.cells,Mu]⟩
 have hold:∀x∈p,(fun b=>decide (b<W.heap.size)) x.block=true:=fun x aL=>by simpa using an x aL
 refine⟨ds,[],p,[],p,[],vG,?_,?_,?_,hx.keptBut _,fun _=>⟨?_,?_⟩⟩
 ·rw[vO];exact hR _ _ _
 ·rw[vO];simpa using Ln _ hold
 ·rw[vO,wm];rfl
 ·exact RowKit.ok_one eI rfl (RowKit.okWide_bool_mk Mu _)
 ·refine⟨[.lit (.bool true)]++ds,[],p,⟨[]++p,[],trodAll_append (Ln _ (fun _ _=>rfl)) (hR _ _ _),?_,by simp,?_,?_⟩,?_⟩
  ·rw[wm];rfl
  ·intro b off hp;rw[hx.frozen (an _ hp)];exact hz b off hp
  ·exact hn
  ·intro x aL _;exact aL
end
end Go.FW
namespace Go.FW
open Go
attribute [go_sem ↓] vcs adS
attribute [go_sem] adT adU adV adW VO Rw Rx VQ VR VS VT Ry Rz YK YL NN RA Tp abe abf abg abh Ph NO List.drop_succ_cons List.drop_zero List.take_succ_cons List.take_zero List.headD_cons List.cons_append List.nil_append Pg abu abt RB Tq Tr and_true List.length_cons List.length_nil Wl Wm Wn B0 SA OU Tg QP Rt Ru Rv Th We Wf Rj Tj Tk YC Wg Wh Wi GQ Wj Wa bs1 bs2 Wc Td Te Tf Wd Nat.add_zero HY Ot Jt Int.toNat_natCast Nat.zero_add Option.map_some Option.map_none YG Ws YJ true_and G4 QH Pa ZX ln Pb xP Tl Bool.and_true Bool.true_and Bool.and_false Bool.false_and decide_true decide_false List.contains_cons List.contains_nil Bool.or_false Bool.false_or Bool.or_true Bool.true_or List.any_cons List.any_nil Bool.false_eq_true bN.dst qh QY nO xN Sw Bool.not_true Bool.not_false List.length_map List.map_cons List.map_nil YI Option.some.injEq fe List.getElem?_cons_zero List.getElem?_cons_succ Option.getD_some
attribute [go_sem] WG WH Tv Tw WI RI YO Qyy WE KW
theorem Dz0{p:Prop}(h:p:=by first|omega|rfl|(simp+decide only[go_sem]<;>rfl)|fail):p:=h
theorem Dz1{p A0:Prop}(x0:A0)(h:A0->p:=by intro x0;first|omega|rfl|(simp+decide only[go_sem,x0]<;>rfl)|fail):p:=h x0
theorem Dz2{p A0 A1:Prop}(x0:A0)(x1:A1)(h:A0->A1->p:=by intro x0 x1;first|omega|rfl|(simp+decide only[go_sem,x0,x1]<;>rfl)|fail):p:=h x0 x1
theorem Dz3{p A0 A1 A2:Prop}(x0:A0)(x1:A1)(x2:A2)(h:A0->A1->A2->p:=by intro x0 x1 x2;first|omega|rfl|(simp+decide only[go_sem,x0,x1,x2]<;>rfl)|fail):p:=h x0 x1 x2
theorem Dz4{p A0 A1 A2 A3:Prop}(x0:A0)(x1:A1)(x2:A2)(x3:A3)(h:A0->A1->A2->A3->p:=by intro x0 x1 x2 x3;first|omega|rfl|(simp+decide only[go_sem,x0,x1,x2,x3]<;>rfl)|fail):p:=h x0 x1 x2 x3
theorem Dz5{p A0 A1 A2 A3 A4:Prop}(x0:A0)(x1:A1)(x2:A2)(x3:A3)(x4:A4)(h:A0->A1->A2->A3->A4->p:=by intro x0 x1 x2 x3 x4;first|omega|rfl|(simp+decide only[go_sem,x0,x1,x2,x3,x4]<;>rfl)|fail):p:=h x0 x1 x2 x3 x4
theorem Dz6{p A0 A1 A2 A3 A4 A5:Prop}(x0:A0)(x1:A1)(x2:A2)(x3:A3)(x4:A4)(x5:A5)(h:A0->A1->A2->A3->A4->A5->p:=by intro x0 x1 x2 x3 x4 x5;first|omega|rfl|(simp+decide only[go_sem,x0,x1,x2,x3,x4,x5]<;>rfl)|fail):p:=h x0 x1 x2 x3 x4 x5
theorem Dz7{p A0 A1 A2 A3 A4 A5 A6:Prop}(x0:A0)(x1:A1)(x2:A2)(x3:A3)(x4:A4)(x5:A5)(x6:A6)(h:A0->A1->A2->A3->A4->A5->A6->p:=by intro x0 x1 x2 x3 x4 x5 x6;first|omega|rfl|(simp+decide only[go_sem,x0,x1,x2,x3,x4,x5,x6]<;>rfl)|fail):p:=h x0 x1 x2 x3 x4 x5 x6
theorem Dz8{p A0 A1 A2 A3 A4 A5 A6 A7:Prop}(x0:A0)(x1:A1)(x2:A2)(x3:A3)(x4:A4)(x5:A5)(x6:A6)(x7:A7)(h:A0->A1->A2->A3->A4->A5->A6->A7->p:=by intro x0 x1 x2 x3 x4 x5 x6 x7;first|omega|rfl|(simp+decide only[go_sem,x0,x1,x2,x3,x4,x5,x6,x7]<;>rfl)|fail):p:=h x0 x1 x2 x3 x4 x5 x6 x7
theorem Dz9{p A0 A1 A2 A3 A4 A5 A6 A7 A8:Prop}(x0:A0)(x1:A1)(x2:A2)(x3:A3)(x4:A4)(x5:A5)(x6:A6)(x7:A7)(x8:A8)(h:A0->A1->A2->A3->A4->A5->A6->A7->A8->p:=by intro x0 x1 x2 x3 x4 x5 x6 x7 x8;first|omega|rfl|(simp+decide only[go_sem,x0,x1,x2,x3,x4,x5,x6,x7,x8]<;>rfl)|fail):p:=h x0 x1 x2 x3 x4 x5 x6 x7 x8
theorem Dz10{p A0 A1 A2 A3 A4 A5 A6 A7 A8 A9:Prop}(x0:A0)(x1:A1)(x2:A2)(x3:A3)(x4:A4)(x5:A5)(x6:A6)(x7:A7)(x8:A8)(x9:A9)(h:A0->A1->A2->A3->A4->A5->A6->A7->A8->A9->p:=by intro x0 x1 x2 x3 x4 x5 x6 x7 x8 x9;first|omega|rfl|(simp+decide only[go_sem,x0,x1,x2,x3,x4,x5,x6,x7,x8,x9]<;>rfl)|fail):p:=h x0 x1 x2 x3 x4 x5 x6 x7 x8 x9
theorem Dz11{p A0 A1 A2 A3 A4 A5 A6 A7 A8 A9 du:Prop}(x0:A0)(x1:A1)(x2:A2)(x3:A3)(x4:A4)(x5:A5)(x6:A6)(x7:A7)(x8:A8)(x9:A9)(bV:du)(h:A0->A1->A2->A3->A4->A5->A6->A7->A8->A9->du->p:=by intro x0 x1 x2 x3 x4 x5 x6 x7 x8 x9 bV;first|omega|rfl|(simp+decide only[go_sem,x0,x1,x2,x3,x4,x5,x6,x7,x8,x9,bV]<;>rfl)|fail):p:=h x0 x1 x2 x3 x4 x5 x6 x7 x8 x9 bV
theorem Dz12{p A0 A1 A2 A3 A4 A5 A6 A7 A8 A9 du eZ:Prop}(x0:A0)(x1:A1)(x2:A2)(x3:A3)(x4:A4)(x5:A5)(x6:A6)(x7:A7)(x8:A8)(x9:A9)(bV:du)(cX:eZ)(h:A0->A1->A2->A3->A4->A5->A6->A7->A8->A9->du->eZ->p:=by intro x0 x1 x2 x3 x4 x5 x6 x7 x8 x9 bV cX;first|omega|rfl|(simp+decide only[go_sem,x0,x1,x2,x3,x4,x5,x6,x7,x8,x9,bV,cX]<;>rfl)|fail):p:=h x0 x1 x2 x3 x4 x5 x6 x7 x8 x9 bV cX
theorem Dz13{p A0 A1 A2 A3 A4 A5 A6 A7 A8 A9 du eZ gU:Prop}(x0:A0)(x1:A1)(x2:A2)(x3:A3)(x4:A4)(x5:A5)(x6:A6)(x7:A7)(x8:A8)(x9:A9)(bV:du)(cX:eZ)(eB:gU)(h:A0->A1->A2->A3->A4->A5->A6->A7->A8->A9->du->eZ->gU->p:=by intro x0 x1 x2 x3 x4 x5 x6 x7 x8 x9 bV cX eB;first|omega|rfl|(simp+decide only[go_sem,x0,x1,x2,x3,x4,x5,x6,x7,x8,x9,bV,cX,eB]<;>rfl)|fail):p:=h x0 x1 x2 x3 x4 x5 x6 x7 x8 x9 bV cX eB
theorem Dz14{p A0 A1 A2 A3 A4 A5 A6 A7 A8 A9 du eZ gU oH:Prop}(x0:A0)(x1:A1)(x2:A2)(x3:A3)(x4:A4)(x5:A5)(x6:A6)(x7:A7)(x8:A8)(x9:A9)(bV:du)(cX:eZ)(eB:gU)(lk:oH)(h:A0->A1->A2->A3->A4->A5->A6->A7->A8->A9->du->eZ->gU->oH->p:=by intro x0 x1 x2 x3 x4 x5 x6 x7 x8 x9 bV cX eB lk;first|omega|rfl|(simp+decide only[go_sem,x0,x1,x2,x3,x4,x5,x6,x7,x8,x9,bV,cX,eB,lk]<;>rfl)|fail):p:=h x0 x1 x2 x3 x4 x5 x6 x7 x8 x9 bV cX eB lk
theorem Sz0{p q:Prop}(h:q)(e:p=q:=by conv=>lhs;simp+decide (disch:=try exact Dz0) only[go_sem]):p:=e▸h
theorem Tz0{p:Prop}(h:p:=by simp+decide (disch:=try exact Dz0) only[go_sem]):p:=h
theorem bd{p:Prop}(h:p:=by simp+decide (disch:=try exact Dz0) only[go_sem]<;>rfl):p:=h
theorem Sz1{p q A0:Prop}(x0:A0)(h:q)(e:A0->p=q:=by intro x0;conv=>lhs;simp+decide (disch:=try exact Dz1 @x0) only[go_sem,x0]):p:=(e x0)▸h
theorem Tz1{p A0:Prop}(x0:A0)(h:A0->p:=by intro x0;simp+decide (disch:=try exact Dz1 @x0) only[go_sem,x0]):p:=h x0
theorem jV{p A0:Prop}(x0:A0)(h:A0->p:=by intro x0;simp+decide (disch:=try exact Dz1 @x0) only[go_sem,x0]<;>rfl):p:=h x0
theorem Sz2{p q A0 A1:Prop}(x0:A0)(x1:A1)(h:q)(e:A0->A1->p=q:=by intro x0 x1;conv=>lhs;simp+decide (disch:=try exact Dz2 @x0 @x1) only[go_sem,x0,x1]):p:=(e x0 x1)▸h
theorem Tz2{p A0 A1:Prop}(x0:A0)(x1:A1)(h:A0->A1->p:=by intro x0 x1;simp+decide (disch:=try exact Dz2 @x0 @x1) only[go_sem,x0,x1]):p:=h x0 x1
theorem Sz3{p q A0 A1 A2:Prop}(x0:A0)(x1:A1)(x2:A2)(h:q)(e:A0->A1->A2->p=q:=by intro x0 x1 x2;conv=>lhs;simp+decide (disch:=try exact Dz3 @x0 @x1 @x2) only[go_sem,x0,x1,x2]):p:=(e x0 x1 x2)▸h
theorem Tz3{p A0 A1 A2:Prop}(x0:A0)(x1:A1)(x2:A2)(h:A0->A1->A2->p:=by intro x0 x1 x2;simp+decide (disch:=try exact Dz3 @x0 @x1 @x2) only[go_sem,x0,x1,x2]):p:=h x0 x1 x2
theorem Sz4{p q A0 A1 A2 A3:Prop}(x0:A0)(x1:A1)(x2:A2)(x3:A3)(h:q)(e:A0->A1->A2->A3->p=q:=by intro x0 x1 x2 x3;conv=>lhs;simp+decide (disch:=try exact Dz4 @x0 @x1 @x2 @x3) only[go_sem,x0,x1,x2,x3]):p:=(e x0 x1 x2 x3)▸h
theorem Tz4{p A0 A1 A2 A3:Prop}(x0:A0)(x1:A1)(x2:A2)(x3:A3)(h:A0->A1->A2->A3->p:=by intro x0 x1 x2 x3;simp+decide (disch:=try exact Dz4 @x0 @x1 @x2 @x3) only[go_sem,x0,x1,x2,x3]):p:=h x0 x1 x2 x3
theorem Sz5{p q A0 A1 A2 A3 A4:Prop}(x0:A0)(x1:A1)(x2:A2)(x3:A3)(x4:A4)(h:q)(e:A0->A1->A2->A3->A4->p=q:=by intro x0 x1 x2 x3 x4;conv=>lhs;simp+decide (disch:=try exact Dz5 @x0 @x1 @x2 @x3 @x4) only[go_sem,x0,x1,x2,x3,x4]):p:=(e x0 x1 x2 x3 x4)▸h
theorem Tz5{p A0 A1 A2 A3 A4:Prop}(x0:A0)(x1:A1)(x2:A2)(x3:A3)(x4:A4)(h:A0->A1->A2->A3->A4->p:=by intro x0 x1 x2 x3 x4;simp+decide (disch:=try exact Dz5 @x0 @x1 @x2 @x3 @x4) only[go_sem,x0,x1,x2,x3,x4]):p:=h x0 x1 x2 x3 x4
theorem Sz6{p q A0 A1 A2 A3 A4 A5:Prop}(x0:A0)(x1:A1)(x2:A2)(x3:A3)(x4:A4)(x5:A5)(h:q)(e:A0->A1->A2->A3->A4->A5->p=q:=by intro x0 x1 x2 x3 x4 x5;conv=>lhs;simp+decide (disch:=try exact Dz6 @x0 @x1 @x2 @x3 @x4 @x5) only[go_sem,x0,x1,x2,x3,x4,x5]):p:=(e x0 x1 x2 x3 x4 x5)▸h
theorem Sz7{p q A0 A1 A2 A3 A4 A5 A6:Prop}(x0:A0)(x1:A1)(x2:A2)(x3:A3)(x4:A4)(x5:A5)(x6:A6)(h:q)(e:A0->A1->A2->A3->A4->A5->A6->p=q:=by intro x0 x1 x2 x3 x4 x5 x6;conv=>lhs;simp+decide (disch:=try exact Dz7 @x0 @x1 @x2 @x3 @x4 @x5 @x6) only[go_sem,x0,x1,x2,x3,x4,x5,x6]):p:=(e x0 x1 x2 x3 x4 x5 x6)▸h
theorem Tz7{p A0 A1 A2 A3 A4 A5 A6:Prop}(x0:A0)(x1:A1)(x2:A2)(x3:A3)(x4:A4)(x5:A5)(x6:A6)(h:A0->A1->A2->A3->A4->A5->A6->p:=by intro x0 x1 x2 x3 x4 x5 x6;simp+decide (disch:=try exact Dz7 @x0 @x1 @x2 @x3 @x4 @x5 @x6) only[go_sem,x0,x1,x2,x3,x4,x5,x6]):p:=h x0 x1 x2 x3 x4 x5 x6
theorem Sz8{p q A0 A1 A2 A3 A4 A5 A6 A7:Prop}(x0:A0)(x1:A1)(x2:A2)(x3:A3)(x4:A4)(x5:A5)(x6:A6)(x7:A7)(h:q)(e:A0->A1->A2->A3->A4->A5->A6->A7->p=q:=by intro x0 x1 x2 x3 x4 x5 x6 x7;conv=>lhs;simp+decide (disch:=try exact Dz8 @x0 @x1 @x2 @x3 @x4 @x5 @x6 @x7) only[go_sem,x0,x1,x2,x3,x4,x5,x6,x7]):p:=(e x0 x1 x2 x3 x4 x5 x6 x7)▸h
theorem Sz9{p q A0 A1 A2 A3 A4 A5 A6 A7 A8:Prop}(x0:A0)(x1:A1)(x2:A2)(x3:A3)(x4:A4)(x5:A5)(x6:A6)(x7:A7)(x8:A8)(h:q)(e:A0->A1->A2->A3->A4->A5->A6->A7->A8->p=q:=by intro x0 x1 x2 x3 x4 x5 x6 x7 x8;conv=>lhs;simp+decide (disch:=try exact Dz9 @x0 @x1 @x2 @x3 @x4 @x5 @x6 @x7 @x8) only[go_sem,x0,x1,x2,x3,x4,x5,x6,x7,x8]):p:=(e x0 x1 x2 x3 x4 x5 x6 x7 x8)▸h
theorem vm{p q A0 A1 A2 A3 A4 A5 A6 A7 A8 A9:Prop}(x0:A0)(x1:A1)(x2:A2)(x3:A3)(x4:A4)(x5:A5)(x6:A6)(x7:A7)(x8:A8)(x9:A9)(h:q)(e:A0->A1->A2->A3->A4->A5->A6->A7->A8->A9->p=q:=by intro x0 x1 x2 x3 x4 x5 x6 x7 x8 x9;conv=>lhs;simp+decide (disch:=try exact Dz10 @x0 @x1 @x2 @x3 @x4 @x5 @x6 @x7 @x8 @x9) only[go_sem,x0,x1,x2,x3,x4,x5,x6,x7,x8,x9]):p:=(e x0 x1 x2 x3 x4 x5 x6 x7 x8 x9)▸h
theorem Tz10{p A0 A1 A2 A3 A4 A5 A6 A7 A8 A9:Prop}(x0:A0)(x1:A1)(x2:A2)(x3:A3)(x4:A4)(x5:A5)(x6:A6)(x7:A7)(x8:A8)(x9:A9)(h:A0->A1->A2->A3->A4->A5->A6->A7->A8->A9->p:=by intro x0 x1 x2 x3 x4 x5 x6 x7 x8 x9;simp+decide (disch:=try exact Dz10 @x0 @x1 @x2 @x3 @x4 @x5 @x6 @x7 @x8 @x9) only[go_sem,x0,x1,x2,x3,x4,x5,x6,x7,x8,x9]):p:=h x0 x1 x2 x3 x4 x5 x6 x7 x8 x9
theorem wT{p q A0 A1 A2 A3 A4 A5 A6 A7 A8 A9 du:Prop}(x0:A0)(x1:A1)(x2:A2)(x3:A3)(x4:A4)(x5:A5)(x6:A6)(x7:A7)(x8:A8)(x9:A9)(bV:du)(h:q)(e:A0->A1->A2->A3->A4->A5->A6->A7->A8->A9->du->p=q:=by intro x0 x1 x2 x3 x4 x5 x6 x7 x8 x9 bV;conv=>lhs;simp+decide (disch:=try exact Dz11 @x0 @x1 @x2 @x3 @x4 @x5 @x6 @x7 @x8 @x9 @bV) only[go_sem,x0,x1,x2,x3,x4,x5,x6,x7,x8,x9,bV]):p:=(e x0 x1 x2 x3 x4 x5 x6 x7 x8 x9 bV)▸h
theorem Tz11{p A0 A1 A2 A3 A4 A5 A6 A7 A8 A9 du:Prop}(x0:A0)(x1:A1)(x2:A2)(x3:A3)(x4:A4)(x5:A5)(x6:A6)(x7:A7)(x8:A8)(x9:A9)(bV:du)(h:A0->A1->A2->A3->A4->A5->A6->A7->A8->A9->du->p:=by intro x0 x1 x2 x3 x4 x5 x6 x7 x8 x9 bV;simp+decide (disch:=try exact Dz11 @x0 @x1 @x2 @x3 @x4 @x5 @x6 @x7 @x8 @x9 @bV) only[go_sem,x0,x1,x2,x3,x4,x5,x6,x7,x8,x9,bV]):p:=h x0 x1 x2 x3 x4 x5 x6 x7 x8 x9 bV
theorem qH{p q A0 A1 A2 A3 A4 A5 A6 A7 A8 A9 du eZ:Prop}(x0:A0)(x1:A1)(x2:A2)(x3:A3)(x4:A4)(x5:A5)(x6:A6)(x7:A7)(x8:A8)(x9:A9)(bV:du)(cX:eZ)(h:q)(e:A0->A1->A2->A3->A4->A5->A6->A7->A8->A9->du->eZ->p=q:=by intro x0 x1 x2 x3 x4 x5 x6 x7 x8 x9 bV cX;conv=>lhs;simp+decide (disch:=try exact Dz12 @x0 @x1 @x2 @x3 @x4 @x5 @x6 @x7 @x8 @x9 @bV @cX) only[go_sem,x0,x1,x2,x3,x4,x5,x6,x7,x8,x9,bV,cX]):p:=(e x0 x1 x2 x3 x4 x5 x6 x7 x8 x9 bV cX)▸h
theorem Al{p q A0 A1 A2 A3 A4 A5 A6 A7 A8 A9 du eZ gU:Prop}(x0:A0)(x1:A1)(x2:A2)(x3:A3)(x4:A4)(x5:A5)(x6:A6)(x7:A7)(x8:A8)(x9:A9)(bV:du)(cX:eZ)(eB:gU)(h:q)(e:A0->A1->A2->A3->A4->A5->A6->A7->A8->A9->du->eZ->gU->p=q:=by intro x0 x1 x2 x3 x4 x5 x6 x7 x8 x9 bV cX eB;conv=>lhs;simp+decide (disch:=try exact Dz13 @x0 @x1 @x2 @x3 @x4 @x5 @x6 @x7 @x8 @x9 @bV @cX @eB) only[go_sem,x0,x1,x2,x3,x4,x5,x6,x7,x8,x9,bV,cX,eB]):p:=(e x0 x1 x2 x3 x4 x5 x6 x7 x8 x9 bV cX eB)▸h
theorem Tz13{p A0 A1 A2 A3 A4 A5 A6 A7 A8 A9 du eZ gU:Prop}(x0:A0)(x1:A1)(x2:A2)(x3:A3)(x4:A4)(x5:A5)(x6:A6)(x7:A7)(x8:A8)(x9:A9)(bV:du)(cX:eZ)(eB:gU)(h:A0->A1->A2->A3->A4->A5->A6->A7->A8->A9->du->eZ->gU->p:=by intro x0 x1 x2 x3 x4 x5 x6 x7 x8 x9 bV cX eB;simp+decide (disch:=try exact Dz13 @x0 @x1 @x2 @x3 @x4 @x5 @x6 @x7 @x8 @x9 @bV @cX @eB) only[go_sem,x0,x1,x2,x3,x4,x5,x6,x7,x8,x9,bV,cX,eB]):p:=h x0 x1 x2 x3 x4 x5 x6 x7 x8 x9 bV cX eB
theorem Sz14{p q A0 A1 A2 A3 A4 A5 A6 A7 A8 A9 du eZ gU oH:Prop}(x0:A0)(x1:A1)(x2:A2)(x3:A3)(x4:A4)(x5:A5)(x6:A6)(x7:A7)(x8:A8)(x9:A9)(bV:du)(cX:eZ)(eB:gU)(lk:oH)(h:q)(e:A0->A1->A2->A3->A4->A5->A6->A7->A8->A9->du->eZ->gU->oH->p=q:=by intro x0 x1 x2 x3 x4 x5 x6 x7 x8 x9 bV cX eB lk;conv=>lhs;simp+decide (disch:=try exact Dz14 @x0 @x1 @x2 @x3 @x4 @x5 @x6 @x7 @x8 @x9 @bV @cX @eB @lk) only[go_sem,x0,x1,x2,x3,x4,x5,x6,x7,x8,x9,bV,cX,eB,lk]):p:=(e x0 x1 x2 x3 x4 x5 x6 x7 x8 x9 bV cX eB lk)▸h
theorem Tz14{p A0 A1 A2 A3 A4 A5 A6 A7 A8 A9 du eZ gU oH:Prop}(x0:A0)(x1:A1)(x2:A2)(x3:A3)(x4:A4)(x5:A5)(x6:A6)(x7:A7)(x8:A8)(x9:A9)(bV:du)(cX:eZ)(eB:gU)(lk:oH)(h:A0->A1->A2->A3->A4->A5->A6->A7->A8->A9->du->eZ->gU->oH->p:=by intro x0 x1 x2 x3 x4 x5 x6 x7 x8 x9 bV cX eB lk;simp+decide (disch:=try exact Dz14 @x0 @x1 @x2 @x3 @x4 @x5 @x6 @x7 @x8 @x9 @bV @cX @eB @lk) only[go_sem,x0,x1,x2,x3,x4,x5,x6,x7,x8,x9,bV,cX,eB,lk]):p:=h x0 x1 x2 x3 x4 x5 x6 x7 x8 x9 bV cX eB lk
theorem Ez0{p:Prop}(h:p:=by first|omega|rfl|(simp+decide only[go_sem,eU,Kay,KaI,KaA,KaK,Kao]<;>rfl)|fail):p:=h
theorem Ez1{p A0:Prop}(x0:A0)(h:A0->p:=by intro x0;first|omega|rfl|(simp+decide only[go_sem,eU,Kay,KaI,KaA,KaK,Kao,x0]<;>rfl)|fail):p:=h x0
theorem Ez2{p A0 A1:Prop}(x0:A0)(x1:A1)(h:A0->A1->p:=by intro x0 x1;first|omega|rfl|(simp+decide only[go_sem,eU,Kay,KaI,KaA,KaK,Kao,x0,x1]<;>rfl)|fail):p:=h x0 x1
theorem Ez3{p A0 A1 A2:Prop}(x0:A0)(x1:A1)(x2:A2)(h:A0->A1->A2->p:=by intro x0 x1 x2;first|omega|rfl|(simp+decide only[go_sem,eU,Kay,KaI,KaA,KaK,Kao,x0,x1,x2]<;>rfl)|fail):p:=h x0 x1 x2
theorem Ez4{p A0 A1 A2 A3:Prop}(x0:A0)(x1:A1)(x2:A2)(x3:A3)(h:A0->A1->A2->A3->p:=by intro x0 x1 x2 x3;first|omega|rfl|(simp+decide only[go_sem,eU,Kay,KaI,KaA,KaK,Kao,x0,x1,x2,x3]<;>rfl)|fail):p:=h x0 x1 x2 x3
theorem dL{p q:Prop}(h:q)(e:p=q:=by conv=>lhs;simp+decide (disch:=try exact Ez0) only[go_sem,eU,Kay,KaI,KaA,KaK,Kao]):p:=e▸h
theorem ob{p:Prop}(h:p:=by simp+decide (disch:=try exact Ez0) only[go_sem,eU,Kay,KaI,KaA,KaK,Kao]):p:=h
theorem Am{p:Prop}(h:p:=by simp+decide (disch:=try exact Ez0) only[go_sem,eU,Kay,KaI,KaA,KaK,Kao]<;>rfl):p:=h
theorem La{p q A0:Prop}(x0:A0)(h:q)(e:A0->p=q:=by intro x0;conv=>lhs;simp+decide (disch:=try exact Ez1 @x0) only[go_sem,eU,Kay,KaI,KaA,KaK,Kao,x0]):p:=(e x0)▸h
theorem vr{p q A0 A1:Prop}(x0:A0)(x1:A1)(h:q)(e:A0->A1->p=q:=by intro x0 x1;conv=>lhs;simp+decide (disch:=try exact Ez2 @x0 @x1) only[go_sem,eU,Kay,KaI,KaA,KaK,Kao,x0,x1]):p:=(e x0 x1)▸h
theorem yK{p q A0 A1 A2:Prop}(x0:A0)(x1:A1)(x2:A2)(h:q)(e:A0->A1->A2->p=q:=by intro x0 x1 x2;conv=>lhs;simp+decide (disch:=try exact Ez3 @x0 @x1 @x2) only[go_sem,eU,Kay,KaI,KaA,KaK,Kao,x0,x1,x2]):p:=(e x0 x1 x2)▸h
theorem Vz4{p q A0 A1 A2 A3:Prop}(x0:A0)(x1:A1)(x2:A2)(x3:A3)(h:q)(e:A0->A1->A2->A3->p=q:=by intro x0 x1 x2 x3;conv=>lhs;simp+decide (disch:=try exact Ez4 @x0 @x1 @x2 @x3) only[go_sem,eU,Kay,KaI,KaA,KaK,Kao,x0,x1,x2,x3]):p:=(e x0 x1 x2 x3)▸h
variable {C : Ctx} {fr : Fr} {hp : HP} {R : Qg}
end Go.FW
namespace Go.FW
open Go
variable {C : Ctx} {ρ : Nat -> Option Nat} {fr aw : Fr} {hp : HP} {w : World} {K R : Qg}
theorem b8.known{p:PV}{v:Value}(h:b8 C ρ hp w p v):∀γ∈p.cG,hp γ≠none:=by
 intro γ ah;cases p with
 |aq β o n=>simp[PV.cG]at ah;subst ah;obtain⟨_,hb,h1,_⟩:=h;simp[h1]
 |aE β o n=>simp[PV.cG]at ah;subst ah;obtain⟨_,hb,b,cap,h1,_⟩:=h;simp[h1]
 |np β o n=>cases h
 |_=>cases ah
theorem cg.known{p:PV}{v:Value}(h:cg C ρ hp w p v):(∀γ∈p.bg,hp γ≠none)/\∀γ∈p.dj,hp γ≠none:=by
 cases p with
 |mp β i o=>obtain⟨b,hb,h1,h2,_⟩:=h;simp[PV.bg,PV.dj,h2]
 |aq β o n=>obtain⟨hb,h1,_⟩:=h;simp[PV.bg,PV.dj,h1]
 |rb β o n=>obtain⟨b,u,_,_,_,_,hb,h1,_⟩:=h;simp[PV.bg,PV.dj,h1]
 |np γ i o=>obtain⟨_,b,hb,h1,h2,_⟩:=h;simp[PV.bg,PV.dj,h2]
 |aE γ o n=>obtain⟨_,hb,b,cap,h1,_⟩:=h;simp[PV.bg,PV.dj,h1]
 |_=>exact⟨(fun γ ah=>by cases ah),(fun γ ah=>by cases ah)⟩
theorem Qj.known{p:PV}{v:Value}(h:Qj C ρ hp w p v):(∀γ∈p.refs,hp γ≠none)/\∀γ∈p.aJ,hp γ≠none:=by
 cases p with
 |mp β i o=>obtain⟨b,hb,h1,h2,_⟩:=h;simp[PV.refs,PV.aJ,h2]
 |aq β o n=>obtain⟨hb,h1,_⟩:=h;simp[PV.refs,PV.aJ,h1]
 |rb β o n=>obtain⟨b,u,_,_,_,_,hb,h1,_⟩:=h;simp[PV.refs,PV.aJ,h1]
 |np γ i o=>obtain⟨_,b,hb,h1,h2,_⟩:=h;simp[PV.refs,PV.aJ,h2]
 |aE γ o n=>obtain⟨_,hb,b,cap,h1,_⟩:=h;simp[PV.refs,PV.aJ,h1]
 |aH cs=>obtain⟨vs,_,_,h2⟩:=h;refine⟨fun γ ah=>(by cases ah),fun γ ah=>?_⟩;obtain⟨x,hx,ah⟩:=Kan.1 ah;obtain⟨i,hi⟩:=Kau hx;exact(h2 i x hi).known γ ah
 |dk cs=>obtain⟨vs,_,_,h2⟩:=h;refine⟨fun γ ah=>(by cases ah),fun γ ah=>?_⟩;obtain⟨x,hx,ah⟩:=Kan.1 ah;obtain⟨i,hi⟩:=Kau hx;exact(h2 i x hi).known γ ah
 |cm cs q=>obtain⟨vs,u,_,_,h2,_⟩:=h;refine⟨fun γ ah=>(by cases ah),fun γ ah=>?_⟩;obtain⟨x,hx,ah⟩:=Kan.1 ah;obtain⟨i,hi⟩:=Kau hx;exact(h2 i x hi).known γ ah
 | aC β e ty xs=>
  obtain⟨_,_,b,hb,cur,cap,_,g2,_,_,_,_,_,_,_,_,cD⟩:=h;refine⟨fun γ ah=>(by cases ah),fun γ ah=>?_⟩;rcases KaF.1 ah with rfl|ah
  ·simp[g2]
  ·obtain⟨x,hx,ah⟩:=Kan.1 ah;obtain⟨y,hy,ah⟩:=Kan.1 ah;obtain⟨i,hi⟩:=Kau hx;obtain⟨j,hj⟩:=Kau hy;exact(cD i x hi j y hj).known γ ah
 | fn f first cap=>
  obtain⟨fv,cv,_,_,_,h3,h4⟩:=h;have g:∀(l:List PV)(u:Array Value),(∀(i:Nat)(x:PV),l[i]? =some x->cg C ρ hp w x (u.getD i undef))->(∀γ∈l.flatMap PV.bg,hp γ≠none)/\∀γ∈l.flatMap PV.dj,hp γ≠none:=by
   intro l u hl;refine⟨fun γ ah=>?_,fun γ ah=>?_⟩<;>
   ·obtain⟨x,hx,ah⟩:=Kan.1 ah;obtain⟨i,hi⟩:=Kau hx
    first|exact(hl i x hi).known.1 γ ah|exact(hl i x hi).known.2 γ ah
  refine⟨fun γ ah=>?_,fun γ ah=>?_⟩
  ·rcases KaT.1 ah with ah|ah
   ·exact(g first fv h3).1 γ ah
   ·exact(g cap cv h4).1 γ ah
  ·rcases KaT.1 ah with ah|ah
   ·exact(g first fv h3).2 γ ah
   ·exact(g cap cv h4).2 γ ah
 |_=>exact⟨(fun γ ah=>by cases ah),(fun γ ah=>by cases ah)⟩
def gP(β:Nat):Bool:=decide (2000000<=β)
def iS(β:Nat):Bool:=gP β||decide (β<1000000)
theorem Yd{β:Nat}(h:iS β=false):gP β=false:=by simp[iS]at h;exact h.1
def gE:PV->PV
 |.aC _ _ _ _| .aH _| .dk _| .cm _ _=>.undef
 |p=>if p.refs.any gP||p.aJ.any iS then .undef else p
def qI(F:Fr):Fr:=fun s=>gE (F s)
def oI(p:PV):Prop:=(∀β∈p.refs,gP β=false)/\(∀β∈p.aJ,iS β=false)/\(∀γ e ty xs,p≠ .aC γ e ty xs)/\∀cs,p≠ .aH cs/\p≠ .dk cs/\∀q,p≠ .cm cs q
theorem RK(p:PV):oI (gE p):=by
 have h0:oI .undef:=⟨(fun β h=>by cases h),(fun β h=>by cases h),(fun _ _ _ _ h=>by cases h),(fun _=>⟨(fun h=>by cases h),(fun h=>by cases h),fun _ h=>by cases h⟩)⟩
 unfold gE;split
 ·exact h0
 ·exact h0
 ·exact h0
 ·exact h0
 ·rename_i hn v7 hn3 FM;split
  ·exact h0
  ·rename_i h;simp only[Kbu,not_or,Bool.not_eq_true,Kcs]at h;exact⟨fun β aj=>by simpa using h.1 β aj,fun β aj=>by simpa using h.2 β aj,fun γ e ty xs=>hn γ e ty xs,fun cs=>⟨v7 cs,hn3 cs,FM cs⟩⟩
theorem oI.kill{p:PV}(h:oI p){B:List Nat}:oI (if p.refs.any B.contains then .undef else p):=by
 split
 ·exact⟨(fun β h=>by cases h),(fun β h=>by cases h),(fun _ _ _ _ h=>by cases h),(fun _=>⟨(fun h=>by cases h),(fun h=>by cases h),fun _ h=>by cases h⟩)⟩
 ·exact h
theorem JK{β:Nat}{p:PV}(h:∀γ∈p.refs,γ≠β):bl β p=p:=by unfold bl;rw[if_neg];intro hc;exact h β (by simpa using hc) rfl
theorem BU{β:Nat}{p:PV}(h:∀γ∈p.cG,γ≠β):fu β p=p:=by
 cases p with
 |aq γ o n=>simp only[fu];rw[if_neg (h γ (by simp[PV.cG]))]
 |aE γ o n=>simp only[fu];rw[if_neg (h γ (by simp[PV.cG]))]
 |_=>rfl
theorem OY{β:Nat}{p:PV}(h:∀γ∈p.refs,γ≠β)(h2:∀γ∈p.aJ,γ≠β)(h3:∀γ e ty xs,p≠ .aC γ e ty xs):cu β p=p:=by
 cases p with
 |aC γ e ty xs=>exact absurd rfl (h3 _ _ _ _)
 |aH cs=>
  simp only[cu];congr 1;conv=>rhs;rw[<-List.map_id cs]
  exact KaV fun x hx=>BU fun γ ah=>h2 γ (Kan.2 ⟨x,hx,ah⟩)
 |dk cs=>
  simp only[cu];congr 1;conv=>rhs;rw[<-List.map_id cs]
  exact KaV fun x hx=>BU fun γ ah=>h2 γ (Kan.2 ⟨x,hx,ah⟩)
 |cm cs q=>
  simp only[cu];congr 1;conv=>rhs;rw[<-List.map_id cs]
  exact KaV fun x hx=>BU fun γ ah=>h2 γ (Kan.2 ⟨x,hx,ah⟩)
 |aE γ o n=>simp only[cu];rw[if_neg (h2 γ (by simp[PV.aJ]))]
 |np γ i o=>simp only[cu];rw[if_neg (h2 γ (by simp[PV.aJ]))]
 |fn f first cap=>simp only[cu];rw[if_neg,JK h];intro hc;exact h2 β (by simpa[PV.aJ]using hc) rfl
 |_=>exact JK h
theorem GZ{β γ:Nat}(h:2000000<=β)(h2:gP γ=false):γ≠β:=by simp[gP]at h2;omega
abbrev dM(B:List Nat)(F:Fr):Fr:=bY B (qI F)
theorem uI(B:List Nat)(F:Fr)(s:Nat):oI (dM B F s):=(RK (F s)).kill
theorem JL{β:Nat}{B:List Nat}{F:Fr}(h:2000000<=β):dU β (dM B F)=dM B F:=by funext s;have hc:=uI B F s;exact OY (fun γ ah=>GZ h (hc.1 γ ah)) (fun γ ah=>GZ h (Yd (hc.2.1 γ ah))) hc.2.2.1
theorem JM{γ:Nat}{B:List Nat}{F:Fr}:fL γ (dM B F)=dM B F:=by
 funext s;have hc:=uI B F s;show fS γ (dM B F s)=_;generalize dM B F s=p at *
 cases p with
 |aC aS e ty xs=>exact absurd rfl (hc.2.2.1 _ _ _ _)
 |_=>rfl
theorem OZ{W:List (Nat×Nat)}{β:Nat}{J F:Fr}:dU β (bj W J F)=bj W (dU β J) (dU β F):=by funext s;unfold dU bj;split<;>rfl
theorem O0{W:List (Nat×Nat)}{β:Nat}{J F:Fr}:fL β (bj W J F)=bj W (fL β J) (fL β F):=by funext s;unfold fL bj;split<;>rfl
theorem O1{β d:Nat}{F:Fr}{v:PV}:dU β (ae F d v)=ae (dU β F) d (cu β v):=by funext s;unfold dU ae;split<;>rfl
theorem O2{β d:Nat}{F:Fr}{v:PV}:fL β (ae F d v)=ae (fL β F) d (fS β v):=by funext s;unfold fL ae;split<;>rfl
theorem RL{β:Nat}{F:Fr}{s:Nat}:dU β F s=cu β (F s):=rfl
theorem RM{β:Nat}{F:Fr}{s:Nat}:fL β F s=fS β (F s):=rfl
theorem Ty(W:List (Nat×Nat))(B:List Nat):bF fr (bj W fr (dM B fr)):=fun s=>by
 unfold bj dM bY;split
 ·exact .inl rfl
 ·split
  ·exact .inr rfl
  ·unfold qI gE;split
   ·exact .inr rfl
   ·exact .inr rfl
   ·exact .inr rfl
   ·exact .inr rfl
   ·split
    ·exact .inr rfl
    ·exact .inl rfl
theorem J9{sk:List It}{x:SC}(bQ:dQ R sk)(W:List (Nat×Nat))(B:List Nat)(I:Nat->Fr->HP->Prop)(m0:Nat)(h0:I m0 fr hp)
  (h:∀m J hp,I m J hp->vc C R (.c x:: .el (qv W (dM B fr) I m)::sk) (bj W J (dM B fr)) hp):vc C R (.c (.loop x)::sk) fr hp:=by
 refine ug (fun m aw hp'=>∃J,aw=bj W J (dM B fr)/\I m J hp') m0 (Ty W B).wk ⟨fr,rfl,h0⟩ ?_;rintro m _ hp' ⟨J,rfl,hI⟩;refine qo bQ.1 _ _ _ _ _ _ (Kag _) (.c x (.el ?_ bQ.2)) (bF.refl _) (h m J hp' hI);rintro f f' bu hf ⟨J2,ke,m2,e2,hl,h2⟩;exact Ca hl (hf.wk.trans e2) ⟨J2,rfl,h2⟩
def gA(l:List (Nat×Nat)):List PV:=l.map fun x=>.aq x.1 0 x.2
def Ye(d:Nat)(S:List Nat)(γ n:Nat)(x:PV)(fr:Fr):Fr:=fun s=>if s=γ then x else if S.contains s then .aE γ 0 n else bl d (fr s)
theorem Qxa{tmps:Array Value}(h:Qv C ρ fr hp tmps w){β b:Nat}{hb:HB}{l:List Nat}(hB:aI β=false)(aj:hp β=some hb)(hl:β∈l)(aZ:ρ β=some b):¬aB C ρ (bw hp l) b:=by
 have aP:=(h.own β hb aj).ca;rw[aZ]at aP;rintro(hx|⟨γ,hg,h1,h2,h3⟩)
 ·exact Ctx.yN aP.1 (sC hB) hx
 ·obtain⟨lO,g1,_,_,_,_,g6⟩:=tT h1;have:=h.inj γ β b (by simp[g1]) (by simp[aj]) h3 aZ;subst this;exact g6 h2 hl
theorem dw.snap{tmps:Array Value}(h:Qv C ρ fr hp tmps w){β o n:Nat}{v:Value}{l:List Nat}{hb:HB}(hr:dw ρ hp w β o n v)(hB:aI β=false)(hl:β∈l)(aj:hp β=some hb):Qo w (aB C ρ (bw hp l)) (.sl hb.e ((hb.xs.drop o).take n)) v:=by
 obtain⟨ao,g1,g2,g3⟩:=hr;rw[aj]at g1;cases g1;rcases g3 with⟨g3,rfl,rfl,rfl⟩|⟨b,cap,g3,rfl,g5,g6⟩
 ·simp only[Kb3];exact .gS _ _ _ (KbG _)
 ·have aY:=h.own β hb aj;have aP:=aY.ca;rw[g3]at aP;obtain⟨_,an,cur,dx,c1,c2,c3,c4,c5⟩:=aP;obtain⟨cur',ty',d1,d2⟩:=g5;rw[c1]at d1;cases d1;have fC:o+cap=dx:=by rw[c2]at d2;exact(Kbr aY.gF d2).symm
  subst fC;have hlen:((hb.xs.drop o).take n).length=n:=by simp;omega
  have dz:∀(i:Nat)(x:PV),((hb.xs.drop o).take n)[i]? =some x->i<n/\hb.xs[o+i]? =some x:=fun i x hx=>by
   have hi:i<n:=by have:=(Kad.1 hx).1;omega
   rw[Kax hi,KaR]at hx;exact⟨hi,hx⟩
  have:=Qo.sl (w:=w) (X:=aB C ρ (bw hp l)) hb.e ((hb.xs.drop o).take n) b (o*hb.e) cap (fun i j=>cur.getD ((o+i)*hb.e+j) undef) (Qxa h hB aj hl g3) an (by omega) (by omega)
   (fun i x hx=>(aY.len _ x (dz i x hx).2).1)
   (fun i hi j hj=>by rw[hlen]at hi;have:=jM (i:=o+i) (e:=hb.e) (o:=0) (j:=j) (n:=hb.e) (cap:=o+cap) (by omega) (by omega) hj;rw[KaM]at this;rw[show o*hb.e+i*hb.e+j=(o+i)*hb.e+j by rw[Kaz]];exact iu c1 (by rw[c2];exact this))
   (fun i x hx j y hy=>(c5 _ x (dz i x hx).2 j y hy).freeze)
  rwa[hlen]at this
def n4(R:Qg):Qg:=fun fr hp=>∃aw hp',Wk fr hp aw hp'/\R aw hp'
theorem yf{hp':HP}(hw:Wk fr hp aw hp')(h:R aw hp'):n4 R fr hp:=⟨aw,hp',hw,h⟩
theorem JN(h:R fr hp):n4 R fr hp:=⟨fr,hp,Wk.refl _ _,h⟩
theorem TA:KM (n4 R) (n4 R):=by rintro f f' hp hf ⟨aw,hp',h1,h2⟩;exact⟨aw,hp',hf.wk.trans h1,h2⟩
theorem Qt:dQ (n4 R) []:=⟨TA,.nil⟩
theorem TC{d γ m i:Nat}{k:IntKind}(h:i<m)(he:(hp γ).map (·.e)=some 1):aK 1 (.aE γ 0 m) (.int k (i:Int)) d fr hp K=K (ae fr d (.np γ i 0)) hp:=by
 have e:(0:Int)<=(i:Int):=by omega
 simp[aK,e,h,he]
theorem TD{d γ o m:Nat}:lH (.aE γ o m) d fr hp K=K (ae fr d (.int .i64 m)) hp:=rfl
theorem TE{e by_ ty ty' d β γ n:Nat}{xs:List PV}{y:PV}{fz:Bool}(hb:hp β=some ⟨e,ty,xs,false⟩)(hy:hp γ=some ⟨e,ty',[y],fz⟩)(h0:0<e)(hn:n=xs.length)(h1:(n+1)*by_<=140737488355328)(h2:n+1<=9223372036854775807)(hB:2000000<=β):
  fM e by_ ty (.ms β n) (.ms γ 1) d fr hp K=K (ae (dU β fr) d (.ms β (n+1))) (Qi hp β ⟨e,ty,xs++[y],false⟩):=by
 subst hn;have b1:bm β=true:=by simp[bm];omega
 have b2:aI β=false:=by simp[aI];omega
 simp[fM,gh,hy,hb,h0,b1,b2,h1,h2]
theorem H9{α:Type}{f:α->PV}{y:α}{e by_ ty ty' d β γ n:Nat}{xs:List α}{fz:Bool}(hb:hp β=some ⟨e,ty,xs.map f,false⟩)(hy:hp γ=some ⟨e,ty',[f y],fz⟩)(h0:0<e)(hn:n=xs.length)(h1:(n+1)*by_<=140737488355328)(h2:n+1<=9223372036854775807)(hB:2000000<=β):
  fM e by_ ty (.ms β n) (.ms γ 1) d fr hp K=K (ae (dU β fr) d (.ms β (n+1))) (Qi hp β ⟨e,ty,(xs++[y]).map f,false⟩):=by
 rw[TE hb hy h0 (by simp[hn]) h1 h2 hB];simp
theorem Pt{β γ o n:Nat}(h:γ≠β):cu β (.aE γ o n)= .aE γ o n:=by simp only[cu];rw[if_neg h]
theorem RN{β γ o n:Nat}(h:γ≠β):cu β (.np γ o n)= .np γ o n:=by simp only[cu];rw[if_neg h]
theorem Yf:
  (∀(β:Nat)(k:IntKind)(n:Int),cu β (.int k n)= .int k n)/\
  (∀(β:Nat)(b:Bool),cu β (.bool b)= .bool b)/\
  (∀(β e:Nat)(xs:List PV),cu β (.sl e xs)= .sl e xs)/\
  (∀(β:Nat)(cs:List PV),cu β (.agg cs)= .agg cs)/\
  (∀(β:Nat)(cs:List PV),cu β (.pt cs)= .pt cs)/\
  (∀(β:Nat),cu β .aa= .aa)/\
  (∀(β:Nat),cu β .undef= .undef)/\
  (∀(γ:Nat)(k:IntKind)(n:Int),fS γ (.int k n)= .int k n)/\
  (∀(γ:Nat)(b:Bool),fS γ (.bool b)= .bool b)/\
  (∀(γ e:Nat)(xs:List PV),fS γ (.sl e xs)= .sl e xs)/\
  (∀(γ:Nat)(cs:List PV),fS γ (.agg cs)= .agg cs)/\
  (∀(γ:Nat)(cs:List PV),fS γ (.pt cs)= .pt cs)/\
  (∀(γ:Nat),fS γ .aa= .aa)/\
  (∀(γ:Nat),fS γ .undef= .undef)/\
  (∀(γ β o n:Nat),fS γ (.aq β o n)= .aq β o n)/\
  (∀(γ β o n:Nat),fS γ (.mp β o n)= .mp β o n)/\
  (∀(γ β o n:Nat),fS γ (.rb β o n)= .rb β o n)/\
  (∀(γ β o n:Nat),fS γ (.aE β o n)= .aE β o n)/\
  (∀(γ β o n:Nat),fS γ (.np β o n)= .np β o n)/\
  (∀(β γ o n:Nat),bl β (.aE γ o n)= .aE γ o n)/\
  (∀(β γ o n:Nat),bl β (.np γ o n)= .np γ o n)/\
  (∀(β γ e ty:Nat)(xs:List PV),bl β (.aC γ e ty xs)= .aC γ e ty xs)/\
  (∀(β:Nat),bl β .undef= .undef)/\
  (∀(β:Nat)(cs:List PV),bl β (.pt cs)= .pt cs):=by
 refine⟨?_,?_,?_,?_,?_,?_,?_,?_,?_,?_,?_,?_,?_,?_,?_,?_,?_,?_,?_,?_,?_,?_,?_,?_⟩<;>intros<;>rfl
theorem RO(β γ o n:Nat):cu β (.aq γ o n)=if γ=β then .undef else .aq γ o n:=Ki β γ o n
theorem RP(β γ o n:Nat):cu β (.mp γ o n)=if γ=β then .undef else .mp γ o n:=Kj β γ o n
end Go.FW
namespace Go.FW
open Go
variable {C : Ctx} {ρ : Nat -> Option Nat} {fr aw : Fr} {hp : HP} {w : World} {K R : Qg}
theorem SS{F:Fr}{s:Nat}:qI F s=gE (F s):=rfl
theorem Yh:
  (∀(k:IntKind)(n:Int),gE (.int k n)= .int k n)/\
  (∀(b:Bool),gE (.bool b)= .bool b)/\
  (∀(e:Nat)(xs:List PV),gE (.sl e xs)= .sl e xs)/\
  (∀(cs:List PV),gE (.agg cs)= .agg cs)/\
  (∀(cs:List PV),gE (.pt cs)= .pt cs)/\
  (gE .aa= .aa)/\(gE .undef= .undef)/\
  (∀(β o n:Nat),gE (.aq β o n)=if gP β then .undef else .aq β o n)/\
  (∀(β o n:Nat),gE (.mp β o n)=if gP β then .undef else .mp β o n)/\
  (∀(β o n:Nat),gE (.rb β o n)=if gP β then .undef else .rb β o n)/\
  (∀(β o n:Nat),gE (.aE β o n)=if iS β then .undef else .aE β o n)/\
  (∀(β o n:Nat),gE (.np β o n)=if iS β then .undef else .np β o n):=by
 refine⟨fun _ _=>rfl,fun _=>rfl,fun _ _=>rfl,fun _=>rfl,fun _=>rfl,rfl,rfl,?_,?_,?_,?_,?_⟩<;>intros<;>simp[gE,PV.refs,PV.aJ]
theorem WJ{β:Nat}:iS β=(gP β||decide (β<1000000)):=rfl
theorem WK{β:Nat}:gP β=decide (2000000<=β):=rfl
theorem RQ{d γ n:Nat}{S:List Nat}{x:PV}{s:Nat}:Ye d S γ n x fr s=if s=γ then x else if S.contains s then .aE γ 0 n else bl d (fr s):=rfl
theorem SU{by_ ty d:Nat}{k k':IntKind}{n c:Nat}(h2:n<=c)(h3:by_*c<=281474976710656)(h4:c<=9223372036854775807):
  ks 1 by_ ty .aa (.int k (n:Int)) (.int k' (c:Int)) d fr hp K=K (ae (bB d fr) d (.ms d n)) (Qi hp d ⟨1,ty,List.replicate n .aa,false⟩):=by
 rw[yF (e:=1) (by omega) rfl (by omega) (by omega) (by omega) (by omega)];rfl
theorem WL{k c:Nat}(h:c<3000000):(3000000+k=c)=False:=by simp;omega
theorem SV{k c:Nat}(h:c<3000000):(c=3000000+k)=False:=by simp;omega
theorem WM{k j:Nat}:(3000000+k=3000000+j)=(k=j):=by simp
attribute [go_sem] WL SV WM SU RQ OZ O0 O1 O2 RL RM JL JM Yf RO RP Pt RN TC TD SS Yh WJ WK
end Go.FW
namespace Go.FW
open Go
variable {C C' : Ctx} {ρ ρ' : Nat -> Option Nat} {fr aw : Fr} {hp hp' : HP} {w : World} {K R : Qg}
theorem cO{sk:List It}{r:RT}{aG:Fr}{au:HP}(hw:Wk fr hp aG au)(h:vc C R (.o r::sk) aG au):vc C R (.o (.wk r)::sk) fr hp:=by rw[yq];exact⟨aG,au,hw,h⟩
def cB(σ:Nat->Nat):PV->PV
 |.mp β i o=>.mp (σ β) i o
 |.aq β o n=>.aq (σ β) o n
 |.rb β o n=>.rb (σ β) o n
 |.np β i o=>.np (σ β) i o
 |.aE β o n=>.aE (σ β) o n
 |p=>p
def cc(σ:Nat->Nat):PV->PV
 |.fn f a b=>.fn f (a.map (cB σ)) (b.map (cB σ))
 |.aH cs=>.aH (cs.map (cB σ))
 |.dk cs=>.dk (cs.map (cB σ))
 |.cm cs q=>.cm (cs.map (cB σ)) q
 |.aC γ e ty xs=>.aC (σ γ) e ty (xs.map fun x=>ep (x.aQ.map (cB σ)))
 |p=>cB σ p
structure pg(σ:Nat->Nat)(ρ ρ':Nat->Option Nat)(hp hp':HP)(β:Nat):Prop where
 r:ρ' (σ β)=ρ β
 h:∀hb,hp β=some hb->∃cq,hp' (σ β)=some cq/\cq.e=hb.e/\cq.ty=hb.ty/\cq.xs=hb.xs
 b:bm β=true->bm (σ β)=true
theorem Qo.cB{X:Nat->Prop}{σ:Nat->Nat}{p:PV}{v:Value}(h:Qo w X p v):FW.cB σ p=p:=by cases h<;>rfl
theorem dw.eJ{σ:Nat->Nat}{β o n:Nat}{v:Value}(h:dw ρ hp w β o n v)(hr:pg σ ρ ρ' hp hp' β):dw ρ' hp' w (σ β) o n v:=by obtain⟨hb,h1,h2,h3⟩:=h;obtain⟨ao,k1,k2,k3,k4⟩:=hr.h hb h1;refine⟨ao,k1,by rw[k4];exact h2,?_⟩;rw[hr.r,k2];exact h3
theorem kK.eJ{σ:Nat->Nat}{γ o n:Nat}{v:Value}(h:kK ρ hp w γ o n v)(hr:pg σ ρ ρ' hp hp' γ):kK ρ' hp' w (σ γ) o n v:=by obtain⟨h0,hb,b,cap,h1,h2,h3⟩:=h;obtain⟨ao,k1,k2,k3,k4⟩:=hr.h hb h1;exact⟨hr.b h0,ao,b,cap,k1,by rw[hr.r];exact h2,by rw[k2];exact h3⟩
theorem Qo.sub{X X':Nat->Prop}{p:PV}{v:Value}(h:Qo w X p v)(hX:∀b,X' b->X b):Qo w X' p v:=h.mono (fun _ _ _=>rfl) (fun b _ hn hx=>hn (hX b hx)) (Kag _)
theorem b8.eJ{σ:Nat->Nat}{p:PV}{v:Value}(h:b8 C ρ hp w p v)(hX:∀b,aB C' ρ' hp' b->aB C ρ hp b)(hr:∀β∈p.cG,pg σ ρ ρ' hp hp' β):b8 C' ρ' hp' w (cB σ p) v:=by
 cases p with
 |undef=>trivial
 |aq β o n=>exact⟨(hr β (by simp[PV.cG])).b h.1,h.2.eJ (hr β (by simp[PV.cG]))⟩
 |aE γ o n=>exact kK.eJ h (hr γ (by simp[PV.cG]))
 |mp=>cases h
 |rb=>cases h
 |np=>cases h
 |_=>exact Qo.sub h hX
theorem cg.eJ{σ:Nat->Nat}{p:PV}{v:Value}(h:cg C ρ hp w p v)(hX:∀b,aB C' ρ' hp' b->aB C ρ hp b)(hr:∀β∈p.bg++p.dj,pg σ ρ ρ' hp hp' β):cg C' ρ' hp' w (cB σ p) v:=by
 cases p with
 |mp β i o=>have hq:=hr β (by simp[PV.bg]);obtain⟨b,hb,h1,h2,h3⟩:=h;obtain⟨ao,k1,k2,k3,k4⟩:=hq.h hb h2;exact⟨b,ao,by rw[hq.r];exact h1,k1,by rw[k2];exact h3⟩
 |aq β o n=>exact dw.eJ h (hr β (by simp[PV.bg]))
 |rb β o n=>obtain⟨b,u,h1,h2,h3,h4,h5⟩:=h;exact⟨b,u,h1,h2,fun hx=>h3 (hX b hx),h4,h5.eJ (hr β (by simp[PV.bg]))⟩
 |np γ i o=>have hq:=hr γ (by simp[PV.bg,PV.dj]);obtain⟨h0,b,hb,h1,h2,h3⟩:=h;obtain⟨ao,k1,k2,k3,k4⟩:=hq.h hb h2;exact⟨hq.b h0,b,ao,by rw[hq.r];exact h1,k1,by rw[k2];exact h3⟩
 |aE γ o n=>exact kK.eJ h (hr γ (by simp[PV.bg,PV.dj]))
 |_=>exact Qo.sub h hX
theorem Ia{cs:List PV}(h:∀c∈cs,(∀ds,c≠ .agg ds)/\∀ds,c≠ .aH ds):(ep cs).aQ=cs:=by
 match cs,h with
 | [],_=>rfl
 | [c],h=>
  obtain⟨h1,h2⟩:=h c (by simp);cases c with
  |agg ds=>exact absurd rfl (h1 ds)
  |aH ds=>exact absurd rfl (h2 ds)
  |_=>rfl
 |c::d::cs,_=>simp only[ep,kE];split<;>rfl
theorem b8.one{p:PV}{v:Value}(h:b8 C ρ hp w p v):(∀ds,p≠ .agg ds)/\∀ds,p≠ .aH ds:=by refine⟨fun ds e=>?_,fun ds e=>?_⟩<;>subst e<;>cases h
theorem Qj.eJ{σ:Nat->Nat}{p:PV}{v:Value}(h:Qj C ρ hp w p v)(hX:∀b,aB C' ρ' hp' b->aB C ρ hp b)(hr:∀β∈p.refs++p.aJ,pg σ ρ ρ' hp hp' β):Qj C' ρ' hp' w (cc σ p) v:=by
 have hV:∀q u,Qo w (aB C ρ hp) q u->Qo w (aB C' ρ' hp') q u:=fun q u hq=>Qo.sub hq hX;cases p with
 |undef=>trivial
 |mp β i o=>exact cg.eJ (w:=w) (p:=.mp β i o) h hX (by simpa[PV.refs,PV.aJ,PV.bg,PV.dj]using hr)
 |aq β o n=>exact cg.eJ (w:=w) (p:=.aq β o n) h hX (by simpa[PV.refs,PV.aJ,PV.bg,PV.dj]using hr)
 |rb β o n=>exact cg.eJ (w:=w) (p:=.rb β o n) h hX (by simpa[PV.refs,PV.aJ,PV.bg,PV.dj]using hr)
 |np γ i o=>exact cg.eJ (w:=w) (p:=.np γ i o) h hX (by simpa[PV.refs,PV.aJ,PV.bg,PV.dj]using hr)
 |aE γ o n=>exact cg.eJ (w:=w) (p:=.aE γ o n) h hX (by simpa[PV.refs,PV.aJ,PV.bg,PV.dj]using hr)
 |aH cs=>obtain⟨vs,rfl,h1,h2⟩:=h;refine⟨vs,rfl,by simpa using h1,fun i x hi=>?_⟩;simp only[Kap,Kaa]at hi;obtain⟨y,hy,rfl⟩:=hi;exact(h2 i y hy).eJ hX fun β aj=>hr β (Kbh _ (Kan.2 ⟨y,Kah hy,aj⟩))
 |dk cs=>obtain⟨vs,rfl,h1,h2⟩:=h;refine⟨vs,rfl,by simpa using h1,fun i x hi=>?_⟩;simp only[Kap,Kaa]at hi;obtain⟨y,hy,rfl⟩:=hi;exact(h2 i y hy).eJ hX fun β aj=>hr β (Kbh _ (Kan.2 ⟨y,Kah hy,aj⟩))
 |cm cs q=>obtain⟨vs,u,rfl,h1,h2,h3⟩:=h;refine⟨vs,u,rfl,by simpa using h1,fun i x hi=>?_,h3.mono (fun _ _ _=>rfl) (fun b _ hn hx=>hn (hX b hx)) (Kag _)⟩;simp only[Kap,Kaa]at hi;obtain⟨y,hy,rfl⟩:=hi;exact(h2 i y hy).eJ hX fun β aj=>hr β (Kbh _ (Kan.2 ⟨y,Kah hy,aj⟩))
 | aC γ e ty xs=>
  obtain⟨h0,he,b,hb,cur,cap,h1,h2,h3,h4,h5,h6,h7,h8,h9,bC,cD⟩:=h;have hq:=hr γ (by simp[PV.aJ]);have key:∀(i:Nat)(x:PV),xs[i]? =some x->∀(j:Nat)(y:PV),x.aQ[j]? =some y->b8 C' ρ' hp' w (cB σ y) (cur.getD (i*e+j) undef):=fun i x hx j y hy=>
   (cD i x hx j y hy).eJ hX fun β aj=>hr β (Kbh _ (KbA _ (Kan.2 ⟨x,Kah hx,Kan.2 ⟨y,Kah hy,aj⟩⟩)))
  have ny:∀(i:Nat)(x:PV),xs[i]? =some x->(ep (x.aQ.map (cB σ))).aQ=x.aQ.map (cB σ):=fun i x hx=>by refine Ia fun c hc=>?_;obtain⟨y,hy,rfl⟩:=KaL.1 hc;obtain⟨j,hj⟩:=Kau hy;exact(key i x hx j y hj).one
  obtain⟨ao,k1,k2,k3,k4⟩:=hq.h hb h2;refine⟨hq.b h0,he,b,ao,cur,cap,by rw[hq.r];exact h1,k1,by rw[k4];exact h3,by rw[k2];exact h4,by rw[k3];exact h5,h6,h7,by simpa using h8,h9,fun i x hx=>?_,fun i x hx j y hy=>?_⟩
  ·simp only[Kap,Kaa]at hx;obtain⟨x0,bf,rfl⟩:=hx;rw[ny i x0 bf,Ka3];exact bC i x0 bf
  ·simp only[Kap,Kaa]at hx;obtain⟨x0,bf,rfl⟩:=hx;rw[ny i x0 bf,Kap,Kaa]at hy;obtain⟨y0,cF,rfl⟩:=hy;exact key i x0 bf j y0 cF
 | fn f first cap=>
  obtain⟨fv,cv,rfl,h1,h2,h3,h4⟩:=h;have hm:∀(l:List PV)(x:PV),x∈l->∀β∈x.bg++x.dj,β∈l.flatMap PV.bg++l.flatMap PV.dj:=fun l x hx β aj=>by
   rcases KaT.1 aj with aj|aj
   ·exact KbS _ (Kan.2 ⟨x,hx,aj⟩)
   ·exact Kbh _ (Kan.2 ⟨x,hx,aj⟩)
  refine⟨fv,cv,rfl,by simpa using h1,by simpa using h2,fun i x hi=>?_,fun i x hi=>?_⟩
  ·simp only[Kap,Kaa]at hi;obtain⟨y,hy,rfl⟩:=hi;refine(h3 i y hy).eJ hX fun β aj=>hr β ?_;have:=hm first y (Kah hy) β aj
   simp only[PV.refs,PV.aJ,KaT]at this⊢;rcases this with h|h
   ·exact .inl (.inl h)
   ·exact .inr (.inl h)
  ·simp only[Kap,Kaa]at hi;obtain⟨y,hy,rfl⟩:=hi;refine(h4 i y hy).eJ hX fun β aj=>hr β ?_;have:=hm cap y (Kah hy) β aj;simp only[PV.refs,PV.aJ,KaT]at this⊢;rcases this with h|h
   ·exact .inl (.inr h)
   ·exact .inr (.inr h)
 |agg cs=>exact dC.move (p:=.agg cs) h hV
 |aO cs=>exact dC.move (p:=.aO cs) h hV
 |_=>exact hV _ _ h
theorem WN(σ τ:Nat->Nat)(h1:∀β hb,hp β=some hb->hp' (σ β)=some hb/\τ (σ β)=β)(h2:∀γ hb,hp' γ=some hb->hp (τ γ)=some hb/\σ (τ γ)=γ)
  (hB:∀β,hp β≠none->bm β=true->bm (σ β)=true) (hY:∀β,hp β≠none->aI (σ β)=aI β/\(aI β=true->σ β=β)) (hf:∀s,aw s=cc σ (fr s)∨aw s= .undef):Wk fr hp aw hp':=by
 rintro C tmps w ⟨ρ,hs⟩;obtain⟨ρ',aZ⟩:∃f:Nat->Option Nat,f=fun γ=>if hp' γ=none then none else ρ (τ γ):=⟨_,rfl⟩
 have hr:∀β,hp β≠none->pg σ ρ ρ' hp hp' β:=fun β aj=>by obtain⟨hb,hq⟩:=Kbe.1 aj;obtain⟨a1,a2⟩:=h1 β hb hq;refine⟨?_,(fun hb hq=>⟨hb,(h1 β hb hq).1,rfl,rfl,rfl⟩),hB β aj⟩;rw[aZ];simp only[];rw[if_neg (by rw[a1];simp),a2]
 have ao:∀γ hb,hp' γ=some hb->ρ' γ=ρ (τ γ):=fun γ hb hq=>by rw[aZ];simp only[];rw[if_neg (by rw[hq];simp)]
 have hX:∀b,aB C ρ' hp' b->aB C ρ hp b:=by
  rintro b (hx|⟨γ,hg,g1,g2,g3⟩)
  ·exact .inl hx
  ·rw[ao γ hg g1]at g3;exact .inr ⟨τ γ,hg,(h2 γ hg g1).1,g2,g3⟩
 refine⟨ρ',hs.sz,hs.ext,hs.dK,fun γ hb ah=>?_,fun γ δ b g1 g2 g3 g4=>?_,fun i=>?_⟩
 ·obtain⟨a1,a2⟩:=h2 γ hb ah;obtain⟨q1,q2,q3,q4,q5⟩:=hs.own (τ γ) hb a1;obtain⟨y1,y2⟩:=hY (τ γ) (by simp[a1]);rw[a2]at y1 y2;refine⟨q1,q2,?_,fun hy=>?_,fun hR=>?_⟩
  rotate_left
  rotate_left
  ·have hy:aI γ=true:=by simp[dJ]at hR;simp[aI];omega
   have e:=y2 (by rw[<-y1];exact hy);exact q5 (by rw[<-e];exact hR)
  ·rw[ao γ hb ah];cases hq:ρ (τ γ)with
   |none=>rw[hq]at q3;exact q3
   |some b=>
    rw[hq]at q3;refine⟨?_,q3.2.1,q3.2.2.move rfl rfl rfl rfl fun q u hq=>Qo.sub hq hX⟩;have:=q3.1;unfold Ctx.cls at this⊢;rw[y1];split at this
    ·rename_i hy;rw[if_pos hy,y2 hy];exact this
    ·rename_i hy;rw[if_neg hy];exact this
  ·rw[ao γ hb ah,q4 (by rw[<-y1];exact hy),<-y2 (by rw[<-y1];exact hy)]
 ·obtain⟨x1,k1⟩:=Kbe.1 g1;obtain⟨x2,k2⟩:=Kbe.1 g2;rw[ao γ x1 k1]at g3;rw[ao δ x2 k2]at g4;have:=hs.inj (τ γ) (τ δ) b (by rw[(h2 γ x1 k1).1];simp) (by rw[(h2 δ x2 k2).1];simp) g3 g4;rw[<-(h2 γ x1 k1).2,<-(h2 δ x2 k2).2,this]
 ·have a9:=hs.cd i;rcases hf i with e|e
  ·rw[e];exact a9.eJ hX fun β aj=>hr β (by
    rcases KaT.1 aj with h|h
    ·exact a9.known.1 β h
    ·exact a9.known.2 β h)
  ·rw[e];trivial
def lh(β δ x:Nat):Nat:=if x=β then δ else x
def mR(β δ:Nat)(fr:Fr):Fr:=fun s=>cc (lh β δ) (fr s)
def zL(β δ:Nat)(hp:HP):HP:=fun x=>if x=δ then hp β else if x=β then none else hp x
theorem ni(β δ:Nat)(ko:hp δ=none)(h2:2000000<=δ)(hY:aI β=false)(bh:β≠δ):Wk fr hp (mR β δ fr) (zL β δ hp):=by
 have bδ:bm δ=true:=by simp[bm];omega
 have yδ:aI δ=false:=by simp[aI];omega
 refine WN (lh β δ) (fun y=>if y=δ then β else y) (fun x hb hx=>?_) (fun y hb hy=>?_) (fun x hx hb=>?_) (fun x hx=>?_) (fun s=>.inl rfl)
 ·unfold lh zL;by_cases e:x=β
  ·subst e;simp[hx]
  ·have e2:x≠δ:=fun e2=>by rw[e2,ko]at hx;cases hx
   simp[e,e2,hx]
 ·unfold zL at hy;unfold lh;by_cases e:y=δ
  ·subst e;simp at hy;simp[hy]
  ·rw[if_neg e]at hy;by_cases e2:y=β
   ·rw[if_pos e2]at hy;cases hy
   ·rw[if_neg e2]at hy;simp[e,e2,hy]
 ·unfold lh;split
  ·exact bδ
  ·exact hb
 ·unfold lh;split
  ·rename_i e;subst e;rw[yδ,hY];simp
  ·simp
theorem WO{β δ x:Nat}:zL β δ hp x=if x=δ then hp β else if x=β then none else hp x:=rfl
theorem WR{β δ s:Nat}:mR β δ fr s=cc (lh β δ) (fr s):=rfl
theorem WS{β δ x:Nat}:lh β δ x=if x=β then δ else x:=rfl
theorem SW{β δ d:Nat}{v:PV}:mR β δ (ae fr d v)=ae (mR β δ fr) d (cc (lh β δ) v):=by funext s;unfold mR ae;split<;>rfl
theorem SX{W:List (Nat×Nat)}{β δ:Nat}{J F:Fr}:mR β δ (bj W J F)=bj W (mR β δ J) (mR β δ F):=by funext s;unfold mR bj;split<;>rfl
theorem Hb{σ:Nat->Nat}{p:PV}(h:∀β∈p.bg++p.dj,σ β=β):cB σ p=p:=by
 cases p with
 |mp β=>simp only[cB];rw[h β (by simp[PV.bg])]
 |aq β=>simp only[cB];rw[h β (by simp[PV.bg])]
 |rb β=>simp only[cB];rw[h β (by simp[PV.bg])]
 |np β=>simp only[cB];rw[h β (by simp[PV.bg,PV.dj])]
 |aE β=>simp only[cB];rw[h β (by simp[PV.bg,PV.dj])]
 |_=>rfl
theorem SY{σ:Nat->Nat}{p:PV}(h:oI p)(oC:∀β∈p.refs++p.aJ,σ β=β):cc σ p=p:=by
 have hm:∀(l:List PV),(∀β∈l.flatMap PV.bg++l.flatMap PV.dj,σ β=β)->l.map (cB σ)=l:=fun l hl=>by
  conv=>rhs;rw[<-List.map_id l]
  refine KaV fun x hx=>Hb fun β aj=>hl β ?_;rcases KaT.1 aj with aj|aj
  ·exact KbS _ (Kan.2 ⟨x,hx,aj⟩)
  ·exact Kbh _ (Kan.2 ⟨x,hx,aj⟩)
 cases p with
 |aC γ e ty xs=>exact absurd rfl (h.2.2.1 _ _ _ _)
 |aH cs=>exact absurd rfl (h.2.2.2 _).1
 |dk cs=>exact absurd rfl (h.2.2.2 _).2.1
 |cm cs q=>exact absurd rfl ((h.2.2.2 _).2.2 _)
 | fn f a b=>
  simp only[cc];rw[hm a,hm b]
  ·intro β aj;refine oC β ?_;simp only[PV.refs,PV.aJ,KaT]at aj⊢;rcases aj with h|h
   ·exact .inl (.inr h)
   ·exact .inr (.inr h)
  ·intro β aj;refine oC β ?_;simp only[PV.refs,PV.aJ,KaT]at aj⊢;rcases aj with h|h
   ·exact .inl (.inl h)
   ·exact .inr (.inl h)
 |mp β=>simp only[cc,cB];rw[oC β (by simp[PV.refs])]
 |aq β=>simp only[cc,cB];rw[oC β (by simp[PV.refs])]
 |rb β=>simp only[cc,cB];rw[oC β (by simp[PV.refs])]
 |np β=>simp only[cc,cB];rw[oC β (by simp[PV.refs,PV.aJ])]
 |aE β=>simp only[cc,cB];rw[oC β (by simp[PV.refs,PV.aJ])]
 |_=>rfl
theorem Rs{B:List Nat}{F:Fr}{s β:Nat}(h:β∈(dM B F s).refs):B.contains β=false:=by
 cases hq:B.contains β with
 |false=>rfl
 |true=>
  unfold dM bY at h;split at h
  ·cases h
  ·rename_i hn;exact absurd (KaP.2 ⟨β,h,hq⟩) hn
theorem SZ{B:List Nat}{F:Fr}{β δ:Nat}(aj:B.contains β=true∨2000000<=β)(afg:β<1000000∨2000000<=β):mR β δ (dM B F)=dM B F:=by
 funext s;have hc:=uI B F s;refine SY hc fun x hx=>if_neg fun e=>?_;subst e;rcases aj with aj|aj
 ·rcases KaT.1 hx with h|h
  ·rw[Rs h]at aj;cases aj
  ·have h1:=hc.2.1 x h;simp[iS,gP]at h1;omega
 ·rcases KaT.1 hx with h|h
  ·have:=hc.1 x h;simp[gP]at this;omega
  ·have:=hc.2.1 x h;simp[iS,gP]at this;omega
end Go.FW
namespace Go.FW
open Go
variable {C C' : Ctx} {ρ ρ' : Nat -> Option Nat} {fr aw : Fr} {hp hp' : HP} {w : World} {K R : Qg}
def dE(γ:Nat):PV->PV
 |.aq β o n=>if β=γ then .aE γ o n else .aq β o n
 |.mp β i o=>if β=γ then .np γ i o else .mp β i o
 |.rb β o n=>if β=γ then .undef else .rb β o n
 |p=>p
def cL(γ:Nat):PV->PV
 |.fn f a b=>bl γ (.fn f a b)
 |.aH cs=>.aH (cs.map (dE γ))
 |.dk cs=>.dk (cs.map (dE γ))
 |.cm cs q=>.cm (cs.map (dE γ)) q
 |.aC aS e ty xs=>if aS=γ then .undef else .aC aS e ty (xs.map fun x=>ep (x.aQ.map (dE γ)))
 |p=>dE γ p
def sW(γ:Nat)(x:PV)(fr:Fr):Fr:=fun s=>if s=γ then x else cL γ (fr s)
theorem nc {γ e ty:Nat} {xs:List PV} {fz:Bool} (ah:hp γ=some ⟨e,ty,xs,fz⟩) (h0:xs≠[]) (h2:2000000<=γ) (hd:∀x∈xs,x.aQ=x.cells):Wk fr hp (sW γ (.aC γ e ty xs) fr) (Qi hp γ ⟨e,ty,[],fz⟩):=by
 rintro C tmps w ⟨ρ,hs⟩;have sZ:bm γ=true:=by simp[bm];omega
 have aY:=hs.own γ _ ah;have aP:=aY.ca;obtain⟨b,aZ⟩:∃b,ρ γ=some b:=by
  cases hq:ρ γ with
  |none=>rw[hq]at aP;exact absurd aP h0
  |some b=>exact⟨b,rfl⟩
 rw[aZ]at aP;obtain⟨b1,b2,cur,cap,c1,c2,c3,c4,c5⟩:=aP;have gF:=aY.gF;obtain⟨hp',jy⟩:∃f,f=Qi hp γ ⟨e,ty,[],fz⟩:=⟨_,rfl⟩
 rw[<-jy];have oD:hp' γ=some ⟨e,ty,[],fz⟩:=by rw[jy];simp[Qi]
 have po:∀β,β≠γ->hp' β=hp β:=fun β aj=>by rw[jy];simp[Qi,aj]
 have hX:aB C ρ hp'=aB C ρ hp:=by
  funext c;apply propext;constructor
  ·rintro(hx|⟨β,hb,g1,g2,g3⟩)
   ·exact .inl hx
   ·by_cases aj:β=γ
    ·subst aj;rw[oD]at g1;cases g1;exact .inr ⟨β,_,ah,g2,g3⟩
    ·rw[po β aj]at g1;exact .inr ⟨β,hb,g1,g2,g3⟩
  ·rintro(hx|⟨β,hb,g1,g2,g3⟩)
   ·exact .inl hx
   ·by_cases aj:β=γ
    ·subst aj;rw[ah]at g1;cases g1;exact .inr ⟨β,_,oD,g2,g3⟩
    ·exact .inr ⟨β,hb,by rw[po β aj];exact g1,g2,g3⟩
 have aW:jg w w (aB C ρ hp) (aB C ρ hp'):=by rw[hX];exact⟨fun _ _ _=>rfl,fun _ _ hn=>hn,Kag _⟩
 have c0:∀β,β≠γ->ll ρ ρ hp hp' w w β:=fun β aj=>⟨rfl,fun hb hq=>⟨hb,by rw[po β aj];exact hq,rfl,Kag _,fun _ _ _ h=>h,fun h=>⟨h,rfl,fun _ _=>rfl⟩⟩⟩
 have wO:∀ {o n:Nat} {v:Value},dw ρ hp w γ o n v->kK ρ hp' w γ o n v:=by
  rintro o n v ⟨hb,g1,g2,g3⟩;rw[ah]at g1;cases g1;rcases g3 with⟨g3,_⟩|⟨b',cp,g3,g4,g5,g6⟩
  ·rw[aZ]at g3;cases g3
  ·rw[aZ]at g3;cases g3;refine⟨sZ,_,b,cp,oD,aZ,g4,g5,g6,?_⟩;obtain⟨cur',ty',d1,d2⟩:=g5;rw[c1]at d1;cases d1;have:cap=o+cp:=Kbr gF (by rw[<-c2,<-d2]);simp only at g2 c3;omega
 have cell:∀ {p:PV} {v:Value},b8 C ρ hp w p v->b8 C ρ hp' w (dE γ p) v:=by
  intro p v h;cases p with
  |aq β o n=>
   by_cases aj:β=γ
   ·subst aj;simp only[dE,if_true];exact wO h.2
   ·simp only[dE,if_neg aj];exact b8.move (p:=.aq β o n) h aW fun x hx=>by simp[PV.cG]at hx;subst hx;exact(c0 _ aj).tJ
  | aE β o n=>
   by_cases aj:β=γ
   ·obtain⟨_,hb,b',cp,k1,k2,k3,k4,k5,k6⟩:=h;subst aj;rw[ah]at k1;cases k1;exact⟨sZ,_,b',cp,oD,k2,k3,k4,k5,k6⟩
   ·exact b8.move (p:=.aE β o n) h aW fun x hx=>by simp[PV.cG]at hx;subst hx;exact(c0 _ aj).tJ
  |mp=>cases h
  |rb=>cases h
  |np=>cases h
  |undef=>trivial
  |_=>exact b8.move h aW (fun x hx=>by cases hx)
 refine⟨ρ,hs.sz,hs.ext,hs.dK,fun β hb aj=>?_,fun β δ c g1 g2 g3 g4=>?_,fun i=>?_⟩
 ·by_cases hq:β=γ
  ·subst hq;rw[oD]at aj;cases aj;refine⟨gF,(fun i x hx=>by simp at hx),?_,aY.fix,aY.ro⟩;rw[aZ];exact⟨b1,b2,cur,cap,c1,c2,KbG _,c4,fun i x hx=>by simp at hx⟩
  ·rw[po β hq]at aj;obtain⟨q1,q2,q3,q4,q5⟩:=hs.own β hb aj;refine⟨q1,q2,?_,q4,q5⟩;cases hr:ρ β with
   |none=>rw[hr]at q3;exact q3
   |some c=>rw[hr]at q3;exact⟨q3.1,q3.2.1,q3.2.2.move rfl rfl rfl rfl aW.rc⟩
 ·have f:∀β,hp' β≠none->hp β≠none:=fun β aj=>by
   by_cases hq:β=γ
   ·subst hq;simp[ah]
   ·rwa[po β hq]at aj
  exact hs.inj β δ c (f β g1) (f δ g2) g3 g4
 ·have a9:=hs.cd i;show Qj C ρ hp' w (sW γ (.aC γ e ty xs) fr i) _;unfold sW;split
  ·refine⟨sZ,gF,b,_,cur,cap,aZ,oD,rfl,rfl,rfl,c1,c2,c3,c4,fun k x hx=>?_,fun k x hx j y hy=>?_⟩
   ·rw[hd x (Kah hx)];exact(aY.len k x hx).1
   ·rw[hd x (Kah hx)]at hy;have:=c5 k x hx j y hy;have h3:Qo w (aB C ρ hp') y (cur.getD (k*e+j) undef):=by rw[hX];exact this
    cases y with
    |undef=>trivial
    |aq=>cases h3
    |aE=>cases h3
    |_=>exact h3
  ·generalize fr i=p at a9;cases p with
   |aq β o n=>
    by_cases aj:β=γ
    ·subst aj;simp only[cL,dE,if_true];exact wO a9
    ·simp only[cL,dE,if_neg aj];exact Qj.lX a9 aW (fun x hx=>by simp[PV.refs]at hx;subst hx;exact(c0 _ aj).o) (fun x hx=>by cases hx)
   | mp β k o=>
    by_cases aj:β=γ
    ·subst aj;simp only[cL,dE,if_true];obtain⟨b',hb,g1,g2,g3⟩:=a9;rw[ah]at g2;cases g2;exact⟨sZ,b',_,g1,oD,g3⟩
    ·simp only[cL,dE,if_neg aj];exact Qj.lX a9 aW (fun x hx=>by simp[PV.refs]at hx;subst hx;exact(c0 _ aj).o) (fun x hx=>by cases hx)
   |rb β o n=>
    by_cases aj:β=γ
    ·simp only[cL,dE,if_pos aj];trivial
    ·simp only[cL,dE,if_neg aj];exact Qj.lX a9 aW (fun x hx=>by simp[PV.refs]at hx;subst hx;exact(c0 _ aj).o) (fun x hx=>by cases hx)
   | np β k o=>
    by_cases aj:β=γ
    ·subst aj;obtain⟨_,b',hb,g1,g2,g3⟩:=a9;rw[ah]at g2;cases g2;exact⟨sZ,b',_,g1,oD,g3⟩
    ·refine Qj.lX (p:=.np β k o) a9 aW (fun x hx=>by cases hx) (fun x hx=>?_);have e1:x=β:=by simpa[PV.aJ]using hx
     rw[e1];exact c0 _ aj
   |aE β o n=>exact cell (p:=.aE β o n) a9
   |aH cs=>obtain⟨vs,e1,h1,h3⟩:=a9;refine⟨vs,e1,by simpa using h1,fun k x hk=>?_⟩;simp only[Kap,Kaa]at hk;obtain⟨y,hy,rfl⟩:=hk;exact cell (h3 k y hy)
   |dk cs=>obtain⟨vs,e1,h1,h3⟩:=a9;refine⟨vs,e1,by simpa using h1,fun k x hk=>?_⟩;simp only[Kap,Kaa]at hk;obtain⟨y,hy,rfl⟩:=hk;exact cell (h3 k y hy)
   |cm cs q=>obtain⟨vs,u,e1,h1,h3,h4⟩:=a9;refine⟨vs,u,e1,by simpa using h1,fun k x hk=>?_,h4.mono aW.ca aW.out aW.size⟩;simp only[Kap,Kaa]at hk;obtain⟨y,hy,rfl⟩:=hk;exact cell (h3 k y hy)
   | aC β e' ty' ys=>
    simp only[cL];split
    ·trivial
    ·rename_i aj;obtain⟨k0,he,b',hb,cur',dx,k1,k2,k3,k4,k5,k6,k7,k8,k9,wB,tA⟩:=a9;have ny:∀(k:Nat)(x:PV),ys[k]? =some x->(ep (x.aQ.map (dE γ))).aQ=x.aQ.map (dE γ):=fun k x hx=>by refine Ia fun c hc=>?_;obtain⟨y,hy,rfl⟩:=KaL.1 hc;obtain⟨j,hj⟩:=Kau hy;exact(cell (tA k x hx j y hj)).one
     refine⟨k0,he,b',hb,cur',dx,k1,by rw[po β aj];exact k2,k3,k4,k5,k6,k7,by simpa using k8,k9,fun k x hx=>?_,fun k x hx j y hy=>?_⟩
     ·simp only[Kap,Kaa]at hx;obtain⟨x0,bf,rfl⟩:=hx;rw[ny k x0 bf,Ka3];exact wB k x0 bf
     ·simp only[Kap,Kaa]at hx;obtain⟨x0,bf,rfl⟩:=hx;rw[ny k x0 bf,Kap,Kaa]at hy;obtain⟨y0,cF,rfl⟩:=hy;exact cell (tA k x0 bf j y0 cF)
   | fn f a c=>
    simp only[cL,bl];split
    ·trivial
    ·rename_i hn;have v5:γ ∉ (PV.fn f a c).refs:=by simpa using hn
     by_cases hm:γ∈(PV.fn f a c).aJ
     ·
      obtain⟨fv,cv,g1,g2,g3,g4,g5⟩:=a9;have yM:∀ {x:PV} {v:Value},γ ∉ x.bg->cg C ρ hp w x v->cg C ρ hp' w x v:=by
       intro x v hx h;cases x with
       | np β k o=>
        by_cases aj:β=γ
        ·subst aj;obtain⟨_,b',hb,k1,k2,k3⟩:=h;rw[ah]at k2;cases k2;exact⟨sZ,b',_,k1,oD,k3⟩
        ·exact cg.move (p:=.np β k o) h aW (fun x hx=>by cases hx) (fun x hx=>by simp[PV.dj]at hx;subst hx;exact(c0 _ aj).tJ)
       |aE β o n=>exact cell (p:=.aE β o n) h
       |mp β k o=>exact cg.move (p:=.mp β k o) h aW (fun x aL=>by simp[PV.bg]at aL hx;subst aL;exact(c0 _ (fun e=>hx e.symm)).o) (fun x hx=>by cases hx)
       |aq β k o=>exact cg.move (p:=.aq β k o) h aW (fun x aL=>by simp[PV.bg]at aL hx;subst aL;exact(c0 _ (fun e=>hx e.symm)).o) (fun x hx=>by cases hx)
       |rb β k o=>exact cg.move (p:=.rb β k o) h aW (fun x aL=>by simp[PV.bg]at aL hx;subst aL;exact(c0 _ (fun e=>hx e.symm)).o) (fun x hx=>by cases hx)
       |_=>exact cg.move h aW (fun x hx=>by cases hx) (fun x hx=>by cases hx)
      exact⟨fv,cv,g1,g2,g3,fun k x hk=>yM (fun hx=>v5 (AS hk γ hx)) (g4 k x hk),fun k x hk=>yM (fun hx=>v5 (AV hk γ hx)) (g5 k x hk)⟩
     ·exact Qj.lX a9 aW (fun x hx=>(c0 x (fun e=>v5 (e▸hx))).o) (fun x hx=>c0 x (fun e=>hm (e▸hx)))
   |_=>exact Qj.lX a9 aW (fun x hx=>by cases hx) (fun x hx=>by cases hx)
theorem Kx{γ e ty:Nat}{xs xs':List PV}(D:Nat->Option (Nat×Nat))(pI:fr γ= .aC γ e ty xs)(hD:∀δ x,D δ=some x->hp δ=none/\2000000<=δ/\0<x.1)(hl:xs'.length=xs.length)
  (hx:∀(i:Nat)(x x':PV),xs[i]? =some x->xs'[i]? =some x'->x'.aQ.length=x.aQ.length/\∀(j:Nat)(y y':PV),x.aQ[j]? =some y->x'.aQ[j]? =some y'->y'=y∨(y= .aa/\∃δ z,D δ=some z/\y'= .aq δ 0 0)):
  Wk fr hp (ae fr γ (.aC γ e ty xs')) (fun δ=>match D δ with|some x=>some ⟨x.1,x.2,[],false⟩|none=>hp δ):=by
 rintro C tmps w ⟨ρ,hs⟩;obtain⟨hp',jy⟩:∃f:HP,f=fun δ=>match D δ with|some x=>some ⟨x.1,x.2,[],false⟩|none=>hp δ:=⟨_,rfl⟩
 obtain⟨ρ',MI⟩:∃f:Nat->Option Nat,f=fun δ=>if(D δ).isSome then none else ρ δ:=⟨_,rfl⟩
 rw[<-jy];have pD:∀δ x,D δ=some x->hp' δ=some ⟨x.1,x.2,[],false⟩/\ρ' δ=none:=fun δ x ko=>by rw[jy,MI];simp[ko]
 have po:∀δ,D δ=none->hp' δ=hp δ/\ρ' δ=ρ δ:=fun δ ko=>by rw[jy,MI];simp[ko]
 have hk:∀β,hp β≠none->D β=none:=fun β aj=>by
  cases hq:D β with
  |none=>rfl
  |some x=>exact absurd (hD β x hq).1 aj
 have hX:∀c,aB C ρ' hp' c->aB C ρ hp c:=by
  rintro c (h|⟨β,hb,g1,g2,g3⟩)
  ·exact .inl h
  ·cases hq:D β with
   |none=>rw[(po β hq).1]at g1;rw[(po β hq).2]at g3;exact .inr ⟨β,hb,g1,g2,g3⟩
   |some x=>rw[(pD β x hq).2]at g3;cases g3
 have aW:jg w w (aB C ρ hp) (aB C ρ' hp'):=⟨fun _ _ _=>rfl,fun c _ hn h=>hn (hX c h),Kag _⟩
 have c0:∀β,hp β≠none->ll ρ ρ' hp hp' w w β:=fun β aj=>⟨(po β (hk β aj)).2,fun hb hq=>⟨hb,by rw[(po β (hk β aj)).1];exact hq,rfl,Kag _,fun _ _ _ h=>h,fun h=>⟨h,rfl,fun _ _=>rfl⟩⟩⟩
 refine⟨ρ',hs.sz,hs.ext,hs.dK,fun β hb aj=>?_,fun β δ c g1 g2 g3 g4=>?_,fun i=>?_⟩
 ·cases hq:D β with
  |some x=>rw[(pD β x hq).1]at aj;cases aj;obtain⟨_,d2,d3⟩:=hD β x hq;refine⟨d3,(fun i x hx=>by simp at hx),?_,(fun h=>by simp[aI]at h;omega),fun h=>by simp[dJ]at h;omega⟩;rw[(pD β x hq).2]
  |none=>
   rw[(po β hq).1]at aj;obtain⟨q1,q2,q3,q4,q5⟩:=hs.own β hb aj;refine⟨q1,q2,?_,(by rw[(po β hq).2];exact q4),q5⟩;rw[(po β hq).2];cases hr:ρ β with
   |none=>rw[hr]at q3;exact q3
   |some c=>rw[hr]at q3;exact⟨q3.1,q3.2.1,q3.2.2.move rfl rfl rfl rfl aW.rc⟩
 ·have f:∀β,hp' β≠none->∀c,ρ' β=some c->hp β≠none/\ρ β=some c:=fun β aj c hc=>by
   cases hq:D β with
   |none=>rw[(po β hq).1]at aj;rw[(po β hq).2]at hc;exact⟨aj,hc⟩
   |some x=>rw[(pD β x hq).2]at hc;cases hc
  exact hs.inj β δ c (f β g1 c g3).1 (f δ g2 c g4).1 (f β g1 c g3).2 (f δ g2 c g4).2
 ·have ra:=(hs.cd i).known;have tD:Qj C ρ' hp' w (fr i) (tmps.getD i undef):=(hs.cd i).lX aW (fun β aj=>(c0 β (ra.1 β aj)).o) (fun β aj=>c0 β (ra.2 β aj));unfold ae;split
  ·rename_i hi;subst hi;rw[pI]at tD;obtain⟨k0,he,b',hb,cur',dx,k1,k2,k3,k4,k5,k6,k7,k8,k9,wB,tA⟩:=tD;have dz:∀(k:Nat)(x':PV),xs'[k]? =some x'->∃x,xs[k]? =some x:=fun k x' dF=>by
    have:k<xs.length:=by have:=(Kad.1 dF).1;omega
    exact⟨_,Kaf this⟩
   refine⟨k0,he,b',hb,cur',dx,k1,k2,k3,k4,k5,k6,k7,by omega,k9,fun k x' dF=>?_,fun k x' dF j y' kk=>?_⟩
   ·obtain⟨x,oz⟩:=dz k x' dF;rw[(hx k x x' oz dF).1];exact wB k x oz
   ·obtain⟨x,oz⟩:=dz k x' dF;obtain⟨l1,l2⟩:=hx k x x' oz dF;have hj:j<x.aQ.length:=by have:=(Kad.1 kk).1;omega
    have hy:=Kaf hj;have hr:=tA k x oz j _ hy;rcases l2 j _ y' hy kk with e1|⟨e1,δ,z,e2,e3⟩
    ·rw[e1];exact hr
    ·rw[e1]at hr;obtain⟨_,d2,_⟩:=hD δ z e2;rw[e3];have hv:cur'.getD (k*e+j) undef= .slice none 0 0:=by generalize cur'.getD (k*e+j) undef=u at hr;cases hr;rfl
     exact⟨by simp[bm];omega,_,(pD δ z e2).1,Kag _,.inl ⟨(pD δ z e2).2,hv,rfl,rfl⟩⟩
  ·exact tD
def wE:List PV->PV
 | [c]=>c
 |cs=>.agg cs
def lK(fr:Fr)(hp:HP):Nat->PV->PV
 |0,p=>p
 | k+1,p=>match p with
  |.aq β o n=>match hp β with
   |some hb=>.sl hb.e ((hb.xs.drop o).take n)
   |none=>.undef
  |.aE γ o n=>match fr γ with
   |.aC _ e _ xs=>.sl e (((xs.drop o).take n).map fun x=>wE (x.aQ.map (lK fr hp k)))
   |_=>.undef
  |p=>p
def oF(fr:Fr):Nat->PV->List Nat
 |0,_=>[]
 | k+1,p=>match p with
  |.aq β _ _=>[β]
  |.aE γ o n=>match fr γ with
   |.aC _ _ _ xs=>γ::(((xs.drop o).take n).flatMap fun x=>x.aQ.flatMap (oF fr k))
   |_=>[]
  |_=>[]
def wI(fr:Fr):Nat->PV->Prop
 |0,p=>match p with
  |.undef| .aq _ _ _| .aE _ _ _=>False
  |_=>True
 | k+1,p=>match p with
  |.undef=>False
  |.aq β _ _=>aI β=false
  |.aE γ o n=>match fr γ with
   |.aC aS _ _ xs=>aS=γ/\aI γ=false/\o+n<=xs.length/\∀x∈(xs.drop o).take n,∀c∈x.aQ,wI fr k c
   |_=>False
  |_=>True
theorem S'{tmps:Array Value}(h:Qv C ρ fr hp tmps w){β b:Nat}{hb:HB}{l:List Nat}(hB:aI β=false)(aj:hp β=some hb)(hl:β∈l)(aZ:ρ β=some b):¬aB C ρ (bw hp l) b:=by
 have aP:=(h.own β hb aj).ca;rw[aZ]at aP;rintro(hx|⟨γ,hg,h1,h2,h3⟩)
 ·exact Ctx.yN aP.1 (sC hB) hx
 ·obtain⟨lO,g1,_,_,_,_,g6⟩:=tT h1;have:=h.inj γ β b (by simp[g1]) (by simp[aj]) h3 aZ;subst this;exact g6 h2 hl
theorem Pu{cs:List PV}(h:∀c∈cs,c.cells=[c]):(wE cs).cells=cs:=by
 match cs,h with
 | [],_=>rfl
 | [c],h=>exact h c (by simp)
 |_::_::_,_=>rfl
theorem CF{tmps:Array Value}(h:Qv C ρ fr hp tmps w){l:List Nat}:∀(k:Nat) {p:PV} {v:Value},b8 C ρ hp w p v->wI fr k p->(∀β∈oF fr k p,β∈l)->Qo w (aB C ρ (bw hp l)) (lK fr hp k p) v
 |0,p,v,hr,ho,_=>by
  cases p with
  |undef=>cases ho
  |aq=>cases ho
  |aE=>cases ho
  |_=>exact Qo.freeze hr
 | k +1,p,v,hr,ho,hl=>by
  cases p with
  |undef=>cases ho
  |aq β o n=>
   obtain⟨hb,aj⟩:∃hb,hp β=some hb:=by obtain⟨_,hb,h1,_⟩:=hr;exact⟨hb,h1⟩
   have:=dw.snap h hr.2 ho (hl β (by simp[oF])) aj;simp only[lK,aj];exact this
  | aE γ o n=>
   simp only[wI]at ho;split at ho
   ·rename_i aS e ty xs ah;obtain⟨rfl,hY,ho1,ho2⟩:=ho;have a9:=h.cd aS;rw[ah]at a9;obtain⟨k0,he,b,hb,cur,cap,k1,k2,k3,k4,k5,k6,k7,k8,k9,wB,tA⟩:=a9;obtain⟨_,cq,b2,vw,g1,g2,rfl,g4,g5,g6⟩:=hr;rw[k2]at g1;cases g1;rw[k1]at g2;cases g2;have tn:aS∈l:=hl aS (by simp[oF,ah]);have hX:=S' (l:=l) h hY k2 tn k1;have an:=(Kbc.1 k6).1;obtain⟨cur',ty',d1,d2⟩:=g4;rw[k6]at d1;cases d1;rw[k4]at d2;have fC:cap=o+vw:=Kbr he (by rw[<-k7,<-d2]);have key:∀i (x:PV),((xs.drop o).take n)[i]? =some x->i<n/\xs[o+i]? =some x:=fun i x hx=>by
     have hi:i<n:=by have:=(Kad.1 hx).1;simp at this;omega
     rw[Kax hi,KaR]at hx;exact⟨hi,hx⟩
    have Lf:∀i (x:PV),((xs.drop o).take n)[i]? =some x->∀j (y:PV),x.aQ[j]? =some y->Qo w (aB C ρ (bw hp l)) (lK fr hp k y) (cur.getD ((o+i)*e+j) undef):=fun i x hx j y hy=>by have kj:=Kah hx;refine CF h k (tA (o+i) x (key i x hx).2 j y hy) (ho2 x kj y (Kah hy)) fun β aj=>hl β ?_;simp only[oF,ah];exact KbA _ (Kan.2 ⟨x,kj,Kan.2 ⟨y,Kah hy,aj⟩⟩)
    have ny:∀i (x:PV),((xs.drop o).take n)[i]? =some x->(wE (x.aQ.map (lK fr hp k))).cells=x.aQ.map (lK fr hp k):=fun i x hx=>by refine Pu fun c hc=>?_;obtain⟨y,hy,rfl⟩:=KaL.1 hc;obtain⟨j,hj⟩:=Kau hy;exact(Lf i x hx j y hj).nJ.2.2
    simp only[lK,ah];have hlen:(((xs.drop o).take n).map fun x=>wE (x.aQ.map (lK fr hp k))).length=n:=by simp;omega
    have:=Qo.sl (w:=w) (X:=aB C ρ (bw hp l)) e (((xs.drop o).take n).map fun x=>wE (x.aQ.map (lK fr hp k))) b (o*hb.e) vw (fun i j=>cur.getD ((o+i)*e+j) undef) hX an (by omega) (by omega)
     (fun i x hx=>by simp only[Kap,Kaa]at hx;obtain⟨x0,bf,rfl⟩:=hx;rw[ny i x0 bf,Ka3];exact wB _ x0 (key i x0 bf).2)
     (fun i hi j hj=>by rw[hlen]at hi;rw[k4];have:=jM (i:=o+i) (e:=e) (o:=0) (j:=j) (n:=e) (cap:=cap) (by omega) (by omega) hj;rw[KaM]at this;rw[show o*e+i*e+j=(o+i)*e+j by rw[Kaz]];exact iu k6 (by rw[k7];exact this))
     (fun i x hx j y hy=>by simp only[Kap,Kaa]at hx;obtain⟨x0,bf,rfl⟩:=hx;rw[ny i x0 bf,Kap,Kaa]at hy;obtain⟨y0,cF,rfl⟩:=hy;exact Lf i x0 bf j y0 cF)
    rw[hlen]at this;exact this
   ·exact ho.elim
  |_=>exact Qo.freeze hr
def Ac(fr:Fr)(hp:HP)(k:Nat):PV->PV
 |.aH cs=>.agg (cs.map (lK fr hp k))
 |p=>lK fr hp k p
def wU(fr:Fr)(k:Nat):PV->List Nat
 |.aH cs=>cs.flatMap (oF fr k)
 |p=>oF fr k p
def MS(fr:Fr)(k:Nat):PV->Prop
 |.aH cs=>∀c∈cs,wI fr k c
 |.aE γ o n=>wI fr k (.aE γ o n)
 |_=>False
theorem WU(s k:Nat)(ho:MS fr k (fr s)):Wk fr hp (ae fr s (Ac fr hp k (fr s))) (bw hp (wU fr k (fr s))):=by
 rintro C tmps w ⟨ρ,hs⟩;have hf:=hs.freeze (wU fr k (fr s));refine⟨ρ,hf.sz,hf.ext,hf.dK,hf.own,hf.inj,fun i=>?_⟩;unfold ae;split
 ·rename_i hi;subst hi;have a9:=hs.cd i;generalize au:fr i=p at *
  cases p with
  |aH cs=>obtain⟨vs,e1,h1,h2⟩:=a9;refine⟨vs,e1,by simpa using h1,fun j x hj=>?_⟩;simp only[Kap,Kaa]at hj;obtain⟨y,hy,rfl⟩:=hj;exact CF hs k (h2 j y hy) (ho y (Kah hy)) fun β aj=>Kan.2 ⟨y,Kah hy,aj⟩
  |aE γ o n=>have:=CF (l:=oF fr k (.aE γ o n)) hs k (p:=.aE γ o n) a9 ho (fun β aj=>aj);exact Qj.iT (bc.nI this)
  |_=>cases ho
 ·exact hf.cd i
end Go.FW
