/- Part 2 of the proof of SquaresProofs: FwP, FwQ, FwR, FwS, FwT, FwU, FwV, FwW, FwX, FwY, FwZ, FwBA, FwBB, FwBC, FwBD, FwBE, FwBF, FwBG, FwBH, FwCA, FwCB, FwCC, FwCD, FwCE, FwCF, FwCG, FwCH, FwCI, FwCJ, FwCK, FwCL, FwMA, FwMB, FwMC, FwPA, FwPB, FwPC, FwSA, FwSB, FwSC, FwTA, FwSet, FwSt, FwUB, FwNA, FwNB, FwND, FwNE. Own lemmas; no conditions. -/
import Derived.Test.YtkoclfmjlolkhaaGreatSquaresProofsPart1
import Derived.LoopN
import Derived.ChangeSame
import Derived.ChangeStays
import Derived.Deep.Slices
import Derived.OpenShut
import Derived.RowKit
import Derived.ProofKit
import Derived.JoinedCond
set_option maxHeartbeats 1000000
set_option linter.unusedSimpArgs false
set_option linter.unusedVariables false
set_option linter.unnecessarySimpa false
set_option maxRecDepth 100000
namespace Go.FW
open Go
variable {C : Ctx} {ρ : Nat -> Option Nat} {fr : Fr} {hp : HP} {w : World} {a : Act} {K R : Qh}
structure LN(C:Ctx)(R:Qh)(sk:List It)(Q:Exit->Act->World->Prop):Prop where
 rM:Next C (vc C R sk) Q
 ext:∀id dZ,FW.ch id sk=some dZ->∀fr hp (a:Act) w,a.defers=[]->eu C fr hp a.tmps w->vc C R dZ fr hp->Q (.exit id) a w
 ret:∀fr hp (a:Act) w,a.defers=[]->eu C fr hp a.tmps w->R fr hp->Q .ret a w
theorem FB{sk:List It}{x y:SC}:vc C R (.c (.seq x y)::sk) fr hp=vc C R (.c x:: .c y::sk) fr hp:=by rw[vc]
theorem ED{sk:List It}{id:Nat}{x:SC}:vc C R (.c (.block id x)::sk) fr hp=vc C R (.c x:: .eb id::sk) fr hp:=by rw[vc]
theorem Fj{sk:List It}:vc C R (.c .skip::sk) fr hp=vc C R sk fr hp:=by rw[vc]
theorem HF{sk:List It}{r:RT}:vc C R (.c (.rg r)::sk) fr hp=vc C R (.o r::sk) fr hp:=by rw[vc]
theorem Di{sk:List It}{id:Nat}:vc C R (.eb id::sk) fr hp=vc C R sk fr hp:=by rw[vc]
theorem xg{sk:List It}{J:Qh}:vc C R (.el J::sk) fr hp=J fr hp:=by rw[vc]
theorem Fx{sk:List It}:vc C R (.c .ret::sk) fr hp=R fr hp:=by rw[vc]
theorem vd:vc C R [] fr hp=R fr hp:=by rw[vc]
def sg(c:PV)(A B:Prop):Prop:=match c with
 | .bool t=>(t=true->A)/\(t=false->B)
 |_=>False
theorem Fb{sk:List It}{c:aS}{x y:SC}:vc C R (.c (.cond c x y)::sk) fr hp=sg (ev fr c) (vc C R (.c x::sk) fr hp) (vc C R (.c y::sk) fr hp):=by rw[vc];rfl
def xh(C:Ctx)(R:Qh)(sk:Option (List It))(fr:Fr)(hp:HP):Prop:=match sk with
 |some sk=>vc C R sk fr hp
 |none=>False
theorem Fc{sk:List It}{id:Nat}:vc C R (.c (.exit id)::sk) fr hp=xh C R (FW.ch id sk) fr hp:=by
 rw[vc]
 unfold xh
 split
 ·rename_i h;rw[h]
 ·rename_i h;rw[h]
theorem yK{sk:List It}{x:SC}:vc C R (.c (.loop x)::sk) fr hp=∃(I:Qh)(μ:Fr->HP->Nat),(∃bJ aA,Wk fr hp bJ aA/\I bJ aA)/\∀fr hp,I fr hp->vc C R (.c x:: .el (fun aC hp'=>∃bJ aA,Wk aC hp' bJ aA/\I bJ aA/\μ bJ aA<μ fr hp)::sk) fr hp:=by rw[vc]
theorem Wk.refl(fr:Fr)(hp:HP):Wk fr hp fr hp:=fun _ _ _ h=>h
theorem Wk.trans{vP fC FT:Fr}{ka cc rE:HP}(h:Wk vP ka fC cc)(k:Wk fC cc FT rE):Wk vP ka FT rE:=fun C t w hs=>k C t w (h C t w hs)
def zx(I:Qh)(μ:Fr->HP->Nat)(n:Nat):Qh:=fun aC hp'=>∃bJ aA,Wk aC hp' bJ aA/\I bJ aA/\μ bJ aA<n
theorem acM{sk:List It}{x:SC}(I:Qh)(μ:Fr->HP->Nat){bJ:Fr}{aA:HP}(hw:Wk fr hp bJ aA)(h0:I bJ aA)(h:∀fr hp,I fr hp->vc C R (.c x:: .el (zx I μ (μ fr hp))::sk) fr hp):vc C R (.c (.loop x)::sk) fr hp:=by
 rw[yK];exact⟨I,μ,⟨bJ,aA,hw,h0⟩,h⟩
theorem ZA{s:SC}(h:s.strip= .skip):s= .skip:=by cases s<;>simp[SC.strip]at h⊢
theorem aa0{s:SC}(h:s.strip= .ret):s= .ret:=by cases s<;>simp[SC.strip]at h⊢
theorem ZB{s:SC}{id:Nat}(h:s.strip= .exit id):s= .exit id:=by cases s<;>simp[SC.strip]at h ⊢;exact h
theorem aa1{s:SC}{id:Nat}{ops:Array Oper}(h:s.strip= .raw id ops):s= .raw id ops:=by cases s<;>simp[SC.strip]at h ⊢;exact h
theorem aa2{s a b:SC}(h:s.strip= .seq a b):∃a' b',s= .seq a' b'/\a'.strip=a/\b'.strip=b:=by cases s<;>simp[SC.strip]at h;exact⟨_,_,rfl,h.1,h.2⟩
theorem ZC{s a b:SC}{c:aS}(h:s.strip= .cond c a b):∃a' b',s= .cond c a' b'/\a'.strip=a/\b'.strip=b:=by
 cases s with
 |cond c' a' b'=>simp only[SC.strip,SC.cond.injEq]at h;obtain⟨rfl,h1,h2⟩:=h;exact⟨a',b',rfl,h1,h2⟩
 |_=>simp[SC.strip]at h
theorem Xr{s a:SC}{id:Nat}(h:s.strip= .block id a):∃a',s= .block id a'/\a'.strip=a:=by
 cases s with
 |block c' a'=>simp only[SC.strip,SC.block.injEq]at h;obtain⟨rfl,h1⟩:=h;exact⟨a',rfl,h1⟩
 |_=>simp[SC.strip]at h
theorem ZD{s a:SC}(h:s.strip= .loop a):∃a',s= .loop a'/\a'.strip=a:=by
 cases s with
 |loop a'=>simp only[SC.strip,SC.loop.injEq]at h;exact⟨a',rfl,h⟩
 |_=>simp[SC.strip]at h
theorem Ia(hm:C.P.follows .mixedOrders=true):∀(c:Code)(s:SC)(sk:List It)(Q:Exit->Act->World->Prop)(fr:Fr)(hp:HP)(a:Act)(w:World),
  ft C.P C.N c=some s.strip->LN C R sk Q->a.defers=[]->eu C fr hp a.tmps w->vc C R (.c s::sk) fr hp->c.wp C.P Q a w:=by
 intro c
 induction c with
 |skip=>
  intro s sk Q fr hp a w hc hL hd hs hv
  simp only[ft,KaC]at hc;obtain rfl:=ZA hc.symm
  rw[Fj]at hv
  exact wp_skip (hL.rM fr hp a w hd hs hv)
 | region id ops draw=>
  intro s sk Q fr hp a w hc hL hd hs hv
  simp only[ft]at hc
  split at hc
  ·rename_i s' eC
   rw[hc]at eC
   exact WI hm hL.rM eC hd hs hv
  ·split at hc
   ·rename_i v5
    obtain rfl:=aa1 (KbI hc).symm
    have apR:draw=true:=v5
    subst apR
    rw[vc]at hv
    obtain⟨tmps,defers⟩:=a
    simp only at hd hs
    subst hd
    exact hv tmps w Q hs (fun aC hp' Db w' eC pB=>hL.rM aC hp' _ w' rfl eC pB)
   ·cases hc
 |seq x y lA yr=>
  intro s sk Q fr hp a w hc hL hd hs hv
  simp only[ft,Kab,Kaa]at hc
  obtain⟨sx,hx,sy,hy,he⟩:=hc
  obtain⟨sx,sy,rfl,rfl,rfl⟩:=aa2 he.symm
  rw[FB]at hv
  refine wp_seq (lA sx (.c sy::sk) _ fr hp a w hx ⟨fun fr hp a w hd hs hv=> ?_,fun id dZ he fr hp a w hd hs hv=> ?_,fun fr hp a w hd hs hv=> ?_⟩ hd hs hv)
  ·exact yr sy sk Q fr hp a w hy hL hd hs hv
  ·exact hL.ext id dZ (by simpa[FW.ch]using he) fr hp a w hd hs hv
  ·exact hL.ret fr hp a w hd hs hv
 | cond c x y lA yr=>
  intro s sk Q fr hp a w hc hL hd hs hv
  simp only[ft,Kab,Kaa]at hc
  obtain⟨pc,fR,sx,hx,sy,hy,he⟩:=hc
  obtain⟨sx,sy,rfl,rfl,rfl⟩:=ZC he.symm
  rw[Fb]at hv
  obtain⟨ρ,oe⟩:=hs
  have hr:=cO oe fR
  unfold sg at hv
  split at hv
  ·rename_i t ht
   rw[ht]at hr
   exact wp_cond_split hr.zQ (fun h=>lA sx sk Q fr hp a w hx hL hd ⟨ρ,oe⟩ (hv.1 h)) (fun h=>yr sy sk Q fr hp a w hy hL hd ⟨ρ,oe⟩ (hv.2 h))
  ·exact hv.elim
 | block id x lA=>
  intro s sk Q fr hp a w hc hL hd hs hv
  simp only[ft,Kaa]at hc
  obtain⟨sx,hx,he⟩:=hc
  obtain⟨sx,rfl,rfl⟩:=Xr he.symm
  rw[ED]at hv
  refine wp_block (lA sx (.eb id::sk) _ fr hp a w hx ⟨fun fr hp a w hd hs hv=> ?_,fun VM dZ he fr hp a w hd hs hv=> ?_,fun fr hp a w hd hs hv=> ?_⟩ hd hs hv)
  ·rw[Di]at hv;exact hL.rM fr hp a w hd hs hv
  ·simp only[FW.ch]at he
   simp only[Exit.inBlock]
   by_cases hi:id=VM
   ·subst hi;simp only[if_true]at he ⊢;cases he;exact hL.rM fr hp a w hd hs hv
   ·rw[if_neg hi]at he;rw[if_neg (fun e=>hi e.symm)];exact hL.ext VM dZ he fr hp a w hd hs hv
  ·exact hL.ret fr hp a w hd hs hv
 | loop x lA=>
  intro s sk Q fr hp a w hc hL hd hs hv
  simp only[ft,Kaa]at hc
  obtain⟨sx,hx,he⟩:=hc
  obtain⟨sx,rfl,rfl⟩:=ZD he.symm
  rw[yK]at hv
  obtain⟨I,μ,⟨bJ,aA,hwk,h0⟩,aqH⟩:=hv
  have key:∀(n:Nat)(fr:Fr)(hp:HP)(a:Act)(w:World),μ fr hp<n->I fr hp->a.defers=[]->eu C fr hp a.tmps w->Code.rounds C.P x Q n a w:=by
   intro n
   induction n with
   |zero=>intro _ _ _ _ h;omega
   | succ n ih=>
    intro fr hp a w au hI hd hs
    rw[rounds_succ]
    refine lA sx _ _ fr hp a w hx ⟨fun aC hp' a' w' xM eC pB=> ?_,fun id dZ he fr hp a w hd hs hv=> ?_,fun fr hp a w hd hs hv=> ?_⟩ hd hs (aqH fr hp hI)
    ·rw[xg]at pB
     obtain⟨fC,cc,GO,hI2,xW⟩:=pB
     exact ih fC cc a' w' (by omega) hI2 xM (GO _ _ _ eC)
    ·exact hL.ext id dZ (by simpa[FW.ch]using he) fr hp a w hd hs hv
    ·exact hL.ret fr hp a w hd hs hv
  exact wp_loop_rounds (μ bJ aA+1) (key _ bJ aA a w (Nat.lt_succ_self _) h0 hd (hwk _ _ _ hs))
 | exit id=>
  intro s sk Q fr hp a w hc hL hd hs hv
  simp only[ft,KaC]at hc;obtain rfl:=ZB hc.symm
  rw[Fc]at hv
  unfold xh at hv
  split at hv
  ·rename_i dZ he
   exact wp_exit (hL.ext id dZ he fr hp a w hd hs hv)
  ·exact hv.elim
 |ret=>
  intro s sk Q fr hp a w hc hL hd hs hv
  simp only[ft,KaC]at hc;obtain rfl:=aa0 hc.symm
  rw[Fx]at hv
  exact wp_ret (hL.ret fr hp a w hd hs hv)
 |_=>intro s sk Q fr hp a w hc;simp[ft]at hc
theorem Ip(hm:C.P.follows .mixedOrders=true)(c:Code)(s:SC)(sk:List It)(Q:Exit->Act->World->Prop)(fr:Fr)(hp:HP)(a:Act)(w:World)
  (hc:ft C.P C.N c=some s) (hL:LN C R sk Q) (hd:a.defers=[]) (hs:eu C fr hp a.tmps w) (hv:vc C R (.c s::sk) fr hp):c.wp C.P Q a w:=
 Ia hm c s sk Q fr hp a w (by rw[QZ _ _ hc];exact hc) hL hd hs hv
def PV.mo:PV->PV->Prop
 | .al,.sl _ []=>True
 |p,q=>p=q
def PV.Am:List PV->List PV->Prop
 | [],[]=>True
 |p::ps,q::qs=>PV.mo p q/\PV.Am ps qs
 |_,_=>False
def PV.le:PV->PV->Prop
 | .agg ps,.agg qs=>PV.Am ps qs
 |p,q=>PV.mo p q
def PV.C0:List PV->List PV->Prop
 | [],[]=>True
 |p::ps,q::qs=>PV.le p q/\PV.C0 ps qs
 |_,_=>False
def PV.yt:PV->PV->Prop
 | .aI ps,.aI qs=>PV.C0 ps qs
 |p,q=>PV.le p q
theorem yW(p:PV):PV.mo p p:=by cases p<;>first|rfl|(unfold PV.mo;split<;>trivial)
theorem M5:∀(l:List PV),PV.Am l l
 | []=>trivial
 |p::ps=>⟨yW p,M5 ps⟩
theorem Qn(p:PV):PV.le p p:=by
 cases p<;>first|exact M5 _|(simp only[PV.le];exact yW _)
theorem M6:∀(l:List PV),PV.C0 l l
 | []=>trivial
 |p::ps=>⟨Qn p,M6 ps⟩
theorem acN(p:PV):PV.yt p p:=by
 cases p<;>first|exact M6 _|(simp only[PV.yt];exact Qn _)
theorem Qp.le{X:Nat->Prop}{p q:PV}{v:Value}(h:Qp w X p v)(hl:PV.mo p q):Qp w X q v:=by
 unfold PV.mo at hl
 split at hl
 ·cases h;exact .nt _ _ _ (Kbv _)
 ·subst hl;exact h
theorem OG:∀(ps qs:List PV),PV.Am ps qs->qs.length=ps.length/\∀(i:Nat)(q:PV),qs[i]? =some q->∃p,ps[i]? =some p/\PV.mo p q
 | [],[],_=>⟨rfl,by simp⟩
 | [],_::_,h=>h.elim
 |_::_,[],h=>h.elim
 |p::ps,q::qs,h=>by
  obtain⟨h1,h2⟩:=OG ps qs h.2
  refine⟨by simp[h1],fun i x hx=> ?_⟩
  cases i with
  |zero=>simp at hx;subst hx;exact⟨p,rfl,h.1⟩
  |succ i=>simp at hx;simpa using h2 i x hx
theorem JI:∀(ps qs:List PV),PV.C0 ps qs->qs.length=ps.length/\∀(i:Nat)(q:PV),qs[i]? =some q->∃p,ps[i]? =some p/\PV.le p q
 | [],[],_=>⟨rfl,by simp⟩
 | [],_::_,h=>h.elim
 |_::_,[],h=>h.elim
 |p::ps,q::qs,h=>by
  obtain⟨h1,h2⟩:=JI ps qs h.2
  refine⟨by simp[h1],fun i x hx=> ?_⟩
  cases i with
  |zero=>simp at hx;subst hx;exact⟨p,rfl,h.1⟩
  |succ i=>simp at hx;simpa using h2 i x hx
theorem bI.le{X:Nat->Prop}{p q:PV}{v:Value}(h:bI w X p v)(hl:PV.le p q):bI w X q v:=by
 by_cases hp:∃ps,p= .agg ps
 ·obtain⟨ps,rfl⟩:=hp
  by_cases hq:∃qs,q= .agg qs
  ·obtain⟨qs,rfl⟩:=hq
   obtain⟨h1,h2⟩:=OG ps qs hl
   obtain⟨vs,rfl,g1,g2⟩:=h
   refine⟨vs,rfl,by omega,fun i x hx=> ?_⟩
   obtain⟨p,hp,hle⟩:=h2 i x hx
   exact(g2 i p hp).le hle
  ·have:PV.mo (.agg ps) q:=by
    cases q<;>first|exact hl|exact absurd ⟨_,rfl⟩ hq
   have:q= .agg ps:=by
    unfold PV.mo at this
    split at this
    ·rename_i h1;cases h1
    ·exact this.symm
   exact absurd ⟨_,this⟩ hq
 ·have h1:Qp w X p v:=by
   cases p<;>first|exact h|exact absurd ⟨_,rfl⟩ hp
  have h2:PV.mo p q:=by
   cases p<;>first|exact hl|exact absurd ⟨_,rfl⟩ hp
  exact bI.rN (h1.le h2)
theorem eG.le{X:Nat->Prop}{p q:PV}{v:Value}(h:eG w X p v)(hl:PV.yt p q):eG w X q v:=by
 by_cases hp:∃ps,p= .aI ps
 ·obtain⟨ps,rfl⟩:=hp
  by_cases hq:∃qs,q= .aI qs
  ·obtain⟨qs,rfl⟩:=hq
   obtain⟨h1,h2⟩:=JI ps qs hl
   obtain⟨vs,rfl,g1,g2⟩:=h
   refine⟨vs,rfl,by omega,fun i x hx=> ?_⟩
   obtain⟨p,hp,hle⟩:=h2 i x hx
   exact(g2 i p hp).le hle
  ·have:PV.le (.aI ps) q:=by
    cases q<;>first|exact hl|exact absurd ⟨_,rfl⟩ hq
   have:PV.mo (.aI ps) q:=this
   have:q= .aI ps:=by
    unfold PV.mo at this
    split at this
    ·rename_i h1;cases h1
    ·exact this.symm
   exact absurd ⟨_,this⟩ hq
 ·have h1:bI w X p v:=by
   cases p<;>first|exact h|exact absurd ⟨_,rfl⟩ hp
  have h2:PV.le p q:=by
   cases p<;>first|exact hl|exact absurd ⟨_,rfl⟩ hp
  exact eG.VT (h1.le h2)
def qO (P : Program) (f : FuncId) : Prop := (P.funcs[f]?).any (fun fn => fn.body.isSome && fn.name != "runtime.NumGoroutine") = true
def Qd(P:Program)(f:FuncId)(args:List PV)(R:PV->Prop):Prop:=
 qO P f/\∀(w:World)(X:Nat->Prop)(bu:Array Value),(∀b,X b->b<w.heap.size)->bu.size=args.length->(∀(i:Nat)(x:PV),args[i]? =some x->bI w X x (bu.getD i undef))->
  Calls P f bu w fun e w'=>∃v r,e= .returned v/\Ext dL w w'/\eG w' X r v/\R r
theorem Qd.le{P:Program}{f:FuncId}{args args':List PV}{R:PV->Prop}(h:Qd P f args R)(hl:PV.C0 args' args):Qd P f args' R:=by
 obtain⟨h1,h2⟩:=JI _ _ hl
 refine⟨h.1,fun w X bu g1 g2 g3=>h.2 w X bu g1 (by omega) (fun i x hx=> ?_)⟩
 obtain⟨p,hp,hle⟩:=h2 i x hx
 exact(g3 i p hp).le hle
def jT(args:List PV):Fr:=fun i=>(args[i]?).getD .undef
def mw(fr:Fr)(hp:HP):RV->Prop
 | .t s=>(aO hp (fr s)).aL=true
 | .cell s n ag=>match fr s with
  | .mp β i o=>match hp β with
   |some hb=>i<hb.xs.length/\o+n<=hb.e/\(ag=false->n=1)
   |none=>False
  |_=>False
def lH(fr:Fr)(hp:HP):RV->PV
 | .t s=>aO hp (fr s)
 | .cell s n ag=>match fr s with
  | .mp β i o=>match hp β with
   |some hb=>eE ag n o ((hb.xs[i]?).getD .undef)
   |none=> .undef
  |_=> .undef
def ff(rs:List RV)(R:PV->Prop):Qh:=fun fr hp=>match rs with
 | [r]=>mw fr hp r/\∃p,PV.le (lH fr hp r) p/\R p
 |rs=>(∀r∈rs,mw fr hp r)/\∃p,PV.yt (.aI (rs.map (lH fr hp))) p/\R p
def qP(tmps:Array Value):ResultVar->Sem Value
 | .tmp t=>pure (tmps.getD t undef)
 | .cell x t=>do loadVar t (<-asAddr (tmps.getD x undef))
def lr(fr:Fr):RV->List Nat
 | .t s=>(fr s).refs
 | .cell _ _ _=>[]
theorem M7{l l':List Nat}(h:∀β∈l,β∈l'){b:Nat}(hx:aK C ρ (bV hp l') b):aK C ρ (bV hp l) b:=by
 rcases hx with hx|⟨γ,hg,h1,h2,h3⟩
 ·exact .inl hx
 ·obtain⟨qk,g1,_,_,_,g5,g6⟩:=Az h1
  refine .inr ⟨γ,qk,?_,by rw[<-g5 h2];exact h2,h3⟩
  have hn:γ ∉ l:=fun hl=>g6 h2 (h γ hl)
  unfold bV
  rw[if_neg (by simpa using hn)]
  exact g1
theorem R7:bV hp []=hp:=by funext β;simp[bV]
theorem ZE{p:PV}(h:(aO hp p).aL=true):∀β∈p.refs,aP β=false:=by
 have h1:∀q:PV,(cN hp q).iX=true->∀β∈q.bX,aP β=false:=by
  intro q hq β af
  cases q with
  |mp γ i o=>simp only[PV.bX,KaB]at af;subst af;cases hy:aP β with
   |false=>rfl
   |true=>simp[cN,hy,PV.iX]at hq
  |aB γ o n=>simp only[PV.bX,KaB]at af;subst af;cases hy:aP β with
   |false=>rfl
   |true=>simp[cN,hy,PV.iX]at hq
  |rb=>simp[cN,PV.iX]at hq
  |_=>cases af
 intro β af
 cases p with
 |mp γ i o=>exact h1 (.mp γ i o) (by cases hq:cN hp (.mp γ i o)<;>simp_all[aO,PV.aL,PV.iX]) β af
 |aB γ o n=>exact h1 (.aB γ o n) (by cases hq:cN hp (.aB γ o n)<;>simp_all[aO,PV.aL,PV.iX]) β af
 |rb=>simp[aO,cN,PV.aL]at h
 |fn f first cap=>
  simp only[aO,PV.aL,Kar,List.all_map,Kas]at h
  rcases KaK.1 af with af|af
  ·obtain⟨x,hx,af⟩:=Kat.1 af;exact h1 x (h.1 x hx) β af
  ·obtain⟨x,hx,af⟩:=Kat.1 af;exact h1 x (h.2 x hx) β af
 |_=>cases af
theorem akS{rv:RV}(h:mw fr hp rv):∀β∈lr fr rv,aP β=false:=by
 cases rv with
 |t s=>exact ZE h
 |cell=>intro β af;cases af
theorem acO{P:Program}(hP:C.P=P){r:ResultVar}{rv:RV}(hc:kO P r=some rv)(h:Qr C ρ fr hp a.tmps w)(ho:mw fr hp rv):
  ∃v,(qP a.tmps r).run P w= .ok v w/\bI w (aK C ρ (bV hp (lr fr rv))) (lH fr hp rv) v:=by
 subst hP
 cases r with
 |tmp t=>
  simp[kO]at hc;subst hc
  exact⟨_,rfl,rU h (h.cS t) (fun β af=>af) ho⟩
 | cell x t=>
  simp only[kO,Kab,Kaa]at hc
  obtain⟨n,hn,ag,kC,rfl⟩:=hc
  have hx:=h.cS x
  simp only[mw]at ho
  split at ho
  ·rename_i β i o pj
   rw[pj]at hx
   split at ho
   ·rename_i hb af
    obtain⟨h1,h2,h3⟩:=ho
    obtain⟨b,hb2,g1,g2,g3⟩:=hx.Ap
    rw[af]at g2;cases g2
    have bB:=h.own β hb af
    have aY:=bB.cL
    rw[g1]at aY
    obtain⟨_,qn,cur,cap,c1,c2,c3,c4,c5⟩:=aY
    have fE:=Kag h1
    have jK:=(bB.len i _ fE).1
    have dH:i<cap:=by omega
    have um:∀j,j<n->i*hb.e+o+j<cur.size:=fun j hj=>by rw[c2];exact oL dH h2 hj
    have cm:=DF (P:=C.P) (t:=t) (b:=b) (off:=i*hb.e+o) (vs:=Array.ofFn (n:=n) fun j=>cur.getD (i*hb.e+o+j.val) undef) hn kC h3 (by simp) w
     (fun j hj=>by rw[uQ (f:=fun j=>cur.getD (i*hb.e+o+j) undef) hj];exact my c1 (um j hj))
    obtain⟨V,hV⟩:∃V:Value,V=(if ag then .agg (Array.ofFn (n:=n) fun j=>cur.getD (i*hb.e+o+j.val) undef)else(Array.ofFn (n:=n) fun j=>cur.getD (i*hb.e+o+j.val) undef).getD 0 undef):=⟨_,rfl⟩
    rw[<-hV]at cm
    refine⟨V,?_,?_⟩
    ·simp only[qP,g3,asAddr,Kaq,Ka3,Kal]
     exact cm
    ·have:bI w (aK C ρ hp) (eE ag n o (hb.xs[i]'h1)) (if ag then .agg (Array.ofFn (n:=n) fun j=>cur.getD (i*hb.e+o+j.val) undef)else(Array.ofFn (n:=n) fun j=>cur.getD (i*hb.e+o+j.val) undef).getD 0 undef):=
      Bv (by simp) (by rw[jK];exact h2) h3 (fun j y hj hy=>by
       rw[uQ (f:=fun j=>cur.getD (i*hb.e+o+j) undef) hj,Kcf]
       exact c5 i _ fE (o+j) y hy)
     simp only[lH,pj,af,fE,Kbe]
     rw[hV]
     simp only[lr,R7];exact this
   ·exact ho.elim
  ·exact ho.elim
theorem L5{P:Program}(hP:C.P=P)(h:Qr C ρ fr hp a.tmps w):∀(rl:List ResultVar)(rs:List RV),rl.mapM (kO P)=some rs->(∀r∈rs,mw fr hp r)->
  ∃vs:List Value,vs.length=rs.length/\(rl.mapM (qP a.tmps)).run P w= .ok vs w/\∀(i:Nat)(r:RV),rs[i]? =some r->∃v,vs[i]? =some v/\bI w (aK C ρ (bV hp (rs.flatMap (lr fr)))) (lH fr hp r) v
 | [],rs,hc,_=>by simp at hc;subst hc;exact⟨[],rfl,by simp,by simp⟩
 | x::rl,rs,hc,ho=>by
  rw[KcD]at hc
  simp only[Kch,KcJ,Kab,KaC]at hc
  obtain⟨r,hr,LI,dD,rfl⟩:=hc
  obtain⟨v,h1,h2⟩:=acO hP hr h (ho r (by simp))
  obtain⟨vs,g1,g2,g3⟩:=L5 hP h rl LI dD (fun q hq=>ho q (by simp[hq]))
  refine⟨v::vs,by simp[g1],by simp[KcD,Kaq,h1,g2],fun i q hq=> ?_⟩
  cases i with
  |zero=>
   simp at hq;subst hq
   exact⟨v,rfl,h2.mono (fun _ _ _=>rfl) (fun _ _ hn hx=>hn (M7 (fun β af=>by rw[Kaz];exact Kct _ af) hx)) (Kaf _)⟩
  |succ i=>
   simp at hq
   obtain⟨v',k1,k2⟩:=g3 i q hq
   exact⟨v',by simpa using k1,k2.mono (fun _ _ _=>rfl) (fun _ _ hn hx=>hn (M7 (fun β af=>by rw[Kaz];exact Kb0 _ af) hx)) (Kaf _)⟩
theorem Iq{P:Program}(hP:C.P=P){fn:Func}{rs:List RV}{Rr:PV->Prop}(hc:fn.results.toList.mapM (kO P)=some rs)(h:Qr C ρ fr hp a.tmps w)(hr:ff rs Rr fr hp):
  ∃v r,(results fn a.tmps).run P w= .ok v w/\eG w (aK C ρ (bV hp (rs.flatMap (lr fr)))) r v/\(∀β∈rs.flatMap (lr fr),aP β=false)/\Rr r:=by
 have cH:(∀r∈rs,mw fr hp r):=by
  intro r cQ
  match rs,hr,cQ with
  | [r0],hr,cQ=>simp at cQ;subst cQ;exact hr.1
  | [],hr,cQ=>cases cQ
  |r0::r1::rest,hr,cQ=>exact hr.1 r cQ
 have hN:∀β∈rs.flatMap (lr fr),aP β=false:=fun β af=>by
  obtain⟨r,hr,af⟩:=Kat.1 af
  exact akS (cH r hr) β af
 obtain⟨vs,hlen,cm,Af⟩:=L5 hP h _ rs hc cH
 have gy:(results fn a.tmps).run P w= .ok (if h:vs.toArray.size=1 then vs.toArray[0]else .tuple vs.toArray) w:=by
  have e:results fn a.tmps=(do let vs<-fn.results.mapM (qP a.tmps);pure (if h:vs.size=1 then vs[0]else .tuple vs)):=rfl
  rw[e,KbW]
  simp only[Kaq]
  have h2:(List.toArray<$>fn.results.toList.mapM (qP a.tmps):Sem (Array Value)).run P w= .ok vs.toArray w:=by simp[cm]
  rw[h2]
  rfl
 match rs,hr,hlen,Af,hN with
 | [r0],hr,hlen,Af,hN=>
  have h1:vs.toArray.size=1:=by simpa using hlen
  rw[dif_pos h1]at gy
  obtain⟨v,h2,h3⟩:=Af 0 r0 rfl
  have e:vs.toArray[0]=v:=by
   have:vs[0]? =some (vs.toArray[0]):=by simp[hlen]
   rw[h2]at this;exact(KbI this).symm
  rw[e]at gy
  obtain⟨_,p,hle,Ck⟩:=hr
  exact⟨_,_,gy,eG.VT (h3.le hle),hN,Ck⟩
 | [],hr,hlen,Af,hN=>
  have h1:¬vs.toArray.size=1:=by simp[hlen]
  rw[dif_neg h1]at gy
  obtain⟨_,p,hle,Ck⟩:=hr
  exact⟨_,_,gy,eG.le (p:= .aI []) ⟨vs.toArray,rfl,by simp[hlen],by simp⟩ hle,hN,Ck⟩
 |r0::r1::rest,hr,hlen,Af,hN=>
  have h1:¬vs.toArray.size=1:=by simp[hlen]
  rw[dif_neg h1]at gy
  obtain⟨_,p,hle,Ck⟩:=hr
  refine⟨_,_,gy,eG.le (p:= .aI ((r0::r1::rest).map (lH fr hp))) ⟨vs.toArray,rfl,by simp[hlen],fun i x hx=> ?_⟩ hle,hN,Ck⟩
  simp only[Kav,Kaa]at hx
  obtain⟨rv,hrv,rfl⟩:=hx
  obtain⟨v,h2,h3⟩:=Af i rv hrv
  rw[wN,Kad,h2]
  exact h3
theorem L6{P:Program}(hP:C.P=P){fn:Func}{rs:List RV}{Rr:PV->Prop}(hc:fn.results.toList.mapM (kO P)=some rs)(h:Qr C ρ fr hp a.tmps w)(hr:ff rs Rr fr hp):
  ∃v r,(results fn a.tmps).run P w= .ok v w/\eG w C.X0 r v/\Rr r:=by
 obtain⟨v,r,h1,h2,_,h3⟩:=Iq hP hc h hr
 exact⟨v,r,h1,h2.mono (fun _ _ _=>rfl) (fun _ _ hn hx=>hn (.inl hx)) (Kaf _),h3⟩
theorem ZF{P:Program}(hP:C.P=P){fn:Func}{rs:List RV}{Rr:PV->Prop}(hc:fn.results.toList.mapM (kO P)=some rs)(h:Qr C ρ fr hp a.tmps w)(hr:ff rs Rr fr hp)
  {X:Nat->Prop} (hX:∀c,X c->C.X0 c∨∃β hb,aP β=true/\hp β=some hb/\hb.fz=false/\ρ β=some c):
  ∃v r,(results fn a.tmps).run P w= .ok v w/\eG w X r v/\Rr r:=by
 obtain⟨v,r,h1,h2,h3,h4⟩:=Iq hP hc h hr
 refine⟨v,r,h1,h2.mono (fun _ _ _=>rfl) (fun c _ hn hx=>hn ?_) (Kaf _),h4⟩
 rcases hX c hx with hx|⟨β,hb,k1,k2,k3,k4⟩
 ·exact .inl hx
 ·refine .inr ⟨β,hb,?_,k3,k4⟩
  have hn:β ∉ rs.flatMap (lr fr):=fun hl=>by rw[h3 β hl]at k1;cases k1
  unfold bV
  rw[if_neg (by simpa using hn)]
  exact k2
theorem acP {P : Program} {f : FuncId} {fn : Func} {sf : ay} {args : List PV} {Rr : PV -> Prop} (hm : P.follows .mixedOrders = true) (hf : P.funcs[f]? = some fn) (pn : (fn.name != "runtime.NumGoroutine") = true) (hc : Qe P fn = some sf) (hn : args.length <= sf.n /\ sf.n <= 1000000)
  (hv:∀C:Ctx,C.P=P->vc C (ff sf.rs Rr) [.c sf.body] (jT args) aA):Qd P f args Rr:=by
 simp only[Qe,Kab,Kaa]at hc
 obtain⟨c,hb,sb,jo,rs,dD,rfl⟩:=hc
 refine⟨by simp[qO,hf,hb];simpa using pn,fun w X bu hX dV gw=> ?_⟩
 let C:Ctx:=Ctx.plain P fn.ntmps w X hX hn.2
 refine calls_of_wp hf hb ?_
 have sU:(bu++Array.replicate (fn.ntmps-bu.size) undef).size=fn.ntmps:=by simp at hn ⊢;omega
 have nk:eu C (jT args) aA (bu++Array.replicate (fn.ntmps-bu.size) undef) w:=by
  refine⟨fun _=>none,sU,Ext.refl _ _,(fun _ _ h=>by cases h),by simp[aA],by simp[aA],fun i=> ?_⟩
  unfold jT
  cases hi:args[i]? with
  |none=>trivial
  | some p=>
   simp only[Kbe]
   have iV:i<bu.size:=by rw[dV];exact(Kae.1 hi).1
   have hr:=gw i p hi
   have e:(bu++Array.replicate (fn.ntmps-bu.size) undef).getD i undef=bu.getD i undef:=by
    rw[kQ,if_pos iV]
   rw[e]
   refine Qm.mu (hr.mono (fun _ _ _=>rfl) (fun b _ hn hx=> ?_) (Kaf _))
   rcases hx with hx|⟨_,_,h1,_⟩
   ·exact hn hx
   ·simp[aA]at h1
 have fin:∀(fr:Fr)(hp:HP)(a:Act)(w':World),a.defers=[]->eu C fr hp a.tmps w'->ff rs Rr fr hp->
   a.defers=[]/\∃v,(results fn a.tmps).run P w'= .ok v w'/\∃v' r,Ending.returned v= .returned v'/\Ext dL w w'/\eG w' X r v'/\Rr r:=by
  intro fr hp a w' hd ⟨ρ,hs⟩ hr
  obtain⟨v,r,h1,h2,h3⟩:=L6 (C:=C) rfl dD hs hr
  exact⟨hd,v,h1,v,r,rfl,Ctx.G5 hs.ext,h2,h3⟩
 exact Ip (C:=C) (R:=ff rs Rr) hm c sb [] _ (jT args) aA _ w jo ⟨fun fr hp a w' hd hs hv=>(by rw[vd]at hv;exact fin fr hp a w' hd hs hv),fun id dZ he=>(by simp[FW.ch]at he),fin⟩ rfl nk (hv C rfl)
end Go.FW
namespace Go.FW
open Go
variable {C : Ctx} {ρ : Nat -> Option Nat} {fr : Fr} {hp : HP} {w : World} {a : Act} {K R : Qh}
def dB(fr:Fr)(d:Option Nat)(r:PV):Fr:=match d with|some d=>ae fr d r|none=>fr
theorem Qm.G4{p:PV}{v:Value}(h:eG w (aK C ρ hp) p v):Qm C ρ hp w p v:=by
 cases p with
 |aI ps=>exact h
 |_=>exact Qm.mu h
theorem BL{tmps:Array Value}(h:Qr C ρ fr hp tmps w):∀b,aK C ρ hp b->b<w.heap.size:=by
 rintro b (hx|⟨β,hb,h1,_,h3⟩)
 ·exact Kbu (C.Cp b hx) h.ext.size
 ·have:=(h.own β hb h1).cL
  rw[h3]at this
  exact this.2.1
theorem Qr.Hc{tmps:Array Value}{d:Option Nat}(h:Qr C ρ fr hp tmps w){p:PV}{v:Value}(hv:Qm C ρ hp w p v)(hd:∀x,d=some x->x<C.N):Qr C ρ (dB fr d p) hp (vz tmps d v) w:=by
 cases d with
 |some d=>exact h.ae hv (hd d rfl)
 |none=>exact h
theorem Nj{tmps:Array Value}{first cap args:List PV}{fv cv av:Array Value}(hs:Qr C ρ fr hp tmps w)(h1:fv.size=first.length)(_h2:cv.size=cap.length)(h3:av.size=args.length)
  (qp:∀(i:Nat)(x:PV),first[i]? =some x->cK C ρ hp w x (fv.getD i undef)) (jt:∀(i:Nat)(x:PV),cap[i]? =some x->cK C ρ hp w x (cv.getD i undef)) (pq:∀(i:Nat)(x:PV),args[i]? =some x->Qm C ρ hp w x (av.getD i undef))
  (iE:((first++args++cap).map (aO hp)).all PV.aL=true):
  ∀(i:Nat)(x:PV),((first++args++cap).map (aO hp))[i]? =some x->bI w (aK C ρ (bV hp ((first++args++cap).flatMap PV.refs))) x ((fv++av++cv).getD i undef):=by
 intro i x hx
 rw[Kas]at iE
 have kJ:=iE x (Kaj hx)
 simp only[Kav,Kaa]at hx
 obtain⟨p,hp',rfl⟩:=hx
 have dn:=Kaj hp'
 have hl:∀β∈p.refs,β∈(first++args++cap).flatMap PV.refs:=fun β af=>Kat.2 ⟨p,dn,af⟩
 have We:∀ {p:PV} {v:Value},cK C ρ hp w p v->(aO hp p).aL=true->Qm C ρ hp w p v:=by
  intro p v hr hd
  cases p with
  |undef=>trivial
  |mp=>exact hr
  |aB=>exact hr
  |rb=>exact hr
  |np=>exact hr
  |aG=>exact hr
  |_=>exact Qm.mu (bI.rN hr)
 rw[kQ]
 rw[KaZ]at hp'
 by_cases c1:i<(first++args).length
 ·rw[if_pos c1]at hp'
  rw[if_pos (by simp only[Kcg,h1,h3];simpa using c1),kQ]
  rw[KaZ]at hp'
  by_cases c2:i<first.length
  ·rw[if_pos c2]at hp'
   rw[if_pos (by omega)]
   exact rU hs (We (qp i p hp') kJ) hl kJ
  ·rw[if_neg c2]at hp'
   rw[if_neg (by omega),h1]
   exact rU hs (pq _ p hp') hl kJ
 ·rw[if_neg c1]at hp'
  have dV:(fv++av).size=(first++args).length:=by simp[h1,h3]
  rw[if_neg (by omega),dV]
  exact rU hs (We (jt _ p hp') kJ) hl kJ
theorem L7{P:Program}(hP:C.P=P){g:FuncId}{first cap args aZ:List PV}{pr:Bool}{d:Option Nat}{Rr:PV->Prop}(h:Qd P g aZ Rr)(cl:(first++args++cap).map (aO hp)=aZ)(iE:aZ.all PV.aL=true)
  (hK:∀r,Rr r->K (dB fr d r) (bV hp ((first++args++cap).flatMap PV.refs))):fY C pr (.fn g first cap) args d fr hp K:=by
 subst hP
 refine⟨h.1,fun ρ tmps w fv cv av rk hs h1 h2 h3 qp jt pq=> ?_⟩
 have hf:=hs.freeze ((first++args++cap).flatMap PV.refs)
 refine(h.2 w _ (fv++av++cv) (BL hf) (by rw[<-cl];simp[h1,h2,h3]) (by rw[<-cl];exact Nj hs h1 h2 h3 qp jt pq (by rw[cl];exact iE))).mono ?_
 rintro e w' ⟨v,r,rfl,hx,hr,hRr⟩
 exact⟨v,_,_,rfl,⟨ρ,(hf.grow hx).Hc (Qm.G4 hr) rk⟩,fun _=>hx,hK r hRr⟩
theorem kS{P:Program}(hP:C.P=P){g:FuncId}{first cap args aZ:List PV}{pr:Bool}{d:Option Nat}{r:PV}(h:Qd P g aZ (· =r))(cl:(first++args++cap).map (aO hp)=aZ)(iE:aZ.all PV.aL=true)
  (hK:K (dB fr d r) (bV hp ((first++args++cap).flatMap PV.refs))):fY C pr (.fn g first cap) args d fr hp K:=
 L7 hP h cl iE (fun _ hr=>hr▸hK)
def PV.Lw:PV->Bool
 | .int .. | .bool _=>true
 | .aI ps=>ps.all fun p=>match p with| .int .. | .bool _=>true|_=>false
 |_=>false
theorem acQ{X X':Nat->Prop}{p:PV}{v:Value}(hs:p.Lw=true)(h:eG w X p v):eG w X' p v:=by
 have one:∀(p:PV)(v:Value),(match p with| .int .. | .bool _=>true|_=>false:Bool)=true->bI w X p v->bI w X' p v:=by
  intro p v hs h
  cases p with
  |int k n=>cases h;exact Qp.int k n
  |bool b=>cases h;exact Qp.bool b
  |_=>cases hs
 cases p with
 |int k n=>exact one (.int k n) v rfl h
 |bool b=>exact one (.bool b) v rfl h
 |aI ps=>
  obtain⟨vs,rfl,h1,h2⟩:=h
  simp only[PV.Lw,Kas]at hs
  exact⟨vs,rfl,h1,fun i x hx=>one x _ (hs x (Kaj hx)) (h2 i x hx)⟩
 |_=>cases hs
def kT(C:Ctx)(R:Qh)(c:PV)(x y:SC)(sk:List It)(fr:Fr)(hp:HP):Prop:=sg c (vc C R (.c x::sk) fr hp) (vc C R (.c y::sk) fr hp)
def tW(C:Ctx)(R:Qh)(x y:RT)(sk:List It)(fr:Fr)(hp:HP):Prop:=vc C R (.o x::sk) fr hp/\vc C R (.o y::sk) fr hp
def iM(C:Ctx)(p:PV)(s:Nat)(want:Bool)(o:cu)(fr:Fr)(hp:HP)(K:Qh):Prop:=match p with
  | .bool t=>(t=want->bK C o (ae fr s (.bool want)) hp K)/\(t=(!want)->jS o (ae fr s (.bool !want)) hp K)
  | .aI []=>jS o fr hp K
  |_=>False
theorem Qa{p:Prop}[Decidable p]{x y:SC}{sk:List It}(h1:p->vc C R (.c x::sk) fr hp)(h2:¬p->vc C R (.c y::sk) fr hp):kT C R (.bool (decide p)) x y sk fr hp:=
 ⟨fun h=>h1 (of_decide_eq_true h),fun h=>h2 (of_decide_eq_false h)⟩
theorem AT{b:Bool}{x y:SC}{sk:List It}(h1:b=true->vc C R (.c x::sk) fr hp)(h2:b=false->vc C R (.c y::sk) fr hp):kT C R (.bool b) x y sk fr hp:=⟨h1,h2⟩
theorem fV{p:Prop}[Decidable p]{s:Nat}{o:cu}(h1:p->iM C (.bool true) s true o (ae fr s (.bool true)) hp K)(h2:¬p->iM C (.bool false) s true o (ae fr s (.bool false)) hp K):iM C (.bool (decide p)) s true o fr hp K:=by
 have hu:∀(b:Bool),ae (ae fr s (.bool b)) s (.bool b)=ae fr s (.bool b):=fun b=>by funext i;unfold ae;split<;>rfl
 refine⟨fun h=> ?_,fun h=> ?_⟩
 ·have:=(h1 (of_decide_eq_true h)).1 rfl
  rwa[hu]at this
 ·have:=(h2 (of_decide_eq_false h)).2 rfl
  rwa[show(!true)=false from rfl,hu]at this
theorem Qx{p:Prop}[Decidable p]{s:Nat}{o:cu}(h1:p->iM C (.bool true) s false o (ae fr s (.bool true)) hp K)(h2:¬p->iM C (.bool false) s false o (ae fr s (.bool false)) hp K):iM C (.bool (decide p)) s false o fr hp K:=by
 have hu:∀(b:Bool),ae (ae fr s (.bool b)) s (.bool b)=ae fr s (.bool b):=fun b=>by funext i;unfold ae;split<;>rfl
 refine⟨fun h=> ?_,fun h=> ?_⟩
 ·have:=(h2 (of_decide_eq_false h)).1 rfl
  rwa[hu]at this
 ·have:=(h1 (of_decide_eq_true h)).2 rfl
  rwa[show(!false)=true from rfl,hu]at this
theorem yL{b want:Bool}{s:Nat}{o:cu}(h1:b=true->iM C (.bool true) s want o (ae fr s (.bool true)) hp K)(h2:b=false->iM C (.bool false) s want o (ae fr s (.bool false)) hp K):iM C (.bool b) s want o fr hp K:=by
 have:= @fV C fr hp K (b=true) _ s o
 have e:b=decide (b=true):=by cases b<;>rfl
 rw[e]
 cases want with
 |true=>exact fV h1 (fun h=>h2 (by simpa using h))
 |false=>exact Qx h1 (fun h=>h2 (by simpa using h))
theorem acR{sk:List It}{c:aS}{x y:SC}:vc C R (.c (.cond c x y)::sk) fr hp=kT C R (ev fr c) x y sk fr hp:=Fb
theorem ah1{sk:List It}{x y:RT}:vc C R (.o (.br x y)::sk) fr hp=tW C R x y sk fr hp:=QO
theorem ah2{sk:List It}{o:cu}{r:RT}:vc C R (.o (.o none o r)::sk) fr hp=bK C o fr hp (vc C R (.o r::sk)):=BR
theorem ah3{sk:List It}{s:Nat}{b:Bool}{o:cu}{r:RT}:vc C R (.o (.o (some (s,b)) o r)::sk) fr hp=iM C (fr s) s b o fr hp (vc C R (.o r::sk)):=BR
theorem vcs:
  (∀(C:Ctx)(R:Qh)(sk:List It)(x y:SC)(fr:Fr)(hp:HP),vc C R (.c (.seq x y)::sk) fr hp=vc C R (.c x:: .c y::sk) fr hp)/\
  (∀(C:Ctx)(R:Qh)(sk:List It)(id:Nat)(x:SC)(fr:Fr)(hp:HP),vc C R (.c (.block id x)::sk) fr hp=vc C R (.c x:: .eb id::sk) fr hp)/\
  (∀(C:Ctx)(R:Qh)(sk:List It)(fr:Fr)(hp:HP),vc C R (.c .skip::sk) fr hp=vc C R sk fr hp)/\
  (∀(C:Ctx)(R:Qh)(sk:List It)(r:RT)(fr:Fr)(hp:HP),vc C R (.c (.rg r)::sk) fr hp=vc C R (.o r::sk) fr hp)/\
  (∀(C:Ctx)(R:Qh)(sk:List It)(id:Nat)(fr:Fr)(hp:HP),vc C R (.eb id::sk) fr hp=vc C R sk fr hp)/\
  (∀(C:Ctx)(R:Qh)(sk:List It)(J:Qh)(fr:Fr)(hp:HP),vc C R (.el J::sk) fr hp=J fr hp)/\
  (∀(C:Ctx)(R:Qh)(sk:List It)(fr:Fr)(hp:HP),vc C R (.c .ret::sk) fr hp=R fr hp)/\
  (∀(C:Ctx)(R:Qh)(fr:Fr)(hp:HP),vc C R [] fr hp=R fr hp)/\
  (∀(C:Ctx)(R:Qh)(sk:List It)(c:aS)(x y:SC)(fr:Fr)(hp:HP),vc C R (.c (.cond c x y)::sk) fr hp=kT C R (ev fr c) x y sk fr hp)/\
  (∀(C:Ctx)(R:Qh)(sk:List It)(id:Nat)(fr:Fr)(hp:HP),vc C R (.c (.exit id)::sk) fr hp=xh C R (FW.ch id sk) fr hp)/\
  (∀(C:Ctx)(R:Qh)(sk:List It)(fr:Fr)(hp:HP),vc C R (.o .nil::sk) fr hp=vc C R sk fr hp)/\
  (∀(C:Ctx)(R:Qh)(sk:List It)(o:cu)(r:RT)(fr:Fr)(hp:HP),vc C R (.o (.o none o r)::sk) fr hp=bK C o fr hp (vc C R (.o r::sk)))/\
  (∀(C:Ctx)(R:Qh)(sk:List It)(s:Nat)(b:Bool)(o:cu)(r:RT)(fr:Fr)(hp:HP),vc C R (.o (.o (some (s,b)) o r)::sk) fr hp=iM C (fr s) s b o fr hp (vc C R (.o r::sk)))/\
  (∀(C:Ctx)(R:Qh)(sk:List It)(x y:RT)(fr:Fr)(hp:HP),vc C R (.o (.br x y)::sk) fr hp=tW C R x y sk fr hp)/\
  (∀(C:Ctx)(R:Qh)(x y:SC)(sk:List It)(fr:Fr)(hp:HP),kT C R (.bool true) x y sk fr hp=vc C R (.c x::sk) fr hp)/\
  (∀(C:Ctx)(R:Qh)(x y:SC)(sk:List It)(fr:Fr)(hp:HP),kT C R (.bool false) x y sk fr hp=vc C R (.c y::sk) fr hp)/\
  (∀(C:Ctx)(R:Qh)(sk:List It)(fr:Fr)(hp:HP),xh C R (some sk) fr hp=vc C R sk fr hp)/\
  (∀(id:Nat)(s:SC)(sk:List It),FW.ch id (.c s::sk)=FW.ch id sk)/\
  (∀(id:Nat)(r:RT)(sk:List It),FW.ch id (.o r::sk)=FW.ch id sk)/\
  (∀(id:Nat)(J:Qh)(sk:List It),FW.ch id (.el J::sk)=FW.ch id sk)/\
  (∀(id i:Nat)(sk:List It),FW.ch id (.eb i::sk)=if i=id then some sk else FW.ch id sk)/\
  (∀(C:Ctx)(s:Nat)(o:cu)(fr:Fr)(hp:HP)(K:Qh),iM C (.bool true) s true o fr hp K=bK C o (ae fr s (.bool true)) hp K)/\
  (∀(C:Ctx)(s:Nat)(o:cu)(fr:Fr)(hp:HP)(K:Qh),iM C (.bool false) s true o fr hp K=jS o (ae fr s (.bool false)) hp K)/\
  (∀(C:Ctx)(s:Nat)(o:cu)(fr:Fr)(hp:HP)(K:Qh),iM C (.bool true) s false o fr hp K=jS o (ae fr s (.bool true)) hp K)/\
  (∀(C:Ctx)(s:Nat)(o:cu)(fr:Fr)(hp:HP)(K:Qh),iM C (.bool false) s false o fr hp K=bK C o (ae fr s (.bool false)) hp K)/\
  (∀(C:Ctx)(s:Nat)(b:Bool)(o:cu)(fr:Fr)(hp:HP)(K:Qh),iM C (.aI []) s b o fr hp K=jS o fr hp K):=by
 refine⟨fun _ _ _ _ _ _ _=>FB,fun _ _ _ _ _ _ _=>ED,fun _ _ _ _ _=>Fj,fun _ _ _ _ _ _=>HF,fun _ _ _ _ _ _=>Di,fun _ _ _ _ _ _=>xg,fun _ _ _ _ _=>Fx,fun _ _ _ _=>vd,fun _ _ _ _ _ _ _ _=>acR,
  fun _ _ _ _ _ _=>Fc,fun _ _ _ _ _=>BK,fun _ _ _ _ _ _ _=>ah2,fun _ _ _ _ _ _ _ _ _=>ah3,fun _ _ _ _ _ _ _=>ah1,fun _ _ _ _ _ _ _=> ?_,fun _ _ _ _ _ _ _=> ?_,fun _ _ _ _ _=>rfl,fun _ _ _=>rfl,fun _ _ _=>rfl,fun _ _ _=>rfl,fun _ _ _=>rfl,?_,?_,?_,?_,fun _ _ _ _ _ _ _=>rfl⟩
 ·simp[kT,sg]
 ·simp[kT,sg]
 all_goals intros;simp[iM]
end Go.FW
namespace Go.FW
open Go
variable {C : Ctx} {fr : Fr} {hp : HP} {K R : Qh}
theorem w6{n:Int}(h1: -9223372036854775808<=n)(h2:n<=9223372036854775807):IntKind.i64.wrap n=n:=by rw[IntKind.wrap_i64];omega
theorem acS{n:Int}(h1: -2147483648<=n)(h2:n<=2147483647):IntKind.i32.wrap n=n:=by rw[IntKind.wrap_i32];omega
theorem tu{n:Int}(h1:0<=n)(h2:n<=18446744073709551615):IntKind.u64.wrap n=n:=by rw[IntKind.wrap_u64];omega
theorem EE{n:Int}(h1:0<=n)(h2:n<=4294967295):IntKind.u32.wrap n=n:=by rw[IntKind.wrap_u32];omega
theorem acT{n:Int}(h1:0<=n)(h2:n<=65535):IntKind.u16.wrap n=n:=by simp only[IntKind.wrap,IntKind.bits,IntKind.signed];simp;omega
theorem aed{n:Int}(h1:0<=n)(h2:n<=255):IntKind.u8.wrap n=n:=by rw[IntKind.wrap_u8];omega
theorem aee{x y:Int}(h:0<=x):x.tdiv y=x/y:=Int.tdiv_eq_ediv_of_nonneg h
theorem aeG{x y:Int}(h:0<=x):x.tmod y=x%y:=Int.tmod_eq_emod_of_nonneg h
def mm(hb:Option HB)(n:Nat)(ag:Bool)(i o:Nat)(d:Nat)(fr:Fr)(hp:HP)(K:Qh):Prop:=match hb with
 |some hb=>∃h:i<hb.xs.length,o+n<=hb.e/\(ag=false->n=1)/\K (ae fr d (eE ag n o (hb.xs[i]'h))) hp
 |none=>False
def stM (hb:Option HB) (β:Nat) (n:Nat) (i o:Nat) (v:PV) (fr:Fr) (hp:HP) (K:Qh):Prop:=match hb with
  |some hb=>hb.fz=false/\v.aL=true/\v.cells.length=n/\∃h:i<hb.xs.length,o+n<=hb.e/\
        K fr (Qi hp β { hb with xs:=hb.xs.set i (if n=hb.e then v else tc (hb.xs[i]'h) o v) })
  |none=>False
def zL(R:PV->Prop)(p:PV):Prop:=p.aL=true/\∃q,PV.le p q/\R q
theorem Qc{p r:PV}(h:p=r)(hd:r.aL=true):zL (· =r) p:=by subst h;exact⟨hd,_,Qn _,rfl⟩
theorem oI{p r:PV}(h:PV.le p r)(hd:p.aL=true):zL (· =r) p:=⟨hd,_,h,rfl⟩
theorem OH{e ty n:Nat}{ag fz:Bool}{o d:Nat}{x:PV}(h:o+n<=e)(ha:ag=false->n=1):mm (some ⟨e,ty,[x],fz⟩) n ag 0 o d fr hp K=K (ae fr d (eE ag n o x)) hp:=by
 simp[mm,h];intro _;exact ha
theorem ve{e ty n i:Nat}{ag fz:Bool}{o d:Nat}{xs:List PV}(h:i<xs.length)(h1:o+n<=e)(ha:ag=false->n=1):mm (some ⟨e,ty,xs,fz⟩) n ag i o d fr hp K=K (ae fr d (eE ag n o (xs[i]'h))) hp:=by
 simp[mm,h,h1];intro _;exact ha
theorem ah4{e ty n β i:Nat}{o:Nat}{xs:List PV}{v:PV}(h:i<xs.length)(hv:v.aL=true)(hl:v.cells.length=n)(h1:o+n<=e):stM (some ⟨e,ty,xs,false⟩) β n i o v fr hp K=K fr (Qi hp β ⟨e,ty,xs.set i (if n=e then v else tc (xs[i]'h) o v),false⟩):=by
 simp[stM,h,h1,hv,hl]
theorem wQ{ty n β i:Nat}{xs:List PV}{v:PV}(h:i<xs.length)(hv:v.aL=true)(hl:v.cells.length=n):stM (some ⟨n,ty,xs,false⟩) β n i 0 v fr hp K=K fr (Qi hp β ⟨n,ty,xs.set i v,false⟩):=by
 rw[ah4 h hv hl (by omega)];simp
theorem Ho{e d:Nat}{k:IntKind}{m:Int}{xs:List PV}(h0:0<=m)(h:m<xs.length):iR e (.sl e xs) (.int k m) d fr hp K=K (ae fr d (.pt (xs[m.toNat]'(by omega)).cells)) hp:=by
 have:m.toNat<xs.length:=by omega
 simp[iR,h0,this]
theorem zf{α:Type}{f:α->PV}{e d:Nat}{k:IntKind}{m:Int}{xs:List α}(h0:0<=m)(h:m<xs.length):iR e (.sl e (xs.map f)) (.int k m) d fr hp K=K (ae fr d (.pt (f (xs[m.toNat]'(by omega))).cells)) hp:=by
 rw[Ho h0 (by simpa using h)];simp
theorem ah5{e d β o n:Nat}{k:IntKind}{m:Int}(h0:0<=m)(h:m<n)(he:(hp β).map (·.e)=some e):iR e (.aB β o n) (.int k m) d fr hp K=K (ae fr d (.mp β (o+m.toNat) 0)) hp:=by
 have:m.toNat<n:=by omega
 simp[iR,h0,this,he]
theorem Dj{e by_ ty d:Nat}{z:PV}{k k':IntKind}{L Cc:Int}(h0:0<e)(hz:z.cells.length=e)(h1:0<=L)(h2:L<=Cc)(h3:by_*Cc<=281474976710656)(h4:Cc<=9223372036854775807):
  ot e by_ ty z (.int k L) (.int k' Cc) d fr hp K=K (ae (cx d fr) d (.ms d L.toNat)) (Qi hp d ⟨e,ty,List.replicate L.toNat z,false⟩):=by
 simp[ot,h0,hz,h1,h2,h3,h4]
theorem ah6{n ty d β o m:Nat}(hB:aP β=true):iB n ty (.aB β o m) d fr hp K=K (ae fr d (.rb β o m)) hp:=by
 simp[iB,hB]
theorem akT{d β o m:Nat}:iW 1 false (.rb β o m) d fr hp K=K (ae fr d (.aB β o m)) hp:=by simp[iW]
theorem Ir{e by_ ty d:Nat}{x:PV}{ys:List PV}(hs:jd hp x=some (e,ys))(h0:0<e)(h1:ys.length*by_<=140737488355328)(h2:ys.length<=9223372036854775807):
  iC e by_ ty .al x d fr hp K=K (ae (cx d fr) d (.ms d ys.length)) (Qi hp d ⟨e,ty,ys,false⟩):=by
 simp[iC,hs,h0,h1,h2]
theorem Is{e by_ ty d β n:Nat}{x:PV}{ys xs:List PV}(hs:jd hp x=some (e,ys))(hb:hp β=some ⟨e,ty,xs,false⟩)(h0:0<e)(hn:n<=xs.length)(h1:(n+ys.length)*by_<=140737488355328)(h2:n+ys.length<=9223372036854775807)(hB:bE β=false:=by decide):
  iC e by_ ty (.ms β n) x d fr hp K=K (ae (cx β fr) d (.ms β (n+ys.length))) (Qi hp β ⟨e,ty,xs.take n++ys,false⟩):=by
 simp[iC,hs,hb,h0,hn,h1,h2,hB]
theorem HG{e d:Nat}{xs:List PV}{lo hi:Option PV}{L H:Int}(h1:iK 0 lo=some L)(h2:iK xs.length hi=some H)(h3:0<=L)(h4:L<=H)(h5:H<=xs.length):
  iZ e (.sl e xs) lo hi none d fr hp K=K (ae fr d (.sl e ((xs.take H.toNat).drop L.toNat))) hp:=by
 have hM:iK (xs.length) none=some (xs.length:Int):=rfl
 simp only[iZ,h1,h2,hM]
 simp[h3,h4,h5]
theorem akU{e d:Nat}{xs:List PV}{k:IntKind}{H:Int}(h4:0<=H)(h5:H<=xs.length):
  iZ e (.sl e xs) none (some (.int k H)) none d fr hp K=K (ae fr d (.sl e (xs.take H.toNat))) hp:=by
 rw[HG (L:=0) (H:=H) rfl rfl (by omega) h4 h5];simp
theorem akV{e d:Nat}{xs:List PV}{k:IntKind}{L:Int}(h4:0<=L)(h5:L<=xs.length):
  iZ e (.sl e xs) (some (.int k L)) none none d fr hp K=K (ae fr d (.sl e (xs.drop L.toNat))) hp:=by
 rw[HG (L:=L) (H:=xs.length) rfl rfl h4 h5 (by omega)];simp
theorem arq:
  (∀(C:Ctx)(d:Nat)(x:aS)(fr:Fr)(hp:HP)(K:Qh),bK C (.mv d x) fr hp K=K (ae fr d (ev fr x)) hp)/\
  (∀(C:Ctx)(d:Nat)(c a b:aS)(fr:Fr)(hp:HP)(K:Qh),bK C (.pick d c a b) fr hp K=tJ (ev fr c) (ev fr a) (ev fr b) d fr hp K)/\
  (∀(C:Ctx)(d:Nat)(op:BinOp)(bt:Bool)(a b:aS)(fr:Fr)(hp:HP)(K:Qh),bK C (.bin d op bt a b) fr hp K=ca op bt (ev fr a) (ev fr b) d fr hp K)/\
  (∀(C:Ctx)(d:Nat)(op:UnOp)(a:aS)(fr:Fr)(hp:HP)(K:Qh),bK C (.un d op a) fr hp K=wF op (ev fr a) d fr hp K)/\
  (∀(C:Ctx)(d:Nat)(k:IntKind)(a:aS)(fr:Fr)(hp:HP)(K:Qh),bK C (.conv d k a) fr hp K=xf k (ev fr a) d fr hp K)/\
  (∀(C:Ctx)(d:Nat)(a:aS)(fr:Fr)(hp:HP)(K:Qh),bK C (.len d a) fr hp K=pW (ev fr a) d fr hp K)/\
  (∀(C:Ctx)(d:Nat)(a b:aS)(fr:Fr)(hp:HP)(K:Qh),bK C (.mx d a b) fr hp K=yy (ev fr a) (ev fr b) d fr hp K)/\
  (∀(C:Ctx)(d:Nat)(a b:aS)(fr:Fr)(hp:HP)(K:Qh),bK C (.mn d a b) fr hp K=yw (ev fr a) (ev fr b) d fr hp K)/\
  (∀(C:Ctx)(d e:Nat)(a b:aS)(fr:Fr)(hp:HP)(K:Qh),bK C (.idx d e a b) fr hp K=iR e (ev fr a) (ev fr b) d fr hp K)/\
  (∀(C:Ctx)(d n e:Nat)(a b:aS)(fr:Fr)(hp:HP)(K:Qh),bK C (.Ai d n e a b) fr hp K=vj n e (ev fr a) (ev fr b) d fr hp K)/\
  (∀(C:Ctx)(d n e:Nat)(ag:Bool)(a b:aS)(fr:Fr)(hp:HP)(K:Qh),bK C (.Aj d n e ag a b) fr hp K=vw n e ag (ev fr a) (ev fr b) d fr hp K)/\
  (∀(C:Ctx)(d off:Nat)(a:aS)(fr:Fr)(hp:HP)(K:Qh),bK C (.fP d off a) fr hp K=su off (ev fr a) d fr hp K)/\
  (∀(C:Ctx)(d off n:Nat)(ag:Bool)(a:aS)(fr:Fr)(hp:HP)(K:Qh),bK C (.zT d off n ag a) fr hp K=r9 off n ag (ev fr a) d fr hp K)/\
  (∀(C:Ctx)(d n:Nat)(ag:Bool)(a:aS)(fr:Fr)(hp:HP)(K:Qh),bK C (.ld d n ag a) fr hp K=iW n ag (ev fr a) d fr hp K)/\
  (∀(C:Ctx)(n:Nat)(a b:aS)(fr:Fr)(hp:HP)(K:Qh),bK C (.st n a b) fr hp K=ow n (ev fr a) (ev fr b) fr hp K)/\
  (∀(C:Ctx)(d n ty:Nat)(a:aS)(fr:Fr)(hp:HP)(K:Qh),bK C (.box d n ty a) fr hp K=iB n ty (ev fr a) d fr hp K)/\
  (∀(C:Ctx)(d n ty:Nat)(z:PV)(fr:Fr)(hp:HP)(K:Qh),bK C (.alloc d n ty z) fr hp K=iB n ty z d fr hp K)/\
  (∀(C:Ctx)(d e by_ ty:Nat)(z:PV)(l c:aS)(fr:Fr)(hp:HP)(K:Qh),bK C (.mk d e by_ ty z l c) fr hp K=ot e by_ ty z (ev fr l) (ev fr c) d fr hp K)/\
  (∀(C:Ctx)(d e ty:Nat)(ps:List aS)(fr:Fr)(hp:HP)(K:Qh),bK C (.bs d e ty ps) fr hp K=lV e ty (ps.map (ev fr)) d fr hp K)/\
  (∀(C:Ctx)(d e by_ ty:Nat)(a b:aS)(fr:Fr)(hp:HP)(K:Qh),bK C (.app d e by_ ty a b) fr hp K=iC e by_ ty (ev fr a) (ev fr b) d fr hp K)/\
  (∀(C:Ctx)(d e:Nat)(a b:aS)(fr:Fr)(hp:HP)(K:Qh),bK C (.tZ d e a b) fr hp K=qL e (ev fr a) (ev fr b) d fr hp K)/\
  (∀(C:Ctx)(d e:Nat)(a:aS)(l h m:Option aS)(fr:Fr)(hp:HP)(K:Qh),bK C (.sl d e a l h m) fr hp K=iZ e (ev fr a) (l.map (ev fr)) (h.map (ev fr)) (m.map (ev fr)) d fr hp K)/\
  (∀(C:Ctx)(d:Nat)(a:aS)(i:Nat)(fr:Fr)(hp:HP)(K:Qh),bK C (.ext d a i) fr hp K=qM (ev fr a) i d fr hp K)/\
  (∀(C:Ctx)(d:Nat)(z:List PV)(ps:List (Nat×Nat×aS))(fr:Fr)(hp:HP)(K:Qh),bK C (.eA d z ps) fr hp K=mV z (ps.map fun p=>(p.1,p.2.1,ev fr p.2.2)) d fr hp K)/\
  (∀(C:Ctx)(d f:Nat)(x y:List aS)(fr:Fr)(hp:HP)(K:Qh),bK C (.fn d f x y) fr hp K=((x.map (ev fr)++y.map (ev fr)).all PV.lC=true/\K (ae fr d (.fn f (x.map (ev fr)) (y.map (ev fr)))) hp))/\
  (∀(C:Ctx)(d:Option Nat)(pr:Bool)(f:aS)(Tt:List aS)(fr:Fr)(hp:HP)(K:Qh),bK C (.call d pr f Tt) fr hp K=fY C pr (ev fr f) (Tt.map (ev fr)) d fr hp K)/\
  (∀(C:Ctx)(d:Option Nat)(x:aS)(fr:Fr)(hp:HP)(K:Qh),bK C (.C1 d x) fr hp K=BQ (ev fr x) d fr hp K)/\
  (∀(fr:Fr)(n:Nat),ev fr (.t n)=fr n)/\(∀(fr:Fr)(p:PV),ev fr (.c p)=p):=by
 refine⟨?_,?_,?_,?_,?_,?_,?_,?_,?_,?_,?_,?_,?_,?_,?_,?_,?_,?_,?_,?_,?_,?_,?_,?_,?_,?_,?_,?_,?_⟩<;>intros<;>rfl
theorem art:
  (∀(bt:Bool)(k:IntKind)(x y:Int)(d:Nat)(fr:Fr)(hp:HP)(K:Qh),ca .add bt (.int k x) (.int k y) d fr hp K=K (ae fr d (.int k (k.wrap (x+y)))) hp)/\
  (∀(bt:Bool)(k:IntKind)(x y:Int)(d:Nat)(fr:Fr)(hp:HP)(K:Qh),ca .sub bt (.int k x) (.int k y) d fr hp K=K (ae fr d (.int k (k.wrap (x-y)))) hp)/\
  (∀(bt:Bool)(k:IntKind)(x y:Int)(d:Nat)(fr:Fr)(hp:HP)(K:Qh),ca .mul bt (.int k x) (.int k y) d fr hp K=K (ae fr d (.int k (k.wrap (x*y)))) hp)/\
  (∀(bt:Bool)(k:IntKind)(x y:Int)(d:Nat)(fr:Fr)(hp:HP)(K:Qh),ca .eql bt (.int k x) (.int k y) d fr hp K=K (ae fr d (.bool (decide (x=y)))) hp)/\
  (∀(bt:Bool)(k:IntKind)(x y:Int)(d:Nat)(fr:Fr)(hp:HP)(K:Qh),ca .neq bt (.int k x) (.int k y) d fr hp K=K (ae fr d (.bool (decide (¬x=y)))) hp)/\
  (∀(bt:Bool)(k:IntKind)(x y:Int)(d:Nat)(fr:Fr)(hp:HP)(K:Qh),ca .lss bt (.int k x) (.int k y) d fr hp K=K (ae fr d (.bool (decide (x<y)))) hp)/\
  (∀(bt:Bool)(k:IntKind)(x y:Int)(d:Nat)(fr:Fr)(hp:HP)(K:Qh),ca .leq bt (.int k x) (.int k y) d fr hp K=K (ae fr d (.bool (decide (x<=y)))) hp)/\
  (∀(bt:Bool)(k:IntKind)(x y:Int)(d:Nat)(fr:Fr)(hp:HP)(K:Qh),ca .gtr bt (.int k x) (.int k y) d fr hp K=K (ae fr d (.bool (decide (y<x)))) hp)/\
  (∀(bt:Bool)(k:IntKind)(x y:Int)(d:Nat)(fr:Fr)(hp:HP)(K:Qh),ca .geq bt (.int k x) (.int k y) d fr hp K=K (ae fr d (.bool (decide (y<=x)))) hp)/\
  (∀(x y:Bool)(d:Nat)(fr:Fr)(hp:HP)(K:Qh),ca .eql true (.bool x) (.bool y) d fr hp K=K (ae fr d (.bool (x==y))) hp)/\
  (∀(x y:Bool)(d:Nat)(fr:Fr)(hp:HP)(K:Qh),ca .neq true (.bool x) (.bool y) d fr hp K=K (ae fr d (.bool (!(x==y)))) hp)/\
  (∀(b:Bool)(d:Nat)(fr:Fr)(hp:HP)(K:Qh),wF .not (.bool b) d fr hp K=K (ae fr d (.bool (!b))) hp)/\
  (∀(k:IntKind)(n:Int)(d:Nat)(fr:Fr)(hp:HP)(K:Qh),wF .neg (.int k n) d fr hp K=K (ae fr d (.int k (k.wrap (0-n)))) hp)/\
  (∀(k k':IntKind)(n:Int)(d:Nat)(fr:Fr)(hp:HP)(K:Qh),xf k (.int k' n) d fr hp K=K (ae fr d (.int k (k.wrap n))) hp)/\
  (∀(d:Nat)(fr:Fr)(hp:HP)(K:Qh),pW .al d fr hp K=K (ae fr d (.int .i64 0)) hp)/\
  (∀(e:Nat)(xs:List PV)(d:Nat)(fr:Fr)(hp:HP)(K:Qh),pW (.sl e xs) d fr hp K=K (ae fr d (.int .i64 xs.length)) hp)/\
  (∀(β o n:Nat)(d:Nat)(fr:Fr)(hp:HP)(K:Qh),pW (.aB β o n) d fr hp K=K (ae fr d (.int .i64 n)) hp)/\
  (∀(k k':IntKind)(x y:Int)(d:Nat)(fr:Fr)(hp:HP)(K:Qh),yy (.int k x) (.int k' y) d fr hp K=K (ae fr d (.int k (max x y))) hp)/\
  (∀(k k':IntKind)(x y:Int)(d:Nat)(fr:Fr)(hp:HP)(K:Qh),yw (.int k x) (.int k' y) d fr hp K=K (ae fr d (.int k (min x y))) hp)/\
  (∀(a b:PV)(d:Nat)(fr:Fr)(hp:HP)(K:Qh),tJ (.bool true) a b d fr hp K=K (ae fr d a) hp)/\
  (∀(a b:PV)(d:Nat)(fr:Fr)(hp:HP)(K:Qh),tJ (.bool false) a b d fr hp K=K (ae fr d b) hp)/\
  (∀(off β i o:Nat)(d:Nat)(fr:Fr)(hp:HP)(K:Qh),su off (.mp β i o) d fr hp K=K (ae fr d (.mp β i (o+off))) hp)/\
  (∀(n:Nat)(ag:Bool)(β i o:Nat)(d:Nat)(fr:Fr)(hp:HP)(K:Qh),iW n ag (.mp β i o) d fr hp K=mm (hp β) n ag i o d fr hp K)/\
  (∀(c:PV)(cs:List PV)(d:Nat)(fr:Fr)(hp:HP)(K:Qh),iW 1 false (.pt (c::cs)) d fr hp K=K (ae fr d c) hp)/\
  (∀(n:Nat)(β i o:Nat)(v:PV)(fr:Fr)(hp:HP)(K:Qh),ow n (.mp β i o) v fr hp K=stM (bV hp v.refs β) β n i o (aO hp v) fr (bV hp v.refs) K)/\
  (∀(ps:List PV)(p:PV)(d:Nat)(fr:Fr)(hp:HP)(K:Qh),qM (.aI (p::ps)) 0 d fr hp K=(p.aL=true/\K (ae fr d p) hp))/\
  (∀(ps:List PV)(p q:PV)(d:Nat)(fr:Fr)(hp:HP)(K:Qh),qM (.aI (p::q::ps)) 1 d fr hp K=(q.aL=true/\K (ae fr d q) hp))/\
  (∀(ps:List PV)(p q r:PV)(d:Nat)(fr:Fr)(hp:HP)(K:Qh),qM (.aI (p::q::r::ps)) 2 d fr hp K=(r.aL=true/\K (ae fr d r) hp))/\
  (∀(s:Nat)(Rr:PV->Prop)(fr:Fr)(hp:HP),ff [.t s] Rr fr hp=zL Rr (aO hp (fr s)))/\
  (∀(e:Nat)(xs:List PV),jd aA (.sl e xs)=some (e,xs))/\
  (∀(hp:HP),bV hp []=hp)/\
  (∀(fr:Fr)(r:PV),dB fr none r=fr)/\(∀(fr:Fr)(d:Nat)(r:PV),dB fr (some d) r=ae fr d r)/\
  (∀(β:Nat)(fr:Fr)(i:Nat),cx β fr i=cd β (fr i)):=by
 refine⟨?_,?_,?_,?_,?_,?_,?_,?_,?_,?_,?_,?_,?_,?_,?_,?_,?_,?_,?_,?_,?_,?_,?_,?_,?_,?_,?_,?_,?_,?_,?_,?_,?_,?_⟩<;>intros
 all_goals first
  |rfl
  |(simp[ca,tJ,qM,iW,eE,PV.cells,ow,stM];done)
  |(simp[ca,tJ,qM,iW,eE,PV.cells,ow,stM];try rfl)
  |skip
end Go.FW
namespace Go.FW
open Go
variable {C : Ctx} {ρ : Nat -> Option Nat} {fr : Fr} {hp : HP} {w : World} {K R : Qh}
theorem PA(i β e ty:Nat)(he:0<e)(hi:fr i= .al)(hB:bE β=false:=by decide):Wk fr hp (ae (cx β fr) i (.ms β 0)) (Qi hp β ⟨e,ty,[],false⟩):=by
 rintro C tmps w ⟨ρ,hs⟩
 have hr:=hs.rebind (w':=w) β none ⟨e,ty,[],false⟩ hB (Ext.refl _ _) (by simp) he (by simp) (by simp) (by simp)
 refine⟨_,hr.sz,hr.ext,hr.fp,hr.own,hr.inj,fun j=> ?_⟩
 unfold ae
 split
 ·rename_i hj
  subst hj
  have:=hs.cS j
  rw[hi]at this
  have e:=Qm.yz this
  exact⟨_,by simp[Qi];rfl,by simp,.inl ⟨ja _ _ _,e,rfl,rfl⟩⟩
 ·exact hr.cS j
end Go.FW
namespace Go.FW
open Go
variable {C : Ctx} {ρ : Nat -> Option Nat} {fr : Fr} {hp : HP} {w : World} {K R : Qh}
theorem aeH(fr:Fr)(a:Nat)(v w:PV):ae (ae fr a v) a w=ae fr a w:=by funext i;unfold ae;split<;>rfl
theorem IT{α:Type}{f:α->PV}{e d:Nat}{xs:List α}{k:IntKind}{H:Int}(h4:0<=H)(h5:H<=xs.length):
  iZ e (.sl e (xs.map f)) none (some (.int k H)) none d fr hp K=K (ae fr d (.sl e ((xs.take H.toNat).map f))) hp:=by
 rw[akU h4 (by simpa using h5)];simp
theorem aa3{α:Type}{f:α->PV}{e d:Nat}{xs:List α}{k:IntKind}{L:Int}(h4:0<=L)(h5:L<=xs.length):
  iZ e (.sl e (xs.map f)) (some (.int k L)) none none d fr hp K=K (ae fr d (.sl e ((xs.drop L.toNat).map f))) hp:=by
 rw[akV h4 (by simpa using h5)];simp
theorem Xs{α:Type}{f:α->PV}{e d:Nat}{xs:List α}{k k':IntKind}{L H:Int}(h3:0<=L)(h4:L<=H)(h5:H<=xs.length):
  iZ e (.sl e (xs.map f)) (some (.int k L)) (some (.int k' H)) none d fr hp K=K (ae fr d (.sl e (((xs.take H.toNat).drop L.toNat).map f))) hp:=by
 rw[HG (L:=L) (H:=H) rfl rfl h3 h4 (by simpa using h5)];simp
theorem aeI(hp:HP)(e:Nat)(xs:List PV):aO hp (.sl e xs)= .sl e xs:=rfl
theorem acU(hp:HP)(k:IntKind)(n:Int):aO hp (.int k n)= .int k n:=rfl
theorem aa4(hp:HP)(b:Bool):aO hp (.bool b)= .bool b:=rfl
theorem acV(hp:HP)(cs:List PV):aO hp (.agg cs)= .agg cs:=rfl
theorem acW(hp:HP):aO hp .al= .al:=rfl
theorem JJ(hp:HP)(β n:Nat)(e ty:Nat)(xs:List PV)(fz:Bool)(h:hp β=some ⟨e,ty,xs,fz⟩)(hB:bE β=false:=by decide):aO hp (.ms β n)= .sl e (xs.take n):=by simp[aO,cN,h,zu hB]
theorem aeJ(e:Nat)(xs:List PV):(PV.sl e xs).refs=[]:=rfl
theorem acX(k:IntKind)(n:Int):(PV.int k n).refs=[]:=rfl
theorem aa5(b:Bool):(PV.bool b).refs=[]:=rfl
theorem acY(cs:List PV):(PV.agg cs).refs=[]:=rfl
theorem acZ:PV.al.refs=[]:=rfl
theorem ac0(β e:Nat)(xs:List PV):cd β (.sl e xs)= .sl e xs:=rfl
theorem aa6(β:Nat)(k:IntKind)(n:Int):cd β (.int k n)= .int k n:=rfl
theorem ZG(β:Nat)(b:Bool):cd β (.bool b)= .bool b:=rfl
theorem aa7(β:Nat)(cs:List PV):cd β (.agg cs)= .agg cs:=rfl
theorem aa8(β:Nat):cd β .al= .al:=rfl
theorem Nk(β γ o n:Nat):cd β (.aB γ o n)=if γ=β then .undef else .aB γ o n:=by
 by_cases h:γ=β
 ·subst h;simp[cd,PV.refs]
 ·simp[cd,PV.refs,h];intro h';exact absurd h'.symm h
theorem ac1(β γ o n:Nat):cd β (.rb γ o n)=if γ=β then .undef else .rb γ o n:=by
 by_cases h:γ=β
 ·subst h;simp[cd,PV.refs]
 ·simp[cd,PV.refs,h];intro h';exact absurd h'.symm h
theorem Nl(β γ i o:Nat):cd β (.mp γ i o)=if γ=β then .undef else .mp γ i o:=by
 by_cases h:γ=β
 ·subst h;simp[cd,PV.refs]
 ·simp[cd,PV.refs,h];intro h';exact absurd h'.symm h
theorem akW:
  (∀(fr:Fr)(a:Nat)(v:PV)(b:Nat),ae fr a v b=if b=a then v else fr b)/\
  (∀(h:HP)(a:Nat)(v:HB)(b:Nat),Qi h a v b=if b=a then some v else h b)/\
  (∀(β:Nat),aA β=none)/\
  (∀(hp:HP)(e:Nat)(xs:List PV),aO hp (.sl e xs)= .sl e xs)/\
  (∀(hp:HP)(k:IntKind)(n:Int),aO hp (.int k n)= .int k n)/\
  (∀(hp:HP)(b:Bool),aO hp (.bool b)= .bool b)/\
  (∀(hp:HP)(cs:List PV),aO hp (.agg cs)= .agg cs)/\
  (∀(hp:HP),aO hp .al= .al)/\
  (∀(e:Nat)(xs:List PV),(PV.sl e xs).refs=[])/\
  (∀(k:IntKind)(n:Int),(PV.int k n).refs=[])/\
  (∀(b:Bool),(PV.bool b).refs=[])/\
  (∀(cs:List PV),(PV.agg cs).refs=[])/\
  (PV.al.refs=[])/\
  (∀(β o n:Nat),(PV.aB β o n).refs=[β])/\
  (∀(β i o:Nat),(PV.mp β i o).refs=[β])/\
  (∀(β e:Nat)(xs:List PV),cd β (.sl e xs)= .sl e xs)/\
  (∀(β:Nat)(k:IntKind)(n:Int),cd β (.int k n)= .int k n)/\
  (∀(β:Nat)(b:Bool),cd β (.bool b)= .bool b)/\
  (∀(β:Nat)(cs:List PV),cd β (.agg cs)= .agg cs)/\
  (∀(β:Nat),cd β .al= .al)/\
  (∀(β γ o n:Nat),cd β (.aB γ o n)=if γ=β then .undef else .aB γ o n)/\
  (∀(β γ i o:Nat),cd β (.mp γ i o)=if γ=β then .undef else .mp γ i o)/\
  (∀(β γ o n:Nat),cd β (.rb γ o n)=if γ=β then .undef else .rb γ o n)/\
  (∀(β o n:Nat),(PV.rb β o n).refs=[β])/\
  (∀(o:cu)(fr:Fr)(hp:HP)(K:Qh),jS o fr hp K=match o.dst with|some d=>K (ae fr d (.aI [])) hp|none=>K fr hp)/\
  (∀(f:aS->PV),Option.map f none=none)/\(∀(f:aS->PV)(x:aS),Option.map f (some x)=some (f x))/\
  (∀(k:IntKind)(n:Int),(PV.int k n).cells=[.int k n])/\
  (∀(b:Bool),(PV.bool b).cells=[.bool b])/\
  (∀(e:Nat)(xs:List PV),(PV.sl e xs).cells=[.sl e xs])/\
  (∀(cs:List PV),(PV.agg cs).cells=cs):=by
 refine⟨fun _ _ _ _=>rfl,fun _ _ _ _=>rfl,fun _=>rfl,aeI,acU,aa4,acV,acW,aeJ,acX,aa5,acY,acZ,fun _ _ _=>rfl,fun _ _ _=>rfl,ac0,aa6,ZG,aa7,aa8,Nk,Nl,ac1,fun _ _ _=>rfl,fun _ _ _ _=>rfl,fun _=>rfl,fun _ _=>rfl,fun _ _=>rfl,fun _=>rfl,fun _ _=>rfl,fun _=>rfl⟩
theorem akX{p:Nat->Prop}(h:∃m,p m):∃m,p m/\∀k,p k->m<=k:=by
 obtain⟨m,hm⟩:=h
 induction m using Nat.strongRecOn with
 |ind m ih=>
  by_cases hk:∃k,k<m/\p k
  ·obtain⟨k,h1,h2⟩:=hk;exact ih k h1 h2
  ·exact⟨m,hm,fun k cf=>Nat.le_of_not_lt fun au=>hk ⟨k,au,cf⟩⟩
def zw(I:Nat->Qh)(n:Nat):Qh:=fun aC hp'=>∃bJ aA,Wk aC hp' bJ aA/\∃m,m<n/\I m bJ aA
theorem oB{I:Nat->Qh}{n m:Nat}(hl:m<n)(h:I m fr hp):zw I n fr hp:=⟨fr,hp,Wk.refl _ _,m,hl,h⟩
theorem Ji{I:Nat->Qh}{n m:Nat}{aC:Fr}{hp':HP}(hl:m<n)(hw:Wk fr hp aC hp')(h:I m aC hp'):zw I n fr hp:=⟨aC,hp',hw,m,hl,h⟩
theorem AU{sk:List It}{x:SC}(I:Nat->Qh)(m0:Nat){bJ:Fr}{aA:HP}(hw:Wk fr hp bJ aA)(h0:I m0 bJ aA)(h:∀m fr hp,I m fr hp->vc C R (.c x:: .el (zw I m)::sk) fr hp):vc C R (.c (.loop x)::sk) fr hp:=by
 refine acM (fun fr hp=>∃m,I m fr hp) (fun fr hp=>Classical.epsilon fun m=>I m fr hp/\∀k,I k fr hp->m<=k) hw ⟨m0,h0⟩ ?_
 intro fr hp hI
 have key:∀fr hp,(∃m,I m fr hp)->I (Classical.epsilon fun m=>I m fr hp/\∀k,I k fr hp->m<=k) fr hp/\∀k,I k fr hp->(Classical.epsilon fun m=>I m fr hp/\∀k,I k fr hp->m<=k)<=k:=fun fr hp hI=>Classical.epsilon_spec (akX hI)
 have e:zx (fun fr hp=>∃m,I m fr hp) (fun fr hp=>Classical.epsilon fun m=>I m fr hp/\∀k,I k fr hp->m<=k) (Classical.epsilon fun m=>I m fr hp/\∀k,I k fr hp->m<=k)=zw I (Classical.epsilon fun m=>I m fr hp/\∀k,I k fr hp->m<=k):=by
  funext aC hp'
  apply propext
  constructor
  ·rintro⟨bJ,aA,h1,h2,h3⟩;exact⟨bJ,aA,h1,_,h3,(key bJ aA h2).1⟩
  ·rintro⟨bJ,aA,h1,m,h2,h3⟩;exact⟨bJ,aA,h1,⟨m,h3⟩,KcF ((key bJ aA ⟨m,h3⟩).2 m h3) h2⟩
 rw[e]
 exact h _ fr hp (key fr hp hI).1
theorem rV{sk:List It}{x:SC}(I:Nat->Qh)(m0:Nat)(h0:I m0 fr hp)(h:∀m fr hp,I m fr hp->vc C R (.c x:: .el (zw I m)::sk) fr hp):vc C R (.c (.loop x)::sk) fr hp:=
 AU I m0 (Wk.refl _ _) h0 h
theorem ah7{α:Type}{e:Nat}{f:α->PV}:PV.le .al (.sl e (([]:List α).map f)):=trivial
theorem Nm{P:Program}(hP:C.P=P){g:FuncId}{first cap args aZ:List PV}{pr:Bool}{d:Option Nat}{r:PV}(h:Qd P g aZ (· =r))(cl:(first++args++cap).map (aO hp)=aZ)(iE:aZ.all PV.aL=true)(hr:(first++args++cap).flatMap PV.refs=[])
  (hK:K (dB fr d r) hp):fY C pr (.fn g first cap) args d fr hp K:=by
 refine kS hP h cl iE ?_
 rw[hr];exact hK
theorem pL{P:Program}(hP:C.P=P){g:FuncId}{first cap args aZ:List PV}{pr:Bool}{d:Option Nat}{Rr:PV->Prop}(h:Qd P g aZ Rr)(cl:(first++args++cap).map (aO hp)=aZ)(iE:aZ.all PV.aL=true)(hr:(first++args++cap).flatMap PV.refs=[])
  (hK:∀r,Rr r->K (dB fr d r) hp):fY C pr (.fn g first cap) args d fr hp K:=by
 refine L7 hP h cl iE fun r h=> ?_
 rw[hr];exact hK r h
theorem aeK{d β n ty:Nat}{xs ys:List PV}(hb:hp β=some ⟨1,ty,xs,false⟩)(hn:n=xs.length):
  qL 1 (.ms β n) (.sl 1 ys) d fr hp K=K (ae fr d (.int .i64 (min (ys.length:Int) n))) (Qi hp β ⟨1,ty,ys.take n++xs.drop ys.length,false⟩):=by
 simp[qL,jd,hb,hn]
theorem ac2{d β n ty e:Nat}{xs ys:List PV}(hb:hp β=some ⟨e,ty,xs,false⟩)(he:0<e)(hn:n=xs.length):
  qL e (.ms β n) (.sl e ys) d fr hp K=K (ae fr d (.int .i64 (min (ys.length:Int) n))) (Qi hp β ⟨e,ty,ys.take n++xs.drop ys.length,false⟩):=by
 simp[qL,jd,hb,hn,he]
theorem PC{by_ ty d:Nat}{kz k k':IntKind}{nz:Int}{L Cc:Int}(h1:0<=L)(h2:L<=Cc)(h3:by_*Cc<=281474976710656)(h4:Cc<=9223372036854775807):
  ot 1 by_ ty (.int kz nz) (.int k L) (.int k' Cc) d fr hp K=K (ae (cx d fr) d (.ms d L.toNat)) (Qi hp d ⟨1,ty,List.replicate L.toNat (.int kz nz),false⟩):=by
 exact Dj (e:=1) (by omega) rfl h1 h2 h3 h4
theorem PD{ty β i:Nat}{xs:List PV}{k:IntKind}{n:Int}(h:i<xs.length):stM (some ⟨1,ty,xs,false⟩) β 1 i 0 (.int k n) fr hp K=K fr (Qi hp β ⟨1,ty,xs.set i (.int k n),false⟩):=
 wQ h rfl rfl
theorem aa9(h:HP)(a:Nat)(v w:HB):Qi (Qi h a v) a w=Qi h a w:=by funext i;unfold Qi;split<;>rfl
theorem ah8{ty d:Nat}{k:IntKind}{n:Int}:lV 1 ty [.int k n] d fr hp K=K (ae (cx d fr) d (.ms d 1)) (Qi hp d ⟨1,ty,[.int k n],false⟩):=by
 simp[lV,nO,lK,B3,Fi,aO,cN,PV.refs,PV.aL,PV.cells]
 rfl
theorem Fe{β n e ty:Nat}{xs:List PV}{fz:Bool}{r:PV}(hb:hp β=some ⟨e,ty,xs,fz⟩)(h:PV.sl e (xs.take n)=r)(hB:bE β=false:=by decide):zL (· =r) (aO hp (.ms β n)):=by
 rw[JJ hp β n e ty xs fz hb hB];exact Qc h (by rw[<-h];rfl)
theorem EF{e by_ ty ty' d β γ n:Nat}{xs:List PV}{y:PV}{fz:Bool}(hb:hp β=some ⟨e,ty,xs,false⟩)(hy:hp γ=some ⟨e,ty',[y],fz⟩)(h0:0<e)(hn:n=xs.length)(h1:(n+1)*by_<=140737488355328)(h2:n+1<=9223372036854775807)(hB:bE β=false:=by decide):
  iC e by_ ty (.ms β n) (.ms γ 1) d fr hp K=K (ae (cx β fr) d (.ms β (n+1))) (Qi hp β ⟨e,ty,xs++[y],false⟩):=by
 subst hn
 rw[Is (ys:=[y]) (xs:=xs) (by simp[jd,hy]) hb h0 (Kaf _) (by simpa using h1) (by simpa using h2) hB]
 simp
theorem Rm(n:Nat):IntKind.u16.wrap (n:Int)=((n%65536:Nat):Int):=by simp only[IntKind.wrap,IntKind.bits,IntKind.signed];simp
theorem Hp{bt:Bool}{k k':IntKind}{x y:Int}{d:Nat}(h:0<=y):ca .shr bt (.int k x) (.int k' y) d fr hp K=K (ae fr d (.int k (x.fdiv (2^(min y.toNat k.bits))))) hp:=by simp[ca,h]
theorem L8{bt:Bool}{k':IntKind}{n d:Nat}:ca .shr bt (.int .u64 (n:Int)) (.int k' 16) d fr hp K=K (ae fr d (.int .u64 ((n/65536:Nat):Int))) hp:=by
 rw[Hp (by omega)]
 have:min (16:Int).toNat IntKind.u64.bits=16:=by decide
 rw[this,KcV _ (by omega)]
 simp
theorem aba{bt:Bool}{k':IntKind}{n d:Nat}:ca .shr bt (.int .u32 (n:Int)) (.int k' 16) d fr hp K=K (ae fr d (.int .u32 ((n/65536:Nat):Int))) hp:=by
 rw[Hp (by omega)]
 have:min (16:Int).toNat IntKind.u32.bits=16:=by decide
 rw[this,KcV _ (by omega)]
 simp
end Go.FW
namespace Go.FW
def val:List Nat->Nat
 | []=>0
 |x::xs=>x+65536*val xs
def Qj(l:List Nat):Prop:=∀x∈l,x<65536
def ak(n:Nat):List Nat:=if h:n=0 then []else n%65536::ak (n/65536)
termination_by n
decreasing_by omega
def nl(n:Nat):Nat:=(ak n).length
theorem oG:Qj []:=by simp[Qj]
theorem ix{x:Nat}{l:List Nat}:Qj (x::l)↔x<65536/\Qj l:=by simp[Qj]
theorem oz{l m:List Nat}:Qj (l++m)↔Qj l/\Qj m:=by
 simp only[Qj,KaK];constructor
 ·intro h;exact⟨fun x hx=>h x (.inl hx),fun x hx=>h x (.inr hx)⟩
 ·rintro⟨h1,h2⟩ x (hx|hx)
  ·exact h1 x hx
  ·exact h2 x hx
theorem yM{l:List Nat}(h:Qj l)(n:Nat):Qj (l.take n):=fun x hx=>h x (Kbf hx)
theorem AH{l:List Nat}(h:Qj l)(n:Nat):Qj (l.drop n):=fun x hx=>h x (KbM hx)
theorem ek{l:List Nat}(h:Qj l){i:Nat}(hi:i<l.length):l[i]<65536:=h _ (Kai hi)
theorem fI:ak 0=[]:=by rw[ak];simp
theorem u7{n:Nat}(h:n≠0):ak n=n%65536::ak (n/65536):=by rw[ak];simp[h]
theorem Qk(n:Nat):Qj (ak n):=by
 induction n using ak.induct with
 |case1=>rw[fI];exact oG
 |case2 n h ih=>rw[u7 h,ix];exact⟨by omega,ih⟩
theorem Qw(n:Nat):val (ak n)=n:=by
 induction n using ak.induct with
 |case1=>rw[fI];rfl
 |case2 n h ih=>rw[u7 h,val,ih];omega
theorem kP{n:Nat}:ak n=[]↔n=0:=by
 constructor
 ·intro h;have:=Qw n;rw[h]at this;exact this.symm
 ·rintro rfl;exact fI
theorem w8:nl 0=0:=by simp[nl,fI]
theorem AI{n:Nat}:nl n=0↔n=0:=by rw[nl,KaE,kP]
theorem ah9{n:Nat}(h:n≠0):nl n=nl (n/65536)+1:=by simp[nl,u7 h]
theorem nB(l m:List Nat):val (l++m)=val l+65536^l.length*val m:=by
 induction l with
 |nil=>simp[val]
 |cons x l ih=>simp only[KaU,val,ih,KaP,Kbr];rw[Ka0,<-Nat.mul_assoc,KaR 65536 (65536^_)];omega
theorem pR{l:List Nat}(h:Qj l):val l<65536^l.length:=by
 induction l with
 |nil=>simp[val]
 |cons x l ih=>rw[ix]at h;have:=ih h.2;simp only[val,KaP,Kbr];omega
theorem L9(n:Nat):val (List.replicate n 0)=0:=by
 induction n with
 |zero=>rfl
 |succ n ih=>simp[KbH,val,ih]
theorem Bx{l:List Nat}(h:Qj l)(hl:l.getLast? ≠some 0):ak (val l)=l:=by
 induction l with
 |nil=>simp[val,fI]
 | cons x l ih=>
  rw[ix]at h
  have UY:l.getLast? ≠some 0:=by
   intro hh;apply hl
   rw[KcG,hh];rfl
  have aH:val (x::l)≠0:=by
   simp only[val]
   intro h0
   have h1:val l=0:=by omega
   have:=ih h.2 UY
   rw[h1,fI]at this
   subst this
   simp at hl;omega
  rw[u7 aH]
  simp only[val]
  rw[show(x+65536*val l)%65536=x by omega,show(x+65536*val l)/65536=val l by omega,ih h.2 UY]
theorem Bh(n:Nat):(ak n).getLast? ≠some 0:=by
 induction n using ak.induct with
 |case1=>simp[fI]
 | case2 n h ih=>
  rw[u7 h,KcG]
  cases hd:(ak (n/65536)).getLast? with
  |none=>
   have:n/65536=0:=by rw[List.getLast?_eq_none_iff,kP]at hd;exact hd
   simp;omega
  |some y=>rw[hd]at ih;simpa using ih
def cut(l:List Nat):Nat->List Nat
 |0=>[]
 |n+1=>if l[n]? =some 0 then cut l n else l.take (n+1)
theorem PE{l:List Nat}(h:Qj l):∀n,n<=l.length->cut l n=ak (val (l.take n))
 |0,_=>by simp[cut,val,fI]
 | n+1,hn=>by
  have e:l.take (n+1)=l.take n++[l[n]]:=by rw[Kak (by omega)]
  unfold cut
  split
  ·rename_i hz
   rw[PE h n (by omega),e,nB]
   rw[Kag (by omega)]at hz
   have uC:l[n]=0:=by simpa using hz
   simp[val,uC]
  ·rename_i hz
   rw[Bx (yM h _)]
   rw[e,List.getLast?_concat]
   intro h0;apply hz;rw[Kag (by omega)];exact h0
theorem By{l:List Nat}(h:Qj l):cut l l.length=ak (val l):=by rw[PE h _ (Kaf _),KaH]
theorem bZ{l:List Nat}(h:Qj l):nl (val l)<=l.length:=by
 rw[nl,<-By h]
 have:∀n,(cut l n).length<=n:=by
  intro n
  induction n with
  |zero=>simp[cut]
  |succ n ih=>
   unfold cut
   split
   ·omega
   ·simp;omega
 have h1:=this l.length
 exact h1
theorem nG{n k:Nat}:nl n<=k↔n<65536^k:=by
 induction k generalizing n with
 |zero=>simp[AI]
 | succ k ih=>
  by_cases h:n=0
  ·subst h;simp[w8]
   exact Kbp (by omega)
  ·rw[ah9 h,Nat.add_le_add_iff_right,ih,Kbr,Kbc (by omega)]
theorem gC{m n:Nat}(h:m<=n):nl m<=nl n:=nG.2 (KcF h (nG.1 (Kaf _)))
theorem PF(m n:Nat):nl (m+n)<=max (nl m) (nl n)+1:=by
 rw[nG,Kbr]
 have h1:m<65536^(max (nl m) (nl n)):=nG.1 (by omega)
 have h2:n<65536^(max (nl m) (nl n)):=nG.1 (by omega)
 omega
theorem pS(m n:Nat):nl (m*n)<=nl m+nl n:=by
 rw[nG,Nat.pow_add]
 exact Nat.mul_lt_mul'' (nG.1 (Kaf _)) (nG.1 (Kaf _))
theorem oH{n:Nat}(h:n<18446744073709551616):nl n<=4:=nG.2 (by simpa using h)
theorem Eh{n:Nat}:nl n<=4↔n<18446744073709551616:=by rw[nG]
theorem tB:ak 1=[1]:=by rw[u7 (by omega)];simp[fI]
open Go
variable {C : Ctx} {ρ : Nat -> Option Nat} {fr : Fr} {hp : HP} {w : World} {K R : Qh}
abbrev cj(l:List Nat):List PV:=l.map fun(x:Nat)=> .int .u16 x
abbrev pY(l:List Int):List PV:=l.map fun(x:Int)=> .int .i64 x
theorem aia(a b:Nat):(a:Int)+(b:Int)=((a+b:Nat):Int):=rfl
theorem aeL(a:Nat):(a:Int)+1=((a+1:Nat):Int):=rfl
theorem aeM(a:Nat):(a:Int)+2=((a+2:Nat):Int):=rfl
theorem aeN(a:Nat):(a:Int)+3=((a+3:Nat):Int):=rfl
theorem aiE(a b:Nat):(a:Int)*(b:Int)=((a*b:Nat):Int):=rfl
theorem aeO{α:Type}{f:α->PV}{e d:Nat}{k:IntKind}{i:Nat}{xs:List α}(h:i<xs.length):
  iR e (.sl e (xs.map f)) (.int k (i:Int)) d fr hp K=K (ae fr d (.pt (f (xs[i]'h)).cells)) hp:=by
 rw[zf (by omega) (by omega)];rfl
theorem aeP{e d β o n i:Nat}{k:IntKind}(h:i<n)(he:(hp β).map (·.e)=some e):iR e (.aB β o n) (.int k (i:Int)) d fr hp K=K (ae fr d (.mp β (o+i) 0)) hp:=by
 rw[ah5 (by omega) (by omega) he];rfl
theorem aiF{α:Type}{f:α->PV}{e d:Nat}{xs:List α}{k:IntKind}{n:Nat}(h5:n<=xs.length):
  iZ e (.sl e (xs.map f)) none (some (.int k (n:Int))) none d fr hp K=K (ae fr d (.sl e ((xs.take n).map f))) hp:=by
 rw[IT (by omega) (by omega)];rfl
theorem aiG{α:Type}{f:α->PV}{e d:Nat}{xs:List α}{k:IntKind}{n:Nat}(h5:n<=xs.length):
  iZ e (.sl e (xs.map f)) (some (.int k (n:Int))) none none d fr hp K=K (ae fr d (.sl e ((xs.drop n).map f))) hp:=by
 rw[aa3 (by omega) (by omega)];rfl
theorem ac3{α:Type}{f:α->PV}{e d:Nat}{xs:List α}{k k':IntKind}{m n:Nat}(h4:m<=n)(h5:n<=xs.length):
  iZ e (.sl e (xs.map f)) (some (.int k (m:Int))) (some (.int k' (n:Int))) none d fr hp K=K (ae fr d (.sl e (((xs.take n).drop m).map f))) hp:=by
 rw[Xs (by omega) (by omega) (by omega)];rfl
theorem aiH{by_ ty d:Nat}{k k':IntKind}{n c:Nat}(h2:n<=c)(h3:by_*c<=281474976710656)(h4:c<=9223372036854775807):
  ot 1 by_ ty (.int .u16 0) (.int k (n:Int)) (.int k' (c:Int)) d fr hp K=K (ae (cx d fr) d (.ms d n)) (Qi hp d ⟨1,ty,cj (List.replicate n 0),false⟩):=by
 rw[PC (by omega) (by omega) (by omega) (by omega)]
 simp[cj]
theorem aiI{ty i d:Nat}{fz:Bool}{l:List Nat}(h:i<l.length):mm (some ⟨1,ty,cj l,fz⟩) 1 false i 0 d fr hp K=K (ae fr d (.int .u16 (l[i]'h:Nat))) hp:=by
 rw[ve (by simpa using h) (by omega) (by simp)];simp[eE,PV.cells]
theorem aiJ{ty i d:Nat}{fz:Bool}{l:List Int}(h:i<l.length):mm (some ⟨1,ty,pY l,fz⟩) 1 false i 0 d fr hp K=K (ae fr d (.int .i64 (l[i]'h))) hp:=by
 rw[ve (by simpa using h) (by omega) (by simp)];simp[eE,PV.cells]
theorem PG{ty β i v:Nat}{l:List Nat}(h:i<l.length):stM (some ⟨1,ty,cj l,false⟩) β 1 i 0 (.int .u16 (v:Int)) fr hp K=K fr (Qi hp β ⟨1,ty,cj (l.set i v),false⟩):=by
 rw[PD (by simpa using h)];simp[cj,List.map_set]
theorem aiK{ty β i:Nat}{v:Int}{l:List Int}(h:i<l.length):stM (some ⟨1,ty,pY l,false⟩) β 1 i 0 (.int .i64 v) fr hp K=K fr (Qi hp β ⟨1,ty,pY (l.set i v),false⟩):=by
 rw[PD (by simpa using h)];simp[pY,List.map_set]
theorem ac4{β n ty:Nat}{l:List Nat}{fz:Bool}(h:hp β=some ⟨1,ty,cj l,fz⟩)(hn:n=l.length)(hB:bE β=false:=by decide):aO hp (.ms β n)= .sl 1 (cj l):=by
 rw[JJ hp β n _ _ _ _ h hB,Kac (by simp[hn])]
theorem wR{P:Program}(hP:C.P=P){g:FuncId}{first cap args aZ:List PV}{pr:Bool}{d:Option Nat}{r:PV}(h:Qd P g aZ (· =r))(cl:(first++args++cap).map (aO hp)=aZ)(iE:aZ.all PV.aL=true)
  (hK:∀hp',K (dB fr d r) hp'):fY C pr (.fn g first cap) args d fr hp K:=kS hP h cl iE (hK _)
end Go.FW
namespace Go.FW
def gY(x y:Nat):Int:=if x<y then -1 else if y<x then 1 else 0
theorem JK{x y:Nat}(h:x<y):gY x y= -1:=by simp[gY,h]
theorem JL{x y:Nat}(h:y<x):gY x y=1:=by simp[gY,h];omega
theorem OI{x y:Nat}(h:x=y):gY x y=0:=by simp[gY,h]
theorem Nn{x y:Nat}(h:nl x<nl y):x<y:=by
 rcases KcL x y with h1|h1
 ·exact h1
 ·have:=gC h1;omega
theorem qA(l:List Nat)(k:Nat)(hk:k<=l.length):val l=val (l.take k)+65536^k*val (l.drop k):=by
 have:=nB (l.take k) (l.drop k)
 rw[Kbx,KaI,Kb3 hk]at this
 exact this
theorem uM{l:List Nat}(h:Qj l)(k:Nat)(hk:k<=l.length):val (l.take k)<65536^k:=by
 have:=pR (yM h k)
 rwa[KaI,Kb3 hk]at this
theorem mD{l:List Nat}{k:Nat}(hk:k<l.length):val (l.drop k)=l[k]+65536*val (l.drop (k+1)):=by
 rw[Kaw hk,val]
theorem Xt{a b:List Nat}(ha:Qj a){k:Nat}(Gs:k<=a.length)(CD:k<=b.length)(h:val (a.drop k)<val (b.drop k)):val a<val b:=by
 rw[qA a k Gs,qA b k CD]
 have h1:=uM ha k Gs
 have h2:65536^k*(val (a.drop k)+1)<=65536^k*val (b.drop k):=KaA _ h
 rw[Ka0]at h2
 omega
theorem Ma{a b:List Nat}(ha:Qj a){k:Nat}(Gs:k<a.length)(CD:k<b.length)(h:a[k]<b[k])(he:val (a.drop (k+1))=val (b.drop (k+1))):val a<val b:=by
 refine Xt ha (k:=k) (by omega) (by omega) ?_
 rw[mD Gs,mD CD,he];omega
def jD:List Nat->List Nat->Nat->List Nat
 | [],_,c=>if c=0 then []else [c]
 |x::xs,ys,c=>(c+x+ys.headD 0)%65536::jD xs ys.tail ((c+x+ys.headD 0)/65536)
theorem AV(l:List Nat):val l=l.headD 0+65536*val l.tail:=by cases l<;>simp[val]
theorem No:∀(a b:List Nat)(c:Nat),b.length<=a.length->val (jD a b c)=val a+val b+c
 | [],b,c,h=>by
  have:b=[]:=KaE.1 (by simpa using h)
  subst this
  unfold jD;split<;>simp[val];omega
 |x::xs,b,c,h=>by
  rw[jD,val,No xs b.tail _ (by simp at h ⊢;omega),val,AV b]
  omega
theorem R8:∀(a b:List Nat)(c:Nat),c<65536->Qj a->Qj b->b.length<=a.length->Qj (jD a b c)
 | [],b,c,hc,_,_,_=>by unfold jD;split<;>simp[Qj];exact hc
 |x::xs,b,c,hc,ha,hb,h=>by
  rw[ix]at ha
  have cI:b.headD 0<65536:=by cases b with|nil=>simp|cons y ys=>exact hb _ (by simp)
  rw[jD,ix]
  exact⟨by omega,R8 xs b.tail _ (by omega) ha.2 (fun x hx=>hb x (List.mem_of_mem_tail hx)) (by simp at h ⊢;omega)⟩
theorem Mb:∀(a b:List Nat)(c:Nat),a.getLast? ≠some 0->(jD a b c).getLast? ≠some 0
 | [],b,c,_=>by unfold jD;split<;>simp;assumption
 | x::xs,b,c,h=>by
  rw[jD,KcG]
  cases xs with
  |nil=>
   simp only[List.getLast?_singleton,ne_eq,KaC]at h
   simp only[jD]
   generalize b.headD 0=y
   split
   ·rename_i h0;simp;omega
   ·rename_i h0;simp;omega
  |cons y ys=>
   have ih:=Mb (y::ys) b.tail ((c+x+b.headD 0)/65536) (by rw[KcG]at h;simpa[KcG]using h)
   cases hl:(jD (y::ys) b.tail ((c+x+b.headD 0)/65536)).getLast? with
   |none=>rw[List.getLast?_eq_none_iff]at hl;simp[jD]at hl
   |some z=>rw[hl]at ih;simpa using ih
theorem ac5{x y:Nat}(h:nl y<=nl x):jD (ak x) (ak y) 0=ak (x+y):=by
 have h1:=No (ak x) (ak y) 0 h
 rw[Qw,Qw,KaX]at h1
 rw[<-h1,Bx (R8 _ _ _ (by omega) (Qk x) (Qk y) h) (Mb _ _ _ (Bh x))]
def mO:List Nat->List Nat->Nat->List Nat
 | [],_,_=>[]
 |x::xs,ys,c=>(x+65536-c-ys.headD 0)%65536::mO xs ys.tail (if x<c+ys.headD 0 then 1 else 0)
theorem R9:∀(a b:List Nat)(c:Nat),Qj (mO a b c)
 | [],_,_=>oG
 |x::xs,b,c=>by rw[mO,ix];exact⟨by omega,R9 xs _ _⟩
theorem RH:∀(a b:List Nat)(c:Nat),(mO a b c).length=a.length
 | [],_,_=>rfl
 |x::xs,b,c=>by simp[mO,RH xs]
theorem Np:∀(a b:List Nat)(c:Nat),c<=1->Qj a->Qj b->b.length<=a.length->val b+c<=val a->val (mO a b c)+val b+c=val a
 | [],b,c,_,_,_,h,h2=>by
  have:b=[]:=KaE.1 (by simpa using h)
  subst this
  simp[val]at h2 ⊢;simp[mO,val,h2]
 |x::xs,b,c,hc,ha,hb,h,h2=>by
  rw[ix]at ha
  have cI:b.headD 0<65536:=by cases b with|nil=>simp|cons y ys=>exact hb _ (by simp)
  rw[val,AV b]at h2
  rw[mO,val,val,AV b]
  have ih:=Np xs b.tail (if x<c+b.headD 0 then 1 else 0) (by split<;>omega) ha.2 (fun x hx=>hb x (List.mem_of_mem_tail hx)) (by simp at h ⊢;omega) (by generalize b.headD 0=y at *;split<;>omega)
  generalize b.headD 0=y at *
  split at ih
  ·rename_i h0;rw[if_pos h0];omega
  ·rename_i h0;rw[if_neg h0];omega
theorem Bi{done:List Nat}{i n v:Nat}(h:done.length=i)(hn:0<n):(done++List.replicate n 0).set i v=(done++[v])++List.replicate (n-1) 0:=by
 subst h
 obtain⟨n,rfl⟩:∃k,n=k+1:=⟨n-1,by omega⟩
 simp[KbH]
theorem Jj{done:List Nat}{i n m:Nat}(h:done.length=i)(hn:i+n=m):(done++List.replicate n 0).length=m:=by simp[h,hn]
theorem abb{a b:List Nat}{i c:Nat}(h:i<a.length):jD (a.drop i) (b.drop i) c=(c+a[i]+b.getD i 0)%65536::jD (a.drop (i+1)) (b.drop (i+1)) ((c+a[i]+b.getD i 0)/65536):=by
 rw[Kaw h,jD]
 simp[KbN,Kcw,Kad]
theorem abc{a b:List Nat}{i c:Nat}(h:i<a.length):mO (a.drop i) (b.drop i) c=(a[i]+65536-c-b.getD i 0)%65536::mO (a.drop (i+1)) (b.drop (i+1)) (if a[i]<c+b.getD i 0 then 1 else 0):=by
 rw[Kaw h,mO]
 simp[KbN,Kcw,Kad]
theorem gD{b:List Nat}{i:Nat}(h:i<b.length):b.getD i 0=b[i]:=by simp[Kad,h]
theorem gE{b:List Nat}{i:Nat}(h:¬i<b.length):b.getD i 0=0:=by simp[Kad,h]
open Go
variable {C : Ctx} {ρ : Nat -> Option Nat} {fr : Fr} {hp : HP} {w : World} {K K' R : Qh}
theorem Jk(h:∀fr hp,K fr hp->K' fr hp)(o:cu):bK C o fr hp K->bK C o fr hp K':=by
 cases o with
 | call d pr f args=>
  simp only[bK,fY]
  split
  ·rintro⟨h1,h2⟩
   refine⟨h1,fun ρ tmps w fv cv av a1 a2 a3 a4 a5 a6 a7 a8=>(h2 ρ tmps w fv cv av a1 a2 a3 a4 a5 a6 a7 a8).mono ?_⟩
   rintro e w' ⟨v,aC,hp',e1,e2,e3,e4⟩
   exact⟨v,aC,hp',e1,e2,e3,h _ _ e4⟩
  ·exact id
 |bs d e ty ps=>
  simp only[bK,lV]
  split
  ·exact fun H=>⟨H.1,h _ _ H.2⟩
  ·exact fun H=>⟨H.1,H.2.1,h _ _ H.2.2⟩
 | app d e by_ ty s x=>
  simp only[bK,iC]
  intro H;revert H
  split
  ·unfold zG
   split
   ·split
    ·rintro⟨a1,a2,a3,H⟩
     refine⟨a1,a2,a3,?_⟩
     revert H
     split
     ·exact fun H=>⟨H.1,h _ _ H.2⟩
     ·split
      ·exact fun H=>⟨H.1,H.2.1,h _ _ H.2.2⟩
      ·exact id
     ·exact id
    ·exact id
   ·exact id
  ·rintro⟨h0,h1,H⟩
   refine⟨h0,h1,?_⟩
   revert H
   split
   ·rintro⟨a,b,c⟩;exact⟨a,b,h _ _ c⟩
   ·split
    ·rintro(⟨a1,a2,a3,a4,a5,a6,a7,c⟩|⟨a1,a2,a3,c⟩)
     ·exact .inl ⟨a1,a2,a3,a4,a5,a6,a7,h _ _ c⟩
     ·exact .inr ⟨a1,a2,a3,h _ _ c⟩
    ·exact id
   ·exact id
 |bin d op bt x y=>
  simp only[bK,ca]
  intro H;revert H
  split
  ·split<;>first|exact fun H=>⟨H.1,H.2.1,h _ _ H.2.2⟩|exact fun H=>⟨H.1,h _ _ H.2⟩|exact id
  ·split<;>first|exact fun H=>⟨H.1,h _ _ H.2⟩|exact id
  ·exact id
 | _=>
  simp only[bK,ss,tJ,wF,xf,pW,yy,yw,iR,vj,vw,su,r9,iW,ow,iB,ot,lV,iC,qL,iZ,qM,mV,Dh,BQ]
  try (intro H;revert H)
  try (repeat' split)
  all_goals first
   |exact id
   |exact h _ _
   |grind
theorem Sa(h:∀fr hp,K fr hp->K' fr hp)(o:cu):jS o fr hp K->jS o fr hp K':=by
 unfold jS;split<;>exact h _ _
theorem abd(h:∀fr hp,K fr hp->K' fr hp)(g:Option (Nat×Bool))(o:cu):pX C g o fr hp K->pX C g o fr hp K':=by
 unfold pX
 split
 ·exact Jk h o
 ·split
  ·exact fun H=>⟨fun e=>Jk h o (H.1 e),fun e=>Sa h o (H.2 e)⟩
  ·exact Sa h o
  ·exact id
theorem PH{sk:List It}{g:Option (Nat×Bool)}{o:cu}{r:RT}:vc C R (.o (.o g o r)::sk) fr hp=pX C g o fr hp (fun fr hp=>vc C R (.o r::sk) fr hp):=by rw[vc]
theorem Pv{sk:List It}{x y:RT}:vc C R (.o (.br x y)::sk) fr hp=(vc C R (.o x::sk) fr hp/\vc C R (.o y::sk) fr hp):=by rw[vc]
theorem AJ{id:Nat}{M:Qh}{sk:List It}:∀(pre:List It),(∃p,FW.ch id (pre++ .el M::sk)=some (p++ .el M::sk)/\FW.ch id (pre++sk)=some (p++sk)/\bY p<=bY pre)∨FW.ch id (pre++ .el M::sk)=FW.ch id (pre++sk)
 | []=> .inr rfl
 | .c s::pre=>by
  rcases AJ (id:=id) (M:=M) (sk:=sk) pre with⟨p,h1,h2,h3⟩|h
  ·exact .inl ⟨p,h1,h2,by simp only[bY];omega⟩
  ·exact .inr h
 | .o s::pre=>by
  rcases AJ (id:=id) (M:=M) (sk:=sk) pre with⟨p,h1,h2,h3⟩|h
  ·exact .inl ⟨p,h1,h2,by simp only[bY];omega⟩
  ·exact .inr h
 | .el s::pre=>by
  rcases AJ (id:=id) (M:=M) (sk:=sk) pre with⟨p,h1,h2,h3⟩|h
  ·exact .inl ⟨p,h1,h2,by simp only[bY];omega⟩
  ·exact .inr h
 | .eb i::pre=>by
  by_cases hi:i=id
  ·exact .inl ⟨pre,by simp[FW.ch,hi],by simp[FW.ch,hi],by simp only[bY];omega⟩
  ·rcases AJ (id:=id) (M:=M) (sk:=sk) pre with⟨p,h1,h2,h3⟩|h
   ·exact .inl ⟨p,by simp[FW.ch,hi,h1],by simp[FW.ch,hi,h2],by simp only[bY];omega⟩
   ·exact .inr (by simp[FW.ch,hi,h])
theorem Bz{M:Qh}{sk:List It}(hM:∀fr hp,M fr hp->vc C R sk fr hp):∀(n:Nat)(pre:List It)(fr:Fr)(hp:HP),bY pre<=n->vc C R (pre++ .el M::sk) fr hp->vc C R (pre++sk) fr hp:=by
 intro n
 induction n with
 | zero=>
  intro pre fr hp hn h
  cases pre with
  |nil=>simp only[KaQ,xg]at h ⊢;exact hM _ _ h
  |cons i pre=>
   exfalso
   have:=SC.Au
   cases i<;>simp only[bY,It.sz]at hn
   ·rename_i s;have:=SC.Au s;omega
   ·rename_i s;have:=RT.Au s;omega
   ·omega
   ·omega
 | succ n ih=>
  intro pre fr hp hn h
  cases pre with
  |nil=>simp only[KaQ,xg]at h ⊢;exact hM _ _ h
  | cons i pre=>
   cases i with
   |eb i=>
    simp only[KaU,Di]at h⊢
    exact ih _ _ _ (by simp only[bY,It.sz]at hn;omega) h
   |el J=>simp only[KaU,xg]at h ⊢;exact h
   | o r=>
    cases r with
    |nil=>
     simp only[KaU,BK]at h⊢
     exact ih _ _ _ (by simp only[bY,It.sz,RT.sz]at hn;omega) h
    |o g o r=>
     simp only[KaU,PH]at h⊢
     refine abd (fun fr hp h=> ?_) g o h
     exact ih (.o r::pre) _ _ (by simp only[bY,It.sz,RT.sz]at hn ⊢;omega) h
    |wk r=>
     simp only[KaU,FA]at h⊢
     obtain⟨bJ,aA,hw,h⟩:=h
     exact⟨bJ,aA,hw,ih (.o r::pre) _ _ (by simp only[bY,It.sz,RT.sz]at hn ⊢;omega) h⟩
    |br x y=>
     simp only[KaU,Pv]at h⊢
     exact⟨ih (.o x::pre) _ _ (by simp only[bY,It.sz,RT.sz]at hn ⊢;omega) h.1,ih (.o y::pre) _ _ (by simp only[bY,It.sz,RT.sz]at hn ⊢;omega) h.2⟩
   | c s=>
    cases s with
    |skip=>
     simp only[KaU,Fj]at h⊢
     exact ih _ _ _ (by simp only[bY,It.sz,SC.sz]at hn;omega) h
    |rg r=>
     simp only[KaU,HF]at h⊢
     exact ih (.o r::pre) _ _ (by simp only[bY,It.sz,SC.sz]at hn ⊢;omega) h
    |raw id ops=>
     simp only[KaU]at h⊢
     rw[vc]at h⊢
     intro tmps w Q hs hQ
     refine h tmps w Q hs fun aC hp' Db w' eC hv=>hQ aC hp' Db w' eC ?_
     exact ih _ _ _ (by simp only[bY,It.sz,SC.sz]at hn;omega) hv
    |seq a b=>
     simp only[KaU,FB]at h⊢
     exact ih (.c a:: .c b::pre) _ _ (by simp only[bY,It.sz,SC.sz]at hn ⊢;omega) h
    |block id a=>
     simp only[KaU,ED]at h⊢
     exact ih (.c a:: .eb id::pre) _ _ (by simp only[bY,It.sz,SC.sz]at hn ⊢;omega) h
    |ret=>simp only[KaU,Fx]at h ⊢;exact h
    |cond c x y=>
     simp only[KaU,Fb]at h⊢
     unfold sg at h⊢
     split at h
     ·exact⟨fun e=>ih (.c x::pre) _ _ (by simp only[bY,It.sz,SC.sz]at hn ⊢;omega) (h.1 e),fun e=>ih (.c y::pre) _ _ (by simp only[bY,It.sz,SC.sz]at hn ⊢;omega) (h.2 e)⟩
     ·exact h
    | exit id=>
     simp only[KaU,Fc]at h⊢
     rcases AJ (id:=id) (M:=M) (sk:=sk) pre with⟨p,h1,h2,h3⟩|he
     ·rw[h1]at h;rw[h2]
      simp only[xh]at h⊢
      exact ih _ _ _ (by simp only[bY,It.sz,SC.sz]at hn;omega) h
     ·rw[he]at h;exact h
    |loop a=>
     simp only[KaU,yK]at h⊢
     obtain⟨I,μ,h1,h2⟩:=h
     refine⟨I,μ,h1,fun fr hp hI=> ?_⟩
     exact ih (.c a:: .el _::pre) _ _ (by simp only[bY,It.sz,SC.sz]at hn ⊢;omega) (h2 fr hp hI)
theorem wS{c:PV}{x y:SC}{sk:List It}(M:Qh)(h:kT C R c x y (.el M::sk) fr hp)(hM:∀fr hp,M fr hp->vc C R sk fr hp):kT C R c x y sk fr hp:=by
 unfold kT sg at h⊢
 split at h
 ·exact⟨fun e=>Bz hM _ [.c x] _ _ (Kaf _) (h.1 e),fun e=>Bz hM _ [.c y] _ _ (Kaf _) (h.2 e)⟩
 ·exact h
end Go.FW
namespace Go.FW
open Go
variable {C : Ctx} {ρ : Nat -> Option Nat} {fr : Fr} {hp : HP} {w : World} {K K' R : Qh}
def Dk(R:PV->Prop)(p q:PV):Prop:=(p.aL=true/\q.aL=true)/\∃r,PV.yt (.aI [p,q]) r/\R r
def Dl(R:PV->Prop)(p q s:PV):Prop:=(p.aL=true/\q.aL=true/\s.aL=true)/\∃r,PV.yt (.aI [p,q,s]) r/\R r
def QP(R:PV->Prop):Prop:=∃r,PV.yt (.aI []) r/\R r
theorem aiL{a b:Nat}{Rr:PV->Prop}:ff [.t a,.t b] Rr fr hp=Dk Rr (aO hp (fr a)) (aO hp (fr b)):=by simp[ff,Dk,mw,lH]
theorem aiM{a b c:Nat}{Rr:PV->Prop}:ff [.t a,.t b,.t c] Rr fr hp=Dl Rr (aO hp (fr a)) (aO hp (fr b)) (aO hp (fr c)):=by simp[ff,Dl,mw,lH]
theorem aiN{Rr:PV->Prop}:ff [] Rr fr hp=QP Rr:=by simp[ff,QP]
theorem gI{p q p' q' r:PV}(h:r= .aI [p',q'])(d1:p.aL=true)(d2:q.aL=true)(h1:PV.le p p')(h2:PV.le q q'):Dk (· =r) p q:=⟨⟨d1,d2⟩,r,by subst h;exact⟨h1,h2,trivial⟩,rfl⟩
theorem kU{p q s p' q' s' r:PV}(h:r= .aI [p',q',s'])(d1:p.aL=true)(d2:q.aL=true)(d3:s.aL=true)(h1:PV.le p p')(h2:PV.le q q')(h3:PV.le s s'):Dl (· =r) p q s:=⟨⟨d1,d2,d3⟩,r,by subst h;exact⟨h1,h2,h3,trivial⟩,rfl⟩
theorem uW{p q:PV}(h:p=q):PV.le p q:=h▸Qn p
theorem Bj{β n ty:Nat}{l:List Nat}{fz:Bool}(h:hp β=some ⟨1,ty,cj l,fz⟩)(hn:n=l.length)(hB:bE β=false:=by decide):(([]:List PV)++[PV.ms β n]++([]:List PV)).map (aO hp)=[.sl 1 (cj l)]:=by
 simp[ac4 h hn hB]
theorem qz{n:Nat}(h:(ak n).length=0):ak n=[]:=KaE.1 h
abbrev PV.nat(l:List Nat):PV:= .sl 1 (cj l)
abbrev PV.num(n:Nat):PV:=PV.nat (ak n)
theorem yY:PV.le .al (PV.num 0):=by rw[PV.num,fI];trivial
theorem BA{n:Nat}(h:n=0):PV.le .al (PV.num n):=by subst h;exact yY
end Go.FW
namespace Go.FW
def ko:List Nat->List Nat->Nat->Nat->List Nat
 |r::rs,y::ys,x,c=>(c+(r+x*y))%65536::ko rs ys x ((c+(r+x*y))/65536)
 |_,_,_,c=>[c]
theorem Nq:∀(r b:List Nat)(x c:Nat),r.length=b.length->val (ko r b x c)=val r+x*val b+c
 | [],[],x,c,_=>by simp[ko,val]
 |r::rs,y::ys,x,c,h=>by
  rw[ko,val,Nq rs ys x _ (by simpa using h),val,val,Ka0 x,Kbi x 65536]
  generalize x*y=p
  generalize x*val ys=q
  omega
 | [],_::_,_,_,h=>by simp at h
 |_::_,[],_,_,h=>by simp at h
theorem uT{x y:Nat}(hx:x<65536)(hy:y<65536):x*y<=4294836225:=by
 have:=KaY (show x<=65535 by omega) (show y<=65535 by omega)
 omega
theorem Sb:∀(r b:List Nat)(x c:Nat),c<65536->x<65536->Qj r->Qj b->Qj (ko r b x c)
 |r::rs,y::ys,x,c,hc,hx,hr,hb=>by
  rw[ix]at hr hb
  have:=uT hx hb.1
  rw[ko,ix]
  exact⟨by omega,Sb rs ys x _ (by omega) hx hr.2 hb.2⟩
 | [],_,x,c,hc,_,_,_=>by simp[ko,Qj];exact hc
 |_::_,[],x,c,hc,_,_,_=>by simp[ko,Qj];exact hc
theorem RI:∀(r b:List Nat)(x c:Nat),r.length=b.length->(ko r b x c).length=r.length+1
 |r::rs,y::ys,x,c,h=>by simp[ko,RI rs ys x _ (by simpa using h)]
 | [],[],x,c,_=>rfl
 | [],_::_,_,_,h=>by simp at h
 |_::_,[],_,_,h=>by simp at h
theorem Ff{p t:List Nat}{r j:Nat}(h:p.length=j)(hj:j<(p++r::t).length):(p++r::t)[j]=r:=by subst h;simp
theorem oJ{p t:List Nat}{r j v:Nat}(h:p.length=j):(p++r::t).set j v=p++v::t:=by subst h;simp
theorem Ax{l:List Nat}{i:Nat}(h:i<l.length):val (l.take (i+1))=val (l.take i)+65536^i*l[i]:=by
 rw[Kak h,nB,KaI,Kb3 (by omega)];simp[val]
theorem ac6{a lo b:List Nat}{i:Nat}(h:i<a.length)(hl:lo.length=i+b.length)(hv:val lo=val (a.take i)*val b):
  val (lo.take i++ko (lo.drop i) b a[i] 0)=val (a.take (i+1))*val b:=by
 rw[nB,Nq _ _ _ _ (by simp[hl]),Ax h,KaI,Kb3 (by omega),KaJ,<-hv,qA lo i (by omega),KaX,Ka0,Kbj]
 omega
open Go
variable {C : Ctx} {ρ : Nat -> Option Nat} {fr : Fr} {hp : HP} {w : World} {K K' R : Qh}
def B0:Nat:=1000000
def nP(xs:List PV):Prop:=∀x∈xs,∃k n,x= .int k n
theorem rW(l:List Nat):nP (cj l):=by
 intro x hx;simp only[cj,Kau]at hx;obtain⟨n,_,rfl⟩:=hx;exact⟨_,_,rfl⟩
def oR(w:World)(b:Nat)(ty:TypeId)(xs:List PV):Prop:=nP xs/\∃(cur:Array Value)(cap:Nat),w.heap[b]? =some (.cells cur ty (0,0))/\cur.size=cap*1/\xs.length<=cap/\cap<=maxLen/\
 ∀(i:Nat)(k:IntKind)(n:Int),xs[i]? =some (.int k n)->cur.getD i undef= .int k n
theorem oR.kM{b:Nat}{ty:TypeId}{xs:List PV}{fz:Bool}{X:Nat->Prop}(h:oR w b ty xs):zH w X b ⟨1,ty,xs,fz⟩:=by
 obtain⟨hi,cur,cap,h1,h2,h3,h4,h5⟩:=h
 refine⟨cur,cap,h1,h2,h3,h4,fun i x hx j y hy=> ?_⟩
 obtain⟨k,n,rfl⟩:=hi x (Kaj hx)
 cases j with
 |zero=>
  simp[PV.cells]at hy;subst hy
  rw[KbG,KaX,h5 i k n hx]
  exact Qp.int k n
 |succ j=>simp[PV.cells]at hy
theorem oR.LB{b:Nat}{ty:TypeId}{xs:List PV}{fz:Bool}{X:Nat->Prop}(h:zH w X b ⟨1,ty,xs,fz⟩)(hi:nP xs):oR w b ty xs:=by
 obtain⟨cur,cap,h1,h2,h3,h4,h5⟩:=h
 refine⟨hi,cur,cap,h1,h2,h3,h4,fun i k n hx=> ?_⟩
 have:=h5 i _ hx 0 (.int k n) rfl
 simp only[KbG,KaX]at this
 generalize hg:cur.getD i undef=v at this
 cases this;rfl
theorem EG{xs:List PV}(h:nP xs):∀(i:Nat)(x:PV),xs[i]? =some x->x.cells.length=1/\x.aL=true:=by
 intro i x hx
 obtain⟨k,n,rfl⟩:=h x (Kaj hx)
 exact⟨rfl,rfl⟩
def Ts(w:World)(b len:Nat)(o n:Nat)(v:Value):Prop:=o+n<=len/\∃cap,v= .slice (some ⟨b,o*1,none⟩) n cap/\cZ w b 1 (o+cap)/\o+cap<=maxLen
def Wl(w:World)(X:Nat->Prop)(b len:Nat)(p:PV)(v:Value):Prop:=match p with
 | .aB β o n=>β=B0/\Ts w b len o n v
 |p=>bI w X p v
def Tq(w:World)(X:Nat->Prop)(b len:Nat)(p:PV)(v:Value):Prop:=match p with
 | .aB β o n=>β=B0/\Ts w b len o n v
 |p=>eG w X p v
def zg(P:Program)(f:FuncId)(args:List PV)(ty:TypeId)(xs:List PV)(aT:PV->List PV->Prop):Prop:=
 qO P f/\∀(w:World)(X:Nat->Prop)(b:Nat)(bu:Array Value),(∀c,X c->c<w.heap.size)->X b->bu.size=args.length->oR w b ty xs->0<xs.length->
  (∀(i:Nat)(x:PV),args[i]? =some x->Wl w X b xs.length x (bu.getD i undef))->
  Calls P f bu w fun e w'=>∃v r xs',e= .returned v/\Ext (fun c=>c=b) w w'/\(∀e cap,cZ w b e cap->cZ w' b e cap)/\oR w' b ty xs'/\xs'.length=xs.length/\Tq w' X b xs.length r v/\aT r xs'
def tK(rs:List RV)(ty:TypeId)(len:Nat)(aT:PV->List PV->Prop):Qh:=fun fr hp=>
 ∃xs',hp B0=some ⟨1,ty,xs',false⟩/\nP xs'/\xs'.length=len/\
  (ff rs (fun r=>(∀β o n,r≠ .aB β o n)/\aT r xs') fr hp∨∃s o n,rs=[.t s]/\fr s= .aB B0 o n/\aT (.aB B0 o n) xs')
theorem Ei {P : Program} {f : FuncId} {fn : Func} {sf : ay} {args : List PV} {ty : TypeId} {xs : List PV} {aT : PV -> List PV -> Prop} (hm : P.follows .mixedOrders = true) (hf : P.funcs[f]? = some fn) (pn : (fn.name != "runtime.NumGoroutine") = true) (hc : Qe P fn = some sf) (hn : args.length <= sf.n /\ sf.n <= 1000000)
  (hv:∀C:Ctx,C.P=P->vc C (tK sf.rs ty xs.length aT) [.c sf.body] (jT args) (Qi aA B0 ⟨1,ty,xs,false⟩)):zg P f args ty xs aT:=by
 simp only[Qe,Kab,Kaa]at hc
 obtain⟨c,hb,sb,jo,rs,dD,rfl⟩:=hc
 refine⟨by simp[qO,hf,hb];simpa using pn,fun w X b bu hX xG dV hI fS gw=> ?_⟩
 have pj:∀β c,(fun β=>if β=B0 then some b else none:Nat->Option Nat) β=some c->c<w.heap.size/\(dK β=false->¬(X c/\c≠b)):=fun β c h=>by
  simp only at h
  split at h
  ·cases h;exact⟨hX b xG,fun _ h=>h.2 rfl⟩
  ·cases h
 let C:Ctx:=⟨P,fn.ntmps,w,fun c=>X c/\c≠b,fun c hc=>hX c hc.1,hn.2,fun β=>if β=B0 then some b else none,pj,dL,fun _ h=>h.elim⟩
 refine calls_of_wp hf hb ?_
 have sU:(bu++Array.replicate (fn.ntmps-bu.size) undef).size=fn.ntmps:=by simp at hn ⊢;omega
 have apo:∀c,aK C (fun β=>if β=B0 then some b else none) (Qi aA B0 ⟨1,ty,xs,false⟩) c->X c:=by
  rintro c (hx|⟨β,_,h1,_,h3⟩)
  ·exact hx.1
  ·simp only at h3;split at h3
   ·cases h3;exact xG
   ·cases h3
 have nk:eu C (jT args) (Qi aA B0 ⟨1,ty,xs,false⟩) (bu++Array.replicate (fn.ntmps-bu.size) undef) w:=by
  refine⟨fun β=>if β=B0 then some b else none,sU,Ext.refl _ _,fun _ _ _ _ _ h=>h,fun β aw af=> ?_,fun β γ b' h1 h2 h3 h4=> ?_,fun i=> ?_⟩
  ·unfold Qi at af
   split at af
   ·rename_i arf;cases af;subst arf
    refine⟨by simp,EG hI.1,?_,(fun _=>rfl),fun h=>by cases h⟩
    simp only[if_pos]
    exact⟨rfl,hX b xG,hI.kM⟩
   ·simp[aA]at af
  ·have:∀β,(if β=B0 then some b else none:Option Nat)=some b'->β=B0:=fun β h=>by
    split at h
    ·assumption
    ·cases h
   rw[this β h3,this γ h4]
  ·unfold jT
   cases hi:args[i]? with
   |none=>trivial
   | some p=>
    simp only[Kbe]
    have iV:i<bu.size:=by rw[dV];exact(Kae.1 hi).1
    have hr:=gw i p hi
    have e:(bu++Array.replicate (fn.ntmps-bu.size) undef).getD i undef=bu.getD i undef:=by
     rw[kQ,if_pos iV]
    rw[e]
    have key:bI w X p (bu.getD i undef)->Qm C (fun β=>if β=B0 then some b else none) (Qi aA B0 ⟨1,ty,xs,false⟩) w p (bu.getD i undef):=fun hr=>
     Qm.mu (hr.mono (fun _ _ _=>rfl) (fun c _ hn hx=>hn (apo c hx)) (Kaf _))
    cases p with
    |aB β o n=>
     obtain⟨rfl,h1,cap,h2,h3,h4⟩:=hr
     exact⟨⟨1,ty,xs,false⟩,by simp[Qi],h1,.inr ⟨b,cap,by simp,h2,h3,h4⟩⟩
    |_=>exact key hr
 have fin:∀(fr:Fr)(hp:HP)(a:Act)(w':World),a.defers=[]->eu C fr hp a.tmps w'->tK rs ty xs.length aT fr hp->
   a.defers=[]/\∃v,(results fn a.tmps).run P w'= .ok v w'/\∃v' r xs',Ending.returned v= .returned v'/\Ext (fun c=>c=b) w w'/\(∀e cap,cZ w b e cap->cZ w' b e cap)/\oR w' b ty xs'/\xs'.length=xs.length/\Tq w' X b xs.length r v'/\aT r xs':=by
  rintro fr hp a w' hd ⟨ρ,hs⟩ ⟨xs',hB,hint,hlen,hr⟩
  have bB:=hs.own B0 _ hB
  have aY:=bB.cL
  have bD:ρ B0=some b:=by
   cases hq:ρ B0 with
   |none=>rw[hq]at aY;simp only at aY;rw[aY]at hlen;simp at hlen;omega
   |some b'=>
    rw[<-hq]
    exact bB.fix rfl
  rw[bD]at aY
  have xE:oR w' b ty xs':=oR.LB aY.2.2 hint
  have VF:Ext (fun c=>c=b) w w':=hs.ext.mono fun c _ hc=>by
   rcases hc with⟨β,_,hc⟩|hc
   ·have hc:(if β=B0 then some b else none:Option Nat)=some c:=hc
    split at hc
    ·cases hc;rfl
    ·cases hc
   ·exact hc.elim
  have CF:∀e cap,cZ w b e cap->cZ w' b e cap:=hs.fp B0 b rfl
  rcases hr with hr|⟨s,o,n,rfl,jL,hp⟩
  ·obtain⟨v,r,h1,h2,h3,h4⟩:=ZF (C:=C) rfl dD hs hr (X:=X) (fun c hc=>by
    by_cases e:c=b
    ·subst e;exact .inr ⟨B0,_,rfl,hB,rfl,bD⟩
    ·exact .inl ⟨hc,e⟩)
   refine⟨hd,v,h1,v,r,xs',rfl,VF,CF,xE,hlen,?_,h4⟩
   cases r with
   |aB β o n=>exact absurd rfl (h3 β o n)
   |_=>exact h2
  ·have bb:=hs.cS s
   rw[jL]at bb
   obtain⟨hb2,g1,g2,g3⟩:=bb
   rw[hB]at g1;cases g1
   rcases g3 with⟨g3,_⟩|⟨b',cap,g3,g4,g5,g6⟩
   ·rw[bD]at g3;cases g3
   ·rw[bD]at g3;cases g3
    obtain⟨x,hx⟩:∃x,fn.results.toList=[x]:=by
     have:=oE dD
     exact KcE.1 (by rw[<-this.1];rfl)
    have ir:kO P x=some (.t s):=by
     rw[hx]at dD
     simp only[KcD,List.mapM_nil,Kch,KcJ,Kab,KaC]at dD
     obtain⟨y,h1,_,_,h2⟩:=dD
     simp only[Kc1]at h2
     rw[<-h2.1];exact h1
    have CU:x= .tmp s:=by
     cases x with
     |tmp t=>simpa[kO]using ir
     |cell y t=>simp[kO,Kab]at ir
    subst CU
    have gy:(results fn a.tmps).run P w'= .ok (a.tmps.getD s undef) w':=by
     have e:results fn a.tmps=(do let vs<-fn.results.mapM (qP a.tmps);pure (if h:vs.size=1 then vs[0]else .tuple vs)):=rfl
     rw[e,KbW,hx]
     simp[Kaq,qP]
    refine⟨hd,_,gy,_,.aB B0 o n,xs',rfl,VF,CF,xE,hlen,⟨rfl,hlen▸g2,cap,g4,g5,g6⟩,hp⟩
 exact Ip (C:=C) (R:=tK rs ty xs.length aT) hm c sb [] _ (jT args) _ _ w jo ⟨fun fr hp a w' hd hs hv=>(by rw[vd]at hv;exact fin fr hp a w' hd hs hv),fun id dZ he=>(by simp[FW.ch]at he),fin⟩ rfl nk (hv C rfl)
def PV.qu:PV->Bool
 | .aB .. =>true
 |p=>p.aL
def kM(β:Nat):PV->PV
 | .aB γ o n=>if γ=β then .aB B0 o n else .undef
 | .mp _ _ _=> .undef
 | .rb _ _ _=> .undef
 | .fn _ _ _=> .undef
 | .aG _ _ _| .np _ _ _| .bm _| .aF _ _ _ _=> .undef
 |p=>p
def oM(β:Nat):PV->PV
 | .aB _ o n=> .aB β o n
 |p=>p
theorem Fy{P:Program}(hP:C.P=P){g:FuncId}{args aZ:List PV}{d:Option Nat}{β:Nat}{ty:TypeId}{xs:List PV}{aT:PV->List PV->Prop}(h:zg P g aZ ty xs aT)(af:hp β=some ⟨1,ty,xs,false⟩)(hint:nP xs)(fS:0<xs.length)
  (cl:args.map (kM β)=aZ) (iE:aZ.all PV.qu=true)
  (hK:∀r xs',nP xs'->xs'.length=xs.length->aT r xs'->K (dB fr d (oM β r)) (Qi hp β ⟨1,ty,xs',false⟩)):fY C false (.fn g [] []) args d fr hp K:=by
 subst hP
 refine⟨h.1,fun ρ tmps w fv cv av rk hs h1 h2 h3 _ _ pq=> ?_⟩
 have bB:=hs.own β _ af
 have aY:=bB.cL
 obtain⟨b,bD⟩:∃b,ρ β=some b:=by
  cases hq:ρ β with
  |none=>rw[hq]at aY;simp only at aY;rw[aY]at fS;simp at fS
  |some b=>exact⟨b,rfl⟩
 rw[bD]at aY
 have xG:aK C ρ hp b:= .inr ⟨β,_,af,rfl,bD⟩
 have e1:fv= #[]:=KbV (by simpa using h1)
 have e2:cv= #[]:=KbV (by simpa using h2)
 subst e1;subst e2
 simp only[Array.empty_append,Array.append_empty]
 refine(h.2 w (aK C ρ hp) b av (BL hs) xG (by rw[<-cl];simp[h3]) (oR.LB aY.2.2 hint) fS (fun i x hx=> ?_)).mono ?_
 ·rw [<-cl]at hx
  simp only[Kav,Kaa]at hx
  obtain⟨p,hp',yc⟩:=hx
  have hr:=pq i p hp'
  have kJ:PV.qu x=true:=by
   rw[Kas]at iE
   refine iE x ?_
   rw[<-cl,<-yc]
   exact KcC (Kaj hp')
  subst yc
  cases p with
  | aB γ o n=>
   simp only[kM]at kJ⊢
   split
   ·rename_i aj
    subst aj
    obtain⟨hb2,g1,g2,g3⟩:=hr
    rw[af]at g1;cases g1
    rcases g3 with⟨g3,_⟩|⟨b',cap,g3,g4,g5,g6⟩
    ·rw[bD]at g3;cases g3
    ·rw[bD]at g3;cases g3
     exact⟨rfl,g2,cap,g4,g5,g6⟩
   ·rename_i aj;rw[if_neg aj]at kJ;simp[PV.qu,PV.aL]at kJ
  |mp=>simp[kM,PV.qu,PV.aL]at kJ
  |rb=>simp[kM,PV.qu,PV.aL]at kJ
  |fn=>simp[kM,PV.qu,PV.aL]at kJ
  |undef=>simp[kM,PV.qu,PV.aL]at kJ
  |aG=>simp[kM,PV.qu,PV.aL]at kJ
  |np=>simp[kM,PV.qu,PV.aL]at kJ
  |bm=>simp[kM,PV.qu,PV.aL]at kJ
  |aF=>simp[kM,PV.qu,PV.aL]at kJ
  |aI=>simp[kM,PV.qu,PV.aL]at kJ
  |agg cs=>exact hr
  |_=>exact hr
 ·rintro e w' ⟨v,r,xs',rfl,hx,dH,xE,hlen,gy,fT⟩
  have bA:=hs.store β b ⟨1,ty,xs,false⟩ ⟨1,ty,xs',false⟩ af rfl (by intro e;simp at e;rw[e]at fS;simp at fS) bD hx rfl hlen rfl (EG xE.1) dH (xE.kM (X:=aK C ρ hp) (fz:=false) |> fun⟨cur,cap,c1,c2,c3,c4,c5⟩=>⟨cur,cap,c1,c2,c3,c4,fun i x hi j y hy=>by
   obtain⟨k,n,rfl⟩:=xE.1 x (Kaj hi)
   have:=c5 i _ hi j y hy
   cases j with
   |zero=>
    simp[PV.cells]at hy;subst hy
    generalize hg:cur.getD (i*1+0) undef=u at this
    cases this
    exact Qp.int k n
   |succ j=>simp[PV.cells]at hy⟩)
  have Ku:aK C ρ (Qi hp β ⟨1,ty,xs',false⟩)=aK C ρ hp:=by
   funext c;apply propext;constructor
   ·rintro(hx|⟨γ,hg,h1,h2,h3⟩)
    ·exact .inl hx
    ·by_cases aj:γ=β
     ·subst aj;exact .inr ⟨γ,_,af,rfl,h3⟩
     ·simp only[Qi,if_neg aj]at h1;exact .inr ⟨γ,hg,h1,h2,h3⟩
   ·rintro(hx|⟨γ,hg,h1,h2,h3⟩)
    ·exact .inl hx
    ·by_cases aj:γ=β
     ·subst aj;exact .inr ⟨γ,⟨1,ty,xs',false⟩,by simp[Qi],rfl,h3⟩
     ·exact .inr ⟨γ,hg,by simp[Qi,aj,h1],h2,h3⟩
  refine⟨v,_,_,rfl,⟨ρ,bA.Hc (p:=oM β r) ?_ rk⟩,by simp,hK r xs' xE.1 hlen fT⟩
  cases r with
  |aB γ o n=>
   obtain⟨_,g1,cap,g2,g3,g4⟩:=gy
   exact⟨⟨1,ty,xs',false⟩,by simp[Qi],by simp only[oM];omega,.inr ⟨b,cap,bD,g2,g3,g4⟩⟩
  |_=>exact Qm.G4 (p:=_) (by rw[Ku];exact gy)
end Go.FW
namespace Go.FW
open Go
variable {C : Ctx} {ρ : Nat -> Option Nat} {fr : Fr} {hp : HP} {w : World} {K K' R : Qh}
def BB(P:Program)(f:FuncId)(args:List PV)(ty:TypeId)(aT:List PV->Prop):Prop:=
 qO P f/\∀(w:World)(X:Nat->Prop)(bu:Array Value),(∀b,X b->b<w.heap.size)->bu.size=args.length->(∀(i:Nat)(x:PV),args[i]? =some x->bI w X x (bu.getD i undef))->
  Calls P f bu w fun e w'=>∃v b cap ys,e= .returned v/\v= .slice (some ⟨b,0,none⟩) ys.length cap/\w.heap.size<=b/\Ext dL w w'/\oR w' b ty ys/\cZ w' b 1 cap/\cap<=maxLen/\aT ys
def zy(rs:List RV)(ty:TypeId)(aT:List PV->Prop):Qh:=fun fr hp=>
 ∃s β n xs,rs=[.t s]/\fr s= .aB β 0 n/\bE β=false/\hp β=some ⟨1,ty,xs,false⟩/\nP xs/\0<n/\aT (xs.take n)
theorem aaQ{xs:List PV}(h:nP xs)(n:Nat):nP (xs.take n):=fun x hx=>h x (Kbf hx)
theorem aaR {P : Program} {f : FuncId} {fn : Func} {sf : ay} {args : List PV} {ty : TypeId} {aT : List PV -> Prop} (hm : P.follows .mixedOrders = true) (hf : P.funcs[f]? = some fn) (pn : (fn.name != "runtime.NumGoroutine") = true) (hc : Qe P fn = some sf) (hn : args.length <= sf.n /\ sf.n <= 1000000)
  (hv:∀C:Ctx,C.P=P->vc C (zy sf.rs ty aT) [.c sf.body] (jT args) aA):BB P f args ty aT:=by
 simp only[Qe,Kab,Kaa]at hc
 obtain⟨c,hb,sb,jo,rs,dD,rfl⟩:=hc
 refine⟨by simp[qO,hf,hb];simpa using pn,fun w X bu hX dV gw=> ?_⟩
 let C:Ctx:=Ctx.plain P fn.ntmps w X hX hn.2
 refine calls_of_wp hf hb ?_
 have sU:(bu++Array.replicate (fn.ntmps-bu.size) undef).size=fn.ntmps:=by simp at hn ⊢;omega
 have nk:eu C (jT args) aA (bu++Array.replicate (fn.ntmps-bu.size) undef) w:=by
  refine⟨fun _=>none,sU,Ext.refl _ _,(fun _ _ h=>by cases h),by simp[aA],by simp[aA],fun i=> ?_⟩
  unfold jT
  cases hi:args[i]? with
  |none=>trivial
  | some p=>
   simp only[Kbe]
   have iV:i<bu.size:=by rw[dV];exact(Kae.1 hi).1
   have hr:=gw i p hi
   have e:(bu++Array.replicate (fn.ntmps-bu.size) undef).getD i undef=bu.getD i undef:=by
    rw[kQ,if_pos iV]
   rw[e]
   refine Qm.mu (hr.mono (fun _ _ _=>rfl) (fun b _ hn hx=> ?_) (Kaf _))
   rcases hx with hx|⟨_,_,h1,_⟩
   ·exact hn hx
   ·simp[aA]at h1
 have fin:∀(fr:Fr)(hp:HP)(a:Act)(w':World),a.defers=[]->eu C fr hp a.tmps w'->zy rs ty aT fr hp->
   a.defers=[]/\∃v,(results fn a.tmps).run P w'= .ok v w'/\∃v' b cap ys,Ending.returned v= .returned v'/\v'= .slice (some ⟨b,0,none⟩) ys.length cap/\w.heap.size<=b/\Ext dL w w'/\oR w' b ty ys/\cZ w' b 1 cap/\cap<=maxLen/\aT ys:=by
  rintro fr hp a w' hd ⟨ρ,hs⟩ ⟨s,β,n,xs,rfl,jL,hB,af,hint,fS,hp⟩
  have bB:=hs.own β _ af
  have aY:=bB.cL
  have bb:=hs.cS s
  rw[jL]at bb
  obtain⟨hb2,g1,g2,g3⟩:=bb
  rw[af]at g1;cases g1
  rcases g3 with⟨_,_,g3,_⟩|⟨b,cap,g3,g4,g5,g6⟩
  ·omega
  ·rw[g3]at aY
   simp only[hB]at aY
   obtain⟨x,hx⟩:∃x,fn.results.toList=[x]:=by
    have:=oE dD
    exact KcE.1 (by rw[<-this.1];rfl)
   have ir:kO P x=some (.t s):=by
    rw[hx]at dD
    simp only[KcD,List.mapM_nil,Kch,KcJ,Kab,KaC]at dD
    obtain⟨y,h1,_,_,h2⟩:=dD
    simp only[Kc1]at h2
    rw[<-h2.1];exact h1
   have CU:x= .tmp s:=by
    cases x with
    |tmp t=>simpa[kO]using ir
    |cell y t=>simp[kO,Kab]at ir
   subst CU
   have gy:(results fn a.tmps).run P w'= .ok (a.tmps.getD s undef) w':=by
    have e:results fn a.tmps=(do let vs<-fn.results.mapM (qP a.tmps);pure (if h:vs.size=1 then vs[0]else .tuple vs)):=rfl
    rw[e,KbW,hx]
    simp[qP]
   have hlen:(xs.take n).length=n:=by simp at g2 ⊢;omega
   refine⟨hd,_,gy,_,b,cap,xs.take n,rfl,by rw[g4,hlen,KcA],(Ctx.vO aY.1 (zu hB)).resolve_right (fun h=>h),Ctx.G5 hs.ext,?_,by rw[Kbb]at g5;exact g5,by omega,hp⟩
   obtain⟨_,cur,cp,i1,i2,i3,i4,i5⟩:=oR.LB aY.2.2 hint
   exact⟨aaQ hint n,cur,cp,i1,i2,by simp;omega,i4,fun i k m hi=>i5 i k m (by
    have ao:i<n:=by have:=(Kae.1 hi).1;omega
    rwa[KaM ao]at hi)⟩
 exact Ip (C:=C) (R:=zy rs ty aT) hm c sb [] _ (jT args) aA _ w jo ⟨fun fr hp a w' hd hs hv=>(by rw[vd]at hv;exact fin fr hp a w' hd hs hv),fun id dZ he=>(by simp[FW.ch]at he),fin⟩ rfl nk (hv C rfl)
theorem aiO{P:Program}(hP:C.P=P){g:FuncId}{args aZ:List PV}{d:Nat}{ty:TypeId}{aT:List PV->Prop}(h:BB P g aZ ty aT)(cl:([]++args++[]).map (aO hp)=aZ)(iE:aZ.all PV.aL=true)(hr:([]++args++[]).flatMap PV.refs=[])
  (hB:bE d=false) (hK:∀ys,nP ys->aT ys->K (ae (cx d fr) d (.ms d ys.length)) (Qi hp d ⟨1,ty,ys,false⟩)):fY C false (.fn g [] []) args (some d) fr hp K:=by
 subst hP
 refine⟨h.1,fun ρ tmps w fv cv av rk hs h1 h2 h3 qp jt pq=> ?_⟩
 have hf0:bV hp (([]++args++[]).flatMap PV.refs)=hp:=by rw[hr];rfl
 have gw:=Nj hs h1 h2 h3 qp jt pq (by rw[cl];exact iE)
 rw[hf0,cl]at gw
 refine(h.2 w _ (fv++av++cv) (BL hs) (by rw[<-cl];simp[h1,h2,h3]) gw).mono ?_
 rintro e w' ⟨v,b,cap,ys,rfl,rfl,hb,hx,hI,dH,hm,fT⟩
 have sH:b<w'.heap.size:=by
  obtain⟨_,cur,cp,i1,_⟩:=hI
  exact(KbR.1 i1).1
 have hrb:=hs.rebind (w':=w') d (some b) ⟨1,ty,ys,false⟩ hB (hx.mono (fun _ _ h=>h.elim)) (fun c hc=>by cases hc;exact⟨.inl (Kao hs.ext.size hb),sH,.inl hb⟩) (by simp) (EG hI.1) (by simp)
  (fun c hc=>by
   cases hc
   obtain⟨hint,cur,cp,i1,i2,i3,i4,i5⟩:=hI
   refine⟨cur,cp,i1,i2,i3,i4,fun i x hi j y hy=> ?_⟩
   obtain⟨k,n,rfl⟩:=hint x (Kaj hi)
   cases j with
   |zero=>
    simp[PV.cells]at hy;subst hy
    rw[KbG,KaX,i5 i k n hi]
    exact Qp.int k n
   |succ j=>simp[PV.cells]at hy)
 refine⟨_,_,_,rfl,⟨_,hrb.Hc (d:=some d) (p:= .ms d ys.length) ?_ rk⟩,by simp,hK ys hI.1 fT⟩
 exact⟨⟨1,ty,ys,false⟩,by simp[Qi],by simp,.inr ⟨b,cap,ja _ _ _,by simp,by rw[Kbb];exact dH,by omega⟩⟩
def gV(hp:HP):PV->PV
 | .mp β i o=>match hp β with
  |some hb=>match hb.xs[i]? with
   |some x=> .pt (x.cells.drop o)
   |none=> .undef
  |none=> .undef
 | .aB β o n=>match hp β with
  |some hb=> .sl hb.e ((hb.xs.drop o).take n)
  |none=> .undef
 | .rb β o n=>match hp β with
  |some hb=> .pt [.sl hb.e ((hb.xs.drop o).take n)]
  |none=> .undef
 |p=>p
def xq(C:Ctx)(ρ:Nat->Option Nat)(hp:HP)(l:List Nat):Nat->Prop:=fun c=>aK C ρ hp c/\¬∃β∈l,ρ β=some c
theorem Qp.xA{l:List Nat}{q:PV}{u:Value}(h:Qp w (aK C ρ hp) q u):Qp w (xq C ρ hp l) q u:=
 h.mono (fun _ _ _=>rfl) (fun _ _ hn hx=>hn hx.1) (Kaf _)
theorem eH.xA{tmps:Array Value}(h:Qr C ρ fr hp tmps w){β o n:Nat}{v:Value}{l:List Nat}{hb:HB}(hr:eH ρ hp w β o n v)(yq:β∈l)(g1:hp β=some hb):Qp w (xq C ρ hp l) (.sl hb.e ((hb.xs.drop o).take n)) v:=by
 obtain⟨hb2,FU,g2,g3⟩:=hr
 rw[g1]at FU;cases FU
 rcases g3 with⟨g3,rfl,rfl,rfl⟩|⟨b,cap,g3,rfl,g5,g6⟩
 ·simp only[Kcr];exact .nt _ _ _ (Kbv _)
 ·have bB:=h.own β hb g1
  have aY:=bB.cL
  rw[g3]at aY
  obtain⟨_,au,cur,eK,c1,c2,c3,c4,c5⟩:=aY
  obtain⟨cur',ty',d1,d2⟩:=g5
  rw[c1]at d1;cases d1
  have ij:o+cap=eK:=by
   rw[c2]at d2
   exact(KbF bB.lg d2).symm
  subst ij
  have hlen:((hb.xs.drop o).take n).length=n:=by simp;omega
  have eL:∀(i:Nat)(x:PV),((hb.xs.drop o).take n)[i]? =some x->i<n/\hb.xs[o+i]? =some x:=fun i x hx=>by
   have hi:i<n:=by have:=(Kae.1 hx).1;omega
   rw[KaM hi,Ka9]at hx
   exact⟨hi,hx⟩
  have:=Qp.sl (w:=w) (X:=xq C ρ hp l) hb.e ((hb.xs.drop o).take n) b (o*hb.e) cap (fun i j=>cur.getD ((o+i)*hb.e+j) undef) (fun CV=>CV.2 ⟨β,yq,g3⟩) au (by omega) (by omega)
   (fun i x hx=>(bB.len _ x (eL i x hx).2).1)
   (fun i hi j hj=>by
    rw[hlen]at hi
    have:=oL (i:=o+i) (e:=hb.e) (o:=0) (j:=j) (n:=hb.e) (cap:=o+cap) (by omega) (by omega) hj
    rw[KaX]at this
    rw[show o*hb.e+i*hb.e+j=(o+i)*hb.e+j by rw[KaJ]]
    exact my c1 (by rw[c2];exact this))
   (fun i x hx j y hy=>(c5 _ x (eL i x hx).2 j y hy).xA)
  rwa[hlen]at this
theorem Ej{tmps:Array Value}(h:Qr C ρ fr hp tmps w){p:PV}{v:Value}{l:List Nat}(hr:cK C ρ hp w p v)(hl:∀β∈p.bX,β∈l)(hu:(gV hp p).aL=true)(CN:∀f a b,p≠ .fn f a b):bI w (xq C ρ hp l) (gV hp p) v:=by
 cases p with
 | mp β i o=>
  obtain⟨b,hb,g1,g2,rfl⟩:=hr
  have yq:=hl β (by simp[PV.bX])
  have bB:=h.own β hb g2
  have aY:=bB.cL
  rw[g1]at aY
  obtain⟨_,au,cur,cap,c1,c2,c3,c4,c5⟩:=aY
  simp only[gV,g2]at hu⊢
  cases hx:hb.xs[i]? with
  |none=>simp[hx,PV.aL]at hu
  | some x=>
   have hi:i<hb.xs.length:=(Kae.1 hx).1
   have jK:=(bB.len i x hx).1
   refine Qp.pt _ b _ (fun j=>cur.getD (i*hb.e+o+j) undef) (fun CV=>CV.2 ⟨β,yq,g1⟩) au (fun j hj=> ?_) (fun j y hy=> ?_)
   ·have dw:o+(j+1)<=hb.e:=by simp[jK]at hj;omega
    exact my c1 (by rw[c2];exact oL (by omega) dw (Nat.lt_succ_self j))
   ·rw[Ka9]at hy
    rw[Kcf]
    exact(c5 i x hx (o+j) y hy).xA
 |aB β o n=>
  obtain⟨hb,g1,_⟩:=id hr
  simp only[gV,g1]
  exact eH.xA h hr (hl β (by simp[PV.bX])) g1
 | rb β o n=>
  obtain⟨b,u,rfl,e2,e3,e4,hb,g1,e5⟩:=hr
  simp only[gV,g1]
  refine Qp.pt _ b 0 (fun _=>u) (fun hx=>e3 hx.1) e2 (fun j hj=> ?_) (fun j y hy=> ?_)
  ·obtain rfl:j=0:=by simpa using hj
   simpa using e4
  ·cases j with
   |zero=>simp at hy;subst hy;exact eH.xA h ⟨hb,g1,e5⟩ (hl β (by simp[PV.bX])) g1
   |succ j=>simp at hy
 |undef=>simp[gV,PV.aL]at hu
 |fn f a b=>exact absurd rfl (CN f a b)
 |aI=>simp[gV,PV.aL]at hu
 |aG=>simp[gV,PV.aL]at hu
 |np=>simp[gV,PV.aL]at hu
 |bm=>simp[gV,PV.aL]at hu
 |aF=>simp[gV,PV.aL]at hu
 |agg=>cases hr
 |_=>exact Qp.xA hr
end Go.FW
namespace Go.FW
open Go
variable {C : Ctx} {ρ : Nat -> Option Nat} {fr : Fr} {hp : HP} {w : World} {K K' R : Qh}
def PV.wC:PV->Bool
 | .fn .. =>false
 |p=>p.aL
theorem Sc{p:PV}(h:p.wC=true):p.aL=true/\∀f a b,p≠ .fn f a b:=by
 cases p<;>simp_all[PV.wC,PV.aL]
theorem ZH{tmps:Array Value}(h:Qr C ρ fr hp tmps w){p:PV}{v:Value}{l:List Nat}(hr:Qm C ρ hp w p v)(hl:∀β∈p.refs,β∈l)(hu:(gV hp p).wC=true):bI w (xq C ρ hp l) (gV hp p) v:=by
 obtain⟨hd,CN⟩:=Sc hu
 cases p with
 |mp β i o=>exact Ej (p:= .mp β i o) h hr (fun bn nq=>hl bn nq) hd (by simp)
 |aB β o n=>exact Ej (p:= .aB β o n) h hr (fun bn nq=>hl bn nq) hd (by simp)
 |rb β o n=>exact Ej (p:= .rb β o n) h hr (fun bn nq=>hl bn nq) hd (by simp)
 |fn f a b=>exact absurd rfl (CN f a b)
 |undef=>simp[gV,PV.wC,PV.aL]at hu
 |aI=>simp[gV,PV.wC,PV.aL]at hu
 |agg cs=>exact bI.mono (p:= .agg cs) hr (fun _ _ _=>rfl) (fun _ _ hn hx=>hn hx.1) (Kaf _)
 |aG=>simp[gV,PV.aL]at hd
 |np=>simp[gV,PV.aL]at hd
 |bm=>simp[gV,PV.aL]at hd
 |aF=>simp[gV,PV.aL]at hd
 |_=>exact Qp.xA hr
theorem Sd{tmps:Array Value}(h:Qr C ρ fr hp tmps w){p:PV}{v:Value}{l:List Nat}(hr:cK C ρ hp w p v)(hl:∀β∈p.refs,β∈l)(hu:(gV hp p).wC=true):bI w (xq C ρ hp l) (gV hp p) v:=by
 obtain⟨hd,CN⟩:=Sc hu
 refine Ej h hr (fun β af=>hl β ?_) hd ?_
 ·cases p<;>simp_all[PV.bX,PV.refs]
 ·intro f a b hp';subst hp';exact CN f a b rfl
theorem aaS{P:Program}(hP:C.P=P){g:FuncId}{first cap args aZ:List PV}{pr:Bool}{d:Option Nat}{r:PV}(h:Qd P g aZ (· =r))(cl:(first++args++cap).map (gV hp)=aZ)(iE:aZ.all PV.wC=true)(hr:r.Lw=true)
  (hK:K (dB fr d r) hp):fY C pr (.fn g first cap) args d fr hp K:=by
 subst hP
 refine⟨h.1,fun ρ tmps w fv cv av rk hs h1 h2 h3 qp jt pq=> ?_⟩
 refine(h.2 w (xq C ρ hp ((first++args++cap).flatMap PV.refs)) (fv++av++cv) (fun b hb=>BL hs b hb.1) (by rw[<-cl];simp[h1,h2,h3]) (fun i x hx=> ?_)).mono ?_
 ·have xO:x.wC=true:=by rw[Kas]at iE;exact iE x (Kaj hx)
  rw[<-cl]at hx
  simp only[Kav,Kaa]at hx
  obtain⟨p,hp',rfl⟩:=hx
  have dn:=Kaj hp'
  have hl:∀β∈p.refs,β∈(first++args++cap).flatMap PV.refs:=fun β af=>Kat.2 ⟨p,dn,af⟩
  rw[kQ]
  rw[KaZ]at hp'
  by_cases c1:i<(first++args).length
  ·rw[if_pos c1]at hp'
   rw[if_pos (by simp only[Kcg,h1,h3];simpa using c1),kQ]
   rw[KaZ]at hp'
   by_cases c2:i<first.length
   ·rw[if_pos c2]at hp'
    rw[if_pos (by omega)]
    exact Sd hs (qp i p hp') hl xO
   ·rw[if_neg c2]at hp'
    rw[if_neg (by omega),h1]
    exact ZH hs (pq _ p hp') hl xO
  ·rw[if_neg c1]at hp'
   have dV:(fv++av).size=(first++args).length:=by simp[h1,h3]
   rw[if_neg (by omega),dV]
   exact Sd hs (jt _ p hp') hl xO
 ·rintro e w' ⟨v,r',rfl,hx,cQ,rfl⟩
  exact⟨v,_,_,rfl,⟨ρ,(hs.grow hx).Hc (Qm.G4 (acQ hr cQ)) rk⟩,fun _=>hx,hK⟩
end Go.FW
namespace Go.FW
def kV:List Nat->List Nat->Nat->List Nat
 | [],_,_=>[]
 |x::xs,ys,c=>(c+x+ys.headD 0)%65536::kV xs ys.tail ((c+x+ys.headD 0)/65536)
theorem RJ:∀(a b:List Nat)(c:Nat),(kV a b c).length=a.length
 | [],_,_=>rfl
 |x::xs,b,c=>by simp[kV,RJ xs]
theorem Se:∀(a b:List Nat)(c:Nat),Qj (kV a b c)
 | [],_,_=>oG
 |x::xs,b,c=>by rw[kV,ix];exact⟨by omega,Se xs _ _⟩
theorem aaT{a b:List Nat}{i c:Nat}(h:i<a.length):kV (a.drop i) (b.drop i) c=(c+a[i]+b.getD i 0)%65536::kV (a.drop (i+1)) (b.drop (i+1)) ((c+a[i]+b.getD i 0)/65536):=by
 rw[Kaw h,kV]
 simp[KbN,Kcw,Kad]
theorem Nr:∀(a b:List Nat)(c:Nat),b.length<=a.length->∃k,val (kV a b c)+65536^a.length*k=val a+val b+c
 | [],b,c,h=>by
  have:b=[]:=KaE.1 (by simpa using h)
  subst this
  exact⟨c,by simp[kV,val]⟩
 |x::xs,b,c,h=>by
  obtain⟨k,hk⟩:=Nr xs b.tail ((c+x+b.headD 0)/65536) (by simp at h ⊢;omega)
  refine⟨k,?_⟩
  rw[kV,val,val,AV b,KaP,Kbr,KaR (65536^xs.length) 65536,Kbj]
  generalize 65536^xs.length*k=z at *
  generalize b.headD 0=y at *
  omega
def fe:List Nat->List Nat->Nat->Nat->Nat->List Nat×Nat×Nat
 | [],_,_,c,b=>([],c,b)
 |x::xs,ys,q,c,b=>
  let r:=fe xs ys.tail q ((c+q*ys.headD 0)/65536) (if x<(c+q*ys.headD 0)%65536+b then 1 else 0)
  ((x+65536-(c+q*ys.headD 0)%65536-b)%65536::r.1,r.2)
theorem RK:∀(a v:List Nat)(q c b:Nat),(fe a v q c b).1.length=a.length
 | [],_,_,_,_=>rfl
 |x::xs,v,q,c,b=>by simp[fe,RK xs]
theorem Sy:∀(a v:List Nat)(q c b:Nat),Qj (fe a v q c b).1
 | [],_,_,_,_=>oG
 |x::xs,v,q,c,b=>by simp only[fe];rw[ix];exact⟨by omega,Sy xs _ _ _ _⟩
theorem aaU{a v:List Nat}{i q c b:Nat}(h:i<a.length):fe (a.drop i) (v.drop i) q c b=
    ((a[i]+65536-(c+q*v.getD i 0)%65536-b)%65536::(fe (a.drop (i+1)) (v.drop (i+1)) q ((c+q*v.getD i 0)/65536) (if a[i]<(c+q*v.getD i 0)%65536+b then 1 else 0)).1,
     (fe (a.drop (i+1)) (v.drop (i+1)) q ((c+q*v.getD i 0)/65536) (if a[i]<(c+q*v.getD i 0)%65536+b then 1 else 0)).2):=by
  rw[Kaw h,fe]
  simp[KbN,Kcw,Kad]
theorem Ns:∀(a v:List Nat)(q c b:Nat),Qj a->b<=1->v.length<=a.length->
  val (fe a v q c b).1+(q*val v+c+b)=val a+65536^a.length*((fe a v q c b).2.1+(fe a v q c b).2.2)/\(fe a v q c b).2.2<=1
 | [],v,q,c,b,_,hb,h=>by
  have:v=[]:=KaE.1 (by simpa using h)
  subst this
  simp[fe,val,hb]
 |x::xs,v,q,c,b,ha,hb,h=>by
  rw[ix]at ha
  have aw:(if x<(c+q*v.headD 0)%65536+b then 1 else 0)<=1:=by split<;>omega
  obtain⟨ih,Lv⟩:=Ns xs v.tail q ((c+q*v.headD 0)/65536) (if x<(c+q*v.headD 0)%65536+b then 1 else 0) ha.2 aw (by simp at h ⊢;omega)
  refine⟨?_,Lv⟩
  simp only[fe]
  rw[val,val,AV v,KaP,Kbr,KaR (65536^xs.length) 65536,Kbj,Ka0 q,Kbi q 65536]
  generalize fe xs v.tail q ((c+q*v.headD 0)/65536) (if x<(c+q*v.headD 0)%65536+b then 1 else 0)=r at *
  generalize 65536^xs.length*(r.2.1+r.2.2)=z at *
  generalize q*v.headD 0=y at *
  generalize q*val v.tail=t at *
  have h0:=ha.1
  split at ih
  ·omega
  ·omega
open Go
variable {fr : Fr} {hp : HP}
theorem aiP{ty len:Nat}{aT:PV->List PV->Prop}{xs':List PV}(hB:hp B0=some ⟨1,ty,xs',false⟩)(hi:nP xs')(hl:xs'.length=len)(hp':aT (.aI []) xs'):tK [] ty len aT fr hp:=
 ⟨xs',hB,hi,hl,.inl ⟨by simp,.aI [],trivial,by simp,hp'⟩⟩
theorem Pw{ty len s:Nat}{aT:PV->List PV->Prop}{xs':List PV}{p:PV}(hB:hp B0=some ⟨1,ty,xs',false⟩)(hi:nP xs')(hl:xs'.length=len)(hs:aO hp (fr s)=p)(hd:p.aL=true)(hp':aT p xs'):tK [.t s] ty len aT fr hp:=
 ⟨xs',hB,hi,hl,.inl ⟨by simp only[mw];rw[hs];exact hd,p,by simp only[lH];rw[hs];exact Qn p,fun β o n e=>by subst e;simp[PV.aL]at hd,hp'⟩⟩
theorem OJ{ty len s o n:Nat}{aT:PV->List PV->Prop}{xs':List PV}(hB:hp B0=some ⟨1,ty,xs',false⟩)(hi:nP xs')(hl:xs'.length=len)(hs:fr s= .aB B0 o n)(hp':aT (.aB B0 o n) xs'):tK [.t s] ty len aT fr hp:=
 ⟨xs',hB,hi,hl,.inr ⟨s,o,n,rfl,hs,hp'⟩⟩
end Go.FW
namespace Go.FW
open Go
variable {C : Ctx} {fr : Fr} {hp : HP} {K : Qh}
theorem BM{a b i:Nat}(h:b<2^i):a*2^i|||b=a*2^i+b:=by
 rw[<-Nat.shiftLeft_eq,Nat.shiftLeft_add_eq_or_of_lt h]
theorem Px{bt:Bool}{x y d:Nat}(hx:x<18446744073709551616)(hy:y<18446744073709551616):ca .or bt (.int .u64 (x:Int)) (.int .u64 (y:Int)) d fr hp K=K (ae fr d (.int .u64 ((x|||y:Nat):Int))) hp:=by
 have h1:(BitVec.ofInt 64 (x:Int)|||BitVec.ofInt 64 (y:Int)).toNat=x|||y:=by
  rw[BitVec.toNat_or,BitVec.ofInt_natCast,BitVec.ofInt_natCast,BitVec.toNat_ofNat,BitVec.toNat_ofNat,KaO hx,KaO hy]
 have h2:x|||y<18446744073709551616:=Nat.or_lt_two_pow (n:=64) hx hy
 simp only[ca,IntKind.bits,h1,true_and]
 rw[tu (by omega) (by omega)]
 exact congrArg (fun z:Nat=>K (ae fr d (.int .u64 (z:Int))) hp) h1
theorem Py{bt:Bool}{x y d:Nat}(hx:x<4294967296)(hy:y<4294967296):ca .or bt (.int .u32 (x:Int)) (.int .u32 (y:Int)) d fr hp K=K (ae fr d (.int .u32 ((x|||y:Nat):Int))) hp:=by
 have h1:(BitVec.ofInt 32 (x:Int)|||BitVec.ofInt 32 (y:Int)).toNat=x|||y:=by
  rw[BitVec.toNat_or,BitVec.ofInt_natCast,BitVec.ofInt_natCast,BitVec.toNat_ofNat,BitVec.toNat_ofNat,KaO hx,KaO hy]
 have h2:x|||y<4294967296:=Nat.or_lt_two_pow (n:=32) hx hy
 simp only[ca,IntKind.bits,h1,true_and]
 rw[EE (by omega) (by omega)]
 exact congrArg (fun z:Nat=>K (ae fr d (.int .u32 (z:Int))) hp) h1
theorem aiQ{bt:Bool}{x y d:Nat}(hx:x<65536)(hy:y<65536):ca .or bt (.int .u16 (x:Int)) (.int .u16 (y:Int)) d fr hp K=K (ae fr d (.int .u16 ((x|||y:Nat):Int))) hp:=by
 have h1:(BitVec.ofInt 16 (x:Int)|||BitVec.ofInt 16 (y:Int)).toNat=x|||y:=by
  rw[BitVec.toNat_or,BitVec.ofInt_natCast,BitVec.ofInt_natCast,BitVec.toNat_ofNat,BitVec.toNat_ofNat,KaO hx,KaO hy]
 have h2:x|||y<65536:=Nat.or_lt_two_pow (n:=16) hx hy
 simp only[ca,IntKind.bits,h1,true_and]
 rw[acT (by omega) (by omega)]
 exact congrArg (fun z:Nat=>K (ae fr d (.int .u16 (z:Int))) hp) h1
theorem OK{bt:Bool}{k':IntKind}{x s d:Nat}(hs:s<=64)(h:x*2^s<18446744073709551616):ca .shl bt (.int .u64 (x:Int)) (.int k' (s:Int)) d fr hp K=K (ae fr d (.int .u64 ((x*2^s:Nat):Int))) hp:=by
 have h0:(0:Int)<=s:=by omega
 have h1:min ((s:Int).toNat) IntKind.u64.bits=s:=by simp[IntKind.bits];omega
 simp only[ca,h0,true_and,h1]
 rw[show(x:Int)*2^s=((x*2^s:Nat):Int)by push_cast;rfl,tu (by omega) (by omega)]
theorem OL{bt:Bool}{k':IntKind}{x s d:Nat}(hs:s<=32)(h:x*2^s<4294967296):ca .shl bt (.int .u32 (x:Int)) (.int k' (s:Int)) d fr hp K=K (ae fr d (.int .u32 ((x*2^s:Nat):Int))) hp:=by
 have h0:(0:Int)<=s:=by omega
 have h1:min ((s:Int).toNat) IntKind.u32.bits=s:=by simp[IntKind.bits];omega
 simp only[ca,h0,true_and,h1]
 rw[show(x:Int)*2^s=((x*2^s:Nat):Int)by push_cast;rfl,EE (by omega) (by omega)]
theorem IU{bt:Bool}{k':IntKind}{x d:Nat}(h:x<281474976710656):ca .shl bt (.int .u64 (x:Int)) (.int k' 16) d fr hp K=K (ae fr d (.int .u64 ((x*65536:Nat):Int))) hp:=
 OK (s:=16) (by omega) (by omega)
theorem IV{bt:Bool}{k':IntKind}{x d:Nat}(h:x<65536):ca .shl bt (.int .u32 (x:Int)) (.int k' 16) d fr hp K=K (ae fr d (.int .u32 ((x*65536:Nat):Int))) hp:=
 OL (s:=16) (by omega) (by omega)
theorem JM{bt:Bool}{k':IntKind}{x s d:Nat}(hs:s<=32):ca .shr bt (.int .u32 (x:Int)) (.int k' (s:Int)) d fr hp K=K (ae fr d (.int .u32 ((x/2^s:Nat):Int))) hp:=by
 rw[Hp (by omega)]
 have h1:min ((s:Int).toNat) IntKind.u32.bits=s:=by simp[IntKind.bits];omega
 rw[h1,KcV _ (Int.pow_nonneg (by omega))]
 rw[show(x:Int)/2^s=((x/2^s:Nat):Int)by push_cast;rfl]
theorem Jl{bt:Bool}{x y d:Nat}(hx:x<281474976710656)(hy:y<65536):ca .or bt (.int .u64 ((x*65536:Nat):Int)) (.int .u64 (y:Int)) d fr hp K=K (ae fr d (.int .u64 ((x*65536+y:Nat):Int))) hp:=by
 rw[Px (by omega) (by omega),show x*65536|||y=x*65536+y from BM (i:=16) hy]
theorem acx{bt:Bool}{x y d:Nat}(hx:x<65536)(hy:y<65536):ca .or bt (.int .u32 ((x*65536:Nat):Int)) (.int .u32 (y:Int)) d fr hp K=K (ae fr d (.int .u32 ((x*65536+y:Nat):Int))) hp:=by
 rw[Py (by omega) (by omega),show x*65536|||y=x*65536+y from BM (i:=16) hy]
theorem Mc{bt:Bool}{x y d:Nat}(hx:x<65536)(hy:y<65536):ca .or bt (.int .u32 (y:Int)) (.int .u32 ((x*65536:Nat):Int)) d fr hp K=K (ae fr d (.int .u32 ((x*65536+y:Nat):Int))) hp:=by
 rw[Py (by omega) (by omega),Nat.or_comm,show x*65536|||y=x*65536+y from BM (i:=16) hy]
theorem JN{bt:Bool}{k:IntKind}{x y d:Nat}(hy:0<y)(hw:k.wrap ((x/y:Nat):Int)=((x/y:Nat):Int)):ca .quo bt (.int k (x:Int)) (.int k (y:Int)) d fr hp K=K (ae fr d (.int k ((x/y:Nat):Int))) hp:=by
 have:(y:Int)≠0:=by omega
 simp only[ca,ne_eq,this,not_false_eq_true,true_and]
 rw[aee (by omega),<-hw];rfl
theorem qC{bt:Bool}{k:IntKind}{x y d:Nat}(hy:0<y):ca .rem bt (.int k (x:Int)) (.int k (y:Int)) d fr hp K=K (ae fr d (.int k ((x%y:Nat):Int))) hp:=by
 have:(y:Int)≠0:=by omega
 simp only[ca,ne_eq,this,not_false_eq_true,true_and]
 rw[aeG (by omega)];rfl
theorem aaV{n:Nat}(h:n<18446744073709551616):IntKind.u64.wrap (n:Int)=n:=tu (by omega) (by omega)
theorem abn{n:Nat}(h:n<4294967296):IntKind.u32.wrap (n:Int)=n:=EE (by omega) (by omega)
theorem abo{n:Nat}(h:n<9223372036854775808):IntKind.i64.wrap (n:Int)=n:=w6 (by omega) (by omega)
theorem BC{bt:Bool}{x y d:Nat}(hy:0<y)(hx:x<18446744073709551616):ca .quo bt (.int .u64 (x:Int)) (.int .u64 (y:Int)) d fr hp K=K (ae fr d (.int .u64 ((x/y:Nat):Int))) hp:=
 JN hy (aaV (KcF (KcM x y) hx))
theorem aeQ{bt:Bool}{x y d:Nat}(hy:0<y)(hx:x<4294967296):ca .quo bt (.int .u32 (x:Int)) (.int .u32 (y:Int)) d fr hp K=K (ae fr d (.int .u32 ((x/y:Nat):Int))) hp:=
 JN hy (abn (KcF (KcM x y) hx))
theorem Fg{bt:Bool}{x y d:Nat}(hy:0<y)(hx:x<9223372036854775808):ca .quo bt (.int .i64 (x:Int)) (.int .i64 (y:Int)) d fr hp K=K (ae fr d (.int .i64 ((x/y:Nat):Int))) hp:=
 JN hy (abo (KcF (KcM x y) hx))
theorem aeR{e d β o n H:Nat}{k:IntKind}(h:H<=n)(he:(hp β).map (·.e)=some e):iZ e (.aB β o n) none (some (.int k (H:Int))) none d fr hp K=K (ae fr d (.aB β o H)) hp:=by
 have h1:(H:Int)<=(n:Int):=by omega
 simp[iZ,iK,he,h1]
theorem aeS{e d β o n L H:Nat}{k k':IntKind}(h1:L<=H)(h:H<=n)(h0:L<n)(he:(hp β).map (·.e)=some e):iZ e (.aB β o n) (some (.int k (L:Int))) (some (.int k' (H:Int))) none d fr hp K=K (ae fr d (.aB β (o+L) (H-L))) hp:=by
 have q1:(H:Int)<=(n:Int):=by omega
 have q2:(L:Int)<=(H:Int):=by omega
 have q3:(L:Int)<(n:Int):=by omega
 simp[iZ,iK,he,q1,q2,q3]
theorem Md{bt:Bool}{x d:Nat}(hx:x<9223372036854775808):ca .quo bt (.int .i64 (x:Int)) (.int .i64 16) d fr hp K=K (ae fr d (.int .i64 ((x/16:Nat):Int))) hp:=
 Fg (y:=16) (by omega) hx
theorem Me{bt:Bool}{x d:Nat}:ca .rem bt (.int .i64 (x:Int)) (.int .i64 16) d fr hp K=K (ae fr d (.int .i64 ((x%16:Nat):Int))) hp:=
 qC (y:=16) (by omega)
def oS(s:Nat):List Nat->Nat->List Nat
 | [],c=>[c]
 |x::xs,c=>((x*2^s)%65536+c)::oS s xs (x*2^s/65536)
theorem Nt(s:Nat):∀(l:List Nat)(c:Nat),val (oS s l c)=val l*2^s+c
 | [],c=>by simp[oS,val]
 |x::xs,c=>by
  rw[oS,val,Nt s xs,val,KaJ,Kbj]
  generalize x*2^s=y
  generalize val xs*2^s=z
  omega
theorem IX{s:Nat}(h:s<=16):(65536:Nat)=2^s*2^(16-s):=by rw[<-Nat.pow_add,show s+(16-s)=16 by omega]
theorem Nu{s x c:Nat}(h:s<=16)(hc:c<2^s):(x*2^s)%65536+c<65536/\c|||(x*2^s)%65536=(x*2^s)%65536+c:=by
 have e:(x*2^s)%65536=(x%2^(16-s))*2^s:=by
  rw[IX h,KaR x,Nat.mul_mod_mul_left,KaR]
 have h1:x%2^(16-s)<2^(16-s):=Kbt _ (Kbp (by omega))
 have h2:(x%2^(16-s)+1)*2^s<=2^(16-s)*2^s:=Kah _ h1
 rw[KaJ,KaR (2^(16-s)),<-IX h]at h2
 rw[e]
 refine⟨by omega,?_⟩
 rw[Nat.or_comm,BM hc]
theorem Mf{s x:Nat}(h:s<=16)(hx:x<65536):x*2^s/65536<2^s:=by
 rw[Kbc (by omega),KaR]
 exact Nat.mul_lt_mul_of_pos_left hx (Kbp (by omega))
theorem SA{s:Nat}(h:s<=15):∀(l:List Nat)(c:Nat),Qj l->c<2^s->Qj (oS s l c)
 | [],c,_,hc=>by
  have:2^s<=2^15:=KaN (by omega) h
  simp[oS,Qj];omega
 |x::xs,c,hl,hc=>by
  rw[ix]at hl
  rw[oS,ix]
  exact⟨(Nu (by omega) hc).1,SA h xs _ hl.2 (Mf (by omega) hl.1)⟩
theorem RL(s:Nat):∀(l:List Nat)(c:Nat),(oS s l c).length=l.length+1
 | [],_=>rfl
 |x::xs,c=>by simp[oS,RL s xs]
theorem aiR{s x:Nat}(h:s<=15)(hx:x<65536):x*2^s<2147483648:=by
 have:2^s<=2^15:=KaN (by omega) h
 have:=KaY (show x<=65535 by omega) this
 omega
theorem Nv(l:List Nat):∀n,n<=l.length->cut l n=l.take (cut l n).length
 |0,_=>by simp[cut]
 |n+1,h=>by
  unfold cut
  split
  ·exact Nv l n (by omega)
  ·rw[KaI,Kb3 h]
theorem acy{l:List Nat}(h:Qj l):l.take (nl (val l))=ak (val l):=by
 have:=Nv l l.length (Kaf _)
 rw[By h]at this
 exact this.symm
end Go.FW
namespace Go.FW
open Go
theorem BB.Wg{P:Program}{f:FuncId}{args:List PV}{ty:TypeId}{ys:List PV}(h:BB P f args ty (· =ys)):Qd P f args (· = .sl 1 ys):=by
 refine⟨h.1,fun w X bu hX h2 h3=>(h.2 w X bu hX h2 h3).mono ?_⟩
 rintro e w' ⟨v,b,cap,ys',rfl,rfl,hb,hx,hI,dH,hm,rfl⟩
 refine⟨_,_,rfl,hx,?_,rfl⟩
 obtain⟨hint,cur,cp,i1,i2,i3,i4,i5⟩:=hI
 obtain⟨cur',ty',d1,d2⟩:=dH
 rw[i1]at d1;cases d1
 have sH:b<w'.heap.size:=(KbR.1 i1).1
 have e:cp=cap:=by omega
 subst e
 refine Qp.sl (w:=w') (X:=X) 1 ys' b 0 cp (fun i j=>cur.getD (i+j) undef) (fun CV=>by have:=hX b CV;omega) sH i3 i4 (EG hint |> fun h i x hx=>(h i x hx).1) (fun i hi j hj=> ?_) (fun i x hx j y hy=> ?_)
 ·have:j=0:=by omega
  subst this
  simp only[Kbb,KbG,KaX]
  exact my i1 (by omega)
 ·obtain⟨k,n,rfl⟩:=hint x (Kaj hx)
  cases j with
  |zero=>
   simp[PV.cells]at hy;subst hy
   show Qp w' X (.int k n) (cur.getD (i+0) undef)
   rw[KaX,i5 i k n hx]
   exact Qp.int k n
  |succ j=>simp[PV.cells]at hy
def nQ(s:Nat):List Nat->List Nat
 | []=>[]
 |x::xs=>((xs.headD 0*65536+x)/2^s)%65536::nQ s xs
theorem Ib(s:Nat):∀l,(nQ s l).length=l.length
 | []=>rfl
 |x::xs=>by simp[nQ,Ib s xs]
theorem SB(s:Nat):∀l,Qj (nQ s l)
 | []=>oG
 |x::xs=>by rw[nQ,ix];exact⟨by omega,SB s xs⟩
theorem abp{s i:Nat}{l:List Nat}(h:i<l.length):nQ s (l.drop i)=((l.getD (i+1) 0*65536+l[i])/2^s)%65536::nQ s (l.drop (i+1)):=by
 rw[Kaw h,nQ]
 simp[KbN,Kcw,Kad]
theorem acz{x V s:Nat}(hs:s<=16)(hx:x<65536):(x+65536*V)/2^s=((V%65536*65536+x)/2^s)%65536+65536*(V/2^s):=by
 have hp:0<2^s:=Kbp (by omega)
 have e0:=Kbl V (2^s)
 have hr:=Kbt V hp
 generalize hq:V/2^s=q at *
 generalize GJ:V%2^s=r at *
 have hy:V%65536%2^s=r:=by
  rw[IX hs,Nat.mod_mul_right_mod];exact GJ
 have e1:=Kbl (V%65536) (2^s)
 rw[hy]at e1
 generalize V%65536/2^s=t at *
 have au:(65536*r+x)/2^s<65536:=by
  rw[Kbc hp]
  have:65536*(r+1)<=65536*2^s:=KaA _ hr
  omega
 have k1:x+65536*V=(65536*r+x)+2^s*(65536*q):=by
  rw[<-e0,Ka0,Kbi];omega
 have k2:V%65536*65536+x=(65536*r+x)+2^s*(65536*t):=by
  rw[<-e1,KaJ,Kbj,KaR t 65536];omega
 rw[k1,k2,Kcu _ _ hp,Kcu _ _ hp,Kcs,KaO au]
theorem Nw{s:Nat}(hs:s<=16):∀l,Qj l->val (nQ s l)=val l/2^s
 | [],_=>by simp[nQ,val]
 | x::xs,h=>by
  rw[ix]at h
  rw[nQ,val,Nw hs xs h.2,val,acz hs h.1]
  have:xs.headD 0=val xs%65536:=by
   cases xs with
   |nil=>simp[val]
   |cons y ys=>have:=h.2 y (by simp);simp[val];omega
  rw[this]
variable {C : Ctx} {ρ : Nat -> Option Nat} {fr aC : Fr} {hp : HP} {w : World} {K K' R R' : Qh}
def cg(fr aC:Fr):Prop:=∀s,aC s=fr s∨aC s= .undef
theorem cg.refl(fr:Fr):cg fr fr:=fun _=> .inl rfl
theorem cg.trans{a b c:Fr}(h:cg a b)(k:cg b c):cg a c:=fun s=>by
 rcases k s with e|e
 ·rw[e];exact h s
 ·exact .inr e
theorem cg.ae(h:cg fr aC)(d:Nat){v v':PV}(hv:v'=v∨v'= .undef):cg (ae fr d v) (ae aC d v'):=fun s=>by
 unfold FW.ae;split
 ·exact hv
 ·exact h s
theorem cg.kN(h:cg fr aC)(d:Nat)(v:PV):cg (FW.ae fr d v) (FW.ae aC d v):=h.ae d (.inl rfl)
theorem cg.kill(h:cg fr aC)(β:Nat):cg (cx β fr) (cx β aC):=fun s=>by
 unfold cx
 rcases h s with e|e
 ·exact .inl (by rw[e])
 ·right;rw[e];simp[cd,PV.refs]
theorem cg.ev(h:cg fr aC)(x:aS):ev aC x=ev fr x∨ev aC x= .undef:=by
 cases x with
 |t n=>exact h n
 |c p=>exact .inl rfl
theorem cg.mem(h:cg fr aC){q:PV->Prop}(hq:¬q .undef){l:List aS}(hl:∀p∈l.map (FW.ev aC),q p):l.map (FW.ev aC)=l.map (FW.ev fr):=by
 refine KaL fun x hx=> ?_
 rcases h.ev x with e|e
 ·exact e
 ·exact absurd (e▸hl _ (KcC hx)) hq
theorem cg.aF(h:cg fr aC){γ bo e ty:Nat}{xs:List PV}(e1:aC γ= .aF bo e ty xs):fr γ= .aF bo e ty xs:=by
 rcases h γ with e2|e2
 ·rw[<-e2];exact e1
 ·rw[e1]at e2;cases e2
theorem cg.drop(h:cg fr aC)(γ:Nat):cg (gU γ fr) (gU γ aC):=fun s=>by
 unfold gU
 rcases h s with e|e
 ·exact .inl (by rw[e])
 ·right;rw[e];rfl
theorem cg.take(h:cg fr aC)(β:Nat):cg (fJ β fr) (fJ β aC):=fun s=>by
 unfold fJ
 rcases h s with e|e
 ·exact .inl (by rw[e])
 ·right;rw[e];simp[cT,cd,PV.refs]
theorem cg.wk(h:cg fr aC):Wk fr hp aC hp:=by
 rintro C tmps w ⟨ρ,hs⟩
 refine⟨ρ,hs.sz,hs.ext,hs.fp,hs.own,hs.inj,fun s=> ?_⟩
 rcases h s with h|h<;>rw[h]
 ·exact hs.cS s
 ·trivial
theorem cg.Wa{tmps:Array Value}(h:cg fr aC)(hs:Qr C ρ fr hp tmps w):Qr C ρ aC hp tmps w:=by
 refine⟨hs.sz,hs.ext,hs.fp,hs.own,hs.inj,fun s=> ?_⟩
 rcases h s with h|h<;>rw[h]
 ·exact hs.cS s
 ·trivial
theorem HH(h:cg fr aC)(x:Option aS):x.map (ev aC)=x.map (ev fr)∨x.map (ev aC)=some .undef:=by
 cases x with
 |none=>exact .inl rfl
 |some x=>rcases h.ev x with e|e<;>simp[e]
theorem Ws(d:Int):iK d (some .undef)=none:=rfl
theorem JO (h:cg fr aC) (hK:∀f f' hp,cg f f'->K' f' hp->K f hp) (o:cu):bK C o aC hp K'->bK C o fr hp K:=by
 have hu:∀(d:Nat)(v:PV)(hp:HP),K' (ae aC d v) hp->K (ae fr d v) hp:=fun d v hp H=>hK _ _ _ (h.kN d v) H
 have hk:∀(β d:Nat)(v:PV)(hp:HP),K' (ae (cx β aC) d v) hp->K (ae (cx β fr) d v) hp:=fun β d v hp H=>hK _ _ _ ((h.kill β).kN d v) H
 have hz:∀hp,K' aC hp->K fr hp:=fun hp H=>hK _ _ _ h H
 have mono:∀ {o:cu},bK C o fr hp K'->bK C o fr hp K:=fun H=>Jk (fun f hp H=>hK _ _ _ (cg.refl f) H) _ H
 cases o with
 |mv d x=>exact fun H=>hK _ _ _ (h.ae d (h.ev x)) H
 | pick d c a b=>
  simp only[bK,tJ]
  rcases h.ev c with e|e
  ·rw[e]
   split
   ·exact fun H=>⟨fun t=>hK _ _ _ (h.ae d (h.ev a)) (H.1 t),fun t=>hK _ _ _ (h.ae d (h.ev b)) (H.2 t)⟩
   ·exact id
  ·rw[e];exact False.elim
 | call d pr f args=>
  simp only[bK,fY]
  rcases h.ev f with e|e
  ·rw[e]
   split
   ·rintro⟨h1,h2⟩
    refine⟨h1,fun ρ tmps w fv cv av a1 a2 a3 a4 a5 a6 a7 a8=> ?_⟩
    refine(h2 ρ tmps w fv cv av a1 (h.Wa a2) a3 a4 (by simpa using a5) a6 a7 (fun i x hx=> ?_)).mono ?_
    ·simp only[Kav,Kaa]at hx
     obtain⟨y,hy,rfl⟩:=hx
     rcases h.ev y with e|e
     ·rw[e];exact a8 i _ (by simp[hy])
     ·rw[e];trivial
    ·rintro e w' ⟨v,f1,hp',e1,e2,e3,e4⟩
     exact⟨v,f1,hp',e1,e2,e3,hK _ _ _ (cg.refl _) e4⟩
   ·exact id
  ·rw[e];exact False.elim
 | bs d e ty ps=>
  simp only[bK,lV]
  by_cases hb:nO (ps.map (ev aC))=true
  ·rw[if_pos hb]
   rintro⟨h1,h2⟩
   have e:ps.map (ev aC)=ps.map (ev fr):=by
    match ps,hb with
    | [],hb=>simp[nO]at hb
    | [p],hb=>
     rcases h.ev p with e|e
     ·simp[e]
     ·rw[Kbd,Kbw,e]at hb;simp[nO,lK]at hb
    |p::q::ps,hb=>simp[nO]at hb
   rw[e]at h2 hb
   rw[if_pos hb]
   exact⟨h1,hK _ _ _ (((h.take _).kN _ _).kN _ _) h2⟩
  ·rw[if_neg hb]
   rintro⟨h1,h2,h3⟩
   have e:=h.mem (q:=fun p=>(aO hp p).aL=true) (by simp[aO,cN,PV.aL]) (l:=ps) (fun p hp=>(h2 p hp).1)
   rw[e]at h2 h3 hb
   rw[if_neg hb]
   exact⟨h1,h2,hk _ _ _ _ h3⟩
 | eA d z ps=>
  have key:((∀x∈ps,ev aC x.2.2≠ .undef)->(ps.map fun p=>(p.1,p.2.1,ev aC p.2.2))=ps.map fun p=>(p.1,p.2.1,ev fr p.2.2)):=fun hu=>by
   refine KaL fun x hx=> ?_
   rcases h.ev x.2.2 with e|e
   ·rw[e]
   ·exact absurd e (hu x hx)
  intro H
  simp only[bK,mV]at H
  split at H
  ·rename_i hn
   obtain⟨h2,h3⟩:=H
   have e:=key fun x hx e=>by
    obtain⟨cs,h4,_⟩:=h2 _ (KcC hx)
    rw[e]at h4;simp[eU]at h4
   rw[e]at h2 h3 hn
   simp only[bK,mV]
   rw[if_pos hn]
   exact⟨h2,hK _ _ _ (h.kN _ _) h3⟩
  ·rename_i hn
   obtain⟨h2,h3⟩:=H
   have e:=key fun x hx e=>by
    have:=(h2 _ (KcC hx)).1
    rw[e]at this;simp[aO,cN,PV.aL]at this
   rw[e]at h2 h3 hn
   simp only[bK,mV]
   rw[if_neg hn]
   exact⟨h2,hK _ _ _ (h.kN _ _) h3⟩
 |fn d f first cap=>
  simp only[bK]
  rintro⟨h2,h3⟩
  have lY:=h2
  rw[List.all_append,Kar,Kas,Kas]at lY
  have e1:=h.mem (q:=fun p=>p.lC=true) (by simp[PV.lC]) lY.1
  have e2:=h.mem (q:=fun p=>p.lC=true) (by simp[PV.lC]) lY.2
  rw[e1,e2]at h2 h3
  exact⟨h2,hK _ _ _ (h.kN _ _) h3⟩
 | C1 d x=>
  simp only[bK,BQ]
  rcases h.ev x with e|e
  ·rw[e]
   intro H;revert H
   repeat' split
   all_goals first|exact id|exact hz _|exact hu _ _ _|grind
  ·rw[e];intro H;revert H;repeat' split
   all_goals first|exact id|exact False.elim|grind
 | bin d op bt x y=>
  simp only[bK]
  rcases h.ev x with e|e<;>rcases h.ev y with e'|e'<;>rw[e,e']
  ·unfold ca
   intro H;revert H
   split
   ·split<;>first|exact fun H=>⟨H.1,hu _ _ _ H.2⟩|exact fun H=>⟨H.1,H.2.1,hu _ _ _ H.2.2⟩|exact id
   ·split<;>first|exact fun H=>⟨H.1,hu _ _ _ H.2⟩|exact id
   ·exact id
  all_goals
   unfold ca
   intro H;revert H
   repeat' split
   all_goals first|exact False.elim|(intros;simp_all;done)|(rename_i h1 _;cases h1;done)|(rename_i h1;cases h1;done)
 | sl d e x lo hi mx=>
  simp only[bK,iZ]
  rcases h.ev x with e0|e0<;>rcases HH h lo with e1|e1<;>rcases HH h hi with e2|e2<;>rcases HH h mx with e3|e3<;>rw[e0,e1,e2,e3]
  all_goals
   intro H;revert H
   try simp only[Ws]
   repeat' split
   all_goals first|exact id|exact False.elim|(intros;simp_all;done)|grind
 | ld d n ag x=>
  simp only[bK,iW]
  rcases h.ev x with e|e
  ·rw[e]
   intro H;revert H
   split
   ·split
    ·exact fun⟨a,b,c,k⟩=>⟨a,b,c,hu _ _ _ k⟩
    ·exact id
   ·exact fun⟨a,b,k⟩=>⟨a,b,hu _ _ _ k⟩
   ·exact fun⟨a,b,k⟩=>⟨a,b,hu _ _ _ k⟩
   ·intro H
    split at H
    ·rename_i aj
     rw[h.aF aj]
     obtain⟨a,b,c,d,k⟩:=H
     exact⟨a,b,c,d,hu _ _ _ k⟩
    ·exact H.elim
   ·exact id
  ·rw[e];exact fun H=>H.elim
 | st n x y=>
  simp only[bK,ow]
  rcases h.ev x with e|e<;>rcases h.ev y with e'|e'<;>rw[e,e']
  ·intro H;revert H
   split
   ·split
    ·exact fun⟨a,b,c,d,f,k⟩=>⟨a,b,c,d,f,hz _ k⟩
    ·exact id
   ·intro H
    split at H
    ·rename_i aj
     rw[h.aF aj]
     obtain⟨a,b,c,d,H⟩:=H
     refine⟨a,b,c,d,?_⟩
     revert H
     split
     ·exact fun⟨f,k⟩=>⟨f,hK _ _ _ ((h.drop _).kN _ _) k⟩
     ·exact id
    ·exact H.elim
   ·exact id
  ·intro H
   exfalso
   revert H
   split
   ·split
    ·rintro⟨_,b,_⟩;simp[aO,cN,PV.aL]at b
    ·exact id
   ·split
    ·rintro⟨_,_,_,_,H⟩;exact H
    ·exact id
   ·exact id
  ·exact fun H=>H.elim
  ·exact fun H=>H.elim
 | app d e by_ ty x y=>
  simp only[bK,iC]
  rcases h.ev y with e'|e'
  ·rw [e']
   intro H;revert H
   split
   ·unfold zG
    split
    ·rename_i δ _
     rcases h δ with e2|e2
     ·rw [e2]
      split
      ·rintro⟨a1,a2,a3,H⟩
       refine⟨a1,a2,a3,?_⟩
       rcases h.ev x with e|e
       ·rw[e]at H
        revert H
        split
        ·exact fun H=>⟨H.1,hK _ _ _ (((h.take _).kN _ _).kN _ _) H.2⟩
        ·rename_i γ k _
         rcases h γ with e3|e3
         ·rw[e3]
          split
          ·exact fun H=>⟨H.1,H.2.1,hK _ _ _ (((h.take _).kN _ _).kN _ _) H.2.2⟩
          ·exact id
         ·rw[e3];exact fun H=>H.elim
        ·exact id
       ·rw[e]at H;exact H.elim
      ·exact id
     ·rw[e2];exact fun H=>H.elim
    ·exact id
   ·rintro⟨h0,h1,H⟩
    refine⟨h0,h1,?_⟩
    rcases h.ev x with e|e
    ·rw[e]at H
     revert H
     split
     ·rintro⟨a,b,c⟩;exact⟨a,b,hk _ _ _ _ c⟩
     ·split
      ·rintro(⟨a1,a2,a3,a4,a5,a6,a7,c⟩|⟨a1,a2,a3,c⟩)
       ·exact .inl ⟨a1,a2,a3,a4,a5,a6,a7,hk _ _ _ _ c⟩
       ·exact .inr ⟨a1,a2,a3,hK _ _ _ ((h.take _).kN _ _) c⟩
      ·exact id
     ·exact id
    ·rw[e]at H;exact H.elim
  ·rw[e'];exact fun H=>H.elim
 | un d op x|conv d k x|len d x|fP d o x|zT d o n ag x|ext d x i|box d n ty x|alloc d n ty z=>
  all_goals
   simp only[bK,wF,xf,pW,su,r9,iW,qM,iB]
   try (rcases h.ev x with e|e<;>rw[e])
  all_goals
   intro H;revert H
   repeat' split
   all_goals first|exact id|exact False.elim|exact hu _ _ _|grind [aO,cN,PV.aL]
 | eqs d ng x y|mx d x y|mn d x y|idx d e x y|Ai d n e x y|Aj d n e ag x y|mk d e by_ ty z x y|tZ d e x y=>
  all_goals
   simp only[bK,ss,yy,yw,iR,vj,vw,ow,ot,iC,qL]
   rcases h.ev x with e|e<;>rcases h.ev y with e'|e'<;>rw[e,e']
  all_goals
   intro H;revert H
   repeat' split
   all_goals first|exact id|exact False.elim|exact hu _ _ _|grind [aO,cN,PV.aL,jd]
 |bad d=>exact id
end Go.FW
namespace Go.FW
open Go
variable {C : Ctx} {ρ : Nat -> Option Nat} {fr aC : Fr} {hp : HP} {w : World} {K K' R R' : Qh}
def KM(K' K:Qh):Prop:=∀f f' hp,cg f f'->K' f' hp->K f hp
inductive nR:List It->List It->Prop
 |nil:nR [] []
 |c (s:SC) {a b:List It}:nR a b->nR (.c s::a) (.c s::b)
 |o (r:RT) {a b:List It}:nR a b->nR (.o r::a) (.o r::b)
 |eb (i:Nat) {a b:List It}:nR a b->nR (.eb i::a) (.eb i::b)
 |el {J' J:Qh} {a b:List It}:KM J' J->nR a b->nR (.el J'::a) (.el J::b)
theorem nR.exit{id:Nat}:∀ {a b:List It},nR a b->(∃a' b',FW.ch id a=some a'/\FW.ch id b=some b'/\nR a' b'/\bY a'<=bY a)∨(FW.ch id a=none/\FW.ch id b=none):=by
 intro a b h
 induction h with
 |nil=>exact .inr ⟨rfl,rfl⟩
 |c s h ih|o s h ih=>
  rcases ih with⟨a',b',h1,h2,h3,h4⟩|⟨h1,h2⟩
  ·exact .inl ⟨a',b',by simpa[FW.ch]using h1,by simpa[FW.ch]using h2,h3,by simp only[bY];omega⟩
  ·exact .inr ⟨by simpa[FW.ch]using h1,by simpa[FW.ch]using h2⟩
 |el _ h ih=>
  rcases ih with⟨a',b',h1,h2,h3,h4⟩|⟨h1,h2⟩
  ·exact .inl ⟨a',b',by simpa[FW.ch]using h1,by simpa[FW.ch]using h2,h3,by simp only[bY];omega⟩
  ·exact .inr ⟨by simpa[FW.ch]using h1,by simpa[FW.ch]using h2⟩
 | eb i h ih=>
  by_cases hi:i=id
  ·exact .inl ⟨_,_,by simp[FW.ch,hi],by simp[FW.ch,hi],h,by simp only[bY];omega⟩
  ·rcases ih with⟨a',b',h1,h2,h3,h4⟩|⟨h1,h2⟩
   ·exact .inl ⟨a',b',by simpa[FW.ch,hi]using h1,by simpa[FW.ch,hi]using h2,h3,by simp only[bY];omega⟩
   ·exact .inr ⟨by simpa[FW.ch,hi]using h1,by simpa[FW.ch,hi]using h2⟩
theorem Ek(h:cg fr aC)(hK:KM K' K)(o:cu):jS o aC hp K'->jS o fr hp K:=by
 unfold jS;split
 ·exact hK _ _ _ (h.kN _ _)
 ·exact hK _ _ _ h
theorem acA(h:cg fr aC)(hK:KM K' K)(g:Option (Nat×Bool))(o:cu):pX C g o aC hp K'->pX C g o fr hp K:=by
 unfold pX
 split
 ·exact JO h hK o
 ·rename_i s want
  rcases h s with e|e
  ·rw[e]
   split
   ·exact fun H=>⟨fun t=>JO (h.kN _ _) hK o (H.1 t),fun t=>Ek (h.kN _ _) hK o (H.2 t)⟩
   ·exact Ek h hK o
   ·exact id
  ·rw[e];exact False.elim
theorem mG(hR:KM R' R):∀(n:Nat)(dZ sk:List It)(aC fr:Fr)(hp:HP),bY dZ<=n->nR dZ sk->cg fr aC->vc C R' dZ aC hp->vc C R sk fr hp:=by
 intro n
 induction n with
 |zero=>
  intro dZ sk aC fr hp hn hs hf h
  cases hs with
  |nil=>rw[vd]at h ⊢;exact hR _ _ _ hf h
  |el hJ _=>rw[xg]at h ⊢;exact hJ _ _ _ hf h
  |c s _=>exfalso;have:=SC.Au s;simp only[bY,It.sz]at hn;omega
  |o s _=>exfalso;have:=RT.Au s;simp only[bY,It.sz]at hn;omega
  |eb _ _=>exfalso;simp only[bY,It.sz]at hn;omega
 | succ n ih=>
  intro dZ sk aC fr hp hn hs hf h
  cases hs with
  |nil=>rw[vd]at h ⊢;exact hR _ _ _ hf h
  |el hJ _=>rw[xg]at h ⊢;exact hJ _ _ _ hf h
  |eb i hs=>
   rw[Di]at h⊢
   exact ih _ _ _ _ _ (by simp only[bY,It.sz]at hn;omega) hs hf h
  | o r hs=>
   cases r with
   |nil=>rw[BK]at h ⊢;exact ih _ _ _ _ _ (by simp only[bY,It.sz,RT.sz]at hn;omega) hs hf h
   |o g o r=>
    rw[PH]at h⊢
    exact acA (K':=fun fr hp=>vc C R' (.o r::_) fr hp) (K:=fun fr hp=>vc C R (.o r::_) fr hp) hf (fun f f' hp hf' H=>ih (.o r::_) (.o r::_) _ _ hp (by simp only[bY,It.sz,RT.sz]at hn ⊢;omega) (.o r hs) hf' H) g o h
   |wk r=>
    rw[FA]at h⊢
    obtain⟨bJ,aA,hw,h⟩:=h
    exact⟨bJ,aA,hf.wk.trans hw,ih (.o r::_) (.o r::_) _ _ _ (by simp only[bY,It.sz,RT.sz]at hn ⊢;omega) (.o r hs) (cg.refl _) h⟩
   |br x y=>
    rw[Pv]at h⊢
    exact⟨ih (.o x::_) (.o x::_) _ _ _ (by simp only[bY,It.sz,RT.sz]at hn ⊢;omega) (.o x hs) hf h.1,ih (.o y::_) (.o y::_) _ _ _ (by simp only[bY,It.sz,RT.sz]at hn ⊢;omega) (.o y hs) hf h.2⟩
  | @c s a b hs=>
   cases s with
   |skip=>rw[Fj]at h ⊢;exact ih _ _ _ _ _ (by simp only[bY,It.sz,SC.sz]at hn;omega) hs hf h
   |rg r=>rw[HF]at h ⊢;exact ih (.o r::_) (.o r::_) _ _ _ (by simp only[bY,It.sz,SC.sz]at hn ⊢;omega) (.o r hs) hf h
   | raw id ops=>
    rw[vc]at h⊢
    intro tmps w Q nk hQ
    refine h tmps w Q ?_ fun fC cc arN w2 cR hv=>hQ fC cc arN w2 cR ?_
    ·obtain⟨ρ,nk⟩:=nk
     exact⟨ρ,hf.Wa nk⟩
    ·exact ih _ _ _ _ _ (by simp only[bY,It.sz,SC.sz]at hn;omega) hs (cg.refl _) hv
   |seq x y=>rw[FB]at h ⊢;exact ih (.c x:: .c y::_) (.c x:: .c y::_) _ _ _ (by simp only[bY,It.sz,SC.sz]at hn ⊢;omega) (.c x (.c y hs)) hf h
   |block id x=>rw[ED]at h ⊢;exact ih (.c x:: .eb id::_) (.c x:: .eb id::_) _ _ _ (by simp only[bY,It.sz,SC.sz]at hn ⊢;omega) (.c x (.eb id hs)) hf h
   |ret=>rw[Fx]at h ⊢;exact hR _ _ _ hf h
   | cond c x y=>
    rw[Fb]at h⊢
    rcases hf.ev c with e|e
    ·rw[e]at h
     unfold sg at h⊢
     split at h
     ·exact⟨fun e=>ih (.c x::_) (.c x::_) _ _ _ (by simp only[bY,It.sz,SC.sz]at hn ⊢;omega) (.c x hs) hf (h.1 e),fun e=>ih (.c y::_) (.c y::_) _ _ _ (by simp only[bY,It.sz,SC.sz]at hn ⊢;omega) (.c y hs) hf (h.2 e)⟩
     ·exact h
    ·rw[e]at h;exact h.elim
   | exit id=>
    rw[Fc]at h⊢
    rcases hs.exit (id:=id)with⟨a',b',h1,h2,h3,h4⟩|⟨h1,h2⟩
    ·rw[h1]at h;rw[h2]
     simp only[xh]at h⊢
     exact ih _ _ _ _ _ (by simp only[bY,It.sz,SC.sz]at hn;omega) h3 hf h
    ·rw[h1]at h;exact h.elim
   |loop x=>
    rw[yK]at h⊢
    obtain⟨I,μ,⟨bJ,aA,h1,lh⟩,h2⟩:=h
    refine⟨I,μ,⟨bJ,aA,hf.wk.trans h1,lh⟩,fun fr hp hI=> ?_⟩
    refine ih (.c x:: .el _::_) (.c x:: .el _::_) _ _ _ (by simp only[bY,It.sz,SC.sz]at hn ⊢;omega) (.c x (.el ?_ hs)) (cg.refl _) (h2 fr hp hI)
    rintro f f' hp' hf ⟨bJ,aA,g1,g2,g3⟩
    exact⟨bJ,aA,hf.wk.trans g1,g2,g3⟩
def pE:List (Nat×Nat)->Nat->Bool
 | [],_=>false
 |(a,b)::W,s=>(decide (a<=s)&&decide (s<=b))||pE W s
theorem aeT(s:Nat):pE [] s=false:=rfl
theorem EH(a b s:Nat)(W:List (Nat×Nat)):pE ((a,b)::W) s=((decide (a<=s)&&decide (s<=b))||pE W s):=rfl
def aR(W:List (Nat×Nat))(J F:Fr):Fr:=fun s=>if pE W s then J s else F s
theorem PJ(W:List (Nat×Nat))(J F:Fr)(s:Nat):aR W J F s=if pE W s then J s else F s:=rfl
theorem OM{W:List (Nat×Nat)}{a:Nat}{v:PV}{J F:Fr}(h:pE W a=true):ae (aR W J F) a v=aR W (ae J a v) F:=by
 funext s;unfold ae aR
 by_cases hs:s=a
 ·subst hs;rw[if_pos rfl,if_pos h];simp
 ·rw[if_neg hs];split
  ·simp[hs]
  ·rfl
theorem acB{W:List (Nat×Nat)}{a:Nat}{v:PV}{J F:Fr}:ae (aR W J F) a v=if pE W a=true then aR W (ae J a v) F else aR ((a,a)::W) (ae J a v) F:=by
 split
 ·exact OM ‹_›
 ·funext s;unfold ae aR
  by_cases hs:s=a
  ·subst hs;simp[pE]
  ·have:(decide (a<=s)&&decide (s<=a))=false:=by
    rw[Bool.and_eq_false_iff];simp only[decide_eq_false_iff_not];omega
   simp only[EH,this,Bool.false_or,if_neg hs]
theorem abq{W:List (Nat×Nat)}{β:Nat}{J F:Fr}:cx β (aR W J F)=aR W (cx β J) (cx β F):=by
 funext s;unfold cx aR;split<;>rfl
def bF(B:List Nat)(F:Fr):Fr:=fun s=>if(F s).refs.any B.contains then .undef else F s
theorem fX(F:Fr):bF [] F=F:=by funext s;simp[bF]
theorem DH{β:Nat}{B:List Nat}{F:Fr}(h:B.contains β=true):cx β (bF B F)=bF B F:=by
 funext s
 show cd β (bF B F s)=bF B F s
 by_cases h1:(F s).refs.any B.contains=true
 ·have:bF B F s= .undef:=if_pos h1
  rw[this];rfl
 ·have:bF B F s=F s:=if_neg h1
  rw[this,cd,if_neg]
  intro h2
  exact h1 (Ka4.2 ⟨β,by simpa using h2,h⟩)
theorem Wt{β:Nat}{B:List Nat}{F:Fr}:cx β (bF B F)=if B.contains β=true then bF B F else bF (β::B) F:=by
 split
 ·exact DH ‹_›
 ·funext s
  show cd β (bF B F s)=bF (β::B) F s
  unfold bF cd
  by_cases h1:(F s).refs.any B.contains=true
  ·have h2:(F s).refs.any (β::B).contains=true:=by
    obtain⟨x,hx,ir⟩:=Ka4.1 h1
    exact Ka4.2 ⟨x,hx,by rw[Kay,ir,Bool.or_true]⟩
   simp only[if_pos h1,if_pos h2]
   rfl
  ·simp only[if_neg h1]
   by_cases h2:(F s).refs.contains β=true
   ·have h3:(F s).refs.any (β::B).contains=true:=Ka4.2 ⟨β,by simpa using h2,by simp⟩
    rw[if_pos h2,if_pos h3]
   ·rw[if_neg h2,if_neg]
    intro h3
    obtain⟨x,hx,ir⟩:=Ka4.1 h3
    rw[Kay,Kci]at ir
    rcases ir with e|e
    ·have:x=β:=by simpa using e
     subst this;exact h2 (by simpa using hx)
    ·exact h1 (Ka4.2 ⟨x,hx,e⟩)
theorem IY(B:List Nat)(F:Fr)(s:Nat):bF B F s=if(F s).refs.any B.contains then .undef else F s:=rfl
theorem Bk(W:List (Nat×Nat))(B:List Nat):cg fr (aR W fr (bF B fr)):=fun s=>by
 unfold aR bF
 split
 ·exact .inl rfl
 ·split
  ·exact .inr rfl
  ·exact .inl rfl
def zA(W:List (Nat×Nat))(F:Fr)(I:Nat->Fr->HP->Prop)(n:Nat):Qh:=fun aC hp'=>∃J m,cg aC (aR W J F)/\m<n/\I m J hp'
theorem Qf{W:List (Nat×Nat)}{F J:Fr}{I:Nat->Fr->HP->Prop}{n:Nat}(m:Nat)(hl:m<n)(h:I m J hp):zA W F I n (aR W J F) hp:=⟨J,m,cg.refl _,hl,h⟩
theorem acC{W:List (Nat×Nat)}{F:Fr}{I:Nat->Fr->HP->Prop}{n:Nat}:KM (zA W F I n) (zA W F I n):=by
 rintro f f' hp hf ⟨J,m,h1,h2,h3⟩
 exact⟨J,m,hf.trans h1,h2,h3⟩
def eI(R:Qh)(sk:List It):Prop:=KM R R/\nR sk sk
theorem Ql{sk:List It}{x:SC}(cb:eI R sk)(W:List (Nat×Nat))(B:List Nat)(I:Nat->Fr->HP->Prop)(m0:Nat)(h0:I m0 fr hp)
  (h:∀m J hp,I m J hp->vc C R (.c x:: .el (zA W (bF B fr) I m)::sk) (aR W J (bF B fr)) hp):vc C R (.c (.loop x)::sk) fr hp:=by
 refine AU (fun m aC hp'=>∃J,aC=aR W J (bF B fr)/\I m J hp') m0 (Bk W B).wk ⟨fr,rfl,h0⟩ ?_
 rintro m _ hp' ⟨J,rfl,hI⟩
 refine mG cb.1 _ _ _ _ _ _ (Kaf _) (.c x (.el ?_ cb.2)) (cg.refl _) (h m J hp' hI)
 rintro f f' cc hf ⟨J2,m2,e2,hl,h2⟩
 exact Ji hl (hf.trans e2).wk ⟨J2,rfl,h2⟩
def lN(W:List (Nat×Nat))(F:Fr)(M:Fr->HP->Prop):Qh:=fun aC hp'=>∃J,cg aC (aR W J F)/\M J hp'
theorem oK{W:List (Nat×Nat)}{F J:Fr}{M:Fr->HP->Prop}(h:M J hp):lN W F M (aR W J F) hp:=⟨J,cg.refl _,h⟩
theorem u9{W:List (Nat×Nat)}{F:Fr}{M:Fr->HP->Prop}:KM (lN W F M) (lN W F M):=by
 rintro f f' hp hf ⟨J,h1,h3⟩
 exact⟨J,hf.trans h1,h3⟩
theorem Mg{sk:List It}{W:List (Nat×Nat)}{F:Fr}{I:Nat->Fr->HP->Prop}{n:Nat}(h:eI R sk):eI R (.el (zA W F I n)::sk):=⟨h.1,.el acC h.2⟩
theorem Nx{sk:List It}{W:List (Nat×Nat)}{F:Fr}{M:Fr->HP->Prop}(h:eI R sk):eI R (.el (lN W F M)::sk):=⟨h.1,.el u9 h.2⟩
theorem ON{sk:List It}{i:Nat}(h:eI R sk):eI R (.eb i::sk):=⟨h.1,.eb i h.2⟩
theorem PK{sk:List It}{s:SC}(h:eI R sk):eI R (.c s::sk):=⟨h.1,.c s h.2⟩
theorem PL{sk:List It}{s:RT}(h:eI R sk):eI R (.o s::sk):=⟨h.1,.o s h.2⟩
theorem SD{sk:List It}{I:Nat->Qh}{n:Nat}(h:eI R sk):eI R (.el (zw I n)::sk):=⟨h.1,.el (fun f f' hp hf ⟨a,b,h1,h2⟩=>⟨a,b,hf.wk.trans h1,h2⟩) h.2⟩
theorem X3{c:PV}{x y:SC}{sk:List It}(cb:eI R sk)(W:List (Nat×Nat))(B:List Nat)(M:Fr->HP->Prop)
  (h:kT C R c x y (.el (lN W (bF B fr) M)::sk) (aR W fr (bF B fr)) hp) (hM:∀J hp,M J hp->vc C R sk (aR W J (bF B fr)) hp):kT C R c x y sk fr hp:=by
 refine wS (lN W (bF B fr) M) ?_ ?_
 ·unfold kT sg at h⊢
  split at h
  ·exact⟨fun e=>mG cb.1 _ _ _ _ _ _ (Kaf _) (.c x (.el u9 cb.2)) (Bk W B) (h.1 e),fun e=>mG cb.1 _ _ _ _ _ _ (Kaf _) (.c y (.el u9 cb.2)) (Bk W B) (h.2 e)⟩
  ·exact h
 ·rintro aC hp' ⟨J,h1,h2⟩
  exact mG cb.1 _ _ _ _ _ _ (Kaf _) cb.2 h1 (hM J hp' h2)
theorem OO{rs:List RV}{Rr:PV->Prop}:KM (ff rs Rr) (ff rs Rr):=by
 have one:∀(f f':Fr)(hp:HP)(r:RV),cg f f'->mw f' hp r->mw f hp r/\lH f' hp r=lH f hp r:=by
  intro f f' hp r hf ho
  cases r with
  |t s=>
   simp only[mw,lH]at ho⊢
   rcases hf s with e|e
   ·rw[e]at ho ⊢;exact⟨ho,rfl⟩
   ·rw[e]at ho;simp[aO,cN,PV.aL]at ho
  |cell s n ag=>
   simp only[mw,lH]at ho⊢
   rcases hf s with e|e
   ·rw[e]at ho ⊢;exact⟨ho,rfl⟩
   ·rw[e]at ho;exact ho.elim
 intro f f' hp hf h
 unfold ff at h⊢
 split at h
 ·rename_i r
  obtain⟨h1,h2⟩:=h
  obtain⟨g1,g2⟩:=one f f' hp r hf h1
  rw[g2]at h2
  exact⟨g1,h2⟩
 ·obtain⟨h1,h2⟩:=h
  have e:rs.map (lH f' hp)=rs.map (lH f hp):=KaL fun r hr=>(one f f' hp r hf (h1 r hr)).2
  rw[e]at h2
  exact⟨fun r hr=>(one f f' hp r hf (h1 r hr)).1,h2⟩
theorem acD{rs:List RV}{ty:TypeId}{len:Nat}{aT:PV->List PV->Prop}:KM (tK rs ty len aT) (tK rs ty len aT):=by
 rintro f f' hp hf ⟨xs',h1,h2,h3,h4⟩
 refine⟨xs',h1,h2,h3,?_⟩
 rcases h4 with h4|⟨s,o,n,h4,h5,h6⟩
 ·exact .inl (OO _ _ _ hf h4)
 ·refine .inr ⟨s,o,n,h4,?_,h6⟩
  rcases hf s with e|e
  ·rw[<-e];exact h5
  ·rw[h5]at e;cases e
theorem acE{rs:List RV}{ty:TypeId}{aT:List PV->Prop}:KM (zy rs ty aT) (zy rs ty aT):=by
 rintro f f' hp hf ⟨s,β,n,xs,h1,h2,h3⟩
 refine⟨s,β,n,xs,h1,?_,h3⟩
 rcases hf s with e|e
 ·rw[<-e];exact h2
 ·rw[h2]at e;cases e
theorem Ny{rs:List RV}{Rr:PV->Prop}:eI (ff rs Rr) []:=⟨OO,.nil⟩
theorem Mh{rs:List RV}{ty:TypeId}{len:Nat}{aT:PV->List PV->Prop}:eI (tK rs ty len aT) []:=⟨acD,.nil⟩
theorem Mi{rs:List RV}{ty:TypeId}{aT:List PV->Prop}:eI (zy rs ty aT) []:=⟨acE,.nil⟩
theorem iL{sk:List It}{x:SC}(i β e ty:Nat)(he:0<e)(hi:fr i= .al)(h:vc C R (.c (.loop x)::sk) (ae (cx β fr) i (.ms β 0)) (Qi hp β ⟨e,ty,[],false⟩))(hB:bE β=false:=by decide):vc C R (.c (.loop x)::sk) fr hp:=by
 rw[yK]at h⊢
 obtain⟨I,μ,⟨bJ,aA,h1,lh⟩,h2⟩:=h
 exact⟨I,μ,⟨bJ,aA,(PA i β e ty he hi hB).trans h1,lh⟩,h2⟩
end Go.FW
namespace Go.FW
open Go
variable {C : Ctx} {fr : Fr} {hp : HP} {w : World} {K R : Qh}
theorem Xu{P:Program}{f:FuncId}{k:IntKind}{x:Int}{r:PV}{v:Value}(hg:qO P f)(h:∀w,Calls P f #[.int k x] w fun e w'=>e= .returned v/\w'=w)(hr:∀w X,eG w X r v):Qd P f [.int k x] (· =r):=by
 refine⟨hg,fun w X bu hX hs gw=> ?_⟩
 have h0:∀u,Qp w X (.int k x) u->u= .int k x:=fun u hu=>by cases hu;rfl
 have e:bu= #[.int k x]:=by
  have h1:bu.getD 0 undef= .int k x:=h0 _ (gw 0 _ rfl)
  apply Array.ext
  ·simpa using hs
  ·intro i hi ao
   have sL:i=0:=by simp at ao;omega
   subst sL
   simpa[Array.getD,hi]using h1
 rw[e]
 refine(h w).mono ?_
 rintro e w' ⟨rfl,rfl⟩
 exact⟨v,r,rfl,Ext.refl _ _,hr _ _,rfl⟩
end Go.FW
namespace Go.FW
open Go
variable {C : Ctx} {fr : Fr} {hp : HP} {w : World} {K R : Qh}
theorem abr(a b:Nat)(uf:a≠b)(h:HP)(v w:HB):Qi (Qi h a v) b w=Qi (Qi h b w) a v:=by
 funext c;unfold Qi;by_cases h1:c=a
 ·subst h1;simp[uf]
 ·simp[h1]
theorem X4{V W P v1 v2 v0 hi u2 w0:Nat}(hV:V=(v1*65536+v2)*P+v0)(hW:W=(hi*65536+u2)*P+w0)(yo:w0<P)(GN:u2<65536)(h1:0<v1):W<(hi/v1+1)*V:=by
 have e1:hi+1<=(hi/v1+1)*v1:=by
  have:=Kbl hi v1
  have:=Kbt hi h1
  rw[KaJ,KaR];omega
 have e2:W<(hi+1)*65536*P:=by
  have:(hi*65536+u2+1)*P<=(hi+1)*65536*P:=Kah _ (by omega)
  rw[KaJ _ 1]at this;omega
 refine Kbu e2 ?_
 calc (hi+1)*65536*P<=((hi/v1+1)*v1)*65536*P:=Kah _ (Kah _ e1)
  _=(hi/v1+1)*(v1*65536*P):=by rw[Kbj,Kbj,Kbj]
  _<=(hi/v1+1)*V:=KaA _ (by rw[hV,KaJ];omega)
theorem acF{V W P v1 v2 v0 hi u2 w0 d r:Nat}(hV:V=(v1*65536+v2)*P+v0)(hW:W=(hi*65536+u2)*P+w0)(yo:w0<P)(hd:d*v1+r=hi)(ht:r*65536+u2<d*v2):W<d*V:=by
 have h1:hi*65536+u2+1<=d*(v1*65536+v2):=by
  rw[Ka0,<-Nat.mul_assoc,<-hd,KaJ];omega
 have h2:W<(hi*65536+u2+1)*P:=by rw[hW,KaJ _ 1];omega
 refine Kbu h2 (Kao (Kah _ h1) ?_)
 rw[Kbj]
 exact KaA _ (by rw[hV];exact Nat.le_add_right _ _)
theorem acG{V W P v1 v2 v0 hi u2 w0 e r:Nat}(hV:V=(v1*65536+v2)*P+v0)(hW:W=(hi*65536+u2)*P+w0)(yj:v0<P)(yl:1<=v1)(he:e+1<65536)(hd:(e+1)*v1+r=hi)(ht:¬r*65536+u2<(e+1)*v2):e*V<=W:=by
 have h1:(e+1)*(v1*65536+v2)<=hi*65536+u2:=by
  rw[Ka0,<-Nat.mul_assoc,<-hd,KaJ ((e+1)*v1)];omega
 have h2:e*v0<=(v1*65536+v2)*P:=KaY (by omega) (by omega)
 calc e*V=e*(v1*65536+v2)*P+e*v0:=by rw[hV,Ka0,Kbj]
  _<=e*(v1*65536+v2)*P+(v1*65536+v2)*P:=Nat.add_le_add_left h2 _
  _=(e+1)*(v1*65536+v2)*P:=by rw[KaJ e,KcK,KaJ (e*_)]
  _<=(hi*65536+u2)*P:=Kah _ h1
  _<=W:=by rw[hW];exact Nat.le_add_right _ _
theorem adj{V W P v1 v2 v0 hi u2 w0:Nat}(hV:V=(v1*65536+v2)*P+v0)(hW:W=(hi*65536+u2)*P+w0)(yj:v0<P)(h:W<65536*V)(hP:0<P):hi<=v1*65536+v2:=by
 have h1:hi*(65536*P)<(v1*65536+v2+1)*(65536*P):=by
  have e1:hi*(65536*P)<=W:=by rw[hW,KaJ,Kbj];omega
  have e2:V<=(v1*65536+v2+1)*P:=by rw[hV,KaJ _ 1];omega
  have e3:65536*V<=65536*((v1*65536+v2+1)*P):=KaA _ e2
  rw[Kbi]at e3
  omega
 have:=Nat.lt_of_mul_lt_mul_right h1
 omega
theorem QX:∀(a:List Nat)(q b:Nat),(fe a [] q 0 b).2.1=0
 | [],_,_=>rfl
 |x::xs,q,b=>by simp only[fe,List.headD_nil,Kb5,List.tail_nil];exact QX xs q _
theorem SE:∀(a v:List Nat)(q c b:Nat),v.length<a.length->c<65536->q<65536->Qj v->(fe a v q c b).2.1=0
 | [],_,_,_,_,h,_,_,_=>by simp at h
 |x::xs,[],q,c,b,h,hc,hq,hv=>by
  simp only[fe,List.headD_nil,Kb5,List.tail_nil,KaX]
  rw[KbY hc];exact QX xs q _
 |x::xs,y::ys,q,c,b,h,hc,hq,hv=>by
  rw[ix]at hv
  simp only[fe,List.headD_cons,List.tail_cons]
  refine SE xs ys q _ _ (by simpa using h) ?_ hq hv.2
  have:=uT hq hv.1
  omega
theorem DL{l:List Nat}{k:Nat}(h:val l<65536^k):val (l.drop k)=0:=by
 rcases KcL k l.length with hk|hk
 ·have:=qA l k (by omega)
  have:65536^k*val (l.drop k)<65536^k*1:=by omega
  have:=Nat.lt_of_mul_lt_mul_left this
  omega
 ·rw[Kan hk];rfl
theorem Om{l:List Nat}{n:Nat}(h:l.length=n+2):val l=(l.getD (n+1) 0*65536+l.getD n 0)*65536^n+val (l.take n):=by
 have e:=qA l n (by omega)
 rw[mD (by omega),mD (by omega),Kan (by omega)]at e
 rw[e,gD (by omega),gD (by omega),val,Kb5,KaX,KaR (65536^n)]
 rw[KaR 65536,KbO (l[n]),KbO]
theorem aiS:
  (∀(β:Nat)(cs:List PV),cd β (.pt cs)= .pt cs)/\(∀(β:Nat),cd β .undef= .undef)/\(∀(β:Nat)(cs:List PV),cd β (.aI cs)= .aI cs)/\
  (∀(cs:List PV),(PV.pt cs).refs=[])/\(PV.undef.refs=[])/\(∀(cs:List PV),(PV.aI cs).refs=[])/\
  (∀(hp:HP)(cs:List PV),aO hp (.pt cs)= .pt cs)/\(∀(hp:HP)(cs:List PV),aO hp (.aI cs)= .aI cs)/\
  (∀(β f:Nat)(a b:List PV),cd β (.fn f a b)=if(a.flatMap PV.bX++b.flatMap PV.bX).contains β then .undef else .fn f a b)/\
  (∀(β o n:Nat),(PV.aB β o n).bX=[β])/\(∀(β o n:Nat),(PV.rb β o n).bX=[β])/\(∀(β o n:Nat),(PV.mp β o n).bX=[β])/\
  (∀(k:IntKind)(n:Int),(PV.int k n).bX=[])/\(∀(b:Bool),(PV.bool b).bX=[])/\(∀(e:Nat)(xs:List PV),(PV.sl e xs).bX=[])/\(PV.al.bX=[])/\(∀(xs:List PV),(PV.pt xs).bX=[]):=by
 refine⟨fun _ _=>rfl,fun _=>rfl,fun _ _=>rfl,fun _=>rfl,rfl,fun _=>rfl,fun _ _=>rfl,fun _ _=>rfl,fun _ _ _ _=>rfl,fun _ _ _=>rfl,fun _ _ _=>rfl,fun _ _ _=>rfl,fun _ _=>rfl,fun _=>rfl,fun _ _=>rfl,rfl,fun _=>rfl⟩
theorem aru:
  (∀(ty d e:Nat)(xs:List PV)(fr:Fr)(hp:HP)(K:Qh),iB 1 ty (.sl e xs) d fr hp K=K (ae (cx d fr) d (.mp d 0 0)) (Qi hp d ⟨1,ty,[.sl e xs],false⟩))/\
  (∀(ty d:Nat)(k:IntKind)(x:Int)(fr:Fr)(hp:HP)(K:Qh),iB 1 ty (.int k x) d fr hp K=K (ae (cx d fr) d (.mp d 0 0)) (Qi hp d ⟨1,ty,[.int k x],false⟩))/\
  (∀(ty d:Nat)(x:Bool)(fr:Fr)(hp:HP)(K:Qh),iB 1 ty (.bool x) d fr hp K=K (ae (cx d fr) d (.mp d 0 0)) (Qi hp d ⟨1,ty,[.bool x],false⟩))/\
  (∀(ty d:Nat)(fr:Fr)(hp:HP)(K:Qh),iB 1 ty .al d fr hp K=K (ae (cx d fr) d (.mp d 0 0)) (Qi hp d ⟨1,ty,[.al],false⟩))/\
  (∀(n ty d o m:Nat)(fr:Fr)(hp:HP)(K:Qh),iB n ty (.aB 1000000 o m) d fr hp K=K (ae fr d (.rb 1000000 o m)) hp)/\
  (∀(n ty d:Nat)(x:PV)(cs:List PV)(fr:Fr)(hp:HP)(K:Qh),iB n ty (.agg (x::cs)) d fr hp K=(cs.length+1=n/\K (ae (cx d fr) d (.mp d 0 0)) (Qi hp d ⟨n,ty,[.agg (x::cs)],false⟩)))/\
  (∀(ty d:Nat)(x:PV)(fz:Bool)(fr:Fr)(hp:HP)(K:Qh),mm (some ⟨1,ty,[x],fz⟩) 1 false 0 0 d fr hp K=K (ae fr d (eE false 1 0 x)) hp)/\
  (∀(ty β e:Nat)(x:PV)(xs:List PV)(fr:Fr)(hp:HP)(K:Qh),stM (some ⟨1,ty,[x],false⟩) β 1 0 0 (.sl e xs) fr hp K=K fr (Qi hp β ⟨1,ty,[.sl e xs],false⟩))/\
  (∀(ty β:Nat)(x:PV)(k:IntKind)(y:Int)(fr:Fr)(hp:HP)(K:Qh),stM (some ⟨1,ty,[x],false⟩) β 1 0 0 (.int k y) fr hp K=K fr (Qi hp β ⟨1,ty,[.int k y],false⟩))/\
  (∀(ty β:Nat)(x:PV)(y:Bool)(fr:Fr)(hp:HP)(K:Qh),stM (some ⟨1,ty,[x],false⟩) β 1 0 0 (.bool y) fr hp K=K fr (Qi hp β ⟨1,ty,[.bool y],false⟩))/\
  (∀(ty β:Nat)(x:PV)(fr:Fr)(hp:HP)(K:Qh),stM (some ⟨1,ty,[x],false⟩) β 1 0 0 .al fr hp K=K fr (Qi hp β ⟨1,ty,[.al],false⟩))/\
  (∀(e:Nat)(xs:List PV),eE false 1 0 (.sl e xs)= .sl e xs)/\(∀(k:IntKind)(x:Int),eE false 1 0 (.int k x)= .int k x)/\(∀(x:Bool),eE false 1 0 (.bool x)= .bool x)/\(eE false 1 0 .al= .al):=by
 have fz:∀hp:HP,bV hp []=hp:=fun _=>rfl
 refine⟨fun _ _ _ _ _ _ _=> ?_,fun _ _ _ _ _ _ _=> ?_,fun _ _ _ _ _ _=> ?_,fun _ _ _ _ _=> ?_,fun _ _ _ _ _ _ _ _=>ah6 (by decide),fun n ty d x cs fr hp K=> ?_,fun _ _ _ _ _ _ _=> ?_,fun _ _ _ _ _ _ _ _=> ?_,fun _ _ _ _ _ _ _ _=> ?_,fun _ _ _ _ _ _ _=> ?_,fun _ _ _ _ _ _=> ?_,fun _ _=>rfl,fun _ _=>rfl,fun _=>rfl,rfl⟩
 ·simp[iB,aO,cN,PV.aL,PV.cells,PV.refs,fz]
 ·simp[iB,aO,cN,PV.aL,PV.cells,PV.refs,fz]
 ·simp[iB,aO,cN,PV.aL,PV.cells,PV.refs,fz]
 ·simp[iB,aO,cN,PV.aL,PV.cells,PV.refs,fz]
 ·apply propext
  simp only[iB,aO,cN,PV.aL,PV.cells,PV.refs,KaP,fz]
  exact⟨fun⟨_,h1,_,h2⟩=>⟨h1,h2⟩,fun⟨h1,h2⟩=>⟨trivial,h1,by omega,h2⟩⟩
 all_goals simp[mm,stM,PV.aL,PV.cells]
end Go.FW
namespace Go.FW
theorem aiT{l:List Nat}{j n V:Nat}(hl:Qj l)(hlen:j+n+3<=l.length)(hV:V<=65536^(n+2))(hz:val (l.drop (j+1))<V):
  ∃pre w post,l=pre++(w++post)/\pre.length=j/\w.length=n+3/\Qj pre/\Qj w/\Qj post/\val post=0/\val (l.drop j)=val w/\val w<65536*V/\
   ∃w0,w0<65536^n/\val w=((l.getD (j+(n+2)) 0*65536+l.getD (j+(n+1)) 0)*65536+l.getD (j+n) 0)*65536^n+w0:=by
 have fT:val (l.drop (j+n+3))=0:=by
  have:=DL (l:=l.drop (j+1)) (k:=n+2) (by omega)
  rw[List.drop_drop]at this
  rw[<-this];congr 2;omega
 have hw:Qj ((l.drop j).take (n+3)):=yM (AH hl j) _
 have uA:((l.drop j).take (n+3)).length=n+3:=by simp;omega
 have eD:l.drop j=(l.drop j).take (n+3)++l.drop (j+n+3):=by
  have:=(Kbx (n+3) (l.drop j)).symm
  rw[List.drop_drop]at this
  exact this
 have eR:val (l.drop j)=val ((l.drop j).take (n+3)):=by
  conv=>lhs;rw[eD]
  rw[nB,fT,Kb5,KaX]
 have eL:∀i,i<n+3->((l.drop j).take (n+3)).getD i 0=l.getD (j+i) 0:=by
  intro i hi
  simp[Kad,KcH,hi]
 refine⟨l.take j,(l.drop j).take (n+3),l.drop (j+n+3),?_,by simp;omega,uA,yM hl j,hw,AH hl _,fT,eR,?_,?_⟩
 ·rw[<-eD,Kbx]
 ·rw[<-eR,mD (by omega)]
  have:=ek hl (show j<l.length by omega)
  omega
 ·refine⟨val (((l.drop j).take (n+3)).take n),uM hw n (by omega),?_⟩
  rw[Om (n:=n+1) uA,eL _ (by omega),eL _ (by omega),Ax (by omega)]
  rw[<-gD,eL _ (by omega),Kbr]
  generalize l.getD (j+(n+1)) 0=a
  generalize l.getD (j+n) 0=b
  generalize l.getD (j+(n+1+1)) 0=c
  rw[KaJ _ b,Kbj _ 65536,KaR 65536 (65536^n),KaR (65536^n) b]
  omega
theorem abt{U V L qs W R q pre B:Nat}(hU:U=L+V*(65536*B*qs))(hL:L=pre+B*W)(hW:W=q*V+R):U=(pre+B*R)+V*(B*(q+65536*qs)):=by
 subst hW hL
 rw[hU,Ka0 B,Ka0 B q,Ka0 V]
 have e1:B*(q*V)=V*(B*q):=by rw[KaR q V,Kbi]
 have e2:V*(65536*B*qs)=V*(B*(65536*qs)):=by rw[KaR 65536 B,Kbj]
 omega
open Go
variable {C : Ctx} {fr : Fr} {hp : HP} {w : World} {K R : Qh}
theorem jO{x y:RT}{sk:List It}(h1:vc C R (.o x::sk) fr hp)(h2:vc C R (.o y::sk) fr hp):tW C R x y sk fr hp:=⟨h1,h2⟩
theorem aeU{x y:RT}{sk:List It}{W:List (Nat×Nat)}{J F:Fr}(P:Fr->Prop)(h0:P J)(h:∀J,P J->tW C R x y sk (aR W J F) hp):tW C R x y sk (aR W J F) hp:=h J h0
theorem NA{sk:List It}{x:SC}(cb:eI R sk)(W:List (Nat×Nat))(B:List Nat)(I:Nat->Fr->HP->Prop)(m0:Nat)(h0:I m0 fr hp)
  (h:∀F,F=bF B fr->∀m J hp,I m J hp->vc C R (.c x:: .el (zA W F I m)::sk) (aR W J F) hp):vc C R (.c (.loop x)::sk) fr hp:=
 Ql cb W B I m0 h0 (h _ rfl)
theorem adk{x y:RT}{sk:List It}{W0:List (Nat×Nat)}{J0 F0:Fr}(cb:eI R sk)(B:List Nat)(M:Fr->HP->Prop)
  (h:∀F,F=bF B F0->tW C R x y (.el (lN W0 F M)::sk) (aR W0 J0 F) hp) (hM:∀J hp,M J hp->vc C R sk (aR W0 J (bF B F0)) hp):tW C R x y sk (aR W0 J0 F0) hp:=by
 have hle:cg (aR W0 J0 F0) (aR W0 J0 (bF B F0)):=fun s=>by
  unfold aR bF
  split
  ·exact .inl rfl
  ·split
   ·exact .inr rfl
   ·exact .inl rfl
 have key:∀(r:RT),vc C R (.o r:: .el (lN W0 (bF B F0) M)::sk) (aR W0 J0 (bF B F0)) hp->vc C R (.o r::sk) (aR W0 J0 F0) hp:=by
  intro r hr
  refine Bz (M:=lN W0 (bF B F0) M) ?_ _ [.o r] _ _ (Kaf _) ?_
  ·rintro aC hp' ⟨J,h1,h2⟩
   exact mG cb.1 _ _ _ _ _ _ (Kaf _) cb.2 h1 (hM J hp' h2)
  ·exact mG cb.1 _ _ _ _ _ _ (Kaf _) (.o r (.el u9 cb.2)) hle hr
 exact⟨key x (h _ rfl).1,key y (h _ rfl).2⟩
theorem X5{aC:Fr}{K':Qh}{p:PV}{s:Nat}{want:Bool}{o:cu}(h:cg fr aC)(hK:KM K' K):iM C p s want o aC hp K'->iM C p s want o fr hp K:=by
 unfold iM
 split
 ·exact fun H=>⟨fun t=>JO (h.kN _ _) hK o (H.1 t),fun t=>Ek (h.kN _ _) hK o (H.2 t)⟩
 ·exact Ek h hK o
 ·exact id
theorem Xv{p:PV}{s:Nat}{want:Bool}{o:cu}{r:RT}{sk:List It}(cb:eI R sk)(W:List (Nat×Nat))(B:List Nat)(M:Fr->HP->Prop)
  (h:iM C p s want o (aR W fr (bF B fr)) hp (vc C R (.o r:: .el (lN W (bF B fr) M)::sk))) (hM:∀J hp,M J hp->vc C R sk (aR W J (bF B fr)) hp):iM C p s want o fr hp (vc C R (.o r::sk)):=by
 refine X5 (Bk W B) (fun f f' hp hf H=> ?_) h
 have H':=mG cb.1 _ _ _ _ _ _ (Kaf _) (.o r (.el u9 cb.2)) hf H
 refine Bz (M:=lN W (bF B fr) M) ?_ _ [.o r] _ _ (Kaf _) H'
 rintro aC hp' ⟨J,h1,h2⟩
 exact mG cb.1 _ _ _ _ _ _ (Kaf _) cb.2 h1 (hM J hp' h2)
theorem TM:(∀(a b c:Nat),(PV.mp a b c).lC=true)/\(∀(a b c:Nat),(PV.aB a b c).lC=true)/\(∀(a b c:Nat),(PV.rb a b c).lC=true)/\(∀(k:IntKind)(n:Int),(PV.int k n).lC=true)/\
  (∀b,(PV.bool b).lC=true)/\(PV.al.lC=true)/\(∀(e:Nat)(xs:List PV),(PV.sl e xs).lC=true)/\(∀(xs:List PV),(PV.pt xs).lC=true):=
 ⟨fun _ _ _=>rfl,fun _ _ _=>rfl,fun _ _ _=>rfl,fun _ _=>rfl,fun _=>rfl,rfl,fun _ _=>rfl,fun _=>rfl⟩
end Go.FW
namespace Go.FW
def xr(V W:List (Nat×Nat)):Bool:=V.all fun p=>W.any fun q=>decide (q.1<=p.1)&&decide (p.2<=q.2)
theorem abu{V W:List (Nat×Nat)}(h:xr V W=true){s:Nat}(hs:pE V s=true):pE W s=true:=by
 induction V with
 |nil=>cases hs
 | cons p V ih=>
  simp only[xr,List.all_cons,Kar]at h
  rw[EH,Kci]at hs
  rcases hs with hs|hs
  ·obtain⟨q,hq,wj⟩:=Ka4.1 h.1
   simp only[Kar,decide_eq_true_eq]at wj hs
   clear h ih
   induction W with
   |nil=>cases hq
   |cons r W ih=>
    rw[EH,Kci]
    rcases KaG.1 hq with rfl|hq
    ·left;simp only[Kar,decide_eq_true_eq];omega
    ·right;exact ih hq
  ·exact ih h.2 hs
theorem Wu{B B':List Nat}{F:Fr}(h:B.all B'.contains=true):bF B (bF B' F)=bF B' F:=by
 funext s
 by_cases h1:(F s).refs.any B'.contains=true
 ·have:bF B' F s= .undef:=if_pos h1
  show(if(bF B' F s).refs.any B.contains=true then PV.undef else bF B' F s)=_
  rw[this];rfl
 ·have:bF B' F s=F s:=if_neg h1
  show(if(bF B' F s).refs.any B.contains=true then PV.undef else bF B' F s)=_
  rw[this,if_neg]
  intro h2
  obtain⟨x,hx,ir⟩:=Ka4.1 h2
  exact h1 (Ka4.2 ⟨x,hx,Kas.1 h x (by simpa using ir)⟩)
theorem eP{V W:List (Nat×Nat)}{X Z F:Fr}(h:xr V W=true):aR V X (aR W Z F)=aR W (aR V X Z) F:=by
 funext s
 unfold aR
 by_cases h1:pE V s=true
 ·simp[h1,abu h h1]
 ·simp[h1]
theorem aiU{W V S d:Nat}(hs:S+d*V=W)(KL:W<(d+1)*V):S<V/\W=d*V+S:=by
 rw[KaJ]at KL;omega
theorem aeV{W V B S e k res:Nat}(hs:S+(e+1)*V=W+B)(hS:S<B)(UF:e*V<=W)(hr:res+B*k=S+V)(gy:res<B)(hWB:W<B):res<V/\W=e*V+res:=by
 rw[KaJ,KcK]at hs
 generalize e*V=x at *
 have hk:k=1:=by
  match k,hr with
  |0,hr=>omega
  |1,_=>rfl
  |k+2,hr=>
   have:B*(k+2)=B*k+B+B:=by rw[Ka0];omega
   omega
 subst hk
 omega
theorem Mj{pre R post qs:List Nat}{j q U V L W:Nat}(hp:pre.length=j)(fT:val post=0)(hU:U=L+V*(65536^(j+1)*val qs))(hL:L=val pre+65536^j*W)(hW:W=q*V+val R):
  val ((pre++(R++post)).drop j)=val R/\U=val (pre++(R++post))+V*(65536^j*val (q::qs)):=by
 have e:(pre++(R++post)).drop j=R++post:=by rw[<-hp,List.drop_left]
 have e2:val (R++post)=val R:=by rw[nB,fT,Kb5,KaX]
 refine⟨by rw[e,e2],?_⟩
 rw[nB,e2,hp,val]
 exact abt (by rw[hU,Kbr,KaR (65536^j)]) hL hW
theorem Fh{j q:Nat}{qs:List Nat}:(List.replicate (j+1) 0++qs).set j q=List.replicate j 0++(q::qs):=by
 rw[List.replicate_succ',Kbs,List.singleton_append,oJ (by simp)]
open Go
variable {C : Ctx} {fr : Fr} {hp : HP} {w : World} {K R : Qh}
theorem arv:(∀(C:Ctx)(d:Nat)(ng:Bool)(x y:aS)(fr:Fr)(hp:HP)(K:Qh),bK C (.eqs d ng x y) fr hp K=ss ng (ev fr x) (ev fr y) d fr hp K)/\
  (∀(k l:IntKind)(x y x' y':Int)(d:Nat)(fr:Fr)(hp:HP)(K:Qh),ss false (.agg [.int k x,.int l y]) (.agg [.int k x',.int l y']) d fr hp K=K (ae fr d (.bool (decide (x=x')&&decide (y=y')))) hp)/\
  (∀(k l:IntKind)(x y x' y':Int)(d:Nat)(fr:Fr)(hp:HP)(K:Qh),ss true (.agg [.int k x,.int l y]) (.agg [.int k x',.int l y']) d fr hp K=K (ae fr d (.bool (!(decide (x=x')&&decide (y=y'))))) hp):=
 ⟨fun _ _ _ _ _ _ _ _=>rfl,fun _ _ _ _ _ _ _ _ _ _=>by simp[ss],fun _ _ _ _ _ _ _ _ _ _=>by simp[ss]⟩
theorem adl{α:Type}{f:α->PV}{e d:Nat}{k:IntKind}{xs:List α}(h:0<xs.length):iR e (.sl e (xs.map f)) (.int k 0) d fr hp K=K (ae fr d (.pt (f (xs[0]'h)).cells)) hp:=by
 rw[zf (by omega) (by omega)];rfl
theorem adm{α:Type}{f:α->PV}{e d:Nat}{k:IntKind}{xs:List α}(h:1<xs.length):iR e (.sl e (xs.map f)) (.int k 1) d fr hp K=K (ae fr d (.pt (f (xs[1]'h)).cells)) hp:=by
 rw[zf (by omega) (by omega)];rfl
theorem adn{e d:Nat}{k:IntKind}{x:PV}{xs:List PV}:iR e (.sl e (x::xs)) (.int k 0) d fr hp K=K (ae fr d (.pt x.cells)) hp:=by
 rw[Ho (by omega) (by simp only[KaP];omega)];rfl
theorem ado{e d:Nat}{k:IntKind}{x y:PV}{xs:List PV}:iR e (.sl e (x::y::xs)) (.int k 1) d fr hp K=K (ae fr d (.pt y.cells)) hp:=by
 rw[Ho (by omega) (by simp only[KaP];omega)];rfl
def PV.flat:PV->Bool
 | .int .. | .bool _| .al| .sl .. | .agg _| .pt _=>true
 |_=>false
theorem akY:(∀(k:IntKind)(n:Int),(PV.int k n).flat=true)/\(∀b,(PV.bool b).flat=true)/\(PV.al.flat=true)/\(∀(e:Nat)(xs:List PV),(PV.sl e xs).flat=true)/\(∀xs,(PV.agg xs).flat=true)/\(∀xs,(PV.pt xs).flat=true):=
 ⟨fun _ _=>rfl,fun _=>rfl,rfl,fun _ _=>rfl,fun _=>rfl,fun _=>rfl⟩
theorem akZ:(∀(k:IntKind)(n:Int),(PV.int k n).aL=true)/\(∀b,(PV.bool b).aL=true)/\(PV.al.aL=true)/\(∀(e:Nat)(xs:List PV),(PV.sl e xs).aL=true)/\(∀xs,(PV.agg xs).aL=true)/\(∀xs,(PV.pt xs).aL=true):=
 ⟨fun _ _=>rfl,fun _=>rfl,rfl,fun _ _=>rfl,fun _=>rfl,fun _=>rfl⟩
theorem uU{p:PV}(h:p.flat=true):aO hp p=p/\p.refs=[]/\p.aL=true:=by
 cases p<;>first|(cases h;done)|exact⟨rfl,rfl,rfl⟩
theorem JP{e ty d:Nat}{ps:List PV}(h:ps.all PV.flat=true)(hl:∀p∈ps,p.cells.length=e)(he:0<e):lV e ty ps d fr hp K=K (ae (cx d fr) d (.ms d ps.length)) (Qi hp d ⟨e,ty,ps,false⟩):=by
 have h':=Kas.1 h
 have e1:ps.map (aO hp)=ps:=by
  conv=>rhs;rw[<-List.map_id ps]
  exact KaL fun p hp'=>(uU (h' p hp')).1
 have e2:ps.flatMap PV.refs=[]:=by
  rw[List.flatMap_eq_nil_iff];exact fun p hp'=>(uU (hp:=hp) (h' p hp')).2.1
 have e3:Fi hp e ps:=fun p hp'=>by
  obtain⟨h1,_,h3⟩:=uU (hp:=hp) (h' p hp')
  rw[h1];exact⟨h3,hl p hp'⟩
 have KC:nO ps=false:=by
  unfold nO
  split
  ·rename_i x
   have:=Kas.1 h x (by simp)
   unfold lK
   split
   ·cases this
   ·rfl
  ·rfl
 simp only[lV,KC,Kbm,if_false,B3,e1,e2,e3,he,true_and]
 rfl
theorem bs1{e ty d:Nat}{p:PV}(h:p.flat=true)(hl:p.cells.length=e)(he:0<e):lV e ty [p] d fr hp K=K (ae (cx d fr) d (.ms d 1)) (Qi hp d ⟨e,ty,[p],false⟩):=
 JP (by simp[h]) (by simpa using hl) he
theorem bs2{e ty d:Nat}{p q:PV}(h:p.flat=true)(h2:q.flat=true)(hl:p.cells.length=e)(rA:q.cells.length=e)(he:0<e):lV e ty [p,q] d fr hp K=K (ae (cx d fr) d (.ms d 2)) (Qi hp d ⟨e,ty,[p,q],false⟩):=
 JP (by simp[h,h2]) (by simp[hl,rA]) he
end Go.FW
namespace Go.FW
theorem Xw{y n s yi:Nat}(hy:(ak y).length=n+2)(wy:(ak y)[n+1]'(by omega)=yi)(h1:2^15<=yi*2^s)(h2:(yi+1)*2^s<=65536):
  (ak (y*2^s)).length=n+2/\32768<=(ak (y*2^s)).getD (n+1) 0/\32768*65536^(n+1)<=y*2^s:=by
 have hl:=Qk y
 have e:=qA (ak y) (n+1) (by omega)
 have ht:=uM hl (n+1) (by omega)
 rw[mD (by omega),Kan (by omega),wy,Qw]at e
 simp only[val,Kb5,KaX]at e
 have g1:32768*65536^(n+1)<=y*2^s:=by
  calc 32768*65536^(n+1)<=(yi*2^s)*65536^(n+1):=Kah _ h1
   _=(65536^(n+1)*yi)*2^s:=by rw[KaR (65536^(n+1)),Nat.mul_right_comm]
   _<=y*2^s:=Kah _ (by omega)
 have g2:y*2^s<65536^(n+2):=by
  have hp:0<2^s:=Kbp (by omega)
  calc y*2^s<(65536^(n+1)*(yi+1))*2^s:=Nat.mul_lt_mul_of_pos_right (by rw[Ka0];omega) hp
   _=65536^(n+1)*((yi+1)*2^s):=Kbj _ _ _
   _<=65536^(n+1)*65536:=KaA _ h2
   _=65536^(n+2):=(Kbr ..).symm
 have hle:nl (y*2^s)<=n+2:=nG.2 g2
 have il:¬nl (y*2^s)<=n+1:=fun h=>by
  have:=nG.1 h
  omega
 have hlen:(ak (y*2^s)).length=n+2:=by unfold nl at hle il;omega
 refine⟨hlen,?_,g1⟩
 have e2:=qA (ak (y*2^s)) (n+1) (by omega)
 have ht2:=uM (Qk (y*2^s)) (n+1) (by omega)
 rw[mD (by omega),Kan (by omega),Qw]at e2
 simp only[val,Kb5,KaX]at e2
 have hg:(ak (y*2^s)).getD (n+1) 0=(ak (y*2^s))[n+1]'(by omega):=gD (by omega)
 rw[hg]
 apply Decidable.byContradiction
 intro h
 have:65536^(n+1)*(ak (y*2^s))[n+1]<=65536^(n+1)*32767:=KaA _ (by omega)
 omega
theorem abv{yi s:Nat}(hs:s<=15)(h1:2^(16-s)<=2*yi)(h2:yi<2^(16-s)):2^15<=yi*2^s/\(yi+1)*2^s<=65536:=by
 have e:2^(16-s)*2^s=65536:=by rw[<-Nat.pow_add,show 16-s+s=16 by omega]
 constructor
 ·have:=Kah (2^s) h1
  rw[e,Kbj]at this;omega
 ·rw[<-e];exact Kah _ h2
theorem Xx{x s m n Y:Nat}(hx:(ak x).length=m+2)(hs:s<=15)(gm:n<=m)(hY:32768*65536^(n+1)<=Y):
  ∃u ex,ak (x*2^s)++[0,0]=u++ex/\u.length=m+3/\Qj u/\val u=x*2^s/\ex.length<=2/\val (u.drop (m+3-(n+2)))<Y:=by
 have VG:=pR (Qk x)
 rw[hx,Qw]at VG
 have hp:0<2^s:=Kbp (by omega)
 have wq:2^s<=2^15:=KaN (by omega) hs
 have hX:x*2^s<2^s*65536^(m+2):=by rw[KaR (2^s)];exact Nat.mul_lt_mul_of_pos_right VG hp
 have hX2:x*2^s<65536^(m+3):=by
  have:2^s*65536^(m+2)<=65536*65536^(m+2):=Kah _ (by omega)
  rw[Kbr 65536 (m+2),KaR _ 65536];omega
 have lz:¬nl (x*2^s)<=m+1:=fun h=>by
  have h2:¬nl x<=m+1:=by unfold nl;omega
  have h3:=gC (show x<=x*2^s from Ka1 _ hp)
  omega
 have ir:nl (x*2^s)<=m+3:=nG.2 hX2
 have rC:Qj (ak (x*2^s)++[0,0]):=oz.2 ⟨Qk _,by intro z hz;simp at hz;omega⟩
 have eR:val (ak (x*2^s)++[0,0])=x*2^s:=by rw[nB,Qw];simp[val]
 have hlen:(ak (x*2^s)++[0,0]).length=nl (x*2^s)+2:=by simp[nl]
 generalize ak (x*2^s)++[0,0]=D at *
 have hv:=qA D (m+3) (by omega)
 have hz:val (D.drop (m+3))=0:=DL (by omega)
 have yh:(D.take (m+3)).length=m+3:=by rw[KaI];omega
 refine⟨D.take (m+3),D.drop (m+3),(Kbx _ _).symm,yh,yM rC _,by rw[hz]at hv;omega,by rw[Ka7];omega,?_⟩
 have hu:val (D.take (m+3))=x*2^s:=by rw[hz]at hv;omega
 have ym:=qA (D.take (m+3)) (m+3-(n+2)) (by omega)
 generalize D.take (m+3)=u at *
 have e:65536^(m+2)=65536^(m+3-(n+2))*65536^(n+1):=by rw[<-Nat.pow_add];congr 1;omega
 have:65536^(m+3-(n+2))*val (u.drop (m+3-(n+2)))<65536^(m+3-(n+2))*(2^s*65536^(n+1)):=by
  rw[Kbi,<-e];omega
 have h4:=Nat.lt_of_mul_lt_mul_left this
 have:2^s*65536^(n+1)<=32768*65536^(n+1):=Kah _ wq
 omega
open Go
variable {C : Ctx} {fr : Fr} {hp : HP} {w : World} {K R : Qh}
theorem adp{e ty n:Nat}{fz:Bool}{o d:Nat}{x:PV}(h:o+n<=e):mm (some ⟨e,ty,[x],fz⟩) n true 0 o d fr hp K=K (ae fr d (eE true n o x)) hp:=OH h (by simp)
theorem adq{e ty:Nat}{fz:Bool}{o d:Nat}{x:PV}(h:o+1<=e):mm (some ⟨e,ty,[x],fz⟩) 1 false 0 o d fr hp K=K (ae fr d (eE false 1 o x)) hp:=OH h (by simp)
theorem ak0(n o:Nat)(cs:List PV):eE true n o (.agg cs)= .agg ((cs.drop o).take n):=rfl
theorem ak1(n o:Nat)(cs:List PV):eE false n o (.agg cs)=(cs.drop o).headD .undef:=rfl
theorem X6(n ty β:Nat)(x:PV)(cs:List PV):stM (some ⟨n,ty,[x],false⟩) β n 0 0 (.agg cs) fr hp K=(cs.length=n/\K fr (Qi hp β ⟨n,ty,[.agg cs],false⟩)):=by
 simp[stM,PV.aL,PV.cells]
theorem adr{e n ty β o:Nat}{x v:PV}(h:v.flat=true)(hn:¬n=e)(hl:v.cells.length=n)(ho:o+n<=e):stM (some ⟨e,ty,[x],false⟩) β n 0 o v fr hp K=K fr (Qi hp β ⟨e,ty,[tc x o v],false⟩):=by
 have:=(uU (hp:=hp) h).2.2
 simp[stM,this,hl,ho,hn]
theorem aeW(cs:List PV)(o:Nat)(v:PV):tc (.agg cs) o v= .agg (cs.take o++v.cells++cs.drop (o+v.cells.length)):=rfl
theorem IK(k:IntKind)(n:Int):(PV.int k n).cells=[.int k n]:=rfl
theorem abw:(PV.al).cells=[.al]:=rfl
theorem X7{p:PV}(h:p.flat=true):p.pF=false:=by cases p<;>simp_all[PV.flat,PV.pF]
theorem EI{z:List PV}{ps:List (Nat×Nat×PV)}{d:Nat}(h:ps.all (fun p=>p.2.2.flat)=true):
  mV z ps d fr hp K=((∀p∈ps,p.2.2.cells.length=p.2.1/\p.1+p.2.1<=z.length)/\K (ae fr d (.agg (iP z (ps.map fun p=>(p.1,p.2.2.cells))))) hp):=by
 have h':=Kas.1 h
 have e1:(ps.map fun p=>(p.1,(aO hp p.2.2).cells))=ps.map fun p=>(p.1,p.2.2.cells):=KaL fun p hp'=>by rw[(uU (h' p hp')).1]
 have e2:(ps.flatMap fun p=>p.2.2.refs)=[]:=by
  rw[List.flatMap_eq_nil_iff];exact fun p hp'=>(uU (hp:=hp) (h' p hp')).2.1
 have e3:Pu hp z.length ps=(∀p∈ps,p.2.2.cells.length=p.2.1/\p.1+p.2.1<=z.length):=by
  apply propext
  constructor
  ·intro H p hp'
   obtain⟨_,h2,h3⟩:=H p hp'
   rw[(uU (h' p hp')).1]at h2;exact⟨h2,h3⟩
  ·intro H p hp'
   obtain⟨h2,h3⟩:=H p hp'
   obtain⟨g1,_,g3⟩:=uU (hp:=hp) (h' p hp')
   rw[g1];exact⟨g3,h2,h3⟩
 have e4:ps.any (fun p=>p.2.2.pF)=false:=by
  rw[Kb2];exact fun p hp'=>by simp[X7 (h' p hp')]
 simp only[mV,e4,Dh,e1,e2,e3,Kbm,if_false]
 rfl
theorem al2(z:List PV)(d:Nat):mV z [] d fr hp K=K (ae fr d (.agg z)) hp:=by rw[EI rfl];simp[iP]
theorem al3{z:List PV}{o n d:Nat}{p:PV}(h:p.flat=true):mV z [(o,n,p)] d fr hp K=((p.cells.length=n/\o+n<=z.length)/\K (ae fr d (.agg (z.take o++p.cells++z.drop (o+p.cells.length)))) hp):=by
 rw[EI (by simp[h])];simp[iP]
theorem al4{z:List PV}{o n o2 n2 d:Nat}{p q:PV}(h:p.flat=true)(h2:q.flat=true):mV z [(o,n,p),(o2,n2,q)] d fr hp K=
  ((p.cells.length=n/\o+n<=z.length)/\(q.cells.length=n2/\o2+n2<=z.length)/\K (ae fr d (.agg (iP z [(o,p.cells),(o2,q.cells)]))) hp):=by
 rw[EI (by simp[h,h2])];simp[and_assoc]
theorem al5{z:List PV}{o n o2 n2 o3 n3 d:Nat}{p q r:PV}(h:p.flat=true)(h2:q.flat=true)(h3:r.flat=true):mV z [(o,n,p),(o2,n2,q),(o3,n3,r)] d fr hp K=
  ((p.cells.length=n/\o+n<=z.length)/\(q.cells.length=n2/\o2+n2<=z.length)/\(r.cells.length=n3/\o3+n3<=z.length)/\K (ae fr d (.agg (iP z [(o,p.cells),(o2,q.cells),(o3,r.cells)]))) hp):=by
 rw[EI (by simp[h,h2,h3])];simp[and_assoc]
theorem abx(c:List PV):iP c []=c:=rfl
theorem X8(c xs:List PV)(o:Nat)(r:List (Nat×List PV)):iP c ((o,xs)::r)=iP (c.take o++xs++c.drop (o+xs.length)) r:=rfl
def Dm(p:PV)(hp:HP)(n:Nat)(ag:Bool):PV:=match p with
 | .mp β i o=>match hp β with
  |some hb=>if i<hb.xs.length/\o+n<=hb.e/\(ag=false->n=1)then eE ag n o ((hb.xs[i]?).getD .undef)else .undef
  |none=> .undef
 |_=> .undef
def gv(fr:Fr)(hp:HP):RV->PV
 | .t s=>aO hp (fr s)
 | .cell s n ag=>Dm (fr s) hp n ag
def BT(hb:Option HB)(n:Nat)(ag:Bool)(i o:Nat):PV:=match hb with
  |some hb=>if i<hb.xs.length/\o+n<=hb.e/\(ag=false->n=1)then eE ag n o ((hb.xs[i]?).getD .undef)else .undef
  |none=> .undef
theorem ao2(fr:Fr)(hp:HP)(s:Nat):gv fr hp (.t s)=aO hp (fr s):=rfl
theorem ao1(fr:Fr)(hp:HP)(s n:Nat)(ag:Bool):gv fr hp (.cell s n ag)=Dm (fr s) hp n ag:=rfl
theorem ads(hp:HP)(n:Nat)(ag:Bool)(β i o:Nat):Dm (.mp β i o) hp n ag=BT (hp β) n ag i o:=rfl
theorem aeX{e ty n o:Nat}{fz:Bool}{x:PV}(h:o+n<=e):BT (some ⟨e,ty,[x],fz⟩) n true 0 o=eE true n o x:=by simp[BT,h]
theorem aeY{e ty o:Nat}{fz:Bool}{x:PV}(h:o+1<=e):BT (some ⟨e,ty,[x],fz⟩) 1 false 0 o=eE false 1 o x:=by simp[BT,h]
theorem zB{r:RV}(h:(gv fr hp r).aL=true):mw fr hp r/\lH fr hp r=gv fr hp r:=by
 cases r with
 |t s=>exact⟨h,rfl⟩
 | cell s n ag=>
  simp only[gv,mw,lH]at h⊢
  cases jL:fr s with
  | mp β i o=>
   rw[jL]at h
   simp only[Dm]at h⊢
   cases af:hp β with
   |none=>rw[af]at h;cases h
   | some hb=>
    rw[af]at h
    simp only at h⊢
    split at h
    ·rename_i hc
     rw[if_pos hc];exact⟨hc,rfl⟩
    ·cases h
  |_=>rw[jL]at h;cases h
theorem cn{r:RV}{Rr:PV->Prop}(h:zL Rr (gv fr hp r)):ff [r] Rr fr hp:=by
 obtain⟨h1,h2⟩:=zB h.1
 exact⟨h1,by rw[h2];exact h.2⟩
theorem nH{r s:RV}{Rr:PV->Prop}(h:Dk Rr (gv fr hp r) (gv fr hp s)):ff [r,s] Rr fr hp:=by
 obtain⟨⟨a,b⟩,c⟩:=h
 obtain⟨h1,h2⟩:=zB a
 obtain⟨h3,h4⟩:=zB b
 refine⟨by simp[h1,h3],?_⟩
 simp only[Kbd,Kbw,h2,h4];exact c
theorem HD{r s t:RV}{Rr:PV->Prop}(h:Dl Rr (gv fr hp r) (gv fr hp s) (gv fr hp t)):ff [r,s,t] Rr fr hp:=by
 obtain⟨⟨a,b,b'⟩,c⟩:=h
 obtain⟨h1,h2⟩:=zB a
 obtain⟨h3,h4⟩:=zB b
 obtain⟨h5,h6⟩:=zB b'
 refine⟨by simp[h1,h3,h5],?_⟩
 simp only[Kbd,Kbw,h2,h4,h6];exact c
end Go.FW
namespace Go.FW
open Go
def zv(n:Bool)(a:List Nat):Int:=if n then -(val a:Int)else val a
abbrev PV.zi(n:Bool)(a:List Nat):PV:= .agg [.bool n,PV.nat a]
abbrev PV.zz(z:Int):PV:= .agg [.bool (decide (z<0)),PV.num z.natAbs]
theorem JQ(n:Bool)(x:Nat):PV.agg [.bool (n&&decide (0<(ak x).length)),PV.num x]=PV.zz (if n then -(x:Int)else x):=by
 have h:0<(ak x).length↔x≠0:=by
  constructor
  ·intro h h0;rw[h0,fI]at h;simp at h
  ·intro h;apply Kba;intro h0;exact h (kP.1 (qz h0))
 cases n
 ·simp
 ·simp only[Kco,if_true,PV.zz,Kc7,Kbh]
  congr 3
  exact decide_eq_decide.2 (by rw[h];omega)
theorem mK(z:Int):zv (decide (z<0)) (ak z.natAbs)=z:=by
 unfold zv;rw[Qw];by_cases h:z<0<;>simp[h]<;>omega
theorem jA(n:Bool)(a:List Nat):(zv n a).natAbs=val a:=by unfold zv;split<;>simp
theorem uX(a:List Nat):zv false a=val a:=rfl
theorem tH(n:Bool)(x:Nat):zv n (ak x)=if n then -(x:Int)else x:=by unfold zv;rw[Qw]
def fa(z:Int):Int:=if z<0 then -1 else if 0<z then 1 else 0
def dC(x y:Int):Int:=if x<y then -1 else if y<x then 1 else 0
theorem Hq(n:Bool)(a:List Nat):fa (zv n a)=if val a=0 then 0 else if n then -1 else 1:=by
 unfold fa zv;cases n<;>simp<;>split<;>(try split)<;>omega
theorem BD{x:Int}:fa x<0↔x<0:=by unfold fa;split<;>(try split)<;>omega
theorem aeZ{x y:Int}(h:fa x<fa y):dC x y= -1:=by
 unfold fa at h;unfold dC;rw[if_pos];split at h<;>split at h<;>(try split at h)<;>(try split at h)<;>omega
theorem ae0{x y:Int}(h:fa y<fa x):dC x y=1:=by
 have:y<x:=by unfold fa at h;split at h<;>split at h<;>(try split at h)<;>(try split at h)<;>omega
 unfold dC;rw[if_neg (by omega),if_pos this]
theorem EJ(n:Bool)(a:List Nat):zv n a=val a∨zv n a= -(val a:Int):=by unfold zv;split<;>simp
theorem ae1{n m:Bool}{a b:List Nat}(h:zv n a<0)(h2:zv m b<0):gY (val b) (val a)=dC (zv n a) (zv m b):=by
 unfold gY dC
 have e:=EJ n a
 have f:=EJ m b
 generalize zv n a=p at *
 generalize zv m b=q at *
 repeat' split
 all_goals omega
theorem ae2{n m:Bool}{a b:List Nat}(h:¬zv n a<0)(h2:¬zv m b<0):gY (val a) (val b)=dC (zv n a) (zv m b):=by
 unfold gY dC
 have e:=EJ n a
 have f:=EJ m b
 generalize zv n a=p at *
 generalize zv m b=q at *
 repeat' split
 all_goals omega
theorem EK{x y:Nat}:gY x y<0↔x<y:=by unfold gY;split<;>(try split)<;>omega
variable {C : Ctx} {fr : Fr} {hp : HP} {w : World} {K R : Qh}
def HE(hb:Option HB)(o n:Nat):PV:=match hb with
 |some hb=> .sl hb.e ((hb.xs.drop o).take n)
 |none=> .undef
theorem ep:(∀(hp:HP)(β o n:Nat),aO hp (.aB β o n)=if aP β=true then .undef else HE (hp β) o n)/\
  (∀(e ty o n:Nat)(xs:List PV)(fz:Bool),HE (some ⟨e,ty,xs,fz⟩) o n= .sl e ((xs.drop o).take n))/\
  (∀(β:Nat),aP β=(decide (1000000<=β)&&decide (β<2000000)))/\
  (∀(hp:HP)(l:List Nat)(β:Nat),FW.bV hp l β=if l.contains β=true then(hp β).map (fun hb=>{ hb with fz:=true })else hp β):=by
 refine⟨fun hp β o n=> ?_,fun _ _ _ _ _ _=>rfl,fun _=>rfl,fun _ _ _=>rfl⟩
 simp only[aO,cN,HE]
 cases aP β<;>cases hp β<;>rfl
theorem aiV{n d:Nat}{cs:List PV}(h:n<=cs.length):iW n true (.pt cs) d fr hp K=K (ae fr d (.agg (cs.take n))) hp:=by
 simp[iW,h,eE,PV.cells]
theorem aiW{off d:Nat}{cs:List PV}(h:off<=cs.length):su off (.pt cs) d fr hp K=K (ae fr d (.pt (cs.drop off))) hp:=by
 simp[su,h]
theorem aiX{off n d:Nat}{cs:List PV}(h:off+n<=cs.length):r9 off n true (.agg cs) d fr hp K=K (ae fr d (.agg ((cs.drop off).take n))) hp:=by
 simp[r9,h,eE,PV.cells]
theorem aiY{off d:Nat}{cs:List PV}(h:off+1<=cs.length):r9 off 1 false (.agg cs) d fr hp K=K (ae fr d ((cs.drop off).headD .undef)) hp:=by
 simp[r9,h,eE,PV.cells]
def rv(n:Bool)(a d:List Nat):Rat:=mkRat (zv n a) (val d)
abbrev PV.rr(n:Bool)(a d:List Nat):PV:= .agg [.bool n,PV.nat a,PV.nat d]
abbrev PV.rat(q:Rat):PV:= .agg [.bool (decide (q.num<0)),PV.num q.num.natAbs,PV.num q.den]
theorem dE(q:Rat):rv (decide (q.num<0)) (ak q.num.natAbs) (ak q.den)=q:=by
 unfold rv;rw[mK,Qw,KcW]
theorem AW{z:Int}{D:Nat}(hD:D≠0):(mkRat z D).num=z/(Nat.gcd z.natAbs D:Int)/\(mkRat z D).den=D/Nat.gcd z.natAbs D:=by
 rw[Rat.mkRat_def,dif_neg hD,Rat.normalize_eq];exact⟨rfl,rfl⟩
theorem PM{z:Int}{D:Nat}(hD:D≠0):PV.agg [.bool (decide (z<0)),PV.num (z.natAbs/Nat.gcd z.natAbs D),PV.num (D/Nat.gcd z.natAbs D)]=PV.rat (mkRat z D):=by
 obtain⟨h1,h2⟩:=AW (z:=z) hD
 have hg:0<Nat.gcd z.natAbs D:=Nat.gcd_pos_of_pos_right _ (Kba hD)
 have KP:(Nat.gcd z.natAbs D:Int)∣z:=Int.ofNat_dvd_left.2 (Kc8 _ _)
 obtain⟨k,hk⟩:=KP
 rw[PV.rat,h1,h2]
 generalize hgg:Nat.gcd z.natAbs D=g at *
 have e1:z/(g:Int)=k:=by rw[hk,Int.mul_ediv_cancel_left _ (by omega)]
 have e2:z.natAbs/g=k.natAbs:=by rw[hk,Int.natAbs_mul,Kbh,Nat.mul_div_cancel_left _ hg]
 have e3:z<0↔k<0:=by
  rw[hk]
  constructor
  ·intro h;apply Decidable.byContradiction;intro h'
   have:=Int.mul_nonneg (show(0:Int)<=g by omega) (show 0<=k by omega);omega
  ·intro h;exact Int.mul_neg_of_pos_of_neg (by omega) h
 rw[e1,e2,decide_eq_decide.2 e3]
theorem ak2(z:Int):PV.agg [.bool (decide (z<0)),PV.num z.natAbs,PV.nat [1]]=PV.rat (mkRat z 1):=by
 rw[<-PM (by omega),Nat.gcd_one_right,Nat.div_one,Nat.div_one,PV.num,PV.num,tB]
theorem On:PV.le (.agg [.bool false,.al,PV.nat [1]]) (PV.rat 0):=by
 show PV.Am _ _
 refine⟨rfl,?_,?_,trivial⟩
 ·show PV.mo .al (PV.nat (ak 0));rw[fI];trivial
 ·show PV.mo (PV.nat [1]) (PV.nat (ak 1));rw[tB];exact yW _
theorem RM{z:Int}{D:Nat}(h:D=0∨z=0):mkRat z D=0:=by
 rcases h with h|h
 ·rw[h,Rat.mkRat_zero]
 ·rw[h,Rat.zero_mkRat]
def rs(q:Rat):Nat:=max (nl q.num.natAbs) (nl q.den)
theorem PN(x y:Nat):nl (x/y)<=nl x:=gC (KcM _ _)
theorem vf:nl 1=1:=by unfold nl;rw[tB];rfl
theorem EL(z:Int)(D:Nat):rs (mkRat z D)<=max (nl z.natAbs) (max (nl D) 1):=by
 by_cases hD:D=0
 ·rw[hD,Rat.mkRat_zero]
  show max (nl 0) (nl 1)<=_
  rw[w8,vf];omega
 ·obtain⟨h1,h2⟩:=AW (z:=z) hD
  unfold rs
  rw[h1,h2]
  have e:(z/(Nat.gcd z.natAbs D:Int)).natAbs<=z.natAbs:=by
   have KP:(Nat.gcd z.natAbs D:Int)∣z:=Int.ofNat_dvd_left.2 (Kc8 _ _)
   rw[Int.natAbs_ediv_of_dvd KP]
   exact KcM _ _
  have:=gC e
  have:=PN D (Nat.gcd z.natAbs D)
  omega
theorem rR(x y:Int):nl (x+y).natAbs<=max (nl x.natAbs) (nl y.natAbs)+1:=
 Kao (gC (Int.natAbs_add_le x y)) (PF _ _)
theorem iy(x y:Int):nl (x*y).natAbs<=nl x.natAbs+nl y.natAbs:=by rw[Int.natAbs_mul];exact pS _ _
theorem Hr(q:Rat):1<=rs q:=by
 have:nl q.den≠0:=fun h=>q.den_nz (AI.1 h)
 unfold rs;omega
theorem ki(a b:Rat):rs (a+b)<=rs a+rs b+1:=by
 have e:a+b=mkRat (a.num*b.den+b.num*a.den) (a.den*b.den):=by
  conv=>lhs;rw[<-Rat.mkRat_self a,<-Rat.mkRat_self b]
  exact Rat.mkRat_add_mkRat _ _ a.den_nz b.den_nz
 rw[e]
 have h1:=EL (a.num*b.den+b.num*a.den) (a.den*b.den)
 have h2:=rR (a.num*b.den) (b.num*a.den)
 have h3:=iy a.num b.den
 have h4:=iy b.num a.den
 have h5:=pS a.den b.den
 rw[Kbh]at h3 h4
 unfold rs at *
 omega
theorem eX(a b:Rat):rs (a*b)<=rs a+rs b:=by
 have e:a*b=mkRat (a.num*b.num) (a.den*b.den):=by
  conv=>lhs;rw[<-Rat.mkRat_self a,<-Rat.mkRat_self b]
  exact Rat.mkRat_mul_mkRat _ _ _ _
 rw[e]
 have h1:=EL (a.num*b.num) (a.den*b.den)
 have h3:=iy a.num b.num
 have h5:=pS a.den b.den
 have:=Hr a
 unfold rs at *
 omega
theorem qE(a:Rat):rs (-a)=rs a:=by unfold rs;rw[Rat.neg_num,Rat.neg_den,Kc7]
theorem aiZ{n k:Nat}{a d:List Nat}{b:Bool}(ha:Qj a)(hd:Qj d)(h1:a.length<=k)(h2:d.length<=k)(hk:1<=k):rs (rv b a d)<=k:=by
 unfold rv
 have h:=EL (zv b a) (val d)
 rw[jA]at h
 have:=bZ ha
 have:=bZ hd
 omega
end Go.FW
namespace Go.FW
open Go
def gd(q:Rat):Int:=fa q.num
def oT(p q:Rat):Int:=if p<q then -1 else if q<p then 1 else 0
theorem HR{z:Int}{D:Nat}(hD:D≠0):∃g:Nat,0<g/\z=(mkRat z D).num*g/\D=(mkRat z D).den*g:=by
 obtain⟨h1,h2⟩:=AW (z:=z) hD
 have hg:0<Nat.gcd z.natAbs D:=Nat.gcd_pos_of_pos_right _ (Kba hD)
 refine⟨_,hg,?_,?_⟩
 ·rw[h1,Int.ediv_mul_cancel (Int.ofNat_dvd_left.2 (Kc8 _ _))]
 ·rw[h2,Nat.div_mul_cancel (Nat.gcd_dvd_right _ _)]
theorem X9{a:Int}{g:Nat}(hg:0<g):a*g<0↔a<0:=by
 constructor
 ·intro h;apply Decidable.byContradiction;intro h'
  have:=Int.mul_nonneg (show 0<=a by omega) (show(0:Int)<=g by omega);omega
 ·intro h;exact Int.mul_neg_of_neg_of_pos h (by omega)
theorem Yt{a:Int}{g:Nat}(hg:0<g):0<a*g↔0<a:=by
 constructor
 ·intro h;apply Decidable.byContradiction;intro h'
  have:=Int.mul_nonneg (show 0<= -a by omega) (show(0:Int)<=g by omega)
  rw[Int.neg_mul]at this;omega
 ·intro h;exact Int.mul_pos h (by omega)
theorem aby{z:Int}{D:Nat}(hD:D≠0):gd (mkRat z D)=fa z:=by
 obtain⟨g,hg,h1,_⟩:=HR (z:=z) hD
 unfold gd
 generalize(mkRat z D).num=x at *
 subst h1
 unfold fa
 have:=X9 (a:=x) hg
 have:=Yt (a:=x) hg
 repeat' split
 all_goals omega
theorem NB{x y:Int}{d c:Nat}(hd:d≠0)(hc:c≠0):mkRat x d<mkRat y c↔x*c<y*d:=by
 obtain⟨g,hg,h1,h2⟩:=HR (z:=x) hd
 obtain⟨k,hk,h3,h4⟩:=HR (z:=y) hc
 rw[Rat.lt_iff]
 generalize(mkRat x d).num=p at *
 generalize(mkRat x d).den=p' at *
 generalize(mkRat y c).num=q at *
 generalize(mkRat y c).den=q' at *
 subst h1 h2 h3 h4
 have e1:p*(g:Int)*((q'*k:Nat):Int)=(p*q')*((g*k:Nat):Int):=by push_cast;grind
 have e2:q*(k:Int)*((p'*g:Nat):Int)=(q*p')*((g*k:Nat):Int):=by push_cast;grind
 rw[e1,e2]
 have UJ:(0:Int)<((g*k:Nat):Int):=by exact_mod_cast Nat.mul_pos hg hk
 exact⟨fun h=>Int.mul_lt_mul_of_pos_right h UJ,fun h=>Int.lt_of_mul_lt_mul_right h (Int.le_of_lt UJ)⟩
theorem Oo{x y:Int}{d c:Nat}(hd:d≠0)(hc:c≠0):oT (mkRat x d) (mkRat y c)=dC (x*c) (y*d):=by
 unfold oT dC
 simp only[NB hd hc,NB hc hd]
theorem Jm{x:Int}:fa x=0↔x=0:=by unfold fa;(repeat' split)<;>omega
theorem dz{q:Rat}:gd q=0↔q=0:=by unfold gd;rw[Jm,Rat.num_eq_zero]
theorem yZ{q:Rat}:gd q<0↔q<0:=by
 unfold gd;rw[BD,Rat.lt_iff];simp
theorem Jn{q:Rat}:0<gd q↔0<q:=by
 unfold gd;rw[Rat.lt_iff];unfold fa;simp;repeat' split
 all_goals omega
theorem LP(q:Rat):gd q= -1∨gd q=0∨gd q=1:=by unfold gd fa;(repeat' split)<;>omega
theorem NC{p q:Rat}(h:gd p<gd q):oT p q= -1:=by
 unfold oT;rw[if_pos]
 rcases LP p with h1|h1|h1<;>rcases LP q with h2|h2|h2<;>first|omega|skip
 ·have a:=yZ.1 (show gd p<0 by omega);have b:=dz.1 h2;grind
 ·have a:=yZ.1 (show gd p<0 by omega);have b:=Jn.1 (show 0<gd q by omega);grind
 ·have a:=dz.1 h1;have b:=Jn.1 (show 0<gd q by omega);grind
theorem adt{p q:Rat}(h:gd q<gd p):oT p q=1:=by
 have:=NC h
 unfold oT at *
 have au:q<p:=by
  apply Decidable.byContradiction;intro hn
  rw[if_neg hn]at this;split at this<;>omega
 rw[if_neg (by grind),if_pos au]
theorem El{p q:Rat}:oT p q=0↔p=q:=by
 unfold oT
 constructor
 ·intro h
  split at h
  ·omega
  ·split at h
   ·omega
   ·grind
 ·rintro rfl;rw[if_neg (by grind),if_neg (by grind)]
def oN(n:Bool)(a:List Nat):Bool:=if a=[]then !n else decide (a.getLast? ≠some 0)
def kj(n:Bool)(a d:List Nat):Bool:=oN n a&&(decide (d≠[]/\d.getLast? ≠some 0)&&decide (Nat.gcd (val a) (val d)=1))
theorem ND{n:Bool}{a d:List Nat}(ha:Qj a)(hd:Qj d)(h:kj n a d=true):n=decide ((rv n a d).num<0)/\a=ak (rv n a d).num.natAbs/\d=ak (rv n a d).den:=by
 simp only[kj,oN,Kar,decide_eq_true_eq]at h
 obtain⟨h1,⟨h2,h3⟩,h4⟩:=h
 have ea:a=ak (val a):=by
  refine(Bx ha ?_).symm
  split at h1
  ·rename_i h;subst h;simp
  ·simpa using h1
 have ed:d=ak (val d):=(Bx hd h3).symm
 have hD:val d≠0:=fun h=>h2 (by rw[ed,h,fI])
 obtain⟨g1,g2⟩:=AW (z:=zv n a) hD
 rw[jA,h4]at g1 g2
 have FU:(rv n a d).num=zv n a:=by unfold rv;rw[g1];simp
 have g2':(rv n a d).den=val d:=by unfold rv;rw[g2];simp
 rw[FU,g2',jA]
 refine⟨?_,ea,ed⟩
 unfold zv
 split at h1
 ·rename_i h;subst h;simp at h1;subst h1;simp[val]
 ·rename_i h
  have h0:val a≠0:=fun h'=>h (by rw[ea,h',fI])
  cases n<;>simp;omega
theorem QQ{n:Bool}{a d:List Nat}(ha:Qj a)(hd:Qj d)(h:kj n a d=true):PV.rr n a d=PV.rat (rv n a d):=by
 obtain⟨h1,h2,h3⟩:=ND ha hd h
 rw[PV.rr,PV.rat,<-h1,PV.num,PV.num,<-h2,<-h3]
theorem RN{a:List Nat}{k:Nat}(h:a.length=k+1):a.getLast? =some (a[k]'(by omega)):=by
 rw[Kbk,show a.length-1=k by omega];exact Kag _
def eN(a:List Int)(i:Nat):Int:=a.getD i 0
theorem fw{a:List Int}{i:Nat}(h:i<a.length):eN a i=a[i]:=by simp[eN,Kad,h]
theorem gW{a:List Int}{i:Nat}(h:a.length<=i):eN a i=0:=by simp[eN,Kad,KcN h]
theorem PO(i:Nat):eN [] i=0:=by simp[eN]
def mP(l:List Int):Nat->List Int
 |0=>[]
 |n+1=>if l[n]? =some 0 then mP l n else l.take (n+1)
def dF(l:List Int):List Int:=mP l l.length
theorem RO(l:List Int):∀n,(mP l n).length<=n
 |0=>by simp[mP]
 |n+1=>by
  rw[mP];split
  ·have:=RO l n;omega
  ·simp;omega
theorem LQ(l:List Int):∀n,n<=l.length->(mP l n).getLast? ≠some 0
 |0,_=>by simp[mP]
 | n+1,h=>by
  rw[mP];split
  ·exact LQ l n (by omega)
  ·rename_i hn
   have:(l.take (n+1)).getLast? =l[n]? :=by
    rw[Kbk,KaI,Kb3 h]
    simp[KcH]
   rw[this];exact hn
theorem Oq(l:List Int)(i:Nat):∀n,n<=l.length->eN (mP l n) i=if i<n then eN l i else 0
 |0,_=>by simp[mP,eN]
 | n +1,h=>by
  rw[mP];split
  ·rename_i hn
   rw[Oq l i n (by omega)]
   by_cases h1:i<n
   ·simp[h1,show i<n+1 by omega]
   ·rw[if_neg h1];split
    ·obtain rfl:i=n:=by omega
     simp[eN,Kad,hn]
    ·rfl
  ·simp only[eN,Kad,KcH]
   split<;>simp_all
theorem I7(l:List Int)(i:Nat):eN (dF l) i=eN l i:=by
 rw[dF,Oq l i _ (Kaf _)]
 split
 ·rfl
 ·exact(gW (by omega)).symm
theorem Iu(l:List Int):(dF l).getLast? ≠some 0:=LQ l _ (Kaf _)
theorem uN(l:List Int):(dF l).length<=l.length:=RO l _
theorem tv{a b:List Int}(ha:a.getLast? ≠some 0)(hb:b.getLast? ≠some 0)(h:∀i,eN a i=eN b i):a=b:=by
 have key:∀(a b:List Int),b.getLast? ≠some 0->(∀i,eN a i=eN b i)->¬a.length<b.length:=by
  intro a b hb h au
  have h1:=h (b.length-1)
  rw[gW (by omega),fw (by omega)]at h1
  apply hb
  rw[Kbk,Kag (by omega),<-h1]
 have h1:=key a b hb h
 have h2:=key b a ha (fun i=>(h i).symm)
 refine Kbg (by omega) fun i h3 h4=> ?_
 have:=h i
 rwa[fw h3,fw h4]at this
theorem I8{a:List Int}(h:a.getLast? ≠some 0):dF a=a:=tv (Iu a) h (I7 a)
def dP(a b:List Int):Nat->Int
 |0=>0
 |n+1=>if eN a n=eN b n then dP a b n else dC (eN a n) (eN b n)
def aX(a b:List Int):Int:=dP a b (max a.length b.length)
theorem ae3{x y:Int}:dC x y=0↔x=y:=by unfold dC;(repeat' split)<;>omega
theorem zj{x y:Int}:dC x y<0↔x<y:=by unfold dC;(repeat' split)<;>omega
theorem adu(x y:Int):dC y x= -dC x y:=by unfold dC;(repeat' split)<;>omega
theorem Em(a b:List Int):∀n,dP a b n=0↔∀i,i<n->eN a i=eN b i
 |0=>by simp[dP]
 | n+1=>by
  rw[dP];split
  ·rename_i h
   rw[Em a b n]
   exact⟨fun H i hi=>by
    by_cases h1:i=n
    ·subst h1;exact h
    ·exact H i (by omega),fun H i hi=>H i (by omega)⟩
  ·rename_i h
   rw[ae3]
   exact⟨fun H=>absurd H h,fun H=>H n (by omega)⟩
theorem NF(a b:List Int):∀n,dP b a n= -dP a b n
 |0=>rfl
 |n+1=>by
  rw[dP,dP]
  by_cases h:eN a n=eN b n
  ·rw[if_pos h,if_pos h.symm,NF a b n]
  ·rw[if_neg h,if_neg (fun h'=>h h'.symm),adu]
theorem SF{a b c:List Int}:∀n,dP a b n<0->dP b c n<0->dP a c n<0
 |0=>by simp[dP]
 | n+1=>by
  intro h1 h2
  rw[dP]at h1 h2⊢
  split at h1<;>split at h2
  ·rename_i e1 e2
   rw[if_pos (e1.trans e2)];exact SF n h1 h2
  ·rename_i e1 e2
   rw[e1,if_neg e2];exact h2
  ·rename_i e1 e2
   rw[<-e2,if_neg e1];exact h1
  ·rename_i e1 e2
   rw[zj]at h1 h2
   rw[if_neg (by omega),zj];omega
theorem y3{a b:List Int}{m:Nat}(h:max a.length b.length<=m):dP a b m=aX a b:=by
 obtain⟨k,rfl⟩:∃k,m=max a.length b.length+k:=⟨m-max a.length b.length,by omega⟩
 induction k with
 |zero=>rfl
 |succ k ih=>
  rw[<-Nat.add_assoc,dP,if_pos (by rw[gW (by omega),gW (by omega)])]
  exact ih (by omega)
theorem BE{a b:List Int}(ha:a.getLast? ≠some 0)(hb:b.getLast? ≠some 0):aX a b=0↔a=b:=by
 unfold aX
 rw[Em]
 constructor
 ·intro h
  refine tv ha hb fun i=> ?_
  by_cases hi:i<max a.length b.length
  ·exact h i hi
  ·rw[gW (by omega),gW (by omega)]
 ·rintro rfl i _;rfl
theorem En(a:List Int):aX a a=0:=by rw[aX,Em];intros;rfl
theorem y4(a b:List Int):aX b a= -aX a b:=by
 unfold aX;rw[Nat.max_comm,NF]
theorem ZR{a b c:List Int}(h1:aX a b<0)(h2:aX b c<0):aX a c<0:=by
 have e:∀x y:List Int,x.length<=a.length+b.length+c.length->y.length<=a.length+b.length+c.length->aX x y=dP x y (a.length+b.length+c.length):=fun x y hx hy=>(y3 (by omega)).symm
 rw[e _ _ (by omega) (by omega)]at *
 exact SF _ h1 h2
theorem ZS{a b c d:List Int}(h1:∀i,eN a i=eN c i)(h2:∀i,eN b i=eN d i):aX a b=aX c d:=by
 have key:∀n,dP a b n=dP c d n:=by
  intro n;induction n with
  |zero=>rfl
  |succ n ih=>rw[dP,dP,h1,h2,ih]
 rw[<-y3 (m:=max (max a.length b.length) (max c.length d.length)) (by omega),key,y3 (by omega)]
def ks(g:Int->Int->Int)(a b:List Int):List Int:=(List.range (max a.length b.length)).map fun i=>g (eN a i) (eN b i)
theorem pK(g:Int->Int->Int)(a b:List Int):(ks g a b).length=max a.length b.length:=by simp[ks]
theorem Ot{g:Int->Int->Int}(hg:g 0 0=0)(a b:List Int)(i:Nat):eN (ks g a b) i=g (eN a i) (eN b i):=by
 by_cases h:i<max a.length b.length
 ·rw[fw (by rw[pK];exact h)];simp[ks]
 ·rw[gW (by rw[pK];omega),gW (by omega),gW (by omega),hg]
def bp(a b:List Int):List Int:=dF (ks (· + ·) a b)
theorem nE(a b:List Int)(i:Nat):eN (bp a b) i=eN a i+eN b i:=by rw[bp,I7,Ot (by simp)]
theorem qB(a b:List Int):(bp a b).getLast? ≠some 0:=Iu _
theorem yO(a b:List Int):bp a b=bp b a:=tv (qB _ _) (qB _ _) fun i=>by rw[nE,nE,Int.add_comm]
theorem NG{a:List Int}(h:a.getLast? ≠some 0):bp a []=a:=tv (qB _ _) h fun i=>by rw[nE,PO,Int.add_zero]
theorem adv(a b c:List Int):aX (bp a c) (bp b c)=aX a b:=by
 have key:∀n,dP (bp a c) (bp b c) n=dP a b n:=by
  intro n;induction n with
  |zero=>rfl
  |succ n ih=>
   rw[dP,dP,nE,nE,ih]
   by_cases h:eN a n=eN b n
   ·rw[if_pos h,if_pos (by omega)]
   ·rw[if_neg h,if_neg (by omega)];unfold dC;(repeat' split)<;>omega
 rw[<-y3 (m:=max (max (bp a c).length (bp b c).length) (max a.length b.length)) (by omega),key,y3 (by omega)]
def dj(a:List Int):Int:=a.sum
def cD(a:List Int):Bool:=decide (a.length<=64)&&(decide (a.getLast? ≠some 0)&&a.all fun x=>decide (0<=x)&&decide (x<=1048576))
def kt(o:Int)(a b:List Int):Int:=if o=1/\dj a≠dj b then dC (dj a) (dj b)else aX a b
structure MB(k:Nat)(a:List Int):Prop where
 len:a.length<=64
 lo:∀x∈a,0<=x
 hi:∀x∈a,x<=k
theorem MB.eN{k:Nat}{a:List Int}(h:MB k a)(i:Nat):0<=FW.eN a i/\FW.eN a i<=k:=by
 by_cases hi:i<a.length
 ·rw[fw hi];exact⟨h.lo _ (Kai _),h.hi _ (Kai _)⟩
 ·rw[gW (by omega)];omega
theorem MB.mono{k k':Nat}{a:List Int}(h:MB k a)(hk:k<=k'):MB k' a:=⟨h.len,h.lo,fun x hx=>by have:=h.hi x hx;omega⟩
theorem MB.sY{a:List Int}(h:cD a=true):MB 1048576 a:=by
 simp only[cD,Kar,decide_eq_true_eq,Kas]at h
 exact⟨h.1,fun x hx=>(h.2.2 x hx).1,fun x hx=>(h.2.2 x hx).2⟩
theorem MB.mul{k l:Nat}{a b:List Int}(h:MB k a)(g:MB l b):MB (k+l) (bp a b):=by
 have hl:(bp a b).length<=64:=by
  have:=uN (ks (· + ·) a b)
  rw[pK]at this
  have:=h.len;have:=g.len;unfold bp;omega
 refine⟨hl,fun x hx=> ?_,fun x hx=> ?_⟩
 all_goals
  obtain⟨i,hi,rfl⟩:=KaT hx
  rw[<-fw hi,nE]
  have:=h.eN i;have:=g.eN i
  push_cast;omega
variable {C : Ctx} {fr : Fr} {hp : HP} {w : World} {K R : Qh}
theorem ak3{α:Type}{f:α->PV}{e d:Nat}{xs:List α}{k k':IntKind}{n:Nat}(h5:n<=xs.length):
  iZ e (.sl e (xs.map f)) none (some (.int k (n:Int))) (some (.int k' (n:Int))) d fr hp K=K (ae fr d (.sl e ((xs.take n).map f))) hp:=by
 simp[iZ,iK,h5]
theorem I9{α:Type}{a:List α}{k:Nat}(h:a.length=k+1):a.getLast? =some (a[k]'(by omega)):=by
 rw[Kbk,show a.length-1=k by omega];exact Kag _
theorem Xy{α:Type}{f:α->PV}{e by_ ty d:Nat}{xs:List α}(h0:0<e)(h1:xs.length*by_<=140737488355328)(h2:xs.length<=9223372036854775807):
  iC e by_ ty .al (.sl e (xs.map f)) d fr hp K=K (ae (cx d fr) d (.ms d xs.length)) (Qi hp d ⟨e,ty,xs.map f,false⟩):=by
 have:=Ir (fr:=fr) (hp:=hp) (K:=K) (e:=e) (by_:=by_) (ty:=ty) (d:=d) (x:= .sl e (xs.map f)) (ys:=xs.map f) rfl h0 (by simpa using h1) (by simpa using h2)
 simpa using this
theorem mE{α:Type}{f:α->PV}{e by_ ty d β n:Nat}{xs ys:List α}(hb:hp β=some ⟨e,ty,xs.map f,false⟩)(hn:n=xs.length)(h0:0<e)(h1:(n+ys.length)*by_<=140737488355328)(h2:n+ys.length<=9223372036854775807)(hB:bE β=false:=by decide):
  iC e by_ ty (.ms β n) (.sl e (ys.map f)) d fr hp K=K (ae (cx β fr) d (.ms β (n+ys.length))) (Qi hp β ⟨e,ty,(xs++ys).map f,false⟩):=by
 rw[Is (ys:=ys.map f) (xs:=xs.map f) rfl hb h0 (by simp[hn]) (by simpa using h1) (by simpa using h2) hB]
 rw[Kac (by simp[hn]),Kbo,Kap]
theorem Qq{α:Type}{f:α->PV}{y:α}{e by_ ty ty' d β γ n:Nat}{xs:List α}{fz:Bool}(hb:hp β=some ⟨e,ty,xs.map f,false⟩)(hy:hp γ=some ⟨e,ty',[f y],fz⟩)(h0:0<e)(hn:n=xs.length)(h1:(n+1)*by_<=140737488355328)(h2:n+1<=9223372036854775807)(hB:bE β=false:=by decide):
  iC e by_ ty (.ms β n) (.ms γ 1) d fr hp K=K (ae (cx β fr) d (.ms β (n+1))) (Qi hp β ⟨e,ty,(xs++[y]).map f,false⟩):=by
 rw[EF hb hy h0 (by simp[hn]) h1 h2 hB];simp
abbrev PV.mono(a:List Int):PV:= .sl 1 (pY a)
theorem LR{a:List Int}(h:a=[]):PV.le .al (PV.mono a):=by subst h;trivial
theorem ai0{by_ ty d:Nat}{k k':IntKind}{n c:Nat}(h2:n<=c)(h3:by_*c<=281474976710656)(h4:c<=9223372036854775807):
  ot 1 by_ ty (.int .i64 0) (.int k (n:Int)) (.int k' (c:Int)) d fr hp K=K (ae (cx d fr) d (.ms d n)) (Qi hp d ⟨1,ty,pY (List.replicate n 0),false⟩):=by
 rw[PC (by omega) (by omega) (by omega) (by omega)]
 simp[pY]
theorem Ou(a b:Nat):max (a:Int) (b:Int)=((max a b:Nat):Int):=by omega
end Go.FW
namespace Go.FW
open Go
variable {C : Ctx} {fr : Fr} {hp : HP} {w : World} {K R : Qh}
theorem abz{α:Type}{done:List α}{i n:Nat}{v z:α}(h:done.length=i)(hn:0<n):(done++List.replicate n z).set i v=(done++[v])++List.replicate (n-1) z:=by
 obtain⟨m,rfl⟩:∃m,n=m+1:=⟨n-1,by omega⟩
 subst h;simp[KbH]
theorem IL{g:Int->Int->Int}{a b:List Int}{i:Nat}(h:i<max a.length b.length):(ks g a b).take (i+1)=(ks g a b).take i++[g (eN a i) (eN b i)]:=by
 rw[Kak (by rw[pK];exact h)]
 simp[ks]
end Go.FW
namespace Go.FW
open Go
abbrev Tm:=Rat×List Int
abbrev PV.term(t:Tm):PV:= .agg [.bool (decide (t.1.num<0)),PV.num t.1.num.natAbs,PV.num t.1.den,PV.mono t.2]
abbrev PV.aM(p:List Tm):PV:= .sl 4 (p.map PV.term)
abbrev PV.arA(l:List (List Tm)):PV:= .sl 1 (l.map PV.aM)
def aN:List Tm->List Tm->List Tm
 | [],q=>q
 |p,[]=>p
 |(c,m)::p,(d,l)::q=>
  if 0<aX m l then(c,m)::aN p ((d,l)::q)
  else if aX m l<0 then(d,l)::aN ((c,m)::p) q
  else if c+d=0 then aN p q else(c+d,m)::aN p q
termination_by p q=>p.length+q.length
theorem nD(p:List Tm):aN p []=p:=by cases p<;>rw[aN];simp
theorem wU(p:List Tm):aN [] p=p:=by rw[aN]
structure TB(K E:Nat)(t:Tm):Prop where
 c:rs t.1+1<=K
 m:MB E t.2
 l:t.2.getLast? ≠some 0
def PB(K E:Nat)(p:List Tm):Prop:=∀t∈p,TB K E t
theorem TB.mono{K K' E E':Nat}{t:Tm}(h:TB K E t)(hK:K<=K')(hE:E<=E'):TB K' E' t:=⟨Kao h.c hK,h.m.mono hE,h.l⟩
theorem PB.mono{K K' E E':Nat}{p:List Tm}(h:PB K E p)(hK:K<=K')(hE:E<=E'):PB K' E' p:=fun t ht=>(h t ht).mono hK hE
theorem PB.nil(K E:Nat):PB K E []:=fun t ht=>by cases ht
theorem PB.cons{K E:Nat}{t:Tm}{p:List Tm}:PB K E (t::p)↔TB K E t/\PB K E p:=by simp[PB]
theorem PB.drop{K E:Nat}{p:List Tm}(h:PB K E p)(n:Nat):PB K E (p.drop n):=fun t ht=>h t (KbM ht)
theorem PB.take{K E:Nat}{p:List Tm}(h:PB K E p)(n:Nat):PB K E (p.take n):=fun t ht=>h t (Kbf ht)
theorem PB.get{K E:Nat}{p:List Tm}(h:PB K E p){i:Nat}(hi:i<p.length):TB K E p[i]:=h _ (Kai hi)
theorem H2:∀(p q:List Tm),(aN p q).length<=p.length+q.length:=by
 intro p q
 induction p,q using aN.induct with
 |case1 q=>rw[aN];simp
 |case2 p h=>rw[nD];simp
 |case3 c m p d l q h ih=>rw[aN,if_pos h];simp at ih ⊢;omega
 |case4 c m p d l q h1 h2 ih=>rw[aN,if_neg h1,if_pos h2];simp at ih ⊢;omega
 |case5 c m p d l q h1 h2 h3 ih=>rw[aN,if_neg h1,if_neg h2,if_pos h3];simp at ih ⊢;omega
 |case6 c m p d l q h1 h2 h3 ih=>rw[aN,if_neg h1,if_neg h2,if_neg h3];simp at ih ⊢;omega
theorem JR{K L E:Nat}:∀(p q:List Tm),PB K E p->PB L E q->PB (K+L) E (aN p q):=by
 intro p q
 induction p,q using aN.induct with
 |case1 q=>rw[aN];exact fun _ h=>h.mono (by omega) (by omega)
 |case2 p h=>rw[nD];exact fun h _=>h.mono (by omega) (by omega)
 |case3 c m p d l q h ih=>
  intro hp hq
  rw[aN,if_pos h]
  rw[PB.cons]at hp⊢
  exact⟨hp.1.mono (by omega) (by omega),ih hp.2 hq⟩
 |case4 c m p d l q h1 h2 ih=>
  intro hp hq
  rw[aN,if_neg h1,if_pos h2]
  rw[PB.cons]at hq⊢
  exact⟨hq.1.mono (by omega) (by omega),ih hp hq.2⟩
 |case5 c m p d l q h1 h2 h3 ih=>
  intro hp hq
  rw[aN,if_neg h1,if_neg h2,if_pos h3]
  rw[PB.cons]at hp hq
  exact ih hp.2 hq.2
 |case6 c m p d l q h1 h2 h3 ih=>
  intro hp hq
  rw[aN,if_neg h1,if_neg h2,if_neg h3]
  rw[PB.cons]at hp hq⊢
  refine⟨⟨?_,hp.1.m,hp.1.l⟩,ih hp.2 hq.2⟩
  have:=ki c d
  have:=hp.1.c
  have:=hq.1.c
  simp only at *;omega
def eJ(l:List (List Tm)):List Tm:=
 match l with
 | []=>[]
 | [p]=>p
 |p::q::r=>aN (eJ ((p::q::r).take ((p::q::r).length/2))) (eJ ((p::q::r).drop ((p::q::r).length/2)))
termination_by l.length
decreasing_by
 all_goals simp[KaI,Ka7];omega
theorem AX{l:List (List Tm)}(h:2<=l.length):eJ l=aN (eJ (l.take (l.length/2))) (eJ (l.drop (l.length/2))):=by
 match l,h with
 |p::q::r,_=>rw[eJ]
def pZ(l:List (List Tm)):Nat:=(l.map List.length).sum
theorem SG(l:List (List Tm))(n:Nat):pZ (l.take n)+pZ (l.drop n)=pZ l:=by
 unfold pZ
 rw[<-List.sum_append,<-List.map_append,Kbx]
theorem DW{K E:Nat}:∀(n:Nat)(l:List (List Tm)),l.length<=n->(∀p∈l,PB K E p)->PB (l.length*K) E (eJ l)/\(eJ l).length<=pZ l:=by
 intro n
 induction n with
 |zero=>
  intro l hl _
  have:l=[]:=KaE.1 (by omega)
  subst this
  rw[eJ];exact⟨PB.nil _ _,by simp⟩
 | succ n ih=>
  intro l hl h
  match l,h with
  | [],_=>rw[eJ];exact⟨PB.nil _ _,by simp⟩
  | [p],h=>rw[eJ];exact⟨by simpa using h p (by simp),by simp[pZ]⟩
  | p::q::r,h=>
   rw[AX (by simp)]
   generalize hL:p::q::r=L at *
   have hlen:2<=L.length:=by rw[<-hL];simp
   obtain⟨a1,a2⟩:=ih (L.take (L.length/2)) (by rw[KaI];omega) (fun x hx=>h x (Kbf hx))
   obtain⟨b1,b2⟩:=ih (L.drop (L.length/2)) (by rw[Ka7];omega) (fun x hx=>h x (KbM hx))
   have hs:=SG L (L.length/2)
   constructor
   ·have e:(L.take (L.length/2)).length*K+(L.drop (L.length/2)).length*K=L.length*K:=by
     rw[<-Nat.add_mul,KaI,Ka7];congr 1;omega
    rw[<-e];exact JR _ _ a1 b1
   ·have:=H2 (eJ (L.take (L.length/2))) (eJ (L.drop (L.length/2)))
    omega
def bQ(p:List Tm)(t:Tm):List Tm:=p.filterMap fun x=>if x.1*t.1=0 then none else some (x.1*t.1,bp x.2 t.2)
theorem wK(p:List Tm)(t:Tm):(bQ p t).length<=p.length:=KcY _ _
theorem yP{K L E F:Nat}{p:List Tm}{t:Tm}(hp:PB K E p)(ht:TB L F t):PB (K+L) (E+F) (bQ p t):=by
 intro x hx
 simp only[bQ,Kb4]at hx
 obtain⟨y,hy,h⟩:=hx
 split at h
 ·cases h
 ·cases h
  have g:=hp y hy
  refine⟨?_,g.m.mul ht.m,qB _ _⟩
  have:=eX y.1 t.1
  have:=g.c
  have:=ht.c
  simp only;omega
def sh(p q:List Tm):List Tm:=eJ (p.map (bQ q))
def fy(p q:List Tm):List Tm:=if q.length<p.length then sh q p else sh p q
theorem HO(p q:List Tm):pZ (p.map (bQ q))<=p.length*q.length:=by
 unfold pZ
 induction p with
 |nil=>simp
 |cons t p ih=>
  have:=wK q t
  simp only[Kbd,KcR,KaP,KaJ,KcK];omega
theorem Rs{K L E F:Nat}{p q:List Tm}(hp:PB K E p)(hq:PB L F q):PB (p.length*(K+L)) (E+F) (sh p q)/\(sh p q).length<=p.length*q.length:=by
 obtain⟨h1,h2⟩:=DW (K:=K+L) (E:=E+F) _ (p.map (bQ q)) (Kaf _) (fun x hx=>by
  obtain⟨t,ht,rfl⟩:=Kau.1 hx
  exact(yP hq (hp t ht)).mono (by omega) (by omega))
 rw[Kap]at h1
 exact⟨h1,Kao h2 (HO p q)⟩
theorem SH{K L E F:Nat}{p q:List Tm}(hp:PB K E p)(hq:PB L F q):PB (min p.length q.length*(K+L)) (E+F) (fy p q)/\(fy p q).length<=p.length*q.length:=by
 unfold fy
 split
 ·rename_i h
  obtain⟨h1,h2⟩:=Rs hq hp
  rw[Kc9 (by omega),KbO K,KbO E,KaR p.length];exact⟨h1,h2⟩
 ·rename_i h
  obtain⟨h1,h2⟩:=Rs hp hq
  rw[Kb3 (by omega)];exact⟨h1,h2⟩
theorem AY(x y:Tm)(p q:List Tm):aN (x::p) (y::q)=if 0<aX x.2 y.2 then x::aN p (y::q)else if aX x.2 y.2<0 then y::aN (x::p) q else if x.1+y.1=0 then aN p q else(x.1+y.1,x.2)::aN p q:=by
 obtain⟨c,m⟩:=x
 obtain⟨d,l⟩:=y
 rw[aN]
theorem LS{p q:List Tm}{i k:Nat}(hi:i<p.length)(hk:k<q.length):aN (p.drop i) (q.drop k)=if 0<aX p[i].2 q[k].2 then p[i]::aN (p.drop (i+1)) (q.drop k)else if aX p[i].2 q[k].2<0 then q[k]::aN (p.drop i) (q.drop (k+1))else if p[i].1+q[k].1=0 then aN (p.drop (i+1)) (q.drop (k+1))else(p[i].1+q[k].1,p[i].2)::aN (p.drop (i+1)) (q.drop (k+1)):=by
 rw[Kaw hi,Kaw hk,AY]
theorem BH(a b:List Int):kt 0 a b=aX a b:=by simp[kt]
theorem Iv{a b:List Int}(h1:¬0<aX a b)(h2:¬aX a b<0)(ha:a.getLast? ≠some 0)(hb:b.getLast? ≠some 0):a=b:=(BE ha hb).1 (by omega)
theorem I':PV.le .al (PV.aM []):=trivial
theorem IM{p:List Tm}(h:p=[]):PV.le .al (PV.aM p):=by subst h;trivial
section
variable {C : Ctx} {fr : Fr} {hp : HP} {w : World} {K R : Qh}
theorem adw{e by_ ty d:Nat}{z:PV}{k k':IntKind}{Cc:Int}(h0:0<e)(hz:z.cells.length=e)(h2:0<=Cc)(h3:by_*Cc<=281474976710656)(h4:Cc<=9223372036854775807):
  ot e by_ ty z (.int k 0) (.int k' Cc) d fr hp K=K (ae (cx d fr) d (.ms d 0)) (Qi hp d ⟨e,ty,[],false⟩):=Dj h0 hz (by omega) h2 h3 h4
end
end Go.FW
namespace Go.FW
open Go
def jP(p:List Tm)(a:Rat):List Tm:=if a=0 then []else bQ p (a,[])
def LC(p:List Tm):List Tm:=jP p (-1)
def LD(p q:List Tm):List Tm:=aN p (LC q)
def rY(a:Rat):List Tm:=if a=0 then []else [(a,[])]
def Wj(v:Nat):List Int:=List.replicate v 0++[1]
def fL(v:Int):List Tm:=if v<0∨64<=v then []else [(1,Wj v.toNat)]
theorem TB.num{a:Rat}{K E:Nat}(h:rs a+1<=K):TB K E (a,[]):=⟨h,⟨by simp,by simp,by simp⟩,by simp⟩
theorem LU{p:List Tm}{a:Rat}{K E L:Nat}(hp:PB K E p)(ha:rs a+1<=L):PB (K+L) E (jP p a):=by
 unfold jP;split
 ·exact PB.nil _ _
 ·exact(yP (F:=0) hp (TB.num ha)).mono (by omega) (by omega)
theorem Rc(p:List Tm)(a:Rat):(jP p a).length<=p.length:=by
 unfold jP;split
 ·simp
 ·exact wK _ _
theorem Dn:rs (-1)<=1:=by
 have:rs (-1)=max (nl 1) (nl 1):=rfl
 rw[this,vf];omega
theorem lO:rs 1<=1:=by
 have:rs 1=max (nl 1) (nl 1):=rfl
 rw[this,vf];omega
theorem sj:rs 0<=1:=by
 have:rs 0=max (nl 0) (nl 1):=rfl
 rw[this,vf,w8];omega
theorem ae4{p:List Tm}{K E:Nat}(hp:PB K E p):PB (K+2) E (LC p):=LU hp (by have:=Dn;omega)
def nS(s t:Tm):Int:=if aX s.2 t.2≠0 then aX s.2 t.2 else oT s.1 t.1
def je:List Tm->List Tm->Int
 | [],[]=>0
 | [],_::_=> -1
 |_::_,[]=>1
 |s::p,t::q=>if nS s t≠0 then nS s t else je p q
theorem ae5{s t:Tm}(hs:s.2.getLast? ≠some 0)(ht:t.2.getLast? ≠some 0):nS s t=0↔s=t:=by
 unfold nS
 constructor
 ·intro h
  split at h
  ·omega
  ·rename_i h1
   have e1:=(BE hs ht).1 (Decidable.not_not.1 h1)
   exact Prod.ext (El.1 h) e1
 ·rintro rfl
  rw[if_neg (by simp[En]),El.2 rfl]
theorem JS:∀ {p q:List Tm},(∀t∈p,t.2.getLast? ≠some 0)->(∀t∈q,t.2.getLast? ≠some 0)->(je p q=0↔p=q)
 | [],[],_,_=>by simp[je]
 | [],_::_,_,_=>by simp[je]
 |_::_,[],_,_=>by simp[je]
 | s::p,t::q,hp,hq=>by
  rw[je]
  have h1:=ae5 (hp s (by simp)) (hq t (by simp))
  have h2:=JS (p:=p) (q:=q) (fun x hx=>hp x (by simp[hx])) (fun x hx=>hq x (by simp[hx]))
  split
  ·rename_i h
   simp only[Kc1]
   exact⟨fun h'=>absurd h' h,fun h'=>absurd (h1.2 h'.1) h⟩
  ·rename_i h
   rw[h2,Kc1,<-h1]
   exact⟨fun h'=>⟨Decidable.not_not.1 h,h'⟩,fun h'=>h'.2⟩
theorem LV{p q:List Tm}{i:Nat}(hi:i<p.length)(hk:i<q.length):je (p.drop i) (q.drop i)=if nS p[i] q[i]≠0 then nS p[i] q[i]else je (p.drop (i+1)) (q.drop (i+1)):=by
 rw[Kaw hi,Kaw hk,je]
theorem Bl{q:List Tm}:je [] q=if q.length=0 then 0 else -1:=by cases q<;>simp[je]
theorem PB.last{K E:Nat}{p:List Tm}(h:PB K E p):∀t∈p,t.2.getLast? ≠some 0:=fun t ht=>(h t ht).l
def jU(p:List Tm):Int:=p.foldl (fun d t=>max d (dj t.2)) (-1)
theorem Fk{E:Nat}{a:List Int}(h:MB E a):0<=dj a/\dj a<=64*E:=by
 have key:∀(l:List Int),(∀x∈l,0<=x)->(∀x∈l,x<=E)->0<=l.sum/\l.sum<=l.length*E:=by
  intro l
  induction l with
  |nil=>simp
  |cons x l ih=>
   intro h1 h2
   obtain⟨a1,a2⟩:=ih (fun y hy=>h1 y (by simp[hy])) (fun y hy=>h2 y (by simp[hy]))
   have b1:=h1 x (by simp)
   have b2:=h2 x (by simp)
   rw[KcR,KaP]
   push_cast
   rw[Int.add_mul];omega
 obtain⟨h1,h2⟩:=key a h.lo h.hi
 refine⟨h1,Int.le_trans h2 (Int.mul_le_mul_of_nonneg_right ?_ (by omega))⟩
 have:=h.len;omega
structure a9 where
 n:Bool
 a:List Nat
 d:List Nat
 m:List Int
abbrev PV.qw(t:a9):PV:= .agg [.bool t.n,PV.nat t.a,PV.nat t.d,PV.mono t.m]
abbrev PV.lG(l:List a9):PV:= .sl 4 (l.map PV.qw)
def a9.q(t:a9):Rat:=rv t.n t.a t.d
def a9.tm(t:a9):Tm:=(t.q,t.m)
structure RB(k:Nat)(t:a9):Prop where
 r:Qj t.a/\Qj t.d/\t.a.length<=k/\t.d.length<=k
 l:t.m.length<2^40
def fq(t:a9):Bool:=kj t.n t.a t.d&&(decide (t.q≠0)&&cD t.m)
def dk:List a9->Bool
 | []=>true
 | [t]=>fq t
 |s::t::l=>fq s&&(decide (0<aX s.m t.m)&&dk (t::l))
theorem Ja:∀(l:List a9),dk l=true↔(∀i (h:i<l.length),fq l[i]=true)/\(∀i (h:i+1<l.length),0<aX l[i].m l[i+1].m)
 | []=>by simp[dk]
 | [t]=>by
  rw[dk]
  constructor
  ·intro h;exact⟨fun i hi=>by have:i=0:=(by simp at hi;omega);subst this;exact h,fun i hi=>by simp at hi⟩
  ·intro h;exact h.1 0 (by simp)
 | s::t::l=>by
  rw[dk,Kar,Kar,decide_eq_true_eq,Ja (t::l)]
  constructor
  ·rintro⟨h1,h2,h3,h4⟩
   refine⟨fun i hi=> ?_,fun i hi=> ?_⟩
   ·cases i with
    |zero=>exact h1
    |succ i=>exact h3 i (by simpa using hi)
   ·cases i with
    |zero=>exact h2
    |succ i=>exact h4 i (by simpa using hi)
  ·rintro⟨h1,h2⟩
   exact⟨h1 0 (by simp),h2 0 (by simp),fun i hi=>h1 (i+1) (by simpa using hi),fun i hi=>h2 (i+1) (by simpa using hi)⟩
theorem abA{s:a9}{l:List a9}(h:dk (s::l)=true):fq s=true/\dk l=true:=by
 cases l with
 |nil=>exact⟨h,rfl⟩
 |cons t l=>rw[dk,Kar,Kar]at h;exact⟨h.1,h.2.2⟩
structure TV(t:Tm):Prop where
 c:t.1≠0
 m:cD t.2=true
def jB:List Tm->Prop
 | []=>True
 |s::p=>(∀t∈p,0<aX s.2 t.2)/\jB p
structure pJ(p:List Tm):Prop where
 t:∀t∈p,TV t
 s:jB p
theorem adx{t:a9}{k:Nat}(hb:RB k t)(h:fq t=true):PV.qw t=PV.term t.tm/\TV t.tm:=by
 simp only[fq,Kar,decide_eq_true_eq]at h
 obtain⟨h1,h2,h3⟩:=h
 obtain⟨e1,e2,e3⟩:=ND hb.r.1 hb.r.2.1 h1
 refine⟨?_,h2,h3⟩
 rw[PV.qw,PV.term,a9.tm,a9.q,<-e1,PV.num,PV.num,<-e2,<-e3]
theorem yE{a b c:List Int}(h1:0<aX a b)(h2:0<aX b c):0<aX a c:=by
 have e1:=y4 a b
 have e2:=y4 b c
 have e3:=y4 a c
 have:=ZR (a:=c) (b:=b) (c:=a) (by omega) (by omega)
 omega
theorem Eo{k:Nat}:∀ {l:List a9},(∀t∈l,RB k t)->dk l=true->PV.lG l=PV.aM (l.map a9.tm)/\pJ (l.map a9.tm):=by
 intro l
 induction l with
 |nil=>intro _ _;exact⟨rfl,⟨by simp,trivial⟩⟩
 | cons s l ih=>
  intro hb h
  obtain⟨h1,h2⟩:=abA h
  obtain⟨e1,v1⟩:=adx (hb s (by simp)) h1
  obtain⟨e2,v2⟩:=ih (fun t ht=>hb t (by simp[ht])) h2
  refine⟨?_,⟨fun t ht=> ?_,?_,v2.s⟩⟩
  ·have e2':l.map PV.qw=(l.map a9.tm).map PV.term:=by injection e2
   show PV.sl 4 (PV.qw s::l.map PV.qw)=PV.sl 4 (PV.term s.tm::(l.map a9.tm).map PV.term)
   rw[e1,e2']
  ·simp only[Kbd,KaG]at ht
   rcases ht with rfl|ht
   ·exact v1
   ·exact v2.t t ht
  ·cases l with
   |nil=>intro t ht;simp at ht
   |cons u l=>
    rw[dk,Kar,Kar,decide_eq_true_eq]at h
    intro t ht
    rw[Kbd]at ht v2
    rcases KaG.1 ht with rfl|ht
    ·exact h.2.1
    ·exact yE h.2.1 (v2.s.1 t ht)
theorem yG{a:List Int}(h:cD a=true):a.getLast? ≠some 0:=by
 simp only[cD,Kar,decide_eq_true_eq]at h;exact h.2.1
variable {C : Ctx} {ρ : Nat -> Option Nat} {fr : Fr} {hp : HP} {w : World} {K R : Qh}
theorem Ov(s:Nat)(hd:(aO hp (fr s)).aL=true):Wk fr hp (ae fr s (aO hp (fr s))) (FW.bV hp (fr s).refs):=by
 rintro C tmps w ⟨ρ,hs⟩
 have hf:=hs.freeze (fr s).refs
 refine⟨ρ,hf.sz,hf.ext,hf.fp,hf.own,hf.inj,fun i=> ?_⟩
 unfold ae
 split
 ·rename_i hi;subst hi
  exact Qm.mu (rU hs (hs.cS i) (fun β h=>h) hd)
 ·exact hf.cS i
def xj(W:List (Nat×Nat))(F:Fr)(I:Nat->Fr->HP->Prop)(n:Nat):Qh:=fun aC hp'=>∃J cc m,Wk aC hp' (aR W J F) cc/\m<n/\I m J cc
theorem ady{W:List (Nat×Nat)}{F:Fr}{I:Nat->Fr->HP->Prop}{n:Nat}:KM (xj W F I n) (xj W F I n):=by
 rintro f f' hp hf ⟨J,cc,m,h1,h2,h3⟩
 exact⟨J,cc,m,hf.wk.trans h1,h2,h3⟩
theorem ZT{sk:List It}{W:List (Nat×Nat)}{F:Fr}{I:Nat->Fr->HP->Prop}{n:Nat}(h:eI R sk):eI R (.el (xj W F I n)::sk):=⟨h.1,.el ady h.2⟩
theorem fG{W:List (Nat×Nat)}{F J:Fr}{I:Nat->Fr->HP->Prop}{n:Nat}(m:Nat)(hl:m<n)(h:I m J hp):xj W F I n (aR W J F) hp:=⟨J,hp,m,Wk.refl _ _,hl,h⟩
theorem SI{W:List (Nat×Nat)}{F J:Fr}{I:Nat->Fr->HP->Prop}{n:Nat}(s m:Nat)(hs:pE W s=true)(hd:(aO hp (J s)).aL=true)(hl:m<n)(h:I m (ae J s (aO hp (J s))) (FW.bV hp (J s).refs)):xj W F I n (aR W J F) hp:=by
 have e:aR W J F s=J s:=by rw[PJ,if_pos hs]
 have hw:=Ov (fr:=aR W J F) (hp:=hp) s (by rw[e];exact hd)
 rw[e,OM hs]at hw
 exact⟨_,_,m,hw,hl,h⟩
theorem Nd{sk:List It}{x:SC}(cb:eI R sk)(W:List (Nat×Nat))(B:List Nat)(I:Nat->Fr->HP->Prop)(m0:Nat)(h0:I m0 fr hp)
  (h:∀m J hp,I m J hp->vc C R (.c x:: .el (xj W (bF B fr) I m)::sk) (aR W J (bF B fr)) hp):vc C R (.c (.loop x)::sk) fr hp:=by
 refine AU (fun m aC hp'=>∃J,aC=aR W J (bF B fr)/\I m J hp') m0 (Bk W B).wk ⟨fr,rfl,h0⟩ ?_
 rintro m _ hp' ⟨J,rfl,hI⟩
 refine mG cb.1 _ _ _ _ _ _ (Kaf _) (.c x (.el ?_ cb.2)) (cg.refl _) (h m J hp' hI)
 rintro f f' cc hf ⟨J2,rE,m2,e2,hl,h2⟩
 exact Ji hl (hf.wk.trans e2) ⟨J2,rfl,h2⟩
abbrev dg(a:List Nat)(i:Nat):Nat:=a.getD i 0
theorem xk{a:List Nat}(h:Qj a)(i:Nat):dg a i<65536:=by
 by_cases hi:i<a.length
 ·rw[dg,gD hi];exact ek h hi
 ·rw[dg,gE hi];omega
theorem yQ(a:List Nat)(i:Nat):val (a.drop i)=dg a i+65536*val (a.drop (i+1)):=by
 by_cases hi:i<a.length
 ·rw[mD hi,dg,gD hi]
 ·rw[dg,gE hi,Kan (by omega),Kan (by omega)];rfl
theorem Iw(a:List Nat)(i:Nat):val a=val (a.take i)+65536^i*val (a.drop i):=by
 by_cases hi:i<=a.length
 ·exact qA a i hi
 ·rw[Kac (by omega),Kan (by omega)];simp[val]
theorem WR{a:List Nat}(h:Qj a)(i:Nat):val (a.take i)<65536^i:=by
 by_cases hi:i<=a.length
 ·exact uM h i hi
 ·rw[Kac (by omega)]
  exact Kbu (pR h) (KaN (by omega) (by omega))
theorem QY(a:List Nat)(i:Nat):val (a.take (i+1))=val (a.take i)+65536^i*dg a i:=by
 by_cases hi:i<a.length
 ·rw[Ax hi,dg,gD hi]
 ·rw[dg,gE hi,Kac (by omega),Kac (by omega)];simp
theorem Rt{a b:List Nat}(ha:Qj a){i:Nat}(h:val (a.drop i)<val (b.drop i)):val a<val b:=by
 rw[Iw a i,Iw b i]
 have h1:=WR ha i
 have:65536^i*(val (a.drop i)+1)<=65536^i*val (b.drop i):=KaA _ h
 rw[Ka0]at this
 omega
theorem Ow{l:List Nat}{j v:Nat}(h:j<l.length):val (l.set j v)+65536^j*l[j]=val l+65536^j*v:=by
 have e:l.set j v=l.take j++v::l.drop (j+1):=List.set_eq_take_append_cons_drop.trans (by rw[if_pos h])
 have e2:=qA l j (by omega)
 rw[mD h]at e2
 rw[e,nB,KaI,Kb3 (by omega),val,e2,Ka0,Ka0]
 omega
theorem Ew(l:List Nat)(x:Nat):val (l++[x])=val l+65536^l.length*x:=by rw[nB];simp[val]
theorem ZU{l:List Nat}{j:Nat}(h:val (l.drop j)=0):dg l j=0:=by
 have:=yQ l j;omega
theorem aiA{bt:Bool}{n d:Nat}:ca .rem bt (.int .u64 (n:Int)) (.int .u64 65536) d fr hp K=K (ae fr d (.int .u64 ((n%65536:Nat):Int))) hp:=by
 rw[show(65536:Int)=((65536:Nat):Int)from rfl,qC (by omega)]
theorem aiB{bt:Bool}{n d:Nat}(h:n<18446744073709551616):ca .quo bt (.int .u64 (n:Int)) (.int .u64 65536) d fr hp K=K (ae fr d (.int .u64 ((n/65536:Nat):Int))) hp:=by
 rw[show(65536:Int)=((65536:Nat):Int)from rfl,BC (by omega) h]
theorem aew{bt:Bool}{n d:Nat}:ca .rem bt (.int .i64 (n:Int)) (.int .i64 65536) d fr hp K=K (ae fr d (.int .i64 ((n%65536:Nat):Int))) hp:=by
 rw[show(65536:Int)=((65536:Nat):Int)from rfl,qC (by omega)]
theorem aex{bt:Bool}{n d:Nat}(h:n<9223372036854775808):ca .quo bt (.int .i64 (n:Int)) (.int .i64 65536) d fr hp K=K (ae fr d (.int .i64 ((n/65536:Nat):Int))) hp:=by
 rw[show(65536:Int)=((65536:Nat):Int)from rfl,Fg (by omega) h]
theorem aiC(n:Nat):(n:Int)*65536=((n*65536:Nat):Int):=by omega
end Go.FW
namespace Go.FW
theorem LW{P x y V ai c q r M S T:Nat}(h1:S+P*x=M+P*r)(h2:M+P*(c+ai*(y+65536*V))=T)(h3:65536*q+r=x+ai*y+c):S+P*65536*(q+ai*V)=T:=by
 have e:P*(65536*q+r)=P*(x+ai*y+c):=by rw[h3]
 have a1:P*(c+ai*(y+65536*V))=P*c+P*(ai*y)+65536*(P*(ai*V)):=by
  rw[Ka0 ai,Ka0,Ka0,Kbi ai 65536,Kbi P 65536];omega
 have a2:P*65536*(q+ai*V)=65536*(P*q)+65536*(P*(ai*V)):=by
  rw[KaR P,Kbj,Ka0,Ka0]
 have a3:P*(65536*q+r)=65536*(P*q)+P*r:=by rw[Ka0,Kbi]
 have a4:P*(x+ai*y+c)=P*x+P*(ai*y)+P*c:=by rw[Ka0,Ka0]
 omega
theorem LX{l:List Nat}{i j v:Nat}(h:i≠j):dg (l.set i v) j=dg l j:=by
 simp[dg,Kad,List.getElem?_set_ne h]
open Go
variable {C : Ctx} {ρ : Nat -> Option Nat} {fr : Fr} {hp : HP} {w : World} {K R : Qh}
theorem SJ{x V d q:Nat}(hd:0<d)(h:q=V/d):(V%d*65536+x)/d+65536*q=(x+65536*V)/d/\(V%d*65536+x)%d=(x+65536*V)%d:=by
 subst h
 have e:x+65536*V=(V%d*65536+x)+d*(65536*(V/d)):=by
  have:=Kbl V d
  calc x+65536*V=x+65536*(d*(V/d)+V%d):=by rw[this]
   _=_:=by rw[Ka0,Kbi];omega
 rw[e,Kcu _ _ hd,Kcs]
 exact⟨rfl,rfl⟩
theorem aey(i e:Nat)(hi:fr i= .al):Wk fr hp (ae fr i (.sl e [])) hp:=by
 rintro C tmps w ⟨ρ,hs⟩
 refine⟨ρ,hs.sz,hs.ext,hs.fp,hs.own,hs.inj,fun j=> ?_⟩
 unfold ae
 split
 ·rename_i hj;subst hj
  have:=hs.cS j
  rw[hi]at this
  rw[Qm.yz this]
  exact Qp.nt _ _ _ (Kbv _)
 ·exact hs.cS j
theorem zk{sk:List It}{x:SC}(i e:Nat)(hi:fr i= .al)(h:vc C R (.c (.loop x)::sk) (ae fr i (.sl e [])) hp):vc C R (.c (.loop x)::sk) fr hp:=by
 rw[yK]at h⊢
 obtain⟨I,μ,⟨bJ,aA,h1,lh⟩,h2⟩:=h
 exact⟨I,μ,⟨bJ,aA,(aey i e hi).trans h1,lh⟩,h2⟩
end Go.FW
namespace Go.FW
open Go Go.ChangeShapes Go.WideShapes
section
variable {H : Type} {enc : TypeId × Value -> H} {P : Program} {w : World} {base : Nat} {spare : Nat -> Bool} {held : Bool}
structure He(dQ:DataW H->Nat):Prop where
 len:∀(elems spare:List (DataW H)),elems.length<=dQ (.slice elems spare)
 sl:∀(elems spare:List (DataW H))(d:DataW H),d∈elems->dQ d<=dQ (.slice elems spare)
 ag:∀(parts:List (DataW H))(d:DataW H),d∈parts->dQ d<=dQ (.agg parts)
def mL(enc:TypeId×Value->H)(P:Program)(dQ:DataW H->Nat)(N:Nat)(t:TypeId)(Q:List PV->Prop):Prop:=
 ∀(w:World)(base:Nat)(spare:Nat->Bool)(held:Bool)(fuel:Nat)(cs:List Value)(x:DataW H×List MemPlace),DataW.trod enc P w base spare held fuel t cs=some x->dQ x.1<=N->
  ∃ps,Q ps/\ps.length=cs.length/\∀(i:Nat)(p:PV),ps[i]? =some p->Qp w dL p (cs.getD i undef)
variable {dQ : DataW H -> Nat} {N : Nat}
theorem Ex{w:World}{p:PV}{v:Value}(h:Qp w dL p v):∀(i:Nat)(q:PV),[p][i]? =some q->Qp w dL q ([v].getD i undef):=by
 intro i q hq
 match i,hq with
 |0,hq=>simp at hq;subst hq;exact h
 |i+1,hq=>simp at hq
theorem mL.mono{t:TypeId}{Q Q':List PV->Prop}(h:mL enc P dQ N t Q)(hQ:∀ps,Q ps->Q' ps):mL enc P dQ N t Q':=
 fun w base spare held fuel cs x hx hn=>let⟨ps,h1,h2,h3⟩:=h w base spare held fuel cs x hx hn;⟨ps,hQ ps h1,h2,h3⟩
theorem LY{t:TypeId}{k:IntKind}(ht:P.underlying t=some (.int k)):mL enc P dQ N t fun ps=>∃n,ps=[.int k n]/\(Lit.int k n).wf=true:=by
 intro w base spare held fuel cs x hx _
 obtain⟨n,rfl,rfl,hw⟩:=DataW.trod_int ht hx
 exact⟨_,⟨n,rfl,hw⟩,rfl,Ex (.int k n)⟩
theorem ZV{t:TypeId}(ht:P.underlying t=some .bool):mL enc P dQ N t fun ps=>∃b,ps=[.bool b]:=by
 intro w base spare held fuel cs x hx _
 obtain⟨b,rfl,rfl⟩:=DataW.trod_bool ht hx
 exact⟨_,⟨b,rfl⟩,rfl,Ex (.bool b)⟩
theorem abB{t:TypeId}(ht:P.underlying t=some (.int .u16)):mL enc P dQ N t fun ps=>∃n:Nat,ps=[.int .u16 n]/\n<65536:=by
 refine(LY ht).mono ?_
 rintro ps ⟨n,rfl,hw⟩
 simp[Lit.wf,IntKind.min,IntKind.max,IntKind.signed,IntKind.bits]at hw
 obtain⟨m,rfl⟩:=KbQ hw.1
 exact⟨m,rfl,by omega⟩
theorem abC{t:TypeId}(ht:P.underlying t=some (.int .i64)):mL enc P dQ N t fun ps=>∃n:Int,ps=[.int .i64 n]/\ -9223372036854775808<=n/\n<=9223372036854775807:=by
 refine(LY ht).mono ?_
 rintro ps ⟨n,rfl,hw⟩
 simp[Lit.wf,IntKind.min,IntKind.max,IntKind.signed,IntKind.bits]at hw
 exact⟨n,rfl,by omega⟩
theorem DM{α:Type}[Inhabited α]{f:α->PV}{G:α->Prop}{t e:TypeId}(hB:He dQ)(ht:P.underlying t=some (.slice e))(fS:0<P.cellsOf e)
  (he:mL enc P dQ N e fun ps=>∃a:α,ps=(f a).cells/\G a):mL enc P dQ N t fun ps=>∃l:List α,ps=[.sl (P.cellsOf e) (l.map f)]/\l.length<=N/\∀a∈l,G a:=by
 intro w base spare held fuel cs x hx hn
 rcases Deep.open_slice ht hx with⟨rfl,rfl⟩|⟨a,len,cap,m,n,D,Pl,rfl,_,hl,hm,CL,rfl,cH⟩
 ·exact⟨_,⟨[],rfl,Kbv _,fun _ h=>by cases h⟩,rfl,Ex (.nt _ none 0 (Kbv _))⟩
 have CH:len<=m:=by rw[CL];split<;>omega
 obtain⟨A,hA⟩:=Deep.choose_lt (α:=α×List Value) (n:=len) (p:=fun i y=>w.cells? base (a.add (i*P.cellsOf e)) (P.cellsOf e)=some y.2/\G y.1/\(f y.1).cells.length=y.2.length/\∀(j:Nat)(p:PV),(f y.1).cells[j]? =some p->Qp w dL p (y.2.getD j undef)) (fun i hi=>by
  obtain⟨cs',h1,h2⟩:=cH i (by omega)
  have hd:D i∈(List.range len).map D:=KcC (Kbz.2 hi)
  obtain⟨_,⟨b,rfl,hG⟩,h3,h4⟩:=he w base spare held n cs' _ h2 (Kao (hB.sl _ _ _ hd) hn)
  exact⟨(b,cs'),h1,hG,h3,h4⟩)
 have hlen:=hB.len ((List.range len).map D) ((List.range (m-len)).map fun j=>D (len+j))
 simp only[Kap,List.length_range]at hlen hn
 refine⟨_,⟨(List.range len).map fun i=>(A i).1,rfl,by simp;omega,fun b hb=> ?_⟩,rfl,Ex ?_⟩
 ·obtain⟨i,hi,rfl⟩:=Kau.1 hb
  exact(hA i (Kbz.1 hi)).2.1
 ·rcases Nat.eq_zero_or_pos len with rfl|hp
  ·exact .nt _ _ _ hm
  have sp:a.spot=none:=by
   obtain⟨_,h2,h3⟩:=World.cells?_some (hA 0 hp).1
   have h4:=h3 0 fS
   rw[Kag (by omega)]at h4
   simpa[Addr.add]using World.cell?_spot h4
  obtain⟨b,off,spot⟩:=a
  have sp':spot=none:=sp
  subst sp'
  have pe:∀i,i<len->∀j,j<P.cellsOf e->w.cell? ⟨b,off+i*P.cellsOf e+j,none⟩=some ((A i).2.getD j undef):=fun i hi j hj=>by
   obtain⟨_,h2,h3⟩:=World.cells?_some (hA i hi).1
   have h4:=h3 j hj
   rw[Kag (by omega),add_plain,add_plain]at h4
   rw[h4];simp[Kad,Kag (show j<(A i).2.length by omega)]
  have e1:((List.range len).map fun i=>(A i).1).map f=(List.range len).map fun i=>f (A i).1:=by simp
  have e2:((List.range len).map fun i=>f (A i).1).length=len:=by simp
  have get:∀(i:Nat)(x:PV),((List.range len).map fun i=>f (A i).1)[i]? =some x->i<len/\x=f (A i).1:=fun i x hx=>by
   obtain⟨hi,h⟩:=Kae.1 hx
   rw[e2]at hi
   exact⟨hi,by simpa using h.symm⟩
  rw[e1]
  have:=Qp.sl (w:=w) (X:=dL) (P.cellsOf e) ((List.range len).map fun i=>f (A i).1) b off cap (fun i j=>(A i).2.getD j undef) (fun h=>h) (YR (pe 0 hp 0 fS)) (by rw[e2];exact hl) hm
   (fun i x hx=>by
    obtain⟨hi,rfl⟩:=get i x hx
    rw[(hA i hi).2.2.1];exact(World.cells?_some (hA i hi).1).2.1)
   (fun i hi j hj=>pe i (by rwa[e2]at hi) j hj)
   (fun i x hx j y hy=>by
    obtain⟨hi,rfl⟩:=get i x hx
    exact(hA i hi).2.2.2 j y hy)
  rwa[e2]at this
theorem Dy{t:TypeId}{f0 f1:Field}{Q0 Q1:List PV->Prop}(hB:He dQ)(ht:P.underlying t=some (.struct #[f0,f1]))(h0:f0.offset=0)(h1:f1.offset=P.cellsOf f0.type)(hc:P.cellsOf t=P.cellsOf f0.type+P.cellsOf f1.type)
  (r0:mL enc P dQ N f0.type Q0) (r1:mL enc P dQ N f1.type Q1):mL enc P dQ N t fun ps=>∃p q,ps=p++q/\Q0 p/\Q1 q:=by
 intro w base spare held fuel cs x hx hn
 obtain⟨y0,y1,n,rfl,hl,g0,g1⟩:=trod_struct2 ht hx
 obtain⟨p,hp,cc,rE⟩:=r0 _ _ _ _ _ _ _ g0 (Kao (hB.ag _ _ (by simp)) hn)
 obtain⟨q,hq,wj,Vh⟩:=r1 _ _ _ _ _ _ _ g1 (Kao (hB.ag _ _ (by simp)) hn)
 rw[h0]at cc rE
 rw[h1]at wj Vh
 simp only[Ka6,KaI,Ka7]at cc wj
 have lp:p.length=P.cellsOf f0.type:=by omega
 have lq:q.length=P.cellsOf f1.type:=by omega
 refine⟨_,⟨p,q,rfl,hp,hq⟩,by rw[Kax];omega,fun i v hv=> ?_⟩
 by_cases hi:i<p.length
 ·rw[Kby hi]at hv
  have:=rE i v hv
  rw[Ka6,Kad,KcH,if_pos (by omega)]at this
  rw[Kad];exact this
 ·rw[KbS (by omega)]at hv
  have:=Vh _ v hv
  have gj:i-p.length<q.length:=(Kae.1 hv).1
  rw[Kad,KcH,if_pos (by omega),Ka9,show P.cellsOf f0.type+(i-p.length)=i by omega]at this
  rw[Kad];exact this
theorem aez{r:Reach}{b0:Nat}{t:TypeId}{v:Value}{d:DataW H}{ps:List MemPlace}{Q:List PV->Prop}(hr:mL enc P dQ N t Q)(hd:DataW.Trod enc P w base spare held t v d ps)(hn:dQ d<=N)
  (hv:v.cells= #[v]):∃p,Q [p]/\bI w dL p v:=by
 obtain⟨fuel,hf⟩:=hd
 obtain⟨qs,h1,h2,h3⟩:=hr _ _ _ _ _ _ _ hf hn
 rw[hv]at h2 h3
 match qs,h2 with
 | [p],_=>exact⟨p,h1,bI.rN (by simpa using h3 0 p rfl)⟩
theorem LZ{r:Reach}{b0:Nat}{t e:TypeId}{v:Value}{d:DataW H}{ps:List MemPlace}{Q:List PV->Prop}(ht:P.underlying t=some (.slice e))(eR:Value.okWide P w r b0 t v)(hr:mL enc P dQ N t Q)(hd:DataW.Trod enc P w base spare held t v d ps)(hn:dQ d<=N):
  ∃p,Q [p]/\bI w dL p v:=by
 obtain⟨a,len,cap,rfl⟩:=okWide_slice ht eR
 exact aez (r:=r) (b0:=b0) hr hd hn rfl
theorem Ext.sameAt{W W':World}(h:Ext dL W W'){p:MemPlace}(hp:p.block<W.heap.size):W.sameAt W' p:=by
 cases p with
 |cell b off=>exact wL (h.block b hp (fun h=>h))
 |map b=>exact h.block b hp (fun h=>h)
theorem Ext.keptBut{W W':World}(h:Ext dL W W')(may:MemPlace->Prop):W.keptBut W' may:=by
 refine⟨h.os,h.output,fun i hi=> ?_⟩
 rw[h.block i hi (fun h=>h)]
 cases hh:W.heap[i]? with
 |none=>rfl
 |some o=>cases o with
  |cells c t fr=>exact⟨rfl,rfl,rfl,fun _ _=>rfl⟩
  |map es clock=>exact Or.inr ⟨rfl,rfl⟩
  |_=>rfl
theorem Ext.frozen{W W':World}(h:Ext dL W W'){a:Addr}(ha:a.block<W.heap.size):W'.frozen? a=W.frozen? a:=by
 unfold World.frozen?
 rw[h.block _ ha (fun h=>h)]
theorem Mo(hl:laidOutB P=true)(hm:mapsRowed P=true)(dV:∀ {t e:TypeId},t<P.types.size->P.underlying t=some (.slice e)->0<P.cellsOf e){W W':World}(hx:Ext dL W W')(sp:Nat->Bool):
  ∀ {ts:List TypeId} {vs:List Value} {ds:List (DataW H)} {ps:List MemPlace},(∀t∈ts,t<P.types.size)->DataW.TrodAll enc P W 0 (fun _=>true) true ts vs ds ps->(∀p∈ps,sp p.block=true)->DataW.TrodAll enc P W' 0 sp true ts vs ds ps
 | [],_,_,_,_,h,_=>by
  obtain⟨rfl,rfl,rfl⟩:=trodAll_nil h
  rfl
 |t::ts,_,_,_,mf,h,hs=>by
  obtain⟨v,vs,d,ds,p,q,rfl,rfl,rfl,⟨fuel,h1⟩,h2⟩:=trodAll_cons h
  refine⟨p,q,⟨fuel,?_⟩,Mo hl hm dV hx sp (fun t ht=>mf t (by simp[ht])) h2 (fun x aV=>hs x (by simp[aV])),rfl⟩
  exact DataW.trod_stays (kids_rows hl hm) dV (fun h=>by cases h) (mf t (by simp)) h1 (fun x aV=>hx.sameAt (DataW.trod_lt _ _ _ _ h1 x aV)) (fun x aV=>hs x (by simp[aV]))
theorem WS{f:FuncId}{fn:Func}{s:ChangeSpec}{ap fresh handsOn zx:Bool}{W:World}{args:Array Value}{ds gs:List (DataW H)}{before:List MemPlace}{aZ:List PV}{tb:TypeId}
  (hW:DataW.Whole enc P fn.params.toList s.vars ap W args.toList ds gs before) (CT:s.vars=[]) (gy:fn.resultTypes= #[tb]) (GM:P.underlying tb=some .bool)
  (hl:laidOutB P=true) (hm:mapsRowed P=true) (dV:∀ {t e:TypeId},t<P.types.size->P.underlying t=some (.slice e)->0<P.cellsOf e) (GC:∀t∈fn.params.toList,t<P.types.size)
  (Cy:s.fn H (ds++gs)={ results:=[.lit (.bool true)],args:=ds })
  (hF:Qd P f aZ (· = .bool true)) (Li:args.size=aZ.length) (gw:∀(i:Nat)(x:PV),aZ[i]? =some x->bI W dL x (args.getD i undef)):
  Calls P f args W fun e W'=>∃v,e= .returned v/\s.post enc P fn ap fresh handsOn zx W args v W':=by
 refine(hF.2 W dL args (fun _ h=>h.elim) Li gw).mono ?_
 rintro e W' ⟨v,r,rfl,hx,hr,rfl⟩
 have hv:v= .bool true:=by cases hr;rfl
 subst hv
 refine⟨_,rfl,?_⟩
 have Co:=hW
 obtain⟨p,q,hA,hV,rfl,hz,hn⟩:=hW
 rw[CT]at hV
 obtain⟨rfl,rfl⟩:=trodVars_none hV
 simp only[Kam]at Co hz hn
 have au:∀x∈p,x.block<W.heap.size:=fun x aV=>by simpa using Co.lt x aV
 have Cb:∀sp:Nat->Bool,(∀x∈p,sp x.block=true)->DataW.TrodAll enc P W' 0 sp true fn.params.toList args.toList ds p:=fun sp hs=>Mo hl hm dV hx sp GC hA hs
 have hR:∀(b:Nat)(sp:Nat->Bool)(hd:Bool),DataW.TrodAll enc P W' b sp hd fn.resultTypes.toList ((Value.bool true).resultList fn.resultTypes.size) [.lit (.bool true)] []:=fun b sp hd=>by
  rw[gy]
  exact trodAll_mk1 ⟨1,by simp[DataW.trod,Value.cells,GM]⟩
 have hold:∀x∈p,(fun b=>decide (b<W.heap.size)) x.block=true:=fun x aV=>by simpa using au x aV
 refine⟨ds,[],p,[],p,[],Co,?_,?_,?_,hx.keptBut _,fun _=>⟨?_,?_⟩⟩
 ·rw[Cy];exact hR _ _ _
 ·rw[Cy];simpa using Cb _ hold
 ·rw[Cy,CT];rfl
 ·exact RowKit.ok_one gy rfl (RowKit.okWide_bool_mk GM _)
 ·refine⟨[.lit (.bool true)]++ds,[],p,⟨[]++p,[],trodAll_append (Cb _ (fun _ _=>rfl)) (hR _ _ _),?_,by simp,?_,?_⟩,?_⟩
  ·rw[CT];rfl
  ·intro b off hp
   rw[hx.frozen (au _ hp)]
   exact hz b off hp
  ·exact hn
  ·intro x aV _
   exact aV
end
end Go.FW
namespace Go.FW
open Go
attribute [go_sem ↓] vcs arq
attribute [go_sem] art aru arv aiV aiW aiX aiY adp adq ak0 ak1 X6 adr aeW al2 al3 al4 al5 abx X8 List.drop_succ_cons List.drop_zero List.take_succ_cons List.take_zero List.headD_cons List.cons_append List.nil_append abw ao2 ao1 ads aeX aeY and_true List.length_cons List.length_nil aiL aiM aiN B0 aeH aa9 aeO adl adm adn ado aeP aiF aiG ac3 aeR aeS akT aiH aiI aiJ PG aiK ah8 bs1 bs2 aia aeL aeM aeN aiE Nat.add_zero Rm aba L8 Int.toNat_natCast Nat.zero_add Option.map_some Option.map_none akW aiS akZ true_and PJ acB abq Wt fX IY EH aeT Bool.and_true Bool.true_and Bool.and_false Bool.false_and decide_true decide_false List.contains_cons List.contains_nil Bool.or_false Bool.false_or Bool.or_true Bool.true_or List.any_cons List.any_nil Bool.false_eq_true cu.dst w6 acS tu EE aed Bool.not_true Bool.not_false List.length_map List.map_cons List.map_nil akY Option.some.injEq jT List.getElem?_cons_zero List.getElem?_cons_succ Option.getD_some
attribute [go_sem] aiA aiB aew aex aiC adw ak3 Xy ai0 Ou
theorem Dz0{p:Prop}(h:p:=by first|omega|rfl|(simp+decide only[go_sem]<;>rfl)|fail):p:=h
theorem Dz1{p A0:Prop}(x0:A0)(h:A0->p:=by intro x0;first|omega|rfl|(simp+decide only[go_sem,x0]<;>rfl)|fail):p:=h x0
theorem Dz2{p A0 A1:Prop}(x0:A0)(x1:A1)(h:A0->A1->p:=by intro x0 x1;first|omega|rfl|(simp+decide only[go_sem,x0,x1]<;>rfl)|fail):p:=h x0 x1
theorem Dz3{p A0 A1 A2:Prop}(x0:A0)(x1:A1)(x2:A2)(h:A0->A1->A2->p:=by intro x0 x1 x2;first|omega|rfl|(simp+decide only[go_sem,x0,x1,x2]<;>rfl)|fail):p:=h x0 x1 x2
theorem Dz4{p A0 A1 A2 A3:Prop}(x0:A0)(x1:A1)(x2:A2)(x3:A3)(h:A0->A1->A2->A3->p:=by intro x0 x1 x2 x3;first|omega|rfl|(simp+decide only[go_sem,x0,x1,x2,x3]<;>rfl)|fail):p:=h x0 x1 x2 x3
theorem Dz5{p A0 A1 A2 A3 A4:Prop}(x0:A0)(x1:A1)(x2:A2)(x3:A3)(x4:A4)(h:A0->A1->A2->A3->A4->p:=by intro x0 x1 x2 x3 x4;first|omega|rfl|(simp+decide only[go_sem,x0,x1,x2,x3,x4]<;>rfl)|fail):p:=h x0 x1 x2 x3 x4
theorem Dz6{p A0 A1 A2 A3 A4 A5:Prop}(x0:A0)(x1:A1)(x2:A2)(x3:A3)(x4:A4)(x5:A5)(h:A0->A1->A2->A3->A4->A5->p:=by intro x0 x1 x2 x3 x4 x5;first|omega|rfl|(simp+decide only[go_sem,x0,x1,x2,x3,x4,x5]<;>rfl)|fail):p:=h x0 x1 x2 x3 x4 x5
theorem Dz7{p A0 A1 A2 A3 A4 A5 A6:Prop}(x0:A0)(x1:A1)(x2:A2)(x3:A3)(x4:A4)(x5:A5)(x6:A6)(h:A0->A1->A2->A3->A4->A5->A6->p:=by intro x0 x1 x2 x3 x4 x5 x6;first|omega|rfl|(simp+decide only[go_sem,x0,x1,x2,x3,x4,x5,x6]<;>rfl)|fail):p:=h x0 x1 x2 x3 x4 x5 x6
theorem Dz8{p A0 A1 A2 A3 A4 A5 A6 A7:Prop}(x0:A0)(x1:A1)(x2:A2)(x3:A3)(x4:A4)(x5:A5)(x6:A6)(x7:A7)(h:A0->A1->A2->A3->A4->A5->A6->A7->p:=by intro x0 x1 x2 x3 x4 x5 x6 x7;first|omega|rfl|(simp+decide only[go_sem,x0,x1,x2,x3,x4,x5,x6,x7]<;>rfl)|fail):p:=h x0 x1 x2 x3 x4 x5 x6 x7
theorem Dz9{p A0 A1 A2 A3 A4 A5 A6 A7 A8:Prop}(x0:A0)(x1:A1)(x2:A2)(x3:A3)(x4:A4)(x5:A5)(x6:A6)(x7:A7)(x8:A8)(h:A0->A1->A2->A3->A4->A5->A6->A7->A8->p:=by intro x0 x1 x2 x3 x4 x5 x6 x7 x8;first|omega|rfl|(simp+decide only[go_sem,x0,x1,x2,x3,x4,x5,x6,x7,x8]<;>rfl)|fail):p:=h x0 x1 x2 x3 x4 x5 x6 x7 x8
theorem Dz10{p A0 A1 A2 A3 A4 A5 A6 A7 A8 A9:Prop}(x0:A0)(x1:A1)(x2:A2)(x3:A3)(x4:A4)(x5:A5)(x6:A6)(x7:A7)(x8:A8)(x9:A9)(h:A0->A1->A2->A3->A4->A5->A6->A7->A8->A9->p:=by intro x0 x1 x2 x3 x4 x5 x6 x7 x8 x9;first|omega|rfl|(simp+decide only[go_sem,x0,x1,x2,x3,x4,x5,x6,x7,x8,x9]<;>rfl)|fail):p:=h x0 x1 x2 x3 x4 x5 x6 x7 x8 x9
theorem Dz11{p A0 A1 A2 A3 A4 A5 A6 A7 A8 A9 dO:Prop}(x0:A0)(x1:A1)(x2:A2)(x3:A3)(x4:A4)(x5:A5)(x6:A6)(x7:A7)(x8:A8)(x9:A9)(cw:dO)(h:A0->A1->A2->A3->A4->A5->A6->A7->A8->A9->dO->p:=by intro x0 x1 x2 x3 x4 x5 x6 x7 x8 x9 cw;first|omega|rfl|(simp+decide only[go_sem,x0,x1,x2,x3,x4,x5,x6,x7,x8,x9,cw]<;>rfl)|fail):p:=h x0 x1 x2 x3 x4 x5 x6 x7 x8 x9 cw
theorem Dz13{p A0 A1 A2 A3 A4 A5 A6 A7 A8 A9 dO iw jy:Prop}(x0:A0)(x1:A1)(x2:A2)(x3:A3)(x4:A4)(x5:A5)(x6:A6)(x7:A7)(x8:A8)(x9:A9)(cw:dO)(eh:iw)(fb:jy)(h:A0->A1->A2->A3->A4->A5->A6->A7->A8->A9->dO->iw->jy->p:=by intro x0 x1 x2 x3 x4 x5 x6 x7 x8 x9 cw eh fb;first|omega|rfl|(simp+decide only[go_sem,x0,x1,x2,x3,x4,x5,x6,x7,x8,x9,cw,eh,fb]<;>rfl)|fail):p:=h x0 x1 x2 x3 x4 x5 x6 x7 x8 x9 cw eh fb
theorem Dz14{p A0 A1 A2 A3 A4 A5 A6 A7 A8 A9 dO iw jy uJ:Prop}(x0:A0)(x1:A1)(x2:A2)(x3:A3)(x4:A4)(x5:A5)(x6:A6)(x7:A7)(x8:A8)(x9:A9)(cw:dO)(eh:iw)(fb:jy)(qx:uJ)(h:A0->A1->A2->A3->A4->A5->A6->A7->A8->A9->dO->iw->jy->uJ->p:=by intro x0 x1 x2 x3 x4 x5 x6 x7 x8 x9 cw eh fb qx;first|omega|rfl|(simp+decide only[go_sem,x0,x1,x2,x3,x4,x5,x6,x7,x8,x9,cw,eh,fb,qx]<;>rfl)|fail):p:=h x0 x1 x2 x3 x4 x5 x6 x7 x8 x9 cw eh fb qx
theorem Sz0{p q:Prop}(h:q)(e:p=q:=by conv=>lhs;simp+decide (disch:=try exact Dz0) only[go_sem]):p:=e▸h
theorem Tz0{p:Prop}(h:p:=by simp+decide (disch:=try exact Dz0) only[go_sem]):p:=h
theorem cP{p:Prop}(h:p:=by simp+decide (disch:=try exact Dz0) only[go_sem]<;>rfl):p:=h
theorem Sz1{p q A0:Prop}(x0:A0)(h:q)(e:A0->p=q:=by intro x0;conv=>lhs;simp+decide (disch:=try exact Dz1 @x0) only[go_sem,x0]):p:=(e x0)▸h
theorem Tz1{p A0:Prop}(x0:A0)(h:A0->p:=by intro x0;simp+decide (disch:=try exact Dz1 @x0) only[go_sem,x0]):p:=h x0
theorem Tzr1{p A0:Prop}(x0:A0)(h:A0->p:=by intro x0;simp+decide (disch:=try exact Dz1 @x0) only[go_sem,x0]<;>rfl):p:=h x0
theorem Sz2{p q A0 A1:Prop}(x0:A0)(x1:A1)(h:q)(e:A0->A1->p=q:=by intro x0 x1;conv=>lhs;simp+decide (disch:=try exact Dz2 @x0 @x1) only[go_sem,x0,x1]):p:=(e x0 x1)▸h
theorem Tz2{p A0 A1:Prop}(x0:A0)(x1:A1)(h:A0->A1->p:=by intro x0 x1;simp+decide (disch:=try exact Dz2 @x0 @x1) only[go_sem,x0,x1]):p:=h x0 x1
theorem Sz3{p q A0 A1 A2:Prop}(x0:A0)(x1:A1)(x2:A2)(h:q)(e:A0->A1->A2->p=q:=by intro x0 x1 x2;conv=>lhs;simp+decide (disch:=try exact Dz3 @x0 @x1 @x2) only[go_sem,x0,x1,x2]):p:=(e x0 x1 x2)▸h
theorem Tz3{p A0 A1 A2:Prop}(x0:A0)(x1:A1)(x2:A2)(h:A0->A1->A2->p:=by intro x0 x1 x2;simp+decide (disch:=try exact Dz3 @x0 @x1 @x2) only[go_sem,x0,x1,x2]):p:=h x0 x1 x2
theorem Sz4{p q A0 A1 A2 A3:Prop}(x0:A0)(x1:A1)(x2:A2)(x3:A3)(h:q)(e:A0->A1->A2->A3->p=q:=by intro x0 x1 x2 x3;conv=>lhs;simp+decide (disch:=try exact Dz4 @x0 @x1 @x2 @x3) only[go_sem,x0,x1,x2,x3]):p:=(e x0 x1 x2 x3)▸h
theorem Tz4{p A0 A1 A2 A3:Prop}(x0:A0)(x1:A1)(x2:A2)(x3:A3)(h:A0->A1->A2->A3->p:=by intro x0 x1 x2 x3;simp+decide (disch:=try exact Dz4 @x0 @x1 @x2 @x3) only[go_sem,x0,x1,x2,x3]):p:=h x0 x1 x2 x3
theorem Sz5{p q A0 A1 A2 A3 A4:Prop}(x0:A0)(x1:A1)(x2:A2)(x3:A3)(x4:A4)(h:q)(e:A0->A1->A2->A3->A4->p=q:=by intro x0 x1 x2 x3 x4;conv=>lhs;simp+decide (disch:=try exact Dz5 @x0 @x1 @x2 @x3 @x4) only[go_sem,x0,x1,x2,x3,x4]):p:=(e x0 x1 x2 x3 x4)▸h
theorem Tz5{p A0 A1 A2 A3 A4:Prop}(x0:A0)(x1:A1)(x2:A2)(x3:A3)(x4:A4)(h:A0->A1->A2->A3->A4->p:=by intro x0 x1 x2 x3 x4;simp+decide (disch:=try exact Dz5 @x0 @x1 @x2 @x3 @x4) only[go_sem,x0,x1,x2,x3,x4]):p:=h x0 x1 x2 x3 x4
theorem Sz6{p q A0 A1 A2 A3 A4 A5:Prop}(x0:A0)(x1:A1)(x2:A2)(x3:A3)(x4:A4)(x5:A5)(h:q)(e:A0->A1->A2->A3->A4->A5->p=q:=by intro x0 x1 x2 x3 x4 x5;conv=>lhs;simp+decide (disch:=try exact Dz6 @x0 @x1 @x2 @x3 @x4 @x5) only[go_sem,x0,x1,x2,x3,x4,x5]):p:=(e x0 x1 x2 x3 x4 x5)▸h
theorem Tz6{p A0 A1 A2 A3 A4 A5:Prop}(x0:A0)(x1:A1)(x2:A2)(x3:A3)(x4:A4)(x5:A5)(h:A0->A1->A2->A3->A4->A5->p:=by intro x0 x1 x2 x3 x4 x5;simp+decide (disch:=try exact Dz6 @x0 @x1 @x2 @x3 @x4 @x5) only[go_sem,x0,x1,x2,x3,x4,x5]):p:=h x0 x1 x2 x3 x4 x5
theorem Sz7{p q A0 A1 A2 A3 A4 A5 A6:Prop}(x0:A0)(x1:A1)(x2:A2)(x3:A3)(x4:A4)(x5:A5)(x6:A6)(h:q)(e:A0->A1->A2->A3->A4->A5->A6->p=q:=by intro x0 x1 x2 x3 x4 x5 x6;conv=>lhs;simp+decide (disch:=try exact Dz7 @x0 @x1 @x2 @x3 @x4 @x5 @x6) only[go_sem,x0,x1,x2,x3,x4,x5,x6]):p:=(e x0 x1 x2 x3 x4 x5 x6)▸h
theorem Sz8{p q A0 A1 A2 A3 A4 A5 A6 A7:Prop}(x0:A0)(x1:A1)(x2:A2)(x3:A3)(x4:A4)(x5:A5)(x6:A6)(x7:A7)(h:q)(e:A0->A1->A2->A3->A4->A5->A6->A7->p=q:=by intro x0 x1 x2 x3 x4 x5 x6 x7;conv=>lhs;simp+decide (disch:=try exact Dz8 @x0 @x1 @x2 @x3 @x4 @x5 @x6 @x7) only[go_sem,x0,x1,x2,x3,x4,x5,x6,x7]):p:=(e x0 x1 x2 x3 x4 x5 x6 x7)▸h
theorem Sz9{p q A0 A1 A2 A3 A4 A5 A6 A7 A8:Prop}(x0:A0)(x1:A1)(x2:A2)(x3:A3)(x4:A4)(x5:A5)(x6:A6)(x7:A7)(x8:A8)(h:q)(e:A0->A1->A2->A3->A4->A5->A6->A7->A8->p=q:=by intro x0 x1 x2 x3 x4 x5 x6 x7 x8;conv=>lhs;simp+decide (disch:=try exact Dz9 @x0 @x1 @x2 @x3 @x4 @x5 @x6 @x7 @x8) only[go_sem,x0,x1,x2,x3,x4,x5,x6,x7,x8]):p:=(e x0 x1 x2 x3 x4 x5 x6 x7 x8)▸h
theorem xp{p q A0 A1 A2 A3 A4 A5 A6 A7 A8 A9:Prop}(x0:A0)(x1:A1)(x2:A2)(x3:A3)(x4:A4)(x5:A5)(x6:A6)(x7:A7)(x8:A8)(x9:A9)(h:q)(e:A0->A1->A2->A3->A4->A5->A6->A7->A8->A9->p=q:=by intro x0 x1 x2 x3 x4 x5 x6 x7 x8 x9;conv=>lhs;simp+decide (disch:=try exact Dz10 @x0 @x1 @x2 @x3 @x4 @x5 @x6 @x7 @x8 @x9) only[go_sem,x0,x1,x2,x3,x4,x5,x6,x7,x8,x9]):p:=(e x0 x1 x2 x3 x4 x5 x6 x7 x8 x9)▸h
theorem Tz10{p A0 A1 A2 A3 A4 A5 A6 A7 A8 A9:Prop}(x0:A0)(x1:A1)(x2:A2)(x3:A3)(x4:A4)(x5:A5)(x6:A6)(x7:A7)(x8:A8)(x9:A9)(h:A0->A1->A2->A3->A4->A5->A6->A7->A8->A9->p:=by intro x0 x1 x2 x3 x4 x5 x6 x7 x8 x9;simp+decide (disch:=try exact Dz10 @x0 @x1 @x2 @x3 @x4 @x5 @x6 @x7 @x8 @x9) only[go_sem,x0,x1,x2,x3,x4,x5,x6,x7,x8,x9]):p:=h x0 x1 x2 x3 x4 x5 x6 x7 x8 x9
theorem Sz11{p q A0 A1 A2 A3 A4 A5 A6 A7 A8 A9 dO:Prop}(x0:A0)(x1:A1)(x2:A2)(x3:A3)(x4:A4)(x5:A5)(x6:A6)(x7:A7)(x8:A8)(x9:A9)(cw:dO)(h:q)(e:A0->A1->A2->A3->A4->A5->A6->A7->A8->A9->dO->p=q:=by intro x0 x1 x2 x3 x4 x5 x6 x7 x8 x9 cw;conv=>lhs;simp+decide (disch:=try exact Dz11 @x0 @x1 @x2 @x3 @x4 @x5 @x6 @x7 @x8 @x9 @cw) only[go_sem,x0,x1,x2,x3,x4,x5,x6,x7,x8,x9,cw]):p:=(e x0 x1 x2 x3 x4 x5 x6 x7 x8 x9 cw)▸h
theorem Tz11{p A0 A1 A2 A3 A4 A5 A6 A7 A8 A9 dO:Prop}(x0:A0)(x1:A1)(x2:A2)(x3:A3)(x4:A4)(x5:A5)(x6:A6)(x7:A7)(x8:A8)(x9:A9)(cw:dO)(h:A0->A1->A2->A3->A4->A5->A6->A7->A8->A9->dO->p:=by intro x0 x1 x2 x3 x4 x5 x6 x7 x8 x9 cw;simp+decide (disch:=try exact Dz11 @x0 @x1 @x2 @x3 @x4 @x5 @x6 @x7 @x8 @x9 @cw) only[go_sem,x0,x1,x2,x3,x4,x5,x6,x7,x8,x9,cw]):p:=h x0 x1 x2 x3 x4 x5 x6 x7 x8 x9 cw
theorem Sz13{p q A0 A1 A2 A3 A4 A5 A6 A7 A8 A9 dO iw jy:Prop}(x0:A0)(x1:A1)(x2:A2)(x3:A3)(x4:A4)(x5:A5)(x6:A6)(x7:A7)(x8:A8)(x9:A9)(cw:dO)(eh:iw)(fb:jy)(h:q)(e:A0->A1->A2->A3->A4->A5->A6->A7->A8->A9->dO->iw->jy->p=q:=by intro x0 x1 x2 x3 x4 x5 x6 x7 x8 x9 cw eh fb;conv=>lhs;simp+decide (disch:=try exact Dz13 @x0 @x1 @x2 @x3 @x4 @x5 @x6 @x7 @x8 @x9 @cw @eh @fb) only[go_sem,x0,x1,x2,x3,x4,x5,x6,x7,x8,x9,cw,eh,fb]):p:=(e x0 x1 x2 x3 x4 x5 x6 x7 x8 x9 cw eh fb)▸h
theorem Tz13{p A0 A1 A2 A3 A4 A5 A6 A7 A8 A9 dO iw jy:Prop}(x0:A0)(x1:A1)(x2:A2)(x3:A3)(x4:A4)(x5:A5)(x6:A6)(x7:A7)(x8:A8)(x9:A9)(cw:dO)(eh:iw)(fb:jy)(h:A0->A1->A2->A3->A4->A5->A6->A7->A8->A9->dO->iw->jy->p:=by intro x0 x1 x2 x3 x4 x5 x6 x7 x8 x9 cw eh fb;simp+decide (disch:=try exact Dz13 @x0 @x1 @x2 @x3 @x4 @x5 @x6 @x7 @x8 @x9 @cw @eh @fb) only[go_sem,x0,x1,x2,x3,x4,x5,x6,x7,x8,x9,cw,eh,fb]):p:=h x0 x1 x2 x3 x4 x5 x6 x7 x8 x9 cw eh fb
theorem Sz14{p q A0 A1 A2 A3 A4 A5 A6 A7 A8 A9 dO iw jy uJ:Prop}(x0:A0)(x1:A1)(x2:A2)(x3:A3)(x4:A4)(x5:A5)(x6:A6)(x7:A7)(x8:A8)(x9:A9)(cw:dO)(eh:iw)(fb:jy)(qx:uJ)(h:q)(e:A0->A1->A2->A3->A4->A5->A6->A7->A8->A9->dO->iw->jy->uJ->p=q:=by intro x0 x1 x2 x3 x4 x5 x6 x7 x8 x9 cw eh fb qx;conv=>lhs;simp+decide (disch:=try exact Dz14 @x0 @x1 @x2 @x3 @x4 @x5 @x6 @x7 @x8 @x9 @cw @eh @fb @qx) only[go_sem,x0,x1,x2,x3,x4,x5,x6,x7,x8,x9,cw,eh,fb,qx]):p:=(e x0 x1 x2 x3 x4 x5 x6 x7 x8 x9 cw eh fb qx)▸h
theorem Ez0{p:Prop}(h:p:=by first|omega|rfl|(simp+decide only[go_sem,ep,Kay,KaD,Kaz,KaF,Kam]<;>rfl)|fail):p:=h
theorem Ez1{p A0:Prop}(x0:A0)(h:A0->p:=by intro x0;first|omega|rfl|(simp+decide only[go_sem,ep,Kay,KaD,Kaz,KaF,Kam,x0]<;>rfl)|fail):p:=h x0
theorem Ez2{p A0 A1:Prop}(x0:A0)(x1:A1)(h:A0->A1->p:=by intro x0 x1;first|omega|rfl|(simp+decide only[go_sem,ep,Kay,KaD,Kaz,KaF,Kam,x0,x1]<;>rfl)|fail):p:=h x0 x1
theorem Ez3{p A0 A1 A2:Prop}(x0:A0)(x1:A1)(x2:A2)(h:A0->A1->A2->p:=by intro x0 x1 x2;first|omega|rfl|(simp+decide only[go_sem,ep,Kay,KaD,Kaz,KaF,Kam,x0,x1,x2]<;>rfl)|fail):p:=h x0 x1 x2
theorem Ez4{p A0 A1 A2 A3:Prop}(x0:A0)(x1:A1)(x2:A2)(x3:A3)(h:A0->A1->A2->A3->p:=by intro x0 x1 x2 x3;first|omega|rfl|(simp+decide only[go_sem,ep,Kay,KaD,Kaz,KaF,Kam,x0,x1,x2,x3]<;>rfl)|fail):p:=h x0 x1 x2 x3
theorem Ez5{p A0 A1 A2 A3 A4:Prop}(x0:A0)(x1:A1)(x2:A2)(x3:A3)(x4:A4)(h:A0->A1->A2->A3->A4->p:=by intro x0 x1 x2 x3 x4;first|omega|rfl|(simp+decide only[go_sem,ep,Kay,KaD,Kaz,KaF,Kam,x0,x1,x2,x3,x4]<;>rfl)|fail):p:=h x0 x1 x2 x3 x4
theorem Ez7{p A0 A1 A2 A3 A4 A5 A6:Prop}(x0:A0)(x1:A1)(x2:A2)(x3:A3)(x4:A4)(x5:A5)(x6:A6)(h:A0->A1->A2->A3->A4->A5->A6->p:=by intro x0 x1 x2 x3 x4 x5 x6;first|omega|rfl|(simp+decide only[go_sem,ep,Kay,KaD,Kaz,KaF,Kam,x0,x1,x2,x3,x4,x5,x6]<;>rfl)|fail):p:=h x0 x1 x2 x3 x4 x5 x6
theorem gJ{p q:Prop}(h:q)(e:p=q:=by conv=>lhs;simp+decide (disch:=try exact Ez0) only[go_sem,ep,Kay,KaD,Kaz,KaF,Kam]):p:=e▸h
theorem tU{p:Prop}(h:p:=by simp+decide (disch:=try exact Ez0) only[go_sem,ep,Kay,KaD,Kaz,KaF,Kam]):p:=h
theorem Tr{p:Prop}(h:p:=by simp+decide (disch:=try exact Ez0) only[go_sem,ep,Kay,KaD,Kaz,KaF,Kam]<;>rfl):p:=h
theorem qc{p q A0:Prop}(x0:A0)(h:q)(e:A0->p=q:=by intro x0;conv=>lhs;simp+decide (disch:=try exact Ez1 @x0) only[go_sem,ep,Kay,KaD,Kaz,KaF,Kam,x0]):p:=(e x0)▸h
theorem qV{p A0:Prop}(x0:A0)(h:A0->p:=by intro x0;simp+decide (disch:=try exact Ez1 @x0) only[go_sem,ep,Kay,KaD,Kaz,KaF,Kam,x0]):p:=h x0
theorem nU{p q A0 A1:Prop}(x0:A0)(x1:A1)(h:q)(e:A0->A1->p=q:=by intro x0 x1;conv=>lhs;simp+decide (disch:=try exact Ez2 @x0 @x1) only[go_sem,ep,Kay,KaD,Kaz,KaF,Kam,x0,x1]):p:=(e x0 x1)▸h
theorem FM{p A0 A1:Prop}(x0:A0)(x1:A1)(h:A0->A1->p:=by intro x0 x1;simp+decide (disch:=try exact Ez2 @x0 @x1) only[go_sem,ep,Kay,KaD,Kaz,KaF,Kam,x0,x1]<;>rfl):p:=h x0 x1
theorem xu{p q A0 A1 A2:Prop}(x0:A0)(x1:A1)(x2:A2)(h:q)(e:A0->A1->A2->p=q:=by intro x0 x1 x2;conv=>lhs;simp+decide (disch:=try exact Ez3 @x0 @x1 @x2) only[go_sem,ep,Kay,KaD,Kaz,KaF,Kam,x0,x1,x2]):p:=(e x0 x1 x2)▸h
theorem Vz4{p q A0 A1 A2 A3:Prop}(x0:A0)(x1:A1)(x2:A2)(x3:A3)(h:q)(e:A0->A1->A2->A3->p=q:=by intro x0 x1 x2 x3;conv=>lhs;simp+decide (disch:=try exact Ez4 @x0 @x1 @x2 @x3) only[go_sem,ep,Kay,KaD,Kaz,KaF,Kam,x0,x1,x2,x3]):p:=(e x0 x1 x2 x3)▸h
theorem J8{p q A0 A1 A2 A3 A4:Prop}(x0:A0)(x1:A1)(x2:A2)(x3:A3)(x4:A4)(h:q)(e:A0->A1->A2->A3->A4->p=q:=by intro x0 x1 x2 x3 x4;conv=>lhs;simp+decide (disch:=try exact Ez5 @x0 @x1 @x2 @x3 @x4) only[go_sem,ep,Kay,KaD,Kaz,KaF,Kam,x0,x1,x2,x3,x4]):p:=(e x0 x1 x2 x3 x4)▸h
theorem Vz7{p q A0 A1 A2 A3 A4 A5 A6:Prop}(x0:A0)(x1:A1)(x2:A2)(x3:A3)(x4:A4)(x5:A5)(x6:A6)(h:q)(e:A0->A1->A2->A3->A4->A5->A6->p=q:=by intro x0 x1 x2 x3 x4 x5 x6;conv=>lhs;simp+decide (disch:=try exact Ez7 @x0 @x1 @x2 @x3 @x4 @x5 @x6) only[go_sem,ep,Kay,KaD,Kaz,KaF,Kam,x0,x1,x2,x3,x4,x5,x6]):p:=(e x0 x1 x2 x3 x4 x5 x6)▸h
variable {C : Ctx} {fr : Fr} {hp : HP} {R : Qh}
end Go.FW
namespace Go.FW
open Go
variable {C : Ctx} {ρ : Nat -> Option Nat} {fr aC : Fr} {hp : HP} {w : World} {K R : Qh}
theorem cW.known{p:PV}{v:Value}(h:cW C ρ hp w p v):∀γ∈p.gB,hp γ≠none:=by
 intro γ aj
 cases p with
 |aB β o n=>simp[PV.gB]at aj;subst aj;obtain⟨_,hb,h1,_⟩:=h;simp[h1]
 |aG β o n=>simp[PV.gB]at aj;subst aj;obtain⟨_,hb,b,cap,h1,_⟩:=h;simp[h1]
 |np β o n=>cases h
 |_=>cases aj
theorem cK.known{p:PV}{v:Value}(h:cK C ρ hp w p v):(∀γ∈p.bX,hp γ≠none)/\∀γ∈p.dY,hp γ≠none:=by
 cases p with
 |mp β i o=>obtain⟨b,hb,h1,h2,_⟩:=h;simp[PV.bX,PV.dY,h2]
 |aB β o n=>obtain⟨hb,h1,_⟩:=h;simp[PV.bX,PV.dY,h1]
 |rb β o n=>obtain⟨b,u,_,_,_,_,hb,h1,_⟩:=h;simp[PV.bX,PV.dY,h1]
 |np γ i o=>obtain⟨_,b,hb,h1,h2,_⟩:=h;simp[PV.bX,PV.dY,h2]
 |aG γ o n=>obtain⟨_,hb,b,cap,h1,_⟩:=h;simp[PV.bX,PV.dY,h1]
 |_=>exact⟨(fun γ aj=>by cases aj),(fun γ aj=>by cases aj)⟩
theorem Qm.known{p:PV}{v:Value}(h:Qm C ρ hp w p v):(∀γ∈p.refs,hp γ≠none)/\∀γ∈p.aQ,hp γ≠none:=by
 cases p with
 |mp β i o=>obtain⟨b,hb,h1,h2,_⟩:=h;simp[PV.refs,PV.aQ,h2]
 |aB β o n=>obtain⟨hb,h1,_⟩:=h;simp[PV.refs,PV.aQ,h1]
 |rb β o n=>obtain⟨b,u,_,_,_,_,hb,h1,_⟩:=h;simp[PV.refs,PV.aQ,h1]
 |np γ i o=>obtain⟨_,b,hb,h1,h2,_⟩:=h;simp[PV.refs,PV.aQ,h2]
 |aG γ o n=>obtain⟨_,hb,b,cap,h1,_⟩:=h;simp[PV.refs,PV.aQ,h1]
 |bm cs=>
  obtain⟨vs,_,_,h2⟩:=h
  refine⟨fun γ aj=>(by cases aj),fun γ aj=> ?_⟩
  obtain⟨x,hx,aj⟩:=Kat.1 aj
  obtain⟨i,hi⟩:=KaV hx
  exact(h2 i x hi).known γ aj
 | aF β e ty xs=>
  obtain⟨_,_,b,hb,cur,cap,_,g2,_,_,_,_,_,_,_,_,ct⟩:=h
  refine⟨fun γ aj=>(by cases aj),fun γ aj=> ?_⟩
  rcases KaG.1 aj with rfl|aj
  ·simp[g2]
  ·obtain⟨x,hx,aj⟩:=Kat.1 aj
   obtain⟨y,hy,aj⟩:=Kat.1 aj
   obtain⟨i,hi⟩:=KaV hx
   obtain⟨j,hj⟩:=KaV hy
   exact(ct i x hi j y hj).known γ aj
 | fn f first cap=>
  obtain⟨fv,cv,_,_,_,h3,h4⟩:=h
  have g:∀(l:List PV)(u:Array Value),(∀(i:Nat)(x:PV),l[i]? =some x->cK C ρ hp w x (u.getD i undef))->(∀γ∈l.flatMap PV.bX,hp γ≠none)/\∀γ∈l.flatMap PV.dY,hp γ≠none:=by
   intro l u hl
   refine⟨fun γ aj=> ?_,fun γ aj=> ?_⟩<;>
   ·obtain⟨x,hx,aj⟩:=Kat.1 aj
    obtain⟨i,hi⟩:=KaV hx
    first|exact(hl i x hi).known.1 γ aj|exact(hl i x hi).known.2 γ aj
  refine⟨fun γ aj=> ?_,fun γ aj=> ?_⟩
  ·rcases KaK.1 aj with aj|aj
   ·exact(g first fv h3).1 γ aj
   ·exact(g cap cv h4).1 γ aj
  ·rcases KaK.1 aj with aj|aj
   ·exact(g first fv h3).2 γ aj
   ·exact(g cap cv h4).2 γ aj
 |_=>exact⟨(fun γ aj=>by cases aj),(fun γ aj=>by cases aj)⟩
def lD(β:Nat):Bool:=decide (2000000<=β)
def mj(β:Nat):Bool:=lD β||decide (β<1000000)
theorem ak4{β:Nat}(h:mj β=false):lD β=false:=by simp[mj]at h;exact h.1
def iS:PV->PV
 | .aF _ _ _ _| .bm _=> .undef
 |p=>if p.refs.any lD||p.aQ.any mj then .undef else p
def fM(F:Fr):Fr:=fun s=>iS (F s)
def uK(p:PV):Prop:=(∀β∈p.refs,lD β=false)/\(∀β∈p.aQ,mj β=false)/\(∀γ e ty xs,p≠ .aF γ e ty xs)/\∀cs,p≠ .bm cs
theorem adz(p:PV):uK (iS p):=by
 have h0:uK .undef:=⟨(fun β h=>by cases h),(fun β h=>by cases h),(fun _ _ _ _ h=>by cases h),(fun _ h=>by cases h)⟩
 unfold iS
 split
 ·exact h0
 ·exact h0
 ·rename_i hn oc
  split
  ·exact h0
  ·rename_i h
   simp only[Kci,not_or,Bool.not_eq_true,Kb2]at h
   exact⟨fun β af=>by simpa using h.1 β af,fun β af=>by simpa using h.2 β af,fun γ e ty xs=>hn γ e ty xs,oc⟩
theorem uK.kill{p:PV}(h:uK p){B:List Nat}:uK (if p.refs.any B.contains then .undef else p):=by
 split
 ·exact⟨(fun β h=>by cases h),(fun β h=>by cases h),(fun _ _ _ _ h=>by cases h),(fun _ h=>by cases h)⟩
 ·exact h
theorem Mp{β:Nat}{p:PV}(h:∀γ∈p.refs,γ≠β):cd β p=p:=by
 unfold cd
 rw[if_neg]
 intro hc
 exact h β (by simpa using hc) rfl
theorem abD{β:Nat}{p:PV}(h:∀γ∈p.gB,γ≠β):jc β p=p:=by
 cases p with
 |aB γ o n=>simp only[jc];rw[if_neg (h γ (by simp[PV.gB]))]
 |aG γ o n=>simp only[jc];rw[if_neg (h γ (by simp[PV.gB]))]
 |_=>rfl
theorem abE{β:Nat}{p:PV}(h:∀γ∈p.refs,γ≠β)(h2:∀γ∈p.aQ,γ≠β)(h3:∀γ e ty xs,p≠ .aF γ e ty xs):cT β p=p:=by
 cases p with
 |aF γ e ty xs=>exact absurd rfl (h3 _ _ _ _)
 |bm cs=>
  simp only[cT]
  congr 1
  conv=>rhs;rw[<-List.map_id cs]
  exact KaL fun x hx=>abD fun γ aj=>h2 γ (Kat.2 ⟨x,hx,aj⟩)
 |aG γ o n=>simp only[cT];rw[if_neg (h2 γ (by simp[PV.aQ]))]
 |np γ i o=>simp only[cT];rw[if_neg (h2 γ (by simp[PV.aQ]))]
 |fn f first cap=>
  simp only[cT]
  rw[if_neg,Mp h]
  intro hc
  exact h2 β (by simpa[PV.aQ]using hc) rfl
 |_=>exact Mp h
theorem PQ{β γ:Nat}(h:2000000<=β)(h2:lD γ=false):γ≠β:=by
 simp[lD]at h2;omega
abbrev cM(B:List Nat)(F:Fr):Fr:=bF B (fM F)
theorem zn(B:List Nat)(F:Fr)(s:Nat):uK (cM B F s):=(adz (F s)).kill
theorem Mq{β:Nat}{B:List Nat}{F:Fr}(h:2000000<=β):fJ β (cM B F)=cM B F:=by
 funext s
 have hc:=zn B F s
 exact abE (fun γ aj=>PQ h (hc.1 γ aj)) (fun γ aj=>PQ h (ak4 (hc.2.1 γ aj))) hc.2.2.1
theorem Mr{γ:Nat}{B:List Nat}{F:Fr}:gU γ (cM B F)=cM B F:=by
 funext s
 have hc:=zn B F s
 show gT γ (cM B F s)=_
 generalize cM B F s=p at *
 cases p with
 |aF bo e ty xs=>exact absurd rfl (hc.2.2.1 _ _ _ _)
 |_=>rfl
theorem abF{W:List (Nat×Nat)}{β:Nat}{J F:Fr}:fJ β (aR W J F)=aR W (fJ β J) (fJ β F):=by
 funext s;unfold fJ aR;split<;>rfl
theorem abG{W:List (Nat×Nat)}{β:Nat}{J F:Fr}:gU β (aR W J F)=aR W (gU β J) (gU β F):=by
 funext s;unfold gU aR;split<;>rfl
theorem abe{β d:Nat}{F:Fr}{v:PV}:fJ β (ae F d v)=ae (fJ β F) d (cT β v):=by
 funext s;unfold fJ ae;split<;>rfl
theorem abf{β d:Nat}{F:Fr}{v:PV}:gU β (ae F d v)=ae (gU β F) d (gT β v):=by
 funext s;unfold gU ae;split<;>rfl
theorem adA{β:Nat}{F:Fr}{s:Nat}:fJ β F s=cT β (F s):=rfl
theorem adB{β:Nat}{F:Fr}{s:Nat}:gU β F s=gT β (F s):=rfl
theorem Fl(W:List (Nat×Nat))(B:List Nat):cg fr (aR W fr (cM B fr)):=fun s=>by
 unfold aR cM bF
 split
 ·exact .inl rfl
 ·split
  ·exact .inr rfl
  ·unfold fM iS
   split
   ·exact .inr rfl
   ·exact .inr rfl
   ·split
    ·exact .inr rfl
    ·exact .inl rfl
theorem iz{sk:List It}{x:SC}(cb:eI R sk)(W:List (Nat×Nat))(B:List Nat)(I:Nat->Fr->HP->Prop)(m0:Nat)(h0:I m0 fr hp)
  (h:∀m J hp,I m J hp->vc C R (.c x:: .el (xj W (cM B fr) I m)::sk) (aR W J (cM B fr)) hp):vc C R (.c (.loop x)::sk) fr hp:=by
 refine AU (fun m aC hp'=>∃J,aC=aR W J (cM B fr)/\I m J hp') m0 (Fl W B).wk ⟨fr,rfl,h0⟩ ?_
 rintro m _ hp' ⟨J,rfl,hI⟩
 refine mG cb.1 _ _ _ _ _ _ (Kaf _) (.c x (.el ?_ cb.2)) (cg.refl _) (h m J hp' hI)
 rintro f f' cc hf ⟨J2,rE,m2,e2,hl,h2⟩
 exact Ji hl (hf.wk.trans e2) ⟨J2,rfl,h2⟩
def Qy(l:List (Nat×Nat)):List PV:=l.map fun x=> .aB x.1 0 x.2
def ak5(d:Nat)(S:List Nat)(γ n:Nat)(x:PV)(fr:Fr):Fr:=fun s=>if s=γ then x else if S.contains s then .aG γ 0 n else cd d (fr s)
theorem WT{tmps:Array Value}(h:Qr C ρ fr hp tmps w){β b:Nat}{hb:HB}{l:List Nat}(hB:aP β=false)(af:hp β=some hb)(hl:β∈l)(bD:ρ β=some b):¬aK C ρ (bV hp l) b:=by
 have aY:=(h.own β hb af).cL
 rw[bD]at aY
 rintro(hx|⟨γ,hg,h1,h2,h3⟩)
 ·exact Ctx.FP aY.1 (zt hB) hx
 ·obtain⟨qk,g1,_,_,_,_,g6⟩:=Az h1
  have:=h.inj γ β b (by simp[g1]) (by simp[af]) h3 bD
  subst this
  exact g6 h2 hl
theorem eH.snap{tmps:Array Value}(h:Qr C ρ fr hp tmps w){β o n:Nat}{v:Value}{l:List Nat}{hb:HB}(hr:eH ρ hp w β o n v)(hB:aP β=false)(hl:β∈l)(af:hp β=some hb):Qp w (aK C ρ (bV hp l)) (.sl hb.e ((hb.xs.drop o).take n)) v:=by
 obtain⟨aw,g1,g2,g3⟩:=hr
 rw[af]at g1;cases g1
 rcases g3 with⟨g3,rfl,rfl,rfl⟩|⟨b,cap,g3,rfl,g5,g6⟩
 ·simp only[Kcr];exact .nt _ _ _ (Kbv _)
 ·have bB:=h.own β hb af
  have aY:=bB.cL
  rw[g3]at aY
  obtain⟨_,au,cur,eK,c1,c2,c3,c4,c5⟩:=aY
  obtain⟨cur',ty',d1,d2⟩:=g5
  rw[c1]at d1;cases d1
  have ij:o+cap=eK:=by
   rw[c2]at d2
   exact(KbF bB.lg d2).symm
  subst ij
  have hlen:((hb.xs.drop o).take n).length=n:=by simp;omega
  have eL:∀(i:Nat)(x:PV),((hb.xs.drop o).take n)[i]? =some x->i<n/\hb.xs[o+i]? =some x:=fun i x hx=>by
   have hi:i<n:=by have:=(Kae.1 hx).1;omega
   rw[KaM hi,Ka9]at hx
   exact⟨hi,hx⟩
  have:=Qp.sl (w:=w) (X:=aK C ρ (bV hp l)) hb.e ((hb.xs.drop o).take n) b (o*hb.e) cap (fun i j=>cur.getD ((o+i)*hb.e+j) undef) (WT h hB af hl g3) au (by omega) (by omega)
   (fun i x hx=>(bB.len _ x (eL i x hx).2).1)
   (fun i hi j hj=>by
    rw[hlen]at hi
    have:=oL (i:=o+i) (e:=hb.e) (o:=0) (j:=j) (n:=hb.e) (cap:=o+cap) (by omega) (by omega) hj
    rw[KaX]at this
    rw[show o*hb.e+i*hb.e+j=(o+i)*hb.e+j by rw[KaJ]]
    exact my c1 (by rw[c2];exact this))
   (fun i x hx j y hy=>(c5 _ x (eL i x hx).2 j y hy).freeze)
  rwa[hlen]at this
def tO(R:Qh):Qh:=fun fr hp=>∃aC hp',Wk fr hp aC hp'/\R aC hp'
theorem Ox{hp':HP}(hw:Wk fr hp aC hp')(h:R aC hp'):tO R fr hp:=⟨aC,hp',hw,h⟩
theorem tp(h:R fr hp):tO R fr hp:=⟨fr,hp,Wk.refl _ _,h⟩
theorem aeA:KM (tO R) (tO R):=by
 rintro f f' hp hf ⟨aC,hp',h1,h2⟩
 exact⟨aC,hp',hf.wk.trans h1,h2⟩
theorem Ms:eI (tO R) []:=⟨aeA,.nil⟩
theorem aeB{d γ m i:Nat}{k:IntKind}(h:i<m)(he:(hp γ).map (·.e)=some 1):iR 1 (.aG γ 0 m) (.int k (i:Int)) d fr hp K=K (ae fr d (.np γ i 0)) hp:=by
 have e:(0:Int)<=(i:Int):=by omega
 simp[iR,e,h,he]
theorem aeC{d γ o m:Nat}:pW (.aG γ o m) d fr hp K=K (ae fr d (.int .i64 m)) hp:=rfl
theorem ak6{d γ i ty:Nat}{l:List (Nat×Nat)}(aj:fr γ= .aF γ 1 ty (Qy l))(h:i<l.length):iW 1 false (.np γ i 0) d fr hp K=K (ae fr d (.ms (l[i]'h).1 (l[i]'h).2)) hp:=by
 have hh:∃h:i<l.length,K (ae fr d (.ms (l[i]'h).1 (l[i]'h).2)) hp↔K (ae fr d (.ms (l[i]'h).1 (l[i]'h).2)) hp:=⟨h,Iff.rfl⟩
 simp only[iW,aj]
 have h2:i<(Qy l).length:=by simpa[Qy]using h
 simp only[h2,exists_true_left,true_and,Kaf,Kbb,implies_true]
 simp[rI,Qy,PV.aU,PV.cells]
theorem Oy{e by_ ty ty' d β γ n:Nat}{xs:List PV}{y:PV}{fz:Bool}(hb:hp β=some ⟨e,ty,xs,false⟩)(hy:hp γ=some ⟨e,ty',[y],fz⟩)(h0:0<e)(hn:n=xs.length)(h1:(n+1)*by_<=140737488355328)(h2:n+1<=9223372036854775807)(hB:2000000<=β):
  iC e by_ ty (.ms β n) (.ms γ 1) d fr hp K=K (ae (fJ β fr) d (.ms β (n+1))) (Qi hp β ⟨e,ty,xs++[y],false⟩):=by
 subst hn
 have b1:bE β=true:=by simp[bE];omega
 have b2:aP β=false:=by simp[aP];omega
 simp[iC,jd,hy,hb,h0,b1,b2,h1,h2]
theorem H3{α:Type}{f:α->PV}{y:α}{e by_ ty ty' d β γ n:Nat}{xs:List α}{fz:Bool}(hb:hp β=some ⟨e,ty,xs.map f,false⟩)(hy:hp γ=some ⟨e,ty',[f y],fz⟩)(h0:0<e)(hn:n=xs.length)(h1:(n+1)*by_<=140737488355328)(h2:n+1<=9223372036854775807)(hB:2000000<=β):
  iC e by_ ty (.ms β n) (.ms γ 1) d fr hp K=K (ae (fJ β fr) d (.ms β (n+1))) (Qi hp β ⟨e,ty,(xs++[y]).map f,false⟩):=by
 rw[Oy hb hy h0 (by simp[hn]) h1 h2 hB];simp
theorem abg{γ e ty k:Nat}{l:List (Nat×Nat)}(h:k<l.length)(aH:γ≠(l[k]'h).1)(hd:∀j (hj:j<l.length),l[j].1=(l[k]'h).1->j=k):cT (l[k]'h).1 (.aF γ e ty (Qy l))= .aF γ e ty ((Qy l).set k .undef):=by
 simp only[cT,if_neg aH]
 congr 1
 refine Kbg (by simp[Qy]) fun j h1 h2=> ?_
 have hj:j<l.length:=by simpa[Qy]using h1
 simp only[Qy,KbB,KcX,PV.aU,PV.cells,Kbd,Kbw,fA,jc]
 by_cases e:j=k
 ·subst e;simp
 ·rw[if_neg fun e2=>e (hd j hj e2),if_neg fun e2=>e e2.symm]
theorem abh{β γ o n:Nat}(h:γ≠β):cT β (.aG γ o n)= .aG γ o n:=by simp only[cT];rw[if_neg h]
theorem adC{β γ o n:Nat}(h:γ≠β):cT β (.np γ o n)= .np γ o n:=by simp only[cT];rw[if_neg h]
theorem ak7:
  (∀(β:Nat)(k:IntKind)(n:Int),cT β (.int k n)= .int k n)/\
  (∀(β:Nat)(b:Bool),cT β (.bool b)= .bool b)/\
  (∀(β e:Nat)(xs:List PV),cT β (.sl e xs)= .sl e xs)/\
  (∀(β:Nat)(cs:List PV),cT β (.agg cs)= .agg cs)/\
  (∀(β:Nat)(cs:List PV),cT β (.pt cs)= .pt cs)/\
  (∀(β:Nat),cT β .al= .al)/\
  (∀(β:Nat),cT β .undef= .undef)/\
  (∀(γ:Nat)(k:IntKind)(n:Int),gT γ (.int k n)= .int k n)/\
  (∀(γ:Nat)(b:Bool),gT γ (.bool b)= .bool b)/\
  (∀(γ e:Nat)(xs:List PV),gT γ (.sl e xs)= .sl e xs)/\
  (∀(γ:Nat)(cs:List PV),gT γ (.agg cs)= .agg cs)/\
  (∀(γ:Nat)(cs:List PV),gT γ (.pt cs)= .pt cs)/\
  (∀(γ:Nat),gT γ .al= .al)/\
  (∀(γ:Nat),gT γ .undef= .undef)/\
  (∀(γ β o n:Nat),gT γ (.aB β o n)= .aB β o n)/\
  (∀(γ β o n:Nat),gT γ (.mp β o n)= .mp β o n)/\
  (∀(γ β o n:Nat),gT γ (.rb β o n)= .rb β o n)/\
  (∀(γ β o n:Nat),gT γ (.aG β o n)= .aG β o n)/\
  (∀(γ β o n:Nat),gT γ (.np β o n)= .np β o n)/\
  (∀(β γ o n:Nat),cd β (.aG γ o n)= .aG γ o n)/\
  (∀(β γ o n:Nat),cd β (.np γ o n)= .np γ o n)/\
  (∀(β γ e ty:Nat)(xs:List PV),cd β (.aF γ e ty xs)= .aF γ e ty xs)/\
  (∀(β:Nat),cd β .undef= .undef)/\
  (∀(β:Nat)(cs:List PV),cd β (.pt cs)= .pt cs):=by
 refine⟨?_,?_,?_,?_,?_,?_,?_,?_,?_,?_,?_,?_,?_,?_,?_,?_,?_,?_,?_,?_,?_,?_,?_,?_⟩<;>intros<;>rfl
theorem adD(β γ o n:Nat):cT β (.aB γ o n)=if γ=β then .undef else .aB γ o n:=Nk β γ o n
theorem ac7(β γ o n:Nat):cT β (.mp γ o n)=if γ=β then .undef else .mp γ o n:=Nl β γ o n
end Go.FW
namespace Go.FW
open Go
variable {C : Ctx} {ρ : Nat -> Option Nat} {fr aC : Fr} {hp : HP} {w : World} {K R : Qh}
theorem aeD{F:Fr}{s:Nat}:fM F s=iS (F s):=rfl
theorem ak8:
  (∀(k:IntKind)(n:Int),iS (.int k n)= .int k n)/\
  (∀(b:Bool),iS (.bool b)= .bool b)/\
  (∀(e:Nat)(xs:List PV),iS (.sl e xs)= .sl e xs)/\
  (∀(cs:List PV),iS (.agg cs)= .agg cs)/\
  (∀(cs:List PV),iS (.pt cs)= .pt cs)/\
  (iS .al= .al)/\(iS .undef= .undef)/\
  (∀(β o n:Nat),iS (.aB β o n)=if lD β then .undef else .aB β o n)/\
  (∀(β o n:Nat),iS (.mp β o n)=if lD β then .undef else .mp β o n)/\
  (∀(β o n:Nat),iS (.rb β o n)=if lD β then .undef else .rb β o n)/\
  (∀(β o n:Nat),iS (.aG β o n)=if mj β then .undef else .aG β o n)/\
  (∀(β o n:Nat),iS (.np β o n)=if mj β then .undef else .np β o n):=by
 refine⟨fun _ _=>rfl,fun _=>rfl,fun _ _=>rfl,fun _=>rfl,fun _=>rfl,rfl,rfl,?_,?_,?_,?_,?_⟩<;>intros<;>simp[iS,PV.refs,PV.aQ]
theorem aiD{β:Nat}:mj β=(lD β||decide (β<1000000)):=rfl
theorem ajb{β:Nat}:lD β=decide (2000000<=β):=rfl
def rws(B n:Nat)(L:Nat->Nat):List (Nat×Nat):=(List.range n).map fun i=>(B+i,L i)
theorem DX(B n:Nat)(L:Nat->Nat):(rws B n L).length=n:=by simp[rws]
theorem tC{B n i:Nat}{L:Nat->Nat}(h:i<(rws B n L).length):(rws B n L)[i]=(B+i,L i):=by simp[rws]
theorem aeE{B n i m:Nat}{L L':Nat->Nat}(h:∀j,j<n->L' j=if j=i then m else L j):(rws B n L).set i (B+i,m)=rws B n L':=by
 refine Kbg (by simp[rws]) fun j h1 h2=> ?_
 have hj:j<n:=by simpa[rws]using h2
 rw[tC,KcX,tC,h j hj]
 split
 ·rename_i e;subst e;simp
 ·rename_i e;rw[if_neg fun e2=>e e2.symm]
theorem abi{γ e ty k B n:Nat}{L:Nat->Nat}(h:k<n)(aH:¬(B<=γ/\γ<B+n)):cT (B+k) (.aF γ e ty (Qy (rws B n L)))= .aF γ e ty ((Qy (rws B n L)).set k .undef):=by
 have hk:k<(rws B n L).length:=by rw[DX];exact h
 have:=abg (γ:=γ) (e:=e) (ty:=ty) hk (by rw[tC];simp only;omega) (fun j hj=>by rw[tC,tC];simp only;omega)
 rwa[tC]at this
theorem ajc{d γ i ty B n:Nat}{L:Nat->Nat}(aj:fr γ= .aF γ 1 ty (Qy (rws B n L)))(h:i<n):iW 1 false (.np γ i 0) d fr hp K=K (ae fr d (.ms (B+i) (L i))) hp:=by
 rw[ak6 aj (by rw[DX];exact h),tC]
theorem ac8{d γ n:Nat}{S:List Nat}{x:PV}{s:Nat}:ak5 d S γ n x fr s=if s=γ then x else if S.contains s then .aG γ 0 n else cd d (fr s):=rfl
theorem aeF{by_ ty d:Nat}{k k':IntKind}{n c:Nat}(h2:n<=c)(h3:by_*c<=281474976710656)(h4:c<=9223372036854775807):
  ot 1 by_ ty .al (.int k (n:Int)) (.int k' (c:Int)) d fr hp K=K (ae (cx d fr) d (.ms d n)) (Qi hp d ⟨1,ty,List.replicate n .al,false⟩):=by
 rw[Dj (e:=1) (by omega) rfl (by omega) (by omega) (by omega) (by omega)];rfl
theorem ajd{k c:Nat}(h:c<3000000):(3000000+k=c)=False:=by simp;omega
theorem afg{k c:Nat}(h:c<3000000):(c=3000000+k)=False:=by simp;omega
theorem aje{k j:Nat}:(3000000+k=3000000+j)=(k=j):=by simp
attribute [go_sem] ajd afg aje aeF ac8 abF abG abe abf adA adB Mq Mr ak7 adD ac7 abh adC aeB aeC aeD ak8 aiD ajb
end Go.FW
namespace Go.FW
open Go
variable {C C' : Ctx} {ρ ρ' : Nat -> Option Nat} {fr aC : Fr} {hp hp' : HP} {w : World} {K R : Qh}
theorem et{sk:List It}{r:RT}{bJ:Fr}{aA:HP}(hw:Wk fr hp bJ aA)(h:vc C R (.o r::sk) bJ aA):vc C R (.o (.wk r)::sk) fr hp:=by rw[FA];exact⟨bJ,aA,hw,h⟩
def dy(σ:Nat->Nat):PV->PV
 | .mp β i o=> .mp (σ β) i o
 | .aB β o n=> .aB (σ β) o n
 | .rb β o n=> .rb (σ β) o n
 | .np β i o=> .np (σ β) i o
 | .aG β o n=> .aG (σ β) o n
 |p=>p
def b6(σ:Nat->Nat):PV->PV
 | .fn f a b=> .fn f (a.map (dy σ)) (b.map (dy σ))
 | .bm cs=> .bm (cs.map (dy σ))
 | .aF γ e ty xs=> .aF (σ γ) e ty (xs.map fun x=>fA (x.aU.map (dy σ)))
 |p=>dy σ p
structure vF(σ:Nat->Nat)(ρ ρ':Nat->Option Nat)(hp hp':HP)(β:Nat):Prop where
 r:ρ' (σ β)=ρ β
 h:∀hb,hp β=some hb->∃hb2,hp' (σ β)=some hb2/\hb2.e=hb.e/\hb2.ty=hb.ty/\hb2.xs=hb.xs
 b:bE β=true->bE (σ β)=true
theorem eH.iI{σ:Nat->Nat}{β o n:Nat}{v:Value}(h:eH ρ hp w β o n v)(hr:vF σ ρ ρ' hp hp' β):eH ρ' hp' w (σ β) o n v:=by
 obtain⟨hb,h1,h2,h3⟩:=h
 obtain⟨aw,k1,k2,k3,k4⟩:=hr.h hb h1
 refine⟨aw,k1,by rw[k4];exact h2,?_⟩
 rw[hr.r,k2];exact h3
theorem oQ.iI{σ:Nat->Nat}{γ o n:Nat}{v:Value}(h:oQ ρ hp w γ o n v)(hr:vF σ ρ ρ' hp hp' γ):oQ ρ' hp' w (σ γ) o n v:=by
 obtain⟨h0,hb,b,cap,h1,h2,h3⟩:=h
 obtain⟨aw,k1,k2,k3,k4⟩:=hr.h hb h1
 exact⟨hr.b h0,aw,b,cap,k1,by rw[hr.r];exact h2,by rw[k2];exact h3⟩
theorem Qp.sub{X X':Nat->Prop}{p:PV}{v:Value}(h:Qp w X p v)(hX:∀b,X' b->X b):Qp w X' p v:=h.mono (fun _ _ _=>rfl) (fun b _ hn hx=>hn (hX b hx)) (Kaf _)
theorem cW.iI{σ:Nat->Nat}{p:PV}{v:Value}(h:cW C ρ hp w p v)(hX:∀b,aK C' ρ' hp' b->aK C ρ hp b)(hr:∀β∈p.gB,vF σ ρ ρ' hp hp' β):cW C' ρ' hp' w (dy σ p) v:=by
 cases p with
 |undef=>trivial
 |aB β o n=>exact⟨(hr β (by simp[PV.gB])).b h.1,h.2.iI (hr β (by simp[PV.gB]))⟩
 |aG γ o n=>exact oQ.iI h (hr γ (by simp[PV.gB]))
 |mp=>cases h
 |rb=>cases h
 |np=>cases h
 |_=>exact Qp.sub h hX
theorem cK.iI{σ:Nat->Nat}{p:PV}{v:Value}(h:cK C ρ hp w p v)(hX:∀b,aK C' ρ' hp' b->aK C ρ hp b)(hr:∀β∈p.bX++p.dY,vF σ ρ ρ' hp hp' β):cK C' ρ' hp' w (dy σ p) v:=by
 cases p with
 |mp β i o=>
  have hq:=hr β (by simp[PV.bX])
  obtain⟨b,hb,h1,h2,h3⟩:=h
  obtain⟨aw,k1,k2,k3,k4⟩:=hq.h hb h2
  exact⟨b,aw,by rw[hq.r];exact h1,k1,by rw[k2];exact h3⟩
 |aB β o n=>exact eH.iI h (hr β (by simp[PV.bX]))
 |rb β o n=>
  obtain⟨b,u,h1,h2,h3,h4,h5⟩:=h
  exact⟨b,u,h1,h2,fun hx=>h3 (hX b hx),h4,h5.iI (hr β (by simp[PV.bX]))⟩
 |np γ i o=>
  have hq:=hr γ (by simp[PV.bX,PV.dY])
  obtain⟨h0,b,hb,h1,h2,h3⟩:=h
  obtain⟨aw,k1,k2,k3,k4⟩:=hq.h hb h2
  exact⟨hq.b h0,b,aw,by rw[hq.r];exact h1,k1,by rw[k2];exact h3⟩
 |aG γ o n=>exact oQ.iI h (hr γ (by simp[PV.bX,PV.dY]))
 |_=>exact Qp.sub h hX
theorem Ru{cs:List PV}(h:∀c∈cs,(∀ds,c≠ .agg ds)/\∀ds,c≠ .bm ds):(fA cs).aU=cs:=by
 match cs,h with
 | [],_=>rfl
 | [c],h=>
  obtain⟨h1,h2⟩:=h c (by simp)
  cases c with
  |agg ds=>exact absurd rfl (h1 ds)
  |bm ds=>exact absurd rfl (h2 ds)
  |_=>rfl
 |c::d::cs,_=>
  simp only[fA,nF]
  split<;>rfl
theorem cW.one{p:PV}{v:Value}(h:cW C ρ hp w p v):(∀ds,p≠ .agg ds)/\∀ds,p≠ .bm ds:=by
 refine⟨fun ds e=> ?_,fun ds e=> ?_⟩<;>subst e<;>cases h
theorem Qm.iI{σ:Nat->Nat}{p:PV}{v:Value}(h:Qm C ρ hp w p v)(hX:∀b,aK C' ρ' hp' b->aK C ρ hp b)(hr:∀β∈p.refs++p.aQ,vF σ ρ ρ' hp hp' β):Qm C' ρ' hp' w (b6 σ p) v:=by
 have hV:∀q u,Qp w (aK C ρ hp) q u->Qp w (aK C' ρ' hp') q u:=fun q u hq=>Qp.sub hq hX
 cases p with
 |undef=>trivial
 |mp β i o=>exact cK.iI (w:=w) (p:= .mp β i o) h hX (by simpa[PV.refs,PV.aQ,PV.bX,PV.dY]using hr)
 |aB β o n=>exact cK.iI (w:=w) (p:= .aB β o n) h hX (by simpa[PV.refs,PV.aQ,PV.bX,PV.dY]using hr)
 |rb β o n=>exact cK.iI (w:=w) (p:= .rb β o n) h hX (by simpa[PV.refs,PV.aQ,PV.bX,PV.dY]using hr)
 |np γ i o=>exact cK.iI (w:=w) (p:= .np γ i o) h hX (by simpa[PV.refs,PV.aQ,PV.bX,PV.dY]using hr)
 |aG γ o n=>exact cK.iI (w:=w) (p:= .aG γ o n) h hX (by simpa[PV.refs,PV.aQ,PV.bX,PV.dY]using hr)
 |bm cs=>
  obtain⟨vs,rfl,h1,h2⟩:=h
  refine⟨vs,rfl,by simpa using h1,fun i x hi=> ?_⟩
  simp only[Kav,Kaa]at hi
  obtain⟨y,hy,rfl⟩:=hi
  exact(h2 i y hy).iI hX fun β af=>hr β (Kb0 _ (Kat.2 ⟨y,Kaj hy,af⟩))
 | aF γ e ty xs=>
  obtain⟨h0,he,b,hb,cur,cap,h1,h2,h3,h4,h5,h6,h7,h8,h9,bl,ct⟩:=h
  have hq:=hr γ (by simp[PV.aQ])
  have key:∀(i:Nat)(x:PV),xs[i]? =some x->∀(j:Nat)(y:PV),x.aU[j]? =some y->cW C' ρ' hp' w (dy σ y) (cur.getD (i*e+j) undef):=fun i x hx j y hy=>
   (ct i x hx j y hy).iI hX fun β af=>hr β (Kb0 _ (Ka5 _ (Kat.2 ⟨x,Kaj hx,Kat.2 ⟨y,Kaj hy,af⟩⟩)))
  have we:∀(i:Nat)(x:PV),xs[i]? =some x->(fA (x.aU.map (dy σ))).aU=x.aU.map (dy σ):=fun i x hx=>by
   refine Ru fun c hc=> ?_
   obtain⟨y,hy,rfl⟩:=Kau.1 hc
   obtain⟨j,hj⟩:=KaV hy
   exact(key i x hx j y hj).one
  obtain⟨aw,k1,k2,k3,k4⟩:=hq.h hb h2
  refine⟨hq.b h0,he,b,aw,cur,cap,by rw[hq.r];exact h1,k1,by rw[k4];exact h3,by rw[k2];exact h4,by rw[k3];exact h5,h6,h7,by simpa using h8,h9,fun i x hx=> ?_,fun i x hx j y hy=> ?_⟩
  ·simp only[Kav,Kaa]at hx
   obtain⟨x0,cF,rfl⟩:=hx
   rw[we i x0 cF,Kap];exact bl i x0 cF
  ·simp only[Kav,Kaa]at hx
   obtain⟨x0,cF,rfl⟩:=hx
   rw[we i x0 cF,Kav,Kaa]at hy
   obtain⟨y0,cY,rfl⟩:=hy
   exact key i x0 cF j y0 cY
 | fn f first cap=>
  obtain⟨fv,cv,rfl,h1,h2,h3,h4⟩:=h
  have hm:∀(l:List PV)(x:PV),x∈l->∀β∈x.bX++x.dY,β∈l.flatMap PV.bX++l.flatMap PV.dY:=fun l x hx β af=>by
   rcases KaK.1 af with af|af
   ·exact Kct _ (Kat.2 ⟨x,hx,af⟩)
   ·exact Kb0 _ (Kat.2 ⟨x,hx,af⟩)
  refine⟨fv,cv,rfl,by simpa using h1,by simpa using h2,fun i x hi=> ?_,fun i x hi=> ?_⟩
  ·simp only[Kav,Kaa]at hi
   obtain⟨y,hy,rfl⟩:=hi
   refine(h3 i y hy).iI hX fun β af=>hr β ?_
   have:=hm first y (Kaj hy) β af
   simp only[PV.refs,PV.aQ,KaK]at this⊢
   rcases this with h|h
   ·exact .inl (.inl h)
   ·exact .inr (.inl h)
  ·simp only[Kav,Kaa]at hi
   obtain⟨y,hy,rfl⟩:=hi
   refine(h4 i y hy).iI hX fun β af=>hr β ?_
   have:=hm cap y (Kaj hy) β af
   simp only[PV.refs,PV.aQ,KaK]at this⊢
   rcases this with h|h
   ·exact .inl (.inr h)
   ·exact .inr (.inr h)
 |agg cs=>exact eG.move (p:= .agg cs) h hV
 |aI cs=>exact eG.move (p:= .aI cs) h hV
 |_=>exact hV _ _ h
theorem ajf(σ τ:Nat->Nat)(h1:∀β hb,hp β=some hb->hp' (σ β)=some hb/\τ (σ β)=β)(h2:∀γ hb,hp' γ=some hb->hp (τ γ)=some hb/\σ (τ γ)=γ)
  (hB:∀β,hp β≠none->bE β=true->bE (σ β)=true) (hY:∀β,hp β≠none->aP (σ β)=aP β/\(aP β=true->σ β=β)) (hf:∀s,aC s=b6 σ (fr s)∨aC s= .undef):Wk fr hp aC hp':=by
 rintro C tmps w ⟨ρ,hs⟩
 obtain⟨ρ',bD⟩:∃f:Nat->Option Nat,f=fun γ=>if hp' γ=none then none else ρ (τ γ):=⟨_,rfl⟩
 have hr:∀β,hp β≠none->vF σ ρ ρ' hp hp' β:=fun β af=>by
  obtain⟨hb,hq⟩:=KbT.1 af
  obtain⟨a1,a2⟩:=h1 β hb hq
  refine⟨?_,(fun hb hq=>⟨hb,(h1 β hb hq).1,rfl,rfl,rfl⟩),hB β af⟩
  rw[bD];simp only[]
  rw[if_neg (by rw[a1];simp),a2]
 have aw:∀γ hb,hp' γ=some hb->ρ' γ=ρ (τ γ):=fun γ hb hq=>by rw[bD];simp only[];rw[if_neg (by rw[hq];simp)]
 have hX:∀b,aK C ρ' hp' b->aK C ρ hp b:=by
  rintro b (hx|⟨γ,hg,g1,g2,g3⟩)
  ·exact .inl hx
  ·rw[aw γ hg g1]at g3
   exact .inr ⟨τ γ,hg,(h2 γ hg g1).1,g2,g3⟩
 refine⟨ρ',hs.sz,hs.ext,hs.fp,fun γ hb aj=> ?_,fun γ δ b g1 g2 g3 g4=> ?_,fun i=> ?_⟩
 ·obtain⟨a1,a2⟩:=h2 γ hb aj
  obtain⟨q1,q2,q3,q4,q5⟩:=hs.own (τ γ) hb a1
  obtain⟨y1,y2⟩:=hY (τ γ) (by simp[a1])
  rw[a2]at y1 y2
  refine⟨q1,q2,?_,fun hy=> ?_,fun hR=> ?_⟩
  rotate_left
  rotate_left
  ·have hy:aP γ=true:=by simp[dK]at hR;simp[aP];omega
   have e:=y2 (by rw[<-y1];exact hy)
   exact q5 (by rw[<-e];exact hR)
  ·rw[aw γ hb aj]
   cases hq:ρ (τ γ)with
   |none=>rw[hq]at q3;exact q3
   |some b=>
    rw[hq]at q3
    refine⟨?_,q3.2.1,q3.2.2.move rfl rfl rfl rfl fun q u hq=>Qp.sub hq hX⟩
    have:=q3.1
    unfold Ctx.cls at this⊢
    rw[y1]
    split at this
    ·rename_i hy;rw[if_pos hy,y2 hy];exact this
    ·rename_i hy;rw[if_neg hy];exact this
  ·rw[aw γ hb aj,q4 (by rw[<-y1];exact hy),<-y2 (by rw[<-y1];exact hy)]
 ·obtain⟨x1,k1⟩:=KbT.1 g1
  obtain⟨x2,k2⟩:=KbT.1 g2
  rw[aw γ x1 k1]at g3;rw[aw δ x2 k2]at g4
  have:=hs.inj (τ γ) (τ δ) b (by rw[(h2 γ x1 k1).1];simp) (by rw[(h2 δ x2 k2).1];simp) g3 g4
  rw[<-(h2 γ x1 k1).2,<-(h2 δ x2 k2).2,this]
 ·have bb:=hs.cS i
  rcases hf i with e|e
  ·rw[e]
   exact bb.iI hX fun β af=>hr β (by
    rcases KaK.1 af with h|h
    ·exact bb.known.1 β h
    ·exact bb.known.2 β h)
  ·rw[e];trivial
def ju(β δ x:Nat):Nat:=if x=β then δ else x
def rL(β δ:Nat)(fr:Fr):Fr:=fun s=>b6 (ju β δ) (fr s)
def G1(β δ:Nat)(hp:HP):HP:=fun x=>if x=δ then hp β else if x=β then none else hp x
theorem qG(β δ:Nat)(om:hp δ=none)(h2:2000000<=δ)(hY:aP β=false)(aH:β≠δ):Wk fr hp (rL β δ fr) (G1 β δ hp):=by
 have bδ:bE δ=true:=by simp[bE];omega
 have yδ:aP δ=false:=by simp[aP];omega
 refine ajf (ju β δ) (fun y=>if y=δ then β else y) (fun x hb hx=> ?_) (fun y hb hy=> ?_) (fun x hx hb=> ?_) (fun x hx=> ?_) (fun s=> .inl rfl)
 ·unfold ju G1
  by_cases e:x=β
  ·subst e;simp[hx]
  ·have e2:x≠δ:=fun e2=>by rw[e2,om]at hx;cases hx
   simp[e,e2,hx]
 ·unfold G1 at hy
  unfold ju
  by_cases e:y=δ
  ·subst e;simp at hy;simp[hy]
  ·rw[if_neg e]at hy
   by_cases e2:y=β
   ·rw[if_pos e2]at hy;cases hy
   ·rw[if_neg e2]at hy;simp[e,e2,hy]
 ·unfold ju;split
  ·exact bδ
  ·exact hb
 ·unfold ju;split
  ·rename_i e;subst e;rw[yδ,hY];simp
  ·simp
theorem ajg{β δ x:Nat}:G1 β δ hp x=if x=δ then hp β else if x=β then none else hp x:=rfl
theorem ajh{β δ s:Nat}:rL β δ fr s=b6 (ju β δ) (fr s):=rfl
theorem aji{β δ x:Nat}:ju β δ x=if x=β then δ else x:=rfl
theorem afh{β δ d:Nat}{v:PV}:rL β δ (ae fr d v)=ae (rL β δ fr) d (b6 (ju β δ) v):=by
 funext s;unfold rL ae;split<;>rfl
theorem afi{W:List (Nat×Nat)}{β δ:Nat}{J F:Fr}:rL β δ (aR W J F)=aR W (rL β δ J) (rL β δ F):=by
 funext s;unfold rL aR;split<;>rfl
theorem PI{σ:Nat->Nat}{p:PV}(h:∀β∈p.bX++p.dY,σ β=β):dy σ p=p:=by
 cases p with
 |mp β=>simp only[dy];rw[h β (by simp[PV.bX])]
 |aB β=>simp only[dy];rw[h β (by simp[PV.bX])]
 |rb β=>simp only[dy];rw[h β (by simp[PV.bX])]
 |np β=>simp only[dy];rw[h β (by simp[PV.bX,PV.dY])]
 |aG β=>simp only[dy];rw[h β (by simp[PV.bX,PV.dY])]
 |_=>rfl
theorem afj{σ:Nat->Nat}{p:PV}(h:uK p)(uE:∀β∈p.refs++p.aQ,σ β=β):b6 σ p=p:=by
 have hm:∀(l:List PV),(∀β∈l.flatMap PV.bX++l.flatMap PV.dY,σ β=β)->l.map (dy σ)=l:=fun l hl=>by
  conv=>rhs;rw[<-List.map_id l]
  refine KaL fun x hx=>PI fun β af=>hl β ?_
  rcases KaK.1 af with af|af
  ·exact Kct _ (Kat.2 ⟨x,hx,af⟩)
  ·exact Kb0 _ (Kat.2 ⟨x,hx,af⟩)
 cases p with
 |aF γ e ty xs=>exact absurd rfl (h.2.2.1 _ _ _ _)
 |bm cs=>exact absurd rfl (h.2.2.2 _)
 | fn f a b=>
  simp only[b6]
  rw[hm a,hm b]
  ·intro β af;refine uE β ?_
   simp only[PV.refs,PV.aQ,KaK]at af⊢
   rcases af with h|h
   ·exact .inl (.inr h)
   ·exact .inr (.inr h)
  ·intro β af;refine uE β ?_
   simp only[PV.refs,PV.aQ,KaK]at af⊢
   rcases af with h|h
   ·exact .inl (.inl h)
   ·exact .inr (.inl h)
 |mp β=>simp only[b6,dy];rw[uE β (by simp[PV.refs])]
 |aB β=>simp only[b6,dy];rw[uE β (by simp[PV.refs])]
 |rb β=>simp only[b6,dy];rw[uE β (by simp[PV.refs])]
 |np β=>simp only[b6,dy];rw[uE β (by simp[PV.refs,PV.aQ])]
 |aG β=>simp only[b6,dy];rw[uE β (by simp[PV.refs,PV.aQ])]
 |_=>rfl
theorem ac9{B:List Nat}{F:Fr}{s β:Nat}(h:β∈(cM B F s).refs):B.contains β=false:=by
 cases hq:B.contains β with
 |false=>rfl
 |true=>
  unfold cM bF at h
  split at h
  ·cases h
  ·rename_i hn;exact absurd (Ka4.2 ⟨β,h,hq⟩) hn
theorem afk{B:List Nat}{F:Fr}{β δ:Nat}(af:B.contains β=true∨2000000<=β)(as1:β<1000000∨2000000<=β):rL β δ (cM B F)=cM B F:=by
 funext s
 have hc:=zn B F s
 refine afj hc fun x hx=>if_neg fun e=> ?_
 subst e
 rcases af with af|af
 ·rcases KaK.1 hx with h|h
  ·rw[ac9 h]at af;cases af
  ·have h1:=hc.2.1 x h
   simp[mj,lD]at h1;omega
 ·rcases KaK.1 hx with h|h
  ·have:=hc.1 x h;simp[lD]at this;omega
  ·have:=hc.2.1 x h;simp[mj,lD]at this;omega
end Go.FW
namespace Go.FW
open Go
variable {C C' : Ctx} {ρ ρ' : Nat -> Option Nat} {fr aC : Fr} {hp hp' : HP} {w : World} {K R : Qh}
def iT(γ:Nat):PV->PV
 | .aB β o n=>if β=γ then .aG γ o n else .aB β o n
 | .mp β i o=>if β=γ then .np γ i o else .mp β i o
 | .rb β o n=>if β=γ then .undef else .rb β o n
 |p=>p
def gF(γ:Nat):PV->PV
 | .fn f a b=>cd γ (.fn f a b)
 | .bm cs=> .bm (cs.map (iT γ))
 | .aF bo e ty xs=>if bo=γ then .undef else .aF bo e ty (xs.map fun x=>fA (x.aU.map (iT γ)))
 |p=>iT γ p
def Ha(γ:Nat)(x:PV)(fr:Fr):Fr:=fun s=>if s=γ then x else gF γ (fr s)
theorem xd {γ e ty:Nat} {xs:List PV} {fz:Bool} (aj:hp γ=some ⟨e,ty,xs,fz⟩) (h0:xs≠[]) (h2:2000000<=γ) (hd:∀x∈xs,x.aU=x.cells):Wk fr hp (Ha γ (.aF γ e ty xs) fr) (Qi hp γ ⟨e,ty,[],fz⟩):=by
 rintro C tmps w ⟨ρ,hs⟩
 have zR:bE γ=true:=by simp[bE];omega
 have bB:=hs.own γ _ aj
 have aY:=bB.cL
 obtain⟨b,bD⟩:∃b,ρ γ=some b:=by
  cases hq:ρ γ with
  |none=>rw[hq]at aY;exact absurd aY h0
  |some b=>exact⟨b,rfl⟩
 rw[bD]at aY
 obtain⟨b1,b2,cur,cap,c1,c2,c3,c4,c5⟩:=aY
 have lg:=bB.lg
 obtain⟨hp',me⟩:∃f,f=Qi hp γ ⟨e,ty,[],fz⟩:=⟨_,rfl⟩
 rw[<-me]
 have ou:hp' γ=some ⟨e,ty,[],fz⟩:=by rw[me];simp[Qi]
 have po:∀β,β≠γ->hp' β=hp β:=fun β af=>by rw[me];simp[Qi,af]
 have hX:aK C ρ hp'=aK C ρ hp:=by
  funext c;apply propext
  constructor
  ·rintro(hx|⟨β,hb,g1,g2,g3⟩)
   ·exact .inl hx
   ·by_cases af:β=γ
    ·subst af;rw[ou]at g1;cases g1;exact .inr ⟨β,_,aj,g2,g3⟩
    ·rw[po β af]at g1;exact .inr ⟨β,hb,g1,g2,g3⟩
  ·rintro(hx|⟨β,hb,g1,g2,g3⟩)
   ·exact .inl hx
   ·by_cases af:β=γ
    ·subst af;rw[aj]at g1;cases g1;exact .inr ⟨β,_,ou,g2,g3⟩
    ·exact .inr ⟨β,hb,by rw[po β af];exact g1,g2,g3⟩
 have bA:mW w w (aK C ρ hp) (aK C ρ hp'):=by rw[hX];exact⟨fun _ _ _=>rfl,fun _ _ hn=>hn,Kaf _⟩
 have c0:∀β,β≠γ->pI ρ ρ hp hp' w w β:=fun β af=>⟨rfl,fun hb hq=>⟨hb,by rw[po β af];exact hq,rfl,Kaf _,fun _ _ _ h=>h,fun h=>⟨h,rfl,fun _ _=>rfl⟩⟩⟩
 have Wf:∀ {o n:Nat} {v:Value},eH ρ hp w γ o n v->oQ ρ hp' w γ o n v:=by
  rintro o n v ⟨hb,g1,g2,g3⟩
  rw[aj]at g1;cases g1
  rcases g3 with⟨g3,_⟩|⟨b',cp,g3,g4,g5,g6⟩
  ·rw[bD]at g3;cases g3
  ·rw[bD]at g3;cases g3
   refine⟨zR,_,b,cp,ou,bD,g4,g5,g6,?_⟩
   obtain⟨cur',ty',d1,d2⟩:=g5
   rw[c1]at d1;cases d1
   have:cap=o+cp:=KbF lg (by rw[<-c2,<-d2])
   simp only at g2 c3
   omega
 have cell:∀ {p:PV} {v:Value},cW C ρ hp w p v->cW C ρ hp' w (iT γ p) v:=by
  intro p v h
  cases p with
  |aB β o n=>
   by_cases af:β=γ
   ·subst af;simp only[iT,if_true];exact Wf h.2
   ·simp only[iT,if_neg af];exact cW.move (p:= .aB β o n) h bA fun x hx=>by simp[PV.gB]at hx;subst hx;exact(c0 _ af).yB
  | aG β o n=>
   by_cases af:β=γ
   ·obtain⟨_,hb,b',cp,k1,k2,k3,k4,k5,k6⟩:=h
    subst af
    rw[aj]at k1;cases k1
    exact⟨zR,_,b',cp,ou,k2,k3,k4,k5,k6⟩
   ·exact cW.move (p:= .aG β o n) h bA fun x hx=>by simp[PV.gB]at hx;subst hx;exact(c0 _ af).yB
  |mp=>cases h
  |rb=>cases h
  |np=>cases h
  |undef=>trivial
  |_=>exact cW.move h bA (fun x hx=>by cases hx)
 refine⟨ρ,hs.sz,hs.ext,hs.fp,fun β hb af=> ?_,fun β δ c g1 g2 g3 g4=> ?_,fun i=> ?_⟩
 ·by_cases hq:β=γ
  ·subst hq
   rw[ou]at af;cases af
   refine⟨lg,(fun i x hx=>by simp at hx),?_,bB.fix,bB.ro⟩
   rw[bD]
   exact⟨b1,b2,cur,cap,c1,c2,Kbv _,c4,fun i x hx=>by simp at hx⟩
  ·rw[po β hq]at af
   obtain⟨q1,q2,q3,q4,q5⟩:=hs.own β hb af
   refine⟨q1,q2,?_,q4,q5⟩
   cases hr:ρ β with
   |none=>rw[hr]at q3;exact q3
   |some c=>rw[hr]at q3;exact⟨q3.1,q3.2.1,q3.2.2.move rfl rfl rfl rfl bA.rc⟩
 ·have f:∀β,hp' β≠none->hp β≠none:=fun β af=>by
   by_cases hq:β=γ
   ·subst hq;simp[aj]
   ·rwa[po β hq]at af
  exact hs.inj β δ c (f β g1) (f δ g2) g3 g4
 ·have bb:=hs.cS i
  show Qm C ρ hp' w (Ha γ (.aF γ e ty xs) fr i) _
  unfold Ha
  split
  ·refine⟨zR,lg,b,_,cur,cap,bD,ou,rfl,rfl,rfl,c1,c2,c3,c4,fun k x hx=> ?_,fun k x hx j y hy=> ?_⟩
   ·rw[hd x (Kaj hx)];exact(bB.len k x hx).1
   ·rw[hd x (Kaj hx)]at hy
    have:=c5 k x hx j y hy
    have h3:Qp w (aK C ρ hp') y (cur.getD (k*e+j) undef):=by rw[hX];exact this
    cases y with
    |undef=>trivial
    |aB=>cases h3
    |aG=>cases h3
    |_=>exact h3
  ·generalize fr i=p at bb
   cases p with
   |aB β o n=>
    by_cases af:β=γ
    ·subst af;simp only[gF,iT,if_true];exact Wf bb
    ·simp only[gF,iT,if_neg af];exact Qm.rK bb bA (fun x hx=>by simp[PV.refs]at hx;subst hx;exact(c0 _ af).o) (fun x hx=>by cases hx)
   | mp β k o=>
    by_cases af:β=γ
    ·subst af
     simp only[gF,iT,if_true]
     obtain⟨b',hb,g1,g2,g3⟩:=bb
     rw[aj]at g2;cases g2
     exact⟨zR,b',_,g1,ou,g3⟩
    ·simp only[gF,iT,if_neg af];exact Qm.rK bb bA (fun x hx=>by simp[PV.refs]at hx;subst hx;exact(c0 _ af).o) (fun x hx=>by cases hx)
   |rb β o n=>
    by_cases af:β=γ
    ·simp only[gF,iT,if_pos af];trivial
    ·simp only[gF,iT,if_neg af];exact Qm.rK bb bA (fun x hx=>by simp[PV.refs]at hx;subst hx;exact(c0 _ af).o) (fun x hx=>by cases hx)
   | np β k o=>
    by_cases af:β=γ
    ·subst af
     obtain⟨_,b',hb,g1,g2,g3⟩:=bb
     rw[aj]at g2;cases g2
     exact⟨zR,b',_,g1,ou,g3⟩
    ·refine Qm.rK (p:= .np β k o) bb bA (fun x hx=>by cases hx) (fun x hx=> ?_)
     have e1:x=β:=by simpa[PV.aQ]using hx
     rw[e1];exact c0 _ af
   |aG β o n=>exact cell (p:= .aG β o n) bb
   |bm cs=>
    obtain⟨vs,e1,h1,h3⟩:=bb
    refine⟨vs,e1,by simpa using h1,fun k x hk=> ?_⟩
    simp only[Kav,Kaa]at hk
    obtain⟨y,hy,rfl⟩:=hk
    exact cell (h3 k y hy)
   | aF β e' ty' ys=>
    simp only[gF]
    split
    ·trivial
    ·rename_i af
     obtain⟨k0,he,b',hb,cur',eK,k1,k2,k3,k4,k5,k6,k7,k8,k9,qv,wB⟩:=bb
     have we:∀(k:Nat)(x:PV),ys[k]? =some x->(fA (x.aU.map (iT γ))).aU=x.aU.map (iT γ):=fun k x hx=>by
      refine Ru fun c hc=> ?_
      obtain⟨y,hy,rfl⟩:=Kau.1 hc
      obtain⟨j,hj⟩:=KaV hy
      exact(cell (wB k x hx j y hj)).one
     refine⟨k0,he,b',hb,cur',eK,k1,by rw[po β af];exact k2,k3,k4,k5,k6,k7,by simpa using k8,k9,fun k x hx=> ?_,fun k x hx j y hy=> ?_⟩
     ·simp only[Kav,Kaa]at hx
      obtain⟨x0,cF,rfl⟩:=hx
      rw[we k x0 cF,Kap];exact qv k x0 cF
     ·simp only[Kav,Kaa]at hx
      obtain⟨x0,cF,rfl⟩:=hx
      rw[we k x0 cF,Kav,Kaa]at hy
      obtain⟨y0,cY,rfl⟩:=hy
      exact cell (wB k x0 cF j y0 cY)
   | fn f a c=>
    simp only[gF,cd]
    split
    ·trivial
    ·rename_i hn
     have lk:γ ∉ (PV.fn f a c).refs:=by simpa using hn
     by_cases hm:γ∈(PV.fn f a c).aQ
     ·
      obtain⟨fv,cv,g1,g2,g3,g4,g5⟩:=bb
      have FO:∀ {x:PV} {v:Value},γ ∉ x.bX->cK C ρ hp w x v->cK C ρ hp' w x v:=by
       intro x v hx h
       cases x with
       | np β k o=>
        by_cases af:β=γ
        ·subst af
         obtain⟨_,b',hb,k1,k2,k3⟩:=h
         rw[aj]at k2;cases k2
         exact⟨zR,b',_,k1,ou,k3⟩
        ·exact cK.move (p:= .np β k o) h bA (fun x hx=>by cases hx) (fun x hx=>by simp[PV.dY]at hx;subst hx;exact(c0 _ af).yB)
       |aG β o n=>
        exact cell (p:= .aG β o n) h
       |mp β k o=>exact cK.move (p:= .mp β k o) h bA (fun x aV=>by simp[PV.bX]at aV hx;subst aV;exact(c0 _ (fun e=>hx e.symm)).o) (fun x hx=>by cases hx)
       |aB β k o=>exact cK.move (p:= .aB β k o) h bA (fun x aV=>by simp[PV.bX]at aV hx;subst aV;exact(c0 _ (fun e=>hx e.symm)).o) (fun x hx=>by cases hx)
       |rb β k o=>exact cK.move (p:= .rb β k o) h bA (fun x aV=>by simp[PV.bX]at aV hx;subst aV;exact(c0 _ (fun e=>hx e.symm)).o) (fun x hx=>by cases hx)
       |_=>exact cK.move h bA (fun x hx=>by cases hx) (fun x hx=>by cases hx)
      exact⟨fv,cv,g1,g2,g3,fun k x hk=>FO (fun hx=>lk (HL hk γ hx)) (g4 k x hk),fun k x hk=>FO (fun hx=>lk (HU hk γ hx)) (g5 k x hk)⟩
     ·exact Qm.rK bb bA (fun x hx=>(c0 x (fun e=>lk (e▸hx))).o) (fun x hx=>c0 x (fun e=>hm (e▸hx)))
   |_=>exact Qm.rK bb bA (fun x hx=>by cases hx) (fun x hx=>by cases hx)
theorem Nf{γ e ty:Nat}{xs xs':List PV}(D:Nat->Option (Nat×Nat))(j8:fr γ= .aF γ e ty xs)(hD:∀δ x,D δ=some x->hp δ=none/\2000000<=δ/\0<x.1)(hl:xs'.length=xs.length)
  (hx:∀(i:Nat)(x x':PV),xs[i]? =some x->xs'[i]? =some x'->x'.aU.length=x.aU.length/\∀(j:Nat)(y y':PV),x.aU[j]? =some y->x'.aU[j]? =some y'->y'=y∨(y= .al/\∃δ z,D δ=some z/\y'= .aB δ 0 0)):
  Wk fr hp (ae fr γ (.aF γ e ty xs')) (fun δ=>match D δ with|some x=>some ⟨x.1,x.2,[],false⟩|none=>hp δ):=by
 rintro C tmps w ⟨ρ,hs⟩
 obtain⟨hp',me⟩:∃f:HP,f=fun δ=>match D δ with|some x=>some ⟨x.1,x.2,[],false⟩|none=>hp δ:=⟨_,rfl⟩
 obtain⟨ρ',VL⟩:∃f:Nat->Option Nat,f=fun δ=>if(D δ).isSome then none else ρ δ:=⟨_,rfl⟩
 rw[<-me]
 have pD:∀δ x,D δ=some x->hp' δ=some ⟨x.1,x.2,[],false⟩/\ρ' δ=none:=fun δ x om=>by rw[me,VL];simp[om]
 have po:∀δ,D δ=none->hp' δ=hp δ/\ρ' δ=ρ δ:=fun δ om=>by rw[me,VL];simp[om]
 have hk:∀β,hp β≠none->D β=none:=fun β af=>by
  cases hq:D β with
  |none=>rfl
  |some x=>exact absurd (hD β x hq).1 af
 have hX:∀c,aK C ρ' hp' c->aK C ρ hp c:=by
  rintro c (h|⟨β,hb,g1,g2,g3⟩)
  ·exact .inl h
  ·cases hq:D β with
   |none=>rw[(po β hq).1]at g1;rw[(po β hq).2]at g3;exact .inr ⟨β,hb,g1,g2,g3⟩
   |some x=>rw[(pD β x hq).2]at g3;cases g3
 have bA:mW w w (aK C ρ hp) (aK C ρ' hp'):=⟨fun _ _ _=>rfl,fun c _ hn h=>hn (hX c h),Kaf _⟩
 have c0:∀β,hp β≠none->pI ρ ρ' hp hp' w w β:=fun β af=>⟨(po β (hk β af)).2,fun hb hq=>⟨hb,by rw[(po β (hk β af)).1];exact hq,rfl,Kaf _,fun _ _ _ h=>h,fun h=>⟨h,rfl,fun _ _=>rfl⟩⟩⟩
 refine⟨ρ',hs.sz,hs.ext,hs.fp,fun β hb af=> ?_,fun β δ c g1 g2 g3 g4=> ?_,fun i=> ?_⟩
 ·cases hq:D β with
  |some x=>
   rw[(pD β x hq).1]at af;cases af
   obtain⟨_,d2,d3⟩:=hD β x hq
   refine⟨d3,(fun i x hx=>by simp at hx),?_,(fun h=>by simp[aP]at h;omega),fun h=>by simp[dK]at h;omega⟩
   rw[(pD β x hq).2]
  |none=>
   rw[(po β hq).1]at af
   obtain⟨q1,q2,q3,q4,q5⟩:=hs.own β hb af
   refine⟨q1,q2,?_,(by rw[(po β hq).2];exact q4),q5⟩
   rw[(po β hq).2]
   cases hr:ρ β with
   |none=>rw[hr]at q3;exact q3
   |some c=>rw[hr]at q3;exact⟨q3.1,q3.2.1,q3.2.2.move rfl rfl rfl rfl bA.rc⟩
 ·have f:∀β,hp' β≠none->∀c,ρ' β=some c->hp β≠none/\ρ β=some c:=fun β af c hc=>by
   cases hq:D β with
   |none=>rw[(po β hq).1]at af;rw[(po β hq).2]at hc;exact⟨af,hc⟩
   |some x=>rw[(pD β x hq).2]at hc;cases hc
  exact hs.inj β δ c (f β g1 c g3).1 (f δ g2 c g4).1 (f β g1 c g3).2 (f δ g2 c g4).2
 ·have xS:=(hs.cS i).known
  have Ar:Qm C ρ' hp' w (fr i) (tmps.getD i undef):=(hs.cS i).rK bA (fun β af=>(c0 β (xS.1 β af)).o) (fun β af=>c0 β (xS.2 β af))
  unfold ae
  split
  ·rename_i hi;subst hi
   rw[j8]at Ar
   obtain⟨k0,he,b',hb,cur',eK,k1,k2,k3,k4,k5,k6,k7,k8,k9,qv,wB⟩:=Ar
   have eL:∀(k:Nat)(x':PV),xs'[k]? =some x'->∃x,xs[k]? =some x:=fun k x' cf=>by
    have:k<xs.length:=by have:=(Kae.1 cf).1;omega
    exact⟨_,Kag this⟩
   refine⟨k0,he,b',hb,cur',eK,k1,k2,k3,k4,k5,k6,k7,by omega,k9,fun k x' cf=> ?_,fun k x' cf j y' mh=> ?_⟩
   ·obtain⟨x,uB⟩:=eL k x' cf
    rw[(hx k x x' uB cf).1];exact qv k x uB
   ·obtain⟨x,uB⟩:=eL k x' cf
    obtain⟨l1,l2⟩:=hx k x x' uB cf
    have hj:j<x.aU.length:=by have:=(Kae.1 mh).1;omega
    have hy:=Kag hj
    have hr:=wB k x uB j _ hy
    rcases l2 j _ y' hy mh with e1|⟨e1,δ,z,e2,e3⟩
    ·rw[e1];exact hr
    ·rw[e1]at hr
     obtain⟨_,d2,_⟩:=hD δ z e2
     rw[e3]
     have hv:cur'.getD (k*e+j) undef= .slice none 0 0:=by
      generalize cur'.getD (k*e+j) undef=u at hr
      cases hr;rfl
     exact⟨by simp[bE];omega,_,(pD δ z e2).1,Kaf _,.inl ⟨(pD δ z e2).2,hv,rfl,rfl⟩⟩
  ·exact Ar
def An:List PV->PV
 | [c]=>c
 |cs=> .agg cs
def fO(fr:Fr)(hp:HP):Nat->PV->PV
 |0,p=>p
 | k+1,p=>match p with
  | .aB β o n=>match hp β with
   |some hb=> .sl hb.e ((hb.xs.drop o).take n)
   |none=> .undef
  | .aG γ o n=>match fr γ with
   | .aF _ e _ xs=> .sl e (((xs.drop o).take n).map fun x=>An (x.aU.map (fO fr hp k)))
   |_=> .undef
  |p=>p
def ov(fr:Fr):Nat->PV->List Nat
 |0,_=>[]
 | k+1,p=>match p with
  | .aB β _ _=>[β]
  | .aG γ o n=>match fr γ with
   | .aF _ _ _ xs=>γ::(((xs.drop o).take n).flatMap fun x=>x.aU.flatMap (ov fr k))
   |_=>[]
  |_=>[]
def pG(fr:Fr):Nat->PV->Prop
 |0,p=>match p with
  | .undef| .aB _ _ _| .aG _ _ _=>False
  |_=>True
 | k+1,p=>match p with
  | .undef=>False
  | .aB β _ _=>aP β=false
  | .aG γ o n=>match fr γ with
   | .aF bo _ _ xs=>bo=γ/\aP γ=false/\o+n<=xs.length/\∀x∈(xs.drop o).take n,∀c∈x.aU,pG fr k c
   |_=>False
  |_=>True
theorem afl{tmps:Array Value}(h:Qr C ρ fr hp tmps w){β b:Nat}{hb:HB}{l:List Nat}(hB:aP β=false)(af:hp β=some hb)(hl:β∈l)(bD:ρ β=some b):¬aK C ρ (bV hp l) b:=by
 have aY:=(h.own β hb af).cL
 rw[bD]at aY
 rintro(hx|⟨γ,hg,h1,h2,h3⟩)
 ·exact Ctx.FP aY.1 (zt hB) hx
 ·obtain⟨qk,g1,_,_,_,_,g6⟩:=Az h1
  have:=h.inj γ β b (by simp[g1]) (by simp[af]) h3 bD
  subst this
  exact g6 h2 hl
theorem abj{cs:List PV}(h:∀c∈cs,c.cells=[c]):(An cs).cells=cs:=by
 match cs,h with
 | [],_=>rfl
 | [c],h=>exact h c (by simp)
 |_::_::_,_=>rfl
theorem JT{tmps:Array Value}(h:Qr C ρ fr hp tmps w){l:List Nat}:∀(k:Nat) {p:PV} {v:Value},cW C ρ hp w p v->pG fr k p->(∀β∈ov fr k p,β∈l)->Qp w (aK C ρ (bV hp l)) (fO fr hp k p) v
 |0,p,v,hr,ho,_=>by
  cases p with
  |undef=>cases ho
  |aB=>cases ho
  |aG=>cases ho
  |_=>exact Qp.freeze hr
 | k +1,p,v,hr,ho,hl=>by
  cases p with
  |undef=>cases ho
  |aB β o n=>
   obtain⟨hb,af⟩:∃hb,hp β=some hb:=by obtain⟨_,hb,h1,_⟩:=hr;exact⟨hb,h1⟩
   have:=eH.snap h hr.2 ho (hl β (by simp[ov])) af
   simp only[fO,af];exact this
  | aG γ o n=>
   simp only[pG]at ho
   split at ho
   ·rename_i bo e ty xs aj
    obtain⟨rfl,hY,wh,K8⟩:=ho
    have bb:=h.cS bo
    rw[aj]at bb
    obtain⟨k0,he,b,hb,cur,cap,k1,k2,k3,k4,k5,k6,k7,k8,k9,qv,wB⟩:=bb
    obtain⟨_,hb2,b2,B4,g1,g2,rfl,g4,g5,g6⟩:=hr
    rw[k2]at g1;cases g1
    rw[k1]at g2;cases g2
    have dn:bo∈l:=hl bo (by simp[ov,aj])
    have hX:=afl (l:=l) h hY k2 dn k1
    have au:=(KbR.1 k6).1
    obtain⟨cur',ty',d1,d2⟩:=g4
    rw[k6]at d1;cases d1
    rw[k4]at d2
    have ij:cap=o+B4:=KbF he (by rw[<-k7,<-d2])
    have key:∀i (x:PV),((xs.drop o).take n)[i]? =some x->i<n/\xs[o+i]? =some x:=fun i x hx=>by
     have hi:i<n:=by have:=(Kae.1 hx).1;simp at this;omega
     rw[KaM hi,Ka9]at hx
     exact⟨hi,hx⟩
    have TN:∀i (x:PV),((xs.drop o).take n)[i]? =some x->∀j (y:PV),x.aU[j]? =some y->Qp w (aK C ρ (bV hp l)) (fO fr hp k y) (cur.getD ((o+i)*e+j) undef):=fun i x hx j y hy=>by
     have og:=Kaj hx
     refine JT h k (wB (o+i) x (key i x hx).2 j y hy) (K8 x og y (Kaj hy)) fun β af=>hl β ?_
     simp only[ov,aj]
     exact Ka5 _ (Kat.2 ⟨x,og,Kat.2 ⟨y,Kaj hy,af⟩⟩)
    have we:∀i (x:PV),((xs.drop o).take n)[i]? =some x->(An (x.aU.map (fO fr hp k))).cells=x.aU.map (fO fr hp k):=fun i x hx=>by
     refine abj fun c hc=> ?_
     obtain⟨y,hy,rfl⟩:=Kau.1 hc
     obtain⟨j,hj⟩:=KaV hy
     exact(TN i x hx j y hj).sZ.2.2
    simp only[fO,aj]
    have hlen:(((xs.drop o).take n).map fun x=>An (x.aU.map (fO fr hp k))).length=n:=by simp;omega
    have:=Qp.sl (w:=w) (X:=aK C ρ (bV hp l)) e (((xs.drop o).take n).map fun x=>An (x.aU.map (fO fr hp k))) b (o*hb.e) B4 (fun i j=>cur.getD ((o+i)*e+j) undef) hX au (by omega) (by omega)
     (fun i x hx=>by
      simp only[Kav,Kaa]at hx
      obtain⟨x0,cF,rfl⟩:=hx
      rw[we i x0 cF,Kap];exact qv _ x0 (key i x0 cF).2)
     (fun i hi j hj=>by
      rw[hlen]at hi
      rw[k4]
      have:=oL (i:=o+i) (e:=e) (o:=0) (j:=j) (n:=e) (cap:=cap) (by omega) (by omega) hj
      rw[KaX]at this
      rw[show o*e+i*e+j=(o+i)*e+j by rw[KaJ]]
      exact my k6 (by rw[k7];exact this))
     (fun i x hx j y hy=>by
      simp only[Kav,Kaa]at hx
      obtain⟨x0,cF,rfl⟩:=hx
      rw[we i x0 cF,Kav,Kaa]at hy
      obtain⟨y0,cY,rfl⟩:=hy
      exact TN i x0 cF j y0 cY)
    rw[hlen]at this
    exact this
   ·exact ho.elim
  |_=>exact Qp.freeze hr
def qQ(fr:Fr)(hp:HP)(k:Nat):PV->PV
 | .bm cs=> .agg (cs.map (fO fr hp k))
 |p=>fO fr hp k p
def zM(fr:Fr)(k:Nat):PV->List Nat
 | .bm cs=>cs.flatMap (ov fr k)
 |p=>ov fr k p
def vt(fr:Fr)(k:Nat):PV->Prop
 | .bm cs=>∀c∈cs,pG fr k c
 | .aG γ o n=>pG fr k (.aG γ o n)
 |_=>False
theorem Hn(s k:Nat)(ho:vt fr k (fr s)):Wk fr hp (ae fr s (qQ fr hp k (fr s))) (bV hp (zM fr k (fr s))):=by
 rintro C tmps w ⟨ρ,hs⟩
 have hf:=hs.freeze (zM fr k (fr s))
 refine⟨ρ,hf.sz,hf.ext,hf.fp,hf.own,hf.inj,fun i=> ?_⟩
 unfold ae
 split
 ·rename_i hi;subst hi
  have bb:=hs.cS i
  generalize aA:fr i=p at *
  cases p with
  |bm cs=>
   obtain⟨vs,e1,h1,h2⟩:=bb
   refine⟨vs,e1,by simpa using h1,fun j x hj=> ?_⟩
   simp only[Kav,Kaa]at hj
   obtain⟨y,hy,rfl⟩:=hj
   exact JT hs k (h2 j y hy) (ho y (Kaj hy)) fun β af=>Kat.2 ⟨y,Kaj hy,af⟩
  |aG γ o n=>
   have:=JT (l:=ov fr k (.aG γ o n)) hs k (p:= .aG γ o n) bb ho (fun β af=>af)
   exact Qm.mu (bI.rN this)
  |_=>cases ho
 ·exact hf.cS i
end Go.FW
