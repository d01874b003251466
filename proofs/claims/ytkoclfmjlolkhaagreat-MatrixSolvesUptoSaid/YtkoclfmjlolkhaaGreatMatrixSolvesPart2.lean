/- Part 2 of the proof of MatrixSolves: FwP, FwQ, FwR, FwS, FwT, FwU, FwV, FwW, FwX, FwY, FwZ, FwBA, FwBB, FwBC, FwBD, FwBE, FwBF, FwBG, FwBH, FwCA, FwCB, FwCC, FwCD, FwCE, FwCF, FwCG, FwCH, FwCI, FwCJ, FwCK, FwCL, FwMA, FwMB, FwMC, FwPA, FwPB, FwPC, FwSA, FwSB, FwSC, FwTA, FwSet. Own lemmas; no conditions. -/
import Derived.Test.YtkoclfmjlolkhaaGreatMatrixSolvesPart1
import Derived.LoopN
import Derived.ChangeSame
import Derived.ChangeStays
import Derived.Deep.Slices
import Derived.OpenShut
import Derived.RowKit
import Derived.ProofKit
import Derived.JoinedCond
set_option linter.unusedSimpArgs false
set_option linter.unusedVariables false
set_option linter.unnecessarySimpa false
set_option maxRecDepth 100000
namespace Go.FW
open Go
variable {C : Ctx} {ρ : Nat -> Option Nat} {fr : Fr} {hp : HP} {w : World} {a : Act} {K R : Qf}
structure Link(C:Ctx)(R:Qf)(sk:List It)(Q:Exit->Act->World->Prop):Prop where
 nrm:Qy7 C (vc C R sk) Q
 ext:∀id sk',FW.Qah id sk=some sk'->∀fr hp (a:Act) w,a.defers=[]->Sim C fr hp a.tmps w->vc C R sk' fr hp->Q (.exit id) a w
 ret:∀fr hp (a:Act) w,a.defers=[]->Sim C fr hp a.tmps w->R fr hp->Q .ret a w
theorem Qqm{sk:List It}{x y:SC}:vc C R (.c (.seq x y)::sk) fr hp=vc C R (.c x:: .c y::sk) fr hp:=by rw[vc]
theorem Ql5{sk:List It}{id:Nat}{x:SC}:vc C R (.c (.block id x)::sk) fr hp=vc C R (.c x:: .eb id::sk) fr hp:=by rw[vc]
theorem Qoc{sk:List It}:vc C R (.c .skip::sk) fr hp=vc C R sk fr hp:=by rw[vc]
theorem Qy8{sk:List It}{r:RT}:vc C R (.c (.rg r)::sk) fr hp=vc C R (.o r::sk) fr hp:=by rw[vc]
theorem Qt6{sk:List It}{id:Nat}:vc C R (.eb id::sk) fr hp=vc C R sk fr hp:=by rw[vc]
theorem Ql6{sk:List It}{J:Qf}:vc C R (.el J::sk) fr hp=J fr hp:=by rw[vc]
theorem Qqn{sk:List It}:vc C R (.c .ret::sk) fr hp=R fr hp:=by rw[vc]
theorem Qif:vc C R [] fr hp=R fr hp:=by rw[vc]
def Qiu(c:PV)(A B:Prop):Prop:=match c with
 | .bool t=>(t=true->A)/\(t=false->B)
 |_=>False
theorem Qod{sk:List It}{c:Opd}{x y:SC}:vc C R (.c (.cond c x y)::sk) fr hp=Qiu (ev fr c) (vc C R (.c x::sk) fr hp) (vc C R (.c y::sk) fr hp):=by rw[vc];rfl
def Ql7(C:Ctx)(R:Qf)(sk:Option (List It))(fr:Fr)(hp:HP):Prop:=match sk with
 |some sk=>vc C R sk fr hp
 |none=>False
theorem Qoe{sk:List It}{id:Nat}:vc C R (.c (.exit id)::sk) fr hp=Ql7 C R (FW.Qah id sk) fr hp:=by
 rw[vc]
 unfold Ql7
 split
 ·rename_i h;rw[h]
 ·rename_i h;rw[h]
theorem Qf7{sk:List It}{x:SC}:vc C R (.c (.loop x)::sk) fr hp=∃(I:Qf)(μ:Fr->HP->Nat),(∃fr0 hp0,Wk fr hp fr0 hp0/\I fr0 hp0)/\∀fr hp,I fr hp->vc C R (.c x:: .el (fun fr' hp'=>∃fr0 hp0,Wk fr' hp' fr0 hp0/\I fr0 hp0/\μ fr0 hp0<μ fr hp)::sk) fr hp:=by rw[vc]
theorem Wk.refl(fr:Fr)(hp:HP):Wk fr hp fr hp:=fun _ _ _ h=>h
theorem Wk.trans{fr1 fr2 fr3:Fr}{hp1 hp2 hp3:HP}(h:Wk fr1 hp1 fr2 hp2)(k:Wk fr2 hp2 fr3 hp3):Wk fr1 hp1 fr3 hp3:=fun C t w hs=>k C t w (h C t w hs)
def Qof(I:Qf)(μ:Fr->HP->Nat)(n:Nat):Qf:=fun fr' hp'=>∃fr0 hp0,Wk fr' hp' fr0 hp0/\I fr0 hp0/\μ fr0 hp0<n
theorem Q4z{sk:List It}{x:SC}(I:Qf)(μ:Fr->HP->Nat){fr0:Fr}{hp0:HP}(hw:Wk fr hp fr0 hp0)(h0:I fr0 hp0)(h:∀fr hp,I fr hp->vc C R (.c x:: .el (Qof I μ (μ fr hp))::sk) fr hp):vc C R (.c (.loop x)::sk) fr hp:=by
 rw[Qf7];exact⟨I,μ,⟨fr0,hp0,hw,h0⟩,h⟩
theorem Qy9{s:SC}(h:s.strip= .skip):s= .skip:=by cases s<;>simp[SC.strip]at h⊢
theorem Q1g{s:SC}(h:s.strip= .ret):s= .ret:=by cases s<;>simp[SC.strip]at h⊢
theorem Qza{s:SC}{id:Nat}(h:s.strip= .exit id):s= .exit id:=by cases s<;>simp[SC.strip]at h ⊢;exact h
theorem Q1h{s:SC}{id:Nat}{ops:Array Oper}(h:s.strip= .raw id ops):s= .raw id ops:=by cases s<;>simp[SC.strip]at h ⊢;exact h
theorem Q1i{s a b:SC}(h:s.strip= .seq a b):∃a' b',s= .seq a' b'/\a'.strip=a/\b'.strip=b:=by cases s<;>simp[SC.strip]at h;exact⟨_,_,rfl,h.1,h.2⟩
theorem Qzb{s a b:SC}{c:Opd}(h:s.strip= .cond c a b):∃a' b',s= .cond c a' b'/\a'.strip=a/\b'.strip=b:=by
 cases s with
 |cond c' a' b'=>simp only[SC.strip,SC.cond.injEq]at h;obtain⟨rfl,h1,h2⟩:=h;exact⟨a',b',rfl,h1,h2⟩
 |_=>simp[SC.strip]at h
theorem Qw0{s a:SC}{id:Nat}(h:s.strip= .block id a):∃a',s= .block id a'/\a'.strip=a:=by
 cases s with
 |block c' a'=>simp only[SC.strip,SC.block.injEq]at h;obtain⟨rfl,h1⟩:=h;exact⟨a',rfl,h1⟩
 |_=>simp[SC.strip]at h
theorem Qzc{s a:SC}(h:s.strip= .loop a):∃a',s= .loop a'/\a'.strip=a:=by
 cases s with
 |loop a'=>simp only[SC.strip,SC.loop.injEq]at h;exact⟨a',rfl,h⟩
 |_=>simp[SC.strip]at h
theorem Qkp(hm:C.P.follows .mixedOrders=true):∀(c:Code)(s:SC)(sk:List It)(Q:Exit->Act->World->Prop)(fr:Fr)(hp:HP)(a:Act)(w:World),
  Qba C.P C.N c=some s.strip->Link C R sk Q->a.defers=[]->Sim C fr hp a.tmps w->vc C R (.c s::sk) fr hp->c.wp C.P Q a w:=by
 intro c
 induction c with
 |skip=>
  intro s sk Q fr hp a w hc hL hd hs hv
  simp only[Qba,Option.some.injEq]at hc;obtain rfl:=Qy9 hc.symm
  rw[Qoc]at hv
  exact wp_skip (hL.nrm fr hp a w hd hs hv)
 | region id ops draw=>
  intro s sk Q fr hp a w hc hL hd hs hv
  simp only[Qba]at hc
  split at hc
  ·rename_i s' hs'
   rw[hc]at hs'
   exact Quv hm hL.nrm hs' hd hs hv
  ·split at hc
   ·rename_i hdr
    obtain rfl:=Q1h (Option.some.inj hc).symm
    have hdr':draw=true:=hdr
    subst hdr'
    rw[vc]at hv
    obtain⟨tmps,defers⟩:=a
    simp only at hd hs
    subst hd
    exact hv tmps w Q hs (fun fr' hp' tmps' w' hs' hv'=>hL.nrm fr' hp' _ w' rfl hs' hv')
   ·cases hc
 |seq x y ihx ihy=>
  intro s sk Q fr hp a w hc hL hd hs hv
  simp only[Qba,Option.bind_eq_some_iff,Option.map_eq_some_iff]at hc
  obtain⟨sx,hx,sy,hy,he⟩:=hc
  obtain⟨sx,sy,rfl,rfl,rfl⟩:=Q1i he.symm
  rw[Qqm]at hv
  refine wp_seq (ihx sx (.c sy::sk) _ fr hp a w hx ⟨fun fr hp a w hd hs hv=> ?_,fun id sk' he fr hp a w hd hs hv=> ?_,fun fr hp a w hd hs hv=> ?_⟩ hd hs hv)
  ·exact ihy sy sk Q fr hp a w hy hL hd hs hv
  ·exact hL.ext id sk' (by simpa[FW.Qah]using he) fr hp a w hd hs hv
  ·exact hL.ret fr hp a w hd hs hv
 | cond c x y ihx ihy=>
  intro s sk Q fr hp a w hc hL hd hs hv
  simp only[Qba,Option.bind_eq_some_iff,Option.map_eq_some_iff]at hc
  obtain⟨pc,hpc,sx,hx,sy,hy,he⟩:=hc
  obtain⟨sx,sy,rfl,rfl,rfl⟩:=Qzb he.symm
  rw[Qod]at hv
  obtain⟨ρ,hsr⟩:=hs
  have hr:=Qao hsr hpc
  unfold Qiu at hv
  split at hv
  ·rename_i t ht
   rw[ht]at hr
   exact wp_cond_split hr.bool_inv (fun h=>ihx sx sk Q fr hp a w hx hL hd ⟨ρ,hsr⟩ (hv.1 h)) (fun h=>ihy sy sk Q fr hp a w hy hL hd ⟨ρ,hsr⟩ (hv.2 h))
  ·exact hv.elim
 | block id x ihx=>
  intro s sk Q fr hp a w hc hL hd hs hv
  simp only[Qba,Option.map_eq_some_iff]at hc
  obtain⟨sx,hx,he⟩:=hc
  obtain⟨sx,rfl,rfl⟩:=Qw0 he.symm
  rw[Ql5]at hv
  refine wp_block (ihx sx (.eb id::sk) _ fr hp a w hx ⟨fun fr hp a w hd hs hv=> ?_,fun id' sk' he fr hp a w hd hs hv=> ?_,fun fr hp a w hd hs hv=> ?_⟩ hd hs hv)
  ·rw[Qt6]at hv;exact hL.nrm fr hp a w hd hs hv
  ·simp only[FW.Qah]at he
   simp only[Exit.inBlock]
   by_cases hi:id=id'
   ·subst hi;simp only[if_true]at he ⊢;cases he;exact hL.nrm fr hp a w hd hs hv
   ·rw[if_neg hi]at he;rw[if_neg (fun e=>hi e.symm)];exact hL.ext id' sk' he fr hp a w hd hs hv
  ·exact hL.ret fr hp a w hd hs hv
 | loop x ihx=>
  intro s sk Q fr hp a w hc hL hd hs hv
  simp only[Qba,Option.map_eq_some_iff]at hc
  obtain⟨sx,hx,he⟩:=hc
  obtain⟨sx,rfl,rfl⟩:=Qzc he.symm
  rw[Qf7]at hv
  obtain⟨I,μ,⟨fr0,hp0,hwk,h0⟩,hround⟩:=hv
  have key:∀(n:Nat)(fr:Fr)(hp:HP)(a:Act)(w:World),μ fr hp<n->I fr hp->a.defers=[]->Sim C fr hp a.tmps w->Code.rounds C.P x Q n a w:=by
   intro n
   induction n with
   |zero=>intro _ _ _ _ h;omega
   | succ n ih=>
    intro fr hp a w hlt hI hd hs
    rw[rounds_succ]
    refine ihx sx _ _ fr hp a w hx ⟨fun fr' hp' a' w' hd' hs' hv'=> ?_,fun id sk' he fr hp a w hd hs hv=> ?_,fun fr hp a w hd hs hv=> ?_⟩ hd hs (hround fr hp hI)
    ·rw[Ql6]at hv'
     obtain⟨fr2,hp2,hw2,hI2,hlt2⟩:=hv'
     exact ih fr2 hp2 a' w' (by omega) hI2 hd' (hw2 _ _ _ hs')
    ·exact hL.ext id sk' (by simpa[FW.Qah]using he) fr hp a w hd hs hv
    ·exact hL.ret fr hp a w hd hs hv
  exact wp_loop_rounds (μ fr0 hp0+1) (key _ fr0 hp0 a w (Nat.lt_succ_self _) h0 hd (hwk _ _ _ hs))
 | exit id=>
  intro s sk Q fr hp a w hc hL hd hs hv
  simp only[Qba,Option.some.injEq]at hc;obtain rfl:=Qza hc.symm
  rw[Qoe]at hv
  unfold Ql7 at hv
  split at hv
  ·rename_i sk' he
   exact wp_exit (hL.ext id sk' he fr hp a w hd hs hv)
  ·exact hv.elim
 |ret=>
  intro s sk Q fr hp a w hc hL hd hs hv
  simp only[Qba,Option.some.injEq]at hc;obtain rfl:=Q1g hc.symm
  rw[Qqn]at hv
  exact wp_ret (hL.ret fr hp a w hd hs hv)
 |_=>intro s sk Q fr hp a w hc;simp[Qba]at hc
theorem Ql8(hm:C.P.follows .mixedOrders=true)(c:Code)(s:SC)(sk:List It)(Q:Exit->Act->World->Prop)(fr:Fr)(hp:HP)(a:Act)(w:World)
  (hc:Qba C.P C.N c=some s) (hL:Link C R sk Q) (hd:a.defers=[]) (hs:Sim C fr hp a.tmps w) (hv:vc C R (.c s::sk) fr hp):c.wp C.P Q a w:=
 Qkp hm c s sk Q fr hp a w (by rw[Qm7 _ _ hc];exact hc) hL hd hs hv
def PV.le1:PV->PV->Prop
 | .nilS,.sl _ []=>True
 |p,q=>p=q
def PV.leL:List PV->List PV->Prop
 | [],[]=>True
 |p::ps,q::qs=>PV.le1 p q/\PV.leL ps qs
 |_,_=>False
def PV.le:PV->PV->Prop
 | .agg ps,.agg qs=>PV.leL ps qs
 |p,q=>PV.le1 p q
def PV.leT:List PV->List PV->Prop
 | [],[]=>True
 |p::ps,q::qs=>PV.le p q/\PV.leT ps qs
 |_,_=>False
def PV.leR:PV->PV->Prop
 | .tup ps,.tup qs=>PV.leT ps qs
 |p,q=>PV.le p q
theorem Qps(p:PV):PV.le1 p p:=by cases p<;>first|rfl|(unfold PV.le1;split<;>trivial)
theorem Quw:∀(l:List PV),PV.leL l l
 | []=>trivial
 |p::ps=>⟨Qps p,Quw ps⟩
theorem Qy(p:PV):PV.le p p:=by
 cases p<;>first|exact Quw _|(simp only[PV.le];exact Qps _)
theorem Qux:∀(l:List PV),PV.leT l l
 | []=>trivial
 |p::ps=>⟨Qy p,Qux ps⟩
theorem Q40(p:PV):PV.leR p p:=by
 cases p<;>first|exact Qux _|(simp only[PV.leR];exact Qy _)
theorem Q2.le{X:Nat->Prop}{p q:PV}{v:Value}(h:Q2 w X p v)(hl:PV.le1 p q):Q2 w X q v:=by
 unfold PV.le1 at hl
 split at hl
 ·cases h;exact .slE _ _ _ (Nat.zero_le _)
 ·subst hl;exact h
theorem Qxz:∀(ps qs:List PV),PV.leL ps qs->qs.length=ps.length/\∀(i:Nat)(q:PV),qs[i]? =some q->∃p,ps[i]? =some p/\PV.le1 p q
 | [],[],_=>⟨rfl,by simp⟩
 | [],_::_,h=>h.elim
 |_::_,[],h=>h.elim
 |p::ps,q::qs,h=>by
  obtain⟨h1,h2⟩:=Qxz ps qs h.2
  refine⟨by simp[h1],fun i x hx=> ?_⟩
  cases i with
  |zero=>simp at hx;subst hx;exact⟨p,rfl,h.1⟩
  |succ i=>simp at hx;simpa using h2 i x hx
theorem Qr1:∀(ps qs:List PV),PV.leT ps qs->qs.length=ps.length/\∀(i:Nat)(q:PV),qs[i]? =some q->∃p,ps[i]? =some p/\PV.le p q
 | [],[],_=>⟨rfl,by simp⟩
 | [],_::_,h=>h.elim
 |_::_,[],h=>h.elim
 |p::ps,q::qs,h=>by
  obtain⟨h1,h2⟩:=Qr1 ps qs h.2
  refine⟨by simp[h1],fun i x hx=> ?_⟩
  cases i with
  |zero=>simp at hx;subst hx;exact⟨p,rfl,h.1⟩
  |succ i=>simp at hx;simpa using h2 i x hx
theorem Qag.le{X:Nat->Prop}{p q:PV}{v:Value}(h:Qag w X p v)(hl:PV.le p q):Qag w X q v:=by
 by_cases hp:∃ps,p= .agg ps
 ·obtain⟨ps,rfl⟩:=hp
  by_cases hq:∃qs,q= .agg qs
  ·obtain⟨qs,rfl⟩:=hq
   obtain⟨h1,h2⟩:=Qxz ps qs hl
   obtain⟨vs,rfl,g1,g2⟩:=h
   refine⟨vs,rfl,by omega,fun i x hx=> ?_⟩
   obtain⟨p,hp,hle⟩:=h2 i x hx
   exact(g2 i p hp).le hle
  ·have:PV.le1 (.agg ps) q:=by
    cases q<;>first|exact hl|exact absurd ⟨_,rfl⟩ hq
   have:q= .agg ps:=by
    unfold PV.le1 at this
    split at this
    ·rename_i h1;cases h1
    ·exact this.symm
   exact absurd ⟨_,this⟩ hq
 ·have h1:Q2 w X p v:=by
   cases p<;>first|exact h|exact absurd ⟨_,rfl⟩ hp
  have h2:PV.le1 p q:=by
   cases p<;>first|exact hl|exact absurd ⟨_,rfl⟩ hp
  exact Qag.of_c (h1.le h2)
theorem Qco.le{X:Nat->Prop}{p q:PV}{v:Value}(h:Qco w X p v)(hl:PV.leR p q):Qco w X q v:=by
 by_cases hp:∃ps,p= .tup ps
 ·obtain⟨ps,rfl⟩:=hp
  by_cases hq:∃qs,q= .tup qs
  ·obtain⟨qs,rfl⟩:=hq
   obtain⟨h1,h2⟩:=Qr1 ps qs hl
   obtain⟨vs,rfl,g1,g2⟩:=h
   refine⟨vs,rfl,by omega,fun i x hx=> ?_⟩
   obtain⟨p,hp,hle⟩:=h2 i x hx
   exact(g2 i p hp).le hle
  ·have:PV.le (.tup ps) q:=by
    cases q<;>first|exact hl|exact absurd ⟨_,rfl⟩ hq
   have:PV.le1 (.tup ps) q:=this
   have:q= .tup ps:=by
    unfold PV.le1 at this
    split at this
    ·rename_i h1;cases h1
    ·exact this.symm
   exact absurd ⟨_,this⟩ hq
 ·have h1:Qag w X p v:=by
   cases p<;>first|exact h|exact absurd ⟨_,rfl⟩ hp
  have h2:PV.le p q:=by
   cases p<;>first|exact hl|exact absurd ⟨_,rfl⟩ hp
  exact Qco.of1 (h1.le h2)
def Qjo (P : Program) (f : FuncId) : Prop := (P.funcs[f]?).any (fun fn => fn.body.isSome && fn.name != "runtime.NumGoroutine") = true
def Qd(P:Program)(f:FuncId)(args:List PV)(R:PV->Prop):Prop:=
 Qjo P f/\∀(w:World)(X:Nat->Prop)(vals:Array Value),(∀b,X b->b<w.heap.size)->vals.size=args.length->(∀(i:Nat)(x:PV),args[i]? =some x->Qag w X x (vals.getD i undef))->
  Calls P f vals w fun e w'=>∃v r,e= .returned v/\Ext Qbd w w'/\Qco w' X r v/\R r
theorem Qd.le{P:Program}{f:FuncId}{args args':List PV}{R:PV->Prop}(h:Qd P f args R)(hl:PV.leT args' args):Qd P f args' R:=by
 obtain⟨h1,h2⟩:=Qr1 _ _ hl
 refine⟨h.1,fun w X vals g1 g2 g3=>h.2 w X vals g1 (by omega) (fun i x hx=> ?_)⟩
 obtain⟨p,hp,hle⟩:=h2 i x hx
 exact(g3 i p hp).le hle
def Qfp(args:List PV):Fr:=fun i=>(args[i]?).getD .undef
def okR(fr:Fr)(hp:HP):RV->Prop
 | .t s=>(Q8 hp (fr s)).isData=true
 | .cell s n ag=>match fr s with
  | .mp β i o=>match hp β with
   |some hb=>i<hb.xs.length/\o+n<=hb.e/\(ag=false->n=1)
   |none=>False
  |_=>False
def rvP(fr:Fr)(hp:HP):RV->PV
 | .t s=>Q8 hp (fr s)
 | .cell s n ag=>match fr s with
  | .mp β i o=>match hp β with
   |some hb=>ldV ag n o ((hb.xs[i]?).getD .undef)
   |none=> .undef
  |_=> .undef
def Qdc(rs:List RV)(R:PV->Prop):Qf:=fun fr hp=>match rs with
 | [r]=>okR fr hp r/\∃p,PV.le (rvP fr hp r) p/\R p
 |rs=>(∀r∈rs,okR fr hp r)/\∃p,PV.leR (.tup (rs.map (rvP fr hp))) p/\R p
def Qjp(tmps:Array Value):ResultVar->Sem Value
 | .tmp t=>pure (tmps.getD t undef)
 | .cell x t=>do loadVar t (<-asAddr (tmps.getD x undef))
def lr(fr:Fr):RV->List Nat
 | .t s=>(fr s).refs
 | .cell _ _ _=>[]
theorem Quy{l l':List Nat}(h:∀β∈l,β∈l'){b:Nat}(hx:Xof C ρ (Q9 hp l') b):Xof C ρ (Q9 hp l) b:=by
 rcases hx with hx|⟨γ,hg,h1,h2,h3⟩
 ·exact .inl hx
 ·obtain⟨hg0,g1,_,_,_,g5,g6⟩:=Qgk h1
  refine .inr ⟨γ,hg0,?_,by rw[<-g5 h2];exact h2,h3⟩
  have hn:γ ∉ l:=fun hl=>g6 h2 (h γ hl)
  unfold Q9
  rw[if_neg (by simpa using hn)]
  exact g1
theorem Qqo:Q9 hp []=hp:=by funext β;simp[Q9]
theorem Qzd{p:PV}(h:(Q8 hp p).isData=true):∀β∈p.refs,isY β=false:=by
 have h1:∀q:PV,(Qaq hp q).notU=true->∀β∈q.ref1,isY β=false:=by
  intro q hq β hβ
  cases q with
  |mp γ i o=>simp only[PV.ref1,List.mem_singleton]at hβ;subst hβ;cases hy:isY β with
   |false=>rfl
   |true=>simp[Qaq,hy,PV.notU]at hq
  |mso γ o n=>simp only[PV.ref1,List.mem_singleton]at hβ;subst hβ;cases hy:isY β with
   |false=>rfl
   |true=>simp[Qaq,hy,PV.notU]at hq
  |rb=>simp[Qaq,PV.notU]at hq
  |_=>cases hβ
 intro β hβ
 cases p with
 |mp γ i o=>exact h1 (.mp γ i o) (by cases hq:Qaq hp (.mp γ i o)<;>simp_all[Q8,PV.isData,PV.notU]) β hβ
 |mso γ o n=>exact h1 (.mso γ o n) (by cases hq:Qaq hp (.mso γ o n)<;>simp_all[Q8,PV.isData,PV.notU]) β hβ
 |rb=>simp[Q8,Qaq,PV.isData]at h
 |fn f first cap=>
  simp only[Q8,PV.isData,Bool.and_eq_true,List.all_map,List.all_eq_true]at h
  rcases List.mem_append.1 hβ with hβ|hβ
  ·obtain⟨x,hx,hβ⟩:=List.mem_flatMap.1 hβ;exact h1 x (h.1 x hx) β hβ
  ·obtain⟨x,hx,hβ⟩:=List.mem_flatMap.1 hβ;exact h1 x (h.2 x hx) β hβ
 |_=>cases hβ
theorem Qag0{rv:RV}(h:okR fr hp rv):∀β∈lr fr rv,isY β=false:=by
 cases rv with
 |t s=>exact Qzd h
 |cell=>intro β hβ;cases hβ
theorem Q41{P:Program}(hP:C.P=P){r:ResultVar}{rv:RV}(hc:Qbk P r=some rv)(h:Q4 C ρ fr hp a.tmps w)(ho:okR fr hp rv):
  ∃v,(Qjp a.tmps r).run P w= .ok v w/\Qag w (Xof C ρ (Q9 hp (lr fr rv))) (rvP fr hp rv) v:=by
 subst hP
 cases r with
 |tmp t=>
  simp[Qbk]at hc;subst hc
  exact⟨_,rfl,Qep h (h.slots t) (fun β hβ=>hβ) ho⟩
 | cell x t=>
  simp only[Qbk,Option.bind_eq_some_iff,Option.map_eq_some_iff]at hc
  obtain⟨n,hn,ag,hag,rfl⟩:=hc
  have hx:=h.slots x
  simp only[okR]at ho
  split at ho
  ·rename_i β i o hfx
   rw[hfx]at hx
   split at ho
   ·rename_i hb hβ
    obtain⟨h1,h2,h3⟩:=ho
    obtain⟨b,hb2,g1,g2,g3⟩:=hx.mp_inv
    rw[hβ]at g2;cases g2
    have hown:=h.own β hb hβ
    have hblk:=hown.blk
    rw[g1]at hblk
    obtain⟨_,hlt',cur,cap,c1,c2,c3,c4,c5⟩:=hblk
    have hxi:=List.getElem?_eq_getElem h1
    have hcl:=(hown.len i _ hxi).1
    have hcap:i<cap:=by omega
    have hin:∀j,j<n->i*hb.e+o+j<cur.size:=fun j hj=>by rw[c2];exact Qez hcap h2 hj
    have hrun:=Qg3 (P:=C.P) (t:=t) (b:=b) (off:=i*hb.e+o) (vs:=Array.ofFn (n:=n) fun j=>cur.getD (i*hb.e+o+j.val) undef) hn hag h3 (by simp) w
     (fun j hj=>by rw[Qe2 (f:=fun j=>cur.getD (i*hb.e+o+j) undef) hj];exact Qa7 c1 (hin j hj))
    obtain⟨V,hV⟩:∃V:Value,V=(if ag then .agg (Array.ofFn (n:=n) fun j=>cur.getD (i*hb.e+o+j.val) undef)else(Array.ofFn (n:=n) fun j=>cur.getD (i*hb.e+o+j.val) undef).getD 0 undef):=⟨_,rfl⟩
    rw[<-hV]at hrun
    refine⟨V,?_,?_⟩
    ·simp only[Qjp,g3,asAddr,Sem.run_bind,Sem.run_pure,Result.andThen_ok]
     exact hrun
    ·have:Qag w (Xof C ρ hp) (ldV ag n o (hb.xs[i]'h1)) (if ag then .agg (Array.ofFn (n:=n) fun j=>cur.getD (i*hb.e+o+j.val) undef)else(Array.ofFn (n:=n) fun j=>cur.getD (i*hb.e+o+j.val) undef).getD 0 undef):=
      Qle (by simp) (by rw[hcl];exact h2) h3 (fun j y hj hy=>by
       rw[Qe2 (f:=fun j=>cur.getD (i*hb.e+o+j) undef) hj,Nat.add_assoc]
       exact c5 i _ hxi (o+j) y hy)
     simp only[rvP,hfx,hβ,hxi,Option.getD_some]
     rw[hV]
     simp only[lr,Qqo];exact this
   ·exact ho.elim
  ·exact ho.elim
theorem Qsu{P:Program}(hP:C.P=P)(h:Q4 C ρ fr hp a.tmps w):∀(rl:List ResultVar)(rs:List RV),rl.mapM (Qbk P)=some rs->(∀r∈rs,okR fr hp r)->
  ∃vs:List Value,vs.length=rs.length/\(rl.mapM (Qjp a.tmps)).run P w= .ok vs w/\∀(i:Nat)(r:RV),rs[i]? =some r->∃v,vs[i]? =some v/\Qag w (Xof C ρ (Q9 hp (rs.flatMap (lr fr)))) (rvP fr hp r) v
 | [],rs,hc,_=>by simp at hc;subst hc;exact⟨[],rfl,by simp,by simp⟩
 | x::rl,rs,hc,ho=>by
  rw[List.mapM_cons]at hc
  simp only[Option.bind_eq_bind,Option.pure_def,Option.bind_eq_some_iff,Option.some.injEq]at hc
  obtain⟨r,hr,rs',hrs,rfl⟩:=hc
  obtain⟨v,h1,h2⟩:=Q41 hP hr h (ho r (by simp))
  obtain⟨vs,g1,g2,g3⟩:=Qsu hP h rl rs' hrs (fun q hq=>ho q (by simp[hq]))
  refine⟨v::vs,by simp[g1],by simp[List.mapM_cons,Sem.run_bind,h1,g2],fun i q hq=> ?_⟩
  cases i with
  |zero=>
   simp at hq;subst hq
   exact⟨v,rfl,h2.mono (fun _ _ _=>rfl) (fun _ _ hn hx=>hn (Quy (fun β hβ=>by rw[List.flatMap_cons];exact List.mem_append_left _ hβ) hx)) (Nat.le_refl _)⟩
  |succ i=>
   simp at hq
   obtain⟨v',k1,k2⟩:=g3 i q hq
   exact⟨v',by simpa using k1,k2.mono (fun _ _ _=>rfl) (fun _ _ hn hx=>hn (Quy (fun β hβ=>by rw[List.flatMap_cons];exact List.mem_append_right _ hβ) hx)) (Nat.le_refl _)⟩
theorem Ql9{P:Program}(hP:C.P=P){fn:Func}{rs:List RV}{Rr:PV->Prop}(hc:fn.results.toList.mapM (Qbk P)=some rs)(h:Q4 C ρ fr hp a.tmps w)(hr:Qdc rs Rr fr hp):
  ∃v r,(results fn a.tmps).run P w= .ok v w/\Qco w (Xof C ρ (Q9 hp (rs.flatMap (lr fr)))) r v/\(∀β∈rs.flatMap (lr fr),isY β=false)/\Rr r:=by
 have hall:(∀r∈rs,okR fr hp r):=by
  intro r hr'
  match rs,hr,hr' with
  | [r0],hr,hr'=>simp at hr';subst hr';exact hr.1
  | [],hr,hr'=>cases hr'
  |r0::r1::rest,hr,hr'=>exact hr.1 r hr'
 have hN:∀β∈rs.flatMap (lr fr),isY β=false:=fun β hβ=>by
  obtain⟨r,hr,hβ⟩:=List.mem_flatMap.1 hβ
  exact Qag0 (hall r hr) β hβ
 obtain⟨vs,hlen,hrun,hspec⟩:=Qsu hP h _ rs hc hall
 have hres:(results fn a.tmps).run P w= .ok (if h:vs.toArray.size=1 then vs.toArray[0]else .tuple vs.toArray) w:=by
  have e:results fn a.tmps=(do let vs<-fn.results.mapM (Qjp a.tmps);pure (if h:vs.size=1 then vs[0]else .tuple vs)):=rfl
  rw[e,Array.mapM_eq_mapM_toList]
  simp only[Sem.run_bind]
  have h2:(List.toArray<$>fn.results.toList.mapM (Qjp a.tmps):Sem (Array Value)).run P w= .ok vs.toArray w:=by simp[hrun]
  rw[h2]
  rfl
 match rs,hr,hlen,hspec,hN with
 | [r0],hr,hlen,hspec,hN=>
  have h1:vs.toArray.size=1:=by simpa using hlen
  rw[dif_pos h1]at hres
  obtain⟨v,h2,h3⟩:=hspec 0 r0 rfl
  have e:vs.toArray[0]=v:=by
   have:vs[0]? =some (vs.toArray[0]):=by simp[hlen]
   rw[h2]at this;exact(Option.some.inj this).symm
  rw[e]at hres
  obtain⟨_,p,hle,hRp⟩:=hr
  exact⟨_,_,hres,Qco.of1 (h3.le hle),hN,hRp⟩
 | [],hr,hlen,hspec,hN=>
  have h1:¬vs.toArray.size=1:=by simp[hlen]
  rw[dif_neg h1]at hres
  obtain⟨_,p,hle,hRp⟩:=hr
  exact⟨_,_,hres,Qco.le (p:= .tup []) ⟨vs.toArray,rfl,by simp[hlen],by simp⟩ hle,hN,hRp⟩
 |r0::r1::rest,hr,hlen,hspec,hN=>
  have h1:¬vs.toArray.size=1:=by simp[hlen]
  rw[dif_neg h1]at hres
  obtain⟨_,p,hle,hRp⟩:=hr
  refine⟨_,_,hres,Qco.le (p:= .tup ((r0::r1::rest).map (rvP fr hp))) ⟨vs.toArray,rfl,by simp[hlen],fun i x hx=> ?_⟩ hle,hN,hRp⟩
  simp only[List.getElem?_map,Option.map_eq_some_iff]at hx
  obtain⟨rv,hrv,rfl⟩:=hx
  obtain⟨v,h2,h3⟩:=hspec i rv hrv
  rw[Qd8,List.getD_eq_getElem?_getD,h2]
  exact h3
theorem Qsv{P:Program}(hP:C.P=P){fn:Func}{rs:List RV}{Rr:PV->Prop}(hc:fn.results.toList.mapM (Qbk P)=some rs)(h:Q4 C ρ fr hp a.tmps w)(hr:Qdc rs Rr fr hp):
  ∃v r,(results fn a.tmps).run P w= .ok v w/\Qco w C.X0 r v/\Rr r:=by
 obtain⟨v,r,h1,h2,_,h3⟩:=Ql9 hP hc h hr
 exact⟨v,r,h1,h2.mono (fun _ _ _=>rfl) (fun _ _ hn hx=>hn (.inl hx)) (Nat.le_refl _),h3⟩
theorem Qze{P:Program}(hP:C.P=P){fn:Func}{rs:List RV}{Rr:PV->Prop}(hc:fn.results.toList.mapM (Qbk P)=some rs)(h:Q4 C ρ fr hp a.tmps w)(hr:Qdc rs Rr fr hp)
  {X:Nat->Prop} (hX:∀c,X c->C.X0 c∨∃β hb,isY β=true/\hp β=some hb/\hb.fz=false/\ρ β=some c):
  ∃v r,(results fn a.tmps).run P w= .ok v w/\Qco w X r v/\Rr r:=by
 obtain⟨v,r,h1,h2,h3,h4⟩:=Ql9 hP hc h hr
 refine⟨v,r,h1,h2.mono (fun _ _ _=>rfl) (fun c _ hn hx=>hn ?_) (Nat.le_refl _),h4⟩
 rcases hX c hx with hx|⟨β,hb,k1,k2,k3,k4⟩
 ·exact .inl hx
 ·refine .inr ⟨β,hb,?_,k3,k4⟩
  have hn:β ∉ rs.flatMap (lr fr):=fun hl=>by rw[h3 β hl]at k1;cases k1
  unfold Q9
  rw[if_neg (by simpa using hn)]
  exact k2
theorem Qi {P : Program} {f : FuncId} {fn : Func} {sf : SFn} {args : List PV} {Rr : PV -> Prop} (hm : P.follows .mixedOrders = true) (hf : P.funcs[f]? = some fn) (hname : (fn.name != "runtime.NumGoroutine") = true) (hc : Qe P fn = some sf) (hn : args.length <= sf.n /\ sf.n <= 1000000)
  (hv:∀C:Ctx,C.P=P->vc C (Qdc sf.rs Rr) [.c sf.body] (Qfp args) hp0):Qd P f args Rr:=by
 simp only[Qe,Option.bind_eq_some_iff,Option.map_eq_some_iff]at hc
 obtain⟨c,hb,sb,hcb,rs,hrs,rfl⟩:=hc
 refine⟨by simp[Qjo,hf,hb];simpa using hname,fun w X vals hX hsz hrep=> ?_⟩
 let C:Ctx:=Ctx.plain P fn.ntmps w X hX hn.2
 refine calls_of_wp hf hb ?_
 have hsz':(vals++Array.replicate (fn.ntmps-vals.size) undef).size=fn.ntmps:=by simp at hn ⊢;omega
 have hsim:Sim C (Qfp args) hp0 (vals++Array.replicate (fn.ntmps-vals.size) undef) w:=by
  refine⟨fun _=>none,hsz',Ext.refl _ _,(fun _ _ h=>by cases h),by simp[hp0],by simp[hp0],fun i=> ?_⟩
  unfold Qfp
  cases hi:args[i]? with
  |none=>trivial
  | some p=>
   simp only[Option.getD_some]
   have hil:i<vals.size:=by rw[hsz];exact(List.getElem?_eq_some_iff.1 hi).1
   have hr:=hrep i p hi
   have e:(vals++Array.replicate (fn.ntmps-vals.size) undef).getD i undef=vals.getD i undef:=by
    rw[Qbb,if_pos hil]
   rw[e]
   refine Qm.ofData (hr.mono (fun _ _ _=>rfl) (fun b _ hn hx=> ?_) (Nat.le_refl _))
   rcases hx with hx|⟨_,_,h1,_⟩
   ·exact hn hx
   ·simp[hp0]at h1
 have fin:∀(fr:Fr)(hp:HP)(a:Act)(w':World),a.defers=[]->Sim C fr hp a.tmps w'->Qdc rs Rr fr hp->
   a.defers=[]/\∃v,(results fn a.tmps).run P w'= .ok v w'/\∃v' r,Ending.returned v= .returned v'/\Ext Qbd w w'/\Qco w' X r v'/\Rr r:=by
  intro fr hp a w' hd ⟨ρ,hs⟩ hr
  obtain⟨v,r,h1,h2,h3⟩:=Qsv (C:=C) rfl hrs hs hr
  exact⟨hd,v,h1,v,r,rfl,Ctx.plain_ext hs.ext,h2,h3⟩
 exact Ql8 (C:=C) (R:=Qdc rs Rr) hm c sb [] _ (Qfp args) hp0 _ w hcb ⟨fun fr hp a w' hd hs hv=>(by rw[Qif]at hv;exact fin fr hp a w' hd hs hv),fun id sk' he=>(by simp[FW.Qah]at he),fin⟩ rfl hsim (hv C rfl)
end Go.FW
namespace Go.FW
open Go
variable {C : Ctx} {ρ : Nat -> Option Nat} {fr : Fr} {hp : HP} {w : World} {a : Act} {K R : Qf}
def Qbp(fr:Fr)(d:Option Nat)(r:PV):Fr:=match d with|some d=>upd fr d r|none=>fr
theorem Qm.ofV{p:PV}{v:Value}(h:Qco w (Xof C ρ hp) p v):Qm C ρ hp w p v:=by
 cases p with
 |tup ps=>exact h
 |_=>exact Qm.ofData h
theorem Qnp{tmps:Array Value}(h:Q4 C ρ fr hp tmps w):∀b,Xof C ρ hp b->b<w.heap.size:=by
 rintro b (hx|⟨β,hb,h1,_,h3⟩)
 ·exact Nat.lt_of_lt_of_le (C.hX0 b hx) h.ext.size
 ·have:=(h.own β hb h1).blk
  rw[h3]at this
  exact this.2.1
theorem Q4.updO{tmps:Array Value}{d:Option Nat}(h:Q4 C ρ fr hp tmps w){p:PV}{v:Value}(hv:Qm C ρ hp w p v)(hd:∀x,d=some x->x<C.N):Q4 C ρ (Qbp fr d p) hp (Qni tmps d v) w:=by
 cases d with
 |some d=>exact h.upd hv (hd d rfl)
 |none=>exact h
theorem Quz{tmps:Array Value}{first cap args:List PV}{fv cv av:Array Value}(hs:Q4 C ρ fr hp tmps w)(h1:fv.size=first.length)(_h2:cv.size=cap.length)(h3:av.size=args.length)
  (hr1:∀(i:Nat)(x:PV),first[i]? =some x->Qbf C ρ hp w x (fv.getD i undef)) (hr2:∀(i:Nat)(x:PV),cap[i]? =some x->Qbf C ρ hp w x (cv.getD i undef)) (hr3:∀(i:Nat)(x:PV),args[i]? =some x->Qm C ρ hp w x (av.getD i undef))
  (hdat:((first++args++cap).map (Q8 hp)).all PV.isData=true):
  ∀(i:Nat)(x:PV),((first++args++cap).map (Q8 hp))[i]? =some x->Qag w (Xof C ρ (Q9 hp ((first++args++cap).flatMap PV.refs))) x ((fv++av++cv).getD i undef):=by
 intro i x hx
 rw[List.all_eq_true]at hdat
 have hxd:=hdat x (List.mem_of_getElem? hx)
 simp only[List.getElem?_map,Option.map_eq_some_iff]at hx
 obtain⟨p,hp',rfl⟩:=hx
 have hmem:=List.mem_of_getElem? hp'
 have hl:∀β∈p.refs,β∈(first++args++cap).flatMap PV.refs:=fun β hβ=>List.mem_flatMap.2 ⟨p,hmem,hβ⟩
 have toF:∀ {p:PV} {v:Value},Qbf C ρ hp w p v->(Q8 hp p).isData=true->Qm C ρ hp w p v:=by
  intro p v hr hd
  cases p with
  |undef=>trivial
  |mp=>exact hr
  |mso=>exact hr
  |rb=>exact hr
  |np=>exact hr
  |nso=>exact hr
  |_=>exact Qm.ofData (Qag.of_c hr)
 rw[Qbb]
 rw[List.getElem?_append]at hp'
 by_cases c1:i<(first++args).length
 ·rw[if_pos c1]at hp'
  rw[if_pos (by simp only[Array.size_append,h1,h3];simpa using c1),Qbb]
  rw[List.getElem?_append]at hp'
  by_cases c2:i<first.length
  ·rw[if_pos c2]at hp'
   rw[if_pos (by omega)]
   exact Qep hs (toF (hr1 i p hp') hxd) hl hxd
  ·rw[if_neg c2]at hp'
   rw[if_neg (by omega),h1]
   exact Qep hs (hr3 _ p hp') hl hxd
 ·rw[if_neg c1]at hp'
  have hsz:(fv++av).size=(first++args).length:=by simp[h1,h3]
  rw[if_neg (by omega),hsz]
  exact Qep hs (toF (hr2 _ p hp') hxd) hl hxd
theorem Qsw{P:Program}(hP:C.P=P){g:FuncId}{first cap args pargs:List PV}{pr:Bool}{d:Option Nat}{Rr:PV->Prop}(h:Qd P g pargs Rr)(hargs:(first++args++cap).map (Q8 hp)=pargs)(hdat:pargs.all PV.isData=true)
  (hK:∀r,Rr r->K (Qbp fr d r) (Q9 hp ((first++args++cap).flatMap PV.refs))):Qcj C pr (.fn g first cap) args d fr hp K:=by
 subst hP
 refine⟨h.1,fun ρ tmps w fv cv av hdN hs h1 h2 h3 hr1 hr2 hr3=> ?_⟩
 have hf:=hs.freeze ((first++args++cap).flatMap PV.refs)
 refine(h.2 w _ (fv++av++cv) (Qnp hf) (by rw[<-hargs];simp[h1,h2,h3]) (by rw[<-hargs];exact Quz hs h1 h2 h3 hr1 hr2 hr3 (by rw[hargs];exact hdat))).mono ?_
 rintro e w' ⟨v,r,rfl,hx,hr,hRr⟩
 exact⟨v,_,_,rfl,⟨ρ,(hf.grow hx).updO (Qm.ofV hr) hdN⟩,fun _=>hx,hK r hRr⟩
theorem Qdj{P:Program}(hP:C.P=P){g:FuncId}{first cap args pargs:List PV}{pr:Bool}{d:Option Nat}{r:PV}(h:Qd P g pargs (· =r))(hargs:(first++args++cap).map (Q8 hp)=pargs)(hdat:pargs.all PV.isData=true)
  (hK:K (Qbp fr d r) (Q9 hp ((first++args++cap).flatMap PV.refs))):Qcj C pr (.fn g first cap) args d fr hp K:=
 Qsw hP h hargs hdat (fun _ hr=>hr▸hK)
def PV.isScal:PV->Bool
 | .int .. | .bool _=>true
 | .tup ps=>ps.all fun p=>match p with| .int .. | .bool _=>true|_=>false
 |_=>false
theorem Q42{X X':Nat->Prop}{p:PV}{v:Value}(hs:p.isScal=true)(h:Qco w X p v):Qco w X' p v:=by
 have one:∀(p:PV)(v:Value),(match p with| .int .. | .bool _=>true|_=>false:Bool)=true->Qag w X p v->Qag w X' p v:=by
  intro p v hs h
  cases p with
  |int k n=>cases h;exact Q2.int k n
  |bool b=>cases h;exact Q2.bool b
  |_=>cases hs
 cases p with
 |int k n=>exact one (.int k n) v rfl h
 |bool b=>exact one (.bool b) v rfl h
 |tup ps=>
  obtain⟨vs,rfl,h1,h2⟩:=h
  simp only[PV.isScal,List.all_eq_true]at hs
  exact⟨vs,rfl,h1,fun i x hx=>one x _ (hs x (List.mem_of_getElem? hx)) (h2 i x hx)⟩
 |_=>cases hs
def Qfu(C:Ctx)(R:Qf)(c:PV)(x y:SC)(sk:List It)(fr:Fr)(hp:HP):Prop:=Qiu c (vc C R (.c x::sk) fr hp) (vc C R (.c y::sk) fr hp)
def brV(C:Ctx)(R:Qf)(x y:RT)(sk:List It)(fr:Fr)(hp:HP):Prop:=vc C R (.o x::sk) fr hp/\vc C R (.o y::sk) fr hp
def Qcm(C:Ctx)(p:PV)(s:Nat)(want:Bool)(o:SOp)(fr:Fr)(hp:HP)(K:Qf):Prop:=match p with
  | .bool t=>(t=want->opV C o (upd fr s (.bool want)) hp K)/\(t=(!want)->Qdx o (upd fr s (.bool !want)) hp K)
  | .tup []=>Qdx o fr hp K
  |_=>False
theorem Qb{p:Prop}[Decidable p]{x y:SC}{sk:List It}(h1:p->vc C R (.c x::sk) fr hp)(h2:¬p->vc C R (.c y::sk) fr hp):Qfu C R (.bool (decide p)) x y sk fr hp:=
 ⟨fun h=>h1 (of_decide_eq_true h),fun h=>h2 (of_decide_eq_false h)⟩
theorem Qig{b:Bool}{x y:SC}{sk:List It}(h1:b=true->vc C R (.c x::sk) fr hp)(h2:b=false->vc C R (.c y::sk) fr hp):Qfu C R (.bool b) x y sk fr hp:=⟨h1,h2⟩
theorem Qbq{p:Prop}[Decidable p]{s:Nat}{o:SOp}(h1:p->Qcm C (.bool true) s true o (upd fr s (.bool true)) hp K)(h2:¬p->Qcm C (.bool false) s true o (upd fr s (.bool false)) hp K):Qcm C (.bool (decide p)) s true o fr hp K:=by
 have hu:∀(b:Bool),upd (upd fr s (.bool b)) s (.bool b)=upd fr s (.bool b):=fun b=>by funext i;unfold upd;split<;>rfl
 refine⟨fun h=> ?_,fun h=> ?_⟩
 ·have:=(h1 (of_decide_eq_true h)).1 rfl
  rwa[hu]at this
 ·have:=(h2 (of_decide_eq_false h)).2 rfl
  rwa[show(!true)=false from rfl,hu]at this
theorem Qa9{p:Prop}[Decidable p]{s:Nat}{o:SOp}(h1:p->Qcm C (.bool true) s false o (upd fr s (.bool true)) hp K)(h2:¬p->Qcm C (.bool false) s false o (upd fr s (.bool false)) hp K):Qcm C (.bool (decide p)) s false o fr hp K:=by
 have hu:∀(b:Bool),upd (upd fr s (.bool b)) s (.bool b)=upd fr s (.bool b):=fun b=>by funext i;unfold upd;split<;>rfl
 refine⟨fun h=> ?_,fun h=> ?_⟩
 ·have:=(h2 (of_decide_eq_false h)).1 rfl
  rwa[hu]at this
 ·have:=(h1 (of_decide_eq_true h)).2 rfl
  rwa[show(!false)=true from rfl,hu]at this
theorem Qf8{b want:Bool}{s:Nat}{o:SOp}(h1:b=true->Qcm C (.bool true) s want o (upd fr s (.bool true)) hp K)(h2:b=false->Qcm C (.bool false) s want o (upd fr s (.bool false)) hp K):Qcm C (.bool b) s want o fr hp K:=by
 have:= @Qbq C fr hp K (b=true) _ s o
 have e:b=decide (b=true):=by cases b<;>rfl
 rw[e]
 cases want with
 |true=>exact Qbq h1 (fun h=>h2 (by simpa using h))
 |false=>exact Qa9 h1 (fun h=>h2 (by simpa using h))
theorem Q43{sk:List It}{c:Opd}{x y:SC}:vc C R (.c (.cond c x y)::sk) fr hp=Qfu C R (ev fr c) x y sk fr hp:=Qod
theorem Qadz{sk:List It}{x y:RT}:vc C R (.o (.br x y)::sk) fr hp=brV C R x y sk fr hp:=Q9j
theorem Qad0{sk:List It}{o:SOp}{r:RT}:vc C R (.o (.o none o r)::sk) fr hp=opV C o fr hp (vc C R (.o r::sk)):=Qqj
theorem Qad1{sk:List It}{s:Nat}{b:Bool}{o:SOp}{r:RT}:vc C R (.o (.o (some (s,b)) o r)::sk) fr hp=Qcm C (fr s) s b o fr hp (vc C R (.o r::sk)):=Qqj
theorem vcs:
  (∀(C:Ctx)(R:Qf)(sk:List It)(x y:SC)(fr:Fr)(hp:HP),vc C R (.c (.seq x y)::sk) fr hp=vc C R (.c x:: .c y::sk) fr hp)/\
  (∀(C:Ctx)(R:Qf)(sk:List It)(id:Nat)(x:SC)(fr:Fr)(hp:HP),vc C R (.c (.block id x)::sk) fr hp=vc C R (.c x:: .eb id::sk) fr hp)/\
  (∀(C:Ctx)(R:Qf)(sk:List It)(fr:Fr)(hp:HP),vc C R (.c .skip::sk) fr hp=vc C R sk fr hp)/\
  (∀(C:Ctx)(R:Qf)(sk:List It)(r:RT)(fr:Fr)(hp:HP),vc C R (.c (.rg r)::sk) fr hp=vc C R (.o r::sk) fr hp)/\
  (∀(C:Ctx)(R:Qf)(sk:List It)(id:Nat)(fr:Fr)(hp:HP),vc C R (.eb id::sk) fr hp=vc C R sk fr hp)/\
  (∀(C:Ctx)(R:Qf)(sk:List It)(J:Qf)(fr:Fr)(hp:HP),vc C R (.el J::sk) fr hp=J fr hp)/\
  (∀(C:Ctx)(R:Qf)(sk:List It)(fr:Fr)(hp:HP),vc C R (.c .ret::sk) fr hp=R fr hp)/\
  (∀(C:Ctx)(R:Qf)(fr:Fr)(hp:HP),vc C R [] fr hp=R fr hp)/\
  (∀(C:Ctx)(R:Qf)(sk:List It)(c:Opd)(x y:SC)(fr:Fr)(hp:HP),vc C R (.c (.cond c x y)::sk) fr hp=Qfu C R (ev fr c) x y sk fr hp)/\
  (∀(C:Ctx)(R:Qf)(sk:List It)(id:Nat)(fr:Fr)(hp:HP),vc C R (.c (.exit id)::sk) fr hp=Ql7 C R (FW.Qah id sk) fr hp)/\
  (∀(C:Ctx)(R:Qf)(sk:List It)(fr:Fr)(hp:HP),vc C R (.o .nil::sk) fr hp=vc C R sk fr hp)/\
  (∀(C:Ctx)(R:Qf)(sk:List It)(o:SOp)(r:RT)(fr:Fr)(hp:HP),vc C R (.o (.o none o r)::sk) fr hp=opV C o fr hp (vc C R (.o r::sk)))/\
  (∀(C:Ctx)(R:Qf)(sk:List It)(s:Nat)(b:Bool)(o:SOp)(r:RT)(fr:Fr)(hp:HP),vc C R (.o (.o (some (s,b)) o r)::sk) fr hp=Qcm C (fr s) s b o fr hp (vc C R (.o r::sk)))/\
  (∀(C:Ctx)(R:Qf)(sk:List It)(x y:RT)(fr:Fr)(hp:HP),vc C R (.o (.br x y)::sk) fr hp=brV C R x y sk fr hp)/\
  (∀(C:Ctx)(R:Qf)(x y:SC)(sk:List It)(fr:Fr)(hp:HP),Qfu C R (.bool true) x y sk fr hp=vc C R (.c x::sk) fr hp)/\
  (∀(C:Ctx)(R:Qf)(x y:SC)(sk:List It)(fr:Fr)(hp:HP),Qfu C R (.bool false) x y sk fr hp=vc C R (.c y::sk) fr hp)/\
  (∀(C:Ctx)(R:Qf)(sk:List It)(fr:Fr)(hp:HP),Ql7 C R (some sk) fr hp=vc C R sk fr hp)/\
  (∀(id:Nat)(s:SC)(sk:List It),FW.Qah id (.c s::sk)=FW.Qah id sk)/\
  (∀(id:Nat)(r:RT)(sk:List It),FW.Qah id (.o r::sk)=FW.Qah id sk)/\
  (∀(id:Nat)(J:Qf)(sk:List It),FW.Qah id (.el J::sk)=FW.Qah id sk)/\
  (∀(id i:Nat)(sk:List It),FW.Qah id (.eb i::sk)=if i=id then some sk else FW.Qah id sk)/\
  (∀(C:Ctx)(s:Nat)(o:SOp)(fr:Fr)(hp:HP)(K:Qf),Qcm C (.bool true) s true o fr hp K=opV C o (upd fr s (.bool true)) hp K)/\
  (∀(C:Ctx)(s:Nat)(o:SOp)(fr:Fr)(hp:HP)(K:Qf),Qcm C (.bool false) s true o fr hp K=Qdx o (upd fr s (.bool false)) hp K)/\
  (∀(C:Ctx)(s:Nat)(o:SOp)(fr:Fr)(hp:HP)(K:Qf),Qcm C (.bool true) s false o fr hp K=Qdx o (upd fr s (.bool true)) hp K)/\
  (∀(C:Ctx)(s:Nat)(o:SOp)(fr:Fr)(hp:HP)(K:Qf),Qcm C (.bool false) s false o fr hp K=opV C o (upd fr s (.bool false)) hp K)/\
  (∀(C:Ctx)(s:Nat)(b:Bool)(o:SOp)(fr:Fr)(hp:HP)(K:Qf),Qcm C (.tup []) s b o fr hp K=Qdx o fr hp K):=by
 refine⟨fun _ _ _ _ _ _ _=>Qqm,fun _ _ _ _ _ _ _=>Ql5,fun _ _ _ _ _=>Qoc,fun _ _ _ _ _ _=>Qy8,fun _ _ _ _ _ _=>Qt6,fun _ _ _ _ _ _=>Ql6,fun _ _ _ _ _=>Qqn,fun _ _ _ _=>Qif,fun _ _ _ _ _ _ _ _=>Q43,
  fun _ _ _ _ _ _=>Qoe,fun _ _ _ _ _=>Qnm,fun _ _ _ _ _ _ _=>Qad0,fun _ _ _ _ _ _ _ _ _=>Qad1,fun _ _ _ _ _ _ _=>Qadz,fun _ _ _ _ _ _ _=> ?_,fun _ _ _ _ _ _ _=> ?_,fun _ _ _ _ _=>rfl,fun _ _ _=>rfl,fun _ _ _=>rfl,fun _ _ _=>rfl,fun _ _ _=>rfl,?_,?_,?_,?_,fun _ _ _ _ _ _ _=>rfl⟩
 ·simp[Qfu,Qiu]
 ·simp[Qfu,Qiu]
 all_goals intros;simp[Qcm]
end Go.FW
namespace Go.FW
open Go
variable {C : Ctx} {fr : Fr} {hp : HP} {K R : Qf}
theorem Qgt{n:Int}(h1: -9223372036854775808<=n)(h2:n<=9223372036854775807):IntKind.i64.wrap n=n:=by rw[IntKind.wrap_i64];omega
theorem Q44{n:Int}(h1: -2147483648<=n)(h2:n<=2147483647):IntKind.i32.wrap n=n:=by rw[IntKind.wrap_i32];omega
theorem Qe8{n:Int}(h1:0<=n)(h2:n<=18446744073709551615):IntKind.u64.wrap n=n:=by rw[IntKind.wrap_u64];omega
theorem Qma{n:Int}(h1:0<=n)(h2:n<=4294967295):IntKind.u32.wrap n=n:=by rw[IntKind.wrap_u32];omega
theorem Q45{n:Int}(h1:0<=n)(h2:n<=65535):IntKind.u16.wrap n=n:=by simp only[IntKind.wrap,IntKind.bits,IntKind.signed];simp;omega
theorem Q9s{n:Int}(h1:0<=n)(h2:n<=255):IntKind.u8.wrap n=n:=by rw[IntKind.wrap_u8];omega
theorem Q9t{x y:Int}(h:0<=x):x.tdiv y=x/y:=Int.tdiv_eq_ediv_of_nonneg h
theorem Q9u{x y:Int}(h:0<=x):x.tmod y=x%y:=Int.tmod_eq_emod_of_nonneg h
def ldM(hb:Option HB)(n:Nat)(ag:Bool)(i o:Nat)(d:Nat)(fr:Fr)(hp:HP)(K:Qf):Prop:=match hb with
 |some hb=>∃h:i<hb.xs.length,o+n<=hb.e/\(ag=false->n=1)/\K (upd fr d (ldV ag n o (hb.xs[i]'h))) hp
 |none=>False
def stM (hb:Option HB) (β:Nat) (n:Nat) (i o:Nat) (v:PV) (fr:Fr) (hp:HP) (K:Qf):Prop:=match hb with
  |some hb=>hb.fz=false/\v.isData=true/\v.cells.length=n/\∃h:i<hb.xs.length,o+n<=hb.e/\
        K fr (Qg hp β { hb with xs:=hb.xs.set i (if n=hb.e then v else stV (hb.xs[i]'h) o v) })
  |none=>False
def Qr2(R:PV->Prop)(p:PV):Prop:=p.isData=true/\∃q,PV.le p q/\R q
theorem Qc{p r:PV}(h:p=r)(hd:r.isData=true):Qr2 (· =r) p:=by subst h;exact⟨hd,_,Qy _,rfl⟩
theorem Qhu{p r:PV}(h:PV.le p r)(hd:p.isData=true):Qr2 (· =r) p:=⟨hd,_,h,rfl⟩
theorem Qx0{e ty n:Nat}{ag fz:Bool}{o d:Nat}{x:PV}(h:o+n<=e)(ha:ag=false->n=1):ldM (some ⟨e,ty,[x],fz⟩) n ag 0 o d fr hp K=K (upd fr d (ldV ag n o x)) hp:=by
 simp[ldM,h];intro _;exact ha
theorem Qih{e ty n i:Nat}{ag fz:Bool}{o d:Nat}{xs:List PV}(h:i<xs.length)(h1:o+n<=e)(ha:ag=false->n=1):ldM (some ⟨e,ty,xs,fz⟩) n ag i o d fr hp K=K (upd fr d (ldV ag n o (xs[i]'h))) hp:=by
 simp[ldM,h,h1];intro _;exact ha
theorem Qad2{e ty n β i:Nat}{o:Nat}{xs:List PV}{v:PV}(h:i<xs.length)(hv:v.isData=true)(hl:v.cells.length=n)(h1:o+n<=e):stM (some ⟨e,ty,xs,false⟩) β n i o v fr hp K=K fr (Qg hp β ⟨e,ty,xs.set i (if n=e then v else stV (xs[i]'h) o v),false⟩):=by
 simp[stM,h,h1,hv,hl]
theorem Qe5{ty n β i:Nat}{xs:List PV}{v:PV}(h:i<xs.length)(hv:v.isData=true)(hl:v.cells.length=n):stM (some ⟨n,ty,xs,false⟩) β n i 0 v fr hp K=K fr (Qg hp β ⟨n,ty,xs.set i v,false⟩):=by
 rw[Qad2 h hv hl (by omega)];simp
theorem Qu0{e d:Nat}{k:IntKind}{m:Int}{xs:List PV}(h0:0<=m)(h:m<xs.length):Qed e (.sl e xs) (.int k m) d fr hp K=K (upd fr d (.pt (xs[m.toNat]'(by omega)).cells)) hp:=by
 have:m.toNat<xs.length:=by omega
 simp[Qed,h0,this]
theorem Qi3{α:Type}{f:α->PV}{e d:Nat}{k:IntKind}{m:Int}{xs:List α}(h0:0<=m)(h:m<xs.length):Qed e (.sl e (xs.map f)) (.int k m) d fr hp K=K (upd fr d (.pt (f (xs[m.toNat]'(by omega))).cells)) hp:=by
 rw[Qu0 h0 (by simpa using h)];simp
theorem Qad3{e d β o n:Nat}{k:IntKind}{m:Int}(h0:0<=m)(h:m<n)(he:(hp β).map (·.e)=some e):Qed e (.mso β o n) (.int k m) d fr hp K=K (upd fr d (.mp β (o+m.toNat) 0)) hp:=by
 have:m.toNat<n:=by omega
 simp[Qed,h0,this,he]
theorem Qt7{e by_ ty d:Nat}{z:PV}{k k':IntKind}{L Cc:Int}(h0:0<e)(hz:z.cells.length=e)(h1:0<=L)(h2:L<=Cc)(h3:by_*Cc<=281474976710656)(h4:Cc<=9223372036854775807):
  mkK e by_ ty z (.int k L) (.int k' Cc) d fr hp K=K (upd (Qap d fr) d (.ms d L.toNat)) (Qg hp d ⟨e,ty,List.replicate L.toNat z,false⟩):=by
 simp[mkK,h0,hz,h1,h2,h3,h4]
theorem Qad4{n ty d β o m:Nat}(hB:isY β=true):Qd7 n ty (.mso β o m) d fr hp K=K (upd fr d (.rb β o m)) hp:=by
 simp[Qd7,hB]
theorem Qag1{d β o m:Nat}:ldK 1 false (.rb β o m) d fr hp K=K (upd fr d (.mso β o m)) hp:=by simp[ldK]
theorem Qqp{e by_ ty d:Nat}{x:PV}{ys:List PV}(hs:Qc1 hp x=some (e,ys))(h0:0<e)(h1:ys.length*by_<=140737488355328)(h2:ys.length<=9223372036854775807):
  Qdr e by_ ty .nilS x d fr hp K=K (upd (Qap d fr) d (.ms d ys.length)) (Qg hp d ⟨e,ty,ys,false⟩):=by
 simp[Qdr,hs,h0,h1,h2]
theorem Qmb{e by_ ty d β n:Nat}{x:PV}{ys xs:List PV}(hs:Qc1 hp x=some (e,ys))(hb:hp β=some ⟨e,ty,xs,false⟩)(h0:0<e)(hn:n<=xs.length)(h1:(n+ys.length)*by_<=140737488355328)(h2:n+ys.length<=9223372036854775807)(hB:isB β=false:=by decide):
  Qdr e by_ ty (.ms β n) x d fr hp K=K (upd (Qap β fr) d (.ms β (n+ys.length))) (Qg hp β ⟨e,ty,xs.take n++ys,false⟩):=by
 simp[Qdr,hs,hb,h0,hn,h1,h2,hB]
theorem Qzf{e d:Nat}{xs:List PV}{lo hi:Option PV}{L H:Int}(h1:Qbz 0 lo=some L)(h2:Qbz xs.length hi=some H)(h3:0<=L)(h4:L<=H)(h5:H<=xs.length):
  slK e (.sl e xs) lo hi none d fr hp K=K (upd fr d (.sl e ((xs.take H.toNat).drop L.toNat))) hp:=by
 have hM:Qbz (xs.length) none=some (xs.length:Int):=rfl
 simp only[slK,h1,h2,hM]
 simp[h3,h4,h5]
theorem Qag2{e d:Nat}{xs:List PV}{k:IntKind}{H:Int}(h4:0<=H)(h5:H<=xs.length):
  slK e (.sl e xs) none (some (.int k H)) none d fr hp K=K (upd fr d (.sl e (xs.take H.toNat))) hp:=by
 rw[Qzf (L:=0) (H:=H) rfl rfl (by omega) h4 h5];simp
theorem Qag3{e d:Nat}{xs:List PV}{k:IntKind}{L:Int}(h4:0<=L)(h5:L<=xs.length):
  slK e (.sl e xs) (some (.int k L)) none none d fr hp K=K (upd fr d (.sl e (xs.drop L.toNat))) hp:=by
 rw[Qzf (L:=L) (H:=xs.length) rfl rfl h4 h5 (by omega)];simp
theorem ops1:
  (∀(C:Ctx)(d:Nat)(x:Opd)(fr:Fr)(hp:HP)(K:Qf),opV C (.mv d x) fr hp K=K (upd fr d (ev fr x)) hp)/\
  (∀(C:Ctx)(d:Nat)(c a b:Opd)(fr:Fr)(hp:HP)(K:Qf),opV C (.pick d c a b) fr hp K=Qir (ev fr c) (ev fr a) (ev fr b) d fr hp K)/\
  (∀(C:Ctx)(d:Nat)(op:BinOp)(bt:Bool)(a b:Opd)(fr:Fr)(hp:HP)(K:Qf),opV C (.bin d op bt a b) fr hp K=Qa4 op bt (ev fr a) (ev fr b) d fr hp K)/\
  (∀(C:Ctx)(d:Nat)(op:UnOp)(a:Opd)(fr:Fr)(hp:HP)(K:Qf),opV C (.un d op a) fr hp K=unK op (ev fr a) d fr hp K)/\
  (∀(C:Ctx)(d:Nat)(k:IntKind)(a:Opd)(fr:Fr)(hp:HP)(K:Qf),opV C (.conv d k a) fr hp K=Qlz k (ev fr a) d fr hp K)/\
  (∀(C:Ctx)(d:Nat)(a:Opd)(fr:Fr)(hp:HP)(K:Qf),opV C (.len d a) fr hp K=Qin (ev fr a) d fr hp K)/\
  (∀(C:Ctx)(d:Nat)(a b:Opd)(fr:Fr)(hp:HP)(K:Qf),opV C (.mx d a b) fr hp K=mxK (ev fr a) (ev fr b) d fr hp K)/\
  (∀(C:Ctx)(d:Nat)(a b:Opd)(fr:Fr)(hp:HP)(K:Qf),opV C (.mn d a b) fr hp K=mnK (ev fr a) (ev fr b) d fr hp K)/\
  (∀(C:Ctx)(d e:Nat)(a b:Opd)(fr:Fr)(hp:HP)(K:Qf),opV C (.idx d e a b) fr hp K=Qed e (ev fr a) (ev fr b) d fr hp K)/\
  (∀(C:Ctx)(d n e:Nat)(a b:Opd)(fr:Fr)(hp:HP)(K:Qf),opV C (.idxA d n e a b) fr hp K=Qob n e (ev fr a) (ev fr b) d fr hp K)/\
  (∀(C:Ctx)(d n e:Nat)(ag:Bool)(a b:Opd)(fr:Fr)(hp:HP)(K:Qf),opV C (.ixv d n e ag a b) fr hp K=Qru n e ag (ev fr a) (ev fr b) d fr hp K)/\
  (∀(C:Ctx)(d off:Nat)(a:Opd)(fr:Fr)(hp:HP)(K:Qf),opV C (.fld d off a) fr hp K=Qkn off (ev fr a) d fr hp K)/\
  (∀(C:Ctx)(d off n:Nat)(ag:Bool)(a:Opd)(fr:Fr)(hp:HP)(K:Qf),opV C (.fldv d off n ag a) fr hp K=Qhz off n ag (ev fr a) d fr hp K)/\
  (∀(C:Ctx)(d n:Nat)(ag:Bool)(a:Opd)(fr:Fr)(hp:HP)(K:Qf),opV C (.ld d n ag a) fr hp K=ldK n ag (ev fr a) d fr hp K)/\
  (∀(C:Ctx)(n:Nat)(a b:Opd)(fr:Fr)(hp:HP)(K:Qf),opV C (.st n a b) fr hp K=stK n (ev fr a) (ev fr b) fr hp K)/\
  (∀(C:Ctx)(d n ty:Nat)(a:Opd)(fr:Fr)(hp:HP)(K:Qf),opV C (.box d n ty a) fr hp K=Qd7 n ty (ev fr a) d fr hp K)/\
  (∀(C:Ctx)(d n ty:Nat)(z:PV)(fr:Fr)(hp:HP)(K:Qf),opV C (.alloc d n ty z) fr hp K=Qd7 n ty z d fr hp K)/\
  (∀(C:Ctx)(d e by_ ty:Nat)(z:PV)(l c:Opd)(fr:Fr)(hp:HP)(K:Qf),opV C (.mk d e by_ ty z l c) fr hp K=mkK e by_ ty z (ev fr l) (ev fr c) d fr hp K)/\
  (∀(C:Ctx)(d e ty:Nat)(ps:List Opd)(fr:Fr)(hp:HP)(K:Qf),opV C (.bs d e ty ps) fr hp K=bsK e ty (ps.map (ev fr)) d fr hp K)/\
  (∀(C:Ctx)(d e by_ ty:Nat)(a b:Opd)(fr:Fr)(hp:HP)(K:Qf),opV C (.app d e by_ ty a b) fr hp K=Qdr e by_ ty (ev fr a) (ev fr b) d fr hp K)/\
  (∀(C:Ctx)(d e:Nat)(a b:Opd)(fr:Fr)(hp:HP)(K:Qf),opV C (.cpy d e a b) fr hp K=Qjg e (ev fr a) (ev fr b) d fr hp K)/\
  (∀(C:Ctx)(d e:Nat)(a:Opd)(l h m:Option Opd)(fr:Fr)(hp:HP)(K:Qf),opV C (.sl d e a l h m) fr hp K=slK e (ev fr a) (l.map (ev fr)) (h.map (ev fr)) (m.map (ev fr)) d fr hp K)/\
  (∀(C:Ctx)(d:Nat)(a:Opd)(i:Nat)(fr:Fr)(hp:HP)(K:Qf),opV C (.ext d a i) fr hp K=Qjh (ev fr a) i d fr hp K)/\
  (∀(C:Ctx)(d:Nat)(z:List PV)(ps:List (Nat×Nat×Opd))(fr:Fr)(hp:HP)(K:Qf),opV C (.bld d z ps) fr hp K=Qfx z (ps.map fun p=>(p.1,p.2.1,ev fr p.2.2)) d fr hp K)/\
  (∀(C:Ctx)(d f:Nat)(x y:List Opd)(fr:Fr)(hp:HP)(K:Qf),opV C (.fn d f x y) fr hp K=((x.map (ev fr)++y.map (ev fr)).all PV.isCap=true/\K (upd fr d (.fn f (x.map (ev fr)) (y.map (ev fr)))) hp))/\
  (∀(C:Ctx)(d:Option Nat)(pr:Bool)(f:Opd)(ars:List Opd)(fr:Fr)(hp:HP)(K:Qf),opV C (.call d pr f ars) fr hp K=Qcj C pr (ev fr f) (ars.map (ev fr)) d fr hp K)/\
  (∀(C:Ctx)(d:Option Nat)(x:Opd)(fr:Fr)(hp:HP)(K:Qf),opV C (.nilc d x) fr hp K=Qqa (ev fr x) d fr hp K)/\
  (∀(fr:Fr)(n:Nat),ev fr (.t n)=fr n)/\(∀(fr:Fr)(p:PV),ev fr (.c p)=p):=by
 refine⟨?_,?_,?_,?_,?_,?_,?_,?_,?_,?_,?_,?_,?_,?_,?_,?_,?_,?_,?_,?_,?_,?_,?_,?_,?_,?_,?_,?_,?_⟩<;>intros<;>rfl
theorem ops2:
  (∀(bt:Bool)(k:IntKind)(x y:Int)(d:Nat)(fr:Fr)(hp:HP)(K:Qf),Qa4 .add bt (.int k x) (.int k y) d fr hp K=K (upd fr d (.int k (k.wrap (x+y)))) hp)/\
  (∀(bt:Bool)(k:IntKind)(x y:Int)(d:Nat)(fr:Fr)(hp:HP)(K:Qf),Qa4 .sub bt (.int k x) (.int k y) d fr hp K=K (upd fr d (.int k (k.wrap (x-y)))) hp)/\
  (∀(bt:Bool)(k:IntKind)(x y:Int)(d:Nat)(fr:Fr)(hp:HP)(K:Qf),Qa4 .mul bt (.int k x) (.int k y) d fr hp K=K (upd fr d (.int k (k.wrap (x*y)))) hp)/\
  (∀(bt:Bool)(k:IntKind)(x y:Int)(d:Nat)(fr:Fr)(hp:HP)(K:Qf),Qa4 .eql bt (.int k x) (.int k y) d fr hp K=K (upd fr d (.bool (decide (x=y)))) hp)/\
  (∀(bt:Bool)(k:IntKind)(x y:Int)(d:Nat)(fr:Fr)(hp:HP)(K:Qf),Qa4 .neq bt (.int k x) (.int k y) d fr hp K=K (upd fr d (.bool (decide (¬x=y)))) hp)/\
  (∀(bt:Bool)(k:IntKind)(x y:Int)(d:Nat)(fr:Fr)(hp:HP)(K:Qf),Qa4 .lss bt (.int k x) (.int k y) d fr hp K=K (upd fr d (.bool (decide (x<y)))) hp)/\
  (∀(bt:Bool)(k:IntKind)(x y:Int)(d:Nat)(fr:Fr)(hp:HP)(K:Qf),Qa4 .leq bt (.int k x) (.int k y) d fr hp K=K (upd fr d (.bool (decide (x<=y)))) hp)/\
  (∀(bt:Bool)(k:IntKind)(x y:Int)(d:Nat)(fr:Fr)(hp:HP)(K:Qf),Qa4 .gtr bt (.int k x) (.int k y) d fr hp K=K (upd fr d (.bool (decide (y<x)))) hp)/\
  (∀(bt:Bool)(k:IntKind)(x y:Int)(d:Nat)(fr:Fr)(hp:HP)(K:Qf),Qa4 .geq bt (.int k x) (.int k y) d fr hp K=K (upd fr d (.bool (decide (y<=x)))) hp)/\
  (∀(x y:Bool)(d:Nat)(fr:Fr)(hp:HP)(K:Qf),Qa4 .eql true (.bool x) (.bool y) d fr hp K=K (upd fr d (.bool (x==y))) hp)/\
  (∀(x y:Bool)(d:Nat)(fr:Fr)(hp:HP)(K:Qf),Qa4 .neq true (.bool x) (.bool y) d fr hp K=K (upd fr d (.bool (!(x==y)))) hp)/\
  (∀(b:Bool)(d:Nat)(fr:Fr)(hp:HP)(K:Qf),unK .not (.bool b) d fr hp K=K (upd fr d (.bool (!b))) hp)/\
  (∀(k:IntKind)(n:Int)(d:Nat)(fr:Fr)(hp:HP)(K:Qf),unK .neg (.int k n) d fr hp K=K (upd fr d (.int k (k.wrap (0-n)))) hp)/\
  (∀(k k':IntKind)(n:Int)(d:Nat)(fr:Fr)(hp:HP)(K:Qf),Qlz k (.int k' n) d fr hp K=K (upd fr d (.int k (k.wrap n))) hp)/\
  (∀(d:Nat)(fr:Fr)(hp:HP)(K:Qf),Qin .nilS d fr hp K=K (upd fr d (.int .i64 0)) hp)/\
  (∀(e:Nat)(xs:List PV)(d:Nat)(fr:Fr)(hp:HP)(K:Qf),Qin (.sl e xs) d fr hp K=K (upd fr d (.int .i64 xs.length)) hp)/\
  (∀(β o n:Nat)(d:Nat)(fr:Fr)(hp:HP)(K:Qf),Qin (.mso β o n) d fr hp K=K (upd fr d (.int .i64 n)) hp)/\
  (∀(k k':IntKind)(x y:Int)(d:Nat)(fr:Fr)(hp:HP)(K:Qf),mxK (.int k x) (.int k' y) d fr hp K=K (upd fr d (.int k (max x y))) hp)/\
  (∀(k k':IntKind)(x y:Int)(d:Nat)(fr:Fr)(hp:HP)(K:Qf),mnK (.int k x) (.int k' y) d fr hp K=K (upd fr d (.int k (min x y))) hp)/\
  (∀(a b:PV)(d:Nat)(fr:Fr)(hp:HP)(K:Qf),Qir (.bool true) a b d fr hp K=K (upd fr d a) hp)/\
  (∀(a b:PV)(d:Nat)(fr:Fr)(hp:HP)(K:Qf),Qir (.bool false) a b d fr hp K=K (upd fr d b) hp)/\
  (∀(off β i o:Nat)(d:Nat)(fr:Fr)(hp:HP)(K:Qf),Qkn off (.mp β i o) d fr hp K=K (upd fr d (.mp β i (o+off))) hp)/\
  (∀(n:Nat)(ag:Bool)(β i o:Nat)(d:Nat)(fr:Fr)(hp:HP)(K:Qf),ldK n ag (.mp β i o) d fr hp K=ldM (hp β) n ag i o d fr hp K)/\
  (∀(c:PV)(cs:List PV)(d:Nat)(fr:Fr)(hp:HP)(K:Qf),ldK 1 false (.pt (c::cs)) d fr hp K=K (upd fr d c) hp)/\
  (∀(n:Nat)(β i o:Nat)(v:PV)(fr:Fr)(hp:HP)(K:Qf),stK n (.mp β i o) v fr hp K=stM (Q9 hp v.refs β) β n i o (Q8 hp v) fr (Q9 hp v.refs) K)/\
  (∀(ps:List PV)(p:PV)(d:Nat)(fr:Fr)(hp:HP)(K:Qf),Qjh (.tup (p::ps)) 0 d fr hp K=(p.isData=true/\K (upd fr d p) hp))/\
  (∀(ps:List PV)(p q:PV)(d:Nat)(fr:Fr)(hp:HP)(K:Qf),Qjh (.tup (p::q::ps)) 1 d fr hp K=(q.isData=true/\K (upd fr d q) hp))/\
  (∀(ps:List PV)(p q r:PV)(d:Nat)(fr:Fr)(hp:HP)(K:Qf),Qjh (.tup (p::q::r::ps)) 2 d fr hp K=(r.isData=true/\K (upd fr d r) hp))/\
  (∀(s:Nat)(Rr:PV->Prop)(fr:Fr)(hp:HP),Qdc [.t s] Rr fr hp=Qr2 Rr (Q8 hp (fr s)))/\
  (∀(e:Nat)(xs:List PV),Qc1 hp0 (.sl e xs)=some (e,xs))/\
  (∀(hp:HP),Q9 hp []=hp)/\
  (∀(fr:Fr)(r:PV),Qbp fr none r=fr)/\(∀(fr:Fr)(d:Nat)(r:PV),Qbp fr (some d) r=upd fr d r)/\
  (∀(β:Nat)(fr:Fr)(i:Nat),Qap β fr i=Qan β (fr i)):=by
 refine⟨?_,?_,?_,?_,?_,?_,?_,?_,?_,?_,?_,?_,?_,?_,?_,?_,?_,?_,?_,?_,?_,?_,?_,?_,?_,?_,?_,?_,?_,?_,?_,?_,?_,?_⟩<;>intros
 all_goals first
  |rfl
  |(simp[Qa4,Qir,Qjh,ldK,ldV,PV.cells,stK,stM];done)
  |(simp[Qa4,Qir,Qjh,ldK,ldV,PV.cells,stK,stM];try rfl)
  |skip
end Go.FW
namespace Go.FW
open Go
variable {C : Ctx} {ρ : Nat -> Option Nat} {fr : Fr} {hp : HP} {w : World} {K R : Qf}
theorem Q1j(i β e ty:Nat)(he:0<e)(hi:fr i= .nilS)(hB:isB β=false:=by decide):Wk fr hp (upd (Qap β fr) i (.ms β 0)) (Qg hp β ⟨e,ty,[],false⟩):=by
 rintro C tmps w ⟨ρ,hs⟩
 have hr:=hs.rebind (w':=w) β none ⟨e,ty,[],false⟩ hB (Ext.refl _ _) (by simp) he (by simp) (by simp) (by simp)
 refine⟨_,hr.sz,hr.ext,hr.keep,hr.own,hr.inj,fun j=> ?_⟩
 unfold upd
 split
 ·rename_i hj
  subst hj
  have:=hs.slots j
  rw[hi]at this
  have e:=Qm.nil_inv this
  exact⟨_,by simp[Qg];rfl,by simp,.inl ⟨Qb5 _ _ _,e,rfl,rfl⟩⟩
 ·exact hr.slots j
end Go.FW
namespace Go.FW
open Go
variable {C : Ctx} {ρ : Nat -> Option Nat} {fr : Fr} {hp : HP} {w : World} {K R : Qf}
theorem Q9v(fr:Fr)(a:Nat)(v w:PV):upd (upd fr a v) a w=upd fr a w:=by funext i;unfold upd;split<;>rfl
theorem Qii{α:Type}{f:α->PV}{e d:Nat}{xs:List α}{k:IntKind}{H:Int}(h4:0<=H)(h5:H<=xs.length):
  slK e (.sl e (xs.map f)) none (some (.int k H)) none d fr hp K=K (upd fr d (.sl e ((xs.take H.toNat).map f))) hp:=by
 rw[Qag2 h4 (by simpa using h5)];simp
theorem Q1k{α:Type}{f:α->PV}{e d:Nat}{xs:List α}{k:IntKind}{L:Int}(h4:0<=L)(h5:L<=xs.length):
  slK e (.sl e (xs.map f)) (some (.int k L)) none none d fr hp K=K (upd fr d (.sl e ((xs.drop L.toNat).map f))) hp:=by
 rw[Qag3 h4 (by simpa using h5)];simp
theorem Qw1{α:Type}{f:α->PV}{e d:Nat}{xs:List α}{k k':IntKind}{L H:Int}(h3:0<=L)(h4:L<=H)(h5:H<=xs.length):
  slK e (.sl e (xs.map f)) (some (.int k L)) (some (.int k' H)) none d fr hp K=K (upd fr d (.sl e (((xs.take H.toNat).drop L.toNat).map f))) hp:=by
 rw[Qzf (L:=L) (H:=H) rfl rfl h3 h4 (by simpa using h5)];simp
theorem Q9w(hp:HP)(e:Nat)(xs:List PV):Q8 hp (.sl e xs)= .sl e xs:=rfl
theorem Q46(hp:HP)(k:IntKind)(n:Int):Q8 hp (.int k n)= .int k n:=rfl
theorem Q1l(hp:HP)(b:Bool):Q8 hp (.bool b)= .bool b:=rfl
theorem Q47(hp:HP)(cs:List PV):Q8 hp (.agg cs)= .agg cs:=rfl
theorem Q48(hp:HP):Q8 hp .nilS= .nilS:=rfl
theorem Qr3(hp:HP)(β n:Nat)(e ty:Nat)(xs:List PV)(fz:Bool)(h:hp β=some ⟨e,ty,xs,fz⟩)(hB:isB β=false:=by decide):Q8 hp (.ms β n)= .sl e (xs.take n):=by simp[Q8,Qaq,h,Qjf hB]
theorem Q9x(e:Nat)(xs:List PV):(PV.sl e xs).refs=[]:=rfl
theorem Q49(k:IntKind)(n:Int):(PV.int k n).refs=[]:=rfl
theorem Q1m(b:Bool):(PV.bool b).refs=[]:=rfl
theorem Q5a(cs:List PV):(PV.agg cs).refs=[]:=rfl
theorem Q5b:PV.nilS.refs=[]:=rfl
theorem Q5c(β e:Nat)(xs:List PV):Qan β (.sl e xs)= .sl e xs:=rfl
theorem Q1n(β:Nat)(k:IntKind)(n:Int):Qan β (.int k n)= .int k n:=rfl
theorem Qzg(β:Nat)(b:Bool):Qan β (.bool b)= .bool b:=rfl
theorem Q1o(β:Nat)(cs:List PV):Qan β (.agg cs)= .agg cs:=rfl
theorem Q1p(β:Nat):Qan β .nilS= .nilS:=rfl
theorem Qu1(β γ o n:Nat):Qan β (.mso γ o n)=if γ=β then .undef else .mso γ o n:=by
 by_cases h:γ=β
 ·subst h;simp[Qan,PV.refs]
 ·simp[Qan,PV.refs,h];intro h';exact absurd h'.symm h
theorem Q5d(β γ o n:Nat):Qan β (.rb γ o n)=if γ=β then .undef else .rb γ o n:=by
 by_cases h:γ=β
 ·subst h;simp[Qan,PV.refs]
 ·simp[Qan,PV.refs,h];intro h';exact absurd h'.symm h
theorem Qu2(β γ i o:Nat):Qan β (.mp γ i o)=if γ=β then .undef else .mp γ i o:=by
 by_cases h:γ=β
 ·subst h;simp[Qan,PV.refs]
 ·simp[Qan,PV.refs,h];intro h';exact absurd h'.symm h
theorem Qag4:
  (∀(fr:Fr)(a:Nat)(v:PV)(b:Nat),upd fr a v b=if b=a then v else fr b)/\
  (∀(h:HP)(a:Nat)(v:HB)(b:Nat),Qg h a v b=if b=a then some v else h b)/\
  (∀(β:Nat),hp0 β=none)/\
  (∀(hp:HP)(e:Nat)(xs:List PV),Q8 hp (.sl e xs)= .sl e xs)/\
  (∀(hp:HP)(k:IntKind)(n:Int),Q8 hp (.int k n)= .int k n)/\
  (∀(hp:HP)(b:Bool),Q8 hp (.bool b)= .bool b)/\
  (∀(hp:HP)(cs:List PV),Q8 hp (.agg cs)= .agg cs)/\
  (∀(hp:HP),Q8 hp .nilS= .nilS)/\
  (∀(e:Nat)(xs:List PV),(PV.sl e xs).refs=[])/\
  (∀(k:IntKind)(n:Int),(PV.int k n).refs=[])/\
  (∀(b:Bool),(PV.bool b).refs=[])/\
  (∀(cs:List PV),(PV.agg cs).refs=[])/\
  (PV.nilS.refs=[])/\
  (∀(β o n:Nat),(PV.mso β o n).refs=[β])/\
  (∀(β i o:Nat),(PV.mp β i o).refs=[β])/\
  (∀(β e:Nat)(xs:List PV),Qan β (.sl e xs)= .sl e xs)/\
  (∀(β:Nat)(k:IntKind)(n:Int),Qan β (.int k n)= .int k n)/\
  (∀(β:Nat)(b:Bool),Qan β (.bool b)= .bool b)/\
  (∀(β:Nat)(cs:List PV),Qan β (.agg cs)= .agg cs)/\
  (∀(β:Nat),Qan β .nilS= .nilS)/\
  (∀(β γ o n:Nat),Qan β (.mso γ o n)=if γ=β then .undef else .mso γ o n)/\
  (∀(β γ i o:Nat),Qan β (.mp γ i o)=if γ=β then .undef else .mp γ i o)/\
  (∀(β γ o n:Nat),Qan β (.rb γ o n)=if γ=β then .undef else .rb γ o n)/\
  (∀(β o n:Nat),(PV.rb β o n).refs=[β])/\
  (∀(o:SOp)(fr:Fr)(hp:HP)(K:Qf),Qdx o fr hp K=match o.dst with|some d=>K (upd fr d (.tup [])) hp|none=>K fr hp)/\
  (∀(f:Opd->PV),Option.map f none=none)/\(∀(f:Opd->PV)(x:Opd),Option.map f (some x)=some (f x))/\
  (∀(k:IntKind)(n:Int),(PV.int k n).cells=[.int k n])/\
  (∀(b:Bool),(PV.bool b).cells=[.bool b])/\
  (∀(e:Nat)(xs:List PV),(PV.sl e xs).cells=[.sl e xs])/\
  (∀(cs:List PV),(PV.agg cs).cells=cs):=by
 refine⟨fun _ _ _ _=>rfl,fun _ _ _ _=>rfl,fun _=>rfl,Q9w,Q46,Q1l,Q47,Q48,Q9x,Q49,Q1m,Q5a,Q5b,fun _ _ _=>rfl,fun _ _ _=>rfl,Q5c,Q1n,Qzg,Q1o,Q1p,Qu1,Qu2,Q5d,fun _ _ _=>rfl,fun _ _ _ _=>rfl,fun _=>rfl,fun _ _=>rfl,fun _ _=>rfl,fun _=>rfl,fun _ _=>rfl,fun _=>rfl⟩
theorem Qag5{p:Nat->Prop}(h:∃m,p m):∃m,p m/\∀k,p k->m<=k:=by
 obtain⟨m,hm⟩:=h
 induction m using Nat.strongRecOn with
 |ind m ih=>
  by_cases hk:∃k,k<m/\p k
  ·obtain⟨k,h1,h2⟩:=hk;exact ih k h1 h2
  ·exact⟨m,hm,fun k hk'=>Nat.le_of_not_lt fun hlt=>hk ⟨k,hlt,hk'⟩⟩
def Qlg(I:Nat->Qf)(n:Nat):Qf:=fun fr' hp'=>∃fr0 hp0,Wk fr' hp' fr0 hp0/\∃m,m<n/\I m fr0 hp0
theorem Qb6{I:Nat->Qf}{n m:Nat}(hl:m<n)(h:I m fr hp):Qlg I n fr hp:=⟨fr,hp,Wk.refl _ _,m,hl,h⟩
theorem Qpt{I:Nat->Qf}{n m:Nat}{fr':Fr}{hp':HP}(hl:m<n)(hw:Wk fr hp fr' hp')(h:I m fr' hp'):Qlg I n fr hp:=⟨fr',hp',hw,m,hl,h⟩
theorem Qij{sk:List It}{x:SC}(I:Nat->Qf)(m0:Nat){fr0:Fr}{hp0:HP}(hw:Wk fr hp fr0 hp0)(h0:I m0 fr0 hp0)(h:∀m fr hp,I m fr hp->vc C R (.c x:: .el (Qlg I m)::sk) fr hp):vc C R (.c (.loop x)::sk) fr hp:=by
 refine Q4z (fun fr hp=>∃m,I m fr hp) (fun fr hp=>Classical.epsilon fun m=>I m fr hp/\∀k,I k fr hp->m<=k) hw ⟨m0,h0⟩ ?_
 intro fr hp hI
 have key:∀fr hp,(∃m,I m fr hp)->I (Classical.epsilon fun m=>I m fr hp/\∀k,I k fr hp->m<=k) fr hp/\∀k,I k fr hp->(Classical.epsilon fun m=>I m fr hp/\∀k,I k fr hp->m<=k)<=k:=fun fr hp hI=>Classical.epsilon_spec (Qag5 hI)
 have e:Qof (fun fr hp=>∃m,I m fr hp) (fun fr hp=>Classical.epsilon fun m=>I m fr hp/\∀k,I k fr hp->m<=k) (Classical.epsilon fun m=>I m fr hp/\∀k,I k fr hp->m<=k)=Qlg I (Classical.epsilon fun m=>I m fr hp/\∀k,I k fr hp->m<=k):=by
  funext fr' hp'
  apply propext
  constructor
  ·rintro⟨fr0,hp0,h1,h2,h3⟩;exact⟨fr0,hp0,h1,_,h3,(key fr0 hp0 h2).1⟩
  ·rintro⟨fr0,hp0,h1,m,h2,h3⟩;exact⟨fr0,hp0,h1,⟨m,h3⟩,Nat.lt_of_le_of_lt ((key fr0 hp0 ⟨m,h3⟩).2 m h3) h2⟩
 rw[e]
 exact h _ fr hp (key fr hp hI).1
theorem Qer{sk:List It}{x:SC}(I:Nat->Qf)(m0:Nat)(h0:I m0 fr hp)(h:∀m fr hp,I m fr hp->vc C R (.c x:: .el (Qlg I m)::sk) fr hp):vc C R (.c (.loop x)::sk) fr hp:=
 Qij I m0 (Wk.refl _ _) h0 h
theorem Qad5{α:Type}{e:Nat}{f:α->PV}:PV.le .nilS (.sl e (([]:List α).map f)):=trivial
theorem Qa{P:Program}(hP:C.P=P){g:FuncId}{first cap args pargs:List PV}{pr:Bool}{d:Option Nat}{r:PV}(h:Qd P g pargs (· =r))(hargs:(first++args++cap).map (Q8 hp)=pargs)(hdat:pargs.all PV.isData=true)(hr:(first++args++cap).flatMap PV.refs=[])
  (hK:K (Qbp fr d r) hp):Qcj C pr (.fn g first cap) args d fr hp K:=by
 refine Qdj hP h hargs hdat ?_
 rw[hr];exact hK
theorem Qcs{P:Program}(hP:C.P=P){g:FuncId}{first cap args pargs:List PV}{pr:Bool}{d:Option Nat}{Rr:PV->Prop}(h:Qd P g pargs Rr)(hargs:(first++args++cap).map (Q8 hp)=pargs)(hdat:pargs.all PV.isData=true)(hr:(first++args++cap).flatMap PV.refs=[])
  (hK:∀r,Rr r->K (Qbp fr d r) hp):Qcj C pr (.fn g first cap) args d fr hp K:=by
 refine Qsw hP h hargs hdat fun r h=> ?_
 rw[hr];exact hK r h
theorem Q9y{d β n ty:Nat}{xs ys:List PV}(hb:hp β=some ⟨1,ty,xs,false⟩)(hn:n=xs.length):
  Qjg 1 (.ms β n) (.sl 1 ys) d fr hp K=K (upd fr d (.int .i64 (min (ys.length:Int) n))) (Qg hp β ⟨1,ty,ys.take n++xs.drop ys.length,false⟩):=by
 simp[Qjg,Qc1,hb,hn]
theorem Q5e{d β n ty e:Nat}{xs ys:List PV}(hb:hp β=some ⟨e,ty,xs,false⟩)(he:0<e)(hn:n=xs.length):
  Qjg e (.ms β n) (.sl e ys) d fr hp K=K (upd fr d (.int .i64 (min (ys.length:Int) n))) (Qg hp β ⟨e,ty,ys.take n++xs.drop ys.length,false⟩):=by
 simp[Qjg,Qc1,hb,hn,he]
theorem Q1q{by_ ty d:Nat}{kz k k':IntKind}{nz:Int}{L Cc:Int}(h1:0<=L)(h2:L<=Cc)(h3:by_*Cc<=281474976710656)(h4:Cc<=9223372036854775807):
  mkK 1 by_ ty (.int kz nz) (.int k L) (.int k' Cc) d fr hp K=K (upd (Qap d fr) d (.ms d L.toNat)) (Qg hp d ⟨1,ty,List.replicate L.toNat (.int kz nz),false⟩):=by
 exact Qt7 (e:=1) (by omega) rfl h1 h2 h3 h4
theorem Q1r{ty β i:Nat}{xs:List PV}{k:IntKind}{n:Int}(h:i<xs.length):stM (some ⟨1,ty,xs,false⟩) β 1 i 0 (.int k n) fr hp K=K fr (Qg hp β ⟨1,ty,xs.set i (.int k n),false⟩):=
 Qe5 h rfl rfl
theorem Q1s(h:HP)(a:Nat)(v w:HB):Qg (Qg h a v) a w=Qg h a w:=by funext i;unfold Qg;split<;>rfl
theorem Qad6{ty d:Nat}{k:IntKind}{n:Int}:bsK 1 ty [.int k n] d fr hp K=K (upd (Qap d fr) d (.ms d 1)) (Qg hp d ⟨1,ty,[.int k n],false⟩):=by
 simp[bsK,Qfo,Qcl,bsO,Qlc,Q8,Qaq,PV.refs,PV.isData,PV.cells]
 rfl
theorem Qog{β n e ty:Nat}{xs:List PV}{fz:Bool}{r:PV}(hb:hp β=some ⟨e,ty,xs,fz⟩)(h:PV.sl e (xs.take n)=r)(hB:isB β=false:=by decide):Qr2 (· =r) (Q8 hp (.ms β n)):=by
 rw[Qr3 hp β n e ty xs fz hb hB];exact Qc h (by rw[<-h];rfl)
theorem Qpu{e by_ ty ty' d β γ n:Nat}{xs:List PV}{y:PV}{fz:Bool}(hb:hp β=some ⟨e,ty,xs,false⟩)(hy:hp γ=some ⟨e,ty',[y],fz⟩)(h0:0<e)(hn:n=xs.length)(h1:(n+1)*by_<=140737488355328)(h2:n+1<=9223372036854775807)(hB:isB β=false:=by decide):
  Qdr e by_ ty (.ms β n) (.ms γ 1) d fr hp K=K (upd (Qap β fr) d (.ms β (n+1))) (Qg hp β ⟨e,ty,xs++[y],false⟩):=by
 subst hn
 rw[Qmb (ys:=[y]) (xs:=xs) (by simp[Qc1,hy]) hb h0 (Nat.le_refl _) (by simpa using h1) (by simpa using h2) hB]
 simp
theorem Qjq(n:Nat):IntKind.u16.wrap (n:Int)=((n%65536:Nat):Int):=by simp only[IntKind.wrap,IntKind.bits,IntKind.signed];simp
theorem Qu3{bt:Bool}{k k':IntKind}{x y:Int}{d:Nat}(h:0<=y):Qa4 .shr bt (.int k x) (.int k' y) d fr hp K=K (upd fr d (.int k (x.fdiv (2^(min y.toNat k.bits))))) hp:=by simp[Qa4,h]
theorem Qnq{bt:Bool}{k':IntKind}{n d:Nat}:Qa4 .shr bt (.int .u64 (n:Int)) (.int k' 16) d fr hp K=K (upd fr d (.int .u64 ((n/65536:Nat):Int))) hp:=by
 rw[Qu3 (by omega)]
 have:min (16:Int).toNat IntKind.u64.bits=16:=by decide
 rw[this,Int.fdiv_eq_ediv_of_nonneg _ (by omega)]
 simp
theorem Q1t{bt:Bool}{k':IntKind}{n d:Nat}:Qa4 .shr bt (.int .u32 (n:Int)) (.int k' 16) d fr hp K=K (upd fr d (.int .u32 ((n/65536:Nat):Int))) hp:=by
 rw[Qu3 (by omega)]
 have:min (16:Int).toNat IntKind.u32.bits=16:=by decide
 rw[this,Int.fdiv_eq_ediv_of_nonneg _ (by omega)]
 simp
end Go.FW
namespace Go.FW
def val:List Nat->Nat
 | []=>0
 |x::xs=>x+65536*val xs
def Qj(l:List Nat):Prop:=∀x∈l,x<65536
def dig(n:Nat):List Nat:=if h:n=0 then []else n%65536::dig (n/65536)
termination_by n
decreasing_by omega
def nl(n:Nat):Nat:=(dig n).length
theorem Qcy:Qj []:=by simp[Qj]
theorem Qax{x:Nat}{l:List Nat}:Qj (x::l)↔x<65536/\Qj l:=by simp[Qj]
theorem Qbw{l m:List Nat}:Qj (l++m)↔Qj l/\Qj m:=by
 simp only[Qj,List.mem_append];constructor
 ·intro h;exact⟨fun x hx=>h x (.inl hx),fun x hx=>h x (.inr hx)⟩
 ·rintro⟨h1,h2⟩ x (hx|hx)
  ·exact h1 x hx
  ·exact h2 x hx
theorem Qf9{l:List Nat}(h:Qj l)(n:Nat):Qj (l.take n):=fun x hx=>h x (List.mem_of_mem_take hx)
theorem Qg8{l:List Nat}(h:Qj l)(n:Nat):Qj (l.drop n):=fun x hx=>h x (List.mem_of_mem_drop hx)
theorem Qal{l:List Nat}(h:Qj l){i:Nat}(hi:i<l.length):l[i]<65536:=h _ (List.getElem_mem hi)
theorem Qa2:dig 0=[]:=by rw[dig];simp
theorem Qgx{n:Nat}(h:n≠0):dig n=n%65536::dig (n/65536):=by rw[dig];simp[h]
theorem Ql(n:Nat):Qj (dig n):=by
 induction n using dig.induct with
 |case1=>rw[Qa2];exact Qcy
 |case2 n h ih=>rw[Qgx h,Qax];exact⟨by omega,ih⟩
theorem Q5(n:Nat):val (dig n)=n:=by
 induction n using dig.induct with
 |case1=>rw[Qa2];rfl
 |case2 n h ih=>rw[Qgx h,val,ih];omega
theorem Qbm{n:Nat}:dig n=[]↔n=0:=by
 constructor
 ·intro h;have:=Q5 n;rw[h]at this;exact this.symm
 ·rintro rfl;exact Qa2
theorem Qr4:nl 0=0:=by simp[nl,Qa2]
theorem Qiv{n:Nat}:nl n=0↔n=0:=by rw[nl,List.length_eq_zero_iff,Qbm]
theorem Qad7{n:Nat}(h:n≠0):nl n=nl (n/65536)+1:=by simp[nl,Qgx h]
theorem Qcc(l m:List Nat):val (l++m)=val l+65536^l.length*val m:=by
 induction l with
 |nil=>simp[val]
 |cons x l ih=>simp only[List.cons_append,val,ih,List.length_cons,Nat.pow_succ];rw[Nat.mul_add,<-Nat.mul_assoc,Nat.mul_comm 65536 (65536^_)];omega
theorem Qfg{l:List Nat}(h:Qj l):val l<65536^l.length:=by
 induction l with
 |nil=>simp[val]
 |cons x l ih=>rw[Qax]at h;have:=ih h.2;simp only[val,List.length_cons,Nat.pow_succ];omega
theorem Qsx(n:Nat):val (List.replicate n 0)=0:=by
 induction n with
 |zero=>rfl
 |succ n ih=>simp[List.replicate_succ,val,ih]
theorem Qlh{l:List Nat}(h:Qj l)(hl:l.getLast? ≠some 0):dig (val l)=l:=by
 induction l with
 |nil=>simp[val,Qa2]
 | cons x l ih=>
  rw[Qax]at h
  have hl':l.getLast? ≠some 0:=by
   intro hh;apply hl
   rw[List.getLast?_cons,hh];rfl
  have hne:val (x::l)≠0:=by
   simp only[val]
   intro h0
   have h1:val l=0:=by omega
   have:=ih h.2 hl'
   rw[h1,Qa2]at this
   subst this
   simp at hl;omega
  rw[Qgx hne]
  simp only[val]
  rw[show(x+65536*val l)%65536=x by omega,show(x+65536*val l)/65536=val l by omega,ih h.2 hl']
theorem Qjr(n:Nat):(dig n).getLast? ≠some 0:=by
 induction n using dig.induct with
 |case1=>simp[Qa2]
 | case2 n h ih=>
  rw[Qgx h,List.getLast?_cons]
  cases hd:(dig (n/65536)).getLast? with
  |none=>
   have:n/65536=0:=by rw[List.getLast?_eq_none_iff,Qbm]at hd;exact hd
   simp;omega
  |some y=>rw[hd]at ih;simpa using ih
def cut(l:List Nat):Nat->List Nat
 |0=>[]
 |n+1=>if l[n]? =some 0 then cut l n else l.take (n+1)
theorem Q1u{l:List Nat}(h:Qj l):∀n,n<=l.length->cut l n=dig (val (l.take n))
 |0,_=>by simp[cut,val,Qa2]
 | n+1,hn=>by
  have e:l.take (n+1)=l.take n++[l[n]]:=by rw[List.take_succ_eq_append_getElem (by omega)]
  unfold cut
  split
  ·rename_i hz
   rw[Q1u h n (by omega),e,Qcc]
   rw[List.getElem?_eq_getElem (by omega)]at hz
   have hz':l[n]=0:=by simpa using hz
   simp[val,hz']
  ·rename_i hz
   rw[Qlh (Qf9 h _)]
   rw[e,List.getLast?_concat]
   intro h0;apply hz;rw[List.getElem?_eq_getElem (by omega)];exact h0
theorem Qli{l:List Nat}(h:Qj l):cut l l.length=dig (val l):=by rw[Q1u h _ (Nat.le_refl _),List.take_length]
theorem Qam{l:List Nat}(h:Qj l):nl (val l)<=l.length:=by
 rw[nl,<-Qli h]
 have:∀n,(cut l n).length<=n:=by
  intro n
  induction n with
  |zero=>simp[cut]
  |succ n ih=>
   unfold cut
   split
   ·omega
   ·simp;omega
 have h1:=this l.length
 exact h1
theorem Qfv{n k:Nat}:nl n<=k↔n<65536^k:=by
 induction k generalizing n with
 |zero=>simp[Qiv]
 | succ k ih=>
  by_cases h:n=0
  ·subst h;simp[Qr4]
   exact Nat.pow_pos (by omega)
  ·rw[Qad7 h,Nat.add_le_add_iff_right,ih,Nat.pow_succ,Nat.div_lt_iff_lt_mul (by omega)]
theorem Qb0{m n:Nat}(h:m<=n):nl m<=nl n:=Qfv.2 (Nat.lt_of_le_of_lt h (Qfv.1 (Nat.le_refl _)))
theorem Q1v(m n:Nat):nl (m+n)<=max (nl m) (nl n)+1:=by
 rw[Qfv,Nat.pow_succ]
 have h1:m<65536^(max (nl m) (nl n)):=Qfv.1 (by omega)
 have h2:n<65536^(max (nl m) (nl n)):=Qfv.1 (by omega)
 omega
theorem Qfy(m n:Nat):nl (m*n)<=nl m+nl n:=by
 rw[Qfv,Nat.pow_add]
 exact Nat.mul_lt_mul'' (Qfv.1 (Nat.le_refl _)) (Qfv.1 (Nat.le_refl _))
theorem Qd9{n:Nat}(h:n<18446744073709551616):nl n<=4:=Qfv.2 (by simpa using h)
theorem Qj7{n:Nat}:nl n<=4↔n<18446744073709551616:=by rw[Qfv]
theorem Qga:dig 1=[1]:=by rw[Qgx (by omega)];simp[Qa2]
open Go
variable {C : Ctx} {ρ : Nat -> Option Nat} {fr : Fr} {hp : HP} {w : World} {K R : Qf}
abbrev Qa3(l:List Nat):List PV:=l.map fun(x:Nat)=> .int .u16 x
abbrev Qpv(l:List Int):List PV:=l.map fun(x:Int)=> .int .i64 x
theorem Qad8(a b:Nat):(a:Int)+(b:Int)=((a+b:Nat):Int):=rfl
theorem Q9z(a:Nat):(a:Int)+1=((a+1:Nat):Int):=rfl
theorem Q90(a:Nat):(a:Int)+2=((a+2:Nat):Int):=rfl
theorem Q91(a:Nat):(a:Int)+3=((a+3:Nat):Int):=rfl
theorem Qad9(a b:Nat):(a:Int)*(b:Int)=((a*b:Nat):Int):=rfl
theorem Q92{α:Type}{f:α->PV}{e d:Nat}{k:IntKind}{i:Nat}{xs:List α}(h:i<xs.length):
  Qed e (.sl e (xs.map f)) (.int k (i:Int)) d fr hp K=K (upd fr d (.pt (f (xs[i]'h)).cells)) hp:=by
 rw[Qi3 (by omega) (by omega)];rfl
theorem Q93{e d β o n i:Nat}{k:IntKind}(h:i<n)(he:(hp β).map (·.e)=some e):Qed e (.mso β o n) (.int k (i:Int)) d fr hp K=K (upd fr d (.mp β (o+i) 0)) hp:=by
 rw[Qad3 (by omega) (by omega) he];rfl
theorem Qaea{α:Type}{f:α->PV}{e d:Nat}{xs:List α}{k:IntKind}{n:Nat}(h5:n<=xs.length):
  slK e (.sl e (xs.map f)) none (some (.int k (n:Int))) none d fr hp K=K (upd fr d (.sl e ((xs.take n).map f))) hp:=by
 rw[Qii (by omega) (by omega)];rfl
theorem Qaeb{α:Type}{f:α->PV}{e d:Nat}{xs:List α}{k:IntKind}{n:Nat}(h5:n<=xs.length):
  slK e (.sl e (xs.map f)) (some (.int k (n:Int))) none none d fr hp K=K (upd fr d (.sl e ((xs.drop n).map f))) hp:=by
 rw[Q1k (by omega) (by omega)];rfl
theorem Q5f{α:Type}{f:α->PV}{e d:Nat}{xs:List α}{k k':IntKind}{m n:Nat}(h4:m<=n)(h5:n<=xs.length):
  slK e (.sl e (xs.map f)) (some (.int k (m:Int))) (some (.int k' (n:Int))) none d fr hp K=K (upd fr d (.sl e (((xs.take n).drop m).map f))) hp:=by
 rw[Qw1 (by omega) (by omega) (by omega)];rfl
theorem Qaec{by_ ty d:Nat}{k k':IntKind}{n c:Nat}(h2:n<=c)(h3:by_*c<=281474976710656)(h4:c<=9223372036854775807):
  mkK 1 by_ ty (.int .u16 0) (.int k (n:Int)) (.int k' (c:Int)) d fr hp K=K (upd (Qap d fr) d (.ms d n)) (Qg hp d ⟨1,ty,Qa3 (List.replicate n 0),false⟩):=by
 rw[Q1q (by omega) (by omega) (by omega) (by omega)]
 simp[Qa3]
theorem Qaed{ty i d:Nat}{fz:Bool}{l:List Nat}(h:i<l.length):ldM (some ⟨1,ty,Qa3 l,fz⟩) 1 false i 0 d fr hp K=K (upd fr d (.int .u16 (l[i]'h:Nat))) hp:=by
 rw[Qih (by simpa using h) (by omega) (by simp)];simp[ldV,PV.cells]
theorem Qaee{ty i d:Nat}{fz:Bool}{l:List Int}(h:i<l.length):ldM (some ⟨1,ty,Qpv l,fz⟩) 1 false i 0 d fr hp K=K (upd fr d (.int .i64 (l[i]'h))) hp:=by
 rw[Qih (by simpa using h) (by omega) (by simp)];simp[ldV,PV.cells]
theorem Q1w{ty β i v:Nat}{l:List Nat}(h:i<l.length):stM (some ⟨1,ty,Qa3 l,false⟩) β 1 i 0 (.int .u16 (v:Int)) fr hp K=K fr (Qg hp β ⟨1,ty,Qa3 (l.set i v),false⟩):=by
 rw[Q1r (by simpa using h)];simp[Qa3,List.map_set]
theorem Qaef{ty β i:Nat}{v:Int}{l:List Int}(h:i<l.length):stM (some ⟨1,ty,Qpv l,false⟩) β 1 i 0 (.int .i64 v) fr hp K=K fr (Qg hp β ⟨1,ty,Qpv (l.set i v),false⟩):=by
 rw[Q1r (by simpa using h)];simp[Qpv,List.map_set]
theorem Q5g{β n ty:Nat}{l:List Nat}{fz:Bool}(h:hp β=some ⟨1,ty,Qa3 l,fz⟩)(hn:n=l.length)(hB:isB β=false:=by decide):Q8 hp (.ms β n)= .sl 1 (Qa3 l):=by
 rw[Qr3 hp β n _ _ _ _ h hB,List.take_of_length_le (by simp[hn])]
theorem Qfz{P:Program}(hP:C.P=P){g:FuncId}{first cap args pargs:List PV}{pr:Bool}{d:Option Nat}{r:PV}(h:Qd P g pargs (· =r))(hargs:(first++args++cap).map (Q8 hp)=pargs)(hdat:pargs.all PV.isData=true)
  (hK:∀hp',K (Qbp fr d r) hp'):Qcj C pr (.fn g first cap) args d fr hp K:=Qdj hP h hargs hdat (hK _)
end Go.FW
namespace Go.FW
def Qdz(x y:Nat):Int:=if x<y then -1 else if y<x then 1 else 0
theorem Qr5{x y:Nat}(h:x<y):Qdz x y= -1:=by simp[Qdz,h]
theorem Qr6{x y:Nat}(h:y<x):Qdz x y=1:=by simp[Qdz,h];omega
theorem Qx1{x y:Nat}(h:x=y):Qdz x y=0:=by simp[Qdz,h]
theorem Qu4{x y:Nat}(h:nl x<nl y):x<y:=by
 rcases Nat.lt_or_ge x y with h1|h1
 ·exact h1
 ·have:=Qb0 h1;omega
theorem Qds(l:List Nat)(k:Nat)(hk:k<=l.length):val l=val (l.take k)+65536^k*val (l.drop k):=by
 have:=Qcc (l.take k) (l.drop k)
 rw[List.take_append_drop,List.length_take,Nat.min_eq_left hk]at this
 exact this
theorem Qd2{l:List Nat}(h:Qj l)(k:Nat)(hk:k<=l.length):val (l.take k)<65536^k:=by
 have:=Qfg (Qf9 h k)
 rwa[List.length_take,Nat.min_eq_left hk]at this
theorem Qcv{l:List Nat}{k:Nat}(hk:k<l.length):val (l.drop k)=l[k]+65536*val (l.drop (k+1)):=by
 rw[List.drop_eq_getElem_cons hk,val]
theorem Qw2{a b:List Nat}(ha:Qj a){k:Nat}(hka:k<=a.length)(hkb:k<=b.length)(h:val (a.drop k)<val (b.drop k)):val a<val b:=by
 rw[Qds a k hka,Qds b k hkb]
 have h1:=Qd2 ha k hka
 have h2:65536^k*(val (a.drop k)+1)<=65536^k*val (b.drop k):=Nat.mul_le_mul_left _ h
 rw[Nat.mul_add]at h2
 omega
theorem Qsy{a b:List Nat}(ha:Qj a){k:Nat}(hka:k<a.length)(hkb:k<b.length)(h:a[k]<b[k])(he:val (a.drop (k+1))=val (b.drop (k+1))):val a<val b:=by
 refine Qw2 ha (k:=k) (by omega) (by omega) ?_
 rw[Qcv hka,Qcv hkb,he];omega
def Qe0:List Nat->List Nat->Nat->List Nat
 | [],_,c=>if c=0 then []else [c]
 |x::xs,ys,c=>(c+x+ys.headD 0)%65536::Qe0 xs ys.tail ((c+x+ys.headD 0)/65536)
theorem Qik(l:List Nat):val l=l.headD 0+65536*val l.tail:=by cases l<;>simp[val]
theorem Qu5:∀(a b:List Nat)(c:Nat),b.length<=a.length->val (Qe0 a b c)=val a+val b+c
 | [],b,c,h=>by
  have:b=[]:=List.length_eq_zero_iff.1 (by simpa using h)
  subst this
  unfold Qe0;split<;>simp[val];omega
 |x::xs,b,c,h=>by
  rw[Qe0,val,Qu5 xs b.tail _ (by simp at h ⊢;omega),val,Qik b]
  omega
theorem Qqq:∀(a b:List Nat)(c:Nat),c<65536->Qj a->Qj b->b.length<=a.length->Qj (Qe0 a b c)
 | [],b,c,hc,_,_,_=>by unfold Qe0;split<;>simp[Qj];exact hc
 |x::xs,b,c,hc,ha,hb,h=>by
  rw[Qax]at ha
  have hb0:b.headD 0<65536:=by cases b with|nil=>simp|cons y ys=>exact hb _ (by simp)
  rw[Qe0,Qax]
  exact⟨by omega,Qqq xs b.tail _ (by omega) ha.2 (fun x hx=>hb x (List.mem_of_mem_tail hx)) (by simp at h ⊢;omega)⟩
theorem Qsz:∀(a b:List Nat)(c:Nat),a.getLast? ≠some 0->(Qe0 a b c).getLast? ≠some 0
 | [],b,c,_=>by unfold Qe0;split<;>simp;assumption
 | x::xs,b,c,h=>by
  rw[Qe0,List.getLast?_cons]
  cases xs with
  |nil=>
   simp only[List.getLast?_singleton,ne_eq,Option.some.injEq]at h
   simp only[Qe0]
   generalize b.headD 0=y
   split
   ·rename_i h0;simp;omega
   ·rename_i h0;simp;omega
  |cons y ys=>
   have ih:=Qsz (y::ys) b.tail ((c+x+b.headD 0)/65536) (by rw[List.getLast?_cons]at h;simpa[List.getLast?_cons]using h)
   cases hl:(Qe0 (y::ys) b.tail ((c+x+b.headD 0)/65536)).getLast? with
   |none=>rw[List.getLast?_eq_none_iff]at hl;simp[Qe0]at hl
   |some z=>rw[hl]at ih;simpa using ih
theorem Q5h{x y:Nat}(h:nl y<=nl x):Qe0 (dig x) (dig y) 0=dig (x+y):=by
 have h1:=Qu5 (dig x) (dig y) 0 h
 rw[Q5,Q5,Nat.add_zero]at h1
 rw[<-h1,Qlh (Qqq _ _ _ (by omega) (Ql x) (Ql y) h) (Qsz _ _ _ (Qjr x))]
def Qgu:List Nat->List Nat->Nat->List Nat
 | [],_,_=>[]
 |x::xs,ys,c=>(x+65536-c-ys.headD 0)%65536::Qgu xs ys.tail (if x<c+ys.headD 0 then 1 else 0)
theorem Qqr:∀(a b:List Nat)(c:Nat),Qj (Qgu a b c)
 | [],_,_=>Qcy
 |x::xs,b,c=>by rw[Qgu,Qax];exact⟨by omega,Qqr xs _ _⟩
theorem Qo6:∀(a b:List Nat)(c:Nat),(Qgu a b c).length=a.length
 | [],_,_=>rfl
 |x::xs,b,c=>by simp[Qgu,Qo6 xs]
theorem Qu6:∀(a b:List Nat)(c:Nat),c<=1->Qj a->Qj b->b.length<=a.length->val b+c<=val a->val (Qgu a b c)+val b+c=val a
 | [],b,c,_,_,_,h,h2=>by
  have:b=[]:=List.length_eq_zero_iff.1 (by simpa using h)
  subst this
  simp[val]at h2 ⊢;simp[Qgu,val,h2]
 |x::xs,b,c,hc,ha,hb,h,h2=>by
  rw[Qax]at ha
  have hb0:b.headD 0<65536:=by cases b with|nil=>simp|cons y ys=>exact hb _ (by simp)
  rw[val,Qik b]at h2
  rw[Qgu,val,val,Qik b]
  have ih:=Qu6 xs b.tail (if x<c+b.headD 0 then 1 else 0) (by split<;>omega) ha.2 (fun x hx=>hb x (List.mem_of_mem_tail hx)) (by simp at h ⊢;omega) (by generalize b.headD 0=y at *;split<;>omega)
  generalize b.headD 0=y at *
  split at ih
  ·rename_i h0;rw[if_pos h0];omega
  ·rename_i h0;rw[if_neg h0];omega
theorem Qes{done:List Nat}{i n v:Nat}(h:done.length=i)(hn:0<n):(done++List.replicate n 0).set i v=(done++[v])++List.replicate (n-1) 0:=by
 subst h
 obtain⟨n,rfl⟩:∃k,n=k+1:=⟨n-1,by omega⟩
 simp[List.replicate_succ]
theorem Qpw{done:List Nat}{i n m:Nat}(h:done.length=i)(hn:i+n=m):(done++List.replicate n 0).length=m:=by simp[h,hn]
theorem Q1x{a b:List Nat}{i c:Nat}(h:i<a.length):Qe0 (a.drop i) (b.drop i) c=(c+a[i]+b.getD i 0)%65536::Qe0 (a.drop (i+1)) (b.drop (i+1)) ((c+a[i]+b.getD i 0)/65536):=by
 rw[List.drop_eq_getElem_cons h,Qe0]
 simp[List.headD_eq_head?_getD,List.head?_drop,List.getD_eq_getElem?_getD]
theorem Q1y{a b:List Nat}{i c:Nat}(h:i<a.length):Qgu (a.drop i) (b.drop i) c=(a[i]+65536-c-b.getD i 0)%65536::Qgu (a.drop (i+1)) (b.drop (i+1)) (if a[i]<c+b.getD i 0 then 1 else 0):=by
 rw[List.drop_eq_getElem_cons h,Qgu]
 simp[List.headD_eq_head?_getD,List.head?_drop,List.getD_eq_getElem?_getD]
theorem Qbi{b:List Nat}{i:Nat}(h:i<b.length):b.getD i 0=b[i]:=by simp[List.getD_eq_getElem?_getD,h]
theorem Qbj{b:List Nat}{i:Nat}(h:¬i<b.length):b.getD i 0=0:=by simp[List.getD_eq_getElem?_getD,h]
open Go
variable {C : Ctx} {ρ : Nat -> Option Nat} {fr : Fr} {hp : HP} {w : World} {K K' R : Qf}
theorem Qpx(h:∀fr hp,K fr hp->K' fr hp)(o:SOp):opV C o fr hp K->opV C o fr hp K':=by
 cases o with
 | call d pr f args=>
  simp only[opV,Qcj]
  split
  ·rintro⟨h1,h2⟩
   refine⟨h1,fun ρ tmps w fv cv av a1 a2 a3 a4 a5 a6 a7 a8=>(h2 ρ tmps w fv cv av a1 a2 a3 a4 a5 a6 a7 a8).mono ?_⟩
   rintro e w' ⟨v,fr',hp',e1,e2,e3,e4⟩
   exact⟨v,fr',hp',e1,e2,e3,h _ _ e4⟩
  ·exact id
 |bs d e ty ps=>
  simp only[opV,bsK]
  split
  ·exact fun H=>⟨H.1,h _ _ H.2⟩
  ·exact fun H=>⟨H.1,H.2.1,h _ _ H.2.2⟩
 | app d e by_ ty s x=>
  simp only[opV,Qdr]
  intro H;revert H
  split
  ·unfold Qnh
   split
   ·split
    ·rintro⟨a1,a2,a3,H⟩
     refine⟨a1,a2,a3,?_⟩
     revert H
     split
     ·exact fun H=>⟨H.1,h _ _ H.2⟩
     ·split
      ·exact fun H=>⟨H.1,H.2.1,h _ _ H.2.2⟩
      ·exact id
     ·exact id
    ·exact id
   ·exact id
  ·rintro⟨h0,h1,H⟩
   refine⟨h0,h1,?_⟩
   revert H
   split
   ·rintro⟨a,b,c⟩;exact⟨a,b,h _ _ c⟩
   ·split
    ·rintro(⟨a1,a2,a3,a4,a5,a6,a7,c⟩|⟨a1,a2,a3,c⟩)
     ·exact .inl ⟨a1,a2,a3,a4,a5,a6,a7,h _ _ c⟩
     ·exact .inr ⟨a1,a2,a3,h _ _ c⟩
    ·exact id
   ·exact id
 |bin d op bt x y=>
  simp only[opV,Qa4]
  intro H;revert H
  split
  ·split<;>first|exact fun H=>⟨H.1,H.2.1,h _ _ H.2.2⟩|exact fun H=>⟨H.1,h _ _ H.2⟩|exact id
  ·split<;>first|exact fun H=>⟨H.1,h _ _ H.2⟩|exact id
  ·exact id
 | _=>
  simp only[opV,Qkm,Qir,unK,Qlz,Qin,mxK,mnK,Qed,Qob,Qru,Qkn,Qhz,ldK,stK,Qd7,mkK,bsK,Qdr,Qjg,slK,Qjh,Qfx,Qp9,Qqa]
  try (intro H;revert H)
  try (repeat' split)
  all_goals first
   |exact id
   |exact h _ _
   |grind
theorem Qqs(h:∀fr hp,K fr hp->K' fr hp)(o:SOp):Qdx o fr hp K->Qdx o fr hp K':=by
 unfold Qdx;split<;>exact h _ _
theorem Q1z(h:∀fr hp,K fr hp->K' fr hp)(g:Option (Nat×Bool))(o:SOp):Qio C g o fr hp K->Qio C g o fr hp K':=by
 unfold Qio
 split
 ·exact Qpx h o
 ·split
  ·exact fun H=>⟨fun e=>Qpx h o (H.1 e),fun e=>Qqs h o (H.2 e)⟩
  ·exact Qqs h o
  ·exact id
theorem Q10{sk:List It}{g:Option (Nat×Bool)}{o:SOp}{r:RT}:vc C R (.o (.o g o r)::sk) fr hp=Qio C g o fr hp (fun fr hp=>vc C R (.o r::sk) fr hp):=by rw[vc]
theorem Q11{sk:List It}{x y:RT}:vc C R (.o (.br x y)::sk) fr hp=(vc C R (.o x::sk) fr hp/\vc C R (.o y::sk) fr hp):=by rw[vc]
theorem Qg9{id:Nat}{M:Qf}{sk:List It}:∀(pre:List It),(∃p,FW.Qah id (pre++ .el M::sk)=some (p++ .el M::sk)/\FW.Qah id (pre++sk)=some (p++sk)/\Qaw p<=Qaw pre)∨FW.Qah id (pre++ .el M::sk)=FW.Qah id (pre++sk)
 | []=> .inr rfl
 | .c s::pre=>by
  rcases Qg9 (id:=id) (M:=M) (sk:=sk) pre with⟨p,h1,h2,h3⟩|h
  ·exact .inl ⟨p,h1,h2,by simp only[Qaw];omega⟩
  ·exact .inr h
 | .o s::pre=>by
  rcases Qg9 (id:=id) (M:=M) (sk:=sk) pre with⟨p,h1,h2,h3⟩|h
  ·exact .inl ⟨p,h1,h2,by simp only[Qaw];omega⟩
  ·exact .inr h
 | .el s::pre=>by
  rcases Qg9 (id:=id) (M:=M) (sk:=sk) pre with⟨p,h1,h2,h3⟩|h
  ·exact .inl ⟨p,h1,h2,by simp only[Qaw];omega⟩
  ·exact .inr h
 | .eb i::pre=>by
  by_cases hi:i=id
  ·exact .inl ⟨pre,by simp[FW.Qah,hi],by simp[FW.Qah,hi],by simp only[Qaw];omega⟩
  ·rcases Qg9 (id:=id) (M:=M) (sk:=sk) pre with⟨p,h1,h2,h3⟩|h
   ·exact .inl ⟨p,by simp[FW.Qah,hi,h1],by simp[FW.Qah,hi,h2],by simp only[Qaw];omega⟩
   ·exact .inr (by simp[FW.Qah,hi,h])
theorem Qlj{M:Qf}{sk:List It}(hM:∀fr hp,M fr hp->vc C R sk fr hp):∀(n:Nat)(pre:List It)(fr:Fr)(hp:HP),Qaw pre<=n->vc C R (pre++ .el M::sk) fr hp->vc C R (pre++sk) fr hp:=by
 intro n
 induction n with
 | zero=>
  intro pre fr hp hn h
  cases pre with
  |nil=>simp only[List.nil_append,Ql6]at h ⊢;exact hM _ _ h
  |cons i pre=>
   exfalso
   have:=SC.sz_pos
   cases i<;>simp only[Qaw,It.sz]at hn
   ·rename_i s;have:=SC.sz_pos s;omega
   ·rename_i s;have:=RT.sz_pos s;omega
   ·omega
   ·omega
 | succ n ih=>
  intro pre fr hp hn h
  cases pre with
  |nil=>simp only[List.nil_append,Ql6]at h ⊢;exact hM _ _ h
  | cons i pre=>
   cases i with
   |eb i=>
    simp only[List.cons_append,Qt6]at h⊢
    exact ih _ _ _ (by simp only[Qaw,It.sz]at hn;omega) h
   |el J=>simp only[List.cons_append,Ql6]at h ⊢;exact h
   | o r=>
    cases r with
    |nil=>
     simp only[List.cons_append,Qnm]at h⊢
     exact ih _ _ _ (by simp only[Qaw,It.sz,RT.sz]at hn;omega) h
    |o g o r=>
     simp only[List.cons_append,Q10]at h⊢
     refine Q1z (fun fr hp h=> ?_) g o h
     exact ih (.o r::pre) _ _ (by simp only[Qaw,It.sz,RT.sz]at hn ⊢;omega) h
    |wk r=>
     simp only[List.cons_append,Qqk]at h⊢
     obtain⟨fr0,hp0,hw,h⟩:=h
     exact⟨fr0,hp0,hw,ih (.o r::pre) _ _ (by simp only[Qaw,It.sz,RT.sz]at hn ⊢;omega) h⟩
    |br x y=>
     simp only[List.cons_append,Q11]at h⊢
     exact⟨ih (.o x::pre) _ _ (by simp only[Qaw,It.sz,RT.sz]at hn ⊢;omega) h.1,ih (.o y::pre) _ _ (by simp only[Qaw,It.sz,RT.sz]at hn ⊢;omega) h.2⟩
   | c s=>
    cases s with
    |skip=>
     simp only[List.cons_append,Qoc]at h⊢
     exact ih _ _ _ (by simp only[Qaw,It.sz,SC.sz]at hn;omega) h
    |rg r=>
     simp only[List.cons_append,Qy8]at h⊢
     exact ih (.o r::pre) _ _ (by simp only[Qaw,It.sz,SC.sz]at hn ⊢;omega) h
    |raw id ops=>
     simp only[List.cons_append]at h⊢
     rw[vc]at h⊢
     intro tmps w Q hs hQ
     refine h tmps w Q hs fun fr' hp' tmps' w' hs' hv=>hQ fr' hp' tmps' w' hs' ?_
     exact ih _ _ _ (by simp only[Qaw,It.sz,SC.sz]at hn;omega) hv
    |seq a b=>
     simp only[List.cons_append,Qqm]at h⊢
     exact ih (.c a:: .c b::pre) _ _ (by simp only[Qaw,It.sz,SC.sz]at hn ⊢;omega) h
    |block id a=>
     simp only[List.cons_append,Ql5]at h⊢
     exact ih (.c a:: .eb id::pre) _ _ (by simp only[Qaw,It.sz,SC.sz]at hn ⊢;omega) h
    |ret=>simp only[List.cons_append,Qqn]at h ⊢;exact h
    |cond c x y=>
     simp only[List.cons_append,Qod]at h⊢
     unfold Qiu at h⊢
     split at h
     ·exact⟨fun e=>ih (.c x::pre) _ _ (by simp only[Qaw,It.sz,SC.sz]at hn ⊢;omega) (h.1 e),fun e=>ih (.c y::pre) _ _ (by simp only[Qaw,It.sz,SC.sz]at hn ⊢;omega) (h.2 e)⟩
     ·exact h
    | exit id=>
     simp only[List.cons_append,Qoe]at h⊢
     rcases Qg9 (id:=id) (M:=M) (sk:=sk) pre with⟨p,h1,h2,h3⟩|he
     ·rw[h1]at h;rw[h2]
      simp only[Ql7]at h⊢
      exact ih _ _ _ (by simp only[Qaw,It.sz,SC.sz]at hn;omega) h
     ·rw[he]at h;exact h
    |loop a=>
     simp only[List.cons_append,Qf7]at h⊢
     obtain⟨I,μ,h1,h2⟩:=h
     refine⟨I,μ,h1,fun fr hp hI=> ?_⟩
     exact ih (.c a:: .el _::pre) _ _ (by simp only[Qaw,It.sz,SC.sz]at hn ⊢;omega) (h2 fr hp hI)
theorem Qgy{c:PV}{x y:SC}{sk:List It}(M:Qf)(h:Qfu C R c x y (.el M::sk) fr hp)(hM:∀fr hp,M fr hp->vc C R sk fr hp):Qfu C R c x y sk fr hp:=by
 unfold Qfu Qiu at h⊢
 split at h
 ·exact⟨fun e=>Qlj hM _ [.c x] _ _ (Nat.le_refl _) (h.1 e),fun e=>Qlj hM _ [.c y] _ _ (Nat.le_refl _) (h.2 e)⟩
 ·exact h
end Go.FW
namespace Go.FW
open Go
variable {C : Ctx} {ρ : Nat -> Option Nat} {fr : Fr} {hp : HP} {w : World} {K K' R : Qf}
def Qt8(R:PV->Prop)(p q:PV):Prop:=(p.isData=true/\q.isData=true)/\∃r,PV.leR (.tup [p,q]) r/\R r
def Qt9(R:PV->Prop)(p q s:PV):Prop:=(p.isData=true/\q.isData=true/\s.isData=true)/\∃r,PV.leR (.tup [p,q,s]) r/\R r
def Q9k(R:PV->Prop):Prop:=∃r,PV.leR (.tup []) r/\R r
theorem Qaeg{a b:Nat}{Rr:PV->Prop}:Qdc [.t a,.t b] Rr fr hp=Qt8 Rr (Q8 hp (fr a)) (Q8 hp (fr b)):=by simp[Qdc,Qt8,okR,rvP]
theorem Qaeh{a b c:Nat}{Rr:PV->Prop}:Qdc [.t a,.t b,.t c] Rr fr hp=Qt9 Rr (Q8 hp (fr a)) (Q8 hp (fr b)) (Q8 hp (fr c)):=by simp[Qdc,Qt9,okR,rvP]
theorem Qaei{Rr:PV->Prop}:Qdc [] Rr fr hp=Q9k Rr:=by simp[Qdc,Q9k]
theorem Qb2{p q p' q' r:PV}(h:r= .tup [p',q'])(d1:p.isData=true)(d2:q.isData=true)(h1:PV.le p p')(h2:PV.le q q'):Qt8 (· =r) p q:=⟨⟨d1,d2⟩,r,by subst h;exact⟨h1,h2,trivial⟩,rfl⟩
theorem Qmc{p q s p' q' s' r:PV}(h:r= .tup [p',q',s'])(d1:p.isData=true)(d2:q.isData=true)(d3:s.isData=true)(h1:PV.le p p')(h2:PV.le q q')(h3:PV.le s s'):Qt9 (· =r) p q s:=⟨⟨d1,d2,d3⟩,r,by subst h;exact⟨h1,h2,h3,trivial⟩,rfl⟩
theorem Qgv{p q:PV}(h:p=q):PV.le p q:=h▸Qy p
theorem Qjs{β n ty:Nat}{l:List Nat}{fz:Bool}(h:hp β=some ⟨1,ty,Qa3 l,fz⟩)(hn:n=l.length)(hB:isB β=false:=by decide):(([]:List PV)++[PV.ms β n]++([]:List PV)).map (Q8 hp)=[.sl 1 (Qa3 l)]:=by
 simp[Q5g h hn hB]
theorem Qc3{n:Nat}(h:(dig n).length=0):dig n=[]:=List.length_eq_zero_iff.1 h
abbrev PV.nat(l:List Nat):PV:= .sl 1 (Qa3 l)
abbrev PV.num(n:Nat):PV:=PV.nat (dig n)
theorem Qhv:PV.le .nilS (PV.num 0):=by rw[PV.num,Qa2];trivial
theorem Qlk{n:Nat}(h:n=0):PV.le .nilS (PV.num n):=by subst h;exact Qhv
end Go.FW
namespace Go.FW
def Qfq:List Nat->List Nat->Nat->Nat->List Nat
 |r::rs,y::ys,x,c=>(c+(r+x*y))%65536::Qfq rs ys x ((c+(r+x*y))/65536)
 |_,_,_,c=>[c]
theorem Qu7:∀(r b:List Nat)(x c:Nat),r.length=b.length->val (Qfq r b x c)=val r+x*val b+c
 | [],[],x,c,_=>by simp[Qfq,val]
 |r::rs,y::ys,x,c,h=>by
  rw[Qfq,val,Qu7 rs ys x _ (by simpa using h),val,val,Nat.mul_add x,Nat.mul_left_comm x 65536]
  generalize x*y=p
  generalize x*val ys=q
  omega
 | [],_::_,_,_,h=>by simp at h
 |_::_,[],_,_,h=>by simp at h
theorem Qe6{x y:Nat}(hx:x<65536)(hy:y<65536):x*y<=4294836225:=by
 have:=Nat.mul_le_mul (show x<=65535 by omega) (show y<=65535 by omega)
 omega
theorem Qqt:∀(r b:List Nat)(x c:Nat),c<65536->x<65536->Qj r->Qj b->Qj (Qfq r b x c)
 |r::rs,y::ys,x,c,hc,hx,hr,hb=>by
  rw[Qax]at hr hb
  have:=Qe6 hx hb.1
  rw[Qfq,Qax]
  exact⟨by omega,Qqt rs ys x _ (by omega) hx hr.2 hb.2⟩
 | [],_,x,c,hc,_,_,_=>by simp[Qfq,Qj];exact hc
 |_::_,[],x,c,hc,_,_,_=>by simp[Qfq,Qj];exact hc
theorem Qo7:∀(r b:List Nat)(x c:Nat),r.length=b.length->(Qfq r b x c).length=r.length+1
 |r::rs,y::ys,x,c,h=>by simp[Qfq,Qo7 rs ys x _ (by simpa using h)]
 | [],[],x,c,_=>rfl
 | [],_::_,_,_,h=>by simp at h
 |_::_,[],_,_,h=>by simp at h
theorem Qoh{p t:List Nat}{r j:Nat}(h:p.length=j)(hj:j<(p++r::t).length):(p++r::t)[j]=r:=by subst h;simp
theorem Qb7{p t:List Nat}{r j v:Nat}(h:p.length=j):(p++r::t).set j v=p++v::t:=by subst h;simp
theorem Qfh{l:List Nat}{i:Nat}(h:i<l.length):val (l.take (i+1))=val (l.take i)+65536^i*l[i]:=by
 rw[List.take_succ_eq_append_getElem h,Qcc,List.length_take,Nat.min_eq_left (by omega)];simp[val]
theorem Q5i{a lo b:List Nat}{i:Nat}(h:i<a.length)(hl:lo.length=i+b.length)(hv:val lo=val (a.take i)*val b):
  val (lo.take i++Qfq (lo.drop i) b a[i] 0)=val (a.take (i+1))*val b:=by
 rw[Qcc,Qu7 _ _ _ _ (by simp[hl]),Qfh h,List.length_take,Nat.min_eq_left (by omega),Nat.add_mul,<-hv,Qds lo i (by omega),Nat.add_zero,Nat.mul_add,Nat.mul_assoc]
 omega
open Go
variable {C : Ctx} {ρ : Nat -> Option Nat} {fr : Fr} {hp : HP} {w : World} {K K' R : Qf}
def B0:Nat:=1000000
def Qha(xs:List PV):Prop:=∀x∈xs,∃k n,x= .int k n
theorem Qet(l:List Nat):Qha (Qa3 l):=by
 intro x hx;simp only[Qa3,List.mem_map]at hx;obtain⟨n,_,rfl⟩:=hx;exact⟨_,_,rfl⟩
def Qhw(w:World)(b:Nat)(ty:TypeId)(xs:List PV):Prop:=Qha xs/\∃(cur:Array Value)(cap:Nat),w.heap[b]? =some (.cells cur ty (0,0))/\cur.size=cap*1/\xs.length<=cap/\cap<=maxLen/\
 ∀(i:Nat)(k:IntKind)(n:Int),xs[i]? =some (.int k n)->cur.getD i undef= .int k n
theorem Qhw.toB{b:Nat}{ty:TypeId}{xs:List PV}{fz:Bool}{X:Nat->Prop}(h:Qhw w b ty xs):Qrv w X b ⟨1,ty,xs,fz⟩:=by
 obtain⟨hi,cur,cap,h1,h2,h3,h4,h5⟩:=h
 refine⟨cur,cap,h1,h2,h3,h4,fun i x hx j y hy=> ?_⟩
 obtain⟨k,n,rfl⟩:=hi x (List.mem_of_getElem? hx)
 cases j with
 |zero=>
  simp[PV.cells]at hy;subst hy
  rw[Nat.mul_one,Nat.add_zero,h5 i k n hx]
  exact Q2.int k n
 |succ j=>simp[PV.cells]at hy
theorem Qhw.ofB{b:Nat}{ty:TypeId}{xs:List PV}{fz:Bool}{X:Nat->Prop}(h:Qrv w X b ⟨1,ty,xs,fz⟩)(hi:Qha xs):Qhw w b ty xs:=by
 obtain⟨cur,cap,h1,h2,h3,h4,h5⟩:=h
 refine⟨hi,cur,cap,h1,h2,h3,h4,fun i k n hx=> ?_⟩
 have:=h5 i _ hx 0 (.int k n) rfl
 simp only[Nat.mul_one,Nat.add_zero]at this
 generalize hg:cur.getD i undef=v at this
 cases this;rfl
theorem Qmd{xs:List PV}(h:Qha xs):∀(i:Nat)(x:PV),xs[i]? =some x->x.cells.length=1/\x.isData=true:=by
 intro i x hx
 obtain⟨k,n,rfl⟩:=h x (List.mem_of_getElem? hx)
 exact⟨rfl,rfl⟩
def Win(w:World)(b len:Nat)(o n:Nat)(v:Value):Prop:=o+n<=len/\∃cap,v= .slice (some ⟨b,o*1,none⟩) n cap/\Qa5 w b 1 (o+cap)/\o+cap<=maxLen
def ArgM(w:World)(X:Nat->Prop)(b len:Nat)(p:PV)(v:Value):Prop:=match p with
 | .mso β o n=>β=B0/\Win w b len o n v
 |p=>Qag w X p v
def ResM(w:World)(X:Nat->Prop)(b len:Nat)(p:PV)(v:Value):Prop:=match p with
 | .mso β o n=>β=B0/\Win w b len o n v
 |p=>Qco w X p v
def Qi4(P:Program)(f:FuncId)(args:List PV)(ty:TypeId)(xs:List PV)(Post:PV->List PV->Prop):Prop:=
 Qjo P f/\∀(w:World)(X:Nat->Prop)(b:Nat)(vals:Array Value),(∀c,X c->c<w.heap.size)->X b->vals.size=args.length->Qhw w b ty xs->0<xs.length->
  (∀(i:Nat)(x:PV),args[i]? =some x->ArgM w X b xs.length x (vals.getD i undef))->
  Calls P f vals w fun e w'=>∃v r xs',e= .returned v/\Ext (fun c=>c=b) w w'/\(∀e cap,Qa5 w b e cap->Qa5 w' b e cap)/\Qhw w' b ty xs'/\xs'.length=xs.length/\ResM w' X b xs.length r v/\Post r xs'
def Qiw(rs:List RV)(ty:TypeId)(len:Nat)(Post:PV->List PV->Prop):Qf:=fun fr hp=>
 ∃xs',hp B0=some ⟨1,ty,xs',false⟩/\Qha xs'/\xs'.length=len/\
  (Qdc rs (fun r=>(∀β o n,r≠ .mso β o n)/\Post r xs') fr hp∨∃s o n,rs=[.t s]/\fr s= .mso B0 o n/\Post (.mso B0 o n) xs')
theorem Qj8 {P : Program} {f : FuncId} {fn : Func} {sf : SFn} {args : List PV} {ty : TypeId} {xs : List PV} {Post : PV -> List PV -> Prop} (hm : P.follows .mixedOrders = true) (hf : P.funcs[f]? = some fn) (hname : (fn.name != "runtime.NumGoroutine") = true) (hc : Qe P fn = some sf) (hn : args.length <= sf.n /\ sf.n <= 1000000)
  (hv:∀C:Ctx,C.P=P->vc C (Qiw sf.rs ty xs.length Post) [.c sf.body] (Qfp args) (Qg hp0 B0 ⟨1,ty,xs,false⟩)):Qi4 P f args ty xs Post:=by
 simp only[Qe,Option.bind_eq_some_iff,Option.map_eq_some_iff]at hc
 obtain⟨c,hb,sb,hcb,rs,hrs,rfl⟩:=hc
 refine⟨by simp[Qjo,hf,hb];simpa using hname,fun w X b vals hX hXb hsz hI hpos hrep=> ?_⟩
 have hfx:∀β c,(fun β=>if β=B0 then some b else none:Nat->Option Nat) β=some c->c<w.heap.size/\(isR β=false->¬(X c/\c≠b)):=fun β c h=>by
  simp only at h
  split at h
  ·cases h;exact⟨hX b hXb,fun _ h=>h.2 rfl⟩
  ·cases h
 let C:Ctx:=⟨P,fn.ntmps,w,fun c=>X c/\c≠b,fun c hc=>hX c hc.1,hn.2,fun β=>if β=B0 then some b else none,hfx,Qbd,fun _ h=>h.elim⟩
 refine calls_of_wp hf hb ?_
 have hsz':(vals++Array.replicate (fn.ntmps-vals.size) undef).size=fn.ntmps:=by simp at hn ⊢;omega
 have hXof:∀c,Xof C (fun β=>if β=B0 then some b else none) (Qg hp0 B0 ⟨1,ty,xs,false⟩) c->X c:=by
  rintro c (hx|⟨β,_,h1,_,h3⟩)
  ·exact hx.1
  ·simp only at h3;split at h3
   ·cases h3;exact hXb
   ·cases h3
 have hsim:Sim C (Qfp args) (Qg hp0 B0 ⟨1,ty,xs,false⟩) (vals++Array.replicate (fn.ntmps-vals.size) undef) w:=by
  refine⟨fun β=>if β=B0 then some b else none,hsz',Ext.refl _ _,fun _ _ _ _ _ h=>h,fun β hb' hβ=> ?_,fun β γ b' h1 h2 h3 h4=> ?_,fun i=> ?_⟩
  ·unfold Qg at hβ
   split at hβ
   ·rename_i hβ0;cases hβ;subst hβ0
    refine⟨by simp,Qmd hI.1,?_,(fun _=>rfl),fun h=>by cases h⟩
    simp only[if_pos]
    exact⟨rfl,hX b hXb,hI.toB⟩
   ·simp[hp0]at hβ
  ·have:∀β,(if β=B0 then some b else none:Option Nat)=some b'->β=B0:=fun β h=>by
    split at h
    ·assumption
    ·cases h
   rw[this β h3,this γ h4]
  ·unfold Qfp
   cases hi:args[i]? with
   |none=>trivial
   | some p=>
    simp only[Option.getD_some]
    have hil:i<vals.size:=by rw[hsz];exact(List.getElem?_eq_some_iff.1 hi).1
    have hr:=hrep i p hi
    have e:(vals++Array.replicate (fn.ntmps-vals.size) undef).getD i undef=vals.getD i undef:=by
     rw[Qbb,if_pos hil]
    rw[e]
    have key:Qag w X p (vals.getD i undef)->Qm C (fun β=>if β=B0 then some b else none) (Qg hp0 B0 ⟨1,ty,xs,false⟩) w p (vals.getD i undef):=fun hr=>
     Qm.ofData (hr.mono (fun _ _ _=>rfl) (fun c _ hn hx=>hn (hXof c hx)) (Nat.le_refl _))
    cases p with
    |mso β o n=>
     obtain⟨rfl,h1,cap,h2,h3,h4⟩:=hr
     exact⟨⟨1,ty,xs,false⟩,by simp[Qg],h1,.inr ⟨b,cap,by simp,h2,h3,h4⟩⟩
    |_=>exact key hr
 have fin:∀(fr:Fr)(hp:HP)(a:Act)(w':World),a.defers=[]->Sim C fr hp a.tmps w'->Qiw rs ty xs.length Post fr hp->
   a.defers=[]/\∃v,(results fn a.tmps).run P w'= .ok v w'/\∃v' r xs',Ending.returned v= .returned v'/\Ext (fun c=>c=b) w w'/\(∀e cap,Qa5 w b e cap->Qa5 w' b e cap)/\Qhw w' b ty xs'/\xs'.length=xs.length/\ResM w' X b xs.length r v'/\Post r xs':=by
  rintro fr hp a w' hd ⟨ρ,hs⟩ ⟨xs',hB,hint,hlen,hr⟩
  have hown:=hs.own B0 _ hB
  have hblk:=hown.blk
  have hρ:ρ B0=some b:=by
   cases hq:ρ B0 with
   |none=>rw[hq]at hblk;simp only at hblk;rw[hblk]at hlen;simp at hlen;omega
   |some b'=>
    rw[<-hq]
    exact hown.fix rfl
  rw[hρ]at hblk
  have hI':Qhw w' b ty xs':=Qhw.ofB hblk.2.2 hint
  have hxe:Ext (fun c=>c=b) w w':=hs.ext.mono fun c _ hc=>by
   rcases hc with⟨β,_,hc⟩|hc
   ·have hc:(if β=B0 then some b else none:Option Nat)=some c:=hc
    split at hc
    ·cases hc;rfl
    ·cases hc
   ·exact hc.elim
  have hkp:∀e cap,Qa5 w b e cap->Qa5 w' b e cap:=hs.keep B0 b rfl
  rcases hr with hr|⟨s,o,n,rfl,hfs,hp⟩
  ·obtain⟨v,r,h1,h2,h3,h4⟩:=Qze (C:=C) rfl hrs hs hr (X:=X) (fun c hc=>by
    by_cases e:c=b
    ·subst e;exact .inr ⟨B0,_,rfl,hB,rfl,hρ⟩
    ·exact .inl ⟨hc,e⟩)
   refine⟨hd,v,h1,v,r,xs',rfl,hxe,hkp,hI',hlen,?_,h4⟩
   cases r with
   |mso β o n=>exact absurd rfl (h3 β o n)
   |_=>exact h2
  ·have hsl:=hs.slots s
   rw[hfs]at hsl
   obtain⟨hb2,g1,g2,g3⟩:=hsl
   rw[hB]at g1;cases g1
   rcases g3 with⟨g3,_⟩|⟨b',cap,g3,g4,g5,g6⟩
   ·rw[hρ]at g3;cases g3
   ·rw[hρ]at g3;cases g3
    obtain⟨x,hx⟩:∃x,fn.results.toList=[x]:=by
     have:=Qcw hrs
     exact List.length_eq_one_iff.1 (by rw[<-this.1];rfl)
    have hx2:Qbk P x=some (.t s):=by
     rw[hx]at hrs
     simp only[List.mapM_cons,List.mapM_nil,Option.bind_eq_bind,Option.pure_def,Option.bind_eq_some_iff,Option.some.injEq]at hrs
     obtain⟨y,h1,_,_,h2⟩:=hrs
     simp only[List.cons.injEq]at h2
     rw[<-h2.1];exact h1
    have hx3:x= .tmp s:=by
     cases x with
     |tmp t=>simpa[Qbk]using hx2
     |cell y t=>simp[Qbk,Option.bind_eq_some_iff]at hx2
    subst hx3
    have hres:(results fn a.tmps).run P w'= .ok (a.tmps.getD s undef) w':=by
     have e:results fn a.tmps=(do let vs<-fn.results.mapM (Qjp a.tmps);pure (if h:vs.size=1 then vs[0]else .tuple vs)):=rfl
     rw[e,Array.mapM_eq_mapM_toList,hx]
     simp[Sem.run_bind,Qjp]
    refine⟨hd,_,hres,_,.mso B0 o n,xs',rfl,hxe,hkp,hI',hlen,⟨rfl,hlen▸g2,cap,g4,g5,g6⟩,hp⟩
 exact Ql8 (C:=C) (R:=Qiw rs ty xs.length Post) hm c sb [] _ (Qfp args) _ _ w hcb ⟨fun fr hp a w' hd hs hv=>(by rw[Qif]at hv;exact fin fr hp a w' hd hs hv),fun id sk' he=>(by simp[FW.Qah]at he),fin⟩ rfl hsim (hv C rfl)
def PV.isDataM:PV->Bool
 | .mso .. =>true
 |p=>p.isData
def toB(β:Nat):PV->PV
 | .mso γ o n=>if γ=β then .mso B0 o n else .undef
 | .mp _ _ _=> .undef
 | .rb _ _ _=> .undef
 | .fn _ _ _=> .undef
 | .nso _ _ _| .np _ _ _| .rag _| .nst _ _ _ _=> .undef
 |p=>p
def Qgb(β:Nat):PV->PV
 | .mso _ o n=> .mso β o n
 |p=>p
theorem Qqu{P:Program}(hP:C.P=P){g:FuncId}{args pargs:List PV}{d:Option Nat}{β:Nat}{ty:TypeId}{xs:List PV}{Post:PV->List PV->Prop}(h:Qi4 P g pargs ty xs Post)(hβ:hp β=some ⟨1,ty,xs,false⟩)(hint:Qha xs)(hpos:0<xs.length)
  (hargs:args.map (toB β)=pargs) (hdat:pargs.all PV.isDataM=true)
  (hK:∀r xs',Qha xs'->xs'.length=xs.length->Post r xs'->K (Qbp fr d (Qgb β r)) (Qg hp β ⟨1,ty,xs',false⟩)):Qcj C false (.fn g [] []) args d fr hp K:=by
 subst hP
 refine⟨h.1,fun ρ tmps w fv cv av hdN hs h1 h2 h3 _ _ hr3=> ?_⟩
 have hown:=hs.own β _ hβ
 have hblk:=hown.blk
 obtain⟨b,hρ⟩:∃b,ρ β=some b:=by
  cases hq:ρ β with
  |none=>rw[hq]at hblk;simp only at hblk;rw[hblk]at hpos;simp at hpos
  |some b=>exact⟨b,rfl⟩
 rw[hρ]at hblk
 have hXb:Xof C ρ hp b:= .inr ⟨β,_,hβ,rfl,hρ⟩
 have e1:fv= #[]:=Array.eq_empty_of_size_eq_zero (by simpa using h1)
 have e2:cv= #[]:=Array.eq_empty_of_size_eq_zero (by simpa using h2)
 subst e1;subst e2
 simp only[Array.empty_append,Array.append_empty]
 refine(h.2 w (Xof C ρ hp) b av (Qnp hs) hXb (by rw[<-hargs];simp[h3]) (Qhw.ofB hblk.2.2 hint) hpos (fun i x hx=> ?_)).mono ?_
 ·rw [<-hargs]at hx
  simp only[List.getElem?_map,Option.map_eq_some_iff]at hx
  obtain⟨p,hp',hpx⟩:=hx
  have hr:=hr3 i p hp'
  have hxd:PV.isDataM x=true:=by
   rw[List.all_eq_true]at hdat
   refine hdat x ?_
   rw[<-hargs,<-hpx]
   exact List.mem_map_of_mem (List.mem_of_getElem? hp')
  subst hpx
  cases p with
  | mso γ o n=>
   simp only[toB]at hxd⊢
   split
   ·rename_i hγ
    subst hγ
    obtain⟨hb2,g1,g2,g3⟩:=hr
    rw[hβ]at g1;cases g1
    rcases g3 with⟨g3,_⟩|⟨b',cap,g3,g4,g5,g6⟩
    ·rw[hρ]at g3;cases g3
    ·rw[hρ]at g3;cases g3
     exact⟨rfl,g2,cap,g4,g5,g6⟩
   ·rename_i hγ;rw[if_neg hγ]at hxd;simp[PV.isDataM,PV.isData]at hxd
  |mp=>simp[toB,PV.isDataM,PV.isData]at hxd
  |rb=>simp[toB,PV.isDataM,PV.isData]at hxd
  |fn=>simp[toB,PV.isDataM,PV.isData]at hxd
  |undef=>simp[toB,PV.isDataM,PV.isData]at hxd
  |nso=>simp[toB,PV.isDataM,PV.isData]at hxd
  |np=>simp[toB,PV.isDataM,PV.isData]at hxd
  |rag=>simp[toB,PV.isDataM,PV.isData]at hxd
  |nst=>simp[toB,PV.isDataM,PV.isData]at hxd
  |tup=>simp[toB,PV.isDataM,PV.isData]at hxd
  |agg cs=>exact hr
  |_=>exact hr
 ·rintro e w' ⟨v,r,xs',rfl,hx,hcap,hI',hlen,hres,hpost⟩
  have hst:=hs.store β b ⟨1,ty,xs,false⟩ ⟨1,ty,xs',false⟩ hβ rfl (by intro e;simp at e;rw[e]at hpos;simp at hpos) hρ hx rfl hlen rfl (Qmd hI'.1) hcap (hI'.toB (X:=Xof C ρ hp) (fz:=false) |> fun⟨cur,cap,c1,c2,c3,c4,c5⟩=>⟨cur,cap,c1,c2,c3,c4,fun i x hi j y hy=>by
   obtain⟨k,n,rfl⟩:=hI'.1 x (List.mem_of_getElem? hi)
   have:=c5 i _ hi j y hy
   cases j with
   |zero=>
    simp[PV.cells]at hy;subst hy
    generalize hg:cur.getD (i*1+0) undef=u at this
    cases this
    exact Q2.int k n
   |succ j=>simp[PV.cells]at hy⟩)
  have hXe:Xof C ρ (Qg hp β ⟨1,ty,xs',false⟩)=Xof C ρ hp:=by
   funext c;apply propext;constructor
   ·rintro(hx|⟨γ,hg,h1,h2,h3⟩)
    ·exact .inl hx
    ·by_cases hγ:γ=β
     ·subst hγ;exact .inr ⟨γ,_,hβ,rfl,h3⟩
     ·simp only[Qg,if_neg hγ]at h1;exact .inr ⟨γ,hg,h1,h2,h3⟩
   ·rintro(hx|⟨γ,hg,h1,h2,h3⟩)
    ·exact .inl hx
    ·by_cases hγ:γ=β
     ·subst hγ;exact .inr ⟨γ,⟨1,ty,xs',false⟩,by simp[Qg],rfl,h3⟩
     ·exact .inr ⟨γ,hg,by simp[Qg,hγ,h1],h2,h3⟩
  refine⟨v,_,_,rfl,⟨ρ,hst.updO (p:=Qgb β r) ?_ hdN⟩,by simp,hK r xs' hI'.1 hlen hpost⟩
  cases r with
  |mso γ o n=>
   obtain⟨_,g1,cap,g2,g3,g4⟩:=hres
   exact⟨⟨1,ty,xs',false⟩,by simp[Qg],by simp only[Qgb];omega,.inr ⟨b,cap,hρ,g2,g3,g4⟩⟩
  |_=>exact Qm.ofV (p:=_) (by rw[hXe];exact hres)
end Go.FW
namespace Go.FW
open Go
variable {C : Ctx} {ρ : Nat -> Option Nat} {fr : Fr} {hp : HP} {w : World} {K K' R : Qf}
def Qll(P:Program)(f:FuncId)(args:List PV)(ty:TypeId)(Post:List PV->Prop):Prop:=
 Qjo P f/\∀(w:World)(X:Nat->Prop)(vals:Array Value),(∀b,X b->b<w.heap.size)->vals.size=args.length->(∀(i:Nat)(x:PV),args[i]? =some x->Qag w X x (vals.getD i undef))->
  Calls P f vals w fun e w'=>∃v b cap ys,e= .returned v/\v= .slice (some ⟨b,0,none⟩) ys.length cap/\w.heap.size<=b/\Ext Qbd w w'/\Qhw w' b ty ys/\Qa5 w' b 1 cap/\cap<=maxLen/\Post ys
def Qoi(rs:List RV)(ty:TypeId)(Post:List PV->Prop):Qf:=fun fr hp=>
 ∃s β n xs,rs=[.t s]/\fr s= .mso β 0 n/\isB β=false/\hp β=some ⟨1,ty,xs,false⟩/\Qha xs/\0<n/\Post (xs.take n)
theorem Q12{xs:List PV}(h:Qha xs)(n:Nat):Qha (xs.take n):=fun x hx=>h x (List.mem_of_mem_take hx)
theorem Q13 {P : Program} {f : FuncId} {fn : Func} {sf : SFn} {args : List PV} {ty : TypeId} {Post : List PV -> Prop} (hm : P.follows .mixedOrders = true) (hf : P.funcs[f]? = some fn) (hname : (fn.name != "runtime.NumGoroutine") = true) (hc : Qe P fn = some sf) (hn : args.length <= sf.n /\ sf.n <= 1000000)
  (hv:∀C:Ctx,C.P=P->vc C (Qoi sf.rs ty Post) [.c sf.body] (Qfp args) hp0):Qll P f args ty Post:=by
 simp only[Qe,Option.bind_eq_some_iff,Option.map_eq_some_iff]at hc
 obtain⟨c,hb,sb,hcb,rs,hrs,rfl⟩:=hc
 refine⟨by simp[Qjo,hf,hb];simpa using hname,fun w X vals hX hsz hrep=> ?_⟩
 let C:Ctx:=Ctx.plain P fn.ntmps w X hX hn.2
 refine calls_of_wp hf hb ?_
 have hsz':(vals++Array.replicate (fn.ntmps-vals.size) undef).size=fn.ntmps:=by simp at hn ⊢;omega
 have hsim:Sim C (Qfp args) hp0 (vals++Array.replicate (fn.ntmps-vals.size) undef) w:=by
  refine⟨fun _=>none,hsz',Ext.refl _ _,(fun _ _ h=>by cases h),by simp[hp0],by simp[hp0],fun i=> ?_⟩
  unfold Qfp
  cases hi:args[i]? with
  |none=>trivial
  | some p=>
   simp only[Option.getD_some]
   have hil:i<vals.size:=by rw[hsz];exact(List.getElem?_eq_some_iff.1 hi).1
   have hr:=hrep i p hi
   have e:(vals++Array.replicate (fn.ntmps-vals.size) undef).getD i undef=vals.getD i undef:=by
    rw[Qbb,if_pos hil]
   rw[e]
   refine Qm.ofData (hr.mono (fun _ _ _=>rfl) (fun b _ hn hx=> ?_) (Nat.le_refl _))
   rcases hx with hx|⟨_,_,h1,_⟩
   ·exact hn hx
   ·simp[hp0]at h1
 have fin:∀(fr:Fr)(hp:HP)(a:Act)(w':World),a.defers=[]->Sim C fr hp a.tmps w'->Qoi rs ty Post fr hp->
   a.defers=[]/\∃v,(results fn a.tmps).run P w'= .ok v w'/\∃v' b cap ys,Ending.returned v= .returned v'/\v'= .slice (some ⟨b,0,none⟩) ys.length cap/\w.heap.size<=b/\Ext Qbd w w'/\Qhw w' b ty ys/\Qa5 w' b 1 cap/\cap<=maxLen/\Post ys:=by
  rintro fr hp a w' hd ⟨ρ,hs⟩ ⟨s,β,n,xs,rfl,hfs,hB,hβ,hint,hpos,hp⟩
  have hown:=hs.own β _ hβ
  have hblk:=hown.blk
  have hsl:=hs.slots s
  rw[hfs]at hsl
  obtain⟨hb2,g1,g2,g3⟩:=hsl
  rw[hβ]at g1;cases g1
  rcases g3 with⟨_,_,g3,_⟩|⟨b,cap,g3,g4,g5,g6⟩
  ·omega
  ·rw[g3]at hblk
   simp only[hB]at hblk
   obtain⟨x,hx⟩:∃x,fn.results.toList=[x]:=by
    have:=Qcw hrs
    exact List.length_eq_one_iff.1 (by rw[<-this.1];rfl)
   have hx2:Qbk P x=some (.t s):=by
    rw[hx]at hrs
    simp only[List.mapM_cons,List.mapM_nil,Option.bind_eq_bind,Option.pure_def,Option.bind_eq_some_iff,Option.some.injEq]at hrs
    obtain⟨y,h1,_,_,h2⟩:=hrs
    simp only[List.cons.injEq]at h2
    rw[<-h2.1];exact h1
   have hx3:x= .tmp s:=by
    cases x with
    |tmp t=>simpa[Qbk]using hx2
    |cell y t=>simp[Qbk,Option.bind_eq_some_iff]at hx2
   subst hx3
   have hres:(results fn a.tmps).run P w'= .ok (a.tmps.getD s undef) w':=by
    have e:results fn a.tmps=(do let vs<-fn.results.mapM (Qjp a.tmps);pure (if h:vs.size=1 then vs[0]else .tuple vs)):=rfl
    rw[e,Array.mapM_eq_mapM_toList,hx]
    simp[Qjp]
   have hlen:(xs.take n).length=n:=by simp at g2 ⊢;omega
   refine⟨hd,_,hres,_,b,cap,xs.take n,rfl,by rw[g4,hlen,Nat.zero_mul],(Ctx.cls_N hblk.1 (Qjf hB)).resolve_right (fun h=>h),Ctx.plain_ext hs.ext,?_,by rw[Nat.zero_add]at g5;exact g5,by omega,hp⟩
   obtain⟨_,cur,cp,i1,i2,i3,i4,i5⟩:=Qhw.ofB hblk.2.2 hint
   exact⟨Q12 hint n,cur,cp,i1,i2,by simp;omega,i4,fun i k m hi=>i5 i k m (by
    have hi':i<n:=by have:=(List.getElem?_eq_some_iff.1 hi).1;omega
    rwa[List.getElem?_take_of_lt hi']at hi)⟩
 exact Ql8 (C:=C) (R:=Qoi rs ty Post) hm c sb [] _ (Qfp args) hp0 _ w hcb ⟨fun fr hp a w' hd hs hv=>(by rw[Qif]at hv;exact fin fr hp a w' hd hs hv),fun id sk' he=>(by simp[FW.Qah]at he),fin⟩ rfl hsim (hv C rfl)
theorem Qaek{P:Program}(hP:C.P=P){g:FuncId}{args pargs:List PV}{d:Nat}{ty:TypeId}{Post:List PV->Prop}(h:Qll P g pargs ty Post)(hargs:([]++args++[]).map (Q8 hp)=pargs)(hdat:pargs.all PV.isData=true)(hr:([]++args++[]).flatMap PV.refs=[])
  (hB:isB d=false) (hK:∀ys,Qha ys->Post ys->K (upd (Qap d fr) d (.ms d ys.length)) (Qg hp d ⟨1,ty,ys,false⟩)):Qcj C false (.fn g [] []) args (some d) fr hp K:=by
 subst hP
 refine⟨h.1,fun ρ tmps w fv cv av hdN hs h1 h2 h3 hr1 hr2 hr3=> ?_⟩
 have hf0:Q9 hp (([]++args++[]).flatMap PV.refs)=hp:=by rw[hr];rfl
 have hrep:=Quz hs h1 h2 h3 hr1 hr2 hr3 (by rw[hargs];exact hdat)
 rw[hf0,hargs]at hrep
 refine(h.2 w _ (fv++av++cv) (Qnp hs) (by rw[<-hargs];simp[h1,h2,h3]) hrep).mono ?_
 rintro e w' ⟨v,b,cap,ys,rfl,rfl,hb,hx,hI,hcap,hm,hpost⟩
 have hbl:b<w'.heap.size:=by
  obtain⟨_,cur,cp,i1,_⟩:=hI
  exact(Array.getElem?_eq_some_iff.1 i1).1
 have hrb:=hs.rebind (w':=w') d (some b) ⟨1,ty,ys,false⟩ hB (hx.mono (fun _ _ h=>h.elim)) (fun c hc=>by cases hc;exact⟨.inl (Nat.le_trans hs.ext.size hb),hbl,.inl hb⟩) (by simp) (Qmd hI.1) (by simp)
  (fun c hc=>by
   cases hc
   obtain⟨hint,cur,cp,i1,i2,i3,i4,i5⟩:=hI
   refine⟨cur,cp,i1,i2,i3,i4,fun i x hi j y hy=> ?_⟩
   obtain⟨k,n,rfl⟩:=hint x (List.mem_of_getElem? hi)
   cases j with
   |zero=>
    simp[PV.cells]at hy;subst hy
    rw[Nat.mul_one,Nat.add_zero,i5 i k n hi]
    exact Q2.int k n
   |succ j=>simp[PV.cells]at hy)
 refine⟨_,_,_,rfl,⟨_,hrb.updO (d:=some d) (p:= .ms d ys.length) ?_ hdN⟩,by simp,hK ys hI.1 hpost⟩
 exact⟨⟨1,ty,ys,false⟩,by simp[Qg],by simp,.inr ⟨b,cap,Qb5 _ _ _,by simp,by rw[Nat.zero_add];exact hcap,by omega⟩⟩
def Qc0(hp:HP):PV->PV
 | .mp β i o=>match hp β with
  |some hb=>match hb.xs[i]? with
   |some x=> .pt (x.cells.drop o)
   |none=> .undef
  |none=> .undef
 | .mso β o n=>match hp β with
  |some hb=> .sl hb.e ((hb.xs.drop o).take n)
  |none=> .undef
 | .rb β o n=>match hp β with
  |some hb=> .pt [.sl hb.e ((hb.xs.drop o).take n)]
  |none=> .undef
 |p=>p
def Qpy(C:Ctx)(ρ:Nat->Option Nat)(hp:HP)(l:List Nat):Nat->Prop:=fun c=>Xof C ρ hp c/\¬∃β∈l,ρ β=some c
theorem Q2.but{l:List Nat}{q:PV}{u:Value}(h:Q2 w (Xof C ρ hp) q u):Q2 w (Qpy C ρ hp l) q u:=
 h.mono (fun _ _ _=>rfl) (fun _ _ hn hx=>hn hx.1) (Nat.le_refl _)
theorem Qcq.but{tmps:Array Value}(h:Q4 C ρ fr hp tmps w){β o n:Nat}{v:Value}{l:List Nat}{hb:HB}(hr:Qcq ρ hp w β o n v)(hβl:β∈l)(g1:hp β=some hb):Q2 w (Qpy C ρ hp l) (.sl hb.e ((hb.xs.drop o).take n)) v:=by
 obtain⟨hb2,g1',g2,g3⟩:=hr
 rw[g1]at g1';cases g1'
 rcases g3 with⟨g3,rfl,rfl,rfl⟩|⟨b,cap,g3,rfl,g5,g6⟩
 ·simp only[List.take_zero];exact .slE _ _ _ (Nat.zero_le _)
 ·have hown:=h.own β hb g1
  have hblk:=hown.blk
  rw[g3]at hblk
  obtain⟨_,hlt,cur,cap',c1,c2,c3,c4,c5⟩:=hblk
  obtain⟨cur',ty',d1,d2⟩:=g5
  rw[c1]at d1;cases d1
  have hcc:o+cap=cap':=by
   rw[c2]at d2
   exact(Nat.eq_of_mul_eq_mul_right hown.epos d2).symm
  subst hcc
  have hlen:((hb.xs.drop o).take n).length=n:=by simp;omega
  have hget:∀(i:Nat)(x:PV),((hb.xs.drop o).take n)[i]? =some x->i<n/\hb.xs[o+i]? =some x:=fun i x hx=>by
   have hi:i<n:=by have:=(List.getElem?_eq_some_iff.1 hx).1;omega
   rw[List.getElem?_take_of_lt hi,List.getElem?_drop]at hx
   exact⟨hi,hx⟩
  have:=Q2.sl (w:=w) (X:=Qpy C ρ hp l) hb.e ((hb.xs.drop o).take n) b (o*hb.e) cap (fun i j=>cur.getD ((o+i)*hb.e+j) undef) (fun hxb=>hxb.2 ⟨β,hβl,g3⟩) hlt (by omega) (by omega)
   (fun i x hx=>(hown.len _ x (hget i x hx).2).1)
   (fun i hi j hj=>by
    rw[hlen]at hi
    have:=Qez (i:=o+i) (e:=hb.e) (o:=0) (j:=j) (n:=hb.e) (cap:=o+cap) (by omega) (by omega) hj
    rw[Nat.add_zero]at this
    rw[show o*hb.e+i*hb.e+j=(o+i)*hb.e+j by rw[Nat.add_mul]]
    exact Qa7 c1 (by rw[c2];exact this))
   (fun i x hx j y hy=>(c5 _ x (hget i x hx).2 j y hy).but)
  rwa[hlen]at this
theorem Qj9{tmps:Array Value}(h:Q4 C ρ fr hp tmps w){p:PV}{v:Value}{l:List Nat}(hr:Qbf C ρ hp w p v)(hl:∀β∈p.ref1,β∈l)(hu:(Qc0 hp p).isData=true)(hnf:∀f a b,p≠ .fn f a b):Qag w (Qpy C ρ hp l) (Qc0 hp p) v:=by
 cases p with
 | mp β i o=>
  obtain⟨b,hb,g1,g2,rfl⟩:=hr
  have hβl:=hl β (by simp[PV.ref1])
  have hown:=h.own β hb g2
  have hblk:=hown.blk
  rw[g1]at hblk
  obtain⟨_,hlt,cur,cap,c1,c2,c3,c4,c5⟩:=hblk
  simp only[Qc0,g2]at hu⊢
  cases hx:hb.xs[i]? with
  |none=>simp[hx,PV.isData]at hu
  | some x=>
   have hi:i<hb.xs.length:=(List.getElem?_eq_some_iff.1 hx).1
   have hcl:=(hown.len i x hx).1
   refine Q2.pt _ b _ (fun j=>cur.getD (i*hb.e+o+j) undef) (fun hxb=>hxb.2 ⟨β,hβl,g1⟩) hlt (fun j hj=> ?_) (fun j y hy=> ?_)
   ·have hj':o+(j+1)<=hb.e:=by simp[hcl]at hj;omega
    exact Qa7 c1 (by rw[c2];exact Qez (by omega) hj' (Nat.lt_succ_self j))
   ·rw[List.getElem?_drop]at hy
    rw[Nat.add_assoc]
    exact(c5 i x hx (o+j) y hy).but
 |mso β o n=>
  obtain⟨hb,g1,_⟩:=id hr
  simp only[Qc0,g1]
  exact Qcq.but h hr (hl β (by simp[PV.ref1])) g1
 | rb β o n=>
  obtain⟨b,u,rfl,e2,e3,e4,hb,g1,e5⟩:=hr
  simp only[Qc0,g1]
  refine Q2.pt _ b 0 (fun _=>u) (fun hx=>e3 hx.1) e2 (fun j hj=> ?_) (fun j y hy=> ?_)
  ·obtain rfl:j=0:=by simpa using hj
   simpa using e4
  ·cases j with
   |zero=>simp at hy;subst hy;exact Qcq.but h ⟨hb,g1,e5⟩ (hl β (by simp[PV.ref1])) g1
   |succ j=>simp at hy
 |undef=>simp[Qc0,PV.isData]at hu
 |fn f a b=>exact absurd rfl (hnf f a b)
 |tup=>simp[Qc0,PV.isData]at hu
 |nso=>simp[Qc0,PV.isData]at hu
 |np=>simp[Qc0,PV.isData]at hu
 |rag=>simp[Qc0,PV.isData]at hu
 |nst=>simp[Qc0,PV.isData]at hu
 |agg=>cases hr
 |_=>exact Q2.but hr
end Go.FW
namespace Go.FW
open Go
variable {C : Ctx} {ρ : Nat -> Option Nat} {fr : Fr} {hp : HP} {w : World} {K K' R : Qf}
def PV.notFn:PV->Bool
 | .fn .. =>false
 |p=>p.isData
theorem Qqv{p:PV}(h:p.notFn=true):p.isData=true/\∀f a b,p≠ .fn f a b:=by
 cases p<;>simp_all[PV.notFn,PV.isData]
theorem Qzh{tmps:Array Value}(h:Q4 C ρ fr hp tmps w){p:PV}{v:Value}{l:List Nat}(hr:Qm C ρ hp w p v)(hl:∀β∈p.refs,β∈l)(hu:(Qc0 hp p).notFn=true):Qag w (Qpy C ρ hp l) (Qc0 hp p) v:=by
 obtain⟨hd,hnf⟩:=Qqv hu
 cases p with
 |mp β i o=>exact Qj9 (p:= .mp β i o) h hr (fun β' hβ'=>hl β' hβ') hd (by simp)
 |mso β o n=>exact Qj9 (p:= .mso β o n) h hr (fun β' hβ'=>hl β' hβ') hd (by simp)
 |rb β o n=>exact Qj9 (p:= .rb β o n) h hr (fun β' hβ'=>hl β' hβ') hd (by simp)
 |fn f a b=>exact absurd rfl (hnf f a b)
 |undef=>simp[Qc0,PV.notFn,PV.isData]at hu
 |tup=>simp[Qc0,PV.notFn,PV.isData]at hu
 |agg cs=>exact Qag.mono (p:= .agg cs) hr (fun _ _ _=>rfl) (fun _ _ hn hx=>hn hx.1) (Nat.le_refl _)
 |nso=>simp[Qc0,PV.isData]at hd
 |np=>simp[Qc0,PV.isData]at hd
 |rag=>simp[Qc0,PV.isData]at hd
 |nst=>simp[Qc0,PV.isData]at hd
 |_=>exact Q2.but hr
theorem Qqw{tmps:Array Value}(h:Q4 C ρ fr hp tmps w){p:PV}{v:Value}{l:List Nat}(hr:Qbf C ρ hp w p v)(hl:∀β∈p.refs,β∈l)(hu:(Qc0 hp p).notFn=true):Qag w (Qpy C ρ hp l) (Qc0 hp p) v:=by
 obtain⟨hd,hnf⟩:=Qqv hu
 refine Qj9 h hr (fun β hβ=>hl β ?_) hd ?_
 ·cases p<;>simp_all[PV.ref1,PV.refs]
 ·intro f a b hp';subst hp';exact hnf f a b rfl
theorem Q14{P:Program}(hP:C.P=P){g:FuncId}{first cap args pargs:List PV}{pr:Bool}{d:Option Nat}{r:PV}(h:Qd P g pargs (· =r))(hargs:(first++args++cap).map (Qc0 hp)=pargs)(hdat:pargs.all PV.notFn=true)(hr:r.isScal=true)
  (hK:K (Qbp fr d r) hp):Qcj C pr (.fn g first cap) args d fr hp K:=by
 subst hP
 refine⟨h.1,fun ρ tmps w fv cv av hdN hs h1 h2 h3 hr1 hr2 hr3=> ?_⟩
 refine(h.2 w (Qpy C ρ hp ((first++args++cap).flatMap PV.refs)) (fv++av++cv) (fun b hb=>Qnp hs b hb.1) (by rw[<-hargs];simp[h1,h2,h3]) (fun i x hx=> ?_)).mono ?_
 ·have hdx:x.notFn=true:=by rw[List.all_eq_true]at hdat;exact hdat x (List.mem_of_getElem? hx)
  rw[<-hargs]at hx
  simp only[List.getElem?_map,Option.map_eq_some_iff]at hx
  obtain⟨p,hp',rfl⟩:=hx
  have hmem:=List.mem_of_getElem? hp'
  have hl:∀β∈p.refs,β∈(first++args++cap).flatMap PV.refs:=fun β hβ=>List.mem_flatMap.2 ⟨p,hmem,hβ⟩
  rw[Qbb]
  rw[List.getElem?_append]at hp'
  by_cases c1:i<(first++args).length
  ·rw[if_pos c1]at hp'
   rw[if_pos (by simp only[Array.size_append,h1,h3];simpa using c1),Qbb]
   rw[List.getElem?_append]at hp'
   by_cases c2:i<first.length
   ·rw[if_pos c2]at hp'
    rw[if_pos (by omega)]
    exact Qqw hs (hr1 i p hp') hl hdx
   ·rw[if_neg c2]at hp'
    rw[if_neg (by omega),h1]
    exact Qzh hs (hr3 _ p hp') hl hdx
  ·rw[if_neg c1]at hp'
   have hsz:(fv++av).size=(first++args).length:=by simp[h1,h3]
   rw[if_neg (by omega),hsz]
   exact Qqw hs (hr2 _ p hp') hl hdx
 ·rintro e w' ⟨v,r',rfl,hx,hr',rfl⟩
  exact⟨v,_,_,rfl,⟨ρ,(hs.grow hx).updO (Qm.ofV (Q42 hr hr')) hdN⟩,fun _=>hx,hK⟩
end Go.FW
namespace Go.FW
def Qf0:List Nat->List Nat->Nat->List Nat
 | [],_,_=>[]
 |x::xs,ys,c=>(c+x+ys.headD 0)%65536::Qf0 xs ys.tail ((c+x+ys.headD 0)/65536)
theorem Qo8:∀(a b:List Nat)(c:Nat),(Qf0 a b c).length=a.length
 | [],_,_=>rfl
 |x::xs,b,c=>by simp[Qf0,Qo8 xs]
theorem Qqx:∀(a b:List Nat)(c:Nat),Qj (Qf0 a b c)
 | [],_,_=>Qcy
 |x::xs,b,c=>by rw[Qf0,Qax];exact⟨by omega,Qqx xs _ _⟩
theorem Q15{a b:List Nat}{i c:Nat}(h:i<a.length):Qf0 (a.drop i) (b.drop i) c=(c+a[i]+b.getD i 0)%65536::Qf0 (a.drop (i+1)) (b.drop (i+1)) ((c+a[i]+b.getD i 0)/65536):=by
 rw[List.drop_eq_getElem_cons h,Qf0]
 simp[List.headD_eq_head?_getD,List.head?_drop,List.getD_eq_getElem?_getD]
theorem Qu8:∀(a b:List Nat)(c:Nat),b.length<=a.length->∃k,val (Qf0 a b c)+65536^a.length*k=val a+val b+c
 | [],b,c,h=>by
  have:b=[]:=List.length_eq_zero_iff.1 (by simpa using h)
  subst this
  exact⟨c,by simp[Qf0,val]⟩
 |x::xs,b,c,h=>by
  obtain⟨k,hk⟩:=Qu8 xs b.tail ((c+x+b.headD 0)/65536) (by simp at h ⊢;omega)
  refine⟨k,?_⟩
  rw[Qf0,val,val,Qik b,List.length_cons,Nat.pow_succ,Nat.mul_comm (65536^xs.length) 65536,Nat.mul_assoc]
  generalize 65536^xs.length*k=z at *
  generalize b.headD 0=y at *
  omega
def Qc4:List Nat->List Nat->Nat->Nat->Nat->List Nat×Nat×Nat
 | [],_,_,c,b=>([],c,b)
 |x::xs,ys,q,c,b=>
  let r:=Qc4 xs ys.tail q ((c+q*ys.headD 0)/65536) (if x<(c+q*ys.headD 0)%65536+b then 1 else 0)
  ((x+65536-(c+q*ys.headD 0)%65536-b)%65536::r.1,r.2)
theorem Qo9:∀(a v:List Nat)(q c b:Nat),(Qc4 a v q c b).1.length=a.length
 | [],_,_,_,_=>rfl
 |x::xs,v,q,c,b=>by simp[Qc4,Qo9 xs]
theorem Qqy:∀(a v:List Nat)(q c b:Nat),Qj (Qc4 a v q c b).1
 | [],_,_,_,_=>Qcy
 |x::xs,v,q,c,b=>by simp only[Qc4];rw[Qax];exact⟨by omega,Qqy xs _ _ _ _⟩
theorem Q16{a v:List Nat}{i q c b:Nat}(h:i<a.length):Qc4 (a.drop i) (v.drop i) q c b=
    ((a[i]+65536-(c+q*v.getD i 0)%65536-b)%65536::(Qc4 (a.drop (i+1)) (v.drop (i+1)) q ((c+q*v.getD i 0)/65536) (if a[i]<(c+q*v.getD i 0)%65536+b then 1 else 0)).1,
     (Qc4 (a.drop (i+1)) (v.drop (i+1)) q ((c+q*v.getD i 0)/65536) (if a[i]<(c+q*v.getD i 0)%65536+b then 1 else 0)).2):=by
  rw[List.drop_eq_getElem_cons h,Qc4]
  simp[List.headD_eq_head?_getD,List.head?_drop,List.getD_eq_getElem?_getD]
theorem Qu9:∀(a v:List Nat)(q c b:Nat),Qj a->b<=1->v.length<=a.length->
  val (Qc4 a v q c b).1+(q*val v+c+b)=val a+65536^a.length*((Qc4 a v q c b).2.1+(Qc4 a v q c b).2.2)/\(Qc4 a v q c b).2.2<=1
 | [],v,q,c,b,_,hb,h=>by
  have:v=[]:=List.length_eq_zero_iff.1 (by simpa using h)
  subst this
  simp[Qc4,val,hb]
 |x::xs,v,q,c,b,ha,hb,h=>by
  rw[Qax]at ha
  have hb':(if x<(c+q*v.headD 0)%65536+b then 1 else 0)<=1:=by split<;>omega
  obtain⟨ih,ih2⟩:=Qu9 xs v.tail q ((c+q*v.headD 0)/65536) (if x<(c+q*v.headD 0)%65536+b then 1 else 0) ha.2 hb' (by simp at h ⊢;omega)
  refine⟨?_,ih2⟩
  simp only[Qc4]
  rw[val,val,Qik v,List.length_cons,Nat.pow_succ,Nat.mul_comm (65536^xs.length) 65536,Nat.mul_assoc,Nat.mul_add q,Nat.mul_left_comm q 65536]
  generalize Qc4 xs v.tail q ((c+q*v.headD 0)/65536) (if x<(c+q*v.headD 0)%65536+b then 1 else 0)=r at *
  generalize 65536^xs.length*(r.2.1+r.2.2)=z at *
  generalize q*v.headD 0=y at *
  generalize q*val v.tail=t at *
  have h0:=ha.1
  split at ih
  ·omega
  ·omega
open Go
variable {fr : Fr} {hp : HP}
theorem Qael{ty len:Nat}{Post:PV->List PV->Prop}{xs':List PV}(hB:hp B0=some ⟨1,ty,xs',false⟩)(hi:Qha xs')(hl:xs'.length=len)(hp':Post (.tup []) xs'):Qiw [] ty len Post fr hp:=
 ⟨xs',hB,hi,hl,.inl ⟨by simp,.tup [],trivial,by simp,hp'⟩⟩
theorem Q17{ty len s:Nat}{Post:PV->List PV->Prop}{xs':List PV}{p:PV}(hB:hp B0=some ⟨1,ty,xs',false⟩)(hi:Qha xs')(hl:xs'.length=len)(hs:Q8 hp (fr s)=p)(hd:p.isData=true)(hp':Post p xs'):Qiw [.t s] ty len Post fr hp:=
 ⟨xs',hB,hi,hl,.inl ⟨by simp only[okR];rw[hs];exact hd,p,by simp only[rvP];rw[hs];exact Qy p,fun β o n e=>by subst e;simp[PV.isData]at hd,hp'⟩⟩
theorem Qx2{ty len s o n:Nat}{Post:PV->List PV->Prop}{xs':List PV}(hB:hp B0=some ⟨1,ty,xs',false⟩)(hi:Qha xs')(hl:xs'.length=len)(hs:fr s= .mso B0 o n)(hp':Post (.mso B0 o n) xs'):Qiw [.t s] ty len Post fr hp:=
 ⟨xs',hB,hi,hl,.inr ⟨s,o,n,rfl,hs,hp'⟩⟩
end Go.FW
namespace Go.FW
open Go
variable {C : Ctx} {fr : Fr} {hp : HP} {K : Qf}
theorem Qnr{a b i:Nat}(h:b<2^i):a*2^i|||b=a*2^i+b:=by
 rw[<-Nat.shiftLeft_eq,Nat.shiftLeft_add_eq_or_of_lt h]
theorem Qva{bt:Bool}{x y d:Nat}(hx:x<18446744073709551616)(hy:y<18446744073709551616):Qa4 .or bt (.int .u64 (x:Int)) (.int .u64 (y:Int)) d fr hp K=K (upd fr d (.int .u64 ((x|||y:Nat):Int))) hp:=by
 have h1:(BitVec.ofInt 64 (x:Int)|||BitVec.ofInt 64 (y:Int)).toNat=x|||y:=by
  rw[BitVec.toNat_or,BitVec.ofInt_natCast,BitVec.ofInt_natCast,BitVec.toNat_ofNat,BitVec.toNat_ofNat,Nat.mod_eq_of_lt hx,Nat.mod_eq_of_lt hy]
 have h2:x|||y<18446744073709551616:=Nat.or_lt_two_pow (n:=64) hx hy
 simp only[Qa4,IntKind.bits,h1,true_and]
 rw[Qe8 (by omega) (by omega)]
 exact congrArg (fun z:Nat=>K (upd fr d (.int .u64 (z:Int))) hp) h1
theorem Q18{bt:Bool}{x y d:Nat}(hx:x<4294967296)(hy:y<4294967296):Qa4 .or bt (.int .u32 (x:Int)) (.int .u32 (y:Int)) d fr hp K=K (upd fr d (.int .u32 ((x|||y:Nat):Int))) hp:=by
 have h1:(BitVec.ofInt 32 (x:Int)|||BitVec.ofInt 32 (y:Int)).toNat=x|||y:=by
  rw[BitVec.toNat_or,BitVec.ofInt_natCast,BitVec.ofInt_natCast,BitVec.toNat_ofNat,BitVec.toNat_ofNat,Nat.mod_eq_of_lt hx,Nat.mod_eq_of_lt hy]
 have h2:x|||y<4294967296:=Nat.or_lt_two_pow (n:=32) hx hy
 simp only[Qa4,IntKind.bits,h1,true_and]
 rw[Qma (by omega) (by omega)]
 exact congrArg (fun z:Nat=>K (upd fr d (.int .u32 (z:Int))) hp) h1
theorem Q19{bt:Bool}{x y d:Nat}(hx:x<65536)(hy:y<65536):Qa4 .or bt (.int .u16 (x:Int)) (.int .u16 (y:Int)) d fr hp K=K (upd fr d (.int .u16 ((x|||y:Nat):Int))) hp:=by
 have h1:(BitVec.ofInt 16 (x:Int)|||BitVec.ofInt 16 (y:Int)).toNat=x|||y:=by
  rw[BitVec.toNat_or,BitVec.ofInt_natCast,BitVec.ofInt_natCast,BitVec.toNat_ofNat,BitVec.toNat_ofNat,Nat.mod_eq_of_lt hx,Nat.mod_eq_of_lt hy]
 have h2:x|||y<65536:=Nat.or_lt_two_pow (n:=16) hx hy
 simp only[Qa4,IntKind.bits,h1,true_and]
 rw[Q45 (by omega) (by omega)]
 exact congrArg (fun z:Nat=>K (upd fr d (.int .u16 (z:Int))) hp) h1
theorem Qr7{bt:Bool}{k':IntKind}{x s d:Nat}(hs:s<=64)(h:x*2^s<18446744073709551616):Qa4 .shl bt (.int .u64 (x:Int)) (.int k' (s:Int)) d fr hp K=K (upd fr d (.int .u64 ((x*2^s:Nat):Int))) hp:=by
 have h0:(0:Int)<=s:=by omega
 have h1:min ((s:Int).toNat) IntKind.u64.bits=s:=by simp[IntKind.bits];omega
 simp only[Qa4,h0,true_and,h1]
 rw[show(x:Int)*2^s=((x*2^s:Nat):Int)by push_cast;rfl,Qe8 (by omega) (by omega)]
theorem Qr8{bt:Bool}{k':IntKind}{x s d:Nat}(hs:s<=32)(h:x*2^s<4294967296):Qa4 .shl bt (.int .u32 (x:Int)) (.int k' (s:Int)) d fr hp K=K (upd fr d (.int .u32 ((x*2^s:Nat):Int))) hp:=by
 have h0:(0:Int)<=s:=by omega
 have h1:min ((s:Int).toNat) IntKind.u32.bits=s:=by simp[IntKind.bits];omega
 simp only[Qa4,h0,true_and,h1]
 rw[show(x:Int)*2^s=((x*2^s:Nat):Int)by push_cast;rfl,Qma (by omega) (by omega)]
theorem Qka{bt:Bool}{k':IntKind}{x d:Nat}(h:x<281474976710656):Qa4 .shl bt (.int .u64 (x:Int)) (.int k' 16) d fr hp K=K (upd fr d (.int .u64 ((x*65536:Nat):Int))) hp:=
 Qr7 (s:=16) (by omega) (by omega)
theorem Qkb{bt:Bool}{k':IntKind}{x d:Nat}(h:x<65536):Qa4 .shl bt (.int .u32 (x:Int)) (.int k' 16) d fr hp K=K (upd fr d (.int .u32 ((x*65536:Nat):Int))) hp:=
 Qr8 (s:=16) (by omega) (by omega)
theorem Qoj{bt:Bool}{k':IntKind}{x s d:Nat}(hs:s<=32):Qa4 .shr bt (.int .u32 (x:Int)) (.int k' (s:Int)) d fr hp K=K (upd fr d (.int .u32 ((x/2^s:Nat):Int))) hp:=by
 rw[Qu3 (by omega)]
 have h1:min ((s:Int).toNat) IntKind.u32.bits=s:=by simp[IntKind.bits];omega
 rw[h1,Int.fdiv_eq_ediv_of_nonneg _ (Int.pow_nonneg (by omega))]
 rw[show(x:Int)/2^s=((x/2^s:Nat):Int)by push_cast;rfl]
theorem Qme{bt:Bool}{x y d:Nat}(hx:x<281474976710656)(hy:y<65536):Qa4 .or bt (.int .u64 ((x*65536:Nat):Int)) (.int .u64 (y:Int)) d fr hp K=K (upd fr d (.int .u64 ((x*65536+y:Nat):Int))) hp:=by
 rw[Qva (by omega) (by omega),show x*65536|||y=x*65536+y from Qnr (i:=16) hy]
theorem Qvb{bt:Bool}{x y d:Nat}(hx:x<65536)(hy:y<65536):Qa4 .or bt (.int .u32 ((x*65536:Nat):Int)) (.int .u32 (y:Int)) d fr hp K=K (upd fr d (.int .u32 ((x*65536+y:Nat):Int))) hp:=by
 rw[Q18 (by omega) (by omega),show x*65536|||y=x*65536+y from Qnr (i:=16) hy]
theorem Qs0{bt:Bool}{x y d:Nat}(hx:x<65536)(hy:y<65536):Qa4 .or bt (.int .u32 (y:Int)) (.int .u32 ((x*65536:Nat):Int)) d fr hp K=K (upd fr d (.int .u32 ((x*65536+y:Nat):Int))) hp:=by
 rw[Q18 (by omega) (by omega),Nat.or_comm,show x*65536|||y=x*65536+y from Qnr (i:=16) hy]
theorem Qr9{bt:Bool}{k:IntKind}{x y d:Nat}(hy:0<y)(hw:k.wrap ((x/y:Nat):Int)=((x/y:Nat):Int)):Qa4 .quo bt (.int k (x:Int)) (.int k (y:Int)) d fr hp K=K (upd fr d (.int k ((x/y:Nat):Int))) hp:=by
 have:(y:Int)≠0:=by omega
 simp only[Qa4,ne_eq,this,not_false_eq_true,true_and]
 rw[Q9t (by omega),<-hw];rfl
theorem Qd5{bt:Bool}{k:IntKind}{x y d:Nat}(hy:0<y):Qa4 .rem bt (.int k (x:Int)) (.int k (y:Int)) d fr hp K=K (upd fr d (.int k ((x%y:Nat):Int))) hp:=by
 have:(y:Int)≠0:=by omega
 simp only[Qa4,ne_eq,this,not_false_eq_true,true_and]
 rw[Q9u (by omega)];rfl
theorem Q2a{n:Nat}(h:n<18446744073709551616):IntKind.u64.wrap (n:Int)=n:=Qe8 (by omega) (by omega)
theorem Q2b{n:Nat}(h:n<4294967296):IntKind.u32.wrap (n:Int)=n:=Qma (by omega) (by omega)
theorem Q2c{n:Nat}(h:n<9223372036854775808):IntKind.i64.wrap (n:Int)=n:=Qgt (by omega) (by omega)
theorem Qi5{bt:Bool}{x y d:Nat}(hy:0<y)(hx:x<18446744073709551616):Qa4 .quo bt (.int .u64 (x:Int)) (.int .u64 (y:Int)) d fr hp K=K (upd fr d (.int .u64 ((x/y:Nat):Int))) hp:=
 Qr9 hy (Q2a (Nat.lt_of_le_of_lt (Nat.div_le_self x y) hx))
theorem Qx3{bt:Bool}{x y d:Nat}(hy:0<y)(hx:x<4294967296):Qa4 .quo bt (.int .u32 (x:Int)) (.int .u32 (y:Int)) d fr hp K=K (upd fr d (.int .u32 ((x/y:Nat):Int))) hp:=
 Qr9 hy (Q2b (Nat.lt_of_le_of_lt (Nat.div_le_self x y) hx))
theorem Qx4{bt:Bool}{x y d:Nat}(hy:0<y)(hx:x<9223372036854775808):Qa4 .quo bt (.int .i64 (x:Int)) (.int .i64 (y:Int)) d fr hp K=K (upd fr d (.int .i64 ((x/y:Nat):Int))) hp:=
 Qr9 hy (Q2c (Nat.lt_of_le_of_lt (Nat.div_le_self x y) hx))
theorem Q94{e d β o n H:Nat}{k:IntKind}(h:H<=n)(he:(hp β).map (·.e)=some e):slK e (.mso β o n) none (some (.int k (H:Int))) none d fr hp K=K (upd fr d (.mso β o H)) hp:=by
 have h1:(H:Int)<=(n:Int):=by omega
 simp[slK,Qbz,he,h1]
theorem Q95{e d β o n L H:Nat}{k k':IntKind}(h1:L<=H)(h:H<=n)(h0:L<n)(he:(hp β).map (·.e)=some e):slK e (.mso β o n) (some (.int k (L:Int))) (some (.int k' (H:Int))) none d fr hp K=K (upd fr d (.mso β (o+L) (H-L))) hp:=by
 have q1:(H:Int)<=(n:Int):=by omega
 have q2:(L:Int)<=(H:Int):=by omega
 have q3:(L:Int)<(n:Int):=by omega
 simp[slK,Qbz,he,q1,q2,q3]
theorem Qkc{bt:Bool}{x d:Nat}(hx:x<9223372036854775808):Qa4 .quo bt (.int .i64 (x:Int)) (.int .i64 16) d fr hp K=K (upd fr d (.int .i64 ((x/16:Nat):Int))) hp:=
 Qx4 (y:=16) (by omega) hx
theorem Qkd{bt:Bool}{x d:Nat}:Qa4 .rem bt (.int .i64 (x:Int)) (.int .i64 16) d fr hp K=K (upd fr d (.int .i64 ((x%16:Nat):Int))) hp:=
 Qd5 (y:=16) (by omega)
def Qhx(s:Nat):List Nat->Nat->List Nat
 | [],c=>[c]
 |x::xs,c=>((x*2^s)%65536+c)::Qhx s xs (x*2^s/65536)
theorem Qvc(s:Nat):∀(l:List Nat)(c:Nat),val (Qhx s l c)=val l*2^s+c
 | [],c=>by simp[Qhx,val]
 |x::xs,c=>by
  rw[Qhx,val,Qvc s xs,val,Nat.add_mul,Nat.mul_assoc]
  generalize x*2^s=y
  generalize val xs*2^s=z
  omega
theorem Qns{s:Nat}(h:s<=16):(65536:Nat)=2^s*2^(16-s):=by rw[<-Nat.pow_add,show s+(16-s)=16 by omega]
theorem Qvd{s x c:Nat}(h:s<=16)(hc:c<2^s):(x*2^s)%65536+c<65536/\c|||(x*2^s)%65536=(x*2^s)%65536+c:=by
 have e:(x*2^s)%65536=(x%2^(16-s))*2^s:=by
  rw[Qns h,Nat.mul_comm x,Nat.mul_mod_mul_left,Nat.mul_comm]
 have h1:x%2^(16-s)<2^(16-s):=Nat.mod_lt _ (Nat.pow_pos (by omega))
 have h2:(x%2^(16-s)+1)*2^s<=2^(16-s)*2^s:=Nat.mul_le_mul_right _ h1
 rw[Nat.add_mul,Nat.mul_comm (2^(16-s)),<-Qns h]at h2
 rw[e]
 refine⟨by omega,?_⟩
 rw[Nat.or_comm,Qnr hc]
theorem Qs1{s x:Nat}(h:s<=16)(hx:x<65536):x*2^s/65536<2^s:=by
 rw[Nat.div_lt_iff_lt_mul (by omega),Nat.mul_comm]
 exact Nat.mul_lt_mul_of_pos_left hx (Nat.pow_pos (by omega))
theorem Qqz{s:Nat}(h:s<=15):∀(l:List Nat)(c:Nat),Qj l->c<2^s->Qj (Qhx s l c)
 | [],c,_,hc=>by
  have:2^s<=2^15:=Nat.pow_le_pow_right (by omega) h
  simp[Qhx,Qj];omega
 |x::xs,c,hl,hc=>by
  rw[Qax]at hl
  rw[Qhx,Qax]
  exact⟨(Qvd (by omega) hc).1,Qqz h xs _ hl.2 (Qs1 (by omega) hl.1)⟩
theorem Qpa(s:Nat):∀(l:List Nat)(c:Nat),(Qhx s l c).length=l.length+1
 | [],_=>rfl
 |x::xs,c=>by simp[Qhx,Qpa s xs]
theorem Qaem{s x:Nat}(h:s<=15)(hx:x<65536):x*2^s<2147483648:=by
 have:2^s<=2^15:=Nat.pow_le_pow_right (by omega) h
 have:=Nat.mul_le_mul (show x<=65535 by omega) this
 omega
theorem Qve(l:List Nat):∀n,n<=l.length->cut l n=l.take (cut l n).length
 |0,_=>by simp[cut]
 |n+1,h=>by
  unfold cut
  split
  ·exact Qve l n (by omega)
  ·rw[List.length_take,Nat.min_eq_left h]
theorem Q5j{l:List Nat}(h:Qj l):l.take (nl (val l))=dig (val l):=by
 have:=Qve l l.length (Nat.le_refl _)
 rw[Qli h]at this
 exact this.symm
end Go.FW
namespace Go.FW
open Go
theorem Qll.toV{P:Program}{f:FuncId}{args:List PV}{ty:TypeId}{ys:List PV}(h:Qll P f args ty (· =ys)):Qd P f args (· = .sl 1 ys):=by
 refine⟨h.1,fun w X vals hX h2 h3=>(h.2 w X vals hX h2 h3).mono ?_⟩
 rintro e w' ⟨v,b,cap,ys',rfl,rfl,hb,hx,hI,hcap,hm,rfl⟩
 refine⟨_,_,rfl,hx,?_,rfl⟩
 obtain⟨hint,cur,cp,i1,i2,i3,i4,i5⟩:=hI
 obtain⟨cur',ty',d1,d2⟩:=hcap
 rw[i1]at d1;cases d1
 have hbl:b<w'.heap.size:=(Array.getElem?_eq_some_iff.1 i1).1
 have e:cp=cap:=by omega
 subst e
 refine Q2.sl (w:=w') (X:=X) 1 ys' b 0 cp (fun i j=>cur.getD (i+j) undef) (fun hxb=>by have:=hX b hxb;omega) hbl i3 i4 (Qmd hint |> fun h i x hx=>(h i x hx).1) (fun i hi j hj=> ?_) (fun i x hx j y hy=> ?_)
 ·have:j=0:=by omega
  subst this
  simp only[Nat.zero_add,Nat.mul_one,Nat.add_zero]
  exact Qa7 i1 (by omega)
 ·obtain⟨k,n,rfl⟩:=hint x (List.mem_of_getElem? hx)
  cases j with
  |zero=>
   simp[PV.cells]at hy;subst hy
   show Q2 w' X (.int k n) (cur.getD (i+0) undef)
   rw[Nat.add_zero,i5 i k n hx]
   exact Q2.int k n
  |succ j=>simp[PV.cells]at hy
def Qhb(s:Nat):List Nat->List Nat
 | []=>[]
 |x::xs=>((xs.headD 0*65536+x)/2^s)%65536::Qhb s xs
theorem Qkq(s:Nat):∀l,(Qhb s l).length=l.length
 | []=>rfl
 |x::xs=>by simp[Qhb,Qkq s xs]
theorem Qq0(s:Nat):∀l,Qj (Qhb s l)
 | []=>Qcy
 |x::xs=>by rw[Qhb,Qax];exact⟨by omega,Qq0 s xs⟩
theorem Q2d{s i:Nat}{l:List Nat}(h:i<l.length):Qhb s (l.drop i)=((l.getD (i+1) 0*65536+l[i])/2^s)%65536::Qhb s (l.drop (i+1)):=by
 rw[List.drop_eq_getElem_cons h,Qhb]
 simp[List.headD_eq_head?_getD,List.head?_drop,List.getD_eq_getElem?_getD]
theorem Q5k{x V s:Nat}(hs:s<=16)(hx:x<65536):(x+65536*V)/2^s=((V%65536*65536+x)/2^s)%65536+65536*(V/2^s):=by
 have hp:0<2^s:=Nat.pow_pos (by omega)
 have e0:=Nat.div_add_mod V (2^s)
 have hr:=Nat.mod_lt V hp
 generalize hq:V/2^s=q at *
 generalize hrr:V%2^s=r at *
 have hy:V%65536%2^s=r:=by
  rw[Qns hs,Nat.mod_mul_right_mod];exact hrr
 have e1:=Nat.div_add_mod (V%65536) (2^s)
 rw[hy]at e1
 generalize V%65536/2^s=t at *
 have hlt:(65536*r+x)/2^s<65536:=by
  rw[Nat.div_lt_iff_lt_mul hp]
  have:65536*(r+1)<=65536*2^s:=Nat.mul_le_mul_left _ hr
  omega
 have k1:x+65536*V=(65536*r+x)+2^s*(65536*q):=by
  rw[<-e0,Nat.mul_add,Nat.mul_left_comm];omega
 have k2:V%65536*65536+x=(65536*r+x)+2^s*(65536*t):=by
  rw[<-e1,Nat.add_mul,Nat.mul_assoc,Nat.mul_comm t 65536];omega
 rw[k1,k2,Nat.add_mul_div_left _ _ hp,Nat.add_mul_div_left _ _ hp,Nat.add_mul_mod_self_left,Nat.mod_eq_of_lt hlt]
theorem Qvf{s:Nat}(hs:s<=16):∀l,Qj l->val (Qhb s l)=val l/2^s
 | [],_=>by simp[Qhb,val]
 | x::xs,h=>by
  rw[Qax]at h
  rw[Qhb,val,Qvf hs xs h.2,val,Q5k hs h.1]
  have:xs.headD 0=val xs%65536:=by
   cases xs with
   |nil=>simp[val]
   |cons y ys=>have:=h.2 y (by simp);simp[val];omega
  rw[this]
variable {C : Ctx} {ρ : Nat -> Option Nat} {fr fr' : Fr} {hp : HP} {w : World} {K K' R R' : Qf}
def Fle(fr fr':Fr):Prop:=∀s,fr' s=fr s∨fr' s= .undef
theorem Fle.refl(fr:Fr):Fle fr fr:=fun _=> .inl rfl
theorem Fle.trans{a b c:Fr}(h:Fle a b)(k:Fle b c):Fle a c:=fun s=>by
 rcases k s with e|e
 ·rw[e];exact h s
 ·exact .inr e
theorem Fle.upd(h:Fle fr fr')(d:Nat){v v':PV}(hv:v'=v∨v'= .undef):Fle (upd fr d v) (upd fr' d v'):=fun s=>by
 unfold FW.upd;split
 ·exact hv
 ·exact h s
theorem Fle.upd'(h:Fle fr fr')(d:Nat)(v:PV):Fle (FW.upd fr d v) (FW.upd fr' d v):=h.upd d (.inl rfl)
theorem Fle.kill(h:Fle fr fr')(β:Nat):Fle (Qap β fr) (Qap β fr'):=fun s=>by
 unfold Qap
 rcases h s with e|e
 ·exact .inl (by rw[e])
 ·right;rw[e];simp[Qan,PV.refs]
theorem Fle.ev(h:Fle fr fr')(x:Opd):ev fr' x=ev fr x∨ev fr' x= .undef:=by
 cases x with
 |t n=>exact h n
 |c p=>exact .inl rfl
theorem Fle.mem(h:Fle fr fr'){q:PV->Prop}(hq:¬q .undef){l:List Opd}(hl:∀p∈l.map (FW.ev fr'),q p):l.map (FW.ev fr')=l.map (FW.ev fr):=by
 refine List.map_congr_left fun x hx=> ?_
 rcases h.ev x with e|e
 ·exact e
 ·exact absurd (e▸hl _ (List.mem_map_of_mem hx)) hq
theorem Fle.nst(h:Fle fr fr'){γ γ' e ty:Nat}{xs:List PV}(e1:fr' γ= .nst γ' e ty xs):fr γ= .nst γ' e ty xs:=by
 rcases h γ with e2|e2
 ·rw[<-e2];exact e1
 ·rw[e1]at e2;cases e2
theorem Fle.drop(h:Fle fr fr')(γ:Nat):Fle (Qcr γ fr) (Qcr γ fr'):=fun s=>by
 unfold Qcr
 rcases h s with e|e
 ·exact .inl (by rw[e])
 ·right;rw[e];rfl
theorem Fle.take(h:Fle fr fr')(β:Nat):Fle (Qb3 β fr) (Qb3 β fr'):=fun s=>by
 unfold Qb3
 rcases h s with e|e
 ·exact .inl (by rw[e])
 ·right;rw[e];simp[Qav,Qan,PV.refs]
theorem Fle.wk(h:Fle fr fr'):Wk fr hp fr' hp:=by
 rintro C tmps w ⟨ρ,hs⟩
 refine⟨ρ,hs.sz,hs.ext,hs.keep,hs.own,hs.inj,fun s=> ?_⟩
 rcases h s with h|h<;>rw[h]
 ·exact hs.slots s
 ·trivial
theorem Fle.sim{tmps:Array Value}(h:Fle fr fr')(hs:Q4 C ρ fr hp tmps w):Q4 C ρ fr' hp tmps w:=by
 refine⟨hs.sz,hs.ext,hs.keep,hs.own,hs.inj,fun s=> ?_⟩
 rcases h s with h|h<;>rw[h]
 ·exact hs.slots s
 ·trivial
theorem Qzi(h:Fle fr fr')(x:Option Opd):x.map (ev fr')=x.map (ev fr)∨x.map (ev fr')=some .undef:=by
 cases x with
 |none=>exact .inl rfl
 |some x=>rcases h.ev x with e|e<;>simp[e]
theorem Qtx(d:Int):Qbz d (some .undef)=none:=rfl
theorem Qsa (h:Fle fr fr') (hK:∀f f' hp,Fle f f'->K' f' hp->K f hp) (o:SOp):opV C o fr' hp K'->opV C o fr hp K:=by
 have hu:∀(d:Nat)(v:PV)(hp:HP),K' (upd fr' d v) hp->K (upd fr d v) hp:=fun d v hp H=>hK _ _ _ (h.upd' d v) H
 have hk:∀(β d:Nat)(v:PV)(hp:HP),K' (upd (Qap β fr') d v) hp->K (upd (Qap β fr) d v) hp:=fun β d v hp H=>hK _ _ _ ((h.kill β).upd' d v) H
 have hz:∀hp,K' fr' hp->K fr hp:=fun hp H=>hK _ _ _ h H
 have mono:∀ {o:SOp},opV C o fr hp K'->opV C o fr hp K:=fun H=>Qpx (fun f hp H=>hK _ _ _ (Fle.refl f) H) _ H
 cases o with
 |mv d x=>exact fun H=>hK _ _ _ (h.upd d (h.ev x)) H
 | pick d c a b=>
  simp only[opV,Qir]
  rcases h.ev c with e|e
  ·rw[e]
   split
   ·exact fun H=>⟨fun t=>hK _ _ _ (h.upd d (h.ev a)) (H.1 t),fun t=>hK _ _ _ (h.upd d (h.ev b)) (H.2 t)⟩
   ·exact id
  ·rw[e];exact False.elim
 | call d pr f args=>
  simp only[opV,Qcj]
  rcases h.ev f with e|e
  ·rw[e]
   split
   ·rintro⟨h1,h2⟩
    refine⟨h1,fun ρ tmps w fv cv av a1 a2 a3 a4 a5 a6 a7 a8=> ?_⟩
    refine(h2 ρ tmps w fv cv av a1 (h.sim a2) a3 a4 (by simpa using a5) a6 a7 (fun i x hx=> ?_)).mono ?_
    ·simp only[List.getElem?_map,Option.map_eq_some_iff]at hx
     obtain⟨y,hy,rfl⟩:=hx
     rcases h.ev y with e|e
     ·rw[e];exact a8 i _ (by simp[hy])
     ·rw[e];trivial
    ·rintro e w' ⟨v,f1,hp',e1,e2,e3,e4⟩
     exact⟨v,f1,hp',e1,e2,e3,hK _ _ _ (Fle.refl _) e4⟩
   ·exact id
  ·rw[e];exact False.elim
 | bs d e ty ps=>
  simp only[opV,bsK]
  by_cases hb:Qfo (ps.map (ev fr'))=true
  ·rw[if_pos hb]
   rintro⟨h1,h2⟩
   have e:ps.map (ev fr')=ps.map (ev fr):=by
    match ps,hb with
    | [],hb=>simp[Qfo]at hb
    | [p],hb=>
     rcases h.ev p with e|e
     ·simp[e]
     ·rw[List.map_cons,List.map_nil,e]at hb;simp[Qfo,Qcl]at hb
    |p::q::ps,hb=>simp[Qfo]at hb
   rw[e]at h2 hb
   rw[if_pos hb]
   exact⟨h1,hK _ _ _ (((h.take _).upd' _ _).upd' _ _) h2⟩
  ·rw[if_neg hb]
   rintro⟨h1,h2,h3⟩
   have e:=h.mem (q:=fun p=>(Q8 hp p).isData=true) (by simp[Q8,Qaq,PV.isData]) (l:=ps) (fun p hp=>(h2 p hp).1)
   rw[e]at h2 h3 hb
   rw[if_neg hb]
   exact⟨h1,h2,hk _ _ _ _ h3⟩
 | bld d z ps=>
  have key:((∀x∈ps,ev fr' x.2.2≠ .undef)->(ps.map fun p=>(p.1,p.2.1,ev fr' p.2.2))=ps.map fun p=>(p.1,p.2.1,ev fr p.2.2)):=fun hu=>by
   refine List.map_congr_left fun x hx=> ?_
   rcases h.ev x.2.2 with e|e
   ·rw[e]
   ·exact absurd e (hu x hx)
  intro H
  simp only[opV,Qfx]at H
  split at H
  ·rename_i hn
   obtain⟨h2,h3⟩:=H
   have e:=key fun x hx e=>by
    obtain⟨cs,h4,_⟩:=h2 _ (List.mem_map_of_mem hx)
    rw[e]at h4;simp[stN]at h4
   rw[e]at h2 h3 hn
   simp only[opV,Qfx]
   rw[if_pos hn]
   exact⟨h2,hK _ _ _ (h.upd' _ _) h3⟩
  ·rename_i hn
   obtain⟨h2,h3⟩:=H
   have e:=key fun x hx e=>by
    have:=(h2 _ (List.mem_map_of_mem hx)).1
    rw[e]at this;simp[Q8,Qaq,PV.isData]at this
   rw[e]at h2 h3 hn
   simp only[opV,Qfx]
   rw[if_neg hn]
   exact⟨h2,hK _ _ _ (h.upd' _ _) h3⟩
 |fn d f first cap=>
  simp only[opV]
  rintro⟨h2,h3⟩
  have h2':=h2
  rw[List.all_append,Bool.and_eq_true,List.all_eq_true,List.all_eq_true]at h2'
  have e1:=h.mem (q:=fun p=>p.isCap=true) (by simp[PV.isCap]) h2'.1
  have e2:=h.mem (q:=fun p=>p.isCap=true) (by simp[PV.isCap]) h2'.2
  rw[e1,e2]at h2 h3
  exact⟨h2,hK _ _ _ (h.upd' _ _) h3⟩
 | nilc d x=>
  simp only[opV,Qqa]
  rcases h.ev x with e|e
  ·rw[e]
   intro H;revert H
   repeat' split
   all_goals first|exact id|exact hz _|exact hu _ _ _|grind
  ·rw[e];intro H;revert H;repeat' split
   all_goals first|exact id|exact False.elim|grind
 | bin d op bt x y=>
  simp only[opV]
  rcases h.ev x with e|e<;>rcases h.ev y with e'|e'<;>rw[e,e']
  ·unfold Qa4
   intro H;revert H
   split
   ·split<;>first|exact fun H=>⟨H.1,hu _ _ _ H.2⟩|exact fun H=>⟨H.1,H.2.1,hu _ _ _ H.2.2⟩|exact id
   ·split<;>first|exact fun H=>⟨H.1,hu _ _ _ H.2⟩|exact id
   ·exact id
  all_goals
   unfold Qa4
   intro H;revert H
   repeat' split
   all_goals first|exact False.elim|(intros;simp_all;done)|(rename_i h1 _;cases h1;done)|(rename_i h1;cases h1;done)
 | sl d e x lo hi mx=>
  simp only[opV,slK]
  rcases h.ev x with e0|e0<;>rcases Qzi h lo with e1|e1<;>rcases Qzi h hi with e2|e2<;>rcases Qzi h mx with e3|e3<;>rw[e0,e1,e2,e3]
  all_goals
   intro H;revert H
   try simp only[Qtx]
   repeat' split
   all_goals first|exact id|exact False.elim|(intros;simp_all;done)|grind
 | ld d n ag x=>
  simp only[opV,ldK]
  rcases h.ev x with e|e
  ·rw[e]
   intro H;revert H
   split
   ·split
    ·exact fun⟨a,b,c,k⟩=>⟨a,b,c,hu _ _ _ k⟩
    ·exact id
   ·exact fun⟨a,b,k⟩=>⟨a,b,hu _ _ _ k⟩
   ·exact fun⟨a,b,k⟩=>⟨a,b,hu _ _ _ k⟩
   ·intro H
    split at H
    ·rename_i hγ
     rw[h.nst hγ]
     obtain⟨a,b,c,d,k⟩:=H
     exact⟨a,b,c,d,hu _ _ _ k⟩
    ·exact H.elim
   ·exact id
  ·rw[e];exact fun H=>H.elim
 | st n x y=>
  simp only[opV,stK]
  rcases h.ev x with e|e<;>rcases h.ev y with e'|e'<;>rw[e,e']
  ·intro H;revert H
   split
   ·split
    ·exact fun⟨a,b,c,d,f,k⟩=>⟨a,b,c,d,f,hz _ k⟩
    ·exact id
   ·intro H
    split at H
    ·rename_i hγ
     rw[h.nst hγ]
     obtain⟨a,b,c,d,H⟩:=H
     refine⟨a,b,c,d,?_⟩
     revert H
     split
     ·exact fun⟨f,k⟩=>⟨f,hK _ _ _ ((h.drop _).upd' _ _) k⟩
     ·exact id
    ·exact H.elim
   ·exact id
  ·intro H
   exfalso
   revert H
   split
   ·split
    ·rintro⟨_,b,_⟩;simp[Q8,Qaq,PV.isData]at b
    ·exact id
   ·split
    ·rintro⟨_,_,_,_,H⟩;exact H
    ·exact id
   ·exact id
  ·exact fun H=>H.elim
  ·exact fun H=>H.elim
 | app d e by_ ty x y=>
  simp only[opV,Qdr]
  rcases h.ev y with e'|e'
  ·rw [e']
   intro H;revert H
   split
   ·unfold Qnh
    split
    ·rename_i δ _
     rcases h δ with e2|e2
     ·rw [e2]
      split
      ·rintro⟨a1,a2,a3,H⟩
       refine⟨a1,a2,a3,?_⟩
       rcases h.ev x with e|e
       ·rw[e]at H
        revert H
        split
        ·exact fun H=>⟨H.1,hK _ _ _ (((h.take _).upd' _ _).upd' _ _) H.2⟩
        ·rename_i γ k _
         rcases h γ with e3|e3
         ·rw[e3]
          split
          ·exact fun H=>⟨H.1,H.2.1,hK _ _ _ (((h.take _).upd' _ _).upd' _ _) H.2.2⟩
          ·exact id
         ·rw[e3];exact fun H=>H.elim
        ·exact id
       ·rw[e]at H;exact H.elim
      ·exact id
     ·rw[e2];exact fun H=>H.elim
    ·exact id
   ·rintro⟨h0,h1,H⟩
    refine⟨h0,h1,?_⟩
    rcases h.ev x with e|e
    ·rw[e]at H
     revert H
     split
     ·rintro⟨a,b,c⟩;exact⟨a,b,hk _ _ _ _ c⟩
     ·split
      ·rintro(⟨a1,a2,a3,a4,a5,a6,a7,c⟩|⟨a1,a2,a3,c⟩)
       ·exact .inl ⟨a1,a2,a3,a4,a5,a6,a7,hk _ _ _ _ c⟩
       ·exact .inr ⟨a1,a2,a3,hK _ _ _ ((h.take _).upd' _ _) c⟩
      ·exact id
     ·exact id
    ·rw[e]at H;exact H.elim
  ·rw[e'];exact fun H=>H.elim
 | un d op x|conv d k x|len d x|fld d o x|fldv d o n ag x|ext d x i|box d n ty x|alloc d n ty z=>
  all_goals
   simp only[opV,unK,Qlz,Qin,Qkn,Qhz,ldK,Qjh,Qd7]
   try (rcases h.ev x with e|e<;>rw[e])
  all_goals
   intro H;revert H
   repeat' split
   all_goals first|exact id|exact False.elim|exact hu _ _ _|grind [Q8,Qaq,PV.isData]
 | eqs d ng x y|mx d x y|mn d x y|idx d e x y|idxA d n e x y|ixv d n e ag x y|mk d e by_ ty z x y|cpy d e x y=>
  all_goals
   simp only[opV,Qkm,mxK,mnK,Qed,Qob,Qru,stK,mkK,Qdr,Qjg]
   rcases h.ev x with e|e<;>rcases h.ev y with e'|e'<;>rw[e,e']
  all_goals
   intro H;revert H
   repeat' split
   all_goals first|exact id|exact False.elim|exact hu _ _ _|grind [Q8,Qaq,PV.isData,Qc1]
 |bad d=>exact id
end Go.FW
namespace Go.FW
open Go
variable {C : Ctx} {ρ : Nat -> Option Nat} {fr fr' : Fr} {hp : HP} {w : World} {K K' R R' : Qf}
def KM(K' K:Qf):Prop:=∀f f' hp,Fle f f'->K' f' hp->K f hp
inductive Qhc:List It->List It->Prop
 |nil:Qhc [] []
 |c (s:SC) {a b:List It}:Qhc a b->Qhc (.c s::a) (.c s::b)
 |o (r:RT) {a b:List It}:Qhc a b->Qhc (.o r::a) (.o r::b)
 |eb (i:Nat) {a b:List It}:Qhc a b->Qhc (.eb i::a) (.eb i::b)
 |el {J' J:Qf} {a b:List It}:KM J' J->Qhc a b->Qhc (.el J'::a) (.el J::b)
theorem Qhc.exit{id:Nat}:∀ {a b:List It},Qhc a b->(∃a' b',FW.Qah id a=some a'/\FW.Qah id b=some b'/\Qhc a' b'/\Qaw a'<=Qaw a)∨(FW.Qah id a=none/\FW.Qah id b=none):=by
 intro a b h
 induction h with
 |nil=>exact .inr ⟨rfl,rfl⟩
 |c s h ih|o s h ih=>
  rcases ih with⟨a',b',h1,h2,h3,h4⟩|⟨h1,h2⟩
  ·exact .inl ⟨a',b',by simpa[FW.Qah]using h1,by simpa[FW.Qah]using h2,h3,by simp only[Qaw];omega⟩
  ·exact .inr ⟨by simpa[FW.Qah]using h1,by simpa[FW.Qah]using h2⟩
 |el _ h ih=>
  rcases ih with⟨a',b',h1,h2,h3,h4⟩|⟨h1,h2⟩
  ·exact .inl ⟨a',b',by simpa[FW.Qah]using h1,by simpa[FW.Qah]using h2,h3,by simp only[Qaw];omega⟩
  ·exact .inr ⟨by simpa[FW.Qah]using h1,by simpa[FW.Qah]using h2⟩
 | eb i h ih=>
  by_cases hi:i=id
  ·exact .inl ⟨_,_,by simp[FW.Qah,hi],by simp[FW.Qah,hi],h,by simp only[Qaw];omega⟩
  ·rcases ih with⟨a',b',h1,h2,h3,h4⟩|⟨h1,h2⟩
   ·exact .inl ⟨a',b',by simpa[FW.Qah,hi]using h1,by simpa[FW.Qah,hi]using h2,h3,by simp only[Qaw];omega⟩
   ·exact .inr ⟨by simpa[FW.Qah,hi]using h1,by simpa[FW.Qah,hi]using h2⟩
theorem Qke(h:Fle fr fr')(hK:KM K' K)(o:SOp):Qdx o fr' hp K'->Qdx o fr hp K:=by
 unfold Qdx;split
 ·exact hK _ _ _ (h.upd' _ _)
 ·exact hK _ _ _ h
theorem Q5l(h:Fle fr fr')(hK:KM K' K)(g:Option (Nat×Bool))(o:SOp):Qio C g o fr' hp K'->Qio C g o fr hp K:=by
 unfold Qio
 split
 ·exact Qsa h hK o
 ·rename_i s want
  rcases h s with e|e
  ·rw[e]
   split
   ·exact fun H=>⟨fun t=>Qsa (h.upd' _ _) hK o (H.1 t),fun t=>Qke (h.upd' _ _) hK o (H.2 t)⟩
   ·exact Qke h hK o
   ·exact id
  ·rw[e];exact False.elim
theorem Qfi(hR:KM R' R):∀(n:Nat)(sk' sk:List It)(fr' fr:Fr)(hp:HP),Qaw sk'<=n->Qhc sk' sk->Fle fr fr'->vc C R' sk' fr' hp->vc C R sk fr hp:=by
 intro n
 induction n with
 |zero=>
  intro sk' sk fr' fr hp hn hs hf h
  cases hs with
  |nil=>rw[Qif]at h ⊢;exact hR _ _ _ hf h
  |el hJ _=>rw[Ql6]at h ⊢;exact hJ _ _ _ hf h
  |c s _=>exfalso;have:=SC.sz_pos s;simp only[Qaw,It.sz]at hn;omega
  |o s _=>exfalso;have:=RT.sz_pos s;simp only[Qaw,It.sz]at hn;omega
  |eb _ _=>exfalso;simp only[Qaw,It.sz]at hn;omega
 | succ n ih=>
  intro sk' sk fr' fr hp hn hs hf h
  cases hs with
  |nil=>rw[Qif]at h ⊢;exact hR _ _ _ hf h
  |el hJ _=>rw[Ql6]at h ⊢;exact hJ _ _ _ hf h
  |eb i hs=>
   rw[Qt6]at h⊢
   exact ih _ _ _ _ _ (by simp only[Qaw,It.sz]at hn;omega) hs hf h
  | o r hs=>
   cases r with
   |nil=>rw[Qnm]at h ⊢;exact ih _ _ _ _ _ (by simp only[Qaw,It.sz,RT.sz]at hn;omega) hs hf h
   |o g o r=>
    rw[Q10]at h⊢
    exact Q5l (K':=fun fr hp=>vc C R' (.o r::_) fr hp) (K:=fun fr hp=>vc C R (.o r::_) fr hp) hf (fun f f' hp hf' H=>ih (.o r::_) (.o r::_) _ _ hp (by simp only[Qaw,It.sz,RT.sz]at hn ⊢;omega) (.o r hs) hf' H) g o h
   |wk r=>
    rw[Qqk]at h⊢
    obtain⟨fr0,hp0,hw,h⟩:=h
    exact⟨fr0,hp0,hf.wk.trans hw,ih (.o r::_) (.o r::_) _ _ _ (by simp only[Qaw,It.sz,RT.sz]at hn ⊢;omega) (.o r hs) (Fle.refl _) h⟩
   |br x y=>
    rw[Q11]at h⊢
    exact⟨ih (.o x::_) (.o x::_) _ _ _ (by simp only[Qaw,It.sz,RT.sz]at hn ⊢;omega) (.o x hs) hf h.1,ih (.o y::_) (.o y::_) _ _ _ (by simp only[Qaw,It.sz,RT.sz]at hn ⊢;omega) (.o y hs) hf h.2⟩
  | @c s a b hs=>
   cases s with
   |skip=>rw[Qoc]at h ⊢;exact ih _ _ _ _ _ (by simp only[Qaw,It.sz,SC.sz]at hn;omega) hs hf h
   |rg r=>rw[Qy8]at h ⊢;exact ih (.o r::_) (.o r::_) _ _ _ (by simp only[Qaw,It.sz,SC.sz]at hn ⊢;omega) (.o r hs) hf h
   | raw id ops=>
    rw[vc]at h⊢
    intro tmps w Q hsim hQ
    refine h tmps w Q ?_ fun fr2 hp2 tmps2 w2 hs2 hv=>hQ fr2 hp2 tmps2 w2 hs2 ?_
    ·obtain⟨ρ,hsim⟩:=hsim
     exact⟨ρ,hf.sim hsim⟩
    ·exact ih _ _ _ _ _ (by simp only[Qaw,It.sz,SC.sz]at hn;omega) hs (Fle.refl _) hv
   |seq x y=>rw[Qqm]at h ⊢;exact ih (.c x:: .c y::_) (.c x:: .c y::_) _ _ _ (by simp only[Qaw,It.sz,SC.sz]at hn ⊢;omega) (.c x (.c y hs)) hf h
   |block id x=>rw[Ql5]at h ⊢;exact ih (.c x:: .eb id::_) (.c x:: .eb id::_) _ _ _ (by simp only[Qaw,It.sz,SC.sz]at hn ⊢;omega) (.c x (.eb id hs)) hf h
   |ret=>rw[Qqn]at h ⊢;exact hR _ _ _ hf h
   | cond c x y=>
    rw[Qod]at h⊢
    rcases hf.ev c with e|e
    ·rw[e]at h
     unfold Qiu at h⊢
     split at h
     ·exact⟨fun e=>ih (.c x::_) (.c x::_) _ _ _ (by simp only[Qaw,It.sz,SC.sz]at hn ⊢;omega) (.c x hs) hf (h.1 e),fun e=>ih (.c y::_) (.c y::_) _ _ _ (by simp only[Qaw,It.sz,SC.sz]at hn ⊢;omega) (.c y hs) hf (h.2 e)⟩
     ·exact h
    ·rw[e]at h;exact h.elim
   | exit id=>
    rw[Qoe]at h⊢
    rcases hs.exit (id:=id)with⟨a',b',h1,h2,h3,h4⟩|⟨h1,h2⟩
    ·rw[h1]at h;rw[h2]
     simp only[Ql7]at h⊢
     exact ih _ _ _ _ _ (by simp only[Qaw,It.sz,SC.sz]at hn;omega) h3 hf h
    ·rw[h1]at h;exact h.elim
   |loop x=>
    rw[Qf7]at h⊢
    obtain⟨I,μ,⟨fr0,hp0,h1,h1'⟩,h2⟩:=h
    refine⟨I,μ,⟨fr0,hp0,hf.wk.trans h1,h1'⟩,fun fr hp hI=> ?_⟩
    refine ih (.c x:: .el _::_) (.c x:: .el _::_) _ _ _ (by simp only[Qaw,It.sz,SC.sz]at hn ⊢;omega) (.c x (.el ?_ hs)) (Fle.refl _) (h2 fr hp hI)
    rintro f f' hp' hf ⟨fr0,hp0,g1,g2,g3⟩
    exact⟨fr0,hp0,hf.wk.trans g1,g2,g3⟩
def inW:List (Nat×Nat)->Nat->Bool
 | [],_=>false
 |(a,b)::W,s=>(decide (a<=s)&&decide (s<=b))||inW W s
theorem Q96(s:Nat):inW [] s=false:=rfl
theorem Qmf(a b s:Nat)(W:List (Nat×Nat)):inW ((a,b)::W) s=((decide (a<=s)&&decide (s<=b))||inW W s):=rfl
def ovr(W:List (Nat×Nat))(J F:Fr):Fr:=fun s=>if inW W s then J s else F s
theorem Q2e(W:List (Nat×Nat))(J F:Fr)(s:Nat):ovr W J F s=if inW W s then J s else F s:=rfl
theorem Qx5{W:List (Nat×Nat)}{a:Nat}{v:PV}{J F:Fr}(h:inW W a=true):upd (ovr W J F) a v=ovr W (upd J a v) F:=by
 funext s;unfold upd ovr
 by_cases hs:s=a
 ·subst hs;rw[if_pos rfl,if_pos h];simp
 ·rw[if_neg hs];split
  ·simp[hs]
  ·rfl
theorem Q5m{W:List (Nat×Nat)}{a:Nat}{v:PV}{J F:Fr}:upd (ovr W J F) a v=if inW W a=true then ovr W (upd J a v) F else ovr ((a,a)::W) (upd J a v) F:=by
 split
 ·exact Qx5 ‹_›
 ·funext s;unfold upd ovr
  by_cases hs:s=a
  ·subst hs;simp[inW]
  ·have:(decide (a<=s)&&decide (s<=a))=false:=by
    rw[Bool.and_eq_false_iff];simp only[decide_eq_false_iff_not];omega
   simp only[Qmf,this,Bool.false_or,if_neg hs]
theorem Q2f{W:List (Nat×Nat)}{β:Nat}{J F:Fr}:Qap β (ovr W J F)=ovr W (Qap β J) (Qap β F):=by
 funext s;unfold Qap ovr;split<;>rfl
def Qad(B:List Nat)(F:Fr):Fr:=fun s=>if(F s).refs.any B.contains then .undef else F s
theorem Qbu(F:Fr):Qad [] F=F:=by funext s;simp[Qad]
theorem Qhd{β:Nat}{B:List Nat}{F:Fr}(h:B.contains β=true):Qap β (Qad B F)=Qad B F:=by
 funext s
 show Qan β (Qad B F s)=Qad B F s
 by_cases h1:(F s).refs.any B.contains=true
 ·have:Qad B F s= .undef:=if_pos h1
  rw[this];rfl
 ·have:Qad B F s=F s:=if_neg h1
  rw[this,Qan,if_neg]
  intro h2
  exact h1 (List.any_eq_true.2 ⟨β,by simpa using h2,h⟩)
theorem Qty{β:Nat}{B:List Nat}{F:Fr}:Qap β (Qad B F)=if B.contains β=true then Qad B F else Qad (β::B) F:=by
 split
 ·exact Qhd ‹_›
 ·funext s
  show Qan β (Qad B F s)=Qad (β::B) F s
  unfold Qad Qan
  by_cases h1:(F s).refs.any B.contains=true
  ·have h2:(F s).refs.any (β::B).contains=true:=by
    obtain⟨x,hx,hx2⟩:=List.any_eq_true.1 h1
    exact List.any_eq_true.2 ⟨x,hx,by rw[List.contains_cons,hx2,Bool.or_true]⟩
   simp only[if_pos h1,if_pos h2]
   rfl
  ·simp only[if_neg h1]
   by_cases h2:(F s).refs.contains β=true
   ·have h3:(F s).refs.any (β::B).contains=true:=List.any_eq_true.2 ⟨β,by simpa using h2,by simp⟩
    rw[if_pos h2,if_pos h3]
   ·rw[if_neg h2,if_neg]
    intro h3
    obtain⟨x,hx,hx2⟩:=List.any_eq_true.1 h3
    rw[List.contains_cons,Bool.or_eq_true]at hx2
    rcases hx2 with e|e
    ·have:x=β:=by simpa using e
     subst this;exact h2 (by simpa using hx)
    ·exact h1 (List.any_eq_true.2 ⟨x,hx,e⟩)
theorem Qnt(B:List Nat)(F:Fr)(s:Nat):Qad B F s=if(F s).refs.any B.contains then .undef else F s:=rfl
theorem Qpz(W:List (Nat×Nat))(B:List Nat):Fle fr (ovr W fr (Qad B fr)):=fun s=>by
 unfold ovr Qad
 split
 ·exact .inl rfl
 ·split
  ·exact .inr rfl
  ·exact .inl rfl
def Qok(W:List (Nat×Nat))(F:Fr)(I:Nat->Fr->HP->Prop)(n:Nat):Qf:=fun fr' hp'=>∃J m,Fle fr' (ovr W J F)/\m<n/\I m J hp'
theorem Qab{W:List (Nat×Nat)}{F J:Fr}{I:Nat->Fr->HP->Prop}{n:Nat}(m:Nat)(hl:m<n)(h:I m J hp):Qok W F I n (ovr W J F) hp:=⟨J,m,Fle.refl _,hl,h⟩
theorem Q5n{W:List (Nat×Nat)}{F:Fr}{I:Nat->Fr->HP->Prop}{n:Nat}:KM (Qok W F I n) (Qok W F I n):=by
 rintro f f' hp hf ⟨J,m,h1,h2,h3⟩
 exact⟨J,m,hf.trans h1,h2,h3⟩
def Qdk(R:Qf)(sk:List It):Prop:=KM R R/\Qhc sk sk
theorem Qai{sk:List It}{x:SC}(hok:Qdk R sk)(W:List (Nat×Nat))(B:List Nat)(I:Nat->Fr->HP->Prop)(m0:Nat)(h0:I m0 fr hp)
  (h:∀m J hp,I m J hp->vc C R (.c x:: .el (Qok W (Qad B fr) I m)::sk) (ovr W J (Qad B fr)) hp):vc C R (.c (.loop x)::sk) fr hp:=by
 refine Qij (fun m fr' hp'=>∃J,fr'=ovr W J (Qad B fr)/\I m J hp') m0 (Qpz W B).wk ⟨fr,rfl,h0⟩ ?_
 rintro m _ hp' ⟨J,rfl,hI⟩
 refine Qfi hok.1 _ _ _ _ _ _ (Nat.le_refl _) (.c x (.el ?_ hok.2)) (Fle.refl _) (h m J hp' hI)
 rintro f f' hp2 hf ⟨J2,m2,e2,hl,h2⟩
 exact Qpt hl (hf.trans e2).wk ⟨J2,rfl,h2⟩
def Qhe(W:List (Nat×Nat))(F:Fr)(M:Fr->HP->Prop):Qf:=fun fr' hp'=>∃J,Fle fr' (ovr W J F)/\M J hp'
theorem Qhy{W:List (Nat×Nat)}{F J:Fr}{M:Fr->HP->Prop}(h:M J hp):Qhe W F M (ovr W J F) hp:=⟨J,Fle.refl _,h⟩
theorem Qi6{W:List (Nat×Nat)}{F:Fr}{M:Fr->HP->Prop}:KM (Qhe W F M) (Qhe W F M):=by
 rintro f f' hp hf ⟨J,h1,h3⟩
 exact⟨J,hf.trans h1,h3⟩
theorem Qn{sk:List It}{W:List (Nat×Nat)}{F:Fr}{I:Nat->Fr->HP->Prop}{n:Nat}(h:Qdk R sk):Qdk R (.el (Qok W F I n)::sk):=⟨h.1,.el Q5n h.2⟩
theorem Qv{sk:List It}{W:List (Nat×Nat)}{F:Fr}{M:Fr->HP->Prop}(h:Qdk R sk):Qdk R (.el (Qhe W F M)::sk):=⟨h.1,.el Qi6 h.2⟩
theorem Qz{sk:List It}{i:Nat}(h:Qdk R sk):Qdk R (.eb i::sk):=⟨h.1,.eb i h.2⟩
theorem Q6{sk:List It}{s:SC}(h:Qdk R sk):Qdk R (.c s::sk):=⟨h.1,.c s h.2⟩
theorem Q7{sk:List It}{s:RT}(h:Qdk R sk):Qdk R (.o s::sk):=⟨h.1,.o s h.2⟩
theorem Qk{sk:List It}{I:Nat->Qf}{n:Nat}(h:Qdk R sk):Qdk R (.el (Qlg I n)::sk):=⟨h.1,.el (fun f f' hp hf ⟨a,b,h1,h2⟩=>⟨a,b,hf.wk.trans h1,h2⟩) h.2⟩
theorem Qx6{rs:List RV}{Rr:PV->Prop}:KM (Qdc rs Rr) (Qdc rs Rr):=by
 have one:∀(f f':Fr)(hp:HP)(r:RV),Fle f f'->okR f' hp r->okR f hp r/\rvP f' hp r=rvP f hp r:=by
  intro f f' hp r hf ho
  cases r with
  |t s=>
   simp only[okR,rvP]at ho⊢
   rcases hf s with e|e
   ·rw[e]at ho ⊢;exact⟨ho,rfl⟩
   ·rw[e]at ho;simp[Q8,Qaq,PV.isData]at ho
  |cell s n ag=>
   simp only[okR,rvP]at ho⊢
   rcases hf s with e|e
   ·rw[e]at ho ⊢;exact⟨ho,rfl⟩
   ·rw[e]at ho;exact ho.elim
 intro f f' hp hf h
 unfold Qdc at h⊢
 split at h
 ·rename_i r
  obtain⟨h1,h2⟩:=h
  obtain⟨g1,g2⟩:=one f f' hp r hf h1
  rw[g2]at h2
  exact⟨g1,h2⟩
 ·obtain⟨h1,h2⟩:=h
  have e:rs.map (rvP f' hp)=rs.map (rvP f hp):=List.map_congr_left fun r hr=>(one f f' hp r hf (h1 r hr)).2
  rw[e]at h2
  exact⟨fun r hr=>(one f f' hp r hf (h1 r hr)).1,h2⟩
theorem Q5o{rs:List RV}{ty:TypeId}{len:Nat}{Post:PV->List PV->Prop}:KM (Qiw rs ty len Post) (Qiw rs ty len Post):=by
 rintro f f' hp hf ⟨xs',h1,h2,h3,h4⟩
 refine⟨xs',h1,h2,h3,?_⟩
 rcases h4 with h4|⟨s,o,n,h4,h5,h6⟩
 ·exact .inl (Qx6 _ _ _ hf h4)
 ·refine .inr ⟨s,o,n,h4,?_,h6⟩
  rcases hf s with e|e
  ·rw[<-e];exact h5
  ·rw[h5]at e;cases e
theorem Q5p{rs:List RV}{ty:TypeId}{Post:List PV->Prop}:KM (Qoi rs ty Post) (Qoi rs ty Post):=by
 rintro f f' hp hf ⟨s,β,n,xs,h1,h2,h3⟩
 refine⟨s,β,n,xs,h1,?_,h3⟩
 rcases hf s with e|e
 ·rw[<-e];exact h2
 ·rw[h2]at e;cases e
theorem Qw{rs:List RV}{Rr:PV->Prop}:Qdk (Qdc rs Rr) []:=⟨Qx6,.nil⟩
theorem Qo{rs:List RV}{ty:TypeId}{len:Nat}{Post:PV->List PV->Prop}:Qdk (Qiw rs ty len Post) []:=⟨Q5o,.nil⟩
theorem Qp{rs:List RV}{ty:TypeId}{Post:List PV->Prop}:Qdk (Qoi rs ty Post) []:=⟨Q5p,.nil⟩
theorem Qd6{sk:List It}{x:SC}(i β e ty:Nat)(he:0<e)(hi:fr i= .nilS)(h:vc C R (.c (.loop x)::sk) (upd (Qap β fr) i (.ms β 0)) (Qg hp β ⟨e,ty,[],false⟩))(hB:isB β=false:=by decide):vc C R (.c (.loop x)::sk) fr hp:=by
 rw[Qf7]at h⊢
 obtain⟨I,μ,⟨fr0,hp0,h1,h1'⟩,h2⟩:=h
 exact⟨I,μ,⟨fr0,hp0,(Q1j i β e ty he hi hB).trans h1,h1'⟩,h2⟩
end Go.FW
namespace Go.FW
open Go
variable {C : Ctx} {fr : Fr} {hp : HP} {w : World} {K R : Qf}
theorem Qw3{P:Program}{f:FuncId}{k:IntKind}{x:Int}{r:PV}{v:Value}(hg:Qjo P f)(h:∀w,Calls P f #[.int k x] w fun e w'=>e= .returned v/\w'=w)(hr:∀w X,Qco w X r v):Qd P f [.int k x] (· =r):=by
 refine⟨hg,fun w X vals hX hs hrep=> ?_⟩
 have h0:∀u,Q2 w X (.int k x) u->u= .int k x:=fun u hu=>by cases hu;rfl
 have e:vals= #[.int k x]:=by
  have h1:vals.getD 0 undef= .int k x:=h0 _ (hrep 0 _ rfl)
  apply Array.ext
  ·simpa using hs
  ·intro i hi hi'
   have hi0:i=0:=by simp at hi';omega
   subst hi0
   simpa[Array.getD,hi]using h1
 rw[e]
 refine(h w).mono ?_
 rintro e w' ⟨rfl,rfl⟩
 exact⟨v,r,rfl,Ext.refl _ _,hr _ _,rfl⟩
end Go.FW
namespace Go.FW
open Go
variable {C : Ctx} {fr : Fr} {hp : HP} {w : World} {K R : Qf}
theorem Q2g(a b:Nat)(hab:a≠b)(h:HP)(v w:HB):Qg (Qg h a v) b w=Qg (Qg h b w) a v:=by
 funext c;unfold Qg;by_cases h1:c=a
 ·subst h1;simp[hab]
 ·simp[h1]
theorem Qzj{V W P v1 v2 v0 hi u2 w0:Nat}(hV:V=(v1*65536+v2)*P+v0)(hW:W=(hi*65536+u2)*P+w0)(hw0:w0<P)(hu2:u2<65536)(h1:0<v1):W<(hi/v1+1)*V:=by
 have e1:hi+1<=(hi/v1+1)*v1:=by
  have:=Nat.div_add_mod hi v1
  have:=Nat.mod_lt hi h1
  rw[Nat.add_mul,Nat.mul_comm];omega
 have e2:W<(hi+1)*65536*P:=by
  have:(hi*65536+u2+1)*P<=(hi+1)*65536*P:=Nat.mul_le_mul_right _ (by omega)
  rw[Nat.add_mul _ 1]at this;omega
 refine Nat.lt_of_lt_of_le e2 ?_
 calc (hi+1)*65536*P<=((hi/v1+1)*v1)*65536*P:=Nat.mul_le_mul_right _ (Nat.mul_le_mul_right _ e1)
  _=(hi/v1+1)*(v1*65536*P):=by rw[Nat.mul_assoc,Nat.mul_assoc,Nat.mul_assoc]
  _<=(hi/v1+1)*V:=Nat.mul_le_mul_left _ (by rw[hV,Nat.add_mul];omega)
theorem Q5q{V W P v1 v2 v0 hi u2 w0 d r:Nat}(hV:V=(v1*65536+v2)*P+v0)(hW:W=(hi*65536+u2)*P+w0)(hw0:w0<P)(hd:d*v1+r=hi)(ht:r*65536+u2<d*v2):W<d*V:=by
 have h1:hi*65536+u2+1<=d*(v1*65536+v2):=by
  rw[Nat.mul_add,<-Nat.mul_assoc,<-hd,Nat.add_mul];omega
 have h2:W<(hi*65536+u2+1)*P:=by rw[hW,Nat.add_mul _ 1];omega
 refine Nat.lt_of_lt_of_le h2 (Nat.le_trans (Nat.mul_le_mul_right _ h1) ?_)
 rw[Nat.mul_assoc]
 exact Nat.mul_le_mul_left _ (by rw[hV];exact Nat.le_add_right _ _)
theorem Q5r{V W P v1 v2 v0 hi u2 w0 e r:Nat}(hV:V=(v1*65536+v2)*P+v0)(hW:W=(hi*65536+u2)*P+w0)(hv0:v0<P)(hv1:1<=v1)(he:e+1<65536)(hd:(e+1)*v1+r=hi)(ht:¬r*65536+u2<(e+1)*v2):e*V<=W:=by
 have h1:(e+1)*(v1*65536+v2)<=hi*65536+u2:=by
  rw[Nat.mul_add,<-Nat.mul_assoc,<-hd,Nat.add_mul ((e+1)*v1)];omega
 have h2:e*v0<=(v1*65536+v2)*P:=Nat.mul_le_mul (by omega) (by omega)
 calc e*V=e*(v1*65536+v2)*P+e*v0:=by rw[hV,Nat.mul_add,Nat.mul_assoc]
  _<=e*(v1*65536+v2)*P+(v1*65536+v2)*P:=Nat.add_le_add_left h2 _
  _=(e+1)*(v1*65536+v2)*P:=by rw[Nat.add_mul e,Nat.one_mul,Nat.add_mul (e*_)]
  _<=(hi*65536+u2)*P:=Nat.mul_le_mul_right _ h1
  _<=W:=by rw[hW];exact Nat.le_add_right _ _
theorem Q5s{V W P v1 v2 v0 hi u2 w0:Nat}(hV:V=(v1*65536+v2)*P+v0)(hW:W=(hi*65536+u2)*P+w0)(hv0:v0<P)(h:W<65536*V)(hP:0<P):hi<=v1*65536+v2:=by
 have h1:hi*(65536*P)<(v1*65536+v2+1)*(65536*P):=by
  have e1:hi*(65536*P)<=W:=by rw[hW,Nat.add_mul,Nat.mul_assoc];omega
  have e2:V<=(v1*65536+v2+1)*P:=by rw[hV,Nat.add_mul _ 1];omega
  have e3:65536*V<=65536*((v1*65536+v2+1)*P):=Nat.mul_le_mul_left _ e2
  rw[Nat.mul_left_comm]at e3
  omega
 have:=Nat.lt_of_mul_lt_mul_right h1
 omega
theorem Qlm:∀(a:List Nat)(q b:Nat),(Qc4 a [] q 0 b).2.1=0
 | [],_,_=>rfl
 |x::xs,q,b=>by simp only[Qc4,List.headD_nil,Nat.mul_zero,List.tail_nil];exact Qlm xs q _
theorem Qq1:∀(a v:List Nat)(q c b:Nat),v.length<a.length->c<65536->q<65536->Qj v->(Qc4 a v q c b).2.1=0
 | [],_,_,_,_,h,_,_,_=>by simp at h
 |x::xs,[],q,c,b,h,hc,hq,hv=>by
  simp only[Qc4,List.headD_nil,Nat.mul_zero,List.tail_nil,Nat.add_zero]
  rw[Nat.div_eq_of_lt hc];exact Qlm xs q _
 |x::xs,y::ys,q,c,b,h,hc,hq,hv=>by
  rw[Qax]at hv
  simp only[Qc4,List.headD_cons,List.tail_cons]
  refine Qq1 xs ys q _ _ (by simpa using h) ?_ hq hv.2
  have:=Qe6 hq hv.1
  omega
theorem Qh4{l:List Nat}{k:Nat}(h:val l<65536^k):val (l.drop k)=0:=by
 rcases Nat.lt_or_ge k l.length with hk|hk
 ·have:=Qds l k (by omega)
  have:65536^k*val (l.drop k)<65536^k*1:=by omega
  have:=Nat.lt_of_mul_lt_mul_left this
  omega
 ·rw[List.drop_of_length_le hk];rfl
theorem Qx7{l:List Nat}{n:Nat}(h:l.length=n+2):val l=(l.getD (n+1) 0*65536+l.getD n 0)*65536^n+val (l.take n):=by
 have e:=Qds l n (by omega)
 rw[Qcv (by omega),Qcv (by omega),List.drop_of_length_le (by omega)]at e
 rw[e,Qbi (by omega),Qbi (by omega),val,Nat.mul_zero,Nat.add_zero,Nat.mul_comm (65536^n)]
 rw[Nat.mul_comm 65536,Nat.add_comm (l[n]),Nat.add_comm]
theorem Qaen:
  (∀(β:Nat)(cs:List PV),Qan β (.pt cs)= .pt cs)/\(∀(β:Nat),Qan β .undef= .undef)/\(∀(β:Nat)(cs:List PV),Qan β (.tup cs)= .tup cs)/\
  (∀(cs:List PV),(PV.pt cs).refs=[])/\(PV.undef.refs=[])/\(∀(cs:List PV),(PV.tup cs).refs=[])/\
  (∀(hp:HP)(cs:List PV),Q8 hp (.pt cs)= .pt cs)/\(∀(hp:HP)(cs:List PV),Q8 hp (.tup cs)= .tup cs)/\
  (∀(β f:Nat)(a b:List PV),Qan β (.fn f a b)=if(a.flatMap PV.ref1++b.flatMap PV.ref1).contains β then .undef else .fn f a b)/\
  (∀(β o n:Nat),(PV.mso β o n).ref1=[β])/\(∀(β o n:Nat),(PV.rb β o n).ref1=[β])/\(∀(β o n:Nat),(PV.mp β o n).ref1=[β])/\
  (∀(k:IntKind)(n:Int),(PV.int k n).ref1=[])/\(∀(b:Bool),(PV.bool b).ref1=[])/\(∀(e:Nat)(xs:List PV),(PV.sl e xs).ref1=[])/\(PV.nilS.ref1=[])/\(∀(xs:List PV),(PV.pt xs).ref1=[]):=by
 refine⟨fun _ _=>rfl,fun _=>rfl,fun _ _=>rfl,fun _=>rfl,rfl,fun _=>rfl,fun _ _=>rfl,fun _ _=>rfl,fun _ _ _ _=>rfl,fun _ _ _=>rfl,fun _ _ _=>rfl,fun _ _ _=>rfl,fun _ _=>rfl,fun _=>rfl,fun _ _=>rfl,rfl,fun _=>rfl⟩
theorem ops3:
  (∀(ty d e:Nat)(xs:List PV)(fr:Fr)(hp:HP)(K:Qf),Qd7 1 ty (.sl e xs) d fr hp K=K (upd (Qap d fr) d (.mp d 0 0)) (Qg hp d ⟨1,ty,[.sl e xs],false⟩))/\
  (∀(ty d:Nat)(k:IntKind)(x:Int)(fr:Fr)(hp:HP)(K:Qf),Qd7 1 ty (.int k x) d fr hp K=K (upd (Qap d fr) d (.mp d 0 0)) (Qg hp d ⟨1,ty,[.int k x],false⟩))/\
  (∀(ty d:Nat)(x:Bool)(fr:Fr)(hp:HP)(K:Qf),Qd7 1 ty (.bool x) d fr hp K=K (upd (Qap d fr) d (.mp d 0 0)) (Qg hp d ⟨1,ty,[.bool x],false⟩))/\
  (∀(ty d:Nat)(fr:Fr)(hp:HP)(K:Qf),Qd7 1 ty .nilS d fr hp K=K (upd (Qap d fr) d (.mp d 0 0)) (Qg hp d ⟨1,ty,[.nilS],false⟩))/\
  (∀(n ty d o m:Nat)(fr:Fr)(hp:HP)(K:Qf),Qd7 n ty (.mso 1000000 o m) d fr hp K=K (upd fr d (.rb 1000000 o m)) hp)/\
  (∀(n ty d:Nat)(x:PV)(cs:List PV)(fr:Fr)(hp:HP)(K:Qf),Qd7 n ty (.agg (x::cs)) d fr hp K=(cs.length+1=n/\K (upd (Qap d fr) d (.mp d 0 0)) (Qg hp d ⟨n,ty,[.agg (x::cs)],false⟩)))/\
  (∀(ty d:Nat)(x:PV)(fz:Bool)(fr:Fr)(hp:HP)(K:Qf),ldM (some ⟨1,ty,[x],fz⟩) 1 false 0 0 d fr hp K=K (upd fr d (ldV false 1 0 x)) hp)/\
  (∀(ty β e:Nat)(x:PV)(xs:List PV)(fr:Fr)(hp:HP)(K:Qf),stM (some ⟨1,ty,[x],false⟩) β 1 0 0 (.sl e xs) fr hp K=K fr (Qg hp β ⟨1,ty,[.sl e xs],false⟩))/\
  (∀(ty β:Nat)(x:PV)(k:IntKind)(y:Int)(fr:Fr)(hp:HP)(K:Qf),stM (some ⟨1,ty,[x],false⟩) β 1 0 0 (.int k y) fr hp K=K fr (Qg hp β ⟨1,ty,[.int k y],false⟩))/\
  (∀(ty β:Nat)(x:PV)(y:Bool)(fr:Fr)(hp:HP)(K:Qf),stM (some ⟨1,ty,[x],false⟩) β 1 0 0 (.bool y) fr hp K=K fr (Qg hp β ⟨1,ty,[.bool y],false⟩))/\
  (∀(ty β:Nat)(x:PV)(fr:Fr)(hp:HP)(K:Qf),stM (some ⟨1,ty,[x],false⟩) β 1 0 0 .nilS fr hp K=K fr (Qg hp β ⟨1,ty,[.nilS],false⟩))/\
  (∀(e:Nat)(xs:List PV),ldV false 1 0 (.sl e xs)= .sl e xs)/\(∀(k:IntKind)(x:Int),ldV false 1 0 (.int k x)= .int k x)/\(∀(x:Bool),ldV false 1 0 (.bool x)= .bool x)/\(ldV false 1 0 .nilS= .nilS):=by
 have fz:∀hp:HP,Q9 hp []=hp:=fun _=>rfl
 refine⟨fun _ _ _ _ _ _ _=> ?_,fun _ _ _ _ _ _ _=> ?_,fun _ _ _ _ _ _=> ?_,fun _ _ _ _ _=> ?_,fun _ _ _ _ _ _ _ _=>Qad4 (by decide),fun n ty d x cs fr hp K=> ?_,fun _ _ _ _ _ _ _=> ?_,fun _ _ _ _ _ _ _ _=> ?_,fun _ _ _ _ _ _ _ _=> ?_,fun _ _ _ _ _ _ _=> ?_,fun _ _ _ _ _ _=> ?_,fun _ _=>rfl,fun _ _=>rfl,fun _=>rfl,rfl⟩
 ·simp[Qd7,Q8,Qaq,PV.isData,PV.cells,PV.refs,fz]
 ·simp[Qd7,Q8,Qaq,PV.isData,PV.cells,PV.refs,fz]
 ·simp[Qd7,Q8,Qaq,PV.isData,PV.cells,PV.refs,fz]
 ·simp[Qd7,Q8,Qaq,PV.isData,PV.cells,PV.refs,fz]
 ·apply propext
  simp only[Qd7,Q8,Qaq,PV.isData,PV.cells,PV.refs,List.length_cons,fz]
  exact⟨fun⟨_,h1,_,h2⟩=>⟨h1,h2⟩,fun⟨h1,h2⟩=>⟨trivial,h1,by omega,h2⟩⟩
 all_goals simp[ldM,stM,PV.isData,PV.cells]
end Go.FW
namespace Go.FW
theorem Qaeo{l:List Nat}{j n V:Nat}(hl:Qj l)(hlen:j+n+3<=l.length)(hV:V<=65536^(n+2))(hz:val (l.drop (j+1))<V):
  ∃pre w post,l=pre++(w++post)/\pre.length=j/\w.length=n+3/\Qj pre/\Qj w/\Qj post/\val post=0/\val (l.drop j)=val w/\val w<65536*V/\
   ∃w0,w0<65536^n/\val w=((l.getD (j+(n+2)) 0*65536+l.getD (j+(n+1)) 0)*65536+l.getD (j+n) 0)*65536^n+w0:=by
 have hpost:val (l.drop (j+n+3))=0:=by
  have:=Qh4 (l:=l.drop (j+1)) (k:=n+2) (by omega)
  rw[List.drop_drop]at this
  rw[<-this];congr 2;omega
 have hw:Qj ((l.drop j).take (n+3)):=Qf9 (Qg8 hl j) _
 have hwl:((l.drop j).take (n+3)).length=n+3:=by simp;omega
 have hsp:l.drop j=(l.drop j).take (n+3)++l.drop (j+n+3):=by
  have:=(List.take_append_drop (n+3) (l.drop j)).symm
  rw[List.drop_drop]at this
  exact this
 have Qc5:val (l.drop j)=val ((l.drop j).take (n+3)):=by
  conv=>lhs;rw[hsp]
  rw[Qcc,hpost,Nat.mul_zero,Nat.add_zero]
 have hget:∀i,i<n+3->((l.drop j).take (n+3)).getD i 0=l.getD (j+i) 0:=by
  intro i hi
  simp[List.getD_eq_getElem?_getD,List.getElem?_take,hi]
 refine⟨l.take j,(l.drop j).take (n+3),l.drop (j+n+3),?_,by simp;omega,hwl,Qf9 hl j,hw,Qg8 hl _,hpost,Qc5,?_,?_⟩
 ·rw[<-hsp,List.take_append_drop]
 ·rw[<-Qc5,Qcv (by omega)]
  have:=Qal hl (show j<l.length by omega)
  omega
 ·refine⟨val (((l.drop j).take (n+3)).take n),Qd2 hw n (by omega),?_⟩
  rw[Qx7 (n:=n+1) hwl,hget _ (by omega),hget _ (by omega),Qfh (by omega)]
  rw[<-Qbi,hget _ (by omega),Nat.pow_succ]
  generalize l.getD (j+(n+1)) 0=a
  generalize l.getD (j+n) 0=b
  generalize l.getD (j+(n+1+1)) 0=c
  rw[Nat.add_mul _ b,Nat.mul_assoc _ 65536,Nat.mul_comm 65536 (65536^n),Nat.mul_comm (65536^n) b]
  omega
theorem Q2h{U V L qs W R q pre B:Nat}(hU:U=L+V*(65536*B*qs))(hL:L=pre+B*W)(hW:W=q*V+R):U=(pre+B*R)+V*(B*(q+65536*qs)):=by
 subst hW hL
 rw[hU,Nat.mul_add B,Nat.mul_add B q,Nat.mul_add V]
 have e1:B*(q*V)=V*(B*q):=by rw[Nat.mul_comm q V,Nat.mul_left_comm]
 have e2:V*(65536*B*qs)=V*(B*(65536*qs)):=by rw[Nat.mul_comm 65536 B,Nat.mul_assoc]
 omega
open Go
variable {C : Ctx} {fr : Fr} {hp : HP} {w : World} {K R : Qf}
theorem Qeu{x y:RT}{sk:List It}(h1:vc C R (.o x::sk) fr hp)(h2:vc C R (.o y::sk) fr hp):brV C R x y sk fr hp:=⟨h1,h2⟩
theorem Q97{x y:RT}{sk:List It}{W:List (Nat×Nat)}{J F:Fr}(P:Fr->Prop)(h0:P J)(h:∀J,P J->brV C R x y sk (ovr W J F) hp):brV C R x y sk (ovr W J F) hp:=h J h0
theorem Qvg{sk:List It}{x:SC}(hok:Qdk R sk)(W:List (Nat×Nat))(B:List Nat)(I:Nat->Fr->HP->Prop)(m0:Nat)(h0:I m0 fr hp)
  (h:∀F,F=Qad B fr->∀m J hp,I m J hp->vc C R (.c x:: .el (Qok W F I m)::sk) (ovr W J F) hp):vc C R (.c (.loop x)::sk) fr hp:=
 Qai hok W B I m0 h0 (h _ rfl)
theorem Q5t{x y:RT}{sk:List It}{W0:List (Nat×Nat)}{J0 F0:Fr}(hok:Qdk R sk)(B:List Nat)(M:Fr->HP->Prop)
  (h:∀F,F=Qad B F0->brV C R x y (.el (Qhe W0 F M)::sk) (ovr W0 J0 F) hp) (hM:∀J hp,M J hp->vc C R sk (ovr W0 J (Qad B F0)) hp):brV C R x y sk (ovr W0 J0 F0) hp:=by
 have hle:Fle (ovr W0 J0 F0) (ovr W0 J0 (Qad B F0)):=fun s=>by
  unfold ovr Qad
  split
  ·exact .inl rfl
  ·split
   ·exact .inr rfl
   ·exact .inl rfl
 have key:∀(r:RT),vc C R (.o r:: .el (Qhe W0 (Qad B F0) M)::sk) (ovr W0 J0 (Qad B F0)) hp->vc C R (.o r::sk) (ovr W0 J0 F0) hp:=by
  intro r hr
  refine Qlj (M:=Qhe W0 (Qad B F0) M) ?_ _ [.o r] _ _ (Nat.le_refl _) ?_
  ·rintro fr' hp' ⟨J,h1,h2⟩
   exact Qfi hok.1 _ _ _ _ _ _ (Nat.le_refl _) hok.2 h1 (hM J hp' h2)
  ·exact Qfi hok.1 _ _ _ _ _ _ (Nat.le_refl _) (.o r (.el Qi6 hok.2)) hle hr
 exact⟨key x (h _ rfl).1,key y (h _ rfl).2⟩
theorem Qzk{fr':Fr}{K':Qf}{p:PV}{s:Nat}{want:Bool}{o:SOp}(h:Fle fr fr')(hK:KM K' K):Qcm C p s want o fr' hp K'->Qcm C p s want o fr hp K:=by
 unfold Qcm
 split
 ·exact fun H=>⟨fun t=>Qsa (h.upd' _ _) hK o (H.1 t),fun t=>Qke (h.upd' _ _) hK o (H.2 t)⟩
 ·exact Qke h hK o
 ·exact id
theorem Qw4{p:PV}{s:Nat}{want:Bool}{o:SOp}{r:RT}{sk:List It}(hok:Qdk R sk)(W:List (Nat×Nat))(B:List Nat)(M:Fr->HP->Prop)
  (h:Qcm C p s want o (ovr W fr (Qad B fr)) hp (vc C R (.o r:: .el (Qhe W (Qad B fr) M)::sk))) (hM:∀J hp,M J hp->vc C R sk (ovr W J (Qad B fr)) hp):Qcm C p s want o fr hp (vc C R (.o r::sk)):=by
 refine Qzk (Qpz W B) (fun f f' hp hf H=> ?_) h
 have H':=Qfi hok.1 _ _ _ _ _ _ (Nat.le_refl _) (.o r (.el Qi6 hok.2)) hf H
 refine Qlj (M:=Qhe W (Qad B fr) M) ?_ _ [.o r] _ _ (Nat.le_refl _) H'
 rintro fr' hp' ⟨J,h1,h2⟩
 exact Qfi hok.1 _ _ _ _ _ _ (Nat.le_refl _) hok.2 h1 (hM J hp' h2)
theorem caps:(∀(a b c:Nat),(PV.mp a b c).isCap=true)/\(∀(a b c:Nat),(PV.mso a b c).isCap=true)/\(∀(a b c:Nat),(PV.rb a b c).isCap=true)/\(∀(k:IntKind)(n:Int),(PV.int k n).isCap=true)/\
  (∀b,(PV.bool b).isCap=true)/\(PV.nilS.isCap=true)/\(∀(e:Nat)(xs:List PV),(PV.sl e xs).isCap=true)/\(∀(xs:List PV),(PV.pt xs).isCap=true):=
 ⟨fun _ _ _=>rfl,fun _ _ _=>rfl,fun _ _ _=>rfl,fun _ _=>rfl,fun _=>rfl,rfl,fun _ _=>rfl,fun _=>rfl⟩
end Go.FW
namespace Go.FW
def Qp0(V W:List (Nat×Nat)):Bool:=V.all fun p=>W.any fun q=>decide (q.1<=p.1)&&decide (p.2<=q.2)
theorem Q2i{V W:List (Nat×Nat)}(h:Qp0 V W=true){s:Nat}(hs:inW V s=true):inW W s=true:=by
 induction V with
 |nil=>cases hs
 | cons p V ih=>
  simp only[Qp0,List.all_cons,Bool.and_eq_true]at h
  rw[Qmf,Bool.or_eq_true]at hs
  rcases hs with hs|hs
  ·obtain⟨q,hq,hq2⟩:=List.any_eq_true.1 h.1
   simp only[Bool.and_eq_true,decide_eq_true_eq]at hq2 hs
   clear h ih
   induction W with
   |nil=>cases hq
   |cons r W ih=>
    rw[Qmf,Bool.or_eq_true]
    rcases List.mem_cons.1 hq with rfl|hq
    ·left;simp only[Bool.and_eq_true,decide_eq_true_eq];omega
    ·right;exact ih hq
  ·exact ih h.2 hs
theorem Qtz{B B':List Nat}{F:Fr}(h:B.all B'.contains=true):Qad B (Qad B' F)=Qad B' F:=by
 funext s
 by_cases h1:(F s).refs.any B'.contains=true
 ·have:Qad B' F s= .undef:=if_pos h1
  show(if(Qad B' F s).refs.any B.contains=true then PV.undef else Qad B' F s)=_
  rw[this];rfl
 ·have:Qad B' F s=F s:=if_neg h1
  show(if(Qad B' F s).refs.any B.contains=true then PV.undef else Qad B' F s)=_
  rw[this,if_neg]
  intro h2
  obtain⟨x,hx,hx2⟩:=List.any_eq_true.1 h2
  exact h1 (List.any_eq_true.2 ⟨x,hx,List.all_eq_true.1 h x (by simpa using hx2)⟩)
theorem Qcf{V W:List (Nat×Nat)}{X Z F:Fr}(h:Qp0 V W=true):ovr V X (ovr W Z F)=ovr W (ovr V X Z) F:=by
 funext s
 unfold ovr
 by_cases h1:inW V s=true
 ·simp[h1,Q2i h h1]
 ·simp[h1]
theorem Qaeq{W V S d:Nat}(hs:S+d*V=W)(hdW:W<(d+1)*V):S<V/\W=d*V+S:=by
 rw[Nat.add_mul]at hdW;omega
theorem Q98{W V B S e k res:Nat}(hs:S+(e+1)*V=W+B)(hS:S<B)(heV:e*V<=W)(hr:res+B*k=S+V)(hres:res<B)(hWB:W<B):res<V/\W=e*V+res:=by
 rw[Nat.add_mul,Nat.one_mul]at hs
 generalize e*V=x at *
 have hk:k=1:=by
  match k,hr with
  |0,hr=>omega
  |1,_=>rfl
  |k+2,hr=>
   have:B*(k+2)=B*k+B+B:=by rw[Nat.mul_add];omega
   omega
 subst hk
 omega
theorem Qs2{pre R post qs:List Nat}{j q U V L W:Nat}(hp:pre.length=j)(hpost:val post=0)(hU:U=L+V*(65536^(j+1)*val qs))(hL:L=val pre+65536^j*W)(hW:W=q*V+val R):
  val ((pre++(R++post)).drop j)=val R/\U=val (pre++(R++post))+V*(65536^j*val (q::qs)):=by
 have e:(pre++(R++post)).drop j=R++post:=by rw[<-hp,List.drop_left]
 have e2:val (R++post)=val R:=by rw[Qcc,hpost,Nat.mul_zero,Nat.add_zero]
 refine⟨by rw[e,e2],?_⟩
 rw[Qcc,e2,hp,val]
 exact Q2h (by rw[hU,Nat.pow_succ,Nat.mul_comm (65536^j)]) hL hW
theorem Qol{j q:Nat}{qs:List Nat}:(List.replicate (j+1) 0++qs).set j q=List.replicate j 0++(q::qs):=by
 rw[List.replicate_succ',List.append_assoc,List.singleton_append,Qb7 (by simp)]
open Go
variable {C : Ctx} {fr : Fr} {hp : HP} {w : World} {K R : Qf}
theorem opsE:(∀(C:Ctx)(d:Nat)(ng:Bool)(x y:Opd)(fr:Fr)(hp:HP)(K:Qf),opV C (.eqs d ng x y) fr hp K=Qkm ng (ev fr x) (ev fr y) d fr hp K)/\
  (∀(k l:IntKind)(x y x' y':Int)(d:Nat)(fr:Fr)(hp:HP)(K:Qf),Qkm false (.agg [.int k x,.int l y]) (.agg [.int k x',.int l y']) d fr hp K=K (upd fr d (.bool (decide (x=x')&&decide (y=y')))) hp)/\
  (∀(k l:IntKind)(x y x' y':Int)(d:Nat)(fr:Fr)(hp:HP)(K:Qf),Qkm true (.agg [.int k x,.int l y]) (.agg [.int k x',.int l y']) d fr hp K=K (upd fr d (.bool (!(decide (x=x')&&decide (y=y'))))) hp):=
 ⟨fun _ _ _ _ _ _ _ _=>rfl,fun _ _ _ _ _ _ _ _ _ _=>by simp[Qkm],fun _ _ _ _ _ _ _ _ _ _=>by simp[Qkm]⟩
theorem Q5u{α:Type}{f:α->PV}{e d:Nat}{k:IntKind}{xs:List α}(h:0<xs.length):Qed e (.sl e (xs.map f)) (.int k 0) d fr hp K=K (upd fr d (.pt (f (xs[0]'h)).cells)) hp:=by
 rw[Qi3 (by omega) (by omega)];rfl
theorem Q5v{α:Type}{f:α->PV}{e d:Nat}{k:IntKind}{xs:List α}(h:1<xs.length):Qed e (.sl e (xs.map f)) (.int k 1) d fr hp K=K (upd fr d (.pt (f (xs[1]'h)).cells)) hp:=by
 rw[Qi3 (by omega) (by omega)];rfl
theorem Q5w{e d:Nat}{k:IntKind}{x:PV}{xs:List PV}:Qed e (.sl e (x::xs)) (.int k 0) d fr hp K=K (upd fr d (.pt x.cells)) hp:=by
 rw[Qu0 (by omega) (by simp only[List.length_cons];omega)];rfl
theorem Q5x{e d:Nat}{k:IntKind}{x y:PV}{xs:List PV}:Qed e (.sl e (x::y::xs)) (.int k 1) d fr hp K=K (upd fr d (.pt y.cells)) hp:=by
 rw[Qu0 (by omega) (by simp only[List.length_cons];omega)];rfl
def PV.flat:PV->Bool
 | .int .. | .bool _| .nilS| .sl .. | .agg _| .pt _=>true
 |_=>false
theorem Qag6:(∀(k:IntKind)(n:Int),(PV.int k n).flat=true)/\(∀b,(PV.bool b).flat=true)/\(PV.nilS.flat=true)/\(∀(e:Nat)(xs:List PV),(PV.sl e xs).flat=true)/\(∀xs,(PV.agg xs).flat=true)/\(∀xs,(PV.pt xs).flat=true):=
 ⟨fun _ _=>rfl,fun _=>rfl,rfl,fun _ _=>rfl,fun _=>rfl,fun _=>rfl⟩
theorem Qag7:(∀(k:IntKind)(n:Int),(PV.int k n).isData=true)/\(∀b,(PV.bool b).isData=true)/\(PV.nilS.isData=true)/\(∀(e:Nat)(xs:List PV),(PV.sl e xs).isData=true)/\(∀xs,(PV.agg xs).isData=true)/\(∀xs,(PV.pt xs).isData=true):=
 ⟨fun _ _=>rfl,fun _=>rfl,rfl,fun _ _=>rfl,fun _=>rfl,fun _=>rfl⟩
theorem Qd3{p:PV}(h:p.flat=true):Q8 hp p=p/\p.refs=[]/\p.isData=true:=by
 cases p<;>first|(cases h;done)|exact⟨rfl,rfl,rfl⟩
theorem Qln{e ty d:Nat}{ps:List PV}(h:ps.all PV.flat=true)(hl:∀p∈ps,p.cells.length=e)(he:0<e):bsK e ty ps d fr hp K=K (upd (Qap d fr) d (.ms d ps.length)) (Qg hp d ⟨e,ty,ps,false⟩):=by
 have h':=List.all_eq_true.1 h
 have e1:ps.map (Q8 hp)=ps:=by
  conv=>rhs;rw[<-List.map_id ps]
  exact List.map_congr_left fun p hp'=>(Qd3 (h' p hp')).1
 have e2:ps.flatMap PV.refs=[]:=by
  rw[List.flatMap_eq_nil_iff];exact fun p hp'=>(Qd3 (hp:=hp) (h' p hp')).2.1
 have e3:Qlc hp e ps:=fun p hp'=>by
  obtain⟨h1,_,h3⟩:=Qd3 (hp:=hp) (h' p hp')
  rw[h1];exact⟨h3,hl p hp'⟩
 have hbg:Qfo ps=false:=by
  unfold Qfo
  split
  ·rename_i x
   have:=List.all_eq_true.1 h x (by simp)
   unfold Qcl
   split
   ·cases this
   ·rfl
  ·rfl
 simp only[bsK,hbg,Bool.false_eq_true,if_false,bsO,e1,e2,e3,he,true_and]
 rfl
theorem bs1{e ty d:Nat}{p:PV}(h:p.flat=true)(hl:p.cells.length=e)(he:0<e):bsK e ty [p] d fr hp K=K (upd (Qap d fr) d (.ms d 1)) (Qg hp d ⟨e,ty,[p],false⟩):=
 Qln (by simp[h]) (by simpa using hl) he
theorem bs2{e ty d:Nat}{p q:PV}(h:p.flat=true)(h2:q.flat=true)(hl:p.cells.length=e)(hl2:q.cells.length=e)(he:0<e):bsK e ty [p,q] d fr hp K=K (upd (Qap d fr) d (.ms d 2)) (Qg hp d ⟨e,ty,[p,q],false⟩):=
 Qln (by simp[h,h2]) (by simp[hl,hl2]) he
end Go.FW
namespace Go.FW
theorem Qw5{y n s yi:Nat}(hy:(dig y).length=n+2)(hyi:(dig y)[n+1]'(by omega)=yi)(h1:2^15<=yi*2^s)(h2:(yi+1)*2^s<=65536):
  (dig (y*2^s)).length=n+2/\32768<=(dig (y*2^s)).getD (n+1) 0/\32768*65536^(n+1)<=y*2^s:=by
 have hl:=Ql y
 have e:=Qds (dig y) (n+1) (by omega)
 have ht:=Qd2 hl (n+1) (by omega)
 rw[Qcv (by omega),List.drop_of_length_le (by omega),hyi,Q5]at e
 simp only[val,Nat.mul_zero,Nat.add_zero]at e
 have g1:32768*65536^(n+1)<=y*2^s:=by
  calc 32768*65536^(n+1)<=(yi*2^s)*65536^(n+1):=Nat.mul_le_mul_right _ h1
   _=(65536^(n+1)*yi)*2^s:=by rw[Nat.mul_comm (65536^(n+1)),Nat.mul_right_comm]
   _<=y*2^s:=Nat.mul_le_mul_right _ (by omega)
 have g2:y*2^s<65536^(n+2):=by
  have hp:0<2^s:=Nat.pow_pos (by omega)
  calc y*2^s<(65536^(n+1)*(yi+1))*2^s:=Nat.mul_lt_mul_of_pos_right (by rw[Nat.mul_add];omega) hp
   _=65536^(n+1)*((yi+1)*2^s):=Nat.mul_assoc _ _ _
   _<=65536^(n+1)*65536:=Nat.mul_le_mul_left _ h2
   _=65536^(n+2):=(Nat.pow_succ ..).symm
 have hle:nl (y*2^s)<=n+2:=Qfv.2 g2
 have hge:¬nl (y*2^s)<=n+1:=fun h=>by
  have:=Qfv.1 h
  omega
 have hlen:(dig (y*2^s)).length=n+2:=by unfold nl at hle hge;omega
 refine⟨hlen,?_,g1⟩
 have e2:=Qds (dig (y*2^s)) (n+1) (by omega)
 have ht2:=Qd2 (Ql (y*2^s)) (n+1) (by omega)
 rw[Qcv (by omega),List.drop_of_length_le (by omega),Q5]at e2
 simp only[val,Nat.mul_zero,Nat.add_zero]at e2
 have hg:(dig (y*2^s)).getD (n+1) 0=(dig (y*2^s))[n+1]'(by omega):=Qbi (by omega)
 rw[hg]
 apply Decidable.byContradiction
 intro h
 have:65536^(n+1)*(dig (y*2^s))[n+1]<=65536^(n+1)*32767:=Nat.mul_le_mul_left _ (by omega)
 omega
theorem Q2j{yi s:Nat}(hs:s<=15)(h1:2^(16-s)<=2*yi)(h2:yi<2^(16-s)):2^15<=yi*2^s/\(yi+1)*2^s<=65536:=by
 have e:2^(16-s)*2^s=65536:=by rw[<-Nat.pow_add,show 16-s+s=16 by omega]
 constructor
 ·have:=Nat.mul_le_mul_right (2^s) h1
  rw[e,Nat.mul_assoc]at this;omega
 ·rw[<-e];exact Nat.mul_le_mul_right _ h2
theorem Qw6{x s m n Y:Nat}(hx:(dig x).length=m+2)(hs:s<=15)(hnm:n<=m)(hY:32768*65536^(n+1)<=Y):
  ∃u ex,dig (x*2^s)++[0,0]=u++ex/\u.length=m+3/\Qj u/\val u=x*2^s/\ex.length<=2/\val (u.drop (m+3-(n+2)))<Y:=by
 have hxlt:=Qfg (Ql x)
 rw[hx,Q5]at hxlt
 have hp:0<2^s:=Nat.pow_pos (by omega)
 have hs15:2^s<=2^15:=Nat.pow_le_pow_right (by omega) hs
 have hX:x*2^s<2^s*65536^(m+2):=by rw[Nat.mul_comm (2^s)];exact Nat.mul_lt_mul_of_pos_right hxlt hp
 have hX2:x*2^s<65536^(m+3):=by
  have:2^s*65536^(m+2)<=65536*65536^(m+2):=Nat.mul_le_mul_right _ (by omega)
  rw[Nat.pow_succ 65536 (m+2),Nat.mul_comm _ 65536];omega
 have hx1:¬nl (x*2^s)<=m+1:=fun h=>by
  have h2:¬nl x<=m+1:=by unfold nl;omega
  have h3:=Qb0 (show x<=x*2^s from Nat.le_mul_of_pos_right _ hp)
  omega
 have hx2:nl (x*2^s)<=m+3:=Qfv.2 hX2
 have hlim:Qj (dig (x*2^s)++[0,0]):=Qbw.2 ⟨Ql _,by intro z hz;simp at hz;omega⟩
 have Qc5:val (dig (x*2^s)++[0,0])=x*2^s:=by rw[Qcc,Q5];simp[val]
 have hlen:(dig (x*2^s)++[0,0]).length=nl (x*2^s)+2:=by simp[nl]
 generalize dig (x*2^s)++[0,0]=D at *
 have hv:=Qds D (m+3) (by omega)
 have hz:val (D.drop (m+3))=0:=Qh4 (by omega)
 have hul:(D.take (m+3)).length=m+3:=by rw[List.length_take];omega
 refine⟨D.take (m+3),D.drop (m+3),(List.take_append_drop _ _).symm,hul,Qf9 hlim _,by rw[hz]at hv;omega,by rw[List.length_drop];omega,?_⟩
 have hu:val (D.take (m+3))=x*2^s:=by rw[hz]at hv;omega
 have hv2:=Qds (D.take (m+3)) (m+3-(n+2)) (by omega)
 generalize D.take (m+3)=u at *
 have e:65536^(m+2)=65536^(m+3-(n+2))*65536^(n+1):=by rw[<-Nat.pow_add];congr 1;omega
 have:65536^(m+3-(n+2))*val (u.drop (m+3-(n+2)))<65536^(m+3-(n+2))*(2^s*65536^(n+1)):=by
  rw[Nat.mul_left_comm,<-e];omega
 have h4:=Nat.lt_of_mul_lt_mul_left this
 have:2^s*65536^(n+1)<=32768*65536^(n+1):=Nat.mul_le_mul_right _ hs15
 omega
open Go
variable {C : Ctx} {fr : Fr} {hp : HP} {w : World} {K R : Qf}
theorem Q5y{e ty n:Nat}{fz:Bool}{o d:Nat}{x:PV}(h:o+n<=e):ldM (some ⟨e,ty,[x],fz⟩) n true 0 o d fr hp K=K (upd fr d (ldV true n o x)) hp:=Qx0 h (by simp)
theorem Q5z{e ty:Nat}{fz:Bool}{o d:Nat}{x:PV}(h:o+1<=e):ldM (some ⟨e,ty,[x],fz⟩) 1 false 0 o d fr hp K=K (upd fr d (ldV false 1 o x)) hp:=Qx0 h (by simp)
theorem Qag8(n o:Nat)(cs:List PV):ldV true n o (.agg cs)= .agg ((cs.drop o).take n):=rfl
theorem Qag9(n o:Nat)(cs:List PV):ldV false n o (.agg cs)=(cs.drop o).headD .undef:=rfl
theorem Qzl(n ty β:Nat)(x:PV)(cs:List PV):stM (some ⟨n,ty,[x],false⟩) β n 0 0 (.agg cs) fr hp K=(cs.length=n/\K fr (Qg hp β ⟨n,ty,[.agg cs],false⟩)):=by
 simp[stM,PV.isData,PV.cells]
theorem Q50{e n ty β o:Nat}{x v:PV}(h:v.flat=true)(hn:¬n=e)(hl:v.cells.length=n)(ho:o+n<=e):stM (some ⟨e,ty,[x],false⟩) β n 0 o v fr hp K=K fr (Qg hp β ⟨e,ty,[stV x o v],false⟩):=by
 have:=(Qd3 (hp:=hp) h).2.2
 simp[stM,this,hl,ho,hn]
theorem Q99(cs:List PV)(o:Nat)(v:PV):stV (.agg cs) o v= .agg (cs.take o++v.cells++cs.drop (o+v.cells.length)):=rfl
theorem Q2k:(PV.nilS).cells=[.nilS]:=rfl
theorem Qmg{p:PV}(h:p.flat=true):p.isNst=false:=by cases p<;>simp_all[PV.flat,PV.isNst]
theorem Qmh{z:List PV}{ps:List (Nat×Nat×PV)}{d:Nat}(h:ps.all (fun p=>p.2.2.flat)=true):
  Qfx z ps d fr hp K=((∀p∈ps,p.2.2.cells.length=p.2.1/\p.1+p.2.1<=z.length)/\K (upd fr d (.agg (Qc2 z (ps.map fun p=>(p.1,p.2.2.cells))))) hp):=by
 have h':=List.all_eq_true.1 h
 have e1:(ps.map fun p=>(p.1,(Q8 hp p.2.2).cells))=ps.map fun p=>(p.1,p.2.2.cells):=List.map_congr_left fun p hp'=>by rw[(Qd3 (h' p hp')).1]
 have e2:(ps.flatMap fun p=>p.2.2.refs)=[]:=by
  rw[List.flatMap_eq_nil_iff];exact fun p hp'=>(Qd3 (hp:=hp) (h' p hp')).2.1
 have e3:Quf hp z.length ps=(∀p∈ps,p.2.2.cells.length=p.2.1/\p.1+p.2.1<=z.length):=by
  apply propext
  constructor
  ·intro H p hp'
   obtain⟨_,h2,h3⟩:=H p hp'
   rw[(Qd3 (h' p hp')).1]at h2;exact⟨h2,h3⟩
  ·intro H p hp'
   obtain⟨h2,h3⟩:=H p hp'
   obtain⟨g1,_,g3⟩:=Qd3 (hp:=hp) (h' p hp')
   rw[g1];exact⟨g3,h2,h3⟩
 have e4:ps.any (fun p=>p.2.2.isNst)=false:=by
  rw[List.any_eq_false];exact fun p hp'=>by simp[Qmg (h' p hp')]
 simp only[Qfx,e4,Qp9,e1,e2,e3,Bool.false_eq_true,if_false]
 rfl
theorem bld0(z:List PV)(d:Nat):Qfx z [] d fr hp K=K (upd fr d (.agg z)) hp:=by rw[Qmh rfl];simp[Qc2]
theorem bld1{z:List PV}{o n d:Nat}{p:PV}(h:p.flat=true):Qfx z [(o,n,p)] d fr hp K=((p.cells.length=n/\o+n<=z.length)/\K (upd fr d (.agg (z.take o++p.cells++z.drop (o+p.cells.length)))) hp):=by
 rw[Qmh (by simp[h])];simp[Qc2]
theorem bld2{z:List PV}{o n o2 n2 d:Nat}{p q:PV}(h:p.flat=true)(h2:q.flat=true):Qfx z [(o,n,p),(o2,n2,q)] d fr hp K=
  ((p.cells.length=n/\o+n<=z.length)/\(q.cells.length=n2/\o2+n2<=z.length)/\K (upd fr d (.agg (Qc2 z [(o,p.cells),(o2,q.cells)]))) hp):=by
 rw[Qmh (by simp[h,h2])];simp[and_assoc]
theorem bld3{z:List PV}{o n o2 n2 o3 n3 d:Nat}{p q r:PV}(h:p.flat=true)(h2:q.flat=true)(h3:r.flat=true):Qfx z [(o,n,p),(o2,n2,q),(o3,n3,r)] d fr hp K=
  ((p.cells.length=n/\o+n<=z.length)/\(q.cells.length=n2/\o2+n2<=z.length)/\(r.cells.length=n3/\o3+n3<=z.length)/\K (upd fr d (.agg (Qc2 z [(o,p.cells),(o2,q.cells),(o3,r.cells)]))) hp):=by
 rw[Qmh (by simp[h,h2,h3])];simp[and_assoc]
theorem Q2l(c:List PV):Qc2 c []=c:=rfl
theorem Qzm(c xs:List PV)(o:Nat)(r:List (Nat×List PV)):Qc2 c ((o,xs)::r)=Qc2 (c.take o++xs++c.drop (o+xs.length)) r:=rfl
def Qua(p:PV)(hp:HP)(n:Nat)(ag:Bool):PV:=match p with
 | .mp β i o=>match hp β with
  |some hb=>if i<hb.xs.length/\o+n<=hb.e/\(ag=false->n=1)then ldV ag n o ((hb.xs[i]?).getD .undef)else .undef
  |none=> .undef
 |_=> .undef
def gv(fr:Fr)(hp:HP):RV->PV
 | .t s=>Q8 hp (fr s)
 | .cell s n ag=>Qua (fr s) hp n ag
def Qq2(hb:Option HB)(n:Nat)(ag:Bool)(i o:Nat):PV:=match hb with
  |some hb=>if i<hb.xs.length/\o+n<=hb.e/\(ag=false->n=1)then ldV ag n o ((hb.xs[i]?).getD .undef)else .undef
  |none=> .undef
theorem gv_t(fr:Fr)(hp:HP)(s:Nat):gv fr hp (.t s)=Q8 hp (fr s):=rfl
theorem gv_c(fr:Fr)(hp:HP)(s n:Nat)(ag:Bool):gv fr hp (.cell s n ag)=Qua (fr s) hp n ag:=rfl
theorem Q51(hp:HP)(n:Nat)(ag:Bool)(β i o:Nat):Qua (.mp β i o) hp n ag=Qq2 (hp β) n ag i o:=rfl
theorem Qaaa{e ty n o:Nat}{fz:Bool}{x:PV}(h:o+n<=e):Qq2 (some ⟨e,ty,[x],fz⟩) n true 0 o=ldV true n o x:=by simp[Qq2,h]
theorem Qaab{e ty o:Nat}{fz:Bool}{x:PV}(h:o+1<=e):Qq2 (some ⟨e,ty,[x],fz⟩) 1 false 0 o=ldV false 1 o x:=by simp[Qq2,h]
theorem Qom{r:RV}(h:(gv fr hp r).isData=true):okR fr hp r/\rvP fr hp r=gv fr hp r:=by
 cases r with
 |t s=>exact⟨h,rfl⟩
 | cell s n ag=>
  simp only[gv,okR,rvP]at h⊢
  cases hfs:fr s with
  | mp β i o=>
   rw[hfs]at h
   simp only[Qua]at h⊢
   cases hβ:hp β with
   |none=>rw[hβ]at h;cases h
   | some hb=>
    rw[hβ]at h
    simp only at h⊢
    split at h
    ·rename_i hc
     rw[if_pos hc];exact⟨hc,rfl⟩
    ·cases h
  |_=>rw[hfs]at h;cases h
theorem Qa1{r:RV}{Rr:PV->Prop}(h:Qr2 Rr (gv fr hp r)):Qdc [r] Rr fr hp:=by
 obtain⟨h1,h2⟩:=Qom h.1
 exact⟨h1,by rw[h2];exact h.2⟩
theorem Qb1{r s:RV}{Rr:PV->Prop}(h:Qt8 Rr (gv fr hp r) (gv fr hp s)):Qdc [r,s] Rr fr hp:=by
 obtain⟨⟨a,b⟩,c⟩:=h
 obtain⟨h1,h2⟩:=Qom a
 obtain⟨h3,h4⟩:=Qom b
 refine⟨by simp[h1,h3],?_⟩
 simp only[List.map_cons,List.map_nil,h2,h4];exact c
theorem Qaha{r s t:RV}{Rr:PV->Prop}(h:Qt9 Rr (gv fr hp r) (gv fr hp s) (gv fr hp t)):Qdc [r,s,t] Rr fr hp:=by
 obtain⟨⟨a,b,b'⟩,c⟩:=h
 obtain⟨h1,h2⟩:=Qom a
 obtain⟨h3,h4⟩:=Qom b
 obtain⟨h5,h6⟩:=Qom b'
 refine⟨by simp[h1,h3,h5],?_⟩
 simp only[List.map_cons,List.map_nil,h2,h4,h6];exact c
end Go.FW
namespace Go.FW
open Go
def zv(n:Bool)(a:List Nat):Int:=if n then -(val a:Int)else val a
abbrev PV.zi(n:Bool)(a:List Nat):PV:= .agg [.bool n,PV.nat a]
abbrev PV.zz(z:Int):PV:= .agg [.bool (decide (z<0)),PV.num z.natAbs]
theorem Qsb(n:Bool)(x:Nat):PV.agg [.bool (n&&decide (0<(dig x).length)),PV.num x]=PV.zz (if n then -(x:Int)else x):=by
 have h:0<(dig x).length↔x≠0:=by
  constructor
  ·intro h h0;rw[h0,Qa2]at h;simp at h
  ·intro h;apply Nat.pos_of_ne_zero;intro h0;exact h (Qbm.1 (Qc3 h0))
 cases n
 ·simp
 ·simp only[Bool.true_and,if_true,PV.zz,Int.natAbs_neg,Int.natAbs_natCast]
  congr 3
  exact decide_eq_decide.2 (by rw[h];omega)
theorem Qe9(z:Int):zv (decide (z<0)) (dig z.natAbs)=z:=by
 unfold zv;rw[Q5];by_cases h:z<0<;>simp[h]<;>omega
theorem Qbe(n:Bool)(a:List Nat):(zv n a).natAbs=val a:=by unfold zv;split<;>simp
theorem Qf1(a:List Nat):zv false a=val a:=rfl
theorem Qhf(n:Bool)(x:Nat):zv n (dig x)=if n then -(x:Int)else x:=by unfold zv;rw[Q5]
def sgn(z:Int):Int:=if z<0 then -1 else if 0<z then 1 else 0
def Qfa(x y:Int):Int:=if x<y then -1 else if y<x then 1 else 0
theorem Qvh(n:Bool)(a:List Nat):sgn (zv n a)=if val a=0 then 0 else if n then -1 else 1:=by
 unfold sgn zv;cases n<;>simp<;>split<;>(try split)<;>omega
theorem Qlo{x:Int}:sgn x<0↔x<0:=by unfold sgn;split<;>(try split)<;>omega
theorem Qaac{x y:Int}(h:sgn x<sgn y):Qfa x y= -1:=by
 unfold sgn at h;unfold Qfa;rw[if_pos];split at h<;>split at h<;>(try split at h)<;>(try split at h)<;>omega
theorem Qaad{x y:Int}(h:sgn y<sgn x):Qfa x y=1:=by
 have:y<x:=by unfold sgn at h;split at h<;>split at h<;>(try split at h)<;>(try split at h)<;>omega
 unfold Qfa;rw[if_neg (by omega),if_pos this]
theorem Qmi(n:Bool)(a:List Nat):zv n a=val a∨zv n a= -(val a:Int):=by unfold zv;split<;>simp
theorem Qaae{n m:Bool}{a b:List Nat}(h:zv n a<0)(h2:zv m b<0):Qdz (val b) (val a)=Qfa (zv n a) (zv m b):=by
 unfold Qdz Qfa
 have e:=Qmi n a
 have f:=Qmi m b
 generalize zv n a=p at *
 generalize zv m b=q at *
 repeat' split
 all_goals omega
theorem Qaaf{n m:Bool}{a b:List Nat}(h:¬zv n a<0)(h2:¬zv m b<0):Qdz (val a) (val b)=Qfa (zv n a) (zv m b):=by
 unfold Qdz Qfa
 have e:=Qmi n a
 have f:=Qmi m b
 generalize zv n a=p at *
 generalize zv m b=q at *
 repeat' split
 all_goals omega
theorem Qmj{x y:Nat}:Qdz x y<0↔x<y:=by unfold Qdz;split<;>(try split)<;>omega
variable {C : Ctx} {fr : Fr} {hp : HP} {w : World} {K R : Qf}
def Qzn(hb:Option HB)(o n:Nat):PV:=match hb with
 |some hb=> .sl hb.e ((hb.xs.drop o).take n)
 |none=> .undef
theorem Qac:(∀(hp:HP)(β o n:Nat),Q8 hp (.mso β o n)=if isY β=true then .undef else Qzn (hp β) o n)/\
  (∀(e ty o n:Nat)(xs:List PV)(fz:Bool),Qzn (some ⟨e,ty,xs,fz⟩) o n= .sl e ((xs.drop o).take n))/\
  (∀(β:Nat),isY β=(decide (1000000<=β)&&decide (β<2000000)))/\
  (∀(hp:HP)(l:List Nat)(β:Nat),FW.Q9 hp l β=if l.contains β=true then(hp β).map (fun hb=>{ hb with fz:=true })else hp β):=by
 refine⟨fun hp β o n=> ?_,fun _ _ _ _ _ _=>rfl,fun _=>rfl,fun _ _ _=>rfl⟩
 simp only[Q8,Qaq,Qzn]
 cases isY β<;>cases hp β<;>rfl
theorem Qaer{n d:Nat}{cs:List PV}(h:n<=cs.length):ldK n true (.pt cs) d fr hp K=K (upd fr d (.agg (cs.take n))) hp:=by
 simp[ldK,h,ldV,PV.cells]
theorem Qaes{off d:Nat}{cs:List PV}(h:off<=cs.length):Qkn off (.pt cs) d fr hp K=K (upd fr d (.pt (cs.drop off))) hp:=by
 simp[Qkn,h]
theorem Qaet{off n d:Nat}{cs:List PV}(h:off+n<=cs.length):Qhz off n true (.agg cs) d fr hp K=K (upd fr d (.agg ((cs.drop off).take n))) hp:=by
 simp[Qhz,h,ldV,PV.cells]
theorem Qaeu{off d:Nat}{cs:List PV}(h:off+1<=cs.length):Qhz off 1 false (.agg cs) d fr hp K=K (upd fr d ((cs.drop off).headD .undef)) hp:=by
 simp[Qhz,h,ldV,PV.cells]
def rv(n:Bool)(a d:List Nat):Rat:=mkRat (zv n a) (val d)
abbrev PV.rr(n:Bool)(a d:List Nat):PV:= .agg [.bool n,PV.nat a,PV.nat d]
abbrev PV.rat(q:Rat):PV:= .agg [.bool (decide (q.num<0)),PV.num q.num.natAbs,PV.num q.den]
theorem Qc6(q:Rat):rv (decide (q.num<0)) (dig q.num.natAbs) (dig q.den)=q:=by
 unfold rv;rw[Qe9,Q5,Rat.mkRat_self]
theorem Qil{z:Int}{D:Nat}(hD:D≠0):(mkRat z D).num=z/(Nat.gcd z.natAbs D:Int)/\(mkRat z D).den=D/Nat.gcd z.natAbs D:=by
 rw[Rat.mkRat_def,dif_neg hD,Rat.normalize_eq];exact⟨rfl,rfl⟩
theorem Q2m{z:Int}{D:Nat}(hD:D≠0):PV.agg [.bool (decide (z<0)),PV.num (z.natAbs/Nat.gcd z.natAbs D),PV.num (D/Nat.gcd z.natAbs D)]=PV.rat (mkRat z D):=by
 obtain⟨h1,h2⟩:=Qil (z:=z) hD
 have hg:0<Nat.gcd z.natAbs D:=Nat.gcd_pos_of_pos_right _ (Nat.pos_of_ne_zero hD)
 have hdvd:(Nat.gcd z.natAbs D:Int)∣z:=Int.ofNat_dvd_left.2 (Nat.gcd_dvd_left _ _)
 obtain⟨k,hk⟩:=hdvd
 rw[PV.rat,h1,h2]
 generalize hgg:Nat.gcd z.natAbs D=g at *
 have e1:z/(g:Int)=k:=by rw[hk,Int.mul_ediv_cancel_left _ (by omega)]
 have e2:z.natAbs/g=k.natAbs:=by rw[hk,Int.natAbs_mul,Int.natAbs_natCast,Nat.mul_div_cancel_left _ hg]
 have e3:z<0↔k<0:=by
  rw[hk]
  constructor
  ·intro h;apply Decidable.byContradiction;intro h'
   have:=Int.mul_nonneg (show(0:Int)<=g by omega) (show 0<=k by omega);omega
  ·intro h;exact Int.mul_neg_of_pos_of_neg (by omega) h
 rw[e1,e2,decide_eq_decide.2 e3]
theorem Qahb(z:Int):PV.agg [.bool (decide (z<0)),PV.num z.natAbs,PV.nat [1]]=PV.rat (mkRat z 1):=by
 rw[<-Q2m (by omega),Nat.gcd_one_right,Nat.div_one,Nat.div_one,PV.num,PV.num,Qga]
theorem Qx8:PV.le (.agg [.bool false,.nilS,PV.nat [1]]) (PV.rat 0):=by
 show PV.leL _ _
 refine⟨rfl,?_,?_,trivial⟩
 ·show PV.le1 .nilS (PV.nat (dig 0));rw[Qa2];trivial
 ·show PV.le1 (PV.nat [1]) (PV.nat (dig 1));rw[Qga];exact Qps _
theorem Qpb{z:Int}{D:Nat}(h:D=0∨z=0):mkRat z D=0:=by
 rcases h with h|h
 ·rw[h,Rat.mkRat_zero]
 ·rw[h,Rat.zero_mkRat]
def rs(q:Rat):Nat:=max (nl q.num.natAbs) (nl q.den)
theorem Q2n(x y:Nat):nl (x/y)<=nl x:=Qb0 (Nat.div_le_self _ _)
theorem Qnu:nl 1=1:=by unfold nl;rw[Qga];rfl
theorem Qmk(z:Int)(D:Nat):rs (mkRat z D)<=max (nl z.natAbs) (max (nl D) 1):=by
 by_cases hD:D=0
 ·rw[hD,Rat.mkRat_zero]
  show max (nl 0) (nl 1)<=_
  rw[Qr4,Qnu];omega
 ·obtain⟨h1,h2⟩:=Qil (z:=z) hD
  unfold rs
  rw[h1,h2]
  have e:(z/(Nat.gcd z.natAbs D:Int)).natAbs<=z.natAbs:=by
   have hdvd:(Nat.gcd z.natAbs D:Int)∣z:=Int.ofNat_dvd_left.2 (Nat.gcd_dvd_left _ _)
   rw[Int.natAbs_ediv_of_dvd hdvd]
   exact Nat.div_le_self _ _
  have:=Qb0 e
  have:=Q2n D (Nat.gcd z.natAbs D)
  omega
theorem Qfj(x y:Int):nl (x+y).natAbs<=max (nl x.natAbs) (nl y.natAbs)+1:=
 Nat.le_trans (Qb0 (Int.natAbs_add_le x y)) (Q1v _ _)
theorem Qar(x y:Int):nl (x*y).natAbs<=nl x.natAbs+nl y.natAbs:=by rw[Int.natAbs_mul];exact Qfy _ _
theorem Qvi(q:Rat):1<=rs q:=by
 have:nl q.den≠0:=fun h=>q.den_nz (Qiv.1 h)
 unfold rs;omega
theorem Q2o(a b:Rat):rs (a+b)<=rs a+rs b+1:=by
 have e:a+b=mkRat (a.num*b.den+b.num*a.den) (a.den*b.den):=by
  conv=>lhs;rw[<-Rat.mkRat_self a,<-Rat.mkRat_self b]
  exact Rat.mkRat_add_mkRat _ _ a.den_nz b.den_nz
 rw[e]
 have h1:=Qmk (a.num*b.den+b.num*a.den) (a.den*b.den)
 have h2:=Qfj (a.num*b.den) (b.num*a.den)
 have h3:=Qar a.num b.den
 have h4:=Qar b.num a.den
 have h5:=Qfy a.den b.den
 rw[Int.natAbs_natCast]at h3 h4
 unfold rs at *
 omega
theorem Qf2(a b:Rat):rs (a*b)<=rs a+rs b:=by
 have e:a*b=mkRat (a.num*b.num) (a.den*b.den):=by
  conv=>lhs;rw[<-Rat.mkRat_self a,<-Rat.mkRat_self b]
  exact Rat.mkRat_mul_mkRat _ _ _ _
 rw[e]
 have h1:=Qmk (a.num*b.num) (a.den*b.den)
 have h3:=Qar a.num b.num
 have h5:=Qfy a.den b.den
 have:=Qvi a
 unfold rs at *
 omega
theorem Qlp(a:Rat):rs (-a)=rs a:=by unfold rs;rw[Rat.neg_num,Rat.neg_den,Int.natAbs_neg]
theorem Q2p{n k:Nat}{a d:List Nat}{b:Bool}(ha:Qj a)(hd:Qj d)(h1:a.length<=k)(h2:d.length<=k)(hk:1<=k):rs (rv b a d)<=k:=by
 unfold rv
 have h:=Qmk (zv b a) (val d)
 rw[Qbe]at h
 have:=Qam ha
 have:=Qam hd
 omega
end Go.FW
namespace Go.FW
open Go
def Qd0(q:Rat):Int:=sgn q.num
def Qkr(p q:Rat):Int:=if p<q then -1 else if q<p then 1 else 0
theorem Qip{z:Int}{D:Nat}(hD:D≠0):∃g:Nat,0<g/\z=(mkRat z D).num*g/\D=(mkRat z D).den*g:=by
 obtain⟨h1,h2⟩:=Qil (z:=z) hD
 have hg:0<Nat.gcd z.natAbs D:=Nat.gcd_pos_of_pos_right _ (Nat.pos_of_ne_zero hD)
 refine⟨_,hg,?_,?_⟩
 ·rw[h1,Int.ediv_mul_cancel (Int.ofNat_dvd_left.2 (Nat.gcd_dvd_left _ _))]
 ·rw[h2,Nat.div_mul_cancel (Nat.gcd_dvd_right _ _)]
theorem Qzo{a:Int}{g:Nat}(hg:0<g):a*g<0↔a<0:=by
 constructor
 ·intro h;apply Decidable.byContradiction;intro h'
  have:=Int.mul_nonneg (show 0<=a by omega) (show(0:Int)<=g by omega);omega
 ·intro h;exact Int.mul_neg_of_neg_of_pos h (by omega)
theorem Qzp{a:Int}{g:Nat}(hg:0<g):0<a*g↔0<a:=by
 constructor
 ·intro h;apply Decidable.byContradiction;intro h'
  have:=Int.mul_nonneg (show 0<= -a by omega) (show(0:Int)<=g by omega)
  rw[Int.neg_mul]at this;omega
 ·intro h;exact Int.mul_pos h (by omega)
theorem Q2q{z:Int}{D:Nat}(hD:D≠0):Qd0 (mkRat z D)=sgn z:=by
 obtain⟨g,hg,h1,_⟩:=Qip (z:=z) hD
 unfold Qd0
 generalize(mkRat z D).num=x at *
 subst h1
 unfold sgn
 have:=Qzo (a:=x) hg
 have:=Qzp (a:=x) hg
 repeat' split
 all_goals omega
theorem Qvj{x y:Int}{d c:Nat}(hd:d≠0)(hc:c≠0):mkRat x d<mkRat y c↔x*c<y*d:=by
 obtain⟨g,hg,h1,h2⟩:=Qip (z:=x) hd
 obtain⟨k,hk,h3,h4⟩:=Qip (z:=y) hc
 rw[Rat.lt_iff]
 generalize(mkRat x d).num=p at *
 generalize(mkRat x d).den=p' at *
 generalize(mkRat y c).num=q at *
 generalize(mkRat y c).den=q' at *
 subst h1 h2 h3 h4
 have e1:p*(g:Int)*((q'*k:Nat):Int)=(p*q')*((g*k:Nat):Int):=by push_cast;grind
 have e2:q*(k:Int)*((p'*g:Nat):Int)=(q*p')*((g*k:Nat):Int):=by push_cast;grind
 rw[e1,e2]
 have hgk:(0:Int)<((g*k:Nat):Int):=by exact_mod_cast Nat.mul_pos hg hk
 exact⟨fun h=>Int.mul_lt_mul_of_pos_right h hgk,fun h=>Int.lt_of_mul_lt_mul_right h (Int.le_of_lt hgk)⟩
theorem Qx9{x y:Int}{d c:Nat}(hd:d≠0)(hc:c≠0):Qkr (mkRat x d) (mkRat y c)=Qfa (x*c) (y*d):=by
 unfold Qkr Qfa
 simp only[Qvj hd hc,Qvj hc hd]
theorem      Qp1 {x : Int} : sgn x = 0 ↔ x = 0 := by unfold sgn;repeat' split
                                                     all_goals omega
theorem Qb8{q:Rat}:Qd0 q=0↔q=0:=by unfold Qd0;rw[Qp1,Rat.num_eq_zero]
theorem Qvk{q:Rat}:Qd0 q<0↔q<0:=by
 unfold Qd0;rw[Qlo,Rat.lt_iff];simp
theorem Qvl{q:Rat}:0<Qd0 q↔0<q:=by
 unfold Qd0;rw[Rat.lt_iff];unfold sgn;simp;repeat' split
 all_goals omega
theorem       Qs3 (q : Rat) :  Qd0 q = -1 ∨  Qd0 q = 0 ∨  Qd0 q = 1 := by unfold  Qd0 sgn;repeat' split
                                                                          all_goals omega
theorem Qvm{p q:Rat}(h:Qd0 p<Qd0 q):Qkr p q= -1:=by
 unfold Qkr;rw[if_pos]
 rcases Qs3 p with h1|h1|h1<;>rcases Qs3 q with h2|h2|h2<;>first|omega|skip
 ·have a:=Qvk.1 (show Qd0 p<0 by omega);have b:=Qb8.1 h2;grind
 ·have a:=Qvk.1 (show Qd0 p<0 by omega);have b:=Qvl.1 (show 0<Qd0 q by omega);grind
 ·have a:=Qb8.1 h1;have b:=Qvl.1 (show 0<Qd0 q by omega);grind
theorem Q52{p q:Rat}(h:Qd0 q<Qd0 p):Qkr p q=1:=by
 have:=Qvm h
 unfold Qkr at *
 have hlt:q<p:=by
  apply Decidable.byContradiction;intro hn
  rw[if_neg hn]at this;split at this<;>omega
 rw[if_neg (by grind),if_pos hlt]
theorem Qs4{p q:Rat}:Qkr p q=0↔p=q:=by
 unfold Qkr
 constructor
 ·intro h
  split at h
  ·omega
  ·split at h
   ·omega
   ·grind
 ·rintro rfl;rw[if_neg (by grind),if_neg (by grind)]
def Qgc(n:Bool)(a:List Nat):Bool:=if a=[]then !n else decide (a.getLast? ≠some 0)
def Qgn(n:Bool)(a d:List Nat):Bool:=Qgc n a&&(decide (d≠[]/\d.getLast? ≠some 0)&&decide (Nat.gcd (val a) (val d)=1))
theorem Q53{n:Bool}{a d:List Nat}(ha:Qj a)(hd:Qj d)(h:Qgn n a d=true):n=decide ((rv n a d).num<0)/\a=dig (rv n a d).num.natAbs/\d=dig (rv n a d).den:=by
 simp only[Qgn,Qgc,Bool.and_eq_true,decide_eq_true_eq]at h
 obtain⟨h1,⟨h2,h3⟩,h4⟩:=h
 have ea:a=dig (val a):=by
  refine(Qlh ha ?_).symm
  split at h1
  ·rename_i h;subst h;simp
  ·simpa using h1
 have ed:d=dig (val d):=(Qlh hd h3).symm
 have hD:val d≠0:=fun h=>h2 (by rw[ed,h,Qa2])
 obtain⟨g1,g2⟩:=Qil (z:=zv n a) hD
 rw[Qbe,h4]at g1 g2
 have g1':(rv n a d).num=zv n a:=by unfold rv;rw[g1];simp
 have g2':(rv n a d).den=val d:=by unfold rv;rw[g2];simp
 rw[g1',g2',Qbe]
 refine⟨?_,ea,ed⟩
 unfold zv
 split at h1
 ·rename_i h;subst h;simp at h1;subst h1;simp[val]
 ·rename_i h
  have h0:val a≠0:=fun h'=>h (by rw[ea,h',Qa2])
  cases n<;>simp;omega
theorem Qahc{n:Bool}{a d:List Nat}(ha:Qj a)(hd:Qj d)(h:Qgn n a d=true):PV.rr n a d=PV.rat (rv n a d):=by
 obtain⟨h1,h2,h3⟩:=Q53 ha hd h
 rw[PV.rr,PV.rat,<-h1,PV.num,PV.num,<-h2,<-h3]
theorem Qpc{a:List Nat}{k:Nat}(h:a.length=k+1):a.getLast? =some (a[k]'(by omega)):=by
 rw[List.getLast?_eq_getElem?,show a.length-1=k by omega];exact List.getElem?_eq_getElem _
def eN(a:List Int)(i:Nat):Int:=a.getD i 0
theorem Qq3{a:List Int}{i:Nat}(h:i<a.length):eN a i=a[i]:=by simp[eN,List.getD_eq_getElem?_getD,h]
theorem Qon{a:List Int}{i:Nat}(h:a.length<=i):eN a i=0:=by simp[eN,List.getD_eq_getElem?_getD,List.getElem?_eq_none h]
def Qjt(l:List Int):Nat->List Int
 |0=>[]
 |n+1=>if l[n]? =some 0 then Qjt l n else l.take (n+1)
def Qoo(l:List Int):List Int:=Qjt l l.length
theorem Qpd(l:List Int):∀n,(Qjt l n).length<=n
 |0=>by simp[Qjt]
 |n+1=>by
  rw[Qjt];split
  ·have:=Qpd l n;omega
  ·simp;omega
theorem Qs5(l:List Int):∀n,n<=l.length->(Qjt l n).getLast? ≠some 0
 |0,_=>by simp[Qjt]
 | n+1,h=>by
  rw[Qjt];split
  ·exact Qs5 l n (by omega)
  ·rename_i hn
   have:(l.take (n+1)).getLast? =l[n]? :=by
    rw[List.getLast?_eq_getElem?,List.length_take,Nat.min_eq_left h]
    simp[List.getElem?_take]
   rw[this];exact hn
theorem Qya(l:List Int)(i:Nat):∀n,n<=l.length->eN (Qjt l n) i=if i<n then eN l i else 0
 |0,_=>by simp[Qjt,eN]
 | n +1,h=>by
  rw[Qjt];split
  ·rename_i hn
   rw[Qya l i n (by omega)]
   by_cases h1:i<n
   ·simp[h1,show i<n+1 by omega]
   ·rw[if_neg h1];split
    ·obtain rfl:i=n:=by omega
     simp[eN,List.getD_eq_getElem?_getD,hn]
    ·rfl
  ·simp only[eN,List.getD_eq_getElem?_getD,List.getElem?_take]
   split<;>simp_all
theorem Q54(l:List Int)(i:Nat):eN (Qoo l) i=eN l i:=by
 rw[Qoo,Qya l i _ (Nat.le_refl _)]
 split
 ·rfl
 ·exact(Qon (by omega)).symm
theorem Qzq(l:List Int):(Qoo l).getLast? ≠some 0:=Qs5 l _ (Nat.le_refl _)
theorem Qnv(l:List Int):(Qoo l).length<=l.length:=Qpd l _
theorem Q55{a b:List Int}(ha:a.getLast? ≠some 0)(hb:b.getLast? ≠some 0)(h:∀i,eN a i=eN b i):a=b:=by
 have key:∀(a b:List Int),b.getLast? ≠some 0->(∀i,eN a i=eN b i)->¬a.length<b.length:=by
  intro a b hb h hlt
  have h1:=h (b.length-1)
  rw[Qon (by omega),Qq3 (by omega)]at h1
  apply hb
  rw[List.getLast?_eq_getElem?,List.getElem?_eq_getElem (by omega),<-h1]
 have h1:=key a b hb h
 have h2:=key b a ha (fun i=>(h i).symm)
 refine List.ext_getElem (by omega) fun i h3 h4=> ?_
 have:=h i
 rwa[Qq3 h3,Qq3 h4]at this
def cmpN(a b:List Int):Nat->Int
 |0=>0
 |n+1=>if eN a n=eN b n then cmpN a b n else Qfa (eN a n) (eN b n)
def Q56(a b:List Int):Int:=cmpN a b (max a.length b.length)
def Qsc(g:Int->Int->Int)(a b:List Int):List Int:=(List.range (max a.length b.length)).map fun i=>g (eN a i) (eN b i)
theorem Qks(g:Int->Int->Int)(a b:List Int):(Qsc g a b).length=max a.length b.length:=by simp[Qsc]
theorem Qaag{g:Int->Int->Int}(hg:g 0 0=0)(a b:List Int)(i:Nat):eN (Qsc g a b) i=g (eN a i) (eN b i):=by
 by_cases h:i<max a.length b.length
 ·rw[Qq3 (by rw[Qks];exact h)];simp[Qsc]
 ·rw[Qon (by rw[Qks];omega),Qon (by omega),Qon (by omega),hg]
def Qkt(a b:List Int):List Int:=Qoo (Qsc (· + ·) a b)
theorem Qyb(a b:List Int)(i:Nat):eN (Qkt a b) i=eN a i+eN b i:=by rw[Qkt,Q54,Qaag (by simp)]
theorem Qs6(a b:List Int):(Qkt a b).getLast? ≠some 0:=Qzq _
theorem Qs7(a b:List Int):Qkt a b=Qkt b a:=Q55 (Qs6 _ _) (Qs6 _ _) fun i=>by rw[Qyb,Qyb,Int.add_comm]
def Qvn(a:List Int):Bool:=decide (a.length<=64)&&(decide (a.getLast? ≠some 0)&&a.all fun x=>decide (0<=x)&&decide (x<=1048576))
structure MB(k:Nat)(a:List Int):Prop where
 len:a.length<=64
 lo:∀x∈a,0<=x
 hi:∀x∈a,x<=k
theorem MB.eN{k:Nat}{a:List Int}(h:MB k a)(i:Nat):0<=FW.eN a i/\FW.eN a i<=k:=by
 by_cases hi:i<a.length
 ·rw[Qq3 hi];exact⟨h.lo _ (List.getElem_mem _),h.hi _ (List.getElem_mem _)⟩
 ·rw[Qon (by omega)];omega
theorem MB.ofOk{a:List Int}(h:Qvn a=true):MB 1048576 a:=by
 simp only[Qvn,Bool.and_eq_true,decide_eq_true_eq,List.all_eq_true]at h
 exact⟨h.1,fun x hx=>(h.2.2 x hx).1,fun x hx=>(h.2.2 x hx).2⟩
variable {C : Ctx} {fr : Fr} {hp : HP} {w : World} {K R : Qf}
theorem Qahd{α:Type}{f:α->PV}{e d:Nat}{xs:List α}{k k':IntKind}{n:Nat}(h5:n<=xs.length):
  slK e (.sl e (xs.map f)) none (some (.int k (n:Int))) (some (.int k' (n:Int))) d fr hp K=K (upd fr d (.sl e ((xs.take n).map f))) hp:=by
 simp[slK,Qbz,h5]
theorem Q57{α:Type}{a:List α}{k:Nat}(h:a.length=k+1):a.getLast? =some (a[k]'(by omega)):=by
 rw[List.getLast?_eq_getElem?,show a.length-1=k by omega];exact List.getElem?_eq_getElem _
theorem Qw7{α:Type}{f:α->PV}{e by_ ty d:Nat}{xs:List α}(h0:0<e)(h1:xs.length*by_<=140737488355328)(h2:xs.length<=9223372036854775807):
  Qdr e by_ ty .nilS (.sl e (xs.map f)) d fr hp K=K (upd (Qap d fr) d (.ms d xs.length)) (Qg hp d ⟨e,ty,xs.map f,false⟩):=by
 have:=Qqp (fr:=fr) (hp:=hp) (K:=K) (e:=e) (by_:=by_) (ty:=ty) (d:=d) (x:= .sl e (xs.map f)) (ys:=xs.map f) rfl h0 (by simpa using h1) (by simpa using h2)
 simpa using this
theorem Qi7{α:Type}{f:α->PV}{e by_ ty d β n:Nat}{xs ys:List α}(hb:hp β=some ⟨e,ty,xs.map f,false⟩)(hn:n=xs.length)(h0:0<e)(h1:(n+ys.length)*by_<=140737488355328)(h2:n+ys.length<=9223372036854775807)(hB:isB β=false:=by decide):
  Qdr e by_ ty (.ms β n) (.sl e (ys.map f)) d fr hp K=K (upd (Qap β fr) d (.ms β (n+ys.length))) (Qg hp β ⟨e,ty,(xs++ys).map f,false⟩):=by
 rw[Qmb (ys:=ys.map f) (xs:=xs.map f) rfl hb h0 (by simp[hn]) (by simpa using h1) (by simpa using h2) hB]
 rw[List.take_of_length_le (by simp[hn]),List.map_append,List.length_map]
theorem Qaz{α:Type}{f:α->PV}{y:α}{e by_ ty ty' d β γ n:Nat}{xs:List α}{fz:Bool}(hb:hp β=some ⟨e,ty,xs.map f,false⟩)(hy:hp γ=some ⟨e,ty',[f y],fz⟩)(h0:0<e)(hn:n=xs.length)(h1:(n+1)*by_<=140737488355328)(h2:n+1<=9223372036854775807)(hB:isB β=false:=by decide):
  Qdr e by_ ty (.ms β n) (.ms γ 1) d fr hp K=K (upd (Qap β fr) d (.ms β (n+1))) (Qg hp β ⟨e,ty,(xs++[y]).map f,false⟩):=by
 rw[Qpu hb hy h0 (by simp[hn]) h1 h2 hB];simp
theorem Qaew{by_ ty d:Nat}{k k':IntKind}{n c:Nat}(h2:n<=c)(h3:by_*c<=281474976710656)(h4:c<=9223372036854775807):
  mkK 1 by_ ty (.int .i64 0) (.int k (n:Int)) (.int k' (c:Int)) d fr hp K=K (upd (Qap d fr) d (.ms d n)) (Qg hp d ⟨1,ty,Qpv (List.replicate n 0),false⟩):=by
 rw[Q1q (by omega) (by omega) (by omega) (by omega)]
 simp[Qpv]
theorem Qsd(a b:Nat):max (a:Int) (b:Int)=((max a b:Nat):Int):=by omega
end Go.FW
namespace Go.FW
open Go
variable {C : Ctx} {fr : Fr} {hp : HP} {w : World} {K R : Qf}
end Go.FW
namespace Go.FW
open Go
abbrev Tm:=Rat×List Int
def Qfr:List Tm->List Tm->List Tm
 | [],q=>q
 |p,[]=>p
 |(c,m)::p,(d,l)::q=>
  if 0<Q56 m l then(c,m)::Qfr p ((d,l)::q)
  else if Q56 m l<0 then(d,l)::Qfr ((c,m)::p) q
  else if c+d=0 then Qfr p q else(c+d,m)::Qfr p q
termination_by p q=>p.length+q.length
theorem Q58(p:List Tm):Qfr p []=p:=by cases p<;>rw[Qfr];simp
structure TB(K E:Nat)(t:Tm):Prop where
 c:rs t.1+1<=K
 m:MB E t.2
 l:t.2.getLast? ≠some 0
def PB(K E:Nat)(p:List Tm):Prop:=∀t∈p,TB K E t
theorem PB.nil(K E:Nat):PB K E []:=fun t ht=>by cases ht
theorem PB.drop{K E:Nat}{p:List Tm}(h:PB K E p)(n:Nat):PB K E (p.drop n):=fun t ht=>h t (List.mem_of_mem_drop ht)
theorem PB.take{K E:Nat}{p:List Tm}(h:PB K E p)(n:Nat):PB K E (p.take n):=fun t ht=>h t (List.mem_of_mem_take ht)
def Qju(l:List (List Tm)):List Tm:=
 match l with
 | []=>[]
 | [p]=>p
 |p::q::r=>Qfr (Qju ((p::q::r).take ((p::q::r).length/2))) (Qju ((p::q::r).drop ((p::q::r).length/2)))
termination_by l.length
decreasing_by
 all_goals simp[List.length_take,List.length_drop];omega
theorem Q2r{l:List (List Tm)}(h:2<=l.length):Qju l=Qfr (Qju (l.take (l.length/2))) (Qju (l.drop (l.length/2))):=by
 match l,h with
 |p::q::r,_=>rw[Qju]
def Qvo(p:List Tm)(t:Tm):List Tm:=p.filterMap fun x=>if x.1*t.1=0 then none else some (x.1*t.1,Qkt x.2 t.2)
def Qzr(p q:List Tm):List Tm:=Qju (p.map (Qvo q))
def Qvp(p q:List Tm):List Tm:=if q.length<p.length then Qzr q p else Qzr p q
section
variable {C : Ctx} {fr : Fr} {hp : HP} {w : World} {K R : Qf}
theorem Q59{e by_ ty d:Nat}{z:PV}{k k':IntKind}{Cc:Int}(h0:0<e)(hz:z.cells.length=e)(h2:0<=Cc)(h3:by_*Cc<=281474976710656)(h4:Cc<=9223372036854775807):
  mkK e by_ ty z (.int k 0) (.int k' Cc) d fr hp K=K (upd (Qap d fr) d (.ms d 0)) (Qg hp d ⟨e,ty,[],false⟩):=Qt7 h0 hz (by omega) h2 h3 h4
end
end Go.FW
namespace Go.FW
open Go
theorem Qse:rs 1<=1:=by
 have:rs 1=max (nl 1) (nl 1):=rfl
 rw[this,Qnu];omega
theorem Qp2:rs 0<=1:=by
 have:rs 0=max (nl 0) (nl 1):=rfl
 rw[this,Qnu,Qr4];omega
structure RTm where
 n:Bool
 a:List Nat
 d:List Nat
 m:List Int
structure TV(t:Tm):Prop where
 c:t.1≠0
 m:Qvn t.2=true
def Qop:List Tm->Prop
 | []=>True
 |s::p=>(∀t∈p,0<Q56 s.2 t.2)/\Qop p
theorem TV.MB{t:Tm}(h:TV t):MB 1048576 t.2:=MB.ofOk h.m
variable {C : Ctx} {ρ : Nat -> Option Nat} {fr : Fr} {hp : HP} {w : World} {K R : Qf}
theorem Qaah(s:Nat)(hd:(Q8 hp (fr s)).isData=true):Wk fr hp (upd fr s (Q8 hp (fr s))) (FW.Q9 hp (fr s).refs):=by
 rintro C tmps w ⟨ρ,hs⟩
 have hf:=hs.freeze (fr s).refs
 refine⟨ρ,hf.sz,hf.ext,hf.keep,hf.own,hf.inj,fun i=> ?_⟩
 unfold upd
 split
 ·rename_i hi;subst hi
  exact Qm.ofData (Qep hs (hs.slots i) (fun β h=>h) hd)
 ·exact hf.slots i
def Qml(W:List (Nat×Nat))(F:Fr)(I:Nat->Fr->HP->Prop)(n:Nat):Qf:=fun fr' hp'=>∃J hp2 m,Wk fr' hp' (ovr W J F) hp2/\m<n/\I m J hp2
theorem Q6a{W:List (Nat×Nat)}{F:Fr}{I:Nat->Fr->HP->Prop}{n:Nat}:KM (Qml W F I n) (Qml W F I n):=by
 rintro f f' hp hf ⟨J,hp2,m,h1,h2,h3⟩
 exact⟨J,hp2,m,hf.wk.trans h1,h2,h3⟩
theorem Qu{sk:List It}{W:List (Nat×Nat)}{F:Fr}{I:Nat->Fr->HP->Prop}{n:Nat}(h:Qdk R sk):Qdk R (.el (Qml W F I n)::sk):=⟨h.1,.el Q6a h.2⟩
theorem Qak{W:List (Nat×Nat)}{F J:Fr}{I:Nat->Fr->HP->Prop}{n:Nat}(m:Nat)(hl:m<n)(h:I m J hp):Qml W F I n (ovr W J F) hp:=⟨J,hp,m,Wk.refl _ _,hl,h⟩
theorem Qq4{W:List (Nat×Nat)}{F J:Fr}{I:Nat->Fr->HP->Prop}{n:Nat}(s m:Nat)(hs:inW W s=true)(hd:(Q8 hp (J s)).isData=true)(hl:m<n)(h:I m (upd J s (Q8 hp (J s))) (FW.Q9 hp (J s).refs)):Qml W F I n (ovr W J F) hp:=by
 have e:ovr W J F s=J s:=by rw[Q2e,if_pos hs]
 have hw:=Qaah (fr:=ovr W J F) (hp:=hp) s (by rw[e];exact hd)
 rw[e,Qx5 hs]at hw
 exact⟨_,_,m,hw,hl,h⟩
theorem Qvq{sk:List It}{x:SC}(hok:Qdk R sk)(W:List (Nat×Nat))(B:List Nat)(I:Nat->Fr->HP->Prop)(m0:Nat)(h0:I m0 fr hp)
  (h:∀m J hp,I m J hp->vc C R (.c x:: .el (Qml W (Qad B fr) I m)::sk) (ovr W J (Qad B fr)) hp):vc C R (.c (.loop x)::sk) fr hp:=by
 refine Qij (fun m fr' hp'=>∃J,fr'=ovr W J (Qad B fr)/\I m J hp') m0 (Qpz W B).wk ⟨fr,rfl,h0⟩ ?_
 rintro m _ hp' ⟨J,rfl,hI⟩
 refine Qfi hok.1 _ _ _ _ _ _ (Nat.le_refl _) (.c x (.el ?_ hok.2)) (Fle.refl _) (h m J hp' hI)
 rintro f f' hp2 hf ⟨J2,hp3,m2,e2,hl,h2⟩
 exact Qpt hl (hf.wk.trans e2) ⟨J2,rfl,h2⟩
abbrev dg(a:List Nat)(i:Nat):Nat:=a.getD i 0
theorem Qmm{a:List Nat}(h:Qj a)(i:Nat):dg a i<65536:=by
 by_cases hi:i<a.length
 ·rw[dg,Qbi hi];exact Qal h hi
 ·rw[dg,Qbj hi];omega
theorem Qgz(a:List Nat)(i:Nat):val (a.drop i)=dg a i+65536*val (a.drop (i+1)):=by
 by_cases hi:i<a.length
 ·rw[Qcv hi,dg,Qbi hi]
 ·rw[dg,Qbj hi,List.drop_of_length_le (by omega),List.drop_of_length_le (by omega)];rfl
theorem Qmn(a:List Nat)(i:Nat):val a=val (a.take i)+65536^i*val (a.drop i):=by
 by_cases hi:i<=a.length
 ·exact Qds a i hi
 ·rw[List.take_of_length_le (by omega),List.drop_of_length_le (by omega)];simp[val]
theorem Qvr{a:List Nat}(h:Qj a)(i:Nat):val (a.take i)<65536^i:=by
 by_cases hi:i<=a.length
 ·exact Qd2 h i hi
 ·rw[List.take_of_length_le (by omega)]
  exact Nat.lt_of_lt_of_le (Qfg h) (Nat.pow_le_pow_right (by omega) (by omega))
theorem Qlq(a:List Nat)(i:Nat):val (a.take (i+1))=val (a.take i)+65536^i*dg a i:=by
 by_cases hi:i<a.length
 ·rw[Qfh hi,dg,Qbi hi]
 ·rw[dg,Qbj hi,List.take_of_length_le (by omega),List.take_of_length_le (by omega)];simp
theorem Qpe{a b:List Nat}(ha:Qj a){i:Nat}(h:val (a.drop i)<val (b.drop i)):val a<val b:=by
 rw[Qmn a i,Qmn b i]
 have h1:=Qvr ha i
 have:65536^i*(val (a.drop i)+1)<=65536^i*val (b.drop i):=Nat.mul_le_mul_left _ h
 rw[Nat.mul_add]at this
 omega
theorem Qyc{l:List Nat}{j v:Nat}(h:j<l.length):val (l.set j v)+65536^j*l[j]=val l+65536^j*v:=by
 have e:l.set j v=l.take j++v::l.drop (j+1):=List.set_eq_take_append_cons_drop.trans (by rw[if_pos h])
 have e2:=Qds l j (by omega)
 rw[Qcv h]at e2
 rw[e,Qcc,List.length_take,Nat.min_eq_left (by omega),val,e2,Nat.mul_add,Nat.mul_add]
 omega
theorem Qmo(l:List Nat)(x:Nat):val (l++[x])=val l+65536^l.length*x:=by rw[Qcc];simp[val]
theorem Qzs{l:List Nat}{j:Nat}(h:val (l.drop j)=0):dg l j=0:=by
 have:=Qgz l j;omega
theorem Qaex{bt:Bool}{n d:Nat}:Qa4 .rem bt (.int .u64 (n:Int)) (.int .u64 65536) d fr hp K=K (upd fr d (.int .u64 ((n%65536:Nat):Int))) hp:=by
 rw[show(65536:Int)=((65536:Nat):Int)from rfl,Qd5 (by omega)]
theorem Qaey{bt:Bool}{n d:Nat}(h:n<18446744073709551616):Qa4 .quo bt (.int .u64 (n:Int)) (.int .u64 65536) d fr hp K=K (upd fr d (.int .u64 ((n/65536:Nat):Int))) hp:=by
 rw[show(65536:Int)=((65536:Nat):Int)from rfl,Qi5 (by omega) h]
theorem Qaai{bt:Bool}{n d:Nat}:Qa4 .rem bt (.int .i64 (n:Int)) (.int .i64 65536) d fr hp K=K (upd fr d (.int .i64 ((n%65536:Nat):Int))) hp:=by
 rw[show(65536:Int)=((65536:Nat):Int)from rfl,Qd5 (by omega)]
theorem Qaaj{bt:Bool}{n d:Nat}(h:n<9223372036854775808):Qa4 .quo bt (.int .i64 (n:Int)) (.int .i64 65536) d fr hp K=K (upd fr d (.int .i64 ((n/65536:Nat):Int))) hp:=by
 rw[show(65536:Int)=((65536:Nat):Int)from rfl,Qx4 (by omega) h]
theorem Qaez(n:Nat):(n:Int)*65536=((n*65536:Nat):Int):=by omega
end Go.FW
namespace Go.FW
theorem Qs8{P x y V ai c q r M S T:Nat}(h1:S+P*x=M+P*r)(h2:M+P*(c+ai*(y+65536*V))=T)(h3:65536*q+r=x+ai*y+c):S+P*65536*(q+ai*V)=T:=by
 have e:P*(65536*q+r)=P*(x+ai*y+c):=by rw[h3]
 have a1:P*(c+ai*(y+65536*V))=P*c+P*(ai*y)+65536*(P*(ai*V)):=by
  rw[Nat.mul_add ai,Nat.mul_add,Nat.mul_add,Nat.mul_left_comm ai 65536,Nat.mul_left_comm P 65536];omega
 have a2:P*65536*(q+ai*V)=65536*(P*q)+65536*(P*(ai*V)):=by
  rw[Nat.mul_comm P,Nat.mul_assoc,Nat.mul_add,Nat.mul_add]
 have a3:P*(65536*q+r)=65536*(P*q)+P*r:=by rw[Nat.mul_add,Nat.mul_left_comm]
 have a4:P*(x+ai*y+c)=P*x+P*(ai*y)+P*c:=by rw[Nat.mul_add,Nat.mul_add]
 omega
theorem Qs9{l:List Nat}{i j v:Nat}(h:i≠j):dg (l.set i v) j=dg l j:=by
 simp[dg,List.getD_eq_getElem?_getD,List.getElem?_set_ne h]
open Go
variable {C : Ctx} {ρ : Nat -> Option Nat} {fr : Fr} {hp : HP} {w : World} {K R : Qf}
theorem Qq5{x V d q:Nat}(hd:0<d)(h:q=V/d):(V%d*65536+x)/d+65536*q=(x+65536*V)/d/\(V%d*65536+x)%d=(x+65536*V)%d:=by
 subst h
 have e:x+65536*V=(V%d*65536+x)+d*(65536*(V/d)):=by
  have:=Nat.div_add_mod V d
  calc x+65536*V=x+65536*(d*(V/d)+V%d):=by rw[this]
   _=_:=by rw[Nat.mul_add,Nat.mul_left_comm];omega
 rw[e,Nat.add_mul_div_left _ _ hd,Nat.add_mul_mod_self_left]
 exact⟨rfl,rfl⟩
theorem Qaak(i e:Nat)(hi:fr i= .nilS):Wk fr hp (upd fr i (.sl e [])) hp:=by
 rintro C tmps w ⟨ρ,hs⟩
 refine⟨ρ,hs.sz,hs.ext,hs.keep,hs.own,hs.inj,fun j=> ?_⟩
 unfold upd
 split
 ·rename_i hj;subst hj
  have:=hs.slots j
  rw[hi]at this
  rw[Qm.nil_inv this]
  exact Q2.slE _ _ _ (Nat.zero_le _)
 ·exact hs.slots j
theorem Qoq{sk:List It}{x:SC}(i e:Nat)(hi:fr i= .nilS)(h:vc C R (.c (.loop x)::sk) (upd fr i (.sl e [])) hp):vc C R (.c (.loop x)::sk) fr hp:=by
 rw[Qf7]at h⊢
 obtain⟨I,μ,⟨fr0,hp0,h1,h1'⟩,h2⟩:=h
 exact⟨I,μ,⟨fr0,hp0,(Qaak i e hi).trans h1,h1'⟩,h2⟩
end Go.FW
namespace Go.FW
open Go Go.ChangeShapes Go.WideShapes
section
variable {H : Type} {enc : TypeId × Value -> H} {P : Program} {w : World} {base : Nat} {spare : Nat -> Bool} {held : Bool}
structure Qzt(Qbt:DataW H->Nat):Prop where
 len:∀(elems spare:List (DataW H)),elems.length<=Qbt (.slice elems spare)
 sl:∀(elems spare:List (DataW H))(d:DataW H),d∈elems->Qbt d<=Qbt (.slice elems spare)
 ag:∀(parts:List (DataW H))(d:DataW H),d∈parts->Qbt d<=Qbt (.agg parts)
def Qec(enc:TypeId×Value->H)(P:Program)(Qbt:DataW H->Nat)(N:Nat)(t:TypeId)(Q:List PV->Prop):Prop:=
 ∀(w:World)(base:Nat)(spare:Nat->Bool)(held:Bool)(fuel:Nat)(cs:List Value)(x:DataW H×List MemPlace),DataW.trod enc P w base spare held fuel t cs=some x->Qbt x.1<=N->
  ∃ps,Q ps/\ps.length=cs.length/\∀(i:Nat)(p:PV),ps[i]? =some p->Q2 w Qbd p (cs.getD i undef)
variable {Qbt : DataW H -> Nat} {N : Nat}
theorem Qmp{w:World}{p:PV}{v:Value}(h:Q2 w Qbd p v):∀(i:Nat)(q:PV),[p][i]? =some q->Q2 w Qbd q ([v].getD i undef):=by
 intro i q hq
 match i,hq with
 |0,hq=>simp at hq;subst hq;exact h
 |i+1,hq=>simp at hq
theorem Qec.mono{t:TypeId}{Q Q':List PV->Prop}(h:Qec enc P Qbt N t Q)(hQ:∀ps,Q ps->Q' ps):Qec enc P Qbt N t Q':=
 fun w base spare held fuel cs x hx hn=>let⟨ps,h1,h2,h3⟩:=h w base spare held fuel cs x hx hn;⟨ps,hQ ps h1,h2,h3⟩
theorem Qta{t:TypeId}{k:IntKind}(ht:P.underlying t=some (.int k)):Qec enc P Qbt N t fun ps=>∃n,ps=[.int k n]/\(Lit.int k n).wf=true:=by
 intro w base spare held fuel cs x hx _
 obtain⟨n,rfl,rfl,hw⟩:=DataW.trod_int ht hx
 exact⟨_,⟨n,rfl,hw⟩,rfl,Qmp (.int k n)⟩
theorem Qzu{t:TypeId}(ht:P.underlying t=some .bool):Qec enc P Qbt N t fun ps=>∃b,ps=[.bool b]:=by
 intro w base spare held fuel cs x hx _
 obtain⟨b,rfl,rfl⟩:=DataW.trod_bool ht hx
 exact⟨_,⟨b,rfl⟩,rfl,Qmp (.bool b)⟩
theorem Q2s{t:TypeId}(ht:P.underlying t=some (.int .u16)):Qec enc P Qbt N t fun ps=>∃n:Nat,ps=[.int .u16 n]/\n<65536:=by
 refine(Qta ht).mono ?_
 rintro ps ⟨n,rfl,hw⟩
 simp[Lit.wf,IntKind.min,IntKind.max,IntKind.signed,IntKind.bits]at hw
 obtain⟨m,rfl⟩:=Int.eq_ofNat_of_zero_le hw.1
 exact⟨m,rfl,by omega⟩
theorem Qtb{t:TypeId}(ht:P.underlying t=some (.int .i64)):Qec enc P Qbt N t fun ps=>∃n:Int,ps=[.int .i64 n]/\ -9223372036854775808<=n/\n<=9223372036854775807:=by
 refine(Qta ht).mono ?_
 rintro ps ⟨n,rfl,hw⟩
 simp[Lit.wf,IntKind.min,IntKind.max,IntKind.signed,IntKind.bits]at hw
 exact⟨n,rfl,by omega⟩
theorem Qpf{α:Type}[Inhabited α]{f:α->PV}{G:α->Prop}{t e:TypeId}(hB:Qzt Qbt)(ht:P.underlying t=some (.slice e))(hpos:0<P.cellsOf e)
  (he:Qec enc P Qbt N e fun ps=>∃a:α,ps=(f a).cells/\G a):Qec enc P Qbt N t fun ps=>∃l:List α,ps=[.sl (P.cellsOf e) (l.map f)]/\l.length<=N/\∀a∈l,G a:=by
 intro w base spare held fuel cs x hx hn
 rcases Deep.open_slice ht hx with⟨rfl,rfl⟩|⟨a,len,cap,m,n,D,Pl,rfl,_,hl,hm,hmm,rfl,hall⟩
 ·exact⟨_,⟨[],rfl,Nat.zero_le _,fun _ h=>by cases h⟩,rfl,Qmp (.slE _ none 0 (Nat.zero_le _))⟩
 have hlm:len<=m:=by rw[hmm];split<;>omega
 obtain⟨A,hA⟩:=Deep.choose_lt (α:=α×List Value) (n:=len) (p:=fun i y=>w.cells? base (a.add (i*P.cellsOf e)) (P.cellsOf e)=some y.2/\G y.1/\(f y.1).cells.length=y.2.length/\∀(j:Nat)(p:PV),(f y.1).cells[j]? =some p->Q2 w Qbd p (y.2.getD j undef)) (fun i hi=>by
  obtain⟨cs',h1,h2⟩:=hall i (by omega)
  have hd:D i∈(List.range len).map D:=List.mem_map_of_mem (List.mem_range.2 hi)
  obtain⟨_,⟨b,rfl,hG⟩,h3,h4⟩:=he w base spare held n cs' _ h2 (Nat.le_trans (hB.sl _ _ _ hd) hn)
  exact⟨(b,cs'),h1,hG,h3,h4⟩)
 have hlen:=hB.len ((List.range len).map D) ((List.range (m-len)).map fun j=>D (len+j))
 simp only[List.length_map,List.length_range]at hlen hn
 refine⟨_,⟨(List.range len).map fun i=>(A i).1,rfl,by simp;omega,fun b hb=> ?_⟩,rfl,Qmp ?_⟩
 ·obtain⟨i,hi,rfl⟩:=List.mem_map.1 hb
  exact(hA i (List.mem_range.1 hi)).2.1
 ·rcases Nat.eq_zero_or_pos len with rfl|hp
  ·exact .slE _ _ _ hm
  have sp:a.spot=none:=by
   obtain⟨_,h2,h3⟩:=World.cells?_some (hA 0 hp).1
   have h4:=h3 0 hpos
   rw[List.getElem?_eq_getElem (by omega)]at h4
   simpa[Addr.add]using World.cell?_spot h4
  obtain⟨b,off,spot⟩:=a
  have sp':spot=none:=sp
  subst sp'
  have hcell:∀i,i<len->∀j,j<P.cellsOf e->w.cell? ⟨b,off+i*P.cellsOf e+j,none⟩=some ((A i).2.getD j undef):=fun i hi j hj=>by
   obtain⟨_,h2,h3⟩:=World.cells?_some (hA i hi).1
   have h4:=h3 j hj
   rw[List.getElem?_eq_getElem (by omega),add_plain,add_plain]at h4
   rw[h4];simp[List.getD_eq_getElem?_getD,List.getElem?_eq_getElem (show j<(A i).2.length by omega)]
  have e1:((List.range len).map fun i=>(A i).1).map f=(List.range len).map fun i=>f (A i).1:=by simp
  have e2:((List.range len).map fun i=>f (A i).1).length=len:=by simp
  have get:∀(i:Nat)(x:PV),((List.range len).map fun i=>f (A i).1)[i]? =some x->i<len/\x=f (A i).1:=fun i x hx=>by
   obtain⟨hi,h⟩:=List.getElem?_eq_some_iff.1 hx
   rw[e2]at hi
   exact⟨hi,by simpa using h.symm⟩
  rw[e1]
  have:=Q2.sl (w:=w) (X:=Qbd) (P.cellsOf e) ((List.range len).map fun i=>f (A i).1) b off cap (fun i j=>(A i).2.getD j undef) (fun h=>h) (Qyw (hcell 0 hp 0 hpos)) (by rw[e2];exact hl) hm
   (fun i x hx=>by
    obtain⟨hi,rfl⟩:=get i x hx
    rw[(hA i hi).2.2.1];exact(World.cells?_some (hA i hi).1).2.1)
   (fun i hi j hj=>hcell i (by rwa[e2]at hi) j hj)
   (fun i x hx j y hy=>by
    obtain⟨hi,rfl⟩:=get i x hx
    exact(hA i hi).2.2.2 j y hy)
  rwa[e2]at this
theorem Qna{t:TypeId}{f0 f1:Field}{Q0 Q1:List PV->Prop}(hB:Qzt Qbt)(ht:P.underlying t=some (.struct #[f0,f1]))(h0:f0.offset=0)(h1:f1.offset=P.cellsOf f0.type)(hc:P.cellsOf t=P.cellsOf f0.type+P.cellsOf f1.type)
  (r0:Qec enc P Qbt N f0.type Q0) (r1:Qec enc P Qbt N f1.type Q1):Qec enc P Qbt N t fun ps=>∃p q,ps=p++q/\Q0 p/\Q1 q:=by
 intro w base spare held fuel cs x hx hn
 obtain⟨y0,y1,n,rfl,hl,g0,g1⟩:=trod_struct2 ht hx
 obtain⟨p,hp,hp2,hp3⟩:=r0 _ _ _ _ _ _ _ g0 (Nat.le_trans (hB.ag _ _ (by simp)) hn)
 obtain⟨q,hq,hq2,hq3⟩:=r1 _ _ _ _ _ _ _ g1 (Nat.le_trans (hB.ag _ _ (by simp)) hn)
 rw[h0]at hp2 hp3
 rw[h1]at hq2 hq3
 simp only[List.drop_zero,List.length_take,List.length_drop]at hp2 hq2
 have lp:p.length=P.cellsOf f0.type:=by omega
 have lq:q.length=P.cellsOf f1.type:=by omega
 refine⟨_,⟨p,q,rfl,hp,hq⟩,by rw[List.length_append];omega,fun i v hv=> ?_⟩
 by_cases hi:i<p.length
 ·rw[List.getElem?_append_left hi]at hv
  have:=hp3 i v hv
  rw[List.drop_zero,List.getD_eq_getElem?_getD,List.getElem?_take,if_pos (by omega)]at this
  rw[List.getD_eq_getElem?_getD];exact this
 ·rw[List.getElem?_append_right (by omega)]at hv
  have:=hq3 _ v hv
  have hi2:i-p.length<q.length:=(List.getElem?_eq_some_iff.1 hv).1
  rw[List.getD_eq_getElem?_getD,List.getElem?_take,if_pos (by omega),List.getElem?_drop,show P.cellsOf f0.type+(i-p.length)=i by omega]at this
  rw[List.getD_eq_getElem?_getD];exact this
theorem Qaal{r:Reach}{b0:Nat}{t:TypeId}{v:Value}{d:DataW H}{ps:List MemPlace}{Q:List PV->Prop}(hr:Qec enc P Qbt N t Q)(hd:DataW.Trod enc P w base spare held t v d ps)(hn:Qbt d<=N)
  (hv:v.cells= #[v]):∃p,Q [p]/\Qag w Qbd p v:=by
 obtain⟨fuel,hf⟩:=hd
 obtain⟨qs,h1,h2,h3⟩:=hr _ _ _ _ _ _ _ hf hn
 rw[hv]at h2 h3
 match qs,h2 with
 | [p],_=>exact⟨p,h1,Qag.of_c (by simpa using h3 0 p rfl)⟩
theorem Q2t{r:Reach}{b0:Nat}{t e:TypeId}{v:Value}{d:DataW H}{ps:List MemPlace}{Q:List PV->Prop}(ht:P.underlying t=some (.slice e))(Qc5:Value.okWide P w r b0 t v)(hr:Qec enc P Qbt N t Q)(hd:DataW.Trod enc P w base spare held t v d ps)(hn:Qbt d<=N):
  ∃p,Q [p]/\Qag w Qbd p v:=by
 obtain⟨a,len,cap,rfl⟩:=okWide_slice ht Qc5
 exact Qaal (r:=r) (b0:=b0) hr hd hn rfl
theorem Qzv{r:Reach}{b0:Nat}{t:TypeId}{fs:Array Field}{v:Value}{d:DataW H}{ps:List MemPlace}{Q:List PV->Prop}(ht:P.underlying t=some (.struct fs))(Qc5:Value.okWide P w r b0 t v)(hr:Qec enc P Qbt N t Q)(hd:DataW.Trod enc P w base spare held t v d ps)(hn:Qbt d<=N):
  ∃p,Q p/\Qag w Qbd (.agg p) v:=by
 obtain⟨vs,rfl,_⟩:=okWide_struct ht Qc5
 obtain⟨fuel,hf⟩:=hd
 obtain⟨qs,h1,h2,h3⟩:=hr _ _ _ _ _ _ _ hf hn
 refine⟨qs,h1,vs,rfl,by simpa[Value.cells]using h2.symm,fun i x hx=> ?_⟩
 have:=h3 i x hx
 simpa[Value.cells,List.getD_eq_getElem?_getD,Array.getD_eq_getD_getElem?]using this
theorem Ext.sameAt{W W':World}(h:Ext Qbd W W'){p:MemPlace}(hp:p.block<W.heap.size):W.sameAt W' p:=by
 cases p with
 |cell b off=>exact Qen (h.block b hp (fun h=>h))
 |map b=>exact h.block b hp (fun h=>h)
theorem Ext.keptBut{W W':World}(h:Ext Qbd W W')(may:MemPlace->Prop):W.keptBut W' may:=by
 refine⟨h.os,h.output,fun i hi=> ?_⟩
 rw[h.block i hi (fun h=>h)]
 cases hh:W.heap[i]? with
 |none=>rfl
 |some o=>cases o with
  |cells c t fr=>exact⟨rfl,rfl,rfl,fun _ _=>rfl⟩
  |map es clock=>exact Or.inr ⟨rfl,rfl⟩
  |_=>rfl
theorem Ext.frozen{W W':World}(h:Ext Qbd W W'){a:Addr}(ha:a.block<W.heap.size):W'.frozen? a=W.frozen? a:=by
 unfold World.frozen?
 rw[h.block _ ha (fun h=>h)]
theorem Qtc(hl:laidOutB P=true)(hm:mapsRowed P=true)(hsz:∀ {t e:TypeId},t<P.types.size->P.underlying t=some (.slice e)->0<P.cellsOf e){W W':World}(hx:Ext Qbd W W')(sp:Nat->Bool):
  ∀ {ts:List TypeId} {vs:List Value} {ds:List (DataW H)} {ps:List MemPlace},(∀t∈ts,t<P.types.size)->DataW.TrodAll enc P W 0 (fun _=>true) true ts vs ds ps->(∀p∈ps,sp p.block=true)->DataW.TrodAll enc P W' 0 sp true ts vs ds ps
 | [],_,_,_,_,h,_=>by
  obtain⟨rfl,rfl,rfl⟩:=trodAll_nil h
  rfl
 |t::ts,_,_,_,hts,h,hs=>by
  obtain⟨v,vs,d,ds,p,q,rfl,rfl,rfl,⟨fuel,h1⟩,h2⟩:=trodAll_cons h
  refine⟨p,q,⟨fuel,?_⟩,Qtc hl hm hsz hx sp (fun t ht=>hts t (by simp[ht])) h2 (fun x hx'=>hs x (by simp[hx'])),rfl⟩
  exact DataW.trod_stays (kids_rows hl hm) hsz (fun h=>by cases h) (hts t (by simp)) h1 (fun x hx'=>hx.sameAt (DataW.trod_lt _ _ _ _ h1 x hx')) (fun x hx'=>hs x (by simp[hx']))
theorem Qvs{f:FuncId}{fn:Func}{s:ChangeSpec}{ap fresh handsOn Qof:Bool}{W:World}{args:Array Value}{ds gs:List (DataW H)}{before:List MemPlace}{pargs:List PV}{tb:TypeId}
  (hW:DataW.Whole enc P fn.params.toList s.vars ap W args.toList ds gs before) (hvars:s.vars=[]) (hres:fn.resultTypes= #[tb]) (htb:P.underlying tb=some .bool)
  (hl:laidOutB P=true) (hm:mapsRowed P=true) (hsz:∀ {t e:TypeId},t<P.types.size->P.underlying t=some (.slice e)->0<P.cellsOf e) (hpar:∀t∈fn.params.toList,t<P.types.size)
  (hfn:s.fn H (ds++gs)={ results:=[.lit (.bool true)],args:=ds })
  (hF:Qd P f pargs (· = .bool true)) (hsize:args.size=pargs.length) (hrep:∀(i:Nat)(x:PV),pargs[i]? =some x->Qag W Qbd x (args.getD i undef)):
  Calls P f args W fun e W'=>∃v,e= .returned v/\s.post enc P fn ap fresh handsOn Qof W args v W':=by
 refine(hF.2 W Qbd args (fun _ h=>h.elim) hsize hrep).mono ?_
 rintro e W' ⟨v,r,rfl,hx,hr,rfl⟩
 have hv:v= .bool true:=by cases hr;rfl
 subst hv
 refine⟨_,rfl,?_⟩
 have hW':=hW
 obtain⟨p,q,hA,hV,rfl,hz,hn⟩:=hW
 rw[hvars]at hV
 obtain⟨rfl,rfl⟩:=trodVars_none hV
 simp only[List.append_nil]at hW' hz hn
 have hlt:∀x∈p,x.block<W.heap.size:=fun x hx'=>by simpa using hW'.lt x hx'
 have hA':∀sp:Nat->Bool,(∀x∈p,sp x.block=true)->DataW.TrodAll enc P W' 0 sp true fn.params.toList args.toList ds p:=fun sp hs=>Qtc hl hm hsz hx sp hpar hA hs
 have hR:∀(b:Nat)(sp:Nat->Bool)(hd:Bool),DataW.TrodAll enc P W' b sp hd fn.resultTypes.toList ((Value.bool true).resultList fn.resultTypes.size) [.lit (.bool true)] []:=fun b sp hd=>by
  rw[hres]
  exact trodAll_mk1 ⟨1,by simp[DataW.trod,Value.cells,htb]⟩
 have hold:∀x∈p,(fun b=>decide (b<W.heap.size)) x.block=true:=fun x hx'=>by simpa using hlt x hx'
 refine⟨ds,[],p,[],p,[],hW',?_,?_,?_,hx.keptBut _,fun _=>⟨?_,?_⟩⟩
 ·rw[hfn];exact hR _ _ _
 ·rw[hfn];simpa using hA' _ hold
 ·rw[hfn,hvars];rfl
 ·exact RowKit.ok_one hres rfl (RowKit.okWide_bool_mk htb _)
 ·refine⟨[.lit (.bool true)]++ds,[],p,⟨[]++p,[],trodAll_append (hA' _ (fun _ _=>rfl)) (hR _ _ _),?_,by simp,?_,?_⟩,?_⟩
  ·rw[hvars];rfl
  ·intro b off hp
   rw[hx.frozen (hlt _ hp)]
   exact hz b off hp
  ·exact hn
  ·intro x hx' _
   exact hx'
end
end Go.FW
namespace Go.FW
open Go
attribute [go_sem ↓] vcs ops1
attribute [go_sem] ops2 ops3 opsE Qaer Qaes Qaet Qaeu Q5y Q5z Qag8 Qag9 Qzl Q50 Q99 bld0 bld1 bld2 bld3 Q2l Qzm List.drop_succ_cons List.drop_zero List.take_succ_cons List.take_zero List.headD_cons List.cons_append List.nil_append Q2k gv_t gv_c Q51 Qaaa Qaab and_true List.length_cons List.length_nil Qaeg Qaeh Qaei B0 Q9v Q1s Q92 Q5u Q5v Q5w Q5x Q93 Qaea Qaeb Q5f Q94 Q95 Qag1 Qaec Qaed Qaee Q1w Qaef Qad6 bs1 bs2 Qad8 Q9z Q90 Q91 Qad9 Nat.add_zero Qjq Q1t Qnq Int.toNat_natCast Nat.zero_add Option.map_some Option.map_none Qag4 Qaen Qag7 true_and Q2e Q5m Q2f Qty Qbu Qnt Qmf Q96 Bool.and_true Bool.true_and Bool.and_false Bool.false_and decide_true decide_false List.contains_cons List.contains_nil Bool.or_false Bool.false_or Bool.or_true Bool.true_or List.any_cons List.any_nil Bool.false_eq_true SOp.dst Qgt Q44 Qe8 Qma Q9s Bool.not_true Bool.not_false List.length_map List.map_cons List.map_nil Qag6 Option.some.injEq Qfp List.getElem?_cons_zero List.getElem?_cons_succ Option.getD_some
attribute [go_sem] Qaex Qaey Qaai Qaaj Qaez Q59 Qahd Qw7 Qaew Qsd
end Go.FW
