/- Part 2 of the proof of SquaresGrams: FwP, FwQ, FwR, FwS, FwT, FwU, FwV, FwW, FwX, FwY, FwZ, FwBA, FwBB, FwBC, FwBD, FwBE, FwBF, FwBG, FwBH, FwCA, FwCB, FwCC, FwCD, FwCE, FwCF, FwCG, FwCH, FwCI, FwCJ, FwCK, FwCL, FwMA, FwMB, FwMC, FwPA, FwPB, FwPC, FwSA, FwSB, FwSC, FwTA, FwSet. Own lemmas; no conditions. -/
import Derived.Test.YtkoclfmjlolkhaaGreatSquaresGramsPart1
import Derived.LoopN
import Derived.ChangeSame
import Derived.ChangeStays
import Derived.Deep.Slices
import Derived.OpenShut
import Derived.RowKit
import Derived.ProofKit
import Derived.JoinedCond
set_option linter.unusedSimpArgs false
set_option linter.unusedVariables false
set_option linter.unnecessarySimpa false
set_option maxRecDepth 100000
namespace Go.FW
open Go
variable {C : Ctx} {ρ : Nat -> Option Nat} {fr : Fr} {hp : HP} {w : World} {a : Act} {K R : Qp}
structure Link(C:Ctx)(R:Qp)(sk:List It)(Q:Exit->Act->World->Prop):Prop where
 nrm:Q5g C (vc C R sk) Q
 ext:∀id sk',FW.Qat id sk=some sk'->∀fr hp (a:Act) w,a.defers=[]->Sim C fr hp a.tmps w->vc C R sk' fr hp->Q (.exit id) a w
 ret:∀fr hp (a:Act) w,a.defers=[]->Sim C fr hp a.tmps w->R fr hp->Q .ret a w
theorem Qt1{sk:List It}{x y:SC}:vc C R (.c (.seq x y)::sk) fr hp=vc C R (.c x:: .c y::sk) fr hp:=by rw[vc]
theorem Qn5{sk:List It}{id:Nat}{x:SC}:vc C R (.c (.block id x)::sk) fr hp=vc C R (.c x:: .eb id::sk) fr hp:=by rw[vc]
theorem Qq7{sk:List It}:vc C R (.c .skip::sk) fr hp=vc C R sk fr hp:=by rw[vc]
theorem Q5h{sk:List It}{r:RT}:vc C R (.c (.rg r)::sk) fr hp=vc C R (.o r::sk) fr hp:=by rw[vc]
theorem Qyq{sk:List It}{id:Nat}:vc C R (.eb id::sk) fr hp=vc C R sk fr hp:=by rw[vc]
theorem Qn6{sk:List It}{J:Qp}:vc C R (.el J::sk) fr hp=J fr hp:=by rw[vc]
theorem Qt2{sk:List It}:vc C R (.c .ret::sk) fr hp=R fr hp:=by rw[vc]
theorem Qj6:vc C R [] fr hp=R fr hp:=by rw[vc]
def Qkx(c:PV)(A B:Prop):Prop:=match c with
 | .bool t=>(t=true->A)/\(t=false->B)
 |_=>False
theorem Qq8{sk:List It}{c:Opd}{x y:SC}:vc C R (.c (.cond c x y)::sk) fr hp=Qkx (ev fr c) (vc C R (.c x::sk) fr hp) (vc C R (.c y::sk) fr hp):=by rw[vc];rfl
def Qn7(C:Ctx)(R:Qp)(sk:Option (List It))(fr:Fr)(hp:HP):Prop:=match sk with
 |some sk=>vc C R sk fr hp
 |none=>False
theorem Qq9{sk:List It}{id:Nat}:vc C R (.c (.exit id)::sk) fr hp=Qn7 C R (FW.Qat id sk) fr hp:=by
 rw[vc]
 unfold Qn7
 split
 ·rename_i h;rw[h]
 ·rename_i h;rw[h]
theorem Qg7{sk:List It}{x:SC}:vc C R (.c (.loop x)::sk) fr hp=∃(I:Qp)(μ:Fr->HP->Nat),(∃fr0 hp0,Wk fr hp fr0 hp0/\I fr0 hp0)/\∀fr hp,I fr hp->vc C R (.c x:: .el (fun fr' hp'=>∃fr0 hp0,Wk fr' hp' fr0 hp0/\I fr0 hp0/\μ fr0 hp0<μ fr hp)::sk) fr hp:=by rw[vc]
theorem Wk.refl(fr:Fr)(hp:HP):Wk fr hp fr hp:=fun _ _ _ h=>h
theorem Wk.trans{fr1 fr2 fr3:Fr}{hp1 hp2 hp3:HP}(h:Wk fr1 hp1 fr2 hp2)(k:Wk fr2 hp2 fr3 hp3):Wk fr1 hp1 fr3 hp3:=fun C t w hs=>k C t w (h C t w hs)
def Qra(I:Qp)(μ:Fr->HP->Nat)(n:Nat):Qp:=fun fr' hp'=>∃fr0 hp0,Wk fr' hp' fr0 hp0/\I fr0 hp0/\μ fr0 hp0<n
theorem Qabt{sk:List It}{x:SC}(I:Qp)(μ:Fr->HP->Nat){fr0:Fr}{hp0:HP}(hw:Wk fr hp fr0 hp0)(h0:I fr0 hp0)(h:∀fr hp,I fr hp->vc C R (.c x:: .el (Qra I μ (μ fr hp))::sk) fr hp):vc C R (.c (.loop x)::sk) fr hp:=by
 rw[Qg7];exact⟨I,μ,⟨fr0,hp0,hw,h0⟩,h⟩
theorem Q5i{s:SC}(h:s.strip= .skip):s= .skip:=by cases s<;>simp[SC.strip]at h⊢
theorem Q7z{s:SC}(h:s.strip= .ret):s= .ret:=by cases s<;>simp[SC.strip]at h⊢
theorem Q5j{s:SC}{id:Nat}(h:s.strip= .exit id):s= .exit id:=by cases s<;>simp[SC.strip]at h ⊢;exact h
theorem Q70{s:SC}{id:Nat}{ops:Array Oper}(h:s.strip= .raw id ops):s= .raw id ops:=by cases s<;>simp[SC.strip]at h ⊢;exact h
theorem Q71{s a b:SC}(h:s.strip= .seq a b):∃a' b',s= .seq a' b'/\a'.strip=a/\b'.strip=b:=by cases s<;>simp[SC.strip]at h;exact⟨_,_,rfl,h.1,h.2⟩
theorem Q5k{s a b:SC}{c:Opd}(h:s.strip= .cond c a b):∃a' b',s= .cond c a' b'/\a'.strip=a/\b'.strip=b:=by
 cases s with
 |cond c' a' b'=>simp only[SC.strip,SC.cond.injEq]at h;obtain⟨rfl,h1,h2⟩:=h;exact⟨a',b',rfl,h1,h2⟩
 |_=>simp[SC.strip]at h
theorem Q2l{s a:SC}{id:Nat}(h:s.strip= .block id a):∃a',s= .block id a'/\a'.strip=a:=by
 cases s with
 |block c' a'=>simp only[SC.strip,SC.block.injEq]at h;obtain⟨rfl,h1⟩:=h;exact⟨a',rfl,h1⟩
 |_=>simp[SC.strip]at h
theorem Q5l{s a:SC}(h:s.strip= .loop a):∃a',s= .loop a'/\a'.strip=a:=by
 cases s with
 |loop a'=>simp only[SC.strip,SC.loop.injEq]at h;exact⟨a',rfl,h⟩
 |_=>simp[SC.strip]at h
theorem Qm0(hm:C.P.follows .mixedOrders=true):∀(c:Code)(s:SC)(sk:List It)(Q:Exit->Act->World->Prop)(fr:Fr)(hp:HP)(a:Act)(w:World),
  Qbr C.P C.N c=some s.strip->Link C R sk Q->a.defers=[]->Sim C fr hp a.tmps w->vc C R (.c s::sk) fr hp->c.wp C.P Q a w:=by
 intro c
 induction c with
 |skip=>
  intro s sk Q fr hp a w hc hL hd hs hv
  simp only[Qbr,Option.some.injEq]at hc;obtain rfl:=Q5i hc.symm
  rw[Qq7]at hv
  exact wp_skip (hL.nrm fr hp a w hd hs hv)
 | region id ops draw=>
  intro s sk Q fr hp a w hc hL hd hs hv
  simp only[Qbr]at hc
  split at hc
  ·rename_i s' hs'
   rw[hc]at hs'
   exact Qze hm hL.nrm hs' hd hs hv
  ·split at hc
   ·rename_i hdr
    obtain rfl:=Q70 (Option.some.inj hc).symm
    have hdr':draw=true:=hdr
    subst hdr'
    rw[vc]at hv
    obtain⟨tmps,defers⟩:=a
    simp only at hd hs
    subst hd
    exact hv tmps w Q hs (fun fr' hp' tmps' w' hs' hv'=>hL.nrm fr' hp' _ w' rfl hs' hv')
   ·cases hc
 |seq x y ihx ihy=>
  intro s sk Q fr hp a w hc hL hd hs hv
  simp only[Qbr,Option.bind_eq_some_iff,Option.map_eq_some_iff]at hc
  obtain⟨sx,hx,sy,hy,he⟩:=hc
  obtain⟨sx,sy,rfl,rfl,rfl⟩:=Q71 he.symm
  rw[Qt1]at hv
  refine wp_seq (ihx sx (.c sy::sk) _ fr hp a w hx ⟨fun fr hp a w hd hs hv=> ?_,fun id sk' he fr hp a w hd hs hv=> ?_,fun fr hp a w hd hs hv=> ?_⟩ hd hs hv)
  ·exact ihy sy sk Q fr hp a w hy hL hd hs hv
  ·exact hL.ext id sk' (by simpa[FW.Qat]using he) fr hp a w hd hs hv
  ·exact hL.ret fr hp a w hd hs hv
 | cond c x y ihx ihy=>
  intro s sk Q fr hp a w hc hL hd hs hv
  simp only[Qbr,Option.bind_eq_some_iff,Option.map_eq_some_iff]at hc
  obtain⟨pc,hpc,sx,hx,sy,hy,he⟩:=hc
  obtain⟨sx,sy,rfl,rfl,rfl⟩:=Q5k he.symm
  rw[Qq8]at hv
  obtain⟨ρ,hsr⟩:=hs
  have hr:=Qa2 hsr hpc
  unfold Qkx at hv
  split at hv
  ·rename_i t ht
   rw[ht]at hr
   exact wp_cond_split hr.bool_inv (fun h=>ihx sx sk Q fr hp a w hx hL hd ⟨ρ,hsr⟩ (hv.1 h)) (fun h=>ihy sy sk Q fr hp a w hy hL hd ⟨ρ,hsr⟩ (hv.2 h))
  ·exact hv.elim
 | block id x ihx=>
  intro s sk Q fr hp a w hc hL hd hs hv
  simp only[Qbr,Option.map_eq_some_iff]at hc
  obtain⟨sx,hx,he⟩:=hc
  obtain⟨sx,rfl,rfl⟩:=Q2l he.symm
  rw[Qn5]at hv
  refine wp_block (ihx sx (.eb id::sk) _ fr hp a w hx ⟨fun fr hp a w hd hs hv=> ?_,fun id' sk' he fr hp a w hd hs hv=> ?_,fun fr hp a w hd hs hv=> ?_⟩ hd hs hv)
  ·rw[Qyq]at hv;exact hL.nrm fr hp a w hd hs hv
  ·simp only[FW.Qat]at he
   simp only[Exit.inBlock]
   by_cases hi:id=id'
   ·subst hi;simp only[if_true]at he ⊢;cases he;exact hL.nrm fr hp a w hd hs hv
   ·rw[if_neg hi]at he;rw[if_neg (fun e=>hi e.symm)];exact hL.ext id' sk' he fr hp a w hd hs hv
  ·exact hL.ret fr hp a w hd hs hv
 | loop x ihx=>
  intro s sk Q fr hp a w hc hL hd hs hv
  simp only[Qbr,Option.map_eq_some_iff]at hc
  obtain⟨sx,hx,he⟩:=hc
  obtain⟨sx,rfl,rfl⟩:=Q5l he.symm
  rw[Qg7]at hv
  obtain⟨I,μ,⟨fr0,hp0,hwk,h0⟩,hround⟩:=hv
  have key:∀(n:Nat)(fr:Fr)(hp:HP)(a:Act)(w:World),μ fr hp<n->I fr hp->a.defers=[]->Sim C fr hp a.tmps w->Code.rounds C.P x Q n a w:=by
   intro n
   induction n with
   |zero=>intro _ _ _ _ h;omega
   | succ n ih=>
    intro fr hp a w hlt hI hd hs
    rw[rounds_succ]
    refine ihx sx _ _ fr hp a w hx ⟨fun fr' hp' a' w' hd' hs' hv'=> ?_,fun id sk' he fr hp a w hd hs hv=> ?_,fun fr hp a w hd hs hv=> ?_⟩ hd hs (hround fr hp hI)
    ·rw[Qn6]at hv'
     obtain⟨fr2,hp2,hw2,hI2,hlt2⟩:=hv'
     exact ih fr2 hp2 a' w' (by omega) hI2 hd' (hw2 _ _ _ hs')
    ·exact hL.ext id sk' (by simpa[FW.Qat]using he) fr hp a w hd hs hv
    ·exact hL.ret fr hp a w hd hs hv
  exact wp_loop_rounds (μ fr0 hp0+1) (key _ fr0 hp0 a w (Nat.lt_succ_self _) h0 hd (hwk _ _ _ hs))
 | exit id=>
  intro s sk Q fr hp a w hc hL hd hs hv
  simp only[Qbr,Option.some.injEq]at hc;obtain rfl:=Q5j hc.symm
  rw[Qq9]at hv
  unfold Qn7 at hv
  split at hv
  ·rename_i sk' he
   exact wp_exit (hL.ext id sk' he fr hp a w hd hs hv)
  ·exact hv.elim
 |ret=>
  intro s sk Q fr hp a w hc hL hd hs hv
  simp only[Qbr,Option.some.injEq]at hc;obtain rfl:=Q7z hc.symm
  rw[Qt2]at hv
  exact wp_ret (hL.ret fr hp a w hd hs hv)
 |_=>intro s sk Q fr hp a w hc;simp[Qbr]at hc
theorem Qn8(hm:C.P.follows .mixedOrders=true)(c:Code)(s:SC)(sk:List It)(Q:Exit->Act->World->Prop)(fr:Fr)(hp:HP)(a:Act)(w:World)
  (hc:Qbr C.P C.N c=some s) (hL:Link C R sk Q) (hd:a.defers=[]) (hs:Sim C fr hp a.tmps w) (hv:vc C R (.c s::sk) fr hp):c.wp C.P Q a w:=
 Qm0 hm c s sk Q fr hp a w (by rw[Qpo _ _ hc];exact hc) hL hd hs hv
def PV.le1:PV->PV->Prop
 | .nilS,.sl _ []=>True
 |p,q=>p=q
def PV.leL:List PV->List PV->Prop
 | [],[]=>True
 |p::ps,q::qs=>PV.le1 p q/\PV.leL ps qs
 |_,_=>False
def PV.le:PV->PV->Prop
 | .agg ps,.agg qs=>PV.leL ps qs
 |p,q=>PV.le1 p q
def PV.leT:List PV->List PV->Prop
 | [],[]=>True
 |p::ps,q::qs=>PV.le p q/\PV.leT ps qs
 |_,_=>False
def PV.leR:PV->PV->Prop
 | .tup ps,.tup qs=>PV.leT ps qs
 |p,q=>PV.le p q
theorem Qn9(p:PV):PV.le1 p p:=by cases p<;>first|rfl|(unfold PV.le1;split<;>trivial)
theorem Qzf:∀(l:List PV),PV.leL l l
 | []=>trivial
 |p::ps=>⟨Qn9 p,Qzf ps⟩
theorem Qab(p:PV):PV.le p p:=by
 cases p<;>first|exact Qzf _|(simp only[PV.le];exact Qn9 _)
theorem Qzg:∀(l:List PV),PV.leT l l
 | []=>trivial
 |p::ps=>⟨Qab p,Qzg ps⟩
theorem Qabu(p:PV):PV.leR p p:=by
 cases p<;>first|exact Qzg _|(simp only[PV.leR];exact Qab _)
theorem Qae.le{X:Nat->Prop}{p q:PV}{v:Value}(h:Qae w X p v)(hl:PV.le1 p q):Qae w X q v:=by
 unfold PV.le1 at hl
 split at hl
 ·cases h;exact .slE _ _ _ (Nat.zero_le _)
 ·subst hl;exact h
theorem Q3y:∀(ps qs:List PV),PV.leL ps qs->qs.length=ps.length/\∀(i:Nat)(q:PV),qs[i]? =some q->∃p,ps[i]? =some p/\PV.le1 p q
 | [],[],_=>⟨rfl,by simp⟩
 | [],_::_,h=>h.elim
 |_::_,[],h=>h.elim
 |p::ps,q::qs,h=>by
  obtain⟨h1,h2⟩:=Q3y ps qs h.2
  refine⟨by simp[h1],fun i x hx=> ?_⟩
  cases i with
  |zero=>simp at hx;subst hx;exact⟨p,rfl,h.1⟩
  |succ i=>simp at hx;simpa using h2 i x hx
theorem Qvy:∀(ps qs:List PV),PV.leT ps qs->qs.length=ps.length/\∀(i:Nat)(q:PV),qs[i]? =some q->∃p,ps[i]? =some p/\PV.le p q
 | [],[],_=>⟨rfl,by simp⟩
 | [],_::_,h=>h.elim
 |_::_,[],h=>h.elim
 |p::ps,q::qs,h=>by
  obtain⟨h1,h2⟩:=Qvy ps qs h.2
  refine⟨by simp[h1],fun i x hx=> ?_⟩
  cases i with
  |zero=>simp at hx;subst hx;exact⟨p,rfl,h.1⟩
  |succ i=>simp at hx;simpa using h2 i x hx
theorem Qas.le{X:Nat->Prop}{p q:PV}{v:Value}(h:Qas w X p v)(hl:PV.le p q):Qas w X q v:=by
 by_cases hp:∃ps,p= .agg ps
 ·obtain⟨ps,rfl⟩:=hp
  by_cases hq:∃qs,q= .agg qs
  ·obtain⟨qs,rfl⟩:=hq
   obtain⟨h1,h2⟩:=Q3y ps qs hl
   obtain⟨vs,rfl,g1,g2⟩:=h
   refine⟨vs,rfl,by omega,fun i x hx=> ?_⟩
   obtain⟨p,hp,hle⟩:=h2 i x hx
   exact(g2 i p hp).le hle
  ·have:PV.le1 (.agg ps) q:=by
    cases q<;>first|exact hl|exact absurd ⟨_,rfl⟩ hq
   have:q= .agg ps:=by
    unfold PV.le1 at this
    split at this
    ·rename_i h1;cases h1
    ·exact this.symm
   exact absurd ⟨_,this⟩ hq
 ·have h1:Qae w X p v:=by
   cases p<;>first|exact h|exact absurd ⟨_,rfl⟩ hp
  have h2:PV.le1 p q:=by
   cases p<;>first|exact hl|exact absurd ⟨_,rfl⟩ hp
  exact Qas.of_c (h1.le h2)
theorem Qc4.le{X:Nat->Prop}{p q:PV}{v:Value}(h:Qc4 w X p v)(hl:PV.leR p q):Qc4 w X q v:=by
 by_cases hp:∃ps,p= .tup ps
 ·obtain⟨ps,rfl⟩:=hp
  by_cases hq:∃qs,q= .tup qs
  ·obtain⟨qs,rfl⟩:=hq
   obtain⟨h1,h2⟩:=Qvy ps qs hl
   obtain⟨vs,rfl,g1,g2⟩:=h
   refine⟨vs,rfl,by omega,fun i x hx=> ?_⟩
   obtain⟨p,hp,hle⟩:=h2 i x hx
   exact(g2 i p hp).le hle
  ·have:PV.le (.tup ps) q:=by
    cases q<;>first|exact hl|exact absurd ⟨_,rfl⟩ hq
   have:PV.le1 (.tup ps) q:=this
   have:q= .tup ps:=by
    unfold PV.le1 at this
    split at this
    ·rename_i h1;cases h1
    ·exact this.symm
   exact absurd ⟨_,this⟩ hq
 ·have h1:Qas w X p v:=by
   cases p<;>first|exact h|exact absurd ⟨_,rfl⟩ hp
  have h2:PV.le p q:=by
   cases p<;>first|exact hl|exact absurd ⟨_,rfl⟩ hp
  exact Qc4.of1 (h1.le h2)
def Qlt (P : Program) (f : FuncId) : Prop := (P.funcs[f]?).any (fun fn => fn.body.isSome && fn.name != "runtime.NumGoroutine") = true
def Qd(P:Program)(f:FuncId)(args:List PV)(R:PV->Prop):Prop:=
 Qlt P f/\∀(w:World)(X:Nat->Prop)(vals:Array Value),(∀b,X b->b<w.heap.size)->vals.size=args.length->(∀(i:Nat)(x:PV),args[i]? =some x->Qas w X x (vals.getD i undef))->
  Calls P f vals w fun e w'=>∃v r,e= .returned v/\Ext Qbs w w'/\Qc4 w' X r v/\R r
theorem Qd.le{P:Program}{f:FuncId}{args args':List PV}{R:PV->Prop}(h:Qd P f args R)(hl:PV.leT args' args):Qd P f args' R:=by
 obtain⟨h1,h2⟩:=Qvy _ _ hl
 refine⟨h.1,fun w X vals g1 g2 g3=>h.2 w X vals g1 (by omega) (fun i x hx=> ?_)⟩
 obtain⟨p,hp,hle⟩:=h2 i x hx
 exact(g3 i p hp).le hle
def Qgf(args:List PV):Fr:=fun i=>(args[i]?).getD .undef
def okR(fr:Fr)(hp:HP):RV->Prop
 | .t s=>(Qam hp (fr s)).isData=true
 | .cell s n ag=>match fr s with
  | .mp β i o=>match hp β with
   |some hb=>i<hb.xs.length/\o+n<=hb.e/\(ag=false->n=1)
   |none=>False
  |_=>False
def rvP(fr:Fr)(hp:HP):RV->PV
 | .t s=>Qam hp (fr s)
 | .cell s n ag=>match fr s with
  | .mp β i o=>match hp β with
   |some hb=>ldV ag n o ((hb.xs[i]?).getD .undef)
   |none=> .undef
  |_=> .undef
def Qdv(rs:List RV)(R:PV->Prop):Qp:=fun fr hp=>match rs with
 | [r]=>okR fr hp r/\∃p,PV.le (rvP fr hp r) p/\R p
 |rs=>(∀r∈rs,okR fr hp r)/\∃p,PV.leR (.tup (rs.map (rvP fr hp))) p/\R p
def Qlu(tmps:Array Value):ResultVar->Sem Value
 | .tmp t=>pure (tmps.getD t undef)
 | .cell x t=>do loadVar t (<-asAddr (tmps.getD x undef))
def lr(fr:Fr):RV->List Nat
 | .t s=>(fr s).refs
 | .cell _ _ _=>[]
theorem Qzh{l l':List Nat}(h:∀β∈l,β∈l'){b:Nat}(hx:Xof C ρ (Qaq hp l') b):Xof C ρ (Qaq hp l) b:=by
 rcases hx with hx|⟨γ,hg,h1,h2,h3⟩
 ·exact .inl hx
 ·obtain⟨hg0,g1,_,_,_,g5,g6⟩:=Qhm h1
  refine .inr ⟨γ,hg0,?_,by rw[<-g5 h2];exact h2,h3⟩
  have hn:γ ∉ l:=fun hl=>g6 h2 (h γ hl)
  unfold Qaq
  rw[if_neg (by simpa using hn)]
  exact g1
theorem Qt3:Qaq hp []=hp:=by funext β;simp[Qaq]
theorem Q5m{p:PV}(h:(Qam hp p).isData=true):∀β∈p.refs,isY β=false:=by
 have h1:∀q:PV,(Qbh hp q).notU=true->∀β∈q.ref1,isY β=false:=by
  intro q hq β hβ
  cases q with
  |mp γ i o=>simp only[PV.ref1,List.mem_singleton]at hβ;subst hβ;cases hy:isY β with
   |false=>rfl
   |true=>simp[Qbh,hy,PV.notU]at hq
  |mso γ o n=>simp only[PV.ref1,List.mem_singleton]at hβ;subst hβ;cases hy:isY β with
   |false=>rfl
   |true=>simp[Qbh,hy,PV.notU]at hq
  |rb=>simp[Qbh,PV.notU]at hq
  |_=>cases hβ
 intro β hβ
 cases p with
 |mp γ i o=>exact h1 (.mp γ i o) (by cases hq:Qbh hp (.mp γ i o)<;>simp_all[Qam,PV.isData,PV.notU]) β hβ
 |mso γ o n=>exact h1 (.mso γ o n) (by cases hq:Qbh hp (.mso γ o n)<;>simp_all[Qam,PV.isData,PV.notU]) β hβ
 |rb=>simp[Qam,Qbh,PV.isData]at h
 |fn f first cap=>
  simp only[Qam,PV.isData,Bool.and_eq_true,List.all_map,List.all_eq_true]at h
  rcases List.mem_append.1 hβ with hβ|hβ
  ·obtain⟨x,hx,hβ⟩:=List.mem_flatMap.1 hβ;exact h1 x (h.1 x hx) β hβ
  ·obtain⟨x,hx,hβ⟩:=List.mem_flatMap.1 hβ;exact h1 x (h.2 x hx) β hβ
 |_=>cases hβ
theorem Qark{rv:RV}(h:okR fr hp rv):∀β∈lr fr rv,isY β=false:=by
 cases rv with
 |t s=>exact Q5m h
 |cell=>intro β hβ;cases hβ
theorem Qabv{P:Program}(hP:C.P=P){r:ResultVar}{rv:RV}(hc:Qb1 P r=some rv)(h:Qah C ρ fr hp a.tmps w)(ho:okR fr hp rv):
  ∃v,(Qlu a.tmps r).run P w= .ok v w/\Qas w (Xof C ρ (Qaq hp (lr fr rv))) (rvP fr hp rv) v:=by
 subst hP
 cases r with
 |tmp t=>
  simp[Qb1]at hc;subst hc
  exact⟨_,rfl,Qfj h (h.slots t) (fun β hβ=>hβ) ho⟩
 | cell x t=>
  simp only[Qb1,Option.bind_eq_some_iff,Option.map_eq_some_iff]at hc
  obtain⟨n,hn,ag,hag,rfl⟩:=hc
  have hx:=h.slots x
  simp only[okR]at ho
  split at ho
  ·rename_i β i o hfx
   rw[hfx]at hx
   split at ho
   ·rename_i hb hβ
    obtain⟨h1,h2,h3⟩:=ho
    obtain⟨b,hb2,g1,g2,g3⟩:=hx.mp_inv
    rw[hβ]at g2;cases g2
    have hown:=h.own β hb hβ
    have hblk:=hown.blk
    rw[g1]at hblk
    obtain⟨_,hlt',cur,cap,c1,c2,c3,c4,c5⟩:=hblk
    have hxi:=List.getElem?_eq_getElem h1
    have hcl:=(hown.len i _ hxi).1
    have hcap:i<cap:=by omega
    have hin:∀j,j<n->i*hb.e+o+j<cur.size:=fun j hj=>by rw[c2];exact Qfs hcap h2 hj
    have hrun:=Qij (P:=C.P) (t:=t) (b:=b) (off:=i*hb.e+o) (vs:=Array.ofFn (n:=n) fun j=>cur.getD (i*hb.e+o+j.val) undef) hn hag h3 (by simp) w
     (fun j hj=>by rw[Qfu (f:=fun j=>cur.getD (i*hb.e+o+j) undef) hj];exact Qby c1 (hin j hj))
    obtain⟨V,hV⟩:∃V:Value,V=(if ag then .agg (Array.ofFn (n:=n) fun j=>cur.getD (i*hb.e+o+j.val) undef)else(Array.ofFn (n:=n) fun j=>cur.getD (i*hb.e+o+j.val) undef).getD 0 undef):=⟨_,rfl⟩
    rw[<-hV]at hrun
    refine⟨V,?_,?_⟩
    ·simp only[Qlu,g3,asAddr,Sem.run_bind,Sem.run_pure,Result.andThen_ok]
     exact hrun
    ·have:Qas w (Xof C ρ hp) (ldV ag n o (hb.xs[i]'h1)) (if ag then .agg (Array.ofFn (n:=n) fun j=>cur.getD (i*hb.e+o+j.val) undef)else(Array.ofFn (n:=n) fun j=>cur.getD (i*hb.e+o+j.val) undef).getD 0 undef):=
      Qnh (by simp) (by rw[hcl];exact h2) h3 (fun j y hj hy=>by
       rw[Qfu (f:=fun j=>cur.getD (i*hb.e+o+j) undef) hj,Nat.add_assoc]
       exact c5 i _ hxi (o+j) y hy)
     simp only[rvP,hfx,hβ,hxi,Option.getD_some]
     rw[hV]
     simp only[lr,Qt3];exact this
   ·exact ho.elim
  ·exact ho.elim
theorem Qwx{P:Program}(hP:C.P=P)(h:Qah C ρ fr hp a.tmps w):∀(rl:List ResultVar)(rs:List RV),rl.mapM (Qb1 P)=some rs->(∀r∈rs,okR fr hp r)->
  ∃vs:List Value,vs.length=rs.length/\(rl.mapM (Qlu a.tmps)).run P w= .ok vs w/\∀(i:Nat)(r:RV),rs[i]? =some r->∃v,vs[i]? =some v/\Qas w (Xof C ρ (Qaq hp (rs.flatMap (lr fr)))) (rvP fr hp r) v
 | [],rs,hc,_=>by simp at hc;subst hc;exact⟨[],rfl,by simp,by simp⟩
 | x::rl,rs,hc,ho=>by
  rw[List.mapM_cons]at hc
  simp only[Option.bind_eq_bind,Option.pure_def,Option.bind_eq_some_iff,Option.some.injEq]at hc
  obtain⟨r,hr,rs',hrs,rfl⟩:=hc
  obtain⟨v,h1,h2⟩:=Qabv hP hr h (ho r (by simp))
  obtain⟨vs,g1,g2,g3⟩:=Qwx hP h rl rs' hrs (fun q hq=>ho q (by simp[hq]))
  refine⟨v::vs,by simp[g1],by simp[List.mapM_cons,Sem.run_bind,h1,g2],fun i q hq=> ?_⟩
  cases i with
  |zero=>
   simp at hq;subst hq
   exact⟨v,rfl,h2.mono (fun _ _ _=>rfl) (fun _ _ hn hx=>hn (Qzh (fun β hβ=>by rw[List.flatMap_cons];exact List.mem_append_left _ hβ) hx)) (Nat.le_refl _)⟩
  |succ i=>
   simp at hq
   obtain⟨v',k1,k2⟩:=g3 i q hq
   exact⟨v',by simpa using k1,k2.mono (fun _ _ _=>rfl) (fun _ _ hn hx=>hn (Qzh (fun β hβ=>by rw[List.flatMap_cons];exact List.mem_append_right _ hβ) hx)) (Nat.le_refl _)⟩
theorem Qoa{P:Program}(hP:C.P=P){fn:Func}{rs:List RV}{Rr:PV->Prop}(hc:fn.results.toList.mapM (Qb1 P)=some rs)(h:Qah C ρ fr hp a.tmps w)(hr:Qdv rs Rr fr hp):
  ∃v r,(results fn a.tmps).run P w= .ok v w/\Qc4 w (Xof C ρ (Qaq hp (rs.flatMap (lr fr)))) r v/\(∀β∈rs.flatMap (lr fr),isY β=false)/\Rr r:=by
 have hall:(∀r∈rs,okR fr hp r):=by
  intro r hr'
  match rs,hr,hr' with
  | [r0],hr,hr'=>simp at hr';subst hr';exact hr.1
  | [],hr,hr'=>cases hr'
  |r0::r1::rest,hr,hr'=>exact hr.1 r hr'
 have hN:∀β∈rs.flatMap (lr fr),isY β=false:=fun β hβ=>by
  obtain⟨r,hr,hβ⟩:=List.mem_flatMap.1 hβ
  exact Qark (hall r hr) β hβ
 obtain⟨vs,hlen,hrun,hspec⟩:=Qwx hP h _ rs hc hall
 have hres:(results fn a.tmps).run P w= .ok (if h:vs.toArray.size=1 then vs.toArray[0]else .tuple vs.toArray) w:=by
  have e:results fn a.tmps=(do let vs<-fn.results.mapM (Qlu a.tmps);pure (if h:vs.size=1 then vs[0]else .tuple vs)):=rfl
  rw[e,Array.mapM_eq_mapM_toList]
  simp only[Sem.run_bind]
  have h2:(List.toArray<$>fn.results.toList.mapM (Qlu a.tmps):Sem (Array Value)).run P w= .ok vs.toArray w:=by simp[hrun]
  rw[h2]
  rfl
 match rs,hr,hlen,hspec,hN with
 | [r0],hr,hlen,hspec,hN=>
  have h1:vs.toArray.size=1:=by simpa using hlen
  rw[dif_pos h1]at hres
  obtain⟨v,h2,h3⟩:=hspec 0 r0 rfl
  have e:vs.toArray[0]=v:=by
   have:vs[0]? =some (vs.toArray[0]):=by simp[hlen]
   rw[h2]at this;exact(Option.some.inj this).symm
  rw[e]at hres
  obtain⟨_,p,hle,hRp⟩:=hr
  exact⟨_,_,hres,Qc4.of1 (h3.le hle),hN,hRp⟩
 | [],hr,hlen,hspec,hN=>
  have h1:¬vs.toArray.size=1:=by simp[hlen]
  rw[dif_neg h1]at hres
  obtain⟨_,p,hle,hRp⟩:=hr
  exact⟨_,_,hres,Qc4.le (p:= .tup []) ⟨vs.toArray,rfl,by simp[hlen],by simp⟩ hle,hN,hRp⟩
 |r0::r1::rest,hr,hlen,hspec,hN=>
  have h1:¬vs.toArray.size=1:=by simp[hlen]
  rw[dif_neg h1]at hres
  obtain⟨_,p,hle,hRp⟩:=hr
  refine⟨_,_,hres,Qc4.le (p:= .tup ((r0::r1::rest).map (rvP fr hp))) ⟨vs.toArray,rfl,by simp[hlen],fun i x hx=> ?_⟩ hle,hN,hRp⟩
  simp only[List.getElem?_map,Option.map_eq_some_iff]at hx
  obtain⟨rv,hrv,rfl⟩:=hx
  obtain⟨v,h2,h3⟩:=hspec i rv hrv
  rw[Qin,List.getD_eq_getElem?_getD,h2]
  exact h3
theorem Qwy{P:Program}(hP:C.P=P){fn:Func}{rs:List RV}{Rr:PV->Prop}(hc:fn.results.toList.mapM (Qb1 P)=some rs)(h:Qah C ρ fr hp a.tmps w)(hr:Qdv rs Rr fr hp):
  ∃v r,(results fn a.tmps).run P w= .ok v w/\Qc4 w C.X0 r v/\Rr r:=by
 obtain⟨v,r,h1,h2,_,h3⟩:=Qoa hP hc h hr
 exact⟨v,r,h1,h2.mono (fun _ _ _=>rfl) (fun _ _ hn hx=>hn (.inl hx)) (Nat.le_refl _),h3⟩
theorem Q5n{P:Program}(hP:C.P=P){fn:Func}{rs:List RV}{Rr:PV->Prop}(hc:fn.results.toList.mapM (Qb1 P)=some rs)(h:Qah C ρ fr hp a.tmps w)(hr:Qdv rs Rr fr hp)
  {X:Nat->Prop} (hX:∀c,X c->C.X0 c∨∃β hb,isY β=true/\hp β=some hb/\hb.fz=false/\ρ β=some c):
  ∃v r,(results fn a.tmps).run P w= .ok v w/\Qc4 w X r v/\Rr r:=by
 obtain⟨v,r,h1,h2,h3,h4⟩:=Qoa hP hc h hr
 refine⟨v,r,h1,h2.mono (fun _ _ _=>rfl) (fun c _ hn hx=>hn ?_) (Nat.le_refl _),h4⟩
 rcases hX c hx with hx|⟨β,hb,k1,k2,k3,k4⟩
 ·exact .inl hx
 ·refine .inr ⟨β,hb,?_,k3,k4⟩
  have hn:β ∉ rs.flatMap (lr fr):=fun hl=>by rw[h3 β hl]at k1;cases k1
  unfold Qaq
  rw[if_neg (by simpa using hn)]
  exact k2
theorem Qf {P : Program} {f : FuncId} {fn : Func} {sf : SFn} {args : List PV} {Rr : PV -> Prop} (hm : P.follows .mixedOrders = true) (hf : P.funcs[f]? = some fn) (hname : (fn.name != "runtime.NumGoroutine") = true) (hc : Qe P fn = some sf) (hn : args.length <= sf.n /\ sf.n <= 1000000)
  (hv:∀C:Ctx,C.P=P->vc C (Qdv sf.rs Rr) [.c sf.body] (Qgf args) hp0):Qd P f args Rr:=by
 simp only[Qe,Option.bind_eq_some_iff,Option.map_eq_some_iff]at hc
 obtain⟨c,hb,sb,hcb,rs,hrs,rfl⟩:=hc
 refine⟨by simp[Qlt,hf,hb];simpa using hname,fun w X vals hX hsz hrep=> ?_⟩
 let C:Ctx:=Ctx.plain P fn.ntmps w X hX hn.2
 refine calls_of_wp hf hb ?_
 have hsz':(vals++Array.replicate (fn.ntmps-vals.size) undef).size=fn.ntmps:=by simp at hn ⊢;omega
 have hsim:Sim C (Qgf args) hp0 (vals++Array.replicate (fn.ntmps-vals.size) undef) w:=by
  refine⟨fun _=>none,hsz',Ext.refl _ _,(fun _ _ h=>by cases h),by simp[hp0],by simp[hp0],fun i=> ?_⟩
  unfold Qgf
  cases hi:args[i]? with
  |none=>trivial
  | some p=>
   simp only[Option.getD_some]
   have hil:i<vals.size:=by rw[hsz];exact(List.getElem?_eq_some_iff.1 hi).1
   have hr:=hrep i p hi
   have e:(vals++Array.replicate (fn.ntmps-vals.size) undef).getD i undef=vals.getD i undef:=by
    rw[Qch,if_pos hil]
   rw[e]
   refine Qaa.ofData (hr.mono (fun _ _ _=>rfl) (fun b _ hn hx=> ?_) (Nat.le_refl _))
   rcases hx with hx|⟨_,_,h1,_⟩
   ·exact hn hx
   ·simp[hp0]at h1
 have fin:∀(fr:Fr)(hp:HP)(a:Act)(w':World),a.defers=[]->Sim C fr hp a.tmps w'->Qdv rs Rr fr hp->
   a.defers=[]/\∃v,(results fn a.tmps).run P w'= .ok v w'/\∃v' r,Ending.returned v= .returned v'/\Ext Qbs w w'/\Qc4 w' X r v'/\Rr r:=by
  intro fr hp a w' hd ⟨ρ,hs⟩ hr
  obtain⟨v,r,h1,h2,h3⟩:=Qwy (C:=C) rfl hrs hs hr
  exact⟨hd,v,h1,v,r,rfl,Ctx.plain_ext hs.ext,h2,h3⟩
 exact Qn8 (C:=C) (R:=Qdv rs Rr) hm c sb [] _ (Qgf args) hp0 _ w hcb ⟨fun fr hp a w' hd hs hv=>(by rw[Qj6]at hv;exact fin fr hp a w' hd hs hv),fun id sk' he=>(by simp[FW.Qat]at he),fin⟩ rfl hsim (hv C rfl)
end Go.FW
namespace Go.FW
open Go
variable {C : Ctx} {ρ : Nat -> Option Nat} {fr : Fr} {hp : HP} {w : World} {a : Act} {K R : Qp}
def Qcl(fr:Fr)(d:Option Nat)(r:PV):Fr:=match d with|some d=>upd fr d r|none=>fr
theorem Qaa.ofV{p:PV}{v:Value}(h:Qc4 w (Xof C ρ hp) p v):Qaa C ρ hp w p v:=by
 cases p with
 |tup ps=>exact h
 |_=>exact Qaa.ofData h
theorem Qqa{tmps:Array Value}(h:Qah C ρ fr hp tmps w):∀b,Xof C ρ hp b->b<w.heap.size:=by
 rintro b (hx|⟨β,hb,h1,_,h3⟩)
 ·exact Nat.lt_of_lt_of_le (C.hX0 b hx) h.ext.size
 ·have:=(h.own β hb h1).blk
  rw[h3]at this
  exact this.2.1
theorem Qah.updO{tmps:Array Value}{d:Option Nat}(h:Qah C ρ fr hp tmps w){p:PV}{v:Value}(hv:Qaa C ρ hp w p v)(hd:∀x,d=some x->x<C.N):Qah C ρ (Qcl fr d p) hp (Qp2 tmps d v) w:=by
 cases d with
 |some d=>exact h.upd hv (hd d rfl)
 |none=>exact h
theorem Qzi{tmps:Array Value}{first cap args:List PV}{fv cv av:Array Value}(hs:Qah C ρ fr hp tmps w)(h1:fv.size=first.length)(_h2:cv.size=cap.length)(h3:av.size=args.length)
  (hr1:∀(i:Nat)(x:PV),first[i]? =some x->Qbv C ρ hp w x (fv.getD i undef)) (hr2:∀(i:Nat)(x:PV),cap[i]? =some x->Qbv C ρ hp w x (cv.getD i undef)) (hr3:∀(i:Nat)(x:PV),args[i]? =some x->Qaa C ρ hp w x (av.getD i undef))
  (hdat:((first++args++cap).map (Qam hp)).all PV.isData=true):
  ∀(i:Nat)(x:PV),((first++args++cap).map (Qam hp))[i]? =some x->Qas w (Xof C ρ (Qaq hp ((first++args++cap).flatMap PV.refs))) x ((fv++av++cv).getD i undef):=by
 intro i x hx
 rw[List.all_eq_true]at hdat
 have hxd:=hdat x (List.mem_of_getElem? hx)
 simp only[List.getElem?_map,Option.map_eq_some_iff]at hx
 obtain⟨p,hp',rfl⟩:=hx
 have hmem:=List.mem_of_getElem? hp'
 have hl:∀β∈p.refs,β∈(first++args++cap).flatMap PV.refs:=fun β hβ=>List.mem_flatMap.2 ⟨p,hmem,hβ⟩
 have toF:∀ {p:PV} {v:Value},Qbv C ρ hp w p v->(Qam hp p).isData=true->Qaa C ρ hp w p v:=by
  intro p v hr hd
  cases p with
  |undef=>trivial
  |mp=>exact hr
  |mso=>exact hr
  |rb=>exact hr
  |np=>exact hr
  |nso=>exact hr
  |_=>exact Qaa.ofData (Qas.of_c hr)
 rw[Qch]
 rw[List.getElem?_append]at hp'
 by_cases c1:i<(first++args).length
 ·rw[if_pos c1]at hp'
  rw[if_pos (by simp only[Array.size_append,h1,h3];simpa using c1),Qch]
  rw[List.getElem?_append]at hp'
  by_cases c2:i<first.length
  ·rw[if_pos c2]at hp'
   rw[if_pos (by omega)]
   exact Qfj hs (toF (hr1 i p hp') hxd) hl hxd
  ·rw[if_neg c2]at hp'
   rw[if_neg (by omega),h1]
   exact Qfj hs (hr3 _ p hp') hl hxd
 ·rw[if_neg c1]at hp'
  have hsz:(fv++av).size=(first++args).length:=by simp[h1,h3]
  rw[if_neg (by omega),hsz]
  exact Qfj hs (toF (hr2 _ p hp') hxd) hl hxd
theorem Qwz{P:Program}(hP:C.P=P){g:FuncId}{first cap args pargs:List PV}{pr:Bool}{d:Option Nat}{Rr:PV->Prop}(h:Qd P g pargs Rr)(hargs:(first++args++cap).map (Qam hp)=pargs)(hdat:pargs.all PV.isData=true)
  (hK:∀r,Rr r->K (Qcl fr d r) (Qaq hp ((first++args++cap).flatMap PV.refs))):Qc7 C pr (.fn g first cap) args d fr hp K:=by
 subst hP
 refine⟨h.1,fun ρ tmps w fv cv av hdN hs h1 h2 h3 hr1 hr2 hr3=> ?_⟩
 have hf:=hs.freeze ((first++args++cap).flatMap PV.refs)
 refine(h.2 w _ (fv++av++cv) (Qqa hf) (by rw[<-hargs];simp[h1,h2,h3]) (by rw[<-hargs];exact Qzi hs h1 h2 h3 hr1 hr2 hr3 (by rw[hargs];exact hdat))).mono ?_
 rintro e w' ⟨v,r,rfl,hx,hr,hRr⟩
 exact⟨v,_,_,rfl,⟨ρ,(hf.grow hx).updO (Qaa.ofV hr) hdN⟩,fun _=>hx,hK r hRr⟩
theorem Qdr{P:Program}(hP:C.P=P){g:FuncId}{first cap args pargs:List PV}{pr:Bool}{d:Option Nat}{r:PV}(h:Qd P g pargs (· =r))(hargs:(first++args++cap).map (Qam hp)=pargs)(hdat:pargs.all PV.isData=true)
  (hK:K (Qcl fr d r) (Qaq hp ((first++args++cap).flatMap PV.refs))):Qc7 C pr (.fn g first cap) args d fr hp K:=
 Qwz hP h hargs hdat (fun _ hr=>hr▸hK)
def PV.isScal:PV->Bool
 | .int .. | .bool _=>true
 | .tup ps=>ps.all fun p=>match p with| .int .. | .bool _=>true|_=>false
 |_=>false
theorem Qabw{X X':Nat->Prop}{p:PV}{v:Value}(hs:p.isScal=true)(h:Qc4 w X p v):Qc4 w X' p v:=by
 have one:∀(p:PV)(v:Value),(match p with| .int .. | .bool _=>true|_=>false:Bool)=true->Qas w X p v->Qas w X' p v:=by
  intro p v hs h
  cases p with
  |int k n=>cases h;exact Qae.int k n
  |bool b=>cases h;exact Qae.bool b
  |_=>cases hs
 cases p with
 |int k n=>exact one (.int k n) v rfl h
 |bool b=>exact one (.bool b) v rfl h
 |tup ps=>
  obtain⟨vs,rfl,h1,h2⟩:=h
  simp only[PV.isScal,List.all_eq_true]at hs
  exact⟨vs,rfl,h1,fun i x hx=>one x _ (hs x (List.mem_of_getElem? hx)) (h2 i x hx)⟩
 |_=>cases hs
def Qgn(C:Ctx)(R:Qp)(c:PV)(x y:SC)(sk:List It)(fr:Fr)(hp:HP):Prop:=Qkx c (vc C R (.c x::sk) fr hp) (vc C R (.c y::sk) fr hp)
def brV(C:Ctx)(R:Qp)(x y:RT)(sk:List It)(fr:Fr)(hp:HP):Prop:=vc C R (.o x::sk) fr hp/\vc C R (.o y::sk) fr hp
def Qc2(C:Ctx)(p:PV)(s:Nat)(want:Bool)(o:SOp)(fr:Fr)(hp:HP)(K:Qp):Prop:=match p with
  | .bool t=>(t=want->opV C o (upd fr s (.bool want)) hp K)/\(t=(!want)->Qem o (upd fr s (.bool !want)) hp K)
  | .tup []=>Qem o fr hp K
  |_=>False
theorem Qb{p:Prop}[Decidable p]{x y:SC}{sk:List It}(h1:p->vc C R (.c x::sk) fr hp)(h2:¬p->vc C R (.c y::sk) fr hp):Qgn C R (.bool (decide p)) x y sk fr hp:=
 ⟨fun h=>h1 (of_decide_eq_true h),fun h=>h2 (of_decide_eq_false h)⟩
theorem Qj7{b:Bool}{x y:SC}{sk:List It}(h1:b=true->vc C R (.c x::sk) fr hp)(h2:b=false->vc C R (.c y::sk) fr hp):Qgn C R (.bool b) x y sk fr hp:=⟨h1,h2⟩
theorem Qaw{p:Prop}[Decidable p]{s:Nat}{o:SOp}(h1:p->Qc2 C (.bool true) s true o (upd fr s (.bool true)) hp K)(h2:¬p->Qc2 C (.bool false) s true o (upd fr s (.bool false)) hp K):Qc2 C (.bool (decide p)) s true o fr hp K:=by
 have hu:∀(b:Bool),upd (upd fr s (.bool b)) s (.bool b)=upd fr s (.bool b):=fun b=>by funext i;unfold upd;split<;>rfl
 refine⟨fun h=> ?_,fun h=> ?_⟩
 ·have:=(h1 (of_decide_eq_true h)).1 rfl
  rwa[hu]at this
 ·have:=(h2 (of_decide_eq_false h)).2 rfl
  rwa[show(!true)=false from rfl,hu]at this
theorem Qal{p:Prop}[Decidable p]{s:Nat}{o:SOp}(h1:p->Qc2 C (.bool true) s false o (upd fr s (.bool true)) hp K)(h2:¬p->Qc2 C (.bool false) s false o (upd fr s (.bool false)) hp K):Qc2 C (.bool (decide p)) s false o fr hp K:=by
 have hu:∀(b:Bool),upd (upd fr s (.bool b)) s (.bool b)=upd fr s (.bool b):=fun b=>by funext i;unfold upd;split<;>rfl
 refine⟨fun h=> ?_,fun h=> ?_⟩
 ·have:=(h2 (of_decide_eq_false h)).1 rfl
  rwa[hu]at this
 ·have:=(h1 (of_decide_eq_true h)).2 rfl
  rwa[show(!false)=true from rfl,hu]at this
theorem Qg8{b want:Bool}{s:Nat}{o:SOp}(h1:b=true->Qc2 C (.bool true) s want o (upd fr s (.bool true)) hp K)(h2:b=false->Qc2 C (.bool false) s want o (upd fr s (.bool false)) hp K):Qc2 C (.bool b) s want o fr hp K:=by
 have:= @Qaw C fr hp K (b=true) _ s o
 have e:b=decide (b=true):=by cases b<;>rfl
 rw[e]
 cases want with
 |true=>exact Qaw h1 (fun h=>h2 (by simpa using h))
 |false=>exact Qal h1 (fun h=>h2 (by simpa using h))
theorem Qabx{sk:List It}{c:Opd}{x y:SC}:vc C R (.c (.cond c x y)::sk) fr hp=Qgn C R (ev fr c) x y sk fr hp:=Qq8
theorem Qanr{sk:List It}{x y:RT}:vc C R (.o (.br x y)::sk) fr hp=brV C R x y sk fr hp:=Qaho
theorem Qans{sk:List It}{o:SOp}{r:RT}:vc C R (.o (.o none o r)::sk) fr hp=opV C o fr hp (vc C R (.o r::sk)):=Qty
theorem Qant{sk:List It}{s:Nat}{b:Bool}{o:SOp}{r:RT}:vc C R (.o (.o (some (s,b)) o r)::sk) fr hp=Qc2 C (fr s) s b o fr hp (vc C R (.o r::sk)):=Qty
theorem vcs:
  (∀(C:Ctx)(R:Qp)(sk:List It)(x y:SC)(fr:Fr)(hp:HP),vc C R (.c (.seq x y)::sk) fr hp=vc C R (.c x:: .c y::sk) fr hp)/\
  (∀(C:Ctx)(R:Qp)(sk:List It)(id:Nat)(x:SC)(fr:Fr)(hp:HP),vc C R (.c (.block id x)::sk) fr hp=vc C R (.c x:: .eb id::sk) fr hp)/\
  (∀(C:Ctx)(R:Qp)(sk:List It)(fr:Fr)(hp:HP),vc C R (.c .skip::sk) fr hp=vc C R sk fr hp)/\
  (∀(C:Ctx)(R:Qp)(sk:List It)(r:RT)(fr:Fr)(hp:HP),vc C R (.c (.rg r)::sk) fr hp=vc C R (.o r::sk) fr hp)/\
  (∀(C:Ctx)(R:Qp)(sk:List It)(id:Nat)(fr:Fr)(hp:HP),vc C R (.eb id::sk) fr hp=vc C R sk fr hp)/\
  (∀(C:Ctx)(R:Qp)(sk:List It)(J:Qp)(fr:Fr)(hp:HP),vc C R (.el J::sk) fr hp=J fr hp)/\
  (∀(C:Ctx)(R:Qp)(sk:List It)(fr:Fr)(hp:HP),vc C R (.c .ret::sk) fr hp=R fr hp)/\
  (∀(C:Ctx)(R:Qp)(fr:Fr)(hp:HP),vc C R [] fr hp=R fr hp)/\
  (∀(C:Ctx)(R:Qp)(sk:List It)(c:Opd)(x y:SC)(fr:Fr)(hp:HP),vc C R (.c (.cond c x y)::sk) fr hp=Qgn C R (ev fr c) x y sk fr hp)/\
  (∀(C:Ctx)(R:Qp)(sk:List It)(id:Nat)(fr:Fr)(hp:HP),vc C R (.c (.exit id)::sk) fr hp=Qn7 C R (FW.Qat id sk) fr hp)/\
  (∀(C:Ctx)(R:Qp)(sk:List It)(fr:Fr)(hp:HP),vc C R (.o .nil::sk) fr hp=vc C R sk fr hp)/\
  (∀(C:Ctx)(R:Qp)(sk:List It)(o:SOp)(r:RT)(fr:Fr)(hp:HP),vc C R (.o (.o none o r)::sk) fr hp=opV C o fr hp (vc C R (.o r::sk)))/\
  (∀(C:Ctx)(R:Qp)(sk:List It)(s:Nat)(b:Bool)(o:SOp)(r:RT)(fr:Fr)(hp:HP),vc C R (.o (.o (some (s,b)) o r)::sk) fr hp=Qc2 C (fr s) s b o fr hp (vc C R (.o r::sk)))/\
  (∀(C:Ctx)(R:Qp)(sk:List It)(x y:RT)(fr:Fr)(hp:HP),vc C R (.o (.br x y)::sk) fr hp=brV C R x y sk fr hp)/\
  (∀(C:Ctx)(R:Qp)(x y:SC)(sk:List It)(fr:Fr)(hp:HP),Qgn C R (.bool true) x y sk fr hp=vc C R (.c x::sk) fr hp)/\
  (∀(C:Ctx)(R:Qp)(x y:SC)(sk:List It)(fr:Fr)(hp:HP),Qgn C R (.bool false) x y sk fr hp=vc C R (.c y::sk) fr hp)/\
  (∀(C:Ctx)(R:Qp)(sk:List It)(fr:Fr)(hp:HP),Qn7 C R (some sk) fr hp=vc C R sk fr hp)/\
  (∀(id:Nat)(s:SC)(sk:List It),FW.Qat id (.c s::sk)=FW.Qat id sk)/\
  (∀(id:Nat)(r:RT)(sk:List It),FW.Qat id (.o r::sk)=FW.Qat id sk)/\
  (∀(id:Nat)(J:Qp)(sk:List It),FW.Qat id (.el J::sk)=FW.Qat id sk)/\
  (∀(id i:Nat)(sk:List It),FW.Qat id (.eb i::sk)=if i=id then some sk else FW.Qat id sk)/\
  (∀(C:Ctx)(s:Nat)(o:SOp)(fr:Fr)(hp:HP)(K:Qp),Qc2 C (.bool true) s true o fr hp K=opV C o (upd fr s (.bool true)) hp K)/\
  (∀(C:Ctx)(s:Nat)(o:SOp)(fr:Fr)(hp:HP)(K:Qp),Qc2 C (.bool false) s true o fr hp K=Qem o (upd fr s (.bool false)) hp K)/\
  (∀(C:Ctx)(s:Nat)(o:SOp)(fr:Fr)(hp:HP)(K:Qp),Qc2 C (.bool true) s false o fr hp K=Qem o (upd fr s (.bool true)) hp K)/\
  (∀(C:Ctx)(s:Nat)(o:SOp)(fr:Fr)(hp:HP)(K:Qp),Qc2 C (.bool false) s false o fr hp K=opV C o (upd fr s (.bool false)) hp K)/\
  (∀(C:Ctx)(s:Nat)(b:Bool)(o:SOp)(fr:Fr)(hp:HP)(K:Qp),Qc2 C (.tup []) s b o fr hp K=Qem o fr hp K):=by
 refine⟨fun _ _ _ _ _ _ _=>Qt1,fun _ _ _ _ _ _ _=>Qn5,fun _ _ _ _ _=>Qq7,fun _ _ _ _ _ _=>Q5h,fun _ _ _ _ _ _=>Qyq,fun _ _ _ _ _ _=>Qn6,fun _ _ _ _ _=>Qt2,fun _ _ _ _=>Qj6,fun _ _ _ _ _ _ _ _=>Qabx,
  fun _ _ _ _ _ _=>Qq9,fun _ _ _ _ _=>Qp7,fun _ _ _ _ _ _ _=>Qans,fun _ _ _ _ _ _ _ _ _=>Qant,fun _ _ _ _ _ _ _=>Qanr,fun _ _ _ _ _ _ _=> ?_,fun _ _ _ _ _ _ _=> ?_,fun _ _ _ _ _=>rfl,fun _ _ _=>rfl,fun _ _ _=>rfl,fun _ _ _=>rfl,fun _ _ _=>rfl,?_,?_,?_,?_,fun _ _ _ _ _ _ _=>rfl⟩
 ·simp[Qgn,Qkx]
 ·simp[Qgn,Qkx]
 all_goals intros;simp[Qc2]
end Go.FW
namespace Go.FW
open Go
variable {C : Ctx} {fr : Fr} {hp : HP} {K R : Qp}
theorem Qh5{n:Int}(h1: -9223372036854775808<=n)(h2:n<=9223372036854775807):IntKind.i64.wrap n=n:=by rw[IntKind.wrap_i64];omega
theorem Qaby{n:Int}(h1: -2147483648<=n)(h2:n<=2147483647):IntKind.i32.wrap n=n:=by rw[IntKind.wrap_i32];omega
theorem Qf1{n:Int}(h1:0<=n)(h2:n<=18446744073709551615):IntKind.u64.wrap n=n:=by rw[IntKind.wrap_u64];omega
theorem Qob{n:Int}(h1:0<=n)(h2:n<=4294967295):IntKind.u32.wrap n=n:=by rw[IntKind.wrap_u32];omega
theorem Qabz{n:Int}(h1:0<=n)(h2:n<=65535):IntKind.u16.wrap n=n:=by simp only[IntKind.wrap,IntKind.bits,IntKind.signed];simp;omega
theorem Qah1{n:Int}(h1:0<=n)(h2:n<=255):IntKind.u8.wrap n=n:=by rw[IntKind.wrap_u8];omega
theorem Qah2{x y:Int}(h:0<=x):x.tdiv y=x/y:=Int.tdiv_eq_ediv_of_nonneg h
theorem Qah3{x y:Int}(h:0<=x):x.tmod y=x%y:=Int.tmod_eq_emod_of_nonneg h
def ldM(hb:Option HB)(n:Nat)(ag:Bool)(i o:Nat)(d:Nat)(fr:Fr)(hp:HP)(K:Qp):Prop:=match hb with
 |some hb=>∃h:i<hb.xs.length,o+n<=hb.e/\(ag=false->n=1)/\K (upd fr d (ldV ag n o (hb.xs[i]'h))) hp
 |none=>False
def stM (hb:Option HB) (β:Nat) (n:Nat) (i o:Nat) (v:PV) (fr:Fr) (hp:HP) (K:Qp):Prop:=match hb with
  |some hb=>hb.fz=false/\v.isData=true/\v.cells.length=n/\∃h:i<hb.xs.length,o+n<=hb.e/\
        K fr (Qw hp β { hb with xs:=hb.xs.set i (if n=hb.e then v else stV (hb.xs[i]'h) o v) })
  |none=>False
def Qvz(R:PV->Prop)(p:PV):Prop:=p.isData=true/\∃q,PV.le p q/\R q
theorem Qc{p r:PV}(h:p=r)(hd:r.isData=true):Qvz (· =r) p:=by subst h;exact⟨hd,_,Qab _,rfl⟩
theorem Qew{p r:PV}(h:PV.le p r)(hd:p.isData=true):Qvz (· =r) p:=⟨hd,_,h,rfl⟩
theorem Q3z{e ty n:Nat}{ag fz:Bool}{o d:Nat}{x:PV}(h:o+n<=e)(ha:ag=false->n=1):ldM (some ⟨e,ty,[x],fz⟩) n ag 0 o d fr hp K=K (upd fr d (ldV ag n o x)) hp:=by
 simp[ldM,h];intro _;exact ha
theorem Qj8{e ty n i:Nat}{ag fz:Bool}{o d:Nat}{xs:List PV}(h:i<xs.length)(h1:o+n<=e)(ha:ag=false->n=1):ldM (some ⟨e,ty,xs,fz⟩) n ag i o d fr hp K=K (upd fr d (ldV ag n o (xs[i]'h))) hp:=by
 simp[ldM,h,h1];intro _;exact ha
theorem Qanu{e ty n β i:Nat}{o:Nat}{xs:List PV}{v:PV}(h:i<xs.length)(hv:v.isData=true)(hl:v.cells.length=n)(h1:o+n<=e):stM (some ⟨e,ty,xs,false⟩) β n i o v fr hp K=K fr (Qw hp β ⟨e,ty,xs.set i (if n=e then v else stV (xs[i]'h) o v),false⟩):=by
 simp[stM,h,h1,hv,hl]
theorem Qgr{ty n β i:Nat}{xs:List PV}{v:PV}(h:i<xs.length)(hv:v.isData=true)(hl:v.cells.length=n):stM (some ⟨n,ty,xs,false⟩) β n i 0 v fr hp K=K fr (Qw hp β ⟨n,ty,xs.set i v,false⟩):=by
 rw[Qanu h hv hl (by omega)];simp
theorem Qzj{e d:Nat}{k:IntKind}{m:Int}{xs:List PV}(h0:0<=m)(h:m<xs.length):Qe4 e (.sl e xs) (.int k m) d fr hp K=K (upd fr d (.pt (xs[m.toNat]'(by omega)).cells)) hp:=by
 have:m.toNat<xs.length:=by omega
 simp[Qe4,h0,this]
theorem Qk7{α:Type}{f:α->PV}{e d:Nat}{k:IntKind}{m:Int}{xs:List α}(h0:0<=m)(h:m<xs.length):Qe4 e (.sl e (xs.map f)) (.int k m) d fr hp K=K (upd fr d (.pt (f (xs[m.toNat]'(by omega))).cells)) hp:=by
 rw[Qzj h0 (by simpa using h)];simp
theorem Qanv{e d β o n:Nat}{k:IntKind}{m:Int}(h0:0<=m)(h:m<n)(he:(hp β).map (·.e)=some e):Qe4 e (.mso β o n) (.int k m) d fr hp K=K (upd fr d (.mp β (o+m.toNat) 0)) hp:=by
 have:m.toNat<n:=by omega
 simp[Qe4,h0,this,he]
theorem Qyr{e by_ ty d:Nat}{z:PV}{k k':IntKind}{L Cc:Int}(h0:0<e)(hz:z.cells.length=e)(h1:0<=L)(h2:L<=Cc)(h3:by_*Cc<=281474976710656)(h4:Cc<=9223372036854775807):
  mkK e by_ ty z (.int k L) (.int k' Cc) d fr hp K=K (upd (Qa7 d fr) d (.ms d L.toNat)) (Qw hp d ⟨e,ty,List.replicate L.toNat z,false⟩):=by
 simp[mkK,h0,hz,h1,h2,h3,h4]
theorem Qanw{n ty d β o m:Nat}(hB:isY β=true):Qey n ty (.mso β o m) d fr hp K=K (upd fr d (.rb β o m)) hp:=by
 simp[Qey,hB]
theorem Qarl{d β o m:Nat}:ldK 1 false (.rb β o m) d fr hp K=K (upd fr d (.mso β o m)) hp:=by simp[ldK]
theorem Qky{e by_ ty d:Nat}{x:PV}{ys:List PV}(hs:Qec hp x=some (e,ys))(h0:0<e)(h1:ys.length*by_<=140737488355328)(h2:ys.length<=9223372036854775807):
  Qe5 e by_ ty .nilS x d fr hp K=K (upd (Qa7 d fr) d (.ms d ys.length)) (Qw hp d ⟨e,ty,ys,false⟩):=by
 simp[Qe5,hs,h0,h1,h2]
theorem Qoc{e by_ ty d β n:Nat}{x:PV}{ys xs:List PV}(hs:Qec hp x=some (e,ys))(hb:hp β=some ⟨e,ty,xs,false⟩)(h0:0<e)(hn:n<=xs.length)(h1:(n+ys.length)*by_<=140737488355328)(h2:n+ys.length<=9223372036854775807)(hB:isB β=false:=by decide):
  Qe5 e by_ ty (.ms β n) x d fr hp K=K (upd (Qa7 β fr) d (.ms β (n+ys.length))) (Qw hp β ⟨e,ty,xs.take n++ys,false⟩):=by
 simp[Qe5,hs,hb,h0,hn,h1,h2,hB]
theorem Q5o{e d:Nat}{xs:List PV}{lo hi:Option PV}{L H:Int}(h1:Qck 0 lo=some L)(h2:Qck xs.length hi=some H)(h3:0<=L)(h4:L<=H)(h5:H<=xs.length):
  slK e (.sl e xs) lo hi none d fr hp K=K (upd fr d (.sl e ((xs.take H.toNat).drop L.toNat))) hp:=by
 have hM:Qck (xs.length) none=some (xs.length:Int):=rfl
 simp only[slK,h1,h2,hM]
 simp[h3,h4,h5]
theorem Qarm{e d:Nat}{xs:List PV}{k:IntKind}{H:Int}(h4:0<=H)(h5:H<=xs.length):
  slK e (.sl e xs) none (some (.int k H)) none d fr hp K=K (upd fr d (.sl e (xs.take H.toNat))) hp:=by
 rw[Q5o (L:=0) (H:=H) rfl rfl (by omega) h4 h5];simp
theorem Qarn{e d:Nat}{xs:List PV}{k:IntKind}{L:Int}(h4:0<=L)(h5:L<=xs.length):
  slK e (.sl e xs) (some (.int k L)) none none d fr hp K=K (upd fr d (.sl e (xs.drop L.toNat))) hp:=by
 rw[Q5o (L:=L) (H:=xs.length) rfl rfl h4 h5 (by omega)];simp
theorem ops1:
  (∀(C:Ctx)(d:Nat)(x:Opd)(fr:Fr)(hp:HP)(K:Qp),opV C (.mv d x) fr hp K=K (upd fr d (ev fr x)) hp)/\
  (∀(C:Ctx)(d:Nat)(c a b:Opd)(fr:Fr)(hp:HP)(K:Qp),opV C (.pick d c a b) fr hp K=Qks (ev fr c) (ev fr a) (ev fr b) d fr hp K)/\
  (∀(C:Ctx)(d:Nat)(op:BinOp)(bt:Bool)(a b:Opd)(fr:Fr)(hp:HP)(K:Qp),opV C (.bin d op bt a b) fr hp K=Qbi op bt (ev fr a) (ev fr b) d fr hp K)/\
  (∀(C:Ctx)(d:Nat)(op:UnOp)(a:Opd)(fr:Fr)(hp:HP)(K:Qp),opV C (.un d op a) fr hp K=unK op (ev fr a) d fr hp K)/\
  (∀(C:Ctx)(d:Nat)(k:IntKind)(a:Opd)(fr:Fr)(hp:HP)(K:Qp),opV C (.conv d k a) fr hp K=Qn1 k (ev fr a) d fr hp K)/\
  (∀(C:Ctx)(d:Nat)(a:Opd)(fr:Fr)(hp:HP)(K:Qp),opV C (.len d a) fr hp K=Qkl (ev fr a) d fr hp K)/\
  (∀(C:Ctx)(d:Nat)(a b:Opd)(fr:Fr)(hp:HP)(K:Qp),opV C (.mx d a b) fr hp K=mxK (ev fr a) (ev fr b) d fr hp K)/\
  (∀(C:Ctx)(d:Nat)(a b:Opd)(fr:Fr)(hp:HP)(K:Qp),opV C (.mn d a b) fr hp K=mnK (ev fr a) (ev fr b) d fr hp K)/\
  (∀(C:Ctx)(d e:Nat)(a b:Opd)(fr:Fr)(hp:HP)(K:Qp),opV C (.idx d e a b) fr hp K=Qe4 e (ev fr a) (ev fr b) d fr hp K)/\
  (∀(C:Ctx)(d n e:Nat)(a b:Opd)(fr:Fr)(hp:HP)(K:Qp),opV C (.idxA d n e a b) fr hp K=Ql7 n e (ev fr a) (ev fr b) d fr hp K)/\
  (∀(C:Ctx)(d n e:Nat)(ag:Bool)(a b:Opd)(fr:Fr)(hp:HP)(K:Qp),opV C (.ixv d n e ag a b) fr hp K=Qp1 n e ag (ev fr a) (ev fr b) d fr hp K)/\
  (∀(C:Ctx)(d off:Nat)(a:Opd)(fr:Fr)(hp:HP)(K:Qp),opV C (.fld d off a) fr hp K=Qmx off (ev fr a) d fr hp K)/\
  (∀(C:Ctx)(d off n:Nat)(ag:Bool)(a:Opd)(fr:Fr)(hp:HP)(K:Qp),opV C (.fldv d off n ag a) fr hp K=Qjn off n ag (ev fr a) d fr hp K)/\
  (∀(C:Ctx)(d n:Nat)(ag:Bool)(a:Opd)(fr:Fr)(hp:HP)(K:Qp),opV C (.ld d n ag a) fr hp K=ldK n ag (ev fr a) d fr hp K)/\
  (∀(C:Ctx)(n:Nat)(a b:Opd)(fr:Fr)(hp:HP)(K:Qp),opV C (.st n a b) fr hp K=stK n (ev fr a) (ev fr b) fr hp K)/\
  (∀(C:Ctx)(d n ty:Nat)(a:Opd)(fr:Fr)(hp:HP)(K:Qp),opV C (.box d n ty a) fr hp K=Qey n ty (ev fr a) d fr hp K)/\
  (∀(C:Ctx)(d n ty:Nat)(z:PV)(fr:Fr)(hp:HP)(K:Qp),opV C (.alloc d n ty z) fr hp K=Qey n ty z d fr hp K)/\
  (∀(C:Ctx)(d e by_ ty:Nat)(z:PV)(l c:Opd)(fr:Fr)(hp:HP)(K:Qp),opV C (.mk d e by_ ty z l c) fr hp K=mkK e by_ ty z (ev fr l) (ev fr c) d fr hp K)/\
  (∀(C:Ctx)(d e ty:Nat)(ps:List Opd)(fr:Fr)(hp:HP)(K:Qp),opV C (.bs d e ty ps) fr hp K=bsK e ty (ps.map (ev fr)) d fr hp K)/\
  (∀(C:Ctx)(d e by_ ty:Nat)(a b:Opd)(fr:Fr)(hp:HP)(K:Qp),opV C (.app d e by_ ty a b) fr hp K=Qe5 e by_ ty (ev fr a) (ev fr b) d fr hp K)/\
  (∀(C:Ctx)(d e:Nat)(a b:Opd)(fr:Fr)(hp:HP)(K:Qp),opV C (.cpy d e a b) fr hp K=Qlk e (ev fr a) (ev fr b) d fr hp K)/\
  (∀(C:Ctx)(d e:Nat)(a:Opd)(l h m:Option Opd)(fr:Fr)(hp:HP)(K:Qp),opV C (.sl d e a l h m) fr hp K=slK e (ev fr a) (l.map (ev fr)) (h.map (ev fr)) (m.map (ev fr)) d fr hp K)/\
  (∀(C:Ctx)(d:Nat)(a:Opd)(i:Nat)(fr:Fr)(hp:HP)(K:Qp),opV C (.ext d a i) fr hp K=Qll (ev fr a) i d fr hp K)/\
  (∀(C:Ctx)(d:Nat)(z:List PV)(ps:List (Nat×Nat×Opd))(fr:Fr)(hp:HP)(K:Qp),opV C (.bld d z ps) fr hp K=Qh1 z (ps.map fun p=>(p.1,p.2.1,ev fr p.2.2)) d fr hp K)/\
  (∀(C:Ctx)(d f:Nat)(x y:List Opd)(fr:Fr)(hp:HP)(K:Qp),opV C (.fn d f x y) fr hp K=((x.map (ev fr)++y.map (ev fr)).all PV.isCap=true/\K (upd fr d (.fn f (x.map (ev fr)) (y.map (ev fr)))) hp))/\
  (∀(C:Ctx)(d:Option Nat)(pr:Bool)(f:Opd)(ars:List Opd)(fr:Fr)(hp:HP)(K:Qp),opV C (.call d pr f ars) fr hp K=Qc7 C pr (ev fr f) (ars.map (ev fr)) d fr hp K)/\
  (∀(C:Ctx)(d:Option Nat)(x:Opd)(fr:Fr)(hp:HP)(K:Qp),opV C (.nilc d x) fr hp K=Qtq (ev fr x) d fr hp K)/\
  (∀(fr:Fr)(n:Nat),ev fr (.t n)=fr n)/\(∀(fr:Fr)(p:PV),ev fr (.c p)=p):=by
 refine⟨?_,?_,?_,?_,?_,?_,?_,?_,?_,?_,?_,?_,?_,?_,?_,?_,?_,?_,?_,?_,?_,?_,?_,?_,?_,?_,?_,?_,?_⟩<;>intros<;>rfl
theorem ops2:
  (∀(bt:Bool)(k:IntKind)(x y:Int)(d:Nat)(fr:Fr)(hp:HP)(K:Qp),Qbi .add bt (.int k x) (.int k y) d fr hp K=K (upd fr d (.int k (k.wrap (x+y)))) hp)/\
  (∀(bt:Bool)(k:IntKind)(x y:Int)(d:Nat)(fr:Fr)(hp:HP)(K:Qp),Qbi .sub bt (.int k x) (.int k y) d fr hp K=K (upd fr d (.int k (k.wrap (x-y)))) hp)/\
  (∀(bt:Bool)(k:IntKind)(x y:Int)(d:Nat)(fr:Fr)(hp:HP)(K:Qp),Qbi .mul bt (.int k x) (.int k y) d fr hp K=K (upd fr d (.int k (k.wrap (x*y)))) hp)/\
  (∀(bt:Bool)(k:IntKind)(x y:Int)(d:Nat)(fr:Fr)(hp:HP)(K:Qp),Qbi .eql bt (.int k x) (.int k y) d fr hp K=K (upd fr d (.bool (decide (x=y)))) hp)/\
  (∀(bt:Bool)(k:IntKind)(x y:Int)(d:Nat)(fr:Fr)(hp:HP)(K:Qp),Qbi .neq bt (.int k x) (.int k y) d fr hp K=K (upd fr d (.bool (decide (¬x=y)))) hp)/\
  (∀(bt:Bool)(k:IntKind)(x y:Int)(d:Nat)(fr:Fr)(hp:HP)(K:Qp),Qbi .lss bt (.int k x) (.int k y) d fr hp K=K (upd fr d (.bool (decide (x<y)))) hp)/\
  (∀(bt:Bool)(k:IntKind)(x y:Int)(d:Nat)(fr:Fr)(hp:HP)(K:Qp),Qbi .leq bt (.int k x) (.int k y) d fr hp K=K (upd fr d (.bool (decide (x<=y)))) hp)/\
  (∀(bt:Bool)(k:IntKind)(x y:Int)(d:Nat)(fr:Fr)(hp:HP)(K:Qp),Qbi .gtr bt (.int k x) (.int k y) d fr hp K=K (upd fr d (.bool (decide (y<x)))) hp)/\
  (∀(bt:Bool)(k:IntKind)(x y:Int)(d:Nat)(fr:Fr)(hp:HP)(K:Qp),Qbi .geq bt (.int k x) (.int k y) d fr hp K=K (upd fr d (.bool (decide (y<=x)))) hp)/\
  (∀(x y:Bool)(d:Nat)(fr:Fr)(hp:HP)(K:Qp),Qbi .eql true (.bool x) (.bool y) d fr hp K=K (upd fr d (.bool (x==y))) hp)/\
  (∀(x y:Bool)(d:Nat)(fr:Fr)(hp:HP)(K:Qp),Qbi .neq true (.bool x) (.bool y) d fr hp K=K (upd fr d (.bool (!(x==y)))) hp)/\
  (∀(b:Bool)(d:Nat)(fr:Fr)(hp:HP)(K:Qp),unK .not (.bool b) d fr hp K=K (upd fr d (.bool (!b))) hp)/\
  (∀(k:IntKind)(n:Int)(d:Nat)(fr:Fr)(hp:HP)(K:Qp),unK .neg (.int k n) d fr hp K=K (upd fr d (.int k (k.wrap (0-n)))) hp)/\
  (∀(k k':IntKind)(n:Int)(d:Nat)(fr:Fr)(hp:HP)(K:Qp),Qn1 k (.int k' n) d fr hp K=K (upd fr d (.int k (k.wrap n))) hp)/\
  (∀(d:Nat)(fr:Fr)(hp:HP)(K:Qp),Qkl .nilS d fr hp K=K (upd fr d (.int .i64 0)) hp)/\
  (∀(e:Nat)(xs:List PV)(d:Nat)(fr:Fr)(hp:HP)(K:Qp),Qkl (.sl e xs) d fr hp K=K (upd fr d (.int .i64 xs.length)) hp)/\
  (∀(β o n:Nat)(d:Nat)(fr:Fr)(hp:HP)(K:Qp),Qkl (.mso β o n) d fr hp K=K (upd fr d (.int .i64 n)) hp)/\
  (∀(k k':IntKind)(x y:Int)(d:Nat)(fr:Fr)(hp:HP)(K:Qp),mxK (.int k x) (.int k' y) d fr hp K=K (upd fr d (.int k (max x y))) hp)/\
  (∀(k k':IntKind)(x y:Int)(d:Nat)(fr:Fr)(hp:HP)(K:Qp),mnK (.int k x) (.int k' y) d fr hp K=K (upd fr d (.int k (min x y))) hp)/\
  (∀(a b:PV)(d:Nat)(fr:Fr)(hp:HP)(K:Qp),Qks (.bool true) a b d fr hp K=K (upd fr d a) hp)/\
  (∀(a b:PV)(d:Nat)(fr:Fr)(hp:HP)(K:Qp),Qks (.bool false) a b d fr hp K=K (upd fr d b) hp)/\
  (∀(off β i o:Nat)(d:Nat)(fr:Fr)(hp:HP)(K:Qp),Qmx off (.mp β i o) d fr hp K=K (upd fr d (.mp β i (o+off))) hp)/\
  (∀(n:Nat)(ag:Bool)(β i o:Nat)(d:Nat)(fr:Fr)(hp:HP)(K:Qp),ldK n ag (.mp β i o) d fr hp K=ldM (hp β) n ag i o d fr hp K)/\
  (∀(c:PV)(cs:List PV)(d:Nat)(fr:Fr)(hp:HP)(K:Qp),ldK 1 false (.pt (c::cs)) d fr hp K=K (upd fr d c) hp)/\
  (∀(n:Nat)(β i o:Nat)(v:PV)(fr:Fr)(hp:HP)(K:Qp),stK n (.mp β i o) v fr hp K=stM (Qaq hp v.refs β) β n i o (Qam hp v) fr (Qaq hp v.refs) K)/\
  (∀(ps:List PV)(p:PV)(d:Nat)(fr:Fr)(hp:HP)(K:Qp),Qll (.tup (p::ps)) 0 d fr hp K=(p.isData=true/\K (upd fr d p) hp))/\
  (∀(ps:List PV)(p q:PV)(d:Nat)(fr:Fr)(hp:HP)(K:Qp),Qll (.tup (p::q::ps)) 1 d fr hp K=(q.isData=true/\K (upd fr d q) hp))/\
  (∀(ps:List PV)(p q r:PV)(d:Nat)(fr:Fr)(hp:HP)(K:Qp),Qll (.tup (p::q::r::ps)) 2 d fr hp K=(r.isData=true/\K (upd fr d r) hp))/\
  (∀(s:Nat)(Rr:PV->Prop)(fr:Fr)(hp:HP),Qdv [.t s] Rr fr hp=Qvz Rr (Qam hp (fr s)))/\
  (∀(e:Nat)(xs:List PV),Qec hp0 (.sl e xs)=some (e,xs))/\
  (∀(hp:HP),Qaq hp []=hp)/\
  (∀(fr:Fr)(r:PV),Qcl fr none r=fr)/\(∀(fr:Fr)(d:Nat)(r:PV),Qcl fr (some d) r=upd fr d r)/\
  (∀(β:Nat)(fr:Fr)(i:Nat),Qa7 β fr i=Qa1 β (fr i)):=by
 refine⟨?_,?_,?_,?_,?_,?_,?_,?_,?_,?_,?_,?_,?_,?_,?_,?_,?_,?_,?_,?_,?_,?_,?_,?_,?_,?_,?_,?_,?_,?_,?_,?_,?_,?_⟩<;>intros
 all_goals first
  |rfl
  |(simp[Qbi,Qks,Qll,ldK,ldV,PV.cells,stK,stM];done)
  |(simp[Qbi,Qks,Qll,ldK,ldV,PV.cells,stK,stM];try rfl)
  |skip
end Go.FW
namespace Go.FW
open Go
variable {C : Ctx} {ρ : Nat -> Option Nat} {fr : Fr} {hp : HP} {w : World} {K R : Qp}
theorem Q72(i β e ty:Nat)(he:0<e)(hi:fr i= .nilS)(hB:isB β=false:=by decide):Wk fr hp (upd (Qa7 β fr) i (.ms β 0)) (Qw hp β ⟨e,ty,[],false⟩):=by
 rintro C tmps w ⟨ρ,hs⟩
 have hr:=hs.rebind (w':=w) β none ⟨e,ty,[],false⟩ hB (Ext.refl _ _) (by simp) he (by simp) (by simp) (by simp)
 refine⟨_,hr.sz,hr.ext,hr.keep,hr.own,hr.inj,fun j=> ?_⟩
 unfold upd
 split
 ·rename_i hj
  subst hj
  have:=hs.slots j
  rw[hi]at this
  have e:=Qaa.nil_inv this
  exact⟨_,by simp[Qw];rfl,by simp,.inl ⟨Qeu _ _ _,e,rfl,rfl⟩⟩
 ·exact hr.slots j
end Go.FW
namespace Go.FW
open Go
variable {C : Ctx} {ρ : Nat -> Option Nat} {fr : Fr} {hp : HP} {w : World} {K R : Qp}
theorem Qah4(fr:Fr)(a:Nat)(v w:PV):upd (upd fr a v) a w=upd fr a w:=by funext i;unfold upd;split<;>rfl
theorem Qj9{α:Type}{f:α->PV}{e d:Nat}{xs:List α}{k:IntKind}{H:Int}(h4:0<=H)(h5:H<=xs.length):
  slK e (.sl e (xs.map f)) none (some (.int k H)) none d fr hp K=K (upd fr d (.sl e ((xs.take H.toNat).map f))) hp:=by
 rw[Qarm h4 (by simpa using h5)];simp
theorem Q73{α:Type}{f:α->PV}{e d:Nat}{xs:List α}{k:IntKind}{L:Int}(h4:0<=L)(h5:L<=xs.length):
  slK e (.sl e (xs.map f)) (some (.int k L)) none none d fr hp K=K (upd fr d (.sl e ((xs.drop L.toNat).map f))) hp:=by
 rw[Qarn h4 (by simpa using h5)];simp
theorem Q2m{α:Type}{f:α->PV}{e d:Nat}{xs:List α}{k k':IntKind}{L H:Int}(h3:0<=L)(h4:L<=H)(h5:H<=xs.length):
  slK e (.sl e (xs.map f)) (some (.int k L)) (some (.int k' H)) none d fr hp K=K (upd fr d (.sl e (((xs.take H.toNat).drop L.toNat).map f))) hp:=by
 rw[Q5o (L:=L) (H:=H) rfl rfl h3 h4 (by simpa using h5)];simp
theorem Qah5(hp:HP)(e:Nat)(xs:List PV):Qam hp (.sl e xs)= .sl e xs:=rfl
theorem Qab0(hp:HP)(k:IntKind)(n:Int):Qam hp (.int k n)= .int k n:=rfl
theorem Q74(hp:HP)(b:Bool):Qam hp (.bool b)= .bool b:=rfl
theorem Qab1(hp:HP)(cs:List PV):Qam hp (.agg cs)= .agg cs:=rfl
theorem Qab2(hp:HP):Qam hp .nilS= .nilS:=rfl
theorem Qv0(hp:HP)(β n:Nat)(e ty:Nat)(xs:List PV)(fz:Bool)(h:hp β=some ⟨e,ty,xs,fz⟩)(hB:isB β=false:=by decide):Qam hp (.ms β n)= .sl e (xs.take n):=by simp[Qam,Qbh,h,Qnf hB]
theorem Qah6(e:Nat)(xs:List PV):(PV.sl e xs).refs=[]:=rfl
theorem Qab3(k:IntKind)(n:Int):(PV.int k n).refs=[]:=rfl
theorem Q75(b:Bool):(PV.bool b).refs=[]:=rfl
theorem Qab4(cs:List PV):(PV.agg cs).refs=[]:=rfl
theorem Qab5:PV.nilS.refs=[]:=rfl
theorem Qab6(β e:Nat)(xs:List PV):Qa1 β (.sl e xs)= .sl e xs:=rfl
theorem Q76(β:Nat)(k:IntKind)(n:Int):Qa1 β (.int k n)= .int k n:=rfl
theorem Q5p(β:Nat)(b:Bool):Qa1 β (.bool b)= .bool b:=rfl
theorem Q77(β:Nat)(cs:List PV):Qa1 β (.agg cs)= .agg cs:=rfl
theorem Q78(β:Nat):Qa1 β .nilS= .nilS:=rfl
theorem Qzk(β γ o n:Nat):Qa1 β (.mso γ o n)=if γ=β then .undef else .mso γ o n:=by
 by_cases h:γ=β
 ·subst h;simp[Qa1,PV.refs]
 ·simp[Qa1,PV.refs,h];intro h';exact absurd h'.symm h
theorem Qab7(β γ o n:Nat):Qa1 β (.rb γ o n)=if γ=β then .undef else .rb γ o n:=by
 by_cases h:γ=β
 ·subst h;simp[Qa1,PV.refs]
 ·simp[Qa1,PV.refs,h];intro h';exact absurd h'.symm h
theorem Qzl(β γ i o:Nat):Qa1 β (.mp γ i o)=if γ=β then .undef else .mp γ i o:=by
 by_cases h:γ=β
 ·subst h;simp[Qa1,PV.refs]
 ·simp[Qa1,PV.refs,h];intro h';exact absurd h'.symm h
theorem Qaro:
  (∀(fr:Fr)(a:Nat)(v:PV)(b:Nat),upd fr a v b=if b=a then v else fr b)/\
  (∀(h:HP)(a:Nat)(v:HB)(b:Nat),Qw h a v b=if b=a then some v else h b)/\
  (∀(β:Nat),hp0 β=none)/\
  (∀(hp:HP)(e:Nat)(xs:List PV),Qam hp (.sl e xs)= .sl e xs)/\
  (∀(hp:HP)(k:IntKind)(n:Int),Qam hp (.int k n)= .int k n)/\
  (∀(hp:HP)(b:Bool),Qam hp (.bool b)= .bool b)/\
  (∀(hp:HP)(cs:List PV),Qam hp (.agg cs)= .agg cs)/\
  (∀(hp:HP),Qam hp .nilS= .nilS)/\
  (∀(e:Nat)(xs:List PV),(PV.sl e xs).refs=[])/\
  (∀(k:IntKind)(n:Int),(PV.int k n).refs=[])/\
  (∀(b:Bool),(PV.bool b).refs=[])/\
  (∀(cs:List PV),(PV.agg cs).refs=[])/\
  (PV.nilS.refs=[])/\
  (∀(β o n:Nat),(PV.mso β o n).refs=[β])/\
  (∀(β i o:Nat),(PV.mp β i o).refs=[β])/\
  (∀(β e:Nat)(xs:List PV),Qa1 β (.sl e xs)= .sl e xs)/\
  (∀(β:Nat)(k:IntKind)(n:Int),Qa1 β (.int k n)= .int k n)/\
  (∀(β:Nat)(b:Bool),Qa1 β (.bool b)= .bool b)/\
  (∀(β:Nat)(cs:List PV),Qa1 β (.agg cs)= .agg cs)/\
  (∀(β:Nat),Qa1 β .nilS= .nilS)/\
  (∀(β γ o n:Nat),Qa1 β (.mso γ o n)=if γ=β then .undef else .mso γ o n)/\
  (∀(β γ i o:Nat),Qa1 β (.mp γ i o)=if γ=β then .undef else .mp γ i o)/\
  (∀(β γ o n:Nat),Qa1 β (.rb γ o n)=if γ=β then .undef else .rb γ o n)/\
  (∀(β o n:Nat),(PV.rb β o n).refs=[β])/\
  (∀(o:SOp)(fr:Fr)(hp:HP)(K:Qp),Qem o fr hp K=match o.dst with|some d=>K (upd fr d (.tup [])) hp|none=>K fr hp)/\
  (∀(f:Opd->PV),Option.map f none=none)/\(∀(f:Opd->PV)(x:Opd),Option.map f (some x)=some (f x))/\
  (∀(k:IntKind)(n:Int),(PV.int k n).cells=[.int k n])/\
  (∀(b:Bool),(PV.bool b).cells=[.bool b])/\
  (∀(e:Nat)(xs:List PV),(PV.sl e xs).cells=[.sl e xs])/\
  (∀(cs:List PV),(PV.agg cs).cells=cs):=by
 refine⟨fun _ _ _ _=>rfl,fun _ _ _ _=>rfl,fun _=>rfl,Qah5,Qab0,Q74,Qab1,Qab2,Qah6,Qab3,Q75,Qab4,Qab5,fun _ _ _=>rfl,fun _ _ _=>rfl,Qab6,Q76,Q5p,Q77,Q78,Qzk,Qzl,Qab7,fun _ _ _=>rfl,fun _ _ _ _=>rfl,fun _=>rfl,fun _ _=>rfl,fun _ _=>rfl,fun _=>rfl,fun _ _=>rfl,fun _=>rfl⟩
theorem Qarp{p:Nat->Prop}(h:∃m,p m):∃m,p m/\∀k,p k->m<=k:=by
 obtain⟨m,hm⟩:=h
 induction m using Nat.strongRecOn with
 |ind m ih=>
  by_cases hk:∃k,k<m/\p k
  ·obtain⟨k,h1,h2⟩:=hk;exact ih k h1 h2
  ·exact⟨m,hm,fun k hk'=>Nat.le_of_not_lt fun hlt=>hk ⟨k,hlt,hk'⟩⟩
def Qnj(I:Nat->Qp)(n:Nat):Qp:=fun fr' hp'=>∃fr0 hp0,Wk fr' hp' fr0 hp0/\∃m,m<n/\I m fr0 hp0
theorem Qcn{I:Nat->Qp}{n m:Nat}(hl:m<n)(h:I m fr hp):Qnj I n fr hp:=⟨fr,hp,Wk.refl _ _,m,hl,h⟩
theorem Qs2{I:Nat->Qp}{n m:Nat}{fr':Fr}{hp':HP}(hl:m<n)(hw:Wk fr hp fr' hp')(h:I m fr' hp'):Qnj I n fr hp:=⟨fr',hp',hw,m,hl,h⟩
theorem Qka{sk:List It}{x:SC}(I:Nat->Qp)(m0:Nat){fr0:Fr}{hp0:HP}(hw:Wk fr hp fr0 hp0)(h0:I m0 fr0 hp0)(h:∀m fr hp,I m fr hp->vc C R (.c x:: .el (Qnj I m)::sk) fr hp):vc C R (.c (.loop x)::sk) fr hp:=by
 refine Qabt (fun fr hp=>∃m,I m fr hp) (fun fr hp=>Classical.epsilon fun m=>I m fr hp/\∀k,I k fr hp->m<=k) hw ⟨m0,h0⟩ ?_
 intro fr hp hI
 have key:∀fr hp,(∃m,I m fr hp)->I (Classical.epsilon fun m=>I m fr hp/\∀k,I k fr hp->m<=k) fr hp/\∀k,I k fr hp->(Classical.epsilon fun m=>I m fr hp/\∀k,I k fr hp->m<=k)<=k:=fun fr hp hI=>Classical.epsilon_spec (Qarp hI)
 have e:Qra (fun fr hp=>∃m,I m fr hp) (fun fr hp=>Classical.epsilon fun m=>I m fr hp/\∀k,I k fr hp->m<=k) (Classical.epsilon fun m=>I m fr hp/\∀k,I k fr hp->m<=k)=Qnj I (Classical.epsilon fun m=>I m fr hp/\∀k,I k fr hp->m<=k):=by
  funext fr' hp'
  apply propext
  constructor
  ·rintro⟨fr0,hp0,h1,h2,h3⟩;exact⟨fr0,hp0,h1,_,h3,(key fr0 hp0 h2).1⟩
  ·rintro⟨fr0,hp0,h1,m,h2,h3⟩;exact⟨fr0,hp0,h1,⟨m,h3⟩,Nat.lt_of_le_of_lt ((key fr0 hp0 ⟨m,h3⟩).2 m h3) h2⟩
 rw[e]
 exact h _ fr hp (key fr hp hI).1
theorem Qfl{sk:List It}{x:SC}(I:Nat->Qp)(m0:Nat)(h0:I m0 fr hp)(h:∀m fr hp,I m fr hp->vc C R (.c x:: .el (Qnj I m)::sk) fr hp):vc C R (.c (.loop x)::sk) fr hp:=
 Qka I m0 (Wk.refl _ _) h0 h
theorem Qanx{α:Type}{e:Nat}{f:α->PV}:PV.le .nilS (.sl e (([]:List α).map f)):=trivial
theorem Qa{P:Program}(hP:C.P=P){g:FuncId}{first cap args pargs:List PV}{pr:Bool}{d:Option Nat}{r:PV}(h:Qd P g pargs (· =r))(hargs:(first++args++cap).map (Qam hp)=pargs)(hdat:pargs.all PV.isData=true)(hr:(first++args++cap).flatMap PV.refs=[])
  (hK:K (Qcl fr d r) hp):Qc7 C pr (.fn g first cap) args d fr hp K:=by
 refine Qdr hP h hargs hdat ?_
 rw[hr];exact hK
theorem Qc8{P:Program}(hP:C.P=P){g:FuncId}{first cap args pargs:List PV}{pr:Bool}{d:Option Nat}{Rr:PV->Prop}(h:Qd P g pargs Rr)(hargs:(first++args++cap).map (Qam hp)=pargs)(hdat:pargs.all PV.isData=true)(hr:(first++args++cap).flatMap PV.refs=[])
  (hK:∀r,Rr r->K (Qcl fr d r) hp):Qc7 C pr (.fn g first cap) args d fr hp K:=by
 refine Qwz hP h hargs hdat fun r h=> ?_
 rw[hr];exact hK r h
theorem Qah7{d β n ty:Nat}{xs ys:List PV}(hb:hp β=some ⟨1,ty,xs,false⟩)(hn:n=xs.length):
  Qlk 1 (.ms β n) (.sl 1 ys) d fr hp K=K (upd fr d (.int .i64 (min (ys.length:Int) n))) (Qw hp β ⟨1,ty,ys.take n++xs.drop ys.length,false⟩):=by
 simp[Qlk,Qec,hb,hn]
theorem Qab8{d β n ty e:Nat}{xs ys:List PV}(hb:hp β=some ⟨e,ty,xs,false⟩)(he:0<e)(hn:n=xs.length):
  Qlk e (.ms β n) (.sl e ys) d fr hp K=K (upd fr d (.int .i64 (min (ys.length:Int) n))) (Qw hp β ⟨e,ty,ys.take n++xs.drop ys.length,false⟩):=by
 simp[Qlk,Qec,hb,hn,he]
theorem Q79{by_ ty d:Nat}{kz k k':IntKind}{nz:Int}{L Cc:Int}(h1:0<=L)(h2:L<=Cc)(h3:by_*Cc<=281474976710656)(h4:Cc<=9223372036854775807):
  mkK 1 by_ ty (.int kz nz) (.int k L) (.int k' Cc) d fr hp K=K (upd (Qa7 d fr) d (.ms d L.toNat)) (Qw hp d ⟨1,ty,List.replicate L.toNat (.int kz nz),false⟩):=by
 exact Qyr (e:=1) (by omega) rfl h1 h2 h3 h4
theorem Q8a{ty β i:Nat}{xs:List PV}{k:IntKind}{n:Int}(h:i<xs.length):stM (some ⟨1,ty,xs,false⟩) β 1 i 0 (.int k n) fr hp K=K fr (Qw hp β ⟨1,ty,xs.set i (.int k n),false⟩):=
 Qgr h rfl rfl
theorem Q8b(h:HP)(a:Nat)(v w:HB):Qw (Qw h a v) a w=Qw h a w:=by funext i;unfold Qw;split<;>rfl
theorem Qany{ty d:Nat}{k:IntKind}{n:Int}:bsK 1 ty [.int k n] d fr hp K=K (upd (Qa7 d fr) d (.ms d 1)) (Qw hp d ⟨1,ty,[.int k n],false⟩):=by
 simp[bsK,Qq6,Qam,Qbh,PV.refs,PV.isData,PV.cells]
 rfl
theorem Qrb{β n e ty:Nat}{xs:List PV}{fz:Bool}{r:PV}(hb:hp β=some ⟨e,ty,xs,fz⟩)(h:PV.sl e (xs.take n)=r)(hB:isB β=false:=by decide):Qvz (· =r) (Qam hp (.ms β n)):=by
 rw[Qv0 hp β n e ty xs fz hb hB];exact Qc h (by rw[<-h];rfl)
theorem Qod{e by_ ty ty' d β γ n:Nat}{xs:List PV}{y:PV}{fz:Bool}(hb:hp β=some ⟨e,ty,xs,false⟩)(hy:hp γ=some ⟨e,ty',[y],fz⟩)(h0:0<e)(hn:n=xs.length)(h1:(n+1)*by_<=140737488355328)(h2:n+1<=9223372036854775807)(hB:isB β=false:=by decide):
  Qe5 e by_ ty (.ms β n) (.ms γ 1) d fr hp K=K (upd (Qa7 β fr) d (.ms β (n+1))) (Qw hp β ⟨e,ty,xs++[y],false⟩):=by
 subst hn
 rw[Qoc (ys:=[y]) (xs:=xs) (by simp[Qec,hy]) hb h0 (Nat.le_refl _) (by simpa using h1) (by simpa using h2) hB]
 simp
theorem Qlv(n:Nat):IntKind.u16.wrap (n:Int)=((n%65536:Nat):Int):=by simp only[IntKind.wrap,IntKind.bits,IntKind.signed];simp
theorem Qzm{bt:Bool}{k k':IntKind}{x y:Int}{d:Nat}(h:0<=y):Qbi .shr bt (.int k x) (.int k' y) d fr hp K=K (upd fr d (.int k (x.fdiv (2^(min y.toNat k.bits))))) hp:=by simp[Qbi,h]
theorem Qqb{bt:Bool}{k':IntKind}{n d:Nat}:Qbi .shr bt (.int .u64 (n:Int)) (.int k' 16) d fr hp K=K (upd fr d (.int .u64 ((n/65536:Nat):Int))) hp:=by
 rw[Qzm (by omega)]
 have:min (16:Int).toNat IntKind.u64.bits=16:=by decide
 rw[this,Int.fdiv_eq_ediv_of_nonneg _ (by omega)]
 simp
theorem Q8c{bt:Bool}{k':IntKind}{n d:Nat}:Qbi .shr bt (.int .u32 (n:Int)) (.int k' 16) d fr hp K=K (upd fr d (.int .u32 ((n/65536:Nat):Int))) hp:=by
 rw[Qzm (by omega)]
 have:min (16:Int).toNat IntKind.u32.bits=16:=by decide
 rw[this,Int.fdiv_eq_ediv_of_nonneg _ (by omega)]
 simp
end Go.FW
namespace Go.FW
def val:List Nat->Nat
 | []=>0
 |x::xs=>x+65536*val xs
def Qu(l:List Nat):Prop:=∀x∈l,x<65536
def dig(n:Nat):List Nat:=if h:n=0 then []else n%65536::dig (n/65536)
termination_by n
decreasing_by omega
def nl(n:Nat):Nat:=(dig n).length
theorem Qdb:Qu []:=by simp[Qu]
theorem Qbe{x:Nat}{l:List Nat}:Qu (x::l)↔x<65536/\Qu l:=by simp[Qu]
theorem Qcd{l m:List Nat}:Qu (l++m)↔Qu l/\Qu m:=by
 simp only[Qu,List.mem_append];constructor
 ·intro h;exact⟨fun x hx=>h x (.inl hx),fun x hx=>h x (.inr hx)⟩
 ·rintro⟨h1,h2⟩ x (hx|hx)
  ·exact h1 x hx
  ·exact h2 x hx
theorem Qg9{l:List Nat}(h:Qu l)(n:Nat):Qu (l.take n):=fun x hx=>h x (List.mem_of_mem_take hx)
theorem Qio{l:List Nat}(h:Qu l)(n:Nat):Qu (l.drop n):=fun x hx=>h x (List.mem_of_mem_drop hx)
theorem Qax{l:List Nat}(h:Qu l){i:Nat}(hi:i<l.length):l[i]<65536:=h _ (List.getElem_mem hi)
theorem Qbj:dig 0=[]:=by rw[dig];simp
theorem Qic{n:Nat}(h:n≠0):dig n=n%65536::dig (n/65536):=by rw[dig];simp[h]
theorem Qv(n:Nat):Qu (dig n):=by
 induction n using dig.induct with
 |case1=>rw[Qbj];exact Qdb
 |case2 n h ih=>rw[Qic h,Qbe];exact⟨by omega,ih⟩
theorem Qag(n:Nat):val (dig n)=n:=by
 induction n using dig.induct with
 |case1=>rw[Qbj];rfl
 |case2 n h ih=>rw[Qic h,val,ih];omega
theorem Qb3{n:Nat}:dig n=[]↔n=0:=by
 constructor
 ·intro h;have:=Qag n;rw[h]at this;exact this.symm
 ·rintro rfl;exact Qbj
theorem Qv1:nl 0=0:=by simp[nl,Qbj]
theorem Qip{n:Nat}:nl n=0↔n=0:=by rw[nl,List.length_eq_zero_iff,Qb3]
theorem Qanz{n:Nat}(h:n≠0):nl n=nl (n/65536)+1:=by simp[nl,Qic h]
theorem Qcq(l m:List Nat):val (l++m)=val l+65536^l.length*val m:=by
 induction l with
 |nil=>simp[val]
 |cons x l ih=>simp only[List.cons_append,val,ih,List.length_cons,Nat.pow_succ];rw[Nat.mul_add,<-Nat.mul_assoc,Nat.mul_comm 65536 (65536^_)];omega
theorem Qf8{l:List Nat}(h:Qu l):val l<65536^l.length:=by
 induction l with
 |nil=>simp[val]
 |cons x l ih=>rw[Qbe]at h;have:=ih h.2;simp only[val,List.length_cons,Nat.pow_succ];omega
theorem Qw0(n:Nat):val (List.replicate n 0)=0:=by
 induction n with
 |zero=>rfl
 |succ n ih=>simp[List.replicate_succ,val,ih]
theorem Qnk{l:List Nat}(h:Qu l)(hl:l.getLast? ≠some 0):dig (val l)=l:=by
 induction l with
 |nil=>simp[val,Qbj]
 | cons x l ih=>
  rw[Qbe]at h
  have hl':l.getLast? ≠some 0:=by
   intro hh;apply hl
   rw[List.getLast?_cons,hh];rfl
  have hne:val (x::l)≠0:=by
   simp only[val]
   intro h0
   have h1:val l=0:=by omega
   have:=ih h.2 hl'
   rw[h1,Qbj]at this
   subst this
   simp at hl;omega
  rw[Qic hne]
  simp only[val]
  rw[show(x+65536*val l)%65536=x by omega,show(x+65536*val l)/65536=val l by omega,ih h.2 hl']
theorem Qlw(n:Nat):(dig n).getLast? ≠some 0:=by
 induction n using dig.induct with
 |case1=>simp[Qbj]
 | case2 n h ih=>
  rw[Qic h,List.getLast?_cons]
  cases hd:(dig (n/65536)).getLast? with
  |none=>
   have:n/65536=0:=by rw[List.getLast?_eq_none_iff,Qb3]at hd;exact hd
   simp;omega
  |some y=>rw[hd]at ih;simpa using ih
def cut(l:List Nat):Nat->List Nat
 |0=>[]
 |n+1=>if l[n]? =some 0 then cut l n else l.take (n+1)
theorem Q8d{l:List Nat}(h:Qu l):∀n,n<=l.length->cut l n=dig (val (l.take n))
 |0,_=>by simp[cut,val,Qbj]
 | n+1,hn=>by
  have e:l.take (n+1)=l.take n++[l[n]]:=by rw[List.take_succ_eq_append_getElem (by omega)]
  unfold cut
  split
  ·rename_i hz
   rw[Q8d h n (by omega),e,Qcq]
   rw[List.getElem?_eq_getElem (by omega)]at hz
   have hz':l[n]=0:=by simpa using hz
   simp[val,hz']
  ·rename_i hz
   rw[Qnk (Qg9 h _)]
   rw[e,List.getLast?_concat]
   intro h0;apply hz;rw[List.getElem?_eq_getElem (by omega)];exact h0
theorem Qnl{l:List Nat}(h:Qu l):cut l l.length=dig (val l):=by rw[Q8d h _ (Nat.le_refl _),List.take_length]
theorem Qaz{l:List Nat}(h:Qu l):nl (val l)<=l.length:=by
 rw[nl,<-Qnl h]
 have:∀n,(cut l n).length<=n:=by
  intro n
  induction n with
  |zero=>simp[cut]
  |succ n ih=>
   unfold cut
   split
   ·omega
   ·simp;omega
 have h1:=this l.length
 exact h1
theorem Qgo{n k:Nat}:nl n<=k↔n<65536^k:=by
 induction k generalizing n with
 |zero=>simp[Qip]
 | succ k ih=>
  by_cases h:n=0
  ·subst h;simp[Qv1]
   exact Nat.pow_pos (by omega)
  ·rw[Qanz h,Nat.add_le_add_iff_right,ih,Nat.pow_succ,Nat.div_lt_iff_lt_mul (by omega)]
theorem Qb8{m n:Nat}(h:m<=n):nl m<=nl n:=Qgo.2 (Nat.lt_of_le_of_lt h (Qgo.1 (Nat.le_refl _)))
theorem Q8e(m n:Nat):nl (m+n)<=max (nl m) (nl n)+1:=by
 rw[Qgo,Nat.pow_succ]
 have h1:m<65536^(max (nl m) (nl n)):=Qgo.1 (by omega)
 have h2:n<65536^(max (nl m) (nl n)):=Qgo.1 (by omega)
 omega
theorem Qgs(m n:Nat):nl (m*n)<=nl m+nl n:=by
 rw[Qgo,Nat.pow_add]
 exact Nat.mul_lt_mul'' (Qgo.1 (Nat.le_refl _)) (Qgo.1 (Nat.le_refl _))
theorem Qe0{n:Nat}(h:n<18446744073709551616):nl n<=4:=Qgo.2 (by simpa using h)
theorem Qmd{n:Nat}:nl n<=4↔n<18446744073709551616:=by rw[Qgo]
theorem Qha:dig 1=[1]:=by rw[Qic (by omega)];simp[Qbj]
open Go
variable {C : Ctx} {ρ : Nat -> Option Nat} {fr : Fr} {hp : HP} {w : World} {K R : Qp}
abbrev Qbk(l:List Nat):List PV:=l.map fun(x:Nat)=> .int .u16 x
abbrev Qkn(l:List Int):List PV:=l.map fun(x:Int)=> .int .i64 x
theorem Qan0(a b:Nat):(a:Int)+(b:Int)=((a+b:Nat):Int):=rfl
theorem Qah8(a:Nat):(a:Int)+1=((a+1:Nat):Int):=rfl
theorem Qah9(a:Nat):(a:Int)+2=((a+2:Nat):Int):=rfl
theorem Qaia(a:Nat):(a:Int)+3=((a+3:Nat):Int):=rfl
theorem Qan1(a b:Nat):(a:Int)*(b:Int)=((a*b:Nat):Int):=rfl
theorem Qaib{α:Type}{f:α->PV}{e d:Nat}{k:IntKind}{i:Nat}{xs:List α}(h:i<xs.length):
  Qe4 e (.sl e (xs.map f)) (.int k (i:Int)) d fr hp K=K (upd fr d (.pt (f (xs[i]'h)).cells)) hp:=by
 rw[Qk7 (by omega) (by omega)];rfl
theorem Qaic{e d β o n i:Nat}{k:IntKind}(h:i<n)(he:(hp β).map (·.e)=some e):Qe4 e (.mso β o n) (.int k (i:Int)) d fr hp K=K (upd fr d (.mp β (o+i) 0)) hp:=by
 rw[Qanv (by omega) (by omega) he];rfl
theorem Qan2{α:Type}{f:α->PV}{e d:Nat}{xs:List α}{k:IntKind}{n:Nat}(h5:n<=xs.length):
  slK e (.sl e (xs.map f)) none (some (.int k (n:Int))) none d fr hp K=K (upd fr d (.sl e ((xs.take n).map f))) hp:=by
 rw[Qj9 (by omega) (by omega)];rfl
theorem Qan3{α:Type}{f:α->PV}{e d:Nat}{xs:List α}{k:IntKind}{n:Nat}(h5:n<=xs.length):
  slK e (.sl e (xs.map f)) (some (.int k (n:Int))) none none d fr hp K=K (upd fr d (.sl e ((xs.drop n).map f))) hp:=by
 rw[Q73 (by omega) (by omega)];rfl
theorem Qab9{α:Type}{f:α->PV}{e d:Nat}{xs:List α}{k k':IntKind}{m n:Nat}(h4:m<=n)(h5:n<=xs.length):
  slK e (.sl e (xs.map f)) (some (.int k (m:Int))) (some (.int k' (n:Int))) none d fr hp K=K (upd fr d (.sl e (((xs.take n).drop m).map f))) hp:=by
 rw[Q2m (by omega) (by omega) (by omega)];rfl
theorem Qan4{by_ ty d:Nat}{k k':IntKind}{n c:Nat}(h2:n<=c)(h3:by_*c<=281474976710656)(h4:c<=9223372036854775807):
  mkK 1 by_ ty (.int .u16 0) (.int k (n:Int)) (.int k' (c:Int)) d fr hp K=K (upd (Qa7 d fr) d (.ms d n)) (Qw hp d ⟨1,ty,Qbk (List.replicate n 0),false⟩):=by
 rw[Q79 (by omega) (by omega) (by omega) (by omega)]
 simp[Qbk]
theorem Qan5{ty i d:Nat}{fz:Bool}{l:List Nat}(h:i<l.length):ldM (some ⟨1,ty,Qbk l,fz⟩) 1 false i 0 d fr hp K=K (upd fr d (.int .u16 (l[i]'h:Nat))) hp:=by
 rw[Qj8 (by simpa using h) (by omega) (by simp)];simp[ldV,PV.cells]
theorem Qan6{ty i d:Nat}{fz:Bool}{l:List Int}(h:i<l.length):ldM (some ⟨1,ty,Qkn l,fz⟩) 1 false i 0 d fr hp K=K (upd fr d (.int .i64 (l[i]'h))) hp:=by
 rw[Qj8 (by simpa using h) (by omega) (by simp)];simp[ldV,PV.cells]
theorem Q8f{ty β i v:Nat}{l:List Nat}(h:i<l.length):stM (some ⟨1,ty,Qbk l,false⟩) β 1 i 0 (.int .u16 (v:Int)) fr hp K=K fr (Qw hp β ⟨1,ty,Qbk (l.set i v),false⟩):=by
 rw[Q8a (by simpa using h)];simp[Qbk,List.map_set]
theorem Qan7{ty β i:Nat}{v:Int}{l:List Int}(h:i<l.length):stM (some ⟨1,ty,Qkn l,false⟩) β 1 i 0 (.int .i64 v) fr hp K=K fr (Qw hp β ⟨1,ty,Qkn (l.set i v),false⟩):=by
 rw[Q8a (by simpa using h)];simp[Qkn,List.map_set]
theorem Qaca{β n ty:Nat}{l:List Nat}{fz:Bool}(h:hp β=some ⟨1,ty,Qbk l,fz⟩)(hn:n=l.length)(hB:isB β=false:=by decide):Qam hp (.ms β n)= .sl 1 (Qbk l):=by
 rw[Qv0 hp β n _ _ _ _ h hB,List.take_of_length_le (by simp[hn])]
theorem Qgt{P:Program}(hP:C.P=P){g:FuncId}{first cap args pargs:List PV}{pr:Bool}{d:Option Nat}{r:PV}(h:Qd P g pargs (· =r))(hargs:(first++args++cap).map (Qam hp)=pargs)(hdat:pargs.all PV.isData=true)
  (hK:∀hp',K (Qcl fr d r) hp'):Qc7 C pr (.fn g first cap) args d fr hp K:=Qdr hP h hargs hdat (hK _)
end Go.FW
namespace Go.FW
def Qeo(x y:Nat):Int:=if x<y then -1 else if y<x then 1 else 0
theorem Qv2{x y:Nat}(h:x<y):Qeo x y= -1:=by simp[Qeo,h]
theorem Qv3{x y:Nat}(h:y<x):Qeo x y=1:=by simp[Qeo,h];omega
theorem Q30{x y:Nat}(h:x=y):Qeo x y=0:=by simp[Qeo,h]
theorem Qzn{x y:Nat}(h:nl x<nl y):x<y:=by
 rcases Nat.lt_or_ge x y with h1|h1
 ·exact h1
 ·have:=Qb8 h1;omega
theorem Qd7(l:List Nat)(k:Nat)(hk:k<=l.length):val l=val (l.take k)+65536^k*val (l.drop k):=by
 have:=Qcq (l.take k) (l.drop k)
 rw[List.take_append_drop,List.length_take,Nat.min_eq_left hk]at this
 exact this
theorem Qes{l:List Nat}(h:Qu l)(k:Nat)(hk:k<=l.length):val (l.take k)<65536^k:=by
 have:=Qf8 (Qg9 h k)
 rwa[List.length_take,Nat.min_eq_left hk]at this
theorem Qc9{l:List Nat}{k:Nat}(hk:k<l.length):val (l.drop k)=l[k]+65536*val (l.drop (k+1)):=by
 rw[List.drop_eq_getElem_cons hk,val]
theorem Q2n{a b:List Nat}(ha:Qu a){k:Nat}(hka:k<=a.length)(hkb:k<=b.length)(h:val (a.drop k)<val (b.drop k)):val a<val b:=by
 rw[Qd7 a k hka,Qd7 b k hkb]
 have h1:=Qes ha k hka
 have h2:65536^k*(val (a.drop k)+1)<=65536^k*val (b.drop k):=Nat.mul_le_mul_left _ h
 rw[Nat.mul_add]at h2
 omega
theorem Qw1{a b:List Nat}(ha:Qu a){k:Nat}(hka:k<a.length)(hkb:k<b.length)(h:a[k]<b[k])(he:val (a.drop (k+1))=val (b.drop (k+1))):val a<val b:=by
 refine Q2n ha (k:=k) (by omega) (by omega) ?_
 rw[Qc9 hka,Qc9 hkb,he];omega
def Qft:List Nat->List Nat->Nat->List Nat
 | [],_,c=>if c=0 then []else [c]
 |x::xs,ys,c=>(c+x+ys.headD 0)%65536::Qft xs ys.tail ((c+x+ys.headD 0)/65536)
theorem Qkb(l:List Nat):val l=l.headD 0+65536*val l.tail:=by cases l<;>simp[val]
theorem Qzo:∀(a b:List Nat)(c:Nat),b.length<=a.length->val (Qft a b c)=val a+val b+c
 | [],b,c,h=>by
  have:b=[]:=List.length_eq_zero_iff.1 (by simpa using h)
  subst this
  unfold Qft;split<;>simp[val];omega
 |x::xs,b,c,h=>by
  rw[Qft,val,Qzo xs b.tail _ (by simp at h ⊢;omega),val,Qkb b]
  omega
theorem Qt4:∀(a b:List Nat)(c:Nat),c<65536->Qu a->Qu b->b.length<=a.length->Qu (Qft a b c)
 | [],b,c,hc,_,_,_=>by unfold Qft;split<;>simp[Qu];exact hc
 |x::xs,b,c,hc,ha,hb,h=>by
  rw[Qbe]at ha
  have hb0:b.headD 0<65536:=by cases b with|nil=>simp|cons y ys=>exact hb _ (by simp)
  rw[Qft,Qbe]
  exact⟨by omega,Qt4 xs b.tail _ (by omega) ha.2 (fun x hx=>hb x (List.mem_of_mem_tail hx)) (by simp at h ⊢;omega)⟩
theorem Qw2:∀(a b:List Nat)(c:Nat),a.getLast? ≠some 0->(Qft a b c).getLast? ≠some 0
 | [],b,c,_=>by unfold Qft;split<;>simp;assumption
 | x::xs,b,c,h=>by
  rw[Qft,List.getLast?_cons]
  cases xs with
  |nil=>
   simp only[List.getLast?_singleton,ne_eq,Option.some.injEq]at h
   simp only[Qft]
   generalize b.headD 0=y
   split
   ·rename_i h0;simp;omega
   ·rename_i h0;simp;omega
  |cons y ys=>
   have ih:=Qw2 (y::ys) b.tail ((c+x+b.headD 0)/65536) (by rw[List.getLast?_cons]at h;simpa[List.getLast?_cons]using h)
   cases hl:(Qft (y::ys) b.tail ((c+x+b.headD 0)/65536)).getLast? with
   |none=>rw[List.getLast?_eq_none_iff]at hl;simp[Qft]at hl
   |some z=>rw[hl]at ih;simpa using ih
theorem Qacb{x y:Nat}(h:nl y<=nl x):Qft (dig x) (dig y) 0=dig (x+y):=by
 have h1:=Qzo (dig x) (dig y) 0 h
 rw[Qag,Qag,Nat.add_zero]at h1
 rw[<-h1,Qnk (Qt4 _ _ _ (by omega) (Qv x) (Qv y) h) (Qw2 _ _ _ (Qlw x))]
def Qh6:List Nat->List Nat->Nat->List Nat
 | [],_,_=>[]
 |x::xs,ys,c=>(x+65536-c-ys.headD 0)%65536::Qh6 xs ys.tail (if x<c+ys.headD 0 then 1 else 0)
theorem Qt5:∀(a b:List Nat)(c:Nat),Qu (Qh6 a b c)
 | [],_,_=>Qdb
 |x::xs,b,c=>by rw[Qh6,Qbe];exact⟨by omega,Qt5 xs _ _⟩
theorem Qrw:∀(a b:List Nat)(c:Nat),(Qh6 a b c).length=a.length
 | [],_,_=>rfl
 |x::xs,b,c=>by simp[Qh6,Qrw xs]
theorem Qzp:∀(a b:List Nat)(c:Nat),c<=1->Qu a->Qu b->b.length<=a.length->val b+c<=val a->val (Qh6 a b c)+val b+c=val a
 | [],b,c,_,_,_,h,h2=>by
  have:b=[]:=List.length_eq_zero_iff.1 (by simpa using h)
  subst this
  simp[val]at h2 ⊢;simp[Qh6,val,h2]
 |x::xs,b,c,hc,ha,hb,h,h2=>by
  rw[Qbe]at ha
  have hb0:b.headD 0<65536:=by cases b with|nil=>simp|cons y ys=>exact hb _ (by simp)
  rw[val,Qkb b]at h2
  rw[Qh6,val,val,Qkb b]
  have ih:=Qzp xs b.tail (if x<c+b.headD 0 then 1 else 0) (by split<;>omega) ha.2 (fun x hx=>hb x (List.mem_of_mem_tail hx)) (by simp at h ⊢;omega) (by generalize b.headD 0=y at *;split<;>omega)
  generalize b.headD 0=y at *
  split at ih
  ·rename_i h0;rw[if_pos h0];omega
  ·rename_i h0;rw[if_neg h0];omega
theorem Qfm{done:List Nat}{i n v:Nat}(h:done.length=i)(hn:0<n):(done++List.replicate n 0).set i v=(done++[v])++List.replicate (n-1) 0:=by
 subst h
 obtain⟨n,rfl⟩:∃k,n=k+1:=⟨n-1,by omega⟩
 simp[List.replicate_succ]
theorem Qs3{done:List Nat}{i n m:Nat}(h:done.length=i)(hn:i+n=m):(done++List.replicate n 0).length=m:=by simp[h,hn]
theorem Q8g{a b:List Nat}{i c:Nat}(h:i<a.length):Qft (a.drop i) (b.drop i) c=(c+a[i]+b.getD i 0)%65536::Qft (a.drop (i+1)) (b.drop (i+1)) ((c+a[i]+b.getD i 0)/65536):=by
 rw[List.drop_eq_getElem_cons h,Qft]
 simp[List.headD_eq_head?_getD,List.head?_drop,List.getD_eq_getElem?_getD]
theorem Q8h{a b:List Nat}{i c:Nat}(h:i<a.length):Qh6 (a.drop i) (b.drop i) c=(a[i]+65536-c-b.getD i 0)%65536::Qh6 (a.drop (i+1)) (b.drop (i+1)) (if a[i]<c+b.getD i 0 then 1 else 0):=by
 rw[List.drop_eq_getElem_cons h,Qh6]
 simp[List.headD_eq_head?_getD,List.head?_drop,List.getD_eq_getElem?_getD]
theorem Qbz{b:List Nat}{i:Nat}(h:i<b.length):b.getD i 0=b[i]:=by simp[List.getD_eq_getElem?_getD,h]
theorem Qb0{b:List Nat}{i:Nat}(h:¬i<b.length):b.getD i 0=0:=by simp[List.getD_eq_getElem?_getD,h]
open Go
variable {C : Ctx} {ρ : Nat -> Option Nat} {fr : Fr} {hp : HP} {w : World} {K K' R : Qp}
theorem Qs4(h:∀fr hp,K fr hp->K' fr hp)(o:SOp):opV C o fr hp K->opV C o fr hp K':=by
 cases o with
 | call d pr f args=>
  simp only[opV,Qc7]
  split
  ·rintro⟨h1,h2⟩
   refine⟨h1,fun ρ tmps w fv cv av a1 a2 a3 a4 a5 a6 a7 a8=>(h2 ρ tmps w fv cv av a1 a2 a3 a4 a5 a6 a7 a8).mono ?_⟩
   rintro e w' ⟨v,fr',hp',e1,e2,e3,e4⟩
   exact⟨v,fr',hp',e1,e2,e3,h _ _ e4⟩
  ·exact id
 | app d e by_ ty s x=>
  simp only[opV,Qe5]
  intro H;revert H
  split
  ·exact id
  ·rintro⟨h0,h1,H⟩
   refine⟨h0,h1,?_⟩
   revert H
   split
   ·rintro⟨a,b,c⟩;exact⟨a,b,h _ _ c⟩
   ·split
    ·rintro(⟨a1,a2,a3,a4,a5,a6,a7,c⟩|⟨a1,a2,a3,c⟩)
     ·exact .inl ⟨a1,a2,a3,a4,a5,a6,a7,h _ _ c⟩
     ·exact .inr ⟨a1,a2,a3,h _ _ c⟩
    ·exact id
   ·exact id
 |bin d op bt x y=>
  simp only[opV,Qbi]
  intro H;revert H
  split
  ·split<;>first|exact fun H=>⟨H.1,H.2.1,h _ _ H.2.2⟩|exact fun H=>⟨H.1,h _ _ H.2⟩|exact id
  ·split<;>first|exact fun H=>⟨H.1,h _ _ H.2⟩|exact id
  ·exact id
 | _=>
  simp only[opV,Qmw,Qks,unK,Qn1,Qkl,mxK,mnK,Qe4,Ql7,Qp1,Qmx,Qjn,ldK,stK,Qey,mkK,bsK,Qe5,Qlk,slK,Qll,Qh1,Qyp,Qtq]
  try (intro H;revert H)
  try (repeat' split)
  all_goals first
   |exact id
   |exact h _ _
   |grind
theorem Qt6(h:∀fr hp,K fr hp->K' fr hp)(o:SOp):Qem o fr hp K->Qem o fr hp K':=by
 unfold Qem;split<;>exact h _ _
theorem Q8i(h:∀fr hp,K fr hp->K' fr hp)(g:Option (Nat×Bool))(o:SOp):Qkm C g o fr hp K->Qkm C g o fr hp K':=by
 unfold Qkm
 split
 ·exact Qs4 h o
 ·split
  ·exact fun H=>⟨fun e=>Qs4 h o (H.1 e),fun e=>Qt6 h o (H.2 e)⟩
  ·exact Qt6 h o
  ·exact id
theorem Q8j{sk:List It}{g:Option (Nat×Bool)}{o:SOp}{r:RT}:vc C R (.o (.o g o r)::sk) fr hp=Qkm C g o fr hp (fun fr hp=>vc C R (.o r::sk) fr hp):=by rw[vc]
theorem Q8k{sk:List It}{x y:RT}:vc C R (.o (.br x y)::sk) fr hp=(vc C R (.o x::sk) fr hp/\vc C R (.o y::sk) fr hp):=by rw[vc]
theorem Qiq{id:Nat}{M:Qp}{sk:List It}:∀(pre:List It),(∃p,FW.Qat id (pre++ .el M::sk)=some (p++ .el M::sk)/\FW.Qat id (pre++sk)=some (p++sk)/\Qbd p<=Qbd pre)∨FW.Qat id (pre++ .el M::sk)=FW.Qat id (pre++sk)
 | []=> .inr rfl
 | .c s::pre=>by
  rcases Qiq (id:=id) (M:=M) (sk:=sk) pre with⟨p,h1,h2,h3⟩|h
  ·exact .inl ⟨p,h1,h2,by simp only[Qbd];omega⟩
  ·exact .inr h
 | .o s::pre=>by
  rcases Qiq (id:=id) (M:=M) (sk:=sk) pre with⟨p,h1,h2,h3⟩|h
  ·exact .inl ⟨p,h1,h2,by simp only[Qbd];omega⟩
  ·exact .inr h
 | .el s::pre=>by
  rcases Qiq (id:=id) (M:=M) (sk:=sk) pre with⟨p,h1,h2,h3⟩|h
  ·exact .inl ⟨p,h1,h2,by simp only[Qbd];omega⟩
  ·exact .inr h
 | .eb i::pre=>by
  by_cases hi:i=id
  ·exact .inl ⟨pre,by simp[FW.Qat,hi],by simp[FW.Qat,hi],by simp only[Qbd];omega⟩
  ·rcases Qiq (id:=id) (M:=M) (sk:=sk) pre with⟨p,h1,h2,h3⟩|h
   ·exact .inl ⟨p,by simp[FW.Qat,hi,h1],by simp[FW.Qat,hi,h2],by simp only[Qbd];omega⟩
   ·exact .inr (by simp[FW.Qat,hi,h])
theorem Qrc{M:Qp}{sk:List It}(hM:∀fr hp,M fr hp->vc C R sk fr hp):∀(n:Nat)(pre:List It)(fr:Fr)(hp:HP),Qbd pre<=n->vc C R (pre++ .el M::sk) fr hp->vc C R (pre++sk) fr hp:=by
 intro n
 induction n with
 | zero=>
  intro pre fr hp hn h
  cases pre with
  |nil=>simp only[List.nil_append,Qn6]at h ⊢;exact hM _ _ h
  |cons i pre=>
   exfalso
   have:=SC.sz_pos
   cases i<;>simp only[Qbd,It.sz]at hn
   ·rename_i s;have:=SC.sz_pos s;omega
   ·rename_i s;have:=RT.sz_pos s;omega
   ·omega
   ·omega
 | succ n ih=>
  intro pre fr hp hn h
  cases pre with
  |nil=>simp only[List.nil_append,Qn6]at h ⊢;exact hM _ _ h
  | cons i pre=>
   cases i with
   |eb i=>
    simp only[List.cons_append,Qyq]at h⊢
    exact ih _ _ _ (by simp only[Qbd,It.sz]at hn;omega) h
   |el J=>simp only[List.cons_append,Qn6]at h ⊢;exact h
   | o r=>
    cases r with
    |nil=>
     simp only[List.cons_append,Qp7]at h⊢
     exact ih _ _ _ (by simp only[Qbd,It.sz,RT.sz]at hn;omega) h
    |o g o r=>
     simp only[List.cons_append,Q8j]at h⊢
     refine Q8i (fun fr hp h=> ?_) g o h
     exact ih (.o r::pre) _ _ (by simp only[Qbd,It.sz,RT.sz]at hn ⊢;omega) h
    |wk r=>
     simp only[List.cons_append,Qtz]at h⊢
     obtain⟨fr0,hp0,hw,h⟩:=h
     exact⟨fr0,hp0,hw,ih (.o r::pre) _ _ (by simp only[Qbd,It.sz,RT.sz]at hn ⊢;omega) h⟩
    |br x y=>
     simp only[List.cons_append,Q8k]at h⊢
     exact⟨ih (.o x::pre) _ _ (by simp only[Qbd,It.sz,RT.sz]at hn ⊢;omega) h.1,ih (.o y::pre) _ _ (by simp only[Qbd,It.sz,RT.sz]at hn ⊢;omega) h.2⟩
   | c s=>
    cases s with
    |skip=>
     simp only[List.cons_append,Qq7]at h⊢
     exact ih _ _ _ (by simp only[Qbd,It.sz,SC.sz]at hn;omega) h
    |rg r=>
     simp only[List.cons_append,Q5h]at h⊢
     exact ih (.o r::pre) _ _ (by simp only[Qbd,It.sz,SC.sz]at hn ⊢;omega) h
    |raw id ops=>
     simp only[List.cons_append]at h⊢
     rw[vc]at h⊢
     intro tmps w Q hs hQ
     refine h tmps w Q hs fun fr' hp' tmps' w' hs' hv=>hQ fr' hp' tmps' w' hs' ?_
     exact ih _ _ _ (by simp only[Qbd,It.sz,SC.sz]at hn;omega) hv
    |seq a b=>
     simp only[List.cons_append,Qt1]at h⊢
     exact ih (.c a:: .c b::pre) _ _ (by simp only[Qbd,It.sz,SC.sz]at hn ⊢;omega) h
    |block id a=>
     simp only[List.cons_append,Qn5]at h⊢
     exact ih (.c a:: .eb id::pre) _ _ (by simp only[Qbd,It.sz,SC.sz]at hn ⊢;omega) h
    |ret=>simp only[List.cons_append,Qt2]at h ⊢;exact h
    |cond c x y=>
     simp only[List.cons_append,Qq8]at h⊢
     unfold Qkx at h⊢
     split at h
     ·exact⟨fun e=>ih (.c x::pre) _ _ (by simp only[Qbd,It.sz,SC.sz]at hn ⊢;omega) (h.1 e),fun e=>ih (.c y::pre) _ _ (by simp only[Qbd,It.sz,SC.sz]at hn ⊢;omega) (h.2 e)⟩
     ·exact h
    | exit id=>
     simp only[List.cons_append,Qq9]at h⊢
     rcases Qiq (id:=id) (M:=M) (sk:=sk) pre with⟨p,h1,h2,h3⟩|he
     ·rw[h1]at h;rw[h2]
      simp only[Qn7]at h⊢
      exact ih _ _ _ (by simp only[Qbd,It.sz,SC.sz]at hn;omega) h
     ·rw[he]at h;exact h
    |loop a=>
     simp only[List.cons_append,Qg7]at h⊢
     obtain⟨I,μ,h1,h2⟩:=h
     refine⟨I,μ,h1,fun fr hp hI=> ?_⟩
     exact ih (.c a:: .el _::pre) _ _ (by simp only[Qbd,It.sz,SC.sz]at hn ⊢;omega) (h2 fr hp hI)
theorem Qid{c:PV}{x y:SC}{sk:List It}(M:Qp)(h:Qgn C R c x y (.el M::sk) fr hp)(hM:∀fr hp,M fr hp->vc C R sk fr hp):Qgn C R c x y sk fr hp:=by
 unfold Qgn Qkx at h⊢
 split at h
 ·exact⟨fun e=>Qrc hM _ [.c x] _ _ (Nat.le_refl _) (h.1 e),fun e=>Qrc hM _ [.c y] _ _ (Nat.le_refl _) (h.2 e)⟩
 ·exact h
end Go.FW
namespace Go.FW
open Go
variable {C : Ctx} {ρ : Nat -> Option Nat} {fr : Fr} {hp : HP} {w : World} {K K' R : Qp}
def Qys(R:PV->Prop)(p q:PV):Prop:=(p.isData=true/\q.isData=true)/\∃r,PV.leR (.tup [p,q]) r/\R r
def Qyt(R:PV->Prop)(p q s:PV):Prop:=(p.isData=true/\q.isData=true/\s.isData=true)/\∃r,PV.leR (.tup [p,q,s]) r/\R r
def Qahp(R:PV->Prop):Prop:=∃r,PV.leR (.tup []) r/\R r
theorem Qan8{a b:Nat}{Rr:PV->Prop}:Qdv [.t a,.t b] Rr fr hp=Qys Rr (Qam hp (fr a)) (Qam hp (fr b)):=by simp[Qdv,Qys,okR,rvP]
theorem Qan9{a b c:Nat}{Rr:PV->Prop}:Qdv [.t a,.t b,.t c] Rr fr hp=Qyt Rr (Qam hp (fr a)) (Qam hp (fr b)) (Qam hp (fr c)):=by simp[Qdv,Qyt,okR,rvP]
theorem Qaoa{Rr:PV->Prop}:Qdv [] Rr fr hp=Qahp Rr:=by simp[Qdv,Qahp]
theorem Qd8{p q p' q' r:PV}(h:r= .tup [p',q'])(d1:p.isData=true)(d2:q.isData=true)(h1:PV.le p p')(h2:PV.le q q'):Qys (· =r) p q:=⟨⟨d1,d2⟩,r,by subst h;exact⟨h1,h2,trivial⟩,rfl⟩
theorem Qhi{p q s p' q' s' r:PV}(h:r= .tup [p',q',s'])(d1:p.isData=true)(d2:q.isData=true)(d3:s.isData=true)(h1:PV.le p p')(h2:PV.le q q')(h3:PV.le s s'):Qyt (· =r) p q s:=⟨⟨d1,d2,d3⟩,r,by subst h;exact⟨h1,h2,h3,trivial⟩,rfl⟩
theorem Qgu{p q:PV}(h:p=q):PV.le p q:=h▸Qab p
theorem Qlx{β n ty:Nat}{l:List Nat}{fz:Bool}(h:hp β=some ⟨1,ty,Qbk l,fz⟩)(hn:n=l.length)(hB:isB β=false:=by decide):(([]:List PV)++[PV.ms β n]++([]:List PV)).map (Qam hp)=[.sl 1 (Qbk l)]:=by
 simp[Qaca h hn hB]
theorem Qdl{n:Nat}(h:(dig n).length=0):dig n=[]:=List.length_eq_zero_iff.1 h
abbrev PV.nat(l:List Nat):PV:= .sl 1 (Qbk l)
abbrev PV.num(n:Nat):PV:=PV.nat (dig n)
theorem Qje:PV.le .nilS (PV.num 0):=by rw[PV.num,Qbj];trivial
theorem Qnm{n:Nat}(h:n=0):PV.le .nilS (PV.num n):=by subst h;exact Qje
end Go.FW
namespace Go.FW
def Qgg:List Nat->List Nat->Nat->Nat->List Nat
 |r::rs,y::ys,x,c=>(c+(r+x*y))%65536::Qgg rs ys x ((c+(r+x*y))/65536)
 |_,_,_,c=>[c]
theorem Qzq:∀(r b:List Nat)(x c:Nat),r.length=b.length->val (Qgg r b x c)=val r+x*val b+c
 | [],[],x,c,_=>by simp[Qgg,val]
 |r::rs,y::ys,x,c,h=>by
  rw[Qgg,val,Qzq rs ys x _ (by simpa using h),val,val,Nat.mul_add x,Nat.mul_left_comm x 65536]
  generalize x*y=p
  generalize x*val ys=q
  omega
 | [],_::_,_,_,h=>by simp at h
 |_::_,[],_,_,h=>by simp at h
theorem Qfy{x y:Nat}(hx:x<65536)(hy:y<65536):x*y<=4294836225:=by
 have:=Nat.mul_le_mul (show x<=65535 by omega) (show y<=65535 by omega)
 omega
theorem Qt7:∀(r b:List Nat)(x c:Nat),c<65536->x<65536->Qu r->Qu b->Qu (Qgg r b x c)
 |r::rs,y::ys,x,c,hc,hx,hr,hb=>by
  rw[Qbe]at hr hb
  have:=Qfy hx hb.1
  rw[Qgg,Qbe]
  exact⟨by omega,Qt7 rs ys x _ (by omega) hx hr.2 hb.2⟩
 | [],_,x,c,hc,_,_,_=>by simp[Qgg,Qu];exact hc
 |_::_,[],x,c,hc,_,_,_=>by simp[Qgg,Qu];exact hc
theorem Qrx:∀(r b:List Nat)(x c:Nat),r.length=b.length->(Qgg r b x c).length=r.length+1
 |r::rs,y::ys,x,c,h=>by simp[Qgg,Qrx rs ys x _ (by simpa using h)]
 | [],[],x,c,_=>rfl
 | [],_::_,_,_,h=>by simp at h
 |_::_,[],_,_,h=>by simp at h
theorem Qrd{p t:List Nat}{r j:Nat}(h:p.length=j)(hj:j<(p++r::t).length):(p++r::t)[j]=r:=by subst h;simp
theorem Qco{p t:List Nat}{r j v:Nat}(h:p.length=j):(p++r::t).set j v=p++v::t:=by subst h;simp
theorem Qf9{l:List Nat}{i:Nat}(h:i<l.length):val (l.take (i+1))=val (l.take i)+65536^i*l[i]:=by
 rw[List.take_succ_eq_append_getElem h,Qcq,List.length_take,Nat.min_eq_left (by omega)];simp[val]
theorem Qacc{a lo b:List Nat}{i:Nat}(h:i<a.length)(hl:lo.length=i+b.length)(hv:val lo=val (a.take i)*val b):
  val (lo.take i++Qgg (lo.drop i) b a[i] 0)=val (a.take (i+1))*val b:=by
 rw[Qcq,Qzq _ _ _ _ (by simp[hl]),Qf9 h,List.length_take,Nat.min_eq_left (by omega),Nat.add_mul,<-hv,Qd7 lo i (by omega),Nat.add_zero,Nat.mul_add,Nat.mul_assoc]
 omega
open Go
variable {C : Ctx} {ρ : Nat -> Option Nat} {fr : Fr} {hp : HP} {w : World} {K K' R : Qp}
def B0:Nat:=1000000
def Qir(xs:List PV):Prop:=∀x∈xs,∃k n,x= .int k n
theorem Qfn(l:List Nat):Qir (Qbk l):=by
 intro x hx;simp only[Qbk,List.mem_map]at hx;obtain⟨n,_,rfl⟩:=hx;exact⟨_,_,rfl⟩
def Qjf(w:World)(b:Nat)(ty:TypeId)(xs:List PV):Prop:=Qir xs/\∃(cur:Array Value)(cap:Nat),w.heap[b]? =some (.cells cur ty (0,0))/\cur.size=cap*1/\xs.length<=cap/\cap<=maxLen/\
 ∀(i:Nat)(k:IntKind)(n:Int),xs[i]? =some (.int k n)->cur.getD i undef= .int k n
theorem Qjf.toB{b:Nat}{ty:TypeId}{xs:List PV}{fz:Bool}{X:Nat->Prop}(h:Qjf w b ty xs):Qvs w X b ⟨1,ty,xs,fz⟩:=by
 obtain⟨hi,cur,cap,h1,h2,h3,h4,h5⟩:=h
 refine⟨cur,cap,h1,h2,h3,h4,fun i x hx j y hy=> ?_⟩
 obtain⟨k,n,rfl⟩:=hi x (List.mem_of_getElem? hx)
 cases j with
 |zero=>
  simp[PV.cells]at hy;subst hy
  rw[Nat.mul_one,Nat.add_zero,h5 i k n hx]
  exact Qae.int k n
 |succ j=>simp[PV.cells]at hy
theorem Qjf.ofB{b:Nat}{ty:TypeId}{xs:List PV}{fz:Bool}{X:Nat->Prop}(h:Qvs w X b ⟨1,ty,xs,fz⟩)(hi:Qir xs):Qjf w b ty xs:=by
 obtain⟨cur,cap,h1,h2,h3,h4,h5⟩:=h
 refine⟨hi,cur,cap,h1,h2,h3,h4,fun i k n hx=> ?_⟩
 have:=h5 i _ hx 0 (.int k n) rfl
 simp only[Nat.mul_one,Nat.add_zero]at this
 generalize hg:cur.getD i undef=v at this
 cases this;rfl
theorem Qoe{xs:List PV}(h:Qir xs):∀(i:Nat)(x:PV),xs[i]? =some x->x.cells.length=1/\x.isData=true:=by
 intro i x hx
 obtain⟨k,n,rfl⟩:=h x (List.mem_of_getElem? hx)
 exact⟨rfl,rfl⟩
def Win(w:World)(b len:Nat)(o n:Nat)(v:Value):Prop:=o+n<=len/\∃cap,v= .slice (some ⟨b,o*1,none⟩) n cap/\Qbm w b 1 (o+cap)/\o+cap<=maxLen
def ArgM(w:World)(X:Nat->Prop)(b len:Nat)(p:PV)(v:Value):Prop:=match p with
 | .mso β o n=>β=B0/\Win w b len o n v
 |p=>Qas w X p v
def ResM(w:World)(X:Nat->Prop)(b len:Nat)(p:PV)(v:Value):Prop:=match p with
 | .mso β o n=>β=B0/\Win w b len o n v
 |p=>Qc4 w X p v
def Qk8(P:Program)(f:FuncId)(args:List PV)(ty:TypeId)(xs:List PV)(Post:PV->List PV->Prop):Prop:=
 Qlt P f/\∀(w:World)(X:Nat->Prop)(b:Nat)(vals:Array Value),(∀c,X c->c<w.heap.size)->X b->vals.size=args.length->Qjf w b ty xs->0<xs.length->
  (∀(i:Nat)(x:PV),args[i]? =some x->ArgM w X b xs.length x (vals.getD i undef))->
  Calls P f vals w fun e w'=>∃v r xs',e= .returned v/\Ext (fun c=>c=b) w w'/\(∀e cap,Qbm w b e cap->Qbm w' b e cap)/\Qjf w' b ty xs'/\xs'.length=xs.length/\ResM w' X b xs.length r v/\Post r xs'
def Qkz(rs:List RV)(ty:TypeId)(len:Nat)(Post:PV->List PV->Prop):Qp:=fun fr hp=>
 ∃xs',hp B0=some ⟨1,ty,xs',false⟩/\Qir xs'/\xs'.length=len/\
  (Qdv rs (fun r=>(∀β o n,r≠ .mso β o n)/\Post r xs') fr hp∨∃s o n,rs=[.t s]/\fr s= .mso B0 o n/\Post (.mso B0 o n) xs')
theorem Qme {P : Program} {f : FuncId} {fn : Func} {sf : SFn} {args : List PV} {ty : TypeId} {xs : List PV} {Post : PV -> List PV -> Prop} (hm : P.follows .mixedOrders = true) (hf : P.funcs[f]? = some fn) (hname : (fn.name != "runtime.NumGoroutine") = true) (hc : Qe P fn = some sf) (hn : args.length <= sf.n /\ sf.n <= 1000000)
  (hv:∀C:Ctx,C.P=P->vc C (Qkz sf.rs ty xs.length Post) [.c sf.body] (Qgf args) (Qw hp0 B0 ⟨1,ty,xs,false⟩)):Qk8 P f args ty xs Post:=by
 simp only[Qe,Option.bind_eq_some_iff,Option.map_eq_some_iff]at hc
 obtain⟨c,hb,sb,hcb,rs,hrs,rfl⟩:=hc
 refine⟨by simp[Qlt,hf,hb];simpa using hname,fun w X b vals hX hXb hsz hI hpos hrep=> ?_⟩
 have hfx:∀β c,(fun β=>if β=B0 then some b else none:Nat->Option Nat) β=some c->c<w.heap.size/\(isR β=false->¬(X c/\c≠b)):=fun β c h=>by
  simp only at h
  split at h
  ·cases h;exact⟨hX b hXb,fun _ h=>h.2 rfl⟩
  ·cases h
 let C:Ctx:=⟨P,fn.ntmps,w,fun c=>X c/\c≠b,fun c hc=>hX c hc.1,hn.2,fun β=>if β=B0 then some b else none,hfx,Qbs,fun _ h=>h.elim⟩
 refine calls_of_wp hf hb ?_
 have hsz':(vals++Array.replicate (fn.ntmps-vals.size) undef).size=fn.ntmps:=by simp at hn ⊢;omega
 have hXof:∀c,Xof C (fun β=>if β=B0 then some b else none) (Qw hp0 B0 ⟨1,ty,xs,false⟩) c->X c:=by
  rintro c (hx|⟨β,_,h1,_,h3⟩)
  ·exact hx.1
  ·simp only at h3;split at h3
   ·cases h3;exact hXb
   ·cases h3
 have hsim:Sim C (Qgf args) (Qw hp0 B0 ⟨1,ty,xs,false⟩) (vals++Array.replicate (fn.ntmps-vals.size) undef) w:=by
  refine⟨fun β=>if β=B0 then some b else none,hsz',Ext.refl _ _,fun _ _ _ _ _ h=>h,fun β hb' hβ=> ?_,fun β γ b' h1 h2 h3 h4=> ?_,fun i=> ?_⟩
  ·unfold Qw at hβ
   split at hβ
   ·rename_i hβ0;cases hβ;subst hβ0
    refine⟨by simp,Qoe hI.1,?_,(fun _=>rfl),fun h=>by cases h⟩
    simp only[if_pos]
    exact⟨rfl,hX b hXb,hI.toB⟩
   ·simp[hp0]at hβ
  ·have:∀β,(if β=B0 then some b else none:Option Nat)=some b'->β=B0:=fun β h=>by
    split at h
    ·assumption
    ·cases h
   rw[this β h3,this γ h4]
  ·unfold Qgf
   cases hi:args[i]? with
   |none=>trivial
   | some p=>
    simp only[Option.getD_some]
    have hil:i<vals.size:=by rw[hsz];exact(List.getElem?_eq_some_iff.1 hi).1
    have hr:=hrep i p hi
    have e:(vals++Array.replicate (fn.ntmps-vals.size) undef).getD i undef=vals.getD i undef:=by
     rw[Qch,if_pos hil]
    rw[e]
    have key:Qas w X p (vals.getD i undef)->Qaa C (fun β=>if β=B0 then some b else none) (Qw hp0 B0 ⟨1,ty,xs,false⟩) w p (vals.getD i undef):=fun hr=>
     Qaa.ofData (hr.mono (fun _ _ _=>rfl) (fun c _ hn hx=>hn (hXof c hx)) (Nat.le_refl _))
    cases p with
    |mso β o n=>
     obtain⟨rfl,h1,cap,h2,h3,h4⟩:=hr
     exact⟨⟨1,ty,xs,false⟩,by simp[Qw],h1,.inr ⟨b,cap,by simp,h2,h3,h4⟩⟩
    |_=>exact key hr
 have fin:∀(fr:Fr)(hp:HP)(a:Act)(w':World),a.defers=[]->Sim C fr hp a.tmps w'->Qkz rs ty xs.length Post fr hp->
   a.defers=[]/\∃v,(results fn a.tmps).run P w'= .ok v w'/\∃v' r xs',Ending.returned v= .returned v'/\Ext (fun c=>c=b) w w'/\(∀e cap,Qbm w b e cap->Qbm w' b e cap)/\Qjf w' b ty xs'/\xs'.length=xs.length/\ResM w' X b xs.length r v'/\Post r xs':=by
  rintro fr hp a w' hd ⟨ρ,hs⟩ ⟨xs',hB,hint,hlen,hr⟩
  have hown:=hs.own B0 _ hB
  have hblk:=hown.blk
  have hρ:ρ B0=some b:=by
   cases hq:ρ B0 with
   |none=>rw[hq]at hblk;simp only at hblk;rw[hblk]at hlen;simp at hlen;omega
   |some b'=>
    rw[<-hq]
    exact hown.fix rfl
  rw[hρ]at hblk
  have hI':Qjf w' b ty xs':=Qjf.ofB hblk.2.2 hint
  have hxe:Ext (fun c=>c=b) w w':=hs.ext.mono fun c _ hc=>by
   rcases hc with⟨β,_,hc⟩|hc
   ·have hc:(if β=B0 then some b else none:Option Nat)=some c:=hc
    split at hc
    ·cases hc;rfl
    ·cases hc
   ·exact hc.elim
  have hkp:∀e cap,Qbm w b e cap->Qbm w' b e cap:=hs.keep B0 b rfl
  rcases hr with hr|⟨s,o,n,rfl,hfs,hp⟩
  ·obtain⟨v,r,h1,h2,h3,h4⟩:=Q5n (C:=C) rfl hrs hs hr (X:=X) (fun c hc=>by
    by_cases e:c=b
    ·subst e;exact .inr ⟨B0,_,rfl,hB,rfl,hρ⟩
    ·exact .inl ⟨hc,e⟩)
   refine⟨hd,v,h1,v,r,xs',rfl,hxe,hkp,hI',hlen,?_,h4⟩
   cases r with
   |mso β o n=>exact absurd rfl (h3 β o n)
   |_=>exact h2
  ·have hsl:=hs.slots s
   rw[hfs]at hsl
   obtain⟨hb2,g1,g2,g3⟩:=hsl
   rw[hB]at g1;cases g1
   rcases g3 with⟨g3,_⟩|⟨b',cap,g3,g4,g5,g6⟩
   ·rw[hρ]at g3;cases g3
   ·rw[hρ]at g3;cases g3
    obtain⟨x,hx⟩:∃x,fn.results.toList=[x]:=by
     have:=Qdt hrs
     exact List.length_eq_one_iff.1 (by rw[<-this.1];rfl)
    have hx2:Qb1 P x=some (.t s):=by
     rw[hx]at hrs
     simp only[List.mapM_cons,List.mapM_nil,Option.bind_eq_bind,Option.pure_def,Option.bind_eq_some_iff,Option.some.injEq]at hrs
     obtain⟨y,h1,_,_,h2⟩:=hrs
     simp only[List.cons.injEq]at h2
     rw[<-h2.1];exact h1
    have hx3:x= .tmp s:=by
     cases x with
     |tmp t=>simpa[Qb1]using hx2
     |cell y t=>simp[Qb1,Option.bind_eq_some_iff]at hx2
    subst hx3
    have hres:(results fn a.tmps).run P w'= .ok (a.tmps.getD s undef) w':=by
     have e:results fn a.tmps=(do let vs<-fn.results.mapM (Qlu a.tmps);pure (if h:vs.size=1 then vs[0]else .tuple vs)):=rfl
     rw[e,Array.mapM_eq_mapM_toList,hx]
     simp[Sem.run_bind,Qlu]
    refine⟨hd,_,hres,_,.mso B0 o n,xs',rfl,hxe,hkp,hI',hlen,⟨rfl,hlen▸g2,cap,g4,g5,g6⟩,hp⟩
 exact Qn8 (C:=C) (R:=Qkz rs ty xs.length Post) hm c sb [] _ (Qgf args) _ _ w hcb ⟨fun fr hp a w' hd hs hv=>(by rw[Qj6]at hv;exact fin fr hp a w' hd hs hv),fun id sk' he=>(by simp[FW.Qat]at he),fin⟩ rfl hsim (hv C rfl)
def PV.isDataM:PV->Bool
 | .mso .. =>true
 |p=>p.isData
def toB(β:Nat):PV->PV
 | .mso γ o n=>if γ=β then .mso B0 o n else .undef
 | .mp _ _ _=> .undef
 | .rb _ _ _=> .undef
 | .fn _ _ _=> .undef
 | .nso _ _ _| .np _ _ _| .rag _| .nst _ _ _ _=> .undef
 |p=>p
def Qhb(β:Nat):PV->PV
 | .mso _ o n=> .mso β o n
 |p=>p
theorem Qt8{P:Program}(hP:C.P=P){g:FuncId}{args pargs:List PV}{d:Option Nat}{β:Nat}{ty:TypeId}{xs:List PV}{Post:PV->List PV->Prop}(h:Qk8 P g pargs ty xs Post)(hβ:hp β=some ⟨1,ty,xs,false⟩)(hint:Qir xs)(hpos:0<xs.length)
  (hargs:args.map (toB β)=pargs) (hdat:pargs.all PV.isDataM=true)
  (hK:∀r xs',Qir xs'->xs'.length=xs.length->Post r xs'->K (Qcl fr d (Qhb β r)) (Qw hp β ⟨1,ty,xs',false⟩)):Qc7 C false (.fn g [] []) args d fr hp K:=by
 subst hP
 refine⟨h.1,fun ρ tmps w fv cv av hdN hs h1 h2 h3 _ _ hr3=> ?_⟩
 have hown:=hs.own β _ hβ
 have hblk:=hown.blk
 obtain⟨b,hρ⟩:∃b,ρ β=some b:=by
  cases hq:ρ β with
  |none=>rw[hq]at hblk;simp only at hblk;rw[hblk]at hpos;simp at hpos
  |some b=>exact⟨b,rfl⟩
 rw[hρ]at hblk
 have hXb:Xof C ρ hp b:= .inr ⟨β,_,hβ,rfl,hρ⟩
 have e1:fv= #[]:=Array.eq_empty_of_size_eq_zero (by simpa using h1)
 have e2:cv= #[]:=Array.eq_empty_of_size_eq_zero (by simpa using h2)
 subst e1;subst e2
 simp only[Array.empty_append,Array.append_empty]
 refine(h.2 w (Xof C ρ hp) b av (Qqa hs) hXb (by rw[<-hargs];simp[h3]) (Qjf.ofB hblk.2.2 hint) hpos (fun i x hx=> ?_)).mono ?_
 ·rw [<-hargs]at hx
  simp only[List.getElem?_map,Option.map_eq_some_iff]at hx
  obtain⟨p,hp',hpx⟩:=hx
  have hr:=hr3 i p hp'
  have hxd:PV.isDataM x=true:=by
   rw[List.all_eq_true]at hdat
   refine hdat x ?_
   rw[<-hargs,<-hpx]
   exact List.mem_map_of_mem (List.mem_of_getElem? hp')
  subst hpx
  cases p with
  | mso γ o n=>
   simp only[toB]at hxd⊢
   split
   ·rename_i hγ
    subst hγ
    obtain⟨hb2,g1,g2,g3⟩:=hr
    rw[hβ]at g1;cases g1
    rcases g3 with⟨g3,_⟩|⟨b',cap,g3,g4,g5,g6⟩
    ·rw[hρ]at g3;cases g3
    ·rw[hρ]at g3;cases g3
     exact⟨rfl,g2,cap,g4,g5,g6⟩
   ·rename_i hγ;rw[if_neg hγ]at hxd;simp[PV.isDataM,PV.isData]at hxd
  |mp=>simp[toB,PV.isDataM,PV.isData]at hxd
  |rb=>simp[toB,PV.isDataM,PV.isData]at hxd
  |fn=>simp[toB,PV.isDataM,PV.isData]at hxd
  |undef=>simp[toB,PV.isDataM,PV.isData]at hxd
  |nso=>simp[toB,PV.isDataM,PV.isData]at hxd
  |np=>simp[toB,PV.isDataM,PV.isData]at hxd
  |rag=>simp[toB,PV.isDataM,PV.isData]at hxd
  |nst=>simp[toB,PV.isDataM,PV.isData]at hxd
  |tup=>simp[toB,PV.isDataM,PV.isData]at hxd
  |agg cs=>exact hr
  |_=>exact hr
 ·rintro e w' ⟨v,r,xs',rfl,hx,hcap,hI',hlen,hres,hpost⟩
  have hst:=hs.store β b ⟨1,ty,xs,false⟩ ⟨1,ty,xs',false⟩ hβ rfl (by intro e;simp at e;rw[e]at hpos;simp at hpos) hρ hx rfl hlen rfl (Qoe hI'.1) hcap (hI'.toB (X:=Xof C ρ hp) (fz:=false) |> fun⟨cur,cap,c1,c2,c3,c4,c5⟩=>⟨cur,cap,c1,c2,c3,c4,fun i x hi j y hy=>by
   obtain⟨k,n,rfl⟩:=hI'.1 x (List.mem_of_getElem? hi)
   have:=c5 i _ hi j y hy
   cases j with
   |zero=>
    simp[PV.cells]at hy;subst hy
    generalize hg:cur.getD (i*1+0) undef=u at this
    cases this
    exact Qae.int k n
   |succ j=>simp[PV.cells]at hy⟩)
  have hXe:Xof C ρ (Qw hp β ⟨1,ty,xs',false⟩)=Xof C ρ hp:=by
   funext c;apply propext;constructor
   ·rintro(hx|⟨γ,hg,h1,h2,h3⟩)
    ·exact .inl hx
    ·by_cases hγ:γ=β
     ·subst hγ;exact .inr ⟨γ,_,hβ,rfl,h3⟩
     ·simp only[Qw,if_neg hγ]at h1;exact .inr ⟨γ,hg,h1,h2,h3⟩
   ·rintro(hx|⟨γ,hg,h1,h2,h3⟩)
    ·exact .inl hx
    ·by_cases hγ:γ=β
     ·subst hγ;exact .inr ⟨γ,⟨1,ty,xs',false⟩,by simp[Qw],rfl,h3⟩
     ·exact .inr ⟨γ,hg,by simp[Qw,hγ,h1],h2,h3⟩
  refine⟨v,_,_,rfl,⟨ρ,hst.updO (p:=Qhb β r) ?_ hdN⟩,by simp,hK r xs' hI'.1 hlen hpost⟩
  cases r with
  |mso γ o n=>
   obtain⟨_,g1,cap,g2,g3,g4⟩:=hres
   exact⟨⟨1,ty,xs',false⟩,by simp[Qw],by simp only[Qhb];omega,.inr ⟨b,cap,hρ,g2,g3,g4⟩⟩
  |_=>exact Qaa.ofV (p:=_) (by rw[hXe];exact hres)
end Go.FW
namespace Go.FW
open Go
variable {C : Ctx} {ρ : Nat -> Option Nat} {fr : Fr} {hp : HP} {w : World} {K K' R : Qp}
def Qnn(P:Program)(f:FuncId)(args:List PV)(ty:TypeId)(Post:List PV->Prop):Prop:=
 Qlt P f/\∀(w:World)(X:Nat->Prop)(vals:Array Value),(∀b,X b->b<w.heap.size)->vals.size=args.length->(∀(i:Nat)(x:PV),args[i]? =some x->Qas w X x (vals.getD i undef))->
  Calls P f vals w fun e w'=>∃v b cap ys,e= .returned v/\v= .slice (some ⟨b,0,none⟩) ys.length cap/\w.heap.size<=b/\Ext Qbs w w'/\Qjf w' b ty ys/\Qbm w' b 1 cap/\cap<=maxLen/\Post ys
def Qre(rs:List RV)(ty:TypeId)(Post:List PV->Prop):Qp:=fun fr hp=>
 ∃s β n xs,rs=[.t s]/\fr s= .mso β 0 n/\isB β=false/\hp β=some ⟨1,ty,xs,false⟩/\Qir xs/\0<n/\Post (xs.take n)
theorem Q8l{xs:List PV}(h:Qir xs)(n:Nat):Qir (xs.take n):=fun x hx=>h x (List.mem_of_mem_take hx)
theorem Q8m {P : Program} {f : FuncId} {fn : Func} {sf : SFn} {args : List PV} {ty : TypeId} {Post : List PV -> Prop} (hm : P.follows .mixedOrders = true) (hf : P.funcs[f]? = some fn) (hname : (fn.name != "runtime.NumGoroutine") = true) (hc : Qe P fn = some sf) (hn : args.length <= sf.n /\ sf.n <= 1000000)
  (hv:∀C:Ctx,C.P=P->vc C (Qre sf.rs ty Post) [.c sf.body] (Qgf args) hp0):Qnn P f args ty Post:=by
 simp only[Qe,Option.bind_eq_some_iff,Option.map_eq_some_iff]at hc
 obtain⟨c,hb,sb,hcb,rs,hrs,rfl⟩:=hc
 refine⟨by simp[Qlt,hf,hb];simpa using hname,fun w X vals hX hsz hrep=> ?_⟩
 let C:Ctx:=Ctx.plain P fn.ntmps w X hX hn.2
 refine calls_of_wp hf hb ?_
 have hsz':(vals++Array.replicate (fn.ntmps-vals.size) undef).size=fn.ntmps:=by simp at hn ⊢;omega
 have hsim:Sim C (Qgf args) hp0 (vals++Array.replicate (fn.ntmps-vals.size) undef) w:=by
  refine⟨fun _=>none,hsz',Ext.refl _ _,(fun _ _ h=>by cases h),by simp[hp0],by simp[hp0],fun i=> ?_⟩
  unfold Qgf
  cases hi:args[i]? with
  |none=>trivial
  | some p=>
   simp only[Option.getD_some]
   have hil:i<vals.size:=by rw[hsz];exact(List.getElem?_eq_some_iff.1 hi).1
   have hr:=hrep i p hi
   have e:(vals++Array.replicate (fn.ntmps-vals.size) undef).getD i undef=vals.getD i undef:=by
    rw[Qch,if_pos hil]
   rw[e]
   refine Qaa.ofData (hr.mono (fun _ _ _=>rfl) (fun b _ hn hx=> ?_) (Nat.le_refl _))
   rcases hx with hx|⟨_,_,h1,_⟩
   ·exact hn hx
   ·simp[hp0]at h1
 have fin:∀(fr:Fr)(hp:HP)(a:Act)(w':World),a.defers=[]->Sim C fr hp a.tmps w'->Qre rs ty Post fr hp->
   a.defers=[]/\∃v,(results fn a.tmps).run P w'= .ok v w'/\∃v' b cap ys,Ending.returned v= .returned v'/\v'= .slice (some ⟨b,0,none⟩) ys.length cap/\w.heap.size<=b/\Ext Qbs w w'/\Qjf w' b ty ys/\Qbm w' b 1 cap/\cap<=maxLen/\Post ys:=by
  rintro fr hp a w' hd ⟨ρ,hs⟩ ⟨s,β,n,xs,rfl,hfs,hB,hβ,hint,hpos,hp⟩
  have hown:=hs.own β _ hβ
  have hblk:=hown.blk
  have hsl:=hs.slots s
  rw[hfs]at hsl
  obtain⟨hb2,g1,g2,g3⟩:=hsl
  rw[hβ]at g1;cases g1
  rcases g3 with⟨_,_,g3,_⟩|⟨b,cap,g3,g4,g5,g6⟩
  ·omega
  ·rw[g3]at hblk
   simp only[hB]at hblk
   obtain⟨x,hx⟩:∃x,fn.results.toList=[x]:=by
    have:=Qdt hrs
    exact List.length_eq_one_iff.1 (by rw[<-this.1];rfl)
   have hx2:Qb1 P x=some (.t s):=by
    rw[hx]at hrs
    simp only[List.mapM_cons,List.mapM_nil,Option.bind_eq_bind,Option.pure_def,Option.bind_eq_some_iff,Option.some.injEq]at hrs
    obtain⟨y,h1,_,_,h2⟩:=hrs
    simp only[List.cons.injEq]at h2
    rw[<-h2.1];exact h1
   have hx3:x= .tmp s:=by
    cases x with
    |tmp t=>simpa[Qb1]using hx2
    |cell y t=>simp[Qb1,Option.bind_eq_some_iff]at hx2
   subst hx3
   have hres:(results fn a.tmps).run P w'= .ok (a.tmps.getD s undef) w':=by
    have e:results fn a.tmps=(do let vs<-fn.results.mapM (Qlu a.tmps);pure (if h:vs.size=1 then vs[0]else .tuple vs)):=rfl
    rw[e,Array.mapM_eq_mapM_toList,hx]
    simp[Qlu]
   have hlen:(xs.take n).length=n:=by simp at g2 ⊢;omega
   refine⟨hd,_,hres,_,b,cap,xs.take n,rfl,by rw[g4,hlen,Nat.zero_mul],(Ctx.cls_N hblk.1 (Qnf hB)).resolve_right (fun h=>h),Ctx.plain_ext hs.ext,?_,by rw[Nat.zero_add]at g5;exact g5,by omega,hp⟩
   obtain⟨_,cur,cp,i1,i2,i3,i4,i5⟩:=Qjf.ofB hblk.2.2 hint
   exact⟨Q8l hint n,cur,cp,i1,i2,by simp;omega,i4,fun i k m hi=>i5 i k m (by
    have hi':i<n:=by have:=(List.getElem?_eq_some_iff.1 hi).1;omega
    rwa[List.getElem?_take_of_lt hi']at hi)⟩
 exact Qn8 (C:=C) (R:=Qre rs ty Post) hm c sb [] _ (Qgf args) hp0 _ w hcb ⟨fun fr hp a w' hd hs hv=>(by rw[Qj6]at hv;exact fin fr hp a w' hd hs hv),fun id sk' he=>(by simp[FW.Qat]at he),fin⟩ rfl hsim (hv C rfl)
theorem Qaoc{P:Program}(hP:C.P=P){g:FuncId}{args pargs:List PV}{d:Nat}{ty:TypeId}{Post:List PV->Prop}(h:Qnn P g pargs ty Post)(hargs:([]++args++[]).map (Qam hp)=pargs)(hdat:pargs.all PV.isData=true)(hr:([]++args++[]).flatMap PV.refs=[])
  (hB:isB d=false) (hK:∀ys,Qir ys->Post ys->K (upd (Qa7 d fr) d (.ms d ys.length)) (Qw hp d ⟨1,ty,ys,false⟩)):Qc7 C false (.fn g [] []) args (some d) fr hp K:=by
 subst hP
 refine⟨h.1,fun ρ tmps w fv cv av hdN hs h1 h2 h3 hr1 hr2 hr3=> ?_⟩
 have hf0:Qaq hp (([]++args++[]).flatMap PV.refs)=hp:=by rw[hr];rfl
 have hrep:=Qzi hs h1 h2 h3 hr1 hr2 hr3 (by rw[hargs];exact hdat)
 rw[hf0,hargs]at hrep
 refine(h.2 w _ (fv++av++cv) (Qqa hs) (by rw[<-hargs];simp[h1,h2,h3]) hrep).mono ?_
 rintro e w' ⟨v,b,cap,ys,rfl,rfl,hb,hx,hI,hcap,hm,hpost⟩
 have hbl:b<w'.heap.size:=by
  obtain⟨_,cur,cp,i1,_⟩:=hI
  exact(Array.getElem?_eq_some_iff.1 i1).1
 have hrb:=hs.rebind (w':=w') d (some b) ⟨1,ty,ys,false⟩ hB (hx.mono (fun _ _ h=>h.elim)) (fun c hc=>by cases hc;exact⟨.inl (Nat.le_trans hs.ext.size hb),hbl,.inl hb⟩) (by simp) (Qoe hI.1) (by simp)
  (fun c hc=>by
   cases hc
   obtain⟨hint,cur,cp,i1,i2,i3,i4,i5⟩:=hI
   refine⟨cur,cp,i1,i2,i3,i4,fun i x hi j y hy=> ?_⟩
   obtain⟨k,n,rfl⟩:=hint x (List.mem_of_getElem? hi)
   cases j with
   |zero=>
    simp[PV.cells]at hy;subst hy
    rw[Nat.mul_one,Nat.add_zero,i5 i k n hi]
    exact Qae.int k n
   |succ j=>simp[PV.cells]at hy)
 refine⟨_,_,_,rfl,⟨_,hrb.updO (d:=some d) (p:= .ms d ys.length) ?_ hdN⟩,by simp,hK ys hI.1 hpost⟩
 exact⟨⟨1,ty,ys,false⟩,by simp[Qw],by simp,.inr ⟨b,cap,Qeu _ _ _,by simp,by rw[Nat.zero_add];exact hcap,by omega⟩⟩
def Qdd(hp:HP):PV->PV
 | .mp β i o=>match hp β with
  |some hb=>match hb.xs[i]? with
   |some x=> .pt (x.cells.drop o)
   |none=> .undef
  |none=> .undef
 | .mso β o n=>match hp β with
  |some hb=> .sl hb.e ((hb.xs.drop o).take n)
  |none=> .undef
 | .rb β o n=>match hp β with
  |some hb=> .pt [.sl hb.e ((hb.xs.drop o).take n)]
  |none=> .undef
 |p=>p
def Qs5(C:Ctx)(ρ:Nat->Option Nat)(hp:HP)(l:List Nat):Nat->Prop:=fun c=>Xof C ρ hp c/\¬∃β∈l,ρ β=some c
theorem Qae.but{l:List Nat}{q:PV}{u:Value}(h:Qae w (Xof C ρ hp) q u):Qae w (Qs5 C ρ hp l) q u:=
 h.mono (fun _ _ _=>rfl) (fun _ _ hn hx=>hn hx.1) (Nat.le_refl _)
theorem Qez.but{tmps:Array Value}(h:Qah C ρ fr hp tmps w){β o n:Nat}{v:Value}{l:List Nat}{hb:HB}(hr:Qez ρ hp w β o n v)(hβl:β∈l)(g1:hp β=some hb):Qae w (Qs5 C ρ hp l) (.sl hb.e ((hb.xs.drop o).take n)) v:=by
 obtain⟨hb2,g1',g2,g3⟩:=hr
 rw[g1]at g1';cases g1'
 rcases g3 with⟨g3,rfl,rfl,rfl⟩|⟨b,cap,g3,rfl,g5,g6⟩
 ·simp only[List.take_zero];exact .slE _ _ _ (Nat.zero_le _)
 ·have hown:=h.own β hb g1
  have hblk:=hown.blk
  rw[g3]at hblk
  obtain⟨_,hlt,cur,cap',c1,c2,c3,c4,c5⟩:=hblk
  obtain⟨cur',ty',d1,d2⟩:=g5
  rw[c1]at d1;cases d1
  have hcc:o+cap=cap':=by
   rw[c2]at d2
   exact(Nat.eq_of_mul_eq_mul_right hown.epos d2).symm
  subst hcc
  have hlen:((hb.xs.drop o).take n).length=n:=by simp;omega
  have hget:∀(i:Nat)(x:PV),((hb.xs.drop o).take n)[i]? =some x->i<n/\hb.xs[o+i]? =some x:=fun i x hx=>by
   have hi:i<n:=by have:=(List.getElem?_eq_some_iff.1 hx).1;omega
   rw[List.getElem?_take_of_lt hi,List.getElem?_drop]at hx
   exact⟨hi,hx⟩
  have:=Qae.sl (w:=w) (X:=Qs5 C ρ hp l) hb.e ((hb.xs.drop o).take n) b (o*hb.e) cap (fun i j=>cur.getD ((o+i)*hb.e+j) undef) (fun hxb=>hxb.2 ⟨β,hβl,g3⟩) hlt (by omega) (by omega)
   (fun i x hx=>(hown.len _ x (hget i x hx).2).1)
   (fun i hi j hj=>by
    rw[hlen]at hi
    have:=Qfs (i:=o+i) (e:=hb.e) (o:=0) (j:=j) (n:=hb.e) (cap:=o+cap) (by omega) (by omega) hj
    rw[Nat.add_zero]at this
    rw[show o*hb.e+i*hb.e+j=(o+i)*hb.e+j by rw[Nat.add_mul]]
    exact Qby c1 (by rw[c2];exact this))
   (fun i x hx j y hy=>(c5 _ x (hget i x hx).2 j y hy).but)
  rwa[hlen]at this
theorem Qmf{tmps:Array Value}(h:Qah C ρ fr hp tmps w){p:PV}{v:Value}{l:List Nat}(hr:Qbv C ρ hp w p v)(hl:∀β∈p.ref1,β∈l)(hu:(Qdd hp p).isData=true)(hnf:∀f a b,p≠ .fn f a b):Qas w (Qs5 C ρ hp l) (Qdd hp p) v:=by
 cases p with
 | mp β i o=>
  obtain⟨b,hb,g1,g2,rfl⟩:=hr
  have hβl:=hl β (by simp[PV.ref1])
  have hown:=h.own β hb g2
  have hblk:=hown.blk
  rw[g1]at hblk
  obtain⟨_,hlt,cur,cap,c1,c2,c3,c4,c5⟩:=hblk
  simp only[Qdd,g2]at hu⊢
  cases hx:hb.xs[i]? with
  |none=>simp[hx,PV.isData]at hu
  | some x=>
   have hi:i<hb.xs.length:=(List.getElem?_eq_some_iff.1 hx).1
   have hcl:=(hown.len i x hx).1
   refine Qae.pt _ b _ (fun j=>cur.getD (i*hb.e+o+j) undef) (fun hxb=>hxb.2 ⟨β,hβl,g1⟩) hlt (fun j hj=> ?_) (fun j y hy=> ?_)
   ·have hj':o+(j+1)<=hb.e:=by simp[hcl]at hj;omega
    exact Qby c1 (by rw[c2];exact Qfs (by omega) hj' (Nat.lt_succ_self j))
   ·rw[List.getElem?_drop]at hy
    rw[Nat.add_assoc]
    exact(c5 i x hx (o+j) y hy).but
 |mso β o n=>
  obtain⟨hb,g1,_⟩:=id hr
  simp only[Qdd,g1]
  exact Qez.but h hr (hl β (by simp[PV.ref1])) g1
 | rb β o n=>
  obtain⟨b,u,rfl,e2,e3,e4,hb,g1,e5⟩:=hr
  simp only[Qdd,g1]
  refine Qae.pt _ b 0 (fun _=>u) (fun hx=>e3 hx.1) e2 (fun j hj=> ?_) (fun j y hy=> ?_)
  ·obtain rfl:j=0:=by simpa using hj
   simpa using e4
  ·cases j with
   |zero=>simp at hy;subst hy;exact Qez.but h ⟨hb,g1,e5⟩ (hl β (by simp[PV.ref1])) g1
   |succ j=>simp at hy
 |undef=>simp[Qdd,PV.isData]at hu
 |fn f a b=>exact absurd rfl (hnf f a b)
 |tup=>simp[Qdd,PV.isData]at hu
 |nso=>simp[Qdd,PV.isData]at hu
 |np=>simp[Qdd,PV.isData]at hu
 |rag=>simp[Qdd,PV.isData]at hu
 |nst=>simp[Qdd,PV.isData]at hu
 |agg=>cases hr
 |_=>exact Qae.but hr
end Go.FW
namespace Go.FW
open Go
variable {C : Ctx} {ρ : Nat -> Option Nat} {fr : Fr} {hp : HP} {w : World} {K K' R : Qp}
def PV.notFn:PV->Bool
 | .fn .. =>false
 |p=>p.isData
theorem Qt9{p:PV}(h:p.notFn=true):p.isData=true/\∀f a b,p≠ .fn f a b:=by
 cases p<;>simp_all[PV.notFn,PV.isData]
theorem Q5q{tmps:Array Value}(h:Qah C ρ fr hp tmps w){p:PV}{v:Value}{l:List Nat}(hr:Qaa C ρ hp w p v)(hl:∀β∈p.refs,β∈l)(hu:(Qdd hp p).notFn=true):Qas w (Qs5 C ρ hp l) (Qdd hp p) v:=by
 obtain⟨hd,hnf⟩:=Qt9 hu
 cases p with
 |mp β i o=>exact Qmf (p:= .mp β i o) h hr (fun β' hβ'=>hl β' hβ') hd (by simp)
 |mso β o n=>exact Qmf (p:= .mso β o n) h hr (fun β' hβ'=>hl β' hβ') hd (by simp)
 |rb β o n=>exact Qmf (p:= .rb β o n) h hr (fun β' hβ'=>hl β' hβ') hd (by simp)
 |fn f a b=>exact absurd rfl (hnf f a b)
 |undef=>simp[Qdd,PV.notFn,PV.isData]at hu
 |tup=>simp[Qdd,PV.notFn,PV.isData]at hu
 |agg cs=>exact Qas.mono (p:= .agg cs) hr (fun _ _ _=>rfl) (fun _ _ hn hx=>hn hx.1) (Nat.le_refl _)
 |nso=>simp[Qdd,PV.isData]at hd
 |np=>simp[Qdd,PV.isData]at hd
 |rag=>simp[Qdd,PV.isData]at hd
 |nst=>simp[Qdd,PV.isData]at hd
 |_=>exact Qae.but hr
theorem Qua{tmps:Array Value}(h:Qah C ρ fr hp tmps w){p:PV}{v:Value}{l:List Nat}(hr:Qbv C ρ hp w p v)(hl:∀β∈p.refs,β∈l)(hu:(Qdd hp p).notFn=true):Qas w (Qs5 C ρ hp l) (Qdd hp p) v:=by
 obtain⟨hd,hnf⟩:=Qt9 hu
 refine Qmf h hr (fun β hβ=>hl β ?_) hd ?_
 ·cases p<;>simp_all[PV.ref1,PV.refs]
 ·intro f a b hp';subst hp';exact hnf f a b rfl
theorem Q8n{P:Program}(hP:C.P=P){g:FuncId}{first cap args pargs:List PV}{pr:Bool}{d:Option Nat}{r:PV}(h:Qd P g pargs (· =r))(hargs:(first++args++cap).map (Qdd hp)=pargs)(hdat:pargs.all PV.notFn=true)(hr:r.isScal=true)
  (hK:K (Qcl fr d r) hp):Qc7 C pr (.fn g first cap) args d fr hp K:=by
 subst hP
 refine⟨h.1,fun ρ tmps w fv cv av hdN hs h1 h2 h3 hr1 hr2 hr3=> ?_⟩
 refine(h.2 w (Qs5 C ρ hp ((first++args++cap).flatMap PV.refs)) (fv++av++cv) (fun b hb=>Qqa hs b hb.1) (by rw[<-hargs];simp[h1,h2,h3]) (fun i x hx=> ?_)).mono ?_
 ·have hdx:x.notFn=true:=by rw[List.all_eq_true]at hdat;exact hdat x (List.mem_of_getElem? hx)
  rw[<-hargs]at hx
  simp only[List.getElem?_map,Option.map_eq_some_iff]at hx
  obtain⟨p,hp',rfl⟩:=hx
  have hmem:=List.mem_of_getElem? hp'
  have hl:∀β∈p.refs,β∈(first++args++cap).flatMap PV.refs:=fun β hβ=>List.mem_flatMap.2 ⟨p,hmem,hβ⟩
  rw[Qch]
  rw[List.getElem?_append]at hp'
  by_cases c1:i<(first++args).length
  ·rw[if_pos c1]at hp'
   rw[if_pos (by simp only[Array.size_append,h1,h3];simpa using c1),Qch]
   rw[List.getElem?_append]at hp'
   by_cases c2:i<first.length
   ·rw[if_pos c2]at hp'
    rw[if_pos (by omega)]
    exact Qua hs (hr1 i p hp') hl hdx
   ·rw[if_neg c2]at hp'
    rw[if_neg (by omega),h1]
    exact Q5q hs (hr3 _ p hp') hl hdx
  ·rw[if_neg c1]at hp'
   have hsz:(fv++av).size=(first++args).length:=by simp[h1,h3]
   rw[if_neg (by omega),hsz]
   exact Qua hs (hr2 _ p hp') hl hdx
 ·rintro e w' ⟨v,r',rfl,hx,hr',rfl⟩
  exact⟨v,_,_,rfl,⟨ρ,(hs.grow hx).updO (Qaa.ofV (Qabw hr hr')) hdN⟩,fun _=>hx,hK⟩
end Go.FW
namespace Go.FW
def Qgv:List Nat->List Nat->Nat->List Nat
 | [],_,_=>[]
 |x::xs,ys,c=>(c+x+ys.headD 0)%65536::Qgv xs ys.tail ((c+x+ys.headD 0)/65536)
theorem Qry:∀(a b:List Nat)(c:Nat),(Qgv a b c).length=a.length
 | [],_,_=>rfl
 |x::xs,b,c=>by simp[Qgv,Qry xs]
theorem Qub:∀(a b:List Nat)(c:Nat),Qu (Qgv a b c)
 | [],_,_=>Qdb
 |x::xs,b,c=>by rw[Qgv,Qbe];exact⟨by omega,Qub xs _ _⟩
theorem Q8o{a b:List Nat}{i c:Nat}(h:i<a.length):Qgv (a.drop i) (b.drop i) c=(c+a[i]+b.getD i 0)%65536::Qgv (a.drop (i+1)) (b.drop (i+1)) ((c+a[i]+b.getD i 0)/65536):=by
 rw[List.drop_eq_getElem_cons h,Qgv]
 simp[List.headD_eq_head?_getD,List.head?_drop,List.getD_eq_getElem?_getD]
theorem Qzr:∀(a b:List Nat)(c:Nat),b.length<=a.length->∃k,val (Qgv a b c)+65536^a.length*k=val a+val b+c
 | [],b,c,h=>by
  have:b=[]:=List.length_eq_zero_iff.1 (by simpa using h)
  subst this
  exact⟨c,by simp[Qgv,val]⟩
 |x::xs,b,c,h=>by
  obtain⟨k,hk⟩:=Qzr xs b.tail ((c+x+b.headD 0)/65536) (by simp at h ⊢;omega)
  refine⟨k,?_⟩
  rw[Qgv,val,val,Qkb b,List.length_cons,Nat.pow_succ,Nat.mul_comm (65536^xs.length) 65536,Nat.mul_assoc]
  generalize 65536^xs.length*k=z at *
  generalize b.headD 0=y at *
  omega
def Qdm:List Nat->List Nat->Nat->Nat->Nat->List Nat×Nat×Nat
 | [],_,_,c,b=>([],c,b)
 |x::xs,ys,q,c,b=>
  let r:=Qdm xs ys.tail q ((c+q*ys.headD 0)/65536) (if x<(c+q*ys.headD 0)%65536+b then 1 else 0)
  ((x+65536-(c+q*ys.headD 0)%65536-b)%65536::r.1,r.2)
theorem Qrz:∀(a v:List Nat)(q c b:Nat),(Qdm a v q c b).1.length=a.length
 | [],_,_,_,_=>rfl
 |x::xs,v,q,c,b=>by simp[Qdm,Qrz xs]
theorem Quc:∀(a v:List Nat)(q c b:Nat),Qu (Qdm a v q c b).1
 | [],_,_,_,_=>Qdb
 |x::xs,v,q,c,b=>by simp only[Qdm];rw[Qbe];exact⟨by omega,Quc xs _ _ _ _⟩
theorem Q8p{a v:List Nat}{i q c b:Nat}(h:i<a.length):Qdm (a.drop i) (v.drop i) q c b=
    ((a[i]+65536-(c+q*v.getD i 0)%65536-b)%65536::(Qdm (a.drop (i+1)) (v.drop (i+1)) q ((c+q*v.getD i 0)/65536) (if a[i]<(c+q*v.getD i 0)%65536+b then 1 else 0)).1,
     (Qdm (a.drop (i+1)) (v.drop (i+1)) q ((c+q*v.getD i 0)/65536) (if a[i]<(c+q*v.getD i 0)%65536+b then 1 else 0)).2):=by
  rw[List.drop_eq_getElem_cons h,Qdm]
  simp[List.headD_eq_head?_getD,List.head?_drop,List.getD_eq_getElem?_getD]
theorem Qzs:∀(a v:List Nat)(q c b:Nat),Qu a->b<=1->v.length<=a.length->
  val (Qdm a v q c b).1+(q*val v+c+b)=val a+65536^a.length*((Qdm a v q c b).2.1+(Qdm a v q c b).2.2)/\(Qdm a v q c b).2.2<=1
 | [],v,q,c,b,_,hb,h=>by
  have:v=[]:=List.length_eq_zero_iff.1 (by simpa using h)
  subst this
  simp[Qdm,val,hb]
 |x::xs,v,q,c,b,ha,hb,h=>by
  rw[Qbe]at ha
  have hb':(if x<(c+q*v.headD 0)%65536+b then 1 else 0)<=1:=by split<;>omega
  obtain⟨ih,ih2⟩:=Qzs xs v.tail q ((c+q*v.headD 0)/65536) (if x<(c+q*v.headD 0)%65536+b then 1 else 0) ha.2 hb' (by simp at h ⊢;omega)
  refine⟨?_,ih2⟩
  simp only[Qdm]
  rw[val,val,Qkb v,List.length_cons,Nat.pow_succ,Nat.mul_comm (65536^xs.length) 65536,Nat.mul_assoc,Nat.mul_add q,Nat.mul_left_comm q 65536]
  generalize Qdm xs v.tail q ((c+q*v.headD 0)/65536) (if x<(c+q*v.headD 0)%65536+b then 1 else 0)=r at *
  generalize 65536^xs.length*(r.2.1+r.2.2)=z at *
  generalize q*v.headD 0=y at *
  generalize q*val v.tail=t at *
  have h0:=ha.1
  split at ih
  ·omega
  ·omega
open Go
variable {fr : Fr} {hp : HP}
theorem Qaod{ty len:Nat}{Post:PV->List PV->Prop}{xs':List PV}(hB:hp B0=some ⟨1,ty,xs',false⟩)(hi:Qir xs')(hl:xs'.length=len)(hp':Post (.tup []) xs'):Qkz [] ty len Post fr hp:=
 ⟨xs',hB,hi,hl,.inl ⟨by simp,.tup [],trivial,by simp,hp'⟩⟩
theorem Q8q{ty len s:Nat}{Post:PV->List PV->Prop}{xs':List PV}{p:PV}(hB:hp B0=some ⟨1,ty,xs',false⟩)(hi:Qir xs')(hl:xs'.length=len)(hs:Qam hp (fr s)=p)(hd:p.isData=true)(hp':Post p xs'):Qkz [.t s] ty len Post fr hp:=
 ⟨xs',hB,hi,hl,.inl ⟨by simp only[okR];rw[hs];exact hd,p,by simp only[rvP];rw[hs];exact Qab p,fun β o n e=>by subst e;simp[PV.isData]at hd,hp'⟩⟩
theorem Q31{ty len s o n:Nat}{Post:PV->List PV->Prop}{xs':List PV}(hB:hp B0=some ⟨1,ty,xs',false⟩)(hi:Qir xs')(hl:xs'.length=len)(hs:fr s= .mso B0 o n)(hp':Post (.mso B0 o n) xs'):Qkz [.t s] ty len Post fr hp:=
 ⟨xs',hB,hi,hl,.inr ⟨s,o,n,rfl,hs,hp'⟩⟩
end Go.FW
namespace Go.FW
open Go
variable {C : Ctx} {fr : Fr} {hp : HP} {K : Qp}
theorem Qqc{a b i:Nat}(h:b<2^i):a*2^i|||b=a*2^i+b:=by
 rw[<-Nat.shiftLeft_eq,Nat.shiftLeft_add_eq_or_of_lt h]
theorem Qzt{bt:Bool}{x y d:Nat}(hx:x<18446744073709551616)(hy:y<18446744073709551616):Qbi .or bt (.int .u64 (x:Int)) (.int .u64 (y:Int)) d fr hp K=K (upd fr d (.int .u64 ((x|||y:Nat):Int))) hp:=by
 have h1:(BitVec.ofInt 64 (x:Int)|||BitVec.ofInt 64 (y:Int)).toNat=x|||y:=by
  rw[BitVec.toNat_or,BitVec.ofInt_natCast,BitVec.ofInt_natCast,BitVec.toNat_ofNat,BitVec.toNat_ofNat,Nat.mod_eq_of_lt hx,Nat.mod_eq_of_lt hy]
 have h2:x|||y<18446744073709551616:=Nat.or_lt_two_pow (n:=64) hx hy
 simp only[Qbi,IntKind.bits,h1,true_and]
 rw[Qf1 (by omega) (by omega)]
 exact congrArg (fun z:Nat=>K (upd fr d (.int .u64 (z:Int))) hp) h1
theorem Q8r{bt:Bool}{x y d:Nat}(hx:x<4294967296)(hy:y<4294967296):Qbi .or bt (.int .u32 (x:Int)) (.int .u32 (y:Int)) d fr hp K=K (upd fr d (.int .u32 ((x|||y:Nat):Int))) hp:=by
 have h1:(BitVec.ofInt 32 (x:Int)|||BitVec.ofInt 32 (y:Int)).toNat=x|||y:=by
  rw[BitVec.toNat_or,BitVec.ofInt_natCast,BitVec.ofInt_natCast,BitVec.toNat_ofNat,BitVec.toNat_ofNat,Nat.mod_eq_of_lt hx,Nat.mod_eq_of_lt hy]
 have h2:x|||y<4294967296:=Nat.or_lt_two_pow (n:=32) hx hy
 simp only[Qbi,IntKind.bits,h1,true_and]
 rw[Qob (by omega) (by omega)]
 exact congrArg (fun z:Nat=>K (upd fr d (.int .u32 (z:Int))) hp) h1
theorem Q8s{bt:Bool}{x y d:Nat}(hx:x<65536)(hy:y<65536):Qbi .or bt (.int .u16 (x:Int)) (.int .u16 (y:Int)) d fr hp K=K (upd fr d (.int .u16 ((x|||y:Nat):Int))) hp:=by
 have h1:(BitVec.ofInt 16 (x:Int)|||BitVec.ofInt 16 (y:Int)).toNat=x|||y:=by
  rw[BitVec.toNat_or,BitVec.ofInt_natCast,BitVec.ofInt_natCast,BitVec.toNat_ofNat,BitVec.toNat_ofNat,Nat.mod_eq_of_lt hx,Nat.mod_eq_of_lt hy]
 have h2:x|||y<65536:=Nat.or_lt_two_pow (n:=16) hx hy
 simp only[Qbi,IntKind.bits,h1,true_and]
 rw[Qabz (by omega) (by omega)]
 exact congrArg (fun z:Nat=>K (upd fr d (.int .u16 (z:Int))) hp) h1
theorem Qv4{bt:Bool}{k':IntKind}{x s d:Nat}(hs:s<=64)(h:x*2^s<18446744073709551616):Qbi .shl bt (.int .u64 (x:Int)) (.int k' (s:Int)) d fr hp K=K (upd fr d (.int .u64 ((x*2^s:Nat):Int))) hp:=by
 have h0:(0:Int)<=s:=by omega
 have h1:min ((s:Int).toNat) IntKind.u64.bits=s:=by simp[IntKind.bits];omega
 simp only[Qbi,h0,true_and,h1]
 rw[show(x:Int)*2^s=((x*2^s:Nat):Int)by push_cast;rfl,Qf1 (by omega) (by omega)]
theorem Qv5{bt:Bool}{k':IntKind}{x s d:Nat}(hs:s<=32)(h:x*2^s<4294967296):Qbi .shl bt (.int .u32 (x:Int)) (.int k' (s:Int)) d fr hp K=K (upd fr d (.int .u32 ((x*2^s:Nat):Int))) hp:=by
 have h0:(0:Int)<=s:=by omega
 have h1:min ((s:Int).toNat) IntKind.u32.bits=s:=by simp[IntKind.bits];omega
 simp only[Qbi,h0,true_and,h1]
 rw[show(x:Int)*2^s=((x*2^s:Nat):Int)by push_cast;rfl,Qob (by omega) (by omega)]
theorem Qmg{bt:Bool}{k':IntKind}{x d:Nat}(h:x<281474976710656):Qbi .shl bt (.int .u64 (x:Int)) (.int k' 16) d fr hp K=K (upd fr d (.int .u64 ((x*65536:Nat):Int))) hp:=
 Qv4 (s:=16) (by omega) (by omega)
theorem Qmh{bt:Bool}{k':IntKind}{x d:Nat}(h:x<65536):Qbi .shl bt (.int .u32 (x:Int)) (.int k' 16) d fr hp K=K (upd fr d (.int .u32 ((x*65536:Nat):Int))) hp:=
 Qv5 (s:=16) (by omega) (by omega)
theorem Qrf{bt:Bool}{k':IntKind}{x s d:Nat}(hs:s<=32):Qbi .shr bt (.int .u32 (x:Int)) (.int k' (s:Int)) d fr hp K=K (upd fr d (.int .u32 ((x/2^s:Nat):Int))) hp:=by
 rw[Qzm (by omega)]
 have h1:min ((s:Int).toNat) IntKind.u32.bits=s:=by simp[IntKind.bits];omega
 rw[h1,Int.fdiv_eq_ediv_of_nonneg _ (Int.pow_nonneg (by omega))]
 rw[show(x:Int)/2^s=((x/2^s:Nat):Int)by push_cast;rfl]
theorem Qof{bt:Bool}{x y d:Nat}(hx:x<281474976710656)(hy:y<65536):Qbi .or bt (.int .u64 ((x*65536:Nat):Int)) (.int .u64 (y:Int)) d fr hp K=K (upd fr d (.int .u64 ((x*65536+y:Nat):Int))) hp:=by
 rw[Qzt (by omega) (by omega),show x*65536|||y=x*65536+y from Qqc (i:=16) hy]
theorem Qzu{bt:Bool}{x y d:Nat}(hx:x<65536)(hy:y<65536):Qbi .or bt (.int .u32 ((x*65536:Nat):Int)) (.int .u32 (y:Int)) d fr hp K=K (upd fr d (.int .u32 ((x*65536+y:Nat):Int))) hp:=by
 rw[Q8r (by omega) (by omega),show x*65536|||y=x*65536+y from Qqc (i:=16) hy]
theorem Qw3{bt:Bool}{x y d:Nat}(hx:x<65536)(hy:y<65536):Qbi .or bt (.int .u32 (y:Int)) (.int .u32 ((x*65536:Nat):Int)) d fr hp K=K (upd fr d (.int .u32 ((x*65536+y:Nat):Int))) hp:=by
 rw[Q8r (by omega) (by omega),Nat.or_comm,show x*65536|||y=x*65536+y from Qqc (i:=16) hy]
theorem Qv6{bt:Bool}{k:IntKind}{x y d:Nat}(hy:0<y)(hw:k.wrap ((x/y:Nat):Int)=((x/y:Nat):Int)):Qbi .quo bt (.int k (x:Int)) (.int k (y:Int)) d fr hp K=K (upd fr d (.int k ((x/y:Nat):Int))) hp:=by
 have:(y:Int)≠0:=by omega
 simp only[Qbi,ne_eq,this,not_false_eq_true,true_and]
 rw[Qah2 (by omega),<-hw];rfl
theorem Qex{bt:Bool}{k:IntKind}{x y d:Nat}(hy:0<y):Qbi .rem bt (.int k (x:Int)) (.int k (y:Int)) d fr hp K=K (upd fr d (.int k ((x%y:Nat):Int))) hp:=by
 have:(y:Int)≠0:=by omega
 simp only[Qbi,ne_eq,this,not_false_eq_true,true_and]
 rw[Qah3 (by omega)];rfl
theorem Q8t{n:Nat}(h:n<18446744073709551616):IntKind.u64.wrap (n:Int)=n:=Qf1 (by omega) (by omega)
theorem Q8u{n:Nat}(h:n<4294967296):IntKind.u32.wrap (n:Int)=n:=Qob (by omega) (by omega)
theorem Q8v{n:Nat}(h:n<9223372036854775808):IntKind.i64.wrap (n:Int)=n:=Qh5 (by omega) (by omega)
theorem Qk9{bt:Bool}{x y d:Nat}(hy:0<y)(hx:x<18446744073709551616):Qbi .quo bt (.int .u64 (x:Int)) (.int .u64 (y:Int)) d fr hp K=K (upd fr d (.int .u64 ((x/y:Nat):Int))) hp:=
 Qv6 hy (Q8t (Nat.lt_of_le_of_lt (Nat.div_le_self x y) hx))
theorem Q32{bt:Bool}{x y d:Nat}(hy:0<y)(hx:x<4294967296):Qbi .quo bt (.int .u32 (x:Int)) (.int .u32 (y:Int)) d fr hp K=K (upd fr d (.int .u32 ((x/y:Nat):Int))) hp:=
 Qv6 hy (Q8u (Nat.lt_of_le_of_lt (Nat.div_le_self x y) hx))
theorem Qv7{bt:Bool}{x y d:Nat}(hy:0<y)(hx:x<9223372036854775808):Qbi .quo bt (.int .i64 (x:Int)) (.int .i64 (y:Int)) d fr hp K=K (upd fr d (.int .i64 ((x/y:Nat):Int))) hp:=
 Qv6 hy (Q8v (Nat.lt_of_le_of_lt (Nat.div_le_self x y) hx))
theorem Qaid{e d β o n H:Nat}{k:IntKind}(h:H<=n)(he:(hp β).map (·.e)=some e):slK e (.mso β o n) none (some (.int k (H:Int))) none d fr hp K=K (upd fr d (.mso β o H)) hp:=by
 have h1:(H:Int)<=(n:Int):=by omega
 simp[slK,Qck,he,h1]
theorem Qaie{e d β o n L H:Nat}{k k':IntKind}(h1:L<=H)(h:H<=n)(h0:L<n)(he:(hp β).map (·.e)=some e):slK e (.mso β o n) (some (.int k (L:Int))) (some (.int k' (H:Int))) none d fr hp K=K (upd fr d (.mso β (o+L) (H-L))) hp:=by
 have q1:(H:Int)<=(n:Int):=by omega
 have q2:(L:Int)<=(H:Int):=by omega
 have q3:(L:Int)<(n:Int):=by omega
 simp[slK,Qck,he,q1,q2,q3]
theorem Qmi{bt:Bool}{x d:Nat}(hx:x<9223372036854775808):Qbi .quo bt (.int .i64 (x:Int)) (.int .i64 16) d fr hp K=K (upd fr d (.int .i64 ((x/16:Nat):Int))) hp:=
 Qv7 (y:=16) (by omega) hx
theorem Qmj{bt:Bool}{x d:Nat}:Qbi .rem bt (.int .i64 (x:Int)) (.int .i64 16) d fr hp K=K (upd fr d (.int .i64 ((x%16:Nat):Int))) hp:=
 Qex (y:=16) (by omega)
def Qjg(s:Nat):List Nat->Nat->List Nat
 | [],c=>[c]
 |x::xs,c=>((x*2^s)%65536+c)::Qjg s xs (x*2^s/65536)
theorem Qzv(s:Nat):∀(l:List Nat)(c:Nat),val (Qjg s l c)=val l*2^s+c
 | [],c=>by simp[Qjg,val]
 |x::xs,c=>by
  rw[Qjg,val,Qzv s xs,val,Nat.add_mul,Nat.mul_assoc]
  generalize x*2^s=y
  generalize val xs*2^s=z
  omega
theorem Qqd{s:Nat}(h:s<=16):(65536:Nat)=2^s*2^(16-s):=by rw[<-Nat.pow_add,show s+(16-s)=16 by omega]
theorem Qzw{s x c:Nat}(h:s<=16)(hc:c<2^s):(x*2^s)%65536+c<65536/\c|||(x*2^s)%65536=(x*2^s)%65536+c:=by
 have e:(x*2^s)%65536=(x%2^(16-s))*2^s:=by
  rw[Qqd h,Nat.mul_comm x,Nat.mul_mod_mul_left,Nat.mul_comm]
 have h1:x%2^(16-s)<2^(16-s):=Nat.mod_lt _ (Nat.pow_pos (by omega))
 have h2:(x%2^(16-s)+1)*2^s<=2^(16-s)*2^s:=Nat.mul_le_mul_right _ h1
 rw[Nat.add_mul,Nat.mul_comm (2^(16-s)),<-Qqd h]at h2
 rw[e]
 refine⟨by omega,?_⟩
 rw[Nat.or_comm,Qqc hc]
theorem Qw4{s x:Nat}(h:s<=16)(hx:x<65536):x*2^s/65536<2^s:=by
 rw[Nat.div_lt_iff_lt_mul (by omega),Nat.mul_comm]
 exact Nat.mul_lt_mul_of_pos_left hx (Nat.pow_pos (by omega))
theorem Qud{s:Nat}(h:s<=15):∀(l:List Nat)(c:Nat),Qu l->c<2^s->Qu (Qjg s l c)
 | [],c,_,hc=>by
  have:2^s<=2^15:=Nat.pow_le_pow_right (by omega) h
  simp[Qjg,Qu];omega
 |x::xs,c,hl,hc=>by
  rw[Qbe]at hl
  rw[Qjg,Qbe]
  exact⟨(Qzw (by omega) hc).1,Qud h xs _ hl.2 (Qw4 (by omega) hl.1)⟩
theorem Qr0(s:Nat):∀(l:List Nat)(c:Nat),(Qjg s l c).length=l.length+1
 | [],_=>rfl
 |x::xs,c=>by simp[Qjg,Qr0 s xs]
theorem Qaoe{s x:Nat}(h:s<=15)(hx:x<65536):x*2^s<2147483648:=by
 have:2^s<=2^15:=Nat.pow_le_pow_right (by omega) h
 have:=Nat.mul_le_mul (show x<=65535 by omega) this
 omega
theorem Qzx(l:List Nat):∀n,n<=l.length->cut l n=l.take (cut l n).length
 |0,_=>by simp[cut]
 |n+1,h=>by
  unfold cut
  split
  ·exact Qzx l n (by omega)
  ·rw[List.length_take,Nat.min_eq_left h]
theorem Qacd{l:List Nat}(h:Qu l):l.take (nl (val l))=dig (val l):=by
 have:=Qzx l l.length (Nat.le_refl _)
 rw[Qnl h]at this
 exact this.symm
end Go.FW
namespace Go.FW
open Go
theorem Qnn.toV{P:Program}{f:FuncId}{args:List PV}{ty:TypeId}{ys:List PV}(h:Qnn P f args ty (· =ys)):Qd P f args (· = .sl 1 ys):=by
 refine⟨h.1,fun w X vals hX h2 h3=>(h.2 w X vals hX h2 h3).mono ?_⟩
 rintro e w' ⟨v,b,cap,ys',rfl,rfl,hb,hx,hI,hcap,hm,rfl⟩
 refine⟨_,_,rfl,hx,?_,rfl⟩
 obtain⟨hint,cur,cp,i1,i2,i3,i4,i5⟩:=hI
 obtain⟨cur',ty',d1,d2⟩:=hcap
 rw[i1]at d1;cases d1
 have hbl:b<w'.heap.size:=(Array.getElem?_eq_some_iff.1 i1).1
 have e:cp=cap:=by omega
 subst e
 refine Qae.sl (w:=w') (X:=X) 1 ys' b 0 cp (fun i j=>cur.getD (i+j) undef) (fun hxb=>by have:=hX b hxb;omega) hbl i3 i4 (Qoe hint |> fun h i x hx=>(h i x hx).1) (fun i hi j hj=> ?_) (fun i x hx j y hy=> ?_)
 ·have:j=0:=by omega
  subst this
  simp only[Nat.zero_add,Nat.mul_one,Nat.add_zero]
  exact Qby i1 (by omega)
 ·obtain⟨k,n,rfl⟩:=hint x (List.mem_of_getElem? hx)
  cases j with
  |zero=>
   simp[PV.cells]at hy;subst hy
   show Qae w' X (.int k n) (cur.getD (i+0) undef)
   rw[Nat.add_zero,i5 i k n hx]
   exact Qae.int k n
  |succ j=>simp[PV.cells]at hy
def Qis(s:Nat):List Nat->List Nat
 | []=>[]
 |x::xs=>((xs.headD 0*65536+x)/2^s)%65536::Qis s xs
theorem Qm1(s:Nat):∀l,(Qis s l).length=l.length
 | []=>rfl
 |x::xs=>by simp[Qis,Qm1 s xs]
theorem Que(s:Nat):∀l,Qu (Qis s l)
 | []=>Qdb
 |x::xs=>by rw[Qis,Qbe];exact⟨by omega,Que s xs⟩
theorem Q8w{s i:Nat}{l:List Nat}(h:i<l.length):Qis s (l.drop i)=((l.getD (i+1) 0*65536+l[i])/2^s)%65536::Qis s (l.drop (i+1)):=by
 rw[List.drop_eq_getElem_cons h,Qis]
 simp[List.headD_eq_head?_getD,List.head?_drop,List.getD_eq_getElem?_getD]
theorem Qace{x V s:Nat}(hs:s<=16)(hx:x<65536):(x+65536*V)/2^s=((V%65536*65536+x)/2^s)%65536+65536*(V/2^s):=by
 have hp:0<2^s:=Nat.pow_pos (by omega)
 have e0:=Nat.div_add_mod V (2^s)
 have hr:=Nat.mod_lt V hp
 generalize hq:V/2^s=q at *
 generalize hrr:V%2^s=r at *
 have hy:V%65536%2^s=r:=by
  rw[Qqd hs,Nat.mod_mul_right_mod];exact hrr
 have e1:=Nat.div_add_mod (V%65536) (2^s)
 rw[hy]at e1
 generalize V%65536/2^s=t at *
 have hlt:(65536*r+x)/2^s<65536:=by
  rw[Nat.div_lt_iff_lt_mul hp]
  have:65536*(r+1)<=65536*2^s:=Nat.mul_le_mul_left _ hr
  omega
 have k1:x+65536*V=(65536*r+x)+2^s*(65536*q):=by
  rw[<-e0,Nat.mul_add,Nat.mul_left_comm];omega
 have k2:V%65536*65536+x=(65536*r+x)+2^s*(65536*t):=by
  rw[<-e1,Nat.add_mul,Nat.mul_assoc,Nat.mul_comm t 65536];omega
 rw[k1,k2,Nat.add_mul_div_left _ _ hp,Nat.add_mul_div_left _ _ hp,Nat.add_mul_mod_self_left,Nat.mod_eq_of_lt hlt]
theorem Qzy{s:Nat}(hs:s<=16):∀l,Qu l->val (Qis s l)=val l/2^s
 | [],_=>by simp[Qis,val]
 | x::xs,h=>by
  rw[Qbe]at h
  rw[Qis,val,Qzy hs xs h.2,val,Qace hs h.1]
  have:xs.headD 0=val xs%65536:=by
   cases xs with
   |nil=>simp[val]
   |cons y ys=>have:=h.2 y (by simp);simp[val];omega
  rw[this]
variable {C : Ctx} {ρ : Nat -> Option Nat} {fr fr' : Fr} {hp : HP} {w : World} {K K' R R' : Qp}
def Fle(fr fr':Fr):Prop:=∀s,fr' s=fr s∨fr' s= .undef
theorem Fle.refl(fr:Fr):Fle fr fr:=fun _=> .inl rfl
theorem Fle.trans{a b c:Fr}(h:Fle a b)(k:Fle b c):Fle a c:=fun s=>by
 rcases k s with e|e
 ·rw[e];exact h s
 ·exact .inr e
theorem Fle.upd(h:Fle fr fr')(d:Nat){v v':PV}(hv:v'=v∨v'= .undef):Fle (upd fr d v) (upd fr' d v'):=fun s=>by
 unfold FW.upd;split
 ·exact hv
 ·exact h s
theorem Fle.upd'(h:Fle fr fr')(d:Nat)(v:PV):Fle (FW.upd fr d v) (FW.upd fr' d v):=h.upd d (.inl rfl)
theorem Fle.kill(h:Fle fr fr')(β:Nat):Fle (Qa7 β fr) (Qa7 β fr'):=fun s=>by
 unfold Qa7
 rcases h s with e|e
 ·exact .inl (by rw[e])
 ·right;rw[e];simp[Qa1,PV.refs]
theorem Fle.ev(h:Fle fr fr')(x:Opd):ev fr' x=ev fr x∨ev fr' x= .undef:=by
 cases x with
 |t n=>exact h n
 |c p=>exact .inl rfl
theorem Fle.mem(h:Fle fr fr'){q:PV->Prop}(hq:¬q .undef){l:List Opd}(hl:∀p∈l.map (FW.ev fr'),q p):l.map (FW.ev fr')=l.map (FW.ev fr):=by
 refine List.map_congr_left fun x hx=> ?_
 rcases h.ev x with e|e
 ·exact e
 ·exact absurd (e▸hl _ (List.mem_map_of_mem hx)) hq
theorem Fle.nst(h:Fle fr fr'){γ γ' e ty:Nat}{xs:List PV}(e1:fr' γ= .nst γ' e ty xs):fr γ= .nst γ' e ty xs:=by
 rcases h γ with e2|e2
 ·rw[<-e2];exact e1
 ·rw[e1]at e2;cases e2
theorem Fle.drop(h:Fle fr fr')(γ:Nat):Fle (Qdw γ fr) (Qdw γ fr'):=fun s=>by
 unfold Qdw
 rcases h s with e|e
 ·exact .inl (by rw[e])
 ·right;rw[e];rfl
theorem Fle.take(h:Fle fr fr')(β:Nat):Fle (Qel β fr) (Qel β fr'):=fun s=>by
 unfold Qel
 rcases h s with e|e
 ·exact .inl (by rw[e])
 ·right;rw[e];simp[Qbt,Qa1,PV.refs]
theorem Fle.wk(h:Fle fr fr'):Wk fr hp fr' hp:=by
 rintro C tmps w ⟨ρ,hs⟩
 refine⟨ρ,hs.sz,hs.ext,hs.keep,hs.own,hs.inj,fun s=> ?_⟩
 rcases h s with h|h<;>rw[h]
 ·exact hs.slots s
 ·trivial
theorem Fle.sim{tmps:Array Value}(h:Fle fr fr')(hs:Qah C ρ fr hp tmps w):Qah C ρ fr' hp tmps w:=by
 refine⟨hs.sz,hs.ext,hs.keep,hs.own,hs.inj,fun s=> ?_⟩
 rcases h s with h|h<;>rw[h]
 ·exact hs.slots s
 ·trivial
theorem Q5r(h:Fle fr fr')(x:Option Opd):x.map (ev fr')=x.map (ev fr)∨x.map (ev fr')=some .undef:=by
 cases x with
 |none=>exact .inl rfl
 |some x=>rcases h.ev x with e|e<;>simp[e]
theorem Qya(d:Int):Qck d (some .undef)=none:=rfl
theorem Qv8(h:Fle fr fr')(hK:∀f f' hp,Fle f f'->K' f' hp->K f hp)(o:SOp):opV C o fr' hp K'->opV C o fr hp K:=by
 have hu:∀(d:Nat)(v:PV)(hp:HP),K' (upd fr' d v) hp->K (upd fr d v) hp:=fun d v hp H=>hK _ _ _ (h.upd' d v) H
 have hk:∀(β d:Nat)(v:PV)(hp:HP),K' (upd (Qa7 β fr') d v) hp->K (upd (Qa7 β fr) d v) hp:=fun β d v hp H=>hK _ _ _ ((h.kill β).upd' d v) H
 have hz:∀hp,K' fr' hp->K fr hp:=fun hp H=>hK _ _ _ h H
 have mono:∀ {o:SOp},opV C o fr hp K'->opV C o fr hp K:=fun H=>Qs4 (fun f hp H=>hK _ _ _ (Fle.refl f) H) _ H
 cases o with
 |mv d x=>exact fun H=>hK _ _ _ (h.upd d (h.ev x)) H
 | pick d c a b=>
  simp only[opV,Qks]
  rcases h.ev c with e|e
  ·rw[e]
   split
   ·exact fun H=>⟨fun t=>hK _ _ _ (h.upd d (h.ev a)) (H.1 t),fun t=>hK _ _ _ (h.upd d (h.ev b)) (H.2 t)⟩
   ·exact id
  ·rw[e];exact False.elim
 | call d pr f args=>
  simp only[opV,Qc7]
  rcases h.ev f with e|e
  ·rw[e]
   split
   ·rintro⟨h1,h2⟩
    refine⟨h1,fun ρ tmps w fv cv av a1 a2 a3 a4 a5 a6 a7 a8=> ?_⟩
    refine(h2 ρ tmps w fv cv av a1 (h.sim a2) a3 a4 (by simpa using a5) a6 a7 (fun i x hx=> ?_)).mono ?_
    ·simp only[List.getElem?_map,Option.map_eq_some_iff]at hx
     obtain⟨y,hy,rfl⟩:=hx
     rcases h.ev y with e|e
     ·rw[e];exact a8 i _ (by simp[hy])
     ·rw[e];trivial
    ·rintro e w' ⟨v,f1,hp',e1,e2,e3,e4⟩
     exact⟨v,f1,hp',e1,e2,e3,hK _ _ _ (Fle.refl _) e4⟩
   ·exact id
  ·rw[e];exact False.elim
 |bs d e ty ps=>
  simp only[opV,bsK]
  rintro⟨h1,h2,h3⟩
  have e:=h.mem (q:=fun p=>(Qam hp p).isData=true) (by simp[Qam,Qbh,PV.isData]) (l:=ps) (fun p hp=>(h2 p hp).1)
  rw[e]at h2 h3
  exact⟨h1,h2,hk _ _ _ _ h3⟩
 | bld d z ps=>
  have key:((∀x∈ps,ev fr' x.2.2≠ .undef)->(ps.map fun p=>(p.1,p.2.1,ev fr' p.2.2))=ps.map fun p=>(p.1,p.2.1,ev fr p.2.2)):=fun hu=>by
   refine List.map_congr_left fun x hx=> ?_
   rcases h.ev x.2.2 with e|e
   ·rw[e]
   ·exact absurd e (hu x hx)
  intro H
  simp only[opV,Qh1]at H
  split at H
  ·rename_i hn
   obtain⟨h2,h3⟩:=H
   have e:=key fun x hx e=>by
    obtain⟨cs,h4,_⟩:=h2 _ (List.mem_map_of_mem hx)
    rw[e]at h4;simp[stN]at h4
   rw[e]at h2 h3 hn
   simp only[opV,Qh1]
   rw[if_pos hn]
   exact⟨h2,hK _ _ _ (h.upd' _ _) h3⟩
  ·rename_i hn
   obtain⟨h2,h3⟩:=H
   have e:=key fun x hx e=>by
    have:=(h2 _ (List.mem_map_of_mem hx)).1
    rw[e]at this;simp[Qam,Qbh,PV.isData]at this
   rw[e]at h2 h3 hn
   simp only[opV,Qh1]
   rw[if_neg hn]
   exact⟨h2,hK _ _ _ (h.upd' _ _) h3⟩
 |fn d f first cap=>
  simp only[opV]
  rintro⟨h2,h3⟩
  have h2':=h2
  rw[List.all_append,Bool.and_eq_true,List.all_eq_true,List.all_eq_true]at h2'
  have e1:=h.mem (q:=fun p=>p.isCap=true) (by simp[PV.isCap]) h2'.1
  have e2:=h.mem (q:=fun p=>p.isCap=true) (by simp[PV.isCap]) h2'.2
  rw[e1,e2]at h2 h3
  exact⟨h2,hK _ _ _ (h.upd' _ _) h3⟩
 | nilc d x=>
  simp only[opV,Qtq]
  rcases h.ev x with e|e
  ·rw[e]
   intro H;revert H
   repeat' split
   all_goals first|exact id|exact hz _|exact hu _ _ _|grind
  ·rw[e];intro H;revert H;repeat' split
   all_goals first|exact id|exact False.elim|grind
 | bin d op bt x y=>
  simp only[opV]
  rcases h.ev x with e|e<;>rcases h.ev y with e'|e'<;>rw[e,e']
  ·unfold Qbi
   intro H;revert H
   split
   ·split<;>first|exact fun H=>⟨H.1,hu _ _ _ H.2⟩|exact fun H=>⟨H.1,H.2.1,hu _ _ _ H.2.2⟩|exact id
   ·split<;>first|exact fun H=>⟨H.1,hu _ _ _ H.2⟩|exact id
   ·exact id
  all_goals
   unfold Qbi
   intro H;revert H
   repeat' split
   all_goals first|exact False.elim|(intros;simp_all;done)|(rename_i h1 _;cases h1;done)|(rename_i h1;cases h1;done)
 | sl d e x lo hi mx=>
  simp only[opV,slK]
  rcases h.ev x with e0|e0<;>rcases Q5r h lo with e1|e1<;>rcases Q5r h hi with e2|e2<;>rcases Q5r h mx with e3|e3<;>rw[e0,e1,e2,e3]
  all_goals
   intro H;revert H
   try simp only[Qya]
   repeat' split
   all_goals first|exact id|exact False.elim|(intros;simp_all;done)|grind
 | ld d n ag x=>
  simp only[opV,ldK]
  rcases h.ev x with e|e
  ·rw[e]
   intro H;revert H
   split
   ·split
    ·exact fun⟨a,b,c,k⟩=>⟨a,b,c,hu _ _ _ k⟩
    ·exact id
   ·exact fun⟨a,b,k⟩=>⟨a,b,hu _ _ _ k⟩
   ·exact fun⟨a,b,k⟩=>⟨a,b,hu _ _ _ k⟩
   ·intro H
    split at H
    ·rename_i hγ
     rw[h.nst hγ]
     obtain⟨a,b,c,d,k⟩:=H
     exact⟨a,b,c,d,hu _ _ _ k⟩
    ·exact H.elim
   ·exact id
  ·rw[e];exact fun H=>H.elim
 | st n x y=>
  simp only[opV,stK]
  rcases h.ev x with e|e<;>rcases h.ev y with e'|e'<;>rw[e,e']
  ·intro H;revert H
   split
   ·split
    ·exact fun⟨a,b,c,d,f,k⟩=>⟨a,b,c,d,f,hz _ k⟩
    ·exact id
   ·intro H
    split at H
    ·rename_i hγ
     rw[h.nst hγ]
     obtain⟨a,b,c,d,H⟩:=H
     refine⟨a,b,c,d,?_⟩
     revert H
     split
     ·exact fun⟨f,k⟩=>⟨f,hK _ _ _ ((h.drop _).upd' _ _) k⟩
     ·exact id
    ·exact H.elim
   ·exact id
  ·intro H
   exfalso
   revert H
   split
   ·split
    ·rintro⟨_,b,_⟩;simp[Qam,Qbh,PV.isData]at b
    ·exact id
   ·split
    ·rintro⟨_,_,_,_,H⟩;exact H
    ·exact id
   ·exact id
  ·exact fun H=>H.elim
  ·exact fun H=>H.elim
 | app d e by_ ty x y=>
  simp only[opV,Qe5]
  rcases h.ev y with e'|e'
  ·rw [e']
   intro H;revert H
   split
   ·exact id
   ·rintro⟨h0,h1,H⟩
    refine⟨h0,h1,?_⟩
    rcases h.ev x with e|e
    ·rw[e]at H
     revert H
     split
     ·rintro⟨a,b,c⟩;exact⟨a,b,hk _ _ _ _ c⟩
     ·split
      ·rintro(⟨a1,a2,a3,a4,a5,a6,a7,c⟩|⟨a1,a2,a3,c⟩)
       ·exact .inl ⟨a1,a2,a3,a4,a5,a6,a7,hk _ _ _ _ c⟩
       ·exact .inr ⟨a1,a2,a3,hK _ _ _ ((h.take _).upd' _ _) c⟩
      ·exact id
     ·exact id
    ·rw[e]at H;exact H.elim
  ·rw[e'];exact fun H=>H.elim
 | un d op x|conv d k x|len d x|fld d o x|fldv d o n ag x|ext d x i|box d n ty x|alloc d n ty z=>
  all_goals
   simp only[opV,unK,Qn1,Qkl,Qmx,Qjn,ldK,Qll,Qey]
   try (rcases h.ev x with e|e<;>rw[e])
  all_goals
   intro H;revert H
   repeat' split
   all_goals first|exact id|exact False.elim|exact hu _ _ _|grind [Qam,Qbh,PV.isData]
 | eqs d ng x y|mx d x y|mn d x y|idx d e x y|idxA d n e x y|ixv d n e ag x y|mk d e by_ ty z x y|cpy d e x y=>
  all_goals
   simp only[opV,Qmw,mxK,mnK,Qe4,Ql7,Qp1,stK,mkK,Qe5,Qlk]
   rcases h.ev x with e|e<;>rcases h.ev y with e'|e'<;>rw[e,e']
  all_goals
   intro H;revert H
   repeat' split
   all_goals first|exact id|exact False.elim|exact hu _ _ _|grind [Qam,Qbh,PV.isData,Qec]
 |bad d=>exact id
end Go.FW
namespace Go.FW
open Go
variable {C : Ctx} {ρ : Nat -> Option Nat} {fr fr' : Fr} {hp : HP} {w : World} {K K' R R' : Qp}
def KM(K' K:Qp):Prop:=∀f f' hp,Fle f f'->K' f' hp->K f hp
inductive Qit:List It->List It->Prop
 |nil:Qit [] []
 |c (s:SC) {a b:List It}:Qit a b->Qit (.c s::a) (.c s::b)
 |o (r:RT) {a b:List It}:Qit a b->Qit (.o r::a) (.o r::b)
 |eb (i:Nat) {a b:List It}:Qit a b->Qit (.eb i::a) (.eb i::b)
 |el {J' J:Qp} {a b:List It}:KM J' J->Qit a b->Qit (.el J'::a) (.el J::b)
theorem Qit.exit{id:Nat}:∀ {a b:List It},Qit a b->(∃a' b',FW.Qat id a=some a'/\FW.Qat id b=some b'/\Qit a' b'/\Qbd a'<=Qbd a)∨(FW.Qat id a=none/\FW.Qat id b=none):=by
 intro a b h
 induction h with
 |nil=>exact .inr ⟨rfl,rfl⟩
 |c s h ih|o s h ih=>
  rcases ih with⟨a',b',h1,h2,h3,h4⟩|⟨h1,h2⟩
  ·exact .inl ⟨a',b',by simpa[FW.Qat]using h1,by simpa[FW.Qat]using h2,h3,by simp only[Qbd];omega⟩
  ·exact .inr ⟨by simpa[FW.Qat]using h1,by simpa[FW.Qat]using h2⟩
 |el _ h ih=>
  rcases ih with⟨a',b',h1,h2,h3,h4⟩|⟨h1,h2⟩
  ·exact .inl ⟨a',b',by simpa[FW.Qat]using h1,by simpa[FW.Qat]using h2,h3,by simp only[Qbd];omega⟩
  ·exact .inr ⟨by simpa[FW.Qat]using h1,by simpa[FW.Qat]using h2⟩
 | eb i h ih=>
  by_cases hi:i=id
  ·exact .inl ⟨_,_,by simp[FW.Qat,hi],by simp[FW.Qat,hi],h,by simp only[Qbd];omega⟩
  ·rcases ih with⟨a',b',h1,h2,h3,h4⟩|⟨h1,h2⟩
   ·exact .inl ⟨a',b',by simpa[FW.Qat,hi]using h1,by simpa[FW.Qat,hi]using h2,h3,by simp only[Qbd];omega⟩
   ·exact .inr ⟨by simpa[FW.Qat,hi]using h1,by simpa[FW.Qat,hi]using h2⟩
theorem Qmk(h:Fle fr fr')(hK:KM K' K)(o:SOp):Qem o fr' hp K'->Qem o fr hp K:=by
 unfold Qem;split
 ·exact hK _ _ _ (h.upd' _ _)
 ·exact hK _ _ _ h
theorem Qacf(h:Fle fr fr')(hK:KM K' K)(g:Option (Nat×Bool))(o:SOp):Qkm C g o fr' hp K'->Qkm C g o fr hp K:=by
 unfold Qkm
 split
 ·exact Qv8 h hK o
 ·rename_i s want
  rcases h s with e|e
  ·rw[e]
   split
   ·exact fun H=>⟨fun t=>Qv8 (h.upd' _ _) hK o (H.1 t),fun t=>Qmk (h.upd' _ _) hK o (H.2 t)⟩
   ·exact Qmk h hK o
   ·exact id
  ·rw[e];exact False.elim
theorem Qhn(hR:KM R' R):∀(n:Nat)(sk' sk:List It)(fr' fr:Fr)(hp:HP),Qbd sk'<=n->Qit sk' sk->Fle fr fr'->vc C R' sk' fr' hp->vc C R sk fr hp:=by
 intro n
 induction n with
 |zero=>
  intro sk' sk fr' fr hp hn hs hf h
  cases hs with
  |nil=>rw[Qj6]at h ⊢;exact hR _ _ _ hf h
  |el hJ _=>rw[Qn6]at h ⊢;exact hJ _ _ _ hf h
  |c s _=>exfalso;have:=SC.sz_pos s;simp only[Qbd,It.sz]at hn;omega
  |o s _=>exfalso;have:=RT.sz_pos s;simp only[Qbd,It.sz]at hn;omega
  |eb _ _=>exfalso;simp only[Qbd,It.sz]at hn;omega
 | succ n ih=>
  intro sk' sk fr' fr hp hn hs hf h
  cases hs with
  |nil=>rw[Qj6]at h ⊢;exact hR _ _ _ hf h
  |el hJ _=>rw[Qn6]at h ⊢;exact hJ _ _ _ hf h
  |eb i hs=>
   rw[Qyq]at h⊢
   exact ih _ _ _ _ _ (by simp only[Qbd,It.sz]at hn;omega) hs hf h
  | o r hs=>
   cases r with
   |nil=>rw[Qp7]at h ⊢;exact ih _ _ _ _ _ (by simp only[Qbd,It.sz,RT.sz]at hn;omega) hs hf h
   |o g o r=>
    rw[Q8j]at h⊢
    exact Qacf (K':=fun fr hp=>vc C R' (.o r::_) fr hp) (K:=fun fr hp=>vc C R (.o r::_) fr hp) hf (fun f f' hp hf' H=>ih (.o r::_) (.o r::_) _ _ hp (by simp only[Qbd,It.sz,RT.sz]at hn ⊢;omega) (.o r hs) hf' H) g o h
   |wk r=>
    rw[Qtz]at h⊢
    obtain⟨fr0,hp0,hw,h⟩:=h
    exact⟨fr0,hp0,hf.wk.trans hw,ih (.o r::_) (.o r::_) _ _ _ (by simp only[Qbd,It.sz,RT.sz]at hn ⊢;omega) (.o r hs) (Fle.refl _) h⟩
   |br x y=>
    rw[Q8k]at h⊢
    exact⟨ih (.o x::_) (.o x::_) _ _ _ (by simp only[Qbd,It.sz,RT.sz]at hn ⊢;omega) (.o x hs) hf h.1,ih (.o y::_) (.o y::_) _ _ _ (by simp only[Qbd,It.sz,RT.sz]at hn ⊢;omega) (.o y hs) hf h.2⟩
  | @c s a b hs=>
   cases s with
   |skip=>rw[Qq7]at h ⊢;exact ih _ _ _ _ _ (by simp only[Qbd,It.sz,SC.sz]at hn;omega) hs hf h
   |rg r=>rw[Q5h]at h ⊢;exact ih (.o r::_) (.o r::_) _ _ _ (by simp only[Qbd,It.sz,SC.sz]at hn ⊢;omega) (.o r hs) hf h
   | raw id ops=>
    rw[vc]at h⊢
    intro tmps w Q hsim hQ
    refine h tmps w Q ?_ fun fr2 hp2 tmps2 w2 hs2 hv=>hQ fr2 hp2 tmps2 w2 hs2 ?_
    ·obtain⟨ρ,hsim⟩:=hsim
     exact⟨ρ,hf.sim hsim⟩
    ·exact ih _ _ _ _ _ (by simp only[Qbd,It.sz,SC.sz]at hn;omega) hs (Fle.refl _) hv
   |seq x y=>rw[Qt1]at h ⊢;exact ih (.c x:: .c y::_) (.c x:: .c y::_) _ _ _ (by simp only[Qbd,It.sz,SC.sz]at hn ⊢;omega) (.c x (.c y hs)) hf h
   |block id x=>rw[Qn5]at h ⊢;exact ih (.c x:: .eb id::_) (.c x:: .eb id::_) _ _ _ (by simp only[Qbd,It.sz,SC.sz]at hn ⊢;omega) (.c x (.eb id hs)) hf h
   |ret=>rw[Qt2]at h ⊢;exact hR _ _ _ hf h
   | cond c x y=>
    rw[Qq8]at h⊢
    rcases hf.ev c with e|e
    ·rw[e]at h
     unfold Qkx at h⊢
     split at h
     ·exact⟨fun e=>ih (.c x::_) (.c x::_) _ _ _ (by simp only[Qbd,It.sz,SC.sz]at hn ⊢;omega) (.c x hs) hf (h.1 e),fun e=>ih (.c y::_) (.c y::_) _ _ _ (by simp only[Qbd,It.sz,SC.sz]at hn ⊢;omega) (.c y hs) hf (h.2 e)⟩
     ·exact h
    ·rw[e]at h;exact h.elim
   | exit id=>
    rw[Qq9]at h⊢
    rcases hs.exit (id:=id)with⟨a',b',h1,h2,h3,h4⟩|⟨h1,h2⟩
    ·rw[h1]at h;rw[h2]
     simp only[Qn7]at h⊢
     exact ih _ _ _ _ _ (by simp only[Qbd,It.sz,SC.sz]at hn;omega) h3 hf h
    ·rw[h1]at h;exact h.elim
   |loop x=>
    rw[Qg7]at h⊢
    obtain⟨I,μ,⟨fr0,hp0,h1,h1'⟩,h2⟩:=h
    refine⟨I,μ,⟨fr0,hp0,hf.wk.trans h1,h1'⟩,fun fr hp hI=> ?_⟩
    refine ih (.c x:: .el _::_) (.c x:: .el _::_) _ _ _ (by simp only[Qbd,It.sz,SC.sz]at hn ⊢;omega) (.c x (.el ?_ hs)) (Fle.refl _) (h2 fr hp hI)
    rintro f f' hp' hf ⟨fr0,hp0,g1,g2,g3⟩
    exact⟨fr0,hp0,hf.wk.trans g1,g2,g3⟩
def inW:List (Nat×Nat)->Nat->Bool
 | [],_=>false
 |(a,b)::W,s=>(decide (a<=s)&&decide (s<=b))||inW W s
theorem Qaif(s:Nat):inW [] s=false:=rfl
theorem Qog(a b s:Nat)(W:List (Nat×Nat)):inW ((a,b)::W) s=((decide (a<=s)&&decide (s<=b))||inW W s):=rfl
def ovr(W:List (Nat×Nat))(J F:Fr):Fr:=fun s=>if inW W s then J s else F s
theorem Q8x(W:List (Nat×Nat))(J F:Fr)(s:Nat):ovr W J F s=if inW W s then J s else F s:=rfl
theorem Q33{W:List (Nat×Nat)}{a:Nat}{v:PV}{J F:Fr}(h:inW W a=true):upd (ovr W J F) a v=ovr W (upd J a v) F:=by
 funext s;unfold upd ovr
 by_cases hs:s=a
 ·subst hs;rw[if_pos rfl,if_pos h];simp
 ·rw[if_neg hs];split
  ·simp[hs]
  ·rfl
theorem Qacg{W:List (Nat×Nat)}{a:Nat}{v:PV}{J F:Fr}:upd (ovr W J F) a v=if inW W a=true then ovr W (upd J a v) F else ovr ((a,a)::W) (upd J a v) F:=by
 split
 ·exact Q33 ‹_›
 ·funext s;unfold upd ovr
  by_cases hs:s=a
  ·subst hs;simp[inW]
  ·have:(decide (a<=s)&&decide (s<=a))=false:=by
    rw[Bool.and_eq_false_iff];simp only[decide_eq_false_iff_not];omega
   simp only[Qog,this,Bool.false_or,if_neg hs]
theorem Q8y{W:List (Nat×Nat)}{β:Nat}{J F:Fr}:Qa7 β (ovr W J F)=ovr W (Qa7 β J) (Qa7 β F):=by
 funext s;unfold Qa7 ovr;split<;>rfl
def Qao(B:List Nat)(F:Fr):Fr:=fun s=>if(F s).refs.any B.contains then .undef else F s
theorem Qa3(F:Fr):Qao [] F=F:=by funext s;simp[Qao]
theorem Qiu{β:Nat}{B:List Nat}{F:Fr}(h:B.contains β=true):Qa7 β (Qao B F)=Qao B F:=by
 funext s
 show Qa1 β (Qao B F s)=Qao B F s
 by_cases h1:(F s).refs.any B.contains=true
 ·have:Qao B F s= .undef:=if_pos h1
  rw[this];rfl
 ·have:Qao B F s=F s:=if_neg h1
  rw[this,Qa1,if_neg]
  intro h2
  exact h1 (List.any_eq_true.2 ⟨β,by simpa using h2,h⟩)
theorem Qyb{β:Nat}{B:List Nat}{F:Fr}:Qa7 β (Qao B F)=if B.contains β=true then Qao B F else Qao (β::B) F:=by
 split
 ·exact Qiu ‹_›
 ·funext s
  show Qa1 β (Qao B F s)=Qao (β::B) F s
  unfold Qao Qa1
  by_cases h1:(F s).refs.any B.contains=true
  ·have h2:(F s).refs.any (β::B).contains=true:=by
    obtain⟨x,hx,hx2⟩:=List.any_eq_true.1 h1
    exact List.any_eq_true.2 ⟨x,hx,by rw[List.contains_cons,hx2,Bool.or_true]⟩
   simp only[if_pos h1,if_pos h2]
   rfl
  ·simp only[if_neg h1]
   by_cases h2:(F s).refs.contains β=true
   ·have h3:(F s).refs.any (β::B).contains=true:=List.any_eq_true.2 ⟨β,by simpa using h2,by simp⟩
    rw[if_pos h2,if_pos h3]
   ·rw[if_neg h2,if_neg]
    intro h3
    obtain⟨x,hx,hx2⟩:=List.any_eq_true.1 h3
    rw[List.contains_cons,Bool.or_eq_true]at hx2
    rcases hx2 with e|e
    ·have:x=β:=by simpa using e
     subst this;exact h2 (by simpa using hx)
    ·exact h1 (List.any_eq_true.2 ⟨x,hx,e⟩)
theorem Qqe(B:List Nat)(F:Fr)(s:Nat):Qao B F s=if(F s).refs.any B.contains then .undef else F s:=rfl
theorem Qs6(W:List (Nat×Nat))(B:List Nat):Fle fr (ovr W fr (Qao B fr)):=fun s=>by
 unfold ovr Qao
 split
 ·exact .inl rfl
 ·split
  ·exact .inr rfl
  ·exact .inl rfl
def Qrg(W:List (Nat×Nat))(F:Fr)(I:Nat->Fr->HP->Prop)(n:Nat):Qp:=fun fr' hp'=>∃J m,Fle fr' (ovr W J F)/\m<n/\I m J hp'
theorem Qo{W:List (Nat×Nat)}{F J:Fr}{I:Nat->Fr->HP->Prop}{n:Nat}(m:Nat)(hl:m<n)(h:I m J hp):Qrg W F I n (ovr W J F) hp:=⟨J,m,Fle.refl _,hl,h⟩
theorem Qach{W:List (Nat×Nat)}{F:Fr}{I:Nat->Fr->HP->Prop}{n:Nat}:KM (Qrg W F I n) (Qrg W F I n):=by
 rintro f f' hp hf ⟨J,m,h1,h2,h3⟩
 exact⟨J,m,hf.trans h1,h2,h3⟩
def Qd9(R:Qp)(sk:List It):Prop:=KM R R/\Qit sk sk
theorem Qz{sk:List It}{x:SC}(hok:Qd9 R sk)(W:List (Nat×Nat))(B:List Nat)(I:Nat->Fr->HP->Prop)(m0:Nat)(h0:I m0 fr hp)
  (h:∀m J hp,I m J hp->vc C R (.c x:: .el (Qrg W (Qao B fr) I m)::sk) (ovr W J (Qao B fr)) hp):vc C R (.c (.loop x)::sk) fr hp:=by
 refine Qka (fun m fr' hp'=>∃J,fr'=ovr W J (Qao B fr)/\I m J hp') m0 (Qs6 W B).wk ⟨fr,rfl,h0⟩ ?_
 rintro m _ hp' ⟨J,rfl,hI⟩
 refine Qhn hok.1 _ _ _ _ _ _ (Nat.le_refl _) (.c x (.el ?_ hok.2)) (Fle.refl _) (h m J hp' hI)
 rintro f f' hp2 hf ⟨J2,m2,e2,hl,h2⟩
 exact Qs2 hl (hf.trans e2).wk ⟨J2,rfl,h2⟩
def Qly(W:List (Nat×Nat))(F:Fr)(M:Fr->HP->Prop):Qp:=fun fr' hp'=>∃J,Fle fr' (ovr W J F)/\M J hp'
theorem Qla{W:List (Nat×Nat)}{F J:Fr}{M:Fr->HP->Prop}(h:M J hp):Qly W F M (ovr W J F) hp:=⟨J,Fle.refl _,h⟩
theorem Qno{W:List (Nat×Nat)}{F:Fr}{M:Fr->HP->Prop}:KM (Qly W F M) (Qly W F M):=by
 rintro f f' hp hf ⟨J,h1,h3⟩
 exact⟨J,hf.trans h1,h3⟩
theorem Qh{sk:List It}{W:List (Nat×Nat)}{F:Fr}{I:Nat->Fr->HP->Prop}{n:Nat}(h:Qd9 R sk):Qd9 R (.el (Qrg W F I n)::sk):=⟨h.1,.el Qach h.2⟩
theorem Qm{sk:List It}{W:List (Nat×Nat)}{F:Fr}{M:Fr->HP->Prop}(h:Qd9 R sk):Qd9 R (.el (Qly W F M)::sk):=⟨h.1,.el Qno h.2⟩
theorem Qt{sk:List It}{i:Nat}(h:Qd9 R sk):Qd9 R (.eb i::sk):=⟨h.1,.eb i h.2⟩
theorem Qx{sk:List It}{s:SC}(h:Qd9 R sk):Qd9 R (.c s::sk):=⟨h.1,.c s h.2⟩
theorem Qy{sk:List It}{s:RT}(h:Qd9 R sk):Qd9 R (.o s::sk):=⟨h.1,.o s h.2⟩
theorem Qg{sk:List It}{I:Nat->Qp}{n:Nat}(h:Qd9 R sk):Qd9 R (.el (Qnj I n)::sk):=⟨h.1,.el (fun f f' hp hf ⟨a,b,h1,h2⟩=>⟨a,b,hf.wk.trans h1,h2⟩) h.2⟩
theorem Q34{rs:List RV}{Rr:PV->Prop}:KM (Qdv rs Rr) (Qdv rs Rr):=by
 have one:∀(f f':Fr)(hp:HP)(r:RV),Fle f f'->okR f' hp r->okR f hp r/\rvP f' hp r=rvP f hp r:=by
  intro f f' hp r hf ho
  cases r with
  |t s=>
   simp only[okR,rvP]at ho⊢
   rcases hf s with e|e
   ·rw[e]at ho ⊢;exact⟨ho,rfl⟩
   ·rw[e]at ho;simp[Qam,Qbh,PV.isData]at ho
  |cell s n ag=>
   simp only[okR,rvP]at ho⊢
   rcases hf s with e|e
   ·rw[e]at ho ⊢;exact⟨ho,rfl⟩
   ·rw[e]at ho;exact ho.elim
 intro f f' hp hf h
 unfold Qdv at h⊢
 split at h
 ·rename_i r
  obtain⟨h1,h2⟩:=h
  obtain⟨g1,g2⟩:=one f f' hp r hf h1
  rw[g2]at h2
  exact⟨g1,h2⟩
 ·obtain⟨h1,h2⟩:=h
  have e:rs.map (rvP f' hp)=rs.map (rvP f hp):=List.map_congr_left fun r hr=>(one f f' hp r hf (h1 r hr)).2
  rw[e]at h2
  exact⟨fun r hr=>(one f f' hp r hf (h1 r hr)).1,h2⟩
theorem Qaci{rs:List RV}{ty:TypeId}{len:Nat}{Post:PV->List PV->Prop}:KM (Qkz rs ty len Post) (Qkz rs ty len Post):=by
 rintro f f' hp hf ⟨xs',h1,h2,h3,h4⟩
 refine⟨xs',h1,h2,h3,?_⟩
 rcases h4 with h4|⟨s,o,n,h4,h5,h6⟩
 ·exact .inl (Q34 _ _ _ hf h4)
 ·refine .inr ⟨s,o,n,h4,?_,h6⟩
  rcases hf s with e|e
  ·rw[<-e];exact h5
  ·rw[h5]at e;cases e
theorem Qacj{rs:List RV}{ty:TypeId}{Post:List PV->Prop}:KM (Qre rs ty Post) (Qre rs ty Post):=by
 rintro f f' hp hf ⟨s,β,n,xs,h1,h2,h3⟩
 refine⟨s,β,n,xs,h1,?_,h3⟩
 rcases hf s with e|e
 ·rw[<-e];exact h2
 ·rw[h2]at e;cases e
theorem Qn{rs:List RV}{Rr:PV->Prop}:Qd9 (Qdv rs Rr) []:=⟨Q34,.nil⟩
theorem Qi{rs:List RV}{ty:TypeId}{len:Nat}{Post:PV->List PV->Prop}:Qd9 (Qkz rs ty len Post) []:=⟨Qaci,.nil⟩
theorem Qj{rs:List RV}{ty:TypeId}{Post:List PV->Prop}:Qd9 (Qre rs ty Post) []:=⟨Qacj,.nil⟩
theorem Qce{sk:List It}{x:SC}(i β e ty:Nat)(he:0<e)(hi:fr i= .nilS)(h:vc C R (.c (.loop x)::sk) (upd (Qa7 β fr) i (.ms β 0)) (Qw hp β ⟨e,ty,[],false⟩))(hB:isB β=false:=by decide):vc C R (.c (.loop x)::sk) fr hp:=by
 rw[Qg7]at h⊢
 obtain⟨I,μ,⟨fr0,hp0,h1,h1'⟩,h2⟩:=h
 exact⟨I,μ,⟨fr0,hp0,(Q72 i β e ty he hi hB).trans h1,h1'⟩,h2⟩
end Go.FW
namespace Go.FW
open Go
variable {C : Ctx} {fr : Fr} {hp : HP} {w : World} {K R : Qp}
theorem Q2o{P:Program}{f:FuncId}{k:IntKind}{x:Int}{r:PV}{v:Value}(hg:Qlt P f)(h:∀w,Calls P f #[.int k x] w fun e w'=>e= .returned v/\w'=w)(hr:∀w X,Qc4 w X r v):Qd P f [.int k x] (· =r):=by
 refine⟨hg,fun w X vals hX hs hrep=> ?_⟩
 have h0:∀u,Qae w X (.int k x) u->u= .int k x:=fun u hu=>by cases hu;rfl
 have e:vals= #[.int k x]:=by
  have h1:vals.getD 0 undef= .int k x:=h0 _ (hrep 0 _ rfl)
  apply Array.ext
  ·simpa using hs
  ·intro i hi hi'
   have hi0:i=0:=by simp at hi';omega
   subst hi0
   simpa[Array.getD,hi]using h1
 rw[e]
 refine(h w).mono ?_
 rintro e w' ⟨rfl,rfl⟩
 exact⟨v,r,rfl,Ext.refl _ _,hr _ _,rfl⟩
end Go.FW
namespace Go.FW
open Go
variable {C : Ctx} {fr : Fr} {hp : HP} {w : World} {K R : Qp}
theorem Q8z(a b:Nat)(hab:a≠b)(h:HP)(v w:HB):Qw (Qw h a v) b w=Qw (Qw h b w) a v:=by
 funext c;unfold Qw;by_cases h1:c=a
 ·subst h1;simp[hab]
 ·simp[h1]
theorem Q5s{V W P v1 v2 v0 hi u2 w0:Nat}(hV:V=(v1*65536+v2)*P+v0)(hW:W=(hi*65536+u2)*P+w0)(hw0:w0<P)(hu2:u2<65536)(h1:0<v1):W<(hi/v1+1)*V:=by
 have e1:hi+1<=(hi/v1+1)*v1:=by
  have:=Nat.div_add_mod hi v1
  have:=Nat.mod_lt hi h1
  rw[Nat.add_mul,Nat.mul_comm];omega
 have e2:W<(hi+1)*65536*P:=by
  have:(hi*65536+u2+1)*P<=(hi+1)*65536*P:=Nat.mul_le_mul_right _ (by omega)
  rw[Nat.add_mul _ 1]at this;omega
 refine Nat.lt_of_lt_of_le e2 ?_
 calc (hi+1)*65536*P<=((hi/v1+1)*v1)*65536*P:=Nat.mul_le_mul_right _ (Nat.mul_le_mul_right _ e1)
  _=(hi/v1+1)*(v1*65536*P):=by rw[Nat.mul_assoc,Nat.mul_assoc,Nat.mul_assoc]
  _<=(hi/v1+1)*V:=Nat.mul_le_mul_left _ (by rw[hV,Nat.add_mul];omega)
theorem Qack{V W P v1 v2 v0 hi u2 w0 d r:Nat}(hV:V=(v1*65536+v2)*P+v0)(hW:W=(hi*65536+u2)*P+w0)(hw0:w0<P)(hd:d*v1+r=hi)(ht:r*65536+u2<d*v2):W<d*V:=by
 have h1:hi*65536+u2+1<=d*(v1*65536+v2):=by
  rw[Nat.mul_add,<-Nat.mul_assoc,<-hd,Nat.add_mul];omega
 have h2:W<(hi*65536+u2+1)*P:=by rw[hW,Nat.add_mul _ 1];omega
 refine Nat.lt_of_lt_of_le h2 (Nat.le_trans (Nat.mul_le_mul_right _ h1) ?_)
 rw[Nat.mul_assoc]
 exact Nat.mul_le_mul_left _ (by rw[hV];exact Nat.le_add_right _ _)
theorem Qacl{V W P v1 v2 v0 hi u2 w0 e r:Nat}(hV:V=(v1*65536+v2)*P+v0)(hW:W=(hi*65536+u2)*P+w0)(hv0:v0<P)(hv1:1<=v1)(he:e+1<65536)(hd:(e+1)*v1+r=hi)(ht:¬r*65536+u2<(e+1)*v2):e*V<=W:=by
 have h1:(e+1)*(v1*65536+v2)<=hi*65536+u2:=by
  rw[Nat.mul_add,<-Nat.mul_assoc,<-hd,Nat.add_mul ((e+1)*v1)];omega
 have h2:e*v0<=(v1*65536+v2)*P:=Nat.mul_le_mul (by omega) (by omega)
 calc e*V=e*(v1*65536+v2)*P+e*v0:=by rw[hV,Nat.mul_add,Nat.mul_assoc]
  _<=e*(v1*65536+v2)*P+(v1*65536+v2)*P:=Nat.add_le_add_left h2 _
  _=(e+1)*(v1*65536+v2)*P:=by rw[Nat.add_mul e,Nat.one_mul,Nat.add_mul (e*_)]
  _<=(hi*65536+u2)*P:=Nat.mul_le_mul_right _ h1
  _<=W:=by rw[hW];exact Nat.le_add_right _ _
theorem Qacm{V W P v1 v2 v0 hi u2 w0:Nat}(hV:V=(v1*65536+v2)*P+v0)(hW:W=(hi*65536+u2)*P+w0)(hv0:v0<P)(h:W<65536*V)(hP:0<P):hi<=v1*65536+v2:=by
 have h1:hi*(65536*P)<(v1*65536+v2+1)*(65536*P):=by
  have e1:hi*(65536*P)<=W:=by rw[hW,Nat.add_mul,Nat.mul_assoc];omega
  have e2:V<=(v1*65536+v2+1)*P:=by rw[hV,Nat.add_mul _ 1];omega
  have e3:65536*V<=65536*((v1*65536+v2+1)*P):=Nat.mul_le_mul_left _ e2
  rw[Nat.mul_left_comm]at e3
  omega
 have:=Nat.lt_of_mul_lt_mul_right h1
 omega
theorem Qnp:∀(a:List Nat)(q b:Nat),(Qdm a [] q 0 b).2.1=0
 | [],_,_=>rfl
 |x::xs,q,b=>by simp only[Qdm,List.headD_nil,Nat.mul_zero,List.tail_nil];exact Qnp xs q _
theorem Quf:∀(a v:List Nat)(q c b:Nat),v.length<a.length->c<65536->q<65536->Qu v->(Qdm a v q c b).2.1=0
 | [],_,_,_,_,h,_,_,_=>by simp at h
 |x::xs,[],q,c,b,h,hc,hq,hv=>by
  simp only[Qdm,List.headD_nil,Nat.mul_zero,List.tail_nil,Nat.add_zero]
  rw[Nat.div_eq_of_lt hc];exact Qnp xs q _
 |x::xs,y::ys,q,c,b,h,hc,hq,hv=>by
  rw[Qbe]at hv
  simp only[Qdm,List.headD_cons,List.tail_cons]
  refine Quf xs ys q _ _ (by simpa using h) ?_ hq hv.2
  have:=Qfy hq hv.1
  omega
theorem Qjs{l:List Nat}{k:Nat}(h:val l<65536^k):val (l.drop k)=0:=by
 rcases Nat.lt_or_ge k l.length with hk|hk
 ·have:=Qd7 l k (by omega)
  have:65536^k*val (l.drop k)<65536^k*1:=by omega
  have:=Nat.lt_of_mul_lt_mul_left this
  omega
 ·rw[List.drop_of_length_le hk];rfl
theorem Q35{l:List Nat}{n:Nat}(h:l.length=n+2):val l=(l.getD (n+1) 0*65536+l.getD n 0)*65536^n+val (l.take n):=by
 have e:=Qd7 l n (by omega)
 rw[Qc9 (by omega),Qc9 (by omega),List.drop_of_length_le (by omega)]at e
 rw[e,Qbz (by omega),Qbz (by omega),val,Nat.mul_zero,Nat.add_zero,Nat.mul_comm (65536^n)]
 rw[Nat.mul_comm 65536,Nat.add_comm (l[n]),Nat.add_comm]
theorem Qaof:
  (∀(β:Nat)(cs:List PV),Qa1 β (.pt cs)= .pt cs)/\(∀(β:Nat),Qa1 β .undef= .undef)/\(∀(β:Nat)(cs:List PV),Qa1 β (.tup cs)= .tup cs)/\
  (∀(cs:List PV),(PV.pt cs).refs=[])/\(PV.undef.refs=[])/\(∀(cs:List PV),(PV.tup cs).refs=[])/\
  (∀(hp:HP)(cs:List PV),Qam hp (.pt cs)= .pt cs)/\(∀(hp:HP)(cs:List PV),Qam hp (.tup cs)= .tup cs)/\
  (∀(β f:Nat)(a b:List PV),Qa1 β (.fn f a b)=if(a.flatMap PV.ref1++b.flatMap PV.ref1).contains β then .undef else .fn f a b)/\
  (∀(β o n:Nat),(PV.mso β o n).ref1=[β])/\(∀(β o n:Nat),(PV.rb β o n).ref1=[β])/\(∀(β o n:Nat),(PV.mp β o n).ref1=[β])/\
  (∀(k:IntKind)(n:Int),(PV.int k n).ref1=[])/\(∀(b:Bool),(PV.bool b).ref1=[])/\(∀(e:Nat)(xs:List PV),(PV.sl e xs).ref1=[])/\(PV.nilS.ref1=[])/\(∀(xs:List PV),(PV.pt xs).ref1=[]):=by
 refine⟨fun _ _=>rfl,fun _=>rfl,fun _ _=>rfl,fun _=>rfl,rfl,fun _=>rfl,fun _ _=>rfl,fun _ _=>rfl,fun _ _ _ _=>rfl,fun _ _ _=>rfl,fun _ _ _=>rfl,fun _ _ _=>rfl,fun _ _=>rfl,fun _=>rfl,fun _ _=>rfl,rfl,fun _=>rfl⟩
theorem ops3:
  (∀(ty d e:Nat)(xs:List PV)(fr:Fr)(hp:HP)(K:Qp),Qey 1 ty (.sl e xs) d fr hp K=K (upd (Qa7 d fr) d (.mp d 0 0)) (Qw hp d ⟨1,ty,[.sl e xs],false⟩))/\
  (∀(ty d:Nat)(k:IntKind)(x:Int)(fr:Fr)(hp:HP)(K:Qp),Qey 1 ty (.int k x) d fr hp K=K (upd (Qa7 d fr) d (.mp d 0 0)) (Qw hp d ⟨1,ty,[.int k x],false⟩))/\
  (∀(ty d:Nat)(x:Bool)(fr:Fr)(hp:HP)(K:Qp),Qey 1 ty (.bool x) d fr hp K=K (upd (Qa7 d fr) d (.mp d 0 0)) (Qw hp d ⟨1,ty,[.bool x],false⟩))/\
  (∀(ty d:Nat)(fr:Fr)(hp:HP)(K:Qp),Qey 1 ty .nilS d fr hp K=K (upd (Qa7 d fr) d (.mp d 0 0)) (Qw hp d ⟨1,ty,[.nilS],false⟩))/\
  (∀(n ty d o m:Nat)(fr:Fr)(hp:HP)(K:Qp),Qey n ty (.mso 1000000 o m) d fr hp K=K (upd fr d (.rb 1000000 o m)) hp)/\
  (∀(n ty d:Nat)(x:PV)(cs:List PV)(fr:Fr)(hp:HP)(K:Qp),Qey n ty (.agg (x::cs)) d fr hp K=(cs.length+1=n/\K (upd (Qa7 d fr) d (.mp d 0 0)) (Qw hp d ⟨n,ty,[.agg (x::cs)],false⟩)))/\
  (∀(ty d:Nat)(x:PV)(fz:Bool)(fr:Fr)(hp:HP)(K:Qp),ldM (some ⟨1,ty,[x],fz⟩) 1 false 0 0 d fr hp K=K (upd fr d (ldV false 1 0 x)) hp)/\
  (∀(ty β e:Nat)(x:PV)(xs:List PV)(fr:Fr)(hp:HP)(K:Qp),stM (some ⟨1,ty,[x],false⟩) β 1 0 0 (.sl e xs) fr hp K=K fr (Qw hp β ⟨1,ty,[.sl e xs],false⟩))/\
  (∀(ty β:Nat)(x:PV)(k:IntKind)(y:Int)(fr:Fr)(hp:HP)(K:Qp),stM (some ⟨1,ty,[x],false⟩) β 1 0 0 (.int k y) fr hp K=K fr (Qw hp β ⟨1,ty,[.int k y],false⟩))/\
  (∀(ty β:Nat)(x:PV)(y:Bool)(fr:Fr)(hp:HP)(K:Qp),stM (some ⟨1,ty,[x],false⟩) β 1 0 0 (.bool y) fr hp K=K fr (Qw hp β ⟨1,ty,[.bool y],false⟩))/\
  (∀(ty β:Nat)(x:PV)(fr:Fr)(hp:HP)(K:Qp),stM (some ⟨1,ty,[x],false⟩) β 1 0 0 .nilS fr hp K=K fr (Qw hp β ⟨1,ty,[.nilS],false⟩))/\
  (∀(e:Nat)(xs:List PV),ldV false 1 0 (.sl e xs)= .sl e xs)/\(∀(k:IntKind)(x:Int),ldV false 1 0 (.int k x)= .int k x)/\(∀(x:Bool),ldV false 1 0 (.bool x)= .bool x)/\(ldV false 1 0 .nilS= .nilS):=by
 have fz:∀hp:HP,Qaq hp []=hp:=fun _=>rfl
 refine⟨fun _ _ _ _ _ _ _=> ?_,fun _ _ _ _ _ _ _=> ?_,fun _ _ _ _ _ _=> ?_,fun _ _ _ _ _=> ?_,fun _ _ _ _ _ _ _ _=>Qanw (by decide),fun n ty d x cs fr hp K=> ?_,fun _ _ _ _ _ _ _=> ?_,fun _ _ _ _ _ _ _ _=> ?_,fun _ _ _ _ _ _ _ _=> ?_,fun _ _ _ _ _ _ _=> ?_,fun _ _ _ _ _ _=> ?_,fun _ _=>rfl,fun _ _=>rfl,fun _=>rfl,rfl⟩
 ·simp[Qey,Qam,Qbh,PV.isData,PV.cells,PV.refs,fz]
 ·simp[Qey,Qam,Qbh,PV.isData,PV.cells,PV.refs,fz]
 ·simp[Qey,Qam,Qbh,PV.isData,PV.cells,PV.refs,fz]
 ·simp[Qey,Qam,Qbh,PV.isData,PV.cells,PV.refs,fz]
 ·apply propext
  simp only[Qey,Qam,Qbh,PV.isData,PV.cells,PV.refs,List.length_cons,fz]
  exact⟨fun⟨_,h1,_,h2⟩=>⟨h1,h2⟩,fun⟨h1,h2⟩=>⟨trivial,h1,by omega,h2⟩⟩
 all_goals simp[ldM,stM,PV.isData,PV.cells]
end Go.FW
namespace Go.FW
theorem Qaog{l:List Nat}{j n V:Nat}(hl:Qu l)(hlen:j+n+3<=l.length)(hV:V<=65536^(n+2))(hz:val (l.drop (j+1))<V):
  ∃pre w post,l=pre++(w++post)/\pre.length=j/\w.length=n+3/\Qu pre/\Qu w/\Qu post/\val post=0/\val (l.drop j)=val w/\val w<65536*V/\
   ∃w0,w0<65536^n/\val w=((l.getD (j+(n+2)) 0*65536+l.getD (j+(n+1)) 0)*65536+l.getD (j+n) 0)*65536^n+w0:=by
 have hpost:val (l.drop (j+n+3))=0:=by
  have:=Qjs (l:=l.drop (j+1)) (k:=n+2) (by omega)
  rw[List.drop_drop]at this
  rw[<-this];congr 2;omega
 have hw:Qu ((l.drop j).take (n+3)):=Qg9 (Qio hl j) _
 have hwl:((l.drop j).take (n+3)).length=n+3:=by simp;omega
 have hsp:l.drop j=(l.drop j).take (n+3)++l.drop (j+n+3):=by
  have:=(List.take_append_drop (n+3) (l.drop j)).symm
  rw[List.drop_drop]at this
  exact this
 have Qcu:val (l.drop j)=val ((l.drop j).take (n+3)):=by
  conv=>lhs;rw[hsp]
  rw[Qcq,hpost,Nat.mul_zero,Nat.add_zero]
 have hget:∀i,i<n+3->((l.drop j).take (n+3)).getD i 0=l.getD (j+i) 0:=by
  intro i hi
  simp[List.getD_eq_getElem?_getD,List.getElem?_take,hi]
 refine⟨l.take j,(l.drop j).take (n+3),l.drop (j+n+3),?_,by simp;omega,hwl,Qg9 hl j,hw,Qio hl _,hpost,Qcu,?_,?_⟩
 ·rw[<-hsp,List.take_append_drop]
 ·rw[<-Qcu,Qc9 (by omega)]
  have:=Qax hl (show j<l.length by omega)
  omega
 ·refine⟨val (((l.drop j).take (n+3)).take n),Qes hw n (by omega),?_⟩
  rw[Q35 (n:=n+1) hwl,hget _ (by omega),hget _ (by omega),Qf9 (by omega)]
  rw[<-Qbz,hget _ (by omega),Nat.pow_succ]
  generalize l.getD (j+(n+1)) 0=a
  generalize l.getD (j+n) 0=b
  generalize l.getD (j+(n+1+1)) 0=c
  rw[Nat.add_mul _ b,Nat.mul_assoc _ 65536,Nat.mul_comm 65536 (65536^n),Nat.mul_comm (65536^n) b]
  omega
theorem Q80{U V L qs W R q pre B:Nat}(hU:U=L+V*(65536*B*qs))(hL:L=pre+B*W)(hW:W=q*V+R):U=(pre+B*R)+V*(B*(q+65536*qs)):=by
 subst hW hL
 rw[hU,Nat.mul_add B,Nat.mul_add B q,Nat.mul_add V]
 have e1:B*(q*V)=V*(B*q):=by rw[Nat.mul_comm q V,Nat.mul_left_comm]
 have e2:V*(65536*B*qs)=V*(B*(65536*qs)):=by rw[Nat.mul_comm 65536 B,Nat.mul_assoc]
 omega
open Go
variable {C : Ctx} {fr : Fr} {hp : HP} {w : World} {K R : Qp}
theorem Qda{x y:RT}{sk:List It}(h1:vc C R (.o x::sk) fr hp)(h2:vc C R (.o y::sk) fr hp):brV C R x y sk fr hp:=⟨h1,h2⟩
theorem Qaig{x y:RT}{sk:List It}{W:List (Nat×Nat)}{J F:Fr}(P:Fr->Prop)(h0:P J)(h:∀J,P J->brV C R x y sk (ovr W J F) hp):brV C R x y sk (ovr W J F) hp:=h J h0
theorem Qzz{sk:List It}{x:SC}(hok:Qd9 R sk)(W:List (Nat×Nat))(B:List Nat)(I:Nat->Fr->HP->Prop)(m0:Nat)(h0:I m0 fr hp)
  (h:∀F,F=Qao B fr->∀m J hp,I m J hp->vc C R (.c x:: .el (Qrg W F I m)::sk) (ovr W J F) hp):vc C R (.c (.loop x)::sk) fr hp:=
 Qz hok W B I m0 h0 (h _ rfl)
theorem Qacn{x y:RT}{sk:List It}{W0:List (Nat×Nat)}{J0 F0:Fr}(hok:Qd9 R sk)(B:List Nat)(M:Fr->HP->Prop)
  (h:∀F,F=Qao B F0->brV C R x y (.el (Qly W0 F M)::sk) (ovr W0 J0 F) hp) (hM:∀J hp,M J hp->vc C R sk (ovr W0 J (Qao B F0)) hp):brV C R x y sk (ovr W0 J0 F0) hp:=by
 have hle:Fle (ovr W0 J0 F0) (ovr W0 J0 (Qao B F0)):=fun s=>by
  unfold ovr Qao
  split
  ·exact .inl rfl
  ·split
   ·exact .inr rfl
   ·exact .inl rfl
 have key:∀(r:RT),vc C R (.o r:: .el (Qly W0 (Qao B F0) M)::sk) (ovr W0 J0 (Qao B F0)) hp->vc C R (.o r::sk) (ovr W0 J0 F0) hp:=by
  intro r hr
  refine Qrc (M:=Qly W0 (Qao B F0) M) ?_ _ [.o r] _ _ (Nat.le_refl _) ?_
  ·rintro fr' hp' ⟨J,h1,h2⟩
   exact Qhn hok.1 _ _ _ _ _ _ (Nat.le_refl _) hok.2 h1 (hM J hp' h2)
  ·exact Qhn hok.1 _ _ _ _ _ _ (Nat.le_refl _) (.o r (.el Qno hok.2)) hle hr
 exact⟨key x (h _ rfl).1,key y (h _ rfl).2⟩
theorem Q5t{fr':Fr}{K':Qp}{p:PV}{s:Nat}{want:Bool}{o:SOp}(h:Fle fr fr')(hK:KM K' K):Qc2 C p s want o fr' hp K'->Qc2 C p s want o fr hp K:=by
 unfold Qc2
 split
 ·exact fun H=>⟨fun t=>Qv8 (h.upd' _ _) hK o (H.1 t),fun t=>Qmk (h.upd' _ _) hK o (H.2 t)⟩
 ·exact Qmk h hK o
 ·exact id
theorem Q2p{p:PV}{s:Nat}{want:Bool}{o:SOp}{r:RT}{sk:List It}(hok:Qd9 R sk)(W:List (Nat×Nat))(B:List Nat)(M:Fr->HP->Prop)
  (h:Qc2 C p s want o (ovr W fr (Qao B fr)) hp (vc C R (.o r:: .el (Qly W (Qao B fr) M)::sk))) (hM:∀J hp,M J hp->vc C R sk (ovr W J (Qao B fr)) hp):Qc2 C p s want o fr hp (vc C R (.o r::sk)):=by
 refine Q5t (Qs6 W B) (fun f f' hp hf H=> ?_) h
 have H':=Qhn hok.1 _ _ _ _ _ _ (Nat.le_refl _) (.o r (.el Qno hok.2)) hf H
 refine Qrc (M:=Qly W (Qao B fr) M) ?_ _ [.o r] _ _ (Nat.le_refl _) H'
 rintro fr' hp' ⟨J,h1,h2⟩
 exact Qhn hok.1 _ _ _ _ _ _ (Nat.le_refl _) hok.2 h1 (hM J hp' h2)
theorem caps:(∀(a b c:Nat),(PV.mp a b c).isCap=true)/\(∀(a b c:Nat),(PV.mso a b c).isCap=true)/\(∀(a b c:Nat),(PV.rb a b c).isCap=true)/\(∀(k:IntKind)(n:Int),(PV.int k n).isCap=true)/\
  (∀b,(PV.bool b).isCap=true)/\(PV.nilS.isCap=true)/\(∀(e:Nat)(xs:List PV),(PV.sl e xs).isCap=true)/\(∀(xs:List PV),(PV.pt xs).isCap=true):=
 ⟨fun _ _ _=>rfl,fun _ _ _=>rfl,fun _ _ _=>rfl,fun _ _=>rfl,fun _=>rfl,rfl,fun _ _=>rfl,fun _=>rfl⟩
end Go.FW
namespace Go.FW
def Qs7(V W:List (Nat×Nat)):Bool:=V.all fun p=>W.any fun q=>decide (q.1<=p.1)&&decide (p.2<=q.2)
theorem Q81{V W:List (Nat×Nat)}(h:Qs7 V W=true){s:Nat}(hs:inW V s=true):inW W s=true:=by
 induction V with
 |nil=>cases hs
 | cons p V ih=>
  simp only[Qs7,List.all_cons,Bool.and_eq_true]at h
  rw[Qog,Bool.or_eq_true]at hs
  rcases hs with hs|hs
  ·obtain⟨q,hq,hq2⟩:=List.any_eq_true.1 h.1
   simp only[Bool.and_eq_true,decide_eq_true_eq]at hq2 hs
   clear h ih
   induction W with
   |nil=>cases hq
   |cons r W ih=>
    rw[Qog,Bool.or_eq_true]
    rcases List.mem_cons.1 hq with rfl|hq
    ·left;simp only[Bool.and_eq_true,decide_eq_true_eq];omega
    ·right;exact ih hq
  ·exact ih h.2 hs
theorem Qyc{B B':List Nat}{F:Fr}(h:B.all B'.contains=true):Qao B (Qao B' F)=Qao B' F:=by
 funext s
 by_cases h1:(F s).refs.any B'.contains=true
 ·have:Qao B' F s= .undef:=if_pos h1
  show(if(Qao B' F s).refs.any B.contains=true then PV.undef else Qao B' F s)=_
  rw[this];rfl
 ·have:Qao B' F s=F s:=if_neg h1
  show(if(Qao B' F s).refs.any B.contains=true then PV.undef else Qao B' F s)=_
  rw[this,if_neg]
  intro h2
  obtain⟨x,hx,hx2⟩:=List.any_eq_true.1 h2
  exact h1 (List.any_eq_true.2 ⟨x,hx,List.all_eq_true.1 h x (by simpa using hx2)⟩)
theorem Qbg{V W:List (Nat×Nat)}{X Z F:Fr}(h:Qs7 V W=true):ovr V X (ovr W Z F)=ovr W (ovr V X Z) F:=by
 funext s
 unfold ovr
 by_cases h1:inW V s=true
 ·simp[h1,Q81 h h1]
 ·simp[h1]
theorem Qaoi{W V S d:Nat}(hs:S+d*V=W)(hdW:W<(d+1)*V):S<V/\W=d*V+S:=by
 rw[Nat.add_mul]at hdW;omega
theorem Qaih{W V B S e k res:Nat}(hs:S+(e+1)*V=W+B)(hS:S<B)(heV:e*V<=W)(hr:res+B*k=S+V)(hres:res<B)(hWB:W<B):res<V/\W=e*V+res:=by
 rw[Nat.add_mul,Nat.one_mul]at hs
 generalize e*V=x at *
 have hk:k=1:=by
  match k,hr with
  |0,hr=>omega
  |1,_=>rfl
  |k+2,hr=>
   have:B*(k+2)=B*k+B+B:=by rw[Nat.mul_add];omega
   omega
 subst hk
 omega
theorem Qw5{pre R post qs:List Nat}{j q U V L W:Nat}(hp:pre.length=j)(hpost:val post=0)(hU:U=L+V*(65536^(j+1)*val qs))(hL:L=val pre+65536^j*W)(hW:W=q*V+val R):
  val ((pre++(R++post)).drop j)=val R/\U=val (pre++(R++post))+V*(65536^j*val (q::qs)):=by
 have e:(pre++(R++post)).drop j=R++post:=by rw[<-hp,List.drop_left]
 have e2:val (R++post)=val R:=by rw[Qcq,hpost,Nat.mul_zero,Nat.add_zero]
 refine⟨by rw[e,e2],?_⟩
 rw[Qcq,e2,hp,val]
 exact Q80 (by rw[hU,Nat.pow_succ,Nat.mul_comm (65536^j)]) hL hW
theorem Qrh{j q:Nat}{qs:List Nat}:(List.replicate (j+1) 0++qs).set j q=List.replicate j 0++(q::qs):=by
 rw[List.replicate_succ',List.append_assoc,List.singleton_append,Qco (by simp)]
open Go
variable {C : Ctx} {fr : Fr} {hp : HP} {w : World} {K R : Qp}
theorem opsE:(∀(C:Ctx)(d:Nat)(ng:Bool)(x y:Opd)(fr:Fr)(hp:HP)(K:Qp),opV C (.eqs d ng x y) fr hp K=Qmw ng (ev fr x) (ev fr y) d fr hp K)/\
  (∀(k l:IntKind)(x y x' y':Int)(d:Nat)(fr:Fr)(hp:HP)(K:Qp),Qmw false (.agg [.int k x,.int l y]) (.agg [.int k x',.int l y']) d fr hp K=K (upd fr d (.bool (decide (x=x')&&decide (y=y')))) hp)/\
  (∀(k l:IntKind)(x y x' y':Int)(d:Nat)(fr:Fr)(hp:HP)(K:Qp),Qmw true (.agg [.int k x,.int l y]) (.agg [.int k x',.int l y']) d fr hp K=K (upd fr d (.bool (!(decide (x=x')&&decide (y=y'))))) hp):=
 ⟨fun _ _ _ _ _ _ _ _=>rfl,fun _ _ _ _ _ _ _ _ _ _=>by simp[Qmw],fun _ _ _ _ _ _ _ _ _ _=>by simp[Qmw]⟩
theorem Qaco{α:Type}{f:α->PV}{e d:Nat}{k:IntKind}{xs:List α}(h:0<xs.length):Qe4 e (.sl e (xs.map f)) (.int k 0) d fr hp K=K (upd fr d (.pt (f (xs[0]'h)).cells)) hp:=by
 rw[Qk7 (by omega) (by omega)];rfl
theorem Qacp{α:Type}{f:α->PV}{e d:Nat}{k:IntKind}{xs:List α}(h:1<xs.length):Qe4 e (.sl e (xs.map f)) (.int k 1) d fr hp K=K (upd fr d (.pt (f (xs[1]'h)).cells)) hp:=by
 rw[Qk7 (by omega) (by omega)];rfl
theorem Qacq{e d:Nat}{k:IntKind}{x:PV}{xs:List PV}:Qe4 e (.sl e (x::xs)) (.int k 0) d fr hp K=K (upd fr d (.pt x.cells)) hp:=by
 rw[Qzj (by omega) (by simp only[List.length_cons];omega)];rfl
theorem Qacr{e d:Nat}{k:IntKind}{x y:PV}{xs:List PV}:Qe4 e (.sl e (x::y::xs)) (.int k 1) d fr hp K=K (upd fr d (.pt y.cells)) hp:=by
 rw[Qzj (by omega) (by simp only[List.length_cons];omega)];rfl
def PV.flat:PV->Bool
 | .int .. | .bool _| .nilS| .sl .. | .agg _| .pt _=>true
 |_=>false
theorem Qarq:(∀(k:IntKind)(n:Int),(PV.int k n).flat=true)/\(∀b,(PV.bool b).flat=true)/\(PV.nilS.flat=true)/\(∀(e:Nat)(xs:List PV),(PV.sl e xs).flat=true)/\(∀xs,(PV.agg xs).flat=true)/\(∀xs,(PV.pt xs).flat=true):=
 ⟨fun _ _=>rfl,fun _=>rfl,rfl,fun _ _=>rfl,fun _=>rfl,fun _=>rfl⟩
theorem Qarr:(∀(k:IntKind)(n:Int),(PV.int k n).isData=true)/\(∀b,(PV.bool b).isData=true)/\(PV.nilS.isData=true)/\(∀(e:Nat)(xs:List PV),(PV.sl e xs).isData=true)/\(∀xs,(PV.agg xs).isData=true)/\(∀xs,(PV.pt xs).isData=true):=
 ⟨fun _ _=>rfl,fun _=>rfl,rfl,fun _ _=>rfl,fun _=>rfl,fun _=>rfl⟩
theorem Qfz{p:PV}(h:p.flat=true):Qam hp p=p/\p.refs=[]/\p.isData=true:=by
 cases p<;>first|(cases h;done)|exact⟨rfl,rfl,rfl⟩
theorem Qv9{e ty d:Nat}{ps:List PV}(h:ps.all PV.flat=true)(hl:∀p∈ps,p.cells.length=e)(he:0<e):bsK e ty ps d fr hp K=K (upd (Qa7 d fr) d (.ms d ps.length)) (Qw hp d ⟨e,ty,ps,false⟩):=by
 have h':=List.all_eq_true.1 h
 have e1:ps.map (Qam hp)=ps:=by
  conv=>rhs;rw[<-List.map_id ps]
  exact List.map_congr_left fun p hp'=>(Qfz (h' p hp')).1
 have e2:ps.flatMap PV.refs=[]:=by
  rw[List.flatMap_eq_nil_iff];exact fun p hp'=>(Qfz (hp:=hp) (h' p hp')).2.1
 have e3:Qq6 hp e ps:=fun p hp'=>by
  obtain⟨h1,_,h3⟩:=Qfz (hp:=hp) (h' p hp')
  rw[h1];exact⟨h3,hl p hp'⟩
 simp only[bsK,e1,e2,e3,he,true_and]
 rfl
theorem bs1{e ty d:Nat}{p:PV}(h:p.flat=true)(hl:p.cells.length=e)(he:0<e):bsK e ty [p] d fr hp K=K (upd (Qa7 d fr) d (.ms d 1)) (Qw hp d ⟨e,ty,[p],false⟩):=
 Qv9 (by simp[h]) (by simpa using hl) he
theorem bs2{e ty d:Nat}{p q:PV}(h:p.flat=true)(h2:q.flat=true)(hl:p.cells.length=e)(hl2:q.cells.length=e)(he:0<e):bsK e ty [p,q] d fr hp K=K (upd (Qa7 d fr) d (.ms d 2)) (Qw hp d ⟨e,ty,[p,q],false⟩):=
 Qv9 (by simp[h,h2]) (by simp[hl,hl2]) he
end Go.FW
namespace Go.FW
theorem Q2q{y n s yi:Nat}(hy:(dig y).length=n+2)(hyi:(dig y)[n+1]'(by omega)=yi)(h1:2^15<=yi*2^s)(h2:(yi+1)*2^s<=65536):
  (dig (y*2^s)).length=n+2/\32768<=(dig (y*2^s)).getD (n+1) 0/\32768*65536^(n+1)<=y*2^s:=by
 have hl:=Qv y
 have e:=Qd7 (dig y) (n+1) (by omega)
 have ht:=Qes hl (n+1) (by omega)
 rw[Qc9 (by omega),List.drop_of_length_le (by omega),hyi,Qag]at e
 simp only[val,Nat.mul_zero,Nat.add_zero]at e
 have g1:32768*65536^(n+1)<=y*2^s:=by
  calc 32768*65536^(n+1)<=(yi*2^s)*65536^(n+1):=Nat.mul_le_mul_right _ h1
   _=(65536^(n+1)*yi)*2^s:=by rw[Nat.mul_comm (65536^(n+1)),Nat.mul_right_comm]
   _<=y*2^s:=Nat.mul_le_mul_right _ (by omega)
 have g2:y*2^s<65536^(n+2):=by
  have hp:0<2^s:=Nat.pow_pos (by omega)
  calc y*2^s<(65536^(n+1)*(yi+1))*2^s:=Nat.mul_lt_mul_of_pos_right (by rw[Nat.mul_add];omega) hp
   _=65536^(n+1)*((yi+1)*2^s):=Nat.mul_assoc _ _ _
   _<=65536^(n+1)*65536:=Nat.mul_le_mul_left _ h2
   _=65536^(n+2):=(Nat.pow_succ ..).symm
 have hle:nl (y*2^s)<=n+2:=Qgo.2 g2
 have hge:¬nl (y*2^s)<=n+1:=fun h=>by
  have:=Qgo.1 h
  omega
 have hlen:(dig (y*2^s)).length=n+2:=by unfold nl at hle hge;omega
 refine⟨hlen,?_,g1⟩
 have e2:=Qd7 (dig (y*2^s)) (n+1) (by omega)
 have ht2:=Qes (Qv (y*2^s)) (n+1) (by omega)
 rw[Qc9 (by omega),List.drop_of_length_le (by omega),Qag]at e2
 simp only[val,Nat.mul_zero,Nat.add_zero]at e2
 have hg:(dig (y*2^s)).getD (n+1) 0=(dig (y*2^s))[n+1]'(by omega):=Qbz (by omega)
 rw[hg]
 apply Decidable.byContradiction
 intro h
 have:65536^(n+1)*(dig (y*2^s))[n+1]<=65536^(n+1)*32767:=Nat.mul_le_mul_left _ (by omega)
 omega
theorem Q82{yi s:Nat}(hs:s<=15)(h1:2^(16-s)<=2*yi)(h2:yi<2^(16-s)):2^15<=yi*2^s/\(yi+1)*2^s<=65536:=by
 have e:2^(16-s)*2^s=65536:=by rw[<-Nat.pow_add,show 16-s+s=16 by omega]
 constructor
 ·have:=Nat.mul_le_mul_right (2^s) h1
  rw[e,Nat.mul_assoc]at this;omega
 ·rw[<-e];exact Nat.mul_le_mul_right _ h2
theorem Q2r{x s m n Y:Nat}(hx:(dig x).length=m+2)(hs:s<=15)(hnm:n<=m)(hY:32768*65536^(n+1)<=Y):
  ∃u ex,dig (x*2^s)++[0,0]=u++ex/\u.length=m+3/\Qu u/\val u=x*2^s/\ex.length<=2/\val (u.drop (m+3-(n+2)))<Y:=by
 have hxlt:=Qf8 (Qv x)
 rw[hx,Qag]at hxlt
 have hp:0<2^s:=Nat.pow_pos (by omega)
 have hs15:2^s<=2^15:=Nat.pow_le_pow_right (by omega) hs
 have hX:x*2^s<2^s*65536^(m+2):=by rw[Nat.mul_comm (2^s)];exact Nat.mul_lt_mul_of_pos_right hxlt hp
 have hX2:x*2^s<65536^(m+3):=by
  have:2^s*65536^(m+2)<=65536*65536^(m+2):=Nat.mul_le_mul_right _ (by omega)
  rw[Nat.pow_succ 65536 (m+2),Nat.mul_comm _ 65536];omega
 have hx1:¬nl (x*2^s)<=m+1:=fun h=>by
  have h2:¬nl x<=m+1:=by unfold nl;omega
  have h3:=Qb8 (show x<=x*2^s from Nat.le_mul_of_pos_right _ hp)
  omega
 have hx2:nl (x*2^s)<=m+3:=Qgo.2 hX2
 have hlim:Qu (dig (x*2^s)++[0,0]):=Qcd.2 ⟨Qv _,by intro z hz;simp at hz;omega⟩
 have Qcu:val (dig (x*2^s)++[0,0])=x*2^s:=by rw[Qcq,Qag];simp[val]
 have hlen:(dig (x*2^s)++[0,0]).length=nl (x*2^s)+2:=by simp[nl]
 generalize dig (x*2^s)++[0,0]=D at *
 have hv:=Qd7 D (m+3) (by omega)
 have hz:val (D.drop (m+3))=0:=Qjs (by omega)
 have hul:(D.take (m+3)).length=m+3:=by rw[List.length_take];omega
 refine⟨D.take (m+3),D.drop (m+3),(List.take_append_drop _ _).symm,hul,Qg9 hlim _,by rw[hz]at hv;omega,by rw[List.length_drop];omega,?_⟩
 have hu:val (D.take (m+3))=x*2^s:=by rw[hz]at hv;omega
 have hv2:=Qd7 (D.take (m+3)) (m+3-(n+2)) (by omega)
 generalize D.take (m+3)=u at *
 have e:65536^(m+2)=65536^(m+3-(n+2))*65536^(n+1):=by rw[<-Nat.pow_add];congr 1;omega
 have:65536^(m+3-(n+2))*val (u.drop (m+3-(n+2)))<65536^(m+3-(n+2))*(2^s*65536^(n+1)):=by
  rw[Nat.mul_left_comm,<-e];omega
 have h4:=Nat.lt_of_mul_lt_mul_left this
 have:2^s*65536^(n+1)<=32768*65536^(n+1):=Nat.mul_le_mul_right _ hs15
 omega
open Go
variable {C : Ctx} {fr : Fr} {hp : HP} {w : World} {K R : Qp}
theorem Qacs{e ty n:Nat}{fz:Bool}{o d:Nat}{x:PV}(h:o+n<=e):ldM (some ⟨e,ty,[x],fz⟩) n true 0 o d fr hp K=K (upd fr d (ldV true n o x)) hp:=Q3z h (by simp)
theorem Qact{e ty:Nat}{fz:Bool}{o d:Nat}{x:PV}(h:o+1<=e):ldM (some ⟨e,ty,[x],fz⟩) 1 false 0 o d fr hp K=K (upd fr d (ldV false 1 o x)) hp:=Q3z h (by simp)
theorem Qars(n o:Nat)(cs:List PV):ldV true n o (.agg cs)= .agg ((cs.drop o).take n):=rfl
theorem Qart(n o:Nat)(cs:List PV):ldV false n o (.agg cs)=(cs.drop o).headD .undef:=rfl
theorem Q5u(n ty β:Nat)(x:PV)(cs:List PV):stM (some ⟨n,ty,[x],false⟩) β n 0 0 (.agg cs) fr hp K=(cs.length=n/\K fr (Qw hp β ⟨n,ty,[.agg cs],false⟩)):=by
 simp[stM,PV.isData,PV.cells]
theorem Qacu{e n ty β o:Nat}{x v:PV}(h:v.flat=true)(hn:¬n=e)(hl:v.cells.length=n)(ho:o+n<=e):stM (some ⟨e,ty,[x],false⟩) β n 0 o v fr hp K=K fr (Qw hp β ⟨e,ty,[stV x o v],false⟩):=by
 have:=(Qfz (hp:=hp) h).2.2
 simp[stM,this,hl,ho,hn]
theorem Qaii(cs:List PV)(o:Nat)(v:PV):stV (.agg cs) o v= .agg (cs.take o++v.cells++cs.drop (o+v.cells.length)):=rfl
theorem Qqf(k:IntKind)(n:Int):(PV.int k n).cells=[.int k n]:=rfl
theorem Q83:(PV.nilS).cells=[.nilS]:=rfl
theorem Q5v{p:PV}(h:p.flat=true):p.isNst=false:=by cases p<;>simp_all[PV.flat,PV.isNst]
theorem Qoh{z:List PV}{ps:List (Nat×Nat×PV)}{d:Nat}(h:ps.all (fun p=>p.2.2.flat)=true):
  Qh1 z ps d fr hp K=((∀p∈ps,p.2.2.cells.length=p.2.1/\p.1+p.2.1<=z.length)/\K (upd fr d (.agg (Qdx z (ps.map fun p=>(p.1,p.2.2.cells))))) hp):=by
 have h':=List.all_eq_true.1 h
 have e1:(ps.map fun p=>(p.1,(Qam hp p.2.2).cells))=ps.map fun p=>(p.1,p.2.2.cells):=List.map_congr_left fun p hp'=>by rw[(Qfz (h' p hp')).1]
 have e2:(ps.flatMap fun p=>p.2.2.refs)=[]:=by
  rw[List.flatMap_eq_nil_iff];exact fun p hp'=>(Qfz (hp:=hp) (h' p hp')).2.1
 have e3:Q7h hp z.length ps=(∀p∈ps,p.2.2.cells.length=p.2.1/\p.1+p.2.1<=z.length):=by
  apply propext
  constructor
  ·intro H p hp'
   obtain⟨_,h2,h3⟩:=H p hp'
   rw[(Qfz (h' p hp')).1]at h2;exact⟨h2,h3⟩
  ·intro H p hp'
   obtain⟨h2,h3⟩:=H p hp'
   obtain⟨g1,_,g3⟩:=Qfz (hp:=hp) (h' p hp')
   rw[g1];exact⟨g3,h2,h3⟩
 have e4:ps.any (fun p=>p.2.2.isNst)=false:=by
  rw[List.any_eq_false];exact fun p hp'=>by simp[Q5v (h' p hp')]
 simp only[Qh1,e4,Qyp,e1,e2,e3,Bool.false_eq_true,if_false]
 rfl
theorem bld0(z:List PV)(d:Nat):Qh1 z [] d fr hp K=K (upd fr d (.agg z)) hp:=by rw[Qoh rfl];simp[Qdx]
theorem bld1{z:List PV}{o n d:Nat}{p:PV}(h:p.flat=true):Qh1 z [(o,n,p)] d fr hp K=((p.cells.length=n/\o+n<=z.length)/\K (upd fr d (.agg (z.take o++p.cells++z.drop (o+p.cells.length)))) hp):=by
 rw[Qoh (by simp[h])];simp[Qdx]
theorem bld2{z:List PV}{o n o2 n2 d:Nat}{p q:PV}(h:p.flat=true)(h2:q.flat=true):Qh1 z [(o,n,p),(o2,n2,q)] d fr hp K=
  ((p.cells.length=n/\o+n<=z.length)/\(q.cells.length=n2/\o2+n2<=z.length)/\K (upd fr d (.agg (Qdx z [(o,p.cells),(o2,q.cells)]))) hp):=by
 rw[Qoh (by simp[h,h2])];simp[and_assoc]
theorem bld3{z:List PV}{o n o2 n2 o3 n3 d:Nat}{p q r:PV}(h:p.flat=true)(h2:q.flat=true)(h3:r.flat=true):Qh1 z [(o,n,p),(o2,n2,q),(o3,n3,r)] d fr hp K=
  ((p.cells.length=n/\o+n<=z.length)/\(q.cells.length=n2/\o2+n2<=z.length)/\(r.cells.length=n3/\o3+n3<=z.length)/\K (upd fr d (.agg (Qdx z [(o,p.cells),(o2,q.cells),(o3,r.cells)]))) hp):=by
 rw[Qoh (by simp[h,h2,h3])];simp[and_assoc]
theorem Q84(c:List PV):Qdx c []=c:=rfl
theorem Q5w(c xs:List PV)(o:Nat)(r:List (Nat×List PV)):Qdx c ((o,xs)::r)=Qdx (c.take o++xs++c.drop (o+xs.length)) r:=rfl
def Qyu(p:PV)(hp:HP)(n:Nat)(ag:Bool):PV:=match p with
 | .mp β i o=>match hp β with
  |some hb=>if i<hb.xs.length/\o+n<=hb.e/\(ag=false->n=1)then ldV ag n o ((hb.xs[i]?).getD .undef)else .undef
  |none=> .undef
 |_=> .undef
def gv(fr:Fr)(hp:HP):RV->PV
 | .t s=>Qam hp (fr s)
 | .cell s n ag=>Qyu (fr s) hp n ag
def Qug(hb:Option HB)(n:Nat)(ag:Bool)(i o:Nat):PV:=match hb with
  |some hb=>if i<hb.xs.length/\o+n<=hb.e/\(ag=false->n=1)then ldV ag n o ((hb.xs[i]?).getD .undef)else .undef
  |none=> .undef
theorem gv_t(fr:Fr)(hp:HP)(s:Nat):gv fr hp (.t s)=Qam hp (fr s):=rfl
theorem gv_c(fr:Fr)(hp:HP)(s n:Nat)(ag:Bool):gv fr hp (.cell s n ag)=Qyu (fr s) hp n ag:=rfl
theorem Qacv(hp:HP)(n:Nat)(ag:Bool)(β i o:Nat):Qyu (.mp β i o) hp n ag=Qug (hp β) n ag i o:=rfl
theorem Qaij{e ty n o:Nat}{fz:Bool}{x:PV}(h:o+n<=e):Qug (some ⟨e,ty,[x],fz⟩) n true 0 o=ldV true n o x:=by simp[Qug,h]
theorem Qaik{e ty o:Nat}{fz:Bool}{x:PV}(h:o+1<=e):Qug (some ⟨e,ty,[x],fz⟩) 1 false 0 o=ldV false 1 o x:=by simp[Qug,h]
theorem Qri{r:RV}(h:(gv fr hp r).isData=true):okR fr hp r/\rvP fr hp r=gv fr hp r:=by
 cases r with
 |t s=>exact⟨h,rfl⟩
 | cell s n ag=>
  simp only[gv,okR,rvP]at h⊢
  cases hfs:fr s with
  | mp β i o=>
   rw[hfs]at h
   simp only[Qyu]at h⊢
   cases hβ:hp β with
   |none=>rw[hβ]at h;cases h
   | some hb=>
    rw[hβ]at h
    simp only at h⊢
    split at h
    ·rename_i hc
     rw[if_pos hc];exact⟨hc,rfl⟩
    ·cases h
  |_=>rw[hfs]at h;cases h
theorem Qba{r:RV}{Rr:PV->Prop}(h:Qvz Rr (gv fr hp r)):Qdv [r] Rr fr hp:=by
 obtain⟨h1,h2⟩:=Qri h.1
 exact⟨h1,by rw[h2];exact h.2⟩
theorem Qhs{r s:RV}{Rr:PV->Prop}(h:Qys Rr (gv fr hp r) (gv fr hp s)):Qdv [r,s] Rr fr hp:=by
 obtain⟨⟨a,b⟩,c⟩:=h
 obtain⟨h1,h2⟩:=Qri a
 obtain⟨h3,h4⟩:=Qri b
 refine⟨by simp[h1,h3],?_⟩
 simp only[List.map_cons,List.map_nil,h2,h4];exact c
theorem Q5x{r s t:RV}{Rr:PV->Prop}(h:Qyt Rr (gv fr hp r) (gv fr hp s) (gv fr hp t)):Qdv [r,s,t] Rr fr hp:=by
 obtain⟨⟨a,b,b'⟩,c⟩:=h
 obtain⟨h1,h2⟩:=Qri a
 obtain⟨h3,h4⟩:=Qri b
 obtain⟨h5,h6⟩:=Qri b'
 refine⟨by simp[h1,h3,h5],?_⟩
 simp only[List.map_cons,List.map_nil,h2,h4,h6];exact c
end Go.FW
namespace Go.FW
open Go
def zv(n:Bool)(a:List Nat):Int:=if n then -(val a:Int)else val a
abbrev PV.zi(n:Bool)(a:List Nat):PV:= .agg [.bool n,PV.nat a]
abbrev PV.zz(z:Int):PV:= .agg [.bool (decide (z<0)),PV.num z.natAbs]
theorem Qwa(n:Bool)(x:Nat):PV.agg [.bool (n&&decide (0<(dig x).length)),PV.num x]=PV.zz (if n then -(x:Int)else x):=by
 have h:0<(dig x).length↔x≠0:=by
  constructor
  ·intro h h0;rw[h0,Qbj]at h;simp at h
  ·intro h;apply Nat.pos_of_ne_zero;intro h0;exact h (Qb3.1 (Qdl h0))
 cases n
 ·simp
 ·simp only[Bool.true_and,if_true,PV.zz,Int.natAbs_neg,Int.natAbs_natCast]
  congr 3
  exact decide_eq_decide.2 (by rw[h];omega)
theorem Qf2(z:Int):zv (decide (z<0)) (dig z.natAbs)=z:=by
 unfold zv;rw[Qag];by_cases h:z<0<;>simp[h]<;>omega
theorem Qbu(n:Bool)(a:List Nat):(zv n a).natAbs=val a:=by unfold zv;split<;>simp
theorem Qgw(a:List Nat):zv false a=val a:=rfl
theorem Qiv(n:Bool)(x:Nat):zv n (dig x)=if n then -(x:Int)else x:=by unfold zv;rw[Qag]
def sgn(z:Int):Int:=if z<0 then -1 else if 0<z then 1 else 0
def Qcm(x y:Int):Int:=if x<y then -1 else if y<x then 1 else 0
theorem Qz0(n:Bool)(a:List Nat):sgn (zv n a)=if val a=0 then 0 else if n then -1 else 1:=by
 unfold sgn zv;cases n<;>simp<;>split<;>(try split)<;>omega
theorem Qnq{x:Int}:sgn x<0↔x<0:=by unfold sgn;split<;>(try split)<;>omega
theorem Qail{x y:Int}(h:sgn x<sgn y):Qcm x y= -1:=by
 unfold sgn at h;unfold Qcm;rw[if_pos];split at h<;>split at h<;>(try split at h)<;>(try split at h)<;>omega
theorem Qaim{x y:Int}(h:sgn y<sgn x):Qcm x y=1:=by
 have:y<x:=by unfold sgn at h;split at h<;>split at h<;>(try split at h)<;>(try split at h)<;>omega
 unfold Qcm;rw[if_neg (by omega),if_pos this]
theorem Qoi(n:Bool)(a:List Nat):zv n a=val a∨zv n a= -(val a:Int):=by unfold zv;split<;>simp
theorem Qain{n m:Bool}{a b:List Nat}(h:zv n a<0)(h2:zv m b<0):Qeo (val b) (val a)=Qcm (zv n a) (zv m b):=by
 unfold Qeo Qcm
 have e:=Qoi n a
 have f:=Qoi m b
 generalize zv n a=p at *
 generalize zv m b=q at *
 repeat' split
 all_goals omega
theorem Qaio{n m:Bool}{a b:List Nat}(h:¬zv n a<0)(h2:¬zv m b<0):Qeo (val a) (val b)=Qcm (zv n a) (zv m b):=by
 unfold Qeo Qcm
 have e:=Qoi n a
 have f:=Qoi m b
 generalize zv n a=p at *
 generalize zv m b=q at *
 repeat' split
 all_goals omega
theorem Qoj{x y:Nat}:Qeo x y<0↔x<y:=by unfold Qeo;split<;>(try split)<;>omega
variable {C : Ctx} {fr : Fr} {hp : HP} {w : World} {K R : Qp}
def Q5y(hb:Option HB)(o n:Nat):PV:=match hb with
 |some hb=> .sl hb.e ((hb.xs.drop o).take n)
 |none=> .undef
theorem Qac:(∀(hp:HP)(β o n:Nat),Qam hp (.mso β o n)=if isY β=true then .undef else Q5y (hp β) o n)/\
  (∀(e ty o n:Nat)(xs:List PV)(fz:Bool),Q5y (some ⟨e,ty,xs,fz⟩) o n= .sl e ((xs.drop o).take n))/\
  (∀(β:Nat),isY β=(decide (1000000<=β)&&decide (β<2000000)))/\
  (∀(hp:HP)(l:List Nat)(β:Nat),FW.Qaq hp l β=if l.contains β=true then(hp β).map (fun hb=>{ hb with fz:=true })else hp β):=by
 refine⟨fun hp β o n=> ?_,fun _ _ _ _ _ _=>rfl,fun _=>rfl,fun _ _ _=>rfl⟩
 simp only[Qam,Qbh,Q5y]
 cases isY β<;>cases hp β<;>rfl
theorem Qaoj{n d:Nat}{cs:List PV}(h:n<=cs.length):ldK n true (.pt cs) d fr hp K=K (upd fr d (.agg (cs.take n))) hp:=by
 simp[ldK,h,ldV,PV.cells]
theorem Qaok{off d:Nat}{cs:List PV}(h:off<=cs.length):Qmx off (.pt cs) d fr hp K=K (upd fr d (.pt (cs.drop off))) hp:=by
 simp[Qmx,h]
theorem Qaol{off n d:Nat}{cs:List PV}(h:off+n<=cs.length):Qjn off n true (.agg cs) d fr hp K=K (upd fr d (.agg ((cs.drop off).take n))) hp:=by
 simp[Qjn,h,ldV,PV.cells]
theorem Qaom{off d:Nat}{cs:List PV}(h:off+1<=cs.length):Qjn off 1 false (.agg cs) d fr hp K=K (upd fr d ((cs.drop off).headD .undef)) hp:=by
 simp[Qjn,h,ldV,PV.cells]
def rv(n:Bool)(a d:List Nat):Rat:=mkRat (zv n a) (val d)
abbrev PV.rr(n:Bool)(a d:List Nat):PV:= .agg [.bool n,PV.nat a,PV.nat d]
abbrev PV.rat(q:Rat):PV:= .agg [.bool (decide (q.num<0)),PV.num q.num.natAbs,PV.num q.den]
theorem Qca(q:Rat):rv (decide (q.num<0)) (dig q.num.natAbs) (dig q.den)=q:=by
 unfold rv;rw[Qf2,Qag,Rat.mkRat_self]
theorem Qkc{z:Int}{D:Nat}(hD:D≠0):(mkRat z D).num=z/(Nat.gcd z.natAbs D:Int)/\(mkRat z D).den=D/Nat.gcd z.natAbs D:=by
 rw[Rat.mkRat_def,dif_neg hD,Rat.normalize_eq];exact⟨rfl,rfl⟩
theorem Q85{z:Int}{D:Nat}(hD:D≠0):PV.agg [.bool (decide (z<0)),PV.num (z.natAbs/Nat.gcd z.natAbs D),PV.num (D/Nat.gcd z.natAbs D)]=PV.rat (mkRat z D):=by
 obtain⟨h1,h2⟩:=Qkc (z:=z) hD
 have hg:0<Nat.gcd z.natAbs D:=Nat.gcd_pos_of_pos_right _ (Nat.pos_of_ne_zero hD)
 have hdvd:(Nat.gcd z.natAbs D:Int)∣z:=Int.ofNat_dvd_left.2 (Nat.gcd_dvd_left _ _)
 obtain⟨k,hk⟩:=hdvd
 rw[PV.rat,h1,h2]
 generalize hgg:Nat.gcd z.natAbs D=g at *
 have e1:z/(g:Int)=k:=by rw[hk,Int.mul_ediv_cancel_left _ (by omega)]
 have e2:z.natAbs/g=k.natAbs:=by rw[hk,Int.natAbs_mul,Int.natAbs_natCast,Nat.mul_div_cancel_left _ hg]
 have e3:z<0↔k<0:=by
  rw[hk]
  constructor
  ·intro h;apply Decidable.byContradiction;intro h'
   have:=Int.mul_nonneg (show(0:Int)<=g by omega) (show 0<=k by omega);omega
  ·intro h;exact Int.mul_neg_of_pos_of_neg (by omega) h
 rw[e1,e2,decide_eq_decide.2 e3]
theorem Qaru(z:Int):PV.agg [.bool (decide (z<0)),PV.num z.natAbs,PV.nat [1]]=PV.rat (mkRat z 1):=by
 rw[<-Q85 (by omega),Nat.gcd_one_right,Nat.div_one,Nat.div_one,PV.num,PV.num,Qha]
theorem Q36:PV.le (.agg [.bool false,.nilS,PV.nat [1]]) (PV.rat 0):=by
 show PV.leL _ _
 refine⟨rfl,?_,?_,trivial⟩
 ·show PV.le1 .nilS (PV.nat (dig 0));rw[Qbj];trivial
 ·show PV.le1 (PV.nat [1]) (PV.nat (dig 1));rw[Qha];exact Qn9 _
theorem Qr1{z:Int}{D:Nat}(h:D=0∨z=0):mkRat z D=0:=by
 rcases h with h|h
 ·rw[h,Rat.mkRat_zero]
 ·rw[h,Rat.zero_mkRat]
def rs(q:Rat):Nat:=max (nl q.num.natAbs) (nl q.den)
theorem Q86(x y:Nat):nl (x/y)<=nl x:=Qb8 (Nat.div_le_self _ _)
theorem Qnr:nl 1=1:=by unfold nl;rw[Qha];rfl
theorem Qok(z:Int)(D:Nat):rs (mkRat z D)<=max (nl z.natAbs) (max (nl D) 1):=by
 by_cases hD:D=0
 ·rw[hD,Rat.mkRat_zero]
  show max (nl 0) (nl 1)<=_
  rw[Qv1,Qnr];omega
 ·obtain⟨h1,h2⟩:=Qkc (z:=z) hD
  unfold rs
  rw[h1,h2]
  have e:(z/(Nat.gcd z.natAbs D:Int)).natAbs<=z.natAbs:=by
   have hdvd:(Nat.gcd z.natAbs D:Int)∣z:=Int.ofNat_dvd_left.2 (Nat.gcd_dvd_left _ _)
   rw[Int.natAbs_ediv_of_dvd hdvd]
   exact Nat.div_le_self _ _
  have:=Qb8 e
  have:=Q86 D (Nat.gcd z.natAbs D)
  omega
theorem Qga(x y:Int):nl (x+y).natAbs<=max (nl x.natAbs) (nl y.natAbs)+1:=
 Nat.le_trans (Qb8 (Int.natAbs_add_le x y)) (Q8e _ _)
theorem Qa8(x y:Int):nl (x*y).natAbs<=nl x.natAbs+nl y.natAbs:=by rw[Int.natAbs_mul];exact Qgs _ _
theorem Qz1(q:Rat):1<=rs q:=by
 have:nl q.den≠0:=fun h=>q.den_nz (Qip.1 h)
 unfold rs;omega
theorem Qkd(a b:Rat):rs (a+b)<=rs a+rs b+1:=by
 have e:a+b=mkRat (a.num*b.den+b.num*a.den) (a.den*b.den):=by
  conv=>lhs;rw[<-Rat.mkRat_self a,<-Rat.mkRat_self b]
  exact Rat.mkRat_add_mkRat _ _ a.den_nz b.den_nz
 rw[e]
 have h1:=Qok (a.num*b.den+b.num*a.den) (a.den*b.den)
 have h2:=Qga (a.num*b.den) (b.num*a.den)
 have h3:=Qa8 a.num b.den
 have h4:=Qa8 b.num a.den
 have h5:=Qgs a.den b.den
 rw[Int.natAbs_natCast]at h3 h4
 unfold rs at *
 omega
theorem Qdc(a b:Rat):rs (a*b)<=rs a+rs b:=by
 have e:a*b=mkRat (a.num*b.num) (a.den*b.den):=by
  conv=>lhs;rw[<-Rat.mkRat_self a,<-Rat.mkRat_self b]
  exact Rat.mkRat_mul_mkRat _ _ _ _
 rw[e]
 have h1:=Qok (a.num*b.num) (a.den*b.den)
 have h3:=Qa8 a.num b.num
 have h5:=Qgs a.den b.den
 have:=Qz1 a
 unfold rs at *
 omega
theorem Qke(a:Rat):rs (-a)=rs a:=by unfold rs;rw[Rat.neg_num,Rat.neg_den,Int.natAbs_neg]
theorem Qaon{n k:Nat}{a d:List Nat}{b:Bool}(ha:Qu a)(hd:Qu d)(h1:a.length<=k)(h2:d.length<=k)(hk:1<=k):rs (rv b a d)<=k:=by
 unfold rv
 have h:=Qok (zv b a) (val d)
 rw[Qbu]at h
 have:=Qaz ha
 have:=Qaz hd
 omega
end Go.FW
namespace Go.FW
open Go
def Qee(q:Rat):Int:=sgn q.num
def Qjh(p q:Rat):Int:=if p<q then -1 else if q<p then 1 else 0
theorem Qko{z:Int}{D:Nat}(hD:D≠0):∃g:Nat,0<g/\z=(mkRat z D).num*g/\D=(mkRat z D).den*g:=by
 obtain⟨h1,h2⟩:=Qkc (z:=z) hD
 have hg:0<Nat.gcd z.natAbs D:=Nat.gcd_pos_of_pos_right _ (Nat.pos_of_ne_zero hD)
 refine⟨_,hg,?_,?_⟩
 ·rw[h1,Int.ediv_mul_cancel (Int.ofNat_dvd_left.2 (Nat.gcd_dvd_left _ _))]
 ·rw[h2,Nat.div_mul_cancel (Nat.gcd_dvd_right _ _)]
theorem Q5z{a:Int}{g:Nat}(hg:0<g):a*g<0↔a<0:=by
 constructor
 ·intro h;apply Decidable.byContradiction;intro h'
  have:=Int.mul_nonneg (show 0<=a by omega) (show(0:Int)<=g by omega);omega
 ·intro h;exact Int.mul_neg_of_neg_of_pos h (by omega)
theorem Q50{a:Int}{g:Nat}(hg:0<g):0<a*g↔0<a:=by
 constructor
 ·intro h;apply Decidable.byContradiction;intro h'
  have:=Int.mul_nonneg (show 0<= -a by omega) (show(0:Int)<=g by omega)
  rw[Int.neg_mul]at this;omega
 ·intro h;exact Int.mul_pos h (by omega)
theorem Q87{z:Int}{D:Nat}(hD:D≠0):Qee (mkRat z D)=sgn z:=by
 obtain⟨g,hg,h1,_⟩:=Qko (z:=z) hD
 unfold Qee
 generalize(mkRat z D).num=x at *
 subst h1
 unfold sgn
 have:=Q5z (a:=x) hg
 have:=Q50 (a:=x) hg
 repeat' split
 all_goals omega
theorem Qz2{x y:Int}{d c:Nat}(hd:d≠0)(hc:c≠0):mkRat x d<mkRat y c↔x*c<y*d:=by
 obtain⟨g,hg,h1,h2⟩:=Qko (z:=x) hd
 obtain⟨k,hk,h3,h4⟩:=Qko (z:=y) hc
 rw[Rat.lt_iff]
 generalize(mkRat x d).num=p at *
 generalize(mkRat x d).den=p' at *
 generalize(mkRat y c).num=q at *
 generalize(mkRat y c).den=q' at *
 subst h1 h2 h3 h4
 have e1:p*(g:Int)*((q'*k:Nat):Int)=(p*q')*((g*k:Nat):Int):=by push_cast;grind
 have e2:q*(k:Int)*((p'*g:Nat):Int)=(q*p')*((g*k:Nat):Int):=by push_cast;grind
 rw[e1,e2]
 have hgk:(0:Int)<((g*k:Nat):Int):=by exact_mod_cast Nat.mul_pos hg hk
 exact⟨fun h=>Int.mul_lt_mul_of_pos_right h hgk,fun h=>Int.lt_of_mul_lt_mul_right h (Int.le_of_lt hgk)⟩
theorem Q37{x y:Int}{d c:Nat}(hd:d≠0)(hc:c≠0):Qjh (mkRat x d) (mkRat y c)=Qcm (x*c) (y*d):=by
 unfold Qjh Qcm
 simp only[Qz2 hd hc,Qz2 hc hd]
theorem      Qs8 {x : Int} : sgn x = 0 ↔ x = 0 := by unfold sgn;repeat' split
                                                     all_goals omega
theorem Qav{q:Rat}:Qee q=0↔q=0:=by unfold Qee;rw[Qs8,Rat.num_eq_zero]
theorem Qol{q:Rat}:Qee q<0↔q<0:=by
 unfold Qee;rw[Qnq,Rat.lt_iff];simp
theorem Qz3{q:Rat}:0<Qee q↔0<q:=by
 unfold Qee;rw[Rat.lt_iff];unfold sgn;simp;repeat' split
 all_goals omega
theorem       Qw6 (q : Rat) :  Qee q = -1 ∨  Qee q = 0 ∨  Qee q = 1 := by unfold  Qee sgn;repeat' split
                                                                          all_goals omega
theorem Qz4{p q:Rat}(h:Qee p<Qee q):Qjh p q= -1:=by
 unfold Qjh;rw[if_pos]
 rcases Qw6 p with h1|h1|h1<;>rcases Qw6 q with h2|h2|h2<;>first|omega|skip
 ·have a:=Qol.1 (show Qee p<0 by omega);have b:=Qav.1 h2;grind
 ·have a:=Qol.1 (show Qee p<0 by omega);have b:=Qz3.1 (show 0<Qee q by omega);grind
 ·have a:=Qav.1 h1;have b:=Qz3.1 (show 0<Qee q by omega);grind
theorem Qacw{p q:Rat}(h:Qee q<Qee p):Qjh p q=1:=by
 have:=Qz4 h
 unfold Qjh at *
 have hlt:q<p:=by
  apply Decidable.byContradiction;intro hn
  rw[if_neg hn]at this;split at this<;>omega
 rw[if_neg (by grind),if_pos hlt]
theorem Qml{p q:Rat}:Qjh p q=0↔p=q:=by
 unfold Qjh
 constructor
 ·intro h
  split at h
  ·omega
  ·split at h
   ·omega
   ·grind
 ·rintro rfl;rw[if_neg (by grind),if_neg (by grind)]
def Qhc(n:Bool)(a:List Nat):Bool:=if a=[]then !n else decide (a.getLast? ≠some 0)
def Qf3(n:Bool)(a d:List Nat):Bool:=Qhc n a&&(decide (d≠[]/\d.getLast? ≠some 0)&&decide (Nat.gcd (val a) (val d)=1))
theorem Qz5{n:Bool}{a d:List Nat}(ha:Qu a)(hd:Qu d)(h:Qf3 n a d=true):n=decide ((rv n a d).num<0)/\a=dig (rv n a d).num.natAbs/\d=dig (rv n a d).den:=by
 simp only[Qf3,Qhc,Bool.and_eq_true,decide_eq_true_eq]at h
 obtain⟨h1,⟨h2,h3⟩,h4⟩:=h
 have ea:a=dig (val a):=by
  refine(Qnk ha ?_).symm
  split at h1
  ·rename_i h;subst h;simp
  ·simpa using h1
 have ed:d=dig (val d):=(Qnk hd h3).symm
 have hD:val d≠0:=fun h=>h2 (by rw[ed,h,Qbj])
 obtain⟨g1,g2⟩:=Qkc (z:=zv n a) hD
 rw[Qbu,h4]at g1 g2
 have g1':(rv n a d).num=zv n a:=by unfold rv;rw[g1];simp
 have g2':(rv n a d).den=val d:=by unfold rv;rw[g2];simp
 rw[g1',g2',Qbu]
 refine⟨?_,ea,ed⟩
 unfold zv
 split at h1
 ·rename_i h;subst h;simp at h1;subst h1;simp[val]
 ·rename_i h
  have h0:val a≠0:=fun h'=>h (by rw[ea,h',Qbj])
  cases n<;>simp;omega
theorem Qarv{n:Bool}{a d:List Nat}(ha:Qu a)(hd:Qu d)(h:Qf3 n a d=true):PV.rr n a d=PV.rat (rv n a d):=by
 obtain⟨h1,h2,h3⟩:=Qz5 ha hd h
 rw[PV.rr,PV.rat,<-h1,PV.num,PV.num,<-h2,<-h3]
theorem Qr2{a:List Nat}{k:Nat}(h:a.length=k+1):a.getLast? =some (a[k]'(by omega)):=by
 rw[List.getLast?_eq_getElem?,show a.length-1=k by omega];exact List.getElem?_eq_getElem _
def eN(a:List Int)(i:Nat):Int:=a.getD i 0
theorem Qde{a:List Int}{i:Nat}(h:i<a.length):eN a i=a[i]:=by simp[eN,List.getD_eq_getElem?_getD,h]
theorem Qed{a:List Int}{i:Nat}(h:a.length<=i):eN a i=0:=by simp[eN,List.getD_eq_getElem?_getD,List.getElem?_eq_none h]
theorem Qz6(i:Nat):eN [] i=0:=by simp[eN]
def Qgx(l:List Int):Nat->List Int
 |0=>[]
 |n+1=>if l[n]? =some 0 then Qgx l n else l.take (n+1)
def Qbb(l:List Int):List Int:=Qgx l l.length
theorem Qr3(l:List Int):∀n,(Qgx l n).length<=n
 |0=>by simp[Qgx]
 |n+1=>by
  rw[Qgx];split
  ·have:=Qr3 l n;omega
  ·simp;omega
theorem Qw7(l:List Int):∀n,n<=l.length->(Qgx l n).getLast? ≠some 0
 |0,_=>by simp[Qgx]
 | n+1,h=>by
  rw[Qgx];split
  ·exact Qw7 l n (by omega)
  ·rename_i hn
   have:(l.take (n+1)).getLast? =l[n]? :=by
    rw[List.getLast?_eq_getElem?,List.length_take,Nat.min_eq_left h]
    simp[List.getElem?_take]
   rw[this];exact hn
theorem Q38(l:List Int)(i:Nat):∀n,n<=l.length->eN (Qgx l n) i=if i<n then eN l i else 0
 |0,_=>by simp[Qgx,eN]
 | n +1,h=>by
  rw[Qgx];split
  ·rename_i hn
   rw[Q38 l i n (by omega)]
   by_cases h1:i<n
   ·simp[h1,show i<n+1 by omega]
   ·rw[if_neg h1];split
    ·obtain rfl:i=n:=by omega
     simp[eN,List.getD_eq_getElem?_getD,hn]
    ·rfl
  ·simp only[eN,List.getD_eq_getElem?_getD,List.getElem?_take]
   split<;>simp_all
theorem Qom(l:List Int)(i:Nat):eN (Qbb l) i=eN l i:=by
 rw[Qbb,Q38 l i _ (Nat.le_refl _)]
 split
 ·rfl
 ·exact(Qed (by omega)).symm
theorem Qon(l:List Int):(Qbb l).getLast? ≠some 0:=Qw7 l _ (Nat.le_refl _)
theorem Qe1(l:List Int):(Qbb l).length<=l.length:=Qr3 l _
theorem Qlz{a b:List Int}(ha:a.getLast? ≠some 0)(hb:b.getLast? ≠some 0)(h:∀i,eN a i=eN b i):a=b:=by
 have key:∀(a b:List Int),b.getLast? ≠some 0->(∀i,eN a i=eN b i)->¬a.length<b.length:=by
  intro a b hb h hlt
  have h1:=h (b.length-1)
  rw[Qed (by omega),Qde (by omega)]at h1
  apply hb
  rw[List.getLast?_eq_getElem?,List.getElem?_eq_getElem (by omega),<-h1]
 have h1:=key a b hb h
 have h2:=key b a ha (fun i=>(h i).symm)
 refine List.ext_getElem (by omega) fun i h3 h4=> ?_
 have:=h i
 rwa[Qde h3,Qde h4]at this
theorem Qacx{a:List Int}(h:a.getLast? ≠some 0):Qbb a=a:=Qlz (Qon a) h (Qom a)
def Qcw(a b:List Int):Nat->Int
 |0=>0
 |n+1=>if eN a n=eN b n then Qcw a b n else Qcm (eN a n) (eN b n)
def Qau(a b:List Int):Int:=Qcw a b (max a.length b.length)
theorem Qaip{x y:Int}:Qcm x y=0↔x=y:=by unfold Qcm;(repeat' split)<;>omega
theorem Qlb{x y:Int}:Qcm x y<0↔x<y:=by unfold Qcm;(repeat' split)<;>omega
theorem Qacy(x y:Int):Qcm y x= -Qcm x y:=by unfold Qcm;(repeat' split)<;>omega
theorem Qmm(a b:List Int):∀n,Qcw a b n=0↔∀i,i<n->eN a i=eN b i
 |0=>by simp[Qcw]
 | n+1=>by
  rw[Qcw];split
  ·rename_i h
   rw[Qmm a b n]
   exact⟨fun H i hi=>by
    by_cases h1:i=n
    ·subst h1;exact h
    ·exact H i (by omega),fun H i hi=>H i (by omega)⟩
  ·rename_i h
   rw[Qaip]
   exact⟨fun H=>absurd H h,fun H=>H n (by omega)⟩
theorem Qz7(a b:List Int):∀n,Qcw b a n= -Qcw a b n
 |0=>rfl
 |n+1=>by
  rw[Qcw,Qcw]
  by_cases h:eN a n=eN b n
  ·rw[if_pos h,if_pos h.symm,Qz7 a b n]
  ·rw[if_neg h,if_neg (fun h'=>h h'.symm),Qacy]
theorem Quh{a b c:List Int}:∀n,Qcw a b n<0->Qcw b c n<0->Qcw a c n<0
 |0=>by simp[Qcw]
 | n+1=>by
  intro h1 h2
  rw[Qcw]at h1 h2⊢
  split at h1<;>split at h2
  ·rename_i e1 e2
   rw[if_pos (e1.trans e2)];exact Quh n h1 h2
  ·rename_i e1 e2
   rw[e1,if_neg e2];exact h2
  ·rename_i e1 e2
   rw[<-e2,if_neg e1];exact h1
  ·rename_i e1 e2
   rw[Qlb]at h1 h2
   rw[if_neg (by omega),Qlb];omega
theorem Qji{a b:List Int}{m:Nat}(h:max a.length b.length<=m):Qcw a b m=Qau a b:=by
 obtain⟨k,rfl⟩:∃k,m=max a.length b.length+k:=⟨m-max a.length b.length,by omega⟩
 induction k with
 |zero=>rfl
 |succ k ih=>
  rw[<-Nat.add_assoc,Qcw,if_pos (by rw[Qed (by omega),Qed (by omega)])]
  exact ih (by omega)
theorem Qwb{a b:List Int}(ha:a.getLast? ≠some 0)(hb:b.getLast? ≠some 0):Qau a b=0↔a=b:=by
 unfold Qau
 rw[Qmm]
 constructor
 ·intro h
  refine Qlz ha hb fun i=> ?_
  by_cases hi:i<max a.length b.length
  ·exact h i hi
  ·rw[Qed (by omega),Qed (by omega)]
 ·rintro rfl i _;rfl
theorem Qqg(a:List Int):Qau a a=0:=by rw[Qau,Qmm];intros;rfl
theorem Qjj(a b:List Int):Qau b a= -Qau a b:=by
 unfold Qau;rw[Nat.max_comm,Qz7]
theorem Q51{a b c:List Int}(h1:Qau a b<0)(h2:Qau b c<0):Qau a c<0:=by
 have e:∀x y:List Int,x.length<=a.length+b.length+c.length->y.length<=a.length+b.length+c.length->Qau x y=Qcw x y (a.length+b.length+c.length):=fun x y hx hy=>(Qji (by omega)).symm
 rw[e _ _ (by omega) (by omega)]at *
 exact Quh _ h1 h2
theorem Q52{a b c d:List Int}(h1:∀i,eN a i=eN c i)(h2:∀i,eN b i=eN d i):Qau a b=Qau c d:=by
 have key:∀n,Qcw a b n=Qcw c d n:=by
  intro n;induction n with
  |zero=>rfl
  |succ n ih=>rw[Qcw,Qcw,h1,h2,ih]
 rw[<-Qji (m:=max (max a.length b.length) (max c.length d.length)) (by omega),key,Qji (by omega)]
def Qgh(g:Int->Int->Int)(a b:List Int):List Int:=(List.range (max a.length b.length)).map fun i=>g (eN a i) (eN b i)
theorem Qcy(g:Int->Int->Int)(a b:List Int):(Qgh g a b).length=max a.length b.length:=by simp[Qgh]
theorem Qrj{g:Int->Int->Int}(hg:g 0 0=0)(a b:List Int)(i:Nat):eN (Qgh g a b) i=g (eN a i) (eN b i):=by
 by_cases h:i<max a.length b.length
 ·rw[Qde (by rw[Qcy];exact h)];simp[Qgh]
 ·rw[Qed (by rw[Qcy];omega),Qed (by omega),Qed (by omega),hg]
def Qa5(a b:List Int):List Int:=Qbb (Qgh (· + ·) a b)
theorem Qlc(a b:List Int)(i:Nat):eN (Qa5 a b) i=eN a i+eN b i:=by rw[Qa5,Qom,Qrj (by simp)]
theorem Qie(a b:List Int):(Qa5 a b).getLast? ≠some 0:=Qon _
theorem Qmn(a b:List Int):Qa5 a b=Qa5 b a:=Qlz (Qie _ _) (Qie _ _) fun i=>by rw[Qlc,Qlc,Int.add_comm]
theorem Qacz{a:List Int}(h:a.getLast? ≠some 0):Qa5 a []=a:=Qlz (Qie _ _) h fun i=>by rw[Qlc,Qz6,Int.add_zero]
theorem Qac0(a b c:List Int):Qau (Qa5 a c) (Qa5 b c)=Qau a b:=by
 have key:∀n,Qcw (Qa5 a c) (Qa5 b c) n=Qcw a b n:=by
  intro n;induction n with
  |zero=>rfl
  |succ n ih=>
   rw[Qcw,Qcw,Qlc,Qlc,ih]
   by_cases h:eN a n=eN b n
   ·rw[if_pos h,if_pos (by omega)]
   ·rw[if_neg h,if_neg (by omega)];unfold Qcm;(repeat' split)<;>omega
 rw[<-Qji (m:=max (max (Qa5 a c).length (Qa5 b c).length) (max a.length b.length)) (by omega),key,Qji (by omega)]
def Qgi(a:List Int):Int:=a.sum
def Qaj(a:List Int):Bool:=decide (a.length<=64)&&(decide (a.getLast? ≠some 0)&&a.all fun x=>decide (0<=x)&&decide (x<=1048576))
def Qgj(o:Int)(a b:List Int):Int:=if o=1/\Qgi a≠Qgi b then Qcm (Qgi a) (Qgi b)else Qau a b
structure MB(k:Nat)(a:List Int):Prop where
 len:a.length<=64
 lo:∀x∈a,0<=x
 hi:∀x∈a,x<=k
theorem MB.eN{k:Nat}{a:List Int}(h:MB k a)(i:Nat):0<=FW.eN a i/\FW.eN a i<=k:=by
 by_cases hi:i<a.length
 ·rw[Qde hi];exact⟨h.lo _ (List.getElem_mem _),h.hi _ (List.getElem_mem _)⟩
 ·rw[Qed (by omega)];omega
theorem MB.mono{k k':Nat}{a:List Int}(h:MB k a)(hk:k<=k'):MB k' a:=⟨h.len,h.lo,fun x hx=>by have:=h.hi x hx;omega⟩
theorem MB.ofOk{a:List Int}(h:Qaj a=true):MB 1048576 a:=by
 simp only[Qaj,Bool.and_eq_true,decide_eq_true_eq,List.all_eq_true]at h
 exact⟨h.1,fun x hx=>(h.2.2 x hx).1,fun x hx=>(h.2.2 x hx).2⟩
theorem MB.mul{k l:Nat}{a b:List Int}(h:MB k a)(g:MB l b):MB (k+l) (Qa5 a b):=by
 have hl:(Qa5 a b).length<=64:=by
  have:=Qe1 (Qgh (· + ·) a b)
  rw[Qcy]at this
  have:=h.len;have:=g.len;unfold Qa5;omega
 refine⟨hl,fun x hx=> ?_,fun x hx=> ?_⟩
 all_goals
  obtain⟨i,hi,rfl⟩:=List.getElem_of_mem hx
  rw[<-Qde hi,Qlc]
  have:=h.eN i;have:=g.eN i
  push_cast;omega
variable {C : Ctx} {fr : Fr} {hp : HP} {w : World} {K R : Qp}
theorem Qarw{α:Type}{f:α->PV}{e d:Nat}{xs:List α}{k k':IntKind}{n:Nat}(h5:n<=xs.length):
  slK e (.sl e (xs.map f)) none (some (.int k (n:Int))) (some (.int k' (n:Int))) d fr hp K=K (upd fr d (.sl e ((xs.take n).map f))) hp:=by
 simp[slK,Qck,h5]
theorem Qs9{α:Type}{a:List α}{k:Nat}(h:a.length=k+1):a.getLast? =some (a[k]'(by omega)):=by
 rw[List.getLast?_eq_getElem?,show a.length-1=k by omega];exact List.getElem?_eq_getElem _
theorem Q2s{α:Type}{f:α->PV}{e by_ ty d:Nat}{xs:List α}(h0:0<e)(h1:xs.length*by_<=140737488355328)(h2:xs.length<=9223372036854775807):
  Qe5 e by_ ty .nilS (.sl e (xs.map f)) d fr hp K=K (upd (Qa7 d fr) d (.ms d xs.length)) (Qw hp d ⟨e,ty,xs.map f,false⟩):=by
 have:=Qky (fr:=fr) (hp:=hp) (K:=K) (e:=e) (by_:=by_) (ty:=ty) (d:=d) (x:= .sl e (xs.map f)) (ys:=xs.map f) rfl h0 (by simpa using h1) (by simpa using h2)
 simpa using this
theorem Qd0{α:Type}{f:α->PV}{e by_ ty d β n:Nat}{xs ys:List α}(hb:hp β=some ⟨e,ty,xs.map f,false⟩)(hn:n=xs.length)(h0:0<e)(h1:(n+ys.length)*by_<=140737488355328)(h2:n+ys.length<=9223372036854775807)(hB:isB β=false:=by decide):
  Qe5 e by_ ty (.ms β n) (.sl e (ys.map f)) d fr hp K=K (upd (Qa7 β fr) d (.ms β (n+ys.length))) (Qw hp β ⟨e,ty,(xs++ys).map f,false⟩):=by
 rw[Qoc (ys:=ys.map f) (xs:=xs.map f) rfl hb h0 (by simp[hn]) (by simpa using h1) (by simpa using h2) hB]
 rw[List.take_of_length_le (by simp[hn]),List.map_append,List.length_map]
theorem Qaf{α:Type}{f:α->PV}{y:α}{e by_ ty ty' d β γ n:Nat}{xs:List α}{fz:Bool}(hb:hp β=some ⟨e,ty,xs.map f,false⟩)(hy:hp γ=some ⟨e,ty',[f y],fz⟩)(h0:0<e)(hn:n=xs.length)(h1:(n+1)*by_<=140737488355328)(h2:n+1<=9223372036854775807)(hB:isB β=false:=by decide):
  Qe5 e by_ ty (.ms β n) (.ms γ 1) d fr hp K=K (upd (Qa7 β fr) d (.ms β (n+1))) (Qw hp β ⟨e,ty,(xs++[y]).map f,false⟩):=by
 rw[Qod hb hy h0 (by simp[hn]) h1 h2 hB];simp
abbrev PV.mono(a:List Int):PV:= .sl 1 (Qkn a)
theorem Qqh{a:List Int}(h:a=[]):PV.le .nilS (PV.mono a):=by subst h;trivial
theorem Qaoo{by_ ty d:Nat}{k k':IntKind}{n c:Nat}(h2:n<=c)(h3:by_*c<=281474976710656)(h4:c<=9223372036854775807):
  mkK 1 by_ ty (.int .i64 0) (.int k (n:Int)) (.int k' (c:Int)) d fr hp K=K (upd (Qa7 d fr) d (.ms d n)) (Qw hp d ⟨1,ty,Qkn (List.replicate n 0),false⟩):=by
 rw[Q79 (by omega) (by omega) (by omega) (by omega)]
 simp[Qkn]
theorem Qwc(a b:Nat):max (a:Int) (b:Int)=((max a b:Nat):Int):=by omega
end Go.FW
namespace Go.FW
open Go
variable {C : Ctx} {fr : Fr} {hp : HP} {w : World} {K R : Qp}
theorem Q88{α:Type}{done:List α}{i n:Nat}{v z:α}(h:done.length=i)(hn:0<n):(done++List.replicate n z).set i v=(done++[v])++List.replicate (n-1) z:=by
 obtain⟨m,rfl⟩:∃m,n=m+1:=⟨n-1,by omega⟩
 subst h;simp[List.replicate_succ]
theorem Qqi{g:Int->Int->Int}{a b:List Int}{i:Nat}(h:i<max a.length b.length):(Qgh g a b).take (i+1)=(Qgh g a b).take i++[g (eN a i) (eN b i)]:=by
 rw[List.take_succ_eq_append_getElem (by rw[Qcy];exact h)]
 simp[Qgh]
end Go.FW
namespace Go.FW
open Go
abbrev Tm:=Rat×List Int
abbrev PV.term(t:Tm):PV:= .agg [.bool (decide (t.1.num<0)),PV.num t.1.num.natAbs,PV.num t.1.den,PV.mono t.2]
abbrev PV.poly(p:List Tm):PV:= .sl 4 (p.map PV.term)
abbrev PV.polys(l:List (List Tm)):PV:= .sl 1 (l.map PV.poly)
def Qap:List Tm->List Tm->List Tm
 | [],q=>q
 |p,[]=>p
 |(c,m)::p,(d,l)::q=>
  if 0<Qau m l then(c,m)::Qap p ((d,l)::q)
  else if Qau m l<0 then(d,l)::Qap ((c,m)::p) q
  else if c+d=0 then Qap p q else(c+d,m)::Qap p q
termination_by p q=>p.length+q.length
theorem Qdn(p:List Tm):Qap p []=p:=by cases p<;>rw[Qap];simp
theorem Qh7(p:List Tm):Qap [] p=p:=by rw[Qap]
structure TB(K E:Nat)(t:Tm):Prop where
 c:rs t.1+1<=K
 m:MB E t.2
 l:t.2.getLast? ≠some 0
def PB(K E:Nat)(p:List Tm):Prop:=∀t∈p,TB K E t
theorem TB.mono{K K' E E':Nat}{t:Tm}(h:TB K E t)(hK:K<=K')(hE:E<=E'):TB K' E' t:=⟨Nat.le_trans h.c hK,h.m.mono hE,h.l⟩
theorem PB.mono{K K' E E':Nat}{p:List Tm}(h:PB K E p)(hK:K<=K')(hE:E<=E'):PB K' E' p:=fun t ht=>(h t ht).mono hK hE
theorem PB.nil(K E:Nat):PB K E []:=fun t ht=>by cases ht
theorem PB.cons{K E:Nat}{t:Tm}{p:List Tm}:PB K E (t::p)↔TB K E t/\PB K E p:=by simp[PB]
theorem PB.drop{K E:Nat}{p:List Tm}(h:PB K E p)(n:Nat):PB K E (p.drop n):=fun t ht=>h t (List.mem_of_mem_drop ht)
theorem PB.take{K E:Nat}{p:List Tm}(h:PB K E p)(n:Nat):PB K E (p.take n):=fun t ht=>h t (List.mem_of_mem_take ht)
theorem PB.get{K E:Nat}{p:List Tm}(h:PB K E p){i:Nat}(hi:i<p.length):TB K E p[i]:=h _ (List.getElem_mem hi)
theorem Qr4:∀(p q:List Tm),(Qap p q).length<=p.length+q.length:=by
 intro p q
 induction p,q using Qap.induct with
 |case1 q=>rw[Qap];simp
 |case2 p h=>rw[Qdn];simp
 |case3 c m p d l q h ih=>rw[Qap,if_pos h];simp at ih ⊢;omega
 |case4 c m p d l q h1 h2 ih=>rw[Qap,if_neg h1,if_pos h2];simp at ih ⊢;omega
 |case5 c m p d l q h1 h2 h3 ih=>rw[Qap,if_neg h1,if_neg h2,if_pos h3];simp at ih ⊢;omega
 |case6 c m p d l q h1 h2 h3 ih=>rw[Qap,if_neg h1,if_neg h2,if_neg h3];simp at ih ⊢;omega
theorem Q39{K L E:Nat}:∀(p q:List Tm),PB K E p->PB L E q->PB (K+L) E (Qap p q):=by
 intro p q
 induction p,q using Qap.induct with
 |case1 q=>rw[Qap];exact fun _ h=>h.mono (by omega) (by omega)
 |case2 p h=>rw[Qdn];exact fun h _=>h.mono (by omega) (by omega)
 |case3 c m p d l q h ih=>
  intro hp hq
  rw[Qap,if_pos h]
  rw[PB.cons]at hp⊢
  exact⟨hp.1.mono (by omega) (by omega),ih hp.2 hq⟩
 |case4 c m p d l q h1 h2 ih=>
  intro hp hq
  rw[Qap,if_neg h1,if_pos h2]
  rw[PB.cons]at hq⊢
  exact⟨hq.1.mono (by omega) (by omega),ih hp hq.2⟩
 |case5 c m p d l q h1 h2 h3 ih=>
  intro hp hq
  rw[Qap,if_neg h1,if_neg h2,if_pos h3]
  rw[PB.cons]at hp hq
  exact ih hp.2 hq.2
 |case6 c m p d l q h1 h2 h3 ih=>
  intro hp hq
  rw[Qap,if_neg h1,if_neg h2,if_neg h3]
  rw[PB.cons]at hp hq⊢
  refine⟨⟨?_,hp.1.m,hp.1.l⟩,ih hp.2 hq.2⟩
  have:=Qkd c d
  have:=hp.1.c
  have:=hq.1.c
  simp only at *;omega
def Qc5(l:List (List Tm)):List Tm:=
 match l with
 | []=>[]
 | [p]=>p
 |p::q::r=>Qap (Qc5 ((p::q::r).take ((p::q::r).length/2))) (Qc5 ((p::q::r).drop ((p::q::r).length/2)))
termination_by l.length
decreasing_by
 all_goals simp[List.length_take,List.length_drop];omega
theorem Qkf{l:List (List Tm)}(h:2<=l.length):Qc5 l=Qap (Qc5 (l.take (l.length/2))) (Qc5 (l.drop (l.length/2))):=by
 match l,h with
 |p::q::r,_=>rw[Qc5]
def Qm2(l:List (List Tm)):Nat:=(l.map List.length).sum
theorem Qui(l:List (List Tm))(n:Nat):Qm2 (l.take n)+Qm2 (l.drop n)=Qm2 l:=by
 unfold Qm2
 rw[<-List.sum_append,<-List.map_append,List.take_append_drop]
theorem Qoo{K E:Nat}:∀(n:Nat)(l:List (List Tm)),l.length<=n->(∀p∈l,PB K E p)->PB (l.length*K) E (Qc5 l)/\(Qc5 l).length<=Qm2 l:=by
 intro n
 induction n with
 |zero=>
  intro l hl _
  have:l=[]:=List.length_eq_zero_iff.1 (by omega)
  subst this
  rw[Qc5];exact⟨PB.nil _ _,by simp⟩
 | succ n ih=>
  intro l hl h
  match l,h with
  | [],_=>rw[Qc5];exact⟨PB.nil _ _,by simp⟩
  | [p],h=>rw[Qc5];exact⟨by simpa using h p (by simp),by simp[Qm2]⟩
  | p::q::r,h=>
   rw[Qkf (by simp)]
   generalize hL:p::q::r=L at *
   have hlen:2<=L.length:=by rw[<-hL];simp
   obtain⟨a1,a2⟩:=ih (L.take (L.length/2)) (by rw[List.length_take];omega) (fun x hx=>h x (List.mem_of_mem_take hx))
   obtain⟨b1,b2⟩:=ih (L.drop (L.length/2)) (by rw[List.length_drop];omega) (fun x hx=>h x (List.mem_of_mem_drop hx))
   have hs:=Qui L (L.length/2)
   constructor
   ·have e:(L.take (L.length/2)).length*K+(L.drop (L.length/2)).length*K=L.length*K:=by
     rw[<-Nat.add_mul,List.length_take,List.length_drop];congr 1;omega
    rw[<-e];exact Q39 _ _ a1 b1
   ·have:=Qr4 (Qc5 (L.take (L.length/2))) (Qc5 (L.drop (L.length/2)))
    omega
def Qa6(p:List Tm)(t:Tm):List Tm:=p.filterMap fun x=>if x.1*t.1=0 then none else some (x.1*t.1,Qa5 x.2 t.2)
theorem Qgb(p:List Tm)(t:Tm):(Qa6 p t).length<=p.length:=List.length_filterMap_le _ _
theorem Qqj{K L E F:Nat}{p:List Tm}{t:Tm}(hp:PB K E p)(ht:TB L F t):PB (K+L) (E+F) (Qa6 p t):=by
 intro x hx
 simp only[Qa6,List.mem_filterMap]at hx
 obtain⟨y,hy,h⟩:=hx
 split at h
 ·cases h
 ·cases h
  have g:=hp y hy
  refine⟨?_,g.m.mul ht.m,Qie _ _⟩
  have:=Qdc y.1 t.1
  have:=g.c
  have:=ht.c
  simp only;omega
def Qrk(p q:List Tm):List Tm:=Qc5 (p.map (Qa6 q))
def Qhj(p q:List Tm):List Tm:=if q.length<p.length then Qrk q p else Qrk p q
theorem Qkg(x y:Tm)(p q:List Tm):Qap (x::p) (y::q)=if 0<Qau x.2 y.2 then x::Qap p (y::q)else if Qau x.2 y.2<0 then y::Qap (x::p) q else if x.1+y.1=0 then Qap p q else(x.1+y.1,x.2)::Qap p q:=by
 obtain⟨c,m⟩:=x
 obtain⟨d,l⟩:=y
 rw[Qap]
theorem Qw8{p q:List Tm}{i k:Nat}(hi:i<p.length)(hk:k<q.length):Qap (p.drop i) (q.drop k)=if 0<Qau p[i].2 q[k].2 then p[i]::Qap (p.drop (i+1)) (q.drop k)else if Qau p[i].2 q[k].2<0 then q[k]::Qap (p.drop i) (q.drop (k+1))else if p[i].1+q[k].1=0 then Qap (p.drop (i+1)) (q.drop (k+1))else(p[i].1+q[k].1,p[i].2)::Qap (p.drop (i+1)) (q.drop (k+1)):=by
 rw[List.drop_eq_getElem_cons hi,List.drop_eq_getElem_cons hk,Qkg]
theorem Qqk(a b:List Int):Qgj 0 a b=Qau a b:=by simp[Qgj]
theorem Qop{a b:List Int}(h1:¬0<Qau a b)(h2:¬Qau a b<0)(ha:a.getLast? ≠some 0)(hb:b.getLast? ≠some 0):a=b:=(Qwb ha hb).1 (by omega)
theorem Qac1:PV.le .nilS (PV.poly []):=trivial
theorem Qw9{p:List Tm}(h:p=[]):PV.le .nilS (PV.poly p):=by subst h;trivial
section
variable {C : Ctx} {fr : Fr} {hp : HP} {w : World} {K R : Qp}
theorem Qac2{e by_ ty d:Nat}{z:PV}{k k':IntKind}{Cc:Int}(h0:0<e)(hz:z.cells.length=e)(h2:0<=Cc)(h3:by_*Cc<=281474976710656)(h4:Cc<=9223372036854775807):
  mkK e by_ ty z (.int k 0) (.int k' Cc) d fr hp K=K (upd (Qa7 d fr) d (.ms d 0)) (Qw hp d ⟨e,ty,[],false⟩):=Qyr h0 hz (by omega) h2 h3 h4
end
end Go.FW
namespace Go.FW
open Go
def Qiw(p:List Tm)(a:Rat):List Tm:=if a=0 then []else Qa6 p (a,[])
def pneg(p:List Tm):List Tm:=Qiw p (-1)
def psub(p q:List Tm):List Tm:=Qap p (pneg q)
def Qho(a:Rat):List Tm:=if a=0 then []else [(a,[])]
def varM(v:Nat):List Int:=List.replicate v 0++[1]
def Qd1(v:Int):List Tm:=if v<0∨64<=v then []else [(1,varM v.toNat)]
theorem TB.num{a:Rat}{K E:Nat}(h:rs a+1<=K):TB K E (a,[]):=⟨h,⟨by simp,by simp,by simp⟩,by simp⟩
theorem Q89{p:List Tm}{a:Rat}{K E L:Nat}(hp:PB K E p)(ha:rs a+1<=L):PB (K+L) E (Qiw p a):=by
 unfold Qiw;split
 ·exact PB.nil _ _
 ·exact(Qqj (F:=0) hp (TB.num ha)).mono (by omega) (by omega)
theorem Qyd(p:List Tm)(a:Rat):(Qiw p a).length<=p.length:=by
 unfold Qiw;split
 ·simp
 ·exact Qgb _ _
theorem Q53:rs (-1)<=1:=by
 have:rs (-1)=max (nl 1) (nl 1):=rfl
 rw[this,Qnr];omega
theorem Qql:rs 1<=1:=by
 have:rs 1=max (nl 1) (nl 1):=rfl
 rw[this,Qnr];omega
theorem Qz8:rs 0<=1:=by
 have:rs 0=max (nl 0) (nl 1):=rfl
 rw[this,Qnr,Qv1];omega
theorem Qaiq{p:List Tm}{K E:Nat}(hp:PB K E p):PB (K+2) E (pneg p):=Q89 hp (by have:=Q53;omega)
def Qix(s t:Tm):Int:=if Qau s.2 t.2≠0 then Qau s.2 t.2 else Qjh s.1 t.1
def Qfo:List Tm->List Tm->Int
 | [],[]=>0
 | [],_::_=> -1
 |_::_,[]=>1
 |s::p,t::q=>if Qix s t≠0 then Qix s t else Qfo p q
theorem Qair{s t:Tm}(hs:s.2.getLast? ≠some 0)(ht:t.2.getLast? ≠some 0):Qix s t=0↔s=t:=by
 unfold Qix
 constructor
 ·intro h
  split at h
  ·omega
  ·rename_i h1
   have e1:=(Qwb hs ht).1 (Decidable.not_not.1 h1)
   exact Prod.ext (Qml.1 h) e1
 ·rintro rfl
  rw[if_neg (by simp[Qqg]),Qml.2 rfl]
theorem Qwd:∀ {p q:List Tm},(∀t∈p,t.2.getLast? ≠some 0)->(∀t∈q,t.2.getLast? ≠some 0)->(Qfo p q=0↔p=q)
 | [],[],_,_=>by simp[Qfo]
 | [],_::_,_,_=>by simp[Qfo]
 |_::_,[],_,_=>by simp[Qfo]
 | s::p,t::q,hp,hq=>by
  rw[Qfo]
  have h1:=Qair (hp s (by simp)) (hq t (by simp))
  have h2:=Qwd (p:=p) (q:=q) (fun x hx=>hp x (by simp[hx])) (fun x hx=>hq x (by simp[hx]))
  split
  ·rename_i h
   simp only[List.cons.injEq]
   exact⟨fun h'=>absurd h' h,fun h'=>absurd (h1.2 h'.1) h⟩
  ·rename_i h
   rw[h2,List.cons.injEq,<-h1]
   exact⟨fun h'=>⟨Decidable.not_not.1 h,h'⟩,fun h'=>h'.2⟩
theorem Qxa{p q:List Tm}{i:Nat}(hi:i<p.length)(hk:i<q.length):Qfo (p.drop i) (q.drop i)=if Qix p[i] q[i]≠0 then Qix p[i] q[i]else Qfo (p.drop (i+1)) (q.drop (i+1)):=by
 rw[List.drop_eq_getElem_cons hi,List.drop_eq_getElem_cons hk,Qfo]
theorem Ql0{q:List Tm}:Qfo [] q=if q.length=0 then 0 else -1:=by cases q<;>simp[Qfo]
theorem PB.last{K E:Nat}{p:List Tm}(h:PB K E p):∀t∈p,t.2.getLast? ≠some 0:=fun t ht=>(h t ht).l
def Qta(p:List Tm):Int:=p.foldl (fun d t=>max d (Qgi t.2)) (-1)
theorem Qwe{E:Nat}{a:List Int}(h:MB E a):0<=Qgi a/\Qgi a<=64*E:=by
 have key:∀(l:List Int),(∀x∈l,0<=x)->(∀x∈l,x<=E)->0<=l.sum/\l.sum<=l.length*E:=by
  intro l
  induction l with
  |nil=>simp
  |cons x l ih=>
   intro h1 h2
   obtain⟨a1,a2⟩:=ih (fun y hy=>h1 y (by simp[hy])) (fun y hy=>h2 y (by simp[hy]))
   have b1:=h1 x (by simp)
   have b2:=h2 x (by simp)
   rw[List.sum_cons,List.length_cons]
   push_cast
   rw[Int.add_mul];omega
 obtain⟨h1,h2⟩:=key a h.lo h.hi
 refine⟨h1,Int.le_trans h2 (Int.mul_le_mul_of_nonneg_right ?_ (by omega))⟩
 have:=h.len;omega
structure RTm where
 n:Bool
 a:List Nat
 d:List Nat
 m:List Int
abbrev PV.rterm(t:RTm):PV:= .agg [.bool t.n,PV.nat t.a,PV.nat t.d,PV.mono t.m]
abbrev PV.rpoly(l:List RTm):PV:= .sl 4 (l.map PV.rterm)
def RTm.q(t:RTm):Rat:=rv t.n t.a t.d
def RTm.tm(t:RTm):Tm:=(t.q,t.m)
structure RB(k:Nat)(t:RTm):Prop where
 r:Qu t.a/\Qu t.d/\t.a.length<=k/\t.d.length<=k
 l:t.m.length<2^40
def rOk(t:RTm):Bool:=Qf3 t.n t.a t.d&&(decide (t.q≠0)&&Qaj t.m)
def Qcx:List RTm->Bool
 | []=>true
 | [t]=>rOk t
 |s::t::l=>rOk s&&(decide (0<Qau s.m t.m)&&Qcx (t::l))
theorem Qtb:∀(l:List RTm),Qcx l=true↔(∀i (h:i<l.length),rOk l[i]=true)/\(∀i (h:i+1<l.length),0<Qau l[i].m l[i+1].m)
  | []=>by simp[Qcx]
  | [t]=>by
    rw[Qcx]
    constructor
    · intro h; exact ⟨fun i hi => by have:i=0:=by simp at hi;omega
                                     subst this;exact h,fun i hi=>by simp at hi⟩
    · intro h;exact h.1 0 (by simp)
  | s ::t::l=>by
    rw[Qcx,Bool.and_eq_true,Bool.and_eq_true,decide_eq_true_eq,Qtb (t::l)]
    constructor
    · rintro⟨h1,h2,h3,h4⟩
      refine⟨fun i hi=> ?_,fun i hi=> ?_⟩
      · cases i with
        |zero=>exact h1
        |succ i=>exact h3 i (by simpa using hi)
      · cases i with
        |zero=>exact h2
        |succ i=>exact h4 i (by simpa using hi)
    · rintro⟨h1,h2⟩
      exact⟨h1 0 (by simp),h2 0 (by simp),fun i hi=>h1 (i+1) (by simpa using hi),fun i hi=>h2 (i+1) (by simpa using hi)⟩
theorem Q9a{s:RTm}{l:List RTm}(h:Qcx (s::l)=true):rOk s=true/\Qcx l=true:=by
 cases l with
 |nil=>exact⟨h,rfl⟩
 |cons t l=>rw[Qcx,Bool.and_eq_true,Bool.and_eq_true]at h;exact⟨h.1,h.2.2⟩
structure TV(t:Tm):Prop where
 c:t.1≠0
 m:Qaj t.2=true
def Qcz:List Tm->Prop
 | []=>True
 |s::p=>(∀t∈p,0<Qau s.2 t.2)/\Qcz p
structure PVd(p:List Tm):Prop where
 t:∀t∈p,TV t
 s:Qcz p
theorem Qac5{t:RTm}{k:Nat}(hb:RB k t)(h:rOk t=true):PV.rterm t=PV.term t.tm/\TV t.tm:=by
 simp only[rOk,Bool.and_eq_true,decide_eq_true_eq]at h
 obtain⟨h1,h2,h3⟩:=h
 obtain⟨e1,e2,e3⟩:=Qz5 hb.r.1 hb.r.2.1 h1
 refine⟨?_,h2,h3⟩
 rw[PV.rterm,PV.term,RTm.tm,RTm.q,<-e1,PV.num,PV.num,<-e2,<-e3]
theorem Qfa{a b c:List Int}(h1:0<Qau a b)(h2:0<Qau b c):0<Qau a c:=by
 have e1:=Qjj a b
 have e2:=Qjj b c
 have e3:=Qjj a c
 have:=Q51 (a:=c) (b:=b) (c:=a) (by omega) (by omega)
 omega
theorem Qqm{k:Nat}:∀ {l:List RTm},(∀t∈l,RB k t)->Qcx l=true->PV.rpoly l=PV.poly (l.map RTm.tm)/\PVd (l.map RTm.tm):=by
 intro l
 induction l with
 |nil=>intro _ _;exact⟨rfl,⟨by simp,trivial⟩⟩
 | cons s l ih=>
  intro hb h
  obtain⟨h1,h2⟩:=Q9a h
  obtain⟨e1,v1⟩:=Qac5 (hb s (by simp)) h1
  obtain⟨e2,v2⟩:=ih (fun t ht=>hb t (by simp[ht])) h2
  refine⟨?_,⟨fun t ht=> ?_,?_,v2.s⟩⟩
  ·have e2':l.map PV.rterm=(l.map RTm.tm).map PV.term:=by injection e2
   show PV.sl 4 (PV.rterm s::l.map PV.rterm)=PV.sl 4 (PV.term s.tm::(l.map RTm.tm).map PV.term)
   rw[e1,e2']
  ·simp only[List.map_cons,List.mem_cons]at ht
   rcases ht with rfl|ht
   ·exact v1
   ·exact v2.t t ht
  ·cases l with
   |nil=>intro t ht;simp at ht
   |cons u l=>
    rw[Qcx,Bool.and_eq_true,Bool.and_eq_true,decide_eq_true_eq]at h
    intro t ht
    rw[List.map_cons]at ht v2
    rcases List.mem_cons.1 ht with rfl|ht
    ·exact h.2.1
    ·exact Qfa h.2.1 (v2.s.1 t ht)
theorem Qdg{a:List Int}(h:Qaj a=true):a.getLast? ≠some 0:=by
 simp only[Qaj,Bool.and_eq_true,decide_eq_true_eq]at h;exact h.2.1
variable {C : Ctx} {ρ : Nat -> Option Nat} {fr : Fr} {hp : HP} {w : World} {K R : Qp}
theorem Q4a(s:Nat)(hd:(Qam hp (fr s)).isData=true):Wk fr hp (upd fr s (Qam hp (fr s))) (FW.Qaq hp (fr s).refs):=by
 rintro C tmps w ⟨ρ,hs⟩
 have hf:=hs.freeze (fr s).refs
 refine⟨ρ,hf.sz,hf.ext,hf.keep,hf.own,hf.inj,fun i=> ?_⟩
 unfold upd
 split
 ·rename_i hi;subst hi
  exact Qaa.ofData (Qfj hs (hs.slots i) (fun β h=>h) hd)
 ·exact hf.slots i
def Qoq(W:List (Nat×Nat))(F:Fr)(I:Nat->Fr->HP->Prop)(n:Nat):Qp:=fun fr' hp'=>∃J hp2 m,Wk fr' hp' (ovr W J F) hp2/\m<n/\I m J hp2
theorem Qac6{W:List (Nat×Nat)}{F:Fr}{I:Nat->Fr->HP->Prop}{n:Nat}:KM (Qoq W F I n) (Qoq W F I n):=by
 rintro f f' hp hf ⟨J,hp2,m,h1,h2,h3⟩
 exact⟨J,hp2,m,hf.wk.trans h1,h2,h3⟩
theorem Qr{sk:List It}{W:List (Nat×Nat)}{F:Fr}{I:Nat->Fr->HP->Prop}{n:Nat}(h:Qd9 R sk):Qd9 R (.el (Qoq W F I n)::sk):=⟨h.1,.el Qac6 h.2⟩
theorem Qa4{W:List (Nat×Nat)}{F J:Fr}{I:Nat->Fr->HP->Prop}{n:Nat}(m:Nat)(hl:m<n)(h:I m J hp):Qoq W F I n (ovr W J F) hp:=⟨J,hp,m,Wk.refl _ _,hl,h⟩
theorem Quj{W:List (Nat×Nat)}{F J:Fr}{I:Nat->Fr->HP->Prop}{n:Nat}(s m:Nat)(hs:inW W s=true)(hd:(Qam hp (J s)).isData=true)(hl:m<n)(h:I m (upd J s (Qam hp (J s))) (FW.Qaq hp (J s).refs)):Qoq W F I n (ovr W J F) hp:=by
 have e:ovr W J F s=J s:=by rw[Q8x,if_pos hs]
 have hw:=Q4a (fr:=ovr W J F) (hp:=hp) s (by rw[e];exact hd)
 rw[e,Q33 hs]at hw
 exact⟨_,_,m,hw,hl,h⟩
theorem Qz9{sk:List It}{x:SC}(hok:Qd9 R sk)(W:List (Nat×Nat))(B:List Nat)(I:Nat->Fr->HP->Prop)(m0:Nat)(h0:I m0 fr hp)
  (h:∀m J hp,I m J hp->vc C R (.c x:: .el (Qoq W (Qao B fr) I m)::sk) (ovr W J (Qao B fr)) hp):vc C R (.c (.loop x)::sk) fr hp:=by
 refine Qka (fun m fr' hp'=>∃J,fr'=ovr W J (Qao B fr)/\I m J hp') m0 (Qs6 W B).wk ⟨fr,rfl,h0⟩ ?_
 rintro m _ hp' ⟨J,rfl,hI⟩
 refine Qhn hok.1 _ _ _ _ _ _ (Nat.le_refl _) (.c x (.el ?_ hok.2)) (Fle.refl _) (h m J hp' hI)
 rintro f f' hp2 hf ⟨J2,hp3,m2,e2,hl,h2⟩
 exact Qs2 hl (hf.wk.trans e2) ⟨J2,rfl,h2⟩
abbrev dg(a:List Nat)(i:Nat):Nat:=a.getD i 0
theorem Qor{a:List Nat}(h:Qu a)(i:Nat):dg a i<65536:=by
 by_cases hi:i<a.length
 ·rw[dg,Qbz hi];exact Qax h hi
 ·rw[dg,Qb0 hi];omega
theorem Qif(a:List Nat)(i:Nat):val (a.drop i)=dg a i+65536*val (a.drop (i+1)):=by
 by_cases hi:i<a.length
 ·rw[Qc9 hi,dg,Qbz hi]
 ·rw[dg,Qb0 hi,List.drop_of_length_le (by omega),List.drop_of_length_le (by omega)];rfl
theorem Qos(a:List Nat)(i:Nat):val a=val (a.take i)+65536^i*val (a.drop i):=by
 by_cases hi:i<=a.length
 ·exact Qd7 a i hi
 ·rw[List.take_of_length_le (by omega),List.drop_of_length_le (by omega)];simp[val]
theorem Q0a{a:List Nat}(h:Qu a)(i:Nat):val (a.take i)<65536^i:=by
 by_cases hi:i<=a.length
 ·exact Qes h i hi
 ·rw[List.take_of_length_le (by omega)]
  exact Nat.lt_of_lt_of_le (Qf8 h) (Nat.pow_le_pow_right (by omega) (by omega))
theorem Qns(a:List Nat)(i:Nat):val (a.take (i+1))=val (a.take i)+65536^i*dg a i:=by
 by_cases hi:i<a.length
 ·rw[Qf9 hi,dg,Qbz hi]
 ·rw[dg,Qb0 hi,List.take_of_length_le (by omega),List.take_of_length_le (by omega)];simp
theorem Qr5{a b:List Nat}(ha:Qu a){i:Nat}(h:val (a.drop i)<val (b.drop i)):val a<val b:=by
 rw[Qos a i,Qos b i]
 have h1:=Q0a ha i
 have:65536^i*(val (a.drop i)+1)<=65536^i*val (b.drop i):=Nat.mul_le_mul_left _ h
 rw[Nat.mul_add]at this
 omega
theorem Q4b{l:List Nat}{j v:Nat}(h:j<l.length):val (l.set j v)+65536^j*l[j]=val l+65536^j*v:=by
 have e:l.set j v=l.take j++v::l.drop (j+1):=List.set_eq_take_append_cons_drop.trans (by rw[if_pos h])
 have e2:=Qd7 l j (by omega)
 rw[Qc9 h]at e2
 rw[e,Qcq,List.length_take,Nat.min_eq_left (by omega),val,e2,Nat.mul_add,Nat.mul_add]
 omega
theorem Qot(l:List Nat)(x:Nat):val (l++[x])=val l+65536^l.length*x:=by rw[Qcq];simp[val]
theorem Q54{l:List Nat}{j:Nat}(h:val (l.drop j)=0):dg l j=0:=by
 have:=Qif l j;omega
theorem Qaoq{bt:Bool}{n d:Nat}:Qbi .rem bt (.int .u64 (n:Int)) (.int .u64 65536) d fr hp K=K (upd fr d (.int .u64 ((n%65536:Nat):Int))) hp:=by
 rw[show(65536:Int)=((65536:Nat):Int)from rfl,Qex (by omega)]
theorem Qaor{bt:Bool}{n d:Nat}(h:n<18446744073709551616):Qbi .quo bt (.int .u64 (n:Int)) (.int .u64 65536) d fr hp K=K (upd fr d (.int .u64 ((n/65536:Nat):Int))) hp:=by
 rw[show(65536:Int)=((65536:Nat):Int)from rfl,Qk9 (by omega) h]
theorem Qais{bt:Bool}{n d:Nat}:Qbi .rem bt (.int .i64 (n:Int)) (.int .i64 65536) d fr hp K=K (upd fr d (.int .i64 ((n%65536:Nat):Int))) hp:=by
 rw[show(65536:Int)=((65536:Nat):Int)from rfl,Qex (by omega)]
theorem Qait{bt:Bool}{n d:Nat}(h:n<9223372036854775808):Qbi .quo bt (.int .i64 (n:Int)) (.int .i64 65536) d fr hp K=K (upd fr d (.int .i64 ((n/65536:Nat):Int))) hp:=by
 rw[show(65536:Int)=((65536:Nat):Int)from rfl,Qv7 (by omega) h]
theorem Qaos(n:Nat):(n:Int)*65536=((n*65536:Nat):Int):=by omega
end Go.FW
namespace Go.FW
theorem Qxb{P x y V ai c q r M S T:Nat}(h1:S+P*x=M+P*r)(h2:M+P*(c+ai*(y+65536*V))=T)(h3:65536*q+r=x+ai*y+c):S+P*65536*(q+ai*V)=T:=by
 have e:P*(65536*q+r)=P*(x+ai*y+c):=by rw[h3]
 have a1:P*(c+ai*(y+65536*V))=P*c+P*(ai*y)+65536*(P*(ai*V)):=by
  rw[Nat.mul_add ai,Nat.mul_add,Nat.mul_add,Nat.mul_left_comm ai 65536,Nat.mul_left_comm P 65536];omega
 have a2:P*65536*(q+ai*V)=65536*(P*q)+65536*(P*(ai*V)):=by
  rw[Nat.mul_comm P,Nat.mul_assoc,Nat.mul_add,Nat.mul_add]
 have a3:P*(65536*q+r)=65536*(P*q)+P*r:=by rw[Nat.mul_add,Nat.mul_left_comm]
 have a4:P*(x+ai*y+c)=P*x+P*(ai*y)+P*c:=by rw[Nat.mul_add,Nat.mul_add]
 omega
theorem Qxc{l:List Nat}{i j v:Nat}(h:i≠j):dg (l.set i v) j=dg l j:=by
 simp[dg,List.getD_eq_getElem?_getD,List.getElem?_set_ne h]
open Go
variable {C : Ctx} {ρ : Nat -> Option Nat} {fr : Fr} {hp : HP} {w : World} {K R : Qp}
theorem Quk{x V d q:Nat}(hd:0<d)(h:q=V/d):(V%d*65536+x)/d+65536*q=(x+65536*V)/d/\(V%d*65536+x)%d=(x+65536*V)%d:=by
 subst h
 have e:x+65536*V=(V%d*65536+x)+d*(65536*(V/d)):=by
  have:=Nat.div_add_mod V d
  calc x+65536*V=x+65536*(d*(V/d)+V%d):=by rw[this]
   _=_:=by rw[Nat.mul_add,Nat.mul_left_comm];omega
 rw[e,Nat.add_mul_div_left _ _ hd,Nat.add_mul_mod_self_left]
 exact⟨rfl,rfl⟩
theorem Qaiu(i e:Nat)(hi:fr i= .nilS):Wk fr hp (upd fr i (.sl e [])) hp:=by
 rintro C tmps w ⟨ρ,hs⟩
 refine⟨ρ,hs.sz,hs.ext,hs.keep,hs.own,hs.inj,fun j=> ?_⟩
 unfold upd
 split
 ·rename_i hj;subst hj
  have:=hs.slots j
  rw[hi]at this
  rw[Qaa.nil_inv this]
  exact Qae.slE _ _ _ (Nat.zero_le _)
 ·exact hs.slots j
theorem Qld{sk:List It}{x:SC}(i e:Nat)(hi:fr i= .nilS)(h:vc C R (.c (.loop x)::sk) (upd fr i (.sl e [])) hp):vc C R (.c (.loop x)::sk) fr hp:=by
 rw[Qg7]at h⊢
 obtain⟨I,μ,⟨fr0,hp0,h1,h1'⟩,h2⟩:=h
 exact⟨I,μ,⟨fr0,hp0,(Qaiu i e hi).trans h1,h1'⟩,h2⟩
end Go.FW
namespace Go.FW
open Go Go.ChangeShapes Go.WideShapes
section
variable {H : Type} {enc : TypeId × Value -> H} {P : Program} {w : World} {base : Nat} {spare : Nat -> Bool} {held : Bool}
structure Q55(Qbw:DataW H->Nat):Prop where
 len:∀(elems spare:List (DataW H)),elems.length<=Qbw (.slice elems spare)
 sl:∀(elems spare:List (DataW H))(d:DataW H),d∈elems->Qbw d<=Qbw (.slice elems spare)
 ag:∀(parts:List (DataW H))(d:DataW H),d∈parts->Qbw d<=Qbw (.agg parts)
def Qe3(enc:TypeId×Value->H)(P:Program)(Qbw:DataW H->Nat)(N:Nat)(t:TypeId)(Q:List PV->Prop):Prop:=
 ∀(w:World)(base:Nat)(spare:Nat->Bool)(held:Bool)(fuel:Nat)(cs:List Value)(x:DataW H×List MemPlace),DataW.trod enc P w base spare held fuel t cs=some x->Qbw x.1<=N->
  ∃ps,Q ps/\ps.length=cs.length/\∀(i:Nat)(p:PV),ps[i]? =some p->Qae w Qbs p (cs.getD i undef)
variable {Qbw : DataW H -> Nat} {N : Nat}
theorem Qou{w:World}{p:PV}{v:Value}(h:Qae w Qbs p v):∀(i:Nat)(q:PV),[p][i]? =some q->Qae w Qbs q ([v].getD i undef):=by
 intro i q hq
 match i,hq with
 |0,hq=>simp at hq;subst hq;exact h
 |i+1,hq=>simp at hq
theorem Qe3.mono{t:TypeId}{Q Q':List PV->Prop}(h:Qe3 enc P Qbw N t Q)(hQ:∀ps,Q ps->Q' ps):Qe3 enc P Qbw N t Q':=
 fun w base spare held fuel cs x hx hn=>let⟨ps,h1,h2,h3⟩:=h w base spare held fuel cs x hx hn;⟨ps,hQ ps h1,h2,h3⟩
theorem Qxd{t:TypeId}{k:IntKind}(ht:P.underlying t=some (.int k)):Qe3 enc P Qbw N t fun ps=>∃n,ps=[.int k n]/\(Lit.int k n).wf=true:=by
 intro w base spare held fuel cs x hx _
 obtain⟨n,rfl,rfl,hw⟩:=DataW.trod_int ht hx
 exact⟨_,⟨n,rfl,hw⟩,rfl,Qou (.int k n)⟩
theorem Q56{t:TypeId}(ht:P.underlying t=some .bool):Qe3 enc P Qbw N t fun ps=>∃b,ps=[.bool b]:=by
 intro w base spare held fuel cs x hx _
 obtain⟨b,rfl,rfl⟩:=DataW.trod_bool ht hx
 exact⟨_,⟨b,rfl⟩,rfl,Qou (.bool b)⟩
theorem Q9b{t:TypeId}(ht:P.underlying t=some (.int .u16)):Qe3 enc P Qbw N t fun ps=>∃n:Nat,ps=[.int .u16 n]/\n<65536:=by
 refine(Qxd ht).mono ?_
 rintro ps ⟨n,rfl,hw⟩
 simp[Lit.wf,IntKind.min,IntKind.max,IntKind.signed,IntKind.bits]at hw
 obtain⟨m,rfl⟩:=Int.eq_ofNat_of_zero_le hw.1
 exact⟨m,rfl,by omega⟩
theorem Qqn{t:TypeId}(ht:P.underlying t=some (.int .i64)):Qe3 enc P Qbw N t fun ps=>∃n:Int,ps=[.int .i64 n]/\ -9223372036854775808<=n/\n<=9223372036854775807:=by
 refine(Qxd ht).mono ?_
 rintro ps ⟨n,rfl,hw⟩
 simp[Lit.wf,IntKind.min,IntKind.max,IntKind.signed,IntKind.bits]at hw
 exact⟨n,rfl,by omega⟩
theorem Qhp{α:Type}[Inhabited α]{f:α->PV}{G:α->Prop}{t e:TypeId}(hB:Q55 Qbw)(ht:P.underlying t=some (.slice e))(hpos:0<P.cellsOf e)
  (he:Qe3 enc P Qbw N e fun ps=>∃a:α,ps=(f a).cells/\G a):Qe3 enc P Qbw N t fun ps=>∃l:List α,ps=[.sl (P.cellsOf e) (l.map f)]/\l.length<=N/\∀a∈l,G a:=by
 intro w base spare held fuel cs x hx hn
 rcases Deep.open_slice ht hx with⟨rfl,rfl⟩|⟨a,len,cap,m,n,D,Pl,rfl,_,hl,hm,hmm,rfl,hall⟩
 ·exact⟨_,⟨[],rfl,Nat.zero_le _,fun _ h=>by cases h⟩,rfl,Qou (.slE _ none 0 (Nat.zero_le _))⟩
 have hlm:len<=m:=by rw[hmm];split<;>omega
 obtain⟨A,hA⟩:=Deep.choose_lt (α:=α×List Value) (n:=len) (p:=fun i y=>w.cells? base (a.add (i*P.cellsOf e)) (P.cellsOf e)=some y.2/\G y.1/\(f y.1).cells.length=y.2.length/\∀(j:Nat)(p:PV),(f y.1).cells[j]? =some p->Qae w Qbs p (y.2.getD j undef)) (fun i hi=>by
  obtain⟨cs',h1,h2⟩:=hall i (by omega)
  have hd:D i∈(List.range len).map D:=List.mem_map_of_mem (List.mem_range.2 hi)
  obtain⟨_,⟨b,rfl,hG⟩,h3,h4⟩:=he w base spare held n cs' _ h2 (Nat.le_trans (hB.sl _ _ _ hd) hn)
  exact⟨(b,cs'),h1,hG,h3,h4⟩)
 have hlen:=hB.len ((List.range len).map D) ((List.range (m-len)).map fun j=>D (len+j))
 simp only[List.length_map,List.length_range]at hlen hn
 refine⟨_,⟨(List.range len).map fun i=>(A i).1,rfl,by simp;omega,fun b hb=> ?_⟩,rfl,Qou ?_⟩
 ·obtain⟨i,hi,rfl⟩:=List.mem_map.1 hb
  exact(hA i (List.mem_range.1 hi)).2.1
 ·rcases Nat.eq_zero_or_pos len with rfl|hp
  ·exact .slE _ _ _ hm
  have sp:a.spot=none:=by
   obtain⟨_,h2,h3⟩:=World.cells?_some (hA 0 hp).1
   have h4:=h3 0 hpos
   rw[List.getElem?_eq_getElem (by omega)]at h4
   simpa[Addr.add]using World.cell?_spot h4
  obtain⟨b,off,spot⟩:=a
  have sp':spot=none:=sp
  subst sp'
  have hcell:∀i,i<len->∀j,j<P.cellsOf e->w.cell? ⟨b,off+i*P.cellsOf e+j,none⟩=some ((A i).2.getD j undef):=fun i hi j hj=>by
   obtain⟨_,h2,h3⟩:=World.cells?_some (hA i hi).1
   have h4:=h3 j hj
   rw[List.getElem?_eq_getElem (by omega),add_plain,add_plain]at h4
   rw[h4];simp[List.getD_eq_getElem?_getD,List.getElem?_eq_getElem (show j<(A i).2.length by omega)]
  have e1:((List.range len).map fun i=>(A i).1).map f=(List.range len).map fun i=>f (A i).1:=by simp
  have e2:((List.range len).map fun i=>f (A i).1).length=len:=by simp
  have get:∀(i:Nat)(x:PV),((List.range len).map fun i=>f (A i).1)[i]? =some x->i<len/\x=f (A i).1:=fun i x hx=>by
   obtain⟨hi,h⟩:=List.getElem?_eq_some_iff.1 hx
   rw[e2]at hi
   exact⟨hi,by simpa using h.symm⟩
  rw[e1]
  have:=Qae.sl (w:=w) (X:=Qbs) (P.cellsOf e) ((List.range len).map fun i=>f (A i).1) b off cap (fun i j=>(A i).2.getD j undef) (fun h=>h) (Q47 (hcell 0 hp 0 hpos)) (by rw[e2];exact hl) hm
   (fun i x hx=>by
    obtain⟨hi,rfl⟩:=get i x hx
    rw[(hA i hi).2.2.1];exact(World.cells?_some (hA i hi).1).2.1)
   (fun i hi j hj=>hcell i (by rwa[e2]at hi) j hj)
   (fun i x hx j y hy=>by
    obtain⟨hi,rfl⟩:=get i x hx
    exact(hA i hi).2.2.2 j y hy)
  rwa[e2]at this
theorem Qkp{t:TypeId}{f0 f1:Field}{Q0 Q1:List PV->Prop}(hB:Q55 Qbw)(ht:P.underlying t=some (.struct #[f0,f1]))(h0:f0.offset=0)(h1:f1.offset=P.cellsOf f0.type)(hc:P.cellsOf t=P.cellsOf f0.type+P.cellsOf f1.type)
  (r0:Qe3 enc P Qbw N f0.type Q0) (r1:Qe3 enc P Qbw N f1.type Q1):Qe3 enc P Qbw N t fun ps=>∃p q,ps=p++q/\Q0 p/\Q1 q:=by
 intro w base spare held fuel cs x hx hn
 obtain⟨y0,y1,n,rfl,hl,g0,g1⟩:=trod_struct2 ht hx
 obtain⟨p,hp,hp2,hp3⟩:=r0 _ _ _ _ _ _ _ g0 (Nat.le_trans (hB.ag _ _ (by simp)) hn)
 obtain⟨q,hq,hq2,hq3⟩:=r1 _ _ _ _ _ _ _ g1 (Nat.le_trans (hB.ag _ _ (by simp)) hn)
 rw[h0]at hp2 hp3
 rw[h1]at hq2 hq3
 simp only[List.drop_zero,List.length_take,List.length_drop]at hp2 hq2
 have lp:p.length=P.cellsOf f0.type:=by omega
 have lq:q.length=P.cellsOf f1.type:=by omega
 refine⟨_,⟨p,q,rfl,hp,hq⟩,by rw[List.length_append];omega,fun i v hv=> ?_⟩
 by_cases hi:i<p.length
 ·rw[List.getElem?_append_left hi]at hv
  have:=hp3 i v hv
  rw[List.drop_zero,List.getD_eq_getElem?_getD,List.getElem?_take,if_pos (by omega)]at this
  rw[List.getD_eq_getElem?_getD];exact this
 ·rw[List.getElem?_append_right (by omega)]at hv
  have:=hq3 _ v hv
  have hi2:i-p.length<q.length:=(List.getElem?_eq_some_iff.1 hv).1
  rw[List.getD_eq_getElem?_getD,List.getElem?_take,if_pos (by omega),List.getElem?_drop,show P.cellsOf f0.type+(i-p.length)=i by omega]at this
  rw[List.getD_eq_getElem?_getD];exact this
theorem Qaiv{r:Reach}{b0:Nat}{t:TypeId}{v:Value}{d:DataW H}{ps:List MemPlace}{Q:List PV->Prop}(hr:Qe3 enc P Qbw N t Q)(hd:DataW.Trod enc P w base spare held t v d ps)(hn:Qbw d<=N)
  (hv:v.cells= #[v]):∃p,Q [p]/\Qas w Qbs p v:=by
 obtain⟨fuel,hf⟩:=hd
 obtain⟨qs,h1,h2,h3⟩:=hr _ _ _ _ _ _ _ hf hn
 rw[hv]at h2 h3
 match qs,h2 with
 | [p],_=>exact⟨p,h1,Qas.of_c (by simpa using h3 0 p rfl)⟩
theorem Qxe{r:Reach}{b0:Nat}{t e:TypeId}{v:Value}{d:DataW H}{ps:List MemPlace}{Q:List PV->Prop}(ht:P.underlying t=some (.slice e))(Qcu:Value.okWide P w r b0 t v)(hr:Qe3 enc P Qbw N t Q)(hd:DataW.Trod enc P w base spare held t v d ps)(hn:Qbw d<=N):
  ∃p,Q [p]/\Qas w Qbs p v:=by
 obtain⟨a,len,cap,rfl⟩:=okWide_slice ht Qcu
 exact Qaiv (r:=r) (b0:=b0) hr hd hn rfl
theorem Q57{r:Reach}{b0:Nat}{t:TypeId}{fs:Array Field}{v:Value}{d:DataW H}{ps:List MemPlace}{Q:List PV->Prop}(ht:P.underlying t=some (.struct fs))(Qcu:Value.okWide P w r b0 t v)(hr:Qe3 enc P Qbw N t Q)(hd:DataW.Trod enc P w base spare held t v d ps)(hn:Qbw d<=N):
  ∃p,Q p/\Qas w Qbs (.agg p) v:=by
 obtain⟨vs,rfl,_⟩:=okWide_struct ht Qcu
 obtain⟨fuel,hf⟩:=hd
 obtain⟨qs,h1,h2,h3⟩:=hr _ _ _ _ _ _ _ hf hn
 refine⟨qs,h1,vs,rfl,by simpa[Value.cells]using h2.symm,fun i x hx=> ?_⟩
 have:=h3 i x hx
 simpa[Value.cells,List.getD_eq_getElem?_getD,Array.getD_eq_getD_getElem?]using this
theorem Ext.sameAt{W W':World}(h:Ext Qbs W W'){p:MemPlace}(hp:p.block<W.heap.size):W.sameAt W' p:=by
 cases p with
 |cell b off=>exact Qfh (h.block b hp (fun h=>h))
 |map b=>exact h.block b hp (fun h=>h)
theorem Ext.keptBut{W W':World}(h:Ext Qbs W W')(may:MemPlace->Prop):W.keptBut W' may:=by
 refine⟨h.os,h.output,fun i hi=> ?_⟩
 rw[h.block i hi (fun h=>h)]
 cases hh:W.heap[i]? with
 |none=>rfl
 |some o=>cases o with
  |cells c t fr=>exact⟨rfl,rfl,rfl,fun _ _=>rfl⟩
  |map es clock=>exact Or.inr ⟨rfl,rfl⟩
  |_=>rfl
theorem Ext.frozen{W W':World}(h:Ext Qbs W W'){a:Addr}(ha:a.block<W.heap.size):W'.frozen? a=W.frozen? a:=by
 unfold World.frozen?
 rw[h.block _ ha (fun h=>h)]
theorem Qxf(hl:laidOutB P=true)(hm:mapsRowed P=true)(hsz:∀ {t e:TypeId},t<P.types.size->P.underlying t=some (.slice e)->0<P.cellsOf e){W W':World}(hx:Ext Qbs W W')(sp:Nat->Bool):
  ∀ {ts:List TypeId} {vs:List Value} {ds:List (DataW H)} {ps:List MemPlace},(∀t∈ts,t<P.types.size)->DataW.TrodAll enc P W 0 (fun _=>true) true ts vs ds ps->(∀p∈ps,sp p.block=true)->DataW.TrodAll enc P W' 0 sp true ts vs ds ps
 | [],_,_,_,_,h,_=>by
  obtain⟨rfl,rfl,rfl⟩:=trodAll_nil h
  rfl
 |t::ts,_,_,_,hts,h,hs=>by
  obtain⟨v,vs,d,ds,p,q,rfl,rfl,rfl,⟨fuel,h1⟩,h2⟩:=trodAll_cons h
  refine⟨p,q,⟨fuel,?_⟩,Qxf hl hm hsz hx sp (fun t ht=>hts t (by simp[ht])) h2 (fun x hx'=>hs x (by simp[hx'])),rfl⟩
  exact DataW.trod_stays (kids_rows hl hm) hsz (fun h=>by cases h) (hts t (by simp)) h1 (fun x hx'=>hx.sameAt (DataW.trod_lt _ _ _ _ h1 x hx')) (fun x hx'=>hs x (by simp[hx']))
theorem Q0b{f:FuncId}{fn:Func}{s:ChangeSpec}{ap fresh handsOn Qra:Bool}{W:World}{args:Array Value}{ds gs:List (DataW H)}{before:List MemPlace}{pargs:List PV}{tb:TypeId}
  (hW:DataW.Whole enc P fn.params.toList s.vars ap W args.toList ds gs before) (hvars:s.vars=[]) (hres:fn.resultTypes= #[tb]) (htb:P.underlying tb=some .bool)
  (hl:laidOutB P=true) (hm:mapsRowed P=true) (hsz:∀ {t e:TypeId},t<P.types.size->P.underlying t=some (.slice e)->0<P.cellsOf e) (hpar:∀t∈fn.params.toList,t<P.types.size)
  (hfn:s.fn H (ds++gs)={ results:=[.lit (.bool true)],args:=ds })
  (hF:Qd P f pargs (· = .bool true)) (hsize:args.size=pargs.length) (hrep:∀(i:Nat)(x:PV),pargs[i]? =some x->Qas W Qbs x (args.getD i undef)):
  Calls P f args W fun e W'=>∃v,e= .returned v/\s.post enc P fn ap fresh handsOn Qra W args v W':=by
 refine(hF.2 W Qbs args (fun _ h=>h.elim) hsize hrep).mono ?_
 rintro e W' ⟨v,r,rfl,hx,hr,rfl⟩
 have hv:v= .bool true:=by cases hr;rfl
 subst hv
 refine⟨_,rfl,?_⟩
 have hW':=hW
 obtain⟨p,q,hA,hV,rfl,hz,hn⟩:=hW
 rw[hvars]at hV
 obtain⟨rfl,rfl⟩:=trodVars_none hV
 simp only[List.append_nil]at hW' hz hn
 have hlt:∀x∈p,x.block<W.heap.size:=fun x hx'=>by simpa using hW'.lt x hx'
 have hA':∀sp:Nat->Bool,(∀x∈p,sp x.block=true)->DataW.TrodAll enc P W' 0 sp true fn.params.toList args.toList ds p:=fun sp hs=>Qxf hl hm hsz hx sp hpar hA hs
 have hR:∀(b:Nat)(sp:Nat->Bool)(hd:Bool),DataW.TrodAll enc P W' b sp hd fn.resultTypes.toList ((Value.bool true).resultList fn.resultTypes.size) [.lit (.bool true)] []:=fun b sp hd=>by
  rw[hres]
  exact trodAll_mk1 ⟨1,by simp[DataW.trod,Value.cells,htb]⟩
 have hold:∀x∈p,(fun b=>decide (b<W.heap.size)) x.block=true:=fun x hx'=>by simpa using hlt x hx'
 refine⟨ds,[],p,[],p,[],hW',?_,?_,?_,hx.keptBut _,fun _=>⟨?_,?_⟩⟩
 ·rw[hfn];exact hR _ _ _
 ·rw[hfn];simpa using hA' _ hold
 ·rw[hfn,hvars];rfl
 ·exact RowKit.ok_one hres rfl (RowKit.okWide_bool_mk htb _)
 ·refine⟨[.lit (.bool true)]++ds,[],p,⟨[]++p,[],trodAll_append (hA' _ (fun _ _=>rfl)) (hR _ _ _),?_,by simp,?_,?_⟩,?_⟩
  ·rw[hvars];rfl
  ·intro b off hp
   rw[hx.frozen (hlt _ hp)]
   exact hz b off hp
  ·exact hn
  ·intro x hx' _
   exact hx'
end
end Go.FW
namespace Go.FW
open Go
attribute [go_sem ↓] vcs ops1
attribute [go_sem] ops2 ops3 opsE Qaoj Qaok Qaol Qaom Qacs Qact Qars Qart Q5u Qacu Qaii bld0 bld1 bld2 bld3 Q84 Q5w List.drop_succ_cons List.drop_zero List.take_succ_cons List.take_zero List.headD_cons List.cons_append List.nil_append Q83 gv_t gv_c Qacv Qaij Qaik and_true List.length_cons List.length_nil Qan8 Qan9 Qaoa B0 Qah4 Q8b Qaib Qaco Qacp Qacq Qacr Qaic Qan2 Qan3 Qab9 Qaid Qaie Qarl Qan4 Qan5 Qan6 Q8f Qan7 Qany bs1 bs2 Qan0 Qah8 Qah9 Qaia Qan1 Nat.add_zero Qlv Q8c Qqb Int.toNat_natCast Nat.zero_add Option.map_some Option.map_none Qaro Qaof Qarr true_and Q8x Qacg Q8y Qyb Qa3 Qqe Qog Qaif Bool.and_true Bool.true_and Bool.and_false Bool.false_and decide_true decide_false List.contains_cons List.contains_nil Bool.or_false Bool.false_or Bool.or_true Bool.true_or List.any_cons List.any_nil Bool.false_eq_true SOp.dst Qh5 Qaby Qf1 Qob Qah1 Bool.not_true Bool.not_false List.length_map List.map_cons List.map_nil Qarq Option.some.injEq Qgf List.getElem?_cons_zero List.getElem?_cons_succ Option.getD_some
attribute [go_sem] Qaoq Qaor Qais Qait Qaos Qac2 Qarw Q2s Qaoo Qwc
end Go.FW
