/- Part 2 of the proof of TriangularEquation: FwN, FwO, FwP, FwQ, FwR, FwS, FwT, FwU, FwV, FwW, FwX, FwY, FwZ, FwBA, FwBB, FwBC, FwBD, FwBE, FwBF, FwBG, FwBH, FwCA, FwCB, FwCC, FwCD, FwCE, FwCF, FwCG, FwCH, FwCI, FwCJ, FwCK, FwCL, FwMA, FwMB, FwMC, FwPA, FwPB, FwRC, FwRD. Own lemmas; no conditions. -/
import Derived.Test.YtdaldpkjhcfblaaGreatTriangularEquationPart1
import Derived.Deep.RegionHeld3
import Derived.LoopN
import Derived.Maps.AppendAt
import Derived.Deep.AppendSrc
import Derived.OwnWalkIn
set_option maxHeartbeats 1000000
set_option linter.unusedSimpArgs false
set_option linter.unusedVariables false
set_option linter.unnecessarySimpa false
set_option maxRecDepth 100000
namespace Go.FW
open Go
variable {C : Ctx} {ρ : Nat -> Option Nat} {fr : Fr} {hp : HP} {w : World} {a : Act} {K : Qg}
theorem Qabh(h:Q9 C ρ fr hp a.tmps w){s:Nat}(hs:s<C.N):a.tmps[s]? =some (a.tmps.getD s undef):=by
 have:s<a.tmps.size:=by rw[h.sz];exact hs
 simp[Array.getD,this]
theorem Qsd{dr:Bool}{ops:Array Oper}{o:Oper}{g:GOp}(h:Q9 C ρ fr hp a.tmps w)(hc:Qf5 C.P C.N dr ops o=some g)(hv:Qkt C g.g g.o fr hp K):
  (∀d,o.dst=some d->d<C.N)/\g.o=Qa1 C.P dr o/\
  ((Region.wanted o (yielded ops a.tmps)=true/\opV C g.o fr hp K)∨(Region.wanted o (yielded ops a.tmps)=false/\Qej g.o fr hp K)):=by
 unfold Qf5 at hc;split at hc
 ·rename_i hall;have hlt:∀d,o.dst=some d->d<C.N:=fun d hd=>by rw[hd]at hall;simpa using hall
  cases hg:o.guard with
  |none=>rw[hg]at hc;cases hc;exact⟨hlt,rfl,.inl ⟨by simp[Region.wanted,hg],hv⟩⟩
  | some jw=>
   obtain⟨j,want⟩:=jw;rw[hg]at hc;simp only at hc;split at hc
   ·rename_i s hs;split at hc
    ·rename_i hsN;cases hc;refine⟨hlt,rfl,?_⟩;have ht:=Qabh h hsN;have hr:=h.slots s;simp only[Qkt]at hv;split at hv
     ·rename_i t hfs;rw[hfs]at hr;have hb:=hr.bool_inv;have hy:yielded ops a.tmps j=some t:=by simp only[yielded,hs,Option.bind_some,ht,hb]
      have hsame:∀b,t=b->upd fr s (.bool b)=fr:=fun b hb'=>by
       funext i;unfold upd;split
       ·rename_i hi;subst hi;subst hb';exact hfs.symm
       ·rfl
      by_cases hw:t=want
      ·refine .inl ⟨by simp[Region.wanted,hg,hy,hw],?_⟩;have:=hv.1 hw
       rwa[hsame want hw]at this
      ·have hw':t= !want:=by cases t<;>cases want<;>simp_all
       refine .inr ⟨by simp[Region.wanted,hg,hy,hw],?_⟩;have:=hv.2 hw'
       rwa[hsame _ hw']at this
     ·rename_i hfs;rw[hfs]at hr;obtain⟨vs,ev,hsz,_⟩:=hr;have hv0:vs= #[]:=Array.eq_empty_of_size_eq_zero (by simpa using hsz);have hy:yielded ops a.tmps j=none:=by simp only[yielded,hs,Option.bind_some,ht,ev]
      exact .inr ⟨by simp[Region.wanted,hg,hy],hv⟩
     ·exact hv.elim
    ·cases hc
   ·cases hc
 ·cases hc
theorem Q7r{dr:Bool}{o:Oper}:(Qa1 C.P dr o).dst=o.dst:=by
 unfold Qa1;cases hco:Qck C.P dr o with
 |none=>rfl
 | some so=>
  simp only[Option.getD_some];unfold Qck at hco;split at hco
  case h_1 hd=>simp only[Option.map_eq_some_iff]at hco;obtain⟨_,_,rfl⟩:=hco;exact hd.symm
  case h_2 hd=>simp only[Option.map_eq_some_iff]at hco;obtain⟨_,_,rfl⟩:=hco;exact hd.symm
  case h_3 hd=>simp only[Option.bind_eq_some_iff,Option.map_eq_some_iff]at hco;obtain⟨_,_,_,_,_,_,rfl⟩:=hco;exact hd.symm
  case h_4 hd=>simp only[Option.bind_eq_some_iff,Option.map_eq_some_iff]at hco;obtain⟨_,_,_,_,rfl⟩:=hco;unfold Qzp;split<;>first|exact hd.symm|(split<;>exact hd.symm)
  case h_5 hd=>simp only[Option.map_eq_some_iff]at hco;obtain⟨_,_,rfl⟩:=hco;exact hd.symm
  case h_6 hd=>split at hco<;>first|(cases hco;done)|(simp only[Option.map_eq_some_iff]at hco;obtain⟨_,_,rfl⟩:=hco;exact hd.symm)
  case h_7 hd=>
   simp only[Option.bind_eq_some_iff]at hco;obtain⟨_,_,_,_,hco⟩:=hco;split at hco<;>first|(cases hco;done)|(simp only[Option.map_eq_some_iff]at hco;obtain⟨_,_,rfl⟩:=hco;exact hd.symm)
  case h_8 hd=>
   simp only[Option.bind_eq_some_iff]at hco;obtain⟨_,_,_,_,hco⟩:=hco;split at hco<;>first|(cases hco;done)|(simp only[Option.bind_eq_some_iff,Option.map_eq_some_iff]at hco;obtain⟨_,_,_,_,rfl⟩:=hco;exact hd.symm)|(cases hco;exact hd.symm)
  case h_9 hd=>
   simp only[Option.bind_eq_some_iff]at hco;obtain⟨_,_,hco⟩:=hco;split at hco
   ·simp only[Option.bind_eq_some_iff]at hco;obtain⟨_,_,_,_,hco⟩:=hco;split at hco<;>first|(cases hco;done)|(simp only[Option.some.injEq]at hco;subst hco;exact hd.symm)
   ·cases hco
  case h_10 hd=>
   simp only[Option.bind_eq_some_iff]at hco;obtain⟨_,_,hco⟩:=hco;split at hco<;>first|(cases hco;done)|(simp only[Option.bind_eq_some_iff,Option.map_eq_some_iff]at hco;obtain⟨_,_,_,_,_,_,rfl⟩:=hco;exact hd.symm)
  case h_11 hd=>simp only[Option.bind_eq_some_iff,Option.map_eq_some_iff]at hco;obtain⟨_,_,_,_,_,_,rfl⟩:=hco;exact hd.symm
  case h_12 hd=>simp only[Option.bind_eq_some_iff,Option.map_eq_some_iff]at hco;obtain⟨_,_,_,_,_,_,rfl⟩:=hco;exact hd.symm
  case h_13 hd=>simp only[Option.bind_eq_some_iff,Option.map_eq_some_iff]at hco;obtain⟨_,_,_,_,rfl⟩:=hco;exact hd.symm
  case h_14 hd=>simp only[Option.map_eq_some_iff]at hco;obtain⟨_,_,rfl⟩:=hco;exact hd.symm
  case h_15 hd=>simp only[Option.bind_eq_some_iff,Option.map_eq_some_iff]at hco;obtain⟨_,_,_,_,_,_,_,_,rfl⟩:=hco;exact hd.symm
  case h_16 hd=>
   simp only[Option.bind_eq_some_iff]at hco;obtain⟨_,_,_,_,hco⟩:=hco;split at hco
   ·simp only[Option.map_eq_some_iff]at hco;obtain⟨_,_,rfl⟩:=hco;exact hd.symm
   ·cases hco
  case h_17 hd=>simp only[Option.bind_eq_some_iff,Option.map_eq_some_iff]at hco;obtain⟨_,_,_,_,rfl⟩:=hco;exact hd.symm
  case h_18 hd=>simp only[Option.bind_eq_some_iff,Option.map_eq_some_iff]at hco;obtain⟨_,_,_,_,_,_,_,_,_,_,_,_,rfl⟩:=hco;exact hd.symm
  case h_19 hd=>simp only[Option.map_eq_some_iff]at hco;obtain⟨_,_,rfl⟩:=hco;exact hd.symm
  case h_20 hd=>simp only[Option.bind_eq_some_iff,Option.map_eq_some_iff]at hco;obtain⟨_,_,_,_,rfl⟩:=hco;exact hd.symm
  case h_21=>simp only[Option.map_eq_some_iff]at hco;obtain⟨_,_,rfl⟩:=hco;rfl
  case h_22=>
   split at hco
   ·simp only[Option.bind_eq_some_iff,Option.map_eq_some_iff]at hco;obtain⟨_,_,_,_,rfl⟩:=hco;rfl
   ·rename_i hd;split at hco
    ·simp only[Option.map_eq_some_iff]at hco;obtain⟨_,_,rfl⟩:=hco;exact hd.symm
    ·simp only[Option.bind_eq_some_iff,Option.map_eq_some_iff]at hco;obtain⟨_,_,_,_,rfl⟩:=hco;exact hd.symm
   ·rename_i hd;simp only[Option.bind_eq_some_iff,Option.map_eq_some_iff]at hco;obtain⟨_,_,_,_,rfl⟩:=hco;exact hd.symm
   ·rename_i hd;simp only[Option.bind_eq_some_iff,Option.map_eq_some_iff]at hco;obtain⟨_,_,_,_,rfl⟩:=hco;exact hd.symm
   ·rename_i hd;simp only[Option.bind_eq_some_iff]at hco;obtain⟨_,_,_,_,_,_,hco⟩:=hco;split at hco
    ·simp only[Option.bind_eq_some_iff]at hco;obtain⟨_,_,hco⟩:=hco;split at hco
     ·cases hco;exact hd.symm
     ·cases hco
    ·cases hco
   ·rename_i hd;simp only[Option.bind_eq_some_iff]at hco;obtain⟨_,_,_,_,_,_,hco⟩:=hco;split at hco
    ·simp only[Option.map_eq_some_iff]at hco;obtain⟨_,_,rfl⟩:=hco;exact hd.symm
    ·cases hco
   ·cases hco
  case h_23=>cases hco
theorem Q47{dr two:Bool}{o:Oper}(hlt:∀d,o.dst=some d->d<C.N)(hdef:a.defers=[])(h:Q9 C ρ fr hp a.tmps w)(hv:Qej (Qa1 C.P dr o) fr hp K):Qa3 C two w K (a.put o.dst undef) w:=by
 unfold Qej at hv;rw[Q7r]at hv;cases hd:o.dst with
 |some d=>rw[hd]at hv;exact⟨hdef,⟨_,hp,⟨ρ,h.upd Qr.tup0 (hlt d hd)⟩,hv⟩,fun _=>Ext.refl _ _⟩
 |none=>rw[hd]at hv;exact⟨hdef,⟨fr,hp,⟨ρ,h⟩,hv⟩,fun _=>Ext.refl _ _⟩
theorem Quc{dr:Bool}{ops:Array Oper}{i:Nat}{o:Oper}{g:GOp}{Q:Exit->Act->World->Prop}(hi:ops[i]? =some o)(hdef:a.defers=[])(h:Q9 C ρ fr hp a.tmps w)(hc:Qf5 C.P C.N dr ops o=some g)(hv:Qkt C g.g g.o fr hp K):
  wpOp C.P ops Q i (Qa3 C (!(Qa1 C.P dr o).brk) w K) a w:=by
 obtain⟨hlt,hgo,hcase⟩:=Qsd h hc hv;rw[hgo]at hcase;unfold wpOp;simp only[hi];rcases hcase with⟨hw,hv⟩|⟨hw,hv⟩
 ·rw[if_pos hw];exact .inl (Qabg hlt hdef h hv)
 ·rw[hw];simp only[Bool.false_eq_true,if_false];exact Q47 hlt hdef h hv
def Q48(C:Ctx)(K:Qg)(Q:Exit->Act->World->Prop):Prop:=∀fr hp (a:Act) w,a.defers=[]->Sim C fr hp a.tmps w->K fr hp->Q .normal a w
theorem Qqd{C:Ctx}{R:Qg}{sk:List It}{fr:Fr}{hp:HP}:vc C R (.o .nil::sk) fr hp=vc C R sk fr hp:=by rw[vc]
theorem Qud{C:Ctx}{R:Qg}{sk:List It}{g:Option (Nat×Bool)}{o:SOp}{r:RT}{fr:Fr}{hp:HP}:vc C R (.o (.o g o r)::sk) fr hp=Qkt C g o fr hp (vc C R (.o r::sk)):=by rw[vc]
theorem Qagq{C:Ctx}{R:Qg}{sk:List It}{x y:RT}{fr:Fr}{hp:HP}:vc C R (.o (.br x y)::sk) fr hp=(vc C R (.o x::sk) fr hp/\vc C R (.o y::sk) fr hp):=by rw[vc]
theorem Que{C:Ctx}{R:Qg}{sk:List It}{r:RT}{fr:Fr}{hp:HP}:vc C R (.o (.wk r)::sk) fr hp=∃fr0 hp0,Wk fr hp fr0 hp0/\vc C R (.o r::sk) fr0 hp0:=by rw[vc]
theorem Qlk{C:Ctx}{R:Qg}{sk:List It}{tmps:Array Value}{w:World}:∀(r:RT)(fr:Fr)(hp:HP),Sim C fr hp tmps w->vc C R (.o r::sk) fr hp->
  ∃r' fr' hp',r'.strip=r.strip/\(∀x,r'≠ .wk x)/\Sim C fr' hp' tmps w/\vc C R (.o r'::sk) fr' hp':=by
 intro r;induction r with
 |wk r ih=>intro fr hp hs hv;rw[Que]at hv;obtain⟨fr0,hp0,hw,hv⟩:=hv;exact ih fr0 hp0 (hw _ _ _ hs) hv
 |nil=>exact fun fr hp hs hv=>⟨_,fr,hp,rfl,(fun x h=>by cases h),hs,hv⟩
 |o=>exact fun fr hp hs hv=>⟨_,fr,hp,rfl,(fun x h=>by cases h),hs,hv⟩
 |br=>exact fun fr hp hs hv=>⟨_,fr,hp,rfl,(fun x h=>by cases h),hs,hv⟩
theorem Qxq{r:RT}(h:r.strip= .nil)(hn:∀x,r≠ .wk x):r= .nil:=by
 cases r with
 |nil=>rfl
 |wk x=>exact absurd rfl (hn x)
 |_=>simp[RT.strip]at h
theorem Qwm{r s:RT}{g:Option (Nat×Bool)}{o:SOp}(h:r.strip= .o g o s)(hn:∀x,r≠ .wk x):∃r',r= .o g o r'/\r'.strip=s:=by
 cases r with
 |o g' o' r'=>simp only[RT.strip,RT.o.injEq]at h;obtain⟨rfl,rfl,h⟩:=h;exact⟨r',rfl,h⟩
 |wk x=>exact absurd rfl (hn x)
 |_=>simp[RT.strip]at h
theorem Qabi{r a b:RT}(h:r.strip= .br a b)(hn:∀x,r≠ .wk x):∃a' b',r= .br a' b'/\a'.strip=a/\b'.strip=b:=by
 cases r with
 |br a' b'=>simp only[RT.strip,RT.br.injEq]at h;exact⟨a',b',rfl,h.1,h.2⟩
 |wk x=>exact absurd rfl (hn x)
 |_=>simp[RT.strip]at h
theorem Quf{R:Qg}{sk:List It}{ops:Array Oper}{Q:Exit->Act->World->Prop}(hQ:Q48 C (vc C R sk) Q):∀(gs:List GOp)(is:List Nat)(r:RT)(fr:Fr)(hp:HP)(a:Act)(w:World),
  is.length=gs.length->(∀(k i:Nat)(g:GOp),is[k]? =some i->gs[k]? =some g->∃o,ops[i]? =some o/\Qf5 C.P C.N false ops o=some g)->
  a.defers=[]->Sim C fr hp a.tmps w->r.strip=Qwb gs->vc C R (.o r::sk) fr hp->wpOps C.P ops Q is a w
 | [],[],r,fr,hp,a,w,_,_,hdef,hs,hr,hv=>by obtain⟨r',fr',hp',h1,h2,hs,hv⟩:=Qlk r fr hp hs hv;obtain rfl:=Qxq (h1.trans hr) h2;rw[Qqd]at hv;exact hQ fr' hp' a w hdef hs hv
 | [],i::is,_,_,_,_,_,hl,_,_,_,_,_=>by simp at hl
 |g::gs,[],_,_,_,_,_,hl,_,_,_,_,_=>by simp at hl
 |g::gs,i::is,r,fr,hp,a,w,hl,hc,hdef,hs,hr,hv=>by obtain⟨o,ho,hco⟩:=hc 0 i g rfl rfl;obtain⟨r',fr',hp',h1,h2,⟨ρ,hs⟩,hv⟩:=Qlk r fr hp hs hv;obtain⟨r2,rfl,hr2⟩:=Qwm (h1.trans hr) h2;rw[Qud]at hv;rw[wpOps_cons];refine wpOp_mono (fun a' w' hA=>?_) (Quc ho hdef hs hco hv);obtain⟨hd',⟨fr',hp',hs',hv'⟩,_⟩:=hA;exact Quf hQ gs is r2 fr' hp' a' w' (by simpa using hl) (fun k j g' h1 h2=>hc (k+1) j g' (by simpa using h1) (by simpa using h2)) hd' hs' hr2 hv'
end Go.FW
namespace Go.FW
open Go
section
variable {P : Program} {ops : Array Oper} {Q : Exit -> Act -> World -> Prop}
def Qlz(P:Program)(ops:Array Oper)(Q:Exit->Act->World->Prop)(brk:Nat->Bool):Nat->Array Bool->Act->World->Prop
 |0,listed,a,w=>Region.ready .any ops listed=[]/\Q .normal a w
 |fuel+1,listed,a,w=>
  (Region.ready .any ops listed=[]->Q .normal a w)/\
  ∀i∈Region.ready .any ops listed,wpOp P ops Q i (fun a' w'=>(brk i=false->Ext Qaw w w')/\Qlz P ops Q brk fuel (listed.setIfInBounds i true) a' w') a w
theorem Qoi(brk:Nat->Bool):∀(fuel:Nat)(listed:Array Bool)(a:Act)(w:World),Qlz P ops Q brk fuel listed a w->wpAny P .any ops Q fuel listed a w
 |0,_,_,_,h=>h
 |fuel+1,_,_,_,h=>⟨h.1,fun i hi=>wpOp_mono (fun a' w' h'=>Qoi brk fuel _ a' w' h'.2) (h.2 i hi)⟩
def YF(P:Program)(ops:Array Oper)(all:Bool)(o:Oper)(v:Value)(a:Act)(w:World):Prop:=
 (Region.wanted o (yielded ops a.tmps)=true/\∀w',(all=true∨Ext Qaw w w')->(execOp a.eval o).run P w'= .ok (.value v) w')∨
 (Region.wanted o (yielded ops a.tmps)=false/\v=undef)
theorem YF.step{all:Bool}{o:Oper}{v:Value}{a a':Act}{w w':World}(hy:YF P ops all o v a w)(he:execOp a'.eval o=execOp a.eval o)
  (hw:Region.wanted o (yielded ops a'.tmps)=Region.wanted o (yielded ops a.tmps)) (hx:all=true∨Ext Qaw w w'):YF P ops all o v a' w':=by
 unfold YF at *
 rw[he,hw];rcases hy with⟨h1,h2⟩|h
 ·refine .inl ⟨h1,fun w2 h3=>h2 w2 ?_⟩;rcases hx with hx|hx
  ·exact .inl hx
  ·rcases h3 with h3|h3
   ·exact .inl h3
   ·exact .inr (hx.trans h3)
 ·exact .inr h
theorem YF.wpOp{all:Bool}{i:Nat}{o:Oper}{v:Value}{a:Act}{w:World}(hi:ops[i]? =some o)(hy:YF P ops all o v a w)
  {K:Act->World->Prop} (h:K (a.put o.dst v) w):Go.wpOp P ops Q i K a w:=by
 unfold Go.wpOp;simp only[hi];rcases hy with⟨hw,hv⟩|⟨hw,rfl⟩
 ·simp only[hw,if_true,Oper.wp,hv w (.inr (Ext.refl _ _)),Oper.upon];exact .inl h
 ·simp only[hw,Bool.false_eq_true,if_false];exact h
theorem Q7s{j:Nat}{oi oj:Oper}{v:Value}(hj:ops[j]? =some oj)(hap:oi.apart ops oj=true)
  (hsi:∀cs b,oi.op≠ .select cs b) (hsj:∀cs b,oj.op≠ .select cs b)
  (hQ:∀c a w,Q (.panic c) (a.put oi.dst v) w->Q (.panic c) a w) {K:Act->World->Prop} {a:Act} {w:World}
  (h:Go.wpOp P ops Q j K (a.put oi.dst v) w):
  Go.wpOp P ops Q j (fun a' w'=>(execOp a'.eval oi=execOp a.eval oi/\Region.wanted oi (yielded ops a'.tmps)=Region.wanted oi (yielded ops a.tmps))/\K (a'.put oi.dst v) w') a w:=by
 obtain⟨h1,h2,h3⟩:=Oper.apart_spec hap;have keep:∀u,execOp (a.put oj.dst u).eval oi=execOp a.eval oi/\Region.wanted oi (yielded ops (a.put oj.dst u).tmps)=Region.wanted oi (yielded ops a.tmps):=fun u=>
  ⟨execOp_put oi hsi a oj.dst u h3,wanted_put oi a oj.dst u h3⟩
 have keepD:∀d u,execOp (({ a with defers:=d::a.defers }:Act).put oj.dst u).eval oi=execOp a.eval oi/\Region.wanted oi (yielded ops (({ a with defers:=d::a.defers }:Act).put oj.dst u).tmps)=Region.wanted oi (yielded ops a.tmps):=fun d u=>
  ⟨(execOp_put oi hsi ({ a with defers:=d::a.defers }:Act) oj.dst u h3).trans rfl,(wanted_put oi ({ a with defers:=d::a.defers }:Act) oj.dst u h3).trans rfl⟩
 unfold Go.wpOp at *
 simp only[hj]at *
 rw[wanted_put oj a oi.dst v h1]at h;split
 ·rename_i hw;simp only[hw,if_true]at h;rcases h with h|⟨hasks,hlets⟩
  case inr=>exact .inr ⟨by unfold Oper.asks at *;rw[execOp_put oj hsj a oi.dst v h1]at hasks;exact hasks,hlets⟩
  refine .inl ?_;unfold Oper.wp at *
  rw[execOp_put oj hsj a oi.dst v h1]at h;generalize(execOp a.eval oj).run P w=r at *
  cases r with
  | ok n w'=>
   cases n<;>simp only[Oper.upon]at h⊢
   case value u=>exact⟨keep u,by rw[<-Act.put_comm a v u h2];exact h⟩
   case skip=>exact⟨keep _,by rw[<-Act.put_comm a v undef h2];exact h⟩
   case defer d=>
    refine⟨keepD d _,?_⟩;rw[<-Act.put_comm _ v undef h2,<-Act.put_defers];exact h
   case enter f args=>
    refine Calls.mono h fun e w'' he=>?_;cases e with
    |returned u=>exact⟨keep u,by rw[<-Act.put_comm a v u h2];exact he⟩
    |panicked c=>exact hQ _ _ _ he
    |outgrown=>exact he
   case row row args=>exact Rows.mono h fun u w'' he=>⟨keep u,by rw[<-Act.put_comm a v u h2];exact he⟩
  |halt x w'=>
   cases x<;>simp only[Oper.upon]at h⊢
   case panic u=>exact hQ _ _ _ h
 ·rename_i hw;simp only[hw]at h;exact⟨keep _,by rw[<-Act.put_comm a v undef h2];exact h⟩
def Ql0(ops:Array Oper)(listed:Array Bool):Prop:=∀(j:Nat)(o:Oper),ops[j]? =some o->listed.getD j false=true->∀e∈o.after,Region.binds .any e=true->listed.getD e.on false=true
theorem Ql0.step{listed:Array Bool}{i:Nat}(h:Ql0 ops listed)(hi:i∈Region.ready .any ops listed):Ql0 ops (listed.setIfInBounds i true):=by
 intro j o hj hl e he hb;obtain⟨h0,oi,hoi,hall⟩:=mem_ready.1 hi;by_cases hij:i=j
 ·subst hij;rw[hj]at hoi;cases hoi;exact getD_set_true (hall e he hb)
 ·rw[getD_set_ne false hij]at hl;exact getD_set_true (h j o hj hl e he hb)
theorem Qmr{listed:Array Bool}{i:Nat}(hd:Ql0 ops listed):∀(n k:Nat),listed.getD k false=true->Qfl ops n i k=true->listed.getD i false=true
 |0,_,_,h=>by simp[Qfl]at h
 | n+1,k,hk,h=>by
  unfold Qfl at h;cases ho:ops[k]? with
  |none=>simp[ho]at h
  |some o=>
   simp only[ho,List.any_eq_true,Bool.and_eq_true,Bool.or_eq_true,beq_iff_eq]at h;obtain⟨e,he,hb,h⟩:=h;have hl:=hd k o ho hk e (by simpa using he) hb;rcases h with h|h
   ·rw[<-h];exact hl
   ·exact Qmr hd n e.on hl h
theorem Qwn{listed:Array Bool}{i j n:Nat}(hd:Ql0 ops listed)(hj:j∈Region.ready .any ops listed)(h:Qfl ops n i j=true):listed.getD i false=true:=by
 obtain⟨_,o,ho,hall⟩:=mem_ready.1 hj;cases n with
 |zero=>simp[Qfl]at h
 |succ n=>
  unfold Qfl at h;simp only[ho,List.any_eq_true,Bool.and_eq_true,Bool.or_eq_true,beq_iff_eq]at h;obtain⟨e,he,hb,h⟩:=h;have hl:=hall e (by simpa using he) hb;rcases h with h|h
  ·rw[<-h];exact hl
  ·exact Qmr hd n e.on hl h
theorem Q7t{listed:Array Bool}{i:Nat}(h0:listed.getD i true=false):¬listed.getD i false=true:=by
 intro h1;rcases Nat.lt_or_ge i listed.size with h'|h'
 ·simp[h']at h0 h1;rw[h0]at h1;cases h1
 ·simp[Array.getElem?_eq_none h']at h1
theorem Qz7{brk:Nat->Bool}{all:Bool}{i:Nat}{oi:Oper}{v:Value}(hi:ops[i]? =some oi)(hsel:∀(j:Nat)(o:Oper) cs b,ops[j]? =some o->o.op≠ .select cs b)
  (hQ:∀c a w,Q (.panic c) (a.put oi.dst v) w->Q (.panic c) a w)
  (hpre:all=true∨∀j,brk j=true->j<ops.size->Qfl ops ops.size i j=true∨j=i):
  ∀(fuel:Nat)(listed:Array Bool)(a:Act)(w:World),Ql0 ops listed->
   (∀j oj,ops[j]? =some oj->j≠i->listed.getD j true=false->(∀e∈oj.after,Region.binds .any e=true->e.on≠i)->oi.apart ops oj=true)->
   i∈Region.ready .any ops listed->YF P ops all oi v a w->
   Qlz P ops Q brk fuel (listed.setIfInBounds i true) (a.put oi.dst v) w->Qlz P ops Q brk (fuel+1) listed a w:=by
 intro fuel;induction fuel with
 | zero=>
  intro listed a w _ _ hr hy H;refine⟨fun h=>(by rw[h]at hr;cases hr),fun j hj=>?_⟩;by_cases hji:j=i
  ·subst hji;exact hy.wpOp hi ⟨fun _=>Ext.refl _ _,H⟩
  ·have:=ready_mono hj hji;rw[H.1]at this;cases this
 | succ fuel ih=>
  intro listed a w hdown hfree hr hy H;refine⟨fun h=>(by rw[h]at hr;cases hr),fun j hj=>?_⟩;by_cases hji:j=i
  ·subst hji;exact hy.wpOp hi ⟨fun _=>Ext.refl _ _,H⟩
  ·have h1:=H.2 j (ready_mono hj hji);obtain⟨hjun,oj,hoj,hall⟩:=mem_ready.1 hj;have hiun:¬listed.getD i false=true:=Q7t (mem_ready.1 hr).1;have hnot:∀e∈oj.after,Region.binds .any e=true->e.on≠i:=fun e he hb heq=>hiun (heq▸hall e he hb);have h2:=Q7s hoj (hfree j oj hoj hji hjun hnot) (fun cs b=>hsel i oi cs b hi) (fun cs b=>hsel j oj cs b hoj) hQ h1;have hbrk:all=true∨brk j=false:=by
    rcases hpre with h|h
    ·exact .inl h
    ·cases hb:brk j with
     |false=>exact .inr rfl
     |true=>
      have hjlt:j<ops.size:=(Array.getElem?_eq_some_iff.1 hoj).1;rcases h j hb hjlt with h|h
      ·exact absurd (Qwn hdown hj h) hiun
      ·exact absurd h hji
   have hfree':∀k ok,ops[k]? =some ok->k≠i->(listed.setIfInBounds j true).getD k true=false->
     (∀e∈ok.after,Region.binds .any e=true->e.on≠i)->oi.apart ops ok=true:=fun k ok hk hki hun hno=>by
    refine hfree k ok hk hki ?_ hno;by_cases hjk:j=k
    ·subst hjk;exact hjun
    ·rw[getD_set_ne true hjk]at hun;exact hun
   refine wpOp_mono (fun a' w' h3=>?_) h2;obtain⟨⟨he,hw⟩,hx,hrest⟩:=h3;refine⟨hx,ih (listed.setIfInBounds j true) a' w' (hdown.step hj) hfree' (ready_mono hr (Ne.symm hji)) (hy.step he hw ?_) ?_⟩
   ·rcases hbrk with h|h
    ·exact .inl h
    ·exact .inr (hx h)
   ·rw[Array.setIfInBounds_comm _ _ hji];exact hrest
end
section
variable {C : Ctx} {ρ : Nat -> Option Nat} {fr : Fr} {hp : HP} {w : World} {a : Act} {K : Qg}
theorem Qqe{dr:Bool}{o:Oper}(hlt:∀d,o.dst=some d->d<C.N)(h:Q9 C ρ fr hp a.tmps w)(hv:Qej (Qa1 C.P dr o) fr hp K):∃fr' hp',Q9 C ρ fr' hp' (a.put o.dst undef).tmps w/\K fr' hp':=by
 unfold Qej at hv;rw[Q7r]at hv;cases hd:o.dst with
 |some d=>rw[hd]at hv;exact⟨_,hp,h.upd Qr.tup0 (hlt d hd),hv⟩
 |none=>rw[hd]at hv;exact⟨fr,hp,h,hv⟩
theorem Qalk{P:Program}{dr:Bool}{o:Oper}:(Qa1 P dr o).cls=(Qa1 P true o).cls:=by
 cases dr with
 |true=>rfl
 | false=>
  have h0:(Qck P false o).map SOp.cls=(Qck P true o).map SOp.cls:=by
   unfold Qck;split<;>first|rfl|skip
   split<;>first|rfl|skip
   rename_i f _;cases h1:opd f with
   |none=>simp
   |some pf=>simp only[Option.bind_some,Option.map_map];congr 1
  unfold Qa1;cases h1:Qck P false o<;>cases h2:Qck P true o<;>simp_all[SOp.cls]
theorem Qqf {dr:Bool} {R:Qg} {sk:List It} {ops:Array Oper} {Q:Exit->Act->World->Prop} (hns:Region.noSelect ops=true) (hQ:Q48 C (vc C R sk) Q):∀(n:Nat) (listed:Array Bool) (r:RT) (fr:Fr) (hp:HP) (a:Act) (w:World),
  Qg0 C.P C.N dr ops n listed=some r.strip->Ql0 ops listed->a.defers=[]->Sim C fr hp a.tmps w->vc C R (.o r::sk) fr hp->
  Qlz C.P ops (NoPanic Q) (Qrq C.P dr ops) n listed a w:=by
 intro n;have done:∀(n:Nat)(listed:Array Bool)(r:RT)(fr:Fr)(hp:HP)(a:Act)(w:World),Region.ready .any ops listed=[]->a.defers=[]->Sim C fr hp a.tmps w->r.strip= .nil->vc C R (.o r::sk) fr hp->Qlz C.P ops (NoPanic Q) (Qrq C.P dr ops) n listed a w:=by
  intro n listed r fr hp a w hr hdef hs hr0 hv;obtain⟨r',fr,hp,h1,h2,hs,hv⟩:=Qlk r fr hp hs hv;obtain rfl:=Qxq (h1.trans hr0) h2;rw[Qqd]at hv;have hq:NoPanic Q .normal a w:=hQ fr hp a w hdef hs hv;cases n with
  |zero=>exact⟨hr,hq⟩
  |succ n=>exact⟨fun _=>hq,by rw[hr];simp⟩
 induction n with
 | zero=>
  intro listed r fr hp a w ho hd hdef hs hv;unfold Qg0 at ho;split at ho
  ·rename_i hr;exact done 0 listed r fr hp a w (by simpa using hr) hdef hs (Option.some.inj ho).symm hv
  ·cases ho
 | succ n ih=>
  intro listed r fr hp a w ho hd hdef hs hv;unfold Qg0 at ho;split at ho
  ·rename_i hr;exact done (n+1) listed r fr hp a w (by simpa using hr) hdef hs (Option.some.inj ho).symm hv
  ·rename_i hr;obtain⟨r',fr,hp,e1,e2,hs,hv⟩:=Qlk r fr hp hs hv;rw[<-e1]at ho;split at ho
   ·rename_i i hfind;have hstep:=List.find?_some hfind;simp only[Option.bind_eq_some_iff,Option.map_eq_some_iff]at ho;obtain⟨g,⟨o,hoi,hcg⟩,r0,hr',he0⟩:=ho;obtain⟨r',rfl,rfl⟩:=Qwm he0.symm e2;unfold Qzq at hstep;simp only[Bool.and_eq_true,List.contains_iff_mem]at hstep;obtain⟨⟨hready,hfree⟩,hcls⟩:=hstep;have hca:Qmm C.P ops i=(Qa1 C.P dr o).cls:=by rw[Qalk];simp[Qmm,hoi]
    rw[Qud]at hv;obtain⟨ρ,hsr⟩:=hs;obtain⟨hlt,hgo,hcase⟩:=Qsd hsr hcg hv;rw[hgo]at hcase;have hpre:∀all:Bool,(all=false->Qmm C.P ops i=1)->all=true∨∀j,Qrq C.P dr ops j=true->j<ops.size->Qfl ops ops.size i j=true∨j=i:=by
     intro all hall;cases all with
     |true=>exact .inl rfl
     |false=>
      refine .inr fun j hj hjl=>?_;rw[hall rfl]at hcls;have:=List.all_eq_true.1 hcls j (by simpa using hjl);simp only[Bool.or_eq_true,Bool.not_eq_true']at this;rcases this with h|h
      ·rw[hj]at h;cases h
      ·exact .inl h
    have fin:∀(all:Bool)(v:Value),(all=false->Qmm C.P ops i=1)->YF C.P ops all o v a w->(∃fr' hp',Q9 C ρ fr' hp' (a.put o.dst v).tmps w/\vc C R (.o r'::sk) fr' hp')->Qlz C.P ops (NoPanic Q) (Qrq C.P dr ops) (n+1) listed a w:=by
     intro all v hall hy ⟨fr',hp',hs',hv'⟩;exact Qz7 hoi (Region.noSelect_spec hns) (fun _ _ _ h=>h) (hpre all hall) n listed a w hd (Region.free_spec hoi hfree) hready hy
      (ih _ r' fr' hp' _ w hr' (hd.step hready) (by rw[Qfn];exact hdef) ⟨ρ,hs'⟩ hv')
    rcases hcase with⟨hw,hv⟩|⟨hw,hv⟩
    ·by_cases h0:Qmm C.P ops i=0
     ·obtain⟨v,hrun,hrest⟩:=Qua (by rw[<-hca];exact h0) hlt hsr hv;exact fin true v (by simp) (.inl ⟨hw,fun w' _=>hrun w'⟩) hrest
     ·by_cases h1:Qmm C.P ops i=1
      ·obtain⟨v,b,hb,hrun,hrest⟩:=Qub (by rw[<-hca];exact h1) hlt hsr hv;exact fin false v (fun _=>h1) (.inl ⟨hw,fun w' hw'=>hrun w' (hw'.elim (fun h=>by cases h) (fun h=>h.block b hb (fun h=>h)))⟩) hrest
      ·split at hcls
       ·rename_i h;exact absurd h h0
       ·rename_i h;exact absurd h h1
       ·cases hcls
    ·by_cases h1:Qmm C.P ops i=1
     ·exact fin false undef (fun _=>h1) (.inr ⟨hw,rfl⟩) (Qqe hlt hsr hv)
     ·exact fin true undef (by simp) (.inr ⟨hw,rfl⟩) (Qqe hlt hsr hv)
   ·
    simp only[Option.map_eq_some_iff]at ho;obtain⟨rs,hrs,he0⟩:=ho;obtain⟨m1,m2⟩:=Qdq hrs;have hbr:∀(rs:List RT) (r':RT) (fr:Fr) (hp:HP),r'.strip=brs rs->Sim C fr hp a.tmps w->vc C R (.o r'::sk) fr hp->∀r∈rs,∃r2 fr2 hp2,r2.strip=r/\(∀x,r2≠ .wk x)/\Sim C fr2 hp2 a.tmps w/\vc C R (.o r2::sk) fr2 hp2:=by
     intro rs;induction rs with
     |nil=>intro _ _ _ _ _ _ r hr;cases hr
     | cons x xs ihx=>
      intro r' fr hp hr' hs hv r hr;obtain⟨r2,fr2,hp2,f1,f2,hs,hv⟩:=Qlk r' fr hp hs hv;cases xs with
      |nil=>simp at hr;subst hr;exact⟨r2,fr2,hp2,f1.trans hr',f2,hs,hv⟩
      | cons y ys=>
       rw[brs]at hr'
       ·obtain⟨a',b',rfl,g1,g2⟩:=Qabi (f1.trans hr') f2;rw[Qagq]at hv;rcases List.mem_cons.1 hr with rfl|hr
        ·obtain⟨r3,fr3,hp3,k1,k2,k3,k4⟩:=Qlk a' fr2 hp2 hs hv.1;exact⟨r3,fr3,hp3,k1.trans g1,k2,k3,k4⟩
        ·exact ihx b' fr2 hp2 g2 hs hv.2 r hr
       ·simp
    refine⟨fun h0=>absurd (by rw[h0];rfl) hr,fun i hi=>?_⟩;obtain⟨k,hk⟩:=List.getElem?_of_mem hi;have hkl:k<rs.length:=by rw[m1];exact(List.getElem?_eq_some_iff.1 hk).1
    obtain⟨i',hi',hf⟩:=m2 k _ (List.getElem?_eq_getElem hkl);rw[hk]at hi';cases hi';simp only[Option.bind_eq_some_iff,Option.map_eq_some_iff]at hf;obtain⟨g,⟨o,hoi,hcg⟩,r0,hr',he⟩:=hf;obtain⟨r2,fr2,hp2,f1,f2,hs,hv'⟩:=hbr rs r' fr hp he0.symm hs hv _ (List.getElem_mem hkl);obtain⟨r',rfl,rfl⟩:=Qwm (f1.trans he.symm) f2;rw[Qud]at hv';obtain⟨ρ,hsr⟩:=hs;refine wpOp_mono (fun a' w' hA=>?_) (Quc hoi hdef hsr hcg hv');obtain⟨hd',⟨fr',hp',hs',hv2⟩,hx⟩:=hA;refine⟨fun hb=>hx ?_,ih _ r' fr' hp' a' w' hr' (hd.step hi) hd' hs' hv2⟩;simpa[Qrq,hoi]using hb
theorem Sim.drew{tmps:Array Value}(h:Sim C fr hp tmps w):Sim C fr hp tmps { w with drawn:=w.drawn+1 }:=by obtain⟨ρ,hs⟩:=h;exact⟨ρ,hs.grow (Ext.drew w _)⟩
theorem Ql0.start(ops:Array Oper):Ql0 ops (Array.replicate ops.size false):=by intro j o _ hl;exfalso;simp[Array.getD]at hl
theorem Qtb{s:SC}{r:RT}(h:s.strip= .rg r):∃r',s= .rg r'/\r'.strip=r:=by
 cases s with
 |rg r'=>simp only[SC.strip,SC.rg.injEq]at h;exact⟨r',rfl,h⟩
 |_=>simp[SC.strip]at h
theorem Qz8{R:Qg}{sk:List It}{ops:Array Oper}{draw:Bool}{id:Nat}{s:SC}{Q:Exit->Act->World->Prop}(hm:C.P.follows .mixedOrders=true)(hQ:Q48 C (vc C R sk) Q)
  (hc:Qlt C.P C.N ops draw=some s.strip) (hdef:a.defers=[]) (hs:Sim C fr hp a.tmps w) (hv:vc C R (.c s::sk) fr hp):(Code.region id ops draw).wp C.P Q a w:=by
 unfold Qlt at hc;split at hc
 ·rename_i hd;subst hd;split at hc
  ·rename_i hns;have key:∀(dr:Bool)(most:Nat)(s:SC),Qls C.P C.N ops dr most=some s.strip->vc C R (.c s::sk) fr hp->(Code.region id ops true).wp C.P Q a w:=by
    intro dr most s hc hv;unfold Qls at hc;split at hc
    ·cases hc
    split at hc
    ·rename_i r0 hr;split at hc
     ·obtain⟨r,rfl,rfl⟩:=Qtb (Option.some.inj hc).symm;rw[vc]at hv;exact wp_region_noPanic (wp_region_any hm (Qoi _ _ _ _ _ (Qqf hns hQ _ _ r fr hp a _ hr (Ql0.start ops) hdef hs.drew hv)))
     ·cases hc
    ·cases hc
   split at hc
   ·rename_i s' hs';cases hc;split at hs'
    ·simp only[Option.map_eq_some_iff]at hs';obtain⟨r0,hr,he⟩:=hs';obtain⟨r,rfl,rfl⟩:=Qtb he.symm;rw[vc]at hv;exact wp_region_noPanic (wp_region_any hm (Qoi _ _ _ _ _ (Qqf hns hQ _ _ r fr hp a _ (Qhc _ _ _ hr) (Ql0.start ops) hdef hs.drew hv)))
    ·cases hs'
   ·exact key _ _ _ hc hv
  ·cases hc
 ·rename_i hd;have hdf:draw=false:=by simpa using hd
  subst hdf;simp only[Option.map_eq_some_iff]at hc;obtain⟨gs,hgs,he⟩:=hc;obtain⟨r,rfl,hr⟩:=Qtb he.symm;rw[vc]at hv;obtain⟨m1,m2⟩:=Qdq hgs;refine wp_region (Quf hQ gs (List.range ops.size) r fr hp a w (by simp[m1]) (fun k i g hk hg=>?_) hdef hs hr hv);obtain⟨o,ho,hco⟩:=m2 k g hg;have hkl:k<ops.size:=by have:=(List.getElem?_eq_some_iff.1 hk).1;simpa using this
  rw[List.getElem?_range hkl]at hk;cases hk;exact⟨o,by simpa using ho,hco⟩
end
end Go.FW
namespace Go.FW
open Go
variable {C : Ctx} {ρ : Nat -> Option Nat} {fr : Fr} {hp : HP} {w : World} {a : Act} {K R : Qg}
structure Link(C:Ctx)(R:Qg)(sk:List It)(Q:Exit->Act->World->Prop):Prop where
 nrm:Q48 C (vc C R sk) Q
 ext:∀id sk',FW.Qap id sk=some sk'->∀fr hp (a:Act) w,a.defers=[]->Sim C fr hp a.tmps w->vc C R sk' fr hp->Q (.exit id) a w
 ret:∀fr hp (a:Act) w,a.defers=[]->Sim C fr hp a.tmps w->R fr hp->Q .ret a w
theorem Qug{sk:List It}{x y:SC}:vc C R (.c (.seq x y)::sk) fr hp=vc C R (.c x:: .c y::sk) fr hp:=by rw[vc]
theorem Qoj{sk:List It}{id:Nat}{x:SC}:vc C R (.c (.block id x)::sk) fr hp=vc C R (.c x:: .eb id::sk) fr hp:=by rw[vc]
theorem Qrr{sk:List It}:vc C R (.c .skip::sk) fr hp=vc C R sk fr hp:=by rw[vc]
theorem Q49{sk:List It}{r:RT}:vc C R (.c (.rg r)::sk) fr hp=vc C R (.o r::sk) fr hp:=by rw[vc]
theorem Qzi{sk:List It}{id:Nat}:vc C R (.eb id::sk) fr hp=vc C R sk fr hp:=by rw[vc]
theorem Qok{sk:List It}{J:Qg}:vc C R (.el J::sk) fr hp=J fr hp:=by rw[vc]
theorem Quh{sk:List It}:vc C R (.c .ret::sk) fr hp=R fr hp:=by rw[vc]
theorem Ql1:vc C R [] fr hp=R fr hp:=by rw[vc]
def Qms(c:PV)(A B:Prop):Prop:=match c with
 |.bool t=>(t=true->A)/\(t=false->B)
 |_=>False
theorem Qrs{sk:List It}{c:Opd}{x y:SC}:vc C R (.c (.cond c x y)::sk) fr hp=Qms (ev fr c) (vc C R (.c x::sk) fr hp) (vc C R (.c y::sk) fr hp):=by rw[vc];rfl
def Qol(C:Ctx)(R:Qg)(sk:Option (List It))(fr:Fr)(hp:HP):Prop:=match sk with
 |some sk=>vc C R sk fr hp
 |none=>False
theorem Qrt{sk:List It}{id:Nat}:vc C R (.c (.exit id)::sk) fr hp=Qol C R (FW.Qap id sk) fr hp:=by
 rw[vc];unfold Qol;split
 ·rename_i h;rw[h]
 ·rename_i h;rw[h]
theorem Qf6{sk:List It}{x:SC}:vc C R (.c (.loop x)::sk) fr hp=∃(I:Qg)(μ:Fr->HP->Nat),(∃fr0 hp0,Wk fr hp fr0 hp0/\I fr0 hp0)/\∀fr hp,I fr hp->vc C R (.c x:: .el (fun fr' hp'=>∃fr0 hp0,Wk fr' hp' fr0 hp0/\I fr0 hp0/\μ fr0 hp0<μ fr hp)::sk) fr hp:=by rw[vc]
theorem Wk.refl(fr:Fr)(hp:HP):Wk fr hp fr hp:=fun _ _ _ h=>h
theorem Wk.trans{fr1 fr2 fr3:Fr}{hp1 hp2 hp3:HP}(h:Wk fr1 hp1 fr2 hp2)(k:Wk fr2 hp2 fr3 hp3):Wk fr1 hp1 fr3 hp3:=fun C t w hs=>k C t w (h C t w hs)
def Qru(I:Qg)(μ:Fr->HP->Nat)(n:Nat):Qg:=fun fr' hp'=>∃fr0 hp0,Wk fr' hp' fr0 hp0/\I fr0 hp0/\μ fr0 hp0<n
theorem Qabj{sk:List It}{x:SC}(I:Qg)(μ:Fr->HP->Nat){fr0:Fr}{hp0:HP}(hw:Wk fr hp fr0 hp0)(h0:I fr0 hp0)(h:∀fr hp,I fr hp->vc C R (.c x:: .el (Qru I μ (μ fr hp))::sk) fr hp):vc C R (.c (.loop x)::sk) fr hp:=by rw[Qf6];exact⟨I,μ,⟨fr0,hp0,hw,h0⟩,h⟩
theorem Q5a{s:SC}(h:s.strip= .skip):s= .skip:=by cases s<;>simp[SC.strip]at h⊢
theorem Q7u{s:SC}(h:s.strip= .ret):s= .ret:=by cases s<;>simp[SC.strip]at h⊢
theorem Q5b{s:SC}{id:Nat}(h:s.strip= .exit id):s= .exit id:=by cases s<;>simp[SC.strip]at h ⊢;exact h
theorem Q7v{s:SC}{id:Nat}{ops:Array Oper}(h:s.strip= .raw id ops):s= .raw id ops:=by cases s<;>simp[SC.strip]at h ⊢;exact h
theorem Q7w{s a b:SC}(h:s.strip= .seq a b):∃a' b',s= .seq a' b'/\a'.strip=a/\b'.strip=b:=by cases s<;>simp[SC.strip]at h;exact⟨_,_,rfl,h.1,h.2⟩
theorem Q5c{s a b:SC}{c:Opd}(h:s.strip= .cond c a b):∃a' b',s= .cond c a' b'/\a'.strip=a/\b'.strip=b:=by
 cases s with
 |cond c' a' b'=>simp only[SC.strip,SC.cond.injEq]at h;obtain⟨rfl,h1,h2⟩:=h;exact⟨a',b',rfl,h1,h2⟩
 |_=>simp[SC.strip]at h
theorem Q2e{s a:SC}{id:Nat}(h:s.strip= .block id a):∃a',s= .block id a'/\a'.strip=a:=by
 cases s with
 |block c' a'=>simp only[SC.strip,SC.block.injEq]at h;obtain⟨rfl,h1⟩:=h;exact⟨a',rfl,h1⟩
 |_=>simp[SC.strip]at h
theorem Q5d{s a:SC}(h:s.strip= .loop a):∃a',s= .loop a'/\a'.strip=a:=by
 cases s with
 |loop a'=>simp only[SC.strip,SC.loop.injEq]at h;exact⟨a',rfl,h⟩
 |_=>simp[SC.strip]at h
theorem Qse(hm:C.P.follows .mixedOrders=true):∀(c:Code)(s:SC)(sk:List It)(Q:Exit->Act->World->Prop)(fr:Fr)(hp:HP)(a:Act)(w:World),
  Qbk C.P C.N c=some s.strip->Link C R sk Q->a.defers=[]->Sim C fr hp a.tmps w->vc C R (.c s::sk) fr hp->c.wp C.P Q a w:=by
 intro c;induction c with
 |skip=>intro s sk Q fr hp a w hc hL hd hs hv;simp only[Qbk,Option.some.injEq]at hc;obtain rfl:=Q5a hc.symm;rw[Qrr]at hv;exact wp_skip (hL.nrm fr hp a w hd hs hv)
 | region id ops draw=>
  intro s sk Q fr hp a w hc hL hd hs hv;simp only[Qbk]at hc;split at hc
  ·rename_i s' hs';rw[hc]at hs';exact Qz8 hm hL.nrm hs' hd hs hv
  ·split at hc
   ·rename_i hdr;obtain rfl:=Q7v (Option.some.inj hc).symm;have hdr':draw=true:=hdr;subst hdr';rw[vc]at hv;obtain⟨tmps,defers⟩:=a;simp only at hd hs;subst hd;exact hv tmps w Q hs (fun fr' hp' tmps' w' hs' hv'=>hL.nrm fr' hp' _ w' rfl hs' hv')
   ·cases hc
 |seq x y ihx ihy=>
  intro s sk Q fr hp a w hc hL hd hs hv;simp only[Qbk,Option.bind_eq_some_iff,Option.map_eq_some_iff]at hc;obtain⟨sx,hx,sy,hy,he⟩:=hc;obtain⟨sx,sy,rfl,rfl,rfl⟩:=Q7w he.symm;rw[Qug]at hv;refine wp_seq (ihx sx (.c sy::sk) _ fr hp a w hx ⟨fun fr hp a w hd hs hv=>?_,fun id sk' he fr hp a w hd hs hv=>?_,fun fr hp a w hd hs hv=>?_⟩ hd hs hv)
  ·exact ihy sy sk Q fr hp a w hy hL hd hs hv
  ·exact hL.ext id sk' (by simpa[FW.Qap]using he) fr hp a w hd hs hv
  ·exact hL.ret fr hp a w hd hs hv
 | cond c x y ihx ihy=>
  intro s sk Q fr hp a w hc hL hd hs hv;simp only[Qbk,Option.bind_eq_some_iff,Option.map_eq_some_iff]at hc;obtain⟨pc,hpc,sx,hx,sy,hy,he⟩:=hc;obtain⟨sx,sy,rfl,rfl,rfl⟩:=Q5c he.symm;rw[Qrs]at hv;obtain⟨ρ,hsr⟩:=hs;have hr:=Qar hsr hpc;unfold Qms at hv;split at hv
  ·rename_i t ht;rw[ht]at hr;exact wp_cond_split hr.bool_inv (fun h=>ihx sx sk Q fr hp a w hx hL hd ⟨ρ,hsr⟩ (hv.1 h)) (fun h=>ihy sy sk Q fr hp a w hy hL hd ⟨ρ,hsr⟩ (hv.2 h))
  ·exact hv.elim
 | block id x ihx=>
  intro s sk Q fr hp a w hc hL hd hs hv;simp only[Qbk,Option.map_eq_some_iff]at hc;obtain⟨sx,hx,he⟩:=hc;obtain⟨sx,rfl,rfl⟩:=Q2e he.symm;rw[Qoj]at hv;refine wp_block (ihx sx (.eb id::sk) _ fr hp a w hx ⟨fun fr hp a w hd hs hv=>?_,fun id' sk' he fr hp a w hd hs hv=>?_,fun fr hp a w hd hs hv=>?_⟩ hd hs hv)
  ·rw[Qzi]at hv;exact hL.nrm fr hp a w hd hs hv
  ·simp only[FW.Qap]at he;simp only[Exit.inBlock];by_cases hi:id=id'
   ·subst hi;simp only[if_true]at he ⊢;cases he;exact hL.nrm fr hp a w hd hs hv
   ·rw[if_neg hi]at he;rw[if_neg (fun e=>hi e.symm)];exact hL.ext id' sk' he fr hp a w hd hs hv
  ·exact hL.ret fr hp a w hd hs hv
 | loop x ihx=>
  intro s sk Q fr hp a w hc hL hd hs hv;simp only[Qbk,Option.map_eq_some_iff]at hc;obtain⟨sx,hx,he⟩:=hc;obtain⟨sx,rfl,rfl⟩:=Q5d he.symm;rw[Qf6]at hv;obtain⟨I,μ,⟨fr0,hp0,hwk,h0⟩,hround⟩:=hv;have key:∀(n:Nat)(fr:Fr)(hp:HP)(a:Act)(w:World),μ fr hp<n->I fr hp->a.defers=[]->Sim C fr hp a.tmps w->Code.rounds C.P x Q n a w:=by
   intro n;induction n with
   |zero=>intro _ _ _ _ h;omega
   | succ n ih=>
    intro fr hp a w hlt hI hd hs;rw[rounds_succ];refine ihx sx _ _ fr hp a w hx ⟨fun fr' hp' a' w' hd' hs' hv'=>?_,fun id sk' he fr hp a w hd hs hv=>?_,fun fr hp a w hd hs hv=>?_⟩ hd hs (hround fr hp hI)
    ·rw[Qok]at hv';obtain⟨fr2,hp2,hw2,hI2,hlt2⟩:=hv';exact ih fr2 hp2 a' w' (by omega) hI2 hd' (hw2 _ _ _ hs')
    ·exact hL.ext id sk' (by simpa[FW.Qap]using he) fr hp a w hd hs hv
    ·exact hL.ret fr hp a w hd hs hv
  exact wp_loop_rounds (μ fr0 hp0+1) (key _ fr0 hp0 a w (Nat.lt_succ_self _) h0 hd (hwk _ _ _ hs))
 | exit id=>
  intro s sk Q fr hp a w hc hL hd hs hv;simp only[Qbk,Option.some.injEq]at hc;obtain rfl:=Q5b hc.symm;rw[Qrt]at hv;unfold Qol at hv;split at hv
  ·rename_i sk' he;exact wp_exit (hL.ext id sk' he fr hp a w hd hs hv)
  ·exact hv.elim
 |ret=>intro s sk Q fr hp a w hc hL hd hs hv;simp only[Qbk,Option.some.injEq]at hc;obtain rfl:=Q7u hc.symm;rw[Quh]at hv;exact wp_ret (hL.ret fr hp a w hd hs hv)
 |_=>intro s sk Q fr hp a w hc;simp[Qbk]at hc
theorem Qom(hm:C.P.follows .mixedOrders=true)(c:Code)(s:SC)(sk:List It)(Q:Exit->Act->World->Prop)(fr:Fr)(hp:HP)(a:Act)(w:World)
  (hc:Qbk C.P C.N c=some s) (hL:Link C R sk Q) (hd:a.defers=[]) (hs:Sim C fr hp a.tmps w) (hv:vc C R (.c s::sk) fr hp):c.wp C.P Q a w:=
 Qse hm c s sk Q fr hp a w (by rw[Qyz _ _ hc];exact hc) hL hd hs hv
def PV.le1:PV->PV->Prop
 |.nilS,.sl _ []=>True
 |p,q=>p=q
def PV.leL:List PV->List PV->Prop
 | [],[]=>True
 |p::ps,q::qs=>PV.le1 p q/\PV.leL ps qs
 |_,_=>False
def PV.le:PV->PV->Prop
 |.agg ps,.agg qs=>PV.leL ps qs
 |p,q=>PV.le1 p q
def PV.leT:List PV->List PV->Prop
 | [],[]=>True
 |p::ps,q::qs=>PV.le p q/\PV.leT ps qs
 |_,_=>False
def PV.leR:PV->PV->Prop
 |.tup ps,.tup qs=>PV.leT ps qs
 |p,q=>PV.le p q
theorem Ql2(p:PV):PV.le1 p p:=by cases p<;>first|rfl|(unfold PV.le1;split<;>trivial)
theorem Qz9:∀(l:List PV),PV.leL l l
 | []=>trivial
 |p::ps=>⟨Ql2 p,Qz9 ps⟩
theorem Q2(p:PV):PV.le p p:=by cases p<;>first|exact Qz9 _|(simp only[PV.le];exact Ql2 _)
theorem Qs.le{X:Nat->Prop}{p q:PV}{v:Value}(h:Qs w X p v)(hl:PV.le1 p q):Qs w X q v:=by
 unfold PV.le1 at hl;split at hl
 ·cases h;exact .slE _ _ _ (Nat.zero_le _)
 ·subst hl;exact h
theorem Q3k:∀(ps qs:List PV),PV.leL ps qs->qs.length=ps.length/\∀(i:Nat)(q:PV),qs[i]? =some q->∃p,ps[i]? =some p/\PV.le1 p q
 | [],[],_=>⟨rfl,by simp⟩
 | [],_::_,h=>h.elim
 |_::_,[],h=>h.elim
 |p::ps,q::qs,h=>by
  obtain⟨h1,h2⟩:=Q3k ps qs h.2;refine⟨by simp[h1],fun i x hx=>?_⟩;cases i with
  |zero=>simp at hx;subst hx;exact⟨p,rfl,h.1⟩
  |succ i=>simp at hx;simpa using h2 i x hx
theorem Qwo:∀(ps qs:List PV),PV.leT ps qs->qs.length=ps.length/\∀(i:Nat)(q:PV),qs[i]? =some q->∃p,ps[i]? =some p/\PV.le p q
 | [],[],_=>⟨rfl,by simp⟩
 | [],_::_,h=>h.elim
 |_::_,[],h=>h.elim
 |p::ps,q::qs,h=>by
  obtain⟨h1,h2⟩:=Qwo ps qs h.2;refine⟨by simp[h1],fun i x hx=>?_⟩;cases i with
  |zero=>simp at hx;subst hx;exact⟨p,rfl,h.1⟩
  |succ i=>simp at hx;simpa using h2 i x hx
theorem Qai.le{X:Nat->Prop}{p q:PV}{v:Value}(h:Qai w X p v)(hl:PV.le p q):Qai w X q v:=by
 by_cases hp:∃ps,p= .agg ps
 ·obtain⟨ps,rfl⟩:=hp;by_cases hq:∃qs,q= .agg qs
  ·obtain⟨qs,rfl⟩:=hq;obtain⟨h1,h2⟩:=Q3k ps qs hl;obtain⟨vs,rfl,g1,g2⟩:=h;refine⟨vs,rfl,by omega,fun i x hx=>?_⟩;obtain⟨p,hp,hle⟩:=h2 i x hx;exact(g2 i p hp).le hle
  ·have:PV.le1 (.agg ps) q:=by cases q<;>first|exact hl|exact absurd ⟨_,rfl⟩ hq
   have:q= .agg ps:=by
    unfold PV.le1 at this;split at this
    ·rename_i h1;cases h1
    ·exact this.symm
   exact absurd ⟨_,this⟩ hq
 ·have h1:Qs w X p v:=by cases p<;>first|exact h|exact absurd ⟨_,rfl⟩ hp
  have h2:PV.le1 p q:=by cases p<;>first|exact hl|exact absurd ⟨_,rfl⟩ hp
  exact Qai.of_c (h1.le h2)
theorem Qco.le{X:Nat->Prop}{p q:PV}{v:Value}(h:Qco w X p v)(hl:PV.leR p q):Qco w X q v:=by
 by_cases hp:∃ps,p= .tup ps
 ·obtain⟨ps,rfl⟩:=hp;by_cases hq:∃qs,q= .tup qs
  ·obtain⟨qs,rfl⟩:=hq;obtain⟨h1,h2⟩:=Qwo ps qs hl;obtain⟨vs,rfl,g1,g2⟩:=h;refine⟨vs,rfl,by omega,fun i x hx=>?_⟩;obtain⟨p,hp,hle⟩:=h2 i x hx;exact(g2 i p hp).le hle
  ·have:PV.le (.tup ps) q:=by cases q<;>first|exact hl|exact absurd ⟨_,rfl⟩ hq
   have:PV.le1 (.tup ps) q:=this;have:q= .tup ps:=by
    unfold PV.le1 at this;split at this
    ·rename_i h1;cases h1
    ·exact this.symm
   exact absurd ⟨_,this⟩ hq
 ·have h1:Qai w X p v:=by cases p<;>first|exact h|exact absurd ⟨_,rfl⟩ hp
  have h2:PV.le p q:=by cases p<;>first|exact hl|exact absurd ⟨_,rfl⟩ hp
  exact Qco.of1 (h1.le h2)
def Ql3 (P : Program) (f : FuncId) : Prop := (P.funcs[f]?).any (fun fn => fn.body.isSome && fn.name != "runtime.NumGoroutine") = true
def Qd(P:Program)(f:FuncId)(args:List PV)(R:PV->Prop):Prop:=
 Ql3 P f/\∀(w:World)(X:Nat->Prop)(vals:Array Value),(∀b,X b->b<w.heap.size)->vals.size=args.length->(∀(i:Nat)(x:PV),args[i]? =some x->Qai w X x (vals.getD i undef))->
  Calls P f vals w fun e w'=>∃v r,e= .returned v/\Ext Qaw w w'/\Qco w' X r v/\R r
theorem Qd.mono{P:Program}{f:FuncId}{args:List PV}{R R':PV->Prop}(h:Qd P f args R)(hr:∀r,R r->R' r):Qd P f args R':=
 ⟨h.1,fun w X vals h1 h2 h3=>(h.2 w X vals h1 h2 h3).mono fun _ _ ⟨v,r,e1,e2,e3,e4⟩=>⟨v,r,e1,e2,e3,hr r e4⟩⟩
theorem Qd.le{P:Program}{f:FuncId}{args args':List PV}{R:PV->Prop}(h:Qd P f args R)(hl:PV.leT args' args):Qd P f args' R:=by obtain⟨h1,h2⟩:=Qwo _ _ hl;refine⟨h.1,fun w X vals g1 g2 g3=>h.2 w X vals g1 (by omega) (fun i x hx=>?_)⟩;obtain⟨p,hp,hle⟩:=h2 i x hx;exact(g3 i p hp).le hle
def Qgr(args:List PV):Fr:=fun i=>(args[i]?).getD .undef
def okR(fr:Fr)(hp:HP):RV->Prop
 |.t s=>(Qaa hp (fr s)).isData=true
 |.cell s n ag=>match fr s with
  |.mp β i o=>match hp β with
   |some hb=>i<hb.xs.length/\o+n<=hb.e/\(ag=false->n=1)
   |none=>False
  |_=>False
def rvP(fr:Fr)(hp:HP):RV->PV
 |.t s=>Qaa hp (fr s)
 |.cell s n ag=>match fr s with
  |.mp β i o=>match hp β with
   |some hb=>ldV ag n o ((hb.xs[i]?).getD .undef)
   |none=>.undef
  |_=>.undef
def Qdx(rs:List RV)(R:PV->Prop):Qg:=fun fr hp=>match rs with
 | [r]=>okR fr hp r/\∃p,PV.le (rvP fr hp r) p/\R p
 |rs=>(∀r∈rs,okR fr hp r)/\∃p,PV.leR (.tup (rs.map (rvP fr hp))) p/\R p
def Qon(tmps:Array Value):ResultVar->Sem Value
 |.tmp t=>pure (tmps.getD t undef)
 |.cell x t=>do loadVar t (<-asAddr (tmps.getD x undef))
def lr(fr:Fr):RV->List Nat
 |.t s=>(fr s).refs
 |.cell _ _ _=>[]
theorem Q0a{l l':List Nat}(h:∀β∈l,β∈l'){b:Nat}(hx:Xof C ρ (Qaj hp l') b):Xof C ρ (Qaj hp l) b:=by
 rcases hx with hx|⟨γ,hg,h1,h2,h3⟩
 ·exact .inl hx
 ·obtain⟨hg0,g1,_,_,_,g5,g6⟩:=Qhu h1;refine .inr ⟨γ,hg0,?_,by rw[<-g5 h2];exact h2,h3⟩;have hn:γ ∉ l:=fun hl=>g6 h2 (h γ hl);unfold Qaj;rw[if_neg (by simpa using hn)];exact g1
theorem Q5e:Qaj hp []=hp:=by funext β;simp[Qaj]
theorem Q5f{p:PV}(h:(Qaa hp p).isData=true):∀β∈p.refs,isY β=false:=by
 have h1:∀q:PV,(Qa0 hp q).notU=true->∀β∈q.ref1,isY β=false:=by
  intro q hq β hβ;cases q with
  |mp γ i o=>simp only[PV.ref1,List.mem_singleton]at hβ;subst hβ;cases hy:isY β with
   |false=>rfl
   |true=>simp[Qa0,hy,PV.notU]at hq
  |mso γ o n=>simp only[PV.ref1,List.mem_singleton]at hβ;subst hβ;cases hy:isY β with
   |false=>rfl
   |true=>simp[Qa0,hy,PV.notU]at hq
  |rb=>simp[Qa0,PV.notU]at hq
  |_=>cases hβ
 intro β hβ;cases p with
 |mp γ i o=>exact h1 (.mp γ i o) (by cases hq:Qa0 hp (.mp γ i o)<;>simp_all[Qaa,PV.isData,PV.notU]) β hβ
 |mso γ o n=>exact h1 (.mso γ o n) (by cases hq:Qa0 hp (.mso γ o n)<;>simp_all[Qaa,PV.isData,PV.notU]) β hβ
 |rb=>simp[Qaa,Qa0,PV.isData]at h
 |fn f first cap=>
  simp only[Qaa,PV.isData,Bool.and_eq_true,List.all_map,List.all_eq_true]at h;rcases List.mem_append.1 hβ with hβ|hβ
  ·obtain⟨x,hx,hβ⟩:=List.mem_flatMap.1 hβ;exact h1 x (h.1 x hx) β hβ
  ·obtain⟨x,hx,hβ⟩:=List.mem_flatMap.1 hβ;exact h1 x (h.2 x hx) β hβ
 |_=>cases hβ
theorem Qaqr{rv:RV}(h:okR fr hp rv):∀β∈lr fr rv,isY β=false:=by
 cases rv with
 |t s=>exact Q5f h
 |cell=>intro β hβ;cases hβ
theorem Qabk{P:Program}(hP:C.P=P){r:ResultVar}{rv:RV}(hc:Qcl P r=some rv)(h:Q9 C ρ fr hp a.tmps w)(ho:okR fr hp rv):
  ∃v,(Qon a.tmps r).run P w= .ok v w/\Qai w (Xof C ρ (Qaj hp (lr fr rv))) (rvP fr hp rv) v:=by
 subst hP;cases r with
 |tmp t=>simp[Qcl]at hc;subst hc;exact⟨_,rfl,Qfm h (h.slots t) (fun β hβ=>hβ) ho⟩
 | cell x t=>
  simp only[Qcl,Option.bind_eq_some_iff,Option.map_eq_some_iff]at hc;obtain⟨n,hn,ag,hag,rfl⟩:=hc;have hx:=h.slots x;simp only[okR]at ho;split at ho
  ·rename_i β i o hfx;rw[hfx]at hx;split at ho
   ·rename_i hb hβ;obtain⟨h1,h2,h3⟩:=ho;obtain⟨b,hb2,g1,g2,g3⟩:=hx.mp_inv;rw[hβ]at g2;cases g2;have hown:=h.own β hb hβ;have hblk:=hown.blk;rw[g1]at hblk;obtain⟨_,hlt',cur,cap,c1,c2,c3,c4,c5⟩:=hblk;have hxi:=List.getElem?_eq_getElem h1;have hcl:=(hown.len i _ hxi).1;have hcap:i<cap:=by omega
    have hin:∀j,j<n->i*hb.e+o+j<cur.size:=fun j hj=>by rw[c2];exact Qfv hcap h2 hj
    have hrun:=Qin (P:=C.P) (t:=t) (b:=b) (off:=i*hb.e+o) (vs:=Array.ofFn (n:=n) fun j=>cur.getD (i*hb.e+o+j.val) undef) hn hag h3 (by simp) w
     (fun j hj=>by rw[Qfz (f:=fun j=>cur.getD (i*hb.e+o+j) undef) hj];exact Qbg c1 (hin j hj))
    obtain⟨V,hV⟩:∃V:Value,V=(if ag then .agg (Array.ofFn (n:=n) fun j=>cur.getD (i*hb.e+o+j.val) undef)else(Array.ofFn (n:=n) fun j=>cur.getD (i*hb.e+o+j.val) undef).getD 0 undef):=⟨_,rfl⟩
    rw[<-hV]at hrun;refine⟨V,?_,?_⟩
    ·simp only[Qon,g3,asAddr,Sem.run_bind,Sem.run_pure,Result.andThen_ok];exact hrun
    ·have:Qai w (Xof C ρ hp) (ldV ag n o (hb.xs[i]'h1)) (if ag then .agg (Array.ofFn (n:=n) fun j=>cur.getD (i*hb.e+o+j.val) undef)else(Array.ofFn (n:=n) fun j=>cur.getD (i*hb.e+o+j.val) undef).getD 0 undef):=
      Qns (by simp) (by rw[hcl];exact h2) h3 (fun j y hj hy=>by rw[Qfz (f:=fun j=>cur.getD (i*hb.e+o+j) undef) hj,Nat.add_assoc];exact c5 i _ hxi (o+j) y hy)
     simp only[rvP,hfx,hβ,hxi,Option.getD_some];rw[hV];simp only[lr,Q5e];exact this
   ·exact ho.elim
  ·exact ho.elim
theorem Qxr{P:Program}(hP:C.P=P)(h:Q9 C ρ fr hp a.tmps w):∀(rl:List ResultVar)(rs:List RV),rl.mapM (Qcl P)=some rs->(∀r∈rs,okR fr hp r)->
  ∃vs:List Value,vs.length=rs.length/\(rl.mapM (Qon a.tmps)).run P w= .ok vs w/\∀(i:Nat)(r:RV),rs[i]? =some r->∃v,vs[i]? =some v/\Qai w (Xof C ρ (Qaj hp (rs.flatMap (lr fr)))) (rvP fr hp r) v
 | [],rs,hc,_=>by simp at hc;subst hc;exact⟨[],rfl,by simp,by simp⟩
 | x::rl,rs,hc,ho=>by
  rw[List.mapM_cons]at hc;simp only[Option.bind_eq_bind,Option.pure_def,Option.bind_eq_some_iff,Option.some.injEq]at hc;obtain⟨r,hr,rs',hrs,rfl⟩:=hc;obtain⟨v,h1,h2⟩:=Qabk hP hr h (ho r (by simp));obtain⟨vs,g1,g2,g3⟩:=Qxr hP h rl rs' hrs (fun q hq=>ho q (by simp[hq]));refine⟨v::vs,by simp[g1],by simp[List.mapM_cons,Sem.run_bind,h1,g2],fun i q hq=>?_⟩;cases i with
  |zero=>simp at hq;subst hq;exact⟨v,rfl,h2.mono (fun _ _ _=>rfl) (fun _ _ hn hx=>hn (Q0a (fun β hβ=>by rw[List.flatMap_cons];exact List.mem_append_left _ hβ) hx)) (Nat.le_refl _)⟩
  |succ i=>simp at hq;obtain⟨v',k1,k2⟩:=g3 i q hq;exact⟨v',by simpa using k1,k2.mono (fun _ _ _=>rfl) (fun _ _ hn hx=>hn (Q0a (fun β hβ=>by rw[List.flatMap_cons];exact List.mem_append_right _ hβ) hx)) (Nat.le_refl _)⟩
theorem Qui{P:Program}(hP:C.P=P){fn:Func}{rs:List RV}{Rr:PV->Prop}(hc:fn.results.toList.mapM (Qcl P)=some rs)(h:Q9 C ρ fr hp a.tmps w)(hr:Qdx rs Rr fr hp):
  ∃v r,(results fn a.tmps).run P w= .ok v w/\Qco w (Xof C ρ (Qaj hp (rs.flatMap (lr fr)))) r v/\(∀β∈rs.flatMap (lr fr),isY β=false)/\Rr r:=by
 have hall:(∀r∈rs,okR fr hp r):=by
  intro r hr'
  match rs,hr,hr' with
  | [r0],hr,hr'=>simp at hr';subst hr';exact hr.1
  | [],hr,hr'=>cases hr'
  |r0::r1::rest,hr,hr'=>exact hr.1 r hr'
 have hN:∀β∈rs.flatMap (lr fr),isY β=false:=fun β hβ=>by obtain⟨r,hr,hβ⟩:=List.mem_flatMap.1 hβ;exact Qaqr (hall r hr) β hβ
 obtain⟨vs,hlen,hrun,hspec⟩:=Qxr hP h _ rs hc hall;have hres:(results fn a.tmps).run P w= .ok (if h:vs.toArray.size=1 then vs.toArray[0]else .tuple vs.toArray) w:=by
  have e:results fn a.tmps=(do let vs<-fn.results.mapM (Qon a.tmps);pure (if h:vs.size=1 then vs[0]else .tuple vs)):=rfl;rw[e,Array.mapM_eq_mapM_toList];simp only[Sem.run_bind];have h2:(List.toArray<$>fn.results.toList.mapM (Qon a.tmps):Sem (Array Value)).run P w= .ok vs.toArray w:=by simp[hrun]
  rw[h2];rfl
 match rs,hr,hlen,hspec,hN with
 | [r0],hr,hlen,hspec,hN=>
  have h1:vs.toArray.size=1:=by simpa using hlen
  rw[dif_pos h1]at hres;obtain⟨v,h2,h3⟩:=hspec 0 r0 rfl;have e:vs.toArray[0]=v:=by
   have:vs[0]? =some (vs.toArray[0]):=by simp[hlen]
   rw[h2]at this;exact(Option.some.inj this).symm
  rw[e]at hres;obtain⟨_,p,hle,hRp⟩:=hr;exact⟨_,_,hres,Qco.of1 (h3.le hle),hN,hRp⟩
 | [],hr,hlen,hspec,hN=>
  have h1:¬vs.toArray.size=1:=by simp[hlen]
  rw[dif_neg h1]at hres;obtain⟨_,p,hle,hRp⟩:=hr;exact⟨_,_,hres,Qco.le (p:=.tup []) ⟨vs.toArray,rfl,by simp[hlen],by simp⟩ hle,hN,hRp⟩
 |r0::r1::rest,hr,hlen,hspec,hN=>
  have h1:¬vs.toArray.size=1:=by simp[hlen]
  rw[dif_neg h1]at hres;obtain⟨_,p,hle,hRp⟩:=hr;refine⟨_,_,hres,Qco.le (p:=.tup ((r0::r1::rest).map (rvP fr hp))) ⟨vs.toArray,rfl,by simp[hlen],fun i x hx=>?_⟩ hle,hN,hRp⟩;simp only[List.getElem?_map,Option.map_eq_some_iff]at hx;obtain⟨rv,hrv,rfl⟩:=hx;obtain⟨v,h2,h3⟩:=hspec i rv hrv;rw[Qev,List.getD_eq_getElem?_getD,h2];exact h3
theorem Qxs{P:Program}(hP:C.P=P){fn:Func}{rs:List RV}{Rr:PV->Prop}(hc:fn.results.toList.mapM (Qcl P)=some rs)(h:Q9 C ρ fr hp a.tmps w)(hr:Qdx rs Rr fr hp):
  ∃v r,(results fn a.tmps).run P w= .ok v w/\Qco w C.X0 r v/\Rr r:=by
 obtain⟨v,r,h1,h2,_,h3⟩:=Qui hP hc h hr;exact⟨v,r,h1,h2.mono (fun _ _ _=>rfl) (fun _ _ hn hx=>hn (.inl hx)) (Nat.le_refl _),h3⟩
theorem Q5g{P:Program}(hP:C.P=P){fn:Func}{rs:List RV}{Rr:PV->Prop}(hc:fn.results.toList.mapM (Qcl P)=some rs)(h:Q9 C ρ fr hp a.tmps w)(hr:Qdx rs Rr fr hp)
  {X:Nat->Prop} (hX:∀c,X c->C.X0 c∨∃β hb,isY β=true/\hp β=some hb/\hb.fz=false/\ρ β=some c):
  ∃v r,(results fn a.tmps).run P w= .ok v w/\Qco w X r v/\Rr r:=by
 obtain⟨v,r,h1,h2,h3,h4⟩:=Qui hP hc h hr;refine⟨v,r,h1,h2.mono (fun _ _ _=>rfl) (fun c _ hn hx=>hn ?_) (Nat.le_refl _),h4⟩;rcases hX c hx with hx|⟨β,hb,k1,k2,k3,k4⟩
 ·exact .inl hx
 ·refine .inr ⟨β,hb,?_,k3,k4⟩;have hn:β ∉ rs.flatMap (lr fr):=fun hl=>by rw[h3 β hl]at k1;cases k1
  unfold Qaj;rw[if_neg (by simpa using hn)];exact k2
theorem Qf {P : Program} {f : FuncId} {fn : Func} {sf : SFn} {args : List PV} {Rr : PV -> Prop} (hm : P.follows .mixedOrders = true) (hf : P.funcs[f]? = some fn) (hname : (fn.name != "runtime.NumGoroutine") = true) (hc : Qe P fn = some sf) (hn : args.length <= sf.n /\ sf.n <= 1000000)
  (hv:∀C:Ctx,C.P=P->vc C (Qdx sf.rs Rr) [.c sf.body] (Qgr args) hp0):Qd P f args Rr:=by
 simp only[Qe,Option.bind_eq_some_iff,Option.map_eq_some_iff]at hc;obtain⟨c,hb,sb,hcb,rs,hrs,rfl⟩:=hc;refine⟨by simp[Ql3,hf,hb];simpa using hname,fun w X vals hX hsz hrep=>?_⟩
 let C:Ctx:=Ctx.plain P fn.ntmps w X hX hn.2
 refine calls_of_wp hf hb ?_;have hsz':(vals++Array.replicate (fn.ntmps-vals.size) undef).size=fn.ntmps:=by simp at hn ⊢;omega
 have hsim:Sim C (Qgr args) hp0 (vals++Array.replicate (fn.ntmps-vals.size) undef) w:=by
  refine⟨fun _=>none,hsz',Ext.refl _ _,(fun _ _ h=>by cases h),by simp[hp0],by simp[hp0],fun i=>?_⟩;unfold Qgr;cases hi:args[i]? with
  |none=>trivial
  | some p=>
   simp only[Option.getD_some];have hil:i<vals.size:=by rw[hsz];exact(List.getElem?_eq_some_iff.1 hi).1
   have hr:=hrep i p hi;have e:(vals++Array.replicate (fn.ntmps-vals.size) undef).getD i undef=vals.getD i undef:=by rw[Qbr,if_pos hil]
   rw[e];refine Qr.ofData (hr.mono (fun _ _ _=>rfl) (fun b _ hn hx=>?_) (Nat.le_refl _));rcases hx with hx|⟨_,_,h1,_⟩
   ·exact hn hx
   ·simp[hp0]at h1
 have fin:∀(fr:Fr)(hp:HP)(a:Act)(w':World),a.defers=[]->Sim C fr hp a.tmps w'->Qdx rs Rr fr hp->
   a.defers=[]/\∃v,(results fn a.tmps).run P w'= .ok v w'/\∃v' r,Ending.returned v= .returned v'/\Ext Qaw w w'/\Qco w' X r v'/\Rr r:=by
  intro fr hp a w' hd ⟨ρ,hs⟩ hr;obtain⟨v,r,h1,h2,h3⟩:=Qxs (C:=C) rfl hrs hs hr;exact⟨hd,v,h1,v,r,rfl,Ctx.plain_ext hs.ext,h2,h3⟩
 exact Qom (C:=C) (R:=Qdx rs Rr) hm c sb [] _ (Qgr args) hp0 _ w hcb ⟨fun fr hp a w' hd hs hv=>(by rw[Ql1]at hv;exact fin fr hp a w' hd hs hv),fun id sk' he=>(by simp[FW.Qap]at he),fin⟩ rfl hsim (hv C rfl)
end Go.FW
namespace Go.FW
open Go
variable {C : Ctx} {ρ : Nat -> Option Nat} {fr : Fr} {hp : HP} {w : World} {a : Act} {K R : Qg}
def Qkv(fr:Fr)(d:Option Nat)(r:PV):Fr:=match d with|some d=>upd fr d r|none=>fr
theorem Qr.ofV{p:PV}{v:Value}(h:Qco w (Xof C ρ hp) p v):Qr C ρ hp w p v:=by
 cases p with
 |tup ps=>exact h
 |_=>exact Qr.ofData h
theorem Quj{tmps:Array Value}(h:Q9 C ρ fr hp tmps w):∀b,Xof C ρ hp b->b<w.heap.size:=by
 rintro b (hx|⟨β,hb,h1,_,h3⟩)
 ·exact Nat.lt_of_lt_of_le (C.hX0 b hx) h.ext.size
 ·have:=(h.own β hb h1).blk;rw[h3]at this;exact this.2.1
theorem Q9.updO{tmps:Array Value}{d:Option Nat}(h:Q9 C ρ fr hp tmps w){p:PV}{v:Value}(hv:Qr C ρ hp w p v)(hd:∀x,d=some x->x<C.N):Q9 C ρ (Qkv fr d p) hp (setO tmps d v) w:=by
 cases d with
 |some d=>exact h.upd hv (hd d rfl)
 |none=>exact h
theorem Q0b{tmps:Array Value}{first cap args:List PV}{fv cv av:Array Value}(hs:Q9 C ρ fr hp tmps w)(h1:fv.size=first.length)(_h2:cv.size=cap.length)(h3:av.size=args.length)
  (hr1:∀(i:Nat)(x:PV),first[i]? =some x->Qbp C ρ hp w x (fv.getD i undef)) (hr2:∀(i:Nat)(x:PV),cap[i]? =some x->Qbp C ρ hp w x (cv.getD i undef)) (hr3:∀(i:Nat)(x:PV),args[i]? =some x->Qr C ρ hp w x (av.getD i undef))
  (hdat:((first++args++cap).map (Qaa hp)).all PV.isData=true):
  ∀(i:Nat)(x:PV),((first++args++cap).map (Qaa hp))[i]? =some x->Qai w (Xof C ρ (Qaj hp ((first++args++cap).flatMap PV.refs))) x ((fv++av++cv).getD i undef):=by
 intro i x hx;rw[List.all_eq_true]at hdat;have hxd:=hdat x (List.mem_of_getElem? hx);simp only[List.getElem?_map,Option.map_eq_some_iff]at hx;obtain⟨p,hp',rfl⟩:=hx;have hmem:=List.mem_of_getElem? hp';have hl:∀β∈p.refs,β∈(first++args++cap).flatMap PV.refs:=fun β hβ=>List.mem_flatMap.2 ⟨p,hmem,hβ⟩;have toF:∀ {p:PV} {v:Value},Qbp C ρ hp w p v->(Qaa hp p).isData=true->Qr C ρ hp w p v:=by
  intro p v hr hd;cases p with
  |undef=>trivial
  |mp=>exact hr
  |mso=>exact hr
  |rb=>exact hr
  |np=>exact hr
  |nso=>exact hr
  |_=>exact Qr.ofData (Qai.of_c hr)
 rw[Qbr];rw[List.getElem?_append]at hp';by_cases c1:i<(first++args).length
 ·rw[if_pos c1]at hp';rw[if_pos (by simp only[Array.size_append,h1,h3];simpa using c1),Qbr];rw[List.getElem?_append]at hp';by_cases c2:i<first.length
  ·rw[if_pos c2]at hp';rw[if_pos (by omega)];exact Qfm hs (toF (hr1 i p hp') hxd) hl hxd
  ·rw[if_neg c2]at hp';rw[if_neg (by omega),h1];exact Qfm hs (hr3 _ p hp') hl hxd
 ·rw[if_neg c1]at hp';have hsz:(fv++av).size=(first++args).length:=by simp[h1,h3]
  rw[if_neg (by omega),hsz];exact Qfm hs (toF (hr2 _ p hp') hxd) hl hxd
theorem Qxt{P:Program}(hP:C.P=P){g:FuncId}{first cap args pargs:List PV}{pr:Bool}{d:Option Nat}{Rr:PV->Prop}(h:Qd P g pargs Rr)(hargs:(first++args++cap).map (Qaa hp)=pargs)(hdat:pargs.all PV.isData=true)
  (hK:∀r,Rr r->K (Qkv fr d r) (Qaj hp ((first++args++cap).flatMap PV.refs))):Qgw C pr (.fn g first cap) args d fr hp K:=by
 subst hP;refine⟨h.1,fun ρ tmps w fv cv av hdN hs h1 h2 h3 hr1 hr2 hr3=>?_⟩;have hf:=hs.freeze ((first++args++cap).flatMap PV.refs);refine(h.2 w _ (fv++av++cv) (Quj hf) (by rw[<-hargs];simp[h1,h2,h3]) (by rw[<-hargs];exact Q0b hs h1 h2 h3 hr1 hr2 hr3 (by rw[hargs];exact hdat))).mono ?_;rintro e w' ⟨v,r,rfl,hx,hr,hRr⟩;exact⟨v,_,_,rfl,⟨ρ,(hf.grow hx).updO (Qr.ofV hr) hdN⟩,fun _=>hx,hK r hRr⟩
theorem Qcb{P:Program}(hP:C.P=P){g:FuncId}{first cap args pargs:List PV}{pr:Bool}{d:Option Nat}{r:PV}(h:Qd P g pargs (· =r))(hargs:(first++args++cap).map (Qaa hp)=pargs)(hdat:pargs.all PV.isData=true)
  (hK:K (Qkv fr d r) (Qaj hp ((first++args++cap).flatMap PV.refs))):Qgw C pr (.fn g first cap) args d fr hp K:=
 Qxt hP h hargs hdat (fun _ hr=>hr▸hK)
def PV.isScal:PV->Bool
 |.int .. | .bool _=>true
 |.tup ps=>ps.all fun p=>match p with| .int .. | .bool _=>true|_=>false
 |_=>false
theorem Qabl{X X':Nat->Prop}{p:PV}{v:Value}(hs:p.isScal=true)(h:Qco w X p v):Qco w X' p v:=by
 have one:∀(p:PV)(v:Value),(match p with| .int .. | .bool _=>true|_=>false:Bool)=true->Qai w X p v->Qai w X' p v:=by
  intro p v hs h;cases p with
  |int k n=>cases h;exact Qs.int k n
  |bool b=>cases h;exact Qs.bool b
  |_=>cases hs
 cases p with
 |int k n=>exact one (.int k n) v rfl h
 |bool b=>exact one (.bool b) v rfl h
 |tup ps=>obtain⟨vs,rfl,h1,h2⟩:=h;simp only[PV.isScal,List.all_eq_true]at hs;exact⟨vs,rfl,h1,fun i x hx=>one x _ (hs x (List.mem_of_getElem? hx)) (h2 i x hx)⟩
 |_=>cases hs
def Qis(C:Ctx)(R:Qg)(c:PV)(x y:SC)(sk:List It)(fr:Fr)(hp:HP):Prop:=Qms c (vc C R (.c x::sk) fr hp) (vc C R (.c y::sk) fr hp)
def brV(C:Ctx)(R:Qg)(x y:RT)(sk:List It)(fr:Fr)(hp:HP):Prop:=vc C R (.o x::sk) fr hp/\vc C R (.o y::sk) fr hp
def Qcx(C:Ctx)(p:PV)(s:Nat)(want:Bool)(o:SOp)(fr:Fr)(hp:HP)(K:Qg):Prop:=match p with
  |.bool t=>(t=want->opV C o (upd fr s (.bool want)) hp K)/\(t=(!want)->Qej o (upd fr s (.bool !want)) hp K)
  |.tup []=>Qej o fr hp K
  |_=>False
theorem Qb{p:Prop}[Decidable p]{x y:SC}{sk:List It}(h1:p->vc C R (.c x::sk) fr hp)(h2:¬p->vc C R (.c y::sk) fr hp):Qis C R (.bool (decide p)) x y sk fr hp:=
 ⟨fun h=>h1 (of_decide_eq_true h),fun h=>h2 (of_decide_eq_false h)⟩
theorem Qka{b:Bool}{x y:SC}{sk:List It}(h1:b=true->vc C R (.c x::sk) fr hp)(h2:b=false->vc C R (.c y::sk) fr hp):Qis C R (.bool b) x y sk fr hp:=⟨h1,h2⟩
theorem Qat{p:Prop}[Decidable p]{s:Nat}{o:SOp}(h1:p->Qcx C (.bool true) s true o (upd fr s (.bool true)) hp K)(h2:¬p->Qcx C (.bool false) s true o (upd fr s (.bool false)) hp K):Qcx C (.bool (decide p)) s true o fr hp K:=by
 have hu:∀(b:Bool),upd (upd fr s (.bool b)) s (.bool b)=upd fr s (.bool b):=fun b=>by funext i;unfold upd;split<;>rfl
 refine⟨fun h=>?_,fun h=>?_⟩
 ·have:=(h1 (of_decide_eq_true h)).1 rfl
  rwa[hu]at this
 ·have:=(h2 (of_decide_eq_false h)).2 rfl
  rwa[show(!true)=false from rfl,hu]at this
theorem Qab{p:Prop}[Decidable p]{s:Nat}{o:SOp}(h1:p->Qcx C (.bool true) s false o (upd fr s (.bool true)) hp K)(h2:¬p->Qcx C (.bool false) s false o (upd fr s (.bool false)) hp K):Qcx C (.bool (decide p)) s false o fr hp K:=by
 have hu:∀(b:Bool),upd (upd fr s (.bool b)) s (.bool b)=upd fr s (.bool b):=fun b=>by funext i;unfold upd;split<;>rfl
 refine⟨fun h=>?_,fun h=>?_⟩
 ·have:=(h2 (of_decide_eq_false h)).1 rfl
  rwa[hu]at this
 ·have:=(h1 (of_decide_eq_true h)).2 rfl
  rwa[show(!false)=true from rfl,hu]at this
theorem Qhg{b want:Bool}{s:Nat}{o:SOp}(h1:b=true->Qcx C (.bool true) s want o (upd fr s (.bool true)) hp K)(h2:b=false->Qcx C (.bool false) s want o (upd fr s (.bool false)) hp K):Qcx C (.bool b) s want o fr hp K:=by
 have:= @Qat C fr hp K (b=true) _ s o;have e:b=decide (b=true):=by cases b<;>rfl
 rw[e];cases want with
 |true=>exact Qat h1 (fun h=>h2 (by simpa using h))
 |false=>exact Qab h1 (fun h=>h2 (by simpa using h))
theorem Qabm{sk:List It}{c:Opd}{x y:SC}:vc C R (.c (.cond c x y)::sk) fr hp=Qis C R (ev fr c) x y sk fr hp:=Qrs
theorem Qalm{sk:List It}{x y:RT}:vc C R (.o (.br x y)::sk) fr hp=brV C R x y sk fr hp:=Qagq
theorem Qaln{sk:List It}{o:SOp}{r:RT}:vc C R (.o (.o none o r)::sk) fr hp=opV C o fr hp (vc C R (.o r::sk)):=Qud
theorem Qalo{sk:List It}{s:Nat}{b:Bool}{o:SOp}{r:RT}:vc C R (.o (.o (some (s,b)) o r)::sk) fr hp=Qcx C (fr s) s b o fr hp (vc C R (.o r::sk)):=Qud
theorem vcs:
  (∀(C:Ctx)(R:Qg)(sk:List It)(x y:SC)(fr:Fr)(hp:HP),vc C R (.c (.seq x y)::sk) fr hp=vc C R (.c x:: .c y::sk) fr hp)/\
  (∀(C:Ctx)(R:Qg)(sk:List It)(id:Nat)(x:SC)(fr:Fr)(hp:HP),vc C R (.c (.block id x)::sk) fr hp=vc C R (.c x:: .eb id::sk) fr hp)/\
  (∀(C:Ctx)(R:Qg)(sk:List It)(fr:Fr)(hp:HP),vc C R (.c .skip::sk) fr hp=vc C R sk fr hp)/\
  (∀(C:Ctx)(R:Qg)(sk:List It)(r:RT)(fr:Fr)(hp:HP),vc C R (.c (.rg r)::sk) fr hp=vc C R (.o r::sk) fr hp)/\
  (∀(C:Ctx)(R:Qg)(sk:List It)(id:Nat)(fr:Fr)(hp:HP),vc C R (.eb id::sk) fr hp=vc C R sk fr hp)/\
  (∀(C:Ctx)(R:Qg)(sk:List It)(J:Qg)(fr:Fr)(hp:HP),vc C R (.el J::sk) fr hp=J fr hp)/\
  (∀(C:Ctx)(R:Qg)(sk:List It)(fr:Fr)(hp:HP),vc C R (.c .ret::sk) fr hp=R fr hp)/\
  (∀(C:Ctx)(R:Qg)(fr:Fr)(hp:HP),vc C R [] fr hp=R fr hp)/\
  (∀(C:Ctx)(R:Qg)(sk:List It)(c:Opd)(x y:SC)(fr:Fr)(hp:HP),vc C R (.c (.cond c x y)::sk) fr hp=Qis C R (ev fr c) x y sk fr hp)/\
  (∀(C:Ctx)(R:Qg)(sk:List It)(id:Nat)(fr:Fr)(hp:HP),vc C R (.c (.exit id)::sk) fr hp=Qol C R (FW.Qap id sk) fr hp)/\
  (∀(C:Ctx)(R:Qg)(sk:List It)(fr:Fr)(hp:HP),vc C R (.o .nil::sk) fr hp=vc C R sk fr hp)/\
  (∀(C:Ctx)(R:Qg)(sk:List It)(o:SOp)(r:RT)(fr:Fr)(hp:HP),vc C R (.o (.o none o r)::sk) fr hp=opV C o fr hp (vc C R (.o r::sk)))/\
  (∀(C:Ctx)(R:Qg)(sk:List It)(s:Nat)(b:Bool)(o:SOp)(r:RT)(fr:Fr)(hp:HP),vc C R (.o (.o (some (s,b)) o r)::sk) fr hp=Qcx C (fr s) s b o fr hp (vc C R (.o r::sk)))/\
  (∀(C:Ctx)(R:Qg)(sk:List It)(x y:RT)(fr:Fr)(hp:HP),vc C R (.o (.br x y)::sk) fr hp=brV C R x y sk fr hp)/\
  (∀(C:Ctx)(R:Qg)(x y:SC)(sk:List It)(fr:Fr)(hp:HP),Qis C R (.bool true) x y sk fr hp=vc C R (.c x::sk) fr hp)/\
  (∀(C:Ctx)(R:Qg)(x y:SC)(sk:List It)(fr:Fr)(hp:HP),Qis C R (.bool false) x y sk fr hp=vc C R (.c y::sk) fr hp)/\
  (∀(C:Ctx)(R:Qg)(sk:List It)(fr:Fr)(hp:HP),Qol C R (some sk) fr hp=vc C R sk fr hp)/\
  (∀(id:Nat)(s:SC)(sk:List It),FW.Qap id (.c s::sk)=FW.Qap id sk)/\
  (∀(id:Nat)(r:RT)(sk:List It),FW.Qap id (.o r::sk)=FW.Qap id sk)/\
  (∀(id:Nat)(J:Qg)(sk:List It),FW.Qap id (.el J::sk)=FW.Qap id sk)/\
  (∀(id i:Nat)(sk:List It),FW.Qap id (.eb i::sk)=if i=id then some sk else FW.Qap id sk)/\
  (∀(C:Ctx)(s:Nat)(o:SOp)(fr:Fr)(hp:HP)(K:Qg),Qcx C (.bool true) s true o fr hp K=opV C o (upd fr s (.bool true)) hp K)/\
  (∀(C:Ctx)(s:Nat)(o:SOp)(fr:Fr)(hp:HP)(K:Qg),Qcx C (.bool false) s true o fr hp K=Qej o (upd fr s (.bool false)) hp K)/\
  (∀(C:Ctx)(s:Nat)(o:SOp)(fr:Fr)(hp:HP)(K:Qg),Qcx C (.bool true) s false o fr hp K=Qej o (upd fr s (.bool true)) hp K)/\
  (∀(C:Ctx)(s:Nat)(o:SOp)(fr:Fr)(hp:HP)(K:Qg),Qcx C (.bool false) s false o fr hp K=opV C o (upd fr s (.bool false)) hp K)/\
  (∀(C:Ctx)(s:Nat)(b:Bool)(o:SOp)(fr:Fr)(hp:HP)(K:Qg),Qcx C (.tup []) s b o fr hp K=Qej o fr hp K):=by
 refine⟨fun _ _ _ _ _ _ _=>Qug,fun _ _ _ _ _ _ _=>Qoj,fun _ _ _ _ _=>Qrr,fun _ _ _ _ _ _=>Q49,fun _ _ _ _ _ _=>Qzi,fun _ _ _ _ _ _=>Qok,fun _ _ _ _ _=>Quh,fun _ _ _ _=>Ql1,fun _ _ _ _ _ _ _ _=>Qabm,
  fun _ _ _ _ _ _=>Qrt,fun _ _ _ _ _=>Qqd,fun _ _ _ _ _ _ _=>Qaln,fun _ _ _ _ _ _ _ _ _=>Qalo,fun _ _ _ _ _ _ _=>Qalm,fun _ _ _ _ _ _ _=>?_,fun _ _ _ _ _ _ _=>?_,fun _ _ _ _ _=>rfl,fun _ _ _=>rfl,fun _ _ _=>rfl,fun _ _ _=>rfl,fun _ _ _=>rfl,?_,?_,?_,?_,fun _ _ _ _ _ _ _=>rfl⟩
 ·simp[Qis,Qms]
 ·simp[Qis,Qms]
 all_goals intros;simp[Qcx]
end Go.FW
namespace Go.FW
open Go
variable {C : Ctx} {fr : Fr} {hp : HP} {K R : Qg}
theorem Qh7{n:Int}(h1: -9223372036854775808<=n)(h2:n<=9223372036854775807):IntKind.i64.wrap n=n:=by rw[IntKind.wrap_i64];omega
theorem Qabn{n:Int}(h1: -2147483648<=n)(h2:n<=2147483647):IntKind.i32.wrap n=n:=by rw[IntKind.wrap_i32];omega
theorem Qf7{n:Int}(h1:0<=n)(h2:n<=18446744073709551615):IntKind.u64.wrap n=n:=by rw[IntKind.wrap_u64];omega
theorem Qoo{n:Int}(h1:0<=n)(h2:n<=4294967295):IntKind.u32.wrap n=n:=by rw[IntKind.wrap_u32];omega
theorem Qabo{n:Int}(h1:0<=n)(h2:n<=65535):IntKind.u16.wrap n=n:=by simp only[IntKind.wrap,IntKind.bits,IntKind.signed];simp;omega
theorem Qag1{n:Int}(h1:0<=n)(h2:n<=255):IntKind.u8.wrap n=n:=by rw[IntKind.wrap_u8];omega
theorem Qag2{x y:Int}(h:0<=x):x.tdiv y=x/y:=Int.tdiv_eq_ediv_of_nonneg h
theorem Qag3{x y:Int}(h:0<=x):x.tmod y=x%y:=Int.tmod_eq_emod_of_nonneg h
def ldM(hb:Option HB)(n:Nat)(ag:Bool)(i o:Nat)(d:Nat)(fr:Fr)(hp:HP)(K:Qg):Prop:=match hb with
 |some hb=>∃h:i<hb.xs.length,o+n<=hb.e/\(ag=false->n=1)/\K (upd fr d (ldV ag n o (hb.xs[i]'h))) hp
 |none=>False
def stM (hb:Option HB) (β:Nat) (n:Nat) (i o:Nat) (v:PV) (fr:Fr) (hp:HP) (K:Qg):Prop:=match hb with
  |some hb=>hb.fz=false/\v.isData=true/\v.cells.length=n/\∃h:i<hb.xs.length,o+n<=hb.e/\
        K fr (Qv hp β { hb with xs:=hb.xs.set i (if n=hb.e then v else stV (hb.xs[i]'h) o v) })
  |none=>False
def Qwp(R:PV->Prop)(p:PV):Prop:=p.isData=true/\∃q,PV.le p q/\R q
theorem Qc{p r:PV}(h:p=r)(hd:r.isData=true):Qwp (· =r) p:=by subst h;exact⟨hd,_,Q2 _,rfl⟩
theorem Qeq{p r:PV}(h:PV.le p r)(hd:p.isData=true):Qwp (· =r) p:=⟨hd,_,h,rfl⟩
theorem Q3l{e ty n:Nat}{ag fz:Bool}{o d:Nat}{x:PV}(h:o+n<=e)(ha:ag=false->n=1):ldM (some ⟨e,ty,[x],fz⟩) n ag 0 o d fr hp K=K (upd fr d (ldV ag n o x)) hp:=by simp[ldM,h];intro _;exact ha
theorem Qkb{e ty n i:Nat}{ag fz:Bool}{o d:Nat}{xs:List PV}(h:i<xs.length)(h1:o+n<=e)(ha:ag=false->n=1):ldM (some ⟨e,ty,xs,fz⟩) n ag i o d fr hp K=K (upd fr d (ldV ag n o (xs[i]'h))) hp:=by simp[ldM,h,h1];intro _;exact ha
theorem Qalp{e ty n β i:Nat}{o:Nat}{xs:List PV}{v:PV}(h:i<xs.length)(hv:v.isData=true)(hl:v.cells.length=n)(h1:o+n<=e):stM (some ⟨e,ty,xs,false⟩) β n i o v fr hp K=K fr (Qv hp β ⟨e,ty,xs.set i (if n=e then v else stV (xs[i]'h) o v),false⟩):=by simp[stM,h,h1,hv,hl]
theorem Qqg{ty n β i:Nat}{xs:List PV}{v:PV}(h:i<xs.length)(hv:v.isData=true)(hl:v.cells.length=n):stM (some ⟨n,ty,xs,false⟩) β n i 0 v fr hp K=K fr (Qv hp β ⟨n,ty,xs.set i v,false⟩):=by rw[Qalp h hv hl (by omega)];simp
theorem Q0c{e d:Nat}{k:IntKind}{m:Int}{xs:List PV}(h0:0<=m)(h:m<xs.length):Qci e (.sl e xs) (.int k m) d fr hp K=K (upd fr d (.pt (xs[m.toNat]'(by omega)).cells)) hp:=by
 have:m.toNat<xs.length:=by omega
 simp[Qci,h0,this]
theorem Qll{α:Type}{f:α->PV}{e d:Nat}{k:IntKind}{m:Int}{xs:List α}(h0:0<=m)(h:m<xs.length):Qci e (.sl e (xs.map f)) (.int k m) d fr hp K=K (upd fr d (.pt (f (xs[m.toNat]'(by omega))).cells)) hp:=by rw[Q0c h0 (by simpa using h)];simp
theorem Quk{e d β o n:Nat}{k:IntKind}{m:Int}(h0:0<=m)(h:m<n)(he:(hp β).map (·.e)=some e):Qci e (.mso β o n) (.int k m) d fr hp K=K (upd fr d (.mp β (o+m.toNat) 0)) hp:=by
 have:m.toNat<n:=by omega
 simp[Qci,h0,this,he]
theorem Qzj{e by_ ty d:Nat}{z:PV}{k k':IntKind}{L Cc:Int}(h0:0<e)(hz:z.cells.length=e)(h1:0<=L)(h2:L<=Cc)(h3:by_*Cc<=281474976710656)(h4:Cc<=9223372036854775807):
  mkK e by_ ty z (.int k L) (.int k' Cc) d fr hp K=K (upd (Qa2 d fr) d (.ms d L.toNat)) (Qv hp d ⟨e,ty,List.replicate L.toNat z,false⟩):=by
 simp[mkK,h0,hz,h1,h2,h3,h4]
theorem Qalq{n ty d β o m:Nat}(hB:isY β=true):Qdu n ty (.mso β o m) d fr hp K=K (upd fr d (.rb β o m)) hp:=by simp[Qdu,hB]
theorem Qaqs{d β o m:Nat}:ldK 1 false (.rb β o m) d fr hp K=K (upd fr d (.mso β o m)) hp:=by simp[ldK]
theorem Qk8{e by_ ty d:Nat}{x:PV}{ys:List PV}(hs:Qe6 hp x=some (e,ys))(h0:0<e)(h1:ys.length*by_<=140737488355328)(h2:ys.length<=9223372036854775807):
  Qgq e by_ ty .nilS x d fr hp K=K (upd (Qa2 d fr) d (.ms d ys.length)) (Qv hp d ⟨e,ty,ys,false⟩):=by
 simp[Qgq,hs,h0,h1,h2]
theorem Qop{e by_ ty d β n:Nat}{x:PV}{ys xs:List PV}(hs:Qe6 hp x=some (e,ys))(hb:hp β=some ⟨e,ty,xs,false⟩)(h0:0<e)(hn:n<=xs.length)(h1:(n+ys.length)*by_<=140737488355328)(h2:n+ys.length<=9223372036854775807)(hB:isB β=false:=by decide):
  Qgq e by_ ty (.ms β n) x d fr hp K=K (upd (Qa2 β fr) d (.ms β (n+ys.length))) (Qv hp β ⟨e,ty,xs.take n++ys,false⟩):=by
 simp[Qgq,hs,hb,h0,hn,h1,h2,hB]
theorem Q5h{e d:Nat}{xs:List PV}{lo hi:Option PV}{L H:Int}(h1:Qca 0 lo=some L)(h2:Qca xs.length hi=some H)(h3:0<=L)(h4:L<=H)(h5:H<=xs.length):
  slK e (.sl e xs) lo hi none d fr hp K=K (upd fr d (.sl e ((xs.take H.toNat).drop L.toNat))) hp:=by
 have hM:Qca (xs.length) none=some (xs.length:Int):=rfl;simp only[slK,h1,h2,hM];simp[h3,h4,h5]
theorem Qaqt{e d:Nat}{xs:List PV}{k:IntKind}{H:Int}(h4:0<=H)(h5:H<=xs.length):
  slK e (.sl e xs) none (some (.int k H)) none d fr hp K=K (upd fr d (.sl e (xs.take H.toNat))) hp:=by
 rw[Q5h (L:=0) (H:=H) rfl rfl (by omega) h4 h5];simp
theorem Qaqu{e d:Nat}{xs:List PV}{k:IntKind}{L:Int}(h4:0<=L)(h5:L<=xs.length):
  slK e (.sl e xs) (some (.int k L)) none none d fr hp K=K (upd fr d (.sl e (xs.drop L.toNat))) hp:=by
 rw[Q5h (L:=L) (H:=xs.length) rfl rfl h4 h5 (by omega)];simp
theorem ops1:
  (∀(C:Ctx)(d:Nat)(x:Opd)(fr:Fr)(hp:HP)(K:Qg),opV C (.mv d x) fr hp K=K (upd fr d (ev fr x)) hp)/\
  (∀(C:Ctx)(d:Nat)(c a b:Opd)(fr:Fr)(hp:HP)(K:Qg),opV C (.pick d c a b) fr hp K=Qk5 (ev fr c) (ev fr a) (ev fr b) d fr hp K)/\
  (∀(C:Ctx)(d:Nat)(op:BinOp)(bt:Bool)(a b:Opd)(fr:Fr)(hp:HP)(K:Qg),opV C (.bin d op bt a b) fr hp K=Qa9 op bt (ev fr a) (ev fr b) d fr hp K)/\
  (∀(C:Ctx)(d:Nat)(op:UnOp)(a:Opd)(fr:Fr)(hp:HP)(K:Qg),opV C (.un d op a) fr hp K=unK op (ev fr a) d fr hp K)/\
  (∀(C:Ctx)(d:Nat)(k:IntKind)(a:Opd)(fr:Fr)(hp:HP)(K:Qg),opV C (.conv d k a) fr hp K=Qof k (ev fr a) d fr hp K)/\
  (∀(C:Ctx)(d:Nat)(a:Opd)(fr:Fr)(hp:HP)(K:Qg),opV C (.len d a) fr hp K=Qkr (ev fr a) d fr hp K)/\
  (∀(C:Ctx)(d:Nat)(a b:Opd)(fr:Fr)(hp:HP)(K:Qg),opV C (.mx d a b) fr hp K=mxK (ev fr a) (ev fr b) d fr hp K)/\
  (∀(C:Ctx)(d:Nat)(a b:Opd)(fr:Fr)(hp:HP)(K:Qg),opV C (.mn d a b) fr hp K=mnK (ev fr a) (ev fr b) d fr hp K)/\
  (∀(C:Ctx)(d e:Nat)(a b:Opd)(fr:Fr)(hp:HP)(K:Qg),opV C (.idx d e a b) fr hp K=Qci e (ev fr a) (ev fr b) d fr hp K)/\
  (∀(C:Ctx)(d n e:Nat)(a b:Opd)(fr:Fr)(hp:HP)(K:Qg),opV C (.idxA d n e a b) fr hp K=Qjt n e (ev fr a) (ev fr b) d fr hp K)/\
  (∀(C:Ctx)(d n e:Nat)(ag:Bool)(a b:Opd)(fr:Fr)(hp:HP)(K:Qg),opV C (.ixv d n e ag a b) fr hp K=Qwd n e ag (ev fr a) (ev fr b) d fr hp K)/\
  (∀(C:Ctx)(d off:Nat)(a:Opd)(fr:Fr)(hp:HP)(K:Qg),opV C (.fld d off a) fr hp K=Qna off (ev fr a) d fr hp K)/\
  (∀(C:Ctx)(d off n:Nat)(ag:Bool)(a:Opd)(fr:Fr)(hp:HP)(K:Qg),opV C (.fldv d off n ag a) fr hp K=Qju off n ag (ev fr a) d fr hp K)/\
  (∀(C:Ctx)(d n:Nat)(ag:Bool)(a:Opd)(fr:Fr)(hp:HP)(K:Qg),opV C (.ld d n ag a) fr hp K=ldK n ag (ev fr a) d fr hp K)/\
  (∀(C:Ctx)(n:Nat)(a b:Opd)(fr:Fr)(hp:HP)(K:Qg),opV C (.st n a b) fr hp K=stK n (ev fr a) (ev fr b) fr hp K)/\
  (∀(C:Ctx)(d n ty:Nat)(a:Opd)(fr:Fr)(hp:HP)(K:Qg),opV C (.box d n ty a) fr hp K=Qdu n ty (ev fr a) d fr hp K)/\
  (∀(C:Ctx)(d n ty:Nat)(z:PV)(fr:Fr)(hp:HP)(K:Qg),opV C (.alloc d n ty z) fr hp K=Qdu n ty z d fr hp K)/\
  (∀(C:Ctx)(d e by_ ty:Nat)(z:PV)(l c:Opd)(fr:Fr)(hp:HP)(K:Qg),opV C (.mk d e by_ ty z l c) fr hp K=mkK e by_ ty z (ev fr l) (ev fr c) d fr hp K)/\
  (∀(C:Ctx)(d e ty:Nat)(ps:List Opd)(fr:Fr)(hp:HP)(K:Qg),opV C (.bs d e ty ps) fr hp K=bsK e ty (ps.map (ev fr)) d fr hp K)/\
  (∀(C:Ctx)(d e by_ ty:Nat)(a b:Opd)(fr:Fr)(hp:HP)(K:Qg),opV C (.app d e by_ ty a b) fr hp K=Qgq e by_ ty (ev fr a) (ev fr b) d fr hp K)/\
  (∀(C:Ctx)(d e:Nat)(a b:Opd)(fr:Fr)(hp:HP)(K:Qg),opV C (.cpy d e a b) fr hp K=Qp9 e (ev fr a) (ev fr b) d fr hp K)/\
  (∀(C:Ctx)(d e:Nat)(a:Opd)(l h m:Option Opd)(fr:Fr)(hp:HP)(K:Qg),opV C (.sl d e a l h m) fr hp K=slK e (ev fr a) (l.map (ev fr)) (h.map (ev fr)) (m.map (ev fr)) d fr hp K)/\
  (∀(C:Ctx)(d:Nat)(a:Opd)(i:Nat)(fr:Fr)(hp:HP)(K:Qg),opV C (.ext d a i) fr hp K=Qg1 (ev fr a) i d fr hp K)/\
  (∀(C:Ctx)(d:Nat)(z:List PV)(ps:List (Nat×Nat×Opd))(fr:Fr)(hp:HP)(K:Qg),opV C (.bld d z ps) fr hp K=Qg2 z (ps.map fun p=>(p.1,p.2.1,ev fr p.2.2)) d fr hp K)/\
  (∀(C:Ctx)(d f:Nat)(x y:List Opd)(fr:Fr)(hp:HP)(K:Qg),opV C (.fn d f x y) fr hp K=((x.map (ev fr)++y.map (ev fr)).all PV.isCap=true/\K (upd fr d (.fn f (x.map (ev fr)) (y.map (ev fr)))) hp))/\
  (∀(C:Ctx)(d:Option Nat)(pr:Bool)(f:Opd)(ars:List Opd)(fr:Fr)(hp:HP)(K:Qg),opV C (.call d pr f ars) fr hp K=Qgw C pr (ev fr f) (ars.map (ev fr)) d fr hp K)/\
  (∀(C:Ctx)(d:Option Nat)(x:Opd)(fr:Fr)(hp:HP)(K:Qg),opV C (.nilc d x) fr hp K=Qt3 (ev fr x) d fr hp K)/\
  (∀(fr:Fr)(n:Nat),ev fr (.t n)=fr n)/\(∀(fr:Fr)(p:PV),ev fr (.c p)=p):=by
 refine⟨?_,?_,?_,?_,?_,?_,?_,?_,?_,?_,?_,?_,?_,?_,?_,?_,?_,?_,?_,?_,?_,?_,?_,?_,?_,?_,?_,?_,?_⟩<;>intros<;>rfl
theorem ops2:
  (∀(bt:Bool)(k:IntKind)(x y:Int)(d:Nat)(fr:Fr)(hp:HP)(K:Qg),Qa9 .add bt (.int k x) (.int k y) d fr hp K=K (upd fr d (.int k (k.wrap (x+y)))) hp)/\
  (∀(bt:Bool)(k:IntKind)(x y:Int)(d:Nat)(fr:Fr)(hp:HP)(K:Qg),Qa9 .sub bt (.int k x) (.int k y) d fr hp K=K (upd fr d (.int k (k.wrap (x-y)))) hp)/\
  (∀(bt:Bool)(k:IntKind)(x y:Int)(d:Nat)(fr:Fr)(hp:HP)(K:Qg),Qa9 .mul bt (.int k x) (.int k y) d fr hp K=K (upd fr d (.int k (k.wrap (x*y)))) hp)/\
  (∀(bt:Bool)(k:IntKind)(x y:Int)(d:Nat)(fr:Fr)(hp:HP)(K:Qg),Qa9 .eql bt (.int k x) (.int k y) d fr hp K=K (upd fr d (.bool (decide (x=y)))) hp)/\
  (∀(bt:Bool)(k:IntKind)(x y:Int)(d:Nat)(fr:Fr)(hp:HP)(K:Qg),Qa9 .neq bt (.int k x) (.int k y) d fr hp K=K (upd fr d (.bool (decide (¬x=y)))) hp)/\
  (∀(bt:Bool)(k:IntKind)(x y:Int)(d:Nat)(fr:Fr)(hp:HP)(K:Qg),Qa9 .lss bt (.int k x) (.int k y) d fr hp K=K (upd fr d (.bool (decide (x<y)))) hp)/\
  (∀(bt:Bool)(k:IntKind)(x y:Int)(d:Nat)(fr:Fr)(hp:HP)(K:Qg),Qa9 .leq bt (.int k x) (.int k y) d fr hp K=K (upd fr d (.bool (decide (x<=y)))) hp)/\
  (∀(bt:Bool)(k:IntKind)(x y:Int)(d:Nat)(fr:Fr)(hp:HP)(K:Qg),Qa9 .gtr bt (.int k x) (.int k y) d fr hp K=K (upd fr d (.bool (decide (y<x)))) hp)/\
  (∀(bt:Bool)(k:IntKind)(x y:Int)(d:Nat)(fr:Fr)(hp:HP)(K:Qg),Qa9 .geq bt (.int k x) (.int k y) d fr hp K=K (upd fr d (.bool (decide (y<=x)))) hp)/\
  (∀(x y:Bool)(d:Nat)(fr:Fr)(hp:HP)(K:Qg),Qa9 .eql true (.bool x) (.bool y) d fr hp K=K (upd fr d (.bool (x==y))) hp)/\
  (∀(x y:Bool)(d:Nat)(fr:Fr)(hp:HP)(K:Qg),Qa9 .neq true (.bool x) (.bool y) d fr hp K=K (upd fr d (.bool (!(x==y)))) hp)/\
  (∀(b:Bool)(d:Nat)(fr:Fr)(hp:HP)(K:Qg),unK .not (.bool b) d fr hp K=K (upd fr d (.bool (!b))) hp)/\
  (∀(k:IntKind)(n:Int)(d:Nat)(fr:Fr)(hp:HP)(K:Qg),unK .neg (.int k n) d fr hp K=K (upd fr d (.int k (k.wrap (0-n)))) hp)/\
  (∀(k k':IntKind)(n:Int)(d:Nat)(fr:Fr)(hp:HP)(K:Qg),Qof k (.int k' n) d fr hp K=K (upd fr d (.int k (k.wrap n))) hp)/\
  (∀(d:Nat)(fr:Fr)(hp:HP)(K:Qg),Qkr .nilS d fr hp K=K (upd fr d (.int .i64 0)) hp)/\
  (∀(e:Nat)(xs:List PV)(d:Nat)(fr:Fr)(hp:HP)(K:Qg),Qkr (.sl e xs) d fr hp K=K (upd fr d (.int .i64 xs.length)) hp)/\
  (∀(β o n:Nat)(d:Nat)(fr:Fr)(hp:HP)(K:Qg),Qkr (.mso β o n) d fr hp K=K (upd fr d (.int .i64 n)) hp)/\
  (∀(k k':IntKind)(x y:Int)(d:Nat)(fr:Fr)(hp:HP)(K:Qg),mxK (.int k x) (.int k' y) d fr hp K=K (upd fr d (.int k (max x y))) hp)/\
  (∀(k k':IntKind)(x y:Int)(d:Nat)(fr:Fr)(hp:HP)(K:Qg),mnK (.int k x) (.int k' y) d fr hp K=K (upd fr d (.int k (min x y))) hp)/\
  (∀(a b:PV)(d:Nat)(fr:Fr)(hp:HP)(K:Qg),Qk5 (.bool true) a b d fr hp K=K (upd fr d a) hp)/\
  (∀(a b:PV)(d:Nat)(fr:Fr)(hp:HP)(K:Qg),Qk5 (.bool false) a b d fr hp K=K (upd fr d b) hp)/\
  (∀(off β i o:Nat)(d:Nat)(fr:Fr)(hp:HP)(K:Qg),Qna off (.mp β i o) d fr hp K=K (upd fr d (.mp β i (o+off))) hp)/\
  (∀(n:Nat)(ag:Bool)(β i o:Nat)(d:Nat)(fr:Fr)(hp:HP)(K:Qg),ldK n ag (.mp β i o) d fr hp K=ldM (hp β) n ag i o d fr hp K)/\
  (∀(c:PV)(cs:List PV)(d:Nat)(fr:Fr)(hp:HP)(K:Qg),ldK 1 false (.pt (c::cs)) d fr hp K=K (upd fr d c) hp)/\
  (∀(n:Nat)(β i o:Nat)(v:PV)(fr:Fr)(hp:HP)(K:Qg),stK n (.mp β i o) v fr hp K=stM (Qaj hp v.refs β) β n i o (Qaa hp v) fr (Qaj hp v.refs) K)/\
  (∀(ps:List PV)(p:PV)(d:Nat)(fr:Fr)(hp:HP)(K:Qg),Qg1 (.tup (p::ps)) 0 d fr hp K=(p.isData=true/\K (upd fr d p) hp))/\
  (∀(ps:List PV)(p q:PV)(d:Nat)(fr:Fr)(hp:HP)(K:Qg),Qg1 (.tup (p::q::ps)) 1 d fr hp K=(q.isData=true/\K (upd fr d q) hp))/\
  (∀(ps:List PV)(p q r:PV)(d:Nat)(fr:Fr)(hp:HP)(K:Qg),Qg1 (.tup (p::q::r::ps)) 2 d fr hp K=(r.isData=true/\K (upd fr d r) hp))/\
  (∀(s:Nat)(Rr:PV->Prop)(fr:Fr)(hp:HP),Qdx [.t s] Rr fr hp=Qwp Rr (Qaa hp (fr s)))/\
  (∀(e:Nat)(xs:List PV),Qe6 hp0 (.sl e xs)=some (e,xs))/\
  (∀(hp:HP),Qaj hp []=hp)/\
  (∀(fr:Fr)(r:PV),Qkv fr none r=fr)/\(∀(fr:Fr)(d:Nat)(r:PV),Qkv fr (some d) r=upd fr d r)/\
  (∀(β:Nat)(fr:Fr)(i:Nat),Qa2 β fr i=Qaq β (fr i)):=by
 refine⟨?_,?_,?_,?_,?_,?_,?_,?_,?_,?_,?_,?_,?_,?_,?_,?_,?_,?_,?_,?_,?_,?_,?_,?_,?_,?_,?_,?_,?_,?_,?_,?_,?_,?_⟩<;>intros
 all_goals first
  |rfl
  |(simp[Qa9,Qk5,Qg1,ldK,ldV,PV.cells,stK,stM];done)
  |(simp[Qa9,Qk5,Qg1,ldK,ldV,PV.cells,stK,stM];try rfl)
  |skip
end Go.FW
namespace Go.FW
open Go
variable {C : Ctx} {ρ : Nat -> Option Nat} {fr : Fr} {hp : HP} {w : World} {K R : Qg}
theorem Q7x(i β e ty:Nat)(he:0<e)(hi:fr i= .nilS)(hB:isB β=false:=by decide):Wk fr hp (upd (Qa2 β fr) i (.ms β 0)) (Qv hp β ⟨e,ty,[],false⟩):=by
 rintro C tmps w ⟨ρ,hs⟩;have hr:=hs.rebind (w':=w) β none ⟨e,ty,[],false⟩ hB (Ext.refl _ _) (by simp) he (by simp) (by simp) (by simp);refine⟨_,hr.sz,hr.ext,hr.keep,hr.own,hr.inj,fun j=>?_⟩;unfold upd;split
 ·rename_i hj;subst hj;have:=hs.slots j;rw[hi]at this;have e:=Qr.nil_inv this;exact⟨_,by simp[Qv];rfl,by simp,.inl ⟨Qb0 _ _ _,e,rfl,rfl⟩⟩
 ·exact hr.slots j
end Go.FW
namespace Go.FW
open Go
variable {C : Ctx} {ρ : Nat -> Option Nat} {fr : Fr} {hp : HP} {w : World} {K R : Qg}
theorem Qag4(fr:Fr)(a:Nat)(v w:PV):upd (upd fr a v) a w=upd fr a w:=by funext i;unfold upd;split<;>rfl
theorem Qqh{α:Type}{f:α->PV}{e d:Nat}{xs:List α}{k:IntKind}{H:Int}(h4:0<=H)(h5:H<=xs.length):
  slK e (.sl e (xs.map f)) none (some (.int k H)) none d fr hp K=K (upd fr d (.sl e ((xs.take H.toNat).map f))) hp:=by
 rw[Qaqt h4 (by simpa using h5)];simp
theorem Q7y{α:Type}{f:α->PV}{e d:Nat}{xs:List α}{k:IntKind}{L:Int}(h4:0<=L)(h5:L<=xs.length):
  slK e (.sl e (xs.map f)) (some (.int k L)) none none d fr hp K=K (upd fr d (.sl e ((xs.drop L.toNat).map f))) hp:=by
 rw[Qaqu h4 (by simpa using h5)];simp
theorem Q2f{α:Type}{f:α->PV}{e d:Nat}{xs:List α}{k k':IntKind}{L H:Int}(h3:0<=L)(h4:L<=H)(h5:H<=xs.length):
  slK e (.sl e (xs.map f)) (some (.int k L)) (some (.int k' H)) none d fr hp K=K (upd fr d (.sl e (((xs.take H.toNat).drop L.toNat).map f))) hp:=by
 rw[Q5h (L:=L) (H:=H) rfl rfl h3 h4 (by simpa using h5)];simp
theorem Qag5(hp:HP)(e:Nat)(xs:List PV):Qaa hp (.sl e xs)= .sl e xs:=rfl
theorem Qabp(hp:HP)(k:IntKind)(n:Int):Qaa hp (.int k n)= .int k n:=rfl
theorem Q7z(hp:HP)(b:Bool):Qaa hp (.bool b)= .bool b:=rfl
theorem Qabq(hp:HP)(cs:List PV):Qaa hp (.agg cs)= .agg cs:=rfl
theorem Qabr(hp:HP):Qaa hp .nilS= .nilS:=rfl
theorem Q3m(hp:HP)(β n:Nat)(e ty:Nat)(xs:List PV)(fz:Bool)(h:hp β=some ⟨e,ty,xs,fz⟩)(hB:isB β=false:=by decide):Qaa hp (.ms β n)= .sl e (xs.take n):=by simp[Qaa,Qa0,h,Qlu hB]
theorem Qag6(e:Nat)(xs:List PV):(PV.sl e xs).refs=[]:=rfl
theorem Qabs(k:IntKind)(n:Int):(PV.int k n).refs=[]:=rfl
theorem Q70(b:Bool):(PV.bool b).refs=[]:=rfl
theorem Qabt(cs:List PV):(PV.agg cs).refs=[]:=rfl
theorem Qabu:PV.nilS.refs=[]:=rfl
theorem Qabv(β e:Nat)(xs:List PV):Qaq β (.sl e xs)= .sl e xs:=rfl
theorem Q71(β:Nat)(k:IntKind)(n:Int):Qaq β (.int k n)= .int k n:=rfl
theorem Q5i(β:Nat)(b:Bool):Qaq β (.bool b)= .bool b:=rfl
theorem Q72(β:Nat)(cs:List PV):Qaq β (.agg cs)= .agg cs:=rfl
theorem Q73(β:Nat):Qaq β .nilS= .nilS:=rfl
theorem Q0d(β γ o n:Nat):Qaq β (.mso γ o n)=if γ=β then .undef else .mso γ o n:=by
 by_cases h:γ=β
 ·subst h;simp[Qaq,PV.refs]
 ·simp[Qaq,PV.refs,h];intro h';exact absurd h'.symm h
theorem Qabw(β γ o n:Nat):Qaq β (.rb γ o n)=if γ=β then .undef else .rb γ o n:=by
 by_cases h:γ=β
 ·subst h;simp[Qaq,PV.refs]
 ·simp[Qaq,PV.refs,h];intro h';exact absurd h'.symm h
theorem Q0e(β γ i o:Nat):Qaq β (.mp γ i o)=if γ=β then .undef else .mp γ i o:=by
 by_cases h:γ=β
 ·subst h;simp[Qaq,PV.refs]
 ·simp[Qaq,PV.refs,h];intro h';exact absurd h'.symm h
theorem Qaqv:
  (∀(fr:Fr)(a:Nat)(v:PV)(b:Nat),upd fr a v b=if b=a then v else fr b)/\
  (∀(h:HP)(a:Nat)(v:HB)(b:Nat),Qv h a v b=if b=a then some v else h b)/\
  (∀(β:Nat),hp0 β=none)/\
  (∀(hp:HP)(e:Nat)(xs:List PV),Qaa hp (.sl e xs)= .sl e xs)/\
  (∀(hp:HP)(k:IntKind)(n:Int),Qaa hp (.int k n)= .int k n)/\
  (∀(hp:HP)(b:Bool),Qaa hp (.bool b)= .bool b)/\
  (∀(hp:HP)(cs:List PV),Qaa hp (.agg cs)= .agg cs)/\
  (∀(hp:HP),Qaa hp .nilS= .nilS)/\
  (∀(e:Nat)(xs:List PV),(PV.sl e xs).refs=[])/\
  (∀(k:IntKind)(n:Int),(PV.int k n).refs=[])/\
  (∀(b:Bool),(PV.bool b).refs=[])/\
  (∀(cs:List PV),(PV.agg cs).refs=[])/\
  (PV.nilS.refs=[])/\
  (∀(β o n:Nat),(PV.mso β o n).refs=[β])/\
  (∀(β i o:Nat),(PV.mp β i o).refs=[β])/\
  (∀(β e:Nat)(xs:List PV),Qaq β (.sl e xs)= .sl e xs)/\
  (∀(β:Nat)(k:IntKind)(n:Int),Qaq β (.int k n)= .int k n)/\
  (∀(β:Nat)(b:Bool),Qaq β (.bool b)= .bool b)/\
  (∀(β:Nat)(cs:List PV),Qaq β (.agg cs)= .agg cs)/\
  (∀(β:Nat),Qaq β .nilS= .nilS)/\
  (∀(β γ o n:Nat),Qaq β (.mso γ o n)=if γ=β then .undef else .mso γ o n)/\
  (∀(β γ i o:Nat),Qaq β (.mp γ i o)=if γ=β then .undef else .mp γ i o)/\
  (∀(β γ o n:Nat),Qaq β (.rb γ o n)=if γ=β then .undef else .rb γ o n)/\
  (∀(β o n:Nat),(PV.rb β o n).refs=[β])/\
  (∀(o:SOp)(fr:Fr)(hp:HP)(K:Qg),Qej o fr hp K=match o.dst with|some d=>K (upd fr d (.tup [])) hp|none=>K fr hp)/\
  (∀(f:Opd->PV),Option.map f none=none)/\(∀(f:Opd->PV)(x:Opd),Option.map f (some x)=some (f x))/\
  (∀(k:IntKind)(n:Int),(PV.int k n).cells=[.int k n])/\
  (∀(b:Bool),(PV.bool b).cells=[.bool b])/\
  (∀(e:Nat)(xs:List PV),(PV.sl e xs).cells=[.sl e xs])/\
  (∀(cs:List PV),(PV.agg cs).cells=cs):=by
 refine⟨fun _ _ _ _=>rfl,fun _ _ _ _=>rfl,fun _=>rfl,Qag5,Qabp,Q7z,Qabq,Qabr,Qag6,Qabs,Q70,Qabt,Qabu,fun _ _ _=>rfl,fun _ _ _=>rfl,Qabv,Q71,Q5i,Q72,Q73,Q0d,Q0e,Qabw,fun _ _ _=>rfl,fun _ _ _ _=>rfl,fun _=>rfl,fun _ _=>rfl,fun _ _=>rfl,fun _=>rfl,fun _ _=>rfl,fun _=>rfl⟩
theorem Qaqw{p:Nat->Prop}(h:∃m,p m):∃m,p m/\∀k,p k->m<=k:=by
 obtain⟨m,hm⟩:=h;induction m using Nat.strongRecOn with
 |ind m ih=>
  by_cases hk:∃k,k<m/\p k
  ·obtain⟨k,h1,h2⟩:=hk;exact ih k h1 h2
  ·exact⟨m,hm,fun k hk'=>Nat.le_of_not_lt fun hlt=>hk ⟨k,hlt,hk'⟩⟩
def Qnu(I:Nat->Qg)(n:Nat):Qg:=fun fr' hp'=>∃fr0 hp0,Wk fr' hp' fr0 hp0/\∃m,m<n/\I m fr0 hp0
theorem Qcg{I:Nat->Qg}{n m:Nat}(hl:m<n)(h:I m fr hp):Qnu I n fr hp:=⟨fr,hp,Wk.refl _ _,m,hl,h⟩
theorem Qtc{I:Nat->Qg}{n m:Nat}{fr':Fr}{hp':HP}(hl:m<n)(hw:Wk fr hp fr' hp')(h:I m fr' hp'):Qnu I n fr hp:=⟨fr',hp',hw,m,hl,h⟩
theorem Qkc{sk:List It}{x:SC}(I:Nat->Qg)(m0:Nat){fr0:Fr}{hp0:HP}(hw:Wk fr hp fr0 hp0)(h0:I m0 fr0 hp0)(h:∀m fr hp,I m fr hp->vc C R (.c x:: .el (Qnu I m)::sk) fr hp):vc C R (.c (.loop x)::sk) fr hp:=by
 refine Qabj (fun fr hp=>∃m,I m fr hp) (fun fr hp=>Classical.epsilon fun m=>I m fr hp/\∀k,I k fr hp->m<=k) hw ⟨m0,h0⟩ ?_;intro fr hp hI;have key:∀fr hp,(∃m,I m fr hp)->I (Classical.epsilon fun m=>I m fr hp/\∀k,I k fr hp->m<=k) fr hp/\∀k,I k fr hp->(Classical.epsilon fun m=>I m fr hp/\∀k,I k fr hp->m<=k)<=k:=fun fr hp hI=>Classical.epsilon_spec (Qaqw hI);have e:Qru (fun fr hp=>∃m,I m fr hp) (fun fr hp=>Classical.epsilon fun m=>I m fr hp/\∀k,I k fr hp->m<=k) (Classical.epsilon fun m=>I m fr hp/\∀k,I k fr hp->m<=k)=Qnu I (Classical.epsilon fun m=>I m fr hp/\∀k,I k fr hp->m<=k):=by
  funext fr' hp';apply propext;constructor
  ·rintro⟨fr0,hp0,h1,h2,h3⟩;exact⟨fr0,hp0,h1,_,h3,(key fr0 hp0 h2).1⟩
  ·rintro⟨fr0,hp0,h1,m,h2,h3⟩;exact⟨fr0,hp0,h1,⟨m,h3⟩,Nat.lt_of_le_of_lt ((key fr0 hp0 ⟨m,h3⟩).2 m h3) h2⟩
 rw[e];exact h _ fr hp (key fr hp hI).1
theorem Qfo{sk:List It}{x:SC}(I:Nat->Qg)(m0:Nat)(h0:I m0 fr hp)(h:∀m fr hp,I m fr hp->vc C R (.c x:: .el (Qnu I m)::sk) fr hp):vc C R (.c (.loop x)::sk) fr hp:=
 Qkc I m0 (Wk.refl _ _) h0 h
theorem Qalr{α:Type}{e:Nat}{f:α->PV}:PV.le .nilS (.sl e (([]:List α).map f)):=trivial
theorem Qa{P:Program}(hP:C.P=P){g:FuncId}{first cap args pargs:List PV}{pr:Bool}{d:Option Nat}{r:PV}(h:Qd P g pargs (· =r))(hargs:(first++args++cap).map (Qaa hp)=pargs)(hdat:pargs.all PV.isData=true)(hr:(first++args++cap).flatMap PV.refs=[])
  (hK:K (Qkv fr d r) hp):Qgw C pr (.fn g first cap) args d fr hp K:=by
 refine Qcb hP h hargs hdat ?_;rw[hr];exact hK
theorem Qek{P:Program}(hP:C.P=P){g:FuncId}{first cap args pargs:List PV}{pr:Bool}{d:Option Nat}{Rr:PV->Prop}(h:Qd P g pargs Rr)(hargs:(first++args++cap).map (Qaa hp)=pargs)(hdat:pargs.all PV.isData=true)(hr:(first++args++cap).flatMap PV.refs=[])
  (hK:∀r,Rr r->K (Qkv fr d r) hp):Qgw C pr (.fn g first cap) args d fr hp K:=by
 refine Qxt hP h hargs hdat fun r h=>?_;rw[hr];exact hK r h
theorem Qag7{d β n ty:Nat}{xs ys:List PV}(hb:hp β=some ⟨1,ty,xs,false⟩)(hn:n=xs.length):
  Qp9 1 (.ms β n) (.sl 1 ys) d fr hp K=K (upd fr d (.int .i64 (min (ys.length:Int) n))) (Qv hp β ⟨1,ty,ys.take n++xs.drop ys.length,false⟩):=by
 simp[Qp9,Qe6,hb,hn]
theorem Q74{by_ ty d:Nat}{kz k k':IntKind}{nz:Int}{L Cc:Int}(h1:0<=L)(h2:L<=Cc)(h3:by_*Cc<=281474976710656)(h4:Cc<=9223372036854775807):
  mkK 1 by_ ty (.int kz nz) (.int k L) (.int k' Cc) d fr hp K=K (upd (Qa2 d fr) d (.ms d L.toNat)) (Qv hp d ⟨1,ty,List.replicate L.toNat (.int kz nz),false⟩):=by
 exact Qzj (e:=1) (by omega) rfl h1 h2 h3 h4
theorem Q75{ty β i:Nat}{xs:List PV}{k:IntKind}{n:Int}(h:i<xs.length):stM (some ⟨1,ty,xs,false⟩) β 1 i 0 (.int k n) fr hp K=K fr (Qv hp β ⟨1,ty,xs.set i (.int k n),false⟩):=
 Qqg h rfl rfl
theorem Q76(h:HP)(a:Nat)(v w:HB):Qv (Qv h a v) a w=Qv h a w:=by funext i;unfold Qv;split<;>rfl
theorem Qals{ty d:Nat}{k:IntKind}{n:Int}:bsK 1 ty [.int k n] d fr hp K=K (upd (Qa2 d fr) d (.ms d 1)) (Qv hp d ⟨1,ty,[.int k n],false⟩):=by simp[bsK,Qks,Qeu,bsO,Qwe,Qaa,Qa0,PV.refs,PV.isData,PV.cells];rfl
theorem Qrv{β n e ty:Nat}{xs:List PV}{fz:Bool}{r:PV}(hb:hp β=some ⟨e,ty,xs,fz⟩)(h:PV.sl e (xs.take n)=r)(hB:isB β=false:=by decide):Qwp (· =r) (Qaa hp (.ms β n)):=by rw[Q3m hp β n e ty xs fz hb hB];exact Qc h (by rw[<-h];rfl)
theorem Qtd{e by_ ty ty' d β γ n:Nat}{xs:List PV}{y:PV}{fz:Bool}(hb:hp β=some ⟨e,ty,xs,false⟩)(hy:hp γ=some ⟨e,ty',[y],fz⟩)(h0:0<e)(hn:n=xs.length)(h1:(n+1)*by_<=140737488355328)(h2:n+1<=9223372036854775807)(hB:isB β=false:=by decide):
  Qgq e by_ ty (.ms β n) (.ms γ 1) d fr hp K=K (upd (Qa2 β fr) d (.ms β (n+1))) (Qv hp β ⟨e,ty,xs++[y],false⟩):=by
 subst hn;rw[Qop (ys:=[y]) (xs:=xs) (by simp[Qe6,hy]) hb h0 (Nat.le_refl _) (by simpa using h1) (by simpa using h2) hB];simp
theorem Qqi(n:Nat):IntKind.u16.wrap (n:Int)=((n%65536:Nat):Int):=by simp only[IntKind.wrap,IntKind.bits,IntKind.signed];simp
theorem Q0f{bt:Bool}{k k':IntKind}{x y:Int}{d:Nat}(h:0<=y):Qa9 .shr bt (.int k x) (.int k' y) d fr hp K=K (upd fr d (.int k (x.fdiv (2^(min y.toNat k.bits))))) hp:=by simp[Qa9,h]
theorem Qxu{bt:Bool}{k':IntKind}{n d:Nat}:Qa9 .shr bt (.int .u64 (n:Int)) (.int k' 16) d fr hp K=K (upd fr d (.int .u64 ((n/65536:Nat):Int))) hp:=by
 rw[Q0f (by omega)];have:min (16:Int).toNat IntKind.u64.bits=16:=by decide
 rw[this,Int.fdiv_eq_ediv_of_nonneg _ (by omega)];simp
theorem Q77{bt:Bool}{k':IntKind}{n d:Nat}:Qa9 .shr bt (.int .u32 (n:Int)) (.int k' 16) d fr hp K=K (upd fr d (.int .u32 ((n/65536:Nat):Int))) hp:=by
 rw[Q0f (by omega)];have:min (16:Int).toNat IntKind.u32.bits=16:=by decide
 rw[this,Int.fdiv_eq_ediv_of_nonneg _ (by omega)];simp
end Go.FW
namespace Go.FW
def val:List Nat->Nat
 | []=>0
 |x::xs=>x+65536*val xs
def Ql(l:List Nat):Prop:=∀x∈l,x<65536
def dig(n:Nat):List Nat:=if h:n=0 then []else n%65536::dig (n/65536)
termination_by n
decreasing_by omega
def nl(n:Nat):Nat:=(dig n).length
theorem Qdc:Ql []:=by simp[Ql]
theorem Qa5{x:Nat}{l:List Nat}:Ql (x::l)↔x<65536/\Ql l:=by simp[Ql]
theorem Qb5{l m:List Nat}:Ql (l++m)↔Ql l/\Ql m:=by
 simp only[Ql,List.mem_append];constructor
 ·intro h;exact⟨fun x hx=>h x (.inl hx),fun x hx=>h x (.inr hx)⟩
 ·rintro⟨h1,h2⟩ x (hx|hx)
  ·exact h1 x hx
  ·exact h2 x hx
theorem Qhh{l:List Nat}(h:Ql l)(n:Nat):Ql (l.take n):=fun x hx=>h x (List.mem_of_mem_take hx)
theorem Qit{l:List Nat}(h:Ql l)(n:Nat):Ql (l.drop n):=fun x hx=>h x (List.mem_of_mem_drop hx)
theorem Qas{l:List Nat}(h:Ql l){i:Nat}(hi:i<l.length):l[i]<65536:=h _ (List.getElem_mem hi)
theorem Qa7:dig 0=[]:=by rw[dig];simp
theorem Qif{n:Nat}(h:n≠0):dig n=n%65536::dig (n/65536):=by rw[dig];simp[h]
theorem Qq(n:Nat):Ql (dig n):=by
 induction n using dig.induct with
 |case1=>rw[Qa7];exact Qdc
 |case2 n h ih=>rw[Qif h,Qa5];exact⟨by omega,ih⟩
theorem Q7(n:Nat):val (dig n)=n:=by
 induction n using dig.induct with
 |case1=>rw[Qa7];rfl
 |case2 n h ih=>rw[Qif h,val,ih];omega
theorem Qbw{n:Nat}:dig n=[]↔n=0:=by
 constructor
 ·intro h;have:=Q7 n;rw[h]at this;exact this.symm
 ·rintro rfl;exact Qa7
theorem Qnv:nl 0=0:=by simp[nl,Qa7]
theorem Qiu{n:Nat}:nl n=0↔n=0:=by rw[nl,List.length_eq_zero_iff,Qbw]
theorem Qalt{n:Nat}(h:n≠0):nl n=nl (n/65536)+1:=by simp[nl,Qif h]
theorem Qcm(l m:List Nat):val (l++m)=val l+65536^l.length*val m:=by
 induction l with
 |nil=>simp[val]
 |cons x l ih=>simp only[List.cons_append,val,ih,List.length_cons,Nat.pow_succ];rw[Nat.mul_add,<-Nat.mul_assoc,Nat.mul_comm 65536 (65536^_)];omega
theorem Qgj{l:List Nat}(h:Ql l):val l<65536^l.length:=by
 induction l with
 |nil=>simp[val]
 |cons x l ih=>rw[Qa5]at h;have:=ih h.2;simp only[val,List.length_cons,Nat.pow_succ];omega
theorem Qxv(n:Nat):val (List.replicate n 0)=0:=by
 induction n with
 |zero=>rfl
 |succ n ih=>simp[List.replicate_succ,val,ih]
theorem Qnw{l:List Nat}(h:Ql l)(hl:l.getLast? ≠some 0):dig (val l)=l:=by
 induction l with
 |nil=>simp[val,Qa7]
 | cons x l ih=>
  rw[Qa5]at h;have hl':l.getLast? ≠some 0:=by intro hh;apply hl;rw[List.getLast?_cons,hh];rfl
  have hne:val (x::l)≠0:=by
   simp only[val];intro h0;have h1:val l=0:=by omega
   have:=ih h.2 hl';rw[h1,Qa7]at this;subst this;simp at hl;omega
  rw[Qif hne];simp only[val];rw[show(x+65536*val l)%65536=x by omega,show(x+65536*val l)/65536=val l by omega,ih h.2 hl']
theorem Ql4(n:Nat):(dig n).getLast? ≠some 0:=by
 induction n using dig.induct with
 |case1=>simp[Qa7]
 | case2 n h ih=>
  rw[Qif h,List.getLast?_cons];cases hd:(dig (n/65536)).getLast? with
  |none=>
   have:n/65536=0:=by rw[List.getLast?_eq_none_iff,Qbw]at hd;exact hd
   simp;omega
  |some y=>rw[hd]at ih;simpa using ih
def cut(l:List Nat):Nat->List Nat
 |0=>[]
 |n+1=>if l[n]? =some 0 then cut l n else l.take (n+1)
theorem Q78{l:List Nat}(h:Ql l):∀n,n<=l.length->cut l n=dig (val (l.take n))
 |0,_=>by simp[cut,val,Qa7]
 | n+1,hn=>by
  have e:l.take (n+1)=l.take n++[l[n]]:=by rw[List.take_succ_eq_append_getElem (by omega)]
  unfold cut;split
  ·rename_i hz;rw[Q78 h n (by omega),e,Qcm];rw[List.getElem?_eq_getElem (by omega)]at hz;have hz':l[n]=0:=by simpa using hz
   simp[val,hz']
  ·rename_i hz;rw[Qnw (Qhh h _)];rw[e,List.getLast?_concat];intro h0;apply hz;rw[List.getElem?_eq_getElem (by omega)];exact h0
theorem Qnx{l:List Nat}(h:Ql l):cut l l.length=dig (val l):=by rw[Q78 h _ (Nat.le_refl _),List.take_length]
theorem Qau{l:List Nat}(h:Ql l):nl (val l)<=l.length:=by
 rw[nl,<-Qnx h];have:∀n,(cut l n).length<=n:=by
  intro n;induction n with
  |zero=>simp[cut]
  |succ n ih=>
   unfold cut;split
   ·omega
   ·simp;omega
 have h1:=this l.length;exact h1
theorem Qgy{n k:Nat}:nl n<=k↔n<65536^k:=by
 induction k generalizing n with
 |zero=>simp[Qiu]
 | succ k ih=>
  by_cases h:n=0
  ·subst h;simp[Qnv];exact Nat.pow_pos (by omega)
  ·rw[Qalt h,Nat.add_le_add_iff_right,ih,Nat.pow_succ,Nat.div_lt_iff_lt_mul (by omega)]
theorem Qbm{m n:Nat}(h:m<=n):nl m<=nl n:=Qgy.2 (Nat.lt_of_le_of_lt h (Qgy.1 (Nat.le_refl _)))
theorem Qny(m n:Nat):nl (m+n)<=max (nl m) (nl n)+1:=by rw[Qgy,Nat.pow_succ];have h1:m<65536^(max (nl m) (nl n)):=Qgy.1 (by omega);have h2:n<65536^(max (nl m) (nl n)):=Qgy.1 (by omega);omega
theorem Qdl(m n:Nat):nl (m*n)<=nl m+nl n:=by rw[Qgy,Nat.pow_add];exact Nat.mul_lt_mul'' (Qgy.1 (Nat.le_refl _)) (Qgy.1 (Nat.le_refl _))
theorem Qf8{n:Nat}(h:n<18446744073709551616):nl n<=4:=Qgy.2 (by simpa using h)
theorem Qmt{n:Nat}:nl n<=4↔n<18446744073709551616:=by rw[Qgy]
theorem Qhi:dig 1=[1]:=by rw[Qif (by omega)];simp[Qa7]
open Go
variable {C : Ctx} {ρ : Nat -> Option Nat} {fr : Fr} {hp : HP} {w : World} {K R : Qg}
abbrev Qba(l:List Nat):List PV:=l.map fun(x:Nat)=>.int .u16 x
abbrev Qee(l:List Int):List PV:=l.map fun(x:Int)=>.int .i64 x
theorem Qalu(a b:Nat):(a:Int)+(b:Int)=((a+b:Nat):Int):=rfl
theorem Qag8(a:Nat):(a:Int)+1=((a+1:Nat):Int):=rfl
theorem Qag9(a:Nat):(a:Int)+2=((a+2:Nat):Int):=rfl
theorem Qaha(a:Nat):(a:Int)+3=((a+3:Nat):Int):=rfl
theorem Qalv(a b:Nat):(a:Int)*(b:Int)=((a*b:Nat):Int):=rfl
theorem Qahb{α:Type}{f:α->PV}{e d:Nat}{k:IntKind}{i:Nat}{xs:List α}(h:i<xs.length):
  Qci e (.sl e (xs.map f)) (.int k (i:Int)) d fr hp K=K (upd fr d (.pt (f (xs[i]'h)).cells)) hp:=by
 rw[Qll (by omega) (by omega)];rfl
theorem Qahc{e d β o n i:Nat}{k:IntKind}(h:i<n)(he:(hp β).map (·.e)=some e):Qci e (.mso β o n) (.int k (i:Int)) d fr hp K=K (upd fr d (.mp β (o+i) 0)) hp:=by rw[Quk (by omega) (by omega) he];rfl
theorem Qalw{α:Type}{f:α->PV}{e d:Nat}{xs:List α}{k:IntKind}{n:Nat}(h5:n<=xs.length):
  slK e (.sl e (xs.map f)) none (some (.int k (n:Int))) none d fr hp K=K (upd fr d (.sl e ((xs.take n).map f))) hp:=by
 rw[Qqh (by omega) (by omega)];rfl
theorem Qalx{α:Type}{f:α->PV}{e d:Nat}{xs:List α}{k:IntKind}{n:Nat}(h5:n<=xs.length):
  slK e (.sl e (xs.map f)) (some (.int k (n:Int))) none none d fr hp K=K (upd fr d (.sl e ((xs.drop n).map f))) hp:=by
 rw[Q7y (by omega) (by omega)];rfl
theorem Qabx{α:Type}{f:α->PV}{e d:Nat}{xs:List α}{k k':IntKind}{m n:Nat}(h4:m<=n)(h5:n<=xs.length):
  slK e (.sl e (xs.map f)) (some (.int k (m:Int))) (some (.int k' (n:Int))) none d fr hp K=K (upd fr d (.sl e (((xs.take n).drop m).map f))) hp:=by
 rw[Q2f (by omega) (by omega) (by omega)];rfl
theorem Qaly{by_ ty d:Nat}{k k':IntKind}{n c:Nat}(h2:n<=c)(h3:by_*c<=281474976710656)(h4:c<=9223372036854775807):
  mkK 1 by_ ty (.int .u16 0) (.int k (n:Int)) (.int k' (c:Int)) d fr hp K=K (upd (Qa2 d fr) d (.ms d n)) (Qv hp d ⟨1,ty,Qba (List.replicate n 0),false⟩):=by
 rw[Q74 (by omega) (by omega) (by omega) (by omega)];simp[Qba]
theorem Qalz{ty i d:Nat}{fz:Bool}{l:List Nat}(h:i<l.length):ldM (some ⟨1,ty,Qba l,fz⟩) 1 false i 0 d fr hp K=K (upd fr d (.int .u16 (l[i]'h:Nat))) hp:=by rw[Qkb (by simpa using h) (by omega) (by simp)];simp[ldV,PV.cells]
theorem Qal0{ty i d:Nat}{fz:Bool}{l:List Int}(h:i<l.length):ldM (some ⟨1,ty,Qee l,fz⟩) 1 false i 0 d fr hp K=K (upd fr d (.int .i64 (l[i]'h))) hp:=by rw[Qkb (by simpa using h) (by omega) (by simp)];simp[ldV,PV.cells]
theorem Q79{ty β i v:Nat}{l:List Nat}(h:i<l.length):stM (some ⟨1,ty,Qba l,false⟩) β 1 i 0 (.int .u16 (v:Int)) fr hp K=K fr (Qv hp β ⟨1,ty,Qba (l.set i v),false⟩):=by rw[Q75 (by simpa using h)];simp[Qba,List.map_set]
theorem Q0g{ty β i:Nat}{v:Int}{l:List Int}(h:i<l.length):stM (some ⟨1,ty,Qee l,false⟩) β 1 i 0 (.int .i64 v) fr hp K=K fr (Qv hp β ⟨1,ty,Qee (l.set i v),false⟩):=by rw[Q75 (by simpa using h)];simp[Qee,List.map_set]
theorem Qaby{β n ty:Nat}{l:List Nat}{fz:Bool}(h:hp β=some ⟨1,ty,Qba l,fz⟩)(hn:n=l.length)(hB:isB β=false:=by decide):Qaa hp (.ms β n)= .sl 1 (Qba l):=by rw[Q3m hp β n _ _ _ _ h hB,List.take_of_length_le (by simp[hn])]
theorem Qg3{P:Program}(hP:C.P=P){g:FuncId}{first cap args pargs:List PV}{pr:Bool}{d:Option Nat}{r:PV}(h:Qd P g pargs (· =r))(hargs:(first++args++cap).map (Qaa hp)=pargs)(hdat:pargs.all PV.isData=true)
  (hK:∀hp',K (Qkv fr d r) hp'):Qgw C pr (.fn g first cap) args d fr hp K:=Qcb hP h hargs hdat (hK _)
end Go.FW
namespace Go.FW
def Qel(x y:Nat):Int:=if x<y then -1 else if y<x then 1 else 0
theorem Qwq{x y:Nat}(h:x<y):Qel x y= -1:=by simp[Qel,h]
theorem Qwr{x y:Nat}(h:y<x):Qel x y=1:=by simp[Qel,h];omega
theorem Q3n{x y:Nat}(h:x=y):Qel x y=0:=by simp[Qel,h]
theorem Q0h{x y:Nat}(h:nl x<nl y):x<y:=by
 rcases Nat.lt_or_ge x y with h1|h1
 ·exact h1
 ·have:=Qbm h1;omega
theorem Qd5(l:List Nat)(k:Nat)(hk:k<=l.length):val l=val (l.take k)+65536^k*val (l.drop k):=by have:=Qcm (l.take k) (l.drop k);rw[List.take_append_drop,List.length_take,Nat.min_eq_left hk]at this;exact this
theorem Qem{l:List Nat}(h:Ql l)(k:Nat)(hk:k<=l.length):val (l.take k)<65536^k:=by
 have:=Qgj (Qhh h k)
 rwa[List.length_take,Nat.min_eq_left hk]at this
theorem Qda{l:List Nat}{k:Nat}(hk:k<l.length):val (l.drop k)=l[k]+65536*val (l.drop (k+1)):=by rw[List.drop_eq_getElem_cons hk,val]
theorem Q2g{a b:List Nat}(ha:Ql a){k:Nat}(hka:k<=a.length)(hkb:k<=b.length)(h:val (a.drop k)<val (b.drop k)):val a<val b:=by rw[Qd5 a k hka,Qd5 b k hkb];have h1:=Qem ha k hka;have h2:65536^k*(val (a.drop k)+1)<=65536^k*val (b.drop k):=Nat.mul_le_mul_left _ h;rw[Nat.mul_add]at h2;omega
theorem Qxw{a b:List Nat}(ha:Ql a){k:Nat}(hka:k<a.length)(hkb:k<b.length)(h:a[k]<b[k])(he:val (a.drop (k+1))=val (b.drop (k+1))):val a<val b:=by refine Q2g ha (k:=k) (by omega) (by omega) ?_;rw[Qda hka,Qda hkb,he];omega
def Qfw:List Nat->List Nat->Nat->List Nat
 | [],_,c=>if c=0 then []else [c]
 |x::xs,ys,c=>(c+x+ys.headD 0)%65536::Qfw xs ys.tail ((c+x+ys.headD 0)/65536)
theorem Qkd(l:List Nat):val l=l.headD 0+65536*val l.tail:=by cases l<;>simp[val]
theorem Q0i:∀(a b:List Nat)(c:Nat),b.length<=a.length->val (Qfw a b c)=val a+val b+c
 | [],b,c,h=>by have:b=[]:=List.length_eq_zero_iff.1 (by simpa using h);subst this;unfold Qfw;split<;>simp[val];omega
 |x::xs,b,c,h=>by rw[Qfw,val,Q0i xs b.tail _ (by simp at h ⊢;omega),val,Qkd b];omega
theorem Qul:∀(a b:List Nat)(c:Nat),c<65536->Ql a->Ql b->b.length<=a.length->Ql (Qfw a b c)
 | [],b,c,hc,_,_,_=>by unfold Qfw;split<;>simp[Ql];exact hc
 |x::xs,b,c,hc,ha,hb,h=>by
  rw[Qa5]at ha;have hb0:b.headD 0<65536:=by cases b with|nil=>simp|cons y ys=>exact hb _ (by simp)
  rw[Qfw,Qa5];exact⟨by omega,Qul xs b.tail _ (by omega) ha.2 (fun x hx=>hb x (List.mem_of_mem_tail hx)) (by simp at h ⊢;omega)⟩
theorem Qxx:∀(a b:List Nat)(c:Nat),a.getLast? ≠some 0->(Qfw a b c).getLast? ≠some 0
 | [],b,c,_=>by unfold Qfw;split<;>simp;assumption
 | x::xs,b,c,h=>by
  rw[Qfw,List.getLast?_cons];cases xs with
  |nil=>
   simp only[List.getLast?_singleton,ne_eq,Option.some.injEq]at h;simp only[Qfw];generalize b.headD 0=y;split
   ·rename_i h0;simp;omega
   ·rename_i h0;simp;omega
  |cons y ys=>
   have ih:=Qxx (y::ys) b.tail ((c+x+b.headD 0)/65536) (by rw[List.getLast?_cons]at h;simpa[List.getLast?_cons]using h);cases hl:(Qfw (y::ys) b.tail ((c+x+b.headD 0)/65536)).getLast? with
   |none=>rw[List.getLast?_eq_none_iff]at hl;simp[Qfw]at hl
   |some z=>rw[hl]at ih;simpa using ih
theorem Qabz{x y:Nat}(h:nl y<=nl x):Qfw (dig x) (dig y) 0=dig (x+y):=by have h1:=Q0i (dig x) (dig y) 0 h;rw[Q7,Q7,Nat.add_zero]at h1;rw[<-h1,Qnw (Qul _ _ _ (by omega) (Qq x) (Qq y) h) (Qxx _ _ _ (Ql4 x))]
def Qh8:List Nat->List Nat->Nat->List Nat
 | [],_,_=>[]
 |x::xs,ys,c=>(x+65536-c-ys.headD 0)%65536::Qh8 xs ys.tail (if x<c+ys.headD 0 then 1 else 0)
theorem Qum:∀(a b:List Nat)(c:Nat),Ql (Qh8 a b c)
 | [],_,_=>Qdc
 |x::xs,b,c=>by rw[Qh8,Qa5];exact⟨by omega,Qum xs _ _⟩
theorem Qsf:∀(a b:List Nat)(c:Nat),(Qh8 a b c).length=a.length
 | [],_,_=>rfl
 |x::xs,b,c=>by simp[Qh8,Qsf xs]
theorem Q0j:∀(a b:List Nat)(c:Nat),c<=1->Ql a->Ql b->b.length<=a.length->val b+c<=val a->val (Qh8 a b c)+val b+c=val a
 | [],b,c,_,_,_,h,h2=>by have:b=[]:=List.length_eq_zero_iff.1 (by simpa using h);subst this;simp[val]at h2 ⊢;simp[Qh8,val,h2]
 |x::xs,b,c,hc,ha,hb,h,h2=>by
  rw[Qa5]at ha;have hb0:b.headD 0<65536:=by cases b with|nil=>simp|cons y ys=>exact hb _ (by simp)
  rw[val,Qkd b]at h2;rw[Qh8,val,val,Qkd b];have ih:=Q0j xs b.tail (if x<c+b.headD 0 then 1 else 0) (by split<;>omega) ha.2 (fun x hx=>hb x (List.mem_of_mem_tail hx)) (by simp at h ⊢;omega) (by generalize b.headD 0=y at *;split<;>omega);generalize b.headD 0=y at *
  split at ih
  ·rename_i h0;rw[if_pos h0];omega
  ·rename_i h0;rw[if_neg h0];omega
theorem Ql5{done:List Nat}{i n v:Nat}(h:done.length=i)(hn:0<n):(done++List.replicate n 0).set i v=(done++[v])++List.replicate (n-1) 0:=by
 subst h;obtain⟨n,rfl⟩:∃k,n=k+1:=⟨n-1,by omega⟩
 simp[List.replicate_succ]
theorem Qte{done:List Nat}{i n m:Nat}(h:done.length=i)(hn:i+n=m):(done++List.replicate n 0).length=m:=by simp[h,hn]
theorem Q8a{a b:List Nat}{i c:Nat}(h:i<a.length):Qfw (a.drop i) (b.drop i) c=(c+a[i]+b.getD i 0)%65536::Qfw (a.drop (i+1)) (b.drop (i+1)) ((c+a[i]+b.getD i 0)/65536):=by rw[List.drop_eq_getElem_cons h,Qfw];simp[List.headD_eq_head?_getD,List.head?_drop,List.getD_eq_getElem?_getD]
theorem Q8b{a b:List Nat}{i c:Nat}(h:i<a.length):Qh8 (a.drop i) (b.drop i) c=(a[i]+65536-c-b.getD i 0)%65536::Qh8 (a.drop (i+1)) (b.drop (i+1)) (if a[i]<c+b.getD i 0 then 1 else 0):=by rw[List.drop_eq_getElem_cons h,Qh8];simp[List.headD_eq_head?_getD,List.head?_drop,List.getD_eq_getElem?_getD]
theorem Qbu{b:List Nat}{i:Nat}(h:i<b.length):b.getD i 0=b[i]:=by simp[List.getD_eq_getElem?_getD,h]
theorem Qbv{b:List Nat}{i:Nat}(h:¬i<b.length):b.getD i 0=0:=by simp[List.getD_eq_getElem?_getD,h]
open Go
variable {C : Ctx} {ρ : Nat -> Option Nat} {fr : Fr} {hp : HP} {w : World} {K K' R : Qg}
theorem Qtf(h:∀fr hp,K fr hp->K' fr hp)(o:SOp):opV C o fr hp K->opV C o fr hp K':=by
 cases o with
 | call d pr f args=>
  simp only[opV,Qgw];split
  ·rintro⟨h1,h2⟩;refine⟨h1,fun ρ tmps w fv cv av a1 a2 a3 a4 a5 a6 a7 a8=>(h2 ρ tmps w fv cv av a1 a2 a3 a4 a5 a6 a7 a8).mono ?_⟩;rintro e w' ⟨v,fr',hp',e1,e2,e3,e4⟩;exact⟨v,fr',hp',e1,e2,e3,h _ _ e4⟩
  ·exact id
 |bs d e ty ps=>
  simp only[opV,bsK];split
  ·exact fun H=>⟨H.1,h _ _ H.2⟩
  ·exact fun H=>⟨H.1,H.2.1,h _ _ H.2.2⟩
 | app d e by_ ty s x=>
  simp only[opV,Qgq];intro H;revert H;split
  ·unfold Qwf;split
   ·split
    ·rintro⟨a1,a2,a3,H⟩;refine⟨a1,a2,a3,?_⟩;revert H;split
     ·exact fun H=>⟨H.1,h _ _ H.2⟩
     ·split
      ·exact fun H=>⟨H.1,H.2.1,h _ _ H.2.2⟩
      ·exact id
     ·exact id
    ·exact id
   ·exact id
  ·rintro⟨h0,h1,H⟩;refine⟨h0,h1,?_⟩;revert H;split
   ·rintro⟨a,b,c⟩;exact⟨a,b,h _ _ c⟩
   ·split
    ·rintro(⟨a1,a2,a3,a4,a5,a6,a7,c⟩|⟨a1,a2,a3,c⟩)
     ·exact .inl ⟨a1,a2,a3,a4,a5,a6,a7,h _ _ c⟩
     ·exact .inr ⟨a1,a2,a3,h _ _ c⟩
    ·exact id
   ·exact id
 |bin d op bt x y=>
  simp only[opV,Qa9];intro H;revert H;split
  ·split<;>first|exact fun H=>⟨H.1,H.2.1,h _ _ H.2.2⟩|exact fun H=>⟨H.1,h _ _ H.2⟩|exact id
  ·split<;>first|exact fun H=>⟨H.1,h _ _ H.2⟩|exact id
  ·exact id
 | _=>
  simp only[opV,Qm8,Qm9,Qs8,Qp7,Qk5,unK,Qof,Qkr,mxK,mnK,Qci,Qjt,Qwd,Qna,Qju,ldK,stK,Qdu,Qp8,mkK,bsK,Qgq,Qp9,slK,Qg1,Qg2,Qt2,Qt3]
  try (intro H;revert H)
  try (repeat' split)
  all_goals first
   |exact id
   |exact h _ _
   |grind
theorem Qun(h:∀fr hp,K fr hp->K' fr hp)(o:SOp):Qej o fr hp K->Qej o fr hp K':=by unfold Qej;split<;>exact h _ _
theorem Q8c(h:∀fr hp,K fr hp->K' fr hp)(g:Option (Nat×Bool))(o:SOp):Qkt C g o fr hp K->Qkt C g o fr hp K':=by
 unfold Qkt;split
 ·exact Qtf h o
 ·split
  ·exact fun H=>⟨fun e=>Qtf h o (H.1 e),fun e=>Qun h o (H.2 e)⟩
  ·exact Qun h o
  ·exact id
theorem Q8d{sk:List It}{g:Option (Nat×Bool)}{o:SOp}{r:RT}:vc C R (.o (.o g o r)::sk) fr hp=Qkt C g o fr hp (fun fr hp=>vc C R (.o r::sk) fr hp):=by rw[vc]
theorem Q8e{sk:List It}{x y:RT}:vc C R (.o (.br x y)::sk) fr hp=(vc C R (.o x::sk) fr hp/\vc C R (.o y::sk) fr hp):=by rw[vc]
theorem Qiv{id:Nat}{M:Qg}{sk:List It}:∀(pre:List It),(∃p,FW.Qap id (pre++ .el M::sk)=some (p++ .el M::sk)/\FW.Qap id (pre++sk)=some (p++sk)/\Qa4 p<=Qa4 pre)∨FW.Qap id (pre++ .el M::sk)=FW.Qap id (pre++sk)
 | []=>.inr rfl
 |.c s::pre=>by
  rcases Qiv (id:=id) (M:=M) (sk:=sk) pre with⟨p,h1,h2,h3⟩|h
  ·exact .inl ⟨p,h1,h2,by simp only[Qa4];omega⟩
  ·exact .inr h
 |.o s::pre=>by
  rcases Qiv (id:=id) (M:=M) (sk:=sk) pre with⟨p,h1,h2,h3⟩|h
  ·exact .inl ⟨p,h1,h2,by simp only[Qa4];omega⟩
  ·exact .inr h
 |.el s::pre=>by
  rcases Qiv (id:=id) (M:=M) (sk:=sk) pre with⟨p,h1,h2,h3⟩|h
  ·exact .inl ⟨p,h1,h2,by simp only[Qa4];omega⟩
  ·exact .inr h
 |.eb i::pre=>by
  by_cases hi:i=id
  ·exact .inl ⟨pre,by simp[FW.Qap,hi],by simp[FW.Qap,hi],by simp only[Qa4];omega⟩
  ·rcases Qiv (id:=id) (M:=M) (sk:=sk) pre with⟨p,h1,h2,h3⟩|h
   ·exact .inl ⟨p,by simp[FW.Qap,hi,h1],by simp[FW.Qap,hi,h2],by simp only[Qa4];omega⟩
   ·exact .inr (by simp[FW.Qap,hi,h])
theorem Qnz{M:Qg}{sk:List It}(hM:∀fr hp,M fr hp->vc C R sk fr hp):∀(n:Nat)(pre:List It)(fr:Fr)(hp:HP),Qa4 pre<=n->vc C R (pre++ .el M::sk) fr hp->vc C R (pre++sk) fr hp:=by
 intro n;induction n with
 | zero=>
  intro pre fr hp hn h;cases pre with
  |nil=>simp only[List.nil_append,Qok]at h ⊢;exact hM _ _ h
  |cons i pre=>
   exfalso;have:=SC.sz_pos;cases i<;>simp only[Qa4,It.sz]at hn
   ·rename_i s;have:=SC.sz_pos s;omega
   ·rename_i s;have:=RT.sz_pos s;omega
   ·omega
   ·omega
 | succ n ih=>
  intro pre fr hp hn h;cases pre with
  |nil=>simp only[List.nil_append,Qok]at h ⊢;exact hM _ _ h
  | cons i pre=>
   cases i with
   |eb i=>simp only[List.cons_append,Qzi]at h⊢;exact ih _ _ _ (by simp only[Qa4,It.sz]at hn;omega) h
   |el J=>simp only[List.cons_append,Qok]at h ⊢;exact h
   | o r=>
    cases r with
    |nil=>simp only[List.cons_append,Qqd]at h⊢;exact ih _ _ _ (by simp only[Qa4,It.sz,RT.sz]at hn;omega) h
    |o g o r=>simp only[List.cons_append,Q8d]at h⊢;refine Q8c (fun fr hp h=>?_) g o h;exact ih (.o r::pre) _ _ (by simp only[Qa4,It.sz,RT.sz]at hn ⊢;omega) h
    |wk r=>simp only[List.cons_append,Que]at h⊢;obtain⟨fr0,hp0,hw,h⟩:=h;exact⟨fr0,hp0,hw,ih (.o r::pre) _ _ (by simp only[Qa4,It.sz,RT.sz]at hn ⊢;omega) h⟩
    |br x y=>simp only[List.cons_append,Q8e]at h⊢;exact⟨ih (.o x::pre) _ _ (by simp only[Qa4,It.sz,RT.sz]at hn ⊢;omega) h.1,ih (.o y::pre) _ _ (by simp only[Qa4,It.sz,RT.sz]at hn ⊢;omega) h.2⟩
   | c s=>
    cases s with
    |skip=>simp only[List.cons_append,Qrr]at h⊢;exact ih _ _ _ (by simp only[Qa4,It.sz,SC.sz]at hn;omega) h
    |rg r=>simp only[List.cons_append,Q49]at h⊢;exact ih (.o r::pre) _ _ (by simp only[Qa4,It.sz,SC.sz]at hn ⊢;omega) h
    |raw id ops=>simp only[List.cons_append]at h⊢;rw[vc]at h⊢;intro tmps w Q hs hQ;refine h tmps w Q hs fun fr' hp' tmps' w' hs' hv=>hQ fr' hp' tmps' w' hs' ?_;exact ih _ _ _ (by simp only[Qa4,It.sz,SC.sz]at hn;omega) hv
    |seq a b=>simp only[List.cons_append,Qug]at h⊢;exact ih (.c a:: .c b::pre) _ _ (by simp only[Qa4,It.sz,SC.sz]at hn ⊢;omega) h
    |block id a=>simp only[List.cons_append,Qoj]at h⊢;exact ih (.c a:: .eb id::pre) _ _ (by simp only[Qa4,It.sz,SC.sz]at hn ⊢;omega) h
    |ret=>simp only[List.cons_append,Quh]at h ⊢;exact h
    |cond c x y=>
     simp only[List.cons_append,Qrs]at h⊢;unfold Qms at h⊢;split at h
     ·exact⟨fun e=>ih (.c x::pre) _ _ (by simp only[Qa4,It.sz,SC.sz]at hn ⊢;omega) (h.1 e),fun e=>ih (.c y::pre) _ _ (by simp only[Qa4,It.sz,SC.sz]at hn ⊢;omega) (h.2 e)⟩
     ·exact h
    | exit id=>
     simp only[List.cons_append,Qrt]at h⊢;rcases Qiv (id:=id) (M:=M) (sk:=sk) pre with⟨p,h1,h2,h3⟩|he
     ·rw[h1]at h;rw[h2];simp only[Qol]at h⊢;exact ih _ _ _ (by simp only[Qa4,It.sz,SC.sz]at hn;omega) h
     ·rw[he]at h;exact h
    |loop a=>simp only[List.cons_append,Qf6]at h⊢;obtain⟨I,μ,h1,h2⟩:=h;refine⟨I,μ,h1,fun fr hp hI=>?_⟩;exact ih (.c a:: .el _::pre) _ _ (by simp only[Qa4,It.sz,SC.sz]at hn ⊢;omega) (h2 fr hp hI)
theorem Qke{c:PV}{x y:SC}{sk:List It}(M:Qg)(h:Qis C R c x y (.el M::sk) fr hp)(hM:∀fr hp,M fr hp->vc C R sk fr hp):Qis C R c x y sk fr hp:=by
 unfold Qis Qms at h⊢;split at h
 ·exact⟨fun e=>Qnz hM _ [.c x] _ _ (Nat.le_refl _) (h.1 e),fun e=>Qnz hM _ [.c y] _ _ (Nat.le_refl _) (h.2 e)⟩
 ·exact h
end Go.FW
namespace Go.FW
open Go
variable {C : Ctx} {ρ : Nat -> Option Nat} {fr : Fr} {hp : HP} {w : World} {K K' R : Qg}
def Qzk(R:PV->Prop)(p q:PV):Prop:=(p.isData=true/\q.isData=true)/\∃r,PV.leR (.tup [p,q]) r/\R r
def Q5j(R:PV->Prop)(p q s:PV):Prop:=(p.isData=true/\q.isData=true/\s.isData=true)/\∃r,PV.leR (.tup [p,q,s]) r/\R r
def Qagr(R:PV->Prop):Prop:=∃r,PV.leR (.tup []) r/\R r
theorem Qal1{a b:Nat}{Rr:PV->Prop}:Qdx [.t a,.t b] Rr fr hp=Qzk Rr (Qaa hp (fr a)) (Qaa hp (fr b)):=by simp[Qdx,Qzk,okR,rvP]
theorem Qal2{a b c:Nat}{Rr:PV->Prop}:Qdx [.t a,.t b,.t c] Rr fr hp=Q5j Rr (Qaa hp (fr a)) (Qaa hp (fr b)) (Qaa hp (fr c)):=by simp[Qdx,Q5j,okR,rvP]
theorem Qal3{Rr:PV->Prop}:Qdx [] Rr fr hp=Qagr Rr:=by simp[Qdx,Qagr]
theorem Qf9{p q p' q' r:PV}(h:r= .tup [p',q'])(d1:p.isData=true)(d2:q.isData=true)(h1:PV.le p p')(h2:PV.le q q'):Qzk (· =r) p q:=⟨⟨d1,d2⟩,r,by subst h;exact⟨h1,h2,trivial⟩,rfl⟩
theorem Qqj{p q s p' q' s' r:PV}(h:r= .tup [p',q',s'])(d1:p.isData=true)(d2:q.isData=true)(d3:s.isData=true)(h1:PV.le p p')(h2:PV.le q q')(h3:PV.le s s'):Q5j (· =r) p q s:=⟨⟨d1,d2,d3⟩,r,by subst h;exact⟨h1,h2,h3,trivial⟩,rfl⟩
theorem Qg4{p q:PV}(h:p=q):PV.le p q:=h▸Q2 p
theorem Ql6{β n ty:Nat}{l:List Nat}{fz:Bool}(h:hp β=some ⟨1,ty,Qba l,fz⟩)(hn:n=l.length)(hB:isB β=false:=by decide):(([]:List PV)++[PV.ms β n]++([]:List PV)).map (Qaa hp)=[.sl 1 (Qba l)]:=by simp[Qaby h hn hB]
theorem Qdm{n:Nat}(h:(dig n).length=0):dig n=[]:=List.length_eq_zero_iff.1 h
abbrev PV.nat(l:List Nat):PV:=.sl 1 (Qba l)
abbrev PV.num(n:Nat):PV:=PV.nat (dig n)
theorem Qji:PV.le .nilS (PV.num 0):=by rw[PV.num,Qa7];trivial
theorem Qn0{n:Nat}(h:n=0):PV.le .nilS (PV.num n):=by subst h;exact Qji
end Go.FW
namespace Go.FW
def Qgs:List Nat->List Nat->Nat->Nat->List Nat
 |r::rs,y::ys,x,c=>(c+(r+x*y))%65536::Qgs rs ys x ((c+(r+x*y))/65536)
 |_,_,_,c=>[c]
theorem Q0k:∀(r b:List Nat)(x c:Nat),r.length=b.length->val (Qgs r b x c)=val r+x*val b+c
 | [],[],x,c,_=>by simp[Qgs,val]
 |r::rs,y::ys,x,c,h=>by rw[Qgs,val,Q0k rs ys x _ (by simpa using h),val,val,Nat.mul_add x,Nat.mul_left_comm x 65536];generalize x*y=p;generalize x*val ys=q;omega
 | [],_::_,_,_,h=>by simp at h
 |_::_,[],_,_,h=>by simp at h
theorem Qf2{x y:Nat}(hx:x<65536)(hy:y<65536):x*y<=4294836225:=by have:=Nat.mul_le_mul (show x<=65535 by omega) (show y<=65535 by omega);omega
theorem Quo:∀(r b:List Nat)(x c:Nat),c<65536->x<65536->Ql r->Ql b->Ql (Qgs r b x c)
 |r::rs,y::ys,x,c,hc,hx,hr,hb=>by rw[Qa5]at hr hb;have:=Qf2 hx hb.1;rw[Qgs,Qa5];exact⟨by omega,Quo rs ys x _ (by omega) hx hr.2 hb.2⟩
 | [],_,x,c,hc,_,_,_=>by simp[Qgs,Ql];exact hc
 |_::_,[],x,c,hc,_,_,_=>by simp[Qgs,Ql];exact hc
theorem Qsg:∀(r b:List Nat)(x c:Nat),r.length=b.length->(Qgs r b x c).length=r.length+1
 |r::rs,y::ys,x,c,h=>by simp[Qgs,Qsg rs ys x _ (by simpa using h)]
 | [],[],x,c,_=>rfl
 | [],_::_,_,_,h=>by simp at h
 |_::_,[],_,_,h=>by simp at h
theorem Qrw{p t:List Nat}{r j:Nat}(h:p.length=j)(hj:j<(p++r::t).length):(p++r::t)[j]=r:=by subst h;simp
theorem Qer{p t:List Nat}{r j v:Nat}(h:p.length=j):(p++r::t).set j v=p++v::t:=by subst h;simp
theorem Qgk{l:List Nat}{i:Nat}(h:i<l.length):val (l.take (i+1))=val (l.take i)+65536^i*l[i]:=by rw[List.take_succ_eq_append_getElem h,Qcm,List.length_take,Nat.min_eq_left (by omega)];simp[val]
theorem Qab0{a lo b:List Nat}{i:Nat}(h:i<a.length)(hl:lo.length=i+b.length)(hv:val lo=val (a.take i)*val b):
  val (lo.take i++Qgs (lo.drop i) b a[i] 0)=val (a.take (i+1))*val b:=by
 rw[Qcm,Q0k _ _ _ _ (by simp[hl]),Qgk h,List.length_take,Nat.min_eq_left (by omega),Nat.add_mul,<-hv,Qd5 lo i (by omega),Nat.add_zero,Nat.mul_add,Nat.mul_assoc];omega
open Go
variable {C : Ctx} {ρ : Nat -> Option Nat} {fr : Fr} {hp : HP} {w : World} {K K' R : Qg}
def B0:Nat:=1000000
def Qiw(xs:List PV):Prop:=∀x∈xs,∃k n,x= .int k n
theorem Qfp(l:List Nat):Qiw (Qba l):=by intro x hx;simp only[Qba,List.mem_map]at hx;obtain⟨n,_,rfl⟩:=hx;exact⟨_,_,rfl⟩
def Qjj(w:World)(b:Nat)(ty:TypeId)(xs:List PV):Prop:=Qiw xs/\∃(cur:Array Value)(cap:Nat),w.heap[b]? =some (.cells cur ty (0,0))/\cur.size=cap*1/\xs.length<=cap/\cap<=maxLen/\
 ∀(i:Nat)(k:IntKind)(n:Int),xs[i]? =some (.int k n)->cur.getD i undef= .int k n
theorem Qjj.toB{b:Nat}{ty:TypeId}{xs:List PV}{fz:Bool}{X:Nat->Prop}(h:Qjj w b ty xs):Qwg w X b ⟨1,ty,xs,fz⟩:=by
 obtain⟨hi,cur,cap,h1,h2,h3,h4,h5⟩:=h;refine⟨cur,cap,h1,h2,h3,h4,fun i x hx j y hy=>?_⟩;obtain⟨k,n,rfl⟩:=hi x (List.mem_of_getElem? hx);cases j with
 |zero=>simp[PV.cells]at hy;subst hy;rw[Nat.mul_one,Nat.add_zero,h5 i k n hx];exact Qs.int k n
 |succ j=>simp[PV.cells]at hy
theorem Qjj.ofB{b:Nat}{ty:TypeId}{xs:List PV}{fz:Bool}{X:Nat->Prop}(h:Qwg w X b ⟨1,ty,xs,fz⟩)(hi:Qiw xs):Qjj w b ty xs:=by obtain⟨cur,cap,h1,h2,h3,h4,h5⟩:=h;refine⟨hi,cur,cap,h1,h2,h3,h4,fun i k n hx=>?_⟩;have:=h5 i _ hx 0 (.int k n) rfl;simp only[Nat.mul_one,Nat.add_zero]at this;generalize hg:cur.getD i undef=v at this;cases this;rfl
theorem Qoq{xs:List PV}(h:Qiw xs):∀(i:Nat)(x:PV),xs[i]? =some x->x.cells.length=1/\x.isData=true:=by intro i x hx;obtain⟨k,n,rfl⟩:=h x (List.mem_of_getElem? hx);exact⟨rfl,rfl⟩
def Win(w:World)(b len:Nat)(o n:Nat)(v:Value):Prop:=o+n<=len/\∃cap,v= .slice (some ⟨b,o*1,none⟩) n cap/\Qbj w b 1 (o+cap)/\o+cap<=maxLen
def ArgM(w:World)(X:Nat->Prop)(b len:Nat)(p:PV)(v:Value):Prop:=match p with
 |.mso β o n=>β=B0/\Win w b len o n v
 |p=>Qai w X p v
def ResM(w:World)(X:Nat->Prop)(b len:Nat)(p:PV)(v:Value):Prop:=match p with
 |.mso β o n=>β=B0/\Win w b len o n v
 |p=>Qco w X p v
def Qlm(P:Program)(f:FuncId)(args:List PV)(ty:TypeId)(xs:List PV)(Post:PV->List PV->Prop):Prop:=
 Ql3 P f/\∀(w:World)(X:Nat->Prop)(b:Nat)(vals:Array Value),(∀c,X c->c<w.heap.size)->X b->vals.size=args.length->Qjj w b ty xs->0<xs.length->
  (∀(i:Nat)(x:PV),args[i]? =some x->ArgM w X b xs.length x (vals.getD i undef))->
  Calls P f vals w fun e w'=>∃v r xs',e= .returned v/\Ext (fun c=>c=b) w w'/\(∀e cap,Qbj w b e cap->Qbj w' b e cap)/\Qjj w' b ty xs'/\xs'.length=xs.length/\ResM w' X b xs.length r v/\Post r xs'
def Qk9(rs:List RV)(ty:TypeId)(len:Nat)(Post:PV->List PV->Prop):Qg:=fun fr hp=>
 ∃xs',hp B0=some ⟨1,ty,xs',false⟩/\Qiw xs'/\xs'.length=len/\
  (Qdx rs (fun r=>(∀β o n,r≠ .mso β o n)/\Post r xs') fr hp∨∃s o n,rs=[.t s]/\fr s= .mso B0 o n/\Post (.mso B0 o n) xs')
theorem Qmu {P : Program} {f : FuncId} {fn : Func} {sf : SFn} {args : List PV} {ty : TypeId} {xs : List PV} {Post : PV -> List PV -> Prop} (hm : P.follows .mixedOrders = true) (hf : P.funcs[f]? = some fn) (hname : (fn.name != "runtime.NumGoroutine") = true) (hc : Qe P fn = some sf) (hn : args.length <= sf.n /\ sf.n <= 1000000)
  (hv:∀C:Ctx,C.P=P->vc C (Qk9 sf.rs ty xs.length Post) [.c sf.body] (Qgr args) (Qv hp0 B0 ⟨1,ty,xs,false⟩)):Qlm P f args ty xs Post:=by
 simp only[Qe,Option.bind_eq_some_iff,Option.map_eq_some_iff]at hc;obtain⟨c,hb,sb,hcb,rs,hrs,rfl⟩:=hc;refine⟨by simp[Ql3,hf,hb];simpa using hname,fun w X b vals hX hXb hsz hI hpos hrep=>?_⟩;have hfx:∀β c,(fun β=>if β=B0 then some b else none:Nat->Option Nat) β=some c->c<w.heap.size/\(isR β=false->¬(X c/\c≠b)):=fun β c h=>by
  simp only at h;split at h
  ·cases h;exact⟨hX b hXb,fun _ h=>h.2 rfl⟩
  ·cases h
 let C:Ctx:=⟨P,fn.ntmps,w,fun c=>X c/\c≠b,fun c hc=>hX c hc.1,hn.2,fun β=>if β=B0 then some b else none,hfx,Qaw,fun _ h=>h.elim⟩
 refine calls_of_wp hf hb ?_;have hsz':(vals++Array.replicate (fn.ntmps-vals.size) undef).size=fn.ntmps:=by simp at hn ⊢;omega
 have hXof:∀c,Xof C (fun β=>if β=B0 then some b else none) (Qv hp0 B0 ⟨1,ty,xs,false⟩) c->X c:=by
  rintro c (hx|⟨β,_,h1,_,h3⟩)
  ·exact hx.1
  ·simp only at h3;split at h3
   ·cases h3;exact hXb
   ·cases h3
 have hsim:Sim C (Qgr args) (Qv hp0 B0 ⟨1,ty,xs,false⟩) (vals++Array.replicate (fn.ntmps-vals.size) undef) w:=by
  refine⟨fun β=>if β=B0 then some b else none,hsz',Ext.refl _ _,fun _ _ _ _ _ h=>h,fun β hb' hβ=>?_,fun β γ b' h1 h2 h3 h4=>?_,fun i=>?_⟩
  ·unfold Qv at hβ;split at hβ
   ·rename_i hβ0;cases hβ;subst hβ0;refine⟨by simp,Qoq hI.1,?_,(fun _=>rfl),fun h=>by cases h⟩;simp only[if_pos];exact⟨rfl,hX b hXb,hI.toB⟩
   ·simp[hp0]at hβ
  ·have:∀β,(if β=B0 then some b else none:Option Nat)=some b'->β=B0:=fun β h=>by
    split at h
    ·assumption
    ·cases h
   rw[this β h3,this γ h4]
  ·unfold Qgr;cases hi:args[i]? with
   |none=>trivial
   | some p=>
    simp only[Option.getD_some];have hil:i<vals.size:=by rw[hsz];exact(List.getElem?_eq_some_iff.1 hi).1
    have hr:=hrep i p hi;have e:(vals++Array.replicate (fn.ntmps-vals.size) undef).getD i undef=vals.getD i undef:=by rw[Qbr,if_pos hil]
    rw[e];have key:Qai w X p (vals.getD i undef)->Qr C (fun β=>if β=B0 then some b else none) (Qv hp0 B0 ⟨1,ty,xs,false⟩) w p (vals.getD i undef):=fun hr=>
     Qr.ofData (hr.mono (fun _ _ _=>rfl) (fun c _ hn hx=>hn (hXof c hx)) (Nat.le_refl _))
    cases p with
    |mso β o n=>obtain⟨rfl,h1,cap,h2,h3,h4⟩:=hr;exact⟨⟨1,ty,xs,false⟩,by simp[Qv],h1,.inr ⟨b,cap,by simp,h2,h3,h4⟩⟩
    |_=>exact key hr
 have fin:∀(fr:Fr)(hp:HP)(a:Act)(w':World),a.defers=[]->Sim C fr hp a.tmps w'->Qk9 rs ty xs.length Post fr hp->
   a.defers=[]/\∃v,(results fn a.tmps).run P w'= .ok v w'/\∃v' r xs',Ending.returned v= .returned v'/\Ext (fun c=>c=b) w w'/\(∀e cap,Qbj w b e cap->Qbj w' b e cap)/\Qjj w' b ty xs'/\xs'.length=xs.length/\ResM w' X b xs.length r v'/\Post r xs':=by
  rintro fr hp a w' hd ⟨ρ,hs⟩ ⟨xs',hB,hint,hlen,hr⟩;have hown:=hs.own B0 _ hB;have hblk:=hown.blk;have hρ:ρ B0=some b:=by
   cases hq:ρ B0 with
   |none=>rw[hq]at hblk;simp only at hblk;rw[hblk]at hlen;simp at hlen;omega
   |some b'=>rw[<-hq];exact hown.fix rfl
  rw[hρ]at hblk;have hI':Qjj w' b ty xs':=Qjj.ofB hblk.2.2 hint;have hxe:Ext (fun c=>c=b) w w':=hs.ext.mono fun c _ hc=>by
   rcases hc with⟨β,_,hc⟩|hc
   ·have hc:(if β=B0 then some b else none:Option Nat)=some c:=hc;split at hc
    ·cases hc;rfl
    ·cases hc
   ·exact hc.elim
  have hkp:∀e cap,Qbj w b e cap->Qbj w' b e cap:=hs.keep B0 b rfl;rcases hr with hr|⟨s,o,n,rfl,hfs,hp⟩
  ·obtain⟨v,r,h1,h2,h3,h4⟩:=Q5g (C:=C) rfl hrs hs hr (X:=X) (fun c hc=>by
    by_cases e:c=b
    ·subst e;exact .inr ⟨B0,_,rfl,hB,rfl,hρ⟩
    ·exact .inl ⟨hc,e⟩)
   refine⟨hd,v,h1,v,r,xs',rfl,hxe,hkp,hI',hlen,?_,h4⟩;cases r with
   |mso β o n=>exact absurd rfl (h3 β o n)
   |_=>exact h2
  ·have hsl:=hs.slots s;rw[hfs]at hsl;obtain⟨hb2,g1,g2,g3⟩:=hsl;rw[hB]at g1;cases g1;rcases g3 with⟨g3,_⟩|⟨b',cap,g3,g4,g5,g6⟩
   ·rw[hρ]at g3;cases g3
   ·rw[hρ]at g3;cases g3;obtain⟨x,hx⟩:∃x,fn.results.toList=[x]:=by have:=Qdq hrs;exact List.length_eq_one_iff.1 (by rw[<-this.1];rfl)
    have hx2:Qcl P x=some (.t s):=by rw[hx]at hrs;simp only[List.mapM_cons,List.mapM_nil,Option.bind_eq_bind,Option.pure_def,Option.bind_eq_some_iff,Option.some.injEq]at hrs;obtain⟨y,h1,_,_,h2⟩:=hrs;simp only[List.cons.injEq]at h2;rw[<-h2.1];exact h1
    have hx3:x= .tmp s:=by
     cases x with
     |tmp t=>simpa[Qcl]using hx2
     |cell y t=>simp[Qcl,Option.bind_eq_some_iff]at hx2
    subst hx3;have hres:(results fn a.tmps).run P w'= .ok (a.tmps.getD s undef) w':=by have e:results fn a.tmps=(do let vs<-fn.results.mapM (Qon a.tmps);pure (if h:vs.size=1 then vs[0]else .tuple vs)):=rfl;rw[e,Array.mapM_eq_mapM_toList,hx];simp[Sem.run_bind,Qon]
    refine⟨hd,_,hres,_,.mso B0 o n,xs',rfl,hxe,hkp,hI',hlen,⟨rfl,hlen▸g2,cap,g4,g5,g6⟩,hp⟩
 exact Qom (C:=C) (R:=Qk9 rs ty xs.length Post) hm c sb [] _ (Qgr args) _ _ w hcb ⟨fun fr hp a w' hd hs hv=>(by rw[Ql1]at hv;exact fin fr hp a w' hd hs hv),fun id sk' he=>(by simp[FW.Qap]at he),fin⟩ rfl hsim (hv C rfl)
def PV.isDataM:PV->Bool
 |.mso .. =>true
 |p=>p.isData
def toB(β:Nat):PV->PV
 |.mso γ o n=>if γ=β then .mso B0 o n else .undef
 |.mp _ _ _=>.undef
 |.rb _ _ _=>.undef
 |.fn _ _ _=>.undef
 |.nso _ _ _| .np _ _ _| .rag _| .rtp _| .rtq _ _| .nst _ _ _ _=>.undef
 |p=>p
def Qhj(β:Nat):PV->PV
 |.mso _ o n=>.mso β o n
 |p=>p
theorem Qup{P:Program}(hP:C.P=P){g:FuncId}{args pargs:List PV}{d:Option Nat}{β:Nat}{ty:TypeId}{xs:List PV}{Post:PV->List PV->Prop}(h:Qlm P g pargs ty xs Post)(hβ:hp β=some ⟨1,ty,xs,false⟩)(hint:Qiw xs)(hpos:0<xs.length)
  (hargs:args.map (toB β)=pargs) (hdat:pargs.all PV.isDataM=true)
  (hK:∀r xs',Qiw xs'->xs'.length=xs.length->Post r xs'->K (Qkv fr d (Qhj β r)) (Qv hp β ⟨1,ty,xs',false⟩)):Qgw C false (.fn g [] []) args d fr hp K:=by
 subst hP;refine⟨h.1,fun ρ tmps w fv cv av hdN hs h1 h2 h3 _ _ hr3=>?_⟩;have hown:=hs.own β _ hβ;have hblk:=hown.blk;obtain⟨b,hρ⟩:∃b,ρ β=some b:=by
  cases hq:ρ β with
  |none=>rw[hq]at hblk;simp only at hblk;rw[hblk]at hpos;simp at hpos
  |some b=>exact⟨b,rfl⟩
 rw[hρ]at hblk;have hXb:Xof C ρ hp b:=.inr ⟨β,_,hβ,rfl,hρ⟩;have e1:fv= #[]:=Array.eq_empty_of_size_eq_zero (by simpa using h1);have e2:cv= #[]:=Array.eq_empty_of_size_eq_zero (by simpa using h2);subst e1;subst e2;simp only[Array.empty_append,Array.append_empty];refine(h.2 w (Xof C ρ hp) b av (Quj hs) hXb (by rw[<-hargs];simp[h3]) (Qjj.ofB hblk.2.2 hint) hpos (fun i x hx=>?_)).mono ?_
 ·rw [<-hargs]at hx;simp only[List.getElem?_map,Option.map_eq_some_iff]at hx;obtain⟨p,hp',hpx⟩:=hx;have hr:=hr3 i p hp';have hxd:PV.isDataM x=true:=by rw[List.all_eq_true]at hdat;refine hdat x ?_;rw[<-hargs,<-hpx];exact List.mem_map_of_mem (List.mem_of_getElem? hp')
  subst hpx;cases p with
  | mso γ o n=>
   simp only[toB]at hxd⊢;split
   ·rename_i hγ;subst hγ;obtain⟨hb2,g1,g2,g3⟩:=hr;rw[hβ]at g1;cases g1;rcases g3 with⟨g3,_⟩|⟨b',cap,g3,g4,g5,g6⟩
    ·rw[hρ]at g3;cases g3
    ·rw[hρ]at g3;cases g3;exact⟨rfl,g2,cap,g4,g5,g6⟩
   ·rename_i hγ;rw[if_neg hγ]at hxd;simp[PV.isDataM,PV.isData]at hxd
  |mp=>simp[toB,PV.isDataM,PV.isData]at hxd
  |rb=>simp[toB,PV.isDataM,PV.isData]at hxd
  |fn=>simp[toB,PV.isDataM,PV.isData]at hxd
  |undef=>simp[toB,PV.isDataM,PV.isData]at hxd
  |nso=>simp[toB,PV.isDataM,PV.isData]at hxd
  |np=>simp[toB,PV.isDataM,PV.isData]at hxd
  |rag=>simp[toB,PV.isDataM,PV.isData]at hxd
  |rtp=>simp[toB,PV.isDataM,PV.isData]at hxd
  |rtq=>simp[toB,PV.isDataM,PV.isData]at hxd
  |nst=>simp[toB,PV.isDataM,PV.isData]at hxd
  |tup=>simp[toB,PV.isDataM,PV.isData]at hxd
  |agg cs=>exact hr
  |_=>exact hr
 ·rintro e w' ⟨v,r,xs',rfl,hx,hcap,hI',hlen,hres,hpost⟩;have hst:=hs.store β b ⟨1,ty,xs,false⟩ ⟨1,ty,xs',false⟩ hβ rfl (by intro e;simp at e;rw[e]at hpos;simp at hpos) hρ hx rfl hlen rfl (Qoq hI'.1) hcap (hI'.toB (X:=Xof C ρ hp) (fz:=false) |> fun⟨cur,cap,c1,c2,c3,c4,c5⟩=>⟨cur,cap,c1,c2,c3,c4,fun i x hi j y hy=>by
   obtain⟨k,n,rfl⟩:=hI'.1 x (List.mem_of_getElem? hi);have:=c5 i _ hi j y hy;cases j with
   |zero=>simp[PV.cells]at hy;subst hy;generalize hg:cur.getD (i*1+0) undef=u at this;cases this;exact Qs.int k n
   |succ j=>simp[PV.cells]at hy⟩)
  have hXe:Xof C ρ (Qv hp β ⟨1,ty,xs',false⟩)=Xof C ρ hp:=by
   funext c;apply propext;constructor
   ·rintro(hx|⟨γ,hg,h1,h2,h3⟩)
    ·exact .inl hx
    ·by_cases hγ:γ=β
     ·subst hγ;exact .inr ⟨γ,_,hβ,rfl,h3⟩
     ·simp only[Qv,if_neg hγ]at h1;exact .inr ⟨γ,hg,h1,h2,h3⟩
   ·rintro(hx|⟨γ,hg,h1,h2,h3⟩)
    ·exact .inl hx
    ·by_cases hγ:γ=β
     ·subst hγ;exact .inr ⟨γ,⟨1,ty,xs',false⟩,by simp[Qv],rfl,h3⟩
     ·exact .inr ⟨γ,hg,by simp[Qv,hγ,h1],h2,h3⟩
  refine⟨v,_,_,rfl,⟨ρ,hst.updO (p:=Qhj β r) ?_ hdN⟩,by simp,hK r xs' hI'.1 hlen hpost⟩;cases r with
  |mso γ o n=>obtain⟨_,g1,cap,g2,g3,g4⟩:=hres;exact⟨⟨1,ty,xs',false⟩,by simp[Qv],by simp only[Qhj];omega,.inr ⟨b,cap,hρ,g2,g3,g4⟩⟩
  |_=>exact Qr.ofV (p:=_) (by rw[hXe];exact hres)
end Go.FW
namespace Go.FW
open Go
variable {C : Ctx} {ρ : Nat -> Option Nat} {fr : Fr} {hp : HP} {w : World} {K K' R : Qg}
def Qn1(P:Program)(f:FuncId)(args:List PV)(ty:TypeId)(Post:List PV->Prop):Prop:=
 Ql3 P f/\∀(w:World)(X:Nat->Prop)(vals:Array Value),(∀b,X b->b<w.heap.size)->vals.size=args.length->(∀(i:Nat)(x:PV),args[i]? =some x->Qai w X x (vals.getD i undef))->
  Calls P f vals w fun e w'=>∃v b cap ys,e= .returned v/\v= .slice (some ⟨b,0,none⟩) ys.length cap/\w.heap.size<=b/\Ext Qaw w w'/\Qjj w' b ty ys/\Qbj w' b 1 cap/\cap<=maxLen/\Post ys
def Qrx(rs:List RV)(ty:TypeId)(Post:List PV->Prop):Qg:=fun fr hp=>
 ∃s β n xs,rs=[.t s]/\fr s= .mso β 0 n/\isB β=false/\hp β=some ⟨1,ty,xs,false⟩/\Qiw xs/\0<n/\Post (xs.take n)
theorem Q8f{xs:List PV}(h:Qiw xs)(n:Nat):Qiw (xs.take n):=fun x hx=>h x (List.mem_of_mem_take hx)
theorem Q8g {P : Program} {f : FuncId} {fn : Func} {sf : SFn} {args : List PV} {ty : TypeId} {Post : List PV -> Prop} (hm : P.follows .mixedOrders = true) (hf : P.funcs[f]? = some fn) (hname : (fn.name != "runtime.NumGoroutine") = true) (hc : Qe P fn = some sf) (hn : args.length <= sf.n /\ sf.n <= 1000000)
  (hv:∀C:Ctx,C.P=P->vc C (Qrx sf.rs ty Post) [.c sf.body] (Qgr args) hp0):Qn1 P f args ty Post:=by
 simp only[Qe,Option.bind_eq_some_iff,Option.map_eq_some_iff]at hc;obtain⟨c,hb,sb,hcb,rs,hrs,rfl⟩:=hc;refine⟨by simp[Ql3,hf,hb];simpa using hname,fun w X vals hX hsz hrep=>?_⟩
 let C:Ctx:=Ctx.plain P fn.ntmps w X hX hn.2
 refine calls_of_wp hf hb ?_;have hsz':(vals++Array.replicate (fn.ntmps-vals.size) undef).size=fn.ntmps:=by simp at hn ⊢;omega
 have hsim:Sim C (Qgr args) hp0 (vals++Array.replicate (fn.ntmps-vals.size) undef) w:=by
  refine⟨fun _=>none,hsz',Ext.refl _ _,(fun _ _ h=>by cases h),by simp[hp0],by simp[hp0],fun i=>?_⟩;unfold Qgr;cases hi:args[i]? with
  |none=>trivial
  | some p=>
   simp only[Option.getD_some];have hil:i<vals.size:=by rw[hsz];exact(List.getElem?_eq_some_iff.1 hi).1
   have hr:=hrep i p hi;have e:(vals++Array.replicate (fn.ntmps-vals.size) undef).getD i undef=vals.getD i undef:=by rw[Qbr,if_pos hil]
   rw[e];refine Qr.ofData (hr.mono (fun _ _ _=>rfl) (fun b _ hn hx=>?_) (Nat.le_refl _));rcases hx with hx|⟨_,_,h1,_⟩
   ·exact hn hx
   ·simp[hp0]at h1
 have fin:∀(fr:Fr)(hp:HP)(a:Act)(w':World),a.defers=[]->Sim C fr hp a.tmps w'->Qrx rs ty Post fr hp->
   a.defers=[]/\∃v,(results fn a.tmps).run P w'= .ok v w'/\∃v' b cap ys,Ending.returned v= .returned v'/\v'= .slice (some ⟨b,0,none⟩) ys.length cap/\w.heap.size<=b/\Ext Qaw w w'/\Qjj w' b ty ys/\Qbj w' b 1 cap/\cap<=maxLen/\Post ys:=by
  rintro fr hp a w' hd ⟨ρ,hs⟩ ⟨s,β,n,xs,rfl,hfs,hB,hβ,hint,hpos,hp⟩;have hown:=hs.own β _ hβ;have hblk:=hown.blk;have hsl:=hs.slots s;rw[hfs]at hsl;obtain⟨hb2,g1,g2,g3⟩:=hsl;rw[hβ]at g1;cases g1;rcases g3 with⟨_,_,g3,_⟩|⟨b,cap,g3,g4,g5,g6⟩
  ·omega
  ·rw[g3]at hblk;simp only[hB]at hblk;obtain⟨x,hx⟩:∃x,fn.results.toList=[x]:=by have:=Qdq hrs;exact List.length_eq_one_iff.1 (by rw[<-this.1];rfl)
   have hx2:Qcl P x=some (.t s):=by rw[hx]at hrs;simp only[List.mapM_cons,List.mapM_nil,Option.bind_eq_bind,Option.pure_def,Option.bind_eq_some_iff,Option.some.injEq]at hrs;obtain⟨y,h1,_,_,h2⟩:=hrs;simp only[List.cons.injEq]at h2;rw[<-h2.1];exact h1
   have hx3:x= .tmp s:=by
    cases x with
    |tmp t=>simpa[Qcl]using hx2
    |cell y t=>simp[Qcl,Option.bind_eq_some_iff]at hx2
   subst hx3;have hres:(results fn a.tmps).run P w'= .ok (a.tmps.getD s undef) w':=by have e:results fn a.tmps=(do let vs<-fn.results.mapM (Qon a.tmps);pure (if h:vs.size=1 then vs[0]else .tuple vs)):=rfl;rw[e,Array.mapM_eq_mapM_toList,hx];simp[Qon]
   have hlen:(xs.take n).length=n:=by simp at g2 ⊢;omega
   refine⟨hd,_,hres,_,b,cap,xs.take n,rfl,by rw[g4,hlen,Nat.zero_mul],(Ctx.cls_N hblk.1 (Qlu hB)).resolve_right (fun h=>h),Ctx.plain_ext hs.ext,?_,by rw[Nat.zero_add]at g5;exact g5,by omega,hp⟩;obtain⟨_,cur,cp,i1,i2,i3,i4,i5⟩:=Qjj.ofB hblk.2.2 hint;exact⟨Q8f hint n,cur,cp,i1,i2,by simp;omega,i4,fun i k m hi=>i5 i k m (by
    have hi':i<n:=by have:=(List.getElem?_eq_some_iff.1 hi).1;omega
    rwa[List.getElem?_take_of_lt hi']at hi)⟩
 exact Qom (C:=C) (R:=Qrx rs ty Post) hm c sb [] _ (Qgr args) hp0 _ w hcb ⟨fun fr hp a w' hd hs hv=>(by rw[Ql1]at hv;exact fin fr hp a w' hd hs hv),fun id sk' he=>(by simp[FW.Qap]at he),fin⟩ rfl hsim (hv C rfl)
theorem Qal5{P:Program}(hP:C.P=P){g:FuncId}{args pargs:List PV}{d:Nat}{ty:TypeId}{Post:List PV->Prop}(h:Qn1 P g pargs ty Post)(hargs:([]++args++[]).map (Qaa hp)=pargs)(hdat:pargs.all PV.isData=true)(hr:([]++args++[]).flatMap PV.refs=[])
  (hB:isB d=false) (hK:∀ys,Qiw ys->Post ys->K (upd (Qa2 d fr) d (.ms d ys.length)) (Qv hp d ⟨1,ty,ys,false⟩)):Qgw C false (.fn g [] []) args (some d) fr hp K:=by
 subst hP;refine⟨h.1,fun ρ tmps w fv cv av hdN hs h1 h2 h3 hr1 hr2 hr3=>?_⟩;have hf0:Qaj hp (([]++args++[]).flatMap PV.refs)=hp:=by rw[hr];rfl
 have hrep:=Q0b hs h1 h2 h3 hr1 hr2 hr3 (by rw[hargs];exact hdat);rw[hf0,hargs]at hrep;refine(h.2 w _ (fv++av++cv) (Quj hs) (by rw[<-hargs];simp[h1,h2,h3]) hrep).mono ?_;rintro e w' ⟨v,b,cap,ys,rfl,rfl,hb,hx,hI,hcap,hm,hpost⟩;have hbl:b<w'.heap.size:=by obtain⟨_,cur,cp,i1,_⟩:=hI;exact(Array.getElem?_eq_some_iff.1 i1).1
 have hrb:=hs.rebind (w':=w') d (some b) ⟨1,ty,ys,false⟩ hB (hx.mono (fun _ _ h=>h.elim)) (fun c hc=>by cases hc;exact⟨.inl (Nat.le_trans hs.ext.size hb),hbl,.inl hb⟩) (by simp) (Qoq hI.1) (by simp)
  (fun c hc=>by
   cases hc;obtain⟨hint,cur,cp,i1,i2,i3,i4,i5⟩:=hI;refine⟨cur,cp,i1,i2,i3,i4,fun i x hi j y hy=>?_⟩;obtain⟨k,n,rfl⟩:=hint x (List.mem_of_getElem? hi);cases j with
   |zero=>simp[PV.cells]at hy;subst hy;rw[Nat.mul_one,Nat.add_zero,i5 i k n hi];exact Qs.int k n
   |succ j=>simp[PV.cells]at hy)
 refine⟨_,_,_,rfl,⟨_,hrb.updO (d:=some d) (p:=.ms d ys.length) ?_ hdN⟩,by simp,hK ys hI.1 hpost⟩;exact⟨⟨1,ty,ys,false⟩,by simp[Qv],by simp,.inr ⟨b,cap,Qb0 _ _ _,by simp,by rw[Nat.zero_add];exact hcap,by omega⟩⟩
def Qcr(hp:HP):PV->PV
 |.mp β i o=>match hp β with
  |some hb=>match hb.xs[i]? with
   |some x=>.pt (x.cells.drop o)
   |none=>.undef
  |none=>.undef
 |.mso β o n=>match hp β with
  |some hb=>.sl hb.e ((hb.xs.drop o).take n)
  |none=>.undef
 |.rb β o n=>match hp β with
  |some hb=>.pt [.sl hb.e ((hb.xs.drop o).take n)]
  |none=>.undef
 |p=>p
def Qtg(C:Ctx)(ρ:Nat->Option Nat)(hp:HP)(l:List Nat):Nat->Prop:=fun c=>Xof C ρ hp c/\¬∃β∈l,ρ β=some c
theorem Qs.but{l:List Nat}{q:PV}{u:Value}(h:Qs w (Xof C ρ hp) q u):Qs w (Qtg C ρ hp l) q u:=
 h.mono (fun _ _ _=>rfl) (fun _ _ hn hx=>hn hx.1) (Nat.le_refl _)
theorem Qc5.but{tmps:Array Value}(h:Q9 C ρ fr hp tmps w){β o n:Nat}{v:Value}{l:List Nat}{hb:HB}(hr:Qc5 ρ hp w β o n v)(hβl:β∈l)(g1:hp β=some hb):Qs w (Qtg C ρ hp l) (.sl hb.e ((hb.xs.drop o).take n)) v:=by
 obtain⟨hb2,g1',g2,g3⟩:=hr;rw[g1]at g1';cases g1';rcases g3 with⟨g3,rfl,rfl,rfl⟩|⟨b,cap,g3,rfl,g5,g6⟩
 ·simp only[List.take_zero];exact .slE _ _ _ (Nat.zero_le _)
 ·have hown:=h.own β hb g1;have hblk:=hown.blk;rw[g3]at hblk;obtain⟨_,hlt,cur,cap',c1,c2,c3,c4,c5⟩:=hblk;obtain⟨cur',ty',d1,d2⟩:=g5;rw[c1]at d1;cases d1;have hcc:o+cap=cap':=by rw[c2]at d2;exact(Nat.eq_of_mul_eq_mul_right hown.epos d2).symm
  subst hcc;have hlen:((hb.xs.drop o).take n).length=n:=by simp;omega
  have hget:∀(i:Nat)(x:PV),((hb.xs.drop o).take n)[i]? =some x->i<n/\hb.xs[o+i]? =some x:=fun i x hx=>by
   have hi:i<n:=by have:=(List.getElem?_eq_some_iff.1 hx).1;omega
   rw[List.getElem?_take_of_lt hi,List.getElem?_drop]at hx;exact⟨hi,hx⟩
  have:=Qs.sl (w:=w) (X:=Qtg C ρ hp l) hb.e ((hb.xs.drop o).take n) b (o*hb.e) cap (fun i j=>cur.getD ((o+i)*hb.e+j) undef) (fun hxb=>hxb.2 ⟨β,hβl,g3⟩) hlt (by omega) (by omega)
   (fun i x hx=>(hown.len _ x (hget i x hx).2).1)
   (fun i hi j hj=>by rw[hlen]at hi;have:=Qfv (i:=o+i) (e:=hb.e) (o:=0) (j:=j) (n:=hb.e) (cap:=o+cap) (by omega) (by omega) hj;rw[Nat.add_zero]at this;rw[show o*hb.e+i*hb.e+j=(o+i)*hb.e+j by rw[Nat.add_mul]];exact Qbg c1 (by rw[c2];exact this))
   (fun i x hx j y hy=>(c5 _ x (hget i x hx).2 j y hy).but)
  rwa[hlen]at this
theorem Qmv{tmps:Array Value}(h:Q9 C ρ fr hp tmps w){p:PV}{v:Value}{l:List Nat}(hr:Qbp C ρ hp w p v)(hl:∀β∈p.ref1,β∈l)(hu:(Qcr hp p).isData=true)(hnf:∀f a b,p≠ .fn f a b):Qai w (Qtg C ρ hp l) (Qcr hp p) v:=by
 cases p with
 | mp β i o=>
  obtain⟨b,hb,g1,g2,rfl⟩:=hr;have hβl:=hl β (by simp[PV.ref1]);have hown:=h.own β hb g2;have hblk:=hown.blk;rw[g1]at hblk;obtain⟨_,hlt,cur,cap,c1,c2,c3,c4,c5⟩:=hblk;simp only[Qcr,g2]at hu⊢;cases hx:hb.xs[i]? with
  |none=>simp[hx,PV.isData]at hu
  | some x=>
   have hi:i<hb.xs.length:=(List.getElem?_eq_some_iff.1 hx).1;have hcl:=(hown.len i x hx).1;refine Qs.pt _ b _ (fun j=>cur.getD (i*hb.e+o+j) undef) (fun hxb=>hxb.2 ⟨β,hβl,g1⟩) hlt (fun j hj=>?_) (fun j y hy=>?_)
   ·have hj':o+(j+1)<=hb.e:=by simp[hcl]at hj;omega
    exact Qbg c1 (by rw[c2];exact Qfv (by omega) hj' (Nat.lt_succ_self j))
   ·rw[List.getElem?_drop]at hy;rw[Nat.add_assoc];exact(c5 i x hx (o+j) y hy).but
 |mso β o n=>obtain⟨hb,g1,_⟩:=id hr;simp only[Qcr,g1];exact Qc5.but h hr (hl β (by simp[PV.ref1])) g1
 | rb β o n=>
  obtain⟨b,u,rfl,e2,e3,e4,hb,g1,e5⟩:=hr;simp only[Qcr,g1];refine Qs.pt _ b 0 (fun _=>u) (fun hx=>e3 hx.1) e2 (fun j hj=>?_) (fun j y hy=>?_)
  ·obtain rfl:j=0:=by simpa using hj
   simpa using e4
  ·cases j with
   |zero=>simp at hy;subst hy;exact Qc5.but h ⟨hb,g1,e5⟩ (hl β (by simp[PV.ref1])) g1
   |succ j=>simp at hy
 |undef=>simp[Qcr,PV.isData]at hu
 |fn f a b=>exact absurd rfl (hnf f a b)
 |tup=>simp[Qcr,PV.isData]at hu
 |nso=>simp[Qcr,PV.isData]at hu
 |np=>simp[Qcr,PV.isData]at hu
 |rag=>simp[Qcr,PV.isData]at hu
 |rtp=>simp[Qcr,PV.isData]at hu
 |rtq=>simp[Qcr,PV.isData]at hu
 |nst=>simp[Qcr,PV.isData]at hu
 |agg=>cases hr
 |_=>exact Qs.but hr
end Go.FW
namespace Go.FW
open Go
variable {C : Ctx} {ρ : Nat -> Option Nat} {fr : Fr} {hp : HP} {w : World} {K K' R : Qg}
def PV.notFn:PV->Bool
 |.fn .. =>false
 |p=>p.isData
theorem Quq{p:PV}(h:p.notFn=true):p.isData=true/\∀f a b,p≠ .fn f a b:=by cases p<;>simp_all[PV.notFn,PV.isData]
theorem Q5k{tmps:Array Value}(h:Q9 C ρ fr hp tmps w){p:PV}{v:Value}{l:List Nat}(hr:Qr C ρ hp w p v)(hl:∀β∈p.refs,β∈l)(hu:(Qcr hp p).notFn=true):Qai w (Qtg C ρ hp l) (Qcr hp p) v:=by
 obtain⟨hd,hnf⟩:=Quq hu;cases p with
 |mp β i o=>exact Qmv (p:=.mp β i o) h hr (fun β' hβ'=>hl β' hβ') hd (by simp)
 |mso β o n=>exact Qmv (p:=.mso β o n) h hr (fun β' hβ'=>hl β' hβ') hd (by simp)
 |rb β o n=>exact Qmv (p:=.rb β o n) h hr (fun β' hβ'=>hl β' hβ') hd (by simp)
 |fn f a b=>exact absurd rfl (hnf f a b)
 |undef=>simp[Qcr,PV.notFn,PV.isData]at hu
 |tup=>simp[Qcr,PV.notFn,PV.isData]at hu
 |agg cs=>exact Qai.mono (p:=.agg cs) hr (fun _ _ _=>rfl) (fun _ _ hn hx=>hn hx.1) (Nat.le_refl _)
 |nso=>simp[Qcr,PV.isData]at hd
 |np=>simp[Qcr,PV.isData]at hd
 |rag=>simp[Qcr,PV.isData]at hd
 |rtp=>simp[Qcr,PV.isData]at hd
 |rtq=>simp[Qcr,PV.isData]at hd
 |nst=>simp[Qcr,PV.isData]at hd
 |_=>exact Qs.but hr
theorem Qur{tmps:Array Value}(h:Q9 C ρ fr hp tmps w){p:PV}{v:Value}{l:List Nat}(hr:Qbp C ρ hp w p v)(hl:∀β∈p.refs,β∈l)(hu:(Qcr hp p).notFn=true):Qai w (Qtg C ρ hp l) (Qcr hp p) v:=by
 obtain⟨hd,hnf⟩:=Quq hu;refine Qmv h hr (fun β hβ=>hl β ?_) hd ?_
 ·cases p<;>simp_all[PV.ref1,PV.refs]
 ·intro f a b hp';subst hp';exact hnf f a b rfl
theorem Q8h{P:Program}(hP:C.P=P){g:FuncId}{first cap args pargs:List PV}{pr:Bool}{d:Option Nat}{r:PV}(h:Qd P g pargs (· =r))(hargs:(first++args++cap).map (Qcr hp)=pargs)(hdat:pargs.all PV.notFn=true)(hr:r.isScal=true)
  (hK:K (Qkv fr d r) hp):Qgw C pr (.fn g first cap) args d fr hp K:=by
 subst hP;refine⟨h.1,fun ρ tmps w fv cv av hdN hs h1 h2 h3 hr1 hr2 hr3=>?_⟩;refine(h.2 w (Qtg C ρ hp ((first++args++cap).flatMap PV.refs)) (fv++av++cv) (fun b hb=>Quj hs b hb.1) (by rw[<-hargs];simp[h1,h2,h3]) (fun i x hx=>?_)).mono ?_
 ·have hdx:x.notFn=true:=by rw[List.all_eq_true]at hdat;exact hdat x (List.mem_of_getElem? hx)
  rw[<-hargs]at hx;simp only[List.getElem?_map,Option.map_eq_some_iff]at hx;obtain⟨p,hp',rfl⟩:=hx;have hmem:=List.mem_of_getElem? hp';have hl:∀β∈p.refs,β∈(first++args++cap).flatMap PV.refs:=fun β hβ=>List.mem_flatMap.2 ⟨p,hmem,hβ⟩;rw[Qbr];rw[List.getElem?_append]at hp';by_cases c1:i<(first++args).length
  ·rw[if_pos c1]at hp';rw[if_pos (by simp only[Array.size_append,h1,h3];simpa using c1),Qbr];rw[List.getElem?_append]at hp';by_cases c2:i<first.length
   ·rw[if_pos c2]at hp';rw[if_pos (by omega)];exact Qur hs (hr1 i p hp') hl hdx
   ·rw[if_neg c2]at hp';rw[if_neg (by omega),h1];exact Q5k hs (hr3 _ p hp') hl hdx
  ·rw[if_neg c1]at hp';have hsz:(fv++av).size=(first++args).length:=by simp[h1,h3]
   rw[if_neg (by omega),hsz];exact Qur hs (hr2 _ p hp') hl hdx
 ·rintro e w' ⟨v,r',rfl,hx,hr',rfl⟩;exact⟨v,_,_,rfl,⟨ρ,(hs.grow hx).updO (Qr.ofV (Qabl hr hr')) hdN⟩,fun _=>hx,hK⟩
end Go.FW
namespace Go.FW
def Qg5:List Nat->List Nat->Nat->List Nat
 | [],_,_=>[]
 |x::xs,ys,c=>(c+x+ys.headD 0)%65536::Qg5 xs ys.tail ((c+x+ys.headD 0)/65536)
theorem Qsh:∀(a b:List Nat)(c:Nat),(Qg5 a b c).length=a.length
 | [],_,_=>rfl
 |x::xs,b,c=>by simp[Qg5,Qsh xs]
theorem Qus:∀(a b:List Nat)(c:Nat),Ql (Qg5 a b c)
 | [],_,_=>Qdc
 |x::xs,b,c=>by rw[Qg5,Qa5];exact⟨by omega,Qus xs _ _⟩
theorem Q8i{a b:List Nat}{i c:Nat}(h:i<a.length):Qg5 (a.drop i) (b.drop i) c=(c+a[i]+b.getD i 0)%65536::Qg5 (a.drop (i+1)) (b.drop (i+1)) ((c+a[i]+b.getD i 0)/65536):=by rw[List.drop_eq_getElem_cons h,Qg5];simp[List.headD_eq_head?_getD,List.head?_drop,List.getD_eq_getElem?_getD]
theorem Q0l:∀(a b:List Nat)(c:Nat),b.length<=a.length->∃k,val (Qg5 a b c)+65536^a.length*k=val a+val b+c
 | [],b,c,h=>by have:b=[]:=List.length_eq_zero_iff.1 (by simpa using h);subst this;exact⟨c,by simp[Qg5,val]⟩
 |x::xs,b,c,h=>by
  obtain⟨k,hk⟩:=Q0l xs b.tail ((c+x+b.headD 0)/65536) (by simp at h ⊢;omega);refine⟨k,?_⟩;rw[Qg5,val,val,Qkd b,List.length_cons,Nat.pow_succ,Nat.mul_comm (65536^xs.length) 65536,Nat.mul_assoc];generalize 65536^xs.length*k=z at *
  generalize b.headD 0=y at *
  omega
def Qdn:List Nat->List Nat->Nat->Nat->Nat->List Nat×Nat×Nat
 | [],_,_,c,b=>([],c,b)
 |x::xs,ys,q,c,b=>
  let r:=Qdn xs ys.tail q ((c+q*ys.headD 0)/65536) (if x<(c+q*ys.headD 0)%65536+b then 1 else 0)
  ((x+65536-(c+q*ys.headD 0)%65536-b)%65536::r.1,r.2)
theorem Qsi:∀(a v:List Nat)(q c b:Nat),(Qdn a v q c b).1.length=a.length
 | [],_,_,_,_=>rfl
 |x::xs,v,q,c,b=>by simp[Qdn,Qsi xs]
theorem Qut:∀(a v:List Nat)(q c b:Nat),Ql (Qdn a v q c b).1
 | [],_,_,_,_=>Qdc
 |x::xs,v,q,c,b=>by simp only[Qdn];rw[Qa5];exact⟨by omega,Qut xs _ _ _ _⟩
theorem Q8j{a v:List Nat}{i q c b:Nat}(h:i<a.length):Qdn (a.drop i) (v.drop i) q c b=
    ((a[i]+65536-(c+q*v.getD i 0)%65536-b)%65536::(Qdn (a.drop (i+1)) (v.drop (i+1)) q ((c+q*v.getD i 0)/65536) (if a[i]<(c+q*v.getD i 0)%65536+b then 1 else 0)).1,
     (Qdn (a.drop (i+1)) (v.drop (i+1)) q ((c+q*v.getD i 0)/65536) (if a[i]<(c+q*v.getD i 0)%65536+b then 1 else 0)).2):=by
  rw[List.drop_eq_getElem_cons h,Qdn];simp[List.headD_eq_head?_getD,List.head?_drop,List.getD_eq_getElem?_getD]
theorem Q0m:∀(a v:List Nat)(q c b:Nat),Ql a->b<=1->v.length<=a.length->
  val (Qdn a v q c b).1+(q*val v+c+b)=val a+65536^a.length*((Qdn a v q c b).2.1+(Qdn a v q c b).2.2)/\(Qdn a v q c b).2.2<=1
 | [],v,q,c,b,_,hb,h=>by have:v=[]:=List.length_eq_zero_iff.1 (by simpa using h);subst this;simp[Qdn,val,hb]
 |x::xs,v,q,c,b,ha,hb,h=>by
  rw[Qa5]at ha;have hb':(if x<(c+q*v.headD 0)%65536+b then 1 else 0)<=1:=by split<;>omega
  obtain⟨ih,ih2⟩:=Q0m xs v.tail q ((c+q*v.headD 0)/65536) (if x<(c+q*v.headD 0)%65536+b then 1 else 0) ha.2 hb' (by simp at h ⊢;omega);refine⟨?_,ih2⟩;simp only[Qdn];rw[val,val,Qkd v,List.length_cons,Nat.pow_succ,Nat.mul_comm (65536^xs.length) 65536,Nat.mul_assoc,Nat.mul_add q,Nat.mul_left_comm q 65536];generalize Qdn xs v.tail q ((c+q*v.headD 0)/65536) (if x<(c+q*v.headD 0)%65536+b then 1 else 0)=r at *
  generalize 65536^xs.length*(r.2.1+r.2.2)=z at *
  generalize q*v.headD 0=y at *
  generalize q*val v.tail=t at *
  have h0:=ha.1;split at ih
  ·omega
  ·omega
open Go
variable {fr : Fr} {hp : HP}
theorem Qal6{ty len:Nat}{Post:PV->List PV->Prop}{xs':List PV}(hB:hp B0=some ⟨1,ty,xs',false⟩)(hi:Qiw xs')(hl:xs'.length=len)(hp':Post (.tup []) xs'):Qk9 [] ty len Post fr hp:=
 ⟨xs',hB,hi,hl,.inl ⟨by simp,.tup [],trivial,by simp,hp'⟩⟩
theorem Q8k{ty len s:Nat}{Post:PV->List PV->Prop}{xs':List PV}{p:PV}(hB:hp B0=some ⟨1,ty,xs',false⟩)(hi:Qiw xs')(hl:xs'.length=len)(hs:Qaa hp (fr s)=p)(hd:p.isData=true)(hp':Post p xs'):Qk9 [.t s] ty len Post fr hp:=
 ⟨xs',hB,hi,hl,.inl ⟨by simp only[okR];rw[hs];exact hd,p,by simp only[rvP];rw[hs];exact Q2 p,fun β o n e=>by subst e;simp[PV.isData]at hd,hp'⟩⟩
theorem Q3o{ty len s o n:Nat}{Post:PV->List PV->Prop}{xs':List PV}(hB:hp B0=some ⟨1,ty,xs',false⟩)(hi:Qiw xs')(hl:xs'.length=len)(hs:fr s= .mso B0 o n)(hp':Post (.mso B0 o n) xs'):Qk9 [.t s] ty len Post fr hp:=
 ⟨xs',hB,hi,hl,.inr ⟨s,o,n,rfl,hs,hp'⟩⟩
end Go.FW
namespace Go.FW
open Go
variable {C : Ctx} {fr : Fr} {hp : HP} {K : Qg}
theorem Qqk{a b i:Nat}(h:b<2^i):a*2^i|||b=a*2^i+b:=by rw[<-Nat.shiftLeft_eq,Nat.shiftLeft_add_eq_or_of_lt h]
theorem Q8l{bt:Bool}{x y d:Nat}(hx:x<18446744073709551616)(hy:y<18446744073709551616):Qa9 .or bt (.int .u64 (x:Int)) (.int .u64 (y:Int)) d fr hp K=K (upd fr d (.int .u64 ((x|||y:Nat):Int))) hp:=by
 have h1:(BitVec.ofInt 64 (x:Int)|||BitVec.ofInt 64 (y:Int)).toNat=x|||y:=by rw[BitVec.toNat_or,BitVec.ofInt_natCast,BitVec.ofInt_natCast,BitVec.toNat_ofNat,BitVec.toNat_ofNat,Nat.mod_eq_of_lt hx,Nat.mod_eq_of_lt hy]
 have h2:x|||y<18446744073709551616:=Nat.or_lt_two_pow (n:=64) hx hy;simp only[Qa9,IntKind.bits,h1,true_and];rw[Qf7 (by omega) (by omega)];exact congrArg (fun z:Nat=>K (upd fr d (.int .u64 (z:Int))) hp) h1
theorem Q8m{bt:Bool}{x y d:Nat}(hx:x<4294967296)(hy:y<4294967296):Qa9 .or bt (.int .u32 (x:Int)) (.int .u32 (y:Int)) d fr hp K=K (upd fr d (.int .u32 ((x|||y:Nat):Int))) hp:=by
 have h1:(BitVec.ofInt 32 (x:Int)|||BitVec.ofInt 32 (y:Int)).toNat=x|||y:=by rw[BitVec.toNat_or,BitVec.ofInt_natCast,BitVec.ofInt_natCast,BitVec.toNat_ofNat,BitVec.toNat_ofNat,Nat.mod_eq_of_lt hx,Nat.mod_eq_of_lt hy]
 have h2:x|||y<4294967296:=Nat.or_lt_two_pow (n:=32) hx hy;simp only[Qa9,IntKind.bits,h1,true_and];rw[Qoo (by omega) (by omega)];exact congrArg (fun z:Nat=>K (upd fr d (.int .u32 (z:Int))) hp) h1
theorem Qal7{bt:Bool}{x y d:Nat}(hx:x<65536)(hy:y<65536):Qa9 .or bt (.int .u16 (x:Int)) (.int .u16 (y:Int)) d fr hp K=K (upd fr d (.int .u16 ((x|||y:Nat):Int))) hp:=by
 have h1:(BitVec.ofInt 16 (x:Int)|||BitVec.ofInt 16 (y:Int)).toNat=x|||y:=by rw[BitVec.toNat_or,BitVec.ofInt_natCast,BitVec.ofInt_natCast,BitVec.toNat_ofNat,BitVec.toNat_ofNat,Nat.mod_eq_of_lt hx,Nat.mod_eq_of_lt hy]
 have h2:x|||y<65536:=Nat.or_lt_two_pow (n:=16) hx hy;simp only[Qa9,IntKind.bits,h1,true_and];rw[Qabo (by omega) (by omega)];exact congrArg (fun z:Nat=>K (upd fr d (.int .u16 (z:Int))) hp) h1
theorem Q3p{bt:Bool}{k':IntKind}{x s d:Nat}(hs:s<=64)(h:x*2^s<18446744073709551616):Qa9 .shl bt (.int .u64 (x:Int)) (.int k' (s:Int)) d fr hp K=K (upd fr d (.int .u64 ((x*2^s:Nat):Int))) hp:=by
 have h0:(0:Int)<=s:=by omega
 have h1:min ((s:Int).toNat) IntKind.u64.bits=s:=by simp[IntKind.bits];omega
 simp only[Qa9,h0,true_and,h1];rw[show(x:Int)*2^s=((x*2^s:Nat):Int)by push_cast;rfl,Qf7 (by omega) (by omega)]
theorem Q3q{bt:Bool}{k':IntKind}{x s d:Nat}(hs:s<=32)(h:x*2^s<4294967296):Qa9 .shl bt (.int .u32 (x:Int)) (.int k' (s:Int)) d fr hp K=K (upd fr d (.int .u32 ((x*2^s:Nat):Int))) hp:=by
 have h0:(0:Int)<=s:=by omega
 have h1:min ((s:Int).toNat) IntKind.u32.bits=s:=by simp[IntKind.bits];omega
 simp only[Qa9,h0,true_and,h1];rw[show(x:Int)*2^s=((x*2^s:Nat):Int)by push_cast;rfl,Qoo (by omega) (by omega)]
theorem Qql{bt:Bool}{k':IntKind}{x d:Nat}(h:x<281474976710656):Qa9 .shl bt (.int .u64 (x:Int)) (.int k' 16) d fr hp K=K (upd fr d (.int .u64 ((x*65536:Nat):Int))) hp:=
 Q3p (s:=16) (by omega) (by omega)
theorem Qqm{bt:Bool}{k':IntKind}{x d:Nat}(h:x<65536):Qa9 .shl bt (.int .u32 (x:Int)) (.int k' 16) d fr hp K=K (upd fr d (.int .u32 ((x*65536:Nat):Int))) hp:=
 Q3q (s:=16) (by omega) (by omega)
theorem Qws{bt:Bool}{k':IntKind}{x s d:Nat}(hs:s<=32):Qa9 .shr bt (.int .u32 (x:Int)) (.int k' (s:Int)) d fr hp K=K (upd fr d (.int .u32 ((x/2^s:Nat):Int))) hp:=by
 rw[Q0f (by omega)];have h1:min ((s:Int).toNat) IntKind.u32.bits=s:=by simp[IntKind.bits];omega
 rw[h1,Int.fdiv_eq_ediv_of_nonneg _ (Int.pow_nonneg (by omega))];rw[show(x:Int)/2^s=((x/2^s:Nat):Int)by push_cast;rfl]
theorem Qth{bt:Bool}{x y d:Nat}(hx:x<281474976710656)(hy:y<65536):Qa9 .or bt (.int .u64 ((x*65536:Nat):Int)) (.int .u64 (y:Int)) d fr hp K=K (upd fr d (.int .u64 ((x*65536+y:Nat):Int))) hp:=by rw[Q8l (by omega) (by omega),show x*65536|||y=x*65536+y from Qqk (i:=16) hy]
theorem Qab1{bt:Bool}{x y d:Nat}(hx:x<65536)(hy:y<65536):Qa9 .or bt (.int .u32 ((x*65536:Nat):Int)) (.int .u32 (y:Int)) d fr hp K=K (upd fr d (.int .u32 ((x*65536+y:Nat):Int))) hp:=by rw[Q8m (by omega) (by omega),show x*65536|||y=x*65536+y from Qqk (i:=16) hy]
theorem Qxy{bt:Bool}{x y d:Nat}(hx:x<65536)(hy:y<65536):Qa9 .or bt (.int .u32 (y:Int)) (.int .u32 ((x*65536:Nat):Int)) d fr hp K=K (upd fr d (.int .u32 ((x*65536+y:Nat):Int))) hp:=by rw[Q8m (by omega) (by omega),Nat.or_comm,show x*65536|||y=x*65536+y from Qqk (i:=16) hy]
theorem Qwt{bt:Bool}{k:IntKind}{x y d:Nat}(hy:0<y)(hw:k.wrap ((x/y:Nat):Int)=((x/y:Nat):Int)):Qa9 .quo bt (.int k (x:Int)) (.int k (y:Int)) d fr hp K=K (upd fr d (.int k ((x/y:Nat):Int))) hp:=by
 have:(y:Int)≠0:=by omega
 simp only[Qa9,ne_eq,this,not_false_eq_true,true_and];rw[Qag2 (by omega),<-hw];rfl
theorem Qgm{bt:Bool}{k:IntKind}{x y d:Nat}(hy:0<y):Qa9 .rem bt (.int k (x:Int)) (.int k (y:Int)) d fr hp K=K (upd fr d (.int k ((x%y:Nat):Int))) hp:=by
 have:(y:Int)≠0:=by omega
 simp only[Qa9,ne_eq,this,not_false_eq_true,true_and];rw[Qag3 (by omega)];rfl
theorem Q8n{n:Nat}(h:n<18446744073709551616):IntKind.u64.wrap (n:Int)=n:=Qf7 (by omega) (by omega)
theorem Q8o{n:Nat}(h:n<4294967296):IntKind.u32.wrap (n:Int)=n:=Qoo (by omega) (by omega)
theorem Q8p{n:Nat}(h:n<9223372036854775808):IntKind.i64.wrap (n:Int)=n:=Qh7 (by omega) (by omega)
theorem Qn2{bt:Bool}{x y d:Nat}(hy:0<y)(hx:x<18446744073709551616):Qa9 .quo bt (.int .u64 (x:Int)) (.int .u64 (y:Int)) d fr hp K=K (upd fr d (.int .u64 ((x/y:Nat):Int))) hp:=
 Qwt hy (Q8n (Nat.lt_of_le_of_lt (Nat.div_le_self x y) hx))
theorem Qahd{bt:Bool}{x y d:Nat}(hy:0<y)(hx:x<4294967296):Qa9 .quo bt (.int .u32 (x:Int)) (.int .u32 (y:Int)) d fr hp K=K (upd fr d (.int .u32 ((x/y:Nat):Int))) hp:=
 Qwt hy (Q8o (Nat.lt_of_le_of_lt (Nat.div_le_self x y) hx))
theorem Qwu{bt:Bool}{x y d:Nat}(hy:0<y)(hx:x<9223372036854775808):Qa9 .quo bt (.int .i64 (x:Int)) (.int .i64 (y:Int)) d fr hp K=K (upd fr d (.int .i64 ((x/y:Nat):Int))) hp:=
 Qwt hy (Q8p (Nat.lt_of_le_of_lt (Nat.div_le_self x y) hx))
theorem Qahe{e d β o n H:Nat}{k:IntKind}(h:H<=n)(he:(hp β).map (·.e)=some e):slK e (.mso β o n) none (some (.int k (H:Int))) none d fr hp K=K (upd fr d (.mso β o H)) hp:=by
 have h1:(H:Int)<=(n:Int):=by omega
 simp[slK,Qca,he,h1]
theorem Qahf{e d β o n L H:Nat}{k k':IntKind}(h1:L<=H)(h:H<=n)(h0:L<n)(he:(hp β).map (·.e)=some e):slK e (.mso β o n) (some (.int k (L:Int))) (some (.int k' (H:Int))) none d fr hp K=K (upd fr d (.mso β (o+L) (H-L))) hp:=by
 have q1:(H:Int)<=(n:Int):=by omega
 have q2:(L:Int)<=(H:Int):=by omega
 have q3:(L:Int)<(n:Int):=by omega
 simp[slK,Qca,he,q1,q2,q3]
theorem Qxz{bt:Bool}{x d:Nat}(hx:x<9223372036854775808):Qa9 .quo bt (.int .i64 (x:Int)) (.int .i64 16) d fr hp K=K (upd fr d (.int .i64 ((x/16:Nat):Int))) hp:=
 Qwu (y:=16) (by omega) hx
theorem Qx0{bt:Bool}{x d:Nat}:Qa9 .rem bt (.int .i64 (x:Int)) (.int .i64 16) d fr hp K=K (upd fr d (.int .i64 ((x%16:Nat):Int))) hp:=
 Qgm (y:=16) (by omega)
def Qjk(s:Nat):List Nat->Nat->List Nat
 | [],c=>[c]
 |x::xs,c=>((x*2^s)%65536+c)::Qjk s xs (x*2^s/65536)
theorem Q0n(s:Nat):∀(l:List Nat)(c:Nat),val (Qjk s l c)=val l*2^s+c
 | [],c=>by simp[Qjk,val]
 |x::xs,c=>by rw[Qjk,val,Q0n s xs,val,Nat.add_mul,Nat.mul_assoc];generalize x*2^s=y;generalize val xs*2^s=z;omega
theorem Qqn{s:Nat}(h:s<=16):(65536:Nat)=2^s*2^(16-s):=by rw[<-Nat.pow_add,show s+(16-s)=16 by omega]
theorem Q0o{s x c:Nat}(h:s<=16)(hc:c<2^s):(x*2^s)%65536+c<65536/\c|||(x*2^s)%65536=(x*2^s)%65536+c:=by
 have e:(x*2^s)%65536=(x%2^(16-s))*2^s:=by rw[Qqn h,Nat.mul_comm x,Nat.mul_mod_mul_left,Nat.mul_comm]
 have h1:x%2^(16-s)<2^(16-s):=Nat.mod_lt _ (Nat.pow_pos (by omega));have h2:(x%2^(16-s)+1)*2^s<=2^(16-s)*2^s:=Nat.mul_le_mul_right _ h1;rw[Nat.add_mul,Nat.mul_comm (2^(16-s)),<-Qqn h]at h2;rw[e];refine⟨by omega,?_⟩;rw[Nat.or_comm,Qqk hc]
theorem Qx1{s x:Nat}(h:s<=16)(hx:x<65536):x*2^s/65536<2^s:=by rw[Nat.div_lt_iff_lt_mul (by omega),Nat.mul_comm];exact Nat.mul_lt_mul_of_pos_left hx (Nat.pow_pos (by omega))
theorem Quu{s:Nat}(h:s<=15):∀(l:List Nat)(c:Nat),Ql l->c<2^s->Ql (Qjk s l c)
 | [],c,_,hc=>by have:2^s<=2^15:=Nat.pow_le_pow_right (by omega) h;simp[Qjk,Ql];omega
 |x::xs,c,hl,hc=>by rw[Qa5]at hl;rw[Qjk,Qa5];exact⟨(Q0o (by omega) hc).1,Quu h xs _ hl.2 (Qx1 (by omega) hl.1)⟩
theorem Qsj(s:Nat):∀(l:List Nat)(c:Nat),(Qjk s l c).length=l.length+1
 | [],_=>rfl
 |x::xs,c=>by simp[Qjk,Qsj s xs]
theorem Qal8{s x:Nat}(h:s<=15)(hx:x<65536):x*2^s<2147483648:=by have:2^s<=2^15:=Nat.pow_le_pow_right (by omega) h;have:=Nat.mul_le_mul (show x<=65535 by omega) this;omega
theorem Q0p(l:List Nat):∀n,n<=l.length->cut l n=l.take (cut l n).length
 |0,_=>by simp[cut]
 |n+1,h=>by
  unfold cut;split
  ·exact Q0p l n (by omega)
  ·rw[List.length_take,Nat.min_eq_left h]
theorem Qab2{l:List Nat}(h:Ql l):l.take (nl (val l))=dig (val l):=by have:=Q0p l l.length (Nat.le_refl _);rw[Qnx h]at this;exact this.symm
end Go.FW
namespace Go.FW
open Go
theorem Qn1.toV{P:Program}{f:FuncId}{args:List PV}{ty:TypeId}{ys:List PV}(h:Qn1 P f args ty (· =ys)):Qd P f args (· = .sl 1 ys):=by
 refine⟨h.1,fun w X vals hX h2 h3=>(h.2 w X vals hX h2 h3).mono ?_⟩;rintro e w' ⟨v,b,cap,ys',rfl,rfl,hb,hx,hI,hcap,hm,rfl⟩;refine⟨_,_,rfl,hx,?_,rfl⟩;obtain⟨hint,cur,cp,i1,i2,i3,i4,i5⟩:=hI;obtain⟨cur',ty',d1,d2⟩:=hcap;rw[i1]at d1;cases d1;have hbl:b<w'.heap.size:=(Array.getElem?_eq_some_iff.1 i1).1;have e:cp=cap:=by omega
 subst e;refine Qs.sl (w:=w') (X:=X) 1 ys' b 0 cp (fun i j=>cur.getD (i+j) undef) (fun hxb=>by have:=hX b hxb;omega) hbl i3 i4 (Qoq hint |> fun h i x hx=>(h i x hx).1) (fun i hi j hj=>?_) (fun i x hx j y hy=>?_)
 ·have:j=0:=by omega
  subst this;simp only[Nat.zero_add,Nat.mul_one,Nat.add_zero];exact Qbg i1 (by omega)
 ·obtain⟨k,n,rfl⟩:=hint x (List.mem_of_getElem? hx);cases j with
  |zero=>simp[PV.cells]at hy;subst hy;show Qs w' X (.int k n) (cur.getD (i+0) undef);rw[Nat.add_zero,i5 i k n hx];exact Qs.int k n
  |succ j=>simp[PV.cells]at hy
def Qix(s:Nat):List Nat->List Nat
 | []=>[]
 |x::xs=>((xs.headD 0*65536+x)/2^s)%65536::Qix s xs
theorem Qnb(s:Nat):∀l,(Qix s l).length=l.length
 | []=>rfl
 |x::xs=>by simp[Qix,Qnb s xs]
theorem Quv(s:Nat):∀l,Ql (Qix s l)
 | []=>Qdc
 |x::xs=>by rw[Qix,Qa5];exact⟨by omega,Quv s xs⟩
theorem Q8q{s i:Nat}{l:List Nat}(h:i<l.length):Qix s (l.drop i)=((l.getD (i+1) 0*65536+l[i])/2^s)%65536::Qix s (l.drop (i+1)):=by rw[List.drop_eq_getElem_cons h,Qix];simp[List.headD_eq_head?_getD,List.head?_drop,List.getD_eq_getElem?_getD]
theorem Qab3{x V s:Nat}(hs:s<=16)(hx:x<65536):(x+65536*V)/2^s=((V%65536*65536+x)/2^s)%65536+65536*(V/2^s):=by
 have hp:0<2^s:=Nat.pow_pos (by omega);have e0:=Nat.div_add_mod V (2^s);have hr:=Nat.mod_lt V hp;generalize hq:V/2^s=q at *
 generalize hrr:V%2^s=r at *
 have hy:V%65536%2^s=r:=by rw[Qqn hs,Nat.mod_mul_right_mod];exact hrr
 have e1:=Nat.div_add_mod (V%65536) (2^s);rw[hy]at e1;generalize V%65536/2^s=t at *
 have hlt:(65536*r+x)/2^s<65536:=by rw[Nat.div_lt_iff_lt_mul hp];have:65536*(r+1)<=65536*2^s:=Nat.mul_le_mul_left _ hr;omega
 have k1:x+65536*V=(65536*r+x)+2^s*(65536*q):=by rw[<-e0,Nat.mul_add,Nat.mul_left_comm];omega
 have k2:V%65536*65536+x=(65536*r+x)+2^s*(65536*t):=by rw[<-e1,Nat.add_mul,Nat.mul_assoc,Nat.mul_comm t 65536];omega
 rw[k1,k2,Nat.add_mul_div_left _ _ hp,Nat.add_mul_div_left _ _ hp,Nat.add_mul_mod_self_left,Nat.mod_eq_of_lt hlt]
theorem Q0q{s:Nat}(hs:s<=16):∀l,Ql l->val (Qix s l)=val l/2^s
 | [],_=>by simp[Qix,val]
 | x::xs,h=>by
  rw[Qa5]at h;rw[Qix,val,Q0q hs xs h.2,val,Qab3 hs h.1];have:xs.headD 0=val xs%65536:=by
   cases xs with
   |nil=>simp[val]
   |cons y ys=>have:=h.2 y (by simp);simp[val];omega
  rw[this]
variable {C : Ctx} {ρ : Nat -> Option Nat} {fr fr' : Fr} {hp : HP} {w : World} {K K' R R' : Qg}
def Fle(fr fr':Fr):Prop:=∀s,fr' s=fr s∨fr' s= .undef
theorem Fle.refl(fr:Fr):Fle fr fr:=fun _=>.inl rfl
theorem Fle.trans{a b c:Fr}(h:Fle a b)(k:Fle b c):Fle a c:=fun s=>by
 rcases k s with e|e
 ·rw[e];exact h s
 ·exact .inr e
theorem Fle.upd(h:Fle fr fr')(d:Nat){v v':PV}(hv:v'=v∨v'= .undef):Fle (upd fr d v) (upd fr' d v'):=fun s=>by
 unfold FW.upd;split
 ·exact hv
 ·exact h s
theorem Fle.upd'(h:Fle fr fr')(d:Nat)(v:PV):Fle (FW.upd fr d v) (FW.upd fr' d v):=h.upd d (.inl rfl)
theorem Fle.kill(h:Fle fr fr')(β:Nat):Fle (Qa2 β fr) (Qa2 β fr'):=fun s=>by
 unfold Qa2;rcases h s with e|e
 ·exact .inl (by rw[e])
 ·right;rw[e];simp[Qaq,PV.refs]
theorem Fle.ev(h:Fle fr fr')(x:Opd):ev fr' x=ev fr x∨ev fr' x= .undef:=by
 cases x with
 |t n=>exact h n
 |c p=>exact .inl rfl
theorem Fle.mem(h:Fle fr fr'){q:PV->Prop}(hq:¬q .undef){l:List Opd}(hl:∀p∈l.map (FW.ev fr'),q p):l.map (FW.ev fr')=l.map (FW.ev fr):=by
 refine List.map_congr_left fun x hx=>?_;rcases h.ev x with e|e
 ·exact e
 ·exact absurd (e▸hl _ (List.mem_map_of_mem hx)) hq
theorem Fle.nst(h:Fle fr fr'){γ γ' e ty:Nat}{xs:List PV}(e1:fr' γ= .nst γ' e ty xs):fr γ= .nst γ' e ty xs:=by
 rcases h γ with e2|e2
 ·rw[<-e2];exact e1
 ·rw[e1]at e2;cases e2
theorem Fle.drop(h:Fle fr fr')(γ:Nat):Fle (Qd0 γ fr) (Qd0 γ fr'):=fun s=>by
 unfold Qd0;rcases h s with e|e
 ·exact .inl (by rw[e])
 ·right;rw[e];rfl
theorem Fle.take(h:Fle fr fr')(β:Nat):Fle (Qc1 β fr) (Qc1 β fr'):=fun s=>by
 unfold Qc1;rcases h s with e|e
 ·exact .inl (by rw[e])
 ·right;rw[e];simp[Qbb,Qaq,PV.refs]
theorem Fle.wk(h:Fle fr fr'):Wk fr hp fr' hp:=by
 rintro C tmps w ⟨ρ,hs⟩;refine⟨ρ,hs.sz,hs.ext,hs.keep,hs.own,hs.inj,fun s=>?_⟩;rcases h s with h|h<;>rw[h]
 ·exact hs.slots s
 ·trivial
theorem Fle.sim{tmps:Array Value}(h:Fle fr fr')(hs:Q9 C ρ fr hp tmps w):Q9 C ρ fr' hp tmps w:=by
 refine⟨hs.sz,hs.ext,hs.keep,hs.own,hs.inj,fun s=>?_⟩;rcases h s with h|h<;>rw[h]
 ·exact hs.slots s
 ·trivial
theorem Q5l(h:Fle fr fr')(x:Option Opd):x.map (ev fr')=x.map (ev fr)∨x.map (ev fr')=some .undef:=by
 cases x with
 |none=>exact .inl rfl
 |some x=>rcases h.ev x with e|e<;>simp[e]
theorem Qy3(d:Int):Qca d (some .undef)=none:=rfl
theorem Qwv (h:Fle fr fr') (hK:∀f f' hp,Fle f f'->K' f' hp->K f hp) (o:SOp):opV C o fr' hp K'->opV C o fr hp K:=by
 have hu:∀(d:Nat)(v:PV)(hp:HP),K' (upd fr' d v) hp->K (upd fr d v) hp:=fun d v hp H=>hK _ _ _ (h.upd' d v) H;have hk:∀(β d:Nat)(v:PV)(hp:HP),K' (upd (Qa2 β fr') d v) hp->K (upd (Qa2 β fr) d v) hp:=fun β d v hp H=>hK _ _ _ ((h.kill β).upd' d v) H;have hz:∀hp,K' fr' hp->K fr hp:=fun hp H=>hK _ _ _ h H;have mono:∀ {o:SOp},opV C o fr hp K'->opV C o fr hp K:=fun H=>Qtf (fun f hp H=>hK _ _ _ (Fle.refl f) H) _ H;cases o with
 |mv d x=>exact fun H=>hK _ _ _ (h.upd d (h.ev x)) H
 | pick d c a b=>
  simp only[opV,Qk5];rcases h.ev c with e|e
  ·rw[e];split
   ·exact fun H=>⟨fun t=>hK _ _ _ (h.upd d (h.ev a)) (H.1 t),fun t=>hK _ _ _ (h.upd d (h.ev b)) (H.2 t)⟩
   ·exact id
  ·rw[e];exact False.elim
 | call d pr f args=>
  simp only[opV,Qgw];rcases h.ev f with e|e
  ·rw[e];split
   ·rintro⟨h1,h2⟩;refine⟨h1,fun ρ tmps w fv cv av a1 a2 a3 a4 a5 a6 a7 a8=>?_⟩;refine(h2 ρ tmps w fv cv av a1 (h.sim a2) a3 a4 (by simpa using a5) a6 a7 (fun i x hx=>?_)).mono ?_
    ·simp only[List.getElem?_map,Option.map_eq_some_iff]at hx;obtain⟨y,hy,rfl⟩:=hx;rcases h.ev y with e|e
     ·rw[e];exact a8 i _ (by simp[hy])
     ·rw[e];trivial
    ·rintro e w' ⟨v,f1,hp',e1,e2,e3,e4⟩;exact⟨v,f1,hp',e1,e2,e3,hK _ _ _ (Fle.refl _) e4⟩
   ·exact id
  ·rw[e];exact False.elim
 | bs d e ty ps=>
  simp only[opV,bsK];by_cases hb:Qks (ps.map (ev fr'))=true
  ·rw[if_pos hb];rintro⟨h1,h2⟩;have e:ps.map (ev fr')=ps.map (ev fr):=by
    match ps,hb with
    | [],hb=>simp[Qks]at hb
    | [p],hb=>
     rcases h.ev p with e|e
     ·simp[e]
     ·rw[List.map_cons,List.map_nil,e]at hb;simp[Qks,Qeu]at hb
    |p::q::ps,hb=>simp[Qks]at hb
   rw[e]at h2 hb;rw[if_pos hb];exact⟨h1,hK _ _ _ (((h.take _).upd' _ _).upd' _ _) h2⟩
  ·rw[if_neg hb];rintro⟨h1,h2,h3⟩;have e:=h.mem (q:=fun p=>(Qaa hp p).isData=true) (by simp[Qaa,Qa0,PV.isData]) (l:=ps) (fun p hp=>(h2 p hp).1);rw[e]at h2 h3 hb;rw[if_neg hb];exact⟨h1,h2,hk _ _ _ _ h3⟩
 | bld d z ps=>
  have key:((∀x∈ps,ev fr' x.2.2≠ .undef)->(ps.map fun p=>(p.1,p.2.1,ev fr' p.2.2))=ps.map fun p=>(p.1,p.2.1,ev fr p.2.2)):=fun hu=>by
   refine List.map_congr_left fun x hx=>?_;rcases h.ev x.2.2 with e|e
   ·rw[e]
   ·exact absurd e (hu x hx)
  intro H;simp only[opV,Qg2]at H;split at H
  ·rename_i hn;obtain⟨h2,h3⟩:=H;have e:=key fun x hx e=>by obtain⟨cs,h4,_⟩:=h2 _ (List.mem_map_of_mem hx);rw[e]at h4;simp[stN]at h4
   rw[e]at h2 h3 hn;simp only[opV,Qg2];rw[if_pos hn];exact⟨h2,hK _ _ _ (h.upd' _ _) h3⟩
  ·rename_i hn;obtain⟨h2,h3⟩:=H;have e:=key fun x hx e=>by have:=(h2 _ (List.mem_map_of_mem hx)).1;rw[e]at this;simp[Qaa,Qa0,PV.isData]at this
   rw[e]at h2 h3 hn;simp only[opV,Qg2];rw[if_neg hn];exact⟨h2,hK _ _ _ (h.upd' _ _) h3⟩
 |fn d f first cap=>simp only[opV];rintro⟨h2,h3⟩;have h2':=h2;rw[List.all_append,Bool.and_eq_true,List.all_eq_true,List.all_eq_true]at h2';have e1:=h.mem (q:=fun p=>p.isCap=true) (by simp[PV.isCap]) h2'.1;have e2:=h.mem (q:=fun p=>p.isCap=true) (by simp[PV.isCap]) h2'.2;rw[e1,e2]at h2 h3;exact⟨h2,hK _ _ _ (h.upd' _ _) h3⟩
 | nilc d x=>
  simp only[opV,Qt3];rcases h.ev x with e|e
  ·rw[e];intro H;revert H
   repeat' split
   all_goals first|exact id|exact hz _|exact hu _ _ _|grind
  ·rw[e];intro H;revert H;repeat' split
   all_goals first|exact id|exact False.elim|grind
 | bin d op bt x y=>
  simp only[opV];rcases h.ev x with e|e<;>rcases h.ev y with e'|e'<;>rw[e,e']
  ·unfold Qa9;intro H;revert H;split
   ·split<;>first|exact fun H=>⟨H.1,hu _ _ _ H.2⟩|exact fun H=>⟨H.1,H.2.1,hu _ _ _ H.2.2⟩|exact id
   ·split<;>first|exact fun H=>⟨H.1,hu _ _ _ H.2⟩|exact id
   ·exact id
  all_goals
   unfold Qa9;intro H;revert H
   repeat' split
   all_goals first|exact False.elim|(intros;simp_all;done)|(rename_i h1 _;cases h1;done)|(rename_i h1;cases h1;done)
 | sl d e x lo hi mx=>
  simp only[opV,slK];rcases h.ev x with e0|e0<;>rcases Q5l h lo with e1|e1<;>rcases Q5l h hi with e2|e2<;>rcases Q5l h mx with e3|e3<;>rw[e0,e1,e2,e3]
  all_goals
   intro H;revert H
   try simp only[Qy3]
   repeat' split
   all_goals first|exact id|exact False.elim|(intros;simp_all;done)|grind
 | ld d n ag x=>
  simp only[opV,ldK];rcases h.ev x with e|e
  ·rw[e];intro H;revert H;split
   ·split
    ·exact fun⟨a,b,c,k⟩=>⟨a,b,c,hu _ _ _ k⟩
    ·exact id
   ·exact fun⟨a,b,k⟩=>⟨a,b,hu _ _ _ k⟩
   ·exact fun⟨a,b,k⟩=>⟨a,b,hu _ _ _ k⟩
   ·intro H;split at H
    ·rename_i hγ;rw[h.nst hγ];obtain⟨a,b,c,d,k⟩:=H;exact⟨a,b,c,d,hu _ _ _ k⟩
    ·exact H.elim
   ·exact id
  ·rw[e];exact fun H=>H.elim
 | st n x y=>
  simp only[opV,stK];rcases h.ev x with e|e<;>rcases h.ev y with e'|e'<;>rw[e,e']
  ·intro H;revert H;split
   ·split
    ·exact fun⟨a,b,c,d,f,k⟩=>⟨a,b,c,d,f,hz _ k⟩
    ·exact id
   ·intro H;split at H
    ·rename_i hγ;rw[h.nst hγ];obtain⟨a,b,c,d,H⟩:=H;refine⟨a,b,c,d,?_⟩;revert H;split
     ·exact fun⟨f,k⟩=>⟨f,hK _ _ _ ((h.drop _).upd' _ _) k⟩
     ·exact id
    ·exact H.elim
   ·exact id
  ·intro H;exfalso;revert H;split
   ·split
    ·rintro⟨_,b,_⟩;simp[Qaa,Qa0,PV.isData]at b
    ·exact id
   ·split
    ·rintro⟨_,_,_,_,H⟩;exact H
    ·exact id
   ·exact id
  ·exact fun H=>H.elim
  ·exact fun H=>H.elim
 | app d e by_ ty x y=>
  simp only[opV,Qgq];rcases h.ev y with e'|e'
  ·rw [e'];intro H;revert H;split
   ·unfold Qwf;split
    ·rename_i δ _;rcases h δ with e2|e2
     ·rw [e2];split
      ·rintro⟨a1,a2,a3,H⟩;refine⟨a1,a2,a3,?_⟩;rcases h.ev x with e|e
       ·rw[e]at H;revert H;split
        ·exact fun H=>⟨H.1,hK _ _ _ (((h.take _).upd' _ _).upd' _ _) H.2⟩
        ·rename_i γ k _;rcases h γ with e3|e3
         ·rw[e3];split
          ·exact fun H=>⟨H.1,H.2.1,hK _ _ _ (((h.take _).upd' _ _).upd' _ _) H.2.2⟩
          ·exact id
         ·rw[e3];exact fun H=>H.elim
        ·exact id
       ·rw[e]at H;exact H.elim
      ·exact id
     ·rw[e2];exact fun H=>H.elim
    ·exact id
   ·rintro⟨h0,h1,H⟩;refine⟨h0,h1,?_⟩;rcases h.ev x with e|e
    ·rw[e]at H;revert H;split
     ·rintro⟨a,b,c⟩;exact⟨a,b,hk _ _ _ _ c⟩
     ·split
      ·rintro(⟨a1,a2,a3,a4,a5,a6,a7,c⟩|⟨a1,a2,a3,c⟩)
       ·exact .inl ⟨a1,a2,a3,a4,a5,a6,a7,hk _ _ _ _ c⟩
       ·exact .inr ⟨a1,a2,a3,hK _ _ _ ((h.take _).upd' _ _) c⟩
      ·exact id
     ·exact id
    ·rw[e]at H;exact H.elim
  ·rw[e'];exact fun H=>H.elim
 | un d op x|conv d k x|len d x|sln d x|fld d o x|fldv d o n ag x|ext d x i=>
  all_goals
   simp only[opV,unK,Qof,Qkr,Qs8,Qna,Qju,ldK,Qg1]
   try (rcases h.ev x with e|e<;>rw[e])
  all_goals
   intro H;revert H
   repeat' split
   all_goals first|exact id|exact False.elim|exact hu _ _ _|grind [Qaa,Qa0,PV.isData]
 | box d n ty x=>
  simp only[opV];rcases h.ev x with e|e
  ·rw[e];unfold Qdu;split
   ·unfold Qp8;exact fun H=>⟨H.1,hK _ _ _ (((h.take _).upd' _ _).upd' _ _) H.2⟩
   ·split
    ·exact hu _ _ _
    ·exact fun H=>⟨H.1,H.2.1,H.2.2.1,hk _ _ _ _ H.2.2.2⟩
  ·rw[e];intro H;simp[Qdu,Qaa,Qa0,PV.isData]at H
 | alloc d n ty z=>
  simp only[opV];unfold Qdu;split
  ·unfold Qp8;exact fun H=>⟨H.1,hK _ _ _ (((h.take _).upd' _ _).upd' _ _) H.2⟩
  ·split
   ·exact hu _ _ _
   ·exact fun H=>⟨H.1,H.2.1,H.2.2.1,hk _ _ _ _ H.2.2.2⟩
 | eqs d ng x y|sqs d ng x y|six d x y|mx d x y|mn d x y|idx d e x y|idxA d n e x y|ixv d n e ag x y|mk d e by_ ty z x y|cpy d e x y=>
  all_goals
   simp only[opV,Qm8,Qm9,Qp7,mxK,mnK,Qci,Qjt,Qwd,stK,mkK,Qgq,Qp9];rcases h.ev x with e|e<;>rcases h.ev y with e'|e'<;>rw[e,e']
  all_goals
   intro H;revert H
   repeat' split
   all_goals first|exact id|exact False.elim|exact hu _ _ _|grind [Qaa,Qa0,PV.isData,Qe6]
 |bad d=>exact id
end Go.FW
namespace Go.FW
open Go
variable {C : Ctx} {ρ : Nat -> Option Nat} {fr fr' : Fr} {hp : HP} {w : World} {K K' R R' : Qg}
def KM(K' K:Qg):Prop:=∀f f' hp,Fle f f'->K' f' hp->K f hp
inductive Qiy:List It->List It->Prop
 |nil:Qiy [] []
 |c (s:SC) {a b:List It}:Qiy a b->Qiy (.c s::a) (.c s::b)
 |o (r:RT) {a b:List It}:Qiy a b->Qiy (.o r::a) (.o r::b)
 |eb (i:Nat) {a b:List It}:Qiy a b->Qiy (.eb i::a) (.eb i::b)
 |el {J' J:Qg} {a b:List It}:KM J' J->Qiy a b->Qiy (.el J'::a) (.el J::b)
theorem Qiy.exit{id:Nat}:∀ {a b:List It},Qiy a b->(∃a' b',FW.Qap id a=some a'/\FW.Qap id b=some b'/\Qiy a' b'/\Qa4 a'<=Qa4 a)∨(FW.Qap id a=none/\FW.Qap id b=none):=by
 intro a b h;induction h with
 |nil=>exact .inr ⟨rfl,rfl⟩
 |c s h ih|o s h ih=>
  rcases ih with⟨a',b',h1,h2,h3,h4⟩|⟨h1,h2⟩
  ·exact .inl ⟨a',b',by simpa[FW.Qap]using h1,by simpa[FW.Qap]using h2,h3,by simp only[Qa4];omega⟩
  ·exact .inr ⟨by simpa[FW.Qap]using h1,by simpa[FW.Qap]using h2⟩
 |el _ h ih=>
  rcases ih with⟨a',b',h1,h2,h3,h4⟩|⟨h1,h2⟩
  ·exact .inl ⟨a',b',by simpa[FW.Qap]using h1,by simpa[FW.Qap]using h2,h3,by simp only[Qa4];omega⟩
  ·exact .inr ⟨by simpa[FW.Qap]using h1,by simpa[FW.Qap]using h2⟩
 | eb i h ih=>
  by_cases hi:i=id
  ·exact .inl ⟨_,_,by simp[FW.Qap,hi],by simp[FW.Qap,hi],h,by simp only[Qa4];omega⟩
  ·rcases ih with⟨a',b',h1,h2,h3,h4⟩|⟨h1,h2⟩
   ·exact .inl ⟨a',b',by simpa[FW.Qap,hi]using h1,by simpa[FW.Qap,hi]using h2,h3,by simp only[Qa4];omega⟩
   ·exact .inr ⟨by simpa[FW.Qap,hi]using h1,by simpa[FW.Qap,hi]using h2⟩
theorem Qmw(h:Fle fr fr')(hK:KM K' K)(o:SOp):Qej o fr' hp K'->Qej o fr hp K:=by
 unfold Qej;split
 ·exact hK _ _ _ (h.upd' _ _)
 ·exact hK _ _ _ h
theorem Qab4(h:Fle fr fr')(hK:KM K' K)(g:Option (Nat×Bool))(o:SOp):Qkt C g o fr' hp K'->Qkt C g o fr hp K:=by
 unfold Qkt;split
 ·exact Qwv h hK o
 ·rename_i s want;rcases h s with e|e
  ·rw[e];split
   ·exact fun H=>⟨fun t=>Qwv (h.upd' _ _) hK o (H.1 t),fun t=>Qmw (h.upd' _ _) hK o (H.2 t)⟩
   ·exact Qmw h hK o
   ·exact id
  ·rw[e];exact False.elim
theorem Qiz(hR:KM R' R):∀(n:Nat)(sk' sk:List It)(fr' fr:Fr)(hp:HP),Qa4 sk'<=n->Qiy sk' sk->Fle fr fr'->vc C R' sk' fr' hp->vc C R sk fr hp:=by
 intro n;induction n with
 |zero=>
  intro sk' sk fr' fr hp hn hs hf h;cases hs with
  |nil=>rw[Ql1]at h ⊢;exact hR _ _ _ hf h
  |el hJ _=>rw[Qok]at h ⊢;exact hJ _ _ _ hf h
  |c s _=>exfalso;have:=SC.sz_pos s;simp only[Qa4,It.sz]at hn;omega
  |o s _=>exfalso;have:=RT.sz_pos s;simp only[Qa4,It.sz]at hn;omega
  |eb _ _=>exfalso;simp only[Qa4,It.sz]at hn;omega
 | succ n ih=>
  intro sk' sk fr' fr hp hn hs hf h;cases hs with
  |nil=>rw[Ql1]at h ⊢;exact hR _ _ _ hf h
  |el hJ _=>rw[Qok]at h ⊢;exact hJ _ _ _ hf h
  |eb i hs=>rw[Qzi]at h⊢;exact ih _ _ _ _ _ (by simp only[Qa4,It.sz]at hn;omega) hs hf h
  | o r hs=>
   cases r with
   |nil=>rw[Qqd]at h ⊢;exact ih _ _ _ _ _ (by simp only[Qa4,It.sz,RT.sz]at hn;omega) hs hf h
   |o g o r=>rw[Q8d]at h⊢;exact Qab4 (K':=fun fr hp=>vc C R' (.o r::_) fr hp) (K:=fun fr hp=>vc C R (.o r::_) fr hp) hf (fun f f' hp hf' H=>ih (.o r::_) (.o r::_) _ _ hp (by simp only[Qa4,It.sz,RT.sz]at hn ⊢;omega) (.o r hs) hf' H) g o h
   |wk r=>rw[Que]at h⊢;obtain⟨fr0,hp0,hw,h⟩:=h;exact⟨fr0,hp0,hf.wk.trans hw,ih (.o r::_) (.o r::_) _ _ _ (by simp only[Qa4,It.sz,RT.sz]at hn ⊢;omega) (.o r hs) (Fle.refl _) h⟩
   |br x y=>rw[Q8e]at h⊢;exact⟨ih (.o x::_) (.o x::_) _ _ _ (by simp only[Qa4,It.sz,RT.sz]at hn ⊢;omega) (.o x hs) hf h.1,ih (.o y::_) (.o y::_) _ _ _ (by simp only[Qa4,It.sz,RT.sz]at hn ⊢;omega) (.o y hs) hf h.2⟩
  | @c s a b hs=>
   cases s with
   |skip=>rw[Qrr]at h ⊢;exact ih _ _ _ _ _ (by simp only[Qa4,It.sz,SC.sz]at hn;omega) hs hf h
   |rg r=>rw[Q49]at h ⊢;exact ih (.o r::_) (.o r::_) _ _ _ (by simp only[Qa4,It.sz,SC.sz]at hn ⊢;omega) (.o r hs) hf h
   | raw id ops=>
    rw[vc]at h⊢;intro tmps w Q hsim hQ;refine h tmps w Q ?_ fun fr2 hp2 tmps2 w2 hs2 hv=>hQ fr2 hp2 tmps2 w2 hs2 ?_
    ·obtain⟨ρ,hsim⟩:=hsim;exact⟨ρ,hf.sim hsim⟩
    ·exact ih _ _ _ _ _ (by simp only[Qa4,It.sz,SC.sz]at hn;omega) hs (Fle.refl _) hv
   |seq x y=>rw[Qug]at h ⊢;exact ih (.c x:: .c y::_) (.c x:: .c y::_) _ _ _ (by simp only[Qa4,It.sz,SC.sz]at hn ⊢;omega) (.c x (.c y hs)) hf h
   |block id x=>rw[Qoj]at h ⊢;exact ih (.c x:: .eb id::_) (.c x:: .eb id::_) _ _ _ (by simp only[Qa4,It.sz,SC.sz]at hn ⊢;omega) (.c x (.eb id hs)) hf h
   |ret=>rw[Quh]at h ⊢;exact hR _ _ _ hf h
   | cond c x y=>
    rw[Qrs]at h⊢;rcases hf.ev c with e|e
    ·rw[e]at h;unfold Qms at h⊢;split at h
     ·exact⟨fun e=>ih (.c x::_) (.c x::_) _ _ _ (by simp only[Qa4,It.sz,SC.sz]at hn ⊢;omega) (.c x hs) hf (h.1 e),fun e=>ih (.c y::_) (.c y::_) _ _ _ (by simp only[Qa4,It.sz,SC.sz]at hn ⊢;omega) (.c y hs) hf (h.2 e)⟩
     ·exact h
    ·rw[e]at h;exact h.elim
   | exit id=>
    rw[Qrt]at h⊢;rcases hs.exit (id:=id)with⟨a',b',h1,h2,h3,h4⟩|⟨h1,h2⟩
    ·rw[h1]at h;rw[h2];simp only[Qol]at h⊢;exact ih _ _ _ _ _ (by simp only[Qa4,It.sz,SC.sz]at hn;omega) h3 hf h
    ·rw[h1]at h;exact h.elim
   |loop x=>rw[Qf6]at h⊢;obtain⟨I,μ,⟨fr0,hp0,h1,h1'⟩,h2⟩:=h;refine⟨I,μ,⟨fr0,hp0,hf.wk.trans h1,h1'⟩,fun fr hp hI=>?_⟩;refine ih (.c x:: .el _::_) (.c x:: .el _::_) _ _ _ (by simp only[Qa4,It.sz,SC.sz]at hn ⊢;omega) (.c x (.el ?_ hs)) (Fle.refl _) (h2 fr hp hI);rintro f f' hp' hf ⟨fr0,hp0,g1,g2,g3⟩;exact⟨fr0,hp0,hf.wk.trans g1,g2,g3⟩
def inW:List (Nat×Nat)->Nat->Bool
 | [],_=>false
 |(a,b)::W,s=>(decide (a<=s)&&decide (s<=b))||inW W s
theorem Qahg(s:Nat):inW [] s=false:=rfl
theorem Qor(a b s:Nat)(W:List (Nat×Nat)):inW ((a,b)::W) s=((decide (a<=s)&&decide (s<=b))||inW W s):=rfl
def ovr(W:List (Nat×Nat))(J F:Fr):Fr:=fun s=>if inW W s then J s else F s
theorem Q8r(W:List (Nat×Nat))(J F:Fr)(s:Nat):ovr W J F s=if inW W s then J s else F s:=rfl
theorem Q3r{W:List (Nat×Nat)}{a:Nat}{v:PV}{J F:Fr}(h:inW W a=true):upd (ovr W J F) a v=ovr W (upd J a v) F:=by
 funext s;unfold upd ovr;by_cases hs:s=a
 ·subst hs;rw[if_pos rfl,if_pos h];simp
 ·rw[if_neg hs];split
  ·simp[hs]
  ·rfl
theorem Qab5{W:List (Nat×Nat)}{a:Nat}{v:PV}{J F:Fr}:upd (ovr W J F) a v=if inW W a=true then ovr W (upd J a v) F else ovr ((a,a)::W) (upd J a v) F:=by
 split
 ·exact Q3r ‹_›
 ·funext s;unfold upd ovr;by_cases hs:s=a
  ·subst hs;simp[inW]
  ·have:(decide (a<=s)&&decide (s<=a))=false:=by rw[Bool.and_eq_false_iff];simp only[decide_eq_false_iff_not];omega
   simp only[Qor,this,Bool.false_or,if_neg hs]
theorem Q8s{W:List (Nat×Nat)}{β:Nat}{J F:Fr}:Qa2 β (ovr W J F)=ovr W (Qa2 β J) (Qa2 β F):=by funext s;unfold Qa2 ovr;split<;>rfl
def Qah(B:List Nat)(F:Fr):Fr:=fun s=>if(F s).refs.any B.contains then .undef else F s
theorem Qb3(F:Fr):Qah [] F=F:=by funext s;simp[Qah]
theorem Qi0{β:Nat}{B:List Nat}{F:Fr}(h:B.contains β=true):Qa2 β (Qah B F)=Qah B F:=by
 funext s;show Qaq β (Qah B F s)=Qah B F s;by_cases h1:(F s).refs.any B.contains=true
 ·have:Qah B F s= .undef:=if_pos h1;rw[this];rfl
 ·have:Qah B F s=F s:=if_neg h1;rw[this,Qaq,if_neg];intro h2;exact h1 (List.any_eq_true.2 ⟨β,by simpa using h2,h⟩)
theorem Qy4{β:Nat}{B:List Nat}{F:Fr}:Qa2 β (Qah B F)=if B.contains β=true then Qah B F else Qah (β::B) F:=by
 split
 ·exact Qi0 ‹_›
 ·funext s;show Qaq β (Qah B F s)=Qah (β::B) F s;unfold Qah Qaq;by_cases h1:(F s).refs.any B.contains=true
  ·have h2:(F s).refs.any (β::B).contains=true:=by obtain⟨x,hx,hx2⟩:=List.any_eq_true.1 h1;exact List.any_eq_true.2 ⟨x,hx,by rw[List.contains_cons,hx2,Bool.or_true]⟩
   simp only[if_pos h1,if_pos h2];rfl
  ·simp only[if_neg h1];by_cases h2:(F s).refs.contains β=true
   ·have h3:(F s).refs.any (β::B).contains=true:=List.any_eq_true.2 ⟨β,by simpa using h2,by simp⟩;rw[if_pos h2,if_pos h3]
   ·rw[if_neg h2,if_neg];intro h3;obtain⟨x,hx,hx2⟩:=List.any_eq_true.1 h3;rw[List.contains_cons,Bool.or_eq_true]at hx2;rcases hx2 with e|e
    ·have:x=β:=by simpa using e
     subst this;exact h2 (by simpa using hx)
    ·exact h1 (List.any_eq_true.2 ⟨x,hx,e⟩)
theorem Qqo(B:List Nat)(F:Fr)(s:Nat):Qah B F s=if(F s).refs.any B.contains then .undef else F s:=rfl
theorem Qti(W:List (Nat×Nat))(B:List Nat):Fle fr (ovr W fr (Qah B fr)):=fun s=>by
 unfold ovr Qah;split
 ·exact .inl rfl
 ·split
  ·exact .inr rfl
  ·exact .inl rfl
def Qry(W:List (Nat×Nat))(F:Fr)(I:Nat->Fr->HP->Prop)(n:Nat):Qg:=fun fr' hp'=>∃J m,Fle fr' (ovr W J F)/\m<n/\I m J hp'
theorem Qh{W:List (Nat×Nat)}{F J:Fr}{I:Nat->Fr->HP->Prop}{n:Nat}(m:Nat)(hl:m<n)(h:I m J hp):Qry W F I n (ovr W J F) hp:=⟨J,m,Fle.refl _,hl,h⟩
theorem Qab6{W:List (Nat×Nat)}{F:Fr}{I:Nat->Fr->HP->Prop}{n:Nat}:KM (Qry W F I n) (Qry W F I n):=by rintro f f' hp hf ⟨J,m,h1,h2,h3⟩;exact⟨J,m,hf.trans h1,h2,h3⟩
def Qd6(R:Qg)(sk:List It):Prop:=KM R R/\Qiy sk sk
theorem Qy{sk:List It}{x:SC}(hok:Qd6 R sk)(W:List (Nat×Nat))(B:List Nat)(I:Nat->Fr->HP->Prop)(m0:Nat)(h0:I m0 fr hp)
  (h:∀m J hp,I m J hp->vc C R (.c x:: .el (Qry W (Qah B fr) I m)::sk) (ovr W J (Qah B fr)) hp):vc C R (.c (.loop x)::sk) fr hp:=by
 refine Qkc (fun m fr' hp'=>∃J,fr'=ovr W J (Qah B fr)/\I m J hp') m0 (Qti W B).wk ⟨fr,rfl,h0⟩ ?_;rintro m _ hp' ⟨J,rfl,hI⟩;refine Qiz hok.1 _ _ _ _ _ _ (Nat.le_refl _) (.c x (.el ?_ hok.2)) (Fle.refl _) (h m J hp' hI);rintro f f' hp2 hf ⟨J2,m2,e2,hl,h2⟩;exact Qtc hl (hf.trans e2).wk ⟨J2,rfl,h2⟩
def Qkw(W:List (Nat×Nat))(F:Fr)(M:Fr->HP->Prop):Qg:=fun fr' hp'=>∃J,Fle fr' (ovr W J F)/\M J hp'
theorem Qln{W:List (Nat×Nat)}{F J:Fr}{M:Fr->HP->Prop}(h:M J hp):Qkw W F M (ovr W J F) hp:=⟨J,Fle.refl _,h⟩
theorem Qrz{W:List (Nat×Nat)}{F:Fr}{M:Fr->HP->Prop}:KM (Qkw W F M) (Qkw W F M):=by rintro f f' hp hf ⟨J,h1,h3⟩;exact⟨J,hf.trans h1,h3⟩
theorem Qm{sk:List It}{W:List (Nat×Nat)}{F:Fr}{I:Nat->Fr->HP->Prop}{n:Nat}(h:Qd6 R sk):Qd6 R (.el (Qry W F I n)::sk):=⟨h.1,.el Qab6 h.2⟩
theorem Qt{sk:List It}{W:List (Nat×Nat)}{F:Fr}{M:Fr->HP->Prop}(h:Qd6 R sk):Qd6 R (.el (Qkw W F M)::sk):=⟨h.1,.el Qrz h.2⟩
theorem Qw{sk:List It}{i:Nat}(h:Qd6 R sk):Qd6 R (.eb i::sk):=⟨h.1,.eb i h.2⟩
theorem Q5{sk:List It}{s:SC}(h:Qd6 R sk):Qd6 R (.c s::sk):=⟨h.1,.c s h.2⟩
theorem Q6{sk:List It}{s:RT}(h:Qd6 R sk):Qd6 R (.o s::sk):=⟨h.1,.o s h.2⟩
theorem Qi{sk:List It}{I:Nat->Qg}{n:Nat}(h:Qd6 R sk):Qd6 R (.el (Qnu I n)::sk):=⟨h.1,.el (fun f f' hp hf ⟨a,b,h1,h2⟩=>⟨a,b,hf.wk.trans h1,h2⟩) h.2⟩
theorem Q3s{rs:List RV}{Rr:PV->Prop}:KM (Qdx rs Rr) (Qdx rs Rr):=by
 have one:∀(f f':Fr)(hp:HP)(r:RV),Fle f f'->okR f' hp r->okR f hp r/\rvP f' hp r=rvP f hp r:=by
  intro f f' hp r hf ho;cases r with
  |t s=>
   simp only[okR,rvP]at ho⊢;rcases hf s with e|e
   ·rw[e]at ho ⊢;exact⟨ho,rfl⟩
   ·rw[e]at ho;simp[Qaa,Qa0,PV.isData]at ho
  |cell s n ag=>
   simp only[okR,rvP]at ho⊢;rcases hf s with e|e
   ·rw[e]at ho ⊢;exact⟨ho,rfl⟩
   ·rw[e]at ho;exact ho.elim
 intro f f' hp hf h;unfold Qdx at h⊢;split at h
 ·rename_i r;obtain⟨h1,h2⟩:=h;obtain⟨g1,g2⟩:=one f f' hp r hf h1;rw[g2]at h2;exact⟨g1,h2⟩
 ·obtain⟨h1,h2⟩:=h;have e:rs.map (rvP f' hp)=rs.map (rvP f hp):=List.map_congr_left fun r hr=>(one f f' hp r hf (h1 r hr)).2;rw[e]at h2;exact⟨fun r hr=>(one f f' hp r hf (h1 r hr)).1,h2⟩
theorem Qab7{rs:List RV}{ty:TypeId}{len:Nat}{Post:PV->List PV->Prop}:KM (Qk9 rs ty len Post) (Qk9 rs ty len Post):=by
 rintro f f' hp hf ⟨xs',h1,h2,h3,h4⟩;refine⟨xs',h1,h2,h3,?_⟩;rcases h4 with h4|⟨s,o,n,h4,h5,h6⟩
 ·exact .inl (Q3s _ _ _ hf h4)
 ·refine .inr ⟨s,o,n,h4,?_,h6⟩;rcases hf s with e|e
  ·rw[<-e];exact h5
  ·rw[h5]at e;cases e
theorem Qab8{rs:List RV}{ty:TypeId}{Post:List PV->Prop}:KM (Qrx rs ty Post) (Qrx rs ty Post):=by
 rintro f f' hp hf ⟨s,β,n,xs,h1,h2,h3⟩;refine⟨s,β,n,xs,h1,?_,h3⟩;rcases hf s with e|e
 ·rw[<-e];exact h2
 ·rw[h2]at e;cases e
theorem Qu{rs:List RV}{Rr:PV->Prop}:Qd6 (Qdx rs Rr) []:=⟨Q3s,.nil⟩
theorem Qn{rs:List RV}{ty:TypeId}{len:Nat}{Post:PV->List PV->Prop}:Qd6 (Qk9 rs ty len Post) []:=⟨Qab7,.nil⟩
theorem Qo{rs:List RV}{ty:TypeId}{Post:List PV->Prop}:Qd6 (Qrx rs ty Post) []:=⟨Qab8,.nil⟩
theorem Qes{sk:List It}{x:SC}(i β e ty:Nat)(he:0<e)(hi:fr i= .nilS)(h:vc C R (.c (.loop x)::sk) (upd (Qa2 β fr) i (.ms β 0)) (Qv hp β ⟨e,ty,[],false⟩))(hB:isB β=false:=by decide):vc C R (.c (.loop x)::sk) fr hp:=by rw[Qf6]at h⊢;obtain⟨I,μ,⟨fr0,hp0,h1,h1'⟩,h2⟩:=h;exact⟨I,μ,⟨fr0,hp0,(Q7x i β e ty he hi hB).trans h1,h1'⟩,h2⟩
end Go.FW
namespace Go.FW
open Go
variable {C : Ctx} {fr : Fr} {hp : HP} {w : World} {K R : Qg}
theorem Q2h{P:Program}{f:FuncId}{k:IntKind}{x:Int}{r:PV}{v:Value}(hg:Ql3 P f)(h:∀w,Calls P f #[.int k x] w fun e w'=>e= .returned v/\w'=w)(hr:∀w X,Qco w X r v):Qd P f [.int k x] (· =r):=by
 refine⟨hg,fun w X vals hX hs hrep=>?_⟩;have h0:∀u,Qs w X (.int k x) u->u= .int k x:=fun u hu=>by cases hu;rfl
 have e:vals= #[.int k x]:=by
  have h1:vals.getD 0 undef= .int k x:=h0 _ (hrep 0 _ rfl);apply Array.ext
  ·simpa using hs
  ·intro i hi hi';have hi0:i=0:=by simp at hi';omega
   subst hi0;simpa[Array.getD,hi]using h1
 rw[e];refine(h w).mono ?_;rintro e w' ⟨rfl,rfl⟩;exact⟨v,r,rfl,Ext.refl _ _,hr _ _,rfl⟩
end Go.FW
namespace Go.FW
open Go
variable {C : Ctx} {fr : Fr} {hp : HP} {w : World} {K R : Qg}
theorem Q8t(a b:Nat)(hab:a≠b)(h:HP)(v w:HB):Qv (Qv h a v) b w=Qv (Qv h b w) a v:=by
 funext c;unfold Qv;by_cases h1:c=a
 ·subst h1;simp[hab]
 ·simp[h1]
theorem Q5m{V W P v1 v2 v0 hi u2 w0:Nat}(hV:V=(v1*65536+v2)*P+v0)(hW:W=(hi*65536+u2)*P+w0)(hw0:w0<P)(hu2:u2<65536)(h1:0<v1):W<(hi/v1+1)*V:=by
 have e1:hi+1<=(hi/v1+1)*v1:=by have:=Nat.div_add_mod hi v1;have:=Nat.mod_lt hi h1;rw[Nat.add_mul,Nat.mul_comm];omega
 have e2:W<(hi+1)*65536*P:=by have:(hi*65536+u2+1)*P<=(hi+1)*65536*P:=Nat.mul_le_mul_right _ (by omega);rw[Nat.add_mul _ 1]at this;omega
 refine Nat.lt_of_lt_of_le e2 ?_
 calc (hi+1)*65536*P<=((hi/v1+1)*v1)*65536*P:=Nat.mul_le_mul_right _ (Nat.mul_le_mul_right _ e1)
  _=(hi/v1+1)*(v1*65536*P):=by rw[Nat.mul_assoc,Nat.mul_assoc,Nat.mul_assoc]
  _<=(hi/v1+1)*V:=Nat.mul_le_mul_left _ (by rw[hV,Nat.add_mul];omega)
theorem Qab9{V W P v1 v2 v0 hi u2 w0 d r:Nat}(hV:V=(v1*65536+v2)*P+v0)(hW:W=(hi*65536+u2)*P+w0)(hw0:w0<P)(hd:d*v1+r=hi)(ht:r*65536+u2<d*v2):W<d*V:=by
 have h1:hi*65536+u2+1<=d*(v1*65536+v2):=by rw[Nat.mul_add,<-Nat.mul_assoc,<-hd,Nat.add_mul];omega
 have h2:W<(hi*65536+u2+1)*P:=by rw[hW,Nat.add_mul _ 1];omega
 refine Nat.lt_of_lt_of_le h2 (Nat.le_trans (Nat.mul_le_mul_right _ h1) ?_);rw[Nat.mul_assoc];exact Nat.mul_le_mul_left _ (by rw[hV];exact Nat.le_add_right _ _)
theorem Qaca{V W P v1 v2 v0 hi u2 w0 e r:Nat}(hV:V=(v1*65536+v2)*P+v0)(hW:W=(hi*65536+u2)*P+w0)(hv0:v0<P)(hv1:1<=v1)(he:e+1<65536)(hd:(e+1)*v1+r=hi)(ht:¬r*65536+u2<(e+1)*v2):e*V<=W:=by
 have h1:(e+1)*(v1*65536+v2)<=hi*65536+u2:=by rw[Nat.mul_add,<-Nat.mul_assoc,<-hd,Nat.add_mul ((e+1)*v1)];omega
 have h2:e*v0<=(v1*65536+v2)*P:=Nat.mul_le_mul (by omega) (by omega)
 calc e*V=e*(v1*65536+v2)*P+e*v0:=by rw[hV,Nat.mul_add,Nat.mul_assoc]
  _<=e*(v1*65536+v2)*P+(v1*65536+v2)*P:=Nat.add_le_add_left h2 _
  _=(e+1)*(v1*65536+v2)*P:=by rw[Nat.add_mul e,Nat.one_mul,Nat.add_mul (e*_)]
  _<=(hi*65536+u2)*P:=Nat.mul_le_mul_right _ h1
  _<=W:=by rw[hW];exact Nat.le_add_right _ _
theorem Qacb{V W P v1 v2 v0 hi u2 w0:Nat}(hV:V=(v1*65536+v2)*P+v0)(hW:W=(hi*65536+u2)*P+w0)(hv0:v0<P)(h:W<65536*V)(hP:0<P):hi<=v1*65536+v2:=by
 have h1:hi*(65536*P)<(v1*65536+v2+1)*(65536*P):=by
  have e1:hi*(65536*P)<=W:=by rw[hW,Nat.add_mul,Nat.mul_assoc];omega
  have e2:V<=(v1*65536+v2+1)*P:=by rw[hV,Nat.add_mul _ 1];omega
  have e3:65536*V<=65536*((v1*65536+v2+1)*P):=Nat.mul_le_mul_left _ e2;rw[Nat.mul_left_comm]at e3;omega
 have:=Nat.lt_of_mul_lt_mul_right h1;omega
theorem Qn3:∀(a:List Nat)(q b:Nat),(Qdn a [] q 0 b).2.1=0
 | [],_,_=>rfl
 |x::xs,q,b=>by simp only[Qdn,List.headD_nil,Nat.mul_zero,List.tail_nil];exact Qn3 xs q _
theorem Quw:∀(a v:List Nat)(q c b:Nat),v.length<a.length->c<65536->q<65536->Ql v->(Qdn a v q c b).2.1=0
 | [],_,_,_,_,h,_,_,_=>by simp at h
 |x::xs,[],q,c,b,h,hc,hq,hv=>by simp only[Qdn,List.headD_nil,Nat.mul_zero,List.tail_nil,Nat.add_zero];rw[Nat.div_eq_of_lt hc];exact Qn3 xs q _
 |x::xs,y::ys,q,c,b,h,hc,hq,hv=>by rw[Qa5]at hv;simp only[Qdn,List.headD_cons,List.tail_cons];refine Quw xs ys q _ _ (by simpa using h) ?_ hq hv.2;have:=Qf2 hq hv.1;omega
theorem Qj0{l:List Nat}{k:Nat}(h:val l<65536^k):val (l.drop k)=0:=by
 rcases Nat.lt_or_ge k l.length with hk|hk
 ·have:=Qd5 l k (by omega);have:65536^k*val (l.drop k)<65536^k*1:=by omega
  have:=Nat.lt_of_mul_lt_mul_left this;omega
 ·rw[List.drop_of_length_le hk];rfl
theorem Q3t{l:List Nat}{n:Nat}(h:l.length=n+2):val l=(l.getD (n+1) 0*65536+l.getD n 0)*65536^n+val (l.take n):=by have e:=Qd5 l n (by omega);rw[Qda (by omega),Qda (by omega),List.drop_of_length_le (by omega)]at e;rw[e,Qbu (by omega),Qbu (by omega),val,Nat.mul_zero,Nat.add_zero,Nat.mul_comm (65536^n)];rw[Nat.mul_comm 65536,Nat.add_comm (l[n]),Nat.add_comm]
theorem Qal9:
  (∀(β:Nat)(cs:List PV),Qaq β (.pt cs)= .pt cs)/\(∀(β:Nat),Qaq β .undef= .undef)/\(∀(β:Nat)(cs:List PV),Qaq β (.tup cs)= .tup cs)/\
  (∀(cs:List PV),(PV.pt cs).refs=[])/\(PV.undef.refs=[])/\(∀(cs:List PV),(PV.tup cs).refs=[])/\
  (∀(hp:HP)(cs:List PV),Qaa hp (.pt cs)= .pt cs)/\(∀(hp:HP)(cs:List PV),Qaa hp (.tup cs)= .tup cs)/\
  (∀(β f:Nat)(a b:List PV),Qaq β (.fn f a b)=if(a.flatMap PV.ref1++b.flatMap PV.ref1).contains β then .undef else .fn f a b)/\
  (∀(β o n:Nat),(PV.mso β o n).ref1=[β])/\(∀(β o n:Nat),(PV.rb β o n).ref1=[β])/\(∀(β o n:Nat),(PV.mp β o n).ref1=[β])/\
  (∀(k:IntKind)(n:Int),(PV.int k n).ref1=[])/\(∀(b:Bool),(PV.bool b).ref1=[])/\(∀(e:Nat)(xs:List PV),(PV.sl e xs).ref1=[])/\(PV.nilS.ref1=[])/\(∀(xs:List PV),(PV.pt xs).ref1=[]):=by
 refine⟨fun _ _=>rfl,fun _=>rfl,fun _ _=>rfl,fun _=>rfl,rfl,fun _=>rfl,fun _ _=>rfl,fun _ _=>rfl,fun _ _ _ _=>rfl,fun _ _ _=>rfl,fun _ _ _=>rfl,fun _ _ _=>rfl,fun _ _=>rfl,fun _=>rfl,fun _ _=>rfl,rfl,fun _=>rfl⟩
theorem ops3:
  (∀(ty d e:Nat)(xs:List PV)(fr:Fr)(hp:HP)(K:Qg),Qdu 1 ty (.sl e xs) d fr hp K=K (upd (Qa2 d fr) d (.mp d 0 0)) (Qv hp d ⟨1,ty,[.sl e xs],false⟩))/\
  (∀(ty d:Nat)(k:IntKind)(x:Int)(fr:Fr)(hp:HP)(K:Qg),Qdu 1 ty (.int k x) d fr hp K=K (upd (Qa2 d fr) d (.mp d 0 0)) (Qv hp d ⟨1,ty,[.int k x],false⟩))/\
  (∀(ty d:Nat)(x:Bool)(fr:Fr)(hp:HP)(K:Qg),Qdu 1 ty (.bool x) d fr hp K=K (upd (Qa2 d fr) d (.mp d 0 0)) (Qv hp d ⟨1,ty,[.bool x],false⟩))/\
  (∀(ty d:Nat)(fr:Fr)(hp:HP)(K:Qg),Qdu 1 ty .nilS d fr hp K=K (upd (Qa2 d fr) d (.mp d 0 0)) (Qv hp d ⟨1,ty,[.nilS],false⟩))/\
  (∀(n ty d o m:Nat)(fr:Fr)(hp:HP)(K:Qg),Qdu n ty (.mso 1000000 o m) d fr hp K=K (upd fr d (.rb 1000000 o m)) hp)/\
  (∀(n ty d:Nat)(x:PV)(cs:List PV)(fr:Fr)(hp:HP)(K:Qg),Qdu n ty (.agg (x::cs)) d fr hp K=(cs.length+1=n/\K (upd (Qa2 d fr) d (.mp d 0 0)) (Qv hp d ⟨n,ty,[.agg (x::cs)],false⟩)))/\
  (∀(ty d:Nat)(x:PV)(fz:Bool)(fr:Fr)(hp:HP)(K:Qg),ldM (some ⟨1,ty,[x],fz⟩) 1 false 0 0 d fr hp K=K (upd fr d (ldV false 1 0 x)) hp)/\
  (∀(ty β e:Nat)(x:PV)(xs:List PV)(fr:Fr)(hp:HP)(K:Qg),stM (some ⟨1,ty,[x],false⟩) β 1 0 0 (.sl e xs) fr hp K=K fr (Qv hp β ⟨1,ty,[.sl e xs],false⟩))/\
  (∀(ty β:Nat)(x:PV)(k:IntKind)(y:Int)(fr:Fr)(hp:HP)(K:Qg),stM (some ⟨1,ty,[x],false⟩) β 1 0 0 (.int k y) fr hp K=K fr (Qv hp β ⟨1,ty,[.int k y],false⟩))/\
  (∀(ty β:Nat)(x:PV)(y:Bool)(fr:Fr)(hp:HP)(K:Qg),stM (some ⟨1,ty,[x],false⟩) β 1 0 0 (.bool y) fr hp K=K fr (Qv hp β ⟨1,ty,[.bool y],false⟩))/\
  (∀(ty β:Nat)(x:PV)(fr:Fr)(hp:HP)(K:Qg),stM (some ⟨1,ty,[x],false⟩) β 1 0 0 .nilS fr hp K=K fr (Qv hp β ⟨1,ty,[.nilS],false⟩))/\
  (∀(e:Nat)(xs:List PV),ldV false 1 0 (.sl e xs)= .sl e xs)/\(∀(k:IntKind)(x:Int),ldV false 1 0 (.int k x)= .int k x)/\(∀(x:Bool),ldV false 1 0 (.bool x)= .bool x)/\(ldV false 1 0 .nilS= .nilS):=by
 have fz:∀hp:HP,Qaj hp []=hp:=fun _=>rfl;refine⟨fun _ _ _ _ _ _ _=>?_,fun _ _ _ _ _ _ _=>?_,fun _ _ _ _ _ _=>?_,fun _ _ _ _ _=>?_,fun _ _ _ _ _ _ _ _=>Qalq (by decide),fun n ty d x cs fr hp K=>?_,fun _ _ _ _ _ _ _=>?_,fun _ _ _ _ _ _ _ _=>?_,fun _ _ _ _ _ _ _ _=>?_,fun _ _ _ _ _ _ _=>?_,fun _ _ _ _ _ _=>?_,fun _ _=>rfl,fun _ _=>rfl,fun _=>rfl,rfl⟩
 ·simp[Qdu,Qaa,Qa0,PV.isData,PV.cells,PV.refs,fz]
 ·simp[Qdu,Qaa,Qa0,PV.isData,PV.cells,PV.refs,fz]
 ·simp[Qdu,Qaa,Qa0,PV.isData,PV.cells,PV.refs,fz]
 ·simp[Qdu,Qaa,Qa0,PV.isData,PV.cells,PV.refs,fz]
 ·apply propext;simp only[Qdu,Qaa,Qa0,PV.isData,PV.cells,PV.refs,List.length_cons,fz];exact⟨fun⟨_,h1,_,h2⟩=>⟨h1,h2⟩,fun⟨h1,h2⟩=>⟨trivial,h1,by omega,h2⟩⟩
 all_goals simp[ldM,stM,PV.isData,PV.cells]
end Go.FW
namespace Go.FW
theorem Qama{l:List Nat}{j n V:Nat}(hl:Ql l)(hlen:j+n+3<=l.length)(hV:V<=65536^(n+2))(hz:val (l.drop (j+1))<V):
  ∃pre w post,l=pre++(w++post)/\pre.length=j/\w.length=n+3/\Ql pre/\Ql w/\Ql post/\val post=0/\val (l.drop j)=val w/\val w<65536*V/\
   ∃w0,w0<65536^n/\val w=((l.getD (j+(n+2)) 0*65536+l.getD (j+(n+1)) 0)*65536+l.getD (j+n) 0)*65536^n+w0:=by
 have hpost:val (l.drop (j+n+3))=0:=by have:=Qj0 (l:=l.drop (j+1)) (k:=n+2) (by omega);rw[List.drop_drop]at this;rw[<-this];congr 2;omega
 have hw:Ql ((l.drop j).take (n+3)):=Qhh (Qit hl j) _;have hwl:((l.drop j).take (n+3)).length=n+3:=by simp;omega
 have hsp:l.drop j=(l.drop j).take (n+3)++l.drop (j+n+3):=by have:=(List.take_append_drop (n+3) (l.drop j)).symm;rw[List.drop_drop]at this;exact this
 have Qdy:val (l.drop j)=val ((l.drop j).take (n+3)):=by
  conv=>lhs;rw[hsp]
  rw[Qcm,hpost,Nat.mul_zero,Nat.add_zero]
 have hget:∀i,i<n+3->((l.drop j).take (n+3)).getD i 0=l.getD (j+i) 0:=by intro i hi;simp[List.getD_eq_getElem?_getD,List.getElem?_take,hi]
 refine⟨l.take j,(l.drop j).take (n+3),l.drop (j+n+3),?_,by simp;omega,hwl,Qhh hl j,hw,Qit hl _,hpost,Qdy,?_,?_⟩
 ·rw[<-hsp,List.take_append_drop]
 ·rw[<-Qdy,Qda (by omega)];have:=Qas hl (show j<l.length by omega);omega
 ·refine⟨val (((l.drop j).take (n+3)).take n),Qem hw n (by omega),?_⟩;rw[Q3t (n:=n+1) hwl,hget _ (by omega),hget _ (by omega),Qgk (by omega)];rw[<-Qbu,hget _ (by omega),Nat.pow_succ];generalize l.getD (j+(n+1)) 0=a;generalize l.getD (j+n) 0=b;generalize l.getD (j+(n+1+1)) 0=c;rw[Nat.add_mul _ b,Nat.mul_assoc _ 65536,Nat.mul_comm 65536 (65536^n),Nat.mul_comm (65536^n) b];omega
theorem Q8u{U V L qs W R q pre B:Nat}(hU:U=L+V*(65536*B*qs))(hL:L=pre+B*W)(hW:W=q*V+R):U=(pre+B*R)+V*(B*(q+65536*qs)):=by
 subst hW hL;rw[hU,Nat.mul_add B,Nat.mul_add B q,Nat.mul_add V];have e1:B*(q*V)=V*(B*q):=by rw[Nat.mul_comm q V,Nat.mul_left_comm]
 have e2:V*(65536*B*qs)=V*(B*(65536*qs)):=by rw[Nat.mul_comm 65536 B,Nat.mul_assoc]
 omega
open Go
variable {C : Ctx} {fr : Fr} {hp : HP} {w : World} {K R : Qg}
theorem Qfq{x y:RT}{sk:List It}(h1:vc C R (.o x::sk) fr hp)(h2:vc C R (.o y::sk) fr hp):brV C R x y sk fr hp:=⟨h1,h2⟩
theorem Qahh{x y:RT}{sk:List It}{W:List (Nat×Nat)}{J F:Fr}(P:Fr->Prop)(h0:P J)(h:∀J,P J->brV C R x y sk (ovr W J F) hp):brV C R x y sk (ovr W J F) hp:=h J h0
theorem Q0r{sk:List It}{x:SC}(hok:Qd6 R sk)(W:List (Nat×Nat))(B:List Nat)(I:Nat->Fr->HP->Prop)(m0:Nat)(h0:I m0 fr hp)
  (h:∀F,F=Qah B fr->∀m J hp,I m J hp->vc C R (.c x:: .el (Qry W F I m)::sk) (ovr W J F) hp):vc C R (.c (.loop x)::sk) fr hp:=
 Qy hok W B I m0 h0 (h _ rfl)
theorem Qacc{x y:RT}{sk:List It}{W0:List (Nat×Nat)}{J0 F0:Fr}(hok:Qd6 R sk)(B:List Nat)(M:Fr->HP->Prop)
  (h:∀F,F=Qah B F0->brV C R x y (.el (Qkw W0 F M)::sk) (ovr W0 J0 F) hp) (hM:∀J hp,M J hp->vc C R sk (ovr W0 J (Qah B F0)) hp):brV C R x y sk (ovr W0 J0 F0) hp:=by
 have hle:Fle (ovr W0 J0 F0) (ovr W0 J0 (Qah B F0)):=fun s=>by
  unfold ovr Qah;split
  ·exact .inl rfl
  ·split
   ·exact .inr rfl
   ·exact .inl rfl
 have key:∀(r:RT),vc C R (.o r:: .el (Qkw W0 (Qah B F0) M)::sk) (ovr W0 J0 (Qah B F0)) hp->vc C R (.o r::sk) (ovr W0 J0 F0) hp:=by
  intro r hr;refine Qnz (M:=Qkw W0 (Qah B F0) M) ?_ _ [.o r] _ _ (Nat.le_refl _) ?_
  ·rintro fr' hp' ⟨J,h1,h2⟩;exact Qiz hok.1 _ _ _ _ _ _ (Nat.le_refl _) hok.2 h1 (hM J hp' h2)
  ·exact Qiz hok.1 _ _ _ _ _ _ (Nat.le_refl _) (.o r (.el Qrz hok.2)) hle hr
 exact⟨key x (h _ rfl).1,key y (h _ rfl).2⟩
theorem Q5n{fr':Fr}{K':Qg}{p:PV}{s:Nat}{want:Bool}{o:SOp}(h:Fle fr fr')(hK:KM K' K):Qcx C p s want o fr' hp K'->Qcx C p s want o fr hp K:=by
 unfold Qcx;split
 ·exact fun H=>⟨fun t=>Qwv (h.upd' _ _) hK o (H.1 t),fun t=>Qmw (h.upd' _ _) hK o (H.2 t)⟩
 ·exact Qmw h hK o
 ·exact id
theorem Q2i{p:PV}{s:Nat}{want:Bool}{o:SOp}{r:RT}{sk:List It}(hok:Qd6 R sk)(W:List (Nat×Nat))(B:List Nat)(M:Fr->HP->Prop)
  (h:Qcx C p s want o (ovr W fr (Qah B fr)) hp (vc C R (.o r:: .el (Qkw W (Qah B fr) M)::sk))) (hM:∀J hp,M J hp->vc C R sk (ovr W J (Qah B fr)) hp):Qcx C p s want o fr hp (vc C R (.o r::sk)):=by
 refine Q5n (Qti W B) (fun f f' hp hf H=>?_) h;have H':=Qiz hok.1 _ _ _ _ _ _ (Nat.le_refl _) (.o r (.el Qrz hok.2)) hf H;refine Qnz (M:=Qkw W (Qah B fr) M) ?_ _ [.o r] _ _ (Nat.le_refl _) H';rintro fr' hp' ⟨J,h1,h2⟩;exact Qiz hok.1 _ _ _ _ _ _ (Nat.le_refl _) hok.2 h1 (hM J hp' h2)
theorem caps:(∀(a b c:Nat),(PV.mp a b c).isCap=true)/\(∀(a b c:Nat),(PV.mso a b c).isCap=true)/\(∀(a b c:Nat),(PV.rb a b c).isCap=true)/\(∀(k:IntKind)(n:Int),(PV.int k n).isCap=true)/\
  (∀b,(PV.bool b).isCap=true)/\(PV.nilS.isCap=true)/\(∀(e:Nat)(xs:List PV),(PV.sl e xs).isCap=true)/\(∀(xs:List PV),(PV.pt xs).isCap=true):=
 ⟨fun _ _ _=>rfl,fun _ _ _=>rfl,fun _ _ _=>rfl,fun _ _=>rfl,fun _=>rfl,rfl,fun _ _=>rfl,fun _=>rfl⟩
end Go.FW
namespace Go.FW
def Qtj(V W:List (Nat×Nat)):Bool:=V.all fun p=>W.any fun q=>decide (q.1<=p.1)&&decide (p.2<=q.2)
theorem Q8v{V W:List (Nat×Nat)}(h:Qtj V W=true){s:Nat}(hs:inW V s=true):inW W s=true:=by
 induction V with
 |nil=>cases hs
 | cons p V ih=>
  simp only[Qtj,List.all_cons,Bool.and_eq_true]at h;rw[Qor,Bool.or_eq_true]at hs;rcases hs with hs|hs
  ·obtain⟨q,hq,hq2⟩:=List.any_eq_true.1 h.1;simp only[Bool.and_eq_true,decide_eq_true_eq]at hq2 hs;clear h ih;induction W with
   |nil=>cases hq
   |cons r W ih=>
    rw[Qor,Bool.or_eq_true];rcases List.mem_cons.1 hq with rfl|hq
    ·left;simp only[Bool.and_eq_true,decide_eq_true_eq];omega
    ·right;exact ih hq
  ·exact ih h.2 hs
theorem Qy5{B B':List Nat}{F:Fr}(h:B.all B'.contains=true):Qah B (Qah B' F)=Qah B' F:=by
 funext s;by_cases h1:(F s).refs.any B'.contains=true
 ·have:Qah B' F s= .undef:=if_pos h1;show(if(Qah B' F s).refs.any B.contains=true then PV.undef else Qah B' F s)=_;rw[this];rfl
 ·have:Qah B' F s=F s:=if_neg h1;show(if(Qah B' F s).refs.any B.contains=true then PV.undef else Qah B' F s)=_;rw[this,if_neg];intro h2;obtain⟨x,hx,hx2⟩:=List.any_eq_true.1 h2;exact h1 (List.any_eq_true.2 ⟨x,hx,List.all_eq_true.1 h x (by simpa using hx2)⟩)
theorem Qfx{V W:List (Nat×Nat)}{X Z F:Fr}(h:Qtj V W=true):ovr V X (ovr W Z F)=ovr W (ovr V X Z) F:=by
 funext s;unfold ovr;by_cases h1:inW V s=true
 ·simp[h1,Q8v h h1]
 ·simp[h1]
theorem Qamc{W V S d:Nat}(hs:S+d*V=W)(hdW:W<(d+1)*V):S<V/\W=d*V+S:=by rw[Nat.add_mul]at hdW;omega
theorem Qahi{W V B S e k res:Nat}(hs:S+(e+1)*V=W+B)(hS:S<B)(heV:e*V<=W)(hr:res+B*k=S+V)(hres:res<B)(hWB:W<B):res<V/\W=e*V+res:=by
 rw[Nat.add_mul,Nat.one_mul]at hs;generalize e*V=x at *
 have hk:k=1:=by
  match k,hr with
  |0,hr=>omega
  |1,_=>rfl
  |k+2,hr=>
   have:B*(k+2)=B*k+B+B:=by rw[Nat.mul_add];omega
   omega
 subst hk;omega
theorem Qx2{pre R post qs:List Nat}{j q U V L W:Nat}(hp:pre.length=j)(hpost:val post=0)(hU:U=L+V*(65536^(j+1)*val qs))(hL:L=val pre+65536^j*W)(hW:W=q*V+val R):
  val ((pre++(R++post)).drop j)=val R/\U=val (pre++(R++post))+V*(65536^j*val (q::qs)):=by
 have e:(pre++(R++post)).drop j=R++post:=by rw[<-hp,List.drop_left]
 have e2:val (R++post)=val R:=by rw[Qcm,hpost,Nat.mul_zero,Nat.add_zero]
 refine⟨by rw[e,e2],?_⟩;rw[Qcm,e2,hp,val];exact Q8u (by rw[hU,Nat.pow_succ,Nat.mul_comm (65536^j)]) hL hW
theorem Qr0{j q:Nat}{qs:List Nat}:(List.replicate (j+1) 0++qs).set j q=List.replicate j 0++(q::qs):=by rw[List.replicate_succ',List.append_assoc,List.singleton_append,Qer (by simp)]
open Go
variable {C : Ctx} {fr : Fr} {hp : HP} {w : World} {K R : Qg}
theorem opsE:(∀(C:Ctx)(d:Nat)(ng:Bool)(x y:Opd)(fr:Fr)(hp:HP)(K:Qg),opV C (.eqs d ng x y) fr hp K=Qm8 ng (ev fr x) (ev fr y) d fr hp K)/\
  (∀(k l:IntKind)(x y x' y':Int)(d:Nat)(fr:Fr)(hp:HP)(K:Qg),Qm8 false (.agg [.int k x,.int l y]) (.agg [.int k x',.int l y']) d fr hp K=K (upd fr d (.bool (decide (x=x')&&decide (y=y')))) hp)/\
  (∀(k l:IntKind)(x y x' y':Int)(d:Nat)(fr:Fr)(hp:HP)(K:Qg),Qm8 true (.agg [.int k x,.int l y]) (.agg [.int k x',.int l y']) d fr hp K=K (upd fr d (.bool (!(decide (x=x')&&decide (y=y'))))) hp):=
 ⟨fun _ _ _ _ _ _ _ _=>rfl,fun _ _ _ _ _ _ _ _ _ _=>by simp[Qm8],fun _ _ _ _ _ _ _ _ _ _=>by simp[Qm8]⟩
theorem opsS:(∀(C:Ctx)(d:Nat)(ng:Bool)(x y:Opd)(fr:Fr)(hp:HP)(K:Qg),opV C (.sqs d ng x y) fr hp K=Qm9 ng (ev fr x) (ev fr y) d fr hp K)/\
  (∀(C:Ctx)(d:Nat)(x:Opd)(fr:Fr)(hp:HP)(K:Qg),opV C (.sln d x) fr hp K=Qs8 (ev fr x) d fr hp K)/\
  (∀(C:Ctx)(d:Nat)(x i:Opd)(fr:Fr)(hp:HP)(K:Qg),opV C (.six d x i) fr hp K=Qp7 (ev fr x) (ev fr i) d fr hp K)/\
  (∀(x y:ByteArray)(d:Nat)(fr:Fr)(hp:HP)(K:Qg),Qm9 false (.str x) (.str y) d fr hp K=K (upd fr d (.bool (decide (x=y)))) hp)/\
  (∀(x y:ByteArray)(d:Nat)(fr:Fr)(hp:HP)(K:Qg),Qm9 true (.str x) (.str y) d fr hp K=K (upd fr d (.bool (!decide (x=y)))) hp)/\
  (∀(x:ByteArray)(d:Nat)(fr:Fr)(hp:HP)(K:Qg),Qs8 (.str x) d fr hp K=K (upd fr d (.int .i64 x.size)) hp):=
 ⟨fun _ _ _ _ _ _ _ _=>rfl,fun _ _ _ _ _ _=>rfl,fun _ _ _ _ _ _ _=>rfl,fun _ _ _ _ _ _=>by simp[Qm9],fun _ _ _ _ _ _=>by simp[Qm9],fun _ _ _ _ _=>rfl⟩
theorem Qamd{s:ByteArray}{k:IntKind}{i:Nat}{d:Nat}(h:i<s.size):Qp7 (.str s) (.int k i) d fr hp K=K (upd fr d (.int .u8 (s.get! i).toNat)) hp:=by simp[Qp7,h]
theorem Qacd{α:Type}{f:α->PV}{e d:Nat}{k:IntKind}{xs:List α}(h:0<xs.length):Qci e (.sl e (xs.map f)) (.int k 0) d fr hp K=K (upd fr d (.pt (f (xs[0]'h)).cells)) hp:=by rw[Qll (by omega) (by omega)];rfl
theorem Qace{α:Type}{f:α->PV}{e d:Nat}{k:IntKind}{xs:List α}(h:1<xs.length):Qci e (.sl e (xs.map f)) (.int k 1) d fr hp K=K (upd fr d (.pt (f (xs[1]'h)).cells)) hp:=by rw[Qll (by omega) (by omega)];rfl
theorem Qacf{e d:Nat}{k:IntKind}{x:PV}{xs:List PV}:Qci e (.sl e (x::xs)) (.int k 0) d fr hp K=K (upd fr d (.pt x.cells)) hp:=by rw[Q0c (by omega) (by simp only[List.length_cons];omega)];rfl
theorem Qacg{e d:Nat}{k:IntKind}{x y:PV}{xs:List PV}:Qci e (.sl e (x::y::xs)) (.int k 1) d fr hp K=K (upd fr d (.pt y.cells)) hp:=by rw[Q0c (by omega) (by simp only[List.length_cons];omega)];rfl
def PV.flat:PV->Bool
 |.int .. | .bool _| .nilS| .sl .. | .agg _| .pt _| .str _=>true
 |_=>false
theorem Qach:∀s,(PV.str s).flat=true:=fun _=>rfl
theorem Qaci:∀s,(PV.str s).isData=true:=fun _=>rfl
theorem Qaqx:(∀(k:IntKind)(n:Int),(PV.int k n).flat=true)/\(∀b,(PV.bool b).flat=true)/\(PV.nilS.flat=true)/\(∀(e:Nat)(xs:List PV),(PV.sl e xs).flat=true)/\(∀xs,(PV.agg xs).flat=true)/\(∀xs,(PV.pt xs).flat=true):=
 ⟨fun _ _=>rfl,fun _=>rfl,rfl,fun _ _=>rfl,fun _=>rfl,fun _=>rfl⟩
theorem Qaqy:(∀(k:IntKind)(n:Int),(PV.int k n).isData=true)/\(∀b,(PV.bool b).isData=true)/\(PV.nilS.isData=true)/\(∀(e:Nat)(xs:List PV),(PV.sl e xs).isData=true)/\(∀xs,(PV.agg xs).isData=true)/\(∀xs,(PV.pt xs).isData=true):=
 ⟨fun _ _=>rfl,fun _=>rfl,rfl,fun _ _=>rfl,fun _=>rfl,fun _=>rfl⟩
theorem Qen{p:PV}(h:p.flat=true):Qaa hp p=p/\p.refs=[]/\p.isData=true:=by cases p<;>first|(cases h;done)|exact⟨rfl,rfl,rfl⟩
theorem Q3u{e ty d:Nat}{ps:List PV}(h:ps.all PV.flat=true)(hl:∀p∈ps,p.cells.length=e)(he:0<e):bsK e ty ps d fr hp K=K (upd (Qa2 d fr) d (.ms d ps.length)) (Qv hp d ⟨e,ty,ps,false⟩):=by
 have h':=List.all_eq_true.1 h;have e1:ps.map (Qaa hp)=ps:=by
  conv=>rhs;rw[<-List.map_id ps]
  exact List.map_congr_left fun p hp'=>(Qen (h' p hp')).1
 have e2:ps.flatMap PV.refs=[]:=by rw[List.flatMap_eq_nil_iff];exact fun p hp'=>(Qen (hp:=hp) (h' p hp')).2.1
 have e3:Qwe hp e ps:=fun p hp'=>by obtain⟨h1,_,h3⟩:=Qen (hp:=hp) (h' p hp');rw[h1];exact⟨h3,hl p hp'⟩
 have hbg:Qks ps=false:=by
  unfold Qks;split
  ·rename_i x;have:=List.all_eq_true.1 h x (by simp);unfold Qeu;split
   ·cases this
   ·rfl
  ·rfl
 simp only[bsK,hbg,Bool.false_eq_true,if_false,bsO,e1,e2,e3,he,true_and];rfl
theorem bs1{e ty d:Nat}{p:PV}(h:p.flat=true)(hl:p.cells.length=e)(he:0<e):bsK e ty [p] d fr hp K=K (upd (Qa2 d fr) d (.ms d 1)) (Qv hp d ⟨e,ty,[p],false⟩):=
 Q3u (by simp[h]) (by simpa using hl) he
theorem bs2{e ty d:Nat}{p q:PV}(h:p.flat=true)(h2:q.flat=true)(hl:p.cells.length=e)(hl2:q.cells.length=e)(he:0<e):bsK e ty [p,q] d fr hp K=K (upd (Qa2 d fr) d (.ms d 2)) (Qv hp d ⟨e,ty,[p,q],false⟩):=
 Q3u (by simp[h,h2]) (by simp[hl,hl2]) he
end Go.FW
namespace Go.FW
theorem Q2j{y n s yi:Nat}(hy:(dig y).length=n+2)(hyi:(dig y)[n+1]'(by omega)=yi)(h1:2^15<=yi*2^s)(h2:(yi+1)*2^s<=65536):
  (dig (y*2^s)).length=n+2/\32768<=(dig (y*2^s)).getD (n+1) 0/\32768*65536^(n+1)<=y*2^s:=by
 have hl:=Qq y;have e:=Qd5 (dig y) (n+1) (by omega);have ht:=Qem hl (n+1) (by omega);rw[Qda (by omega),List.drop_of_length_le (by omega),hyi,Q7]at e;simp only[val,Nat.mul_zero,Nat.add_zero]at e;have g1:32768*65536^(n+1)<=y*2^s:=by
  calc 32768*65536^(n+1)<=(yi*2^s)*65536^(n+1):=Nat.mul_le_mul_right _ h1
   _=(65536^(n+1)*yi)*2^s:=by rw[Nat.mul_comm (65536^(n+1)),Nat.mul_right_comm]
   _<=y*2^s:=Nat.mul_le_mul_right _ (by omega)
 have g2:y*2^s<65536^(n+2):=by
  have hp:0<2^s:=Nat.pow_pos (by omega)
  calc y*2^s<(65536^(n+1)*(yi+1))*2^s:=Nat.mul_lt_mul_of_pos_right (by rw[Nat.mul_add];omega) hp
   _=65536^(n+1)*((yi+1)*2^s):=Nat.mul_assoc _ _ _
   _<=65536^(n+1)*65536:=Nat.mul_le_mul_left _ h2
   _=65536^(n+2):=(Nat.pow_succ ..).symm
 have hle:nl (y*2^s)<=n+2:=Qgy.2 g2;have hge:¬nl (y*2^s)<=n+1:=fun h=>by have:=Qgy.1 h;omega
 have hlen:(dig (y*2^s)).length=n+2:=by unfold nl at hle hge;omega
 refine⟨hlen,?_,g1⟩;have e2:=Qd5 (dig (y*2^s)) (n+1) (by omega);have ht2:=Qem (Qq (y*2^s)) (n+1) (by omega);rw[Qda (by omega),List.drop_of_length_le (by omega),Q7]at e2;simp only[val,Nat.mul_zero,Nat.add_zero]at e2;have hg:(dig (y*2^s)).getD (n+1) 0=(dig (y*2^s))[n+1]'(by omega):=Qbu (by omega);rw[hg];apply Decidable.byContradiction;intro h;have:65536^(n+1)*(dig (y*2^s))[n+1]<=65536^(n+1)*32767:=Nat.mul_le_mul_left _ (by omega);omega
theorem Q8w{yi s:Nat}(hs:s<=15)(h1:2^(16-s)<=2*yi)(h2:yi<2^(16-s)):2^15<=yi*2^s/\(yi+1)*2^s<=65536:=by
 have e:2^(16-s)*2^s=65536:=by rw[<-Nat.pow_add,show 16-s+s=16 by omega]
 constructor
 ·have:=Nat.mul_le_mul_right (2^s) h1;rw[e,Nat.mul_assoc]at this;omega
 ·rw[<-e];exact Nat.mul_le_mul_right _ h2
theorem Q2k{x s m n Y:Nat}(hx:(dig x).length=m+2)(hs:s<=15)(hnm:n<=m)(hY:32768*65536^(n+1)<=Y):
  ∃u ex,dig (x*2^s)++[0,0]=u++ex/\u.length=m+3/\Ql u/\val u=x*2^s/\ex.length<=2/\val (u.drop (m+3-(n+2)))<Y:=by
 have hxlt:=Qgj (Qq x);rw[hx,Q7]at hxlt;have hp:0<2^s:=Nat.pow_pos (by omega);have hs15:2^s<=2^15:=Nat.pow_le_pow_right (by omega) hs;have hX:x*2^s<2^s*65536^(m+2):=by rw[Nat.mul_comm (2^s)];exact Nat.mul_lt_mul_of_pos_right hxlt hp
 have hX2:x*2^s<65536^(m+3):=by have:2^s*65536^(m+2)<=65536*65536^(m+2):=Nat.mul_le_mul_right _ (by omega);rw[Nat.pow_succ 65536 (m+2),Nat.mul_comm _ 65536];omega
 have hx1:¬nl (x*2^s)<=m+1:=fun h=>by
  have h2:¬nl x<=m+1:=by unfold nl;omega
  have h3:=Qbm (show x<=x*2^s from Nat.le_mul_of_pos_right _ hp);omega
 have hx2:nl (x*2^s)<=m+3:=Qgy.2 hX2;have hlim:Ql (dig (x*2^s)++[0,0]):=Qb5.2 ⟨Qq _,by intro z hz;simp at hz;omega⟩;have Qdy:val (dig (x*2^s)++[0,0])=x*2^s:=by rw[Qcm,Q7];simp[val]
 have hlen:(dig (x*2^s)++[0,0]).length=nl (x*2^s)+2:=by simp[nl]
 generalize dig (x*2^s)++[0,0]=D at *
 have hv:=Qd5 D (m+3) (by omega);have hz:val (D.drop (m+3))=0:=Qj0 (by omega);have hul:(D.take (m+3)).length=m+3:=by rw[List.length_take];omega
 refine⟨D.take (m+3),D.drop (m+3),(List.take_append_drop _ _).symm,hul,Qhh hlim _,by rw[hz]at hv;omega,by rw[List.length_drop];omega,?_⟩;have hu:val (D.take (m+3))=x*2^s:=by rw[hz]at hv;omega
 have hv2:=Qd5 (D.take (m+3)) (m+3-(n+2)) (by omega);generalize D.take (m+3)=u at *
 have e:65536^(m+2)=65536^(m+3-(n+2))*65536^(n+1):=by rw[<-Nat.pow_add];congr 1;omega
 have:65536^(m+3-(n+2))*val (u.drop (m+3-(n+2)))<65536^(m+3-(n+2))*(2^s*65536^(n+1)):=by rw[Nat.mul_left_comm,<-e];omega
 have h4:=Nat.lt_of_mul_lt_mul_left this;have:2^s*65536^(n+1)<=32768*65536^(n+1):=Nat.mul_le_mul_right _ hs15;omega
open Go
variable {C : Ctx} {fr : Fr} {hp : HP} {w : World} {K R : Qg}
theorem Qacj{e ty n:Nat}{fz:Bool}{o d:Nat}{x:PV}(h:o+n<=e):ldM (some ⟨e,ty,[x],fz⟩) n true 0 o d fr hp K=K (upd fr d (ldV true n o x)) hp:=Q3l h (by simp)
theorem Qack{e ty:Nat}{fz:Bool}{o d:Nat}{x:PV}(h:o+1<=e):ldM (some ⟨e,ty,[x],fz⟩) 1 false 0 o d fr hp K=K (upd fr d (ldV false 1 o x)) hp:=Q3l h (by simp)
theorem Qaqz(n o:Nat)(cs:List PV):ldV true n o (.agg cs)= .agg ((cs.drop o).take n):=rfl
theorem Qaq0(n o:Nat)(cs:List PV):ldV false n o (.agg cs)=(cs.drop o).headD .undef:=rfl
theorem Q5o(n ty β:Nat)(x:PV)(cs:List PV):stM (some ⟨n,ty,[x],false⟩) β n 0 0 (.agg cs) fr hp K=(cs.length=n/\K fr (Qv hp β ⟨n,ty,[.agg cs],false⟩)):=by simp[stM,PV.isData,PV.cells]
theorem Qacl{e n ty β o:Nat}{x v:PV}(h:v.flat=true)(hn:¬n=e)(hl:v.cells.length=n)(ho:o+n<=e):stM (some ⟨e,ty,[x],false⟩) β n 0 o v fr hp K=K fr (Qv hp β ⟨e,ty,[stV x o v],false⟩):=by have:=(Qen (hp:=hp) h).2.2;simp[stM,this,hl,ho,hn]
theorem Qahj(cs:List PV)(o:Nat)(v:PV):stV (.agg cs) o v= .agg (cs.take o++v.cells++cs.drop (o+v.cells.length)):=rfl
theorem Qqp(k:IntKind)(n:Int):(PV.int k n).cells=[.int k n]:=rfl
theorem Q8x:(PV.nilS).cells=[.nilS]:=rfl
theorem Qos{p:PV}(h:p.flat=true):p.isNst=false:=by cases p<;>simp_all[PV.flat,PV.isNst]
theorem Qot{z:List PV}{ps:List (Nat×Nat×PV)}{d:Nat}(h:ps.all (fun p=>p.2.2.flat)=true):
  Qg2 z ps d fr hp K=((∀p∈ps,p.2.2.cells.length=p.2.1/\p.1+p.2.1<=z.length)/\K (upd fr d (.agg (Qdi z (ps.map fun p=>(p.1,p.2.2.cells))))) hp):=by
 have h':=List.all_eq_true.1 h;have e1:(ps.map fun p=>(p.1,(Qaa hp p.2.2).cells))=ps.map fun p=>(p.1,p.2.2.cells):=List.map_congr_left fun p hp'=>by rw[(Qen (h' p hp')).1]
 have e2:(ps.flatMap fun p=>p.2.2.refs)=[]:=by rw[List.flatMap_eq_nil_iff];exact fun p hp'=>(Qen (hp:=hp) (h' p hp')).2.1
 have e3:Qzs hp z.length ps=(∀p∈ps,p.2.2.cells.length=p.2.1/\p.1+p.2.1<=z.length):=by
  apply propext;constructor
  ·intro H p hp';obtain⟨_,h2,h3⟩:=H p hp';rw[(Qen (h' p hp')).1]at h2;exact⟨h2,h3⟩
  ·intro H p hp';obtain⟨h2,h3⟩:=H p hp';obtain⟨g1,_,g3⟩:=Qen (hp:=hp) (h' p hp');rw[g1];exact⟨g3,h2,h3⟩
 have e4:ps.any (fun p=>p.2.2.isNst)=false:=by rw[List.any_eq_false];exact fun p hp'=>by simp[Qos (h' p hp')]
 simp only[Qg2,e4,Qt2,e1,e2,e3,Bool.false_eq_true,if_false];rfl
theorem bld0(z:List PV)(d:Nat):Qg2 z [] d fr hp K=K (upd fr d (.agg z)) hp:=by rw[Qot rfl];simp[Qdi]
theorem bld1{z:List PV}{o n d:Nat}{p:PV}(h:p.flat=true):Qg2 z [(o,n,p)] d fr hp K=((p.cells.length=n/\o+n<=z.length)/\K (upd fr d (.agg (z.take o++p.cells++z.drop (o+p.cells.length)))) hp):=by rw[Qot (by simp[h])];simp[Qdi]
theorem bld2{z:List PV}{o n o2 n2 d:Nat}{p q:PV}(h:p.flat=true)(h2:q.flat=true):Qg2 z [(o,n,p),(o2,n2,q)] d fr hp K=
  ((p.cells.length=n/\o+n<=z.length)/\(q.cells.length=n2/\o2+n2<=z.length)/\K (upd fr d (.agg (Qdi z [(o,p.cells),(o2,q.cells)]))) hp):=by
 rw[Qot (by simp[h,h2])];simp[and_assoc]
theorem bld3{z:List PV}{o n o2 n2 o3 n3 d:Nat}{p q r:PV}(h:p.flat=true)(h2:q.flat=true)(h3:r.flat=true):Qg2 z [(o,n,p),(o2,n2,q),(o3,n3,r)] d fr hp K=
  ((p.cells.length=n/\o+n<=z.length)/\(q.cells.length=n2/\o2+n2<=z.length)/\(r.cells.length=n3/\o3+n3<=z.length)/\K (upd fr d (.agg (Qdi z [(o,p.cells),(o2,q.cells),(o3,r.cells)]))) hp):=by
 rw[Qot (by simp[h,h2,h3])];simp[and_assoc]
theorem Q8y(c:List PV):Qdi c []=c:=rfl
theorem Q5p(c xs:List PV)(o:Nat)(r:List (Nat×List PV)):Qdi c ((o,xs)::r)=Qdi (c.take o++xs++c.drop (o+xs.length)) r:=rfl
def Qzl(p:PV)(hp:HP)(n:Nat)(ag:Bool):PV:=match p with
 |.mp β i o=>match hp β with
  |some hb=>if i<hb.xs.length/\o+n<=hb.e/\(ag=false->n=1)then ldV ag n o ((hb.xs[i]?).getD .undef)else .undef
  |none=>.undef
 |_=>.undef
def gv(fr:Fr)(hp:HP):RV->PV
 |.t s=>Qaa hp (fr s)
 |.cell s n ag=>Qzl (fr s) hp n ag
def Qux(hb:Option HB)(n:Nat)(ag:Bool)(i o:Nat):PV:=match hb with
  |some hb=>if i<hb.xs.length/\o+n<=hb.e/\(ag=false->n=1)then ldV ag n o ((hb.xs[i]?).getD .undef)else .undef
  |none=>.undef
theorem gv_t(fr:Fr)(hp:HP)(s:Nat):gv fr hp (.t s)=Qaa hp (fr s):=rfl
theorem gv_c(fr:Fr)(hp:HP)(s n:Nat)(ag:Bool):gv fr hp (.cell s n ag)=Qzl (fr s) hp n ag:=rfl
theorem Qacm(hp:HP)(n:Nat)(ag:Bool)(β i o:Nat):Qzl (.mp β i o) hp n ag=Qux (hp β) n ag i o:=rfl
theorem Qahk{e ty n o:Nat}{fz:Bool}{x:PV}(h:o+n<=e):Qux (some ⟨e,ty,[x],fz⟩) n true 0 o=ldV true n o x:=by simp[Qux,h]
theorem Qahl{e ty o:Nat}{fz:Bool}{x:PV}(h:o+1<=e):Qux (some ⟨e,ty,[x],fz⟩) 1 false 0 o=ldV false 1 o x:=by simp[Qux,h]
theorem Q5q{r:RV}(h:(gv fr hp r).isData=true):okR fr hp r/\rvP fr hp r=gv fr hp r:=by
 cases r with
 |t s=>exact⟨h,rfl⟩
 | cell s n ag=>
  simp only[gv,okR,rvP]at h⊢;cases hfs:fr s with
  | mp β i o=>
   rw[hfs]at h;simp only[Qzl]at h⊢;cases hβ:hp β with
   |none=>rw[hβ]at h;cases h
   | some hb=>
    rw[hβ]at h;simp only at h⊢;split at h
    ·rename_i hc;rw[if_pos hc];exact⟨hc,rfl⟩
    ·cases h
  |_=>rw[hfs]at h;cases h
theorem Qbs{r:RV}{Rr:PV->Prop}(h:Qwp Rr (gv fr hp r)):Qdx [r] Rr fr hp:=by obtain⟨h1,h2⟩:=Q5q h.1;exact⟨h1,by rw[h2];exact h.2⟩
theorem Qhk{r s:RV}{Rr:PV->Prop}(h:Qzk Rr (gv fr hp r) (gv fr hp s)):Qdx [r,s] Rr fr hp:=by obtain⟨⟨a,b⟩,c⟩:=h;obtain⟨h1,h2⟩:=Q5q a;obtain⟨h3,h4⟩:=Q5q b;refine⟨by simp[h1,h3],?_⟩;simp only[List.map_cons,List.map_nil,h2,h4];exact c
end Go.FW
namespace Go.FW
open Go
def zv(n:Bool)(a:List Nat):Int:=if n then -(val a:Int)else val a
abbrev PV.zi(n:Bool)(a:List Nat):PV:=.agg [.bool n,PV.nat a]
abbrev PV.zz(z:Int):PV:=.agg [.bool (decide (z<0)),PV.num z.natAbs]
theorem Qww(n:Bool)(x:Nat):PV.agg [.bool (n&&decide (0<(dig x).length)),PV.num x]=PV.zz (if n then -(x:Int)else x):=by
 have h:0<(dig x).length↔x≠0:=by
  constructor
  ·intro h h0;rw[h0,Qa7]at h;simp at h
  ·intro h;apply Nat.pos_of_ne_zero;intro h0;exact h (Qbw.1 (Qdm h0))
 cases n
 ·simp
 ·simp only[Bool.true_and,if_true,PV.zz,Int.natAbs_neg,Int.natAbs_natCast];congr 3;exact decide_eq_decide.2 (by rw[h];omega)
theorem Qga(z:Int):zv (decide (z<0)) (dig z.natAbs)=z:=by unfold zv;rw[Q7];by_cases h:z<0<;>simp[h]<;>omega
theorem Qb1(n:Bool)(a:List Nat):(zv n a).natAbs=val a:=by unfold zv;split<;>simp
theorem Qh9(a:List Nat):zv false a=val a:=rfl
theorem Qkf(n:Bool)(x:Nat):zv n (dig x)=if n then -(x:Int)else x:=by unfold zv;rw[Q7]
def sgn(z:Int):Int:=if z<0 then -1 else if 0<z then 1 else 0
def Qbx(x y:Int):Int:=if x<y then -1 else if y<x then 1 else 0
theorem Q0s(n:Bool)(a:List Nat):sgn (zv n a)=if val a=0 then 0 else if n then -1 else 1:=by unfold sgn zv;cases n<;>simp<;>split<;>(try split)<;>omega
theorem Qn4{x:Int}:sgn x<0↔x<0:=by unfold sgn;split<;>(try split)<;>omega
theorem Qahm{x y:Int}(h:sgn x<sgn y):Qbx x y= -1:=by unfold sgn at h;unfold Qbx;rw[if_pos];split at h<;>split at h<;>(try split at h)<;>(try split at h)<;>omega
theorem Qahn{x y:Int}(h:sgn y<sgn x):Qbx x y=1:=by
 have:y<x:=by unfold sgn at h;split at h<;>split at h<;>(try split at h)<;>(try split at h)<;>omega
 unfold Qbx;rw[if_neg (by omega),if_pos this]
theorem Qou(n:Bool)(a:List Nat):zv n a=val a∨zv n a= -(val a:Int):=by unfold zv;split<;>simp
theorem Qaho{n m:Bool}{a b:List Nat}(h:zv n a<0)(h2:zv m b<0):Qel (val b) (val a)=Qbx (zv n a) (zv m b):=by
 unfold Qel Qbx;have e:=Qou n a;have f:=Qou m b;generalize zv n a=p at *
 generalize zv m b=q at *
 repeat' split
 all_goals omega
theorem Qahp{n m:Bool}{a b:List Nat}(h:¬zv n a<0)(h2:¬zv m b<0):Qel (val a) (val b)=Qbx (zv n a) (zv m b):=by
 unfold Qel Qbx;have e:=Qou n a;have f:=Qou m b;generalize zv n a=p at *
 generalize zv m b=q at *
 repeat' split
 all_goals omega
theorem Qov{x y:Nat}:Qel x y<0↔x<y:=by unfold Qel;split<;>(try split)<;>omega
variable {C : Ctx} {fr : Fr} {hp : HP} {w : World} {K R : Qg}
def Q5r(hb:Option HB)(o n:Nat):PV:=match hb with
 |some hb=>.sl hb.e ((hb.xs.drop o).take n)
 |none=>.undef
theorem Qa6:(∀(hp:HP)(β o n:Nat),Qaa hp (.mso β o n)=if isY β=true then .undef else Q5r (hp β) o n)/\
  (∀(e ty o n:Nat)(xs:List PV)(fz:Bool),Q5r (some ⟨e,ty,xs,fz⟩) o n= .sl e ((xs.drop o).take n))/\
  (∀(β:Nat),isY β=(decide (1000000<=β)&&decide (β<2000000)))/\
  (∀(hp:HP)(l:List Nat)(β:Nat),FW.Qaj hp l β=if l.contains β=true then(hp β).map (fun hb=>{ hb with fz:=true })else hp β):=by
 refine⟨fun hp β o n=>?_,fun _ _ _ _ _ _=>rfl,fun _=>rfl,fun _ _ _=>rfl⟩;simp only[Qaa,Qa0,Q5r];cases isY β<;>cases hp β<;>rfl
theorem Qame{n d:Nat}{cs:List PV}(h:n<=cs.length):ldK n true (.pt cs) d fr hp K=K (upd fr d (.agg (cs.take n))) hp:=by simp[ldK,h,ldV,PV.cells]
theorem Qamf{off d:Nat}{cs:List PV}(h:off<=cs.length):Qna off (.pt cs) d fr hp K=K (upd fr d (.pt (cs.drop off))) hp:=by simp[Qna,h]
theorem Qamg{off n d:Nat}{cs:List PV}(h:off+n<=cs.length):Qju off n true (.agg cs) d fr hp K=K (upd fr d (.agg ((cs.drop off).take n))) hp:=by simp[Qju,h,ldV,PV.cells]
theorem Qamh{off d:Nat}{cs:List PV}(h:off+1<=cs.length):Qju off 1 false (.agg cs) d fr hp K=K (upd fr d ((cs.drop off).headD .undef)) hp:=by simp[Qju,h,ldV,PV.cells]
def rv(n:Bool)(a d:List Nat):Rat:=mkRat (zv n a) (val d)
abbrev PV.rr(n:Bool)(a d:List Nat):PV:=.agg [.bool n,PV.nat a,PV.nat d]
abbrev PV.rat(q:Rat):PV:=.agg [.bool (decide (q.num<0)),PV.num q.num.natAbs,PV.num q.den]
theorem Qdo(q:Rat):rv (decide (q.num<0)) (dig q.num.natAbs) (dig q.den)=q:=by unfold rv;rw[Qga,Q7,Rat.mkRat_self]
theorem Qkg{z:Int}{D:Nat}(hD:D≠0):(mkRat z D).num=z/(Nat.gcd z.natAbs D:Int)/\(mkRat z D).den=D/Nat.gcd z.natAbs D:=by rw[Rat.mkRat_def,dif_neg hD,Rat.normalize_eq];exact⟨rfl,rfl⟩
theorem Q8z{z:Int}{D:Nat}(hD:D≠0):PV.agg [.bool (decide (z<0)),PV.num (z.natAbs/Nat.gcd z.natAbs D),PV.num (D/Nat.gcd z.natAbs D)]=PV.rat (mkRat z D):=by
 obtain⟨h1,h2⟩:=Qkg (z:=z) hD;have hg:0<Nat.gcd z.natAbs D:=Nat.gcd_pos_of_pos_right _ (Nat.pos_of_ne_zero hD);have hdvd:(Nat.gcd z.natAbs D:Int)∣z:=Int.ofNat_dvd_left.2 (Nat.gcd_dvd_left _ _);obtain⟨k,hk⟩:=hdvd;rw[PV.rat,h1,h2];generalize hgg:Nat.gcd z.natAbs D=g at *
 have e1:z/(g:Int)=k:=by rw[hk,Int.mul_ediv_cancel_left _ (by omega)]
 have e2:z.natAbs/g=k.natAbs:=by rw[hk,Int.natAbs_mul,Int.natAbs_natCast,Nat.mul_div_cancel_left _ hg]
 have e3:z<0↔k<0:=by
  rw[hk];constructor
  ·intro h;apply Decidable.byContradiction;intro h';have:=Int.mul_nonneg (show(0:Int)<=g by omega) (show 0<=k by omega);omega
  ·intro h;exact Int.mul_neg_of_pos_of_neg (by omega) h
 rw[e1,e2,decide_eq_decide.2 e3]
theorem Qaq1(z:Int):PV.agg [.bool (decide (z<0)),PV.num z.natAbs,PV.nat [1]]=PV.rat (mkRat z 1):=by rw[<-Q8z (by omega),Nat.gcd_one_right,Nat.div_one,Nat.div_one,PV.num,PV.num,Qhi]
theorem Q3v:PV.le (.agg [.bool false,.nilS,PV.nat [1]]) (PV.rat 0):=by
 show PV.leL _ _;refine⟨rfl,?_,?_,trivial⟩
 ·show PV.le1 .nilS (PV.nat (dig 0));rw[Qa7];trivial
 ·show PV.le1 (PV.nat [1]) (PV.nat (dig 1));rw[Qhi];exact Ql2 _
theorem Qsk{z:Int}{D:Nat}(h:D=0∨z=0):mkRat z D=0:=by
 rcases h with h|h
 ·rw[h,Rat.mkRat_zero]
 ·rw[h,Rat.zero_mkRat]
def rs(q:Rat):Nat:=max (nl q.num.natAbs) (nl q.den)
theorem Quy(x y:Nat):nl (x/y)<=nl x:=Qbm (Nat.div_le_self _ _)
theorem Qex:nl 1=1:=by unfold nl;rw[Qhi];rfl
theorem Qow(z:Int)(D:Nat):rs (mkRat z D)<=max (nl z.natAbs) (max (nl D) 1):=by
 by_cases hD:D=0
 ·rw[hD,Rat.mkRat_zero];show max (nl 0) (nl 1)<=_;rw[Qnv,Qex];omega
 ·obtain⟨h1,h2⟩:=Qkg (z:=z) hD;unfold rs;rw[h1,h2];have e:(z/(Nat.gcd z.natAbs D:Int)).natAbs<=z.natAbs:=by have hdvd:(Nat.gcd z.natAbs D:Int)∣z:=Int.ofNat_dvd_left.2 (Nat.gcd_dvd_left _ _);rw[Int.natAbs_ediv_of_dvd hdvd];exact Nat.div_le_self _ _
  have:=Qbm e;have:=Quy D (Nat.gcd z.natAbs D);omega
theorem Qgl(x y:Int):nl (x+y).natAbs<=max (nl x.natAbs) (nl y.natAbs)+1:=
 Nat.le_trans (Qbm (Int.natAbs_add_le x y)) (Qny _ _)
theorem Qbh(x y:Int):nl (x*y).natAbs<=nl x.natAbs+nl y.natAbs:=by rw[Int.natAbs_mul];exact Qdl _ _
theorem Q80(q:Rat):1<=rs q:=by have:nl q.den≠0:=fun h=>q.den_nz (Qiu.1 h);unfold rs;omega
theorem Quz(a b:Rat):rs (a+b)<=rs a+rs b+1:=by
 have e:a+b=mkRat (a.num*b.den+b.num*a.den) (a.den*b.den):=by
  conv=>lhs;rw[<-Rat.mkRat_self a,<-Rat.mkRat_self b]
  exact Rat.mkRat_add_mkRat _ _ a.den_nz b.den_nz
 rw[e];have h1:=Qow (a.num*b.den+b.num*a.den) (a.den*b.den);have h2:=Qgl (a.num*b.den) (b.num*a.den);have h3:=Qbh a.num b.den;have h4:=Qbh b.num a.den;have h5:=Qdl a.den b.den;rw[Int.natAbs_natCast]at h3 h4;unfold rs at *
 omega
theorem Q81(a b:Rat):rs (a*b)<=rs a+rs b:=by
 have e:a*b=mkRat (a.num*b.num) (a.den*b.den):=by
  conv=>lhs;rw[<-Rat.mkRat_self a,<-Rat.mkRat_self b]
  exact Rat.mkRat_mul_mkRat _ _ _ _
 rw[e];have h1:=Qow (a.num*b.num) (a.den*b.den);have h3:=Qbh a.num b.num;have h5:=Qdl a.den b.den;have:=Q80 a;unfold rs at *
 omega
theorem Qami{n k:Nat}{a d:List Nat}{b:Bool}(ha:Ql a)(hd:Ql d)(h1:a.length<=k)(h2:d.length<=k)(hk:1<=k):rs (rv b a d)<=k:=by unfold rv;have h:=Qow (zv b a) (val d);rw[Qb1]at h;have:=Qau ha;have:=Qau hd;omega
end Go.FW
namespace Go.FW
open Go
def Qef(q:Rat):Int:=sgn q.num
def Qjl(p q:Rat):Int:=if p<q then -1 else if q<p then 1 else 0
theorem Qkx{z:Int}{D:Nat}(hD:D≠0):∃g:Nat,0<g/\z=(mkRat z D).num*g/\D=(mkRat z D).den*g:=by
 obtain⟨h1,h2⟩:=Qkg (z:=z) hD;have hg:0<Nat.gcd z.natAbs D:=Nat.gcd_pos_of_pos_right _ (Nat.pos_of_ne_zero hD);refine⟨_,hg,?_,?_⟩
 ·rw[h1,Int.ediv_mul_cancel (Int.ofNat_dvd_left.2 (Nat.gcd_dvd_left _ _))]
 ·rw[h2,Nat.div_mul_cancel (Nat.gcd_dvd_right _ _)]
theorem Q5s{a:Int}{g:Nat}(hg:0<g):a*g<0↔a<0:=by
 constructor
 ·intro h;apply Decidable.byContradiction;intro h';have:=Int.mul_nonneg (show 0<=a by omega) (show(0:Int)<=g by omega);omega
 ·intro h;exact Int.mul_neg_of_neg_of_pos h (by omega)
theorem Q5t{a:Int}{g:Nat}(hg:0<g):0<a*g↔0<a:=by
 constructor
 ·intro h;apply Decidable.byContradiction;intro h';have:=Int.mul_nonneg (show 0<= -a by omega) (show(0:Int)<=g by omega);rw[Int.neg_mul]at this;omega
 ·intro h;exact Int.mul_pos h (by omega)
theorem Q82{z:Int}{D:Nat}(hD:D≠0):Qef (mkRat z D)=sgn z:=by
 obtain⟨g,hg,h1,_⟩:=Qkx (z:=z) hD;unfold Qef;generalize(mkRat z D).num=x at *
 subst h1;unfold sgn;have:=Q5s (a:=x) hg;have:=Q5t (a:=x) hg
 repeat' split
 all_goals omega
theorem Q0t{x y:Int}{d c:Nat}(hd:d≠0)(hc:c≠0):mkRat x d<mkRat y c↔x*c<y*d:=by
 obtain⟨g,hg,h1,h2⟩:=Qkx (z:=x) hd;obtain⟨k,hk,h3,h4⟩:=Qkx (z:=y) hc;rw[Rat.lt_iff];generalize(mkRat x d).num=p at *
 generalize(mkRat x d).den=p' at *
 generalize(mkRat y c).num=q at *
 generalize(mkRat y c).den=q' at *
 subst h1 h2 h3 h4;have e1:p*(g:Int)*((q'*k:Nat):Int)=(p*q')*((g*k:Nat):Int):=by push_cast;grind
 have e2:q*(k:Int)*((p'*g:Nat):Int)=(q*p')*((g*k:Nat):Int):=by push_cast;grind
 rw[e1,e2];have hgk:(0:Int)<((g*k:Nat):Int):=by exact_mod_cast Nat.mul_pos hg hk
 exact⟨fun h=>Int.mul_lt_mul_of_pos_right h hgk,fun h=>Int.lt_of_mul_lt_mul_right h (Int.le_of_lt hgk)⟩
theorem Q3w{x y:Int}{d c:Nat}(hd:d≠0)(hc:c≠0):Qjl (mkRat x d) (mkRat y c)=Qbx (x*c) (y*d):=by unfold Qjl Qbx;simp only[Q0t hd hc,Q0t hc hd]
theorem Q0u{x:Int}:sgn x=0↔x=0:=by unfold sgn;(repeat' split)<;>omega
theorem Qbd{q:Rat}:Qef q=0↔q=0:=by unfold Qef;rw[Q0u,Rat.num_eq_zero]
theorem Qox{q:Rat}:Qef q<0↔q<0:=by unfold Qef;rw[Qn4,Rat.lt_iff];simp
theorem Q0v{q:Rat}:0<Qef q↔0<q:=by
 unfold Qef;rw[Rat.lt_iff];unfold sgn;simp;repeat' split
 all_goals omega
theorem Qx3(q:Rat):Qef q= -1∨Qef q=0∨Qef q=1:=by unfold Qef sgn;(repeat' split)<;>omega
theorem Q0w{p q:Rat}(h:Qef p<Qef q):Qjl p q= -1:=by
 unfold Qjl;rw[if_pos];rcases Qx3 p with h1|h1|h1<;>rcases Qx3 q with h2|h2|h2<;>first|omega|skip
 ·have a:=Qox.1 (show Qef p<0 by omega);have b:=Qbd.1 h2;grind
 ·have a:=Qox.1 (show Qef p<0 by omega);have b:=Q0v.1 (show 0<Qef q by omega);grind
 ·have a:=Qbd.1 h1;have b:=Q0v.1 (show 0<Qef q by omega);grind
theorem Qacn{p q:Rat}(h:Qef q<Qef p):Qjl p q=1:=by
 have:=Q0w h;unfold Qjl at *
 have hlt:q<p:=by apply Decidable.byContradiction;intro hn;rw[if_neg hn]at this;split at this<;>omega
 rw[if_neg (by grind),if_pos hlt]
theorem Qx4{p q:Rat}:Qjl p q=0↔p=q:=by
 unfold Qjl;constructor
 ·intro h;split at h
  ·omega
  ·split at h
   ·omega
   ·grind
 ·rintro rfl;rw[if_neg (by grind),if_neg (by grind)]
def Qhl(n:Bool)(a:List Nat):Bool:=if a=[]then !n else decide (a.getLast? ≠some 0)
def Qi1(n:Bool)(a d:List Nat):Bool:=Qhl n a&&(decide (d≠[]/\d.getLast? ≠some 0)&&decide (Nat.gcd (val a) (val d)=1))
theorem Qaco{n:Bool}{a d:List Nat}(ha:Ql a)(hd:Ql d)(h:Qi1 n a d=true):n=decide ((rv n a d).num<0)/\a=dig (rv n a d).num.natAbs/\d=dig (rv n a d).den:=by
 simp only[Qi1,Qhl,Bool.and_eq_true,decide_eq_true_eq]at h;obtain⟨h1,⟨h2,h3⟩,h4⟩:=h;have ea:a=dig (val a):=by
  refine(Qnw ha ?_).symm;split at h1
  ·rename_i h;subst h;simp
  ·simpa using h1
 have ed:d=dig (val d):=(Qnw hd h3).symm;have hD:val d≠0:=fun h=>h2 (by rw[ed,h,Qa7]);obtain⟨g1,g2⟩:=Qkg (z:=zv n a) hD;rw[Qb1,h4]at g1 g2;have g1':(rv n a d).num=zv n a:=by unfold rv;rw[g1];simp
 have g2':(rv n a d).den=val d:=by unfold rv;rw[g2];simp
 rw[g1',g2',Qb1];refine⟨?_,ea,ed⟩;unfold zv;split at h1
 ·rename_i h;subst h;simp at h1;subst h1;simp[val]
 ·rename_i h;have h0:val a≠0:=fun h'=>h (by rw[ea,h',Qa7]);cases n<;>simp;omega
theorem Qsl{a:List Nat}{k:Nat}(h:a.length=k+1):a.getLast? =some (a[k]'(by omega)):=by rw[List.getLast?_eq_getElem?,show a.length-1=k by omega];exact List.getElem?_eq_getElem _
def eN(a:List Int)(i:Nat):Int:=a.getD i 0
theorem Qc2{a:List Int}{i:Nat}(h:i<a.length):eN a i=a[i]:=by simp[eN,List.getD_eq_getElem?_getD,h]
theorem Qcs{a:List Int}{i:Nat}(h:a.length<=i):eN a i=0:=by simp[eN,List.getD_eq_getElem?_getD,List.getElem?_eq_none h]
theorem Q0x(i:Nat):eN [] i=0:=by simp[eN]
def Qg6(l:List Int):Nat->List Int
 |0=>[]
 |n+1=>if l[n]? =some 0 then Qg6 l n else l.take (n+1)
def Qdf(l:List Int):List Int:=Qg6 l l.length
theorem Qsm(l:List Int):∀n,(Qg6 l n).length<=n
 |0=>by simp[Qg6]
 |n+1=>by
  rw[Qg6];split
  ·have:=Qsm l n;omega
  ·simp;omega
theorem Qx5(l:List Int):∀n,n<=l.length->(Qg6 l n).getLast? ≠some 0
 |0,_=>by simp[Qg6]
 | n+1,h=>by
  rw[Qg6];split
  ·exact Qx5 l n (by omega)
  ·rename_i hn;have:(l.take (n+1)).getLast? =l[n]? :=by rw[List.getLast?_eq_getElem?,List.length_take,Nat.min_eq_left h];simp[List.getElem?_take]
   rw[this];exact hn
theorem Q3x(l:List Int)(i:Nat):∀n,n<=l.length->eN (Qg6 l n) i=if i<n then eN l i else 0
 |0,_=>by simp[Qg6,eN]
 | n +1,h=>by
  rw[Qg6];split
  ·rename_i hn;rw[Q3x l i n (by omega)];by_cases h1:i<n
   ·simp[h1,show i<n+1 by omega]
   ·rw[if_neg h1];split
    ·obtain rfl:i=n:=by omega
     simp[eN,List.getD_eq_getElem?_getD,hn]
    ·rfl
  ·simp only[eN,List.getD_eq_getElem?_getD,List.getElem?_take];split<;>simp_all
theorem Ql7(l:List Int)(i:Nat):eN (Qdf l) i=eN l i:=by
 rw[Qdf,Q3x l i _ (Nat.le_refl _)];split
 ·rfl
 ·exact(Qcs (by omega)).symm
theorem Qla(l:List Int):(Qdf l).getLast? ≠some 0:=Qx5 l _ (Nat.le_refl _)
theorem Qd7(l:List Int):(Qdf l).length<=l.length:=Qsm l _
theorem Qey{a b:List Int}(ha:a.getLast? ≠some 0)(hb:b.getLast? ≠some 0)(h:∀i,eN a i=eN b i):a=b:=by
 have key:∀(a b:List Int),b.getLast? ≠some 0->(∀i,eN a i=eN b i)->¬a.length<b.length:=by intro a b hb h hlt;have h1:=h (b.length-1);rw[Qcs (by omega),Qc2 (by omega)]at h1;apply hb;rw[List.getLast?_eq_getElem?,List.getElem?_eq_getElem (by omega),<-h1]
 have h1:=key a b hb h;have h2:=key b a ha (fun i=>(h i).symm);refine List.ext_getElem (by omega) fun i h3 h4=>?_;have:=h i
 rwa[Qc2 h3,Qc2 h4]at this
theorem Qtk{a:List Int}(h:a.getLast? ≠some 0):Qdf a=a:=Qey (Qla a) h (Ql7 a)
def Qb9(a b:List Int):Nat->Int
 |0=>0
 |n+1=>if eN a n=eN b n then Qb9 a b n else Qbx (eN a n) (eN b n)
def Qak(a b:List Int):Int:=Qb9 a b (max a.length b.length)
theorem Q3y{x y:Int}:Qbx x y=0↔x=y:=by unfold Qbx;(repeat' split)<;>omega
theorem Q83(x y:Int):Qbx x y= -1∨Qbx x y=0∨Qbx x y=1:=by unfold Qbx;(repeat' split)<;>omega
theorem Qjm{x y:Int}:Qbx x y<0↔x<y:=by unfold Qbx;(repeat' split)<;>omega
theorem Qacp(x y:Int):Qbx y x= -Qbx x y:=by unfold Qbx;(repeat' split)<;>omega
theorem Qmx(a b:List Int):∀n,Qb9 a b n=0↔∀i,i<n->eN a i=eN b i
 |0=>by simp[Qb9]
 | n+1=>by
  rw[Qb9];split
  ·rename_i h;rw[Qmx a b n];exact⟨fun H i hi=>by
    by_cases h1:i=n
    ·subst h1;exact h
    ·exact H i (by omega),fun H i hi=>H i (by omega)⟩
  ·rename_i h;rw[Q3y];exact⟨fun H=>absurd H h,fun H=>H n (by omega)⟩
theorem Q0y(a b:List Int):∀n,Qb9 b a n= -Qb9 a b n
 |0=>rfl
 |n+1=>by
  rw[Qb9,Qb9];by_cases h:eN a n=eN b n
  ·rw[if_pos h,if_pos h.symm,Q0y a b n]
  ·rw[if_neg h,if_neg (fun h'=>h h'.symm),Qacp]
theorem Qu0{a b c:List Int}:∀n,Qb9 a b n<0->Qb9 b c n<0->Qb9 a c n<0
 |0=>by simp[Qb9]
 | n+1=>by
  intro h1 h2;rw[Qb9]at h1 h2⊢;split at h1<;>split at h2
  ·rename_i e1 e2;rw[if_pos (e1.trans e2)];exact Qu0 n h1 h2
  ·rename_i e1 e2;rw[e1,if_neg e2];exact h2
  ·rename_i e1 e2;rw[<-e2,if_neg e1];exact h1
  ·rename_i e1 e2;rw[Qjm]at h1 h2;rw[if_neg (by omega),Qjm];omega
theorem Qg7{a b:List Int}{m:Nat}(h:max a.length b.length<=m):Qb9 a b m=Qak a b:=by
 obtain⟨k,rfl⟩:∃k,m=max a.length b.length+k:=⟨m-max a.length b.length,by omega⟩
 induction k with
 |zero=>rfl
 |succ k ih=>rw[<-Nat.add_assoc,Qb9,if_pos (by rw[Qcs (by omega),Qcs (by omega)])];exact ih (by omega)
theorem Qwx{a b:List Int}(ha:a.getLast? ≠some 0)(hb:b.getLast? ≠some 0):Qak a b=0↔a=b:=by
 unfold Qak;rw[Qmx];constructor
 ·intro h;refine Qey ha hb fun i=>?_;by_cases hi:i<max a.length b.length
  ·exact h i hi
  ·rw[Qcs (by omega),Qcs (by omega)]
 ·rintro rfl i _;rfl
theorem Qmy(a:List Int):Qak a a=0:=by rw[Qak,Qmx];intros;rfl
theorem Qia(a b:List Int):Qak b a= -Qak a b:=by unfold Qak;rw[Nat.max_comm,Q0y]
theorem Q5u{a b c:List Int}(h1:Qak a b<0)(h2:Qak b c<0):Qak a c<0:=by
 have e:∀x y:List Int,x.length<=a.length+b.length+c.length->y.length<=a.length+b.length+c.length->Qak x y=Qb9 x y (a.length+b.length+c.length):=fun x y hx hy=>(Qg7 (by omega)).symm;rw[e _ _ (by omega) (by omega)]at *
 exact Qu0 _ h1 h2
theorem Q5v{a b c d:List Int}(h1:∀i,eN a i=eN c i)(h2:∀i,eN b i=eN d i):Qak a b=Qak c d:=by
 have key:∀n,Qb9 a b n=Qb9 c d n:=by
  intro n;induction n with
  |zero=>rfl
  |succ n ih=>rw[Qb9,Qb9,h1,h2,ih]
 rw[<-Qg7 (m:=max (max a.length b.length) (max c.length d.length)) (by omega),key,Qg7 (by omega)]
def Qg8(g:Int->Int->Int)(a b:List Int):List Int:=(List.range (max a.length b.length)).map fun i=>g (eN a i) (eN b i)
theorem Qc6(g:Int->Int->Int)(a b:List Int):(Qg8 g a b).length=max a.length b.length:=by simp[Qg8]
theorem Q3z{g:Int->Int->Int}(hg:g 0 0=0)(a b:List Int)(i:Nat):eN (Qg8 g a b) i=g (eN a i) (eN b i):=by
 by_cases h:i<max a.length b.length
 ·rw[Qc2 (by rw[Qc6];exact h)];simp[Qg8]
 ·rw[Qcs (by rw[Qc6];omega),Qcs (by omega),Qcs (by omega),hg]
def Qay(a b:List Int):List Int:=Qdf (Qg8 (· + ·) a b)
theorem Qc4(a b:List Int)(i:Nat):eN (Qay a b) i=eN a i+eN b i:=by rw[Qay,Ql7,Q3z (by simp)]
theorem Qd8(a b:List Int):(Qay a b).getLast? ≠some 0:=Qla _
theorem Qig(a b:List Int):Qay a b=Qay b a:=Qey (Qd8 _ _) (Qd8 _ _) fun i=>by rw[Qc4,Qc4,Int.add_comm]
theorem Q5w(a b c:List Int):Qay (Qay a b) c=Qay a (Qay b c):=Qey (Qd8 _ _) (Qd8 _ _) fun i=>by simp only[Qc4,Int.add_assoc]
theorem Ql8{a:List Int}(h:a.getLast? ≠some 0):Qay a []=a:=Qey (Qd8 _ _) h fun i=>by rw[Qc4,Q0x,Int.add_zero]
theorem Qacq(a b c:List Int):Qak (Qay a c) (Qay b c)=Qak a b:=by
 have key:∀n,Qb9 (Qay a c) (Qay b c) n=Qb9 a b n:=by
  intro n;induction n with
  |zero=>rfl
  |succ n ih=>
   rw[Qb9,Qb9,Qc4,Qc4,ih];by_cases h:eN a n=eN b n
   ·rw[if_pos h,if_pos (by omega)]
   ·rw[if_neg h,if_neg (by omega)];unfold Qbx;(repeat' split)<;>omega
 rw[<-Qg7 (m:=max (max (Qay a c).length (Qay b c).length) (max a.length b.length)) (by omega),key,Qg7 (by omega)]
def Qgt(a:List Int):Int:=a.sum
def Qby(a:List Int):Bool:=decide (a.length<=64)&&(decide (a.getLast? ≠some 0)&&a.all fun x=>decide (0<=x)&&decide (x<=1048576))
def Qgu(o:Int)(a b:List Int):Int:=if o=1/\Qgt a≠Qgt b then Qbx (Qgt a) (Qgt b)else Qak a b
structure MB(k:Nat)(a:List Int):Prop where
 len:a.length<=64
 lo:∀x∈a,0<=x
 hi:∀x∈a,x<=k
theorem MB.eN{k:Nat}{a:List Int}(h:MB k a)(i:Nat):0<=FW.eN a i/\FW.eN a i<=k:=by
 by_cases hi:i<a.length
 ·rw[Qc2 hi];exact⟨h.lo _ (List.getElem_mem _),h.hi _ (List.getElem_mem _)⟩
 ·rw[Qcs (by omega)];omega
theorem MB.mono{k k':Nat}{a:List Int}(h:MB k a)(hk:k<=k'):MB k' a:=⟨h.len,h.lo,fun x hx=>by have:=h.hi x hx;omega⟩
theorem MB.ofOk{a:List Int}(h:Qby a=true):MB 1048576 a:=by simp only[Qby,Bool.and_eq_true,decide_eq_true_eq,List.all_eq_true]at h;exact⟨h.1,fun x hx=>(h.2.2 x hx).1,fun x hx=>(h.2.2 x hx).2⟩
theorem MB.mul{k l:Nat}{a b:List Int}(h:MB k a)(g:MB l b):MB (k+l) (Qay a b):=by
 have hl:(Qay a b).length<=64:=by have:=Qd7 (Qg8 (· + ·) a b);rw[Qc6]at this;have:=h.len;have:=g.len;unfold Qay;omega
 refine⟨hl,fun x hx=>?_,fun x hx=>?_⟩
 all_goals
  obtain⟨i,hi,rfl⟩:=List.getElem_of_mem hx;rw[<-Qc2 hi,Qc4];have:=h.eN i;have:=g.eN i
  push_cast;omega
variable {C : Ctx} {fr : Fr} {hp : HP} {w : World} {K R : Qg}
theorem Qaq2{α:Type}{f:α->PV}{e d:Nat}{xs:List α}{k k':IntKind}{n:Nat}(h5:n<=xs.length):
  slK e (.sl e (xs.map f)) none (some (.int k (n:Int))) (some (.int k' (n:Int))) d fr hp K=K (upd fr d (.sl e ((xs.take n).map f))) hp:=by
 simp[slK,Qca,h5]
theorem Qoy{α:Type}{a:List α}{k:Nat}(h:a.length=k+1):a.getLast? =some (a[k]'(by omega)):=by rw[List.getLast?_eq_getElem?,show a.length-1=k by omega];exact List.getElem?_eq_getElem _
theorem Q2l{α:Type}{f:α->PV}{e by_ ty d:Nat}{xs:List α}(h0:0<e)(h1:xs.length*by_<=140737488355328)(h2:xs.length<=9223372036854775807):
  Qgq e by_ ty .nilS (.sl e (xs.map f)) d fr hp K=K (upd (Qa2 d fr) d (.ms d xs.length)) (Qv hp d ⟨e,ty,xs.map f,false⟩):=by
 have:=Qk8 (fr:=fr) (hp:=hp) (K:=K) (e:=e) (by_:=by_) (ty:=ty) (d:=d) (x:=.sl e (xs.map f)) (ys:=xs.map f) rfl h0 (by simpa using h1) (by simpa using h2);simpa using this
theorem Qec{α:Type}{f:α->PV}{e by_ ty d β n:Nat}{xs ys:List α}(hb:hp β=some ⟨e,ty,xs.map f,false⟩)(hn:n=xs.length)(h0:0<e)(h1:(n+ys.length)*by_<=140737488355328)(h2:n+ys.length<=9223372036854775807)(hB:isB β=false:=by decide):
  Qgq e by_ ty (.ms β n) (.sl e (ys.map f)) d fr hp K=K (upd (Qa2 β fr) d (.ms β (n+ys.length))) (Qv hp β ⟨e,ty,(xs++ys).map f,false⟩):=by
 rw[Qop (ys:=ys.map f) (xs:=xs.map f) rfl hb h0 (by simp[hn]) (by simpa using h1) (by simpa using h2) hB];rw[List.take_of_length_le (by simp[hn]),List.map_append,List.length_map]
theorem Qag{α:Type}{f:α->PV}{y:α}{e by_ ty ty' d β γ n:Nat}{xs:List α}{fz:Bool}(hb:hp β=some ⟨e,ty,xs.map f,false⟩)(hy:hp γ=some ⟨e,ty',[f y],fz⟩)(h0:0<e)(hn:n=xs.length)(h1:(n+1)*by_<=140737488355328)(h2:n+1<=9223372036854775807)(hB:isB β=false:=by decide):
  Qgq e by_ ty (.ms β n) (.ms γ 1) d fr hp K=K (upd (Qa2 β fr) d (.ms β (n+1))) (Qv hp β ⟨e,ty,(xs++[y]).map f,false⟩):=by
 rw[Qtd hb hy h0 (by simp[hn]) h1 h2 hB];simp
abbrev PV.mono(a:List Int):PV:=.sl 1 (Qee a)
theorem Qx6{a:List Int}(h:a=[]):PV.le .nilS (PV.mono a):=by subst h;trivial
theorem Qamj{by_ ty d:Nat}{k k':IntKind}{n c:Nat}(h2:n<=c)(h3:by_*c<=281474976710656)(h4:c<=9223372036854775807):
  mkK 1 by_ ty (.int .i64 0) (.int k (n:Int)) (.int k' (c:Int)) d fr hp K=K (upd (Qa2 d fr) d (.ms d n)) (Qv hp d ⟨1,ty,Qee (List.replicate n 0),false⟩):=by
 rw[Q74 (by omega) (by omega) (by omega) (by omega)];simp[Qee]
theorem Q30(a b:Nat):max (a:Int) (b:Int)=((max a b:Nat):Int):=by omega
end Go.FW
namespace Go.FW
open Go
variable {C : Ctx} {fr : Fr} {hp : HP} {w : World} {K R : Qg}
theorem Q84{α:Type}{done:List α}{i n:Nat}{v z:α}(h:done.length=i)(hn:0<n):(done++List.replicate n z).set i v=(done++[v])++List.replicate (n-1) z:=by
 obtain⟨m,rfl⟩:∃m,n=m+1:=⟨n-1,by omega⟩
 subst h;simp[List.replicate_succ]
theorem Qqq{g:Int->Int->Int}{a b:List Int}{i:Nat}(h:i<max a.length b.length):(Qg8 g a b).take (i+1)=(Qg8 g a b).take i++[g (eN a i) (eN b i)]:=by rw[List.take_succ_eq_append_getElem (by rw[Qc6];exact h)];simp[Qg8]
end Go.FW
namespace Go.FW
open Go
abbrev Tm:=Rat×List Int
abbrev PV.term(t:Tm):PV:=.agg [.bool (decide (t.1.num<0)),PV.num t.1.num.natAbs,PV.num t.1.den,PV.mono t.2]
abbrev PV.poly(p:List Tm):PV:=.sl 4 (p.map PV.term)
abbrev PV.polys(l:List (List Tm)):PV:=.sl 1 (l.map PV.poly)
def Q4:List Tm->List Tm->List Tm
 | [],q=>q
 |p,[]=>p
 |(c,m)::p,(d,l)::q=>
  if 0<Qak m l then(c,m)::Q4 p ((d,l)::q)
  else if Qak m l<0 then(d,l)::Q4 ((c,m)::p) q
  else if c+d=0 then Q4 p q else(c+d,m)::Q4 p q
termination_by p q=>p.length+q.length
theorem Qcj(p:List Tm):Q4 p []=p:=by cases p<;>rw[Q4];simp
theorem Qez(p:List Tm):Q4 [] p=p:=by rw[Q4]
structure TB(K E:Nat)(t:Tm):Prop where
 c:rs t.1+1<=K
 m:MB E t.2
 l:t.2.getLast? ≠some 0
def PB(K E:Nat)(p:List Tm):Prop:=∀t∈p,TB K E t
theorem TB.mono{K K' E E':Nat}{t:Tm}(h:TB K E t)(hK:K<=K')(hE:E<=E'):TB K' E' t:=⟨Nat.le_trans h.c hK,h.m.mono hE,h.l⟩
theorem PB.mono{K K' E E':Nat}{p:List Tm}(h:PB K E p)(hK:K<=K')(hE:E<=E'):PB K' E' p:=fun t ht=>(h t ht).mono hK hE
theorem PB.nil(K E:Nat):PB K E []:=fun t ht=>by cases ht
theorem PB.cons{K E:Nat}{t:Tm}{p:List Tm}:PB K E (t::p)↔TB K E t/\PB K E p:=by simp[PB]
theorem PB.drop{K E:Nat}{p:List Tm}(h:PB K E p)(n:Nat):PB K E (p.drop n):=fun t ht=>h t (List.mem_of_mem_drop ht)
theorem PB.take{K E:Nat}{p:List Tm}(h:PB K E p)(n:Nat):PB K E (p.take n):=fun t ht=>h t (List.mem_of_mem_take ht)
theorem PB.get{K E:Nat}{p:List Tm}(h:PB K E p){i:Nat}(hi:i<p.length):TB K E p[i]:=h _ (List.getElem_mem hi)
theorem Qeo:∀(p q:List Tm),(Q4 p q).length<=p.length+q.length:=by
 intro p q;induction p,q using Q4.induct with
 |case1 q=>rw[Q4];simp
 |case2 p h=>rw[Qcj];simp
 |case3 c m p d l q h ih=>rw[Q4,if_pos h];simp at ih ⊢;omega
 |case4 c m p d l q h1 h2 ih=>rw[Q4,if_neg h1,if_pos h2];simp at ih ⊢;omega
 |case5 c m p d l q h1 h2 h3 ih=>rw[Q4,if_neg h1,if_neg h2,if_pos h3];simp at ih ⊢;omega
 |case6 c m p d l q h1 h2 h3 ih=>rw[Q4,if_neg h1,if_neg h2,if_neg h3];simp at ih ⊢;omega
theorem Qhm{K L E:Nat}:∀(p q:List Tm),PB K E p->PB L E q->PB (K+L) E (Q4 p q):=by
 intro p q;induction p,q using Q4.induct with
 |case1 q=>rw[Q4];exact fun _ h=>h.mono (by omega) (by omega)
 |case2 p h=>rw[Qcj];exact fun h _=>h.mono (by omega) (by omega)
 |case3 c m p d l q h ih=>intro hp hq;rw[Q4,if_pos h];rw[PB.cons]at hp⊢;exact⟨hp.1.mono (by omega) (by omega),ih hp.2 hq⟩
 |case4 c m p d l q h1 h2 ih=>intro hp hq;rw[Q4,if_neg h1,if_pos h2];rw[PB.cons]at hq⊢;exact⟨hq.1.mono (by omega) (by omega),ih hp hq.2⟩
 |case5 c m p d l q h1 h2 h3 ih=>intro hp hq;rw[Q4,if_neg h1,if_neg h2,if_pos h3];rw[PB.cons]at hp hq;exact ih hp.2 hq.2
 |case6 c m p d l q h1 h2 h3 ih=>intro hp hq;rw[Q4,if_neg h1,if_neg h2,if_neg h3];rw[PB.cons]at hp hq⊢;refine⟨⟨?_,hp.1.m,hp.1.l⟩,ih hp.2 hq.2⟩;have:=Quz c d;have:=hp.1.c;have:=hq.1.c;simp only at *;omega
def Qbn(l:List (List Tm)):List Tm:=
 match l with
 | []=>[]
 | [p]=>p
 |p::q::r=>Q4 (Qbn ((p::q::r).take ((p::q::r).length/2))) (Qbn ((p::q::r).drop ((p::q::r).length/2)))
termination_by l.length
decreasing_by
 all_goals simp[List.length_take,List.length_drop];omega
theorem Qkh{l:List (List Tm)}(h:2<=l.length):Qbn l=Q4 (Qbn (l.take (l.length/2))) (Qbn (l.drop (l.length/2))):=by
 match l,h with
 |p::q::r,_=>rw[Qbn]
def Qoz(l:List (List Tm)):Nat:=(l.map List.length).sum
theorem Qu1(l:List (List Tm))(n:Nat):Qoz (l.take n)+Qoz (l.drop n)=Qoz l:=by unfold Qoz;rw[<-List.sum_append,<-List.map_append,List.take_append_drop]
theorem Qo0{K E:Nat}:∀(n:Nat)(l:List (List Tm)),l.length<=n->(∀p∈l,PB K E p)->PB (l.length*K) E (Qbn l)/\(Qbn l).length<=Qoz l:=by
 intro n;induction n with
 |zero=>intro l hl _;have:l=[]:=List.length_eq_zero_iff.1 (by omega);subst this;rw[Qbn];exact⟨PB.nil _ _,by simp⟩
 | succ n ih=>
  intro l hl h
  match l,h with
  | [],_=>rw[Qbn];exact⟨PB.nil _ _,by simp⟩
  | [p],h=>rw[Qbn];exact⟨by simpa using h p (by simp),by simp[Qoz]⟩
  | p::q::r,h=>
   rw[Qkh (by simp)];generalize hL:p::q::r=L at *
   have hlen:2<=L.length:=by rw[<-hL];simp
   obtain⟨a1,a2⟩:=ih (L.take (L.length/2)) (by rw[List.length_take];omega) (fun x hx=>h x (List.mem_of_mem_take hx));obtain⟨b1,b2⟩:=ih (L.drop (L.length/2)) (by rw[List.length_drop];omega) (fun x hx=>h x (List.mem_of_mem_drop hx));have hs:=Qu1 L (L.length/2);constructor
   ·have e:(L.take (L.length/2)).length*K+(L.drop (L.length/2)).length*K=L.length*K:=by rw[<-Nat.add_mul,List.length_take,List.length_drop];congr 1;omega
    rw[<-e];exact Qhm _ _ a1 b1
   ·have:=Qeo (Qbn (L.take (L.length/2))) (Qbn (L.drop (L.length/2)));omega
def Qad(p:List Tm)(t:Tm):List Tm:=p.filterMap fun x=>if x.1*t.1=0 then none else some (x.1*t.1,Qay x.2 t.2)
theorem Qeg(p:List Tm)(t:Tm):(Qad p t).length<=p.length:=List.length_filterMap_le _ _
theorem Qf3{K L E F:Nat}{p:List Tm}{t:Tm}(hp:PB K E p)(ht:TB L F t):PB (K+L) (E+F) (Qad p t):=by
 intro x hx;simp only[Qad,List.mem_filterMap]at hx;obtain⟨y,hy,h⟩:=hx;split at h
 ·cases h
 ·cases h;have g:=hp y hy;refine⟨?_,g.m.mul ht.m,Qd8 _ _⟩;have:=Q81 y.1 t.1;have:=g.c;have:=ht.c;simp only;omega
def Qhy(p q:List Tm):List Tm:=Qbn (p.map (Qad q))
def Qx(p q:List Tm):List Tm:=if q.length<p.length then Qhy q p else Qhy p q
theorem Qjn(p q:List Tm):Qoz (p.map (Qad q))<=p.length*q.length:=by
 unfold Qoz;induction p with
 |nil=>simp
 |cons t p ih=>have:=Qeg q t;simp only[List.map_cons,List.sum_cons,List.length_cons,Nat.add_mul,Nat.one_mul];omega
theorem Qsn{K L E F:Nat}{p q:List Tm}(hp:PB K E p)(hq:PB L F q):PB (p.length*(K+L)) (E+F) (Qhy p q)/\(Qhy p q).length<=p.length*q.length:=by obtain⟨h1,h2⟩:=Qo0 (K:=K+L) (E:=E+F) _ (p.map (Qad q)) (Nat.le_refl _) (fun x hx=>by obtain⟨t,ht,rfl⟩:=List.mem_map.1 hx;exact(Qf3 hq (hp t ht)).mono (by omega) (by omega));rw[List.length_map]at h1;exact⟨h1,Nat.le_trans h2 (Qjn p q)⟩
theorem Qfg{K L E F:Nat}{p q:List Tm}(hp:PB K E p)(hq:PB L F q):PB (min p.length q.length*(K+L)) (E+F) (Qx p q)/\(Qx p q).length<=p.length*q.length:=by
 unfold Qx;split
 ·rename_i h;obtain⟨h1,h2⟩:=Qsn hq hp;rw[Nat.min_eq_right (by omega),Nat.add_comm K,Nat.add_comm E,Nat.mul_comm p.length];exact⟨h1,h2⟩
 ·rename_i h;obtain⟨h1,h2⟩:=Qsn hp hq;rw[Nat.min_eq_left (by omega)];exact⟨h1,h2⟩
theorem Qki(x y:Tm)(p q:List Tm):Q4 (x::p) (y::q)=if 0<Qak x.2 y.2 then x::Q4 p (y::q)else if Qak x.2 y.2<0 then y::Q4 (x::p) q else if x.1+y.1=0 then Q4 p q else(x.1+y.1,x.2)::Q4 p q:=by obtain⟨c,m⟩:=x;obtain⟨d,l⟩:=y;rw[Q4]
theorem Qx7{p q:List Tm}{i k:Nat}(hi:i<p.length)(hk:k<q.length):Q4 (p.drop i) (q.drop k)=if 0<Qak p[i].2 q[k].2 then p[i]::Q4 (p.drop (i+1)) (q.drop k)else if Qak p[i].2 q[k].2<0 then q[k]::Q4 (p.drop i) (q.drop (k+1))else if p[i].1+q[k].1=0 then Q4 (p.drop (i+1)) (q.drop (k+1))else(p[i].1+q[k].1,p[i].2)::Q4 (p.drop (i+1)) (q.drop (k+1)):=by rw[List.drop_eq_getElem_cons hi,List.drop_eq_getElem_cons hk,Qki]
theorem Qu2(a b:List Int):Qgu 0 a b=Qak a b:=by simp[Qgu]
theorem Qo1{a b:List Int}(h1:¬0<Qak a b)(h2:¬Qak a b<0)(ha:a.getLast? ≠some 0)(hb:b.getLast? ≠some 0):a=b:=(Qwx ha hb).1 (by omega)
theorem Qgb:PV.le .nilS (PV.poly []):=trivial
theorem Qqr{p:List Tm}(h:p=[]):PV.le .nilS (PV.poly p):=by subst h;trivial
section
variable {C : Ctx} {fr : Fr} {hp : HP} {w : World} {K R : Qg}
theorem Qacr{e by_ ty d:Nat}{z:PV}{k k':IntKind}{Cc:Int}(h0:0<e)(hz:z.cells.length=e)(h2:0<=Cc)(h3:by_*Cc<=281474976710656)(h4:Cc<=9223372036854775807):
  mkK e by_ ty z (.int k 0) (.int k' Cc) d fr hp K=K (upd (Qa2 d fr) d (.ms d 0)) (Qv hp d ⟨e,ty,[],false⟩):=Qzj h0 hz (by omega) h2 h3 h4
end
end Go.FW
namespace Go.FW
open Go
def Qcf(p:List Tm)(a:Rat):List Tm:=if a=0 then []else Qad p (a,[])
def Qi2(p:List Tm):List Tm:=Qcf p (-1)
def Qgc(p q:List Tm):List Tm:=Q4 p (Qi2 q)
def Qbe(a:Rat):List Tm:=if a=0 then []else [(a,[])]
def varM(v:Nat):List Int:=List.replicate v 0++[1]
def Qtl(v:Int):List Tm:=if v<0∨64<=v then []else [(1,varM v.toNat)]
theorem TB.num{a:Rat}{K E:Nat}(h:rs a+1<=K):TB K E (a,[]):=⟨h,⟨by simp,by simp,by simp⟩,by simp⟩
theorem Q85{p:List Tm}{a:Rat}{K E L:Nat}(hp:PB K E p)(ha:rs a+1<=L):PB (K+L) E (Qcf p a):=by
 unfold Qcf;split
 ·exact PB.nil _ _
 ·exact(Qf3 (F:=0) hp (TB.num ha)).mono (by omega) (by omega)
theorem Qhz(p:List Tm)(a:Rat):(Qcf p a).length<=p.length:=by
 unfold Qcf;split
 ·simp
 ·exact Qeg _ _
theorem Q5x:rs (-1)<=1:=by have:rs (-1)=max (nl 1) (nl 1):=rfl;rw[this,Qex];omega
theorem Qnc:rs 1<=1:=by have:rs 1=max (nl 1) (nl 1):=rfl;rw[this,Qex];omega
theorem rs_0:rs 0<=1:=by have:rs 0=max (nl 0) (nl 1):=rfl;rw[this,Qex,Qnv];omega
theorem Qn5{p:List Tm}{K E:Nat}(hp:PB K E p):PB (K+2) E (Qi2 p):=Q85 hp (by have:=Q5x;omega)
def Qi3(s t:Tm):Int:=if Qak s.2 t.2≠0 then Qak s.2 t.2 else Qjl s.1 t.1
def Qe0:List Tm->List Tm->Int
 | [],[]=>0
 | [],_::_=> -1
 |_::_,[]=>1
 |s::p,t::q=>if Qi3 s t≠0 then Qi3 s t else Qe0 p q
theorem Qahq{s t:Tm}(hs:s.2.getLast? ≠some 0)(ht:t.2.getLast? ≠some 0):Qi3 s t=0↔s=t:=by
 unfold Qi3;constructor
 ·intro h;split at h
  ·omega
  ·rename_i h1;have e1:=(Qwx hs ht).1 (Decidable.not_not.1 h1);exact Prod.ext (Qx4.1 h) e1
 ·rintro rfl;rw[if_neg (by simp[Qmy]),Qx4.2 rfl]
theorem Qwy:∀ {p q:List Tm},(∀t∈p,t.2.getLast? ≠some 0)->(∀t∈q,t.2.getLast? ≠some 0)->(Qe0 p q=0↔p=q)
 | [],[],_,_=>by simp[Qe0]
 | [],_::_,_,_=>by simp[Qe0]
 |_::_,[],_,_=>by simp[Qe0]
 | s::p,t::q,hp,hq=>by
  rw[Qe0];have h1:=Qahq (hp s (by simp)) (hq t (by simp));have h2:=Qwy (p:=p) (q:=q) (fun x hx=>hp x (by simp[hx])) (fun x hx=>hq x (by simp[hx]));split
  ·rename_i h;simp only[List.cons.injEq];exact⟨fun h'=>absurd h' h,fun h'=>absurd (h1.2 h'.1) h⟩
  ·rename_i h;rw[h2,List.cons.injEq,<-h1];exact⟨fun h'=>⟨Decidable.not_not.1 h,h'⟩,fun h'=>h'.2⟩
theorem Qx8{p q:List Tm}{i:Nat}(hi:i<p.length)(hk:i<q.length):Qe0 (p.drop i) (q.drop i)=if Qi3 p[i] q[i]≠0 then Qi3 p[i] q[i]else Qe0 (p.drop (i+1)) (q.drop (i+1)):=by rw[List.drop_eq_getElem_cons hi,List.drop_eq_getElem_cons hk,Qe0]
theorem Ql9{q:List Tm}:Qe0 [] q=if q.length=0 then 0 else -1:=by cases q<;>simp[Qe0]
theorem PB.last{K E:Nat}{p:List Tm}(h:PB K E p):∀t∈p,t.2.getLast? ≠some 0:=fun t ht=>(h t ht).l
def Qhr(p:List Tm):Int:=p.foldl (fun d t=>max d (Qgt t.2)) (-1)
theorem Qwz{E:Nat}{a:List Int}(h:MB E a):0<=Qgt a/\Qgt a<=64*E:=by
 have key:∀(l:List Int),(∀x∈l,0<=x)->(∀x∈l,x<=E)->0<=l.sum/\l.sum<=l.length*E:=by
  intro l;induction l with
  |nil=>simp
  |cons x l ih=>
   intro h1 h2;obtain⟨a1,a2⟩:=ih (fun y hy=>h1 y (by simp[hy])) (fun y hy=>h2 y (by simp[hy]));have b1:=h1 x (by simp);have b2:=h2 x (by simp);rw[List.sum_cons,List.length_cons]
   push_cast
   rw[Int.add_mul];omega
 obtain⟨h1,h2⟩:=key a h.lo h.hi;refine⟨h1,Int.le_trans h2 (Int.mul_le_mul_of_nonneg_right ?_ (by omega))⟩;have:=h.len;omega
open Go Go.RowKit
section
variable {F : Fence} {n : Nat} {P : Program}
def Mks(lo:Nat):List Deferred->Nat->World->Prop
 | [],_,_=>True
 |d::ds,hi,W=>∃D,d={ target:=.collected D,args:= #[] }/\lo<=D/\D<hi/\W.heap[D]? =some (.deferred (some []))/\Mks lo ds D W
theorem Mks.hi{lo:Nat}{W:World}:∀ {ds:List Deferred} {hi hi':Nat},Mks lo ds hi W->hi<=hi'->Mks lo ds hi' W
 | [],_,_,_,_=>trivial
 |_::_,_,_,⟨D,h1,h2,h3,h4,h5⟩,h=>⟨D,h1,h2,by omega,h4,h5⟩
end
end Go.FW
namespace Go.FW
open Go Go.RowKit
end Go.FW
