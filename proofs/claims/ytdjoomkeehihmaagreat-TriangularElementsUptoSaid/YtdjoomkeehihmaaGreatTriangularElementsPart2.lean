/- Part 2 of the proof of TriangularElements: FwO, FwP, FwQ, FwR, FwS, FwT, FwU, FwV, FwW, FwX, FwY, FwZ, FwBA, FwBB, FwBC, FwBD, FwBE, FwBF, FwBG, FwBH, FwCA, FwCB, FwCC, FwCD, FwCE, FwCF, FwCG, FwCH, FwCI, FwCJ, FwCK, FwCL, FwMA, FwMB, FwMC, FwPA, FwPB, FwRC, FwRD. Own lemmas; no conditions. -/
import Derived.Test.YtdjoomkeehihmaaGreatTriangularElementsPart1
import Derived.Deep.RegionHeld3
import Derived.LoopN
import Derived.Maps.AppendAt
import Derived.Deep.AppendSrc
import Derived.OwnWalkIn
set_option maxHeartbeats 1000000
set_option linter.unusedSimpArgs false
set_option linter.unusedVariables false
set_option linter.unnecessarySimpa false
set_option maxRecDepth 100000
namespace Go.FW
open Go
section
variable {P : Program} {ops : Array Oper} {Q : Exit -> Act -> World -> Prop}
def vv(P:Program)(ops:Array Oper)(Q:Exit->Act->World->Prop)(iR:Nat->Bool):Nat->Array Bool->Act->World->Prop
 |0,aY,a,w=>Region.ready .any ops aY=[]/\Q .normal a w
 |fuel+1,aY,a,w=>
  (Region.ready .any ops aY=[]->Q .normal a w)/\
  ∀i∈Region.ready .any ops aY,wpOp P ops Q i (fun a' w'=>(iR i=false->Ext bS w w')/\vv P ops Q iR fuel (aY.setIfInBounds i true) a' w') a w
theorem GR(iR:Nat->Bool):∀(fuel:Nat)(aY:Array Bool)(a:Act)(w:World),vv P ops Q iR fuel aY a w->wpAny P .any ops Q fuel aY a w
 |0,_,_,_,h=>h
 |fuel+1,_,_,_,h=>⟨h.1,fun i hi=>wpOp_mono (fun a' w' h'=>GR iR fuel _ a' w' h'.2) (h.2 i hi)⟩
def YF(P:Program)(ops:Array Oper)(all:Bool)(o:Oper)(v:Value)(a:Act)(w:World):Prop:=
 (Region.wanted o (yielded ops a.tmps)=true/\∀w',(all=true∨Ext bS w w')->(execOp a.eval o).run P w'= .ok (.value v) w')∨
 (Region.wanted o (yielded ops a.tmps)=false/\v=undef)
theorem YF.step{all:Bool}{o:Oper}{v:Value}{a a':Act}{w w':World}(hy:YF P ops all o v a w)(he:execOp a'.eval o=execOp a.eval o)
  (hw:Region.wanted o (yielded ops a'.tmps)=Region.wanted o (yielded ops a.tmps)) (hx:all=true∨Ext bS w w'):YF P ops all o v a' w':=by
 unfold YF at *
 rw[he,hw];rcases hy with⟨h1,h2⟩|h
 ·refine .inl ⟨h1,fun w2 h3=>h2 w2 ?_⟩;rcases hx with hx|hx
  ·exact .inl hx
  ·rcases h3 with h3|h3
   ·exact .inl h3
   ·exact .inr (hx.trans h3)
 ·exact .inr h
theorem YF.wpOp{all:Bool}{i:Nat}{o:Oper}{v:Value}{a:Act}{w:World}(hi:ops[i]? =some o)(hy:YF P ops all o v a w)
  {K:Act->World->Prop} (h:K (a.put o.dst v) w):Go.wpOp P ops Q i K a w:=by
 unfold Go.wpOp;simp only[hi];rcases hy with⟨hw,hv⟩|⟨hw,rfl⟩
 ·simp only[hw,if_true,Oper.wp,hv w (.inr (Ext.refl _ _)),Oper.upon];exact .inl h
 ·simp only[hw,KaK,if_false];exact h
theorem Q93{j:Nat}{oi oj:Oper}{v:Value}(hj:ops[j]? =some oj)(hap:oi.apart ops oj=true)
  (Ws:∀cs b,oi.op≠ .select cs b) (Wt:∀cs b,oj.op≠ .select cs b)
  (hQ:∀c a w,Q (.panic c) (a.put oi.dst v) w->Q (.panic c) a w) {K:Act->World->Prop} {a:Act} {w:World}
  (h:Go.wpOp P ops Q j K (a.put oi.dst v) w):
  Go.wpOp P ops Q j (fun a' w'=>(execOp a'.eval oi=execOp a.eval oi/\Region.wanted oi (yielded ops a'.tmps)=Region.wanted oi (yielded ops a.tmps))/\K (a'.put oi.dst v) w') a w:=by
 obtain⟨h1,h2,h3⟩:=Oper.apart_spec hap;have gY:∀u,execOp (a.put oj.dst u).eval oi=execOp a.eval oi/\Region.wanted oi (yielded ops (a.put oj.dst u).tmps)=Region.wanted oi (yielded ops a.tmps):=fun u=>
  ⟨execOp_put oi Ws a oj.dst u h3,wanted_put oi a oj.dst u h3⟩
 have apc:∀d u,execOp (({ a with defers:=d::a.defers }:Act).put oj.dst u).eval oi=execOp a.eval oi/\Region.wanted oi (yielded ops (({ a with defers:=d::a.defers }:Act).put oj.dst u).tmps)=Region.wanted oi (yielded ops a.tmps):=fun d u=>
  ⟨(execOp_put oi Ws ({ a with defers:=d::a.defers }:Act) oj.dst u h3).trans rfl,(wanted_put oi ({ a with defers:=d::a.defers }:Act) oj.dst u h3).trans rfl⟩
 unfold Go.wpOp at *
 simp only[hj]at *
 rw[wanted_put oj a oi.dst v h1]at h;split
 ·rename_i hw;simp only[hw,if_true]at h;rcases h with h|⟨Vr,an8⟩
  case inr=>exact .inr ⟨by unfold Oper.asks at *;rw[execOp_put oj Wt a oi.dst v h1]at Vr;exact Vr,an8⟩
  refine .inl ?_;unfold Oper.wp at *
  rw[execOp_put oj Wt a oi.dst v h1]at h;generalize(execOp a.eval oj).run P w=r at *
  cases r with
  | ok n w'=>
   cases n<;>simp only[Oper.upon]at h⊢
   case value u=>exact⟨gY u,by rw[<-Act.put_comm a v u h2];exact h⟩
   case skip=>exact⟨gY _,by rw[<-Act.put_comm a v undef h2];exact h⟩
   case defer d=>
    refine⟨apc d _,?_⟩;rw[<-Act.put_comm _ v undef h2,<-Act.put_defers];exact h
   case enter f args=>
    refine Calls.mono h fun e w'' he=>?_;cases e with
    |returned u=>exact⟨gY u,by rw[<-Act.put_comm a v u h2];exact he⟩
    |panicked c=>exact hQ _ _ _ he
    |outgrown=>exact he
   case row row args=>exact Rows.mono h fun u w'' he=>⟨gY u,by rw[<-Act.put_comm a v u h2];exact he⟩
  |halt x w'=>
   cases x<;>simp only[Oper.upon]at h⊢
   case panic u=>exact hQ _ _ _ h
 ·rename_i hw;simp only[hw]at h;exact⟨gY _,by rw[<-Act.put_comm a v undef h2];exact h⟩
def pO(ops:Array Oper)(aY:Array Bool):Prop:=∀(j:Nat)(o:Oper),ops[j]? =some o->aY.getD j false=true->∀e∈o.after,Region.binds .any e=true->aY.getD e.on false=true
theorem pO.step{aY:Array Bool}{i:Nat}(h:pO ops aY)(hi:i∈Region.ready .any ops aY):pO ops (aY.setIfInBounds i true):=by
 intro j o hj hl e he hb;obtain⟨h0,oi,sH,cw⟩:=mem_ready.1 hi;by_cases MC:i=j
 ·subst MC;rw[hj]at sH;cases sH;exact getD_set_true (cw e he hb)
 ·rw[getD_set_ne false MC]at hl;exact getD_set_true (h j o hj hl e he hb)
theorem RD{aY:Array Bool}{i:Nat}(hd:pO ops aY):∀(n k:Nat),aY.getD k false=true->qC ops n i k=true->aY.getD i false=true
 |0,_,_,h=>by simp[qC]at h
 | n+1,k,hk,h=>by
  unfold qC at h;cases ho:ops[k]? with
  |none=>simp[ho]at h
  |some o=>
   simp only[ho,Ka4,Kat,KbS,beq_iff_eq]at h;obtain⟨e,he,hb,h⟩:=h;have hl:=hd k o ho hk e (by simpa using he) hb;rcases h with h|h
   ·rw[<-h];exact hl
   ·exact RD hd n e.on hl h
theorem Qxz{aY:Array Bool}{i j n:Nat}(hd:pO ops aY)(hj:j∈Region.ready .any ops aY)(h:qC ops n i j=true):aY.getD i false=true:=by
 obtain⟨_,o,ho,cw⟩:=mem_ready.1 hj;cases n with
 |zero=>simp[qC]at h
 |succ n=>
  unfold qC at h;simp only[ho,Ka4,Kat,KbS,beq_iff_eq]at h;obtain⟨e,he,hb,h⟩:=h;have hl:=cw e (by simpa using he) hb;rcases h with h|h
  ·rw[<-h];exact hl
  ·exact RD hd n e.on hl h
theorem Q94{aY:Array Bool}{i:Nat}(h0:aY.getD i true=false):¬aY.getD i false=true:=by
 intro h1;rcases Kc7 i aY.size with h'|h'
 ·simp[h']at h0 h1;rw[h0]at h1;cases h1
 ·simp[KcD h']at h1
theorem XW{iR:Nat->Bool}{all:Bool}{i:Nat}{oi:Oper}{v:Value}(hi:ops[i]? =some oi)(Wq:∀(j:Nat)(o:Oper) cs b,ops[j]? =some o->o.op≠ .select cs b)
  (hQ:∀c a w,Q (.panic c) (a.put oi.dst v) w->Q (.panic c) a w)
  (yI:all=true∨∀j,iR j=true->j<ops.size->qC ops ops.size i j=true∨j=i):
  ∀(fuel:Nat)(aY:Array Bool)(a:Act)(w:World),pO ops aY->
   (∀j oj,ops[j]? =some oj->j≠i->aY.getD j true=false->(∀e∈oj.after,Region.binds .any e=true->e.on≠i)->oi.apart ops oj=true)->
   i∈Region.ready .any ops aY->YF P ops all oi v a w->
   vv P ops Q iR fuel (aY.setIfInBounds i true) (a.put oi.dst v) w->vv P ops Q iR (fuel+1) aY a w:=by
 intro fuel;induction fuel with
 | zero=>
  intro aY a w _ _ hr hy H;refine⟨fun h=>(by rw[h]at hr;cases hr),fun j hj=>?_⟩;by_cases eh:j=i
  ·subst eh;exact hy.wpOp hi ⟨fun _=>Ext.refl _ _,H⟩
  ·have:=ready_mono hj eh;rw[H.1]at this;cases this
 | succ fuel ih=>
  intro aY a w Vy Be hr hy H;refine⟨fun h=>(by rw[h]at hr;cases hr),fun j hj=>?_⟩;by_cases eh:j=i
  ·subst eh;exact hy.wpOp hi ⟨fun _=>Ext.refl _ _,H⟩
  ·have h1:=H.2 j (ready_mono hj eh);obtain⟨VL,oj,nk,cw⟩:=mem_ready.1 hj;have VH:¬aY.getD i false=true:=Q94 (mem_ready.1 hr).1;have aoi:∀e∈oj.after,Region.binds .any e=true->e.on≠i:=fun e he hb heq=>VH (heq▸cw e he hb);have h2:=Q93 nk (Be j oj nk eh VL aoi) (fun cs b=>Wq i oi cs b hi) (fun cs b=>Wq j oj cs b nk) hQ h1;have anb:all=true∨iR j=false:=by
    rcases yI with h|h
    ·exact .inl h
    ·cases hb:iR j with
     |false=>exact .inr rfl
     |true=>
      have anW:j<ops.size:=(KaH.1 nk).1;rcases h j hb anW with h|h
      ·exact absurd (Qxz Vy hj h) VH
      ·exact absurd h eh
   have anG:∀k ok,ops[k]? =some ok->k≠i->(aY.setIfInBounds j true).getD k true=false->
     (∀e∈ok.after,Region.binds .any e=true->e.on≠i)->oi.apart ops ok=true:=fun k ok hk wa oz rn=>by
    refine Be k ok hk wa ?_ rn;by_cases VJ:j=k
    ·subst VJ;exact VL
    ·rw[getD_set_ne true VJ]at oz;exact oz
   refine wpOp_mono (fun a' w' h3=>?_) h2;obtain⟨⟨he,hw⟩,hx,wu⟩:=h3;refine⟨hx,ih (aY.setIfInBounds j true) a' w' (Vy.step hj) anG (ready_mono hr (Ne.symm eh)) (hy.step he hw ?_) ?_⟩
   ·rcases anb with h|h
    ·exact .inl h
    ·exact .inr (hx h)
   ·rw[Array.setIfInBounds_comm _ _ eh];exact wu
end
section
variable {C : Ctx} {ρ : Nat -> Option Nat} {fr : Fr} {hp : HP} {w : World} {a : Act} {K : Qg}
theorem RY{dr:Bool}{o:Oper}(ar:∀d,o.dst=some d->d<C.N)(h:aI C ρ fr hp a.tmps w)(hv:jB (fS C.P dr o) fr hp K):∃az an,aI C ρ az an (a.put o.dst undef).tmps w/\K az an:=by
 unfold jB at hv;rw[P6]at hv;cases hd:o.dst with
 |some d=>rw[hd]at hv;exact⟨_,hp,h.af Qt.Xk (ar d hd),hv⟩
 |none=>rw[hd]at hv;exact⟨fr,hp,h,hv⟩
theorem ag8{P:Program}{dr:Bool}{o:Oper}:(fS P dr o).cls=(fS P true o).cls:=by
 cases dr with
 |true=>rfl
 | false=>
  have h0:(mE P false o).map cB.cls=(mE P true o).map cB.cls:=by
   unfold mE;split<;>first|rfl|skip
   split<;>first|rfl|skip
   rename_i f _;cases h1:b7 f with
   |none=>simp
   |some pf=>simp only[Kdb,Option.map_map];congr 1
  unfold fS;cases h1:mE P false o<;>cases h2:mE P true o<;>simp_all[cB.cls]
theorem RJ {dr:Bool} {R:Qg} {sk:List It} {ops:Array Oper} {Q:Exit->Act->World->Prop} (rp:Region.noSelect ops=true) (hQ:Ch C (vc C R sk) Q):∀(n:Nat) (aY:Array Bool) (r:RT) (fr:Fr) (hp:HP) (a:Act) (w:World),
  pG C.P C.N dr ops n aY=some r.strip->pO ops aY->a.defers=[]->fa C fr hp a.tmps w->vc C R (.o r::sk) fr hp->
  vv C.P ops (NoPanic Q) (xK C.P dr ops) n aY a w:=by
 intro n;have done:∀(n:Nat)(aY:Array Bool)(r:RT)(fr:Fr)(hp:HP)(a:Act)(w:World),Region.ready .any ops aY=[]->a.defers=[]->fa C fr hp a.tmps w->r.strip= .nil->vc C R (.o r::sk) fr hp->vv C.P ops (NoPanic Q) (xK C.P dr ops) n aY a w:=by
  intro n aY r fr hp a w hr aV hs ja hv;obtain⟨r',fr,hp,h1,h2,hs,hv⟩:=xE r fr hp hs hv;obtain rfl:=Ue (h1.trans ja) h2;rw[Ar]at hv;have hq:NoPanic Q .normal a w:=hQ fr hp a w aV hs hv;cases n with
  |zero=>exact⟨hr,hq⟩
  |succ n=>exact⟨fun _=>hq,by rw[hr];simp⟩
 induction n with
 | zero=>
  intro aY r fr hp a w ho hd aV hs hv;unfold pG at ho;split at ho
  ·rename_i hr;exact done 0 aY r fr hp a w (by simpa using hr) aV hs (KcZ ho).symm hv
  ·cases ho
 | succ n ih=>
  intro aY r fr hp a w ho hd aV hs hv;unfold pG at ho;split at ho
  ·rename_i hr;exact done (n+1) aY r fr hp a w (by simpa using hr) aV hs (KcZ ho).symm hv
  ·rename_i hr;obtain⟨r',fr,hp,e1,e2,hs,hv⟩:=xE r fr hp hs hv;rw[<-e1]at ho;split at ho
   ·rename_i i anC;have kJ:=List.find?_some anC;simp only[Kab,Kaa]at ho;obtain⟨g,⟨o,sH,Mn⟩,r0,fP,v7⟩:=ho;obtain⟨r',rfl,rfl⟩:=Il v7.symm e2;unfold FP at kJ;simp only[Kat,List.contains_iff_mem]at kJ;obtain⟨⟨Fk,Be⟩,cy⟩:=kJ;have EN:tI C.P ops i=(fS C.P dr o).cls:=by rw[ag8];simp[tI,sH]
    rw[Aw]at hv;obtain⟨ρ,qh⟩:=hs;obtain⟨ar,l6,A'⟩:=Sj qh Mn hv;rw[l6]at A';have yI:∀all:Bool,(all=false->tI C.P ops i=1)->all=true∨∀j,xK C.P dr ops j=true->j<ops.size->qC ops ops.size i j=true∨j=i:=by
     intro all cw;cases all with
     |true=>exact .inl rfl
     |false=>
      refine .inr fun j hj pZ=>?_;rw[cw rfl]at cy;have:=Kay.1 cy j (by simpa using pZ);simp only[KbS,Bool.not_eq_true']at this;rcases this with h|h
      ·rw[hj]at h;cases h
      ·exact .inl h
    have fin:∀(all:Bool)(v:Value),(all=false->tI C.P ops i=1)->YF C.P ops all o v a w->(∃az an,aI C ρ az an (a.put o.dst v).tmps w/\vc C R (.o r'::sk) az an)->vv C.P ops (NoPanic Q) (xK C.P dr ops) (n+1) aY a w:=by
     intro all v cw hy ⟨az,an,en,oA⟩;exact XW sH (Region.noSelect_spec rp) (fun _ _ _ h=>h) (yI all cw) n aY a w hd (Region.free_spec sH Be) Fk hy
      (ih _ r' az an _ w fP (hd.step Fk) (by rw[u6];exact aV) ⟨ρ,en⟩ oA)
    rcases A' with⟨hw,hv⟩|⟨hw,hv⟩
    ·by_cases h0:tI C.P ops i=0
     ·obtain⟨v,bo,wu⟩:=SS (by rw[<-EN];exact h0) ar qh hv;exact fin true v (by simp) (.inl ⟨hw,fun w' _=>bo w'⟩) wu
     ·by_cases h1:tI C.P ops i=1
      ·obtain⟨v,b,hb,bo,wu⟩:=SU (by rw[<-EN];exact h1) ar qh hv;exact fin false v (fun _=>h1) (.inl ⟨hw,fun w' ru=>bo w' (ru.elim (fun h=>by cases h) (fun h=>h.block b hb (fun h=>h)))⟩) wu
      ·split at cy
       ·rename_i h;exact absurd h h0
       ·rename_i h;exact absurd h h1
       ·cases cy
    ·by_cases h1:tI C.P ops i=1
     ·exact fin false undef (fun _=>h1) (.inr ⟨hw,rfl⟩) (RY ar qh hv)
     ·exact fin true undef (by simp) (.inr ⟨hw,rfl⟩) (RY ar qh hv)
   ·
    simp only[Kaa]at ho;obtain⟨rs,ft,v7⟩:=ho;obtain⟨m1,m2⟩:=oE ft;have AZ:∀(rs:List RT) (r':RT) (fr:Fr) (hp:HP),r'.strip=tW rs->fa C fr hp a.tmps w->vc C R (.o r'::sk) fr hp->∀r∈rs,∃r2 mX fh,r2.strip=r/\(∀x,r2≠ .wk x)/\fa C mX fh a.tmps w/\vc C R (.o r2::sk) mX fh:=by
     intro rs;induction rs with
     |nil=>intro _ _ _ _ _ _ r hr;cases hr
     | cons x xs kK=>
      intro r' fr hp fP hs hv r hr;obtain⟨r2,mX,fh,f1,f2,hs,hv⟩:=xE r' fr hp hs hv;cases xs with
      |nil=>simp at hr;subst hr;exact⟨r2,mX,fh,f1.trans fP,f2,hs,hv⟩
      | cons y ys=>
       rw[tW]at fP
       ·obtain⟨a',b',rfl,g1,g2⟩:=acp (f1.trans fP) f2;rw[Rp]at hv;rcases KaQ.1 hr with rfl|hr
        ·obtain⟨r3,Ep,sI,k1,k2,k3,k4⟩:=xE a' mX fh hs hv.1;exact⟨r3,Ep,sI,k1.trans g1,k2,k3,k4⟩
        ·exact kK b' mX fh g2 hs hv.2 r hr
       ·simp
    refine⟨fun h0=>absurd (by rw[h0];rfl) hr,fun i hi=>?_⟩;obtain⟨k,hk⟩:=KaG hi;have wb:k<rs.length:=by rw[m1];exact(Kad.1 hk).1
    obtain⟨i',aC,hf⟩:=m2 k _ (Kam wb);rw[hk]at aC;cases aC;simp only[Kab,Kaa]at hf;obtain⟨g,⟨o,sH,Mn⟩,r0,fP,he⟩:=hf;obtain⟨r2,mX,fh,f1,f2,hs,oA⟩:=AZ rs r' fr hp v7.symm hs hv _ (Kag wb);obtain⟨r',rfl,rfl⟩:=Il (f1.trans he.symm) f2;rw[Aw]at oA;obtain⟨ρ,qh⟩:=hs;refine wpOp_mono (fun a' w' hA=>?_) (SV sH aV qh Mn oA);obtain⟨vZ,⟨az,an,en,sN⟩,hx⟩:=hA;refine⟨fun hb=>hx ?_,ih _ r' az an a' w' fP (hd.step hi) vZ en sN⟩;simpa[xK,sH]using hb
theorem fa.drew{tmps:Array Value}(h:fa C fr hp tmps w):fa C fr hp tmps { w with drawn:=w.drawn+1 }:=by obtain⟨ρ,hs⟩:=h;exact⟨ρ,hs.grow (Ext.drew w _)⟩
theorem pO.start(ops:Array Oper):pO ops (Array.replicate ops.size false):=by intro j o _ hl;exfalso;simp[Array.getD]at hl
theorem HJ{s:SC}{r:RT}(h:s.strip= .rg r):∃r',s= .rg r'/\r'.strip=r:=by
 cases s with
 |rg r'=>simp only[SC.strip,SC.rg.injEq]at h;exact⟨r',rfl,h⟩
 |_=>simp[SC.strip]at h
theorem XX{R:Qg}{sk:List It}{ops:Array Oper}{draw:Bool}{id:Nat}{s:SC}{Q:Exit->Act->World->Prop}(hm:C.P.follows .mixedOrders=true)(hQ:Ch C (vc C R sk) Q)
  (hc:zS C.P C.N ops draw=some s.strip) (aV:a.defers=[]) (hs:fa C fr hp a.tmps w) (hv:vc C R (.c s::sk) fr hp):(Code.region id ops draw).wp C.P Q a w:=by
 unfold zS at hc;split at hc
 ·rename_i hd;subst hd;split at hc
  ·rename_i rp;have key:∀(dr:Bool)(most:Nat)(s:SC),zR C.P C.N ops dr most=some s.strip->vc C R (.c s::sk) fr hp->(Code.region id ops true).wp C.P Q a w:=by
    intro dr most s hc hv;unfold zR at hc;split at hc
    ·cases hc
    split at hc
    ·rename_i r0 hr;split at hc
     ·obtain⟨r,rfl,rfl⟩:=HJ (KcZ hc).symm;rw[vc]at hv;exact wp_region_noPanic (wp_region_any hm (GR _ _ _ _ _ (RJ rp hQ _ _ r fr hp a _ hr (pO.start ops) aV hs.drew hv)))
     ·cases hc
    ·cases hc
   split at hc
   ·rename_i s' en;cases hc;split at en
    ·simp only[Kaa]at en;obtain⟨r0,hr,he⟩:=en;obtain⟨r,rfl,rfl⟩:=HJ he.symm;rw[vc]at hv;exact wp_region_noPanic (wp_region_any hm (GR _ _ _ _ _ (RJ rp hQ _ _ r fr hp a _ (Cp _ _ _ hr) (pO.start ops) aV hs.drew hv)))
    ·cases en
   ·exact key _ _ _ hc hv
  ·cases hc
 ·rename_i hd;have Vx:draw=false:=by simpa using hd
  subst Vx;simp only[Kaa]at hc;obtain⟨gs,hgs,he⟩:=hc;obtain⟨r,rfl,hr⟩:=HJ he.symm;rw[vc]at hv;obtain⟨m1,m2⟩:=oE hgs;refine wp_region (SW hQ gs (List.range ops.size) r fr hp a w (by simp[m1]) (fun k i g hk hg=>?_) aV hs hr hv);obtain⟨o,ho,ae⟩:=m2 k g hg;have wb:k<ops.size:=by have:=(Kad.1 hk).1;simpa using this
  rw[KcW wb]at hk;cases hk;exact⟨o,by simpa using ho,ae⟩
end
end Go.FW
namespace Go.FW
open Go
variable {C : Ctx} {ρ : Nat -> Option Nat} {fr : Fr} {hp : HP} {w : World} {a : Act} {K R : Qg}
structure NG(C:Ctx)(R:Qg)(sk:List It)(Q:Exit->Act->World->Prop):Prop where
 ny:Ch C (vc C R sk) Q
 ext:∀id eO,FW.cu id sk=some eO->∀fr hp (a:Act) w,a.defers=[]->fa C fr hp a.tmps w->vc C R eO fr hp->Q (.exit id) a w
 ret:∀fr hp (a:Act) w,a.defers=[]->fa C fr hp a.tmps w->R fr hp->Q .ret a w
theorem DY{sk:List It}{x y:SC}:vc C R (.c (.seq x y)::sk) fr hp=vc C R (.c x:: .c y::sk) fr hp:=by rw[vc]
theorem Dq{sk:List It}{id:Nat}{x:SC}:vc C R (.c (.block id x)::sk) fr hp=vc C R (.c x:: .eb id::sk) fr hp:=by rw[vc]
theorem DL{sk:List It}:vc C R (.c .skip::sk) fr hp=vc C R sk fr hp:=by rw[vc]
theorem F5{sk:List It}{r:RT}:vc C R (.c (.rg r)::sk) fr hp=vc C R (.o r::sk) fr hp:=by rw[vc]
theorem B7{sk:List It}{id:Nat}:vc C R (.eb id::sk) fr hp=vc C R sk fr hp:=by rw[vc]
theorem vC{sk:List It}{J:Qg}:vc C R (.el J::sk) fr hp=J fr hp:=by rw[vc]
theorem DZ{sk:List It}:vc C R (.c .ret::sk) fr hp=R fr hp:=by rw[vc]
theorem vw:vc C R [] fr hp=R fr hp:=by rw[vc]
def tH(c:PV)(A B:Prop):Prop:=match c with
 |.bool t=>(t=true->A)/\(t=false->B)
 |_=>False
theorem DM{sk:List It}{c:aP}{x y:SC}:vc C R (.c (.cond c x y)::sk) fr hp=tH (ev fr c) (vc C R (.c x::sk) fr hp) (vc C R (.c y::sk) fr hp):=by rw[vc];rfl
def vD(C:Ctx)(R:Qg)(sk:Option (List It))(fr:Fr)(hp:HP):Prop:=match sk with
 |some sk=>vc C R sk fr hp
 |none=>False
theorem DN{sk:List It}{id:Nat}:vc C R (.c (.exit id)::sk) fr hp=vD C R (FW.cu id sk) fr hp:=by
 rw[vc];unfold vD;split
 ·rename_i h;rw[h]
 ·rename_i h;rw[h]
theorem u7{sk:List It}{x:SC}:vc C R (.c (.loop x)::sk) fr hp=∃(I:Qg)(μ:Fr->HP->Nat),(∃bG aF,Wk fr hp bG aF/\I bG aF)/\∀fr hp,I fr hp->vc C R (.c x:: .el (fun az an=>∃bG aF,Wk az an bG aF/\I bG aF/\μ bG aF<μ fr hp)::sk) fr hp:=by rw[vc]
theorem Wk.refl(fr:Fr)(hp:HP):Wk fr hp fr hp:=fun _ _ _ h=>h
theorem Wk.trans{LQ mX Ep:Fr}{iZ fh sI:HP}(h:Wk LQ iZ mX fh)(k:Wk mX fh Ep sI):Wk LQ iZ Ep sI:=fun C t w hs=>k C t w (h C t w hs)
def xL(I:Qg)(μ:Fr->HP->Nat)(n:Nat):Qg:=fun az an=>∃bG aF,Wk az an bG aF/\I bG aF/\μ bG aF<n
theorem acq{sk:List It}{x:SC}(I:Qg)(μ:Fr->HP->Nat){bG:Fr}{aF:HP}(hw:Wk fr hp bG aF)(h0:I bG aF)(h:∀fr hp,I fr hp->vc C R (.c x:: .el (xL I μ (μ fr hp))::sk) fr hp):vc C R (.c (.loop x)::sk) fr hp:=by rw[u7];exact⟨I,μ,⟨bG,aF,hw,h0⟩,h⟩
theorem ZE{s:SC}(h:s.strip= .skip):s= .skip:=by cases s<;>simp[SC.strip]at h⊢
theorem Q95{s:SC}(h:s.strip= .ret):s= .ret:=by cases s<;>simp[SC.strip]at h⊢
theorem ZF{s:SC}{id:Nat}(h:s.strip= .exit id):s= .exit id:=by cases s<;>simp[SC.strip]at h ⊢;exact h
theorem Q96{s:SC}{id:Nat}{ops:Array Oper}(h:s.strip= .raw id ops):s= .raw id ops:=by cases s<;>simp[SC.strip]at h ⊢;exact h
theorem Q97{s a b:SC}(h:s.strip= .seq a b):∃a' b',s= .seq a' b'/\a'.strip=a/\b'.strip=b:=by cases s<;>simp[SC.strip]at h;exact⟨_,_,rfl,h.1,h.2⟩
theorem ZG{s a b:SC}{c:aP}(h:s.strip= .cond c a b):∃a' b',s= .cond c a' b'/\a'.strip=a/\b'.strip=b:=by
 cases s with
 |cond c' a' b'=>simp only[SC.strip,SC.cond.injEq]at h;obtain⟨rfl,h1,h2⟩:=h;exact⟨a',b',rfl,h1,h2⟩
 |_=>simp[SC.strip]at h
theorem Yu{s a:SC}{id:Nat}(h:s.strip= .block id a):∃a',s= .block id a'/\a'.strip=a:=by
 cases s with
 |block c' a'=>simp only[SC.strip,SC.block.injEq]at h;obtain⟨rfl,h1⟩:=h;exact⟨a',rfl,h1⟩
 |_=>simp[SC.strip]at h
theorem ZH{s a:SC}(h:s.strip= .loop a):∃a',s= .loop a'/\a'.strip=a:=by
 cases s with
 |loop a'=>simp only[SC.strip,SC.loop.injEq]at h;exact⟨a',rfl,h⟩
 |_=>simp[SC.strip]at h
theorem Sk(hm:C.P.follows .mixedOrders=true):∀(c:Code)(s:SC)(sk:List It)(Q:Exit->Act->World->Prop)(fr:Fr)(hp:HP)(a:Act)(w:World),
  fI C.P C.N c=some s.strip->NG C R sk Q->a.defers=[]->fa C fr hp a.tmps w->vc C R (.c s::sk) fr hp->c.wp C.P Q a w:=by
 intro c;induction c with
 |skip=>intro s sk Q fr hp a w hc hL hd hs hv;simp only[fI,KaB]at hc;obtain rfl:=ZE hc.symm;rw[DL]at hv;exact wp_skip (hL.ny fr hp a w hd hs hv)
 | region id ops draw=>
  intro s sk Q fr hp a w hc hL hd hs hv;simp only[fI]at hc;split at hc
  ·rename_i s' en;rw[hc]at en;exact XX hm hL.ny en hd hs hv
  ·split at hc
   ·rename_i uh;obtain rfl:=Q96 (KcZ hc).symm;have anr:draw=true:=uh;subst anr;rw[vc]at hv;obtain⟨tmps,defers⟩:=a;simp only at hd hs;subst hd;exact hv tmps w Q hs (fun az an B2 w' en oA=>hL.ny az an _ w' rfl en oA)
   ·cases hc
 |seq x y kK wD=>
  intro s sk Q fr hp a w hc hL hd hs hv;simp only[fI,Kab,Kaa]at hc;obtain⟨sx,hx,sy,hy,he⟩:=hc;obtain⟨sx,sy,rfl,rfl,rfl⟩:=Q97 he.symm;rw[DY]at hv;refine wp_seq (kK sx (.c sy::sk) _ fr hp a w hx ⟨fun fr hp a w hd hs hv=>?_,fun id eO he fr hp a w hd hs hv=>?_,fun fr hp a w hd hs hv=>?_⟩ hd hs hv)
  ·exact wD sy sk Q fr hp a w hy hL hd hs hv
  ·exact hL.ext id eO (by simpa[FW.cu]using he) fr hp a w hd hs hv
  ·exact hL.ret fr hp a w hd hs hv
 | cond c x y kK wD=>
  intro s sk Q fr hp a w hc hL hd hs hv;simp only[fI,Kab,Kaa]at hc;obtain⟨pc,fY,sx,hx,sy,hy,he⟩:=hc;obtain⟨sx,sy,rfl,rfl,rfl⟩:=ZG he.symm;rw[DM]at hv;obtain⟨ρ,qh⟩:=hs;have hr:=cG qh fY;unfold tH at hv;split at hv
  ·rename_i t ht;rw[ht]at hr;exact wp_cond_split hr.ye (fun h=>kK sx sk Q fr hp a w hx hL hd ⟨ρ,qh⟩ (hv.1 h)) (fun h=>wD sy sk Q fr hp a w hy hL hd ⟨ρ,qh⟩ (hv.2 h))
  ·exact hv.elim
 | block id x kK=>
  intro s sk Q fr hp a w hc hL hd hs hv;simp only[fI,Kaa]at hc;obtain⟨sx,hx,he⟩:=hc;obtain⟨sx,rfl,rfl⟩:=Yu he.symm;rw[Dq]at hv;refine wp_block (kK sx (.eb id::sk) _ fr hp a w hx ⟨fun fr hp a w hd hs hv=>?_,fun WS eO he fr hp a w hd hs hv=>?_,fun fr hp a w hd hs hv=>?_⟩ hd hs hv)
  ·rw[B7]at hv;exact hL.ny fr hp a w hd hs hv
  ·simp only[FW.cu]at he;simp only[Exit.inBlock];by_cases hi:id=WS
   ·subst hi;simp only[if_true]at he ⊢;cases he;exact hL.ny fr hp a w hd hs hv
   ·rw[if_neg hi]at he;rw[if_neg (fun e=>hi e.symm)];exact hL.ext WS eO he fr hp a w hd hs hv
  ·exact hL.ret fr hp a w hd hs hv
 | loop x kK=>
  intro s sk Q fr hp a w hc hL hd hs hv;simp only[fI,Kaa]at hc;obtain⟨sx,hx,he⟩:=hc;obtain⟨sx,rfl,rfl⟩:=ZH he.symm;rw[u7]at hv;obtain⟨I,μ,⟨bG,aF,hwk,h0⟩,aoA⟩:=hv;have key:∀(n:Nat)(fr:Fr)(hp:HP)(a:Act)(w:World),μ fr hp<n->I fr hp->a.defers=[]->fa C fr hp a.tmps w->Code.rounds C.P x Q n a w:=by
   intro n;induction n with
   |zero=>intro _ _ _ _ h;omega
   | succ n ih=>
    intro fr hp a w ar hI hd hs;rw[rounds_succ];refine kK sx _ _ fr hp a w hx ⟨fun az an a' w' vZ en oA=>?_,fun id eO he fr hp a w hd hs hv=>?_,fun fr hp a w hd hs hv=>?_⟩ hd hs (aoA fr hp hI)
    ·rw[vC]at oA;obtain⟨mX,fh,hw2,LX,we⟩:=oA;exact ih mX fh a' w' (by omega) LX vZ (hw2 _ _ _ en)
    ·exact hL.ext id eO (by simpa[FW.cu]using he) fr hp a w hd hs hv
    ·exact hL.ret fr hp a w hd hs hv
  exact wp_loop_rounds (μ bG aF+1) (key _ bG aF a w (Kdc _) h0 hd (hwk _ _ _ hs))
 | exit id=>
  intro s sk Q fr hp a w hc hL hd hs hv;simp only[fI,KaB]at hc;obtain rfl:=ZF hc.symm;rw[DN]at hv;unfold vD at hv;split at hv
  ·rename_i eO he;exact wp_exit (hL.ext id eO he fr hp a w hd hs hv)
  ·exact hv.elim
 |ret=>intro s sk Q fr hp a w hc hL hd hs hv;simp only[fI,KaB]at hc;obtain rfl:=Q95 hc.symm;rw[DZ]at hv;exact wp_ret (hL.ret fr hp a w hd hs hv)
 |_=>intro s sk Q fr hp a w hc;simp[fI]at hc
theorem GM(hm:C.P.follows .mixedOrders=true)(c:Code)(s:SC)(sk:List It)(Q:Exit->Act->World->Prop)(fr:Fr)(hp:HP)(a:Act)(w:World)
  (hc:fI C.P C.N c=some s) (hL:NG C R sk Q) (hd:a.defers=[]) (hs:fa C fr hp a.tmps w) (hv:vc C R (.c s::sk) fr hp):c.wp C.P Q a w:=
 Sk hm c s sk Q fr hp a w (by rw[XE _ _ hc];exact hc) hL hd hs hv
def PV.me:PV->PV->Prop
 |.aa,.sl _ []=>True
 |p,q=>p=q
def PV.BL:List PV->List PV->Prop
 | [],[]=>True
 |p::ps,q::qs=>PV.me p q/\PV.BL ps qs
 |_,_=>False
def PV.le:PV->PV->Prop
 |.agg ps,.agg qs=>PV.BL ps qs
 |p,q=>PV.me p q
def PV.Fz:List PV->List PV->Prop
 | [],[]=>True
 |p::ps,q::qs=>PV.le p q/\PV.Fz ps qs
 |_,_=>False
def PV.yQ:PV->PV->Prop
 |.aw ps,.aw qs=>PV.Fz ps qs
 |p,q=>PV.le p q
theorem zU(p:PV):PV.me p p:=by cases p<;>first|rfl|(unfold PV.me;split<;>trivial)
theorem Og:∀(l:List PV),PV.BL l l
 | []=>trivial
 |p::ps=>⟨zU p,Og ps⟩
theorem Qx(p:PV):PV.le p p:=by cases p<;>first|exact Og _|(simp only[PV.le];exact zU _)
theorem Qu.le{X:Nat->Prop}{p q:PV}{v:Value}(h:Qu w X p v)(hl:PV.me p q):Qu w X q v:=by
 unfold PV.me at hl;split at hl
 ·cases h;exact .gK _ _ _ (Kbx _)
 ·subst hl;exact h
theorem Pj:∀(ps qs:List PV),PV.BL ps qs->qs.length=ps.length/\∀(i:Nat)(q:PV),qs[i]? =some q->∃p,ps[i]? =some p/\PV.me p q
 | [],[],_=>⟨rfl,by simp⟩
 | [],_::_,h=>h.elim
 |_::_,[],h=>h.elim
 |p::ps,q::qs,h=>by
  obtain⟨h1,h2⟩:=Pj ps qs h.2;refine⟨by simp[h1],fun i x hx=>?_⟩;cases i with
  |zero=>simp at hx;subst hx;exact⟨p,rfl,h.1⟩
  |succ i=>simp at hx;simpa using h2 i x hx
theorem H8:∀(ps qs:List PV),PV.Fz ps qs->qs.length=ps.length/\∀(i:Nat)(q:PV),qs[i]? =some q->∃p,ps[i]? =some p/\PV.le p q
 | [],[],_=>⟨rfl,by simp⟩
 | [],_::_,h=>h.elim
 |_::_,[],h=>h.elim
 |p::ps,q::qs,h=>by
  obtain⟨h1,h2⟩:=H8 ps qs h.2;refine⟨by simp[h1],fun i x hx=>?_⟩;cases i with
  |zero=>simp at hx;subst hx;exact⟨p,rfl,h.1⟩
  |succ i=>simp at hx;simpa using h2 i x hx
theorem a9.le{X:Nat->Prop}{p q:PV}{v:Value}(h:a9 w X p v)(hl:PV.le p q):a9 w X q v:=by
 by_cases hp:∃ps,p= .agg ps
 ·obtain⟨ps,rfl⟩:=hp;by_cases hq:∃qs,q= .agg qs
  ·obtain⟨qs,rfl⟩:=hq;obtain⟨h1,h2⟩:=Pj ps qs hl;obtain⟨vs,rfl,g1,g2⟩:=h;refine⟨vs,rfl,by omega,fun i x hx=>?_⟩;obtain⟨p,hp,hle⟩:=h2 i x hx;exact(g2 i p hp).le hle
  ·have:PV.me (.agg ps) q:=by cases q<;>first|exact hl|exact absurd ⟨_,rfl⟩ hq
   have:q= .agg ps:=by
    unfold PV.me at this;split at this
    ·rename_i h1;cases h1
    ·exact this.symm
   exact absurd ⟨_,this⟩ hq
 ·have h1:Qu w X p v:=by cases p<;>first|exact h|exact absurd ⟨_,rfl⟩ hp
  have h2:PV.me p q:=by cases p<;>first|exact hl|exact absurd ⟨_,rfl⟩ hp
  exact a9.qu (h1.le h2)
theorem dF.le{X:Nat->Prop}{p q:PV}{v:Value}(h:dF w X p v)(hl:PV.yQ p q):dF w X q v:=by
 by_cases hp:∃ps,p= .aw ps
 ·obtain⟨ps,rfl⟩:=hp;by_cases hq:∃qs,q= .aw qs
  ·obtain⟨qs,rfl⟩:=hq;obtain⟨h1,h2⟩:=H8 ps qs hl;obtain⟨vs,rfl,g1,g2⟩:=h;refine⟨vs,rfl,by omega,fun i x hx=>?_⟩;obtain⟨p,hp,hle⟩:=h2 i x hx;exact(g2 i p hp).le hle
  ·have:PV.le (.aw ps) q:=by cases q<;>first|exact hl|exact absurd ⟨_,rfl⟩ hq
   have:PV.me (.aw ps) q:=this;have:q= .aw ps:=by
    unfold PV.me at this;split at this
    ·rename_i h1;cases h1
    ·exact this.symm
   exact absurd ⟨_,this⟩ hq
 ·have h1:a9 w X p v:=by cases p<;>first|exact h|exact absurd ⟨_,rfl⟩ hp
  have h2:PV.le p q:=by cases p<;>first|exact hl|exact absurd ⟨_,rfl⟩ hp
  exact dF.WX (h1.le h2)
def oO (P : Program) (f : FuncId) : Prop := (P.funcs[f]?).any (fun fn => fn.body.isSome && fn.name != "runtime.NumGoroutine") = true
def Qc(P:Program)(f:FuncId)(args:List PV)(R:PV->Prop):Prop:=
 oO P f/\∀(w:World)(X:Nat->Prop)(bn:Array Value),(∀b,X b->b<w.heap.size)->bn.size=args.length->(∀(i:Nat)(x:PV),args[i]? =some x->a9 w X x (bn.getD i undef))->
  Calls P f bn w fun e w'=>∃v r,e= .returned v/\Ext bS w w'/\dF w' X r v/\R r
theorem Qc.mono{P:Program}{f:FuncId}{args:List PV}{R R':PV->Prop}(h:Qc P f args R)(hr:∀r,R r->R' r):Qc P f args R':=
 ⟨h.1,fun w X bn h1 h2 h3=>(h.2 w X bn h1 h2 h3).mono fun _ _ ⟨v,r,e1,e2,e3,e4⟩=>⟨v,r,e1,e2,e3,hr r e4⟩⟩
theorem Qc.le{P:Program}{f:FuncId}{args args':List PV}{R:PV->Prop}(h:Qc P f args R)(hl:PV.Fz args' args):Qc P f args' R:=by obtain⟨h1,h2⟩:=H8 _ _ hl;refine⟨h.1,fun w X bn g1 g2 g3=>h.2 w X bn g1 (by omega) (fun i x hx=>?_)⟩;obtain⟨p,hp,hle⟩:=h2 i x hx;exact(g3 i p hp).le hle
def jS(args:List PV):Fr:=fun i=>(args[i]?).getD .undef
def ko(fr:Fr)(hp:HP):RV->Prop
 |.t s=>(aK hp (fr s)).aE=true
 |.cell s n ag=>match fr s with
  |.mp β i o=>match hp β with
   |some hb=>i<hb.xs.length/\o+n<=hb.e/\(ag=false->n=1)
   |none=>False
  |_=>False
def jL(fr:Fr)(hp:HP):RV->PV
 |.t s=>aK hp (fr s)
 |.cell s n ag=>match fr s with
  |.mp β i o=>match hp β with
   |some hb=>eM ag n o ((hb.xs[i]?).getD .undef)
   |none=>.undef
  |_=>.undef
def fV(rs:List RV)(R:PV->Prop):Qg:=fun fr hp=>match rs with
 | [r]=>ko fr hp r/\∃p,PV.le (jL fr hp r) p/\R p
 |rs=>(∀r∈rs,ko fr hp r)/\∃p,PV.yQ (.aw (rs.map (jL fr hp))) p/\R p
def r8(tmps:Array Value):ResultVar->Sem Value
 |.tmp t=>pure (tmps.getD t undef)
 |.cell x t=>do loadVar t (<-asAddr (tmps.getD x undef))
def lr(fr:Fr):RV->List Nat
 |.t s=>(fr s).refs
 |.cell _ _ _=>[]
theorem Oh{l l':List Nat}(h:∀β∈l,β∈l'){b:Nat}(hx:aH C ρ (cf hp l') b):aH C ρ (cf hp l) b:=by
 rcases hx with hx|⟨γ,hg,h1,h2,h3⟩
 ·exact .inl hx
 ·obtain⟨im,g1,_,_,_,g5,g6⟩:=zf h1;refine .inr ⟨γ,im,?_,by rw[<-g5 h2];exact h2,h3⟩;have hn:γ ∉ l:=fun hl=>g6 h2 (h γ hl);unfold cf;rw[if_neg (by simpa using hn)];exact g1
theorem ZI:cf hp []=hp:=by funext β;simp[cf]
theorem ZJ{p:PV}(h:(aK hp p).aE=true):∀β∈p.refs,bK β=false:=by
 have h1:∀q:PV,(cF hp q).gZ=true->∀β∈q.bP,bK β=false:=by
  intro q hq β al;cases q with
  |mp γ i o=>simp only[PV.bP,KaO]at al;subst al;cases hy:bK β with
   |false=>rfl
   |true=>simp[cF,hy,PV.gZ]at hq
  |ay γ o n=>simp only[PV.bP,KaO]at al;subst al;cases hy:bK β with
   |false=>rfl
   |true=>simp[cF,hy,PV.gZ]at hq
  |rb=>simp[cF,PV.gZ]at hq
  |_=>cases al
 intro β al;cases p with
 |mp γ i o=>exact h1 (.mp γ i o) (by cases hq:cF hp (.mp γ i o)<;>simp_all[aK,PV.aE,PV.gZ]) β al
 |ay γ o n=>exact h1 (.ay γ o n) (by cases hq:cF hp (.ay γ o n)<;>simp_all[aK,PV.aE,PV.gZ]) β al
 |rb=>simp[aK,cF,PV.aE]at h
 |fn f first cap=>
  simp only[aK,PV.aE,Kat,List.all_map,Kay]at h;rcases KaV.1 al with al|al
  ·obtain⟨x,hx,al⟩:=Kaq.1 al;exact h1 x (h.1 x hx) β al
  ·obtain⟨x,hx,al⟩:=Kaq.1 al;exact h1 x (h.2 x hx) β al
 |_=>cases al
theorem ajS{rv:RV}(h:ko fr hp rv):∀β∈lr fr rv,bK β=false:=by
 cases rv with
 |t s=>exact ZJ h
 |cell=>intro β al;cases al
theorem acr{P:Program}(hP:C.P=P){r:ResultVar}{rv:RV}(hc:mz P r=some rv)(h:aI C ρ fr hp a.tmps w)(ho:ko fr hp rv):
  ∃v,(r8 a.tmps r).run P w= .ok v w/\a9 w (aH C ρ (cf hp (lr fr rv))) (jL fr hp rv) v:=by
 subst hP;cases r with
 |tmp t=>simp[mz]at hc;subst hc;exact⟨_,rfl,qF h (h.eZ t) (fun β al=>al) ho⟩
 | cell x t=>
  simp only[mz,Kab,Kaa]at hc;obtain⟨n,hn,ag,jX,rfl⟩:=hc;have hx:=h.eZ x;simp only[ko]at ho;split at ho
  ·rename_i β i o oX;rw[oX]at hx;split at ho
   ·rename_i hb al;obtain⟨h1,h2,h3⟩:=ho;obtain⟨b,fb,g1,g2,g3⟩:=hx.yR;rw[al]at g2;cases g2;have bm:=h.own β hb al;have bb:=bm.dV;rw[g1]at bb;obtain⟨_,ll,cur,cap,c1,c2,c3,c4,c5⟩:=bb;have gJ:=Kam h1;have ff:=(bm.len i _ gJ).1;have dR:i<cap:=by omega
    have m9:∀j,j<n->i*hb.e+o+j<cur.size:=fun j hj=>by rw[c2];exact nO dR h2 hj
    have bo:=Cw (P:=C.P) (t:=t) (b:=b) (off:=i*hb.e+o) (vs:=Array.ofFn (n:=n) fun j=>cur.getD (i*hb.e+o+j.val) undef) hn jX h3 (by simp) w
     (fun j hj=>by rw[tc (f:=fun j=>cur.getD (i*hb.e+o+j) undef) hj];exact lG c1 (m9 j hj))
    obtain⟨V,hV⟩:∃V:Value,V=(if ag then .agg (Array.ofFn (n:=n) fun j=>cur.getD (i*hb.e+o+j.val) undef)else(Array.ofFn (n:=n) fun j=>cur.getD (i*hb.e+o+j.val) undef).getD 0 undef):=⟨_,rfl⟩
    rw[<-hV]at bo;refine⟨V,?_,?_⟩
    ·simp only[r8,g3,asAddr,Kao,Ka0,Kaj];exact bo
    ·have:a9 w (aH C ρ hp) (eM ag n o (hb.xs[i]'h1)) (if ag then .agg (Array.ofFn (n:=n) fun j=>cur.getD (i*hb.e+o+j.val) undef)else(Array.ofFn (n:=n) fun j=>cur.getD (i*hb.e+o+j.val) undef).getD 0 undef):=
      z' (by simp) (by rw[ff];exact h2) h3 (fun j y hj hy=>by rw[tc (f:=fun j=>cur.getD (i*hb.e+o+j) undef) hj,Kcg];exact c5 i _ gJ (o+j) y hy)
     simp only[jL,oX,al,gJ,KbT];rw[hV];simp only[lr,ZI];exact this
   ·exact ho.elim
  ·exact ho.elim
theorem Uf{P:Program}(hP:C.P=P)(h:aI C ρ fr hp a.tmps w):∀(rl:List ResultVar)(rs:List RV),rl.mapM (mz P)=some rs->(∀r∈rs,ko fr hp r)->
  ∃vs:List Value,vs.length=rs.length/\(rl.mapM (r8 a.tmps)).run P w= .ok vs w/\∀(i:Nat)(r:RV),rs[i]? =some r->∃v,vs[i]? =some v/\a9 w (aH C ρ (cf hp (rs.flatMap (lr fr)))) (jL fr hp r) v
 | [],rs,hc,_=>by simp at hc;subst hc;exact⟨[],rfl,by simp,by simp⟩
 | x::rl,rs,hc,ho=>by
  rw[KcS]at hc;simp only[Kcy,KcX,Kab,KaB]at hc;obtain⟨r,hr,Xb,ft,rfl⟩:=hc;obtain⟨v,h1,h2⟩:=acr hP hr h (ho r (by simp));obtain⟨vs,g1,g2,g3⟩:=Uf hP h rl Xb ft (fun q hq=>ho q (by simp[hq]));refine⟨v::vs,by simp[g1],by simp[KcS,Kao,h1,g2],fun i q hq=>?_⟩;cases i with
  |zero=>simp at hq;subst hq;exact⟨v,rfl,h2.mono (fun _ _ _=>rfl) (fun _ _ hn hx=>hn (Oh (fun β al=>by rw[Kau];exact KcR _ al) hx)) (Kac _)⟩
  |succ i=>simp at hq;obtain⟨v',k1,k2⟩:=g3 i q hq;exact⟨v',by simpa using k1,k2.mono (fun _ _ _=>rfl) (fun _ _ hn hx=>hn (Oh (fun β al=>by rw[Kau];exact KbG _ al) hx)) (Kac _)⟩
theorem SI{P:Program}(hP:C.P=P){fn:Func}{rs:List RV}{Rr:PV->Prop}(hc:fn.results.toList.mapM (mz P)=some rs)(h:aI C ρ fr hp a.tmps w)(hr:fV rs Rr fr hp):
  ∃v r,(results fn a.tmps).run P w= .ok v w/\dF w (aH C ρ (cf hp (rs.flatMap (lr fr)))) r v/\(∀β∈rs.flatMap (lr fr),bK β=false)/\Rr r:=by
 have cw:(∀r∈rs,ko fr hp r):=by
  intro r fP
  match rs,hr,fP with
  | [r0],hr,fP=>simp at fP;subst fP;exact hr.1
  | [],hr,fP=>cases fP
  |r0::r1::rest,hr,fP=>exact hr.1 r fP
 have hN:∀β∈rs.flatMap (lr fr),bK β=false:=fun β al=>by obtain⟨r,hr,al⟩:=Kaq.1 al;exact ajS (cw r hr) β al
 obtain⟨vs,hlen,bo,yK⟩:=Uf hP h _ rs hc cw;have dw:(results fn a.tmps).run P w= .ok (if h:vs.toArray.size=1 then vs.toArray[0]else .tuple vs.toArray) w:=by
  have e:results fn a.tmps=(do let vs<-fn.results.mapM (r8 a.tmps);pure (if h:vs.size=1 then vs[0]else .tuple vs)):=rfl;rw[e,Kb6];simp only[Kao];have h2:(List.toArray<$>fn.results.toList.mapM (r8 a.tmps):Sem (Array Value)).run P w= .ok vs.toArray w:=by simp[bo]
  rw[h2];rfl
 match rs,hr,hlen,yK,hN with
 | [r0],hr,hlen,yK,hN=>
  have h1:vs.toArray.size=1:=by simpa using hlen
  rw[dif_pos h1]at dw;obtain⟨v,h2,h3⟩:=yK 0 r0 rfl;have e:vs.toArray[0]=v:=by
   have:vs[0]? =some (vs.toArray[0]):=by simp[hlen]
   rw[h2]at this;exact(KcZ this).symm
  rw[e]at dw;obtain⟨_,p,hle,AR⟩:=hr;exact⟨_,_,dw,dF.WX (h3.le hle),hN,AR⟩
 | [],hr,hlen,yK,hN=>
  have h1:¬vs.toArray.size=1:=by simp[hlen]
  rw[dif_neg h1]at dw;obtain⟨_,p,hle,AR⟩:=hr;exact⟨_,_,dw,dF.le (p:=.aw []) ⟨vs.toArray,rfl,by simp[hlen],by simp⟩ hle,hN,AR⟩
 |r0::r1::rest,hr,hlen,yK,hN=>
  have h1:¬vs.toArray.size=1:=by simp[hlen]
  rw[dif_neg h1]at dw;obtain⟨_,p,hle,AR⟩:=hr;refine⟨_,_,dw,dF.le (p:=.aw ((r0::r1::rest).map (jL fr hp))) ⟨vs.toArray,rfl,by simp[hlen],fun i x hx=>?_⟩ hle,hN,AR⟩;simp only[Kax,Kaa]at hx;obtain⟨rv,hrv,rfl⟩:=hx;obtain⟨v,h2,h3⟩:=yK i rv hrv;rw[uW,Kap,h2];exact h3
theorem Ug{P:Program}(hP:C.P=P){fn:Func}{rs:List RV}{Rr:PV->Prop}(hc:fn.results.toList.mapM (mz P)=some rs)(h:aI C ρ fr hp a.tmps w)(hr:fV rs Rr fr hp):
  ∃v r,(results fn a.tmps).run P w= .ok v w/\dF w C.X0 r v/\Rr r:=by
 obtain⟨v,r,h1,h2,_,h3⟩:=SI hP hc h hr;exact⟨v,r,h1,h2.mono (fun _ _ _=>rfl) (fun _ _ hn hx=>hn (.inl hx)) (Kac _),h3⟩
theorem ZK{P:Program}(hP:C.P=P){fn:Func}{rs:List RV}{Rr:PV->Prop}(hc:fn.results.toList.mapM (mz P)=some rs)(h:aI C ρ fr hp a.tmps w)(hr:fV rs Rr fr hp)
  {X:Nat->Prop} (hX:∀c,X c->C.X0 c∨∃β hb,bK β=true/\hp β=some hb/\hb.fz=false/\ρ β=some c):
  ∃v r,(results fn a.tmps).run P w= .ok v w/\dF w X r v/\Rr r:=by
 obtain⟨v,r,h1,h2,h3,h4⟩:=SI hP hc h hr;refine⟨v,r,h1,h2.mono (fun _ _ _=>rfl) (fun c _ hn hx=>hn ?_) (Kac _),h4⟩;rcases hX c hx with hx|⟨β,hb,k1,k2,k3,k4⟩
 ·exact .inl hx
 ·refine .inr ⟨β,hb,?_,k3,k4⟩;have hn:β ∉ rs.flatMap (lr fr):=fun hl=>by rw[h3 β hl]at k1;cases k1
  unfold cf;rw[if_neg (by simpa using hn)];exact k2
theorem Qf {P : Program} {f : FuncId} {fn : Func} {sf : aA} {args : List PV} {Rr : PV -> Prop} (hm : P.follows .mixedOrders = true) (hf : P.funcs[f]? = some fn) (sF : (fn.name != "runtime.NumGoroutine") = true) (hc : Qe P fn = some sf) (hn : args.length <= sf.n /\ sf.n <= 1000000)
  (hv:∀C:Ctx,C.P=P->vc C (fV sf.rs Rr) [.c sf.body] (jS args) aF):Qc P f args Rr:=by
 simp only[Qe,Kab,Kaa]at hc;obtain⟨c,hb,sb,iF,rs,ft,rfl⟩:=hc;refine⟨by simp[oO,hf,hb];simpa using sF,fun w X bn hX fR cN=>?_⟩
 let C:Ctx:=Ctx.plain P fn.ntmps w X hX hn.2
 refine calls_of_wp hf hb ?_;have wz:(bn++Array.replicate (fn.ntmps-bn.size) undef).size=fn.ntmps:=by simp at hn ⊢;omega
 have qg:fa C (jS args) aF (bn++Array.replicate (fn.ntmps-bn.size) undef) w:=by
  refine⟨fun _=>none,wz,Ext.refl _ _,(fun _ _ h=>by cases h),by simp[aF],by simp[aF],fun i=>?_⟩;unfold jS;cases hi:args[i]? with
  |none=>trivial
  | some p=>
   simp only[KbT];have dp:i<bn.size:=by rw[fR];exact(Kad.1 hi).1
   have hr:=cN i p hi;have e:(bn++Array.replicate (fn.ntmps-bn.size) undef).getD i undef=bn.getD i undef:=by rw[kT,if_pos dp]
   rw[e];refine Qt.lE (hr.mono (fun _ _ _=>rfl) (fun b _ hn hx=>?_) (Kac _));rcases hx with hx|⟨_,_,h1,_⟩
   ·exact hn hx
   ·simp[aF]at h1
 have fin:∀(fr:Fr)(hp:HP)(a:Act)(w':World),a.defers=[]->fa C fr hp a.tmps w'->fV rs Rr fr hp->
   a.defers=[]/\∃v,(results fn a.tmps).run P w'= .ok v w'/\∃v' r,Ending.returned v= .returned v'/\Ext bS w w'/\dF w' X r v'/\Rr r:=by
  intro fr hp a w' hd ⟨ρ,hs⟩ hr;obtain⟨v,r,h1,h2,h3⟩:=Ug (C:=C) rfl ft hs hr;exact⟨hd,v,h1,v,r,rfl,Ctx.Nl hs.ext,h2,h3⟩
 exact GM (C:=C) (R:=fV rs Rr) hm c sb [] _ (jS args) aF _ w iF ⟨fun fr hp a w' hd hs hv=>(by rw[vw]at hv;exact fin fr hp a w' hd hs hv),fun id eO he=>(by simp[FW.cu]at he),fin⟩ rfl qg (hv C rfl)
end Go.FW
namespace Go.FW
open Go
variable {C : Ctx} {ρ : Nat -> Option Nat} {fr : Fr} {hp : HP} {w : World} {a : Act} {K R : Qg}
def qO(fr:Fr)(d:Option Nat)(r:PV):Fr:=match d with|some d=>af fr d r|none=>fr
theorem Qt.Nk{p:PV}{v:Value}(h:dF w (aH C ρ hp) p v):Qt C ρ hp w p v:=by
 cases p with
 |aw ps=>exact h
 |_=>exact Qt.lE h
theorem Ea{tmps:Array Value}(h:aI C ρ fr hp tmps w):∀b,aH C ρ hp b->b<w.heap.size:=by
 rintro b (hx|⟨β,hb,h1,_,h3⟩)
 ·exact KaN (C.EI b hx) h.ext.size
 ·have:=(h.own β hb h1).dV;rw[h3]at this;exact this.2.1
theorem aI.FH{tmps:Array Value}{d:Option Nat}(h:aI C ρ fr hp tmps w){p:PV}{v:Value}(hv:Qt C ρ hp w p v)(hd:∀x,d=some x->x<C.N):aI C ρ (qO fr d p) hp (Xc tmps d v) w:=by
 cases d with
 |some d=>exact h.af hv (hd d rfl)
 |none=>exact h
theorem Oi{tmps:Array Value}{first cap args:List PV}{fv cv av:Array Value}(hs:aI C ρ fr hp tmps w)(h1:fv.size=first.length)(_h2:cv.size=cap.length)(h3:av.size=args.length)
  (sK:∀(i:Nat)(x:PV),first[i]? =some x->cW C ρ hp w x (fv.getD i undef)) (ox:∀(i:Nat)(x:PV),cap[i]? =some x->cW C ρ hp w x (cv.getD i undef)) (sL:∀(i:Nat)(x:PV),args[i]? =some x->Qt C ρ hp w x (av.getD i undef))
  (iU:((first++args++cap).map (aK hp)).all PV.aE=true):
  ∀(i:Nat)(x:PV),((first++args++cap).map (aK hp))[i]? =some x->a9 w (aH C ρ (cf hp ((first++args++cap).flatMap PV.refs))) x ((fv++av++cv).getD i undef):=by
 intro i x hx;rw[Kay]at iU;have jt:=iU x (Kai hx);simp only[Kax,Kaa]at hx;obtain⟨p,an,rfl⟩:=hx;have eC:=Kai an;have hl:∀β∈p.refs,β∈(first++args++cap).flatMap PV.refs:=fun β al=>Kaq.2 ⟨p,eC,al⟩;have Xh:∀ {p:PV} {v:Value},cW C ρ hp w p v->(aK hp p).aE=true->Qt C ρ hp w p v:=by
  intro p v hr hd;cases p with
  |undef=>trivial
  |mp=>exact hr
  |ay=>exact hr
  |rb=>exact hr
  |np=>exact hr
  |aM=>exact hr
  |_=>exact Qt.lE (a9.qu hr)
 rw[kT];rw[Ka1]at an;by_cases c1:i<(first++args).length
 ·rw[if_pos c1]at an;rw[if_pos (by simp only[Kcj,h1,h3];simpa using c1),kT];rw[Ka1]at an;by_cases c2:i<first.length
  ·rw[if_pos c2]at an;rw[if_pos (by omega)];exact qF hs (Xh (sK i p an) jt) hl jt
  ·rw[if_neg c2]at an;rw[if_neg (by omega),h1];exact qF hs (sL _ p an) hl jt
 ·rw[if_neg c1]at an;have fR:(fv++av).size=(first++args).length:=by simp[h1,h3]
  rw[if_neg (by omega),fR];exact qF hs (Xh (ox _ p an) jt) hl jt
theorem Uh{P:Program}(hP:C.P=P){g:FuncId}{first cap args di:List PV}{pr:Bool}{d:Option Nat}{Rr:PV->Prop}(h:Qc P g di Rr)(dQ:(first++args++cap).map (aK hp)=di)(iU:di.all PV.aE=true)
  (hK:∀r,Rr r->K (qO fr d r) (cf hp ((first++args++cap).flatMap PV.refs))):mJ C pr (.fn g first cap) args d fr hp K:=by
 subst hP;refine⟨h.1,fun ρ tmps w fv cv av sA hs h1 h2 h3 sK ox sL=>?_⟩;have hf:=hs.freeze ((first++args++cap).flatMap PV.refs);refine(h.2 w _ (fv++av++cv) (Ea hf) (by rw[<-dQ];simp[h1,h2,h3]) (by rw[<-dQ];exact Oi hs h1 h2 h3 sK ox sL (by rw[dQ];exact iU))).mono ?_;rintro e w' ⟨v,r,rfl,hx,hr,L8⟩;exact⟨v,_,_,rfl,⟨ρ,(hf.grow hx).FH (Qt.Nk hr) sA⟩,fun _=>hx,hK r L8⟩
theorem ig{P:Program}(hP:C.P=P){g:FuncId}{first cap args di:List PV}{pr:Bool}{d:Option Nat}{r:PV}(h:Qc P g di (· =r))(dQ:(first++args++cap).map (aK hp)=di)(iU:di.all PV.aE=true)
  (hK:K (qO fr d r) (cf hp ((first++args++cap).flatMap PV.refs))):mJ C pr (.fn g first cap) args d fr hp K:=
 Uh hP h dQ iU (fun _ hr=>hr▸hK)
def PV.M9:PV->Bool
 |.int .. | .bool _=>true
 |.aw ps=>ps.all fun p=>match p with| .int .. | .bool _=>true|_=>false
 |_=>false
theorem acs{X X':Nat->Prop}{p:PV}{v:Value}(hs:p.M9=true)(h:dF w X p v):dF w X' p v:=by
 have one:∀(p:PV)(v:Value),(match p with| .int .. | .bool _=>true|_=>false:Bool)=true->a9 w X p v->a9 w X' p v:=by
  intro p v hs h;cases p with
  |int k n=>cases h;exact Qu.int k n
  |bool b=>cases h;exact Qu.bool b
  |_=>cases hs
 cases p with
 |int k n=>exact one (.int k n) v rfl h
 |bool b=>exact one (.bool b) v rfl h
 |aw ps=>obtain⟨vs,rfl,h1,h2⟩:=h;simp only[PV.M9,Kay]at hs;exact⟨vs,rfl,h1,fun i x hx=>one x _ (hs x (Kai hx)) (h2 i x hx)⟩
 |_=>cases hs
def pK(C:Ctx)(R:Qg)(c:PV)(x y:SC)(sk:List It)(fr:Fr)(hp:HP):Prop:=tH c (vc C R (.c x::sk) fr hp) (vc C R (.c y::sk) fr hp)
def sh(C:Ctx)(R:Qg)(x y:RT)(sk:List It)(fr:Fr)(hp:HP):Prop:=vc C R (.o x::sk) fr hp/\vc C R (.o y::sk) fr hp
def iA(C:Ctx)(p:PV)(s:Nat)(want:Bool)(o:cB)(fr:Fr)(hp:HP)(K:Qg):Prop:=match p with
  |.bool t=>(t=want->bp C o (af fr s (.bool want)) hp K)/\(t=(!want)->jB o (af fr s (.bool !want)) hp K)
  |.aw []=>jB o fr hp K
  |_=>False
theorem Qb{p:Prop}[Decidable p]{x y:SC}{sk:List It}(h1:p->vc C R (.c x::sk) fr hp)(h2:¬p->vc C R (.c y::sk) fr hp):pK C R (.bool (decide p)) x y sk fr hp:=
 ⟨fun h=>h1 (of_decide_eq_true h),fun h=>h2 (of_decide_eq_false h)⟩
theorem zF{b:Bool}{x y:SC}{sk:List It}(h1:b=true->vc C R (.c x::sk) fr hp)(h2:b=false->vc C R (.c y::sk) fr hp):pK C R (.bool b) x y sk fr hp:=⟨h1,h2⟩
theorem ga{p:Prop}[Decidable p]{s:Nat}{o:cB}(h1:p->iA C (.bool true) s true o (af fr s (.bool true)) hp K)(h2:¬p->iA C (.bool false) s true o (af fr s (.bool false)) hp K):iA C (.bool (decide p)) s true o fr hp K:=by
 have hu:∀(b:Bool),af (af fr s (.bool b)) s (.bool b)=af fr s (.bool b):=fun b=>by funext i;unfold af;split<;>rfl
 refine⟨fun h=>?_,fun h=>?_⟩
 ·have:=(h1 (of_decide_eq_true h)).1 rfl
  rwa[hu]at this
 ·have:=(h2 (of_decide_eq_false h)).2 rfl
  rwa[show(!true)=false from rfl,hu]at this
theorem dI{p:Prop}[Decidable p]{s:Nat}{o:cB}(h1:p->iA C (.bool true) s false o (af fr s (.bool true)) hp K)(h2:¬p->iA C (.bool false) s false o (af fr s (.bool false)) hp K):iA C (.bool (decide p)) s false o fr hp K:=by
 have hu:∀(b:Bool),af (af fr s (.bool b)) s (.bool b)=af fr s (.bool b):=fun b=>by funext i;unfold af;split<;>rfl
 refine⟨fun h=>?_,fun h=>?_⟩
 ·have:=(h2 (of_decide_eq_false h)).1 rfl
  rwa[hu]at this
 ·have:=(h1 (of_decide_eq_true h)).2 rfl
  rwa[show(!false)=true from rfl,hu]at this
theorem wY{b want:Bool}{s:Nat}{o:cB}(h1:b=true->iA C (.bool true) s want o (af fr s (.bool true)) hp K)(h2:b=false->iA C (.bool false) s want o (af fr s (.bool false)) hp K):iA C (.bool b) s want o fr hp K:=by
 have:= @ga C fr hp K (b=true) _ s o;have e:b=decide (b=true):=by cases b<;>rfl
 rw[e];cases want with
 |true=>exact ga h1 (fun h=>h2 (by simpa using h))
 |false=>exact dI h1 (fun h=>h2 (by simpa using h))
theorem acu{sk:List It}{c:aP}{x y:SC}:vc C R (.c (.cond c x y)::sk) fr hp=pK C R (ev fr c) x y sk fr hp:=DM
theorem ag9{sk:List It}{x y:RT}:vc C R (.o (.br x y)::sk) fr hp=sh C R x y sk fr hp:=Rp
theorem aha{sk:List It}{o:cB}{r:RT}:vc C R (.o (.o none o r)::sk) fr hp=bp C o fr hp (vc C R (.o r::sk)):=Aw
theorem ahb{sk:List It}{s:Nat}{b:Bool}{o:cB}{r:RT}:vc C R (.o (.o (some (s,b)) o r)::sk) fr hp=iA C (fr s) s b o fr hp (vc C R (.o r::sk)):=Aw
theorem vcs:
  (∀(C:Ctx)(R:Qg)(sk:List It)(x y:SC)(fr:Fr)(hp:HP),vc C R (.c (.seq x y)::sk) fr hp=vc C R (.c x:: .c y::sk) fr hp)/\
  (∀(C:Ctx)(R:Qg)(sk:List It)(id:Nat)(x:SC)(fr:Fr)(hp:HP),vc C R (.c (.block id x)::sk) fr hp=vc C R (.c x:: .eb id::sk) fr hp)/\
  (∀(C:Ctx)(R:Qg)(sk:List It)(fr:Fr)(hp:HP),vc C R (.c .skip::sk) fr hp=vc C R sk fr hp)/\
  (∀(C:Ctx)(R:Qg)(sk:List It)(r:RT)(fr:Fr)(hp:HP),vc C R (.c (.rg r)::sk) fr hp=vc C R (.o r::sk) fr hp)/\
  (∀(C:Ctx)(R:Qg)(sk:List It)(id:Nat)(fr:Fr)(hp:HP),vc C R (.eb id::sk) fr hp=vc C R sk fr hp)/\
  (∀(C:Ctx)(R:Qg)(sk:List It)(J:Qg)(fr:Fr)(hp:HP),vc C R (.el J::sk) fr hp=J fr hp)/\
  (∀(C:Ctx)(R:Qg)(sk:List It)(fr:Fr)(hp:HP),vc C R (.c .ret::sk) fr hp=R fr hp)/\
  (∀(C:Ctx)(R:Qg)(fr:Fr)(hp:HP),vc C R [] fr hp=R fr hp)/\
  (∀(C:Ctx)(R:Qg)(sk:List It)(c:aP)(x y:SC)(fr:Fr)(hp:HP),vc C R (.c (.cond c x y)::sk) fr hp=pK C R (ev fr c) x y sk fr hp)/\
  (∀(C:Ctx)(R:Qg)(sk:List It)(id:Nat)(fr:Fr)(hp:HP),vc C R (.c (.exit id)::sk) fr hp=vD C R (FW.cu id sk) fr hp)/\
  (∀(C:Ctx)(R:Qg)(sk:List It)(fr:Fr)(hp:HP),vc C R (.o .nil::sk) fr hp=vc C R sk fr hp)/\
  (∀(C:Ctx)(R:Qg)(sk:List It)(o:cB)(r:RT)(fr:Fr)(hp:HP),vc C R (.o (.o none o r)::sk) fr hp=bp C o fr hp (vc C R (.o r::sk)))/\
  (∀(C:Ctx)(R:Qg)(sk:List It)(s:Nat)(b:Bool)(o:cB)(r:RT)(fr:Fr)(hp:HP),vc C R (.o (.o (some (s,b)) o r)::sk) fr hp=iA C (fr s) s b o fr hp (vc C R (.o r::sk)))/\
  (∀(C:Ctx)(R:Qg)(sk:List It)(x y:RT)(fr:Fr)(hp:HP),vc C R (.o (.br x y)::sk) fr hp=sh C R x y sk fr hp)/\
  (∀(C:Ctx)(R:Qg)(x y:SC)(sk:List It)(fr:Fr)(hp:HP),pK C R (.bool true) x y sk fr hp=vc C R (.c x::sk) fr hp)/\
  (∀(C:Ctx)(R:Qg)(x y:SC)(sk:List It)(fr:Fr)(hp:HP),pK C R (.bool false) x y sk fr hp=vc C R (.c y::sk) fr hp)/\
  (∀(C:Ctx)(R:Qg)(sk:List It)(fr:Fr)(hp:HP),vD C R (some sk) fr hp=vc C R sk fr hp)/\
  (∀(id:Nat)(s:SC)(sk:List It),FW.cu id (.c s::sk)=FW.cu id sk)/\
  (∀(id:Nat)(r:RT)(sk:List It),FW.cu id (.o r::sk)=FW.cu id sk)/\
  (∀(id:Nat)(J:Qg)(sk:List It),FW.cu id (.el J::sk)=FW.cu id sk)/\
  (∀(id i:Nat)(sk:List It),FW.cu id (.eb i::sk)=if i=id then some sk else FW.cu id sk)/\
  (∀(C:Ctx)(s:Nat)(o:cB)(fr:Fr)(hp:HP)(K:Qg),iA C (.bool true) s true o fr hp K=bp C o (af fr s (.bool true)) hp K)/\
  (∀(C:Ctx)(s:Nat)(o:cB)(fr:Fr)(hp:HP)(K:Qg),iA C (.bool false) s true o fr hp K=jB o (af fr s (.bool false)) hp K)/\
  (∀(C:Ctx)(s:Nat)(o:cB)(fr:Fr)(hp:HP)(K:Qg),iA C (.bool true) s false o fr hp K=jB o (af fr s (.bool true)) hp K)/\
  (∀(C:Ctx)(s:Nat)(o:cB)(fr:Fr)(hp:HP)(K:Qg),iA C (.bool false) s false o fr hp K=bp C o (af fr s (.bool false)) hp K)/\
  (∀(C:Ctx)(s:Nat)(b:Bool)(o:cB)(fr:Fr)(hp:HP)(K:Qg),iA C (.aw []) s b o fr hp K=jB o fr hp K):=by
 refine⟨fun _ _ _ _ _ _ _=>DY,fun _ _ _ _ _ _ _=>Dq,fun _ _ _ _ _=>DL,fun _ _ _ _ _ _=>F5,fun _ _ _ _ _ _=>B7,fun _ _ _ _ _ _=>vC,fun _ _ _ _ _=>DZ,fun _ _ _ _=>vw,fun _ _ _ _ _ _ _ _=>acu,
  fun _ _ _ _ _ _=>DN,fun _ _ _ _ _=>Ar,fun _ _ _ _ _ _ _=>aha,fun _ _ _ _ _ _ _ _ _=>ahb,fun _ _ _ _ _ _ _=>ag9,fun _ _ _ _ _ _ _=>?_,fun _ _ _ _ _ _ _=>?_,fun _ _ _ _ _=>rfl,fun _ _ _=>rfl,fun _ _ _=>rfl,fun _ _ _=>rfl,fun _ _ _=>rfl,?_,?_,?_,?_,fun _ _ _ _ _ _ _=>rfl⟩
 ·simp[pK,tH]
 ·simp[pK,tH]
 all_goals intros;simp[iA]
end Go.FW
namespace Go.FW
open Go
variable {C : Ctx} {fr : Fr} {hp : HP} {K R : Qg}
theorem vg{n:Int}(h1: -9223372036854775808<=n)(h2:n<=9223372036854775807):IntKind.i64.wrap n=n:=by rw[IntKind.wrap_i64];omega
theorem acY{n:Int}(h1: -2147483648<=n)(h2:n<=2147483647):IntKind.i32.wrap n=n:=by rw[IntKind.wrap_i32];omega
theorem rQ{n:Int}(h1:0<=n)(h2:n<=18446744073709551615):IntKind.u64.wrap n=n:=by rw[IntKind.wrap_u64];omega
theorem Di{n:Int}(h1:0<=n)(h2:n<=4294967295):IntKind.u32.wrap n=n:=by rw[IntKind.wrap_u32];omega
theorem acZ{n:Int}(h1:0<=n)(h2:n<=65535):IntKind.u16.wrap n=n:=by simp only[IntKind.wrap,IntKind.bits,IntKind.signed];simp;omega
theorem aem{n:Int}(h1:0<=n)(h2:n<=255):IntKind.u8.wrap n=n:=by rw[IntKind.wrap_u8];omega
theorem aen{x y:Int}(h:0<=x):x.tdiv y=x/y:=Int.tdiv_eq_ediv_of_nonneg h
theorem aeo{x y:Int}(h:0<=x):x.tmod y=x%y:=Int.tmod_eq_emod_of_nonneg h
def kn(hb:Option HB)(n:Nat)(ag:Bool)(i o:Nat)(d:Nat)(fr:Fr)(hp:HP)(K:Qg):Prop:=match hb with
 |some hb=>∃h:i<hb.xs.length,o+n<=hb.e/\(ag=false->n=1)/\K (af fr d (eM ag n o (hb.xs[i]'h))) hp
 |none=>False
def stM (hb:Option HB) (β:Nat) (n:Nat) (i o:Nat) (v:PV) (fr:Fr) (hp:HP) (K:Qg):Prop:=match hb with
  |some hb=>hb.fz=false/\v.aE=true/\v.cells.length=n/\∃h:i<hb.xs.length,o+n<=hb.e/\
        K fr (Qy hp β { hb with xs:=hb.xs.set i (if n=hb.e then v else rC (hb.xs[i]'h) o v) })
  |none=>False
def xP(R:PV->Prop)(p:PV):Prop:=p.aE=true/\∃q,PV.le p q/\R q
theorem Qd{p r:PV}(h:p=r)(hd:r.aE=true):xP (· =r) p:=by subst h;exact⟨hd,_,Qx _,rfl⟩
theorem nK{p r:PV}(h:PV.le p r)(hd:p.aE=true):xP (· =r) p:=⟨hd,_,h,rfl⟩
theorem Pk{e ty n:Nat}{ag fz:Bool}{o d:Nat}{x:PV}(h:o+n<=e)(ha:ag=false->n=1):kn (some ⟨e,ty,[x],fz⟩) n ag 0 o d fr hp K=K (af fr d (eM ag n o x)) hp:=by simp[kn,h];intro _;exact ha
theorem tF{e ty n i:Nat}{ag fz:Bool}{o d:Nat}{xs:List PV}(h:i<xs.length)(h1:o+n<=e)(ha:ag=false->n=1):kn (some ⟨e,ty,xs,fz⟩) n ag i o d fr hp K=K (af fr d (eM ag n o (xs[i]'h))) hp:=by simp[kn,h,h1];intro _;exact ha
theorem ahc{e ty n β i:Nat}{o:Nat}{xs:List PV}{v:PV}(h:i<xs.length)(hv:v.aE=true)(hl:v.cells.length=n)(h1:o+n<=e):stM (some ⟨e,ty,xs,false⟩) β n i o v fr hp K=K fr (Qy hp β ⟨e,ty,xs.set i (if n=e then v else rC (xs[i]'h) o v),false⟩):=by simp[stM,h,h1,hv,hl]
theorem C1{ty n β i:Nat}{xs:List PV}{v:PV}(h:i<xs.length)(hv:v.aE=true)(hl:v.cells.length=n):stM (some ⟨n,ty,xs,false⟩) β n i 0 v fr hp K=K fr (Qy hp β ⟨n,ty,xs.set i v,false⟩):=by rw[ahc h hv hl (by omega)];simp
theorem FR{e d:Nat}{k:IntKind}{m:Int}{xs:List PV}(h0:0<=m)(h:m<xs.length):dM e (.sl e xs) (.int k m) d fr hp K=K (af fr d (.pt (xs[m.toNat]'(by omega)).cells)) hp:=by
 have:m.toNat<xs.length:=by omega
 simp[dM,h0,this]
theorem xw{α:Type}{f:α->PV}{e d:Nat}{k:IntKind}{m:Int}{xs:List α}(h0:0<=m)(h:m<xs.length):dM e (.sl e (xs.map f)) (.int k m) d fr hp K=K (af fr d (.pt (f (xs[m.toNat]'(by omega))).cells)) hp:=by rw[FR h0 (by simpa using h)];simp
theorem Eb{e d β o n:Nat}{k:IntKind}{m:Int}(h0:0<=m)(h:m<n)(he:(hp β).map (·.e)=some e):dM e (.ay β o n) (.int k m) d fr hp K=K (af fr d (.mp β (o+m.toNat) 0)) hp:=by
 have:m.toNat<n:=by omega
 simp[dM,h0,this,he]
theorem B8{e by_ ty d:Nat}{z:PV}{k k':IntKind}{L Cc:Int}(h0:0<e)(hz:z.cells.length=e)(h1:0<=L)(h2:L<=Cc)(h3:by_*Cc<=281474976710656)(h4:Cc<=9223372036854775807):
  nv e by_ ty z (.int k L) (.int k' Cc) d fr hp K=K (af (cK d fr) d (.ms d L.toNat)) (Qy hp d ⟨e,ty,List.replicate L.toNat z,false⟩):=by
 simp[nv,h0,hz,h1,h2,h3,h4]
theorem ahL{n ty d β o m:Nat}(hB:bK β=true):fU n ty (.ay β o m) d fr hp K=K (af fr d (.rb β o m)) hp:=by simp[fU,hB]
theorem ajT{d β o m:Nat}:kP 1 false (.rb β o m) d fr hp K=K (af fr d (.ay β o m)) hp:=by simp[kP]
theorem CP{e by_ ty d:Nat}{x:PV}{ys:List PV}(hs:jA hp x=some (e,ys))(h0:0<e)(h1:ys.length*by_<=140737488355328)(h2:ys.length<=9223372036854775807):
  iO e by_ ty .aa x d fr hp K=K (af (cK d fr) d (.ms d ys.length)) (Qy hp d ⟨e,ty,ys,false⟩):=by
 simp[iO,hs,h0,h1,h2]
theorem GN{e by_ ty d β n:Nat}{x:PV}{ys xs:List PV}(hs:jA hp x=some (e,ys))(hb:hp β=some ⟨e,ty,xs,false⟩)(h0:0<e)(hn:n<=xs.length)(h1:(n+ys.length)*by_<=140737488355328)(h2:n+ys.length<=9223372036854775807)(hB:cd β=false:=by decide):
  iO e by_ ty (.ms β n) x d fr hp K=K (af (cK β fr) d (.ms β (n+ys.length))) (Qy hp β ⟨e,ty,xs.take n++ys,false⟩):=by
 simp[iO,hs,hb,h0,hn,h1,h2,hB]
theorem F7{e d:Nat}{xs:List PV}{lo hi:Option PV}{L H:Int}(h1:ix 0 lo=some L)(h2:ix xs.length hi=some H)(h3:0<=L)(h4:L<=H)(h5:H<=xs.length):
  iI e (.sl e xs) lo hi none d fr hp K=K (af fr d (.sl e ((xs.take H.toNat).drop L.toNat))) hp:=by
 have hM:ix (xs.length) none=some (xs.length:Int):=rfl;simp only[iI,h1,h2,hM];simp[h3,h4,h5]
theorem ajU{e d:Nat}{xs:List PV}{k:IntKind}{H:Int}(h4:0<=H)(h5:H<=xs.length):
  iI e (.sl e xs) none (some (.int k H)) none d fr hp K=K (af fr d (.sl e (xs.take H.toNat))) hp:=by
 rw[F7 (L:=0) (H:=H) rfl rfl (by omega) h4 h5];simp
theorem ajV{e d:Nat}{xs:List PV}{k:IntKind}{L:Int}(h4:0<=L)(h5:L<=xs.length):
  iI e (.sl e xs) (some (.int k L)) none none d fr hp K=K (af fr d (.sl e (xs.drop L.toNat))) hp:=by
 rw[F7 (L:=L) (H:=xs.length) rfl rfl h4 h5 (by omega)];simp
theorem apl:
  (∀(C:Ctx)(d:Nat)(x:aP)(fr:Fr)(hp:HP)(K:Qg),bp C (.mv d x) fr hp K=K (af fr d (ev fr x)) hp)/\
  (∀(C:Ctx)(d:Nat)(c a b:aP)(fr:Fr)(hp:HP)(K:Qg),bp C (.pick d c a b) fr hp K=rZ (ev fr c) (ev fr a) (ev fr b) d fr hp K)/\
  (∀(C:Ctx)(d:Nat)(op:BinOp)(bt:Bool)(a b:aP)(fr:Fr)(hp:HP)(K:Qg),bp C (.bin d op bt a b) fr hp K=cm op bt (ev fr a) (ev fr b) d fr hp K)/\
  (∀(C:Ctx)(d:Nat)(op:UnOp)(a:aP)(fr:Fr)(hp:HP)(K:Qg),bp C (.un d op a) fr hp K=uK op (ev fr a) d fr hp K)/\
  (∀(C:Ctx)(d:Nat)(k:IntKind)(a:aP)(fr:Fr)(hp:HP)(K:Qg),bp C (.conv d k a) fr hp K=vB k (ev fr a) d fr hp K)/\
  (∀(C:Ctx)(d:Nat)(a:aP)(fr:Fr)(hp:HP)(K:Qg),bp C (.len d a) fr hp K=oL (ev fr a) d fr hp K)/\
  (∀(C:Ctx)(d:Nat)(a b:aP)(fr:Fr)(hp:HP)(K:Qg),bp C (.mx d a b) fr hp K=wH (ev fr a) (ev fr b) d fr hp K)/\
  (∀(C:Ctx)(d:Nat)(a b:aP)(fr:Fr)(hp:HP)(K:Qg),bp C (.mn d a b) fr hp K=wG (ev fr a) (ev fr b) d fr hp K)/\
  (∀(C:Ctx)(d e:Nat)(a b:aP)(fr:Fr)(hp:HP)(K:Qg),bp C (.idx d e a b) fr hp K=dM e (ev fr a) (ev fr b) d fr hp K)/\
  (∀(C:Ctx)(d n e:Nat)(a b:aP)(fr:Fr)(hp:HP)(K:Qg),bp C (.BI d n e a b) fr hp K=qM n e (ev fr a) (ev fr b) d fr hp K)/\
  (∀(C:Ctx)(d n e:Nat)(ag:Bool)(a b:aP)(fr:Fr)(hp:HP)(K:Qg),bp C (.BJ d n e ag a b) fr hp K=xS n e ag (ev fr a) (ev fr b) d fr hp K)/\
  (∀(C:Ctx)(d off:Nat)(a:aP)(fr:Fr)(hp:HP)(K:Qg),bp C (.cE d off a) fr hp K=qS off (ev fr a) d fr hp K)/\
  (∀(C:Ctx)(d off n:Nat)(ag:Bool)(a:aP)(fr:Fr)(hp:HP)(K:Qg),bp C (.yj d off n ag a) fr hp K=qN off n ag (ev fr a) d fr hp K)/\
  (∀(C:Ctx)(d n:Nat)(ag:Bool)(a:aP)(fr:Fr)(hp:HP)(K:Qg),bp C (.ld d n ag a) fr hp K=kP n ag (ev fr a) d fr hp K)/\
  (∀(C:Ctx)(n:Nat)(a b:aP)(fr:Fr)(hp:HP)(K:Qg),bp C (.st n a b) fr hp K=o9 n (ev fr a) (ev fr b) fr hp K)/\
  (∀(C:Ctx)(d n ty:Nat)(a:aP)(fr:Fr)(hp:HP)(K:Qg),bp C (.box d n ty a) fr hp K=fU n ty (ev fr a) d fr hp K)/\
  (∀(C:Ctx)(d n ty:Nat)(z:PV)(fr:Fr)(hp:HP)(K:Qg),bp C (.alloc d n ty z) fr hp K=fU n ty z d fr hp K)/\
  (∀(C:Ctx)(d e by_ ty:Nat)(z:PV)(l c:aP)(fr:Fr)(hp:HP)(K:Qg),bp C (.mk d e by_ ty z l c) fr hp K=nv e by_ ty z (ev fr l) (ev fr c) d fr hp K)/\
  (∀(C:Ctx)(d e ty:Nat)(ps:List aP)(fr:Fr)(hp:HP)(K:Qg),bp C (.bs d e ty ps) fr hp K=oc e ty (ps.map (ev fr)) d fr hp K)/\
  (∀(C:Ctx)(d e by_ ty:Nat)(a b:aP)(fr:Fr)(hp:HP)(K:Qg),bp C (.app d e by_ ty a b) fr hp K=iO e by_ ty (ev fr a) (ev fr b) d fr hp K)/\
  (∀(C:Ctx)(d e:Nat)(a b:aP)(fr:Fr)(hp:HP)(K:Qg),bp C (.tX d e a b) fr hp K=tQ e (ev fr a) (ev fr b) d fr hp K)/\
  (∀(C:Ctx)(d e:Nat)(a:aP)(l h m:Option aP)(fr:Fr)(hp:HP)(K:Qg),bp C (.sl d e a l h m) fr hp K=iI e (ev fr a) (l.map (ev fr)) (h.map (ev fr)) (m.map (ev fr)) d fr hp K)/\
  (∀(C:Ctx)(d:Nat)(a:aP)(i:Nat)(fr:Fr)(hp:HP)(K:Qg),bp C (.ext d a i) fr hp K=kC (ev fr a) i d fr hp K)/\
  (∀(C:Ctx)(d:Nat)(z:List PV)(ps:List (Nat×Nat×aP))(fr:Fr)(hp:HP)(K:Qg),bp C (.bU d z ps) fr hp K=kD z (ps.map fun p=>(p.1,p.2.1,ev fr p.2.2)) d fr hp K)/\
  (∀(C:Ctx)(d f:Nat)(x y:List aP)(fr:Fr)(hp:HP)(K:Qg),bp C (.fn d f x y) fr hp K=((x.map (ev fr)++y.map (ev fr)).all PV.kM=true/\K (af fr d (.fn f (x.map (ev fr)) (y.map (ev fr)))) hp))/\
  (∀(C:Ctx)(d:Option Nat)(pr:Bool)(f:aP)(UI:List aP)(fr:Fr)(hp:HP)(K:Qg),bp C (.call d pr f UI) fr hp K=mJ C pr (ev fr f) (UI.map (ev fr)) d fr hp K)/\
  (∀(C:Ctx)(d:Option Nat)(x:aP)(fr:Fr)(hp:HP)(K:Qg),bp C (.BQ d x) fr hp K=Av (ev fr x) d fr hp K)/\
  (∀(fr:Fr)(n:Nat),ev fr (.t n)=fr n)/\(∀(fr:Fr)(p:PV),ev fr (.c p)=p):=by
 refine⟨?_,?_,?_,?_,?_,?_,?_,?_,?_,?_,?_,?_,?_,?_,?_,?_,?_,?_,?_,?_,?_,?_,?_,?_,?_,?_,?_,?_,?_⟩<;>intros<;>rfl
theorem apm:
  (∀(bt:Bool)(k:IntKind)(x y:Int)(d:Nat)(fr:Fr)(hp:HP)(K:Qg),cm .add bt (.int k x) (.int k y) d fr hp K=K (af fr d (.int k (k.wrap (x+y)))) hp)/\
  (∀(bt:Bool)(k:IntKind)(x y:Int)(d:Nat)(fr:Fr)(hp:HP)(K:Qg),cm .sub bt (.int k x) (.int k y) d fr hp K=K (af fr d (.int k (k.wrap (x-y)))) hp)/\
  (∀(bt:Bool)(k:IntKind)(x y:Int)(d:Nat)(fr:Fr)(hp:HP)(K:Qg),cm .mul bt (.int k x) (.int k y) d fr hp K=K (af fr d (.int k (k.wrap (x*y)))) hp)/\
  (∀(bt:Bool)(k:IntKind)(x y:Int)(d:Nat)(fr:Fr)(hp:HP)(K:Qg),cm .eql bt (.int k x) (.int k y) d fr hp K=K (af fr d (.bool (decide (x=y)))) hp)/\
  (∀(bt:Bool)(k:IntKind)(x y:Int)(d:Nat)(fr:Fr)(hp:HP)(K:Qg),cm .neq bt (.int k x) (.int k y) d fr hp K=K (af fr d (.bool (decide (¬x=y)))) hp)/\
  (∀(bt:Bool)(k:IntKind)(x y:Int)(d:Nat)(fr:Fr)(hp:HP)(K:Qg),cm .lss bt (.int k x) (.int k y) d fr hp K=K (af fr d (.bool (decide (x<y)))) hp)/\
  (∀(bt:Bool)(k:IntKind)(x y:Int)(d:Nat)(fr:Fr)(hp:HP)(K:Qg),cm .leq bt (.int k x) (.int k y) d fr hp K=K (af fr d (.bool (decide (x<=y)))) hp)/\
  (∀(bt:Bool)(k:IntKind)(x y:Int)(d:Nat)(fr:Fr)(hp:HP)(K:Qg),cm .gtr bt (.int k x) (.int k y) d fr hp K=K (af fr d (.bool (decide (y<x)))) hp)/\
  (∀(bt:Bool)(k:IntKind)(x y:Int)(d:Nat)(fr:Fr)(hp:HP)(K:Qg),cm .geq bt (.int k x) (.int k y) d fr hp K=K (af fr d (.bool (decide (y<=x)))) hp)/\
  (∀(x y:Bool)(d:Nat)(fr:Fr)(hp:HP)(K:Qg),cm .eql true (.bool x) (.bool y) d fr hp K=K (af fr d (.bool (x==y))) hp)/\
  (∀(x y:Bool)(d:Nat)(fr:Fr)(hp:HP)(K:Qg),cm .neq true (.bool x) (.bool y) d fr hp K=K (af fr d (.bool (!(x==y)))) hp)/\
  (∀(b:Bool)(d:Nat)(fr:Fr)(hp:HP)(K:Qg),uK .not (.bool b) d fr hp K=K (af fr d (.bool (!b))) hp)/\
  (∀(k:IntKind)(n:Int)(d:Nat)(fr:Fr)(hp:HP)(K:Qg),uK .neg (.int k n) d fr hp K=K (af fr d (.int k (k.wrap (0-n)))) hp)/\
  (∀(k k':IntKind)(n:Int)(d:Nat)(fr:Fr)(hp:HP)(K:Qg),vB k (.int k' n) d fr hp K=K (af fr d (.int k (k.wrap n))) hp)/\
  (∀(d:Nat)(fr:Fr)(hp:HP)(K:Qg),oL .aa d fr hp K=K (af fr d (.int .i64 0)) hp)/\
  (∀(e:Nat)(xs:List PV)(d:Nat)(fr:Fr)(hp:HP)(K:Qg),oL (.sl e xs) d fr hp K=K (af fr d (.int .i64 xs.length)) hp)/\
  (∀(β o n:Nat)(d:Nat)(fr:Fr)(hp:HP)(K:Qg),oL (.ay β o n) d fr hp K=K (af fr d (.int .i64 n)) hp)/\
  (∀(k k':IntKind)(x y:Int)(d:Nat)(fr:Fr)(hp:HP)(K:Qg),wH (.int k x) (.int k' y) d fr hp K=K (af fr d (.int k (max x y))) hp)/\
  (∀(k k':IntKind)(x y:Int)(d:Nat)(fr:Fr)(hp:HP)(K:Qg),wG (.int k x) (.int k' y) d fr hp K=K (af fr d (.int k (min x y))) hp)/\
  (∀(a b:PV)(d:Nat)(fr:Fr)(hp:HP)(K:Qg),rZ (.bool true) a b d fr hp K=K (af fr d a) hp)/\
  (∀(a b:PV)(d:Nat)(fr:Fr)(hp:HP)(K:Qg),rZ (.bool false) a b d fr hp K=K (af fr d b) hp)/\
  (∀(off β i o:Nat)(d:Nat)(fr:Fr)(hp:HP)(K:Qg),qS off (.mp β i o) d fr hp K=K (af fr d (.mp β i (o+off))) hp)/\
  (∀(n:Nat)(ag:Bool)(β i o:Nat)(d:Nat)(fr:Fr)(hp:HP)(K:Qg),kP n ag (.mp β i o) d fr hp K=kn (hp β) n ag i o d fr hp K)/\
  (∀(c:PV)(cs:List PV)(d:Nat)(fr:Fr)(hp:HP)(K:Qg),kP 1 false (.pt (c::cs)) d fr hp K=K (af fr d c) hp)/\
  (∀(n:Nat)(β i o:Nat)(v:PV)(fr:Fr)(hp:HP)(K:Qg),o9 n (.mp β i o) v fr hp K=stM (cf hp v.refs β) β n i o (aK hp v) fr (cf hp v.refs) K)/\
  (∀(ps:List PV)(p:PV)(d:Nat)(fr:Fr)(hp:HP)(K:Qg),kC (.aw (p::ps)) 0 d fr hp K=(p.aE=true/\K (af fr d p) hp))/\
  (∀(ps:List PV)(p q:PV)(d:Nat)(fr:Fr)(hp:HP)(K:Qg),kC (.aw (p::q::ps)) 1 d fr hp K=(q.aE=true/\K (af fr d q) hp))/\
  (∀(ps:List PV)(p q r:PV)(d:Nat)(fr:Fr)(hp:HP)(K:Qg),kC (.aw (p::q::r::ps)) 2 d fr hp K=(r.aE=true/\K (af fr d r) hp))/\
  (∀(s:Nat)(Rr:PV->Prop)(fr:Fr)(hp:HP),fV [.t s] Rr fr hp=xP Rr (aK hp (fr s)))/\
  (∀(e:Nat)(xs:List PV),jA aF (.sl e xs)=some (e,xs))/\
  (∀(hp:HP),cf hp []=hp)/\
  (∀(fr:Fr)(r:PV),qO fr none r=fr)/\(∀(fr:Fr)(d:Nat)(r:PV),qO fr (some d) r=af fr d r)/\
  (∀(β:Nat)(fr:Fr)(i:Nat),cK β fr i=bZ β (fr i)):=by
 refine⟨?_,?_,?_,?_,?_,?_,?_,?_,?_,?_,?_,?_,?_,?_,?_,?_,?_,?_,?_,?_,?_,?_,?_,?_,?_,?_,?_,?_,?_,?_,?_,?_,?_,?_⟩<;>intros
 all_goals first
  |rfl
  |(simp[cm,rZ,kC,kP,eM,PV.cells,o9,stM];done)
  |(simp[cm,rZ,kC,kP,eM,PV.cells,o9,stM];try rfl)
  |skip
end Go.FW
namespace Go.FW
open Go
variable {C : Ctx} {ρ : Nat -> Option Nat} {fr : Fr} {hp : HP} {w : World} {K R : Qg}
theorem P7(i β e ty:Nat)(he:0<e)(hi:fr i= .aa)(hB:cd β=false:=by decide):Wk fr hp (af (cK β fr) i (.ms β 0)) (Qy hp β ⟨e,ty,[],false⟩):=by
 rintro C tmps w ⟨ρ,hs⟩;have hr:=hs.rebind (w':=w) β none ⟨e,ty,[],false⟩ hB (Ext.refl _ _) (by simp) he (by simp) (by simp) (by simp);refine⟨_,hr.sz,hr.ext,hr.gY,hr.own,hr.inj,fun j=>?_⟩;unfold af;split
 ·rename_i hj;subst hj;have:=hs.eZ j;rw[hi]at this;have e:=Qt.wJ this;exact⟨_,by simp[Qy];rfl,by simp,.inl ⟨gM _ _ _,e,rfl,rfl⟩⟩
 ·exact hr.eZ j
end Go.FW
namespace Go.FW
open Go
variable {C : Ctx} {ρ : Nat -> Option Nat} {fr : Fr} {hp : HP} {w : World} {K R : Qg}
theorem aep(fr:Fr)(a:Nat)(v w:PV):af (af fr a v) a w=af fr a w:=by funext i;unfold af;split<;>rfl
theorem G9{α:Type}{f:α->PV}{e d:Nat}{xs:List α}{k:IntKind}{H:Int}(h4:0<=H)(h5:H<=xs.length):
  iI e (.sl e (xs.map f)) none (some (.int k H)) none d fr hp K=K (af fr d (.sl e ((xs.take H.toNat).map f))) hp:=by
 rw[ajU h4 (by simpa using h5)];simp
theorem Q99{α:Type}{f:α->PV}{e d:Nat}{xs:List α}{k:IntKind}{L:Int}(h4:0<=L)(h5:L<=xs.length):
  iI e (.sl e (xs.map f)) (some (.int k L)) none none d fr hp K=K (af fr d (.sl e ((xs.drop L.toNat).map f))) hp:=by
 rw[ajV h4 (by simpa using h5)];simp
theorem Yv{α:Type}{f:α->PV}{e d:Nat}{xs:List α}{k k':IntKind}{L H:Int}(h3:0<=L)(h4:L<=H)(h5:H<=xs.length):
  iI e (.sl e (xs.map f)) (some (.int k L)) (some (.int k' H)) none d fr hp K=K (af fr d (.sl e (((xs.take H.toNat).drop L.toNat).map f))) hp:=by
 rw[F7 (L:=L) (H:=H) rfl rfl h3 h4 (by simpa using h5)];simp
theorem aeq(hp:HP)(e:Nat)(xs:List PV):aK hp (.sl e xs)= .sl e xs:=rfl
theorem ac0(hp:HP)(k:IntKind)(n:Int):aK hp (.int k n)= .int k n:=rfl
theorem abd(hp:HP)(b:Bool):aK hp (.bool b)= .bool b:=rfl
theorem ac1(hp:HP)(cs:List PV):aK hp (.agg cs)= .agg cs:=rfl
theorem ac2(hp:HP):aK hp .aa= .aa:=rfl
theorem Pm(hp:HP)(β n:Nat)(e ty:Nat)(xs:List PV)(fz:Bool)(h:hp β=some ⟨e,ty,xs,fz⟩)(hB:cd β=false:=by decide):aK hp (.ms β n)= .sl e (xs.take n):=by simp[aK,cF,h,vu hB]
theorem aer(e:Nat)(xs:List PV):(PV.sl e xs).refs=[]:=rfl
theorem ac3(k:IntKind)(n:Int):(PV.int k n).refs=[]:=rfl
theorem abe(b:Bool):(PV.bool b).refs=[]:=rfl
theorem ac4(cs:List PV):(PV.agg cs).refs=[]:=rfl
theorem ac5:PV.aa.refs=[]:=rfl
theorem ac6(β e:Nat)(xs:List PV):bZ β (.sl e xs)= .sl e xs:=rfl
theorem abf(β:Nat)(k:IntKind)(n:Int):bZ β (.int k n)= .int k n:=rfl
theorem ZL(β:Nat)(b:Bool):bZ β (.bool b)= .bool b:=rfl
theorem abg(β:Nat)(cs:List PV):bZ β (.agg cs)= .agg cs:=rfl
theorem abh(β:Nat):bZ β .aa= .aa:=rfl
theorem NV(β γ o n:Nat):bZ β (.ay γ o n)=if γ=β then .undef else .ay γ o n:=by
 by_cases h:γ=β
 ·subst h;simp[bZ,PV.refs]
 ·simp[bZ,PV.refs,h];intro h';exact absurd h'.symm h
theorem ac7(β γ o n:Nat):bZ β (.rb γ o n)=if γ=β then .undef else .rb γ o n:=by
 by_cases h:γ=β
 ·subst h;simp[bZ,PV.refs]
 ·simp[bZ,PV.refs,h];intro h';exact absurd h'.symm h
theorem NW(β γ i o:Nat):bZ β (.mp γ i o)=if γ=β then .undef else .mp γ i o:=by
 by_cases h:γ=β
 ·subst h;simp[bZ,PV.refs]
 ·simp[bZ,PV.refs,h];intro h';exact absurd h'.symm h
theorem akv:
  (∀(fr:Fr)(a:Nat)(v:PV)(b:Nat),af fr a v b=if b=a then v else fr b)/\
  (∀(h:HP)(a:Nat)(v:HB)(b:Nat),Qy h a v b=if b=a then some v else h b)/\
  (∀(β:Nat),aF β=none)/\
  (∀(hp:HP)(e:Nat)(xs:List PV),aK hp (.sl e xs)= .sl e xs)/\
  (∀(hp:HP)(k:IntKind)(n:Int),aK hp (.int k n)= .int k n)/\
  (∀(hp:HP)(b:Bool),aK hp (.bool b)= .bool b)/\
  (∀(hp:HP)(cs:List PV),aK hp (.agg cs)= .agg cs)/\
  (∀(hp:HP),aK hp .aa= .aa)/\
  (∀(e:Nat)(xs:List PV),(PV.sl e xs).refs=[])/\
  (∀(k:IntKind)(n:Int),(PV.int k n).refs=[])/\
  (∀(b:Bool),(PV.bool b).refs=[])/\
  (∀(cs:List PV),(PV.agg cs).refs=[])/\
  (PV.aa.refs=[])/\
  (∀(β o n:Nat),(PV.ay β o n).refs=[β])/\
  (∀(β i o:Nat),(PV.mp β i o).refs=[β])/\
  (∀(β e:Nat)(xs:List PV),bZ β (.sl e xs)= .sl e xs)/\
  (∀(β:Nat)(k:IntKind)(n:Int),bZ β (.int k n)= .int k n)/\
  (∀(β:Nat)(b:Bool),bZ β (.bool b)= .bool b)/\
  (∀(β:Nat)(cs:List PV),bZ β (.agg cs)= .agg cs)/\
  (∀(β:Nat),bZ β .aa= .aa)/\
  (∀(β γ o n:Nat),bZ β (.ay γ o n)=if γ=β then .undef else .ay γ o n)/\
  (∀(β γ i o:Nat),bZ β (.mp γ i o)=if γ=β then .undef else .mp γ i o)/\
  (∀(β γ o n:Nat),bZ β (.rb γ o n)=if γ=β then .undef else .rb γ o n)/\
  (∀(β o n:Nat),(PV.rb β o n).refs=[β])/\
  (∀(o:cB)(fr:Fr)(hp:HP)(K:Qg),jB o fr hp K=match o.dst with|some d=>K (af fr d (.aw [])) hp|none=>K fr hp)/\
  (∀(f:aP->PV),Option.map f none=none)/\(∀(f:aP->PV)(x:aP),Option.map f (some x)=some (f x))/\
  (∀(k:IntKind)(n:Int),(PV.int k n).cells=[.int k n])/\
  (∀(b:Bool),(PV.bool b).cells=[.bool b])/\
  (∀(e:Nat)(xs:List PV),(PV.sl e xs).cells=[.sl e xs])/\
  (∀(cs:List PV),(PV.agg cs).cells=cs):=by
 refine⟨fun _ _ _ _=>rfl,fun _ _ _ _=>rfl,fun _=>rfl,aeq,ac0,abd,ac1,ac2,aer,ac3,abe,ac4,ac5,fun _ _ _=>rfl,fun _ _ _=>rfl,ac6,abf,ZL,abg,abh,NV,NW,ac7,fun _ _ _=>rfl,fun _ _ _ _=>rfl,fun _=>rfl,fun _ _=>rfl,fun _ _=>rfl,fun _=>rfl,fun _ _=>rfl,fun _=>rfl⟩
theorem akw{p:Nat->Prop}(h:∃m,p m):∃m,p m/\∀k,p k->m<=k:=by
 obtain⟨m,hm⟩:=h;induction m using Nat.strongRecOn with
 |ind m ih=>
  by_cases hk:∃k,k<m/\p k
  ·obtain⟨k,h1,h2⟩:=hk;exact ih k h1 h2
  ·exact⟨m,hm,fun k dY=>Nat.le_of_not_lt fun ar=>hk ⟨k,ar,dY⟩⟩
def xF(I:Nat->Qg)(n:Nat):Qg:=fun az an=>∃bG aF,Wk az an bG aF/\∃m,m<n/\I m bG aF
theorem nF{I:Nat->Qg}{n m:Nat}(hl:m<n)(h:I m fr hp):xF I n fr hp:=⟨fr,hp,Wk.refl _ _,m,hl,h⟩
theorem HN{I:Nat->Qg}{n m:Nat}{az:Fr}{an:HP}(hl:m<n)(hw:Wk fr hp az an)(h:I m az an):xF I n fr hp:=⟨az,an,hw,m,hl,h⟩
theorem zG{sk:List It}{x:SC}(I:Nat->Qg)(m0:Nat){bG:Fr}{aF:HP}(hw:Wk fr hp bG aF)(h0:I m0 bG aF)(h:∀m fr hp,I m fr hp->vc C R (.c x:: .el (xF I m)::sk) fr hp):vc C R (.c (.loop x)::sk) fr hp:=by
 refine acq (fun fr hp=>∃m,I m fr hp) (fun fr hp=>Classical.epsilon fun m=>I m fr hp/\∀k,I k fr hp->m<=k) hw ⟨m0,h0⟩ ?_;intro fr hp hI;have key:∀fr hp,(∃m,I m fr hp)->I (Classical.epsilon fun m=>I m fr hp/\∀k,I k fr hp->m<=k) fr hp/\∀k,I k fr hp->(Classical.epsilon fun m=>I m fr hp/\∀k,I k fr hp->m<=k)<=k:=fun fr hp hI=>Classical.epsilon_spec (akw hI);have e:xL (fun fr hp=>∃m,I m fr hp) (fun fr hp=>Classical.epsilon fun m=>I m fr hp/\∀k,I k fr hp->m<=k) (Classical.epsilon fun m=>I m fr hp/\∀k,I k fr hp->m<=k)=xF I (Classical.epsilon fun m=>I m fr hp/\∀k,I k fr hp->m<=k):=by
  funext az an;apply propext;constructor
  ·rintro⟨bG,aF,h1,h2,h3⟩;exact⟨bG,aF,h1,_,h3,(key bG aF h2).1⟩
  ·rintro⟨bG,aF,h1,m,h2,h3⟩;exact⟨bG,aF,h1,⟨m,h3⟩,KcF ((key bG aF ⟨m,h3⟩).2 m h3) h2⟩
 rw[e];exact h _ fr hp (key fr hp hI).1
theorem qG{sk:List It}{x:SC}(I:Nat->Qg)(m0:Nat)(h0:I m0 fr hp)(h:∀m fr hp,I m fr hp->vc C R (.c x:: .el (xF I m)::sk) fr hp):vc C R (.c (.loop x)::sk) fr hp:=
 zG I m0 (Wk.refl _ _) h0 h
theorem ahM{α:Type}{e:Nat}{f:α->PV}:PV.le .aa (.sl e (([]:List α).map f)):=trivial
theorem Qa{P:Program}(hP:C.P=P){g:FuncId}{first cap args di:List PV}{pr:Bool}{d:Option Nat}{r:PV}(h:Qc P g di (· =r))(dQ:(first++args++cap).map (aK hp)=di)(iU:di.all PV.aE=true)(hr:(first++args++cap).flatMap PV.refs=[])
  (hK:K (qO fr d r) hp):mJ C pr (.fn g first cap) args d fr hp K:=by
 refine ig hP h dQ iU ?_;rw[hr];exact hK
theorem rF{P:Program}(hP:C.P=P){g:FuncId}{first cap args di:List PV}{pr:Bool}{d:Option Nat}{Rr:PV->Prop}(h:Qc P g di Rr)(dQ:(first++args++cap).map (aK hp)=di)(iU:di.all PV.aE=true)(hr:(first++args++cap).flatMap PV.refs=[])
  (hK:∀r,Rr r->K (qO fr d r) hp):mJ C pr (.fn g first cap) args d fr hp K:=by
 refine Uh hP h dQ iU fun r h=>?_;rw[hr];exact hK r h
theorem aes{d β n ty:Nat}{xs ys:List PV}(hb:hp β=some ⟨1,ty,xs,false⟩)(hn:n=xs.length):
  tQ 1 (.ms β n) (.sl 1 ys) d fr hp K=K (af fr d (.int .i64 (min (ys.length:Int) n))) (Qy hp β ⟨1,ty,ys.take n++xs.drop ys.length,false⟩):=by
 simp[tQ,jA,hb,hn]
theorem P'{by_ ty d:Nat}{kz k k':IntKind}{nz:Int}{L Cc:Int}(h1:0<=L)(h2:L<=Cc)(h3:by_*Cc<=281474976710656)(h4:Cc<=9223372036854775807):
  nv 1 by_ ty (.int kz nz) (.int k L) (.int k' Cc) d fr hp K=K (af (cK d fr) d (.ms d L.toNat)) (Qy hp d ⟨1,ty,List.replicate L.toNat (.int kz nz),false⟩):=by
 exact B8 (e:=1) (by omega) rfl h1 h2 h3 h4
theorem QA{ty β i:Nat}{xs:List PV}{k:IntKind}{n:Int}(h:i<xs.length):stM (some ⟨1,ty,xs,false⟩) β 1 i 0 (.int k n) fr hp K=K fr (Qy hp β ⟨1,ty,xs.set i (.int k n),false⟩):=
 C1 h rfl rfl
theorem abi(h:HP)(a:Nat)(v w:HB):Qy (Qy h a v) a w=Qy h a w:=by funext i;unfold Qy;split<;>rfl
theorem ahN{ty d:Nat}{k:IntKind}{n:Int}:oc 1 ty [.int k n] d fr hp K=K (af (cK d fr) d (.ms d 1)) (Qy hp d ⟨1,ty,[.int k n],false⟩):=by simp[oc,oM,lL,Em,Ij,aK,cF,PV.refs,PV.aE,PV.cells];rfl
theorem DO{β n e ty:Nat}{xs:List PV}{fz:Bool}{r:PV}(hb:hp β=some ⟨e,ty,xs,fz⟩)(h:PV.sl e (xs.take n)=r)(hB:cd β=false:=by decide):xP (· =r) (aK hp (.ms β n)):=by rw[Pm hp β n e ty xs fz hb hB];exact Qd h (by rw[<-h];rfl)
theorem HO{e by_ ty ty' d β γ n:Nat}{xs:List PV}{y:PV}{fz:Bool}(hb:hp β=some ⟨e,ty,xs,false⟩)(hy:hp γ=some ⟨e,ty',[y],fz⟩)(h0:0<e)(hn:n=xs.length)(h1:(n+1)*by_<=140737488355328)(h2:n+1<=9223372036854775807)(hB:cd β=false:=by decide):
  iO e by_ ty (.ms β n) (.ms γ 1) d fr hp K=K (af (cK β fr) d (.ms β (n+1))) (Qy hp β ⟨e,ty,xs++[y],false⟩):=by
 subst hn;rw[GN (ys:=[y]) (xs:=xs) (by simp[jA,hy]) hb h0 (Kac _) (by simpa using h1) (by simpa using h2) hB];simp
theorem RK(n:Nat):IntKind.u16.wrap (n:Int)=((n%65536:Nat):Int):=by simp only[IntKind.wrap,IntKind.bits,IntKind.signed];simp
theorem FO{bt:Bool}{k k':IntKind}{x y:Int}{d:Nat}(h:0<=y):cm .shr bt (.int k x) (.int k' y) d fr hp K=K (af fr d (.int k (x.fdiv (2^(min y.toNat k.bits))))) hp:=by simp[cm,h]
theorem Ui{bt:Bool}{k':IntKind}{n d:Nat}:cm .shr bt (.int .u64 (n:Int)) (.int k' 16) d fr hp K=K (af fr d (.int .u64 ((n/65536:Nat):Int))) hp:=by
 rw[FO (by omega)];have:min (16:Int).toNat IntKind.u64.bits=16:=by decide
 rw[this,KcP _ (by omega)];simp
theorem abj{bt:Bool}{k':IntKind}{n d:Nat}:cm .shr bt (.int .u32 (n:Int)) (.int k' 16) d fr hp K=K (af fr d (.int .u32 ((n/65536:Nat):Int))) hp:=by
 rw[FO (by omega)];have:min (16:Int).toNat IntKind.u32.bits=16:=by decide
 rw[this,KcP _ (by omega)];simp
end Go.FW
namespace Go.FW
def val:List Nat->Nat
 | []=>0
 |x::xs=>x+65536*val xs
def Qq(l:List Nat):Prop:=∀x∈l,x<65536
def ah(n:Nat):List Nat:=if h:n=0 then []else n%65536::ah (n/65536)
termination_by n
decreasing_by omega
def nl(n:Nat):Nat:=(ah n).length
theorem nH:Qq []:=by simp[Qq]
theorem ia{x:Nat}{l:List Nat}:Qq (x::l)↔x<65536/\Qq l:=by simp[Qq]
theorem nD{l m:List Nat}:Qq (l++m)↔Qq l/\Qq m:=by
 simp only[Qq,KaV];constructor
 ·intro h;exact⟨fun x hx=>h x (.inl hx),fun x hx=>h x (.inr hx)⟩
 ·rintro⟨h1,h2⟩ x (hx|hx)
  ·exact h1 x hx
  ·exact h2 x hx
theorem wZ{l:List Nat}(h:Qq l)(n:Nat):Qq (l.take n):=fun x hx=>h x (Kbc hx)
theorem zw{l:List Nat}(h:Qq l)(n:Nat):Qq (l.drop n):=fun x hx=>h x (Kbw hx)
theorem eF{l:List Nat}(h:Qq l){i:Nat}(hi:i<l.length):l[i]<65536:=h _ (Kag hi)
theorem fH:ah 0=[]:=by rw[ah];simp
theorem tD{n:Nat}(h:n≠0):ah n=n%65536::ah (n/65536):=by rw[ah];simp[h]
theorem Qp(n:Nat):Qq (ah n):=by
 induction n using ah.induct with
 |case1=>rw[fH];exact nH
 |case2 n h ih=>rw[tD h,ia];exact⟨by omega,ih⟩
theorem Q7(n:Nat):val (ah n)=n:=by
 induction n using ah.induct with
 |case1=>rw[fH];rfl
 |case2 n h ih=>rw[tD h,val,ih];omega
theorem kq{n:Nat}:ah n=[]↔n=0:=by
 constructor
 ·intro h;have:=Q7 n;rw[h]at this;exact this.symm
 ·rintro rfl;exact fH
theorem xx:nl 0=0:=by simp[nl,fH]
theorem w7{n:Nat}:nl n=0↔n=0:=by rw[nl,Kas,kq]
theorem ahO{n:Nat}(h:n≠0):nl n=nl (n/65536)+1:=by simp[nl,tD h]
theorem mA(l m:List Nat):val (l++m)=val l+65536^l.length*val m:=by
 induction l with
 |nil=>simp[val]
 |cons x l ih=>simp only[KaP,val,ih,KaW,KbA];rw[Ka2,<-Nat.mul_assoc,KaS 65536 (65536^_)];omega
theorem oI{l:List Nat}(h:Qq l):val l<65536^l.length:=by
 induction l with
 |nil=>simp[val]
 |cons x l ih=>rw[ia]at h;have:=ih h.2;simp only[val,KaW,KbA];omega
theorem Uj(n:Nat):val (List.replicate n 0)=0:=by
 induction n with
 |zero=>rfl
 |succ n ih=>simp[Kbq,val,ih]
theorem Ac{l:List Nat}(h:Qq l)(hl:l.getLast? ≠some 0):ah (val l)=l:=by
 induction l with
 |nil=>simp[val,fH]
 | cons x l ih=>
  rw[ia]at h;have VR:l.getLast? ≠some 0:=by intro hh;apply hl;rw[KcG,hh];rfl
  have aO:val (x::l)≠0:=by
   simp only[val];intro h0;have h1:val l=0:=by omega
   have:=ih h.2 VR;rw[h1,fH]at this;subst this;simp at hl;omega
  rw[tD aO];simp only[val];rw[show(x+65536*val l)%65536=x by omega,show(x+65536*val l)/65536=val l by omega,ih h.2 VR]
theorem zV(n:Nat):(ah n).getLast? ≠some 0:=by
 induction n using ah.induct with
 |case1=>simp[fH]
 | case2 n h ih=>
  rw[tD h,KcG];cases hd:(ah (n/65536)).getLast? with
  |none=>
   have:n/65536=0:=by rw[List.getLast?_eq_none_iff,kq]at hd;exact hd
   simp;omega
  |some y=>rw[hd]at ih;simpa using ih
def cut(l:List Nat):Nat->List Nat
 |0=>[]
 |n+1=>if l[n]? =some 0 then cut l n else l.take (n+1)
theorem QB{l:List Nat}(h:Qq l):∀n,n<=l.length->cut l n=ah (val (l.take n))
 |0,_=>by simp[cut,val,fH]
 | n+1,hn=>by
  have e:l.take (n+1)=l.take n++[l[n]]:=by rw[Kah (by omega)]
  unfold cut;split
  ·rename_i hz;rw[QB h n (by omega),e,mA];rw[Kam (by omega)]at hz;have sQ:l[n]=0:=by simpa using hz
   simp[val,sQ]
  ·rename_i hz;rw[Ac (wZ h _)];rw[e,List.getLast?_concat];intro h0;apply hz;rw[Kam (by omega)];exact h0
theorem Ad{l:List Nat}(h:Qq l):cut l l.length=ah (val l):=by rw[QB h _ (Kac _),Kar]
theorem ck{l:List Nat}(h:Qq l):nl (val l)<=l.length:=by
 rw[nl,<-Ad h];have:∀n,(cut l n).length<=n:=by
  intro n;induction n with
  |zero=>simp[cut]
  |succ n ih=>
   unfold cut;split
   ·omega
   ·simp;omega
 have h1:=this l.length;exact h1
theorem mK{n k:Nat}:nl n<=k↔n<65536^k:=by
 induction k generalizing n with
 |zero=>simp[w7]
 | succ k ih=>
  by_cases h:n=0
  ·subst h;simp[xx];exact KbN (by omega)
  ·rw[ahO h,Nat.add_le_add_iff_right,ih,KbA,Kbn (by omega)]
theorem fJ{m n:Nat}(h:m<=n):nl m<=nl n:=mK.2 (KcF h (mK.1 (Kac _)))
theorem vz(m n:Nat):nl (m+n)<=max (nl m) (nl n)+1:=by rw[mK,KbA];have h1:m<65536^(max (nl m) (nl n)):=mK.1 (by omega);have h2:n<65536^(max (nl m) (nl n)):=mK.1 (by omega);omega
theorem gL(m n:Nat):nl (m*n)<=nl m+nl n:=by rw[mK,Nat.pow_add];exact Nat.mul_lt_mul'' (mK.1 (Kac _)) (mK.1 (Kac _))
theorem rN{n:Nat}(h:n<18446744073709551616):nl n<=4:=mK.2 (by simpa using h)
theorem C2{n:Nat}:nl n<=4↔n<18446744073709551616:=by rw[mK]
theorem rT:ah 1=[1]:=by rw[tD (by omega)];simp[fH]
open Go
variable {C : Ctx} {ρ : Nat -> Option Nat} {fr : Fr} {hp : HP} {w : World} {K R : Qg}
abbrev cn(l:List Nat):List PV:=l.map fun(x:Nat)=>.int .u16 x
abbrev iP(l:List Int):List PV:=l.map fun(x:Int)=>.int .i64 x
theorem ahP(a b:Nat):(a:Int)+(b:Int)=((a+b:Nat):Int):=rfl
theorem aeT(a:Nat):(a:Int)+1=((a+1:Nat):Int):=rfl
theorem aeU(a:Nat):(a:Int)+2=((a+2:Nat):Int):=rfl
theorem aeV(a:Nat):(a:Int)+3=((a+3:Nat):Int):=rfl
theorem ahQ(a b:Nat):(a:Int)*(b:Int)=((a*b:Nat):Int):=rfl
theorem aeW{α:Type}{f:α->PV}{e d:Nat}{k:IntKind}{i:Nat}{xs:List α}(h:i<xs.length):
  dM e (.sl e (xs.map f)) (.int k (i:Int)) d fr hp K=K (af fr d (.pt (f (xs[i]'h)).cells)) hp:=by
 rw[xw (by omega) (by omega)];rfl
theorem aeX{e d β o n i:Nat}{k:IntKind}(h:i<n)(he:(hp β).map (·.e)=some e):dM e (.ay β o n) (.int k (i:Int)) d fr hp K=K (af fr d (.mp β (o+i) 0)) hp:=by rw[Eb (by omega) (by omega) he];rfl
theorem ahR{α:Type}{f:α->PV}{e d:Nat}{xs:List α}{k:IntKind}{n:Nat}(h5:n<=xs.length):
  iI e (.sl e (xs.map f)) none (some (.int k (n:Int))) none d fr hp K=K (af fr d (.sl e ((xs.take n).map f))) hp:=by
 rw[G9 (by omega) (by omega)];rfl
theorem ahS{α:Type}{f:α->PV}{e d:Nat}{xs:List α}{k:IntKind}{n:Nat}(h5:n<=xs.length):
  iI e (.sl e (xs.map f)) (some (.int k (n:Int))) none none d fr hp K=K (af fr d (.sl e ((xs.drop n).map f))) hp:=by
 rw[Q99 (by omega) (by omega)];rfl
theorem ac8{α:Type}{f:α->PV}{e d:Nat}{xs:List α}{k k':IntKind}{m n:Nat}(h4:m<=n)(h5:n<=xs.length):
  iI e (.sl e (xs.map f)) (some (.int k (m:Int))) (some (.int k' (n:Int))) none d fr hp K=K (af fr d (.sl e (((xs.take n).drop m).map f))) hp:=by
 rw[Yv (by omega) (by omega) (by omega)];rfl
theorem ahT{by_ ty d:Nat}{k k':IntKind}{n c:Nat}(h2:n<=c)(h3:by_*c<=281474976710656)(h4:c<=9223372036854775807):
  nv 1 by_ ty (.int .u16 0) (.int k (n:Int)) (.int k' (c:Int)) d fr hp K=K (af (cK d fr) d (.ms d n)) (Qy hp d ⟨1,ty,cn (List.replicate n 0),false⟩):=by
 rw[P' (by omega) (by omega) (by omega) (by omega)];simp[cn]
theorem ahU{ty i d:Nat}{fz:Bool}{l:List Nat}(h:i<l.length):kn (some ⟨1,ty,cn l,fz⟩) 1 false i 0 d fr hp K=K (af fr d (.int .u16 (l[i]'h:Nat))) hp:=by rw[tF (by simpa using h) (by omega) (by simp)];simp[eM,PV.cells]
theorem ahV{ty i d:Nat}{fz:Bool}{l:List Int}(h:i<l.length):kn (some ⟨1,ty,iP l,fz⟩) 1 false i 0 d fr hp K=K (af fr d (.int .i64 (l[i]'h))) hp:=by rw[tF (by simpa using h) (by omega) (by simp)];simp[eM,PV.cells]
theorem QC{ty β i v:Nat}{l:List Nat}(h:i<l.length):stM (some ⟨1,ty,cn l,false⟩) β 1 i 0 (.int .u16 (v:Int)) fr hp K=K fr (Qy hp β ⟨1,ty,cn (l.set i v),false⟩):=by rw[QA (by simpa using h)];simp[cn,Kc9]
theorem QD{ty β i:Nat}{v:Int}{l:List Int}(h:i<l.length):stM (some ⟨1,ty,iP l,false⟩) β 1 i 0 (.int .i64 v) fr hp K=K fr (Qy hp β ⟨1,ty,iP (l.set i v),false⟩):=by rw[QA (by simpa using h)];simp[iP,Kc9]
theorem ac9{β n ty:Nat}{l:List Nat}{fz:Bool}(h:hp β=some ⟨1,ty,cn l,fz⟩)(hn:n=l.length)(hB:cd β=false:=by decide):aK hp (.ms β n)= .sl 1 (cn l):=by rw[Pm hp β n _ _ _ _ h hB,Kae (by simp[hn])]
theorem vd{P:Program}(hP:C.P=P){g:FuncId}{first cap args di:List PV}{pr:Bool}{d:Option Nat}{r:PV}(h:Qc P g di (· =r))(dQ:(first++args++cap).map (aK hp)=di)(iU:di.all PV.aE=true)
  (hK:∀an,K (qO fr d r) an):mJ C pr (.fn g first cap) args d fr hp K:=ig hP h dQ iU (hK _)
end Go.FW
namespace Go.FW
def gR(x y:Nat):Int:=if x<y then -1 else if y<x then 1 else 0
theorem H9{x y:Nat}(h:x<y):gR x y= -1:=by simp[gR,h]
theorem Ia{x y:Nat}(h:y<x):gR x y=1:=by simp[gR,h];omega
theorem Pn{x y:Nat}(h:x=y):gR x y=0:=by simp[gR,h]
theorem NX{x y:Nat}(h:nl x<nl y):x<y:=by
 rcases Kc7 x y with h1|h1
 ·exact h1
 ·have:=fJ h1;omega
theorem pz(l:List Nat)(k:Nat)(hk:k<=l.length):val l=val (l.take k)+65536^k*val (l.drop k):=by have:=mA (l.take k) (l.drop k);rw[Kbo,KaF,KbZ hk]at this;exact this
theorem s8{l:List Nat}(h:Qq l)(k:Nat)(hk:k<=l.length):val (l.take k)<65536^k:=by
 have:=oI (wZ h k)
 rwa[KaF,KbZ hk]at this
theorem lK{l:List Nat}{k:Nat}(hk:k<l.length):val (l.drop k)=l[k]+65536*val (l.drop (k+1)):=by rw[Kaz hk,val]
theorem Yw{a b:List Nat}(ha:Qq a){k:Nat}(Fb:k<=a.length)(Bg:k<=b.length)(h:val (a.drop k)<val (b.drop k)):val a<val b:=by rw[pz a k Fb,pz b k Bg];have h1:=s8 ha k Fb;have h2:65536^k*(val (a.drop k)+1)<=65536^k*val (b.drop k):=Ka7 _ h;rw[Ka2]at h2;omega
theorem Uk{a b:List Nat}(ha:Qq a){k:Nat}(Fb:k<a.length)(Bg:k<b.length)(h:a[k]<b[k])(he:val (a.drop (k+1))=val (b.drop (k+1))):val a<val b:=by refine Yw ha (k:=k) (by omega) (by omega) ?_;rw[lK Fb,lK Bg,he];omega
def ji:List Nat->List Nat->Nat->List Nat
 | [],_,c=>if c=0 then []else [c]
 |x::xs,ys,c=>(c+x+ys.headD 0)%65536::ji xs ys.tail ((c+x+ys.headD 0)/65536)
theorem zH(l:List Nat):val l=l.headD 0+65536*val l.tail:=by cases l<;>simp[val]
theorem NY:∀(a b:List Nat)(c:Nat),b.length<=a.length->val (ji a b c)=val a+val b+c
 | [],b,c,h=>by have:b=[]:=Kas.1 (by simpa using h);subst this;unfold ji;split<;>simp[val];omega
 |x::xs,b,c,h=>by rw[ji,val,NY xs b.tail _ (by simp at h ⊢;omega),val,zH b];omega
theorem SJ:∀(a b:List Nat)(c:Nat),c<65536->Qq a->Qq b->b.length<=a.length->Qq (ji a b c)
 | [],b,c,hc,_,_,_=>by unfold ji;split<;>simp[Qq];exact hc
 |x::xs,b,c,hc,ha,hb,h=>by
  rw[ia]at ha;have mZ:b.headD 0<65536:=by cases b with|nil=>simp|cons y ys=>exact hb _ (by simp)
  rw[ji,ia];exact⟨by omega,SJ xs b.tail _ (by omega) ha.2 (fun x hx=>hb x (List.mem_of_mem_tail hx)) (by simp at h ⊢;omega)⟩
theorem Ul:∀(a b:List Nat)(c:Nat),a.getLast? ≠some 0->(ji a b c).getLast? ≠some 0
 | [],b,c,_=>by unfold ji;split<;>simp;assumption
 | x::xs,b,c,h=>by
  rw[ji,KcG];cases xs with
  |nil=>
   simp only[List.getLast?_singleton,ne_eq,KaB]at h;simp only[ji];generalize b.headD 0=y;split
   ·rename_i h0;simp;omega
   ·rename_i h0;simp;omega
  |cons y ys=>
   have ih:=Ul (y::ys) b.tail ((c+x+b.headD 0)/65536) (by rw[KcG]at h;simpa[KcG]using h);cases hl:(ji (y::ys) b.tail ((c+x+b.headD 0)/65536)).getLast? with
   |none=>rw[List.getLast?_eq_none_iff]at hl;simp[ji]at hl
   |some z=>rw[hl]at ih;simpa using ih
theorem ada{x y:Nat}(h:nl y<=nl x):ji (ah x) (ah y) 0=ah (x+y):=by have h1:=NY (ah x) (ah y) 0 h;rw[Q7,Q7,KaU]at h1;rw[<-h1,Ac (SJ _ _ _ (by omega) (Qp x) (Qp y) h) (Ul _ _ _ (zV x))]
def lT:List Nat->List Nat->Nat->List Nat
 | [],_,_=>[]
 |x::xs,ys,c=>(x+65536-c-ys.headD 0)%65536::lT xs ys.tail (if x<c+ys.headD 0 then 1 else 0)
theorem SK:∀(a b:List Nat)(c:Nat),Qq (lT a b c)
 | [],_,_=>nH
 |x::xs,b,c=>by rw[lT,ia];exact⟨by omega,SK xs _ _⟩
theorem Sl:∀(a b:List Nat)(c:Nat),(lT a b c).length=a.length
 | [],_,_=>rfl
 |x::xs,b,c=>by simp[lT,Sl xs]
theorem N1:∀(a b:List Nat)(c:Nat),c<=1->Qq a->Qq b->b.length<=a.length->val b+c<=val a->val (lT a b c)+val b+c=val a
 | [],b,c,_,_,_,h,h2=>by have:b=[]:=Kas.1 (by simpa using h);subst this;simp[val]at h2 ⊢;simp[lT,val,h2]
 |x::xs,b,c,hc,ha,hb,h,h2=>by
  rw[ia]at ha;have mZ:b.headD 0<65536:=by cases b with|nil=>simp|cons y ys=>exact hb _ (by simp)
  rw[val,zH b]at h2;rw[lT,val,val,zH b];have ih:=N1 xs b.tail (if x<c+b.headD 0 then 1 else 0) (by split<;>omega) ha.2 (fun x hx=>hb x (List.mem_of_mem_tail hx)) (by simp at h ⊢;omega) (by generalize b.headD 0=y at *;split<;>omega);generalize b.headD 0=y at *
  split at ih
  ·rename_i h0;rw[if_pos h0];omega
  ·rename_i h0;rw[if_neg h0];omega
theorem zW{done:List Nat}{i n v:Nat}(h:done.length=i)(hn:0<n):(done++List.replicate n 0).set i v=(done++[v])++List.replicate (n-1) 0:=by
 subst h;obtain⟨n,rfl⟩:∃k,n=k+1:=⟨n-1,by omega⟩
 simp[Kbq]
theorem HQ{done:List Nat}{i n m:Nat}(h:done.length=i)(hn:i+n=m):(done++List.replicate n 0).length=m:=by simp[h,hn]
theorem abk{a b:List Nat}{i c:Nat}(h:i<a.length):ji (a.drop i) (b.drop i) c=(c+a[i]+b.getD i 0)%65536::ji (a.drop (i+1)) (b.drop (i+1)) ((c+a[i]+b.getD i 0)/65536):=by rw[Kaz h,ji];simp[KbE,Kcu,Kap]
theorem abl{a b:List Nat}{i c:Nat}(h:i<a.length):lT (a.drop i) (b.drop i) c=(a[i]+65536-c-b.getD i 0)%65536::lT (a.drop (i+1)) (b.drop (i+1)) (if a[i]<c+b.getD i 0 then 1 else 0):=by rw[Kaz h,lT];simp[KbE,Kcu,Kap]
theorem gu{b:List Nat}{i:Nat}(h:i<b.length):b.getD i 0=b[i]:=by simp[Kap,h]
theorem gw{b:List Nat}{i:Nat}(h:¬i<b.length):b.getD i 0=0:=by simp[Kap,h]
open Go
variable {C : Ctx} {ρ : Nat -> Option Nat} {fr : Fr} {hp : HP} {w : World} {K K' R : Qg}
theorem HU(h:∀fr hp,K fr hp->K' fr hp)(o:cB):bp C o fr hp K->bp C o fr hp K':=by
 cases o with
 | call d pr f args=>
  simp only[bp,mJ];split
  ·rintro⟨h1,h2⟩;refine⟨h1,fun ρ tmps w fv cv av a1 a2 a3 a4 a5 a6 a7 a8=>(h2 ρ tmps w fv cv av a1 a2 a3 a4 a5 a6 a7 a8).mono ?_⟩;rintro e w' ⟨v,az,an,e1,e2,e3,e4⟩;exact⟨v,az,an,e1,e2,e3,h _ _ e4⟩
  ·exact id
 |bs d e ty ps=>
  simp only[bp,oc];split
  ·exact fun H=>⟨H.1,h _ _ H.2⟩
  ·exact fun H=>⟨H.1,H.2.1,h _ _ H.2.2⟩
 | app d e by_ ty s x=>
  simp only[bp,iO];intro H;revert H;split
  ·unfold xT;split
   ·split
    ·rintro⟨a1,a2,a3,H⟩;refine⟨a1,a2,a3,?_⟩;revert H;split
     ·exact fun H=>⟨H.1,h _ _ H.2⟩
     ·split
      ·exact fun H=>⟨H.1,H.2.1,h _ _ H.2.2⟩
      ·exact id
     ·exact id
    ·exact id
   ·exact id
  ·rintro⟨h0,h1,H⟩;refine⟨h0,h1,?_⟩;revert H;split
   ·rintro⟨a,b,c⟩;exact⟨a,b,h _ _ c⟩
   ·split
    ·rintro(⟨a1,a2,a3,a4,a5,a6,a7,c⟩|⟨a1,a2,a3,c⟩)
     ·exact .inl ⟨a1,a2,a3,a4,a5,a6,a7,h _ _ c⟩
     ·exact .inr ⟨a1,a2,a3,h _ _ c⟩
    ·exact id
   ·exact id
 |bin d op bt x y=>
  simp only[bp,cm];intro H;revert H;split
  ·split<;>first|exact fun H=>⟨H.1,H.2.1,h _ _ H.2.2⟩|exact fun H=>⟨H.1,h _ _ H.2⟩|exact id
  ·split<;>first|exact fun H=>⟨H.1,h _ _ H.2⟩|exact id
  ·exact id
 | _=>
  simp only[bp,qQ,qR,vJ,tO,rZ,uK,vB,oL,wH,wG,dM,qM,xS,qS,qN,kP,o9,fU,tP,nv,oc,iO,tQ,iI,kC,kD,Au,Av]
  try (intro H;revert H)
  try (repeat' split)
  all_goals first
   |exact id
   |exact h _ _
   |grind
theorem SL(h:∀fr hp,K fr hp->K' fr hp)(o:cB):jB o fr hp K->jB o fr hp K':=by unfold jB;split<;>exact h _ _
theorem abm(h:∀fr hp,K fr hp->K' fr hp)(g:Option (Nat×Bool))(o:cB):oN C g o fr hp K->oN C g o fr hp K':=by
 unfold oN;split
 ·exact HU h o
 ·split
  ·exact fun H=>⟨fun e=>HU h o (H.1 e),fun e=>SL h o (H.2 e)⟩
  ·exact SL h o
  ·exact id
theorem QE{sk:List It}{g:Option (Nat×Bool)}{o:cB}{r:RT}:vc C R (.o (.o g o r)::sk) fr hp=oN C g o fr hp (fun fr hp=>vc C R (.o r::sk) fr hp):=by rw[vc]
theorem QF{sk:List It}{x y:RT}:vc C R (.o (.br x y)::sk) fr hp=(vc C R (.o x::sk) fr hp/\vc C R (.o y::sk) fr hp):=by rw[vc]
theorem zx{id:Nat}{M:Qg}{sk:List It}:∀(pre:List It),(∃p,FW.cu id (pre++ .el M::sk)=some (p++ .el M::sk)/\FW.cu id (pre++sk)=some (p++sk)/\bY p<=bY pre)∨FW.cu id (pre++ .el M::sk)=FW.cu id (pre++sk)
 | []=>.inr rfl
 |.c s::pre=>by
  rcases zx (id:=id) (M:=M) (sk:=sk) pre with⟨p,h1,h2,h3⟩|h
  ·exact .inl ⟨p,h1,h2,by simp only[bY];omega⟩
  ·exact .inr h
 |.o s::pre=>by
  rcases zx (id:=id) (M:=M) (sk:=sk) pre with⟨p,h1,h2,h3⟩|h
  ·exact .inl ⟨p,h1,h2,by simp only[bY];omega⟩
  ·exact .inr h
 |.el s::pre=>by
  rcases zx (id:=id) (M:=M) (sk:=sk) pre with⟨p,h1,h2,h3⟩|h
  ·exact .inl ⟨p,h1,h2,by simp only[bY];omega⟩
  ·exact .inr h
 |.eb i::pre=>by
  by_cases hi:i=id
  ·exact .inl ⟨pre,by simp[FW.cu,hi],by simp[FW.cu,hi],by simp only[bY];omega⟩
  ·rcases zx (id:=id) (M:=M) (sk:=sk) pre with⟨p,h1,h2,h3⟩|h
   ·exact .inl ⟨p,by simp[FW.cu,hi,h1],by simp[FW.cu,hi,h2],by simp only[bY];omega⟩
   ·exact .inr (by simp[FW.cu,hi,h])
theorem Ae{M:Qg}{sk:List It}(hM:∀fr hp,M fr hp->vc C R sk fr hp):∀(n:Nat)(pre:List It)(fr:Fr)(hp:HP),bY pre<=n->vc C R (pre++ .el M::sk) fr hp->vc C R (pre++sk) fr hp:=by
 intro n;induction n with
 | zero=>
  intro pre fr hp hn h;cases pre with
  |nil=>simp only[KaM,vC]at h ⊢;exact hM _ _ h
  |cons i pre=>
   exfalso;have:=SC.yZ;cases i<;>simp only[bY,It.sz]at hn
   ·rename_i s;have:=SC.yZ s;omega
   ·rename_i s;have:=RT.yZ s;omega
   ·omega
   ·omega
 | succ n ih=>
  intro pre fr hp hn h;cases pre with
  |nil=>simp only[KaM,vC]at h ⊢;exact hM _ _ h
  | cons i pre=>
   cases i with
   |eb i=>simp only[KaP,B7]at h⊢;exact ih _ _ _ (by simp only[bY,It.sz]at hn;omega) h
   |el J=>simp only[KaP,vC]at h ⊢;exact h
   | o r=>
    cases r with
    |nil=>simp only[KaP,Ar]at h⊢;exact ih _ _ _ (by simp only[bY,It.sz,RT.sz]at hn;omega) h
    |o g o r=>simp only[KaP,QE]at h⊢;refine abm (fun fr hp h=>?_) g o h;exact ih (.o r::pre) _ _ (by simp only[bY,It.sz,RT.sz]at hn ⊢;omega) h
    |wk r=>simp only[KaP,Eg]at h⊢;obtain⟨bG,aF,hw,h⟩:=h;exact⟨bG,aF,hw,ih (.o r::pre) _ _ (by simp only[bY,It.sz,RT.sz]at hn ⊢;omega) h⟩
    |br x y=>simp only[KaP,QF]at h⊢;exact⟨ih (.o x::pre) _ _ (by simp only[bY,It.sz,RT.sz]at hn ⊢;omega) h.1,ih (.o y::pre) _ _ (by simp only[bY,It.sz,RT.sz]at hn ⊢;omega) h.2⟩
   | c s=>
    cases s with
    |skip=>simp only[KaP,DL]at h⊢;exact ih _ _ _ (by simp only[bY,It.sz,SC.sz]at hn;omega) h
    |rg r=>simp only[KaP,F5]at h⊢;exact ih (.o r::pre) _ _ (by simp only[bY,It.sz,SC.sz]at hn ⊢;omega) h
    |raw id ops=>simp only[KaP]at h⊢;rw[vc]at h⊢;intro tmps w Q hs hQ;refine h tmps w Q hs fun az an B2 w' en hv=>hQ az an B2 w' en ?_;exact ih _ _ _ (by simp only[bY,It.sz,SC.sz]at hn;omega) hv
    |seq a b=>simp only[KaP,DY]at h⊢;exact ih (.c a:: .c b::pre) _ _ (by simp only[bY,It.sz,SC.sz]at hn ⊢;omega) h
    |block id a=>simp only[KaP,Dq]at h⊢;exact ih (.c a:: .eb id::pre) _ _ (by simp only[bY,It.sz,SC.sz]at hn ⊢;omega) h
    |ret=>simp only[KaP,DZ]at h ⊢;exact h
    |cond c x y=>
     simp only[KaP,DM]at h⊢;unfold tH at h⊢;split at h
     ·exact⟨fun e=>ih (.c x::pre) _ _ (by simp only[bY,It.sz,SC.sz]at hn ⊢;omega) (h.1 e),fun e=>ih (.c y::pre) _ _ (by simp only[bY,It.sz,SC.sz]at hn ⊢;omega) (h.2 e)⟩
     ·exact h
    | exit id=>
     simp only[KaP,DN]at h⊢;rcases zx (id:=id) (M:=M) (sk:=sk) pre with⟨p,h1,h2,h3⟩|he
     ·rw[h1]at h;rw[h2];simp only[vD]at h⊢;exact ih _ _ _ (by simp only[bY,It.sz,SC.sz]at hn;omega) h
     ·rw[he]at h;exact h
    |loop a=>simp only[KaP,u7]at h⊢;obtain⟨I,μ,h1,h2⟩:=h;refine⟨I,μ,h1,fun fr hp hI=>?_⟩;exact ih (.c a:: .el _::pre) _ _ (by simp only[bY,It.sz,SC.sz]at hn ⊢;omega) (h2 fr hp hI)
theorem zI{c:PV}{x y:SC}{sk:List It}(M:Qg)(h:pK C R c x y (.el M::sk) fr hp)(hM:∀fr hp,M fr hp->vc C R sk fr hp):pK C R c x y sk fr hp:=by
 unfold pK tH at h⊢;split at h
 ·exact⟨fun e=>Ae hM _ [.c x] _ _ (Kac _) (h.1 e),fun e=>Ae hM _ [.c y] _ _ (Kac _) (h.2 e)⟩
 ·exact h
end Go.FW
namespace Go.FW
open Go
variable {C : Ctx} {ρ : Nat -> Option Nat} {fr : Fr} {hp : HP} {w : World} {K K' R : Qg}
def B9(R:PV->Prop)(p q:PV):Prop:=(p.aE=true/\q.aE=true)/\∃r,PV.yQ (.aw [p,q]) r/\R r
def F8(R:PV->Prop)(p q s:PV):Prop:=(p.aE=true/\q.aE=true/\s.aE=true)/\∃r,PV.yQ (.aw [p,q,s]) r/\R r
def Rq(R:PV->Prop):Prop:=∃r,PV.yQ (.aw []) r/\R r
theorem ahW{a b:Nat}{Rr:PV->Prop}:fV [.t a,.t b] Rr fr hp=B9 Rr (aK hp (fr a)) (aK hp (fr b)):=by simp[fV,B9,ko,jL]
theorem ahX{a b c:Nat}{Rr:PV->Prop}:fV [.t a,.t b,.t c] Rr fr hp=F8 Rr (aK hp (fr a)) (aK hp (fr b)) (aK hp (fr c)):=by simp[fV,F8,ko,jL]
theorem ahY{Rr:PV->Prop}:fV [] Rr fr hp=Rq Rr:=by simp[fV,Rq]
theorem fl{p q p' q' r:PV}(h:r= .aw [p',q'])(d1:p.aE=true)(d2:q.aE=true)(h1:PV.le p p')(h2:PV.le q q'):B9 (· =r) p q:=⟨⟨d1,d2⟩,r,by subst h;exact⟨h1,h2,trivial⟩,rfl⟩
theorem tN{p q s p' q' s' r:PV}(h:r= .aw [p',q',s'])(d1:p.aE=true)(d2:q.aE=true)(d3:s.aE=true)(h1:PV.le p p')(h2:PV.le q q')(h3:PV.le s s'):F8 (· =r) p q s:=⟨⟨d1,d2,d3⟩,r,by subst h;exact⟨h1,h2,h3,trivial⟩,rfl⟩
theorem tA{p q:PV}(h:p=q):PV.le p q:=h▸Qx p
theorem zX{β n ty:Nat}{l:List Nat}{fz:Bool}(h:hp β=some ⟨1,ty,cn l,fz⟩)(hn:n=l.length)(hB:cd β=false:=by decide):(([]:List PV)++[PV.ms β n]++([]:List PV)).map (aK hp)=[.sl 1 (cn l)]:=by simp[ac9 h hn hB]
theorem pk{n:Nat}(h:(ah n).length=0):ah n=[]:=Kas.1 h
abbrev PV.nat(l:List Nat):PV:=.sl 1 (cn l)
abbrev PV.num(n:Nat):PV:=PV.nat (ah n)
theorem xp:PV.le .aa (PV.num 0):=by rw[PV.num,fH];trivial
theorem Af{n:Nat}(h:n=0):PV.le .aa (PV.num n):=by subst h;exact xp
end Go.FW
namespace Go.FW
def jT:List Nat->List Nat->Nat->Nat->List Nat
 |r::rs,y::ys,x,c=>(c+(r+x*y))%65536::jT rs ys x ((c+(r+x*y))/65536)
 |_,_,_,c=>[c]
theorem N2:∀(r b:List Nat)(x c:Nat),r.length=b.length->val (jT r b x c)=val r+x*val b+c
 | [],[],x,c,_=>by simp[jT,val]
 |r::rs,y::ys,x,c,h=>by rw[jT,val,N2 rs ys x _ (by simpa using h),val,val,Ka2 x,Kby x 65536];generalize x*y=p;generalize x*val ys=q;omega
 | [],_::_,_,_,h=>by simp at h
 |_::_,[],_,_,h=>by simp at h
theorem tj{x y:Nat}(hx:x<65536)(hy:y<65536):x*y<=4294836225:=by have:=KaJ (show x<=65535 by omega) (show y<=65535 by omega);omega
theorem SM:∀(r b:List Nat)(x c:Nat),c<65536->x<65536->Qq r->Qq b->Qq (jT r b x c)
 |r::rs,y::ys,x,c,hc,hx,hr,hb=>by rw[ia]at hr hb;have:=tj hx hb.1;rw[jT,ia];exact⟨by omega,SM rs ys x _ (by omega) hx hr.2 hb.2⟩
 | [],_,x,c,hc,_,_,_=>by simp[jT,Qq];exact hc
 |_::_,[],x,c,hc,_,_,_=>by simp[jT,Qq];exact hc
theorem Sm:∀(r b:List Nat)(x c:Nat),r.length=b.length->(jT r b x c).length=r.length+1
 |r::rs,y::ys,x,c,h=>by simp[jT,Sm rs ys x _ (by simpa using h)]
 | [],[],x,c,_=>rfl
 | [],_::_,_,_,h=>by simp at h
 |_::_,[],_,_,h=>by simp at h
theorem DP{p t:List Nat}{r j:Nat}(h:p.length=j)(hj:j<(p++r::t).length):(p++r::t)[j]=r:=by subst h;simp
theorem nM{p t:List Nat}{r j v:Nat}(h:p.length=j):(p++r::t).set j v=p++v::t:=by subst h;simp
theorem zb{l:List Nat}{i:Nat}(h:i<l.length):val (l.take (i+1))=val (l.take i)+65536^i*l[i]:=by rw[Kah h,mA,KaF,KbZ (by omega)];simp[val]
theorem adb{a lo b:List Nat}{i:Nat}(h:i<a.length)(hl:lo.length=i+b.length)(hv:val lo=val (a.take i)*val b):
  val (lo.take i++jT (lo.drop i) b a[i] 0)=val (a.take (i+1))*val b:=by
 rw[mA,N2 _ _ _ _ (by simp[hl]),zb h,KaF,KbZ (by omega),KaI,<-hv,pz lo i (by omega),KaU,Ka2,Kbi];omega
open Go
variable {C : Ctx} {ρ : Nat -> Option Nat} {fr : Fr} {hp : HP} {w : World} {K K' R : Qg}
def B0:Nat:=1000000
def mP(xs:List PV):Prop:=∀x∈xs,∃k n,x= .int k n
theorem qH(l:List Nat):mP (cn l):=by intro x hx;simp only[cn,KaE]at hx;obtain⟨n,_,rfl⟩:=hx;exact⟨_,_,rfl⟩
def nY(w:World)(b:Nat)(ty:TypeId)(xs:List PV):Prop:=mP xs/\∃(cur:Array Value)(cap:Nat),w.heap[b]? =some (.cells cur ty (0,0))/\cur.size=cap*1/\xs.length<=cap/\cap<=maxLen/\
 ∀(i:Nat)(k:IntKind)(n:Int),xs[i]? =some (.int k n)->cur.getD i undef= .int k n
theorem nY.jv{b:Nat}{ty:TypeId}{xs:List PV}{fz:Bool}{X:Nat->Prop}(h:nY w b ty xs):xU w X b ⟨1,ty,xs,fz⟩:=by
 obtain⟨hi,cur,cap,h1,h2,h3,h4,h5⟩:=h;refine⟨cur,cap,h1,h2,h3,h4,fun i x hx j y hy=>?_⟩;obtain⟨k,n,rfl⟩:=hi x (Kai hx);cases j with
 |zero=>simp[PV.cells]at hy;subst hy;rw[KbF,KaU,h5 i k n hx];exact Qu.int k n
 |succ j=>simp[PV.cells]at hy
theorem nY.Nj{b:Nat}{ty:TypeId}{xs:List PV}{fz:Bool}{X:Nat->Prop}(h:xU w X b ⟨1,ty,xs,fz⟩)(hi:mP xs):nY w b ty xs:=by obtain⟨cur,cap,h1,h2,h3,h4,h5⟩:=h;refine⟨hi,cur,cap,h1,h2,h3,h4,fun i k n hx=>?_⟩;have:=h5 i _ hx 0 (.int k n) rfl;simp only[KbF,KaU]at this;generalize hg:cur.getD i undef=v at this;cases this;rfl
theorem Dj{xs:List PV}(h:mP xs):∀(i:Nat)(x:PV),xs[i]? =some x->x.cells.length=1/\x.aE=true:=by intro i x hx;obtain⟨k,n,rfl⟩:=h x (Kai hx);exact⟨rfl,rfl⟩
def UH(w:World)(b len:Nat)(o n:Nat)(v:Value):Prop:=o+n<=len/\∃cap,v= .slice (some ⟨b,o*1,none⟩) n cap/\dt w b 1 (o+cap)/\o+cap<=maxLen
def Xp(w:World)(X:Nat->Prop)(b len:Nat)(p:PV)(v:Value):Prop:=match p with
 |.ay β o n=>β=B0/\UH w b len o n v
 |p=>a9 w X p v
def UE(w:World)(X:Nat->Prop)(b len:Nat)(p:PV)(v:Value):Prop:=match p with
 |.ay β o n=>β=B0/\UH w b len o n v
 |p=>dF w X p v
def xy(P:Program)(f:FuncId)(args:List PV)(ty:TypeId)(xs:List PV)(cj:PV->List PV->Prop):Prop:=
 oO P f/\∀(w:World)(X:Nat->Prop)(b:Nat)(bn:Array Value),(∀c,X c->c<w.heap.size)->X b->bn.size=args.length->nY w b ty xs->0<xs.length->
  (∀(i:Nat)(x:PV),args[i]? =some x->Xp w X b xs.length x (bn.getD i undef))->
  Calls P f bn w fun e w'=>∃v r xs',e= .returned v/\Ext (fun c=>c=b) w w'/\(∀e cap,dt w b e cap->dt w' b e cap)/\nY w' b ty xs'/\xs'.length=xs.length/\UE w' X b xs.length r v/\cj r xs'
def r6(rs:List RV)(ty:TypeId)(len:Nat)(cj:PV->List PV->Prop):Qg:=fun fr hp=>
 ∃xs',hp B0=some ⟨1,ty,xs',false⟩/\mP xs'/\xs'.length=len/\
  (fV rs (fun r=>(∀β o n,r≠ .ay β o n)/\cj r xs') fr hp∨∃s o n,rs=[.t s]/\fr s= .ay B0 o n/\cj (.ay B0 o n) xs')
theorem C3 {P : Program} {f : FuncId} {fn : Func} {sf : aA} {args : List PV} {ty : TypeId} {xs : List PV} {cj : PV -> List PV -> Prop} (hm : P.follows .mixedOrders = true) (hf : P.funcs[f]? = some fn) (sF : (fn.name != "runtime.NumGoroutine") = true) (hc : Qe P fn = some sf) (hn : args.length <= sf.n /\ sf.n <= 1000000)
  (hv:∀C:Ctx,C.P=P->vc C (r6 sf.rs ty xs.length cj) [.c sf.body] (jS args) (Qy aF B0 ⟨1,ty,xs,false⟩)):xy P f args ty xs cj:=by
 simp only[Qe,Kab,Kaa]at hc;obtain⟨c,hb,sb,iF,rs,ft,rfl⟩:=hc;refine⟨by simp[oO,hf,hb];simpa using sF,fun w X b bn hX yv fR hI gW cN=>?_⟩;have oX:∀β c,(fun β=>if β=B0 then some b else none:Nat->Option Nat) β=some c->c<w.heap.size/\(jc β=false->¬(X c/\c≠b)):=fun β c h=>by
  simp only at h;split at h
  ·cases h;exact⟨hX b yv,fun _ h=>h.2 rfl⟩
  ·cases h
 let C:Ctx:=⟨P,fn.ntmps,w,fun c=>X c/\c≠b,fun c hc=>hX c hc.1,hn.2,fun β=>if β=B0 then some b else none,oX,bS,fun _ h=>h.elim⟩
 refine calls_of_wp hf hb ?_;have wz:(bn++Array.replicate (fn.ntmps-bn.size) undef).size=fn.ntmps:=by simp at hn ⊢;omega
 have am2:∀c,aH C (fun β=>if β=B0 then some b else none) (Qy aF B0 ⟨1,ty,xs,false⟩) c->X c:=by
  rintro c (hx|⟨β,_,h1,_,h3⟩)
  ·exact hx.1
  ·simp only at h3;split at h3
   ·cases h3;exact yv
   ·cases h3
 have qg:fa C (jS args) (Qy aF B0 ⟨1,ty,xs,false⟩) (bn++Array.replicate (fn.ntmps-bn.size) undef) w:=by
  refine⟨fun β=>if β=B0 then some b else none,wz,Ext.refl _ _,fun _ _ _ _ _ h=>h,fun β ax al=>?_,fun β γ b' h1 h2 h3 h4=>?_,fun i=>?_⟩
  ·unfold Qy at al;split at al
   ·rename_i apa;cases al;subst apa;refine⟨by simp,Dj hI.1,?_,(fun _=>rfl),fun h=>by cases h⟩;simp only[if_pos];exact⟨rfl,hX b yv,hI.jv⟩
   ·simp[aF]at al
  ·have:∀β,(if β=B0 then some b else none:Option Nat)=some b'->β=B0:=fun β h=>by
    split at h
    ·assumption
    ·cases h
   rw[this β h3,this γ h4]
  ·unfold jS;cases hi:args[i]? with
   |none=>trivial
   | some p=>
    simp only[KbT];have dp:i<bn.size:=by rw[fR];exact(Kad.1 hi).1
    have hr:=cN i p hi;have e:(bn++Array.replicate (fn.ntmps-bn.size) undef).getD i undef=bn.getD i undef:=by rw[kT,if_pos dp]
    rw[e];have key:a9 w X p (bn.getD i undef)->Qt C (fun β=>if β=B0 then some b else none) (Qy aF B0 ⟨1,ty,xs,false⟩) w p (bn.getD i undef):=fun hr=>
     Qt.lE (hr.mono (fun _ _ _=>rfl) (fun c _ hn hx=>hn (am2 c hx)) (Kac _))
    cases p with
    |ay β o n=>obtain⟨rfl,h1,cap,h2,h3,h4⟩:=hr;exact⟨⟨1,ty,xs,false⟩,by simp[Qy],h1,.inr ⟨b,cap,by simp,h2,h3,h4⟩⟩
    |_=>exact key hr
 have fin:∀(fr:Fr)(hp:HP)(a:Act)(w':World),a.defers=[]->fa C fr hp a.tmps w'->r6 rs ty xs.length cj fr hp->
   a.defers=[]/\∃v,(results fn a.tmps).run P w'= .ok v w'/\∃v' r xs',Ending.returned v= .returned v'/\Ext (fun c=>c=b) w w'/\(∀e cap,dt w b e cap->dt w' b e cap)/\nY w' b ty xs'/\xs'.length=xs.length/\UE w' X b xs.length r v'/\cj r xs':=by
  rintro fr hp a w' hd ⟨ρ,hs⟩ ⟨xs',hB,hint,hlen,hr⟩;have bm:=hs.own B0 _ hB;have bb:=bm.dV;have bB:ρ B0=some b:=by
   cases hq:ρ B0 with
   |none=>rw[hq]at bb;simp only at bb;rw[bb]at hlen;simp at hlen;omega
   |some b'=>rw[<-hq];exact bm.fix rfl
  rw[bB]at bb;have vR:nY w' b ty xs':=nY.Nj bb.2.2 hint;have WK:Ext (fun c=>c=b) w w':=hs.ext.mono fun c _ hc=>by
   rcases hc with⟨β,_,hc⟩|hc
   ·have hc:(if β=B0 then some b else none:Option Nat)=some c:=hc;split at hc
    ·cases hc;rfl
    ·cases hc
   ·exact hc.elim
  have VQ:∀e cap,dt w b e cap->dt w' b e cap:=hs.gY B0 b rfl;rcases hr with hr|⟨s,o,n,rfl,ot,hp⟩
  ·obtain⟨v,r,h1,h2,h3,h4⟩:=ZK (C:=C) rfl ft hs hr (X:=X) (fun c hc=>by
    by_cases e:c=b
    ·subst e;exact .inr ⟨B0,_,rfl,hB,rfl,bB⟩
    ·exact .inl ⟨hc,e⟩)
   refine⟨hd,v,h1,v,r,xs',rfl,WK,VQ,vR,hlen,?_,h4⟩;cases r with
   |ay β o n=>exact absurd rfl (h3 β o n)
   |_=>exact h2
  ·have cJ:=hs.eZ s;rw[ot]at cJ;obtain⟨fb,g1,g2,g3⟩:=cJ;rw[hB]at g1;cases g1;rcases g3 with⟨g3,_⟩|⟨b',cap,g3,g4,g5,g6⟩
   ·rw[bB]at g3;cases g3
   ·rw[bB]at g3;cases g3;obtain⟨x,hx⟩:∃x,fn.results.toList=[x]:=by have:=oE ft;exact List.length_eq_one_iff.1 (by rw[<-this.1];rfl)
    have ma:mz P x=some (.t s):=by rw[hx]at ft;simp only[KcS,List.mapM_nil,Kcy,KcX,Kab,KaB]at ft;obtain⟨y,h1,_,_,h2⟩:=ft;simp only[KcK]at h2;rw[<-h2.1];exact h1
    have M4:x= .tmp s:=by
     cases x with
     |tmp t=>simpa[mz]using ma
     |cell y t=>simp[mz,Kab]at ma
    subst M4;have dw:(results fn a.tmps).run P w'= .ok (a.tmps.getD s undef) w':=by have e:results fn a.tmps=(do let vs<-fn.results.mapM (r8 a.tmps);pure (if h:vs.size=1 then vs[0]else .tuple vs)):=rfl;rw[e,Kb6,hx];simp[Kao,r8]
    refine⟨hd,_,dw,_,.ay B0 o n,xs',rfl,WK,VQ,vR,hlen,⟨rfl,hlen▸g2,cap,g4,g5,g6⟩,hp⟩
 exact GM (C:=C) (R:=r6 rs ty xs.length cj) hm c sb [] _ (jS args) _ _ w iF ⟨fun fr hp a w' hd hs hv=>(by rw[vw]at hv;exact fin fr hp a w' hd hs hv),fun id eO he=>(by simp[FW.cu]at he),fin⟩ rfl qg (hv C rfl)
def PV.nt:PV->Bool
 |.ay .. =>true
 |p=>p.aE
def jv(β:Nat):PV->PV
 |.ay γ o n=>if γ=β then .ay B0 o n else .undef
 |.mp _ _ _=>.undef
 |.rb _ _ _=>.undef
 |.fn _ _ _=>.undef
 |.aM _ _ _| .np _ _ _| .aU _| .eX _| .eY _ _| .aN _ _ _ _=>.undef
 |p=>p
def nQ(β:Nat):PV->PV
 |.ay _ o n=>.ay β o n
 |p=>p
theorem Ec{P:Program}(hP:C.P=P){g:FuncId}{args di:List PV}{d:Option Nat}{β:Nat}{ty:TypeId}{xs:List PV}{cj:PV->List PV->Prop}(h:xy P g di ty xs cj)(al:hp β=some ⟨1,ty,xs,false⟩)(hint:mP xs)(gW:0<xs.length)
  (dQ:args.map (jv β)=di) (iU:di.all PV.nt=true)
  (hK:∀r xs',mP xs'->xs'.length=xs.length->cj r xs'->K (qO fr d (nQ β r)) (Qy hp β ⟨1,ty,xs',false⟩)):mJ C false (.fn g [] []) args d fr hp K:=by
 subst hP;refine⟨h.1,fun ρ tmps w fv cv av sA hs h1 h2 h3 _ _ sL=>?_⟩;have bm:=hs.own β _ al;have bb:=bm.dV;obtain⟨b,bB⟩:∃b,ρ β=some b:=by
  cases hq:ρ β with
  |none=>rw[hq]at bb;simp only at bb;rw[bb]at gW;simp at gW
  |some b=>exact⟨b,rfl⟩
 rw[bB]at bb;have yv:aH C ρ hp b:=.inr ⟨β,_,al,rfl,bB⟩;have e1:fv= #[]:=Kcw (by simpa using h1);have e2:cv= #[]:=Kcw (by simpa using h2);subst e1;subst e2;simp only[Array.empty_append,Array.append_empty];refine(h.2 w (aH C ρ hp) b av (Ea hs) yv (by rw[<-dQ];simp[h3]) (nY.Nj bb.2.2 hint) gW (fun i x hx=>?_)).mono ?_
 ·rw [<-dQ]at hx;simp only[Kax,Kaa]at hx;obtain⟨p,an,wq⟩:=hx;have hr:=sL i p an;have jt:PV.nt x=true:=by rw[Kay]at iU;refine iU x ?_;rw[<-dQ,<-wq];exact Kcz (Kai an)
  subst wq;cases p with
  | ay γ o n=>
   simp only[jv]at jt⊢;split
   ·rename_i ak;subst ak;obtain⟨fb,g1,g2,g3⟩:=hr;rw[al]at g1;cases g1;rcases g3 with⟨g3,_⟩|⟨b',cap,g3,g4,g5,g6⟩
    ·rw[bB]at g3;cases g3
    ·rw[bB]at g3;cases g3;exact⟨rfl,g2,cap,g4,g5,g6⟩
   ·rename_i ak;rw[if_neg ak]at jt;simp[PV.nt,PV.aE]at jt
  |mp=>simp[jv,PV.nt,PV.aE]at jt
  |rb=>simp[jv,PV.nt,PV.aE]at jt
  |fn=>simp[jv,PV.nt,PV.aE]at jt
  |undef=>simp[jv,PV.nt,PV.aE]at jt
  |aM=>simp[jv,PV.nt,PV.aE]at jt
  |np=>simp[jv,PV.nt,PV.aE]at jt
  |aU=>simp[jv,PV.nt,PV.aE]at jt
  |eX=>simp[jv,PV.nt,PV.aE]at jt
  |eY=>simp[jv,PV.nt,PV.aE]at jt
  |aN=>simp[jv,PV.nt,PV.aE]at jt
  |aw=>simp[jv,PV.nt,PV.aE]at jt
  |agg cs=>exact hr
  |_=>exact hr
 ·rintro e w' ⟨v,r,xs',rfl,hx,dR,vR,hlen,dw,qd⟩;have aG:=hs.store β b ⟨1,ty,xs,false⟩ ⟨1,ty,xs',false⟩ al rfl (by intro e;simp at e;rw[e]at gW;simp at gW) bB hx rfl hlen rfl (Dj vR.1) dR (vR.jv (X:=aH C ρ hp) (fz:=false) |> fun⟨cur,cap,c1,c2,c3,c4,c5⟩=>⟨cur,cap,c1,c2,c3,c4,fun i x hi j y hy=>by
   obtain⟨k,n,rfl⟩:=vR.1 x (Kai hi);have:=c5 i _ hi j y hy;cases j with
   |zero=>simp[PV.cells]at hy;subst hy;generalize hg:cur.getD (i*1+0) undef=u at this;cases this;exact Qu.int k n
   |succ j=>simp[PV.cells]at hy⟩)
  have Ma:aH C ρ (Qy hp β ⟨1,ty,xs',false⟩)=aH C ρ hp:=by
   funext c;apply propext;constructor
   ·rintro(hx|⟨γ,hg,h1,h2,h3⟩)
    ·exact .inl hx
    ·by_cases ak:γ=β
     ·subst ak;exact .inr ⟨γ,_,al,rfl,h3⟩
     ·simp only[Qy,if_neg ak]at h1;exact .inr ⟨γ,hg,h1,h2,h3⟩
   ·rintro(hx|⟨γ,hg,h1,h2,h3⟩)
    ·exact .inl hx
    ·by_cases ak:γ=β
     ·subst ak;exact .inr ⟨γ,⟨1,ty,xs',false⟩,by simp[Qy],rfl,h3⟩
     ·exact .inr ⟨γ,hg,by simp[Qy,ak,h1],h2,h3⟩
  refine⟨v,_,_,rfl,⟨ρ,aG.FH (p:=nQ β r) ?_ sA⟩,by simp,hK r xs' vR.1 hlen qd⟩;cases r with
  |ay γ o n=>obtain⟨_,g1,cap,g2,g3,g4⟩:=dw;exact⟨⟨1,ty,xs',false⟩,by simp[Qy],by simp only[nQ];omega,.inr ⟨b,cap,bB,g2,g3,g4⟩⟩
  |_=>exact Qt.Nk (p:=_) (by rw[Ma];exact dw)
end Go.FW
namespace Go.FW
open Go
variable {C : Ctx} {ρ : Nat -> Option Nat} {fr : Fr} {hp : HP} {w : World} {K K' R : Qg}
def Ag(P:Program)(f:FuncId)(args:List PV)(ty:TypeId)(cj:List PV->Prop):Prop:=
 oO P f/\∀(w:World)(X:Nat->Prop)(bn:Array Value),(∀b,X b->b<w.heap.size)->bn.size=args.length->(∀(i:Nat)(x:PV),args[i]? =some x->a9 w X x (bn.getD i undef))->
  Calls P f bn w fun e w'=>∃v b cap ys,e= .returned v/\v= .slice (some ⟨b,0,none⟩) ys.length cap/\w.heap.size<=b/\Ext bS w w'/\nY w' b ty ys/\dt w' b 1 cap/\cap<=maxLen/\cj ys
def xM(rs:List RV)(ty:TypeId)(cj:List PV->Prop):Qg:=fun fr hp=>
 ∃s β n xs,rs=[.t s]/\fr s= .ay β 0 n/\cd β=false/\hp β=some ⟨1,ty,xs,false⟩/\mP xs/\0<n/\cj (xs.take n)
theorem abn{xs:List PV}(h:mP xs)(n:Nat):mP (xs.take n):=fun x hx=>h x (Kbc hx)
theorem abo {P : Program} {f : FuncId} {fn : Func} {sf : aA} {args : List PV} {ty : TypeId} {cj : List PV -> Prop} (hm : P.follows .mixedOrders = true) (hf : P.funcs[f]? = some fn) (sF : (fn.name != "runtime.NumGoroutine") = true) (hc : Qe P fn = some sf) (hn : args.length <= sf.n /\ sf.n <= 1000000)
  (hv:∀C:Ctx,C.P=P->vc C (xM sf.rs ty cj) [.c sf.body] (jS args) aF):Ag P f args ty cj:=by
 simp only[Qe,Kab,Kaa]at hc;obtain⟨c,hb,sb,iF,rs,ft,rfl⟩:=hc;refine⟨by simp[oO,hf,hb];simpa using sF,fun w X bn hX fR cN=>?_⟩
 let C:Ctx:=Ctx.plain P fn.ntmps w X hX hn.2
 refine calls_of_wp hf hb ?_;have wz:(bn++Array.replicate (fn.ntmps-bn.size) undef).size=fn.ntmps:=by simp at hn ⊢;omega
 have qg:fa C (jS args) aF (bn++Array.replicate (fn.ntmps-bn.size) undef) w:=by
  refine⟨fun _=>none,wz,Ext.refl _ _,(fun _ _ h=>by cases h),by simp[aF],by simp[aF],fun i=>?_⟩;unfold jS;cases hi:args[i]? with
  |none=>trivial
  | some p=>
   simp only[KbT];have dp:i<bn.size:=by rw[fR];exact(Kad.1 hi).1
   have hr:=cN i p hi;have e:(bn++Array.replicate (fn.ntmps-bn.size) undef).getD i undef=bn.getD i undef:=by rw[kT,if_pos dp]
   rw[e];refine Qt.lE (hr.mono (fun _ _ _=>rfl) (fun b _ hn hx=>?_) (Kac _));rcases hx with hx|⟨_,_,h1,_⟩
   ·exact hn hx
   ·simp[aF]at h1
 have fin:∀(fr:Fr)(hp:HP)(a:Act)(w':World),a.defers=[]->fa C fr hp a.tmps w'->xM rs ty cj fr hp->
   a.defers=[]/\∃v,(results fn a.tmps).run P w'= .ok v w'/\∃v' b cap ys,Ending.returned v= .returned v'/\v'= .slice (some ⟨b,0,none⟩) ys.length cap/\w.heap.size<=b/\Ext bS w w'/\nY w' b ty ys/\dt w' b 1 cap/\cap<=maxLen/\cj ys:=by
  rintro fr hp a w' hd ⟨ρ,hs⟩ ⟨s,β,n,xs,rfl,ot,hB,al,hint,gW,hp⟩;have bm:=hs.own β _ al;have bb:=bm.dV;have cJ:=hs.eZ s;rw[ot]at cJ;obtain⟨fb,g1,g2,g3⟩:=cJ;rw[al]at g1;cases g1;rcases g3 with⟨_,_,g3,_⟩|⟨b,cap,g3,g4,g5,g6⟩
  ·omega
  ·rw[g3]at bb;simp only[hB]at bb;obtain⟨x,hx⟩:∃x,fn.results.toList=[x]:=by have:=oE ft;exact List.length_eq_one_iff.1 (by rw[<-this.1];rfl)
   have ma:mz P x=some (.t s):=by rw[hx]at ft;simp only[KcS,List.mapM_nil,Kcy,KcX,Kab,KaB]at ft;obtain⟨y,h1,_,_,h2⟩:=ft;simp only[KcK]at h2;rw[<-h2.1];exact h1
   have M4:x= .tmp s:=by
    cases x with
    |tmp t=>simpa[mz]using ma
    |cell y t=>simp[mz,Kab]at ma
   subst M4;have dw:(results fn a.tmps).run P w'= .ok (a.tmps.getD s undef) w':=by have e:results fn a.tmps=(do let vs<-fn.results.mapM (r8 a.tmps);pure (if h:vs.size=1 then vs[0]else .tuple vs)):=rfl;rw[e,Kb6,hx];simp[r8]
   have hlen:(xs.take n).length=n:=by simp at g2 ⊢;omega
   refine⟨hd,_,dw,_,b,cap,xs.take n,rfl,by rw[g4,hlen,KbH],(Ctx.Eo bb.1 (vu hB)).resolve_right (fun h=>h),Ctx.Nl hs.ext,?_,by rw[Kbd]at g5;exact g5,by omega,hp⟩;obtain⟨_,cur,cp,i1,i2,i3,i4,i5⟩:=nY.Nj bb.2.2 hint;exact⟨abn hint n,cur,cp,i1,i2,by simp;omega,i4,fun i k m hi=>i5 i k m (by
    have aC:i<n:=by have:=(Kad.1 hi).1;omega
    rwa[KaL aC]at hi)⟩
 exact GM (C:=C) (R:=xM rs ty cj) hm c sb [] _ (jS args) aF _ w iF ⟨fun fr hp a w' hd hs hv=>(by rw[vw]at hv;exact fin fr hp a w' hd hs hv),fun id eO he=>(by simp[FW.cu]at he),fin⟩ rfl qg (hv C rfl)
theorem ahZ{P:Program}(hP:C.P=P){g:FuncId}{args di:List PV}{d:Nat}{ty:TypeId}{cj:List PV->Prop}(h:Ag P g di ty cj)(dQ:([]++args++[]).map (aK hp)=di)(iU:di.all PV.aE=true)(hr:([]++args++[]).flatMap PV.refs=[])
  (hB:cd d=false) (hK:∀ys,mP ys->cj ys->K (af (cK d fr) d (.ms d ys.length)) (Qy hp d ⟨1,ty,ys,false⟩)):mJ C false (.fn g [] []) args (some d) fr hp K:=by
 subst hP;refine⟨h.1,fun ρ tmps w fv cv av sA hs h1 h2 h3 sK ox sL=>?_⟩;have hf0:cf hp (([]++args++[]).flatMap PV.refs)=hp:=by rw[hr];rfl
 have cN:=Oi hs h1 h2 h3 sK ox sL (by rw[dQ];exact iU);rw[hf0,dQ]at cN;refine(h.2 w _ (fv++av++cv) (Ea hs) (by rw[<-dQ];simp[h1,h2,h3]) cN).mono ?_;rintro e w' ⟨v,b,cap,ys,rfl,rfl,hb,hx,hI,dR,hm,qd⟩;have qW:b<w'.heap.size:=by obtain⟨_,cur,cp,i1,_⟩:=hI;exact(KaH.1 i1).1
 have MU:=hs.rebind (w':=w') d (some b) ⟨1,ty,ys,false⟩ hB (hx.mono (fun _ _ h=>h.elim)) (fun c hc=>by cases hc;exact⟨.inl (Kaw hs.ext.size hb),qW,.inl hb⟩) (by simp) (Dj hI.1) (by simp)
  (fun c hc=>by
   cases hc;obtain⟨hint,cur,cp,i1,i2,i3,i4,i5⟩:=hI;refine⟨cur,cp,i1,i2,i3,i4,fun i x hi j y hy=>?_⟩;obtain⟨k,n,rfl⟩:=hint x (Kai hi);cases j with
   |zero=>simp[PV.cells]at hy;subst hy;rw[KbF,KaU,i5 i k n hi];exact Qu.int k n
   |succ j=>simp[PV.cells]at hy)
 refine⟨_,_,_,rfl,⟨_,MU.FH (d:=some d) (p:=.ms d ys.length) ?_ sA⟩,by simp,hK ys hI.1 qd⟩;exact⟨⟨1,ty,ys,false⟩,by simp[Qy],by simp,.inr ⟨b,cap,gM _ _ _,by simp,by rw[Kbd];exact dR,by omega⟩⟩
def fL(hp:HP):PV->PV
 |.mp β i o=>match hp β with
  |some hb=>match hb.xs[i]? with
   |some x=>.pt (x.cells.drop o)
   |none=>.undef
  |none=>.undef
 |.ay β o n=>match hp β with
  |some hb=>.sl hb.e ((hb.xs.drop o).take n)
  |none=>.undef
 |.rb β o n=>match hp β with
  |some hb=>.pt [.sl hb.e ((hb.xs.drop o).take n)]
  |none=>.undef
 |p=>p
def vK(C:Ctx)(ρ:Nat->Option Nat)(hp:HP)(l:List Nat):Nat->Prop:=fun c=>aH C ρ hp c/\¬∃β∈l,ρ β=some c
theorem Qu.vO{l:List Nat}{q:PV}{u:Value}(h:Qu w (aH C ρ hp) q u):Qu w (vK C ρ hp l) q u:=
 h.mono (fun _ _ _=>rfl) (fun _ _ hn hx=>hn hx.1) (Kac _)
theorem eQ.vO{tmps:Array Value}(h:aI C ρ fr hp tmps w){β o n:Nat}{v:Value}{l:List Nat}{hb:HB}(hr:eQ ρ hp w β o n v)(wC:β∈l)(g1:hp β=some hb):Qu w (vK C ρ hp l) (.sl hb.e ((hb.xs.drop o).take n)) v:=by
 obtain⟨fb,Er,g2,g3⟩:=hr;rw[g1]at Er;cases Er;rcases g3 with⟨g3,rfl,rfl,rfl⟩|⟨b,cap,g3,rfl,g5,g6⟩
 ·simp only[Kb5];exact .gK _ _ _ (Kbx _)
 ·have bm:=h.own β hb g1;have bb:=bm.dV;rw[g3]at bb;obtain⟨_,ar,cur,eT,c1,c2,c3,c4,c5⟩:=bb;obtain⟨cur',ty',d1,d2⟩:=g5;rw[c1]at d1;cases d1;have gj:o+cap=eT:=by rw[c2]at d2;exact(KbB bm.lV d2).symm
  subst gj;have hlen:((hb.xs.drop o).take n).length=n:=by simp;omega
  have eV:∀(i:Nat)(x:PV),((hb.xs.drop o).take n)[i]? =some x->i<n/\hb.xs[o+i]? =some x:=fun i x hx=>by
   have hi:i<n:=by have:=(Kad.1 hx).1;omega
   rw[KaL hi,Ka9]at hx;exact⟨hi,hx⟩
  have:=Qu.sl (w:=w) (X:=vK C ρ hp l) hb.e ((hb.xs.drop o).take n) b (o*hb.e) cap (fun i j=>cur.getD ((o+i)*hb.e+j) undef) (fun BD=>BD.2 ⟨β,wC,g3⟩) ar (by omega) (by omega)
   (fun i x hx=>(bm.len _ x (eV i x hx).2).1)
   (fun i hi j hj=>by rw[hlen]at hi;have:=nO (i:=o+i) (e:=hb.e) (o:=0) (j:=j) (n:=hb.e) (cap:=o+cap) (by omega) (by omega) hj;rw[KaU]at this;rw[show o*hb.e+i*hb.e+j=(o+i)*hb.e+j by rw[KaI]];exact lG c1 (by rw[c2];exact this))
   (fun i x hx j y hy=>(c5 _ x (eV i x hx).2 j y hy).vO)
  rwa[hlen]at this
theorem C4{tmps:Array Value}(h:aI C ρ fr hp tmps w){p:PV}{v:Value}{l:List Nat}(hr:cW C ρ hp w p v)(hl:∀β∈p.bP,β∈l)(hu:(fL hp p).aE=true)(Bq:∀f a b,p≠ .fn f a b):a9 w (vK C ρ hp l) (fL hp p) v:=by
 cases p with
 | mp β i o=>
  obtain⟨b,hb,g1,g2,rfl⟩:=hr;have wC:=hl β (by simp[PV.bP]);have bm:=h.own β hb g2;have bb:=bm.dV;rw[g1]at bb;obtain⟨_,ar,cur,cap,c1,c2,c3,c4,c5⟩:=bb;simp only[fL,g2]at hu⊢;cases hx:hb.xs[i]? with
  |none=>simp[hx,PV.aE]at hu
  | some x=>
   have hi:i<hb.xs.length:=(Kad.1 hx).1;have ff:=(bm.len i x hx).1;refine Qu.pt _ b _ (fun j=>cur.getD (i*hb.e+o+j) undef) (fun BD=>BD.2 ⟨β,wC,g1⟩) ar (fun j hj=>?_) (fun j y hy=>?_)
   ·have fO:o+(j+1)<=hb.e:=by simp[ff]at hj;omega
    exact lG c1 (by rw[c2];exact nO (by omega) fO (Kdc j))
   ·rw[Ka9]at hy;rw[Kcg];exact(c5 i x hx (o+j) y hy).vO
 |ay β o n=>obtain⟨hb,g1,_⟩:=id hr;simp only[fL,g1];exact eQ.vO h hr (hl β (by simp[PV.bP])) g1
 | rb β o n=>
  obtain⟨b,u,rfl,e2,e3,e4,hb,g1,e5⟩:=hr;simp only[fL,g1];refine Qu.pt _ b 0 (fun _=>u) (fun hx=>e3 hx.1) e2 (fun j hj=>?_) (fun j y hy=>?_)
  ·obtain rfl:j=0:=by simpa using hj
   simpa using e4
  ·cases j with
   |zero=>simp at hy;subst hy;exact eQ.vO h ⟨hb,g1,e5⟩ (hl β (by simp[PV.bP])) g1
   |succ j=>simp at hy
 |undef=>simp[fL,PV.aE]at hu
 |fn f a b=>exact absurd rfl (Bq f a b)
 |aw=>simp[fL,PV.aE]at hu
 |aM=>simp[fL,PV.aE]at hu
 |np=>simp[fL,PV.aE]at hu
 |aU=>simp[fL,PV.aE]at hu
 |eX=>simp[fL,PV.aE]at hu
 |eY=>simp[fL,PV.aE]at hu
 |aN=>simp[fL,PV.aE]at hu
 |agg=>cases hr
 |_=>exact Qu.vO hr
end Go.FW
namespace Go.FW
open Go
variable {C : Ctx} {ρ : Nat -> Option Nat} {fr : Fr} {hp : HP} {w : World} {K K' R : Qg}
def PV.uH:PV->Bool
 |.fn .. =>false
 |p=>p.aE
theorem Te{p:PV}(h:p.uH=true):p.aE=true/\∀f a b,p≠ .fn f a b:=by cases p<;>simp_all[PV.uH,PV.aE]
theorem ZM{tmps:Array Value}(h:aI C ρ fr hp tmps w){p:PV}{v:Value}{l:List Nat}(hr:Qt C ρ hp w p v)(hl:∀β∈p.refs,β∈l)(hu:(fL hp p).uH=true):a9 w (vK C ρ hp l) (fL hp p) v:=by
 obtain⟨hd,Bq⟩:=Te hu;cases p with
 |mp β i o=>exact C4 (p:=.mp β i o) h hr (fun dA mb=>hl dA mb) hd (by simp)
 |ay β o n=>exact C4 (p:=.ay β o n) h hr (fun dA mb=>hl dA mb) hd (by simp)
 |rb β o n=>exact C4 (p:=.rb β o n) h hr (fun dA mb=>hl dA mb) hd (by simp)
 |fn f a b=>exact absurd rfl (Bq f a b)
 |undef=>simp[fL,PV.uH,PV.aE]at hu
 |aw=>simp[fL,PV.uH,PV.aE]at hu
 |agg cs=>exact a9.mono (p:=.agg cs) hr (fun _ _ _=>rfl) (fun _ _ hn hx=>hn hx.1) (Kac _)
 |aM=>simp[fL,PV.aE]at hd
 |np=>simp[fL,PV.aE]at hd
 |aU=>simp[fL,PV.aE]at hd
 |eX=>simp[fL,PV.aE]at hd
 |eY=>simp[fL,PV.aE]at hd
 |aN=>simp[fL,PV.aE]at hd
 |_=>exact Qu.vO hr
theorem Th{tmps:Array Value}(h:aI C ρ fr hp tmps w){p:PV}{v:Value}{l:List Nat}(hr:cW C ρ hp w p v)(hl:∀β∈p.refs,β∈l)(hu:(fL hp p).uH=true):a9 w (vK C ρ hp l) (fL hp p) v:=by
 obtain⟨hd,Bq⟩:=Te hu;refine C4 h hr (fun β al=>hl β ?_) hd ?_
 ·cases p<;>simp_all[PV.bP,PV.refs]
 ·intro f a b an;subst an;exact Bq f a b rfl
theorem abp{P:Program}(hP:C.P=P){g:FuncId}{first cap args di:List PV}{pr:Bool}{d:Option Nat}{r:PV}(h:Qc P g di (· =r))(dQ:(first++args++cap).map (fL hp)=di)(iU:di.all PV.uH=true)(hr:r.M9=true)
  (hK:K (qO fr d r) hp):mJ C pr (.fn g first cap) args d fr hp K:=by
 subst hP;refine⟨h.1,fun ρ tmps w fv cv av sA hs h1 h2 h3 sK ox sL=>?_⟩;refine(h.2 w (vK C ρ hp ((first++args++cap).flatMap PV.refs)) (fv++av++cv) (fun b hb=>Ea hs b hb.1) (by rw[<-dQ];simp[h1,h2,h3]) (fun i x hx=>?_)).mono ?_
 ·have uj:x.uH=true:=by rw[Kay]at iU;exact iU x (Kai hx)
  rw[<-dQ]at hx;simp only[Kax,Kaa]at hx;obtain⟨p,an,rfl⟩:=hx;have eC:=Kai an;have hl:∀β∈p.refs,β∈(first++args++cap).flatMap PV.refs:=fun β al=>Kaq.2 ⟨p,eC,al⟩;rw[kT];rw[Ka1]at an;by_cases c1:i<(first++args).length
  ·rw[if_pos c1]at an;rw[if_pos (by simp only[Kcj,h1,h3];simpa using c1),kT];rw[Ka1]at an;by_cases c2:i<first.length
   ·rw[if_pos c2]at an;rw[if_pos (by omega)];exact Th hs (sK i p an) hl uj
   ·rw[if_neg c2]at an;rw[if_neg (by omega),h1];exact ZM hs (sL _ p an) hl uj
  ·rw[if_neg c1]at an;have fR:(fv++av).size=(first++args).length:=by simp[h1,h3]
   rw[if_neg (by omega),fR];exact Th hs (ox _ p an) hl uj
 ·rintro e w' ⟨v,r',rfl,hx,fP,rfl⟩;exact⟨v,_,_,rfl,⟨ρ,(hs.grow hx).FH (Qt.Nk (acs hr fP)) sA⟩,fun _=>hx,hK⟩
end Go.FW
namespace Go.FW
def kE:List Nat->List Nat->Nat->List Nat
 | [],_,_=>[]
 |x::xs,ys,c=>(c+x+ys.headD 0)%65536::kE xs ys.tail ((c+x+ys.headD 0)/65536)
theorem Sn:∀(a b:List Nat)(c:Nat),(kE a b c).length=a.length
 | [],_,_=>rfl
 |x::xs,b,c=>by simp[kE,Sn xs]
theorem Ti:∀(a b:List Nat)(c:Nat),Qq (kE a b c)
 | [],_,_=>nH
 |x::xs,b,c=>by rw[kE,ia];exact⟨by omega,Ti xs _ _⟩
theorem abq{a b:List Nat}{i c:Nat}(h:i<a.length):kE (a.drop i) (b.drop i) c=(c+a[i]+b.getD i 0)%65536::kE (a.drop (i+1)) (b.drop (i+1)) ((c+a[i]+b.getD i 0)/65536):=by rw[Kaz h,kE];simp[KbE,Kcu,Kap]
theorem N3:∀(a b:List Nat)(c:Nat),b.length<=a.length->∃k,val (kE a b c)+65536^a.length*k=val a+val b+c
 | [],b,c,h=>by have:b=[]:=Kas.1 (by simpa using h);subst this;exact⟨c,by simp[kE,val]⟩
 |x::xs,b,c,h=>by
  obtain⟨k,hk⟩:=N3 xs b.tail ((c+x+b.headD 0)/65536) (by simp at h ⊢;omega);refine⟨k,?_⟩;rw[kE,val,val,zH b,KaW,KbA,KaS (65536^xs.length) 65536,Kbi];generalize 65536^xs.length*k=z at *
  generalize b.headD 0=y at *
  omega
def fC:List Nat->List Nat->Nat->Nat->Nat->List Nat×Nat×Nat
 | [],_,_,c,b=>([],c,b)
 |x::xs,ys,q,c,b=>
  let r:=fC xs ys.tail q ((c+q*ys.headD 0)/65536) (if x<(c+q*ys.headD 0)%65536+b then 1 else 0)
  ((x+65536-(c+q*ys.headD 0)%65536-b)%65536::r.1,r.2)
theorem So:∀(a v:List Nat)(q c b:Nat),(fC a v q c b).1.length=a.length
 | [],_,_,_,_=>rfl
 |x::xs,v,q,c,b=>by simp[fC,So xs]
theorem Tj:∀(a v:List Nat)(q c b:Nat),Qq (fC a v q c b).1
 | [],_,_,_,_=>nH
 |x::xs,v,q,c,b=>by simp only[fC];rw[ia];exact⟨by omega,Tj xs _ _ _ _⟩
theorem abr{a v:List Nat}{i q c b:Nat}(h:i<a.length):fC (a.drop i) (v.drop i) q c b=
    ((a[i]+65536-(c+q*v.getD i 0)%65536-b)%65536::(fC (a.drop (i+1)) (v.drop (i+1)) q ((c+q*v.getD i 0)/65536) (if a[i]<(c+q*v.getD i 0)%65536+b then 1 else 0)).1,
     (fC (a.drop (i+1)) (v.drop (i+1)) q ((c+q*v.getD i 0)/65536) (if a[i]<(c+q*v.getD i 0)%65536+b then 1 else 0)).2):=by
  rw[Kaz h,fC];simp[KbE,Kcu,Kap]
theorem N4:∀(a v:List Nat)(q c b:Nat),Qq a->b<=1->v.length<=a.length->
  val (fC a v q c b).1+(q*val v+c+b)=val a+65536^a.length*((fC a v q c b).2.1+(fC a v q c b).2.2)/\(fC a v q c b).2.2<=1
 | [],v,q,c,b,_,hb,h=>by have:v=[]:=Kas.1 (by simpa using h);subst this;simp[fC,val,hb]
 |x::xs,v,q,c,b,ha,hb,h=>by
  rw[ia]at ha;have ax:(if x<(c+q*v.headD 0)%65536+b then 1 else 0)<=1:=by split<;>omega
  obtain⟨ih,Fy⟩:=N4 xs v.tail q ((c+q*v.headD 0)/65536) (if x<(c+q*v.headD 0)%65536+b then 1 else 0) ha.2 ax (by simp at h ⊢;omega);refine⟨?_,Fy⟩;simp only[fC];rw[val,val,zH v,KaW,KbA,KaS (65536^xs.length) 65536,Kbi,Ka2 q,Kby q 65536];generalize fC xs v.tail q ((c+q*v.headD 0)/65536) (if x<(c+q*v.headD 0)%65536+b then 1 else 0)=r at *
  generalize 65536^xs.length*(r.2.1+r.2.2)=z at *
  generalize q*v.headD 0=y at *
  generalize q*val v.tail=t at *
  have h0:=ha.1;split at ih
  ·omega
  ·omega
open Go
variable {fr : Fr} {hp : HP}
theorem ah0{ty len:Nat}{cj:PV->List PV->Prop}{xs':List PV}(hB:hp B0=some ⟨1,ty,xs',false⟩)(hi:mP xs')(hl:xs'.length=len)(an:cj (.aw []) xs'):r6 [] ty len cj fr hp:=
 ⟨xs',hB,hi,hl,.inl ⟨by simp,.aw [],trivial,by simp,an⟩⟩
theorem QG{ty len s:Nat}{cj:PV->List PV->Prop}{xs':List PV}{p:PV}(hB:hp B0=some ⟨1,ty,xs',false⟩)(hi:mP xs')(hl:xs'.length=len)(hs:aK hp (fr s)=p)(hd:p.aE=true)(an:cj p xs'):r6 [.t s] ty len cj fr hp:=
 ⟨xs',hB,hi,hl,.inl ⟨by simp only[ko];rw[hs];exact hd,p,by simp only[jL];rw[hs];exact Qx p,fun β o n e=>by subst e;simp[PV.aE]at hd,an⟩⟩
theorem Po{ty len s o n:Nat}{cj:PV->List PV->Prop}{xs':List PV}(hB:hp B0=some ⟨1,ty,xs',false⟩)(hi:mP xs')(hl:xs'.length=len)(hs:fr s= .ay B0 o n)(an:cj (.ay B0 o n) xs'):r6 [.t s] ty len cj fr hp:=
 ⟨xs',hB,hi,hl,.inr ⟨s,o,n,rfl,hs,an⟩⟩
end Go.FW
namespace Go.FW
open Go
variable {C : Ctx} {fr : Fr} {hp : HP} {K : Qg}
theorem Ao{a b i:Nat}(h:b<2^i):a*2^i|||b=a*2^i+b:=by rw[<-Nat.shiftLeft_eq,Nat.shiftLeft_add_eq_or_of_lt h]
theorem QH{bt:Bool}{x y d:Nat}(hx:x<18446744073709551616)(hy:y<18446744073709551616):cm .or bt (.int .u64 (x:Int)) (.int .u64 (y:Int)) d fr hp K=K (af fr d (.int .u64 ((x|||y:Nat):Int))) hp:=by
 have h1:(BitVec.ofInt 64 (x:Int)|||BitVec.ofInt 64 (y:Int)).toNat=x|||y:=by rw[BitVec.toNat_or,BitVec.ofInt_natCast,BitVec.ofInt_natCast,BitVec.toNat_ofNat,BitVec.toNat_ofNat,KaR hx,KaR hy]
 have h2:x|||y<18446744073709551616:=Nat.or_lt_two_pow (n:=64) hx hy;simp only[cm,IntKind.bits,h1,true_and];rw[rQ (by omega) (by omega)];exact congrArg (fun z:Nat=>K (af fr d (.int .u64 (z:Int))) hp) h1
theorem QI{bt:Bool}{x y d:Nat}(hx:x<4294967296)(hy:y<4294967296):cm .or bt (.int .u32 (x:Int)) (.int .u32 (y:Int)) d fr hp K=K (af fr d (.int .u32 ((x|||y:Nat):Int))) hp:=by
 have h1:(BitVec.ofInt 32 (x:Int)|||BitVec.ofInt 32 (y:Int)).toNat=x|||y:=by rw[BitVec.toNat_or,BitVec.ofInt_natCast,BitVec.ofInt_natCast,BitVec.toNat_ofNat,BitVec.toNat_ofNat,KaR hx,KaR hy]
 have h2:x|||y<4294967296:=Nat.or_lt_two_pow (n:=32) hx hy;simp only[cm,IntKind.bits,h1,true_and];rw[Di (by omega) (by omega)];exact congrArg (fun z:Nat=>K (af fr d (.int .u32 (z:Int))) hp) h1
theorem ah1{bt:Bool}{x y d:Nat}(hx:x<65536)(hy:y<65536):cm .or bt (.int .u16 (x:Int)) (.int .u16 (y:Int)) d fr hp K=K (af fr d (.int .u16 ((x|||y:Nat):Int))) hp:=by
 have h1:(BitVec.ofInt 16 (x:Int)|||BitVec.ofInt 16 (y:Int)).toNat=x|||y:=by rw[BitVec.toNat_or,BitVec.ofInt_natCast,BitVec.ofInt_natCast,BitVec.toNat_ofNat,BitVec.toNat_ofNat,KaR hx,KaR hy]
 have h2:x|||y<65536:=Nat.or_lt_two_pow (n:=16) hx hy;simp only[cm,IntKind.bits,h1,true_and];rw[acZ (by omega) (by omega)];exact congrArg (fun z:Nat=>K (af fr d (.int .u16 (z:Int))) hp) h1
theorem Pp{bt:Bool}{k':IntKind}{x s d:Nat}(hs:s<=64)(h:x*2^s<18446744073709551616):cm .shl bt (.int .u64 (x:Int)) (.int k' (s:Int)) d fr hp K=K (af fr d (.int .u64 ((x*2^s:Nat):Int))) hp:=by
 have h0:(0:Int)<=s:=by omega
 have h1:min ((s:Int).toNat) IntKind.u64.bits=s:=by simp[IntKind.bits];omega
 simp only[cm,h0,true_and,h1];rw[show(x:Int)*2^s=((x*2^s:Nat):Int)by push_cast;rfl,rQ (by omega) (by omega)]
theorem Pq{bt:Bool}{k':IntKind}{x s d:Nat}(hs:s<=32)(h:x*2^s<4294967296):cm .shl bt (.int .u32 (x:Int)) (.int k' (s:Int)) d fr hp K=K (af fr d (.int .u32 ((x*2^s:Nat):Int))) hp:=by
 have h0:(0:Int)<=s:=by omega
 have h1:min ((s:Int).toNat) IntKind.u32.bits=s:=by simp[IntKind.bits];omega
 simp only[cm,h0,true_and,h1];rw[show(x:Int)*2^s=((x*2^s:Nat):Int)by push_cast;rfl,Di (by omega) (by omega)]
theorem G'{bt:Bool}{k':IntKind}{x d:Nat}(h:x<281474976710656):cm .shl bt (.int .u64 (x:Int)) (.int k' 16) d fr hp K=K (af fr d (.int .u64 ((x*65536:Nat):Int))) hp:=
 Pp (s:=16) (by omega) (by omega)
theorem Ha{bt:Bool}{k':IntKind}{x d:Nat}(h:x<65536):cm .shl bt (.int .u32 (x:Int)) (.int k' 16) d fr hp K=K (af fr d (.int .u32 ((x*65536:Nat):Int))) hp:=
 Pq (s:=16) (by omega) (by omega)
theorem Ib{bt:Bool}{k':IntKind}{x s d:Nat}(hs:s<=32):cm .shr bt (.int .u32 (x:Int)) (.int k' (s:Int)) d fr hp K=K (af fr d (.int .u32 ((x/2^s:Nat):Int))) hp:=by
 rw[FO (by omega)];have h1:min ((s:Int).toNat) IntKind.u32.bits=s:=by simp[IntKind.bits];omega
 rw[h1,KcP _ (Int.pow_nonneg (by omega))];rw[show(x:Int)/2^s=((x/2^s:Nat):Int)by push_cast;rfl]
theorem HV{bt:Bool}{x y d:Nat}(hx:x<281474976710656)(hy:y<65536):cm .or bt (.int .u64 ((x*65536:Nat):Int)) (.int .u64 (y:Int)) d fr hp K=K (af fr d (.int .u64 ((x*65536+y:Nat):Int))) hp:=by rw[QH (by omega) (by omega),show x*65536|||y=x*65536+y from Ao (i:=16) hy]
theorem ade{bt:Bool}{x y d:Nat}(hx:x<65536)(hy:y<65536):cm .or bt (.int .u32 ((x*65536:Nat):Int)) (.int .u32 (y:Int)) d fr hp K=K (af fr d (.int .u32 ((x*65536+y:Nat):Int))) hp:=by rw[QI (by omega) (by omega),show x*65536|||y=x*65536+y from Ao (i:=16) hy]
theorem Um{bt:Bool}{x y d:Nat}(hx:x<65536)(hy:y<65536):cm .or bt (.int .u32 (y:Int)) (.int .u32 ((x*65536:Nat):Int)) d fr hp K=K (af fr d (.int .u32 ((x*65536+y:Nat):Int))) hp:=by rw[QI (by omega) (by omega),Nat.or_comm,show x*65536|||y=x*65536+y from Ao (i:=16) hy]
theorem Ic{bt:Bool}{k:IntKind}{x y d:Nat}(hy:0<y)(hw:k.wrap ((x/y:Nat):Int)=((x/y:Nat):Int)):cm .quo bt (.int k (x:Int)) (.int k (y:Int)) d fr hp K=K (af fr d (.int k ((x/y:Nat):Int))) hp:=by
 have:(y:Int)≠0:=by omega
 simp only[cm,ne_eq,this,not_false_eq_true,true_and];rw[aen (by omega),<-hw];rfl
theorem qJ{bt:Bool}{k:IntKind}{x y d:Nat}(hy:0<y):cm .rem bt (.int k (x:Int)) (.int k (y:Int)) d fr hp K=K (af fr d (.int k ((x%y:Nat):Int))) hp:=by
 have:(y:Int)≠0:=by omega
 simp only[cm,ne_eq,this,not_false_eq_true,true_and];rw[aeo (by omega)];rfl
theorem abt{n:Nat}(h:n<18446744073709551616):IntKind.u64.wrap (n:Int)=n:=rQ (by omega) (by omega)
theorem aa4{n:Nat}(h:n<4294967296):IntKind.u32.wrap (n:Int)=n:=Di (by omega) (by omega)
theorem aa5{n:Nat}(h:n<9223372036854775808):IntKind.i64.wrap (n:Int)=n:=vg (by omega) (by omega)
theorem Ah{bt:Bool}{x y d:Nat}(hy:0<y)(hx:x<18446744073709551616):cm .quo bt (.int .u64 (x:Int)) (.int .u64 (y:Int)) d fr hp K=K (af fr d (.int .u64 ((x/y:Nat):Int))) hp:=
 Ic hy (abt (KcF (KcL x y) hx))
theorem aeY{bt:Bool}{x y d:Nat}(hy:0<y)(hx:x<4294967296):cm .quo bt (.int .u32 (x:Int)) (.int .u32 (y:Int)) d fr hp K=K (af fr d (.int .u32 ((x/y:Nat):Int))) hp:=
 Ic hy (aa4 (KcF (KcL x y) hx))
theorem Ie{bt:Bool}{x y d:Nat}(hy:0<y)(hx:x<9223372036854775808):cm .quo bt (.int .i64 (x:Int)) (.int .i64 (y:Int)) d fr hp K=K (af fr d (.int .i64 ((x/y:Nat):Int))) hp:=
 Ic hy (aa5 (KcF (KcL x y) hx))
theorem aeZ{e d β o n H:Nat}{k:IntKind}(h:H<=n)(he:(hp β).map (·.e)=some e):iI e (.ay β o n) none (some (.int k (H:Int))) none d fr hp K=K (af fr d (.ay β o H)) hp:=by
 have h1:(H:Int)<=(n:Int):=by omega
 simp[iI,ix,he,h1]
theorem ae0{e d β o n L H:Nat}{k k':IntKind}(h1:L<=H)(h:H<=n)(h0:L<n)(he:(hp β).map (·.e)=some e):iI e (.ay β o n) (some (.int k (L:Int))) (some (.int k' (H:Int))) none d fr hp K=K (af fr d (.ay β (o+L) (H-L))) hp:=by
 have q1:(H:Int)<=(n:Int):=by omega
 have q2:(L:Int)<=(H:Int):=by omega
 have q3:(L:Int)<(n:Int):=by omega
 simp[iI,ix,he,q1,q2,q3]
theorem Un{bt:Bool}{x d:Nat}(hx:x<9223372036854775808):cm .quo bt (.int .i64 (x:Int)) (.int .i64 16) d fr hp K=K (af fr d (.int .i64 ((x/16:Nat):Int))) hp:=
 Ie (y:=16) (by omega) hx
theorem Uo{bt:Bool}{x d:Nat}:cm .rem bt (.int .i64 (x:Int)) (.int .i64 16) d fr hp K=K (af fr d (.int .i64 ((x%16:Nat):Int))) hp:=
 qJ (y:=16) (by omega)
def nZ(s:Nat):List Nat->Nat->List Nat
 | [],c=>[c]
 |x::xs,c=>((x*2^s)%65536+c)::nZ s xs (x*2^s/65536)
theorem N5(s:Nat):∀(l:List Nat)(c:Nat),val (nZ s l c)=val l*2^s+c
 | [],c=>by simp[nZ,val]
 |x::xs,c=>by rw[nZ,val,N5 s xs,val,KaI,Kbi];generalize x*2^s=y;generalize val xs*2^s=z;omega
theorem Hb{s:Nat}(h:s<=16):(65536:Nat)=2^s*2^(16-s):=by rw[<-Nat.pow_add,show s+(16-s)=16 by omega]
theorem Oq{s x c:Nat}(h:s<=16)(hc:c<2^s):(x*2^s)%65536+c<65536/\c|||(x*2^s)%65536=(x*2^s)%65536+c:=by
 have e:(x*2^s)%65536=(x%2^(16-s))*2^s:=by rw[Hb h,KaS x,Nat.mul_mod_mul_left,KaS]
 have h1:x%2^(16-s)<2^(16-s):=Kbv _ (KbN (by omega));have h2:(x%2^(16-s)+1)*2^s<=2^(16-s)*2^s:=Kaf _ h1;rw[KaI,KaS (2^(16-s)),<-Hb h]at h2;rw[e];refine⟨by omega,?_⟩;rw[Nat.or_comm,Ao hc]
theorem Up{s x:Nat}(h:s<=16)(hx:x<65536):x*2^s/65536<2^s:=by rw[Kbn (by omega),KaS];exact Nat.mul_lt_mul_of_pos_left hx (KbN (by omega))
theorem Tk{s:Nat}(h:s<=15):∀(l:List Nat)(c:Nat),Qq l->c<2^s->Qq (nZ s l c)
 | [],c,_,hc=>by have:2^s<=2^15:=KbD (by omega) h;simp[nZ,Qq];omega
 |x::xs,c,hl,hc=>by rw[ia]at hl;rw[nZ,ia];exact⟨(Oq (by omega) hc).1,Tk h xs _ hl.2 (Up (by omega) hl.1)⟩
theorem Sp(s:Nat):∀(l:List Nat)(c:Nat),(nZ s l c).length=l.length+1
 | [],_=>rfl
 |x::xs,c=>by simp[nZ,Sp s xs]
theorem ah2{s x:Nat}(h:s<=15)(hx:x<65536):x*2^s<2147483648:=by have:2^s<=2^15:=KbD (by omega) h;have:=KaJ (show x<=65535 by omega) this;omega
theorem Ot(l:List Nat):∀n,n<=l.length->cut l n=l.take (cut l n).length
 |0,_=>by simp[cut]
 |n+1,h=>by
  unfold cut;split
  ·exact Ot l n (by omega)
  ·rw[KaF,KbZ h]
theorem adf{l:List Nat}(h:Qq l):l.take (nl (val l))=ah (val l):=by have:=Ot l l.length (Kac _);rw[Ad h]at this;exact this.symm
end Go.FW
namespace Go.FW
open Go
theorem Ag.Xj{P:Program}{f:FuncId}{args:List PV}{ty:TypeId}{ys:List PV}(h:Ag P f args ty (· =ys)):Qc P f args (· = .sl 1 ys):=by
 refine⟨h.1,fun w X bn hX h2 h3=>(h.2 w X bn hX h2 h3).mono ?_⟩;rintro e w' ⟨v,b,cap,ys',rfl,rfl,hb,hx,hI,dR,hm,rfl⟩;refine⟨_,_,rfl,hx,?_,rfl⟩;obtain⟨hint,cur,cp,i1,i2,i3,i4,i5⟩:=hI;obtain⟨cur',ty',d1,d2⟩:=dR;rw[i1]at d1;cases d1;have qW:b<w'.heap.size:=(KaH.1 i1).1;have e:cp=cap:=by omega
 subst e;refine Qu.sl (w:=w') (X:=X) 1 ys' b 0 cp (fun i j=>cur.getD (i+j) undef) (fun BD=>by have:=hX b BD;omega) qW i3 i4 (Dj hint |> fun h i x hx=>(h i x hx).1) (fun i hi j hj=>?_) (fun i x hx j y hy=>?_)
 ·have:j=0:=by omega
  subst this;simp only[Kbd,KbF,KaU];exact lG i1 (by omega)
 ·obtain⟨k,n,rfl⟩:=hint x (Kai hx);cases j with
  |zero=>simp[PV.cells]at hy;subst hy;show Qu w' X (.int k n) (cur.getD (i+0) undef);rw[KaU,i5 i k n hx];exact Qu.int k n
  |succ j=>simp[PV.cells]at hy
def mQ(s:Nat):List Nat->List Nat
 | []=>[]
 |x::xs=>((xs.headD 0*65536+x)/2^s)%65536::mQ s xs
theorem GA(s:Nat):∀l,(mQ s l).length=l.length
 | []=>rfl
 |x::xs=>by simp[mQ,GA s xs]
theorem Tl(s:Nat):∀l,Qq (mQ s l)
 | []=>nH
 |x::xs=>by rw[mQ,ia];exact⟨by omega,Tl s xs⟩
theorem aa6{s i:Nat}{l:List Nat}(h:i<l.length):mQ s (l.drop i)=((l.getD (i+1) 0*65536+l[i])/2^s)%65536::mQ s (l.drop (i+1)):=by rw[Kaz h,mQ];simp[KbE,Kcu,Kap]
theorem adg{x V s:Nat}(hs:s<=16)(hx:x<65536):(x+65536*V)/2^s=((V%65536*65536+x)/2^s)%65536+65536*(V/2^s):=by
 have hp:0<2^s:=KbN (by omega);have e0:=Kbr V (2^s);have hr:=Kbv V hp;generalize hq:V/2^s=q at *
 generalize Wp:V%2^s=r at *
 have hy:V%65536%2^s=r:=by rw[Hb hs,Nat.mod_mul_right_mod];exact Wp
 have e1:=Kbr (V%65536) (2^s);rw[hy]at e1;generalize V%65536/2^s=t at *
 have ar:(65536*r+x)/2^s<65536:=by rw[Kbn hp];have:65536*(r+1)<=65536*2^s:=Ka7 _ hr;omega
 have k1:x+65536*V=(65536*r+x)+2^s*(65536*q):=by rw[<-e0,Ka2,Kby];omega
 have k2:V%65536*65536+x=(65536*r+x)+2^s*(65536*t):=by rw[<-e1,KaI,Kbi,KaS t 65536];omega
 rw[k1,k2,Kcs _ _ hp,Kcs _ _ hp,Kcp,KaR ar]
theorem Ou{s:Nat}(hs:s<=16):∀l,Qq l->val (mQ s l)=val l/2^s
 | [],_=>by simp[mQ,val]
 | x::xs,h=>by
  rw[ia]at h;rw[mQ,val,Ou hs xs h.2,val,adg hs h.1];have:xs.headD 0=val xs%65536:=by
   cases xs with
   |nil=>simp[val]
   |cons y ys=>have:=h.2 y (by simp);simp[val];omega
  rw[this]
variable {C : Ctx} {ρ : Nat -> Option Nat} {fr az : Fr} {hp : HP} {w : World} {K K' R R' : Qg}
def ch(fr az:Fr):Prop:=∀s,az s=fr s∨az s= .undef
theorem ch.refl(fr:Fr):ch fr fr:=fun _=>.inl rfl
theorem ch.trans{a b c:Fr}(h:ch a b)(k:ch b c):ch a c:=fun s=>by
 rcases k s with e|e
 ·rw[e];exact h s
 ·exact .inr e
theorem ch.af(h:ch fr az)(d:Nat){v v':PV}(hv:v'=v∨v'= .undef):ch (af fr d v) (af az d v'):=fun s=>by
 unfold FW.af;split
 ·exact hv
 ·exact h s
theorem ch.iJ(h:ch fr az)(d:Nat)(v:PV):ch (FW.af fr d v) (FW.af az d v):=h.af d (.inl rfl)
theorem ch.kill(h:ch fr az)(β:Nat):ch (cK β fr) (cK β az):=fun s=>by
 unfold cK;rcases h s with e|e
 ·exact .inl (by rw[e])
 ·right;rw[e];simp[bZ,PV.refs]
theorem ch.ev(h:ch fr az)(x:aP):ev az x=ev fr x∨ev az x= .undef:=by
 cases x with
 |t n=>exact h n
 |c p=>exact .inl rfl
theorem ch.mem(h:ch fr az){q:PV->Prop}(hq:¬q .undef){l:List aP}(hl:∀p∈l.map (FW.ev az),q p):l.map (FW.ev az)=l.map (FW.ev fr):=by
 refine Kbb fun x hx=>?_;rcases h.ev x with e|e
 ·exact e
 ·exact absurd (e▸hl _ (Kcz hx)) hq
theorem ch.aN(h:ch fr az){γ bE e ty:Nat}{xs:List PV}(e1:az γ= .aN bE e ty xs):fr γ= .aN bE e ty xs:=by
 rcases h γ with e2|e2
 ·rw[<-e2];exact e1
 ·rw[e1]at e2;cases e2
theorem ch.drop(h:ch fr az)(γ:Nat):ch (iM γ fr) (iM γ az):=fun s=>by
 unfold iM;rcases h s with e|e
 ·exact .inl (by rw[e])
 ·right;rw[e];rfl
theorem ch.take(h:ch fr az)(β:Nat):ch (fK β fr) (fK β az):=fun s=>by
 unfold fK;rcases h s with e|e
 ·exact .inl (by rw[e])
 ·right;rw[e];simp[de,bZ,PV.refs]
theorem ch.wk(h:ch fr az):Wk fr hp az hp:=by
 rintro C tmps w ⟨ρ,hs⟩;refine⟨ρ,hs.sz,hs.ext,hs.gY,hs.own,hs.inj,fun s=>?_⟩;rcases h s with h|h<;>rw[h]
 ·exact hs.eZ s
 ·trivial
theorem ch.Xd{tmps:Array Value}(h:ch fr az)(hs:aI C ρ fr hp tmps w):aI C ρ az hp tmps w:=by
 refine⟨hs.sz,hs.ext,hs.gY,hs.own,hs.inj,fun s=>?_⟩;rcases h s with h|h<;>rw[h]
 ·exact hs.eZ s
 ·trivial
theorem F9(h:ch fr az)(x:Option aP):x.map (ev az)=x.map (ev fr)∨x.map (ev az)=some .undef:=by
 cases x with
 |none=>exact .inl rfl
 |some x=>rcases h.ev x with e|e<;>simp[e]
theorem XI(d:Int):ix d (some .undef)=none:=rfl
theorem Ig (h:ch fr az) (hK:∀f f' hp,ch f f'->K' f' hp->K f hp) (o:cB):bp C o az hp K'->bp C o fr hp K:=by
 have hu:∀(d:Nat)(v:PV)(hp:HP),K' (af az d v) hp->K (af fr d v) hp:=fun d v hp H=>hK _ _ _ (h.iJ d v) H;have hk:∀(β d:Nat)(v:PV)(hp:HP),K' (af (cK β az) d v) hp->K (af (cK β fr) d v) hp:=fun β d v hp H=>hK _ _ _ ((h.kill β).iJ d v) H;have hz:∀hp,K' az hp->K fr hp:=fun hp H=>hK _ _ _ h H;have mono:∀ {o:cB},bp C o fr hp K'->bp C o fr hp K:=fun H=>HU (fun f hp H=>hK _ _ _ (ch.refl f) H) _ H;cases o with
 |mv d x=>exact fun H=>hK _ _ _ (h.af d (h.ev x)) H
 | pick d c a b=>
  simp only[bp,rZ];rcases h.ev c with e|e
  ·rw[e];split
   ·exact fun H=>⟨fun t=>hK _ _ _ (h.af d (h.ev a)) (H.1 t),fun t=>hK _ _ _ (h.af d (h.ev b)) (H.2 t)⟩
   ·exact id
  ·rw[e];exact False.elim
 | call d pr f args=>
  simp only[bp,mJ];rcases h.ev f with e|e
  ·rw[e];split
   ·rintro⟨h1,h2⟩;refine⟨h1,fun ρ tmps w fv cv av a1 a2 a3 a4 a5 a6 a7 a8=>?_⟩;refine(h2 ρ tmps w fv cv av a1 (h.Xd a2) a3 a4 (by simpa using a5) a6 a7 (fun i x hx=>?_)).mono ?_
    ·simp only[Kax,Kaa]at hx;obtain⟨y,hy,rfl⟩:=hx;rcases h.ev y with e|e
     ·rw[e];exact a8 i _ (by simp[hy])
     ·rw[e];trivial
    ·rintro e w' ⟨v,f1,an,e1,e2,e3,e4⟩;exact⟨v,f1,an,e1,e2,e3,hK _ _ _ (ch.refl _) e4⟩
   ·exact id
  ·rw[e];exact False.elim
 | bs d e ty ps=>
  simp only[bp,oc];by_cases hb:oM (ps.map (ev az))=true
  ·rw[if_pos hb];rintro⟨h1,h2⟩;have e:ps.map (ev az)=ps.map (ev fr):=by
    match ps,hb with
    | [],hb=>simp[oM]at hb
    | [p],hb=>
     rcases h.ev p with e|e
     ·simp[e]
     ·rw[Kba,Kbt,e]at hb;simp[oM,lL]at hb
    |p::q::ps,hb=>simp[oM]at hb
   rw[e]at h2 hb;rw[if_pos hb];exact⟨h1,hK _ _ _ (((h.take _).iJ _ _).iJ _ _) h2⟩
  ·rw[if_neg hb];rintro⟨h1,h2,h3⟩;have e:=h.mem (q:=fun p=>(aK hp p).aE=true) (by simp[aK,cF,PV.aE]) (l:=ps) (fun p hp=>(h2 p hp).1);rw[e]at h2 h3 hb;rw[if_neg hb];exact⟨h1,h2,hk _ _ _ _ h3⟩
 | bU d z ps=>
  have key:((∀x∈ps,ev az x.2.2≠ .undef)->(ps.map fun p=>(p.1,p.2.1,ev az p.2.2))=ps.map fun p=>(p.1,p.2.1,ev fr p.2.2)):=fun hu=>by
   refine Kbb fun x hx=>?_;rcases h.ev x.2.2 with e|e
   ·rw[e]
   ·exact absurd e (hu x hx)
  intro H;simp only[bp,kD]at H;split at H
  ·rename_i hn;obtain⟨h2,h3⟩:=H;have e:=key fun x hx e=>by obtain⟨cs,h4,_⟩:=h2 _ (Kcz hx);rw[e]at h4;simp[fw]at h4
   rw[e]at h2 h3 hn;simp only[bp,kD];rw[if_pos hn];exact⟨h2,hK _ _ _ (h.iJ _ _) h3⟩
  ·rename_i hn;obtain⟨h2,h3⟩:=H;have e:=key fun x hx e=>by have:=(h2 _ (Kcz hx)).1;rw[e]at this;simp[aK,cF,PV.aE]at this
   rw[e]at h2 h3 hn;simp only[bp,kD];rw[if_neg hn];exact⟨h2,hK _ _ _ (h.iJ _ _) h3⟩
 |fn d f first cap=>simp only[bp];rintro⟨h2,h3⟩;have mY:=h2;rw[List.all_append,Kat,Kay,Kay]at mY;have e1:=h.mem (q:=fun p=>p.kM=true) (by simp[PV.kM]) mY.1;have e2:=h.mem (q:=fun p=>p.kM=true) (by simp[PV.kM]) mY.2;rw[e1,e2]at h2 h3;exact⟨h2,hK _ _ _ (h.iJ _ _) h3⟩
 | BQ d x=>
  simp only[bp,Av];rcases h.ev x with e|e
  ·rw[e];intro H;revert H
   repeat' split
   all_goals first|exact id|exact hz _|exact hu _ _ _|grind
  ·rw[e];intro H;revert H;repeat' split
   all_goals first|exact id|exact False.elim|grind
 | bin d op bt x y=>
  simp only[bp];rcases h.ev x with e|e<;>rcases h.ev y with e'|e'<;>rw[e,e']
  ·unfold cm;intro H;revert H;split
   ·split<;>first|exact fun H=>⟨H.1,hu _ _ _ H.2⟩|exact fun H=>⟨H.1,H.2.1,hu _ _ _ H.2.2⟩|exact id
   ·split<;>first|exact fun H=>⟨H.1,hu _ _ _ H.2⟩|exact id
   ·exact id
  all_goals
   unfold cm;intro H;revert H
   repeat' split
   all_goals first|exact False.elim|(intros;simp_all;done)|(rename_i h1 _;cases h1;done)|(rename_i h1;cases h1;done)
 | sl d e x lo hi mx=>
  simp only[bp,iI];rcases h.ev x with e0|e0<;>rcases F9 h lo with e1|e1<;>rcases F9 h hi with e2|e2<;>rcases F9 h mx with e3|e3<;>rw[e0,e1,e2,e3]
  all_goals
   intro H;revert H
   try simp only[XI]
   repeat' split
   all_goals first|exact id|exact False.elim|(intros;simp_all;done)|grind
 | ld d n ag x=>
  simp only[bp,kP];rcases h.ev x with e|e
  ·rw[e];intro H;revert H;split
   ·split
    ·exact fun⟨a,b,c,k⟩=>⟨a,b,c,hu _ _ _ k⟩
    ·exact id
   ·exact fun⟨a,b,k⟩=>⟨a,b,hu _ _ _ k⟩
   ·exact fun⟨a,b,k⟩=>⟨a,b,hu _ _ _ k⟩
   ·intro H;split at H
    ·rename_i ak;rw[h.aN ak];obtain⟨a,b,c,d,k⟩:=H;exact⟨a,b,c,d,hu _ _ _ k⟩
    ·exact H.elim
   ·exact id
  ·rw[e];exact fun H=>H.elim
 | st n x y=>
  simp only[bp,o9];rcases h.ev x with e|e<;>rcases h.ev y with e'|e'<;>rw[e,e']
  ·intro H;revert H;split
   ·split
    ·exact fun⟨a,b,c,d,f,k⟩=>⟨a,b,c,d,f,hz _ k⟩
    ·exact id
   ·intro H;split at H
    ·rename_i ak;rw[h.aN ak];obtain⟨a,b,c,d,H⟩:=H;refine⟨a,b,c,d,?_⟩;revert H;split
     ·exact fun⟨f,k⟩=>⟨f,hK _ _ _ ((h.drop _).iJ _ _) k⟩
     ·exact id
    ·exact H.elim
   ·exact id
  ·intro H;exfalso;revert H;split
   ·split
    ·rintro⟨_,b,_⟩;simp[aK,cF,PV.aE]at b
    ·exact id
   ·split
    ·rintro⟨_,_,_,_,H⟩;exact H
    ·exact id
   ·exact id
  ·exact fun H=>H.elim
  ·exact fun H=>H.elim
 | app d e by_ ty x y=>
  simp only[bp,iO];rcases h.ev y with e'|e'
  ·rw [e'];intro H;revert H;split
   ·unfold xT;split
    ·rename_i δ _;rcases h δ with e2|e2
     ·rw [e2];split
      ·rintro⟨a1,a2,a3,H⟩;refine⟨a1,a2,a3,?_⟩;rcases h.ev x with e|e
       ·rw[e]at H;revert H;split
        ·exact fun H=>⟨H.1,hK _ _ _ (((h.take _).iJ _ _).iJ _ _) H.2⟩
        ·rename_i γ k _;rcases h γ with e3|e3
         ·rw[e3];split
          ·exact fun H=>⟨H.1,H.2.1,hK _ _ _ (((h.take _).iJ _ _).iJ _ _) H.2.2⟩
          ·exact id
         ·rw[e3];exact fun H=>H.elim
        ·exact id
       ·rw[e]at H;exact H.elim
      ·exact id
     ·rw[e2];exact fun H=>H.elim
    ·exact id
   ·rintro⟨h0,h1,H⟩;refine⟨h0,h1,?_⟩;rcases h.ev x with e|e
    ·rw[e]at H;revert H;split
     ·rintro⟨a,b,c⟩;exact⟨a,b,hk _ _ _ _ c⟩
     ·split
      ·rintro(⟨a1,a2,a3,a4,a5,a6,a7,c⟩|⟨a1,a2,a3,c⟩)
       ·exact .inl ⟨a1,a2,a3,a4,a5,a6,a7,hk _ _ _ _ c⟩
       ·exact .inr ⟨a1,a2,a3,hK _ _ _ ((h.take _).iJ _ _) c⟩
      ·exact id
     ·exact id
    ·rw[e]at H;exact H.elim
  ·rw[e'];exact fun H=>H.elim
 | un d op x|conv d k x|len d x|BZ d x|cE d o x|yj d o n ag x|ext d x i=>
  all_goals
   simp only[bp,uK,vB,oL,vJ,qS,qN,kP,kC]
   try (rcases h.ev x with e|e<;>rw[e])
  all_goals
   intro H;revert H
   repeat' split
   all_goals first|exact id|exact False.elim|exact hu _ _ _|grind [aK,cF,PV.aE]
 | box d n ty x=>
  simp only[bp];rcases h.ev x with e|e
  ·rw[e];unfold fU;split
   ·unfold tP;exact fun H=>⟨H.1,hK _ _ _ (((h.take _).iJ _ _).iJ _ _) H.2⟩
   ·split
    ·exact hu _ _ _
    ·exact fun H=>⟨H.1,H.2.1,H.2.2.1,hk _ _ _ _ H.2.2.2⟩
  ·rw[e];intro H;simp[fU,aK,cF,PV.aE]at H
 | alloc d n ty z=>
  simp only[bp];unfold fU;split
  ·unfold tP;exact fun H=>⟨H.1,hK _ _ _ (((h.take _).iJ _ _).iJ _ _) H.2⟩
  ·split
   ·exact hu _ _ _
   ·exact fun H=>⟨H.1,H.2.1,H.2.2.1,hk _ _ _ _ H.2.2.2⟩
 | eqs d ng x y|B1 d ng x y|BY d x y|mx d x y|mn d x y|idx d e x y|BI d n e x y|BJ d n e ag x y|mk d e by_ ty z x y|tX d e x y=>
  all_goals
   simp only[bp,qQ,qR,tO,wH,wG,dM,qM,xS,o9,nv,iO,tQ];rcases h.ev x with e|e<;>rcases h.ev y with e'|e'<;>rw[e,e']
  all_goals
   intro H;revert H
   repeat' split
   all_goals first|exact id|exact False.elim|exact hu _ _ _|grind [aK,cF,PV.aE,jA]
 |bad d=>exact id
end Go.FW
namespace Go.FW
open Go
variable {C : Ctx} {ρ : Nat -> Option Nat} {fr az : Fr} {hp : HP} {w : World} {K K' R R' : Qg}
def KM(K' K:Qg):Prop:=∀f f' hp,ch f f'->K' f' hp->K f hp
inductive mR:List It->List It->Prop
 |nil:mR [] []
 |c (s:SC) {a b:List It}:mR a b->mR (.c s::a) (.c s::b)
 |o (r:RT) {a b:List It}:mR a b->mR (.o r::a) (.o r::b)
 |eb (i:Nat) {a b:List It}:mR a b->mR (.eb i::a) (.eb i::b)
 |el {J' J:Qg} {a b:List It}:KM J' J->mR a b->mR (.el J'::a) (.el J::b)
theorem mR.exit{id:Nat}:∀ {a b:List It},mR a b->(∃a' b',FW.cu id a=some a'/\FW.cu id b=some b'/\mR a' b'/\bY a'<=bY a)∨(FW.cu id a=none/\FW.cu id b=none):=by
 intro a b h;induction h with
 |nil=>exact .inr ⟨rfl,rfl⟩
 |c s h ih|o s h ih=>
  rcases ih with⟨a',b',h1,h2,h3,h4⟩|⟨h1,h2⟩
  ·exact .inl ⟨a',b',by simpa[FW.cu]using h1,by simpa[FW.cu]using h2,h3,by simp only[bY];omega⟩
  ·exact .inr ⟨by simpa[FW.cu]using h1,by simpa[FW.cu]using h2⟩
 |el _ h ih=>
  rcases ih with⟨a',b',h1,h2,h3,h4⟩|⟨h1,h2⟩
  ·exact .inl ⟨a',b',by simpa[FW.cu]using h1,by simpa[FW.cu]using h2,h3,by simp only[bY];omega⟩
  ·exact .inr ⟨by simpa[FW.cu]using h1,by simpa[FW.cu]using h2⟩
 | eb i h ih=>
  by_cases hi:i=id
  ·exact .inl ⟨_,_,by simp[FW.cu,hi],by simp[FW.cu,hi],h,by simp only[bY];omega⟩
  ·rcases ih with⟨a',b',h1,h2,h3,h4⟩|⟨h1,h2⟩
   ·exact .inl ⟨a',b',by simpa[FW.cu,hi]using h1,by simpa[FW.cu,hi]using h2,h3,by simp only[bY];omega⟩
   ·exact .inr ⟨by simpa[FW.cu,hi]using h1,by simpa[FW.cu,hi]using h2⟩
theorem C5(h:ch fr az)(hK:KM K' K)(o:cB):jB o az hp K'->jB o fr hp K:=by
 unfold jB;split
 ·exact hK _ _ _ (h.iJ _ _)
 ·exact hK _ _ _ h
theorem adh(h:ch fr az)(hK:KM K' K)(g:Option (Nat×Bool))(o:cB):oN C g o az hp K'->oN C g o fr hp K:=by
 unfold oN;split
 ·exact Ig h hK o
 ·rename_i s want;rcases h s with e|e
  ·rw[e];split
   ·exact fun H=>⟨fun t=>Ig (h.iJ _ _) hK o (H.1 t),fun t=>C5 (h.iJ _ _) hK o (H.2 t)⟩
   ·exact C5 h hK o
   ·exact id
  ·rw[e];exact False.elim
theorem rW(hR:KM R' R):∀(n:Nat)(eO sk:List It)(az fr:Fr)(hp:HP),bY eO<=n->mR eO sk->ch fr az->vc C R' eO az hp->vc C R sk fr hp:=by
 intro n;induction n with
 |zero=>
  intro eO sk az fr hp hn hs hf h;cases hs with
  |nil=>rw[vw]at h ⊢;exact hR _ _ _ hf h
  |el hJ _=>rw[vC]at h ⊢;exact hJ _ _ _ hf h
  |c s _=>exfalso;have:=SC.yZ s;simp only[bY,It.sz]at hn;omega
  |o s _=>exfalso;have:=RT.yZ s;simp only[bY,It.sz]at hn;omega
  |eb _ _=>exfalso;simp only[bY,It.sz]at hn;omega
 | succ n ih=>
  intro eO sk az fr hp hn hs hf h;cases hs with
  |nil=>rw[vw]at h ⊢;exact hR _ _ _ hf h
  |el hJ _=>rw[vC]at h ⊢;exact hJ _ _ _ hf h
  |eb i hs=>rw[B7]at h⊢;exact ih _ _ _ _ _ (by simp only[bY,It.sz]at hn;omega) hs hf h
  | o r hs=>
   cases r with
   |nil=>rw[Ar]at h ⊢;exact ih _ _ _ _ _ (by simp only[bY,It.sz,RT.sz]at hn;omega) hs hf h
   |o g o r=>rw[QE]at h⊢;exact adh (K':=fun fr hp=>vc C R' (.o r::_) fr hp) (K:=fun fr hp=>vc C R (.o r::_) fr hp) hf (fun f f' hp hf' H=>ih (.o r::_) (.o r::_) _ _ hp (by simp only[bY,It.sz,RT.sz]at hn ⊢;omega) (.o r hs) hf' H) g o h
   |wk r=>rw[Eg]at h⊢;obtain⟨bG,aF,hw,h⟩:=h;exact⟨bG,aF,hf.wk.trans hw,ih (.o r::_) (.o r::_) _ _ _ (by simp only[bY,It.sz,RT.sz]at hn ⊢;omega) (.o r hs) (ch.refl _) h⟩
   |br x y=>rw[QF]at h⊢;exact⟨ih (.o x::_) (.o x::_) _ _ _ (by simp only[bY,It.sz,RT.sz]at hn ⊢;omega) (.o x hs) hf h.1,ih (.o y::_) (.o y::_) _ _ _ (by simp only[bY,It.sz,RT.sz]at hn ⊢;omega) (.o y hs) hf h.2⟩
  | @c s a b hs=>
   cases s with
   |skip=>rw[DL]at h ⊢;exact ih _ _ _ _ _ (by simp only[bY,It.sz,SC.sz]at hn;omega) hs hf h
   |rg r=>rw[F5]at h ⊢;exact ih (.o r::_) (.o r::_) _ _ _ (by simp only[bY,It.sz,SC.sz]at hn ⊢;omega) (.o r hs) hf h
   | raw id ops=>
    rw[vc]at h⊢;intro tmps w Q qg hQ;refine h tmps w Q ?_ fun mX fh apH w2 fi hv=>hQ mX fh apH w2 fi ?_
    ·obtain⟨ρ,qg⟩:=qg;exact⟨ρ,hf.Xd qg⟩
    ·exact ih _ _ _ _ _ (by simp only[bY,It.sz,SC.sz]at hn;omega) hs (ch.refl _) hv
   |seq x y=>rw[DY]at h ⊢;exact ih (.c x:: .c y::_) (.c x:: .c y::_) _ _ _ (by simp only[bY,It.sz,SC.sz]at hn ⊢;omega) (.c x (.c y hs)) hf h
   |block id x=>rw[Dq]at h ⊢;exact ih (.c x:: .eb id::_) (.c x:: .eb id::_) _ _ _ (by simp only[bY,It.sz,SC.sz]at hn ⊢;omega) (.c x (.eb id hs)) hf h
   |ret=>rw[DZ]at h ⊢;exact hR _ _ _ hf h
   | cond c x y=>
    rw[DM]at h⊢;rcases hf.ev c with e|e
    ·rw[e]at h;unfold tH at h⊢;split at h
     ·exact⟨fun e=>ih (.c x::_) (.c x::_) _ _ _ (by simp only[bY,It.sz,SC.sz]at hn ⊢;omega) (.c x hs) hf (h.1 e),fun e=>ih (.c y::_) (.c y::_) _ _ _ (by simp only[bY,It.sz,SC.sz]at hn ⊢;omega) (.c y hs) hf (h.2 e)⟩
     ·exact h
    ·rw[e]at h;exact h.elim
   | exit id=>
    rw[DN]at h⊢;rcases hs.exit (id:=id)with⟨a',b',h1,h2,h3,h4⟩|⟨h1,h2⟩
    ·rw[h1]at h;rw[h2];simp only[vD]at h⊢;exact ih _ _ _ _ _ (by simp only[bY,It.sz,SC.sz]at hn;omega) h3 hf h
    ·rw[h1]at h;exact h.elim
   |loop x=>rw[u7]at h⊢;obtain⟨I,μ,⟨bG,aF,h1,lW⟩,h2⟩:=h;refine⟨I,μ,⟨bG,aF,hf.wk.trans h1,lW⟩,fun fr hp hI=>?_⟩;refine ih (.c x:: .el _::_) (.c x:: .el _::_) _ _ _ (by simp only[bY,It.sz,SC.sz]at hn ⊢;omega) (.c x (.el ?_ hs)) (ch.refl _) (h2 fr hp hI);rintro f f' an hf ⟨bG,aF,g1,g2,g3⟩;exact⟨bG,aF,hf.wk.trans g1,g2,g3⟩
def lC:List (Nat×Nat)->Nat->Bool
 | [],_=>false
 |(a,b)::W,s=>(decide (a<=s)&&decide (s<=b))||lC W s
theorem ae1(s:Nat):lC [] s=false:=rfl
theorem Dk(a b s:Nat)(W:List (Nat×Nat)):lC ((a,b)::W) s=((decide (a<=s)&&decide (s<=b))||lC W s):=rfl
def aQ(W:List (Nat×Nat))(J F:Fr):Fr:=fun s=>if lC W s then J s else F s
theorem P9(W:List (Nat×Nat))(J F:Fr)(s:Nat):aQ W J F s=if lC W s then J s else F s:=rfl
theorem Pr{W:List (Nat×Nat)}{a:Nat}{v:PV}{J F:Fr}(h:lC W a=true):af (aQ W J F) a v=aQ W (af J a v) F:=by
 funext s;unfold af aQ;by_cases hs:s=a
 ·subst hs;rw[if_pos rfl,if_pos h];simp
 ·rw[if_neg hs];split
  ·simp[hs]
  ·rfl
theorem adi{W:List (Nat×Nat)}{a:Nat}{v:PV}{J F:Fr}:af (aQ W J F) a v=if lC W a=true then aQ W (af J a v) F else aQ ((a,a)::W) (af J a v) F:=by
 split
 ·exact Pr ‹_›
 ·funext s;unfold af aQ;by_cases hs:s=a
  ·subst hs;simp[lC]
  ·have:(decide (a<=s)&&decide (s<=a))=false:=by rw[Bool.and_eq_false_iff];simp only[decide_eq_false_iff_not];omega
   simp only[Dk,this,Kcn,if_neg hs]
theorem aa7{W:List (Nat×Nat)}{β:Nat}{J F:Fr}:cK β (aQ W J F)=aQ W (cK β J) (cK β F):=by funext s;unfold cK aQ;split<;>rfl
def bF(B:List Nat)(F:Fr):Fr:=fun s=>if(F s).refs.any B.contains then .undef else F s
theorem ks(F:Fr):bF [] F=F:=by funext s;simp[bF]
theorem Cr{β:Nat}{B:List Nat}{F:Fr}(h:B.contains β=true):cK β (bF B F)=bF B F:=by
 funext s;show bZ β (bF B F s)=bF B F s;by_cases h1:(F s).refs.any B.contains=true
 ·have:bF B F s= .undef:=if_pos h1;rw[this];rfl
 ·have:bF B F s=F s:=if_neg h1;rw[this,bZ,if_neg];intro h2;exact h1 (Ka4.2 ⟨β,by simpa using h2,h⟩)
theorem XJ{β:Nat}{B:List Nat}{F:Fr}:cK β (bF B F)=if B.contains β=true then bF B F else bF (β::B) F:=by
 split
 ·exact Cr ‹_›
 ·funext s;show bZ β (bF B F s)=bF (β::B) F s;unfold bF bZ;by_cases h1:(F s).refs.any B.contains=true
  ·have h2:(F s).refs.any (β::B).contains=true:=by obtain⟨x,hx,ma⟩:=Ka4.1 h1;exact Ka4.2 ⟨x,hx,by rw[Kav,ma,Kda]⟩
   simp only[if_pos h1,if_pos h2];rfl
  ·simp only[if_neg h1];by_cases h2:(F s).refs.contains β=true
   ·have h3:(F s).refs.any (β::B).contains=true:=Ka4.2 ⟨β,by simpa using h2,by simp⟩;rw[if_pos h2,if_pos h3]
   ·rw[if_neg h2,if_neg];intro h3;obtain⟨x,hx,ma⟩:=Ka4.1 h3;rw[Kav,KbS]at ma;rcases ma with e|e
    ·have:x=β:=by simpa using e
     subst this;exact h2 (by simpa using hx)
    ·exact h1 (Ka4.2 ⟨x,hx,e⟩)
theorem Hc(B:List Nat)(F:Fr)(s:Nat):bF B F s=if(F s).refs.any B.contains then .undef else F s:=rfl
theorem HW(W:List (Nat×Nat))(B:List Nat):ch fr (aQ W fr (bF B fr)):=fun s=>by
 unfold aQ bF;split
 ·exact .inl rfl
 ·split
  ·exact .inr rfl
  ·exact .inl rfl
def xN(W:List (Nat×Nat))(F:Fr)(I:Nat->Fr->HP->Prop)(n:Nat):Qg:=fun az an=>∃J m,ch az (aQ W J F)/\m<n/\I m J an
theorem Qh{W:List (Nat×Nat)}{F J:Fr}{I:Nat->Fr->HP->Prop}{n:Nat}(m:Nat)(hl:m<n)(h:I m J hp):xN W F I n (aQ W J F) hp:=⟨J,m,ch.refl _,hl,h⟩
theorem adj{W:List (Nat×Nat)}{F:Fr}{I:Nat->Fr->HP->Prop}{n:Nat}:KM (xN W F I n) (xN W F I n):=by rintro f f' hp hf ⟨J,m,h1,h2,h3⟩;exact⟨J,m,hf.trans h1,h2,h3⟩
def gd(R:Qg)(sk:List It):Prop:=KM R R/\mR sk sk
theorem Qz{sk:List It}{x:SC}(cz:gd R sk)(W:List (Nat×Nat))(B:List Nat)(I:Nat->Fr->HP->Prop)(m0:Nat)(h0:I m0 fr hp)
  (h:∀m J hp,I m J hp->vc C R (.c x:: .el (xN W (bF B fr) I m)::sk) (aQ W J (bF B fr)) hp):vc C R (.c (.loop x)::sk) fr hp:=by
 refine zG (fun m az an=>∃J,az=aQ W J (bF B fr)/\I m J an) m0 (HW W B).wk ⟨fr,rfl,h0⟩ ?_;rintro m _ an ⟨J,rfl,hI⟩;refine rW cz.1 _ _ _ _ _ _ (Kac _) (.c x (.el ?_ cz.2)) (ch.refl _) (h m J an hI);rintro f f' fh hf ⟨J2,m2,e2,hl,h2⟩;exact HN hl (hf.trans e2).wk ⟨J2,rfl,h2⟩
def oP(W:List (Nat×Nat))(F:Fr)(M:Fr->HP->Prop):Qg:=fun az an=>∃J,ch az (aQ W J F)/\M J an
theorem Ai{W:List (Nat×Nat)}{F J:Fr}{M:Fr->HP->Prop}(h:M J hp):oP W F M (aQ W J F) hp:=⟨J,ch.refl _,h⟩
theorem DQ{W:List (Nat×Nat)}{F:Fr}{M:Fr->HP->Prop}:KM (oP W F M) (oP W F M):=by rintro f f' hp hf ⟨J,h1,h3⟩;exact⟨J,hf.trans h1,h3⟩
theorem Qk{sk:List It}{W:List (Nat×Nat)}{F:Fr}{I:Nat->Fr->HP->Prop}{n:Nat}(h:gd R sk):gd R (.el (xN W F I n)::sk):=⟨h.1,.el adj h.2⟩
theorem Qr{sk:List It}{W:List (Nat×Nat)}{F:Fr}{M:Fr->HP->Prop}(h:gd R sk):gd R (.el (oP W F M)::sk):=⟨h.1,.el DQ h.2⟩
theorem Qw{sk:List It}{i:Nat}(h:gd R sk):gd R (.eb i::sk):=⟨h.1,.eb i h.2⟩
theorem Q5{sk:List It}{s:SC}(h:gd R sk):gd R (.c s::sk):=⟨h.1,.c s h.2⟩
theorem Q6{sk:List It}{s:RT}(h:gd R sk):gd R (.o s::sk):=⟨h.1,.o s h.2⟩
theorem Qi{sk:List It}{I:Nat->Qg}{n:Nat}(h:gd R sk):gd R (.el (xF I n)::sk):=⟨h.1,.el (fun f f' hp hf ⟨a,b,h1,h2⟩=>⟨a,b,hf.wk.trans h1,h2⟩) h.2⟩
theorem Ps{rs:List RV}{Rr:PV->Prop}:KM (fV rs Rr) (fV rs Rr):=by
 have one:∀(f f':Fr)(hp:HP)(r:RV),ch f f'->ko f' hp r->ko f hp r/\jL f' hp r=jL f hp r:=by
  intro f f' hp r hf ho;cases r with
  |t s=>
   simp only[ko,jL]at ho⊢;rcases hf s with e|e
   ·rw[e]at ho ⊢;exact⟨ho,rfl⟩
   ·rw[e]at ho;simp[aK,cF,PV.aE]at ho
  |cell s n ag=>
   simp only[ko,jL]at ho⊢;rcases hf s with e|e
   ·rw[e]at ho ⊢;exact⟨ho,rfl⟩
   ·rw[e]at ho;exact ho.elim
 intro f f' hp hf h;unfold fV at h⊢;split at h
 ·rename_i r;obtain⟨h1,h2⟩:=h;obtain⟨g1,g2⟩:=one f f' hp r hf h1;rw[g2]at h2;exact⟨g1,h2⟩
 ·obtain⟨h1,h2⟩:=h;have e:rs.map (jL f' hp)=rs.map (jL f hp):=Kbb fun r hr=>(one f f' hp r hf (h1 r hr)).2;rw[e]at h2;exact⟨fun r hr=>(one f f' hp r hf (h1 r hr)).1,h2⟩
theorem adk{rs:List RV}{ty:TypeId}{len:Nat}{cj:PV->List PV->Prop}:KM (r6 rs ty len cj) (r6 rs ty len cj):=by
 rintro f f' hp hf ⟨xs',h1,h2,h3,h4⟩;refine⟨xs',h1,h2,h3,?_⟩;rcases h4 with h4|⟨s,o,n,h4,h5,h6⟩
 ·exact .inl (Ps _ _ _ hf h4)
 ·refine .inr ⟨s,o,n,h4,?_,h6⟩;rcases hf s with e|e
  ·rw[<-e];exact h5
  ·rw[h5]at e;cases e
theorem adl{rs:List RV}{ty:TypeId}{cj:List PV->Prop}:KM (xM rs ty cj) (xM rs ty cj):=by
 rintro f f' hp hf ⟨s,β,n,xs,h1,h2,h3⟩;refine⟨s,β,n,xs,h1,?_,h3⟩;rcases hf s with e|e
 ·rw[<-e];exact h2
 ·rw[h2]at e;cases e
theorem Qs{rs:List RV}{Rr:PV->Prop}:gd (fV rs Rr) []:=⟨Ps,.nil⟩
theorem Ql{rs:List RV}{ty:TypeId}{len:Nat}{cj:PV->List PV->Prop}:gd (r6 rs ty len cj) []:=⟨adk,.nil⟩
theorem Qm{rs:List RV}{ty:TypeId}{cj:List PV->Prop}:gd (xM rs ty cj) []:=⟨adl,.nil⟩
theorem kt{sk:List It}{x:SC}(i β e ty:Nat)(he:0<e)(hi:fr i= .aa)(h:vc C R (.c (.loop x)::sk) (af (cK β fr) i (.ms β 0)) (Qy hp β ⟨e,ty,[],false⟩))(hB:cd β=false:=by decide):vc C R (.c (.loop x)::sk) fr hp:=by rw[u7]at h⊢;obtain⟨I,μ,⟨bG,aF,h1,lW⟩,h2⟩:=h;exact⟨I,μ,⟨bG,aF,(P7 i β e ty he hi hB).trans h1,lW⟩,h2⟩
end Go.FW
namespace Go.FW
open Go
variable {C : Ctx} {fr : Fr} {hp : HP} {w : World} {K R : Qg}
theorem Yx{P:Program}{f:FuncId}{k:IntKind}{x:Int}{r:PV}{v:Value}(hg:oO P f)(h:∀w,Calls P f #[.int k x] w fun e w'=>e= .returned v/\w'=w)(hr:∀w X,dF w X r v):Qc P f [.int k x] (· =r):=by
 refine⟨hg,fun w X bn hX hs cN=>?_⟩;have h0:∀u,Qu w X (.int k x) u->u= .int k x:=fun u hu=>by cases hu;rfl
 have e:bn= #[.int k x]:=by
  have h1:bn.getD 0 undef= .int k x:=h0 _ (cN 0 _ rfl);apply Array.ext
  ·simpa using hs
  ·intro i hi aC;have pY:i=0:=by simp at aC;omega
   subst pY;simpa[Array.getD,hi]using h1
 rw[e];refine(h w).mono ?_;rintro e w' ⟨rfl,rfl⟩;exact⟨v,r,rfl,Ext.refl _ _,hr _ _,rfl⟩
end Go.FW
namespace Go.FW
open Go
variable {C : Ctx} {fr : Fr} {hp : HP} {w : World} {K R : Qg}
theorem aa8(a b:Nat)(sv:a≠b)(h:HP)(v w:HB):Qy (Qy h a v) b w=Qy (Qy h b w) a v:=by
 funext c;unfold Qy;by_cases h1:c=a
 ·subst h1;simp[sv]
 ·simp[h1]
theorem ZN{V W P v1 v2 v0 hi u2 w0:Nat}(hV:V=(v1*65536+v2)*P+v0)(hW:W=(hi*65536+u2)*P+w0)(Fp:w0<P)(wA:u2<65536)(h1:0<v1):W<(hi/v1+1)*V:=by
 have e1:hi+1<=(hi/v1+1)*v1:=by have:=Kbr hi v1;have:=Kbv hi h1;rw[KaI,KaS];omega
 have e2:W<(hi+1)*65536*P:=by have:(hi*65536+u2+1)*P<=(hi+1)*65536*P:=Kaf _ (by omega);rw[KaI _ 1]at this;omega
 refine KaN e2 ?_
 calc (hi+1)*65536*P<=((hi/v1+1)*v1)*65536*P:=Kaf _ (Kaf _ e1)
  _=(hi/v1+1)*(v1*65536*P):=by rw[Kbi,Kbi,Kbi]
  _<=(hi/v1+1)*V:=Ka7 _ (by rw[hV,KaI];omega)
theorem adm{V W P v1 v2 v0 hi u2 w0 d r:Nat}(hV:V=(v1*65536+v2)*P+v0)(hW:W=(hi*65536+u2)*P+w0)(Fp:w0<P)(hd:d*v1+r=hi)(ht:r*65536+u2<d*v2):W<d*V:=by
 have h1:hi*65536+u2+1<=d*(v1*65536+v2):=by rw[Ka2,<-Nat.mul_assoc,<-hd,KaI];omega
 have h2:W<(hi*65536+u2+1)*P:=by rw[hW,KaI _ 1];omega
 refine KaN h2 (Kaw (Kaf _ h1) ?_);rw[Kbi];exact Ka7 _ (by rw[hV];exact Nat.le_add_right _ _)
theorem adn{V W P v1 v2 v0 hi u2 w0 e r:Nat}(hV:V=(v1*65536+v2)*P+v0)(hW:W=(hi*65536+u2)*P+w0)(BB:v0<P)(Fo:1<=v1)(he:e+1<65536)(hd:(e+1)*v1+r=hi)(ht:¬r*65536+u2<(e+1)*v2):e*V<=W:=by
 have h1:(e+1)*(v1*65536+v2)<=hi*65536+u2:=by rw[Ka2,<-Nat.mul_assoc,<-hd,KaI ((e+1)*v1)];omega
 have h2:e*v0<=(v1*65536+v2)*P:=KaJ (by omega) (by omega)
 calc e*V=e*(v1*65536+v2)*P+e*v0:=by rw[hV,Ka2,Kbi]
  _<=e*(v1*65536+v2)*P+(v1*65536+v2)*P:=Nat.add_le_add_left h2 _
  _=(e+1)*(v1*65536+v2)*P:=by rw[KaI e,KcV,KaI (e*_)]
  _<=(hi*65536+u2)*P:=Kaf _ h1
  _<=W:=by rw[hW];exact Nat.le_add_right _ _
theorem ado{V W P v1 v2 v0 hi u2 w0:Nat}(hV:V=(v1*65536+v2)*P+v0)(hW:W=(hi*65536+u2)*P+w0)(BB:v0<P)(h:W<65536*V)(hP:0<P):hi<=v1*65536+v2:=by
 have h1:hi*(65536*P)<(v1*65536+v2+1)*(65536*P):=by
  have e1:hi*(65536*P)<=W:=by rw[hW,KaI,Kbi];omega
  have e2:V<=(v1*65536+v2+1)*P:=by rw[hV,KaI _ 1];omega
  have e3:65536*V<=65536*((v1*65536+v2+1)*P):=Ka7 _ e2;rw[Kby]at e3;omega
 have:=Nat.lt_of_mul_lt_mul_right h1;omega
theorem RG:∀(a:List Nat)(q b:Nat),(fC a [] q 0 b).2.1=0
 | [],_,_=>rfl
 |x::xs,q,b=>by simp only[fC,List.headD_nil,Kb1,List.tail_nil];exact RG xs q _
theorem Tn:∀(a v:List Nat)(q c b:Nat),v.length<a.length->c<65536->q<65536->Qq v->(fC a v q c b).2.1=0
 | [],_,_,_,_,h,_,_,_=>by simp at h
 |x::xs,[],q,c,b,h,hc,hq,hv=>by simp only[fC,List.headD_nil,Kb1,List.tail_nil,KaU];rw[Kcc hc];exact RG xs q _
 |x::xs,y::ys,q,c,b,h,hc,hq,hv=>by rw[ia]at hv;simp only[fC,List.headD_cons,List.tail_cons];refine Tn xs ys q _ _ (by simpa using h) ?_ hq hv.2;have:=tj hq hv.1;omega
theorem CF{l:List Nat}{k:Nat}(h:val l<65536^k):val (l.drop k)=0:=by
 rcases Kc7 k l.length with hk|hk
 ·have:=pz l k (by omega);have:65536^k*val (l.drop k)<65536^k*1:=by omega
  have:=Nat.lt_of_mul_lt_mul_left this;omega
 ·rw[Kal hk];rfl
theorem Pt{l:List Nat}{n:Nat}(h:l.length=n+2):val l=(l.getD (n+1) 0*65536+l.getD n 0)*65536^n+val (l.take n):=by have e:=pz l n (by omega);rw[lK (by omega),lK (by omega),Kal (by omega)]at e;rw[e,gu (by omega),gu (by omega),val,Kb1,KaU,KaS (65536^n)];rw[KaS 65536,KbQ (l[n]),KbQ]
theorem ah3:
  (∀(β:Nat)(cs:List PV),bZ β (.pt cs)= .pt cs)/\(∀(β:Nat),bZ β .undef= .undef)/\(∀(β:Nat)(cs:List PV),bZ β (.aw cs)= .aw cs)/\
  (∀(cs:List PV),(PV.pt cs).refs=[])/\(PV.undef.refs=[])/\(∀(cs:List PV),(PV.aw cs).refs=[])/\
  (∀(hp:HP)(cs:List PV),aK hp (.pt cs)= .pt cs)/\(∀(hp:HP)(cs:List PV),aK hp (.aw cs)= .aw cs)/\
  (∀(β f:Nat)(a b:List PV),bZ β (.fn f a b)=if(a.flatMap PV.bP++b.flatMap PV.bP).contains β then .undef else .fn f a b)/\
  (∀(β o n:Nat),(PV.ay β o n).bP=[β])/\(∀(β o n:Nat),(PV.rb β o n).bP=[β])/\(∀(β o n:Nat),(PV.mp β o n).bP=[β])/\
  (∀(k:IntKind)(n:Int),(PV.int k n).bP=[])/\(∀(b:Bool),(PV.bool b).bP=[])/\(∀(e:Nat)(xs:List PV),(PV.sl e xs).bP=[])/\(PV.aa.bP=[])/\(∀(xs:List PV),(PV.pt xs).bP=[]):=by
 refine⟨fun _ _=>rfl,fun _=>rfl,fun _ _=>rfl,fun _=>rfl,rfl,fun _=>rfl,fun _ _=>rfl,fun _ _=>rfl,fun _ _ _ _=>rfl,fun _ _ _=>rfl,fun _ _ _=>rfl,fun _ _ _=>rfl,fun _ _=>rfl,fun _=>rfl,fun _ _=>rfl,rfl,fun _=>rfl⟩
theorem apn:
  (∀(ty d e:Nat)(xs:List PV)(fr:Fr)(hp:HP)(K:Qg),fU 1 ty (.sl e xs) d fr hp K=K (af (cK d fr) d (.mp d 0 0)) (Qy hp d ⟨1,ty,[.sl e xs],false⟩))/\
  (∀(ty d:Nat)(k:IntKind)(x:Int)(fr:Fr)(hp:HP)(K:Qg),fU 1 ty (.int k x) d fr hp K=K (af (cK d fr) d (.mp d 0 0)) (Qy hp d ⟨1,ty,[.int k x],false⟩))/\
  (∀(ty d:Nat)(x:Bool)(fr:Fr)(hp:HP)(K:Qg),fU 1 ty (.bool x) d fr hp K=K (af (cK d fr) d (.mp d 0 0)) (Qy hp d ⟨1,ty,[.bool x],false⟩))/\
  (∀(ty d:Nat)(fr:Fr)(hp:HP)(K:Qg),fU 1 ty .aa d fr hp K=K (af (cK d fr) d (.mp d 0 0)) (Qy hp d ⟨1,ty,[.aa],false⟩))/\
  (∀(n ty d o m:Nat)(fr:Fr)(hp:HP)(K:Qg),fU n ty (.ay 1000000 o m) d fr hp K=K (af fr d (.rb 1000000 o m)) hp)/\
  (∀(n ty d:Nat)(x:PV)(cs:List PV)(fr:Fr)(hp:HP)(K:Qg),fU n ty (.agg (x::cs)) d fr hp K=(cs.length+1=n/\K (af (cK d fr) d (.mp d 0 0)) (Qy hp d ⟨n,ty,[.agg (x::cs)],false⟩)))/\
  (∀(ty d:Nat)(x:PV)(fz:Bool)(fr:Fr)(hp:HP)(K:Qg),kn (some ⟨1,ty,[x],fz⟩) 1 false 0 0 d fr hp K=K (af fr d (eM false 1 0 x)) hp)/\
  (∀(ty β e:Nat)(x:PV)(xs:List PV)(fr:Fr)(hp:HP)(K:Qg),stM (some ⟨1,ty,[x],false⟩) β 1 0 0 (.sl e xs) fr hp K=K fr (Qy hp β ⟨1,ty,[.sl e xs],false⟩))/\
  (∀(ty β:Nat)(x:PV)(k:IntKind)(y:Int)(fr:Fr)(hp:HP)(K:Qg),stM (some ⟨1,ty,[x],false⟩) β 1 0 0 (.int k y) fr hp K=K fr (Qy hp β ⟨1,ty,[.int k y],false⟩))/\
  (∀(ty β:Nat)(x:PV)(y:Bool)(fr:Fr)(hp:HP)(K:Qg),stM (some ⟨1,ty,[x],false⟩) β 1 0 0 (.bool y) fr hp K=K fr (Qy hp β ⟨1,ty,[.bool y],false⟩))/\
  (∀(ty β:Nat)(x:PV)(fr:Fr)(hp:HP)(K:Qg),stM (some ⟨1,ty,[x],false⟩) β 1 0 0 .aa fr hp K=K fr (Qy hp β ⟨1,ty,[.aa],false⟩))/\
  (∀(e:Nat)(xs:List PV),eM false 1 0 (.sl e xs)= .sl e xs)/\(∀(k:IntKind)(x:Int),eM false 1 0 (.int k x)= .int k x)/\(∀(x:Bool),eM false 1 0 (.bool x)= .bool x)/\(eM false 1 0 .aa= .aa):=by
 have fz:∀hp:HP,cf hp []=hp:=fun _=>rfl;refine⟨fun _ _ _ _ _ _ _=>?_,fun _ _ _ _ _ _ _=>?_,fun _ _ _ _ _ _=>?_,fun _ _ _ _ _=>?_,fun _ _ _ _ _ _ _ _=>ahL (by decide),fun n ty d x cs fr hp K=>?_,fun _ _ _ _ _ _ _=>?_,fun _ _ _ _ _ _ _ _=>?_,fun _ _ _ _ _ _ _ _=>?_,fun _ _ _ _ _ _ _=>?_,fun _ _ _ _ _ _=>?_,fun _ _=>rfl,fun _ _=>rfl,fun _=>rfl,rfl⟩
 ·simp[fU,aK,cF,PV.aE,PV.cells,PV.refs,fz]
 ·simp[fU,aK,cF,PV.aE,PV.cells,PV.refs,fz]
 ·simp[fU,aK,cF,PV.aE,PV.cells,PV.refs,fz]
 ·simp[fU,aK,cF,PV.aE,PV.cells,PV.refs,fz]
 ·apply propext;simp only[fU,aK,cF,PV.aE,PV.cells,PV.refs,KaW,fz];exact⟨fun⟨_,h1,_,h2⟩=>⟨h1,h2⟩,fun⟨h1,h2⟩=>⟨trivial,h1,by omega,h2⟩⟩
 all_goals simp[kn,stM,PV.aE,PV.cells]
end Go.FW
namespace Go.FW
theorem ah4{l:List Nat}{j n V:Nat}(hl:Qq l)(hlen:j+n+3<=l.length)(hV:V<=65536^(n+2))(hz:val (l.drop (j+1))<V):
  ∃pre w post,l=pre++(w++post)/\pre.length=j/\w.length=n+3/\Qq pre/\Qq w/\Qq post/\val post=0/\val (l.drop j)=val w/\val w<65536*V/\
   ∃w0,w0<65536^n/\val w=((l.getD (j+(n+2)) 0*65536+l.getD (j+(n+1)) 0)*65536+l.getD (j+n) 0)*65536^n+w0:=by
 have qd:val (l.drop (j+n+3))=0:=by have:=CF (l:=l.drop (j+1)) (k:=n+2) (by omega);rw[List.drop_drop]at this;rw[<-this];congr 2;omega
 have hw:Qq ((l.drop j).take (n+3)):=wZ (zw hl j) _;have uC:((l.drop j).take (n+3)).length=n+3:=by simp;omega
 have gr:l.drop j=(l.drop j).take (n+3)++l.drop (j+n+3):=by have:=(Kbo (n+3) (l.drop j)).symm;rw[List.drop_drop]at this;exact this
 have gS:val (l.drop j)=val ((l.drop j).take (n+3)):=by
  conv=>lhs;rw[gr]
  rw[mA,qd,Kb1,KaU]
 have eV:∀i,i<n+3->((l.drop j).take (n+3)).getD i 0=l.getD (j+i) 0:=by intro i hi;simp[Kap,Kca,hi]
 refine⟨l.take j,(l.drop j).take (n+3),l.drop (j+n+3),?_,by simp;omega,uC,wZ hl j,hw,zw hl _,qd,gS,?_,?_⟩
 ·rw[<-gr,Kbo]
 ·rw[<-gS,lK (by omega)];have:=eF hl (show j<l.length by omega);omega
 ·refine⟨val (((l.drop j).take (n+3)).take n),s8 hw n (by omega),?_⟩;rw[Pt (n:=n+1) uC,eV _ (by omega),eV _ (by omega),zb (by omega)];rw[<-gu,eV _ (by omega),KbA];generalize l.getD (j+(n+1)) 0=a;generalize l.getD (j+n) 0=b;generalize l.getD (j+(n+1+1)) 0=c;rw[KaI _ b,Kbi _ 65536,KaS 65536 (65536^n),KaS (65536^n) b];omega
theorem aa9{U V L qs W R q pre B:Nat}(hU:U=L+V*(65536*B*qs))(hL:L=pre+B*W)(hW:W=q*V+R):U=(pre+B*R)+V*(B*(q+65536*qs)):=by
 subst hW hL;rw[hU,Ka2 B,Ka2 B q,Ka2 V];have e1:B*(q*V)=V*(B*q):=by rw[KaS q V,Kby]
 have e2:V*(65536*B*qs)=V*(B*(65536*qs)):=by rw[KaS 65536 B,Kbi]
 omega
open Go
variable {C : Ctx} {fr : Fr} {hp : HP} {w : World} {K R : Qg}
theorem nI{x y:RT}{sk:List It}(h1:vc C R (.o x::sk) fr hp)(h2:vc C R (.o y::sk) fr hp):sh C R x y sk fr hp:=⟨h1,h2⟩
theorem ae2{x y:RT}{sk:List It}{W:List (Nat×Nat)}{J F:Fr}(P:Fr->Prop)(h0:P J)(h:∀J,P J->sh C R x y sk (aQ W J F) hp):sh C R x y sk (aQ W J F) hp:=h J h0
theorem Ov{sk:List It}{x:SC}(cz:gd R sk)(W:List (Nat×Nat))(B:List Nat)(I:Nat->Fr->HP->Prop)(m0:Nat)(h0:I m0 fr hp)
  (h:∀F,F=bF B fr->∀m J hp,I m J hp->vc C R (.c x:: .el (xN W F I m)::sk) (aQ W J F) hp):vc C R (.c (.loop x)::sk) fr hp:=
 Qz cz W B I m0 h0 (h _ rfl)
theorem adp{x y:RT}{sk:List It}{W0:List (Nat×Nat)}{J0 F0:Fr}(cz:gd R sk)(B:List Nat)(M:Fr->HP->Prop)
  (h:∀F,F=bF B F0->sh C R x y (.el (oP W0 F M)::sk) (aQ W0 J0 F) hp) (hM:∀J hp,M J hp->vc C R sk (aQ W0 J (bF B F0)) hp):sh C R x y sk (aQ W0 J0 F0) hp:=by
 have hle:ch (aQ W0 J0 F0) (aQ W0 J0 (bF B F0)):=fun s=>by
  unfold aQ bF;split
  ·exact .inl rfl
  ·split
   ·exact .inr rfl
   ·exact .inl rfl
 have key:∀(r:RT),vc C R (.o r:: .el (oP W0 (bF B F0) M)::sk) (aQ W0 J0 (bF B F0)) hp->vc C R (.o r::sk) (aQ W0 J0 F0) hp:=by
  intro r hr;refine Ae (M:=oP W0 (bF B F0) M) ?_ _ [.o r] _ _ (Kac _) ?_
  ·rintro az an ⟨J,h1,h2⟩;exact rW cz.1 _ _ _ _ _ _ (Kac _) cz.2 h1 (hM J an h2)
  ·exact rW cz.1 _ _ _ _ _ _ (Kac _) (.o r (.el DQ cz.2)) hle hr
 exact⟨key x (h _ rfl).1,key y (h _ rfl).2⟩
theorem ZO{az:Fr}{K':Qg}{p:PV}{s:Nat}{want:Bool}{o:cB}(h:ch fr az)(hK:KM K' K):iA C p s want o az hp K'->iA C p s want o fr hp K:=by
 unfold iA;split
 ·exact fun H=>⟨fun t=>Ig (h.iJ _ _) hK o (H.1 t),fun t=>C5 (h.iJ _ _) hK o (H.2 t)⟩
 ·exact C5 h hK o
 ·exact id
theorem Yy{p:PV}{s:Nat}{want:Bool}{o:cB}{r:RT}{sk:List It}(cz:gd R sk)(W:List (Nat×Nat))(B:List Nat)(M:Fr->HP->Prop)
  (h:iA C p s want o (aQ W fr (bF B fr)) hp (vc C R (.o r:: .el (oP W (bF B fr) M)::sk))) (hM:∀J hp,M J hp->vc C R sk (aQ W J (bF B fr)) hp):iA C p s want o fr hp (vc C R (.o r::sk)):=by
 refine ZO (HW W B) (fun f f' hp hf H=>?_) h;have H':=rW cz.1 _ _ _ _ _ _ (Kac _) (.o r (.el DQ cz.2)) hf H;refine Ae (M:=oP W (bF B fr) M) ?_ _ [.o r] _ _ (Kac _) H';rintro az an ⟨J,h1,h2⟩;exact rW cz.1 _ _ _ _ _ _ (Kac _) cz.2 h1 (hM J an h2)
theorem UL:(∀(a b c:Nat),(PV.mp a b c).kM=true)/\(∀(a b c:Nat),(PV.ay a b c).kM=true)/\(∀(a b c:Nat),(PV.rb a b c).kM=true)/\(∀(k:IntKind)(n:Int),(PV.int k n).kM=true)/\
  (∀b,(PV.bool b).kM=true)/\(PV.aa.kM=true)/\(∀(e:Nat)(xs:List PV),(PV.sl e xs).kM=true)/\(∀(xs:List PV),(PV.pt xs).kM=true):=
 ⟨fun _ _ _=>rfl,fun _ _ _=>rfl,fun _ _ _=>rfl,fun _ _=>rfl,fun _=>rfl,rfl,fun _ _=>rfl,fun _=>rfl⟩
end Go.FW
namespace Go.FW
def vL(V W:List (Nat×Nat)):Bool:=V.all fun p=>W.any fun q=>decide (q.1<=p.1)&&decide (p.2<=q.2)
theorem aba{V W:List (Nat×Nat)}(h:vL V W=true){s:Nat}(hs:lC V s=true):lC W s=true:=by
 induction V with
 |nil=>cases hs
 | cons p V ih=>
  simp only[vL,List.all_cons,Kat]at h;rw[Dk,KbS]at hs;rcases hs with hs|hs
  ·obtain⟨q,hq,uw⟩:=Ka4.1 h.1;simp only[Kat,decide_eq_true_eq]at uw hs;clear h ih;induction W with
   |nil=>cases hq
   |cons r W ih=>
    rw[Dk,KbS];rcases KaQ.1 hq with rfl|hq
    ·left;simp only[Kat,decide_eq_true_eq];omega
    ·right;exact ih hq
  ·exact ih h.2 hs
theorem XK{B B':List Nat}{F:Fr}(h:B.all B'.contains=true):bF B (bF B' F)=bF B' F:=by
 funext s;by_cases h1:(F s).refs.any B'.contains=true
 ·have:bF B' F s= .undef:=if_pos h1;show(if(bF B' F s).refs.any B.contains=true then PV.undef else bF B' F s)=_;rw[this];rfl
 ·have:bF B' F s=F s:=if_neg h1;show(if(bF B' F s).refs.any B.contains=true then PV.undef else bF B' F s)=_;rw[this,if_neg];intro h2;obtain⟨x,hx,ma⟩:=Ka4.1 h2;exact h1 (Ka4.2 ⟨x,hx,Kay.1 h x (by simpa using ma)⟩)
theorem nN{V W:List (Nat×Nat)}{X Z F:Fr}(h:vL V W=true):aQ V X (aQ W Z F)=aQ W (aQ V X Z) F:=by
 funext s;unfold aQ;by_cases h1:lC V s=true
 ·simp[h1,aba h h1]
 ·simp[h1]
theorem ah5{W V S d:Nat}(hs:S+d*V=W)(Mq:W<(d+1)*V):S<V/\W=d*V+S:=by rw[KaI]at Mq;omega
theorem ae3{W V B S e k res:Nat}(hs:S+(e+1)*V=W+B)(hS:S<B)(VD:e*V<=W)(hr:res+B*k=S+V)(dw:res<B)(hWB:W<B):res<V/\W=e*V+res:=by
 rw[KaI,KcV]at hs;generalize e*V=x at *
 have hk:k=1:=by
  match k,hr with
  |0,hr=>omega
  |1,_=>rfl
  |k+2,hr=>
   have:B*(k+2)=B*k+B+B:=by rw[Ka2];omega
   omega
 subst hk;omega
theorem Uq{pre R post qs:List Nat}{j q U V L W:Nat}(hp:pre.length=j)(qd:val post=0)(hU:U=L+V*(65536^(j+1)*val qs))(hL:L=val pre+65536^j*W)(hW:W=q*V+val R):
  val ((pre++(R++post)).drop j)=val R/\U=val (pre++(R++post))+V*(65536^j*val (q::qs)):=by
 have e:(pre++(R++post)).drop j=R++post:=by rw[<-hp,List.drop_left]
 have e2:val (R++post)=val R:=by rw[mA,qd,Kb1,KaU]
 refine⟨by rw[e,e2],?_⟩;rw[mA,e2,hp,val];exact aa9 (by rw[hU,KbA,KaS (65536^j)]) hL hW
theorem DR{j q:Nat}{qs:List Nat}:(List.replicate (j+1) 0++qs).set j q=List.replicate j 0++(q::qs):=by rw[List.replicate_succ',KbK,List.singleton_append,nM (by simp)]
open Go
variable {C : Ctx} {fr : Fr} {hp : HP} {w : World} {K R : Qg}
theorem apo:(∀(C:Ctx)(d:Nat)(ng:Bool)(x y:aP)(fr:Fr)(hp:HP)(K:Qg),bp C (.eqs d ng x y) fr hp K=qQ ng (ev fr x) (ev fr y) d fr hp K)/\
  (∀(k l:IntKind)(x y x' y':Int)(d:Nat)(fr:Fr)(hp:HP)(K:Qg),qQ false (.agg [.int k x,.int l y]) (.agg [.int k x',.int l y']) d fr hp K=K (af fr d (.bool (decide (x=x')&&decide (y=y')))) hp)/\
  (∀(k l:IntKind)(x y x' y':Int)(d:Nat)(fr:Fr)(hp:HP)(K:Qg),qQ true (.agg [.int k x,.int l y]) (.agg [.int k x',.int l y']) d fr hp K=K (af fr d (.bool (!(decide (x=x')&&decide (y=y'))))) hp):=
 ⟨fun _ _ _ _ _ _ _ _=>rfl,fun _ _ _ _ _ _ _ _ _ _=>by simp[qQ],fun _ _ _ _ _ _ _ _ _ _=>by simp[qQ]⟩
theorem apq:(∀(C:Ctx)(d:Nat)(ng:Bool)(x y:aP)(fr:Fr)(hp:HP)(K:Qg),bp C (.B1 d ng x y) fr hp K=qR ng (ev fr x) (ev fr y) d fr hp K)/\
  (∀(C:Ctx)(d:Nat)(x:aP)(fr:Fr)(hp:HP)(K:Qg),bp C (.BZ d x) fr hp K=vJ (ev fr x) d fr hp K)/\
  (∀(C:Ctx)(d:Nat)(x i:aP)(fr:Fr)(hp:HP)(K:Qg),bp C (.BY d x i) fr hp K=tO (ev fr x) (ev fr i) d fr hp K)/\
  (∀(x y:ByteArray)(d:Nat)(fr:Fr)(hp:HP)(K:Qg),qR false (.str x) (.str y) d fr hp K=K (af fr d (.bool (decide (x=y)))) hp)/\
  (∀(x y:ByteArray)(d:Nat)(fr:Fr)(hp:HP)(K:Qg),qR true (.str x) (.str y) d fr hp K=K (af fr d (.bool (!decide (x=y)))) hp)/\
  (∀(x:ByteArray)(d:Nat)(fr:Fr)(hp:HP)(K:Qg),vJ (.str x) d fr hp K=K (af fr d (.int .i64 x.size)) hp):=
 ⟨fun _ _ _ _ _ _ _ _=>rfl,fun _ _ _ _ _ _=>rfl,fun _ _ _ _ _ _ _=>rfl,fun _ _ _ _ _ _=>by simp[qR],fun _ _ _ _ _ _=>by simp[qR],fun _ _ _ _ _=>rfl⟩
theorem ah6{s:ByteArray}{k:IntKind}{i:Nat}{d:Nat}(h:i<s.size):tO (.str s) (.int k i) d fr hp K=K (af fr d (.int .u8 (s.get! i).toNat)) hp:=by simp[tO,h]
theorem acO{α:Type}{f:α->PV}{e d:Nat}{k:IntKind}{xs:List α}(h:0<xs.length):dM e (.sl e (xs.map f)) (.int k 0) d fr hp K=K (af fr d (.pt (f (xs[0]'h)).cells)) hp:=by rw[xw (by omega) (by omega)];rfl
theorem acP{α:Type}{f:α->PV}{e d:Nat}{k:IntKind}{xs:List α}(h:1<xs.length):dM e (.sl e (xs.map f)) (.int k 1) d fr hp K=K (af fr d (.pt (f (xs[1]'h)).cells)) hp:=by rw[xw (by omega) (by omega)];rfl
theorem acQ{e d:Nat}{k:IntKind}{x:PV}{xs:List PV}:dM e (.sl e (x::xs)) (.int k 0) d fr hp K=K (af fr d (.pt x.cells)) hp:=by rw[FR (by omega) (by simp only[KaW];omega)];rfl
theorem acR{e d:Nat}{k:IntKind}{x y:PV}{xs:List PV}:dM e (.sl e (x::y::xs)) (.int k 1) d fr hp K=K (af fr d (.pt y.cells)) hp:=by rw[FR (by omega) (by simp only[KaW];omega)];rfl
def PV.flat:PV->Bool
 |.int .. | .bool _| .aa| .sl .. | .agg _| .pt _| .str _=>true
 |_=>false
theorem acS:∀s,(PV.str s).flat=true:=fun _=>rfl
theorem acT:∀s,(PV.str s).aE=true:=fun _=>rfl
theorem akx:(∀(k:IntKind)(n:Int),(PV.int k n).flat=true)/\(∀b,(PV.bool b).flat=true)/\(PV.aa.flat=true)/\(∀(e:Nat)(xs:List PV),(PV.sl e xs).flat=true)/\(∀xs,(PV.agg xs).flat=true)/\(∀xs,(PV.pt xs).flat=true):=
 ⟨fun _ _=>rfl,fun _=>rfl,rfl,fun _ _=>rfl,fun _=>rfl,fun _=>rfl⟩
theorem aky:(∀(k:IntKind)(n:Int),(PV.int k n).aE=true)/\(∀b,(PV.bool b).aE=true)/\(PV.aa.aE=true)/\(∀(e:Nat)(xs:List PV),(PV.sl e xs).aE=true)/\(∀xs,(PV.agg xs).aE=true)/\(∀xs,(PV.pt xs).aE=true):=
 ⟨fun _ _=>rfl,fun _=>rfl,rfl,fun _ _=>rfl,fun _=>rfl,fun _=>rfl⟩
theorem qD{p:PV}(h:p.flat=true):aK hp p=p/\p.refs=[]/\p.aE=true:=by cases p<;>first|(cases h;done)|exact⟨rfl,rfl,rfl⟩
theorem Pu{e ty d:Nat}{ps:List PV}(h:ps.all PV.flat=true)(hl:∀p∈ps,p.cells.length=e)(he:0<e):oc e ty ps d fr hp K=K (af (cK d fr) d (.ms d ps.length)) (Qy hp d ⟨e,ty,ps,false⟩):=by
 have h':=Kay.1 h;have e1:ps.map (aK hp)=ps:=by
  conv=>rhs;rw[<-List.map_id ps]
  exact Kbb fun p an=>(qD (h' p an)).1
 have e2:ps.flatMap PV.refs=[]:=by rw[List.flatMap_eq_nil_iff];exact fun p an=>(qD (hp:=hp) (h' p an)).2.1
 have e3:Ij hp e ps:=fun p an=>by obtain⟨h1,_,h3⟩:=qD (hp:=hp) (h' p an);rw[h1];exact⟨h3,hl p an⟩
 have hbg:oM ps=false:=by
  unfold oM;split
  ·rename_i x;have:=Kay.1 h x (by simp);unfold lL;split
   ·cases this
   ·rfl
  ·rfl
 simp only[oc,hbg,KaK,if_false,Em,e1,e2,e3,he,true_and];rfl
theorem bs1{e ty d:Nat}{p:PV}(h:p.flat=true)(hl:p.cells.length=e)(he:0<e):oc e ty [p] d fr hp K=K (af (cK d fr) d (.ms d 1)) (Qy hp d ⟨e,ty,[p],false⟩):=
 Pu (by simp[h]) (by simpa using hl) he
theorem bs2{e ty d:Nat}{p q:PV}(h:p.flat=true)(h2:q.flat=true)(hl:p.cells.length=e)(gm:q.cells.length=e)(he:0<e):oc e ty [p,q] d fr hp K=K (af (cK d fr) d (.ms d 2)) (Qy hp d ⟨e,ty,[p,q],false⟩):=
 Pu (by simp[h,h2]) (by simp[hl,gm]) he
end Go.FW
namespace Go.FW
theorem YA{y n s yi:Nat}(hy:(ah y).length=n+2)(uD:(ah y)[n+1]'(by omega)=yi)(h1:2^15<=yi*2^s)(h2:(yi+1)*2^s<=65536):
  (ah (y*2^s)).length=n+2/\32768<=(ah (y*2^s)).getD (n+1) 0/\32768*65536^(n+1)<=y*2^s:=by
 have hl:=Qp y;have e:=pz (ah y) (n+1) (by omega);have ht:=s8 hl (n+1) (by omega);rw[lK (by omega),Kal (by omega),uD,Q7]at e;simp only[val,Kb1,KaU]at e;have g1:32768*65536^(n+1)<=y*2^s:=by
  calc 32768*65536^(n+1)<=(yi*2^s)*65536^(n+1):=Kaf _ h1
   _=(65536^(n+1)*yi)*2^s:=by rw[KaS (65536^(n+1)),Nat.mul_right_comm]
   _<=y*2^s:=Kaf _ (by omega)
 have g2:y*2^s<65536^(n+2):=by
  have hp:0<2^s:=KbN (by omega)
  calc y*2^s<(65536^(n+1)*(yi+1))*2^s:=Nat.mul_lt_mul_of_pos_right (by rw[Ka2];omega) hp
   _=65536^(n+1)*((yi+1)*2^s):=Kbi _ _ _
   _<=65536^(n+1)*65536:=Ka7 _ h2
   _=65536^(n+2):=(KbA ..).symm
 have hle:nl (y*2^s)<=n+2:=mK.2 g2;have fX:¬nl (y*2^s)<=n+1:=fun h=>by have:=mK.1 h;omega
 have hlen:(ah (y*2^s)).length=n+2:=by unfold nl at hle fX;omega
 refine⟨hlen,?_,g1⟩;have e2:=pz (ah (y*2^s)) (n+1) (by omega);have ht2:=s8 (Qp (y*2^s)) (n+1) (by omega);rw[lK (by omega),Kal (by omega),Q7]at e2;simp only[val,Kb1,KaU]at e2;have hg:(ah (y*2^s)).getD (n+1) 0=(ah (y*2^s))[n+1]'(by omega):=gu (by omega);rw[hg];apply Decidable.byContradiction;intro h;have:65536^(n+1)*(ah (y*2^s))[n+1]<=65536^(n+1)*32767:=Ka7 _ (by omega);omega
theorem abb{yi s:Nat}(hs:s<=15)(h1:2^(16-s)<=2*yi)(h2:yi<2^(16-s)):2^15<=yi*2^s/\(yi+1)*2^s<=65536:=by
 have e:2^(16-s)*2^s=65536:=by rw[<-Nat.pow_add,show 16-s+s=16 by omega]
 constructor
 ·have:=Kaf (2^s) h1;rw[e,Kbi]at this;omega
 ·rw[<-e];exact Kaf _ h2
theorem YB{x s m n Y:Nat}(hx:(ah x).length=m+2)(hs:s<=15)(jZ:n<=m)(hY:32768*65536^(n+1)<=Y):
  ∃u ex,ah (x*2^s)++[0,0]=u++ex/\u.length=m+3/\Qq u/\val u=x*2^s/\ex.length<=2/\val (u.drop (m+3-(n+2)))<Y:=by
 have WL:=oI (Qp x);rw[hx,Q7]at WL;have hp:0<2^s:=KbN (by omega);have uz:2^s<=2^15:=KbD (by omega) hs;have hX:x*2^s<2^s*65536^(m+2):=by rw[KaS (2^s)];exact Nat.mul_lt_mul_of_pos_right WL hp
 have pR:x*2^s<65536^(m+3):=by have:2^s*65536^(m+2)<=65536*65536^(m+2):=Kaf _ (by omega);rw[KbA 65536 (m+2),KaS _ 65536];omega
 have Fq:¬nl (x*2^s)<=m+1:=fun h=>by
  have h2:¬nl x<=m+1:=by unfold nl;omega
  have h3:=fJ (show x<=x*2^s from Nat.le_mul_of_pos_right _ hp);omega
 have ma:nl (x*2^s)<=m+3:=mK.2 pR;have qb:Qq (ah (x*2^s)++[0,0]):=nD.2 ⟨Qp _,by intro z hz;simp at hz;omega⟩;have gS:val (ah (x*2^s)++[0,0])=x*2^s:=by rw[mA,Q7];simp[val]
 have hlen:(ah (x*2^s)++[0,0]).length=nl (x*2^s)+2:=by simp[nl]
 generalize ah (x*2^s)++[0,0]=D at *
 have hv:=pz D (m+3) (by omega);have hz:val (D.drop (m+3))=0:=CF (by omega);have M1:(D.take (m+3)).length=m+3:=by rw[KaF];omega
 refine⟨D.take (m+3),D.drop (m+3),(Kbo _ _).symm,M1,wZ qb _,by rw[hz]at hv;omega,by rw[Ka5];omega,?_⟩;have hu:val (D.take (m+3))=x*2^s:=by rw[hz]at hv;omega
 have sN:=pz (D.take (m+3)) (m+3-(n+2)) (by omega);generalize D.take (m+3)=u at *
 have e:65536^(m+2)=65536^(m+3-(n+2))*65536^(n+1):=by rw[<-Nat.pow_add];congr 1;omega
 have:65536^(m+3-(n+2))*val (u.drop (m+3-(n+2)))<65536^(m+3-(n+2))*(2^s*65536^(n+1)):=by rw[Kby,<-e];omega
 have h4:=Nat.lt_of_mul_lt_mul_left this;have:2^s*65536^(n+1)<=32768*65536^(n+1):=Kaf _ uz;omega
open Go
variable {C : Ctx} {fr : Fr} {hp : HP} {w : World} {K R : Qg}
theorem acU{e ty n:Nat}{fz:Bool}{o d:Nat}{x:PV}(h:o+n<=e):kn (some ⟨e,ty,[x],fz⟩) n true 0 o d fr hp K=K (af fr d (eM true n o x)) hp:=Pk h (by simp)
theorem acV{e ty:Nat}{fz:Bool}{o d:Nat}{x:PV}(h:o+1<=e):kn (some ⟨e,ty,[x],fz⟩) 1 false 0 o d fr hp K=K (af fr d (eM false 1 o x)) hp:=Pk h (by simp)
theorem akz(n o:Nat)(cs:List PV):eM true n o (.agg cs)= .agg ((cs.drop o).take n):=rfl
theorem akA(n o:Nat)(cs:List PV):eM false n o (.agg cs)=(cs.drop o).headD .undef:=rfl
theorem ZP(n ty β:Nat)(x:PV)(cs:List PV):stM (some ⟨n,ty,[x],false⟩) β n 0 0 (.agg cs) fr hp K=(cs.length=n/\K fr (Qy hp β ⟨n,ty,[.agg cs],false⟩)):=by simp[stM,PV.aE,PV.cells]
theorem acW{e n ty β o:Nat}{x v:PV}(h:v.flat=true)(hn:¬n=e)(hl:v.cells.length=n)(ho:o+n<=e):stM (some ⟨e,ty,[x],false⟩) β n 0 o v fr hp K=K fr (Qy hp β ⟨e,ty,[rC x o v],false⟩):=by have:=(qD (hp:=hp) h).2.2;simp[stM,this,hl,ho,hn]
theorem ae4(cs:List PV)(o:Nat)(v:PV):rC (.agg cs) o v= .agg (cs.take o++v.cells++cs.drop (o+v.cells.length)):=rfl
theorem Hd(k:IntKind)(n:Int):(PV.int k n).cells=[.int k n]:=rfl
theorem abc:(PV.aa).cells=[.aa]:=rfl
theorem GO{p:PV}(h:p.flat=true):p.kO=false:=by cases p<;>simp_all[PV.flat,PV.kO]
theorem Dl{z:List PV}{ps:List (Nat×Nat×PV)}{d:Nat}(h:ps.all (fun p=>p.2.2.flat)=true):
  kD z ps d fr hp K=((∀p∈ps,p.2.2.cells.length=p.2.1/\p.1+p.2.1<=z.length)/\K (af fr d (.agg (ij z (ps.map fun p=>(p.1,p.2.2.cells))))) hp):=by
 have h':=Kay.1 h;have e1:(ps.map fun p=>(p.1,(aK hp p.2.2).cells))=ps.map fun p=>(p.1,p.2.2.cells):=Kbb fun p an=>by rw[(qD (h' p an)).1]
 have e2:(ps.flatMap fun p=>p.2.2.refs)=[]:=by rw[List.flatMap_eq_nil_iff];exact fun p an=>(qD (hp:=hp) (h' p an)).2.1
 have e3:FQ hp z.length ps=(∀p∈ps,p.2.2.cells.length=p.2.1/\p.1+p.2.1<=z.length):=by
  apply propext;constructor
  ·intro H p an;obtain⟨_,h2,h3⟩:=H p an;rw[(qD (h' p an)).1]at h2;exact⟨h2,h3⟩
  ·intro H p an;obtain⟨h2,h3⟩:=H p an;obtain⟨g1,_,g3⟩:=qD (hp:=hp) (h' p an);rw[g1];exact⟨g3,h2,h3⟩
 have e4:ps.any (fun p=>p.2.2.kO)=false:=by rw[KbC];exact fun p an=>by simp[GO (h' p an)]
 simp only[kD,e4,Au,e1,e2,e3,KaK,if_false];rfl
theorem alN(z:List PV)(d:Nat):kD z [] d fr hp K=K (af fr d (.agg z)) hp:=by rw[Dl rfl];simp[ij]
theorem alO{z:List PV}{o n d:Nat}{p:PV}(h:p.flat=true):kD z [(o,n,p)] d fr hp K=((p.cells.length=n/\o+n<=z.length)/\K (af fr d (.agg (z.take o++p.cells++z.drop (o+p.cells.length)))) hp):=by rw[Dl (by simp[h])];simp[ij]
theorem alP{z:List PV}{o n o2 n2 d:Nat}{p q:PV}(h:p.flat=true)(h2:q.flat=true):kD z [(o,n,p),(o2,n2,q)] d fr hp K=
  ((p.cells.length=n/\o+n<=z.length)/\(q.cells.length=n2/\o2+n2<=z.length)/\K (af fr d (.agg (ij z [(o,p.cells),(o2,q.cells)]))) hp):=by
 rw[Dl (by simp[h,h2])];simp[and_assoc]
theorem alQ{z:List PV}{o n o2 n2 o3 n3 d:Nat}{p q r:PV}(h:p.flat=true)(h2:q.flat=true)(h3:r.flat=true):kD z [(o,n,p),(o2,n2,q),(o3,n3,r)] d fr hp K=
  ((p.cells.length=n/\o+n<=z.length)/\(q.cells.length=n2/\o2+n2<=z.length)/\(r.cells.length=n3/\o3+n3<=z.length)/\K (af fr d (.agg (ij z [(o,p.cells),(o2,q.cells),(o3,r.cells)]))) hp):=by
 rw[Dl (by simp[h,h2,h3])];simp[and_assoc]
theorem abA(c:List PV):ij c []=c:=rfl
theorem ZQ(c xs:List PV)(o:Nat)(r:List (Nat×List PV)):ij c ((o,xs)::r)=ij (c.take o++xs++c.drop (o+xs.length)) r:=rfl
def Ca(p:PV)(hp:HP)(n:Nat)(ag:Bool):PV:=match p with
 |.mp β i o=>match hp β with
  |some hb=>if i<hb.xs.length/\o+n<=hb.e/\(ag=false->n=1)then eM ag n o ((hb.xs[i]?).getD .undef)else .undef
  |none=>.undef
 |_=>.undef
def gv(fr:Fr)(hp:HP):RV->PV
 |.t s=>aK hp (fr s)
 |.cell s n ag=>Ca (fr s) hp n ag
def Ax(hb:Option HB)(n:Nat)(ag:Bool)(i o:Nat):PV:=match hb with
  |some hb=>if i<hb.xs.length/\o+n<=hb.e/\(ag=false->n=1)then eM ag n o ((hb.xs[i]?).getD .undef)else .undef
  |none=>.undef
theorem ami(fr:Fr)(hp:HP)(s:Nat):gv fr hp (.t s)=aK hp (fr s):=rfl
theorem amh(fr:Fr)(hp:HP)(s n:Nat)(ag:Bool):gv fr hp (.cell s n ag)=Ca (fr s) hp n ag:=rfl
theorem acX(hp:HP)(n:Nat)(ag:Bool)(β i o:Nat):Ca (.mp β i o) hp n ag=Ax (hp β) n ag i o:=rfl
theorem ae5{e ty n o:Nat}{fz:Bool}{x:PV}(h:o+n<=e):Ax (some ⟨e,ty,[x],fz⟩) n true 0 o=eM true n o x:=by simp[Ax,h]
theorem ae6{e ty o:Nat}{fz:Bool}{x:PV}(h:o+1<=e):Ax (some ⟨e,ty,[x],fz⟩) 1 false 0 o=eM false 1 o x:=by simp[Ax,h]
theorem Ga{r:RV}(h:(gv fr hp r).aE=true):ko fr hp r/\jL fr hp r=gv fr hp r:=by
 cases r with
 |t s=>exact⟨h,rfl⟩
 | cell s n ag=>
  simp only[gv,ko,jL]at h⊢;cases ot:fr s with
  | mp β i o=>
   rw[ot]at h;simp only[Ca]at h⊢;cases al:hp β with
   |none=>rw[al]at h;cases h
   | some hb=>
    rw[al]at h;simp only at h⊢;split at h
    ·rename_i hc;rw[if_pos hc];exact⟨hc,rfl⟩
    ·cases h
  |_=>rw[ot]at h;cases h
theorem dD{r:RV}{Rr:PV->Prop}(h:xP Rr (gv fr hp r)):fV [r] Rr fr hp:=by obtain⟨h1,h2⟩:=Ga h.1;exact⟨h1,by rw[h2];exact h.2⟩
theorem jC{r s:RV}{Rr:PV->Prop}(h:B9 Rr (gv fr hp r) (gv fr hp s)):fV [r,s] Rr fr hp:=by obtain⟨⟨a,b⟩,c⟩:=h;obtain⟨h1,h2⟩:=Ga a;obtain⟨h3,h4⟩:=Ga b;refine⟨by simp[h1,h3],?_⟩;simp only[Kba,Kbt,h2,h4];exact c
end Go.FW
namespace Go.FW
open Go
def zv(n:Bool)(a:List Nat):Int:=if n then -(val a:Int)else val a
abbrev PV.zi(n:Bool)(a:List Nat):PV:=.agg [.bool n,PV.nat a]
abbrev PV.zz(z:Int):PV:=.agg [.bool (decide (z<0)),PV.num z.natAbs]
theorem Ih(n:Bool)(x:Nat):PV.agg [.bool (n&&decide (0<(ah x).length)),PV.num x]=PV.zz (if n then -(x:Int)else x):=by
 have h:0<(ah x).length↔x≠0:=by
  constructor
  ·intro h h0;rw[h0,fH]at h;simp at h
  ·intro h;apply KaY;intro h0;exact h (kq.1 (pk h0))
 cases n
 ·simp
 ·simp only[KbU,if_true,PV.zz,KcC,KaD];congr 3;exact decide_eq_decide.2 (by rw[h];omega)
theorem lM(z:Int):zv (decide (z<0)) (ah z.natAbs)=z:=by unfold zv;rw[Q7];by_cases h:z<0<;>simp[h]<;>omega
theorem jN(n:Bool)(a:List Nat):(zv n a).natAbs=val a:=by unfold zv;split<;>simp
theorem tB(a:List Nat):zv false a=val a:=rfl
theorem rV(n:Bool)(x:Nat):zv n (ah x)=if n then -(x:Int)else x:=by unfold zv;rw[Q7]
def fu(z:Int):Int:=if z<0 then -1 else if 0<z then 1 else 0
def cY(x y:Int):Int:=if x<y then -1 else if y<x then 1 else 0
theorem FT(n:Bool)(a:List Nat):fu (zv n a)=if val a=0 then 0 else if n then -1 else 1:=by unfold fu zv;cases n<;>simp<;>split<;>(try split)<;>omega
theorem xz{x:Int}:fu x<0↔x<0:=by unfold fu;split<;>(try split)<;>omega
theorem ae7{x y:Int}(h:fu x<fu y):cY x y= -1:=by unfold fu at h;unfold cY;rw[if_pos];split at h<;>split at h<;>(try split at h)<;>(try split at h)<;>omega
theorem ae8{x y:Int}(h:fu y<fu x):cY x y=1:=by
 have:y<x:=by unfold fu at h;split at h<;>split at h<;>(try split at h)<;>(try split at h)<;>omega
 unfold cY;rw[if_neg (by omega),if_pos this]
theorem Dm(n:Bool)(a:List Nat):zv n a=val a∨zv n a= -(val a:Int):=by unfold zv;split<;>simp
theorem ae9{n m:Bool}{a b:List Nat}(h:zv n a<0)(h2:zv m b<0):gR (val b) (val a)=cY (zv n a) (zv m b):=by
 unfold gR cY;have e:=Dm n a;have f:=Dm m b;generalize zv n a=p at *
 generalize zv m b=q at *
 repeat' split
 all_goals omega
theorem afa{n m:Bool}{a b:List Nat}(h:¬zv n a<0)(h2:¬zv m b<0):gR (val a) (val b)=cY (zv n a) (zv m b):=by
 unfold gR cY;have e:=Dm n a;have f:=Dm m b;generalize zv n a=p at *
 generalize zv m b=q at *
 repeat' split
 all_goals omega
theorem Dp{x y:Nat}:gR x y<0↔x<y:=by unfold gR;split<;>(try split)<;>omega
variable {C : Ctx} {fr : Fr} {hp : HP} {w : World} {K R : Qg}
def Gb(hb:Option HB)(o n:Nat):PV:=match hb with
 |some hb=>.sl hb.e ((hb.xs.drop o).take n)
 |none=>.undef
theorem ee:(∀(hp:HP)(β o n:Nat),aK hp (.ay β o n)=if bK β=true then .undef else Gb (hp β) o n)/\
  (∀(e ty o n:Nat)(xs:List PV)(fz:Bool),Gb (some ⟨e,ty,xs,fz⟩) o n= .sl e ((xs.drop o).take n))/\
  (∀(β:Nat),bK β=(decide (1000000<=β)&&decide (β<2000000)))/\
  (∀(hp:HP)(l:List Nat)(β:Nat),FW.cf hp l β=if l.contains β=true then(hp β).map (fun hb=>{ hb with fz:=true })else hp β):=by
 refine⟨fun hp β o n=>?_,fun _ _ _ _ _ _=>rfl,fun _=>rfl,fun _ _ _=>rfl⟩;simp only[aK,cF,Gb];cases bK β<;>cases hp β<;>rfl
theorem ah7{n d:Nat}{cs:List PV}(h:n<=cs.length):kP n true (.pt cs) d fr hp K=K (af fr d (.agg (cs.take n))) hp:=by simp[kP,h,eM,PV.cells]
theorem ah8{off d:Nat}{cs:List PV}(h:off<=cs.length):qS off (.pt cs) d fr hp K=K (af fr d (.pt (cs.drop off))) hp:=by simp[qS,h]
theorem ahD{off n d:Nat}{cs:List PV}(h:off+n<=cs.length):qN off n true (.agg cs) d fr hp K=K (af fr d (.agg ((cs.drop off).take n))) hp:=by simp[qN,h,eM,PV.cells]
theorem ahE{off d:Nat}{cs:List PV}(h:off+1<=cs.length):qN off 1 false (.agg cs) d fr hp K=K (af fr d ((cs.drop off).headD .undef)) hp:=by simp[qN,h,eM,PV.cells]
def rv(n:Bool)(a d:List Nat):Rat:=mkRat (zv n a) (val d)
abbrev PV.rr(n:Bool)(a d:List Nat):PV:=.agg [.bool n,PV.nat a,PV.nat d]
abbrev PV.rat(q:Rat):PV:=.agg [.bool (decide (q.num<0)),PV.num q.num.natAbs,PV.num q.den]
theorem gN(q:Rat):rv (decide (q.num<0)) (ah q.num.natAbs) (ah q.den)=q:=by unfold rv;rw[lM,Q7,Kc5]
theorem zJ{z:Int}{D:Nat}(hD:D≠0):(mkRat z D).num=z/(Nat.gcd z.natAbs D:Int)/\(mkRat z D).den=D/Nat.gcd z.natAbs D:=by rw[Rat.mkRat_def,dif_neg hD,Rat.normalize_eq];exact⟨rfl,rfl⟩
theorem QN{z:Int}{D:Nat}(hD:D≠0):PV.agg [.bool (decide (z<0)),PV.num (z.natAbs/Nat.gcd z.natAbs D),PV.num (D/Nat.gcd z.natAbs D)]=PV.rat (mkRat z D):=by
 obtain⟨h1,h2⟩:=zJ (z:=z) hD;have hg:0<Nat.gcd z.natAbs D:=Nat.gcd_pos_of_pos_right _ (KaY hD);have Ms:(Nat.gcd z.natAbs D:Int)∣z:=Kc0.2 (KbI _ _);obtain⟨k,hk⟩:=Ms;rw[PV.rat,h1,h2];generalize hgg:Nat.gcd z.natAbs D=g at *
 have e1:z/(g:Int)=k:=by rw[hk,Int.mul_ediv_cancel_left _ (by omega)]
 have e2:z.natAbs/g=k.natAbs:=by rw[hk,Kcq,KaD,Kbj _ hg]
 have e3:z<0↔k<0:=by
  rw[hk];constructor
  ·intro h;apply Decidable.byContradiction;intro h';have:=Int.mul_nonneg (show(0:Int)<=g by omega) (show 0<=k by omega);omega
  ·intro h;exact Int.mul_neg_of_pos_of_neg (by omega) h
 rw[e1,e2,decide_eq_decide.2 e3]
theorem akB(z:Int):PV.agg [.bool (decide (z<0)),PV.num z.natAbs,PV.nat [1]]=PV.rat (mkRat z 1):=by rw[<-QN (by omega),Nat.gcd_one_right,Nat.div_one,Nat.div_one,PV.num,PV.num,rT]
theorem Pv:PV.le (.agg [.bool false,.aa,PV.nat [1]]) (PV.rat 0):=by
 show PV.BL _ _;refine⟨rfl,?_,?_,trivial⟩
 ·show PV.me .aa (PV.nat (ah 0));rw[fH];trivial
 ·show PV.me (PV.nat [1]) (PV.nat (ah 1));rw[rT];exact zU _
theorem Sq{z:Int}{D:Nat}(h:D=0∨z=0):mkRat z D=0:=by
 rcases h with h|h
 ·rw[h,Rat.mkRat_zero]
 ·rw[h,Rat.zero_mkRat]
def rs(q:Rat):Nat:=max (nl q.num.natAbs) (nl q.den)
theorem vA(x y:Nat):nl (x/y)<=nl x:=fJ (KcL _ _)
theorem jP:nl 1=1:=by unfold nl;rw[rT];rfl
theorem Dy(z:Int)(D:Nat):rs (mkRat z D)<=max (nl z.natAbs) (max (nl D) 1):=by
 by_cases hD:D=0
 ·rw[hD,Rat.mkRat_zero];show max (nl 0) (nl 1)<=_;rw[xx,jP];omega
 ·obtain⟨h1,h2⟩:=zJ (z:=z) hD;unfold rs;rw[h1,h2];have e:(z/(Nat.gcd z.natAbs D:Int)).natAbs<=z.natAbs:=by have Ms:(Nat.gcd z.natAbs D:Int)∣z:=Kc0.2 (KbI _ _);rw[Int.natAbs_ediv_of_dvd Ms];exact KcL _ _
  have:=fJ e;have:=vA D (Nat.gcd z.natAbs D);omega
theorem zc(x y:Int):nl (x+y).natAbs<=max (nl x.natAbs) (nl y.natAbs)+1:=
 Kaw (fJ (Int.natAbs_add_le x y)) (vz _ _)
theorem lH(x y:Int):nl (x*y).natAbs<=nl x.natAbs+nl y.natAbs:=by rw[Kcq];exact gL _ _
theorem QO(q:Rat):1<=rs q:=by have:nl q.den≠0:=fun h=>q.den_nz (w7.1 h);unfold rs;omega
theorem Ej(a b:Rat):rs (a+b)<=rs a+rs b+1:=by
 have e:a+b=mkRat (a.num*b.den+b.num*a.den) (a.den*b.den):=by
  conv=>lhs;rw[<-Rat.mkRat_self a,<-Rat.mkRat_self b]
  exact Rat.mkRat_add_mkRat _ _ a.den_nz b.den_nz
 rw[e];have h1:=Dy (a.num*b.den+b.num*a.den) (a.den*b.den);have h2:=zc (a.num*b.den) (b.num*a.den);have h3:=lH a.num b.den;have h4:=lH b.num a.den;have h5:=gL a.den b.den;rw[KaD]at h3 h4;unfold rs at *
 omega
theorem QP(a b:Rat):rs (a*b)<=rs a+rs b:=by
 have e:a*b=mkRat (a.num*b.num) (a.den*b.den):=by
  conv=>lhs;rw[<-Rat.mkRat_self a,<-Rat.mkRat_self b]
  exact Rat.mkRat_mul_mkRat _ _ _ _
 rw[e];have h1:=Dy (a.num*b.num) (a.den*b.den);have h3:=lH a.num b.num;have h5:=gL a.den b.den;have:=QO a;unfold rs at *
 omega
theorem ahF{n k:Nat}{a d:List Nat}{b:Bool}(ha:Qq a)(hd:Qq d)(h1:a.length<=k)(h2:d.length<=k)(hk:1<=k):rs (rv b a d)<=k:=by unfold rv;have h:=Dy (zv b a) (val d);rw[jN]at h;have:=ck ha;have:=ck hd;omega
end Go.FW
namespace Go.FW
open Go
def gf(q:Rat):Int:=fu q.num
def oa(p q:Rat):Int:=if p<q then -1 else if q<p then 1 else 0
theorem Gl{z:Int}{D:Nat}(hD:D≠0):∃g:Nat,0<g/\z=(mkRat z D).num*g/\D=(mkRat z D).den*g:=by
 obtain⟨h1,h2⟩:=zJ (z:=z) hD;have hg:0<Nat.gcd z.natAbs D:=Nat.gcd_pos_of_pos_right _ (KaY hD);refine⟨_,hg,?_,?_⟩
 ·rw[h1,Int.ediv_mul_cancel (Kc0.2 (KbI _ _))]
 ·rw[h2,Nat.div_mul_cancel (KbW _ _)]
theorem ZR{a:Int}{g:Nat}(hg:0<g):a*g<0↔a<0:=by
 constructor
 ·intro h;apply Decidable.byContradiction;intro h';have:=Int.mul_nonneg (show 0<=a by omega) (show(0:Int)<=g by omega);omega
 ·intro h;exact Int.mul_neg_of_neg_of_pos h (by omega)
theorem ZS{a:Int}{g:Nat}(hg:0<g):0<a*g↔0<a:=by
 constructor
 ·intro h;apply Decidable.byContradiction;intro h';have:=Int.mul_nonneg (show 0<= -a by omega) (show(0:Int)<=g by omega);rw[Int.neg_mul]at this;omega
 ·intro h;exact Int.mul_pos h (by omega)
theorem abB{z:Int}{D:Nat}(hD:D≠0):gf (mkRat z D)=fu z:=by
 obtain⟨g,hg,h1,_⟩:=Gl (z:=z) hD;unfold gf;generalize(mkRat z D).num=x at *
 subst h1;unfold fu;have:=ZR (a:=x) hg;have:=ZS (a:=x) hg
 repeat' split
 all_goals omega
theorem Ow{x y:Int}{d c:Nat}(hd:d≠0)(hc:c≠0):mkRat x d<mkRat y c↔x*c<y*d:=by
 obtain⟨g,hg,h1,h2⟩:=Gl (z:=x) hd;obtain⟨k,hk,h3,h4⟩:=Gl (z:=y) hc;rw[Rat.lt_iff];generalize(mkRat x d).num=p at *
 generalize(mkRat x d).den=p' at *
 generalize(mkRat y c).num=q at *
 generalize(mkRat y c).den=q' at *
 subst h1 h2 h3 h4;have e1:p*(g:Int)*((q'*k:Nat):Int)=(p*q')*((g*k:Nat):Int):=by push_cast;grind
 have e2:q*(k:Int)*((p'*g:Nat):Int)=(q*p')*((g*k:Nat):Int):=by push_cast;grind
 rw[e1,e2];have yB:(0:Int)<((g*k:Nat):Int):=by exact_mod_cast Kce hg hk
 exact⟨fun h=>Int.mul_lt_mul_of_pos_right h yB,fun h=>Int.lt_of_mul_lt_mul_right h (Int.le_of_lt yB)⟩
theorem Pw{x y:Int}{d c:Nat}(hd:d≠0)(hc:c≠0):oa (mkRat x d) (mkRat y c)=cY (x*c) (y*d):=by unfold oa cY;simp only[Ow hd hc,Ow hc hd]
theorem DA{x:Int}:fu x=0↔x=0:=by unfold fu;(repeat' split)<;>omega
theorem ic{q:Rat}:gf q=0↔q=0:=by unfold gf;rw[DA,Rat.num_eq_zero]
theorem DB{q:Rat}:gf q<0↔q<0:=by unfold gf;rw[xz,Rat.lt_iff];simp
theorem Ox{q:Rat}:0<gf q↔0<q:=by
 unfold gf;rw[Rat.lt_iff];unfold fu;simp;repeat' split
 all_goals omega
theorem Ur(q:Rat):gf q= -1∨gf q=0∨gf q=1:=by unfold gf fu;(repeat' split)<;>omega
theorem Oy{p q:Rat}(h:gf p<gf q):oa p q= -1:=by
 unfold oa;rw[if_pos];rcases Ur p with h1|h1|h1<;>rcases Ur q with h2|h2|h2<;>first|omega|skip
 ·have a:=DB.1 (show gf p<0 by omega);have b:=ic.1 h2;grind
 ·have a:=DB.1 (show gf p<0 by omega);have b:=Ox.1 (show 0<gf q by omega);grind
 ·have a:=ic.1 h1;have b:=Ox.1 (show 0<gf q by omega);grind
theorem adq{p q:Rat}(h:gf q<gf p):oa p q=1:=by
 have:=Oy h;unfold oa at *
 have ar:q<p:=by apply Decidable.byContradiction;intro hn;rw[if_neg hn]at this;split at this<;>omega
 rw[if_neg (by grind),if_pos ar]
theorem Us{p q:Rat}:oa p q=0↔p=q:=by
 unfold oa;constructor
 ·intro h;split at h
  ·omega
  ·split at h
   ·omega
   ·grind
 ·rintro rfl;rw[if_neg (by grind),if_neg (by grind)]
def nR(n:Bool)(a:List Nat):Bool:=if a=[]then !n else decide (a.getLast? ≠some 0)
def pI(n:Bool)(a d:List Nat):Bool:=nR n a&&(decide (d≠[]/\d.getLast? ≠some 0)&&decide (Nat.gcd (val a) (val d)=1))
theorem adr{n:Bool}{a d:List Nat}(ha:Qq a)(hd:Qq d)(h:pI n a d=true):n=decide ((rv n a d).num<0)/\a=ah (rv n a d).num.natAbs/\d=ah (rv n a d).den:=by
 simp only[pI,nR,Kat,decide_eq_true_eq]at h;obtain⟨h1,⟨h2,h3⟩,h4⟩:=h;have ea:a=ah (val a):=by
  refine(Ac ha ?_).symm;split at h1
  ·rename_i h;subst h;simp
  ·simpa using h1
 have ed:d=ah (val d):=(Ac hd h3).symm;have hD:val d≠0:=fun h=>h2 (by rw[ed,h,fH]);obtain⟨g1,g2⟩:=zJ (z:=zv n a) hD;rw[jN,h4]at g1 g2;have Er:(rv n a d).num=zv n a:=by unfold rv;rw[g1];simp
 have g2':(rv n a d).den=val d:=by unfold rv;rw[g2];simp
 rw[Er,g2',jN];refine⟨?_,ea,ed⟩;unfold zv;split at h1
 ·rename_i h;subst h;simp at h1;subst h1;simp[val]
 ·rename_i h;have h0:val a≠0:=fun h'=>h (by rw[ea,h',fH]);cases n<;>simp;omega
theorem Sr{a:List Nat}{k:Nat}(h:a.length=k+1):a.getLast? =some (a[k]'(by omega)):=by rw[Ka3,show a.length-1=k by omega];exact Kam _
def eN(a:List Int)(i:Nat):Int:=a.getD i 0
theorem fk{a:List Int}{i:Nat}(h:i<a.length):eN a i=a[i]:=by simp[eN,Kap,h]
theorem fB{a:List Int}{i:Nat}(h:a.length<=i):eN a i=0:=by simp[eN,Kap,List.getElem?_eq_none h]
theorem FU(i:Nat):eN [] i=0:=by simp[eN]
def kA(l:List Int):Nat->List Int
 |0=>[]
 |n+1=>if l[n]? =some 0 then kA l n else l.take (n+1)
def gO(l:List Int):List Int:=kA l l.length
theorem Ss(l:List Int):∀n,(kA l n).length<=n
 |0=>by simp[kA]
 |n+1=>by
  rw[kA];split
  ·have:=Ss l n;omega
  ·simp;omega
theorem Ut(l:List Int):∀n,n<=l.length->(kA l n).getLast? ≠some 0
 |0,_=>by simp[kA]
 | n+1,h=>by
  rw[kA];split
  ·exact Ut l n (by omega)
  ·rename_i hn;have:(l.take (n+1)).getLast? =l[n]? :=by rw[Ka3,KaF,KbZ h];simp[Kca]
   rw[this];exact hn
theorem Px(l:List Int)(i:Nat):∀n,n<=l.length->eN (kA l n) i=if i<n then eN l i else 0
 |0,_=>by simp[kA,eN]
 | n +1,h=>by
  rw[kA];split
  ·rename_i hn;rw[Px l i n (by omega)];by_cases h1:i<n
   ·simp[h1,show i<n+1 by omega]
   ·rw[if_neg h1];split
    ·obtain rfl:i=n:=by omega
     simp[eN,Kap,hn]
    ·rfl
  ·simp only[eN,Kap,Kca];split<;>simp_all
theorem zY(l:List Int)(i:Nat):eN (gO l) i=eN l i:=by
 rw[gO,Px l i _ (Kac _)];split
 ·rfl
 ·exact(fB (by omega)).symm
theorem CQ(l:List Int):(gO l).getLast? ≠some 0:=Ut l _ (Kac _)
theorem sZ(l:List Int):(gO l).length<=l.length:=Ss l _
theorem pC{a b:List Int}(ha:a.getLast? ≠some 0)(hb:b.getLast? ≠some 0)(h:∀i,eN a i=eN b i):a=b:=by
 have key:∀(a b:List Int),b.getLast? ≠some 0->(∀i,eN a i=eN b i)->¬a.length<b.length:=by intro a b hb h ar;have h1:=h (b.length-1);rw[fB (by omega),fk (by omega)]at h1;apply hb;rw[Ka3,Kam (by omega),<-h1]
 have h1:=key a b hb h;have h2:=key b a ha (fun i=>(h i).symm);refine KcU (by omega) fun i h3 h4=>?_;have:=h i
 rwa[fk h3,fk h4]at this
theorem HX{a:List Int}(h:a.getLast? ≠some 0):gO a=a:=pC (CQ a) h (zY a)
def du(a b:List Int):Nat->Int
 |0=>0
 |n+1=>if eN a n=eN b n then du a b n else cY (eN a n) (eN b n)
def aR(a b:List Int):Int:=du a b (max a.length b.length)
theorem Py{x y:Int}:cY x y=0↔x=y:=by unfold cY;(repeat' split)<;>omega
theorem abC(x y:Int):cY x y= -1∨cY x y=0∨cY x y=1:=by unfold cY;(repeat' split)<;>omega
theorem vr{x y:Int}:cY x y<0↔x<y:=by unfold cY;(repeat' split)<;>omega
theorem ads(x y:Int):cY y x= -cY x y:=by unfold cY;(repeat' split)<;>omega
theorem C6(a b:List Int):∀n,du a b n=0↔∀i,i<n->eN a i=eN b i
 |0=>by simp[du]
 | n+1=>by
  rw[du];split
  ·rename_i h;rw[C6 a b n];exact⟨fun H i hi=>by
    by_cases h1:i=n
    ·subst h1;exact h
    ·exact H i (by omega),fun H i hi=>H i (by omega)⟩
  ·rename_i h;rw[Py];exact⟨fun H=>absurd H h,fun H=>H n (by omega)⟩
theorem Oz(a b:List Int):∀n,du b a n= -du a b n
 |0=>rfl
 |n+1=>by
  rw[du,du];by_cases h:eN a n=eN b n
  ·rw[if_pos h,if_pos h.symm,Oz a b n]
  ·rw[if_neg h,if_neg (fun h'=>h h'.symm),ads]
theorem To{a b c:List Int}:∀n,du a b n<0->du b c n<0->du a c n<0
 |0=>by simp[du]
 | n+1=>by
  intro h1 h2;rw[du]at h1 h2⊢;split at h1<;>split at h2
  ·rename_i e1 e2;rw[if_pos (e1.trans e2)];exact To n h1 h2
  ·rename_i e1 e2;rw[e1,if_neg e2];exact h2
  ·rename_i e1 e2;rw[<-e2,if_neg e1];exact h1
  ·rename_i e1 e2;rw[vr]at h1 h2;rw[if_neg (by omega),vr];omega
theorem tt{a b:List Int}{m:Nat}(h:max a.length b.length<=m):du a b m=aR a b:=by
 obtain⟨k,rfl⟩:∃k,m=max a.length b.length+k:=⟨m-max a.length b.length,by omega⟩
 induction k with
 |zero=>rfl
 |succ k ih=>rw[<-Nat.add_assoc,du,if_pos (by rw[fB (by omega),fB (by omega)])];exact ih (by omega)
theorem Ii{a b:List Int}(ha:a.getLast? ≠some 0)(hb:b.getLast? ≠some 0):aR a b=0↔a=b:=by
 unfold aR;rw[C6];constructor
 ·intro h;refine pC ha hb fun i=>?_;by_cases hi:i<max a.length b.length
  ·exact h i hi
  ·rw[fB (by omega),fB (by omega)]
 ·rintro rfl i _;rfl
theorem C8(a:List Int):aR a a=0:=by rw[aR,C6];intros;rfl
theorem vh(a b:List Int):aR b a= -aR a b:=by unfold aR;rw[Nat.max_comm,Oz]
theorem ZT{a b c:List Int}(h1:aR a b<0)(h2:aR b c<0):aR a c<0:=by
 have e:∀x y:List Int,x.length<=a.length+b.length+c.length->y.length<=a.length+b.length+c.length->aR x y=du x y (a.length+b.length+c.length):=fun x y hx hy=>(tt (by omega)).symm;rw[e _ _ (by omega) (by omega)]at *
 exact To _ h1 h2
theorem ZU{a b c d:List Int}(h1:∀i,eN a i=eN c i)(h2:∀i,eN b i=eN d i):aR a b=aR c d:=by
 have key:∀n,du a b n=du c d n:=by
  intro n;induction n with
  |zero=>rfl
  |succ n ih=>rw[du,du,h1,h2,ih]
 rw[<-tt (m:=max (max a.length b.length) (max c.length d.length)) (by omega),key,tt (by omega)]
def kB(g:Int->Int->Int)(a b:List Int):List Int:=(List.range (max a.length b.length)).map fun i=>g (eN a i) (eN b i)
theorem pq(g:Int->Int->Int)(a b:List Int):(kB g a b).length=max a.length b.length:=by simp[kB]
theorem Pz{g:Int->Int->Int}(hg:g 0 0=0)(a b:List Int)(i:Nat):eN (kB g a b) i=g (eN a i) (eN b i):=by
 by_cases h:i<max a.length b.length
 ·rw[fk (by rw[pq];exact h)];simp[kB]
 ·rw[fB (by rw[pq];omega),fB (by omega),fB (by omega),hg]
def bC(a b:List Int):List Int:=gO (kB (· + ·) a b)
theorem jz(a b:List Int)(i:Nat):eN (bC a b) i=eN a i+eN b i:=by rw[bC,zY,Pz (by simp)]
theorem pA(a b:List Int):(bC a b).getLast? ≠some 0:=CQ _
theorem xe(a b:List Int):bC a b=bC b a:=pC (pA _ _) (pA _ _) fun i=>by rw[jz,jz,Int.add_comm]
theorem Zv(a b c:List Int):bC (bC a b) c=bC a (bC b c):=pC (pA _ _) (pA _ _) fun i=>by simp only[jz,Int.add_assoc]
theorem tu{a:List Int}(h:a.getLast? ≠some 0):bC a []=a:=pC (pA _ _) h fun i=>by rw[jz,FU,Int.add_zero]
theorem adt(a b c:List Int):aR (bC a c) (bC b c)=aR a b:=by
 have key:∀n,du (bC a c) (bC b c) n=du a b n:=by
  intro n;induction n with
  |zero=>rfl
  |succ n ih=>
   rw[du,du,jz,jz,ih];by_cases h:eN a n=eN b n
   ·rw[if_pos h,if_pos (by omega)]
   ·rw[if_neg h,if_neg (by omega)];unfold cY;(repeat' split)<;>omega
 rw[<-tt (m:=max (max (bC a c).length (bC b c).length) (max a.length b.length)) (by omega),key,tt (by omega)]
def fm(a:List Int):Int:=a.sum
def fy(a:List Int):Bool:=decide (a.length<=64)&&(decide (a.getLast? ≠some 0)&&a.all fun x=>decide (0<=x)&&decide (x<=1048576))
def jU(o:Int)(a b:List Int):Int:=if o=1/\fm a≠fm b then cY (fm a) (fm b)else aR a b
structure MB(k:Nat)(a:List Int):Prop where
 len:a.length<=64
 lo:∀x∈a,0<=x
 hi:∀x∈a,x<=k
theorem MB.eN{k:Nat}{a:List Int}(h:MB k a)(i:Nat):0<=FW.eN a i/\FW.eN a i<=k:=by
 by_cases hi:i<a.length
 ·rw[fk hi];exact⟨h.lo _ (Kag _),h.hi _ (Kag _)⟩
 ·rw[fB (by omega)];omega
theorem MB.mono{k k':Nat}{a:List Int}(h:MB k a)(hk:k<=k'):MB k' a:=⟨h.len,h.lo,fun x hx=>by have:=h.hi x hx;omega⟩
theorem MB.uI{a:List Int}(h:fy a=true):MB 1048576 a:=by simp only[fy,Kat,decide_eq_true_eq,Kay]at h;exact⟨h.1,fun x hx=>(h.2.2 x hx).1,fun x hx=>(h.2.2 x hx).2⟩
theorem MB.mul{k l:Nat}{a b:List Int}(h:MB k a)(g:MB l b):MB (k+l) (bC a b):=by
 have hl:(bC a b).length<=64:=by have:=sZ (kB (· + ·) a b);rw[pq]at this;have:=h.len;have:=g.len;unfold bC;omega
 refine⟨hl,fun x hx=>?_,fun x hx=>?_⟩
 all_goals
  obtain⟨i,hi,rfl⟩:=Kbe hx;rw[<-fk hi,jz];have:=h.eN i;have:=g.eN i
  push_cast;omega
variable {C : Ctx} {fr : Fr} {hp : HP} {w : World} {K R : Qg}
theorem akC{α:Type}{f:α->PV}{e d:Nat}{xs:List α}{k k':IntKind}{n:Nat}(h5:n<=xs.length):
  iI e (.sl e (xs.map f)) none (some (.int k (n:Int))) (some (.int k' (n:Int))) d fr hp K=K (af fr d (.sl e ((xs.take n).map f))) hp:=by
 simp[iI,ix,h5]
theorem DC{α:Type}{a:List α}{k:Nat}(h:a.length=k+1):a.getLast? =some (a[k]'(by omega)):=by rw[Ka3,show a.length-1=k by omega];exact Kam _
theorem YC{α:Type}{f:α->PV}{e by_ ty d:Nat}{xs:List α}(h0:0<e)(h1:xs.length*by_<=140737488355328)(h2:xs.length<=9223372036854775807):
  iO e by_ ty .aa (.sl e (xs.map f)) d fr hp K=K (af (cK d fr) d (.ms d xs.length)) (Qy hp d ⟨e,ty,xs.map f,false⟩):=by
 have:=CP (fr:=fr) (hp:=hp) (K:=K) (e:=e) (by_:=by_) (ty:=ty) (d:=d) (x:=.sl e (xs.map f)) (ys:=xs.map f) rfl h0 (by simpa using h1) (by simpa using h2);simpa using this
theorem mG{α:Type}{f:α->PV}{e by_ ty d β n:Nat}{xs ys:List α}(hb:hp β=some ⟨e,ty,xs.map f,false⟩)(hn:n=xs.length)(h0:0<e)(h1:(n+ys.length)*by_<=140737488355328)(h2:n+ys.length<=9223372036854775807)(hB:cd β=false:=by decide):
  iO e by_ ty (.ms β n) (.sl e (ys.map f)) d fr hp K=K (af (cK β fr) d (.ms β (n+ys.length))) (Qy hp β ⟨e,ty,(xs++ys).map f,false⟩):=by
 rw[GN (ys:=ys.map f) (xs:=xs.map f) rfl hb h0 (by simp[hn]) (by simpa using h1) (by simpa using h2) hB];rw[Kae (by simp[hn]),List.map_append,KaT]
theorem Q9{α:Type}{f:α->PV}{y:α}{e by_ ty ty' d β γ n:Nat}{xs:List α}{fz:Bool}(hb:hp β=some ⟨e,ty,xs.map f,false⟩)(hy:hp γ=some ⟨e,ty',[f y],fz⟩)(h0:0<e)(hn:n=xs.length)(h1:(n+1)*by_<=140737488355328)(h2:n+1<=9223372036854775807)(hB:cd β=false:=by decide):
  iO e by_ ty (.ms β n) (.ms γ 1) d fr hp K=K (af (cK β fr) d (.ms β (n+1))) (Qy hp β ⟨e,ty,(xs++[y]).map f,false⟩):=by
 rw[HO hb hy h0 (by simp[hn]) h1 h2 hB];simp
abbrev PV.mono(a:List Int):PV:=.sl 1 (iP a)
theorem Uu{a:List Int}(h:a=[]):PV.le .aa (PV.mono a):=by subst h;trivial
theorem ahG{by_ ty d:Nat}{k k':IntKind}{n c:Nat}(h2:n<=c)(h3:by_*c<=281474976710656)(h4:c<=9223372036854775807):
  nv 1 by_ ty (.int .i64 0) (.int k (n:Int)) (.int k' (c:Int)) d fr hp K=K (af (cK d fr) d (.ms d n)) (Qy hp d ⟨1,ty,iP (List.replicate n 0),false⟩):=by
 rw[P' (by omega) (by omega) (by omega) (by omega)];simp[iP]
theorem PA(a b:Nat):max (a:Int) (b:Int)=((max a b:Nat):Int):=by omega
end Go.FW
namespace Go.FW
open Go
variable {C : Ctx} {fr : Fr} {hp : HP} {w : World} {K R : Qg}
theorem abD{α:Type}{done:List α}{i n:Nat}{v z:α}(h:done.length=i)(hn:0<n):(done++List.replicate n z).set i v=(done++[v])++List.replicate (n-1) z:=by
 obtain⟨m,rfl⟩:∃m,n=m+1:=⟨n-1,by omega⟩
 subst h;simp[Kbq]
theorem Hi{g:Int->Int->Int}{a b:List Int}{i:Nat}(h:i<max a.length b.length):(kB g a b).take (i+1)=(kB g a b).take i++[g (eN a i) (eN b i)]:=by rw[Kah (by rw[pq];exact h)];simp[kB]
end Go.FW
namespace Go.FW
open Go
abbrev Tm:=Rat×List Int
abbrev PV.term(t:Tm):PV:=.agg [.bool (decide (t.1.num<0)),PV.num t.1.num.natAbs,PV.num t.1.den,PV.mono t.2]
abbrev PV.aj(p:List Tm):PV:=.sl 4 (p.map PV.term)
abbrev PV.bX(l:List (List Tm)):PV:=.sl 1 (l.map PV.aj)
def Q8:List Tm->List Tm->List Tm
 | [],q=>q
 |p,[]=>p
 |(c,m)::p,(d,l)::q=>
  if 0<aR m l then(c,m)::Q8 p ((d,l)::q)
  else if aR m l<0 then(d,l)::Q8 ((c,m)::p) q
  else if c+d=0 then Q8 p q else(c+d,m)::Q8 p q
termination_by p q=>p.length+q.length
theorem kV(p:List Tm):Q8 p []=p:=by cases p<;>rw[Q8];simp
theorem pE(p:List Tm):Q8 [] p=p:=by rw[Q8]
structure TB(K E:Nat)(t:Tm):Prop where
 c:rs t.1+1<=K
 m:MB E t.2
 l:t.2.getLast? ≠some 0
def PB(K E:Nat)(p:List Tm):Prop:=∀t∈p,TB K E t
theorem TB.mono{K K' E E':Nat}{t:Tm}(h:TB K E t)(hK:K<=K')(hE:E<=E'):TB K' E' t:=⟨Kaw h.c hK,h.m.mono hE,h.l⟩
theorem PB.mono{K K' E E':Nat}{p:List Tm}(h:PB K E p)(hK:K<=K')(hE:E<=E'):PB K' E' p:=fun t ht=>(h t ht).mono hK hE
theorem PB.nil(K E:Nat):PB K E []:=fun t ht=>by cases ht
theorem PB.cons{K E:Nat}{t:Tm}{p:List Tm}:PB K E (t::p)↔TB K E t/\PB K E p:=by simp[PB]
theorem PB.drop{K E:Nat}{p:List Tm}(h:PB K E p)(n:Nat):PB K E (p.drop n):=fun t ht=>h t (Kbw ht)
theorem PB.take{K E:Nat}{p:List Tm}(h:PB K E p)(n:Nat):PB K E (p.take n):=fun t ht=>h t (Kbc ht)
theorem PB.get{K E:Nat}{p:List Tm}(h:PB K E p){i:Nat}(hi:i<p.length):TB K E p[i]:=h _ (Kag hi)
theorem s9:∀(p q:List Tm),(Q8 p q).length<=p.length+q.length:=by
 intro p q;induction p,q using Q8.induct with
 |case1 q=>rw[Q8];simp
 |case2 p h=>rw[kV];simp
 |case3 c m p d l q h ih=>rw[Q8,if_pos h];simp at ih ⊢;omega
 |case4 c m p d l q h1 h2 ih=>rw[Q8,if_neg h1,if_pos h2];simp at ih ⊢;omega
 |case5 c m p d l q h1 h2 h3 ih=>rw[Q8,if_neg h1,if_neg h2,if_pos h3];simp at ih ⊢;omega
 |case6 c m p d l q h1 h2 h3 ih=>rw[Q8,if_neg h1,if_neg h2,if_neg h3];simp at ih ⊢;omega
theorem tE{K L E:Nat}:∀(p q:List Tm),PB K E p->PB L E q->PB (K+L) E (Q8 p q):=by
 intro p q;induction p,q using Q8.induct with
 |case1 q=>rw[Q8];exact fun _ h=>h.mono (by omega) (by omega)
 |case2 p h=>rw[kV];exact fun h _=>h.mono (by omega) (by omega)
 |case3 c m p d l q h ih=>intro hp hq;rw[Q8,if_pos h];rw[PB.cons]at hp⊢;exact⟨hp.1.mono (by omega) (by omega),ih hp.2 hq⟩
 |case4 c m p d l q h1 h2 ih=>intro hp hq;rw[Q8,if_neg h1,if_pos h2];rw[PB.cons]at hq⊢;exact⟨hq.1.mono (by omega) (by omega),ih hp hq.2⟩
 |case5 c m p d l q h1 h2 h3 ih=>intro hp hq;rw[Q8,if_neg h1,if_neg h2,if_pos h3];rw[PB.cons]at hp hq;exact ih hp.2 hq.2
 |case6 c m p d l q h1 h2 h3 ih=>intro hp hq;rw[Q8,if_neg h1,if_neg h2,if_neg h3];rw[PB.cons]at hp hq⊢;refine⟨⟨?_,hp.1.m,hp.1.l⟩,ih hp.2 hq.2⟩;have:=Ej c d;have:=hp.1.c;have:=hq.1.c;simp only at *;omega
def cQ(l:List (List Tm)):List Tm:=
 match l with
 | []=>[]
 | [p]=>p
 |p::q::r=>Q8 (cQ ((p::q::r).take ((p::q::r).length/2))) (cQ ((p::q::r).drop ((p::q::r).length/2)))
termination_by l.length
decreasing_by
 all_goals simp[KaF,Ka5];omega
theorem zK{l:List (List Tm)}(h:2<=l.length):cQ l=Q8 (cQ (l.take (l.length/2))) (cQ (l.drop (l.length/2))):=by
 match l,h with
 |p::q::r,_=>rw[cQ]
def r9(l:List (List Tm)):Nat:=(l.map List.length).sum
theorem Tp(l:List (List Tm))(n:Nat):r9 (l.take n)+r9 (l.drop n)=r9 l:=by unfold r9;rw[<-List.sum_append,<-List.map_append,Kbo]
theorem GV{K E:Nat}:∀(n:Nat)(l:List (List Tm)),l.length<=n->(∀p∈l,PB K E p)->PB (l.length*K) E (cQ l)/\(cQ l).length<=r9 l:=by
 intro n;induction n with
 |zero=>intro l hl _;have:l=[]:=Kas.1 (by omega);subst this;rw[cQ];exact⟨PB.nil _ _,by simp⟩
 | succ n ih=>
  intro l hl h
  match l,h with
  | [],_=>rw[cQ];exact⟨PB.nil _ _,by simp⟩
  | [p],h=>rw[cQ];exact⟨by simpa using h p (by simp),by simp[r9]⟩
  | p::q::r,h=>
   rw[zK (by simp)];generalize hL:p::q::r=L at *
   have hlen:2<=L.length:=by rw[<-hL];simp
   obtain⟨a1,a2⟩:=ih (L.take (L.length/2)) (by rw[KaF];omega) (fun x hx=>h x (Kbc hx));obtain⟨b1,b2⟩:=ih (L.drop (L.length/2)) (by rw[Ka5];omega) (fun x hx=>h x (Kbw hx));have hs:=Tp L (L.length/2);constructor
   ·have e:(L.take (L.length/2)).length*K+(L.drop (L.length/2)).length*K=L.length*K:=by rw[<-Nat.add_mul,KaF,Ka5];congr 1;omega
    rw[<-e];exact tE _ _ a1 b1
   ·have:=s9 (cQ (L.take (L.length/2))) (cQ (L.drop (L.length/2)));omega
def bd(p:List Tm)(t:Tm):List Tm:=p.filterMap fun x=>if x.1*t.1=0 then none else some (x.1*t.1,bC x.2 t.2)
theorem uT(p:List Tm)(t:Tm):(bd p t).length<=p.length:=Kcb _ _
theorem tk{K L E F:Nat}{p:List Tm}{t:Tm}(hp:PB K E p)(ht:TB L F t):PB (K+L) (E+F) (bd p t):=by
 intro x hx;simp only[bd,KbR]at hx;obtain⟨y,hy,h⟩:=hx;split at h
 ·cases h
 ·cases h;have g:=hp y hy;refine⟨?_,g.m.mul ht.m,pA _ _⟩;have:=QP y.1 t.1;have:=g.c;have:=ht.c;simp only;omega
def oK(p q:List Tm):List Tm:=cQ (p.map (bd q))
def Q4(p q:List Tm):List Tm:=if q.length<p.length then oK q p else oK p q
theorem Gj(p q:List Tm):r9 (p.map (bd q))<=p.length*q.length:=by
 unfold r9;induction p with
 |nil=>simp
 |cons t p ih=>have:=uT q t;simp only[Kba,Kdi,KaW,KaI,KcV];omega
theorem St{K L E F:Nat}{p q:List Tm}(hp:PB K E p)(hq:PB L F q):PB (p.length*(K+L)) (E+F) (oK p q)/\(oK p q).length<=p.length*q.length:=by obtain⟨h1,h2⟩:=GV (K:=K+L) (E:=E+F) _ (p.map (bd q)) (Kac _) (fun x hx=>by obtain⟨t,ht,rfl⟩:=KaE.1 hx;exact(tk hq (hp t ht)).mono (by omega) (by omega));rw[KaT]at h1;exact⟨h1,Kaw h2 (Gj p q)⟩
theorem s0{K L E F:Nat}{p q:List Tm}(hp:PB K E p)(hq:PB L F q):PB (min p.length q.length*(K+L)) (E+F) (Q4 p q)/\(Q4 p q).length<=p.length*q.length:=by
 unfold Q4;split
 ·rename_i h;obtain⟨h1,h2⟩:=St hq hp;rw[Kdd (by omega),KbQ K,KbQ E,KaS p.length];exact⟨h1,h2⟩
 ·rename_i h;obtain⟨h1,h2⟩:=St hp hq;rw[KbZ (by omega)];exact⟨h1,h2⟩
theorem zL(x y:Tm)(p q:List Tm):Q8 (x::p) (y::q)=if 0<aR x.2 y.2 then x::Q8 p (y::q)else if aR x.2 y.2<0 then y::Q8 (x::p) q else if x.1+y.1=0 then Q8 p q else(x.1+y.1,x.2)::Q8 p q:=by obtain⟨c,m⟩:=x;obtain⟨d,l⟩:=y;rw[Q8]
theorem Uv{p q:List Tm}{i k:Nat}(hi:i<p.length)(hk:k<q.length):Q8 (p.drop i) (q.drop k)=if 0<aR p[i].2 q[k].2 then p[i]::Q8 (p.drop (i+1)) (q.drop k)else if aR p[i].2 q[k].2<0 then q[k]::Q8 (p.drop i) (q.drop (k+1))else if p[i].1+q[k].1=0 then Q8 (p.drop (i+1)) (q.drop (k+1))else(p[i].1+q[k].1,p[i].2)::Q8 (p.drop (i+1)) (q.drop (k+1)):=by rw[Kaz hi,Kaz hk,zL]
theorem Ek(a b:List Int):jU 0 a b=aR a b:=by simp[jU]
theorem GW{a b:List Int}(h1:¬0<aR a b)(h2:¬aR a b<0)(ha:a.getLast? ≠some 0)(hb:b.getLast? ≠some 0):a=b:=(Ii ha hb).1 (by omega)
theorem pF:PV.le .aa (PV.aj []):=trivial
theorem Hj{p:List Tm}(h:p=[]):PV.le .aa (PV.aj p):=by subst h;trivial
section
variable {C : Ctx} {fr : Fr} {hp : HP} {w : World} {K R : Qg}
theorem adu{e by_ ty d:Nat}{z:PV}{k k':IntKind}{Cc:Int}(h0:0<e)(hz:z.cells.length=e)(h2:0<=Cc)(h3:by_*Cc<=281474976710656)(h4:Cc<=9223372036854775807):
  nv e by_ ty z (.int k 0) (.int k' Cc) d fr hp K=K (af (cK d fr) d (.ms d 0)) (Qy hp d ⟨e,ty,[],false⟩):=B8 h0 hz (by omega) h2 h3 h4
end
end Go.FW
namespace Go.FW
open Go
def b8(p:List Tm)(a:Rat):List Tm:=if a=0 then []else bd p (a,[])
def kZ(p:List Tm):List Tm:=b8 p (-1)
def fM(p q:List Tm):List Tm:=Q8 p (kZ q)
def dk(a:Rat):List Tm:=if a=0 then []else [(a,[])]
def Xn(v:Nat):List Int:=List.replicate v 0++[1]
def vM(v:Int):List Tm:=if v<0∨64<=v then []else [(1,Xn v.toNat)]
theorem TB.num{a:Rat}{K E:Nat}(h:rs a+1<=K):TB K E (a,[]):=⟨h,⟨by simp,by simp,by simp⟩,by simp⟩
theorem xf{p:List Tm}{a:Rat}{K E L:Nat}(hp:PB K E p)(ha:rs a+1<=L):PB (K+L) E (b8 p a):=by
 unfold b8;split
 ·exact PB.nil _ _
 ·exact(tk (F:=0) hp (TB.num ha)).mono (by omega) (by omega)
theorem uU(p:List Tm)(a:Rat):(b8 p a).length<=p.length:=by
 unfold b8;split
 ·simp
 ·exact uT _ _
theorem F2:rs (-1)<=1:=by have:rs (-1)=max (nl 1) (nl 1):=rfl;rw[this,jP];omega
theorem ob:rs 1<=1:=by have:rs 1=max (nl 1) (nl 1):=rfl;rw[this,jP];omega
theorem apx:rs 0<=1:=by have:rs 0=max (nl 0) (nl 1):=rfl;rw[this,jP,xx];omega
theorem xA{p:List Tm}{K E:Nat}(hp:PB K E p):PB (K+2) E (kZ p):=xf hp (by have:=F2;omega)
def mN(s t:Tm):Int:=if aR s.2 t.2≠0 then aR s.2 t.2 else oa s.1 t.1
def gT:List Tm->List Tm->Int
 | [],[]=>0
 | [],_::_=> -1
 |_::_,[]=>1
 |s::p,t::q=>if mN s t≠0 then mN s t else gT p q
theorem afb{s t:Tm}(hs:s.2.getLast? ≠some 0)(ht:t.2.getLast? ≠some 0):mN s t=0↔s=t:=by
 unfold mN;constructor
 ·intro h;split at h
  ·omega
  ·rename_i h1;have e1:=(Ii hs ht).1 (Decidable.not_not.1 h1);exact Prod.ext (Us.1 h) e1
 ·rintro rfl;rw[if_neg (by simp[C8]),Us.2 rfl]
theorem PC:∀ {p q:List Tm},(∀t∈p,t.2.getLast? ≠some 0)->(∀t∈q,t.2.getLast? ≠some 0)->(gT p q=0↔p=q)
 | [],[],_,_=>by simp[gT]
 | [],_::_,_,_=>by simp[gT]
 |_::_,[],_,_=>by simp[gT]
 | s::p,t::q,hp,hq=>by
  rw[gT];have h1:=afb (hp s (by simp)) (hq t (by simp));have h2:=PC (p:=p) (q:=q) (fun x hx=>hp x (by simp[hx])) (fun x hx=>hq x (by simp[hx]));split
  ·rename_i h;simp only[KcK];exact⟨fun h'=>absurd h' h,fun h'=>absurd (h1.2 h'.1) h⟩
  ·rename_i h;rw[h2,KcK,<-h1];exact⟨fun h'=>⟨Decidable.not_not.1 h,h'⟩,fun h'=>h'.2⟩
theorem Uw{p q:List Tm}{i:Nat}(hi:i<p.length)(hk:i<q.length):gT (p.drop i) (q.drop i)=if mN p[i] q[i]≠0 then mN p[i] q[i]else gT (p.drop (i+1)) (q.drop (i+1)):=by rw[Kaz hi,Kaz hk,gT]
theorem zZ{q:List Tm}:gT [] q=if q.length=0 then 0 else -1:=by cases q<;>simp[gT]
theorem PB.last{K E:Nat}{p:List Tm}(h:PB K E p):∀t∈p,t.2.getLast? ≠some 0:=fun t ht=>(h t ht).l
def jE(p:List Tm):Int:=p.foldl (fun d t=>max d (fm t.2)) (-1)
theorem Iu{E:Nat}{a:List Int}(h:MB E a):0<=fm a/\fm a<=64*E:=by
 have key:∀(l:List Int),(∀x∈l,0<=x)->(∀x∈l,x<=E)->0<=l.sum/\l.sum<=l.length*E:=by
  intro l;induction l with
  |nil=>simp
  |cons x l ih=>
   intro h1 h2;obtain⟨a1,a2⟩:=ih (fun y hy=>h1 y (by simp[hy])) (fun y hy=>h2 y (by simp[hy]));have b1:=h1 x (by simp);have b2:=h2 x (by simp);rw[Kdi,KaW]
   push_cast
   rw[Int.add_mul];omega
 obtain⟨h1,h2⟩:=key a h.lo h.hi;refine⟨h1,Int.le_trans h2 (Int.mul_le_mul_of_nonneg_right ?_ (by omega))⟩;have:=h.len;omega
open Go Go.RowKit
section
variable {F : Fence} {n : Nat} {P : Program}
def B5(lo:Nat):List Deferred->Nat->World->Prop
 | [],_,_=>True
 |d::ds,hi,W=>∃D,d={ target:=.collected D,args:= #[] }/\lo<=D/\D<hi/\W.heap[D]? =some (.deferred (some []))/\B5 lo ds D W
theorem B5.hi{lo:Nat}{W:World}:∀ {ds:List Deferred} {hi aC:Nat},B5 lo ds hi W->hi<=aC->B5 lo ds aC W
 | [],_,_,_,_=>trivial
 |_::_,_,_,⟨D,h1,h2,h3,h4,h5⟩,h=>⟨D,h1,h2,by omega,h4,h5⟩
end
end Go.FW
namespace Go.FW
open Go Go.RowKit
end Go.FW
