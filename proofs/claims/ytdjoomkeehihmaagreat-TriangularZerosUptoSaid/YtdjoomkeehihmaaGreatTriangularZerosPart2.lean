/- Part 2 of the proof of TriangularZeros: FwO, FwP, FwQ, FwR, FwS, FwT, FwU, FwV, FwW, FwX, FwY, FwZ, FwBA, FwBB, FwBC, FwBD, FwBE, FwBF, FwBG, FwBH, FwCA, FwCB, FwCC, FwCD, FwCE, FwCF, FwCG, FwCH, FwCI, FwCJ, FwCK, FwCL, FwMA, FwMB, FwMC, FwPA, FwPB, FwRC, FwRD. Own lemmas; no conditions. -/
import Derived.Test.YtdjoomkeehihmaaGreatTriangularZerosPart1
import Derived.Deep.RegionHeld3
import Derived.LoopN
import Derived.Maps.AppendAt
import Derived.Deep.AppendSrc
import Derived.OwnWalkIn
set_option maxHeartbeats 1000000
set_option linter.unusedSimpArgs false
set_option linter.unusedVariables false
set_option linter.unnecessarySimpa false
set_option maxRecDepth 100000
namespace Go.FW
open Go
section
variable {P : Program} {ops : Array Oper} {Q : Exit -> Act -> World -> Prop}
def vB(P:Program)(ops:Array Oper)(Q:Exit->Act->World->Prop)(iX:Nat->Bool):Nat->Array Bool->Act->World->Prop
 |0,a9,a,w=>Region.ready .any ops a9=[]/\Q .normal a w
 |fuel+1,a9,a,w=>
  (Region.ready .any ops a9=[]->Q .normal a w)/\
  ∀i∈Region.ready .any ops a9,wpOp P ops Q i (fun a' w'=>(iX i=false->Ext bT w w')/\vB P ops Q iX fuel (a9.setIfInBounds i true) a' w') a w
theorem Hd(iX:Nat->Bool):∀(fuel:Nat)(a9:Array Bool)(a:Act)(w:World),vB P ops Q iX fuel a9 a w->wpAny P .any ops Q fuel a9 a w
 |0,_,_,_,h=>h
 |fuel+1,_,_,_,h=>⟨h.1,fun i hi=>wpOp_mono (fun a' w' h'=>Hd iX fuel _ a' w' h'.2) (h.2 i hi)⟩
def YF(P:Program)(ops:Array Oper)(all:Bool)(o:Oper)(v:Value)(a:Act)(w:World):Prop:=
 (Region.wanted o (yielded ops a.tmps)=true/\∀w',(all=true∨Ext bT w w')->(execOp a.eval o).run P w'= .ok (.value v) w')∨
 (Region.wanted o (yielded ops a.tmps)=false/\v=undef)
theorem YF.step{all:Bool}{o:Oper}{v:Value}{a a':Act}{w w':World}(hy:YF P ops all o v a w)(he:execOp a'.eval o=execOp a.eval o)
  (hw:Region.wanted o (yielded ops a'.tmps)=Region.wanted o (yielded ops a.tmps)) (hx:all=true∨Ext bT w w'):YF P ops all o v a' w':=by
 unfold YF at *
 rw[he,hw];rcases hy with⟨h1,h2⟩|h
 ·refine .inl ⟨h1,fun w2 h3=>h2 w2 ?_⟩;rcases hx with hx|hx
  ·exact .inl hx
  ·rcases h3 with h3|h3
   ·exact .inl h3
   ·exact .inr (hx.trans h3)
 ·exact .inr h
theorem YF.wpOp{all:Bool}{i:Nat}{o:Oper}{v:Value}{a:Act}{w:World}(hi:ops[i]? =some o)(hy:YF P ops all o v a w)
  {K:Act->World->Prop} (h:K (a.put o.dst v) w):Go.wpOp P ops Q i K a w:=by
 unfold Go.wpOp;simp only[hi];rcases hy with⟨hw,hv⟩|⟨hw,rfl⟩
 ·simp only[hw,if_true,Oper.wp,hv w (.inr (Ext.refl _ _)),Oper.upon];exact .inl h
 ·simp only[hw,KaJ,if_false];exact h
theorem abL{j:Nat}{oi oj:Oper}{v:Value}(hj:ops[j]? =some oj)(hap:oi.apart ops oj=true)
  (Xc:∀cs b,oi.op≠ .select cs b) (Xd:∀cs b,oj.op≠ .select cs b)
  (hQ:∀c a w,Q (.panic c) (a.put oi.dst v) w->Q (.panic c) a w) {K:Act->World->Prop} {a:Act} {w:World}
  (h:Go.wpOp P ops Q j K (a.put oi.dst v) w):
  Go.wpOp P ops Q j (fun a' w'=>(execOp a'.eval oi=execOp a.eval oi/\Region.wanted oi (yielded ops a'.tmps)=Region.wanted oi (yielded ops a.tmps))/\K (a'.put oi.dst v) w') a w:=by
 obtain⟨h1,h2,h3⟩:=Oper.apart_spec hap;have ij:∀u,execOp (a.put oj.dst u).eval oi=execOp a.eval oi/\Region.wanted oi (yielded ops (a.put oj.dst u).tmps)=Region.wanted oi (yielded ops a.tmps):=fun u=>
  ⟨execOp_put oi Xc a oj.dst u h3,wanted_put oi a oj.dst u h3⟩
 have ap4:∀d u,execOp (({ a with defers:=d::a.defers }:Act).put oj.dst u).eval oi=execOp a.eval oi/\Region.wanted oi (yielded ops (({ a with defers:=d::a.defers }:Act).put oj.dst u).tmps)=Region.wanted oi (yielded ops a.tmps):=fun d u=>
  ⟨(execOp_put oi Xc ({ a with defers:=d::a.defers }:Act) oj.dst u h3).trans rfl,(wanted_put oi ({ a with defers:=d::a.defers }:Act) oj.dst u h3).trans rfl⟩
 unfold Go.wpOp at *
 simp only[hj]at *
 rw[wanted_put oj a oi.dst v h1]at h;split
 ·rename_i hw;simp only[hw,if_true]at h;rcases h with h|⟨Wb,aoW⟩
  case inr=>exact .inr ⟨by unfold Oper.asks at *;rw[execOp_put oj Xd a oi.dst v h1]at Wb;exact Wb,aoW⟩
  refine .inl ?_;unfold Oper.wp at *
  rw[execOp_put oj Xd a oi.dst v h1]at h;generalize(execOp a.eval oj).run P w=r at *
  cases r with
  | ok n w'=>
   cases n<;>simp only[Oper.upon]at h⊢
   case value u=>exact⟨ij u,by rw[<-Act.put_comm a v u h2];exact h⟩
   case skip=>exact⟨ij _,by rw[<-Act.put_comm a v undef h2];exact h⟩
   case defer d=>
    refine⟨ap4 d _,?_⟩;rw[<-Act.put_comm _ v undef h2,<-Act.put_defers];exact h
   case enter f args=>
    refine Calls.mono h fun e w'' he=>?_;cases e with
    |returned u=>exact⟨ij u,by rw[<-Act.put_comm a v u h2];exact he⟩
    |panicked c=>exact hQ _ _ _ he
    |outgrown=>exact he
   case row row args=>exact Rows.mono h fun u w'' he=>⟨ij u,by rw[<-Act.put_comm a v u h2];exact he⟩
  |halt x w'=>
   cases x<;>simp only[Oper.upon]at h⊢
   case panic u=>exact hQ _ _ _ h
 ·rename_i hw;simp only[hw]at h;exact⟨ij _,by rw[<-Act.put_comm a v undef h2];exact h⟩
def pR(ops:Array Oper)(a9:Array Bool):Prop:=∀(j:Nat)(o:Oper),ops[j]? =some o->a9.getD j false=true->∀e∈o.after,Region.binds .any e=true->a9.getD e.on false=true
theorem pR.step{a9:Array Bool}{i:Nat}(h:pR ops a9)(hi:i∈Region.ready .any ops a9):pR ops (a9.setIfInBounds i true):=by
 intro j o hj hl e he hb;obtain⟨h0,oi,sO,bz⟩:=mem_ready.1 hi;by_cases M1:i=j
 ·subst M1;rw[hj]at sO;cases sO;exact getD_set_true (bz e he hb)
 ·rw[getD_set_ne false M1]at hl;exact getD_set_true (h j o hj hl e he hb)
theorem Sp{a9:Array Bool}{i:Nat}(hd:pR ops a9):∀(n k:Nat),a9.getD k false=true->qF ops n i k=true->a9.getD i false=true
 |0,_,_,h=>by simp[qF]at h
 | n+1,k,hk,h=>by
  unfold qF at h;cases ho:ops[k]? with
  |none=>simp[ho]at h
  |some o=>
   simp only[ho,Ka2,Kat,KbS,beq_iff_eq]at h;obtain⟨e,he,hb,h⟩:=h;have hl:=hd k o ho hk e (by simpa using he) hb;rcases h with h|h
   ·rw[<-h];exact hl
   ·exact Sp hd n e.on hl h
theorem Qx7{a9:Array Bool}{i j n:Nat}(hd:pR ops a9)(hj:j∈Region.ready .any ops a9)(h:qF ops n i j=true):a9.getD i false=true:=by
 obtain⟨_,o,ho,bz⟩:=mem_ready.1 hj;cases n with
 |zero=>simp[qF]at h
 |succ n=>
  unfold qF at h;simp only[ho,Ka2,Kat,KbS,beq_iff_eq]at h;obtain⟨e,he,hb,h⟩:=h;have hl:=bz e (by simpa using he) hb;rcases h with h|h
  ·rw[<-h];exact hl
  ·exact Sp hd n e.on hl h
theorem abM{a9:Array Bool}{i:Nat}(h0:a9.getD i true=false):¬a9.getD i false=true:=by
 intro h1;rcases Kc9 i a9.size with h'|h'
 ·simp[h']at h0 h1;rw[h0]at h1;cases h1
 ·simp[KcE h']at h1
theorem YI{iX:Nat->Bool}{all:Bool}{i:Nat}{oi:Oper}{v:Value}(hi:ops[i]? =some oi)(Xa:∀(j:Nat)(o:Oper) cs b,ops[j]? =some o->o.op≠ .select cs b)
  (hQ:∀c a w,Q (.panic c) (a.put oi.dst v) w->Q (.panic c) a w)
  (yU:all=true∨∀j,iX j=true->j<ops.size->qF ops ops.size i j=true∨j=i):
  ∀(fuel:Nat)(a9:Array Bool)(a:Act)(w:World),pR ops a9->
   (∀j oj,ops[j]? =some oj->j≠i->a9.getD j true=false->(∀e∈oj.after,Region.binds .any e=true->e.on≠i)->oi.apart ops oj=true)->
   i∈Region.ready .any ops a9->YF P ops all oi v a w->
   vB P ops Q iX fuel (a9.setIfInBounds i true) (a.put oi.dst v) w->vB P ops Q iX (fuel+1) a9 a w:=by
 intro fuel;induction fuel with
 | zero=>
  intro a9 a w _ _ hr hy H;refine⟨fun h=>(by rw[h]at hr;cases hr),fun j hj=>?_⟩;by_cases dW:j=i
  ·subst dW;exact hy.wpOp hi ⟨fun _=>Ext.refl _ _,H⟩
  ·have:=ready_mono hj dW;rw[H.1]at this;cases this
 | succ fuel ih=>
  intro a9 a w Wj Bu hr hy H;refine⟨fun h=>(by rw[h]at hr;cases hr),fun j hj=>?_⟩;by_cases dW:j=i
  ·subst dW;exact hy.wpOp hi ⟨fun _=>Ext.refl _ _,H⟩
  ·have h1:=H.2 j (ready_mono hj dW);obtain⟨Wz,oj,nC,bz⟩:=mem_ready.1 hj;have Wu:¬a9.getD i false=true:=abM (mem_ready.1 hr).1;have ao6:∀e∈oj.after,Region.binds .any e=true->e.on≠i:=fun e he hb heq=>Wu (heq▸bz e he hb);have h2:=abL nC (Bu j oj nC dW Wz ao6) (fun cs b=>Xa i oi cs b hi) (fun cs b=>Xa j oj cs b nC) hQ h1;have anZ:all=true∨iX j=false:=by
    rcases yU with h|h
    ·exact .inl h
    ·cases hb:iX j with
     |false=>exact .inr rfl
     |true=>
      have aoL:j<ops.size:=(KaI.1 nC).1;rcases h j hb aoL with h|h
      ·exact absurd (Qx7 Wj hj h) Wu
      ·exact absurd h dW
   have aot:∀k ok,ops[k]? =some ok->k≠i->(a9.setIfInBounds j true).getD k true=false->
     (∀e∈ok.after,Region.binds .any e=true->e.on≠i)->oi.apart ops ok=true:=fun k ok hk wm oB rk=>by
    refine Bu k ok hk wm ?_ rk;by_cases Ww:j=k
    ·subst Ww;exact Wz
    ·rw[getD_set_ne true Ww]at oB;exact oB
   refine wpOp_mono (fun a' w' h3=>?_) h2;obtain⟨⟨he,hw⟩,hx,wF⟩:=h3;refine⟨hx,ih (a9.setIfInBounds j true) a' w' (Wj.step hj) aot (ready_mono hr (Ne.symm dW)) (hy.step he hw ?_) ?_⟩
   ·rcases anZ with h|h
    ·exact .inl h
    ·exact .inr (hx h)
   ·rw[Array.setIfInBounds_comm _ _ dW];exact wF
end
section
variable {C : Ctx} {ρ : Nat -> Option Nat} {fr : Fr} {hp : HP} {w : World} {a : Act} {K : Qh}
theorem Sv{dr:Bool}{o:Oper}(ar:∀d,o.dst=some d->d<C.N)(h:aI C ρ fr hp a.tmps w)(hv:jF (fZ C.P dr o) fr hp K):∃ay an,aI C ρ ay an (a.put o.dst undef).tmps w/\K ay an:=by
 unfold jF at hv;rw[Rs]at hv;cases hd:o.dst with
 |some d=>rw[hd]at hv;exact⟨_,hp,h.af Qt.XZ (ar d hd),hv⟩
 |none=>rw[hd]at hv;exact⟨fr,hp,h,hv⟩
theorem ait{P:Program}{dr:Bool}{o:Oper}:(fZ P dr o).cls=(fZ P true o).cls:=by
 cases dr with
 |true=>rfl
 | false=>
  have h0:(mF P false o).map cB.cls=(mF P true o).map cB.cls:=by
   unfold mF;split<;>first|rfl|skip
   split<;>first|rfl|skip
   rename_i f _;cases h1:b7 f with
   |none=>simp
   |some pf=>simp only[Kdc,Option.map_map];congr 1
  unfold fZ;cases h1:mF P false o<;>cases h2:mF P true o<;>simp_all[cB.cls]
theorem Sw {dr:Bool} {R:Qh} {sk:List It} {ops:Array Oper} {Q:Exit->Act->World->Prop} (rm:Region.noSelect ops=true) (hQ:Cw C (vc C R sk) Q):∀(n:Nat) (a9:Array Bool) (r:RT) (fr:Fr) (hp:HP) (a:Act) (w:World),
  pL C.P C.N dr ops n a9=some r.strip->pR ops a9->a.defers=[]->fl C fr hp a.tmps w->vc C R (.o r::sk) fr hp->
  vB C.P ops (NoPanic Q) (xY C.P dr ops) n a9 a w:=by
 intro n;have done:∀(n:Nat)(a9:Array Bool)(r:RT)(fr:Fr)(hp:HP)(a:Act)(w:World),Region.ready .any ops a9=[]->a.defers=[]->fl C fr hp a.tmps w->r.strip= .nil->vc C R (.o r::sk) fr hp->vB C.P ops (NoPanic Q) (xY C.P dr ops) n a9 a w:=by
  intro n a9 r fr hp a w hr aY hs jg hv;obtain⟨r',fr,hp,h1,h2,hs,hv⟩:=xO r fr hp hs hv;obtain rfl:=Va (h1.trans jg) h2;rw[AE]at hv;have hq:NoPanic Q .normal a w:=hQ fr hp a w aY hs hv;cases n with
  |zero=>exact⟨hr,hq⟩
  |succ n=>exact⟨fun _=>hq,by rw[hr];simp⟩
 induction n with
 | zero=>
  intro a9 r fr hp a w ho hd aY hs hv;unfold pL at ho;split at ho
  ·rename_i hr;exact done 0 a9 r fr hp a w (by simpa using hr) aY hs (Kc1 ho).symm hv
  ·cases ho
 | succ n ih=>
  intro a9 r fr hp a w ho hd aY hs hv;unfold pL at ho;split at ho
  ·rename_i hr;exact done (n+1) a9 r fr hp a w (by simpa using hr) aY hs (Kc1 ho).symm hv
  ·rename_i hr;obtain⟨r',fr,hp,e1,e2,hs,hv⟩:=xO r fr hp hs hv;rw[<-e1]at ho;split at ho
   ·rename_i i aop;have kO:=List.find?_some aop;simp only[Kab,Kaa]at ho;obtain⟨g,⟨o,sO,MN⟩,r0,fW,we⟩:=ho;obtain⟨r',rfl,rfl⟩:=Ix we.symm e2;unfold Gh at kO;simp only[Kat,List.contains_iff_mem]at kO;obtain⟨⟨FI,Bu⟩,cz⟩:=kO;have Fk:tN C.P ops i=(fZ C.P dr o).cls:=by rw[ait];simp[tN,sO]
    rw[AI]at hv;obtain⟨ρ,qk⟩:=hs;obtain⟨ar,mb,Bo⟩:=Te qk MN hv;rw[mb]at Bo;have yU:∀all:Bool,(all=false->tN C.P ops i=1)->all=true∨∀j,xY C.P dr ops j=true->j<ops.size->qF ops ops.size i j=true∨j=i:=by
     intro all bz;cases all with
     |true=>exact .inl rfl
     |false=>
      refine .inr fun j hj qc=>?_;rw[bz rfl]at cz;have:=Kav.1 cz j (by simpa using qc);simp only[KbS,Bool.not_eq_true']at this;rcases this with h|h
      ·rw[hj]at h;cases h
      ·exact .inl h
    have fin:∀(all:Bool)(v:Value),(all=false->tN C.P ops i=1)->YF C.P ops all o v a w->(∃ay an,aI C ρ ay an (a.put o.dst v).tmps w/\vc C R (.o r'::sk) ay an)->vB C.P ops (NoPanic Q) (xY C.P dr ops) (n+1) a9 a w:=by
     intro all v bz hy ⟨ay,an,ew,oC⟩;exact YI sO (Region.noSelect_spec rm) (fun _ _ _ h=>h) (yU all bz) n a9 a w hd (Region.free_spec sO Bu) FI hy
      (ih _ r' ay an _ w fW (hd.step FI) (by rw[vf];exact aY) ⟨ρ,ew⟩ oC)
    rcases Bo with⟨hw,hv⟩|⟨hw,hv⟩
    ·by_cases h0:tN C.P ops i=0
     ·obtain⟨v,bp,wF⟩:=TJ (by rw[<-Fk];exact h0) ar qk hv;exact fin true v (by simp) (.inl ⟨hw,fun w' _=>bp w'⟩) wF
     ·by_cases h1:tN C.P ops i=1
      ·obtain⟨v,b,hb,bp,wF⟩:=TK (by rw[<-Fk];exact h1) ar qk hv;exact fin false v (fun _=>h1) (.inl ⟨hw,fun w' rz=>bp w' (rz.elim (fun h=>by cases h) (fun h=>h.block b hb (fun h=>h)))⟩) wF
      ·split at cz
       ·rename_i h;exact absurd h h0
       ·rename_i h;exact absurd h h1
       ·cases cz
    ·by_cases h1:tN C.P ops i=1
     ·exact fin false undef (fun _=>h1) (.inr ⟨hw,rfl⟩) (Sv ar qk hv)
     ·exact fin true undef (by simp) (.inr ⟨hw,rfl⟩) (Sv ar qk hv)
   ·
    simp only[Kaa]at ho;obtain⟨rs,fu,we⟩:=ho;obtain⟨m1,m2⟩:=oG fu;have Bn:∀(rs:List RT) (r':RT) (fr:Fr) (hp:HP),r'.strip=ub rs->fl C fr hp a.tmps w->vc C R (.o r'::sk) fr hp->∀r∈rs,∃r2 nd ft,r2.strip=r/\(∀x,r2≠ .wk x)/\fl C nd ft a.tmps w/\vc C R (.o r2::sk) nd ft:=by
     intro rs;induction rs with
     |nil=>intro _ _ _ _ _ _ r hr;cases hr
     | cons x xs kP=>
      intro r' fr hp fW hs hv r hr;obtain⟨r2,nd,ft,f1,f2,hs,hv⟩:=xO r' fr hp hs hv;cases xs with
      |nil=>simp at hr;subst hr;exact⟨r2,nd,ft,f1.trans fW,f2,hs,hv⟩
      | cons y ys=>
       rw[ub]at fW
       ·obtain⟨a',b',rfl,g1,g2⟩:=adz (f1.trans fW) f2;rw[Sb]at hv;rcases KaP.1 hr with rfl|hr
        ·obtain⟨r3,EL,sP,k1,k2,k3,k4⟩:=xO a' nd ft hs hv.1;exact⟨r3,EL,sP,k1.trans g1,k2,k3,k4⟩
        ·exact kP b' nd ft g2 hs hv.2 r hr
       ·simp
    refine⟨fun h0=>absurd (by rw[h0];rfl) hr,fun i hi=>?_⟩;obtain⟨k,hk⟩:=KaG hi;have wq:k<rs.length:=by rw[m1];exact(Kad.1 hk).1
    obtain⟨i',aB,hf⟩:=m2 k _ (Kam wq);rw[hk]at aB;cases aB;simp only[Kab,Kaa]at hf;obtain⟨g,⟨o,sO,MN⟩,r0,fW,he⟩:=hf;obtain⟨r2,nd,ft,f1,f2,hs,oC⟩:=Bn rs r' fr hp we.symm hs hv _ (Kag wq);obtain⟨r',rfl,rfl⟩:=Ix (f1.trans he.symm) f2;rw[AI]at oC;obtain⟨ρ,qk⟩:=hs;refine wpOp_mono (fun a' w' hA=>?_) (TL sO aY qk MN oC);obtain⟨wa,⟨ay,an,ew,sU⟩,hx⟩:=hA;refine⟨fun hb=>hx ?_,ih _ r' ay an a' w' fW (hd.step hi) wa ew sU⟩;simpa[xY,sO]using hb
theorem fl.drew{tmps:Array Value}(h:fl C fr hp tmps w):fl C fr hp tmps { w with drawn:=w.drawn+1 }:=by obtain⟨ρ,hs⟩:=h;exact⟨ρ,hs.grow (Ext.drew w _)⟩
theorem pR.start(ops:Array Oper):pR ops (Array.replicate ops.size false):=by intro j o _ hl;exfalso;simp[Array.getD]at hl
theorem Ia{s:SC}{r:RT}(h:s.strip= .rg r):∃r',s= .rg r'/\r'.strip=r:=by
 cases s with
 |rg r'=>simp only[SC.strip,SC.rg.injEq]at h;exact⟨r',rfl,h⟩
 |_=>simp[SC.strip]at h
theorem YJ{R:Qh}{sk:List It}{ops:Array Oper}{draw:Bool}{id:Nat}{s:SC}{Q:Exit->Act->World->Prop}(hm:C.P.follows .mixedOrders=true)(hQ:Cw C (vc C R sk) Q)
  (hc:Ac C.P C.N ops draw=some s.strip) (aY:a.defers=[]) (hs:fl C fr hp a.tmps w) (hv:vc C R (.c s::sk) fr hp):(Code.region id ops draw).wp C.P Q a w:=by
 unfold Ac at hc;split at hc
 ·rename_i hd;subst hd;split at hc
  ·rename_i rm;have key:∀(dr:Bool)(most:Nat)(s:SC),Aa C.P C.N ops dr most=some s.strip->vc C R (.c s::sk) fr hp->(Code.region id ops true).wp C.P Q a w:=by
    intro dr most s hc hv;unfold Aa at hc;split at hc
    ·cases hc
    split at hc
    ·rename_i r0 hr;split at hc
     ·obtain⟨r,rfl,rfl⟩:=Ia (Kc1 hc).symm;rw[vc]at hv;exact wp_region_noPanic (wp_region_any hm (Hd _ _ _ _ _ (Sw rm hQ _ _ r fr hp a _ hr (pR.start ops) aY hs.drew hv)))
     ·cases hc
    ·cases hc
   split at hc
   ·rename_i s' ew;cases hc;split at ew
    ·simp only[Kaa]at ew;obtain⟨r0,hr,he⟩:=ew;obtain⟨r,rfl,rfl⟩:=Ia he.symm;rw[vc]at hv;exact wp_region_noPanic (wp_region_any hm (Hd _ _ _ _ _ (Sw rm hQ _ _ r fr hp a _ (CE _ _ _ hr) (pR.start ops) aY hs.drew hv)))
    ·cases ew
   ·exact key _ _ _ hc hv
  ·cases hc
 ·rename_i hd;have Wi:draw=false:=by simpa using hd
  subst Wi;simp only[Kaa]at hc;obtain⟨gs,hgs,he⟩:=hc;obtain⟨r,rfl,hr⟩:=Ia he.symm;rw[vc]at hv;obtain⟨m1,m2⟩:=oG hgs;refine wp_region (TM hQ gs (List.range ops.size) r fr hp a w (by simp[m1]) (fun k i g hk hg=>?_) aY hs hr hv);obtain⟨o,ho,ae⟩:=m2 k g hg;have wq:k<ops.size:=by have:=(Kad.1 hk).1;simpa using this
  rw[KcX wq]at hk;cases hk;exact⟨o,by simpa using ho,ae⟩
end
end Go.FW
namespace Go.FW
open Go
variable {C : Ctx} {ρ : Nat -> Option Nat} {fr : Fr} {hp : HP} {w : World} {a : Act} {K R : Qh}
structure Oa(C:Ctx)(R:Qh)(sk:List It)(Q:Exit->Act->World->Prop):Prop where
 nF:Cw C (vc C R sk) Q
 ext:∀id eS,FW.cw id sk=some eS->∀fr hp (a:Act) w,a.defers=[]->fl C fr hp a.tmps w->vc C R eS fr hp->Q (.exit id) a w
 ret:∀fr hp (a:Act) w,a.defers=[]->fl C fr hp a.tmps w->R fr hp->Q .ret a w
theorem Ev{sk:List It}{x y:SC}:vc C R (.c (.seq x y)::sk) fr hp=vc C R (.c x:: .c y::sk) fr hp:=by rw[vc]
theorem DG{sk:List It}{id:Nat}{x:SC}:vc C R (.c (.block id x)::sk) fr hp=vc C R (.c x:: .eb id::sk) fr hp:=by rw[vc]
theorem Ef{sk:List It}:vc C R (.c .skip::sk) fr hp=vc C R sk fr hp:=by rw[vc]
theorem Gv{sk:List It}{r:RT}:vc C R (.c (.rg r)::sk) fr hp=vc C R (.o r::sk) fr hp:=by rw[vc]
theorem Cq{sk:List It}{id:Nat}:vc C R (.eb id::sk) fr hp=vc C R sk fr hp:=by rw[vc]
theorem vG{sk:List It}{J:Qh}:vc C R (.el J::sk) fr hp=J fr hp:=by rw[vc]
theorem Ew{sk:List It}:vc C R (.c .ret::sk) fr hp=R fr hp:=by rw[vc]
theorem vC:vc C R [] fr hp=R fr hp:=by rw[vc]
def tM(c:PV)(A B:Prop):Prop:=match c with
 |.bool t=>(t=true->A)/\(t=false->B)
 |_=>False
theorem Eg{sk:List It}{c:aP}{x y:SC}:vc C R (.c (.cond c x y)::sk) fr hp=tM (ev fr c) (vc C R (.c x::sk) fr hp) (vc C R (.c y::sk) fr hp):=by rw[vc];rfl
def vH(C:Ctx)(R:Qh)(sk:Option (List It))(fr:Fr)(hp:HP):Prop:=match sk with
 |some sk=>vc C R sk fr hp
 |none=>False
theorem Eh{sk:List It}{id:Nat}:vc C R (.c (.exit id)::sk) fr hp=vH C R (FW.cw id sk) fr hp:=by
 rw[vc];unfold vH;split
 ·rename_i h;rw[h]
 ·rename_i h;rw[h]
theorem u6{sk:List It}{x:SC}:vc C R (.c (.loop x)::sk) fr hp=∃(I:Qh)(μ:Fr->HP->Nat),(∃bI aF,Wk fr hp bI aF/\I bI aF)/\∀fr hp,I fr hp->vc C R (.c x:: .el (fun ay an=>∃bI aF,Wk ay an bI aF/\I bI aF/\μ bI aF<μ fr hp)::sk) fr hp:=by rw[vc]
theorem Wk.refl(fr:Fr)(hp:HP):Wk fr hp fr hp:=fun _ _ _ h=>h
theorem Wk.trans{Mg nd EL:Fr}{jf ft sP:HP}(h:Wk Mg jf nd ft)(k:Wk nd ft EL sP):Wk Mg jf EL sP:=fun C t w hs=>k C t w (h C t w hs)
def xZ(I:Qh)(μ:Fr->HP->Nat)(n:Nat):Qh:=fun ay an=>∃bI aF,Wk ay an bI aF/\I bI aF/\μ bI aF<n
theorem adA{sk:List It}{x:SC}(I:Qh)(μ:Fr->HP->Nat){bI:Fr}{aF:HP}(hw:Wk fr hp bI aF)(h0:I bI aF)(h:∀fr hp,I fr hp->vc C R (.c x:: .el (xZ I μ (μ fr hp))::sk) fr hp):vc C R (.c (.loop x)::sk) fr hp:=by rw[u6];exact⟨I,μ,⟨bI,aF,hw,h0⟩,h⟩
theorem Q7s{s:SC}(h:s.strip= .skip):s= .skip:=by cases s<;>simp[SC.strip]at h⊢
theorem abN{s:SC}(h:s.strip= .ret):s= .ret:=by cases s<;>simp[SC.strip]at h⊢
theorem Q7t{s:SC}{id:Nat}(h:s.strip= .exit id):s= .exit id:=by cases s<;>simp[SC.strip]at h ⊢;exact h
theorem abO{s:SC}{id:Nat}{ops:Array Oper}(h:s.strip= .raw id ops):s= .raw id ops:=by cases s<;>simp[SC.strip]at h ⊢;exact h
theorem abP{s a b:SC}(h:s.strip= .seq a b):∃a' b',s= .seq a' b'/\a'.strip=a/\b'.strip=b:=by cases s<;>simp[SC.strip]at h;exact⟨_,_,rfl,h.1,h.2⟩
theorem Q7u{s a b:SC}{c:aP}(h:s.strip= .cond c a b):∃a' b',s= .cond c a' b'/\a'.strip=a/\b'.strip=b:=by
 cases s with
 |cond c' a' b'=>simp only[SC.strip,SC.cond.injEq]at h;obtain⟨rfl,h1,h2⟩:=h;exact⟨a',b',rfl,h1,h2⟩
 |_=>simp[SC.strip]at h
theorem ZE{s a:SC}{id:Nat}(h:s.strip= .block id a):∃a',s= .block id a'/\a'.strip=a:=by
 cases s with
 |block c' a'=>simp only[SC.strip,SC.block.injEq]at h;obtain⟨rfl,h1⟩:=h;exact⟨a',rfl,h1⟩
 |_=>simp[SC.strip]at h
theorem Q7v{s a:SC}(h:s.strip= .loop a):∃a',s= .loop a'/\a'.strip=a:=by
 cases s with
 |loop a'=>simp only[SC.strip,SC.loop.injEq]at h;exact⟨a',rfl,h⟩
 |_=>simp[SC.strip]at h
theorem Th(hm:C.P.follows .mixedOrders=true):∀(c:Code)(s:SC)(sk:List It)(Q:Exit->Act->World->Prop)(fr:Fr)(hp:HP)(a:Act)(w:World),
  fR C.P C.N c=some s.strip->Oa C R sk Q->a.defers=[]->fl C fr hp a.tmps w->vc C R (.c s::sk) fr hp->c.wp C.P Q a w:=by
 intro c;induction c with
 |skip=>intro s sk Q fr hp a w hc hL hd hs hv;simp only[fR,KaB]at hc;obtain rfl:=Q7s hc.symm;rw[Ef]at hv;exact wp_skip (hL.nF fr hp a w hd hs hv)
 | region id ops draw=>
  intro s sk Q fr hp a w hc hL hd hs hv;simp only[fR]at hc;split at hc
  ·rename_i s' ew;rw[hc]at ew;exact YJ hm hL.nF ew hd hs hv
  ·split at hc
   ·rename_i uu;obtain rfl:=abO (Kc1 hc).symm;have aoe:draw=true:=uu;subst aoe;rw[vc]at hv;obtain⟨tmps,defers⟩:=a;simp only at hd hs;subst hd;exact hv tmps w Q hs (fun ay an Cl w' ew oC=>hL.nF ay an _ w' rfl ew oC)
   ·cases hc
 |seq x y kP wM=>
  intro s sk Q fr hp a w hc hL hd hs hv;simp only[fR,Kab,Kaa]at hc;obtain⟨sx,hx,sy,hy,he⟩:=hc;obtain⟨sx,sy,rfl,rfl,rfl⟩:=abP he.symm;rw[Ev]at hv;refine wp_seq (kP sx (.c sy::sk) _ fr hp a w hx ⟨fun fr hp a w hd hs hv=>?_,fun id eS he fr hp a w hd hs hv=>?_,fun fr hp a w hd hs hv=>?_⟩ hd hs hv)
  ·exact wM sy sk Q fr hp a w hy hL hd hs hv
  ·exact hL.ext id eS (by simpa[FW.cw]using he) fr hp a w hd hs hv
  ·exact hL.ret fr hp a w hd hs hv
 | cond c x y kP wM=>
  intro s sk Q fr hp a w hc hL hd hs hv;simp only[fR,Kab,Kaa]at hc;obtain⟨pc,gq,sx,hx,sy,hy,he⟩:=hc;obtain⟨sx,sy,rfl,rfl,rfl⟩:=Q7u he.symm;rw[Eg]at hv;obtain⟨ρ,qk⟩:=hs;have hr:=cF qk gq;unfold tM at hv;split at hv
  ·rename_i t ht;rw[ht]at hr;exact wp_cond_split hr.yv (fun h=>kP sx sk Q fr hp a w hx hL hd ⟨ρ,qk⟩ (hv.1 h)) (fun h=>wM sy sk Q fr hp a w hy hL hd ⟨ρ,qk⟩ (hv.2 h))
  ·exact hv.elim
 | block id x kP=>
  intro s sk Q fr hp a w hc hL hd hs hv;simp only[fR,Kaa]at hc;obtain⟨sx,hx,he⟩:=hc;obtain⟨sx,rfl,rfl⟩:=ZE he.symm;rw[DG]at hv;refine wp_block (kP sx (.eb id::sk) _ fr hp a w hx ⟨fun fr hp a w hd hs hv=>?_,fun XA eS he fr hp a w hd hs hv=>?_,fun fr hp a w hd hs hv=>?_⟩ hd hs hv)
  ·rw[Cq]at hv;exact hL.nF fr hp a w hd hs hv
  ·simp only[FW.cw]at he;simp only[Exit.inBlock];by_cases hi:id=XA
   ·subst hi;simp only[if_true]at he ⊢;cases he;exact hL.nF fr hp a w hd hs hv
   ·rw[if_neg hi]at he;rw[if_neg (fun e=>hi e.symm)];exact hL.ext XA eS he fr hp a w hd hs hv
  ·exact hL.ret fr hp a w hd hs hv
 | loop x kP=>
  intro s sk Q fr hp a w hc hL hd hs hv;simp only[fR,Kaa]at hc;obtain⟨sx,hx,he⟩:=hc;obtain⟨sx,rfl,rfl⟩:=Q7v he.symm;rw[u6]at hv;obtain⟨I,μ,⟨bI,aF,hwk,h0⟩,apo⟩:=hv;have key:∀(n:Nat)(fr:Fr)(hp:HP)(a:Act)(w:World),μ fr hp<n->I fr hp->a.defers=[]->fl C fr hp a.tmps w->Code.rounds C.P x Q n a w:=by
   intro n;induction n with
   |zero=>intro _ _ _ _ h;omega
   | succ n ih=>
    intro fr hp a w ar hI hd hs;rw[rounds_succ];refine kP sx _ _ fr hp a w hx ⟨fun ay an a' w' wa ew oC=>?_,fun id eS he fr hp a w hd hs hv=>?_,fun fr hp a w hd hs hv=>?_⟩ hd hs (apo fr hp hI)
    ·rw[vG]at oC;obtain⟨nd,ft,hw2,Mn,wz⟩:=oC;exact ih nd ft a' w' (by omega) Mn wa (hw2 _ _ _ ew)
    ·exact hL.ext id eS (by simpa[FW.cw]using he) fr hp a w hd hs hv
    ·exact hL.ret fr hp a w hd hs hv
  exact wp_loop_rounds (μ bI aF+1) (key _ bI aF a w (Kdd _) h0 hd (hwk _ _ _ hs))
 | exit id=>
  intro s sk Q fr hp a w hc hL hd hs hv;simp only[fR,KaB]at hc;obtain rfl:=Q7t hc.symm;rw[Eh]at hv;unfold vH at hv;split at hv
  ·rename_i eS he;exact wp_exit (hL.ext id eS he fr hp a w hd hs hv)
  ·exact hv.elim
 |ret=>intro s sk Q fr hp a w hc hL hd hs hv;simp only[fR,KaB]at hc;obtain rfl:=abN hc.symm;rw[Ew]at hv;exact wp_ret (hL.ret fr hp a w hd hs hv)
 |_=>intro s sk Q fr hp a w hc;simp[fR]at hc
theorem G9(hm:C.P.follows .mixedOrders=true)(c:Code)(s:SC)(sk:List It)(Q:Exit->Act->World->Prop)(fr:Fr)(hp:HP)(a:Act)(w:World)
  (hc:fR C.P C.N c=some s) (hL:Oa C R sk Q) (hd:a.defers=[]) (hs:fl C fr hp a.tmps w) (hv:vc C R (.c s::sk) fr hp):c.wp C.P Q a w:=
 Th hm c s sk Q fr hp a w (by rw[Yd _ _ hc];exact hc) hL hd hs hv
def PV.mw:PV->PV->Prop
 |.aa,.sl _ []=>True
 |p,q=>p=q
def PV.B3:List PV->List PV->Prop
 | [],[]=>True
 |p::ps,q::qs=>PV.mw p q/\PV.B3 ps qs
 |_,_=>False
def PV.le:PV->PV->Prop
 |.agg ps,.agg qs=>PV.B3 ps qs
 |p,q=>PV.mw p q
def PV.FY:List PV->List PV->Prop
 | [],[]=>True
 |p::ps,q::qs=>PV.le p q/\PV.FY ps qs
 |_,_=>False
def PV.y5:PV->PV->Prop
 |.au ps,.au qs=>PV.FY ps qs
 |p,q=>PV.le p q
theorem Ae(p:PV):PV.mw p p:=by cases p<;>first|rfl|(unfold PV.mw;split<;>trivial)
theorem OU:∀(l:List PV),PV.B3 l l
 | []=>trivial
 |p::ps=>⟨Ae p,OU ps⟩
theorem Qy(p:PV):PV.le p p:=by cases p<;>first|exact OU _|(simp only[PV.le];exact Ae _)
theorem Qu.le{X:Nat->Prop}{p q:PV}{v:Value}(h:Qu w X p v)(hl:PV.mw p q):Qu w X q v:=by
 unfold PV.mw at hl;split at hl
 ·cases h;exact .gT _ _ _ (Kby _)
 ·subst hl;exact h
theorem P6:∀(ps qs:List PV),PV.B3 ps qs->qs.length=ps.length/\∀(i:Nat)(q:PV),qs[i]? =some q->∃p,ps[i]? =some p/\PV.mw p q
 | [],[],_=>⟨rfl,by simp⟩
 | [],_::_,h=>h.elim
 |_::_,[],h=>h.elim
 |p::ps,q::qs,h=>by
  obtain⟨h1,h2⟩:=P6 ps qs h.2;refine⟨by simp[h1],fun i x hx=>?_⟩;cases i with
  |zero=>simp at hx;subst hx;exact⟨p,rfl,h.1⟩
  |succ i=>simp at hx;simpa using h2 i x hx
theorem Iy:∀(ps qs:List PV),PV.FY ps qs->qs.length=ps.length/\∀(i:Nat)(q:PV),qs[i]? =some q->∃p,ps[i]? =some p/\PV.le p q
 | [],[],_=>⟨rfl,by simp⟩
 | [],_::_,h=>h.elim
 |_::_,[],h=>h.elim
 |p::ps,q::qs,h=>by
  obtain⟨h1,h2⟩:=Iy ps qs h.2;refine⟨by simp[h1],fun i x hx=>?_⟩;cases i with
  |zero=>simp at hx;subst hx;exact⟨p,rfl,h.1⟩
  |succ i=>simp at hx;simpa using h2 i x hx
theorem ba.le{X:Nat->Prop}{p q:PV}{v:Value}(h:ba w X p v)(hl:PV.le p q):ba w X q v:=by
 by_cases hp:∃ps,p= .agg ps
 ·obtain⟨ps,rfl⟩:=hp;by_cases hq:∃qs,q= .agg qs
  ·obtain⟨qs,rfl⟩:=hq;obtain⟨h1,h2⟩:=P6 ps qs hl;obtain⟨vs,rfl,g1,g2⟩:=h;refine⟨vs,rfl,by omega,fun i x hx=>?_⟩;obtain⟨p,hp,hle⟩:=h2 i x hx;exact(g2 i p hp).le hle
  ·have:PV.mw (.agg ps) q:=by cases q<;>first|exact hl|exact absurd ⟨_,rfl⟩ hq
   have:q= .agg ps:=by
    unfold PV.mw at this;split at this
    ·rename_i h1;cases h1
    ·exact this.symm
   exact absurd ⟨_,this⟩ hq
 ·have h1:Qu w X p v:=by cases p<;>first|exact h|exact absurd ⟨_,rfl⟩ hp
  have h2:PV.mw p q:=by cases p<;>first|exact hl|exact absurd ⟨_,rfl⟩ hp
  exact ba.qw (h1.le h2)
theorem dH.le{X:Nat->Prop}{p q:PV}{v:Value}(h:dH w X p v)(hl:PV.y5 p q):dH w X q v:=by
 by_cases hp:∃ps,p= .au ps
 ·obtain⟨ps,rfl⟩:=hp;by_cases hq:∃qs,q= .au qs
  ·obtain⟨qs,rfl⟩:=hq;obtain⟨h1,h2⟩:=Iy ps qs hl;obtain⟨vs,rfl,g1,g2⟩:=h;refine⟨vs,rfl,by omega,fun i x hx=>?_⟩;obtain⟨p,hp,hle⟩:=h2 i x hx;exact(g2 i p hp).le hle
  ·have:PV.le (.au ps) q:=by cases q<;>first|exact hl|exact absurd ⟨_,rfl⟩ hq
   have:PV.mw (.au ps) q:=this;have:q= .au ps:=by
    unfold PV.mw at this;split at this
    ·rename_i h1;cases h1
    ·exact this.symm
   exact absurd ⟨_,this⟩ hq
 ·have h1:ba w X p v:=by cases p<;>first|exact h|exact absurd ⟨_,rfl⟩ hp
  have h2:PV.le p q:=by cases p<;>first|exact hl|exact absurd ⟨_,rfl⟩ hp
  exact dH.XF (h1.le h2)
def oQ (P : Program) (f : FuncId) : Prop := (P.funcs[f]?).any (fun fn => fn.body.isSome && fn.name != "runtime.NumGoroutine") = true
def Qc(P:Program)(f:FuncId)(args:List PV)(R:PV->Prop):Prop:=
 oQ P f/\∀(w:World)(X:Nat->Prop)(bo:Array Value),(∀b,X b->b<w.heap.size)->bo.size=args.length->(∀(i:Nat)(x:PV),args[i]? =some x->ba w X x (bo.getD i undef))->
  Calls P f bo w fun e w'=>∃v r,e= .returned v/\Ext bT w w'/\dH w' X r v/\R r
theorem Qc.mono{P:Program}{f:FuncId}{args:List PV}{R R':PV->Prop}(h:Qc P f args R)(hr:∀r,R r->R' r):Qc P f args R':=
 ⟨h.1,fun w X bo h1 h2 h3=>(h.2 w X bo h1 h2 h3).mono fun _ _ ⟨v,r,e1,e2,e3,e4⟩=>⟨v,r,e1,e2,e3,hr r e4⟩⟩
theorem Qc.le{P:Program}{f:FuncId}{args args':List PV}{R:PV->Prop}(h:Qc P f args R)(hl:PV.FY args' args):Qc P f args' R:=by obtain⟨h1,h2⟩:=Iy _ _ hl;refine⟨h.1,fun w X bo g1 g2 g3=>h.2 w X bo g1 (by omega) (fun i x hx=>?_)⟩;obtain⟨p,hp,hle⟩:=h2 i x hx;exact(g3 i p hp).le hle
def jY(args:List PV):Fr:=fun i=>(args[i]?).getD .undef
def kC(fr:Fr)(hp:HP):RV->Prop
 |.t s=>(aK hp (fr s)).aE=true
 |.cell s n ag=>match fr s with
  |.mp β i o=>match hp β with
   |some hb=>i<hb.xs.length/\o+n<=hb.e/\(ag=false->n=1)
   |none=>False
  |_=>False
def jP(fr:Fr)(hp:HP):RV->PV
 |.t s=>aK hp (fr s)
 |.cell s n ag=>match fr s with
  |.mp β i o=>match hp β with
   |some hb=>eR ag n o ((hb.xs[i]?).getD .undef)
   |none=>.undef
  |_=>.undef
def gf(rs:List RV)(R:PV->Prop):Qh:=fun fr hp=>match rs with
 | [r]=>kC fr hp r/\∃p,PV.le (jP fr hp r) p/\R p
 |rs=>(∀r∈rs,kC fr hp r)/\∃p,PV.y5 (.au (rs.map (jP fr hp))) p/\R p
def sm(tmps:Array Value):ResultVar->Sem Value
 |.tmp t=>pure (tmps.getD t undef)
 |.cell x t=>do loadVar t (<-asAddr (tmps.getD x undef))
def lr(fr:Fr):RV->List Nat
 |.t s=>(fr s).refs
 |.cell _ _ _=>[]
theorem OV{l l':List Nat}(h:∀β∈l,β∈l'){b:Nat}(hx:aH C ρ (cf hp l') b):aH C ρ (cf hp l) b:=by
 rcases hx with hx|⟨γ,hg,h1,h2,h3⟩
 ·exact .inl hx
 ·obtain⟨iw,g1,_,_,_,g5,g6⟩:=zx h1;refine .inr ⟨γ,iw,?_,by rw[<-g5 h2];exact h2,h3⟩;have hn:γ ∉ l:=fun hl=>g6 h2 (h γ hl);unfold cf;rw[if_neg (by simpa using hn)];exact g1
theorem Q7w:cf hp []=hp:=by funext β;simp[cf]
theorem Q7x{p:PV}(h:(aK hp p).aE=true):∀β∈p.refs,bN β=false:=by
 have h1:∀q:PV,(cE hp q).ik=true->∀β∈q.bS,bN β=false:=by
  intro q hq β al;cases q with
  |mp γ i o=>simp only[PV.bS,KaL]at al;subst al;cases hy:bN β with
   |false=>rfl
   |true=>simp[cE,hy,PV.ik]at hq
  |ax γ o n=>simp only[PV.bS,KaL]at al;subst al;cases hy:bN β with
   |false=>rfl
   |true=>simp[cE,hy,PV.ik]at hq
  |rb=>simp[cE,PV.ik]at hq
  |_=>cases al
 intro β al;cases p with
 |mp γ i o=>exact h1 (.mp γ i o) (by cases hq:cE hp (.mp γ i o)<;>simp_all[aK,PV.aE,PV.ik]) β al
 |ax γ o n=>exact h1 (.ax γ o n) (by cases hq:cE hp (.ax γ o n)<;>simp_all[aK,PV.aE,PV.ik]) β al
 |rb=>simp[aK,cE,PV.aE]at h
 |fn f first cap=>
  simp only[aK,PV.aE,Kat,List.all_map,Kav]at h;rcases KaT.1 al with al|al
  ·obtain⟨x,hx,al⟩:=Kaq.1 al;exact h1 x (h.1 x hx) β al
  ·obtain⟨x,hx,al⟩:=Kaq.1 al;exact h1 x (h.2 x hx) β al
 |_=>cases al
theorem alb{rv:RV}(h:kC fr hp rv):∀β∈lr fr rv,bN β=false:=by
 cases rv with
 |t s=>exact Q7x h
 |cell=>intro β al;cases al
theorem adB{P:Program}(hP:C.P=P){r:ResultVar}{rv:RV}(hc:mG P r=some rv)(h:aI C ρ fr hp a.tmps w)(ho:kC fr hp rv):
  ∃v,(sm a.tmps r).run P w= .ok v w/\ba w (aH C ρ (cf hp (lr fr rv))) (jP fr hp rv) v:=by
 subst hP;cases r with
 |tmp t=>simp[mG]at hc;subst hc;exact⟨_,rfl,qG h (h.fh t) (fun β al=>al) ho⟩
 | cell x t=>
  simp only[mG,Kab,Kaa]at hc;obtain⟨n,hn,ag,kf,rfl⟩:=hc;have hx:=h.fh x;simp only[kC]at ho;split at ho
  ·rename_i β i o oZ;rw[oZ]at hx;split at ho
   ·rename_i hb al;obtain⟨h1,h2,h3⟩:=ho;obtain⟨b,fm,g1,g2,g3⟩:=hx.y6;rw[al]at g2;cases g2;have bn:=h.own β hb al;have bc:=bn.eg;rw[g1]at bc;obtain⟨_,lC,cur,cap,c1,c2,c3,c4,c5⟩:=bc;have eA:=Kam h1;have fo:=(bn.len i _ eA).1;have dU:i<cap:=by omega
    have nv:∀j,j<n->i*hb.e+o+j<cur.size:=fun j hj=>by rw[c2];exact nT dU h2 hj
    have bp:=CO (P:=C.P) (t:=t) (b:=b) (off:=i*hb.e+o) (vs:=Array.ofFn (n:=n) fun j=>cur.getD (i*hb.e+o+j.val) undef) hn kf h3 (by simp) w
     (fun j hj=>by rw[tl (f:=fun j=>cur.getD (i*hb.e+o+j) undef) hj];exact lM c1 (nv j hj))
    obtain⟨V,hV⟩:∃V:Value,V=(if ag then .agg (Array.ofFn (n:=n) fun j=>cur.getD (i*hb.e+o+j.val) undef)else(Array.ofFn (n:=n) fun j=>cur.getD (i*hb.e+o+j.val) undef).getD 0 undef):=⟨_,rfl⟩
    rw[<-hV]at bp;refine⟨V,?_,?_⟩
    ·simp only[sm,g3,asAddr,Kao,Ka0,Kaj];exact bp
    ·have:ba w (aH C ρ hp) (eR ag n o (hb.xs[i]'h1)) (if ag then .agg (Array.ofFn (n:=n) fun j=>cur.getD (i*hb.e+o+j.val) undef)else(Array.ofFn (n:=n) fun j=>cur.getD (i*hb.e+o+j.val) undef).getD 0 undef):=
      Ao (by simp) (by rw[fo];exact h2) h3 (fun j y hj hy=>by rw[tl (f:=fun j=>cur.getD (i*hb.e+o+j) undef) hj,Kcg];exact c5 i _ eA (o+j) y hy)
     simp only[jP,oZ,al,eA,KbT];rw[hV];simp only[lr,Q7w];exact this
   ·exact ho.elim
  ·exact ho.elim
theorem Vb{P:Program}(hP:C.P=P)(h:aI C ρ fr hp a.tmps w):∀(rl:List ResultVar)(rs:List RV),rl.mapM (mG P)=some rs->(∀r∈rs,kC fr hp r)->
  ∃vs:List Value,vs.length=rs.length/\(rl.mapM (sm a.tmps)).run P w= .ok vs w/\∀(i:Nat)(r:RV),rs[i]? =some r->∃v,vs[i]? =some v/\ba w (aH C ρ (cf hp (rs.flatMap (lr fr)))) (jP fr hp r) v
 | [],rs,hc,_=>by simp at hc;subst hc;exact⟨[],rfl,by simp,by simp⟩
 | x::rl,rs,hc,ho=>by
  rw[KcT]at hc;simp only[Kcy,KcZ,Kab,KaB]at hc;obtain⟨r,hr,XQ,fu,rfl⟩:=hc;obtain⟨v,h1,h2⟩:=adB hP hr h (ho r (by simp));obtain⟨vs,g1,g2,g3⟩:=Vb hP h rl XQ fu (fun q hq=>ho q (by simp[hq]));refine⟨v::vs,by simp[g1],by simp[KcT,Kao,h1,g2],fun i q hq=>?_⟩;cases i with
  |zero=>simp at hq;subst hq;exact⟨v,rfl,h2.mono (fun _ _ _=>rfl) (fun _ _ hn hx=>hn (OV (fun β al=>by rw[Kau];exact KcS _ al) hx)) (Kac _)⟩
  |succ i=>simp at hq;obtain⟨v',k1,k2⟩:=g3 i q hq;exact⟨v',by simpa using k1,k2.mono (fun _ _ _=>rfl) (fun _ _ hn hx=>hn (OV (fun β al=>by rw[Kau];exact KbH _ al) hx)) (Kac _)⟩
theorem TN{P:Program}(hP:C.P=P){fn:Func}{rs:List RV}{Rr:PV->Prop}(hc:fn.results.toList.mapM (mG P)=some rs)(h:aI C ρ fr hp a.tmps w)(hr:gf rs Rr fr hp):
  ∃v r,(results fn a.tmps).run P w= .ok v w/\dH w (aH C ρ (cf hp (rs.flatMap (lr fr)))) r v/\(∀β∈rs.flatMap (lr fr),bN β=false)/\Rr r:=by
 have bz:(∀r∈rs,kC fr hp r):=by
  intro r fW
  match rs,hr,fW with
  | [r0],hr,fW=>simp at fW;subst fW;exact hr.1
  | [],hr,fW=>cases fW
  |r0::r1::rest,hr,fW=>exact hr.1 r fW
 have hN:∀β∈rs.flatMap (lr fr),bN β=false:=fun β al=>by obtain⟨r,hr,al⟩:=Kaq.1 al;exact alb (bz r hr) β al
 obtain⟨vs,hlen,bp,yW⟩:=Vb hP h _ rs hc bz;have dz:(results fn a.tmps).run P w= .ok (if h:vs.toArray.size=1 then vs.toArray[0]else .tuple vs.toArray) w:=by
  have e:results fn a.tmps=(do let vs<-fn.results.mapM (sm a.tmps);pure (if h:vs.size=1 then vs[0]else .tuple vs)):=rfl;rw[e,Kb6];simp only[Kao];have h2:(List.toArray<$>fn.results.toList.mapM (sm a.tmps):Sem (Array Value)).run P w= .ok vs.toArray w:=by simp[bp]
  rw[h2];rfl
 match rs,hr,hlen,yW,hN with
 | [r0],hr,hlen,yW,hN=>
  have h1:vs.toArray.size=1:=by simpa using hlen
  rw[dif_pos h1]at dz;obtain⟨v,h2,h3⟩:=yW 0 r0 rfl;have e:vs.toArray[0]=v:=by
   have:vs[0]? =some (vs.toArray[0]):=by simp[hlen]
   rw[h2]at this;exact(Kc1 this).symm
  rw[e]at dz;obtain⟨_,p,hle,Bf⟩:=hr;exact⟨_,_,dz,dH.XF (h3.le hle),hN,Bf⟩
 | [],hr,hlen,yW,hN=>
  have h1:¬vs.toArray.size=1:=by simp[hlen]
  rw[dif_neg h1]at dz;obtain⟨_,p,hle,Bf⟩:=hr;exact⟨_,_,dz,dH.le (p:=.au []) ⟨vs.toArray,rfl,by simp[hlen],by simp⟩ hle,hN,Bf⟩
 |r0::r1::rest,hr,hlen,yW,hN=>
  have h1:¬vs.toArray.size=1:=by simp[hlen]
  rw[dif_neg h1]at dz;obtain⟨_,p,hle,Bf⟩:=hr;refine⟨_,_,dz,dH.le (p:=.au ((r0::r1::rest).map (jP fr hp))) ⟨vs.toArray,rfl,by simp[hlen],fun i x hx=>?_⟩ hle,hN,Bf⟩;simp only[Kay,Kaa]at hx;obtain⟨rv,hrv,rfl⟩:=hx;obtain⟨v,h2,h3⟩:=yW i rv hrv;rw[uZ,Kal,h2];exact h3
theorem Vc{P:Program}(hP:C.P=P){fn:Func}{rs:List RV}{Rr:PV->Prop}(hc:fn.results.toList.mapM (mG P)=some rs)(h:aI C ρ fr hp a.tmps w)(hr:gf rs Rr fr hp):
  ∃v r,(results fn a.tmps).run P w= .ok v w/\dH w C.X0 r v/\Rr r:=by
 obtain⟨v,r,h1,h2,_,h3⟩:=TN hP hc h hr;exact⟨v,r,h1,h2.mono (fun _ _ _=>rfl) (fun _ _ hn hx=>hn (.inl hx)) (Kac _),h3⟩
theorem Q7y{P:Program}(hP:C.P=P){fn:Func}{rs:List RV}{Rr:PV->Prop}(hc:fn.results.toList.mapM (mG P)=some rs)(h:aI C ρ fr hp a.tmps w)(hr:gf rs Rr fr hp)
  {X:Nat->Prop} (hX:∀c,X c->C.X0 c∨∃β hb,bN β=true/\hp β=some hb/\hb.fz=false/\ρ β=some c):
  ∃v r,(results fn a.tmps).run P w= .ok v w/\dH w X r v/\Rr r:=by
 obtain⟨v,r,h1,h2,h3,h4⟩:=TN hP hc h hr;refine⟨v,r,h1,h2.mono (fun _ _ _=>rfl) (fun c _ hn hx=>hn ?_) (Kac _),h4⟩;rcases hX c hx with hx|⟨β,hb,k1,k2,k3,k4⟩
 ·exact .inl hx
 ·refine .inr ⟨β,hb,?_,k3,k4⟩;have hn:β ∉ rs.flatMap (lr fr):=fun hl=>by rw[h3 β hl]at k1;cases k1
  unfold cf;rw[if_neg (by simpa using hn)];exact k2
theorem Qf {P : Program} {f : FuncId} {fn : Func} {sf : aA} {args : List PV} {Rr : PV -> Prop} (hm : P.follows .mixedOrders = true) (hf : P.funcs[f]? = some fn) (sM : (fn.name != "runtime.NumGoroutine") = true) (hc : Qe P fn = some sf) (hn : args.length <= sf.n /\ sf.n <= 1000000)
  (hv:∀C:Ctx,C.P=P->vc C (gf sf.rs Rr) [.c sf.body] (jY args) aF):Qc P f args Rr:=by
 simp only[Qe,Kab,Kaa]at hc;obtain⟨c,hb,sb,iK,rs,fu,rfl⟩:=hc;refine⟨by simp[oQ,hf,hb];simpa using sM,fun w X bo hX fY cN=>?_⟩
 let C:Ctx:=Ctx.plain P fn.ntmps w X hX hn.2
 refine calls_of_wp hf hb ?_;have wI:(bo++Array.replicate (fn.ntmps-bo.size) undef).size=fn.ntmps:=by simp at hn ⊢;omega
 have qj:fl C (jY args) aF (bo++Array.replicate (fn.ntmps-bo.size) undef) w:=by
  refine⟨fun _=>none,wI,Ext.refl _ _,(fun _ _ h=>by cases h),by simp[aF],by simp[aF],fun i=>?_⟩;unfold jY;cases hi:args[i]? with
  |none=>trivial
  | some p=>
   simp only[KbT];have dq:i<bo.size:=by rw[fY];exact(Kad.1 hi).1
   have hr:=cN i p hi;have e:(bo++Array.replicate (fn.ntmps-bo.size) undef).getD i undef=bo.getD i undef:=by rw[kX,if_pos dq]
   rw[e];refine Qt.lJ (hr.mono (fun _ _ _=>rfl) (fun b _ hn hx=>?_) (Kac _));rcases hx with hx|⟨_,_,h1,_⟩
   ·exact hn hx
   ·simp[aF]at h1
 have fin:∀(fr:Fr)(hp:HP)(a:Act)(w':World),a.defers=[]->fl C fr hp a.tmps w'->gf rs Rr fr hp->
   a.defers=[]/\∃v,(results fn a.tmps).run P w'= .ok v w'/\∃v' r,Ending.returned v= .returned v'/\Ext bT w w'/\dH w' X r v'/\Rr r:=by
  intro fr hp a w' hd ⟨ρ,hs⟩ hr;obtain⟨v,r,h1,h2,h3⟩:=Vc (C:=C) rfl fu hs hr;exact⟨hd,v,h1,v,r,rfl,Ctx.NN hs.ext,h2,h3⟩
 exact G9 (C:=C) (R:=gf rs Rr) hm c sb [] _ (jY args) aF _ w iK ⟨fun fr hp a w' hd hs hv=>(by rw[vC]at hv;exact fin fr hp a w' hd hs hv),fun id eS he=>(by simp[FW.cw]at he),fin⟩ rfl qj (hv C rfl)
end Go.FW
namespace Go.FW
open Go
variable {C : Ctx} {ρ : Nat -> Option Nat} {fr : Fr} {hp : HP} {w : World} {a : Act} {K R : Qh}
def qM(fr:Fr)(d:Option Nat)(r:PV):Fr:=match d with|some d=>af fr d r|none=>fr
theorem Qt.NM{p:PV}{v:Value}(h:dH w (aH C ρ hp) p v):Qt C ρ hp w p v:=by
 cases p with
 |au ps=>exact h
 |_=>exact Qt.lJ h
theorem EA{tmps:Array Value}(h:aI C ρ fr hp tmps w):∀b,aH C ρ hp b->b<w.heap.size:=by
 rintro b (hx|⟨β,hb,h1,_,h3⟩)
 ·exact KaO (C.Fg b hx) h.ext.size
 ·have:=(h.own β hb h1).eg;rw[h3]at this;exact this.2.1
theorem aI.Ga{tmps:Array Value}{d:Option Nat}(h:aI C ρ fr hp tmps w){p:PV}{v:Value}(hv:Qt C ρ hp w p v)(hd:∀x,d=some x->x<C.N):aI C ρ (qM fr d p) hp (XR tmps d v) w:=by
 cases d with
 |some d=>exact h.af hv (hd d rfl)
 |none=>exact h
theorem OW{tmps:Array Value}{first cap args:List PV}{fv cv av:Array Value}(hs:aI C ρ fr hp tmps w)(h1:fv.size=first.length)(_h2:cv.size=cap.length)(h3:av.size=args.length)
  (sR:∀(i:Nat)(x:PV),first[i]? =some x->cW C ρ hp w x (fv.getD i undef)) (oz:∀(i:Nat)(x:PV),cap[i]? =some x->cW C ρ hp w x (cv.getD i undef)) (sS:∀(i:Nat)(x:PV),args[i]? =some x->Qt C ρ hp w x (av.getD i undef))
  (jb:((first++args++cap).map (aK hp)).all PV.aE=true):
  ∀(i:Nat)(x:PV),((first++args++cap).map (aK hp))[i]? =some x->ba w (aH C ρ (cf hp ((first++args++cap).flatMap PV.refs))) x ((fv++av++cv).getD i undef):=by
 intro i x hx;rw[Kav]at jb;have jz:=jb x (Kai hx);simp only[Kay,Kaa]at hx;obtain⟨p,an,rfl⟩:=hx;have eo:=Kai an;have hl:∀β∈p.refs,β∈(first++args++cap).flatMap PV.refs:=fun β al=>Kaq.2 ⟨p,eo,al⟩;have XW:∀ {p:PV} {v:Value},cW C ρ hp w p v->(aK hp p).aE=true->Qt C ρ hp w p v:=by
  intro p v hr hd;cases p with
  |undef=>trivial
  |mp=>exact hr
  |ax=>exact hr
  |rb=>exact hr
  |np=>exact hr
  |aM=>exact hr
  |_=>exact Qt.lJ (ba.qw hr)
 rw[kX];rw[Ka3]at an;by_cases c1:i<(first++args).length
 ·rw[if_pos c1]at an;rw[if_pos (by simp only[Kcj,h1,h3];simpa using c1),kX];rw[Ka3]at an;by_cases c2:i<first.length
  ·rw[if_pos c2]at an;rw[if_pos (by omega)];exact qG hs (XW (sR i p an) jz) hl jz
  ·rw[if_neg c2]at an;rw[if_neg (by omega),h1];exact qG hs (sS _ p an) hl jz
 ·rw[if_neg c1]at an;have fY:(fv++av).size=(first++args).length:=by simp[h1,h3]
  rw[if_neg (by omega),fY];exact qG hs (XW (oz _ p an) jz) hl jz
theorem Vd{P:Program}(hP:C.P=P){g:FuncId}{first cap args dk:List PV}{pr:Bool}{d:Option Nat}{Rr:PV->Prop}(h:Qc P g dk Rr)(dT:(first++args++cap).map (aK hp)=dk)(jb:dk.all PV.aE=true)
  (hK:∀r,Rr r->K (qM fr d r) (cf hp ((first++args++cap).flatMap PV.refs))):mQ C pr (.fn g first cap) args d fr hp K:=by
 subst hP;refine⟨h.1,fun ρ tmps w fv cv av sG hs h1 h2 h3 sR oz sS=>?_⟩;have hf:=hs.freeze ((first++args++cap).flatMap PV.refs);refine(h.2 w _ (fv++av++cv) (EA hf) (by rw[<-dT];simp[h1,h2,h3]) (by rw[<-dT];exact OW hs h1 h2 h3 sR oz sS (by rw[dT];exact jb))).mono ?_;rintro e w' ⟨v,r,rfl,hx,hr,Mw⟩;exact⟨v,_,_,rfl,⟨ρ,(hf.grow hx).Ga (Qt.NM hr) sG⟩,fun _=>hx,hK r Mw⟩
theorem iQ{P:Program}(hP:C.P=P){g:FuncId}{first cap args dk:List PV}{pr:Bool}{d:Option Nat}{r:PV}(h:Qc P g dk (· =r))(dT:(first++args++cap).map (aK hp)=dk)(jb:dk.all PV.aE=true)
  (hK:K (qM fr d r) (cf hp ((first++args++cap).flatMap PV.refs))):mQ C pr (.fn g first cap) args d fr hp K:=
 Vd hP h dT jb (fun _ hr=>hr▸hK)
def PV.NA:PV->Bool
 |.int .. | .bool _=>true
 |.au ps=>ps.all fun p=>match p with| .int .. | .bool _=>true|_=>false
 |_=>false
theorem adC{X X':Nat->Prop}{p:PV}{v:Value}(hs:p.NA=true)(h:dH w X p v):dH w X' p v:=by
 have one:∀(p:PV)(v:Value),(match p with| .int .. | .bool _=>true|_=>false:Bool)=true->ba w X p v->ba w X' p v:=by
  intro p v hs h;cases p with
  |int k n=>cases h;exact Qu.int k n
  |bool b=>cases h;exact Qu.bool b
  |_=>cases hs
 cases p with
 |int k n=>exact one (.int k n) v rfl h
 |bool b=>exact one (.bool b) v rfl h
 |au ps=>obtain⟨vs,rfl,h1,h2⟩:=h;simp only[PV.NA,Kav]at hs;exact⟨vs,rfl,h1,fun i x hx=>one x _ (hs x (Kai hx)) (h2 i x hx)⟩
 |_=>cases hs
def pN(C:Ctx)(R:Qh)(c:PV)(x y:SC)(sk:List It)(fr:Fr)(hp:HP):Prop:=tM c (vc C R (.c x::sk) fr hp) (vc C R (.c y::sk) fr hp)
def sv(C:Ctx)(R:Qh)(x y:RT)(sk:List It)(fr:Fr)(hp:HP):Prop:=vc C R (.o x::sk) fr hp/\vc C R (.o y::sk) fr hp
def iF(C:Ctx)(p:PV)(s:Nat)(want:Bool)(o:cB)(fr:Fr)(hp:HP)(K:Qh):Prop:=match p with
  |.bool t=>(t=want->bu C o (af fr s (.bool want)) hp K)/\(t=(!want)->jF o (af fr s (.bool !want)) hp K)
  |.au []=>jF o fr hp K
  |_=>False
theorem Qb{p:Prop}[Decidable p]{x y:SC}{sk:List It}(h1:p->vc C R (.c x::sk) fr hp)(h2:¬p->vc C R (.c y::sk) fr hp):pN C R (.bool (decide p)) x y sk fr hp:=
 ⟨fun h=>h1 (of_decide_eq_true h),fun h=>h2 (of_decide_eq_false h)⟩
theorem zS{b:Bool}{x y:SC}{sk:List It}(h1:b=true->vc C R (.c x::sk) fr hp)(h2:b=false->vc C R (.c y::sk) fr hp):pN C R (.bool b) x y sk fr hp:=⟨h1,h2⟩
theorem gw{p:Prop}[Decidable p]{s:Nat}{o:cB}(h1:p->iF C (.bool true) s true o (af fr s (.bool true)) hp K)(h2:¬p->iF C (.bool false) s true o (af fr s (.bool false)) hp K):iF C (.bool (decide p)) s true o fr hp K:=by
 have hu:∀(b:Bool),af (af fr s (.bool b)) s (.bool b)=af fr s (.bool b):=fun b=>by funext i;unfold af;split<;>rfl
 refine⟨fun h=>?_,fun h=>?_⟩
 ·have:=(h1 (of_decide_eq_true h)).1 rfl
  rwa[hu]at this
 ·have:=(h2 (of_decide_eq_false h)).2 rfl
  rwa[show(!true)=false from rfl,hu]at this
theorem dM{p:Prop}[Decidable p]{s:Nat}{o:cB}(h1:p->iF C (.bool true) s false o (af fr s (.bool true)) hp K)(h2:¬p->iF C (.bool false) s false o (af fr s (.bool false)) hp K):iF C (.bool (decide p)) s false o fr hp K:=by
 have hu:∀(b:Bool),af (af fr s (.bool b)) s (.bool b)=af fr s (.bool b):=fun b=>by funext i;unfold af;split<;>rfl
 refine⟨fun h=>?_,fun h=>?_⟩
 ·have:=(h2 (of_decide_eq_false h)).1 rfl
  rwa[hu]at this
 ·have:=(h1 (of_decide_eq_true h)).2 rfl
  rwa[show(!false)=true from rfl,hu]at this
theorem xj{b want:Bool}{s:Nat}{o:cB}(h1:b=true->iF C (.bool true) s want o (af fr s (.bool true)) hp K)(h2:b=false->iF C (.bool false) s want o (af fr s (.bool false)) hp K):iF C (.bool b) s want o fr hp K:=by
 have:= @gw C fr hp K (b=true) _ s o;have e:b=decide (b=true):=by cases b<;>rfl
 rw[e];cases want with
 |true=>exact gw h1 (fun h=>h2 (by simpa using h))
 |false=>exact dM h1 (fun h=>h2 (by simpa using h))
theorem adD{sk:List It}{c:aP}{x y:SC}:vc C R (.c (.cond c x y)::sk) fr hp=pN C R (ev fr c) x y sk fr hp:=Eg
theorem aiu{sk:List It}{x y:RT}:vc C R (.o (.br x y)::sk) fr hp=sv C R x y sk fr hp:=Sb
theorem aiv{sk:List It}{o:cB}{r:RT}:vc C R (.o (.o none o r)::sk) fr hp=bu C o fr hp (vc C R (.o r::sk)):=AI
theorem aiw{sk:List It}{s:Nat}{b:Bool}{o:cB}{r:RT}:vc C R (.o (.o (some (s,b)) o r)::sk) fr hp=iF C (fr s) s b o fr hp (vc C R (.o r::sk)):=AI
theorem vcs:
  (∀(C:Ctx)(R:Qh)(sk:List It)(x y:SC)(fr:Fr)(hp:HP),vc C R (.c (.seq x y)::sk) fr hp=vc C R (.c x:: .c y::sk) fr hp)/\
  (∀(C:Ctx)(R:Qh)(sk:List It)(id:Nat)(x:SC)(fr:Fr)(hp:HP),vc C R (.c (.block id x)::sk) fr hp=vc C R (.c x:: .eb id::sk) fr hp)/\
  (∀(C:Ctx)(R:Qh)(sk:List It)(fr:Fr)(hp:HP),vc C R (.c .skip::sk) fr hp=vc C R sk fr hp)/\
  (∀(C:Ctx)(R:Qh)(sk:List It)(r:RT)(fr:Fr)(hp:HP),vc C R (.c (.rg r)::sk) fr hp=vc C R (.o r::sk) fr hp)/\
  (∀(C:Ctx)(R:Qh)(sk:List It)(id:Nat)(fr:Fr)(hp:HP),vc C R (.eb id::sk) fr hp=vc C R sk fr hp)/\
  (∀(C:Ctx)(R:Qh)(sk:List It)(J:Qh)(fr:Fr)(hp:HP),vc C R (.el J::sk) fr hp=J fr hp)/\
  (∀(C:Ctx)(R:Qh)(sk:List It)(fr:Fr)(hp:HP),vc C R (.c .ret::sk) fr hp=R fr hp)/\
  (∀(C:Ctx)(R:Qh)(fr:Fr)(hp:HP),vc C R [] fr hp=R fr hp)/\
  (∀(C:Ctx)(R:Qh)(sk:List It)(c:aP)(x y:SC)(fr:Fr)(hp:HP),vc C R (.c (.cond c x y)::sk) fr hp=pN C R (ev fr c) x y sk fr hp)/\
  (∀(C:Ctx)(R:Qh)(sk:List It)(id:Nat)(fr:Fr)(hp:HP),vc C R (.c (.exit id)::sk) fr hp=vH C R (FW.cw id sk) fr hp)/\
  (∀(C:Ctx)(R:Qh)(sk:List It)(fr:Fr)(hp:HP),vc C R (.o .nil::sk) fr hp=vc C R sk fr hp)/\
  (∀(C:Ctx)(R:Qh)(sk:List It)(o:cB)(r:RT)(fr:Fr)(hp:HP),vc C R (.o (.o none o r)::sk) fr hp=bu C o fr hp (vc C R (.o r::sk)))/\
  (∀(C:Ctx)(R:Qh)(sk:List It)(s:Nat)(b:Bool)(o:cB)(r:RT)(fr:Fr)(hp:HP),vc C R (.o (.o (some (s,b)) o r)::sk) fr hp=iF C (fr s) s b o fr hp (vc C R (.o r::sk)))/\
  (∀(C:Ctx)(R:Qh)(sk:List It)(x y:RT)(fr:Fr)(hp:HP),vc C R (.o (.br x y)::sk) fr hp=sv C R x y sk fr hp)/\
  (∀(C:Ctx)(R:Qh)(x y:SC)(sk:List It)(fr:Fr)(hp:HP),pN C R (.bool true) x y sk fr hp=vc C R (.c x::sk) fr hp)/\
  (∀(C:Ctx)(R:Qh)(x y:SC)(sk:List It)(fr:Fr)(hp:HP),pN C R (.bool false) x y sk fr hp=vc C R (.c y::sk) fr hp)/\
  (∀(C:Ctx)(R:Qh)(sk:List It)(fr:Fr)(hp:HP),vH C R (some sk) fr hp=vc C R sk fr hp)/\
  (∀(id:Nat)(s:SC)(sk:List It),FW.cw id (.c s::sk)=FW.cw id sk)/\
  (∀(id:Nat)(r:RT)(sk:List It),FW.cw id (.o r::sk)=FW.cw id sk)/\
  (∀(id:Nat)(J:Qh)(sk:List It),FW.cw id (.el J::sk)=FW.cw id sk)/\
  (∀(id i:Nat)(sk:List It),FW.cw id (.eb i::sk)=if i=id then some sk else FW.cw id sk)/\
  (∀(C:Ctx)(s:Nat)(o:cB)(fr:Fr)(hp:HP)(K:Qh),iF C (.bool true) s true o fr hp K=bu C o (af fr s (.bool true)) hp K)/\
  (∀(C:Ctx)(s:Nat)(o:cB)(fr:Fr)(hp:HP)(K:Qh),iF C (.bool false) s true o fr hp K=jF o (af fr s (.bool false)) hp K)/\
  (∀(C:Ctx)(s:Nat)(o:cB)(fr:Fr)(hp:HP)(K:Qh),iF C (.bool true) s false o fr hp K=jF o (af fr s (.bool true)) hp K)/\
  (∀(C:Ctx)(s:Nat)(o:cB)(fr:Fr)(hp:HP)(K:Qh),iF C (.bool false) s false o fr hp K=bu C o (af fr s (.bool false)) hp K)/\
  (∀(C:Ctx)(s:Nat)(b:Bool)(o:cB)(fr:Fr)(hp:HP)(K:Qh),iF C (.au []) s b o fr hp K=jF o fr hp K):=by
 refine⟨fun _ _ _ _ _ _ _=>Ev,fun _ _ _ _ _ _ _=>DG,fun _ _ _ _ _=>Ef,fun _ _ _ _ _ _=>Gv,fun _ _ _ _ _ _=>Cq,fun _ _ _ _ _ _=>vG,fun _ _ _ _ _=>Ew,fun _ _ _ _=>vC,fun _ _ _ _ _ _ _ _=>adD,
  fun _ _ _ _ _ _=>Eh,fun _ _ _ _ _=>AE,fun _ _ _ _ _ _ _=>aiv,fun _ _ _ _ _ _ _ _ _=>aiw,fun _ _ _ _ _ _ _=>aiu,fun _ _ _ _ _ _ _=>?_,fun _ _ _ _ _ _ _=>?_,fun _ _ _ _ _=>rfl,fun _ _ _=>rfl,fun _ _ _=>rfl,fun _ _ _=>rfl,fun _ _ _=>rfl,?_,?_,?_,?_,fun _ _ _ _ _ _ _=>rfl⟩
 ·simp[pN,tM]
 ·simp[pN,tM]
 all_goals intros;simp[iF]
end Go.FW
namespace Go.FW
open Go
variable {C : Ctx} {fr : Fr} {hp : HP} {K R : Qh}
theorem vk{n:Int}(h1: -9223372036854775808<=n)(h2:n<=9223372036854775807):IntKind.i64.wrap n=n:=by rw[IntKind.wrap_i64];omega
theorem adE{n:Int}(h1: -2147483648<=n)(h2:n<=2147483647):IntKind.i32.wrap n=n:=by rw[IntKind.wrap_i32];omega
theorem rT{n:Int}(h1:0<=n)(h2:n<=18446744073709551615):IntKind.u64.wrap n=n:=by rw[IntKind.wrap_u64];omega
theorem DC{n:Int}(h1:0<=n)(h2:n<=4294967295):IntKind.u32.wrap n=n:=by rw[IntKind.wrap_u32];omega
theorem adF{n:Int}(h1:0<=n)(h2:n<=65535):IntKind.u16.wrap n=n:=by simp only[IntKind.wrap,IntKind.bits,IntKind.signed];simp;omega
theorem afu{n:Int}(h1:0<=n)(h2:n<=255):IntKind.u8.wrap n=n:=by rw[IntKind.wrap_u8];omega
theorem afv{x y:Int}(h:0<=x):x.tdiv y=x/y:=Int.tdiv_eq_ediv_of_nonneg h
theorem afw{x y:Int}(h:0<=x):x.tmod y=x%y:=Int.tmod_eq_emod_of_nonneg h
def kB(hb:Option HB)(n:Nat)(ag:Bool)(i o:Nat)(d:Nat)(fr:Fr)(hp:HP)(K:Qh):Prop:=match hb with
 |some hb=>∃h:i<hb.xs.length,o+n<=hb.e/\(ag=false->n=1)/\K (af fr d (eR ag n o (hb.xs[i]'h))) hp
 |none=>False
def stM (hb:Option HB) (β:Nat) (n:Nat) (i o:Nat) (v:PV) (fr:Fr) (hp:HP) (K:Qh):Prop:=match hb with
  |some hb=>hb.fz=false/\v.aE=true/\v.cells.length=n/\∃h:i<hb.xs.length,o+n<=hb.e/\
        K fr (Qz hp β { hb with xs:=hb.xs.set i (if n=hb.e then v else rE (hb.xs[i]'h) o v) })
  |none=>False
def yh(R:PV->Prop)(p:PV):Prop:=p.aE=true/\∃q,PV.le p q/\R q
theorem Qd{p r:PV}(h:p=r)(hd:r.aE=true):yh (· =r) p:=by subst h;exact⟨hd,_,Qy _,rfl⟩
theorem nR{p r:PV}(h:PV.le p r)(hd:p.aE=true):yh (· =r) p:=⟨hd,_,h,rfl⟩
theorem P7{e ty n:Nat}{ag fz:Bool}{o d:Nat}{x:PV}(h:o+n<=e)(ha:ag=false->n=1):kB (some ⟨e,ty,[x],fz⟩) n ag 0 o d fr hp K=K (af fr d (eR ag n o x)) hp:=by simp[kB,h];intro _;exact ha
theorem tJ{e ty n i:Nat}{ag fz:Bool}{o d:Nat}{xs:List PV}(h:i<xs.length)(h1:o+n<=e)(ha:ag=false->n=1):kB (some ⟨e,ty,xs,fz⟩) n ag i o d fr hp K=K (af fr d (eR ag n o (xs[i]'h))) hp:=by simp[kB,h,h1];intro _;exact ha
theorem aix{e ty n β i:Nat}{o:Nat}{xs:List PV}{v:PV}(h:i<xs.length)(hv:v.aE=true)(hl:v.cells.length=n)(h1:o+n<=e):stM (some ⟨e,ty,xs,false⟩) β n i o v fr hp K=K fr (Qz hp β ⟨e,ty,xs.set i (if n=e then v else rE (xs[i]'h) o v),false⟩):=by simp[stM,h,h1,hv,hl]
theorem Dj{ty n β i:Nat}{xs:List PV}{v:PV}(h:i<xs.length)(hv:v.aE=true)(hl:v.cells.length=n):stM (some ⟨n,ty,xs,false⟩) β n i 0 v fr hp K=K fr (Qz hp β ⟨n,ty,xs.set i v,false⟩):=by rw[aix h hv hl (by omega)];simp
theorem Gk{e d:Nat}{k:IntKind}{m:Int}{xs:List PV}(h0:0<=m)(h:m<xs.length):dR e (.sl e xs) (.int k m) d fr hp K=K (af fr d (.pt (xs[m.toNat]'(by omega)).cells)) hp:=by
 have:m.toNat<xs.length:=by omega
 simp[dR,h0,this]
theorem xP{α:Type}{f:α->PV}{e d:Nat}{k:IntKind}{m:Int}{xs:List α}(h0:0<=m)(h:m<xs.length):dR e (.sl e (xs.map f)) (.int k m) d fr hp K=K (af fr d (.pt (f (xs[m.toNat]'(by omega))).cells)) hp:=by rw[Gk h0 (by simpa using h)];simp
theorem EB{e d β o n:Nat}{k:IntKind}{m:Int}(h0:0<=m)(h:m<n)(he:(hp β).map (·.e)=some e):dR e (.ax β o n) (.int k m) d fr hp K=K (af fr d (.mp β (o+m.toNat) 0)) hp:=by
 have:m.toNat<n:=by omega
 simp[dR,h0,this,he]
theorem Cr{e by_ ty d:Nat}{z:PV}{k k':IntKind}{L Cc:Int}(h0:0<e)(hz:z.cells.length=e)(h1:0<=L)(h2:L<=Cc)(h3:by_*Cc<=281474976710656)(h4:Cc<=9223372036854775807):
  nE e by_ ty z (.int k L) (.int k' Cc) d fr hp K=K (af (cK d fr) d (.ms d L.toNat)) (Qz hp d ⟨e,ty,List.replicate L.toNat z,false⟩):=by
 simp[nE,h0,hz,h1,h2,h3,h4]
theorem aiy{n ty d β o m:Nat}(hB:bN β=true):gd n ty (.ax β o m) d fr hp K=K (af fr d (.rb β o m)) hp:=by simp[gd,hB]
theorem alc{d β o m:Nat}:kT 1 false (.rb β o m) d fr hp K=K (af fr d (.ax β o m)) hp:=by simp[kT]
theorem C7{e by_ ty d:Nat}{x:PV}{ys:List PV}(hs:jE hp x=some (e,ys))(h0:0<e)(h1:ys.length*by_<=140737488355328)(h2:ys.length<=9223372036854775807):
  iU e by_ ty .aa x d fr hp K=K (af (cK d fr) d (.ms d ys.length)) (Qz hp d ⟨e,ty,ys,false⟩):=by
 simp[iU,hs,h0,h1,h2]
theorem G'{e by_ ty d β n:Nat}{x:PV}{ys xs:List PV}(hs:jE hp x=some (e,ys))(hb:hp β=some ⟨e,ty,xs,false⟩)(h0:0<e)(hn:n<=xs.length)(h1:(n+ys.length)*by_<=140737488355328)(h2:n+ys.length<=9223372036854775807)(hB:cd β=false:=by decide):
  iU e by_ ty (.ms β n) x d fr hp K=K (af (cK β fr) d (.ms β (n+ys.length))) (Qz hp β ⟨e,ty,xs.take n++ys,false⟩):=by
 simp[iU,hs,hb,h0,hn,h1,h2,hB]
theorem Gw{e d:Nat}{xs:List PV}{lo hi:Option PV}{L H:Int}(h1:iD 0 lo=some L)(h2:iD xs.length hi=some H)(h3:0<=L)(h4:L<=H)(h5:H<=xs.length):
  iM e (.sl e xs) lo hi none d fr hp K=K (af fr d (.sl e ((xs.take H.toNat).drop L.toNat))) hp:=by
 have hM:iD (xs.length) none=some (xs.length:Int):=rfl;simp only[iM,h1,h2,hM];simp[h3,h4,h5]
theorem ald{e d:Nat}{xs:List PV}{k:IntKind}{H:Int}(h4:0<=H)(h5:H<=xs.length):
  iM e (.sl e xs) none (some (.int k H)) none d fr hp K=K (af fr d (.sl e (xs.take H.toNat))) hp:=by
 rw[Gw (L:=0) (H:=H) rfl rfl (by omega) h4 h5];simp
theorem ale{e d:Nat}{xs:List PV}{k:IntKind}{L:Int}(h4:0<=L)(h5:L<=xs.length):
  iM e (.sl e xs) (some (.int k L)) none none d fr hp K=K (af fr d (.sl e (xs.drop L.toNat))) hp:=by
 rw[Gw (L:=L) (H:=xs.length) rfl rfl h4 h5 (by omega)];simp
theorem aqc:
  (∀(C:Ctx)(d:Nat)(x:aP)(fr:Fr)(hp:HP)(K:Qh),bu C (.mv d x) fr hp K=K (af fr d (ev fr x)) hp)/\
  (∀(C:Ctx)(d:Nat)(c a b:aP)(fr:Fr)(hp:HP)(K:Qh),bu C (.pick d c a b) fr hp K=sh (ev fr c) (ev fr a) (ev fr b) d fr hp K)/\
  (∀(C:Ctx)(d:Nat)(op:BinOp)(bt:Bool)(a b:aP)(fr:Fr)(hp:HP)(K:Qh),bu C (.bin d op bt a b) fr hp K=cg op bt (ev fr a) (ev fr b) d fr hp K)/\
  (∀(C:Ctx)(d:Nat)(op:UnOp)(a:aP)(fr:Fr)(hp:HP)(K:Qh),bu C (.un d op a) fr hp K=uP op (ev fr a) d fr hp K)/\
  (∀(C:Ctx)(d:Nat)(k:IntKind)(a:aP)(fr:Fr)(hp:HP)(K:Qh),bu C (.conv d k a) fr hp K=vI k (ev fr a) d fr hp K)/\
  (∀(C:Ctx)(d:Nat)(a:aP)(fr:Fr)(hp:HP)(K:Qh),bu C (.len d a) fr hp K=oN (ev fr a) d fr hp K)/\
  (∀(C:Ctx)(d:Nat)(a b:aP)(fr:Fr)(hp:HP)(K:Qh),bu C (.mx d a b) fr hp K=wQ (ev fr a) (ev fr b) d fr hp K)/\
  (∀(C:Ctx)(d:Nat)(a b:aP)(fr:Fr)(hp:HP)(K:Qh),bu C (.mn d a b) fr hp K=wP (ev fr a) (ev fr b) d fr hp K)/\
  (∀(C:Ctx)(d e:Nat)(a b:aP)(fr:Fr)(hp:HP)(K:Qh),bu C (.idx d e a b) fr hp K=dR e (ev fr a) (ev fr b) d fr hp K)/\
  (∀(C:Ctx)(d n e:Nat)(a b:aP)(fr:Fr)(hp:HP)(K:Qh),bu C (.BZ d n e a b) fr hp K=qK n e (ev fr a) (ev fr b) d fr hp K)/\
  (∀(C:Ctx)(d n e:Nat)(ag:Bool)(a b:aP)(fr:Fr)(hp:HP)(K:Qh),bu C (.B1 d n e ag a b) fr hp K=ym n e ag (ev fr a) (ev fr b) d fr hp K)/\
  (∀(C:Ctx)(d off:Nat)(a:aP)(fr:Fr)(hp:HP)(K:Qh),bu C (.cC d off a) fr hp K=qR off (ev fr a) d fr hp K)/\
  (∀(C:Ctx)(d off n:Nat)(ag:Bool)(a:aP)(fr:Fr)(hp:HP)(K:Qh),bu C (.yA d off n ag a) fr hp K=qL off n ag (ev fr a) d fr hp K)/\
  (∀(C:Ctx)(d n:Nat)(ag:Bool)(a:aP)(fr:Fr)(hp:HP)(K:Qh),bu C (.ld d n ag a) fr hp K=kT n ag (ev fr a) d fr hp K)/\
  (∀(C:Ctx)(n:Nat)(a b:aP)(fr:Fr)(hp:HP)(K:Qh),bu C (.st n a b) fr hp K=ph n (ev fr a) (ev fr b) fr hp K)/\
  (∀(C:Ctx)(d n ty:Nat)(a:aP)(fr:Fr)(hp:HP)(K:Qh),bu C (.box d n ty a) fr hp K=gd n ty (ev fr a) d fr hp K)/\
  (∀(C:Ctx)(d n ty:Nat)(z:PV)(fr:Fr)(hp:HP)(K:Qh),bu C (.alloc d n ty z) fr hp K=gd n ty z d fr hp K)/\
  (∀(C:Ctx)(d e by_ ty:Nat)(z:PV)(l c:aP)(fr:Fr)(hp:HP)(K:Qh),bu C (.mk d e by_ ty z l c) fr hp K=nE e by_ ty z (ev fr l) (ev fr c) d fr hp K)/\
  (∀(C:Ctx)(d e ty:Nat)(ps:List aP)(fr:Fr)(hp:HP)(K:Qh),bu C (.bs d e ty ps) fr hp K=og e ty (ps.map (ev fr)) d fr hp K)/\
  (∀(C:Ctx)(d e by_ ty:Nat)(a b:aP)(fr:Fr)(hp:HP)(K:Qh),bu C (.app d e by_ ty a b) fr hp K=iU e by_ ty (ev fr a) (ev fr b) d fr hp K)/\
  (∀(C:Ctx)(d e:Nat)(a b:aP)(fr:Fr)(hp:HP)(K:Qh),bu C (.uc d e a b) fr hp K=tS e (ev fr a) (ev fr b) d fr hp K)/\
  (∀(C:Ctx)(d e:Nat)(a:aP)(l h m:Option aP)(fr:Fr)(hp:HP)(K:Qh),bu C (.sl d e a l h m) fr hp K=iM e (ev fr a) (l.map (ev fr)) (h.map (ev fr)) (m.map (ev fr)) d fr hp K)/\
  (∀(C:Ctx)(d:Nat)(a:aP)(i:Nat)(fr:Fr)(hp:HP)(K:Qh),bu C (.ext d a i) fr hp K=kJ (ev fr a) i d fr hp K)/\
  (∀(C:Ctx)(d:Nat)(z:List PV)(ps:List (Nat×Nat×aP))(fr:Fr)(hp:HP)(K:Qh),bu C (.bU d z ps) fr hp K=kK z (ps.map fun p=>(p.1,p.2.1,ev fr p.2.2)) d fr hp K)/\
  (∀(C:Ctx)(d f:Nat)(x y:List aP)(fr:Fr)(hp:HP)(K:Qh),bu C (.fn d f x y) fr hp K=((x.map (ev fr)++y.map (ev fr)).all PV.kQ=true/\K (af fr d (.fn f (x.map (ev fr)) (y.map (ev fr)))) hp))/\
  (∀(C:Ctx)(d:Option Nat)(pr:Bool)(f:aP)(Vs:List aP)(fr:Fr)(hp:HP)(K:Qh),bu C (.call d pr f Vs) fr hp K=mQ C pr (ev fr f) (Vs.map (ev fr)) d fr hp K)/\
  (∀(C:Ctx)(d:Option Nat)(x:aP)(fr:Fr)(hp:HP)(K:Qh),bu C (.B8 d x) fr hp K=AK (ev fr x) d fr hp K)/\
  (∀(fr:Fr)(n:Nat),ev fr (.t n)=fr n)/\(∀(fr:Fr)(p:PV),ev fr (.c p)=p):=by
 refine⟨?_,?_,?_,?_,?_,?_,?_,?_,?_,?_,?_,?_,?_,?_,?_,?_,?_,?_,?_,?_,?_,?_,?_,?_,?_,?_,?_,?_,?_⟩<;>intros<;>rfl
theorem aqd:
  (∀(bt:Bool)(k:IntKind)(x y:Int)(d:Nat)(fr:Fr)(hp:HP)(K:Qh),cg .add bt (.int k x) (.int k y) d fr hp K=K (af fr d (.int k (k.wrap (x+y)))) hp)/\
  (∀(bt:Bool)(k:IntKind)(x y:Int)(d:Nat)(fr:Fr)(hp:HP)(K:Qh),cg .sub bt (.int k x) (.int k y) d fr hp K=K (af fr d (.int k (k.wrap (x-y)))) hp)/\
  (∀(bt:Bool)(k:IntKind)(x y:Int)(d:Nat)(fr:Fr)(hp:HP)(K:Qh),cg .mul bt (.int k x) (.int k y) d fr hp K=K (af fr d (.int k (k.wrap (x*y)))) hp)/\
  (∀(bt:Bool)(k:IntKind)(x y:Int)(d:Nat)(fr:Fr)(hp:HP)(K:Qh),cg .eql bt (.int k x) (.int k y) d fr hp K=K (af fr d (.bool (decide (x=y)))) hp)/\
  (∀(bt:Bool)(k:IntKind)(x y:Int)(d:Nat)(fr:Fr)(hp:HP)(K:Qh),cg .neq bt (.int k x) (.int k y) d fr hp K=K (af fr d (.bool (decide (¬x=y)))) hp)/\
  (∀(bt:Bool)(k:IntKind)(x y:Int)(d:Nat)(fr:Fr)(hp:HP)(K:Qh),cg .lss bt (.int k x) (.int k y) d fr hp K=K (af fr d (.bool (decide (x<y)))) hp)/\
  (∀(bt:Bool)(k:IntKind)(x y:Int)(d:Nat)(fr:Fr)(hp:HP)(K:Qh),cg .leq bt (.int k x) (.int k y) d fr hp K=K (af fr d (.bool (decide (x<=y)))) hp)/\
  (∀(bt:Bool)(k:IntKind)(x y:Int)(d:Nat)(fr:Fr)(hp:HP)(K:Qh),cg .gtr bt (.int k x) (.int k y) d fr hp K=K (af fr d (.bool (decide (y<x)))) hp)/\
  (∀(bt:Bool)(k:IntKind)(x y:Int)(d:Nat)(fr:Fr)(hp:HP)(K:Qh),cg .geq bt (.int k x) (.int k y) d fr hp K=K (af fr d (.bool (decide (y<=x)))) hp)/\
  (∀(x y:Bool)(d:Nat)(fr:Fr)(hp:HP)(K:Qh),cg .eql true (.bool x) (.bool y) d fr hp K=K (af fr d (.bool (x==y))) hp)/\
  (∀(x y:Bool)(d:Nat)(fr:Fr)(hp:HP)(K:Qh),cg .neq true (.bool x) (.bool y) d fr hp K=K (af fr d (.bool (!(x==y)))) hp)/\
  (∀(b:Bool)(d:Nat)(fr:Fr)(hp:HP)(K:Qh),uP .not (.bool b) d fr hp K=K (af fr d (.bool (!b))) hp)/\
  (∀(k:IntKind)(n:Int)(d:Nat)(fr:Fr)(hp:HP)(K:Qh),uP .neg (.int k n) d fr hp K=K (af fr d (.int k (k.wrap (0-n)))) hp)/\
  (∀(k k':IntKind)(n:Int)(d:Nat)(fr:Fr)(hp:HP)(K:Qh),vI k (.int k' n) d fr hp K=K (af fr d (.int k (k.wrap n))) hp)/\
  (∀(d:Nat)(fr:Fr)(hp:HP)(K:Qh),oN .aa d fr hp K=K (af fr d (.int .i64 0)) hp)/\
  (∀(e:Nat)(xs:List PV)(d:Nat)(fr:Fr)(hp:HP)(K:Qh),oN (.sl e xs) d fr hp K=K (af fr d (.int .i64 xs.length)) hp)/\
  (∀(β o n:Nat)(d:Nat)(fr:Fr)(hp:HP)(K:Qh),oN (.ax β o n) d fr hp K=K (af fr d (.int .i64 n)) hp)/\
  (∀(k k':IntKind)(x y:Int)(d:Nat)(fr:Fr)(hp:HP)(K:Qh),wQ (.int k x) (.int k' y) d fr hp K=K (af fr d (.int k (max x y))) hp)/\
  (∀(k k':IntKind)(x y:Int)(d:Nat)(fr:Fr)(hp:HP)(K:Qh),wP (.int k x) (.int k' y) d fr hp K=K (af fr d (.int k (min x y))) hp)/\
  (∀(a b:PV)(d:Nat)(fr:Fr)(hp:HP)(K:Qh),sh (.bool true) a b d fr hp K=K (af fr d a) hp)/\
  (∀(a b:PV)(d:Nat)(fr:Fr)(hp:HP)(K:Qh),sh (.bool false) a b d fr hp K=K (af fr d b) hp)/\
  (∀(off β i o:Nat)(d:Nat)(fr:Fr)(hp:HP)(K:Qh),qR off (.mp β i o) d fr hp K=K (af fr d (.mp β i (o+off))) hp)/\
  (∀(n:Nat)(ag:Bool)(β i o:Nat)(d:Nat)(fr:Fr)(hp:HP)(K:Qh),kT n ag (.mp β i o) d fr hp K=kB (hp β) n ag i o d fr hp K)/\
  (∀(c:PV)(cs:List PV)(d:Nat)(fr:Fr)(hp:HP)(K:Qh),kT 1 false (.pt (c::cs)) d fr hp K=K (af fr d c) hp)/\
  (∀(n:Nat)(β i o:Nat)(v:PV)(fr:Fr)(hp:HP)(K:Qh),ph n (.mp β i o) v fr hp K=stM (cf hp v.refs β) β n i o (aK hp v) fr (cf hp v.refs) K)/\
  (∀(ps:List PV)(p:PV)(d:Nat)(fr:Fr)(hp:HP)(K:Qh),kJ (.au (p::ps)) 0 d fr hp K=(p.aE=true/\K (af fr d p) hp))/\
  (∀(ps:List PV)(p q:PV)(d:Nat)(fr:Fr)(hp:HP)(K:Qh),kJ (.au (p::q::ps)) 1 d fr hp K=(q.aE=true/\K (af fr d q) hp))/\
  (∀(ps:List PV)(p q r:PV)(d:Nat)(fr:Fr)(hp:HP)(K:Qh),kJ (.au (p::q::r::ps)) 2 d fr hp K=(r.aE=true/\K (af fr d r) hp))/\
  (∀(s:Nat)(Rr:PV->Prop)(fr:Fr)(hp:HP),gf [.t s] Rr fr hp=yh Rr (aK hp (fr s)))/\
  (∀(e:Nat)(xs:List PV),jE aF (.sl e xs)=some (e,xs))/\
  (∀(hp:HP),cf hp []=hp)/\
  (∀(fr:Fr)(r:PV),qM fr none r=fr)/\(∀(fr:Fr)(d:Nat)(r:PV),qM fr (some d) r=af fr d r)/\
  (∀(β:Nat)(fr:Fr)(i:Nat),cK β fr i=bZ β (fr i)):=by
 refine⟨?_,?_,?_,?_,?_,?_,?_,?_,?_,?_,?_,?_,?_,?_,?_,?_,?_,?_,?_,?_,?_,?_,?_,?_,?_,?_,?_,?_,?_,?_,?_,?_,?_,?_⟩<;>intros
 all_goals first
  |rfl
  |(simp[cg,sh,kJ,kT,eR,PV.cells,ph,stM];done)
  |(simp[cg,sh,kJ,kT,eR,PV.cells,ph,stM];try rfl)
  |skip
end Go.FW
namespace Go.FW
open Go
variable {C : Ctx} {ρ : Nat -> Option Nat} {fr : Fr} {hp : HP} {w : World} {K R : Qh}
theorem Rt(i β e ty:Nat)(he:0<e)(hi:fr i= .aa)(hB:cd β=false:=by decide):Wk fr hp (af (cK β fr) i (.ms β 0)) (Qz hp β ⟨e,ty,[],false⟩):=by
 rintro C tmps w ⟨ρ,hs⟩;have hr:=hs.rebind (w':=w) β none ⟨e,ty,[],false⟩ hB (Ext.refl _ _) (by simp) he (by simp) (by simp) (by simp);refine⟨_,hr.sz,hr.ext,hr.ij,hr.own,hr.inj,fun j=>?_⟩;unfold af;split
 ·rename_i hj;subst hj;have:=hs.fh j;rw[hi]at this;have e:=Qt.wS this;exact⟨_,by simp[Qz];rfl,by simp,.inl ⟨gW _ _ _,e,rfl,rfl⟩⟩
 ·exact hr.fh j
end Go.FW
namespace Go.FW
open Go
variable {C : Ctx} {ρ : Nat -> Option Nat} {fr : Fr} {hp : HP} {w : World} {K R : Qh}
theorem afx(fr:Fr)(a:Nat)(v w:PV):af (af fr a v) a w=af fr a w:=by funext i;unfold af;split<;>rfl
theorem Hv{α:Type}{f:α->PV}{e d:Nat}{xs:List α}{k:IntKind}{H:Int}(h4:0<=H)(h5:H<=xs.length):
  iM e (.sl e (xs.map f)) none (some (.int k H)) none d fr hp K=K (af fr d (.sl e ((xs.take H.toNat).map f))) hp:=by
 rw[ald h4 (by simpa using h5)];simp
theorem abQ{α:Type}{f:α->PV}{e d:Nat}{xs:List α}{k:IntKind}{L:Int}(h4:0<=L)(h5:L<=xs.length):
  iM e (.sl e (xs.map f)) (some (.int k L)) none none d fr hp K=K (af fr d (.sl e ((xs.drop L.toNat).map f))) hp:=by
 rw[ale h4 (by simpa using h5)];simp
theorem ZF{α:Type}{f:α->PV}{e d:Nat}{xs:List α}{k k':IntKind}{L H:Int}(h3:0<=L)(h4:L<=H)(h5:H<=xs.length):
  iM e (.sl e (xs.map f)) (some (.int k L)) (some (.int k' H)) none d fr hp K=K (af fr d (.sl e (((xs.take H.toNat).drop L.toNat).map f))) hp:=by
 rw[Gw (L:=L) (H:=H) rfl rfl h3 h4 (by simpa using h5)];simp
theorem afy(hp:HP)(e:Nat)(xs:List PV):aK hp (.sl e xs)= .sl e xs:=rfl
theorem adG(hp:HP)(k:IntKind)(n:Int):aK hp (.int k n)= .int k n:=rfl
theorem abR(hp:HP)(b:Bool):aK hp (.bool b)= .bool b:=rfl
theorem adH(hp:HP)(cs:List PV):aK hp (.agg cs)= .agg cs:=rfl
theorem adI(hp:HP):aK hp .aa= .aa:=rfl
theorem P8(hp:HP)(β n:Nat)(e ty:Nat)(xs:List PV)(fz:Bool)(h:hp β=some ⟨e,ty,xs,fz⟩)(hB:cd β=false:=by decide):aK hp (.ms β n)= .sl e (xs.take n):=by simp[aK,cE,h,vA hB]
theorem afz(e:Nat)(xs:List PV):(PV.sl e xs).refs=[]:=rfl
theorem adJ(k:IntKind)(n:Int):(PV.int k n).refs=[]:=rfl
theorem abS(b:Bool):(PV.bool b).refs=[]:=rfl
theorem adK(cs:List PV):(PV.agg cs).refs=[]:=rfl
theorem adL:PV.aa.refs=[]:=rfl
theorem adM(β e:Nat)(xs:List PV):bZ β (.sl e xs)= .sl e xs:=rfl
theorem abT(β:Nat)(k:IntKind)(n:Int):bZ β (.int k n)= .int k n:=rfl
theorem Z'(β:Nat)(b:Bool):bZ β (.bool b)= .bool b:=rfl
theorem abU(β:Nat)(cs:List PV):bZ β (.agg cs)= .agg cs:=rfl
theorem abV(β:Nat):bZ β .aa= .aa:=rfl
theorem OX(β γ o n:Nat):bZ β (.ax γ o n)=if γ=β then .undef else .ax γ o n:=by
 by_cases h:γ=β
 ·subst h;simp[bZ,PV.refs]
 ·simp[bZ,PV.refs,h];intro h';exact absurd h'.symm h
theorem adN(β γ o n:Nat):bZ β (.rb γ o n)=if γ=β then .undef else .rb γ o n:=by
 by_cases h:γ=β
 ·subst h;simp[bZ,PV.refs]
 ·simp[bZ,PV.refs,h];intro h';exact absurd h'.symm h
theorem OY(β γ i o:Nat):bZ β (.mp γ i o)=if γ=β then .undef else .mp γ i o:=by
 by_cases h:γ=β
 ·subst h;simp[bZ,PV.refs]
 ·simp[bZ,PV.refs,h];intro h';exact absurd h'.symm h
theorem alf:
  (∀(fr:Fr)(a:Nat)(v:PV)(b:Nat),af fr a v b=if b=a then v else fr b)/\
  (∀(h:HP)(a:Nat)(v:HB)(b:Nat),Qz h a v b=if b=a then some v else h b)/\
  (∀(β:Nat),aF β=none)/\
  (∀(hp:HP)(e:Nat)(xs:List PV),aK hp (.sl e xs)= .sl e xs)/\
  (∀(hp:HP)(k:IntKind)(n:Int),aK hp (.int k n)= .int k n)/\
  (∀(hp:HP)(b:Bool),aK hp (.bool b)= .bool b)/\
  (∀(hp:HP)(cs:List PV),aK hp (.agg cs)= .agg cs)/\
  (∀(hp:HP),aK hp .aa= .aa)/\
  (∀(e:Nat)(xs:List PV),(PV.sl e xs).refs=[])/\
  (∀(k:IntKind)(n:Int),(PV.int k n).refs=[])/\
  (∀(b:Bool),(PV.bool b).refs=[])/\
  (∀(cs:List PV),(PV.agg cs).refs=[])/\
  (PV.aa.refs=[])/\
  (∀(β o n:Nat),(PV.ax β o n).refs=[β])/\
  (∀(β i o:Nat),(PV.mp β i o).refs=[β])/\
  (∀(β e:Nat)(xs:List PV),bZ β (.sl e xs)= .sl e xs)/\
  (∀(β:Nat)(k:IntKind)(n:Int),bZ β (.int k n)= .int k n)/\
  (∀(β:Nat)(b:Bool),bZ β (.bool b)= .bool b)/\
  (∀(β:Nat)(cs:List PV),bZ β (.agg cs)= .agg cs)/\
  (∀(β:Nat),bZ β .aa= .aa)/\
  (∀(β γ o n:Nat),bZ β (.ax γ o n)=if γ=β then .undef else .ax γ o n)/\
  (∀(β γ i o:Nat),bZ β (.mp γ i o)=if γ=β then .undef else .mp γ i o)/\
  (∀(β γ o n:Nat),bZ β (.rb γ o n)=if γ=β then .undef else .rb γ o n)/\
  (∀(β o n:Nat),(PV.rb β o n).refs=[β])/\
  (∀(o:cB)(fr:Fr)(hp:HP)(K:Qh),jF o fr hp K=match o.dst with|some d=>K (af fr d (.au [])) hp|none=>K fr hp)/\
  (∀(f:aP->PV),Option.map f none=none)/\(∀(f:aP->PV)(x:aP),Option.map f (some x)=some (f x))/\
  (∀(k:IntKind)(n:Int),(PV.int k n).cells=[.int k n])/\
  (∀(b:Bool),(PV.bool b).cells=[.bool b])/\
  (∀(e:Nat)(xs:List PV),(PV.sl e xs).cells=[.sl e xs])/\
  (∀(cs:List PV),(PV.agg cs).cells=cs):=by
 refine⟨fun _ _ _ _=>rfl,fun _ _ _ _=>rfl,fun _=>rfl,afy,adG,abR,adH,adI,afz,adJ,abS,adK,adL,fun _ _ _=>rfl,fun _ _ _=>rfl,adM,abT,Z',abU,abV,OX,OY,adN,fun _ _ _=>rfl,fun _ _ _ _=>rfl,fun _=>rfl,fun _ _=>rfl,fun _ _=>rfl,fun _=>rfl,fun _ _=>rfl,fun _=>rfl⟩
theorem alg{p:Nat->Prop}(h:∃m,p m):∃m,p m/\∀k,p k->m<=k:=by
 obtain⟨m,hm⟩:=h;induction m using Nat.strongRecOn with
 |ind m ih=>
  by_cases hk:∃k,k<m/\p k
  ·obtain⟨k,h1,h2⟩:=hk;exact ih k h1 h2
  ·exact⟨m,hm,fun k en=>Nat.le_of_not_lt fun ar=>hk ⟨k,ar,en⟩⟩
def xR(I:Nat->Qh)(n:Nat):Qh:=fun ay an=>∃bI aF,Wk ay an bI aF/\∃m,m<n/\I m bI aF
theorem nM{I:Nat->Qh}{n m:Nat}(hl:m<n)(h:I m fr hp):xR I n fr hp:=⟨fr,hp,Wk.refl _ _,m,hl,h⟩
theorem Ib{I:Nat->Qh}{n m:Nat}{ay:Fr}{an:HP}(hl:m<n)(hw:Wk fr hp ay an)(h:I m ay an):xR I n fr hp:=⟨ay,an,hw,m,hl,h⟩
theorem zT{sk:List It}{x:SC}(I:Nat->Qh)(m0:Nat){bI:Fr}{aF:HP}(hw:Wk fr hp bI aF)(h0:I m0 bI aF)(h:∀m fr hp,I m fr hp->vc C R (.c x:: .el (xR I m)::sk) fr hp):vc C R (.c (.loop x)::sk) fr hp:=by
 refine adA (fun fr hp=>∃m,I m fr hp) (fun fr hp=>Classical.epsilon fun m=>I m fr hp/\∀k,I k fr hp->m<=k) hw ⟨m0,h0⟩ ?_;intro fr hp hI;have key:∀fr hp,(∃m,I m fr hp)->I (Classical.epsilon fun m=>I m fr hp/\∀k,I k fr hp->m<=k) fr hp/\∀k,I k fr hp->(Classical.epsilon fun m=>I m fr hp/\∀k,I k fr hp->m<=k)<=k:=fun fr hp hI=>Classical.epsilon_spec (alg hI);have e:xZ (fun fr hp=>∃m,I m fr hp) (fun fr hp=>Classical.epsilon fun m=>I m fr hp/\∀k,I k fr hp->m<=k) (Classical.epsilon fun m=>I m fr hp/\∀k,I k fr hp->m<=k)=xR I (Classical.epsilon fun m=>I m fr hp/\∀k,I k fr hp->m<=k):=by
  funext ay an;apply propext;constructor
  ·rintro⟨bI,aF,h1,h2,h3⟩;exact⟨bI,aF,h1,_,h3,(key bI aF h2).1⟩
  ·rintro⟨bI,aF,h1,m,h2,h3⟩;exact⟨bI,aF,h1,⟨m,h3⟩,KcG ((key bI aF ⟨m,h3⟩).2 m h3) h2⟩
 rw[e];exact h _ fr hp (key fr hp hI).1
theorem qH{sk:List It}{x:SC}(I:Nat->Qh)(m0:Nat)(h0:I m0 fr hp)(h:∀m fr hp,I m fr hp->vc C R (.c x:: .el (xR I m)::sk) fr hp):vc C R (.c (.loop x)::sk) fr hp:=
 zT I m0 (Wk.refl _ _) h0 h
theorem aiz{α:Type}{e:Nat}{f:α->PV}:PV.le .aa (.sl e (([]:List α).map f)):=trivial
theorem Qa{P:Program}(hP:C.P=P){g:FuncId}{first cap args dk:List PV}{pr:Bool}{d:Option Nat}{r:PV}(h:Qc P g dk (· =r))(dT:(first++args++cap).map (aK hp)=dk)(jb:dk.all PV.aE=true)(hr:(first++args++cap).flatMap PV.refs=[])
  (hK:K (qM fr d r) hp):mQ C pr (.fn g first cap) args d fr hp K:=by
 refine iQ hP h dT jb ?_;rw[hr];exact hK
theorem rI{P:Program}(hP:C.P=P){g:FuncId}{first cap args dk:List PV}{pr:Bool}{d:Option Nat}{Rr:PV->Prop}(h:Qc P g dk Rr)(dT:(first++args++cap).map (aK hp)=dk)(jb:dk.all PV.aE=true)(hr:(first++args++cap).flatMap PV.refs=[])
  (hK:∀r,Rr r->K (qM fr d r) hp):mQ C pr (.fn g first cap) args d fr hp K:=by
 refine Vd hP h dT jb fun r h=>?_;rw[hr];exact hK r h
theorem afA{d β n ty:Nat}{xs ys:List PV}(hb:hp β=some ⟨1,ty,xs,false⟩)(hn:n=xs.length):
  tS 1 (.ms β n) (.sl 1 ys) d fr hp K=K (af fr d (.int .i64 (min (ys.length:Int) n))) (Qz hp β ⟨1,ty,ys.take n++xs.drop ys.length,false⟩):=by
 simp[tS,jE,hb,hn]
theorem Ru{by_ ty d:Nat}{kz k k':IntKind}{nz:Int}{L Cc:Int}(h1:0<=L)(h2:L<=Cc)(h3:by_*Cc<=281474976710656)(h4:Cc<=9223372036854775807):
  nE 1 by_ ty (.int kz nz) (.int k L) (.int k' Cc) d fr hp K=K (af (cK d fr) d (.ms d L.toNat)) (Qz hp d ⟨1,ty,List.replicate L.toNat (.int kz nz),false⟩):=by
 exact Cr (e:=1) (by omega) rfl h1 h2 h3 h4
theorem Rv{ty β i:Nat}{xs:List PV}{k:IntKind}{n:Int}(h:i<xs.length):stM (some ⟨1,ty,xs,false⟩) β 1 i 0 (.int k n) fr hp K=K fr (Qz hp β ⟨1,ty,xs.set i (.int k n),false⟩):=
 Dj h rfl rfl
theorem abW(h:HP)(a:Nat)(v w:HB):Qz (Qz h a v) a w=Qz h a w:=by funext i;unfold Qz;split<;>rfl
theorem aiA{ty d:Nat}{k:IntKind}{n:Int}:og 1 ty [.int k n] d fr hp K=K (af (cK d fr) d (.ms d 1)) (Qz hp d ⟨1,ty,[.int k n],false⟩):=by simp[og,oO,lT,EH,Iz,aK,cE,PV.refs,PV.aE,PV.cells];rfl
theorem Ei{β n e ty:Nat}{xs:List PV}{fz:Bool}{r:PV}(hb:hp β=some ⟨e,ty,xs,fz⟩)(h:PV.sl e (xs.take n)=r)(hB:cd β=false:=by decide):yh (· =r) (aK hp (.ms β n)):=by rw[P8 hp β n e ty xs fz hb hB];exact Qd h (by rw[<-h];rfl)
theorem Ic{e by_ ty ty' d β γ n:Nat}{xs:List PV}{y:PV}{fz:Bool}(hb:hp β=some ⟨e,ty,xs,false⟩)(hy:hp γ=some ⟨e,ty',[y],fz⟩)(h0:0<e)(hn:n=xs.length)(h1:(n+1)*by_<=140737488355328)(h2:n+1<=9223372036854775807)(hB:cd β=false:=by decide):
  iU e by_ ty (.ms β n) (.ms γ 1) d fr hp K=K (af (cK β fr) d (.ms β (n+1))) (Qz hp β ⟨e,ty,xs++[y],false⟩):=by
 subst hn;rw[G' (ys:=[y]) (xs:=xs) (by simp[jE,hy]) hb h0 (Kac _) (by simpa using h1) (by simpa using h2) hB];simp
theorem Sx(n:Nat):IntKind.u16.wrap (n:Int)=((n%65536:Nat):Int):=by simp only[IntKind.wrap,IntKind.bits,IntKind.signed];simp
theorem Gl{bt:Bool}{k k':IntKind}{x y:Int}{d:Nat}(h:0<=y):cg .shr bt (.int k x) (.int k' y) d fr hp K=K (af fr d (.int k (x.fdiv (2^(min y.toNat k.bits))))) hp:=by simp[cg,h]
theorem Ve{bt:Bool}{k':IntKind}{n d:Nat}:cg .shr bt (.int .u64 (n:Int)) (.int k' 16) d fr hp K=K (af fr d (.int .u64 ((n/65536:Nat):Int))) hp:=by
 rw[Gl (by omega)];have:min (16:Int).toNat IntKind.u64.bits=16:=by decide
 rw[this,KcQ _ (by omega)];simp
theorem abX{bt:Bool}{k':IntKind}{n d:Nat}:cg .shr bt (.int .u32 (n:Int)) (.int k' 16) d fr hp K=K (af fr d (.int .u32 ((n/65536:Nat):Int))) hp:=by
 rw[Gl (by omega)];have:min (16:Int).toNat IntKind.u32.bits=16:=by decide
 rw[this,KcQ _ (by omega)];simp
end Go.FW
namespace Go.FW
def val:List Nat->Nat
 | []=>0
 |x::xs=>x+65536*val xs
def Qs(l:List Nat):Prop:=∀x∈l,x<65536
def ah(n:Nat):List Nat:=if h:n=0 then []else n%65536::ah (n/65536)
termination_by n
decreasing_by omega
def nl(n:Nat):Nat:=(ah n).length
theorem nO:Qs []:=by simp[Qs]
theorem iq{x:Nat}{l:List Nat}:Qs (x::l)↔x<65536/\Qs l:=by simp[Qs]
theorem nJ{l m:List Nat}:Qs (l++m)↔Qs l/\Qs m:=by
 simp only[Qs,KaT];constructor
 ·intro h;exact⟨fun x hx=>h x (.inl hx),fun x hx=>h x (.inr hx)⟩
 ·rintro⟨h1,h2⟩ x (hx|hx)
  ·exact h1 x hx
  ·exact h2 x hx
theorem xk{l:List Nat}(h:Qs l)(n:Nat):Qs (l.take n):=fun x hx=>h x (Kbc hx)
theorem zI{l:List Nat}(h:Qs l)(n:Nat):Qs (l.drop n):=fun x hx=>h x (Kbx hx)
theorem eM{l:List Nat}(h:Qs l){i:Nat}(hi:i<l.length):l[i]<65536:=h _ (Kag hi)
theorem fQ:ah 0=[]:=by rw[ah];simp
theorem tH{n:Nat}(h:n≠0):ah n=n%65536::ah (n/65536):=by rw[ah];simp[h]
theorem Qp(n:Nat):Qs (ah n):=by
 induction n using ah.induct with
 |case1=>rw[fQ];exact nO
 |case2 n h ih=>rw[tH h,iq];exact⟨by omega,ih⟩
theorem Q7(n:Nat):val (ah n)=n:=by
 induction n using ah.induct with
 |case1=>rw[fQ];rfl
 |case2 n h ih=>rw[tH h,val,ih];omega
theorem kE{n:Nat}:ah n=[]↔n=0:=by
 constructor
 ·intro h;have:=Q7 n;rw[h]at this;exact this.symm
 ·rintro rfl;exact fQ
theorem xQ:nl 0=0:=by simp[nl,fQ]
theorem xl{n:Nat}:nl n=0↔n=0:=by rw[nl,Kas,kE]
theorem aiB{n:Nat}(h:n≠0):nl n=nl (n/65536)+1:=by simp[nl,tH h]
theorem mH(l m:List Nat):val (l++m)=val l+65536^l.length*val m:=by
 induction l with
 |nil=>simp[val]
 |cons x l ih=>simp only[KaQ,val,ih,KaW,KbB];rw[Ka1,<-Nat.mul_assoc,KaU 65536 (65536^_)];omega
theorem oK{l:List Nat}(h:Qs l):val l<65536^l.length:=by
 induction l with
 |nil=>simp[val]
 |cons x l ih=>rw[iq]at h;have:=ih h.2;simp only[val,KaW,KbB];omega
theorem Vf(n:Nat):val (List.replicate n 0)=0:=by
 induction n with
 |zero=>rfl
 |succ n ih=>simp[Kbq,val,ih]
theorem Aq{l:List Nat}(h:Qs l)(hl:l.getLast? ≠some 0):ah (val l)=l:=by
 induction l with
 |nil=>simp[val,fQ]
 | cons x l ih=>
  rw[iq]at h;have WI:l.getLast? ≠some 0:=by intro hh;apply hl;rw[KcH,hh];rfl
  have aO:val (x::l)≠0:=by
   simp only[val];intro h0;have h1:val l=0:=by omega
   have:=ih h.2 WI;rw[h1,fQ]at this;subst this;simp at hl;omega
  rw[tH aO];simp only[val];rw[show(x+65536*val l)%65536=x by omega,show(x+65536*val l)/65536=val l by omega,ih h.2 WI]
theorem Af(n:Nat):(ah n).getLast? ≠some 0:=by
 induction n using ah.induct with
 |case1=>simp[fQ]
 | case2 n h ih=>
  rw[tH h,KcH];cases hd:(ah (n/65536)).getLast? with
  |none=>
   have:n/65536=0:=by rw[List.getLast?_eq_none_iff,kE]at hd;exact hd
   simp;omega
  |some y=>rw[hd]at ih;simpa using ih
def cut(l:List Nat):Nat->List Nat
 |0=>[]
 |n+1=>if l[n]? =some 0 then cut l n else l.take (n+1)
theorem Rw{l:List Nat}(h:Qs l):∀n,n<=l.length->cut l n=ah (val (l.take n))
 |0,_=>by simp[cut,val,fQ]
 | n+1,hn=>by
  have e:l.take (n+1)=l.take n++[l[n]]:=by rw[Kah (by omega)]
  unfold cut;split
  ·rename_i hz;rw[Rw h n (by omega),e,mH];rw[Kam (by omega)]at hz;have sX:l[n]=0:=by simpa using hz
   simp[val,sX]
  ·rename_i hz;rw[Aq (xk h _)];rw[e,List.getLast?_concat];intro h0;apply hz;rw[Kam (by omega)];exact h0
theorem Ar{l:List Nat}(h:Qs l):cut l l.length=ah (val l):=by rw[Rw h _ (Kac _),Kar]
theorem cm{l:List Nat}(h:Qs l):nl (val l)<=l.length:=by
 rw[nl,<-Ar h];have:∀n,(cut l n).length<=n:=by
  intro n;induction n with
  |zero=>simp[cut]
  |succ n ih=>
   unfold cut;split
   ·omega
   ·simp;omega
 have h1:=this l.length;exact h1
theorem mR{n k:Nat}:nl n<=k↔n<65536^k:=by
 induction k generalizing n with
 |zero=>simp[xl]
 | succ k ih=>
  by_cases h:n=0
  ·subst h;simp[xQ];exact KbN (by omega)
  ·rw[aiB h,Nat.add_le_add_iff_right,ih,KbB,Kbn (by omega)]
theorem fS{m n:Nat}(h:m<=n):nl m<=nl n:=mR.2 (KcG h (mR.1 (Kac _)))
theorem vD(m n:Nat):nl (m+n)<=max (nl m) (nl n)+1:=by rw[mR,KbB];have h1:m<65536^(max (nl m) (nl n)):=mR.1 (by omega);have h2:n<65536^(max (nl m) (nl n)):=mR.1 (by omega);omega
theorem gV(m n:Nat):nl (m*n)<=nl m+nl n:=by rw[mR,Nat.pow_add];exact Nat.mul_lt_mul'' (mR.1 (Kac _)) (mR.1 (Kac _))
theorem rU{n:Nat}(h:n<18446744073709551616):nl n<=4:=mR.2 (by simpa using h)
theorem Dk{n:Nat}:nl n<=4↔n<18446744073709551616:=by rw[mR]
theorem rY:ah 1=[1]:=by rw[tH (by omega)];simp[fQ]
open Go
variable {C : Ctx} {ρ : Nat -> Option Nat} {fr : Fr} {hp : HP} {w : World} {K R : Qh}
abbrev cn(l:List Nat):List PV:=l.map fun(x:Nat)=>.int .u16 x
abbrev iV(l:List Int):List PV:=l.map fun(x:Int)=>.int .i64 x
theorem aiC(a b:Nat):(a:Int)+(b:Int)=((a+b:Nat):Int):=rfl
theorem afB(a:Nat):(a:Int)+1=((a+1:Nat):Int):=rfl
theorem afC(a:Nat):(a:Int)+2=((a+2:Nat):Int):=rfl
theorem afD(a:Nat):(a:Int)+3=((a+3:Nat):Int):=rfl
theorem ah5(a b:Nat):(a:Int)*(b:Int)=((a*b:Nat):Int):=rfl
theorem afE{α:Type}{f:α->PV}{e d:Nat}{k:IntKind}{i:Nat}{xs:List α}(h:i<xs.length):
  dR e (.sl e (xs.map f)) (.int k (i:Int)) d fr hp K=K (af fr d (.pt (f (xs[i]'h)).cells)) hp:=by
 rw[xP (by omega) (by omega)];rfl
theorem afF{e d β o n i:Nat}{k:IntKind}(h:i<n)(he:(hp β).map (·.e)=some e):dR e (.ax β o n) (.int k (i:Int)) d fr hp K=K (af fr d (.mp β (o+i) 0)) hp:=by rw[EB (by omega) (by omega) he];rfl
theorem ah6{α:Type}{f:α->PV}{e d:Nat}{xs:List α}{k:IntKind}{n:Nat}(h5:n<=xs.length):
  iM e (.sl e (xs.map f)) none (some (.int k (n:Int))) none d fr hp K=K (af fr d (.sl e ((xs.take n).map f))) hp:=by
 rw[Hv (by omega) (by omega)];rfl
theorem ah7{α:Type}{f:α->PV}{e d:Nat}{xs:List α}{k:IntKind}{n:Nat}(h5:n<=xs.length):
  iM e (.sl e (xs.map f)) (some (.int k (n:Int))) none none d fr hp K=K (af fr d (.sl e ((xs.drop n).map f))) hp:=by
 rw[abQ (by omega) (by omega)];rfl
theorem adO{α:Type}{f:α->PV}{e d:Nat}{xs:List α}{k k':IntKind}{m n:Nat}(h4:m<=n)(h5:n<=xs.length):
  iM e (.sl e (xs.map f)) (some (.int k (m:Int))) (some (.int k' (n:Int))) none d fr hp K=K (af fr d (.sl e (((xs.take n).drop m).map f))) hp:=by
 rw[ZF (by omega) (by omega) (by omega)];rfl
theorem ah8{by_ ty d:Nat}{k k':IntKind}{n c:Nat}(h2:n<=c)(h3:by_*c<=281474976710656)(h4:c<=9223372036854775807):
  nE 1 by_ ty (.int .u16 0) (.int k (n:Int)) (.int k' (c:Int)) d fr hp K=K (af (cK d fr) d (.ms d n)) (Qz hp d ⟨1,ty,cn (List.replicate n 0),false⟩):=by
 rw[Ru (by omega) (by omega) (by omega) (by omega)];simp[cn]
theorem ah9{ty i d:Nat}{fz:Bool}{l:List Nat}(h:i<l.length):kB (some ⟨1,ty,cn l,fz⟩) 1 false i 0 d fr hp K=K (af fr d (.int .u16 (l[i]'h:Nat))) hp:=by rw[tJ (by simpa using h) (by omega) (by simp)];simp[eR,PV.cells]
theorem aia{ty i d:Nat}{fz:Bool}{l:List Int}(h:i<l.length):kB (some ⟨1,ty,iV l,fz⟩) 1 false i 0 d fr hp K=K (af fr d (.int .i64 (l[i]'h))) hp:=by rw[tJ (by simpa using h) (by omega) (by simp)];simp[eR,PV.cells]
theorem Rn{ty β i v:Nat}{l:List Nat}(h:i<l.length):stM (some ⟨1,ty,cn l,false⟩) β 1 i 0 (.int .u16 (v:Int)) fr hp K=K fr (Qz hp β ⟨1,ty,cn (l.set i v),false⟩):=by rw[Rv (by simpa using h)];simp[cn,Kda]
theorem Ro{ty β i:Nat}{v:Int}{l:List Int}(h:i<l.length):stM (some ⟨1,ty,iV l,false⟩) β 1 i 0 (.int .i64 v) fr hp K=K fr (Qz hp β ⟨1,ty,iV (l.set i v),false⟩):=by rw[Rv (by simpa using h)];simp[iV,Kda]
theorem adP{β n ty:Nat}{l:List Nat}{fz:Bool}(h:hp β=some ⟨1,ty,cn l,fz⟩)(hn:n=l.length)(hB:cd β=false:=by decide):aK hp (.ms β n)= .sl 1 (cn l):=by rw[P8 hp β n _ _ _ _ h hB,Kae (by simp[hn])]
theorem vh{P:Program}(hP:C.P=P){g:FuncId}{first cap args dk:List PV}{pr:Bool}{d:Option Nat}{r:PV}(h:Qc P g dk (· =r))(dT:(first++args++cap).map (aK hp)=dk)(jb:dk.all PV.aE=true)
  (hK:∀an,K (qM fr d r) an):mQ C pr (.fn g first cap) args d fr hp K:=iQ hP h dT jb (hK _)
end Go.FW
namespace Go.FW
def g9(x y:Nat):Int:=if x<y then -1 else if y<x then 1 else 0
theorem IG{x y:Nat}(h:x<y):g9 x y= -1:=by simp[g9,h]
theorem IH{x y:Nat}(h:y<x):g9 x y=1:=by simp[g9,h];omega
theorem P9{x y:Nat}(h:x=y):g9 x y=0:=by simp[g9,h]
theorem OZ{x y:Nat}(h:nl x<nl y):x<y:=by
 rcases Kc9 x y with h1|h1
 ·exact h1
 ·have:=fS h1;omega
theorem pB(l:List Nat)(k:Nat)(hk:k<=l.length):val l=val (l.take k)+65536^k*val (l.drop k):=by have:=mH (l.take k) (l.drop k);rw[Kbo,KaH,KbY hk]at this;exact this
theorem tj{l:List Nat}(h:Qs l)(k:Nat)(hk:k<=l.length):val (l.take k)<65536^k:=by
 have:=oK (xk h k)
 rwa[KaH,KbY hk]at this
theorem lS{l:List Nat}{k:Nat}(hk:k<l.length):val (l.drop k)=l[k]+65536*val (l.drop (k+1)):=by rw[Kaz hk,val]
theorem ZG{a b:List Nat}(ha:Qs a){k:Nat}(Fy:k<=a.length)(Bw:k<=b.length)(h:val (a.drop k)<val (b.drop k)):val a<val b:=by rw[pB a k Fy,pB b k Bw];have h1:=tj ha k Fy;have h2:65536^k*(val (a.drop k)+1)<=65536^k*val (b.drop k):=Ka7 _ h;rw[Ka1]at h2;omega
theorem Vg{a b:List Nat}(ha:Qs a){k:Nat}(Fy:k<a.length)(Bw:k<b.length)(h:a[k]<b[k])(he:val (a.drop (k+1))=val (b.drop (k+1))):val a<val b:=by refine ZG ha (k:=k) (by omega) (by omega) ?_;rw[lS Fy,lS Bw,he];omega
def jr:List Nat->List Nat->Nat->List Nat
 | [],_,c=>if c=0 then []else [c]
 |x::xs,ys,c=>(c+x+ys.headD 0)%65536::jr xs ys.tail ((c+x+ys.headD 0)/65536)
theorem zU(l:List Nat):val l=l.headD 0+65536*val l.tail:=by cases l<;>simp[val]
theorem O0:∀(a b:List Nat)(c:Nat),b.length<=a.length->val (jr a b c)=val a+val b+c
 | [],b,c,h=>by have:b=[]:=Kas.1 (by simpa using h);subst this;unfold jr;split<;>simp[val];omega
 |x::xs,b,c,h=>by rw[jr,val,O0 xs b.tail _ (by simp at h ⊢;omega),val,zU b];omega
theorem Ub:∀(a b:List Nat)(c:Nat),c<65536->Qs a->Qs b->b.length<=a.length->Qs (jr a b c)
 | [],b,c,hc,_,_,_=>by unfold jr;split<;>simp[Qs];exact hc
 |x::xs,b,c,hc,ha,hb,h=>by
  rw[iq]at ha;have nk:b.headD 0<65536:=by cases b with|nil=>simp|cons y ys=>exact hb _ (by simp)
  rw[jr,iq];exact⟨by omega,Ub xs b.tail _ (by omega) ha.2 (fun x hx=>hb x (List.mem_of_mem_tail hx)) (by simp at h ⊢;omega)⟩
theorem Vh:∀(a b:List Nat)(c:Nat),a.getLast? ≠some 0->(jr a b c).getLast? ≠some 0
 | [],b,c,_=>by unfold jr;split<;>simp;assumption
 | x::xs,b,c,h=>by
  rw[jr,KcH];cases xs with
  |nil=>
   simp only[List.getLast?_singleton,ne_eq,KaB]at h;simp only[jr];generalize b.headD 0=y;split
   ·rename_i h0;simp;omega
   ·rename_i h0;simp;omega
  |cons y ys=>
   have ih:=Vh (y::ys) b.tail ((c+x+b.headD 0)/65536) (by rw[KcH]at h;simpa[KcH]using h);cases hl:(jr (y::ys) b.tail ((c+x+b.headD 0)/65536)).getLast? with
   |none=>rw[List.getLast?_eq_none_iff]at hl;simp[jr]at hl
   |some z=>rw[hl]at ih;simpa using ih
theorem adg{x y:Nat}(h:nl y<=nl x):jr (ah x) (ah y) 0=ah (x+y):=by have h1:=O0 (ah x) (ah y) 0 h;rw[Q7,Q7,KaS]at h1;rw[<-h1,Aq (Ub _ _ _ (by omega) (Qp x) (Qp y) h) (Vh _ _ _ (Af x))]
def lY:List Nat->List Nat->Nat->List Nat
 | [],_,_=>[]
 |x::xs,ys,c=>(x+65536-c-ys.headD 0)%65536::lY xs ys.tail (if x<c+ys.headD 0 then 1 else 0)
theorem Uc:∀(a b:List Nat)(c:Nat),Qs (lY a b c)
 | [],_,_=>nO
 |x::xs,b,c=>by rw[lY,iq];exact⟨by omega,Uc xs _ _⟩
theorem Ti:∀(a b:List Nat)(c:Nat),(lY a b c).length=a.length
 | [],_,_=>rfl
 |x::xs,b,c=>by simp[lY,Ti xs]
theorem O1:∀(a b:List Nat)(c:Nat),c<=1->Qs a->Qs b->b.length<=a.length->val b+c<=val a->val (lY a b c)+val b+c=val a
 | [],b,c,_,_,_,h,h2=>by have:b=[]:=Kas.1 (by simpa using h);subst this;simp[val]at h2 ⊢;simp[lY,val,h2]
 |x::xs,b,c,hc,ha,hb,h,h2=>by
  rw[iq]at ha;have nk:b.headD 0<65536:=by cases b with|nil=>simp|cons y ys=>exact hb _ (by simp)
  rw[val,zU b]at h2;rw[lY,val,val,zU b];have ih:=O1 xs b.tail (if x<c+b.headD 0 then 1 else 0) (by split<;>omega) ha.2 (fun x hx=>hb x (List.mem_of_mem_tail hx)) (by simp at h ⊢;omega) (by generalize b.headD 0=y at *;split<;>omega);generalize b.headD 0=y at *
  split at ih
  ·rename_i h0;rw[if_pos h0];omega
  ·rename_i h0;rw[if_neg h0];omega
theorem Ag{done:List Nat}{i n v:Nat}(h:done.length=i)(hn:0<n):(done++List.replicate n 0).set i v=(done++[v])++List.replicate (n-1) 0:=by
 subst h;obtain⟨n,rfl⟩:∃k,n=k+1:=⟨n-1,by omega⟩
 simp[Kbq]
theorem Ie{done:List Nat}{i n m:Nat}(h:done.length=i)(hn:i+n=m):(done++List.replicate n 0).length=m:=by simp[h,hn]
theorem abx{a b:List Nat}{i c:Nat}(h:i<a.length):jr (a.drop i) (b.drop i) c=(c+a[i]+b.getD i 0)%65536::jr (a.drop (i+1)) (b.drop (i+1)) ((c+a[i]+b.getD i 0)/65536):=by rw[Kaz h,jr];simp[KbG,Kcu,Kal]
theorem aby{a b:List Nat}{i c:Nat}(h:i<a.length):lY (a.drop i) (b.drop i) c=(a[i]+65536-c-b.getD i 0)%65536::lY (a.drop (i+1)) (b.drop (i+1)) (if a[i]<c+b.getD i 0 then 1 else 0):=by rw[Kaz h,lY];simp[KbG,Kcu,Kal]
theorem gE{b:List Nat}{i:Nat}(h:i<b.length):b.getD i 0=b[i]:=by simp[Kal,h]
theorem gF{b:List Nat}{i:Nat}(h:¬i<b.length):b.getD i 0=0:=by simp[Kal,h]
open Go
variable {C : Ctx} {ρ : Nat -> Option Nat} {fr : Fr} {hp : HP} {w : World} {K K' R : Qh}
theorem Ig(h:∀fr hp,K fr hp->K' fr hp)(o:cB):bu C o fr hp K->bu C o fr hp K':=by
 cases o with
 | call d pr f args=>
  simp only[bu,mQ];split
  ·rintro⟨h1,h2⟩;refine⟨h1,fun ρ tmps w fv cv av a1 a2 a3 a4 a5 a6 a7 a8=>(h2 ρ tmps w fv cv av a1 a2 a3 a4 a5 a6 a7 a8).mono ?_⟩;rintro e w' ⟨v,ay,an,e1,e2,e3,e4⟩;exact⟨v,ay,an,e1,e2,e3,h _ _ e4⟩
  ·exact id
 |bs d e ty ps=>
  simp only[bu,og];split
  ·exact fun H=>⟨H.1,h _ _ H.2⟩
  ·exact fun H=>⟨H.1,H.2.1,h _ _ H.2.2⟩
 | app d e by_ ty s x=>
  simp only[bu,iU];intro H;revert H;split
  ·unfold yn;split
   ·split
    ·rintro⟨a1,a2,a3,H⟩;refine⟨a1,a2,a3,?_⟩;revert H;split
     ·exact fun H=>⟨H.1,h _ _ H.2⟩
     ·split
      ·exact fun H=>⟨H.1,H.2.1,h _ _ H.2.2⟩
      ·exact id
     ·exact id
    ·exact id
   ·exact id
  ·rintro⟨h0,h1,H⟩;refine⟨h0,h1,?_⟩;revert H;split
   ·rintro⟨a,b,c⟩;exact⟨a,b,h _ _ c⟩
   ·split
    ·rintro(⟨a1,a2,a3,a4,a5,a6,a7,c⟩|⟨a1,a2,a3,c⟩)
     ·exact .inl ⟨a1,a2,a3,a4,a5,a6,a7,h _ _ c⟩
     ·exact .inr ⟨a1,a2,a3,h _ _ c⟩
    ·exact id
   ·exact id
 |bin d op bt x y=>
  simp only[bu,cg];intro H;revert H;split
  ·split<;>first|exact fun H=>⟨H.1,H.2.1,h _ _ H.2.2⟩|exact fun H=>⟨H.1,h _ _ H.2⟩|exact id
  ·split<;>first|exact fun H=>⟨H.1,h _ _ H.2⟩|exact id
  ·exact id
 | _=>
  simp only[bu,qP,qQ,vR,tT,sh,uP,vI,oN,wQ,wP,dR,qK,ym,qR,qL,kT,ph,gd,tR,nE,og,iU,tS,iM,kJ,kK,AJ,AK]
  try (intro H;revert H)
  try (repeat' split)
  all_goals first
   |exact id
   |exact h _ _
   |grind
theorem Ud(h:∀fr hp,K fr hp->K' fr hp)(o:cB):jF o fr hp K->jF o fr hp K':=by unfold jF;split<;>exact h _ _
theorem abz(h:∀fr hp,K fr hp->K' fr hp)(g:Option (Nat×Bool))(o:cB):oP C g o fr hp K->oP C g o fr hp K':=by
 unfold oP;split
 ·exact Ig h o
 ·split
  ·exact fun H=>⟨fun e=>Ig h o (H.1 e),fun e=>Ud h o (H.2 e)⟩
  ·exact Ud h o
  ·exact id
theorem Rp{sk:List It}{g:Option (Nat×Bool)}{o:cB}{r:RT}:vc C R (.o (.o g o r)::sk) fr hp=oP C g o fr hp (fun fr hp=>vc C R (.o r::sk) fr hp):=by rw[vc]
theorem Rq{sk:List It}{x y:RT}:vc C R (.o (.br x y)::sk) fr hp=(vc C R (.o x::sk) fr hp/\vc C R (.o y::sk) fr hp):=by rw[vc]
theorem zJ{id:Nat}{M:Qh}{sk:List It}:∀(pre:List It),(∃p,FW.cw id (pre++ .el M::sk)=some (p++ .el M::sk)/\FW.cw id (pre++sk)=some (p++sk)/\bY p<=bY pre)∨FW.cw id (pre++ .el M::sk)=FW.cw id (pre++sk)
 | []=>.inr rfl
 |.c s::pre=>by
  rcases zJ (id:=id) (M:=M) (sk:=sk) pre with⟨p,h1,h2,h3⟩|h
  ·exact .inl ⟨p,h1,h2,by simp only[bY];omega⟩
  ·exact .inr h
 |.o s::pre=>by
  rcases zJ (id:=id) (M:=M) (sk:=sk) pre with⟨p,h1,h2,h3⟩|h
  ·exact .inl ⟨p,h1,h2,by simp only[bY];omega⟩
  ·exact .inr h
 |.el s::pre=>by
  rcases zJ (id:=id) (M:=M) (sk:=sk) pre with⟨p,h1,h2,h3⟩|h
  ·exact .inl ⟨p,h1,h2,by simp only[bY];omega⟩
  ·exact .inr h
 |.eb i::pre=>by
  by_cases hi:i=id
  ·exact .inl ⟨pre,by simp[FW.cw,hi],by simp[FW.cw,hi],by simp only[bY];omega⟩
  ·rcases zJ (id:=id) (M:=M) (sk:=sk) pre with⟨p,h1,h2,h3⟩|h
   ·exact .inl ⟨p,by simp[FW.cw,hi,h1],by simp[FW.cw,hi,h2],by simp only[bY];omega⟩
   ·exact .inr (by simp[FW.cw,hi,h])
theorem As{M:Qh}{sk:List It}(hM:∀fr hp,M fr hp->vc C R sk fr hp):∀(n:Nat)(pre:List It)(fr:Fr)(hp:HP),bY pre<=n->vc C R (pre++ .el M::sk) fr hp->vc C R (pre++sk) fr hp:=by
 intro n;induction n with
 | zero=>
  intro pre fr hp hn h;cases pre with
  |nil=>simp only[KaN,vG]at h ⊢;exact hM _ _ h
  |cons i pre=>
   exfalso;have:=SC.zg;cases i<;>simp only[bY,It.sz]at hn
   ·rename_i s;have:=SC.zg s;omega
   ·rename_i s;have:=RT.zg s;omega
   ·omega
   ·omega
 | succ n ih=>
  intro pre fr hp hn h;cases pre with
  |nil=>simp only[KaN,vG]at h ⊢;exact hM _ _ h
  | cons i pre=>
   cases i with
   |eb i=>simp only[KaQ,Cq]at h⊢;exact ih _ _ _ (by simp only[bY,It.sz]at hn;omega) h
   |el J=>simp only[KaQ,vG]at h ⊢;exact h
   | o r=>
    cases r with
    |nil=>simp only[KaQ,AE]at h⊢;exact ih _ _ _ (by simp only[bY,It.sz,RT.sz]at hn;omega) h
    |o g o r=>simp only[KaQ,Rp]at h⊢;refine abz (fun fr hp h=>?_) g o h;exact ih (.o r::pre) _ _ (by simp only[bY,It.sz,RT.sz]at hn ⊢;omega) h
    |wk r=>simp only[KaQ,Eu]at h⊢;obtain⟨bI,aF,hw,h⟩:=h;exact⟨bI,aF,hw,ih (.o r::pre) _ _ (by simp only[bY,It.sz,RT.sz]at hn ⊢;omega) h⟩
    |br x y=>simp only[KaQ,Rq]at h⊢;exact⟨ih (.o x::pre) _ _ (by simp only[bY,It.sz,RT.sz]at hn ⊢;omega) h.1,ih (.o y::pre) _ _ (by simp only[bY,It.sz,RT.sz]at hn ⊢;omega) h.2⟩
   | c s=>
    cases s with
    |skip=>simp only[KaQ,Ef]at h⊢;exact ih _ _ _ (by simp only[bY,It.sz,SC.sz]at hn;omega) h
    |rg r=>simp only[KaQ,Gv]at h⊢;exact ih (.o r::pre) _ _ (by simp only[bY,It.sz,SC.sz]at hn ⊢;omega) h
    |raw id ops=>simp only[KaQ]at h⊢;rw[vc]at h⊢;intro tmps w Q hs hQ;refine h tmps w Q hs fun ay an Cl w' ew hv=>hQ ay an Cl w' ew ?_;exact ih _ _ _ (by simp only[bY,It.sz,SC.sz]at hn;omega) hv
    |seq a b=>simp only[KaQ,Ev]at h⊢;exact ih (.c a:: .c b::pre) _ _ (by simp only[bY,It.sz,SC.sz]at hn ⊢;omega) h
    |block id a=>simp only[KaQ,DG]at h⊢;exact ih (.c a:: .eb id::pre) _ _ (by simp only[bY,It.sz,SC.sz]at hn ⊢;omega) h
    |ret=>simp only[KaQ,Ew]at h ⊢;exact h
    |cond c x y=>
     simp only[KaQ,Eg]at h⊢;unfold tM at h⊢;split at h
     ·exact⟨fun e=>ih (.c x::pre) _ _ (by simp only[bY,It.sz,SC.sz]at hn ⊢;omega) (h.1 e),fun e=>ih (.c y::pre) _ _ (by simp only[bY,It.sz,SC.sz]at hn ⊢;omega) (h.2 e)⟩
     ·exact h
    | exit id=>
     simp only[KaQ,Eh]at h⊢;rcases zJ (id:=id) (M:=M) (sk:=sk) pre with⟨p,h1,h2,h3⟩|he
     ·rw[h1]at h;rw[h2];simp only[vH]at h⊢;exact ih _ _ _ (by simp only[bY,It.sz,SC.sz]at hn;omega) h
     ·rw[he]at h;exact h
    |loop a=>simp only[KaQ,u6]at h⊢;obtain⟨I,μ,h1,h2⟩:=h;refine⟨I,μ,h1,fun fr hp hI=>?_⟩;exact ih (.c a:: .el _::pre) _ _ (by simp only[bY,It.sz,SC.sz]at hn ⊢;omega) (h2 fr hp hI)
theorem zV{c:PV}{x y:SC}{sk:List It}(M:Qh)(h:pN C R c x y (.el M::sk) fr hp)(hM:∀fr hp,M fr hp->vc C R sk fr hp):pN C R c x y sk fr hp:=by
 unfold pN tM at h⊢;split at h
 ·exact⟨fun e=>As hM _ [.c x] _ _ (Kac _) (h.1 e),fun e=>As hM _ [.c y] _ _ (Kac _) (h.2 e)⟩
 ·exact h
end Go.FW
namespace Go.FW
open Go
variable {C : Ctx} {ρ : Nat -> Option Nat} {fr : Fr} {hp : HP} {w : World} {K K' R : Qh}
def Cs(R:PV->Prop)(p q:PV):Prop:=(p.aE=true/\q.aE=true)/\∃r,PV.y5 (.au [p,q]) r/\R r
def Gr(R:PV->Prop)(p q s:PV):Prop:=(p.aE=true/\q.aE=true/\s.aE=true)/\∃r,PV.y5 (.au [p,q,s]) r/\R r
def Sc(R:PV->Prop):Prop:=∃r,PV.y5 (.au []) r/\R r
theorem aib{a b:Nat}{Rr:PV->Prop}:gf [.t a,.t b] Rr fr hp=Cs Rr (aK hp (fr a)) (aK hp (fr b)):=by simp[gf,Cs,kC,jP]
theorem aic{a b c:Nat}{Rr:PV->Prop}:gf [.t a,.t b,.t c] Rr fr hp=Gr Rr (aK hp (fr a)) (aK hp (fr b)) (aK hp (fr c)):=by simp[gf,Gr,kC,jP]
theorem aid{Rr:PV->Prop}:gf [] Rr fr hp=Sc Rr:=by simp[gf,Sc]
theorem eV{p q p' q' r:PV}(h:r= .au [p',q'])(d1:p.aE=true)(d2:q.aE=true)(h1:PV.le p p')(h2:PV.le q q'):Cs (· =r) p q:=⟨⟨d1,d2⟩,r,by subst h;exact⟨h1,h2,trivial⟩,rfl⟩
theorem tV{p q s p' q' s' r:PV}(h:r= .au [p',q',s'])(d1:p.aE=true)(d2:q.aE=true)(d3:s.aE=true)(h1:PV.le p p')(h2:PV.le q q')(h3:PV.le s s'):Gr (· =r) p q s:=⟨⟨d1,d2,d3⟩,r,by subst h;exact⟨h1,h2,h3,trivial⟩,rfl⟩
theorem tF{p q:PV}(h:p=q):PV.le p q:=h▸Qy p
theorem Ah{β n ty:Nat}{l:List Nat}{fz:Bool}(h:hp β=some ⟨1,ty,cn l,fz⟩)(hn:n=l.length)(hB:cd β=false:=by decide):(([]:List PV)++[PV.ms β n]++([]:List PV)).map (aK hp)=[.sl 1 (cn l)]:=by simp[adP h hn hB]
theorem pA{n:Nat}(h:(ah n).length=0):ah n=[]:=Kas.1 h
abbrev PV.nat(l:List Nat):PV:=.sl 1 (cn l)
abbrev PV.num(n:Nat):PV:=PV.nat (ah n)
theorem xF:PV.le .aa (PV.num 0):=by rw[PV.num,fQ];trivial
theorem At{n:Nat}(h:n=0):PV.le .aa (PV.num n):=by subst h;exact xF
end Go.FW
namespace Go.FW
def jZ:List Nat->List Nat->Nat->Nat->List Nat
 |r::rs,y::ys,x,c=>(c+(r+x*y))%65536::jZ rs ys x ((c+(r+x*y))/65536)
 |_,_,_,c=>[c]
theorem O2:∀(r b:List Nat)(x c:Nat),r.length=b.length->val (jZ r b x c)=val r+x*val b+c
 | [],[],x,c,_=>by simp[jZ,val]
 |r::rs,y::ys,x,c,h=>by rw[jZ,val,O2 rs ys x _ (by simpa using h),val,val,Ka1 x,Kbz x 65536];generalize x*y=p;generalize x*val ys=q;omega
 | [],_::_,_,_,h=>by simp at h
 |_::_,[],_,_,h=>by simp at h
theorem tt{x y:Nat}(hx:x<65536)(hy:y<65536):x*y<=4294836225:=by have:=KaK (show x<=65535 by omega) (show y<=65535 by omega);omega
theorem Ue:∀(r b:List Nat)(x c:Nat),c<65536->x<65536->Qs r->Qs b->Qs (jZ r b x c)
 |r::rs,y::ys,x,c,hc,hx,hr,hb=>by rw[iq]at hr hb;have:=tt hx hb.1;rw[jZ,iq];exact⟨by omega,Ue rs ys x _ (by omega) hx hr.2 hb.2⟩
 | [],_,x,c,hc,_,_,_=>by simp[jZ,Qs];exact hc
 |_::_,[],x,c,hc,_,_,_=>by simp[jZ,Qs];exact hc
theorem Tj:∀(r b:List Nat)(x c:Nat),r.length=b.length->(jZ r b x c).length=r.length+1
 |r::rs,y::ys,x,c,h=>by simp[jZ,Tj rs ys x _ (by simpa using h)]
 | [],[],x,c,_=>rfl
 | [],_::_,_,_,h=>by simp at h
 |_::_,[],_,_,h=>by simp at h
theorem Ej{p t:List Nat}{r j:Nat}(h:p.length=j)(hj:j<(p++r::t).length):(p++r::t)[j]=r:=by subst h;simp
theorem nS{p t:List Nat}{r j v:Nat}(h:p.length=j):(p++r::t).set j v=p++v::t:=by subst h;simp
theorem zt{l:List Nat}{i:Nat}(h:i<l.length):val (l.take (i+1))=val (l.take i)+65536^i*l[i]:=by rw[Kah h,mH,KaH,KbY (by omega)];simp[val]
theorem adh{a lo b:List Nat}{i:Nat}(h:i<a.length)(hl:lo.length=i+b.length)(hv:val lo=val (a.take i)*val b):
  val (lo.take i++jZ (lo.drop i) b a[i] 0)=val (a.take (i+1))*val b:=by
 rw[mH,O2 _ _ _ _ (by simp[hl]),zt h,KaH,KbY (by omega),KaF,<-hv,pB lo i (by omega),KaS,Ka1,Kbh];omega
open Go
variable {C : Ctx} {ρ : Nat -> Option Nat} {fr : Fr} {hp : HP} {w : World} {K K' R : Qh}
def B0:Nat:=1000000
def mY(xs:List PV):Prop:=∀x∈xs,∃k n,x= .int k n
theorem qI(l:List Nat):mY (cn l):=by intro x hx;simp only[cn,KaE]at hx;obtain⟨n,_,rfl⟩:=hx;exact⟨_,_,rfl⟩
def oc(w:World)(b:Nat)(ty:TypeId)(xs:List PV):Prop:=mY xs/\∃(cur:Array Value)(cap:Nat),w.heap[b]? =some (.cells cur ty (0,0))/\cur.size=cap*1/\xs.length<=cap/\cap<=maxLen/\
 ∀(i:Nat)(k:IntKind)(n:Int),xs[i]? =some (.int k n)->cur.getD i undef= .int k n
theorem oc.jB{b:Nat}{ty:TypeId}{xs:List PV}{fz:Bool}{X:Nat->Prop}(h:oc w b ty xs):yd w X b ⟨1,ty,xs,fz⟩:=by
 obtain⟨hi,cur,cap,h1,h2,h3,h4,h5⟩:=h;refine⟨cur,cap,h1,h2,h3,h4,fun i x hx j y hy=>?_⟩;obtain⟨k,n,rfl⟩:=hi x (Kai hx);cases j with
 |zero=>simp[PV.cells]at hy;subst hy;rw[KbF,KaS,h5 i k n hx];exact Qu.int k n
 |succ j=>simp[PV.cells]at hy
theorem oc.NL{b:Nat}{ty:TypeId}{xs:List PV}{fz:Bool}{X:Nat->Prop}(h:yd w X b ⟨1,ty,xs,fz⟩)(hi:mY xs):oc w b ty xs:=by obtain⟨cur,cap,h1,h2,h3,h4,h5⟩:=h;refine⟨hi,cur,cap,h1,h2,h3,h4,fun i k n hx=>?_⟩;have:=h5 i _ hx 0 (.int k n) rfl;simp only[KbF,KaS]at this;generalize hg:cur.getD i undef=v at this;cases this;rfl
theorem DD{xs:List PV}(h:mY xs):∀(i:Nat)(x:PV),xs[i]? =some x->x.cells.length=1/\x.aE=true:=by intro i x hx;obtain⟨k,n,rfl⟩:=h x (Kai hx);exact⟨rfl,rfl⟩
def Vr(w:World)(b len:Nat)(o n:Nat)(v:Value):Prop:=o+n<=len/\∃cap,v= .slice (some ⟨b,o*1,none⟩) n cap/\du w b 1 (o+cap)/\o+cap<=maxLen
def X5(w:World)(X:Nat->Prop)(b len:Nat)(p:PV)(v:Value):Prop:=match p with
 |.ax β o n=>β=B0/\Vr w b len o n v
 |p=>ba w X p v
def Vn(w:World)(X:Nat->Prop)(b len:Nat)(p:PV)(v:Value):Prop:=match p with
 |.ax β o n=>β=B0/\Vr w b len o n v
 |p=>dH w X p v
def xI(P:Program)(f:FuncId)(args:List PV)(ty:TypeId)(xs:List PV)(ck:PV->List PV->Prop):Prop:=
 oQ P f/\∀(w:World)(X:Nat->Prop)(b:Nat)(bo:Array Value),(∀c,X c->c<w.heap.size)->X b->bo.size=args.length->oc w b ty xs->0<xs.length->
  (∀(i:Nat)(x:PV),args[i]? =some x->X5 w X b xs.length x (bo.getD i undef))->
  Calls P f bo w fun e w'=>∃v r xs',e= .returned v/\Ext (fun c=>c=b) w w'/\(∀e cap,du w b e cap->du w' b e cap)/\oc w' b ty xs'/\xs'.length=xs.length/\Vn w' X b xs.length r v/\ck r xs'
def si(rs:List RV)(ty:TypeId)(len:Nat)(ck:PV->List PV->Prop):Qh:=fun fr hp=>
 ∃xs',hp B0=some ⟨1,ty,xs',false⟩/\mY xs'/\xs'.length=len/\
  (gf rs (fun r=>(∀β o n,r≠ .ax β o n)/\ck r xs') fr hp∨∃s o n,rs=[.t s]/\fr s= .ax B0 o n/\ck (.ax B0 o n) xs')
theorem Dl {P : Program} {f : FuncId} {fn : Func} {sf : aA} {args : List PV} {ty : TypeId} {xs : List PV} {ck : PV -> List PV -> Prop} (hm : P.follows .mixedOrders = true) (hf : P.funcs[f]? = some fn) (sM : (fn.name != "runtime.NumGoroutine") = true) (hc : Qe P fn = some sf) (hn : args.length <= sf.n /\ sf.n <= 1000000)
  (hv:∀C:Ctx,C.P=P->vc C (si sf.rs ty xs.length ck) [.c sf.body] (jY args) (Qz aF B0 ⟨1,ty,xs,false⟩)):xI P f args ty xs ck:=by
 simp only[Qe,Kab,Kaa]at hc;obtain⟨c,hb,sb,iK,rs,fu,rfl⟩:=hc;refine⟨by simp[oQ,hf,hb];simpa using sM,fun w X b bo hX yI fY hI ie cN=>?_⟩;have oZ:∀β c,(fun β=>if β=B0 then some b else none:Nat->Option Nat) β=some c->c<w.heap.size/\(ji β=false->¬(X c/\c≠b)):=fun β c h=>by
  simp only at h;split at h
  ·cases h;exact⟨hX b yI,fun _ h=>h.2 rfl⟩
  ·cases h
 let C:Ctx:=⟨P,fn.ntmps,w,fun c=>X c/\c≠b,fun c hc=>hX c hc.1,hn.2,fun β=>if β=B0 then some b else none,oZ,bT,fun _ h=>h.elim⟩
 refine calls_of_wp hf hb ?_;have wI:(bo++Array.replicate (fn.ntmps-bo.size) undef).size=fn.ntmps:=by simp at hn ⊢;omega
 have anQ:∀c,aH C (fun β=>if β=B0 then some b else none) (Qz aF B0 ⟨1,ty,xs,false⟩) c->X c:=by
  rintro c (hx|⟨β,_,h1,_,h3⟩)
  ·exact hx.1
  ·simp only at h3;split at h3
   ·cases h3;exact yI
   ·cases h3
 have qj:fl C (jY args) (Qz aF B0 ⟨1,ty,xs,false⟩) (bo++Array.replicate (fn.ntmps-bo.size) undef) w:=by
  refine⟨fun β=>if β=B0 then some b else none,wI,Ext.refl _ _,fun _ _ _ _ _ h=>h,fun β aw al=>?_,fun β γ b' h1 h2 h3 h4=>?_,fun i=>?_⟩
  ·unfold Qz at al;split at al
   ·rename_i ap2;cases al;subst ap2;refine⟨by simp,DD hI.1,?_,(fun _=>rfl),fun h=>by cases h⟩;simp only[if_pos];exact⟨rfl,hX b yI,hI.jB⟩
   ·simp[aF]at al
  ·have:∀β,(if β=B0 then some b else none:Option Nat)=some b'->β=B0:=fun β h=>by
    split at h
    ·assumption
    ·cases h
   rw[this β h3,this γ h4]
  ·unfold jY;cases hi:args[i]? with
   |none=>trivial
   | some p=>
    simp only[KbT];have dq:i<bo.size:=by rw[fY];exact(Kad.1 hi).1
    have hr:=cN i p hi;have e:(bo++Array.replicate (fn.ntmps-bo.size) undef).getD i undef=bo.getD i undef:=by rw[kX,if_pos dq]
    rw[e];have key:ba w X p (bo.getD i undef)->Qt C (fun β=>if β=B0 then some b else none) (Qz aF B0 ⟨1,ty,xs,false⟩) w p (bo.getD i undef):=fun hr=>
     Qt.lJ (hr.mono (fun _ _ _=>rfl) (fun c _ hn hx=>hn (anQ c hx)) (Kac _))
    cases p with
    |ax β o n=>obtain⟨rfl,h1,cap,h2,h3,h4⟩:=hr;exact⟨⟨1,ty,xs,false⟩,by simp[Qz],h1,.inr ⟨b,cap,by simp,h2,h3,h4⟩⟩
    |_=>exact key hr
 have fin:∀(fr:Fr)(hp:HP)(a:Act)(w':World),a.defers=[]->fl C fr hp a.tmps w'->si rs ty xs.length ck fr hp->
   a.defers=[]/\∃v,(results fn a.tmps).run P w'= .ok v w'/\∃v' r xs',Ending.returned v= .returned v'/\Ext (fun c=>c=b) w w'/\(∀e cap,du w b e cap->du w' b e cap)/\oc w' b ty xs'/\xs'.length=xs.length/\Vn w' X b xs.length r v'/\ck r xs':=by
  rintro fr hp a w' hd ⟨ρ,hs⟩ ⟨xs',hB,hint,hlen,hr⟩;have bn:=hs.own B0 _ hB;have bc:=bn.eg;have bE:ρ B0=some b:=by
   cases hq:ρ B0 with
   |none=>rw[hq]at bc;simp only at bc;rw[bc]at hlen;simp at hlen;omega
   |some b'=>rw[<-hq];exact bn.fix rfl
  rw[bE]at bc;have vX:oc w' b ty xs':=oc.NL bc.2.2 hint;have Xt:Ext (fun c=>c=b) w w':=hs.ext.mono fun c _ hc=>by
   rcases hc with⟨β,_,hc⟩|hc
   ·have hc:(if β=B0 then some b else none:Option Nat)=some c:=hc;split at hc
    ·cases hc;rfl
    ·cases hc
   ·exact hc.elim
  have WH:∀e cap,du w b e cap->du w' b e cap:=hs.ij B0 b rfl;rcases hr with hr|⟨s,o,n,rfl,ov,hp⟩
  ·obtain⟨v,r,h1,h2,h3,h4⟩:=Q7y (C:=C) rfl fu hs hr (X:=X) (fun c hc=>by
    by_cases e:c=b
    ·subst e;exact .inr ⟨B0,_,rfl,hB,rfl,bE⟩
    ·exact .inl ⟨hc,e⟩)
   refine⟨hd,v,h1,v,r,xs',rfl,Xt,WH,vX,hlen,?_,h4⟩;cases r with
   |ax β o n=>exact absurd rfl (h3 β o n)
   |_=>exact h2
  ·have cJ:=hs.fh s;rw[ov]at cJ;obtain⟨fm,g1,g2,g3⟩:=cJ;rw[hB]at g1;cases g1;rcases g3 with⟨g3,_⟩|⟨b',cap,g3,g4,g5,g6⟩
   ·rw[bE]at g3;cases g3
   ·rw[bE]at g3;cases g3;obtain⟨x,hx⟩:∃x,fn.results.toList=[x]:=by have:=oG fu;exact List.length_eq_one_iff.1 (by rw[<-this.1];rfl)
    have mo:mG P x=some (.t s):=by rw[hx]at fu;simp only[KcT,List.mapM_nil,Kcy,KcZ,Kab,KaB]at fu;obtain⟨y,h1,_,_,h2⟩:=fu;simp only[KcL]at h2;rw[<-h2.1];exact h1
    have Nv:x= .tmp s:=by
     cases x with
     |tmp t=>simpa[mG]using mo
     |cell y t=>simp[mG,Kab]at mo
    subst Nv;have dz:(results fn a.tmps).run P w'= .ok (a.tmps.getD s undef) w':=by have e:results fn a.tmps=(do let vs<-fn.results.mapM (sm a.tmps);pure (if h:vs.size=1 then vs[0]else .tuple vs)):=rfl;rw[e,Kb6,hx];simp[Kao,sm]
    refine⟨hd,_,dz,_,.ax B0 o n,xs',rfl,Xt,WH,vX,hlen,⟨rfl,hlen▸g2,cap,g4,g5,g6⟩,hp⟩
 exact G9 (C:=C) (R:=si rs ty xs.length ck) hm c sb [] _ (jY args) _ _ w iK ⟨fun fr hp a w' hd hs hv=>(by rw[vC]at hv;exact fin fr hp a w' hd hs hv),fun id eS he=>(by simp[FW.cw]at he),fin⟩ rfl qj (hv C rfl)
def PV.nD:PV->Bool
 |.ax .. =>true
 |p=>p.aE
def jB(β:Nat):PV->PV
 |.ax γ o n=>if γ=β then .ax B0 o n else .undef
 |.mp _ _ _=>.undef
 |.rb _ _ _=>.undef
 |.fn _ _ _=>.undef
 |.aM _ _ _| .np _ _ _| .aX _| .ff _| .fg _ _| .aN _ _ _ _=>.undef
 |p=>p
def nV(β:Nat):PV->PV
 |.ax _ o n=>.ax β o n
 |p=>p
theorem EC{P:Program}(hP:C.P=P){g:FuncId}{args dk:List PV}{d:Option Nat}{β:Nat}{ty:TypeId}{xs:List PV}{ck:PV->List PV->Prop}(h:xI P g dk ty xs ck)(al:hp β=some ⟨1,ty,xs,false⟩)(hint:mY xs)(ie:0<xs.length)
  (dT:args.map (jB β)=dk) (jb:dk.all PV.nD=true)
  (hK:∀r xs',mY xs'->xs'.length=xs.length->ck r xs'->K (qM fr d (nV β r)) (Qz hp β ⟨1,ty,xs',false⟩)):mQ C false (.fn g [] []) args d fr hp K:=by
 subst hP;refine⟨h.1,fun ρ tmps w fv cv av sG hs h1 h2 h3 _ _ sS=>?_⟩;have bn:=hs.own β _ al;have bc:=bn.eg;obtain⟨b,bE⟩:∃b,ρ β=some b:=by
  cases hq:ρ β with
  |none=>rw[hq]at bc;simp only at bc;rw[bc]at ie;simp at ie
  |some b=>exact⟨b,rfl⟩
 rw[bE]at bc;have yI:aH C ρ hp b:=.inr ⟨β,_,al,rfl,bE⟩;have e1:fv= #[]:=Kcw (by simpa using h1);have e2:cv= #[]:=Kcw (by simpa using h2);subst e1;subst e2;simp only[Array.empty_append,Array.append_empty];refine(h.2 w (aH C ρ hp) b av (EA hs) yI (by rw[<-dT];simp[h3]) (oc.NL bc.2.2 hint) ie (fun i x hx=>?_)).mono ?_
 ·rw [<-dT]at hx;simp only[Kay,Kaa]at hx;obtain⟨p,an,wE⟩:=hx;have hr:=sS i p an;have jz:PV.nD x=true:=by rw[Kav]at jb;refine jb x ?_;rw[<-dT,<-wE];exact Kcz (Kai an)
  subst wE;cases p with
  | ax γ o n=>
   simp only[jB]at jz⊢;split
   ·rename_i ak;subst ak;obtain⟨fm,g1,g2,g3⟩:=hr;rw[al]at g1;cases g1;rcases g3 with⟨g3,_⟩|⟨b',cap,g3,g4,g5,g6⟩
    ·rw[bE]at g3;cases g3
    ·rw[bE]at g3;cases g3;exact⟨rfl,g2,cap,g4,g5,g6⟩
   ·rename_i ak;rw[if_neg ak]at jz;simp[PV.nD,PV.aE]at jz
  |mp=>simp[jB,PV.nD,PV.aE]at jz
  |rb=>simp[jB,PV.nD,PV.aE]at jz
  |fn=>simp[jB,PV.nD,PV.aE]at jz
  |undef=>simp[jB,PV.nD,PV.aE]at jz
  |aM=>simp[jB,PV.nD,PV.aE]at jz
  |np=>simp[jB,PV.nD,PV.aE]at jz
  |aX=>simp[jB,PV.nD,PV.aE]at jz
  |ff=>simp[jB,PV.nD,PV.aE]at jz
  |fg=>simp[jB,PV.nD,PV.aE]at jz
  |aN=>simp[jB,PV.nD,PV.aE]at jz
  |au=>simp[jB,PV.nD,PV.aE]at jz
  |agg cs=>exact hr
  |_=>exact hr
 ·rintro e w' ⟨v,r,xs',rfl,hx,dU,vX,hlen,dz,qg⟩;have aG:=hs.store β b ⟨1,ty,xs,false⟩ ⟨1,ty,xs',false⟩ al rfl (by intro e;simp at e;rw[e]at ie;simp at ie) bE hx rfl hlen rfl (DD vX.1) dU (vX.jB (X:=aH C ρ hp) (fz:=false) |> fun⟨cur,cap,c1,c2,c3,c4,c5⟩=>⟨cur,cap,c1,c2,c3,c4,fun i x hi j y hy=>by
   obtain⟨k,n,rfl⟩:=vX.1 x (Kai hi);have:=c5 i _ hi j y hy;cases j with
   |zero=>simp[PV.cells]at hy;subst hy;generalize hg:cur.getD (i*1+0) undef=u at this;cases this;exact Qu.int k n
   |succ j=>simp[PV.cells]at hy⟩)
  have My:aH C ρ (Qz hp β ⟨1,ty,xs',false⟩)=aH C ρ hp:=by
   funext c;apply propext;constructor
   ·rintro(hx|⟨γ,hg,h1,h2,h3⟩)
    ·exact .inl hx
    ·by_cases ak:γ=β
     ·subst ak;exact .inr ⟨γ,_,al,rfl,h3⟩
     ·simp only[Qz,if_neg ak]at h1;exact .inr ⟨γ,hg,h1,h2,h3⟩
   ·rintro(hx|⟨γ,hg,h1,h2,h3⟩)
    ·exact .inl hx
    ·by_cases ak:γ=β
     ·subst ak;exact .inr ⟨γ,⟨1,ty,xs',false⟩,by simp[Qz],rfl,h3⟩
     ·exact .inr ⟨γ,hg,by simp[Qz,ak,h1],h2,h3⟩
  refine⟨v,_,_,rfl,⟨ρ,aG.Ga (p:=nV β r) ?_ sG⟩,by simp,hK r xs' vX.1 hlen qg⟩;cases r with
  |ax γ o n=>obtain⟨_,g1,cap,g2,g3,g4⟩:=dz;exact⟨⟨1,ty,xs',false⟩,by simp[Qz],by simp only[nV];omega,.inr ⟨b,cap,bE,g2,g3,g4⟩⟩
  |_=>exact Qt.NM (p:=_) (by rw[My];exact dz)
end Go.FW
namespace Go.FW
open Go
variable {C : Ctx} {ρ : Nat -> Option Nat} {fr : Fr} {hp : HP} {w : World} {K K' R : Qh}
def Au(P:Program)(f:FuncId)(args:List PV)(ty:TypeId)(ck:List PV->Prop):Prop:=
 oQ P f/\∀(w:World)(X:Nat->Prop)(bo:Array Value),(∀b,X b->b<w.heap.size)->bo.size=args.length->(∀(i:Nat)(x:PV),args[i]? =some x->ba w X x (bo.getD i undef))->
  Calls P f bo w fun e w'=>∃v b cap ys,e= .returned v/\v= .slice (some ⟨b,0,none⟩) ys.length cap/\w.heap.size<=b/\Ext bT w w'/\oc w' b ty ys/\du w' b 1 cap/\cap<=maxLen/\ck ys
def ya(rs:List RV)(ty:TypeId)(ck:List PV->Prop):Qh:=fun fr hp=>
 ∃s β n xs,rs=[.t s]/\fr s= .ax β 0 n/\cd β=false/\hp β=some ⟨1,ty,xs,false⟩/\mY xs/\0<n/\ck (xs.take n)
theorem abA{xs:List PV}(h:mY xs)(n:Nat):mY (xs.take n):=fun x hx=>h x (Kbc hx)
theorem abB {P : Program} {f : FuncId} {fn : Func} {sf : aA} {args : List PV} {ty : TypeId} {ck : List PV -> Prop} (hm : P.follows .mixedOrders = true) (hf : P.funcs[f]? = some fn) (sM : (fn.name != "runtime.NumGoroutine") = true) (hc : Qe P fn = some sf) (hn : args.length <= sf.n /\ sf.n <= 1000000)
  (hv:∀C:Ctx,C.P=P->vc C (ya sf.rs ty ck) [.c sf.body] (jY args) aF):Au P f args ty ck:=by
 simp only[Qe,Kab,Kaa]at hc;obtain⟨c,hb,sb,iK,rs,fu,rfl⟩:=hc;refine⟨by simp[oQ,hf,hb];simpa using sM,fun w X bo hX fY cN=>?_⟩
 let C:Ctx:=Ctx.plain P fn.ntmps w X hX hn.2
 refine calls_of_wp hf hb ?_;have wI:(bo++Array.replicate (fn.ntmps-bo.size) undef).size=fn.ntmps:=by simp at hn ⊢;omega
 have qj:fl C (jY args) aF (bo++Array.replicate (fn.ntmps-bo.size) undef) w:=by
  refine⟨fun _=>none,wI,Ext.refl _ _,(fun _ _ h=>by cases h),by simp[aF],by simp[aF],fun i=>?_⟩;unfold jY;cases hi:args[i]? with
  |none=>trivial
  | some p=>
   simp only[KbT];have dq:i<bo.size:=by rw[fY];exact(Kad.1 hi).1
   have hr:=cN i p hi;have e:(bo++Array.replicate (fn.ntmps-bo.size) undef).getD i undef=bo.getD i undef:=by rw[kX,if_pos dq]
   rw[e];refine Qt.lJ (hr.mono (fun _ _ _=>rfl) (fun b _ hn hx=>?_) (Kac _));rcases hx with hx|⟨_,_,h1,_⟩
   ·exact hn hx
   ·simp[aF]at h1
 have fin:∀(fr:Fr)(hp:HP)(a:Act)(w':World),a.defers=[]->fl C fr hp a.tmps w'->ya rs ty ck fr hp->
   a.defers=[]/\∃v,(results fn a.tmps).run P w'= .ok v w'/\∃v' b cap ys,Ending.returned v= .returned v'/\v'= .slice (some ⟨b,0,none⟩) ys.length cap/\w.heap.size<=b/\Ext bT w w'/\oc w' b ty ys/\du w' b 1 cap/\cap<=maxLen/\ck ys:=by
  rintro fr hp a w' hd ⟨ρ,hs⟩ ⟨s,β,n,xs,rfl,ov,hB,al,hint,ie,hp⟩;have bn:=hs.own β _ al;have bc:=bn.eg;have cJ:=hs.fh s;rw[ov]at cJ;obtain⟨fm,g1,g2,g3⟩:=cJ;rw[al]at g1;cases g1;rcases g3 with⟨_,_,g3,_⟩|⟨b,cap,g3,g4,g5,g6⟩
  ·omega
  ·rw[g3]at bc;simp only[hB]at bc;obtain⟨x,hx⟩:∃x,fn.results.toList=[x]:=by have:=oG fu;exact List.length_eq_one_iff.1 (by rw[<-this.1];rfl)
   have mo:mG P x=some (.t s):=by rw[hx]at fu;simp only[KcT,List.mapM_nil,Kcy,KcZ,Kab,KaB]at fu;obtain⟨y,h1,_,_,h2⟩:=fu;simp only[KcL]at h2;rw[<-h2.1];exact h1
   have Nv:x= .tmp s:=by
    cases x with
    |tmp t=>simpa[mG]using mo
    |cell y t=>simp[mG,Kab]at mo
   subst Nv;have dz:(results fn a.tmps).run P w'= .ok (a.tmps.getD s undef) w':=by have e:results fn a.tmps=(do let vs<-fn.results.mapM (sm a.tmps);pure (if h:vs.size=1 then vs[0]else .tuple vs)):=rfl;rw[e,Kb6,hx];simp[sm]
   have hlen:(xs.take n).length=n:=by simp at g2 ⊢;omega
   refine⟨hd,_,dz,_,b,cap,xs.take n,rfl,by rw[g4,hlen,KbI],(Ctx.EJ bc.1 (vA hB)).resolve_right (fun h=>h),Ctx.NN hs.ext,?_,by rw[Kbe]at g5;exact g5,by omega,hp⟩;obtain⟨_,cur,cp,i1,i2,i3,i4,i5⟩:=oc.NL bc.2.2 hint;exact⟨abA hint n,cur,cp,i1,i2,by simp;omega,i4,fun i k m hi=>i5 i k m (by
    have aB:i<n:=by have:=(Kad.1 hi).1;omega
    rwa[KaM aB]at hi)⟩
 exact G9 (C:=C) (R:=ya rs ty ck) hm c sb [] _ (jY args) aF _ w iK ⟨fun fr hp a w' hd hs hv=>(by rw[vC]at hv;exact fin fr hp a w' hd hs hv),fun id eS he=>(by simp[FW.cw]at he),fin⟩ rfl qj (hv C rfl)
theorem aiM{P:Program}(hP:C.P=P){g:FuncId}{args dk:List PV}{d:Nat}{ty:TypeId}{ck:List PV->Prop}(h:Au P g dk ty ck)(dT:([]++args++[]).map (aK hp)=dk)(jb:dk.all PV.aE=true)(hr:([]++args++[]).flatMap PV.refs=[])
  (hB:cd d=false) (hK:∀ys,mY ys->ck ys->K (af (cK d fr) d (.ms d ys.length)) (Qz hp d ⟨1,ty,ys,false⟩)):mQ C false (.fn g [] []) args (some d) fr hp K:=by
 subst hP;refine⟨h.1,fun ρ tmps w fv cv av sG hs h1 h2 h3 sR oz sS=>?_⟩;have hf0:cf hp (([]++args++[]).flatMap PV.refs)=hp:=by rw[hr];rfl
 have cN:=OW hs h1 h2 h3 sR oz sS (by rw[dT];exact jb);rw[hf0,dT]at cN;refine(h.2 w _ (fv++av++cv) (EA hs) (by rw[<-dT];simp[h1,h2,h3]) cN).mono ?_;rintro e w' ⟨v,b,cap,ys,rfl,rfl,hb,hx,hI,dU,hm,qg⟩;have qW:b<w'.heap.size:=by obtain⟨_,cur,cp,i1,_⟩:=hI;exact(KaI.1 i1).1
 have Nl:=hs.rebind (w':=w') d (some b) ⟨1,ty,ys,false⟩ hB (hx.mono (fun _ _ h=>h.elim)) (fun c hc=>by cases hc;exact⟨.inl (Kaw hs.ext.size hb),qW,.inl hb⟩) (by simp) (DD hI.1) (by simp)
  (fun c hc=>by
   cases hc;obtain⟨hint,cur,cp,i1,i2,i3,i4,i5⟩:=hI;refine⟨cur,cp,i1,i2,i3,i4,fun i x hi j y hy=>?_⟩;obtain⟨k,n,rfl⟩:=hint x (Kai hi);cases j with
   |zero=>simp[PV.cells]at hy;subst hy;rw[KbF,KaS,i5 i k n hi];exact Qu.int k n
   |succ j=>simp[PV.cells]at hy)
 refine⟨_,_,_,rfl,⟨_,Nl.Ga (d:=some d) (p:=.ms d ys.length) ?_ sG⟩,by simp,hK ys hI.1 qg⟩;exact⟨⟨1,ty,ys,false⟩,by simp[Qz],by simp,.inr ⟨b,cap,gW _ _ _,by simp,by rw[Kbe];exact dU,by omega⟩⟩
def fU(hp:HP):PV->PV
 |.mp β i o=>match hp β with
  |some hb=>match hb.xs[i]? with
   |some x=>.pt (x.cells.drop o)
   |none=>.undef
  |none=>.undef
 |.ax β o n=>match hp β with
  |some hb=>.sl hb.e ((hb.xs.drop o).take n)
  |none=>.undef
 |.rb β o n=>match hp β with
  |some hb=>.pt [.sl hb.e ((hb.xs.drop o).take n)]
  |none=>.undef
 |p=>p
def vM(C:Ctx)(ρ:Nat->Option Nat)(hp:HP)(l:List Nat):Nat->Prop:=fun c=>aH C ρ hp c/\¬∃β∈l,ρ β=some c
theorem Qu.vU{l:List Nat}{q:PV}{u:Value}(h:Qu w (aH C ρ hp) q u):Qu w (vM C ρ hp l) q u:=
 h.mono (fun _ _ _=>rfl) (fun _ _ hn hx=>hn hx.1) (Kac _)
theorem eU.vU{tmps:Array Value}(h:aI C ρ fr hp tmps w){β o n:Nat}{v:Value}{l:List Nat}{hb:HB}(hr:eU ρ hp w β o n v)(wL:β∈l)(g1:hp β=some hb):Qu w (vM C ρ hp l) (.sl hb.e ((hb.xs.drop o).take n)) v:=by
 obtain⟨fm,EM,g2,g3⟩:=hr;rw[g1]at EM;cases EM;rcases g3 with⟨g3,rfl,rfl,rfl⟩|⟨b,cap,g3,rfl,g5,g6⟩
 ·simp only[Kb5];exact .gT _ _ _ (Kby _)
 ·have bn:=h.own β hb g1;have bc:=bn.eg;rw[g3]at bc;obtain⟨_,ar,cur,eY,c1,c2,c3,c4,c5⟩:=bc;obtain⟨cur',ty',d1,d2⟩:=g5;rw[c1]at d1;cases d1;have gA:o+cap=eY:=by rw[c2]at d2;exact(KbC bn.l6 d2).symm
  subst gA;have hlen:((hb.xs.drop o).take n).length=n:=by simp;omega
  have e9:∀(i:Nat)(x:PV),((hb.xs.drop o).take n)[i]? =some x->i<n/\hb.xs[o+i]? =some x:=fun i x hx=>by
   have hi:i<n:=by have:=(Kad.1 hx).1;omega
   rw[KaM hi,Kbb]at hx;exact⟨hi,hx⟩
  have:=Qu.sl (w:=w) (X:=vM C ρ hp l) hb.e ((hb.xs.drop o).take n) b (o*hb.e) cap (fun i j=>cur.getD ((o+i)*hb.e+j) undef) (fun BU=>BU.2 ⟨β,wL,g3⟩) ar (by omega) (by omega)
   (fun i x hx=>(bn.len _ x (e9 i x hx).2).1)
   (fun i hi j hj=>by rw[hlen]at hi;have:=nT (i:=o+i) (e:=hb.e) (o:=0) (j:=j) (n:=hb.e) (cap:=o+cap) (by omega) (by omega) hj;rw[KaS]at this;rw[show o*hb.e+i*hb.e+j=(o+i)*hb.e+j by rw[KaF]];exact lM c1 (by rw[c2];exact this))
   (fun i x hx j y hy=>(c5 _ x (e9 i x hx).2 j y hy).vU)
  rwa[hlen]at this
theorem Dm{tmps:Array Value}(h:aI C ρ fr hp tmps w){p:PV}{v:Value}{l:List Nat}(hr:cW C ρ hp w p v)(hl:∀β∈p.bS,β∈l)(hu:(fU hp p).aE=true)(BG:∀f a b,p≠ .fn f a b):ba w (vM C ρ hp l) (fU hp p) v:=by
 cases p with
 | mp β i o=>
  obtain⟨b,hb,g1,g2,rfl⟩:=hr;have wL:=hl β (by simp[PV.bS]);have bn:=h.own β hb g2;have bc:=bn.eg;rw[g1]at bc;obtain⟨_,ar,cur,cap,c1,c2,c3,c4,c5⟩:=bc;simp only[fU,g2]at hu⊢;cases hx:hb.xs[i]? with
  |none=>simp[hx,PV.aE]at hu
  | some x=>
   have hi:i<hb.xs.length:=(Kad.1 hx).1;have fo:=(bn.len i x hx).1;refine Qu.pt _ b _ (fun j=>cur.getD (i*hb.e+o+j) undef) (fun BU=>BU.2 ⟨β,wL,g1⟩) ar (fun j hj=>?_) (fun j y hy=>?_)
   ·have fG:o+(j+1)<=hb.e:=by simp[fo]at hj;omega
    exact lM c1 (by rw[c2];exact nT (by omega) fG (Kdd j))
   ·rw[Kbb]at hy;rw[Kcg];exact(c5 i x hx (o+j) y hy).vU
 |ax β o n=>obtain⟨hb,g1,_⟩:=id hr;simp only[fU,g1];exact eU.vU h hr (hl β (by simp[PV.bS])) g1
 | rb β o n=>
  obtain⟨b,u,rfl,e2,e3,e4,hb,g1,e5⟩:=hr;simp only[fU,g1];refine Qu.pt _ b 0 (fun _=>u) (fun hx=>e3 hx.1) e2 (fun j hj=>?_) (fun j y hy=>?_)
  ·obtain rfl:j=0:=by simpa using hj
   simpa using e4
  ·cases j with
   |zero=>simp at hy;subst hy;exact eU.vU h ⟨hb,g1,e5⟩ (hl β (by simp[PV.bS])) g1
   |succ j=>simp at hy
 |undef=>simp[fU,PV.aE]at hu
 |fn f a b=>exact absurd rfl (BG f a b)
 |au=>simp[fU,PV.aE]at hu
 |aM=>simp[fU,PV.aE]at hu
 |np=>simp[fU,PV.aE]at hu
 |aX=>simp[fU,PV.aE]at hu
 |ff=>simp[fU,PV.aE]at hu
 |fg=>simp[fU,PV.aE]at hu
 |aN=>simp[fU,PV.aE]at hu
 |agg=>cases hr
 |_=>exact Qu.vU hr
end Go.FW
namespace Go.FW
open Go
variable {C : Ctx} {ρ : Nat -> Option Nat} {fr : Fr} {hp : HP} {w : World} {K K' R : Qh}
def PV.uM:PV->Bool
 |.fn .. =>false
 |p=>p.aE
theorem Uf{p:PV}(h:p.uM=true):p.aE=true/\∀f a b,p≠ .fn f a b:=by cases p<;>simp_all[PV.uM,PV.aE]
theorem Q72{tmps:Array Value}(h:aI C ρ fr hp tmps w){p:PV}{v:Value}{l:List Nat}(hr:Qt C ρ hp w p v)(hl:∀β∈p.refs,β∈l)(hu:(fU hp p).uM=true):ba w (vM C ρ hp l) (fU hp p) v:=by
 obtain⟨hd,BG⟩:=Uf hu;cases p with
 |mp β i o=>exact Dm (p:=.mp β i o) h hr (fun dB mq=>hl dB mq) hd (by simp)
 |ax β o n=>exact Dm (p:=.ax β o n) h hr (fun dB mq=>hl dB mq) hd (by simp)
 |rb β o n=>exact Dm (p:=.rb β o n) h hr (fun dB mq=>hl dB mq) hd (by simp)
 |fn f a b=>exact absurd rfl (BG f a b)
 |undef=>simp[fU,PV.uM,PV.aE]at hu
 |au=>simp[fU,PV.uM,PV.aE]at hu
 |agg cs=>exact ba.mono (p:=.agg cs) hr (fun _ _ _=>rfl) (fun _ _ hn hx=>hn hx.1) (Kac _)
 |aM=>simp[fU,PV.aE]at hd
 |np=>simp[fU,PV.aE]at hd
 |aX=>simp[fU,PV.aE]at hd
 |ff=>simp[fU,PV.aE]at hd
 |fg=>simp[fU,PV.aE]at hd
 |aN=>simp[fU,PV.aE]at hd
 |_=>exact Qu.vU hr
theorem Ug{tmps:Array Value}(h:aI C ρ fr hp tmps w){p:PV}{v:Value}{l:List Nat}(hr:cW C ρ hp w p v)(hl:∀β∈p.refs,β∈l)(hu:(fU hp p).uM=true):ba w (vM C ρ hp l) (fU hp p) v:=by
 obtain⟨hd,BG⟩:=Uf hu;refine Dm h hr (fun β al=>hl β ?_) hd ?_
 ·cases p<;>simp_all[PV.bS,PV.refs]
 ·intro f a b an;subst an;exact BG f a b rfl
theorem abC{P:Program}(hP:C.P=P){g:FuncId}{first cap args dk:List PV}{pr:Bool}{d:Option Nat}{r:PV}(h:Qc P g dk (· =r))(dT:(first++args++cap).map (fU hp)=dk)(jb:dk.all PV.uM=true)(hr:r.NA=true)
  (hK:K (qM fr d r) hp):mQ C pr (.fn g first cap) args d fr hp K:=by
 subst hP;refine⟨h.1,fun ρ tmps w fv cv av sG hs h1 h2 h3 sR oz sS=>?_⟩;refine(h.2 w (vM C ρ hp ((first++args++cap).flatMap PV.refs)) (fv++av++cv) (fun b hb=>EA hs b hb.1) (by rw[<-dT];simp[h1,h2,h3]) (fun i x hx=>?_)).mono ?_
 ·have uv:x.uM=true:=by rw[Kav]at jb;exact jb x (Kai hx)
  rw[<-dT]at hx;simp only[Kay,Kaa]at hx;obtain⟨p,an,rfl⟩:=hx;have eo:=Kai an;have hl:∀β∈p.refs,β∈(first++args++cap).flatMap PV.refs:=fun β al=>Kaq.2 ⟨p,eo,al⟩;rw[kX];rw[Ka3]at an;by_cases c1:i<(first++args).length
  ·rw[if_pos c1]at an;rw[if_pos (by simp only[Kcj,h1,h3];simpa using c1),kX];rw[Ka3]at an;by_cases c2:i<first.length
   ·rw[if_pos c2]at an;rw[if_pos (by omega)];exact Ug hs (sR i p an) hl uv
   ·rw[if_neg c2]at an;rw[if_neg (by omega),h1];exact Q72 hs (sS _ p an) hl uv
  ·rw[if_neg c1]at an;have fY:(fv++av).size=(first++args).length:=by simp[h1,h3]
   rw[if_neg (by omega),fY];exact Ug hs (oz _ p an) hl uv
 ·rintro e w' ⟨v,r',rfl,hx,fW,rfl⟩;exact⟨v,_,_,rfl,⟨ρ,(hs.grow hx).Ga (Qt.NM (adC hr fW)) sG⟩,fun _=>hx,hK⟩
end Go.FW
namespace Go.FW
def kH:List Nat->List Nat->Nat->List Nat
 | [],_,_=>[]
 |x::xs,ys,c=>(c+x+ys.headD 0)%65536::kH xs ys.tail ((c+x+ys.headD 0)/65536)
theorem Tk:∀(a b:List Nat)(c:Nat),(kH a b c).length=a.length
 | [],_,_=>rfl
 |x::xs,b,c=>by simp[kH,Tk xs]
theorem Uh:∀(a b:List Nat)(c:Nat),Qs (kH a b c)
 | [],_,_=>nO
 |x::xs,b,c=>by rw[kH,iq];exact⟨by omega,Uh xs _ _⟩
theorem ab6{a b:List Nat}{i c:Nat}(h:i<a.length):kH (a.drop i) (b.drop i) c=(c+a[i]+b.getD i 0)%65536::kH (a.drop (i+1)) (b.drop (i+1)) ((c+a[i]+b.getD i 0)/65536):=by rw[Kaz h,kH];simp[KbG,Kcu,Kal]
theorem O3:∀(a b:List Nat)(c:Nat),b.length<=a.length->∃k,val (kH a b c)+65536^a.length*k=val a+val b+c
 | [],b,c,h=>by have:b=[]:=Kas.1 (by simpa using h);subst this;exact⟨c,by simp[kH,val]⟩
 |x::xs,b,c,h=>by
  obtain⟨k,hk⟩:=O3 xs b.tail ((c+x+b.headD 0)/65536) (by simp at h ⊢;omega);refine⟨k,?_⟩;rw[kH,val,val,zU b,KaW,KbB,KaU (65536^xs.length) 65536,Kbh];generalize 65536^xs.length*k=z at *
  generalize b.headD 0=y at *
  omega
def fL:List Nat->List Nat->Nat->Nat->Nat->List Nat×Nat×Nat
 | [],_,_,c,b=>([],c,b)
 |x::xs,ys,q,c,b=>
  let r:=fL xs ys.tail q ((c+q*ys.headD 0)/65536) (if x<(c+q*ys.headD 0)%65536+b then 1 else 0)
  ((x+65536-(c+q*ys.headD 0)%65536-b)%65536::r.1,r.2)
theorem Tl:∀(a v:List Nat)(q c b:Nat),(fL a v q c b).1.length=a.length
 | [],_,_,_,_=>rfl
 |x::xs,v,q,c,b=>by simp[fL,Tl xs]
theorem Ui:∀(a v:List Nat)(q c b:Nat),Qs (fL a v q c b).1
 | [],_,_,_,_=>nO
 |x::xs,v,q,c,b=>by simp only[fL];rw[iq];exact⟨by omega,Ui xs _ _ _ _⟩
theorem ab7{a v:List Nat}{i q c b:Nat}(h:i<a.length):fL (a.drop i) (v.drop i) q c b=
    ((a[i]+65536-(c+q*v.getD i 0)%65536-b)%65536::(fL (a.drop (i+1)) (v.drop (i+1)) q ((c+q*v.getD i 0)/65536) (if a[i]<(c+q*v.getD i 0)%65536+b then 1 else 0)).1,
     (fL (a.drop (i+1)) (v.drop (i+1)) q ((c+q*v.getD i 0)/65536) (if a[i]<(c+q*v.getD i 0)%65536+b then 1 else 0)).2):=by
  rw[Kaz h,fL];simp[KbG,Kcu,Kal]
theorem O4:∀(a v:List Nat)(q c b:Nat),Qs a->b<=1->v.length<=a.length->
  val (fL a v q c b).1+(q*val v+c+b)=val a+65536^a.length*((fL a v q c b).2.1+(fL a v q c b).2.2)/\(fL a v q c b).2.2<=1
 | [],v,q,c,b,_,hb,h=>by have:v=[]:=Kas.1 (by simpa using h);subst this;simp[fL,val,hb]
 |x::xs,v,q,c,b,ha,hb,h=>by
  rw[iq]at ha;have aw:(if x<(c+q*v.headD 0)%65536+b then 1 else 0)<=1:=by split<;>omega
  obtain⟨ih,FV⟩:=O4 xs v.tail q ((c+q*v.headD 0)/65536) (if x<(c+q*v.headD 0)%65536+b then 1 else 0) ha.2 aw (by simp at h ⊢;omega);refine⟨?_,FV⟩;simp only[fL];rw[val,val,zU v,KaW,KbB,KaU (65536^xs.length) 65536,Kbh,Ka1 q,Kbz q 65536];generalize fL xs v.tail q ((c+q*v.headD 0)/65536) (if x<(c+q*v.headD 0)%65536+b then 1 else 0)=r at *
  generalize 65536^xs.length*(r.2.1+r.2.2)=z at *
  generalize q*v.headD 0=y at *
  generalize q*val v.tail=t at *
  have h0:=ha.1;split at ih
  ·omega
  ·omega
open Go
variable {fr : Fr} {hp : HP}
theorem aiN{ty len:Nat}{ck:PV->List PV->Prop}{xs':List PV}(hB:hp B0=some ⟨1,ty,xs',false⟩)(hi:mY xs')(hl:xs'.length=len)(an:ck (.au []) xs'):si [] ty len ck fr hp:=
 ⟨xs',hB,hi,hl,.inl ⟨by simp,.au [],trivial,by simp,an⟩⟩
theorem Rz{ty len s:Nat}{ck:PV->List PV->Prop}{xs':List PV}{p:PV}(hB:hp B0=some ⟨1,ty,xs',false⟩)(hi:mY xs')(hl:xs'.length=len)(hs:aK hp (fr s)=p)(hd:p.aE=true)(an:ck p xs'):si [.t s] ty len ck fr hp:=
 ⟨xs',hB,hi,hl,.inl ⟨by simp only[kC];rw[hs];exact hd,p,by simp only[jP];rw[hs];exact Qy p,fun β o n e=>by subst e;simp[PV.aE]at hd,an⟩⟩
theorem PL{ty len s o n:Nat}{ck:PV->List PV->Prop}{xs':List PV}(hB:hp B0=some ⟨1,ty,xs',false⟩)(hi:mY xs')(hl:xs'.length=len)(hs:fr s= .ax B0 o n)(an:ck (.ax B0 o n) xs'):si [.t s] ty len ck fr hp:=
 ⟨xs',hB,hi,hl,.inr ⟨s,o,n,rfl,hs,an⟩⟩
end Go.FW
namespace Go.FW
open Go
variable {C : Ctx} {fr : Fr} {hp : HP} {K : Qh}
theorem AH{a b i:Nat}(h:b<2^i):a*2^i|||b=a*2^i+b:=by rw[<-Nat.shiftLeft_eq,Nat.shiftLeft_add_eq_or_of_lt h]
theorem RA{bt:Bool}{x y d:Nat}(hx:x<18446744073709551616)(hy:y<18446744073709551616):cg .or bt (.int .u64 (x:Int)) (.int .u64 (y:Int)) d fr hp K=K (af fr d (.int .u64 ((x|||y:Nat):Int))) hp:=by
 have h1:(BitVec.ofInt 64 (x:Int)|||BitVec.ofInt 64 (y:Int)).toNat=x|||y:=by rw[BitVec.toNat_or,BitVec.ofInt_natCast,BitVec.ofInt_natCast,BitVec.toNat_ofNat,BitVec.toNat_ofNat,KaR hx,KaR hy]
 have h2:x|||y<18446744073709551616:=Nat.or_lt_two_pow (n:=64) hx hy;simp only[cg,IntKind.bits,h1,true_and];rw[rT (by omega) (by omega)];exact congrArg (fun z:Nat=>K (af fr d (.int .u64 (z:Int))) hp) h1
theorem RC{bt:Bool}{x y d:Nat}(hx:x<4294967296)(hy:y<4294967296):cg .or bt (.int .u32 (x:Int)) (.int .u32 (y:Int)) d fr hp K=K (af fr d (.int .u32 ((x|||y:Nat):Int))) hp:=by
 have h1:(BitVec.ofInt 32 (x:Int)|||BitVec.ofInt 32 (y:Int)).toNat=x|||y:=by rw[BitVec.toNat_or,BitVec.ofInt_natCast,BitVec.ofInt_natCast,BitVec.toNat_ofNat,BitVec.toNat_ofNat,KaR hx,KaR hy]
 have h2:x|||y<4294967296:=Nat.or_lt_two_pow (n:=32) hx hy;simp only[cg,IntKind.bits,h1,true_and];rw[DC (by omega) (by omega)];exact congrArg (fun z:Nat=>K (af fr d (.int .u32 (z:Int))) hp) h1
theorem aiO{bt:Bool}{x y d:Nat}(hx:x<65536)(hy:y<65536):cg .or bt (.int .u16 (x:Int)) (.int .u16 (y:Int)) d fr hp K=K (af fr d (.int .u16 ((x|||y:Nat):Int))) hp:=by
 have h1:(BitVec.ofInt 16 (x:Int)|||BitVec.ofInt 16 (y:Int)).toNat=x|||y:=by rw[BitVec.toNat_or,BitVec.ofInt_natCast,BitVec.ofInt_natCast,BitVec.toNat_ofNat,BitVec.toNat_ofNat,KaR hx,KaR hy]
 have h2:x|||y<65536:=Nat.or_lt_two_pow (n:=16) hx hy;simp only[cg,IntKind.bits,h1,true_and];rw[adF (by omega) (by omega)];exact congrArg (fun z:Nat=>K (af fr d (.int .u16 (z:Int))) hp) h1
theorem PM{bt:Bool}{k':IntKind}{x s d:Nat}(hs:s<=64)(h:x*2^s<18446744073709551616):cg .shl bt (.int .u64 (x:Int)) (.int k' (s:Int)) d fr hp K=K (af fr d (.int .u64 ((x*2^s:Nat):Int))) hp:=by
 have h0:(0:Int)<=s:=by omega
 have h1:min ((s:Int).toNat) IntKind.u64.bits=s:=by simp[IntKind.bits];omega
 simp only[cg,h0,true_and,h1];rw[show(x:Int)*2^s=((x*2^s:Nat):Int)by push_cast;rfl,rT (by omega) (by omega)]
theorem PN{bt:Bool}{k':IntKind}{x s d:Nat}(hs:s<=32)(h:x*2^s<4294967296):cg .shl bt (.int .u32 (x:Int)) (.int k' (s:Int)) d fr hp K=K (af fr d (.int .u32 ((x*2^s:Nat):Int))) hp:=by
 have h0:(0:Int)<=s:=by omega
 have h1:min ((s:Int).toNat) IntKind.u32.bits=s:=by simp[IntKind.bits];omega
 simp only[cg,h0,true_and,h1];rw[show(x:Int)*2^s=((x*2^s:Nat):Int)by push_cast;rfl,DC (by omega) (by omega)]
theorem HG{bt:Bool}{k':IntKind}{x d:Nat}(h:x<281474976710656):cg .shl bt (.int .u64 (x:Int)) (.int k' 16) d fr hp K=K (af fr d (.int .u64 ((x*65536:Nat):Int))) hp:=
 PM (s:=16) (by omega) (by omega)
theorem HH{bt:Bool}{k':IntKind}{x d:Nat}(h:x<65536):cg .shl bt (.int .u32 (x:Int)) (.int k' 16) d fr hp K=K (af fr d (.int .u32 ((x*65536:Nat):Int))) hp:=
 PN (s:=16) (by omega) (by omega)
theorem II{bt:Bool}{k':IntKind}{x s d:Nat}(hs:s<=32):cg .shr bt (.int .u32 (x:Int)) (.int k' (s:Int)) d fr hp K=K (af fr d (.int .u32 ((x/2^s:Nat):Int))) hp:=by
 rw[Gl (by omega)];have h1:min ((s:Int).toNat) IntKind.u32.bits=s:=by simp[IntKind.bits];omega
 rw[h1,KcQ _ (Int.pow_nonneg (by omega))];rw[show(x:Int)/2^s=((x/2^s:Nat):Int)by push_cast;rfl]
theorem H2{bt:Bool}{x y d:Nat}(hx:x<281474976710656)(hy:y<65536):cg .or bt (.int .u64 ((x*65536:Nat):Int)) (.int .u64 (y:Int)) d fr hp K=K (af fr d (.int .u64 ((x*65536+y:Nat):Int))) hp:=by rw[RA (by omega) (by omega),show x*65536|||y=x*65536+y from AH (i:=16) hy]
theorem adi{bt:Bool}{x y d:Nat}(hx:x<65536)(hy:y<65536):cg .or bt (.int .u32 ((x*65536:Nat):Int)) (.int .u32 (y:Int)) d fr hp K=K (af fr d (.int .u32 ((x*65536+y:Nat):Int))) hp:=by rw[RC (by omega) (by omega),show x*65536|||y=x*65536+y from AH (i:=16) hy]
theorem Vi{bt:Bool}{x y d:Nat}(hx:x<65536)(hy:y<65536):cg .or bt (.int .u32 (y:Int)) (.int .u32 ((x*65536:Nat):Int)) d fr hp K=K (af fr d (.int .u32 ((x*65536+y:Nat):Int))) hp:=by rw[RC (by omega) (by omega),Nat.or_comm,show x*65536|||y=x*65536+y from AH (i:=16) hy]
theorem IJ{bt:Bool}{k:IntKind}{x y d:Nat}(hy:0<y)(hw:k.wrap ((x/y:Nat):Int)=((x/y:Nat):Int)):cg .quo bt (.int k (x:Int)) (.int k (y:Int)) d fr hp K=K (af fr d (.int k ((x/y:Nat):Int))) hp:=by
 have:(y:Int)≠0:=by omega
 simp only[cg,ne_eq,this,not_false_eq_true,true_and];rw[afv (by omega),<-hw];rfl
theorem pJ{bt:Bool}{k:IntKind}{x y d:Nat}(hy:0<y):cg .rem bt (.int k (x:Int)) (.int k (y:Int)) d fr hp K=K (af fr d (.int k ((x%y:Nat):Int))) hp:=by
 have:(y:Int)≠0:=by omega
 simp only[cg,ne_eq,this,not_false_eq_true,true_and];rw[afw (by omega)];rfl
theorem ab8{n:Nat}(h:n<18446744073709551616):IntKind.u64.wrap (n:Int)=n:=rT (by omega) (by omega)
theorem ab9{n:Nat}(h:n<4294967296):IntKind.u32.wrap (n:Int)=n:=DC (by omega) (by omega)
theorem aca{n:Nat}(h:n<9223372036854775808):IntKind.i64.wrap (n:Int)=n:=vk (by omega) (by omega)
theorem Av{bt:Bool}{x y d:Nat}(hy:0<y)(hx:x<18446744073709551616):cg .quo bt (.int .u64 (x:Int)) (.int .u64 (y:Int)) d fr hp K=K (af fr d (.int .u64 ((x/y:Nat):Int))) hp:=
 IJ hy (ab8 (KcG (KcM x y) hx))
theorem afG{bt:Bool}{x y d:Nat}(hy:0<y)(hx:x<4294967296):cg .quo bt (.int .u32 (x:Int)) (.int .u32 (y:Int)) d fr hp K=K (af fr d (.int .u32 ((x/y:Nat):Int))) hp:=
 IJ hy (ab9 (KcG (KcM x y) hx))
theorem Ek{bt:Bool}{x y d:Nat}(hy:0<y)(hx:x<9223372036854775808):cg .quo bt (.int .i64 (x:Int)) (.int .i64 (y:Int)) d fr hp K=K (af fr d (.int .i64 ((x/y:Nat):Int))) hp:=
 IJ hy (aca (KcG (KcM x y) hx))
theorem afH{e d β o n H:Nat}{k:IntKind}(h:H<=n)(he:(hp β).map (·.e)=some e):iM e (.ax β o n) none (some (.int k (H:Int))) none d fr hp K=K (af fr d (.ax β o H)) hp:=by
 have h1:(H:Int)<=(n:Int):=by omega
 simp[iM,iD,he,h1]
theorem afJ{e d β o n L H:Nat}{k k':IntKind}(h1:L<=H)(h:H<=n)(h0:L<n)(he:(hp β).map (·.e)=some e):iM e (.ax β o n) (some (.int k (L:Int))) (some (.int k' (H:Int))) none d fr hp K=K (af fr d (.ax β (o+L) (H-L))) hp:=by
 have q1:(H:Int)<=(n:Int):=by omega
 have q2:(L:Int)<=(H:Int):=by omega
 have q3:(L:Int)<(n:Int):=by omega
 simp[iM,iD,he,q1,q2,q3]
theorem Vj{bt:Bool}{x d:Nat}(hx:x<9223372036854775808):cg .quo bt (.int .i64 (x:Int)) (.int .i64 16) d fr hp K=K (af fr d (.int .i64 ((x/16:Nat):Int))) hp:=
 Ek (y:=16) (by omega) hx
theorem Vk{bt:Bool}{x d:Nat}:cg .rem bt (.int .i64 (x:Int)) (.int .i64 16) d fr hp K=K (af fr d (.int .i64 ((x%16:Nat):Int))) hp:=
 pJ (y:=16) (by omega)
def od(s:Nat):List Nat->Nat->List Nat
 | [],c=>[c]
 |x::xs,c=>((x*2^s)%65536+c)::od s xs (x*2^s/65536)
theorem O5(s:Nat):∀(l:List Nat)(c:Nat),val (od s l c)=val l*2^s+c
 | [],c=>by simp[od,val]
 |x::xs,c=>by rw[od,val,O5 s xs,val,KaF,Kbh];generalize x*2^s=y;generalize val xs*2^s=z;omega
theorem HI{s:Nat}(h:s<=16):(65536:Nat)=2^s*2^(16-s):=by rw[<-Nat.pow_add,show s+(16-s)=16 by omega]
theorem O6{s x c:Nat}(h:s<=16)(hc:c<2^s):(x*2^s)%65536+c<65536/\c|||(x*2^s)%65536=(x*2^s)%65536+c:=by
 have e:(x*2^s)%65536=(x%2^(16-s))*2^s:=by rw[HI h,KaU x,Nat.mul_mod_mul_left,KaU]
 have h1:x%2^(16-s)<2^(16-s):=Kbw _ (KbN (by omega));have h2:(x%2^(16-s)+1)*2^s<=2^(16-s)*2^s:=Kaf _ h1;rw[KaF,KaU (2^(16-s)),<-HI h]at h2;rw[e];refine⟨by omega,?_⟩;rw[Nat.or_comm,AH hc]
theorem Vl{s x:Nat}(h:s<=16)(hx:x<65536):x*2^s/65536<2^s:=by rw[Kbn (by omega),KaU];exact Nat.mul_lt_mul_of_pos_left hx (KbN (by omega))
theorem Uj{s:Nat}(h:s<=15):∀(l:List Nat)(c:Nat),Qs l->c<2^s->Qs (od s l c)
 | [],c,_,hc=>by have:2^s<=2^15:=KbE (by omega) h;simp[od,Qs];omega
 |x::xs,c,hl,hc=>by rw[iq]at hl;rw[od,iq];exact⟨(O6 (by omega) hc).1,Uj h xs _ hl.2 (Vl (by omega) hl.1)⟩
theorem Tn(s:Nat):∀(l:List Nat)(c:Nat),(od s l c).length=l.length+1
 | [],_=>rfl
 |x::xs,c=>by simp[od,Tn s xs]
theorem aiP{s x:Nat}(h:s<=15)(hx:x<65536):x*2^s<2147483648:=by have:2^s<=2^15:=KbE (by omega) h;have:=KaK (show x<=65535 by omega) this;omega
theorem O7(l:List Nat):∀n,n<=l.length->cut l n=l.take (cut l n).length
 |0,_=>by simp[cut]
 |n+1,h=>by
  unfold cut;split
  ·exact O7 l n (by omega)
  ·rw[KaH,KbY h]
theorem adj{l:List Nat}(h:Qs l):l.take (nl (val l))=ah (val l):=by have:=O7 l l.length (Kac _);rw[Ar h]at this;exact this.symm
end Go.FW
namespace Go.FW
open Go
theorem Au.XY{P:Program}{f:FuncId}{args:List PV}{ty:TypeId}{ys:List PV}(h:Au P f args ty (· =ys)):Qc P f args (· = .sl 1 ys):=by
 refine⟨h.1,fun w X bo hX h2 h3=>(h.2 w X bo hX h2 h3).mono ?_⟩;rintro e w' ⟨v,b,cap,ys',rfl,rfl,hb,hx,hI,dU,hm,rfl⟩;refine⟨_,_,rfl,hx,?_,rfl⟩;obtain⟨hint,cur,cp,i1,i2,i3,i4,i5⟩:=hI;obtain⟨cur',ty',d1,d2⟩:=dU;rw[i1]at d1;cases d1;have qW:b<w'.heap.size:=(KaI.1 i1).1;have e:cp=cap:=by omega
 subst e;refine Qu.sl (w:=w') (X:=X) 1 ys' b 0 cp (fun i j=>cur.getD (i+j) undef) (fun BU=>by have:=hX b BU;omega) qW i3 i4 (DD hint |> fun h i x hx=>(h i x hx).1) (fun i hi j hj=>?_) (fun i x hx j y hy=>?_)
 ·have:j=0:=by omega
  subst this;simp only[Kbe,KbF,KaS];exact lM i1 (by omega)
 ·obtain⟨k,n,rfl⟩:=hint x (Kai hx);cases j with
  |zero=>simp[PV.cells]at hy;subst hy;show Qu w' X (.int k n) (cur.getD (i+0) undef);rw[KaS,i5 i k n hx];exact Qu.int k n
  |succ j=>simp[PV.cells]at hy
def mZ(s:Nat):List Nat->List Nat
 | []=>[]
 |x::xs=>((xs.headD 0*65536+x)/2^s)%65536::mZ s xs
theorem GZ(s:Nat):∀l,(mZ s l).length=l.length
 | []=>rfl
 |x::xs=>by simp[mZ,GZ s xs]
theorem Uk(s:Nat):∀l,Qs (mZ s l)
 | []=>nO
 |x::xs=>by rw[mZ,iq];exact⟨by omega,Uk s xs⟩
theorem acb{s i:Nat}{l:List Nat}(h:i<l.length):mZ s (l.drop i)=((l.getD (i+1) 0*65536+l[i])/2^s)%65536::mZ s (l.drop (i+1)):=by rw[Kaz h,mZ];simp[KbG,Kcu,Kal]
theorem adk{x V s:Nat}(hs:s<=16)(hx:x<65536):(x+65536*V)/2^s=((V%65536*65536+x)/2^s)%65536+65536*(V/2^s):=by
 have hp:0<2^s:=KbN (by omega);have e0:=Kbr V (2^s);have hr:=Kbw V hp;generalize hq:V/2^s=q at *
 generalize W9:V%2^s=r at *
 have hy:V%65536%2^s=r:=by rw[HI hs,Nat.mod_mul_right_mod];exact W9
 have e1:=Kbr (V%65536) (2^s);rw[hy]at e1;generalize V%65536/2^s=t at *
 have ar:(65536*r+x)/2^s<65536:=by rw[Kbn hp];have:65536*(r+1)<=65536*2^s:=Ka7 _ hr;omega
 have k1:x+65536*V=(65536*r+x)+2^s*(65536*q):=by rw[<-e0,Ka1,Kbz];omega
 have k2:V%65536*65536+x=(65536*r+x)+2^s*(65536*t):=by rw[<-e1,KaF,Kbh,KaU t 65536];omega
 rw[k1,k2,Kcs _ _ hp,Kcs _ _ hp,Kcp,KaR ar]
theorem O8{s:Nat}(hs:s<=16):∀l,Qs l->val (mZ s l)=val l/2^s
 | [],_=>by simp[mZ,val]
 | x::xs,h=>by
  rw[iq]at h;rw[mZ,val,O8 hs xs h.2,val,adk hs h.1];have:xs.headD 0=val xs%65536:=by
   cases xs with
   |nil=>simp[val]
   |cons y ys=>have:=h.2 y (by simp);simp[val];omega
  rw[this]
variable {C : Ctx} {ρ : Nat -> Option Nat} {fr ay : Fr} {hp : HP} {w : World} {K K' R R' : Qh}
def cj(fr ay:Fr):Prop:=∀s,ay s=fr s∨ay s= .undef
theorem cj.refl(fr:Fr):cj fr fr:=fun _=>.inl rfl
theorem cj.trans{a b c:Fr}(h:cj a b)(k:cj b c):cj a c:=fun s=>by
 rcases k s with e|e
 ·rw[e];exact h s
 ·exact .inr e
theorem cj.af(h:cj fr ay)(d:Nat){v v':PV}(hv:v'=v∨v'= .undef):cj (af fr d v) (af ay d v'):=fun s=>by
 unfold FW.af;split
 ·exact hv
 ·exact h s
theorem cj.iN(h:cj fr ay)(d:Nat)(v:PV):cj (FW.af fr d v) (FW.af ay d v):=h.af d (.inl rfl)
theorem cj.kill(h:cj fr ay)(β:Nat):cj (cK β fr) (cK β ay):=fun s=>by
 unfold cK;rcases h s with e|e
 ·exact .inl (by rw[e])
 ·right;rw[e];simp[bZ,PV.refs]
theorem cj.ev(h:cj fr ay)(x:aP):ev ay x=ev fr x∨ev ay x= .undef:=by
 cases x with
 |t n=>exact h n
 |c p=>exact .inl rfl
theorem cj.mem(h:cj fr ay){q:PV->Prop}(hq:¬q .undef){l:List aP}(hl:∀p∈l.map (FW.ev ay),q p):l.map (FW.ev ay)=l.map (FW.ev fr):=by
 refine Ka9 fun x hx=>?_;rcases h.ev x with e|e
 ·exact e
 ·exact absurd (e▸hl _ (Kcz hx)) hq
theorem cj.aN(h:cj fr ay){γ bF e ty:Nat}{xs:List PV}(e1:ay γ= .aN bF e ty xs):fr γ= .aN bF e ty xs:=by
 rcases h γ with e2|e2
 ·rw[<-e2];exact e1
 ·rw[e1]at e2;cases e2
theorem cj.drop(h:cj fr ay)(γ:Nat):cj (iR γ fr) (iR γ ay):=fun s=>by
 unfold iR;rcases h s with e|e
 ·exact .inl (by rw[e])
 ·right;rw[e];rfl
theorem cj.take(h:cj fr ay)(β:Nat):cj (fT β fr) (fT β ay):=fun s=>by
 unfold fT;rcases h s with e|e
 ·exact .inl (by rw[e])
 ·right;rw[e];simp[dh,bZ,PV.refs]
theorem cj.wk(h:cj fr ay):Wk fr hp ay hp:=by
 rintro C tmps w ⟨ρ,hs⟩;refine⟨ρ,hs.sz,hs.ext,hs.ij,hs.own,hs.inj,fun s=>?_⟩;rcases h s with h|h<;>rw[h]
 ·exact hs.fh s
 ·trivial
theorem cj.XS{tmps:Array Value}(h:cj fr ay)(hs:aI C ρ fr hp tmps w):aI C ρ ay hp tmps w:=by
 refine⟨hs.sz,hs.ext,hs.ij,hs.own,hs.inj,fun s=>?_⟩;rcases h s with h|h<;>rw[h]
 ·exact hs.fh s
 ·trivial
theorem Gs(h:cj fr ay)(x:Option aP):x.map (ev ay)=x.map (ev fr)∨x.map (ev ay)=some .undef:=by
 cases x with
 |none=>exact .inl rfl
 |some x=>rcases h.ev x with e|e<;>simp[e]
theorem Yh(d:Int):iD d (some .undef)=none:=rfl
theorem IK (h:cj fr ay) (hK:∀f f' hp,cj f f'->K' f' hp->K f hp) (o:cB):bu C o ay hp K'->bu C o fr hp K:=by
 have hu:∀(d:Nat)(v:PV)(hp:HP),K' (af ay d v) hp->K (af fr d v) hp:=fun d v hp H=>hK _ _ _ (h.iN d v) H;have hk:∀(β d:Nat)(v:PV)(hp:HP),K' (af (cK β ay) d v) hp->K (af (cK β fr) d v) hp:=fun β d v hp H=>hK _ _ _ ((h.kill β).iN d v) H;have hz:∀hp,K' ay hp->K fr hp:=fun hp H=>hK _ _ _ h H;have mono:∀ {o:cB},bu C o fr hp K'->bu C o fr hp K:=fun H=>Ig (fun f hp H=>hK _ _ _ (cj.refl f) H) _ H;cases o with
 |mv d x=>exact fun H=>hK _ _ _ (h.af d (h.ev x)) H
 | pick d c a b=>
  simp only[bu,sh];rcases h.ev c with e|e
  ·rw[e];split
   ·exact fun H=>⟨fun t=>hK _ _ _ (h.af d (h.ev a)) (H.1 t),fun t=>hK _ _ _ (h.af d (h.ev b)) (H.2 t)⟩
   ·exact id
  ·rw[e];exact False.elim
 | call d pr f args=>
  simp only[bu,mQ];rcases h.ev f with e|e
  ·rw[e];split
   ·rintro⟨h1,h2⟩;refine⟨h1,fun ρ tmps w fv cv av a1 a2 a3 a4 a5 a6 a7 a8=>?_⟩;refine(h2 ρ tmps w fv cv av a1 (h.XS a2) a3 a4 (by simpa using a5) a6 a7 (fun i x hx=>?_)).mono ?_
    ·simp only[Kay,Kaa]at hx;obtain⟨y,hy,rfl⟩:=hx;rcases h.ev y with e|e
     ·rw[e];exact a8 i _ (by simp[hy])
     ·rw[e];trivial
    ·rintro e w' ⟨v,f1,an,e1,e2,e3,e4⟩;exact⟨v,f1,an,e1,e2,e3,hK _ _ _ (cj.refl _) e4⟩
   ·exact id
  ·rw[e];exact False.elim
 | bs d e ty ps=>
  simp only[bu,og];by_cases hb:oO (ps.map (ev ay))=true
  ·rw[if_pos hb];rintro⟨h1,h2⟩;have e:ps.map (ev ay)=ps.map (ev fr):=by
    match ps,hb with
    | [],hb=>simp[oO]at hb
    | [p],hb=>
     rcases h.ev p with e|e
     ·simp[e]
     ·rw[Kbd,Kbu,e]at hb;simp[oO,lT]at hb
    |p::q::ps,hb=>simp[oO]at hb
   rw[e]at h2 hb;rw[if_pos hb];exact⟨h1,hK _ _ _ (((h.take _).iN _ _).iN _ _) h2⟩
  ·rw[if_neg hb];rintro⟨h1,h2,h3⟩;have e:=h.mem (q:=fun p=>(aK hp p).aE=true) (by simp[aK,cE,PV.aE]) (l:=ps) (fun p hp=>(h2 p hp).1);rw[e]at h2 h3 hb;rw[if_neg hb];exact⟨h1,h2,hk _ _ _ _ h3⟩
 | bU d z ps=>
  have key:((∀x∈ps,ev ay x.2.2≠ .undef)->(ps.map fun p=>(p.1,p.2.1,ev ay p.2.2))=ps.map fun p=>(p.1,p.2.1,ev fr p.2.2)):=fun hu=>by
   refine Ka9 fun x hx=>?_;rcases h.ev x.2.2 with e|e
   ·rw[e]
   ·exact absurd e (hu x hx)
  intro H;simp only[bu,kK]at H;split at H
  ·rename_i hn;obtain⟨h2,h3⟩:=H;have e:=key fun x hx e=>by obtain⟨cs,h4,_⟩:=h2 _ (Kcz hx);rw[e]at h4;simp[fI]at h4
   rw[e]at h2 h3 hn;simp only[bu,kK];rw[if_pos hn];exact⟨h2,hK _ _ _ (h.iN _ _) h3⟩
  ·rename_i hn;obtain⟨h2,h3⟩:=H;have e:=key fun x hx e=>by have:=(h2 _ (Kcz hx)).1;rw[e]at this;simp[aK,cE,PV.aE]at this
   rw[e]at h2 h3 hn;simp only[bu,kK];rw[if_neg hn];exact⟨h2,hK _ _ _ (h.iN _ _) h3⟩
 |fn d f first cap=>simp only[bu];rintro⟨h2,h3⟩;have nh:=h2;rw[List.all_append,Kat,Kav,Kav]at nh;have e1:=h.mem (q:=fun p=>p.kQ=true) (by simp[PV.kQ]) nh.1;have e2:=h.mem (q:=fun p=>p.kQ=true) (by simp[PV.kQ]) nh.2;rw[e1,e2]at h2 h3;exact⟨h2,hK _ _ _ (h.iN _ _) h3⟩
 | B8 d x=>
  simp only[bu,AK];rcases h.ev x with e|e
  ·rw[e];intro H;revert H
   repeat' split
   all_goals first|exact id|exact hz _|exact hu _ _ _|grind
  ·rw[e];intro H;revert H;repeat' split
   all_goals first|exact id|exact False.elim|grind
 | bin d op bt x y=>
  simp only[bu];rcases h.ev x with e|e<;>rcases h.ev y with e'|e'<;>rw[e,e']
  ·unfold cg;intro H;revert H;split
   ·split<;>first|exact fun H=>⟨H.1,hu _ _ _ H.2⟩|exact fun H=>⟨H.1,H.2.1,hu _ _ _ H.2.2⟩|exact id
   ·split<;>first|exact fun H=>⟨H.1,hu _ _ _ H.2⟩|exact id
   ·exact id
  all_goals
   unfold cg;intro H;revert H
   repeat' split
   all_goals first|exact False.elim|(intros;simp_all;done)|(rename_i h1 _;cases h1;done)|(rename_i h1;cases h1;done)
 | sl d e x lo hi mx=>
  simp only[bu,iM];rcases h.ev x with e0|e0<;>rcases Gs h lo with e1|e1<;>rcases Gs h hi with e2|e2<;>rcases Gs h mx with e3|e3<;>rw[e0,e1,e2,e3]
  all_goals
   intro H;revert H
   try simp only[Yh]
   repeat' split
   all_goals first|exact id|exact False.elim|(intros;simp_all;done)|grind
 | ld d n ag x=>
  simp only[bu,kT];rcases h.ev x with e|e
  ·rw[e];intro H;revert H;split
   ·split
    ·exact fun⟨a,b,c,k⟩=>⟨a,b,c,hu _ _ _ k⟩
    ·exact id
   ·exact fun⟨a,b,k⟩=>⟨a,b,hu _ _ _ k⟩
   ·exact fun⟨a,b,k⟩=>⟨a,b,hu _ _ _ k⟩
   ·intro H;split at H
    ·rename_i ak;rw[h.aN ak];obtain⟨a,b,c,d,k⟩:=H;exact⟨a,b,c,d,hu _ _ _ k⟩
    ·exact H.elim
   ·exact id
  ·rw[e];exact fun H=>H.elim
 | st n x y=>
  simp only[bu,ph];rcases h.ev x with e|e<;>rcases h.ev y with e'|e'<;>rw[e,e']
  ·intro H;revert H;split
   ·split
    ·exact fun⟨a,b,c,d,f,k⟩=>⟨a,b,c,d,f,hz _ k⟩
    ·exact id
   ·intro H;split at H
    ·rename_i ak;rw[h.aN ak];obtain⟨a,b,c,d,H⟩:=H;refine⟨a,b,c,d,?_⟩;revert H;split
     ·exact fun⟨f,k⟩=>⟨f,hK _ _ _ ((h.drop _).iN _ _) k⟩
     ·exact id
    ·exact H.elim
   ·exact id
  ·intro H;exfalso;revert H;split
   ·split
    ·rintro⟨_,b,_⟩;simp[aK,cE,PV.aE]at b
    ·exact id
   ·split
    ·rintro⟨_,_,_,_,H⟩;exact H
    ·exact id
   ·exact id
  ·exact fun H=>H.elim
  ·exact fun H=>H.elim
 | app d e by_ ty x y=>
  simp only[bu,iU];rcases h.ev y with e'|e'
  ·rw [e'];intro H;revert H;split
   ·unfold yn;split
    ·rename_i δ _;rcases h δ with e2|e2
     ·rw [e2];split
      ·rintro⟨a1,a2,a3,H⟩;refine⟨a1,a2,a3,?_⟩;rcases h.ev x with e|e
       ·rw[e]at H;revert H;split
        ·exact fun H=>⟨H.1,hK _ _ _ (((h.take _).iN _ _).iN _ _) H.2⟩
        ·rename_i γ k _;rcases h γ with e3|e3
         ·rw[e3];split
          ·exact fun H=>⟨H.1,H.2.1,hK _ _ _ (((h.take _).iN _ _).iN _ _) H.2.2⟩
          ·exact id
         ·rw[e3];exact fun H=>H.elim
        ·exact id
       ·rw[e]at H;exact H.elim
      ·exact id
     ·rw[e2];exact fun H=>H.elim
    ·exact id
   ·rintro⟨h0,h1,H⟩;refine⟨h0,h1,?_⟩;rcases h.ev x with e|e
    ·rw[e]at H;revert H;split
     ·rintro⟨a,b,c⟩;exact⟨a,b,hk _ _ _ _ c⟩
     ·split
      ·rintro(⟨a1,a2,a3,a4,a5,a6,a7,c⟩|⟨a1,a2,a3,c⟩)
       ·exact .inl ⟨a1,a2,a3,a4,a5,a6,a7,hk _ _ _ _ c⟩
       ·exact .inr ⟨a1,a2,a3,hK _ _ _ ((h.take _).iN _ _) c⟩
      ·exact id
     ·exact id
    ·rw[e]at H;exact H.elim
  ·rw[e'];exact fun H=>H.elim
 | un d op x|conv d k x|len d x|Cj d x|cC d o x|yA d o n ag x|ext d x i=>
  all_goals
   simp only[bu,uP,vI,oN,vR,qR,qL,kT,kJ]
   try (rcases h.ev x with e|e<;>rw[e])
  all_goals
   intro H;revert H
   repeat' split
   all_goals first|exact id|exact False.elim|exact hu _ _ _|grind [aK,cE,PV.aE]
 | box d n ty x=>
  simp only[bu];rcases h.ev x with e|e
  ·rw[e];unfold gd;split
   ·unfold tR;exact fun H=>⟨H.1,hK _ _ _ (((h.take _).iN _ _).iN _ _) H.2⟩
   ·split
    ·exact hu _ _ _
    ·exact fun H=>⟨H.1,H.2.1,H.2.2.1,hk _ _ _ _ H.2.2.2⟩
  ·rw[e];intro H;simp[gd,aK,cE,PV.aE]at H
 | alloc d n ty z=>
  simp only[bu];unfold gd;split
  ·unfold tR;exact fun H=>⟨H.1,hK _ _ _ (((h.take _).iN _ _).iN _ _) H.2⟩
  ·split
   ·exact hu _ _ _
   ·exact fun H=>⟨H.1,H.2.1,H.2.2.1,hk _ _ _ _ H.2.2.2⟩
 | eqs d ng x y|Ck d ng x y|Ci d x y|mx d x y|mn d x y|idx d e x y|BZ d n e x y|B1 d n e ag x y|mk d e by_ ty z x y|uc d e x y=>
  all_goals
   simp only[bu,qP,qQ,tT,wQ,wP,dR,qK,ym,ph,nE,iU,tS];rcases h.ev x with e|e<;>rcases h.ev y with e'|e'<;>rw[e,e']
  all_goals
   intro H;revert H
   repeat' split
   all_goals first|exact id|exact False.elim|exact hu _ _ _|grind [aK,cE,PV.aE,jE]
 |bad d=>exact id
end Go.FW
namespace Go.FW
open Go
variable {C : Ctx} {ρ : Nat -> Option Nat} {fr ay : Fr} {hp : HP} {w : World} {K K' R R' : Qh}
def KM(K' K:Qh):Prop:=∀f f' hp,cj f f'->K' f' hp->K f hp
inductive mV:List It->List It->Prop
 |nil:mV [] []
 |c (s:SC) {a b:List It}:mV a b->mV (.c s::a) (.c s::b)
 |o (r:RT) {a b:List It}:mV a b->mV (.o r::a) (.o r::b)
 |eb (i:Nat) {a b:List It}:mV a b->mV (.eb i::a) (.eb i::b)
 |el {J' J:Qh} {a b:List It}:KM J' J->mV a b->mV (.el J'::a) (.el J::b)
theorem mV.exit{id:Nat}:∀ {a b:List It},mV a b->(∃a' b',FW.cw id a=some a'/\FW.cw id b=some b'/\mV a' b'/\bY a'<=bY a)∨(FW.cw id a=none/\FW.cw id b=none):=by
 intro a b h;induction h with
 |nil=>exact .inr ⟨rfl,rfl⟩
 |c s h ih|o s h ih=>
  rcases ih with⟨a',b',h1,h2,h3,h4⟩|⟨h1,h2⟩
  ·exact .inl ⟨a',b',by simpa[FW.cw]using h1,by simpa[FW.cw]using h2,h3,by simp only[bY];omega⟩
  ·exact .inr ⟨by simpa[FW.cw]using h1,by simpa[FW.cw]using h2⟩
 |el _ h ih=>
  rcases ih with⟨a',b',h1,h2,h3,h4⟩|⟨h1,h2⟩
  ·exact .inl ⟨a',b',by simpa[FW.cw]using h1,by simpa[FW.cw]using h2,h3,by simp only[bY];omega⟩
  ·exact .inr ⟨by simpa[FW.cw]using h1,by simpa[FW.cw]using h2⟩
 | eb i h ih=>
  by_cases hi:i=id
  ·exact .inl ⟨_,_,by simp[FW.cw,hi],by simp[FW.cw,hi],h,by simp only[bY];omega⟩
  ·rcases ih with⟨a',b',h1,h2,h3,h4⟩|⟨h1,h2⟩
   ·exact .inl ⟨a',b',by simpa[FW.cw,hi]using h1,by simpa[FW.cw,hi]using h2,h3,by simp only[bY];omega⟩
   ·exact .inr ⟨by simpa[FW.cw,hi]using h1,by simpa[FW.cw,hi]using h2⟩
theorem Dp(h:cj fr ay)(hK:KM K' K)(o:cB):jF o ay hp K'->jF o fr hp K:=by
 unfold jF;split
 ·exact hK _ _ _ (h.iN _ _)
 ·exact hK _ _ _ h
theorem adl(h:cj fr ay)(hK:KM K' K)(g:Option (Nat×Bool))(o:cB):oP C g o ay hp K'->oP C g o fr hp K:=by
 unfold oP;split
 ·exact IK h hK o
 ·rename_i s want;rcases h s with e|e
  ·rw[e];split
   ·exact fun H=>⟨fun t=>IK (h.iN _ _) hK o (H.1 t),fun t=>Dp (h.iN _ _) hK o (H.2 t)⟩
   ·exact Dp h hK o
   ·exact id
  ·rw[e];exact False.elim
theorem r8(hR:KM R' R):∀(n:Nat)(eS sk:List It)(ay fr:Fr)(hp:HP),bY eS<=n->mV eS sk->cj fr ay->vc C R' eS ay hp->vc C R sk fr hp:=by
 intro n;induction n with
 |zero=>
  intro eS sk ay fr hp hn hs hf h;cases hs with
  |nil=>rw[vC]at h ⊢;exact hR _ _ _ hf h
  |el hJ _=>rw[vG]at h ⊢;exact hJ _ _ _ hf h
  |c s _=>exfalso;have:=SC.zg s;simp only[bY,It.sz]at hn;omega
  |o s _=>exfalso;have:=RT.zg s;simp only[bY,It.sz]at hn;omega
  |eb _ _=>exfalso;simp only[bY,It.sz]at hn;omega
 | succ n ih=>
  intro eS sk ay fr hp hn hs hf h;cases hs with
  |nil=>rw[vC]at h ⊢;exact hR _ _ _ hf h
  |el hJ _=>rw[vG]at h ⊢;exact hJ _ _ _ hf h
  |eb i hs=>rw[Cq]at h⊢;exact ih _ _ _ _ _ (by simp only[bY,It.sz]at hn;omega) hs hf h
  | o r hs=>
   cases r with
   |nil=>rw[AE]at h ⊢;exact ih _ _ _ _ _ (by simp only[bY,It.sz,RT.sz]at hn;omega) hs hf h
   |o g o r=>rw[Rp]at h⊢;exact adl (K':=fun fr hp=>vc C R' (.o r::_) fr hp) (K:=fun fr hp=>vc C R (.o r::_) fr hp) hf (fun f f' hp hf' H=>ih (.o r::_) (.o r::_) _ _ hp (by simp only[bY,It.sz,RT.sz]at hn ⊢;omega) (.o r hs) hf' H) g o h
   |wk r=>rw[Eu]at h⊢;obtain⟨bI,aF,hw,h⟩:=h;exact⟨bI,aF,hf.wk.trans hw,ih (.o r::_) (.o r::_) _ _ _ (by simp only[bY,It.sz,RT.sz]at hn ⊢;omega) (.o r hs) (cj.refl _) h⟩
   |br x y=>rw[Rq]at h⊢;exact⟨ih (.o x::_) (.o x::_) _ _ _ (by simp only[bY,It.sz,RT.sz]at hn ⊢;omega) (.o x hs) hf h.1,ih (.o y::_) (.o y::_) _ _ _ (by simp only[bY,It.sz,RT.sz]at hn ⊢;omega) (.o y hs) hf h.2⟩
  | @c s a b hs=>
   cases s with
   |skip=>rw[Ef]at h ⊢;exact ih _ _ _ _ _ (by simp only[bY,It.sz,SC.sz]at hn;omega) hs hf h
   |rg r=>rw[Gv]at h ⊢;exact ih (.o r::_) (.o r::_) _ _ _ (by simp only[bY,It.sz,SC.sz]at hn ⊢;omega) (.o r hs) hf h
   | raw id ops=>
    rw[vc]at h⊢;intro tmps w Q qj hQ;refine h tmps w Q ?_ fun nd ft aqx w2 fw hv=>hQ nd ft aqx w2 fw ?_
    ·obtain⟨ρ,qj⟩:=qj;exact⟨ρ,hf.XS qj⟩
    ·exact ih _ _ _ _ _ (by simp only[bY,It.sz,SC.sz]at hn;omega) hs (cj.refl _) hv
   |seq x y=>rw[Ev]at h ⊢;exact ih (.c x:: .c y::_) (.c x:: .c y::_) _ _ _ (by simp only[bY,It.sz,SC.sz]at hn ⊢;omega) (.c x (.c y hs)) hf h
   |block id x=>rw[DG]at h ⊢;exact ih (.c x:: .eb id::_) (.c x:: .eb id::_) _ _ _ (by simp only[bY,It.sz,SC.sz]at hn ⊢;omega) (.c x (.eb id hs)) hf h
   |ret=>rw[Ew]at h ⊢;exact hR _ _ _ hf h
   | cond c x y=>
    rw[Eg]at h⊢;rcases hf.ev c with e|e
    ·rw[e]at h;unfold tM at h⊢;split at h
     ·exact⟨fun e=>ih (.c x::_) (.c x::_) _ _ _ (by simp only[bY,It.sz,SC.sz]at hn ⊢;omega) (.c x hs) hf (h.1 e),fun e=>ih (.c y::_) (.c y::_) _ _ _ (by simp only[bY,It.sz,SC.sz]at hn ⊢;omega) (.c y hs) hf (h.2 e)⟩
     ·exact h
    ·rw[e]at h;exact h.elim
   | exit id=>
    rw[Eh]at h⊢;rcases hs.exit (id:=id)with⟨a',b',h1,h2,h3,h4⟩|⟨h1,h2⟩
    ·rw[h1]at h;rw[h2];simp only[vH]at h⊢;exact ih _ _ _ _ _ (by simp only[bY,It.sz,SC.sz]at hn;omega) h3 hf h
    ·rw[h1]at h;exact h.elim
   |loop x=>rw[u6]at h⊢;obtain⟨I,μ,⟨bI,aF,h1,jI⟩,h2⟩:=h;refine⟨I,μ,⟨bI,aF,hf.wk.trans h1,jI⟩,fun fr hp hI=>?_⟩;refine ih (.c x:: .el _::_) (.c x:: .el _::_) _ _ _ (by simp only[bY,It.sz,SC.sz]at hn ⊢;omega) (.c x (.el ?_ hs)) (cj.refl _) (h2 fr hp hI);rintro f f' an hf ⟨bI,aF,g1,g2,g3⟩;exact⟨bI,aF,hf.wk.trans g1,g2,g3⟩
def lH:List (Nat×Nat)->Nat->Bool
 | [],_=>false
 |(a,b)::W,s=>(decide (a<=s)&&decide (s<=b))||lH W s
theorem aff(s:Nat):lH [] s=false:=rfl
theorem DE(a b s:Nat)(W:List (Nat×Nat)):lH ((a,b)::W) s=((decide (a<=s)&&decide (s<=b))||lH W s):=rfl
def aQ(W:List (Nat×Nat))(J F:Fr):Fr:=fun s=>if lH W s then J s else F s
theorem RD(W:List (Nat×Nat))(J F:Fr)(s:Nat):aQ W J F s=if lH W s then J s else F s:=rfl
theorem PO{W:List (Nat×Nat)}{a:Nat}{v:PV}{J F:Fr}(h:lH W a=true):af (aQ W J F) a v=aQ W (af J a v) F:=by
 funext s;unfold af aQ;by_cases hs:s=a
 ·subst hs;rw[if_pos rfl,if_pos h];simp
 ·rw[if_neg hs];split
  ·simp[hs]
  ·rfl
theorem adm{W:List (Nat×Nat)}{a:Nat}{v:PV}{J F:Fr}:af (aQ W J F) a v=if lH W a=true then aQ W (af J a v) F else aQ ((a,a)::W) (af J a v) F:=by
 split
 ·exact PO ‹_›
 ·funext s;unfold af aQ;by_cases hs:s=a
  ·subst hs;simp[lH]
  ·have:(decide (a<=s)&&decide (s<=a))=false:=by rw[Bool.and_eq_false_iff];simp only[decide_eq_false_iff_not];omega
   simp only[DE,this,Kcn,if_neg hs]
theorem acd{W:List (Nat×Nat)}{β:Nat}{J F:Fr}:cK β (aQ W J F)=aQ W (cK β J) (cK β F):=by funext s;unfold cK aQ;split<;>rfl
def bG(B:List Nat)(F:Fr):Fr:=fun s=>if(F s).refs.any B.contains then .undef else F s
theorem jR(F:Fr):bG [] F=F:=by funext s;simp[bG]
theorem CJ{β:Nat}{B:List Nat}{F:Fr}(h:B.contains β=true):cK β (bG B F)=bG B F:=by
 funext s;show bZ β (bG B F s)=bG B F s;by_cases h1:(F s).refs.any B.contains=true
 ·have:bG B F s= .undef:=if_pos h1;rw[this];rfl
 ·have:bG B F s=F s:=if_neg h1;rw[this,bZ,if_neg];intro h2;exact h1 (Ka2.2 ⟨β,by simpa using h2,h⟩)
theorem Yi{β:Nat}{B:List Nat}{F:Fr}:cK β (bG B F)=if B.contains β=true then bG B F else bG (β::B) F:=by
 split
 ·exact CJ ‹_›
 ·funext s;show bZ β (bG B F s)=bG (β::B) F s;unfold bG bZ;by_cases h1:(F s).refs.any B.contains=true
  ·have h2:(F s).refs.any (β::B).contains=true:=by obtain⟨x,hx,mo⟩:=Ka2.1 h1;exact Ka2.2 ⟨x,hx,by rw[Kax,mo,Kdb]⟩
   simp only[if_pos h1,if_pos h2];rfl
  ·simp only[if_neg h1];by_cases h2:(F s).refs.contains β=true
   ·have h3:(F s).refs.any (β::B).contains=true:=Ka2.2 ⟨β,by simpa using h2,by simp⟩;rw[if_pos h2,if_pos h3]
   ·rw[if_neg h2,if_neg];intro h3;obtain⟨x,hx,mo⟩:=Ka2.1 h3;rw[Kax,KbS]at mo;rcases mo with e|e
    ·have:x=β:=by simpa using e
     subst this;exact h2 (by simpa using hx)
    ·exact h1 (Ka2.2 ⟨x,hx,e⟩)
theorem HJ(B:List Nat)(F:Fr)(s:Nat):bG B F s=if(F s).refs.any B.contains then .undef else F s:=rfl
theorem H3(W:List (Nat×Nat))(B:List Nat):cj fr (aQ W fr (bG B fr)):=fun s=>by
 unfold aQ bG;split
 ·exact .inl rfl
 ·split
  ·exact .inr rfl
  ·exact .inl rfl
def yb(W:List (Nat×Nat))(F:Fr)(I:Nat->Fr->HP->Prop)(n:Nat):Qh:=fun ay an=>∃J m,cj ay (aQ W J F)/\m<n/\I m J an
theorem Qg{W:List (Nat×Nat)}{F J:Fr}{I:Nat->Fr->HP->Prop}{n:Nat}(m:Nat)(hl:m<n)(h:I m J hp):yb W F I n (aQ W J F) hp:=⟨J,m,cj.refl _,hl,h⟩
theorem adn{W:List (Nat×Nat)}{F:Fr}{I:Nat->Fr->HP->Prop}{n:Nat}:KM (yb W F I n) (yb W F I n):=by rintro f f' hp hf ⟨J,m,h1,h2,h3⟩;exact⟨J,m,hf.trans h1,h2,h3⟩
def gy(R:Qh)(sk:List It):Prop:=KM R R/\mV sk sk
theorem Qw{sk:List It}{x:SC}(cx:gy R sk)(W:List (Nat×Nat))(B:List Nat)(I:Nat->Fr->HP->Prop)(m0:Nat)(h0:I m0 fr hp)
  (h:∀m J hp,I m J hp->vc C R (.c x:: .el (yb W (bG B fr) I m)::sk) (aQ W J (bG B fr)) hp):vc C R (.c (.loop x)::sk) fr hp:=by
 refine zT (fun m ay an=>∃J,ay=aQ W J (bG B fr)/\I m J an) m0 (H3 W B).wk ⟨fr,rfl,h0⟩ ?_;rintro m _ an ⟨J,rfl,hI⟩;refine r8 cx.1 _ _ _ _ _ _ (Kac _) (.c x (.el ?_ cx.2)) (cj.refl _) (h m J an hI);rintro f f' ft hf ⟨J2,m2,e2,hl,h2⟩;exact Ib hl (hf.trans e2).wk ⟨J2,rfl,h2⟩
def oR(W:List (Nat×Nat))(F:Fr)(M:Fr->HP->Prop):Qh:=fun ay an=>∃J,cj ay (aQ W J F)/\M J an
theorem Aw{W:List (Nat×Nat)}{F J:Fr}{M:Fr->HP->Prop}(h:M J hp):oR W F M (aQ W J F) hp:=⟨J,cj.refl _,h⟩
theorem El{W:List (Nat×Nat)}{F:Fr}{M:Fr->HP->Prop}:KM (oR W F M) (oR W F M):=by rintro f f' hp hf ⟨J,h1,h3⟩;exact⟨J,hf.trans h1,h3⟩
theorem Qj{sk:List It}{W:List (Nat×Nat)}{F:Fr}{I:Nat->Fr->HP->Prop}{n:Nat}(h:gy R sk):gy R (.el (yb W F I n)::sk):=⟨h.1,.el adn h.2⟩
theorem Qq{sk:List It}{W:List (Nat×Nat)}{F:Fr}{M:Fr->HP->Prop}(h:gy R sk):gy R (.el (oR W F M)::sk):=⟨h.1,.el El h.2⟩
theorem Qx{sk:List It}{i:Nat}(h:gy R sk):gy R (.eb i::sk):=⟨h.1,.eb i h.2⟩
theorem Q5{sk:List It}{s:SC}(h:gy R sk):gy R (.c s::sk):=⟨h.1,.c s h.2⟩
theorem Q6{sk:List It}{s:RT}(h:gy R sk):gy R (.o s::sk):=⟨h.1,.o s h.2⟩
theorem Qi{sk:List It}{I:Nat->Qh}{n:Nat}(h:gy R sk):gy R (.el (xR I n)::sk):=⟨h.1,.el (fun f f' hp hf ⟨a,b,h1,h2⟩=>⟨a,b,hf.wk.trans h1,h2⟩) h.2⟩
theorem PR{rs:List RV}{Rr:PV->Prop}:KM (gf rs Rr) (gf rs Rr):=by
 have one:∀(f f':Fr)(hp:HP)(r:RV),cj f f'->kC f' hp r->kC f hp r/\jP f' hp r=jP f hp r:=by
  intro f f' hp r hf ho;cases r with
  |t s=>
   simp only[kC,jP]at ho⊢;rcases hf s with e|e
   ·rw[e]at ho ⊢;exact⟨ho,rfl⟩
   ·rw[e]at ho;simp[aK,cE,PV.aE]at ho
  |cell s n ag=>
   simp only[kC,jP]at ho⊢;rcases hf s with e|e
   ·rw[e]at ho ⊢;exact⟨ho,rfl⟩
   ·rw[e]at ho;exact ho.elim
 intro f f' hp hf h;unfold gf at h⊢;split at h
 ·rename_i r;obtain⟨h1,h2⟩:=h;obtain⟨g1,g2⟩:=one f f' hp r hf h1;rw[g2]at h2;exact⟨g1,h2⟩
 ·obtain⟨h1,h2⟩:=h;have e:rs.map (jP f' hp)=rs.map (jP f hp):=Ka9 fun r hr=>(one f f' hp r hf (h1 r hr)).2;rw[e]at h2;exact⟨fun r hr=>(one f f' hp r hf (h1 r hr)).1,h2⟩
theorem ado{rs:List RV}{ty:TypeId}{len:Nat}{ck:PV->List PV->Prop}:KM (si rs ty len ck) (si rs ty len ck):=by
 rintro f f' hp hf ⟨xs',h1,h2,h3,h4⟩;refine⟨xs',h1,h2,h3,?_⟩;rcases h4 with h4|⟨s,o,n,h4,h5,h6⟩
 ·exact .inl (PR _ _ _ hf h4)
 ·refine .inr ⟨s,o,n,h4,?_,h6⟩;rcases hf s with e|e
  ·rw[<-e];exact h5
  ·rw[h5]at e;cases e
theorem adp{rs:List RV}{ty:TypeId}{ck:List PV->Prop}:KM (ya rs ty ck) (ya rs ty ck):=by
 rintro f f' hp hf ⟨s,β,n,xs,h1,h2,h3⟩;refine⟨s,β,n,xs,h1,?_,h3⟩;rcases hf s with e|e
 ·rw[<-e];exact h2
 ·rw[h2]at e;cases e
theorem Qr{rs:List RV}{Rr:PV->Prop}:gy (gf rs Rr) []:=⟨PR,.nil⟩
theorem Qk{rs:List RV}{ty:TypeId}{len:Nat}{ck:PV->List PV->Prop}:gy (si rs ty len ck) []:=⟨ado,.nil⟩
theorem Ql{rs:List RV}{ty:TypeId}{ck:List PV->Prop}:gy (ya rs ty ck) []:=⟨adp,.nil⟩
theorem kZ{sk:List It}{x:SC}(i β e ty:Nat)(he:0<e)(hi:fr i= .aa)(h:vc C R (.c (.loop x)::sk) (af (cK β fr) i (.ms β 0)) (Qz hp β ⟨e,ty,[],false⟩))(hB:cd β=false:=by decide):vc C R (.c (.loop x)::sk) fr hp:=by rw[u6]at h⊢;obtain⟨I,μ,⟨bI,aF,h1,jI⟩,h2⟩:=h;exact⟨I,μ,⟨bI,aF,(Rt i β e ty he hi hB).trans h1,jI⟩,h2⟩
end Go.FW
namespace Go.FW
open Go
variable {C : Ctx} {fr : Fr} {hp : HP} {w : World} {K R : Qh}
theorem ZH{P:Program}{f:FuncId}{k:IntKind}{x:Int}{r:PV}{v:Value}(hg:oQ P f)(h:∀w,Calls P f #[.int k x] w fun e w'=>e= .returned v/\w'=w)(hr:∀w X,dH w X r v):Qc P f [.int k x] (· =r):=by
 refine⟨hg,fun w X bo hX hs cN=>?_⟩;have h0:∀u,Qu w X (.int k x) u->u= .int k x:=fun u hu=>by cases hu;rfl
 have e:bo= #[.int k x]:=by
  have h1:bo.getD 0 undef= .int k x:=h0 _ (cN 0 _ rfl);apply Array.ext
  ·simpa using hs
  ·intro i hi aB;have qb:i=0:=by simp at aB;omega
   subst qb;simpa[Array.getD,hi]using h1
 rw[e];refine(h w).mono ?_;rintro e w' ⟨rfl,rfl⟩;exact⟨v,r,rfl,Ext.refl _ _,hr _ _,rfl⟩
end Go.FW
namespace Go.FW
open Go
variable {C : Ctx} {fr : Fr} {hp : HP} {w : World} {K R : Qh}
theorem ace(a b:Nat)(sD:a≠b)(h:HP)(v w:HB):Qz (Qz h a v) b w=Qz (Qz h b w) a v:=by
 funext c;unfold Qz;by_cases h1:c=a
 ·subst h1;simp[sD]
 ·simp[h1]
theorem Q74{V W P v1 v2 v0 hi u2 w0:Nat}(hV:V=(v1*65536+v2)*P+v0)(hW:W=(hi*65536+u2)*P+w0)(FM:w0<P)(wJ:u2<65536)(h1:0<v1):W<(hi/v1+1)*V:=by
 have e1:hi+1<=(hi/v1+1)*v1:=by have:=Kbr hi v1;have:=Kbw hi h1;rw[KaF,KaU];omega
 have e2:W<(hi+1)*65536*P:=by have:(hi*65536+u2+1)*P<=(hi+1)*65536*P:=Kaf _ (by omega);rw[KaF _ 1]at this;omega
 refine KaO e2 ?_
 calc (hi+1)*65536*P<=((hi/v1+1)*v1)*65536*P:=Kaf _ (Kaf _ e1)
  _=(hi/v1+1)*(v1*65536*P):=by rw[Kbh,Kbh,Kbh]
  _<=(hi/v1+1)*V:=Ka7 _ (by rw[hV,KaF];omega)
theorem adZ{V W P v1 v2 v0 hi u2 w0 d r:Nat}(hV:V=(v1*65536+v2)*P+v0)(hW:W=(hi*65536+u2)*P+w0)(FM:w0<P)(hd:d*v1+r=hi)(ht:r*65536+u2<d*v2):W<d*V:=by
 have h1:hi*65536+u2+1<=d*(v1*65536+v2):=by rw[Ka1,<-Nat.mul_assoc,<-hd,KaF];omega
 have h2:W<(hi*65536+u2+1)*P:=by rw[hW,KaF _ 1];omega
 refine KaO h2 (Kaw (Kaf _ h1) ?_);rw[Kbh];exact Ka7 _ (by rw[hV];exact Nat.le_add_right _ _)
theorem ad0{V W P v1 v2 v0 hi u2 w0 e r:Nat}(hV:V=(v1*65536+v2)*P+v0)(hW:W=(hi*65536+u2)*P+w0)(BR:v0<P)(BS:1<=v1)(he:e+1<65536)(hd:(e+1)*v1+r=hi)(ht:¬r*65536+u2<(e+1)*v2):e*V<=W:=by
 have h1:(e+1)*(v1*65536+v2)<=hi*65536+u2:=by rw[Ka1,<-Nat.mul_assoc,<-hd,KaF ((e+1)*v1)];omega
 have h2:e*v0<=(v1*65536+v2)*P:=KaK (by omega) (by omega)
 calc e*V=e*(v1*65536+v2)*P+e*v0:=by rw[hV,Ka1,Kbh]
  _<=e*(v1*65536+v2)*P+(v1*65536+v2)*P:=Nat.add_le_add_left h2 _
  _=(e+1)*(v1*65536+v2)*P:=by rw[KaF e,KcW,KaF (e*_)]
  _<=(hi*65536+u2)*P:=Kaf _ h1
  _<=W:=by rw[hW];exact Nat.le_add_right _ _
theorem ad1{V W P v1 v2 v0 hi u2 w0:Nat}(hV:V=(v1*65536+v2)*P+v0)(hW:W=(hi*65536+u2)*P+w0)(BR:v0<P)(h:W<65536*V)(hP:0<P):hi<=v1*65536+v2:=by
 have h1:hi*(65536*P)<(v1*65536+v2+1)*(65536*P):=by
  have e1:hi*(65536*P)<=W:=by rw[hW,KaF,Kbh];omega
  have e2:V<=(v1*65536+v2+1)*P:=by rw[hV,KaF _ 1];omega
  have e3:65536*V<=65536*((v1*65536+v2+1)*P):=Ka7 _ e2;rw[Kbz]at e3;omega
 have:=Nat.lt_of_mul_lt_mul_right h1;omega
theorem Sr:∀(a:List Nat)(q b:Nat),(fL a [] q 0 b).2.1=0
 | [],_,_=>rfl
 |x::xs,q,b=>by simp only[fL,List.headD_nil,Kb1,List.tail_nil];exact Sr xs q _
theorem Ul:∀(a v:List Nat)(q c b:Nat),v.length<a.length->c<65536->q<65536->Qs v->(fL a v q c b).2.1=0
 | [],_,_,_,_,h,_,_,_=>by simp at h
 |x::xs,[],q,c,b,h,hc,hq,hv=>by simp only[fL,List.headD_nil,Kb1,List.tail_nil,KaS];rw[Kcc hc];exact Sr xs q _
 |x::xs,y::ys,q,c,b,h,hc,hq,hv=>by rw[iq]at hv;simp only[fL,List.headD_cons,List.tail_cons];refine Ul xs ys q _ _ (by simpa using h) ?_ hq hv.2;have:=tt hq hv.1;omega
theorem CX{l:List Nat}{k:Nat}(h:val l<65536^k):val (l.drop k)=0:=by
 rcases Kc9 k l.length with hk|hk
 ·have:=pB l k (by omega);have:65536^k*val (l.drop k)<65536^k*1:=by omega
  have:=Nat.lt_of_mul_lt_mul_left this;omega
 ·rw[Kan hk];rfl
theorem PS{l:List Nat}{n:Nat}(h:l.length=n+2):val l=(l.getD (n+1) 0*65536+l.getD n 0)*65536^n+val (l.take n):=by have e:=pB l n (by omega);rw[lS (by omega),lS (by omega),Kan (by omega)]at e;rw[e,gE (by omega),gE (by omega),val,Kb1,KaS,KaU (65536^n)];rw[KaU 65536,KbQ (l[n]),KbQ]
theorem aiQ:
  (∀(β:Nat)(cs:List PV),bZ β (.pt cs)= .pt cs)/\(∀(β:Nat),bZ β .undef= .undef)/\(∀(β:Nat)(cs:List PV),bZ β (.au cs)= .au cs)/\
  (∀(cs:List PV),(PV.pt cs).refs=[])/\(PV.undef.refs=[])/\(∀(cs:List PV),(PV.au cs).refs=[])/\
  (∀(hp:HP)(cs:List PV),aK hp (.pt cs)= .pt cs)/\(∀(hp:HP)(cs:List PV),aK hp (.au cs)= .au cs)/\
  (∀(β f:Nat)(a b:List PV),bZ β (.fn f a b)=if(a.flatMap PV.bS++b.flatMap PV.bS).contains β then .undef else .fn f a b)/\
  (∀(β o n:Nat),(PV.ax β o n).bS=[β])/\(∀(β o n:Nat),(PV.rb β o n).bS=[β])/\(∀(β o n:Nat),(PV.mp β o n).bS=[β])/\
  (∀(k:IntKind)(n:Int),(PV.int k n).bS=[])/\(∀(b:Bool),(PV.bool b).bS=[])/\(∀(e:Nat)(xs:List PV),(PV.sl e xs).bS=[])/\(PV.aa.bS=[])/\(∀(xs:List PV),(PV.pt xs).bS=[]):=by
 refine⟨fun _ _=>rfl,fun _=>rfl,fun _ _=>rfl,fun _=>rfl,rfl,fun _=>rfl,fun _ _=>rfl,fun _ _=>rfl,fun _ _ _ _=>rfl,fun _ _ _=>rfl,fun _ _ _=>rfl,fun _ _ _=>rfl,fun _ _=>rfl,fun _=>rfl,fun _ _=>rfl,rfl,fun _=>rfl⟩
theorem aqe:
  (∀(ty d e:Nat)(xs:List PV)(fr:Fr)(hp:HP)(K:Qh),gd 1 ty (.sl e xs) d fr hp K=K (af (cK d fr) d (.mp d 0 0)) (Qz hp d ⟨1,ty,[.sl e xs],false⟩))/\
  (∀(ty d:Nat)(k:IntKind)(x:Int)(fr:Fr)(hp:HP)(K:Qh),gd 1 ty (.int k x) d fr hp K=K (af (cK d fr) d (.mp d 0 0)) (Qz hp d ⟨1,ty,[.int k x],false⟩))/\
  (∀(ty d:Nat)(x:Bool)(fr:Fr)(hp:HP)(K:Qh),gd 1 ty (.bool x) d fr hp K=K (af (cK d fr) d (.mp d 0 0)) (Qz hp d ⟨1,ty,[.bool x],false⟩))/\
  (∀(ty d:Nat)(fr:Fr)(hp:HP)(K:Qh),gd 1 ty .aa d fr hp K=K (af (cK d fr) d (.mp d 0 0)) (Qz hp d ⟨1,ty,[.aa],false⟩))/\
  (∀(n ty d o m:Nat)(fr:Fr)(hp:HP)(K:Qh),gd n ty (.ax 1000000 o m) d fr hp K=K (af fr d (.rb 1000000 o m)) hp)/\
  (∀(n ty d:Nat)(x:PV)(cs:List PV)(fr:Fr)(hp:HP)(K:Qh),gd n ty (.agg (x::cs)) d fr hp K=(cs.length+1=n/\K (af (cK d fr) d (.mp d 0 0)) (Qz hp d ⟨n,ty,[.agg (x::cs)],false⟩)))/\
  (∀(ty d:Nat)(x:PV)(fz:Bool)(fr:Fr)(hp:HP)(K:Qh),kB (some ⟨1,ty,[x],fz⟩) 1 false 0 0 d fr hp K=K (af fr d (eR false 1 0 x)) hp)/\
  (∀(ty β e:Nat)(x:PV)(xs:List PV)(fr:Fr)(hp:HP)(K:Qh),stM (some ⟨1,ty,[x],false⟩) β 1 0 0 (.sl e xs) fr hp K=K fr (Qz hp β ⟨1,ty,[.sl e xs],false⟩))/\
  (∀(ty β:Nat)(x:PV)(k:IntKind)(y:Int)(fr:Fr)(hp:HP)(K:Qh),stM (some ⟨1,ty,[x],false⟩) β 1 0 0 (.int k y) fr hp K=K fr (Qz hp β ⟨1,ty,[.int k y],false⟩))/\
  (∀(ty β:Nat)(x:PV)(y:Bool)(fr:Fr)(hp:HP)(K:Qh),stM (some ⟨1,ty,[x],false⟩) β 1 0 0 (.bool y) fr hp K=K fr (Qz hp β ⟨1,ty,[.bool y],false⟩))/\
  (∀(ty β:Nat)(x:PV)(fr:Fr)(hp:HP)(K:Qh),stM (some ⟨1,ty,[x],false⟩) β 1 0 0 .aa fr hp K=K fr (Qz hp β ⟨1,ty,[.aa],false⟩))/\
  (∀(e:Nat)(xs:List PV),eR false 1 0 (.sl e xs)= .sl e xs)/\(∀(k:IntKind)(x:Int),eR false 1 0 (.int k x)= .int k x)/\(∀(x:Bool),eR false 1 0 (.bool x)= .bool x)/\(eR false 1 0 .aa= .aa):=by
 have fz:∀hp:HP,cf hp []=hp:=fun _=>rfl;refine⟨fun _ _ _ _ _ _ _=>?_,fun _ _ _ _ _ _ _=>?_,fun _ _ _ _ _ _=>?_,fun _ _ _ _ _=>?_,fun _ _ _ _ _ _ _ _=>aiy (by decide),fun n ty d x cs fr hp K=>?_,fun _ _ _ _ _ _ _=>?_,fun _ _ _ _ _ _ _ _=>?_,fun _ _ _ _ _ _ _ _=>?_,fun _ _ _ _ _ _ _=>?_,fun _ _ _ _ _ _=>?_,fun _ _=>rfl,fun _ _=>rfl,fun _=>rfl,rfl⟩
 ·simp[gd,aK,cE,PV.aE,PV.cells,PV.refs,fz]
 ·simp[gd,aK,cE,PV.aE,PV.cells,PV.refs,fz]
 ·simp[gd,aK,cE,PV.aE,PV.cells,PV.refs,fz]
 ·simp[gd,aK,cE,PV.aE,PV.cells,PV.refs,fz]
 ·apply propext;simp only[gd,aK,cE,PV.aE,PV.cells,PV.refs,KaW,fz];exact⟨fun⟨_,h1,_,h2⟩=>⟨h1,h2⟩,fun⟨h1,h2⟩=>⟨trivial,h1,by omega,h2⟩⟩
 all_goals simp[kB,stM,PV.aE,PV.cells]
end Go.FW
namespace Go.FW
theorem aiR{l:List Nat}{j n V:Nat}(hl:Qs l)(hlen:j+n+3<=l.length)(hV:V<=65536^(n+2))(hz:val (l.drop (j+1))<V):
  ∃pre w post,l=pre++(w++post)/\pre.length=j/\w.length=n+3/\Qs pre/\Qs w/\Qs post/\val post=0/\val (l.drop j)=val w/\val w<65536*V/\
   ∃w0,w0<65536^n/\val w=((l.getD (j+(n+2)) 0*65536+l.getD (j+(n+1)) 0)*65536+l.getD (j+n) 0)*65536^n+w0:=by
 have qg:val (l.drop (j+n+3))=0:=by have:=CX (l:=l.drop (j+1)) (k:=n+2) (by omega);rw[List.drop_drop]at this;rw[<-this];congr 2;omega
 have hw:Qs ((l.drop j).take (n+3)):=xk (zI hl j) _;have uH:((l.drop j).take (n+3)).length=n+3:=by simp;omega
 have gD:l.drop j=(l.drop j).take (n+3)++l.drop (j+n+3):=by have:=(Kbo (n+3) (l.drop j)).symm;rw[List.drop_drop]at this;exact this
 have gh:val (l.drop j)=val ((l.drop j).take (n+3)):=by
  conv=>lhs;rw[gD]
  rw[mH,qg,Kb1,KaS]
 have e9:∀i,i<n+3->((l.drop j).take (n+3)).getD i 0=l.getD (j+i) 0:=by intro i hi;simp[Kal,Kca,hi]
 refine⟨l.take j,(l.drop j).take (n+3),l.drop (j+n+3),?_,by simp;omega,uH,xk hl j,hw,zI hl _,qg,gh,?_,?_⟩
 ·rw[<-gD,Kbo]
 ·rw[<-gh,lS (by omega)];have:=eM hl (show j<l.length by omega);omega
 ·refine⟨val (((l.drop j).take (n+3)).take n),tj hw n (by omega),?_⟩;rw[PS (n:=n+1) uH,e9 _ (by omega),e9 _ (by omega),zt (by omega)];rw[<-gE,e9 _ (by omega),KbB];generalize l.getD (j+(n+1)) 0=a;generalize l.getD (j+n) 0=b;generalize l.getD (j+(n+1+1)) 0=c;rw[KaF _ b,Kbh _ 65536,KaU 65536 (65536^n),KaU (65536^n) b];omega
theorem acf{U V L qs W R q pre B:Nat}(hU:U=L+V*(65536*B*qs))(hL:L=pre+B*W)(hW:W=q*V+R):U=(pre+B*R)+V*(B*(q+65536*qs)):=by
 subst hW hL;rw[hU,Ka1 B,Ka1 B q,Ka1 V];have e1:B*(q*V)=V*(B*q):=by rw[KaU q V,Kbz]
 have e2:V*(65536*B*qs)=V*(B*(65536*qs)):=by rw[KaU 65536 B,Kbh]
 omega
open Go
variable {C : Ctx} {fr : Fr} {hp : HP} {w : World} {K R : Qh}
theorem nP{x y:RT}{sk:List It}(h1:vc C R (.o x::sk) fr hp)(h2:vc C R (.o y::sk) fr hp):sv C R x y sk fr hp:=⟨h1,h2⟩
theorem afg{x y:RT}{sk:List It}{W:List (Nat×Nat)}{J F:Fr}(P:Fr->Prop)(h0:P J)(h:∀J,P J->sv C R x y sk (aQ W J F) hp):sv C R x y sk (aQ W J F) hp:=h J h0
theorem O9{sk:List It}{x:SC}(cx:gy R sk)(W:List (Nat×Nat))(B:List Nat)(I:Nat->Fr->HP->Prop)(m0:Nat)(h0:I m0 fr hp)
  (h:∀F,F=bG B fr->∀m J hp,I m J hp->vc C R (.c x:: .el (yb W F I m)::sk) (aQ W J F) hp):vc C R (.c (.loop x)::sk) fr hp:=
 Qw cx W B I m0 h0 (h _ rfl)
theorem ad2{x y:RT}{sk:List It}{W0:List (Nat×Nat)}{J0 F0:Fr}(cx:gy R sk)(B:List Nat)(M:Fr->HP->Prop)
  (h:∀F,F=bG B F0->sv C R x y (.el (oR W0 F M)::sk) (aQ W0 J0 F) hp) (hM:∀J hp,M J hp->vc C R sk (aQ W0 J (bG B F0)) hp):sv C R x y sk (aQ W0 J0 F0) hp:=by
 have hle:cj (aQ W0 J0 F0) (aQ W0 J0 (bG B F0)):=fun s=>by
  unfold aQ bG;split
  ·exact .inl rfl
  ·split
   ·exact .inr rfl
   ·exact .inl rfl
 have key:∀(r:RT),vc C R (.o r:: .el (oR W0 (bG B F0) M)::sk) (aQ W0 J0 (bG B F0)) hp->vc C R (.o r::sk) (aQ W0 J0 F0) hp:=by
  intro r hr;refine As (M:=oR W0 (bG B F0) M) ?_ _ [.o r] _ _ (Kac _) ?_
  ·rintro ay an ⟨J,h1,h2⟩;exact r8 cx.1 _ _ _ _ _ _ (Kac _) cx.2 h1 (hM J an h2)
  ·exact r8 cx.1 _ _ _ _ _ _ (Kac _) (.o r (.el El cx.2)) hle hr
 exact⟨key x (h _ rfl).1,key y (h _ rfl).2⟩
theorem Q75{ay:Fr}{K':Qh}{p:PV}{s:Nat}{want:Bool}{o:cB}(h:cj fr ay)(hK:KM K' K):iF C p s want o ay hp K'->iF C p s want o fr hp K:=by
 unfold iF;split
 ·exact fun H=>⟨fun t=>IK (h.iN _ _) hK o (H.1 t),fun t=>Dp (h.iN _ _) hK o (H.2 t)⟩
 ·exact Dp h hK o
 ·exact id
theorem ZI{p:PV}{s:Nat}{want:Bool}{o:cB}{r:RT}{sk:List It}(cx:gy R sk)(W:List (Nat×Nat))(B:List Nat)(M:Fr->HP->Prop)
  (h:iF C p s want o (aQ W fr (bG B fr)) hp (vc C R (.o r:: .el (oR W (bG B fr) M)::sk))) (hM:∀J hp,M J hp->vc C R sk (aQ W J (bG B fr)) hp):iF C p s want o fr hp (vc C R (.o r::sk)):=by
 refine Q75 (H3 W B) (fun f f' hp hf H=>?_) h;have H':=r8 cx.1 _ _ _ _ _ _ (Kac _) (.o r (.el El cx.2)) hf H;refine As (M:=oR W (bG B fr) M) ?_ _ [.o r] _ _ (Kac _) H';rintro ay an ⟨J,h1,h2⟩;exact r8 cx.1 _ _ _ _ _ _ (Kac _) cx.2 h1 (hM J an h2)
theorem Vv:(∀(a b c:Nat),(PV.mp a b c).kQ=true)/\(∀(a b c:Nat),(PV.ax a b c).kQ=true)/\(∀(a b c:Nat),(PV.rb a b c).kQ=true)/\(∀(k:IntKind)(n:Int),(PV.int k n).kQ=true)/\
  (∀b,(PV.bool b).kQ=true)/\(PV.aa.kQ=true)/\(∀(e:Nat)(xs:List PV),(PV.sl e xs).kQ=true)/\(∀(xs:List PV),(PV.pt xs).kQ=true):=
 ⟨fun _ _ _=>rfl,fun _ _ _=>rfl,fun _ _ _=>rfl,fun _ _=>rfl,fun _=>rfl,rfl,fun _ _=>rfl,fun _=>rfl⟩
end Go.FW
namespace Go.FW
def vN(V W:List (Nat×Nat)):Bool:=V.all fun p=>W.any fun q=>decide (q.1<=p.1)&&decide (p.2<=q.2)
theorem acg{V W:List (Nat×Nat)}(h:vN V W=true){s:Nat}(hs:lH V s=true):lH W s=true:=by
 induction V with
 |nil=>cases hs
 | cons p V ih=>
  simp only[vN,List.all_cons,Kat]at h;rw[DE,KbS]at hs;rcases hs with hs|hs
  ·obtain⟨q,hq,uB⟩:=Ka2.1 h.1;simp only[Kat,decide_eq_true_eq]at uB hs;clear h ih;induction W with
   |nil=>cases hq
   |cons r W ih=>
    rw[DE,KbS];rcases KaP.1 hq with rfl|hq
    ·left;simp only[Kat,decide_eq_true_eq];omega
    ·right;exact ih hq
  ·exact ih h.2 hs
theorem Yj{B B':List Nat}{F:Fr}(h:B.all B'.contains=true):bG B (bG B' F)=bG B' F:=by
 funext s;by_cases h1:(F s).refs.any B'.contains=true
 ·have:bG B' F s= .undef:=if_pos h1;show(if(bG B' F s).refs.any B.contains=true then PV.undef else bG B' F s)=_;rw[this];rfl
 ·have:bG B' F s=F s:=if_neg h1;show(if(bG B' F s).refs.any B.contains=true then PV.undef else bG B' F s)=_;rw[this,if_neg];intro h2;obtain⟨x,hx,mo⟩:=Ka2.1 h2;exact h1 (Ka2.2 ⟨x,hx,Kav.1 h x (by simpa using mo)⟩)
theorem mM{V W:List (Nat×Nat)}{X Z F:Fr}(h:vN V W=true):aQ V X (aQ W Z F)=aQ W (aQ V X Z) F:=by
 funext s;unfold aQ;by_cases h1:lH V s=true
 ·simp[h1,acg h h1]
 ·simp[h1]
theorem aiS{W V S d:Nat}(hs:S+d*V=W)(MQ:W<(d+1)*V):S<V/\W=d*V+S:=by rw[KaF]at MQ;omega
theorem afh{W V B S e k res:Nat}(hs:S+(e+1)*V=W+B)(hS:S<B)(Wp:e*V<=W)(hr:res+B*k=S+V)(dz:res<B)(hWB:W<B):res<V/\W=e*V+res:=by
 rw[KaF,KcW]at hs;generalize e*V=x at *
 have hk:k=1:=by
  match k,hr with
  |0,hr=>omega
  |1,_=>rfl
  |k+2,hr=>
   have:B*(k+2)=B*k+B+B:=by rw[Ka1];omega
   omega
 subst hk;omega
theorem Vm{pre R post qs:List Nat}{j q U V L W:Nat}(hp:pre.length=j)(qg:val post=0)(hU:U=L+V*(65536^(j+1)*val qs))(hL:L=val pre+65536^j*W)(hW:W=q*V+val R):
  val ((pre++(R++post)).drop j)=val R/\U=val (pre++(R++post))+V*(65536^j*val (q::qs)):=by
 have e:(pre++(R++post)).drop j=R++post:=by rw[<-hp,List.drop_left]
 have e2:val (R++post)=val R:=by rw[mH,qg,Kb1,KaS]
 refine⟨by rw[e,e2],?_⟩;rw[mH,e2,hp,val];exact acf (by rw[hU,KbB,KaU (65536^j)]) hL hW
theorem Em{j q:Nat}{qs:List Nat}:(List.replicate (j+1) 0++qs).set j q=List.replicate j 0++(q::qs):=by rw[List.replicate_succ',KbL,List.singleton_append,nS (by simp)]
open Go
variable {C : Ctx} {fr : Fr} {hp : HP} {w : World} {K R : Qh}
theorem aqf:(∀(C:Ctx)(d:Nat)(ng:Bool)(x y:aP)(fr:Fr)(hp:HP)(K:Qh),bu C (.eqs d ng x y) fr hp K=qP ng (ev fr x) (ev fr y) d fr hp K)/\
  (∀(k l:IntKind)(x y x' y':Int)(d:Nat)(fr:Fr)(hp:HP)(K:Qh),qP false (.agg [.int k x,.int l y]) (.agg [.int k x',.int l y']) d fr hp K=K (af fr d (.bool (decide (x=x')&&decide (y=y')))) hp)/\
  (∀(k l:IntKind)(x y x' y':Int)(d:Nat)(fr:Fr)(hp:HP)(K:Qh),qP true (.agg [.int k x,.int l y]) (.agg [.int k x',.int l y']) d fr hp K=K (af fr d (.bool (!(decide (x=x')&&decide (y=y'))))) hp):=
 ⟨fun _ _ _ _ _ _ _ _=>rfl,fun _ _ _ _ _ _ _ _ _ _=>by simp[qP],fun _ _ _ _ _ _ _ _ _ _=>by simp[qP]⟩
theorem aqg:(∀(C:Ctx)(d:Nat)(ng:Bool)(x y:aP)(fr:Fr)(hp:HP)(K:Qh),bu C (.Ck d ng x y) fr hp K=qQ ng (ev fr x) (ev fr y) d fr hp K)/\
  (∀(C:Ctx)(d:Nat)(x:aP)(fr:Fr)(hp:HP)(K:Qh),bu C (.Cj d x) fr hp K=vR (ev fr x) d fr hp K)/\
  (∀(C:Ctx)(d:Nat)(x i:aP)(fr:Fr)(hp:HP)(K:Qh),bu C (.Ci d x i) fr hp K=tT (ev fr x) (ev fr i) d fr hp K)/\
  (∀(x y:ByteArray)(d:Nat)(fr:Fr)(hp:HP)(K:Qh),qQ false (.str x) (.str y) d fr hp K=K (af fr d (.bool (decide (x=y)))) hp)/\
  (∀(x y:ByteArray)(d:Nat)(fr:Fr)(hp:HP)(K:Qh),qQ true (.str x) (.str y) d fr hp K=K (af fr d (.bool (!decide (x=y)))) hp)/\
  (∀(x:ByteArray)(d:Nat)(fr:Fr)(hp:HP)(K:Qh),vR (.str x) d fr hp K=K (af fr d (.int .i64 x.size)) hp):=
 ⟨fun _ _ _ _ _ _ _ _=>rfl,fun _ _ _ _ _ _=>rfl,fun _ _ _ _ _ _ _=>rfl,fun _ _ _ _ _ _=>by simp[qQ],fun _ _ _ _ _ _=>by simp[qQ],fun _ _ _ _ _=>rfl⟩
theorem aiT{s:ByteArray}{k:IntKind}{i:Nat}{d:Nat}(h:i<s.size):tT (.str s) (.int k i) d fr hp K=K (af fr d (.int .u8 (s.get! i).toNat)) hp:=by simp[tT,h]
theorem ad3{α:Type}{f:α->PV}{e d:Nat}{k:IntKind}{xs:List α}(h:0<xs.length):dR e (.sl e (xs.map f)) (.int k 0) d fr hp K=K (af fr d (.pt (f (xs[0]'h)).cells)) hp:=by rw[xP (by omega) (by omega)];rfl
theorem ad4{α:Type}{f:α->PV}{e d:Nat}{k:IntKind}{xs:List α}(h:1<xs.length):dR e (.sl e (xs.map f)) (.int k 1) d fr hp K=K (af fr d (.pt (f (xs[1]'h)).cells)) hp:=by rw[xP (by omega) (by omega)];rfl
theorem ad5{e d:Nat}{k:IntKind}{x:PV}{xs:List PV}:dR e (.sl e (x::xs)) (.int k 0) d fr hp K=K (af fr d (.pt x.cells)) hp:=by rw[Gk (by omega) (by simp only[KaW];omega)];rfl
theorem ad6{e d:Nat}{k:IntKind}{x y:PV}{xs:List PV}:dR e (.sl e (x::y::xs)) (.int k 1) d fr hp K=K (af fr d (.pt y.cells)) hp:=by rw[Gk (by omega) (by simp only[KaW];omega)];rfl
def PV.flat:PV->Bool
 |.int .. | .bool _| .aa| .sl .. | .agg _| .pt _| .str _=>true
 |_=>false
theorem ad7:∀s,(PV.str s).flat=true:=fun _=>rfl
theorem ad8:∀s,(PV.str s).aE=true:=fun _=>rfl
theorem alh:(∀(k:IntKind)(n:Int),(PV.int k n).flat=true)/\(∀b,(PV.bool b).flat=true)/\(PV.aa.flat=true)/\(∀(e:Nat)(xs:List PV),(PV.sl e xs).flat=true)/\(∀xs,(PV.agg xs).flat=true)/\(∀xs,(PV.pt xs).flat=true):=
 ⟨fun _ _=>rfl,fun _=>rfl,rfl,fun _ _=>rfl,fun _=>rfl,fun _=>rfl⟩
theorem ali:(∀(k:IntKind)(n:Int),(PV.int k n).aE=true)/\(∀b,(PV.bool b).aE=true)/\(PV.aa.aE=true)/\(∀(e:Nat)(xs:List PV),(PV.sl e xs).aE=true)/\(∀xs,(PV.agg xs).aE=true)/\(∀xs,(PV.pt xs).aE=true):=
 ⟨fun _ _=>rfl,fun _=>rfl,rfl,fun _ _=>rfl,fun _=>rfl,fun _=>rfl⟩
theorem qD{p:PV}(h:p.flat=true):aK hp p=p/\p.refs=[]/\p.aE=true:=by cases p<;>first|(cases h;done)|exact⟨rfl,rfl,rfl⟩
theorem PT{e ty d:Nat}{ps:List PV}(h:ps.all PV.flat=true)(hl:∀p∈ps,p.cells.length=e)(he:0<e):og e ty ps d fr hp K=K (af (cK d fr) d (.ms d ps.length)) (Qz hp d ⟨e,ty,ps,false⟩):=by
 have h':=Kav.1 h;have e1:ps.map (aK hp)=ps:=by
  conv=>rhs;rw[<-List.map_id ps]
  exact Ka9 fun p an=>(qD (h' p an)).1
 have e2:ps.flatMap PV.refs=[]:=by rw[List.flatMap_eq_nil_iff];exact fun p an=>(qD (hp:=hp) (h' p an)).2.1
 have e3:Iz hp e ps:=fun p an=>by obtain⟨h1,_,h3⟩:=qD (hp:=hp) (h' p an);rw[h1];exact⟨h3,hl p an⟩
 have hbg:oO ps=false:=by
  unfold oO;split
  ·rename_i x;have:=Kav.1 h x (by simp);unfold lT;split
   ·cases this
   ·rfl
  ·rfl
 simp only[og,hbg,KaJ,if_false,EH,e1,e2,e3,he,true_and];rfl
theorem bs1{e ty d:Nat}{p:PV}(h:p.flat=true)(hl:p.cells.length=e)(he:0<e):og e ty [p] d fr hp K=K (af (cK d fr) d (.ms d 1)) (Qz hp d ⟨e,ty,[p],false⟩):=
 PT (by simp[h]) (by simpa using hl) he
theorem bs2{e ty d:Nat}{p q:PV}(h:p.flat=true)(h2:q.flat=true)(hl:p.cells.length=e)(gB:q.cells.length=e)(he:0<e):og e ty [p,q] d fr hp K=K (af (cK d fr) d (.ms d 2)) (Qz hp d ⟨e,ty,[p,q],false⟩):=
 PT (by simp[h,h2]) (by simp[hl,gB]) he
end Go.FW
namespace Go.FW
theorem ZJ{y n s yi:Nat}(hy:(ah y).length=n+2)(uI:(ah y)[n+1]'(by omega)=yi)(h1:2^15<=yi*2^s)(h2:(yi+1)*2^s<=65536):
  (ah (y*2^s)).length=n+2/\32768<=(ah (y*2^s)).getD (n+1) 0/\32768*65536^(n+1)<=y*2^s:=by
 have hl:=Qp y;have e:=pB (ah y) (n+1) (by omega);have ht:=tj hl (n+1) (by omega);rw[lS (by omega),Kan (by omega),uI,Q7]at e;simp only[val,Kb1,KaS]at e;have g1:32768*65536^(n+1)<=y*2^s:=by
  calc 32768*65536^(n+1)<=(yi*2^s)*65536^(n+1):=Kaf _ h1
   _=(65536^(n+1)*yi)*2^s:=by rw[KaU (65536^(n+1)),Nat.mul_right_comm]
   _<=y*2^s:=Kaf _ (by omega)
 have g2:y*2^s<65536^(n+2):=by
  have hp:0<2^s:=KbN (by omega)
  calc y*2^s<(65536^(n+1)*(yi+1))*2^s:=Nat.mul_lt_mul_of_pos_right (by rw[Ka1];omega) hp
   _=65536^(n+1)*((yi+1)*2^s):=Kbh _ _ _
   _<=65536^(n+1)*65536:=Ka7 _ h2
   _=65536^(n+2):=(KbB ..).symm
 have hle:nl (y*2^s)<=n+2:=mR.2 g2;have gm:¬nl (y*2^s)<=n+1:=fun h=>by have:=mR.1 h;omega
 have hlen:(ah (y*2^s)).length=n+2:=by unfold nl at hle gm;omega
 refine⟨hlen,?_,g1⟩;have e2:=pB (ah (y*2^s)) (n+1) (by omega);have ht2:=tj (Qp (y*2^s)) (n+1) (by omega);rw[lS (by omega),Kan (by omega),Q7]at e2;simp only[val,Kb1,KaS]at e2;have hg:(ah (y*2^s)).getD (n+1) 0=(ah (y*2^s))[n+1]'(by omega):=gE (by omega);rw[hg];apply Decidable.byContradiction;intro h;have:65536^(n+1)*(ah (y*2^s))[n+1]<=65536^(n+1)*32767:=Ka7 _ (by omega);omega
theorem ach{yi s:Nat}(hs:s<=15)(h1:2^(16-s)<=2*yi)(h2:yi<2^(16-s)):2^15<=yi*2^s/\(yi+1)*2^s<=65536:=by
 have e:2^(16-s)*2^s=65536:=by rw[<-Nat.pow_add,show 16-s+s=16 by omega]
 constructor
 ·have:=Kaf (2^s) h1;rw[e,Kbh]at this;omega
 ·rw[<-e];exact Kaf _ h2
theorem ZK{x s m n Y:Nat}(hx:(ah x).length=m+2)(hs:s<=15)(kp:n<=m)(hY:32768*65536^(n+1)<=Y):
  ∃u ex,ah (x*2^s)++[0,0]=u++ex/\u.length=m+3/\Qs u/\val u=x*2^s/\ex.length<=2/\val (u.drop (m+3-(n+2)))<Y:=by
 have Xu:=oK (Qp x);rw[hx,Q7]at Xu;have hp:0<2^s:=KbN (by omega);have uE:2^s<=2^15:=KbE (by omega) hs;have hX:x*2^s<2^s*65536^(m+2):=by rw[KaU (2^s)];exact Nat.mul_lt_mul_of_pos_right Xu hp
 have pU:x*2^s<65536^(m+3):=by have:2^s*65536^(m+2)<=65536*65536^(m+2):=Kaf _ (by omega);rw[KbB 65536 (m+2),KaU _ 65536];omega
 have FN:¬nl (x*2^s)<=m+1:=fun h=>by
  have h2:¬nl x<=m+1:=by unfold nl;omega
  have h3:=fS (show x<=x*2^s from KcA _ hp);omega
 have mo:nl (x*2^s)<=m+3:=mR.2 pU;have qe:Qs (ah (x*2^s)++[0,0]):=nJ.2 ⟨Qp _,by intro z hz;simp at hz;omega⟩;have gh:val (ah (x*2^s)++[0,0])=x*2^s:=by rw[mH,Q7];simp[val]
 have hlen:(ah (x*2^s)++[0,0]).length=nl (x*2^s)+2:=by simp[nl]
 generalize ah (x*2^s)++[0,0]=D at *
 have hv:=pB D (m+3) (by omega);have hz:val (D.drop (m+3))=0:=CX (by omega);have Ns:(D.take (m+3)).length=m+3:=by rw[KaH];omega
 refine⟨D.take (m+3),D.drop (m+3),(Kbo _ _).symm,Ns,xk qe _,by rw[hz]at hv;omega,by rw[Ka5];omega,?_⟩;have hu:val (D.take (m+3))=x*2^s:=by rw[hz]at hv;omega
 have sU:=pB (D.take (m+3)) (m+3-(n+2)) (by omega);generalize D.take (m+3)=u at *
 have e:65536^(m+2)=65536^(m+3-(n+2))*65536^(n+1):=by rw[<-Nat.pow_add];congr 1;omega
 have:65536^(m+3-(n+2))*val (u.drop (m+3-(n+2)))<65536^(m+3-(n+2))*(2^s*65536^(n+1)):=by rw[Kbz,<-e];omega
 have h4:=Nat.lt_of_mul_lt_mul_left this;have:2^s*65536^(n+1)<=32768*65536^(n+1):=Kaf _ uE;omega
open Go
variable {C : Ctx} {fr : Fr} {hp : HP} {w : World} {K R : Qh}
theorem ad9{e ty n:Nat}{fz:Bool}{o d:Nat}{x:PV}(h:o+n<=e):kB (some ⟨e,ty,[x],fz⟩) n true 0 o d fr hp K=K (af fr d (eR true n o x)) hp:=P7 h (by simp)
theorem aea{e ty:Nat}{fz:Bool}{o d:Nat}{x:PV}(h:o+1<=e):kB (some ⟨e,ty,[x],fz⟩) 1 false 0 o d fr hp K=K (af fr d (eR false 1 o x)) hp:=P7 h (by simp)
theorem alj(n o:Nat)(cs:List PV):eR true n o (.agg cs)= .agg ((cs.drop o).take n):=rfl
theorem alk(n o:Nat)(cs:List PV):eR false n o (.agg cs)=(cs.drop o).headD .undef:=rfl
theorem Q76(n ty β:Nat)(x:PV)(cs:List PV):stM (some ⟨n,ty,[x],false⟩) β n 0 0 (.agg cs) fr hp K=(cs.length=n/\K fr (Qz hp β ⟨n,ty,[.agg cs],false⟩)):=by simp[stM,PV.aE,PV.cells]
theorem aeb{e n ty β o:Nat}{x v:PV}(h:v.flat=true)(hn:¬n=e)(hl:v.cells.length=n)(ho:o+n<=e):stM (some ⟨e,ty,[x],false⟩) β n 0 o v fr hp K=K fr (Qz hp β ⟨e,ty,[rE x o v],false⟩):=by have:=(qD (hp:=hp) h).2.2;simp[stM,this,hl,ho,hn]
theorem afi(cs:List PV)(o:Nat)(v:PV):rE (.agg cs) o v= .agg (cs.take o++v.cells++cs.drop (o+v.cells.length)):=rfl
theorem HN(k:IntKind)(n:Int):(PV.int k n).cells=[.int k n]:=rfl
theorem aci:(PV.aa).cells=[.aa]:=rfl
theorem Ha{p:PV}(h:p.flat=true):p.kS=false:=by cases p<;>simp_all[PV.flat,PV.kS]
theorem DF{z:List PV}{ps:List (Nat×Nat×PV)}{d:Nat}(h:ps.all (fun p=>p.2.2.flat)=true):
  kK z ps d fr hp K=((∀p∈ps,p.2.2.cells.length=p.2.1/\p.1+p.2.1<=z.length)/\K (af fr d (.agg (ir z (ps.map fun p=>(p.1,p.2.2.cells))))) hp):=by
 have h':=Kav.1 h;have e1:(ps.map fun p=>(p.1,(aK hp p.2.2).cells))=ps.map fun p=>(p.1,p.2.2.cells):=Ka9 fun p an=>by rw[(qD (h' p an)).1]
 have e2:(ps.flatMap fun p=>p.2.2.refs)=[]:=by rw[List.flatMap_eq_nil_iff];exact fun p an=>(qD (hp:=hp) (h' p an)).2.1
 have e3:Gi hp z.length ps=(∀p∈ps,p.2.2.cells.length=p.2.1/\p.1+p.2.1<=z.length):=by
  apply propext;constructor
  ·intro H p an;obtain⟨_,h2,h3⟩:=H p an;rw[(qD (h' p an)).1]at h2;exact⟨h2,h3⟩
  ·intro H p an;obtain⟨h2,h3⟩:=H p an;obtain⟨g1,_,g3⟩:=qD (hp:=hp) (h' p an);rw[g1];exact⟨g3,h2,h3⟩
 have e4:ps.any (fun p=>p.2.2.kS)=false:=by rw[Kbs];exact fun p an=>by simp[Ha (h' p an)]
 simp only[kK,e4,AJ,e1,e2,e3,KaJ,if_false];rfl
theorem amy(z:List PV)(d:Nat):kK z [] d fr hp K=K (af fr d (.agg z)) hp:=by rw[DF rfl];simp[ir]
theorem amz{z:List PV}{o n d:Nat}{p:PV}(h:p.flat=true):kK z [(o,n,p)] d fr hp K=((p.cells.length=n/\o+n<=z.length)/\K (af fr d (.agg (z.take o++p.cells++z.drop (o+p.cells.length)))) hp):=by rw[DF (by simp[h])];simp[ir]
theorem amA{z:List PV}{o n o2 n2 d:Nat}{p q:PV}(h:p.flat=true)(h2:q.flat=true):kK z [(o,n,p),(o2,n2,q)] d fr hp K=
  ((p.cells.length=n/\o+n<=z.length)/\(q.cells.length=n2/\o2+n2<=z.length)/\K (af fr d (.agg (ir z [(o,p.cells),(o2,q.cells)]))) hp):=by
 rw[DF (by simp[h,h2])];simp[and_assoc]
theorem amB{z:List PV}{o n o2 n2 o3 n3 d:Nat}{p q r:PV}(h:p.flat=true)(h2:q.flat=true)(h3:r.flat=true):kK z [(o,n,p),(o2,n2,q),(o3,n3,r)] d fr hp K=
  ((p.cells.length=n/\o+n<=z.length)/\(q.cells.length=n2/\o2+n2<=z.length)/\(r.cells.length=n3/\o3+n3<=z.length)/\K (af fr d (.agg (ir z [(o,p.cells),(o2,q.cells),(o3,r.cells)]))) hp):=by
 rw[DF (by simp[h,h2,h3])];simp[and_assoc]
theorem acj(c:List PV):ir c []=c:=rfl
theorem Q77(c xs:List PV)(o:Nat)(r:List (Nat×List PV)):ir c ((o,xs)::r)=ir (c.take o++xs++c.drop (o+xs.length)) r:=rfl
def Ct(p:PV)(hp:HP)(n:Nat)(ag:Bool):PV:=match p with
 |.mp β i o=>match hp β with
  |some hb=>if i<hb.xs.length/\o+n<=hb.e/\(ag=false->n=1)then eR ag n o ((hb.xs[i]?).getD .undef)else .undef
  |none=>.undef
 |_=>.undef
def gv(fr:Fr)(hp:HP):RV->PV
 |.t s=>aK hp (fr s)
 |.cell s n ag=>Ct (fr s) hp n ag
def AL(hb:Option HB)(n:Nat)(ag:Bool)(i o:Nat):PV:=match hb with
  |some hb=>if i<hb.xs.length/\o+n<=hb.e/\(ag=false->n=1)then eR ag n o ((hb.xs[i]?).getD .undef)else .undef
  |none=>.undef
theorem am3(fr:Fr)(hp:HP)(s:Nat):gv fr hp (.t s)=aK hp (fr s):=rfl
theorem am2(fr:Fr)(hp:HP)(s n:Nat)(ag:Bool):gv fr hp (.cell s n ag)=Ct (fr s) hp n ag:=rfl
theorem aec(hp:HP)(n:Nat)(ag:Bool)(β i o:Nat):Ct (.mp β i o) hp n ag=AL (hp β) n ag i o:=rfl
theorem afj{e ty n o:Nat}{fz:Bool}{x:PV}(h:o+n<=e):AL (some ⟨e,ty,[x],fz⟩) n true 0 o=eR true n o x:=by simp[AL,h]
theorem afk{e ty o:Nat}{fz:Bool}{x:PV}(h:o+1<=e):AL (some ⟨e,ty,[x],fz⟩) 1 false 0 o=eR false 1 o x:=by simp[AL,h]
theorem Gt{r:RV}(h:(gv fr hp r).aE=true):kC fr hp r/\jP fr hp r=gv fr hp r:=by
 cases r with
 |t s=>exact⟨h,rfl⟩
 | cell s n ag=>
  simp only[gv,kC,jP]at h⊢;cases ov:fr s with
  | mp β i o=>
   rw[ov]at h;simp only[Ct]at h⊢;cases al:hp β with
   |none=>rw[al]at h;cases h
   | some hb=>
    rw[al]at h;simp only at h⊢;split at h
    ·rename_i hc;rw[if_pos hc];exact⟨hc,rfl⟩
    ·cases h
  |_=>rw[ov]at h;cases h
theorem dC{r:RV}{Rr:PV->Prop}(h:yh Rr (gv fr hp r)):gf [r] Rr fr hp:=by obtain⟨h1,h2⟩:=Gt h.1;exact⟨h1,by rw[h2];exact h.2⟩
theorem iS{r s:RV}{Rr:PV->Prop}(h:Cs Rr (gv fr hp r) (gv fr hp s)):gf [r,s] Rr fr hp:=by obtain⟨⟨a,b⟩,c⟩:=h;obtain⟨h1,h2⟩:=Gt a;obtain⟨h3,h4⟩:=Gt b;refine⟨by simp[h1,h3],?_⟩;simp only[Kbd,Kbu,h2,h4];exact c
end Go.FW
namespace Go.FW
open Go
def zv(n:Bool)(a:List Nat):Int:=if n then -(val a:Int)else val a
abbrev PV.zi(n:Bool)(a:List Nat):PV:=.agg [.bool n,PV.nat a]
abbrev PV.zz(z:Int):PV:=.agg [.bool (decide (z<0)),PV.num z.natAbs]
theorem IL(n:Bool)(x:Nat):PV.agg [.bool (n&&decide (0<(ah x).length)),PV.num x]=PV.zz (if n then -(x:Int)else x):=by
 have h:0<(ah x).length↔x≠0:=by
  constructor
  ·intro h h0;rw[h0,fQ]at h;simp at h
  ·intro h;apply KaY;intro h0;exact h (kE.1 (pA h0))
 cases n
 ·simp
 ·simp only[KbZ,if_true,PV.zz,KcD,KaD];congr 3;exact decide_eq_decide.2 (by rw[h];omega)
theorem lU(z:Int):zv (decide (z<0)) (ah z.natAbs)=z:=by unfold zv;rw[Q7];by_cases h:z<0<;>simp[h]<;>omega
theorem jS(n:Bool)(a:List Nat):(zv n a).natAbs=val a:=by unfold zv;split<;>simp
theorem tA(a:List Nat):zv false a=val a:=rfl
theorem r9(n:Bool)(x:Nat):zv n (ah x)=if n then -(x:Int)else x:=by unfold zv;rw[Q7]
def fH(z:Int):Int:=if z<0 then -1 else if 0<z then 1 else 0
def cY(x y:Int):Int:=if x<y then -1 else if y<x then 1 else 0
theorem Gm(n:Bool)(a:List Nat):fH (zv n a)=if val a=0 then 0 else if n then -1 else 1:=by unfold fH zv;cases n<;>simp<;>split<;>(try split)<;>omega
theorem xJ{x:Int}:fH x<0↔x<0:=by unfold fH;split<;>(try split)<;>omega
theorem afl{x y:Int}(h:fH x<fH y):cY x y= -1:=by unfold fH at h;unfold cY;rw[if_pos];split at h<;>split at h<;>(try split at h)<;>(try split at h)<;>omega
theorem afm{x y:Int}(h:fH y<fH x):cY x y=1:=by
 have:y<x:=by unfold fH at h;split at h<;>split at h<;>(try split at h)<;>(try split at h)<;>omega
 unfold cY;rw[if_neg (by omega),if_pos this]
theorem DK(n:Bool)(a:List Nat):zv n a=val a∨zv n a= -(val a:Int):=by unfold zv;split<;>simp
theorem afn{n m:Bool}{a b:List Nat}(h:zv n a<0)(h2:zv m b<0):g9 (val b) (val a)=cY (zv n a) (zv m b):=by
 unfold g9 cY;have e:=DK n a;have f:=DK m b;generalize zv n a=p at *
 generalize zv m b=q at *
 repeat' split
 all_goals omega
theorem afo{n m:Bool}{a b:List Nat}(h:¬zv n a<0)(h2:¬zv m b<0):g9 (val a) (val b)=cY (zv n a) (zv m b):=by
 unfold g9 cY;have e:=DK n a;have f:=DK m b;generalize zv n a=p at *
 generalize zv m b=q at *
 repeat' split
 all_goals omega
theorem DL{x y:Nat}:g9 x y<0↔x<y:=by unfold g9;split<;>(try split)<;>omega
variable {C : Ctx} {fr : Fr} {hp : HP} {w : World} {K R : Qh}
def Gu(hb:Option HB)(o n:Nat):PV:=match hb with
 |some hb=>.sl hb.e ((hb.xs.drop o).take n)
 |none=>.undef
theorem et:(∀(hp:HP)(β o n:Nat),aK hp (.ax β o n)=if bN β=true then .undef else Gu (hp β) o n)/\
  (∀(e ty o n:Nat)(xs:List PV)(fz:Bool),Gu (some ⟨e,ty,xs,fz⟩) o n= .sl e ((xs.drop o).take n))/\
  (∀(β:Nat),bN β=(decide (1000000<=β)&&decide (β<2000000)))/\
  (∀(hp:HP)(l:List Nat)(β:Nat),FW.cf hp l β=if l.contains β=true then(hp β).map (fun hb=>{ hb with fz:=true })else hp β):=by
 refine⟨fun hp β o n=>?_,fun _ _ _ _ _ _=>rfl,fun _=>rfl,fun _ _ _=>rfl⟩;simp only[aK,cE,Gu];cases bN β<;>cases hp β<;>rfl
theorem aiU{n d:Nat}{cs:List PV}(h:n<=cs.length):kT n true (.pt cs) d fr hp K=K (af fr d (.agg (cs.take n))) hp:=by simp[kT,h,eR,PV.cells]
theorem aiV{off d:Nat}{cs:List PV}(h:off<=cs.length):qR off (.pt cs) d fr hp K=K (af fr d (.pt (cs.drop off))) hp:=by simp[qR,h]
theorem aiW{off n d:Nat}{cs:List PV}(h:off+n<=cs.length):qL off n true (.agg cs) d fr hp K=K (af fr d (.agg ((cs.drop off).take n))) hp:=by simp[qL,h,eR,PV.cells]
theorem aiX{off d:Nat}{cs:List PV}(h:off+1<=cs.length):qL off 1 false (.agg cs) d fr hp K=K (af fr d ((cs.drop off).headD .undef)) hp:=by simp[qL,h,eR,PV.cells]
def rv(n:Bool)(a d:List Nat):Rat:=mkRat (zv n a) (val d)
abbrev PV.rr(n:Bool)(a d:List Nat):PV:=.agg [.bool n,PV.nat a,PV.nat d]
abbrev PV.rat(q:Rat):PV:=.agg [.bool (decide (q.num<0)),PV.num q.num.natAbs,PV.num q.den]
theorem gY(q:Rat):rv (decide (q.num<0)) (ah q.num.natAbs) (ah q.den)=q:=by unfold rv;rw[lU,Q7,Kc7]
theorem zW{z:Int}{D:Nat}(hD:D≠0):(mkRat z D).num=z/(Nat.gcd z.natAbs D:Int)/\(mkRat z D).den=D/Nat.gcd z.natAbs D:=by rw[Rat.mkRat_def,dif_neg hD,Rat.normalize_eq];exact⟨rfl,rfl⟩
theorem RE{z:Int}{D:Nat}(hD:D≠0):PV.agg [.bool (decide (z<0)),PV.num (z.natAbs/Nat.gcd z.natAbs D),PV.num (D/Nat.gcd z.natAbs D)]=PV.rat (mkRat z D):=by
 obtain⟨h1,h2⟩:=zW (z:=z) hD;have hg:0<Nat.gcd z.natAbs D:=Nat.gcd_pos_of_pos_right _ (KaY hD);have MS:(Nat.gcd z.natAbs D:Int)∣z:=Kc2.2 (KbJ _ _);obtain⟨k,hk⟩:=MS;rw[PV.rat,h1,h2];generalize hgg:Nat.gcd z.natAbs D=g at *
 have e1:z/(g:Int)=k:=by rw[hk,Int.mul_ediv_cancel_left _ (by omega)]
 have e2:z.natAbs/g=k.natAbs:=by rw[hk,Kcq,KaD,Kbi _ hg]
 have e3:z<0↔k<0:=by
  rw[hk];constructor
  ·intro h;apply Decidable.byContradiction;intro h';have:=Int.mul_nonneg (show(0:Int)<=g by omega) (show 0<=k by omega);omega
  ·intro h;exact Int.mul_neg_of_pos_of_neg (by omega) h
 rw[e1,e2,decide_eq_decide.2 e3]
theorem alm(z:Int):PV.agg [.bool (decide (z<0)),PV.num z.natAbs,PV.nat [1]]=PV.rat (mkRat z 1):=by rw[<-RE (by omega),Nat.gcd_one_right,Nat.div_one,Nat.div_one,PV.num,PV.num,rY]
theorem PU:PV.le (.agg [.bool false,.aa,PV.nat [1]]) (PV.rat 0):=by
 show PV.B3 _ _;refine⟨rfl,?_,?_,trivial⟩
 ·show PV.mw .aa (PV.nat (ah 0));rw[fQ];trivial
 ·show PV.mw (PV.nat [1]) (PV.nat (ah 1));rw[rY];exact Ae _
theorem To{z:Int}{D:Nat}(h:D=0∨z=0):mkRat z D=0:=by
 rcases h with h|h
 ·rw[h,Rat.mkRat_zero]
 ·rw[h,Rat.zero_mkRat]
def rs(q:Rat):Nat:=max (nl q.num.natAbs) (nl q.den)
theorem vE(x y:Nat):nl (x/y)<=nl x:=fS (KcM _ _)
theorem jV:nl 1=1:=by unfold nl;rw[rY];rfl
theorem DM(z:Int)(D:Nat):rs (mkRat z D)<=max (nl z.natAbs) (max (nl D) 1):=by
 by_cases hD:D=0
 ·rw[hD,Rat.mkRat_zero];show max (nl 0) (nl 1)<=_;rw[xQ,jV];omega
 ·obtain⟨h1,h2⟩:=zW (z:=z) hD;unfold rs;rw[h1,h2];have e:(z/(Nat.gcd z.natAbs D:Int)).natAbs<=z.natAbs:=by have MS:(Nat.gcd z.natAbs D:Int)∣z:=Kc2.2 (KbJ _ _);rw[Int.natAbs_ediv_of_dvd MS];exact KcM _ _
  have:=fS e;have:=vE D (Nat.gcd z.natAbs D);omega
theorem zu(x y:Int):nl (x+y).natAbs<=max (nl x.natAbs) (nl y.natAbs)+1:=
 Kaw (fS (Int.natAbs_add_le x y)) (vD _ _)
theorem lN(x y:Int):nl (x*y).natAbs<=nl x.natAbs+nl y.natAbs:=by rw[Kcq];exact gV _ _
theorem RF(q:Rat):1<=rs q:=by have:nl q.den≠0:=fun h=>q.den_nz (xl.1 h);unfold rs;omega
theorem xS(a b:Rat):rs (a+b)<=rs a+rs b+1:=by
 have e:a+b=mkRat (a.num*b.den+b.num*a.den) (a.den*b.den):=by
  conv=>lhs;rw[<-Rat.mkRat_self a,<-Rat.mkRat_self b]
  exact Rat.mkRat_add_mkRat _ _ a.den_nz b.den_nz
 rw[e];have h1:=DM (a.num*b.den+b.num*a.den) (a.den*b.den);have h2:=zu (a.num*b.den) (b.num*a.den);have h3:=lN a.num b.den;have h4:=lN b.num a.den;have h5:=gV a.den b.den;rw[KaD]at h3 h4;unfold rs at *
 omega
theorem xT(a b:Rat):rs (a*b)<=rs a+rs b:=by
 have e:a*b=mkRat (a.num*b.num) (a.den*b.den):=by
  conv=>lhs;rw[<-Rat.mkRat_self a,<-Rat.mkRat_self b]
  exact Rat.mkRat_mul_mkRat _ _ _ _
 rw[e];have h1:=DM (a.num*b.num) (a.den*b.den);have h3:=lN a.num b.num;have h5:=gV a.den b.den;have:=RF a;unfold rs at *
 omega
theorem aiY{n k:Nat}{a d:List Nat}{b:Bool}(ha:Qs a)(hd:Qs d)(h1:a.length<=k)(h2:d.length<=k)(hk:1<=k):rs (rv b a d)<=k:=by unfold rv;have h:=DM (zv b a) (val d);rw[jS]at h;have:=cm ha;have:=cm hd;omega
end Go.FW
namespace Go.FW
open Go
def fk(q:Rat):Int:=fH q.num
def oe(p q:Rat):Int:=if p<q then -1 else if q<p then 1 else 0
theorem GL{z:Int}{D:Nat}(hD:D≠0):∃g:Nat,0<g/\z=(mkRat z D).num*g/\D=(mkRat z D).den*g:=by
 obtain⟨h1,h2⟩:=zW (z:=z) hD;have hg:0<Nat.gcd z.natAbs D:=Nat.gcd_pos_of_pos_right _ (KaY hD);refine⟨_,hg,?_,?_⟩
 ·rw[h1,Int.ediv_mul_cancel (Kc2.2 (KbJ _ _))]
 ·rw[h2,Nat.div_mul_cancel (KbV _ _)]
theorem Q8a{a:Int}{g:Nat}(hg:0<g):a*g<0↔a<0:=by
 constructor
 ·intro h;apply Decidable.byContradiction;intro h';have:=Int.mul_nonneg (show 0<=a by omega) (show(0:Int)<=g by omega);omega
 ·intro h;exact Int.mul_neg_of_neg_of_pos h (by omega)
theorem Q8b{a:Int}{g:Nat}(hg:0<g):0<a*g↔0<a:=by
 constructor
 ·intro h;apply Decidable.byContradiction;intro h';have:=Int.mul_nonneg (show 0<= -a by omega) (show(0:Int)<=g by omega);rw[Int.neg_mul]at this;omega
 ·intro h;exact Int.mul_pos h (by omega)
theorem ack{z:Int}{D:Nat}(hD:D≠0):fk (mkRat z D)=fH z:=by
 obtain⟨g,hg,h1,_⟩:=GL (z:=z) hD;unfold fk;generalize(mkRat z D).num=x at *
 subst h1;unfold fH;have:=Q8a (a:=x) hg;have:=Q8b (a:=x) hg
 repeat' split
 all_goals omega
theorem O'{x y:Int}{d c:Nat}(hd:d≠0)(hc:c≠0):mkRat x d<mkRat y c↔x*c<y*d:=by
 obtain⟨g,hg,h1,h2⟩:=GL (z:=x) hd;obtain⟨k,hk,h3,h4⟩:=GL (z:=y) hc;rw[Rat.lt_iff];generalize(mkRat x d).num=p at *
 generalize(mkRat x d).den=p' at *
 generalize(mkRat y c).num=q at *
 generalize(mkRat y c).den=q' at *
 subst h1 h2 h3 h4;have e1:p*(g:Int)*((q'*k:Nat):Int)=(p*q')*((g*k:Nat):Int):=by push_cast;grind
 have e2:q*(k:Int)*((p'*g:Nat):Int)=(q*p')*((g*k:Nat):Int):=by push_cast;grind
 rw[e1,e2];have yN:(0:Int)<((g*k:Nat):Int):=by exact_mod_cast Kce hg hk
 exact⟨fun h=>Int.mul_lt_mul_of_pos_right h yN,fun h=>Int.lt_of_mul_lt_mul_right h (Int.le_of_lt yN)⟩
theorem PW{x y:Int}{d c:Nat}(hd:d≠0)(hc:c≠0):oe (mkRat x d) (mkRat y c)=cY (x*c) (y*d):=by unfold oe cY;simp only[O' hd hc,O' hc hd]
theorem DN{x:Int}:fH x=0↔x=0:=by unfold fH;(repeat' split)<;>omega
theorem gG{q:Rat}:fk q=0↔q=0:=by unfold fk;rw[DN,Rat.num_eq_zero]
theorem DO{q:Rat}:fk q<0↔q<0:=by unfold fk;rw[xJ,Rat.lt_iff];simp
theorem Pa{q:Rat}:0<fk q↔0<q:=by
 unfold fk;rw[Rat.lt_iff];unfold fH;simp;repeat' split
 all_goals omega
theorem UL(q:Rat):fk q= -1∨fk q=0∨fk q=1:=by unfold fk fH;(repeat' split)<;>omega
theorem Pb{p q:Rat}(h:fk p<fk q):oe p q= -1:=by
 unfold oe;rw[if_pos];rcases UL p with h1|h1|h1<;>rcases UL q with h2|h2|h2<;>first|omega|skip
 ·have a:=DO.1 (show fk p<0 by omega);have b:=gG.1 h2;grind
 ·have a:=DO.1 (show fk p<0 by omega);have b:=Pa.1 (show 0<fk q by omega);grind
 ·have a:=gG.1 h1;have b:=Pa.1 (show 0<fk q by omega);grind
theorem aed{p q:Rat}(h:fk q<fk p):oe p q=1:=by
 have:=Pb h;unfold oe at *
 have ar:q<p:=by apply Decidable.byContradiction;intro hn;rw[if_neg hn]at this;split at this<;>omega
 rw[if_neg (by grind),if_pos ar]
theorem UM{p q:Rat}:oe p q=0↔p=q:=by
 unfold oe;constructor
 ·intro h;split at h
  ·omega
  ·split at h
   ·omega
   ·grind
 ·rintro rfl;rw[if_neg (by grind),if_neg (by grind)]
def nX(n:Bool)(a:List Nat):Bool:=if a=[]then !n else decide (a.getLast? ≠some 0)
def mS(n:Bool)(a d:List Nat):Bool:=nX n a&&(decide (d≠[]/\d.getLast? ≠some 0)&&decide (Nat.gcd (val a) (val d)=1))
theorem Pc{n:Bool}{a d:List Nat}(ha:Qs a)(hd:Qs d)(h:mS n a d=true):n=decide ((rv n a d).num<0)/\a=ah (rv n a d).num.natAbs/\d=ah (rv n a d).den:=by
 simp only[mS,nX,Kat,decide_eq_true_eq]at h;obtain⟨h1,⟨h2,h3⟩,h4⟩:=h;have ea:a=ah (val a):=by
  refine(Aq ha ?_).symm;split at h1
  ·rename_i h;subst h;simp
  ·simpa using h1
 have ed:d=ah (val d):=(Aq hd h3).symm;have hD:val d≠0:=fun h=>h2 (by rw[ed,h,fQ]);obtain⟨g1,g2⟩:=zW (z:=zv n a) hD;rw[jS,h4]at g1 g2;have EM:(rv n a d).num=zv n a:=by unfold rv;rw[g1];simp
 have g2':(rv n a d).den=val d:=by unfold rv;rw[g2];simp
 rw[EM,g2',jS];refine⟨?_,ea,ed⟩;unfold zv;split at h1
 ·rename_i h;subst h;simp at h1;subst h1;simp[val]
 ·rename_i h;have h0:val a≠0:=fun h'=>h (by rw[ea,h',fQ]);cases n<;>simp;omega
theorem akN{n:Bool}{a d:List Nat}(ha:Qs a)(hd:Qs d)(h:mS n a d=true):PV.rr n a d=PV.rat (rv n a d):=by obtain⟨h1,h2,h3⟩:=Pc ha hd h;rw[PV.rr,PV.rat,<-h1,PV.num,PV.num,<-h2,<-h3]
theorem SR{a:List Nat}{k:Nat}(h:a.length=k+1):a.getLast? =some (a[k]'(by omega)):=by rw[Ka4,show a.length-1=k by omega];exact Kam _
def eN(a:List Int)(i:Nat):Int:=a.getD i 0
theorem fj{a:List Int}{i:Nat}(h:i<a.length):eN a i=a[i]:=by simp[eN,Kal,h]
theorem fA{a:List Int}{i:Nat}(h:a.length<=i):eN a i=0:=by simp[eN,Kal,List.getElem?_eq_none h]
theorem Gn(i:Nat):eN [] i=0:=by simp[eN]
def kI(l:List Int):Nat->List Int
 |0=>[]
 |n+1=>if l[n]? =some 0 then kI l n else l.take (n+1)
def gZ(l:List Int):List Int:=kI l l.length
theorem SS(l:List Int):∀n,(kI l n).length<=n
 |0=>by simp[kI]
 |n+1=>by
  rw[kI];split
  ·have:=SS l n;omega
  ·simp;omega
theorem UN(l:List Int):∀n,n<=l.length->(kI l n).getLast? ≠some 0
 |0,_=>by simp[kI]
 | n+1,h=>by
  rw[kI];split
  ·exact UN l n (by omega)
  ·rename_i hn;have:(l.take (n+1)).getLast? =l[n]? :=by rw[Ka4,KaH,KbY h];simp[Kca]
   rw[this];exact hn
theorem PX(l:List Int)(i:Nat):∀n,n<=l.length->eN (kI l n) i=if i<n then eN l i else 0
 |0,_=>by simp[kI,eN]
 | n +1,h=>by
  rw[kI];split
  ·rename_i hn;rw[PX l i n (by omega)];by_cases h1:i<n
   ·simp[h1,show i<n+1 by omega]
   ·rw[if_neg h1];split
    ·obtain rfl:i=n:=by omega
     simp[eN,Kal,hn]
    ·rfl
  ·simp only[eN,Kal,Kca];split<;>simp_all
theorem Ai(l:List Int)(i:Nat):eN (gZ l) i=eN l i:=by
 rw[gZ,PX l i _ (Kac _)];split
 ·rfl
 ·exact(fA (by omega)).symm
theorem C8(l:List Int):(gZ l).getLast? ≠some 0:=UN l _ (Kac _)
theorem rH(l:List Int):(gZ l).length<=l.length:=SS l _
theorem pF{a b:List Int}(ha:a.getLast? ≠some 0)(hb:b.getLast? ≠some 0)(h:∀i,eN a i=eN b i):a=b:=by
 have key:∀(a b:List Int),b.getLast? ≠some 0->(∀i,eN a i=eN b i)->¬a.length<b.length:=by intro a b hb h ar;have h1:=h (b.length-1);rw[fA (by omega),fj (by omega)]at h1;apply hb;rw[Ka4,Kam (by omega),<-h1]
 have h1:=key a b hb h;have h2:=key b a ha (fun i=>(h i).symm);refine KcV (by omega) fun i h3 h4=>?_;have:=h i
 rwa[fj h3,fj h4]at this
theorem DP{a:List Int}(h:a.getLast? ≠some 0):gZ a=a:=pF (C8 a) h (Ai a)
def dw(a b:List Int):Nat->Int
 |0=>0
 |n+1=>if eN a n=eN b n then dw a b n else cY (eN a n) (eN b n)
def aS(a b:List Int):Int:=dw a b (max a.length b.length)
theorem QJ{x y:Int}:cY x y=0↔x=y:=by unfold cY;(repeat' split)<;>omega
theorem acm(x y:Int):cY x y= -1∨cY x y=0∨cY x y=1:=by unfold cY;(repeat' split)<;>omega
theorem vw{x y:Int}:cY x y<0↔x<y:=by unfold cY;(repeat' split)<;>omega
theorem aee(x y:Int):cY y x= -cY x y:=by unfold cY;(repeat' split)<;>omega
theorem Dr(a b:List Int):∀n,dw a b n=0↔∀i,i<n->eN a i=eN b i
 |0=>by simp[dw]
 | n+1=>by
  rw[dw];split
  ·rename_i h;rw[Dr a b n];exact⟨fun H i hi=>by
    by_cases h1:i=n
    ·subst h1;exact h
    ·exact H i (by omega),fun H i hi=>H i (by omega)⟩
  ·rename_i h;rw[QJ];exact⟨fun H=>absurd H h,fun H=>H n (by omega)⟩
theorem OR(a b:List Int):∀n,dw b a n= -dw a b n
 |0=>rfl
 |n+1=>by
  rw[dw,dw];by_cases h:eN a n=eN b n
  ·rw[if_pos h,if_pos h.symm,OR a b n]
  ·rw[if_neg h,if_neg (fun h'=>h h'.symm),aee]
theorem Um{a b c:List Int}:∀n,dw a b n<0->dw b c n<0->dw a c n<0
 |0=>by simp[dw]
 | n+1=>by
  intro h1 h2;rw[dw]at h1 h2⊢;split at h1<;>split at h2
  ·rename_i e1 e2;rw[if_pos (e1.trans e2)];exact Um n h1 h2
  ·rename_i e1 e2;rw[e1,if_neg e2];exact h2
  ·rename_i e1 e2;rw[<-e2,if_neg e1];exact h1
  ·rename_i e1 e2;rw[vw]at h1 h2;rw[if_neg (by omega),vw];omega
theorem tB{a b:List Int}{m:Nat}(h:max a.length b.length<=m):dw a b m=aS a b:=by
 obtain⟨k,rfl⟩:∃k,m=max a.length b.length+k:=⟨m-max a.length b.length,by omega⟩
 induction k with
 |zero=>rfl
 |succ k ih=>rw[<-Nat.add_assoc,dw,if_pos (by rw[fA (by omega),fA (by omega)])];exact ih (by omega)
theorem IM{a b:List Int}(ha:a.getLast? ≠some 0)(hb:b.getLast? ≠some 0):aS a b=0↔a=b:=by
 unfold aS;rw[Dr];constructor
 ·intro h;refine pF ha hb fun i=>?_;by_cases hi:i<max a.length b.length
  ·exact h i hi
  ·rw[fA (by omega),fA (by omega)]
 ·rintro rfl i _;rfl
theorem zX(a:List Int):aS a a=0:=by rw[aS,Dr];intros;rfl
theorem vm(a b:List Int):aS b a= -aS a b:=by unfold aS;rw[Nat.max_comm,OR]
theorem Q8c{a b c:List Int}(h1:aS a b<0)(h2:aS b c<0):aS a c<0:=by
 have e:∀x y:List Int,x.length<=a.length+b.length+c.length->y.length<=a.length+b.length+c.length->aS x y=dw x y (a.length+b.length+c.length):=fun x y hx hy=>(tB (by omega)).symm;rw[e _ _ (by omega) (by omega)]at *
 exact Um _ h1 h2
theorem Q8d{a b c d:List Int}(h1:∀i,eN a i=eN c i)(h2:∀i,eN b i=eN d i):aS a b=aS c d:=by
 have key:∀n,dw a b n=dw c d n:=by
  intro n;induction n with
  |zero=>rfl
  |succ n ih=>rw[dw,dw,h1,h2,ih]
 rw[<-tB (m:=max (max a.length b.length) (max c.length d.length)) (by omega),key,tB (by omega)]
def j9(g:Int->Int->Int)(a b:List Int):List Int:=(List.range (max a.length b.length)).map fun i=>g (eN a i) (eN b i)
theorem oH(g:Int->Int->Int)(a b:List Int):(j9 g a b).length=max a.length b.length:=by simp[j9]
theorem QK{g:Int->Int->Int}(hg:g 0 0=0)(a b:List Int)(i:Nat):eN (j9 g a b) i=g (eN a i) (eN b i):=by
 by_cases h:i<max a.length b.length
 ·rw[fj (by rw[oH];exact h)];simp[j9]
 ·rw[fA (by rw[oH];omega),fA (by omega),fA (by omega),hg]
def bm(a b:List Int):List Int:=gZ (j9 (· + ·) a b)
theorem jl(a b:List Int)(i:Nat):eN (bm a b) i=eN a i+eN b i:=by rw[bm,Ai,QK (by simp)]
theorem pC(a b:List Int):(bm a b).getLast? ≠some 0:=C8 _
theorem xv(a b:List Int):bm a b=bm b a:=pF (pC _ _) (pC _ _) fun i=>by rw[jl,jl,Int.add_comm]
theorem Q8e(a b c:List Int):bm (bm a b) c=bm a (bm b c):=pF (pC _ _) (pC _ _) fun i=>by simp only[jl,Int.add_assoc]
theorem tC{a:List Int}(h:a.getLast? ≠some 0):bm a []=a:=pF (pC _ _) h fun i=>by rw[jl,Gn,Int.add_zero]
theorem aef(a b c:List Int):aS (bm a c) (bm b c)=aS a b:=by
 have key:∀n,dw (bm a c) (bm b c) n=dw a b n:=by
  intro n;induction n with
  |zero=>rfl
  |succ n ih=>
   rw[dw,dw,jl,jl,ih];by_cases h:eN a n=eN b n
   ·rw[if_pos h,if_pos (by omega)]
   ·rw[if_neg h,if_neg (by omega)];unfold cY;(repeat' split)<;>omega
 rw[<-tB (m:=max (max (bm a c).length (bm b c).length) (max a.length b.length)) (by omega),key,tB (by omega)]
def fB(a:List Int):Int:=a.sum
def fK(a:List Int):Bool:=decide (a.length<=64)&&(decide (a.getLast? ≠some 0)&&a.all fun x=>decide (0<=x)&&decide (x<=1048576))
def kb(o:Int)(a b:List Int):Int:=if o=1/\fB a≠fB b then cY (fB a) (fB b)else aS a b
structure MB(k:Nat)(a:List Int):Prop where
 len:a.length<=64
 lo:∀x∈a,0<=x
 hi:∀x∈a,x<=k
theorem MB.eN{k:Nat}{a:List Int}(h:MB k a)(i:Nat):0<=FW.eN a i/\FW.eN a i<=k:=by
 by_cases hi:i<a.length
 ·rw[fj hi];exact⟨h.lo _ (Kag _),h.hi _ (Kag _)⟩
 ·rw[fA (by omega)];omega
theorem MB.mono{k k':Nat}{a:List Int}(h:MB k a)(hk:k<=k'):MB k' a:=⟨h.len,h.lo,fun x hx=>by have:=h.hi x hx;omega⟩
theorem MB.uN{a:List Int}(h:fK a=true):MB 1048576 a:=by simp only[fK,Kat,decide_eq_true_eq,Kav]at h;exact⟨h.1,fun x hx=>(h.2.2 x hx).1,fun x hx=>(h.2.2 x hx).2⟩
theorem MB.mul{k l:Nat}{a b:List Int}(h:MB k a)(g:MB l b):MB (k+l) (bm a b):=by
 have hl:(bm a b).length<=64:=by have:=rH (j9 (· + ·) a b);rw[oH]at this;have:=h.len;have:=g.len;unfold bm;omega
 refine⟨hl,fun x hx=>?_,fun x hx=>?_⟩
 all_goals
  obtain⟨i,hi,rfl⟩:=Ka8 hx;rw[<-fj hi,jl];have:=h.eN i;have:=g.eN i
  push_cast;omega
variable {C : Ctx} {fr : Fr} {hp : HP} {w : World} {K R : Qh}
theorem akO{α:Type}{f:α->PV}{e d:Nat}{xs:List α}{k k':IntKind}{n:Nat}(h5:n<=xs.length):
  iM e (.sl e (xs.map f)) none (some (.int k (n:Int))) (some (.int k' (n:Int))) d fr hp K=K (af fr d (.sl e ((xs.take n).map f))) hp:=by
 simp[iM,iD,h5]
theorem DQ{α:Type}{a:List α}{k:Nat}(h:a.length=k+1):a.getLast? =some (a[k]'(by omega)):=by rw[Ka4,show a.length-1=k by omega];exact Kam _
theorem ZL{α:Type}{f:α->PV}{e by_ ty d:Nat}{xs:List α}(h0:0<e)(h1:xs.length*by_<=140737488355328)(h2:xs.length<=9223372036854775807):
  iU e by_ ty .aa (.sl e (xs.map f)) d fr hp K=K (af (cK d fr) d (.ms d xs.length)) (Qz hp d ⟨e,ty,xs.map f,false⟩):=by
 have:=C7 (fr:=fr) (hp:=hp) (K:=K) (e:=e) (by_:=by_) (ty:=ty) (d:=d) (x:=.sl e (xs.map f)) (ys:=xs.map f) rfl h0 (by simpa using h1) (by simpa using h2);simpa using this
theorem mN{α:Type}{f:α->PV}{e by_ ty d β n:Nat}{xs ys:List α}(hb:hp β=some ⟨e,ty,xs.map f,false⟩)(hn:n=xs.length)(h0:0<e)(h1:(n+ys.length)*by_<=140737488355328)(h2:n+ys.length<=9223372036854775807)(hB:cd β=false:=by decide):
  iU e by_ ty (.ms β n) (.sl e (ys.map f)) d fr hp K=K (af (cK β fr) d (.ms β (n+ys.length))) (Qz hp β ⟨e,ty,(xs++ys).map f,false⟩):=by
 rw[G' (ys:=ys.map f) (xs:=xs.map f) rfl hb h0 (by simp[hn]) (by simpa using h1) (by simpa using h2) hB];rw[Kae (by simp[hn]),List.map_append,KaV]
theorem Q9{α:Type}{f:α->PV}{y:α}{e by_ ty ty' d β γ n:Nat}{xs:List α}{fz:Bool}(hb:hp β=some ⟨e,ty,xs.map f,false⟩)(hy:hp γ=some ⟨e,ty',[f y],fz⟩)(h0:0<e)(hn:n=xs.length)(h1:(n+1)*by_<=140737488355328)(h2:n+1<=9223372036854775807)(hB:cd β=false:=by decide):
  iU e by_ ty (.ms β n) (.ms γ 1) d fr hp K=K (af (cK β fr) d (.ms β (n+1))) (Qz hp β ⟨e,ty,(xs++[y]).map f,false⟩):=by
 rw[Ic hb hy h0 (by simp[hn]) h1 h2 hB];simp
abbrev PV.mono(a:List Int):PV:=.sl 1 (iV a)
theorem UO{a:List Int}(h:a=[]):PV.le .aa (PV.mono a):=by subst h;trivial
theorem aiZ{by_ ty d:Nat}{k k':IntKind}{n c:Nat}(h2:n<=c)(h3:by_*c<=281474976710656)(h4:c<=9223372036854775807):
  nE 1 by_ ty (.int .i64 0) (.int k (n:Int)) (.int k' (c:Int)) d fr hp K=K (af (cK d fr) d (.ms d n)) (Qz hp d ⟨1,ty,iV (List.replicate n 0),false⟩):=by
 rw[Ru (by omega) (by omega) (by omega) (by omega)];simp[iV]
theorem QL(a b:Nat):max (a:Int) (b:Int)=((max a b:Nat):Int):=by omega
end Go.FW
namespace Go.FW
open Go
variable {C : Ctx} {fr : Fr} {hp : HP} {w : World} {K R : Qh}
theorem acn{α:Type}{done:List α}{i n:Nat}{v z:α}(h:done.length=i)(hn:0<n):(done++List.replicate n z).set i v=(done++[v])++List.replicate (n-1) z:=by
 obtain⟨m,rfl⟩:∃m,n=m+1:=⟨n-1,by omega⟩
 subst h;simp[Kbq]
theorem HO{g:Int->Int->Int}{a b:List Int}{i:Nat}(h:i<max a.length b.length):(j9 g a b).take (i+1)=(j9 g a b).take i++[g (eN a i) (eN b i)]:=by rw[Kah (by rw[oH];exact h)];simp[j9]
end Go.FW
namespace Go.FW
open Go
abbrev Tm:=Rat×List Int
abbrev PV.term(t:Tm):PV:=.agg [.bool (decide (t.1.num<0)),PV.num t.1.num.natAbs,PV.num t.1.den,PV.mono t.2]
abbrev PV.aj(p:List Tm):PV:=.sl 4 (p.map PV.term)
abbrev PV.ch(l:List (List Tm)):PV:=.sl 1 (l.map PV.aj)
def Q8:List Tm->List Tm->List Tm
 | [],q=>q
 |p,[]=>p
 |(c,m)::p,(d,l)::q=>
  if 0<aS m l then(c,m)::Q8 p ((d,l)::q)
  else if aS m l<0 then(d,l)::Q8 ((c,m)::p) q
  else if c+d=0 then Q8 p q else(c+d,m)::Q8 p q
termination_by p q=>p.length+q.length
theorem lf(p:List Tm):Q8 p []=p:=by cases p<;>rw[Q8];simp
theorem pG(p:List Tm):Q8 [] p=p:=by rw[Q8]
structure TB(K E:Nat)(t:Tm):Prop where
 c:rs t.1+1<=K
 m:MB E t.2
 l:t.2.getLast? ≠some 0
def PB(K E:Nat)(p:List Tm):Prop:=∀t∈p,TB K E t
theorem TB.mono{K K' E E':Nat}{t:Tm}(h:TB K E t)(hK:K<=K')(hE:E<=E'):TB K' E' t:=⟨Kaw h.c hK,h.m.mono hE,h.l⟩
theorem PB.mono{K K' E E':Nat}{p:List Tm}(h:PB K E p)(hK:K<=K')(hE:E<=E'):PB K' E' p:=fun t ht=>(h t ht).mono hK hE
theorem PB.nil(K E:Nat):PB K E []:=fun t ht=>by cases ht
theorem PB.cons{K E:Nat}{t:Tm}{p:List Tm}:PB K E (t::p)↔TB K E t/\PB K E p:=by simp[PB]
theorem PB.drop{K E:Nat}{p:List Tm}(h:PB K E p)(n:Nat):PB K E (p.drop n):=fun t ht=>h t (Kbx ht)
theorem PB.take{K E:Nat}{p:List Tm}(h:PB K E p)(n:Nat):PB K E (p.take n):=fun t ht=>h t (Kbc ht)
theorem PB.get{K E:Nat}{p:List Tm}(h:PB K E p){i:Nat}(hi:i<p.length):TB K E p[i]:=h _ (Kag hi)
theorem tk:∀(p q:List Tm),(Q8 p q).length<=p.length+q.length:=by
 intro p q;induction p,q using Q8.induct with
 |case1 q=>rw[Q8];simp
 |case2 p h=>rw[lf];simp
 |case3 c m p d l q h ih=>rw[Q8,if_pos h];simp at ih ⊢;omega
 |case4 c m p d l q h1 h2 ih=>rw[Q8,if_neg h1,if_pos h2];simp at ih ⊢;omega
 |case5 c m p d l q h1 h2 h3 ih=>rw[Q8,if_neg h1,if_neg h2,if_pos h3];simp at ih ⊢;omega
 |case6 c m p d l q h1 h2 h3 ih=>rw[Q8,if_neg h1,if_neg h2,if_neg h3];simp at ih ⊢;omega
theorem tI{K L E:Nat}:∀(p q:List Tm),PB K E p->PB L E q->PB (K+L) E (Q8 p q):=by
 intro p q;induction p,q using Q8.induct with
 |case1 q=>rw[Q8];exact fun _ h=>h.mono (by omega) (by omega)
 |case2 p h=>rw[lf];exact fun h _=>h.mono (by omega) (by omega)
 |case3 c m p d l q h ih=>intro hp hq;rw[Q8,if_pos h];rw[PB.cons]at hp⊢;exact⟨hp.1.mono (by omega) (by omega),ih hp.2 hq⟩
 |case4 c m p d l q h1 h2 ih=>intro hp hq;rw[Q8,if_neg h1,if_pos h2];rw[PB.cons]at hq⊢;exact⟨hq.1.mono (by omega) (by omega),ih hp hq.2⟩
 |case5 c m p d l q h1 h2 h3 ih=>intro hp hq;rw[Q8,if_neg h1,if_neg h2,if_pos h3];rw[PB.cons]at hp hq;exact ih hp.2 hq.2
 |case6 c m p d l q h1 h2 h3 ih=>intro hp hq;rw[Q8,if_neg h1,if_neg h2,if_neg h3];rw[PB.cons]at hp hq⊢;refine⟨⟨?_,hp.1.m,hp.1.l⟩,ih hp.2 hq.2⟩;have:=xS c d;have:=hp.1.c;have:=hq.1.c;simp only at *;omega
def cQ(l:List (List Tm)):List Tm:=
 match l with
 | []=>[]
 | [p]=>p
 |p::q::r=>Q8 (cQ ((p::q::r).take ((p::q::r).length/2))) (cQ ((p::q::r).drop ((p::q::r).length/2)))
termination_by l.length
decreasing_by
 all_goals simp[KaH,Ka5];omega
theorem zY{l:List (List Tm)}(h:2<=l.length):cQ l=Q8 (cQ (l.take (l.length/2))) (cQ (l.drop (l.length/2))):=by
 match l,h with
 |p::q::r,_=>rw[cQ]
def sn(l:List (List Tm)):Nat:=(l.map List.length).sum
theorem Un(l:List (List Tm))(n:Nat):sn (l.take n)+sn (l.drop n)=sn l:=by unfold sn;rw[<-List.sum_append,<-List.map_append,Kbo]
theorem Hk{K E:Nat}:∀(n:Nat)(l:List (List Tm)),l.length<=n->(∀p∈l,PB K E p)->PB (l.length*K) E (cQ l)/\(cQ l).length<=sn l:=by
 intro n;induction n with
 |zero=>intro l hl _;have:l=[]:=Kas.1 (by omega);subst this;rw[cQ];exact⟨PB.nil _ _,by simp⟩
 | succ n ih=>
  intro l hl h
  match l,h with
  | [],_=>rw[cQ];exact⟨PB.nil _ _,by simp⟩
  | [p],h=>rw[cQ];exact⟨by simpa using h p (by simp),by simp[sn]⟩
  | p::q::r,h=>
   rw[zY (by simp)];generalize hL:p::q::r=L at *
   have hlen:2<=L.length:=by rw[<-hL];simp
   obtain⟨a1,a2⟩:=ih (L.take (L.length/2)) (by rw[KaH];omega) (fun x hx=>h x (Kbc hx));obtain⟨b1,b2⟩:=ih (L.drop (L.length/2)) (by rw[Ka5];omega) (fun x hx=>h x (Kbx hx));have hs:=Un L (L.length/2);constructor
   ·have e:(L.take (L.length/2)).length*K+(L.drop (L.length/2)).length*K=L.length*K:=by rw[<-Nat.add_mul,KaH,Ka5];congr 1;omega
    rw[<-e];exact tI _ _ a1 b1
   ·have:=tk (cQ (L.take (L.length/2))) (cQ (L.drop (L.length/2)));omega
def bd(p:List Tm)(t:Tm):List Tm:=p.filterMap fun x=>if x.1*t.1=0 then none else some (x.1*t.1,bm x.2 t.2)
theorem uV(p:List Tm)(t:Tm):(bd p t).length<=p.length:=Kcb _ _
theorem tu{K L E F:Nat}{p:List Tm}{t:Tm}(hp:PB K E p)(ht:TB L F t):PB (K+L) (E+F) (bd p t):=by
 intro x hx;simp only[bd,KbR]at hx;obtain⟨y,hy,h⟩:=hx;split at h
 ·cases h
 ·cases h;have g:=hp y hy;refine⟨?_,g.m.mul ht.m,pC _ _⟩;have:=xT y.1 t.1;have:=g.c;have:=ht.c;simp only;omega
def oM(p q:List Tm):List Tm:=cQ (p.map (bd q))
def Q4(p q:List Tm):List Tm:=if q.length<p.length then oM q p else oM p q
theorem GJ(p q:List Tm):sn (p.map (bd q))<=p.length*q.length:=by
 unfold sn;induction p with
 |nil=>simp
 |cons t p ih=>have:=uV q t;simp only[Kbd,Kdj,KaW,KaF,KcW];omega
theorem SU{K L E F:Nat}{p q:List Tm}(hp:PB K E p)(hq:PB L F q):PB (p.length*(K+L)) (E+F) (oM p q)/\(oM p q).length<=p.length*q.length:=by obtain⟨h1,h2⟩:=Hk (K:=K+L) (E:=E+F) _ (p.map (bd q)) (Kac _) (fun x hx=>by obtain⟨t,ht,rfl⟩:=KaE.1 hx;exact(tu hq (hp t ht)).mono (by omega) (by omega));rw[KaV]at h1;exact⟨h1,Kaw h2 (GJ p q)⟩
theorem xm{K L E F:Nat}{p q:List Tm}(hp:PB K E p)(hq:PB L F q):PB (min p.length q.length*(K+L)) (E+F) (Q4 p q)/\(Q4 p q).length<=p.length*q.length:=by
 unfold Q4;split
 ·rename_i h;obtain⟨h1,h2⟩:=SU hq hp;rw[Kde (by omega),KbQ K,KbQ E,KaU p.length];exact⟨h1,h2⟩
 ·rename_i h;obtain⟨h1,h2⟩:=SU hp hq;rw[KbY (by omega)];exact⟨h1,h2⟩
theorem zZ(x y:Tm)(p q:List Tm):Q8 (x::p) (y::q)=if 0<aS x.2 y.2 then x::Q8 p (y::q)else if aS x.2 y.2<0 then y::Q8 (x::p) q else if x.1+y.1=0 then Q8 p q else(x.1+y.1,x.2)::Q8 p q:=by obtain⟨c,m⟩:=x;obtain⟨d,l⟩:=y;rw[Q8]
theorem UP{p q:List Tm}{i k:Nat}(hi:i<p.length)(hk:k<q.length):Q8 (p.drop i) (q.drop k)=if 0<aS p[i].2 q[k].2 then p[i]::Q8 (p.drop (i+1)) (q.drop k)else if aS p[i].2 q[k].2<0 then q[k]::Q8 (p.drop i) (q.drop (k+1))else if p[i].1+q[k].1=0 then Q8 (p.drop (i+1)) (q.drop (k+1))else(p[i].1+q[k].1,p[i].2)::Q8 (p.drop (i+1)) (q.drop (k+1)):=by rw[Kaz hi,Kaz hk,zZ]
theorem ED(a b:List Int):kb 0 a b=aS a b:=by simp[kb]
theorem Hl{a b:List Int}(h1:¬0<aS a b)(h2:¬aS a b<0)(ha:a.getLast? ≠some 0)(hb:b.getLast? ≠some 0):a=b:=(IM ha hb).1 (by omega)
theorem pH:PV.le .aa (PV.aj []):=trivial
theorem HQ{p:List Tm}(h:p=[]):PV.le .aa (PV.aj p):=by subst h;trivial
section
variable {C : Ctx} {fr : Fr} {hp : HP} {w : World} {K R : Qh}
theorem aeg{e by_ ty d:Nat}{z:PV}{k k':IntKind}{Cc:Int}(h0:0<e)(hz:z.cells.length=e)(h2:0<=Cc)(h3:by_*Cc<=281474976710656)(h4:Cc<=9223372036854775807):
  nE e by_ ty z (.int k 0) (.int k' Cc) d fr hp K=K (af (cK d fr) d (.ms d 0)) (Qz hp d ⟨e,ty,[],false⟩):=Cr h0 hz (by omega) h2 h3 h4
end
end Go.FW
namespace Go.FW
open Go
def b8(p:List Tm)(a:Rat):List Tm:=if a=0 then []else bd p (a,[])
def lj(p:List Tm):List Tm:=b8 p (-1)
def fV(p q:List Tm):List Tm:=Q8 p (lj q)
def dm(a:Rat):List Tm:=if a=0 then []else [(a,[])]
def X3(v:Nat):List Int:=List.replicate v 0++[1]
def vO(v:Int):List Tm:=if v<0∨64<=v then []else [(1,X3 v.toNat)]
theorem TB.num{a:Rat}{K E:Nat}(h:rs a+1<=K):TB K E (a,[]):=⟨h,⟨by simp,by simp,by simp⟩,by simp⟩
theorem xw{p:List Tm}{a:Rat}{K E L:Nat}(hp:PB K E p)(ha:rs a+1<=L):PB (K+L) E (b8 p a):=by
 unfold b8;split
 ·exact PB.nil _ _
 ·exact(tu (F:=0) hp (TB.num ha)).mono (by omega) (by omega)
theorem uW(p:List Tm)(a:Rat):(b8 p a).length<=p.length:=by
 unfold b8;split
 ·simp
 ·exact uV _ _
theorem Gy:rs (-1)<=1:=by have:rs (-1)=max (nl 1) (nl 1):=rfl;rw[this,jV];omega
theorem l4:rs 1<=1:=by have:rs 1=max (nl 1) (nl 1):=rfl;rw[this,jV];omega
theorem NU:rs 0<=1:=by have:rs 0=max (nl 0) (nl 1):=rfl;rw[this,jV,xQ];omega
theorem xK{p:List Tm}{K E:Nat}(hp:PB K E p):PB (K+2) E (lj p):=xw hp (by have:=Gy;omega)
def mW(s t:Tm):Int:=if aS s.2 t.2≠0 then aS s.2 t.2 else oe s.1 t.1
def ia:List Tm->List Tm->Int
 | [],[]=>0
 | [],_::_=> -1
 |_::_,[]=>1
 |s::p,t::q=>if mW s t≠0 then mW s t else ia p q
theorem afU{s t:Tm}(hs:s.2.getLast? ≠some 0)(ht:t.2.getLast? ≠some 0):mW s t=0↔s=t:=by
 unfold mW;constructor
 ·intro h;split at h
  ·omega
  ·rename_i h1;have e1:=(IM hs ht).1 (Decidable.not_not.1 h1);exact Prod.ext (UM.1 h) e1
 ·rintro rfl;rw[if_neg (by simp[zX]),UM.2 rfl]
theorem QM:∀ {p q:List Tm},(∀t∈p,t.2.getLast? ≠some 0)->(∀t∈q,t.2.getLast? ≠some 0)->(ia p q=0↔p=q)
 | [],[],_,_=>by simp[ia]
 | [],_::_,_,_=>by simp[ia]
 |_::_,[],_,_=>by simp[ia]
 | s::p,t::q,hp,hq=>by
  rw[ia];have h1:=afU (hp s (by simp)) (hq t (by simp));have h2:=QM (p:=p) (q:=q) (fun x hx=>hp x (by simp[hx])) (fun x hx=>hq x (by simp[hx]));split
  ·rename_i h;simp only[KcL];exact⟨fun h'=>absurd h' h,fun h'=>absurd (h1.2 h'.1) h⟩
  ·rename_i h;rw[h2,KcL,<-h1];exact⟨fun h'=>⟨Decidable.not_not.1 h,h'⟩,fun h'=>h'.2⟩
theorem UQ{p q:List Tm}{i:Nat}(hi:i<p.length)(hk:i<q.length):ia (p.drop i) (q.drop i)=if mW p[i] q[i]≠0 then mW p[i] q[i]else ia (p.drop (i+1)) (q.drop (i+1)):=by rw[Kaz hi,Kaz hk,ia]
theorem Aj{q:List Tm}:ia [] q=if q.length=0 then 0 else -1:=by cases q<;>simp[ia]
theorem PB.last{K E:Nat}{p:List Tm}(h:PB K E p):∀t∈p,t.2.getLast? ≠some 0:=fun t ht=>(h t ht).l
def jH(p:List Tm):Int:=p.foldl (fun d t=>max d (fB t.2)) (-1)
theorem IN{E:Nat}{a:List Int}(h:MB E a):0<=fB a/\fB a<=64*E:=by
 have key:∀(l:List Int),(∀x∈l,0<=x)->(∀x∈l,x<=E)->0<=l.sum/\l.sum<=l.length*E:=by
  intro l;induction l with
  |nil=>simp
  |cons x l ih=>
   intro h1 h2;obtain⟨a1,a2⟩:=ih (fun y hy=>h1 y (by simp[hy])) (fun y hy=>h2 y (by simp[hy]));have b1:=h1 x (by simp);have b2:=h2 x (by simp);rw[Kdj,KaW]
   push_cast
   rw[Int.add_mul];omega
 obtain⟨h1,h2⟩:=key a h.lo h.hi;refine⟨h1,Int.le_trans h2 (Int.mul_le_mul_of_nonneg_right ?_ (by omega))⟩;have:=h.len;omega
open Go Go.RowKit
section
variable {F : Fence} {n : Nat} {P : Program}
def Co(lo:Nat):List Deferred->Nat->World->Prop
 | [],_,_=>True
 |d::ds,hi,W=>∃D,d={ target:=.collected D,args:= #[] }/\lo<=D/\D<hi/\W.heap[D]? =some (.deferred (some []))/\Co lo ds D W
theorem Co.hi{lo:Nat}{W:World}:∀ {ds:List Deferred} {hi aB:Nat},Co lo ds hi W->hi<=aB->Co lo ds aB W
 | [],_,_,_,_=>trivial
 |_::_,_,_,⟨D,h1,h2,h3,h4,h5⟩,h=>⟨D,h1,h2,by omega,h4,h5⟩
end
end Go.FW
namespace Go.FW
open Go Go.RowKit
end Go.FW
