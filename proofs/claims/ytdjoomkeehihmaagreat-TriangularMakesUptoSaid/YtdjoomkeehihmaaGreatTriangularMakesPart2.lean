/- Part 2 of the proof of TriangularMakes: FwO, FwP, FwQ, FwR, FwS, FwT, FwU, FwV, FwW, FwX, FwY, FwZ, FwBA, FwBB, FwBC, FwBD, FwBE, FwBF, FwBG, FwBH, FwCA, FwCB, FwCC, FwCD, FwCE, FwCF, FwCG, FwCH, FwCI, FwCJ, FwCK, FwCL, FwMA, FwMB, FwMC, FwPA, FwPB, FwRC, FwRD. Own lemmas; no conditions. -/
import Derived.Test.YtdjoomkeehihmaaGreatTriangularMakesPart1
import Derived.Deep.RegionHeld3
import Derived.LoopN
import Derived.Maps.AppendAt
import Derived.Deep.AppendSrc
import Derived.OwnWalkIn
set_option maxHeartbeats 1000000
set_option linter.unusedSimpArgs false
set_option linter.unusedVariables false
set_option linter.unnecessarySimpa false
set_option maxRecDepth 100000
namespace Go.FW
open Go
section
variable {P : Program} {ops : Array Oper} {Q : Exit -> Act -> World -> Prop}
def uW(P:Program)(ops:Array Oper)(Q:Exit->Act->World->Prop)(iK:Nat->Bool):Nat->Array Bool->Act->World->Prop
 |0,aW,a,w=>Region.ready .any ops aW=[]/\Q .normal a w
 |fuel+1,aW,a,w=>
  (Region.ready .any ops aW=[]->Q .normal a w)/\
  ∀i∈Region.ready .any ops aW,wpOp P ops Q i (fun a' w'=>(iK i=false->Ext bO w w')/\uW P ops Q iK fuel (aW.setIfInBounds i true) a' w') a w
theorem Gr(iK:Nat->Bool):∀(fuel:Nat)(aW:Array Bool)(a:Act)(w:World),uW P ops Q iK fuel aW a w->wpAny P .any ops Q fuel aW a w
 |0,_,_,_,h=>h
 |fuel+1,_,_,_,h=>⟨h.1,fun i hi=>wpOp_mono (fun a' w' h'=>Gr iK fuel _ a' w' h'.2) (h.2 i hi)⟩
def YF(P:Program)(ops:Array Oper)(all:Bool)(o:Oper)(v:Value)(a:Act)(w:World):Prop:=
 (Region.wanted o (yielded ops a.tmps)=true/\∀w',(all=true∨Ext bO w w')->(execOp a.eval o).run P w'= .ok (.value v) w')∨
 (Region.wanted o (yielded ops a.tmps)=false/\v=undef)
theorem YF.step{all:Bool}{o:Oper}{v:Value}{a a':Act}{w w':World}(hy:YF P ops all o v a w)(he:execOp a'.eval o=execOp a.eval o)
  (hw:Region.wanted o (yielded ops a'.tmps)=Region.wanted o (yielded ops a.tmps)) (hx:all=true∨Ext bO w w'):YF P ops all o v a' w':=by
 unfold YF at *
 rw[he,hw];rcases hy with⟨h1,h2⟩|h
 ·refine .inl ⟨h1,fun w2 h3=>h2 w2 ?_⟩;rcases hx with hx|hx
  ·exact .inl hx
  ·rcases h3 with h3|h3
   ·exact .inl h3
   ·exact .inr (hx.trans h3)
 ·exact .inr h
theorem YF.wpOp{all:Bool}{i:Nat}{o:Oper}{v:Value}{a:Act}{w:World}(hi:ops[i]? =some o)(hy:YF P ops all o v a w)
  {K:Act->World->Prop} (h:K (a.put o.dst v) w):Go.wpOp P ops Q i K a w:=by
 unfold Go.wpOp;simp only[hi];rcases hy with⟨hw,hv⟩|⟨hw,rfl⟩
 ·simp only[hw,if_true,Oper.wp,hv w (.inr (Ext.refl _ _)),Oper.upon];exact .inl h
 ·simp only[hw,KaL,if_false];exact h
theorem Q9k{j:Nat}{oi oj:Oper}{v:Value}(hj:ops[j]? =some oj)(hap:oi.apart ops oj=true)
  (VD:∀cs b,oi.op≠ .select cs b) (VE:∀cs b,oj.op≠ .select cs b)
  (hQ:∀c a w,Q (.panic c) (a.put oi.dst v) w->Q (.panic c) a w) {K:Act->World->Prop} {a:Act} {w:World}
  (h:Go.wpOp P ops Q j K (a.put oi.dst v) w):
  Go.wpOp P ops Q j (fun a' w'=>(execOp a'.eval oi=execOp a.eval oi/\Region.wanted oi (yielded ops a'.tmps)=Region.wanted oi (yielded ops a.tmps))/\K (a'.put oi.dst v) w') a w:=by
 obtain⟨h1,h2,h3⟩:=Oper.apart_spec hap;have gT:∀u,execOp (a.put oj.dst u).eval oi=execOp a.eval oi/\Region.wanted oi (yielded ops (a.put oj.dst u).tmps)=Region.wanted oi (yielded ops a.tmps):=fun u=>
  ⟨execOp_put oi VD a oj.dst u h3,wanted_put oi a oj.dst u h3⟩
 have aoF:∀d u,execOp (({ a with defers:=d::a.defers }:Act).put oj.dst u).eval oi=execOp a.eval oi/\Region.wanted oi (yielded ops (({ a with defers:=d::a.defers }:Act).put oj.dst u).tmps)=Region.wanted oi (yielded ops a.tmps):=fun d u=>
  ⟨(execOp_put oi VD ({ a with defers:=d::a.defers }:Act) oj.dst u h3).trans rfl,(wanted_put oi ({ a with defers:=d::a.defers }:Act) oj.dst u h3).trans rfl⟩
 unfold Go.wpOp at *
 simp only[hj]at *
 rw[wanted_put oj a oi.dst v h1]at h;split
 ·rename_i hw;simp only[hw,if_true]at h;rcases h with h|⟨UE,anB⟩
  case inr=>exact .inr ⟨by unfold Oper.asks at *;rw[execOp_put oj VE a oi.dst v h1]at UE;exact UE,anB⟩
  refine .inl ?_;unfold Oper.wp at *
  rw[execOp_put oj VE a oi.dst v h1]at h;generalize(execOp a.eval oj).run P w=r at *
  cases r with
  | ok n w'=>
   cases n<;>simp only[Oper.upon]at h⊢
   case value u=>exact⟨gT u,by rw[<-Act.put_comm a v u h2];exact h⟩
   case skip=>exact⟨gT _,by rw[<-Act.put_comm a v undef h2];exact h⟩
   case defer d=>
    refine⟨aoF d _,?_⟩;rw[<-Act.put_comm _ v undef h2,<-Act.put_defers];exact h
   case enter f args=>
    refine Calls.mono h fun e w'' he=>?_;cases e with
    |returned u=>exact⟨gT u,by rw[<-Act.put_comm a v u h2];exact he⟩
    |panicked c=>exact hQ _ _ _ he
    |outgrown=>exact he
   case row row args=>exact Rows.mono h fun u w'' he=>⟨gT u,by rw[<-Act.put_comm a v u h2];exact he⟩
  |halt x w'=>
   cases x<;>simp only[Oper.upon]at h⊢
   case panic u=>exact hQ _ _ _ h
 ·rename_i hw;simp only[hw]at h;exact⟨gT _,by rw[<-Act.put_comm a v undef h2];exact h⟩
def pe(ops:Array Oper)(aW:Array Bool):Prop:=∀(j:Nat)(o:Oper),ops[j]? =some o->aW.getD j false=true->∀e∈o.after,Region.binds .any e=true->aW.getD e.on false=true
theorem pe.step{aW:Array Bool}{i:Nat}(h:pe ops aW)(hi:i∈Region.ready .any ops aW):pe ops (aW.setIfInBounds i true):=by
 intro j o hj hl e he hb;obtain⟨h0,oi,se,cu⟩:=mem_ready.1 hi;by_cases L6:i=j
 ·subst L6;rw[hj]at se;cases se;exact getD_set_true (cu e he hb)
 ·rw[getD_set_ne false L6]at hl;exact getD_set_true (h j o hj hl e he hb)
theorem QD{aW:Array Bool}{i:Nat}(hd:pe ops aW):∀(n k:Nat),aW.getD k false=true->qj ops n i k=true->aW.getD i false=true
 |0,_,_,h=>by simp[qj]at h
 | n+1,k,hk,h=>by
  unfold qj at h;cases ho:ops[k]? with
  |none=>simp[ho]at h
  |some o=>
   simp only[ho,Ka4,Kat,KbS,beq_iff_eq]at h;obtain⟨e,he,hb,h⟩:=h;have hl:=hd k o ho hk e (by simpa using he) hb;rcases h with h|h
   ·rw[<-h];exact hl
   ·exact QD hd n e.on hl h
theorem Qxm{aW:Array Bool}{i j n:Nat}(hd:pe ops aW)(hj:j∈Region.ready .any ops aW)(h:qj ops n i j=true):aW.getD i false=true:=by
 obtain⟨_,o,ho,cu⟩:=mem_ready.1 hj;cases n with
 |zero=>simp[qj]at h
 |succ n=>
  unfold qj at h;simp only[ho,Ka4,Kat,KbS,beq_iff_eq]at h;obtain⟨e,he,hb,h⟩:=h;have hl:=cu e (by simpa using he) hb;rcases h with h|h
  ·rw[<-h];exact hl
  ·exact QD hd n e.on hl h
theorem Q9l{aW:Array Bool}{i:Nat}(h0:aW.getD i true=false):¬aW.getD i false=true:=by
 intro h1;rcases Kc6 i aW.size with h'|h'
 ·simp[h']at h0 h1;rw[h0]at h1;cases h1
 ·simp[KcD h']at h1
theorem Xi{iK:Nat->Bool}{all:Bool}{i:Nat}{oi:Oper}{v:Value}(hi:ops[i]? =some oi)(VB:∀(j:Nat)(o:Oper) cs b,ops[j]? =some o->o.op≠ .select cs b)
  (hQ:∀c a w,Q (.panic c) (a.put oi.dst v) w->Q (.panic c) a w)
  (yf:all=true∨∀j,iK j=true->j<ops.size->qj ops ops.size i j=true∨j=i):
  ∀(fuel:Nat)(aW:Array Bool)(a:Act)(w:World),pe ops aW->
   (∀j oj,ops[j]? =some oj->j≠i->aW.getD j true=false->(∀e∈oj.after,Region.binds .any e=true->e.on≠i)->oi.apart ops oj=true)->
   i∈Region.ready .any ops aW->YF P ops all oi v a w->
   uW P ops Q iK fuel (aW.setIfInBounds i true) (a.put oi.dst v) w->uW P ops Q iK (fuel+1) aW a w:=by
 intro fuel;induction fuel with
 | zero=>
  intro aW a w _ _ hr hy H;refine⟨fun h=>(by rw[h]at hr;cases hr),fun j hj=>?_⟩;by_cases dW:j=i
  ·subst dW;exact hy.wpOp hi ⟨fun _=>Ext.refl _ _,H⟩
  ·have:=ready_mono hj dW;rw[H.1]at this;cases this
 | succ fuel ih=>
  intro aW a w UL AM hr hy H;refine⟨fun h=>(by rw[h]at hr;cases hr),fun j hj=>?_⟩;by_cases dW:j=i
  ·subst dW;exact hy.wpOp hi ⟨fun _=>Ext.refl _ _,H⟩
  ·have h1:=H.2 j (ready_mono hj dW);obtain⟨UY,oj,mZ,cu⟩:=mem_ready.1 hj;have UT:¬aW.getD i false=true:=Q9l (mem_ready.1 hr).1;have anL:∀e∈oj.after,Region.binds .any e=true->e.on≠i:=fun e he hb heq=>UT (heq▸cu e he hb);have h2:=Q9k mZ (AM j oj mZ dW UY anL) (fun cs b=>VB i oi cs b hi) (fun cs b=>VB j oj cs b mZ) hQ h1;have amD:all=true∨iK j=false:=by
    rcases yf with h|h
    ·exact .inl h
    ·cases hb:iK j with
     |false=>exact .inr rfl
     |true=>
      have ano:j<ops.size:=(KaG.1 mZ).1;rcases h j hb ano with h|h
      ·exact absurd (Qxm UL hj h) UT
      ·exact absurd h dW
   have am7:∀k ok,ops[k]? =some ok->k≠i->(aW.setIfInBounds j true).getD k true=false->
     (∀e∈ok.after,Region.binds .any e=true->e.on≠i)->oi.apart ops ok=true:=fun k ok hk vO oc qQ=>by
    refine AM k ok hk vO ?_ qQ;by_cases UW:j=k
    ·subst UW;exact UY
    ·rw[getD_set_ne true UW]at oc;exact oc
   refine wpOp_mono (fun a' w' h3=>?_) h2;obtain⟨⟨he,hw⟩,hx,vX⟩:=h3;refine⟨hx,ih (aW.setIfInBounds j true) a' w' (UL.step hj) am7 (ready_mono hr (Ne.symm dW)) (hy.step he hw ?_) ?_⟩
   ·rcases amD with h|h
    ·exact .inl h
    ·exact .inr (hx h)
   ·rw[Array.setIfInBounds_comm _ _ dW];exact vX
end
section
variable {C : Ctx} {ρ : Nat -> Option Nat} {fr : Fr} {hp : HP} {w : World} {a : Act} {K : Qg}
theorem QV{dr:Bool}{o:Oper}(ar:∀d,o.dst=some d->d<C.N)(h:aI C ρ fr hp a.tmps w)(hv:ju (fN C.P dr o) fr hp K):∃ay an,aI C ρ ay an (a.put o.dst undef).tmps w/\K ay an:=by
 unfold ju at hv;rw[Pn]at hv;cases hd:o.dst with
 |some d=>rw[hd]at hv;exact⟨_,hp,h.af Qt.WB (ar d hd),hv⟩
 |none=>rw[hd]at hv;exact⟨fr,hp,h,hv⟩
theorem ag4{P:Program}{dr:Bool}{o:Oper}:(fN P dr o).cls=(fN P true o).cls:=by
 cases dr with
 |true=>rfl
 | false=>
  have h0:(mo P false o).map cx.cls=(mo P true o).map cx.cls:=by
   unfold mo;split<;>first|rfl|skip
   split<;>first|rfl|skip
   rename_i f _;cases h1:bY f with
   |none=>simp
   |some pf=>simp only[Kda,Option.map_map];congr 1
  unfold fN;cases h1:mo P false o<;>cases h2:mo P true o<;>simp_all[cx.cls]
theorem QW {dr:Bool} {R:Qg} {sk:List It} {ops:Array Oper} {Q:Exit->Act->World->Prop} (qR:Region.noSelect ops=true) (hQ:BR C (vc C R sk) Q):∀(n:Nat) (aW:Array Bool) (r:RT) (fr:Fr) (hp:HP) (a:Act) (w:World),
  o0 C.P C.N dr ops n aW=some r.strip->pe ops aW->a.defers=[]->eT C fr hp a.tmps w->vc C R (.o r::sk) fr hp->
  uW C.P ops (NoPanic Q) (xm C.P dr ops) n aW a w:=by
 intro n;have done:∀(n:Nat)(aW:Array Bool)(r:RT)(fr:Fr)(hp:HP)(a:Act)(w:World),Region.ready .any ops aW=[]->a.defers=[]->eT C fr hp a.tmps w->r.strip= .nil->vc C R (.o r::sk) fr hp->uW C.P ops (NoPanic Q) (xm C.P dr ops) n aW a w:=by
  intro n aW r fr hp a w hr aU hs iU hv;obtain⟨r',fr,hp,h1,h2,hs,hv⟩:=wZ r fr hp hs hv;obtain rfl:=SX (h1.trans iU) h2;rw[zX]at hv;have hq:NoPanic Q .normal a w:=hQ fr hp a w aU hs hv;cases n with
  |zero=>exact⟨hr,hq⟩
  |succ n=>exact⟨fun _=>hq,by rw[hr];simp⟩
 induction n with
 | zero=>
  intro aW r fr hp a w ho hd aU hs hv;unfold o0 at ho;split at ho
  ·rename_i hr;exact done 0 aW r fr hp a w (by simpa using hr) aU hs (KcY ho).symm hv
  ·cases ho
 | succ n ih=>
  intro aW r fr hp a w ho hd aU hs hv;unfold o0 at ho;split at ho
  ·rename_i hr;exact done (n+1) aW r fr hp a w (by simpa using hr) aU hs (KcY ho).symm hv
  ·rename_i hr;obtain⟨r',fr,hp,e1,e2,hs,hv⟩:=wZ r fr hp hs hv;rw[<-e1]at ho;split at ho
   ·rename_i i am3;have kv:=List.find?_some am3;simp only[Kab,Kaa]at ho;obtain⟨g,⟨o,se,LN⟩,r0,fK,vL⟩:=ho;obtain⟨r',rfl,rfl⟩:=HG vL.symm e2;unfold Fs at kv;simp only[Kat,List.contains_iff_mem]at kv;obtain⟨⟨EN,AM⟩,cw⟩:=kv;have Er:tj C.P ops i=(fN C.P dr o).cls:=by rw[ag4];simp[tj,se]
    rw[Aa]at hv;obtain⟨ρ,pO⟩:=hs;obtain⟨ar,lS,AG⟩:=Ra pO LN hv;rw[lS]at AG;have yf:∀all:Bool,(all=false->tj C.P ops i=1)->all=true∨∀j,xm C.P dr ops j=true->j<ops.size->qj ops ops.size i j=true∨j=i:=by
     intro all cu;cases all with
     |true=>exact .inl rfl
     |false=>
      refine .inr fun j hj pF=>?_;rw[cu rfl]at cw;have:=Kax.1 cw j (by simpa using pF);simp only[KbS,Bool.not_eq_true']at this;rcases this with h|h
      ·rw[hj]at h;cases h
      ·exact .inl h
    have fin:∀(all:Bool)(v:Value),(all=false->tj C.P ops i=1)->YF C.P ops all o v a w->(∃ay an,aI C ρ ay an (a.put o.dst v).tmps w/\vc C R (.o r'::sk) ay an)->uW C.P ops (NoPanic Q) (xm C.P dr ops) (n+1) aW a w:=by
     intro all v cu hy ⟨ay,an,dY,od⟩;exact Xi se (Region.noSelect_spec qR) (fun _ _ _ h=>h) (yf all cu) n aW a w hd (Region.free_spec se AM) EN hy
      (ih _ r' ay an _ w fK (hd.step EN) (by rw[uB];exact aU) ⟨ρ,dY⟩ od)
    rcases AG with⟨hw,hv⟩|⟨hw,hv⟩
    ·by_cases h0:tj C.P ops i=0
     ·obtain⟨v,bm,vX⟩:=R2 (by rw[<-Er];exact h0) ar pO hv;exact fin true v (by simp) (.inl ⟨hw,fun w' _=>bm w'⟩) vX
     ·by_cases h1:tj C.P ops i=1
      ·obtain⟨v,b,hb,bm,vX⟩:=R3 (by rw[<-Er];exact h1) ar pO hv;exact fin false v (fun _=>h1) (.inl ⟨hw,fun w' qV=>bm w' (qV.elim (fun h=>by cases h) (fun h=>h.block b hb (fun h=>h)))⟩) vX
      ·split at cw
       ·rename_i h;exact absurd h h0
       ·rename_i h;exact absurd h h1
       ·cases cw
    ·by_cases h1:tj C.P ops i=1
     ·exact fin false undef (fun _=>h1) (.inr ⟨hw,rfl⟩) (QV ar pO hv)
     ·exact fin true undef (by simp) (.inr ⟨hw,rfl⟩) (QV ar pO hv)
   ·
    simp only[Kaa]at ho;obtain⟨rs,fj,vL⟩:=ho;obtain⟨m1,m2⟩:=oo fj;have AF:∀(rs:List RT) (r':RT) (fr:Fr) (hp:HP),r'.strip=tC rs->eT C fr hp a.tmps w->vc C R (.o r'::sk) fr hp->∀r∈rs,∃r2 mQ eX,r2.strip=r/\(∀x,r2≠ .wk x)/\eT C mQ eX a.tmps w/\vc C R (.o r2::sk) mQ eX:=by
     intro rs;induction rs with
     |nil=>intro _ _ _ _ _ _ r hr;cases hr
     | cons x xs kA=>
      intro r' fr hp fK hs hv r hr;obtain⟨r2,mQ,eX,f1,f2,hs,hv⟩:=wZ r' fr hp hs hv;cases xs with
      |nil=>simp at hr;subst hr;exact⟨r2,mQ,eX,f1.trans fK,f2,hs,hv⟩
      | cons y ys=>
       rw[tC]at fK
       ·obtain⟨a',b',rfl,g1,g2⟩:=ab9 (f1.trans fK) f2;rw[P1]at hv;rcases KaO.1 hr with rfl|hr
        ·obtain⟨r3,DU,sg,k1,k2,k3,k4⟩:=wZ a' mQ eX hs hv.1;exact⟨r3,DU,sg,k1.trans g1,k2,k3,k4⟩
        ·exact kA b' mQ eX g2 hs hv.2 r hr
       ·simp
    refine⟨fun h0=>absurd (by rw[h0];rfl) hr,fun i hi=>?_⟩;obtain⟨k,hk⟩:=KaE hi;have vP:k<rs.length:=by rw[m1];exact(Kad.1 hk).1
    obtain⟨i',aA,hf⟩:=m2 k _ (Kam vP);rw[hk]at aA;cases aA;simp only[Kab,Kaa]at hf;obtain⟨g,⟨o,se,LN⟩,r0,fK,he⟩:=hf;obtain⟨r2,mQ,eX,f1,f2,hs,od⟩:=AF rs r' fr hp vL.symm hs hv _ (Kah vP);obtain⟨r',rfl,rfl⟩:=HG (f1.trans he.symm) f2;rw[Aa]at od;obtain⟨ρ,pO⟩:=hs;refine wpOp_mono (fun a' w' hA=>?_) (R4 se aU pO LN od);obtain⟨vI,⟨ay,an,dY,sn⟩,hx⟩:=hA;refine⟨fun hb=>hx ?_,ih _ r' ay an a' w' fK (hd.step hi) vI dY sn⟩;simpa[xm,se]using hb
theorem eT.drew{tmps:Array Value}(h:eT C fr hp tmps w):eT C fr hp tmps { w with drawn:=w.drawn+1 }:=by obtain⟨ρ,hs⟩:=h;exact⟨ρ,hs.grow (Ext.drew w _)⟩
theorem pe.start(ops:Array Oper):pe ops (Array.replicate ops.size false):=by intro j o _ hl;exfalso;simp[Array.getD]at hl
theorem G6{s:SC}{r:RT}(h:s.strip= .rg r):∃r',s= .rg r'/\r'.strip=r:=by
 cases s with
 |rg r'=>simp only[SC.strip,SC.rg.injEq]at h;exact⟨r',rfl,h⟩
 |_=>simp[SC.strip]at h
theorem Xj{R:Qg}{sk:List It}{ops:Array Oper}{draw:Bool}{id:Nat}{s:SC}{Q:Exit->Act->World->Prop}(hm:C.P.follows .mixedOrders=true)(hQ:BR C (vc C R sk) Q)
  (hc:zw C.P C.N ops draw=some s.strip) (aU:a.defers=[]) (hs:eT C fr hp a.tmps w) (hv:vc C R (.c s::sk) fr hp):(Code.region id ops draw).wp C.P Q a w:=by
 unfold zw at hc;split at hc
 ·rename_i hd;subst hd;split at hc
  ·rename_i qR;have key:∀(dr:Bool)(most:Nat)(s:SC),zu C.P C.N ops dr most=some s.strip->vc C R (.c s::sk) fr hp->(Code.region id ops true).wp C.P Q a w:=by
    intro dr most s hc hv;unfold zu at hc;split at hc
    ·cases hc
    split at hc
    ·rename_i r0 hr;split at hc
     ·obtain⟨r,rfl,rfl⟩:=G6 (KcY hc).symm;rw[vc]at hv;exact wp_region_noPanic (wp_region_any hm (Gr _ _ _ _ _ (QW qR hQ _ _ r fr hp a _ hr (pe.start ops) aU hs.drew hv)))
     ·cases hc
    ·cases hc
   split at hc
   ·rename_i s' dY;cases hc;split at dY
    ·simp only[Kaa]at dY;obtain⟨r0,hr,he⟩:=dY;obtain⟨r,rfl,rfl⟩:=G6 he.symm;rw[vc]at hv;exact wp_region_noPanic (wp_region_any hm (Gr _ _ _ _ _ (QW qR hQ _ _ r fr hp a _ (B1 _ _ _ hr) (pe.start ops) aU hs.drew hv)))
    ·cases dY
   ·exact key _ _ _ hc hv
  ·cases hc
 ·rename_i hd;have UK:draw=false:=by simpa using hd
  subst UK;simp only[Kaa]at hc;obtain⟨gs,hgs,he⟩:=hc;obtain⟨r,rfl,hr⟩:=G6 he.symm;rw[vc]at hv;obtain⟨m1,m2⟩:=oo hgs;refine wp_region (R5 hQ gs (List.range ops.size) r fr hp a w (by simp[m1]) (fun k i g hk hg=>?_) aU hs hr hv);obtain⟨o,ho,ae⟩:=m2 k g hg;have vP:k<ops.size:=by have:=(Kad.1 hk).1;simpa using this
  rw[KcV vP]at hk;cases hk;exact⟨o,by simpa using ho,ae⟩
end
end Go.FW
namespace Go.FW
open Go
variable {C : Ctx} {ρ : Nat -> Option Nat} {fr : Fr} {hp : HP} {w : World} {a : Act} {K R : Qg}
structure Nb(C:Ctx)(R:Qg)(sk:List It)(Q:Exit->Act->World->Prop):Prop where
 og:BR C (vc C R sk) Q
 ext:∀id eF,FW.ct id sk=some eF->∀fr hp (a:Act) w,a.defers=[]->eT C fr hp a.tmps w->vc C R eF fr hp->Q (.exit id) a w
 ret:∀fr hp (a:Act) w,a.defers=[]->eT C fr hp a.tmps w->R fr hp->Q .ret a w
theorem DI{sk:List It}{x y:SC}:vc C R (.c (.seq x y)::sk) fr hp=vc C R (.c x:: .c y::sk) fr hp:=by rw[vc]
theorem C2{sk:List It}{id:Nat}{x:SC}:vc C R (.c (.block id x)::sk) fr hp=vc C R (.c x:: .eb id::sk) fr hp:=by rw[vc]
theorem Dt{sk:List It}:vc C R (.c .skip::sk) fr hp=vc C R sk fr hp:=by rw[vc]
theorem FE{sk:List It}{r:RT}:vc C R (.c (.rg r)::sk) fr hp=vc C R (.o r::sk) fr hp:=by rw[vc]
theorem BL{sk:List It}{id:Nat}:vc C R (.eb id::sk) fr hp=vc C R sk fr hp:=by rw[vc]
theorem vb{sk:List It}{J:Qg}:vc C R (.el J::sk) fr hp=J fr hp:=by rw[vc]
theorem DJ{sk:List It}:vc C R (.c .ret::sk) fr hp=R fr hp:=by rw[vc]
theorem uX:vc C R [] fr hp=R fr hp:=by rw[vc]
def tk(c:PV)(A B:Prop):Prop:=match c with
 |.bool t=>(t=true->A)/\(t=false->B)
 |_=>False
theorem Du{sk:List It}{c:aO}{x y:SC}:vc C R (.c (.cond c x y)::sk) fr hp=tk (ev fr c) (vc C R (.c x::sk) fr hp) (vc C R (.c y::sk) fr hp):=by rw[vc];rfl
def vd(C:Ctx)(R:Qg)(sk:Option (List It))(fr:Fr)(hp:HP):Prop:=match sk with
 |some sk=>vc C R sk fr hp
 |none=>False
theorem Dv{sk:List It}{id:Nat}:vc C R (.c (.exit id)::sk) fr hp=vd C R (FW.ct id sk) fr hp:=by
 rw[vc];unfold vd;split
 ·rename_i h;rw[h]
 ·rename_i h;rw[h]
theorem uI{sk:List It}{x:SC}:vc C R (.c (.loop x)::sk) fr hp=∃(I:Qg)(μ:Fr->HP->Nat),(∃bE aE,Wk fr hp bE aE/\I bE aE)/\∀fr hp,I fr hp->vc C R (.c x:: .el (fun ay an=>∃bE aE,Wk ay an bE aE/\I bE aE/\μ bE aE<μ fr hp)::sk) fr hp:=by rw[vc]
theorem Wk.refl(fr:Fr)(hp:HP):Wk fr hp fr hp:=fun _ _ _ h=>h
theorem Wk.trans{Lg mQ DU:Fr}{iT eX sg:HP}(h:Wk Lg iT mQ eX)(k:Wk mQ eX DU sg):Wk Lg iT DU sg:=fun C t w hs=>k C t w (h C t w hs)
def xo(I:Qg)(μ:Fr->HP->Nat)(n:Nat):Qg:=fun ay an=>∃bE aE,Wk ay an bE aE/\I bE aE/\μ bE aE<n
theorem aca{sk:List It}{x:SC}(I:Qg)(μ:Fr->HP->Nat){bE:Fr}{aE:HP}(hw:Wk fr hp bE aE)(h0:I bE aE)(h:∀fr hp,I fr hp->vc C R (.c x:: .el (xo I μ (μ fr hp))::sk) fr hp):vc C R (.c (.loop x)::sk) fr hp:=by rw[uI];exact⟨I,μ,⟨bE,aE,hw,h0⟩,h⟩
theorem YA{s:SC}(h:s.strip= .skip):s= .skip:=by cases s<;>simp[SC.strip]at h⊢
theorem Q9m{s:SC}(h:s.strip= .ret):s= .ret:=by cases s<;>simp[SC.strip]at h⊢
theorem YB{s:SC}{id:Nat}(h:s.strip= .exit id):s= .exit id:=by cases s<;>simp[SC.strip]at h ⊢;exact h
theorem Q9n{s:SC}{id:Nat}{ops:Array Oper}(h:s.strip= .raw id ops):s= .raw id ops:=by cases s<;>simp[SC.strip]at h ⊢;exact h
theorem Q9o{s a b:SC}(h:s.strip= .seq a b):∃a' b',s= .seq a' b'/\a'.strip=a/\b'.strip=b:=by cases s<;>simp[SC.strip]at h;exact⟨_,_,rfl,h.1,h.2⟩
theorem YC{s a b:SC}{c:aO}(h:s.strip= .cond c a b):∃a' b',s= .cond c a' b'/\a'.strip=a/\b'.strip=b:=by
 cases s with
 |cond c' a' b'=>simp only[SC.strip,SC.cond.injEq]at h;obtain⟨rfl,h1,h2⟩:=h;exact⟨a',b',rfl,h1,h2⟩
 |_=>simp[SC.strip]at h
theorem XQ{s a:SC}{id:Nat}(h:s.strip= .block id a):∃a',s= .block id a'/\a'.strip=a:=by
 cases s with
 |block c' a'=>simp only[SC.strip,SC.block.injEq]at h;obtain⟨rfl,h1⟩:=h;exact⟨a',rfl,h1⟩
 |_=>simp[SC.strip]at h
theorem Yf{s a:SC}(h:s.strip= .loop a):∃a',s= .loop a'/\a'.strip=a:=by
 cases s with
 |loop a'=>simp only[SC.strip,SC.loop.injEq]at h;exact⟨a',rfl,h⟩
 |_=>simp[SC.strip]at h
theorem Rl(hm:C.P.follows .mixedOrders=true):∀(c:Code)(s:SC)(sk:List It)(Q:Exit->Act->World->Prop)(fr:Fr)(hp:HP)(a:Act)(w:World),
  fD C.P C.N c=some s.strip->Nb C R sk Q->a.defers=[]->eT C fr hp a.tmps w->vc C R (.c s::sk) fr hp->c.wp C.P Q a w:=by
 intro c;induction c with
 |skip=>intro s sk Q fr hp a w hc hL hd hs hv;simp only[fD,KaB]at hc;obtain rfl:=YA hc.symm;rw[Dt]at hv;exact wp_skip (hL.og fr hp a w hd hs hv)
 | region id ops draw=>
  intro s sk Q fr hp a w hc hL hd hs hv;simp only[fD]at hc;split at hc
  ·rename_i s' dY;rw[hc]at dY;exact Xj hm hL.og dY hd hs hv
  ·split at hc
   ·rename_i tO;obtain rfl:=Q9n (KcY hc).symm;have amT:draw=true:=tO;subst amT;rw[vc]at hv;obtain⟨tmps,defers⟩:=a;simp only at hd hs;subst hd;exact hv tmps w Q hs (fun ay an BG w' dY od=>hL.og ay an _ w' rfl dY od)
   ·cases hc
 |seq x y kA v9=>
  intro s sk Q fr hp a w hc hL hd hs hv;simp only[fD,Kab,Kaa]at hc;obtain⟨sx,hx,sy,hy,he⟩:=hc;obtain⟨sx,sy,rfl,rfl,rfl⟩:=Q9o he.symm;rw[DI]at hv;refine wp_seq (kA sx (.c sy::sk) _ fr hp a w hx ⟨fun fr hp a w hd hs hv=>?_,fun id eF he fr hp a w hd hs hv=>?_,fun fr hp a w hd hs hv=>?_⟩ hd hs hv)
  ·exact v9 sy sk Q fr hp a w hy hL hd hs hv
  ·exact hL.ext id eF (by simpa[FW.ct]using he) fr hp a w hd hs hv
  ·exact hL.ret fr hp a w hd hs hv
 | cond c x y kA v9=>
  intro s sk Q fr hp a w hc hL hd hs hv;simp only[fD,Kab,Kaa]at hc;obtain⟨pc,fV,sx,hx,sy,hy,he⟩:=hc;obtain⟨sx,sy,rfl,rfl,rfl⟩:=YC he.symm;rw[Du]at hv;obtain⟨ρ,pO⟩:=hs;have hr:=cC pO fV;unfold tk at hv;split at hv
  ·rename_i t ht;rw[ht]at hr;exact wp_cond_split hr.xI (fun h=>kA sx sk Q fr hp a w hx hL hd ⟨ρ,pO⟩ (hv.1 h)) (fun h=>v9 sy sk Q fr hp a w hy hL hd ⟨ρ,pO⟩ (hv.2 h))
  ·exact hv.elim
 | block id x kA=>
  intro s sk Q fr hp a w hc hL hd hs hv;simp only[fD,Kaa]at hc;obtain⟨sx,hx,he⟩:=hc;obtain⟨sx,rfl,rfl⟩:=XQ he.symm;rw[C2]at hv;refine wp_block (kA sx (.eb id::sk) _ fr hp a w hx ⟨fun fr hp a w hd hs hv=>?_,fun Wa eF he fr hp a w hd hs hv=>?_,fun fr hp a w hd hs hv=>?_⟩ hd hs hv)
  ·rw[BL]at hv;exact hL.og fr hp a w hd hs hv
  ·simp only[FW.ct]at he;simp only[Exit.inBlock];by_cases hi:id=Wa
   ·subst hi;simp only[if_true]at he ⊢;cases he;exact hL.og fr hp a w hd hs hv
   ·rw[if_neg hi]at he;rw[if_neg (fun e=>hi e.symm)];exact hL.ext Wa eF he fr hp a w hd hs hv
  ·exact hL.ret fr hp a w hd hs hv
 | loop x kA=>
  intro s sk Q fr hp a w hc hL hd hs hv;simp only[fD,Kaa]at hc;obtain⟨sx,hx,he⟩:=hc;obtain⟨sx,rfl,rfl⟩:=Yf he.symm;rw[uI]at hv;obtain⟨I,μ,⟨bE,aE,hwk,h0⟩,an3⟩:=hv;have key:∀(n:Nat)(fr:Fr)(hp:HP)(a:Act)(w:World),μ fr hp<n->I fr hp->a.defers=[]->eT C fr hp a.tmps w->Code.rounds C.P x Q n a w:=by
   intro n;induction n with
   |zero=>intro _ _ _ _ h;omega
   | succ n ih=>
    intro fr hp a w ar hI hd hs;rw[rounds_succ];refine kA sx _ _ fr hp a w hx ⟨fun ay an a' w' vI dY od=>?_,fun id eF he fr hp a w hd hs hv=>?_,fun fr hp a w hd hs hv=>?_⟩ hd hs (an3 fr hp hI)
    ·rw[vb]at od;obtain⟨mQ,eX,hw2,Ln,vR⟩:=od;exact ih mQ eX a' w' (by omega) Ln vI (hw2 _ _ _ dY)
    ·exact hL.ext id eF (by simpa[FW.ct]using he) fr hp a w hd hs hv
    ·exact hL.ret fr hp a w hd hs hv
  exact wp_loop_rounds (μ bE aE+1) (key _ bE aE a w (Kdb _) h0 hd (hwk _ _ _ hs))
 | exit id=>
  intro s sk Q fr hp a w hc hL hd hs hv;simp only[fD,KaB]at hc;obtain rfl:=YB hc.symm;rw[Dv]at hv;unfold vd at hv;split at hv
  ·rename_i eF he;exact wp_exit (hL.ext id eF he fr hp a w hd hs hv)
  ·exact hv.elim
 |ret=>intro s sk Q fr hp a w hc hL hd hs hv;simp only[fD,KaB]at hc;obtain rfl:=Q9m hc.symm;rw[DJ]at hv;exact wp_ret (hL.ret fr hp a w hd hs hv)
 |_=>intro s sk Q fr hp a w hc;simp[fD]at hc
theorem Gs(hm:C.P.follows .mixedOrders=true)(c:Code)(s:SC)(sk:List It)(Q:Exit->Act->World->Prop)(fr:Fr)(hp:HP)(a:Act)(w:World)
  (hc:fD C.P C.N c=some s) (hL:Nb C R sk Q) (hd:a.defers=[]) (hs:eT C fr hp a.tmps w) (hv:vc C R (.c s::sk) fr hp):c.wp C.P Q a w:=
 Rl hm c s sk Q fr hp a w (by rw[WT _ _ hc];exact hc) hL hd hs hv
def PV.l5:PV->PV->Prop
 |.aa,.sl _ []=>True
 |p,q=>p=q
def PV.Bt:List PV->List PV->Prop
 | [],[]=>True
 |p::ps,q::qs=>PV.l5 p q/\PV.Bt ps qs
 |_,_=>False
def PV.le:PV->PV->Prop
 |.agg ps,.agg qs=>PV.Bt ps qs
 |p,q=>PV.l5 p q
def PV.Fb:List PV->List PV->Prop
 | [],[]=>True
 |p::ps,q::qs=>PV.le p q/\PV.Fb ps qs
 |_,_=>False
def PV.yo:PV->PV->Prop
 |.au ps,.au qs=>PV.Fb ps qs
 |p,q=>PV.le p q
theorem zo(p:PV):PV.l5 p p:=by cases p<;>first|rfl|(unfold PV.l5;split<;>trivial)
theorem Nv:∀(l:List PV),PV.Bt l l
 | []=>trivial
 |p::ps=>⟨zo p,Nv ps⟩
theorem Qw(p:PV):PV.le p p:=by cases p<;>first|exact Nv _|(simp only[PV.le];exact zo _)
theorem Qu.le{X:Nat->Prop}{p q:PV}{v:Value}(h:Qu w X p v)(hl:PV.l5 p q):Qu w X q v:=by
 unfold PV.l5 at hl;split at hl
 ·cases h;exact .gH _ _ _ (Kbw _)
 ·subst hl;exact h
theorem Oi:∀(ps qs:List PV),PV.Bt ps qs->qs.length=ps.length/\∀(i:Nat)(q:PV),qs[i]? =some q->∃p,ps[i]? =some p/\PV.l5 p q
 | [],[],_=>⟨rfl,by simp⟩
 | [],_::_,h=>h.elim
 |_::_,[],h=>h.elim
 |p::ps,q::qs,h=>by
  obtain⟨h1,h2⟩:=Oi ps qs h.2;refine⟨by simp[h1],fun i x hx=>?_⟩;cases i with
  |zero=>simp at hx;subst hx;exact⟨p,rfl,h.1⟩
  |succ i=>simp at hx;simpa using h2 i x hx
theorem HH:∀(ps qs:List PV),PV.Fb ps qs->qs.length=ps.length/\∀(i:Nat)(q:PV),qs[i]? =some q->∃p,ps[i]? =some p/\PV.le p q
 | [],[],_=>⟨rfl,by simp⟩
 | [],_::_,h=>h.elim
 |_::_,[],h=>h.elim
 |p::ps,q::qs,h=>by
  obtain⟨h1,h2⟩:=HH ps qs h.2;refine⟨by simp[h1],fun i x hx=>?_⟩;cases i with
  |zero=>simp at hx;subst hx;exact⟨p,rfl,h.1⟩
  |succ i=>simp at hx;simpa using h2 i x hx
theorem aY.le{X:Nat->Prop}{p q:PV}{v:Value}(h:aY w X p v)(hl:PV.le p q):aY w X q v:=by
 by_cases hp:∃ps,p= .agg ps
 ·obtain⟨ps,rfl⟩:=hp;by_cases hq:∃qs,q= .agg qs
  ·obtain⟨qs,rfl⟩:=hq;obtain⟨h1,h2⟩:=Oi ps qs hl;obtain⟨vs,rfl,g1,g2⟩:=h;refine⟨vs,rfl,by omega,fun i x hx=>?_⟩;obtain⟨p,hp,hle⟩:=h2 i x hx;exact(g2 i p hp).le hle
  ·have:PV.l5 (.agg ps) q:=by cases q<;>first|exact hl|exact absurd ⟨_,rfl⟩ hq
   have:q= .agg ps:=by
    unfold PV.l5 at this;split at this
    ·rename_i h1;cases h1
    ·exact this.symm
   exact absurd ⟨_,this⟩ hq
 ·have h1:Qu w X p v:=by cases p<;>first|exact h|exact absurd ⟨_,rfl⟩ hp
  have h2:PV.l5 p q:=by cases p<;>first|exact hl|exact absurd ⟨_,rfl⟩ hp
  exact aY.pW (h1.le h2)
theorem dB.le{X:Nat->Prop}{p q:PV}{v:Value}(h:dB w X p v)(hl:PV.yo p q):dB w X q v:=by
 by_cases hp:∃ps,p= .au ps
 ·obtain⟨ps,rfl⟩:=hp;by_cases hq:∃qs,q= .au qs
  ·obtain⟨qs,rfl⟩:=hq;obtain⟨h1,h2⟩:=HH ps qs hl;obtain⟨vs,rfl,g1,g2⟩:=h;refine⟨vs,rfl,by omega,fun i x hx=>?_⟩;obtain⟨p,hp,hle⟩:=h2 i x hx;exact(g2 i p hp).le hle
  ·have:PV.le (.au ps) q:=by cases q<;>first|exact hl|exact absurd ⟨_,rfl⟩ hq
   have:PV.l5 (.au ps) q:=this;have:q= .au ps:=by
    unfold PV.l5 at this;split at this
    ·rename_i h1;cases h1
    ·exact this.symm
   exact absurd ⟨_,this⟩ hq
 ·have h1:aY w X p v:=by cases p<;>first|exact h|exact absurd ⟨_,rfl⟩ hp
  have h2:PV.le p q:=by cases p<;>first|exact hl|exact absurd ⟨_,rfl⟩ hp
  exact dB.We (h1.le h2)
def oA (P : Program) (f : FuncId) : Prop := (P.funcs[f]?).any (fun fn => fn.body.isSome && fn.name != "runtime.NumGoroutine") = true
def Qc(P:Program)(f:FuncId)(args:List PV)(R:PV->Prop):Prop:=
 oA P f/\∀(w:World)(X:Nat->Prop)(bl:Array Value),(∀b,X b->b<w.heap.size)->bl.size=args.length->(∀(i:Nat)(x:PV),args[i]? =some x->aY w X x (bl.getD i undef))->
  Calls P f bl w fun e w'=>∃v r,e= .returned v/\Ext bO w w'/\dB w' X r v/\R r
theorem Qc.mono{P:Program}{f:FuncId}{args:List PV}{R R':PV->Prop}(h:Qc P f args R)(hr:∀r,R r->R' r):Qc P f args R':=
 ⟨h.1,fun w X bl h1 h2 h3=>(h.2 w X bl h1 h2 h3).mono fun _ _ ⟨v,r,e1,e2,e3,e4⟩=>⟨v,r,e1,e2,e3,hr r e4⟩⟩
theorem Qc.le{P:Program}{f:FuncId}{args args':List PV}{R:PV->Prop}(h:Qc P f args R)(hl:PV.Fb args' args):Qc P f args' R:=by obtain⟨h1,h2⟩:=HH _ _ hl;refine⟨h.1,fun w X bl g1 g2 g3=>h.2 w X bl g1 (by omega) (fun i x hx=>?_)⟩;obtain⟨p,hp,hle⟩:=h2 i x hx;exact(g3 i p hp).le hle
def jK(args:List PV):Fr:=fun i=>(args[i]?).getD .undef
def jZ(fr:Fr)(hp:HP):RV->Prop
 |.t s=>(aK hp (fr s)).aD=true
 |.cell s n ag=>match fr s with
  |.mp β i o=>match hp β with
   |some hb=>i<hb.xs.length/\o+n<=hb.e/\(ag=false->n=1)
   |none=>False
  |_=>False
def jD(fr:Fr)(hp:HP):RV->PV
 |.t s=>aK hp (fr s)
 |.cell s n ag=>match fr s with
  |.mp β i o=>match hp β with
   |some hb=>eE ag n o ((hb.xs[i]?).getD .undef)
   |none=>.undef
  |_=>.undef
def fS(rs:List RV)(R:PV->Prop):Qg:=fun fr hp=>match rs with
 | [r]=>jZ fr hp r/\∃p,PV.le (jD fr hp r) p/\R p
 |rs=>(∀r∈rs,jZ fr hp r)/\∃p,PV.yo (.au (rs.map (jD fr hp))) p/\R p
def rM(tmps:Array Value):ResultVar->Sem Value
 |.tmp t=>pure (tmps.getD t undef)
 |.cell x t=>do loadVar t (<-asAddr (tmps.getD x undef))
def lr(fr:Fr):RV->List Nat
 |.t s=>(fr s).refs
 |.cell _ _ _=>[]
theorem Nw{l l':List Nat}(h:∀β∈l,β∈l'){b:Nat}(hx:aH C ρ (cb hp l') b):aH C ρ (cb hp l) b:=by
 rcases hx with hx|⟨γ,hg,h1,h2,h3⟩
 ·exact .inl hx
 ·obtain⟨ia,g1,_,_,_,g5,g6⟩:=yL h1;refine .inr ⟨γ,ia,?_,by rw[<-g5 h2];exact h2,h3⟩;have hn:γ ∉ l:=fun hl=>g6 h2 (h γ hl);unfold cb;rw[if_neg (by simpa using hn)];exact g1
theorem Yg:cb hp []=hp:=by funext β;simp[cb]
theorem Yh{p:PV}(h:(aK hp p).aD=true):∀β∈p.refs,bG β=false:=by
 have h1:∀q:PV,(cB hp q).gU=true->∀β∈q.bN,bG β=false:=by
  intro q hq β al;cases q with
  |mp γ i o=>simp only[PV.bN,KaP]at al;subst al;cases hy:bG β with
   |false=>rfl
   |true=>simp[cB,hy,PV.gU]at hq
  |ax γ o n=>simp only[PV.bN,KaP]at al;subst al;cases hy:bG β with
   |false=>rfl
   |true=>simp[cB,hy,PV.gU]at hq
  |rb=>simp[cB,PV.gU]at hq
  |_=>cases al
 intro β al;cases p with
 |mp γ i o=>exact h1 (.mp γ i o) (by cases hq:cB hp (.mp γ i o)<;>simp_all[aK,PV.aD,PV.gU]) β al
 |ax γ o n=>exact h1 (.ax γ o n) (by cases hq:cB hp (.ax γ o n)<;>simp_all[aK,PV.aD,PV.gU]) β al
 |rb=>simp[aK,cB,PV.aD]at h
 |fn f first cap=>
  simp only[aK,PV.aD,Kat,List.all_map,Kax]at h;rcases KaU.1 al with al|al
  ·obtain⟨x,hx,al⟩:=Kaq.1 al;exact h1 x (h.1 x hx) β al
  ·obtain⟨x,hx,al⟩:=Kaq.1 al;exact h1 x (h.2 x hx) β al
 |_=>cases al
theorem ajO{rv:RV}(h:jZ fr hp rv):∀β∈lr fr rv,bG β=false:=by
 cases rv with
 |t s=>exact Yh h
 |cell=>intro β al;cases al
theorem acb{P:Program}(hP:C.P=P){r:ResultVar}{rv:RV}(hc:mq P r=some rv)(h:aI C ρ fr hp a.tmps w)(ho:jZ fr hp rv):
  ∃v,(rM a.tmps r).run P w= .ok v w/\aY w (aH C ρ (cb hp (lr fr rv))) (jD fr hp rv) v:=by
 subst hP;cases r with
 |tmp t=>simp[mq]at hc;subst hc;exact⟨_,rfl,qe h (h.eQ t) (fun β al=>al) ho⟩
 | cell x t=>
  simp only[mq,Kab,Kaa]at hc;obtain⟨n,hn,ag,jP,rfl⟩:=hc;have hx:=h.eQ x;simp only[jZ]at ho;split at ho
  ·rename_i β i o oI;rw[oI]at hx;split at ho
   ·rename_i hb al;obtain⟨h1,h2,h3⟩:=ho;obtain⟨b,eU,g1,g2,g3⟩:=hx.yp;rw[al]at g2;cases g2;have bk:=h.own β hb al;have a9:=bk.dS;rw[g1]at a9;obtain⟨_,kW,cur,cap,c1,c2,c3,c4,c5⟩:=a9;have gG:=Kam h1;have eV:=(bk.len i _ gG).1;have dN:i<cap:=by omega
    have mU:∀j,j<n->i*hb.e+o+j<cur.size:=fun j hj=>by rw[c2];exact ny dN h2 hj
    have bm:=B4 (P:=C.P) (t:=t) (b:=b) (off:=i*hb.e+o) (vs:=Array.ofFn (n:=n) fun j=>cur.getD (i*hb.e+o+j.val) undef) hn jP h3 (by simp) w
     (fun j hj=>by rw[sN (f:=fun j=>cur.getD (i*hb.e+o+j) undef) hj];exact lz c1 (mU j hj))
    obtain⟨V,hV⟩:∃V:Value,V=(if ag then .agg (Array.ofFn (n:=n) fun j=>cur.getD (i*hb.e+o+j.val) undef)else(Array.ofFn (n:=n) fun j=>cur.getD (i*hb.e+o+j.val) undef).getD 0 undef):=⟨_,rfl⟩
    rw[<-hV]at bm;refine⟨V,?_,?_⟩
    ·simp only[rM,g3,asAddr,Kan,Ka0,Kaj];exact bm
    ·have:aY w (aH C ρ hp) (eE ag n o (hb.xs[i]'h1)) (if ag then .agg (Array.ofFn (n:=n) fun j=>cur.getD (i*hb.e+o+j.val) undef)else(Array.ofFn (n:=n) fun j=>cur.getD (i*hb.e+o+j.val) undef).getD 0 undef):=
      zN (by simp) (by rw[eV];exact h2) h3 (fun j y hj hy=>by rw[sN (f:=fun j=>cur.getD (i*hb.e+o+j) undef) hj,Kcg];exact c5 i _ gG (o+j) y hy)
     simp only[jD,oI,al,gG,KbT];rw[hV];simp only[lr,Yg];exact this
   ·exact ho.elim
  ·exact ho.elim
theorem SY{P:Program}(hP:C.P=P)(h:aI C ρ fr hp a.tmps w):∀(rl:List ResultVar)(rs:List RV),rl.mapM (mq P)=some rs->(∀r∈rs,jZ fr hp r)->
  ∃vs:List Value,vs.length=rs.length/\(rl.mapM (rM a.tmps)).run P w= .ok vs w/\∀(i:Nat)(r:RV),rs[i]? =some r->∃v,vs[i]? =some v/\aY w (aH C ρ (cb hp (rs.flatMap (lr fr)))) (jD fr hp r) v
 | [],rs,hc,_=>by simp at hc;subst hc;exact⟨[],rfl,by simp,by simp⟩
 | x::rl,rs,hc,ho=>by
  rw[KcR]at hc;simp only[Kcy,KcW,Kab,KaB]at hc;obtain⟨r,hr,Ws,fj,rfl⟩:=hc;obtain⟨v,h1,h2⟩:=acb hP hr h (ho r (by simp));obtain⟨vs,g1,g2,g3⟩:=SY hP h rl Ws fj (fun q hq=>ho q (by simp[hq]));refine⟨v::vs,by simp[g1],by simp[KcR,Kan,h1,g2],fun i q hq=>?_⟩;cases i with
  |zero=>simp at hq;subst hq;exact⟨v,rfl,h2.mono (fun _ _ _=>rfl) (fun _ _ hn hx=>hn (Nw (fun β al=>by rw[Kau];exact KcQ _ al) hx)) (Kac _)⟩
  |succ i=>simp at hq;obtain⟨v',k1,k2⟩:=g3 i q hq;exact⟨v',by simpa using k1,k2.mono (fun _ _ _=>rfl) (fun _ _ hn hx=>hn (Nw (fun β al=>by rw[Kau];exact KbG _ al) hx)) (Kac _)⟩
theorem R6{P:Program}(hP:C.P=P){fn:Func}{rs:List RV}{Rr:PV->Prop}(hc:fn.results.toList.mapM (mq P)=some rs)(h:aI C ρ fr hp a.tmps w)(hr:fS rs Rr fr hp):
  ∃v r,(results fn a.tmps).run P w= .ok v w/\dB w (aH C ρ (cb hp (rs.flatMap (lr fr)))) r v/\(∀β∈rs.flatMap (lr fr),bG β=false)/\Rr r:=by
 have cu:(∀r∈rs,jZ fr hp r):=by
  intro r fK
  match rs,hr,fK with
  | [r0],hr,fK=>simp at fK;subst fK;exact hr.1
  | [],hr,fK=>cases fK
  |r0::r1::rest,hr,fK=>exact hr.1 r fK
 have hN:∀β∈rs.flatMap (lr fr),bG β=false:=fun β al=>by obtain⟨r,hr,al⟩:=Kaq.1 al;exact ajO (cu r hr) β al
 obtain⟨vs,hlen,bm,yh⟩:=SY hP h _ rs hc cu;have dq:(results fn a.tmps).run P w= .ok (if h:vs.toArray.size=1 then vs.toArray[0]else .tuple vs.toArray) w:=by
  have e:results fn a.tmps=(do let vs<-fn.results.mapM (rM a.tmps);pure (if h:vs.size=1 then vs[0]else .tuple vs)):=rfl;rw[e,Kb6];simp only[Kan];have h2:(List.toArray<$>fn.results.toList.mapM (rM a.tmps):Sem (Array Value)).run P w= .ok vs.toArray w:=by simp[bm]
  rw[h2];rfl
 match rs,hr,hlen,yh,hN with
 | [r0],hr,hlen,yh,hN=>
  have h1:vs.toArray.size=1:=by simpa using hlen
  rw[dif_pos h1]at dq;obtain⟨v,h2,h3⟩:=yh 0 r0 rfl;have e:vs.toArray[0]=v:=by
   have:vs[0]? =some (vs.toArray[0]):=by simp[hlen]
   rw[h2]at this;exact(KcY this).symm
  rw[e]at dq;obtain⟨_,p,hle,Aw⟩:=hr;exact⟨_,_,dq,dB.We (h3.le hle),hN,Aw⟩
 | [],hr,hlen,yh,hN=>
  have h1:¬vs.toArray.size=1:=by simp[hlen]
  rw[dif_neg h1]at dq;obtain⟨_,p,hle,Aw⟩:=hr;exact⟨_,_,dq,dB.le (p:=.au []) ⟨vs.toArray,rfl,by simp[hlen],by simp⟩ hle,hN,Aw⟩
 |r0::r1::rest,hr,hlen,yh,hN=>
  have h1:¬vs.toArray.size=1:=by simp[hlen]
  rw[dif_neg h1]at dq;obtain⟨_,p,hle,Aw⟩:=hr;refine⟨_,_,dq,dB.le (p:=.au ((r0::r1::rest).map (jD fr hp))) ⟨vs.toArray,rfl,by simp[hlen],fun i x hx=>?_⟩ hle,hN,Aw⟩;simp only[Kaw,Kaa]at hx;obtain⟨rv,hrv,rfl⟩:=hx;obtain⟨v,h2,h3⟩:=yh i rv hrv;rw[uD,Kao,h2];exact h3
theorem SH{P:Program}(hP:C.P=P){fn:Func}{rs:List RV}{Rr:PV->Prop}(hc:fn.results.toList.mapM (mq P)=some rs)(h:aI C ρ fr hp a.tmps w)(hr:fS rs Rr fr hp):
  ∃v r,(results fn a.tmps).run P w= .ok v w/\dB w C.X0 r v/\Rr r:=by
 obtain⟨v,r,h1,h2,_,h3⟩:=R6 hP hc h hr;exact⟨v,r,h1,h2.mono (fun _ _ _=>rfl) (fun _ _ hn hx=>hn (.inl hx)) (Kac _),h3⟩
theorem Yi{P:Program}(hP:C.P=P){fn:Func}{rs:List RV}{Rr:PV->Prop}(hc:fn.results.toList.mapM (mq P)=some rs)(h:aI C ρ fr hp a.tmps w)(hr:fS rs Rr fr hp)
  {X:Nat->Prop} (hX:∀c,X c->C.X0 c∨∃β hb,bG β=true/\hp β=some hb/\hb.fz=false/\ρ β=some c):
  ∃v r,(results fn a.tmps).run P w= .ok v w/\dB w X r v/\Rr r:=by
 obtain⟨v,r,h1,h2,h3,h4⟩:=R6 hP hc h hr;refine⟨v,r,h1,h2.mono (fun _ _ _=>rfl) (fun c _ hn hx=>hn ?_) (Kac _),h4⟩;rcases hX c hx with hx|⟨β,hb,k1,k2,k3,k4⟩
 ·exact .inl hx
 ·refine .inr ⟨β,hb,?_,k3,k4⟩;have hn:β ∉ rs.flatMap (lr fr):=fun hl=>by rw[h3 β hl]at k1;cases k1
  unfold cb;rw[if_neg (by simpa using hn)];exact k2
theorem Qf {P : Program} {f : FuncId} {fn : Func} {sf : az} {args : List PV} {Rr : PV -> Prop} (hm : P.follows .mixedOrders = true) (hf : P.funcs[f]? = some fn) (r8 : (fn.name != "runtime.NumGoroutine") = true) (hc : Qe P fn = some sf) (hn : args.length <= sf.n /\ sf.n <= 1000000)
  (hv:∀C:Ctx,C.P=P->vc C (fS sf.rs Rr) [.c sf.body] (jK args) aE):Qc P f args Rr:=by
 simp only[Qe,Kab,Kaa]at hc;obtain⟨c,hb,sb,ix,rs,fj,rfl⟩:=hc;refine⟨by simp[oA,hf,hb];simpa using r8,fun w X bl hX fM cK=>?_⟩
 let C:Ctx:=Ctx.plain P fn.ntmps w X hX hn.2
 refine calls_of_wp hf hb ?_;have v3:(bl++Array.replicate (fn.ntmps-bl.size) undef).size=fn.ntmps:=by simp at hn ⊢;omega
 have pN:eT C (jK args) aE (bl++Array.replicate (fn.ntmps-bl.size) undef) w:=by
  refine⟨fun _=>none,v3,Ext.refl _ _,(fun _ _ h=>by cases h),by simp[aE],by simp[aE],fun i=>?_⟩;unfold jK;cases hi:args[i]? with
  |none=>trivial
  | some p=>
   simp only[KbT];have dm:i<bl.size:=by rw[fM];exact(Kad.1 hi).1
   have hr:=cK i p hi;have e:(bl++Array.replicate (fn.ntmps-bl.size) undef).getD i undef=bl.getD i undef:=by rw[kI,if_pos dm]
   rw[e];refine Qt.ll (hr.mono (fun _ _ _=>rfl) (fun b _ hn hx=>?_) (Kac _));rcases hx with hx|⟨_,_,h1,_⟩
   ·exact hn hx
   ·simp[aE]at h1
 have fin:∀(fr:Fr)(hp:HP)(a:Act)(w':World),a.defers=[]->eT C fr hp a.tmps w'->fS rs Rr fr hp->
   a.defers=[]/\∃v,(results fn a.tmps).run P w'= .ok v w'/\∃v' r,Ending.returned v= .returned v'/\Ext bO w w'/\dB w' X r v'/\Rr r:=by
  intro fr hp a w' hd ⟨ρ,hs⟩ hr;obtain⟨v,r,h1,h2,h3⟩:=SH (C:=C) rfl fj hs hr;exact⟨hd,v,h1,v,r,rfl,Ctx.MQ hs.ext,h2,h3⟩
 exact Gs (C:=C) (R:=fS rs Rr) hm c sb [] _ (jK args) aE _ w ix ⟨fun fr hp a w' hd hs hv=>(by rw[uX]at hv;exact fin fr hp a w' hd hs hv),fun id eF he=>(by simp[FW.ct]at he),fin⟩ rfl pN (hv C rfl)
end Go.FW
namespace Go.FW
open Go
variable {C : Ctx} {ρ : Nat -> Option Nat} {fr : Fr} {hp : HP} {w : World} {a : Act} {K R : Qg}
def qt(fr:Fr)(d:Option Nat)(r:PV):Fr:=match d with|some d=>af fr d r|none=>fr
theorem Qt.MO{p:PV}{v:Value}(h:dB w (aH C ρ hp) p v):Qt C ρ hp w p v:=by
 cases p with
 |au ps=>exact h
 |_=>exact Qt.ll h
theorem DK{tmps:Array Value}(h:aI C ρ fr hp tmps w):∀b,aH C ρ hp b->b<w.heap.size:=by
 rintro b (hx|⟨β,hb,h1,_,h3⟩)
 ·exact KaK (C.Em b hx) h.ext.size
 ·have:=(h.own β hb h1).dS;rw[h3]at this;exact this.2.1
theorem aI.Fk{tmps:Array Value}{d:Option Nat}(h:aI C ρ fr hp tmps w){p:PV}{v:Value}(hv:Qt C ρ hp w p v)(hd:∀x,d=some x->x<C.N):aI C ρ (qt fr d p) hp (Wt tmps d v) w:=by
 cases d with
 |some d=>exact h.af hv (hd d rfl)
 |none=>exact h
theorem Nx{tmps:Array Value}{first cap args:List PV}{fv cv av:Array Value}(hs:aI C ρ fr hp tmps w)(h1:fv.size=first.length)(_h2:cv.size=cap.length)(h3:av.size=args.length)
  (si:∀(i:Nat)(x:PV),first[i]? =some x->cU C ρ hp w x (fv.getD i undef)) (oa:∀(i:Nat)(x:PV),cap[i]? =some x->cU C ρ hp w x (cv.getD i undef)) (sj:∀(i:Nat)(x:PV),args[i]? =some x->Qt C ρ hp w x (av.getD i undef))
  (iO:((first++args++cap).map (aK hp)).all PV.aD=true):
  ∀(i:Nat)(x:PV),((first++args++cap).map (aK hp))[i]? =some x->aY w (aH C ρ (cb hp ((first++args++cap).flatMap PV.refs))) x ((fv++av++cv).getD i undef):=by
 intro i x hx;rw[Kax]at iO;have jk:=iO x (Kai hx);simp only[Kaw,Kaa]at hx;obtain⟨p,an,rfl⟩:=hx;have eo:=Kai an;have hl:∀β∈p.refs,β∈(first++args++cap).flatMap PV.refs:=fun β al=>Kaq.2 ⟨p,eo,al⟩;have Wy:∀ {p:PV} {v:Value},cU C ρ hp w p v->(aK hp p).aD=true->Qt C ρ hp w p v:=by
  intro p v hr hd;cases p with
  |undef=>trivial
  |mp=>exact hr
  |ax=>exact hr
  |rb=>exact hr
  |np=>exact hr
  |aM=>exact hr
  |_=>exact Qt.ll (aY.pW hr)
 rw[kI];rw[Ka1]at an;by_cases c1:i<(first++args).length
 ·rw[if_pos c1]at an;rw[if_pos (by simp only[Kci,h1,h3];simpa using c1),kI];rw[Ka1]at an;by_cases c2:i<first.length
  ·rw[if_pos c2]at an;rw[if_pos (by omega)];exact qe hs (Wy (si i p an) jk) hl jk
  ·rw[if_neg c2]at an;rw[if_neg (by omega),h1];exact qe hs (sj _ p an) hl jk
 ·rw[if_neg c1]at an;have fM:(fv++av).size=(first++args).length:=by simp[h1,h3]
  rw[if_neg (by omega),fM];exact qe hs (Wy (oa _ p an) jk) hl jk
theorem SI{P:Program}(hP:C.P=P){g:FuncId}{first cap args c8:List PV}{pr:Bool}{d:Option Nat}{Rr:PV->Prop}(h:Qc P g c8 Rr)(dM:(first++args++cap).map (aK hp)=c8)(iO:c8.all PV.aD=true)
  (hK:∀r,Rr r->K (qt fr d r) (cb hp ((first++args++cap).flatMap PV.refs))):mC C pr (.fn g first cap) args d fr hp K:=by
 subst hP;refine⟨h.1,fun ρ tmps w fv cv av rX hs h1 h2 h3 si oa sj=>?_⟩;have hf:=hs.freeze ((first++args++cap).flatMap PV.refs);refine(h.2 w _ (fv++av++cv) (DK hf) (by rw[<-dM];simp[h1,h2,h3]) (by rw[<-dM];exact Nx hs h1 h2 h3 si oa sj (by rw[dM];exact iO))).mono ?_;rintro e w' ⟨v,r,rfl,hx,hr,Ly⟩;exact⟨v,_,_,rfl,⟨ρ,(hf.grow hx).Fk (Qt.MO hr) rX⟩,fun _=>hx,hK r Ly⟩
theorem iE{P:Program}(hP:C.P=P){g:FuncId}{first cap args c8:List PV}{pr:Bool}{d:Option Nat}{r:PV}(h:Qc P g c8 (· =r))(dM:(first++args++cap).map (aK hp)=c8)(iO:c8.all PV.aD=true)
  (hK:K (qt fr d r) (cb hp ((first++args++cap).flatMap PV.refs))):mC C pr (.fn g first cap) args d fr hp K:=
 SI hP h dM iO (fun _ hr=>hr▸hK)
def PV.MC:PV->Bool
 |.int .. | .bool _=>true
 |.au ps=>ps.all fun p=>match p with| .int .. | .bool _=>true|_=>false
 |_=>false
theorem acd{X X':Nat->Prop}{p:PV}{v:Value}(hs:p.MC=true)(h:dB w X p v):dB w X' p v:=by
 have one:∀(p:PV)(v:Value),(match p with| .int .. | .bool _=>true|_=>false:Bool)=true->aY w X p v->aY w X' p v:=by
  intro p v hs h;cases p with
  |int k n=>cases h;exact Qu.int k n
  |bool b=>cases h;exact Qu.bool b
  |_=>cases hs
 cases p with
 |int k n=>exact one (.int k n) v rfl h
 |bool b=>exact one (.bool b) v rfl h
 |au ps=>obtain⟨vs,rfl,h1,h2⟩:=h;simp only[PV.MC,Kax]at hs;exact⟨vs,rfl,h1,fun i x hx=>one x _ (hs x (Kai hx)) (h2 i x hx)⟩
 |_=>cases hs
def o7(C:Ctx)(R:Qg)(c:PV)(x y:SC)(sk:List It)(fr:Fr)(hp:HP):Prop:=tk c (vc C R (.c x::sk) fr hp) (vc C R (.c y::sk) fr hp)
def rP(C:Ctx)(R:Qg)(x y:RT)(sk:List It)(fr:Fr)(hp:HP):Prop:=vc C R (.o x::sk) fr hp/\vc C R (.o y::sk) fr hp
def iq(C:Ctx)(p:PV)(s:Nat)(want:Bool)(o:cx)(fr:Fr)(hp:HP)(K:Qg):Prop:=match p with
  |.bool t=>(t=want->bo C o (af fr s (.bool want)) hp K)/\(t=(!want)->ju o (af fr s (.bool !want)) hp K)
  |.au []=>ju o fr hp K
  |_=>False
theorem Qb{p:Prop}[Decidable p]{x y:SC}{sk:List It}(h1:p->vc C R (.c x::sk) fr hp)(h2:¬p->vc C R (.c y::sk) fr hp):o7 C R (.bool (decide p)) x y sk fr hp:=
 ⟨fun h=>h1 (of_decide_eq_true h),fun h=>h2 (of_decide_eq_false h)⟩
theorem y4{b:Bool}{x y:SC}{sk:List It}(h1:b=true->vc C R (.c x::sk) fr hp)(h2:b=false->vc C R (.c y::sk) fr hp):o7 C R (.bool b) x y sk fr hp:=⟨h1,h2⟩
theorem fX{p:Prop}[Decidable p]{s:Nat}{o:cx}(h1:p->iq C (.bool true) s true o (af fr s (.bool true)) hp K)(h2:¬p->iq C (.bool false) s true o (af fr s (.bool false)) hp K):iq C (.bool (decide p)) s true o fr hp K:=by
 have hu:∀(b:Bool),af (af fr s (.bool b)) s (.bool b)=af fr s (.bool b):=fun b=>by funext i;unfold af;split<;>rfl
 refine⟨fun h=>?_,fun h=>?_⟩
 ·have:=(h1 (of_decide_eq_true h)).1 rfl
  rwa[hu]at this
 ·have:=(h2 (of_decide_eq_false h)).2 rfl
  rwa[show(!true)=false from rfl,hu]at this
theorem dF{p:Prop}[Decidable p]{s:Nat}{o:cx}(h1:p->iq C (.bool true) s false o (af fr s (.bool true)) hp K)(h2:¬p->iq C (.bool false) s false o (af fr s (.bool false)) hp K):iq C (.bool (decide p)) s false o fr hp K:=by
 have hu:∀(b:Bool),af (af fr s (.bool b)) s (.bool b)=af fr s (.bool b):=fun b=>by funext i;unfold af;split<;>rfl
 refine⟨fun h=>?_,fun h=>?_⟩
 ·have:=(h2 (of_decide_eq_false h)).1 rfl
  rwa[hu]at this
 ·have:=(h1 (of_decide_eq_true h)).2 rfl
  rwa[show(!false)=true from rfl,hu]at this
theorem wE{b want:Bool}{s:Nat}{o:cx}(h1:b=true->iq C (.bool true) s want o (af fr s (.bool true)) hp K)(h2:b=false->iq C (.bool false) s want o (af fr s (.bool false)) hp K):iq C (.bool b) s want o fr hp K:=by
 have:= @fX C fr hp K (b=true) _ s o;have e:b=decide (b=true):=by cases b<;>rfl
 rw[e];cases want with
 |true=>exact fX h1 (fun h=>h2 (by simpa using h))
 |false=>exact dF h1 (fun h=>h2 (by simpa using h))
theorem ace{sk:List It}{c:aO}{x y:SC}:vc C R (.c (.cond c x y)::sk) fr hp=o7 C R (ev fr c) x y sk fr hp:=Du
theorem ag5{sk:List It}{x y:RT}:vc C R (.o (.br x y)::sk) fr hp=rP C R x y sk fr hp:=P1
theorem ag6{sk:List It}{o:cx}{r:RT}:vc C R (.o (.o none o r)::sk) fr hp=bo C o fr hp (vc C R (.o r::sk)):=Aa
theorem ag7{sk:List It}{s:Nat}{b:Bool}{o:cx}{r:RT}:vc C R (.o (.o (some (s,b)) o r)::sk) fr hp=iq C (fr s) s b o fr hp (vc C R (.o r::sk)):=Aa
theorem vcs:
  (∀(C:Ctx)(R:Qg)(sk:List It)(x y:SC)(fr:Fr)(hp:HP),vc C R (.c (.seq x y)::sk) fr hp=vc C R (.c x:: .c y::sk) fr hp)/\
  (∀(C:Ctx)(R:Qg)(sk:List It)(id:Nat)(x:SC)(fr:Fr)(hp:HP),vc C R (.c (.block id x)::sk) fr hp=vc C R (.c x:: .eb id::sk) fr hp)/\
  (∀(C:Ctx)(R:Qg)(sk:List It)(fr:Fr)(hp:HP),vc C R (.c .skip::sk) fr hp=vc C R sk fr hp)/\
  (∀(C:Ctx)(R:Qg)(sk:List It)(r:RT)(fr:Fr)(hp:HP),vc C R (.c (.rg r)::sk) fr hp=vc C R (.o r::sk) fr hp)/\
  (∀(C:Ctx)(R:Qg)(sk:List It)(id:Nat)(fr:Fr)(hp:HP),vc C R (.eb id::sk) fr hp=vc C R sk fr hp)/\
  (∀(C:Ctx)(R:Qg)(sk:List It)(J:Qg)(fr:Fr)(hp:HP),vc C R (.el J::sk) fr hp=J fr hp)/\
  (∀(C:Ctx)(R:Qg)(sk:List It)(fr:Fr)(hp:HP),vc C R (.c .ret::sk) fr hp=R fr hp)/\
  (∀(C:Ctx)(R:Qg)(fr:Fr)(hp:HP),vc C R [] fr hp=R fr hp)/\
  (∀(C:Ctx)(R:Qg)(sk:List It)(c:aO)(x y:SC)(fr:Fr)(hp:HP),vc C R (.c (.cond c x y)::sk) fr hp=o7 C R (ev fr c) x y sk fr hp)/\
  (∀(C:Ctx)(R:Qg)(sk:List It)(id:Nat)(fr:Fr)(hp:HP),vc C R (.c (.exit id)::sk) fr hp=vd C R (FW.ct id sk) fr hp)/\
  (∀(C:Ctx)(R:Qg)(sk:List It)(fr:Fr)(hp:HP),vc C R (.o .nil::sk) fr hp=vc C R sk fr hp)/\
  (∀(C:Ctx)(R:Qg)(sk:List It)(o:cx)(r:RT)(fr:Fr)(hp:HP),vc C R (.o (.o none o r)::sk) fr hp=bo C o fr hp (vc C R (.o r::sk)))/\
  (∀(C:Ctx)(R:Qg)(sk:List It)(s:Nat)(b:Bool)(o:cx)(r:RT)(fr:Fr)(hp:HP),vc C R (.o (.o (some (s,b)) o r)::sk) fr hp=iq C (fr s) s b o fr hp (vc C R (.o r::sk)))/\
  (∀(C:Ctx)(R:Qg)(sk:List It)(x y:RT)(fr:Fr)(hp:HP),vc C R (.o (.br x y)::sk) fr hp=rP C R x y sk fr hp)/\
  (∀(C:Ctx)(R:Qg)(x y:SC)(sk:List It)(fr:Fr)(hp:HP),o7 C R (.bool true) x y sk fr hp=vc C R (.c x::sk) fr hp)/\
  (∀(C:Ctx)(R:Qg)(x y:SC)(sk:List It)(fr:Fr)(hp:HP),o7 C R (.bool false) x y sk fr hp=vc C R (.c y::sk) fr hp)/\
  (∀(C:Ctx)(R:Qg)(sk:List It)(fr:Fr)(hp:HP),vd C R (some sk) fr hp=vc C R sk fr hp)/\
  (∀(id:Nat)(s:SC)(sk:List It),FW.ct id (.c s::sk)=FW.ct id sk)/\
  (∀(id:Nat)(r:RT)(sk:List It),FW.ct id (.o r::sk)=FW.ct id sk)/\
  (∀(id:Nat)(J:Qg)(sk:List It),FW.ct id (.el J::sk)=FW.ct id sk)/\
  (∀(id i:Nat)(sk:List It),FW.ct id (.eb i::sk)=if i=id then some sk else FW.ct id sk)/\
  (∀(C:Ctx)(s:Nat)(o:cx)(fr:Fr)(hp:HP)(K:Qg),iq C (.bool true) s true o fr hp K=bo C o (af fr s (.bool true)) hp K)/\
  (∀(C:Ctx)(s:Nat)(o:cx)(fr:Fr)(hp:HP)(K:Qg),iq C (.bool false) s true o fr hp K=ju o (af fr s (.bool false)) hp K)/\
  (∀(C:Ctx)(s:Nat)(o:cx)(fr:Fr)(hp:HP)(K:Qg),iq C (.bool true) s false o fr hp K=ju o (af fr s (.bool true)) hp K)/\
  (∀(C:Ctx)(s:Nat)(o:cx)(fr:Fr)(hp:HP)(K:Qg),iq C (.bool false) s false o fr hp K=bo C o (af fr s (.bool false)) hp K)/\
  (∀(C:Ctx)(s:Nat)(b:Bool)(o:cx)(fr:Fr)(hp:HP)(K:Qg),iq C (.au []) s b o fr hp K=ju o fr hp K):=by
 refine⟨fun _ _ _ _ _ _ _=>DI,fun _ _ _ _ _ _ _=>C2,fun _ _ _ _ _=>Dt,fun _ _ _ _ _ _=>FE,fun _ _ _ _ _ _=>BL,fun _ _ _ _ _ _=>vb,fun _ _ _ _ _=>DJ,fun _ _ _ _=>uX,fun _ _ _ _ _ _ _ _=>ace,
  fun _ _ _ _ _ _=>Dv,fun _ _ _ _ _=>zX,fun _ _ _ _ _ _ _=>ag6,fun _ _ _ _ _ _ _ _ _=>ag7,fun _ _ _ _ _ _ _=>ag5,fun _ _ _ _ _ _ _=>?_,fun _ _ _ _ _ _ _=>?_,fun _ _ _ _ _=>rfl,fun _ _ _=>rfl,fun _ _ _=>rfl,fun _ _ _=>rfl,fun _ _ _=>rfl,?_,?_,?_,?_,fun _ _ _ _ _ _ _=>rfl⟩
 ·simp[o7,tk]
 ·simp[o7,tk]
 all_goals intros;simp[iq]
end Go.FW
namespace Go.FW
open Go
variable {C : Ctx} {fr : Fr} {hp : HP} {K R : Qg}
theorem uN{n:Int}(h1: -9223372036854775808<=n)(h2:n<=9223372036854775807):IntKind.i64.wrap n=n:=by rw[IntKind.wrap_i64];omega
theorem acf{n:Int}(h1: -2147483648<=n)(h2:n<=2147483647):IntKind.i32.wrap n=n:=by rw[IntKind.wrap_i32];omega
theorem rz{n:Int}(h1:0<=n)(h2:n<=18446744073709551615):IntKind.u64.wrap n=n:=by rw[IntKind.wrap_u64];omega
theorem C3{n:Int}(h1:0<=n)(h2:n<=4294967295):IntKind.u32.wrap n=n:=by rw[IntKind.wrap_u32];omega
theorem acg{n:Int}(h1:0<=n)(h2:n<=65535):IntKind.u16.wrap n=n:=by simp only[IntKind.wrap,IntKind.bits,IntKind.signed];simp;omega
theorem ad9{n:Int}(h1:0<=n)(h2:n<=255):IntKind.u8.wrap n=n:=by rw[IntKind.wrap_u8];omega
theorem aea{x y:Int}(h:0<=x):x.tdiv y=x/y:=Int.tdiv_eq_ediv_of_nonneg h
theorem aeb{x y:Int}(h:0<=x):x.tmod y=x%y:=Int.tmod_eq_emod_of_nonneg h
def jY(hb:Option HB)(n:Nat)(ag:Bool)(i o:Nat)(d:Nat)(fr:Fr)(hp:HP)(K:Qg):Prop:=match hb with
 |some hb=>∃h:i<hb.xs.length,o+n<=hb.e/\(ag=false->n=1)/\K (af fr d (eE ag n o (hb.xs[i]'h))) hp
 |none=>False
def stM (hb:Option HB) (β:Nat) (n:Nat) (i o:Nat) (v:PV) (fr:Fr) (hp:HP) (K:Qg):Prop:=match hb with
  |some hb=>hb.fz=false/\v.aD=true/\v.cells.length=n/\∃h:i<hb.xs.length,o+n<=hb.e/\
        K fr (Qy hp β { hb with xs:=hb.xs.set i (if n=hb.e then v else ra (hb.xs[i]'h) o v) })
  |none=>False
def xD(R:PV->Prop)(p:PV):Prop:=p.aD=true/\∃q,PV.le p q/\R q
theorem Qd{p r:PV}(h:p=r)(hd:r.aD=true):xD (· =r) p:=by subst h;exact⟨hd,_,Qw _,rfl⟩
theorem nu{p r:PV}(h:PV.le p r)(hd:p.aD=true):xD (· =r) p:=⟨hd,_,h,rfl⟩
theorem Oj{e ty n:Nat}{ag fz:Bool}{o d:Nat}{x:PV}(h:o+n<=e)(ha:ag=false->n=1):jY (some ⟨e,ty,[x],fz⟩) n ag 0 o d fr hp K=K (af fr d (eE ag n o x)) hp:=by simp[jY,h];intro _;exact ha
theorem s8{e ty n i:Nat}{ag fz:Bool}{o d:Nat}{xs:List PV}(h:i<xs.length)(h1:o+n<=e)(ha:ag=false->n=1):jY (some ⟨e,ty,xs,fz⟩) n ag i o d fr hp K=K (af fr d (eE ag n o (xs[i]'h))) hp:=by simp[jY,h,h1];intro _;exact ha
theorem ag8{e ty n β i:Nat}{o:Nat}{xs:List PV}{v:PV}(h:i<xs.length)(hv:v.aD=true)(hl:v.cells.length=n)(h1:o+n<=e):stM (some ⟨e,ty,xs,false⟩) β n i o v fr hp K=K fr (Qy hp β ⟨e,ty,xs.set i (if n=e then v else ra (xs[i]'h) o v),false⟩):=by simp[stM,h,h1,hv,hl]
theorem CR{ty n β i:Nat}{xs:List PV}{v:PV}(h:i<xs.length)(hv:v.aD=true)(hl:v.cells.length=n):stM (some ⟨n,ty,xs,false⟩) β n i 0 v fr hp K=K fr (Qy hp β ⟨n,ty,xs.set i v,false⟩):=by rw[ag8 h hv hl (by omega)];simp
theorem Fw{e d:Nat}{k:IntKind}{m:Int}{xs:List PV}(h0:0<=m)(h:m<xs.length):dG e (.sl e xs) (.int k m) d fr hp K=K (af fr d (.pt (xs[m.toNat]'(by omega)).cells)) hp:=by
 have:m.toNat<xs.length:=by omega
 simp[dG,h0,this]
theorem w7{α:Type}{f:α->PV}{e d:Nat}{k:IntKind}{m:Int}{xs:List α}(h0:0<=m)(h:m<xs.length):dG e (.sl e (xs.map f)) (.int k m) d fr hp K=K (af fr d (.pt (f (xs[m.toNat]'(by omega))).cells)) hp:=by rw[Fw h0 (by simpa using h)];simp
theorem DL{e d β o n:Nat}{k:IntKind}{m:Int}(h0:0<=m)(h:m<n)(he:(hp β).map (·.e)=some e):dG e (.ax β o n) (.int k m) d fr hp K=K (af fr d (.mp β (o+m.toNat) 0)) hp:=by
 have:m.toNat<n:=by omega
 simp[dG,h0,this,he]
theorem BM{e by_ ty d:Nat}{z:PV}{k k':IntKind}{L Cc:Int}(h0:0<e)(hz:z.cells.length=e)(h1:0<=L)(h2:L<=Cc)(h3:by_*Cc<=281474976710656)(h4:Cc<=9223372036854775807):
  m8 e by_ ty z (.int k L) (.int k' Cc) d fr hp K=K (af (cI d fr) d (.ms d L.toNat)) (Qy hp d ⟨e,ty,List.replicate L.toNat z,false⟩):=by
 simp[m8,h0,hz,h1,h2,h3,h4]
theorem ag9{n ty d β o m:Nat}(hB:bG β=true):fR n ty (.ax β o m) d fr hp K=K (af fr d (.rb β o m)) hp:=by simp[fR,hB]
theorem ajP{d β o m:Nat}:kE 1 false (.rb β o m) d fr hp K=K (af fr d (.ax β o m)) hp:=by simp[kE]
theorem Cw{e by_ ty d:Nat}{x:PV}{ys:List PV}(hs:jt hp x=some (e,ys))(h0:0<e)(h1:ys.length*by_<=140737488355328)(h2:ys.length<=9223372036854775807):
  iH e by_ ty .aa x d fr hp K=K (af (cI d fr) d (.ms d ys.length)) (Qy hp d ⟨e,ty,ys,false⟩):=by
 simp[iH,hs,h0,h1,h2]
theorem Gt{e by_ ty d β n:Nat}{x:PV}{ys xs:List PV}(hs:jt hp x=some (e,ys))(hb:hp β=some ⟨e,ty,xs,false⟩)(h0:0<e)(hn:n<=xs.length)(h1:(n+ys.length)*by_<=140737488355328)(h2:n+ys.length<=9223372036854775807)(hB:b9 β=false:=by decide):
  iH e by_ ty (.ms β n) x d fr hp K=K (af (cI β fr) d (.ms β (n+ys.length))) (Qy hp β ⟨e,ty,xs.take n++ys,false⟩):=by
 simp[iH,hs,hb,h0,hn,h1,h2,hB]
theorem FB{e d:Nat}{xs:List PV}{lo hi:Option PV}{L H:Int}(h1:il 0 lo=some L)(h2:il xs.length hi=some H)(h3:0<=L)(h4:L<=H)(h5:H<=xs.length):
  iA e (.sl e xs) lo hi none d fr hp K=K (af fr d (.sl e ((xs.take H.toNat).drop L.toNat))) hp:=by
 have hM:il (xs.length) none=some (xs.length:Int):=rfl;simp only[iA,h1,h2,hM];simp[h3,h4,h5]
theorem ajQ{e d:Nat}{xs:List PV}{k:IntKind}{H:Int}(h4:0<=H)(h5:H<=xs.length):
  iA e (.sl e xs) none (some (.int k H)) none d fr hp K=K (af fr d (.sl e (xs.take H.toNat))) hp:=by
 rw[FB (L:=0) (H:=H) rfl rfl (by omega) h4 h5];simp
theorem ajR{e d:Nat}{xs:List PV}{k:IntKind}{L:Int}(h4:0<=L)(h5:L<=xs.length):
  iA e (.sl e xs) (some (.int k L)) none none d fr hp K=K (af fr d (.sl e (xs.drop L.toNat))) hp:=by
 rw[FB (L:=L) (H:=xs.length) rfl rfl h4 h5 (by omega)];simp
theorem aoN:
  (∀(C:Ctx)(d:Nat)(x:aO)(fr:Fr)(hp:HP)(K:Qg),bo C (.mv d x) fr hp K=K (af fr d (ev fr x)) hp)/\
  (∀(C:Ctx)(d:Nat)(c a b:aO)(fr:Fr)(hp:HP)(K:Qg),bo C (.pick d c a b) fr hp K=rI (ev fr c) (ev fr a) (ev fr b) d fr hp K)/\
  (∀(C:Ctx)(d:Nat)(op:BinOp)(bt:Bool)(a b:aO)(fr:Fr)(hp:HP)(K:Qg),bo C (.bin d op bt a b) fr hp K=ck op bt (ev fr a) (ev fr b) d fr hp K)/\
  (∀(C:Ctx)(d:Nat)(op:UnOp)(a:aO)(fr:Fr)(hp:HP)(K:Qg),bo C (.un d op a) fr hp K=uo op (ev fr a) d fr hp K)/\
  (∀(C:Ctx)(d:Nat)(k:IntKind)(a:aO)(fr:Fr)(hp:HP)(K:Qg),bo C (.conv d k a) fr hp K=u9 k (ev fr a) d fr hp K)/\
  (∀(C:Ctx)(d:Nat)(a:aO)(fr:Fr)(hp:HP)(K:Qg),bo C (.len d a) fr hp K=ox (ev fr a) d fr hp K)/\
  (∀(C:Ctx)(d:Nat)(a b:aO)(fr:Fr)(hp:HP)(K:Qg),bo C (.mx d a b) fr hp K=we (ev fr a) (ev fr b) d fr hp K)/\
  (∀(C:Ctx)(d:Nat)(a b:aO)(fr:Fr)(hp:HP)(K:Qg),bo C (.mn d a b) fr hp K=wc (ev fr a) (ev fr b) d fr hp K)/\
  (∀(C:Ctx)(d e:Nat)(a b:aO)(fr:Fr)(hp:HP)(K:Qg),bo C (.idx d e a b) fr hp K=dG e (ev fr a) (ev fr b) d fr hp K)/\
  (∀(C:Ctx)(d n e:Nat)(a b:aO)(fr:Fr)(hp:HP)(K:Qg),bo C (.Bp d n e a b) fr hp K=qn n e (ev fr a) (ev fr b) d fr hp K)/\
  (∀(C:Ctx)(d n e:Nat)(ag:Bool)(a b:aO)(fr:Fr)(hp:HP)(K:Qg),bo C (.Br d n e ag a b) fr hp K=xx n e ag (ev fr a) (ev fr b) d fr hp K)/\
  (∀(C:Ctx)(d off:Nat)(a:aO)(fr:Fr)(hp:HP)(K:Qg),bo C (.cz d off a) fr hp K=qw off (ev fr a) d fr hp K)/\
  (∀(C:Ctx)(d off n:Nat)(ag:Bool)(a:aO)(fr:Fr)(hp:HP)(K:Qg),bo C (.xL d off n ag a) fr hp K=qo off n ag (ev fr a) d fr hp K)/\
  (∀(C:Ctx)(d n:Nat)(ag:Bool)(a:aO)(fr:Fr)(hp:HP)(K:Qg),bo C (.ld d n ag a) fr hp K=kE n ag (ev fr a) d fr hp K)/\
  (∀(C:Ctx)(n:Nat)(a b:aO)(fr:Fr)(hp:HP)(K:Qg),bo C (.st n a b) fr hp K=oQ n (ev fr a) (ev fr b) fr hp K)/\
  (∀(C:Ctx)(d n ty:Nat)(a:aO)(fr:Fr)(hp:HP)(K:Qg),bo C (.box d n ty a) fr hp K=fR n ty (ev fr a) d fr hp K)/\
  (∀(C:Ctx)(d n ty:Nat)(z:PV)(fr:Fr)(hp:HP)(K:Qg),bo C (.alloc d n ty z) fr hp K=fR n ty z d fr hp K)/\
  (∀(C:Ctx)(d e by_ ty:Nat)(z:PV)(l c:aO)(fr:Fr)(hp:HP)(K:Qg),bo C (.mk d e by_ ty z l c) fr hp K=m8 e by_ ty z (ev fr l) (ev fr c) d fr hp K)/\
  (∀(C:Ctx)(d e ty:Nat)(ps:List aO)(fr:Fr)(hp:HP)(K:Qg),bo C (.bs d e ty ps) fr hp K=nM e ty (ps.map (ev fr)) d fr hp K)/\
  (∀(C:Ctx)(d e by_ ty:Nat)(a b:aO)(fr:Fr)(hp:HP)(K:Qg),bo C (.app d e by_ ty a b) fr hp K=iH e by_ ty (ev fr a) (ev fr b) d fr hp K)/\
  (∀(C:Ctx)(d e:Nat)(a b:aO)(fr:Fr)(hp:HP)(K:Qg),bo C (.tD d e a b) fr hp K=tt e (ev fr a) (ev fr b) d fr hp K)/\
  (∀(C:Ctx)(d e:Nat)(a:aO)(l h m:Option aO)(fr:Fr)(hp:HP)(K:Qg),bo C (.sl d e a l h m) fr hp K=iA e (ev fr a) (l.map (ev fr)) (h.map (ev fr)) (m.map (ev fr)) d fr hp K)/\
  (∀(C:Ctx)(d:Nat)(a:aO)(i:Nat)(fr:Fr)(hp:HP)(K:Qg),bo C (.ext d a i) fr hp K=ki (ev fr a) i d fr hp K)/\
  (∀(C:Ctx)(d:Nat)(z:List PV)(ps:List (Nat×Nat×aO))(fr:Fr)(hp:HP)(K:Qg),bo C (.bT d z ps) fr hp K=kn z (ps.map fun p=>(p.1,p.2.1,ev fr p.2.2)) d fr hp K)/\
  (∀(C:Ctx)(d f:Nat)(x y:List aO)(fr:Fr)(hp:HP)(K:Qg),bo C (.fn d f x y) fr hp K=((x.map (ev fr)++y.map (ev fr)).all PV.kB=true/\K (af fr d (.fn f (x.map (ev fr)) (y.map (ev fr)))) hp))/\
  (∀(C:Ctx)(d:Option Nat)(pr:Bool)(f:aO)(TU:List aO)(fr:Fr)(hp:HP)(K:Qg),bo C (.call d pr f TU) fr hp K=mC C pr (ev fr f) (TU.map (ev fr)) d fr hp K)/\
  (∀(C:Ctx)(d:Option Nat)(x:aO)(fr:Fr)(hp:HP)(K:Qg),bo C (.Bw d x) fr hp K=z9 (ev fr x) d fr hp K)/\
  (∀(fr:Fr)(n:Nat),ev fr (.t n)=fr n)/\(∀(fr:Fr)(p:PV),ev fr (.c p)=p):=by
 refine⟨?_,?_,?_,?_,?_,?_,?_,?_,?_,?_,?_,?_,?_,?_,?_,?_,?_,?_,?_,?_,?_,?_,?_,?_,?_,?_,?_,?_,?_⟩<;>intros<;>rfl
theorem aoO:
  (∀(bt:Bool)(k:IntKind)(x y:Int)(d:Nat)(fr:Fr)(hp:HP)(K:Qg),ck .add bt (.int k x) (.int k y) d fr hp K=K (af fr d (.int k (k.wrap (x+y)))) hp)/\
  (∀(bt:Bool)(k:IntKind)(x y:Int)(d:Nat)(fr:Fr)(hp:HP)(K:Qg),ck .sub bt (.int k x) (.int k y) d fr hp K=K (af fr d (.int k (k.wrap (x-y)))) hp)/\
  (∀(bt:Bool)(k:IntKind)(x y:Int)(d:Nat)(fr:Fr)(hp:HP)(K:Qg),ck .mul bt (.int k x) (.int k y) d fr hp K=K (af fr d (.int k (k.wrap (x*y)))) hp)/\
  (∀(bt:Bool)(k:IntKind)(x y:Int)(d:Nat)(fr:Fr)(hp:HP)(K:Qg),ck .eql bt (.int k x) (.int k y) d fr hp K=K (af fr d (.bool (decide (x=y)))) hp)/\
  (∀(bt:Bool)(k:IntKind)(x y:Int)(d:Nat)(fr:Fr)(hp:HP)(K:Qg),ck .neq bt (.int k x) (.int k y) d fr hp K=K (af fr d (.bool (decide (¬x=y)))) hp)/\
  (∀(bt:Bool)(k:IntKind)(x y:Int)(d:Nat)(fr:Fr)(hp:HP)(K:Qg),ck .lss bt (.int k x) (.int k y) d fr hp K=K (af fr d (.bool (decide (x<y)))) hp)/\
  (∀(bt:Bool)(k:IntKind)(x y:Int)(d:Nat)(fr:Fr)(hp:HP)(K:Qg),ck .leq bt (.int k x) (.int k y) d fr hp K=K (af fr d (.bool (decide (x<=y)))) hp)/\
  (∀(bt:Bool)(k:IntKind)(x y:Int)(d:Nat)(fr:Fr)(hp:HP)(K:Qg),ck .gtr bt (.int k x) (.int k y) d fr hp K=K (af fr d (.bool (decide (y<x)))) hp)/\
  (∀(bt:Bool)(k:IntKind)(x y:Int)(d:Nat)(fr:Fr)(hp:HP)(K:Qg),ck .geq bt (.int k x) (.int k y) d fr hp K=K (af fr d (.bool (decide (y<=x)))) hp)/\
  (∀(x y:Bool)(d:Nat)(fr:Fr)(hp:HP)(K:Qg),ck .eql true (.bool x) (.bool y) d fr hp K=K (af fr d (.bool (x==y))) hp)/\
  (∀(x y:Bool)(d:Nat)(fr:Fr)(hp:HP)(K:Qg),ck .neq true (.bool x) (.bool y) d fr hp K=K (af fr d (.bool (!(x==y)))) hp)/\
  (∀(b:Bool)(d:Nat)(fr:Fr)(hp:HP)(K:Qg),uo .not (.bool b) d fr hp K=K (af fr d (.bool (!b))) hp)/\
  (∀(k:IntKind)(n:Int)(d:Nat)(fr:Fr)(hp:HP)(K:Qg),uo .neg (.int k n) d fr hp K=K (af fr d (.int k (k.wrap (0-n)))) hp)/\
  (∀(k k':IntKind)(n:Int)(d:Nat)(fr:Fr)(hp:HP)(K:Qg),u9 k (.int k' n) d fr hp K=K (af fr d (.int k (k.wrap n))) hp)/\
  (∀(d:Nat)(fr:Fr)(hp:HP)(K:Qg),ox .aa d fr hp K=K (af fr d (.int .i64 0)) hp)/\
  (∀(e:Nat)(xs:List PV)(d:Nat)(fr:Fr)(hp:HP)(K:Qg),ox (.sl e xs) d fr hp K=K (af fr d (.int .i64 xs.length)) hp)/\
  (∀(β o n:Nat)(d:Nat)(fr:Fr)(hp:HP)(K:Qg),ox (.ax β o n) d fr hp K=K (af fr d (.int .i64 n)) hp)/\
  (∀(k k':IntKind)(x y:Int)(d:Nat)(fr:Fr)(hp:HP)(K:Qg),we (.int k x) (.int k' y) d fr hp K=K (af fr d (.int k (max x y))) hp)/\
  (∀(k k':IntKind)(x y:Int)(d:Nat)(fr:Fr)(hp:HP)(K:Qg),wc (.int k x) (.int k' y) d fr hp K=K (af fr d (.int k (min x y))) hp)/\
  (∀(a b:PV)(d:Nat)(fr:Fr)(hp:HP)(K:Qg),rI (.bool true) a b d fr hp K=K (af fr d a) hp)/\
  (∀(a b:PV)(d:Nat)(fr:Fr)(hp:HP)(K:Qg),rI (.bool false) a b d fr hp K=K (af fr d b) hp)/\
  (∀(off β i o:Nat)(d:Nat)(fr:Fr)(hp:HP)(K:Qg),qw off (.mp β i o) d fr hp K=K (af fr d (.mp β i (o+off))) hp)/\
  (∀(n:Nat)(ag:Bool)(β i o:Nat)(d:Nat)(fr:Fr)(hp:HP)(K:Qg),kE n ag (.mp β i o) d fr hp K=jY (hp β) n ag i o d fr hp K)/\
  (∀(c:PV)(cs:List PV)(d:Nat)(fr:Fr)(hp:HP)(K:Qg),kE 1 false (.pt (c::cs)) d fr hp K=K (af fr d c) hp)/\
  (∀(n:Nat)(β i o:Nat)(v:PV)(fr:Fr)(hp:HP)(K:Qg),oQ n (.mp β i o) v fr hp K=stM (cb hp v.refs β) β n i o (aK hp v) fr (cb hp v.refs) K)/\
  (∀(ps:List PV)(p:PV)(d:Nat)(fr:Fr)(hp:HP)(K:Qg),ki (.au (p::ps)) 0 d fr hp K=(p.aD=true/\K (af fr d p) hp))/\
  (∀(ps:List PV)(p q:PV)(d:Nat)(fr:Fr)(hp:HP)(K:Qg),ki (.au (p::q::ps)) 1 d fr hp K=(q.aD=true/\K (af fr d q) hp))/\
  (∀(ps:List PV)(p q r:PV)(d:Nat)(fr:Fr)(hp:HP)(K:Qg),ki (.au (p::q::r::ps)) 2 d fr hp K=(r.aD=true/\K (af fr d r) hp))/\
  (∀(s:Nat)(Rr:PV->Prop)(fr:Fr)(hp:HP),fS [.t s] Rr fr hp=xD Rr (aK hp (fr s)))/\
  (∀(e:Nat)(xs:List PV),jt aE (.sl e xs)=some (e,xs))/\
  (∀(hp:HP),cb hp []=hp)/\
  (∀(fr:Fr)(r:PV),qt fr none r=fr)/\(∀(fr:Fr)(d:Nat)(r:PV),qt fr (some d) r=af fr d r)/\
  (∀(β:Nat)(fr:Fr)(i:Nat),cI β fr i=bX β (fr i)):=by
 refine⟨?_,?_,?_,?_,?_,?_,?_,?_,?_,?_,?_,?_,?_,?_,?_,?_,?_,?_,?_,?_,?_,?_,?_,?_,?_,?_,?_,?_,?_,?_,?_,?_,?_,?_⟩<;>intros
 all_goals first
  |rfl
  |(simp[ck,rI,ki,kE,eE,PV.cells,oQ,stM];done)
  |(simp[ck,rI,ki,kE,eE,PV.cells,oQ,stM];try rfl)
  |skip
end Go.FW
namespace Go.FW
open Go
variable {C : Ctx} {ρ : Nat -> Option Nat} {fr : Fr} {hp : HP} {w : World} {K R : Qg}
theorem Po(i β e ty:Nat)(he:0<e)(hi:fr i= .aa)(hB:b9 β=false:=by decide):Wk fr hp (af (cI β fr) i (.ms β 0)) (Qy hp β ⟨e,ty,[],false⟩):=by
 rintro C tmps w ⟨ρ,hs⟩;have hr:=hs.rebind (w':=w) β none ⟨e,ty,[],false⟩ hB (Ext.refl _ _) (by simp) he (by simp) (by simp) (by simp);refine⟨_,hr.sz,hr.ext,hr.gT,hr.own,hr.inj,fun j=>?_⟩;unfold af;split
 ·rename_i hj;subst hj;have:=hs.eQ j;rw[hi]at this;have e:=Qt.wh this;exact⟨_,by simp[Qy];rfl,by simp,.inl ⟨gI _ _ _,e,rfl,rfl⟩⟩
 ·exact hr.eQ j
end Go.FW
namespace Go.FW
open Go
variable {C : Ctx} {ρ : Nat -> Option Nat} {fr : Fr} {hp : HP} {w : World} {K R : Qg}
theorem aec(fr:Fr)(a:Nat)(v w:PV):af (af fr a v) a w=af fr a w:=by funext i;unfold af;split<;>rfl
theorem GR{α:Type}{f:α->PV}{e d:Nat}{xs:List α}{k:IntKind}{H:Int}(h4:0<=H)(h5:H<=xs.length):
  iA e (.sl e (xs.map f)) none (some (.int k H)) none d fr hp K=K (af fr d (.sl e ((xs.take H.toNat).map f))) hp:=by
 rw[ajQ h4 (by simpa using h5)];simp
theorem Q9q{α:Type}{f:α->PV}{e d:Nat}{xs:List α}{k:IntKind}{L:Int}(h4:0<=L)(h5:L<=xs.length):
  iA e (.sl e (xs.map f)) (some (.int k L)) none none d fr hp K=K (af fr d (.sl e ((xs.drop L.toNat).map f))) hp:=by
 rw[ajR h4 (by simpa using h5)];simp
theorem XR{α:Type}{f:α->PV}{e d:Nat}{xs:List α}{k k':IntKind}{L H:Int}(h3:0<=L)(h4:L<=H)(h5:H<=xs.length):
  iA e (.sl e (xs.map f)) (some (.int k L)) (some (.int k' H)) none d fr hp K=K (af fr d (.sl e (((xs.take H.toNat).drop L.toNat).map f))) hp:=by
 rw[FB (L:=L) (H:=H) rfl rfl h3 h4 (by simpa using h5)];simp
theorem aed(hp:HP)(e:Nat)(xs:List PV):aK hp (.sl e xs)= .sl e xs:=rfl
theorem ach(hp:HP)(k:IntKind)(n:Int):aK hp (.int k n)= .int k n:=rfl
theorem Q9r(hp:HP)(b:Bool):aK hp (.bool b)= .bool b:=rfl
theorem aci(hp:HP)(cs:List PV):aK hp (.agg cs)= .agg cs:=rfl
theorem acj(hp:HP):aK hp .aa= .aa:=rfl
theorem Ok(hp:HP)(β n:Nat)(e ty:Nat)(xs:List PV)(fz:Bool)(h:hp β=some ⟨e,ty,xs,fz⟩)(hB:b9 β=false:=by decide):aK hp (.ms β n)= .sl e (xs.take n):=by simp[aK,cB,h,uZ hB]
theorem aee(e:Nat)(xs:List PV):(PV.sl e xs).refs=[]:=rfl
theorem ack(k:IntKind)(n:Int):(PV.int k n).refs=[]:=rfl
theorem Q9s(b:Bool):(PV.bool b).refs=[]:=rfl
theorem acm(cs:List PV):(PV.agg cs).refs=[]:=rfl
theorem acn:PV.aa.refs=[]:=rfl
theorem aco(β e:Nat)(xs:List PV):bX β (.sl e xs)= .sl e xs:=rfl
theorem Q9t(β:Nat)(k:IntKind)(n:Int):bX β (.int k n)= .int k n:=rfl
theorem Yj(β:Nat)(b:Bool):bX β (.bool b)= .bool b:=rfl
theorem Q9u(β:Nat)(cs:List PV):bX β (.agg cs)= .agg cs:=rfl
theorem Q9v(β:Nat):bX β .aa= .aa:=rfl
theorem Ny(β γ o n:Nat):bX β (.ax γ o n)=if γ=β then .undef else .ax γ o n:=by
 by_cases h:γ=β
 ·subst h;simp[bX,PV.refs]
 ·simp[bX,PV.refs,h];intro h';exact absurd h'.symm h
theorem acp(β γ o n:Nat):bX β (.rb γ o n)=if γ=β then .undef else .rb γ o n:=by
 by_cases h:γ=β
 ·subst h;simp[bX,PV.refs]
 ·simp[bX,PV.refs,h];intro h';exact absurd h'.symm h
theorem Nz(β γ i o:Nat):bX β (.mp γ i o)=if γ=β then .undef else .mp γ i o:=by
 by_cases h:γ=β
 ·subst h;simp[bX,PV.refs]
 ·simp[bX,PV.refs,h];intro h';exact absurd h'.symm h
theorem ajS:
  (∀(fr:Fr)(a:Nat)(v:PV)(b:Nat),af fr a v b=if b=a then v else fr b)/\
  (∀(h:HP)(a:Nat)(v:HB)(b:Nat),Qy h a v b=if b=a then some v else h b)/\
  (∀(β:Nat),aE β=none)/\
  (∀(hp:HP)(e:Nat)(xs:List PV),aK hp (.sl e xs)= .sl e xs)/\
  (∀(hp:HP)(k:IntKind)(n:Int),aK hp (.int k n)= .int k n)/\
  (∀(hp:HP)(b:Bool),aK hp (.bool b)= .bool b)/\
  (∀(hp:HP)(cs:List PV),aK hp (.agg cs)= .agg cs)/\
  (∀(hp:HP),aK hp .aa= .aa)/\
  (∀(e:Nat)(xs:List PV),(PV.sl e xs).refs=[])/\
  (∀(k:IntKind)(n:Int),(PV.int k n).refs=[])/\
  (∀(b:Bool),(PV.bool b).refs=[])/\
  (∀(cs:List PV),(PV.agg cs).refs=[])/\
  (PV.aa.refs=[])/\
  (∀(β o n:Nat),(PV.ax β o n).refs=[β])/\
  (∀(β i o:Nat),(PV.mp β i o).refs=[β])/\
  (∀(β e:Nat)(xs:List PV),bX β (.sl e xs)= .sl e xs)/\
  (∀(β:Nat)(k:IntKind)(n:Int),bX β (.int k n)= .int k n)/\
  (∀(β:Nat)(b:Bool),bX β (.bool b)= .bool b)/\
  (∀(β:Nat)(cs:List PV),bX β (.agg cs)= .agg cs)/\
  (∀(β:Nat),bX β .aa= .aa)/\
  (∀(β γ o n:Nat),bX β (.ax γ o n)=if γ=β then .undef else .ax γ o n)/\
  (∀(β γ i o:Nat),bX β (.mp γ i o)=if γ=β then .undef else .mp γ i o)/\
  (∀(β γ o n:Nat),bX β (.rb γ o n)=if γ=β then .undef else .rb γ o n)/\
  (∀(β o n:Nat),(PV.rb β o n).refs=[β])/\
  (∀(o:cx)(fr:Fr)(hp:HP)(K:Qg),ju o fr hp K=match o.dst with|some d=>K (af fr d (.au [])) hp|none=>K fr hp)/\
  (∀(f:aO->PV),Option.map f none=none)/\(∀(f:aO->PV)(x:aO),Option.map f (some x)=some (f x))/\
  (∀(k:IntKind)(n:Int),(PV.int k n).cells=[.int k n])/\
  (∀(b:Bool),(PV.bool b).cells=[.bool b])/\
  (∀(e:Nat)(xs:List PV),(PV.sl e xs).cells=[.sl e xs])/\
  (∀(cs:List PV),(PV.agg cs).cells=cs):=by
 refine⟨fun _ _ _ _=>rfl,fun _ _ _ _=>rfl,fun _=>rfl,aed,ach,Q9r,aci,acj,aee,ack,Q9s,acm,acn,fun _ _ _=>rfl,fun _ _ _=>rfl,aco,Q9t,Yj,Q9u,Q9v,Ny,Nz,acp,fun _ _ _=>rfl,fun _ _ _ _=>rfl,fun _=>rfl,fun _ _=>rfl,fun _ _=>rfl,fun _=>rfl,fun _ _=>rfl,fun _=>rfl⟩
theorem ajT{p:Nat->Prop}(h:∃m,p m):∃m,p m/\∀k,p k->m<=k:=by
 obtain⟨m,hm⟩:=h;induction m using Nat.strongRecOn with
 |ind m ih=>
  by_cases hk:∃k,k<m/\p k
  ·obtain⟨k,h1,h2⟩:=hk;exact ih k h1 h2
  ·exact⟨m,hm,fun k dT=>Nat.le_of_not_lt fun ar=>hk ⟨k,ar,dT⟩⟩
def xg(I:Nat->Qg)(n:Nat):Qg:=fun ay an=>∃bE aE,Wk ay an bE aE/\∃m,m<n/\I m bE aE
theorem nk{I:Nat->Qg}{n m:Nat}(hl:m<n)(h:I m fr hp):xg I n fr hp:=⟨fr,hp,Wk.refl _ _,m,hl,h⟩
theorem G'{I:Nat->Qg}{n m:Nat}{ay:Fr}{an:HP}(hl:m<n)(hw:Wk fr hp ay an)(h:I m ay an):xg I n fr hp:=⟨ay,an,hw,m,hl,h⟩
theorem y5{sk:List It}{x:SC}(I:Nat->Qg)(m0:Nat){bE:Fr}{aE:HP}(hw:Wk fr hp bE aE)(h0:I m0 bE aE)(h:∀m fr hp,I m fr hp->vc C R (.c x:: .el (xg I m)::sk) fr hp):vc C R (.c (.loop x)::sk) fr hp:=by
 refine aca (fun fr hp=>∃m,I m fr hp) (fun fr hp=>Classical.epsilon fun m=>I m fr hp/\∀k,I k fr hp->m<=k) hw ⟨m0,h0⟩ ?_;intro fr hp hI;have key:∀fr hp,(∃m,I m fr hp)->I (Classical.epsilon fun m=>I m fr hp/\∀k,I k fr hp->m<=k) fr hp/\∀k,I k fr hp->(Classical.epsilon fun m=>I m fr hp/\∀k,I k fr hp->m<=k)<=k:=fun fr hp hI=>Classical.epsilon_spec (ajT hI);have e:xo (fun fr hp=>∃m,I m fr hp) (fun fr hp=>Classical.epsilon fun m=>I m fr hp/\∀k,I k fr hp->m<=k) (Classical.epsilon fun m=>I m fr hp/\∀k,I k fr hp->m<=k)=xg I (Classical.epsilon fun m=>I m fr hp/\∀k,I k fr hp->m<=k):=by
  funext ay an;apply propext;constructor
  ·rintro⟨bE,aE,h1,h2,h3⟩;exact⟨bE,aE,h1,_,h3,(key bE aE h2).1⟩
  ·rintro⟨bE,aE,h1,m,h2,h3⟩;exact⟨bE,aE,h1,⟨m,h3⟩,KcE ((key bE aE ⟨m,h3⟩).2 m h3) h2⟩
 rw[e];exact h _ fr hp (key fr hp hI).1
theorem qf{sk:List It}{x:SC}(I:Nat->Qg)(m0:Nat)(h0:I m0 fr hp)(h:∀m fr hp,I m fr hp->vc C R (.c x:: .el (xg I m)::sk) fr hp):vc C R (.c (.loop x)::sk) fr hp:=
 y5 I m0 (Wk.refl _ _) h0 h
theorem aha{α:Type}{e:Nat}{f:α->PV}:PV.le .aa (.sl e (([]:List α).map f)):=trivial
theorem Qa{P:Program}(hP:C.P=P){g:FuncId}{first cap args c8:List PV}{pr:Bool}{d:Option Nat}{r:PV}(h:Qc P g c8 (· =r))(dM:(first++args++cap).map (aK hp)=c8)(iO:c8.all PV.aD=true)(hr:(first++args++cap).flatMap PV.refs=[])
  (hK:K (qt fr d r) hp):mC C pr (.fn g first cap) args d fr hp K:=by
 refine iE hP h dM iO ?_;rw[hr];exact hK
theorem rm{P:Program}(hP:C.P=P){g:FuncId}{first cap args c8:List PV}{pr:Bool}{d:Option Nat}{Rr:PV->Prop}(h:Qc P g c8 Rr)(dM:(first++args++cap).map (aK hp)=c8)(iO:c8.all PV.aD=true)(hr:(first++args++cap).flatMap PV.refs=[])
  (hK:∀r,Rr r->K (qt fr d r) hp):mC C pr (.fn g first cap) args d fr hp K:=by
 refine SI hP h dM iO fun r h=>?_;rw[hr];exact hK r h
theorem aef{d β n ty:Nat}{xs ys:List PV}(hb:hp β=some ⟨1,ty,xs,false⟩)(hn:n=xs.length):
  tt 1 (.ms β n) (.sl 1 ys) d fr hp K=K (af fr d (.int .i64 (min (ys.length:Int) n))) (Qy hp β ⟨1,ty,ys.take n++xs.drop ys.length,false⟩):=by
 simp[tt,jt,hb,hn]
theorem Pp{by_ ty d:Nat}{kz k k':IntKind}{nz:Int}{L Cc:Int}(h1:0<=L)(h2:L<=Cc)(h3:by_*Cc<=281474976710656)(h4:Cc<=9223372036854775807):
  m8 1 by_ ty (.int kz nz) (.int k L) (.int k' Cc) d fr hp K=K (af (cI d fr) d (.ms d L.toNat)) (Qy hp d ⟨1,ty,List.replicate L.toNat (.int kz nz),false⟩):=by
 exact BM (e:=1) (by omega) rfl h1 h2 h3 h4
theorem Pq{ty β i:Nat}{xs:List PV}{k:IntKind}{n:Int}(h:i<xs.length):stM (some ⟨1,ty,xs,false⟩) β 1 i 0 (.int k n) fr hp K=K fr (Qy hp β ⟨1,ty,xs.set i (.int k n),false⟩):=
 CR h rfl rfl
theorem Q9y(h:HP)(a:Nat)(v w:HB):Qy (Qy h a v) a w=Qy h a w:=by funext i;unfold Qy;split<;>rfl
theorem ahb{ty d:Nat}{k:IntKind}{n:Int}:nM 1 ty [.int k n] d fr hp K=K (af (cI d fr) d (.ms d 1)) (Qy hp d ⟨1,ty,[.int k n],false⟩):=by simp[nM,oy,lE,DQ,HA,aK,cB,PV.refs,PV.aD,PV.cells];rfl
theorem Dw{β n e ty:Nat}{xs:List PV}{fz:Bool}{r:PV}(hb:hp β=some ⟨e,ty,xs,fz⟩)(h:PV.sl e (xs.take n)=r)(hB:b9 β=false:=by decide):xD (· =r) (aK hp (.ms β n)):=by rw[Ok hp β n e ty xs fz hb hB];exact Qd h (by rw[<-h];rfl)
theorem Ha{e by_ ty ty' d β γ n:Nat}{xs:List PV}{y:PV}{fz:Bool}(hb:hp β=some ⟨e,ty,xs,false⟩)(hy:hp γ=some ⟨e,ty',[y],fz⟩)(h0:0<e)(hn:n=xs.length)(h1:(n+1)*by_<=140737488355328)(h2:n+1<=9223372036854775807)(hB:b9 β=false:=by decide):
  iH e by_ ty (.ms β n) (.ms γ 1) d fr hp K=K (af (cI β fr) d (.ms β (n+1))) (Qy hp β ⟨e,ty,xs++[y],false⟩):=by
 subst hn;rw[Gt (ys:=[y]) (xs:=xs) (by simp[jt,hy]) hb h0 (Kac _) (by simpa using h1) (by simpa using h2) hB];simp
theorem QX(n:Nat):IntKind.u16.wrap (n:Int)=((n%65536:Nat):Int):=by simp only[IntKind.wrap,IntKind.bits,IntKind.signed];simp
theorem Fx{bt:Bool}{k k':IntKind}{x y:Int}{d:Nat}(h:0<=y):ck .shr bt (.int k x) (.int k' y) d fr hp K=K (af fr d (.int k (x.fdiv (2^(min y.toNat k.bits))))) hp:=by simp[ck,h]
theorem SJ{bt:Bool}{k':IntKind}{n d:Nat}:ck .shr bt (.int .u64 (n:Int)) (.int k' 16) d fr hp K=K (af fr d (.int .u64 ((n/65536:Nat):Int))) hp:=by
 rw[Fx (by omega)];have:min (16:Int).toNat IntKind.u64.bits=16:=by decide
 rw[this,KcO _ (by omega)];simp
theorem Q9z{bt:Bool}{k':IntKind}{n d:Nat}:ck .shr bt (.int .u32 (n:Int)) (.int k' 16) d fr hp K=K (af fr d (.int .u32 ((n/65536:Nat):Int))) hp:=by
 rw[Fx (by omega)];have:min (16:Int).toNat IntKind.u32.bits=16:=by decide
 rw[this,KcO _ (by omega)];simp
end Go.FW
namespace Go.FW
def val:List Nat->Nat
 | []=>0
 |x::xs=>x+65536*val xs
def Qq(l:List Nat):Prop:=∀x∈l,x<65536
def ah(n:Nat):List Nat:=if h:n=0 then []else n%65536::ah (n/65536)
termination_by n
decreasing_by omega
def nl(n:Nat):Nat:=(ah n).length
theorem nt:Qq []:=by simp[Qq]
theorem gX{x:Nat}{l:List Nat}:Qq (x::l)↔x<65536/\Qq l:=by simp[Qq]
theorem nh{l m:List Nat}:Qq (l++m)↔Qq l/\Qq m:=by
 simp only[Qq,KaU];constructor
 ·intro h;exact⟨fun x hx=>h x (.inl hx),fun x hx=>h x (.inr hx)⟩
 ·rintro⟨h1,h2⟩ x (hx|hx)
  ·exact h1 x hx
  ·exact h2 x hx
theorem wF{l:List Nat}(h:Qq l)(n:Nat):Qq (l.take n):=fun x hx=>h x (Kbb hx)
theorem yR{l:List Nat}(h:Qq l)(n:Nat):Qq (l.drop n):=fun x hx=>h x (Kbv hx)
theorem et{l:List Nat}(h:Qq l){i:Nat}(hi:i<l.length):l[i]<65536:=h _ (Kah hi)
theorem fC:ah 0=[]:=by rw[ah];simp
theorem s6{n:Nat}(h:n≠0):ah n=n%65536::ah (n/65536):=by rw[ah];simp[h]
theorem Qp(n:Nat):Qq (ah n):=by
 induction n using ah.induct with
 |case1=>rw[fC];exact nt
 |case2 n h ih=>rw[s6 h,gX];exact⟨by omega,ih⟩
theorem Q6(n:Nat):val (ah n)=n:=by
 induction n using ah.induct with
 |case1=>rw[fC];rfl
 |case2 n h ih=>rw[s6 h,val,ih];omega
theorem j9{n:Nat}:ah n=[]↔n=0:=by
 constructor
 ·intro h;have:=Q6 n;rw[h]at this;exact this.symm
 ·rintro rfl;exact fC
theorem w8:nl 0=0:=by simp[nl,fC]
theorem wG{n:Nat}:nl n=0↔n=0:=by rw[nl,Kar,j9]
theorem ahc{n:Nat}(h:n≠0):nl n=nl (n/65536)+1:=by simp[nl,s6 h]
theorem mu(l m:List Nat):val (l++m)=val l+65536^l.length*val m:=by
 induction l with
 |nil=>simp[val]
 |cons x l ih=>simp only[KaR,val,ih,KaX,Kbz];rw[Ka2,<-Nat.mul_assoc,KaS 65536 (65536^_)];omega
theorem ou{l:List Nat}(h:Qq l):val l<65536^l.length:=by
 induction l with
 |nil=>simp[val]
 |cons x l ih=>rw[gX]at h;have:=ih h.2;simp only[val,KaX,Kbz];omega
theorem SK(n:Nat):val (List.replicate n 0)=0:=by
 induction n with
 |zero=>rfl
 |succ n ih=>simp[KbE,val,ih]
theorem zF{l:List Nat}(h:Qq l)(hl:l.getLast? ≠some 0):ah (val l)=l:=by
 induction l with
 |nil=>simp[val,fC]
 | cons x l ih=>
  rw[gX]at h;have Vd:l.getLast? ≠some 0:=by intro hh;apply hl;rw[KcF,hh];rfl
  have aP:val (x::l)≠0:=by
   simp only[val];intro h0;have h1:val l=0:=by omega
   have:=ih h.2 Vd;rw[h1,fC]at this;subst this;simp at hl;omega
  rw[s6 aP];simp only[val];rw[show(x+65536*val l)%65536=x by omega,show(x+65536*val l)/65536=val l by omega,ih h.2 Vd]
theorem zq(n:Nat):(ah n).getLast? ≠some 0:=by
 induction n using ah.induct with
 |case1=>simp[fC]
 | case2 n h ih=>
  rw[s6 h,KcF];cases hd:(ah (n/65536)).getLast? with
  |none=>
   have:n/65536=0:=by rw[List.getLast?_eq_none_iff,j9]at hd;exact hd
   simp;omega
  |some y=>rw[hd]at ih;simpa using ih
def cut(l:List Nat):Nat->List Nat
 |0=>[]
 |n+1=>if l[n]? =some 0 then cut l n else l.take (n+1)
theorem Pg{l:List Nat}(h:Qq l):∀n,n<=l.length->cut l n=ah (val (l.take n))
 |0,_=>by simp[cut,val,fC]
 | n+1,hn=>by
  have e:l.take (n+1)=l.take n++[l[n]]:=by rw[Kag (by omega)]
  unfold cut;split
  ·rename_i hz;rw[Pg h n (by omega),e,mu];rw[Kam (by omega)]at hz;have sv:l[n]=0:=by simpa using hz
   simp[val,sv]
  ·rename_i hz;rw[zF (wF h _)];rw[e,List.getLast?_concat];intro h0;apply hz;rw[Kam (by omega)];exact h0
theorem zG{l:List Nat}(h:Qq l):cut l l.length=ah (val l):=by rw[Pg h _ (Kac _),Kas]
theorem cj{l:List Nat}(h:Qq l):nl (val l)<=l.length:=by
 rw[nl,<-zG h];have:∀n,(cut l n).length<=n:=by
  intro n;induction n with
  |zero=>simp[cut]
  |succ n ih=>
   unfold cut;split
   ·omega
   ·simp;omega
 have h1:=this l.length;exact h1
theorem mD{n k:Nat}:nl n<=k↔n<65536^k:=by
 induction k generalizing n with
 |zero=>simp[wG]
 | succ k ih=>
  by_cases h:n=0
  ·subst h;simp[w8];exact KbN (by omega)
  ·rw[ahc h,Nat.add_le_add_iff_right,ih,Kbz,Kbm (by omega)]
theorem fE{m n:Nat}(h:m<=n):nl m<=nl n:=mD.2 (KcE h (mD.1 (Kac _)))
theorem uY(m n:Nat):nl (m+n)<=max (nl m) (nl n)+1:=by rw[mD,Kbz];have h1:m<65536^(max (nl m) (nl n)):=mD.1 (by omega);have h2:n<65536^(max (nl m) (nl n)):=mD.1 (by omega);omega
theorem gJ(m n:Nat):nl (m*n)<=nl m+nl n:=by rw[mD,Nat.pow_add];exact Nat.mul_lt_mul'' (mD.1 (Kac _)) (mD.1 (Kac _))
theorem rA{n:Nat}(h:n<18446744073709551616):nl n<=4:=mD.2 (by simpa using h)
theorem CS{n:Nat}:nl n<=4↔n<18446744073709551616:=by rw[mD]
theorem rC:ah 1=[1]:=by rw[s6 (by omega)];simp[fC]
open Go
variable {C : Ctx} {ρ : Nat -> Option Nat} {fr : Fr} {hp : HP} {w : World} {K R : Qg}
abbrev cm(l:List Nat):List PV:=l.map fun(x:Nat)=>.int .u16 x
abbrev iI(l:List Int):List PV:=l.map fun(x:Int)=>.int .i64 x
theorem ahd(a b:Nat):(a:Int)+(b:Int)=((a+b:Nat):Int):=rfl
theorem aeg(a:Nat):(a:Int)+1=((a+1:Nat):Int):=rfl
theorem aeh(a:Nat):(a:Int)+2=((a+2:Nat):Int):=rfl
theorem aei(a:Nat):(a:Int)+3=((a+3:Nat):Int):=rfl
theorem ahe(a b:Nat):(a:Int)*(b:Int)=((a*b:Nat):Int):=rfl
theorem aej{α:Type}{f:α->PV}{e d:Nat}{k:IntKind}{i:Nat}{xs:List α}(h:i<xs.length):
  dG e (.sl e (xs.map f)) (.int k (i:Int)) d fr hp K=K (af fr d (.pt (f (xs[i]'h)).cells)) hp:=by
 rw[w7 (by omega) (by omega)];rfl
theorem aek{e d β o n i:Nat}{k:IntKind}(h:i<n)(he:(hp β).map (·.e)=some e):dG e (.ax β o n) (.int k (i:Int)) d fr hp K=K (af fr d (.mp β (o+i) 0)) hp:=by rw[DL (by omega) (by omega) he];rfl
theorem ahf{α:Type}{f:α->PV}{e d:Nat}{xs:List α}{k:IntKind}{n:Nat}(h5:n<=xs.length):
  iA e (.sl e (xs.map f)) none (some (.int k (n:Int))) none d fr hp K=K (af fr d (.sl e ((xs.take n).map f))) hp:=by
 rw[GR (by omega) (by omega)];rfl
theorem ahg{α:Type}{f:α->PV}{e d:Nat}{xs:List α}{k:IntKind}{n:Nat}(h5:n<=xs.length):
  iA e (.sl e (xs.map f)) (some (.int k (n:Int))) none none d fr hp K=K (af fr d (.sl e ((xs.drop n).map f))) hp:=by
 rw[Q9q (by omega) (by omega)];rfl
theorem acq{α:Type}{f:α->PV}{e d:Nat}{xs:List α}{k k':IntKind}{m n:Nat}(h4:m<=n)(h5:n<=xs.length):
  iA e (.sl e (xs.map f)) (some (.int k (m:Int))) (some (.int k' (n:Int))) none d fr hp K=K (af fr d (.sl e (((xs.take n).drop m).map f))) hp:=by
 rw[XR (by omega) (by omega) (by omega)];rfl
theorem ahh{by_ ty d:Nat}{k k':IntKind}{n c:Nat}(h2:n<=c)(h3:by_*c<=281474976710656)(h4:c<=9223372036854775807):
  m8 1 by_ ty (.int .u16 0) (.int k (n:Int)) (.int k' (c:Int)) d fr hp K=K (af (cI d fr) d (.ms d n)) (Qy hp d ⟨1,ty,cm (List.replicate n 0),false⟩):=by
 rw[Pp (by omega) (by omega) (by omega) (by omega)];simp[cm]
theorem ahi{ty i d:Nat}{fz:Bool}{l:List Nat}(h:i<l.length):jY (some ⟨1,ty,cm l,fz⟩) 1 false i 0 d fr hp K=K (af fr d (.int .u16 (l[i]'h:Nat))) hp:=by rw[s8 (by simpa using h) (by omega) (by simp)];simp[eE,PV.cells]
theorem ahj{ty i d:Nat}{fz:Bool}{l:List Int}(h:i<l.length):jY (some ⟨1,ty,iI l,fz⟩) 1 false i 0 d fr hp K=K (af fr d (.int .i64 (l[i]'h))) hp:=by rw[s8 (by simpa using h) (by omega) (by simp)];simp[eE,PV.cells]
theorem Ph{ty β i v:Nat}{l:List Nat}(h:i<l.length):stM (some ⟨1,ty,cm l,false⟩) β 1 i 0 (.int .u16 (v:Int)) fr hp K=K fr (Qy hp β ⟨1,ty,cm (l.set i v),false⟩):=by rw[Pq (by simpa using h)];simp[cm,Kc8]
theorem Pj{ty β i:Nat}{v:Int}{l:List Int}(h:i<l.length):stM (some ⟨1,ty,iI l,false⟩) β 1 i 0 (.int .i64 v) fr hp K=K fr (Qy hp β ⟨1,ty,iI (l.set i v),false⟩):=by rw[Pq (by simpa using h)];simp[iI,Kc8]
theorem acr{β n ty:Nat}{l:List Nat}{fz:Bool}(h:hp β=some ⟨1,ty,cm l,fz⟩)(hn:n=l.length)(hB:b9 β=false:=by decide):aK hp (.ms β n)= .sl 1 (cm l):=by rw[Ok hp β n _ _ _ _ h hB,Kae (by simp[hn])]
theorem uK{P:Program}(hP:C.P=P){g:FuncId}{first cap args c8:List PV}{pr:Bool}{d:Option Nat}{r:PV}(h:Qc P g c8 (· =r))(dM:(first++args++cap).map (aK hp)=c8)(iO:c8.all PV.aD=true)
  (hK:∀an,K (qt fr d r) an):mC C pr (.fn g first cap) args d fr hp K:=iE hP h dM iO (hK _)
end Go.FW
namespace Go.FW
def gM(x y:Nat):Int:=if x<y then -1 else if y<x then 1 else 0
theorem HI{x y:Nat}(h:x<y):gM x y= -1:=by simp[gM,h]
theorem HJ{x y:Nat}(h:y<x):gM x y=1:=by simp[gM,h];omega
theorem Ol{x y:Nat}(h:x=y):gM x y=0:=by simp[gM,h]
theorem NA{x y:Nat}(h:nl x<nl y):x<y:=by
 rcases Kc6 x y with h1|h1
 ·exact h1
 ·have:=fE h1;omega
theorem oX(l:List Nat)(k:Nat)(hk:k<=l.length):val l=val (l.take k)+65536^k*val (l.drop k):=by have:=mu (l.take k) (l.drop k);rw[Kbn,KaF,KbX hk]at this;exact this
theorem sH{l:List Nat}(h:Qq l)(k:Nat)(hk:k<=l.length):val (l.take k)<65536^k:=by
 have:=ou (wF h k)
 rwa[KaF,KbX hk]at this
theorem lD{l:List Nat}{k:Nat}(hk:k<l.length):val (l.drop k)=l[k]+65536*val (l.drop (k+1)):=by rw[Kaz hk,val]
theorem XS{a b:List Nat}(ha:Qq a){k:Nat}(EF:k<=a.length)(AO:k<=b.length)(h:val (a.drop k)<val (b.drop k)):val a<val b:=by rw[oX a k EF,oX b k AO];have h1:=sH ha k EF;have h2:65536^k*(val (a.drop k)+1)<=65536^k*val (b.drop k):=Ka7 _ h;rw[Ka2]at h2;omega
theorem SL{a b:List Nat}(ha:Qq a){k:Nat}(EF:k<a.length)(AO:k<b.length)(h:a[k]<b[k])(he:val (a.drop (k+1))=val (b.drop (k+1))):val a<val b:=by refine XS ha (k:=k) (by omega) (by omega) ?_;rw[lD EF,lD AO,he];omega
def jc:List Nat->List Nat->Nat->List Nat
 | [],_,c=>if c=0 then []else [c]
 |x::xs,ys,c=>(c+x+ys.headD 0)%65536::jc xs ys.tail ((c+x+ys.headD 0)/65536)
theorem y6(l:List Nat):val l=l.headD 0+65536*val l.tail:=by cases l<;>simp[val]
theorem NB:∀(a b:List Nat)(c:Nat),b.length<=a.length->val (jc a b c)=val a+val b+c
 | [],b,c,h=>by have:b=[]:=Kar.1 (by simpa using h);subst this;unfold jc;split<;>simp[val];omega
 |x::xs,b,c,h=>by rw[jc,val,NB xs b.tail _ (by simp at h ⊢;omega),val,y6 b];omega
theorem R7:∀(a b:List Nat)(c:Nat),c<65536->Qq a->Qq b->b.length<=a.length->Qq (jc a b c)
 | [],b,c,hc,_,_,_=>by unfold jc;split<;>simp[Qq];exact hc
 |x::xs,b,c,hc,ha,hb,h=>by
  rw[gX]at ha;have mS:b.headD 0<65536:=by cases b with|nil=>simp|cons y ys=>exact hb _ (by simp)
  rw[jc,gX];exact⟨by omega,R7 xs b.tail _ (by omega) ha.2 (fun x hx=>hb x (List.mem_of_mem_tail hx)) (by simp at h ⊢;omega)⟩
theorem SM:∀(a b:List Nat)(c:Nat),a.getLast? ≠some 0->(jc a b c).getLast? ≠some 0
 | [],b,c,_=>by unfold jc;split<;>simp;assumption
 | x::xs,b,c,h=>by
  rw[jc,KcF];cases xs with
  |nil=>
   simp only[List.getLast?_singleton,ne_eq,KaB]at h;simp only[jc];generalize b.headD 0=y;split
   ·rename_i h0;simp;omega
   ·rename_i h0;simp;omega
  |cons y ys=>
   have ih:=SM (y::ys) b.tail ((c+x+b.headD 0)/65536) (by rw[KcF]at h;simpa[KcF]using h);cases hl:(jc (y::ys) b.tail ((c+x+b.headD 0)/65536)).getLast? with
   |none=>rw[List.getLast?_eq_none_iff]at hl;simp[jc]at hl
   |some z=>rw[hl]at ih;simpa using ih
theorem acs{x y:Nat}(h:nl y<=nl x):jc (ah x) (ah y) 0=ah (x+y):=by have h1:=NB (ah x) (ah y) 0 h;rw[Q6,Q6,KaT]at h1;rw[<-h1,zF (R7 _ _ _ (by omega) (Qp x) (Qp y) h) (SM _ _ _ (zq x))]
def lI:List Nat->List Nat->Nat->List Nat
 | [],_,_=>[]
 |x::xs,ys,c=>(x+65536-c-ys.headD 0)%65536::lI xs ys.tail (if x<c+ys.headD 0 then 1 else 0)
theorem R8:∀(a b:List Nat)(c:Nat),Qq (lI a b c)
 | [],_,_=>nt
 |x::xs,b,c=>by rw[lI,gX];exact⟨by omega,R8 xs _ _⟩
theorem Rm:∀(a b:List Nat)(c:Nat),(lI a b c).length=a.length
 | [],_,_=>rfl
 |x::xs,b,c=>by simp[lI,Rm xs]
theorem NC:∀(a b:List Nat)(c:Nat),c<=1->Qq a->Qq b->b.length<=a.length->val b+c<=val a->val (lI a b c)+val b+c=val a
 | [],b,c,_,_,_,h,h2=>by have:b=[]:=Kar.1 (by simpa using h);subst this;simp[val]at h2 ⊢;simp[lI,val,h2]
 |x::xs,b,c,hc,ha,hb,h,h2=>by
  rw[gX]at ha;have mS:b.headD 0<65536:=by cases b with|nil=>simp|cons y ys=>exact hb _ (by simp)
  rw[val,y6 b]at h2;rw[lI,val,val,y6 b];have ih:=NC xs b.tail (if x<c+b.headD 0 then 1 else 0) (by split<;>omega) ha.2 (fun x hx=>hb x (List.mem_of_mem_tail hx)) (by simp at h ⊢;omega) (by generalize b.headD 0=y at *;split<;>omega);generalize b.headD 0=y at *
  split at ih
  ·rename_i h0;rw[if_pos h0];omega
  ·rename_i h0;rw[if_neg h0];omega
theorem zr{done:List Nat}{i n v:Nat}(h:done.length=i)(hn:0<n):(done++List.replicate n 0).set i v=(done++[v])++List.replicate (n-1) 0:=by
 subst h;obtain⟨n,rfl⟩:∃k,n=k+1:=⟨n-1,by omega⟩
 simp[KbE]
theorem Hb{done:List Nat}{i n m:Nat}(h:done.length=i)(hn:i+n=m):(done++List.replicate n 0).length=m:=by simp[h,hn]
theorem Z'{a b:List Nat}{i c:Nat}(h:i<a.length):jc (a.drop i) (b.drop i) c=(c+a[i]+b.getD i 0)%65536::jc (a.drop (i+1)) (b.drop (i+1)) ((c+a[i]+b.getD i 0)/65536):=by rw[Kaz h,jc];simp[KbD,Kcu,Kao]
theorem Q94{a b:List Nat}{i c:Nat}(h:i<a.length):lI (a.drop i) (b.drop i) c=(a[i]+65536-c-b.getD i 0)%65536::lI (a.drop (i+1)) (b.drop (i+1)) (if a[i]<c+b.getD i 0 then 1 else 0):=by rw[Kaz h,lI];simp[KbD,Kcu,Kao]
theorem gm{b:List Nat}{i:Nat}(h:i<b.length):b.getD i 0=b[i]:=by simp[Kao,h]
theorem gq{b:List Nat}{i:Nat}(h:¬i<b.length):b.getD i 0=0:=by simp[Kao,h]
open Go
variable {C : Ctx} {ρ : Nat -> Option Nat} {fr : Fr} {hp : HP} {w : World} {K K' R : Qg}
theorem Hc(h:∀fr hp,K fr hp->K' fr hp)(o:cx):bo C o fr hp K->bo C o fr hp K':=by
 cases o with
 | call d pr f args=>
  simp only[bo,mC];split
  ·rintro⟨h1,h2⟩;refine⟨h1,fun ρ tmps w fv cv av a1 a2 a3 a4 a5 a6 a7 a8=>(h2 ρ tmps w fv cv av a1 a2 a3 a4 a5 a6 a7 a8).mono ?_⟩;rintro e w' ⟨v,ay,an,e1,e2,e3,e4⟩;exact⟨v,ay,an,e1,e2,e3,h _ _ e4⟩
  ·exact id
 |bs d e ty ps=>
  simp only[bo,nM];split
  ·exact fun H=>⟨H.1,h _ _ H.2⟩
  ·exact fun H=>⟨H.1,H.2.1,h _ _ H.2.2⟩
 | app d e by_ ty s x=>
  simp only[bo,iH];intro H;revert H;split
  ·unfold xy;split
   ·split
    ·rintro⟨a1,a2,a3,H⟩;refine⟨a1,a2,a3,?_⟩;revert H;split
     ·exact fun H=>⟨H.1,h _ _ H.2⟩
     ·split
      ·exact fun H=>⟨H.1,H.2.1,h _ _ H.2.2⟩
      ·exact id
     ·exact id
    ·exact id
   ·exact id
  ·rintro⟨h0,h1,H⟩;refine⟨h0,h1,?_⟩;revert H;split
   ·rintro⟨a,b,c⟩;exact⟨a,b,h _ _ c⟩
   ·split
    ·rintro(⟨a1,a2,a3,a4,a5,a6,a7,c⟩|⟨a1,a2,a3,c⟩)
     ·exact .inl ⟨a1,a2,a3,a4,a5,a6,a7,h _ _ c⟩
     ·exact .inr ⟨a1,a2,a3,h _ _ c⟩
    ·exact id
   ·exact id
 |bin d op bt x y=>
  simp only[bo,ck];intro H;revert H;split
  ·split<;>first|exact fun H=>⟨H.1,H.2.1,h _ _ H.2.2⟩|exact fun H=>⟨H.1,h _ _ H.2⟩|exact id
  ·split<;>first|exact fun H=>⟨H.1,h _ _ H.2⟩|exact id
  ·exact id
 | _=>
  simp only[bo,qu,qv,vh,tp,rI,uo,u9,ox,we,wc,dG,qn,xx,qw,qo,kE,oQ,fR,tq,m8,nM,iH,tt,iA,ki,kn,z8,z9]
  try (intro H;revert H)
  try (repeat' split)
  all_goals first
   |exact id
   |exact h _ _
   |grind
theorem R9(h:∀fr hp,K fr hp->K' fr hp)(o:cx):ju o fr hp K->ju o fr hp K':=by unfold ju;split<;>exact h _ _
theorem Q95(h:∀fr hp,K fr hp->K' fr hp)(g:Option (Nat×Bool))(o:cx):oz C g o fr hp K->oz C g o fr hp K':=by
 unfold oz;split
 ·exact Hc h o
 ·split
  ·exact fun H=>⟨fun e=>Hc h o (H.1 e),fun e=>R9 h o (H.2 e)⟩
  ·exact R9 h o
  ·exact id
theorem Pk{sk:List It}{g:Option (Nat×Bool)}{o:cx}{r:RT}:vc C R (.o (.o g o r)::sk) fr hp=oz C g o fr hp (fun fr hp=>vc C R (.o r::sk) fr hp):=by rw[vc]
theorem Pm{sk:List It}{x y:RT}:vc C R (.o (.br x y)::sk) fr hp=(vc C R (.o x::sk) fr hp/\vc C R (.o y::sk) fr hp):=by rw[vc]
theorem yS{id:Nat}{M:Qg}{sk:List It}:∀(pre:List It),(∃p,FW.ct id (pre++ .el M::sk)=some (p++ .el M::sk)/\FW.ct id (pre++sk)=some (p++sk)/\bW p<=bW pre)∨FW.ct id (pre++ .el M::sk)=FW.ct id (pre++sk)
 | []=>.inr rfl
 |.c s::pre=>by
  rcases yS (id:=id) (M:=M) (sk:=sk) pre with⟨p,h1,h2,h3⟩|h
  ·exact .inl ⟨p,h1,h2,by simp only[bW];omega⟩
  ·exact .inr h
 |.o s::pre=>by
  rcases yS (id:=id) (M:=M) (sk:=sk) pre with⟨p,h1,h2,h3⟩|h
  ·exact .inl ⟨p,h1,h2,by simp only[bW];omega⟩
  ·exact .inr h
 |.el s::pre=>by
  rcases yS (id:=id) (M:=M) (sk:=sk) pre with⟨p,h1,h2,h3⟩|h
  ·exact .inl ⟨p,h1,h2,by simp only[bW];omega⟩
  ·exact .inr h
 |.eb i::pre=>by
  by_cases hi:i=id
  ·exact .inl ⟨pre,by simp[FW.ct,hi],by simp[FW.ct,hi],by simp only[bW];omega⟩
  ·rcases yS (id:=id) (M:=M) (sk:=sk) pre with⟨p,h1,h2,h3⟩|h
   ·exact .inl ⟨p,by simp[FW.ct,hi,h1],by simp[FW.ct,hi,h2],by simp only[bW];omega⟩
   ·exact .inr (by simp[FW.ct,hi,h])
theorem zH{M:Qg}{sk:List It}(hM:∀fr hp,M fr hp->vc C R sk fr hp):∀(n:Nat)(pre:List It)(fr:Fr)(hp:HP),bW pre<=n->vc C R (pre++ .el M::sk) fr hp->vc C R (pre++sk) fr hp:=by
 intro n;induction n with
 | zero=>
  intro pre fr hp hn h;cases pre with
  |nil=>simp only[KaN,vb]at h ⊢;exact hM _ _ h
  |cons i pre=>
   exfalso;have:=SC.yz;cases i<;>simp only[bW,It.sz]at hn
   ·rename_i s;have:=SC.yz s;omega
   ·rename_i s;have:=RT.yz s;omega
   ·omega
   ·omega
 | succ n ih=>
  intro pre fr hp hn h;cases pre with
  |nil=>simp only[KaN,vb]at h ⊢;exact hM _ _ h
  | cons i pre=>
   cases i with
   |eb i=>simp only[KaR,BL]at h⊢;exact ih _ _ _ (by simp only[bW,It.sz]at hn;omega) h
   |el J=>simp only[KaR,vb]at h ⊢;exact h
   | o r=>
    cases r with
    |nil=>simp only[KaR,zX]at h⊢;exact ih _ _ _ (by simp only[bW,It.sz,RT.sz]at hn;omega) h
    |o g o r=>simp only[KaR,Pk]at h⊢;refine Q95 (fun fr hp h=>?_) g o h;exact ih (.o r::pre) _ _ (by simp only[bW,It.sz,RT.sz]at hn ⊢;omega) h
    |wk r=>simp only[KaR,DH]at h⊢;obtain⟨bE,aE,hw,h⟩:=h;exact⟨bE,aE,hw,ih (.o r::pre) _ _ (by simp only[bW,It.sz,RT.sz]at hn ⊢;omega) h⟩
    |br x y=>simp only[KaR,Pm]at h⊢;exact⟨ih (.o x::pre) _ _ (by simp only[bW,It.sz,RT.sz]at hn ⊢;omega) h.1,ih (.o y::pre) _ _ (by simp only[bW,It.sz,RT.sz]at hn ⊢;omega) h.2⟩
   | c s=>
    cases s with
    |skip=>simp only[KaR,Dt]at h⊢;exact ih _ _ _ (by simp only[bW,It.sz,SC.sz]at hn;omega) h
    |rg r=>simp only[KaR,FE]at h⊢;exact ih (.o r::pre) _ _ (by simp only[bW,It.sz,SC.sz]at hn ⊢;omega) h
    |raw id ops=>simp only[KaR]at h⊢;rw[vc]at h⊢;intro tmps w Q hs hQ;refine h tmps w Q hs fun ay an BG w' dY hv=>hQ ay an BG w' dY ?_;exact ih _ _ _ (by simp only[bW,It.sz,SC.sz]at hn;omega) hv
    |seq a b=>simp only[KaR,DI]at h⊢;exact ih (.c a:: .c b::pre) _ _ (by simp only[bW,It.sz,SC.sz]at hn ⊢;omega) h
    |block id a=>simp only[KaR,C2]at h⊢;exact ih (.c a:: .eb id::pre) _ _ (by simp only[bW,It.sz,SC.sz]at hn ⊢;omega) h
    |ret=>simp only[KaR,DJ]at h ⊢;exact h
    |cond c x y=>
     simp only[KaR,Du]at h⊢;unfold tk at h⊢;split at h
     ·exact⟨fun e=>ih (.c x::pre) _ _ (by simp only[bW,It.sz,SC.sz]at hn ⊢;omega) (h.1 e),fun e=>ih (.c y::pre) _ _ (by simp only[bW,It.sz,SC.sz]at hn ⊢;omega) (h.2 e)⟩
     ·exact h
    | exit id=>
     simp only[KaR,Dv]at h⊢;rcases yS (id:=id) (M:=M) (sk:=sk) pre with⟨p,h1,h2,h3⟩|he
     ·rw[h1]at h;rw[h2];simp only[vd]at h⊢;exact ih _ _ _ (by simp only[bW,It.sz,SC.sz]at hn;omega) h
     ·rw[he]at h;exact h
    |loop a=>simp only[KaR,uI]at h⊢;obtain⟨I,μ,h1,h2⟩:=h;refine⟨I,μ,h1,fun fr hp hI=>?_⟩;exact ih (.c a:: .el _::pre) _ _ (by simp only[bW,It.sz,SC.sz]at hn ⊢;omega) (h2 fr hp hI)
theorem y7{c:PV}{x y:SC}{sk:List It}(M:Qg)(h:o7 C R c x y (.el M::sk) fr hp)(hM:∀fr hp,M fr hp->vc C R sk fr hp):o7 C R c x y sk fr hp:=by
 unfold o7 tk at h⊢;split at h
 ·exact⟨fun e=>zH hM _ [.c x] _ _ (Kac _) (h.1 e),fun e=>zH hM _ [.c y] _ _ (Kac _) (h.2 e)⟩
 ·exact h
end Go.FW
namespace Go.FW
open Go
variable {C : Ctx} {ρ : Nat -> Option Nat} {fr : Fr} {hp : HP} {w : World} {K K' R : Qg}
def BN(R:PV->Prop)(p q:PV):Prop:=(p.aD=true/\q.aD=true)/\∃r,PV.yo (.au [p,q]) r/\R r
def FC(R:PV->Prop)(p q s:PV):Prop:=(p.aD=true/\q.aD=true/\s.aD=true)/\∃r,PV.yo (.au [p,q,s]) r/\R r
def P2(R:PV->Prop):Prop:=∃r,PV.yo (.au []) r/\R r
theorem agN{a b:Nat}{Rr:PV->Prop}:fS [.t a,.t b] Rr fr hp=BN Rr (aK hp (fr a)) (aK hp (fr b)):=by simp[fS,BN,jZ,jD]
theorem agO{a b c:Nat}{Rr:PV->Prop}:fS [.t a,.t b,.t c] Rr fr hp=FC Rr (aK hp (fr a)) (aK hp (fr b)) (aK hp (fr c)):=by simp[fS,FC,jZ,jD]
theorem agP{Rr:PV->Prop}:fS [] Rr fr hp=P2 Rr:=by simp[fS,P2]
theorem fb{p q p' q' r:PV}(h:r= .au [p',q'])(d1:p.aD=true)(d2:q.aD=true)(h1:PV.le p p')(h2:PV.le q q'):BN (· =r) p q:=⟨⟨d1,d2⟩,r,by subst h;exact⟨h1,h2,trivial⟩,rfl⟩
theorem tu{p q s p' q' s' r:PV}(h:r= .au [p',q',s'])(d1:p.aD=true)(d2:q.aD=true)(d3:s.aD=true)(h1:PV.le p p')(h2:PV.le q q')(h3:PV.le s s'):FC (· =r) p q s:=⟨⟨d1,d2,d3⟩,r,by subst h;exact⟨h1,h2,h3,trivial⟩,rfl⟩
theorem sV{p q:PV}(h:p=q):PV.le p q:=h▸Qw p
theorem zs{β n ty:Nat}{l:List Nat}{fz:Bool}(h:hp β=some ⟨1,ty,cm l,fz⟩)(hn:n=l.length)(hB:b9 β=false:=by decide):(([]:List PV)++[PV.ms β n]++([]:List PV)).map (aK hp)=[.sl 1 (cm l)]:=by simp[acr h hn hB]
theorem oW{n:Nat}(h:(ah n).length=0):ah n=[]:=Kar.1 h
abbrev PV.nat(l:List Nat):PV:=.sl 1 (cm l)
abbrev PV.num(n:Nat):PV:=PV.nat (ah n)
theorem wS:PV.le .aa (PV.num 0):=by rw[PV.num,fC];trivial
theorem zI{n:Nat}(h:n=0):PV.le .aa (PV.num n):=by subst h;exact wS
end Go.FW
namespace Go.FW
def jL:List Nat->List Nat->Nat->Nat->List Nat
 |r::rs,y::ys,x,c=>(c+(r+x*y))%65536::jL rs ys x ((c+(r+x*y))/65536)
 |_,_,_,c=>[c]
theorem ND:∀(r b:List Nat)(x c:Nat),r.length=b.length->val (jL r b x c)=val r+x*val b+c
 | [],[],x,c,_=>by simp[jL,val]
 |r::rs,y::ys,x,c,h=>by rw[jL,val,ND rs ys x _ (by simpa using h),val,val,Ka2 x,Kbx x 65536];generalize x*y=p;generalize x*val ys=q;omega
 | [],_::_,_,_,h=>by simp at h
 |_::_,[],_,_,h=>by simp at h
theorem sQ{x y:Nat}(hx:x<65536)(hy:y<65536):x*y<=4294836225:=by have:=KaM (show x<=65535 by omega) (show y<=65535 by omega);omega
theorem Sa:∀(r b:List Nat)(x c:Nat),c<65536->x<65536->Qq r->Qq b->Qq (jL r b x c)
 |r::rs,y::ys,x,c,hc,hx,hr,hb=>by rw[gX]at hr hb;have:=sQ hx hb.1;rw[jL,gX];exact⟨by omega,Sa rs ys x _ (by omega) hx hr.2 hb.2⟩
 | [],_,x,c,hc,_,_,_=>by simp[jL,Qq];exact hc
 |_::_,[],x,c,hc,_,_,_=>by simp[jL,Qq];exact hc
theorem Rn:∀(r b:List Nat)(x c:Nat),r.length=b.length->(jL r b x c).length=r.length+1
 |r::rs,y::ys,x,c,h=>by simp[jL,Rn rs ys x _ (by simpa using h)]
 | [],[],x,c,_=>rfl
 | [],_::_,_,_,h=>by simp at h
 |_::_,[],_,_,h=>by simp at h
theorem Dx{p t:List Nat}{r j:Nat}(h:p.length=j)(hj:j<(p++r::t).length):(p++r::t)[j]=r:=by subst h;simp
theorem nv{p t:List Nat}{r j v:Nat}(h:p.length=j):(p++r::t).set j v=p++v::t:=by subst h;simp
theorem yH{l:List Nat}{i:Nat}(h:i<l.length):val (l.take (i+1))=val (l.take i)+65536^i*l[i]:=by rw[Kag h,mu,KaF,KbX (by omega)];simp[val]
theorem acu{a lo b:List Nat}{i:Nat}(h:i<a.length)(hl:lo.length=i+b.length)(hv:val lo=val (a.take i)*val b):
  val (lo.take i++jL (lo.drop i) b a[i] 0)=val (a.take (i+1))*val b:=by
 rw[mu,ND _ _ _ _ (by simp[hl]),yH h,KaF,KbX (by omega),KaH,<-hv,oX lo i (by omega),KaT,Ka2,Kbf];omega
open Go
variable {C : Ctx} {ρ : Nat -> Option Nat} {fr : Fr} {hp : HP} {w : World} {K K' R : Qg}
def B0:Nat:=1000000
def mI(xs:List PV):Prop:=∀x∈xs,∃k n,x= .int k n
theorem qg(l:List Nat):mI (cm l):=by intro x hx;simp only[cm,KaI]at hx;obtain⟨n,_,rfl⟩:=hx;exact⟨_,_,rfl⟩
def nH(w:World)(b:Nat)(ty:TypeId)(xs:List PV):Prop:=mI xs/\∃(cur:Array Value)(cap:Nat),w.heap[b]? =some (.cells cur ty (0,0))/\cur.size=cap*1/\xs.length<=cap/\cap<=maxLen/\
 ∀(i:Nat)(k:IntKind)(n:Int),xs[i]? =some (.int k n)->cur.getD i undef= .int k n
theorem nH.jm{b:Nat}{ty:TypeId}{xs:List PV}{fz:Bool}{X:Nat->Prop}(h:nH w b ty xs):xz w X b ⟨1,ty,xs,fz⟩:=by
 obtain⟨hi,cur,cap,h1,h2,h3,h4,h5⟩:=h;refine⟨cur,cap,h1,h2,h3,h4,fun i x hx j y hy=>?_⟩;obtain⟨k,n,rfl⟩:=hi x (Kai hx);cases j with
 |zero=>simp[PV.cells]at hy;subst hy;rw[KbF,KaT,h5 i k n hx];exact Qu.int k n
 |succ j=>simp[PV.cells]at hy
theorem nH.MN{b:Nat}{ty:TypeId}{xs:List PV}{fz:Bool}{X:Nat->Prop}(h:xz w X b ⟨1,ty,xs,fz⟩)(hi:mI xs):nH w b ty xs:=by obtain⟨cur,cap,h1,h2,h3,h4,h5⟩:=h;refine⟨hi,cur,cap,h1,h2,h3,h4,fun i k n hx=>?_⟩;have:=h5 i _ hx 0 (.int k n) rfl;simp only[KbF,KaT]at this;generalize hg:cur.getD i undef=v at this;cases this;rfl
theorem C4{xs:List PV}(h:mI xs):∀(i:Nat)(x:PV),xs[i]? =some x->x.cells.length=1/\x.aD=true:=by intro i x hx;obtain⟨k,n,rfl⟩:=h x (Kai hx);exact⟨rfl,rfl⟩
def TT(w:World)(b len:Nat)(o n:Nat)(v:Value):Prop:=o+n<=len/\∃cap,v= .slice (some ⟨b,o*1,none⟩) n cap/\dn w b 1 (o+cap)/\o+cap<=maxLen
def WH(w:World)(X:Nat->Prop)(b len:Nat)(p:PV)(v:Value):Prop:=match p with
 |.ax β o n=>β=B0/\TT w b len o n v
 |p=>aY w X p v
def TP(w:World)(X:Nat->Prop)(b len:Nat)(p:PV)(v:Value):Prop:=match p with
 |.ax β o n=>β=B0/\TT w b len o n v
 |p=>dB w X p v
def w9(P:Program)(f:FuncId)(args:List PV)(ty:TypeId)(xs:List PV)(cg:PV->List PV->Prop):Prop:=
 oA P f/\∀(w:World)(X:Nat->Prop)(b:Nat)(bl:Array Value),(∀c,X c->c<w.heap.size)->X b->bl.size=args.length->nH w b ty xs->0<xs.length->
  (∀(i:Nat)(x:PV),args[i]? =some x->WH w X b xs.length x (bl.getD i undef))->
  Calls P f bl w fun e w'=>∃v r xs',e= .returned v/\Ext (fun c=>c=b) w w'/\(∀e cap,dn w b e cap->dn w' b e cap)/\nH w' b ty xs'/\xs'.length=xs.length/\TP w' X b xs.length r v/\cg r xs'
def rJ(rs:List RV)(ty:TypeId)(len:Nat)(cg:PV->List PV->Prop):Qg:=fun fr hp=>
 ∃xs',hp B0=some ⟨1,ty,xs',false⟩/\mI xs'/\xs'.length=len/\
  (fS rs (fun r=>(∀β o n,r≠ .ax β o n)/\cg r xs') fr hp∨∃s o n,rs=[.t s]/\fr s= .ax B0 o n/\cg (.ax B0 o n) xs')
theorem CT {P : Program} {f : FuncId} {fn : Func} {sf : az} {args : List PV} {ty : TypeId} {xs : List PV} {cg : PV -> List PV -> Prop} (hm : P.follows .mixedOrders = true) (hf : P.funcs[f]? = some fn) (r8 : (fn.name != "runtime.NumGoroutine") = true) (hc : Qe P fn = some sf) (hn : args.length <= sf.n /\ sf.n <= 1000000)
  (hv:∀C:Ctx,C.P=P->vc C (rJ sf.rs ty xs.length cg) [.c sf.body] (jK args) (Qy aE B0 ⟨1,ty,xs,false⟩)):w9 P f args ty xs cg:=by
 simp only[Qe,Kab,Kaa]at hc;obtain⟨c,hb,sb,ix,rs,fj,rfl⟩:=hc;refine⟨by simp[oA,hf,hb];simpa using r8,fun w X b bl hX xT fM hI gS cK=>?_⟩;have oI:∀β c,(fun β=>if β=B0 then some b else none:Nat->Option Nat) β=some c->c<w.heap.size/\(iW β=false->¬(X c/\c≠b)):=fun β c h=>by
  simp only at h;split at h
  ·cases h;exact⟨hX b xT,fun _ h=>h.2 rfl⟩
  ·cases h
 let C:Ctx:=⟨P,fn.ntmps,w,fun c=>X c/\c≠b,fun c hc=>hX c hc.1,hn.2,fun β=>if β=B0 then some b else none,oI,bO,fun _ h=>h.elim⟩
 refine calls_of_wp hf hb ?_;have v3:(bl++Array.replicate (fn.ntmps-bl.size) undef).size=fn.ntmps:=by simp at hn ⊢;omega
 have amu:∀c,aH C (fun β=>if β=B0 then some b else none) (Qy aE B0 ⟨1,ty,xs,false⟩) c->X c:=by
  rintro c (hx|⟨β,_,h1,_,h3⟩)
  ·exact hx.1
  ·simp only at h3;split at h3
   ·cases h3;exact xT
   ·cases h3
 have pN:eT C (jK args) (Qy aE B0 ⟨1,ty,xs,false⟩) (bl++Array.replicate (fn.ntmps-bl.size) undef) w:=by
  refine⟨fun β=>if β=B0 then some b else none,v3,Ext.refl _ _,fun _ _ _ _ _ h=>h,fun β aw al=>?_,fun β γ b' h1 h2 h3 h4=>?_,fun i=>?_⟩
  ·unfold Qy at al;split at al
   ·rename_i aoD;cases al;subst aoD;refine⟨by simp,C4 hI.1,?_,(fun _=>rfl),fun h=>by cases h⟩;simp only[if_pos];exact⟨rfl,hX b xT,hI.jm⟩
   ·simp[aE]at al
  ·have:∀β,(if β=B0 then some b else none:Option Nat)=some b'->β=B0:=fun β h=>by
    split at h
    ·assumption
    ·cases h
   rw[this β h3,this γ h4]
  ·unfold jK;cases hi:args[i]? with
   |none=>trivial
   | some p=>
    simp only[KbT];have dm:i<bl.size:=by rw[fM];exact(Kad.1 hi).1
    have hr:=cK i p hi;have e:(bl++Array.replicate (fn.ntmps-bl.size) undef).getD i undef=bl.getD i undef:=by rw[kI,if_pos dm]
    rw[e];have key:aY w X p (bl.getD i undef)->Qt C (fun β=>if β=B0 then some b else none) (Qy aE B0 ⟨1,ty,xs,false⟩) w p (bl.getD i undef):=fun hr=>
     Qt.ll (hr.mono (fun _ _ _=>rfl) (fun c _ hn hx=>hn (amu c hx)) (Kac _))
    cases p with
    |ax β o n=>obtain⟨rfl,h1,cap,h2,h3,h4⟩:=hr;exact⟨⟨1,ty,xs,false⟩,by simp[Qy],h1,.inr ⟨b,cap,by simp,h2,h3,h4⟩⟩
    |_=>exact key hr
 have fin:∀(fr:Fr)(hp:HP)(a:Act)(w':World),a.defers=[]->eT C fr hp a.tmps w'->rJ rs ty xs.length cg fr hp->
   a.defers=[]/\∃v,(results fn a.tmps).run P w'= .ok v w'/\∃v' r xs',Ending.returned v= .returned v'/\Ext (fun c=>c=b) w w'/\(∀e cap,dn w b e cap->dn w' b e cap)/\nH w' b ty xs'/\xs'.length=xs.length/\TP w' X b xs.length r v'/\cg r xs':=by
  rintro fr hp a w' hd ⟨ρ,hs⟩ ⟨xs',hB,hint,hlen,hr⟩;have bk:=hs.own B0 _ hB;have a9:=bk.dS;have bz:ρ B0=some b:=by
   cases hq:ρ B0 with
   |none=>rw[hq]at a9;simp only at a9;rw[a9]at hlen;simp at hlen;omega
   |some b'=>rw[<-hq];exact bk.fix rfl
  rw[bz]at a9;have vz:nH w' b ty xs':=nH.MN a9.2.2 hint;have VU:Ext (fun c=>c=b) w w':=hs.ext.mono fun c _ hc=>by
   rcases hc with⟨β,_,hc⟩|hc
   ·have hc:(if β=B0 then some b else none:Option Nat)=some c:=hc;split at hc
    ·cases hc;rfl
    ·cases hc
   ·exact hc.elim
  have Vc:∀e cap,dn w b e cap->dn w' b e cap:=hs.gT B0 b rfl;rcases hr with hr|⟨s,o,n,rfl,nU,hp⟩
  ·obtain⟨v,r,h1,h2,h3,h4⟩:=Yi (C:=C) rfl fj hs hr (X:=X) (fun c hc=>by
    by_cases e:c=b
    ·subst e;exact .inr ⟨B0,_,rfl,hB,rfl,bz⟩
    ·exact .inl ⟨hc,e⟩)
   refine⟨hd,v,h1,v,r,xs',rfl,VU,Vc,vz,hlen,?_,h4⟩;cases r with
   |ax β o n=>exact absurd rfl (h3 β o n)
   |_=>exact h2
  ·have cH:=hs.eQ s;rw[nU]at cH;obtain⟨eU,g1,g2,g3⟩:=cH;rw[hB]at g1;cases g1;rcases g3 with⟨g3,_⟩|⟨b',cap,g3,g4,g5,g6⟩
   ·rw[bz]at g3;cases g3
   ·rw[bz]at g3;cases g3;obtain⟨x,hx⟩:∃x,fn.results.toList=[x]:=by have:=oo fj;exact List.length_eq_one_iff.1 (by rw[<-this.1];rfl)
    have lX:mq P x=some (.t s):=by rw[hx]at fj;simp only[KcR,List.mapM_nil,Kcy,KcW,Kab,KaB]at fj;obtain⟨y,h1,_,_,h2⟩:=fj;simp only[KcJ]at h2;rw[<-h2.1];exact h1
    have Mw:x= .tmp s:=by
     cases x with
     |tmp t=>simpa[mq]using lX
     |cell y t=>simp[mq,Kab]at lX
    subst Mw;have dq:(results fn a.tmps).run P w'= .ok (a.tmps.getD s undef) w':=by have e:results fn a.tmps=(do let vs<-fn.results.mapM (rM a.tmps);pure (if h:vs.size=1 then vs[0]else .tuple vs)):=rfl;rw[e,Kb6,hx];simp[Kan,rM]
    refine⟨hd,_,dq,_,.ax B0 o n,xs',rfl,VU,Vc,vz,hlen,⟨rfl,hlen▸g2,cap,g4,g5,g6⟩,hp⟩
 exact Gs (C:=C) (R:=rJ rs ty xs.length cg) hm c sb [] _ (jK args) _ _ w ix ⟨fun fr hp a w' hd hs hv=>(by rw[uX]at hv;exact fin fr hp a w' hd hs hv),fun id eF he=>(by simp[FW.ct]at he),fin⟩ rfl pN (hv C rfl)
def PV.m7:PV->Bool
 |.ax .. =>true
 |p=>p.aD
def jm(β:Nat):PV->PV
 |.ax γ o n=>if γ=β then .ax B0 o n else .undef
 |.mp _ _ _=>.undef
 |.rb _ _ _=>.undef
 |.fn _ _ _=>.undef
 |.aM _ _ _| .np _ _ _| .aT _| .eO _| .eP _ _| .aN _ _ _ _=>.undef
 |p=>p
def nB(β:Nat):PV->PV
 |.ax _ o n=>.ax β o n
 |p=>p
theorem DM{P:Program}(hP:C.P=P){g:FuncId}{args c8:List PV}{d:Option Nat}{β:Nat}{ty:TypeId}{xs:List PV}{cg:PV->List PV->Prop}(h:w9 P g c8 ty xs cg)(al:hp β=some ⟨1,ty,xs,false⟩)(hint:mI xs)(gS:0<xs.length)
  (dM:args.map (jm β)=c8) (iO:c8.all PV.m7=true)
  (hK:∀r xs',mI xs'->xs'.length=xs.length->cg r xs'->K (qt fr d (nB β r)) (Qy hp β ⟨1,ty,xs',false⟩)):mC C false (.fn g [] []) args d fr hp K:=by
 subst hP;refine⟨h.1,fun ρ tmps w fv cv av rX hs h1 h2 h3 _ _ sj=>?_⟩;have bk:=hs.own β _ al;have a9:=bk.dS;obtain⟨b,bz⟩:∃b,ρ β=some b:=by
  cases hq:ρ β with
  |none=>rw[hq]at a9;simp only at a9;rw[a9]at gS;simp at gS
  |some b=>exact⟨b,rfl⟩
 rw[bz]at a9;have xT:aH C ρ hp b:=.inr ⟨β,_,al,rfl,bz⟩;have e1:fv= #[]:=Kcw (by simpa using h1);have e2:cv= #[]:=Kcw (by simpa using h2);subst e1;subst e2;simp only[Array.empty_append,Array.append_empty];refine(h.2 w (aH C ρ hp) b av (DK hs) xT (by rw[<-dM];simp[h3]) (nH.MN a9.2.2 hint) gS (fun i x hx=>?_)).mono ?_
 ·rw [<-dM]at hx;simp only[Kaw,Kaa]at hx;obtain⟨p,an,vW⟩:=hx;have hr:=sj i p an;have jk:PV.m7 x=true:=by rw[Kax]at iO;refine iO x ?_;rw[<-dM,<-vW];exact Kcz (Kai an)
  subst vW;cases p with
  | ax γ o n=>
   simp only[jm]at jk⊢;split
   ·rename_i ak;subst ak;obtain⟨eU,g1,g2,g3⟩:=hr;rw[al]at g1;cases g1;rcases g3 with⟨g3,_⟩|⟨b',cap,g3,g4,g5,g6⟩
    ·rw[bz]at g3;cases g3
    ·rw[bz]at g3;cases g3;exact⟨rfl,g2,cap,g4,g5,g6⟩
   ·rename_i ak;rw[if_neg ak]at jk;simp[PV.m7,PV.aD]at jk
  |mp=>simp[jm,PV.m7,PV.aD]at jk
  |rb=>simp[jm,PV.m7,PV.aD]at jk
  |fn=>simp[jm,PV.m7,PV.aD]at jk
  |undef=>simp[jm,PV.m7,PV.aD]at jk
  |aM=>simp[jm,PV.m7,PV.aD]at jk
  |np=>simp[jm,PV.m7,PV.aD]at jk
  |aT=>simp[jm,PV.m7,PV.aD]at jk
  |eO=>simp[jm,PV.m7,PV.aD]at jk
  |eP=>simp[jm,PV.m7,PV.aD]at jk
  |aN=>simp[jm,PV.m7,PV.aD]at jk
  |au=>simp[jm,PV.m7,PV.aD]at jk
  |agg cs=>exact hr
  |_=>exact hr
 ·rintro e w' ⟨v,r,xs',rfl,hx,dN,vz,hlen,dq,pK⟩;have aF:=hs.store β b ⟨1,ty,xs,false⟩ ⟨1,ty,xs',false⟩ al rfl (by intro e;simp at e;rw[e]at gS;simp at gS) bz hx rfl hlen rfl (C4 vz.1) dN (vz.jm (X:=aH C ρ hp) (fz:=false) |> fun⟨cur,cap,c1,c2,c3,c4,c5⟩=>⟨cur,cap,c1,c2,c3,c4,fun i x hi j y hy=>by
   obtain⟨k,n,rfl⟩:=vz.1 x (Kai hi);have:=c5 i _ hi j y hy;cases j with
   |zero=>simp[PV.cells]at hy;subst hy;generalize hg:cur.getD (i*1+0) undef=u at this;cases this;exact Qu.int k n
   |succ j=>simp[PV.cells]at hy⟩)
  have LA:aH C ρ (Qy hp β ⟨1,ty,xs',false⟩)=aH C ρ hp:=by
   funext c;apply propext;constructor
   ·rintro(hx|⟨γ,hg,h1,h2,h3⟩)
    ·exact .inl hx
    ·by_cases ak:γ=β
     ·subst ak;exact .inr ⟨γ,_,al,rfl,h3⟩
     ·simp only[Qy,if_neg ak]at h1;exact .inr ⟨γ,hg,h1,h2,h3⟩
   ·rintro(hx|⟨γ,hg,h1,h2,h3⟩)
    ·exact .inl hx
    ·by_cases ak:γ=β
     ·subst ak;exact .inr ⟨γ,⟨1,ty,xs',false⟩,by simp[Qy],rfl,h3⟩
     ·exact .inr ⟨γ,hg,by simp[Qy,ak,h1],h2,h3⟩
  refine⟨v,_,_,rfl,⟨ρ,aF.Fk (p:=nB β r) ?_ rX⟩,by simp,hK r xs' vz.1 hlen pK⟩;cases r with
  |ax γ o n=>obtain⟨_,g1,cap,g2,g3,g4⟩:=dq;exact⟨⟨1,ty,xs',false⟩,by simp[Qy],by simp only[nB];omega,.inr ⟨b,cap,bz,g2,g3,g4⟩⟩
  |_=>exact Qt.MO (p:=_) (by rw[LA];exact dq)
end Go.FW
namespace Go.FW
open Go
variable {C : Ctx} {ρ : Nat -> Option Nat} {fr : Fr} {hp : HP} {w : World} {K K' R : Qg}
def zJ(P:Program)(f:FuncId)(args:List PV)(ty:TypeId)(cg:List PV->Prop):Prop:=
 oA P f/\∀(w:World)(X:Nat->Prop)(bl:Array Value),(∀b,X b->b<w.heap.size)->bl.size=args.length->(∀(i:Nat)(x:PV),args[i]? =some x->aY w X x (bl.getD i undef))->
  Calls P f bl w fun e w'=>∃v b cap ys,e= .returned v/\v= .slice (some ⟨b,0,none⟩) ys.length cap/\w.heap.size<=b/\Ext bO w w'/\nH w' b ty ys/\dn w' b 1 cap/\cap<=maxLen/\cg ys
def xp(rs:List RV)(ty:TypeId)(cg:List PV->Prop):Qg:=fun fr hp=>
 ∃s β n xs,rs=[.t s]/\fr s= .ax β 0 n/\b9 β=false/\hp β=some ⟨1,ty,xs,false⟩/\mI xs/\0<n/\cg (xs.take n)
theorem Q98{xs:List PV}(h:mI xs)(n:Nat):mI (xs.take n):=fun x hx=>h x (Kbb hx)
theorem Q99 {P : Program} {f : FuncId} {fn : Func} {sf : az} {args : List PV} {ty : TypeId} {cg : List PV -> Prop} (hm : P.follows .mixedOrders = true) (hf : P.funcs[f]? = some fn) (r8 : (fn.name != "runtime.NumGoroutine") = true) (hc : Qe P fn = some sf) (hn : args.length <= sf.n /\ sf.n <= 1000000)
  (hv:∀C:Ctx,C.P=P->vc C (xp sf.rs ty cg) [.c sf.body] (jK args) aE):zJ P f args ty cg:=by
 simp only[Qe,Kab,Kaa]at hc;obtain⟨c,hb,sb,ix,rs,fj,rfl⟩:=hc;refine⟨by simp[oA,hf,hb];simpa using r8,fun w X bl hX fM cK=>?_⟩
 let C:Ctx:=Ctx.plain P fn.ntmps w X hX hn.2
 refine calls_of_wp hf hb ?_;have v3:(bl++Array.replicate (fn.ntmps-bl.size) undef).size=fn.ntmps:=by simp at hn ⊢;omega
 have pN:eT C (jK args) aE (bl++Array.replicate (fn.ntmps-bl.size) undef) w:=by
  refine⟨fun _=>none,v3,Ext.refl _ _,(fun _ _ h=>by cases h),by simp[aE],by simp[aE],fun i=>?_⟩;unfold jK;cases hi:args[i]? with
  |none=>trivial
  | some p=>
   simp only[KbT];have dm:i<bl.size:=by rw[fM];exact(Kad.1 hi).1
   have hr:=cK i p hi;have e:(bl++Array.replicate (fn.ntmps-bl.size) undef).getD i undef=bl.getD i undef:=by rw[kI,if_pos dm]
   rw[e];refine Qt.ll (hr.mono (fun _ _ _=>rfl) (fun b _ hn hx=>?_) (Kac _));rcases hx with hx|⟨_,_,h1,_⟩
   ·exact hn hx
   ·simp[aE]at h1
 have fin:∀(fr:Fr)(hp:HP)(a:Act)(w':World),a.defers=[]->eT C fr hp a.tmps w'->xp rs ty cg fr hp->
   a.defers=[]/\∃v,(results fn a.tmps).run P w'= .ok v w'/\∃v' b cap ys,Ending.returned v= .returned v'/\v'= .slice (some ⟨b,0,none⟩) ys.length cap/\w.heap.size<=b/\Ext bO w w'/\nH w' b ty ys/\dn w' b 1 cap/\cap<=maxLen/\cg ys:=by
  rintro fr hp a w' hd ⟨ρ,hs⟩ ⟨s,β,n,xs,rfl,nU,hB,al,hint,gS,hp⟩;have bk:=hs.own β _ al;have a9:=bk.dS;have cH:=hs.eQ s;rw[nU]at cH;obtain⟨eU,g1,g2,g3⟩:=cH;rw[al]at g1;cases g1;rcases g3 with⟨_,_,g3,_⟩|⟨b,cap,g3,g4,g5,g6⟩
  ·omega
  ·rw[g3]at a9;simp only[hB]at a9;obtain⟨x,hx⟩:∃x,fn.results.toList=[x]:=by have:=oo fj;exact List.length_eq_one_iff.1 (by rw[<-this.1];rfl)
   have lX:mq P x=some (.t s):=by rw[hx]at fj;simp only[KcR,List.mapM_nil,Kcy,KcW,Kab,KaB]at fj;obtain⟨y,h1,_,_,h2⟩:=fj;simp only[KcJ]at h2;rw[<-h2.1];exact h1
   have Mw:x= .tmp s:=by
    cases x with
    |tmp t=>simpa[mq]using lX
    |cell y t=>simp[mq,Kab]at lX
   subst Mw;have dq:(results fn a.tmps).run P w'= .ok (a.tmps.getD s undef) w':=by have e:results fn a.tmps=(do let vs<-fn.results.mapM (rM a.tmps);pure (if h:vs.size=1 then vs[0]else .tuple vs)):=rfl;rw[e,Kb6,hx];simp[rM]
   have hlen:(xs.take n).length=n:=by simp at g2 ⊢;omega
   refine⟨hd,_,dq,_,b,cap,xs.take n,rfl,by rw[g4,hlen,KbH],(Ctx.DS a9.1 (uZ hB)).resolve_right (fun h=>h),Ctx.MQ hs.ext,?_,by rw[Kbc]at g5;exact g5,by omega,hp⟩;obtain⟨_,cur,cp,i1,i2,i3,i4,i5⟩:=nH.MN a9.2.2 hint;exact⟨Q98 hint n,cur,cp,i1,i2,by simp;omega,i4,fun i k m hi=>i5 i k m (by
    have aA:i<n:=by have:=(Kad.1 hi).1;omega
    rwa[KaJ aA]at hi)⟩
 exact Gs (C:=C) (R:=xp rs ty cg) hm c sb [] _ (jK args) aE _ w ix ⟨fun fr hp a w' hd hs hv=>(by rw[uX]at hv;exact fin fr hp a w' hd hs hv),fun id eF he=>(by simp[FW.ct]at he),fin⟩ rfl pN (hv C rfl)
theorem agQ{P:Program}(hP:C.P=P){g:FuncId}{args c8:List PV}{d:Nat}{ty:TypeId}{cg:List PV->Prop}(h:zJ P g c8 ty cg)(dM:([]++args++[]).map (aK hp)=c8)(iO:c8.all PV.aD=true)(hr:([]++args++[]).flatMap PV.refs=[])
  (hB:b9 d=false) (hK:∀ys,mI ys->cg ys->K (af (cI d fr) d (.ms d ys.length)) (Qy hp d ⟨1,ty,ys,false⟩)):mC C false (.fn g [] []) args (some d) fr hp K:=by
 subst hP;refine⟨h.1,fun ρ tmps w fv cv av rX hs h1 h2 h3 si oa sj=>?_⟩;have hf0:cb hp (([]++args++[]).flatMap PV.refs)=hp:=by rw[hr];rfl
 have cK:=Nx hs h1 h2 h3 si oa sj (by rw[dM];exact iO);rw[hf0,dM]at cK;refine(h.2 w _ (fv++av++cv) (DK hs) (by rw[<-dM];simp[h1,h2,h3]) cK).mono ?_;rintro e w' ⟨v,b,cap,ys,rfl,rfl,hb,hx,hI,dN,hm,pK⟩;have qF:b<w'.heap.size:=by obtain⟨_,cur,cp,i1,_⟩:=hI;exact(KaG.1 i1).1
 have Mn:=hs.rebind (w':=w') d (some b) ⟨1,ty,ys,false⟩ hB (hx.mono (fun _ _ h=>h.elim)) (fun c hc=>by cases hc;exact⟨.inl (Kay hs.ext.size hb),qF,.inl hb⟩) (by simp) (C4 hI.1) (by simp)
  (fun c hc=>by
   cases hc;obtain⟨hint,cur,cp,i1,i2,i3,i4,i5⟩:=hI;refine⟨cur,cp,i1,i2,i3,i4,fun i x hi j y hy=>?_⟩;obtain⟨k,n,rfl⟩:=hint x (Kai hi);cases j with
   |zero=>simp[PV.cells]at hy;subst hy;rw[KbF,KaT,i5 i k n hi];exact Qu.int k n
   |succ j=>simp[PV.cells]at hy)
 refine⟨_,_,_,rfl,⟨_,Mn.Fk (d:=some d) (p:=.ms d ys.length) ?_ rX⟩,by simp,hK ys hI.1 pK⟩;exact⟨⟨1,ty,ys,false⟩,by simp[Qy],by simp,.inr ⟨b,cap,gI _ _ _,by simp,by rw[Kbc];exact dN,by omega⟩⟩
def fG(hp:HP):PV->PV
 |.mp β i o=>match hp β with
  |some hb=>match hb.xs[i]? with
   |some x=>.pt (x.cells.drop o)
   |none=>.undef
  |none=>.undef
 |.ax β o n=>match hp β with
  |some hb=>.sl hb.e ((hb.xs.drop o).take n)
  |none=>.undef
 |.rb β o n=>match hp β with
  |some hb=>.pt [.sl hb.e ((hb.xs.drop o).take n)]
  |none=>.undef
 |p=>p
def vm(C:Ctx)(ρ:Nat->Option Nat)(hp:HP)(l:List Nat):Nat->Prop:=fun c=>aH C ρ hp c/\¬∃β∈l,ρ β=some c
theorem Qu.vu{l:List Nat}{q:PV}{u:Value}(h:Qu w (aH C ρ hp) q u):Qu w (vm C ρ hp l) q u:=
 h.mono (fun _ _ _=>rfl) (fun _ _ hn hx=>hn hx.1) (Kac _)
theorem eG.vu{tmps:Array Value}(h:aI C ρ fr hp tmps w){β o n:Nat}{v:Value}{l:List Nat}{hb:HB}(hr:eG ρ hp w β o n v)(v8:β∈l)(g1:hp β=some hb):Qu w (vm C ρ hp l) (.sl hb.e ((hb.xs.drop o).take n)) v:=by
 obtain⟨eU,DW,g2,g3⟩:=hr;rw[g1]at DW;cases DW;rcases g3 with⟨g3,rfl,rfl,rfl⟩|⟨b,cap,g3,rfl,g5,g6⟩
 ·simp only[Kb5];exact .gH _ _ _ (Kbw _)
 ·have bk:=h.own β hb g1;have a9:=bk.dS;rw[g3]at a9;obtain⟨_,ar,cur,eI,c1,c2,c3,c4,c5⟩:=a9;obtain⟨cur',ty',d1,d2⟩:=g5;rw[c1]at d1;cases d1;have gd:o+cap=eI:=by rw[c2]at d2;exact(KbA bk.lK d2).symm
  subst gd;have hlen:((hb.xs.drop o).take n).length=n:=by simp;omega
  have eK:∀(i:Nat)(x:PV),((hb.xs.drop o).take n)[i]? =some x->i<n/\hb.xs[o+i]? =some x:=fun i x hx=>by
   have hi:i<n:=by have:=(Kad.1 hx).1;omega
   rw[KaJ hi,Ka9]at hx;exact⟨hi,hx⟩
  have:=Qu.sl (w:=w) (X:=vm C ρ hp l) hb.e ((hb.xs.drop o).take n) b (o*hb.e) cap (fun i j=>cur.getD ((o+i)*hb.e+j) undef) (fun Bk=>Bk.2 ⟨β,v8,g3⟩) ar (by omega) (by omega)
   (fun i x hx=>(bk.len _ x (eK i x hx).2).1)
   (fun i hi j hj=>by rw[hlen]at hi;have:=ny (i:=o+i) (e:=hb.e) (o:=0) (j:=j) (n:=hb.e) (cap:=o+cap) (by omega) (by omega) hj;rw[KaT]at this;rw[show o*hb.e+i*hb.e+j=(o+i)*hb.e+j by rw[KaH]];exact lz c1 (by rw[c2];exact this))
   (fun i x hx j y hy=>(c5 _ x (eK i x hx).2 j y hy).vu)
  rwa[hlen]at this
theorem CU{tmps:Array Value}(h:aI C ρ fr hp tmps w){p:PV}{v:Value}{l:List Nat}(hr:cU C ρ hp w p v)(hl:∀β∈p.bN,β∈l)(hu:(fG hp p).aD=true)(AY:∀f a b,p≠ .fn f a b):aY w (vm C ρ hp l) (fG hp p) v:=by
 cases p with
 | mp β i o=>
  obtain⟨b,hb,g1,g2,rfl⟩:=hr;have v8:=hl β (by simp[PV.bN]);have bk:=h.own β hb g2;have a9:=bk.dS;rw[g1]at a9;obtain⟨_,ar,cur,cap,c1,c2,c3,c4,c5⟩:=a9;simp only[fG,g2]at hu⊢;cases hx:hb.xs[i]? with
  |none=>simp[hx,PV.aD]at hu
  | some x=>
   have hi:i<hb.xs.length:=(Kad.1 hx).1;have eV:=(bk.len i x hx).1;refine Qu.pt _ b _ (fun j=>cur.getD (i*hb.e+o+j) undef) (fun Bk=>Bk.2 ⟨β,v8,g1⟩) ar (fun j hj=>?_) (fun j y hy=>?_)
   ·have fJ:o+(j+1)<=hb.e:=by simp[eV]at hj;omega
    exact lz c1 (by rw[c2];exact ny (by omega) fJ (Kdb j))
   ·rw[Ka9]at hy;rw[Kcg];exact(c5 i x hx (o+j) y hy).vu
 |ax β o n=>obtain⟨hb,g1,_⟩:=id hr;simp only[fG,g1];exact eG.vu h hr (hl β (by simp[PV.bN])) g1
 | rb β o n=>
  obtain⟨b,u,rfl,e2,e3,e4,hb,g1,e5⟩:=hr;simp only[fG,g1];refine Qu.pt _ b 0 (fun _=>u) (fun hx=>e3 hx.1) e2 (fun j hj=>?_) (fun j y hy=>?_)
  ·obtain rfl:j=0:=by simpa using hj
   simpa using e4
  ·cases j with
   |zero=>simp at hy;subst hy;exact eG.vu h ⟨hb,g1,e5⟩ (hl β (by simp[PV.bN])) g1
   |succ j=>simp at hy
 |undef=>simp[fG,PV.aD]at hu
 |fn f a b=>exact absurd rfl (AY f a b)
 |au=>simp[fG,PV.aD]at hu
 |aM=>simp[fG,PV.aD]at hu
 |np=>simp[fG,PV.aD]at hu
 |aT=>simp[fG,PV.aD]at hu
 |eO=>simp[fG,PV.aD]at hu
 |eP=>simp[fG,PV.aD]at hu
 |aN=>simp[fG,PV.aD]at hu
 |agg=>cases hr
 |_=>exact Qu.vu hr
end Go.FW
namespace Go.FW
open Go
variable {C : Ctx} {ρ : Nat -> Option Nat} {fr : Fr} {hp : HP} {w : World} {K K' R : Qg}
def PV.uj:PV->Bool
 |.fn .. =>false
 |p=>p.aD
theorem Sb{p:PV}(h:p.uj=true):p.aD=true/\∀f a b,p≠ .fn f a b:=by cases p<;>simp_all[PV.uj,PV.aD]
theorem Yk{tmps:Array Value}(h:aI C ρ fr hp tmps w){p:PV}{v:Value}{l:List Nat}(hr:Qt C ρ hp w p v)(hl:∀β∈p.refs,β∈l)(hu:(fG hp p).uj=true):aY w (vm C ρ hp l) (fG hp p) v:=by
 obtain⟨hd,AY⟩:=Sb hu;cases p with
 |mp β i o=>exact CU (p:=.mp β i o) h hr (fun du lY=>hl du lY) hd (by simp)
 |ax β o n=>exact CU (p:=.ax β o n) h hr (fun du lY=>hl du lY) hd (by simp)
 |rb β o n=>exact CU (p:=.rb β o n) h hr (fun du lY=>hl du lY) hd (by simp)
 |fn f a b=>exact absurd rfl (AY f a b)
 |undef=>simp[fG,PV.uj,PV.aD]at hu
 |au=>simp[fG,PV.uj,PV.aD]at hu
 |agg cs=>exact aY.mono (p:=.agg cs) hr (fun _ _ _=>rfl) (fun _ _ hn hx=>hn hx.1) (Kac _)
 |aM=>simp[fG,PV.aD]at hd
 |np=>simp[fG,PV.aD]at hd
 |aT=>simp[fG,PV.aD]at hd
 |eO=>simp[fG,PV.aD]at hd
 |eP=>simp[fG,PV.aD]at hd
 |aN=>simp[fG,PV.aD]at hd
 |_=>exact Qu.vu hr
theorem Sc{tmps:Array Value}(h:aI C ρ fr hp tmps w){p:PV}{v:Value}{l:List Nat}(hr:cU C ρ hp w p v)(hl:∀β∈p.refs,β∈l)(hu:(fG hp p).uj=true):aY w (vm C ρ hp l) (fG hp p) v:=by
 obtain⟨hd,AY⟩:=Sb hu;refine CU h hr (fun β al=>hl β ?_) hd ?_
 ·cases p<;>simp_all[PV.bN,PV.refs]
 ·intro f a b an;subst an;exact AY f a b rfl
theorem aaJ{P:Program}(hP:C.P=P){g:FuncId}{first cap args c8:List PV}{pr:Bool}{d:Option Nat}{r:PV}(h:Qc P g c8 (· =r))(dM:(first++args++cap).map (fG hp)=c8)(iO:c8.all PV.uj=true)(hr:r.MC=true)
  (hK:K (qt fr d r) hp):mC C pr (.fn g first cap) args d fr hp K:=by
 subst hP;refine⟨h.1,fun ρ tmps w fv cv av rX hs h1 h2 h3 si oa sj=>?_⟩;refine(h.2 w (vm C ρ hp ((first++args++cap).flatMap PV.refs)) (fv++av++cv) (fun b hb=>DK hs b hb.1) (by rw[<-dM];simp[h1,h2,h3]) (fun i x hx=>?_)).mono ?_
 ·have tP:x.uj=true:=by rw[Kax]at iO;exact iO x (Kai hx)
  rw[<-dM]at hx;simp only[Kaw,Kaa]at hx;obtain⟨p,an,rfl⟩:=hx;have eo:=Kai an;have hl:∀β∈p.refs,β∈(first++args++cap).flatMap PV.refs:=fun β al=>Kaq.2 ⟨p,eo,al⟩;rw[kI];rw[Ka1]at an;by_cases c1:i<(first++args).length
  ·rw[if_pos c1]at an;rw[if_pos (by simp only[Kci,h1,h3];simpa using c1),kI];rw[Ka1]at an;by_cases c2:i<first.length
   ·rw[if_pos c2]at an;rw[if_pos (by omega)];exact Sc hs (si i p an) hl tP
   ·rw[if_neg c2]at an;rw[if_neg (by omega),h1];exact Yk hs (sj _ p an) hl tP
  ·rw[if_neg c1]at an;have fM:(fv++av).size=(first++args).length:=by simp[h1,h3]
   rw[if_neg (by omega),fM];exact Sc hs (oa _ p an) hl tP
 ·rintro e w' ⟨v,r',rfl,hx,fK,rfl⟩;exact⟨v,_,_,rfl,⟨ρ,(hs.grow hx).Fk (Qt.MO (acd hr fK)) rX⟩,fun _=>hx,hK⟩
end Go.FW
namespace Go.FW
def ko:List Nat->List Nat->Nat->List Nat
 | [],_,_=>[]
 |x::xs,ys,c=>(c+x+ys.headD 0)%65536::ko xs ys.tail ((c+x+ys.headD 0)/65536)
theorem Ro:∀(a b:List Nat)(c:Nat),(ko a b c).length=a.length
 | [],_,_=>rfl
 |x::xs,b,c=>by simp[ko,Ro xs]
theorem Sd:∀(a b:List Nat)(c:Nat),Qq (ko a b c)
 | [],_,_=>nt
 |x::xs,b,c=>by rw[ko,gX];exact⟨by omega,Sd xs _ _⟩
theorem aaK{a b:List Nat}{i c:Nat}(h:i<a.length):ko (a.drop i) (b.drop i) c=(c+a[i]+b.getD i 0)%65536::ko (a.drop (i+1)) (b.drop (i+1)) ((c+a[i]+b.getD i 0)/65536):=by rw[Kaz h,ko];simp[KbD,Kcu,Kao]
theorem NF:∀(a b:List Nat)(c:Nat),b.length<=a.length->∃k,val (ko a b c)+65536^a.length*k=val a+val b+c
 | [],b,c,h=>by have:b=[]:=Kar.1 (by simpa using h);subst this;exact⟨c,by simp[ko,val]⟩
 |x::xs,b,c,h=>by
  obtain⟨k,hk⟩:=NF xs b.tail ((c+x+b.headD 0)/65536) (by simp at h ⊢;omega);refine⟨k,?_⟩;rw[ko,val,val,y6 b,KaX,Kbz,KaS (65536^xs.length) 65536,Kbf];generalize 65536^xs.length*k=z at *
  generalize b.headD 0=y at *
  omega
def ft:List Nat->List Nat->Nat->Nat->Nat->List Nat×Nat×Nat
 | [],_,_,c,b=>([],c,b)
 |x::xs,ys,q,c,b=>
  let r:=ft xs ys.tail q ((c+q*ys.headD 0)/65536) (if x<(c+q*ys.headD 0)%65536+b then 1 else 0)
  ((x+65536-(c+q*ys.headD 0)%65536-b)%65536::r.1,r.2)
theorem Rp:∀(a v:List Nat)(q c b:Nat),(ft a v q c b).1.length=a.length
 | [],_,_,_,_=>rfl
 |x::xs,v,q,c,b=>by simp[ft,Rp xs]
theorem Se:∀(a v:List Nat)(q c b:Nat),Qq (ft a v q c b).1
 | [],_,_,_,_=>nt
 |x::xs,v,q,c,b=>by simp only[ft];rw[gX];exact⟨by omega,Se xs _ _ _ _⟩
theorem aaL{a v:List Nat}{i q c b:Nat}(h:i<a.length):ft (a.drop i) (v.drop i) q c b=
    ((a[i]+65536-(c+q*v.getD i 0)%65536-b)%65536::(ft (a.drop (i+1)) (v.drop (i+1)) q ((c+q*v.getD i 0)/65536) (if a[i]<(c+q*v.getD i 0)%65536+b then 1 else 0)).1,
     (ft (a.drop (i+1)) (v.drop (i+1)) q ((c+q*v.getD i 0)/65536) (if a[i]<(c+q*v.getD i 0)%65536+b then 1 else 0)).2):=by
  rw[Kaz h,ft];simp[KbD,Kcu,Kao]
theorem NG:∀(a v:List Nat)(q c b:Nat),Qq a->b<=1->v.length<=a.length->
  val (ft a v q c b).1+(q*val v+c+b)=val a+65536^a.length*((ft a v q c b).2.1+(ft a v q c b).2.2)/\(ft a v q c b).2.2<=1
 | [],v,q,c,b,_,hb,h=>by have:v=[]:=Kar.1 (by simpa using h);subst this;simp[ft,val,hb]
 |x::xs,v,q,c,b,ha,hb,h=>by
  rw[gX]at ha;have aw:(if x<(c+q*v.headD 0)%65536+b then 1 else 0)<=1:=by split<;>omega
  obtain⟨ih,Fa⟩:=NG xs v.tail q ((c+q*v.headD 0)/65536) (if x<(c+q*v.headD 0)%65536+b then 1 else 0) ha.2 aw (by simp at h ⊢;omega);refine⟨?_,Fa⟩;simp only[ft];rw[val,val,y6 v,KaX,Kbz,KaS (65536^xs.length) 65536,Kbf,Ka2 q,Kbx q 65536];generalize ft xs v.tail q ((c+q*v.headD 0)/65536) (if x<(c+q*v.headD 0)%65536+b then 1 else 0)=r at *
  generalize 65536^xs.length*(r.2.1+r.2.2)=z at *
  generalize q*v.headD 0=y at *
  generalize q*val v.tail=t at *
  have h0:=ha.1;split at ih
  ·omega
  ·omega
open Go
variable {fr : Fr} {hp : HP}
theorem agR{ty len:Nat}{cg:PV->List PV->Prop}{xs':List PV}(hB:hp B0=some ⟨1,ty,xs',false⟩)(hi:mI xs')(hl:xs'.length=len)(an:cg (.au []) xs'):rJ [] ty len cg fr hp:=
 ⟨xs',hB,hi,hl,.inl ⟨by simp,.au [],trivial,by simp,an⟩⟩
theorem Ps{ty len s:Nat}{cg:PV->List PV->Prop}{xs':List PV}{p:PV}(hB:hp B0=some ⟨1,ty,xs',false⟩)(hi:mI xs')(hl:xs'.length=len)(hs:aK hp (fr s)=p)(hd:p.aD=true)(an:cg p xs'):rJ [.t s] ty len cg fr hp:=
 ⟨xs',hB,hi,hl,.inl ⟨by simp only[jZ];rw[hs];exact hd,p,by simp only[jD];rw[hs];exact Qw p,fun β o n e=>by subst e;simp[PV.aD]at hd,an⟩⟩
theorem Om{ty len s o n:Nat}{cg:PV->List PV->Prop}{xs':List PV}(hB:hp B0=some ⟨1,ty,xs',false⟩)(hi:mI xs')(hl:xs'.length=len)(hs:fr s= .ax B0 o n)(an:cg (.ax B0 o n) xs'):rJ [.t s] ty len cg fr hp:=
 ⟨xs',hB,hi,hl,.inr ⟨s,o,n,rfl,hs,an⟩⟩
end Go.FW
namespace Go.FW
open Go
variable {C : Ctx} {fr : Fr} {hp : HP} {K : Qg}
theorem zY{a b i:Nat}(h:b<2^i):a*2^i|||b=a*2^i+b:=by rw[<-Nat.shiftLeft_eq,Nat.shiftLeft_add_eq_or_of_lt h]
theorem Pt{bt:Bool}{x y d:Nat}(hx:x<18446744073709551616)(hy:y<18446744073709551616):ck .or bt (.int .u64 (x:Int)) (.int .u64 (y:Int)) d fr hp K=K (af fr d (.int .u64 ((x|||y:Nat):Int))) hp:=by
 have h1:(BitVec.ofInt 64 (x:Int)|||BitVec.ofInt 64 (y:Int)).toNat=x|||y:=by rw[BitVec.toNat_or,BitVec.ofInt_natCast,BitVec.ofInt_natCast,BitVec.toNat_ofNat,BitVec.toNat_ofNat,KaQ hx,KaQ hy]
 have h2:x|||y<18446744073709551616:=Nat.or_lt_two_pow (n:=64) hx hy;simp only[ck,IntKind.bits,h1,true_and];rw[rz (by omega) (by omega)];exact congrArg (fun z:Nat=>K (af fr d (.int .u64 (z:Int))) hp) h1
theorem Pu{bt:Bool}{x y d:Nat}(hx:x<4294967296)(hy:y<4294967296):ck .or bt (.int .u32 (x:Int)) (.int .u32 (y:Int)) d fr hp K=K (af fr d (.int .u32 ((x|||y:Nat):Int))) hp:=by
 have h1:(BitVec.ofInt 32 (x:Int)|||BitVec.ofInt 32 (y:Int)).toNat=x|||y:=by rw[BitVec.toNat_or,BitVec.ofInt_natCast,BitVec.ofInt_natCast,BitVec.toNat_ofNat,BitVec.toNat_ofNat,KaQ hx,KaQ hy]
 have h2:x|||y<4294967296:=Nat.or_lt_two_pow (n:=32) hx hy;simp only[ck,IntKind.bits,h1,true_and];rw[C3 (by omega) (by omega)];exact congrArg (fun z:Nat=>K (af fr d (.int .u32 (z:Int))) hp) h1
theorem agS{bt:Bool}{x y d:Nat}(hx:x<65536)(hy:y<65536):ck .or bt (.int .u16 (x:Int)) (.int .u16 (y:Int)) d fr hp K=K (af fr d (.int .u16 ((x|||y:Nat):Int))) hp:=by
 have h1:(BitVec.ofInt 16 (x:Int)|||BitVec.ofInt 16 (y:Int)).toNat=x|||y:=by rw[BitVec.toNat_or,BitVec.ofInt_natCast,BitVec.ofInt_natCast,BitVec.toNat_ofNat,BitVec.toNat_ofNat,KaQ hx,KaQ hy]
 have h2:x|||y<65536:=Nat.or_lt_two_pow (n:=16) hx hy;simp only[ck,IntKind.bits,h1,true_and];rw[acg (by omega) (by omega)];exact congrArg (fun z:Nat=>K (af fr d (.int .u16 (z:Int))) hp) h1
theorem On{bt:Bool}{k':IntKind}{x s d:Nat}(hs:s<=64)(h:x*2^s<18446744073709551616):ck .shl bt (.int .u64 (x:Int)) (.int k' (s:Int)) d fr hp K=K (af fr d (.int .u64 ((x*2^s:Nat):Int))) hp:=by
 have h0:(0:Int)<=s:=by omega
 have h1:min ((s:Int).toNat) IntKind.u64.bits=s:=by simp[IntKind.bits];omega
 simp only[ck,h0,true_and,h1];rw[show(x:Int)*2^s=((x*2^s:Nat):Int)by push_cast;rfl,rz (by omega) (by omega)]
theorem Oo{bt:Bool}{k':IntKind}{x s d:Nat}(hs:s<=32)(h:x*2^s<4294967296):ck .shl bt (.int .u32 (x:Int)) (.int k' (s:Int)) d fr hp K=K (af fr d (.int .u32 ((x*2^s:Nat):Int))) hp:=by
 have h0:(0:Int)<=s:=by omega
 have h1:min ((s:Int).toNat) IntKind.u32.bits=s:=by simp[IntKind.bits];omega
 simp only[ck,h0,true_and,h1];rw[show(x:Int)*2^s=((x*2^s:Nat):Int)by push_cast;rfl,C3 (by omega) (by omega)]
theorem GS{bt:Bool}{k':IntKind}{x d:Nat}(h:x<281474976710656):ck .shl bt (.int .u64 (x:Int)) (.int k' 16) d fr hp K=K (af fr d (.int .u64 ((x*65536:Nat):Int))) hp:=
 On (s:=16) (by omega) (by omega)
theorem GU{bt:Bool}{k':IntKind}{x d:Nat}(h:x<65536):ck .shl bt (.int .u32 (x:Int)) (.int k' 16) d fr hp K=K (af fr d (.int .u32 ((x*65536:Nat):Int))) hp:=
 Oo (s:=16) (by omega) (by omega)
theorem HN{bt:Bool}{k':IntKind}{x s d:Nat}(hs:s<=32):ck .shr bt (.int .u32 (x:Int)) (.int k' (s:Int)) d fr hp K=K (af fr d (.int .u32 ((x/2^s:Nat):Int))) hp:=by
 rw[Fx (by omega)];have h1:min ((s:Int).toNat) IntKind.u32.bits=s:=by simp[IntKind.bits];omega
 rw[h1,KcO _ (Int.pow_nonneg (by omega))];rw[show(x:Int)/2^s=((x/2^s:Nat):Int)by push_cast;rfl]
theorem Hd{bt:Bool}{x y d:Nat}(hx:x<281474976710656)(hy:y<65536):ck .or bt (.int .u64 ((x*65536:Nat):Int)) (.int .u64 (y:Int)) d fr hp K=K (af fr d (.int .u64 ((x*65536+y:Nat):Int))) hp:=by rw[Pt (by omega) (by omega),show x*65536|||y=x*65536+y from zY (i:=16) hy]
theorem abS{bt:Bool}{x y d:Nat}(hx:x<65536)(hy:y<65536):ck .or bt (.int .u32 ((x*65536:Nat):Int)) (.int .u32 (y:Int)) d fr hp K=K (af fr d (.int .u32 ((x*65536+y:Nat):Int))) hp:=by rw[Pu (by omega) (by omega),show x*65536|||y=x*65536+y from zY (i:=16) hy]
theorem SN{bt:Bool}{x y d:Nat}(hx:x<65536)(hy:y<65536):ck .or bt (.int .u32 (y:Int)) (.int .u32 ((x*65536:Nat):Int)) d fr hp K=K (af fr d (.int .u32 ((x*65536+y:Nat):Int))) hp:=by rw[Pu (by omega) (by omega),Nat.or_comm,show x*65536|||y=x*65536+y from zY (i:=16) hy]
theorem HO{bt:Bool}{k:IntKind}{x y d:Nat}(hy:0<y)(hw:k.wrap ((x/y:Nat):Int)=((x/y:Nat):Int)):ck .quo bt (.int k (x:Int)) (.int k (y:Int)) d fr hp K=K (af fr d (.int k ((x/y:Nat):Int))) hp:=by
 have:(y:Int)≠0:=by omega
 simp only[ck,ne_eq,this,not_false_eq_true,true_and];rw[aea (by omega),<-hw];rfl
theorem qk{bt:Bool}{k:IntKind}{x y d:Nat}(hy:0<y):ck .rem bt (.int k (x:Int)) (.int k (y:Int)) d fr hp K=K (af fr d (.int k ((x%y:Nat):Int))) hp:=by
 have:(y:Int)≠0:=by omega
 simp only[ck,ne_eq,this,not_false_eq_true,true_and];rw[aeb (by omega)];rfl
theorem aaM{n:Nat}(h:n<18446744073709551616):IntKind.u64.wrap (n:Int)=n:=rz (by omega) (by omega)
theorem aaN{n:Nat}(h:n<4294967296):IntKind.u32.wrap (n:Int)=n:=C3 (by omega) (by omega)
theorem aaO{n:Nat}(h:n<9223372036854775808):IntKind.i64.wrap (n:Int)=n:=uN (by omega) (by omega)
theorem zK{bt:Bool}{x y d:Nat}(hy:0<y)(hx:x<18446744073709551616):ck .quo bt (.int .u64 (x:Int)) (.int .u64 (y:Int)) d fr hp K=K (af fr d (.int .u64 ((x/y:Nat):Int))) hp:=
 HO hy (aaM (KcE (KcK x y) hx))
theorem ael{bt:Bool}{x y d:Nat}(hy:0<y)(hx:x<4294967296):ck .quo bt (.int .u32 (x:Int)) (.int .u32 (y:Int)) d fr hp K=K (af fr d (.int .u32 ((x/y:Nat):Int))) hp:=
 HO hy (aaN (KcE (KcK x y) hx))
theorem HQ{bt:Bool}{x y d:Nat}(hy:0<y)(hx:x<9223372036854775808):ck .quo bt (.int .i64 (x:Int)) (.int .i64 (y:Int)) d fr hp K=K (af fr d (.int .i64 ((x/y:Nat):Int))) hp:=
 HO hy (aaO (KcE (KcK x y) hx))
theorem aem{e d β o n H:Nat}{k:IntKind}(h:H<=n)(he:(hp β).map (·.e)=some e):iA e (.ax β o n) none (some (.int k (H:Int))) none d fr hp K=K (af fr d (.ax β o H)) hp:=by
 have h1:(H:Int)<=(n:Int):=by omega
 simp[iA,il,he,h1]
theorem aen{e d β o n L H:Nat}{k k':IntKind}(h1:L<=H)(h:H<=n)(h0:L<n)(he:(hp β).map (·.e)=some e):iA e (.ax β o n) (some (.int k (L:Int))) (some (.int k' (H:Int))) none d fr hp K=K (af fr d (.ax β (o+L) (H-L))) hp:=by
 have q1:(H:Int)<=(n:Int):=by omega
 have q2:(L:Int)<=(H:Int):=by omega
 have q3:(L:Int)<(n:Int):=by omega
 simp[iA,il,he,q1,q2,q3]
theorem SO{bt:Bool}{x d:Nat}(hx:x<9223372036854775808):ck .quo bt (.int .i64 (x:Int)) (.int .i64 16) d fr hp K=K (af fr d (.int .i64 ((x/16:Nat):Int))) hp:=
 HQ (y:=16) (by omega) hx
theorem SP{bt:Bool}{x d:Nat}:ck .rem bt (.int .i64 (x:Int)) (.int .i64 16) d fr hp K=K (af fr d (.int .i64 ((x%16:Nat):Int))) hp:=
 qk (y:=16) (by omega)
def nI(s:Nat):List Nat->Nat->List Nat
 | [],c=>[c]
 |x::xs,c=>((x*2^s)%65536+c)::nI s xs (x*2^s/65536)
theorem NH(s:Nat):∀(l:List Nat)(c:Nat),val (nI s l c)=val l*2^s+c
 | [],c=>by simp[nI,val]
 |x::xs,c=>by rw[nI,val,NH s xs,val,KaH,Kbf];generalize x*2^s=y;generalize val xs*2^s=z;omega
theorem GV{s:Nat}(h:s<=16):(65536:Nat)=2^s*2^(16-s):=by rw[<-Nat.pow_add,show s+(16-s)=16 by omega]
theorem NI{s x c:Nat}(h:s<=16)(hc:c<2^s):(x*2^s)%65536+c<65536/\c|||(x*2^s)%65536=(x*2^s)%65536+c:=by
 have e:(x*2^s)%65536=(x%2^(16-s))*2^s:=by rw[GV h,KaS x,Nat.mul_mod_mul_left,KaS]
 have h1:x%2^(16-s)<2^(16-s):=Kbt _ (KbN (by omega));have h2:(x%2^(16-s)+1)*2^s<=2^(16-s)*2^s:=Kaf _ h1;rw[KaH,KaS (2^(16-s)),<-GV h]at h2;rw[e];refine⟨by omega,?_⟩;rw[Nat.or_comm,zY hc]
theorem SQ{s x:Nat}(h:s<=16)(hx:x<65536):x*2^s/65536<2^s:=by rw[Kbm (by omega),KaS];exact Nat.mul_lt_mul_of_pos_left hx (KbN (by omega))
theorem RO{s:Nat}(h:s<=15):∀(l:List Nat)(c:Nat),Qq l->c<2^s->Qq (nI s l c)
 | [],c,_,hc=>by have:2^s<=2^15:=KbC (by omega) h;simp[nI,Qq];omega
 |x::xs,c,hl,hc=>by rw[gX]at hl;rw[nI,gX];exact⟨(NI (by omega) hc).1,RO h xs _ hl.2 (SQ (by omega) hl.1)⟩
theorem Rq(s:Nat):∀(l:List Nat)(c:Nat),(nI s l c).length=l.length+1
 | [],_=>rfl
 |x::xs,c=>by simp[nI,Rq s xs]
theorem agT{s x:Nat}(h:s<=15)(hx:x<65536):x*2^s<2147483648:=by have:2^s<=2^15:=KbC (by omega) h;have:=KaM (show x<=65535 by omega) this;omega
theorem NJ(l:List Nat):∀n,n<=l.length->cut l n=l.take (cut l n).length
 |0,_=>by simp[cut]
 |n+1,h=>by
  unfold cut;split
  ·exact NJ l n (by omega)
  ·rw[KaF,KbX h]
theorem abT{l:List Nat}(h:Qq l):l.take (nl (val l))=ah (val l):=by have:=NJ l l.length (Kac _);rw[zG h]at this;exact this.symm
end Go.FW
namespace Go.FW
open Go
theorem zJ.WA{P:Program}{f:FuncId}{args:List PV}{ty:TypeId}{ys:List PV}(h:zJ P f args ty (· =ys)):Qc P f args (· = .sl 1 ys):=by
 refine⟨h.1,fun w X bl hX h2 h3=>(h.2 w X bl hX h2 h3).mono ?_⟩;rintro e w' ⟨v,b,cap,ys',rfl,rfl,hb,hx,hI,dN,hm,rfl⟩;refine⟨_,_,rfl,hx,?_,rfl⟩;obtain⟨hint,cur,cp,i1,i2,i3,i4,i5⟩:=hI;obtain⟨cur',ty',d1,d2⟩:=dN;rw[i1]at d1;cases d1;have qF:b<w'.heap.size:=(KaG.1 i1).1;have e:cp=cap:=by omega
 subst e;refine Qu.sl (w:=w') (X:=X) 1 ys' b 0 cp (fun i j=>cur.getD (i+j) undef) (fun Bk=>by have:=hX b Bk;omega) qF i3 i4 (C4 hint |> fun h i x hx=>(h i x hx).1) (fun i hi j hj=>?_) (fun i x hx j y hy=>?_)
 ·have:j=0:=by omega
  subst this;simp only[Kbc,KbF,KaT];exact lz i1 (by omega)
 ·obtain⟨k,n,rfl⟩:=hint x (Kai hx);cases j with
  |zero=>simp[PV.cells]at hy;subst hy;show Qu w' X (.int k n) (cur.getD (i+0) undef);rw[KaT,i5 i k n hx];exact Qu.int k n
  |succ j=>simp[PV.cells]at hy
def mJ(s:Nat):List Nat->List Nat
 | []=>[]
 |x::xs=>((xs.headD 0*65536+x)/2^s)%65536::mJ s xs
theorem F8(s:Nat):∀l,(mJ s l).length=l.length
 | []=>rfl
 |x::xs=>by simp[mJ,F8 s xs]
theorem RP(s:Nat):∀l,Qq (mJ s l)
 | []=>nt
 |x::xs=>by rw[mJ,gX];exact⟨by omega,RP s xs⟩
theorem aaP{s i:Nat}{l:List Nat}(h:i<l.length):mJ s (l.drop i)=((l.getD (i+1) 0*65536+l[i])/2^s)%65536::mJ s (l.drop (i+1)):=by rw[Kaz h,mJ];simp[KbD,Kcu,Kao]
theorem abU{x V s:Nat}(hs:s<=16)(hx:x<65536):(x+65536*V)/2^s=((V%65536*65536+x)/2^s)%65536+65536*(V/2^s):=by
 have hp:0<2^s:=KbN (by omega);have e0:=Kbp V (2^s);have hr:=Kbt V hp;generalize hq:V/2^s=q at *
 generalize VA:V%2^s=r at *
 have hy:V%65536%2^s=r:=by rw[GV hs,Nat.mod_mul_right_mod];exact VA
 have e1:=Kbp (V%65536) (2^s);rw[hy]at e1;generalize V%65536/2^s=t at *
 have ar:(65536*r+x)/2^s<65536:=by rw[Kbm hp];have:65536*(r+1)<=65536*2^s:=Ka7 _ hr;omega
 have k1:x+65536*V=(65536*r+x)+2^s*(65536*q):=by rw[<-e0,Ka2,Kbx];omega
 have k2:V%65536*65536+x=(65536*r+x)+2^s*(65536*t):=by rw[<-e1,KaH,Kbf,KaS t 65536];omega
 rw[k1,k2,Kcs _ _ hp,Kcs _ _ hp,Kcp,KaQ ar]
theorem Nk{s:Nat}(hs:s<=16):∀l,Qq l->val (mJ s l)=val l/2^s
 | [],_=>by simp[mJ,val]
 | x::xs,h=>by
  rw[gX]at h;rw[mJ,val,Nk hs xs h.2,val,abU hs h.1];have:xs.headD 0=val xs%65536:=by
   cases xs with
   |nil=>simp[val]
   |cons y ys=>have:=h.2 y (by simp);simp[val];omega
  rw[this]
variable {C : Ctx} {ρ : Nat -> Option Nat} {fr ay : Fr} {hp : HP} {w : World} {K K' R R' : Qg}
def cf(fr ay:Fr):Prop:=∀s,ay s=fr s∨ay s= .undef
theorem cf.refl(fr:Fr):cf fr fr:=fun _=>.inl rfl
theorem cf.trans{a b c:Fr}(h:cf a b)(k:cf b c):cf a c:=fun s=>by
 rcases k s with e|e
 ·rw[e];exact h s
 ·exact .inr e
theorem cf.af(h:cf fr ay)(d:Nat){v v':PV}(hv:v'=v∨v'= .undef):cf (af fr d v) (af ay d v'):=fun s=>by
 unfold FW.af;split
 ·exact hv
 ·exact h s
theorem cf.iB(h:cf fr ay)(d:Nat)(v:PV):cf (FW.af fr d v) (FW.af ay d v):=h.af d (.inl rfl)
theorem cf.kill(h:cf fr ay)(β:Nat):cf (cI β fr) (cI β ay):=fun s=>by
 unfold cI;rcases h s with e|e
 ·exact .inl (by rw[e])
 ·right;rw[e];simp[bX,PV.refs]
theorem cf.ev(h:cf fr ay)(x:aO):ev ay x=ev fr x∨ev ay x= .undef:=by
 cases x with
 |t n=>exact h n
 |c p=>exact .inl rfl
theorem cf.mem(h:cf fr ay){q:PV->Prop}(hq:¬q .undef){l:List aO}(hl:∀p∈l.map (FW.ev ay),q p):l.map (FW.ev ay)=l.map (FW.ev fr):=by
 refine Kba fun x hx=>?_;rcases h.ev x with e|e
 ·exact e
 ·exact absurd (e▸hl _ (Kcz hx)) hq
theorem cf.aN(h:cf fr ay){γ bB e ty:Nat}{xs:List PV}(e1:ay γ= .aN bB e ty xs):fr γ= .aN bB e ty xs:=by
 rcases h γ with e2|e2
 ·rw[<-e2];exact e1
 ·rw[e1]at e2;cases e2
theorem cf.drop(h:cf fr ay)(γ:Nat):cf (iF γ fr) (iF γ ay):=fun s=>by
 unfold iF;rcases h s with e|e
 ·exact .inl (by rw[e])
 ·right;rw[e];rfl
theorem cf.take(h:cf fr ay)(β:Nat):cf (fF β fr) (fF β ay):=fun s=>by
 unfold fF;rcases h s with e|e
 ·exact .inl (by rw[e])
 ·right;rw[e];simp[cZ,bX,PV.refs]
theorem cf.wk(h:cf fr ay):Wk fr hp ay hp:=by
 rintro C tmps w ⟨ρ,hs⟩;refine⟨ρ,hs.sz,hs.ext,hs.gT,hs.own,hs.inj,fun s=>?_⟩;rcases h s with h|h<;>rw[h]
 ·exact hs.eQ s
 ·trivial
theorem cf.Wu{tmps:Array Value}(h:cf fr ay)(hs:aI C ρ fr hp tmps w):aI C ρ ay hp tmps w:=by
 refine⟨hs.sz,hs.ext,hs.gT,hs.own,hs.inj,fun s=>?_⟩;rcases h s with h|h<;>rw[h]
 ·exact hs.eQ s
 ·trivial
theorem FD(h:cf fr ay)(x:Option aO):x.map (ev ay)=x.map (ev fr)∨x.map (ev ay)=some .undef:=by
 cases x with
 |none=>exact .inl rfl
 |some x=>rcases h.ev x with e|e<;>simp[e]
theorem WX(d:Int):il d (some .undef)=none:=rfl
theorem HU (h:cf fr ay) (hK:∀f f' hp,cf f f'->K' f' hp->K f hp) (o:cx):bo C o ay hp K'->bo C o fr hp K:=by
 have hu:∀(d:Nat)(v:PV)(hp:HP),K' (af ay d v) hp->K (af fr d v) hp:=fun d v hp H=>hK _ _ _ (h.iB d v) H;have hk:∀(β d:Nat)(v:PV)(hp:HP),K' (af (cI β ay) d v) hp->K (af (cI β fr) d v) hp:=fun β d v hp H=>hK _ _ _ ((h.kill β).iB d v) H;have hz:∀hp,K' ay hp->K fr hp:=fun hp H=>hK _ _ _ h H;have mono:∀ {o:cx},bo C o fr hp K'->bo C o fr hp K:=fun H=>Hc (fun f hp H=>hK _ _ _ (cf.refl f) H) _ H;cases o with
 |mv d x=>exact fun H=>hK _ _ _ (h.af d (h.ev x)) H
 | pick d c a b=>
  simp only[bo,rI];rcases h.ev c with e|e
  ·rw[e];split
   ·exact fun H=>⟨fun t=>hK _ _ _ (h.af d (h.ev a)) (H.1 t),fun t=>hK _ _ _ (h.af d (h.ev b)) (H.2 t)⟩
   ·exact id
  ·rw[e];exact False.elim
 | call d pr f args=>
  simp only[bo,mC];rcases h.ev f with e|e
  ·rw[e];split
   ·rintro⟨h1,h2⟩;refine⟨h1,fun ρ tmps w fv cv av a1 a2 a3 a4 a5 a6 a7 a8=>?_⟩;refine(h2 ρ tmps w fv cv av a1 (h.Wu a2) a3 a4 (by simpa using a5) a6 a7 (fun i x hx=>?_)).mono ?_
    ·simp only[Kaw,Kaa]at hx;obtain⟨y,hy,rfl⟩:=hx;rcases h.ev y with e|e
     ·rw[e];exact a8 i _ (by simp[hy])
     ·rw[e];trivial
    ·rintro e w' ⟨v,f1,an,e1,e2,e3,e4⟩;exact⟨v,f1,an,e1,e2,e3,hK _ _ _ (cf.refl _) e4⟩
   ·exact id
  ·rw[e];exact False.elim
 | bs d e ty ps=>
  simp only[bo,nM];by_cases hb:oy (ps.map (ev ay))=true
  ·rw[if_pos hb];rintro⟨h1,h2⟩;have e:ps.map (ev ay)=ps.map (ev fr):=by
    match ps,hb with
    | [],hb=>simp[oy]at hb
    | [p],hb=>
     rcases h.ev p with e|e
     ·simp[e]
     ·rw[Kbj,Kbu,e]at hb;simp[oy,lE]at hb
    |p::q::ps,hb=>simp[oy]at hb
   rw[e]at h2 hb;rw[if_pos hb];exact⟨h1,hK _ _ _ (((h.take _).iB _ _).iB _ _) h2⟩
  ·rw[if_neg hb];rintro⟨h1,h2,h3⟩;have e:=h.mem (q:=fun p=>(aK hp p).aD=true) (by simp[aK,cB,PV.aD]) (l:=ps) (fun p hp=>(h2 p hp).1);rw[e]at h2 h3 hb;rw[if_neg hb];exact⟨h1,h2,hk _ _ _ _ h3⟩
 | bT d z ps=>
  have key:((∀x∈ps,ev ay x.2.2≠ .undef)->(ps.map fun p=>(p.1,p.2.1,ev ay p.2.2))=ps.map fun p=>(p.1,p.2.1,ev fr p.2.2)):=fun hu=>by
   refine Kba fun x hx=>?_;rcases h.ev x.2.2 with e|e
   ·rw[e]
   ·exact absurd e (hu x hx)
  intro H;simp only[bo,kn]at H;split at H
  ·rename_i hn;obtain⟨h2,h3⟩:=H;have e:=key fun x hx e=>by obtain⟨cs,h4,_⟩:=h2 _ (Kcz hx);rw[e]at h4;simp[fl]at h4
   rw[e]at h2 h3 hn;simp only[bo,kn];rw[if_pos hn];exact⟨h2,hK _ _ _ (h.iB _ _) h3⟩
  ·rename_i hn;obtain⟨h2,h3⟩:=H;have e:=key fun x hx e=>by have:=(h2 _ (Kcz hx)).1;rw[e]at this;simp[aK,cB,PV.aD]at this
   rw[e]at h2 h3 hn;simp only[bo,kn];rw[if_neg hn];exact⟨h2,hK _ _ _ (h.iB _ _) h3⟩
 |fn d f first cap=>simp only[bo];rintro⟨h2,h3⟩;have mR:=h2;rw[List.all_append,Kat,Kax,Kax]at mR;have e1:=h.mem (q:=fun p=>p.kB=true) (by simp[PV.kB]) mR.1;have e2:=h.mem (q:=fun p=>p.kB=true) (by simp[PV.kB]) mR.2;rw[e1,e2]at h2 h3;exact⟨h2,hK _ _ _ (h.iB _ _) h3⟩
 | Bw d x=>
  simp only[bo,z9];rcases h.ev x with e|e
  ·rw[e];intro H;revert H
   repeat' split
   all_goals first|exact id|exact hz _|exact hu _ _ _|grind
  ·rw[e];intro H;revert H;repeat' split
   all_goals first|exact id|exact False.elim|grind
 | bin d op bt x y=>
  simp only[bo];rcases h.ev x with e|e<;>rcases h.ev y with e'|e'<;>rw[e,e']
  ·unfold ck;intro H;revert H;split
   ·split<;>first|exact fun H=>⟨H.1,hu _ _ _ H.2⟩|exact fun H=>⟨H.1,H.2.1,hu _ _ _ H.2.2⟩|exact id
   ·split<;>first|exact fun H=>⟨H.1,hu _ _ _ H.2⟩|exact id
   ·exact id
  all_goals
   unfold ck;intro H;revert H
   repeat' split
   all_goals first|exact False.elim|(intros;simp_all;done)|(rename_i h1 _;cases h1;done)|(rename_i h1;cases h1;done)
 | sl d e x lo hi mx=>
  simp only[bo,iA];rcases h.ev x with e0|e0<;>rcases FD h lo with e1|e1<;>rcases FD h hi with e2|e2<;>rcases FD h mx with e3|e3<;>rw[e0,e1,e2,e3]
  all_goals
   intro H;revert H
   try simp only[WX]
   repeat' split
   all_goals first|exact id|exact False.elim|(intros;simp_all;done)|grind
 | ld d n ag x=>
  simp only[bo,kE];rcases h.ev x with e|e
  ·rw[e];intro H;revert H;split
   ·split
    ·exact fun⟨a,b,c,k⟩=>⟨a,b,c,hu _ _ _ k⟩
    ·exact id
   ·exact fun⟨a,b,k⟩=>⟨a,b,hu _ _ _ k⟩
   ·exact fun⟨a,b,k⟩=>⟨a,b,hu _ _ _ k⟩
   ·intro H;split at H
    ·rename_i ak;rw[h.aN ak];obtain⟨a,b,c,d,k⟩:=H;exact⟨a,b,c,d,hu _ _ _ k⟩
    ·exact H.elim
   ·exact id
  ·rw[e];exact fun H=>H.elim
 | st n x y=>
  simp only[bo,oQ];rcases h.ev x with e|e<;>rcases h.ev y with e'|e'<;>rw[e,e']
  ·intro H;revert H;split
   ·split
    ·exact fun⟨a,b,c,d,f,k⟩=>⟨a,b,c,d,f,hz _ k⟩
    ·exact id
   ·intro H;split at H
    ·rename_i ak;rw[h.aN ak];obtain⟨a,b,c,d,H⟩:=H;refine⟨a,b,c,d,?_⟩;revert H;split
     ·exact fun⟨f,k⟩=>⟨f,hK _ _ _ ((h.drop _).iB _ _) k⟩
     ·exact id
    ·exact H.elim
   ·exact id
  ·intro H;exfalso;revert H;split
   ·split
    ·rintro⟨_,b,_⟩;simp[aK,cB,PV.aD]at b
    ·exact id
   ·split
    ·rintro⟨_,_,_,_,H⟩;exact H
    ·exact id
   ·exact id
  ·exact fun H=>H.elim
  ·exact fun H=>H.elim
 | app d e by_ ty x y=>
  simp only[bo,iH];rcases h.ev y with e'|e'
  ·rw [e'];intro H;revert H;split
   ·unfold xy;split
    ·rename_i δ _;rcases h δ with e2|e2
     ·rw [e2];split
      ·rintro⟨a1,a2,a3,H⟩;refine⟨a1,a2,a3,?_⟩;rcases h.ev x with e|e
       ·rw[e]at H;revert H;split
        ·exact fun H=>⟨H.1,hK _ _ _ (((h.take _).iB _ _).iB _ _) H.2⟩
        ·rename_i γ k _;rcases h γ with e3|e3
         ·rw[e3];split
          ·exact fun H=>⟨H.1,H.2.1,hK _ _ _ (((h.take _).iB _ _).iB _ _) H.2.2⟩
          ·exact id
         ·rw[e3];exact fun H=>H.elim
        ·exact id
       ·rw[e]at H;exact H.elim
      ·exact id
     ·rw[e2];exact fun H=>H.elim
    ·exact id
   ·rintro⟨h0,h1,H⟩;refine⟨h0,h1,?_⟩;rcases h.ev x with e|e
    ·rw[e]at H;revert H;split
     ·rintro⟨a,b,c⟩;exact⟨a,b,hk _ _ _ _ c⟩
     ·split
      ·rintro(⟨a1,a2,a3,a4,a5,a6,a7,c⟩|⟨a1,a2,a3,c⟩)
       ·exact .inl ⟨a1,a2,a3,a4,a5,a6,a7,hk _ _ _ _ c⟩
       ·exact .inr ⟨a1,a2,a3,hK _ _ _ ((h.take _).iB _ _) c⟩
      ·exact id
     ·exact id
    ·rw[e]at H;exact H.elim
  ·rw[e'];exact fun H=>H.elim
 | un d op x|conv d k x|len d x|BE d x|cz d o x|xL d o n ag x|ext d x i=>
  all_goals
   simp only[bo,uo,u9,ox,vh,qw,qo,kE,ki]
   try (rcases h.ev x with e|e<;>rw[e])
  all_goals
   intro H;revert H
   repeat' split
   all_goals first|exact id|exact False.elim|exact hu _ _ _|grind [aK,cB,PV.aD]
 | box d n ty x=>
  simp only[bo];rcases h.ev x with e|e
  ·rw[e];unfold fR;split
   ·unfold tq;exact fun H=>⟨H.1,hK _ _ _ (((h.take _).iB _ _).iB _ _) H.2⟩
   ·split
    ·exact hu _ _ _
    ·exact fun H=>⟨H.1,H.2.1,H.2.2.1,hk _ _ _ _ H.2.2.2⟩
  ·rw[e];intro H;simp[fR,aK,cB,PV.aD]at H
 | alloc d n ty z=>
  simp only[bo];unfold fR;split
  ·unfold tq;exact fun H=>⟨H.1,hK _ _ _ (((h.take _).iB _ _).iB _ _) H.2⟩
  ·split
   ·exact hu _ _ _
   ·exact fun H=>⟨H.1,H.2.1,H.2.2.1,hk _ _ _ _ H.2.2.2⟩
 | eqs d ng x y|BF d ng x y|BD d x y|mx d x y|mn d x y|idx d e x y|Bp d n e x y|Br d n e ag x y|mk d e by_ ty z x y|tD d e x y=>
  all_goals
   simp only[bo,qu,qv,tp,we,wc,dG,qn,xx,oQ,m8,iH,tt];rcases h.ev x with e|e<;>rcases h.ev y with e'|e'<;>rw[e,e']
  all_goals
   intro H;revert H
   repeat' split
   all_goals first|exact id|exact False.elim|exact hu _ _ _|grind [aK,cB,PV.aD,jt]
 |bad d=>exact id
end Go.FW
namespace Go.FW
open Go
variable {C : Ctx} {ρ : Nat -> Option Nat} {fr ay : Fr} {hp : HP} {w : World} {K K' R R' : Qg}
def KM(K' K:Qg):Prop:=∀f f' hp,cf f f'->K' f' hp->K f hp
inductive mK:List It->List It->Prop
 |nil:mK [] []
 |c (s:SC) {a b:List It}:mK a b->mK (.c s::a) (.c s::b)
 |o (r:RT) {a b:List It}:mK a b->mK (.o r::a) (.o r::b)
 |eb (i:Nat) {a b:List It}:mK a b->mK (.eb i::a) (.eb i::b)
 |el {J' J:Qg} {a b:List It}:KM J' J->mK a b->mK (.el J'::a) (.el J::b)
theorem mK.exit{id:Nat}:∀ {a b:List It},mK a b->(∃a' b',FW.ct id a=some a'/\FW.ct id b=some b'/\mK a' b'/\bW a'<=bW a)∨(FW.ct id a=none/\FW.ct id b=none):=by
 intro a b h;induction h with
 |nil=>exact .inr ⟨rfl,rfl⟩
 |c s h ih|o s h ih=>
  rcases ih with⟨a',b',h1,h2,h3,h4⟩|⟨h1,h2⟩
  ·exact .inl ⟨a',b',by simpa[FW.ct]using h1,by simpa[FW.ct]using h2,h3,by simp only[bW];omega⟩
  ·exact .inr ⟨by simpa[FW.ct]using h1,by simpa[FW.ct]using h2⟩
 |el _ h ih=>
  rcases ih with⟨a',b',h1,h2,h3,h4⟩|⟨h1,h2⟩
  ·exact .inl ⟨a',b',by simpa[FW.ct]using h1,by simpa[FW.ct]using h2,h3,by simp only[bW];omega⟩
  ·exact .inr ⟨by simpa[FW.ct]using h1,by simpa[FW.ct]using h2⟩
 | eb i h ih=>
  by_cases hi:i=id
  ·exact .inl ⟨_,_,by simp[FW.ct,hi],by simp[FW.ct,hi],h,by simp only[bW];omega⟩
  ·rcases ih with⟨a',b',h1,h2,h3,h4⟩|⟨h1,h2⟩
   ·exact .inl ⟨a',b',by simpa[FW.ct,hi]using h1,by simpa[FW.ct,hi]using h2,h3,by simp only[bW];omega⟩
   ·exact .inr ⟨by simpa[FW.ct,hi]using h1,by simpa[FW.ct,hi]using h2⟩
theorem CV(h:cf fr ay)(hK:KM K' K)(o:cx):ju o ay hp K'->ju o fr hp K:=by
 unfold ju;split
 ·exact hK _ _ _ (h.iB _ _)
 ·exact hK _ _ _ h
theorem abV(h:cf fr ay)(hK:KM K' K)(g:Option (Nat×Bool))(o:cx):oz C g o ay hp K'->oz C g o fr hp K:=by
 unfold oz;split
 ·exact HU h hK o
 ·rename_i s want;rcases h s with e|e
  ·rw[e];split
   ·exact fun H=>⟨fun t=>HU (h.iB _ _) hK o (H.1 t),fun t=>CV (h.iB _ _) hK o (H.2 t)⟩
   ·exact CV h hK o
   ·exact id
  ·rw[e];exact False.elim
theorem rF(hR:KM R' R):∀(n:Nat)(eF sk:List It)(ay fr:Fr)(hp:HP),bW eF<=n->mK eF sk->cf fr ay->vc C R' eF ay hp->vc C R sk fr hp:=by
 intro n;induction n with
 |zero=>
  intro eF sk ay fr hp hn hs hf h;cases hs with
  |nil=>rw[uX]at h ⊢;exact hR _ _ _ hf h
  |el hJ _=>rw[vb]at h ⊢;exact hJ _ _ _ hf h
  |c s _=>exfalso;have:=SC.yz s;simp only[bW,It.sz]at hn;omega
  |o s _=>exfalso;have:=RT.yz s;simp only[bW,It.sz]at hn;omega
  |eb _ _=>exfalso;simp only[bW,It.sz]at hn;omega
 | succ n ih=>
  intro eF sk ay fr hp hn hs hf h;cases hs with
  |nil=>rw[uX]at h ⊢;exact hR _ _ _ hf h
  |el hJ _=>rw[vb]at h ⊢;exact hJ _ _ _ hf h
  |eb i hs=>rw[BL]at h⊢;exact ih _ _ _ _ _ (by simp only[bW,It.sz]at hn;omega) hs hf h
  | o r hs=>
   cases r with
   |nil=>rw[zX]at h ⊢;exact ih _ _ _ _ _ (by simp only[bW,It.sz,RT.sz]at hn;omega) hs hf h
   |o g o r=>rw[Pk]at h⊢;exact abV (K':=fun fr hp=>vc C R' (.o r::_) fr hp) (K:=fun fr hp=>vc C R (.o r::_) fr hp) hf (fun f f' hp hf' H=>ih (.o r::_) (.o r::_) _ _ hp (by simp only[bW,It.sz,RT.sz]at hn ⊢;omega) (.o r hs) hf' H) g o h
   |wk r=>rw[DH]at h⊢;obtain⟨bE,aE,hw,h⟩:=h;exact⟨bE,aE,hf.wk.trans hw,ih (.o r::_) (.o r::_) _ _ _ (by simp only[bW,It.sz,RT.sz]at hn ⊢;omega) (.o r hs) (cf.refl _) h⟩
   |br x y=>rw[Pm]at h⊢;exact⟨ih (.o x::_) (.o x::_) _ _ _ (by simp only[bW,It.sz,RT.sz]at hn ⊢;omega) (.o x hs) hf h.1,ih (.o y::_) (.o y::_) _ _ _ (by simp only[bW,It.sz,RT.sz]at hn ⊢;omega) (.o y hs) hf h.2⟩
  | @c s a b hs=>
   cases s with
   |skip=>rw[Dt]at h ⊢;exact ih _ _ _ _ _ (by simp only[bW,It.sz,SC.sz]at hn;omega) hs hf h
   |rg r=>rw[FE]at h ⊢;exact ih (.o r::_) (.o r::_) _ _ _ (by simp only[bW,It.sz,SC.sz]at hn ⊢;omega) (.o r hs) hf h
   | raw id ops=>
    rw[vc]at h⊢;intro tmps w Q pN hQ;refine h tmps w Q ?_ fun mQ eX ao8 w2 eY hv=>hQ mQ eX ao8 w2 eY ?_
    ·obtain⟨ρ,pN⟩:=pN;exact⟨ρ,hf.Wu pN⟩
    ·exact ih _ _ _ _ _ (by simp only[bW,It.sz,SC.sz]at hn;omega) hs (cf.refl _) hv
   |seq x y=>rw[DI]at h ⊢;exact ih (.c x:: .c y::_) (.c x:: .c y::_) _ _ _ (by simp only[bW,It.sz,SC.sz]at hn ⊢;omega) (.c x (.c y hs)) hf h
   |block id x=>rw[C2]at h ⊢;exact ih (.c x:: .eb id::_) (.c x:: .eb id::_) _ _ _ (by simp only[bW,It.sz,SC.sz]at hn ⊢;omega) (.c x (.eb id hs)) hf h
   |ret=>rw[DJ]at h ⊢;exact hR _ _ _ hf h
   | cond c x y=>
    rw[Du]at h⊢;rcases hf.ev c with e|e
    ·rw[e]at h;unfold tk at h⊢;split at h
     ·exact⟨fun e=>ih (.c x::_) (.c x::_) _ _ _ (by simp only[bW,It.sz,SC.sz]at hn ⊢;omega) (.c x hs) hf (h.1 e),fun e=>ih (.c y::_) (.c y::_) _ _ _ (by simp only[bW,It.sz,SC.sz]at hn ⊢;omega) (.c y hs) hf (h.2 e)⟩
     ·exact h
    ·rw[e]at h;exact h.elim
   | exit id=>
    rw[Dv]at h⊢;rcases hs.exit (id:=id)with⟨a',b',h1,h2,h3,h4⟩|⟨h1,h2⟩
    ·rw[h1]at h;rw[h2];simp only[vd]at h⊢;exact ih _ _ _ _ _ (by simp only[bW,It.sz,SC.sz]at hn;omega) h3 hf h
    ·rw[h1]at h;exact h.elim
   |loop x=>rw[uI]at h⊢;obtain⟨I,μ,⟨bE,aE,h1,lL⟩,h2⟩:=h;refine⟨I,μ,⟨bE,aE,hf.wk.trans h1,lL⟩,fun fr hp hI=>?_⟩;refine ih (.c x:: .el _::_) (.c x:: .el _::_) _ _ _ (by simp only[bW,It.sz,SC.sz]at hn ⊢;omega) (.c x (.el ?_ hs)) (cf.refl _) (h2 fr hp hI);rintro f f' an hf ⟨bE,aE,g1,g2,g3⟩;exact⟨bE,aE,hf.wk.trans g1,g2,g3⟩
def lj:List (Nat×Nat)->Nat->Bool
 | [],_=>false
 |(a,b)::W,s=>(decide (a<=s)&&decide (s<=b))||lj W s
theorem aeo(s:Nat):lj [] s=false:=rfl
theorem C5(a b s:Nat)(W:List (Nat×Nat)):lj ((a,b)::W) s=((decide (a<=s)&&decide (s<=b))||lj W s):=rfl
def aQ(W:List (Nat×Nat))(J F:Fr):Fr:=fun s=>if lj W s then J s else F s
theorem Pv(W:List (Nat×Nat))(J F:Fr)(s:Nat):aQ W J F s=if lj W s then J s else F s:=rfl
theorem Oq{W:List (Nat×Nat)}{a:Nat}{v:PV}{J F:Fr}(h:lj W a=true):af (aQ W J F) a v=aQ W (af J a v) F:=by
 funext s;unfold af aQ;by_cases hs:s=a
 ·subst hs;rw[if_pos rfl,if_pos h];simp
 ·rw[if_neg hs];split
  ·simp[hs]
  ·rfl
theorem abW{W:List (Nat×Nat)}{a:Nat}{v:PV}{J F:Fr}:af (aQ W J F) a v=if lj W a=true then aQ W (af J a v) F else aQ ((a,a)::W) (af J a v) F:=by
 split
 ·exact Oq ‹_›
 ·funext s;unfold af aQ;by_cases hs:s=a
  ·subst hs;simp[lj]
  ·have:(decide (a<=s)&&decide (s<=a))=false:=by rw[Bool.and_eq_false_iff];simp only[decide_eq_false_iff_not];omega
   simp only[C5,this,Kcm,if_neg hs]
theorem aaQ{W:List (Nat×Nat)}{β:Nat}{J F:Fr}:cI β (aQ W J F)=aQ W (cI β J) (cI β F):=by funext s;unfold cI aQ;split<;>rfl
def bC(B:List Nat)(F:Fr):Fr:=fun s=>if(F s).refs.any B.contains then .undef else F s
theorem kb(F:Fr):bC [] F=F:=by funext s;simp[bC]
theorem Ca{β:Nat}{B:List Nat}{F:Fr}(h:B.contains β=true):cI β (bC B F)=bC B F:=by
 funext s;show bX β (bC B F s)=bC B F s;by_cases h1:(F s).refs.any B.contains=true
 ·have:bC B F s= .undef:=if_pos h1;rw[this];rfl
 ·have:bC B F s=F s:=if_neg h1;rw[this,bX,if_neg];intro h2;exact h1 (Ka4.2 ⟨β,by simpa using h2,h⟩)
theorem WY{β:Nat}{B:List Nat}{F:Fr}:cI β (bC B F)=if B.contains β=true then bC B F else bC (β::B) F:=by
 split
 ·exact Ca ‹_›
 ·funext s;show bX β (bC B F s)=bC (β::B) F s;unfold bC bX;by_cases h1:(F s).refs.any B.contains=true
  ·have h2:(F s).refs.any (β::B).contains=true:=by obtain⟨x,hx,lX⟩:=Ka4.1 h1;exact Ka4.2 ⟨x,hx,by rw[Kav,lX,Kc9]⟩
   simp only[if_pos h1,if_pos h2];rfl
  ·simp only[if_neg h1];by_cases h2:(F s).refs.contains β=true
   ·have h3:(F s).refs.any (β::B).contains=true:=Ka4.2 ⟨β,by simpa using h2,by simp⟩;rw[if_pos h2,if_pos h3]
   ·rw[if_neg h2,if_neg];intro h3;obtain⟨x,hx,lX⟩:=Ka4.1 h3;rw[Kav,KbS]at lX;rcases lX with e|e
    ·have:x=β:=by simpa using e
     subst this;exact h2 (by simpa using hx)
    ·exact h1 (Ka4.2 ⟨x,hx,e⟩)
theorem GW(B:List Nat)(F:Fr)(s:Nat):bC B F s=if(F s).refs.any B.contains then .undef else F s:=rfl
theorem He(W:List (Nat×Nat))(B:List Nat):cf fr (aQ W fr (bC B fr)):=fun s=>by
 unfold aQ bC;split
 ·exact .inl rfl
 ·split
  ·exact .inr rfl
  ·exact .inl rfl
def xt(W:List (Nat×Nat))(F:Fr)(I:Nat->Fr->HP->Prop)(n:Nat):Qg:=fun ay an=>∃J m,cf ay (aQ W J F)/\m<n/\I m J an
theorem Qh{W:List (Nat×Nat)}{F J:Fr}{I:Nat->Fr->HP->Prop}{n:Nat}(m:Nat)(hl:m<n)(h:I m J hp):xt W F I n (aQ W J F) hp:=⟨J,m,cf.refl _,hl,h⟩
theorem abX{W:List (Nat×Nat)}{F:Fr}{I:Nat->Fr->HP->Prop}{n:Nat}:KM (xt W F I n) (xt W F I n):=by rintro f f' hp hf ⟨J,m,h1,h2,h3⟩;exact⟨J,m,hf.trans h1,h2,h3⟩
def fZ(R:Qg)(sk:List It):Prop:=KM R R/\mK sk sk
theorem Qz{sk:List It}{x:SC}(cA:fZ R sk)(W:List (Nat×Nat))(B:List Nat)(I:Nat->Fr->HP->Prop)(m0:Nat)(h0:I m0 fr hp)
  (h:∀m J hp,I m J hp->vc C R (.c x:: .el (xt W (bC B fr) I m)::sk) (aQ W J (bC B fr)) hp):vc C R (.c (.loop x)::sk) fr hp:=by
 refine y5 (fun m ay an=>∃J,ay=aQ W J (bC B fr)/\I m J an) m0 (He W B).wk ⟨fr,rfl,h0⟩ ?_;rintro m _ an ⟨J,rfl,hI⟩;refine rF cA.1 _ _ _ _ _ _ (Kac _) (.c x (.el ?_ cA.2)) (cf.refl _) (h m J an hI);rintro f f' eX hf ⟨J2,m2,e2,hl,h2⟩;exact G' hl (hf.trans e2).wk ⟨J2,rfl,h2⟩
def oB(W:List (Nat×Nat))(F:Fr)(M:Fr->HP->Prop):Qg:=fun ay an=>∃J,cf ay (aQ W J F)/\M J an
theorem zL{W:List (Nat×Nat)}{F J:Fr}{M:Fr->HP->Prop}(h:M J hp):oB W F M (aQ W J F) hp:=⟨J,cf.refl _,h⟩
theorem Dy{W:List (Nat×Nat)}{F:Fr}{M:Fr->HP->Prop}:KM (oB W F M) (oB W F M):=by rintro f f' hp hf ⟨J,h1,h3⟩;exact⟨J,hf.trans h1,h3⟩
theorem Qk{sk:List It}{W:List (Nat×Nat)}{F:Fr}{I:Nat->Fr->HP->Prop}{n:Nat}(h:fZ R sk):fZ R (.el (xt W F I n)::sk):=⟨h.1,.el abX h.2⟩
theorem Qr{sk:List It}{W:List (Nat×Nat)}{F:Fr}{M:Fr->HP->Prop}(h:fZ R sk):fZ R (.el (oB W F M)::sk):=⟨h.1,.el Dy h.2⟩
theorem Qx{sk:List It}{i:Nat}(h:fZ R sk):fZ R (.eb i::sk):=⟨h.1,.eb i h.2⟩
theorem Q4{sk:List It}{s:SC}(h:fZ R sk):fZ R (.c s::sk):=⟨h.1,.c s h.2⟩
theorem Q5{sk:List It}{s:RT}(h:fZ R sk):fZ R (.o s::sk):=⟨h.1,.o s h.2⟩
theorem Qi{sk:List It}{I:Nat->Qg}{n:Nat}(h:fZ R sk):fZ R (.el (xg I n)::sk):=⟨h.1,.el (fun f f' hp hf ⟨a,b,h1,h2⟩=>⟨a,b,hf.wk.trans h1,h2⟩) h.2⟩
theorem OJ{rs:List RV}{Rr:PV->Prop}:KM (fS rs Rr) (fS rs Rr):=by
 have one:∀(f f':Fr)(hp:HP)(r:RV),cf f f'->jZ f' hp r->jZ f hp r/\jD f' hp r=jD f hp r:=by
  intro f f' hp r hf ho;cases r with
  |t s=>
   simp only[jZ,jD]at ho⊢;rcases hf s with e|e
   ·rw[e]at ho ⊢;exact⟨ho,rfl⟩
   ·rw[e]at ho;simp[aK,cB,PV.aD]at ho
  |cell s n ag=>
   simp only[jZ,jD]at ho⊢;rcases hf s with e|e
   ·rw[e]at ho ⊢;exact⟨ho,rfl⟩
   ·rw[e]at ho;exact ho.elim
 intro f f' hp hf h;unfold fS at h⊢;split at h
 ·rename_i r;obtain⟨h1,h2⟩:=h;obtain⟨g1,g2⟩:=one f f' hp r hf h1;rw[g2]at h2;exact⟨g1,h2⟩
 ·obtain⟨h1,h2⟩:=h;have e:rs.map (jD f' hp)=rs.map (jD f hp):=Kba fun r hr=>(one f f' hp r hf (h1 r hr)).2;rw[e]at h2;exact⟨fun r hr=>(one f f' hp r hf (h1 r hr)).1,h2⟩
theorem abY{rs:List RV}{ty:TypeId}{len:Nat}{cg:PV->List PV->Prop}:KM (rJ rs ty len cg) (rJ rs ty len cg):=by
 rintro f f' hp hf ⟨xs',h1,h2,h3,h4⟩;refine⟨xs',h1,h2,h3,?_⟩;rcases h4 with h4|⟨s,o,n,h4,h5,h6⟩
 ·exact .inl (OJ _ _ _ hf h4)
 ·refine .inr ⟨s,o,n,h4,?_,h6⟩;rcases hf s with e|e
  ·rw[<-e];exact h5
  ·rw[h5]at e;cases e
theorem abZ{rs:List RV}{ty:TypeId}{cg:List PV->Prop}:KM (xp rs ty cg) (xp rs ty cg):=by
 rintro f f' hp hf ⟨s,β,n,xs,h1,h2,h3⟩;refine⟨s,β,n,xs,h1,?_,h3⟩;rcases hf s with e|e
 ·rw[<-e];exact h2
 ·rw[h2]at e;cases e
theorem Qs{rs:List RV}{Rr:PV->Prop}:fZ (fS rs Rr) []:=⟨OJ,.nil⟩
theorem Ql{rs:List RV}{ty:TypeId}{len:Nat}{cg:PV->List PV->Prop}:fZ (rJ rs ty len cg) []:=⟨abY,.nil⟩
theorem Qm{rs:List RV}{ty:TypeId}{cg:List PV->Prop}:fZ (xp rs ty cg) []:=⟨abZ,.nil⟩
theorem kM{sk:List It}{x:SC}(i β e ty:Nat)(he:0<e)(hi:fr i= .aa)(h:vc C R (.c (.loop x)::sk) (af (cI β fr) i (.ms β 0)) (Qy hp β ⟨e,ty,[],false⟩))(hB:b9 β=false:=by decide):vc C R (.c (.loop x)::sk) fr hp:=by rw[uI]at h⊢;obtain⟨I,μ,⟨bE,aE,h1,lL⟩,h2⟩:=h;exact⟨I,μ,⟨bE,aE,(Po i β e ty he hi hB).trans h1,lL⟩,h2⟩
end Go.FW
namespace Go.FW
open Go
variable {C : Ctx} {fr : Fr} {hp : HP} {w : World} {K R : Qg}
theorem XT{P:Program}{f:FuncId}{k:IntKind}{x:Int}{r:PV}{v:Value}(hg:oA P f)(h:∀w,Calls P f #[.int k x] w fun e w'=>e= .returned v/\w'=w)(hr:∀w X,dB w X r v):Qc P f [.int k x] (· =r):=by
 refine⟨hg,fun w X bl hX hs cK=>?_⟩;have h0:∀u,Qu w X (.int k x) u->u= .int k x:=fun u hu=>by cases hu;rfl
 have e:bl= #[.int k x]:=by
  have h1:bl.getD 0 undef= .int k x:=h0 _ (cK 0 _ rfl);apply Array.ext
  ·simpa using hs
  ·intro i hi aA;have pE:i=0:=by simp at aA;omega
   subst pE;simpa[Array.getD,hi]using h1
 rw[e];refine(h w).mono ?_;rintro e w' ⟨rfl,rfl⟩;exact⟨v,r,rfl,Ext.refl _ _,hr _ _,rfl⟩
end Go.FW
namespace Go.FW
open Go
variable {C : Ctx} {fr : Fr} {hp : HP} {w : World} {K R : Qg}
theorem aaR(a b:Nat)(vD:a≠b)(h:HP)(v w:HB):Qy (Qy h a v) b w=Qy (Qy h b w) a v:=by
 funext c;unfold Qy;by_cases h1:c=a
 ·subst h1;simp[vD]
 ·simp[h1]
theorem Yl{V W P v1 v2 v0 hi u2 w0:Nat}(hV:V=(v1*65536+v2)*P+v0)(hW:W=(hi*65536+u2)*P+w0)(ES:w0<P)(v5:u2<65536)(h1:0<v1):W<(hi/v1+1)*V:=by
 have e1:hi+1<=(hi/v1+1)*v1:=by have:=Kbp hi v1;have:=Kbt hi h1;rw[KaH,KaS];omega
 have e2:W<(hi+1)*65536*P:=by have:(hi*65536+u2+1)*P<=(hi+1)*65536*P:=Kaf _ (by omega);rw[KaH _ 1]at this;omega
 refine KaK e2 ?_
 calc (hi+1)*65536*P<=((hi/v1+1)*v1)*65536*P:=Kaf _ (Kaf _ e1)
  _=(hi/v1+1)*(v1*65536*P):=by rw[Kbf,Kbf,Kbf]
  _<=(hi/v1+1)*V:=Ka7 _ (by rw[hV,KaH];omega)
theorem ab0{V W P v1 v2 v0 hi u2 w0 d r:Nat}(hV:V=(v1*65536+v2)*P+v0)(hW:W=(hi*65536+u2)*P+w0)(ES:w0<P)(hd:d*v1+r=hi)(ht:r*65536+u2<d*v2):W<d*V:=by
 have h1:hi*65536+u2+1<=d*(v1*65536+v2):=by rw[Ka2,<-Nat.mul_assoc,<-hd,KaH];omega
 have h2:W<(hi*65536+u2+1)*P:=by rw[hW,KaH _ 1];omega
 refine KaK h2 (Kay (Kaf _ h1) ?_);rw[Kbf];exact Ka7 _ (by rw[hV];exact Nat.le_add_right _ _)
theorem ab1{V W P v1 v2 v0 hi u2 w0 e r:Nat}(hV:V=(v1*65536+v2)*P+v0)(hW:W=(hi*65536+u2)*P+w0)(Bi:v0<P)(ER:1<=v1)(he:e+1<65536)(hd:(e+1)*v1+r=hi)(ht:¬r*65536+u2<(e+1)*v2):e*V<=W:=by
 have h1:(e+1)*(v1*65536+v2)<=hi*65536+u2:=by rw[Ka2,<-Nat.mul_assoc,<-hd,KaH ((e+1)*v1)];omega
 have h2:e*v0<=(v1*65536+v2)*P:=KaM (by omega) (by omega)
 calc e*V=e*(v1*65536+v2)*P+e*v0:=by rw[hV,Ka2,Kbf]
  _<=e*(v1*65536+v2)*P+(v1*65536+v2)*P:=Nat.add_le_add_left h2 _
  _=(e+1)*(v1*65536+v2)*P:=by rw[KaH e,KcU,KaH (e*_)]
  _<=(hi*65536+u2)*P:=Kaf _ h1
  _<=W:=by rw[hW];exact Nat.le_add_right _ _
theorem acC{V W P v1 v2 v0 hi u2 w0:Nat}(hV:V=(v1*65536+v2)*P+v0)(hW:W=(hi*65536+u2)*P+w0)(Bi:v0<P)(h:W<65536*V)(hP:0<P):hi<=v1*65536+v2:=by
 have h1:hi*(65536*P)<(v1*65536+v2+1)*(65536*P):=by
  have e1:hi*(65536*P)<=W:=by rw[hW,KaH,Kbf];omega
  have e2:V<=(v1*65536+v2+1)*P:=by rw[hV,KaH _ 1];omega
  have e3:65536*V<=65536*((v1*65536+v2+1)*P):=Ka7 _ e2;rw[Kbx]at e3;omega
 have:=Nat.lt_of_mul_lt_mul_right h1;omega
theorem QE:∀(a:List Nat)(q b:Nat),(ft a [] q 0 b).2.1=0
 | [],_,_=>rfl
 |x::xs,q,b=>by simp only[ft,List.headD_nil,Kb0,List.tail_nil];exact QE xs q _
theorem RQ:∀(a v:List Nat)(q c b:Nat),v.length<a.length->c<65536->q<65536->Qq v->(ft a v q c b).2.1=0
 | [],_,_,_,_,h,_,_,_=>by simp at h
 |x::xs,[],q,c,b,h,hc,hq,hv=>by simp only[ft,List.headD_nil,Kb0,List.tail_nil,KaT];rw[Kcc hc];exact QE xs q _
 |x::xs,y::ys,q,c,b,h,hc,hq,hv=>by rw[gX]at hv;simp only[ft,List.headD_cons,List.tail_cons];refine RQ xs ys q _ _ (by simpa using h) ?_ hq hv.2;have:=sQ hq hv.1;omega
theorem Cr{l:List Nat}{k:Nat}(h:val l<65536^k):val (l.drop k)=0:=by
 rcases Kc6 k l.length with hk|hk
 ·have:=oX l k (by omega);have:65536^k*val (l.drop k)<65536^k*1:=by omega
  have:=Nat.lt_of_mul_lt_mul_left this;omega
 ·rw[Kal hk];rfl
theorem OK{l:List Nat}{n:Nat}(h:l.length=n+2):val l=(l.getD (n+1) 0*65536+l.getD n 0)*65536^n+val (l.take n):=by have e:=oX l n (by omega);rw[lD (by omega),lD (by omega),Kal (by omega)]at e;rw[e,gm (by omega),gm (by omega),val,Kb0,KaT,KaS (65536^n)];rw[KaS 65536,KbQ (l[n]),KbQ]
theorem agU:
  (∀(β:Nat)(cs:List PV),bX β (.pt cs)= .pt cs)/\(∀(β:Nat),bX β .undef= .undef)/\(∀(β:Nat)(cs:List PV),bX β (.au cs)= .au cs)/\
  (∀(cs:List PV),(PV.pt cs).refs=[])/\(PV.undef.refs=[])/\(∀(cs:List PV),(PV.au cs).refs=[])/\
  (∀(hp:HP)(cs:List PV),aK hp (.pt cs)= .pt cs)/\(∀(hp:HP)(cs:List PV),aK hp (.au cs)= .au cs)/\
  (∀(β f:Nat)(a b:List PV),bX β (.fn f a b)=if(a.flatMap PV.bN++b.flatMap PV.bN).contains β then .undef else .fn f a b)/\
  (∀(β o n:Nat),(PV.ax β o n).bN=[β])/\(∀(β o n:Nat),(PV.rb β o n).bN=[β])/\(∀(β o n:Nat),(PV.mp β o n).bN=[β])/\
  (∀(k:IntKind)(n:Int),(PV.int k n).bN=[])/\(∀(b:Bool),(PV.bool b).bN=[])/\(∀(e:Nat)(xs:List PV),(PV.sl e xs).bN=[])/\(PV.aa.bN=[])/\(∀(xs:List PV),(PV.pt xs).bN=[]):=by
 refine⟨fun _ _=>rfl,fun _=>rfl,fun _ _=>rfl,fun _=>rfl,rfl,fun _=>rfl,fun _ _=>rfl,fun _ _=>rfl,fun _ _ _ _=>rfl,fun _ _ _=>rfl,fun _ _ _=>rfl,fun _ _ _=>rfl,fun _ _=>rfl,fun _=>rfl,fun _ _=>rfl,rfl,fun _=>rfl⟩
theorem aoP:
  (∀(ty d e:Nat)(xs:List PV)(fr:Fr)(hp:HP)(K:Qg),fR 1 ty (.sl e xs) d fr hp K=K (af (cI d fr) d (.mp d 0 0)) (Qy hp d ⟨1,ty,[.sl e xs],false⟩))/\
  (∀(ty d:Nat)(k:IntKind)(x:Int)(fr:Fr)(hp:HP)(K:Qg),fR 1 ty (.int k x) d fr hp K=K (af (cI d fr) d (.mp d 0 0)) (Qy hp d ⟨1,ty,[.int k x],false⟩))/\
  (∀(ty d:Nat)(x:Bool)(fr:Fr)(hp:HP)(K:Qg),fR 1 ty (.bool x) d fr hp K=K (af (cI d fr) d (.mp d 0 0)) (Qy hp d ⟨1,ty,[.bool x],false⟩))/\
  (∀(ty d:Nat)(fr:Fr)(hp:HP)(K:Qg),fR 1 ty .aa d fr hp K=K (af (cI d fr) d (.mp d 0 0)) (Qy hp d ⟨1,ty,[.aa],false⟩))/\
  (∀(n ty d o m:Nat)(fr:Fr)(hp:HP)(K:Qg),fR n ty (.ax 1000000 o m) d fr hp K=K (af fr d (.rb 1000000 o m)) hp)/\
  (∀(n ty d:Nat)(x:PV)(cs:List PV)(fr:Fr)(hp:HP)(K:Qg),fR n ty (.agg (x::cs)) d fr hp K=(cs.length+1=n/\K (af (cI d fr) d (.mp d 0 0)) (Qy hp d ⟨n,ty,[.agg (x::cs)],false⟩)))/\
  (∀(ty d:Nat)(x:PV)(fz:Bool)(fr:Fr)(hp:HP)(K:Qg),jY (some ⟨1,ty,[x],fz⟩) 1 false 0 0 d fr hp K=K (af fr d (eE false 1 0 x)) hp)/\
  (∀(ty β e:Nat)(x:PV)(xs:List PV)(fr:Fr)(hp:HP)(K:Qg),stM (some ⟨1,ty,[x],false⟩) β 1 0 0 (.sl e xs) fr hp K=K fr (Qy hp β ⟨1,ty,[.sl e xs],false⟩))/\
  (∀(ty β:Nat)(x:PV)(k:IntKind)(y:Int)(fr:Fr)(hp:HP)(K:Qg),stM (some ⟨1,ty,[x],false⟩) β 1 0 0 (.int k y) fr hp K=K fr (Qy hp β ⟨1,ty,[.int k y],false⟩))/\
  (∀(ty β:Nat)(x:PV)(y:Bool)(fr:Fr)(hp:HP)(K:Qg),stM (some ⟨1,ty,[x],false⟩) β 1 0 0 (.bool y) fr hp K=K fr (Qy hp β ⟨1,ty,[.bool y],false⟩))/\
  (∀(ty β:Nat)(x:PV)(fr:Fr)(hp:HP)(K:Qg),stM (some ⟨1,ty,[x],false⟩) β 1 0 0 .aa fr hp K=K fr (Qy hp β ⟨1,ty,[.aa],false⟩))/\
  (∀(e:Nat)(xs:List PV),eE false 1 0 (.sl e xs)= .sl e xs)/\(∀(k:IntKind)(x:Int),eE false 1 0 (.int k x)= .int k x)/\(∀(x:Bool),eE false 1 0 (.bool x)= .bool x)/\(eE false 1 0 .aa= .aa):=by
 have fz:∀hp:HP,cb hp []=hp:=fun _=>rfl;refine⟨fun _ _ _ _ _ _ _=>?_,fun _ _ _ _ _ _ _=>?_,fun _ _ _ _ _ _=>?_,fun _ _ _ _ _=>?_,fun _ _ _ _ _ _ _ _=>ag9 (by decide),fun n ty d x cs fr hp K=>?_,fun _ _ _ _ _ _ _=>?_,fun _ _ _ _ _ _ _ _=>?_,fun _ _ _ _ _ _ _ _=>?_,fun _ _ _ _ _ _ _=>?_,fun _ _ _ _ _ _=>?_,fun _ _=>rfl,fun _ _=>rfl,fun _=>rfl,rfl⟩
 ·simp[fR,aK,cB,PV.aD,PV.cells,PV.refs,fz]
 ·simp[fR,aK,cB,PV.aD,PV.cells,PV.refs,fz]
 ·simp[fR,aK,cB,PV.aD,PV.cells,PV.refs,fz]
 ·simp[fR,aK,cB,PV.aD,PV.cells,PV.refs,fz]
 ·apply propext;simp only[fR,aK,cB,PV.aD,PV.cells,PV.refs,KaX,fz];exact⟨fun⟨_,h1,_,h2⟩=>⟨h1,h2⟩,fun⟨h1,h2⟩=>⟨trivial,h1,by omega,h2⟩⟩
 all_goals simp[jY,stM,PV.aD,PV.cells]
end Go.FW
namespace Go.FW
theorem agV{l:List Nat}{j n V:Nat}(hl:Qq l)(hlen:j+n+3<=l.length)(hV:V<=65536^(n+2))(hz:val (l.drop (j+1))<V):
  ∃pre w post,l=pre++(w++post)/\pre.length=j/\w.length=n+3/\Qq pre/\Qq w/\Qq post/\val post=0/\val (l.drop j)=val w/\val w<65536*V/\
   ∃w0,w0<65536^n/\val w=((l.getD (j+(n+2)) 0*65536+l.getD (j+(n+1)) 0)*65536+l.getD (j+n) 0)*65536^n+w0:=by
 have pK:val (l.drop (j+n+3))=0:=by have:=Cr (l:=l.drop (j+1)) (k:=n+2) (by omega);rw[List.drop_drop]at this;rw[<-this];congr 2;omega
 have hw:Qq ((l.drop j).take (n+3)):=wF (yR hl j) _;have ud:((l.drop j).take (n+3)).length=n+3:=by simp;omega
 have gl:l.drop j=(l.drop j).take (n+3)++l.drop (j+n+3):=by have:=(Kbn (n+3) (l.drop j)).symm;rw[List.drop_drop]at this;exact this
 have gN:val (l.drop j)=val ((l.drop j).take (n+3)):=by
  conv=>lhs;rw[gl]
  rw[mu,pK,Kb0,KaT]
 have eK:∀i,i<n+3->((l.drop j).take (n+3)).getD i 0=l.getD (j+i) 0:=by intro i hi;simp[Kao,Kca,hi]
 refine⟨l.take j,(l.drop j).take (n+3),l.drop (j+n+3),?_,by simp;omega,ud,wF hl j,hw,yR hl _,pK,gN,?_,?_⟩
 ·rw[<-gl,Kbn]
 ·rw[<-gN,lD (by omega)];have:=et hl (show j<l.length by omega);omega
 ·refine⟨val (((l.drop j).take (n+3)).take n),sH hw n (by omega),?_⟩;rw[OK (n:=n+1) ud,eK _ (by omega),eK _ (by omega),yH (by omega)];rw[<-gm,eK _ (by omega),Kbz];generalize l.getD (j+(n+1)) 0=a;generalize l.getD (j+n) 0=b;generalize l.getD (j+(n+1+1)) 0=c;rw[KaH _ b,Kbf _ 65536,KaS 65536 (65536^n),KaS (65536^n) b];omega
theorem aaS{U V L qs W R q pre B:Nat}(hU:U=L+V*(65536*B*qs))(hL:L=pre+B*W)(hW:W=q*V+R):U=(pre+B*R)+V*(B*(q+65536*qs)):=by
 subst hW hL;rw[hU,Ka2 B,Ka2 B q,Ka2 V];have e1:B*(q*V)=V*(B*q):=by rw[KaS q V,Kbx]
 have e2:V*(65536*B*qs)=V*(B*(65536*qs)):=by rw[KaS 65536 B,Kbf]
 omega
open Go
variable {C : Ctx} {fr : Fr} {hp : HP} {w : World} {K R : Qg}
theorem ns{x y:RT}{sk:List It}(h1:vc C R (.o x::sk) fr hp)(h2:vc C R (.o y::sk) fr hp):rP C R x y sk fr hp:=⟨h1,h2⟩
theorem aep{x y:RT}{sk:List It}{W:List (Nat×Nat)}{J F:Fr}(P:Fr->Prop)(h0:P J)(h:∀J,P J->rP C R x y sk (aQ W J F) hp):rP C R x y sk (aQ W J F) hp:=h J h0
theorem Nl{sk:List It}{x:SC}(cA:fZ R sk)(W:List (Nat×Nat))(B:List Nat)(I:Nat->Fr->HP->Prop)(m0:Nat)(h0:I m0 fr hp)
  (h:∀F,F=bC B fr->∀m J hp,I m J hp->vc C R (.c x:: .el (xt W F I m)::sk) (aQ W J F) hp):vc C R (.c (.loop x)::sk) fr hp:=
 Qz cA W B I m0 h0 (h _ rfl)
theorem acD{x y:RT}{sk:List It}{W0:List (Nat×Nat)}{J0 F0:Fr}(cA:fZ R sk)(B:List Nat)(M:Fr->HP->Prop)
  (h:∀F,F=bC B F0->rP C R x y (.el (oB W0 F M)::sk) (aQ W0 J0 F) hp) (hM:∀J hp,M J hp->vc C R sk (aQ W0 J (bC B F0)) hp):rP C R x y sk (aQ W0 J0 F0) hp:=by
 have hle:cf (aQ W0 J0 F0) (aQ W0 J0 (bC B F0)):=fun s=>by
  unfold aQ bC;split
  ·exact .inl rfl
  ·split
   ·exact .inr rfl
   ·exact .inl rfl
 have key:∀(r:RT),vc C R (.o r:: .el (oB W0 (bC B F0) M)::sk) (aQ W0 J0 (bC B F0)) hp->vc C R (.o r::sk) (aQ W0 J0 F0) hp:=by
  intro r hr;refine zH (M:=oB W0 (bC B F0) M) ?_ _ [.o r] _ _ (Kac _) ?_
  ·rintro ay an ⟨J,h1,h2⟩;exact rF cA.1 _ _ _ _ _ _ (Kac _) cA.2 h1 (hM J an h2)
  ·exact rF cA.1 _ _ _ _ _ _ (Kac _) (.o r (.el Dy cA.2)) hle hr
 exact⟨key x (h _ rfl).1,key y (h _ rfl).2⟩
theorem YN{ay:Fr}{K':Qg}{p:PV}{s:Nat}{want:Bool}{o:cx}(h:cf fr ay)(hK:KM K' K):iq C p s want o ay hp K'->iq C p s want o fr hp K:=by
 unfold iq;split
 ·exact fun H=>⟨fun t=>HU (h.iB _ _) hK o (H.1 t),fun t=>CV (h.iB _ _) hK o (H.2 t)⟩
 ·exact CV h hK o
 ·exact id
theorem Xy{p:PV}{s:Nat}{want:Bool}{o:cx}{r:RT}{sk:List It}(cA:fZ R sk)(W:List (Nat×Nat))(B:List Nat)(M:Fr->HP->Prop)
  (h:iq C p s want o (aQ W fr (bC B fr)) hp (vc C R (.o r:: .el (oB W (bC B fr) M)::sk))) (hM:∀J hp,M J hp->vc C R sk (aQ W J (bC B fr)) hp):iq C p s want o fr hp (vc C R (.o r::sk)):=by
 refine YN (He W B) (fun f f' hp hf H=>?_) h;have H':=rF cA.1 _ _ _ _ _ _ (Kac _) (.o r (.el Dy cA.2)) hf H;refine zH (M:=oB W (bC B fr) M) ?_ _ [.o r] _ _ (Kac _) H';rintro ay an ⟨J,h1,h2⟩;exact rF cA.1 _ _ _ _ _ _ (Kac _) cA.2 h1 (hM J an h2)
theorem TY:(∀(a b c:Nat),(PV.mp a b c).kB=true)/\(∀(a b c:Nat),(PV.ax a b c).kB=true)/\(∀(a b c:Nat),(PV.rb a b c).kB=true)/\(∀(k:IntKind)(n:Int),(PV.int k n).kB=true)/\
  (∀b,(PV.bool b).kB=true)/\(PV.aa.kB=true)/\(∀(e:Nat)(xs:List PV),(PV.sl e xs).kB=true)/\(∀(xs:List PV),(PV.pt xs).kB=true):=
 ⟨fun _ _ _=>rfl,fun _ _ _=>rfl,fun _ _ _=>rfl,fun _ _=>rfl,fun _=>rfl,rfl,fun _ _=>rfl,fun _=>rfl⟩
end Go.FW
namespace Go.FW
def vn(V W:List (Nat×Nat)):Bool:=V.all fun p=>W.any fun q=>decide (q.1<=p.1)&&decide (p.2<=q.2)
theorem aaT{V W:List (Nat×Nat)}(h:vn V W=true){s:Nat}(hs:lj V s=true):lj W s=true:=by
 induction V with
 |nil=>cases hs
 | cons p V ih=>
  simp only[vn,List.all_cons,Kat]at h;rw[C5,KbS]at hs;rcases hs with hs|hs
  ·obtain⟨q,hq,tX⟩:=Ka4.1 h.1;simp only[Kat,decide_eq_true_eq]at tX hs;clear h ih;induction W with
   |nil=>cases hq
   |cons r W ih=>
    rw[C5,KbS];rcases KaO.1 hq with rfl|hq
    ·left;simp only[Kat,decide_eq_true_eq];omega
    ·right;exact ih hq
  ·exact ih h.2 hs
theorem WZ{B B':List Nat}{F:Fr}(h:B.all B'.contains=true):bC B (bC B' F)=bC B' F:=by
 funext s;by_cases h1:(F s).refs.any B'.contains=true
 ·have:bC B' F s= .undef:=if_pos h1;show(if(bC B' F s).refs.any B.contains=true then PV.undef else bC B' F s)=_;rw[this];rfl
 ·have:bC B' F s=F s:=if_neg h1;show(if(bC B' F s).refs.any B.contains=true then PV.undef else bC B' F s)=_;rw[this,if_neg];intro h2;obtain⟨x,hx,lX⟩:=Ka4.1 h2;exact h1 (Ka4.2 ⟨x,hx,Kax.1 h x (by simpa using lX)⟩)
theorem nw{V W:List (Nat×Nat)}{X Z F:Fr}(h:vn V W=true):aQ V X (aQ W Z F)=aQ W (aQ V X Z) F:=by
 funext s;unfold aQ;by_cases h1:lj V s=true
 ·simp[h1,aaT h h1]
 ·simp[h1]
theorem ahs{W V S d:Nat}(hs:S+d*V=W)(LQ:W<(d+1)*V):S<V/\W=d*V+S:=by rw[KaH]at LQ;omega
theorem aeq{W V B S e k res:Nat}(hs:S+(e+1)*V=W+B)(hS:S<B)(UP:e*V<=W)(hr:res+B*k=S+V)(dq:res<B)(hWB:W<B):res<V/\W=e*V+res:=by
 rw[KaH,KcU]at hs;generalize e*V=x at *
 have hk:k=1:=by
  match k,hr with
  |0,hr=>omega
  |1,_=>rfl
  |k+2,hr=>
   have:B*(k+2)=B*k+B+B:=by rw[Ka2];omega
   omega
 subst hk;omega
theorem Tl{pre R post qs:List Nat}{j q U V L W:Nat}(hp:pre.length=j)(pK:val post=0)(hU:U=L+V*(65536^(j+1)*val qs))(hL:L=val pre+65536^j*W)(hW:W=q*V+val R):
  val ((pre++(R++post)).drop j)=val R/\U=val (pre++(R++post))+V*(65536^j*val (q::qs)):=by
 have e:(pre++(R++post)).drop j=R++post:=by rw[<-hp,List.drop_left]
 have e2:val (R++post)=val R:=by rw[mu,pK,Kb0,KaT]
 refine⟨by rw[e,e2],?_⟩;rw[mu,e2,hp,val];exact aaS (by rw[hU,Kbz,KaS (65536^j)]) hL hW
theorem DA{j q:Nat}{qs:List Nat}:(List.replicate (j+1) 0++qs).set j q=List.replicate j 0++(q::qs):=by rw[List.replicate_succ',KbK,List.singleton_append,nv (by simp)]
open Go
variable {C : Ctx} {fr : Fr} {hp : HP} {w : World} {K R : Qg}
theorem aoQ:(∀(C:Ctx)(d:Nat)(ng:Bool)(x y:aO)(fr:Fr)(hp:HP)(K:Qg),bo C (.eqs d ng x y) fr hp K=qu ng (ev fr x) (ev fr y) d fr hp K)/\
  (∀(k l:IntKind)(x y x' y':Int)(d:Nat)(fr:Fr)(hp:HP)(K:Qg),qu false (.agg [.int k x,.int l y]) (.agg [.int k x',.int l y']) d fr hp K=K (af fr d (.bool (decide (x=x')&&decide (y=y')))) hp)/\
  (∀(k l:IntKind)(x y x' y':Int)(d:Nat)(fr:Fr)(hp:HP)(K:Qg),qu true (.agg [.int k x,.int l y]) (.agg [.int k x',.int l y']) d fr hp K=K (af fr d (.bool (!(decide (x=x')&&decide (y=y'))))) hp):=
 ⟨fun _ _ _ _ _ _ _ _=>rfl,fun _ _ _ _ _ _ _ _ _ _=>by simp[qu],fun _ _ _ _ _ _ _ _ _ _=>by simp[qu]⟩
theorem aoR:(∀(C:Ctx)(d:Nat)(ng:Bool)(x y:aO)(fr:Fr)(hp:HP)(K:Qg),bo C (.BF d ng x y) fr hp K=qv ng (ev fr x) (ev fr y) d fr hp K)/\
  (∀(C:Ctx)(d:Nat)(x:aO)(fr:Fr)(hp:HP)(K:Qg),bo C (.BE d x) fr hp K=vh (ev fr x) d fr hp K)/\
  (∀(C:Ctx)(d:Nat)(x i:aO)(fr:Fr)(hp:HP)(K:Qg),bo C (.BD d x i) fr hp K=tp (ev fr x) (ev fr i) d fr hp K)/\
  (∀(x y:ByteArray)(d:Nat)(fr:Fr)(hp:HP)(K:Qg),qv false (.str x) (.str y) d fr hp K=K (af fr d (.bool (decide (x=y)))) hp)/\
  (∀(x y:ByteArray)(d:Nat)(fr:Fr)(hp:HP)(K:Qg),qv true (.str x) (.str y) d fr hp K=K (af fr d (.bool (!decide (x=y)))) hp)/\
  (∀(x:ByteArray)(d:Nat)(fr:Fr)(hp:HP)(K:Qg),vh (.str x) d fr hp K=K (af fr d (.int .i64 x.size)) hp):=
 ⟨fun _ _ _ _ _ _ _ _=>rfl,fun _ _ _ _ _ _=>rfl,fun _ _ _ _ _ _ _=>rfl,fun _ _ _ _ _ _=>by simp[qv],fun _ _ _ _ _ _=>by simp[qv],fun _ _ _ _ _=>rfl⟩
theorem aht{s:ByteArray}{k:IntKind}{i:Nat}{d:Nat}(h:i<s.size):tp (.str s) (.int k i) d fr hp K=K (af fr d (.int .u8 (s.get! i).toNat)) hp:=by simp[tp,h]
theorem acE{α:Type}{f:α->PV}{e d:Nat}{k:IntKind}{xs:List α}(h:0<xs.length):dG e (.sl e (xs.map f)) (.int k 0) d fr hp K=K (af fr d (.pt (f (xs[0]'h)).cells)) hp:=by rw[w7 (by omega) (by omega)];rfl
theorem acF{α:Type}{f:α->PV}{e d:Nat}{k:IntKind}{xs:List α}(h:1<xs.length):dG e (.sl e (xs.map f)) (.int k 1) d fr hp K=K (af fr d (.pt (f (xs[1]'h)).cells)) hp:=by rw[w7 (by omega) (by omega)];rfl
theorem acG{e d:Nat}{k:IntKind}{x:PV}{xs:List PV}:dG e (.sl e (x::xs)) (.int k 0) d fr hp K=K (af fr d (.pt x.cells)) hp:=by rw[Fw (by omega) (by simp only[KaX];omega)];rfl
theorem acH{e d:Nat}{k:IntKind}{x y:PV}{xs:List PV}:dG e (.sl e (x::y::xs)) (.int k 1) d fr hp K=K (af fr d (.pt y.cells)) hp:=by rw[Fw (by omega) (by simp only[KaX];omega)];rfl
def PV.flat:PV->Bool
 |.int .. | .bool _| .aa| .sl .. | .agg _| .pt _| .str _=>true
 |_=>false
theorem acI:∀s,(PV.str s).flat=true:=fun _=>rfl
theorem acJ:∀s,(PV.str s).aD=true:=fun _=>rfl
theorem ajU:(∀(k:IntKind)(n:Int),(PV.int k n).flat=true)/\(∀b,(PV.bool b).flat=true)/\(PV.aa.flat=true)/\(∀(e:Nat)(xs:List PV),(PV.sl e xs).flat=true)/\(∀xs,(PV.agg xs).flat=true)/\(∀xs,(PV.pt xs).flat=true):=
 ⟨fun _ _=>rfl,fun _=>rfl,rfl,fun _ _=>rfl,fun _=>rfl,fun _=>rfl⟩
theorem ajV:(∀(k:IntKind)(n:Int),(PV.int k n).aD=true)/\(∀b,(PV.bool b).aD=true)/\(PV.aa.aD=true)/\(∀(e:Nat)(xs:List PV),(PV.sl e xs).aD=true)/\(∀xs,(PV.agg xs).aD=true)/\(∀xs,(PV.pt xs).aD=true):=
 ⟨fun _ _=>rfl,fun _=>rfl,rfl,fun _ _=>rfl,fun _=>rfl,fun _=>rfl⟩
theorem qb{p:PV}(h:p.flat=true):aK hp p=p/\p.refs=[]/\p.aD=true:=by cases p<;>first|(cases h;done)|exact⟨rfl,rfl,rfl⟩
theorem OL{e ty d:Nat}{ps:List PV}(h:ps.all PV.flat=true)(hl:∀p∈ps,p.cells.length=e)(he:0<e):nM e ty ps d fr hp K=K (af (cI d fr) d (.ms d ps.length)) (Qy hp d ⟨e,ty,ps,false⟩):=by
 have h':=Kax.1 h;have e1:ps.map (aK hp)=ps:=by
  conv=>rhs;rw[<-List.map_id ps]
  exact Kba fun p an=>(qb (h' p an)).1
 have e2:ps.flatMap PV.refs=[]:=by rw[List.flatMap_eq_nil_iff];exact fun p an=>(qb (hp:=hp) (h' p an)).2.1
 have e3:HA hp e ps:=fun p an=>by obtain⟨h1,_,h3⟩:=qb (hp:=hp) (h' p an);rw[h1];exact⟨h3,hl p an⟩
 have hbg:oy ps=false:=by
  unfold oy;split
  ·rename_i x;have:=Kax.1 h x (by simp);unfold lE;split
   ·cases this
   ·rfl
  ·rfl
 simp only[nM,hbg,KaL,if_false,DQ,e1,e2,e3,he,true_and];rfl
theorem bs1{e ty d:Nat}{p:PV}(h:p.flat=true)(hl:p.cells.length=e)(he:0<e):nM e ty [p] d fr hp K=K (af (cI d fr) d (.ms d 1)) (Qy hp d ⟨e,ty,[p],false⟩):=
 OL (by simp[h]) (by simpa using hl) he
theorem bs2{e ty d:Nat}{p q:PV}(h:p.flat=true)(h2:q.flat=true)(hl:p.cells.length=e)(gh:q.cells.length=e)(he:0<e):nM e ty [p,q] d fr hp K=K (af (cI d fr) d (.ms d 2)) (Qy hp d ⟨e,ty,[p,q],false⟩):=
 OL (by simp[h,h2]) (by simp[hl,gh]) he
end Go.FW
namespace Go.FW
theorem Xz{y n s yi:Nat}(hy:(ah y).length=n+2)(ue:(ah y)[n+1]'(by omega)=yi)(h1:2^15<=yi*2^s)(h2:(yi+1)*2^s<=65536):
  (ah (y*2^s)).length=n+2/\32768<=(ah (y*2^s)).getD (n+1) 0/\32768*65536^(n+1)<=y*2^s:=by
 have hl:=Qp y;have e:=oX (ah y) (n+1) (by omega);have ht:=sH hl (n+1) (by omega);rw[lD (by omega),Kal (by omega),ue,Q6]at e;simp only[val,Kb0,KaT]at e;have g1:32768*65536^(n+1)<=y*2^s:=by
  calc 32768*65536^(n+1)<=(yi*2^s)*65536^(n+1):=Kaf _ h1
   _=(65536^(n+1)*yi)*2^s:=by rw[KaS (65536^(n+1)),Nat.mul_right_comm]
   _<=y*2^s:=Kaf _ (by omega)
 have g2:y*2^s<65536^(n+2):=by
  have hp:0<2^s:=KbN (by omega)
  calc y*2^s<(65536^(n+1)*(yi+1))*2^s:=Nat.mul_lt_mul_of_pos_right (by rw[Ka2];omega) hp
   _=65536^(n+1)*((yi+1)*2^s):=Kbf _ _ _
   _<=65536^(n+1)*65536:=Ka7 _ h2
   _=65536^(n+2):=(Kbz ..).symm
 have hle:nl (y*2^s)<=n+2:=mD.2 g2;have fU:¬nl (y*2^s)<=n+1:=fun h=>by have:=mD.1 h;omega
 have hlen:(ah (y*2^s)).length=n+2:=by unfold nl at hle fU;omega
 refine⟨hlen,?_,g1⟩;have e2:=oX (ah (y*2^s)) (n+1) (by omega);have ht2:=sH (Qp (y*2^s)) (n+1) (by omega);rw[lD (by omega),Kal (by omega),Q6]at e2;simp only[val,Kb0,KaT]at e2;have hg:(ah (y*2^s)).getD (n+1) 0=(ah (y*2^s))[n+1]'(by omega):=gm (by omega);rw[hg];apply Decidable.byContradiction;intro h;have:65536^(n+1)*(ah (y*2^s))[n+1]<=65536^(n+1)*32767:=Ka7 _ (by omega);omega
theorem aaU{yi s:Nat}(hs:s<=15)(h1:2^(16-s)<=2*yi)(h2:yi<2^(16-s)):2^15<=yi*2^s/\(yi+1)*2^s<=65536:=by
 have e:2^(16-s)*2^s=65536:=by rw[<-Nat.pow_add,show 16-s+s=16 by omega]
 constructor
 ·have:=Kaf (2^s) h1;rw[e,Kbf]at this;omega
 ·rw[<-e];exact Kaf _ h2
theorem XA{x s m n Y:Nat}(hx:(ah x).length=m+2)(hs:s<=15)(jR:n<=m)(hY:32768*65536^(n+1)<=Y):
  ∃u ex,ah (x*2^s)++[0,0]=u++ex/\u.length=m+3/\Qq u/\val u=x*2^s/\ex.length<=2/\val (u.drop (m+3-(n+2)))<Y:=by
 have VV:=ou (Qp x);rw[hx,Q6]at VV;have hp:0<2^s:=KbN (by omega);have ua:2^s<=2^15:=KbC (by omega) hs;have hX:x*2^s<2^s*65536^(m+2):=by rw[KaS (2^s)];exact Nat.mul_lt_mul_of_pos_right VV hp
 have pk:x*2^s<65536^(m+3):=by have:2^s*65536^(m+2)<=65536*65536^(m+2):=Kaf _ (by omega);rw[Kbz 65536 (m+2),KaS _ 65536];omega
 have ET:¬nl (x*2^s)<=m+1:=fun h=>by
  have h2:¬nl x<=m+1:=by unfold nl;omega
  have h3:=fE (show x<=x*2^s from Nat.le_mul_of_pos_right _ hp);omega
 have lX:nl (x*2^s)<=m+3:=mD.2 pk;have pH:Qq (ah (x*2^s)++[0,0]):=nh.2 ⟨Qp _,by intro z hz;simp at hz;omega⟩;have gN:val (ah (x*2^s)++[0,0])=x*2^s:=by rw[mu,Q6];simp[val]
 have hlen:(ah (x*2^s)++[0,0]).length=nl (x*2^s)+2:=by simp[nl]
 generalize ah (x*2^s)++[0,0]=D at *
 have hv:=oX D (m+3) (by omega);have hz:val (D.drop (m+3))=0:=Cr (by omega);have Mu:(D.take (m+3)).length=m+3:=by rw[KaF];omega
 refine⟨D.take (m+3),D.drop (m+3),(Kbn _ _).symm,Mu,wF pH _,by rw[hz]at hv;omega,by rw[Ka5];omega,?_⟩;have hu:val (D.take (m+3))=x*2^s:=by rw[hz]at hv;omega
 have sn:=oX (D.take (m+3)) (m+3-(n+2)) (by omega);generalize D.take (m+3)=u at *
 have e:65536^(m+2)=65536^(m+3-(n+2))*65536^(n+1):=by rw[<-Nat.pow_add];congr 1;omega
 have:65536^(m+3-(n+2))*val (u.drop (m+3-(n+2)))<65536^(m+3-(n+2))*(2^s*65536^(n+1)):=by rw[Kbx,<-e];omega
 have h4:=Nat.lt_of_mul_lt_mul_left this;have:2^s*65536^(n+1)<=32768*65536^(n+1):=Kaf _ ua;omega
open Go
variable {C : Ctx} {fr : Fr} {hp : HP} {w : World} {K R : Qg}
theorem acK{e ty n:Nat}{fz:Bool}{o d:Nat}{x:PV}(h:o+n<=e):jY (some ⟨e,ty,[x],fz⟩) n true 0 o d fr hp K=K (af fr d (eE true n o x)) hp:=Oj h (by simp)
theorem acL{e ty:Nat}{fz:Bool}{o d:Nat}{x:PV}(h:o+1<=e):jY (some ⟨e,ty,[x],fz⟩) 1 false 0 o d fr hp K=K (af fr d (eE false 1 o x)) hp:=Oj h (by simp)
theorem ajW(n o:Nat)(cs:List PV):eE true n o (.agg cs)= .agg ((cs.drop o).take n):=rfl
theorem ajX(n o:Nat)(cs:List PV):eE false n o (.agg cs)=(cs.drop o).headD .undef:=rfl
theorem YO(n ty β:Nat)(x:PV)(cs:List PV):stM (some ⟨n,ty,[x],false⟩) β n 0 0 (.agg cs) fr hp K=(cs.length=n/\K fr (Qy hp β ⟨n,ty,[.agg cs],false⟩)):=by simp[stM,PV.aD,PV.cells]
theorem acM{e n ty β o:Nat}{x v:PV}(h:v.flat=true)(hn:¬n=e)(hl:v.cells.length=n)(ho:o+n<=e):stM (some ⟨e,ty,[x],false⟩) β n 0 o v fr hp K=K fr (Qy hp β ⟨e,ty,[ra x o v],false⟩):=by have:=(qb (hp:=hp) h).2.2;simp[stM,this,hl,ho,hn]
theorem adU(cs:List PV)(o:Nat)(v:PV):ra (.agg cs) o v= .agg (cs.take o++v.cells++cs.drop (o+v.cells.length)):=rfl
theorem GX(k:IntKind)(n:Int):(PV.int k n).cells=[.int k n]:=rfl
theorem aaV:(PV.aa).cells=[.aa]:=rfl
theorem Gu{p:PV}(h:p.flat=true):p.kD=false:=by cases p<;>simp_all[PV.flat,PV.kD]
theorem C6{z:List PV}{ps:List (Nat×Nat×PV)}{d:Nat}(h:ps.all (fun p=>p.2.2.flat)=true):
  kn z ps d fr hp K=((∀p∈ps,p.2.2.cells.length=p.2.1/\p.1+p.2.1<=z.length)/\K (af fr d (.agg (gZ z (ps.map fun p=>(p.1,p.2.2.cells))))) hp):=by
 have h':=Kax.1 h;have e1:(ps.map fun p=>(p.1,(aK hp p.2.2).cells))=ps.map fun p=>(p.1,p.2.2.cells):=Kba fun p an=>by rw[(qb (h' p an)).1]
 have e2:(ps.flatMap fun p=>p.2.2.refs)=[]:=by rw[List.flatMap_eq_nil_iff];exact fun p an=>(qb (hp:=hp) (h' p an)).2.1
 have e3:Ft hp z.length ps=(∀p∈ps,p.2.2.cells.length=p.2.1/\p.1+p.2.1<=z.length):=by
  apply propext;constructor
  ·intro H p an;obtain⟨_,h2,h3⟩:=H p an;rw[(qb (h' p an)).1]at h2;exact⟨h2,h3⟩
  ·intro H p an;obtain⟨h2,h3⟩:=H p an;obtain⟨g1,_,g3⟩:=qb (hp:=hp) (h' p an);rw[g1];exact⟨g3,h2,h3⟩
 have e4:ps.any (fun p=>p.2.2.kD)=false:=by rw[KbB];exact fun p an=>by simp[Gu (h' p an)]
 simp only[kn,e4,z8,e1,e2,e3,KaL,if_false];rfl
theorem ak9(z:List PV)(d:Nat):kn z [] d fr hp K=K (af fr d (.agg z)) hp:=by rw[C6 rfl];simp[gZ]
theorem ala{z:List PV}{o n d:Nat}{p:PV}(h:p.flat=true):kn z [(o,n,p)] d fr hp K=((p.cells.length=n/\o+n<=z.length)/\K (af fr d (.agg (z.take o++p.cells++z.drop (o+p.cells.length)))) hp):=by rw[C6 (by simp[h])];simp[gZ]
theorem alb{z:List PV}{o n o2 n2 d:Nat}{p q:PV}(h:p.flat=true)(h2:q.flat=true):kn z [(o,n,p),(o2,n2,q)] d fr hp K=
  ((p.cells.length=n/\o+n<=z.length)/\(q.cells.length=n2/\o2+n2<=z.length)/\K (af fr d (.agg (gZ z [(o,p.cells),(o2,q.cells)]))) hp):=by
 rw[C6 (by simp[h,h2])];simp[and_assoc]
theorem alc{z:List PV}{o n o2 n2 o3 n3 d:Nat}{p q r:PV}(h:p.flat=true)(h2:q.flat=true)(h3:r.flat=true):kn z [(o,n,p),(o2,n2,q),(o3,n3,r)] d fr hp K=
  ((p.cells.length=n/\o+n<=z.length)/\(q.cells.length=n2/\o2+n2<=z.length)/\(r.cells.length=n3/\o3+n3<=z.length)/\K (af fr d (.agg (gZ z [(o,p.cells),(o2,q.cells),(o3,r.cells)]))) hp):=by
 rw[C6 (by simp[h,h2,h3])];simp[and_assoc]
theorem aaW(c:List PV):gZ c []=c:=rfl
theorem YP(c xs:List PV)(o:Nat)(r:List (Nat×List PV)):gZ c ((o,xs)::r)=gZ (c.take o++xs++c.drop (o+xs.length)) r:=rfl
def BO(p:PV)(hp:HP)(n:Nat)(ag:Bool):PV:=match p with
 |.mp β i o=>match hp β with
  |some hb=>if i<hb.xs.length/\o+n<=hb.e/\(ag=false->n=1)then eE ag n o ((hb.xs[i]?).getD .undef)else .undef
  |none=>.undef
 |_=>.undef
def gv(fr:Fr)(hp:HP):RV->PV
 |.t s=>aK hp (fr s)
 |.cell s n ag=>BO (fr s) hp n ag
def z'(hb:Option HB)(n:Nat)(ag:Bool)(i o:Nat):PV:=match hb with
  |some hb=>if i<hb.xs.length/\o+n<=hb.e/\(ag=false->n=1)then eE ag n o ((hb.xs[i]?).getD .undef)else .undef
  |none=>.undef
theorem alG(fr:Fr)(hp:HP)(s:Nat):gv fr hp (.t s)=aK hp (fr s):=rfl
theorem alF(fr:Fr)(hp:HP)(s n:Nat)(ag:Bool):gv fr hp (.cell s n ag)=BO (fr s) hp n ag:=rfl
theorem acN(hp:HP)(n:Nat)(ag:Bool)(β i o:Nat):BO (.mp β i o) hp n ag=z' (hp β) n ag i o:=rfl
theorem adV{e ty n o:Nat}{fz:Bool}{x:PV}(h:o+n<=e):z' (some ⟨e,ty,[x],fz⟩) n true 0 o=eE true n o x:=by simp[z',h]
theorem adW{e ty o:Nat}{fz:Bool}{x:PV}(h:o+1<=e):z' (some ⟨e,ty,[x],fz⟩) 1 false 0 o=eE false 1 o x:=by simp[z',h]
theorem FG{r:RV}(h:(gv fr hp r).aD=true):jZ fr hp r/\jD fr hp r=gv fr hp r:=by
 cases r with
 |t s=>exact⟨h,rfl⟩
 | cell s n ag=>
  simp only[gv,jZ,jD]at h⊢;cases nU:fr s with
  | mp β i o=>
   rw[nU]at h;simp only[BO]at h⊢;cases al:hp β with
   |none=>rw[al]at h;cases h
   | some hb=>
    rw[al]at h;simp only at h⊢;split at h
    ·rename_i hc;rw[if_pos hc];exact⟨hc,rfl⟩
    ·cases h
  |_=>rw[nU]at h;cases h
theorem dA{r:RV}{Rr:PV->Prop}(h:xD Rr (gv fr hp r)):fS [r] Rr fr hp:=by obtain⟨h1,h2⟩:=FG h.1;exact⟨h1,by rw[h2];exact h.2⟩
theorem jr{r s:RV}{Rr:PV->Prop}(h:BN Rr (gv fr hp r) (gv fr hp s)):fS [r,s] Rr fr hp:=by obtain⟨⟨a,b⟩,c⟩:=h;obtain⟨h1,h2⟩:=FG a;obtain⟨h3,h4⟩:=FG b;refine⟨by simp[h1,h3],?_⟩;simp only[Kbj,Kbu,h2,h4];exact c
end Go.FW
namespace Go.FW
open Go
def zv(n:Bool)(a:List Nat):Int:=if n then -(val a:Int)else val a
abbrev PV.zi(n:Bool)(a:List Nat):PV:=.agg [.bool n,PV.nat a]
abbrev PV.zz(z:Int):PV:=.agg [.bool (decide (z<0)),PV.num z.natAbs]
theorem HV(n:Bool)(x:Nat):PV.agg [.bool (n&&decide (0<(ah x).length)),PV.num x]=PV.zz (if n then -(x:Int)else x):=by
 have h:0<(ah x).length↔x≠0:=by
  constructor
  ·intro h h0;rw[h0,fC]at h;simp at h
  ·intro h;apply KaY;intro h0;exact h (j9.1 (oW h0))
 cases n
 ·simp
 ·simp only[KbY,if_true,PV.zz,KcC,KaD];congr 3;exact decide_eq_decide.2 (by rw[h];omega)
theorem lF(z:Int):zv (decide (z<0)) (ah z.natAbs)=z:=by unfold zv;rw[Q6];by_cases h:z<0<;>simp[h]<;>omega
theorem jF(n:Bool)(a:List Nat):(zv n a).natAbs=val a:=by unfold zv;split<;>simp
theorem sW(a:List Nat):zv false a=val a:=rfl
theorem rG(n:Bool)(x:Nat):zv n (ah x)=if n then -(x:Int)else x:=by unfold zv;rw[Q6]
def fk(z:Int):Int:=if z<0 then -1 else if 0<z then 1 else 0
def cW(x y:Int):Int:=if x<y then -1 else if y<x then 1 else 0
theorem Fu(n:Bool)(a:List Nat):fk (zv n a)=if val a=0 then 0 else if n then -1 else 1:=by unfold fk zv;cases n<;>simp<;>split<;>(try split)<;>omega
theorem xa{x:Int}:fk x<0↔x<0:=by unfold fk;split<;>(try split)<;>omega
theorem adX{x y:Int}(h:fk x<fk y):cW x y= -1:=by unfold fk at h;unfold cW;rw[if_pos];split at h<;>split at h<;>(try split at h)<;>(try split at h)<;>omega
theorem adY{x y:Int}(h:fk y<fk x):cW x y=1:=by
 have:y<x:=by unfold fk at h;split at h<;>split at h<;>(try split at h)<;>(try split at h)<;>omega
 unfold cW;rw[if_neg (by omega),if_pos this]
theorem C7(n:Bool)(a:List Nat):zv n a=val a∨zv n a= -(val a:Int):=by unfold zv;split<;>simp
theorem adZ{n m:Bool}{a b:List Nat}(h:zv n a<0)(h2:zv m b<0):gM (val b) (val a)=cW (zv n a) (zv m b):=by
 unfold gM cW;have e:=C7 n a;have f:=C7 m b;generalize zv n a=p at *
 generalize zv m b=q at *
 repeat' split
 all_goals omega
theorem ad0{n m:Bool}{a b:List Nat}(h:¬zv n a<0)(h2:¬zv m b<0):gM (val a) (val b)=cW (zv n a) (zv m b):=by
 unfold gM cW;have e:=C7 n a;have f:=C7 m b;generalize zv n a=p at *
 generalize zv m b=q at *
 repeat' split
 all_goals omega
theorem C8{x y:Nat}:gM x y<0↔x<y:=by unfold gM;split<;>(try split)<;>omega
variable {C : Ctx} {fr : Fr} {hp : HP} {w : World} {K R : Qg}
def FH(hb:Option HB)(o n:Nat):PV:=match hb with
 |some hb=>.sl hb.e ((hb.xs.drop o).take n)
 |none=>.undef
theorem dV:(∀(hp:HP)(β o n:Nat),aK hp (.ax β o n)=if bG β=true then .undef else FH (hp β) o n)/\
  (∀(e ty o n:Nat)(xs:List PV)(fz:Bool),FH (some ⟨e,ty,xs,fz⟩) o n= .sl e ((xs.drop o).take n))/\
  (∀(β:Nat),bG β=(decide (1000000<=β)&&decide (β<2000000)))/\
  (∀(hp:HP)(l:List Nat)(β:Nat),FW.cb hp l β=if l.contains β=true then(hp β).map (fun hb=>{ hb with fz:=true })else hp β):=by
 refine⟨fun hp β o n=>?_,fun _ _ _ _ _ _=>rfl,fun _=>rfl,fun _ _ _=>rfl⟩;simp only[aK,cB,FH];cases bG β<;>cases hp β<;>rfl
theorem ahu{n d:Nat}{cs:List PV}(h:n<=cs.length):kE n true (.pt cs) d fr hp K=K (af fr d (.agg (cs.take n))) hp:=by simp[kE,h,eE,PV.cells]
theorem ahv{off d:Nat}{cs:List PV}(h:off<=cs.length):qw off (.pt cs) d fr hp K=K (af fr d (.pt (cs.drop off))) hp:=by simp[qw,h]
theorem ahw{off n d:Nat}{cs:List PV}(h:off+n<=cs.length):qo off n true (.agg cs) d fr hp K=K (af fr d (.agg ((cs.drop off).take n))) hp:=by simp[qo,h,eE,PV.cells]
theorem ahx{off d:Nat}{cs:List PV}(h:off+1<=cs.length):qo off 1 false (.agg cs) d fr hp K=K (af fr d ((cs.drop off).headD .undef)) hp:=by simp[qo,h,eE,PV.cells]
def rv(n:Bool)(a d:List Nat):Rat:=mkRat (zv n a) (val d)
abbrev PV.rr(n:Bool)(a d:List Nat):PV:=.agg [.bool n,PV.nat a,PV.nat d]
abbrev PV.rat(q:Rat):PV:=.agg [.bool (decide (q.num<0)),PV.num q.num.natAbs,PV.num q.den]
theorem gK(q:Rat):rv (decide (q.num<0)) (ah q.num.natAbs) (ah q.den)=q:=by unfold rv;rw[lF,Q6,Kc4]
theorem y8{z:Int}{D:Nat}(hD:D≠0):(mkRat z D).num=z/(Nat.gcd z.natAbs D:Int)/\(mkRat z D).den=D/Nat.gcd z.natAbs D:=by rw[Rat.mkRat_def,dif_neg hD,Rat.normalize_eq];exact⟨rfl,rfl⟩
theorem Pw{z:Int}{D:Nat}(hD:D≠0):PV.agg [.bool (decide (z<0)),PV.num (z.natAbs/Nat.gcd z.natAbs D),PV.num (D/Nat.gcd z.natAbs D)]=PV.rat (mkRat z D):=by
 obtain⟨h1,h2⟩:=y8 (z:=z) hD;have hg:0<Nat.gcd z.natAbs D:=Nat.gcd_pos_of_pos_right _ (KaY hD);have LS:(Nat.gcd z.natAbs D:Int)∣z:=KcZ.2 (KbI _ _);obtain⟨k,hk⟩:=LS;rw[PV.rat,h1,h2];generalize hgg:Nat.gcd z.natAbs D=g at *
 have e1:z/(g:Int)=k:=by rw[hk,Int.mul_ediv_cancel_left _ (by omega)]
 have e2:z.natAbs/g=k.natAbs:=by rw[hk,Kcq,KaD,Kbg _ hg]
 have e3:z<0↔k<0:=by
  rw[hk];constructor
  ·intro h;apply Decidable.byContradiction;intro h';have:=Int.mul_nonneg (show(0:Int)<=g by omega) (show 0<=k by omega);omega
  ·intro h;exact Int.mul_neg_of_pos_of_neg (by omega) h
 rw[e1,e2,decide_eq_decide.2 e3]
theorem ajY(z:Int):PV.agg [.bool (decide (z<0)),PV.num z.natAbs,PV.nat [1]]=PV.rat (mkRat z 1):=by rw[<-Pw (by omega),Nat.gcd_one_right,Nat.div_one,Nat.div_one,PV.num,PV.num,rC]
theorem OM:PV.le (.agg [.bool false,.aa,PV.nat [1]]) (PV.rat 0):=by
 show PV.Bt _ _;refine⟨rfl,?_,?_,trivial⟩
 ·show PV.l5 .aa (PV.nat (ah 0));rw[fC];trivial
 ·show PV.l5 (PV.nat [1]) (PV.nat (ah 1));rw[rC];exact zo _
theorem Rs{z:Int}{D:Nat}(h:D=0∨z=0):mkRat z D=0:=by
 rcases h with h|h
 ·rw[h,Rat.mkRat_zero]
 ·rw[h,Rat.zero_mkRat]
def rs(q:Rat):Nat:=max (nl q.num.natAbs) (nl q.den)
theorem u5(x y:Nat):nl (x/y)<=nl x:=fE (KcK _ _)
theorem jG:nl 1=1:=by unfold nl;rw[rC];rfl
theorem CY(z:Int)(D:Nat):rs (mkRat z D)<=max (nl z.natAbs) (max (nl D) 1):=by
 by_cases hD:D=0
 ·rw[hD,Rat.mkRat_zero];show max (nl 0) (nl 1)<=_;rw[w8,jG];omega
 ·obtain⟨h1,h2⟩:=y8 (z:=z) hD;unfold rs;rw[h1,h2];have e:(z/(Nat.gcd z.natAbs D:Int)).natAbs<=z.natAbs:=by have LS:(Nat.gcd z.natAbs D:Int)∣z:=KcZ.2 (KbI _ _);rw[Int.natAbs_ediv_of_dvd LS];exact KcK _ _
  have:=fE e;have:=u5 D (Nat.gcd z.natAbs D);omega
theorem yI(x y:Int):nl (x+y).natAbs<=max (nl x.natAbs) (nl y.natAbs)+1:=
 Kay (fE (Int.natAbs_add_le x y)) (uY _ _)
theorem lA(x y:Int):nl (x*y).natAbs<=nl x.natAbs+nl y.natAbs:=by rw[Kcq];exact gJ _ _
theorem Px(q:Rat):1<=rs q:=by have:nl q.den≠0:=fun h=>q.den_nz (wG.1 h);unfold rs;omega
theorem DD(a b:Rat):rs (a+b)<=rs a+rs b+1:=by
 have e:a+b=mkRat (a.num*b.den+b.num*a.den) (a.den*b.den):=by
  conv=>lhs;rw[<-Rat.mkRat_self a,<-Rat.mkRat_self b]
  exact Rat.mkRat_add_mkRat _ _ a.den_nz b.den_nz
 rw[e];have h1:=CY (a.num*b.den+b.num*a.den) (a.den*b.den);have h2:=yI (a.num*b.den) (b.num*a.den);have h3:=lA a.num b.den;have h4:=lA b.num a.den;have h5:=gJ a.den b.den;rw[KaD]at h3 h4;unfold rs at *
 omega
theorem Py(a b:Rat):rs (a*b)<=rs a+rs b:=by
 have e:a*b=mkRat (a.num*b.num) (a.den*b.den):=by
  conv=>lhs;rw[<-Rat.mkRat_self a,<-Rat.mkRat_self b]
  exact Rat.mkRat_mul_mkRat _ _ _ _
 rw[e];have h1:=CY (a.num*b.num) (a.den*b.den);have h3:=lA a.num b.num;have h5:=gJ a.den b.den;have:=Px a;unfold rs at *
 omega
theorem ahy{n k:Nat}{a d:List Nat}{b:Bool}(ha:Qq a)(hd:Qq d)(h1:a.length<=k)(h2:d.length<=k)(hk:1<=k):rs (rv b a d)<=k:=by unfold rv;have h:=CY (zv b a) (val d);rw[jF]at h;have:=cj ha;have:=cj hd;omega
end Go.FW
namespace Go.FW
open Go
def ga(q:Rat):Int:=fk q.num
def nJ(p q:Rat):Int:=if p<q then -1 else if q<p then 1 else 0
theorem FV{z:Int}{D:Nat}(hD:D≠0):∃g:Nat,0<g/\z=(mkRat z D).num*g/\D=(mkRat z D).den*g:=by
 obtain⟨h1,h2⟩:=y8 (z:=z) hD;have hg:0<Nat.gcd z.natAbs D:=Nat.gcd_pos_of_pos_right _ (KaY hD);refine⟨_,hg,?_,?_⟩
 ·rw[h1,Int.ediv_mul_cancel (KcZ.2 (KbI _ _))]
 ·rw[h2,Nat.div_mul_cancel (KbU _ _)]
theorem YQ{a:Int}{g:Nat}(hg:0<g):a*g<0↔a<0:=by
 constructor
 ·intro h;apply Decidable.byContradiction;intro h';have:=Int.mul_nonneg (show 0<=a by omega) (show(0:Int)<=g by omega);omega
 ·intro h;exact Int.mul_neg_of_neg_of_pos h (by omega)
theorem YR{a:Int}{g:Nat}(hg:0<g):0<a*g↔0<a:=by
 constructor
 ·intro h;apply Decidable.byContradiction;intro h';have:=Int.mul_nonneg (show 0<= -a by omega) (show(0:Int)<=g by omega);rw[Int.neg_mul]at this;omega
 ·intro h;exact Int.mul_pos h (by omega)
theorem aaX{z:Int}{D:Nat}(hD:D≠0):ga (mkRat z D)=fk z:=by
 obtain⟨g,hg,h1,_⟩:=FV (z:=z) hD;unfold ga;generalize(mkRat z D).num=x at *
 subst h1;unfold fk;have:=YQ (a:=x) hg;have:=YR (a:=x) hg
 repeat' split
 all_goals omega
theorem Nm{x y:Int}{d c:Nat}(hd:d≠0)(hc:c≠0):mkRat x d<mkRat y c↔x*c<y*d:=by
 obtain⟨g,hg,h1,h2⟩:=FV (z:=x) hd;obtain⟨k,hk,h3,h4⟩:=FV (z:=y) hc;rw[Rat.lt_iff];generalize(mkRat x d).num=p at *
 generalize(mkRat x d).den=p' at *
 generalize(mkRat y c).num=q at *
 generalize(mkRat y c).den=q' at *
 subst h1 h2 h3 h4;have e1:p*(g:Int)*((q'*k:Nat):Int)=(p*q')*((g*k:Nat):Int):=by push_cast;grind
 have e2:q*(k:Int)*((p'*g:Nat):Int)=(q*p')*((g*k:Nat):Int):=by push_cast;grind
 rw[e1,e2];have xY:(0:Int)<((g*k:Nat):Int):=by exact_mod_cast Kce hg hk
 exact⟨fun h=>Int.mul_lt_mul_of_pos_right h xY,fun h=>Int.lt_of_mul_lt_mul_right h (Int.le_of_lt xY)⟩
theorem ON{x y:Int}{d c:Nat}(hd:d≠0)(hc:c≠0):nJ (mkRat x d) (mkRat y c)=cW (x*c) (y*d):=by unfold nJ cW;simp only[Nm hd hc,Nm hc hd]
theorem CZ{x:Int}:fk x=0↔x=0:=by unfold fk;(repeat' split)<;>omega
theorem gY{q:Rat}:ga q=0↔q=0:=by unfold ga;rw[CZ,Rat.num_eq_zero]
theorem C0{q:Rat}:ga q<0↔q<0:=by unfold ga;rw[xa,Rat.lt_iff];simp
theorem Nn{q:Rat}:0<ga q↔0<q:=by
 unfold ga;rw[Rat.lt_iff];unfold fk;simp;repeat' split
 all_goals omega
theorem Tn(q:Rat):ga q= -1∨ga q=0∨ga q=1:=by unfold ga fk;(repeat' split)<;>omega
theorem No{p q:Rat}(h:ga p<ga q):nJ p q= -1:=by
 unfold nJ;rw[if_pos];rcases Tn p with h1|h1|h1<;>rcases Tn q with h2|h2|h2<;>first|omega|skip
 ·have a:=C0.1 (show ga p<0 by omega);have b:=gY.1 h2;grind
 ·have a:=C0.1 (show ga p<0 by omega);have b:=Nn.1 (show 0<ga q by omega);grind
 ·have a:=gY.1 h1;have b:=Nn.1 (show 0<ga q by omega);grind
theorem acO{p q:Rat}(h:ga q<ga p):nJ p q=1:=by
 have:=No h;unfold nJ at *
 have ar:q<p:=by apply Decidable.byContradiction;intro hn;rw[if_neg hn]at this;split at this<;>omega
 rw[if_neg (by grind),if_pos ar]
theorem To{p q:Rat}:nJ p q=0↔p=q:=by
 unfold nJ;constructor
 ·intro h;split at h
  ·omega
  ·split at h
   ·omega
   ·grind
 ·rintro rfl;rw[if_neg (by grind),if_neg (by grind)]
def nC(n:Bool)(a:List Nat):Bool:=if a=[]then !n else decide (a.getLast? ≠some 0)
def o8(n:Bool)(a d:List Nat):Bool:=nC n a&&(decide (d≠[]/\d.getLast? ≠some 0)&&decide (Nat.gcd (val a) (val d)=1))
theorem acP{n:Bool}{a d:List Nat}(ha:Qq a)(hd:Qq d)(h:o8 n a d=true):n=decide ((rv n a d).num<0)/\a=ah (rv n a d).num.natAbs/\d=ah (rv n a d).den:=by
 simp only[o8,nC,Kat,decide_eq_true_eq]at h;obtain⟨h1,⟨h2,h3⟩,h4⟩:=h;have ea:a=ah (val a):=by
  refine(zF ha ?_).symm;split at h1
  ·rename_i h;subst h;simp
  ·simpa using h1
 have ed:d=ah (val d):=(zF hd h3).symm;have hD:val d≠0:=fun h=>h2 (by rw[ed,h,fC]);obtain⟨g1,g2⟩:=y8 (z:=zv n a) hD;rw[jF,h4]at g1 g2;have DW:(rv n a d).num=zv n a:=by unfold rv;rw[g1];simp
 have g2':(rv n a d).den=val d:=by unfold rv;rw[g2];simp
 rw[DW,g2',jF];refine⟨?_,ea,ed⟩;unfold zv;split at h1
 ·rename_i h;subst h;simp at h1;subst h1;simp[val]
 ·rename_i h;have h0:val a≠0:=fun h'=>h (by rw[ea,h',fC]);cases n<;>simp;omega
theorem Rt{a:List Nat}{k:Nat}(h:a.length=k+1):a.getLast? =some (a[k]'(by omega)):=by rw[Ka3,show a.length-1=k by omega];exact Kam _
def eN(a:List Int)(i:Nat):Int:=a.getD i 0
theorem e9{a:List Int}{i:Nat}(h:i<a.length):eN a i=a[i]:=by simp[eN,Kao,h]
theorem fq{a:List Int}{i:Nat}(h:a.length<=i):eN a i=0:=by simp[eN,Kao,List.getElem?_eq_none h]
theorem Fv(i:Nat):eN [] i=0:=by simp[eN]
def kp(l:List Int):Nat->List Int
 |0=>[]
 |n+1=>if l[n]? =some 0 then kp l n else l.take (n+1)
def gL(l:List Int):List Int:=kp l l.length
theorem Ru(l:List Int):∀n,(kp l n).length<=n
 |0=>by simp[kp]
 |n+1=>by
  rw[kp];split
  ·have:=Ru l n;omega
  ·simp;omega
theorem Tp(l:List Int):∀n,n<=l.length->(kp l n).getLast? ≠some 0
 |0,_=>by simp[kp]
 | n+1,h=>by
  rw[kp];split
  ·exact Tp l n (by omega)
  ·rename_i hn;have:(l.take (n+1)).getLast? =l[n]? :=by rw[Ka3,KaF,KbX h];simp[Kca]
   rw[this];exact hn
theorem OO(l:List Int)(i:Nat):∀n,n<=l.length->eN (kp l n) i=if i<n then eN l i else 0
 |0,_=>by simp[kp,eN]
 | n +1,h=>by
  rw[kp];split
  ·rename_i hn;rw[OO l i n (by omega)];by_cases h1:i<n
   ·simp[h1,show i<n+1 by omega]
   ·rw[if_neg h1];split
    ·obtain rfl:i=n:=by omega
     simp[eN,Kao,hn]
    ·rfl
  ·simp only[eN,Kao,Kca];split<;>simp_all
theorem zx(l:List Int)(i:Nat):eN (gL l) i=eN l i:=by
 rw[gL,OO l i _ (Kac _)];split
 ·rfl
 ·exact(fq (by omega)).symm
theorem Cx(l:List Int):(gL l).getLast? ≠some 0:=Tp l _ (Kac _)
theorem sI(l:List Int):(gL l).length<=l.length:=Ru l _
theorem qh{a b:List Int}(ha:a.getLast? ≠some 0)(hb:b.getLast? ≠some 0)(h:∀i,eN a i=eN b i):a=b:=by
 have key:∀(a b:List Int),b.getLast? ≠some 0->(∀i,eN a i=eN b i)->¬a.length<b.length:=by intro a b hb h ar;have h1:=h (b.length-1);rw[fq (by omega),e9 (by omega)]at h1;apply hb;rw[Ka3,Kam (by omega),<-h1]
 have h1:=key a b hb h;have h2:=key b a ha (fun i=>(h i).symm);refine KcT (by omega) fun i h3 h4=>?_;have:=h i
 rwa[e9 h3,e9 h4]at this
theorem Hf{a:List Int}(h:a.getLast? ≠some 0):gL a=a:=qh (Cx a) h (zx a)
def dp(a b:List Int):Nat->Int
 |0=>0
 |n+1=>if eN a n=eN b n then dp a b n else cW (eN a n) (eN b n)
def aR(a b:List Int):Int:=dp a b (max a.length b.length)
theorem OP{x y:Int}:cW x y=0↔x=y:=by unfold cW;(repeat' split)<;>omega
theorem aaY(x y:Int):cW x y= -1∨cW x y=0∨cW x y=1:=by unfold cW;(repeat' split)<;>omega
theorem uS{x y:Int}:cW x y<0↔x<y:=by unfold cW;(repeat' split)<;>omega
theorem acQ(x y:Int):cW y x= -cW x y:=by unfold cW;(repeat' split)<;>omega
theorem CW(a b:List Int):∀n,dp a b n=0↔∀i,i<n->eN a i=eN b i
 |0=>by simp[dp]
 | n+1=>by
  rw[dp];split
  ·rename_i h;rw[CW a b n];exact⟨fun H i hi=>by
    by_cases h1:i=n
    ·subst h1;exact h
    ·exact H i (by omega),fun H i hi=>H i (by omega)⟩
  ·rename_i h;rw[OP];exact⟨fun H=>absurd H h,fun H=>H n (by omega)⟩
theorem Np(a b:List Int):∀n,dp b a n= -dp a b n
 |0=>rfl
 |n+1=>by
  rw[dp,dp];by_cases h:eN a n=eN b n
  ·rw[if_pos h,if_pos h.symm,Np a b n]
  ·rw[if_neg h,if_neg (fun h'=>h h'.symm),acQ]
theorem RR{a b c:List Int}:∀n,dp a b n<0->dp b c n<0->dp a c n<0
 |0=>by simp[dp]
 | n+1=>by
  intro h1 h2;rw[dp]at h1 h2⊢;split at h1<;>split at h2
  ·rename_i e1 e2;rw[if_pos (e1.trans e2)];exact RR n h1 h2
  ·rename_i e1 e2;rw[e1,if_neg e2];exact h2
  ·rename_i e1 e2;rw[<-e2,if_neg e1];exact h1
  ·rename_i e1 e2;rw[uS]at h1 h2;rw[if_neg (by omega),uS];omega
theorem sX{a b:List Int}{m:Nat}(h:max a.length b.length<=m):dp a b m=aR a b:=by
 obtain⟨k,rfl⟩:∃k,m=max a.length b.length+k:=⟨m-max a.length b.length,by omega⟩
 induction k with
 |zero=>rfl
 |succ k ih=>rw[<-Nat.add_assoc,dp,if_pos (by rw[fq (by omega),fq (by omega)])];exact ih (by omega)
theorem HW{a b:List Int}(ha:a.getLast? ≠some 0)(hb:b.getLast? ≠some 0):aR a b=0↔a=b:=by
 unfold aR;rw[CW];constructor
 ·intro h;refine qh ha hb fun i=>?_;by_cases hi:i<max a.length b.length
  ·exact h i hi
  ·rw[fq (by omega),fq (by omega)]
 ·rintro rfl i _;rfl
theorem CH(a:List Int):aR a a=0:=by rw[aR,CW];intros;rfl
theorem uO(a b:List Int):aR b a= -aR a b:=by unfold aR;rw[Nat.max_comm,Np]
theorem YS{a b c:List Int}(h1:aR a b<0)(h2:aR b c<0):aR a c<0:=by
 have e:∀x y:List Int,x.length<=a.length+b.length+c.length->y.length<=a.length+b.length+c.length->aR x y=dp x y (a.length+b.length+c.length):=fun x y hx hy=>(sX (by omega)).symm;rw[e _ _ (by omega) (by omega)]at *
 exact RR _ h1 h2
theorem YT{a b c d:List Int}(h1:∀i,eN a i=eN c i)(h2:∀i,eN b i=eN d i):aR a b=aR c d:=by
 have key:∀n,dp a b n=dp c d n:=by
  intro n;induction n with
  |zero=>rfl
  |succ n ih=>rw[dp,dp,h1,h2,ih]
 rw[<-sX (m:=max (max a.length b.length) (max c.length d.length)) (by omega),key,sX (by omega)]
def kq(g:Int->Int->Int)(a b:List Int):List Int:=(List.range (max a.length b.length)).map fun i=>g (eN a i) (eN b i)
theorem oU(g:Int->Int->Int)(a b:List Int):(kq g a b).length=max a.length b.length:=by simp[kq]
theorem OQ{g:Int->Int->Int}(hg:g 0 0=0)(a b:List Int)(i:Nat):eN (kq g a b) i=g (eN a i) (eN b i):=by
 by_cases h:i<max a.length b.length
 ·rw[e9 (by rw[oU];exact h)];simp[kq]
 ·rw[fq (by rw[oU];omega),fq (by omega),fq (by omega),hg]
def b7(a b:List Int):List Int:=gL (kq (· + ·) a b)
theorem jH(a b:List Int)(i:Nat):eN (b7 a b) i=eN a i+eN b i:=by rw[b7,zx,OQ (by simp)]
theorem rp(a b:List Int):(b7 a b).getLast? ≠some 0:=Cx _
theorem CI(a b:List Int):b7 a b=b7 b a:=qh (rp _ _) (rp _ _) fun i=>by rw[jH,jH,Int.add_comm]
theorem uP{a:List Int}(h:a.getLast? ≠some 0):b7 a []=a:=qh (rp _ _) h fun i=>by rw[jH,Fv,Int.add_zero]
theorem acR(a b c:List Int):aR (b7 a c) (b7 b c)=aR a b:=by
 have key:∀n,dp (b7 a c) (b7 b c) n=dp a b n:=by
  intro n;induction n with
  |zero=>rfl
  |succ n ih=>
   rw[dp,dp,jH,jH,ih];by_cases h:eN a n=eN b n
   ·rw[if_pos h,if_pos (by omega)]
   ·rw[if_neg h,if_neg (by omega)];unfold cW;(repeat' split)<;>omega
 rw[<-sX (m:=max (max (b7 a c).length (b7 b c).length) (max a.length b.length)) (by omega),key,sX (by omega)]
def ff(a:List Int):Int:=a.sum
def fo(a:List Int):Bool:=decide (a.length<=64)&&(decide (a.getLast? ≠some 0)&&a.all fun x=>decide (0<=x)&&decide (x<=1048576))
def jM(o:Int)(a b:List Int):Int:=if o=1/\ff a≠ff b then cW (ff a) (ff b)else aR a b
structure MB(k:Nat)(a:List Int):Prop where
 len:a.length<=64
 lo:∀x∈a,0<=x
 hi:∀x∈a,x<=k
theorem MB.eN{k:Nat}{a:List Int}(h:MB k a)(i:Nat):0<=FW.eN a i/\FW.eN a i<=k:=by
 by_cases hi:i<a.length
 ·rw[e9 hi];exact⟨h.lo _ (Kah _),h.hi _ (Kah _)⟩
 ·rw[fq (by omega)];omega
theorem MB.mono{k k':Nat}{a:List Int}(h:MB k a)(hk:k<=k'):MB k' a:=⟨h.len,h.lo,fun x hx=>by have:=h.hi x hx;omega⟩
theorem MB.uk{a:List Int}(h:fo a=true):MB 1048576 a:=by simp only[fo,Kat,decide_eq_true_eq,Kax]at h;exact⟨h.1,fun x hx=>(h.2.2 x hx).1,fun x hx=>(h.2.2 x hx).2⟩
theorem MB.mul{k l:Nat}{a b:List Int}(h:MB k a)(g:MB l b):MB (k+l) (b7 a b):=by
 have hl:(b7 a b).length<=64:=by have:=sI (kq (· + ·) a b);rw[oU]at this;have:=h.len;have:=g.len;unfold b7;omega
 refine⟨hl,fun x hx=>?_,fun x hx=>?_⟩
 all_goals
  obtain⟨i,hi,rfl⟩:=Kbd hx;rw[<-e9 hi,jH];have:=h.eN i;have:=g.eN i
  push_cast;omega
variable {C : Ctx} {fr : Fr} {hp : HP} {w : World} {K R : Qg}
theorem ajZ{α:Type}{f:α->PV}{e d:Nat}{xs:List α}{k k':IntKind}{n:Nat}(h5:n<=xs.length):
  iA e (.sl e (xs.map f)) none (some (.int k (n:Int))) (some (.int k' (n:Int))) d fr hp K=K (af fr d (.sl e ((xs.take n).map f))) hp:=by
 simp[iA,il,h5]
theorem C1{α:Type}{a:List α}{k:Nat}(h:a.length=k+1):a.getLast? =some (a[k]'(by omega)):=by rw[Ka3,show a.length-1=k by omega];exact Kam _
theorem XC{α:Type}{f:α->PV}{e by_ ty d:Nat}{xs:List α}(h0:0<e)(h1:xs.length*by_<=140737488355328)(h2:xs.length<=9223372036854775807):
  iH e by_ ty .aa (.sl e (xs.map f)) d fr hp K=K (af (cI d fr) d (.ms d xs.length)) (Qy hp d ⟨e,ty,xs.map f,false⟩):=by
 have:=Cw (fr:=fr) (hp:=hp) (K:=K) (e:=e) (by_:=by_) (ty:=ty) (d:=d) (x:=.sl e (xs.map f)) (ys:=xs.map f) rfl h0 (by simpa using h1) (by simpa using h2);simpa using this
theorem mz{α:Type}{f:α->PV}{e by_ ty d β n:Nat}{xs ys:List α}(hb:hp β=some ⟨e,ty,xs.map f,false⟩)(hn:n=xs.length)(h0:0<e)(h1:(n+ys.length)*by_<=140737488355328)(h2:n+ys.length<=9223372036854775807)(hB:b9 β=false:=by decide):
  iH e by_ ty (.ms β n) (.sl e (ys.map f)) d fr hp K=K (af (cI β fr) d (.ms β (n+ys.length))) (Qy hp β ⟨e,ty,(xs++ys).map f,false⟩):=by
 rw[Gt (ys:=ys.map f) (xs:=xs.map f) rfl hb h0 (by simp[hn]) (by simpa using h1) (by simpa using h2) hB];rw[Kae (by simp[hn]),List.map_append,KaV]
theorem Q9{α:Type}{f:α->PV}{y:α}{e by_ ty ty' d β γ n:Nat}{xs:List α}{fz:Bool}(hb:hp β=some ⟨e,ty,xs.map f,false⟩)(hy:hp γ=some ⟨e,ty',[f y],fz⟩)(h0:0<e)(hn:n=xs.length)(h1:(n+1)*by_<=140737488355328)(h2:n+1<=9223372036854775807)(hB:b9 β=false:=by decide):
  iH e by_ ty (.ms β n) (.ms γ 1) d fr hp K=K (af (cI β fr) d (.ms β (n+1))) (Qy hp β ⟨e,ty,(xs++[y]).map f,false⟩):=by
 rw[Ha hb hy h0 (by simp[hn]) h1 h2 hB];simp
abbrev PV.mono(a:List Int):PV:=.sl 1 (iI a)
theorem Tq{a:List Int}(h:a=[]):PV.le .aa (PV.mono a):=by subst h;trivial
theorem ahz{by_ ty d:Nat}{k k':IntKind}{n c:Nat}(h2:n<=c)(h3:by_*c<=281474976710656)(h4:c<=9223372036854775807):
  m8 1 by_ ty (.int .i64 0) (.int k (n:Int)) (.int k' (c:Int)) d fr hp K=K (af (cI d fr) d (.ms d n)) (Qy hp d ⟨1,ty,iI (List.replicate n 0),false⟩):=by
 rw[Pp (by omega) (by omega) (by omega) (by omega)];simp[iI]
theorem OR(a b:Nat):max (a:Int) (b:Int)=((max a b:Nat):Int):=by omega
end Go.FW
namespace Go.FW
open Go
variable {C : Ctx} {fr : Fr} {hp : HP} {w : World} {K R : Qg}
theorem aaZ{α:Type}{done:List α}{i n:Nat}{v z:α}(h:done.length=i)(hn:0<n):(done++List.replicate n z).set i v=(done++[v])++List.replicate (n-1) z:=by
 obtain⟨m,rfl⟩:∃m,n=m+1:=⟨n-1,by omega⟩
 subst h;simp[KbE]
theorem GY{g:Int->Int->Int}{a b:List Int}{i:Nat}(h:i<max a.length b.length):(kq g a b).take (i+1)=(kq g a b).take i++[g (eN a i) (eN b i)]:=by rw[Kag (by rw[oU];exact h)];simp[kq]
end Go.FW
namespace Go.FW
open Go
abbrev Tm:=Rat×List Int
abbrev PV.term(t:Tm):PV:=.agg [.bool (decide (t.1.num<0)),PV.num t.1.num.natAbs,PV.num t.1.den,PV.mono t.2]
abbrev PV.aj(p:List Tm):PV:=.sl 4 (p.map PV.term)
abbrev PV.bZ(l:List (List Tm)):PV:=.sl 1 (l.map PV.aj)
def Q7:List Tm->List Tm->List Tm
 | [],q=>q
 |p,[]=>p
 |(c,m)::p,(d,l)::q=>
  if 0<aR m l then(c,m)::Q7 p ((d,l)::q)
  else if aR m l<0 then(d,l)::Q7 ((c,m)::p) q
  else if c+d=0 then Q7 p q else(c+d,m)::Q7 p q
termination_by p q=>p.length+q.length
theorem kK(p:List Tm):Q7 p []=p:=by cases p<;>rw[Q7];simp
theorem qi(p:List Tm):Q7 [] p=p:=by rw[Q7]
structure TB(K E:Nat)(t:Tm):Prop where
 c:rs t.1+1<=K
 m:MB E t.2
 l:t.2.getLast? ≠some 0
def PB(K E:Nat)(p:List Tm):Prop:=∀t∈p,TB K E t
theorem TB.mono{K K' E E':Nat}{t:Tm}(h:TB K E t)(hK:K<=K')(hE:E<=E'):TB K' E' t:=⟨Kay h.c hK,h.m.mono hE,h.l⟩
theorem PB.mono{K K' E E':Nat}{p:List Tm}(h:PB K E p)(hK:K<=K')(hE:E<=E'):PB K' E' p:=fun t ht=>(h t ht).mono hK hE
theorem PB.nil(K E:Nat):PB K E []:=fun t ht=>by cases ht
theorem PB.cons{K E:Nat}{t:Tm}{p:List Tm}:PB K E (t::p)↔TB K E t/\PB K E p:=by simp[PB]
theorem PB.drop{K E:Nat}{p:List Tm}(h:PB K E p)(n:Nat):PB K E (p.drop n):=fun t ht=>h t (Kbv ht)
theorem PB.take{K E:Nat}{p:List Tm}(h:PB K E p)(n:Nat):PB K E (p.take n):=fun t ht=>h t (Kbb ht)
theorem PB.get{K E:Nat}{p:List Tm}(h:PB K E p){i:Nat}(hi:i<p.length):TB K E p[i]:=h _ (Kah hi)
theorem uC:∀(p q:List Tm),(Q7 p q).length<=p.length+q.length:=by
 intro p q;induction p,q using Q7.induct with
 |case1 q=>rw[Q7];simp
 |case2 p h=>rw[kK];simp
 |case3 c m p d l q h ih=>rw[Q7,if_pos h];simp at ih ⊢;omega
 |case4 c m p d l q h1 h2 ih=>rw[Q7,if_neg h1,if_pos h2];simp at ih ⊢;omega
 |case5 c m p d l q h1 h2 h3 ih=>rw[Q7,if_neg h1,if_neg h2,if_pos h3];simp at ih ⊢;omega
 |case6 c m p d l q h1 h2 h3 ih=>rw[Q7,if_neg h1,if_neg h2,if_neg h3];simp at ih ⊢;omega
theorem uT{K L E:Nat}:∀(p q:List Tm),PB K E p->PB L E q->PB (K+L) E (Q7 p q):=by
 intro p q;induction p,q using Q7.induct with
 |case1 q=>rw[Q7];exact fun _ h=>h.mono (by omega) (by omega)
 |case2 p h=>rw[kK];exact fun h _=>h.mono (by omega) (by omega)
 |case3 c m p d l q h ih=>intro hp hq;rw[Q7,if_pos h];rw[PB.cons]at hp⊢;exact⟨hp.1.mono (by omega) (by omega),ih hp.2 hq⟩
 |case4 c m p d l q h1 h2 ih=>intro hp hq;rw[Q7,if_neg h1,if_pos h2];rw[PB.cons]at hq⊢;exact⟨hq.1.mono (by omega) (by omega),ih hp hq.2⟩
 |case5 c m p d l q h1 h2 h3 ih=>intro hp hq;rw[Q7,if_neg h1,if_neg h2,if_pos h3];rw[PB.cons]at hp hq;exact ih hp.2 hq.2
 |case6 c m p d l q h1 h2 h3 ih=>intro hp hq;rw[Q7,if_neg h1,if_neg h2,if_neg h3];rw[PB.cons]at hp hq⊢;refine⟨⟨?_,hp.1.m,hp.1.l⟩,ih hp.2 hq.2⟩;have:=DD c d;have:=hp.1.c;have:=hq.1.c;simp only at *;omega
def cN(l:List (List Tm)):List Tm:=
 match l with
 | []=>[]
 | [p]=>p
 |p::q::r=>Q7 (cN ((p::q::r).take ((p::q::r).length/2))) (cN ((p::q::r).drop ((p::q::r).length/2)))
termination_by l.length
decreasing_by
 all_goals simp[KaF,Ka5];omega
theorem y9{l:List (List Tm)}(h:2<=l.length):cN l=Q7 (cN (l.take (l.length/2))) (cN (l.drop (l.length/2))):=by
 match l,h with
 |p::q::r,_=>rw[cN]
def rL(l:List (List Tm)):Nat:=(l.map List.length).sum
theorem RS(l:List (List Tm))(n:Nat):rL (l.take n)+rL (l.drop n)=rL l:=by unfold rL;rw[<-List.sum_append,<-List.map_append,Kbn]
theorem Gl{K E:Nat}:∀(n:Nat)(l:List (List Tm)),l.length<=n->(∀p∈l,PB K E p)->PB (l.length*K) E (cN l)/\(cN l).length<=rL l:=by
 intro n;induction n with
 |zero=>intro l hl _;have:l=[]:=Kar.1 (by omega);subst this;rw[cN];exact⟨PB.nil _ _,by simp⟩
 | succ n ih=>
  intro l hl h
  match l,h with
  | [],_=>rw[cN];exact⟨PB.nil _ _,by simp⟩
  | [p],h=>rw[cN];exact⟨by simpa using h p (by simp),by simp[rL]⟩
  | p::q::r,h=>
   rw[y9 (by simp)];generalize hL:p::q::r=L at *
   have hlen:2<=L.length:=by rw[<-hL];simp
   obtain⟨a1,a2⟩:=ih (L.take (L.length/2)) (by rw[KaF];omega) (fun x hx=>h x (Kbb hx));obtain⟨b1,b2⟩:=ih (L.drop (L.length/2)) (by rw[Ka5];omega) (fun x hx=>h x (Kbv hx));have hs:=RS L (L.length/2);constructor
   ·have e:(L.take (L.length/2)).length*K+(L.drop (L.length/2)).length*K=L.length*K:=by rw[<-Nat.add_mul,KaF,Ka5];congr 1;omega
    rw[<-e];exact uT _ _ a1 b1
   ·have:=uC (cN (L.take (L.length/2))) (cN (L.drop (L.length/2)));omega
def bb(p:List Tm)(t:Tm):List Tm:=p.filterMap fun x=>if x.1*t.1=0 then none else some (x.1*t.1,b7 x.2 t.2)
theorem uz(p:List Tm)(t:Tm):(bb p t).length<=p.length:=Kcb _ _
theorem sR{K L E F:Nat}{p:List Tm}{t:Tm}(hp:PB K E p)(ht:TB L F t):PB (K+L) (E+F) (bb p t):=by
 intro x hx;simp only[bb,KbR]at hx;obtain⟨y,hy,h⟩:=hx;split at h
 ·cases h
 ·cases h;have g:=hp y hy;refine⟨?_,g.m.mul ht.m,rp _ _⟩;have:=Py y.1 t.1;have:=g.c;have:=ht.c;simp only;omega
def ow(p q:List Tm):List Tm:=cN (p.map (bb q))
def Q8(p q:List Tm):List Tm:=if q.length<p.length then ow q p else ow p q
theorem FQ(p q:List Tm):rL (p.map (bb q))<=p.length*q.length:=by
 unfold rL;induction p with
 |nil=>simp
 |cons t p ih=>have:=uz q t;simp only[Kbj,Kdh,KaX,KaH,KcU];omega
theorem Rv{K L E F:Nat}{p q:List Tm}(hp:PB K E p)(hq:PB L F q):PB (p.length*(K+L)) (E+F) (ow p q)/\(ow p q).length<=p.length*q.length:=by obtain⟨h1,h2⟩:=Gl (K:=K+L) (E:=E+F) _ (p.map (bb q)) (Kac _) (fun x hx=>by obtain⟨t,ht,rfl⟩:=KaI.1 hx;exact(sR hq (hp t ht)).mono (by omega) (by omega));rw[KaV]at h1;exact⟨h1,Kay h2 (FQ p q)⟩
theorem wH{K L E F:Nat}{p q:List Tm}(hp:PB K E p)(hq:PB L F q):PB (min p.length q.length*(K+L)) (E+F) (Q8 p q)/\(Q8 p q).length<=p.length*q.length:=by
 unfold Q8;split
 ·rename_i h;obtain⟨h1,h2⟩:=Rv hq hp;rw[Kdc (by omega),KbQ K,KbQ E,KaS p.length];exact⟨h1,h2⟩
 ·rename_i h;obtain⟨h1,h2⟩:=Rv hp hq;rw[KbX (by omega)];exact⟨h1,h2⟩
theorem za(x y:Tm)(p q:List Tm):Q7 (x::p) (y::q)=if 0<aR x.2 y.2 then x::Q7 p (y::q)else if aR x.2 y.2<0 then y::Q7 (x::p) q else if x.1+y.1=0 then Q7 p q else(x.1+y.1,x.2)::Q7 p q:=by obtain⟨c,m⟩:=x;obtain⟨d,l⟩:=y;rw[Q7]
theorem Tr{p q:List Tm}{i k:Nat}(hi:i<p.length)(hk:k<q.length):Q7 (p.drop i) (q.drop k)=if 0<aR p[i].2 q[k].2 then p[i]::Q7 (p.drop (i+1)) (q.drop k)else if aR p[i].2 q[k].2<0 then q[k]::Q7 (p.drop i) (q.drop (k+1))else if p[i].1+q[k].1=0 then Q7 (p.drop (i+1)) (q.drop (k+1))else(p[i].1+q[k].1,p[i].2)::Q7 (p.drop (i+1)) (q.drop (k+1)):=by rw[Kaz hi,Kaz hk,za]
theorem DE(a b:List Int):jM 0 a b=aR a b:=by simp[jM]
theorem Gm{a b:List Int}(h1:¬0<aR a b)(h2:¬aR a b<0)(ha:a.getLast? ≠some 0)(hb:b.getLast? ≠some 0):a=b:=(HW ha hb).1 (by omega)
theorem oZ:PV.le .aa (PV.aj []):=trivial
theorem GK{p:List Tm}(h:p=[]):PV.le .aa (PV.aj p):=by subst h;trivial
section
variable {C : Ctx} {fr : Fr} {hp : HP} {w : World} {K R : Qg}
theorem acS{e by_ ty d:Nat}{z:PV}{k k':IntKind}{Cc:Int}(h0:0<e)(hz:z.cells.length=e)(h2:0<=Cc)(h3:by_*Cc<=281474976710656)(h4:Cc<=9223372036854775807):
  m8 e by_ ty z (.int k 0) (.int k' Cc) d fr hp K=K (af (cI d fr) d (.ms d 0)) (Qy hp d ⟨e,ty,[],false⟩):=BM h0 hz (by omega) h2 h3 h4
end
end Go.FW
namespace Go.FW
open Go
def ch(p:List Tm)(a:Rat):List Tm:=if a=0 then []else bb p (a,[])
def kP(p:List Tm):List Tm:=ch p (-1)
def fY(p q:List Tm):List Tm:=Q7 p (kP q)
def dQ(a:Rat):List Tm:=if a=0 then []else [(a,[])]
def WE(v:Nat):List Int:=List.replicate v 0++[1]
def vr(v:Int):List Tm:=if v<0∨64<=v then []else [(1,WE v.toNat)]
theorem TB.num{a:Rat}{K E:Nat}(h:rs a+1<=K):TB K E (a,[]):=⟨h,⟨by simp,by simp,by simp⟩,by simp⟩
theorem zb{p:List Tm}{a:Rat}{K E L:Nat}(hp:PB K E p)(ha:rs a+1<=L):PB (K+L) E (ch p a):=by
 unfold ch;split
 ·exact PB.nil _ _
 ·exact(sR (F:=0) hp (TB.num ha)).mono (by omega) (by omega)
theorem uA(p:List Tm)(a:Rat):(ch p a).length<=p.length:=by
 unfold ch;split
 ·simp
 ·exact uz _ _
theorem FI:rs (-1)<=1:=by have:rs (-1)=max (nl 1) (nl 1):=rfl;rw[this,jG];omega
theorem nK:rs 1<=1:=by have:rs 1=max (nl 1) (nl 1):=rfl;rw[this,jG];omega
theorem aoY:rs 0<=1:=by have:rs 0=max (nl 0) (nl 1):=rfl;rw[this,jG,w8];omega
theorem xc{p:List Tm}{K E:Nat}(hp:PB K E p):PB (K+2) E (kP p):=zb hp (by have:=FI;omega)
def mL(s t:Tm):Int:=if aR s.2 t.2≠0 then aR s.2 t.2 else nJ s.1 t.1
def gO:List Tm->List Tm->Int
 | [],[]=>0
 | [],_::_=> -1
 |_::_,[]=>1
 |s::p,t::q=>if mL s t≠0 then mL s t else gO p q
theorem ad1{s t:Tm}(hs:s.2.getLast? ≠some 0)(ht:t.2.getLast? ≠some 0):mL s t=0↔s=t:=by
 unfold mL;constructor
 ·intro h;split at h
  ·omega
  ·rename_i h1;have e1:=(HW hs ht).1 (Decidable.not_not.1 h1);exact Prod.ext (To.1 h) e1
 ·rintro rfl;rw[if_neg (by simp[CH]),To.2 rfl]
theorem OS:∀ {p q:List Tm},(∀t∈p,t.2.getLast? ≠some 0)->(∀t∈q,t.2.getLast? ≠some 0)->(gO p q=0↔p=q)
 | [],[],_,_=>by simp[gO]
 | [],_::_,_,_=>by simp[gO]
 |_::_,[],_,_=>by simp[gO]
 | s::p,t::q,hp,hq=>by
  rw[gO];have h1:=ad1 (hp s (by simp)) (hq t (by simp));have h2:=OS (p:=p) (q:=q) (fun x hx=>hp x (by simp[hx])) (fun x hx=>hq x (by simp[hx]));split
  ·rename_i h;simp only[KcJ];exact⟨fun h'=>absurd h' h,fun h'=>absurd (h1.2 h'.1) h⟩
  ·rename_i h;rw[h2,KcJ,<-h1];exact⟨fun h'=>⟨Decidable.not_not.1 h,h'⟩,fun h'=>h'.2⟩
theorem Ts{p q:List Tm}{i:Nat}(hi:i<p.length)(hk:i<q.length):gO (p.drop i) (q.drop i)=if mL p[i] q[i]≠0 then mL p[i] q[i]else gO (p.drop (i+1)) (q.drop (i+1)):=by rw[Kaz hi,Kaz hk,gO]
theorem zy{q:List Tm}:gO [] q=if q.length=0 then 0 else -1:=by cases q<;>simp[gO]
theorem PB.last{K E:Nat}{p:List Tm}(h:PB K E p):∀t∈p,t.2.getLast? ≠some 0:=fun t ht=>(h t ht).l
def jx(p:List Tm):Int:=p.foldl (fun d t=>max d (ff t.2)) (-1)
theorem HX{E:Nat}{a:List Int}(h:MB E a):0<=ff a/\ff a<=64*E:=by
 have key:∀(l:List Int),(∀x∈l,0<=x)->(∀x∈l,x<=E)->0<=l.sum/\l.sum<=l.length*E:=by
  intro l;induction l with
  |nil=>simp
  |cons x l ih=>
   intro h1 h2;obtain⟨a1,a2⟩:=ih (fun y hy=>h1 y (by simp[hy])) (fun y hy=>h2 y (by simp[hy]));have b1:=h1 x (by simp);have b2:=h2 x (by simp);rw[Kdh,KaX]
   push_cast
   rw[Int.add_mul];omega
 obtain⟨h1,h2⟩:=key a h.lo h.hi;refine⟨h1,Int.le_trans h2 (Int.mul_le_mul_of_nonneg_right ?_ (by omega))⟩;have:=h.len;omega
open Go Go.RowKit
section
variable {F : Fence} {n : Nat} {P : Program}
def BJ(lo:Nat):List Deferred->Nat->World->Prop
 | [],_,_=>True
 |d::ds,hi,W=>∃D,d={ target:=.collected D,args:= #[] }/\lo<=D/\D<hi/\W.heap[D]? =some (.deferred (some []))/\BJ lo ds D W
theorem BJ.hi{lo:Nat}{W:World}:∀ {ds:List Deferred} {hi aA:Nat},BJ lo ds hi W->hi<=aA->BJ lo ds aA W
 | [],_,_,_,_=>trivial
 |_::_,_,_,⟨D,h1,h2,h3,h4,h5⟩,h=>⟨D,h1,h2,by omega,h4,h5⟩
end
end Go.FW
namespace Go.FW
open Go Go.RowKit
end Go.FW
