/- Part 3 of the proof of SquaresQuadratics: FwNE, FwNF, FwSu. Own lemmas; no conditions. -/
import Derived.Test.YtkoclfmjlolkhaaGreatSquaresQuadraticsPart2
set_option maxHeartbeats 1000000
set_option linter.unusedSimpArgs false
set_option linter.unusedVariables false
set_option linter.unnecessarySimpa false
set_option maxRecDepth 100000
namespace Go.FW
open Go
variable {C C' : Ctx} {ρ ρ' : Nat -> Option Nat} {fr aG : Fr} {hp hp' : HP} {w : World} {K R : Qh}
def jA(γ:Nat):PV->PV
 |.aB β o n=>if β=γ then .aI γ o n else .aB β o n
 |.mp β i o=>if β=γ then .np γ i o else .mp β i o
 |.rb β o n=>if β=γ then .undef else .rb β o n
 |p=>p
def iQ(γ:Nat):PV->PV
 |.fn f a b=>cA γ (.fn f a b)
 |.bo cs=>.bo (cs.map (jA γ))
 |.dX cs=>.dX (cs.map (jA γ))
 |.aC bu e ty xs=>if bu=γ then .undef else .aC bu e ty (xs.map fun x=>fo (x.aS.map (jA γ)))
 |p=>jA γ p
def Ji(γ:Nat)(x:PV)(fr:Fr):Fr:=fun s=>if s=γ then x else iQ γ (fr s)
theorem va {γ e ty:Nat} {xs:List PV} {fz:Bool} (aj:hp γ=some ⟨e,ty,xs,fz⟩) (h0:xs≠[]) (h2:2000000<=γ) (hd:∀x∈xs,x.aS=x.cells):Wk fr hp (Ji γ (.aC γ e ty xs) fr) (Qj hp γ ⟨e,ty,[],fz⟩):=by
 rintro C tmps w ⟨ρ,hs⟩;have Bt:bJ γ=true:=by simp[bJ];omega
 have bE:=hs.own γ _ aj;have bl:=bE.dd;obtain⟨b,bK⟩:∃b,ρ γ=some b:=by
  cases hq:ρ γ with
  |none=>rw[hq]at bl;exact absurd bl h0
  |some b=>exact⟨b,rfl⟩
 rw[bK]at bl;obtain⟨b1,b2,cur,cap,c1,c2,c3,c4,c5⟩:=bl;have m6:=bE.m6;obtain⟨hp',lh⟩:∃f,f=Qj hp γ ⟨e,ty,[],fz⟩:=⟨_,rfl⟩
 rw[<-lh];have lV:hp' γ=some ⟨e,ty,[],fz⟩:=by rw[lh];simp[Qj]
 have po:∀β,β≠γ->hp' β=hp β:=fun β ae=>by rw[lh];simp[Qj,ae]
 have hX:aK C ρ hp'=aK C ρ hp:=by
  funext c;apply propext;constructor
  ·rintro(hx|⟨β,hb,g1,g2,g3⟩)
   ·exact .inl hx
   ·by_cases ae:β=γ
    ·subst ae;rw[lV]at g1;cases g1;exact .inr ⟨β,_,aj,g2,g3⟩
    ·rw[po β ae]at g1;exact .inr ⟨β,hb,g1,g2,g3⟩
  ·rintro(hx|⟨β,hb,g1,g2,g3⟩)
   ·exact .inl hx
   ·by_cases ae:β=γ
    ·subst ae;rw[aj]at g1;cases g1;exact .inr ⟨β,_,lV,g2,g3⟩
    ·exact .inr ⟨β,hb,by rw[po β ae];exact g1,g2,g3⟩
 have bc:nB w w (aK C ρ hp) (aK C ρ hp'):=by rw[hX];exact⟨fun _ _ _=>rfl,fun _ _ hn=>hn,Kae _⟩
 have c0:∀β,β≠γ->qg ρ ρ hp hp' w w β:=fun β ae=>⟨rfl,fun hb hq=>⟨hb,by rw[po β ae];exact hq,rfl,Kae _,fun _ _ _ h=>h,fun h=>⟨h,rfl,fun _ _=>rfl⟩⟩⟩
 have xX:∀ {o n:Nat} {v:Value},fF ρ hp w γ o n v->qE ρ hp' w γ o n v:=by
  rintro o n v ⟨hb,g1,g2,g3⟩;rw[aj]at g1;cases g1;rcases g3 with⟨g3,_⟩|⟨b',cp,g3,g4,g5,g6⟩
  ·rw[bK]at g3;cases g3
  ·rw[bK]at g3;cases g3;refine⟨Bt,_,b,cp,lV,bK,g4,g5,g6,?_⟩;obtain⟨cur',ty',d1,d2⟩:=g5;rw[c1]at d1;cases d1;have:cap=o+cp:=KbJ m6 (by rw[<-c2,<-d2]);simp only at g2 c3;omega
 have cell:∀ {p:PV} {v:Value},df C ρ hp w p v->df C ρ hp' w (jA γ p) v:=by
  intro p v h;cases p with
  |aB β o n=>
   by_cases ae:β=γ
   ·subst ae;simp only[jA,if_true];exact xX h.2
   ·simp only[jA,if_neg ae];exact df.move (p:=.aB β o n) h bc fun x hx=>by simp[PV.gU]at hx;subst hx;exact(c0 _ ae).xZ
  | aI β o n=>
   by_cases ae:β=γ
   ·obtain⟨_,hb,b',cp,k1,k2,k3,k4,k5,k6⟩:=h;subst ae;rw[aj]at k1;cases k1;exact⟨Bt,_,b',cp,lV,k2,k3,k4,k5,k6⟩
   ·exact df.move (p:=.aI β o n) h bc fun x hx=>by simp[PV.gU]at hx;subst hx;exact(c0 _ ae).xZ
  |mp=>cases h
  |rb=>cases h
  |np=>cases h
  |undef=>trivial
  |_=>exact df.move h bc (fun x hx=>by cases hx)
 refine⟨ρ,hs.sz,hs.ext,hs.fT,fun β hb ae=>?_,fun β δ c g1 g2 g3 g4=>?_,fun i=>?_⟩
 ·by_cases hq:β=γ
  ·subst hq;rw[lV]at ae;cases ae;refine⟨m6,(fun i x hx=>by simp at hx),?_,bE.fix,bE.ro⟩;rw[bK];exact⟨b1,b2,cur,cap,c1,c2,Kbz _,c4,fun i x hx=>by simp at hx⟩
  ·rw[po β hq]at ae;obtain⟨q1,q2,q3,q4,q5⟩:=hs.own β hb ae;refine⟨q1,q2,?_,q4,q5⟩;cases hr:ρ β with
   |none=>rw[hr]at q3;exact q3
   |some c=>rw[hr]at q3;exact⟨q3.1,q3.2.1,q3.2.2.move rfl rfl rfl rfl bc.rc⟩
 ·have f:∀β,hp' β≠none->hp β≠none:=fun β ae=>by
   by_cases hq:β=γ
   ·subst hq;simp[aj]
   ·rwa[po β hq]at ae
  exact hs.inj β δ c (f β g1) (f δ g2) g3 g4
 ·have bb:=hs.cN i;show Qn C ρ hp' w (Ji γ (.aC γ e ty xs) fr i) _;unfold Ji;split
  ·refine⟨Bt,m6,b,_,cur,cap,bK,lV,rfl,rfl,rfl,c1,c2,c3,c4,fun k x hx=>?_,fun k x hx j y hy=>?_⟩
   ·rw[hd x (Kai hx)];exact(bE.len k x hx).1
   ·rw[hd x (Kai hx)]at hy;have:=c5 k x hx j y hy;have h3:Qu w (aK C ρ hp') y (cur.getD (k*e+j) undef):=by rw[hX];exact this
    cases y with
    |undef=>trivial
    |aB=>cases h3
    |aI=>cases h3
    |_=>exact h3
  ·generalize fr i=p at bb;cases p with
   |aB β o n=>
    by_cases ae:β=γ
    ·subst ae;simp only[iQ,jA,if_true];exact xX bb
    ·simp only[iQ,jA,if_neg ae];exact Qn.tx bb bc (fun x hx=>by simp[PV.refs]at hx;subst hx;exact(c0 _ ae).o) (fun x hx=>by cases hx)
   | mp β k o=>
    by_cases ae:β=γ
    ·subst ae;simp only[iQ,jA,if_true];obtain⟨b',hb,g1,g2,g3⟩:=bb;rw[aj]at g2;cases g2;exact⟨Bt,b',_,g1,lV,g3⟩
    ·simp only[iQ,jA,if_neg ae];exact Qn.tx bb bc (fun x hx=>by simp[PV.refs]at hx;subst hx;exact(c0 _ ae).o) (fun x hx=>by cases hx)
   |rb β o n=>
    by_cases ae:β=γ
    ·simp only[iQ,jA,if_pos ae];trivial
    ·simp only[iQ,jA,if_neg ae];exact Qn.tx bb bc (fun x hx=>by simp[PV.refs]at hx;subst hx;exact(c0 _ ae).o) (fun x hx=>by cases hx)
   | np β k o=>
    by_cases ae:β=γ
    ·subst ae;obtain⟨_,b',hb,g1,g2,g3⟩:=bb;rw[aj]at g2;cases g2;exact⟨Bt,b',_,g1,lV,g3⟩
    ·refine Qn.tx (p:=.np β k o) bb bc (fun x hx=>by cases hx) (fun x hx=>?_);have e1:x=β:=by simpa[PV.aQ]using hx
     rw[e1];exact c0 _ ae
   |aI β o n=>exact cell (p:=.aI β o n) bb
   |bo cs=>obtain⟨vs,e1,h1,h3⟩:=bb;refine⟨vs,e1,by simpa using h1,fun k x hk=>?_⟩;simp only[Kas,Kaa]at hk;obtain⟨y,hy,rfl⟩:=hk;exact cell (h3 k y hy)
   |dX cs=>obtain⟨vs,e1,h1,h3⟩:=bb;refine⟨vs,e1,by simpa using h1,fun k x hk=>?_⟩;simp only[Kas,Kaa]at hk;obtain⟨y,hy,rfl⟩:=hk;exact cell (h3 k y hy)
   | aC β e' ty' ys=>
    simp only[iQ];split
    ·trivial
    ·rename_i ae;obtain⟨k0,he,b',hb,cur',eW,k1,k2,k3,k4,k5,k6,k7,k8,k9,jf,jq⟩:=bb;have tk:∀(k:Nat)(x:PV),ys[k]? =some x->(fo (x.aS.map (jA γ))).aS=x.aS.map (jA γ):=fun k x hx=>by refine KT fun c hc=>?_;obtain⟨y,hy,rfl⟩:=Kaq.1 hc;obtain⟨j,hj⟩:=KaM hy;exact(cell (jq k x hx j y hj)).one
     refine⟨k0,he,b',hb,cur',eW,k1,by rw[po β ae];exact k2,k3,k4,k5,k6,k7,by simpa using k8,k9,fun k x hx=>?_,fun k x hx j y hy=>?_⟩
     ·simp only[Kas,Kaa]at hx;obtain⟨x0,bG,rfl⟩:=hx;rw[tk k x0 bG,Kal];exact jf k x0 bG
     ·simp only[Kas,Kaa]at hx;obtain⟨x0,bG,rfl⟩:=hx;rw[tk k x0 bG,Kas,Kaa]at hy;obtain⟨y0,du,rfl⟩:=hy;exact cell (jq k x0 bG j y0 du)
   | fn f a c=>
    simp only[iQ,cA];split
    ·trivial
    ·rename_i hn;have oK:γ ∉ (PV.fn f a c).refs:=by simpa using hn
     by_cases hm:γ∈(PV.fn f a c).aQ
     ·
      obtain⟨fv,cv,g1,g2,g3,g4,g5⟩:=bb;have H3:∀ {x:PV} {v:Value},γ ∉ x.cn->dh C ρ hp w x v->dh C ρ hp' w x v:=by
       intro x v hx h;cases x with
       | np β k o=>
        by_cases ae:β=γ
        ·subst ae;obtain⟨_,b',hb,k1,k2,k3⟩:=h;rw[aj]at k2;cases k2;exact⟨Bt,b',_,k1,lV,k3⟩
        ·exact dh.move (p:=.np β k o) h bc (fun x hx=>by cases hx) (fun x hx=>by simp[PV.fh]at hx;subst hx;exact(c0 _ ae).xZ)
       |aI β o n=>exact cell (p:=.aI β o n) h
       |mp β k o=>exact dh.move (p:=.mp β k o) h bc (fun x bk=>by simp[PV.cn]at bk hx;subst bk;exact(c0 _ (fun e=>hx e.symm)).o) (fun x hx=>by cases hx)
       |aB β k o=>exact dh.move (p:=.aB β k o) h bc (fun x bk=>by simp[PV.cn]at bk hx;subst bk;exact(c0 _ (fun e=>hx e.symm)).o) (fun x hx=>by cases hx)
       |rb β k o=>exact dh.move (p:=.rb β k o) h bc (fun x bk=>by simp[PV.cn]at bk hx;subst bk;exact(c0 _ (fun e=>hx e.symm)).o) (fun x hx=>by cases hx)
       |_=>exact dh.move h bc (fun x hx=>by cases hx) (fun x hx=>by cases hx)
      exact⟨fv,cv,g1,g2,g3,fun k x hk=>H3 (fun hx=>oK (Kv hk γ hx)) (g4 k x hk),fun k x hk=>H3 (fun hx=>oK (KG hk γ hx)) (g5 k x hk)⟩
     ·exact Qn.tx bb bc (fun x hx=>(c0 x (fun e=>oK (e▸hx))).o) (fun x hx=>c0 x (fun e=>hm (e▸hx)))
   |_=>exact Qn.tx bb bc (fun x hx=>by cases hx) (fun x hx=>by cases hx)
theorem QB{γ e ty:Nat}{xs xs':List PV}(D:Nat->Option (Nat×Nat))(il:fr γ= .aC γ e ty xs)(hD:∀δ x,D δ=some x->hp δ=none/\2000000<=δ/\0<x.1)(hl:xs'.length=xs.length)
  (hx:∀(i:Nat)(x x':PV),xs[i]? =some x->xs'[i]? =some x'->x'.aS.length=x.aS.length/\∀(j:Nat)(y y':PV),x.aS[j]? =some y->x'.aS[j]? =some y'->y'=y∨(y= .au/\∃δ z,D δ=some z/\y'= .aB δ 0 0)):
  Wk fr hp (af fr γ (.aC γ e ty xs')) (fun δ=>match D δ with|some x=>some ⟨x.1,x.2,[],false⟩|none=>hp δ):=by
 rintro C tmps w ⟨ρ,hs⟩;obtain⟨hp',lh⟩:∃f:HP,f=fun δ=>match D δ with|some x=>some ⟨x.1,x.2,[],false⟩|none=>hp δ:=⟨_,rfl⟩
 obtain⟨ρ',ZN⟩:∃f:Nat->Option Nat,f=fun δ=>if(D δ).isSome then none else ρ δ:=⟨_,rfl⟩
 rw[<-lh];have pD:∀δ x,D δ=some x->hp' δ=some ⟨x.1,x.2,[],false⟩/\ρ' δ=none:=fun δ x mE=>by rw[lh,ZN];simp[mE]
 have po:∀δ,D δ=none->hp' δ=hp δ/\ρ' δ=ρ δ:=fun δ mE=>by rw[lh,ZN];simp[mE]
 have hk:∀β,hp β≠none->D β=none:=fun β ae=>by
  cases hq:D β with
  |none=>rfl
  |some x=>exact absurd (hD β x hq).1 ae
 have hX:∀c,aK C ρ' hp' c->aK C ρ hp c:=by
  rintro c (h|⟨β,hb,g1,g2,g3⟩)
  ·exact .inl h
  ·cases hq:D β with
   |none=>rw[(po β hq).1]at g1;rw[(po β hq).2]at g3;exact .inr ⟨β,hb,g1,g2,g3⟩
   |some x=>rw[(pD β x hq).2]at g3;cases g3
 have bc:nB w w (aK C ρ hp) (aK C ρ' hp'):=⟨fun _ _ _=>rfl,fun c _ hn h=>hn (hX c h),Kae _⟩
 have c0:∀β,hp β≠none->qg ρ ρ' hp hp' w w β:=fun β ae=>⟨(po β (hk β ae)).2,fun hb hq=>⟨hb,by rw[(po β (hk β ae)).1];exact hq,rfl,Kae _,fun _ _ _ h=>h,fun h=>⟨h,rfl,fun _ _=>rfl⟩⟩⟩
 refine⟨ρ',hs.sz,hs.ext,hs.fT,fun β hb ae=>?_,fun β δ c g1 g2 g3 g4=>?_,fun i=>?_⟩
 ·cases hq:D β with
  |some x=>rw[(pD β x hq).1]at ae;cases ae;obtain⟨_,d2,d3⟩:=hD β x hq;refine⟨d3,(fun i x hx=>by simp at hx),?_,(fun h=>by simp[aR]at h;omega),fun h=>by simp[eH]at h;omega⟩;rw[(pD β x hq).2]
  |none=>
   rw[(po β hq).1]at ae;obtain⟨q1,q2,q3,q4,q5⟩:=hs.own β hb ae;refine⟨q1,q2,?_,(by rw[(po β hq).2];exact q4),q5⟩;rw[(po β hq).2];cases hr:ρ β with
   |none=>rw[hr]at q3;exact q3
   |some c=>rw[hr]at q3;exact⟨q3.1,q3.2.1,q3.2.2.move rfl rfl rfl rfl bc.rc⟩
 ·have f:∀β,hp' β≠none->∀c,ρ' β=some c->hp β≠none/\ρ β=some c:=fun β ae c hc=>by
   cases hq:D β with
   |none=>rw[(po β hq).1]at ae;rw[(po β hq).2]at hc;exact⟨ae,hc⟩
   |some x=>rw[(pD β x hq).2]at hc;cases hc
  exact hs.inj β δ c (f β g1 c g3).1 (f δ g2 c g4).1 (f β g1 c g3).2 (f δ g2 c g4).2
 ·have zw:=(hs.cN i).known;have B5:Qn C ρ' hp' w (fr i) (tmps.getD i undef):=(hs.cN i).tx bc (fun β ae=>(c0 β (zw.1 β ae)).o) (fun β ae=>c0 β (zw.2 β ae));unfold af;split
  ·rename_i hi;subst hi;rw[il]at B5;obtain⟨k0,he,b',hb,cur',eW,k1,k2,k3,k4,k5,k6,k7,k8,k9,jf,jq⟩:=B5;have fJ:∀(k:Nat)(x':PV),xs'[k]? =some x'->∃x,xs[k]? =some x:=fun k x' bI=>by
    have:k<xs.length:=by have:=(Kaf.1 bI).1;omega
    exact⟨_,Kag this⟩
   refine⟨k0,he,b',hb,cur',eW,k1,k2,k3,k4,k5,k6,k7,by omega,k9,fun k x' bI=>?_,fun k x' bI j y' n5=>?_⟩
   ·obtain⟨x,vY⟩:=fJ k x' bI;rw[(hx k x x' vY bI).1];exact jf k x vY
   ·obtain⟨x,vY⟩:=fJ k x' bI;obtain⟨l1,l2⟩:=hx k x x' vY bI;have hj:j<x.aS.length:=by have:=(Kaf.1 n5).1;omega
    have hy:=Kag hj;have hr:=jq k x vY j _ hy;rcases l2 j _ y' hy n5 with e1|⟨e1,δ,z,e2,e3⟩
    ·rw[e1];exact hr
    ·rw[e1]at hr;obtain⟨_,d2,_⟩:=hD δ z e2;rw[e3];have hv:cur'.getD (k*e+j) undef= .slice none 0 0:=by generalize cur'.getD (k*e+j) undef=u at hr;cases hr;rfl
     exact⟨by simp[bJ];omega,_,(pD δ z e2).1,Kae _,.inl ⟨(pD δ z e2).2,hv,rfl,rfl⟩⟩
  ·exact B5
def B2:List PV->PV
 | [c]=>c
 |cs=>.agg cs
def eC(fr:Fr)(hp:HP):Nat->PV->PV
 |0,p=>p
 | k+1,p=>match p with
  |.aB β o n=>match hp β with
   |some hb=>.sl hb.e ((hb.xs.drop o).take n)
   |none=>.undef
  |.aI γ o n=>match fr γ with
   |.aC _ e _ xs=>.sl e (((xs.drop o).take n).map fun x=>B2 (x.aS.map (eC fr hp k)))
   |_=>.undef
  |p=>p
def mG(fr:Fr):Nat->PV->List Nat
 |0,_=>[]
 | k+1,p=>match p with
  |.aB β _ _=>[β]
  |.aI γ o n=>match fr γ with
   |.aC _ _ _ xs=>γ::(((xs.drop o).take n).flatMap fun x=>x.aS.flatMap (mG fr k))
   |_=>[]
  |_=>[]
def od(fr:Fr):Nat->PV->Prop
 |0,p=>match p with
  |.undef| .aB _ _ _| .aI _ _ _=>False
  |_=>True
 | k+1,p=>match p with
  |.undef=>False
  |.aB β _ _=>aR β=false
  |.aI γ o n=>match fr γ with
   |.aC bu _ _ xs=>bu=γ/\aR γ=false/\o+n<=xs.length/\∀x∈(xs.drop o).take n,∀c∈x.aS,od fr k c
   |_=>False
  |_=>True
theorem ah5{tmps:Array Value}(h:Qv C ρ fr hp tmps w){β b:Nat}{hb:HB}{l:List Nat}(hB:aR β=false)(ae:hp β=some hb)(hl:β∈l)(bK:ρ β=some b):¬aK C ρ (bW hp l) b:=by
 have bl:=(h.own β hb ae).dd;rw[bK]at bl;rintro(hx|⟨γ,hg,h1,h2,h3⟩)
 ·exact Ctx.H4 bl.1 (Ba hB) hx
 ·obtain⟨rT,g1,_,_,_,_,g6⟩:=Ck h1;have:=h.inj γ β b (by simp[g1]) (by simp[ae]) h3 bK;subst this;exact g6 h2 hl
theorem aeY{cs:List PV}(h:∀c∈cs,c.cells=[c]):(B2 cs).cells=cs:=by
 match cs,h with
 | [],_=>rfl
 | [c],h=>exact h c (by simp)
 |_::_::_,_=>rfl
theorem Hy{tmps:Array Value}(h:Qv C ρ fr hp tmps w){l:List Nat}:∀(k:Nat) {p:PV} {v:Value},df C ρ hp w p v->od fr k p->(∀β∈mG fr k p,β∈l)->Qu w (aK C ρ (bW hp l)) (eC fr hp k p) v
 |0,p,v,hr,ho,_=>by
  cases p with
  |undef=>cases ho
  |aB=>cases ho
  |aI=>cases ho
  |_=>exact Qu.freeze hr
 | k +1,p,v,hr,ho,hl=>by
  cases p with
  |undef=>cases ho
  |aB β o n=>
   obtain⟨hb,ae⟩:∃hb,hp β=some hb:=by obtain⟨_,hb,h1,_⟩:=hr;exact⟨hb,h1⟩
   have:=fF.snap h hr.2 ho (hl β (by simp[mG])) ae;simp only[eC,ae];exact this
  | aI γ o n=>
   simp only[od]at ho;split at ho
   ·rename_i bu e ty xs aj;obtain⟨rfl,hY,xK,NA⟩:=ho;have bb:=h.cN bu;rw[aj]at bb;obtain⟨k0,he,b,hb,cur,cap,k1,k2,k3,k4,k5,k6,k7,k8,k9,jf,jq⟩:=bb;obtain⟨_,hb2,b2,DV,g1,g2,rfl,g4,g5,g6⟩:=hr;rw[k2]at g1;cases g1;rw[k1]at g2;cases g2;have dB:bu∈l:=hl bu (by simp[mG,aj]);have hX:=ah5 (l:=l) h hY k2 dB k1;have aw:=(KbW.1 k6).1;obtain⟨cur',ty',d1,d2⟩:=g4;rw[k6]at d1;cases d1;rw[k4]at d2;have jk:cap=o+DV:=KbJ he (by rw[<-k7,<-d2]);have key:∀i (x:PV),((xs.drop o).take n)[i]? =some x->i<n/\xs[o+i]? =some x:=fun i x hx=>by
     have hi:i<n:=by have:=(Kaf.1 hx).1;simp at this;omega
     rw[KaN hi,Kbe]at hx;exact⟨hi,hx⟩
    have DW:∀i (x:PV),((xs.drop o).take n)[i]? =some x->∀j (y:PV),x.aS[j]? =some y->Qu w (aK C ρ (bW hp l)) (eC fr hp k y) (cur.getD ((o+i)*e+j) undef):=fun i x hx j y hy=>by have nh:=Kai hx;refine Hy h k (jq (o+i) x (key i x hx).2 j y hy) (NA x nh y (Kai hy)) fun β ae=>hl β ?_;simp only[mG,aj];exact Ka1 _ (Kat.2 ⟨x,nh,Kat.2 ⟨y,Kai hy,ae⟩⟩)
    have tk:∀i (x:PV),((xs.drop o).take n)[i]? =some x->(B2 (x.aS.map (eC fr hp k))).cells=x.aS.map (eC fr hp k):=fun i x hx=>by refine aeY fun c hc=>?_;obtain⟨y,hy,rfl⟩:=Kaq.1 hc;obtain⟨j,hj⟩:=KaM hy;exact(DW i x hx j y hj).uH.2.2
    simp only[eC,aj];have hlen:(((xs.drop o).take n).map fun x=>B2 (x.aS.map (eC fr hp k))).length=n:=by simp;omega
    have:=Qu.sl (w:=w) (X:=aK C ρ (bW hp l)) e (((xs.drop o).take n).map fun x=>B2 (x.aS.map (eC fr hp k))) b (o*hb.e) DV (fun i j=>cur.getD ((o+i)*e+j) undef) hX aw (by omega) (by omega)
     (fun i x hx=>by simp only[Kas,Kaa]at hx;obtain⟨x0,bG,rfl⟩:=hx;rw[tk i x0 bG,Kal];exact jf _ x0 (key i x0 bG).2)
     (fun i hi j hj=>by rw[hlen]at hi;rw[k4];have:=qx (i:=o+i) (e:=e) (o:=0) (j:=j) (n:=e) (cap:=cap) (by omega) (by omega) hj;rw[KaY]at this;rw[show o*e+i*e+j=(o+i)*e+j by rw[KaK]];exact og k6 (by rw[k7];exact this))
     (fun i x hx j y hy=>by simp only[Kas,Kaa]at hx;obtain⟨x0,bG,rfl⟩:=hx;rw[tk i x0 bG,Kas,Kaa]at hy;obtain⟨y0,du,rfl⟩:=hy;exact DW i x0 bG j y0 du)
    rw[hlen]at this;exact this
   ·exact ho.elim
  |_=>exact Qu.freeze hr
def sO(fr:Fr)(hp:HP)(k:Nat):PV->PV
 |.bo cs=>.agg (cs.map (eC fr hp k))
 |p=>eC fr hp k p
def Ag(fr:Fr)(k:Nat):PV->List Nat
 |.bo cs=>cs.flatMap (mG fr k)
 |p=>mG fr k p
def w8(fr:Fr)(k:Nat):PV->Prop
 |.bo cs=>∀c∈cs,od fr k c
 |.aI γ o n=>od fr k (.aI γ o n)
 |_=>False
theorem JY(s k:Nat)(ho:w8 fr k (fr s)):Wk fr hp (af fr s (sO fr hp k (fr s))) (bW hp (Ag fr k (fr s))):=by
 rintro C tmps w ⟨ρ,hs⟩;have hf:=hs.freeze (Ag fr k (fr s));refine⟨ρ,hf.sz,hf.ext,hf.fT,hf.own,hf.inj,fun i=>?_⟩;unfold af;split
 ·rename_i hi;subst hi;have bb:=hs.cN i;generalize aA:fr i=p at *
  cases p with
  |bo cs=>obtain⟨vs,e1,h1,h2⟩:=bb;refine⟨vs,e1,by simpa using h1,fun j x hj=>?_⟩;simp only[Kas,Kaa]at hj;obtain⟨y,hy,rfl⟩:=hj;exact Hy hs k (h2 j y hy) (ho y (Kai hy)) fun β ae=>Kat.2 ⟨y,Kai hy,ae⟩
  |aI γ o n=>have:=Hy (l:=mG fr k (.aI γ o n)) hs k (p:=.aI γ o n) bb ho (fun β ae=>ae);exact Qn.oc (bT.tB this)
  |_=>cases ho
 ·exact hf.cN i
end Go.FW
namespace Go.FW
open Go
variable {C : Ctx} {ρ : Nat -> Option Nat} {fr aG : Fr} {hp hp' : HP} {w w' : World} {K R : Qh}
def tY(args:List PV)(G:Fr):Fr:=fun s=>if s<1000000 then(args[s]?).getD .undef else G s
def lF(r:PV)(F:Fr):Fr:=fun s=>if s=0 then r else if s<1000000 then .undef else F s
def Ctx.mH(C:Ctx)(n:Nat)(hn:n<=1000000):Ctx:={ C with N:=n,hN:=hn }
theorem vk.mH{C:Ctx}{n:Nat}{hn:n<=1000000}{β:Nat}{hb:HB}:vk (C.mH n hn) ρ hp w β hb↔vk C ρ hp w β hb:=⟨fun h=>⟨h.m6,h.len,h.dd,h.fix,h.ro⟩,fun h=>⟨h.m6,h.len,h.dd,h.fix,h.ro⟩⟩
def gj(P:Program)(f:FuncId)(args:List PV)(G:Fr)(aA:HP)(aZ:PV->Fr->HP->Prop):Prop:=
 sM P f/\∀(C:Ctx)(ρ:Nat->Option Nat)(bC:Array Value)(w:World),C.P=P->C.w0=w->C.N=args.length->Qv C ρ (tY args G) aA bC w->
  Calls P f bC w fun e w'=>∃v ρ' r F H,e= .returned v/\Qv (C.mH 1 (by decide)) ρ' (lF r F) H #[v] w'/\aZ r F H
def PV.Ft:PV->Bool
 |.aB β _ _=>bJ β
 |.int .. | .bool _| .au=>true
 |_=>false
theorem Qn.xX{p:PV}{v:Value}(h:Qn C ρ hp w p v)(h1:p.Ft=true):df C ρ hp w p v:=by
 cases p with
 |aB β o n=>exact⟨h1,h⟩
 |int k n=>exact h
 |bool b=>exact h
 |au=>exact h
 |_=>cases h1
def rL(rs:List RV)(aZ:PV->Fr->HP->Prop):Qh:=fun fr hp=>∃aG hp',Wk fr hp aG hp'/\
 (gm rs (fun r=>aZ r aG (bW hp' (rs.flatMap (lr aG)))) aG hp'∨(∃s,rs=[.t s]/\aZ (aG s) aG hp')∨∃s t,rs=[.t s,.t t]/\(aG s).Ft=true/\(aG t).Ft=true/\aZ (.dX [aG s,aG t]) aG hp')
theorem rz{rs:List RV}{aZ:PV->Fr->HP->Prop}(h:gm rs (fun r=>aZ r fr (bW hp (rs.flatMap (lr fr)))) fr hp):rL rs aZ fr hp:=⟨fr,hp,Wk.refl _ _,.inl h⟩
theorem JG{rs:List RV}{aZ:PV->Fr->HP->Prop}{bU:Fr}{aA:HP}(hw:Wk fr hp bU aA)(h:rL rs aZ bU aA):rL rs aZ fr hp:=by obtain⟨f,h',h1,h2⟩:=h;exact⟨f,h',hw.trans h1,h2⟩
theorem Hf{s:Nat}{aZ:PV->Fr->HP->Prop}(h:aZ (fr s) fr hp):rL [.t s] aZ fr hp:=⟨fr,hp,Wk.refl _ _,.inr (.inl ⟨s,rfl,h⟩)⟩
theorem aeZ{s t:Nat}{aZ:PV->Fr->HP->Prop}(h1:(fr s).Ft=true)(h2:(fr t).Ft=true)(h:aZ (.dX [fr s,fr t]) fr hp):rL [.t s,.t t] aZ fr hp:=⟨fr,hp,Wk.refl _ _,.inr (.inr ⟨s,t,rfl,h1,h2,h⟩)⟩
theorem ah6{rs:List RV}{aZ:PV->Fr->HP->Prop}:KM (rL rs aZ) (rL rs aZ):=by rintro f f' hp hf ⟨aG,hp',h1,h2⟩;exact⟨aG,hp',hf.wk.trans h1,h2⟩
theorem Pn{rs:List RV}{aZ:PV->Fr->HP->Prop}:fG (rL rs aZ) []:=⟨ah6,.nil⟩
theorem o6 {P : Program} {f : FuncId} {fn : Func} {sf : ay} {args : List PV} {G : Fr} {aA : HP} {aZ : PV -> Fr -> HP -> Prop} (hm : P.follows .mixedOrders = true) (hf : P.funcs[f]? = some fn) (qU : (fn.name != "runtime.NumGoroutine") = true) (hc : Qe P fn = some sf.strip) (hn : args.length <= sf.n /\ sf.n <= 1000000)
  (hv:∀C:Ctx,C.P=P->vc C (rL sf.rs aZ) [.c sf.body] (tY args G) aA):gj P f args G aA aZ:=by
 simp only[Qe,Kab,Kaa]at hc;obtain⟨c,hb,sb,kB,rs,dt,xQ⟩:=hc;obtain⟨n,Oi,body⟩:=sf;simp only[ay.strip,ay.mk.injEq]at xQ;obtain⟨rfl,rfl,rfl⟩:=xQ;refine⟨by simp[sM,hf,hb];simpa using qU,fun C ρ bC w hP hw hN hs=>?_⟩;subst hP;refine calls_of_wp hf hb ?_;have kd:bC.size=args.length:=by rw[hs.sz,hN]
 have uA:(bC++Array.replicate (fn.ntmps-bC.size) undef).size=fn.ntmps:=by simp at hn ⊢;omega
 have oO:Qv (C.mH fn.ntmps hn.2) ρ (tY args G) aA (bC++Array.replicate (fn.ntmps-bC.size) undef) w:=by
  refine⟨uA,hs.ext,hs.fT,fun β hb h=>vk.mH.2 (hs.own β hb h),hs.inj,fun i=>?_⟩;have bb:=hs.cN i;by_cases hi:i<args.length
  ·have e:(bC++Array.replicate (fn.ntmps-bC.size) undef).getD i undef=bC.getD i undef:=by rw[mK,if_pos (by omega)]
   rw[e];exact bb
  ·unfold tY at bb⊢;split
   ·rw[Kcj (by omega)];trivial
   ·rename_i h2;rw[if_neg h2]at bb;have e1:bC.getD i undef=undef:=by simp[Array.getD,kd,hi]
    have e2:(bC++Array.replicate (fn.ntmps-bC.size) undef).getD i undef=undef:=by simp only[Array.getD];rw[dif_neg (by rw[uA];simp at hn;omega)]
    rw[e2];rw[e1]at bb;exact bb
 have fin:∀(fr:Fr) (hp:HP) (a:Act) (w':World),a.defers=[]->ft (C.mH fn.ntmps hn.2) fr hp a.tmps w'->rL rs aZ fr hp->
   a.defers=[]/\∃v,(results fn a.tmps).run C.P w'= .ok v w'/\∃v' ρ' r F H,Ending.returned v= .returned v'/\Qv (C.mH 1 (by decide)) ρ' (lF r F) H #[v'] w'/\aZ r F H:=by
  rintro fr hp a w' hd iG ⟨sV,jn,NY,hr⟩;obtain⟨Ca,eu⟩:=NY _ _ _ iG;have ghost:∀ {cz:HP} {r:PV} {v:Value},Qv (C.mH fn.ntmps hn.2) Ca sV cz a.tmps w'->Qn C Ca cz w' r v->Qv (C.mH 1 (by decide)) Ca (lF r sV) cz #[v] w':=by
   intro cz r v cS zQ;refine⟨rfl,cS.ext,cS.fT,fun β hb h=>vk.mH.2 (vk.mH.1 (cS.own β hb h)),cS.inj,fun i=>?_⟩;unfold lF;split
   ·rename_i hi;subst hi;exact zQ
   ·split
    ·trivial
    ·rename_i h0 h1;have bb:=cS.cN i;have e1:a.tmps.getD i undef=undef:=by have hz:a.tmps.size=fn.ntmps:=cS.sz;have nV:fn.ntmps<=1000000:=hn.2;simp only[Array.getD];rw[dif_neg (by omega)]
     have e2:(#[v]:Array Value).getD i undef=undef:=by simp only[Array.getD];rw[dif_neg (by simp;omega)]
     rw[e2];rw[e1]at bb;exact bb
  rcases hr with hr|⟨s,NM,eY⟩|⟨s,t,NM,cS,Zx,eY⟩
  ·obtain⟨v,r,h1,h2,_,h3⟩:=K6 (C:=C.mH fn.ntmps hn.2) rfl dt eu hr;refine⟨hd,v,h1,v,Ca,r,sV,_,rfl,ghost (eu.freeze _) (Qn.Jb h2),h3⟩
  ·subst NM;obtain⟨x,hx⟩:∃x,fn.results.toList=[x]:=by have:=oZ dt;exact KcO.1 (by rw[<-this.1];rfl)
   have gQ:kK C.P x=some (.t s):=by rw[hx]at dt;simp only[KcD,List.mapM_nil,Kce,KcH,Kab,KaH]at dt;obtain⟨y,h1,_,_,h2⟩:=dt;simp only[KcU]at h2;rw[<-h2.1];exact h1
   have Fg:x= .tmp s:=by
    cases x with
    |tmp t=>simpa[kK]using gQ
    |cell y t=>simp[kK,Kab]at gQ
   subst Fg;have gP:(results fn a.tmps).run C.P w'= .ok (a.tmps.getD s undef) w':=by have e:results fn a.tmps=(do let vs<-fn.results.mapM (qF a.tmps);pure (if h:vs.size=1 then vs[0]else .tuple vs)):=rfl;rw[e,KbN,hx];simp[Kar,qF]
   exact⟨hd,_,gP,_,Ca,_,sV,jn,rfl,ghost eu (eu.cN s),eY⟩
  ·subst NM;have hlen:=oZ dt;obtain⟨x,y,hx⟩:∃x y,fn.results.toList=[x,y]:=by
    have h2:fn.results.toList.length=2:=by rw[<-hlen.1];rfl
    match h3:fn.results.toList,h2 with
    | [x,y],_=>exact⟨x,y,rfl⟩
   rw[hx]at dt;simp only[KcD,List.mapM_nil,Kce,KcH,Kab,KaH]at dt;obtain⟨u1,k1,l1,⟨u2,k2,l2,k3,k4⟩,k5⟩:=dt;subst k3 k4;simp only[KcU,and_true]at k5;obtain⟨rfl,rfl⟩:=k5;have tm:∀ {z:ResultVar} {s:Nat},kK C.P z=some (.t s)->z= .tmp s:=fun {z s} hz=>by
    cases z with
    |tmp t=>simpa[kK]using hz
    |cell y t=>simp[kK,Kab]at hz
   obtain rfl:=tm k1;obtain rfl:=tm k2;have gP:(results fn a.tmps).run C.P w'= .ok (.tuple #[a.tmps.getD s undef,a.tmps.getD t undef]) w':=by have e:results fn a.tmps=(do let vs<-fn.results.mapM (qF a.tmps);pure (if h:vs.size=1 then vs[0]else .tuple vs)):=rfl;rw[e,KbN,hx];simp[Kar,qF]
   refine⟨hd,_,gP,_,Ca,_,sV,jn,rfl,ghost (r:=.dX [sV s,sV t]) eu ⟨#[a.tmps.getD s undef,a.tmps.getD t undef],rfl,rfl,fun i x hi=>?_⟩,eY⟩
   match i,hi with
   |0,hi=>simp at hi;subst hi;exact(eu.cN s).xX cS
   |1,hi=>simp at hi;subst hi;exact(eu.cN t).xX Zx
   |i+2,hi=>simp at hi
 exact KP (C:=C.mH fn.ntmps hn.2) (R:=rL rs aZ) hm c body [] _ (tY args G) aA _ w kB ⟨fun fr hp a w' hd hs hv=>(by rw[wN]at hv;exact fin fr hp a w' hd hs hv),fun id fj he=>(by simp[FW.cC]at he),fin⟩ rfl ⟨ρ,oO⟩ (hv (C.mH fn.ntmps hn.2) rfl)
structure vp(C:Ctx)(hp:HP)(aA:HP)(gv:Nat->Option Nat):Prop where
 g:∀β γ,gv β=some γ->∃hb,hp γ=some hb/\bJ β=true/\(eH β=true->aA β=some ⟨hb.e,hb.ty,hb.xs,true⟩)/\(eH β=false->aA β=some hb/\hb.fz=false/\bJ γ=true/\(aR β=false->aR γ=false))
 a:∀β,aA β≠none->∃γ,gv β=some γ
 i:∀β bA γ,gv β=some γ->gv bA=some γ->β=bA
def gn(gv:Nat->Option Nat):Nat->Option Nat:=fun β=>if eH β=true then none else gv β
theorem AY{gv:Nat->Option Nat}{β γ:Nat}(h:gn gv β=some γ):eH β=false/\gv β=some γ:=by
 unfold gn at h;split at h
 ·cases h
 ·rename_i hr;exact⟨by simpa using hr,h⟩
theorem wS{gv:Nat->Option Nat}{β:Nat}(h:eH β=false):gn gv β=gv β:=by unfold gn;rw[h];rfl
theorem vp.n{C:Ctx}{hp aA:HP}{gv:Nat->Option Nat}(hh:vp C hp aA gv)(β γ:Nat)(h:gn gv β=some γ):∃hb,aA β=some hb/\hp γ=some hb/\hb.fz=false/\bJ β=true/\bJ γ=true/\(aR β=false->aR γ=false):=by obtain⟨hr,h⟩:=AY h;obtain⟨hb,h1,h2,_,h4⟩:=hh.g β γ h;obtain⟨k1,k2,k3,k4⟩:=h4 hr;exact⟨hb,k1,h1,k2,h2,k3,k4⟩
theorem vp.s{C:Ctx}{hp aA:HP}{gv:Nat->Option Nat}(hh:vp C hp aA gv)(β γ:Nat)(h:gv β=some γ):∃hb ax,hp γ=some hb/\aA β=some ax/\ax.e=hb.e/\ax.ty=hb.ty/\ax.xs=hb.xs/\(ax.fz=false->hb=ax/\eH β=false)/\(eH β=true->ax.fz=true)/\bJ β=true:=by
 obtain⟨hb,h1,h2,h3,h4⟩:=hh.g β γ h;cases hr:eH β with
 |true=>exact⟨hb,_,h1,h3 hr,rfl,rfl,rfl,(fun h=>by cases h),fun _=>rfl,h2⟩
 |false=>obtain⟨k1,k2,_⟩:=h4 hr;exact⟨hb,hb,h1,k1,rfl,rfl,rfl,(fun _=>⟨rfl,rfl⟩),(fun h=>by cases h),h2⟩
def w9 (C:Ctx) (ρ:Nat->Option Nat) (fr:Fr) (hp aA:HP) (tmps:Array Value) (w:World) (gv:Nat->Option Nat) (hs:Qv C ρ fr hp tmps w) (hh:vp C hp aA gv) (n:Nat) (hn:n<=1000000):Ctx where
 P:=C.P
 N:=n
 w0:=w
 X0:=fun b=>aK C ρ hp b/\¬∃β γ,gn gv β=some γ/\ρ γ=some b
 Es:=fun b hb=>DD hs b hb.1
 hN:=hn
 fx:=fun β=>if aR β=true then(gv β).bind ρ else none
 qS :=fun β b h=>by
  split at h
  ·cases hq:gv β with
   |none=>rw[hq]at h;cases h
   |some γ=>rw[hq]at h;obtain⟨hb,h2,_⟩:=hh.g β γ hq;have:=(hs.own γ hb h2).dd;rw[show ρ γ=some b from h]at this;exact⟨this.2.1,fun hr hx=>hx.2 ⟨β,γ,(wS hr).trans hq,h⟩⟩
  ·cases h
 Z0:=fun b=>∃β γ,gn gv β=some γ/\aR β=false/\ρ γ=some b
 Ir :=fun b ⟨β,γ,h1,h2,h3⟩=>by
  obtain⟨hb,_,k2,_⟩:=hh.n β γ h1;have:=(hs.own γ hb k2).dd;rw[h3]at this;refine⟨this.2.1,fun hx=>hx.2 ⟨β,γ,h1,h3⟩,fun bA hf=>?_⟩;split at hf
  ·rename_i hy;cases hq:gv bA with
   |none=>rw[hq]at hf;cases hf
   |some bu=>rw[hq]at hf;obtain⟨ax,k2',_⟩:=hh.g bA bu hq;have e:=hs.inj γ bu b (by simp[k2]) (by simp[k2']) h3 hf;subst e;have e2:=hh.i β bA γ (AY h1).2 hq;subst e2;rw[h2]at hy;cases hy
  ·cases hf
theorem adj{tmps:Array Value}{w:World}{aA:HP}{gv:Nat->Option Nat}{τ:Nat->Nat}{args:List PV}{bx:List PV}{G:Fr}{av:Array Value}(hs:Qv C ρ fr hp tmps w)(hh:vp C hp aA gv)
  (uF:∀β γ,gv β=some γ->τ γ=β) (dM:av.size=args.length) (cK:args.map (ch τ)=bx) (Iv:∀(i:Nat)(x:PV),args[i]? =some x->Qn C ρ hp w x (av.getD i undef))
  (iq:∀x∈args,∀γ∈x.refs++x.aQ,∃β,gv β=some γ) (hG:∀s,1000000<=s->G s= .undef∨∃s',1000000<=s'/\G s=ch τ (fr s')/\∀γ∈(fr s').refs++(fr s').aQ,∃β,gv β=some γ) (aV:bx.length<=1000000):
  Qv (w9 C ρ fr hp aA tmps w gv hs hh bx.length aV) (fun β=>(gv β).bind ρ) (tY bx G) aA av w:=by
 subst cK;have hX:∀b,aK (w9 C ρ fr hp aA tmps w gv hs hh (args.map (ch τ)).length aV) (fun β=>(gv β).bind ρ) aA b->aK C ρ hp b:=by
  rintro b (hx|⟨β,hb,h1,h2,h3⟩)
  ·exact hx.1
  ·cases hq:gv β with
   |none=>simp only[hq]at h3;cases h3
   |some γ=>simp only[hq,Kcv]at h3;obtain⟨hb1,ax,k2,k1,_,_,_,k6,_⟩:=hh.s β γ hq;rw[h1]at k1;cases k1;exact .inr ⟨γ,hb1,k2,by rw[(k6 h2).1];exact h2,h3⟩
 have hr:∀γ,(∃β,gv β=some γ)->xc τ ρ (fun β=>(gv β).bind ρ) hp aA γ:=fun γ ⟨β,ae⟩=>by
  obtain⟨hb,hb2,k2,k1,k3,k4,k5,_,_,k8⟩:=hh.s β γ ae;refine⟨?_,fun ax h'=>?_,fun _=>by rw[uF β γ ae];exact k8⟩
  ·show(gv (τ γ)).bind ρ=ρ γ;rw[uF β γ ae,ae];rfl
  ·rw[k2]at h';cases h';exact⟨hb2,by rw[uF β γ ae];exact k1,k3,k4,k5⟩
 refine⟨by rw[dM];simp[w9],Ext.refl _ _,fun _ _ _ _ _ h=>h,fun β hb ae=>?_,fun β δ b h1 h2 h3 h4=>?_,fun i=>?_⟩
 ·obtain⟨γ,aj⟩:=hh.a β (by simp[ae]);obtain⟨hb1,ax,k2,k1,k3,k4,k5,k6,k7,_⟩:=hh.s β γ aj;rw[ae]at k1;cases k1;obtain⟨q1,q2,q3,q4,q5⟩:=hs.own γ hb1 k2;refine⟨by rw[k3];exact q1,by rw[k3,k5];exact q2,?_,fun hy=>?_,k7⟩
  ·simp only[aj,Kcv];cases hr:ρ γ with
   |none=>rw[hr]at q3;rw[k5];exact q3
   | some b=>
    rw[hr]at q3;refine⟨?_,q3.2.1,q3.2.2.move rfl k3 k4 k5 fun q u hq=>Qu.sub hq hX⟩;unfold Ctx.cls;split
    ·rename_i hy;show(if aR β=true then(gv β).bind ρ else none)=some b;rw[if_pos hy,aj];exact hr
    ·rename_i hy;exact .inr ⟨β,γ,(wS (Ba (by simpa using hy))).trans aj,by simpa using hy,hr⟩
  ·show(gv β).bind ρ=(if aR β=true then(gv β).bind ρ else none)
   rw[if_pos hy]
 ·obtain⟨γ1,e1⟩:=hh.a β h1;obtain⟨γ2,e2⟩:=hh.a δ h2;simp only[e1,Kcv]at h3;simp only[e2,Kcv]at h4;obtain⟨hb1,k1,_⟩:=hh.g β γ1 e1;obtain⟨hb2,k2,_⟩:=hh.g δ γ2 e2;have:=hs.inj γ1 γ2 b (by simp[k1]) (by simp[k2]) h3 h4;subst this;exact hh.i β δ γ1 e1 e2
 ·unfold tY;split
  ·rw[Kas];cases hi:args[i]? with
   |none=>trivial
   |some x=>simp only[Kci,Kbb];exact(Iv i x hi).jr hX fun γ aj=>hr γ (iq x (Kai hi) γ aj)
  ·rename_i hi;have e1:av.getD i undef=undef:=by simp only[Array.getD];rw[dif_neg (by simp at aV;omega)]
   rcases hG i (by omega)with e|⟨s',fA,e,hn⟩
   ·rw[e];trivial
   ·rw[e,e1];have bb:=hs.cN s';have e2:tmps.getD s' undef=undef:=by simp only[Array.getD];rw[dif_neg (by rw[hs.sz];have:=C.hN;omega)]
    rw[e2]at bb;exact bb.jr hX fun γ aj=>hr γ (hn γ aj)
theorem ae0{tmps:Array Value}{aA H cz:HP}{gv eo:Nat->Option Nat}{σ:Nat->Nat}{F gJ:Fr}{r:PV}{v:Value}{d:Option Nat}{n:Nat}{hn:n<=1000000}{ns:Nat->Option Nat}(hs:Qv C ρ fr hp tmps w)(hh:vp C hp aA gv)
  (h2:Qv ((w9 C ρ fr hp aA tmps w gv hs hh n hn).mH 1 (by decide)) ns (lF r F) H #[v] w') (hd:∀x,d=some x->x<C.N)
  (e1:∀γ β,eo γ=some β->H β≠none/\σ β=γ/\bJ γ=true/\((aR β=true/\gn gv β=some γ)∨(aR β=false/\aR γ=false/\(hp γ=none∨∃bA,gn gv bA=some γ))))
  (e2:∀β γ,gn gv β=some γ->aR β=true->eo γ=some β)
  (q1:∀γ β,eo γ=some β->cz γ=H β) (q2:∀γ,eo γ=none->(∃β,gn gv β=some γ)->cz γ=none) (q3:∀γ,eo γ=none->(¬∃β,gn gv β=some γ)->cz γ=hp γ)
  (hS:∀s,gJ s= .undef∨
   (d≠some s/\gJ s=fr s/\(∀γ∈(fr s).refs++(fr s).aQ,(¬∃β,gn gv β=some γ)∨∃β hb ax,gn gv β=some γ/\aR β=true/\hp γ=some hb/\H β=some ax/\ax.e=hb.e/\hb.xs.length<=ax.xs.length)/\∀γ e ty xs,fr s= .aC γ e ty xs->¬∃β,gn gv β=some γ)∨
   (d=some s/\gJ s=ch σ r/\∀β∈r.refs++r.aQ,eo (σ β)=some β)∨
   (∃s',1000000<=s'/\(∃γ e ty xs,F s'= .aC γ e ty xs)/\gJ s=ch σ (F s')/\∀β∈(F s').refs++(F s').aQ,eo (σ β)=some β)):
  ft C gJ cz (w7 tmps d v) w':=by
 obtain⟨Yg,zf⟩:∃f:Nat->Prop,f=fun b=>∃β γ,gn gv β=some γ/\ρ γ=some b:=⟨_,rfl⟩
 have yX:∀b,Yg b->aK C ρ hp b:=fun b hb=>by rw[zf]at hb;obtain⟨β,γ,h1,h3⟩:=hb;obtain⟨hb,_,k2,k3,_⟩:=hh.n β γ h1;exact .inr ⟨γ,hb,k2,k3,h3⟩
 have lM:Ext Yg w w':=h2.ext.mono fun b _ hb=>by
  rw[zf];rcases hb with⟨β,hr,hb⟩|⟨β,γ,h1,_,h3⟩
  ·have hb:(if aR β=true then(gv β).bind ρ else none)=some b:=hb;split at hb
   ·cases hq:gv β with
    |none=>rw[hq]at hb;cases hb
    |some γ=>rw[hq]at hb;exact⟨β,γ,(wS hr).trans hq,hb⟩
   ·cases hb
  ·exact⟨β,γ,h1,h3⟩
 have Jl:∀b,Yg b->∃β γ,gn gv β=some γ/\ρ γ=some b/\C.cls γ b/\hp γ≠none/\eH γ=false:=fun b hb=>by
  rw[zf]at hb;obtain⟨β,γ,h1,h3⟩:=hb;obtain⟨hb,_,k2,k3,_⟩:=hh.n β γ h1;have:=(hs.own γ hb k2).dd;rw[h3]at this;refine⟨β,γ,h1,h3,this.1,by simp[k2],?_⟩;cases hR:eH γ with
  |false=>rfl
  |true=>have:=(hs.own γ hb k2).ro hR;rw[k3]at this;cases this
 have Fs:∀γ b,hp γ≠none->(¬∃β,gn gv β=some γ)->ρ γ=some b->¬Yg b:=fun γ b hk pT hr hy=>by obtain⟨β,bu,h1,h3,_,h5,_⟩:=Jl b hy;have:=hs.inj γ bu b hk h5 hr h3;subst this;exact pT ⟨β,h1⟩
 have B6:∀β hb,H β=some hb->vk (w9 C ρ fr hp aA tmps w gv hs hh n hn) ns H w' β hb:=fun β hb h=>vk.mH.1 (h2.own β hb h);have H7:∀β γ,aR β=true->gn gv β=some γ->H β≠none->ns β=ρ γ:=fun β γ hy hg hH=>by obtain⟨hb,hq⟩:=KbY.1 hH;have:=(B6 β hb hq).fix hy;rw[this];show(if aR β=true then(gv β).bind ρ else none)=ρ γ;rw[if_pos hy,(AY hg).2];rfl
 have WX:∀β hb b,aR β=false->H β=some hb->ns β=some b->w.heap.size<=b∨Yg b:=fun β hb b hy hH hr=>by
  have:=(B6 β hb hH).dd;rw[hr]at this;rcases Ctx.xm this.1 hy with h|⟨bA,bu,k1,_,k3⟩
  ·exact .inl h
  ·exact .inr (by rw[zf];exact⟨bA,bu,k1,k3⟩)
 have asg:∀β hb b,aR β=false->H β=some hb->ns β=some b->C.w0.heap.size<=b∨C.Z0 b:=fun β hb b hy hH hr=>by
  have:=(B6 β hb hH).dd;rw[hr]at this;rcases Ctx.xm this.1 hy with h|⟨bA,bu,k1,k2,k3⟩
  ·exact .inl (Kap hs.ext.size h)
  ·obtain⟨ax,_,l2,_,_,_,l6⟩:=hh.n bA bu k1;have:=(hs.own bu ax l2).dd;rw[k3]at this;exact Ctx.xm this.1 (l6 k2)
 obtain⟨ρ',bK⟩:∃f:Nat->Option Nat,f=fun γ=>match eo γ with|some β=>ns β|none=>ρ γ:=⟨_,rfl⟩
 have rs:∀γ β,eo γ=some β->ρ' γ=ns β:=fun γ β h=>by rw[bK];simp[h]
 have rn:∀γ,eo γ=none->ρ' γ=ρ γ:=fun γ h=>by rw[bK];simp[h]
 have Iq:∀b,aK C ρ' cz b->aK (w9 C ρ fr hp aA tmps w gv hs hh n hn) ns H b:=by
  rintro b (hx|⟨γ,hb,h1,h3,h4⟩)
  ·refine .inl ⟨.inl hx,fun hy=>?_⟩;obtain⟨_,γ,_,_,h5,_,h7⟩:=Jl b (by rw[zf];exact hy);exact Ctx.H4 h5 h7 hx
  ·cases hq:eo γ with
   |some β=>rw[q1 γ β hq]at h1;rw[rs γ β hq]at h4;exact .inr ⟨β,hb,h1,h3,h4⟩
   | none=>
    rw[rn γ hq]at h4;by_cases hg:∃β,gn gv β=some γ
    ·rw[q2 γ hq hg]at h1;cases h1
    ·rw[q3 γ hq hg]at h1;exact .inl ⟨.inr ⟨γ,hb,h1,h3,h4⟩,fun hy=>Fs γ b (by simp[h1]) hg h4 (by rw[zf];exact hy)⟩
 have ze:∀b,b<w.heap.size->aK C ρ' cz b->aK C ρ hp b:=fun b hb hx=>by
  rcases Iq b hx with hx|⟨β,M5,h1,h3,h4⟩
  ·exact hx.1
  ·by_cases hy:aR β=true
   ·have:=(B6 β M5 h1).fix hy;rw[h4]at this;have this:some b=(if aR β=true then(gv β).bind ρ else none):=this;rw[if_pos hy]at this;have hR:eH β=false:=by
     cases hR:eH β with
     |false=>rfl
     |true=>have:=(B6 β M5 h1).ro hR;rw[h3]at this;cases this
    cases hq:gv β with
    |none=>rw[hq]at this;cases this
    |some γ=>rw[hq]at this;exact yX b (by rw[zf];exact⟨β,γ,(wS hR).trans hq,this.symm⟩)
   ·rcases WX β M5 b (by simpa using hy) h1 h4 with h|h
    ·omega
    ·exact yX b h
 have bc:nB w w' (aK C ρ hp) (aK C ρ' cz):=⟨fun b hb gB=>lM.block b hb fun hy=>gB (yX b hy),fun b hb gB hx=>gB (ze b hb hx),lM.size⟩
 have WV:∀β γ b,aR β=true->gn gv β=some γ->ρ γ=some b->∀e cap,dH w b e cap->dH w' b e cap:=fun β γ b hy hg hr e cap hc=>by refine h2.fT β b ?_ e cap hc;show(if aR β=true then(gv β).bind ρ else none)=some b;rw[if_pos hy,(AY hg).2];exact hr
 refine⟨ρ',?_,?_,fun β b hb e cap hc=>?_,fun γ hb aj=>?_,fun γ δ b g1 g2 g3 g4=>?_,fun s=>?_⟩
 ·cases d with
  |none=>exact hs.sz
  |some d=>simp only[w7];simpa using hs.sz
 ·refine hs.ext.trans' lM fun b hb hy=>?_;obtain⟨_,_,_,_,h5,_,h7⟩:=Jl b hy;exact(Ctx.H5 h5 h7).resolve_left (by omega)
 ·have h1:=hs.fT β b hb e cap hc;by_cases hy:Yg b
  ·obtain⟨dY,γ1,k1,k3,k4,k5,_⟩:=Jl b hy;by_cases hY:aR dY=true
   ·exact WV dY γ1 b hY k1 k3 e cap h1
   ·obtain⟨_,_,_,_,_,_,l6⟩:=hh.n dY γ1 k1;exact absurd hb (Ctx.Oq (Ctx.xm k4 (l6 (by simpa using hY))))
  ·exact oh (lM.block b (oo h1) hy) h1
 ·cases hq:eo γ with
  | some β=>
   have hH:H β=some hb:=by rw[<-q1 γ β hq];exact aj
   obtain⟨k1,k2,k3,k4⟩:=e1 γ β hq;obtain⟨o1,o2,o3,o4,o5⟩:=B6 β hb hH;refine⟨o1,o2,?_,fun hy=>?_,fun hR=>?_⟩
   ·rw[rs γ β hq];cases hr:ns β with
    |none=>rw[hr]at o3;exact o3
    | some b=>
     rw[hr]at o3;refine⟨?_,o3.2.1,o3.2.2.move rfl rfl rfl rfl fun q u hq=>Qu.sub hq Iq⟩;rcases k4 with⟨k4,k5⟩|⟨k4,k5,_⟩
     ·have e:=H7 β γ k4 k5 k1;rw[hr]at e;obtain⟨ax,_,l2,_⟩:=hh.n β γ k5;have:=(hs.own γ ax l2).dd;rw[<-e]at this;exact this.1
     ·exact Ctx.WY (asg β hb b k4 hH hr) k5
   ·rcases k4 with⟨k4,k5⟩|⟨_,k5,_⟩
    ·rw[rs γ β hq,H7 β γ k4 k5 k1];obtain⟨ax,_,l2,_⟩:=hh.n β γ k5;exact(hs.own γ ax l2).fix hy
    ·rw[k5]at hy;cases hy
   ·rcases k4 with⟨k4,k5⟩|⟨_,k5,_⟩
    ·obtain⟨ax,_,l2,l3,_⟩:=hh.n β γ k5;have:=(hs.own γ ax l2).ro hR;rw[l3]at this;cases this
    ·rw[Ba k5]at hR;cases hR
  | none=>
   by_cases hg:∃β,gn gv β=some γ
   ·rw[q2 γ hq hg]at aj;cases aj
   ·rw[q3 γ hq hg]at aj;obtain⟨o1,o2,o3,o4,o5⟩:=hs.own γ hb aj;refine⟨o1,o2,?_,(fun hy=>by rw[rn γ hq];exact o4 hy),o5⟩;rw[rn γ hq];cases hr:ρ γ with
    |none=>rw[hr]at o3;exact o3
    |some b=>rw[hr]at o3;exact⟨o3.1,Kby o3.2.1 lM.size,o3.2.2.move (lM.block b o3.2.1 (Fs γ b (by simp[aj]) hg hr)) rfl rfl rfl bc.rc⟩
 ·have W1:∀γ δ β,eo γ=some β->eo δ=none->cz δ≠none->ns β=some b->ρ δ=some b->False:=fun γ δ β h1 h3 h5 h6 h7=>by
   have hg:¬∃β,gn gv β=some δ:=fun hg=>h5 (q2 δ h3 hg);rw[q3 δ h3 hg]at h5;obtain⟨k1,k2,k3,k4⟩:=e1 γ β h1;obtain⟨hb,hH⟩:=KbY.1 k1;rcases k4 with⟨k4,k5⟩|⟨k4,k5,_⟩
   ·rw[H7 β γ k4 k5 k1]at h6;obtain⟨ax,_,l2,_⟩:=hh.n β γ k5;have:=hs.inj γ δ b (by simp[l2]) h5 h6 h7;subst this;exact hg ⟨β,k5⟩
   ·rcases WX β hb b k4 hH h6 with h|h
    ·obtain⟨ax,hq⟩:=KbY.1 h5;have:=(hs.own δ ax hq).dd;rw[h7]at this;omega
    ·exact Fs δ b h5 hg h7 h
  cases h1:eo γ with
  | some β=>
   rw[rs γ β h1]at g3;cases h3:eo δ with
   |some bA=>rw[rs δ bA h3]at g4;have:=h2.inj β bA b (e1 γ β h1).1 (e1 δ bA h3).1 g3 g4;rw[<-(e1 γ β h1).2.1,<-(e1 δ bA h3).2.1,this]
   |none=>rw[rn δ h3]at g4;exact(W1 γ δ β h1 h3 g2 g3 g4).elim
  | none=>
   rw[rn γ h1]at g3;cases h3:eo δ with
   |some bA=>rw[rs δ bA h3]at g4;exact(W1 δ γ bA h3 h1 g1 g4 g3).elim
   | none=>
    rw[rn δ h3]at g4;have k:∀γ,eo γ=none->cz γ≠none->hp γ≠none:=fun γ h hq=>by
     by_cases hg:∃β,gn gv β=some γ
     ·exact absurd (q2 γ h hg) hq
     ·rwa[q3 γ h hg]at hq
    exact hs.inj γ δ b (k γ h1 g1) (k δ h3 g2) g3 g4
 ·have iE:∀β,eo (σ β)=some β->xc σ ns ρ' H cz β:=fun β h=>⟨rs _ _ h,(fun hb hq=>⟨hb,by rw[q1 _ _ h];exact hq,rfl,rfl,rfl⟩),fun _=>(e1 _ _ h).2.2.1⟩
  rcases hS s with e|⟨k1,k2,k3,k4⟩|⟨k1,k2,k3⟩|⟨s',k1,k2,k3,k4⟩
  ·rw[e];trivial
  ·have hv:(w7 tmps d v).getD s undef=tmps.getD s undef:=by
    cases d with
    |none=>rfl
    |some x=>simp only[w7,KaX];rw[KcI (fun e=>k1 (by rw[e]))]
   rw[hv,k2];have bb:=hs.cN s;have zw:=bb.known;have W5:∀γ,hp γ≠none->(¬∃β,gn gv β=some γ)->qg ρ ρ' hp cz w w' γ:=fun γ hk hg=>by
    have pM:eo γ=none:=by
     cases hq:eo γ with
     |none=>rfl
     |some β=>
      rcases(e1 γ β hq).2.2.2 with⟨_,h⟩|⟨_,_,h|h⟩
      ·exact absurd ⟨β,h⟩ hg
      ·exact absurd h hk
      ·exact absurd h hg
    refine⟨rn γ pM,fun hb hq=>⟨hb,by rw[q3 γ pM hg];exact hq,rfl,Kae _,fun b cap hr hc=>oh (lM.block b (oo hc) (Fs γ b hk hg hr)) hc,fun he=>⟨he,rfl,fun b hr=>lM.block b ?_ (Fs γ b hk hg hr)⟩⟩⟩;have:=(hs.own γ hb hq).dd;rw[hr]at this;exact this.2.1
   have par:∀γ,hp γ≠none->((¬∃β,gn gv β=some γ)∨∃β hb ax,gn gv β=some γ/\aR β=true/\hp γ=some hb/\H β=some ax/\ax.e=hb.e/\hb.xs.length<=ax.xs.length)->vl ρ ρ' hp cz w w' γ:=fun γ hk h=>by
    rcases h with h|⟨β,hb,ax,l1,l2,l3,l4,l5,l6⟩
    ·exact(W5 γ hk h).xZ
    ·have pM:=e2 β γ l1 l2;refine⟨by rw[rs γ β pM];exact H7 β γ l2 l1 (by simp[l4]),fun hb0 hq=>?_⟩;rw[l3]at hq;cases hq;exact⟨ax,by rw[q1 γ β pM];exact l4,l5,l6,fun b cap hr hc=>WV β γ b l2 l1 hr _ cap hc⟩
   refine bb.move bc (fun γ aj=>?_) (fun γ aj=>par γ (zw.2 γ aj) (k3 γ (KbI _ aj))) (fun γ e ty xs e0=>W5 γ (zw.2 γ (by rw[e0];simp[PV.aQ])) (k4 γ e ty xs e0));have:=par γ (zw.1 γ aj) (k3 γ (Kcn _ aj));exact⟨this.r,this.h⟩
  ·subst k1;have hv:(w7 tmps (some s) v).getD s undef=v:=by have:=hd s rfl;simp[w7,Array.getD,hs.sz,this]
   rw[hv,k2];have:=h2.cN 0;exact Qn.jr (C':=C) (ρ':=ρ') (hp':=cz) this Iq fun β ae=>iE β (k3 β ae)
  ·obtain⟨γ,e,ty,xs,hF⟩:=k2;rw[k3];have:=h2.cN s';have e0:lF r F s'=F s':=by unfold lF;rw[if_neg (by omega),if_neg (by omega)]
   rw[e0]at this;have h3:=Qn.jr (C':=C) (ρ':=ρ') (hp':=cz) this Iq fun β ae=>iE β (k4 β ae);rw[hF]at h3⊢;exact h3
theorem ae1{tmps:Array Value}{aA H:HP}{gv:Nat->Option Nat}{F:Fr}{r:PV}{v:Value}{n:Nat}{hn:n<=1000000}{ns:Nat->Option Nat}(hs:Qv C ρ fr hp tmps w)(hh:vp C hp aA gv)
  (h2:Qv ((w9 C ρ fr hp aA tmps w gv hs hh n hn).mH 1 (by decide)) ns (lF r F) H #[v] w') (h0:∀β,gn gv β=none):Ext eP w w':=h2.ext.mono fun b _ hb=>by
 rcases hb with⟨β,hr,hb⟩|⟨β,γ,h1,_,h3⟩
 ·have hb:(if aR β=true then(gv β).bind ρ else none)=some b:=hb;have e:=(wS (gv:=gv) hr).symm;rw[e,h0 β]at hb;split at hb<;>cases hb
 ·rw[h0 β]at h1;cases h1
end Go.FW
namespace Go.FW
open Go
variable {C : Ctx} {R : Qh} {fr : Fr} {hp : HP} {K : Qh}
theorem dV{sk:List It}(h:fG R sk:=by repeat (first|exact QU|exact O4|exact O5|exact Pk|exact Pn|apply OJ|apply QT|apply Si|apply To|apply Tp|apply Wc)):fG R sk:=h
theorem okB{sk:List It}(h:fG R sk:=by repeat (first|exact QU|exact O4|exact O5|exact Pk|exact Pn|apply OJ|apply QT|apply Si|apply To|apply Tp|apply Wc|apply adg)):fG R sk:=h
theorem aE {P : Program} {f : FuncId} {fn : Func} {sf : ay} {args : List PV} {Rr : PV -> Prop} {n : Nat} {rs : List RV} {b : SC} (hm : P.follows .mixedOrders = true) (hf : P.funcs[f]? = some fn) (hc : Qe P fn = some sf) (hv : ∀ C : Ctx, C.P = P -> vc C (gm rs Rr) [.c b] (lE args) aA) (he : sf = ⟨n, rs, b⟩ := by conv => lhs; whnf; try dsimp only [Zo, Zg, Zm, Zc, Zf, Zl, Zh, Zs, Zi, Zb, Zk, Zn, Zu, Zq, Zr, Zz, Ya, Yb, Yc, Yd, Ye, Yf, Yh, Yi, Yj, Yk, Yl, Ym, Yn, Yo, Yp, Yq, Yr, Ys, Yu, Yv, Yw, Yx, Yy, Yz, YA, YB, YC, YD, YE, YG, YH, YI, YJ, YK, YL, YM, YN, YO, YP, YQ, YS, YT, YU, YV, YW, YX, YY, YZ, dn, dQ, qM, fR, gy, nI, kt, iA, DT, iS, dp, Bn, ue, uf, iB, jV, mY, jC, iT, yY, fu, Bo, jD, Bp, uh, eV, xd, DR, yV, yW, sP, DS, xe, jj, ff, rM, xf, jT, vz, sQ, ud, xg, vA, mX, sR, jU, sS, mo, nH, fQ, kQ, dx, rN, yZ, kR, xh, iC, nJ, uj, jE, ku, Bq, Nat.reduceAdd]) (qU : (fn.name != "runtime.NumGoroutine") = true := by exact rfl) (hn : args.length <= n /\ n <= 1000000 := by simp) : Qd P f args Rr := by subst he;exact af4 hm hf qU hc hn hv
theorem Qb{P:Program}(hP:C.P=P){g:FuncId}{first cap args:List PV}{pr:Bool}{d:Option Nat}{r:PV}(h:Qd P g ((first++args++cap).map (aU hp)) (· =r))(hK:K (dv fr d r) hp)(jG:((first++args++cap).map (aU hp)).all PV.aN=true:=by exact rfl)(hr:(first++args++cap).flatMap PV.refs=[]:=by exact rfl):gl C pr (.fn g first cap) args d fr hp K:=CY hP h rfl jG hr hK
theorem Oz{p:Prop}(h:p:=by omega):p:=h
theorem Nz{a b:Nat}(h:(Nat.ble a b&&Nat.ble b 1000000)=true:=by exact rfl):a<=b/\b<=1000000:=by simp only[KaC,Nat.ble_eq]at h;exact h
theorem fw{p q:Prop}(h:q)(e:p=q:=by conv=>lhs;try dsimp only[Zo,Zg,Zm,Zc,Zf,Zl,Zh,Zs,Zi,Zb,Zk,Zn,Zu,Zq,Zr,Zz,Ya,Yb,Yc,Yd,Ye,Yf,Yh,Yi,Yj,Yk,Yl,Ym,Yn,Yo,Yp,Yq,Yr,Ys,Yu,Yv,Yw,Yx,Yy,Yz,YA,YB,YC,YD,YE,YG,YH,YI,YJ,YK,YL,YM,YN,YO,YP,YQ,YS,YT,YU,YV,YW,YX,YY,YZ,dn,dQ,qM,fR,gy,nI,kt,iA,DT,iS,dp,Bn,ue,uf,iB,jV,mY,jC,iT,yY,fu,Bo,jD,Bp,uh,eV,xd,DR,yV,yW,sP,DS,xe,jj,ff,rM,xf,jT,vz,sQ,ud,xg,vA,mX,sR,jU,sS,mo,nH,fQ,kQ,dx,rN,yZ,kR,xh,iC,nJ,uj,jE,ku,Bq,Nat.reduceAdd]):p:=e▸h
end Go.FW
