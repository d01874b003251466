/- Part 11 of the proof of GoalsTrivial: K23, FwYE, FwYF, FwYG, FwYH. Own lemmas; no conditions. -/
import Derived.Test.YtonjiljafkiikaaGreatGoalsTrivialPart10
set_option maxHeartbeats 1000000
set_option linter.unusedSimpArgs false
set_option linter.unusedVariables false
set_option linter.unnecessarySimpa false
set_option maxRecDepth 100000
namespace Go.Proofs.YtonjiljafkiikaaGreat
open Go Go.FW
end Go.Proofs.YtonjiljafkiikaaGreat
namespace Go.FW
open Go
variable {C : Ctx} {fr : Fr} {hp : HP} {w : World} {K R : Qg}
theorem VE(nm:Nat->Bool):Wk fr hp (e9 nm fr) (fun β=>if nm β=true then none else hp β):=by
 rintro C tmps w ⟨ρ,hs⟩;obtain⟨hp',ja⟩:∃f:HP,f=fun β=>if nm β=true then none else hp β:=⟨_,rfl⟩
 rw[<-ja];have pn:∀γ,nm γ=true->hp' γ=none:=fun γ h=>by rw[ja];simp[h]
 have po:∀γ,nm γ=false->hp' γ=hp γ:=fun γ h=>by rw[ja];simp[h]
 have hX:∀c,ay C ρ hp' c->ay C ρ hp c:=by
  rintro c (hx|⟨γ,hb,g1,g2,g3⟩)
  ·exact .inl hx
  ·cases hq:nm γ with
   |true=>rw[pn γ hq]at g1;cases g1
   |false=>rw[po γ hq]at g1;exact .inr ⟨γ,hb,g1,g2,g3⟩
 have aR:iN w w (ay C ρ hp) (ay C ρ hp'):=⟨fun _ _ _=>rfl,fun c _ hn h=>hn (hX c h),Kae _⟩
 have c1:∀γ,nm γ=false->kH ρ ρ hp hp' w w γ:=fun γ af=>⟨rfl,fun hb hq=>⟨hb,by rw[po γ af];exact hq,rfl,Kae _,fun _ _ _ h=>h,fun h=>⟨h,rfl,fun _ _=>rfl⟩⟩⟩
 refine⟨ρ,hs.sz,hs.ext,hs.dE,fun γ aX af=>?_,fun γ δ c g1 g2 g3 g4=>?_,fun i=>?_⟩
 ·cases hq:nm γ with
  |true=>rw[pn γ hq]at af;cases af
  | false=>
   rw[po γ hq]at af;have h:=hs.own γ _ af;refine⟨h.gh,h.len,?_,h.fix,h.ro⟩;have aK:=h.b8;cases hr:ρ γ with
   |none=>rw[hr]at aK;exact aK
   |some b=>rw[hr]at aK;obtain⟨b1,b2,cur,cap,k1,k2,k3,k4,k5⟩:=aK;exact⟨b1,b2,cur,cap,k1,k2,k3,k4,fun i x hx j y hy=>Qo.sub (k5 i x hx j y hy) hX⟩
 ·cases hq:nm γ with
  |true=>exact absurd (pn γ hq) g1
  |false=>
   cases lg:nm δ with
   |true=>exact absurd (pn δ lg) g2
   |false=>exact hs.inj γ δ c (by rw[<-po γ hq];exact g1) (by rw[<-po δ lg];exact g2) g3 g4
 ·show Qh C ρ hp' w (kR nm (fr i)) _;unfold kR;split
  ·trivial
  ·rename_i hn;have u6:∀β∈(fr i).refs++(fr i).aI,nm β=false:=fun β ah=>by
    cases hq:nm β with
    |false=>rfl
    |true=>exact absurd (KaS.2 ⟨β,ah,hq⟩) hn
   exact Qh.ln (hs.ch i) aR (fun β ah=>(c1 β (u6 β (KbQ _ ah))).o) (fun β ah=>c1 β (u6 β (Kbe _ ah)))
end Go.FW
namespace Go.FW
open Go
variable {fr : Fr} {hp : HP}
theorem F4{nm:Nat->Bool}{W:List (Nat×Nat)}{J F:Fr}:e9 nm (ba W J F)=ba W (e9 nm J) (e9 nm F):=by funext s;unfold e9 ba;split<;>rfl
theorem F5{nm:Nat->Bool}(h:∀x,nm x=true->2000000<=x){B:List Nat}{F:Fr}:e9 nm (dA B F)=dA B F:=by
 funext s;obtain⟨h1,h2,_,_⟩:=tS B F s;show kR nm (dA B F s)=dA B F s;unfold kR;rw[if_neg];intro hn;obtain⟨x,hx,gu⟩:=KaS.1 hn;have:=h x gu;rcases KaR.1 hx with hx|hx
 ·have:=h1 x hx;simp[gy]at this;omega
 ·have:=h2 x hx;simp[ix,gy]at this;omega
theorem P5{γ:Nat}(af:2000000<=γ){p:PV}(h:n5 p):cE γ p=p:=by
 obtain⟨h1,h2,h3,h4⟩:=h;have k1:∀β∈p.refs,β≠γ:=fun β ah e=>by have:=h1 β ah;subst e;simp[gy]at this;omega
 have k2:∀β∈p.aI,β≠γ:=fun β ah e=>by have:=h2 β ah;subst e;simp[ix,gy]at this;omega
 cases p with
 |ao β o n=>first|(simp[cE,dq,k1 β (by simp[PV.refs,PV.bb])];done)|(simp[cE,dq,k2 β (by simp[PV.aI,PV.cA])];done)
 |mp β i o=>simp[cE,dq,k1 β (by simp[PV.refs,PV.bb])]
 |rb β o n=>first|(simp[cE,dq,k1 β (by simp[PV.refs,PV.bb])];done)|simp[cE,dq,k2 β (by simp[PV.aI,PV.cA])]
 |fn f a b=>simp only[cE,bf];rw[if_neg];intro hn;exact k1 γ (by simpa using hn) rfl
 |az aO e ty xs=>exact absurd rfl (h3 aO e ty xs)
 |aE cs=>exact absurd rfl (h4 cs).1
 |cW cs=>exact absurd rfl (h4 cs).2.1
 |cj cs q=>exact absurd rfl ((h4 cs).2.2 q)
 |_=>rfl
theorem Tu{γ:Nat}{x:PV}{W:List (Nat×Nat)}{J F:Fr}{B:List Nat}(hW:iw W γ=true)(af:2000000<=γ):rV γ x (ba W J (dA B F))=ba W (rV γ x J) (dA B F):=by
 funext s;show(if s=γ then x else cE γ (if iw W s then J s else dA B F s))=if iw W s then(if s=γ then x else cE γ (J s))else dA B F s
 by_cases e:s=γ
 ·subst e;rw[if_pos rfl,if_pos hW,if_pos rfl]
 ·rw[if_neg e,if_neg e];split
  ·rfl
  ·exact P5 af (tS B F s)
def DE(nm:Nat->Bool)(hp:HP):HP:=fun β=>if nm β=true then none else hp β
theorem Tv{nm:Nat->Bool}{β:Nat}:DE nm hp β=if nm β=true then none else hp β:=rfl
def one(γ:Nat):Nat->Bool:=fun x=>decide (x=γ)
theorem VF{γ x:Nat}:one γ x=decide (x=γ):=rfl
theorem Tw(γ:Nat):Wk fr hp (e9 (one γ) fr) (DE (one γ) hp):=VE (one γ)
theorem W6{γ:Nat}(h:2000000<=γ){W:List (Nat×Nat)}{B:List Nat}{J F:Fr}:e9 (one γ) (ba W J (dA B F))=ba W (e9 (one γ) J) (dA B F):=by rw[F4,F5];intro x hx;have:x=γ:=of_decide_eq_true hx;omega
theorem P6{K:Qg}{e d:Nat}{k:IntKind}{x0 x1 x2:PV}{xs:List PV}:cG e (.sl e (x0::x1::x2::xs)) (.int k 2) d fr hp K=K (ae fr d (.pt x2.cells)) hp:=by simp[cG]
theorem P7{K:Qg}{e d:Nat}{k:IntKind}{x0 x1 x2 x3:PV}{xs:List PV}:cG e (.sl e (x0::x1::x2::x3::xs)) (.int k 3) d fr hp K=K (ae fr d (.pt x3.cells)) hp:=by simp[cG]
theorem P8{K:Qg}{e d:Nat}{k:IntKind}{x0 x1 x2 x3 x4:PV}{xs:List PV}:cG e (.sl e (x0::x1::x2::x3::x4::xs)) (.int k 4) d fr hp K=K (ae fr d (.pt x4.cells)) hp:=by simp[cG]
theorem PF{K:Qg}{e d:Nat}{k:IntKind}{x0 x1 x2 x3 x4 x5:PV}{xs:List PV}:cG e (.sl e (x0::x1::x2::x3::x4::x5::xs)) (.int k 5) d fr hp K=K (ae fr d (.pt x5.cells)) hp:=by simp[cG]
theorem PG{K:Qg}{e d:Nat}{k:IntKind}{x0 x1 x2 x3 x4 x5 x6:PV}{xs:List PV}:cG e (.sl e (x0::x1::x2::x3::x4::x5::x6::xs)) (.int k 6) d fr hp K=K (ae fr d (.pt x6.cells)) hp:=by simp[cG]
theorem PH{K:Qg}{e d:Nat}{k:IntKind}{x0 x1 x2 x3 x4 x5 x6 x7:PV}{xs:List PV}:cG e (.sl e (x0::x1::x2::x3::x4::x5::x6::x7::xs)) (.int k 7) d fr hp K=K (ae fr d (.pt x7.cells)) hp:=by simp[cG]
attribute [go_sem] Tv VF P6 P7 P8 PF PG PH
end Go.FW
namespace Go.FW
open Go
variable {C : Ctx} {fr : Fr} {hp : HP}
abbrev WT:=List (Nat×Nat×PV)
abbrev WB:=List (Nat×Nat×Nat×HB×HB)
structure jZ(Z:List (Nat×PV))(T:WT)(B:WB)(l:Nat->Bool)(fr:Fr)(hp:HP):Prop where
 z:∀e∈Z,fr e.1=e.2
 t:∀e∈T,l e.2.1=true->fr e.1=e.2.2
 a:∀e∈B,l e.2.1=true->l e.2.2.1=false->hp e.1=some e.2.2.2.1
 s:∀e∈B,l e.2.2.1=true->hp e.1=some e.2.2.2.2
variable {Z : List (Nat × PV)} {T : WT} {B : WB} {l : Nat -> Bool}
theorem jZ.at(h:jZ Z T B l fr hp){s i:Nat}{v:PV}(hf:T.find? (fun e=>e.1==s)=some (s,i,v))(hl:l i=true):fr s=v:=h.t (s,i,v) (List.mem_of_find?_eq_some hf) hl
theorem rQ{i j:Nat}(h:(j==i||l j)=true)(hn:j≠i):l j=true:=by
 rcases KbF _ _▸h with h|h
 ·exact absurd (by simpa using h) hn
 ·exact h
theorem xv{α:Type}{p:α->Bool}{L:List α}{x e:α}(h:L.filter p=[x])(he:e∈L)(hp:p e=true):e=x:=by have:e∈L.filter p:=List.mem_filter.2 ⟨he,hp⟩;rw[h]at this;exact KaQ.1 this
theorem I5{β:Nat}{p:PV}(h:p.refs.contains β=false):bf β p=p:=by unfold bf;rw[if_neg];rw[h];exact Bool.false_ne_true
theorem jZ.box(h:jZ Z T B l fr hp){d i st:Nat}{E F:HB}(c1:T.filter (fun e=>e.2.1==i)=[(d,i,.mp d 0 0)])(c2:T.all (fun e=>e.2.1==i||e.1 !=d&& !(e.2.2.refs.contains d))=true)(c3:Z.all (fun e=>e.1 !=d&& !(e.2.refs.contains d))=true)
  (c4:B.filter (fun e=>e.2.1==i)=[(d,i,st,E,F)]) (c5:B.all (fun e=>e.2.2.1 !=i&&(e.2.1==i||e.1 !=d))=true) (aR:l st=false):jZ Z T B (fun k=>k==i||l k) (ae (bI d fr) d (.mp d 0 0)) (Qi hp d E):=by
 have k5:∀e∈B,e.2.2.1≠i/\(e.2.1=i∨e.1≠d):=fun e he=>by simpa using KaB.1 c5 e he
 refine⟨fun e he=>?_,fun e he hl=>?_,fun e he h1 h2=>?_,fun e he h1=>?_⟩
 ·have k3:e.1≠d/\e.2.refs.contains d=false:=by have:=KaB.1 c3 e he;rw[Kbb]at this;exact⟨by simpa using this.1,by simpa using this.2⟩
  have:ae (bI d fr) d (.mp d 0 0) e.1=bf d (fr e.1):=by simp[ae,k3.1,bI]
  rw[this,h.z e he,I5 k3.2]
 ·by_cases hi:e.2.1=i
  ·have:=xv c1 he (by simpa using hi);subst this;simp[ae]
  ·have k2:=KaB.1 c2 e he;have yN:e.1≠d/\e.2.2.refs.contains d=false:=by
    rw[KbF]at k2;rcases k2 with k2|k2
    ·exact absurd (by simpa using k2) hi
    ·rw[Kbb]at k2;exact⟨by simpa using k2.1,by simpa using k2.2⟩
   have:ae (bI d fr) d (.mp d 0 0) e.1=bf d (fr e.1):=by simp[ae,yN.1,bI]
   rw[this,h.t e he (rQ hl hi),I5 yN.2]
 ·by_cases hi:e.2.1=i
  ·have:=xv c4 he (by simpa using hi);subst this;simp[Qi]
  ·have hd:e.1≠d:=(k5 e he).2.resolve_left hi;have:=h.a e he (rQ h1 hi) (by simp at h2;exact h2.2);simp[Qi,hd,this]
 ·have gi:=rQ h1 (k5 e he).1;by_cases hi:e.2.1=i
  ·have:=xv c4 he (by simpa using hi);subst this;simp only at gi;rw[aR]at gi;cases gi
  ·have hd:e.1≠d:=(k5 e he).2.resolve_left hi;have:=h.s e he gi;simp[Qi,hd,this]
theorem jZ.store(h:jZ Z T B l fr hp){β i al:Nat}{E F:HB}(c1:T.all (fun e=>e.2.1 !=i)=true)(c2:B.filter (fun e=>e.2.2.1==i)=[(β,al,i,E,F)])(c3:B.all (fun e=>e.2.1 !=i&&(e.2.2.1==i||e.1 !=β))=true):jZ Z T B (fun k=>k==i||l k) fr (Qi hp β F):=by
 have k3:∀e∈B,e.2.1≠i/\(e.2.2.1=i∨e.1≠β):=fun e he=>by simpa using KaB.1 c3 e he
 refine⟨fun e he=>h.z e he,fun e he hl=>?_,fun e he h1 h2=>?_,fun e he h1=>?_⟩
 ·exact h.t e he (rQ hl (by simpa using KaB.1 c1 e he))
 ·have hi:e.2.2.1≠i:=fun hi=>by simp[hi]at h2
  have hd:e.1≠β:=(k3 e he).2.resolve_left hi;have:=h.a e he (rQ h1 (k3 e he).1) (by simp at h2;exact h2.2);simp[Qi,hd,this]
 ·by_cases hi:e.2.2.1=i
  ·have:=xv c2 he (by simpa using hi);subst this;simp[Qi]
  ·have hd:e.1≠β:=(k3 e he).2.resolve_left hi;have:=h.s e he (rQ h1 hi);simp[Qi,hd,this]
def KI(Z:List (Nat×PV))(T:WT)(B:WB)(l:Nat->Bool)(i:Nat):Qg:=fun fr hp=>∃aY au,Wk fr hp aY au/\jZ Z T B (fun k=>k==i||l k) aY au
theorem jZ.alloc(h:jZ Z T B l fr hp){d i st n ty:Nat}{cs:List PV}{F:HB}(hz:(PV.agg cs).cells.length=n/\0<n)(c1:T.filter (fun e=>e.2.1==i)=[(d,i,.mp d 0 0)])(c2:T.all (fun e=>e.2.1==i||e.1 !=d&& !(e.2.2.refs.contains d))=true)(c3:Z.all (fun e=>e.1 !=d&& !(e.2.refs.contains d))=true)
  (c4:B.filter (fun e=>e.2.1==i)=[(d,i,st,⟨n,ty,[.agg cs],false⟩,F)]) (c5:B.all (fun e=>e.2.2.1 !=i&&(e.2.1==i||e.1 !=d))=true) (aR:l st=false):ju C none (.alloc d n ty (.agg cs)) fr hp (KI Z T B l i):=by
 show dG n ty (.agg cs) d fr hp _;unfold dG;refine⟨rfl,hz.1,hz.2,_,_,Wk.refl _ _,?_⟩;rw[show(PV.agg cs).refs=[]from rfl,v7];exact h.box c1 c2 c3 c4 c5 aR
theorem jZ.st(h:jZ Z T B l fr hp){β a i al n ty:Nat}{z:PV}{cs:List PV}(hb:fr β= .mp β 0 0)(ha:fr a= .agg cs)(hn:(PV.agg cs).cells.length=n)(mO:l al=true)(h0:l i=false)(c1:T.all (fun e=>e.2.1 !=i)=true)
  (c2:B.filter (fun e=>e.2.2.1==i)=[(β,al,i,⟨n,ty,[z],false⟩,⟨n,ty,[.agg cs],false⟩)]) (c3:B.all (fun e=>e.2.1 !=i&&(e.2.2.1==i||e.1 !=β))=true):ju C none (.st n (.t β) (.t a)) fr hp (KI Z T B l i):=by
 have he:(β,al,i,(⟨n,ty,[z],false⟩:HB),(⟨n,ty,[.agg cs],false⟩:HB))∈B:=by
  have:(β,al,i,(⟨n,ty,[z],false⟩:HB),(⟨n,ty,[.agg cs],false⟩:HB))∈B.filter (fun e=>e.2.2.1==i):=by rw[c2];exact KaQ.2 rfl
  exact(List.mem_filter.1 this).1
 have hh:=h.a _ he mO h0;show jN n (fr β) (fr a) fr hp _;rw[hb,ha];unfold jN;simp only[];rw[show(PV.agg cs).refs=[]from rfl,v7,hh];refine⟨rfl,rfl,hn,by simp,by simp,_,_,Wk.refl _ _,?_⟩;have:=h.store (β:=β) (i:=i) (al:=al) c1 c2 c3;simpa[Qy,bS]using this
end Go.FW
namespace Go.FW
open Go
variable {C : Ctx} {fr : Fr} {hp : HP}
variable {Z : List (Nat × PV)} {T : WT} {B : WB} {l : Nat -> Bool}
end Go.FW
