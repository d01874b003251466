/- what Quadratic returns as squares is accepted by Check, at a witness the polynomial is negative and no sum of squares is, and a sum of squares of a degree of at most 2 has squares; for at most 5 squares of polynomials with at most 6 terms, 6 variables, numbers of at most 2 limbs -/
import Derived.Test.YtkoclfmjlolkhaaGreatSquaresProofsPart16
set_option maxHeartbeats 1000000
set_option linter.unusedSimpArgs false
set_option linter.unusedVariables false
set_option linter.unnecessarySimpa false
set_option maxRecDepth 100000
namespace Go.Proofs.YtkoclfmjlolkhaaGreat
open Go Go.FW
def zq(A:MF)(L:List LF)(R:Nat):Prop:=∀i,i<L.length->∀c,c<R->A i c=(iQ L i).2 c
theorem MV{R:Nat}{M A:MF}{L:List LF}(hA:zq A L R)(hs:Sym R M)(h:gf R M L)(b:Nat->Rat):(Qt L.length (cy A b R) R).ax.length=L.length:=by
 have hp:=kR L.length (cy A b R) R
 refine Nat.le_antisymm hp.2.1 ?_
 have fU:∀i x,i<L.length->Qs (cy A b R i) x R=Qs (iQ L i).2 x R:=fun i x hi=>pO _ fun c hc=>⟨by unfold cy;rw[if_neg Oz];exact hA i hi c hc,rfl⟩
 refine Hh (C:=fun j i=>(iQ L i).2 ((Qt L.length (cy A b R) R).ax.getD j 0)) fun z hz=>OV h z hs fun c hc=> ?_
 rw[I4]
 have e:Qs (fun i=>(iQ L i).2 c) z L.length=Qs (fun i=>Qs (fun j=>(iQ L i).2 ((Qt L.length (cy A b R) R).ax.getD j 0)) (fun j=>(Qt L.length (cy A b R) R).M j c) (Qt L.length (cy A b R) R).ax.length) z L.length:=
  pO _ fun i hi=>⟨Oe (fun x hx=>by rw[<-fU i x hi];exact hx i hi) hc,rfl⟩
 rw[e,Jv]
 exact wW _ fun j hj=>hz j hj
def Aw(A:MF)(n:Nat)(b:Nat->Rat)(R:Nat):Nat->Rat:=mT (Qt n (cy A b R) R).M (Qt n (cy A b R) R).ax R (Qt n (cy A b R) R).ax.length
theorem Of{R:Nat}{M A:MF}{L:List LF}(hA:zq A L R)(hs:Sym R M)(h:gf R M L)(b:Nat->Rat):∀r,r<L.length->Qs (iQ L r).2 (Aw A L.length b R) R=b r:=fun r hr=>by
 rw[<-ahy (M:=A) (b:=b) (R:=L.length) (m:=R) (fun r h1 h2=>by rw[MV hA hs h]at h2;omega) r hr]
 exact pO _ fun c hc=>⟨(hA r hr c hc).symm,rfl⟩
theorem aik{R:Nat}{M A:MF}{L:List LF}(hA:zq A L R)(hs:Sym R M)(h:gf R M L)(b:Nat->Rat):yC (Qt L.length (cy A b R) R) L.length R= .aI [.sl 3 (Qo PV.rat (Aw A L.length b R) R),.int .i64 0]:=
 if_pos fun r h1 h2=>by rw[MV hA hs h]at h2;omega
theorem Og{w:Nat->Rat}{g:Nat->Rat}{a:Nat}:∀n,(∀i,i<n->i≠a->g i=0)->Qs w g n=if a<n then w a*g a else 0
 |0,_=>by rw[if_neg Oz];rfl
 | n+1,h=>by
  have ih:=Og (w:=w) (g:=g) (a:=a) n fun i hi aH=>h i Oz aH
  show Qs w g n+w n*g n=_
  rw[ih]
  by_cases e:n=a
  ·subst e;rw[if_neg Oz,if_pos Oz];grind
  ·by_cases e2:a<n
   ·rw[if_pos e2,if_pos Oz,h n Oz e];grind
   ·rw[if_neg e2,if_neg Oz,h n Oz e];grind
theorem aem{R:Nat}{M A:MF}{L:List LF}(hA:zq A L R)(hs:Sym R M)(h:gf R M L){a:Nat}(ha:a<L.length):nM M (Aw A L.length (fun i=>if i=a then 1 else 0) R) R R=(iQ L a).1:=by
 rw[ael h]
 unfold Da
 rw[Og (a:=a) L.length fun i hi aH=>by rw[Of hA hs h _ i hi,if_neg aH];grind,if_pos ha,Of hA hs h _ a ha,if_pos rfl]
 grind
theorem Oh{k:Nat}:∀ {p:List Tm},(∀t∈p,nl t.1.den<=k)->nl (lP p)<=p.length*k+1
 | [],_=>by rw[show lP []=1 from rfl,vf];omega
 |t::p,h=>by
  have h1:=Oh (p:=p) fun s hs=>h s (Ka5 _ hs)
  have h2:=h t (by simp)
  have h3:=pS t.1.den (lP p)
  show nl (t.1.den*lP p)<=_
  rw[KaP,Kcq];omega
theorem akc{R n:Nat}{A:MF}{L:List LF}{D:Int}{b:Nat->Rat}(hA:zq A L R)(hF:FD n D R L)(hb:∀i,b i=1∨b i=0)(hn:1<=n)(hLR:L.length<=R):
  xt ((n+1)*2^L.length) L.length (R+1) R (cy A b R)/\∃D':Int,D'≠0/\nl D'.natAbs<=(n+1)*2^L.length/\∀c,∃z:Int,Aw A L.length b R c=(z:Rat)/(D':Rat)/\nl z.natAbs<=(n+1)*2^L.length:=by
 have hC:CM (n+1-1) D L.length (R+1) (cy A b R):=⟨hF.1,by have:=hF.2.1;omega,fun r hr c hc=>by
  unfold cy
  by_cases e:c=R
  ·rw[if_pos e]
   rcases hb r with h|h
   ·exact⟨D,by rw[h,KbA,Rat.mul_inv_cancel _ (kv hF.1)],by have:=hF.2.1;omega⟩
   ·exact⟨0,by rw[h,KbA];exact(KcB _).symm,by rw[Int.natAbs_zero,w8];omega⟩
  ·rw[if_neg e]
   obtain⟨a,ea,ha⟩:=hF.2.2 _ (MT hr) c Oz
   exact⟨a,by rw[hA r hr c Oz,ea],by omega⟩⟩
 refine⟨aid Oz hC Oz,?_⟩
 obtain⟨s,h1,h2,⟨D',h3⟩,h4,h5⟩:=Hi Oz hC R Oz
 have hm:(n+1)*2^s<=(n+1)*2^L.length:=KaA _ (KaN Oz h2)
 refine⟨D',h3.1,by have:=h3.2.1;omega,fun c=> ?_⟩
 have key:∀j,j<=s->∃z:Int,mT (Qt L.length (cy A b R) R).M (Qt L.length (cy A b R) R).ax R j c=(z:Rat)/(D':Rat)/\nl z.natAbs<=(n+1)*2^s-1:=by
  intro j
  rw[Ju]
  induction j with
  |zero=>exact fun _=>⟨0,by rw[KbA];exact(KcB _).symm,by rw[Int.natAbs_zero,w8];omega⟩
  |succ j ih=>
   intro hj
   show ∃z:Int,(if c=(Qt L.length (cy A b R) R).ax.getD j 0 then _ else _)=_/\_
   split
   ·exact h3.2.2 j Oz R Oz
   ·exact ih Oz
 obtain⟨z,e1,e2⟩:=key s (Kaf _)
 exact⟨z,by rw[<-e1,<-h5];rfl,by omega⟩
theorem QD{x y:Nat->Rat}{D E:Int}{n m:Nat}(hD:D≠0)(hE:E≠0):∀w,(∀c,c<w->∃a:Int,x c=(a:Rat)/(D:Rat)/\nl a.natAbs<=n)->(∀c,c<w->∃a:Int,y c=(a:Rat)/(E:Rat)/\nl a.natAbs<=m)->∃z:Int,Qs x y w=(z:Rat)/((D*E:Int):Rat)/\nl z.natAbs<=n+m+w
 |0,_,_=>⟨0,by rw[KbA];exact(KcB _).symm,by rw[Int.natAbs_zero,w8];omega⟩
 | w+1,hx,hy=>by
  obtain⟨z,e,hz⟩:=QD hD hE w (fun c hc=>hx c Oz) fun c hc=>hy c Oz
  obtain⟨a,ea,ha⟩:=hx w Oz
  obtain⟨b,eb,hb⟩:=hy w Oz
  refine⟨z+a*b,?_,by
   have h1:=rR z (a*b)
   have h2:=jR ha hb
   omega⟩
  show Qs x y w+x w*y w=_
  rw[e,ea,eb,Kc4,KaS,KaS]
  have h1:=kv hD
  have h2:=kv hE
  generalize(a:Rat)=a at *
  generalize(b:Rat)=b at *
  generalize(z:Rat)=z at *
  generalize(D:Rat)=D at *
  generalize(E:Rat)=E at *
  grind
def sm(f:Nat->Rat):Nat->Rat
 |0=>0
 |n+1=>sm f n+f n
theorem tw{f g:Nat->Rat}:∀n,(∀i,i<n->f i=g i)->sm f n=sm g n
 |0,_=>rfl
 |n+1,h=>by simp only[sm];rw[tw n fun i hi=>h i Oz,h n Oz]
theorem HC{f g:Nat->Rat}:∀n,sm (fun i=>f i+g i) n=sm f n+sm g n
 |0=>by simp only[sm];grind
 |n+1=>by simp only[sm];rw[HC n];grind
theorem zs{f:Nat->Rat}{c:Rat}:∀n,sm (fun i=>c*f i) n=c*sm f n
 |0=>by simp only[sm];grind
 |n+1=>by simp only[sm];rw[zs n];grind
theorem zb{f:Nat->Rat}:∀n,(∀i,i<n->f i=0)->sm f n=0
 |0,_=>rfl
 |n+1,h=>by simp only[sm];rw[zb n fun i hi=>h i Oz,h n Oz];grind
theorem BP{f:Nat->Rat}{a:Nat}:∀n,a<n->(∀i,i<n->i≠a->f i=0)->sm f n=f a
 |0,h,_=>by omega
 |n+1,h,hz=>by
  simp only[sm]
  by_cases e:n=a
  ·subst e;rw[zb n fun i hi=>hz i Oz Oz];grind
  ·rw[BP n Oz fun i hi aH=>hz i Oz aH,hz n Oz e];grind
def fF(g:Nat->Nat->Rat)(R:Nat):Rat:=sm (fun i=>sm (g i) R) R
theorem pP{g h:Nat->Nat->Rat}{R:Nat}(e:∀i,i<R->∀k,k<R->g i k=h i k):fF g R=fF h R:=tw R fun i hi=>tw R fun k hk=>e i hi k hk
theorem zc{g h:Nat->Nat->Rat}{R:Nat}:fF (fun i k=>g i k+h i k) R=fF g R+fF h R:=by
 unfold fF;rw[<-HC];exact tw R fun i _=>HC R
theorem Bs{g:Nat->Nat->Rat}{R:Nat}{c:Rat}:fF (fun i k=>c*g i k) R=c*fF g R:=by
 unfold fF;rw[<-zs];exact tw R fun i _=>zs R
theorem Oi{g:Nat->Nat->Rat}{R:Nat}(h:∀i,i<R->∀k,k<R->g i k=0):fF g R=0:=zb R fun i hi=>zb R fun k hk=>h i hi k hk
theorem Fv{R a b:Nat}{c:Rat}(ha:a<R)(hb:b<R):fF (fun i k=>if i=a/\k=b then c else 0) R=c:=by
 unfold fF
 rw[BP R ha fun i hi aH=>zb R fun k hk=>if_neg fun h=>aH h.1,BP R hb fun k hk aH=>if_neg fun h=>aH h.2,if_pos ⟨rfl,rfl⟩]
theorem aen(v n:Nat):dj (cB v n)=n:=by
 unfold dj cB
 have h:∀v:Nat,(List.replicate v (0:Int)).sum=0:=fun v=>by
  induction v with
  |zero=>rfl
  |succ v ih=>rw[KbH,KcR,ih];rfl
 rw[List.sum_append,h]
 simp
theorem EO{E:Nat}{m:List Int}(hm:MB E m)(hl:m.getLast? ≠some 0)(v:Nat):dj m=dj (nJ m v)+eN m v/\0<=dj (nJ m v):=by
 have h0:=(hm.eN v).1
 have e:m=bp (nJ m v) (cB v (eN m v).toNat):=tv hl (qB _ _) fun i=>by
  rw[nE,uY,Fo]
  by_cases h:i=v
  ·subst h;rw[if_pos rfl,if_pos rfl];omega
  ·rw[if_neg h,if_neg h];omega
 refine⟨?_,(Fk (Bn hm v)).1⟩
 conv=>lhs;rw[e,adR,aen]
 omega
def cq(V:List Nat)(i:Nat):List Int:=(V.map (fun v=>cB v 1)++[[]]).getD i []
theorem FL{V:List Nat}{i:Nat}(hi:i<=V.length)(w:Nat):eN (cq V i) w=if ∃h:i<V.length,V[i]=w then 1 else 0:=by
 unfold cq
 rw[Kad]
 by_cases h:i<V.length
 ·rw[Kby (by rw[Kap];exact h),Kav,Kag h]
  show eN (cB V[i] 1) w=_
  rw[Fo]
  by_cases e:w=V[i]
  ·rw[if_pos e,if_pos ⟨h,e.symm⟩];rfl
  ·rw[if_neg e,if_neg fun⟨_,h2⟩=>e h2.symm]
 ·obtain rfl:i=V.length:=by omega
  rw[KbS (by simp),Kap,KbD]
  show eN [] w=_
  rw[PO,if_neg fun⟨h2,_⟩=>h h2]
theorem akd{V:List Nat}{m:List Int}{E:Nat}(hm:MB E m)(hl:m.getLast? ≠some 0)(hd:dj m<=2)(hV:∀v,eN m v≠0->v∈V):∃a b,a<=V.length/\b<=V.length/\m=bp (cq V a) (cq V b):=by
 have vV:∀v,v∈V->∃a,∃h:a<V.length,V[a]=v:=fun v h=>KaT h
 have hz:∀ {m:List Int},MB E m->m.getLast? ≠some 0->dj m<=0->∀i,eN m i=0:=fun {m} hm hl hd i=>by
  have h1:=EO hm hl i
  have:=(hm.eN i).1
  omega
 have gQ:∀w,eN (cq V V.length) w=0:=fun w=>by rw[FL (Kaf _),if_neg fun⟨h,_⟩=>by omega]
 by_cases h0:∀v,eN m v=0
 ·exact⟨V.length,V.length,Kaf _,Kaf _,tv hl (qB _ _) fun i=>by rw[nE,h0,gQ];rfl⟩
 ·obtain⟨v,hv⟩:=Classical.not_forall.1 h0
  obtain⟨a,ha,Gf⟩:=vV v (hV v hv)
  have h1:=EO hm hl v
  have h2:=(hm.eN v).1
  have KQ:∀w,eN (cq V a) w=if w=v then 1 else 0:=fun w=>by
   rw[FL Oz]
   by_cases e:w=v
   ·rw[if_pos e,if_pos ⟨ha,by rw[Gf,e]⟩]
   ·rw[if_neg e,if_neg fun⟨_,h⟩=>e (by rw[<-h,Gf])]
  by_cases h3:∀u,eN (nJ m v) u=0
  ·by_cases h4:eN m v=2
   ·refine⟨a,a,by omega,by omega,tv hl (qB _ _) fun i=> ?_⟩
    rw[nE,KQ]
    by_cases e:i=v
    ·rw[if_pos e,e,h4];rfl
    ·have:=h3 i
     rw[uY,if_neg e]at this
     rw[if_neg e,this];rfl
   ·refine⟨a,V.length,by omega,Kaf _,tv hl (qB _ _) fun i=> ?_⟩
    rw[nE,KQ,gQ]
    by_cases e:i=v
    ·rw[if_pos e,e];omega
    ·have:=h3 i
     rw[uY,if_neg e]at this
     rw[if_neg e,this];rfl
  ·obtain⟨u,hu⟩:=Classical.not_forall.1 h3
   have kI:u≠v/\eN m u≠0:=by
    rw[uY]at hu
    by_cases e:u=v
    ·rw[if_pos e]at hu;exact absurd rfl hu
    ·rw[if_neg e]at hu;exact⟨e,hu⟩
   obtain⟨b,hb,UD⟩:=vV u (hV u kI.2)
   have g1:=EO (Bn hm v) (Sp m v) u
   have g2:=((Bn hm v).eN u).1
   have g3:eN (nJ m v) u=eN m u:=by rw[uY,if_neg kI.1]
   have Ag:=hz (Bn (Bn hm v) u) (Sp _ u) Oz
   have heb:∀w,eN (cq V b) w=if w=u then 1 else 0:=fun w=>by
    rw[FL Oz]
    by_cases e:w=u
    ·rw[if_pos e,if_pos ⟨hb,by rw[UD,e]⟩]
    ·rw[if_neg e,if_neg fun⟨_,h⟩=>e (by rw[<-h,UD])]
   refine⟨a,b,by omega,by omega,tv hl (qB _ _) fun i=> ?_⟩
   rw[nE,KQ,heb]
   by_cases e:i=v
   ·rw[if_pos e,if_neg Oz,e];omega
   ·by_cases e2:i=u
    ·rw[if_neg e,if_pos e2,e2];omega
    ·have:=Ag i
     rw[uY,if_neg e2,uY,if_neg e]at this
     rw[if_neg e,if_neg e2,this];rfl
theorem akM{V:List Nat}(hV:V.Pairwise (· < ·)){i k a b:Nat}(hi:i<=V.length)(hk:k<=V.length)(ha:a<=V.length)(hb:b<=V.length)(h:bp (cq V i) (cq V k)=bp (cq V a) (cq V b)):(i=a/\k=b)∨(i=b/\k=a):=by
 have hj:∀j,j<V.length->(if i=j then(1:Int)else 0)+(if k=j then 1 else 0)=(if a=j then 1 else 0)+(if b=j then 1 else 0):=fun j hj=>by
  have e:=congrArg (fun m=>eN m V[j]) h
  simp only[nE]at e
  have hs:∀x,x<=V.length->eN (cq V x) V[j]=if x=j then 1 else 0:=fun x hx=>by
   rw[FL hx]
   by_cases e:x=j
   ·subst e;rw[if_pos ⟨hj,rfl⟩,if_pos rfl]
   ·have aH:¬∃h:x<V.length,V[x]=V[j]:=fun⟨h1,h2⟩=>by
     rcases Nat.lt_or_gt_of_ne e with g|g
     ·have:=KbL.1 hV x j h1 hj g;omega
     ·have:=KbL.1 hV j x hj h1 g;omega
    rw[if_neg e,if_neg aH]
  rw[hs i hi,hs k hk,hs a ha,hs b hb]at e
  exact e
 have h1:=hj i
 have h2:=hj k
 have h3:=hj a
 have h4:=hj b
 omega
theorem Bt(p:List Tm)(i:Nat):(aJ p).getD i []=cq (Qz p) i:=rfl
theorem DT(p:List Tm):(Qz p).Pairwise (· < ·):=List.Pairwise.filter _ List.pairwise_lt_range
def td(i k:Nat):Rat:=if i=k then 1 else 1/2
theorem aeo{V:List Nat}(hV:V.Pairwise (· < ·)){a b:Nat}(ha:a<=V.length)(hb:b<=V.length):fF (fun i k=>if bp (cq V i) (cq V k)=bp (cq V a) (cq V b)then td i k else 0) (V.length+1)=1:=by
 have ma:∀i,i<V.length+1->∀k,k<V.length+1->(bp (cq V i) (cq V k)=bp (cq V a) (cq V b)↔(i=a/\k=b)∨(i=b/\k=a)):=fun i hi k hk=>
  ⟨akM hV Oz Oz ha hb,fun h=>by
   rcases h with⟨rfl,rfl⟩|⟨rfl,rfl⟩
   ·rfl
   ·exact yO _ _⟩
 by_cases e:a=b
 ·subst e
  rw[pP (h:=fun i k=>if i=a/\k=a then 1 else 0) fun i hi k hk=> ?_,Fv Oz Oz]
  by_cases h:i=a/\k=a
  ·rw[if_pos ((ma i hi k hk).2 (.inl h)),if_pos h,h.1,h.2,td,if_pos rfl]
  ·rw[if_neg fun h2=> ?_,if_neg h]
   rcases(ma i hi k hk).1 h2 with h3|h3<;>exact h h3
 ·rw [pP (h:=fun i k=>(if i=a/\k=b then 1/2 else 0)+(if i=b/\k=a then 1/2 else 0)) fun i hi k hk=> ?_,zc,Fv Oz Oz,Fv Oz Oz]
  ·grind
  ·by_cases h:i=a/\k=b
   ·have h':¬(i=b/\k=a):=by omega
    rw[if_pos ((ma i hi k hk).2 (.inl h)),if_pos h,if_neg h',td,if_neg Oz];grind
   ·by_cases h':i=b/\k=a
    ·rw[if_pos ((ma i hi k hk).2 (.inr h')),if_neg h,if_pos h',td,if_neg Oz];grind
    ·rw[if_neg fun h2=> ?_,if_neg h,if_neg h']
     ·grind
     ·rcases(ma i hi k hk).1 h2 with h3|h3
      ·exact h h3
      ·exact h' h3
def vr:List Tm->List Int->Rat
 | [],_=>0
 |t::p,m=>(if m=t.2 then t.1 else 0)+vr p m
theorem MW{m:List Int}:∀ {p:List Tm},(∀t∈p,t.2≠m)->vr p m=0
 | [],_=>rfl
 |t::p,h=>by
  show(if m=t.2 then t.1 else 0)+vr p m=0
  rw[MW fun s hs=>h s (Ka5 _ hs),if_neg (Ne.symm (h t (by simp)))];grind
theorem OX{m:List Int}(hm:m.getLast? ≠some 0):∀ {p:List Tm},bC p->lL p m=vr p m
 | [],_=>rfl
 | t::p,h=>by
  have ih:=OX hm h.tail
  have ht:=(Can.cons.1 h.c).1
  show(if aX t.2 m=0 then t.1 else lL p m)=(if m=t.2 then t.1 else 0)+vr p m
  by_cases e:m=t.2
  ·rw[if_pos ((BE ht hm).2 e.symm),if_pos e,MW fun s hs lu=> ?_]
   ·grind
   ·have:=h.s.1 s hs
    rw[lu,e,En]at this;omega
  ·rw[if_neg fun h2=>e ((BE ht hm).1 h2).symm,if_neg e,ih];grind
theorem Oj(φ:List Int->Rat){V:List Nat}(hV:V.Pairwise (· < ·)):∀ {p:List Tm},(∀t∈p,∃a b,a<=V.length/\b<=V.length/\t.2=bp (cq V a) (cq V b))->
  fF (fun i k=>td i k*vr p (bp (cq V i) (cq V k))*φ (bp (cq V i) (cq V k))) (V.length+1)=bN φ p
 | [],_=>Oi fun i _ k _=>by show td i k*0*_=0;grind
 | t::p,h=>by
  have ih:=Oj φ hV fun s hs=>h s (Ka5 _ hs)
  obtain⟨a,b,ha,hb,e⟩:=h t (by simp)
  rw[fc,<-ih,pP (h:=fun i k=>t.1*φ t.2*(if bp (cq V i) (cq V k)=bp (cq V a) (cq V b)then td i k else 0)+td i k*vr p (bp (cq V i) (cq V k))*φ (bp (cq V i) (cq V k))) fun i hi k hk=> ?_,zc,Bs,aeo hV ha hb]
  ·grind
  ·show td i k*((if bp (cq V i) (cq V k)=t.2 then t.1 else 0)+vr p (bp (cq V i) (cq V k)))*φ (bp (cq V i) (cq V k))=_
   by_cases h2:bp (cq V i) (cq V k)=bp (cq V a) (cq V b)
   ·rw[if_pos (h2.trans e.symm),if_pos h2,h2,<-e];grind
   ·rw[if_neg fun h3=>h2 (h3.trans e),if_neg h2];grind
theorem aaI{p:List Tm}{E:Nat}(hm:∀t∈p,MB E t.2)(hn:bC p)(hd:jU p<=2):∀t∈p,∃a b,a<=(Qz p).length/\b<=(Qz p).length/\t.2=bp (cq (Qz p) a) (cq (Qz p) b):=fun t ht=>by
 refine akd (hm t ht) (hn.c t ht) (Int.le_trans ((NX p).1 t ht) hd) fun v hv=> ?_
 have aqY:v<64:=by
  refine Nat.lt_of_not_le fun h=>hv (gW ?_)
  have:=(hm t ht).len;omega
 refine List.mem_filter.2 ⟨Kbz.2 aqY,?_⟩
 exact Ka4.2 ⟨t,ht,decide_eq_true hv⟩
theorem Ok(φ:List Int->Rat){p:List Tm}{E:Nat}(hm:∀t∈p,MB E t.2)(hn:bC p)(hd:jU p<=2):
  fF (fun i k=>tM p (aJ p) i k*φ (bp (cq (Qz p) i) (cq (Qz p) k))) (aJ p).length=bN φ p:=by
 have hl:(aJ p).length=(Qz p).length+1:=by simp[aJ]
 rw[hl,<-Oj φ (DT p) (aaI hm hn hd)]
 refine pP fun i _ k _=> ?_
 unfold tM
 rw[Bt,Bt,OX (qB _ _) hn,td]
 split<;>grind
def tR:List LF->Nat->Nat->Rat
 | [],_,_=>0
 |f::L,r,c=>f.1*f.2 r*f.2 c+tR L r c
theorem MX(f:LF)(r c:Nat):∀L:List LF,tR (L++[f]) r c=tR L r c+f.1*f.2 r*f.2 c
 | []=>by show _+(0:Rat)=0+_;grind
 |g::L=>by
  show g.1*g.2 r*g.2 c+tR (L++[f]) r c=g.1*g.2 r*g.2 c+tR L r c+_
  rw[MX f r c L];grind
theorem ail{R:Nat}{M:MF}{L:List LF}(h:gf R M L){r c:Nat}(hr:r<R)(hc:c<R):M r c=tR L r c:=by
 induction h with
 |nil h=>exact h r hr c hc
 | @one M f L i hi α hw h2 lj hz hL ih=>
  show _=f.1*f.2 r*f.2 c+tR L r c
  rw[<-ih];unfold cA;grind
 | @two M f g L i k hi hk a ha wf wg hf hg fi fk gi gk wz wA hL ih=>
  show _=f.1*f.2 r*f.2 c+(g.1*g.2 r*g.2 c+tR L r c)
  rw[<-ih];unfold cA;grind
theorem Ix:∀ {L:List Tm},(∀t∈L,cD t.2=true)->qF (L.map ee)=L
 | [],_=>rfl
 |t::L,h=>by
  have h1:=h t (by simp)
  have h2:=Ix (L:=L) fun s hs=>h s (Ka5 _ hs)
  have ht:dF (ee t).m=t.2:=I8 (yG h1)
  unfold qF at h2⊢
  rw[Kbd,Kb9,IB (by rw[ht];exact h1),ht,h2,QK]
theorem Ol(φ:List Int->Rat){L:List Tm}(h:∀t∈L,cD t.2=true):bN φ (nT L)=bN φ L:=by
 unfold nT
 rw[zD,(Mv (φ:=φ) _ _ (Kaf _) (fun p hp=>(SW _ p hp).c)).2,jQ,SX,Ix h]
theorem aep{L:List Tm}(h:∀t∈L,cD t.2=true){t:Tm}(ht:t∈nT L):∃s∈L,s.2=t.2:=by
 obtain⟨p,hp,s,hs,e⟩:=NW _ _ (Kaf _) ht
 obtain⟨u,hu,rfl,_⟩:=Ea hp
 rw[Ix h]at hu
 rw[KaB.1 hs]at e
 exact⟨u,hu,e⟩
theorem I5(ψ:List Int->Rat)(g:Nat->Tm):∀n,bN ψ ((List.range n).map g)=sm (fun k=>(g k).1*ψ (g k).2) n
 |0=>rfl
 |n+1=>by
  rw[Kc3,Kbo,Ik,I5 ψ g n]
  show _+((g n).1*ψ (g n).2+0)=sm _ n+_
  grind
theorem MY{bs:List (List Int)}{f:LF}(hb:∀b∈bs,cD b=true):∀t∈gX bs f,cD t.2=true:=fun t ht=>by
 obtain⟨k,hk,rfl⟩:=KaT ht
 rw[wO]at hk
 rw[Eu hk]
 exact hb _ (Kai _)
theorem aim(φ:List Int->Rat){bs:List (List Int)}(hb:∀b∈bs,cD b=true)(f:LF):bN φ (jx (fg bs f))=fF (fun i k=>f.1*f.2 i*f.2 k*φ (bp (bs.getD i []) (bs.getD k []))) bs.length:=by
 unfold jx
 have hn:bC (nT (gX bs f)):=MA _
 have hm:=MY (f:=f) hb
 show bN φ (jP (fy (nT (gX bs f)) (nT (gX bs f))) f.1)=_
 rw[SQ φ (ES hn.s hn.s).c,Jd,Ol _ hm]
 have e:(fun m=>bN (fun n=>φ (bp m n)) (nT (gX bs f)))=fun m=>bN (fun n=>φ (bp m n)) (gX bs f):=funext fun m=>Ol _ hm
 rw[e]
 unfold gX
 rw[I5]
 unfold fF
 rw[<-zs]
 refine tw _ fun i _=> ?_
 rw[I5,<-zs,<-zs]
 exact tw _ fun k _=>by grind
theorem N1(φ:List Int->Rat){bs:List (List Int)}(hb:∀b∈bs,cD b=true){fs:List LF}{K E n:Nat}(hG:∀x∈fs.map (fg bs),qU K E n x):∀i,i<=fs.length->bN φ (fB ((fs.map (fg bs)).take i))=fF (fun a b=>tR (fs.take i) a b*φ (bp (bs.getD a []) (bs.getD b []))) bs.length
 |0,_=>(Oi fun a _ b _=>by show(0:Rat)*_=0;grind).symm
 |i+1,hi=>by
  have hl:(fs.map (fg bs)).length=fs.length:=Kap _
  have hg:(fs.map (fg bs))[i]'Oz=fg bs fs[i]:=KbB ..
  obtain⟨_,_,a3⟩:=vb hG i Oz
  obtain⟨_,_,b3⟩:=FF (hG _ (Kai (show i<(fs.map (fg bs)).length by omega)))
  rw[AL Oz,ER a3.c b3.c,N1 φ hb hG i Oz,hg,aim φ hb,<-zc]
  refine pP fun a _ b _=> ?_
  rw[Kak Oz,MX];grind
theorem acr{p:List Tm}{E K E2 n:Nat}{fs:List LF}(hm:∀t∈p,MB E t.2)(hn:bC p)(hd:jU p<=2)(hS:gf (aJ p).length (Qu (iA p (aJ p)) (aJ p).length) fs)(hG:∀x∈fs.map (fg (aJ p)),qU K E2 n x):fB (fs.map (fg (aJ p)))=p:=by
 have hb:∀b∈aJ p,cD b=true:=fun b h=>IQ (pQ b h).1 Oz (pQ b h).2.2
 obtain⟨_,_,a3⟩:=vb hG _ (Kaf _)
 rw[KaH]at a3
 refine JY a3 hn fun φ=> ?_
 have h:=N1 φ hb hG fs.length (Kaf _)
 rw[Kac (by simp),KaH]at h
 rw[h,<-Ok φ hm hn hd]
 refine pP fun i hi k hk=> ?_
 rw[<-ail hS hi hk,Bt,Bt]
 congr 1
 unfold Qu iA
 have au:i*(aJ p).length+k<(aJ p).length*(aJ p).length:=by
  have:(i+1)*(aJ p).length<=(aJ p).length*(aJ p).length:=Kah _ hi
  rw[Kcq]at this;omega
 rw[Kad,Kav,Kb8 au]
 exact Jt hk
theorem MZ{l:List Sq}(h:∀i,i<l.length->rZ (fB (l.take (i+1)))=false):∀k i,i+k=l.length->mN (l.drop i) (fB (l.take i))=some (fB l)
 |0,i,hi=>by
  obtain rfl:i=l.length:=by omega
  rw[Kdb,KaH];rfl
 |k+1,i,hi=>by
  rw[Th _ Oz,<-AL Oz,h i Oz,if_neg (by decide)]
  exact MZ h k (i+1) Oz
def fZ(x:Sq):de:=⟨decide (x.1.num<0),ak x.1.num.natAbs,ak x.1.den,x.2.map ee⟩
theorem aeq(x:Sq):PV.jN (fZ x)=PV.sq x:=by
 have h:PV.jN (fZ x)=PV.agg [.bool (decide (x.1.num<0)),PV.num x.1.num.natAbs,PV.num x.1.den,PV.lG (x.2.map ee)]:=rfl
 rw[h,Bm]
theorem aer(x:Sq):(fZ x).sq=x:=by
 have h1:rv (fZ x).n (fZ x).a (fZ x).d=x.1:=dE x.1
 show(rv (fZ x).n (fZ x).a (fZ x).d,(x.2.map ee).map a9.tm)=x
 rw[h1,KbE]
 have:(a9.tm∘ee)=id:=funext fun t=>PW t
 rw[this,List.map_id]
theorem ain{x:Sq}{K E n:Nat}(h:qU K E n x)(hE:E<=1048576)(h0:0<x.1):nv (fZ x)=0:=by
 unfold nv
 have h1:rv (fZ x).n (fZ x).a (fZ x).d=x.1:=dE x.1
 have h2:kj (fZ x).n (fZ x).a (fZ x).d=true:=ET x.1
 have h3:dk (fZ x).p=true:=EU (h.n.LG h.b hE)
 rw[h1,h2,h3,if_pos rfl,if_pos rfl,if_pos h0]
theorem aio{x:Sq}{K E n:Nat}(h:qU K E n x)(hn:n<2^40):qT K (fZ x):=by
 have hw:=h.w
 refine⟨⟨Qk _,Qk _,?_,?_,by omega⟩,fun t ht=> ?_,?_⟩
 ·have h1:nl x.1.num.natAbs<=rs x.1:=by unfold rs;omega
  exact Kao h1 Oz
 ·have h1:nl x.1.den<=rs x.1:=by unfold rs;omega
  exact Kao h1 Oz
 ·obtain⟨s,hs,rfl⟩:=Kau.1 ht
  have:=(h.b s hs).c
  exact BN Oz (by have:=(h.b s hs).m.len;omega)
 ·have h1:=h.l
  have h2:(fZ x).p.length=x.2.length:=by simp[fZ]
  rw[h2]
  omega
theorem XZ{L:List Sq}{p:List Tm}{K E n:Nat}(hG:∀x∈L,qU K E n x/\0<x.1)(hs:fB L=p)(hv:pJ p)(GD:PB (2^33) (2^31) p)(hL:L.length<=1000)(hn:n<=1000)(hE:E+E<=1048576)(hK:(n*(K+K)+K)*(L.length+1)<=2^32)(xF:K<2^36)(Cg:1<=K)(hl:n*n*L.length<=4000):
  Qd Tryz.prog 41 [PV.aM p,PV.iv L] (· = .int .i64 0):=by
 have Cf:=fun x hx=>(hG x hx).1
 have CJ:PV.iv L= .sl 4 ((L.map fZ).map PV.jN):=by
  rw[KbE]
  exact congrArg _ (KaL fun x _=>(aeq x).symm)
 have uh:(L.map fZ).map de.sq=L:=by
  rw[KbE]
  have:(de.sq∘fZ)=id:=funext aer
  rw[this,List.map_id]
 have xV:∀i,i<L.length->rZ (fB (L.take (i+1)))=false:=fun i hi=>by
  obtain⟨a1,a2,_⟩:=vb Cf (i+1) Oz
  have:n*n*(i+1)<=n*n*L.length:=KaA _ Oz
  exact WZ a1 Oz Oz
 have nb:=MZ xV L.length 0 Oz
 rw[Ka6,show fB (L.take 0)=[]from rfl,hs]at nb
 have hf:mI (L.map fZ)=0:=by
  clear uh CJ xV nb hs hK hL hl Cf
  induction L with
  |nil=>rfl
  |cons x L ih=>
   rw[Kbd]
   unfold mI
   rw[ain (hG x (by simp)).1 Oz (hG x (by simp)).2,if_pos rfl]
   exact ih fun y hy=>hG y (Ka5 _ hy)
 have oe:jf (L.map fZ)=(p,0):=by
  unfold jf
  rw[if_pos hf,uh,nb];rfl
 have Cm:Qd Tryz.prog 36 [.sl 4 ((L.map fZ).map PV.jN)] (· =PV.s0 (p,0)):=by
  rw[<-oe]
  refine Pd (k:=K) (fun s hs=> ?_) Cg xF (by rw[Kap];omega) fun _=> ?_
  ·obtain⟨x,hx,rfl⟩:=Kau.1 hs
   exact aio (Cf x hx) Oz
  ·rw[<-CJ,uh]
   exact PR Cf hL hn Oz hK
 have bx:p.length<=n*n*L.length:=by
  obtain⟨_,a2,_⟩:=vb Cf _ (Kaf _)
  rw[KaH,hs]at a2;exact a2
 have e2:(p.map ee).map a9.tm=p:=by
  rw[KbE]
  have:(a9.tm∘ee)=id:=funext fun t=>PW t
  rw[this,List.map_id]
 have h:=MO (p:=p.map ee) (r:=(p,0)) (k:=2^33) (K:=2^33) (E:=2^31) Cm (fun t ht=>by
  obtain⟨s,hs,rfl⟩:=Kau.1 ht
  have:=(GD s hs).c
  exact BN Oz (by have:=(GD s hs).m.len;omega)) (by rw[Kap];omega) Oz Oz GD (by show p.length<=_;omega) (fun _=>by rw[e2];exact GD) Oz Oz
 rw[Bm,<-CJ]at h
 have hz:xl (p.map ee) (p,0)=0:=by
  unfold xl
  rw[if_neg (show ¬(0:Int)≠0 by decide),if_pos ⟨EU hv,e2⟩]
 rwa[hz]at h
theorem aes{vs:List Rat}{v:Nat}:iG vs (cB v 1)=vs.getD v 0:=by
 have hl:(cB v 1).length=v+1:=by simp[cB]
 have hz:∀n,n<=v->fN vs (cB v 1) n=1:=fun n=>by
  induction n with
  |zero=>intro _;rfl
  |succ n ih=>
   intro hn
   show fN vs (cB v 1) n*cE _ (eN (cB v 1) n).toNat=1
   rw[ih Oz,Fo,if_neg Oz]
   show 1*cE _ 0=1
   rw[Ba];grind
 unfold iG
 rw[hl]
 show fN vs (cB v 1) v*cE (vs.getD v 0) (eN (cB v 1) v).toNat=_
 rw[hz v (Kaf _),Fo,if_pos rfl]
 show 1*(cE _ 0*_)=_
 rw[Ba];grind
def vE(x:List Rat)(n i:Nat):Rat:=if i<n then x.getD i 0 else 1
theorem QL{p:List Tm}{i:Nat}(hi:i<(Qz p).length):(aJ p).getD i []=cB (Qz p)[i] 1:=by
 unfold aJ
 rw[Kad,Kby (by rw[Kap];exact hi),Kav,Kag hi];rfl
theorem QE{p:List Tm}{x:List Rat}:∀i,i<=(Qz p).length->(∀h:0<i,∃h2:i-1<(Qz p).length,(dd (aJ p) x i).length=(Qz p)[i-1]+1)/\(i=0->(dd (aJ p) x i).length=0)/\∀j (h:j<(Qz p).length),j<i->(dd (aJ p) x i).getD (Qz p)[j] 0=x.getD j 0
 |0,_=>⟨fun h=>by omega,fun _=>rfl,fun j _ h=>by omega⟩
 | i +1,hi=>by
  obtain⟨h1,h2,h3⟩:=QE (p:=p) (x:=x) i Oz
  have hs:=DT p
  have au:(dd (aJ p) x i).length<=(Qz p)[i]:=by
   by_cases e:i=0
   ·rw[h2 e];omega
   ·obtain⟨g1,g2⟩:=h1 Oz
    have:=KbL.1 hs (i-1) i g1 Oz Oz
    omega
  have hb:((aJ p).getD i []).length-1=(Qz p)[i]:=by rw[QL Oz];simp[cB]
  have hlen:(dd (aJ p) x i++List.replicate (((aJ p).getD i []).length-1-(dd (aJ p) x i).length) 0).length=(Qz p)[i]:=by
   rw[Kax,List.length_replicate,hb];omega
  refine⟨fun _=>⟨by omega,?_⟩,fun h=>by omega,fun j hj im=> ?_⟩
  ·show(dd (aJ p) x i++List.replicate (((aJ p).getD i []).length-1-(dd (aJ p) x i).length) 0++[x.getD i 0]).length=_
   rw[Kax,hlen];rfl
  ·show(dd (aJ p) x i++List.replicate (((aJ p).getD i []).length-1-(dd (aJ p) x i).length) 0++[x.getD i 0]).getD (Qz p)[j] 0=_
   rw[Kad]
   by_cases e:j=i
   ·subst e
    rw[KbS Oz,hlen,KbD];rfl
   ·have Gn:(Qz p)[j]<(dd (aJ p) x i).length:=by
     obtain⟨g1,g2⟩:=h1 Oz
     rw[g2]
     rcases KcL j (i-1)with h|h
     ·have:=KbL.1 hs j (i-1) hj g1 h;omega
     ·have:j=i-1:=by omega
      subst this;omega
    rw[Kbs,Kby Gn,<-List.getD_eq_getElem?_getD]
    exact h3 j hj Oz
theorem Hw{bs:List (List Int)}{x:List Rat}{W:Nat}(hx:∀q∈x,rs q<=W)(hW:1<=W):∀i,∀q∈dd bs x i,rs q<=W
 |0,q,hq=>by cases hq
 | i+1,q,hq=>by
  have:=sj
  rcases KaK.1 hq with hq|hq
  ·rcases KaK.1 hq with hq|hq
   ·exact Hw hx hW i q hq
   ·rw[(Kc0.1 hq).2];omega
  ·rw[KaB.1 hq,Kad]
   cases h:x[i]? with
   |none=>show rs 0<=W;omega
   |some q=>exact hx q (Kaj h)
theorem Fw{p:List Tm}{x:List Rat}{E:Nat}(hm:∀t∈p,MB E t.2)(hn:bC p)(hd:jU p<=2):
  cV (dd (aJ p) x ((aJ p).length-1)) p=fF (fun i k=>tM p (aJ p) i k*(vE x (Qz p).length i*vE x (Qz p).length k)) (aJ p).length/\tS (dd (aJ p) x ((aJ p).length-1)) p=false:=by
 have hl:(aJ p).length=(Qz p).length+1:=by simp[aJ]
 rw[show(aJ p).length-1=(Qz p).length by omega]
 obtain⟨h1,h2,h3⟩:=QE (p:=p) (x:=x) (Qz p).length (Kaf _)
 refine⟨?_,?_⟩
 ·unfold cV
  rw[<-Ok (iG (dd (aJ p) x (Qz p).length)) hm hn hd]
  have hv:∀i,i<(aJ p).length->MB 1 (cq (Qz p) i)/\iG (dd (aJ p) x (Qz p).length) (cq (Qz p) i)=vE x (Qz p).length i:=fun i hi=>by
   unfold vE
   by_cases h:i<(Qz p).length
   ·rw[<-Bt,QL h,if_pos h,aes]
    exact⟨JC (Hf (Kai h)),h3 i h h⟩
   ·obtain rfl:i=(Qz p).length:=by omega
    have e:cq (Qz p) (Qz p).length=[]:=by
     unfold cq
     rw[Kad,KbS (by simp)];simp
    rw[if_neg h,e]
    exact⟨⟨by simp,by simp,by simp⟩,rfl⟩
  refine pP fun i hi k hk=> ?_
  rw[O5 (hv i hi).1 (hv k hk).1,(hv i hi).2,(hv k hk).2]
 ·unfold tS
  rw[Kb2]
  intro t ht
  have hle:t.2.length<=(dd (aJ p) x (Qz p).length).length:=by
   by_cases e:t.2.length=0
   ·omega
   ·have iq:eN t.2 (t.2.length-1)≠0:=fun h=>by
     have hc:=hn.c t ht
     rw[fw Oz]at h
     refine hc ?_
     rw[Kbk,Kag Oz,h]
    have dn:t.2.length-1∈Qz p:=List.mem_filter.2 ⟨Kbz.2 (by have:=(hm t ht).len;omega),Ka4.2 ⟨t,ht,decide_eq_true iq⟩⟩
    obtain⟨j,hj,ej⟩:=KaT dn
    obtain⟨g1,g2⟩:=h1 Oz
    rw[g2]
    rcases KcL j ((Qz p).length-1)with h|h
    ·have:=KbL.1 (DT p) j _ hj g1 h;omega
    ·have:j=(Qz p).length-1:=by omega
     subst this;omega
  simp;omega
theorem N2{M:MF}{z:Nat->Rat}{R:Nat}:nM M z R R=fF (fun i k=>M i k*(z i*z k)) R:=by
 have hd:∀i w,z i*Qs (M i) z w=sm (fun k=>M i k*(z i*z k)) w:=fun i w=>by
  induction w with
  |zero=>show z i*0=0;grind
  |succ w ih=>show z i*(Qs (M i) z w+M i w*z w)=sm _ w+_;rw[<-ih];grind
 have h:∀n,nM M z R n=sm (fun i=>sm (fun k=>M i k*(z i*z k)) R) n:=fun n=>by
  induction n with
  |zero=>rfl
  |succ n ih=>show nM M z R n+z n*Qs (M n) z R=sm _ n+_;rw[ih,hd]
 exact h R
theorem aaJ{M:MF}{z:Nat->Rat}{R:Nat}{c:Rat}:fF (fun i k=>M i k*(c*z i*(c*z k))) R=c*c*fF (fun i k=>M i k*(z i*z k)) R:=by
 rw[<-Bs];exact pP fun i _ k _=>by grind
theorem Hx{x y:Nat->Rat}:∀n,Qs x y n=sm (fun k=>x k*y k) n
 |0=>rfl
 |n+1=>by show Qs x y n+_=sm _ n+_;rw[Hx n]
theorem acs{M:MF}{y:Nat->Rat}{n:Nat}{t:Rat}(hs:Sym (n+1) M)(hy:y n=0):
  fF (fun i k=>M i k*((if i<n then t*y i else 1)*(if k<n then t*y k else 1))) (n+1)=t*t*nM M y (n+1) (n+1)+t*(2*Qs (M n) y (n+1))+M n n:=by
 have he:∀i,i<n+1->(if i<n then t*y i else 1)=t*y i+if i=n then 1 else 0:=fun i hi=>by
  by_cases h:i<n
  ·rw[if_pos h,if_neg Oz];grind
  ·obtain rfl:i=n:=by omega
   rw[if_neg h,if_pos rfl,hy];grind
 have h1:fF (fun i k=>M i k*((if i=n then 1 else 0)*y k)) (n+1)=Qs (M n) y (n+1):=by
  unfold fF
  rw[BP (a:=n) (n+1) Oz fun i hi aH=>zb _ fun k _=>by rw[if_neg aH];grind,Hx]
  exact tw _ fun k _=>by rw[if_pos rfl];grind
 have h2:fF (fun i k=>M i k*(y i*(if k=n then 1 else 0))) (n+1)=Qs (M n) y (n+1):=by
  unfold fF
  rw[Hx]
  refine tw _ fun i hi=> ?_
  show sm (fun k=>M i k*(y i*(if k=n then 1 else 0))) (n+1)=M n i*y i
  rw[BP (a:=n) (n+1) Oz fun k hk aH=>by rw[if_neg aH];grind,if_pos rfl,hs i hi n Oz];grind
 have h3:fF (fun i k=>M i k*((if i=n then 1 else 0)*(if k=n then 1 else 0))) (n+1)=M n n:=by
  rw[pP (h:=fun i k=>if i=n/\k=n then M n n else 0) fun i _ k _=> ?_,Fv Oz Oz]
  by_cases e:i=n
  ·by_cases e2:k=n
   ·rw[if_pos e,if_pos e2,if_pos ⟨e,e2⟩,e,e2];grind
   ·rw[if_neg e2,if_neg (show ¬(i=n/\k=n)from fun h=>e2 h.2)];grind
  ·rw[if_neg e,if_neg (show ¬(i=n/\k=n)from fun h=>e h.1)];grind
 rw[pP (h:=fun i k=>t*t*(M i k*(y i*y k))+(t*(M i k*(y i*(if k=n then 1 else 0)))+(t*(M i k*((if i=n then 1 else 0)*y k))+M i k*((if i=n then 1 else 0)*(if k=n then 1 else 0))))) fun i hi k hk=>by rw[he i hi,he k hk];grind]
 rw[zc,zc,zc,Bs,Bs,Bs,h1,h2,h3,N2]
 grind
theorem aip{q b c:Rat}(hq:q<0):((if b<0 then -b else b)+(if c<0 then -c else c))/(if q<0 then -q else q) ≥ 0/\∀n:Rat,n=((if b<0 then -b else b)+(if c<0 then -c else c))/(if q<0 then -q else q)->(n+1)*(n+1)*q+(n+1)*b+c<0:=by
 obtain⟨B,hB⟩:∃B,(if b<0 then -b else b)=B:=⟨_,rfl⟩
 obtain⟨G,hG⟩:∃G,(if c<0 then -c else c)=G:=⟨_,rfl⟩
 have b1:0<=B/\b<=B:=by rw[<-hB];split<;>constructor<;>grind
 have g1:0<=G/\c<=G:=by rw[<-hG];split<;>constructor<;>grind
 rw[hB,hG,if_pos hq]
 have js:0< -q:=by grind
 have ll:0<=(B+G)/ -q:=by
  rw[KbA]
  exact KbK (by grind) (Rat.le_of_lt (Rat.inv_pos.2 js))
 refine⟨ll,fun n hn=> ?_⟩
 have hm:n* -q=B+G:=by rw[hn,KbA,Rat.mul_assoc,Kce _ (by grind),Rat.mul_one]
 rw[<-hn]at ll
 have h1:(n+1)*b<=(n+1)*B:=Rat.mul_le_mul_of_nonneg_left b1.2 (by grind)
 have h2:0<=n*G:=KbK ll g1.1
 have h3:0<=n* -q:=KbK ll (by grind)
 have h4:(n+1)*(n+1)*q= -((n+1)*B)-n*G-G-n* -q+q:=by grind
 clear hm hn hB hG
 rw[h4]
 have h5:=b1.2
 have h6:=g1.2
 generalize(n+1)*b=u1 at *
 generalize(n+1)*B=u2 at *
 generalize n*G=u3 at *
 generalize n* -q=u4 at *
 grind
theorem akN{x y:Int}(h1: -9223372036854775808<=x)(h2:x<=9223372036854775807)(h3: -9223372036854775808<=y)(h4:y<=9223372036854775807)(h0:y≠0):Qd Tryz.prog 194 [.int .i64 x,.int .i64 y] (· =PV.rat ((x:Rat)/(y:Rat))):=by
 have hx:nl x.natAbs<=4:=oH Oz
 have hy:nl y.natAbs<=4:=oH Oz
 have hm:=MP (x:=x) (y:=y) Oz Oz h0
 have hox:=I0 h1 h2
 have hoy:=I0 h3 h4
 generalize(x:Rat)/(y:Rat)=Q at *
 refine aE Qg Tryz.func194 af2 fun C hP=> ?_
 refine Sz0 ?_
 refine Qb hP hox ?_
 refine Sz0 ?_
 refine Qb hP hoy ?_
 refine Sz0 ?_
 refine Qb hP hm ?_
 refine Sz0 ?_
 refine cn ?_
 refine Sz0 ?_
 exact Qc rfl rfl
def anx:ay:=⟨40,[.cell 8 3 true,.t 9],Zr (Zo (.box 7 3 51 (.t 3))<|
 Yb 8<|
 YE 9)<|Zr (YE 10)<| .seq (Zr (YP 16 2)<| .block 0<| .loop<|Zr (Ys 19 18 17)<| .seq (.cond (.t 19) .skip (.exit 0))<| .seq (.block 1<|Zr (YI 20 3 16 18<|
 Yb 12<|
 Zs 3 12 21 .nil)<| .rg (Zm 22 10<|
 nV 23 3 12 7 105<|
 Yv 26 3 51 25 56 22 10))<| .rg (YD 28 18 18))<|Zr (YL 29 1 10 140<|
 Yc 13 31)<|Zr (Ye 33 0 13<|
 Zq 35 false 37 [.t 33,.t 34]<|
 Zm 32 35<|
 mY 36 32 14 15)<|Zr (Zh 38 3 14<|
 Zm 39 13<|
 Zs 3 8 38<|
 Yc 9 39) .ret⟩
theorem aiq:Qe Tryz.prog Tryz.f195=some anx:=by kernel_rfl
def anz:ay:=⟨9,[.cell 2 3 true],Zr (gZ 1 51<|
 vJ 2)<| .seq (Zr (Zh 3 3 1<|
 Yk 4 38 3<|
 Zk 5 .lss 4 0 .nil)<| .cond (.t 5) (Zr (dG 6 3 1 62<|
 Zs 3 2 7 .nil) .ret) .skip)<|Zr (Zh 8 3 1<|
 Zs 3 2 8 .nil) .ret⟩
theorem air:Qe Tryz.prog Tryz.f196=some anz:=by kernel_rfl
def amJ:ay:=⟨79,[.t 6],Zr (YE 6)<|Zr (Zq 20 false 194 [.c (Zz 1),.c (Zz 2)]<|
 lR 7 20)<|Zr (YX 22 0 1 2<|
 jW 25 61 0<|
 Zq 26 false 195 [.t 22,.t 23,.t 24,.t 25]<|
 Zm 21 26<|
 mY 27 21 8 9)<|Zr (YX 30 0 1 2<|
 jW 33 61 1<|
 Zq 34 false 195 [.t 30,.t 31,.t 32,.t 33]<|
 Zm 29 34<|
 mY 35 29 10 11)<|Zr (YX 38 0 1 2<|
 Zq 41 false 61 [.c (Zz (-1))]<|
 Zq 42 false 195 [.t 38,.t 39,.t 40,.t 41]<|
 Zm 37 42<|
 mY 43 37 12 13)<|Zr (Zh 45 3 7<|
 Zh 46 3 10<|
 Zh 47 3 12<|
 Zh 50 3 8<|
 .br (Yr 48 107 46 47<|
 .br (Yr 49 105 45 48<|
 .br (Yr 51 181 49 50<|
 lR 14 51) (Yb 14<|
 ji 51 181 49 50 3 14)) (Yb 14<|
 Yr 49 105 45 48<|
 ji 51 181 49 50 3 14)) (Yb 14<|
 Yr 48 107 46 47<|
 Yr 49 105 45 48<|
 ji 51 181 49 50 3 14))<|Zr (Zh 52 3 7<|
 Zh 53 3 10<|
 Zh 54 3 12<|
 .br (Yr 55 181 53 54<|
 .br (Yr 56 105 52 55<|
 lR 15 56) (Yb 15<|
 ji 56 105 52 55 3 15)) (Yb 15<|
 Yr 55 181 53 54<|
 ji 56 105 52 55 3 15))<|Zr (Zh 58 3 15<|
 Zh 60 3 8<|
 Zh 63 3 14<|
 .br (YY 59 196 58<|
 .br (YY 61 196 60<|
 .br (Yr 62 107 59 61<|
 .br (YY 64 196 63<|
 .br (Yr 65 123 62 64<|
 Zm 57 65<|
 mY 66 57 16 17) (Yb 16<|
 qe 65 123 62 64 57 16 17)) (Yb 16<|
 YY 64 196 63<|
 qe 65 123 62 64 57 16 17)) (Yb 16<|
 Yr 62 107 59 61<|
 YY 64 196 63<|
 qe 65 123 62 64 57 16 17)) (Yb 16<|
 YY 61 196 60<|
 Yr 62 107 59 61<|
 YY 64 196 63<|
 qe 65 123 62 64 57 16 17)) (Yb 16<|
 YY 59 196 58<|
 YY 61 196 60<|
 Yr 62 107 59 61<|
 YY 64 196 63<|
 qe 65 123 62 64 57 16 17))<|Zr (YX 69 0 1 2<|
 Zh 72 3 16<|
 .br (Zq 73 true 61 [.c (Zz 1)]<|
 .br (Yr 74 107 72 73<|
 .br (Zq 75 true 195 [.t 69,.t 70,.t 71,.t 74]<|
 Zm 68 75<|
 mY 76 68 18 19) (Yb 18<|
 Zq 75 true 195 [.t 69,.t 70,.t 71,.t 74]<|
 Zm 68 75<|
 Yd 76 68<|
 Zs 3 18 76<|
 Yc 19 77)) (Yb 18<|
 Yr 74 107 72 73<|
 Zq 75 true 195 [.t 69,.t 70,.t 71,.t 74]<|
 Zm 68 75<|
 Yd 76 68<|
 Zs 3 18 76<|
 Yc 19 77)) (Yb 18<|
 Zq 73 true 61 [.c (Zz 1)]<|
 Yr 74 107 72 73<|
 Zq 75 true 195 [.t 69,.t 70,.t 71,.t 74]<|
 Zm 68 75<|
 Yd 76 68<|
 Zs 3 18 76<|
 Yc 19 77))<|Zr (YW 78 19 6) .ret⟩
theorem ais:Qe Tryz.prog Tryz.f139=some amJ:=by kernel_rfl
def cG(a:Rat):Rat:=if a<0 then -a else a
theorem zd(a:Rat):rs (cG a)=rs a:=by
 unfold cG;split
 ·rw[qE]
 ·rfl
theorem Hy{a:Rat}{k:Nat}(ha:rs a<=k)(hk:k<2^36):Qd Tryz.prog 196 [PV.rat a] (· =PV.rat (cG a)):=by
 have hs:=mH (a:=a) Oz
 have hg:= @yZ a
 have hn:=HI ha hk
 unfold cG
 refine aE Qg Tryz.func196 air fun C hP=> ?_
 refine Sz0 ?_
 refine Qb hP hs ?_
 refine Sz0 ?_
 refine Qa (fun h=> ?_) (fun h=> ?_)
 ·rw[if_pos (hg.1 h)]
  refine Sz0 ?_
  refine Qb hP hn ?_
  refine Sz0 ?_
  refine cn ?_
  refine Sz0 ?_
  exact Qc rfl rfl
 ·rw[if_neg fun h2=>h (hg.2 h2)]
  refine Sz0 ?_
  refine cn ?_
  refine Sz0 ?_
  exact Qc rfl rfl
theorem aet{p:List Tm}{bs:List (List Int)}{x w:List Rat}{n v:Rat}{k:Nat}(hx:∀q∈x,rs q<=k)(hn:rs n<=k)(hk:k<2^36)(dN:x.length<=2^20)(eD:Qd Tryz.prog 140 [PV.gR bs,PV.bU (x.map (· *n))] (· =PV.bU w))(kE:Qd Tryz.prog 37 [PV.aM p,PV.bU w] (· = .aI [PV.rat v,.int .i64 0])):
  Qd Tryz.prog 195 [PV.aM p,PV.gR bs,PV.bU x,PV.rat n] (· = .aI [PV.rat v,PV.bU w]):=by
 refine aE Qg Tryz.func195 aiq fun C hP=> ?_
 refine Sz0 ?_
 refine iL 10 900 3 51 Oz Tz0 ?_
 refine Ql okB [(10,10),(12,12),(18,28)] [12,26,27,900] (fun q J hp=>∃i,q=x.length-i/\i<=x.length/\J 10= .ms 900 i/\J 18= .int .i64 (i:Nat)/\hp 7=some ⟨3,51,[PV.rat n],false⟩/\hp 8=some ⟨3,51,[.agg [.bool false,.al,.al]],false⟩/\hp 900=some ⟨3,51,((x.take i).map (· *n)).map PV.rat,false⟩) x.length ?_ ?_
 ·refine⟨0,rfl,by omega,?_⟩
  refine Sz0 ?_
  rfl
 rintro _ J2 lY ⟨i,rfl,gj,ua,FX,c7,c8,c9⟩
 refine Sz1 FX ?_
 refine Qa (fun hg=> ?_) (fun hg=> ?_)
 ·have ao:i<x.length:=by omega
  have fE:=hx _ (Kai ao)
  have aW:(x.take (i+1)).map (· *n)=(x.take i).map (· *n)++[x[i]*n]:=by
   rw[Kak ao,Kbo];rfl
  have nZ:((x.take i).map (· *n)).length=i:=by rw[Kap,KaI];omega
  generalize(x.take i).map (· *n)=T at *
  generalize hz:x[i]=z at *
  have K4:=nL (a:=z) (b:=n) (k:=k) fE hn hk
  refine Sz5 ua FX c7 c9 hz ?_
  refine Qb hP K4 ?_
  generalize z*n=u at *
  refine Sz4 ua FX c7 c9 ?_
  rw[Qq (f:=PV.rat) (y:=u) (xs:=T) (ty':=51) (fz:=false) (Tz1 c9) cP Oz nZ.symm Oz Oz]
  refine Sz1 FX ?_
  refine Qf (x.length-(i+1)) Oz ⟨i+1,rfl,by omega,?_⟩
  rw[aW]
  exact Tz2 c7 c8
 ·obtain rfl:i=x.length:=by omega
  rw[KaH]at c9
  have yf:List.take x.length ((x.map (· *n)).map PV.rat)=(x.map (· *n)).map PV.rat:=Kac (by simp)
  refine Sz2 ua c9 ?_
  refine kS hP eD (FM yf c9) rfl ?_
  refine qc c8 ?_
  refine Qb hP kE ?_
  refine qc c8 ?_
  refine nH ?_
  refine Sz0 ?_
  exact gI rfl rfl rfl (Qn _) (Qn _)
set_option maxHeartbeats 1000000 in
theorem akO{p:List Tm}{bs:List (List Int)}{x v0 v1 v2 w:List Rat}{q b c vn:Rat}{k:Nat}
  (a0:Qd Tryz.prog 195 [PV.aM p,PV.gR bs,PV.bU x,PV.rat 0] (· = .aI [PV.rat c,PV.bU v0]))
  (a1:Qd Tryz.prog 195 [PV.aM p,PV.gR bs,PV.bU x,PV.rat 1] (· = .aI [PV.rat (q+b+c),PV.bU v1]))
  (a2:Qd Tryz.prog 195 [PV.aM p,PV.gR bs,PV.bU x,PV.rat (-1)] (· = .aI [PV.rat (q-b+c),PV.bU v2]))
  (an:Qd Tryz.prog 195 [PV.aM p,PV.gR bs,PV.bU x,PV.rat ((cG b+cG c)/cG q+1)] (· = .aI [PV.rat vn,PV.bU w]))
  (hq:q<0) (GG:rs q<=k) (Gh:rs b<=k) (qh:rs c<=k) (hk:k<=2^30):
  Qd Tryz.prog 139 [PV.aM p,PV.gR bs,PV.bU x] (· =PV.bU w):=by
 have j8:=akN (x:=1) (y:=2) Oz Oz Oz Oz Oz
 have o0:=oW (x:=0) Oz Oz
 have o1:=oW (x:=1) Oz Oz
 have o2:=oW (x:= -1) Oz Oz
 rw[show((0:Int):Rat)=0 from rfl]at o0
 rw[show((1:Int):Rat)=1 from rfl]at o1 j8
 rw[show((-1:Int):Rat)= -1 from rfl]at o2
 have hhr:rs ((1:Rat)/((2:Int):Rat))<=10:=by decide+kernel
 have e1:(1:Rat)/((2:Int):Rat)*(q+b+c+(q-b+c))-c=q:=by rw[show((2:Int):Rat)=2 from rfl];grind
 have e2:(1:Rat)/((2:Int):Rat)*(q+b+c-(q-b+c))=b:=by rw[show((2:Int):Rat)=2 from rfl];grind
 have q0:=lO
 have r1:=ki q b
 have r2:=ki (q+b) c
 have r3:=xb q b
 have r4:=ki (q-b) c
 have r5:=ki (q+b+c) (q-b+c)
 have r6:=xb (q+b+c) (q-b+c)
 have r7:=eX ((1:Rat)/((2:Int):Rat)) (q+b+c+(q-b+c))
 have Ky:cG q≠0:=by unfold cG;rw[if_pos hq];grind
 have s1:=vo (a:=q+b+c) (b:=q-b+c) (k:=2^33) Oz Oz Oz
 have s2:=nL (a:=(1:Rat)/((2:Int):Rat)) (b:=q+b+c+(q-b+c)) (k:=2^34) Oz Oz Oz
 have s3:=Dq (a:=(1:Rat)/((2:Int):Rat)*(q+b+c+(q-b+c))) (b:=c) (k:=2^35) Oz Oz Oz
 rw[e1]at s3
 have s4:=Dq (a:=q+b+c) (b:=q-b+c) (k:=2^33) Oz Oz Oz
 have s5:=nL (a:=(1:Rat)/((2:Int):Rat)) (b:=q+b+c-(q-b+c)) (k:=2^34) Oz Oz Oz
 rw[e2]at s5
 have s6:=Hy (a:=b) Gh Oz
 have s7:=Hy (a:=c) qh Oz
 have s8:=Hy (a:=q) GG Oz
 have t1:=zd b
 have t2:=zd c
 have t3:=zd q
 have t4:=ki (cG b) (cG c)
 have t5:=xe (a:=cG b+cG c) Ky
 have s9:=vo (a:=cG b) (b:=cG c) (k:=2^33) Oz Oz Oz
 have s10:=zE (a:=cG b+cG c) (b:=cG q) (k:=2^33) Oz Oz Oz Ky
 have s11:=vo (a:=(cG b+cG c)/cG q) (b:=1) (k:=2^34) Oz Oz Oz
 clear r1 r2 r3 r4 r5 r6 r7 t1 t2 t3 t4 t5 e1 e2 GG Gh qh hhr
 generalize(1:Rat)/((2:Int):Rat)*(q+b+c+(q-b+c))=u2 at *
 generalize q+b+c+(q-b+c)=u1 at *
 generalize q+b+c-(q-b+c)=u3 at *
 generalize(cG b+cG c)/cG q+1=u6 at *
 generalize(cG b+cG c)/cG q=u5 at *
 generalize cG b+cG c=u4 at *
 generalize(1:Rat)/((2:Int):Rat)=hf at *
 generalize q+b+c=p1 at *
 generalize q-b+c=p2 at *
 clear Ky
 generalize cG b=ab at *
 generalize cG c=ac at *
 generalize cG q=aq at *
 generalize VA:(0:Rat)=z0 at *
 generalize Lm:(1:Rat)=z1 at *
 generalize GN:(-1:Rat)=z2 at *
 refine aE Qg Tryz.func139 ais fun C hP=> ?_
 refine Sz0 ?_
 refine Qb hP j8 ?_
 refine Sz0 ?_
 refine Qb hP o0 ?_
 refine Sz0 ?_
 refine Qb hP a0 ?_
 refine Sz0 ?_
 refine Qb hP o1 ?_
 refine Sz0 ?_
 refine Qb hP a1 ?_
 refine Sz0 ?_
 refine Qb hP o2 ?_
 refine Sz0 ?_
 refine Qb hP a2 ?_
 refine Sz0 ?_
 refine EY okB [(14,14),(48,51)] [14] (fun J hp=>J 14= .mp 14 0 0/\hp 7=some ⟨3,51,[PV.rat hf],false⟩/\hp 8=some ⟨3,51,[PV.rat c],false⟩/\hp 10=some ⟨3,51,[PV.rat p1],false⟩/\hp 12=some ⟨3,51,[PV.rat p2],false⟩/\hp 14=some ⟨3,51,[PV.rat q],false⟩) ?_ ?_
 ·repeat' first
   |refine jO ?_ ?_
   |refine Qb hP s1 ?_
   |refine Qb hP s2 ?_
   |refine Qb hP s3 ?_
   |simp+decide (disch:=try exact D0) only[go_sem]
  all_goals
   refine oK ?_
   exact Tz0
 rintro J h ⟨CX,g7,g8,ua,B8,FV⟩
 refine Sz4 CX g7 ua B8 ?_
 refine EY okB [(14,15),(48,56)] [14,15] (fun J hp=>J 14= .mp 14 0 0/\J 15= .mp 15 0 0/\hp 8=some ⟨3,51,[PV.rat c],false⟩/\hp 14=some ⟨3,51,[PV.rat q],false⟩/\hp 15=some ⟨3,51,[PV.rat b],false⟩) ?_ ?_
 ·repeat' first
   |refine jO ?_ ?_
   |refine Qb hP s4 ?_
   |refine Qb hP s5 ?_
   |simp+decide (disch:=try exact D6 CX g7 g8 ua B8 FV) only[go_sem,CX,g7,g8,ua,B8,FV]
  all_goals
   refine oK ?_
   exact Tz6 CX g7 g8 ua B8 FV
 rintro J2 h2 ⟨CY,CZ,e8,B5,B6⟩
 clear CX g7 g8 ua B8 FV
 refine Sz5 CY CZ e8 B5 B6 ?_
 refine EY okB [(14,17),(48,67)] [14,15,16] (fun J hp=>J 16= .mp 16 0 0/\hp 16=some ⟨3,51,[PV.rat u5],false⟩) ?_ ?_
 ·repeat' first
   |refine jO ?_ ?_
   |refine Qb hP s6 ?_
   |refine Qb hP s7 ?_
   |refine Qb hP s9 ?_
   |refine Qb hP s8 ?_
   |refine Qb hP s10 ?_
   |simp+decide (disch:=try exact D5 CY CZ e8 B5 B6) only[go_sem,CY,CZ,e8,B5,B6]
  all_goals
   refine oK ?_
   exact Tz5 CY CZ e8 B5 B6
 rintro J3 h3 ⟨GZ,f16⟩
 clear CY CZ e8 B5 B6
 refine Sz2 GZ f16 ?_
 refine EY okB [(14,19),(48,77)] [14,15,16,18] (fun J hp=>J 19=PV.bU w) ?_ ?_
 ·repeat' first
   |refine jO ?_ ?_
   |refine Qb hP o1 ?_
   |refine Qb hP s11 ?_
   |refine Qb hP an ?_
   |simp+decide (disch:=try exact D2 GZ f16) only[go_sem,GZ,f16]
  all_goals
   refine oK ?_
   exact Tz2 GZ f16
 rintro J4 h4 j19
 refine Sz1 j19 ?_
 exact Qc rfl rfl
structure QF(κ N:Nat)(p:List Tm):Prop where
 b:∀t∈p,rs t.1<=κ
 k:1<=κ
 m:∀t∈p,MB 2 t.2
 n:bC p
 d:jU p<=2
 v:(Qz p).length<=6
 s:p.length*κ+κ+4<=N
abbrev bj(p:List Tm):Nat:=(aJ p).length
abbrev iH(p:List Tm):MF:=Qu (iA p (aJ p)) (aJ p).length
abbrev bq(p:List Tm):List LF:=(Qv (bj p) (iH p) (2*bj p)).2
theorem yT{p:List Tm}{i k:Nat}(hi:i<bj p)(hk:k<bj p):iH p i k=tM p (aJ p) i k:=by
 unfold iH Qu iA
 replace hi:i<(aJ p).length:=hi
 replace hk:k<(aJ p).length:=hk
 have au:i*(aJ p).length+k<(aJ p).length*(aJ p).length:=by
  have:(i+1)*(aJ p).length<=(aJ p).length*(aJ p).length:=Kah _ hi
  rw[Kcq]at this;omega
 rw[Kad,Kav,Kb8 au]
 exact Jt hk
theorem tx(p:List Tm):Sym (bj p) (iH p):=fun i hi k hk=>by
 rw[yT hi hk,yT hk hi]
 unfold tM
 rw[yO ((aJ p).getD i [])]
 by_cases e:i=k
 ·subst e;rfl
 ·rw[if_neg e,if_neg (Ne.symm e)]
theorem M0{m:List Int}:∀ {p:List Tm},lL p m=0∨∃t∈p,lL p m=t.1
 | []=> .inl rfl
 | t::p=>by
  unfold lL
  split
  ·exact .inr ⟨t,by simp,rfl⟩
  ·rcases M0 (m:=m) (p:=p)with h|⟨s,hs,h⟩
   ·exact .inl h
   ·exact .inr ⟨s,Ka5 _ hs,h⟩
theorem w7{κ N:Nat}{p:List Tm}(h:QF κ N p):CM (N-2) (2*(lP p:Int)) (bj p) (bj p) (iH p):=by
 have hs:=h.s
 have hd0:=adZ p
 have hdn:nl (lP p)<=p.length*κ+1:=Oh fun t ht=>by have:=h.b t ht;unfold rs at this;omega
 have h2:nl 2<=1:=by decide+kernel
 have hD:nl (2*(lP p:Int)).natAbs<=p.length*κ+2:=by
  have:=iy 2 (lP p:Int)
  rw[Kbh]at this
  have e:(2:Int).natAbs=2:=rfl
  rw[e]at this
  omega
 refine⟨by omega,by omega,fun i hi k hk=> ?_⟩
 rw[yT hi hk]
 obtain⟨D,Ud⟩:∃D:Int,(lP p:Int)=D:=⟨_,rfl⟩
 have Ue:(D:Rat)≠0:=by rw[Ne,Ka2];omega
 have key:∀q:Rat,(q=0∨∃t∈p,q=t.1)->∃a:Int,q=(a:Rat)/(D:Rat)/\nl a.natAbs<=κ+(p.length*κ+1):=fun q hq=>by
  rcases hq with rfl|⟨t,ht,rfl⟩
  ·exact⟨0,by rw[KbA];exact(KcB _).symm,by rw[Int.natAbs_zero,w8];omega⟩
  ·obtain⟨e,he⟩:=NI ht
   have asH:nl t.1.num.natAbs<=κ:=by have:=h.b t ht;unfold rs at this;omega
   have ik:nl e<=nl (lP p):=gC (by rw[he];exact Nat.le_mul_of_pos_left _ (Kba t.1.den_nz))
   refine⟨t.1.num*(e:Int),?_,by
    have:=iy t.1.num (e:Int)
    rw[Kbh]at this
    omega⟩
   have d1:t.1=(t.1.num:Rat)/((t.1.den:Int):Rat):=by
    conv=>lhs;rw[<-Rat.mkRat_self t.1]
    rw[Kb6,Kcb]
   have k1:((t.1.den:Int):Rat)≠0:=by rw[Ne,Ka2];have:=t.1.den_nz;omega
   have Uc:D=(t.1.den:Int)*(e:Int):=by rw[<-Ud,he];exact KbX _ _
   rw[Uc,KaS]at Ue
   have k2:((e:Int):Rat)≠0:=fun h=>Ue (by rw[h,Rat.mul_zero])
   rw[Uc,KaS,KaS]
   conv=>lhs;rw[d1]
   generalize(t.1.num:Rat)=A at *
   generalize((t.1.den:Int):Rat)=B at *
   generalize((e:Int):Rat)=E at *
   grind
 obtain⟨a,ea,ha⟩:=key _ (M0 (m:=bp ((aJ p).getD i []) ((aJ p).getD k [])) (p:=p))
 unfold tM
 rw[Ud]
 by_cases e:i=k
 ·rw[if_pos e,ea]
  refine⟨a*2,?_,by
   have:=iy a 2
   have e:(2:Int).natAbs=2:=rfl
   rw[e]at this
   omega⟩
  rw[KaS,KaS]
  show _=(a:Rat)*2/(2*(D:Rat))
  generalize(a:Rat)=A at *
  generalize(D:Rat)=B at *
  grind
 ·rw[if_neg e,ea]
  refine⟨a,?_,by omega⟩
  rw[KaS]
  show _=(a:Rat)/(2*(D:Rat))
  generalize(a:Rat)=A at *
  generalize(D:Rat)=B at *
  grind
theorem lM{κ N:Nat}{p:List Tm}(h:QF κ N p):1<=bj p/\bj p<=7/\bj p=(Qz p).length+1:=by
 have hl:(aJ p).length=(Qz p).length+1:=by simp[aJ]
 have:=h.v
 show 1<=(aJ p).length/\(aJ p).length<=7/\(aJ p).length=(Qz p).length+1
 exact⟨by omega,by omega,hl⟩
theorem BV{κ N:Nat}{p:List Tm}(h:QF κ N p):gf (bj p) (iH p) (bq p):=by
 have hs:=h.s
 have hk:=h.k
 exact ahz (lM h).1 (tx p) (b:=max N 3) Oz fun r hr c hc=>by have:=(w7 h).bd r hr c hc;omega
theorem tN{κ N:Nat}{p:List Tm}(h:QF κ N p):vC (N*128) (bj p) (2*bj p) (iH p)/\(bq p).length<=bj p/\(∃D,FD (N*128) D (bj p) (bq p))/\∀f∈bq p,rs f.1<=N*128/\∀c,c<bj p->rs (f.2 c)<=N*128:=by
 have hs:=h.s
 have hk:=h.k
 obtain⟨r1,r2,r3⟩:=lM h
 have hp:N*2^bj p<=N*128:=KaA _ (Kao (KaN Oz r2) Oz)
 have hB:=aii (m:=2*bj p) (tx p) (w7 h) Oz
 have T':vC (N*128) (bj p) (2*bj p) (iH p):=fun k hk=>by
  obtain⟨b1,b2,b3⟩:=hB k hk
  exact⟨fun r hr c hc=>Kao (b1 r hr c hc) hp,fun f hf=>⟨Kao (b2 f hf).1 hp,fun c hc=>Kao ((b2 f hf).2 c hc) hp⟩,fun j hj r hr c hc=>Kao (b3 j hj r hr c hc) hp⟩
 obtain⟨D,hF⟩:=aij (tx p) (w7 h) Oz (2*bj p)
 refine⟨T',?_,⟨D,hF.mono hp⟩,JF T' _ (Kaf _)⟩
 rw[<-aek (tx p) (BV h)]
 exact(kR _ _ _).2.1
def sw(L:List LF):Bool:=L.all fun f=>decide (0<=f.1)
theorem Lz:∀ {L:List LF},sw L=false->∃a,∃h:a<L.length,L[a].1<0/\∀j (hj:j<L.length),j<a->0<=L[j].1
 | [],h=>by cases h
 | f::L,h=>by
  by_cases hf:0<=f.1
  ·have h2:sw L=false:=by
    unfold sw at h⊢
    rw[List.all_cons,decide_eq_true hf,Kco]at h;exact h
   obtain⟨a,ha,h3,h4⟩:=Lz h2
   refine⟨a+1,by rw[KaP];omega,h3,fun j hj UQ=> ?_⟩
   cases j with
   |zero=>exact hf
   |succ j=>exact h4 j (by rw[KaP]at hj;omega) Oz
  ·exact⟨0,by simp,Rat.not_le.1 hf,fun j _ hj=>by omega⟩
def e7(p:List Tm)(a:Nat):Nat->Rat:=Aw (Qu (du (bj p) (bq p)) (bj p)) (bq p).length (fun i=>if i=a then 1 else 0) (bj p)
def gA(p:List Tm)(a:Nat):List Rat:=(List.range (bj p)).map (e7 p a)
theorem I6{R:Nat}{L:List LF}:zq (Qu (du R L) R) L R:=fun i hi c hc=>by
 unfold Qu
 rw[yU L i c hi hc]
 unfold iQ
 rw[Kad,Kag hi];rfl
theorem OY{κ N:Nat}{p:List Tm}(h:QF κ N p){a:Nat}(ha:a<(bq p).length):nM (iH p) (e7 p a) (bj p) (bj p)=(bq p)[a].1:=by
 have:=aem I6 (tx p) (BV h) ha
 unfold e7
 rw[this]
 unfold iQ
 rw[Kad,Kag ha];rfl
theorem Iy{f:Nat->Rat}{n i:Nat}(h:i<n):((List.range n).map f).getD i 0=f i:=by
 rw[Kad,Kav,Kb8 h];rfl
theorem akP{κ N:Nat}{p:List Tm}(h:QF κ N p){a:Nat}(ha:a<(bq p).length){c:Rat}(hc:e7 p a (Qz p).length=c)(vX:c≠0):
  cV (dd (aJ p) ((gA p a).map (· /c)) (bj p-1)) p=1/c*(1/c)*(bq p)[a].1:=by
 obtain⟨r1,r2,r3⟩:=lM h
 rw[(Fw h.m h.n h.d).1,<-OY h ha,N2,<-aaJ]
 refine pP fun i hi k hk=> ?_
 have hz:∀j,j<bj p->vE ((gA p a).map (· /c)) (Qz p).length j=1/c*e7 p a j:=fun j hj=>by
  unfold vE
  by_cases e:j<(Qz p).length
  ·rw[if_pos e,gA,KbE,Iy hj]
   show e7 p a j/c=_
   rw[KbA,KbA,Kck,Rat.mul_comm]
  ·obtain rfl:j=(Qz p).length:=by omega
   rw[if_neg e,hc,KbA,Kck,Kce _ vX]
 rw[hz i hi,hz k hk,yT hi hk]
def rO(p:List Tm)(a:Nat):Rat:=2*Qs (iH p (Qz p).length) (e7 p a) (bj p)
theorem Pq{κ N:Nat}{p:List Tm}(h:QF κ N p){a:Nat}(ha:a<(bq p).length)(hc:e7 p a (Qz p).length=0)(t:Rat):
  cV (dd (aJ p) ((gA p a).map (· *t)) (bj p-1)) p=t*t*(bq p)[a].1+t*rO p a+iH p (Qz p).length (Qz p).length:=by
 obtain⟨r1,r2,r3⟩:=lM h
 have hq:=acs (M:=iH p) (y:=e7 p a) (n:=(Qz p).length) (t:=t) (by rw[<-r3];exact tx p) hc
 rw[<-r3,OY h ha]at hq
 rw[(Fw h.m h.n h.d).1,rO,<-hq]
 refine pP fun i hi k hk=> ?_
 have hz:∀j,j<bj p->vE ((gA p a).map (· *t)) (Qz p).length j=if j<(Qz p).length then t*e7 p a j else 1:=fun j hj=>by
  unfold vE
  by_cases e:j<(Qz p).length
  ·rw[if_pos e,if_pos e,gA,KbE,Iy hj]
   exact Rat.mul_comm _ _
  ·rw[if_neg e,if_neg e]
 rw[hz i hi,hz k hk,yT hi hk]
def wD(p:List Tm)(a:Nat)(q:Rat):Rat:=(cG (rO p a)+cG (iH p (Qz p).length (Qz p).length))/cG q+1
def rP(p:List Tm)(a:Nat)(q:Rat):List Rat:=if e7 p a (Qz p).length=0 then(gA p a).map (· *wD p a q)else(gA p a).map (· /e7 p a (Qz p).length)
theorem QG{κ N:Nat}{p:List Tm}(h:QF κ N p){a:Nat}(ha:a<(bq p).length)(hw:(bq p)[a].1<0):
  cV (dd (aJ p) (rP p a (bq p)[a].1) (bj p-1)) p<0/\tS (dd (aJ p) (rP p a (bq p)[a].1) (bj p-1)) p=false:=by
 refine⟨?_,(Fw h.m h.n h.d).2⟩
 unfold rP
 by_cases hc:e7 p a (Qz p).length=0
 ·rw[if_pos hc,Pq h ha hc]
  exact(aip hw).2 _ rfl
 ·rw[if_neg hc,akP h ha rfl hc]
  have hi:1/e7 p a (Qz p).length≠0:=fun e=>hc (by
   have h1:1/e7 p a (Qz p).length*e7 p a (Qz p).length=1:=by rw[KbA,Kck,Kce _ hc]
   rw[e,KcB]at h1
   exact absurd h1 (by decide))
  generalize 1/e7 p a (Qz p).length=u at *
  generalize((bq p)[a]).1=w at *
  have h2:0<u*u:=by
   have h3:=alu u
   have h4:u*u≠0:=fun e=>hi (by
    rcases KcP.1 e with h|h<;>exact h)
   grind
  have h5:=Rat.mul_pos h2 (show 0< -w by grind)
  grind
theorem Pr(p:List Tm):∀b∈aJ p,cD b=true:=fun b h=>IQ (pQ b h).1 Oz (pQ b h).2.2
theorem Ps{κ N:Nat}{p:List Tm}(h:QF κ N p):∀q∈iA p (aJ p),rs q<=N:=fun q hq=>by
 obtain⟨j,hj,rfl⟩:=Kau.1 hq
 have hj:=Kbz.1 hj
 have hs:=h.s
 have hk:=h.k
 have hR:0<(aJ p).length:=(lM h).1
 have h1:j/(aJ p).length<(aJ p).length:=(Kbc hR).2 hj
 have h2:=Kbt j hR
 have e:pV p (aJ p) j=iH p (j/(aJ p).length) (j%(aJ p).length):=(yT h1 h2).symm
 rw[e]
 have:=(w7 h).bd _ h1 _ h2
 omega
theorem acu{κ N:Nat}{p:List Tm}(h:QF κ N p)(hN:N<=131072):Qd Tryz.prog 90 [PV.gR (aJ p),PV.bO (bj p) (bj p) (iA p (aJ p))] (· = .int .i64 0):=by
 obtain⟨r1,r2,r3⟩:=lM h
 have hlen:(iA p (aJ p)).length=bj p*bj p:=I1 p (aJ p)
 have gP:bj p*bj p<=7*7:=KaY r2 r2
 have GJ:nK ((iA p (aJ p)).map qR):=N8 (k:=131072) Oz Oz fun q hq=>Kao (Ps h q hq) hN
 have c1:=II (bs:=aJ p) (r:=bj p) (c:=bj p) (by show bj p<_;omega) (fun b hb=>by have:=(pQ b hb).2.1;omega) GJ
 have vY:tY (aJ p) (bj p) (bj p) ((iA p (aJ p)).map qR)=0:=by
  have uy:mS (Qu (((iA p (aJ p)).map qR).map iY) (aJ p).length) (aJ p).length:=by
   rw[Ss]
   exact fun i hi k hk=>tx p i hi k (by show k<(aJ p).length;omega)
  unfold tY
  rw[if_pos (IZ hlen Oz Oz),if_pos (Kas.2 (Pr p)),if_pos ⟨rfl,rfl,uy⟩]
 rw[vY,<-vg]at c1
 exact c1
theorem N3{κ N:Nat}{p:List Tm}(h:QF κ N p)(hN:N<=131072):Qd Tryz.prog 48 [PV.bO (bj p) (bj p) (iA p (aJ p))] (· =vD (bj p) (bq p)):=by
 obtain⟨r1,r2,r3⟩:=lM h
 exact N5 (I1 p (aJ p)) Oz Oz (fun q hq=>Kao (Ps h q hq) Oz) (K:=N*128) Oz (tN h).1 fun i hi k hk=>tx p i hi k Oz
theorem akQ{κ N:Nat}{p:List Tm}(h:QF κ N p)(hN:N<=131072):Dg (N*128) (bj p) (aJ p) (bq p):=by
 obtain⟨r1,r2,r3⟩:=lM h
 obtain⟨q1,q2,q3,q4⟩:=tN h
 have hs:=h.s
 have hk:=h.k
 exact⟨rfl,fun b hb=>by have:=(pQ b hb).2.1;omega,by omega,by omega,q4,by omega,by omega⟩
theorem SY{κ N:Nat}{p:List Tm}(h:QF κ N p)(hN:N<=131072):Qd Tryz.prog 29 [PV.gR (aJ p),PV.bO (bj p) (bj p) (iA p (aJ p))] (· =qg (aJ p) (bq p)):=
 HQ (akQ h hN) (acu h hN) (N3 h hN)
theorem SZ{n a:Nat}(ha:a<n):kk (nN n a)=fun i=>if i=a then 1 else 0:=funext fun i=>by
 unfold kk nN
 by_cases hi:i<n
 ·rw[Iy hi]
 ·rw[Kad,KcN (by simp;omega),if_neg Oz];rfl
theorem ait(n a:Nat):∀q∈nN n a,rs q<=1:=fun q hq=>by
 obtain⟨j,_,rfl⟩:=Kau.1 hq
 have h1:=lO
 have h0:=sj
 split
 ·exact h1
 ·exact h0
theorem aiu{R K:Nat}{L:List LF}(h:∀f∈L,∀c,c<R->rs (f.2 c)<=K):∀q∈du R L,rs q<=K:=fun q hq=>by
 obtain⟨f,hf,hq⟩:=Kat.1 hq
 obtain⟨c,hc,rfl⟩:=Kau.1 hq
 exact h f hf c (Kbz.1 hc)
theorem BG{κ N:Nat}{p:List Tm}(h:QF κ N p){a:Nat}(ha:a<(bq p).length):
  xt ((N*128+1)*128) (bq p).length (bj p+1) (bj p) (cy (Qu (du (bj p) (bq p)) (bj p)) (fun i=>if i=a then 1 else 0) (bj p))/\(∀c,rs (e7 p a c)<=(N*128+1)*128)/\rs (rO p a)<=N+(N*128+1)*128+20:=by
 obtain⟨r1,r2,r3⟩:=lM h
 obtain⟨q1,q2,⟨D,q3⟩,q4⟩:=tN h
 have hs:=h.s
 have hk:=h.k
 obtain⟨e1,D',d0,d1,d2⟩:=akc I6 q3 (b:=fun i=>if i=a then 1 else 0) (fun i=>by by_cases e:i=a<;>simp[e]) Oz q2
 have hp:(N*128+1)*2^(bq p).length<=(N*128+1)*128:=KaA _ (Kao (KaN Oz (show(bq p).length<=7 by omega)) Oz)
 refine⟨fun k hk=>⟨fun r hr c hc=>Kao ((e1 k hk).1 r hr c hc) hp,Kao (e1 k hk).2 hp⟩,fun c=> ?_,?_⟩
 ·obtain⟨z,ez,hz⟩:=d2 c
  unfold e7
  rw[ez]
  have:=zp z D' d0
  omega
 ·have hg:=w7 h
  have hn:(Qz p).length<bj p:=by omega
  obtain⟨z,ez,hz⟩:=QD hg.1 d0 (bj p) (fun c hc=>hg.2.2 _ hn c hc) (fun c _=>d2 c)
  unfold rO
  have e2:Qs (iH p (Qz p).length) (e7 p a) (bj p)=(z:Rat)/((2*(lP p:Int)*D':Int):Rat):=ez
  rw[e2]
  have m1:=jR hg.2.1 d1
  have m2:=zp z (2*(lP p:Int)*D') (Kcj hg.1 d0)
  have m3:=eX 2 ((z:Rat)/((2*(lP p:Int)*D':Int):Rat))
  have m4:rs (2:Rat)<=1:=by decide+kernel
  omega
theorem aeu{κ N:Nat}{p:List Tm}(h:QF κ N p)(hN:N<=56){a:Nat}(ha:a<(bq p).length):Qd Tryz.prog 138 [PV.bO (bq p).length (bj p) (du (bj p) (bq p)),.int .i64 (a:Nat)] (· =PV.bU (gA p a)):=by
 obtain⟨r1,r2,r3⟩:=lM h
 obtain⟨q1,q2,q3,q4⟩:=tN h
 have dV:=(BG h ha).1
 rw[<-SZ ha]at dV
 have Vx:=OQ (R:=(bq p).length) (m:=bj p) (l:=du (bj p) (bq p)) (b:=nN (bq p).length a) (tg _ _) (I2 _ _) Oz Oz Oz (aiu fun f hf c hc=>Kao ((q4 f hf).2 c hc) Oz) (fun q hq=>Kao (ait _ _ q hq) Oz) Oz dV
 rw[SZ ha,aik I6 (tx p) (BV h),uV]at Vx
 exact Ob (x:=gA p a) Oz Vx
theorem EP{κ N:Nat}{p:List Tm}(h:QF κ N p)(hN:N<=56)(bx:p.length<=20){a:Nat}(ha:a<(bq p).length)(hc:e7 p a (Qz p).length=0){t:Rat}(ht:rs t<=1000000):
  Qd Tryz.prog 195 [PV.aM p,PV.gR (aJ p),PV.bU (gA p a),PV.rat t] (· = .aI [PV.rat (t*t*(bq p)[a].1+t*rO p a+iH p (Qz p).length (Qz p).length),PV.bU (dd (aJ p) ((gA p a).map (· *t)) (bj p-1))]):=by
 obtain⟨r1,r2,r3⟩:=lM h
 have hs:=h.s
 have hk:=h.k
 have dV:=(BG h ha).2.1
 have Aa:(gA p a).length=bj p:=by simp[gA]
 have hx:∀q∈gA p a,rs q<=1000000:=fun q hq=>by
  obtain⟨j,_,rfl⟩:=Kau.1 hq
  have:=dV j;omega
 have ir:∀q∈(gA p a).map (· *t),rs q<=2000000:=fun q hq=>by
  obtain⟨y,hy,rfl⟩:=Kau.1 hq
  have h1:=hx y hy
  have:=eX y t
  show rs (y*t)<=_
  omega
 have hw:=Hw (bs:=aJ p) ir Oz (bj p-1)
 have uA:=EZ (bs:=aJ p) (x:=(gA p a).map (· *t)) (m:=64) (fun b hb=>(pQ b hb).2.1) (bj p-1)
 have eD:=I3 (bs:=aJ p) (x:=(gA p a).map (· *t)) r1 (by show bj p<=_;omega) (fun b hb=>by have:=(pQ b hb).2.1;omega) (by rw[Kap,Aa];show bj p<=_;omega) (by rw[Kap,Aa];omega)
 have sG:PB (κ+1) 2 p:=fun s hs=>⟨by have:=h.b s hs;omega,h.m s hs,h.n.c s hs⟩
 have wc:p.length*(κ+1+64*(1+2000000*2))<=20*(57+64*(1+2000000*2)):=KaY bx Oz
 have kE:=R1 (p:=p) (vs:=dd (aJ p) ((gA p a).map (· *t)) (bj p-1)) sG hw Oz Oz Oz Oz Oz
 rw[B7,if_neg (by rw[(Fw h.m h.n h.d).2];decide),Pq h ha hc]at kE
 exact aet hx (show rs t<=1000000 from ht) Oz Oz eD kE
theorem VX{κ N:Nat}{p:List Tm}(h:QF κ N p)(hN:N<=56){a:Nat}(ha:a<(bq p).length)(hw:(bq p)[a].1<0):rs (wD p a (bq p)[a].1)<=1000000:=by
 obtain⟨r1,r2,r3⟩:=lM h
 obtain⟨q1,q2,q3,q4⟩:=tN h
 obtain⟨z1,z2,z3⟩:=BG h ha
 have hs:=h.s
 have hk:=h.k
 have qh:rs (iH p (Qz p).length (Qz p).length)<=N:=by
  have:=(w7 h).bd (Qz p).length Oz (Qz p).length Oz
  omega
 have GG:=(q4 _ (Kai ha)).1
 have gu:cG (bq p)[a].1≠0:=by unfold cG;rw[if_pos hw];grind
 unfold wD
 have a1:=zd (rO p a)
 have a2:=zd (iH p (Qz p).length (Qz p).length)
 have a3:=zd (bq p)[a].1
 have a4:=ki (cG (rO p a)) (cG (iH p (Qz p).length (Qz p).length))
 have a5:=xe (a:=cG (rO p a)+cG (iH p (Qz p).length (Qz p).length)) gu
 have a6:=ki ((cG (rO p a)+cG (iH p (Qz p).length (Qz p).length))/cG (bq p)[a].1) 1
 have a7:=lO
 omega
theorem aaK{κ N:Nat}{p:List Tm}(h:QF κ N p)(hN:N<=56)(bx:p.length<=20){a:Nat}(ha:a<(bq p).length)(hw:(bq p)[a].1<0)(hb:∀j (hj:j<(bq p).length),j<a->0<=(bq p)[j].1):
  Qd Tryz.prog 75 [PV.aM p,PV.gR (aJ p),PV.bO (bj p) (bj p) (iA p (aJ p))] (· =PV.bU (dd (aJ p) (rP p a (bq p)[a].1) (bj p-1))):=by
 obtain⟨r1,r2,r3⟩:=lM h
 obtain⟨q1,q2,q3,q4⟩:=tN h
 obtain⟨z1,z2,z3⟩:=BG h ha
 have hs:=h.s
 have hk:=h.k
 have Aa:(gA p a).length=(Qz p).length+1:=by simp[gA];exact r3
 have Ur:((bq p).map (·.1)).length=(bq p).length:=Kap _
 have Ga:∀j (hj:j<(bq p).length) (z6:j<((bq p).map (·.1)).length),((bq p).map (·.1))[j]=(bq p)[j].1:=fun j hj z6=>KbB ..
 have iq:(gA p a)[(Qz p).length]'Oz=e7 p a (Qz p).length:=by simp[gA]
 have hr:=N3 h Oz
 refine R5 (W:=(bq p).map (·.1)) (n:=(bq p).length) (L:=du (bj p) (bq p)) (x:=gA p a) (a:=a) (m:=(Qz p).length) (c:=e7 p a (Qz p).length) hr Oz Oz (fun q hq=> ?_) (fun j hj UQ=> ?_) ?_ (aeu h hN ha) Aa Oz (fun q hq=> ?_) iq (fun hc=> ?_) (fun hc=> ?_)
 ·obtain⟨f,hf,rfl⟩:=Kau.1 hq
  have:=(q4 f hf).1;omega
 ·rw[Ga j Oz];exact hb j Oz UQ
 ·rw[Ga a ha];exact hw
 ·obtain⟨j,_,rfl⟩:=Kau.1 hq
  have:=z2 j;omega
 ·have t0:=EP h hN bx ha hc (t:=0) (by have:=sj;omega)
  have t1:=EP h hN bx ha hc (t:=1) (by have:=lO;omega)
  have t2:=EP h hN bx ha hc (t:= -1) (by have:=Dn;omega)
  have qh:rs (iH p (Qz p).length (Qz p).length)<=N:=by
   have:=(w7 h).bd (Qz p).length Oz (Qz p).length Oz
   omega
  have GG:=(q4 _ (Kai ha)).1
  have hT:=VX h hN ha hw
  have tn:=EP h hN bx ha hc hT
  have hX:rP p a (bq p)[a].1=(gA p a).map (· *wD p a (bq p)[a].1):=by unfold rP;rw[if_pos hc]
  rw[hX]
  generalize hq:(bq p)[a].1=q at *
  generalize xJ:rO p a=b at *
  generalize ij:iH p (Qz p).length (Qz p).length=c at *
  rw[show(0:Rat)*0*q+0*b+c=c by grind]at t0
  rw[show(1:Rat)*1*q+1*b+c=q+b+c by grind]at t1
  rw[show(-1:Rat)* -1*q+ -1*b+c=q-b+c by grind]at t2
  have e:wD p a q=(cG b+cG c)/cG q+1:=by unfold wD;rw[xJ,ij]
  rw[e]at tn⊢
  exact akO t0 t1 t2 tn hw (k:=1000000) Oz Oz Oz Oz
 ·have hX:rP p a (bq p)[a].1=(gA p a).map (· /e7 p a (Qz p).length):=by unfold rP;rw[if_neg hc]
  rw[hX]
  exact I3 (bs:=aJ p) r1 (by show bj p<=_;omega) (fun b hb=>by have:=(pQ b hb).2.1;omega) (by rw[Kap,Aa];show bj p<=_;omega) (by rw[Kap,Aa];omega)
theorem VZ{κ N:Nat}{p:List Tm}(h:QF κ N p):PB (κ+1) 2 p:=fun s hs=>⟨by have:=h.b s hs;omega,h.m s hs,h.n.c s hs⟩
theorem akR{E:Nat}{p:List Tm}(hm:∀t∈p,MB E t.2)(hn:bC p)(hd:jU p<=2):∀t∈p,MB 2 t.2:=fun t ht=>by
 have h1:=(NX p).1 t ht
 have h2:=hm t ht
 refine⟨h2.len,h2.lo,fun x hx=> ?_⟩
 obtain⟨j,hj,rfl⟩:=KaT hx
 have:=EO h2 (hn.c t ht) j
 rw[fw hj]at this
 omega
theorem alv{κ N:Nat}{p:List Tm}(h:QF κ N p)(hw:sw (bq p)=true):∀x∈(bq p).map (fg (aJ p)),qU (7*(N*128+1)) 1 7 x/\0<x.1:=fun x hx=>by
 obtain⟨r1,r2,r3⟩:=lM h
 obtain⟨q1,q2,q3,q4⟩:=tN h
 obtain⟨f,hf,rfl⟩:=Kau.1 hx
 have qj:=wO (aJ p) f
 have UI:∀t∈gX (aJ p) f,rs t.1<=N*128/\MB 1 t.2:=fun t ht=>by
  obtain⟨k,hk,rfl⟩:=KaT ht
  rw[wO]at hk
  rw[Eu hk]
  exact⟨(q4 f hf).2 k hk,(pQ _ (Kai _)).1⟩
 have hb2:=aaC (L:=gX (aJ p) f) (k:=N*128) fun t ht=>(UI t ht).1
 rw[qj]at hb2
 have hle:(aJ p).length*(N*128+1)<=7*(N*128+1):=Kah _ r2
 refine⟨⟨by have:=(q4 f hf).1;show rs f.1+1<=_;omega,fun t ht=>⟨Kao (hb2.1 t ht).c hle,?_,(hb2.1 t ht).l⟩,Kao hb2.2.1 r2,hb2.2.2⟩,?_⟩
 ·obtain⟨s,hs,e⟩:=aep (MY (Pr p)) ht
  rw[<-e];exact(UI s hs).2
 ·have h1:=als (BV h) f hf
  have h2:=of_decide_eq_true (Kas.1 hw f hf)
  show 0<f.1
  grind
theorem M1{κ N:Nat}{p:List Tm}(h:QF κ N p)(hN:N<=36300)(hw:sw (bq p)=true):
  Qd Tryz.prog 22 [PV.aM p] (· = .aI [PV.iv ((bq p).map (fg (aJ p))),PV.bU [],.int .i64 0])/\
  Qd Tryz.prog 41 [PV.aM p,PV.iv ((bq p).map (fg (aJ p)))] (· = .int .i64 0):=by
 have hs:=h.s
 have hk:=h.k
 obtain⟨r1,r2,r3⟩:=lM h
 obtain⟨q1,q2,q3,q4⟩:=tN h
 have bx:p.length<=p.length*κ:=Ka1 _ hk
 have sG:=VZ h
 have hv:pJ p:=h.n.LG sG Oz
 have hG:=alv h hw
 have hF:=SY h Oz
 unfold qg at hF
 rw[if_pos (show((bq p).all fun f=>decide (0<=f.1))=true from hw)]at hF
 have pw:=acr h.m h.n h.d (BV h) (fun x hx=>(hG x hx).1)
 refine⟨Dw (e:=0) (w:=[]) sG Oz Oz Oz Oz (IJ sG hv Oz Oz) h.d (by show bj p<=_;omega) hF (fun e=>by cases e) (fun _=>rfl),?_⟩
 have F8:((bq p).map (fg (aJ p))).length<=7:=by rw[Kap];omega
 have hmul:(7*(7*(N*128+1)+7*(N*128+1))+7*(N*128+1))*(((bq p).map (fg (aJ p))).length+1)<=(7*(7*(N*128+1)+7*(N*128+1))+7*(N*128+1))*8:=KaA _ Oz
 exact XZ hG pw hv (sG.mono Oz Oz) Oz Oz Oz Oz Oz Oz Oz
theorem aaL{κ N:Nat}{p:List Tm}(h:QF κ N p)(hN:N<=56)(bx:p.length<=20)(hw:sw (bq p)=false):
  ∃w,Qd Tryz.prog 22 [PV.aM p] (· = .aI [PV.iv [],PV.bU w,.int .i64 17])/\tS w p=false/\cV w p<0/\(∀q∈w,rs q<=2000000)/\w.length<=70:=by
 have hs:=h.s
 have hk:=h.k
 obtain⟨r1,r2,r3⟩:=lM h
 have sG:=VZ h
 have hv:pJ p:=h.n.LG sG Oz
 obtain⟨a,ha,g1,g2⟩:=Lz hw
 have sN:=aaK h hN bx ha g1 g2
 obtain⟨n1,n2⟩:=QG h ha g1
 have hF:=SY h Oz
 unfold qg at hF
 have qt:¬((bq p).all fun f=>decide (0<=f.1))=true:=by unfold sw at hw;rw[hw];decide
 rw[if_neg qt]at hF
 refine⟨_,Dw (e:=17) sG Oz Oz Oz Oz (IJ sG hv Oz Oz) h.d (by show bj p<=_;omega) hF (fun _=>⟨rfl,sN⟩) (fun e=>absurd rfl e),n2,n1,?_,?_⟩
 ·refine Hw (fun q hq=> ?_) Oz _
  obtain⟨z1,z2,z3⟩:=BG h ha
  obtain⟨q1,q2,q3,q4⟩:=tN h
  unfold rP at hq
  by_cases hc:e7 p a (Qz p).length=0
  ·rw[if_pos hc]at hq
   obtain⟨y,hy,rfl⟩:=Kau.1 hq
   obtain⟨j,_,rfl⟩:=Kau.1 hy
   have m1:=z2 j
   have m2:=eX (e7 p a j) (wD p a (bq p)[a].1)
   have hT:=VX h hN ha g1
   show rs (e7 p a j*wD p a (bq p)[a].1)<=_
   omega
  ·rw[if_neg hc]at hq
   obtain⟨y,hy,rfl⟩:=Kau.1 hq
   obtain⟨j,_,rfl⟩:=Kau.1 hy
   have m1:=z2 j
   have m2:=z2 (Qz p).length
   have m3:=xe (a:=e7 p a j) hc
   show rs (e7 p a j/e7 p a (Qz p).length)<=_
   omega
 ·have:=EZ (bs:=aJ p) (x:=rP p a (bq p)[a].1) (m:=64) (fun b hb=>(pQ b hb).2.1) (bj p-1)
  omega
theorem X1{p:List Tm}{K E:Nat}(hb:PB K E p)(hv:pJ p)(hK:K<2^36)(hE:E<=2^38)(hl:p.length<=2^36)(hd:¬jU p<=2):Qd Tryz.prog 22 [PV.aM p] (· = .aI [PV.iv [],PV.bU [],.int .i64 8]):=by
 have hr:=IJ hb hv hK Oz
 have KN:=HT hb hE hl
 refine aE Qg Tryz.func22 QA fun C hP=> ?_
 refine Sz0 ?_
 refine Qb hP hr ?_
 refine Sz0 ?_
 refine Qb hP KN ?_
 refine Sz0 ?_
 refine Qa (fun h0=> ?_) (fun h0=>absurd h0 Oz)
 refine Sz0 ?_
 exact kU (r:= .aI [PV.iv [],PV.bU [],.int .i64 8]) rfl rfl rfl rfl JG trivial (Qn _)
theorem X2(vs:List Rat){p:List Tm}(hp:bC p)(a:Rat):cV vs (jP p a)=a*cV vs p:=by
 unfold cV
 rw[SQ _ hp.c]
theorem aiv{vs:List Rat}{x:Sq}(h:zN x):cV vs (jx x)=x.1*(cV vs x.2*cV vs x.2):=by
 unfold jx
 rw[X2 _ (ES h.n.s h.n.s),aai h.b h.b]
theorem N4{vs:List Rat}{l:List Sq}(h:∀x∈l,zN x/\0<x.1):∀i,i<=l.length->0<=cV vs (fB (l.take i))
 |0,_=>by
  show 0<=cV vs []
  exact Rat.le_refl
 | i+1,hi=>by
  have ih:=N4 (vs:=vs) h i Oz
  obtain⟨h1,h2⟩:=h _ (Kai (show i<l.length by omega))
  obtain⟨_,_,n1⟩:=Pc (fun x hx=>(h x hx).1) i Oz
  obtain⟨_,_,n2⟩:=akh h1
  rw[AL Oz,aah n1.c n2.c,aiv h1]
  have hs:∀q:Rat,0<=q*q:=fun q=>by
   rcases(Rat.le_total:0<=q∨q<=0)with h|h
   ·exact KbK h h
   ·have:=KbK (show 0<= -q by grind) (show 0<= -q by grind)
    grind
  have:=KbK (Rat.le_of_lt h2) (hs (cV vs l[i].2))
  grind
def c9:ay:=⟨91,[.t 4],Zr (Yh 4)<| .seq (Zr (Yz 12 1 33<|
 Zu 14 13<|
 Yu 15 14 0<|
 Zg 15 false (.call (some 17) false (.c (.fn 35 [] [])) [.t 16,.c (Zz 12),.c (Zz 6),.c (Zz 2)])<|
 vH 15)<| .cond (.t 19) (Zr (Zq 20 false 21 []<|
 Yc 4 20) .ret) .skip)<|Zr (Zm 22 0<|
 Yk 23 22 22<|
 Zm 21 23<|
 lU 24 21<|
 Ye 5 24 25<|
 Yc 7 26)<| .seq (Zr (Yc 27 7)<| .block 0<|Zr (oX 29 27 0 28)<| .cond (.t 28) (Zr (Ye 30 0 5<|
 Zq 32 false 41 [.t 30,.t 31]<|
 hO 33 32)<| .cond (.t 33) (Zr (Yh 4) .ret) .skip) (Zr (oX 35 27 17 34)<| .cond (.t 34) (Zr (Ye 37 0 6<|
 Ym 39 37 37 38<|
 Zm 36 39<|
 mY 40 36 8 9)<|Zr (Zm 42 9<|
 Zk 43 .neq 42 0<|
 Zm 44 43<|
 Zg 44 false (.ld 45 3 true (.t 8))<|
 vG 44 38<|
 Zg 44 false (.bin 47 .geq false (.t 46) (.c (Zz 0)))<|
 Yj 48 44 47<|
 qY 49 48 0 1<|
 Zg 49 false (.call (some 52) false (.c (.fn 41 [] [])) [.t 50,.t 51])<|
 Zg 49 false (.bin 53 .eql false (.t 52) (.c (Zz 0)))<|
 ew 54 49 53)<| .cond (.t 54) (Zr (Yh 4) .ret) .skip) .skip))<|Zr (Yz 56 1 36<|
 Zm 55 57<|
 jF 58 55 10)<| .seq (Zr (Zm 60 11<|
 Zk 61 .neq 60 0<|
 Yu 62 61 10<|
 vG 62 43<|
 sD 62 2<|
 Yj 66 62 65<|
 Yu 67 66 10<|
 vG 67 44<|
 Zg 67 false (.len 70 (.t 69))<|
 Zg 67 false (.bin 71 .gtr false (.t 70) (.c (Zz 6)))<|
 ew 72 67 71)<| .cond (.t 72) (Zr (Zq 73 false 21 []<|
 Yc 4 73) .ret) .skip)<|Zr (Yz 75 10 22<|
 Zm 74 76<|
 lU 77 74<|
 Zm 5 77<|
 Yc 7 79)<|Zr (Zm 80 7<|
 Zk 81 .eql 80 0<|
 YS 82 81 10<|
 Zg 82 true (.mv 84 (.t 5))<|
 Zg 82 true (.call (some 85) false (.c (.fn 41 [] [])) [.t 83,.t 84])<|
 Zg 82 true (.bin 86 .eql false (.t 85) (.c (Zz 0)))<|
 zO 87 82 86) .ret⟩
theorem alw:Qe Tryz.prog Tryz.f9=some c9:=by kernel_rfl
theorem aiw{v:Nat}{p:List Tm}(h:∀t∈p,t.2.length<=v)(hv:v<=64):(Qz p).length<=v:=by
 have dn:∀x∈Qz p,x<v:=fun x hx=>by
  have h2:=(List.mem_filter.1 hx).2
  obtain⟨t,ht,hn⟩:=Ka4.1 h2
  have hn:=of_decide_eq_true hn
  refine Nat.lt_of_not_le fun hle=>hn (gW ?_)
  have:=h t ht;omega
 have hs:=KbL.1 (DT p)
 have il:∀i (hi:i<(Qz p).length),i<=(Qz p)[i]:=fun i=>by
  induction i with
  |zero=>exact fun _=>Kbv _
  |succ i ih=>
   intro hi
   have h1:=ih Oz
   have h2:=hs i (i+1) Oz hi Oz
   omega
 refine Nat.le_of_not_lt fun au=> ?_
 have h1:=il v au
 have h2:=dn _ (Kai au)
 omega
theorem aev{P:List Tm}(hb:PB 5 2 P)(hv:pJ P)(pk:∀t∈P,t.2.length<=6)(hl:P.length<=12):
  ∃L w e,Qd Tryz.prog 22 [PV.aM P] (· = .aI [PV.iv L,PV.bU w,.int .i64 e])/\(e=0->Qd Tryz.prog 41 [PV.aM P,PV.iv L] (· = .int .i64 0))/\(e=17->Qd Tryz.prog 37 [PV.aM P,PV.bU w] (· = .aI [PV.rat (cV w P),.int .i64 0])/\cV w P<0/\rs (cV w P)<2^36):=by
 by_cases hd:jU P<=2
 ·have hQ:QF 4 56 P:=⟨fun t ht=>by have:=(hb t ht).c;omega,by omega,fun t ht=>(hb t ht).m,hv.rM,hd,aiw pk Oz,by omega⟩
  cases hw:sw (bq P)
  ·obtain⟨w,w1,w2,w3,w4,w5⟩:=aaL hQ Oz Oz hw
   refine⟨_,w,17,w1,fun e=>by(cases e),fun _=>⟨?_,w3,?_⟩⟩
   ·have wc:P.length*(5+64*(1+2000000*2))<=12*(5+64*(1+2000000*2)):=Kah _ hl
    have kE:=R1 (p:=P) (vs:=w) hb w4 Oz Oz Oz Oz Oz
    rw[B7,if_neg (by rw[w2];decide)]at kE
    exact kE
   ·have h:=Je hb w4 Oz P.length (Kaf _)
    rw[KaH]at h
    have wc:P.length*(5+64*(1+2000000*2))<=12*(5+64*(1+2000000*2)):=Kah _ hl
    omega
  ·obtain⟨w1,w2⟩:=M1 hQ Oz hw
   exact⟨_,_,0,w1,fun _=>w2,fun e=>by cases e⟩
 ·exact⟨_,_,8,X1 hb hv Oz Oz Oz hd,fun e=>by(cases e),fun e=>by cases e⟩
theorem S'{l:List de}{k:Nat}(hb:∀s∈l,qT k s)(hf:qa l=true)(h0:(jf l).2=0)(vs:List Rat):0<=cV vs (jf l).1:=by
 have h1:mI l=0:=by
  unfold jf at h0
  split at h0
  ·assumption
  ·exact h0
 obtain⟨e1,e2,e3⟩:=JD hb hf h1
 have hR:(jf l).1=fB (l.map de.sq):=by
  rw[jf,if_pos h1]at h0⊢
  cases hs:mN (l.map de.sq) []with
  |none=>rw[hs]at h0;cases h0
  |some r=>rw[IF hs];rfl
 have hV:=N4 (vs:=vs) e2 _ (Kaf _)
 rw[KaH]at hV
 rw[hR];exact hV
theorem acv{S:List Tm}(hb:PB 200 2097152 S)(hl:S.length<=180)(hn:bC S)(hd:jU S<=2)(hv:(Qz S).length<=6)(fS:∀vs,0<=cV vs S):
  ∃L,Qd Tryz.prog 22 [PV.aM S] (· = .aI [PV.iv L,PV.bU [],.int .i64 0])/\Qd Tryz.prog 41 [PV.aM S,PV.iv L] (· = .int .i64 0):=by
 have hQ:QF 200 36204 S:=⟨fun t ht=>by have:=(hb t ht).c;omega,by omega,akR (fun t ht=>(hb t ht).m) hn hd,hn,hd,hv,by omega⟩
 have hw:sw (bq S)=true:=by
  cases hw:sw (bq S)
  ·exfalso
   obtain⟨a,ha,g1,_⟩:=Lz hw
   have h1:=(QG hQ ha g1).1
   have h2:=fS (dd (aJ S) (rP S a (bq S)[a].1) (bj S-1))
   grind
  ·rfl
 obtain⟨w1,w2⟩:=M1 hQ Oz hw
 exact⟨_,w1,w2⟩
theorem Qtw{p:List a9}{l:List de}{k:Nat}(hb:∀s∈l,qT k s)(hp:∀t∈p,RB k t)(bx:p.length<2^40)(gP:l.length<2^40)(dT:1<=k)(hk:k<2^36):Qd Tryz.prog 9 [PV.lG p,.sl 4 (l.map PV.jN)] (· = .bool true):=by
 have h1:=agS hb dT hk gP
 have h2:=WK (n:=12) (v:=6) (e:=(2:Nat)) hp dT hk bx
 refine aE Qg Tryz.func9 alw fun C hP=> ?_
 refine Sz0 ?_
 refine Qb hP h1 ?_
 cases hf:qa l
 ·refine Sz0 ?_
  refine Qb hP y9 ?_
  refine Sz0 ?_
  exact Qc rfl rfl
 refine Sz0 ?_
 refine Qb hP h2 ?_
 cases hs:vp 12 6 (2:Nat) p
 ·refine Sz0 ?_
  refine Qb hP y9 ?_
  refine Sz0 ?_
  exact Qc rfl rfl
 have sm:=aaA hp hs
 obtain⟨L,w,e,f1,f2,f3⟩:=aev sm.b sm.va sm.ml sm.ln
 obtain⟨b1,b2,b3⟩:=agU hb hf
 have Cm:=aki hb dT hk hf
 have aqD:=sm.ln
 rw[Kap]at aqD
 have Ub:=MO Cm hp Oz dT hk b1 Oz (fun _=>sm.b.mono Oz Oz) Oz Oz
 have mc:e=17->xl p (jf l)≠0:=fun he hz=>by
  obtain⟨_,g2,_⟩:=f3 he
  unfold xl at hz
  split at hz
  ·rename_i h;exact h hz
  ·rename_i h
   have h0:(jf l).2=0:=by omega
   split at hz
   ·rename_i h3
    have:=S' hb hf h0 w
    rw[<-h3.2]at this
    grind
   ·cases hz
 have fS:=fun h0=>S' hb hf h0
 rw[sm.eq]at Ub⊢
 generalize p.map a9.tm=P at *
 generalize xl p (jf l)=z at *
 obtain⟨⟨S,e2⟩,hS⟩:∃r,jf l=r:=⟨_,rfl⟩
 rw[hS]at b1 b2 b3 Cm fS
 simp only at b1 b2 b3 fS
 refine Sz0 ?_
 refine Qb hP f1 ?_
 refine Sz0 ?_
 refine X3 okB [(4,4),(8,9),(30,54)] [8] (fun J hp=>True) ?_ ?_
 ·refine Qa (fun he=> ?_) (fun he=> ?_)
  ·have g:=f2 he
   refine Sz0 ?_
   refine Qb hP g ?_
   refine Sz0 ?_
   refine oK ?_
   trivial
  ·refine Sz0 ?_
   refine Qa (fun z4=> ?_) (fun z4=> ?_)
   ·obtain⟨g1,g2,g3⟩:=f3 z4
    have hz:=mc z4
    have wv:=mH g3
    have fD:=(@yZ (cV w P)).2 g2
    generalize cV w P=v at *
    refine Sz0 ?_
    refine Qb hP g1 ?_
    refine Sz0 ?_
    refine Qb hP wv ?_
    have sI:decide (0<=gd v)=false:=decide_eq_false Oz
    refine Sz1 sI ?_
    refine Qb hP Ub ?_
    have m9:decide (z=0)=false:=decide_eq_false hz
    refine Sz2 sI m9 ?_
    refine oK ?_
    trivial
   ·refine Sz0 ?_
    refine oK ?_
    trivial
 rintro J h'-
 refine Sz0 ?_
 refine Qb hP Cm ?_
 refine Sz0 ?_
 refine Qx (fun he=> ?_) (fun he=> ?_)
 ·refine Sz0 ?_
  refine Qb hP y9 ?_
  refine Sz0 ?_
  exact Qc rfl rfl
 have v8:e2=0:=by omega
 replace fS:=fS v8
 have c1:=HT b1 Oz Oz
 have c2:=R4 (fun t ht=>(b1 t ht).m) (show S.length<=2^36 by omega)
 rw[Tp]at c2
 have nn:((Qz S).map fun(v:Nat)=>(v:Int)).length=(Qz S).length:=Kap _
 refine Sz0 ?_
 refine Qb hP c1 ?_
 refine Sz0 ?_
 refine Qx (fun hd=> ?_) (fun hd=> ?_)
 ·refine Sz0 ?_
  refine Qb hP y9 ?_
  refine Sz0 ?_
  exact Qc rfl rfl
 refine Sz0 ?_
 refine Qb hP c2 ?_
 refine Sz1 nn ?_
 refine Qa (fun hv=> ?_) (fun hv=> ?_)
 ·refine Sz0 ?_
  refine Qb hP y9 ?_
  refine Sz0 ?_
  exact Qc rfl rfl
 obtain⟨L2,d1,d2⟩:=acv b1 b2 b3 Oz Oz fS
 refine Sz0 ?_
 refine Qb hP d1 ?_
 refine Sz0 ?_
 refine Qb hP d2 ?_
 refine Sz0 ?_
 refine Qb hP y9 ?_
 refine Sz0 ?_
 exact Qc rfl rfl
open Go Go.FW Go.ChangeShapes Go.WideShapes Go.ChangeAt Go.RowKit
theorem Qun{p:List a9}{l:List de}(hp:Dp p)(hl:Ft l):Qd Tryz.prog 9 [PV.lG p,.sl 4 (l.map PV.jN)] (· = .bool true):=
 Qtw (k:=1048576) (aka hl) (fun t ht=>(hp.2 t ht).1) (by have:=hp.1;omega) (by have:=hl.1;omega) Oz Oz
theorem Qph(H:Type)(enc:TypeId×Value->H)(W:World)(base:Nat)(args:Array Value)(ds gs:List (DataW H))(before:List MemPlace)
  (eR:∀(j:Nat) t v,Tryz.f9.params[j]? =some t->args[j]? =some v->Value.okWide Tryz.prog W .any base t v)
  (hW:DataW.Whole enc Tryz.prog Tryz.f9.params.toList Rows.squaresProofsSpec.vars false W args.toList ds gs before) (hk:Rows.uptoSmall H (ds++gs)=true):
  Calls Tryz.prog 9 args W fun e W'=>∃v,e= .returned v/\Rows.squaresProofsSpec.post enc Tryz.prog Tryz.f9 false true false false W args v W':=by
 have Co:=hW
 obtain⟨p,q,hA0,hV,rfl,na,uo⟩:=hW
 have hA:DataW.TrodAll enc Tryz.prog W 0 (fun _=>true) true Tryz.f9.params.toList args.toList ds p:=hA0
 rw[Tryz.params9]at hA eR
 obtain⟨v0,vs0,e0,ds0,p0,q0,cl,rfl,rfl,h0,r0⟩:=trodAll_cons hA
 obtain⟨v1,vs1,e1,ds1,p1,q1,rfl,rfl,rfl,h1,r1⟩:=trodAll_cons r0
 obtain⟨rfl,rfl,rfl⟩:=trodAll_nil r1
 obtain rfl:args= #[v0,v1]:=by cases args;simp_all
 obtain⟨rfl,rfl⟩:=trodVars_none hV
 have hb:=adT hk
 simp only[Kam,Rows.uptoBulkAll]at hb
 obtain⟨a0,g0,b0⟩:=adU (eR 0 _ v0 rfl rfl) h0 Oz
 obtain⟨a1,g1,b1⟩:=XY (eR 1 _ v1 rfl rfl) h1 Oz
 exact abW Co rfl (by kernel_rfl) (by kernel_rfl) rfl (Qun b0 b1) rfl
  (adV (vs:=[v0,v1]) (by
   intro i x hx v hv
   match i,hx,hv with
   |0,hx,hv=>simp at hx hv;subst hx hv;exact g0
   |1,hx,hv=>simp at hx hv;subst hx hv;exact g1
   |i+2,hx,hv=>simp at hx) rfl)
theorem Qr7(os:Os)(started:os.Started)(H:Type)(enc:TypeId×Value->H)(F:Stop.Interp):
  ReturnsInHanded {} Tryz.checked os 9 .any ((Rows.OpenSpec.upto Rows.squaresProofsSpec).pre6 enc Tryz.prog Tryz.f9 Rows.squaresProofsUptoRow.domain false) (((Rows.OpenSpec.upto Rows.squaresProofsSpec).at F).post enc Tryz.prog Tryz.f9 false true false false):=by
 refine returnsInHanded_of_cond (C:=Tryz.checked) (s:=Rows.OpenSpec.upto Rows.squaresProofsSpec) (k:=Rows.uptoSmall) rfl own started (by kernel_rfl) Tryz.func9
  (OpenSpec.witness (enc:=enc) (C:=Tryz.checked) (s:=Rows.OpenSpec.upto Rows.squaresProofsSpec) (k:=Rows.uptoSmall) rfl false ⟨#[],#[.slice none 0 0,.slice none 0 0],[]⟩ 8 (by kernel_rfl) (by kernel_rfl) (by kernel_rfl)
   (x:=([.nil,.nil],[],[])) (by kernel_rfl) rfl (by kernel_rfl)) ?_
 intro W base args ds gs before eR hW _ hk _
 exact Qph H enc W base args ds gs before eR hW hk
theorem squaresProofs_proved:Rows.SquaresProofsUptoSaid:=
 OpenClaim.holds_of_cond 9 Tryz.f9 rfl rfl rfl rfl rfl rfl rfl ⟨rfl,rfl,rfl,rfl,rfl⟩ rfl rfl rfl rfl rfl (by kernel_rfl) Tryz.func9 (by kernel_rfl)
  (of_decide_eq_true (by kernel_rfl)) (by unfold Func.isWrapper;first|(rw[if_pos (by decide+kernel)];kernel_rfl)|(rw[if_neg (by decide+kernel)];exact⟨rfl,rfl⟩))
  (fun os started H enc _ F=>Qr7 os started H enc F)
end Go.Proofs.YtkoclfmjlolkhaaGreat
