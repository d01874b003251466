/- Part 17 of the proof of SquaresQuadratics: Q19, Q20, Q21, Q22, Q28, U11, FwNL. Own lemmas; no conditions. -/
import Derived.Test.YtkoclfmjlolkhaaGreatSquaresQuadraticsPart16
set_option maxHeartbeats 1000000
set_option linter.unusedSimpArgs false
set_option linter.unusedVariables false
set_option linter.unnecessarySimpa false
set_option maxRecDepth 100000
namespace Go.Proofs.YtkoclfmjlolkhaaGreat
open Go Go.FW
def Be(A:MF)(L:List LF)(R:Nat):Prop:=∀i,i<L.length->∀c,c<R->A i c=(jP L i).2 c
theorem LX{R:Nat}{M A:MF}{L:List LF}(hA:Be A L R)(hs:Sym R M)(h:iz R M L)(b:Nat->Rat):(Qt L.length (bS A b R) R).ak.length=L.length:=by
 have hp:=ll L.length (bS A b R) R;refine Nat.le_antisymm hp.2.1 ?_;have gd:∀i x,i<L.length->Qw (bS A b R i) x R=Qw (jP L i).2 x R:=fun i x hi=>rA _ fun c hc=>⟨by unfold bS;rw[if_neg Oz];exact hA i hi c hc,rfl⟩
 refine JQ (C:=fun j i=>(jP L i).2 ((Qt L.length (bS A b R) R).ak.getD j 0)) fun z hz=>SP h z hs fun c hc=>?_;rw[LW];have e:Qw (fun i=>(jP L i).2 c) z L.length=Qw (fun i=>Qw (fun j=>(jP L i).2 ((Qt L.length (bS A b R) R).ak.getD j 0)) (fun j=>(Qt L.length (bS A b R) R).M j c) (Qt L.length (bS A b R) R).ak.length) z L.length:=
  rA _ fun i hi=>⟨RN (fun x hx=>by rw[<-gd i x hi];exact hx i hi) hc,rfl⟩
 rw[e,Mo];exact yw _ fun j hj=>hz j hj
def Cg(A:MF)(n:Nat)(b:Nat->Rat)(R:Nat):Nat->Rat:=fI (Qt n (bS A b R) R).M (Qt n (bS A b R) R).ak R (Qt n (bS A b R) R).ak.length
theorem RO{R:Nat}{M A:MF}{L:List LF}(hA:Be A L R)(hs:Sym R M)(h:iz R M L)(b:Nat->Rat):∀r,r<L.length->Qw (jP L r).2 (Cg A L.length b R) R=b r:=fun r hr=>by rw[<-alx (M:=A) (b:=b) (R:=L.length) (m:=R) (fun r h1 h2=>by rw[LX hA hs h]at h2;omega) r hr];exact rA _ fun c hc=>⟨(hA r hr c hc).symm,rfl⟩
theorem ak6{R:Nat}{M A:MF}{L:List LF}(hA:Be A L R)(hs:Sym R M)(h:iz R M L)(b:Nat->Rat):Ah (Qt L.length (bS A b R) R) L.length R= .aH [.sl 3 (Qo PV.rat (Cg A L.length b R) R),.int .i64 0]:=
 if_pos fun r h1 h2=>by rw[LX hA hs h]at h2;omega
theorem Rt{w:Nat->Rat}{g:Nat->Rat}{a:Nat}:∀n,(∀i,i<n->i≠a->g i=0)->Qw w g n=if a<n then w a*g a else 0
 |0,_=>by rw[if_neg Oz];rfl
 | n+1,h=>by
  have ih:=Rt (w:=w) (g:=g) (a:=a) n fun i hi aJ=>h i Oz aJ;show Qw w g n+w n*g n=_;rw[ih];by_cases e:n=a
  ·subst e;rw[if_neg Oz,if_pos Oz];grind
  ·by_cases e2:a<n
   ·rw[if_pos e2,if_pos Oz,h n Oz e];grind
   ·rw[if_neg e2,if_neg Oz,h n Oz e];grind
theorem ahC{R:Nat}{M A:MF}{L:List LF}(hA:Be A L R)(hs:Sym R M)(h:iz R M L){a:Nat}(ha:a<L.length):pn M (Cg A L.length (fun i=>if i=a then 1 else 0) R) R R=(jP L a).1:=by rw[ahB h];unfold FB;rw[Rt (a:=a) L.length fun i hi aJ=>by rw[RO hA hs h _ i hi,if_neg aJ];grind,if_pos ha,RO hA hs h _ a ha,if_pos rfl];grind
theorem Ru{k:Nat}:∀ {p:List Tm},(∀t∈p,nl t.1.den<=k)->nl (nF p)<=p.length*k+1
 | [],_=>by rw[show nF []=1 from rfl,u9];omega
 |t::p,h=>by have h1:=Ru (p:=p) fun s hs=>h s (Ka1 _ hs);have h2:=h t (by simp);have h3:=rF t.1.den (nF p);show nl (t.1.den*nF p)<=_;rw[KaT,Kca];omega
theorem aoq{R n:Nat}{A:MF}{L:List LF}{D:Int}{b:Nat->Rat}(hA:Be A L R)(hF:FD n D R L)(hb:∀i,b i=1∨b i=0)(hn:1<=n)(hLR:L.length<=R):
  vm ((n+1)*2^L.length) L.length (R+1) R (bS A b R)/\∃D':Int,D'≠0/\nl D'.natAbs<=(n+1)*2^L.length/\∀c,∃z:Int,Cg A L.length b R c=(z:Rat)/(D':Rat)/\nl z.natAbs<=(n+1)*2^L.length:=by
 have hC:CM (n+1-1) D L.length (R+1) (bS A b R):=⟨hF.1,by have:=hF.2.1;omega,fun r hr c hc=>by
  unfold bS;by_cases e:c=R
  ·rw[if_pos e];rcases hb r with h|h
   ·exact⟨D,by rw[h,Kbr,Rat.mul_inv_cancel _ (mi hF.1)],by have:=hF.2.1;omega⟩
   ·exact⟨0,by rw[h,Kbr];exact(KcC _).symm,by rw[Int.natAbs_zero,yy];omega⟩
  ·rw[if_neg e];obtain⟨a,ea,ha⟩:=hF.2.2 _ (PM hr) c Oz;exact⟨a,by rw[hA r hr c Oz,ea],by omega⟩⟩
 refine⟨ak0 Oz hC Oz,?_⟩;obtain⟨s,h1,h2,⟨D',h3⟩,h4,h5⟩:=JR Oz hC R Oz;have hm:(n+1)*2^s<=(n+1)*2^L.length:=KaE _ (KaR Oz h2);refine⟨D',h3.1,by have:=h3.2.1;omega,fun c=>?_⟩;have key:∀j,j<=s->∃z:Int,fI (Qt L.length (bS A b R) R).M (Qt L.length (bS A b R) R).ak R j c=(z:Rat)/(D':Rat)/\nl z.natAbs<=(n+1)*2^s-1:=by
  intro j;rw[Mn];induction j with
  |zero=>exact fun _=>⟨0,by rw[Kbr];exact(KcC _).symm,by rw[Int.natAbs_zero,yy];omega⟩
  |succ j ih=>
   intro hj;show ∃z:Int,(if c=(Qt L.length (bS A b R) R).ak.getD j 0 then _ else _)=_/\_;split
   ·exact h3.2.2 j Oz R Oz
   ·exact ih Oz
 obtain⟨z,e1,e2⟩:=key s (Kae _);exact⟨z,by rw[<-e1,<-h5];rfl,by omega⟩
theorem TH{x y:Nat->Rat}{D E:Int}{n m:Nat}(hD:D≠0)(hE:E≠0):∀w,(∀c,c<w->∃a:Int,x c=(a:Rat)/(D:Rat)/\nl a.natAbs<=n)->(∀c,c<w->∃a:Int,y c=(a:Rat)/(E:Rat)/\nl a.natAbs<=m)->∃z:Int,Qw x y w=(z:Rat)/((D*E:Int):Rat)/\nl z.natAbs<=n+m+w
 |0,_,_=>⟨0,by rw[Kbr];exact(KcC _).symm,by rw[Int.natAbs_zero,yy];omega⟩
 | w+1,hx,hy=>by
  obtain⟨z,e,hz⟩:=TH hD hE w (fun c hc=>hx c Oz) fun c hc=>hy c Oz;obtain⟨a,ea,ha⟩:=hx w Oz;obtain⟨b,eb,hb⟩:=hy w Oz;refine⟨z+a*b,?_,by have h1:=tE z (a*b);have h2:=lv ha hb;omega⟩;show Qw x y w+x w*y w=_;rw[e,ea,eb,Kdb,KaU,KaU];have h1:=mi hD;have h2:=mi hE;generalize(a:Rat)=a at *
  generalize(b:Rat)=b at *
  generalize(z:Rat)=z at *
  generalize(D:Rat)=D at *
  generalize(E:Rat)=E at *
  grind
def sm(f:Nat->Rat):Nat->Rat
 |0=>0
 |n+1=>sm f n+f n
theorem uT{f g:Nat->Rat}:∀n,(∀i,i<n->f i=g i)->sm f n=sm g n
 |0,_=>rfl
 |n+1,h=>by simp only[sm];rw[uT n fun i hi=>h i Oz,h n Oz]
theorem Kb{f g:Nat->Rat}:∀n,sm (fun i=>f i+g i) n=sm f n+sm g n
 |0=>by simp only[sm];grind
 |n+1=>by simp only[sm];rw[Kb n];grind
theorem Bf{f:Nat->Rat}{c:Rat}:∀n,sm (fun i=>c*f i) n=c*sm f n
 |0=>by simp only[sm];grind
 |n+1=>by simp only[sm];rw[Bf n];grind
theorem AQ{f:Nat->Rat}:∀n,(∀i,i<n->f i=0)->sm f n=0
 |0,_=>rfl
 |n+1,h=>by simp only[sm];rw[AQ n fun i hi=>h i Oz,h n Oz];grind
theorem DI{f:Nat->Rat}{a:Nat}:∀n,a<n->(∀i,i<n->i≠a->f i=0)->sm f n=f a
 |0,h,_=>by omega
 |n+1,h,hz=>by
  simp only[sm];by_cases e:n=a
  ·subst e;rw[AQ n fun i hi=>hz i Oz Oz];grind
  ·rw[DI n Oz fun i hi aJ=>hz i Oz aJ,hz n Oz e];grind
def gT(g:Nat->Nat->Rat)(R:Nat):Rat:=sm (fun i=>sm (g i) R) R
theorem ru{g h:Nat->Nat->Rat}{R:Nat}(e:∀i,i<R->∀k,k<R->g i k=h i k):gT g R=gT h R:=uT R fun i hi=>uT R fun k hk=>e i hi k hk
theorem AR{g h:Nat->Nat->Rat}{R:Nat}:gT (fun i k=>g i k+h i k) R=gT g R+gT h R:=by unfold gT;rw[<-Kb];exact uT R fun i _=>Kb R
theorem Dv{g:Nat->Nat->Rat}{R:Nat}{c:Rat}:gT (fun i k=>c*g i k) R=c*gT g R:=by unfold gT;rw[<-Bf];exact uT R fun i _=>Bf R
theorem Rv{g:Nat->Nat->Rat}{R:Nat}(h:∀i,i<R->∀k,k<R->g i k=0):gT g R=0:=AQ R fun i hi=>AQ R fun k hk=>h i hi k hk
theorem HQ{R a b:Nat}{c:Rat}(ha:a<R)(hb:b<R):gT (fun i k=>if i=a/\k=b then c else 0) R=c:=by unfold gT;rw[DI R ha fun i hi aJ=>AQ R fun k hk=>if_neg fun h=>aJ h.1,DI R hb fun k hk aJ=>if_neg fun h=>aJ h.2,if_pos ⟨rfl,rfl⟩]
theorem ahD(v n:Nat):dT (bQ v n)=n:=by
 unfold dT bQ;have h:∀v:Nat,(List.replicate v (0:Int)).sum=0:=fun v=>by
  induction v with
  |zero=>rfl
  |succ v ih=>rw[KbL,KcZ,ih];rfl
 rw[List.sum_append,h];simp
theorem Hu{E:Nat}{m:List Int}(hm:MB E m)(hl:m.getLast? ≠some 0)(v:Nat):dT m=dT (pw m v)+eN m v/\0<=dT (pw m v):=by
 have h0:=(hm.eN v).1;have e:m=bF (pw m v) (bQ v (eN m v).toNat):=tK hl (ry _ _) fun i=>by
  rw[ph,wE,HE];by_cases h:i=v
  ·subst h;rw[if_pos rfl,if_pos rfl];omega
  ·rw[if_neg h,if_neg h];omega
 refine⟨?_,(Dm (C9 hm v)).1⟩;conv=>lhs;rw[e,ag6,ahD]
 omega
def cJ(V:List Nat)(i:Nat):List Int:=(V.map (fun v=>bQ v 1)++[[]]).getD i []
theorem FP{V:List Nat}{i:Nat}(hi:i<=V.length)(w:Nat):eN (cJ V i) w=if ∃h:i<V.length,V[i]=w then 1 else 0:=by
 unfold cJ;rw[Kad];by_cases h:i<V.length
 ·rw[KbD (by rw[Kal];exact h),Kas,Kag h];show eN (bQ V[i] 1) w=_;rw[HE];by_cases e:w=V[i]
  ·rw[if_pos e,if_pos ⟨h,e.symm⟩];rfl
  ·rw[if_neg e,if_neg fun⟨_,h2⟩=>e h2.symm]
 ·obtain rfl:i=V.length:=by omega
  rw[KbX (by simp),Kal,KbA];show eN [] w=_;rw[HY,if_neg fun⟨h2,_⟩=>h h2]
theorem aor{V:List Nat}{m:List Int}{E:Nat}(hm:MB E m)(hl:m.getLast? ≠some 0)(hd:dT m<=2)(hV:∀v,eN m v≠0->v∈V):∃a b,a<=V.length/\b<=V.length/\m=bF (cJ V a) (cJ V b):=by
 have uo:∀v,v∈V->∃a,∃h:a<V.length,V[a]=v:=fun v h=>KaV h;have hz:∀ {m:List Int},MB E m->m.getLast? ≠some 0->dT m<=0->∀i,eN m i=0:=fun {m} hm hl hd i=>by have h1:=Hu hm hl i;have:=(hm.eN i).1;omega
 have jc:∀w,eN (cJ V V.length) w=0:=fun w=>by rw[FP (Kae _),if_neg fun⟨h,_⟩=>by omega]
 by_cases h0:∀v,eN m v=0
 ·exact⟨V.length,V.length,Kae _,Kae _,tK hl (ry _ _) fun i=>by rw[ph,h0,jc];rfl⟩
 ·obtain⟨v,hv⟩:=Classical.not_forall.1 h0;obtain⟨a,ha,Iv⟩:=uo v (hV v hv);have h1:=Hu hm hl v;have h2:=(hm.eN v).1;have Nj:∀w,eN (cJ V a) w=if w=v then 1 else 0:=fun w=>by
   rw[FP Oz];by_cases e:w=v
   ·rw[if_pos e,if_pos ⟨ha,by rw[Iv,e]⟩]
   ·rw[if_neg e,if_neg fun⟨_,h⟩=>e (by rw[<-h,Iv])]
  by_cases h3:∀u,eN (pw m v) u=0
  ·by_cases h4:eN m v=2
   ·refine⟨a,a,by omega,by omega,tK hl (ry _ _) fun i=>?_⟩;rw[ph,Nj];by_cases e:i=v
    ·rw[if_pos e,e,h4];rfl
    ·have:=h3 i;rw[wE,if_neg e]at this;rw[if_neg e,this];rfl
   ·refine⟨a,V.length,by omega,Kae _,tK hl (ry _ _) fun i=>?_⟩;rw[ph,Nj,jc];by_cases e:i=v
    ·rw[if_pos e,e];omega
    ·have:=h3 i;rw[wE,if_neg e]at this;rw[if_neg e,this];rfl
  ·obtain⟨u,hu⟩:=Classical.not_forall.1 h3;have mC:u≠v/\eN m u≠0:=by
    rw[wE]at hu;by_cases e:u=v
    ·rw[if_pos e]at hu;exact absurd rfl hu
    ·rw[if_neg e]at hu;exact⟨e,hu⟩
   obtain⟨b,hb,Xy⟩:=uo u (hV u mC.2);have g1:=Hu (C9 hm v) (Wr m v) u;have g2:=((C9 hm v).eN u).1;have g3:eN (pw m v) u=eN m u:=by rw[wE,if_neg mC.1]
   have BU:=hz (C9 (C9 hm v) u) (Wr _ u) Oz;have heb:∀w,eN (cJ V b) w=if w=u then 1 else 0:=fun w=>by
    rw[FP Oz];by_cases e:w=u
    ·rw[if_pos e,if_pos ⟨hb,by rw[Xy,e]⟩]
    ·rw[if_neg e,if_neg fun⟨_,h⟩=>e (by rw[<-h,Xy])]
   refine⟨a,b,by omega,by omega,tK hl (ry _ _) fun i=>?_⟩;rw[ph,Nj,heb];by_cases e:i=v
   ·rw[if_pos e,if_neg Oz,e];omega
   ·by_cases e2:i=u
    ·rw[if_neg e,if_pos e2,e2];omega
    ·have:=BU i;rw[wE,if_neg e2,wE,if_neg e]at this;rw[if_neg e,if_neg e2,this];rfl
theorem aos{V:List Nat}(hV:V.Pairwise (· < ·)){i k a b:Nat}(hi:i<=V.length)(hk:k<=V.length)(ha:a<=V.length)(hb:b<=V.length)(h:bF (cJ V i) (cJ V k)=bF (cJ V a) (cJ V b)):(i=a/\k=b)∨(i=b/\k=a):=by
 have hj:∀j,j<V.length->(if i=j then(1:Int)else 0)+(if k=j then 1 else 0)=(if a=j then 1 else 0)+(if b=j then 1 else 0):=fun j hj=>by
  have e:=congrArg (fun m=>eN m V[j]) h;simp only[ph]at e;have hs:∀x,x<=V.length->eN (cJ V x) V[j]=if x=j then 1 else 0:=fun x hx=>by
   rw[FP hx];by_cases e:x=j
   ·subst e;rw[if_pos ⟨hj,rfl⟩,if_pos rfl]
   ·have aJ:¬∃h:x<V.length,V[x]=V[j]:=fun⟨h1,h2⟩=>by
     rcases Nat.lt_or_gt_of_ne e with g|g
     ·have:=KbE.1 hV x j h1 hj g;omega
     ·have:=KbE.1 hV j x hj h1 g;omega
    rw[if_neg e,if_neg aJ]
  rw[hs i hi,hs k hk,hs a ha,hs b hb]at e;exact e
 have h1:=hj i;have h2:=hj k;have h3:=hj a;have h4:=hj b;omega
theorem Dw(p:List Tm)(i:Nat):(aF p).getD i []=cJ (Qp p) i:=rfl
theorem Gx(p:List Tm):(Qp p).Pairwise (· < ·):=List.Pairwise.filter _ List.pairwise_lt_range
def uJ(i k:Nat):Rat:=if i=k then 1 else 1/2
theorem ahE{V:List Nat}(hV:V.Pairwise (· < ·)){a b:Nat}(ha:a<=V.length)(hb:b<=V.length):gT (fun i k=>if bF (cJ V i) (cJ V k)=bF (cJ V a) (cJ V b)then uJ i k else 0) (V.length+1)=1:=by
 have lO:∀i,i<V.length+1->∀k,k<V.length+1->(bF (cJ V i) (cJ V k)=bF (cJ V a) (cJ V b)↔(i=a/\k=b)∨(i=b/\k=a)):=fun i hi k hk=>
  ⟨aos hV Oz Oz ha hb,fun h=>by
   rcases h with⟨rfl,rfl⟩|⟨rfl,rfl⟩
   ·rfl
   ·exact AB _ _⟩
 by_cases e:a=b
 ·subst e;rw[ru (h:=fun i k=>if i=a/\k=a then 1 else 0) fun i hi k hk=>?_,HQ Oz Oz];by_cases h:i=a/\k=a
  ·rw[if_pos ((lO i hi k hk).2 (.inl h)),if_pos h,h.1,h.2,uJ,if_pos rfl]
  ·rw[if_neg fun h2=>?_,if_neg h];rcases(lO i hi k hk).1 h2 with h3|h3<;>exact h h3
 ·rw [ru (h:=fun i k=>(if i=a/\k=b then 1/2 else 0)+(if i=b/\k=a then 1/2 else 0)) fun i hi k hk=>?_,AR,HQ Oz Oz,HQ Oz Oz]
  ·grind
  ·by_cases h:i=a/\k=b
   ·have h':¬(i=b/\k=a):=by omega
    rw[if_pos ((lO i hi k hk).2 (.inl h)),if_pos h,if_neg h',uJ,if_neg Oz];grind
   ·by_cases h':i=b/\k=a
    ·rw[if_pos ((lO i hi k hk).2 (.inr h')),if_neg h,if_pos h',uJ,if_neg Oz];grind
    ·rw[if_neg fun h2=>?_,if_neg h,if_neg h']
     ·grind
     ·rcases(lO i hi k hk).1 h2 with h3|h3
      ·exact h h3
      ·exact h' h3
def wP:List Tm->List Int->Rat
 | [],_=>0
 |t::p,m=>(if m=t.2 then t.1 else 0)+wP p m
theorem PO{m:List Int}:∀ {p:List Tm},(∀t∈p,t.2≠m)->wP p m=0
 | [],_=>rfl
 |t::p,h=>by show(if m=t.2 then t.1 else 0)+wP p m=0;rw[PO fun s hs=>h s (Ka1 _ hs),if_neg (Ne.symm (h t (by simp)))];grind
theorem SR{m:List Int}(hm:m.getLast? ≠some 0):∀ {p:List Tm},bB p->jO p m=wP p m
 | [],_=>rfl
 | t::p,h=>by
  have ih:=SR hm h.tail;have ht:=(Can.cons.1 h.c).1;show(if bm t.2 m=0 then t.1 else jO p m)=(if m=t.2 then t.1 else 0)+wP p m;by_cases e:m=t.2
  ·rw[if_pos ((wM ht hm).2 e.symm),if_pos e,PO fun s hs kD=>?_]
   ·grind
   ·have:=h.s.1 s hs;rw[kD,e,CH]at this;omega
  ·rw[if_neg fun h2=>e ((wM ht hm).1 h2).symm,if_neg e,ih];grind
theorem Rw(φ:List Int->Rat){V:List Nat}(hV:V.Pairwise (· < ·)):∀ {p:List Tm},(∀t∈p,∃a b,a<=V.length/\b<=V.length/\t.2=bF (cJ V a) (cJ V b))->
  gT (fun i k=>uJ i k*wP p (bF (cJ V i) (cJ V k))*φ (bF (cJ V i) (cJ V k))) (V.length+1)=bV φ p
 | [],_=>Rv fun i _ k _=>by show uJ i k*0*_=0;grind
 | t::p,h=>by
  have ih:=Rw φ hV fun s hs=>h s (Ka1 _ hs);obtain⟨a,b,ha,hb,e⟩:=h t (by simp);rw[fM,<-ih,ru (h:=fun i k=>t.1*φ t.2*(if bF (cJ V i) (cJ V k)=bF (cJ V a) (cJ V b)then uJ i k else 0)+uJ i k*wP p (bF (cJ V i) (cJ V k))*φ (bF (cJ V i) (cJ V k))) fun i hi k hk=>?_,AR,Dv,ahE hV ha hb]
  ·grind
  ·show uJ i k*((if bF (cJ V i) (cJ V k)=t.2 then t.1 else 0)+wP p (bF (cJ V i) (cJ V k)))*φ (bF (cJ V i) (cJ V k))=_;by_cases h2:bF (cJ V i) (cJ V k)=bF (cJ V a) (cJ V b)
   ·rw[if_pos (h2.trans e.symm),if_pos h2,h2,<-e];grind
   ·rw[if_neg fun h3=>h2 (h3.trans e),if_neg h2];grind
theorem adQ{p:List Tm}{E:Nat}(hm:∀t∈p,MB E t.2)(hn:bB p)(hd:jz p<=2):∀t∈p,∃a b,a<=(Qp p).length/\b<=(Qp p).length/\t.2=bF (cJ (Qp p) a) (cJ (Qp p) b):=fun t ht=>by
 refine aor (hm t ht) (hn.c t ht) (Int.le_trans ((Rs p).1 t ht) hd) fun v hv=>?_;have aus:v<64:=by refine Nat.lt_of_not_le fun h=>hv (jh ?_);have:=(hm t ht).len;omega
 refine List.mem_filter.2 ⟨Kbo.2 aus,?_⟩;exact Ka6.2 ⟨t,ht,decide_eq_true hv⟩
theorem Rx(φ:List Int->Rat){p:List Tm}{E:Nat}(hm:∀t∈p,MB E t.2)(hn:bB p)(hd:jz p<=2):
  gT (fun i k=>tT p (aF p) i k*φ (bF (cJ (Qp p) i) (cJ (Qp p) k))) (aF p).length=bV φ p:=by
 have hl:(aF p).length=(Qp p).length+1:=by simp[aF]
 rw[hl,<-Rw φ (Gx p) (adQ hm hn hd)];refine ru fun i _ k _=>?_;unfold tT;rw[Dw,Dw,SR (ry _ _) hn,uJ];split<;>grind
def vt:List LF->Nat->Nat->Rat
 | [],_,_=>0
 |f::L,r,c=>f.1*f.2 r*f.2 c+vt L r c
theorem PQ(f:LF)(r c:Nat):∀L:List LF,vt (L++[f]) r c=vt L r c+f.1*f.2 r*f.2 c
 | []=>by show _+(0:Rat)=0+_;grind
 |g::L=>by show g.1*g.2 r*g.2 c+vt (L++[f]) r c=g.1*g.2 r*g.2 c+vt L r c+_;rw[PQ f r c L];grind
theorem ak7{R:Nat}{M:MF}{L:List LF}(h:iz R M L){r c:Nat}(hr:r<R)(hc:c<R):M r c=vt L r c:=by
 induction h with
 |nil h=>exact h r hr c hc
 | @one M f L i hi α hw h2 mA hz hL ih=>show _=f.1*f.2 r*f.2 c+vt L r c;rw[<-ih];unfold cT;grind
 | @two M f g L i k hi hk a ha wf wg hf hg fi fk gi gk uD xS hL ih=>
  show _=f.1*f.2 r*f.2 c+(g.1*g.2 r*g.2 c+vt L r c)
  rw[<-ih];unfold cT;grind
theorem Ly:∀ {L:List Tm},(∀t∈L,ck t.2=true)->pj (L.map eM)=L
 | [],_=>rfl
 |t::L,h=>by have h1:=h t (by simp);have h2:=Ly (L:=L) fun s hs=>h s (Ka1 _ hs);have ht:cQ (eM t).m=t.2:=Mh (yj h1);unfold pj at h2⊢;rw[Kba,Kcf,GH (by rw[ht];exact h1),ht,h2,Ue]
theorem Ry(φ:List Int->Rat){L:List Tm}(h:∀t∈L,ck t.2=true):bV φ (mh L)=bV φ L:=by unfold mh;rw[wU,(LG (φ:=φ) _ _ (Kae _) (fun p hp=>(Lc _ p hp).c)).2,kM,Le,Ly h]
theorem ahF{L:List Tm}(h:∀t∈L,ck t.2=true){t:Tm}(ht:t∈mh L):∃s∈L,s.2=t.2:=by obtain⟨p,hp,s,hs,e⟩:=Rq _ _ (Kae _) ht;obtain⟨u,hu,rfl,_⟩:=GI hp;rw[Ly h]at hu;rw[Kau.1 hs]at e;exact⟨u,hu,e⟩
theorem LY(ψ:List Int->Rat)(g:Nat->Tm):∀n,bV ψ ((List.range n).map g)=sm (fun k=>(g k).1*ψ (g k).2) n
 |0=>rfl
 |n+1=>by rw[Kck,Ka9,Lp,LY ψ g n];show _+((g n).1*ψ (g n).2+0)=sm _ n+_;grind
theorem PR{bs:List (List Int)}{f:LF}(hb:∀b∈bs,ck b=true):∀t∈eQ bs f,ck t.2=true:=fun t ht=>by obtain⟨k,hk,rfl⟩:=KaV ht;rw[uM]at hk;rw[G4 hk];exact hb _ (Kah _)
theorem alK(φ:List Int->Rat){bs:List (List Int)}(hb:∀b∈bs,ck b=true)(f:LF):bV φ (oT (dq bs f))=gT (fun i k=>f.1*f.2 i*f.2 k*φ (bF (bs.getD i []) (bs.getD k []))) bs.length:=by unfold oT;have hn:bB (mh (eQ bs f)):=LH _;have hm:=PR (f:=f) hb;show bV φ (l7 (hO (mh (eQ bs f)) (mh (eQ bs f))) f.1)=_;rw[adr φ (L3 hn.s hn.s).c,Rk,Ry _ hm];have e:(fun m=>bV (fun n=>φ (bF m n)) (mh (eQ bs f)))=fun m=>bV (fun n=>φ (bF m n)) (eQ bs f):=funext fun m=>Ry _ hm;rw[e];unfold eQ;rw[LY];unfold gT;rw[<-Bf];refine uT _ fun i _=>?_;rw[LY,<-Bf,<-Bf];exact uT _ fun k _=>by grind
theorem Rz(φ:List Int->Rat){bs:List (List Int)}(hb:∀b∈bs,ck b=true){fs:List LF}{K E n:Nat}(hG:∀x∈fs.map (dq bs),uc K E n x):∀i,i<=fs.length->bV φ (jS ((fs.map (dq bs)).take i))=gT (fun a b=>vt (fs.take i) a b*φ (bF (bs.getD a []) (bs.getD b []))) bs.length
 |0,_=>(Rv fun a _ b _=>by show(0:Rat)*_=0;grind).symm
 |i+1,hi=>by have hl:(fs.map (dq bs)).length=fs.length:=Kal _;have hg:(fs.map (dq bs))[i]'Oz=dq bs fs[i]:=Ka8 ..;obtain⟨_,_,a3⟩:=yB hG i Oz;obtain⟨_,_,b3⟩:=Kd (hG _ (Kah (show i<(fs.map (dq bs)).length by omega)));rw[G1 Oz,Hj a3.c b3.c,Rz φ hb hG i Oz,hg,alK φ hb,<-AR];refine ru fun a _ b _=>?_;rw[Kak Oz,PQ];grind
theorem afc{p:List Tm}{E K E2 n:Nat}{fs:List LF}(hm:∀t∈p,MB E t.2)(hn:bB p)(hd:jz p<=2)(hS:iz (aF p).length (Qq (eR p (aF p)) (aF p).length) fs)(hG:∀x∈fs.map (dq (aF p)),uc K E2 n x):jS (fs.map (dq (aF p)))=p:=by
 have hb:∀b∈aF p,ck b=true:=fun b h=>LD (l8 b h).1 Oz (l8 b h).2.2;obtain⟨_,_,a3⟩:=yB hG _ (Kae _);rw[Kaz]at a3;refine HC a3 hn fun φ=>?_;have h:=Rz φ hb hG fs.length (Kae _);rw[Kac (by simp),Kaz]at h;rw[h,<-Rx φ hm hn hd];refine ru fun i hi k hk=>?_;rw[<-ak7 hS hi hk,Dw,Dw];congr 1;unfold Qq eR;have aw:i*(aF p).length+k<(aF p).length*(aF p).length:=by have:(i+1)*(aF p).length<=(aF p).length*(aF p).length:=Kaj _ hi;rw[Kca]at this;omega
 rw[Kad,Kas,Kb8 aw];exact Hp hk
theorem PS{l:List Sq}(h:∀i,i<l.length->tN (jS (l.take (i+1)))=false):∀k i,i+k=l.length->sF (l.drop i) (jS (l.take i))=some (jS l)
 |0,i,hi=>by
  obtain rfl:i=l.length:=by omega
  rw[Kdk,Kaz];rfl
 |k+1,i,hi=>by rw[Ov _ Oz,<-G1 Oz,h i Oz,if_neg (by decide)];exact PS h k (i+1) Oz
def iw(x:Sq):mW:=⟨decide (x.1.num<0),ao x.1.num.natAbs,ao x.1.den,x.2.map eM⟩
theorem ahG(x:Sq):PV.wc (iw x)=PV.sq x:=by have h:PV.wc (iw x)=PV.agg [.bool (decide (x.1.num<0)),PV.num x.1.num.natAbs,PV.num x.1.den,PV.jI (x.2.map eM)]:=rfl;rw[h,yu]
theorem ahb(x:Sq):(iw x).sq=x:=by have h1:rv (iw x).n (iw x).a (iw x).d=x.1:=eA x.1;show(rv (iw x).n (iw x).a (iw x).d,(x.2.map eM).map aP.tm)=x;rw[h1,KbH];have:(aP.tm∘eM)=id:=funext fun t=>TC t;rw[this,List.map_id]
theorem alL{x:Sq}{K E n:Nat}(h:uc K E n x)(hE:E<=1048576)(h0:0<x.1):r9 (iw x)=0:=by unfold r9;have h1:rv (iw x).n (iw x).a (iw x).d=x.1:=eA x.1;have h2:lB (iw x).n (iw x).a (iw x).d=true:=AK x.1;have h3:dz (iw x).p=true:=C7 (h.n.Fw h.b hE);rw[h1,h2,h3,if_pos rfl,if_pos rfl,if_pos h0]
theorem alM{x:Sq}{K E n:Nat}(h:uc K E n x)(hn:n<2^40):Mt K (iw x):=by
 have hw:=h.w;refine⟨⟨Qm _,Qm _,?_,?_,by omega⟩,fun t ht=>?_,?_⟩
 ·have h1:nl x.1.num.natAbs<=rs x.1:=by unfold rs;omega
  exact Kap h1 Oz
 ·have h1:nl x.1.den<=rs x.1:=by unfold rs;omega
  exact Kap h1 Oz
 ·obtain⟨s,hs,rfl⟩:=Kaq.1 ht;have:=(h.b s hs).c;exact yH Oz (by have:=(h.b s hs).m.len;omega)
 ·have h1:=h.l;have h2:(iw x).p.length=x.2.length:=by simp[iw]
  rw[h2];omega
theorem acB{L:List Sq}{p:List Tm}{K E n:Nat}(hG:∀x∈L,uc K E n x/\0<x.1)(hs:jS L=p)(hv:qi p)(IQ:PB (2^33) (2^31) p)(hL:L.length<=1000)(hn:n<=1000)(hE:E+E<=1048576)(hK:(n*(K+K)+K)*(L.length+1)<=2^32)(zc:K<2^36)(zb:1<=K)(hl:n*n*L.length<=4000):
  Qd Tryz.prog 41 [PV.aL p,PV.cY L] (· = .int .i64 0):=by
 have Ee:=fun x hx=>(hG x hx).1;have ET:PV.cY L= .sl 4 ((L.map iw).map PV.wc):=by rw[KbH];exact congrArg _ (KaJ fun x _=>(ahG x).symm)
 have vJ:(L.map iw).map mW.sq=L:=by rw[KbH];have:(mW.sq∘iw)=id:=funext ahb;rw[this,List.map_id]
 have zy:∀i,i<L.length->tN (jS (L.take (i+1)))=false:=fun i hi=>by obtain⟨a1,a2,_⟩:=yB Ee (i+1) Oz;have:n*n*(i+1)<=n*n*L.length:=KaE _ Oz;exact Q7u a1 Oz Oz
 have lN:=PS zy L.length 0 Oz;rw[Ka0,show jS (L.take 0)=[]from rfl,hs]at lN;have hf:sC (L.map iw)=0:=by
  clear vJ ET zy lN hs hK hL hl Ee;induction L with
  |nil=>rfl
  |cons x L ih=>rw[Kba];unfold sC;rw[alL (hG x (by simp)).1 Oz (hG x (by simp)).2,if_pos rfl];exact ih fun y hy=>hG y (Ka1 _ hy)
 have kE:yQ (L.map iw)=(p,0):=by unfold yQ;rw[if_pos hf,vJ,lN];rfl
 have asI:Qd Tryz.prog 36 [.sl 4 ((L.map iw).map PV.wc)] (· =PV.wa (p,0)):=by
  rw[<-kE];refine akS (k:=K) (fun s hs=>?_) zb zc (by rw[Kal];omega) fun _=>?_
  ·obtain⟨x,hx,rfl⟩:=Kaq.1 hs;exact alM (Ee x hx) Oz
  ·rw[<-ET,vJ];exact anY Ee hL hn Oz hK
 have aV:p.length<=n*n*L.length:=by obtain⟨_,a2,_⟩:=yB Ee _ (Kae _);rw[Kaz,hs]at a2;exact a2
 have e2:(p.map eM).map aP.tm=p:=by rw[KbH];have:(aP.tm∘eM)=id:=funext fun t=>TC t;rw[this,List.map_id]
 have h:=aeU (p:=p.map eM) (r:=(p,0)) (k:=2^33) (K:=2^33) (E:=2^31) asI (fun t ht=>by obtain⟨s,hs,rfl⟩:=Kaq.1 ht;have:=(IQ s hs).c;exact yH Oz (by have:=(IQ s hs).m.len;omega)) (by rw[Kal];omega) Oz Oz IQ (by show p.length<=_;omega) (fun _=>by rw[e2];exact IQ) Oz Oz;rw[yu,<-ET]at h;have hz:F4 (p.map eM) (p,0)=0:=by unfold F4;rw[if_neg (show ¬(0:Int)≠0 by decide),if_pos ⟨C7 hv,e2⟩]
 rwa[hz]at h
theorem ahc{vs:List Rat}{v:Nat}:kG vs (bQ v 1)=vs.getD v 0:=by
 have hl:(bQ v 1).length=v+1:=by simp[bQ]
 have hz:∀n,n<=v->eT vs (bQ v 1) n=1:=fun n=>by
  induction n with
  |zero=>intro _;rfl
  |succ n ih=>intro hn;show eT vs (bQ v 1) n*cI _ (eN (bQ v 1) n).toNat=1;rw[ih Oz,HE,if_neg Oz];show 1*cI _ 0=1;rw[CN];grind
 unfold kG;rw[hl];show eT vs (bQ v 1) v*cI (vs.getD v 0) (eN (bQ v 1) v).toNat=_;rw[hz v (Kae _),HE,if_pos rfl];show 1*(cI _ 0*_)=_;rw[CN];grind
def xb(x:List Rat)(n i:Nat):Rat:=if i<n then x.getD i 0 else 1
theorem Ks{p:List Tm}{i:Nat}(hi:i<(Qp p).length):(aF p).getD i []=bQ (Qp p)[i] 1:=by unfold aF;rw[Kad,KbD (by rw[Kal];exact hi),Kas,Kag hi];rfl
theorem FQ{p:List Tm}{x:List Rat}:∀i,i<=(Qp p).length->(∀h:0<i,∃h2:i-1<(Qp p).length,(cj (aF p) x i).length=(Qp p)[i-1]+1)/\(i=0->(cj (aF p) x i).length=0)/\∀j (h:j<(Qp p).length),j<i->(cj (aF p) x i).getD (Qp p)[j] 0=x.getD j 0
 |0,_=>⟨fun h=>by omega,fun _=>rfl,fun j _ h=>by omega⟩
 | i +1,hi=>by
  obtain⟨h1,h2,h3⟩:=FQ (p:=p) (x:=x) i Oz;have hs:=Gx p;have aw:(cj (aF p) x i).length<=(Qp p)[i]:=by
   by_cases e:i=0
   ·rw[h2 e];omega
   ·obtain⟨g1,g2⟩:=h1 Oz;have:=KbE.1 hs (i-1) i g1 Oz Oz;omega
  have hb:((aF p).getD i []).length-1=(Qp p)[i]:=by rw[Ks Oz];simp[bQ]
  have hlen:(cj (aF p) x i++List.replicate (((aF p).getD i []).length-1-(cj (aF p) x i).length) 0).length=(Qp p)[i]:=by rw[Kay,List.length_replicate,hb];omega
  refine⟨fun _=>⟨by omega,?_⟩,fun h=>by omega,fun j hj im=>?_⟩
  ·show(cj (aF p) x i++List.replicate (((aF p).getD i []).length-1-(cj (aF p) x i).length) 0++[x.getD i 0]).length=_;rw[Kay,hlen];rfl
  ·show(cj (aF p) x i++List.replicate (((aF p).getD i []).length-1-(cj (aF p) x i).length) 0++[x.getD i 0]).getD (Qp p)[j] 0=_;rw[Kad];by_cases e:j=i
   ·subst e;rw[KbX Oz,hlen,KbA];rfl
   ·have zs:(Qp p)[j]<(cj (aF p) x i).length:=by
     obtain⟨g1,g2⟩:=h1 Oz;rw[g2];rcases Kcz j (i-1)with h|h
     ·have:=KbE.1 hs j (i-1) hj g1 h;omega
     ·have:j=i-1:=by omega
      subst this;omega
    rw[Kbt,KbD zs,<-List.getD_eq_getElem?_getD];exact h3 j hj Oz
theorem FR{bs:List (List Int)}{x:List Rat}{W:Nat}(hx:∀q∈x,rs q<=W)(hW:1<=W):∀i,∀q∈cj bs x i,rs q<=W
 |0,q,hq=>by cases hq
 | i+1,q,hq=>by
  have:=sN;rcases KaL.1 hq with hq|hq
  ·rcases KaL.1 hq with hq|hq
   ·exact FR hx hW i q hq
   ·rw[(Kc9.1 hq).2];omega
  ·rw[Kau.1 hq,Kad];cases h:x[i]? with
   |none=>show rs 0<=W;omega
   |some q=>exact hx q (Kai h)
theorem Dx{p:List Tm}{x:List Rat}{E:Nat}(hm:∀t∈p,MB E t.2)(hn:bB p)(hd:jz p<=2):
  iy (cj (aF p) x ((aF p).length-1)) p=gT (fun i k=>tT p (aF p) i k*(xb x (Qp p).length i*xb x (Qp p).length k)) (aF p).length/\qJ (cj (aF p) x ((aF p).length-1)) p=false:=by
 have hl:(aF p).length=(Qp p).length+1:=by simp[aF]
 rw[show(aF p).length-1=(Qp p).length by omega];obtain⟨h1,h2,h3⟩:=FQ (p:=p) (x:=x) (Qp p).length (Kae _);refine⟨?_,?_⟩
 ·unfold iy;rw[<-Rx (kG (cj (aF p) x (Qp p).length)) hm hn hd];have hv:∀i,i<(aF p).length->MB 1 (cJ (Qp p) i)/\kG (cj (aF p) x (Qp p).length) (cJ (Qp p) i)=xb x (Qp p).length i:=fun i hi=>by
   unfold xb;by_cases h:i<(Qp p).length
   ·rw[<-Dw,Ks h,if_pos h,ahc];exact⟨Jo (Ds (Kah h)),h3 i h h⟩
   ·obtain rfl:i=(Qp p).length:=by omega
    have e:cJ (Qp p) (Qp p).length=[]:=by unfold cJ;rw[Kad,KbX (by simp)];simp
    rw[if_neg h,e];exact⟨⟨by simp,by simp,by simp⟩,rfl⟩
  refine ru fun i hi k hk=>?_;rw[ajy (hv i hi).1 (hv k hk).1,(hv i hi).2,(hv k hk).2]
 ·unfold qJ;rw[KbU];intro t ht;have hle:t.2.length<=(cj (aF p) x (Qp p).length).length:=by
   by_cases e:t.2.length=0
   ·omega
   ·have gK:eN t.2 (t.2.length-1)≠0:=fun h=>by have hc:=hn.c t ht;rw[fY Oz]at h;refine hc ?_;rw[Kbn,Kag Oz,h]
    have dB:t.2.length-1∈Qp p:=List.mem_filter.2 ⟨Kbo.2 (by have:=(hm t ht).len;omega),Ka6.2 ⟨t,ht,decide_eq_true gK⟩⟩;obtain⟨j,hj,ej⟩:=KaV dB;obtain⟨g1,g2⟩:=h1 Oz;rw[g2];rcases Kcz j ((Qp p).length-1)with h|h
    ·have:=KbE.1 (Gx p) j _ hj g1 h;omega
    ·have:j=(Qp p).length-1:=by omega
     subst this;omega
  simp;omega
theorem RA{M:MF}{z:Nat->Rat}{R:Nat}:pn M z R R=gT (fun i k=>M i k*(z i*z k)) R:=by
 have hd:∀i w,z i*Qw (M i) z w=sm (fun k=>M i k*(z i*z k)) w:=fun i w=>by
  induction w with
  |zero=>show z i*0=0;grind
  |succ w ih=>show z i*(Qw (M i) z w+M i w*z w)=sm _ w+_;rw[<-ih];grind
 have h:∀n,pn M z R n=sm (fun i=>sm (fun k=>M i k*(z i*z k)) R) n:=fun n=>by
  induction n with
  |zero=>rfl
  |succ n ih=>show pn M z R n+z n*Qw (M n) z R=sm _ n+_;rw[ih,hd]
 exact h R
theorem adR{M:MF}{z:Nat->Rat}{R:Nat}{c:Rat}:gT (fun i k=>M i k*(c*z i*(c*z k))) R=c*c*gT (fun i k=>M i k*(z i*z k)) R:=by rw[<-Dv];exact ru fun i _ k _=>by grind
theorem Kc{x y:Nat->Rat}:∀n,Qw x y n=sm (fun k=>x k*y k) n
 |0=>rfl
 |n+1=>by show Qw x y n+_=sm _ n+_;rw[Kc n]
theorem afd{M:MF}{y:Nat->Rat}{n:Nat}{t:Rat}(hs:Sym (n+1) M)(hy:y n=0):
  gT (fun i k=>M i k*((if i<n then t*y i else 1)*(if k<n then t*y k else 1))) (n+1)=t*t*pn M y (n+1) (n+1)+t*(2*Qw (M n) y (n+1))+M n n:=by
 have he:∀i,i<n+1->(if i<n then t*y i else 1)=t*y i+if i=n then 1 else 0:=fun i hi=>by
  by_cases h:i<n
  ·rw[if_pos h,if_neg Oz];grind
  ·obtain rfl:i=n:=by omega
   rw[if_neg h,if_pos rfl,hy];grind
 have h1:gT (fun i k=>M i k*((if i=n then 1 else 0)*y k)) (n+1)=Qw (M n) y (n+1):=by unfold gT;rw[DI (a:=n) (n+1) Oz fun i hi aJ=>AQ _ fun k _=>by rw[if_neg aJ];grind,Kc];exact uT _ fun k _=>by rw[if_pos rfl];grind
 have h2:gT (fun i k=>M i k*(y i*(if k=n then 1 else 0))) (n+1)=Qw (M n) y (n+1):=by unfold gT;rw[Kc];refine uT _ fun i hi=>?_;show sm (fun k=>M i k*(y i*(if k=n then 1 else 0))) (n+1)=M n i*y i;rw[DI (a:=n) (n+1) Oz fun k hk aJ=>by rw[if_neg aJ];grind,if_pos rfl,hs i hi n Oz];grind
 have h3:gT (fun i k=>M i k*((if i=n then 1 else 0)*(if k=n then 1 else 0))) (n+1)=M n n:=by
  rw[ru (h:=fun i k=>if i=n/\k=n then M n n else 0) fun i _ k _=>?_,HQ Oz Oz];by_cases e:i=n
  ·by_cases e2:k=n
   ·rw[if_pos e,if_pos e2,if_pos ⟨e,e2⟩,e,e2];grind
   ·rw[if_neg e2,if_neg (show ¬(i=n/\k=n)from fun h=>e2 h.2)];grind
  ·rw[if_neg e,if_neg (show ¬(i=n/\k=n)from fun h=>e h.1)];grind
 rw[ru (h:=fun i k=>t*t*(M i k*(y i*y k))+(t*(M i k*(y i*(if k=n then 1 else 0)))+(t*(M i k*((if i=n then 1 else 0)*y k))+M i k*((if i=n then 1 else 0)*(if k=n then 1 else 0))))) fun i hi k hk=>by rw[he i hi,he k hk];grind];rw[AR,AR,AR,Dv,Dv,Dv,h1,h2,h3,RA];grind
theorem alN{q b c:Rat}(hq:q<0):((if b<0 then -b else b)+(if c<0 then -c else c))/(if q<0 then -q else q) ≥ 0/\∀n:Rat,n=((if b<0 then -b else b)+(if c<0 then -c else c))/(if q<0 then -q else q)->(n+1)*(n+1)*q+(n+1)*b+c<0:=by
 obtain⟨B,hB⟩:∃B,(if b<0 then -b else b)=B:=⟨_,rfl⟩
 obtain⟨G,hG⟩:∃G,(if c<0 then -c else c)=G:=⟨_,rfl⟩
 have b1:0<=B/\b<=B:=by rw[<-hB];split<;>constructor<;>grind
 have g1:0<=G/\c<=G:=by rw[<-hG];split<;>constructor<;>grind
 rw[hB,hG,if_pos hq];have jo:0< -q:=by grind
 have lQ:0<=(B+G)/ -q:=by rw[Kbr];exact KbG (by grind) (Rat.le_of_lt (Rat.inv_pos.2 jo))
 refine⟨lQ,fun n hn=>?_⟩;have hm:n* -q=B+G:=by rw[hn,Kbr,Kdl,Kb1 _ (by grind),Rat.mul_one]
 rw[<-hn]at lQ;have h1:(n+1)*b<=(n+1)*B:=Kb7 b1.2 (by grind);have h2:0<=n*G:=KbG lQ g1.1;have h3:0<=n* -q:=KbG lQ (by grind);have h4:(n+1)*(n+1)*q= -((n+1)*B)-n*G-G-n* -q+q:=by grind
 clear hm hn hB hG;rw[h4];have h5:=b1.2;have h6:=g1.2;generalize(n+1)*b=u1 at *
 generalize(n+1)*B=u2 at *
 generalize n*G=u3 at *
 generalize n* -q=u4 at *
 grind
def apT:ay:=⟨11,[.t 2],Zr (YE 2)<|Zr (Zm 4 0<|
 Zk 5 .add 4 1<|
 Zo (.mk 6 1 8 3 (Zz 0) (.t 5) (.t 5))<|
 Zm 3 6 .nil)<|Zr (Ya 7 3 0<|
 Zi 9 1 7 8<|
 Zo (.st 1 (.t 9) (.c (Zz 1))) .nil)<|Zr (jC 10 3 2) .ret⟩
theorem alO:Qe Tryz.prog Tryz.f141=some apT:=by kernel_rfl
def WR:ay:=⟨25,[.t 2],Zr (YE 2)<|Zr (YE 3)<|Zr (YD 6 0 20<|
 Zm 4 7 .nil)<| .seq (Zr (Yj 5 0)<| .block 0<| .loop<| .seq (Zr (Yo 8 5 4)<| .cond (.t 11) .skip (.exit 0))<| .seq (.block 1<| .rg (YY 14 3 4 5<|
 YM 17 15 16<|
 Yl 19 141 18<|
 Zo (.bs 20 1 93 [.t 19])<|
 Zo (.app 21 1 24 93 (.t 14) (.t 20))<|
 Ye 3 21))<| .rg (fR 12 5))<|Zr (Zm 22 3<|
 Zo (.bs 23 1 93 [.c .au])<|
 Zo (.app 24 1 24 93 (.t 22) (.t 23))<|
 .wk<|Ye 2 24) .ret⟩
theorem aot:Qe Tryz.prog Tryz.f77=some WR.strip:=by kernel_rfl
def WS:ay:=⟨70,[.cell 4 3 true],Zr (YL 4 .nil)<|Zr (Yp 10 1<|
 Yp 12 1<|
 Zo (.eB 14 [Zz 0,Zz 0,.au] [(0,1,.t 11),(1,1,.t 13)])<|
 YL 5<|
 .wk<| .wk<|Zs 3 5 14<|
 .wk .nil)<| .seq (Zr (Yj 6 0)<| .block 0<| .loop<| .seq (Zr (Yo 15 6 1)<| .cond (.t 18) .skip (.exit 0))<| .seq (.block 1<|Zr (Yj 7 0)<| .block 2<| .loop<| .seq (Zr (Yo 21 7 1)<| .cond (.t 24) .skip (.exit 2))<| .seq (.block 3<|Zr (iA 27 50 0<|
 fu 8 27 .nil)<| .seq (Zr (Yj 9 0)<| .block 4<| .loop<| .seq (Zr (Yo 28 9 0)<| .cond (.t 31) .skip (.exit 4))<| .seq (.block 5<|Zr (nI 34 0 9<|
 Ym 39 1 6<|
 Ym 43 1 7<|
 Yr 47 98 42 46<|
 Yr 48 142 38 47 .nil)<| .cond (.t 48) (.rg (sS 49 0 9<|
 Zs 3 8 53 .nil)) .skip)<| .rg (YX 32 9 9))<| .seq (Zr (Ya 54 6 7<|
 jU 56 54 55)<| .cond (.t 56) (.rg (Zh 58 3 8<|
 Zq 59 true 50 [.c (Zz 2)]<|
 Yr 60 143 58 59<|
 gy 57<|
 Zs 3 8 61 .nil)) .skip)<| .rg (Yi 63 2 5<|
 Zh 65 3 8<|
 Zo (.bs 66 3 51 [.t 65])<|
 mo 67 3 56 51 64 66<|
 Zf 68 2 5<|
 Zs 1 68 67 .nil))<| .rg (YX 25 7 7))<| .rg (YX 19 6 6))<|Zr (Zh 69 3 5<|
 .wk<|jE 3 69) .ret⟩
theorem aou:Qe Tryz.prog Tryz.f78=some WS.strip:=by kernel_rfl
theorem alP{v:Nat}(hv:v<64):Qd Tryz.prog 141 [.int .i64 (v:Nat)] (· =PV.mono (bQ v 1)):=by
 have ka:(List.replicate (v+1) (0:Int)).set v 1=bQ v 1:=L6 v 1 rfl;have ES:v<(List.replicate (v+1) (0:Int)).length:=by simp
 have dF:List.take (v+1) (nC (bQ v 1))=nC (bQ v 1):=Kac (by simp[bQ]);refine aE Qg Tryz.func141 alO fun C hP=>?_;refine Sz1 ka ?_;exact Da rfl (congrArg (PV.sl 1) dF)
theorem LZ{p:List Tm}{E:Nat}(hp:∀t∈p,MB E t.2)(cW:p.length<=2^36):Qd Tryz.prog 77 [PV.aL p] (· =PV.fK (aF p)):=by
 have hv:=Gg hp cW;rw[Cq]at hv;have jm:=AL p;have aw:∀v∈Qp p,v<64:=fun v h=>Ds h;unfold aF;generalize Qp p=V at *
 have Ep:(V.map fun(v:Nat)=>(v:Int)).length=V.length:=Kal _;have Eo:∀i (hi:i<V.length) (dZ:i<(V.map fun(v:Nat)=>(v:Int)).length),(V.map fun(v:Nat)=>(v:Int))[i]=(V[i]:Int):=fun i hi dZ=>Ka8 ..;generalize V.map (fun(v:Nat)=>(v:Int))=W at *
 refine o8 Qg Tryz.func77 rfl aot Nz fun C hP=>?_;simp only[WR];refine fw ?_;refine Sz0 ?_;refine Qb hP hv ?_;refine Sz0 ?_;refine fW 3 900 1 93 Oz Tz0 ?_;refine Qi okB [(3,3),(5,5),(8,21)] [20,21,900] (fun q J hp=>∃i,q=V.length-i/\i<=V.length/\J 3= .ms 900 i/\J 5= .int .i64 (i:Nat)/\hp 900=some ⟨1,93,((V.take i).map fun v=>bQ v 1).map PV.mono,false⟩) V.length ?_ ?_
 ·refine⟨0,rfl,by omega,?_⟩;refine Sz0 ?_;rfl
 rintro _ J h' ⟨i,rfl,hi,j3,eI,b9⟩;refine Sz1 eI ?_;refine Qa (fun hg=>?_) (fun hg=>?_)
 ·have al:i<V.length:=by omega
  have XV:=aw _ (Kah al);have uB:=Eo i al Oz;have aT:(V.take (i+1)).map (fun v=>bQ v 1)=(V.take i).map (fun v=>bQ v 1)++[bQ V[i] 1]:=by rw[Kak al,Ka9];rfl
  have ik:((V.take i).map fun v=>bQ v 1).length=i:=by rw[Kal,KaF];omega
  generalize(V.take i).map (fun v=>bQ v 1)=T at *
  generalize hx:V[i]=v at *
  have h1:=alP XV;refine Sz3 eI uB j3 ?_;refine Qb hP h1 ?_;refine Sz3 eI j3 b9 ?_;rw[Qr (f:=PV.mono) (y:=bQ v 1) (xs:=T) (ty':=93) (fz:=false) (Tz1 b9) cE Oz ik.symm Oz Oz];refine Sz1 eI ?_;refine Qf (V.length-(i+1)) Oz ⟨i+1,rfl,by omega,?_⟩;rw[aT];exact Tz0
 ·obtain rfl:i=V.length:=by omega
  rw[Kaz]at b9;have kZ:((V.map fun v=>bQ v 1).map PV.mono).length=V.length:=by simp
  have Nb:Ml (V.map fun v=>bQ v 1):=UK _;have dF:List.take (V.length+1) ((V.map (fun v=>bQ v 1)++[[]]).map PV.mono)=(V.map (fun v=>bQ v 1)++[[]]).map PV.mono:=Kac (by simp);generalize V.map (fun v=>bQ v 1)=T at *
  refine Sz2 j3 b9 ?_;rw[CZ (y:=.au) (xs:=T.map PV.mono) (ty':=93) (fz:=false) (Tz1 b9) Tz0 Oz Oz Oz Oz];refine Sz0 ?_;refine di (Nb _ _ 93 Tz0) ?_;refine ij ?_;refine JE (Wk.refl _ _) ?_;refine lG dF ?_;exact Qc rfl rfl
def vu(p:List Tm)(m:List Int):Nat->Rat
 |0=>0
 |n+1=>if(p.getD n (0,[])).2=m then(p.getD n (0,[])).1 else vu p m n
theorem alQ{m:List Int}(hm:m.getLast? ≠some 0){p:List Tm}(hn:bB p):vu p m p.length=jO p m:=by
 have key:∀n,n<=p.length->((∃t∈p.take n,t.2=m/\vu p m n=t.1)∨((∀t∈p.take n,t.2≠m)/\vu p m n=0)):=fun n=>by
  induction n with
  |zero=>exact fun _=>.inr ⟨by simp,rfl⟩
  | succ n ih=>
   intro h;have hg:p.getD n (0,[])=p[n]:=by rw[Kad,Kag Oz];rfl
   have ht:p.take (n+1)=p.take n++[p[n]]:=Kak Oz;unfold vu;rw[hg,ht];by_cases e:p[n].2=m
   ·rw[if_pos e];exact .inl ⟨p[n],KbI _ (Kau.2 rfl),e,rfl⟩
   ·rw[if_neg e];rcases ih Oz with⟨t,h1,h2,h3⟩|⟨h1,h2⟩
    ·exact .inl ⟨t,Kcn _ h1,h2,h3⟩
    ·refine .inr ⟨fun t h=>?_,h2⟩;rcases KaL.1 h with h|h
     ·exact h1 t h
     ·rw[Kau.1 h];exact e
 have cU:∀ {p:List Tm},bB p->(∀t∈p,t.2=m->jO p m=t.1)/\((∀t∈p,t.2≠m)->jO p m=0):=fun {p}=>by
  induction p with
  |nil=>exact fun _=>⟨(fun t h=>by cases h),fun _=>rfl⟩
  | cons s p ih=>
   intro h;obtain⟨i1,i2⟩:=ih h.tail;have hs:=(Can.cons.1 h.c).1;refine⟨fun t ht e=>?_,fun lg=>?_⟩
   ·unfold jO;rcases KaG.1 ht with rfl|ht
    ·rw[if_pos ((wM hs hm).2 e)]
    ·have:=h.s.1 t ht;rw[if_neg fun h0=>?_]
     ·exact i1 t ht e
     ·rw[(wM hs hm).1 h0,<-e,CH]at this;omega
   ·unfold jO;rw[if_neg fun h0=>lg s (by simp) ((wM hs hm).1 h0)];exact i2 fun t ht=>lg t (Ka1 _ ht)
 obtain⟨a1,a2⟩:=cU hn;rcases key p.length (Kae _)with⟨t,h1,h2,h3⟩|⟨h1,h2⟩
 ·rw[Kaz]at h1;rw[h3,a1 t h1 h2]
 ·rw[Kaz]at h1;rw[h2,a2 h1]
theorem OG{p:List Tm}{bs:List (List Int)}{K E F:Nat}(hp:PB K E p)(hn:bB p)(hb:∀b∈bs,MB F b)(dU:∀b∈bs,b.getLast? ≠some 0)(hF:F<=1000)(hE:E<=2^29)(cW:p.length<=2^30)(m7:bs.length<=1000)(hK:K<=2^30)(zb:1<=K):
  Qd Tryz.prog 78 [PV.aL p,PV.fK bs] (· =PV.a9 bs.length bs.length (eR p bs)):=by
 have hz:([.agg [.int .i64 0,.int .i64 0,.au]]:List PV)≠[]:=by simp
 have uC:∀x∈([.agg [.int .i64 0,.int .i64 0,.au]]:List PV),x.aS=x.cells:=fun x hx=>by rw[Kau.1 hx];rfl
 have EY:bs.length*bs.length<=1000*1000:=KaQ m7 m7;have qV:=qn (x:=0) Oz Oz;rw[show((0:Int):Rat)=0 from rfl]at qV;refine o8 Qg Tryz.func78 rfl aou Nz fun C hP=>?_;simp only[WS];refine fw ?_;refine Sz0 ?_;refine di (mP 5 2000001 cE Oz rfl Oz) ?_;refine Sz0 ?_;refine di (va (γ:=2000001) (e:=3) (ty:=24) (fz:=false) Tz0 hz Oz uC) ?_;refine Sz0 ?_;refine di (CU (γ:=2000001) (e:=3) (ty:=24) (cs:=[.int .i64 (bs.length:Nat),.int .i64 (bs.length:Nat),.au]) (cs':=[.int .i64 (bs.length:Nat),.int .i64 (bs.length:Nat),.aB 2000002 0 0]) 2000002 3 51 Tz0 cE Oz Oz rfl (by simp)) ?_;refine Sz0 ?_;refine eO okB [(5,9),(15,68),(2000001,2000001)] [8,66,67] (fun q J hp=>∃i,q=bs.length-i/\i<=bs.length/\J 5= .np 2000001 0 0/\J 6= .int .i64 (i:Nat)/\J 2000001= .aC 2000001 3 24 [yU bs.length (i*bs.length)]/\
  hp 4=some ⟨3,24,[.agg [.int .i64 0,.int .i64 0,.au]],false⟩/\hp 2000001=some ⟨3,24,[],false⟩/\hp 2000002=some ⟨3,51,((List.range (i*bs.length)).map (kO p bs)).map PV.rat,false⟩) bs.length ?_ ?_
 ·refine⟨0,rfl,by omega,?_⟩;refine Sz1 @Nat.zero_mul ?_;exact⟨rfl,rfl⟩
 rintro _ J h ⟨i,rfl,hi,j5,j6,jb,b4,hb1,hx⟩;refine Sz1 j6 ?_;refine Qa (fun hc=>?_) (fun hc=>?_)
 ·have al:i<bs.length:=by omega
  have BE:i*bs.length+bs.length<=bs.length*bs.length:=by have:=Kaj bs.length al;rw[Kca]at this;exact this
  refine Sz6 j5 j6 jb b4 hb1 hx ?_;refine eO okB [(5,5),(7,9),(21,68),(2000001,2000001)] [8,66,67] (fun q J hp=>∃k,q=bs.length-k/\k<=bs.length/\J 5= .np 2000001 0 0/\J 7= .int .i64 (k:Nat)/\J 2000001= .aC 2000001 3 24 [yU bs.length (i*bs.length+k)]/\
   hp 4=some ⟨3,24,[.agg [.int .i64 0,.int .i64 0,.au]],false⟩/\hp 2000001=some ⟨3,24,[],false⟩/\hp 2000002=some ⟨3,51,((List.range (i*bs.length+k)).map (kO p bs)).map PV.rat,false⟩) bs.length ?_ ?_
  ·refine⟨0,rfl,by omega,?_⟩;refine Sz5 j5 jb b4 hb1 hx ?_;rfl
  rintro _ J2 g ⟨k,rfl,hk,i5,i7,ib,g4,gb,gx⟩;refine Sz1 i7 ?_;refine Qa (fun m8=>?_) (fun m8=>?_)
  ·have bI:k<bs.length:=by omega
   have vK:=Hp (p:=p) (i:=i) bI;have m1:=hb _ (Kah al);have m2:=hb _ (Kah bI);have t1:=dU _ (Kah al);have t2:=dU _ (Kah bI);have e1:bs.getD i []=bs[i]:=by simp[al]
   have e2:bs.getD k []=bs[k]:=by simp[bI]
   unfold tT at vK;rw[e1,e2]at vK;have xu:((List.range (i*bs.length+k)).map (kO p bs)).length=i*bs.length+k:=by simp
   have kF:(List.range (i*bs.length+(k+1))).map (kO p bs)=(List.range (i*bs.length+k)).map (kO p bs)++[kO p bs (i*bs.length+k)]:=by rw[<-Nat.add_assoc,Kck,Ka9];rfl
   rw[vK]at kF;have BH:=Vr m1 m2 Oz;rw[Pz m1 m2 t1 t2]at BH;have xI:=m1.mul m2;have kZ:=xI.len;have hmt:=ry bs[i] bs[k];generalize(List.range (i*bs.length+k)).map (kO p bs)=T at *
   generalize iv:bs[i]=x1 at *
   generalize gQ:bs[k]=x2 at *
   generalize bF x1 x2=y at *
   have aa:=alQ hmt hn;have dt:=Mm (m:=y) hp zb;generalize lJ:jO p y=c at *
   have vS:=qn (x:=2) Oz Oz;have iE:rs ((2:Int):Rat)<=1:=by decide+kernel
   have oI:=Hl (a:=c) (b:=((2:Int):Rat)) (k:=K+1) Oz Oz Oz (by decide+kernel);rw[show((2:Int):Rat)=2 from rfl]at vS oI;refine Sz9 i5 i7 ib g4 gb gx j6 iv gQ ?_;refine Qb hP qV ?_;refine Sz9 i5 i7 ib g4 gb gx j6 iv gQ ?_;refine eO okB [(5,5),(9,9),(28,53),(2000001,2000001)] [] (fun q J hp=>∃n,q=p.length-n/\n<=p.length/\J 5= .np 2000001 0 0/\J 9= .int .i64 (n:Nat)/\J 2000001= .aC 2000001 3 24 [yU bs.length (i*bs.length+k)]/\
    hp 4=some ⟨3,24,[.agg [.int .i64 0,.int .i64 0,.au]],false⟩/\hp 8=some ⟨3,51,[PV.rat (vu p y n)],false⟩/\hp 2000001=some ⟨3,24,[],false⟩/\hp 2000002=some ⟨3,51,T.map PV.rat,false⟩) p.length ?_ ?_
   ·refine⟨0,rfl,by omega,?_⟩;refine Sz5 i5 ib g4 gb gx ?_;exact⟨rfl,rfl⟩
   rintro _ J3 u ⟨n,rfl,XY,k5,k9,kb,u4,u8,u1,ux⟩;refine Sz1 k9 ?_;refine Qa (fun nV=>?_) (fun nV=>?_)
   ·have oK:n<p.length:=by omega
    have htm:=hp _ (Kah oK);have lK:vu p y (n+1)=if(p[n]).2=y then(p[n]).1 else vu p y n:=by show(if(p.getD n (0,[])).2=y then(p.getD n (0,[])).1 else vu p y n)=_;rw[Kad,Kag oK];rfl
    have qY:=htm.m.len;generalize vZ:p[n]=t at *
    have kD:=Q75 (a:=t.2) (b:=y) Oz Oz;refine Sz12 k5 k9 kb u4 u8 u1 ux j6 i7 vZ iv gQ ?_;refine Qb hP BH ?_;refine Sz8 k5 k9 kb u4 u8 u1 ux vZ ?_;refine Qb hP kD ?_;refine Sz8 k5 k9 kb u4 u8 u1 ux vZ ?_;by_cases he:t.2=y
    ·rw[decide_eq_true he];rw[if_pos he]at lK;refine Sz8 k5 k9 kb u4 u8 u1 ux vZ ?_;refine de (p.length-(n+1)) Oz ⟨n+1,rfl,by omega,?_⟩;rw[lK];exact Tz5 k5 kb u4 u1 ux
    ·rw[decide_eq_false he];rw[if_neg he]at lK;refine Sz7 k5 k9 kb u4 u8 u1 ux ?_;refine de (p.length-(n+1)) Oz ⟨n+1,rfl,by omega,?_⟩;rw[lK];exact Tz6 k5 kb u4 u8 u1 ux
   ·obtain rfl:n=p.length:=by omega
    rw[aa]at u8;refine Sz9 k5 k9 kb u4 u8 u1 ux j6 i7 ?_;rw[kk (by decide)];refine Qa (fun aJ=>?_) (fun heq=>?_)
    ·rw[if_neg Oz]at kF;refine Sz6 k5 kb u4 u8 u1 ux ?_;refine Qb hP vS ?_;refine Sz6 k5 kb u4 u8 u1 ux ?_;refine Qb hP oI ?_;generalize c/2=z at *
     refine Sz6 k5 kb u4 u8 u1 ux ?_;rw[An (f:=PV.rat) (y:=z) (xs:=T) (ty':=51) (fz:=false) (Tz1 ux) Tz0 Oz xu.symm Oz Oz Oz];refine Sz7 k5 kb u4 u8 u1 ux i7 ?_;refine de (bs.length-(k+1)) Oz ⟨k+1,rfl,by omega,?_⟩;rw[kF];refine Sz4 k5 kb u4 u1 ?_;rfl
    ·rw[if_pos Oz]at kF;refine Sz7 k5 kb u4 u8 u1 ux i7 ?_;rw[An (f:=PV.rat) (y:=c) (xs:=T) (ty':=51) (fz:=false) (Tz1 ux) Tz0 Oz xu.symm Oz Oz Oz];refine Sz7 k5 kb u4 u8 u1 ux i7 ?_;refine de (bs.length-(k+1)) Oz ⟨k+1,rfl,by omega,?_⟩;rw[kF];refine Sz4 k5 kb u4 u1 ?_;rfl
  ·have pP:k=bs.length:=by omega
   subst pP;refine Sz1 j6 ?_;simp (disch:=decide) only[kk,lY,dS,lX];refine de (bs.length-(i+1)) Oz ⟨i+1,rfl,by omega,?_⟩;rw[show(i+1)*bs.length=i*bs.length+bs.length from Kca _ _];exact Tz5 i5 ib g4 gb gx
 ·obtain rfl:i=bs.length:=by omega
  rw[show(List.range (bs.length*bs.length)).map (kO p bs)=eR p bs from rfl]at hx;have xD:=yp p bs;refine Sz5 j5 jb b4 hb1 hx ?_;refine AN 69 2 [2000002] (p:=yU bs.length (bs.length*bs.length)) Tz0 (D:=PV.a9 bs.length bs.length (eR p bs)) ?_ ?_ rfl ?_
  ·intro c hc;simp only[KaG,KbT,or_false]at hc;rcases hc with rfl|rfl|rfl
   ·trivial
   ·trivial
   ·simp only[od,aR];simp
  ·show PV.agg [_,_,eC _ h 2 (.aB 2000002 0 _)]=_;simp only[eC,hx,Ka0];rw[Kac (by rw[Kal];omega)]
  refine DQ j5 jb b4 hb1 hx ?_;refine qt (cr ?_);refine lG b4 ?_;exact Qc rfl rfl
theorem Q5f(n:Nat):∀(a:Rat),rs a*n<=2^32->n<=2^40->Qd Tryz.prog 86 [PV.rat a,.int .i64 n] (· =PV.rat (cI a n)):=by
 have h1:=mT;have lH:((1:Int):Rat)=1:=rfl;induction n using Nat.strongRecOn with
 | ind n ih=>
  intro a hB hn;have e2:(2:Int)=((2:Nat):Int):=rfl;have pX:∀d fr hp K,cu .rem false (.int .i64 (n:Int)) (.int .i64 2) d fr hp K=K (af fr d (.int .i64 ((n%2:Nat):Int))) hp:=fun d fr hp K=>by rw[e2,rD Oz]
  have pW:∀d fr hp K,cu .quo false (.int .i64 (n:Int)) (.int .i64 2) d fr hp K=K (af fr d (.int .i64 ((n/2:Nat):Int))) hp:=fun d fr hp K=>by rw[e2,Dh Oz Oz]
  refine aE Qg Tryz.func86 anq fun C hP=>?_;refine Sz0 ?_;refine Qa (fun h0=>?_) (fun h0=>?_)
  ·obtain rfl:n=0:=by omega
   refine Sz0 ?_;refine Qb hP (qn (x:=1) Oz Oz) ?_;refine Sz0 ?_;refine cr ?_;refine Sz0 ?_;exact Qc rfl rfl
  have ha:rs a<=rs a*n:=KaZ _ Oz;have xI:=fD a a;have nQ:rs (a*a)*(n/2)<=rs a*(2*(n/2)):=by rw[<-Nat.mul_assoc];exact Kaj _ Oz
  have IB:rs a*(2*(n/2))<=rs a*n:=KaE _ Oz;have EZ:=Dp (a*a) (n/2);refine Sz2 pX pW ?_;refine Qb hP (wF (a:=a) (b:=a) (k:=2^33) Oz Oz Oz) ?_;refine Sz2 pX pW ?_;refine Qb hP (ih (n/2) Oz (a*a) Oz Oz) ?_;refine Sz2 pX pW ?_;refine Qa (fun h2=>?_) (fun h2=>?_)
  ·refine Sz0 ?_;refine Qb hP (wF (a:=cI (a*a) (n/2)) (b:=a) (k:=2^33) Oz Oz Oz) ?_;refine Sz0 ?_;refine cr ?_;refine Sz0 ?_;exact Qc (by rw[Ut Oz]) rfl
  ·refine Sz0 ?_;refine cr ?_;refine Sz0 ?_;exact Qc (by rw[Uo Oz]) rfl
theorem UM{p:List Tm}{vs:List Rat}{K E W:Nat}(hp:PB K E p)(hv:∀v∈vs,rs v<=W)(hW:1<=W)(hB:1+p.length*(K+64*(1+W*E))+(K+64*(1+W*E))<=2^33)(hE:E<=2^38)(cW:p.length<=2^36)(hlv:vs.length<=2^36):
  Qd Tryz.prog 26 [PV.aL p,PV.bj vs] (· =vE vs p):=by
 have h0:((0:Int):Rat)=0:=rfl;refine aE Qg Tryz.func26 anj fun C hP=>?_;refine Sz0 ?_;refine Qb hP (qn (x:=0) Oz Oz) ?_;refine Sz0 ?_;refine Qi okB [(5,5),(7,7),(12,27)] [] (fun n J hp=>∃i,n=p.length-i/\i<=p.length/\(∀t∈p.take i,¬vs.length<t.2.length)/\J 7= .int .i64 (i:Nat)/\hp 4=some ⟨3,51,[.agg [.bool false,.au,.au]],false⟩/\hp 6=some ⟨3,51,[PV.rat 0],false⟩) p.length ?_ ?_
 ·refine⟨0,rfl,by omega,by simp,?_⟩;refine Sz0 ?_;exact⟨rfl,rfl⟩
 rintro _ J h ⟨i,rfl,hi,h1,h7,eE,Np⟩;refine Sz1 h7 ?_;refine Qa (fun hg=>?_) (fun hg=>?_)
 ·have al:i<p.length:=by omega
  have cg:=hp.get al;have dB:=Kah al;have aT:p.take (i+1)=p.take i++[p[i]]:=Kak al;generalize hx:p[i]=x at *
  have kZ:=cg.m.len;refine Sz2 h7 hx ?_;refine Qa (fun hc=>?_) (fun hc=>?_)
  ·have ho:qJ vs p=true:=by unfold qJ;rw[Ka6];exact⟨x,dB,decide_eq_true Oz⟩
   refine Sz1 eE ?_;refine mO ?_;refine Sz0 ?_;exact fp (p':=PV.rr false [] []) (q':=.int .i64 2) (by rw[vE,if_pos ho]) rfl rfl ⟨rfl,trivial,trivial,trivial⟩ (Ql _)
  ·refine Sz1 h7 ?_;refine Qf (p.length-(i+1)) Oz ⟨i+1,rfl,by omega,?_,?_⟩
   ·rw[aT];intro z hz;rcases KaL.1 hz with hz|hz
    ·exact h1 z hz
    ·simp only[Kau]at hz;subst hz;omega
   ·exact Tz2 eE Np
 ·obtain rfl:i=p.length:=by omega
  rw[Kaz]at h1;have ho:qJ vs p=false:=by unfold qJ;rw[KbU];intro t ht;simpa using h1 t ht
  refine Sz2 eE Np ?_;refine Qi okB [(8,10),(28,66)] [9] (fun n J hp=>∃i,n=p.length-i/\i<=p.length/\J 8= .int .i64 (i:Nat)/\hp 4=some ⟨3,51,[.agg [.bool false,.au,.au]],false⟩/\hp 6=some ⟨3,51,[PV.rat (iy vs (p.take i))],false⟩) p.length ?_ ?_
  ·refine⟨0,rfl,by omega,?_⟩;refine Sz2 eE Np ?_;exact⟨rfl,rfl⟩
  rintro _ J1 lH ⟨i,rfl,te,h8,EK,zt⟩;refine Sz1 h8 ?_;refine Qa (fun nS=>?_) (fun nS=>?_)
  ·have al:i<p.length:=by omega
   have cg:=hp.get al;have ee:=h1 _ (Kah al);have aT:=Lf (vs:=vs) al;have hrp:=C8 hp hv hW i Oz;generalize hx:p[i]=x at *
   have kZ:=cg.m.len;have hxc:=cg.c;have atU:i*(K+64*(1+W*E))<=p.length*(K+64*(1+W*E)):=Kaj _ te;have EV:=fun j=>HD (vs:=vs) cg.m hv hW x.1 j;have EJ:∀j,j<=x.2.length->j*(1+W*E)<=64*(1+W*E):=fun j hj=>Kaj _ Oz;refine Sz2 h8 hx ?_;refine Qi okB [(10,10),(39,63)] [] (fun n J hp=>∃j,n=x.2.length-j/\j<=x.2.length/\J 10= .int .i64 (j:Nat)/\hp 4=some ⟨3,51,[.agg [.bool false,.au,.au]],false⟩/\hp 6=some ⟨3,51,[PV.rat (iy vs (p.take i))],false⟩/\hp 9=some ⟨3,51,[PV.rat (x.1*eT vs x.2 j)],false⟩) x.2.length ?_ ?_
   ·refine⟨0,rfl,by omega,?_⟩;have e0:x.1*eT vs x.2 0=x.1:=by show x.1*1=x.1;grind
    rw[e0];refine Sz2 EK zt ?_;rfl
   rintro _ J2 h2 ⟨j,rfl,hj,bp,BF,xG,pR⟩;refine Sz3 h8 bp hx ?_;refine Qa (fun eK=>?_) (fun eK=>?_)
   ·have et:j<x.2.length:=by omega
    have uv:=fY et;have Ns:=cg.m.eN j;have xJ:eT vs x.2 (j+1)=eT vs x.2 j*cI (vs.getD j 0) (eN x.2 j).toNat:=rfl;generalize hy:x.2[j]=y at *
    obtain⟨m,rfl⟩:∃m:Nat,y=m:=⟨y.toNat,by omega⟩
    rw[uv,Kcq]at xJ;rw[uv]at Ns;have zs:j<vs.length:=by omega
    have NW:vs.getD j 0=vs[j]:=by simp[Kad,zs]
    have NX:=hv _ (Kah zs);rw[NW]at xJ;generalize pY:vs[j]=v at *
    have hwe:rs v*m<=W*E:=KaQ NX Oz;have hqp:=Dp v m;have jH:=EV j;have nf:=EJ j hj;refine Sz6 h8 bp hx hy pR pY ?_;refine Qb hP (Q5f m v Oz Oz) ?_;refine Sz6 h8 bp hx hy pR pY ?_;refine Qb hP (wF (a:=x.1*eT vs x.2 j) (b:=cI v m) (k:=2^33) Oz Oz Oz) ?_;refine Sz6 h8 bp hx hy pR pY ?_;refine Qf (x.2.length-(j+1)) Oz ⟨j+1,rfl,by omega,?_⟩;have e1:x.1*eT vs x.2 (j+1)=x.1*eT vs x.2 j*cI v m:=by rw[xJ];grind
    rw[e1];exact Tz2 BF xG
   ·obtain rfl:j=x.2.length:=by omega
    have jH:=EV x.2.length;have nf:=EJ x.2.length (Kae _);have NK:=lz (iy vs (p.take i)) (x.1*kG vs x.2);rw[show eT vs x.2 x.2.length=kG vs x.2 from rfl]at pR jH;refine Sz4 h8 bp xG pR ?_;refine Qb hP (G' (a:=iy vs (p.take i)) (b:=x.1*kG vs x.2) (k:=2^33) Oz Oz Oz) ?_;refine Sz4 h8 bp xG pR ?_;simp (disch:=decide) only[fV,dS];refine Qf (p.length-(i+1)) Oz ⟨i+1,rfl,by omega,?_⟩;rw[aT];exact Tz1 BF
  ·obtain rfl:i=p.length:=by omega
   rw[Kaz]at zt;refine Sz2 EK zt ?_;refine mO ?_;refine Sz0 ?_;exact fp (by rw[vE,if_neg (by simp[ho])]) rfl rfl (Ql _) (Ql _)
end Go.Proofs.YtkoclfmjlolkhaaGreat
namespace Go.FW
open Go
variable {C : Ctx} {ρ : Nat -> Option Nat} {fr : Fr} {hp : HP} {w : World} {K R : Qh}
theorem aov{β n d ty γ:Nat}(ae:5000000<=β)(aj:γ=4000000+d):mu 1 ty [.ms β n] d fr hp K=K (af (af (fX γ fr) γ (.aC γ 1 ty [.aB β 0 n])) d (.aI γ 0 1)) (Qj hp γ ⟨1,ty,[],false⟩):=by
 subst aj;have hb:nA [.aB β 0 n]=true:=by simp[nA,ko,ae]
 unfold mu Mz iK;rw[if_pos hb];simp
theorem ahd{by_ ty ty' δ β m d γ:Nat}(mE:fr δ= .aC δ 1 ty' [.aB β 0 m])(ae:5000000<=β)(aj:γ=4000000+d)(hb:by_<=140737488355328):
  ia 1 by_ ty .au (.aI δ 0 1) d fr hp K=K (af (af (fX γ fr) γ (.aC γ 1 ty [.aB β 0 m])) d (.aI γ 0 1)) (Qj hp γ ⟨1,ty,[],false⟩):=by
 subst aj;unfold ia w6 iK;simp[jx,mE,ko,ae,hb]
theorem alR{by_ ty ty' δ β m d γ k e0 ty0:Nat}{xs0:List PV}{L:List (Nat×Nat)}(mE:fr δ= .aC δ 1 ty' [.aB β 0 m])(ae:5000000<=β)(hg:fr γ= .aC γ 1 ty (Qs L))(h2:2000000<=γ)(h5:γ<5000000)
  (hh:hp γ=some ⟨e0,ty0,xs0,false⟩) (hk:k=L.length) (hL:∀x∈L,5000000<=x.1) (hb:(k+1)*by_<=140737488355328) (hm:k+1<=9223372036854775807):
  ia 1 by_ ty (.aI γ 0 k) (.aI δ 0 1) d fr hp K=K (af (af (fX γ fr) γ (.aC γ 1 ty (Qs (L++[(β,m)])))) d (.aI γ 0 (k+1))) (Qj hp γ ⟨1,ty,[],false⟩):=by
 have hy:aR γ=false:=by simp[aR];omega
 have ha:(Qs L).all ko=true:=by rw[Kax];intro x hx;obtain⟨y,hy,rfl⟩:=Kaq.1 hx;simp[ko,hL y hy]
 have hl:k=(Qs L).length:=by simpa[Qs]using hk
 have hr:Qs (L++[(β,m)])=Qs L++[.aB β 0 m]:=by simp[Qs]
 rw[hr];unfold ia w6;simp[jx,mE,hg,ko,ae,h5,hy,<-hl,ha,hb,hm,hh]
theorem alS{γ e ty n:Nat}{xs:List PV}{hb0:HB}(s:Nat)(il:fr γ= .aC γ e ty xs)(nY:fr s= .aI γ 0 n)(h0:hp γ=some hb0)(hn:n<=xs.length)(h2:aR γ=false)(hd:∀x∈xs,x.cells=x.aS/\x.aN=true/\∀c∈x.aS,c.n7=false):
  Wk fr hp (af (iP γ fr) s (.aB γ 0 n)) (Qj hp γ ⟨e,ty,xs,hb0.fz⟩):=by
 rintro C tmps w ⟨ρ,hs⟩;have bb:=hs.cN γ;rw[il]at bb;obtain⟨k0,he,b,hb,cur,cap,k1,k2,k3,k4,k5,k6,k7,k8,k9,jf,jq⟩:=bb;obtain rfl:hb=hb0:=by rw[k2]at h0;exact KbM h0
 obtain⟨hp',lh⟩:∃f,f=Qj hp γ ⟨e,ty,xs,hb.fz⟩:=⟨_,rfl⟩
 rw[<-lh];have lV:hp' γ=some ⟨e,ty,xs,hb.fz⟩:=by rw[lh];simp[Qj]
 have po:∀β,β≠γ->hp' β=hp β:=fun β ae=>by rw[lh];simp[Qj,ae]
 have hX:∀c,aK C ρ hp' c->aK C ρ hp c:=by
  rintro c (hx|⟨β,ax,g1,g2,g3⟩)
  ·exact .inl hx
  ·by_cases ae:β=γ
   ·subst ae;rw[lV]at g1;cases g1;exact .inr ⟨β,hb,k2,g2,g3⟩
   ·rw[po β ae]at g1;exact .inr ⟨β,ax,g1,g2,g3⟩
 have bc:nB w w (aK C ρ hp) (aK C ρ hp'):=⟨fun _ _ _=>rfl,fun c _ hn h=>hn (hX c h),Kae _⟩
 have c1:∀β,β≠γ->qg ρ ρ hp hp' w w β:=fun β ae=>⟨rfl,fun hb hq=>⟨hb,by rw[po β ae];exact hq,rfl,Kae _,fun _ _ _ h=>h,fun h=>⟨h,rfl,fun _ _=>rfl⟩⟩⟩
 have c0:∀β,vl ρ ρ hp hp' w w β:=fun β=>by
  by_cases ae:β=γ
  ·subst ae;refine⟨rfl,fun hb1 hq=>⟨_,lV,?_,?_,fun _ _ _ h=>h⟩⟩
   ·rw[k2]at hq;cases hq;exact k4.symm
   ·rw[k2]at hq;cases hq;rw[k3];exact Kbz _
  ·exact(c1 β ae).xZ
 have bE:=hs.own γ hb k2;refine⟨ρ,hs.sz,hs.ext,hs.fT,fun β hb1 ae=>?_,fun β δ c g1 g2 g3 g4=>?_,fun i=>?_⟩
 ·by_cases hq:β=γ
  ·subst hq;rw[lV]at ae;cases ae;refine⟨he,fun i x hx=>?_,?_,(fun h=>by rw[h2]at h;cases h),fun h=>bE.ro h⟩
   ·obtain⟨d1,d2,_⟩:=hd x (Kai hx);exact⟨by rw[d1];exact jf i x hx,d2⟩
   ·have bl:=bE.dd;rw[k1]at bl⊢;refine⟨bl.1,bl.2.1,cur,cap,k6,k7,k8,k9,fun i x hx j y hy=>?_⟩;obtain⟨d1,_,d3⟩:=hd x (Kai hx);rw[d1]at hy;exact((jq i x hx j y hy).Ok (d3 y (Kai hy))).sub hX
  ·rw[po β hq]at ae;obtain⟨q1,q2,q3,q4,q5⟩:=hs.own β hb1 ae;refine⟨q1,q2,?_,q4,q5⟩;cases hr:ρ β with
   |none=>rw[hr]at q3;exact q3
   |some c=>rw[hr]at q3;exact⟨q3.1,q3.2.1,q3.2.2.move rfl rfl rfl rfl bc.rc⟩
 ·have f:∀β,hp' β≠none->hp β≠none:=fun β ae=>by
   by_cases hq:β=γ
   ·subst hq;simp[k2]
   ·rwa[po β hq]at ae
  exact hs.inj β δ c (f β g1) (f δ g2) g3 g4
 ·unfold af;split
  ·rename_i hi;subst hi;have bb:=hs.cN i;rw[nY]at bb;obtain⟨_,ax,b',eW,g1,g2,g3,g4,g5,_⟩:=bb;rw[k2]at g1;cases g1;exact⟨_,lV,by simpa using hn,.inr ⟨b',eW,g2,by rw[g3,k4],by rw[k4]at g4;exact g4,g5⟩⟩
  ·have bb:=hs.cN i;show Qn C ρ hp' w (gE γ (fr i)) _;by_cases hn:∃e' ty' ys,fr i= .aC γ e' ty' ys
   ·obtain⟨e',ty',ys,hq⟩:=hn;rw[hq];simp only[gE,if_true];trivial
   ·have e1:gE γ (fr i)=fr i:=by
     cases hq:fr i with
     |aC bu e' ty' ys=>simp only[gE];rw[if_neg];intro h;subst h;exact hn ⟨_,_,_,hq⟩
     |_=>rfl
    rw[e1];refine bb.move bc (fun β _=>⟨rfl,(c0 β).h⟩) (fun β _=>c0 β) (fun bu e' ty' ys hq=>c1 bu fun h=>by subst h;exact hn ⟨_,_,_,hq⟩)
theorem alT{k c:Nat}(h:c<5000000):(5000000+k=c)=False:=by simp;omega
theorem ahe{k c:Nat}(h:c<5000000):(c=5000000+k)=False:=by simp;omega
theorem alU{k j:Nat}:(5000000+k=5000000+j)=(k=j):=by simp
attribute [go_sem] alT ahe alU
theorem ahf{β δ γ e ty:Nat}{L:List (Nat×Nat)}(aj:γ≠β)(hL:∀x∈L,x.1≠β):ch (iJ β δ) (.aC γ e ty (Qs L))= .aC γ e ty (Qs L):=by
 have e1:iJ β δ γ=γ:=by unfold iJ;rw[if_neg aj]
 simp only[ch,e1];congr 1;conv=>rhs;rw[<-List.map_id (Qs L)]
 refine KaJ fun x hx=>?_;obtain⟨y,hy,rfl⟩:=Kaq.1 hx;refine HA (.inr ⟨_,_,rfl⟩) fun bA n' h=>?_;cases h;unfold iJ;rw[if_neg (hL y hy)]
theorem adS{β γ e ty:Nat}{L:List (Nat×Nat)}(aj:γ≠β)(hL:∀x∈L,x.1≠β):cV β (.aC γ e ty (Qs L))= .aC γ e ty (Qs L):=by
 simp only[cV,if_neg aj];congr 1;conv=>rhs;rw[<-List.map_id (Qs L)]
 refine KaJ fun x hx=>?_;obtain⟨y,hy,rfl⟩:=Kaq.1 hx;simp[PV.aS,PV.cells,fo,jv,hL y hy]
theorem HR{B n:Nat}{L:Nat->Nat}{x:Nat×Nat}(h:x∈rws B n L):∃i,i<n/\x=(B+i,L i):=by obtain⟨i,hi,rfl⟩:=Kaq.1 h;exact⟨i,Kbo.1 hi,rfl⟩
def Ch(B n:Nat)(hp:HP):HP:=fun x=>if B<=x/\x<B+n then(hp x).map fun hb=>{ hb with fz:=true }else hp x
theorem alV{B n x:Nat}(h:x<B):Ch B n hp x=hp x:=by unfold Ch;rw[if_neg (by omega)]
theorem alW(B n:Nat):bW hp ((List.range n).map (B+ ·))=Ch B n hp:=by
 funext x;unfold bW Ch;by_cases h:B<=x/\x<B+n
 ·rw[if_pos h,if_pos (Kcy.2 (Kaq.2 ⟨x-B,Kbo.2 (by omega),by omega⟩))]
 ·rw[if_neg h,if_neg];intro hc;obtain⟨i,hi,rfl⟩:=Kaq.1 (Kcy.1 hc);have:=Kbo.1 hi;omega
theorem ahg{γ ty B n m e' tyr:Nat}{ys:Nat->List PV}(il:fr γ= .aC γ 1 ty (Qs (rws B n fun _=>m)))(hB:2000000<=B)(hh:∀r,r<n->hp (B+r)=some ⟨e',tyr,ys r,false⟩)(hw:∀r,r<n->(ys r).length=m):
  Wk fr hp (af fr γ (.aC γ 1 ty (Qo (fun r=>PV.sl e' (ys r)) id n))) (Ch B n hp):=by
 have h:=afs (fr:=fr) (hp:=hp) 1 il (fun x hx c hc=>by obtain⟨y,hy,rfl⟩:=Kaq.1 hx;obtain⟨i,hi,rfl⟩:=HR hy;rw[show(PV.aB (B+i,m).1 0 (B+i,m).2).aS=[.aB (B+i) 0 m]from rfl]at hc;rw[Kau.1 hc];show aR (B+i)=false;simp[aR];omega);have e1:((Qs (rws B n fun _=>m)).map fun x=>fo (x.aS.map (eC fr hp 1)))=Qo (fun r=>PV.sl e' (ys r)) id n:=by
  refine Ka7 (by simp[Qs,rws,Qo]) fun j h1 h2=>?_;have hj:j<n:=by simpa[Qs,rws]using h1
  simp only[Qs,rws,Ka8,List.getElem_range,PV.aS,PV.cells,Kba,Kbu,fo,eC,hh j hj,Ka0,Qo,id];rw[Kac (by rw[hw j hj];exact Kae _)]
 have e2:((Qs (rws B n fun _=>m)).flatMap fun x=>x.aS.flatMap (mG fr 1))=(List.range n).map (B+ ·):=by simp only[Qs,rws,KbH];rw[List.flatMap_map];simp only[Function.comp,PV.aS,PV.cells,Kav,KaB,mG,Kam];rw[<-List.map_eq_flatMap]
 rw[e1,e2,alW]at h;exact h
attribute [go_sem] alV
end Go.FW
