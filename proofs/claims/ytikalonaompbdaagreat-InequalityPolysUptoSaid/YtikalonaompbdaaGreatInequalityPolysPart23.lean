/- Part 23 of the proof of InequalityPolys: IDQ, FwYI. Own lemmas; no conditions. -/
import Derived.Test.YtikalonaompbdaaGreatInequalityPolysPart22
set_option maxHeartbeats 1000000
set_option linter.all false
set_option maxRecDepth 100000
namespace Go.Proofs.YtikalonaompbdaaGreat
open Go Go.FW
variable{E K n:Nat}{p:List Tm}{w:List Rat}
def sT:List Tm:=[((3:Rat)/4,[0,0,2]),((3:Rat)/4,[0,2]),(-(1:Rat)/2,[1,1]),((3:Rat)/4,[2])]
def kM:List Tm:=[(-(1:Rat),[0,0,2]),(-(1:Rat),[0,2]),((1:Rat),[2])]
abbrev cG(p:List Tm):List Rat:=vA p (ie p)
abbrev cL(p:List Tm):List LF:=(eQ 4 (dG (cG p) 4) 8).2
def O4(K E n:Nat)(x:Sq):Bool:=decide (rs x.1+1<=K)&&OY K E x.2&&decide (x.2.length<=n)&&JB x.2&&decide (0<x.1)
def aea{x:Sq}(h:O4 K E n x=true):vO K E n x/\0<x.1:=by simp only[O4,Kav,decide_eq_true_eq]at h;obtain⟨⟨⟨⟨h1,h2⟩,h3⟩,h4⟩,h5⟩:=h;exact⟨⟨h1,FU h2,h3,KY h4⟩,h5⟩
structure QK(p:List Tm):Prop where
 b:OY 10 10 p=true
 n:JB p=true
 d:xm p<=2
 l:p.length<=20
 R:(ie p).length=4
 g:∀q∈cG p,rs q<=100
 c:BH (ie p) (4:Nat) (4:Nat) ((cG p).map qR)=0
 s:sS (dG (cG p) 4) 4
 r:H9 1000 4 8 (dG (cG p) 4)
 f:∀f∈cL p,rs f.1<=1000/\∀c,c<4->rs (f.2 c)<=1000
 o:(cL p).length=3
def KZ:QK sT:=⟨by decide+kernel,by decide+kernel,by decide+kernel,by decide,by decide+kernel,by decide+kernel,by decide+kernel,by unfold sS;decide+kernel,by unfold H9 sj;decide+kernel,by decide+kernel,by decide+kernel⟩
def DI:QK kM:=⟨by decide+kernel,by decide+kernel,by decide+kernel,by decide,by decide+kernel,by decide+kernel,by decide+kernel,by unfold sS;decide+kernel,by unfold H9 sj;decide+kernel,by decide+kernel,by decide+kernel⟩
def Ua(h:QK p):(cG p).length=4*4:=by rw[QF,h.R]
def R3(h:QK p):AC 184 [PV.dU (4:Nat) (4:Nat) (cG p)] (· =Cj 4 (cL p)):=
 akR (R:=4) (Ua h) Oz Oz (λq hq=>KaK (h.g q hq) Oz) (K:=1000) Oz h.r h.s
def agr(h:QK p):AC 102 [PV.kD (ie p),PV.dU (4:Nat) (4:Nat) (cG p)] (· =vW (ie p) (cL p)):=by have c1:=afY (bs:=ie p) (r:=(4:Nat)) (c:=(4:Nat)) (by rw[h.R];omega) (λb hb=>by have:=(H7 b hb).2.1;omega) (RZ (k:=100) (by rw[Ua h];omega) Oz h.g);rw[h.c,<-H2]at c1;exact Q1h (K:=1000) ⟨h.R,λb hb=>by have:=(H7 b hb).2.1;omega,Oz,by have:=h.o;omega,h.f,Oz,Oz⟩ c1 (R3 h)
def Ub(h:QK p){L:List Sq}{e:Int}(hF:vW (ie p) (cL p)= .aI [PV.gj L,.int .i64 e])
  (hN:e=17->L=[]/\AC 103 [PV.aC p,PV.kD (ie p),PV.dU (4:Nat) (4:Nat) (cG p)] (· =PV.cg w)) (hw:e≠17->w=[]):
  AC 49 [PV.aC p] (· = .aI [PV.gj L,PV.cg w,.int .i64 e]):=by
 have h1:=agr h;rw[hF]at h1;have hb:=FU h.b;have hl:=h.l;have hR:=h.R;refine Qzt hb Oz Oz Oz Oz (agq hb ((KY h.n).O0 hb Oz) Oz Oz) h.d Oz ?_ ?_ hw
 .rw[hR];exact h1
 .rw[hR];exact hN
def vF:List Sq:=(cL sT).map (oA (ie sT))
def UI:vF.length=3:=by decide+kernel
def R4:AC 49 [PV.aC sT] (· = .aI [PV.gj vF,PV.cg [],.int .i64 0])/\
  AC 68 [PV.aC sT,PV.gj vF] (· = .int .i64 0):=by
 have hb:=FU KZ.b;have hs:vF.all (O4 100 2 4)=true:=by decide+kernel
 have h3:=UI;refine⟨Ub KZ (if_pos (by decide+kernel)) (λh=>by cases h) (λ_=>rfl),Q9n (λx hx=>aea (Kas.1 hs x hx)) (by decide+kernel) ((KY KZ.n).O0 hb Oz) (hb.mono Oz Oz) Oz Oz Oz Oz Oz Oz Oz⟩
abbrev Ck:List Rat:=iO 4 (cL kM)
abbrev y8:MF:=vM (dG Ck 4) (y6 (sO 3 1)) 4
abbrev ll:List Rat:=[0,1,0]
def apP:(List.range 4).map (ua (eK 3 y8 4).M (eK 3 y8 4).bG 4 (eK 3 y8 4).bG.length)=[0,1,0,0]:=by decide+kernel
def ah0:AC 186 [PV.dU (3:Nat) (4:Nat) Ck,.int .i64 (1:Nat)] (· =PV.cg [0,1,0,0]):=by have h:=apm (R:=3) (m:=4) (K:=1000) (l:=Ck) (b:=sO 3 1) (by decide+kernel) (Ms _ _) Oz Oz Oz (by decide+kernel) (by decide+kernel) Oz (by unfold JV sj;decide+kernel);rw[show JM (eK 3 y8 4) 3 4= .aI [.sl 3 (aR PV.rat (ua (eK 3 y8 4).M (eK 3 y8 4).bG 4 (eK 3 y8 4).bG.length) 4),.int .i64 0]from if_pos (by decide+kernel),RO,apP]at h;exact akZ (x:=[0,1,0,0]) Oz h
def Mt{t v:Rat}(ht:rs t<=100)(hx:mV (ie kM) ([0,1,0,0].map (· *t)) 3=w)(hw:∀q∈w,rs q<=100)(nk:w.length<=10)(ho:Aj w kM=false)(hv:rE w kM=v):
  AC 288 [PV.aC kM,PV.kD (ie kM),PV.cg [0,1,0,0],PV.rat t] (· = .aI [PV.rat v,PV.cg w]):=by
 have hR:=DI.R;have h1:=ahZ (bs:=ie kM) (x:=[0,1,0,0].map (· *t)) Oz Oz (λb hb=>by have:=(H7 b hb).2.1;omega) (by simp;omega) (by simp);rw[show(ie kM).length-1=3 by omega,hx]at h1;have h2:=Q9k (p:=kM) (vs:=w) (FU DI.b) hw Oz (by show 1+3*_+_<=_;omega) Oz (by show 3<=_;omega) Oz;rw[Im,if_neg (by rw[ho];decide),hv]at h2;exact akv (k:=100) (by decide+kernel) ht Oz (by simp) h1 h2
def apQ:AC 103 [PV.aC kM,PV.kD (ie kM),PV.dU (4:Nat) (4:Nat) (cG kM)] (· =PV.cg ll):=by
 have hr:=R3 DI;rw[Cj,DI.o]at hr;have h0:((cL kM).map (·.1))=[1,-1,-1]:=by decide+kernel
 have hl:iO 4 (cL kM)=Ck:=rfl;rw[h0]at hr;have t0:=Mt (t:=0) (v:=0) (w:=[0,0,0]) (by decide+kernel) (by decide+kernel) (by decide+kernel) (by decide) (by decide+kernel) (by decide+kernel);have t1:=Mt (t:=1) (v:= -1) (w:=ll) (by decide+kernel) (by decide+kernel) (by decide+kernel) (by decide) (by decide+kernel) (by decide+kernel);have t2:=Mt (t:= -1) (v:= -1) (w:=[0,-1,0]) (by decide+kernel) (by decide+kernel) (by decide+kernel) (by decide) (by decide+kernel) (by decide+kernel);refine Q9m (W:=[1,-1,-1]) (n:=3) (L:=Ck) (x:=[0,1,0,0]) (a:=1) (m:=3) (c:=0) hr (by decide) (by decide) (by decide+kernel) (by decide+kernel) (by decide+kernel) ah0 rfl Oz (by decide+kernel) rfl (λ_=>?_) (λh=>absurd rfl h);refine ad9 (q:= -1) (b:=0) (c:=0) (k:=100) t0 ?_ ?_ ?_ (by decide+kernel) (by decide+kernel) (by decide+kernel) (by decide+kernel) Oz (vn:= -1) (v1:=ll) (v2:=[0,-1,0])
 .rw[show(-1:Rat)+0+0= -1 by decide+kernel];exact t1
 .rw[show(-1:Rat)-0+0= -1 by decide+kernel];exact t2
 .rw[show(fk (0:Rat)+fk 0)/fk (-1)+1=1 by decide+kernel];exact t1
def akw:AC 49 [PV.aC kM] (· = .aI [PV.gj [],PV.cg ll,.int .i64 17]):=
 Ub DI (if_neg (by decide+kernel)) (λ_=>⟨rfl,apQ⟩) (λh=>absurd rfl h)
end Go.Proofs.YtikalonaompbdaaGreat
namespace Go.FW
open Go
variable{P:Program}
mutual
inductive Cg:PV->PV->Prop
 |rfl (p:PV):Cg p p
 |nil (e:Nat):Cg .aa (.sl e [])
 |sl (e:Nat) {xs ys:List PV} (h:Cl xs ys):Cg (.sl e xs) (.sl e ys)
inductive xt:List PV->List PV->Prop
 |nil:xt [] []
 |cons {p q:PV} {ps qs:List PV} (h:Cg p q) (t:xt ps qs):xt (p::ps) (q::qs)
inductive Cl:List PV->List PV->Prop
 |nil:Cl [] []
 |cons {x y:PV} {xs ys:List PV} (h:xt x.cells y.cells) (t:Cl xs ys):Cl (x::xs) (y::ys)
end
mutual
def Qn.leD{w:World}{X:Nat->Prop}:∀ {p q:PV},Cg p q->∀ {v:Value},Qn w X p v->Qn w X q v
 |_,_,.rfl p,v,h=>h
 |_,_,.nil e,v,h=>by cases h;exact .ma _ _ _ (KbK _)
 | _,_,.sl e (xs:=xs) (ys:=ys) ht,v,h=>by
  obtain⟨h1,h2⟩:=R5 ht;cases h with
  |ma _ ad cap hc=>have:ys=[]:=KaE.1 (by simpa using h1);subst this;exact .ma _ _ _ hc
  | sl _ _ b off cap vs hX hb we hc he hv hr=>
   rw[<-h1]at we hv⊢;refine .sl e ys b off cap vs hX hb we hc (λi y hy=>?_) hv (λi y hy j z hz=>?_)
   .obtain⟨x,hx,hle,_⟩:=h2 w X i y hy;rw[hle];exact he i x hx
   .obtain⟨x,hx,_,hle⟩:=h2 w X i y hy;obtain⟨u,hu,axr⟩:=hle j z hz;exact axr _ (hr i x hx j u hu)
def MD:∀ {ps qs:List PV},xt ps qs->∀(w:World)(X:Nat->Prop),qs.length=ps.length/\∀(i:Nat)(q:PV),qs[i]? =some q->∃p,ps[i]? =some p/\∀v,Qn w X p v->Qn w X q v
 |_,_,.nil,w,X=>⟨rfl,by simp⟩
 |_,_,.cons (p:=p) (q:=q) h t,w,X=>by
  have k:=λv=>Qn.leD (w:=w) (X:=X) h (v:=v)
  obtain⟨h1,h2⟩:=MD t w X;refine⟨by simp[h1],λi x hx=>?_⟩;cases i with
  |zero=>simp at hx;subst hx;exact⟨p,rfl,k⟩
  |succ i=>simp at hx;simpa using h2 i x hx
def R5:∀ {xs ys:List PV},Cl xs ys->ys.length=xs.length/\∀(w:World)(X:Nat->Prop)(i:Nat)(y:PV),ys[i]? =some y->∃x,xs[i]? =some x/\y.cells.length=x.cells.length/\∀(j:Nat)(z:PV),y.cells[j]? =some z->∃u,x.cells[j]? =some u/\∀v,Qn w X u v->Qn w X z v
 |_,_,.nil=>⟨rfl,by simp⟩
 |_,_,.cons (x:=x) (y:=y) h t=>by
  have k:=λ(w:World) (X:Nat->Prop)=>MD h w X
  obtain⟨h1,h2⟩:=R5 t;refine⟨by simp[h1],λw X i z hz=>?_⟩;cases i with
  |zero=>simp at hz;subst hz;exact⟨x,rfl,(k w X).1,(k w X).2⟩
  |succ i=>simp at hz;simpa using h2 w X i z hz
end
def Qa.qZ{f:FuncId}{ps qs:List PV}{ls bs:List PV}{R:PV->Prop}(h:Qa P f (ls++ .agg qs::bs) R)(hl:xt ps qs):Qa P f (ls++ .agg ps::bs) R:=by
 refine⟨h.1,λw X aL g1 g2 g3=>h.2 w X aL g1 (by simpa using g2) (λi x hx=>?_)⟩;by_cases hi:i=ls.length
 .subst hi;rw[Kbb (Kag _)]at hx;simp at hx;subst hx;obtain⟨vs,e,k1,k2⟩:=g3 ls.length (.agg ps) (by rw[Kbb (Kag _)];simp);obtain⟨h1,h2⟩:=MD hl w X;refine⟨vs,e,Oz,λj x hx=>?_⟩;obtain⟨p,hp,hle⟩:=h2 j x hx;exact hle _ (k2 j p hp)
 .refine g3 i x ?_;rcases KcF i ls.length with aA|jE
  .rw[Kbw aA]at hx ⊢;exact hx
  .rw[Kbb jE]at hx⊢;obtain⟨j,hj⟩:∃j,i-ls.length=j+1:=⟨i-ls.length-1,Oz⟩
   rw[hj]at hx ⊢;exact hx
end Go.FW
