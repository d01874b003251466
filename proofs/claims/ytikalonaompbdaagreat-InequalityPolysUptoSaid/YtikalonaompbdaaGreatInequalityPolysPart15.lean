/- Part 15 of the proof of InequalityPolys: IC6, IA7, IA8, IA9, IAA, IAB, U5, CJ, FwUE, FwUF, FwUI, FwUJ, FwWA, FwWB, FwWC, FwWD, FwUH, FwUK, FwWE. Own lemmas; no conditions. -/
import Derived.Test.YtikalonaompbdaaGreatInequalityPolysPart14
set_option maxHeartbeats 1000000
set_option linter.all false
set_option maxRecDepth 100000
namespace Go.Proofs.YtikalonaompbdaaGreat
open Go Go.FW
variable{C:Ctx}{a0:Nat}{c0:Cd}{cs:List Cd}{f:bB}{vs:List Vr}
abbrev AQ(cs:List Cd)(vs:List Vr):List PV:=[.sl 2 (cs.map PV.bj),.sl 3 (vs.map PV.fvar)]
abbrev AR(f:bB):List PV:=[.int .i64 f.k,PV.mono f.args,.bool f.n,PV.nat f.a,PV.nat f.d]
def y3(cs:List Cd)(vs:List Vr)(f:bB):List (Nat×PV):=[(2,.pt (AQ cs vs)),(3,.pt (AR f))]
def Ld(cs:List Cd)(vs:List Vr)(f:bB)(a0 a1:Nat)(c0 c1:Cd):WT:=[(10,0,.pt ((AQ cs vs).drop 0)),(11,1,.sl 2 (cs.map PV.bj)),(12,2,.pt ((AR f).drop 1)),(13,3,PV.mono f.args),(14,4,.pt [.int .i64 (a0:Nat)]),(15,5,.int .i64 (a0:Nat)),(16,6,.pt [PV.aC c0.1,PV.aC c0.2]),(17,7,PV.bj c0),(18,8,.pt ((AQ cs vs).drop 0)),(19,9,.sl 2 (cs.map PV.bj)),(20,10,.pt ((AR f).drop 1)),(21,11,PV.mono f.args),(22,12,.pt [.int .i64 (a1:Nat)]),(23,13,.int .i64 (a1:Nat)),(24,14,.pt [PV.aC c1.1,PV.aC c1.2]),(25,15,PV.bj c1),(5,16,.mp 5 0 0),(6,17,.mp 6 0 0)]
def DS(c0 c1:Cd):WB:=[(5,16,18,⟨2,81,[.agg [.aa,.aa]],false⟩,⟨2,81,[PV.bj c0],false⟩),(6,17,19,⟨2,81,[.agg [.aa,.aa]],false⟩,⟨2,81,[PV.bj c1],false⟩)]
def aoh{a1:Nat}{c1:Cd}(xH:(f.args.map (PV.int .i64))[0]? =some (.int .i64 (a0:Nat)))(NC:(f.args.map (PV.int .i64))[1]? =some (.int .i64 (a1:Nat)))(rP:(cs.map PV.bj)[a0]? =some (PV.bj c0))(oF:(cs.map PV.bj)[a1]? =some (PV.bj c1)):∀(l:Nat->Bool)(i:Nat)(g:rf),Lb[i]? =some g->l i=false->(∀k∈FO.getD i [],l k=true)->(∀j,l j=true->∀k∈FO.getD j [],l k=true)->
  ∀fr hp,dR (y3 cs vs f) (Ld cs vs f a0 a1 c0 c1) (DS c0 c1) l fr hp->iy C g.g g.o fr hp (λfr hp=>∃aX aB,Wk fr hp aX aB/\dR (y3 cs vs f) (Ld cs vs f a0 a1 c0 c1) (DS c0 c1) (λk=>k==i||l k) aX aB):=by
 intro l i g hg h0 R D fr hp I
 match i,hg,h0,R with
 |0,rfl,h0,R=>exact I.xC
 |1,rfl,h0,R=>exact I.yc R
 |2,rfl,h0,R=>exact I.xC
 |3,rfl,h0,R=>exact I.yc R
 |4,rfl,h0,R=>exact I.Jn R xH
 |5,rfl,h0,R=>exact I.Jv R
 |6,rfl,h0,R=>exact I.Jo R rP
 |7,rfl,h0,R=>exact I.Jw R
 |8,rfl,h0,R=>exact I.xC
 |9,rfl,h0,R=>exact I.yc R
 |10,rfl,h0,R=>exact I.xC
 |11,rfl,h0,R=>exact I.yc R
 |12,rfl,h0,R=>exact I.Jn R NC
 |13,rfl,h0,R=>exact I.Jv R
 |14,rfl,h0,R=>exact I.Jo R oF
 |15,rfl,h0,R=>exact I.Jw R
 |16,rfl,h0,R=>exact I.al D h0
 |17,rfl,h0,R=>exact I.al D h0
 |18,rfl,h0,R=>exact I.JP R h0
 |19,rfl,h0,R=>exact I.JP R h0
 |i+20,hg,h0,R=>cases hg
def y4(cs:List Cd)(vs:List Vr)(f:bB)(x y:Cd):List (Nat×PV):=[(6,.pt [PV.aC y.1,PV.aC y.2]),(5,.pt [PV.aC x.1,PV.aC x.2]),(2,.pt (AQ cs vs)),(3,.pt (AR f))]
def Le(cs:List Cd)(vs:List Vr)(f:bB)(a0 a1:Nat)(c0 c1:Cd):WT:=[(26,0,.pt ((AQ cs vs).drop 0)),(27,1,.sl 2 (cs.map PV.bj)),(28,2,.pt ((AR f).drop 1)),(29,3,PV.mono f.args),(30,4,.pt [.int .i64 (a0:Nat)]),(31,5,.int .i64 (a0:Nat)),(32,6,.pt [PV.aC c0.1,PV.aC c0.2]),(33,7,PV.bj c0),(34,8,.pt ((AQ cs vs).drop 0)),(35,9,.sl 2 (cs.map PV.bj)),(36,10,.pt ((AR f).drop 1)),(37,11,PV.mono f.args),(38,12,.pt [.int .i64 (a1:Nat)]),(39,13,.int .i64 (a1:Nat)),(40,14,.pt [PV.aC c1.1,PV.aC c1.2]),(41,15,PV.bj c1),(7,16,.mp 7 0 0),(8,17,.mp 8 0 0)]
def DT(c0 c1:Cd):WB:=[(7,16,18,⟨2,81,[.agg [.aa,.aa]],false⟩,⟨2,81,[PV.bj c0],false⟩),(8,17,19,⟨2,81,[.agg [.aa,.aa]],false⟩,⟨2,81,[PV.bj c1],false⟩)]
def aoi{x y:Cd}{a1:Nat}{c1:Cd}(xH:(f.args.map (PV.int .i64))[2]? =some (.int .i64 (a0:Nat)))(NC:(f.args.map (PV.int .i64))[3]? =some (.int .i64 (a1:Nat)))(rP:(cs.map PV.bj)[a0]? =some (PV.bj c0))(oF:(cs.map PV.bj)[a1]? =some (PV.bj c1)):∀(l:Nat->Bool)(i:Nat)(g:rf),Lc[i]? =some g->l i=false->(∀k∈FP.getD i [],l k=true)->(∀j,l j=true->∀k∈FP.getD j [],l k=true)->
  ∀fr hp,dR (y4 cs vs f x y) (Le cs vs f a0 a1 c0 c1) (DT c0 c1) l fr hp->iy C g.g g.o fr hp (λfr hp=>∃aX aB,Wk fr hp aX aB/\dR (y4 cs vs f x y) (Le cs vs f a0 a1 c0 c1) (DT c0 c1) (λk=>k==i||l k) aX aB):=by
 intro l i g hg h0 R D fr hp I
 match i,hg,h0,R with
 |0,rfl,h0,R=>exact I.xC
 |1,rfl,h0,R=>exact I.yc R
 |2,rfl,h0,R=>exact I.xC
 |3,rfl,h0,R=>exact I.yc R
 |4,rfl,h0,R=>exact I.Jn R xH
 |5,rfl,h0,R=>exact I.Jv R
 |6,rfl,h0,R=>exact I.Jo R rP
 |7,rfl,h0,R=>exact I.Jw R
 |8,rfl,h0,R=>exact I.xC
 |9,rfl,h0,R=>exact I.yc R
 |10,rfl,h0,R=>exact I.xC
 |11,rfl,h0,R=>exact I.yc R
 |12,rfl,h0,R=>exact I.Jn R NC
 |13,rfl,h0,R=>exact I.Jv R
 |14,rfl,h0,R=>exact I.Jo R oF
 |15,rfl,h0,R=>exact I.Jw R
 |16,rfl,h0,R=>exact I.al D h0
 |17,rfl,h0,R=>exact I.al D h0
 |18,rfl,h0,R=>exact I.JP R h0
 |19,rfl,h0,R=>exact I.JP R h0
 |i+20,hg,h0,R=>cases hg
open Go.Proofs.Tryz
variable{i:Nat}{n:Int}
def cP(f:bB)(n:Int):Int:=
 if f.k≠4/\f.k≠9 then 8 else if f.args.length≠4 then 1 else if f.args.any (λa=>decide (a<0\/n<=a))then 2 else if f.k=9/\fL f.n f.a f.d=false then 1 else 0
def FQ(h0:f.k=4\/f.k=9)(hl:f.args.length=4)(hi:i<f.args.length)(h:f.args[i]<0\/n<=f.args[i]):cP f n=2:=by unfold cP;rw[if_neg Oz,if_neg Oz,if_pos];exact KaJ.2 ⟨_,Kad hi,decide_eq_true h⟩
def FR(h0:f.k=4\/f.k=9)(hl:f.args.length=4)(h:∀j (h:j<f.args.length),0<=f.args[j]/\f.args[j]<n):cP f n=if f.k=9/\fL f.n f.a f.d=false then 1 else 0:=by unfold cP;rw[if_neg Oz,if_neg Oz,if_neg];intro hq;obtain⟨x,hx,hd⟩:=KaJ.1 hq;obtain⟨j,hj,rfl⟩:=KaH hx;have:=of_decide_eq_true hd;have:=h j hj;omega
def aj4(hf:iA f):AC 31 [PV.dJ f,.int .i64 n] (· = .int .i64 (cP f n)):=by
 have hr:=Ar hf.r Oz;have jU:=hf.l;obtain⟨k,args,n0,a,d⟩:=f;simp only at hr jU;by_cases h0:k=4\/k=9
 case neg=>
  have e0:cP ⟨k,args,n0,a,d⟩ n=8:=by unfold cP;rw[if_pos (show k≠4/\k≠9 by omega)]
  have d4:decide (k=4)=false:=decide_eq_false Oz;have d9:decide (k=9)=false:=decide_eq_false Oz;have vU:decide (¬k=4)=true:=decide_eq_true Oz;have qy:decide (¬k=9)=true:=decide_eq_true Oz;rw[e0];refine aF Qd func31 TO λC hP=>?_;refine Sz4 d4 d9 vU qy ?_;exact Qb rfl rfl
 obtain⟨k0,hk0⟩:∃k0,k0=k:=⟨_,rfl⟩
 have fo:∀(d4 d9:Bool),decide (k=4)=d4->decide (k=9)=d9->d4= !d9->AC 31 [PV.dJ ⟨k,args,n0,a,d⟩,.int .i64 n] (· = .int .i64 (cP ⟨k,args,n0,a,d⟩ n)):=by
  intro b4 b9 d4 d9 Ev;have vU:decide (¬k=4)= !b4:=by rw[<-d4];simp
  have qy:decide (¬k=9)= !b9:=by rw[<-d9];simp
  subst Ev;refine aF Qd func31 TO λC hP=>?_;cases b9
  .have h0:k=4\/k=9:=.inl (of_decide_eq_true d4);have h9:¬k=9:=of_decide_eq_false d9;refine Sz4 d4 d9 vU qy ?_;refine Qm (λhl=>?_) (λhl=>?_)
   .refine Sz0 ?_;exact Qb (by unfold cP;rw[if_neg (show ¬(k≠4/\k≠9)by omega),if_pos (show args.length≠4 by omega)]) rfl
   replace hl:args.length=4:=by omega
   refine Sz0 ?_;refine Qh okB [(4,4),(6,6),(22,33)] [] (λm J hp=>∃i,m=args.length-i/\i<=args.length/\(∀j (h:j<args.length),j<i->0<=args[j]/\args[j]<n)/\J 22= .int .i64 (i:Nat)/\hp 2=some ⟨5,65,[PV.dJ ⟨k,args,n0,a,d⟩],false⟩) args.length ?_ ?_
   .refine⟨0,rfl,Oz,Oz,?_⟩;refine Sz0 ?_;rfl
   rintro _ J h ⟨i,rfl,hi,h1,gJ,hb2⟩;refine aZ gJ (λhg=>?_) (λhg=>?_)
   .have au:i<args.length:=Oz;have h2:(args[i]<0\/n<=args[i])->cP ⟨k,args,n0,a,d⟩ n=2:=λh=>FQ (f:=⟨k,args,n0,a,d⟩) h0 hl au h
    have bI:0<=args[i]/\args[i]<n->∀j (h:j<args.length),j<i+1->0<=args[j]/\args[j]<n:=λh j hj fP=>by
     by_cases e:j=i
     .subst e;exact h
     .exact h1 j hj Oz
    generalize hx:args[i]=x at *
    refine Sz2 gJ hx ?_;refine Qo (λh3=>?_) (λh3=>?_)
    .refine Sz0 ?_;exact Qb (by rw[h2 (.inl h3)]) rfl
    refine bD (λh4=>?_) (λh4=>?_)
    .refine Sz0 ?_;exact Qb (by rw[h2 (.inr h4)]) rfl
    refine Sz1 gJ ?_;refine Qe (args.length-(i+1)) Oz ⟨i+1,rfl,Oz,bI ⟨by omega,Oz⟩,?_⟩;exact Tz1 hb2
   obtain rfl:i=args.length:=by omega
   have cX:=FR (f:=⟨k,args,n0,a,d⟩) (n:=n) h0 hl (λj hj=>h1 j hj hj);refine Sz2 hb2 d9 ?_;exact Qb (by rw[cX,if_neg (by simp[h9])]) rfl
  .have h0:k=4\/k=9:=.inr (of_decide_eq_true d9);have h9:k=9:=of_decide_eq_true d9;refine Sz4 d4 d9 vU qy ?_;refine Qm (λhl=>?_) (λhl=>?_)
   .refine Sz0 ?_;exact Qb (by unfold cP;rw[if_neg (show ¬(k≠4/\k≠9)by omega),if_pos (show args.length≠4 by omega)]) rfl
   replace hl:args.length=4:=by omega
   refine Sz0 ?_;refine Qh okB [(4,4),(6,6),(22,33)] [] (λm J hp=>∃i,m=args.length-i/\i<=args.length/\(∀j (h:j<args.length),j<i->0<=args[j]/\args[j]<n)/\J 22= .int .i64 (i:Nat)/\hp 2=some ⟨5,65,[PV.dJ ⟨k,args,n0,a,d⟩],false⟩) args.length ?_ ?_
   .refine⟨0,rfl,Oz,Oz,?_⟩;refine Sz0 ?_;rfl
   rintro _ J h ⟨i,rfl,hi,h1,gJ,hb2⟩;refine aZ gJ (λhg=>?_) (λhg=>?_)
   .have au:i<args.length:=Oz;have h2:(args[i]<0\/n<=args[i])->cP ⟨k,args,n0,a,d⟩ n=2:=λh=>FQ (f:=⟨k,args,n0,a,d⟩) h0 hl au h
    have bI:0<=args[i]/\args[i]<n->∀j (h:j<args.length),j<i+1->0<=args[j]/\args[j]<n:=λh j hj fP=>by
     by_cases e:j=i
     .subst e;exact h
     .exact h1 j hj Oz
    generalize hx:args[i]=x at *
    refine Sz2 gJ hx ?_;refine Qo (λh3=>?_) (λh3=>?_)
    .refine Sz0 ?_;exact Qb (by rw[h2 (.inl h3)]) rfl
    refine bD (λh4=>?_) (λh4=>?_)
    .refine Sz0 ?_;exact Qb (by rw[h2 (.inr h4)]) rfl
    refine Sz1 gJ ?_;refine Qe (args.length-(i+1)) Oz ⟨i+1,rfl,Oz,bI ⟨by omega,Oz⟩,?_⟩;exact Tz1 hb2
   obtain rfl:i=args.length:=by omega
   have cX:=FR (f:=⟨k,args,n0,a,d⟩) (n:=n) h0 hl (λj hj=>h1 j hj hj);refine bE hb2 d9 hP hr ?_;cases hq:fL n0 a d
   .refine Sz2 hb2 d9 ?_;exact Qb (by rw[cX,if_pos ⟨h9,hq⟩]) rfl
   .refine Sz2 hb2 d9 ?_;exact Qb (by rw[cX,if_neg (by simp[hq])]) rfl
 rcases h0 with rfl|rfl
 .exact fo true false rfl rfl rfl
 .exact fo false true rfl rfl rfl
variable{G:List bB}{S:List bR}
def aia(hf:iA f):AC 44 [PV.cn S G,PV.dJ f] (· = .int .i64 (cP f (S.length:Nat))):=by
 have hr:=Cs hf.r Oz;have jU:=hf.l;obtain⟨k,args,n0,a,d⟩:=f;simp only at hr jU;by_cases h0:k=4\/k=9
 case neg=>
  have e0:cP ⟨k,args,n0,a,d⟩ (S.length:Nat)=8:=by unfold cP;rw[if_pos (show k≠4/\k≠9 by omega)]
  have d4:decide (k=4)=false:=decide_eq_false Oz;have d9:decide (k=9)=false:=decide_eq_false Oz;have vU:decide (¬k=4)=true:=decide_eq_true Oz;have qy:decide (¬k=9)=true:=decide_eq_true Oz;rw[e0];refine aF Qd func44 TP λC hP=>?_;refine Sz4 d4 d9 vU qy ?_;exact Qb rfl rfl
 have fo:∀(d4 d9:Bool),decide (k=4)=d4->decide (k=9)=d9->d4= !d9->AC 44 [PV.cn S G,PV.dJ ⟨k,args,n0,a,d⟩] (· = .int .i64 (cP ⟨k,args,n0,a,d⟩ (S.length:Nat))):=by
  intro b4 b9 d4 d9 Ev;have vU:decide (¬k=4)= !b4:=by rw[<-d4];simp
  have qy:decide (¬k=9)= !b9:=by rw[<-d9];simp
  subst Ev;refine aF Qd func44 TP λC hP=>?_;cases b9
  .have h0:k=4\/k=9:=.inl (of_decide_eq_true d4);have h9:¬k=9:=of_decide_eq_false d9;refine Sz4 d4 d9 vU qy ?_;refine Qm (λhl=>?_) (λhl=>?_)
   .refine Sz0 ?_;exact Qb (by unfold cP;rw[if_neg (show ¬(k≠4/\k≠9)by omega),if_pos (show args.length≠4 by omega)]) rfl
   replace hl:args.length=4:=by omega
   refine Sz0 ?_;refine Qh okB [(4,5),(18,38)] [] (λm J hp=>∃i,m=args.length-i/\i<=args.length/\(∀j (h:j<args.length),j<i->0<=args[j]/\args[j]<(S.length:Nat))/\J 5= .int .i64 (i:Nat)/\hp 2=some ⟨2,25,[PV.cn S G],false⟩/\hp 3=some ⟨5,65,[PV.dJ ⟨k,args,n0,a,d⟩],false⟩) args.length ?_ ?_
   .refine⟨0,rfl,Oz,Oz,?_⟩;refine Sz0 ?_;rfl
   rintro _ J h ⟨i,rfl,hi,h1,gJ,hb2,m9⟩;refine aZ gJ (λhg=>?_) (λhg=>?_)
   .have au:i<args.length:=Oz;have h2:(args[i]<0\/(S.length:Nat)<=args[i])->cP ⟨k,args,n0,a,d⟩ (S.length:Nat)=2:=λh=>FQ (f:=⟨k,args,n0,a,d⟩) h0 hl au h
    have bI:0<=args[i]/\args[i]<(S.length:Nat)->∀j (h:j<args.length),j<i+1->0<=args[j]/\args[j]<(S.length:Nat):=λh j hj fP=>by
     by_cases e:j=i
     .subst e;exact h
     .exact h1 j hj Oz
    generalize hx:args[i]=x at *
    refine Sz3 gJ hx m9 ?_;refine Qo (λh3=>?_) (λh3=>?_)
    .refine Sz0 ?_;exact Qb (by rw[h2 (.inl h3)]) rfl
    refine Sz4 gJ hx m9 hb2 ?_;refine Qm (λh4=>?_) (λh4=>?_)
    .refine Sz0 ?_;exact Qb (by rw[h2 (.inr h4)]) rfl
    refine Sz1 gJ ?_;refine Qe (args.length-(i+1)) Oz ⟨i+1,rfl,Oz,bI ⟨by omega,Oz⟩,?_⟩;refine Sz2 hb2 m9 ?_;trivial
   have cX:=FR (f:=⟨k,args,n0,a,d⟩) (n:=(S.length:Nat)) h0 hl (λj hj=>h1 j hj (by have q:j<args.length:=hj;omega));refine Sz2 m9 d9 ?_;exact Qb (by rw[cX,if_neg (by simp[h9])]) rfl
  .have h0:k=4\/k=9:=.inr (of_decide_eq_true d9);have h9:k=9:=of_decide_eq_true d9;refine Sz4 d4 d9 vU qy ?_;refine Qm (λhl=>?_) (λhl=>?_)
   .refine Sz0 ?_;exact Qb (by unfold cP;rw[if_neg (show ¬(k≠4/\k≠9)by omega),if_pos (show args.length≠4 by omega)]) rfl
   replace hl:args.length=4:=by omega
   refine Sz0 ?_;refine Qh okB [(4,5),(18,38)] [] (λm J hp=>∃i,m=args.length-i/\i<=args.length/\(∀j (h:j<args.length),j<i->0<=args[j]/\args[j]<(S.length:Nat))/\J 5= .int .i64 (i:Nat)/\hp 2=some ⟨2,25,[PV.cn S G],false⟩/\hp 3=some ⟨5,65,[PV.dJ ⟨k,args,n0,a,d⟩],false⟩) args.length ?_ ?_
   .refine⟨0,rfl,Oz,Oz,?_⟩;refine Sz0 ?_;rfl
   rintro _ J h ⟨i,rfl,hi,h1,gJ,hb2,m9⟩;refine aZ gJ (λhg=>?_) (λhg=>?_)
   .have au:i<args.length:=Oz;have h2:(args[i]<0\/(S.length:Nat)<=args[i])->cP ⟨k,args,n0,a,d⟩ (S.length:Nat)=2:=λh=>FQ (f:=⟨k,args,n0,a,d⟩) h0 hl au h
    have bI:0<=args[i]/\args[i]<(S.length:Nat)->∀j (h:j<args.length),j<i+1->0<=args[j]/\args[j]<(S.length:Nat):=λh j hj fP=>by
     by_cases e:j=i
     .subst e;exact h
     .exact h1 j hj Oz
    generalize hx:args[i]=x at *
    refine Sz3 gJ hx m9 ?_;refine Qo (λh3=>?_) (λh3=>?_)
    .refine Sz0 ?_;exact Qb (by rw[h2 (.inl h3)]) rfl
    refine Sz4 gJ hx m9 hb2 ?_;refine Qm (λh4=>?_) (λh4=>?_)
    .refine Sz0 ?_;exact Qb (by rw[h2 (.inr h4)]) rfl
    refine Sz1 gJ ?_;refine Qe (args.length-(i+1)) Oz ⟨i+1,rfl,Oz,bI ⟨by omega,Oz⟩,?_⟩;refine Sz2 hb2 m9 ?_;trivial
   have cX:=FR (f:=⟨k,args,n0,a,d⟩) (n:=(S.length:Nat)) h0 hl (λj hj=>h1 j hj (by have q:j<args.length:=hj;omega));refine bE m9 d9 hP hr ?_;cases hq:fL n0 a d
   .refine Sz2 m9 d9 ?_;exact Qb (by rw[cX,if_pos ⟨h9,hq⟩]) rfl
   .refine Sz2 m9 d9 ?_;exact Qb (by rw[cX,if_neg (by simp[hq])]) rfl
 rcases h0 with rfl|rfl
 .exact fo true false rfl rfl rfl
 .exact fo false true rfl rfl rfl
def kZ(k:Int):Bool:=decide (k=1\/k=2\/k=3\/k=4\/k=5)
def akD(hS:S.length<=1000):AC 30 [PV.cn S G] (· = .bool (S.all λs=>kZ s.k)):=by
 refine aF Qd func30 acR λC hP=>?_;refine Sz0 ?_;refine Qh okB [(2,2),(4,4),(8,20)] [4] (λm J hp=>∃i:Nat,m=S.length-i/\i<=S.length/\(∀j (h:j<S.length),j<i->kZ S[j].k=true)/\J 8= .int .i64 (i:Nat)/\hp 1=some ⟨2,25,[PV.cn S G],false⟩) S.length ?_ ?_
 .refine⟨0,rfl,Oz,Oz,?_⟩;refine Sz0 ?_;rfl
 rintro _ J h ⟨i,rfl,hi,h1,j1,hb1⟩;refine cH j1 hb1 (λhg=>?_) (λhg=>?_)
 .have au:i<S.length:=Oz;have gG:kZ S[i].k=false->S.all (λs=>kZ s.k)=false:=λh=>Kcb.2 ⟨_,Kad au,by rw[h];decide⟩
  have bI:kZ S[i].k=true->∀j (h:j<S.length),j<i+1->kZ S[j].k=true:=λh j hj fP=>by
   by_cases e:j=i
   .subst e;exact h
   .exact h1 j hj Oz
  generalize hx:S[i]=x at *
  by_cases hk:x.k=1\/x.k=2\/x.k=3\/x.k=4\/x.k=5
  .have qO:=bI (decide_eq_true hk);obtain⟨k,EL⟩:∃k,x.k=k:=⟨_,rfl⟩
   rw[EL]at hk;rcases hk with rfl|rfl|rfl|rfl|rfl
   all_goals
    refine Sz4 j1 hx hb1 EL ?_;refine Qe (S.length-(i+1)) Oz ⟨i+1,rfl,Oz,qO,?_⟩;exact Tz1 hb1
  .have e1:decide (x.k=1)=false:=decide_eq_false Oz;have e2:decide (x.k=2)=false:=decide_eq_false Oz;have e3:decide (x.k=3)=false:=decide_eq_false Oz;have e4:decide (x.k=4)=false:=decide_eq_false Oz;have e5:decide (x.k=5)=false:=decide_eq_false Oz;have f1:decide (¬x.k=1)=true:=decide_eq_true Oz;have f2:decide (¬x.k=2)=true:=decide_eq_true Oz;have f3:decide (¬x.k=3)=true:=decide_eq_true Oz;have f4:decide (¬x.k=4)=true:=decide_eq_true Oz;have f5:decide (¬x.k=5)=true:=decide_eq_true Oz;refine Ci j1 hx hb1 e1 e2 e3 e4 e5 f1 f2 f3 f4 f5 ?_;exact Qb (by rw[gG (decide_eq_false hk)]) rfl
 refine Sz0 ?_;exact Qb (by rw[Kas.2 λs hs=>by obtain⟨j,hj,rfl⟩:=KaH hs;exact h1 j hj Oz]) rfl
def aib(hS:S.length<=1000):AC 43 [PV.cn S G] (· = .bool (S.all λs=>kZ s.k)):=by
 refine aF Qd func43 adB λC hP=>?_;refine Sz0 ?_;refine Qh okB [(2,35)] [] (λm J hp=>∃i:Nat,m=S.length-i/\i<=S.length/\(∀j (h:j<S.length),j<i->kZ S[j].k=true)/\J 3= .int .i64 (i:Nat)/\hp 1=some ⟨2,25,[PV.cn S G],false⟩) S.length ?_ ?_
 .refine⟨0,rfl,Oz,Oz,?_⟩;refine Sz0 ?_;rfl
 rintro _ J h ⟨i,rfl,hi,h1,j1,hb1⟩;refine cH j1 hb1 (λhg=>?_) (λhg=>?_)
 .have au:i<S.length:=Oz;have gG:kZ S[i].k=false->S.all (λs=>kZ s.k)=false:=λh=>Kcb.2 ⟨_,Kad au,by rw[h];decide⟩
  have bI:kZ S[i].k=true->∀j (h:j<S.length),j<i+1->kZ S[j].k=true:=λh j hj fP=>by
   by_cases e:j=i
   .subst e;exact h
   .exact h1 j hj Oz
  generalize hx:S[i]=x at *
  by_cases hk:x.k=1\/x.k=2\/x.k=3\/x.k=4\/x.k=5
  .have qO:=bI (decide_eq_true hk);obtain⟨k,EL⟩:∃k,x.k=k:=⟨_,rfl⟩
   rw[EL]at hk;rcases hk with rfl|rfl|rfl|rfl|rfl
   all_goals
    refine Sz4 j1 hx hb1 EL ?_;refine Qe (S.length-(i+1)) Oz ⟨i+1,rfl,Oz,qO,?_⟩;exact Tz1 hb1
  .have e1:decide (x.k=1)=false:=decide_eq_false Oz;have e2:decide (x.k=2)=false:=decide_eq_false Oz;have e3:decide (x.k=3)=false:=decide_eq_false Oz;have e4:decide (x.k=4)=false:=decide_eq_false Oz;have e5:decide (x.k=5)=false:=decide_eq_false Oz;have f1:decide (¬x.k=1)=true:=decide_eq_true Oz;have f2:decide (¬x.k=2)=true:=decide_eq_true Oz;have f3:decide (¬x.k=3)=true:=decide_eq_true Oz;have f4:decide (¬x.k=4)=true:=decide_eq_true Oz;have f5:decide (¬x.k=5)=true:=decide_eq_true Oz;refine Ci j1 hx hb1 e1 e2 e3 e4 e5 f1 f2 f3 f4 f5 ?_;exact Qb (by rw[gG (decide_eq_false hk)]) rfl
 refine Sz0 ?_;exact Qb (by rw[Kas.2 λs hs=>by obtain⟨j,hj,rfl⟩:=KaH hs;exact h1 j hj Oz]) rfl
variable{T:Nat}{p q:List Tm}{t:Tm}
def agc(x:Int):AC 90 [.int .i64 x] (· = .bool (decide (1048576<x))):=by refine aF Qd func90 adv λC hP=>?_;exact cf
def aic(h:t.2.length<=2^36):AC 88 [PV.term t] (· = .bool (t.2.any λx=>decide (1048576<x))):=by refine aF Qd func88 acT λC hP=>?_;refine ay hP (UM (λx _=>agc x) h) ?_;exact cf
def akE{E:Nat}(hp:∀t∈p,MB E t.2)(dC:p.length<=2^36):AC 41 [PV.aC p] (· = .bool (ku p)):=by
 refine aF Qd func41 acS λC hP=>?_;refine Sz0 ?_;refine Qo (λh=>?_) (λh=>?_)
 .refine Sz0 ?_;exact Qb (congrArg PV.bool (by rw[ku,decide_eq_true Oz,Bool.true_or])) rfl
 .refine ay hP (UL (λt ht=>aic (by have:=(hp t ht).len;omega)) dC) ?_;refine Sz0 ?_;exact Qb (congrArg PV.bool (by rw[ku,decide_eq_false Oz,Bool.false_or])) rfl
def pQ(p:List Tm):Option (List Tm):=if ku p then none else some p
def PV.pT:Option (List Tm)->PV
 |some p=>.aI [PV.aC p,.int .i64 0]
 |none=>.aI [PV.aC [],.int .i64 4]
def akF{K E:Nat}(hp:PQ T K E p)(hq:PQ T K E q)(hT:T<=2^30)(hK:K<=2^30)(hE:E<=2^30):AC 39 [PV.aC p,PV.aC q] (· =PV.pT (pQ (Qp p q))):=by
 have h1:=tV hp hq hT Oz Oz;have hs:=hp.add hq;have h2:=akE (E:=E) (λt ht=>(hs.b t ht).2) (by have:=hs.l;omega);refine aF Qd func39 adz λC hP=>?_;refine ay hP h1 ?_;refine ay hP h2 ?_;cases hl:ku (Qp p q)
 .have e:PV.pT (pQ (Qp p q))= .aI [PV.aC (Qp p q),.int .i64 0]:=by unfold pQ;rw[hl];rfl
  refine Sz0 ?_;exact ek e rfl rfl (Qi _) (Qi _)
 .have e:PV.pT (pQ (Qp p q))= .aI [PV.aC [],.int .i64 4]:=by unfold pQ;rw[hl];rfl
  refine Sz0 ?_;exact ek e rfl rfl (p':=PV.aC []) trivial (Qi _)
def gS(one:Nat->List Tm):Nat->Option (List Tm)
 |0=>some []
 |i+1=>(gS one i).bind λp=>pQ (Qp p (one i))
def Mr{one:Nat->List Tm}{i:Nat}(h:gS one i=none):∀k,gS one (i+k)=none
 |0=>h
 |k+1=>by rw[<-Nat.add_assoc,gS,Mr h k];rfl
def akG{n f g:Nat}{c1 c2:List PV}{one:Nat->List Tm}(hn:n<=1000)(xS:∀i,i<n->AC f [.int .i64 (i:Nat),.pt c1,.pt c2] (· =PV.aC (one i)))
  (bI:∀i p,i<n->gS one i=some p->AC g [PV.aC p,PV.aC (one i)] (· =PV.pT (pQ (Qp p (one i))))):
  AC 38 [.int .i64 (n:Nat),PV.aC [],.fn f [] [.pt c1,.pt c2],.fn g [] []] (· =PV.pT (gS one n)):=by
 refine aF Qd func38 adA λC hP=>?_;refine Sz0 ?_;refine Qh okB [(8,13),(16,33)] [] (λm J hp=>∃(i:Nat)(p:List Tm),m=n-i/\i<=n/\gS one i=some p/\J 16= .int .i64 (i:Nat)/\J 10=PV.aC p) n ?_ ?_
 .refine⟨0,[],rfl,Oz,rfl,?_⟩;refine Sz0 ?_;rfl
 rintro _ J h ⟨i,p,rfl,hi,hp,oQ,gi⟩;refine cH oQ gi (λhg=>?_) (λhg=>?_)
 .have au:i<n:=Oz;have h1:=xS i au;have h2:=bI i p au hp;have il:gS one (i+1)=pQ (Qp p (one i)):=by rw[gS,hp];rfl
  refine bE oQ gi hP h1 ?_;refine bE oQ gi hP h2 ?_;cases hl:pQ (Qp p (one i))with
  | none=>
   have e:PV.pT (gS one n)= .aI [PV.aC [],.int .i64 4]:=by rw[show n=i+1+(n-(i+1))by omega,Mr (by rw[il,hl])];rfl
   simp only[PV.pT];refine Sz2 oQ gi ?_;exact ek e rfl rfl (Qi _) (Qi _)
  |some q=>simp only[PV.pT];refine Sz2 oQ gi ?_;refine Qe (n-(i+1)) Oz ⟨i+1,q,rfl,Oz,by rw[il,hl],?_⟩;refine Sz0 ?_;trivial
 obtain rfl:i=n:=by omega
 have e:PV.pT (gS one i)= .aI [PV.aC p,.int .i64 0]:=by rw[hp];rfl
 refine Sz1 gi ?_;exact ek e rfl rfl (Qi _) (Qi _)
abbrev PV.qA(cs:List Cd)(vs:List Vr):PV:=.pt [.sl 2 (cs.map PV.bj),.sl 3 (vs.map PV.fvar)]
def RX{a b:Nat}(ha:a<cs.length)(hb:b<cs.length)(hl:cs.length<=1000)(hc:∀c∈cs,CB c):
  AC 32 [.int .i64 (a:Nat),.int .i64 (b:Nat),PV.qA cs vs] (· =PV.aC (jP cs[a] cs[b] cs[a] cs[b])):=by
 have ca:=hc _ (Kad ha);have cb:=hc _ (Kad hb);obtain⟨x,hx⟩:∃x,cs[a]=x:=⟨_,rfl⟩
 obtain⟨y,hy⟩:∃y,cs[b]=y:=⟨_,rfl⟩
 rw[hx]at ca;rw[hy]at cb;have h:=aen ca cb ca cb;rw[hx,hy];refine aF Qd func32 adx λC hP=>?_;refine Sz2 hx hy ?_
 repeat' first
  |refine fU ?_ ?_
  |refine Qy hP h ?_
  |simp+decide (disch:=try exact D2 hx hy) only[go_sem,hx,hy]
 all_goals exact Qb rfl rfl
def ki(cs:List Cd)(f:bB):List Tm:=
 bX (jP (cs.getD (f.args.getD 0 0).toNat ([],[])) (cs.getD (f.args.getD 1 0).toNat ([],[])) (cs.getD (f.args.getD 0 0).toNat ([],[])) (cs.getD (f.args.getD 1 0).toNat ([],[])))
  (ee (jP (cs.getD (f.args.getD 2 0).toNat ([],[])) (cs.getD (f.args.getD 3 0).toNat ([],[])) (cs.getD (f.args.getD 2 0).toNat ([],[])) (cs.getD (f.args.getD 3 0).toNat ([],[]))) (if f.k=9 then rv f.n f.a f.d else 1))
structure Ak(m:Nat)(f:bB):Prop where
 k:f.k=4\/f.k=9
 l:∃a b c d:Nat,f.args=[(a:Int),(b:Int),(c:Int),(d:Int)]/\a<m/\b<m/\c<m/\d<m
 r:f.k=9->PV.rr f.n f.a f.d=PV.rat (rv f.n f.a f.d)/\rs (rv f.n f.a f.d)<=1000
def ru{a:Nat}(h:a<cs.length):cs.getD ((a:Int)).toNat ([],[])=cs[a]:=by rw[Kbi,Kac,Kae h];rfl
def akH(hi:i<G.length)(hG:G.length<=1000)(hl:cs.length<=1000)(hc:∀c∈cs,CB c)(aT:Ak cs.length G[i]):
  AC 34 [.int .i64 (i:Nat),.pt [.sl 5 (G.map PV.dJ)],.pt [.fn 32 [] [PV.qA cs vs]]] (· =PV.aC (ki cs G[i])):=by
 obtain⟨f,hf⟩:∃f,G[i]=f:=⟨_,rfl⟩
 rw[hf]at aT⊢;obtain⟨a,b,c,d,ha,h1,h2,h3,h4⟩:=aT.l;have hr:=aT.r;have hk:=aT.k;obtain⟨k,args,n0,x,y⟩:=f;simp only at ha hr hk;subst ha;have q1:=vb (x:=1) Oz Oz;have p1:=RX (vs:=vs) h1 h2 hl hc;have p2:=RX (vs:=vs) h3 h4 hl hc;have ca:=hc _ (Kad h1);have cb:=hc _ (Kad h2);have cc:=hc _ (Kad h3);have cd:=hc _ (Kad h4);have b2:=HG cc cd cc cd;have et:∀r:Rat,(if k=9 then rv n0 x y else 1)=r->ki cs ⟨k,[(a:Int),(b:Int),(c:Int),(d:Int)],n0,x,y⟩=bX (jP cs[a] cs[b] cs[a] cs[b]) (ee (jP cs[c] cs[d] cs[c] cs[d]) r):=λr h=>by have g1:=ru h1;have g2:=ru h2;have g3:=ru h3;have g4:=ru h4;show bX (jP (cs.getD ((a:Int)).toNat ([],[])) (cs.getD ((b:Int)).toNat ([],[])) (cs.getD ((a:Int)).toNat ([],[])) (cs.getD ((b:Int)).toNat ([],[]))) (ee (jP (cs.getD ((c:Int)).toNat ([],[])) (cs.getD ((d:Int)).toNat ([],[])) (cs.getD ((c:Int)).toNat ([],[])) (cs.getD ((d:Int)).toNat ([],[]))) (if k=9 then rv n0 x y else 1))=_;rw[g1,g2,g3,g4,h]
 have fo:∀(r:Rat)(b9:Bool),(if k=9 then rv n0 x y else 1)=r->rs r<=1000->decide (k=9)=b9->(b9=true->PV.rr n0 x y=PV.rat r)->(b9=false->((1:Int):Rat)=r)->
   AC 34 [.int .i64 (i:Nat),.pt [.sl 5 (G.map PV.dJ)],.pt [.fn 32 [] [PV.qA cs vs]]] (· =PV.aC (ki cs ⟨k,[(a:Int),(b:Int),(c:Int),(d:Int)],n0,x,y⟩)):=by
  intro r b9 wo cU d9 ht NY;rw[et r wo];have s:=RE b2 (a:=r) Oz Oz Oz Oz;have f6:=DD (T:=524288) (K:=2^29+8196) (E:=200) ((HG ca cb ca cb).mono Oz Oz Oz) ((b2.scale (a:=r) (L:=1025) Oz).mono Oz Oz Oz) Oz Oz Oz;generalize hA:jP cs[a] cs[b] cs[a] cs[b]=P1 at *
  generalize hB:jP cs[c] cs[d] cs[c] cs[d]=P2 at *
  refine aF Qd func34 ady λC hP=>?_;cases b9
  .obtain rfl:=NY rfl;refine gE hf hP q1 ?_;refine Sz2 hf d9 ?_
   repeat' first
    |refine fU ?_ ?_
    |refine Qy hP p1 ?_
    |refine Qy hP p2 ?_
    |refine Qy hP s ?_
    |refine Qy hP f6 ?_
    |simp+decide (disch:=try exact D2 hf d9) only[go_sem,hf,d9]
   all_goals exact Qb rfl rfl
  .have rY:=ht rfl;refine gE hf hP q1 ?_;refine Sz3 hf d9 rY ?_
   repeat' first
    |refine fU ?_ ?_
    |refine Qy hP p1 ?_
    |refine Qy hP p2 ?_
    |refine Qy hP s ?_
    |refine Qy hP f6 ?_
    |simp+decide (disch:=try exact D3 hf d9 rY) only[go_sem,hf,d9,rY]
   all_goals exact Qb rfl rfl
 rcases hk with rfl|rfl
 .exact fo 1 false rfl (by have:=ph;omega) rfl (by simp) (by simp)
 .exact fo _ true rfl (hr rfl).2 rfl (λ_=>(hr rfl).1) (by simp)
end Go.Proofs.YtikalonaompbdaaGreat
namespace Go.FW
open Go
def Ui(x y:Int)(hy:y≠0):rs ((x:Rat)/(y:Rat))<=max (nl x.natAbs) (max (nl y.natAbs) 1):=by
 rw[<-WX x y hy];have:=Hk (zv (decide (x<0) !=decide (y<0)) (aw x.natAbs)) y.natAbs
 rwa[lh,Qx]at this
def KV(q:Rat)(h:q≠0):rs q⁻¹ <=rs q:=by
 have hn:q.num≠0:=λe=>h (Rat.num_eq_zero.1 e)
 have e:q⁻¹ =(((q.den:Int):Int):Rat)/((q.num:Int):Rat):=by
  have d1:q=(q.num:Rat)/((q.den:Int):Rat):=by
   conv=>lhs;rw[<-Rat.mkRat_self q]
   rw[Kcy,Rat.intCast_natCast]
  have k1:((q.den:Int):Rat)≠0:=by rw[Ne,KbQ];have:=q.den_nz;omega
  have k3:((q.num:Int):Rat)≠0:=by rw[Ne,KbQ];exact hn
  generalize(q.num:Rat)=A at *
  generalize((q.den:Int):Rat)=D at *
  rw[d1];grind
 have h2:=Ui (q.den:Int) q.num hn;have h3:=KJ q;rw[e];unfold rs at h3⊢;unfold rs at h2;rw[KbH]at h2;have h4:1<=nl q.den:=by have:=q.den_nz;apply Decidable.byContradiction;intro hc;exact this (GB.1 Oz)
 omega
def ayG(c:Rat):Rat:=if c<0 then -c else c
def c4(m:List Int):Nat:=(((eN m 3).toNat*81+(eN m 2).toNat)*729+(eN m 1).toNat)*6561+(eN m 0).toNat
def n1:List Tm->Rat
 | []=>0
 |t::p=>ayG t.1+n1 p
def dK:Nat->Nat
 |0=>5
 |k+1=>10*dK k+62
def dE:Nat->Nat
 |0=>4
 |k+1=>3*dE k
def dL:Nat->Nat
 |0=>5
 |k+1=>10*dL k
def d5{k:Nat}(h:k<=5):dK k<=1188882/\dE k<=972/\dL k<=500000/\(k<5->dK k<=118882):=by have:k=0\/k=1\/k=2\/k=3\/k=4\/k=5:=Oz;rcases this with rfl|rfl|rfl|rfl|rfl|rfl<;>decide
end Go.FW
