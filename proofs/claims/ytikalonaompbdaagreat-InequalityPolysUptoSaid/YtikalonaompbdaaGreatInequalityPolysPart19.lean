/- Part 19 of the proof of InequalityPolys: B20, A8, A9, A10, A11, P5, U6, P6, V1, B4, B6, B7, B8, FwVE, FwVF. Own lemmas; no conditions. -/
import Derived.Test.YtikalonaompbdaaGreatInequalityPolysPart18
set_option maxHeartbeats 1000000
set_option linter.all false
set_option maxRecDepth 100000
namespace Go.Proofs.YtikalonaompbdaaGreat
open Go.Proofs.Tryz
open Go Go.FW
variable{R:Nat}
def Q9e{n:Nat}(hn:n<=2^30):jc Tryz.prog 347 [.int .i64 (n:Nat)] (λ_=>.undef) aB (λr _ H=>r= .ms 2000000 n/\H 2000000=some ⟨3,49,aR PV.rat (λ_=>(0:Rat)) n,false⟩):=by
 refine jd Qd func347 rfl (rh Sp) Nz λC hP=>?_;simp only[Xt];refine cC ?_;refine Sz0 ?_;refine Qh okB [(4,4),(9,16)] [] (λq J hp=>∃i xs,q=n-i/\i<=n/\J 9= .int .i64 (i:Nat)/\xs.length=n/\hp 6=some ⟨3,49,xs,false⟩/\hp 2000000=none/\∀j,j<i->xs[j]? =some (PV.rat 0)) n ?_ ?_
 .refine⟨0,List.replicate n (.agg [.bool false,.aa,.aa]),rfl,Oz,?_⟩;refine Sz0 ?_;exact⟨rfl,by simp,λj hj=>by omega⟩
 rintro _ J h ⟨i,xs,rfl,hi,h9,hl,h6,hN,hx⟩;refine aZ h9 (λhg=>?_) (λhg=>?_)
 .have au:i<n:=Oz;refine gE h9 hP (qt (x:=0) Oz Oz) ?_;rw[show((0:Int):Rat)=0 from rfl];generalize(0:Rat)=z at *
  refine Sz2 h9 h6 ?_;rw[va (n:=3) (xs:=xs) (v:=PV.rat z) Oz rfl rfl];refine Sz1 h9 ?_;refine Qe (n-(i+1)) Oz ⟨i+1,xs.set i (PV.rat z),rfl,Oz,?_⟩;refine Sz1 @hN ?_;refine⟨by simp[hl],λj hj=>?_⟩;rw[KcM];by_cases e:i=j
  .rw[if_pos e,if_pos Oz]
  .rw[if_neg e];exact hx j Oz
 .obtain rfl:i=n:=by omega
  have e:xs=aR PV.rat (λ_=>(0:Rat)) i:=by
   refine Ka9 (by simp[aR,hl]) λj h1 h2=>?_
   have:=hx j Oz;rw[Kae h1]at this;rw[rm];exact Kbn this
  refine Sz2 h9 h6 ?_;refine aln (kv 6 2000000 (Tz1 @hN) Oz rfl Oz) ?_;refine MR ?_;exact Tz2 h6 e
def ad1:∀x,kX R x=true->2000000<=x:=λx hx=>by rcases xd hx with rfl|h<;>omega
variable{M:MF}{ty tyr:Nat}
def apd{n:Nat}(hn:n<=2^30):AC 347 [.int .i64 (n:Nat)] (· = .sl 3 (aR PV.rat (λ_=>(0:Rat)) n)):=by
 refine aF Qd func347 Sp λC hP=>?_;refine Sz0 ?_;refine Qh okB [(4,4),(9,16)] [] (λq J hp=>∃i xs,q=n-i/\i<=n/\J 9= .int .i64 (i:Nat)/\xs.length=n/\hp 6=some ⟨3,49,xs,false⟩/\∀j,j<i->xs[j]? =some (PV.rat 0)) n ?_ ?_
 .refine⟨0,List.replicate n (.agg [.bool false,.aa,.aa]),rfl,Oz,?_⟩;refine Sz0 ?_;exact⟨rfl,by simp,λj hj=>by omega⟩
 rintro _ J h ⟨i,xs,rfl,hi,h9,hl,h6,hx⟩;refine aZ h9 (λhg=>?_) (λhg=>?_)
 .have au:i<n:=Oz;refine gE h9 hP (qt (x:=0) Oz Oz) ?_;rw[show((0:Int):Rat)=0 from rfl];generalize(0:Rat)=z at *
  refine Sz2 h9 h6 ?_;rw[va (n:=3) (xs:=xs) (v:=PV.rat z) Oz rfl rfl];refine Sz1 h9 ?_;refine Qe (n-(i+1)) Oz ⟨i+1,xs.set i (PV.rat z),rfl,Oz,?_⟩;refine Sz0 ?_;refine⟨by simp[hl],λj hj=>?_⟩;rw[KcM];by_cases e:i=j
  .rw[if_pos e,if_pos Oz]
  .rw[if_neg e];exact hx j Oz
 .obtain rfl:i=n:=by omega
  have e:xs=aR PV.rat (λ_=>(0:Rat)) i:=by
   refine Ka9 (by simp[aR,hl]) λj h1 h2=>?_
   have:=hx j Oz;rw[Kae h1]at this;rw[rm];exact Kbn this
  refine Sz2 h9 h6 ?_;refine Qb ?_ ?_
  .refine mu h6 e ?_;rw[Kaf (by rw[lQ];omega)]
  .exact Bx h6
def WY{x y:Nat->Rat}{c:Rat}{w ty1 ty2 k:Nat}(hw:w<=2^30)(hx:∀i,i<w->rs (x i)<=k)(hy:∀i,i<w->rs (y i)<=k)(hc:rs c<=k)(hk:k<=2^33):
  jc Tryz.prog 346 [.ms 1500000 w,.ms 1500001 w,PV.rat c] (λ_=>.undef) (Qg (Qg aB 1500000 ⟨3,ty1,aR PV.rat x w,true⟩) 1500001 ⟨3,ty2,aR PV.rat y w,true⟩) (λr _ _=>r= .sl 3 (aR PV.rat (sK x y c) w)):=by
 refine jd Qd func346 rfl Ss Nz λC hP=>?_;simp only[M9];refine cC ?_;refine Sz0 ?_;refine Qh okB [(8,8),(14,31)] [] (λq J hp=>∃i xs,q=w-i/\i<=w/\J 14= .int .i64 (i:Nat)/\xs.length=w/\hp 11=some ⟨3,49,xs,false⟩/\hp 5=some ⟨3,49,[PV.rat c],false⟩/\hp 1500000=some ⟨3,ty1,aR PV.rat x w,true⟩/\hp 1500001=some ⟨3,ty2,aR PV.rat y w,true⟩/\∀j,j<i->xs[j]? =some (PV.rat (sK x y c j))) w ?_ ?_
 .refine⟨0,List.replicate w (.agg [.bool false,.aa,.aa]),rfl,by omega,?_⟩;refine Sz0 ?_;exact⟨rfl,by simp,λj hj=>by omega⟩
 rintro _ J h ⟨i,xs,rfl,hi,fD,hl,cE,h5,nn,lG,oO⟩;refine Sz1 fD ?_;refine Qm (λhg=>?_) (λhg=>?_)
 .have au:i<w:=by omega
  have h1:=hx i au;have h2:=hy i au;have hm:=mO c (y i);refine Sz5 fD cE h5 nn lG ?_;refine Qy hP (nI (k:=k) hc h2 (by omega)) ?_;refine Sz5 fD cE h5 nn lG ?_;refine Qy hP (tY (k:=2*k) (by omega) (by omega) (by omega)) ?_;refine Sz5 fD cE h5 nn lG ?_;rw[va (n:=3) (xs:=xs) (v:=PV.rat (x i+c*y i)) (by omega) rfl rfl];refine Sz1 fD ?_;refine Qe (w-(i+1)) (by omega) ⟨i+1,xs.set i (PV.rat (x i+c*y i)),rfl,by omega,?_⟩;refine Sz3 h5 nn lG ?_;refine⟨by simp[hl],λj hj=>?_⟩;rw[KcM];by_cases e:i=j
  .subst e;rw[if_pos rfl,if_pos (by omega)];rfl
  .rw[if_neg e];exact oO j (by omega)
 .obtain rfl:i=w:=by omega
  have e:xs=aR PV.rat (sK x y c) i:=by
   refine Ka9 (by simp[aR,hl]) λj h1 h2=>?_
   have:=oO j (by omega);rw[Kae h1]at this;rw[rm];exact Kbn this
  refine Sz2 fD cE ?_;refine rp ?_;refine Sz1 cE ?_;refine Qb ?_ ?_
  .refine mu cE e ?_;rw[Kaf (by rw[lQ];omega)]
  .exact Bx cE
def Q9f{x y:Nat->Rat}{c:Rat}{w ty2 k:Nat}(hw:w<=2^30)(hx:∀i,i<w->rs (x i)<=k)(hy:∀i,i<w->rs (y i)<=k)(hc:rs c<=k)(hk:k<=2^33):
  jc Tryz.prog 346 [.sl 3 (aR PV.rat x w),.ms 1500001 w,PV.rat c] (λ_=>.undef) (Qg aB 1500001 ⟨3,ty2,aR PV.rat y w,true⟩) (λr _ _=>r= .sl 3 (aR PV.rat (sK x y c) w)):=by
 have l9:(aR PV.rat x w).length=w:=lQ _ _ _;refine jd Qd func346 rfl Ss Nz λC hP=>?_;simp only[M9];refine cC ?_;refine Sz1 l9 ?_;refine Qh okB [(8,8),(14,31)] [] (λq J hp=>∃i xs,q=w-i/\i<=w/\J 14= .int .i64 (i:Nat)/\xs.length=w/\hp 11=some ⟨3,49,xs,false⟩/\hp 5=some ⟨3,49,[PV.rat c],false⟩/\hp 1500001=some ⟨3,ty2,aR PV.rat y w,true⟩/\∀j,j<i->xs[j]? =some (PV.rat (sK x y c j))) w ?_ ?_
 .refine⟨0,List.replicate w (.agg [.bool false,.aa,.aa]),rfl,by omega,?_⟩;refine Sz0 ?_;exact⟨rfl,by simp,λj hj=>by omega⟩
 rintro _ J h ⟨i,xs,rfl,hi,fD,hl,cE,h5,lG,oO⟩;refine Sz1 fD ?_;refine Qm (λhg=>?_) (λhg=>?_)
 .have au:i<w:=by omega
  have h1:=hx i au;have h2:=hy i au;have hm:=mO c (y i);refine Sz4 fD cE h5 lG ?_;refine Qy hP (nI (k:=k) hc h2 (by omega)) ?_;refine Sz4 fD cE h5 lG ?_;refine Qy hP (tY (k:=2*k) (by omega) (by omega) (by omega)) ?_;refine Sz4 fD cE h5 lG ?_;rw[va (n:=3) (xs:=xs) (v:=PV.rat (x i+c*y i)) (by omega) rfl rfl];refine Sz1 fD ?_;refine Qe (w-(i+1)) (by omega) ⟨i+1,xs.set i (PV.rat (x i+c*y i)),rfl,by omega,?_⟩;refine Sz2 h5 lG ?_;refine⟨by simp[hl],λj hj=>?_⟩;rw[KcM];by_cases e:i=j
  .subst e;rw[if_pos rfl,if_pos (by omega)];rfl
  .rw[if_neg e];exact oO j (by omega)
 .obtain rfl:i=w:=by omega
  have e:xs=aR PV.rat (sK x y c) i:=by
   refine Ka9 (by simp[aR,hl]) λj h1 h2=>?_
   have:=oO j (by omega);rw[Kae h1]at this;rw[rm];exact Kbn this
  refine Sz2 fD cE ?_;refine rp ?_;refine Sz1 cE ?_;refine Qb ?_ ?_
  .refine mu cE e ?_;rw[Kaf (by rw[lQ];omega)]
  .exact Bx cE
def sS(M:MF)(R:Nat):Prop:=∀i,i<R->∀k,k<i->M i k=M k i
instance {M : MF} {R : Nat} : Decidable (sS M R) := by unfold sS; infer_instance
def Q9g{K:Nat}(iF:R<=40)(hK:K<2^35)(hB:sj K R R M):
  jc Tryz.prog 281 [.aK 1500000 0 R] (ae (λ_=>.undef) 1500000 (.aH 1500000 1 ty (bn (cw 1600000 R R id))))
   (λx=>if x=1500000 then some ⟨1,ty,[],true⟩else if 1600000<=x/\x<1600000+R then some ⟨3,tyr,aR PV.rat (M (x-1600000)) R,true⟩else none) (λr _ _=>r= .bool (decide (sS M R))):=by
 refine jd Qd func281 rfl aoJ Nz λC hP=>?_;simp only[Xn];refine cC ?_;refine Sz0 ?_;refine je okB [(0,0),(2,4),(7,31),(1500000,1500000)] [] (λq J hp=>∃i,q=R-i/\i<=R/\J 0= .aK 1500000 0 R/\J 7= .int .i64 (i:Nat)/\J 1500000= .aH 1500000 1 ty (bn (cw 1600000 R R id))/\hp 1500000=some ⟨1,ty,[],true⟩/\(∀r,r<R->hp (1600000+r)=some ⟨3,tyr,aR PV.rat (M r) R,true⟩)/\∀j,j<i->∀k,k<j->M j k=M k j) R ?_ ?_
 .refine⟨0,rfl,Oz,?_⟩;refine Sz0 ?_;refine⟨rfl,λr hr=>?_,λj hj=>by omega⟩;rw[if_pos ⟨by omega,Oz⟩,KbD]
 rintro _ J h ⟨i,rfl,hi,h0,h7,hg,hh,hr,hs⟩;refine aZ h7 (λhc=>?_) (λhc=>?_)
 .have au:i<R:=Oz;refine Sz4 h0 h7 hg hh ?_;refine je okB [(0,0),(2,2),(4,4),(11,30),(1500000,1500000)] [] (λq J hp=>∃k,q=i-k/\k<=i/\J 0= .aK 1500000 0 R/\J 11= .int .i64 (k:Nat)/\J 1500000= .aH 1500000 1 ty (bn (cw 1600000 R R id))/\h=hp/\∀j,j<k->M i j=M j i) i ?_ ?_
  .refine⟨0,rfl,Oz,?_⟩;refine Sz2 h0 hg ?_;exact⟨rfl,λj hj=>by omega⟩
  rintro _ J2 _ ⟨k,rfl,hk,i0,i11,ig,rfl,is⟩;refine aZ i11 (λik=>?_) (λik=>?_)
  .have cY:k<i:=Oz;have r1:=hr i au;have r2:=hr k Oz;have b1:=hB i au k Oz;have b2:=hB k Oz i au;simp+decide (disch:=first|omega|rfl|(simp+decide only[go_sem,i0,i11,ig,hh,r1,r2,id]<;>rfl)|fail) only[go_sem,i0,i11,ig,hh,r1,r2,id];refine Qy hP (am3 (a:=M i k) (b:=M k i) b1 b2 Oz) ?_;by_cases e:M i k=M k i
   .refine Sz2 i11 e ?_;refine gO (i-(k+1)) Oz ⟨k+1,rfl,Oz,?_⟩;refine Sz2 i0 ig ?_;intro j hj;by_cases e2:j=k
    .subst e2;exact e
    .exact is j Oz
   .refine Sz1 e ?_;refine rp ?_;refine Sz0 ?_;refine Qb ?_ rfl;rw[decide_eq_false];exact λh=>e (h i au k cY)
  .refine Sz1 h7 ?_;simp (disch:=decide) only[rk,tG,gY,tI];refine gO (R-(i+1)) Oz ⟨i+1,rfl,Oz,?_⟩;refine Sz3 i0 ig hh ?_;refine⟨hr,λj hj k' cY=>?_⟩;by_cases e:j=i
   .subst e;exact is k' Oz
   .exact hs j Oz k' cY
 .refine Sz0 ?_;refine rp ?_;refine Sz0 ?_;refine Qb ?_ rfl;rw[decide_eq_true];exact λj hj k hk=>hs j Oz k hk
def ape{K:Nat}(iF:R<=40)(hK:K<2^30)(hB:sj K R R M):
  jc Tryz.prog 282 [.aK 1500000 0 R] (ae (λ_=>.undef) 1500000 (.aH 1500000 1 ty (bn (cw 1600000 R R id))))
   (λx=>if x=1500000 then some ⟨1,ty,[],true⟩else if 1600000<=x/\x<1600000+R then some ⟨3,tyr,aR PV.rat (M (x-1600000)) R,true⟩else none) (λr _ _=>r= .sl 4 ((oo M R).map (PV.form R))):=by
 refine jd Qd func282 rfl aoK Nz λC hP=>?_;simp only[Xo];refine cC ?_;refine ay hP (qt (x:=1) Oz Oz) ?_;rw[show((1:Int):Rat)=1 from rfl];obtain⟨u,hu⟩:∃u:Rat,(1:Rat)=u:=⟨_,rfl⟩
 rw[hu];refine Sz0 ?_;refine je okB [(0,0),(2,2),(4,7),(16,47),(1500000,1500000)] [5,6,46] (λq J hp=>∃i,q=R-i/\i<=R/\J 0= .aK 1500000 0 R/\J 16= .int .i64 (i:Nat)/\J 1500000= .aH 1500000 1 ty (bn (cw 1600000 R R id))/\hp 1500000=some ⟨1,ty,[],true⟩/\(∀r,r<R->hp (1600000+r)=some ⟨3,tyr,aR PV.rat (M r) R,true⟩)/\hp 3=some ⟨3,49,[PV.rat u],false⟩/\∀j,j<i->M j j=0) R ?_ ?_
 .refine⟨0,rfl,Oz,?_⟩;refine Sz0 ?_;refine⟨rfl,λr hr=>?_,λj hj=>by omega⟩;rw[if_pos ⟨by omega,Oz⟩,KbD]
 rintro _ J h ⟨i,rfl,hi,h0,qB,hg,hh,hr,h3,hz⟩;refine aZ qB (λhc=>?_) (λhc=>?_)
 .have au:i<R:=Oz;have r1:=hr i au;have b1:=hB i au i au;simp+decide (disch:=first|omega|rfl|(simp+decide only[go_sem,h0,qB,hg,hh,r1,id]<;>rfl)|fail) only[go_sem,h0,qB,hg,hh,r1,id];refine Qy hP (o8 (a:=M i i) Oz) ?_;simp+decide (disch:=first|omega|rfl|(simp+decide only[go_sem,h0,qB,hg,hh,r1,id]<;>rfl)|fail) only[go_sem,h0,qB,hg,hh,r1,id];refine Qm (λhs=>?_) (λhs=>?_)
  .have aS:M i i≠0:=λe=>hs (fy.2 e)
   refine gE h3 hP (Bl (a:=u) (b:=M i i) (k:=K+1) (by rw[<-hu];have:=ph;omega) Oz Oz aS) ?_;simp+decide (disch:=first|omega|rfl|(simp+decide only[go_sem,h0,qB,hg,hh,r1,id]<;>rfl)|fail) only[go_sem,h0,qB,hg,hh,r1,id];refine Qy hP (apd (n:=R) Oz) ?_;refine Sz0 ?_;have IL:rs (u/M i i)<=K+2:=by rw[Rat.div_def];have q1:=mO u (M i i)⁻¹;have q2:=KV (M i i) aS;have q3:=ph;rw[hu]at q3;omega
   have cmb:=Q9f (w:=R) (x:=λ_=>(0:Rat)) (y:=M i) (c:=u/M i i) (ty2:=tyr) (k:=K+2) Oz (λ_ _=>by have:=Af;omega) (λc hc=>by have:=hB i au c hc;omega) IL Oz;refine anb hP (hb1:=⟨3,tyr,aR PV.rat (M i) R,true⟩) cmb Tz0 (γ1:=1600000+i) (Tz1 r1) Tz0 (λγ ak=>by simpa[PV.refs,PV.aO]using ak) (by simp) ?_;refine Sz1 h0 ?_;refine rp ?_;refine Sz0 ?_;refine Qb ?_ ?_
   .refine de ?_;have hdi:vv M R=i:=HE (KbK _) Oz (decide_eq_true aS) λj _ hj=>decide_eq_false (λh=>h (hz j hj))
    unfold oo;rw[hdi,if_pos au,<-hu];rfl
   .exact sU
  .refine Sz1 qB ?_;refine gO (R-(i+1)) Oz ⟨i+1,rfl,Oz,?_⟩;refine Sz4 h0 hg hh h3 ?_;refine⟨hr,λj hj=>?_⟩;by_cases e:j=i
   .subst e;exact fy.1 (Classical.not_not.1 hs)
   .exact hz j Oz
 .obtain rfl:i=R:=by omega
  have BT:¬vv M i<i:=by
   have:vv M i=0+i:=Dp λj _ hj=>decide_eq_false (λh=>h (hz j Oz))
   omega
  refine Sz1 h0 ?_;refine je okB [(0,0),(2,2),(8,12),(50,101),(1500000,1500000)] [10,11,99] (λq J hp=>∃a,q=i-a/\a<=i/\J 0= .aK 1500000 0 i/\J 50= .int .i64 (a:Nat)/\J 1500000= .aH 1500000 1 ty (bn (cw 1600000 i i id))/\hp 1500000=some ⟨1,ty,[],true⟩/\(∀r,r<i->hp (1600000+r)=some ⟨3,tyr,aR PV.rat (M r) i,true⟩)/\hp 3=some ⟨3,49,[PV.rat u],false⟩/\∀j,j<a->∀k,k<i->M j k=0) i ?_ ?_
  .refine⟨0,rfl,Oz,?_⟩;refine Sz4 h0 hg hh h3 ?_;exact⟨rfl,hr,λj hj=>by omega⟩
  rintro _ J1 h1 ⟨a,rfl,ha,a0,Ie,ag,ah,ar,a3,az⟩;refine aZ Ie (λIM=>?_) (λIM=>?_)
  .have v3:a<i:=Oz;have r1:=ar a v3;simp+decide (disch:=first|omega|rfl|(simp+decide only[go_sem,a0,Ie,ag,ah,r1,id]<;>rfl)|fail) only[go_sem,a0,Ie,ag,ah,r1,id];refine je okB [(0,0),(2,2),(9,12),(56,56),(58,100),(1500000,1500000)] [10,11,99] (λq J hp=>∃b,q=i-b/\b<=i/\J 0= .aK 1500000 0 i/\J 56= .ms (1600000+a) i/\J 58= .int .i64 (b:Nat)/\J 1500000= .aH 1500000 1 ty (bn (cw 1600000 i i id))/\hp 1500000=some ⟨1,ty,[],true⟩/\(∀r,r<i->hp (1600000+r)=some ⟨3,tyr,aR PV.rat (M r) i,true⟩)/\hp 3=some ⟨3,49,[PV.rat u],false⟩/\∀k,k<b->M a k=0) i ?_ ?_
   .refine⟨0,rfl,Oz,?_⟩;refine Sz4 a0 ag ah a3 ?_;exact⟨rfl,ar,λj hj=>by omega⟩
   rintro _ J2 h2 ⟨b,rfl,hb,b0,m7,mz,bg,bh,br,b3,bz⟩;refine aZ mz (λiG=>?_) (λiG=>?_)
   .have aE:b<i:=Oz;have s1:=br a v3;have s2:=br b aE;have b1:=hB a v3 b aE;simp+decide (disch:=first|omega|rfl|(simp+decide only[go_sem,b0,m7,mz,bg,bh,s1,s2,id]<;>rfl)|fail) only[go_sem,b0,m7,mz,bg,bh,s1,s2,id];refine Qy hP (o8 (a:=M a b) Oz) ?_;simp+decide (disch:=first|omega|rfl|(simp+decide only[go_sem,b0,m7,mz,bg,bh,s1,s2,id]<;>rfl)|fail) only[go_sem,b0,m7,mz,bg,bh,s1,s2,id];refine Qm (λhs=>?_) (λhs=>?_)
    .have aS:M a b≠0:=λe=>hs (fy.2 e)
     have IJ:a≠b:=λe=>aS (by rw[<-e];exact hz a v3)
     simp+decide (disch:=first|omega|rfl|(simp+decide only[go_sem,b0,m7,mz,bg,bh,b3,s1,s2,id]<;>rfl)|fail) only[go_sem,b0,m7,mz,bg,bh,b3,s1,s2,id];have q1:=o7 (M a b) (M a b);have ZK:M a b+M a b≠0:=λh=>aS (by grind)
     have q2:rs u<=1:=by rw[<-hu];exact ph
     have c1:=tY (a:=M a b) (b:=M a b) (k:=K) b1 b1 Oz;have c2:=Bl (a:=u) (b:=M a b+M a b) (k:=2*K+1) Oz Oz Oz ZK;have q3:rs (u/(M a b+M a b))<=2*K+2:=by rw[Rat.div_def];have:=mO u (M a b+M a b)⁻¹;have:=KV (M a b+M a b) ZK;omega
     have c3:=K9 (a:=u/(M a b+M a b)) q3 Oz;have c4:=qt (x:= -1) Oz Oz;rw[show((-1:Int):Rat)= -1 from rfl]at c4;obtain⟨v,hv⟩:∃v:Rat,(-1:Rat)=v:=⟨_,rfl⟩
     have q4:rs v<=1:=by rw[<-hv,DC];exact ph
     rw[hv]at c4;have c5:=WY (w:=i) (x:=M a) (y:=M b) (c:=u) (ty1:=tyr) (ty2:=tyr) (k:=K+2) Oz (λc hc=>by have:=hB a v3 c hc;omega) (λc hc=>by have:=hB b aE c hc;omega) Oz Oz;have c6:=WY (w:=i) (x:=M a) (y:=M b) (c:=v) (ty1:=tyr) (ty2:=tyr) (k:=K+2) Oz (λc hc=>by have:=hB a v3 c hc;omega) (λc hc=>by have:=hB b aE c hc;omega) Oz Oz;have BN:uj M i a=b:=HE (KbK _) Oz (decide_eq_true aS) λj _ hj=>decide_eq_false (λh=>h (bz j hj))
     have Jb:nO M i=a:=HE (KbK _) Oz (decide_eq_true (by rw[BN];exact aE)) λj _ hj=>decide_eq_false (λh=>by
      have:uj M i j=0+i:=Dp λk _ hk=>decide_eq_false (λh2=>h2 (az j Oz k Oz))
      omega)
     have il:oo M i=[(u/(M a b+M a b),sK (M a) (M b) u),(-(u/(M a b+M a b)),sK (M a) (M b) v)]:=by unfold oo;rw[if_neg BT,Jb,if_pos v3,BN,<-hu,<-hv]
     have XX:¬1600000+b=1600000+a:=Oz
     repeat' first
      |refine fU ?_ ?_
      |refine Qy hP c1 ?_
      |refine Qy hP c2 ?_
      |simp+decide (disch:=first|omega|rfl|(simp+decide only[go_sem,b0,m7,mz,bg,bh,b3,s1,s2,id]<;>rfl)|fail) only[go_sem,b0,m7,mz,bg,bh,b3,s1,s2,id]
     all_goals
      refine SR hP (hb1:=⟨3,tyr,aR PV.rat (M a) i,true⟩) (hb2:=⟨3,tyr,aR PV.rat (M b) i,true⟩) c5 Tz0 (γ1:=1600000+a) (γ2:=1600000+b) (Tz1 s1) (Tz1 s2) Oz (Tz1 XX) (λγ ak=>by simpa[PV.refs,PV.aO]using ak) (by simp) ?_;simp+decide (disch:=first|omega|rfl|(simp+decide only[go_sem,b0,m7,mz,bg,bh,b3,s1,s2,id]<;>rfl)|fail) only[go_sem,b0,m7,mz,bg,bh,b3,s1,s2,id];refine Qy hP c3 ?_;simp+decide (disch:=first|omega|rfl|(simp+decide only[go_sem,b0,m7,mz,bg,bh,b3,s1,s2,id]<;>rfl)|fail) only[go_sem,b0,m7,mz,bg,bh,b3,s1,s2,id];refine Qy hP c4 ?_;simp+decide (disch:=first|omega|rfl|(simp+decide only[go_sem,b0,m7,mz,bg,bh,b3,s1,s2,id]<;>rfl)|fail) only[go_sem,b0,m7,mz,bg,bh,b3,s1,s2,id];refine SR hP (hb1:=⟨3,tyr,aR PV.rat (M a) i,true⟩) (hb2:=⟨3,tyr,aR PV.rat (M b) i,true⟩) c6 Tz0 (γ1:=1600000+a) (γ2:=1600000+b) (Tz1 s1) (Tz1 s2) Oz (Tz1 XX) (λγ ak=>by simpa[PV.refs,PV.aO]using ak) (by simp) ?_;simp+decide (disch:=first|omega|rfl|(simp+decide only[go_sem,b0,m7,mz,bg,bh,b3,s1,s2,id]<;>rfl)|fail) only[go_sem,b0,m7,mz,bg,bh,b3,s1,s2,id];refine rp ?_;refine Sz0 ?_;refine Qb ?_ ?_
      .refine de ?_;rw[il];rfl
      .exact sU
    .refine Sz1 mz ?_;refine gO (i-(b+1)) Oz ⟨b+1,rfl,Oz,?_⟩;refine Sz5 b0 m7 bg bh b3 ?_;refine⟨br,λj hj=>?_⟩;by_cases e:j=b
     .subst e;exact fy.1 (Classical.not_not.1 hs)
     .exact bz j Oz
   .refine Sz0 ?_;simp (disch:=decide) only[rk,tG,gY,tI];refine Sz1 Ie ?_;refine gO (i-(a+1)) Oz ⟨a+1,rfl,Oz,?_⟩;refine Sz4 b0 bg bh b3 ?_;refine⟨br,λj hj k hk=>?_⟩;by_cases e:j=a
    .subst e;exact bz k Oz
    .exact az j Oz k hk
  .refine Sz0 ?_;refine rp ?_;refine Sz0 ?_;refine⟨rfl,.sl 4 [],trivial,?_⟩;unfold oo;have e1:¬nO M i<i:=by
    have:nO M i=0+i:=Dp λj _ hj=>decide_eq_false (λh=>by
     have:uj M i j=0+i:=Dp λk _ hk=>decide_eq_false (λh2=>h2 (az j Oz k Oz))
     omega)
    omega
   rw[if_neg BT,if_neg e1];rfl
variable{l:List Rat}
def Xh:ax:=⟨83,[.t 2,.cell 3 3 true,.t 4],Zr (jA 1 145 0<|Yi 2<|Zo (.alloc 3 3 145 (.agg [Zz 0,Zz 0,.aa]))<|Yf 4 0)<| .seq (Zr (iB 10 3 1 277<|Zu 12 11 .nil)<| .cond (.t 12) (Zr (Zo (.cD 13 [Zz 0,Zz 0,.aa] [])<|Yi 2<|Zs 3 3 13<|Yf 4 1) .ret) .skip)<|Zr (iB 14 3 1 280<|Zm 5 15 .nil)<| .seq (Zr (dW 16 0 1 1 1<|Zb 20 .neq 17 19<|YE 21 20 5<|Zg 21 false (.call (some 23) false (.c (.fn 281 [] [])) [.t 22])<|Zg 21 false (.un 24 .not (.t 23))<|xy 25 21 24)<| .cond (.t 25) (Zr (Zo (.cD 26 [Zz 0,Zz 0,.aa] [])<|Yi 2<|Zs 3 3 26<|Yf 4 16) .ret) .skip)<|Zr (Ya 27 1 1<|qw 29 1 3 1 28)<| .seq (Zr (Ya 30 0 1<|Zo (.bin 32 .mul false (.c (Zz 2)) (.t 31))<|Zc 33 0<| .wk<| .wk<| .wk .nil)<| .block 0<| .loop<|Zr (Yu 34 33 32)<| .seq (.cond (.t 34) .skip (.exit 0))<| .seq (.block 1<|Zr (YJ 35 5 282<|Yc 6 36)<|Zr (dS 37 6)<| .block 2<| .loop<|Zr (Yu 40 39 38)<| .seq (.cond (.t 40) .skip (.exit 2))<| .seq (.block 3<|Zr (YL 41 37 39 8 275)<|Zr (Zm 43 2<|cM 44 0 8 3<|Zo (.bs 46 3 49 [.t 45])<|Zo (.app 47 3 56 49 (.t 43) (.t 46))<|Yc 2 47)<|Zr (dW 48 2 3 3 8<|Zo (.app 52 3 56 49 (.t 49) (.t 51))<|qw 53 2 3 1 52)<|Zr (Ya 54 0 3<|Zk 56 .add 55 1<|qw 57 0 3 1 56)<|Zr (dS 58 5)<| .block 4<| .loop<|Zr (Yu 61 60 59)<| .seq (.cond (.t 61) .skip (.exit 4))<| .seq (.block 5<|Zr (MZ 62 60 9)<| .rg (YW 63 5 9<|Ya 67 3 8<|cM 69 0 8 3<|eF 71 3 8 9<|YG 74 3 72 73<|Ys 76 67 70 75<|mY 77 283 66 68 76 .nil))<| .rg (YC 78 60 60))<| .rg (YC 79 39 39))<| .rg (YC 80 33 33))<|Zr (Zm 81 2<|Zh 82 3 3<| .wk<|Zm 2 81<|Zs 3 3 82<|Yf 4 0) .ret⟩
def apf:Qc Tryz.prog f184=some Xh.strip:=by kernel_rfl
def Q9h{x y:Nat->Rat}{c:Rat}{w ty1 k:Nat}(hw:0<w)(OI:w<=2^30)(hx:∀i,i<w->rs (x i)<=k)(hy:∀i,i<w->rs (y i)<=k)(hc:rs c<=k)(hk:k<=2^33):
  jc Tryz.prog 283 [.ms 1000000 w,.sl 3 (aR PV.rat y w),PV.rat c] (λ_=>.undef) (Qg aB 1000000 ⟨3,ty1,aR PV.rat x w,false⟩) (λr F H=>lU r/\∃xs,H 1000000=some ⟨3,ty1,xs,false⟩/\xs.length=(aR PV.rat x w).length/\(r= .aI []/\xs=aR PV.rat (λi=>x i-c*y i) w)):=by
 refine jd Qd func283 rfl Sr Nz λC hP=>?_;simp only[M8];refine cC ?_;refine Sz0 ?_;refine Qy hP (o8 (a:=c) (by omega)) ?_;refine Sz0 ?_;refine Qm (λh0=>?_) (λh0=>?_)
 .refine Sz0 ?_;refine G3 ?_;refine Sz0 ?_;refine⟨_,rfl,rfl,qe λi hi=>?_⟩;rw[fy.1 h0,Rat.zero_mul,Rat.sub_eq_add_neg,Rat.neg_zero,Rat.add_zero]
 refine Sz0 ?_;refine Qh okB [(6,6),(12,29)] [] (λn J hp=>∃i,n=w-i/\i<=w/\J 12= .int .i64 (i:Nat)/\hp 5=some ⟨3,49,[PV.rat c],false⟩/\hp 1000000=some ⟨3,ty1,aR PV.rat (λj=>if j<i then x j-c*y j else x j) w,false⟩) w ?_ ?_
 .refine⟨0,rfl,by omega,?_⟩;refine Sz0 ?_;exact⟨rfl,FH (qe λk _=>(if_neg (Nat.not_lt_zero k)).symm)⟩
 rintro _ J h ⟨i,rfl,hi,eX,h5,nn⟩;refine Sz1 eX ?_;refine Qm (λhg=>?_) (λhg=>?_)
 .have au:i<w:=by omega
  have hm:=mO c (y i);have h1:=hx i au;have h2:=hy i au;refine Sz3 eX h5 nn ?_;rw[if_neg (KcL i)];refine Qy hP (nI (k:=k) hc h2 (by omega)) ?_;refine Sz3 eX h5 nn ?_;refine Qy hP (Bm (k:=2*k) (by omega) (by omega) (by omega)) ?_;refine Sz3 eX h5 nn ?_;rw[HF au];refine Sz1 eX ?_;refine Qe (w-(i+1)) (by omega) ⟨i+1,rfl,by omega,?_⟩;refine Sz1 h5 ?_;refine FH (qe λk _=>?_);by_cases e:k=i
  .subst e;rw[if_pos rfl,if_pos (by omega)]
  .rw[if_neg e];by_cases e2:k<i
   .rw[if_pos e2,if_pos (by omega)]
   .rw[if_neg e2,if_neg (by omega)]
 .obtain rfl:i=w:=by omega
  refine Sz1 eX ?_;refine G3 ?_;refine Sz1 nn ?_;exact⟨_,rfl,by rw[lQ,lQ],qe λk hk=>if_pos hk⟩
def PI{R w x:Nat}{M:MF}{hp:HP}(h:x<3000000)(h2:¬x=2000000):sL R w M hp x=hp x:=by unfold sL;rw[if_neg h2,if_neg Oz]
abbrev JJ(R n:Nat):PV:=.aU [.int .i64 (n:Nat),.int .i64 (R:Nat),.aD 2000002 0 (n*R)]
abbrev Cj(R:Nat)(l:List LF):PV:=.aI [PV.cg (l.map (·.1)),PV.dU l.length R (iO R l),.int .i64 0]
def akR{K:Nat}(hl:l.length=R*R)(IE:0<R)(iF:R<=40)(hs:∀q∈l,rs q<=1048576)(hK:K<2^28)(hB:H9 K R (2*R) (dG l R))(axU:sS (dG l R) R):
  AC 184 [PV.dU R R l] (· =Cj R (eQ R (dG l R) (2*R)).2):=by
 refine tM Qd func184 rfl apf Nz λC hP=>?_;simp only[Xh];refine cC ?_;refine ay hP (L3 hl iF iF hs) ?_;refine Sz0 ?_;have qJ:∀(hp:HP),(∀x,5<=x->hp x=none)->∀x,kX R x=true->hp x=none:=λhp h x hx=>h x (by have:=xd hx;omega)
 refine PH hP hl IE iF iF Oz (qJ _ (λx hx=>by simp+decide (disch:=try exact D4 (show ¬x=1 from by omega) (show ¬x=2 from by omega) (show ¬x=3 from by omega) (show ¬x=4 from by omega)) only[go_sem,show ¬x=1 from by omega,show ¬x=2 from by omega,show ¬x=3 from by omega,show ¬x=4 from by omega]<;>rfl)) ?_;refine Sz3 @vu @vz @yI ?_;have ux:=hB 0 Oz;have hx:=Q9g (K:=K) (ty:=35) (tyr:=49) iF Oz ux.1
 repeat' first
  |refine fU ?_ ?_
  |refine SS (ys:=λr=>aR PV.rat (dG l R r) R) hP Oz hx (by simp[KN]) Tz0 (Tz1 @Kx) (λr hr=>by simp+decide (disch:=first|omega|rfl|(simp+decide only[go_sem,CU]<;>rfl)|fail) only[go_sem,CU]) ?_
  |simp+decide (disch:=first|omega|rfl|(simp+decide only[go_sem,vu,vz,yI]<;>rfl)|fail) only[go_sem,vu,vz,yI]
 rw[show(eQ R (dG l R) 0).1=dG l R from rfl,decide_eq_true axU];refine Sz3 @vu @vz @yI ?_;refine bV (kv 3 2000001 (iQ @PI) Oz rfl Oz) ?_;have hmv:bF (kW 3 2000001) (.aH 2000000 1 35 (bn (cw 3000000 R R id)))= .aH 2000000 1 35 (bn (cw 3000000 R R id)):=aat Oz Oz Oz;refine Sz1 hmv ?_;refine bV (me (γ:=2000001) (e:=3) (ty:=145) (xs:=[.agg [.int .i64 0,.int .i64 (R:Nat),.aa]]) (fz:=false) Tz0 (by simp) Oz (λx hx=>by rw[Kax.1 hx];rfl)) ?_;refine bV (Dc (γ:=2000001) (e:=3) (ty:=145) (cs:=[.int .i64 0,.int .i64 (R:Nat),.aa]) (cs':=[.int .i64 0,.int .i64 (R:Nat),.aD 2000002 0 0]) 2000002 3 49 Tz0 (iQ @PI) Oz Oz rfl (by simp)) ?_;refine Sz0 ?_;refine kq 2 900 3 49 Oz Tz0 ?_;obtain⟨M,hM⟩:∃M,dG l R=M:=⟨_,rfl⟩
 rw[hM]at hB⊢;refine je okB [(2,3),(5,6),(8,9),(33,80),(2000000,2000001)] [8,46,47,52,900] (λq J hp=>∃k,q=2*R-k/\k<=2*R/\J 2= .ms 900 (eQ R M k).2.length/\J 3= .np 2000001 0 0/\J 5= .aK 2000000 0 R/\J 33= .int .i64 (k:Nat)/\J 2000000= .aH 2000000 1 35 (bn (cw 3000000 R R id))/\J 2000001= .aH 2000001 3 145 [JJ R (eQ R M k).2.length]/\
   hp 2000000=some ⟨1,35,[],false⟩/\hp 2000001=some ⟨3,145,[],false⟩/\hp 2000002=some ⟨3,49,(iO R (eQ R M k).2).map PV.rat,false⟩/\hp 900=some ⟨3,49,((eQ R M k).2.map (·.1)).map PV.rat,false⟩/\
   ∀r,r<R->hp (3000000+r)=some ⟨3,49,aR PV.rat ((eQ R M k).1 r) R,false⟩) (2*R) ?_ ?_
 .refine⟨0,rfl,Oz,?_⟩;refine Sz3 @vu @vz @yI ?_;refine⟨rfl,rfl,?_,Kx,rfl,rfl,λr hr=>CU hr⟩;simp[eQ]
 rintro _ J h ⟨k,rfl,hk,j2,j3,j5,wB,jg,jb,h0,h1,h2,h9,jY⟩;refine aZ wB (λhc=>?_) (λhc=>?_)
 .have cY:k<2*R:=Oz;have BK:=hB k hk;have ZG:=VN R M k;have xP:=Cp R (eQ R M k).2;have nc:(eQ R M (k+1)).1=xa (eQ R M k).1 (oo (eQ R M k).1 R):=rfl;have uG:(eQ R M (k+1)).2=(eQ R M k).2++oo (eQ R M k).1 R:=rfl;obtain⟨E,hE⟩:∃E,eQ R M k=E:=⟨_,rfl⟩
  rw[hE]at BK ZG xP nc uG j2 jb h2 h9 jY;obtain⟨N,fs⟩:=E;simp only at BK ZG xP nc uG j2 jb h2 h9 jY;have nh:=Vj N R;have jF:=ape (K:=K) (ty:=35) (tyr:=49) iF Oz BK.1;refine Sz5 j2 j3 j5 jg jb ?_;refine SS (ys:=λr=>aR PV.rat (N r) R) hP Oz jF (by simp[KN]) (Tz1 jg) h0 jY ?_;obtain⟨L,hL⟩:∃L,oo N R=L:=⟨_,rfl⟩
  rw[hL]at BK nh nc uG⊢;refine Sz5 j2 j3 j5 jg jb ?_;refine je okB [(2,3),(5,5),(8,9),(39,79),(2000000,2000001)] [8,46,47,52,900] (λq J hp=>∃i,q=L.length-i/\i<=L.length/\J 2= .ms 900 (fs++L.take i).length/\J 3= .np 2000001 0 0/\J 5= .aK 2000000 0 R/\J 39= .int .i64 (i:Nat)/\J 2000000= .aH 2000000 1 35 (bn (cw 3000000 R R id))/\J 2000001= .aH 2000001 3 145 [JJ R (fs++L.take i).length]/\
   hp 2000000=some ⟨1,35,[],false⟩/\hp 2000001=some ⟨3,145,[],false⟩/\hp 2000002=some ⟨3,49,(iO R (fs++L.take i)).map PV.rat,false⟩/\hp 900=some ⟨3,49,((fs++L.take i).map (·.1)).map PV.rat,false⟩/\
   ∀r,r<R->hp (3000000+r)=some ⟨3,49,aR PV.rat (xa N (L.take i) r) R,false⟩) L.length ?_ ?_
  .refine⟨0,rfl,Oz,?_⟩;refine Sz9 j2 j3 j5 jg jb h0 h1 h2 h9 ?_;simp only[Kai];exact⟨trivial,rfl,trivial,trivial,trivial,jY⟩
  rintro _ J1 g ⟨i,rfl,hi,i2,i3,i5,i39,ig,ib,g0,g1,g2,g9,Nm⟩;refine aZ i39 (λBN=>?_) (λBN=>?_)
  .have au:i<L.length:=Oz;have bl:L.take (i+1)=L.take i++[L[i]]:=Kam au;have N0:=BK.2.1 _ (Kad au);have hMb:=BK.2.2 i hi;have mB:(fs++L.take i).length<=200:=by rw[Kaz,Kay];omega
   have awV:=Cp R (fs++L.take i);generalize hf:L[i]=f at *
   have mE:=af5 N (L.take i) f;have awX:=af6 R (fs++L.take i) f;have hTk:fs++L.take (i+1)=(fs++L.take i)++[f]:=by rw[bl,<-List.append_assoc]
   rw[<-bl]at mE;generalize hT:fs++L.take i=T at *
   generalize hZ:xa N (L.take i)=Z at *
   have hTR:T.length*R<=200*40:=KaZ mB iF;have l9:(aR PV.rat f.2 R).length=R:=lQ _ _ _;refine Ag i2 i3 i5 i39 ig ib g0 g1 g2 g9 hf ?_;rw[Qq (f:=PV.rat) (y:=f.1) (xs:=T.map (·.1)) (ty':=49) (fz:=false) (Tz1 g9) Tz0 Oz (by simp) Oz Oz];refine xo i2 i3 i5 i39 ig ib g0 g1 g2 g9 ?_;rw[aq3 (xs:=(iO R T).map PV.rat) (Tz1 g2) Oz (by rw[KaC,awV]) (Kq IE) (by rw[l9];omega) (by rw[l9];omega) Oz,l9];refine xo i2 i3 i5 i39 ig ib g0 g1 g2 g9 ?_;obtain⟨g8,BQ⟩:∃g8,g8=HB.mk 4 275 [PV.form R f] false:=⟨_,rfl⟩
   refine je okB [(3,3),(5,5),(9,9),(60,78),(2000000,2000001)] [] (λq J hp=>∃r,q=R-r/\r<=R/\J 3= .np 2000001 0 0/\J 5= .aK 2000000 0 R/\J 60= .int .i64 (r:Nat)/\J 2000000= .aH 2000000 1 35 (bn (cw 3000000 R R id))/\J 2000001= .aH 2000001 3 145 [JJ R (T.length+1)]/\
    hp 2000000=some ⟨1,35,[],false⟩/\hp 2000001=some ⟨3,145,[],false⟩/\hp 2000002=some ⟨3,49,(iO R (T++[f])).map PV.rat,false⟩/\hp 900=some ⟨3,49,((T++[f]).map (·.1)).map PV.rat,false⟩/\hp 8=some g8/\
    ∀r',r'<R->hp (3000000+r')=some ⟨3,49,aR PV.rat (if r'<r then K8 Z f r' else Z r') R,false⟩) R ?_ ?_
   .refine⟨0,rfl,Oz,?_⟩;refine xo i2 i3 i5 i39 ig ib g0 g1 g2 g9 ?_;refine⟨rfl,?_,?_,?_,BQ.symm,λr' dO=>?_⟩
    .have e1:T.length*R+R=(T.length+1)*R:=by rw[KaL,KcQ]
     rw[e1]
    .rw[awX,KbN,RO]
    .simp
    .rw[if_neg Oz];exact Nm r' dO
   rintro _ J2 e ⟨r,rfl,hr,k3,k5,B4,kg,kb,e0,e1,e2,e9,e8,Ni⟩;refine aZ B4 (λxM=>?_) (λxM=>?_)
   .have dO:r<R:=Oz;have er:=Ni r dO;rw[if_neg (KcL r)]at er;simp+decide (disch:=first|omega|rfl|(simp+decide only[go_sem,k3,k5,B4,kg,kb,e0,e1,e2,e9,e8,BQ,er,id]<;>rfl)|fail) only[go_sem,k3,k5,B4,kg,kb,e0,e1,e2,e9,e8,BQ,er,id];have hm:=mO f.1 (f.2 r);have na:=N0.2 r dO;refine Qy hP (nI (a:=f.1) (b:=f.2 r) (k:=K) N0.1 na Oz) ?_;simp+decide (disch:=first|omega|rfl|(simp+decide only[go_sem,k3,k5,B4,kg,kb,e0,e1,e2,e9,e8,BQ,er,id]<;>rfl)|fail) only[go_sem,k3,k5,B4,kg,kb,e0,e1,e2,e9,e8,BQ,er,id];have sub:=Q9h (w:=R) (x:=Z r) (y:=f.2) (c:=f.1*f.2 r) (ty1:=49) (k:=2*K) IE Oz (λc hc=>by have:=hMb r dO c hc;omega) (λc hc=>by have:=N0.2 c hc;omega) Oz Oz;refine anP hP sub er rfl (Kq IE) (by simp[bN];omega) Tz0 (λγ ak=>by simpa[PV.refs,PV.aO]using ak) (by simp) ?_;rintro _ xs _ ⟨rfl,rfl⟩;refine Sz1 B4 ?_;refine gO (R-(r+1)) Oz ⟨r+1,rfl,Oz,?_⟩;refine Sz9 k3 k5 kg kb e0 e1 e2 e9 e8 ?_;refine⟨BQ,λr' jX=>?_⟩;by_cases e3:r'=r
    .subst e3;rw[if_pos rfl,if_pos Oz];rfl
    .rw[if_neg e3,Ni r' jX];by_cases e4:r'<r
     .rw[if_pos e4,if_pos Oz]
     .rw[if_neg e4,if_neg Oz]
   .have I':r=R:=Oz;subst I';rw[rk]
    rotate_left
    .decide
    refine Sz1 i39 ?_;refine gO (L.length-(i+1)) Oz ⟨i+1,rfl,Oz,?_⟩;rw[hTk,mE];refine Sz9 i2 k3 k5 kg kb e0 e1 e2 e9 ?_;rw[Kaz];exact⟨rfl,rfl,λr' dO=>by rw[Ni r' dO,if_pos dO]⟩
  .have hiL:i=L.length:=Oz;subst hiL;rw[KaQ]at i2 ib g2 g9 Nm;simp (disch:=decide) only[rk,tG,gY,tI];refine Sz1 wB ?_;refine gO (2*R-(k+1)) Oz ⟨k+1,rfl,Oz,?_⟩;rw[nc,uG];refine Sz9 i2 i3 i5 ig ib g0 g1 g2 g9 ?_;exact Nm
 .have ZE:k=2*R:=Oz;subst ZE;refine Sz9 j2 j3 j5 jg jb h0 h1 h2 h9 ?_;have xP:=Cp R (eQ R M (2*R)).2;have qN:(iO R (eQ R M (2*R)).2).map PV.rat=(iO R (eQ R M (2*R)).2).map PV.rat:=rfl;refine JY 82 2 [2000002] (p:=JJ R (eQ R M (2*R)).2.length) Tz0 (D:=PV.dU (eQ R M (2*R)).2.length R (iO R (eQ R M (2*R)).2)) ?_ ?_ rfl ?_
  .intro c hc;simp only[KaA,KaR,or_false]at hc;rcases hc with rfl|rfl|rfl
   .trivial
   .trivial
   .simp only[qY,aP];simp
  .show PV.agg [_,_,iE _ h 2 (.aD 2000002 0 _)]=_;simp only[iE,h2,Ka6];rw[Kaf (by rw[KaC,xP];omega)]
  refine Ic j2 j3 jb h1 h9 ?_;refine SE (aq2 (γ:=2000001) (e:=3) (ty:=145) (xs:=[PV.dU (eQ R M (2*R)).2.length R (iO R (eQ R M (2*R)).2)]) 3 Tz0 (iQ j3) rfl (λx hx=>by rw[Kax.1 hx];exact⟨rfl,rfl,λc hc=>by simp only[PV.aV,PV.cells,KaA,KaR,or_false]at hc;rcases hc with rfl|rfl|rfl<;>rfl⟩)) ?_;refine FD ?_;refine jQ h9 ?_;rw[Kaf (by simp)];exact ox rfl rfl rfl rfl (Qi _) (Qi _) (Qi _)
variable{i:Nat}{p:List Tm}
def aii(h:i<p.length):xm (p.take (i+1))=max (xm (p.take i)) (ml p[i].2):=by rw[Kam h,xm,List.foldl_append];rfl
def Q3w{K E:Nat}(hp:PB K E p)(hE:E<=2^38)(dC:p.length<=2^36):AC 99 [PV.aC p] (· = .int .i64 (xm p)):=by
 refine aF Qd func99 aru λC hP=>?_;refine Sz0 ?_;refine Qh eO [(3,3),(5,5),(8,17)] [5] (λn J hp=>∃i,n=p.length-i/\i<=p.length/\J 3= .int .i64 (xm (p.take i))/\J 8= .int .i64 (i:Nat)) p.length ?_ ?_
 .refine⟨0,rfl,Oz,?_⟩;refine Sz0 ?_;simp[xm]
 rintro _ J h ⟨i,rfl,hi,h3,h8⟩;refine cH h3 h8 (λhg=>?_) (λhg=>?_)
 .have au:i<p.length:=Oz;have dv:=hp.get au;have bl:=aii au;generalize hx:p[i]=x at *
  have hl:=dv.m.len;have hd:=Kk dv.m;refine eL h3 h8 hx hP (Ll (a:=x.2) Oz (λy hy=>⟨dv.m.lo y hy,by have:=dv.m.hi y hy;omega⟩)) ?_;refine Sz3 h3 h8 hx ?_;refine Qe (p.length-(i+1)) Oz ⟨i+1,rfl,Oz,?_⟩;rw[bl];exact Tz0
 .obtain rfl:i=p.length:=by omega
  rw[KaQ]at h3;refine Sz1 h3 ?_;exact Qb rfl rfl
def Q9i{E:Nat}(hp:∀t∈p,MB E t.2)(dC:p.length<=2^36):AC 180 [PV.aC p] (· =PV.mono (Uw p)):=by
 refine aF Qd func180 anz λC hP=>?_;refine Sz0 ?_;refine Qh eO [(5,7),(13,34)] [5] (λn J hp=>∃i,n=p.length-i/\i<=p.length/\J 13= .int .i64 (i:Nat)/\hp 3=some ⟨64,264,[.agg ((mm 64 (jk (p.take i))).map PV.bool)],false⟩) p.length ?_ ?_
 .refine⟨0,rfl,Oz,?_⟩;refine Sz0 ?_;exact⟨rfl,rfl⟩
 rintro _ J h ⟨i,rfl,hi,dN,hh⟩;refine aZ dN (λhg=>?_) (λhg=>?_)
 .have au:i<p.length:=Oz;have dv:=hp _ (Kad au);have bl:=aha au;generalize hx:p[i]=x at *
  have qN:=dv.len;refine Sz2 dN hx ?_;refine Qh eO [(6,7),(20,33)] [] (λn J hp=>∃j,n=x.2.length-j/\j<=x.2.length/\J 20= .int .i64 (j:Nat)/\hp 3=some ⟨64,264,[.agg ((mm 64 (λv=>jk (p.take i) v||(decide (v<j)&&decide (eN x.2 v≠0)))).map PV.bool)],false⟩) x.2.length ?_ ?_
  .refine⟨0,rfl,Oz,?_⟩;refine Sz1 hh ?_;exact⟨rfl,by simp⟩
  rintro _ J2 h2 ⟨j,rfl,hj,lY,eZ⟩;refine aZ lY (λgF=>?_) (λgF=>?_)
  .have dz:j<x.2.length:=Oz;have he:=mQ dz;generalize hy:x.2[j]=y at *
   refine Sz2 lY hy ?_;refine fJ (λhz=>?_) (λhz=>?_)
   .refine Sz2 lY hy ?_;refine Qm (λ_=>?_) (λh=>by omega);simp+decide (disch:=first|omega|rfl|(simp+decide only[go_sem,lY,hy,eZ,SJ (show j<64 by omega),KbR]<;>rfl)|fail) only[go_sem,lY,hy,eZ,SJ (show j<64 by omega),KbR];refine Qe (x.2.length-(j+1)) Oz ⟨j+1,rfl,Oz,?_⟩;have lD:=ajQ (n:=64) (h:=λv=>jk (p.take i) v||(decide (v<j)&&decide (eN x.2 v≠0))) (g:=λv=>jk (p.take i) v||(decide (v<j+1)&&decide (eN x.2 v≠0))) (show j<64 by omega) (λv hv=>by
     by_cases uQ:v=j
     .subst uQ;simp[he,hz]
     .rw[if_neg uQ,decide_eq_decide.2 (show v<j+1↔v<j by omega)])
    rw[<-lD];exact Tz0
   .refine Sz2 lY hy ?_;refine Qe (x.2.length-(j+1)) Oz ⟨j+1,rfl,Oz,?_⟩;have hc:=WE (n:=64) (h:=λv=>jk (p.take i) v||(decide (v<j+1)&&decide (eN x.2 v≠0))) (g:=λv=>jk (p.take i) v||(decide (v<j)&&decide (eN x.2 v≠0))) (λv hv=>by
     by_cases uQ:v=j
     .subst uQ;simp[he,Decidable.not_not.1 hz]
     .show(_||_)=_;rw[decide_eq_decide.2 (show v<j+1↔v<j by omega)])
    rw[hc];exact Tz1 eZ
  .obtain rfl:j=x.2.length:=by omega
   have hc:=WE (n:=64) (h:=jk (p.take (i+1))) (g:=λv=>jk (p.take i) v||(decide (v<x.2.length)&&decide (eN x.2 v≠0))) (λv hv=>by
    rw[bl];by_cases uQ:v<x.2.length
    .simp[uQ]
    .rw[mR Oz];simp)
   refine Sz2 dN lY ?_;simp (disch:=decide) only[iM,gY];refine Qe (p.length-(i+1)) Oz ⟨i+1,rfl,Oz,?_⟩;rw[hc];exact Tz1 eZ
 .obtain rfl:i=p.length:=by omega
  rw[KaQ]at hh;have Jd:=afq (Gp 64 (jk p));refine Sz3 dN hh Jd ?_;refine kq 8 900 1 3 Oz Tz0 ?_;refine Qh eO [(8,10),(36,45)] [43,44,900] (λn J hp=>∃k,n=64-k/\k<=64/\J 8= .ms 900 (vq k (jk p)).length/\J 36= .int .i64 (k:Nat)/\hp 900=some ⟨1,3,nL (vq k (jk p)),false⟩) 64 ?_ ?_
  .refine⟨0,rfl,Oz,?_⟩;refine Sz0 ?_;exact⟨rfl,rfl,rfl⟩
  rintro _ J3 h3 ⟨k,rfl,hk,h8,sZ,cj⟩;have bx:=Q3n k (jk p);have fR:=Q8r k (jk p);refine cH h8 sZ (λN3=>?_) (λN3=>?_)
  .have cY:k<64:=Oz;have l9:k<(mm 64 (jk p)).length:=by rw[Gp];exact cY
   have zQ:=ajP l9;simp+decide (disch:=first|omega|rfl|(simp+decide only[go_sem,h8,sZ,Rh (Gp 64 (jk p)) l9,zQ]<;>rfl)|fail) only[go_sem,h8,sZ,Rh (Gp 64 (jk p)) l9,zQ];cases hb:jk p k
   .rw[if_neg (by simp[hb]),Kai]at fR;refine Sz2 h8 sZ ?_;refine Qe (64-(k+1)) Oz ⟨k+1,rfl,Oz,?_⟩;rw[fR];exact Tz2 cj h8
   .rw[if_pos hb]at fR;refine Sz2 h8 sZ ?_;rw[Qq (f:=λ(x:Int)=>.int .i64 x) (y:=(k:Int)) (xs:=vq k (jk p)) (ty':=3) (fz:=false) (Tz1 cj) Qw Oz rfl Oz Oz];refine Sz2 h8 sZ ?_;refine Qe (64-(k+1)) Oz ⟨k+1,rfl,Oz,?_⟩;rw[fR];simp+decide (disch:=first|omega|rfl|(simp+decide only[go_sem,Kaz]<;>rfl)|fail) only[go_sem,Kaz]
  .obtain rfl:k=64:=by omega
   refine mu h8 cj ?_;exact Qb (by rw[Kaf (by simp)];rfl) rfl
variable{k:Nat}
def apg{m r c:Nat}(hk:1<=k)(h:∀q∈l,rs q<=k):rs (dG l m r c)<=k:=by
 unfold dG;rw[Kac];cases hq:l[r*m+c]? with
 |none=>have:=Af;show rs 0<=k;omega
 |some q=>exact h q (Kaj hq)
def Xk:ax:=⟨52,[.cell 2 3 true,.t 3],Zr (jA 1 145 0<|Zo (.alloc 2 3 145 (.agg [Zz 0,Zz 0,.aa]))<|Yf 3 0)<| .seq (Zr (iB 7 3 1 277<|Zu 9 8 .nil)<| .cond (.t 9) (Zr (Zo (.cD 10 [Zz 0,Zz 0,.aa] [])<|Zs 3 2 10<|Yf 3 1) .ret) .skip)<|Zr (dW 11 1 1 0 1<|YT 15 2 1<| .br (BE 18 17<| .wk<|Zo (.cD 19 [Zz 0,Zz 0,.aa] [(0,1,.t 12),(1,1,.t 14),(2,1,.t 18)])<|fc 4<| .wk<| .wk<|Zs 3 4 19 .nil) (fc 4<| .wk<| .wk<|BE 18 17<| .wk<|Zo (.cD 19 [Zz 0,Zz 0,.aa] [(0,1,.t 12),(1,1,.t 14),(2,1,.t 18)])<|Zs 3 4 19 .nil))<| .seq (Zr (Ya 20 0 1<|Yf 22 0)<| .block 0<| .loop<|Zr (Yu 23 22 21)<| .seq (.cond (.t 23) .skip (.exit 0))<| .seq (.block 1<|Zr (MZ 24 22 5)<|Zr (Ya 25 1 1<|Yf 27 0)<| .block 2<| .loop<|Zr (Yu 28 27 26)<| .seq (.cond (.t 28) .skip (.exit 2))<| .seq (.block 3<|Zr (MZ 29 27 6)<| .rg (eF 30 2 4 6<|Ya 33 0 1<|Zb 35 .mul 32 34<|Zm 36 5<|Zb 37 .add 35 36<|eF 38 2 1 5<|Ya 41 1 1<|Zb 43 .mul 40 42<|Zm 44 6<|Zb 45 .add 43 44<|YG 46 3 39 45<|Zi 48 3 31 37<|Zs 3 48 47 .nil))<| .rg (YC 49 27 27))<| .rg (YC 50 22 22))<|Zr (Zh 51 3 4<| .wk<|Zs 3 2 51<|Yf 3 0) .ret⟩
def aph:Qc Tryz.prog f278=some Xk.strip:=by kernel_rfl
def Fx(l:List Rat)(R m:Nat):Nat->Rat:=λj=>dG l m (j%R) (j/R)
def ra(l:List Rat)(R m:Nat):List Rat:=(List.range (m*R)).map (Fx l R m)
def Gx(l:List Rat)(R m:Nat):(ra l R m).length=m*R:=by simp[ra]
def api{i' k':Nat}(hi:i<R)(au:i'<R)(h:k'*R+i'=k*R+i):k'=k/\i'=i:=by
 have h1:(k'*R+i')/R=(k*R+i)/R:=by rw[h]
 have hR:0<R:=Oz;rw[KbM,Kch _ _ hR,KbM (k*R),Kch _ _ hR,KbV au,KbV hi]at h1;have h2:k'=k:=Oz;subst h2;exact⟨rfl,Oz⟩
def Ky{m:Nat}(hi:i<R)(hk:k<m):k*R+i<R*m:=by have h1:(k+1)*R<=m*R:=Kap _ hk;rw[KaL,KcQ,KaU m R]at h1;omega
def ad2{m:Nat}(hi:i<R):Fx l R m (k*R+i)=dG l m i k:=by have hR:0<R:=Oz;unfold Fx;rw[KbM,KcN,KaP hi,Kch _ _ hR,KbV hi,Ka2]
def Q9j{m:Nat}(hl:l.length=R*m)(iF:R<=40)(hm:m<=40)(hs:∀q∈l,rs q<=1048576):AC 278 [PV.dU R m l] (· = .aI [PV.dU m R (ra l R m),.int .i64 0]):=by
 have IF:R*m<=40*40:=KaZ iF hm;have uE:m*R=R*m:=KaU _ _;refine tM Qd func278 rfl aph Nz λC hP=>?_;simp only[Xk];refine cC ?_;refine ay hP (L3 hl iF hm hs) ?_;refine Sz1 hl ?_;have hz:([.agg [.int .i64 0,.int .i64 0,.aa]]:List PV)≠[]:=by simp
 have Jl:∀x∈([.agg [.int .i64 0,.int .i64 0,.aa]]:List PV),x.aV=x.cells:=λx hx=>by rw[Kax.1 hx];rfl
 have ZI:bF (kW 18 2000002) (.aH 2000001 3 145 [.agg [.int .i64 0,.int .i64 0,.aa]])= .aH 2000001 3 145 [.agg [.int .i64 0,.int .i64 0,.aa]]:=by simp[bF,kW,PV.aV,PV.cells,dh,eW,lR,PV.kC]
 refine fU ?qa ?qb
 case' qa=>
  refine Sz1 hl ?_;refine bV (kv 18 2000002 Qw Oz rfl Oz) ?_;refine Sz1 hl ?_;refine bV (kv 4 2000001 Qw Oz rfl Oz) ?_;refine Sz1 hl ?_;refine bV (me (γ:=2000001) (e:=3) (ty:=145) (fz:=false) Tz0 hz Oz Jl) ?_;simp+decide (disch:=try exact D1 hl) only[go_sem,hl]
 case' qb=>
  refine Sz1 hl ?_;refine bV (kv 4 2000001 Qw Oz rfl Oz) ?_;refine Sz1 hl ?_;refine bV (me (γ:=2000001) (e:=3) (ty:=145) (fz:=false) Tz0 hz Oz Jl) ?_;refine Sz1 hl ?_;refine bV (kv 18 2000002 Qw Oz rfl Oz) ?_;simp+decide (disch:=try exact D2 hl ZI) only[go_sem,hl,ZI]
 all_goals
  refine je okB [(4,6),(22,50),(2000001,2000001)] [] (λq J hp=>∃i xs,q=R-i/\i<=R/\J 4= .np 2000001 0 0/\J 22= .int .i64 (i:Nat)/\J 2000001= .aH 2000001 3 145 [.aU [.int .i64 (m:Nat),.int .i64 (R:Nat),.aD 2000002 0 (R*m)]]/\
   hp 1=some ⟨3,145,[PV.dU R m l],false⟩/\hp 2=some ⟨3,145,[.agg [.int .i64 0,.int .i64 0,.aa]],false⟩/\hp 2000001=some ⟨3,145,[],false⟩/\hp 2000002=some ⟨3,49,xs,false⟩/\xs.length=R*m/\∀i' k',i'<i->k'<m->xs[k'*R+i']? =some (PV.rat (dG l m i' k'))) R ?_ ?_
  .refine⟨0,List.replicate (R*m) (.agg [.bool false,.aa,.aa]),rfl,Oz,?_⟩;refine Sz0 ?_;exact⟨rfl,by simp,λi' k' h=>by omega⟩
  rintro _ J h ⟨i,xs,rfl,hi,j4,Jp,jb,h1,h2,hb,hx,eM,oO⟩;refine aZ Jp (λhc=>?_) (λhc=>?_)
  .have au:i<R:=Oz;refine Sz7 j4 Jp jb h1 h2 hb hx ?_;refine je okB [(4,4),(6,6),(27,49),(2000001,2000001)] [] (λq J hp=>∃k ys,q=m-k/\k<=m/\J 4= .np 2000001 0 0/\J 27= .int .i64 (k:Nat)/\J 2000001= .aH 2000001 3 145 [.aU [.int .i64 (m:Nat),.int .i64 (R:Nat),.aD 2000002 0 (R*m)]]/\
    hp 1=some ⟨3,145,[PV.dU R m l],false⟩/\hp 2=some ⟨3,145,[.agg [.int .i64 0,.int .i64 0,.aa]],false⟩/\hp 2000001=some ⟨3,145,[],false⟩/\hp 2000002=some ⟨3,49,ys,false⟩/\ys.length=R*m/\∀i' k',i'<R->(i'<i\/(i'=i/\k'<k))->k'<m->ys[k'*R+i']? =some (PV.rat (dG l m i' k'))) m ?_ ?_
   .refine⟨0,xs,rfl,Oz,?_⟩;refine Sz6 j4 jb h1 h2 hb hx ?_;exact⟨rfl,eM,λi' k' q1 q2 q3=>oO i' k' Oz q3⟩
   rintro _ J2 g ⟨k,ys,rfl,hk,i4,i27,ib,g1,g2,gb,gx,XL,XM⟩;refine aZ i27 (λxL=>?_) (λxL=>?_)
   .have cY:k<m:=Oz;have e1:(k:Int)*(R:Int)=((k*R:Nat):Int):=by rw[KcJ]
    have e2:(i:Int)*(m:Int)=((i*m:Nat):Int):=by rw[KcJ]
    have b1:=Ky au cY;have b2:i*m+k<R*m:=by have:=Ky cY au;rw[KaU m R]at this;exact this
    have b3:k*R<=R*m:=Oz;have b4:i*m<=R*m:=Oz;have qG:l[i*m+k]=dG l m i k:=by unfold dG;rw[Kac,Kae Oz];rfl
    refine Ag i4 i27 ib g1 g2 gb gx e1 e2 Jp qG ?_;rw[va (n:=3) (xs:=ys) (v:=PV.rat (dG l m i k)) Oz rfl rfl];refine Sz2 i4 i27 ?_;refine gO (m-(k+1)) Oz ⟨k+1,ys.set (k*R+i) (PV.rat (dG l m i k)),rfl,Oz,?_⟩;refine Sz5 i4 ib g1 g2 gb ?_;refine⟨by simp[XL],λi' k' q1 q2 q3=>?_⟩;rw[KcM];by_cases e:k*R+i=k'*R+i'
    .obtain⟨rfl,rfl⟩:=api au q1 e.symm;rw[if_pos rfl,if_pos Oz]
    .rw[if_neg e];refine XM i' k' q1 ?_ q3;rcases q2 with q2|⟨q2,q4⟩
     .exact .inl q2
     .refine .inr ⟨q2,?_⟩;have:k'≠k:=λh=>e (by rw[h,q2])
      omega
   .have N8:k=m:=Oz;subst N8;refine Sz1 Jp ?_;simp (disch:=decide) only[rk,tG,gY,tI];refine gO (R-(i+1)) Oz ⟨i+1,ys,rfl,Oz,?_⟩;refine Sz6 i4 ib g1 g2 gb gx ?_;exact⟨XL,λi' k' q1 q2=>XM i' k' Oz Oz q2⟩
  .obtain rfl:i=R:=by omega
   have cX:xs=(ra l i m).map PV.rat:=by
    refine Ka9 (by rw[KaC,Gx];omega) λj q1 q2=>?_
    have rU:0<i:=by
     refine Kbf λh=>?_
     subst h;omega
    have hj:j/i<m:=by rw[Kba rU,uE];omega
    have hd:=Kbe j i;have zI:=Kbo j rU;have:=oO (j%i) (j/i) zI hj;rw[KaU,hd,Kae q1]at this;rw[Kbn this,Kbc];simp[ra,Fx]
   rw[cX]at hx;refine Sz5 j4 jb h2 hb hx ?_;refine JY 51 2 [2000002] (p:=.aU [.int .i64 (m:Nat),.int .i64 (i:Nat),.aD 2000002 0 (i*m)]) Tz0 (D:=PV.dU m i (ra l i m)) ?_ ?_ rfl ?_
   .intro c hc;simp only[KaA,KaR,or_false]at hc;rcases hc with rfl|rfl|rfl
    .trivial
    .trivial
    .simp only[qY,aP];simp
   .show PV.agg [_,_,iE _ h 2 (.aD 2000002 0 _)]=_;simp only[iE,hx,Ka6];rw[Kaf (by rw[KaC,Gx];omega)]
   refine Ic j4 jb h2 hb hx ?_;refine ss (nH ?_);refine jQ h2 ?_;exact ek rfl rfl rfl (Qi _) (Qi _)
end Go.Proofs.YtikalonaompbdaaGreat
namespace Go.FW
open Go
end Go.FW
