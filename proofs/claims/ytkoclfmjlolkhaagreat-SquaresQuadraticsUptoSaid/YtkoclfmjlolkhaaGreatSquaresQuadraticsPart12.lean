/- Part 12 of the proof of SquaresQuadratics: B5, A8, A9, A10, A11, U5, P5, U6, P6, V1, B4, B6, B7, B8, B9, B10, B11, Q3, Q4, FwVE, FwVF. Own lemmas; no conditions. -/
import Derived.Test.YtkoclfmjlolkhaaGreatSquaresQuadraticsPart11
set_option maxHeartbeats 1000000
set_option linter.unusedSimpArgs false
set_option linter.unusedVariables false
set_option linter.unnecessarySimpa false
set_option maxRecDepth 100000
namespace Go.Proofs.YtkoclfmjlolkhaaGreat
open Go Go.FW
theorem alb{n:Nat}(hn:n<=2^30):Qd Tryz.prog 56 [.int .i64 (n:Nat)] (· = .sl 3 (Qo PV.rat (fun _=>(0:Rat)) n)):=by
 refine aE Qg Tryz.func56 Ts fun C hP=>?_;refine Sz0 ?_;refine Qi okB [(4,4),(9,16)] [] (fun q J hp=>∃i xs,q=n-i/\i<=n/\J 9= .int .i64 (i:Nat)/\xs.length=n/\hp 6=some ⟨3,51,xs,false⟩/\∀j,j<i->xs[j]? =some (PV.rat 0)) n ?_ ?_
 ·refine⟨0,List.replicate n (.agg [.bool false,.au,.au]),rfl,by omega,?_⟩;refine Sz0 ?_;exact⟨rfl,by simp,fun j hj=>by omega⟩
 rintro _ J h ⟨i,xs,rfl,hi,h9,hl,h6,hx⟩;refine Sz1 h9 ?_;refine Qa (fun hg=>?_) (fun hg=>?_)
 ·have al:i<n:=by omega
  refine Sz1 h9 ?_;refine Qb hP (qK (x:=0) Oz Oz) ?_;rw[show((0:Int):Rat)=0 from rfl];generalize(0:Rat)=z at *
  refine Sz2 h9 h6 ?_;rw[qp (n:=3) (xs:=xs) (v:=PV.rat z) Oz rfl rfl];refine Sz1 h9 ?_;refine Qf (n-(i+1)) Oz ⟨i+1,xs.set i (PV.rat z),rfl,by omega,?_⟩;refine Sz0 ?_;refine⟨by simp[hl],fun j hj=>?_⟩;rw[Kcs];by_cases e:i=j
  ·rw[if_pos e,if_pos Oz]
  ·rw[if_neg e];exact hx j Oz
 ·obtain rfl:i=n:=by omega
  have e:xs=Qo PV.rat (fun _=>(0:Rat)) i:=by refine Ka7 (by simp[Qo,hl]) fun j h1 h2=>?_;have:=hx j Oz;rw[Kag h1]at this;rw[rC];exact KbM this
  refine Sz2 h9 h6 ?_;refine Qc ?_ ?_
  ·refine mm h6 e ?_;rw[Kac (by rw[fl];omega)]
  ·exact pG h6
theorem OB{x y:Nat->Rat}{c:Rat}{w ty1 ty2 k:Nat}(hw:w<=2^30)(hx:∀i,i<w->rs (x i)<=k)(hy:∀i,i<w->rs (y i)<=k)(hc:rs c<=k)(hk:k<=2^33):
  gj Tryz.prog 180 [.ms 1500000 w,.ms 1500001 w,PV.rat c] (fun _=>.undef) (Qj (Qj aA 1500000 ⟨3,ty1,Qo PV.rat x w,true⟩) 1500001 ⟨3,ty2,Qo PV.rat y w,true⟩) (fun r _ _=>r= .sl 3 (Qo PV.rat (gF x y c) w)):=by
 refine o6 Qg Tryz.func180 rfl SE Nz fun C hP=>?_;simp only[MD];refine fw ?_;refine Sz0 ?_;refine Qi okB [(8,8),(14,31)] [] (fun q J hp=>∃i xs,q=w-i/\i<=w/\J 14= .int .i64 (i:Nat)/\xs.length=w/\hp 11=some ⟨3,51,xs,false⟩/\hp 5=some ⟨3,51,[PV.rat c],false⟩/\hp 1500000=some ⟨3,ty1,Qo PV.rat x w,true⟩/\hp 1500001=some ⟨3,ty2,Qo PV.rat y w,true⟩/\∀j,j<i->xs[j]? =some (PV.rat (gF x y c j))) w ?_ ?_
 ·refine⟨0,List.replicate w (.agg [.bool false,.au,.au]),rfl,by omega,?_⟩;refine Sz0 ?_;exact⟨rfl,by simp,fun j hj=>by omega⟩
 rintro _ J h ⟨i,xs,rfl,hi,gz,hl,bZ,h5,iv,ke,ni⟩;refine Sz1 gz ?_;refine Qa (fun hg=>?_) (fun hg=>?_)
 ·have al:i<w:=by omega
  have h1:=hx i al;have h2:=hy i al;have hm:=fD c (y i);refine Sz5 gz bZ h5 iv ke ?_;refine Qb hP (pz (k:=k) hc h2 Oz) ?_;refine Sz5 gz bZ h5 iv ke ?_;refine Qb hP (wV (k:=2*k) Oz Oz Oz) ?_;refine Sz5 gz bZ h5 iv ke ?_;rw[qp (n:=3) (xs:=xs) (v:=PV.rat (x i+c*y i)) Oz rfl rfl];refine Sz1 gz ?_;refine Qf (w-(i+1)) Oz ⟨i+1,xs.set i (PV.rat (x i+c*y i)),rfl,by omega,?_⟩;refine Sz3 h5 iv ke ?_;refine⟨by simp[hl],fun j hj=>?_⟩;rw[Kcs];by_cases e:i=j
  ·subst e;rw[if_pos rfl,if_pos Oz];rfl
  ·rw[if_neg e];exact ni j Oz
 ·obtain rfl:i=w:=by omega
  have e:xs=Qo PV.rat (gF x y c) i:=by refine Ka7 (by simp[Qo,hl]) fun j h1 h2=>?_;have:=ni j Oz;rw[Kag h1]at this;rw[rC];exact KbM this
  refine Sz2 gz bZ ?_;refine rz ?_;refine Sz1 bZ ?_;refine Qc ?_ ?_
  ·refine mm bZ e ?_;rw[Kac (by rw[fl];omega)]
  ·exact pG bZ
theorem acu{x y:Nat->Rat}{c:Rat}{w ty2 k:Nat}(hw:w<=2^30)(hx:∀i,i<w->rs (x i)<=k)(hy:∀i,i<w->rs (y i)<=k)(hc:rs c<=k)(hk:k<=2^33):
  gj Tryz.prog 180 [.sl 3 (Qo PV.rat x w),.ms 1500001 w,PV.rat c] (fun _=>.undef) (Qj aA 1500001 ⟨3,ty2,Qo PV.rat y w,true⟩) (fun r _ _=>r= .sl 3 (Qo PV.rat (gF x y c) w)):=by
 have dD:(Qo PV.rat x w).length=w:=fl _ _ _;refine o6 Qg Tryz.func180 rfl SE Nz fun C hP=>?_;simp only[MD];refine fw ?_;refine Sz1 dD ?_;refine Qi okB [(8,8),(14,31)] [] (fun q J hp=>∃i xs,q=w-i/\i<=w/\J 14= .int .i64 (i:Nat)/\xs.length=w/\hp 11=some ⟨3,51,xs,false⟩/\hp 5=some ⟨3,51,[PV.rat c],false⟩/\hp 1500001=some ⟨3,ty2,Qo PV.rat y w,true⟩/\∀j,j<i->xs[j]? =some (PV.rat (gF x y c j))) w ?_ ?_
 ·refine⟨0,List.replicate w (.agg [.bool false,.au,.au]),rfl,by omega,?_⟩;refine Sz0 ?_;exact⟨rfl,by simp,fun j hj=>by omega⟩
 rintro _ J h ⟨i,xs,rfl,hi,gz,hl,bZ,h5,ke,ni⟩;refine Sz1 gz ?_;refine Qa (fun hg=>?_) (fun hg=>?_)
 ·have al:i<w:=by omega
  have h1:=hx i al;have h2:=hy i al;have hm:=fD c (y i);refine Sz4 gz bZ h5 ke ?_;refine Qb hP (pz (k:=k) hc h2 Oz) ?_;refine Sz4 gz bZ h5 ke ?_;refine Qb hP (wV (k:=2*k) Oz Oz Oz) ?_;refine Sz4 gz bZ h5 ke ?_;rw[qp (n:=3) (xs:=xs) (v:=PV.rat (x i+c*y i)) Oz rfl rfl];refine Sz1 gz ?_;refine Qf (w-(i+1)) Oz ⟨i+1,xs.set i (PV.rat (x i+c*y i)),rfl,by omega,?_⟩;refine Sz2 h5 ke ?_;refine⟨by simp[hl],fun j hj=>?_⟩;rw[Kcs];by_cases e:i=j
  ·subst e;rw[if_pos rfl,if_pos Oz];rfl
  ·rw[if_neg e];exact ni j Oz
 ·obtain rfl:i=w:=by omega
  have e:xs=Qo PV.rat (gF x y c) i:=by refine Ka7 (by simp[Qo,hl]) fun j h1 h2=>?_;have:=ni j Oz;rw[Kag h1]at this;rw[rC];exact KbM this
  refine Sz2 gz bZ ?_;refine rz ?_;refine Sz1 bZ ?_;refine Qc ?_ ?_
  ·refine mm bZ e ?_;rw[Kac (by rw[fl];omega)]
  ·exact pG bZ
def mV(M:MF)(R:Nat):Prop:=∀i,i<R->∀k,k<i->M i k=M k i
instance {M : MF} {R : Nat} : Decidable (mV M R) := by unfold mV; infer_instance
theorem acv{M:MF}{R K ty tyr:Nat}(cy:R<=40)(hK:K<2^35)(hB:fL K R R M):
  gj Tryz.prog 115 [.aI 1500000 0 R] (af (fun _=>.undef) 1500000 (.aC 1500000 1 ty (Qs (b5 1600000 R R id))))
   (fun x=>if x=1500000 then some ⟨1,ty,[],true⟩else if 1600000<=x/\x<1600000+R then some ⟨3,tyr,Qo PV.rat (M (x-1600000)) R,true⟩else none) (fun r _ _=>r= .bool (decide (mV M R))):=by
 refine o6 Qg Tryz.func115 rfl SF Nz fun C hP=>?_;simp only[MA];refine fw ?_;refine Sz0 ?_;refine eO okB [(0,0),(2,4),(7,31),(1500000,1500000)] [] (fun q J hp=>∃i,q=R-i/\i<=R/\J 0= .aI 1500000 0 R/\J 7= .int .i64 (i:Nat)/\J 1500000= .aC 1500000 1 ty (Qs (b5 1600000 R R id))/\hp 1500000=some ⟨1,ty,[],true⟩/\(∀r,r<R->hp (1600000+r)=some ⟨3,tyr,Qo PV.rat (M r) R,true⟩)/\∀j,j<i->∀k,k<j->M j k=M k j) R ?_ ?_
 ·refine⟨0,rfl,by omega,?_⟩;refine Sz0 ?_;refine⟨rfl,fun r hr=>?_,fun j hj=>by omega⟩;rw[if_pos ⟨by omega,by omega⟩,Kbp]
 rintro _ J h ⟨i,rfl,hi,h0,h7,hg,hh,hr,hs⟩;refine Sz1 h7 ?_;refine Qa (fun hc=>?_) (fun hc=>?_)
 ·have al:i<R:=by omega
  refine Sz4 h0 h7 hg hh ?_;refine eO okB [(0,0),(2,2),(4,4),(11,30),(1500000,1500000)] [] (fun q J hp=>∃k,q=i-k/\k<=i/\J 0= .aI 1500000 0 R/\J 11= .int .i64 (k:Nat)/\J 1500000= .aC 1500000 1 ty (Qs (b5 1600000 R R id))/\h=hp/\∀j,j<k->M i j=M j i) i ?_ ?_
  ·refine⟨0,rfl,by omega,?_⟩;refine Sz2 h0 hg ?_;exact⟨rfl,fun j hj=>by omega⟩
  rintro _ J2 _ ⟨k,rfl,hk,i0,i11,ig,rfl,is⟩;refine Sz1 i11 ?_;refine Qa (fun iD=>?_) (fun iD=>?_)
  ·have bI:k<i:=by omega
   have r1:=hr i al;have r2:=hr k Oz;have b1:=hB i al k Oz;have b2:=hB k Oz i al;simp+decide (disch:=first|omega|rfl|(simp+decide only[go_sem,i0,i11,ig,hh,r1,r2,id]<;>rfl)|fail) only[go_sem,i0,i11,ig,hh,r1,r2,id];refine Qb hP (ajR (a:=M i k) (b:=M k i) b1 b2 Oz) ?_;by_cases e:M i k=M k i
   ·refine Sz2 i11 e ?_;refine de (i-(k+1)) Oz ⟨k+1,rfl,by omega,?_⟩;refine Sz2 i0 ig ?_;intro j hj;by_cases e2:j=k
    ·subst e2;exact e
    ·exact is j Oz
   ·refine Sz1 e ?_;refine rz ?_;refine Sz0 ?_;refine Qc ?_ rfl;rw[decide_eq_false];exact fun h=>e (h i al k bI)
  ·refine Sz1 h7 ?_;simp (disch:=decide) only[kk,lY,dS,lX];refine de (R-(i+1)) Oz ⟨i+1,rfl,by omega,?_⟩;refine Sz3 i0 ig hh ?_;refine⟨hr,fun j hj k' bI=>?_⟩;by_cases e:j=i
   ·subst e;exact is k' Oz
   ·exact hs j Oz k' bI
 ·refine Sz0 ?_;refine rz ?_;refine Sz0 ?_;refine Qc ?_ rfl;rw[decide_eq_true];exact fun j hj k hk=>hs j Oz k hk
theorem aoc{M:MF}{R K ty tyr:Nat}(cy:R<=40)(hK:K<2^30)(hB:fL K R R M):
  gj Tryz.prog 116 [.aI 1500000 0 R] (af (fun _=>.undef) 1500000 (.aC 1500000 1 ty (Qs (b5 1600000 R R id))))
   (fun x=>if x=1500000 then some ⟨1,ty,[],true⟩else if 1600000<=x/\x<1600000+R then some ⟨3,tyr,Qo PV.rat (M (x-1600000)) R,true⟩else none) (fun r _ _=>r= .sl 4 ((cd M R).map (PV.form R))):=by
 refine o6 Qg Tryz.func116 rfl akl Nz fun C hP=>?_;simp only[Wz];refine fw ?_;refine Sz0 ?_;refine Qb hP (qK (x:=1) Oz Oz) ?_;rw[show((1:Int):Rat)=1 from rfl];obtain⟨u,hu⟩:∃u:Rat,(1:Rat)=u:=⟨_,rfl⟩
 rw[hu];refine Sz0 ?_;refine eO okB [(0,0),(2,2),(4,7),(16,47),(1500000,1500000)] [5,6,46] (fun q J hp=>∃i,q=R-i/\i<=R/\J 0= .aI 1500000 0 R/\J 16= .int .i64 (i:Nat)/\J 1500000= .aC 1500000 1 ty (Qs (b5 1600000 R R id))/\hp 1500000=some ⟨1,ty,[],true⟩/\(∀r,r<R->hp (1600000+r)=some ⟨3,tyr,Qo PV.rat (M r) R,true⟩)/\hp 3=some ⟨3,51,[PV.rat u],false⟩/\∀j,j<i->M j j=0) R ?_ ?_
 ·refine⟨0,rfl,by omega,?_⟩;refine Sz0 ?_;refine⟨rfl,fun r hr=>?_,fun j hj=>by omega⟩;rw[if_pos ⟨by omega,by omega⟩,Kbp]
 rintro _ J h ⟨i,rfl,hi,h0,qO,hg,hh,hr,h3,hz⟩;refine Sz1 qO ?_;refine Qa (fun hc=>?_) (fun hc=>?_)
 ·have al:i<R:=by omega
  have r1:=hr i al;have b1:=hB i al i al;simp+decide (disch:=first|omega|rfl|(simp+decide only[go_sem,h0,qO,hg,hh,r1,id]<;>rfl)|fail) only[go_sem,h0,qO,hg,hh,r1,id];refine Qb hP (pk (a:=M i i) Oz) ?_;simp+decide (disch:=first|omega|rfl|(simp+decide only[go_sem,h0,qO,hg,hh,r1,id]<;>rfl)|fail) only[go_sem,h0,qO,hg,hh,r1,id];refine Qa (fun hs=>?_) (fun hs=>?_)
  ·have aJ:M i i≠0:=fun e=>hs (dy.2 e);refine Sz1 h3 ?_;refine Qb hP (Bl (a:=u) (b:=M i i) (k:=K+1) (by rw[<-hu];have:=mT;omega) Oz Oz aJ) ?_;simp+decide (disch:=first|omega|rfl|(simp+decide only[go_sem,h0,qO,hg,hh,r1,id]<;>rfl)|fail) only[go_sem,h0,qO,hg,hh,r1,id];refine Qb hP (alb (n:=R) Oz) ?_;refine Sz0 ?_;have zk:rs (u/M i i)<=K+2:=by rw[Kbr];have q1:=fD u (M i i)⁻¹;have q2:=DH (M i i) aJ;have q3:=mT;rw[hu]at q3;omega
   have cmb:=acu (w:=R) (x:=fun _=>(0:Rat)) (y:=M i) (c:=u/M i i) (ty2:=tyr) (k:=K+2) Oz (fun _ _=>by have:=sN;omega) (fun c hc=>by have:=hB i al c hc;omega) zk Oz;refine HL hP (hb1:=⟨3,tyr,Qo PV.rat (M i) R,true⟩) cmb Tz0 (γ1:=1600000+i) (Tz1 r1) Tz0 (fun γ aj=>by simpa[PV.refs,PV.aQ]using aj) (by simp) ?_;refine Sz1 h0 ?_;refine rz ?_;refine Sz0 ?_;refine Qc ?_ ?_
   ·refine ij ?_;have Ng:eh M R=i:=yA (Kbz _) Oz (decide_eq_true aJ) fun j _ hj=>decide_eq_false (fun h=>h (hz j hj));unfold cd;rw[Ng,if_pos al,<-hu];rfl
   ·exact vv
  ·refine Sz1 qO ?_;refine de (R-(i+1)) Oz ⟨i+1,rfl,by omega,?_⟩;refine Sz4 h0 hg hh h3 ?_;refine⟨hr,fun j hj=>?_⟩;by_cases e:j=i
   ·subst e;exact dy.1 (Classical.not_not.1 hs)
   ·exact hz j Oz
 ·obtain rfl:i=R:=by omega
  have vR:¬eh M i<i:=by have:eh M i=0+i:=uX fun j _ hj=>decide_eq_false (fun h=>h (hz j Oz));omega
  refine Sz1 h0 ?_;refine eO okB [(0,0),(2,2),(8,12),(50,101),(1500000,1500000)] [10,11,99] (fun q J hp=>∃a,q=i-a/\a<=i/\J 0= .aI 1500000 0 i/\J 50= .int .i64 (a:Nat)/\J 1500000= .aC 1500000 1 ty (Qs (b5 1600000 i i id))/\hp 1500000=some ⟨1,ty,[],true⟩/\(∀r,r<i->hp (1600000+r)=some ⟨3,tyr,Qo PV.rat (M r) i,true⟩)/\hp 3=some ⟨3,51,[PV.rat u],false⟩/\∀j,j<a->∀k,k<i->M j k=0) i ?_ ?_
  ·refine⟨0,rfl,by omega,?_⟩;refine Sz4 h0 hg hh h3 ?_;exact⟨rfl,hr,fun j hj=>by omega⟩
  rintro _ J1 h1 ⟨a,rfl,ha,a0,H0,ag,ah,ar,a3,az⟩;refine Sz1 H0 ?_;refine Qa (fun BB=>?_) (fun BB=>?_)
  ·have mz:a<i:=by omega
   have r1:=ar a mz;simp+decide (disch:=first|omega|rfl|(simp+decide only[go_sem,a0,H0,ag,ah,r1,id]<;>rfl)|fail) only[go_sem,a0,H0,ag,ah,r1,id];refine eO okB [(0,0),(2,2),(9,12),(56,56),(58,100),(1500000,1500000)] [10,11,99] (fun q J hp=>∃b,q=i-b/\b<=i/\J 0= .aI 1500000 0 i/\J 56= .ms (1600000+a) i/\J 58= .int .i64 (b:Nat)/\J 1500000= .aC 1500000 1 ty (Qs (b5 1600000 i i id))/\hp 1500000=some ⟨1,ty,[],true⟩/\(∀r,r<i->hp (1600000+r)=some ⟨3,tyr,Qo PV.rat (M r) i,true⟩)/\hp 3=some ⟨3,51,[PV.rat u],false⟩/\∀k,k<b->M a k=0) i ?_ ?_
   ·refine⟨0,rfl,by omega,?_⟩;refine Sz4 a0 ag ah a3 ?_;exact⟨rfl,ar,fun j hj=>by omega⟩
   rintro _ J2 h2 ⟨b,rfl,hb,b0,mZ,mq,bg,bh,br,b3,bz⟩;refine Sz1 mq ?_;refine Qa (fun kB=>?_) (fun kB=>?_)
   ·have ax:b<i:=by omega
    have s1:=br a mz;have s2:=br b ax;have b1:=hB a mz b ax;simp+decide (disch:=first|omega|rfl|(simp+decide only[go_sem,b0,mZ,mq,bg,bh,s1,s2,id]<;>rfl)|fail) only[go_sem,b0,mZ,mq,bg,bh,s1,s2,id];refine Qb hP (pk (a:=M a b) Oz) ?_;simp+decide (disch:=first|omega|rfl|(simp+decide only[go_sem,b0,mZ,mq,bg,bh,s1,s2,id]<;>rfl)|fail) only[go_sem,b0,mZ,mq,bg,bh,s1,s2,id];refine Qa (fun hs=>?_) (fun hs=>?_)
    ·have aJ:M a b≠0:=fun e=>hs (dy.2 e);have rP:a≠b:=fun e=>aJ (by rw[<-e];exact hz a mz);simp+decide (disch:=first|omega|rfl|(simp+decide only[go_sem,b0,mZ,mq,bg,bh,b3,s1,s2,id]<;>rfl)|fail) only[go_sem,b0,mZ,mq,bg,bh,b3,s1,s2,id];have q1:=lz (M a b) (M a b);have XZ:M a b+M a b≠0:=fun h=>aJ (by grind);have q2:rs u<=1:=by rw[<-hu];exact mT
     have c1:=wV (a:=M a b) (b:=M a b) (k:=K) b1 b1 Oz;have c2:=Bl (a:=u) (b:=M a b+M a b) (k:=2*K+1) Oz Oz Oz XZ;have q3:rs (u/(M a b+M a b))<=2*K+2:=by rw[Kbr];have:=fD u (M a b+M a b)⁻¹;have:=DH (M a b+M a b) XZ;omega
     have c3:=Kq (a:=u/(M a b+M a b)) q3 Oz;have c4:=qK (x:= -1) Oz Oz;rw[show((-1:Int):Rat)= -1 from rfl]at c4;obtain⟨v,hv⟩:∃v:Rat,(-1:Rat)=v:=⟨_,rfl⟩
     have q4:rs v<=1:=by rw[<-hv,sw];exact mT
     rw[hv]at c4;have c5:=OB (w:=i) (x:=M a) (y:=M b) (c:=u) (ty1:=tyr) (ty2:=tyr) (k:=K+2) Oz (fun c hc=>by have:=hB a mz c hc;omega) (fun c hc=>by have:=hB b ax c hc;omega) Oz Oz;have c6:=OB (w:=i) (x:=M a) (y:=M b) (c:=v) (ty1:=tyr) (ty2:=tyr) (k:=K+2) Oz (fun c hc=>by have:=hB a mz c hc;omega) (fun c hc=>by have:=hB b ax c hc;omega) Oz Oz;have m8:eU M i a=b:=yA (Kbz _) Oz (decide_eq_true aJ) fun j _ hj=>decide_eq_false (fun h=>h (bz j hj));have BM:cF M i=a:=yA (Kbz _) Oz (decide_eq_true (by rw[m8];exact ax)) fun j _ hj=>decide_eq_false (fun h=>by have:eU M i j=0+i:=uX fun k _ hk=>decide_eq_false (fun h2=>h2 (az j Oz k Oz));omega);have gB:cd M i=[(u/(M a b+M a b),gF (M a) (M b) u),(-(u/(M a b+M a b)),gF (M a) (M b) v)]:=by unfold cd;rw[if_neg vR,BM,if_pos mz,m8,<-hu,<-hv]
     have Xr:¬1600000+b=1600000+a:=by omega
     repeat' first
      |refine lk ?_ ?_
      |refine Qb hP c1 ?_
      |refine Qb hP c2 ?_
      |simp+decide (disch:=first|omega|rfl|(simp+decide only[go_sem,b0,mZ,mq,bg,bh,b3,s1,s2,id]<;>rfl)|fail) only[go_sem,b0,mZ,mq,bg,bh,b3,s1,s2,id]
     all_goals
      refine SI hP (hb1:=⟨3,tyr,Qo PV.rat (M a) i,true⟩) (hb2:=⟨3,tyr,Qo PV.rat (M b) i,true⟩) c5 Tz0 (γ1:=1600000+a) (γ2:=1600000+b) (Tz1 s1) (Tz1 s2) Oz (Tz1 Xr) (fun γ aj=>by simpa[PV.refs,PV.aQ]using aj) (by simp) ?_;simp+decide (disch:=first|omega|rfl|(simp+decide only[go_sem,b0,mZ,mq,bg,bh,b3,s1,s2,id]<;>rfl)|fail) only[go_sem,b0,mZ,mq,bg,bh,b3,s1,s2,id];refine Qb hP c3 ?_;simp+decide (disch:=first|omega|rfl|(simp+decide only[go_sem,b0,mZ,mq,bg,bh,b3,s1,s2,id]<;>rfl)|fail) only[go_sem,b0,mZ,mq,bg,bh,b3,s1,s2,id];refine Qb hP c4 ?_;simp+decide (disch:=first|omega|rfl|(simp+decide only[go_sem,b0,mZ,mq,bg,bh,b3,s1,s2,id]<;>rfl)|fail) only[go_sem,b0,mZ,mq,bg,bh,b3,s1,s2,id];refine SI hP (hb1:=⟨3,tyr,Qo PV.rat (M a) i,true⟩) (hb2:=⟨3,tyr,Qo PV.rat (M b) i,true⟩) c6 Tz0 (γ1:=1600000+a) (γ2:=1600000+b) (Tz1 s1) (Tz1 s2) Oz (Tz1 Xr) (fun γ aj=>by simpa[PV.refs,PV.aQ]using aj) (by simp) ?_;simp+decide (disch:=first|omega|rfl|(simp+decide only[go_sem,b0,mZ,mq,bg,bh,b3,s1,s2,id]<;>rfl)|fail) only[go_sem,b0,mZ,mq,bg,bh,b3,s1,s2,id];refine rz ?_;refine Sz0 ?_;refine Qc ?_ ?_
      ·refine ij ?_;rw[gB];rfl
      ·exact vv
    ·refine Sz1 mq ?_;refine de (i-(b+1)) Oz ⟨b+1,rfl,by omega,?_⟩;refine Sz5 b0 mZ bg bh b3 ?_;refine⟨br,fun j hj=>?_⟩;by_cases e:j=b
     ·subst e;exact dy.1 (Classical.not_not.1 hs)
     ·exact bz j Oz
   ·refine Sz0 ?_;simp (disch:=decide) only[kk,lY,dS,lX];refine Sz1 H0 ?_;refine de (i-(a+1)) Oz ⟨a+1,rfl,by omega,?_⟩;refine Sz4 b0 bg bh b3 ?_;refine⟨br,fun j hj k hk=>?_⟩;by_cases e:j=a
    ·subst e;exact bz k Oz
    ·exact az j Oz k hk
  ·refine Sz0 ?_;refine rz ?_;refine Sz0 ?_;refine⟨rfl,.sl 4 [],trivial,?_⟩;unfold cd;have e1:¬cF M i<i:=by have:cF M i=0+i:=uX fun j _ hj=>decide_eq_false (fun h=>by have:eU M i j=0+i:=uX fun k _ hk=>decide_eq_false (fun h2=>h2 (az j Oz k Oz));omega);omega
   rw[if_neg vR,if_neg e1];rfl
def ME:ay:=⟨83,[.t 2,.cell 3 3 true,.t 4],Zr (iS 1 24<|
 Yf 2<|
 Zo (.alloc 3 3 24 (.agg [Zz 0,Zz 0,.au]))<|
 Yj 4 0)<| .seq (Zr (dn 10 3 1 52<|
 Zu 12 11 .nil)<| .cond (.t 12) (Zr (Zo (.eB 13 [Zz 0,Zz 0,.au] [])<|
 Yf 2<|
 Zs 3 3 13<|
 Yj 4 1) .ret) .skip)<|Zr (dn 14 3 1 54<|
 Zm 5 15 .nil)<| .seq (Zr (ff 16 0 1 1 1<|
 Zb 20 .neq 17 19<|
 Yw 21 20 5<|
 Bo 21 115)<| .cond (.t 25) (Zr (Zo (.eB 26 [Zz 0,Zz 0,.au] [])<|
 Yf 2<|
 Zs 3 3 26<|
 Yj 4 16) .ret) .skip)<|Zr (Yi 27 1 1<|
 Zf 29 1 3<|
 Zs 1 29 28 .nil)<| .seq (Zr (Yi 30 0 1<|
 Zo (.bin 32 .mul false (.c (Zz 2)) (.t 31))<|
 Zc 33 0<|
 .wk<| .wk<| .wk .nil)<| .block 0<| .loop<|Zr (Yz 34 33 32)<| .seq (.cond (.t 34) .skip (.exit 0))<| .seq (.block 1<|Zr (YD 35 5 116<|
 Ye 6 36)<|Zr (YV 37 6)<| .block 2<| .loop<|Zr (Yz 40 39 38)<| .seq (.cond (.t 40) .skip (.exit 2))<| .seq (.block 3<|Zr (YH 41 37 39 8 133)<|Zr (Zm 43 2<|
 YP 44 8 3<|
 Zo (.bs 46 3 51 [.t 45])<|
 Zo (.app 47 3 56 51 (.t 43) (.t 46))<|
 Ye 2 47)<|Zr (ff 48 2 3 3 8<|
 Zo (.app 52 3 56 51 (.t 49) (.t 51))<|
 Zf 53 2 3<|
 Zs 1 53 52 .nil)<|Zr (Yi 54 0 3<|
 Zk 56 .add 55 1<|
 Zf 57 0 3<|
 Zs 1 57 56 .nil)<|Zr (YV 58 5)<| .block 4<| .loop<|Zr (Yz 61 60 59)<| .seq (.cond (.t 61) .skip (.exit 4))<| .seq (.block 5<|Zr (YZ 62 60 9)<| .rg (Ym 63 5 9<|
 Yi 67 3 8<|
 YP 69 8 3<|
 Yi 71 3 8<|
 Zm 73 9<|
 Yx 74 3 72 73<|
 Yr 76 105 70 75<|
 Zq 77 false 117 [.t 66,.t 68,.t 76] .nil))<| .rg (Yu 78 60 60))<| .rg (Yu 79 39 39))<| .rg (Yu 80 33 33))<|Zr (ku 81 2 3<|
 .wk<|Zm 2 81<|
 Zs 3 3 82<|
 Yj 4 0) .ret⟩
theorem TN:Qe Tryz.prog Tryz.f48=some ME.strip:=by kernel_rfl
theorem acw{x y:Nat->Rat}{c:Rat}{w ty1 k:Nat}(hw:0<w)(IY:w<=2^30)(hx:∀i,i<w->rs (x i)<=k)(hy:∀i,i<w->rs (y i)<=k)(hc:rs c<=k)(hk:k<=2^33):
  gj Tryz.prog 117 [.ms 1000000 w,.sl 3 (Qo PV.rat y w),PV.rat c] (fun _=>.undef) (Qj aA 1000000 ⟨3,ty1,Qo PV.rat x w,false⟩) (fun r F H=>oy r/\∃xs,H 1000000=some ⟨3,ty1,xs,false⟩/\xs.length=(Qo PV.rat x w).length/\(r= .aH []/\xs=Qo PV.rat (fun i=>x i-c*y i) w)):=by
 refine o6 Qg Tryz.func117 rfl SD Nz fun C hP=>?_;simp only[MC];refine fw ?_;refine Sz0 ?_;refine Qb hP (pk (a:=c) Oz) ?_;refine Sz0 ?_;refine Qa (fun h0=>?_) (fun h0=>?_)
 ·refine Sz0 ?_;refine G2 ?_;refine Sz0 ?_;refine⟨_,rfl,rfl,om fun i hi=>?_⟩;rw[dy.1 h0,KcC,KcS,Rat.neg_zero,Rat.add_zero]
 refine Sz0 ?_;refine Qi okB [(6,6),(12,29)] [] (fun n J hp=>∃i,n=w-i/\i<=w/\J 12= .int .i64 (i:Nat)/\hp 5=some ⟨3,51,[PV.rat c],false⟩/\hp 1000000=some ⟨3,ty1,Qo PV.rat (fun j=>if j<i then x j-c*y j else x j) w,false⟩) w ?_ ?_
 ·refine⟨0,rfl,by omega,?_⟩;refine Sz0 ?_;exact⟨rfl,wW (om fun k _=>(if_neg (Nat.not_lt_zero k)).symm)⟩
 rintro _ J h ⟨i,rfl,hi,fZ,h5,iv⟩;refine Sz1 fZ ?_;refine Qa (fun hg=>?_) (fun hg=>?_)
 ·have al:i<w:=by omega
  have hm:=fD c (y i);have h1:=hx i al;have h2:=hy i al;refine Sz3 fZ h5 iv ?_;rw[if_neg (Kc0 i)];refine Qb hP (pz (k:=k) hc h2 Oz) ?_;refine Sz3 fZ h5 iv ?_;refine Qb hP (F5 (k:=2*k) Oz Oz Oz) ?_;refine Sz3 fZ h5 iv ?_;rw[HK al];refine Sz1 fZ ?_;refine Qf (w-(i+1)) Oz ⟨i+1,rfl,by omega,?_⟩;refine Sz1 h5 ?_;refine wW (om fun k _=>?_);by_cases e:k=i
  ·subst e;rw[if_pos rfl,if_pos Oz]
  ·rw[if_neg e];by_cases e2:k<i
   ·rw[if_pos e2,if_pos Oz]
   ·rw[if_neg e2,if_neg Oz]
 ·obtain rfl:i=w:=by omega
  refine Sz1 fZ ?_;refine G2 ?_;refine Sz1 iv ?_;exact⟨_,rfl,by rw[fl,fl],om fun k hk=>if_pos hk⟩
theorem PI{R w x:Nat}{M:MF}{hp:HP}(h:x<3000000)(h2:¬x=2000000):sG R w M hp x=hp x:=by unfold sG;rw[if_neg h2,if_neg Oz]
abbrev vr(R n:Nat):PV:=.bo [.int .i64 (n:Nat),.int .i64 (R:Nat),.aB 2000002 0 (n*R)]
abbrev qL(R:Nat)(l:List LF):PV:=.aH [PV.bj (l.map (·.1)),PV.a9 l.length R (dj R l),.int .i64 0]
theorem RG{R K:Nat}{l:List Rat}(hl:l.length=R*R)(vI:0<R)(cy:R<=40)(hs:∀q∈l,rs q<=1048576)(hK:K<2^28)(hB:xa K R (2*R) (Qq l R))(zM:mV (Qq l R) R):
  Qd Tryz.prog 48 [PV.a9 R R l] (· =qL R (Qx R (Qq l R) (2*R)).2):=by
 refine o8 Qg Tryz.func48 rfl TN Nz fun C hP=>?_;simp only[ME];refine fw ?_;refine Sz0 ?_;refine Qb hP (GK hl cy cy hs) ?_;refine Sz0 ?_;have m9:∀(hp:HP),(∀x,5<=x->hp x=none)->∀x,kH R x=true->hp x=none:=fun hp h x hx=>h x (by have:=wX hx;omega);refine PH hP hl vI cy cy Oz (m9 _ (fun x hx=>by simp+decide (disch:=try exact D4 (show ¬x=1 from by omega) (show ¬x=2 from by omega) (show ¬x=3 from by omega) (show ¬x=4 from by omega)) only[go_sem,show ¬x=1 from by omega,show ¬x=2 from by omega,show ¬x=3 from by omega,show ¬x=4 from by omega]<;>rfl)) ?_;refine Sz3 @vb @vj @yv ?_;have lI:=hB 0 Oz;have hx:=acv (K:=K) (ty:=22) (tyr:=51) cy Oz lI.1
 repeat' first
  |refine lk ?_ ?_
  |refine SK (ys:=fun r=>Qo PV.rat (Qq l R r) R) hP Oz hx (by simp[FI]) Tz0 (Tz1 @Jr) (fun r hr=>by simp+decide (disch:=first|omega|rfl|(simp+decide only[go_sem,CP]<;>rfl)|fail) only[go_sem,CP]) ?_
  |simp+decide (disch:=first|omega|rfl|(simp+decide only[go_sem,vb,vj,yv]<;>rfl)|fail) only[go_sem,vb,vj,yv]
 rw[show(Qx R (Qq l R) 0).1=Qq l R from rfl,decide_eq_true zM];refine Sz3 @vb @vj @yv ?_;refine di (mP 3 2000001 (Cd @PI) Oz rfl Oz) ?_;have EW:ch (iJ 3 2000001) (.aC 2000000 1 22 (Qs (b5 3000000 R R id)))= .aC 2000000 1 22 (Qs (b5 3000000 R R id)):=ZR Oz Oz Oz;refine Sz1 EW ?_;refine di (va (γ:=2000001) (e:=3) (ty:=24) (xs:=[.agg [.int .i64 0,.int .i64 (R:Nat),.au]]) (fz:=false) Tz0 (by simp) Oz (fun x hx=>by rw[Kau.1 hx];rfl)) ?_;refine di (CU (γ:=2000001) (e:=3) (ty:=24) (cs:=[.int .i64 0,.int .i64 (R:Nat),.au]) (cs':=[.int .i64 0,.int .i64 (R:Nat),.aB 2000002 0 0]) 2000002 3 51 Tz0 (Cd @PI) Oz Oz rfl (by simp)) ?_;refine Sz0 ?_;refine fW 2 900 3 51 Oz Tz0 ?_;obtain⟨M,hM⟩:∃M,Qq l R=M:=⟨_,rfl⟩
 rw[hM]at hB⊢;refine eO okB [(2,3),(5,6),(8,9),(33,80),(2000000,2000001)] [8,46,47,52,900] (fun q J hp=>∃k,q=2*R-k/\k<=2*R/\J 2= .ms 900 (Qx R M k).2.length/\J 3= .np 2000001 0 0/\J 5= .aI 2000000 0 R/\J 33= .int .i64 (k:Nat)/\J 2000000= .aC 2000000 1 22 (Qs (b5 3000000 R R id))/\J 2000001= .aC 2000001 3 24 [vr R (Qx R M k).2.length]/\
   hp 2000000=some ⟨1,22,[],false⟩/\hp 2000001=some ⟨3,24,[],false⟩/\hp 2000002=some ⟨3,51,(dj R (Qx R M k).2).map PV.rat,false⟩/\hp 900=some ⟨3,51,((Qx R M k).2.map (·.1)).map PV.rat,false⟩/\
   ∀r,r<R->hp (3000000+r)=some ⟨3,51,Qo PV.rat ((Qx R M k).1 r) R,false⟩) (2*R) ?_ ?_
 ·refine⟨0,rfl,by omega,?_⟩;refine Sz3 @vb @vj @yv ?_;refine⟨rfl,rfl,?_,Jr,rfl,rfl,fun r hr=>CP hr⟩;simp[Qx]
 rintro _ J h ⟨k,rfl,hk,j2,j3,j5,v9,jg,jb,h0,h1,h2,h9,gd⟩;refine Sz1 v9 ?_;refine Qa (fun hc=>?_) (fun hc=>?_)
 ·have bI:k<2*R:=by omega
  have kA:=hB k hk;have xH:=Gw R M k;have nR:=sh R (Qx R M k).2;have gL:(Qx R M (k+1)).1=fP (Qx R M k).1 (cd (Qx R M k).1 R):=rfl;have nV:(Qx R M (k+1)).2=(Qx R M k).2++cd (Qx R M k).1 R:=rfl;obtain⟨E,hE⟩:∃E,Qx R M k=E:=⟨_,rfl⟩
  rw[hE]at kA xH nR gL nV j2 jb h2 h9 gd;obtain⟨N,fs⟩:=E;simp only at kA xH nR gL nV j2 jb h2 h9 gd;have jc:=KF N R;have gQ:=aoc (K:=K) (ty:=22) (tyr:=51) cy Oz kA.1;refine Sz5 j2 j3 j5 jg jb ?_;refine SK (ys:=fun r=>Qo PV.rat (N r) R) hP Oz gQ (by simp[FI]) (Tz1 jg) h0 gd ?_;obtain⟨L,hL⟩:∃L,cd N R=L:=⟨_,rfl⟩
  rw[hL]at kA jc gL nV⊢;refine Sz5 j2 j3 j5 jg jb ?_;refine eO okB [(2,3),(5,5),(8,9),(39,79),(2000000,2000001)] [8,46,47,52,900] (fun q J hp=>∃i,q=L.length-i/\i<=L.length/\J 2= .ms 900 (fs++L.take i).length/\J 3= .np 2000001 0 0/\J 5= .aI 2000000 0 R/\J 39= .int .i64 (i:Nat)/\J 2000000= .aC 2000000 1 22 (Qs (b5 3000000 R R id))/\J 2000001= .aC 2000001 3 24 [vr R (fs++L.take i).length]/\
   hp 2000000=some ⟨1,22,[],false⟩/\hp 2000001=some ⟨3,24,[],false⟩/\hp 2000002=some ⟨3,51,(dj R (fs++L.take i)).map PV.rat,false⟩/\hp 900=some ⟨3,51,((fs++L.take i).map (·.1)).map PV.rat,false⟩/\
   ∀r,r<R->hp (3000000+r)=some ⟨3,51,Qo PV.rat (fP N (L.take i) r) R,false⟩) L.length ?_ ?_
  ·refine⟨0,rfl,by omega,?_⟩;refine Sz9 j2 j3 j5 jg jb h0 h1 h2 h9 ?_;simp only[Kam];exact⟨trivial,rfl,trivial,trivial,trivial,gd⟩
  rintro _ J1 g ⟨i,rfl,hi,i2,i3,i5,i39,ig,ib,g0,g1,g2,g9,MJ⟩;refine Sz1 i39 ?_;refine Qa (fun m8=>?_) (fun m8=>?_)
  ·have al:i<L.length:=by omega
   have aT:L.take (i+1)=L.take i++[L[i]]:=Kak al;have vN:=kA.2.1 _ (Kah al);have Eh:=kA.2.2 i hi;have jm:(fs++L.take i).length<=200:=by rw[Kay,KaF];omega
   have EC:=sh R (fs++L.take i);generalize hf:L[i]=f at *
   have dF:=Lu N (L.take i) f;have EE:=Lv R (fs++L.take i) f;have En:fs++L.take (i+1)=(fs++L.take i)++[f]:=by rw[aT,<-List.append_assoc]
   rw[<-aT]at dF;generalize hT:fs++L.take i=T at *
   generalize hZ:fP N (L.take i)=Z at *
   have Xn:T.length*R<=200*40:=KaQ jm cy;have dD:(Qo PV.rat f.2 R).length=R:=fl _ _ _;refine Sz11 i2 i3 i5 i39 ig ib g0 g1 g2 g9 hf ?_;rw[Qr (f:=PV.rat) (y:=f.1) (xs:=T.map (·.1)) (ty':=51) (fz:=false) (Tz1 g9) Tz0 Oz (by simp) Oz Oz];refine yP i2 i3 i5 i39 ig ib g0 g1 g2 g9 ?_;rw[Ke (xs:=(dj R T).map PV.rat) (Tz1 g2) Oz (by rw[Kal,EC]) (Dn vI) (by rw[dD];omega) (by rw[dD];omega) Oz,dD];refine yP i2 i3 i5 i39 ig ib g0 g1 g2 g9 ?_;obtain⟨g8,BD⟩:∃g8,g8=HB.mk 4 133 [PV.form R f] false:=⟨_,rfl⟩
   refine eO okB [(3,3),(5,5),(9,9),(60,78),(2000000,2000001)] [] (fun q J hp=>∃r,q=R-r/\r<=R/\J 3= .np 2000001 0 0/\J 5= .aI 2000000 0 R/\J 60= .int .i64 (r:Nat)/\J 2000000= .aC 2000000 1 22 (Qs (b5 3000000 R R id))/\J 2000001= .aC 2000001 3 24 [vr R (T.length+1)]/\
    hp 2000000=some ⟨1,22,[],false⟩/\hp 2000001=some ⟨3,24,[],false⟩/\hp 2000002=some ⟨3,51,(dj R (T++[f])).map PV.rat,false⟩/\hp 900=some ⟨3,51,((T++[f]).map (·.1)).map PV.rat,false⟩/\hp 8=some g8/\
    ∀r',r'<R->hp (3000000+r')=some ⟨3,51,Qo PV.rat (if r'<r then cT Z f r' else Z r') R,false⟩) R ?_ ?_
   ·refine⟨0,rfl,by omega,?_⟩;refine yP i2 i3 i5 i39 ig ib g0 g1 g2 g9 ?_;refine⟨rfl,?_,?_,?_,BD.symm,fun r' cM=>?_⟩
    ·have e1:T.length*R+R=(T.length+1)*R:=by rw[KaK,KcT]
     rw[e1]
    ·rw[EE,Ka9,pe]
    ·simp
    ·rw[if_neg Oz];exact MJ r' cM
   rintro _ J2 e ⟨r,rfl,hr,k3,k5,BX,kg,kb,e0,e1,e2,e9,e8,MI⟩;refine Sz1 BX ?_;refine Qa (fun pK=>?_) (fun pK=>?_)
   ·have cM:r<R:=by omega
    have er:=MI r cM;rw[if_neg (Kc0 r)]at er;simp+decide (disch:=first|omega|rfl|(simp+decide only[go_sem,k3,k5,BX,kg,kb,e0,e1,e2,e9,e8,BD,er,id]<;>rfl)|fail) only[go_sem,k3,k5,BX,kg,kb,e0,e1,e2,e9,e8,BD,er,id];have hm:=fD f.1 (f.2 r);have il:=vN.2 r cM;refine Qb hP (pz (a:=f.1) (b:=f.2 r) (k:=K) vN.1 il Oz) ?_;simp+decide (disch:=first|omega|rfl|(simp+decide only[go_sem,k3,k5,BX,kg,kb,e0,e1,e2,e9,e8,BD,er,id]<;>rfl)|fail) only[go_sem,k3,k5,BX,kg,kb,e0,e1,e2,e9,e8,BD,er,id];have sub:=acw (w:=R) (x:=Z r) (y:=f.2) (c:=f.1*f.2 r) (ty1:=51) (k:=2*K) vI Oz (fun c hc=>by have:=Eh r cM c hc;omega) (fun c hc=>by have:=vN.2 c hc;omega) Oz Oz;refine aku hP sub er rfl (Dn vI) (by simp[bJ];omega) Tz0 (fun γ aj=>by simpa[PV.refs,PV.aQ]using aj) (by simp) ?_;rintro _ xs _ ⟨rfl,rfl⟩;refine Sz1 BX ?_;refine de (R-(r+1)) Oz ⟨r+1,rfl,by omega,?_⟩;refine Sz9 k3 k5 kg kb e0 e1 e2 e9 e8 ?_;refine⟨BD,fun r' iE=>?_⟩;by_cases e3:r'=r
    ·subst e3;rw[if_pos rfl,if_pos Oz];rfl
    ·rw[if_neg e3,MI r' iE];by_cases e4:r'<r
     ·rw[if_pos e4,if_pos Oz]
     ·rw[if_neg e4,if_neg Oz]
   ·have zJ:r=R:=by omega
    subst zJ;rw[kk]
    rotate_left
    ·decide
    refine Sz1 i39 ?_;refine de (L.length-(i+1)) Oz ⟨i+1,rfl,by omega,?_⟩;rw[En,dF];refine Sz9 i2 k3 k5 kg kb e0 e1 e2 e9 ?_;rw[Kay];exact⟨rfl,rfl,fun r' cM=>by rw[MI r' cM,if_pos cM]⟩
  ·have EI:i=L.length:=by omega
   subst EI;rw[Kaz]at i2 ib g2 g9 MJ;simp (disch:=decide) only[kk,lY,dS,lX];refine Sz1 v9 ?_;refine de (2*R-(k+1)) Oz ⟨k+1,rfl,by omega,?_⟩;rw[gL,nV];refine Sz9 i2 i3 i5 ig ib g0 g1 g2 g9 ?_;exact MJ
 ·have BE:k=2*R:=by omega
  subst BE;refine Sz9 j2 j3 j5 jg jb h0 h1 h2 h9 ?_;have nR:=sh R (Qx R M (2*R)).2;have kZ:(dj R (Qx R M (2*R)).2).map PV.rat=(dj R (Qx R M (2*R)).2).map PV.rat:=rfl;refine AN 82 2 [2000002] (p:=vr R (Qx R M (2*R)).2.length) Tz0 (D:=PV.a9 (Qx R M (2*R)).2.length R (dj R (Qx R M (2*R)).2)) ?_ ?_ rfl ?_
  ·intro c hc;simp only[KaG,KbT,or_false]at hc;rcases hc with rfl|rfl|rfl
   ·trivial
   ·trivial
   ·simp only[od,aR];simp
  ·show PV.agg [_,_,eC _ h 2 (.aB 2000002 0 _)]=_;simp only[eC,h2,Ka0];rw[Kac (by rw[Kal,nR];omega)]
  refine DQ j2 j3 jb h1 h9 ?_;refine JE (an7 (γ:=2000001) (e:=3) (ty:=24) (xs:=[PV.a9 (Qx R M (2*R)).2.length R (dj R (Qx R M (2*R)).2)]) 3 Tz0 (Cd j3) rfl (fun x hx=>by rw[Kau.1 hx];exact⟨rfl,rfl,fun c hc=>by simp only[PV.aS,PV.cells,KaG,KbT,or_false]at hc;rcases hc with rfl|rfl|rfl<;>rfl⟩)) ?_;refine Ko ?_;refine lG h9 ?_;rw[Kac (by simp)];exact jy rfl rfl rfl rfl (Ql _) (Ql _) (Ql _)
theorem PJ{p:List Tm}{i:Nat}(h:i<p.length):jz (p.take (i+1))=max (jz (p.take i)) (dT p[i].2):=by rw[Kak h,jz,Kde];rfl
theorem KE{p:List Tm}{K E:Nat}(hp:PB K E p)(hE:E<=2^38)(cW:p.length<=2^36):Qd Tryz.prog 43 [PV.aL p] (· = .int .i64 (jz p)):=by
 refine aE Qg Tryz.func43 amD fun C hP=>?_;refine Sz0 ?_;refine Qi dV [(3,3),(5,5),(8,17)] [5] (fun n J hp=>∃i,n=p.length-i/\i<=p.length/\J 3= .int .i64 (jz (p.take i))/\J 8= .int .i64 (i:Nat)) p.length ?_ ?_
 ·refine⟨0,rfl,by omega,?_⟩;refine Sz0 ?_;simp[jz]
 rintro _ J h ⟨i,rfl,hi,h3,h8⟩;refine Sz2 h3 h8 ?_;refine Qa (fun hg=>?_) (fun hg=>?_)
 ·have al:i<p.length:=by omega
  have cg:=hp.get al;have aT:=PJ al;generalize hx:p[i]=x at *
  have hl:=cg.m.len;have hd:=Dm cg.m;refine Sz3 h3 h8 hx ?_;refine Qb hP (KB (a:=x.2) Oz (fun y hy=>⟨cg.m.lo y hy,by have:=cg.m.hi y hy;omega⟩)) ?_;refine Sz3 h3 h8 hx ?_;refine Qf (p.length-(i+1)) Oz ⟨i+1,rfl,by omega,?_⟩;rw[aT];exact Tz0
 ·obtain rfl:i=p.length:=by omega
  rw[Kaz]at h3;refine Sz1 h3 ?_;exact Qc rfl rfl
theorem Gc{p:List Tm}{K E:Nat}(hp:PB K E p)(hE:E<=2^38)(cW:p.length<=2^36):Qd Tryz.prog 76 [PV.aL p] (· = .int .i64 (jz p)):=by
 refine aE Qg Tryz.func76 anh fun C hP=>?_;refine Sz0 ?_;refine Qi okB [(3,18)] [] (fun n J hp=>∃i,n=p.length-i/\i<=p.length/\J 3= .int .i64 (jz (p.take i))/\J 4= .int .i64 (i:Nat)) p.length ?_ ?_
 ·refine⟨0,rfl,by omega,?_⟩;refine Sz0 ?_;simp[jz]
 rintro _ J h ⟨i,rfl,hi,h3,h4⟩;refine Sz2 h3 h4 ?_;refine Qa (fun hg=>?_) (fun hg=>?_)
 ·have al:i<p.length:=by omega
  have cg:=hp.get al;have aT:=PJ al;generalize hx:p[i]=x at *
  have hl:=cg.m.len;have hd:=Dm cg.m;refine Sz3 h3 h4 hx ?_;refine Qb hP (Ci (a:=x.2) Oz (fun y hy=>⟨cg.m.lo y hy,by have:=cg.m.hi y hy;omega⟩)) ?_;refine Sz3 h3 h4 hx ?_;refine Qf (p.length-(i+1)) Oz ⟨i+1,rfl,by omega,?_⟩;rw[aT];exact Tz0
 ·obtain rfl:i=p.length:=by omega
  rw[Kaz]at h3;refine Sz1 h3 ?_;exact Qc rfl rfl
theorem Gg{p:List Tm}{E:Nat}(hp:∀t∈p,MB E t.2)(cW:p.length<=2^36):Qd Tryz.prog 20 [PV.aL p] (· =PV.mono (Km p)):=by
 refine aE Qg Tryz.func20 anp fun C hP=>?_;refine Sz0 ?_;refine fW 3 900 1 3 Oz Tz0 ?_;refine Qi okB [(3,32)] [31,32,900] (fun n J hp=>∃k,n=64-k/\k<=64/\J 3= .ms 900 (qw k (fe p)).length/\J 4= .int .i64 (k:Nat)/\hp 900=some ⟨1,3,nC (qw k (fe p)),false⟩) 64 ?_ ?_
 ·refine⟨0,rfl,by omega,?_⟩;refine Sz0 ?_;exact⟨rfl,rfl,rfl⟩
 rintro _ J h ⟨k,rfl,hk,h3,h4,hh⟩;have aV:=Us k (fe p);have eF:=UP k (fe p);refine Sz2 h3 h4 ?_;refine Qa (fun hg=>?_) (fun hg=>?_)
 ·have bI:k<64:=by omega
  refine Sz2 h3 h4 ?_;refine Qi okB [(5,6),(11,27)] [] (fun n J hp=>∃i,n=p.length-i/\i<=p.length/\J 5= .bool (fe (p.take i) k)/\J 6= .int .i64 (i:Nat)/\hp 900=some ⟨1,3,nC (qw k (fe p)),false⟩) p.length ?_ ?_
  ·refine⟨0,rfl,by omega,?_⟩;refine Sz1 hh ?_;exact⟨rfl,rfl⟩
  rintro _ J2 h2 ⟨i,rfl,hi,h5,h6,dI⟩;refine Sz2 h5 h6 ?_;refine Qa (fun eK=>?_) (fun eK=>?_)
  ·have al:i<p.length:=by omega
   have cg:=hp _ (Kah al);have aT:=Ps al k;generalize hx:p[i]=x at *
   have kZ:=cg.len;have nb:=(cg.eN k).1;cases hb:fe (p.take i) k
   ·rw[hb,Bool.false_or]at aT;rw[hb]at h5;refine Sz5 h3 h4 h5 h6 hx ?_;refine Qb hP (oX Oz) ?_;refine Sz5 h3 h4 h5 h6 hx ?_;refine Qf (p.length-(i+1)) Oz ⟨i+1,rfl,by omega,?_⟩;rw[aT,show decide (eN x.2 k≠0)=decide (0<eN x.2 k)from decide_eq_decide.2 Oz];exact Tz1 dI
   ·rw[hb,Bool.true_or]at aT;rw[hb]at h5;refine Sz5 h3 h4 h5 h6 hx ?_;refine Qf (p.length-(i+1)) Oz ⟨i+1,rfl,by omega,?_⟩;rw[aT];exact Tz1 dI
  ·obtain rfl:i=p.length:=by omega
   rw[Kaz]at h5;refine Sz4 h3 h4 h5 h6 ?_;cases hb:fe p k
   ·rw[if_neg (by simp[hb]),Kam]at eF;refine Sz2 h3 h4 ?_;simp (disch:=decide) only[fV,dS];refine Qf (64-(k+1)) Oz ⟨k+1,rfl,by omega,?_⟩;rw[eF];exact Tz2 dI h3
   ·rw[if_pos hb]at eF;refine Sz2 h3 h4 ?_;rw[Qr (f:=fun(x:Int)=>.int .i64 x) (y:=(k:Int)) (xs:=qw k (fe p)) (ty':=3) (fz:=false) (Tz1 dI) cE Oz rfl Oz Oz];refine Sz2 h3 h4 ?_;simp (disch:=decide) only[fV,dS];refine Qf (64-(k+1)) Oz ⟨k+1,rfl,by omega,?_⟩;rw[eF];simp+decide (disch:=first|omega|rfl|(simp+decide only[go_sem,Kay]<;>rfl)|fail) only[go_sem,Kay]
 ·obtain rfl:k=64:=by omega
  refine mm h3 hh ?_;exact Qc (by rw[Kac (by simp)];rfl) rfl
theorem acx{p:List Tm}{E:Nat}(hp:∀t∈p,MB E t.2)(cW:p.length<=2^36):Qd Tryz.prog 44 [PV.aL p] (· =PV.mono (Km p)):=by
 refine aE Qg Tryz.func44 amE fun C hP=>?_;refine Sz0 ?_;refine Qi dV [(5,7),(13,34)] [5] (fun n J hp=>∃i,n=p.length-i/\i<=p.length/\J 13= .int .i64 (i:Nat)/\hp 3=some ⟨64,128,[.agg ((mf 64 (fe (p.take i))).map PV.bool)],false⟩) p.length ?_ ?_
 ·refine⟨0,rfl,by omega,?_⟩;refine Sz0 ?_;exact⟨rfl,rfl⟩
 rintro _ J h ⟨i,rfl,hi,fy,hh⟩;refine Sz1 fy ?_;refine Qa (fun hg=>?_) (fun hg=>?_)
 ·have al:i<p.length:=by omega
  have cg:=hp _ (Kah al);have aT:=Ps al;generalize hx:p[i]=x at *
  have kZ:=cg.len;refine Sz2 fy hx ?_;refine Qi dV [(6,7),(20,33)] [] (fun n J hp=>∃j,n=x.2.length-j/\j<=x.2.length/\J 20= .int .i64 (j:Nat)/\hp 3=some ⟨64,128,[.agg ((mf 64 (fun v=>fe (p.take i) v||(decide (v<j)&&decide (eN x.2 v≠0)))).map PV.bool)],false⟩) x.2.length ?_ ?_
  ·refine⟨0,rfl,by omega,?_⟩;refine Sz1 hh ?_;exact⟨rfl,by simp⟩
  rintro _ J2 h2 ⟨j,rfl,hj,jX,dI⟩;refine Sz1 jX ?_;refine Qa (fun eK=>?_) (fun eK=>?_)
  ·have et:j<x.2.length:=by omega
   have he:=fY et;generalize hy:x.2[j]=y at *
   refine Sz2 jX hy ?_;refine fN (fun hz=>?_) (fun hz=>?_)
   ·refine Sz2 jX hy ?_;refine Qa (fun _=>?_) (fun h=>by omega);simp+decide (disch:=first|omega|rfl|(simp+decide only[go_sem,jX,hy,dI,Sv (show j<64 by omega),KbK]<;>rfl)|fail) only[go_sem,jX,hy,dI,Sv (show j<64 by omega),KbK];refine Qf (x.2.length-(j+1)) Oz ⟨j+1,rfl,by omega,?_⟩;have ka:=ag3 (n:=64) (h:=fun v=>fe (p.take i) v||(decide (v<j)&&decide (eN x.2 v≠0))) (g:=fun v=>fe (p.take i) v||(decide (v<j+1)&&decide (eN x.2 v≠0))) (show j<64 by omega) (fun v hv=>by
     by_cases pY:v=j
     ·subst pY;simp[he,hz]
     ·rw[if_neg pY,decide_eq_decide.2 (show v<j+1↔v<j by omega)])
    rw[<-ka];exact Tz0
   ·refine Sz2 jX hy ?_;refine Qf (x.2.length-(j+1)) Oz ⟨j+1,rfl,by omega,?_⟩;have hc:=Wo (n:=64) (h:=fun v=>fe (p.take i) v||(decide (v<j+1)&&decide (eN x.2 v≠0))) (g:=fun v=>fe (p.take i) v||(decide (v<j)&&decide (eN x.2 v≠0))) (fun v hv=>by
     by_cases pY:v=j
     ·subst pY;simp[he,Decidable.not_not.1 hz]
     ·show(_||_)=_;rw[decide_eq_decide.2 (show v<j+1↔v<j by omega)])
    rw[hc];exact Tz1 dI
  ·obtain rfl:j=x.2.length:=by omega
   have hc:=Wo (n:=64) (h:=fe (p.take (i+1))) (g:=fun v=>fe (p.take i) v||(decide (v<x.2.length)&&decide (eN x.2 v≠0))) (fun v hv=>by
    rw[aT];by_cases pY:v<x.2.length
    ·simp[pY]
    ·rw[jh Oz];simp)
   refine Sz2 fy jX ?_;simp (disch:=decide) only[fV,dS];refine Qf (p.length-(i+1)) Oz ⟨i+1,rfl,by omega,?_⟩;rw[hc];exact Tz1 dI
 ·obtain rfl:i=p.length:=by omega
  rw[Kaz]at hh;have IV:=acX (Gt 64 (fe p));refine Sz3 fy hh IV ?_;refine fW 8 900 1 3 Oz Tz0 ?_;refine Qi dV [(8,10),(36,45)] [43,44,900] (fun n J hp=>∃k,n=64-k/\k<=64/\J 8= .ms 900 (qw k (fe p)).length/\J 36= .int .i64 (k:Nat)/\hp 900=some ⟨1,3,nC (qw k (fe p)),false⟩) 64 ?_ ?_
  ·refine⟨0,rfl,by omega,?_⟩;refine Sz0 ?_;exact⟨rfl,rfl,rfl⟩
  rintro _ J3 h3 ⟨k,rfl,hk,h8,sX,cb⟩;have aV:=Us k (fe p);have eF:=UP k (fe p);refine Sz2 h8 sX ?_;refine Qa (fun Nn=>?_) (fun Nn=>?_)
  ·have bI:k<64:=by omega
   have dD:k<(mf 64 (fe p)).length:=by rw[Gt];exact bI
   have X9:=ag2 dD;simp+decide (disch:=first|omega|rfl|(simp+decide only[go_sem,h8,sX,Rm (Gt 64 (fe p)) dD,X9]<;>rfl)|fail) only[go_sem,h8,sX,Rm (Gt 64 (fe p)) dD,X9];cases hb:fe p k
   ·rw[if_neg (by simp[hb]),Kam]at eF;refine Sz2 h8 sX ?_;refine Qf (64-(k+1)) Oz ⟨k+1,rfl,by omega,?_⟩;rw[eF];exact Tz2 cb h8
   ·rw[if_pos hb]at eF;refine Sz2 h8 sX ?_;rw[Qr (f:=fun(x:Int)=>.int .i64 x) (y:=(k:Int)) (xs:=qw k (fe p)) (ty':=3) (fz:=false) (Tz1 cb) cE Oz rfl Oz Oz];refine Sz2 h8 sX ?_;refine Qf (64-(k+1)) Oz ⟨k+1,rfl,by omega,?_⟩;rw[eF];simp+decide (disch:=first|omega|rfl|(simp+decide only[go_sem,Kay]<;>rfl)|fail) only[go_sem,Kay]
  ·obtain rfl:k=64:=by omega
   refine mm h8 cb ?_;exact Qc (by rw[Kac (by simp)];rfl) rfl
theorem yC{l:List Rat}{k m r c:Nat}(hk:1<=k)(h:∀q∈l,rs q<=k):rs (Qq l m r c)<=k:=by
 unfold Qq;rw[Kad];cases hq:l[r*m+c]? with
 |none=>have:=sN;show rs 0<=k;omega
 |some q=>exact h q (Kai hq)
def WD:ay:=⟨52,[.cell 2 3 true,.t 3],Zr (iS 1 24<|
 Zo (.alloc 2 3 24 (.agg [Zz 0,Zz 0,.au]))<|
 Yj 3 0)<| .seq (Zr (dn 7 3 1 52<|
 Zu 9 8 .nil)<| .cond (.t 9) (Zr (Zo (.eB 10 [Zz 0,Zz 0,.au] [])<|
 Zs 3 2 10<|
 Yj 3 1) .ret) .skip)<|Zr (ff 11 1 1 0 1<|
 Yi 15 2 1<|
 Zn 17 16<|
 .br (xd 18 17<|
 .wk<|Zo (.eB 19 [Zz 0,Zz 0,.au] [(0,1,.t 12),(1,1,.t 14),(2,1,.t 18)])<|
 YL 4<|
 .wk<| .wk<|jE 3 19) (YL 4<|
 .wk<| .wk<|xd 18 17<|
 .wk<|Zo (.eB 19 [Zz 0,Zz 0,.au] [(0,1,.t 12),(1,1,.t 14),(2,1,.t 18)])<|
 jE 3 19))<| .seq (Zr (Yi 20 0 1<|
 Yj 22 0)<| .block 0<| .loop<|Zr (Yz 23 22 21)<| .seq (.cond (.t 23) .skip (.exit 0))<| .seq (.block 1<|Zr (YZ 24 22 5)<|Zr (Yi 25 1 1<|
 Yj 27 0)<| .block 2<| .loop<|Zr (Yz 28 27 26)<| .seq (.cond (.t 28) .skip (.exit 2))<| .seq (.block 3<|Zr (YZ 29 27 6)<| .rg (vz 30 4 6 0 1 5<|
 dx 37 35 36<|
 vz 38 1 5 1 1 6<|
 dx 45 43 44<|
 Yx 46 3 39 45<|
 YS 48 3 31 37 47))<| .rg (Yu 49 27 27))<| .rg (Yu 50 22 22))<|Zr (Zh 51 3 4<|
 .wk<|Zs 3 2 51<|
 Yj 3 0) .ret⟩
theorem alc:Qe Tryz.prog Tryz.f153=some WD.strip:=by kernel_rfl
def WE:ay:=⟨38,[.cell 2 3 true,.t 3],Zr (iS 1 24<|
 Zo (.alloc 2 3 24 (.agg [Zz 0,Zz 0,.au]))<|
 Yj 3 0)<| .seq (Zr (dn 7 3 1 57<|
 Zu 9 8 .nil)<| .cond (.t 9) (Zr (Zo (.eB 10 [Zz 0,Zz 0,.au] [])<|
 Zs 3 2 10<|
 Yj 3 1) .ret) .skip)<|Zr (ff 11 1 1 0 1<|
 Zo (.eB 15 [Zz 0,Zz 0,.au] [(0,1,.t 12),(1,1,.t 14)])<|
 YL 4<|
 .wk<| .wk<|Zs 3 4 15 .nil)<| .seq (Zr (Zc 5 0<|
 .wk .nil)<| .block 0<| .loop<| .seq (Zr (Zm 16 5<|
 Yi 17 1 1<|
 Yz 19 16 18)<| .cond (.t 19) .skip (.exit 0))<| .seq (.block 1<|Zr (Yj 6 0)<| .block 2<| .loop<| .seq (Zr (Zm 22 6<|
 Yi 23 0 1<|
 Yz 25 22 24)<| .cond (.t 25) .skip (.exit 2))<| .seq (.block 3<| .rg (Yi 28 2 4<|
 Zh 30 3 1<|
 Ya 31 6 5<|
 Zq 33 true 201 [.t 30,.t 31,.t 32]<|
 Zo (.bs 34 3 51 [.t 33])<|
 mo 35 3 56 51 29 34<|
 Zf 36 2 4<|
 Zs 1 36 35 .nil))<| .rg (YX 26 6 6))<| .rg (YX 20 5 5))<|Zr (Zh 37 3 4<|
 .wk<|Zs 3 2 37<|
 Yj 3 0) .ret⟩
theorem ald:Qe Tryz.prog Tryz.f158=some WE.strip:=by kernel_rfl
def we(l:List Rat)(R m:Nat):Nat->Rat:=fun j=>Qq l m (j%R) (j/R)
def mI(l:List Rat)(R m:Nat):List Rat:=(List.range (m*R)).map (we l R m)
theorem Au(l:List Rat)(R m:Nat):(mI l R m).length=m*R:=by simp[mI]
theorem ale{R i i' k k':Nat}(hi:i<R)(al:i'<R)(h:k'*R+i'=k*R+i):k'=k/\i'=i:=by
 have h1:(k'*R+i')/R=(k*R+i)/R:=by rw[h]
 have hR:0<R:=by omega
 rw[KbQ,Kcx _ _ hR,KbQ (k*R),Kcx _ _ hR,Kb4 al,Kb4 hi]at h1;have h2:k'=k:=by omega
 subst h2;exact⟨rfl,by omega⟩
theorem HN{R m i k:Nat}(hi:i<R)(hk:k<m):k*R+i<R*m:=by have h1:(k+1)*R<=m*R:=Kaj _ hk;rw[KaK,KcT,KaP m R]at h1;omega
theorem TO{l:List Rat}{R m i k:Nat}(hi:i<R):we l R m (k*R+i)=Qq l m i k:=by
 have hR:0<R:=by omega
 unfold we;rw[KbQ,Kc1,KaS hi,Kcx _ _ hR,Kb4 hi,Kbh]
theorem acy{R m:Nat}{l:List Rat}(hl:l.length=R*m)(cy:R<=40)(hm:m<=40)(hs:∀q∈l,rs q<=1048576):Qd Tryz.prog 153 [PV.a9 R m l] (· = .aH [PV.a9 m R (mI l R m),.int .i64 0]):=by
 have rO:R*m<=40*40:=KaQ cy hm;have ja:m*R=R*m:=KaP _ _;refine o8 Qg Tryz.func153 rfl alc Nz fun C hP=>?_;simp only[WD];refine fw ?_;refine Sz0 ?_;refine Qb hP (GK hl cy hm hs) ?_;refine Sz1 hl ?_;have hz:([.agg [.int .i64 0,.int .i64 0,.au]]:List PV)≠[]:=by simp
 have uC:∀x∈([.agg [.int .i64 0,.int .i64 0,.au]]:List PV),x.aS=x.cells:=fun x hx=>by rw[Kau.1 hx];rfl
 have XX:ch (iJ 18 2000002) (.aC 2000001 3 24 [.agg [.int .i64 0,.int .i64 0,.au]])= .aC 2000001 3 24 [.agg [.int .i64 0,.int .i64 0,.au]]:=by simp[ch,iJ,PV.aS,PV.cells,dW,fo,pq,PV.n7]
 refine lk ?qa ?qb
 case' qa=>
  refine Sz1 hl ?_;refine di (mP 18 2000002 cE Oz rfl Oz) ?_;refine Sz1 hl ?_;refine di (mP 4 2000001 cE Oz rfl Oz) ?_;refine Sz1 hl ?_;refine di (va (γ:=2000001) (e:=3) (ty:=24) (fz:=false) Tz0 hz Oz uC) ?_;simp+decide (disch:=try exact D1 hl) only[go_sem,hl]
 case' qb=>
  refine Sz1 hl ?_;refine di (mP 4 2000001 cE Oz rfl Oz) ?_;refine Sz1 hl ?_;refine di (va (γ:=2000001) (e:=3) (ty:=24) (fz:=false) Tz0 hz Oz uC) ?_;refine Sz1 hl ?_;refine di (mP 18 2000002 cE Oz rfl Oz) ?_;simp+decide (disch:=try exact D2 hl XX) only[go_sem,hl,XX]
 all_goals
  refine eO okB [(4,6),(22,50),(2000001,2000001)] [] (fun q J hp=>∃i xs,q=R-i/\i<=R/\J 4= .np 2000001 0 0/\J 22= .int .i64 (i:Nat)/\J 2000001= .aC 2000001 3 24 [.bo [.int .i64 (m:Nat),.int .i64 (R:Nat),.aB 2000002 0 (R*m)]]/\
   hp 1=some ⟨3,24,[PV.a9 R m l],false⟩/\hp 2=some ⟨3,24,[.agg [.int .i64 0,.int .i64 0,.au]],false⟩/\hp 2000001=some ⟨3,24,[],false⟩/\hp 2000002=some ⟨3,51,xs,false⟩/\xs.length=R*m/\∀i' k',i'<i->k'<m->xs[k'*R+i']? =some (PV.rat (Qq l m i' k'))) R ?_ ?_
  ·refine⟨0,List.replicate (R*m) (.agg [.bool false,.au,.au]),rfl,by omega,?_⟩;refine Sz0 ?_;exact⟨rfl,by simp,fun i' k' h=>by omega⟩
  rintro _ J h ⟨i,xs,rfl,hi,j4,I4,jb,h1,h2,hb,hx,ee,ni⟩;refine Sz1 I4 ?_;refine Qa (fun hc=>?_) (fun hc=>?_)
  ·have al:i<R:=by omega
   refine Sz7 j4 I4 jb h1 h2 hb hx ?_;refine eO okB [(4,4),(6,6),(27,49),(2000001,2000001)] [] (fun q J hp=>∃k ys,q=m-k/\k<=m/\J 4= .np 2000001 0 0/\J 27= .int .i64 (k:Nat)/\J 2000001= .aC 2000001 3 24 [.bo [.int .i64 (m:Nat),.int .i64 (R:Nat),.aB 2000002 0 (R*m)]]/\
    hp 1=some ⟨3,24,[PV.a9 R m l],false⟩/\hp 2=some ⟨3,24,[.agg [.int .i64 0,.int .i64 0,.au]],false⟩/\hp 2000001=some ⟨3,24,[],false⟩/\hp 2000002=some ⟨3,51,ys,false⟩/\ys.length=R*m/\∀i' k',i'<R->(i'<i∨(i'=i/\k'<k))->k'<m->ys[k'*R+i']? =some (PV.rat (Qq l m i' k'))) m ?_ ?_
   ·refine⟨0,xs,rfl,by omega,?_⟩;refine Sz6 j4 jb h1 h2 hb hx ?_;exact⟨rfl,ee,fun i' k' q1 q2 q3=>ni i' k' Oz q3⟩
   rintro _ J2 g ⟨k,ys,rfl,hk,i4,i27,ib,g1,g2,gb,gx,W6,W7⟩;refine Sz1 i27 ?_;refine Qa (fun hck=>?_) (fun hck=>?_)
   ·have bI:k<m:=by omega
    have e1:(k:Int)*(R:Int)=((k*R:Nat):Int):=by rw[Kb3]
    have e2:(i:Int)*(m:Int)=((i*m:Nat):Int):=by rw[Kb3]
    have b1:=HN al bI;have b2:i*m+k<R*m:=by have:=HN bI al;rw[KaP m R]at this;exact this
    have b3:k*R<=R*m:=by omega
    have b4:i*m<=R*m:=by omega
    have qQ:l[i*m+k]=Qq l m i k:=by unfold Qq;rw[Kad,Kag Oz];rfl
    refine Sz11 i4 i27 ib g1 g2 gb gx e1 e2 I4 qQ ?_;rw[qp (n:=3) (xs:=ys) (v:=PV.rat (Qq l m i k)) Oz rfl rfl];refine Sz2 i4 i27 ?_;refine de (m-(k+1)) Oz ⟨k+1,ys.set (k*R+i) (PV.rat (Qq l m i k)),rfl,by omega,?_⟩;refine Sz5 i4 ib g1 g2 gb ?_;refine⟨by simp[W6],fun i' k' q1 q2 q3=>?_⟩;rw[Kcs];by_cases e:k*R+i=k'*R+i'
    ·obtain⟨rfl,rfl⟩:=ale al q1 e.symm;rw[if_pos rfl,if_pos Oz]
    ·rw[if_neg e];refine W7 i' k' q1 ?_ q3;rcases q2 with q2|⟨q2,q4⟩
     ·exact .inl q2
     ·refine .inr ⟨q2,?_⟩;have:k'≠k:=fun h=>e (by rw[h,q2]);omega
   ·have hkm:k=m:=by omega
    subst hkm;refine Sz1 I4 ?_;simp (disch:=decide) only[kk,lY,dS,lX];refine de (R-(i+1)) Oz ⟨i+1,ys,rfl,by omega,?_⟩;refine Sz6 i4 ib g1 g2 gb gx ?_;exact⟨W6,fun i' k' q1 q2=>W7 i' k' Oz Oz q2⟩
  ·obtain rfl:i=R:=by omega
   have fS:xs=(mI l i m).map PV.rat:=by
    refine Ka7 (by rw[Kal,Au];omega) fun j q1 q2=>?_;have uq:0<i:=by refine Kbg fun h=>?_;subst h;omega
    have hj:j/i<m:=by rw[Kbi uq,ja];omega
    have hd:=Kbq j i;have zD:=Kbx j uq;have:=ni (j%i) (j/i) zD hj;rw[KaP,hd,Kag q1]at this;rw[KbM this,Ka8];simp[mI,we]
   rw[fS]at hx;refine Sz5 j4 jb h2 hb hx ?_;refine AN 51 2 [2000002] (p:=.bo [.int .i64 (m:Nat),.int .i64 (i:Nat),.aB 2000002 0 (i*m)]) Tz0 (D:=PV.a9 m i (mI l i m)) ?_ ?_ rfl ?_
   ·intro c hc;simp only[KaG,KbT,or_false]at hc;rcases hc with rfl|rfl|rfl
    ·trivial
    ·trivial
    ·simp only[od,aR];simp
   ·show PV.agg [_,_,eC _ h 2 (.aB 2000002 0 _)]=_;simp only[eC,hx,Ka0];rw[Kac (by rw[Kal,Au];omega)]
   refine DQ j4 jb h2 hb hx ?_;refine qt (mO ?_);refine lG h2 ?_;exact fp rfl rfl rfl (Ql _) (Ql _)
theorem Lw{R m i k:Nat}{l:List Rat}(hl:l.length=R*m)(hR:R<=40)(hm:m<=40)(hi:i<R)(hk:k<m)(hs:∀q∈l,rs q<=1048576):Qd Tryz.prog 201 [PV.a9 R m l,.int .i64 i,.int .i64 k] (· =PV.rat (Qq l m i k)):=by
 have rO:R*m<=40*40:=KaQ hR hm;have h:=aks (R:=R) (m:=m) (i:=i) (k:=k) (l:=l.map qR) ⟨by rw[Kal];omega,mj.of hs⟩ (by rw[Kal];exact hl) hi hk;rw[<-sB]at h;have b2:i*m+k<R*m:=by have:=HN hk hi;rw[KaP m R]at this;exact this
 have e:PV.rq ((l.map qR).getD (i*m+k) default)=PV.rat (Qq l m i k):=by unfold Qq;rw[Kad,Kad,Kas,Kag Oz];rfl
 rw[e]at h;exact h
theorem Q8m{R m:Nat}{l:List Rat}(hl:l.length=R*m)(cy:R<=40)(hm:m<=40)(hs:∀q∈l,rs q<=1048576):Qd Tryz.prog 158 [PV.a9 R m l] (· = .aH [PV.a9 m R (mI l R m),.int .i64 0]):=by
 have rO:R*m<=40*40:=KaQ cy hm;have ja:m*R=R*m:=KaP _ _;have hz:([.agg [.int .i64 0,.int .i64 0,.au]]:List PV)≠[]:=by simp
 have uC:∀x∈([.agg [.int .i64 0,.int .i64 0,.au]]:List PV),x.aS=x.cells:=fun x hx=>by rw[Kau.1 hx];rfl
 refine o8 Qg Tryz.func158 rfl ald Nz fun C hP=>?_;simp only[WE];refine fw ?_;refine Sz0 ?_;refine Qb hP (K3 hl cy hm hs) ?_;refine Sz1 hl ?_;refine di (mP 4 2000001 cE Oz rfl Oz) ?_;refine Sz1 hl ?_;refine di (va (γ:=2000001) (e:=3) (ty:=24) (fz:=false) Tz0 hz Oz uC) ?_;refine Sz0 ?_;refine di (CU (γ:=2000001) (e:=3) (ty:=24) (cs:=[.int .i64 (m:Nat),.int .i64 (R:Nat),.au]) (cs':=[.int .i64 (m:Nat),.int .i64 (R:Nat),.aB 2000002 0 0]) 2000002 3 51 Tz0 cE Oz Oz rfl (by simp)) ?_;refine Sz0 ?_;refine eO okB [(4,6),(16,36),(2000001,2000001)] [34,35] (fun q J hp=>∃k,q=m-k/\k<=m/\J 4= .np 2000001 0 0/\J 5= .int .i64 (k:Nat)/\J 2000001= .aC 2000001 3 24 [.bo [.int .i64 (m:Nat),.int .i64 (R:Nat),.aB 2000002 0 (k*R)]]/\
  hp 1=some ⟨3,24,[PV.a9 R m l],false⟩/\hp 2=some ⟨3,24,[.agg [.int .i64 0,.int .i64 0,.au]],false⟩/\hp 2000001=some ⟨3,24,[],false⟩/\hp 2000002=some ⟨3,51,((List.range (k*R)).map (we l R m)).map PV.rat,false⟩) m ?_ ?_
 ·refine⟨0,rfl,by omega,?_⟩;refine Sz1 @Nat.zero_mul ?_;exact⟨rfl,rfl⟩
 rintro _ J h ⟨k,rfl,hk,j4,j5,jb,h1,h2,hb,hx⟩;refine Sz3 j4 j5 h1 ?_;refine Qa (fun hc=>?_) (fun hc=>?_)
 ·have bI:k<m:=by omega
  have BE:k*R+R<=R*m:=by have:=Kaj R bI;rw[Kca,ja]at this;exact this
  refine Sz7 j4 j5 jb h1 h2 hb hx ?_;refine eO okB [(4,4),(6,6),(22,36),(2000001,2000001)] [34,35] (fun q J hp=>∃i,q=R-i/\i<=R/\J 4= .np 2000001 0 0/\J 6= .int .i64 (i:Nat)/\J 2000001= .aC 2000001 3 24 [.bo [.int .i64 (m:Nat),.int .i64 (R:Nat),.aB 2000002 0 (k*R+i)]]/\
   hp 1=some ⟨3,24,[PV.a9 R m l],false⟩/\hp 2=some ⟨3,24,[.agg [.int .i64 0,.int .i64 0,.au]],false⟩/\hp 2000001=some ⟨3,24,[],false⟩/\hp 2000002=some ⟨3,51,((List.range (k*R+i)).map (we l R m)).map PV.rat,false⟩) R ?_ ?_
  ·refine⟨0,rfl,by omega,?_⟩;refine Sz6 j4 jb h1 h2 hb hx ?_;rfl
  rintro _ J2 g ⟨i,rfl,hi,i4,i6,ib,g1,g2,gb,gx⟩;refine Sz3 i4 i6 g1 ?_;refine Qa (fun m8=>?_) (fun m8=>?_)
  ·have al:i<R:=by omega
   have vK:=TO (l:=l) (m:=m) (k:=k) al;refine Sz8 i4 i6 ib g1 g2 gb gx j5 ?_;refine Qb hP (Lw hl cy hm al bI hs) ?_;refine Sz8 i4 i6 ib g1 g2 gb gx j5 ?_;rw[An (f:=PV.rat) (y:=Qq l m i k) (xs:=(List.range (k*R+i)).map (we l R m)) (ty':=51) (fz:=false) (Tz1 gx) Tz0 Oz (by simp) Oz Oz Oz];refine Sz8 i4 i6 ib g1 g2 gb gx j5 ?_;refine de (R-(i+1)) Oz ⟨i+1,rfl,by omega,?_⟩;refine Sz5 i4 ib g1 g2 gb ?_;rw[<-Nat.add_assoc,Kck];exact⟨rfl,wW (by simp[vK])⟩
  ·have pP:i=R:=by omega
   subst pP;refine Sz1 j5 ?_;simp (disch:=decide) only[kk,lY,dS,lX];refine de (m-(k+1)) Oz ⟨k+1,rfl,by omega,?_⟩;rw[show(k+1)*i=k*i+i from Kca _ _];exact Tz6 i4 ib g1 g2 gb gx
 ·obtain rfl:k=m:=by omega
  rw[show(List.range (k*R)).map (we l R k)=mI l R k from rfl]at hx;refine Sz5 j4 jb h2 hb hx ?_;refine AN 37 2 [2000002] (p:=.bo [.int .i64 (k:Nat),.int .i64 (R:Nat),.aB 2000002 0 (k*R)]) Tz0 (D:=PV.a9 k R (mI l R k)) ?_ ?_ rfl ?_
  ·intro c hc;simp only[KaG,KbT,or_false]at hc;rcases hc with rfl|rfl|rfl
   ·trivial
   ·trivial
   ·simp only[od,aR];simp
  ·show PV.agg [_,_,eC _ h 2 (.aB 2000002 0 _)]=_;simp only[eC,hx,Ka0];rw[Kac (by rw[Kal,Au];omega)]
  refine DQ j4 jb h2 hb hx ?_;refine qt (mO ?_);refine lG h2 ?_;exact fp rfl rfl rfl (Ql _) (Ql _)
abbrev PV.fK(bs:List (List Int)):PV:=.sl 1 (bs.map PV.mono)
theorem aft{a b:List Rat}{R m:Nat}(ha:a.length=R*m)(hb:b.length=R*m)(h:∀r,r<R->∀c,c<m->Qq a m r c=Qq b m r c):a=b:=by
 refine Ka7 Oz fun j h1 h2=>?_;rcases Nat.eq_zero_or_pos m with h0|h0
 ·subst h0;simp at ha;omega
 have hr:j/m<R:=(Kbi h0).2 Oz;have hc:=Kbx j h0;have e:=h _ hr _ hc;have e2:j/m*m+j%m=j:=by rw[KaP];exact Kbq j m
 unfold Qq at e;rw[e2]at e;simpa[h1,h2]using e
theorem Sa{l:List Rat}{R m r c:Nat}(hr:r<m)(hc:c<R):Qq (mI l R m) R r c=Qq l m c r:=by
 have h:=HN hc hr;rw[KaP R m]at h;have e:Qq (mI l R m) R r c=we l R m (r*R+c):=by unfold Qq mI;simp[h]
 rw[e,TO hc]
theorem TP{l:List Rat}{R:Nat}(hl:l.length=R*R):l=mI l R R↔mV (Qq l R) R:=by
 constructor
 ·intro h i hi k hk;have:=Sa (l:=l) (R:=R) (m:=R) (r:=i) (c:=k) hi Oz
  rwa[<-h]at this
 ·intro h;refine aft hl (Au l R R) fun r hr c hc=>?_;rw[Sa hr hc];rcases Kdf r c with e|e|e
  ·exact(h c hc r e).symm
  ·subst e;rfl
  ·exact h r hr c e
def pH(bs:List (List Int))(r c:Int)(l:List RQ):Int:=
 if ju r c l=true then(if bs.all ck=true then(if r=bs.length/\c=bs.length/\mV (Qq (l.map eL) bs.length) bs.length then 0 else 16)else 1)else 1
theorem Uc{R m:Nat}{la:List Rat}(hl:la.length=R*m):oE R m m R (la.map qR) ((mI la R m).map qR)=true↔R=m/\mV (Qq la m) m:=by
 unfold oE;have XM:=Wt;rw[decide_eq_true_eq,XM,XM];constructor
 ·intro⟨h1,_,h3⟩;have:R=m:=by omega
  subst this;exact⟨rfl,(TP hl).1 h3⟩
 ·intro⟨h1,h2⟩;subst h1;exact⟨rfl,rfl,(TP hl).2 h2⟩
theorem Ud{r c:Int}{l:List RQ}(hl:ny l)(h:ju r c l=true):PV.rm l=PV.bj (l.map eL):=by unfold ju at h;rw[KaC]at h;exact TD hl h.2
theorem Lx{bs:List (List Int)}{r c:Int}{l:List RQ}(m7:bs.length<2^40)(hb:∀b∈bs,b.length<2^40)(hl:ny l):Qd Tryz.prog 90 [PV.fK bs,PV.lj r c l] (· = .int .i64 (pH bs r c l)):=by
 have hr:=SJ (r:=r) (c:=c) hl;refine aE Qg Tryz.func90 anF fun C hP=>?_;refine Sz0 ?_;refine Qb hP hr ?_;cases o1:ju r c l
 ·refine Sz0 ?_;exact Qc (by rw[pH,if_neg (by rw[o1];decide)]) rfl
 obtain⟨R,m,la,rfl,rfl,hR,hm,bD,hlen,atP⟩:=Sy hl o1;have hs:∀q∈la,rs q<=1048576:=fun q hq=>by rw[bD]at hq;obtain⟨x,hx,rfl⟩:=Kaq.1 hq;exact(hl.2 x hx).rs
 have cS:∀q∈mI la R m,rs q<=1048576:=fun q hq=>by obtain⟨j,_,rfl⟩:=Kaq.1 hq;exact yC Oz hs
 have ht:=acy hlen hR hm hs;have rO:R*m<=40*40:=KaQ hR hm;have qY:=Au la R m;rw[KaP]at qY;have heq:=akt (r:=R) (c:=m) (r':=m) (c':=R) (mj.of hs) (mj.of cS) Oz (by rw[Kal];omega) (by rw[Kal];omega);rw[<-sB,<-sB]at heq;have lO:=Uc hlen;rw[Ud hl o1,<-bD];refine Sz0 ?_;refine Qi okB [(4,4),(6,6),(14,21)] [] (fun q J hp=>∃i,q=bs.length-i/\i<=bs.length/\(∀j (h:j<bs.length),j<i->ck bs[j]=true)/\J 14= .int .i64 (i:Nat)/\hp 3=some ⟨3,24,[PV.a9 R m la],false⟩) bs.length ?_ ?_
 ·refine⟨0,rfl,by omega,by omega,?_⟩;refine Sz0 ?_;rfl
 rintro _ J h' ⟨i,rfl,hi,h1,h2,b3⟩;refine Sz1 h2 ?_;refine Qa (fun hg=>?_) (fun hg=>?_)
 ·have al:i<bs.length:=by omega
  have dB:=Kah al;have hbx:=hb _ dB;have fg:ck bs[i]=true->∀j (h:j<bs.length),j<i+1->ck bs[j]=true:=fun h j hj im=>by
   by_cases e:j=i
   ·subst e;exact h
   ·exact h1 j hj Oz
  generalize hx:bs[i]=x at *
  refine Sz2 h2 hx ?_;refine Qb hP (Cm (show x.length<2^42 by omega)) ?_;cases hs:ck x
  ·refine Sz0 ?_;refine Qc ?_ rfl;have:bs.all ck=false:=by rw[Kcr];exact⟨x,dB,by simp[hs]⟩
   rw[pH,if_pos o1,if_neg (by rw[this];decide)]
  refine Sz1 h2 ?_;refine Qf (bs.length-(i+1)) Oz ⟨i+1,rfl,by omega,fg hs,?_⟩;exact Tz1 b3
 obtain rfl:i=bs.length:=by omega
 have e3:bs.all ck=true:=by rw[Kax];intro t ht;obtain⟨j,hj,rfl⟩:=KaV ht;exact h1 j hj hj
 have rR:pH bs R m l=if(R:Int)=bs.length/\(m:Int)=bs.length/\mV (Qq la bs.length) bs.length then 0 else 16:=by rw[pH,if_pos o1,if_pos e3,<-bD]
 refine Sz1 b3 ?_;refine Qb hP ht ?_;refine Sz1 b3 ?_;refine fb (fun h3=>?_) (fun h3=>?_)
 ·refine Sz0 ?_;exact Qc (by rw[rR,if_neg Oz]) rfl
 refine Sz1 b3 ?_;refine fb (fun h4=>?_) (fun h4=>?_)
 ·refine Sz0 ?_;exact Qc (by rw[rR,if_neg Oz]) rfl
 refine Sz1 b3 ?_;refine Qb hP heq ?_;cases hq:oE R m m R (la.map qR) ((mI la R m).map qR)
 ·refine Sz0 ?_;refine Qc ?_ rfl;rw[rR,if_neg];intro⟨g1,g2,g3⟩;have:R=m:=by omega
  have zB:m=bs.length:=by omega
  rw[<-zB]at g3;rw[lO.2 ⟨this,g3⟩]at hq;cases hq
 ·refine Sz0 ?_;obtain⟨g1,g2⟩:=lO.1 hq;have zB:m=bs.length:=by omega
  exact Qc (by rw[rR,if_pos ⟨by omega,by omega,by rw[<-zB];exact g2⟩]) rfl
theorem ahp{bs:List (List Int)}{r c:Int}{l:List RQ}(m7:bs.length<2^40)(hb:∀b∈bs,b.length<2^40)(hl:ny l):Qd Tryz.prog 92 [PV.fK bs,PV.lj r c l] (· = .int .i64 (pH bs r c l)):=by
 have hr:=RF (r:=r) (c:=c) hl;refine aE Qg Tryz.func92 am6 fun C hP=>?_;refine Sz0 ?_;refine Qb hP hr ?_;cases o1:ju r c l
 ·refine Sz0 ?_;exact Qc (by rw[pH,if_neg (by rw[o1];decide)]) rfl
 obtain⟨R,m,la,rfl,rfl,hR,hm,bD,hlen,atP⟩:=Sy hl o1;have hs:∀q∈la,rs q<=1048576:=fun q hq=>by rw[bD]at hq;obtain⟨x,hx,rfl⟩:=Kaq.1 hq;exact(hl.2 x hx).rs
 have cS:∀q∈mI la R m,rs q<=1048576:=fun q hq=>by obtain⟨j,_,rfl⟩:=Kaq.1 hq;exact yC Oz hs
 have ht:=Q8m hlen hR hm hs;have rO:R*m<=40*40:=KaQ hR hm;have qY:=Au la R m;rw[KaP]at qY;have heq:=ahk (r:=R) (c:=m) (r':=m) (c':=R) (mj.of hs) (mj.of cS) Oz (by rw[Kal];omega) (by rw[Kal];omega);rw[<-sB,<-sB]at heq;have lO:=Uc hlen;rw[Ud hl o1,<-bD];refine Sz0 ?_;refine Qi okB [(4,5),(11,22)] [] (fun q J hp=>∃i,q=bs.length-i/\i<=bs.length/\(∀j (h:j<bs.length),j<i->ck bs[j]=true)/\J 5= .int .i64 (i:Nat)/\hp 3=some ⟨3,24,[PV.a9 R m la],false⟩) bs.length ?_ ?_
 ·refine⟨0,rfl,by omega,by omega,?_⟩;refine Sz0 ?_;rfl
 rintro _ J h' ⟨i,rfl,hi,h1,h2,b3⟩;refine Sz1 h2 ?_;refine Qa (fun hg=>?_) (fun hg=>?_)
 ·have al:i<bs.length:=by omega
  have dB:=Kah al;have hbx:=hb _ dB;have fg:ck bs[i]=true->∀j (h:j<bs.length),j<i+1->ck bs[j]=true:=fun h j hj im=>by
   by_cases e:j=i
   ·subst e;exact h
   ·exact h1 j hj Oz
  generalize hx:bs[i]=x at *
  refine Sz2 h2 hx ?_;refine Qb hP (KD (show x.length<2^42 by omega)) ?_;cases hs:ck x
  ·refine Sz0 ?_;refine Qc ?_ rfl;have:bs.all ck=false:=by rw[Kcr];exact⟨x,dB,by simp[hs]⟩
   rw[pH,if_pos o1,if_neg (by rw[this];decide)]
  refine Sz1 h2 ?_;refine Qf (bs.length-(i+1)) Oz ⟨i+1,rfl,by omega,fg hs,?_⟩;exact Tz1 b3
 obtain rfl:i=bs.length:=by omega
 have e3:bs.all ck=true:=by rw[Kax];intro t ht;obtain⟨j,hj,rfl⟩:=KaV ht;exact h1 j hj hj
 have rR:pH bs R m l=if(R:Int)=bs.length/\(m:Int)=bs.length/\mV (Qq la bs.length) bs.length then 0 else 16:=by rw[pH,if_pos o1,if_pos e3,<-bD]
 refine Sz1 b3 ?_;refine Qb hP ht ?_;refine Sz1 b3 ?_;refine fb (fun h3=>?_) (fun h3=>?_)
 ·refine Sz0 ?_;exact Qc (by rw[rR,if_neg Oz]) rfl
 refine Sz1 b3 ?_;refine Qb hP heq ?_;cases hq:oE R m m R (la.map qR) ((mI la R m).map qR)
 ·refine Sz0 ?_;refine Qc ?_ rfl;rw[rR,if_neg];intro⟨g1,g2,g3⟩;have:R=m:=by omega
  have zB:m=bs.length:=by omega
  rw[<-zB]at g3;rw[lO.2 ⟨this,g3⟩]at hq;cases hq
 ·refine Sz0 ?_;obtain⟨g1,g2⟩:=lO.1 hq;have zB:m=bs.length:=by omega
  exact Qc (by rw[rR,if_pos ⟨by omega,by omega,by rw[<-zB];exact g2⟩]) rfl
end Go.Proofs.YtkoclfmjlolkhaaGreat
namespace Go.FW
open Go
def Sym(R:Nat)(M:MF):Prop:=∀i,i<R->∀k,k<R->M i k=M k i
def zr(R:Nat)(M:MF)(i:Nat):Bool:=(List.range R).all fun c=>decide (M i c=0)
theorem tO{R:Nat}{M:MF}{i:Nat}:zr R M i=true↔∀c,c<R->M i c=0:=by unfold zr;rw[Kax];exact⟨fun h c hc=>of_decide_eq_true (h c (Kbo.2 hc)),fun h c hc=>decide_eq_true (h c (Kbo.1 hc))⟩
def qN(p:Nat->Bool):Nat->Nat
 |0=>0
 |n+1=>qN p n+if p n then 1 else 0
theorem FJ(p:Nat->Bool):∀n,qN p n<=n
 |0=>Kae _
 |n+1=>by have:=FJ p n;simp only[qN];split<;>omega
theorem RH{p q:Nat->Bool}:∀n,(∀i,i<n->q i=true->p i=true)->qN q n<=qN p n
 |0,_=>Kae _
 |n+1,h=>by
  have:=RH n fun i hi=>h i (by omega);have h2:=h n (by omega);simp only[qN];cases hq:q n
  ·cases p n<;>simp<;>omega
  ·rw[h2 hq];simp;omega
theorem FK{p q:Nat->Bool}{a:Nat}(ha:p a=true)(mz:q a=false):∀n,a<n->(∀i,i<n->q i=true->p i=true)->qN q n+1<=qN p n
 |0,h,_=>by omega
 | n+1,h1,h=>by
  have h2:=h n (by omega);simp only[qN];by_cases e:a=n
  ·subst e;have:=RH a fun i hi=>h i (by omega);rw[ha,mz];simp;omega
  ·have:=FK ha mz n (by omega) fun i hi=>h i (by omega);cases hq:q n
   ·cases p n<;>simp<;>omega
   ·rw[h2 hq];simp;omega
theorem Sb{p q:Nat->Bool}{a b:Nat}(rP:a<b)(ha:p a=true)(mz:q a=false)(hb:p b=true)(ax:q b=false):∀n,b<n->(∀i,i<n->q i=true->p i=true)->qN q n+2<=qN p n
 |0,h,_=>by omega
 | n+1,h1,h=>by
  have h2:=h n (by omega);simp only[qN];by_cases e:b=n
  ·subst e;have:=FK ha mz b rP fun i hi=>h i (by omega);rw[hb,ax];simp;omega
  ·have:=Sb rP ha mz hb ax n (by omega) fun i hi=>h i (by omega);cases hq:q n
   ·cases p n<;>simp<;>omega
   ·rw[h2 hq];simp;omega
def oQ(R:Nat)(M:MF):Nat:=qN (fun i=> !zr R M i) R
theorem oq{R:Nat}{M:MF}{f:LF}(h:Sym R M):Sym R (cT M f):=fun i hi k hk=>by unfold cT;rw[h i hi k hk,Kdl,Kdl,Rat.mul_comm (f.2 i)]
theorem FL{p:Nat->Bool}:∀f i,oC p f i<i+f->p (oC p f i)=true
 |0,i,h=>by simp[oC]at h
 |f+1,i,h=>by
  unfold oC at h⊢;split
  ·rename_i hp;exact hp
  ·rename_i hp;rw[if_neg hp]at h;exact FL f (i+1) (by omega)
theorem FM{p:Nat->Bool}:∀f i j,i<=j->j<oC p f i->p j=false
 |0,i,j,h1,h2=>by simp[oC]at h2;omega
 | f+1,i,j,h1,h2=>by
  unfold oC at h2;split at h2
  ·omega
  ·rename_i hp;by_cases e:j=i
   ·subst e;simpa using hp
   ·exact FM f (i+1) j (by omega) h2
theorem CV{M:MF}{R:Nat}(h:eh M R<R):M (eh M R) (eh M R)≠0:=by have:=FL (p:=fun i=>decide (M i i≠0)) R 0 (by unfold eh at h;omega);exact of_decide_eq_true this
theorem Mj{M:MF}{R:Nat}(h:¬eh M R<R):∀i,i<R->M i i=0:=fun i hi=>by have:=FM (p:=fun i=>decide (M i i≠0)) R 0 i (Kbz _) (by unfold eh at h;omega);have:=of_decide_eq_false this;exact Classical.not_not.1 this
theorem AO{M:MF}{R i:Nat}(h:eU M R i<R):M i (eU M R i)≠0:=by have:=FL (p:=fun k=>decide (M i k≠0)) R 0 (by unfold eU at h;omega);exact of_decide_eq_true this
theorem alf{M:MF}{R i:Nat}(h:¬eU M R i<R):∀k,k<R->M i k=0:=fun k hk=>by have:=FM (p:=fun k=>decide (M i k≠0)) R 0 k (Kbz _) (by unfold eU at h;omega);exact Classical.not_not.1 (of_decide_eq_false this)
theorem yD{M:MF}{R:Nat}(h:cF M R<R):eU M R (cF M R)<R:=by have:=FL (p:=fun i=>decide (eU M R i<R)) R 0 (by unfold cF at h;omega);exact of_decide_eq_true this
theorem K4{M:MF}{R j:Nat}(h:j<cF M R):∀k,k<R->M j k=0:=by have:=FM (p:=fun i=>decide (eU M R i<R)) R 0 j (Kbz _) h;exact alf (of_decide_eq_false this)
theorem afu{M:MF}{R:Nat}(h:cd M R=[]):∀i,i<R->∀k,k<R->M i k=0:=by
 unfold cd at h;split at h
 ·cases h
 ·split at h
  ·cases h
  ·rename_i h2;exact fun i hi=>K4 (by omega)
theorem adM{M:MF}{R:Nat}(h:∀i,i<R->∀k,k<R->M i k=0):cd M R=[]:=by
 unfold cd;split
 ·rename_i h1;exact absurd (h _ h1 _ h1) (CV h1)
 ·split
  ·rename_i h2;exact absurd (h _ h2 _ (yD h2)) (AO (yD h2))
  ·rfl
theorem F6{M:MF}{f:LF}{i c:Nat}(h:f.2 i=0):cT M f i c=M i c:=by unfold cT;rw[h,Rat.mul_zero,KcC,KcS,Rat.neg_zero,Rat.add_zero]
theorem G3{R B:Nat}{M:MF}(hs:Sym R M)(hB:3<=B)(hM:fL B R R M)(aJ:cd M R≠[]):
  ∃s,1<=s/\s<=2/\Sym R (fP M (cd M R))/\oQ R (fP M (cd M R))+s<=oQ R M/\(∀f∈cd M R,rs f.1<=7*B/\∀c,c<R->rs (f.2 c)<=7*B)/\∀j,fL (B*7^s) R R (fP M ((cd M R).take j)):=by
 have q1:=mT;unfold cd at aJ⊢;by_cases hd:eh M R<R
 ·rw [if_pos hd]at aJ⊢;have h0:=CV hd;generalize eh M R=i at *
  obtain⟨f,hf⟩:∃f:LF,(M i i,gF (fun _=>0) (M i) (1/M i i))=f:=⟨_,rfl⟩
  have f1:f.1=M i i:=by rw[<-hf]
  have f2:∀c,f.2 c=1/M i i*M i c:=fun c=>by rw[<-hf];exact Rat.zero_add _
  have bi:=hM i hd i hd;have b2:∀c,c<R->rs (f.2 c)<=2*B+1:=fun c hc=>by rw[f2];have:=fD (1/M i i) (M i c);have:=vd (a:=1) h0;have:=hM i hd c hc;omega
  have tl:fP M [f]=cT M f:=rfl;rw[hf,tl];refine⟨1,Kae _,by omega,oq hs,?_,?_,?_⟩
  ·refine FK (a:=i) ?_ ?_ R hd fun j hj hz=>?_
   ·simp only[KcK];rw[<-Bool.not_eq_true,tO];exact fun h=>h0 (h i hd)
   ·simp only[Bool.not_eq_false'];rw[tO];intro c hc;unfold cT;rw[f1,f2,f2,Kbr,Kcm,Kb1 _ h0,Rat.mul_one,<-Rat.mul_assoc,Rat.mul_inv_cancel _ h0,Kcm,Rat.sub_self]
   ·simp only[KcK]at hz⊢;cases hq:zr R M j
    ·rfl
    ·exfalso;rw[tO]at hq;have:zr R (cT M f) j=true:=by rw[tO];intro c hc;rw[F6 (by rw[f2,hs i hd j hj,hq i hd,Rat.mul_zero])];exact hq c hc
     rw[this]at hz;cases hz
  ·intro g hg;rw[Kau.1 hg,f1];exact⟨by omega,fun c hc=>by have:=b2 c hc;omega⟩
  ·intro j;have fS:fL (B*7^1) R R (cT M f):=fun r hr c hc=>by unfold cT;have a1:=hM r hr c hc;have a2:=b2 r hr;have a3:=b2 c hc;have a4:=fD f.1 (f.2 r);have a5:=fD (f.1*f.2 r) (f.2 c);have a6:=yF (M r c) (f.1*f.2 r*f.2 c);rw[f1]at a4 a5 a6⊢;omega
   match j with
   |0=>exact fun r hr c hc=>by have:=hM r hr c hc;show rs (M r c)<=_;omega
   |j+1=>simpa[fP]using fS
 ·rw [if_neg hd]at aJ⊢;by_cases dC:cF M R<R
  ·rw [if_pos dC]at aJ⊢;have hb0:=yD dC;have h0:=AO hb0;have Iw:∀j,j<cF M R->∀k,k<R->M j k=0:=fun j hj=>K4 hj;have xB:=Mj hd;generalize cF M R=a at *
   generalize eU M R a=b at *
   have rP:a≠b:=fun e=>h0 (by rw[<-e];exact xB a dC);have aw:a<b:=by
    rcases Kcz a b with h|h
    ·exact h
    ·exact absurd (Iw b (by omega) a dC) (by rw[<-hs a dC b hb0];exact h0)
   obtain⟨α,tu⟩:∃α,M a b=α:=⟨_,rfl⟩
   rw[tu]at h0 aJ⊢;have h2:α+α≠0:=fun h=>h0 (by grind);obtain⟨w,hw⟩:∃w:Rat,1/(α+α)=w:=⟨_,rfl⟩
   rw[hw];have N1:w*(α+α)=1:=by rw[<-hw,Kbr,Kcm,Kb1 _ h2]
   obtain⟨f,hf⟩:∃f:LF,(w,gF (M a) (M b) 1)=f:=⟨_,rfl⟩
   obtain⟨g,hg⟩:∃g:LF,(-w,gF (M a) (M b) (-1))=g:=⟨_,rfl⟩
   have f1:f.1=w:=by rw[<-hf]
   have g1:g.1= -w:=by rw[<-hg]
   have f2:∀c,f.2 c=M a c+M b c:=fun c=>by rw[<-hf];show M a c+1*M b c=_;rw[Kcm]
   have g2:∀c,g.2 c=M a c-M b c:=fun c=>by rw[<-hg];show M a c+ -1*M b c=_;rw[Rat.neg_mul,Kcm,<-Rat.sub_eq_add_neg]
   have bα:rs α<=B:=by rw[<-tu];exact hM a dC b hb0
   have bw:rs w<=2*B+2:=by rw[<-hw];have:=vd (a:=1) h2;have:=lz α α;omega
   have bf:∀c,c<R->rs (f.2 c)<=2*B+1:=fun c hc=>by rw[f2];have:=lz (M a c) (M b c);have:=hM a dC c hc;have:=hM b hb0 c hc;omega
   have bg:∀c,c<R->rs (g.2 c)<=2*B+1:=fun c hc=>by rw[g2];have:=yF (M a c) (M b c);have:=hM a dC c hc;have:=hM b hb0 c hc;omega
   have gH:∀r c,fP M [f,g] r c=M r c-w*2*(M a r*M b c+M b r*M a c):=fun r c=>by show cT (cT M f) g r c=_;unfold cT;rw[f1,g1,f2,f2,g2,g2];grind
   have IY:w*2*α=1:=by rw[<-N1];grind
   rw[hf,hg];have vX:Sym R (fP M [f,g]):=oq (oq hs);have rQ:M b a=α:=by rw[hs b hb0 a dC,tu]
   refine⟨2,by omega,Kae _,vX,?_,?_,?_⟩
   ·have nz:∀x y,x<R->y<R->M x y≠0->(!zr R M x)=true:=fun x y hx hy h=>by simp only[KcK];rw[<-Bool.not_eq_true,tO];exact fun hh=>h (hh y hy)
    refine Sb (a:=a) (b:=b) aw (nz a b dC hb0 (by rw[tu];exact h0)) ?_ (nz b a hb0 dC (by rw[rQ];exact h0)) ?_ R hb0 fun j hj hz=>?_
    ·simp only[Bool.not_eq_false'];rw[tO];intro c hc;rw[gH,xB a dC,rQ];grind
    ·simp only[Bool.not_eq_false'];rw[tO];intro c hc;rw[gH,xB b hb0,tu];grind
    ·simp only[KcK]at hz⊢;cases hq:zr R M j
     ·rfl
     ·exfalso;rw[tO]at hq;have:zr R (fP M [f,g]) j=true:=by rw[tO];intro c hc;rw[gH,hs a dC j hj,hs b hb0 j hj,hq a dC,hq b hb0,hq c hc];grind
      rw[this]at hz;cases hz
   ·intro x hx;simp only[KaG,KbT,or_false]at hx;rcases hx with rfl|rfl
    ·rw[f1];exact⟨by omega,fun c hc=>by have:=bf c hc;omega⟩
    ·rw[g1,sw];exact⟨by omega,fun c hc=>by have:=bg c hc;omega⟩
   ·have h1:∀r,r<R->∀c,c<R->rs (cT M f r c)<=7*B+5:=fun r hr c hc=>by unfold cT;have a1:=hM r hr c hc;have a2:=bf r hr;have a3:=bf c hc;have a4:=fD f.1 (f.2 r);have a5:=fD (f.1*f.2 r) (f.2 c);have a6:=yF (M r c) (f.1*f.2 r*f.2 c);rw[f1]at a4 a5 a6⊢;omega
    have h2:∀r,r<R->∀c,c<R->rs (cT (cT M f) g r c)<=13*B+10:=fun r hr c hc=>by
     have a1:=h1 r hr c hc;generalize cT M f=N at *
     unfold cT;have a2:=bg r hr;have a3:=bg c hc;have a4:=fD g.1 (g.2 r);have a5:=fD (g.1*g.2 r) (g.2 c);have a6:=yF (N r c) (g.1*g.2 r*g.2 c);rw[g1]at a4 a5 a6⊢;rw[sw]at a4;omega
    intro j r hr c hc
    match j with
    |0=>have:=hM r hr c hc;show rs (M r c)<=_;omega
    |1=>have:=h1 r hr c hc;show rs (cT M f r c)<=_;omega
    |j+2=>have:=h2 r hr c hc;have e:([f,g]:List LF).take (j+2)=[f,g]:=Kac (by simp);rw[e];show rs (cT (cT M f) g r c)<=_;omega
  ·rw[if_neg dC]at aJ;exact absurd rfl aJ
theorem Hm{R:Nat}{M:MF}{k:Nat}(h:cd (Qx R M k).1 R=[]):∀j,Qx R M (k+j)=Qx R M k
 |0=>rfl
 |j+1=>by have e:=Hm h j;show(fP (Qx R M (k+j)).1 (cd (Qx R M (k+j)).1 R),(Qx R M (k+j)).2++cd (Qx R M (k+j)).1 R)=_;rw[e,h,Kam];rfl
theorem uR{R:Nat}{M:MF}{k:Nat}:Qx R M (k+1)=(fP (Qx R M k).1 (cd (Qx R M k).1 R),(Qx R M k).2++cd (Qx R M k).1 R):=rfl
theorem Hn{R b:Nat}{M:MF}(hs:Sym R M)(hb:3<=b)(hM:fL b R R M):∀k,Sym R (Qx R M k).1/\fL (b*7^(R-oQ R (Qx R M k).1)) R R (Qx R M k).1
 |0=>⟨hs,fun r hr c hc=>Kap (hM r hr c hc) (KaZ _ (Kbw (by omega)))⟩
 | k+1=>by
  obtain⟨h1,h2⟩:=Hn hs hb hM k;by_cases hn:cd (Qx R M k).1 R=[]
  ·rw[Hm hn 1];exact⟨h1,h2⟩
  ·have hp:3<=b*7^(R-oQ R (Qx R M k).1):=Kap hb (KaZ _ (Kbw (by omega)));obtain⟨s,s1,s2,s3,s4,s5,s6⟩:=G3 h1 hp h2 hn;rw[uR];refine⟨s3,fun r hr c hc=>?_⟩;have h3:=s6 (cd (Qx R M k).1 R).length r hr c hc;rw[Kaz]at h3;have hle:oQ R (Qx R M k).1<=R:=FJ _ _;rw[Kbm,<-Nat.pow_add]at h3;exact Kap h3 (KaE _ (KaR (by omega) (by simp only;omega)))
theorem Sc{R b n:Nat}{M:MF}(hs:Sym R M)(hb:3<=b)(hM:fL b R R M):xa (b*7^R) R n M:=fun k _=>by
 obtain⟨h1,h2⟩:=Hn hs hb hM k;have hle:oQ R (Qx R M k).1<=R:=FJ _ _;have hK:b*7^(R-oQ R (Qx R M k).1)<=b*7^R:=KaE _ (KaR (by omega) (by omega));have h3:fL (b*7^R) R R (Qx R M k).1:=fun r hr c hc=>Kap (h2 r hr c hc) hK;refine⟨h3,?_⟩;by_cases hn:cd (Qx R M k).1 R=[]
 ·rw[hn];exact⟨(fun f hf=>by cases hf),fun j _=>by simpa[fP]using h3⟩
 ·have hp:3<=b*7^(R-oQ R (Qx R M k).1):=Kap hb (KaZ _ (Kbw (by omega)));obtain⟨s,s1,s2,s3,s4,s5,s6⟩:=G3 h1 hp h2 hn;refine⟨fun f hf=>?_,fun j _ r hr c hc=>?_⟩
  ·have hk:7*(b*7^(R-oQ R (Qx R M k).1))<=b*7^R:=by
    have e:7*(b*7^(R-oQ R (Qx R M k).1))=b*7^(R-oQ R (Qx R M k).1+1):=by rw[Kbv];simp only[KaP,Kbl]
    rw[e];exact KaE _ (KaR (by omega) (by omega))
   exact⟨Kap (s5 f hf).1 hk,fun c hc=>Kap ((s5 f hf).2 c hc) hk⟩
  ·have h4:=s6 j r hr c hc;rw[Kbm,<-Nat.pow_add]at h4;exact Kap h4 (KaE _ (KaR (by omega) (by omega)))
theorem Dr{R b:Nat}{M:MF}(hs:Sym R M)(hb:3<=b)(hM:fL b R R M):∀k,(∀j,j<k->cd (Qx R M j).1 R≠[])->oQ R (Qx R M k).1+k<=R
 |0,_=>FJ _ _
 |k+1,h=>by have h0:=Dr hs hb hM k fun j hj=>h j (by omega);obtain⟨h1,h2⟩:=Hn hs hb hM k;have hp:3<=b*7^(R-oQ R (Qx R M k).1):=Kap hb (KaZ _ (Kbw (by omega)));obtain⟨s,s1,s2,s3,s4,s5,s6⟩:=G3 h1 hp h2 (h k (by omega));rw[uR];simp only;omega
theorem Sd{R:Nat}{M:MF}(hs:Sym R M)(hn:cd M R≠[]):1<=oQ R M:=by
 refine Kbg fun h=>hn (adM fun i hi=>?_);have:zr R M i=true:=by
  cases hq:zr R M i
  ·exfalso;have:=FK (p:=fun i=> !zr R M i) (q:=fun _=>false) (a:=i) (by simp[hq]) rfl R hi (fun _ _ h=>by cases h);unfold oQ at h;omega
  ·rfl
 exact tO.1 this
theorem alg{R:Nat}{M:MF}(hs:Sym R M)(hd:¬eh M R<R)(hr:cF M R<R):cF M R<eU M R (cF M R):=by
 have hb0:=yD hr;have h0:=AO hb0;have xB:=Mj hd;rcases Kdf (cF M R) (eU M R (cF M R))with h|h|h
 ·exact h
 ·rw[<-h]at h0;exact absurd (xB _ hr) h0
 ·exact absurd (K4 h _ hr) (by rw[<-hs _ hr _ hb0];exact h0)
end Go.FW
