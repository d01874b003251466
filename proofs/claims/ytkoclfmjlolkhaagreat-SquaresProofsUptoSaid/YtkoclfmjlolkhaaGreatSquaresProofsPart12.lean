/- Part 12 of the proof of SquaresProofs: B5, A8, A9, A10, A11, U5, P5, U6, P6, V1, B4, B6, B7, B8, B9, B10, B11, Q3, Q4, FwVE, FwVF. Own lemmas; no conditions. -/
import Derived.Test.YtkoclfmjlolkhaaGreatSquaresProofsPart11
set_option maxHeartbeats 1000000
set_option linter.unusedSimpArgs false
set_option linter.unusedVariables false
set_option linter.unnecessarySimpa false
set_option maxRecDepth 100000
namespace Go.Proofs.YtkoclfmjlolkhaaGreat
open Go Go.FW
theorem ahN{n:Nat}(hn:n<=2^30):Qd Tryz.prog 56 [.int .i64 (n:Nat)] (· = .sl 3 (Qo PV.rat (fun _=>(0:Rat)) n)):=by
 refine aE Qg Tryz.func56 P4 fun C hP=> ?_
 refine Sz0 ?_
 refine Ql okB [(4,4),(9,16)] [] (fun q J hp=>∃i xs,q=n-i/\i<=n/\J 9= .int .i64 (i:Nat)/\xs.length=n/\hp 6=some ⟨3,51,xs,false⟩/\∀j,j<i->xs[j]? =some (PV.rat 0)) n ?_ ?_
 ·refine⟨0,List.replicate n (.agg [.bool false,.al,.al]),rfl,by omega,?_⟩
  refine Sz0 ?_
  exact⟨rfl,by simp,fun j hj=>by omega⟩
 rintro _ J h ⟨i,xs,rfl,hi,h9,hl,h6,hx⟩
 refine Sz1 h9 ?_
 refine Qa (fun hg=> ?_) (fun hg=> ?_)
 ·have ao:i<n:=by omega
  refine Sz1 h9 ?_
  refine Qb hP (oW (x:=0) Oz Oz) ?_
  rw[show((0:Int):Rat)=0 from rfl]
  generalize(0:Rat)=z at *
  refine Sz2 h9 h6 ?_
  rw[wQ (n:=3) (xs:=xs) (v:=PV.rat z) Oz rfl rfl]
  refine Sz1 h9 ?_
  refine Qf (n-(i+1)) Oz ⟨i+1,xs.set i (PV.rat z),rfl,by omega,?_⟩
  refine Sz0 ?_
  refine⟨by simp[hl],fun j hj=> ?_⟩
  rw[KcT]
  by_cases e:i=j
  ·rw[if_pos e,if_pos Oz]
  ·rw[if_neg e];exact hx j Oz
 ·obtain rfl:i=n:=by omega
  have e:xs=Qo PV.rat (fun _=>(0:Rat)) i:=by
   refine Kbg (by simp[Qo,hl]) fun j h1 h2=> ?_
   have:=hx j Oz
   rw[Kag h1]at this
   rw[pN];exact KbI this
  refine Sz2 h9 h6 ?_
  refine Qc ?_ ?_
  ·refine nU h6 e ?_
   rw[Kac (by rw[fW];omega)]
  ·exact qV h6
theorem Tl{x y:Nat->Rat}{c:Rat}{w ty1 ty2 k:Nat}(hw:w<=2^30)(hx:∀i,i<w->rs (x i)<=k)(hy:∀i,i<w->rs (y i)<=k)(hc:rs c<=k)(hk:k<=2^33):
  jC Tryz.prog 180 [.ms 1500000 w,.ms 1500001 w,PV.rat c] (fun _=> .undef) (Qi (Qi aA 1500000 ⟨3,ty1,Qo PV.rat x w,true⟩) 1500001 ⟨3,ty2,Qo PV.rat y w,true⟩) (fun r _ _=>r= .sl 3 (Qo PV.rat (fu x y c) w)):=by
 refine tr Qg Tryz.func180 rfl O' Nz fun C hP=> ?_;simp only[Kd];refine ic ?_
 refine Sz0 ?_
 refine Ql okB [(8,8),(14,31)] [] (fun q J hp=>∃i xs,q=w-i/\i<=w/\J 14= .int .i64 (i:Nat)/\xs.length=w/\hp 11=some ⟨3,51,xs,false⟩/\hp 5=some ⟨3,51,[PV.rat c],false⟩/\hp 1500000=some ⟨3,ty1,Qo PV.rat x w,true⟩/\hp 1500001=some ⟨3,ty2,Qo PV.rat y w,true⟩/\∀j,j<i->xs[j]? =some (PV.rat (fu x y c j))) w ?_ ?_
 ·refine⟨0,List.replicate w (.agg [.bool false,.al,.al]),rfl,by omega,?_⟩
  refine Sz0 ?_
  exact⟨rfl,by simp,fun j hj=>by omega⟩
 rintro _ J h ⟨i,xs,rfl,hi,fh,hl,ct,h5,lz,jM,pC⟩
 refine Sz1 fh ?_
 refine Qa (fun hg=> ?_) (fun hg=> ?_)
 ·have ao:i<w:=by omega
  have h1:=hx i ao
  have h2:=hy i ao
  have hm:=eX c (y i)
  refine Sz5 fh ct h5 lz jM ?_
  refine Qb hP (nL (k:=k) hc h2 Oz) ?_
  refine Sz5 fh ct h5 lz jM ?_
  refine Qb hP (vo (k:=2*k) Oz Oz Oz) ?_
  refine Sz5 fh ct h5 lz jM ?_
  rw[wQ (n:=3) (xs:=xs) (v:=PV.rat (x i+c*y i)) Oz rfl rfl]
  refine Sz1 fh ?_
  refine Qf (w-(i+1)) Oz ⟨i+1,xs.set i (PV.rat (x i+c*y i)),rfl,by omega,?_⟩
  refine Sz3 h5 lz jM ?_
  refine⟨by simp[hl],fun j hj=> ?_⟩
  rw[KcT]
  by_cases e:i=j
  ·subst e;rw[if_pos rfl,if_pos Oz];rfl
  ·rw[if_neg e];exact pC j Oz
 ·obtain rfl:i=w:=by omega
  have e:xs=Qo PV.rat (fu x y c) i:=by
   refine Kbg (by simp[Qo,hl]) fun j h1 h2=> ?_
   have:=pC j Oz
   rw[Kag h1]at this
   rw[pN];exact KbI this
  refine Sz2 fh ct ?_
  refine tq ?_
  refine Sz1 ct ?_
  refine Qc ?_ ?_
  ·refine nU ct e ?_
   rw[Kac (by rw[fW];omega)]
  ·exact qV ct
theorem XS{x y:Nat->Rat}{c:Rat}{w ty2 k:Nat}(hw:w<=2^30)(hx:∀i,i<w->rs (x i)<=k)(hy:∀i,i<w->rs (y i)<=k)(hc:rs c<=k)(hk:k<=2^33):
  jC Tryz.prog 180 [.sl 3 (Qo PV.rat x w),.ms 1500001 w,PV.rat c] (fun _=> .undef) (Qi aA 1500001 ⟨3,ty2,Qo PV.rat y w,true⟩) (fun r _ _=>r= .sl 3 (Qo PV.rat (fu x y c) w)):=by
 have dh:(Qo PV.rat x w).length=w:=fW _ _ _
 refine tr Qg Tryz.func180 rfl O' Nz fun C hP=> ?_;simp only[Kd];refine ic ?_
 refine Sz1 dh ?_
 refine Ql okB [(8,8),(14,31)] [] (fun q J hp=>∃i xs,q=w-i/\i<=w/\J 14= .int .i64 (i:Nat)/\xs.length=w/\hp 11=some ⟨3,51,xs,false⟩/\hp 5=some ⟨3,51,[PV.rat c],false⟩/\hp 1500001=some ⟨3,ty2,Qo PV.rat y w,true⟩/\∀j,j<i->xs[j]? =some (PV.rat (fu x y c j))) w ?_ ?_
 ·refine⟨0,List.replicate w (.agg [.bool false,.al,.al]),rfl,by omega,?_⟩
  refine Sz0 ?_
  exact⟨rfl,by simp,fun j hj=>by omega⟩
 rintro _ J h ⟨i,xs,rfl,hi,fh,hl,ct,h5,jM,pC⟩
 refine Sz1 fh ?_
 refine Qa (fun hg=> ?_) (fun hg=> ?_)
 ·have ao:i<w:=by omega
  have h1:=hx i ao
  have h2:=hy i ao
  have hm:=eX c (y i)
  refine Sz4 fh ct h5 jM ?_
  refine Qb hP (nL (k:=k) hc h2 Oz) ?_
  refine Sz4 fh ct h5 jM ?_
  refine Qb hP (vo (k:=2*k) Oz Oz Oz) ?_
  refine Sz4 fh ct h5 jM ?_
  rw[wQ (n:=3) (xs:=xs) (v:=PV.rat (x i+c*y i)) Oz rfl rfl]
  refine Sz1 fh ?_
  refine Qf (w-(i+1)) Oz ⟨i+1,xs.set i (PV.rat (x i+c*y i)),rfl,by omega,?_⟩
  refine Sz2 h5 jM ?_
  refine⟨by simp[hl],fun j hj=> ?_⟩
  rw[KcT]
  by_cases e:i=j
  ·subst e;rw[if_pos rfl,if_pos Oz];rfl
  ·rw[if_neg e];exact pC j Oz
 ·obtain rfl:i=w:=by omega
  have e:xs=Qo PV.rat (fu x y c) i:=by
   refine Kbg (by simp[Qo,hl]) fun j h1 h2=> ?_
   have:=pC j Oz
   rw[Kag h1]at this
   rw[pN];exact KbI this
  refine Sz2 fh ct ?_
  refine tq ?_
  refine Sz1 ct ?_
  refine Qc ?_ ?_
  ·refine nU ct e ?_
   rw[Kac (by rw[fW];omega)]
  ·exact qV ct
def mS(M:MF)(R:Nat):Prop:=∀i,i<R->∀k,k<i->M i k=M k i
instance {M : MF} {R : Nat} : Decidable (mS M R) := by unfold mS; infer_instance
theorem XT{M:MF}{R K ty tyr:Nat}(df:R<=40)(hK:K<2^35)(hB:eV K R R M):
  jC Tryz.prog 115 [.aG 1500000 0 R] (ae (fun _=> .undef) 1500000 (.aF 1500000 1 ty (Qy (bW 1600000 R R id))))
   (fun x=>if x=1500000 then some ⟨1,ty,[],true⟩else if 1600000<=x/\x<1600000+R then some ⟨3,tyr,Qo PV.rat (M (x-1600000)) R,true⟩else none) (fun r _ _=>r= .bool (decide (mS M R))):=by
 refine tr Qg Tryz.func115 rfl Pa Nz fun C hP=> ?_;simp only[Kb];refine ic ?_
 refine Sz0 ?_
 refine iz okB [(0,0),(2,4),(7,31),(1500000,1500000)] [] (fun q J hp=>∃i,q=R-i/\i<=R/\J 0= .aG 1500000 0 R/\J 7= .int .i64 (i:Nat)/\J 1500000= .aF 1500000 1 ty (Qy (bW 1600000 R R id))/\hp 1500000=some ⟨1,ty,[],true⟩/\(∀r,r<R->hp (1600000+r)=some ⟨3,tyr,Qo PV.rat (M r) R,true⟩)/\∀j,j<i->∀k,k<j->M j k=M k j) R ?_ ?_
 ·refine⟨0,rfl,by omega,?_⟩
  refine Sz0 ?_
  refine⟨rfl,fun r hr=> ?_,fun j hj=>by omega⟩
  rw[if_pos ⟨by omega,by omega⟩,Kbq]
 rintro _ J h ⟨i,rfl,hi,h0,h7,hg,hh,hr,hs⟩
 refine Sz1 h7 ?_
 refine Qa (fun hc=> ?_) (fun hc=> ?_)
 ·have ao:i<R:=by omega
  refine Sz4 h0 h7 hg hh ?_
  refine iz okB [(0,0),(2,2),(4,4),(11,30),(1500000,1500000)] [] (fun q J hp=>∃k,q=i-k/\k<=i/\J 0= .aG 1500000 0 R/\J 11= .int .i64 (k:Nat)/\J 1500000= .aF 1500000 1 ty (Qy (bW 1600000 R R id))/\h=hp/\∀j,j<k->M i j=M j i) i ?_ ?_
  ·refine⟨0,rfl,by omega,?_⟩
   refine Sz2 h0 hg ?_
   exact⟨rfl,fun j hj=>by omega⟩
  rintro _ J2 _ ⟨k,rfl,hk,i0,i11,ig,rfl,is⟩
  refine Sz1 i11 ?_
  refine Qa (fun ie=> ?_) (fun ie=> ?_)
  ·have cf:k<i:=by omega
   have r1:=hr i ao
   have r2:=hr k Oz
   have b1:=hB i ao k Oz
   have b2:=hB k Oz i ao
   simp+decide (disch:=first|omega|rfl|(simp+decide only[go_sem,i0,i11,ig,hh,r1,r2,id]<;>rfl)|fail) only[go_sem,i0,i11,ig,hh,r1,r2,id]
   refine Qb hP (ag2 (a:=M i k) (b:=M k i) b1 b2 Oz) ?_
   by_cases e:M i k=M k i
   ·refine Sz2 i11 e ?_
    refine fG (i-(k+1)) Oz ⟨k+1,rfl,by omega,?_⟩
    refine Sz2 i0 ig ?_
    intro j hj
    by_cases e2:j=k
    ·subst e2;exact e
    ·exact is j Oz
   ·refine Sz1 e ?_
    refine tq ?_
    refine Sz0 ?_
    refine Qc ?_ rfl
    rw[decide_eq_false]
    exact fun h=>e (h i ao k cf)
  ·refine Sz1 h7 ?_
   simp (disch:=decide) only[mB,oC,eP,oD]
   refine fG (R-(i+1)) Oz ⟨i+1,rfl,by omega,?_⟩
   refine Sz3 i0 ig hh ?_
   refine⟨hr,fun j hj k' cf=> ?_⟩
   by_cases e:j=i
   ·subst e;exact is k' Oz
   ·exact hs j Oz k' cf
 ·refine Sz0 ?_
  refine tq ?_
  refine Sz0 ?_
  refine Qc ?_ rfl
  rw[decide_eq_true]
  exact fun j hj k hk=>hs j Oz k hk
theorem akv{M:MF}{R K ty tyr:Nat}(df:R<=40)(hK:K<2^30)(hB:eV K R R M):
  jC Tryz.prog 116 [.aG 1500000 0 R] (ae (fun _=> .undef) 1500000 (.aF 1500000 1 ty (Qy (bW 1600000 R R id))))
   (fun x=>if x=1500000 then some ⟨1,ty,[],true⟩else if 1600000<=x/\x<1600000+R then some ⟨3,tyr,Qo PV.rat (M (x-1600000)) R,true⟩else none) (fun r _ _=>r= .sl 4 ((bS M R).map (PV.form R))):=by
 refine tr Qg Tryz.func116 rfl agm Nz fun C hP=> ?_;simp only[Tv];refine ic ?_
 refine Sz0 ?_
 refine Qb hP (oW (x:=1) Oz Oz) ?_
 rw[show((1:Int):Rat)=1 from rfl]
 obtain⟨u,hu⟩:∃u:Rat,(1:Rat)=u:=⟨_,rfl⟩
 rw[hu]
 refine Sz0 ?_
 refine iz okB [(0,0),(2,2),(4,7),(16,47),(1500000,1500000)] [5,6,46] (fun q J hp=>∃i,q=R-i/\i<=R/\J 0= .aG 1500000 0 R/\J 16= .int .i64 (i:Nat)/\J 1500000= .aF 1500000 1 ty (Qy (bW 1600000 R R id))/\hp 1500000=some ⟨1,ty,[],true⟩/\(∀r,r<R->hp (1600000+r)=some ⟨3,tyr,Qo PV.rat (M r) R,true⟩)/\hp 3=some ⟨3,51,[PV.rat u],false⟩/\∀j,j<i->M j j=0) R ?_ ?_
 ·refine⟨0,rfl,by omega,?_⟩
  refine Sz0 ?_
  refine⟨rfl,fun r hr=> ?_,fun j hj=>by omega⟩
  rw[if_pos ⟨by omega,by omega⟩,Kbq]
 rintro _ J h ⟨i,rfl,hi,h0,o6,hg,hh,hr,h3,hz⟩
 refine Sz1 o6 ?_
 refine Qa (fun hc=> ?_) (fun hc=> ?_)
 ·have ao:i<R:=by omega
  have r1:=hr i ao
  have b1:=hB i ao i ao
  simp+decide (disch:=first|omega|rfl|(simp+decide only[go_sem,h0,o6,hg,hh,r1,id]<;>rfl)|fail) only[go_sem,h0,o6,hg,hh,r1,id]
  refine Qb hP (mH (a:=M i i) Oz) ?_
  simp+decide (disch:=first|omega|rfl|(simp+decide only[go_sem,h0,o6,hg,hh,r1,id]<;>rfl)|fail) only[go_sem,h0,o6,hg,hh,r1,id]
  refine Qa (fun hs=> ?_) (fun hs=> ?_)
  ·have aH:M i i≠0:=fun e=>hs (dz.2 e)
   refine Sz1 h3 ?_
   refine Qb hP (zE (a:=u) (b:=M i i) (k:=K+1) (by rw[<-hu];have:=lO;omega) Oz Oz aH) ?_
   simp+decide (disch:=first|omega|rfl|(simp+decide only[go_sem,h0,o6,hg,hh,r1,id]<;>rfl)|fail) only[go_sem,h0,o6,hg,hh,r1,id]
   refine Qb hP (ahN (n:=R) Oz) ?_
   refine Sz0 ?_
   have xK:rs (u/M i i)<=K+2:=by
    rw[KbA]
    have q1:=eX u (M i i)⁻¹
    have q2:=FE (M i i) aH
    have q3:=lO
    rw[hu]at q3
    omega
   have cmb:=XS (w:=R) (x:=fun _=>(0:Rat)) (y:=M i) (c:=u/M i i) (ty2:=tyr) (k:=K+2) Oz (fun _ _=>by have:=sj;omega) (fun c hc=>by have:=hB i ao c hc;omega) xK Oz
   refine ahC hP (hb1:=⟨3,tyr,Qo PV.rat (M i) R,true⟩) cmb Tz0 (γ1:=1600000+i) (Tz1 r1) Tz0 (fun γ aj=>by simpa[PV.refs,PV.aQ]using aj) (by simp) ?_
   refine Sz1 h0 ?_
   refine tq ?_
   refine Sz0 ?_
   refine Qc ?_ ?_
   ·refine gJ ?_
    have KO:dA M R=i:=w9 (Kbv _) Oz (decide_eq_true aH) fun j _ hj=>decide_eq_false (fun h=>h (hz j hj))
    unfold bS
    rw[KO,if_pos ao,<-hu]
    rfl
   ·exact tU
  ·refine Sz1 o6 ?_
   refine fG (R-(i+1)) Oz ⟨i+1,rfl,by omega,?_⟩
   refine Sz4 h0 hg hh h3 ?_
   refine⟨hr,fun j hj=> ?_⟩
   by_cases e:j=i
   ·subst e;exact dz.1 (Classical.not_not.1 hs)
   ·exact hz j Oz
 ·obtain rfl:i=R:=by omega
  have uo:¬dA M i<i:=by
   have:dA M i=0+i:=tD fun j _ hj=>decide_eq_false (fun h=>h (hz j Oz))
   omega
  refine Sz1 h0 ?_
  refine iz okB [(0,0),(2,2),(8,12),(50,101),(1500000,1500000)] [10,11,99] (fun q J hp=>∃a,q=i-a/\a<=i/\J 0= .aG 1500000 0 i/\J 50= .int .i64 (a:Nat)/\J 1500000= .aF 1500000 1 ty (Qy (bW 1600000 i i id))/\hp 1500000=some ⟨1,ty,[],true⟩/\(∀r,r<i->hp (1600000+r)=some ⟨3,tyr,Qo PV.rat (M r) i,true⟩)/\hp 3=some ⟨3,51,[PV.rat u],false⟩/\∀j,j<a->∀k,k<i->M j k=0) i ?_ ?_
  ·refine⟨0,rfl,by omega,?_⟩
   refine Sz4 h0 hg hh h3 ?_
   exact⟨rfl,hr,fun j hj=>by omega⟩
  rintro _ J1 h1 ⟨a,rfl,ha,a0,FN,ag,ah,ar,a3,az⟩
  refine Sz1 FN ?_
  refine Qa (fun zY=> ?_) (fun zY=> ?_)
  ·have kB:a<i:=by omega
   have r1:=ar a kB
   simp+decide (disch:=first|omega|rfl|(simp+decide only[go_sem,a0,FN,ag,ah,r1,id]<;>rfl)|fail) only[go_sem,a0,FN,ag,ah,r1,id]
   refine iz okB [(0,0),(2,2),(9,12),(56,56),(58,100),(1500000,1500000)] [10,11,99] (fun q J hp=>∃b,q=i-b/\b<=i/\J 0= .aG 1500000 0 i/\J 56= .ms (1600000+a) i/\J 58= .int .i64 (b:Nat)/\J 1500000= .aF 1500000 1 ty (Qy (bW 1600000 i i id))/\hp 1500000=some ⟨1,ty,[],true⟩/\(∀r,r<i->hp (1600000+r)=some ⟨3,tyr,Qo PV.rat (M r) i,true⟩)/\hp 3=some ⟨3,51,[PV.rat u],false⟩/\∀k,k<b->M a k=0) i ?_ ?_
   ·refine⟨0,rfl,by omega,?_⟩
    refine Sz4 a0 ag ah a3 ?_
    exact⟨rfl,ar,fun j hj=>by omega⟩
   rintro _ J2 h2 ⟨b,rfl,hb,b0,lf,kA,bg,bh,br,b3,bz⟩
   refine Sz1 kA ?_
   refine Qa (fun jo=> ?_) (fun jo=> ?_)
   ·have aw:b<i:=by omega
    have s1:=br a kB
    have s2:=br b aw
    have b1:=hB a kB b aw
    simp+decide (disch:=first|omega|rfl|(simp+decide only[go_sem,b0,lf,kA,bg,bh,s1,s2,id]<;>rfl)|fail) only[go_sem,b0,lf,kA,bg,bh,s1,s2,id]
    refine Qb hP (mH (a:=M a b) Oz) ?_
    simp+decide (disch:=first|omega|rfl|(simp+decide only[go_sem,b0,lf,kA,bg,bh,s1,s2,id]<;>rfl)|fail) only[go_sem,b0,lf,kA,bg,bh,s1,s2,id]
    refine Qa (fun hs=> ?_) (fun hs=> ?_)
    ·have aH:M a b≠0:=fun e=>hs (dz.2 e)
     have uf:a≠b:=fun e=>aH (by rw[<-e];exact hz a kB)
     simp+decide (disch:=first|omega|rfl|(simp+decide only[go_sem,b0,lf,kA,bg,bh,b3,s1,s2,id]<;>rfl)|fail) only[go_sem,b0,lf,kA,bg,bh,b3,s1,s2,id]
     have q1:=ki (M a b) (M a b)
     have Vb:M a b+M a b≠0:=fun h=>aH (by grind)
     have q2:rs u<=1:=by rw[<-hu];exact lO
     have c1:=vo (a:=M a b) (b:=M a b) (k:=K) b1 b1 Oz
     have c2:=zE (a:=u) (b:=M a b+M a b) (k:=2*K+1) Oz Oz Oz Vb
     have q3:rs (u/(M a b+M a b))<=2*K+2:=by
      rw[KbA]
      have:=eX u (M a b+M a b)⁻¹
      have:=FE (M a b+M a b) Vb
      omega
     have c3:=HI (a:=u/(M a b+M a b)) q3 Oz
     have c4:=oW (x:= -1) Oz Oz
     rw[show((-1:Int):Rat)= -1 from rfl]at c4
     obtain⟨v,hv⟩:∃v:Rat,(-1:Rat)=v:=⟨_,rfl⟩
     have q4:rs v<=1:=by rw[<-hv,qE];exact lO
     rw[hv]at c4
     have c5:=Tl (w:=i) (x:=M a) (y:=M b) (c:=u) (ty1:=tyr) (ty2:=tyr) (k:=K+2) Oz (fun c hc=>by have:=hB a kB c hc;omega) (fun c hc=>by have:=hB b aw c hc;omega) Oz Oz
     have c6:=Tl (w:=i) (x:=M a) (y:=M b) (c:=v) (ty1:=tyr) (ty2:=tyr) (k:=K+2) Oz (fun c hc=>by have:=hB a kB c hc;omega) (fun c hc=>by have:=hB b aw c hc;omega) Oz Oz
     have pg:dR M i a=b:=w9 (Kbv _) Oz (decide_eq_true aH) fun j _ hj=>decide_eq_false (fun h=>h (bz j hj))
     have Ac:ck M i=a:=w9 (Kbv _) Oz (decide_eq_true (by rw[pg];exact aw)) fun j _ hj=>decide_eq_false (fun h=>by
      have:dR M i j=0+i:=tD fun k _ hk=>decide_eq_false (fun h2=>h2 (az j Oz k Oz))
      omega)
     have fo:bS M i=[(u/(M a b+M a b),fu (M a) (M b) u),(-(u/(M a b+M a b)),fu (M a) (M b) v)]:=by
      unfold bS
      rw[if_neg uo,Ac,if_pos kB,pg,<-hu,<-hv]
     have Uu:¬1600000+b=1600000+a:=by omega
     repeat' first
      |refine jO ?_ ?_
      |refine Qb hP c1 ?_
      |refine Qb hP c2 ?_
      |simp+decide (disch:=first|omega|rfl|(simp+decide only[go_sem,b0,lf,kA,bg,bh,b3,s1,s2,id]<;>rfl)|fail) only[go_sem,b0,lf,kA,bg,bh,b3,s1,s2,id]
     all_goals
      refine Pf hP (hb1:=⟨3,tyr,Qo PV.rat (M a) i,true⟩) (hb2:=⟨3,tyr,Qo PV.rat (M b) i,true⟩) c5 Tz0 (γ1:=1600000+a) (γ2:=1600000+b) (Tz1 s1) (Tz1 s2) Oz (Tz1 Uu) (fun γ aj=>by simpa[PV.refs,PV.aQ]using aj) (by simp) ?_
      simp+decide (disch:=first|omega|rfl|(simp+decide only[go_sem,b0,lf,kA,bg,bh,b3,s1,s2,id]<;>rfl)|fail) only[go_sem,b0,lf,kA,bg,bh,b3,s1,s2,id]
      refine Qb hP c3 ?_
      simp+decide (disch:=first|omega|rfl|(simp+decide only[go_sem,b0,lf,kA,bg,bh,b3,s1,s2,id]<;>rfl)|fail) only[go_sem,b0,lf,kA,bg,bh,b3,s1,s2,id]
      refine Qb hP c4 ?_
      simp+decide (disch:=first|omega|rfl|(simp+decide only[go_sem,b0,lf,kA,bg,bh,b3,s1,s2,id]<;>rfl)|fail) only[go_sem,b0,lf,kA,bg,bh,b3,s1,s2,id]
      refine Pf hP (hb1:=⟨3,tyr,Qo PV.rat (M a) i,true⟩) (hb2:=⟨3,tyr,Qo PV.rat (M b) i,true⟩) c6 Tz0 (γ1:=1600000+a) (γ2:=1600000+b) (Tz1 s1) (Tz1 s2) Oz (Tz1 Uu) (fun γ aj=>by simpa[PV.refs,PV.aQ]using aj) (by simp) ?_
      simp+decide (disch:=first|omega|rfl|(simp+decide only[go_sem,b0,lf,kA,bg,bh,b3,s1,s2,id]<;>rfl)|fail) only[go_sem,b0,lf,kA,bg,bh,b3,s1,s2,id]
      refine tq ?_
      refine Sz0 ?_
      refine Qc ?_ ?_
      ·refine gJ ?_
       rw[fo];rfl
      ·exact tU
    ·refine Sz1 kA ?_
     refine fG (i-(b+1)) Oz ⟨b+1,rfl,by omega,?_⟩
     refine Sz5 b0 lf bg bh b3 ?_
     refine⟨br,fun j hj=> ?_⟩
     by_cases e:j=b
     ·subst e;exact dz.1 (Classical.not_not.1 hs)
     ·exact bz j Oz
   ·refine Sz0 ?_
    simp (disch:=decide) only[mB,oC,eP,oD]
    refine Sz1 FN ?_
    refine fG (i-(a+1)) Oz ⟨a+1,rfl,by omega,?_⟩
    refine Sz4 b0 bg bh b3 ?_
    refine⟨br,fun j hj k hk=> ?_⟩
    by_cases e:j=a
    ·subst e;exact bz k Oz
    ·exact az j Oz k hk
  ·refine Sz0 ?_
   refine tq ?_
   refine Sz0 ?_
   refine⟨rfl,.sl 4 [],trivial,?_⟩
   unfold bS
   have e1:¬ck M i<i:=by
    have:ck M i=0+i:=tD fun j _ hj=>decide_eq_false (fun h=>by
     have:dR M i j=0+i:=tD fun k _ hk=>decide_eq_false (fun h2=>h2 (az j Oz k Oz))
     omega)
    omega
   rw[if_neg uo,if_neg e1]
   rfl
def Ke:ay:=⟨83,[.t 2,.cell 3 3 true,.t 4],Zr (gZ 1 24<|
 Yi 2<|
 Zo (.alloc 3 3 24 (.agg [Zz 0,Zz 0,.al]))<|
 Yl 4 0)<| .seq (Zr (dG 10 3 1 52<|
 Zu 12 11 .nil)<| .cond (.t 12) (Zr (Zo (.eA 13 [Zz 0,Zz 0,.al] [])<|
 Yi 2<|
 Zs 3 3 13<|
 Yl 4 1) .ret) .skip)<|Zr (dG 14 3 1 54<|
 Zm 5 15 .nil)<| .seq (Zr (eS 16 0 1 1 1<|
 Zb 20 .neq 17 19<|
 Yu 21 20 5<|
 vG 21 115<|
 vH 21)<| .cond (.t 25) (Zr (Zo (.eA 26 [Zz 0,Zz 0,.al] [])<|
 Yi 2<|
 Zs 3 3 26<|
 Yl 4 16) .ret) .skip)<|Zr (Yf 27 1 1<|
 Zf 29 1 3<|
 gK 1 29 28)<| .seq (Zr (Yf 30 0 1<|
 Zo (.bin 32 .mul false (.c (Zz 2)) (.t 31))<|
 Zc 33 0<|
 .wk<| .wk<| .wk .nil)<| .block 0<| .loop<|Zr (Ys 34 33 32)<| .seq (.cond (.t 34) .skip (.exit 0))<| .seq (.block 1<|Zr (Yz 35 5 116<|
 Yc 6 36)<|Zr (YP 37 6)<| .block 2<| .loop<|Zr (Ys 40 39 38)<| .seq (.cond (.t 40) .skip (.exit 2))<| .seq (.block 3<|Zr (Yy 41 37 39 8 133)<|Zr (Zm 43 2<|
 YT 44 8 3<|
 Zo (.bs 46 3 51 [.t 45])<|
 Zo (.app 47 3 56 51 (.t 43) (.t 46))<|
 Yc 2 47)<|Zr (eS 48 2 3 3 8<|
 Zo (.app 52 3 56 51 (.t 49) (.t 51))<|
 Zf 53 2 3<|
 gK 1 53 52)<|Zr (Yf 54 0 3<|
 Zk 56 .add 55 1<|
 Zf 57 0 3<|
 gK 1 57 56)<|Zr (YP 58 5)<| .block 4<| .loop<|Zr (Ys 61 60 59)<| .seq (.cond (.t 61) .skip (.exit 4))<| .seq (.block 5<|Zr (YW 62 60 9)<| .rg (Yn 63 5 9<|
 Yf 67 3 8<|
 YT 69 8 3<|
 Yf 71 3 8<|
 Zm 73 9<|
 YI 74 3 72 73<|
 Yr 76 105 70 75<|
 Zq 77 false 117 [.t 66,.t 68,.t 76] .nil))<| .rg (Yw 78 60 60))<| .rg (Yw 79 39 39))<| .rg (Yw 80 33 33))<|Zr (Zm 81 2<|
 Zh 82 3 3<|
 .wk<|Zm 2 81<|
 Zs 3 3 82<|
 Yl 4 0) .ret⟩
theorem P8:Qe Tryz.prog Tryz.f48=some Ke.strip:=by kernel_rfl
theorem XU{x y:Nat->Rat}{c:Rat}{w ty1 k:Nat}(hw:0<w)(GO:w<=2^30)(hx:∀i,i<w->rs (x i)<=k)(hy:∀i,i<w->rs (y i)<=k)(hc:rs c<=k)(hk:k<=2^33):
  jC Tryz.prog 117 [.ms 1000000 w,.sl 3 (Qo PV.rat y w),PV.rat c] (fun _=> .undef) (Qi aA 1000000 ⟨3,ty1,Qo PV.rat x w,false⟩) (fun r F H=>nI r/\∃xs,H 1000000=some ⟨3,ty1,xs,false⟩/\xs.length=(Qo PV.rat x w).length/\(r= .aI []/\xs=Qo PV.rat (fun i=>x i-c*y i) w)):=by
 refine tr Qg Tryz.func117 rfl O9 Nz fun C hP=> ?_;simp only[Kc];refine ic ?_
 refine Sz0 ?_
 refine Qb hP (mH (a:=c) Oz) ?_
 refine Sz0 ?_
 refine Qa (fun h0=> ?_) (fun h0=> ?_)
 ·refine Sz0 ?_
  refine Es ?_
  refine Sz0 ?_
  refine⟨_,rfl,rfl,nC fun i hi=> ?_⟩
  rw[dz.1 h0,KcB,KcI,Rat.neg_zero,Rat.add_zero]
 refine Sz0 ?_
 refine Ql okB [(6,6),(12,29)] [] (fun n J hp=>∃i,n=w-i/\i<=w/\J 12= .int .i64 (i:Nat)/\hp 5=some ⟨3,51,[PV.rat c],false⟩/\hp 1000000=some ⟨3,ty1,Qo PV.rat (fun j=>if j<i then x j-c*y j else x j) w,false⟩) w ?_ ?_
 ·refine⟨0,rfl,by omega,?_⟩
  refine Sz0 ?_
  exact⟨rfl,Dr (nC fun k _=>(if_neg (Nat.not_lt_zero k)).symm)⟩
 rintro _ J h ⟨i,rfl,hi,eY,h5,lz⟩
 refine Sz1 eY ?_
 refine Qa (fun hg=> ?_) (fun hg=> ?_)
 ·have ao:i<w:=by omega
  have hm:=eX c (y i)
  have h1:=hx i ao
  have h2:=hy i ao
  refine Sz3 eY h5 lz ?_
  rw[if_neg (KcS i)]
  refine Qb hP (nL (k:=k) hc h2 Oz) ?_
  refine Sz3 eY h5 lz ?_
  refine Qb hP (Dq (k:=2*k) Oz Oz Oz) ?_
  refine Sz3 eY h5 lz ?_
  rw[Fp ao]
  refine Sz1 eY ?_
  refine Qf (w-(i+1)) Oz ⟨i+1,rfl,by omega,?_⟩
  refine Sz1 h5 ?_
  refine Dr (nC fun k _=> ?_)
  by_cases e:k=i
  ·subst e;rw[if_pos rfl,if_pos Oz]
  ·rw[if_neg e]
   by_cases e2:k<i
   ·rw[if_pos e2,if_pos Oz]
   ·rw[if_neg e2,if_neg Oz]
 ·obtain rfl:i=w:=by omega
  refine Sz1 eY ?_
  refine Es ?_
  refine Sz1 lz ?_
  exact⟨_,rfl,by rw[fW,fW],nC fun k hk=>if_pos hk⟩
theorem MR{R w x:Nat}{M:MF}{hp:HP}(h:x<3000000)(h2:¬x=2000000):qI R w M hp x=hp x:=by
 unfold qI
 rw[if_neg h2,if_neg Oz]
abbrev tT(R n:Nat):PV:= .bm [.int .i64 (n:Nat),.int .i64 (R:Nat),.aB 2000002 0 (n*R)]
abbrev vD(R:Nat)(l:List LF):PV:= .aI [PV.bU (l.map (·.1)),PV.bO l.length R (du R l),.int .i64 0]
theorem N5{R K:Nat}{l:List Rat}(hl:l.length=R*R)(ue:0<R)(df:R<=40)(hs:∀q∈l,rs q<=1048576)(hK:K<2^28)(hB:vC K R (2*R) (Qu l R))(GL:mS (Qu l R) R):
  Qd Tryz.prog 48 [PV.bO R R l] (· =vD R (Qv R (Qu l R) (2*R)).2):=by
 refine rX Qg Tryz.func48 rfl P8 Nz fun C hP=> ?_;simp only[Ke];refine ic ?_
 refine Sz0 ?_
 refine Qb hP (Ec hl df df hs) ?_
 refine Sz0 ?_
 have ph:∀(hp:HP),(∀x,5<=x->hp x=none)->∀x,jv R x=true->hp x=none:=fun hp h x hx=>h x (by have:=vq hx;omega)
 refine Mn hP hl ue df df Oz (ph _ (fun x hx=>by simp+decide (disch:=try exact D4 (show ¬x=1 from by omega) (show ¬x=2 from by omega) (show ¬x=3 from by omega) (show ¬x=4 from by omega)) only[go_sem,show ¬x=1 from by omega,show ¬x=2 from by omega,show ¬x=3 from by omega,show ¬x=4 from by omega]<;>rfl)) ?_
 refine Sz3 @tG @tL @wV ?_
 have sF:=hB 0 Oz
 have hx:=XT (K:=K) (ty:=22) (tyr:=51) df Oz sF.1
 repeat' first
  |refine jO ?_ ?_
  |refine Pk (ys:=fun r=>Qo PV.rat (Qu l R r) R) hP Oz hx (by simp[Hs]) Tz0 (Tz1 @JE) (fun r hr=>by simp+decide (disch:=first|omega|rfl|(simp+decide only[go_sem,AM]<;>rfl)|fail) only[go_sem,AM]) ?_
  |simp+decide (disch:=first|omega|rfl|(simp+decide only[go_sem,tG,tL,wV]<;>rfl)|fail) only[go_sem,tG,tL,wV]
 rw[show(Qv R (Qu l R) 0).1=Qu l R from rfl,decide_eq_true GL]
 refine Sz3 @tG @tL @wV ?_
 refine et (qG 3 2000001 (Tzr1 @MR) Oz rfl Oz) ?_
 have hmv:b6 (ju 3 2000001) (.aF 2000000 1 22 (Qy (bW 3000000 R R id)))= .aF 2000000 1 22 (Qy (bW 3000000 R R id)):=VP Oz Oz Oz
 refine Sz1 hmv ?_
 refine et (xd (γ:=2000001) (e:=3) (ty:=24) (xs:=[.agg [.int .i64 0,.int .i64 (R:Nat),.al]]) (fz:=false) Tz0 (by simp) Oz (fun x hx=>by rw[KaB.1 hx];rfl)) ?_
 refine et (Jr (γ:=2000001) (e:=3) (ty:=24) (cs:=[.int .i64 0,.int .i64 (R:Nat),.al]) (cs':=[.int .i64 0,.int .i64 (R:Nat),.aB 2000002 0 0]) 2000002 3 51 Tz0 (Tzr1 @MR) Oz Oz rfl (by simp)) ?_
 refine Sz0 ?_
 refine iL 2 900 3 51 Oz Tz0 ?_
 obtain⟨M,hM⟩:∃M,Qu l R=M:=⟨_,rfl⟩
 rw[hM]at hB⊢
 refine iz okB [(2,3),(5,6),(8,9),(33,80),(2000000,2000001)] [8,46,47,52,900] (fun q J hp=>∃k,q=2*R-k/\k<=2*R/\J 2= .ms 900 (Qv R M k).2.length/\J 3= .np 2000001 0 0/\J 5= .aG 2000000 0 R/\J 33= .int .i64 (k:Nat)/\J 2000000= .aF 2000000 1 22 (Qy (bW 3000000 R R id))/\J 2000001= .aF 2000001 3 24 [tT R (Qv R M k).2.length]/\
   hp 2000000=some ⟨1,22,[],false⟩/\hp 2000001=some ⟨3,24,[],false⟩/\hp 2000002=some ⟨3,51,(du R (Qv R M k).2).map PV.rat,false⟩/\hp 900=some ⟨3,51,((Qv R M k).2.map (·.1)).map PV.rat,false⟩/\
   ∀r,r<R->hp (3000000+r)=some ⟨3,51,Qo PV.rat ((Qv R M k).1 r) R,false⟩) (2*R) ?_ ?_
 ·refine⟨0,rfl,by omega,?_⟩
  refine Sz3 @tG @tL @wV ?_
  refine⟨rfl,rfl,?_,JE,rfl,rfl,fun r hr=>AM hr⟩
  simp[Qv]
 rintro _ J h ⟨k,rfl,hk,j2,j3,j5,uG,jg,jb,h0,h1,h2,h9,fU⟩
 refine Sz1 uG ?_
 refine Qa (fun hc=> ?_) (fun hc=> ?_)
 ·have cf:k<2*R:=by omega
  have jn:=hB k hk
  have wc:=DS R M k
  have qj:=tg R (Qv R M k).2
  have gl:(Qv R M (k+1)).1=eQ (Qv R M k).1 (bS (Qv R M k).1 R):=rfl
  have oc:(Qv R M (k+1)).2=(Qv R M k).2++bS (Qv R M k).1 R:=rfl
  obtain⟨E,hE⟩:∃E,Qv R M k=E:=⟨_,rfl⟩
  rw[hE]at jn wc qj gl oc j2 jb h2 h9 fU
  obtain⟨N,fs⟩:=E
  simp only at jn wc qj gl oc j2 jb h2 h9 fU
  have gQ:=H0 N R
  have ir:=akv (K:=K) (ty:=22) (tyr:=51) df Oz jn.1
  refine Sz5 j2 j3 j5 jg jb ?_
  refine Pk (ys:=fun r=>Qo PV.rat (N r) R) hP Oz ir (by simp[Hs]) (Tz1 jg) h0 fU ?_
  obtain⟨L,hL⟩:∃L,bS N R=L:=⟨_,rfl⟩
  rw[hL]at jn gQ gl oc⊢
  refine Sz5 j2 j3 j5 jg jb ?_
  refine iz okB [(2,3),(5,5),(8,9),(39,79),(2000000,2000001)] [8,46,47,52,900] (fun q J hp=>∃i,q=L.length-i/\i<=L.length/\J 2= .ms 900 (fs++L.take i).length/\J 3= .np 2000001 0 0/\J 5= .aG 2000000 0 R/\J 39= .int .i64 (i:Nat)/\J 2000000= .aF 2000000 1 22 (Qy (bW 3000000 R R id))/\J 2000001= .aF 2000001 3 24 [tT R (fs++L.take i).length]/\
   hp 2000000=some ⟨1,22,[],false⟩/\hp 2000001=some ⟨3,24,[],false⟩/\hp 2000002=some ⟨3,51,(du R (fs++L.take i)).map PV.rat,false⟩/\hp 900=some ⟨3,51,((fs++L.take i).map (·.1)).map PV.rat,false⟩/\
   ∀r,r<R->hp (3000000+r)=some ⟨3,51,Qo PV.rat (eQ N (L.take i) r) R,false⟩) L.length ?_ ?_
  ·refine⟨0,rfl,by omega,?_⟩
   refine Sz9 j2 j3 j5 jg jb h0 h1 h2 h9 ?_
   simp only[Kam]
   exact⟨trivial,rfl,trivial,trivial,trivial,fU⟩
  rintro _ J1 g ⟨i,rfl,hi,i2,i3,i5,i39,ig,ib,g0,g1,g2,g9,Kk⟩
  refine Sz1 i39 ?_
  refine Qa (fun pg=> ?_) (fun pg=> ?_)
  ·have ao:i<L.length:=by omega
   have aW:L.take (i+1)=L.take i++[L[i]]:=Kak ao
   have uk:=jn.2.1 _ (Kai ao)
   have Ch:=jn.2.2 i hi
   have gP:(fs++L.take i).length<=200:=by
    rw[Kax,KaI];omega
   have Cx:=tg R (fs++L.take i)
   generalize hf:L[i]=f at *
   have fD:=IG N (L.take i) f
   have Cz:=IH R (fs++L.take i) f
   have Cn:fs++L.take (i+1)=(fs++L.take i)++[f]:=by rw[aW,<-List.append_assoc]
   rw[<-aW]at fD
   generalize hT:fs++L.take i=T at *
   generalize hZ:eQ N (L.take i)=Z at *
   have Up:T.length*R<=200*40:=KaY gP df
   have dh:(Qo PV.rat f.2 R).length=R:=fW _ _ _
   refine Sz11 i2 i3 i5 i39 ig ib g0 g1 g2 g9 hf ?_
   rw[Qq (f:=PV.rat) (y:=f.1) (xs:=T.map (·.1)) (ty':=51) (fz:=false) (Tz1 g9) Tz0 Oz (by simp) Oz Oz]
   refine xp i2 i3 i5 i39 ig ib g0 g1 g2 g9 ?_
   rw[Ht (xs:=(du R T).map PV.rat) (Tz1 g2) Oz (by rw[Kap,Cx]) (BF ue) (by rw[dh];omega) (by rw[dh];omega) Oz,dh]
   refine xp i2 i3 i5 i39 ig ib g0 g1 g2 g9 ?_
   obtain⟨g8,z5⟩:∃g8,g8=HB.mk 4 133 [PV.form R f] false:=⟨_,rfl⟩
   refine iz okB [(3,3),(5,5),(9,9),(60,78),(2000000,2000001)] [] (fun q J hp=>∃r,q=R-r/\r<=R/\J 3= .np 2000001 0 0/\J 5= .aG 2000000 0 R/\J 60= .int .i64 (r:Nat)/\J 2000000= .aF 2000000 1 22 (Qy (bW 3000000 R R id))/\J 2000001= .aF 2000001 3 24 [tT R (T.length+1)]/\
    hp 2000000=some ⟨1,22,[],false⟩/\hp 2000001=some ⟨3,24,[],false⟩/\hp 2000002=some ⟨3,51,(du R (T++[f])).map PV.rat,false⟩/\hp 900=some ⟨3,51,((T++[f]).map (·.1)).map PV.rat,false⟩/\hp 8=some g8/\
    ∀r',r'<R->hp (3000000+r')=some ⟨3,51,Qo PV.rat (if r'<r then cA Z f r' else Z r') R,false⟩) R ?_ ?_
   ·refine⟨0,rfl,by omega,?_⟩
    refine xp i2 i3 i5 i39 ig ib g0 g1 g2 g9 ?_
    refine⟨rfl,?_,?_,?_,z5.symm,fun r' cQ=> ?_⟩
    ·have e1:T.length*R+R=(T.length+1)*R:=by rw[KaJ,KcK]
     rw[e1]
    ·rw[Cz,Kbo,uV]
    ·simp
    ·rw[if_neg Oz];exact Kk r' cQ
   rintro _ J2 e ⟨r,rfl,hr,k3,k5,Ak,kg,kb,e0,e1,e2,e9,e8,Kh⟩
   refine Sz1 Ak ?_
   refine Qa (fun qh=> ?_) (fun qh=> ?_)
   ·have cQ:r<R:=by omega
    have er:=Kh r cQ
    rw[if_neg (KcS r)]at er
    simp+decide (disch:=first|omega|rfl|(simp+decide only[go_sem,k3,k5,Ak,kg,kb,e0,e1,e2,e9,e8,z5,er,id]<;>rfl)|fail) only[go_sem,k3,k5,Ak,kg,kb,e0,e1,e2,e9,e8,z5,er,id]
    have hm:=eX f.1 (f.2 r)
    have j8:=uk.2 r cQ
    refine Qb hP (nL (a:=f.1) (b:=f.2 r) (k:=K) uk.1 j8 Oz) ?_
    simp+decide (disch:=first|omega|rfl|(simp+decide only[go_sem,k3,k5,Ak,kg,kb,e0,e1,e2,e9,e8,z5,er,id]<;>rfl)|fail) only[go_sem,k3,k5,Ak,kg,kb,e0,e1,e2,e9,e8,z5,er,id]
    have sub:=XU (w:=R) (x:=Z r) (y:=f.2) (c:=f.1*f.2 r) (ty1:=51) (k:=2*K) ue Oz (fun c hc=>by have:=Ch r cQ c hc;omega) (fun c hc=>by have:=uk.2 c hc;omega) Oz Oz
    refine ahH hP sub er rfl (BF ue) (by simp[bE];omega) Tz0 (fun γ aj=>by simpa[PV.refs,PV.aQ]using aj) (by simp) ?_
    rintro _ xs _ ⟨rfl,rfl⟩
    refine Sz1 Ak ?_
    refine fG (R-(r+1)) Oz ⟨r+1,rfl,by omega,?_⟩
    refine Sz9 k3 k5 kg kb e0 e1 e2 e9 e8 ?_
    refine⟨z5,fun r' jt=> ?_⟩
    by_cases e3:r'=r
    ·subst e3
     rw[if_pos rfl,if_pos Oz]
     rfl
    ·rw[if_neg e3,Kh r' jt]
     by_cases e4:r'<r
     ·rw[if_pos e4,if_pos Oz]
     ·rw[if_neg e4,if_neg Oz]
   ·have GH:r=R:=by omega
    subst GH
    rw[mB]
    rotate_left
    ·decide
    refine Sz1 i39 ?_
    refine fG (L.length-(i+1)) Oz ⟨i+1,rfl,by omega,?_⟩
    rw[Cn,fD]
    refine Sz9 i2 k3 k5 kg kb e0 e1 e2 e9 ?_
    rw[Kax]
    exact⟨rfl,rfl,fun r' cQ=>by rw[Kh r' cQ,if_pos cQ]⟩
  ·have CB:i=L.length:=by omega
   subst CB
   rw[KaH]at i2 ib g2 g9 Kk
   simp (disch:=decide) only[mB,oC,eP,oD]
   refine Sz1 uG ?_
   refine fG (2*R-(k+1)) Oz ⟨k+1,rfl,by omega,?_⟩
   rw[gl,oc]
   refine Sz9 i2 i3 i5 ig ib g0 g1 g2 g9 ?_
   exact Kk
 ·have Gr:k=2*R:=by omega
  subst Gr
  refine Sz9 j2 j3 j5 jg jb h0 h1 h2 h9 ?_
  have qj:=tg R (Qv R M (2*R)).2
  have pk:(du R (Qv R M (2*R)).2).map PV.rat=(du R (Qv R M (2*R)).2).map PV.rat:=rfl
  refine Fq 82 2 [2000002] (p:=tT R (Qv R M (2*R)).2.length) Tz0 (D:=PV.bO (Qv R M (2*R)).2.length R (du R (Qv R M (2*R)).2)) ?_ ?_ rfl ?_
  ·intro c hc
   simp only[KaG,Kb7,or_false]at hc
   rcases hc with rfl|rfl|rfl
   ·trivial
   ·trivial
   ·simp only[pG,aP];simp
  ·show PV.agg [_,_,fO _ h 2 (.aB 2000002 0 _)]=_
   simp only[fO,h2,Ka6]
   rw[Kac (by rw[Kap,qj];omega)]
  refine J8 j2 j3 jb h1 h9 ?_
  refine Ox (akr (γ:=2000001) (e:=3) (ty:=24) (xs:=[PV.bO (Qv R M (2*R)).2.length R (du R (Qv R M (2*R)).2)]) 3 Tz0 (Tzr1 j3) rfl (fun x hx=>by rw[KaB.1 hx];exact⟨rfl,rfl,fun c hc=>by
   simp only[PV.aU,PV.cells,KaG,Kb7,or_false]at hc
   rcases hc with rfl|rfl|rfl<;>rfl⟩)) ?_
  refine HD ?_
  refine qc h9 ?_
  rw[Kac (by simp)]
  exact kU rfl rfl rfl rfl (Qn _) (Qn _) (Qn _)
structure Smd(n v:Nat)(e:Nat)(l:List a9)(p:List Tm):Prop where
 q:p=l.map a9.tm
 eq:PV.lG l=PV.aM p
 ml:∀t∈p,t.2.length<=v
 va:pJ p
 b:PB 5 e p
 ln:p.length<=n
theorem aaA{l:List a9}{k n v e:Nat}(hb:∀t∈l,RB k t)(h:vp n v e l=true):Smd n v e l (l.map a9.tm):=by
 simp only[vp,Kar,decide_eq_true_eq,Kas]at h
 obtain⟨h1,h2,h3⟩:=h
 obtain⟨e1,e2⟩:=Eo hb h3
 refine⟨rfl,e1,fun t ht=> ?_,e2,fun t ht=> ?_,by simpa using h1⟩
 rotate_left
 ·obtain⟨x,hx,rfl⟩:=Kau.1 ht
  have hs:=h2 x hx
  simp only[nu,Kar,decide_eq_true_eq,Kas]at hs
  have hv:=e2.t _ ht
  have hr:=(show Raw 4 x.n x.a x.d from⟨(hb x hx).r.1,(hb x hx).r.2.1,hs.2.1,hs.2.2.1,by omega⟩).rs
  have hm:=MB.sY hv.m
  refine⟨?_,⟨hm.len,hm.lo,fun y hy=>hs.2.2.2 y hy⟩,yG hv.m⟩
  show rs (rv x.n x.a x.d)+1<=5
  omega
 ·obtain⟨x,hx,rfl⟩:=Kau.1 ht
  have hs:=h2 x hx
  simp only[nu,Kar,decide_eq_true_eq,Kas]at hs
  exact hs.1
theorem ach{p:List Tm}{i:Nat}(h:i<p.length):jU (p.take (i+1))=max (jU (p.take i)) (dj p[i].2):=by
 rw[Kak h,jU,List.foldl_append];rfl
theorem HT{p:List Tm}{K E:Nat}(hp:PB K E p)(hE:E<=2^38)(dm:p.length<=2^36):Qd Tryz.prog 43 [PV.aM p] (· = .int .i64 (jU p)):=by
 refine aE Qg Tryz.func43 ai4 fun C hP=> ?_
 refine Sz0 ?_
 refine Ql dq [(3,3),(5,5),(8,17)] [5] (fun n J hp=>∃i,n=p.length-i/\i<=p.length/\J 3= .int .i64 (jU (p.take i))/\J 8= .int .i64 (i:Nat)) p.length ?_ ?_
 ·refine⟨0,rfl,by omega,?_⟩
  refine Sz0 ?_
  simp[jU]
 rintro _ J h ⟨i,rfl,hi,h3,h8⟩
 refine Sz2 h3 h8 ?_
 refine Qa (fun hg=> ?_) (fun hg=> ?_)
 ·have ao:i<p.length:=by omega
  have cJ:=hp.get ao
  have aW:=ach ao
  generalize hx:p[i]=x at *
  have hl:=cJ.m.len
  have hd:=Fk cJ.m
  refine Sz3 h3 h8 hx ?_
  refine Qb hP (HS (a:=x.2) Oz (fun y hy=>⟨cJ.m.lo y hy,by have:=cJ.m.hi y hy;omega⟩)) ?_
  refine Sz3 h3 h8 hx ?_
  refine Qf (p.length-(i+1)) Oz ⟨i+1,rfl,by omega,?_⟩
  rw[aW]
  exact Tz0
 ·obtain rfl:i=p.length:=by omega
  rw[KaH]at h3
  refine Sz1 h3 ?_
  exact Qc rfl rfl
theorem R4{p:List Tm}{E:Nat}(hp:∀t∈p,MB E t.2)(dm:p.length<=2^36):Qd Tryz.prog 44 [PV.aM p] (· =PV.mono (QI p)):=by
 refine aE Qg Tryz.func44 ai5 fun C hP=> ?_
 refine Sz0 ?_
 refine Ql dq [(5,7),(13,34)] [5] (fun n J hp=>∃i,n=p.length-i/\i<=p.length/\J 13= .int .i64 (i:Nat)/\hp 3=some ⟨64,128,[.agg ((ku 64 (gH (p.take i))).map PV.bool)],false⟩) p.length ?_ ?_
 ·refine⟨0,rfl,by omega,?_⟩
  refine Sz0 ?_
  exact⟨rfl,rfl⟩
 rintro _ J h ⟨i,rfl,hi,eB,hh⟩
 refine Sz1 eB ?_
 refine Qa (fun hg=> ?_) (fun hg=> ?_)
 ·have ao:i<p.length:=by omega
  have cJ:=hp _ (Kai ao)
  have aW:=abT ao
  generalize hx:p[i]=x at *
  have pk:=cJ.len
  refine Sz2 eB hx ?_
  refine Ql dq [(6,7),(20,33)] [] (fun n J hp=>∃j,n=x.2.length-j/\j<=x.2.length/\J 20= .int .i64 (j:Nat)/\hp 3=some ⟨64,128,[.agg ((ku 64 (fun v=>gH (p.take i) v||(decide (v<j)&&decide (eN x.2 v≠0)))).map PV.bool)],false⟩) x.2.length ?_ ?_
  ·refine⟨0,rfl,by omega,?_⟩
   refine Sz1 hh ?_
   exact⟨rfl,by simp⟩
  rintro _ J2 h2 ⟨j,rfl,hj,jY,dI⟩
  refine Sz1 jY ?_
  refine Qa (fun eZ=> ?_) (fun eZ=> ?_)
  ·have dw:j<x.2.length:=by omega
   have he:=fw dw
   generalize hy:x.2[j]=y at *
   refine Sz2 jY hy ?_
   refine fV (fun hz=> ?_) (fun hz=> ?_)
   ·refine Sz2 jY hy ?_
    refine Qa (fun _=> ?_) (fun h=>by omega)
    simp+decide (disch:=first|omega|rfl|(simp+decide only[go_sem,jY,hy,dI,O2 (show j<64 by omega),KbG]<;>rfl)|fail) only[go_sem,jY,hy,dI,O2 (show j<64 by omega),KbG]
    refine Qf (x.2.length-(j+1)) Oz ⟨j+1,rfl,by omega,?_⟩
    have kH:=adO (n:=64) (h:=fun v=>gH (p.take i) v||(decide (v<j)&&decide (eN x.2 v≠0))) (g:=fun v=>gH (p.take i) v||(decide (v<j+1)&&decide (eN x.2 v≠0))) (show j<64 by omega) (fun v hv=>by
     by_cases sV:v=j
     ·subst sV
      simp[he,hz]
     ·rw[if_neg sV,decide_eq_decide.2 (show v<j+1↔v<j by omega)])
    rw[<-kH]
    exact Tz0
   ·refine Sz2 jY hy ?_
    refine Qf (x.2.length-(j+1)) Oz ⟨j+1,rfl,by omega,?_⟩
    have hc:=SR (n:=64) (h:=fun v=>gH (p.take i) v||(decide (v<j+1)&&decide (eN x.2 v≠0))) (g:=fun v=>gH (p.take i) v||(decide (v<j)&&decide (eN x.2 v≠0))) (fun v hv=>by
     by_cases sV:v=j
     ·subst sV
      simp[he,Decidable.not_not.1 hz]
     ·show(_||_)=_
      rw[decide_eq_decide.2 (show v<j+1↔v<j by omega)])
    rw[hc]
    exact Tz1 dI
  ·obtain rfl:j=x.2.length:=by omega
   have hc:=SR (n:=64) (h:=gH (p.take (i+1))) (g:=fun v=>gH (p.take i) v||(decide (v<x.2.length)&&decide (eN x.2 v≠0))) (fun v hv=>by
    rw[aW]
    by_cases sV:v<x.2.length
    ·simp[sV]
    ·rw[gW Oz];simp)
   refine Sz2 eB jY ?_
   simp (disch:=decide) only[fX,eP]
   refine Qf (p.length-(i+1)) Oz ⟨i+1,rfl,by omega,?_⟩
   rw[hc]
   exact Tz1 dI
 ·obtain rfl:i=p.length:=by omega
  rw[KaH]at hh
  have GM:=aae (DP 64 (gH p))
  refine Sz3 eB hh GM ?_
  refine iL 8 900 1 3 Oz Tz0 ?_
  refine Ql dq [(8,10),(36,45)] [43,44,900] (fun n J hp=>∃k,n=64-k/\k<=64/\J 8= .ms 900 (tE k (gH p)).length/\J 36= .int .i64 (k:Nat)/\hp 900=some ⟨1,3,pY (tE k (gH p)),false⟩) 64 ?_ ?_
  ·refine⟨0,rfl,by omega,?_⟩
   refine Sz0 ?_
   exact⟨rfl,rfl,rfl⟩
  rintro _ J3 h3 ⟨k,rfl,hk,h8,ri,bR⟩
  have bx:=Wx k (gH p)
  have eO:=XH k (gH p)
  refine Sz2 h8 ri ?_
  refine Qa (fun KS=> ?_) (fun KS=> ?_)
  ·have cf:k<64:=by omega
   have dh:k<(ku 64 (gH p)).length:=by rw[DP];exact cf
   have Vm:=adN dh
   simp+decide (disch:=first|omega|rfl|(simp+decide only[go_sem,h8,ri,NS (DP 64 (gH p)) dh,Vm]<;>rfl)|fail) only[go_sem,h8,ri,NS (DP 64 (gH p)) dh,Vm]
   cases hb:gH p k
   ·rw[if_neg (by simp[hb]),Kam]at eO
    refine Sz2 h8 ri ?_
    refine Qf (64-(k+1)) Oz ⟨k+1,rfl,by omega,?_⟩
    rw[eO]
    exact Tz2 bR h8
   ·rw[if_pos hb]at eO
    refine Sz2 h8 ri ?_
    rw[Qq (f:=fun(x:Int)=> .int .i64 x) (y:=(k:Int)) (xs:=tE k (gH p)) (ty':=3) (fz:=false) (Tz1 bR) cP Oz rfl Oz Oz]
    refine Sz2 h8 ri ?_
    refine Qf (64-(k+1)) Oz ⟨k+1,rfl,by omega,?_⟩
    rw[eO]
    simp+decide (disch:=first|omega|rfl|(simp+decide only[go_sem,Kax]<;>rfl)|fail) only[go_sem,Kax]
  ·obtain rfl:k=64:=by omega
   refine nU h8 bR ?_
   exact Qc (by rw[Kac (by simp)];rfl) rfl
theorem y7{l:List Rat}{k m r c:Nat}(hk:1<=k)(h:∀q∈l,rs q<=k):rs (Qu l m r c)<=k:=by
 unfold Qu
 rw[Kad]
 cases hq:l[r*m+c]? with
 |none=>have:=sj;show rs 0<=k;omega
 |some q=>exact h q (Kaj hq)
def Tx:ay:=⟨52,[.cell 2 3 true,.t 3],Zr (gZ 1 24<|
 Zo (.alloc 2 3 24 (.agg [Zz 0,Zz 0,.al]))<|
 Yl 3 0)<| .seq (Zr (dG 7 3 1 52<|
 Zu 9 8 .nil)<| .cond (.t 9) (Zr (Zo (.eA 10 [Zz 0,Zz 0,.al] [])<|
 Zs 3 2 10<|
 Yl 3 1) .ret) .skip)<|Zr (eS 11 1 1 0 1<|
 Yf 15 2 1<|
 Zn 17 16<|
 .br (xv 18 17<|
 .wk<|Zo (.eA 19 [Zz 0,Zz 0,.al] [(0,1,.t 12),(1,1,.t 14),(2,1,.t 18)])<|
 qd 4<|
 .wk<| .wk<|jk 3 19) (qd 4<|
 .wk<| .wk<|xv 18 17<|
 .wk<|Zo (.eA 19 [Zz 0,Zz 0,.al] [(0,1,.t 12),(1,1,.t 14),(2,1,.t 18)])<|
 jk 3 19))<| .seq (Zr (Yf 20 0 1<|
 Yl 22 0)<| .block 0<| .loop<|Zr (Ys 23 22 21)<| .seq (.cond (.t 23) .skip (.exit 0))<| .seq (.block 1<|Zr (YW 24 22 5)<|Zr (Yf 25 1 1<|
 Yl 27 0)<| .block 2<| .loop<|Zr (Ys 28 27 26)<| .seq (.cond (.t 28) .skip (.exit 2))<| .seq (.block 3<|Zr (YW 29 27 6)<| .rg (vI 30 4 6 0 1 5<|
 cX 37 35 36<|
 vI 38 1 5 1 1 6<|
 cX 45 43 44<|
 YI 46 3 39 45<|
 Zi 48 3 31 37<|
 gK 3 48 47))<| .rg (Yw 49 27 27))<| .rg (Yw 50 22 22))<|Zr (Zh 51 3 4<|
 .wk<|Zs 3 2 51<|
 Yl 3 0) .ret⟩
theorem ahO:Qe Tryz.prog Tryz.f153=some Tx.strip:=by kernel_rfl
def Dc(l:List Rat)(R m:Nat):Nat->Rat:=fun j=>Qu l m (j%R) (j/R)
def pH(l:List Rat)(R m:Nat):List Rat:=(List.range (m*R)).map (Dc l R m)
theorem Ed(l:List Rat)(R m:Nat):(pH l R m).length=m*R:=by simp[pH]
theorem ahP{R i i' k k':Nat}(hi:i<R)(ao:i'<R)(h:k'*R+i'=k*R+i):k'=k/\i'=i:=by
 have h1:(k'*R+i')/R=(k*R+i)/R:=by rw[h]
 have hR:0<R:=by omega
 rw[KbO,Kcn _ _ hR,KbO (k*R),Kcn _ _ hR,KbY ao,KbY hi]at h1
 have h2:k'=k:=by omega
 subst h2
 exact⟨rfl,by omega⟩
theorem Fs{R m i k:Nat}(hi:i<R)(hk:k<m):k*R+i<R*m:=by
 have h1:(k+1)*R<=m*R:=Kah _ hk
 rw[KaJ,KcK,KaR m R]at h1
 omega
theorem akw{l:List Rat}{R m i k:Nat}(hi:i<R):Dc l R m (k*R+i)=Qu l m i k:=by
 have hR:0<R:=by omega
 unfold Dc
 rw[KbO,KcU,KaO hi,Kcn _ _ hR,KbY hi,Kbb]
theorem XV{R m:Nat}{l:List Rat}(hl:l.length=R*m)(df:R<=40)(hm:m<=40)(hs:∀q∈l,rs q<=1048576):Qd Tryz.prog 153 [PV.bO R m l] (· = .aI [PV.bO m R (pH l R m),.int .i64 0]):=by
 have vU:R*m<=40*40:=KaY df hm
 have kF:m*R=R*m:=KaR _ _
 refine rX Qg Tryz.func153 rfl ahO Nz fun C hP=> ?_;simp only[Tx];refine ic ?_
 refine Sz0 ?_
 refine Qb hP (Ec hl df hm hs) ?_
 refine Sz1 hl ?_
 have hz:([.agg [.int .i64 0,.int .i64 0,.al]]:List PV)≠[]:=by simp
 have Ah:∀x∈([.agg [.int .i64 0,.int .i64 0,.al]]:List PV),x.aU=x.cells:=fun x hx=>by rw[KaB.1 hx];rfl
 have U':b6 (ju 18 2000002) (.aF 2000001 3 24 [.agg [.int .i64 0,.int .i64 0,.al]])= .aF 2000001 3 24 [.agg [.int .i64 0,.int .i64 0,.al]]:=by
  simp[b6,ju,PV.aU,PV.cells,dy,fA,nF,PV.nr]
 refine jO ?_ ?_
 case' refine_1=>
  refine Sz1 hl ?_
  refine et (qG 18 2000002 cP Oz rfl Oz) ?_
  refine Sz1 hl ?_
  refine et (qG 4 2000001 cP Oz rfl Oz) ?_
  refine Sz1 hl ?_
  refine et (xd (γ:=2000001) (e:=3) (ty:=24) (fz:=false) Tz0 hz Oz Ah) ?_
  simp+decide (disch:=try exact D1 hl) only[go_sem,hl]
 case' refine_2=>
  refine Sz1 hl ?_
  refine et (qG 4 2000001 cP Oz rfl Oz) ?_
  refine Sz1 hl ?_
  refine et (xd (γ:=2000001) (e:=3) (ty:=24) (fz:=false) Tz0 hz Oz Ah) ?_
  refine Sz1 hl ?_
  refine et (qG 18 2000002 cP Oz rfl Oz) ?_
  simp+decide (disch:=try exact D2 hl U') only[go_sem,hl,U']
 all_goals
  refine iz okB [(4,6),(22,50),(2000001,2000001)] [] (fun q J hp=>∃i xs,q=R-i/\i<=R/\J 4= .np 2000001 0 0/\J 22= .int .i64 (i:Nat)/\J 2000001= .aF 2000001 3 24 [.bm [.int .i64 (m:Nat),.int .i64 (R:Nat),.aB 2000002 0 (R*m)]]/\
   hp 1=some ⟨3,24,[PV.bO R m l],false⟩/\hp 2=some ⟨3,24,[.agg [.int .i64 0,.int .i64 0,.al]],false⟩/\hp 2000001=some ⟨3,24,[],false⟩/\hp 2000002=some ⟨3,51,xs,false⟩/\xs.length=R*m/\∀i' k',i'<i->k'<m->xs[k'*R+i']? =some (PV.rat (Qu l m i' k'))) R ?_ ?_
  ·refine⟨0,List.replicate (R*m) (.agg [.bool false,.al,.al]),rfl,by omega,?_⟩
   refine Sz0 ?_
   exact⟨rfl,by simp,fun i' k' h=>by omega⟩
  rintro _ J h ⟨i,xs,rfl,hi,j4,GW,jb,h1,h2,hb,hx,dN,pC⟩
  refine Sz1 GW ?_
  refine Qa (fun hc=> ?_) (fun hc=> ?_)
  ·have ao:i<R:=by omega
   refine Sz7 j4 GW jb h1 h2 hb hx ?_
   refine iz okB [(4,4),(6,6),(27,49),(2000001,2000001)] [] (fun q J hp=>∃k ys,q=m-k/\k<=m/\J 4= .np 2000001 0 0/\J 27= .int .i64 (k:Nat)/\J 2000001= .aF 2000001 3 24 [.bm [.int .i64 (m:Nat),.int .i64 (R:Nat),.aB 2000002 0 (R*m)]]/\
    hp 1=some ⟨3,24,[PV.bO R m l],false⟩/\hp 2=some ⟨3,24,[.agg [.int .i64 0,.int .i64 0,.al]],false⟩/\hp 2000001=some ⟨3,24,[],false⟩/\hp 2000002=some ⟨3,51,ys,false⟩/\ys.length=R*m/\∀i' k',i'<R->(i'<i∨(i'=i/\k'<k))->k'<m->ys[k'*R+i']? =some (PV.rat (Qu l m i' k'))) m ?_ ?_
   ·refine⟨0,xs,rfl,by omega,?_⟩
    refine Sz6 j4 jb h1 h2 hb hx ?_
    exact⟨rfl,dN,fun i' k' q1 q2 q3=>pC i' k' Oz q3⟩
   rintro _ J2 g ⟨k,ys,rfl,hk,i4,i27,ib,g1,g2,gb,gx,TY,TZ⟩
   refine Sz1 i27 ?_
   refine Qa (fun hck=> ?_) (fun hck=> ?_)
   ·have cf:k<m:=by omega
    have e1:(k:Int)*(R:Int)=((k*R:Nat):Int):=by rw[KbX]
    have e2:(i:Int)*(m:Int)=((i*m:Nat):Int):=by rw[KbX]
    have b1:=Fs ao cf
    have b2:i*m+k<R*m:=by have:=Fs cf ao;rw[KaR m R]at this;exact this
    have b3:k*R<=R*m:=by omega
    have b4:i*m<=R*m:=by omega
    have pe:l[i*m+k]=Qu l m i k:=by
     unfold Qu
     rw[Kad,Kag Oz];rfl
    refine Sz11 i4 i27 ib g1 g2 gb gx e1 e2 GW pe ?_
    rw[wQ (n:=3) (xs:=ys) (v:=PV.rat (Qu l m i k)) Oz rfl rfl]
    refine Sz2 i4 i27 ?_
    refine fG (m-(k+1)) Oz ⟨k+1,ys.set (k*R+i) (PV.rat (Qu l m i k)),rfl,by omega,?_⟩
    refine Sz5 i4 ib g1 g2 gb ?_
    refine⟨by simp[TY],fun i' k' q1 q2 q3=> ?_⟩
    rw[KcT]
    by_cases e:k*R+i=k'*R+i'
    ·obtain⟨rfl,rfl⟩:=ahP ao q1 e.symm
     rw[if_pos rfl,if_pos Oz]
    ·rw[if_neg e]
     refine TZ i' k' q1 ?_ q3
     rcases q2 with q2|⟨q2,q4⟩
     ·exact .inl q2
     ·refine .inr ⟨q2,?_⟩
      have:k'≠k:=fun h=>e (by rw[h,q2])
      omega
   ·have hkm:k=m:=by omega
    subst hkm
    refine Sz1 GW ?_
    simp (disch:=decide) only[mB,oC,eP,oD]
    refine fG (R-(i+1)) Oz ⟨i+1,ys,rfl,by omega,?_⟩
    refine Sz6 i4 ib g1 g2 gb gx ?_
    exact⟨TY,fun i' k' q1 q2=>TZ i' k' Oz Oz q2⟩
  ·obtain rfl:i=R:=by omega
   have fm:xs=(pH l i m).map PV.rat:=by
    refine Kbg (by rw[Kap,Ed];omega) fun j q1 q2=> ?_
    have sL:0<i:=by
     refine Kba fun h=> ?_
     subst h;omega
    have hj:j/i<m:=by
     rw[Kbc sL,kF];omega
    have hd:=Kbl j i
    have xY:=Kbt j sL
    have:=pC (j%i) (j/i) xY hj
    rw[KaR,hd,Kag q1]at this
    rw[KbI this,KbB]
    simp[pH,Dc]
   rw[fm]at hx
   refine Sz5 j4 jb h2 hb hx ?_
   refine Fq 51 2 [2000002] (p:= .bm [.int .i64 (m:Nat),.int .i64 (i:Nat),.aB 2000002 0 (i*m)]) Tz0 (D:=PV.bO m i (pH l i m)) ?_ ?_ rfl ?_
   ·intro c hc
    simp only[KaG,Kb7,or_false]at hc
    rcases hc with rfl|rfl|rfl
    ·trivial
    ·trivial
    ·simp only[pG,aP];simp
   ·show PV.agg [_,_,fO _ h 2 (.aB 2000002 0 _)]=_
    simp only[fO,hx,Ka6]
    rw[Kac (by rw[Kap,Ed];omega)]
   refine J8 j4 jb h2 hb hx ?_
   refine tp (nH ?_)
   refine qc h2 ?_
   exact gI rfl rfl rfl (Qn _) (Qn _)
theorem Tn{R m i k:Nat}{l:List Rat}(hl:l.length=R*m)(hR:R<=40)(hm:m<=40)(hi:i<R)(hk:k<m)(hs:∀q∈l,rs q<=1048576):Qd Tryz.prog 201 [PV.bO R m l,.int .i64 i,.int .i64 k] (· =PV.rat (Qu l m i k)):=by
 have vU:R*m<=40*40:=KaY hR hm
 have h:=ahF (R:=R) (m:=m) (i:=i) (k:=k) (l:=l.map qR) ⟨by rw[Kap];omega,qb.of hs⟩ (by rw[Kap];exact hl) hi hk
 rw[<-vg]at h
 have b2:i*m+k<R*m:=by have:=Fs hk hi;rw[KaR m R]at this;exact this
 have e:PV.rq ((l.map qR).getD (i*m+k) default)=PV.rat (Qu l m i k):=by
  unfold Qu
  rw[Kad,Kad,Kav,Kag Oz]
  rfl
 rw[e]at h
 exact h
abbrev PV.gR(bs:List (List Int)):PV:= .sl 1 (bs.map PV.mono)
theorem aci{a b:List Rat}{R m:Nat}(ha:a.length=R*m)(hb:b.length=R*m)(h:∀r,r<R->∀c,c<m->Qu a m r c=Qu b m r c):a=b:=by
 refine Kbg Oz fun j h1 h2=> ?_
 rcases Nat.eq_zero_or_pos m with h0|h0
 ·subst h0;simp at ha;omega
 have hr:j/m<R:=(Kbc h0).2 Oz
 have hc:=Kbt j h0
 have e:=h _ hr _ hc
 have e2:j/m*m+j%m=j:=by rw[KaR];exact Kbl j m
 unfold Qu at e
 rw[e2]at e
 simpa[h1,h2]using e
theorem Pn{l:List Rat}{R m r c:Nat}(hr:r<m)(hc:c<R):Qu (pH l R m) R r c=Qu l m c r:=by
 have h:=Fs hc hr
 rw[KaR R m]at h
 have e:Qu (pH l R m) R r c=Dc l R m (r*R+c):=by
  unfold Qu pH
  simp[h]
 rw[e,akw hc]
theorem P9{l:List Rat}{R:Nat}(hl:l.length=R*R):l=pH l R R↔mS (Qu l R) R:=by
 constructor
 ·intro h i hi k hk
  have:=Pn (l:=l) (R:=R) (m:=R) (r:=i) (c:=k) hi Oz
  rwa[<-h]at this
 ·intro h
  refine aci hl (Ed l R R) fun r hr c hc=> ?_
  rw[Pn hr hc]
  rcases Nat.lt_trichotomy r c with e|e|e
  ·exact(h c hc r e).symm
  ·subst e;rfl
  ·exact h r hr c e
def tY(bs:List (List Int))(r c:Int)(l:List RQ):Int:=
 if iO r c l=true then(if bs.all cD=true then(if r=bs.length/\c=bs.length/\mS (Qu (l.map iY) bs.length) bs.length then 0 else 16)else 1)else 1
theorem alk{R m:Nat}{la:List Rat}(hl:la.length=R*m):t' R m m R (la.map qR) ((pH la R m).map qR)=true↔R=m/\mS (Qu la m) m:=by
 unfold t'
 have UN:=Ss
 rw[decide_eq_true_eq,UN,UN]
 constructor
 ·intro⟨h1,_,h3⟩
  have:R=m:=by omega
  subst this
  exact⟨rfl,(P9 hl).1 h3⟩
 ·intro⟨h1,h2⟩
  subst h1
  exact⟨rfl,rfl,(P9 hl).2 h2⟩
theorem alm{r c:Int}{l:List RQ}(hl:nK l)(h:iO r c l=true):PV.rQ l=PV.bU (l.map iY):=by
 unfold iO at h
 rw[Kar]at h
 exact PY hl h.2
theorem II{bs:List (List Int)}{r c:Int}{l:List RQ}(sH:bs.length<2^40)(hb:∀b∈bs,b.length<2^40)(hl:nK l):Qd Tryz.prog 90 [PV.gR bs,PV.lF r c l] (· = .int .i64 (tY bs r c l)):=by
 have hr:=Pg (r:=r) (c:=c) hl
 refine aE Qg Tryz.func90 aj0 fun C hP=> ?_
 refine Sz0 ?_
 refine Qb hP hr ?_
 cases o1:iO r c l
 ·refine Sz0 ?_
  exact Qc (by rw[tY,if_neg (by rw[o1];decide)]) rfl
 obtain⟨R,m,la,rfl,rfl,hR,hm,bG,hlen,asD⟩:=afG hl o1
 have hs:∀q∈la,rs q<=1048576:=fun q hq=>by
  rw[bG]at hq
  obtain⟨x,hx,rfl⟩:=Kau.1 hq
  exact(hl.2 x hx).rs
 have cR:∀q∈pH la R m,rs q<=1048576:=fun q hq=>by
  obtain⟨j,_,rfl⟩:=Kau.1 hq
  exact y7 Oz hs
 have ht:=XV hlen hR hm hs
 have vU:R*m<=40*40:=KaY hR hm
 have uz:=Ed la R m
 rw[KaR]at uz
 have heq:=ahG (r:=R) (c:=m) (r':=m) (c':=R) (qb.of hs) (qb.of cR) Oz (by rw[Kap];omega) (by rw[Kap];omega)
 rw[<-vg,<-vg]at heq
 have ma:=alk hlen
 rw[alm hl o1,<-bG]
 refine Sz0 ?_
 refine Ql okB [(4,4),(6,6),(14,21)] [] (fun q J hp=>∃i,q=bs.length-i/\i<=bs.length/\(∀j (h:j<bs.length),j<i->cD bs[j]=true)/\J 14= .int .i64 (i:Nat)/\hp 3=some ⟨3,24,[PV.bO R m la],false⟩) bs.length ?_ ?_
 ·refine⟨0,rfl,by omega,by omega,?_⟩
  refine Sz0 ?_
  rfl
 rintro _ J h' ⟨i,rfl,hi,h1,h2,b3⟩
 refine Sz1 h2 ?_
 refine Qa (fun hg=> ?_) (fun hg=> ?_)
 ·have ao:i<bs.length:=by omega
  have dn:=Kai ao
  have hbx:=hb _ dn
  have fj:cD bs[i]=true->∀j (h:j<bs.length),j<i+1->cD bs[j]=true:=fun h j hj im=>by
   by_cases e:j=i
   ·subst e;exact h
   ·exact h1 j hj Oz
  generalize hx:bs[i]=x at *
  refine Sz2 h2 hx ?_
  refine Qb hP (Ay (show x.length<2^42 by omega)) ?_
  cases hs:cD x
  ·refine Sz0 ?_
   refine Qc ?_ rfl
   have:bs.all cD=false:=by
    rw[Kca];exact⟨x,dn,by simp[hs]⟩
   rw[tY,if_pos o1,if_neg (by rw[this];decide)]
  refine Sz1 h2 ?_
  refine Qf (bs.length-(i+1)) Oz ⟨i+1,rfl,by omega,fj hs,?_⟩
  exact Tz1 b3
 obtain rfl:i=bs.length:=by omega
 have e3:bs.all cD=true:=by
  rw[Kas]
  intro t ht
  obtain⟨j,hj,rfl⟩:=KaT ht
  exact h1 j hj hj
 have vY:tY bs R m l=if(R:Int)=bs.length/\(m:Int)=bs.length/\mS (Qu la bs.length) bs.length then 0 else 16:=by rw[tY,if_pos o1,if_pos e3,<-bG]
 refine Sz1 b3 ?_
 refine Qb hP ht ?_
 refine Sz1 b3 ?_
 refine Qx (fun h3=> ?_) (fun h3=> ?_)
 ·refine Sz0 ?_
  exact Qc (by rw[vY,if_neg Oz]) rfl
 refine Sz1 b3 ?_
 refine Qx (fun h4=> ?_) (fun h4=> ?_)
 ·refine Sz0 ?_
  exact Qc (by rw[vY,if_neg Oz]) rfl
 refine Sz1 b3 ?_
 refine Qb hP heq ?_
 cases hq:t' R m m R (la.map qR) ((pH la R m).map qR)
 ·refine Sz0 ?_
  refine Qc ?_ rfl
  rw[vY,if_neg]
  intro⟨g1,g2,g3⟩
  have:R=m:=by omega
  have K2:m=bs.length:=by omega
  rw[<-K2]at g3
  rw[ma.2 ⟨this,g3⟩]at hq
  cases hq
 ·refine Sz0 ?_
  obtain⟨g1,g2⟩:=ma.1 hq
  have K2:m=bs.length:=by omega
  exact Qc (by rw[vY,if_pos ⟨by omega,by omega,by rw[<-K2];exact g2⟩]) rfl
end Go.Proofs.YtkoclfmjlolkhaaGreat
namespace Go.FW
open Go
def Sym(R:Nat)(M:MF):Prop:=∀i,i<R->∀k,k<R->M i k=M k i
def zr(R:Nat)(M:MF)(i:Nat):Bool:=(List.range R).all fun c=>decide (M i c=0)
theorem r8{R:Nat}{M:MF}{i:Nat}:zr R M i=true↔∀c,c<R->M i c=0:=by
 unfold zr
 rw[Kas]
 exact⟨fun h c hc=>of_decide_eq_true (h c (Kbz.2 hc)),fun h c hc=>decide_eq_true (h c (Kbz.1 hc))⟩
def oZ(p:Nat->Bool):Nat->Nat
 |0=>0
 |n+1=>oZ p n+if p n then 1 else 0
theorem FG(p:Nat->Bool):∀n,oZ p n<=n
 |0=>Kaf _
 |n+1=>by have:=FG p n;simp only[oZ];split<;>omega
theorem N6{p q:Nat->Bool}:∀n,(∀i,i<n->q i=true->p i=true)->oZ q n<=oZ p n
 |0,_=>Kaf _
 |n+1,h=>by
  have:=N6 n fun i hi=>h i (by omega)
  have h2:=h n (by omega)
  simp only[oZ]
  cases hq:q n
  ·cases p n<;>simp<;>omega
  ·rw[h2 hq];simp;omega
theorem FH{p q:Nat->Bool}{a:Nat}(ha:p a=true)(kB:q a=false):∀n,a<n->(∀i,i<n->q i=true->p i=true)->oZ q n+1<=oZ p n
 |0,h,_=>by omega
 | n+1,h1,h=>by
  have h2:=h n (by omega)
  simp only[oZ]
  by_cases e:a=n
  ·subst e
   have:=N6 a fun i hi=>h i (by omega)
   rw[ha,kB];simp;omega
  ·have:=FH ha kB n (by omega) fun i hi=>h i (by omega)
   cases hq:q n
   ·cases p n<;>simp<;>omega
   ·rw[h2 hq];simp;omega
theorem Po{p q:Nat->Bool}{a b:Nat}(uf:a<b)(ha:p a=true)(kB:q a=false)(hb:p b=true)(aw:q b=false):∀n,b<n->(∀i,i<n->q i=true->p i=true)->oZ q n+2<=oZ p n
 |0,h,_=>by omega
 | n+1,h1,h=>by
  have h2:=h n (by omega)
  simp only[oZ]
  by_cases e:b=n
  ·subst e
   have:=FH ha kB b uf fun i hi=>h i (by omega)
   rw[hb,aw];simp;omega
  ·have:=Po uf ha kB hb aw n (by omega) fun i hi=>h i (by omega)
   cases hq:q n
   ·cases p n<;>simp<;>omega
   ·rw[h2 hq];simp;omega
def ns(R:Nat)(M:MF):Nat:=oZ (fun i=> !zr R M i) R
theorem mz{R:Nat}{M:MF}{f:LF}(h:Sym R M):Sym R (cA M f):=fun i hi k hk=>by
 unfold cA
 rw[h i hi k hk,Rat.mul_assoc,Rat.mul_assoc,Rat.mul_comm (f.2 i)]
theorem FI{p:Nat->Bool}:∀f i,mR p f i<i+f->p (mR p f i)=true
 |0,i,h=>by simp[mR]at h
 |f+1,i,h=>by
  unfold mR at h⊢
  split
  ·rename_i hp;exact hp
  ·rename_i hp;rw[if_neg hp]at h;exact FI f (i+1) (by omega)
theorem FJ{p:Nat->Bool}:∀f i j,i<=j->j<mR p f i->p j=false
 |0,i,j,h1,h2=>by simp[mR]at h2;omega
 | f+1,i,j,h1,h2=>by
  unfold mR at h2
  split at h2
  ·omega
  ·rename_i hp
   by_cases e:j=i
   ·subst e;simpa using hp
   ·exact FJ f (i+1) j (by omega) h2
theorem Be{M:MF}{R:Nat}(h:dA M R<R):M (dA M R) (dA M R)≠0:=by
 have:=FI (p:=fun i=>decide (M i i≠0)) R 0 (by unfold dA at h;omega)
 exact of_decide_eq_true this
theorem Js{M:MF}{R:Nat}(h:¬dA M R<R):∀i,i<R->M i i=0:=fun i hi=>by
 have:=FJ (p:=fun i=>decide (M i i≠0)) R 0 i (Kbv _) (by unfold dA at h;omega)
 have:=of_decide_eq_false this
 exact Classical.not_not.1 this
theorem y8{M:MF}{R i:Nat}(h:dR M R i<R):M i (dR M R i)≠0:=by
 have:=FI (p:=fun k=>decide (M i k≠0)) R 0 (by unfold dR at h;omega)
 exact of_decide_eq_true this
theorem ahQ{M:MF}{R i:Nat}(h:¬dR M R i<R):∀k,k<R->M i k=0:=fun k hk=>by
 have:=FJ (p:=fun k=>decide (M i k≠0)) R 0 k (Kbv _) (by unfold dR at h;omega)
 exact Classical.not_not.1 (of_decide_eq_false this)
theorem xa{M:MF}{R:Nat}(h:ck M R<R):dR M R (ck M R)<R:=by
 have:=FI (p:=fun i=>decide (dR M R i<R)) R 0 (by unfold ck at h;omega)
 exact of_decide_eq_true this
theorem Ii{M:MF}{R j:Nat}(h:j<ck M R):∀k,k<R->M j k=0:=by
 have:=FJ (p:=fun i=>decide (dR M R i<R)) R 0 j (Kbv _) h
 exact ahQ (of_decide_eq_false this)
theorem acj{M:MF}{R:Nat}(h:bS M R=[]):∀i,i<R->∀k,k<R->M i k=0:=by
 unfold bS at h
 split at h
 ·cases h
 ·split at h
  ·cases h
  ·rename_i h2
   exact fun i hi=>Ii (by omega)
theorem aaB{M:MF}{R:Nat}(h:∀i,i<R->∀k,k<R->M i k=0):bS M R=[]:=by
 unfold bS
 split
 ·rename_i h1;exact absurd (h _ h1 _ h1) (Be h1)
 ·split
  ·rename_i h2;exact absurd (h _ h2 _ (xa h2)) (y8 (xa h2))
  ·rfl
theorem Ds{M:MF}{f:LF}{i c:Nat}(h:f.2 i=0):cA M f i c=M i c:=by
 unfold cA
 rw[h,Rat.mul_zero,KcB,KcI,Rat.neg_zero,Rat.add_zero]
theorem Et{R B:Nat}{M:MF}(hs:Sym R M)(hB:3<=B)(hM:eV B R R M)(aH:bS M R≠[]):
  ∃s,1<=s/\s<=2/\Sym R (eQ M (bS M R))/\ns R (eQ M (bS M R))+s<=ns R M/\(∀f∈bS M R,rs f.1<=7*B/\∀c,c<R->rs (f.2 c)<=7*B)/\∀j,eV (B*7^s) R R (eQ M ((bS M R).take j)):=by
 have q1:=lO
 unfold bS at aH⊢
 by_cases hd:dA M R<R
 ·rw [if_pos hd]at aH⊢
  have h0:=Be hd
  generalize dA M R=i at *
  obtain⟨f,hf⟩:∃f:LF,(M i i,fu (fun _=>0) (M i) (1/M i i))=f:=⟨_,rfl⟩
  have f1:f.1=M i i:=by rw[<-hf]
  have f2:∀c,f.2 c=1/M i i*M i c:=fun c=>by rw[<-hf];exact Rat.zero_add _
  have bi:=hM i hd i hd
  have b2:∀c,c<R->rs (f.2 c)<=2*B+1:=fun c hc=>by
   rw[f2]
   have:=eX (1/M i i) (M i c)
   have:=xe (a:=1) h0
   have:=hM i hd c hc
   omega
  have rD:eQ M [f]=cA M f:=rfl
  rw[hf,rD]
  refine⟨1,Kaf _,by omega,mz hs,?_,?_,?_⟩
  ·refine FH (a:=i) ?_ ?_ R hd fun j hj hz=> ?_
   ·simp only[Kcx]
    rw[<-Bool.not_eq_true,r8]
    exact fun h=>h0 (h i hd)
   ·simp only[Bool.not_eq_false']
    rw[r8]
    intro c hc
    unfold cA
    rw[f1,f2,f2,KbA,Kck,Kce _ h0,Rat.mul_one,<-Rat.mul_assoc,Rat.mul_inv_cancel _ h0,Kck,Rat.sub_self]
   ·simp only[Kcx]at hz⊢
    cases hq:zr R M j
    ·rfl
    ·exfalso
     rw[r8]at hq
     have:zr R (cA M f) j=true:=by
      rw[r8]
      intro c hc
      rw[Ds (by rw[f2,hs i hd j hj,hq i hd,Rat.mul_zero])]
      exact hq c hc
     rw[this]at hz;cases hz
  ·intro g hg
   rw[KaB.1 hg,f1]
   exact⟨by omega,fun c hc=>by have:=b2 c hc;omega⟩
  ·intro j
   have fm:eV (B*7^1) R R (cA M f):=fun r hr c hc=>by
    unfold cA
    have a1:=hM r hr c hc
    have a2:=b2 r hr
    have a3:=b2 c hc
    have a4:=eX f.1 (f.2 r)
    have a5:=eX (f.1*f.2 r) (f.2 c)
    have a6:=xb (M r c) (f.1*f.2 r*f.2 c)
    rw[f1]at a4 a5 a6⊢
    omega
   match j with
   |0=>exact fun r hr c hc=>by have:=hM r hr c hc;show rs (M r c)<=_;omega
   |j+1=>simpa[eQ]using fm
 ·rw [if_neg hd]at aH⊢
  by_cases dp:ck M R<R
  ·rw [if_pos dp]at aH⊢
   have cI:=xa dp
   have h0:=y8 cI
   have Gg:∀j,j<ck M R->∀k,k<R->M j k=0:=fun j hj=>Ii hj
   have v7:=Js hd
   generalize ck M R=a at *
   generalize dR M R a=b at *
   have uf:a≠b:=fun e=>h0 (by rw[<-e];exact v7 a dp)
   have au:a<b:=by
    rcases KcL a b with h|h
    ·exact h
    ·exact absurd (Gg b (by omega) a dp) (by rw[<-hs a dp b cI];exact h0)
   obtain⟨α,rH⟩:∃α,M a b=α:=⟨_,rfl⟩
   rw[rH]at h0 aH⊢
   have h2:α+α≠0:=fun h=>h0 (by grind)
   obtain⟨w,hw⟩:∃w:Rat,1/(α+α)=w:=⟨_,rfl⟩
   rw[hw]
   have Lq:w*(α+α)=1:=by rw[<-hw,KbA,Kck,Kce _ h2]
   obtain⟨f,hf⟩:∃f:LF,(w,fu (M a) (M b) 1)=f:=⟨_,rfl⟩
   obtain⟨g,hg⟩:∃g:LF,(-w,fu (M a) (M b) (-1))=g:=⟨_,rfl⟩
   have f1:f.1=w:=by rw[<-hf]
   have g1:g.1= -w:=by rw[<-hg]
   have f2:∀c,f.2 c=M a c+M b c:=fun c=>by rw[<-hf];show M a c+1*M b c=_;rw[Kck]
   have g2:∀c,g.2 c=M a c-M b c:=fun c=>by rw[<-hg];show M a c+ -1*M b c=_;rw[Rat.neg_mul,Kck,<-Rat.sub_eq_add_neg]
   have bα:rs α<=B:=by rw[<-rH];exact hM a dp b cI
   have bw:rs w<=2*B+2:=by
    rw[<-hw]
    have:=xe (a:=1) h2
    have:=ki α α
    omega
   have bf:∀c,c<R->rs (f.2 c)<=2*B+1:=fun c hc=>by
    rw[f2]
    have:=ki (M a c) (M b c)
    have:=hM a dp c hc
    have:=hM b cI c hc
    omega
   have bg:∀c,c<R->rs (g.2 c)<=2*B+1:=fun c hc=>by
    rw[g2]
    have:=xb (M a c) (M b c)
    have:=hM a dp c hc
    have:=hM b cI c hc
    omega
   have eR:∀r c,eQ M [f,g] r c=M r c-w*2*(M a r*M b c+M b r*M a c):=fun r c=>by
    show cA (cA M f) g r c=_
    unfold cA
    rw[f1,g1,f2,f2,g2,g2]
    grind
   have GO:w*2*α=1:=by rw[<-Lq];grind
   rw[hf,hg]
   have uy:Sym R (eQ M [f,g]):=mz (mz hs)
   have vW:M b a=α:=by rw[hs b cI a dp,rH]
   refine⟨2,by omega,Kaf _,uy,?_,?_,?_⟩
   ·have nz:∀x y,x<R->y<R->M x y≠0->(!zr R M x)=true:=fun x y hx hy h=>by
     simp only[Kcx]
     rw[<-Bool.not_eq_true,r8]
     exact fun hh=>h (hh y hy)
    refine Po (a:=a) (b:=b) au (nz a b dp cI (by rw[rH];exact h0)) ?_ (nz b a cI dp (by rw[vW];exact h0)) ?_ R cI fun j hj hz=> ?_
    ·simp only[Bool.not_eq_false']
     rw[r8]
     intro c hc
     rw[eR,v7 a dp,vW]
     grind
    ·simp only[Bool.not_eq_false']
     rw[r8]
     intro c hc
     rw[eR,v7 b cI,rH]
     grind
    ·simp only[Kcx]at hz⊢
     cases hq:zr R M j
     ·rfl
     ·exfalso
      rw[r8]at hq
      have:zr R (eQ M [f,g]) j=true:=by
       rw[r8]
       intro c hc
       rw[eR,hs a dp j hj,hs b cI j hj,hq a dp,hq b cI,hq c hc]
       grind
      rw[this]at hz;cases hz
   ·intro x hx
    simp only[KaG,Kb7,or_false]at hx
    rcases hx with rfl|rfl
    ·rw[f1];exact⟨by omega,fun c hc=>by have:=bf c hc;omega⟩
    ·rw[g1,qE];exact⟨by omega,fun c hc=>by have:=bg c hc;omega⟩
   ·have h1:∀r,r<R->∀c,c<R->rs (cA M f r c)<=7*B+5:=fun r hr c hc=>by
     unfold cA
     have a1:=hM r hr c hc
     have a2:=bf r hr
     have a3:=bf c hc
     have a4:=eX f.1 (f.2 r)
     have a5:=eX (f.1*f.2 r) (f.2 c)
     have a6:=xb (M r c) (f.1*f.2 r*f.2 c)
     rw[f1]at a4 a5 a6⊢
     omega
    have h2:∀r,r<R->∀c,c<R->rs (cA (cA M f) g r c)<=13*B+10:=fun r hr c hc=>by
     have a1:=h1 r hr c hc
     generalize cA M f=N at *
     unfold cA
     have a2:=bg r hr
     have a3:=bg c hc
     have a4:=eX g.1 (g.2 r)
     have a5:=eX (g.1*g.2 r) (g.2 c)
     have a6:=xb (N r c) (g.1*g.2 r*g.2 c)
     rw[g1]at a4 a5 a6⊢
     rw[qE]at a4
     omega
    intro j r hr c hc
    match j with
    |0=>have:=hM r hr c hc;show rs (M r c)<=_;omega
    |1=>have:=h1 r hr c hc;show rs (cA M f r c)<=_;omega
    |j+2=>
     have:=h2 r hr c hc
     have e:([f,g]:List LF).take (j+2)=[f,g]:=Kac (by simp)
     rw[e]
     show rs (cA (cA M f) g r c)<=_
     omega
  ·rw[if_neg dp]at aH;exact absurd rfl aH
theorem EW{R:Nat}{M:MF}{k:Nat}(h:bS (Qv R M k).1 R=[]):∀j,Qv R M (k+j)=Qv R M k
 |0=>rfl
 |j+1=>by
  have e:=EW h j
  show(eQ (Qv R M (k+j)).1 (bS (Qv R M (k+j)).1 R),(Qv R M (k+j)).2++bS (Qv R M (k+j)).1 R)=_
  rw[e,h,Kam];rfl
theorem tl{R:Nat}{M:MF}{k:Nat}:Qv R M (k+1)=(eQ (Qv R M k).1 (bS (Qv R M k).1 R),(Qv R M k).2++bS (Qv R M k).1 R):=rfl
theorem EX{R b:Nat}{M:MF}(hs:Sym R M)(hb:3<=b)(hM:eV b R R M):∀k,Sym R (Qv R M k).1/\eV (b*7^(R-ns R (Qv R M k).1)) R R (Qv R M k).1
 |0=>⟨hs,fun r hr c hc=>Kao (hM r hr c hc) (Ka1 _ (Kbp (by omega)))⟩
 | k+1=>by
  obtain⟨h1,h2⟩:=EX hs hb hM k
  by_cases hn:bS (Qv R M k).1 R=[]
  ·rw[EW hn 1];exact⟨h1,h2⟩
  ·have hp:3<=b*7^(R-ns R (Qv R M k).1):=Kao hb (Ka1 _ (Kbp (by omega)))
   obtain⟨s,s1,s2,s3,s4,s5,s6⟩:=Et h1 hp h2 hn
   rw[tl]
   refine⟨s3,fun r hr c hc=> ?_⟩
   have h3:=s6 (bS (Qv R M k).1 R).length r hr c hc
   rw[KaH]at h3
   have hle:ns R (Qv R M k).1<=R:=FG _ _
   rw[Kbj,<-Nat.pow_add]at h3
   exact Kao h3 (KaA _ (KaN (by omega) (by simp only;omega)))
theorem Pp{R b n:Nat}{M:MF}(hs:Sym R M)(hb:3<=b)(hM:eV b R R M):vC (b*7^R) R n M:=fun k _=>by
 obtain⟨h1,h2⟩:=EX hs hb hM k
 have hle:ns R (Qv R M k).1<=R:=FG _ _
 have hK:b*7^(R-ns R (Qv R M k).1)<=b*7^R:=KaA _ (KaN (by omega) (by omega))
 have h3:eV (b*7^R) R R (Qv R M k).1:=fun r hr c hc=>Kao (h2 r hr c hc) hK
 refine⟨h3,?_⟩
 by_cases hn:bS (Qv R M k).1 R=[]
 ·rw[hn]
  exact⟨(fun f hf=>by cases hf),fun j _=>by simpa[eQ]using h3⟩
 ·have hp:3<=b*7^(R-ns R (Qv R M k).1):=Kao hb (Ka1 _ (Kbp (by omega)))
  obtain⟨s,s1,s2,s3,s4,s5,s6⟩:=Et h1 hp h2 hn
  refine⟨fun f hf=> ?_,fun j _ r hr c hc=> ?_⟩
  ·have hk:7*(b*7^(R-ns R (Qv R M k).1))<=b*7^R:=by
    have e:7*(b*7^(R-ns R (Qv R M k).1))=b*7^(R-ns R (Qv R M k).1+1):=by rw[Kbr];simp only[KaR,Kbi]
    rw[e]
    exact KaA _ (KaN (by omega) (by omega))
   exact⟨Kao (s5 f hf).1 hk,fun c hc=>Kao ((s5 f hf).2 c hc) hk⟩
  ·have h4:=s6 j r hr c hc
   rw[Kbj,<-Nat.pow_add]at h4
   exact Kao h4 (KaA _ (KaN (by omega) (by omega)))
theorem Bp{R b:Nat}{M:MF}(hs:Sym R M)(hb:3<=b)(hM:eV b R R M):∀k,(∀j,j<k->bS (Qv R M j).1 R≠[])->ns R (Qv R M k).1+k<=R
 |0,_=>FG _ _
 |k+1,h=>by
  have h0:=Bp hs hb hM k fun j hj=>h j (by omega)
  obtain⟨h1,h2⟩:=EX hs hb hM k
  have hp:3<=b*7^(R-ns R (Qv R M k).1):=Kao hb (Ka1 _ (Kbp (by omega)))
  obtain⟨s,s1,s2,s3,s4,s5,s6⟩:=Et h1 hp h2 (h k (by omega))
  rw[tl]
  simp only
  omega
theorem OP{R:Nat}{M:MF}(hs:Sym R M)(hn:bS M R≠[]):1<=ns R M:=by
 refine Kba fun h=>hn (aaB fun i hi=> ?_)
 have:zr R M i=true:=by
  cases hq:zr R M i
  ·exfalso
   have:=FH (p:=fun i=> !zr R M i) (q:=fun _=>false) (a:=i) (by simp[hq]) rfl R hi (fun _ _ h=>by cases h)
   unfold ns at h
   omega
  ·rfl
 exact r8.1 this
theorem ahR{R:Nat}{M:MF}(hs:Sym R M)(hd:¬dA M R<R)(hr:ck M R<R):ck M R<dR M R (ck M R):=by
 have cI:=xa hr
 have h0:=y8 cI
 have v7:=Js hd
 rcases Nat.lt_trichotomy (ck M R) (dR M R (ck M R))with h|h|h
 ·exact h
 ·rw[<-h]at h0;exact absurd (v7 _ hr) h0
 ·exact absurd (Ii h _ hr) (by rw[<-hs _ hr _ cI];exact h0)
end Go.FW
