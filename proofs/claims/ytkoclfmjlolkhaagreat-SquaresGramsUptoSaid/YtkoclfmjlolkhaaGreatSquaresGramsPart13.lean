/- Part 13 of the proof of SquaresGrams: B5, A8, A9, A10, A11, U5, P5, U6, P6, V1, B4, B6, B7, B8, B9, B10, B11, Q3, Q4, FwVE, FwVF. Own lemmas; no conditions. -/
import Derived.Test.YtkoclfmjlolkhaaGreatSquaresGramsPart12
set_option linter.unusedSimpArgs false
set_option linter.unusedVariables false
set_option linter.unnecessarySimpa false
set_option maxRecDepth 100000
namespace Go.Proofs.YtkoclfmjlolkhaaGreat
open Go Go.FW
theorem Qamy{n:Nat}(hn:n<=2^30):Qd Tryz.prog 56 [.int .i64 (n:Nat)] (· = .sl 3 (Qad PV.rat (fun _=>(0:Rat)) n)):=by
 refine Qf Qq Tryz.func56 rfl Qaab (by simp[c56]) fun C hP=> ?_;simp only[c56,Zo,Zg,Zm,Zc,Zf,Zl,Zh,Zs,Zi,Zb,Zk,Zn,Zu,Zq,Zr,Zz]
 simp+decide (disch:=try exact D0) only[go_sem]
 refine Qz (by repeat (first|exact Qn|exact Qi|exact Qj|exact Qk|exact Ql|apply Qh|apply Qm|apply Qt|apply Qx|apply Qy|apply Qg|apply Qr)) [(4,4),(9,16)] [] (fun q J hp=>∃i xs,q=n-i/\i<=n/\J 9= .int .i64 (i:Nat)/\xs.length=n/\hp 6=some ⟨3,51,xs,false⟩/\∀j,j<i->xs[j]? =some (PV.rat 0)) n ?_ ?_
 ·refine⟨0,List.replicate n (.agg [.bool false,.nilS,.nilS]),rfl,by omega,?_⟩
  simp+decide (disch:=try exact D0) only[go_sem]
  exact⟨rfl,by simp,fun j hj=>by omega⟩
 rintro _ J h ⟨i,xs,rfl,hi,h9,hl,h6,hx⟩
 simp+decide (disch:=try exact D1 h9) only[go_sem,h9]
 refine Qb (fun hg=> ?_) (fun hg=> ?_)
 ·have hi':i<n:=by omega
  simp+decide (disch:=try exact D1 h9) only[go_sem,h9]
  refine Qa hP (Qnb (x:=0) (by omega) (by omega)) rfl rfl rfl ?_
  rw[show((0:Int):Rat)=0 from rfl]
  generalize(0:Rat)=z at *
  simp+decide (disch:=try exact D2 h9 h6) only[go_sem,h9,h6]
  rw[Qgr (n:=3) (xs:=xs) (v:=PV.rat z) (by omega) rfl rfl]
  simp+decide (disch:=try exact D1 h9) only[go_sem,h9]
  refine Qo (n-(i+1)) (by omega) ⟨i+1,xs.set i (PV.rat z),rfl,by omega,?_⟩
  simp+decide (disch:=try exact D0) only[go_sem]
  refine⟨by simp[hl],fun j hj=> ?_⟩
  rw[List.getElem?_set]
  by_cases e:i=j
  ·rw[if_pos e,if_pos (by omega)]
  ·rw[if_neg e];exact hx j (by omega)
 ·obtain rfl:i=n:=by omega
  have e:xs=Qad PV.rat (fun _=>(0:Rat)) i:=by
   refine List.ext_getElem (by simp[Qad,hl]) fun j h1 h2=> ?_
   have:=hx j (by omega)
   rw[List.getElem?_eq_getElem h1]at this
   rw[Qeh];exact Option.some.inj this
  simp+decide (disch:=try exact D2 h9 h6) only[go_sem,h9,h6]
  refine Qc ?_ ?_
  ·simp+decide (disch:=try exact E2 h6 e) only[go_sem,Qac,List.contains_cons,List.contains_nil,List.flatMap_cons,List.flatMap_nil,List.append_nil,h6,e]
   rw[List.take_of_length_le (by rw[Qa0];omega)]
  ·simp+decide (disch:=try exact E1 h6) only[go_sem,Qac,List.contains_cons,List.contains_nil,List.flatMap_cons,List.flatMap_nil,List.append_nil,h6]
theorem Qvg{x y:Nat->Rat}{c:Rat}{w ty1 ty2 k:Nat}(hw:w<=2^30)(hx:∀i,i<w->rs (x i)<=k)(hy:∀i,i<w->rs (y i)<=k)(hc:rs c<=k)(hk:k<=2^33):
  Qcv Tryz.prog 180 [.ms 1500000 w,.ms 1500001 w,PV.rat c] (fun _=> .undef) (Qw (Qw hp0 1500000 ⟨3,ty1,Qad PV.rat x w,true⟩) 1500001 ⟨3,ty2,Qad PV.rat y w,true⟩) (fun r _ _=>r= .sl 3 (Qad PV.rat (Qd6 x y c) w)):=by
 refine Qfe Qq Tryz.func180 rfl Q4p (by simp[Q03]) fun C hP=> ?_;simp only[Q03,Zo,Zg,Zm,Zc,Zf,Zl,Zh,Zs,Zi,Zb,Zk,Zn,Zu,Zq,Zr,Zz]
 simp+decide (disch:=try exact D0) only[go_sem]
 refine Qz (by repeat (first|exact Qn|exact Qi|exact Qj|exact Qk|exact Ql|apply Qh|apply Qm|apply Qt|apply Qx|apply Qy|apply Qg|apply Qr)) [(8,8),(14,31)] [] (fun q J hp=>∃i xs,q=w-i/\i<=w/\J 14= .int .i64 (i:Nat)/\xs.length=w/\hp 11=some ⟨3,51,xs,false⟩/\hp 5=some ⟨3,51,[PV.rat c],false⟩/\hp 1500000=some ⟨3,ty1,Qad PV.rat x w,true⟩/\hp 1500001=some ⟨3,ty2,Qad PV.rat y w,true⟩/\∀j,j<i->xs[j]? =some (PV.rat (Qd6 x y c j))) w ?_ ?_
 ·refine⟨0,List.replicate w (.agg [.bool false,.nilS,.nilS]),rfl,by omega,?_⟩
  simp+decide (disch:=try exact D0) only[go_sem]
  exact⟨rfl,by simp,fun j hj=>by omega⟩
 rintro _ J h ⟨i,xs,rfl,hi,h14,hl,h11,h5,hx1,hy1,hxs⟩
 simp+decide (disch:=try exact D1 h14) only[go_sem,h14]
 refine Qb (fun hg=> ?_) (fun hg=> ?_)
 ·have hi':i<w:=by omega
  have h1:=hx i hi'
  have h2:=hy i hi'
  have hm:=Qdc c (y i)
  simp+decide (disch:=try exact D5 h14 h11 h5 hx1 hy1) only[go_sem,h14,h11,h5,hx1,hy1]
  refine Qa hP (Qrn (k:=k) hc h2 (by omega)) rfl rfl rfl ?_
  simp+decide (disch:=try exact D5 h14 h11 h5 hx1 hy1) only[go_sem,h14,h11,h5,hx1,hy1]
  refine Qa hP (Qyv (k:=2*k) (by omega) (by omega) (by omega)) rfl rfl rfl ?_
  simp+decide (disch:=try exact D5 h14 h11 h5 hx1 hy1) only[go_sem,h14,h11,h5,hx1,hy1]
  rw[Qgr (n:=3) (xs:=xs) (v:=PV.rat (x i+c*y i)) (by omega) rfl rfl]
  simp+decide (disch:=try exact D1 h14) only[go_sem,h14]
  refine Qo (w-(i+1)) (by omega) ⟨i+1,xs.set i (PV.rat (x i+c*y i)),rfl,by omega,?_⟩
  simp+decide (disch:=try exact D3 h5 hx1 hy1) only[go_sem,h5,hx1,hy1]
  refine⟨by simp[hl],fun j hj=> ?_⟩
  rw[List.getElem?_set]
  by_cases e:i=j
  ·subst e;rw[if_pos rfl,if_pos (by omega)];rfl
  ·rw[if_neg e];exact hxs j (by omega)
 ·obtain rfl:i=w:=by omega
  have e:xs=Qad PV.rat (Qd6 x y c) i:=by
   refine List.ext_getElem (by simp[Qad,hl]) fun j h1 h2=> ?_
   have:=hxs j (by omega)
   rw[List.getElem?_eq_getElem h1]at this
   rw[Qeh];exact Option.some.inj this
  simp+decide (disch:=try exact D2 h14 h11) only[go_sem,h14,h11]
  refine Qfd ?_
  simp+decide (disch:=try exact D1 h11) only[go_sem,h11]
  refine Qc ?_ ?_
  ·simp+decide (disch:=try exact E2 h11 e) only[go_sem,Qac,List.contains_cons,List.contains_nil,List.flatMap_cons,List.flatMap_nil,List.append_nil,h11,e]
   rw[List.take_of_length_le (by rw[Qa0];omega)]
  ·simp+decide (disch:=try exact E1 h11) only[go_sem,Qac,List.contains_cons,List.contains_nil,List.flatMap_cons,List.flatMap_nil,List.append_nil,h11]
theorem Q3j{x y:Nat->Rat}{c:Rat}{w ty2 k:Nat}(hw:w<=2^30)(hx:∀i,i<w->rs (x i)<=k)(hy:∀i,i<w->rs (y i)<=k)(hc:rs c<=k)(hk:k<=2^33):
  Qcv Tryz.prog 180 [.sl 3 (Qad PV.rat x w),.ms 1500001 w,PV.rat c] (fun _=> .undef) (Qw hp0 1500001 ⟨3,ty2,Qad PV.rat y w,true⟩) (fun r _ _=>r= .sl 3 (Qad PV.rat (Qd6 x y c) w)):=by
 have hrl:(Qad PV.rat x w).length=w:=Qa0 _ _ _
 refine Qfe Qq Tryz.func180 rfl Q4p (by simp[Q03]) fun C hP=> ?_;simp only[Q03,Zo,Zg,Zm,Zc,Zf,Zl,Zh,Zs,Zi,Zb,Zk,Zn,Zu,Zq,Zr,Zz]
 simp+decide (disch:=try exact D1 hrl) only[go_sem,hrl]
 refine Qz (by repeat (first|exact Qn|exact Qi|exact Qj|exact Qk|exact Ql|apply Qh|apply Qm|apply Qt|apply Qx|apply Qy|apply Qg|apply Qr)) [(8,8),(14,31)] [] (fun q J hp=>∃i xs,q=w-i/\i<=w/\J 14= .int .i64 (i:Nat)/\xs.length=w/\hp 11=some ⟨3,51,xs,false⟩/\hp 5=some ⟨3,51,[PV.rat c],false⟩/\hp 1500001=some ⟨3,ty2,Qad PV.rat y w,true⟩/\∀j,j<i->xs[j]? =some (PV.rat (Qd6 x y c j))) w ?_ ?_
 ·refine⟨0,List.replicate w (.agg [.bool false,.nilS,.nilS]),rfl,by omega,?_⟩
  simp+decide (disch:=try exact D0) only[go_sem]
  exact⟨rfl,by simp,fun j hj=>by omega⟩
 rintro _ J h ⟨i,xs,rfl,hi,h14,hl,h11,h5,hy1,hxs⟩
 simp+decide (disch:=try exact D1 h14) only[go_sem,h14]
 refine Qb (fun hg=> ?_) (fun hg=> ?_)
 ·have hi':i<w:=by omega
  have h1:=hx i hi'
  have h2:=hy i hi'
  have hm:=Qdc c (y i)
  simp+decide (disch:=try exact D4 h14 h11 h5 hy1) only[go_sem,h14,h11,h5,hy1]
  refine Qa hP (Qrn (k:=k) hc h2 (by omega)) rfl rfl rfl ?_
  simp+decide (disch:=try exact D4 h14 h11 h5 hy1) only[go_sem,h14,h11,h5,hy1]
  refine Qa hP (Qyv (k:=2*k) (by omega) (by omega) (by omega)) rfl rfl rfl ?_
  simp+decide (disch:=try exact D4 h14 h11 h5 hy1) only[go_sem,h14,h11,h5,hy1]
  rw[Qgr (n:=3) (xs:=xs) (v:=PV.rat (x i+c*y i)) (by omega) rfl rfl]
  simp+decide (disch:=try exact D1 h14) only[go_sem,h14]
  refine Qo (w-(i+1)) (by omega) ⟨i+1,xs.set i (PV.rat (x i+c*y i)),rfl,by omega,?_⟩
  simp+decide (disch:=try exact D2 h5 hy1) only[go_sem,h5,hy1]
  refine⟨by simp[hl],fun j hj=> ?_⟩
  rw[List.getElem?_set]
  by_cases e:i=j
  ·subst e;rw[if_pos rfl,if_pos (by omega)];rfl
  ·rw[if_neg e];exact hxs j (by omega)
 ·obtain rfl:i=w:=by omega
  have e:xs=Qad PV.rat (Qd6 x y c) i:=by
   refine List.ext_getElem (by simp[Qad,hl]) fun j h1 h2=> ?_
   have:=hxs j (by omega)
   rw[List.getElem?_eq_getElem h1]at this
   rw[Qeh];exact Option.some.inj this
  simp+decide (disch:=try exact D2 h14 h11) only[go_sem,h14,h11]
  refine Qfd ?_
  simp+decide (disch:=try exact D1 h11) only[go_sem,h11]
  refine Qc ?_ ?_
  ·simp+decide (disch:=try exact E2 h11 e) only[go_sem,Qac,List.contains_cons,List.contains_nil,List.flatMap_cons,List.flatMap_nil,List.append_nil,h11,e]
   rw[List.take_of_length_le (by rw[Qa0];omega)]
  ·simp+decide (disch:=try exact E1 h11) only[go_sem,Qac,List.contains_cons,List.contains_nil,List.flatMap_cons,List.flatMap_nil,List.append_nil,h11]
def Qhl(M:MF)(R:Nat):Prop:=∀i,i<R->∀k,k<i->M i k=M k i
instance {M : MF} {R : Nat} : Decidable (Qhl M R) := by unfold Qhl; infer_instance
theorem Q3k{M:MF}{R K ty tyr:Nat}(hR2:R<=40)(hK:K<2^35)(hB:MBd K R R M):
  Qcv Tryz.prog 115 [.nso 1500000 0 R] (upd (fun _=> .undef) 1500000 (.nst 1500000 1 ty (Qak (Qbc 1600000 R R id))))
   (fun x=>if x=1500000 then some ⟨1,ty,[],true⟩else if 1600000<=x/\x<1600000+R then some ⟨3,tyr,Qad PV.rat (M (x-1600000)) R,true⟩else none) (fun r _ _=>r= .bool (decide (Qhl M R))):=by
 refine Qfe Qq Tryz.func115 rfl Q4q (by simp[Q04]) fun C hP=> ?_;simp only[Q04,Zo,Zg,Zm,Zc,Zf,Zl,Zh,Zs,Zi,Zb,Zk,Zn,Zu,Zq,Zr,Zz]
 simp+decide (disch:=try exact D0) only[go_sem]
 refine Qbn (by repeat (first|exact Qn|exact Qi|exact Qj|exact Qk|exact Ql|apply Qh|apply Qm|apply Qt|apply Qx|apply Qy|apply Qg|apply Qr)) [(0,0),(2,4),(7,31),(1500000,1500000)] [] (fun q J hp=>∃i,q=R-i/\i<=R/\J 0= .nso 1500000 0 R/\J 7= .int .i64 (i:Nat)/\J 1500000= .nst 1500000 1 ty (Qak (Qbc 1600000 R R id))/\hp 1500000=some ⟨1,ty,[],true⟩/\(∀r,r<R->hp (1600000+r)=some ⟨3,tyr,Qad PV.rat (M r) R,true⟩)/\∀j,j<i->∀k,k<j->M j k=M k j) R ?_ ?_
 ·refine⟨0,rfl,by omega,?_⟩
  simp+decide (disch:=try exact D0) only[go_sem]
  refine⟨rfl,fun r hr=> ?_,fun j hj=>by omega⟩
  rw[if_pos ⟨by omega,by omega⟩,Nat.add_sub_cancel_left]
 rintro _ J h ⟨i,rfl,hi,h0,h7,hg,hh,hr,hs⟩
 simp+decide (disch:=try exact D1 h7) only[go_sem,h7]
 refine Qb (fun hc=> ?_) (fun hc=> ?_)
 ·have hi':i<R:=by omega
  simp+decide (disch:=try exact D4 h0 h7 hg hh) only[go_sem,h0,h7,hg,hh]
  refine Qbn (by repeat (first|exact Qn|exact Qi|exact Qj|exact Qk|exact Ql|apply Qh|apply Qm|apply Qt|apply Qx|apply Qy|apply Qg|apply Qr)) [(0,0),(2,2),(4,4),(11,30),(1500000,1500000)] [] (fun q J hp=>∃k,q=i-k/\k<=i/\J 0= .nso 1500000 0 R/\J 11= .int .i64 (k:Nat)/\J 1500000= .nst 1500000 1 ty (Qak (Qbc 1600000 R R id))/\h=hp/\∀j,j<k->M i j=M j i) i ?_ ?_
  ·refine⟨0,rfl,by omega,?_⟩
   simp+decide (disch:=try exact D2 h0 hg) only[go_sem,h0,hg]
   exact⟨rfl,fun j hj=>by omega⟩
  rintro _ J2 _ ⟨k,rfl,hk,i0,i11,ig,rfl,is⟩
  simp+decide (disch:=try exact D1 i11) only[go_sem,i11]
  refine Qb (fun hc2=> ?_) (fun hc2=> ?_)
  ·have hk':k<i:=by omega
   have r1:=hr i hi'
   have r2:=hr k (by omega)
   have b1:=hB i hi' k (by omega)
   have b2:=hB k (by omega) i hi'
   simp+decide (disch:=first|omega|rfl|(simp+decide only[go_sem,i0,i11,ig,hh,r1,r2,id]<;>rfl)|fail) only[go_sem,i0,i11,ig,hh,r1,r2,id]
   refine Qa hP (Qalq (a:=M i k) (b:=M k i) b1 b2 (by omega)) rfl rfl rfl ?_
   by_cases e:M i k=M k i
   ·simp+decide (disch:=try exact D2 i11 e) only[go_sem,i11,e]
    refine Qa4 (i-(k+1)) (by omega) ⟨k+1,rfl,by omega,?_⟩
    simp+decide (disch:=try exact D2 i0 ig) only[go_sem,i0,ig]
    intro j hj
    by_cases e2:j=k
    ·subst e2;exact e
    ·exact is j (by omega)
   ·simp+decide (disch:=try exact D1 e) only[go_sem,e]
    refine Qfd ?_
    simp+decide (disch:=try exact D0) only[go_sem]
    refine Qc ?_ rfl
    rw[decide_eq_false]
    exact fun h=>e (h i hi' k hk')
  ·simp+decide (disch:=try exact D1 h7) only[go_sem,h7]
   simp (disch:=decide) only[Qcb,Qci,Qbg,Qct]
   refine Qa4 (R-(i+1)) (by omega) ⟨i+1,rfl,by omega,?_⟩
   simp+decide (disch:=try exact D3 i0 ig hh) only[go_sem,i0,ig,hh]
   refine⟨hr,fun j hj k' hk'=> ?_⟩
   by_cases e:j=i
   ·subst e;exact is k' (by omega)
   ·exact hs j (by omega) k' hk'
 ·simp+decide (disch:=try exact D0) only[go_sem]
  refine Qfd ?_
  simp+decide (disch:=try exact D0) only[go_sem]
  refine Qc ?_ rfl
  rw[decide_eq_true]
  exact fun j hj k hk=>hs j (by omega) k hk
theorem Qaq3{M:MF}{R K ty tyr:Nat}(hR2:R<=40)(hK:K<2^30)(hB:MBd K R R M):
  Qcv Tryz.prog 116 [.nso 1500000 0 R] (upd (fun _=> .undef) 1500000 (.nst 1500000 1 ty (Qak (Qbc 1600000 R R id))))
   (fun x=>if x=1500000 then some ⟨1,ty,[],true⟩else if 1600000<=x/\x<1600000+R then some ⟨3,tyr,Qad PV.rat (M (x-1600000)) R,true⟩else none) (fun r _ _=>r= .sl 4 ((Qbf M R).map (PV.form R))):=by
 refine Qfe Qq Tryz.func116 rfl Qalp (by simp[c116]) fun C hP=> ?_;simp only[c116,Zo,Zg,Zm,Zc,Zf,Zl,Zh,Zs,Zi,Zb,Zk,Zn,Zu,Zq,Zr,Zz]
 simp+decide (disch:=try exact D0) only[go_sem]
 refine Qa hP (Qnb (x:=1) (by omega) (by omega)) rfl rfl rfl ?_
 rw[show((1:Int):Rat)=1 from rfl]
 obtain⟨u,hu⟩:∃u:Rat,(1:Rat)=u:=⟨_,rfl⟩
 rw[hu]
 simp+decide (disch:=try exact D0) only[go_sem]
 refine Qbn (by repeat (first|exact Qn|exact Qi|exact Qj|exact Qk|exact Ql|apply Qh|apply Qm|apply Qt|apply Qx|apply Qy|apply Qg|apply Qr)) [(0,0),(2,2),(4,7),(16,47),(1500000,1500000)] [5,6,46] (fun q J hp=>∃i,q=R-i/\i<=R/\J 0= .nso 1500000 0 R/\J 16= .int .i64 (i:Nat)/\J 1500000= .nst 1500000 1 ty (Qak (Qbc 1600000 R R id))/\hp 1500000=some ⟨1,ty,[],true⟩/\(∀r,r<R->hp (1600000+r)=some ⟨3,tyr,Qad PV.rat (M r) R,true⟩)/\hp 3=some ⟨3,51,[PV.rat u],false⟩/\∀j,j<i->M j j=0) R ?_ ?_
 ·refine⟨0,rfl,by omega,?_⟩
  simp+decide (disch:=try exact D0) only[go_sem]
  refine⟨rfl,fun r hr=> ?_,fun j hj=>by omega⟩
  rw[if_pos ⟨by omega,by omega⟩,Nat.add_sub_cancel_left]
 rintro _ J h ⟨i,rfl,hi,h0,h16,hg,hh,hr,h3,hz⟩
 simp+decide (disch:=try exact D1 h16) only[go_sem,h16]
 refine Qb (fun hc=> ?_) (fun hc=> ?_)
 ·have hi':i<R:=by omega
  have r1:=hr i hi'
  have b1:=hB i hi' i hi'
  simp+decide (disch:=first|omega|rfl|(simp+decide only[go_sem,h0,h16,hg,hh,r1,id]<;>rfl)|fail) only[go_sem,h0,h16,hg,hh,r1,id]
  refine Qa hP (Qg0 (a:=M i i) (by omega)) rfl rfl rfl ?_
  simp+decide (disch:=first|omega|rfl|(simp+decide only[go_sem,h0,h16,hg,hh,r1,id]<;>rfl)|fail) only[go_sem,h0,h16,hg,hh,r1,id]
  refine Qb (fun hs=> ?_) (fun hs=> ?_)
  ·have hne:M i i≠0:=fun e=>hs (Qav.2 e)
   simp+decide (disch:=try exact D1 h3) only[go_sem,h3]
   refine Qa hP (Qva (a:=u) (b:=M i i) (k:=K+1) (by rw[<-hu];have:=Qql;omega) (by omega) (by omega) hne) rfl rfl rfl ?_
   simp+decide (disch:=first|omega|rfl|(simp+decide only[go_sem,h0,h16,hg,hh,r1,id]<;>rfl)|fail) only[go_sem,h0,h16,hg,hh,r1,id]
   refine Qa hP (Qamy (n:=R) (by omega)) rfl rfl rfl ?_
   simp+decide (disch:=try exact D0) only[go_sem]
   have hbd:rs (u/M i i)<=K+2:=by
    rw[Rat.div_def]
    have q1:=Qdc u (M i i)⁻¹
    have q2:=Q1f (M i i) hne
    have q3:=Qql
    rw[hu]at q3
    omega
   have cmb:=Q3j (w:=R) (x:=fun _=>(0:Rat)) (y:=M i) (c:=u/M i i) (ty2:=tyr) (k:=K+2) (by omega) (fun _ _=>by have:=Qz8;omega) (fun c hc=>by have:=hB i hi' c hc;omega) hbd (by omega)
   refine Qamn hP (hb1:=⟨3,tyr,Qad PV.rat (M i) R,true⟩) cmb T0 (γ1:=1600000+i) (T1 r1) T0 (fun γ hγ=>by simpa[PV.refs,PV.sref]using hγ) (by simp) ?_
   simp+decide (disch:=try exact D1 h0) only[go_sem,h0]
   refine Qfd ?_
   simp+decide (disch:=try exact D0) only[go_sem]
   refine Qc ?_ ?_
   ·simp+decide (disch:=try exact E0) only[go_sem,Qac,List.contains_cons,List.contains_nil,List.flatMap_cons,List.flatMap_nil,List.append_nil]
    have hdi:Qb9 M R=i:=Qjl (Nat.zero_le _) (by omega) (decide_eq_true hne) fun j _ hj=>decide_eq_false (fun h=>h (hz j hj))
    unfold Qbf
    rw[hdi,if_pos hi',<-hu]
    rfl
   ·simp+decide (disch:=try exact E0) only[go_sem,Qac,List.contains_cons,List.contains_nil,List.flatMap_cons,List.flatMap_nil,List.append_nil]
  ·simp+decide (disch:=try exact D1 h16) only[go_sem,h16]
   refine Qa4 (R-(i+1)) (by omega) ⟨i+1,rfl,by omega,?_⟩
   simp+decide (disch:=try exact D4 h0 hg hh h3) only[go_sem,h0,hg,hh,h3]
   refine⟨hr,fun j hj=> ?_⟩
   by_cases e:j=i
   ·subst e;exact Qav.1 (Classical.not_not.1 hs)
   ·exact hz j (by omega)
 ·obtain rfl:i=R:=by omega
  have hnd:¬Qb9 M i<i:=by
   have:Qb9 M i=0+i:=Qhe fun j _ hj=>decide_eq_false (fun h=>h (hz j (by omega)))
   omega
  simp+decide (disch:=try exact D1 h0) only[go_sem,h0]
  refine Qbn (by repeat (first|exact Qn|exact Qi|exact Qj|exact Qk|exact Ql|apply Qh|apply Qm|apply Qt|apply Qx|apply Qy|apply Qg|apply Qr)) [(0,0),(2,2),(8,12),(50,101),(1500000,1500000)] [10,11,99] (fun q J hp=>∃a,q=i-a/\a<=i/\J 0= .nso 1500000 0 i/\J 50= .int .i64 (a:Nat)/\J 1500000= .nst 1500000 1 ty (Qak (Qbc 1600000 i i id))/\hp 1500000=some ⟨1,ty,[],true⟩/\(∀r,r<i->hp (1600000+r)=some ⟨3,tyr,Qad PV.rat (M r) i,true⟩)/\hp 3=some ⟨3,51,[PV.rat u],false⟩/\∀j,j<a->∀k,k<i->M j k=0) i ?_ ?_
  ·refine⟨0,rfl,by omega,?_⟩
   simp+decide (disch:=try exact D4 h0 hg hh h3) only[go_sem,h0,hg,hh,h3]
   exact⟨rfl,hr,fun j hj=>by omega⟩
  rintro _ J1 h1 ⟨a,rfl,ha,a0,a50,ag,ah,ar,a3,az⟩
  simp+decide (disch:=try exact D1 a50) only[go_sem,a50]
  refine Qb (fun hca=> ?_) (fun hca=> ?_)
  ·have ha':a<i:=by omega
   have r1:=ar a ha'
   simp+decide (disch:=first|omega|rfl|(simp+decide only[go_sem,a0,a50,ag,ah,r1,id]<;>rfl)|fail) only[go_sem,a0,a50,ag,ah,r1,id]
   refine Qbn (by repeat (first|exact Qn|exact Qi|exact Qj|exact Qk|exact Ql|apply Qh|apply Qm|apply Qt|apply Qx|apply Qy|apply Qg|apply Qr)) [(0,0),(2,2),(9,12),(56,56),(58,100),(1500000,1500000)] [10,11,99] (fun q J hp=>∃b,q=i-b/\b<=i/\J 0= .nso 1500000 0 i/\J 56= .ms (1600000+a) i/\J 58= .int .i64 (b:Nat)/\J 1500000= .nst 1500000 1 ty (Qak (Qbc 1600000 i i id))/\hp 1500000=some ⟨1,ty,[],true⟩/\(∀r,r<i->hp (1600000+r)=some ⟨3,tyr,Qad PV.rat (M r) i,true⟩)/\hp 3=some ⟨3,51,[PV.rat u],false⟩/\∀k,k<b->M a k=0) i ?_ ?_
   ·refine⟨0,rfl,by omega,?_⟩
    simp+decide (disch:=try exact D4 a0 ag ah a3) only[go_sem,a0,ag,ah,a3]
    exact⟨rfl,ar,fun j hj=>by omega⟩
   rintro _ J2 h2 ⟨b,rfl,hb,b0,b56,b58,bg,bh,br,b3,bz⟩
   simp+decide (disch:=try exact D1 b58) only[go_sem,b58]
   refine Qb (fun hcb=> ?_) (fun hcb=> ?_)
   ·have hb':b<i:=by omega
    have s1:=br a ha'
    have s2:=br b hb'
    have b1:=hB a ha' b hb'
    simp+decide (disch:=first|omega|rfl|(simp+decide only[go_sem,b0,b56,b58,bg,bh,s1,s2,id]<;>rfl)|fail) only[go_sem,b0,b56,b58,bg,bh,s1,s2,id]
    refine Qa hP (Qg0 (a:=M a b) (by omega)) rfl rfl rfl ?_
    simp+decide (disch:=first|omega|rfl|(simp+decide only[go_sem,b0,b56,b58,bg,bh,s1,s2,id]<;>rfl)|fail) only[go_sem,b0,b56,b58,bg,bh,s1,s2,id]
    refine Qb (fun hs=> ?_) (fun hs=> ?_)
    ·have hne:M a b≠0:=fun e=>hs (Qav.2 e)
     have hab:a≠b:=fun e=>hne (by rw[<-e];exact hz a ha')
     simp+decide (disch:=first|omega|rfl|(simp+decide only[go_sem,b0,b56,b58,bg,bh,b3,s1,s2,id]<;>rfl)|fail) only[go_sem,b0,b56,b58,bg,bh,b3,s1,s2,id]
     have q1:=Qkd (M a b) (M a b)
     have hne2:M a b+M a b≠0:=fun h=>hne (by grind)
     have q2:rs u<=1:=by rw[<-hu];exact Qql
     have c1:=Qyv (a:=M a b) (b:=M a b) (k:=K) b1 b1 (by omega)
     have c2:=Qva (a:=u) (b:=M a b+M a b) (k:=2*K+1) (by omega) (by omega) (by omega) hne2
     have q3:rs (u/(M a b+M a b))<=2*K+2:=by
      rw[Rat.div_def]
      have:=Qdc u (M a b+M a b)⁻¹
      have:=Q1f (M a b+M a b) hne2
      omega
     have c3:=Qahu (a:=u/(M a b+M a b)) q3 (by omega)
     have c4:=Qnb (x:= -1) (by omega) (by omega)
     rw[show((-1:Int):Rat)= -1 from rfl]at c4
     obtain⟨v,hv⟩:∃v:Rat,(-1:Rat)=v:=⟨_,rfl⟩
     have q4:rs v<=1:=by rw[<-hv,Qke];exact Qql
     rw[hv]at c4
     have c5:=Qvg (w:=i) (x:=M a) (y:=M b) (c:=u) (ty1:=tyr) (ty2:=tyr) (k:=K+2) (by omega) (fun c hc=>by have:=hB a ha' c hc;omega) (fun c hc=>by have:=hB b hb' c hc;omega) (by omega) (by omega)
     have c6:=Qvg (w:=i) (x:=M a) (y:=M b) (c:=v) (ty1:=tyr) (ty2:=tyr) (k:=K+2) (by omega) (fun c hc=>by have:=hB a ha' c hc;omega) (fun c hc=>by have:=hB b hb' c hc;omega) (by omega) (by omega)
     have hci:Qc3 M i a=b:=Qjl (Nat.zero_le _) (by omega) (decide_eq_true hne) fun j _ hj=>decide_eq_false (fun h=>h (bz j hj))
     have hri:Qbp M i=a:=Qjl (Nat.zero_le _) (by omega) (decide_eq_true (by rw[hci];exact hb')) fun j _ hj=>decide_eq_false (fun h=>by
      have:Qc3 M i j=0+i:=Qhe fun k _ hk=>decide_eq_false (fun h2=>h2 (az j (by omega) k (by omega)))
      omega)
     have hnx:Qbf M i=[(u/(M a b+M a b),Qd6 (M a) (M b) u),(-(u/(M a b+M a b)),Qd6 (M a) (M b) v)]:=by
      unfold Qbf
      rw[if_neg hnd,hri,if_pos ha',hci,<-hu,<-hv]
     have hab2:¬1600000+b=1600000+a:=by omega
     repeat' first
      |refine Qda ?_ ?_
      |refine Qa hP c1 rfl rfl rfl ?_
      |refine Qa hP c2 rfl rfl rfl ?_
      |simp+decide (disch:=first|omega|rfl|(simp+decide only[go_sem,b0,b56,b58,bg,bh,b3,s1,s2,id]<;>rfl)|fail) only[go_sem,b0,b56,b58,bg,bh,b3,s1,s2,id]
     all_goals
      refine Q4t hP (hb1:=⟨3,tyr,Qad PV.rat (M a) i,true⟩) (hb2:=⟨3,tyr,Qad PV.rat (M b) i,true⟩) c5 T0 (γ1:=1600000+a) (γ2:=1600000+b) (T1 s1) (T1 s2) (by omega) (T1 hab2) (fun γ hγ=>by simpa[PV.refs,PV.sref]using hγ) (by simp) ?_
      simp+decide (disch:=first|omega|rfl|(simp+decide only[go_sem,b0,b56,b58,bg,bh,b3,s1,s2,id]<;>rfl)|fail) only[go_sem,b0,b56,b58,bg,bh,b3,s1,s2,id]
      refine Qa hP c3 rfl rfl rfl ?_
      simp+decide (disch:=first|omega|rfl|(simp+decide only[go_sem,b0,b56,b58,bg,bh,b3,s1,s2,id]<;>rfl)|fail) only[go_sem,b0,b56,b58,bg,bh,b3,s1,s2,id]
      refine Qa hP c4 rfl rfl rfl ?_
      simp+decide (disch:=first|omega|rfl|(simp+decide only[go_sem,b0,b56,b58,bg,bh,b3,s1,s2,id]<;>rfl)|fail) only[go_sem,b0,b56,b58,bg,bh,b3,s1,s2,id]
      refine Q4t hP (hb1:=⟨3,tyr,Qad PV.rat (M a) i,true⟩) (hb2:=⟨3,tyr,Qad PV.rat (M b) i,true⟩) c6 T0 (γ1:=1600000+a) (γ2:=1600000+b) (T1 s1) (T1 s2) (by omega) (T1 hab2) (fun γ hγ=>by simpa[PV.refs,PV.sref]using hγ) (by simp) ?_
      simp+decide (disch:=first|omega|rfl|(simp+decide only[go_sem,b0,b56,b58,bg,bh,b3,s1,s2,id]<;>rfl)|fail) only[go_sem,b0,b56,b58,bg,bh,b3,s1,s2,id]
      refine Qfd ?_
      simp+decide (disch:=try exact D0) only[go_sem]
      refine Qc ?_ ?_
      ·simp+decide (disch:=try exact E0) only[go_sem,Qac,List.contains_cons,List.contains_nil,List.flatMap_cons,List.flatMap_nil,List.append_nil]
       rw[hnx];rfl
      ·simp+decide (disch:=try exact E0) only[go_sem,Qac,List.contains_cons,List.contains_nil,List.flatMap_cons,List.flatMap_nil,List.append_nil]
    ·simp+decide (disch:=try exact D1 b58) only[go_sem,b58]
     refine Qa4 (i-(b+1)) (by omega) ⟨b+1,rfl,by omega,?_⟩
     simp+decide (disch:=try exact D5 b0 b56 bg bh b3) only[go_sem,b0,b56,bg,bh,b3]
     refine⟨br,fun j hj=> ?_⟩
     by_cases e:j=b
     ·subst e;exact Qav.1 (Classical.not_not.1 hs)
     ·exact bz j (by omega)
   ·simp+decide (disch:=try exact D0) only[go_sem]
    simp (disch:=decide) only[Qcb,Qci,Qbg,Qct]
    simp+decide (disch:=try exact D1 a50) only[go_sem,a50]
    refine Qa4 (i-(a+1)) (by omega) ⟨a+1,rfl,by omega,?_⟩
    simp+decide (disch:=try exact D4 b0 bg bh b3) only[go_sem,b0,bg,bh,b3]
    refine⟨br,fun j hj k hk=> ?_⟩
    by_cases e:j=a
    ·subst e;exact bz k (by omega)
    ·exact az j (by omega) k hk
  ·simp+decide (disch:=try exact D0) only[go_sem]
   refine Qfd ?_
   simp+decide (disch:=try exact D0) only[go_sem]
   refine⟨rfl,.sl 4 [],trivial,?_⟩
   unfold Qbf
   have e1:¬Qbp M i<i:=by
    have:Qbp M i=0+i:=Qhe fun j _ hj=>decide_eq_false (fun h=>by
     have:Qc3 M i j=0+i:=Qhe fun k _ hk=>decide_eq_false (fun h2=>h2 (az j (by omega) k (by omega)))
     omega)
    omega
   rw[if_neg hnd,if_neg e1]
   rfl
def c48:SFn:=⟨83,[.t 2,.cell 3 3 true,.t 4],Zr (Zo (.box 1 3 24 (.t 0))<|
 Zo (.mv 2 (.c .nilS))<|
 Zo (.alloc 3 3 24 (.agg [Zz 0,Zz 0,.nilS]))<|
 Zc 4 0 .nil)<| .seq (Zr (Zh 10 3 1<|
 Zq 11 false 52 [.t 10]<|
 Zu 12 11 .nil)<| .cond (.t 12) (Zr (Zo (.bld 13 [Zz 0,Zz 0,.nilS] [])<|
 Zo (.mv 2 (.c .nilS))<|
 Zs 3 3 13<|
 Zc 4 1 .nil) .ret) .skip)<|Zr (Zh 14 3 1<|
 Zq 15 false 54 [.t 14]<|
 Zm 5 15 .nil)<| .seq (Zr (Zf 16 0 1<|
 Zl 17 1 16<|
 Zf 18 1 1<|
 Zl 19 1 18<|
 Zb 20 .neq 17 19<|
 Zm 21 20<|
 Zg 21 false (.mv 22 (.t 5))<|
 Zg 21 false (.call (some 23) false (.c (.fn 115 [] [])) [.t 22])<|
 Zg 21 false (.un 24 .not (.t 23))<|
 Zo (.pick 25 (.t 21) (.c (.bool true)) (.t 24)) .nil)<| .cond (.t 25) (Zr (Zo (.bld 26 [Zz 0,Zz 0,.nilS] [])<|
 Zo (.mv 2 (.c .nilS))<|
 Zs 3 3 26<|
 Zc 4 16 .nil) .ret) .skip)<|Zr (Zf 27 1 1<|
 Zl 28 1 27<|
 Zf 29 1 3<|
 Zs 1 29 28 .nil)<| .seq (Zr (Zf 30 0 1<|
 Zl 31 1 30<|
 Zo (.bin 32 .mul false (.c (Zz 2)) (.t 31))<|
 Zc 33 0<|
 .wk<| .wk<| .wk .nil)<| .block 0<| .loop<|Zr (Zb 34 .lss 33 32 .nil)<| .seq (.cond (.t 34) .skip (.exit 0))<| .seq (.block 1<|Zr (Zm 35 5<|
 Zq 36 false 116 [.t 35]<|
 Zm 6 36 .nil)<|Zr (Zm 37 6<|
 Zn 38 37<|
 Zc 39 0 .nil)<| .block 2<| .loop<|Zr (Zb 40 .lss 39 38 .nil)<| .seq (.cond (.t 40) .skip (.exit 2))<| .seq (.block 3<|Zr (Zi 41 4 37 39<|
 Zh 42 4 41<|
 Zo (.alloc 8 4 133 (.agg [.bool false,.nilS,.nilS,.nilS]))<|
 Zs 4 8 42 .nil)<|Zr (Zm 43 2<|
 Zf 44 0 8<|
 Zh 45 3 44<|
 Zo (.bs 46 3 51 [.t 45])<|
 Zo (.app 47 3 56 51 (.t 43) (.t 46))<|
 Zm 2 47 .nil)<|Zr (Zf 48 2 3<|
 Zl 49 1 48<|
 Zf 50 3 8<|
 Zl 51 1 50<|
 Zo (.app 52 3 56 51 (.t 49) (.t 51))<|
 Zf 53 2 3<|
 Zs 1 53 52 .nil)<|Zr (Zf 54 0 3<|
 Zl 55 1 54<|
 Zk 56 .add 55 1<|
 Zf 57 0 3<|
 Zs 1 57 56 .nil)<|Zr (Zm 58 5<|
 Zn 59 58<|
 Zc 60 0 .nil)<| .block 4<| .loop<|Zr (Zb 61 .lss 60 59 .nil)<| .seq (.cond (.t 61) .skip (.exit 4))<| .seq (.block 5<|Zr (Zm 62 60<|
 Zm 9 62 .nil)<| .rg (Zm 63 5<|
 Zm 64 9<|
 Zi 65 1 63 64<|
 Zl 66 1 65<|
 Zf 67 3 8<|
 Zl 68 1 67<|
 Zf 69 0 8<|
 Zh 70 3 69<|
 Zf 71 3 8<|
 Zl 72 1 71<|
 Zm 73 9<|
 Zi 74 3 72 73<|
 Zh 75 3 74<|
 Zq 76 true 105 [.t 70,.t 75]<|
 Zq 77 false 117 [.t 66,.t 68,.t 76] .nil))<| .rg (Zk 78 .add 60 1<|
 Zm 60 78 .nil))<| .rg (Zk 79 .add 39 1<|
 Zm 39 79 .nil))<| .rg (Zk 80 .add 33 1<|
 Zm 33 80 .nil))<|Zr (Zm 81 2<|
 Zh 82 3 3<|
 .wk<|Zm 2 81<|
 Zs 3 3 82<|
 Zc 4 0 .nil) .ret⟩
theorem Qaaz:Qe Tryz.prog Tryz.f48=some c48.strip:=by kernel_rfl
theorem Q3l{x y:Nat->Rat}{c:Rat}{w ty1 k:Nat}(hw:0<w)(hw2:w<=2^30)(hx:∀i,i<w->rs (x i)<=k)(hy:∀i,i<w->rs (y i)<=k)(hc:rs c<=k)(hk:k<=2^33):
  Qcv Tryz.prog 117 [.ms 1000000 w,.sl 3 (Qad PV.rat y w),PV.rat c] (fun _=> .undef) (Qw hp0 1000000 ⟨3,ty1,Qad PV.rat x w,false⟩) (fun r F H=>Qgp r/\∃xs,H 1000000=some ⟨3,ty1,xs,false⟩/\xs.length=(Qad PV.rat x w).length/\(r= .tup []/\xs=Qad PV.rat (fun i=>x i-c*y i) w)):=by
 refine Qfe Qq Tryz.func117 rfl Q4o (by simp[Q02]) fun C hP=> ?_;simp only[Q02,Zo,Zg,Zm,Zc,Zf,Zl,Zh,Zs,Zi,Zb,Zk,Zn,Zu,Zq,Zr,Zz]
 simp+decide (disch:=try exact D0) only[go_sem]
 refine Qa hP (Qg0 (a:=c) (by omega)) rfl rfl rfl ?_
 simp+decide (disch:=try exact D0) only[go_sem]
 refine Qb (fun h0=> ?_) (fun h0=> ?_)
 ·simp+decide (disch:=try exact D0) only[go_sem]
  refine Qms ?_
  simp+decide (disch:=try exact D0) only[go_sem]
  refine⟨_,rfl,rfl,Qcr fun i hi=> ?_⟩
  rw[Qav.1 h0,Rat.zero_mul,Rat.sub_eq_add_neg,Rat.neg_zero,Rat.add_zero]
 simp+decide (disch:=try exact D0) only[go_sem]
 refine Qz (by repeat (first|exact Qn|exact Qi|exact Qj|exact Qk|exact Ql|apply Qh|apply Qm|apply Qt|apply Qx|apply Qy|apply Qg|apply Qr)) [(6,6),(12,29)] [] (fun n J hp=>∃i,n=w-i/\i<=w/\J 12= .int .i64 (i:Nat)/\hp 5=some ⟨3,51,[PV.rat c],false⟩/\hp 1000000=some ⟨3,ty1,Qad PV.rat (fun j=>if j<i then x j-c*y j else x j) w,false⟩) w ?_ ?_
 ·refine⟨0,rfl,by omega,?_⟩
  simp+decide (disch:=try exact D0) only[go_sem]
  exact⟨rfl,Qvd (Qcr fun k _=>(if_neg (Nat.not_lt_zero k)).symm)⟩
 rintro _ J h ⟨i,rfl,hi,h12,h5,hx1⟩
 simp+decide (disch:=try exact D1 h12) only[go_sem,h12]
 refine Qb (fun hg=> ?_) (fun hg=> ?_)
 ·have hi':i<w:=by omega
  have hm:=Qdc c (y i)
  have h1:=hx i hi'
  have h2:=hy i hi'
  simp+decide (disch:=try exact D3 h12 h5 hx1) only[go_sem,h12,h5,hx1]
  rw[if_neg (Nat.lt_irrefl i)]
  refine Qa hP (Qrn (k:=k) hc h2 (by omega)) rfl rfl rfl ?_
  simp+decide (disch:=try exact D3 h12 h5 hx1) only[go_sem,h12,h5,hx1]
  refine Qa hP (Qaht (k:=2*k) (by omega) (by omega) (by omega)) rfl rfl rfl ?_
  simp+decide (disch:=try exact D3 h12 h5 hx1) only[go_sem,h12,h5,hx1]
  rw[Qro hi']
  simp+decide (disch:=try exact D1 h12) only[go_sem,h12]
  refine Qo (w-(i+1)) (by omega) ⟨i+1,rfl,by omega,?_⟩
  simp+decide (disch:=try exact D1 h5) only[go_sem,h5]
  refine Qvd (Qcr fun k _=> ?_)
  by_cases e:k=i
  ·subst e;rw[if_pos rfl,if_pos (by omega)]
  ·rw[if_neg e]
   by_cases e2:k<i
   ·rw[if_pos e2,if_pos (by omega)]
   ·rw[if_neg e2,if_neg (by omega)]
 ·obtain rfl:i=w:=by omega
  simp+decide (disch:=try exact D1 h12) only[go_sem,h12]
  refine Qms ?_
  simp+decide (disch:=try exact D1 hx1) only[go_sem,hx1]
  exact⟨_,rfl,by rw[Qa0,Qa0],Qcr fun k hk=>if_pos hk⟩
theorem Qmu{R w x:Nat}{M:MF}{hp:HP}(h:x<3000000)(h2:¬x=2000000):Qi3 R w M hp x=hp x:=by
 unfold Qi3
 rw[if_neg h2,if_neg (by omega)]
abbrev Qph(R n:Nat):PV:= .rag [.int .i64 (n:Nat),.int .i64 (R:Nat),.mso 2000002 0 (n*R)]
abbrev Qtk(R:Nat)(l:List LF):PV:= .tup [PV.rats (l.map (·.1)),PV.mat l.length R (Qcj R l),.int .i64 0]
theorem Qagy{R K:Nat}{l:List Rat}(hl:l.length=R*R)(hR0:0<R)(hR2:R<=40)(hs:∀q∈l,rs q<=1048576)(hK:K<2^28)(hB:Q1q K R (2*R) (Qai l R))(hsym:Qhl (Qai l R) R):
  Qd Tryz.prog 48 [PV.mat R R l] (· =Qtk R (Qan R (Qai l R) (2*R)).2):=by
 refine Qea Qq Tryz.func48 rfl Qaaz (by simp[c48]) fun C hP=> ?_;simp only[c48,Zo,Zg,Zm,Zc,Zf,Zl,Zh,Zs,Zi,Zb,Zk,Zn,Zu,Zq,Zr,Zz]
 simp+decide (disch:=try exact D0) only[go_sem]
 refine Qa hP (Qk5 hl hR2 hR2 hs) rfl rfl rfl ?_
 simp+decide (disch:=try exact D0) only[go_sem]
 have hfree:∀(hp:HP),(∀x,5<=x->hp x=none)->∀x,nmR R x=true->hp x=none:=fun hp h x hx=>h x (by have:=Qmt hx;omega)
 refine Qx4 hP hl hR0 hR2 hR2 (by omega) (hfree _ (fun x hx=>by simp+decide (disch:=try exact D4 (show ¬x=1 from by omega) (show ¬x=2 from by omega) (show ¬x=3 from by omega) (show ¬x=4 from by omega)) only[go_sem,show ¬x=1 from by omega,show ¬x=2 from by omega,show ¬x=3 from by omega,show ¬x=4 from by omega]<;>rfl)) ?_
 simp+decide (disch:=first|omega|rfl|(simp+decide only[go_sem,Qek,Qfp,Qej]<;>rfl)|fail) only[go_sem,Qek,Qfp,Qej]
 have hB0:=hB 0 (by omega)
 have hx:=Q3k (K:=K) (ty:=22) (tyr:=51) hR2 (by omega) hB0.1
 repeat' first
  |refine Qda ?_ ?_
  |refine Q4x (ys:=fun r=>Qad PV.rat (Qai l R r) R) hP (by omega) hx (by simp[Q1m]) T0 (by simp+decide (disch:=first|omega|rfl|(simp+decide only[go_sem,Qnw]<;>rfl)|fail) only[go_sem,Qnw]) (fun r hr=>by simp+decide (disch:=first|omega|rfl|(simp+decide only[go_sem,Qkk]<;>rfl)|fail) only[go_sem,Qkk]) ?_
  |simp+decide (disch:=first|omega|rfl|(simp+decide only[go_sem,Qek,Qfp,Qej]<;>rfl)|fail) only[go_sem,Qek,Qfp,Qej]
 rw[show(Qan R (Qai l R) 0).1=Qai l R from rfl,decide_eq_true hsym]
 simp+decide (disch:=first|omega|rfl|(simp+decide only[go_sem,Qek,Qfp,Qej]<;>rfl)|fail) only[go_sem,Qek,Qfp,Qej]
 refine Qb4 (Qht 3 2000001 (by simp+decide (disch:=first|omega|rfl|(simp+decide only[go_sem,Qmu]<;>rfl)|fail) only[go_sem,Qmu]<;>rfl) (by omega) rfl (by omega)) ?_
 have hmv:rnP (mvN 3 2000001) (.nst 2000000 1 22 (Qak (Qbc 3000000 R R id)))= .nst 2000000 1 22 (Qak (Qbc 3000000 R R id)):=mv_P (by omega) (by omega) (by omega)
 simp+decide (disch:=try exact D1 hmv) only[go_sem,hmv]
 refine Qb4 (Qki (γ:=2000001) (e:=3) (ty:=24) (xs:=[.agg [.int .i64 0,.int .i64 (R:Nat),.nilS]]) (fz:=false) T0 (by simp) (by omega) (fun x hx=>by rw[List.mem_singleton.1 hx];rfl)) ?_
 refine Qb4 (Qpg (γ:=2000001) (e:=3) (ty:=24) (cs:=[.int .i64 0,.int .i64 (R:Nat),.nilS]) (cs':=[.int .i64 0,.int .i64 (R:Nat),.mso 2000002 0 0]) 2000002 3 51 T0 (by simp+decide (disch:=first|omega|rfl|(simp+decide only[go_sem,Qmu]<;>rfl)|fail) only[go_sem,Qmu]<;>rfl) (by omega) (by omega) rfl (by simp)) ?_
 simp+decide (disch:=try exact D0) only[go_sem]
 refine Qce 2 900 3 51 (by omega) T0 ?_
 obtain⟨M,hM⟩:∃M,Qai l R=M:=⟨_,rfl⟩
 rw[hM]at hB⊢
 refine Qbn (by repeat (first|exact Qn|exact Qi|exact Qj|exact Qk|exact Ql|apply Qh|apply Qm|apply Qt|apply Qx|apply Qy|apply Qg|apply Qr)) [(2,3),(5,6),(8,9),(33,80),(2000000,2000001)] [8,46,47,52,900] (fun q J hp=>∃k,q=2*R-k/\k<=2*R/\J 2= .ms 900 (Qan R M k).2.length/\J 3= .np 2000001 0 0/\J 5= .nso 2000000 0 R/\J 33= .int .i64 (k:Nat)/\J 2000000= .nst 2000000 1 22 (Qak (Qbc 3000000 R R id))/\J 2000001= .nst 2000001 3 24 [Qph R (Qan R M k).2.length]/\
   hp 2000000=some ⟨1,22,[],false⟩/\hp 2000001=some ⟨3,24,[],false⟩/\hp 2000002=some ⟨3,51,(Qcj R (Qan R M k).2).map PV.rat,false⟩/\hp 900=some ⟨3,51,((Qan R M k).2.map (·.1)).map PV.rat,false⟩/\
   ∀r,r<R->hp (3000000+r)=some ⟨3,51,Qad PV.rat ((Qan R M k).1 r) R,false⟩) (2*R) ?_ ?_
 ·refine⟨0,rfl,by omega,?_⟩
  simp+decide (disch:=first|omega|rfl|(simp+decide only[go_sem,Qek,Qfp,Qej]<;>rfl)|fail) only[go_sem,Qek,Qfp,Qej]
  refine⟨rfl,rfl,?_,Qnw,rfl,rfl,fun r hr=>Qkk hr⟩
  simp[Qan]
 rintro _ J h ⟨k,rfl,hk,j2,j3,j5,j33,jg,jb,h0,h1,h2,h9,hrow⟩
 simp+decide (disch:=try exact D1 j33) only[go_sem,j33]
 refine Qb (fun hc=> ?_) (fun hc=> ?_)
 ·have hk':k<2*R:=by omega
  have hBk:=hB k hk
  have hlk:=Qjz R M k
  have hfl:=Qeb R (Qan R M k).2
  have hn1:(Qan R M (k+1)).1=Qdf (Qan R M k).1 (Qbf (Qan R M k).1 R):=rfl
  have hn2:(Qan R M (k+1)).2=(Qan R M k).2++Qbf (Qan R M k).1 R:=rfl
  obtain⟨E,hE⟩:∃E,Qan R M k=E:=⟨_,rfl⟩
  rw[hE]at hBk hlk hfl hn1 hn2 j2 jb h2 h9 hrow
  obtain⟨N,fs⟩:=E
  simp only at hBk hlk hfl hn1 hn2 j2 jb h2 h9 hrow
  have hnl:=Ql5 N R
  have hx2:=Qaq3 (K:=K) (ty:=22) (tyr:=51) hR2 (by omega) hBk.1
  simp+decide (disch:=try exact D5 j2 j3 j5 jg jb) only[go_sem,j2,j3,j5,jg,jb]
  refine Q4x (ys:=fun r=>Qad PV.rat (N r) R) hP (by omega) hx2 (by simp[Q1m]) (T1 jg) h0 hrow ?_
  obtain⟨L,hL⟩:∃L,Qbf N R=L:=⟨_,rfl⟩
  rw[hL]at hBk hnl hn1 hn2⊢
  simp+decide (disch:=try exact D5 j2 j3 j5 jg jb) only[go_sem,j2,j3,j5,jg,jb]
  refine Qbn (by repeat (first|exact Qn|exact Qi|exact Qj|exact Qk|exact Ql|apply Qh|apply Qm|apply Qt|apply Qx|apply Qy|apply Qg|apply Qr)) [(2,3),(5,5),(8,9),(39,79),(2000000,2000001)] [8,46,47,52,900] (fun q J hp=>∃i,q=L.length-i/\i<=L.length/\J 2= .ms 900 (fs++L.take i).length/\J 3= .np 2000001 0 0/\J 5= .nso 2000000 0 R/\J 39= .int .i64 (i:Nat)/\J 2000000= .nst 2000000 1 22 (Qak (Qbc 3000000 R R id))/\J 2000001= .nst 2000001 3 24 [Qph R (fs++L.take i).length]/\
   hp 2000000=some ⟨1,22,[],false⟩/\hp 2000001=some ⟨3,24,[],false⟩/\hp 2000002=some ⟨3,51,(Qcj R (fs++L.take i)).map PV.rat,false⟩/\hp 900=some ⟨3,51,((fs++L.take i).map (·.1)).map PV.rat,false⟩/\
   ∀r,r<R->hp (3000000+r)=some ⟨3,51,Qad PV.rat (Qdf N (L.take i) r) R,false⟩) L.length ?_ ?_
  ·refine⟨0,rfl,by omega,?_⟩
   simp+decide (disch:=try exact D9 j2 j3 j5 jg jb h0 h1 h2 h9) only[go_sem,j2,j3,j5,jg,jb,h0,h1,h2,h9]
   simp only[List.append_nil]
   exact⟨trivial,rfl,trivial,trivial,trivial,hrow⟩
  rintro _ J1 g ⟨i,rfl,hi,i2,i3,i5,i39,ig,ib,g0,g1,g2,g9,growr⟩
  simp+decide (disch:=try exact D1 i39) only[go_sem,i39]
  refine Qb (fun hci=> ?_) (fun hci=> ?_)
  ·have hi':i<L.length:=by omega
   have htk:L.take (i+1)=L.take i++[L[i]]:=List.take_succ_eq_append_getElem hi'
   have hfb:=hBk.2.1 _ (List.getElem_mem hi')
   have hMb:=hBk.2.2 i hi
   have hll:(fs++L.take i).length<=200:=by
    rw[List.length_append,List.length_take];omega
   have hfl2:=Qeb R (fs++L.take i)
   generalize hf:L[i]=f at *
   have hsn:=Qpe N (L.take i) f
   have hfsn:=Qpf R (fs++L.take i) f
   have hTk:fs++L.take (i+1)=(fs++L.take i)++[f]:=by rw[htk,<-List.append_assoc]
   rw[<-htk]at hsn
   generalize hT:fs++L.take i=T at *
   generalize hZ:Qdf N (L.take i)=Z at *
   have hTR:T.length*R<=200*40:=Nat.mul_le_mul hll hR2
   have hrl:(Qad PV.rat f.2 R).length=R:=Qa0 _ _ _
   simp+decide (disch:=try exact D11 i2 i3 i5 i39 ig ib g0 g1 g2 g9 hf) only[go_sem,i2,i3,i5,i39,ig,ib,g0,g1,g2,g9,hf]
   rw[Qaf (f:=PV.rat) (y:=f.1) (xs:=T.map (·.1)) (ty':=51) (fz:=false) (T1 g9) T0 (by omega) (by simp) (by omega) (by omega)]
   simp+decide (disch:=try exact D10 i2 i3 i5 i39 ig ib g0 g1 g2 g9) only[go_sem,i2,i3,i5,i39,ig,ib,g0,g1,g2,g9]
   rw[Q1r (xs:=(Qcj R T).map PV.rat) (T1 g2) (by omega) (by rw[List.length_map,hfl2]) (Qnt hR0) (by rw[hrl];omega) (by rw[hrl];omega) (by omega),hrl]
   simp+decide (disch:=try exact D10 i2 i3 i5 i39 ig ib g0 g1 g2 g9) only[go_sem,i2,i3,i5,i39,ig,ib,g0,g1,g2,g9]
   obtain⟨g8,hg8⟩:∃g8,g8=HB.mk 4 133 [PV.form R f] false:=⟨_,rfl⟩
   refine Qbn (by repeat (first|exact Qn|exact Qi|exact Qj|exact Qk|exact Ql|apply Qh|apply Qm|apply Qt|apply Qx|apply Qy|apply Qg|apply Qr)) [(3,3),(5,5),(9,9),(60,78),(2000000,2000001)] [] (fun q J hp=>∃r,q=R-r/\r<=R/\J 3= .np 2000001 0 0/\J 5= .nso 2000000 0 R/\J 60= .int .i64 (r:Nat)/\J 2000000= .nst 2000000 1 22 (Qak (Qbc 3000000 R R id))/\J 2000001= .nst 2000001 3 24 [Qph R (T.length+1)]/\
    hp 2000000=some ⟨1,22,[],false⟩/\hp 2000001=some ⟨3,24,[],false⟩/\hp 2000002=some ⟨3,51,(Qcj R (T++[f])).map PV.rat,false⟩/\hp 900=some ⟨3,51,((T++[f]).map (·.1)).map PV.rat,false⟩/\hp 8=some g8/\
    ∀r',r'<R->hp (3000000+r')=some ⟨3,51,Qad PV.rat (if r'<r then Qc1 Z f r' else Z r') R,false⟩) R ?_ ?_
   ·refine⟨0,rfl,by omega,?_⟩
    simp+decide (disch:=try exact D10 i2 i3 i5 i39 ig ib g0 g1 g2 g9) only[go_sem,i2,i3,i5,i39,ig,ib,g0,g1,g2,g9]
    refine⟨rfl,?_,?_,?_,hg8.symm,fun r' hr'=> ?_⟩
    ·have e1:T.length*R+R=(T.length+1)*R:=by rw[Nat.add_mul,Nat.one_mul]
     rw[e1]
    ·rw[hfsn,List.map_append,Qg2]
    ·simp
    ·rw[if_neg (by omega)];exact growr r' hr'
   rintro _ J2 e ⟨r,rfl,hr,k3,k5,k60,kg,kb,e0,e1,e2,e9,e8,erow⟩
   simp+decide (disch:=try exact D1 k60) only[go_sem,k60]
   refine Qb (fun hcr=> ?_) (fun hcr=> ?_)
   ·have hr':r<R:=by omega
    have er:=erow r hr'
    rw[if_neg (Nat.lt_irrefl r)]at er
    simp+decide (disch:=first|omega|rfl|(simp+decide only[go_sem,k3,k5,k60,kg,kb,e0,e1,e2,e9,e8,hg8,er,id]<;>rfl)|fail) only[go_sem,k3,k5,k60,kg,kb,e0,e1,e2,e9,e8,hg8,er,id]
    have hm:=Qdc f.1 (f.2 r)
    have hfr:=hfb.2 r hr'
    refine Qa hP (Qrn (a:=f.1) (b:=f.2 r) (k:=K) hfb.1 hfr (by omega)) rfl rfl rfl ?_
    simp+decide (disch:=first|omega|rfl|(simp+decide only[go_sem,k3,k5,k60,kg,kb,e0,e1,e2,e9,e8,hg8,er,id]<;>rfl)|fail) only[go_sem,k3,k5,k60,kg,kb,e0,e1,e2,e9,e8,hg8,er,id]
    have sub:=Q3l (w:=R) (x:=Z r) (y:=f.2) (c:=f.1*f.2 r) (ty1:=51) (k:=2*K) hR0 (by omega) (fun c hc=>by have:=hMb r hr' c hc;omega) (fun c hc=>by have:=hfb.2 c hc;omega) (by omega) (by omega)
    refine Qams hP sub er rfl (Qnt hR0) (by simp[isB];omega) T0 (fun γ hγ=>by simpa[PV.refs,PV.sref]using hγ) (by simp) ?_
    rintro _ xs _ ⟨rfl,rfl⟩
    simp+decide (disch:=try exact D1 k60) only[go_sem,k60]
    refine Qa4 (R-(r+1)) (by omega) ⟨r+1,rfl,by omega,?_⟩
    simp+decide (disch:=try exact D9 k3 k5 kg kb e0 e1 e2 e9 e8) only[go_sem,k3,k5,kg,kb,e0,e1,e2,e9,e8]
    refine⟨hg8,fun r' hr2=> ?_⟩
    by_cases e3:r'=r
    ·subst e3
     rw[if_pos rfl,if_pos (by omega)]
     rfl
    ·rw[if_neg e3,erow r' hr2]
     by_cases e4:r'<r
     ·rw[if_pos e4,if_pos (by omega)]
     ·rw[if_neg e4,if_neg (by omega)]
   ·have hrR:r=R:=by omega
    subst hrR
    rw[Qcb]
    rotate_left
    ·decide
    simp+decide (disch:=try exact D1 i39) only[go_sem,i39]
    refine Qa4 (L.length-(i+1)) (by omega) ⟨i+1,rfl,by omega,?_⟩
    rw[hTk,hsn]
    simp+decide (disch:=try exact D9 i2 k3 k5 kg kb e0 e1 e2 e9) only[go_sem,i2,k3,k5,kg,kb,e0,e1,e2,e9]
    rw[List.length_append]
    exact⟨rfl,rfl,fun r' hr'=>by rw[erow r' hr',if_pos hr']⟩
  ·have hiL:i=L.length:=by omega
   subst hiL
   rw[List.take_length]at i2 ib g2 g9 growr
   simp (disch:=decide) only[Qcb,Qci,Qbg,Qct]
   simp+decide (disch:=try exact D1 j33) only[go_sem,j33]
   refine Qa4 (2*R-(k+1)) (by omega) ⟨k+1,rfl,by omega,?_⟩
   rw[hn1,hn2]
   simp+decide (disch:=try exact D9 i2 i3 i5 ig ib g0 g1 g2 g9) only[go_sem,i2,i3,i5,ig,ib,g0,g1,g2,g9]
   exact growr
 ·have hkR:k=2*R:=by omega
  subst hkR
  simp+decide (disch:=try exact D9 j2 j3 j5 jg jb h0 h1 h2 h9) only[go_sem,j2,j3,j5,jg,jb,h0,h1,h2,h9]
  have hfl:=Qeb R (Qan R M (2*R)).2
  have hml:(Qcj R (Qan R M (2*R)).2).map PV.rat=(Qcj R (Qan R M (2*R)).2).map PV.rat:=rfl
  refine Qnx 82 2 [2000002] (p:=Qph R (Qan R M (2*R)).2.length) T0 (D:=PV.mat (Qan R M (2*R)).2.length R (Qcj R (Qan R M (2*R)).2)) ?_ ?_ rfl ?_
  ·intro c hc
   simp only[List.mem_cons,List.not_mem_nil,or_false]at hc
   rcases hc with rfl|rfl|rfl
   ·trivial
   ·trivial
   ·simp only[okD,isY];simp
  ·show PV.agg [_,_,dsn _ h 2 (.mso 2000002 0 _)]=_
   simp only[dsn,h2,List.drop_zero]
   rw[List.take_of_length_le (by rw[List.length_map,hfl];omega)]
  simp+decide (disch:=try exact E5 j2 j3 jb h1 h9) only[go_sem,j2,j3,jb,h1,h9,Qac,List.contains_cons,List.contains_nil,List.flatMap_cons,List.flatMap_nil,List.append_nil]
  refine Q4d (Qaqz (γ:=2000001) (e:=3) (ty:=24) (xs:=[PV.mat (Qan R M (2*R)).2.length R (Qcj R (Qan R M (2*R)).2)]) 3 T0 (Tr1 j3) rfl (fun x hx=>by rw[List.mem_singleton.1 hx];exact⟨rfl,rfl,fun c hc=>by
   simp only[PV.ncells,PV.cells,List.mem_cons,List.not_mem_nil,or_false]at hc
   rcases hc with rfl|rfl|rfl<;>rfl⟩)) ?_
  refine Q5x ?_
  simp+decide (disch:=try exact E1 h9) only[go_sem,h9,Qac,List.contains_cons,List.contains_nil,List.flatMap_cons,List.flatMap_nil,List.append_nil]
  rw[List.take_of_length_le (by simp)]
  exact Qhi rfl rfl rfl rfl (Qab _) (Qab _) (Qab _)
theorem Qaa0{p:List Tm}{i:Nat}(h:i<p.length):Qta (p.take (i+1))=max (Qta (p.take i)) (Qgi p[i].2):=by
 rw[List.take_succ_eq_append_getElem h,Qta,List.foldl_append];rfl
theorem Qyo{p:List Tm}{K E:Nat}(hp:PB K E p)(hE:E<=2^38)(hlp:p.length<=2^36):Qd Tryz.prog 43 [PV.poly p] (· = .int .i64 (Qta p)):=by
 refine Qf Qq Tryz.func43 rfl Qapi (by simp[c43]) fun C hP=> ?_;simp only[c43,Zo,Zg,Zm,Zc,Zf,Zl,Zh,Zs,Zi,Zb,Zk,Zn,Zu,Zq,Zr,Zz]
 simp+decide (disch:=try exact D0) only[go_sem]
 refine Qz (by repeat (first|exact Qn|exact Qi|exact Qj|exact Qk|exact Ql|apply Qh|apply Qm|apply Qt|apply Qx|apply Qy|apply Qg)) [(3,3),(5,5),(8,17)] [5] (fun n J hp=>∃i,n=p.length-i/\i<=p.length/\J 3= .int .i64 (Qta (p.take i))/\J 8= .int .i64 (i:Nat)) p.length ?_ ?_
 ·refine⟨0,rfl,by omega,?_⟩
  simp+decide (disch:=try exact D0) only[go_sem]
  simp[Qta]
 rintro _ J h ⟨i,rfl,hi,h3,h8⟩
 simp+decide (disch:=try exact D2 h3 h8) only[go_sem,h3,h8]
 refine Qb (fun hg=> ?_) (fun hg=> ?_)
 ·have hi':i<p.length:=by omega
  have htp:=hp.get hi'
  have htk:=Qaa0 hi'
  generalize hx:p[i]=x at *
  have hl:=htp.m.len
  have hd:=Qwe htp.m
  simp+decide (disch:=try exact D3 h3 h8 hx) only[go_sem,h3,h8,hx]
  refine Qa hP (Qkq (a:=x.2) (by omega) (fun y hy=>⟨htp.m.lo y hy,by have:=htp.m.hi y hy;omega⟩)) rfl rfl rfl ?_
  simp+decide (disch:=try exact D3 h3 h8 hx) only[go_sem,h3,h8,hx]
  refine Qo (p.length-(i+1)) (by omega) ⟨i+1,rfl,by omega,?_⟩
  rw[htk]
  simp+decide (disch:=try exact D0) only[go_sem]
 ·obtain rfl:i=p.length:=by omega
  rw[List.take_length]at h3
  simp+decide (disch:=try exact D1 h3) only[go_sem,h3]
  exact Qc rfl rfl
theorem Q3m{p:List Tm}{E:Nat}(hp:∀t∈p,MB E t.2)(hlp:p.length<=2^36):Qd Tryz.prog 44 [PV.poly p] (· =PV.mono (Qahs p)):=by
 refine Qf Qq Tryz.func44 rfl Qapj (by simp[c44]) fun C hP=> ?_;simp only[c44,Zo,Zg,Zm,Zc,Zf,Zl,Zh,Zs,Zi,Zb,Zk,Zn,Zu,Zq,Zr,Zz]
 simp+decide (disch:=try exact D0) only[go_sem]
 refine Qz (by repeat (first|exact Qn|exact Qi|exact Qj|exact Qk|exact Ql|apply Qh|apply Qm|apply Qt|apply Qx|apply Qy|apply Qg)) [(5,7),(13,34)] [5] (fun n J hp=>∃i,n=p.length-i/\i<=p.length/\J 13= .int .i64 (i:Nat)/\hp 3=some ⟨64,128,[.agg ((Qgk 64 (Qei (p.take i))).map PV.bool)],false⟩) p.length ?_ ?_
 ·refine⟨0,rfl,by omega,?_⟩
  simp+decide (disch:=try exact D0) only[go_sem]
  exact⟨rfl,rfl⟩
 rintro _ J h ⟨i,rfl,hi,h13,hh⟩
 simp+decide (disch:=try exact D1 h13) only[go_sem,h13]
 refine Qb (fun hg=> ?_) (fun hg=> ?_)
 ·have hi':i<p.length:=by omega
  have htp:=hp _ (List.getElem_mem hi')
  have htk:=Q9x hi'
  generalize hx:p[i]=x at *
  have hml:=htp.len
  simp+decide (disch:=try exact D2 h13 hx) only[go_sem,h13,hx]
  refine Qz (by repeat (first|exact Qn|exact Qi|exact Qj|exact Qk|exact Ql|apply Qh|apply Qm|apply Qt|apply Qx|apply Qy|apply Qg)) [(6,7),(20,33)] [] (fun n J hp=>∃j,n=x.2.length-j/\j<=x.2.length/\J 20= .int .i64 (j:Nat)/\hp 3=some ⟨64,128,[.agg ((Qgk 64 (fun v=>Qei (p.take i) v||(decide (v<j)&&decide (eN x.2 v≠0)))).map PV.bool)],false⟩) x.2.length ?_ ?_
  ·refine⟨0,rfl,by omega,?_⟩
   simp+decide (disch:=try exact D1 hh) only[go_sem,hh]
   exact⟨rfl,by simp⟩
  rintro _ J2 h2 ⟨j,rfl,hj,h20,hh2⟩
  simp+decide (disch:=try exact D1 h20) only[go_sem,h20]
  refine Qb (fun hg2=> ?_) (fun hg2=> ?_)
  ·have hj':j<x.2.length:=by omega
   have he:=Qde hj'
   generalize hy:x.2[j]=y at *
   simp+decide (disch:=try exact D2 h20 hy) only[go_sem,h20,hy]
   refine Qaw (fun hz=> ?_) (fun hz=> ?_)
   ·simp+decide (disch:=try exact D2 h20 hy) only[go_sem,h20,hy]
    refine Qb (fun _=> ?_) (fun h=>by omega)
    simp+decide (disch:=first|omega|rfl|(simp+decide only[go_sem,h20,hy,hh2,Q4h (show j<64 by omega),Nat.mul_one]<;>rfl)|fail) only[go_sem,h20,hy,hh2,Q4h (show j<64 by omega),Nat.mul_one]
    refine Qo (x.2.length-(j+1)) (by omega) ⟨j+1,rfl,by omega,?_⟩
    have hset:=Qaeu (n:=64) (h:=fun v=>Qei (p.take i) v||(decide (v<j)&&decide (eN x.2 v≠0))) (g:=fun v=>Qei (p.take i) v||(decide (v<j+1)&&decide (eN x.2 v≠0))) (show j<64 by omega) (fun v hv=>by
     by_cases hvj:v=j
     ·subst hvj
      simp[he,hz]
     ·rw[if_neg hvj,decide_eq_decide.2 (show v<j+1↔v<j by omega)])
    rw[<-hset]
    simp+decide (disch:=try exact D0) only[go_sem]
   ·simp+decide (disch:=try exact D2 h20 hy) only[go_sem,h20,hy]
    refine Qo (x.2.length-(j+1)) (by omega) ⟨j+1,rfl,by omega,?_⟩
    have hc:=Quu (n:=64) (h:=fun v=>Qei (p.take i) v||(decide (v<j+1)&&decide (eN x.2 v≠0))) (g:=fun v=>Qei (p.take i) v||(decide (v<j)&&decide (eN x.2 v≠0))) (fun v hv=>by
     by_cases hvj:v=j
     ·subst hvj
      simp[he,Decidable.not_not.1 hz]
     ·show(_||_)=_
      rw[decide_eq_decide.2 (show v<j+1↔v<j by omega)])
    rw[hc]
    simp+decide (disch:=try exact D1 hh2) only[go_sem,hh2]
  ·obtain rfl:j=x.2.length:=by omega
   have hc:=Quu (n:=64) (h:=Qei (p.take (i+1))) (g:=fun v=>Qei (p.take i) v||(decide (v<x.2.length)&&decide (eN x.2 v≠0))) (fun v hv=>by
    rw[htk]
    by_cases hvj:v<x.2.length
    ·simp[hvj]
    ·rw[Qed (by omega)];simp)
   simp+decide (disch:=try exact D2 h13 h20) only[go_sem,h13,h20]
   simp (disch:=decide) only[Qa3,Qbg]
   refine Qo (p.length-(i+1)) (by omega) ⟨i+1,rfl,by omega,?_⟩
   rw[hc]
   simp+decide (disch:=try exact D1 hh2) only[go_sem,hh2]
 ·obtain rfl:i=p.length:=by omega
  rw[List.take_length]at hh
  have htb:=Q6j (Qjw 64 (Qei p))
  simp+decide (disch:=try exact D3 h13 hh htb) only[go_sem,h13,hh,htb]
  refine Qce 8 900 1 3 (by omega) T0 ?_
  refine Qz (by repeat (first|exact Qn|exact Qi|exact Qj|exact Qk|exact Ql|apply Qh|apply Qm|apply Qt|apply Qx|apply Qy|apply Qg)) [(8,10),(36,45)] [43,44,900] (fun n J hp=>∃k,n=64-k/\k<=64/\J 8= .ms 900 (Qiy k (Qei p)).length/\J 36= .int .i64 (k:Nat)/\hp 900=some ⟨1,3,Qkn (Qiy k (Qei p)),false⟩) 64 ?_ ?_
  ·refine⟨0,rfl,by omega,?_⟩
   simp+decide (disch:=try exact D0) only[go_sem]
   exact⟨rfl,rfl,rfl⟩
  rintro _ J3 h3 ⟨k,rfl,hk,h8,h36,hh3⟩
  have hpl:=Qyg k (Qei p)
  have hps:=Q21 k (Qei p)
  simp+decide (disch:=try exact D2 h8 h36) only[go_sem,h8,h36]
  refine Qb (fun hg3=> ?_) (fun hg3=> ?_)
  ·have hk':k<64:=by omega
   have hrl:k<(Qgk 64 (Qei p)).length:=by rw[Qjw];exact hk'
   have hrg:=Qaet hrl
   simp+decide (disch:=first|omega|rfl|(simp+decide only[go_sem,h8,h36,Q0t (Qjw 64 (Qei p)) hrl,hrg]<;>rfl)|fail) only[go_sem,h8,h36,Q0t (Qjw 64 (Qei p)) hrl,hrg]
   cases hb:Qei p k
   ·rw[if_neg (by simp[hb]),List.append_nil]at hps
    simp+decide (disch:=try exact D2 h8 h36) only[go_sem,h8,h36]
    refine Qo (64-(k+1)) (by omega) ⟨k+1,rfl,by omega,?_⟩
    rw[hps]
    simp+decide (disch:=try exact D2 hh3 h8) only[go_sem,hh3,h8]
   ·rw[if_pos hb]at hps
    simp+decide (disch:=try exact D2 h8 h36) only[go_sem,h8,h36]
    rw[Qaf (f:=fun(x:Int)=> .int .i64 x) (y:=(k:Int)) (xs:=Qiy k (Qei p)) (ty':=3) (fz:=false) (T1 hh3) Tr0 (by omega) rfl (by omega) (by omega)]
    simp+decide (disch:=try exact D2 h8 h36) only[go_sem,h8,h36]
    refine Qo (64-(k+1)) (by omega) ⟨k+1,rfl,by omega,?_⟩
    rw[hps]
    simp+decide (disch:=first|omega|rfl|(simp+decide only[go_sem,List.length_append]<;>rfl)|fail) only[go_sem,List.length_append]
  ·obtain rfl:k=64:=by omega
   simp+decide (disch:=try exact E2 h8 hh3) only[go_sem,h8,hh3,Qac,List.contains_cons,List.contains_nil,List.flatMap_cons,List.flatMap_nil,List.append_nil]
   exact Qc (by rw[List.take_of_length_le (by simp)];rfl) rfl
abbrev I64'(x:Int):Prop:= -9223372036854775808<=x/\x<=9223372036854775807
theorem Qjm{l:List Rat}{k m r c:Nat}(hk:1<=k)(h:∀q∈l,rs q<=k):rs (Qai l m r c)<=k:=by
 unfold Qai
 rw[List.getD_eq_getElem?_getD]
 cases hq:l[r*m+c]? with
 |none=>have:=Qz8;show rs 0<=k;omega
 |some q=>exact h q (List.mem_of_getElem? hq)
theorem Qamz{R m:Nat}(h:R*m<=25):R<=5∨m<=5:=by
 refine Classical.byContradiction fun hn=> ?_
 have:6*6<=R*m:=Nat.mul_le_mul (by omega) (by omega)
 omega
def c153:SFn:=⟨52,[.cell 2 3 true,.t 3],Zr (Zo (.box 1 3 24 (.t 0))<|
 Zo (.alloc 2 3 24 (.agg [Zz 0,Zz 0,.nilS]))<|
 Zc 3 0 .nil)<| .seq (Zr (Zh 7 3 1<|
 Zq 8 false 52 [.t 7]<|
 Zu 9 8 .nil)<| .cond (.t 9) (Zr (Zo (.bld 10 [Zz 0,Zz 0,.nilS] [])<|
 Zs 3 2 10<|
 Zc 3 1 .nil) .ret) .skip)<|Zr (Zf 11 1 1<|
 Zl 12 1 11<|
 Zf 13 0 1<|
 Zl 14 1 13<|
 Zf 15 2 1<|
 Zl 16 1 15<|
 Zn 17 16<|
 .br (Zo (.mk 18 3 56 51 (.agg [.bool false,.nilS,.nilS]) (.t 17) (.t 17))<|
 .wk<|Zo (.bld 19 [Zz 0,Zz 0,.nilS] [(0,1,.t 12),(1,1,.t 14),(2,1,.t 18)])<|
 Zo (.alloc 4 3 24 (.agg [Zz 0,Zz 0,.nilS]))<|
 .wk<| .wk<|Zs 3 4 19 .nil) (Zo (.alloc 4 3 24 (.agg [Zz 0,Zz 0,.nilS]))<|
 .wk<| .wk<|Zo (.mk 18 3 56 51 (.agg [.bool false,.nilS,.nilS]) (.t 17) (.t 17))<|
 .wk<|Zo (.bld 19 [Zz 0,Zz 0,.nilS] [(0,1,.t 12),(1,1,.t 14),(2,1,.t 18)])<|
 Zs 3 4 19 .nil))<| .seq (Zr (Zf 20 0 1<|
 Zl 21 1 20<|
 Zc 22 0 .nil)<| .block 0<| .loop<|Zr (Zb 23 .lss 22 21 .nil)<| .seq (.cond (.t 23) .skip (.exit 0))<| .seq (.block 1<|Zr (Zm 24 22<|
 Zm 5 24 .nil)<|Zr (Zf 25 1 1<|
 Zl 26 1 25<|
 Zc 27 0 .nil)<| .block 2<| .loop<|Zr (Zb 28 .lss 27 26 .nil)<| .seq (.cond (.t 28) .skip (.exit 2))<| .seq (.block 3<|Zr (Zm 29 27<|
 Zm 6 29 .nil)<| .rg (Zf 30 2 4<|
 Zl 31 1 30<|
 Zm 32 6<|
 Zf 33 0 1<|
 Zl 34 1 33<|
 Zb 35 .mul 32 34<|
 Zm 36 5<|
 Zb 37 .add 35 36<|
 Zf 38 2 1<|
 Zl 39 1 38<|
 Zm 40 5<|
 Zf 41 1 1<|
 Zl 42 1 41<|
 Zb 43 .mul 40 42<|
 Zm 44 6<|
 Zb 45 .add 43 44<|
 Zi 46 3 39 45<|
 Zh 47 3 46<|
 Zi 48 3 31 37<|
 Zs 3 48 47 .nil))<| .rg (Zk 49 .add 27 1<|
 Zm 27 49 .nil))<| .rg (Zk 50 .add 22 1<|
 Zm 22 50 .nil))<|Zr (Zh 51 3 4<|
 .wk<|Zs 3 2 51<|
 Zc 3 0 .nil) .ret⟩
theorem Qam0:Qe Tryz.prog Tryz.f153=some c153.strip:=by kernel_rfl
def c158:SFn:=⟨38,[.cell 2 3 true,.t 3],Zr (Zo (.box 1 3 24 (.t 0))<|
 Zo (.alloc 2 3 24 (.agg [Zz 0,Zz 0,.nilS]))<|
 Zc 3 0 .nil)<| .seq (Zr (Zh 7 3 1<|
 Zq 8 false 57 [.t 7]<|
 Zu 9 8 .nil)<| .cond (.t 9) (Zr (Zo (.bld 10 [Zz 0,Zz 0,.nilS] [])<|
 Zs 3 2 10<|
 Zc 3 1 .nil) .ret) .skip)<|Zr (Zf 11 1 1<|
 Zl 12 1 11<|
 Zf 13 0 1<|
 Zl 14 1 13<|
 Zo (.bld 15 [Zz 0,Zz 0,.nilS] [(0,1,.t 12),(1,1,.t 14)])<|
 Zo (.alloc 4 3 24 (.agg [Zz 0,Zz 0,.nilS]))<|
 .wk<| .wk<|Zs 3 4 15 .nil)<| .seq (Zr (Zc 5 0<|
 .wk .nil)<| .block 0<| .loop<| .seq (Zr (Zm 16 5<|
 Zf 17 1 1<|
 Zl 18 1 17<|
 Zb 19 .lss 16 18 .nil)<| .cond (.t 19) .skip (.exit 0))<| .seq (.block 1<|Zr (Zc 6 0 .nil)<| .block 2<| .loop<| .seq (Zr (Zm 22 6<|
 Zf 23 0 1<|
 Zl 24 1 23<|
 Zb 25 .lss 22 24 .nil)<| .cond (.t 25) .skip (.exit 2))<| .seq (.block 3<| .rg (Zf 28 2 4<|
 Zl 29 1 28<|
 Zh 30 3 1<|
 Zm 31 6<|
 Zm 32 5<|
 Zq 33 true 201 [.t 30,.t 31,.t 32]<|
 Zo (.bs 34 3 51 [.t 33])<|
 Zo (.app 35 3 56 51 (.t 29) (.t 34))<|
 Zf 36 2 4<|
 Zs 1 36 35 .nil))<| .rg (Zm 26 6<|
 Zk 27 .add 26 1<|
 Zm 6 27 .nil))<| .rg (Zm 20 5<|
 Zk 21 .add 20 1<|
 Zm 5 21 .nil))<|Zr (Zh 37 3 4<|
 .wk<|Zs 3 2 37<|
 Zc 3 0 .nil) .ret⟩
theorem Qam1:Qe Tryz.prog Tryz.f158=some c158.strip:=by kernel_rfl
def trF(l:List Rat)(R m:Nat):Nat->Rat:=fun j=>Qai l m (j%R) (j/R)
def trL(l:List Rat)(R m:Nat):List Rat:=(List.range (m*R)).map (trF l R m)
theorem Qhh(l:List Rat)(R m:Nat):(trL l R m).length=m*R:=by simp[trL]
theorem Qam2{R i i' k k':Nat}(hi:i<R)(hi':i'<R)(h:k'*R+i'=k*R+i):k'=k/\i'=i:=by
 have h1:(k'*R+i')/R=(k*R+i)/R:=by rw[h]
 have hR:0<R:=by omega
 rw[Nat.add_comm,Nat.add_mul_div_right _ _ hR,Nat.add_comm (k*R),Nat.add_mul_div_right _ _ hR,Nat.div_eq_of_lt hi',Nat.div_eq_of_lt hi]at h1
 have h2:k'=k:=by omega
 subst h2
 exact⟨rfl,by omega⟩
theorem Qrp{R m i k:Nat}(hi:i<R)(hk:k<m):k*R+i<R*m:=by
 have h1:(k+1)*R<=m*R:=Nat.mul_le_mul_right _ hk
 rw[Nat.add_mul,Nat.one_mul,Nat.mul_comm m R]at h1
 omega
theorem Qaa1{l:List Rat}{R m i k:Nat}(hi:i<R):trF l R m (k*R+i)=Qai l m i k:=by
 have hR:0<R:=by omega
 unfold trF
 rw[Nat.add_comm,Nat.add_mul_mod_self_right,Nat.mod_eq_of_lt hi,Nat.add_mul_div_right _ _ hR,Nat.div_eq_of_lt hi,Nat.zero_add]
theorem Q3n{R m:Nat}{l:List Rat}(hl:l.length=R*m)(hR2:R<=40)(hm:m<=40)(hs:∀q∈l,rs q<=1048576):Qd Tryz.prog 153 [PV.mat R m l] (· = .tup [PV.mat m R (trL l R m),.int .i64 0]):=by
 have hRm:R*m<=40*40:=Nat.mul_le_mul hR2 hm
 have hmR:m*R=R*m:=Nat.mul_comm _ _
 refine Qea Qq Tryz.func153 rfl Qam0 (by simp[c153]) fun C hP=> ?_;simp only[c153,Zo,Zg,Zm,Zc,Zf,Zl,Zh,Zs,Zi,Zb,Zk,Zn,Zu,Zq,Zr,Zz]
 simp+decide (disch:=try exact D0) only[go_sem]
 refine Qa hP (Qk5 hl hR2 hm hs) rfl rfl rfl ?_
 simp+decide (disch:=try exact D1 hl) only[go_sem,hl]
 have hz:([.agg [.int .i64 0,.int .i64 0,.nilS]]:List PV)≠[]:=by simp
 have hzd:∀x∈([.agg [.int .i64 0,.int .i64 0,.nilS]]:List PV),x.ncells=x.cells:=fun x hx=>by rw[List.mem_singleton.1 hx];rfl
 have hmb:rnP (mvN 18 2000002) (.nst 2000001 3 24 [.agg [.int .i64 0,.int .i64 0,.nilS]])= .nst 2000001 3 24 [.agg [.int .i64 0,.int .i64 0,.nilS]]:=by
  simp[rnP,mvN,PV.ncells,PV.cells,rn1,Qdu,Qgl,PV.isRefC]
 refine Qda ?_ ?_
 case' refine_1=>
  simp+decide (disch:=try exact D1 hl) only[go_sem,hl]
  refine Qb4 (Qht 18 2000002 Tr0 (by omega) rfl (by omega)) ?_
  simp+decide (disch:=try exact D1 hl) only[go_sem,hl]
  refine Qb4 (Qht 4 2000001 Tr0 (by omega) rfl (by omega)) ?_
  simp+decide (disch:=try exact D1 hl) only[go_sem,hl]
  refine Qb4 (Qki (γ:=2000001) (e:=3) (ty:=24) (fz:=false) T0 hz (by omega) hzd) ?_
  simp+decide (disch:=try exact D1 hl) only[go_sem,hl]
 case' refine_2=>
  simp+decide (disch:=try exact D1 hl) only[go_sem,hl]
  refine Qb4 (Qht 4 2000001 Tr0 (by omega) rfl (by omega)) ?_
  simp+decide (disch:=try exact D1 hl) only[go_sem,hl]
  refine Qb4 (Qki (γ:=2000001) (e:=3) (ty:=24) (fz:=false) T0 hz (by omega) hzd) ?_
  simp+decide (disch:=try exact D1 hl) only[go_sem,hl]
  refine Qb4 (Qht 18 2000002 Tr0 (by omega) rfl (by omega)) ?_
  simp+decide (disch:=try exact D2 hl hmb) only[go_sem,hl,hmb]
 all_goals
  refine Qbn (by repeat (first|exact Qn|exact Qi|exact Qj|exact Qk|exact Ql|apply Qh|apply Qm|apply Qt|apply Qx|apply Qy|apply Qg|apply Qr)) [(4,6),(22,50),(2000001,2000001)] [] (fun q J hp=>∃i xs,q=R-i/\i<=R/\J 4= .np 2000001 0 0/\J 22= .int .i64 (i:Nat)/\J 2000001= .nst 2000001 3 24 [.rag [.int .i64 (m:Nat),.int .i64 (R:Nat),.mso 2000002 0 (R*m)]]/\
   hp 1=some ⟨3,24,[PV.mat R m l],false⟩/\hp 2=some ⟨3,24,[.agg [.int .i64 0,.int .i64 0,.nilS]],false⟩/\hp 2000001=some ⟨3,24,[],false⟩/\hp 2000002=some ⟨3,51,xs,false⟩/\xs.length=R*m/\∀i' k',i'<i->k'<m->xs[k'*R+i']? =some (PV.rat (Qai l m i' k'))) R ?_ ?_
  ·refine⟨0,List.replicate (R*m) (.agg [.bool false,.nilS,.nilS]),rfl,by omega,?_⟩
   simp+decide (disch:=try exact D0) only[go_sem]
   exact⟨rfl,by simp,fun i' k' h=>by omega⟩
  rintro _ J h ⟨i,xs,rfl,hi,j4,j22,jb,h1,h2,hb,hx,hxl,hxs⟩
  simp+decide (disch:=try exact D1 j22) only[go_sem,j22]
  refine Qb (fun hc=> ?_) (fun hc=> ?_)
  ·have hi':i<R:=by omega
   simp+decide (disch:=try exact D7 j4 j22 jb h1 h2 hb hx) only[go_sem,j4,j22,jb,h1,h2,hb,hx]
   refine Qbn (by repeat (first|exact Qn|exact Qi|exact Qj|exact Qk|exact Ql|apply Qh|apply Qm|apply Qt|apply Qx|apply Qy|apply Qg|apply Qr)) [(4,4),(6,6),(27,49),(2000001,2000001)] [] (fun q J hp=>∃k ys,q=m-k/\k<=m/\J 4= .np 2000001 0 0/\J 27= .int .i64 (k:Nat)/\J 2000001= .nst 2000001 3 24 [.rag [.int .i64 (m:Nat),.int .i64 (R:Nat),.mso 2000002 0 (R*m)]]/\
    hp 1=some ⟨3,24,[PV.mat R m l],false⟩/\hp 2=some ⟨3,24,[.agg [.int .i64 0,.int .i64 0,.nilS]],false⟩/\hp 2000001=some ⟨3,24,[],false⟩/\hp 2000002=some ⟨3,51,ys,false⟩/\ys.length=R*m/\∀i' k',i'<R->(i'<i∨(i'=i/\k'<k))->k'<m->ys[k'*R+i']? =some (PV.rat (Qai l m i' k'))) m ?_ ?_
   ·refine⟨0,xs,rfl,by omega,?_⟩
    simp+decide (disch:=try exact D6 j4 jb h1 h2 hb hx) only[go_sem,j4,jb,h1,h2,hb,hx]
    exact⟨rfl,hxl,fun i' k' q1 q2 q3=>hxs i' k' (by omega) q3⟩
   rintro _ J2 g ⟨k,ys,rfl,hk,i4,i27,ib,g1,g2,gb,gx,gxl,gxs⟩
   simp+decide (disch:=try exact D1 i27) only[go_sem,i27]
   refine Qb (fun hck=> ?_) (fun hck=> ?_)
   ·have hk':k<m:=by omega
    have e1:(k:Int)*(R:Int)=((k*R:Nat):Int):=by rw[Int.natCast_mul]
    have e2:(i:Int)*(m:Int)=((i*m:Nat):Int):=by rw[Int.natCast_mul]
    have b1:=Qrp hi' hk'
    have b2:i*m+k<R*m:=by have:=Qrp hk' hi';rw[Nat.mul_comm m R]at this;exact this
    have b3:k*R<=R*m:=by omega
    have b4:i*m<=R*m:=by omega
    have hcell:l[i*m+k]=Qai l m i k:=by
     unfold Qai
     rw[List.getD_eq_getElem?_getD,List.getElem?_eq_getElem (by omega)];rfl
    simp+decide (disch:=try exact D11 i4 i27 ib g1 g2 gb gx e1 e2 j22 hcell) only[go_sem,i4,i27,ib,g1,g2,gb,gx,e1,e2,j22,hcell]
    rw[Qgr (n:=3) (xs:=ys) (v:=PV.rat (Qai l m i k)) (by omega) rfl rfl]
    simp+decide (disch:=try exact D2 i4 i27) only[go_sem,i4,i27]
    refine Qa4 (m-(k+1)) (by omega) ⟨k+1,ys.set (k*R+i) (PV.rat (Qai l m i k)),rfl,by omega,?_⟩
    simp+decide (disch:=try exact D5 i4 ib g1 g2 gb) only[go_sem,i4,ib,g1,g2,gb]
    refine⟨by simp[gxl],fun i' k' q1 q2 q3=> ?_⟩
    rw[List.getElem?_set]
    by_cases e:k*R+i=k'*R+i'
    ·obtain⟨rfl,rfl⟩:=Qam2 hi' q1 e.symm
     rw[if_pos rfl,if_pos (by omega)]
    ·rw[if_neg e]
     refine gxs i' k' q1 ?_ q3
     rcases q2 with q2|⟨q2,q4⟩
     ·exact .inl q2
     ·refine .inr ⟨q2,?_⟩
      have:k'≠k:=fun h=>e (by rw[h,q2])
      omega
   ·have hkm:k=m:=by omega
    subst hkm
    simp+decide (disch:=try exact D1 j22) only[go_sem,j22]
    simp (disch:=decide) only[Qcb,Qci,Qbg,Qct]
    refine Qa4 (R-(i+1)) (by omega) ⟨i+1,ys,rfl,by omega,?_⟩
    simp+decide (disch:=try exact D6 i4 ib g1 g2 gb gx) only[go_sem,i4,ib,g1,g2,gb,gx]
    exact⟨gxl,fun i' k' q1 q2=>gxs i' k' (by omega) (by omega) q2⟩
  ·obtain rfl:i=R:=by omega
   have hfin:xs=(trL l i m).map PV.rat:=by
    refine List.ext_getElem (by rw[List.length_map,Qhh];omega) fun j q1 q2=> ?_
    have hi0:0<i:=by
     refine Nat.pos_of_ne_zero fun h=> ?_
     subst h;omega
    have hj:j/i<m:=by
     rw[Nat.div_lt_iff_lt_mul hi0,hmR];omega
    have hd:=Nat.div_add_mod j i
    have hmod:=Nat.mod_lt j hi0
    have:=hxs (j%i) (j/i) hmod hj
    rw[Nat.mul_comm,hd,List.getElem?_eq_getElem q1]at this
    rw[Option.some.inj this,List.getElem_map]
    simp[trL,trF]
   rw[hfin]at hx
   simp+decide (disch:=try exact D5 j4 jb h2 hb hx) only[go_sem,j4,jb,h2,hb,hx]
   refine Qnx 51 2 [2000002] (p:= .rag [.int .i64 (m:Nat),.int .i64 (i:Nat),.mso 2000002 0 (i*m)]) T0 (D:=PV.mat m i (trL l i m)) ?_ ?_ rfl ?_
   ·intro c hc
    simp only[List.mem_cons,List.not_mem_nil,or_false]at hc
    rcases hc with rfl|rfl|rfl
    ·trivial
    ·trivial
    ·simp only[okD,isY];simp
   ·show PV.agg [_,_,dsn _ h 2 (.mso 2000002 0 _)]=_
    simp only[dsn,hx,List.drop_zero]
    rw[List.take_of_length_le (by rw[List.length_map,Qhh];omega)]
   simp+decide (disch:=try exact E5 j4 jb h2 hb hx) only[go_sem,j4,jb,h2,hb,hx,Qac,List.contains_cons,List.contains_nil,List.flatMap_cons,List.flatMap_nil,List.append_nil]
   refine Qet (Qhs ?_)
   simp+decide (disch:=try exact E1 h2) only[go_sem,h2,Qac,List.contains_cons,List.contains_nil,List.flatMap_cons,List.flatMap_nil,List.append_nil]
   exact Qd8 rfl rfl rfl (Qab _) (Qab _)
theorem Qpi{R m i k:Nat}{l:List Rat}(hl:l.length=R*m)(hR:R<=40)(hm:m<=40)(hi:i<R)(hk:k<m)(hs:∀q∈l,rs q<=1048576):Qd Tryz.prog 201 [PV.mat R m l,.int .i64 i,.int .i64 k] (· =PV.rat (Qai l m i k)):=by
 have hRm:R*m<=40*40:=Nat.mul_le_mul hR hm
 have h:=Qamq (R:=R) (m:=m) (i:=i) (k:=k) (l:=l.map qR) ⟨by rw[List.length_map];omega,RRk.of hs⟩ (by rw[List.length_map];exact hl) hi hk
 rw[<-Qiz]at h
 have b2:i*m+k<R*m:=by have:=Qrp hk hi;rw[Nat.mul_comm m R]at this;exact this
 have e:PV.rq ((l.map qR).getD (i*m+k) default)=PV.rat (Qai l m i k):=by
  unfold Qai
  rw[List.getD_eq_getElem?_getD,List.getD_eq_getElem?_getD,List.getElem?_map,List.getElem?_eq_getElem (by omega)]
  rfl
 rw[e]at h
 exact h
theorem Q1s{R m:Nat}{l:List Rat}(hl:l.length=R*m)(hR2:R<=40)(hm:m<=40)(hs:∀q∈l,rs q<=1048576):Qd Tryz.prog 158 [PV.mat R m l] (· = .tup [PV.mat m R (trL l R m),.int .i64 0]):=by
 have hRm:R*m<=40*40:=Nat.mul_le_mul hR2 hm
 have hmR:m*R=R*m:=Nat.mul_comm _ _
 have hz:([.agg [.int .i64 0,.int .i64 0,.nilS]]:List PV)≠[]:=by simp
 have hzd:∀x∈([.agg [.int .i64 0,.int .i64 0,.nilS]]:List PV),x.ncells=x.cells:=fun x hx=>by rw[List.mem_singleton.1 hx];rfl
 refine Qea Qq Tryz.func158 rfl Qam1 (by simp[c158]) fun C hP=> ?_;simp only[c158,Zo,Zg,Zm,Zc,Zf,Zl,Zh,Zs,Zi,Zb,Zk,Zn,Zu,Zq,Zr,Zz]
 simp+decide (disch:=try exact D0) only[go_sem]
 refine Qa hP (Qsw hl hR2 hm hs) rfl rfl rfl ?_
 simp+decide (disch:=try exact D1 hl) only[go_sem,hl]
 refine Qb4 (Qht 4 2000001 Tr0 (by omega) rfl (by omega)) ?_
 simp+decide (disch:=try exact D1 hl) only[go_sem,hl]
 refine Qb4 (Qki (γ:=2000001) (e:=3) (ty:=24) (fz:=false) T0 hz (by omega) hzd) ?_
 simp+decide (disch:=try exact D0) only[go_sem]
 refine Qb4 (Qpg (γ:=2000001) (e:=3) (ty:=24) (cs:=[.int .i64 (m:Nat),.int .i64 (R:Nat),.nilS]) (cs':=[.int .i64 (m:Nat),.int .i64 (R:Nat),.mso 2000002 0 0]) 2000002 3 51 T0 Tr0 (by omega) (by omega) rfl (by simp)) ?_
 simp+decide (disch:=try exact D0) only[go_sem]
 refine Qbn (by repeat (first|exact Qn|exact Qi|exact Qj|exact Qk|exact Ql|apply Qh|apply Qm|apply Qt|apply Qx|apply Qy|apply Qg|apply Qr)) [(4,6),(16,36),(2000001,2000001)] [34,35] (fun q J hp=>∃k,q=m-k/\k<=m/\J 4= .np 2000001 0 0/\J 5= .int .i64 (k:Nat)/\J 2000001= .nst 2000001 3 24 [.rag [.int .i64 (m:Nat),.int .i64 (R:Nat),.mso 2000002 0 (k*R)]]/\
  hp 1=some ⟨3,24,[PV.mat R m l],false⟩/\hp 2=some ⟨3,24,[.agg [.int .i64 0,.int .i64 0,.nilS]],false⟩/\hp 2000001=some ⟨3,24,[],false⟩/\hp 2000002=some ⟨3,51,((List.range (k*R)).map (trF l R m)).map PV.rat,false⟩) m ?_ ?_
 ·refine⟨0,rfl,by omega,?_⟩
  simp+decide (disch:=first|omega|rfl|(simp+decide only[go_sem,Nat.zero_mul]<;>rfl)|fail) only[go_sem,Nat.zero_mul]
  exact⟨rfl,rfl⟩
 rintro _ J h ⟨k,rfl,hk,j4,j5,jb,h1,h2,hb,hx⟩
 simp+decide (disch:=try exact D3 j4 j5 h1) only[go_sem,j4,j5,h1]
 refine Qb (fun hc=> ?_) (fun hc=> ?_)
 ·have hk':k<m:=by omega
  have hkR:k*R+R<=R*m:=by
   have:=Nat.mul_le_mul_right R hk'
   rw[Nat.succ_mul,hmR]at this;exact this
  simp+decide (disch:=try exact D7 j4 j5 jb h1 h2 hb hx) only[go_sem,j4,j5,jb,h1,h2,hb,hx]
  refine Qbn (by repeat (first|exact Qn|exact Qi|exact Qj|exact Qk|exact Ql|apply Qh|apply Qm|apply Qt|apply Qx|apply Qy|apply Qg|apply Qr)) [(4,4),(6,6),(22,36),(2000001,2000001)] [34,35] (fun q J hp=>∃i,q=R-i/\i<=R/\J 4= .np 2000001 0 0/\J 6= .int .i64 (i:Nat)/\J 2000001= .nst 2000001 3 24 [.rag [.int .i64 (m:Nat),.int .i64 (R:Nat),.mso 2000002 0 (k*R+i)]]/\
   hp 1=some ⟨3,24,[PV.mat R m l],false⟩/\hp 2=some ⟨3,24,[.agg [.int .i64 0,.int .i64 0,.nilS]],false⟩/\hp 2000001=some ⟨3,24,[],false⟩/\hp 2000002=some ⟨3,51,((List.range (k*R+i)).map (trF l R m)).map PV.rat,false⟩) R ?_ ?_
  ·refine⟨0,rfl,by omega,?_⟩
   simp+decide (disch:=try exact D6 j4 jb h1 h2 hb hx) only[go_sem,j4,jb,h1,h2,hb,hx]
   rfl
  rintro _ J2 g ⟨i,rfl,hi,i4,i6,ib,g1,g2,gb,gx⟩
  simp+decide (disch:=try exact D3 i4 i6 g1) only[go_sem,i4,i6,g1]
  refine Qb (fun hci=> ?_) (fun hci=> ?_)
  ·have hi':i<R:=by omega
   have hct:=Qaa1 (l:=l) (m:=m) (k:=k) hi'
   simp+decide (disch:=try exact D8 i4 i6 ib g1 g2 gb gx j5) only[go_sem,i4,i6,ib,g1,g2,gb,gx,j5]
   refine Qa hP (Qpi hl hR2 hm hi' hk' hs) rfl rfl rfl ?_
   simp+decide (disch:=try exact D8 i4 i6 ib g1 g2 gb gx j5) only[go_sem,i4,i6,ib,g1,g2,gb,gx,j5]
   rw[Qju (f:=PV.rat) (y:=Qai l m i k) (xs:=(List.range (k*R+i)).map (trF l R m)) (ty':=51) (fz:=false) (T1 gx) T0 (by omega) (by simp) (by omega) (by omega) (by omega)]
   simp+decide (disch:=try exact D8 i4 i6 ib g1 g2 gb gx j5) only[go_sem,i4,i6,ib,g1,g2,gb,gx,j5]
   refine Qa4 (R-(i+1)) (by omega) ⟨i+1,rfl,by omega,?_⟩
   simp+decide (disch:=try exact D5 i4 ib g1 g2 gb) only[go_sem,i4,ib,g1,g2,gb]
   rw[<-Nat.add_assoc,List.range_succ]
   exact⟨rfl,Qvd (by simp[hct])⟩
  ·have hiR:i=R:=by omega
   subst hiR
   simp+decide (disch:=try exact D1 j5) only[go_sem,j5]
   simp (disch:=decide) only[Qcb,Qci,Qbg,Qct]
   refine Qa4 (m-(k+1)) (by omega) ⟨k+1,rfl,by omega,?_⟩
   rw[show(k+1)*i=k*i+i from Nat.succ_mul _ _]
   simp+decide (disch:=try exact D6 i4 ib g1 g2 gb gx) only[go_sem,i4,ib,g1,g2,gb,gx]
 ·obtain rfl:k=m:=by omega
  rw[show(List.range (k*R)).map (trF l R k)=trL l R k from rfl]at hx
  simp+decide (disch:=try exact D5 j4 jb h2 hb hx) only[go_sem,j4,jb,h2,hb,hx]
  refine Qnx 37 2 [2000002] (p:= .rag [.int .i64 (k:Nat),.int .i64 (R:Nat),.mso 2000002 0 (k*R)]) T0 (D:=PV.mat k R (trL l R k)) ?_ ?_ rfl ?_
  ·intro c hc
   simp only[List.mem_cons,List.not_mem_nil,or_false]at hc
   rcases hc with rfl|rfl|rfl
   ·trivial
   ·trivial
   ·simp only[okD,isY];simp
  ·show PV.agg [_,_,dsn _ h 2 (.mso 2000002 0 _)]=_
   simp only[dsn,hx,List.drop_zero]
   rw[List.take_of_length_le (by rw[List.length_map,Qhh];omega)]
  simp+decide (disch:=try exact E5 j4 jb h2 hb hx) only[go_sem,j4,jb,h2,hb,hx,Qac,List.contains_cons,List.contains_nil,List.flatMap_cons,List.flatMap_nil,List.append_nil]
  refine Qet (Qhs ?_)
  simp+decide (disch:=try exact E1 h2) only[go_sem,h2,Qac,List.contains_cons,List.contains_nil,List.flatMap_cons,List.flatMap_nil,List.append_nil]
  exact Qd8 rfl rfl rfl (Qab _) (Qab _)
abbrev PV.monos(bs:List (List Int)):PV:= .sl 1 (bs.map PV.mono)
def mxB(bs:List (List Int))(l:List RQ):Bool:=decide (bs.length<=6)&&(decide (l.length<=25)&&((bs.all fun b=>decide (b.length<=70))&&l.all fun q=>shQ q.a q.d))
theorem Q67{bs:List (List Int)}{r c:Int}{l:List RQ}(hbl:bs.length<2^40)(hb:∀b∈bs,b.length<2^40)(hl:Qdy l):Qd Tryz.prog 28 [PV.monos bs,PV.rmat r c l] (· = .bool (mxB bs l)):=by
 have hll:=hl.1
 refine Qf Qq Tryz.func28 rfl Qap5 (by simp[c28]) fun C hP=> ?_;simp only[c28,Zo,Zg,Zm,Zc,Zf,Zl,Zh,Zs,Zi,Zb,Zk,Zn,Zu,Zq,Zr,Zz]
 simp+decide (disch:=try exact D0) only[go_sem]
 refine Qal (fun h1=> ?_) (fun h1=> ?_)
 ·simp+decide (disch:=try exact D0) only[go_sem]
  exact Qc (by rw[mxB,decide_eq_false (show ¬bs.length<=6 by omega),Bool.false_and]) rfl
 simp+decide (disch:=try exact D0) only[go_sem]
 refine Qb (fun h2=> ?_) (fun h2=> ?_)
 ·simp+decide (disch:=try exact D0) only[go_sem]
  exact Qc (by rw[mxB,decide_eq_false (show ¬l.length<=25 by omega),Bool.false_and,Bool.and_false]) rfl
 have e1:decide (bs.length<=6)=true:=decide_eq_true (by omega)
 have e2:decide (l.length<=25)=true:=decide_eq_true (by omega)
 simp+decide (disch:=try exact D0) only[go_sem]
 refine Qz (by repeat (first|exact Qn|exact Qi|exact Qj|exact Qk|exact Ql|apply Qh|apply Qm|apply Qt|apply Qx|apply Qy|apply Qg|apply Qr)) [(4,5),(16,27)] [] (fun m J hp=>∃i,m=bs.length-i/\i<=bs.length/\(∀j (h:j<bs.length),j<i->bs[j].length<=70)/\J 5= .int .i64 (i:Nat)/\hp 3=some ⟨3,24,[PV.rmat r c l],false⟩) bs.length ?_ ?_
 ·refine⟨0,rfl,by omega,by omega,?_⟩
  simp+decide (disch:=try exact D0) only[go_sem]
  rfl
 rintro _ J h ⟨i,rfl,hi,h3,h5,b3⟩
 simp+decide (disch:=try exact D1 h5) only[go_sem,h5]
 refine Qb (fun hg=> ?_) (fun hg=> ?_)
 ·have hi':i<bs.length:=by omega
  have hmem:=List.getElem_mem hi'
  have hbx:=hb _ hmem
  have hadd:bs[i].length<=70->∀j (h:j<bs.length),j<i+1->bs[j].length<=70:=fun h j hj hji=>by
   by_cases e:j=i
   ·subst e;exact h
   ·exact h3 j hj (by omega)
  generalize hx:bs[i]=x at *
  simp+decide (disch:=try exact D2 h5 hx) only[go_sem,h5,hx]
  refine Qb (fun h6=> ?_) (fun h6=> ?_)
  ·simp+decide (disch:=try exact D0) only[go_sem]
   refine Qc ?_ rfl
   have:(bs.all fun b=>decide (b.length<=70))=false:=by
    rw[List.all_eq_false];exact⟨x,hmem,by simp;omega⟩
   rw[mxB,this,Bool.false_and,Bool.and_false,Bool.and_false]
  simp+decide (disch:=try exact D1 h5) only[go_sem,h5]
  refine Qo (bs.length-(i+1)) (by omega) ⟨i+1,rfl,by omega,hadd (by omega),?_⟩
  simp+decide (disch:=try exact D1 b3) only[go_sem,b3]
 obtain rfl:i=bs.length:=by omega
 have e3:(bs.all fun b=>decide (b.length<=70))=true:=by
  rw[List.all_eq_true]
  intro t ht
  obtain⟨j,hj,rfl⟩:=List.getElem_of_mem ht
  exact decide_eq_true (h3 j hj hj)
 simp+decide (disch:=try exact D0) only[go_sem]
 refine Qz (by repeat (first|exact Qn|exact Qi|exact Qj|exact Qk|exact Ql|apply Qh|apply Qm|apply Qt|apply Qx|apply Qy|apply Qg|apply Qr)) [(4,4),(6,6),(28,41)] [] (fun m J hp=>∃i,m=l.length-i/\i<=l.length/\(∀j (h:j<l.length),j<i->shQ l[j].a l[j].d=true)/\J 6= .int .i64 (i:Nat)/\hp 3=some ⟨3,24,[PV.rmat r c l],false⟩) l.length ?_ ?_
 ·refine⟨0,rfl,by omega,by omega,?_⟩
  simp+decide (disch:=try exact D1 b3) only[go_sem,b3]
  rfl
 rintro _ J2 h' ⟨i,rfl,hi,g3,g6,g9⟩
 simp+decide (disch:=try exact D2 g6 g9) only[go_sem,g6,g9]
 refine Qb (fun hg=> ?_) (fun hg=> ?_)
 ·have hi':i<l.length:=by omega
  have hmem:=List.getElem_mem hi'
  have hr:=hl.2 _ hmem
  have hadd:shQ l[i].a l[i].d=true->∀j (h:j<l.length),j<i+1->shQ l[j].a l[j].d=true:=fun h j hj hji=>by
   by_cases e:j=i
   ·subst e;exact h
   ·exact g3 j hj (by omega)
  generalize hx:l[i]=x at *
  have hsh:=Qxz hr (by omega)
  simp+decide (disch:=try exact D3 g6 g9 hx) only[go_sem,g6,g9,hx]
  refine Qa hP hsh rfl rfl rfl ?_
  cases hs:shQ x.a x.d
  ·simp+decide (disch:=try exact D0) only[go_sem]
   refine Qc ?_ rfl
   have:(l.all fun q=>shQ q.a q.d)=false:=by
    rw[List.all_eq_false];exact⟨x,hmem,by simp[hs]⟩
   rw[mxB,this,Bool.and_false,Bool.and_false,Bool.and_false]
  simp+decide (disch:=try exact D1 g6) only[go_sem,g6]
  refine Qo (l.length-(i+1)) (by omega) ⟨i+1,rfl,by omega,hadd hs,?_⟩
  simp+decide (disch:=try exact D1 g9) only[go_sem,g9]
 ·obtain rfl:i=l.length:=by omega
  have e4:(l.all fun q=>shQ q.a q.d)=true:=by
   rw[List.all_eq_true]
   intro t ht
   obtain⟨j,hj,rfl⟩:=List.getElem_of_mem ht
   exact g3 j hj hj
  simp+decide (disch:=try exact D0) only[go_sem]
  exact Qc (by rw[mxB,e1,e2,e3,e4];rfl) rfl
theorem Qaa2{a b:List Rat}{R m:Nat}(ha:a.length=R*m)(hb:b.length=R*m)(h:∀r,r<R->∀c,c<m->Qai a m r c=Qai b m r c):a=b:=by
 refine List.ext_getElem (by omega) fun j h1 h2=> ?_
 rcases Nat.eq_zero_or_pos m with h0|h0
 ·subst h0;simp at ha;omega
 have hr:j/m<R:=(Nat.div_lt_iff_lt_mul h0).2 (by omega)
 have hc:=Nat.mod_lt j h0
 have e:=h _ hr _ hc
 have e2:j/m*m+j%m=j:=by rw[Nat.mul_comm];exact Nat.div_add_mod j m
 unfold Qai at e
 rw[e2]at e
 simpa[h1,h2]using e
theorem Q4z{l:List Rat}{R m r c:Nat}(hr:r<m)(hc:c<R):Qai (trL l R m) R r c=Qai l m c r:=by
 have h:=Qrp hc hr
 rw[Nat.mul_comm R m]at h
 have e:Qai (trL l R m) R r c=trF l R m (r*R+c):=by
  unfold Qai trL
  simp[h]
 rw[e,Qaa1 hc]
theorem Qaa3{l:List Rat}{R:Nat}(hl:l.length=R*R):l=trL l R R↔Qhl (Qai l R) R:=by
 constructor
 ·intro h i hi k hk
  have:=Q4z (l:=l) (R:=R) (m:=R) (r:=i) (c:=k) hi (by omega)
  rwa[<-h]at this
 ·intro h
  refine Qaa2 hl (Qhh l R R) fun r hr c hc=> ?_
  rw[Q4z hr hc]
  rcases Nat.lt_trichotomy r c with e|e|e
  ·exact(h c hc r e).symm
  ·subst e;rfl
  ·exact h r hr c e
def cfE(bs:List (List Int))(r c:Int)(l:List RQ):Int:=
 if Qcs r c l=true then(if bs.all Qaj=true then(if r=bs.length/\c=bs.length/\Qhl (Qai (l.map rqV) bs.length) bs.length then 0 else 16)else 1)else 1
theorem Qahw{R m:Nat}{la:List Rat}(hl:la.length=R*m):eqM R m m R (la.map qR) ((trL la R m).map qR)=true↔R=m/\Qhl (Qai la m) m:=by
 unfold eqM
 have hid:=Q6o
 rw[decide_eq_true_eq,hid,hid]
 constructor
 ·intro⟨h1,_,h3⟩
  have:R=m:=by omega
  subst this
  exact⟨rfl,(Qaa3 hl).1 h3⟩
 ·intro⟨h1,h2⟩
  subst h1
  exact⟨rfl,rfl,(Qaa3 hl).2 h2⟩
theorem Qahx{r c:Int}{l:List RQ}(hl:Qdy l)(h:Qcs r c l=true):PV.rqs l=PV.rats (l.map rqV):=by
 unfold Qcs at h
 rw[Bool.and_eq_true]at h
 exact Q94 hl h.2
theorem Qpj{bs:List (List Int)}{r c:Int}{l:List RQ}(hbl:bs.length<2^40)(hb:∀b∈bs,b.length<2^40)(hl:Qdy l):Qd Tryz.prog 90 [PV.monos bs,PV.rmat r c l] (· = .int .i64 (cfE bs r c l)):=by
 have hr:=Q4u (r:=r) (c:=c) hl
 refine Qf Qq Tryz.func90 rfl Qap6 (by simp[c90]) fun C hP=> ?_;simp only[c90,Zo,Zg,Zm,Zc,Zf,Zl,Zh,Zs,Zi,Zb,Zk,Zn,Zu,Zq,Zr,Zz]
 simp+decide (disch:=try exact D0) only[go_sem]
 refine Qa hP hr rfl rfl rfl ?_
 cases o1:Qcs r c l
 ·simp+decide (disch:=try exact D0) only[go_sem]
  exact Qc (by rw[cfE,if_neg (by rw[o1];decide)]) rfl
 obtain⟨R,m,la,rfl,rfl,hR,hm,hla,hlen,hmat⟩:=Qwp hl o1
 have hs:∀q∈la,rs q<=1048576:=fun q hq=>by
  rw[hla]at hq
  obtain⟨x,hx,rfl⟩:=List.mem_map.1 hq
  exact(hl.2 x hx).rs
 have hs2:∀q∈trL la R m,rs q<=1048576:=fun q hq=>by
  obtain⟨j,_,rfl⟩:=List.mem_map.1 hq
  exact Qjm (by omega) hs
 have ht:=Q3n hlen hR hm hs
 have hRm:R*m<=40*40:=Nat.mul_le_mul hR hm
 have htl:=Qhh la R m
 rw[Nat.mul_comm]at htl
 have heq:=Qamr (r:=R) (c:=m) (r':=m) (c':=R) (RRk.of hs) (RRk.of hs2) (by omega) (by rw[List.length_map];omega) (by rw[List.length_map];omega)
 rw[<-Qiz,<-Qiz]at heq
 have hiff:=Qahw hlen
 rw[Qahx hl o1,<-hla]
 simp+decide (disch:=try exact D0) only[go_sem]
 refine Qz (by repeat (first|exact Qn|exact Qi|exact Qj|exact Qk|exact Ql|apply Qh|apply Qm|apply Qt|apply Qx|apply Qy|apply Qg|apply Qr)) [(4,4),(6,6),(14,21)] [] (fun q J hp=>∃i,q=bs.length-i/\i<=bs.length/\(∀j (h:j<bs.length),j<i->Qaj bs[j]=true)/\J 14= .int .i64 (i:Nat)/\hp 3=some ⟨3,24,[PV.mat R m la],false⟩) bs.length ?_ ?_
 ·refine⟨0,rfl,by omega,by omega,?_⟩
  simp+decide (disch:=try exact D0) only[go_sem]
  rfl
 rintro _ J h' ⟨i,rfl,hi,h1,h2,b3⟩
 simp+decide (disch:=try exact D1 h2) only[go_sem,h2]
 refine Qb (fun hg=> ?_) (fun hg=> ?_)
 ·have hi':i<bs.length:=by omega
  have hmem:=List.getElem_mem hi'
  have hbx:=hb _ hmem
  have hadd:Qaj bs[i]=true->∀j (h:j<bs.length),j<i+1->Qaj bs[j]=true:=fun h j hj hji=>by
   by_cases e:j=i
   ·subst e;exact h
   ·exact h1 j hj (by omega)
  generalize hx:bs[i]=x at *
  simp+decide (disch:=try exact D2 h2 hx) only[go_sem,h2,hx]
  refine Qa hP (Qgz (show x.length<2^42 by omega)) rfl rfl rfl ?_
  cases hs:Qaj x
  ·simp+decide (disch:=try exact D0) only[go_sem]
   refine Qc ?_ rfl
   have:bs.all Qaj=false:=by
    rw[List.all_eq_false];exact⟨x,hmem,by simp[hs]⟩
   rw[cfE,if_pos o1,if_neg (by rw[this];decide)]
  simp+decide (disch:=try exact D1 h2) only[go_sem,h2]
  refine Qo (bs.length-(i+1)) (by omega) ⟨i+1,rfl,by omega,hadd hs,?_⟩
  simp+decide (disch:=try exact D1 b3) only[go_sem,b3]
 obtain rfl:i=bs.length:=by omega
 have e3:bs.all Qaj=true:=by
  rw[List.all_eq_true]
  intro t ht
  obtain⟨j,hj,rfl⟩:=List.getElem_of_mem ht
  exact h1 j hj hj
 have hcf:cfE bs R m l=if(R:Int)=bs.length/\(m:Int)=bs.length/\Qhl (Qai la bs.length) bs.length then 0 else 16:=by rw[cfE,if_pos o1,if_pos e3,<-hla]
 simp+decide (disch:=try exact D1 b3) only[go_sem,b3]
 refine Qa hP ht rfl rfl rfl ?_
 simp+decide (disch:=try exact D1 b3) only[go_sem,b3]
 refine Qal (fun h3=> ?_) (fun h3=> ?_)
 ·simp+decide (disch:=try exact D0) only[go_sem]
  exact Qc (by rw[hcf,if_neg (by omega)]) rfl
 simp+decide (disch:=try exact D1 b3) only[go_sem,b3]
 refine Qal (fun h4=> ?_) (fun h4=> ?_)
 ·simp+decide (disch:=try exact D0) only[go_sem]
  exact Qc (by rw[hcf,if_neg (by omega)]) rfl
 simp+decide (disch:=try exact D1 b3) only[go_sem,b3]
 refine Qa hP heq rfl rfl rfl ?_
 cases hq:eqM R m m R (la.map qR) ((trL la R m).map qR)
 ·simp+decide (disch:=try exact D0) only[go_sem]
  refine Qc ?_ rfl
  rw[hcf,if_neg]
  intro⟨g1,g2,g3⟩
  have:R=m:=by omega
  have hm':m=bs.length:=by omega
  rw[<-hm']at g3
  rw[hiff.2 ⟨this,g3⟩]at hq
  cases hq
 ·simp+decide (disch:=try exact D0) only[go_sem]
  obtain⟨g1,g2⟩:=hiff.1 hq
  have hm':m=bs.length:=by omega
  exact Qc (by rw[hcf,if_pos ⟨by omega,by omega,by rw[<-hm'];exact g2⟩]) rfl
theorem Qag1{bs:List (List Int)}{r c:Int}{l:List RQ}(hbl:bs.length<2^40)(hb:∀b∈bs,b.length<2^40)(hl:Qdy l):Qd Tryz.prog 92 [PV.monos bs,PV.rmat r c l] (· = .int .i64 (cfE bs r c l)):=by
 have hr:=Q1p (r:=r) (c:=c) hl
 refine Qf Qq Tryz.func92 rfl Qap9 (by simp[c92]) fun C hP=> ?_;simp only[c92,Zo,Zg,Zm,Zc,Zf,Zl,Zh,Zs,Zi,Zb,Zk,Zn,Zu,Zq,Zr,Zz]
 simp+decide (disch:=try exact D0) only[go_sem]
 refine Qa hP hr rfl rfl rfl ?_
 cases o1:Qcs r c l
 ·simp+decide (disch:=try exact D0) only[go_sem]
  exact Qc (by rw[cfE,if_neg (by rw[o1];decide)]) rfl
 obtain⟨R,m,la,rfl,rfl,hR,hm,hla,hlen,hmat⟩:=Qwp hl o1
 have hs:∀q∈la,rs q<=1048576:=fun q hq=>by
  rw[hla]at hq
  obtain⟨x,hx,rfl⟩:=List.mem_map.1 hq
  exact(hl.2 x hx).rs
 have hs2:∀q∈trL la R m,rs q<=1048576:=fun q hq=>by
  obtain⟨j,_,rfl⟩:=List.mem_map.1 hq
  exact Qjm (by omega) hs
 have ht:=Q1s hlen hR hm hs
 have hRm:R*m<=40*40:=Nat.mul_le_mul hR hm
 have htl:=Qhh la R m
 rw[Nat.mul_comm]at htl
 have heq:=Qagt (r:=R) (c:=m) (r':=m) (c':=R) (RRk.of hs) (RRk.of hs2) (by omega) (by rw[List.length_map];omega) (by rw[List.length_map];omega)
 rw[<-Qiz,<-Qiz]at heq
 have hiff:=Qahw hlen
 rw[Qahx hl o1,<-hla]
 simp+decide (disch:=try exact D0) only[go_sem]
 refine Qz (by repeat (first|exact Qn|exact Qi|exact Qj|exact Qk|exact Ql|apply Qh|apply Qm|apply Qt|apply Qx|apply Qy|apply Qg|apply Qr)) [(4,5),(11,22)] [] (fun q J hp=>∃i,q=bs.length-i/\i<=bs.length/\(∀j (h:j<bs.length),j<i->Qaj bs[j]=true)/\J 5= .int .i64 (i:Nat)/\hp 3=some ⟨3,24,[PV.mat R m la],false⟩) bs.length ?_ ?_
 ·refine⟨0,rfl,by omega,by omega,?_⟩
  simp+decide (disch:=try exact D0) only[go_sem]
  rfl
 rintro _ J h' ⟨i,rfl,hi,h1,h2,b3⟩
 simp+decide (disch:=try exact D1 h2) only[go_sem,h2]
 refine Qb (fun hg=> ?_) (fun hg=> ?_)
 ·have hi':i<bs.length:=by omega
  have hmem:=List.getElem_mem hi'
  have hbx:=hb _ hmem
  have hadd:Qaj bs[i]=true->∀j (h:j<bs.length),j<i+1->Qaj bs[j]=true:=fun h j hj hji=>by
   by_cases e:j=i
   ·subst e;exact h
   ·exact h1 j hj (by omega)
  generalize hx:bs[i]=x at *
  simp+decide (disch:=try exact D2 h2 hx) only[go_sem,h2,hx]
  refine Qa hP (Qhz (show x.length<2^42 by omega)) rfl rfl rfl ?_
  cases hs:Qaj x
  ·simp+decide (disch:=try exact D0) only[go_sem]
   refine Qc ?_ rfl
   have:bs.all Qaj=false:=by
    rw[List.all_eq_false];exact⟨x,hmem,by simp[hs]⟩
   rw[cfE,if_pos o1,if_neg (by rw[this];decide)]
  simp+decide (disch:=try exact D1 h2) only[go_sem,h2]
  refine Qo (bs.length-(i+1)) (by omega) ⟨i+1,rfl,by omega,hadd hs,?_⟩
  simp+decide (disch:=try exact D1 b3) only[go_sem,b3]
 obtain rfl:i=bs.length:=by omega
 have e3:bs.all Qaj=true:=by
  rw[List.all_eq_true]
  intro t ht
  obtain⟨j,hj,rfl⟩:=List.getElem_of_mem ht
  exact h1 j hj hj
 have hcf:cfE bs R m l=if(R:Int)=bs.length/\(m:Int)=bs.length/\Qhl (Qai la bs.length) bs.length then 0 else 16:=by rw[cfE,if_pos o1,if_pos e3,<-hla]
 simp+decide (disch:=try exact D1 b3) only[go_sem,b3]
 refine Qa hP ht rfl rfl rfl ?_
 simp+decide (disch:=try exact D1 b3) only[go_sem,b3]
 refine Qal (fun h3=> ?_) (fun h3=> ?_)
 ·simp+decide (disch:=try exact D0) only[go_sem]
  exact Qc (by rw[hcf,if_neg (by omega)]) rfl
 simp+decide (disch:=try exact D1 b3) only[go_sem,b3]
 refine Qa hP heq rfl rfl rfl ?_
 cases hq:eqM R m m R (la.map qR) ((trL la R m).map qR)
 ·simp+decide (disch:=try exact D0) only[go_sem]
  refine Qc ?_ rfl
  rw[hcf,if_neg]
  intro⟨g1,g2,g3⟩
  have:R=m:=by omega
  have hm':m=bs.length:=by omega
  rw[<-hm']at g3
  rw[hiff.2 ⟨this,g3⟩]at hq
  cases hq
 ·simp+decide (disch:=try exact D0) only[go_sem]
  obtain⟨g1,g2⟩:=hiff.1 hq
  have hm':m=bs.length:=by omega
  exact Qc (by rw[hcf,if_pos ⟨by omega,by omega,by rw[<-hm'];exact g2⟩]) rfl
end Go.Proofs.YtkoclfmjlolkhaaGreat
namespace Go.FW
open Go
def Sym(R:Nat)(M:MF):Prop:=∀i,i<R->∀k,k<R->M i k=M k i
def zr(R:Nat)(M:MF)(i:Nat):Bool:=(List.range R).all fun c=>decide (M i c=0)
theorem Qhr{R:Nat}{M:MF}{i:Nat}:zr R M i=true↔∀c,c<R->M i c=0:=by
 unfold zr
 rw[List.all_eq_true]
 exact⟨fun h c hc=>of_decide_eq_true (h c (List.mem_range.2 hc)),fun h c hc=>decide_eq_true (h c (List.mem_range.1 hc))⟩
def cnt(p:Nat->Bool):Nat->Nat
 |0=>0
 |n+1=>cnt p n+if p n then 1 else 0
theorem Qvh(p:Nat->Bool):∀n,cnt p n<=n
 |0=>Nat.le_refl _
 |n+1=>by have:=Qvh p n;simp only[cnt];split<;>omega
theorem Q1t{p q:Nat->Bool}:∀n,(∀i,i<n->q i=true->p i=true)->cnt q n<=cnt p n
 |0,_=>Nat.le_refl _
 |n+1,h=>by
  have:=Q1t n fun i hi=>h i (by omega)
  have h2:=h n (by omega)
  simp only[cnt]
  cases hq:q n
  ·cases p n<;>simp<;>omega
  ·rw[h2 hq];simp;omega
theorem Qvi{p q:Nat->Bool}{a:Nat}(ha:p a=true)(ha':q a=false):∀n,a<n->(∀i,i<n->q i=true->p i=true)->cnt q n+1<=cnt p n
 |0,h,_=>by omega
 | n+1,h1,h=>by
  have h2:=h n (by omega)
  simp only[cnt]
  by_cases e:a=n
  ·subst e
   have:=Q1t a fun i hi=>h i (by omega)
   rw[ha,ha'];simp;omega
  ·have:=Qvi ha ha' n (by omega) fun i hi=>h i (by omega)
   cases hq:q n
   ·cases p n<;>simp<;>omega
   ·rw[h2 hq];simp;omega
theorem Q40{p q:Nat->Bool}{a b:Nat}(hab:a<b)(ha:p a=true)(ha':q a=false)(hb:p b=true)(hb':q b=false):∀n,b<n->(∀i,i<n->q i=true->p i=true)->cnt q n+2<=cnt p n
 |0,h,_=>by omega
 | n+1,h1,h=>by
  have h2:=h n (by omega)
  simp only[cnt]
  by_cases e:b=n
  ·subst e
   have:=Qvi ha ha' b hab fun i hi=>h i (by omega)
   rw[hb,hb'];simp;omega
  ·have:=Q40 hab ha ha' hb hb' n (by omega) fun i hi=>h i (by omega)
   cases hq:q n
   ·cases p n<;>simp<;>omega
   ·rw[h2 hq];simp;omega
def nzc(R:Nat)(M:MF):Nat:=cnt (fun i=> !zr R M i) R
theorem Qq1{R:Nat}{M:MF}{f:LF}(h:Sym R M):Sym R (Qc1 M f):=fun i hi k hk=>by
 unfold Qc1
 rw[h i hi k hk,Rat.mul_assoc,Rat.mul_assoc,Rat.mul_comm (f.2 i)]
theorem Qvj{p:Nat->Bool}:∀f i,Qh9 p f i<i+f->p (Qh9 p f i)=true
 |0,i,h=>by simp[Qh9]at h
 |f+1,i,h=>by
  unfold Qh9 at h⊢
  split
  ·rename_i hp;exact hp
  ·rename_i hp;rw[if_neg hp]at h;exact Qvj f (i+1) (by omega)
theorem Qvk{p:Nat->Bool}:∀f i j,i<=j->j<Qh9 p f i->p j=false
 |0,i,j,h1,h2=>by simp[Qh9]at h2;omega
 | f+1,i,j,h1,h2=>by
  unfold Qh9 at h2
  split at h2
  ·omega
  ·rename_i hp
   by_cases e:j=i
   ·subst e;simpa using hp
   ·exact Qvk f (i+1) j (by omega) h2
theorem Qtl{M:MF}{R:Nat}(h:Qb9 M R<R):M (Qb9 M R) (Qb9 M R)≠0:=by
 have:=Qvj (p:=fun i=>decide (M i i≠0)) R 0 (by unfold Qb9 at h;omega)
 exact of_decide_eq_true this
theorem Q1u{M:MF}{R:Nat}(h:¬Qb9 M R<R):∀i,i<R->M i i=0:=fun i hi=>by
 have:=Qvk (p:=fun i=>decide (M i i≠0)) R 0 i (Nat.zero_le _) (by unfold Qb9 at h;omega)
 have:=of_decide_eq_false this
 exact Classical.not_not.1 this
theorem Qrq{M:MF}{R i:Nat}(h:Qc3 M R i<R):M i (Qc3 M R i)≠0:=by
 have:=Qvj (p:=fun k=>decide (M i k≠0)) R 0 (by unfold Qc3 at h;omega)
 exact of_decide_eq_true this
theorem Qam3{M:MF}{R i:Nat}(h:¬Qc3 M R i<R):∀k,k<R->M i k=0:=fun k hk=>by
 have:=Qvk (p:=fun k=>decide (M i k≠0)) R 0 k (Nat.zero_le _) (by unfold Qc3 at h;omega)
 exact Classical.not_not.1 (of_decide_eq_false this)
theorem Qny{M:MF}{R:Nat}(h:Qbp M R<R):Qc3 M R (Qbp M R)<R:=by
 have:=Qvj (p:=fun i=>decide (Qc3 M R i<R)) R 0 (by unfold Qbp at h;omega)
 exact of_decide_eq_true this
theorem Qsx{M:MF}{R j:Nat}(h:j<Qbp M R):∀k,k<R->M j k=0:=by
 have:=Qvk (p:=fun i=>decide (Qc3 M R i<R)) R 0 j (Nat.zero_le _) h
 exact Qam3 (of_decide_eq_false this)
theorem Q68{M:MF}{R:Nat}(h:∀i,i<R->∀k,k<R->M i k=0):Qbf M R=[]:=by
 unfold Qbf
 split
 ·rename_i h1;exact absurd (h _ h1 _ h1) (Qtl h1)
 ·split
  ·rename_i h2;exact absurd (h _ h2 _ (Qny h2)) (Qrq (Qny h2))
  ·rfl
theorem Qasn{M:MF}{f:LF}{i c:Nat}(h:f.2 i=0):Qc1 M f i c=M i c:=by
 unfold Qc1
 rw[h,Rat.mul_zero,Rat.zero_mul,Rat.sub_eq_add_neg,Rat.neg_zero,Rat.add_zero]
theorem Qq2{R B:Nat}{M:MF}(hs:Sym R M)(hB:3<=B)(hM:MBd B R R M)(hne:Qbf M R≠[]):
  ∃s,1<=s/\s<=2/\Sym R (Qdf M (Qbf M R))/\nzc R (Qdf M (Qbf M R))+s<=nzc R M/\(∀f∈Qbf M R,rs f.1<=7*B/\∀c,c<R->rs (f.2 c)<=7*B)/\∀j,MBd (B*7^s) R R (Qdf M ((Qbf M R).take j)):=by
 have q1:=Qql
 unfold Qbf at hne⊢
 by_cases hd:Qb9 M R<R
 ·rw [if_pos hd]at hne⊢
  have h0:=Qtl hd
  generalize Qb9 M R=i at *
  obtain⟨f,hf⟩:∃f:LF,(M i i,Qd6 (fun _=>0) (M i) (1/M i i))=f:=⟨_,rfl⟩
  have f1:f.1=M i i:=by rw[<-hf]
  have f2:∀c,f.2 c=1/M i i*M i c:=fun c=>by rw[<-hf];exact Rat.zero_add _
  have bi:=hM i hd i hd
  have b2:∀c,c<R->rs (f.2 c)<=2*B+1:=fun c hc=>by
   rw[f2]
   have:=Qdc (1/M i i) (M i c)
   have:=Qvf (a:=1) h0
   have:=hM i hd c hc
   omega
  have hone:Qdf M [f]=Qc1 M f:=rfl
  rw[hf,hone]
  refine⟨1,Nat.le_refl _,by omega,Qq1 hs,?_,?_,?_⟩
  ·refine Qvi (a:=i) ?_ ?_ R hd fun j hj hz=> ?_
   ·simp only[Bool.not_eq_true']
    rw[<-Bool.not_eq_true,Qhr]
    exact fun h=>h0 (h i hd)
   ·simp only[Bool.not_eq_false']
    rw[Qhr]
    intro c hc
    unfold Qc1
    rw[f1,f2,f2,Rat.div_def,Rat.one_mul,Rat.inv_mul_cancel _ h0,Rat.mul_one,<-Rat.mul_assoc,Rat.mul_inv_cancel _ h0,Rat.one_mul,Rat.sub_self]
   ·simp only[Bool.not_eq_true']at hz⊢
    cases hq:zr R M j
    ·rfl
    ·exfalso
     rw[Qhr]at hq
     have:zr R (Qc1 M f) j=true:=by
      rw[Qhr]
      intro c hc
      rw[Qasn (by rw[f2,hs i hd j hj,hq i hd,Rat.mul_zero])]
      exact hq c hc
     rw[this]at hz;cases hz
  ·intro g hg
   rw[List.mem_singleton.1 hg,f1]
   exact⟨by omega,fun c hc=>by have:=b2 c hc;omega⟩
  ·intro j
   have hfin:MBd (B*7^1) R R (Qc1 M f):=fun r hr c hc=>by
    unfold Qc1
    have a1:=hM r hr c hc
    have a2:=b2 r hr
    have a3:=b2 c hc
    have a4:=Qdc f.1 (f.2 r)
    have a5:=Qdc (f.1*f.2 r) (f.2 c)
    have a6:=Qq0 (M r c) (f.1*f.2 r*f.2 c)
    rw[f1]at a4 a5 a6⊢
    omega
   match j with
   |0=>exact fun r hr c hc=>by have:=hM r hr c hc;show rs (M r c)<=_;omega
   |j+1=>simpa[Qdf]using hfin
 ·rw [if_neg hd]at hne⊢
  by_cases hr0:Qbp M R<R
  ·rw [if_pos hr0]at hne⊢
   have hb0:=Qny hr0
   have h0:=Qrq hb0
   have hbef:∀j,j<Qbp M R->∀k,k<R->M j k=0:=fun j hj=>Qsx hj
   have hdz:=Q1u hd
   generalize Qbp M R=a at *
   generalize Qc3 M R a=b at *
   have hab:a≠b:=fun e=>h0 (by rw[<-e];exact hdz a hr0)
   have hlt:a<b:=by
    rcases Nat.lt_or_ge a b with h|h
    ·exact h
    ·exact absurd (hbef b (by omega) a hr0) (by rw[<-hs a hr0 b hb0];exact h0)
   obtain⟨α,hα⟩:∃α,M a b=α:=⟨_,rfl⟩
   rw[hα]at h0 hne⊢
   have h2:α+α≠0:=fun h=>h0 (by grind)
   obtain⟨w,hw⟩:∃w:Rat,1/(α+α)=w:=⟨_,rfl⟩
   rw[hw]
   have hwα:w*(α+α)=1:=by rw[<-hw,Rat.div_def,Rat.one_mul,Rat.inv_mul_cancel _ h2]
   obtain⟨f,hf⟩:∃f:LF,(w,Qd6 (M a) (M b) 1)=f:=⟨_,rfl⟩
   obtain⟨g,hg⟩:∃g:LF,(-w,Qd6 (M a) (M b) (-1))=g:=⟨_,rfl⟩
   have f1:f.1=w:=by rw[<-hf]
   have g1:g.1= -w:=by rw[<-hg]
   have f2:∀c,f.2 c=M a c+M b c:=fun c=>by rw[<-hf];show M a c+1*M b c=_;rw[Rat.one_mul]
   have g2:∀c,g.2 c=M a c-M b c:=fun c=>by rw[<-hg];show M a c+ -1*M b c=_;rw[Rat.neg_mul,Rat.one_mul,<-Rat.sub_eq_add_neg]
   have bα:rs α<=B:=by rw[<-hα];exact hM a hr0 b hb0
   have bw:rs w<=2*B+2:=by
    rw[<-hw]
    have:=Qvf (a:=1) h2
    have:=Qkd α α
    omega
   have bf:∀c,c<R->rs (f.2 c)<=2*B+1:=fun c hc=>by
    rw[f2]
    have:=Qkd (M a c) (M b c)
    have:=hM a hr0 c hc
    have:=hM b hb0 c hc
    omega
   have bg:∀c,c<R->rs (g.2 c)<=2*B+1:=fun c hc=>by
    rw[g2]
    have:=Qq0 (M a c) (M b c)
    have:=hM a hr0 c hc
    have:=hM b hb0 c hc
    omega
   have Qcu:∀r c,Qdf M [f,g] r c=M r c-w*2*(M a r*M b c+M b r*M a c):=fun r c=>by
    show Qc1 (Qc1 M f) g r c=_
    unfold Qc1
    rw[f1,g1,f2,f2,g2,g2]
    grind
   have hw2:w*2*α=1:=by rw[<-hwα];grind
   rw[hf,hg]
   have hsy:Sym R (Qdf M [f,g]):=Qq1 (Qq1 hs)
   have hba:M b a=α:=by rw[hs b hb0 a hr0,hα]
   refine⟨2,by omega,Nat.le_refl _,hsy,?_,?_,?_⟩
   ·have nz:∀x y,x<R->y<R->M x y≠0->(!zr R M x)=true:=fun x y hx hy h=>by
     simp only[Bool.not_eq_true']
     rw[<-Bool.not_eq_true,Qhr]
     exact fun hh=>h (hh y hy)
    refine Q40 (a:=a) (b:=b) hlt (nz a b hr0 hb0 (by rw[hα];exact h0)) ?_ (nz b a hb0 hr0 (by rw[hba];exact h0)) ?_ R hb0 fun j hj hz=> ?_
    ·simp only[Bool.not_eq_false']
     rw[Qhr]
     intro c hc
     rw[Qcu,hdz a hr0,hba]
     grind
    ·simp only[Bool.not_eq_false']
     rw[Qhr]
     intro c hc
     rw[Qcu,hdz b hb0,hα]
     grind
    ·simp only[Bool.not_eq_true']at hz⊢
     cases hq:zr R M j
     ·rfl
     ·exfalso
      rw[Qhr]at hq
      have:zr R (Qdf M [f,g]) j=true:=by
       rw[Qhr]
       intro c hc
       rw[Qcu,hs a hr0 j hj,hs b hb0 j hj,hq a hr0,hq b hb0,hq c hc]
       grind
      rw[this]at hz;cases hz
   ·intro x hx
    simp only[List.mem_cons,List.not_mem_nil,or_false]at hx
    rcases hx with rfl|rfl
    ·rw[f1];exact⟨by omega,fun c hc=>by have:=bf c hc;omega⟩
    ·rw[g1,Qke];exact⟨by omega,fun c hc=>by have:=bg c hc;omega⟩
   ·have h1:∀r,r<R->∀c,c<R->rs (Qc1 M f r c)<=7*B+5:=fun r hr c hc=>by
     unfold Qc1
     have a1:=hM r hr c hc
     have a2:=bf r hr
     have a3:=bf c hc
     have a4:=Qdc f.1 (f.2 r)
     have a5:=Qdc (f.1*f.2 r) (f.2 c)
     have a6:=Qq0 (M r c) (f.1*f.2 r*f.2 c)
     rw[f1]at a4 a5 a6⊢
     omega
    have h2:∀r,r<R->∀c,c<R->rs (Qc1 (Qc1 M f) g r c)<=13*B+10:=fun r hr c hc=>by
     have a1:=h1 r hr c hc
     generalize Qc1 M f=N at *
     unfold Qc1
     have a2:=bg r hr
     have a3:=bg c hc
     have a4:=Qdc g.1 (g.2 r)
     have a5:=Qdc (g.1*g.2 r) (g.2 c)
     have a6:=Qq0 (N r c) (g.1*g.2 r*g.2 c)
     rw[g1]at a4 a5 a6⊢
     rw[Qke]at a4
     omega
    intro j r hr c hc
    match j with
    |0=>have:=hM r hr c hc;show rs (M r c)<=_;omega
    |1=>have:=h1 r hr c hc;show rs (Qc1 M f r c)<=_;omega
    |j+2=>
     have:=h2 r hr c hc
     have e:([f,g]:List LF).take (j+2)=[f,g]:=List.take_of_length_le (by simp)
     rw[e]
     show rs (Qc1 (Qc1 M f) g r c)<=_
     omega
  ·rw[if_neg hr0]at hne;exact absurd rfl hne
theorem Qtm{R:Nat}{M:MF}{k:Nat}(h:Qbf (Qan R M k).1 R=[]):∀j,Qan R M (k+j)=Qan R M k
 |0=>rfl
 |j+1=>by
  have e:=Qtm h j
  show(Qdf (Qan R M (k+j)).1 (Qbf (Qan R M (k+j)).1 R),(Qan R M (k+j)).2++Qbf (Qan R M (k+j)).1 R)=_
  rw[e,h,List.append_nil];rfl
theorem Qq3{R:Nat}{M:MF}{k:Nat}:Qan R M (k+1)=(Qdf (Qan R M k).1 (Qbf (Qan R M k).1 R),(Qan R M k).2++Qbf (Qan R M k).1 R):=rfl
theorem Qpk{R b:Nat}{M:MF}(hs:Sym R M)(hb:3<=b)(hM:MBd b R R M):∀k,Sym R (Qan R M k).1/\MBd (b*7^(R-nzc R (Qan R M k).1)) R R (Qan R M k).1
 |0=>⟨hs,fun r hr c hc=>Nat.le_trans (hM r hr c hc) (Nat.le_mul_of_pos_right _ (Nat.pow_pos (by omega)))⟩
 | k+1=>by
  obtain⟨h1,h2⟩:=Qpk hs hb hM k
  by_cases hn:Qbf (Qan R M k).1 R=[]
  ·rw[Qtm hn 1];exact⟨h1,h2⟩
  ·have hp:3<=b*7^(R-nzc R (Qan R M k).1):=Nat.le_trans hb (Nat.le_mul_of_pos_right _ (Nat.pow_pos (by omega)))
   obtain⟨s,s1,s2,s3,s4,s5,s6⟩:=Qq2 h1 hp h2 hn
   rw[Qq3]
   refine⟨s3,fun r hr c hc=> ?_⟩
   have h3:=s6 (Qbf (Qan R M k).1 R).length r hr c hc
   rw[List.take_length]at h3
   have hle:nzc R (Qan R M k).1<=R:=Qvh _ _
   rw[Nat.mul_assoc,<-Nat.pow_add]at h3
   exact Nat.le_trans h3 (Nat.mul_le_mul_left _ (Nat.pow_le_pow_right (by omega) (by simp only;omega)))
theorem Q41{R b n:Nat}{M:MF}(hs:Sym R M)(hb:3<=b)(hM:MBd b R R M):Q1q (b*7^R) R n M:=fun k _=>by
 obtain⟨h1,h2⟩:=Qpk hs hb hM k
 have hle:nzc R (Qan R M k).1<=R:=Qvh _ _
 have hK:b*7^(R-nzc R (Qan R M k).1)<=b*7^R:=Nat.mul_le_mul_left _ (Nat.pow_le_pow_right (by omega) (by omega))
 have h3:MBd (b*7^R) R R (Qan R M k).1:=fun r hr c hc=>Nat.le_trans (h2 r hr c hc) hK
 refine⟨h3,?_⟩
 by_cases hn:Qbf (Qan R M k).1 R=[]
 ·rw[hn]
  exact⟨(fun f hf=>by cases hf),fun j _=>by simpa[Qdf]using h3⟩
 ·have hp:3<=b*7^(R-nzc R (Qan R M k).1):=Nat.le_trans hb (Nat.le_mul_of_pos_right _ (Nat.pow_pos (by omega)))
  obtain⟨s,s1,s2,s3,s4,s5,s6⟩:=Qq2 h1 hp h2 hn
  refine⟨fun f hf=> ?_,fun j _ r hr c hc=> ?_⟩
  ·have hk:7*(b*7^(R-nzc R (Qan R M k).1))<=b*7^R:=by
    have e:7*(b*7^(R-nzc R (Qan R M k).1))=b*7^(R-nzc R (Qan R M k).1+1):=by rw[Nat.pow_succ];simp only[Nat.mul_comm,Nat.mul_left_comm]
    rw[e]
    exact Nat.mul_le_mul_left _ (Nat.pow_le_pow_right (by omega) (by omega))
   exact⟨Nat.le_trans (s5 f hf).1 hk,fun c hc=>Nat.le_trans ((s5 f hf).2 c hc) hk⟩
  ·have h4:=s6 j r hr c hc
   rw[Nat.mul_assoc,<-Nat.pow_add]at h4
   exact Nat.le_trans h4 (Nat.mul_le_mul_left _ (Nat.pow_le_pow_right (by omega) (by omega)))
theorem Q42{R b:Nat}{M:MF}(hs:Sym R M)(hb:3<=b)(hM:MBd b R R M):∀k,(∀j,j<k->Qbf (Qan R M j).1 R≠[])->nzc R (Qan R M k).1+k<=R
 |0,_=>Qvh _ _
 |k+1,h=>by
  have h0:=Q42 hs hb hM k fun j hj=>h j (by omega)
  obtain⟨h1,h2⟩:=Qpk hs hb hM k
  have hp:3<=b*7^(R-nzc R (Qan R M k).1):=Nat.le_trans hb (Nat.le_mul_of_pos_right _ (Nat.pow_pos (by omega)))
  obtain⟨s,s1,s2,s3,s4,s5,s6⟩:=Qq2 h1 hp h2 (h k (by omega))
  rw[Qq3]
  simp only
  omega
theorem Qam4{R:Nat}{M:MF}(hs:Sym R M)(hn:Qbf M R≠[]):1<=nzc R M:=by
 refine Nat.pos_of_ne_zero fun h=>hn (Q68 fun i hi=> ?_)
 have:zr R M i=true:=by
  cases hq:zr R M i
  ·exfalso
   have:=Qvi (p:=fun i=> !zr R M i) (q:=fun _=>false) (a:=i) (by simp[hq]) rfl R hi (fun _ _ h=>by cases h)
   unfold nzc at h
   omega
  ·rfl
 exact Qhr.1 this
theorem Qam5{R:Nat}{M:MF}(hs:Sym R M)(hd:¬Qb9 M R<R)(hr:Qbp M R<R):Qbp M R<Qc3 M R (Qbp M R):=by
 have hb0:=Qny hr
 have h0:=Qrq hb0
 have hdz:=Q1u hd
 rcases Nat.lt_trichotomy (Qbp M R) (Qc3 M R (Qbp M R))with h|h|h
 ·exact h
 ·rw[<-h]at h0;exact absurd (hdz _ hr) h0
 ·exact absurd (Qsx h _ hr) (by rw[<-hs _ hr _ hb0];exact h0)
end Go.FW
