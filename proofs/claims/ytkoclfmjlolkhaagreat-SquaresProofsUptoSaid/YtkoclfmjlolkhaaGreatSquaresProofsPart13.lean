/- Part 13 of the proof of SquaresProofs: B13, B14, B15, B12, B16, B17, B18, P7, Q5, Q6, Q7, FwXB. Own lemmas; no conditions. -/
import Derived.Test.YtkoclfmjlolkhaaGreatSquaresProofsPart12
set_option maxHeartbeats 1000000
set_option linter.unusedSimpArgs false
set_option linter.unusedVariables false
set_option linter.unnecessarySimpa false
set_option maxRecDepth 100000
namespace Go.Proofs.YtkoclfmjlolkhaaGreat
open Go Go.FW
def amZ:ay:=⟨50,[.t 2,.t 3,.t 4],Zr (Zc 2 0<|
 Zc 3 0<|
 Yh 4)<| .seq (Zr (Yl 5 0)<| .block 0<| .loop<| .seq (Zr (YH 8 5 0)<| .cond (.t 11) .skip (.exit 0))<| .seq (.block 1<|Zr (Yn 14 0 5<|
 Zm 18 5<|
 YI 19 3 17 18<|
 Zq 21 false 27 [.t 20]<|
 hO 22 21)<| .cond (.t 22) (Zr (Ye 23 5 5<|
 Ye 2 23 24<|
 YZ 4) .ret) .skip)<| .rg (jj 12 5))<| .seq (Zr (Yl 6 0)<| .block 2<| .loop<| .seq (Zr (YH 25 6 0)<| .cond (.t 28) .skip (.exit 2))<| .seq (.block 3<|Zr (gh 31 6 7)<| .block 4<| .loop<| .seq (Zr (YH 33 7 0)<| .cond (.t 36) .skip (.exit 4))<| .seq (.block 5<|Zr (Yn 39 0 6<|
 Zm 43 7<|
 YI 44 3 42 43<|
 Yk 46 27 45<|
 hO 47 46)<| .cond (.t 47) (Zr (Ye 48 6 7<|
 Ye 2 48 49<|
 YZ 4) .ret) .skip)<| .rg (gh 37 7 7))<| .rg (gh 29 6 6))<|Zr (Zc 2 0<|
 Zc 3 0<|
 Yh 4) .ret⟩
theorem ahS:Qe Tryz.prog Tryz.f161=some amZ:=by kernel_rfl
def am1:ay:=⟨31,[.t 6],Zr (Zo (.box 5 3 51 (.t 2))<|
 YE 6)<|Zr (YE 7)<| .seq (Zr (Yl 8 0)<| .block 0<| .loop<| .seq (Zr (YH 9 8 0)<| .cond (.t 12) .skip (.exit 0))<| .seq (.block 1<| .rg (YX 15 7 0 8<|
 YM 18 16 17<|
 Zm 20 1<|
 Zh 21 3 5<|
 ky 22 1 8 3<|
 Yr 26 85 21 25<|
 Zq 27 true 126 [.t 19,.t 20,.t 26]<|
 Yv 28 1 22 27 24 15 7))<| .rg (jj 13 8))<|Zr (YW 30 7 6) .ret⟩
theorem ahT:Qe Tryz.prog Tryz.f163=some am1:=by kernel_rfl
theorem Xd{l:List Rat}{R m:Nat}(hl:l.length=R*m)(df:R<=40)(hm:m<=40):Qd Tryz.prog 59 [PV.bO R m l] (· = .sl 1 (Qo (PV.gS m) (Qu l m) R)):=by
 refine rX Qg Tryz.func59 rfl akt Nz fun C hP=> ?_;simp only[TH];refine ic ?_
 refine Sz0 ?_
 refine iL 3 900 1 22 Oz Tz0 ?_
 refine Ql okB [(3,18)] [12,16,17,18,900] (fun n J hp=>∃i,n=R-i/\i<=R/\J 3= .ms 900 i/\J 4= .int .i64 (i:Nat)/\hp 1=some ⟨3,24,[PV.bO R m l],false⟩/\hp 900=some ⟨1,22,(List.range i).map (fun r=> .sl 3 (Qo PV.rat (Qu l m r) m)),false⟩) R ?_ ?_
 ·refine⟨0,rfl,by omega,?_⟩
  refine Sz0 ?_
  exact⟨rfl,rfl⟩
 rintro _ J h ⟨i,rfl,hi,h3,h4,h1,hh⟩
 refine Sz3 h3 h4 h1 ?_
 refine Qa (fun hg=> ?_) (fun hg=> ?_)
 ·have ao:i<R:=by omega
  have c1:=aku hl ao df hm
  have pk:((List.range m).map (Qu l m i)).length=m:=by simp
  rw[uV]at c1
  refine Sz3 h3 h4 h1 ?_
  rw[bs0 Oz]
  refine Sz3 h3 h4 h1 ?_
  refine Qb hP c1 ?_
  refine Sz3 h3 h4 h1 ?_
  rw[mE (n:=0) (f:=PV.rat) (xs:=[]) (ys:=(List.range m).map (Qu l m i)) Tz0 rfl Oz Oz Oz]
  refine Sz3 h3 h4 h1 ?_
  refine et (Wk.refl _ _) ?_
  refine Sz3 h3 h4 h1 ?_
  rw[akF (e':=3) (ty':=51) (xs:=((List.range m).map (Qu l m i)).map PV.rat) (fz:=false) Tz0,Kac (by simp)]
  refine Sz3 h3 h4 h1 ?_
  rw[Qq (f:=fun r=>PV.sl 3 (Qo PV.rat (Qu l m r) m)) (y:=i) (xs:=List.range i) (ty':=22) (fz:=false) (qV hh) (qV @uV) Oz (by simp) Oz Oz]
  refine Sz3 h3 h4 h1 ?_
  refine Qf (R-(i+1)) Oz ⟨i+1,rfl,by omega,?_⟩
  exact qV h1
 ·obtain rfl:i=R:=by omega
  refine nU h3 hh ?_
  refine tp (cn ?_)
  refine nU h3 hh ?_
  refine Qc ?_ rfl
  rw[Kac (by simp)];rfl
theorem P'{x y:Nat->Rat}{c:Rat}{w k:Nat}(hw:w<=2^30)(hx:∀i,i<w->rs (x i)<=k)(hy:∀i,i<w->rs (y i)<=k)(hc:rs c<=k)(hk:k<=2^32):
  Qd Tryz.prog 162 [.sl 3 (Qo PV.rat x w),.sl 3 (Qo PV.rat y w),PV.rat c] (· = .sl 3 (Qo PV.rat (fu x y c) w)):=by
 have h:=Ph (w:=w) (x:=x) (y:=y) (c:= -c) hw hx hy (by rw[qE];exact hc) hk
 have e:(fun i=>x i- -c*y i)=fu x y c:=by
  funext i
  unfold fu
  rw[Rat.neg_mul,KcI,Rat.neg_neg]
 rw[e]at h
 refine aE Qg Tryz.func162 agl fun C hP=> ?_
 refine Sz0 ?_
 refine Qb hP (Jq hc Oz) ?_
 refine Sz0 ?_
 refine Qb hP h ?_
 refine Sz0 ?_
 exact Qc rfl rfl
theorem To{M:MF}{f:LF}{R k:Nat}(hR:R<=40)(hM:eV k R R M)(hw:rs f.1<=k)(hf:∀c,c<R->rs (f.2 c)<=k)(hk:k<=2^30):
  Qd Tryz.prog 163 [.sl 1 (Qo (PV.gS R) M R),.sl 3 (Qo PV.rat f.2 R),PV.rat f.1] (· = .sl 1 (Qo (PV.gS R) (cA M f) R)):=by
 have dh:(Qo (PV.gS R) M R).length=R:=fW _ _ _
 refine aE Qg Tryz.func163 ahT fun C hP=> ?_
 refine Sz1 dh ?_
 refine iL 7 900 1 22 Oz Tz0 ?_
 refine Ql okB [(7,29)] [28,29,900] (fun n J hp=>∃i,n=R-i/\i<=R/\J 7= .ms 900 i/\J 8= .int .i64 (i:Nat)/\hp 5=some ⟨3,51,[PV.rat f.1],false⟩/\hp 900=some ⟨1,22,(List.range i).map (fun r=>PV.gS R (cA M f r)),false⟩) R ?_ ?_
 ·refine⟨0,rfl,by omega,?_⟩
  refine Sz0 ?_
  exact⟨rfl,rfl⟩
 rintro _ J h ⟨i,rfl,hi,h7,h8,h5,hh⟩
 refine Sz3 h7 h8 dh ?_
 refine Qa (fun hg=> ?_) (fun hg=> ?_)
 ·have ao:i<R:=by omega
  have lj:=hf i ao
  have hm:=eX f.1 (f.2 i)
  have c1:=EV (a:=f.1) (b:=f.2 i) (k:=k) hw lj Oz
  have c2:=Ph (w:=R) (x:=M i) (y:=f.2) (c:=f.1*f.2 i) (k:=2*k) Oz (fun c hc=>by have:=hM i ao c hc;omega) (fun c hc=>by have:=hf c hc;omega) Oz Oz
  repeat' first
   |refine jO ?_ ?_
   |refine Qb hP c1 ?_
   |refine Qb hP c2 ?_
   |simp+decide (disch:=try exact D3 h7 h8 h5) only[go_sem,h7,h8,h5]
  all_goals
   rw[Qq (f:=fun r=>PV.gS R (cA M f r)) (y:=i) (xs:=List.range i) (ty':=22) (fz:=false) (qV hh) cP Oz (by simp) Oz Oz]
   refine Sz3 h7 h8 h5 ?_
   refine Qf (R-(i+1)) Oz ⟨i+1,rfl,by omega,?_⟩
   exact qV h5
 ·obtain rfl:i=R:=by omega
  refine nU h7 hh ?_
  refine Qc ?_ rfl
  rw[Kac (by simp)];rfl
theorem Xe{R:Nat}{l:List Rat}(hl:l.length=R*R)(df:R<=40)(hs:∀q∈l,rs q<=1048576):Qd Tryz.prog 160 [PV.bO R R l] (· = .bool (decide (mS (Qu l R) R))):=by
 refine aE Qg Tryz.func160 agk fun C hP=> ?_
 refine Sz0 ?_
 refine Ql okB [(2,25)] [] (fun q J hp=>∃i,q=R-i/\i<=R/\J 3= .int .i64 (i:Nat)/\hp 1=some ⟨3,24,[PV.bO R R l],false⟩/\∀j,j<i->∀k,k<j->Qu l R j k=Qu l R k j) R ?_ ?_
 ·refine⟨0,rfl,by omega,?_⟩
  refine Sz0 ?_
  exact⟨rfl,fun j hj=>by omega⟩
 rintro _ J h ⟨i,rfl,hi,h3,h1,eT⟩
 refine Sz2 h3 h1 ?_
 refine Qa (fun hc=> ?_) (fun hc=> ?_)
 ·have ao:i<R:=by omega
  refine Sz2 h3 h1 ?_
  refine Ql okB [(2,2),(4,4),(11,25)] [] (fun q J hp=>∃k,q=i-k/\k<=i/\J 4= .int .i64 (k:Nat)/\h=hp/\∀j,j<k->Qu l R i j=Qu l R j i) i ?_ ?_
  ·refine⟨0,rfl,by omega,?_⟩
   refine Sz0 ?_
   exact⟨rfl,fun j hj=>by omega⟩
  rintro _ J2 _ ⟨k,rfl,hk,i4,rfl,is⟩
  refine Sz2 i4 h3 ?_
  refine Qa (fun ie=> ?_) (fun ie=> ?_)
  ·have cf:k<i:=by omega
   have c1:=Tn hl df df ao (show k<R by omega) hs
   have c2:=Tn hl df df (show k<R by omega) ao hs
   have b1:=y7 (m:=R) (r:=i) (c:=k) Oz hs
   have b2:=y7 (m:=R) (r:=k) (c:=i) Oz hs
   have c3:=Tc (a:=Qu l R i k) (b:=Qu l R k i) b1 b2 Oz
   obtain⟨x,hx⟩:∃x,Qu l R i k=x:=⟨_,rfl⟩
   obtain⟨y,hy⟩:∃y,Qu l R k i=y:=⟨_,rfl⟩
   rw[hx]at c1 c3
   rw[hy]at c2 c3
   by_cases e:x=y
   ·rw[decide_eq_true e]at c3
    repeat' first
     |refine jO ?_ ?_
     |refine Qb hP c1 ?_
     |refine Qb hP c2 ?_
     |refine Qb hP c3 ?_
     |simp+decide (disch:=try exact D3 i4 h3 h1) only[go_sem,i4,h3,h1]
    all_goals
     refine Qf (i-(k+1)) Oz ⟨k+1,rfl,by omega,?_⟩
     refine Sz0 ?_
     intro j hj
     by_cases e2:j=k
     ·subst e2;rw[hx,hy,e]
     ·exact is j Oz
   ·rw[decide_eq_false e]at c3
    repeat' first
     |refine jO ?_ ?_
     |refine Qb hP c1 ?_
     |refine Qb hP c2 ?_
     |refine Qb hP c3 ?_
     |simp+decide (disch:=try exact D3 i4 h3 h1) only[go_sem,i4,h3,h1]
    all_goals
     refine Qc ?_ rfl
     rw[decide_eq_false]
     exact fun uy=>e (by rw[<-hx,<-hy];exact uy i ao k cf)
  ·have xR:k=i:=by omega
   subst xR
   refine Sz1 h3 ?_
   simp (disch:=decide) only[fX,eP]
   refine Qf (R-(k+1)) Oz ⟨k+1,rfl,by omega,?_⟩
   refine Sz1 h1 ?_
   intro j hj k' cf
   by_cases e:j=k
   ·subst e;exact is k' Oz
   ·exact eT j Oz k' cf
 ·refine Sz0 ?_
  refine Qc ?_ rfl
  rw[decide_eq_true]
  exact fun j hj k hk=>eT j Oz k hk
def uH(R:Nat)(M:MF):PV:=
 if dA M R<R then .aI [.int .i64 (dA M R:Nat),.int .i64 (dA M R:Nat),.bool true]
 else if ck M R<R then .aI [.int .i64 (ck M R:Nat),.int .i64 (dR M R (ck M R):Nat),.bool true]
 else .aI [.int .i64 0,.int .i64 0,.bool false]
theorem adG{R k:Nat}{M:MF}(hR:R<=40)(hs:Sym R M)(hM:eV k R R M)(hk:k<=2^30):Qd Tryz.prog 161 [.sl 1 (Qo (PV.gS R) M R)] (· =uH R M):=by
 have dh:(Qo (PV.gS R) M R).length=R:=fW _ _ _
 refine aE Qg Tryz.func161 ahS fun C hP=> ?_
 refine Sz1 dh ?_
 refine Ql okB [(2,5),(8,24)] [] (fun q J hp=>∃i,q=R-i/\i<=R/\J 5= .int .i64 (i:Nat)/\∀j,j<i->M j j=0) R ?_ ?_
 ·refine⟨0,rfl,by omega,?_⟩
  refine Sz0 ?_
  exact⟨rfl,fun j hj=>by omega⟩
 rintro _ J h ⟨i,rfl,hi,h5,hz⟩
 refine Sz2 h5 dh ?_
 refine Qa (fun hc=> ?_) (fun hc=> ?_)
 ·have ao:i<R:=by omega
  have b1:=hM i ao i ao
  refine Sz1 h5 ?_
  refine Qb hP (AK (a:=M i i) Oz) ?_
  refine Sz1 h5 ?_
  refine Qa (fun he=> ?_) (fun he=> ?_)
  ·have aH:M i i≠0:=fun e=>he (dz.2 e)
   have KO:dA M R=i:=w9 (Kbv _) Oz (decide_eq_true aH) fun j _ hj=>decide_eq_false (fun h=>h (hz j hj))
   refine Sz1 h5 ?_
   refine kU ?_ rfl rfl rfl (Qn _) (Qn _) (Qn _)
   unfold uH
   rw[KO,if_pos ao]
  ·refine Sz1 h5 ?_
   refine Qf (R-(i+1)) Oz ⟨i+1,rfl,by omega,?_⟩
   refine Sz0 ?_
   intro j hj
   by_cases e:j=i
   ·subst e;exact dz.1 (Classical.not_not.1 he)
   ·exact hz j Oz
 ·obtain rfl:i=R:=by omega
  have uo:¬dA M i<i:=by
   have:dA M i=0+i:=tD fun j _ hj=>decide_eq_false (fun h=>h (hz j Oz))
   omega
  refine Sz0 ?_
  refine Ql okB [(2,4),(6,7),(25,49)] [] (fun q J hp=>∃a,q=i-a/\a<=i/\J 6= .int .i64 (a:Nat)/\∀j,j<a->∀k,k<i->M j k=0) i ?_ ?_
  ·refine⟨0,rfl,by omega,?_⟩
   refine Sz0 ?_
   exact⟨rfl,fun j hj=>by omega⟩
  rintro _ J1 h1 ⟨a,rfl,ha,a6,az⟩
  refine Sz2 a6 dh ?_
  refine Qa (fun zY=> ?_) (fun zY=> ?_)
  ·have kB:a<i:=by omega
   refine Sz1 a6 ?_
   refine Ql okB [(2,4),(7,7),(33,49)] [] (fun q J hp=>∃b,q=i-b/\a<b/\b<=i/\J 7= .int .i64 (b:Nat)/\∀k,k<b->M a k=0) (i-(a+1)) ?_ ?_
   ·refine⟨a+1,rfl,by omega,by omega,?_⟩
    refine Sz0 ?_
    intro k hk
    by_cases e:k=a
    ·subst e;exact hz k Oz
    ·rw[hs a kB k Oz];exact az k Oz a kB
   rintro _ J2 h2 ⟨b,rfl,uf,hb,b7,bz⟩
   refine Sz2 b7 dh ?_
   refine Qa (fun jo=> ?_) (fun jo=> ?_)
   ·have aw:b<i:=by omega
    have b1:=hM a kB b aw
    refine Sz2 b7 a6 ?_
    refine Qb hP (AK (a:=M a b) Oz) ?_
    refine Sz2 b7 a6 ?_
    refine Qa (fun he=> ?_) (fun he=> ?_)
    ·have aH:M a b≠0:=fun e=>he (dz.2 e)
     have pg:dR M i a=b:=w9 (Kbv _) Oz (decide_eq_true aH) fun j _ hj=>decide_eq_false (fun h=>h (bz j hj))
     have Ac:ck M i=a:=w9 (Kbv _) Oz (decide_eq_true (by rw[pg];exact aw)) fun j _ hj=>decide_eq_false (fun h=>by
      have:dR M i j=0+i:=tD fun k _ hk=>decide_eq_false (fun h2=>h2 (az j Oz k Oz))
      omega)
     refine Sz2 b7 a6 ?_
     refine kU ?_ rfl rfl rfl (Qn _) (Qn _) (Qn _)
     unfold uH
     rw[if_neg uo,Ac,if_pos kB,pg]
    ·refine Sz1 b7 ?_
     refine Qf (i-(b+1)) Oz ⟨b+1,rfl,by omega,by omega,?_⟩
     refine Sz0 ?_
     intro k hk
     by_cases e:k=b
     ·subst e;exact dz.1 (Classical.not_not.1 he)
     ·exact bz k Oz
   ·refine Sz1 a6 ?_
    simp (disch:=decide) only[fX,eP]
    refine Qf (i-(a+1)) Oz ⟨a+1,rfl,by omega,?_⟩
    refine Sz0 ?_
    intro j hj k hk
    by_cases e:j=a
    ·subst e;exact bz k Oz
    ·exact az j Oz k hk
  ·refine Sz0 ?_
   refine kU ?_ rfl rfl rfl (Qn _) (Qn _) (Qn _)
   have e1:¬ck M i<i:=by
    have:ck M i=0+i:=tD fun j _ hj=>decide_eq_false (fun h=>by
     have:dR M i j=0+i:=tD fun k _ hk=>decide_eq_false (fun h2=>h2 (az j Oz k Oz))
     omega)
    omega
   unfold uH
   rw[if_neg uo,if_neg e1]
def TK:ay:=⟨132,[.t 2,.cell 3 3 true,.t 4],Zr (gZ 1 24<|
 Yi 2<|
 Zo (.alloc 3 3 24 (.agg [Zz 0,Zz 0,.al]))<|
 Yl 4 0)<| .seq (Zr (dG 17 3 1 57<|
 Zu 19 18 .nil)<| .cond (.t 19) (Zr (Zo (.eA 20 [Zz 0,Zz 0,.al] [])<|
 Yi 2<|
 Zs 3 3 20<|
 Yl 4 1) .ret) .skip)<| .seq (Zr (eS 21 0 1 1 1<|
 Zb 25 .neq 22 24<|
 Zm 26 25<|
 Zg 26 false (.ld 27 3 true (.t 1))<|
 vG 26 160<|
 vH 26)<| .cond (.t 30) (Zr (Zo (.eA 31 [Zz 0,Zz 0,.al] [])<|
 Yi 2<|
 Zs 3 3 31<|
 Yl 4 16) .ret) .skip)<|Zr (dG 32 3 1 59<|
 Yc 5 33)<|Zr (YE 6)<|Zr (Yf 34 1 1<|
 Zo (.eA 36 [Zz 0,Zz 0,.al] [(1,1,.t 35)])<|
 qd 7<|
 .wk<| .wk<|Zs 3 7 36<|
 .wk .nil)<| .seq (.block 0<| .loop<| .block 1<|Zr (Yz 38 5 161<|
 Zm 37 39<|
 lU 40 37<|
 Ye 8 40 41<|
 Yc 10 42)<| .seq (Zr (Zm 43 10<|
 Zu 44 43 .nil)<| .cond (.t 44) (.exit 0) .skip)<|Zr (Yn 45 5 8<|
 Zm 49 9<|
 YI 50 3 48 49<|
 lR 11 51)<|Zr (Yn 52 5 8<|
 Zh 56 3 11<|
 Ym 57 125 55 56<|
 Zo (.bs 58 1 22 [.t 57])<|
 Yc 12 58)<|Zr (Zh 59 3 11<|
 Zo (.bs 60 3 51 [.t 59])<|
 Yc 13 60)<| .seq (Zr (Ye 61 8 9<|
 Zb 63 .neq 61 62 .nil)<| .cond (.t 63) (Zr (Zh 66 3 11<|
 .br (Zq 65 true 51 [.c (Zz 1),.c (Zz 2)]<|
 .br (Yr 67 143 65 66<|
 Zm 64 67<|
 mY 68 64 14 15) (Yb 14<|
 qe 67 143 65 66 64 14 15)) (Yb 14<|
 Zq 65 true 51 [.c (Zz 1),.c (Zz 2)]<|
 qe 67 143 65 66 64 14 15))<|Zr (Yn 70 5 8<|
 Yn 74 5 9<|
 Yn 80 5 8<|
 Yn 84 5 9<|
 Zq 78 true 50 [.c (Zz 1)]<|
 Zq 79 true 162 [.t 73,.t 77,.t 78]<|
 Zq 88 true 50 [.c (Zz (-1))]<|
 Zq 89 true 162 [.t 83,.t 87,.t 88]<|
 Zo (.bs 90 1 22 [.t 79,.t 89])<|
 Yc 12 90)<| .rg (Zh 91 3 14<|
 Zh 92 3 14<|
 YY 93 63 92<|
 Zo (.bs 94 3 51 [.t 91,.t 93])<|
 Yc 13 94)) .skip)<|Zr (Yl 16 0)<| .block 2<| .loop<| .seq (Zr (YH 95 16 12)<| .cond (.t 98) .skip (.exit 2))<| .seq (.block 3<|Zr (YX 101 5 12 16<|
 YM 104 102 103<|
 ky 106 13 16 3<|
 Zq 110 false 163 [.t 101,.t 105,.t 109]<|
 Yc 5 110)<|Zr (YX 111 6 13 16<|
 YI 114 3 112 113<|
 Yv 116 3 51 115 56 111 6)<|Zr (Yf 118 0 7<|
 Zk 120 .add 119 1<|
 Zf 121 0 7<|
 gK 1 121 120)<| .rg (Yf 122 2 7<|
 Yn 124 12 16<|
 mZ 128 3 56 51 123 127<|
 Zf 129 2 7<|
 gK 1 129 128))<| .rg (gh 99 16 16))<|Zr (Zm 130 6<|
 Zh 131 3 7<|
 .wk<|Zm 2 130<|
 Zs 3 3 131<|
 Yl 4 0) .ret⟩
theorem akx:Qe Tryz.prog Tryz.f93=some TK.strip:=by kernel_rfl
theorem ahU{α:Rat}(h:α≠0):((1:Int):Rat)/((2:Int):Rat)/α=1/(α+α):=by
 have h2:α+α≠0:=fun e=>h (by grind)
 have e1:((1:Int):Rat)/((2:Int):Rat)*(((2:Int):Rat))=1:=by decide+kernel
 have e2:((2:Int):Rat)=2:=rfl
 rw[e2]at e1⊢
 grind
theorem N7{R:Nat}{M:MF}(h:mS M R):Sym R M:=fun i hi k hk=>by
 rcases Nat.lt_trichotomy i k with e|e|e
 ·exact(h k hk i e).symm
 ·rw[e]
 ·exact h i hi k e
theorem ack{R:Nat}{l:List Rat}(hl:l.length=R*R)(df:R<=5)(wu:∀q∈l,rs q<=3)(GL:mS (Qu l R) R):
  Qd Tryz.prog 93 [PV.bO R R l] (· =vD R (Qv R (Qu l R) (2*R)).2):=by
 have hs:∀q∈l,rs q<=1048576:=fun q hq=>by have:=wu q hq;omega
 have c1:=Xe hl Oz hs
 rw[decide_eq_true GL]at c1
 have c2:=Xd hl (show R<=40 by omega) Oz
 have hz:([.agg [.int .i64 0,.int .i64 0,.al]]:List PV)≠[]:=by simp
 have Ah:∀x∈([.agg [.int .i64 0,.int .i64 0,.al]]:List PV),x.aU=x.cells:=fun x hx=>by rw[KaB.1 hx];rfl
 have zW:eV 3 R R (Qu l R):=fun r _ c _=>y7 Oz wu
 have zX:=N7 GL
 obtain⟨M,hM⟩:∃M,Qu l R=M:=⟨_,rfl⟩
 rw[hM]at c2 zW zX⊢
 have F9:vC 50421 R R M:=fun k hk=>by
  have h:=Pp (n:=R) zX Oz zW k hk
  have e:3*7^R<=3*7^5:=KaA _ (KaN Oz df)
  exact⟨fun r hr c hc=>Kao (h.1 r hr c hc) e,fun f hf=>⟨Kao (h.2.1 f hf).1 e,fun c hc=>Kao ((h.2.1 f hf).2 c hc) e⟩,fun j hj r hr c hc=>Kao (h.2.2 j hj r hr c hc) e⟩
 refine rX Qg Tryz.func93 rfl akx Nz fun C hP=> ?_;simp only[TK];refine ic ?_
 simp+decide (disch:=try exact D0) only[go_sem]
 refine Qb hP (XR hl Oz Oz hs) ?_
 simp+decide (disch:=try exact D0) only[go_sem]
 repeat' first
  |refine jO ?_ ?_
  |refine Qb hP c1 ?_
  |refine Qb hP c2 ?_
  |simp+decide (disch:=try exact D0) only[go_sem]
 refine et (qG 7 2000001 Tr0 Oz rfl Oz) ?_
 refine et (xd (γ:=2000001) (e:=3) (ty:=24) (fz:=false) T0 hz Oz Ah) ?_
 simp+decide (disch:=try exact D0) only[go_sem]
 refine et (Jr (γ:=2000001) (e:=3) (ty:=24) (cs:=[.int .i64 0,.int .i64 (R:Nat),.al]) (cs':=[.int .i64 0,.int .i64 (R:Nat),.aB 2000002 0 0]) 2000002 3 51 T0 Tr0 Oz Oz rfl (by simp)) ?_
 simp+decide (disch:=try exact D0) only[go_sem]
 refine iL 6 900 3 51 Oz T0 ?_
 refine iz okB [(5,16),(37,129),(2000001,2000001)] [11,14,58,60,90,94,116,117,128,900] (fun q J hp=>∃k,q=R-k/\(∀j,j<k->bS (Qv R M j).1 R≠[])/\J 5= .sl 1 (Qo (PV.gS R) (Qv R M k).1 R)/\J 6= .ms 900 (Qv R M k).2.length/\J 7= .np 2000001 0 0/\J 2000001= .aF 2000001 3 24 [tT R (Qv R M k).2.length]/\
   hp 3=some ⟨3,24,[.agg [.int .i64 0,.int .i64 0,.al]],false⟩/\hp 2000001=some ⟨3,24,[],false⟩/\hp 2000002=some ⟨3,51,(du R (Qv R M k).2).map PV.rat,false⟩/\hp 900=some ⟨3,51,((Qv R M k).2.map (·.1)).map PV.rat,false⟩) R ?_ ?_
 ·refine⟨0,rfl,(fun j hj=>by omega),?_⟩
  simp+decide (disch:=try exact D0) only[go_sem]
  exact⟨rfl,rfl,by simp[Qv],rfl,rfl⟩
 rintro _ J h ⟨k,rfl,Gg,j5,j6,j7,jb,h3,hb,hx,h9⟩
 have mc:=Bp zX Oz zW k Gg
 have Gr:k<=R:=by omega
 obtain⟨Cl,_⟩:=EX zX (b:=3) Oz zW k
 have jn:=F9 k Gr
 have wc:=DS R M k
 have uu:=adG (k:=50421) Oz Cl jn.1 Oz
 simp+decide (disch:=try exact D4 j5 j6 j7 jb) only[go_sem,j5,j6,j7,jb]
 refine Qb hP uu ?_
 have gl:(Qv R M (k+1)).1=eQ (Qv R M k).1 (bS (Qv R M k).1 R):=rfl
 have oc:(Qv R M (k+1)).2=(Qv R M k).2++bS (Qv R M k).1 R:=rfl
 by_cases fo:bS (Qv R M k).1 R=[]
 ·have hd:¬dA (Qv R M k).1 R<R:=fun h=>by unfold bS at fo;rw[if_pos h]at fo;cases fo
  have hr:¬ck (Qv R M k).1 R<R:=fun h=>by unfold bS at fo;rw[if_neg hd,if_pos h]at fo;cases fo
  have fm:=EW fo (2*R-k)
  rw[show k+(2*R-k)=2*R by omega]at fm
  rw[fm]
  unfold uH
  rw[if_neg hd,if_neg hr]
  have qj:=tg R (Qv R M k).2
  simp+decide (disch:=try exact D8 j5 j6 j7 jb h3 hb hx h9) only[go_sem,j5,j6,j7,jb,h3,hb,hx,h9]
  refine Fq 131 2 [2000002] (p:=tT R (Qv R M k).2.length) T0 (D:=PV.bO (Qv R M k).2.length R (du R (Qv R M k).2)) ?_ ?_ rfl ?_
  ·intro c hc
   simp only[KaG,Kb7,or_false]at hc
   rcases hc with rfl|rfl|rfl
   ·trivial
   ·trivial
   ·simp only[pG,aP];simp
  ·show PV.agg [_,_,fO _ h 2 (.aB 2000002 0 _)]=_
   simp only[fO,hx,Ka6]
   rw[Kac (by rw[Kap,qj];omega)]
  simp+decide (disch:=try exact E6 j6 j7 jb h3 hb h9) only[go_sem,j6,j7,jb,h3,hb,h9,ep,Kay,KaD,Kaz,KaF,Kam]
  refine tp (HD ?_)
  simp+decide (disch:=try exact E2 h3 h9) only[go_sem,h3,h9,ep,Kay,KaD,Kaz,KaF,Kam]
  rw[Kac (by simp)]
  exact kU rfl rfl rfl rfl (Qn _) (Qn _) (Qn _)
 have asu:k<R:=by
  have:=OP Cl fo
  omega
 have UA:∀j,j<k+1->bS (Qv R M j).1 R≠[]:=fun j hj=>by
  by_cases e:j=k
  ·subst e;exact fo
  ·exact Gg j Oz
 have gQ:=H0 (Qv R M k).1 R
 obtain⟨E,hE⟩:∃E,Qv R M k=E:=⟨_,rfl⟩
 rw[hE]at jn wc gl oc j5 j6 jb hx h9 fo gQ Cl⊢
 obtain⟨N,fs⟩:=E
 simp only at jn wc gl oc j5 j6 jb hx h9 fo gQ Cl⊢
 have ue:0<R:=by omega
 by_cases hd:dA N R<R
 ·have e0:uH R N= .aI [.int .i64 (dA N R:Nat),.int .i64 (dA N R:Nat),.bool true]:=by unfold uH;rw[if_pos hd]
  have e1:bS N R=[(N (dA N R) (dA N R),fu (fun _=>0) (N (dA N R)) (1/N (dA N R) (dA N R)))]:=by unfold bS;rw[if_pos hd]
  have h0:=Be hd
  obtain⟨L,hL⟩:∃L,bS N R=L:=⟨_,rfl⟩
  rw[hL]at jn gQ gl oc e1 fo
  rw[e0]
  generalize dA N R=d at *
  have uj:=jn.1 d hd d hd
  have ho:=Pj (x:=N d) (c:=N d d) (w:=R) (k:=50421) Oz (fun c hc=>jn.1 d hd c hc) uj h0 Oz
  have fU:Qo PV.rat (fun c=>N d c/N d d) R=Qo PV.rat (fu (fun _=>0) (N d) (1/N d d)) R:=nC fun c hc=>by
   show N d c/N d d=0+1/N d d*N d c
   rw[Rat.zero_add,KbA,KbA,Kck,Rat.mul_comm]
  rw[fU]at ho
  have F8:L.length=1:=by rw[e1];rfl
  simp+decide (disch:=try exact D8 j5 j6 j7 jb h3 hb hx h9) only[go_sem,j5,j6,j7,jb,h3,hb,hx,h9]
  refine Qb hP ho ?_
  simp+decide (disch:=try exact D8 j5 j6 j7 jb h3 hb hx h9) only[go_sem,j5,j6,j7,jb,h3,hb,hx,h9]
  refine iz okB [(5,7),(16,16),(95,129),(2000001,2000001)] [116,117,128,900] (fun q J hp=>∃i,q=L.length-i/\i<=L.length/\J 5= .sl 1 (Qo (PV.gS R) (eQ N (L.take i)) R)/\J 6= .ms 900 (fs++L.take i).length/\J 7= .np 2000001 0 0/\J 16= .int .i64 (i:Nat)/\J 2000001= .aF 2000001 3 24 [tT R (fs++L.take i).length]/\
    hp 3=some ⟨3,24,[.agg [.int .i64 0,.int .i64 0,.al]],false⟩/\hp 2000001=some ⟨3,24,[],false⟩/\hp 2000002=some ⟨3,51,(du R (fs++L.take i)).map PV.rat,false⟩/\hp 900=some ⟨3,51,((fs++L.take i).map (·.1)).map PV.rat,false⟩/\
    hp 58=some ⟨1,22,L.map (fun f=>PV.gS R f.2),false⟩/\hp 60=some ⟨3,51,L.map (fun f=>PV.rat f.1),false⟩) L.length ?_ ?_
  ·refine⟨0,rfl,by omega,?_⟩
   simp+decide (disch:=try exact D8 j5 j6 j7 jb h3 hb hx h9) only[go_sem,j5,j6,j7,jb,h3,hb,hx,h9]
   simp only[Kam]
   refine⟨rfl,trivial,rfl,trivial,trivial,trivial,?_,?_⟩
   ·rw[e1];rfl
   ·rw[e1];rfl
  rintro _ J1 g ⟨i,rfl,hi,i5,i6,i7,i16,ib,g3,gb,gx,g9,gp,gq⟩
  simp+decide (disch:=try exact D1 i16) only[go_sem,i16]
  refine Qa (fun pg=> ?_) (fun pg=> ?_)
  ·have ao:i<L.length:=by omega
   have aW:L.take (i+1)=L.take i++[L[i]]:=Kak ao
   have uk:=jn.2.1 _ (Kai ao)
   have Ch:=jn.2.2 i hi
   have gP:(fs++L.take i).length<=200:=by
    rw[Kax,KaI];omega
   have Cx:=tg R (fs++L.take i)
   generalize hf:L[i]=f at *
   have fD:=IG N (L.take i) f
   have Cz:=IH R (fs++L.take i) f
   have Cn:fs++L.take (i+1)=(fs++L.take i)++[f]:=by rw[aW,<-List.append_assoc]
   rw[<-aW]at fD
   generalize hT:fs++L.take i=T at *
   generalize hZ:eQ N (L.take i)=Z at *
   have Up:T.length*R<=200*5:=KaY gP df
   have dh:(Qo PV.rat f.2 R).length=R:=fW _ _ _
   have hw:=To (M:=Z) (f:=f) (k:=50421) Oz Ch uk.1 uk.2 Oz
   simp+decide (disch:=try exact D12 i5 i6 i7 i16 ib g3 gb gx g9 gp gq hf) only[go_sem,i5,i6,i7,i16,ib,g3,gb,gx,g9,gp,gq,hf]
   refine Qb hP hw ?_
   simp+decide (disch:=try exact D12 i5 i6 i7 i16 ib g3 gb gx g9 gp gq hf) only[go_sem,i5,i6,i7,i16,ib,g3,gb,gx,g9,gp,gq,hf]
   rw[Qq (f:=PV.rat) (y:=f.1) (xs:=T.map (·.1)) (ty':=51) (fz:=false) (T1 g9) T0 Oz (by simp) Oz Oz]
   simp+decide (disch:=try exact D12 i5 i6 i7 i16 ib g3 gb gx g9 gp gq hf) only[go_sem,i5,i6,i7,i16,ib,g3,gb,gx,g9,gp,gq,hf]
   rw[Ht (xs:=(du R T).map PV.rat) (T1 gx) Oz (by rw[Kap,Cx]) (BF ue) (by rw[dh];omega) (by rw[dh];omega) Oz,dh]
   simp+decide (disch:=try exact D11 i5 i6 i7 i16 ib g3 gb gx g9 gp gq) only[go_sem,i5,i6,i7,i16,ib,g3,gb,gx,g9,gp,gq]
   refine fG (L.length-(i+1)) Oz ⟨i+1,rfl,by omega,?_⟩
   rw[Cn,fD]
   simp+decide (disch:=try exact D10 i5 i6 i7 ib g3 gb gx g9 gp gq) only[go_sem,i5,i6,i7,ib,g3,gb,gx,g9,gp,gq]
   refine⟨by rw[Kax];rfl,?_,?_,by simp⟩
   ·rw[Kax,KcQ,show T.length*R+R=(T.length+1)*R from(Kcq _ _).symm]
   ·rw[Cz,Kbo,uV]
  ·have CB:i=L.length:=by omega
   subst CB
   rw[KaH]at i5 i6 ib gx g9
   simp (disch:=decide) only[mB,oC,eP,oD]
   simp+decide (disch:=try exact D0) only[go_sem]
   refine fG (R-(k+1)) Oz ⟨k+1,rfl,UA,?_⟩
   rw[gl,oc]
   simp+decide (disch:=try exact D8 i5 i6 i7 ib g3 gb gx g9) only[go_sem,i5,i6,i7,ib,g3,gb,gx,g9]
 ·have hr:ck N R<R:=by
   refine Classical.byContradiction fun h=>fo ?_
   unfold bS;rw[if_neg hd,if_neg h]
  have au:=ahR Cl hd hr
  have cI:=xa hr
  have h0:=y8 cI
  have e0:uH R N= .aI [.int .i64 (ck N R:Nat),.int .i64 (dR N R (ck N R):Nat),.bool true]:=by unfold uH;rw[if_neg hd,if_pos hr]
  have e1:bS N R=[(1/(N (ck N R) (dR N R (ck N R))+N (ck N R) (dR N R (ck N R))),fu (N (ck N R)) (N (dR N R (ck N R))) 1),(-(1/(N (ck N R) (dR N R (ck N R))+N (ck N R) (dR N R (ck N R)))),fu (N (ck N R)) (N (dR N R (ck N R))) (-1))]:=by unfold bS;rw[if_neg hd,if_pos hr]
  obtain⟨L,hL⟩:∃L,bS N R=L:=⟨_,rfl⟩
  rw[hL]at jn gQ gl oc e1 fo
  rw[e0]
  generalize ck N R=a at *
  generalize dR N R a=d at *
  have uj:=jn.1 a hr d cI
  have he:=ahU h0
  have ba:∀c,c<R->rs (N a c)<=50421:=fun c hc=>jn.1 a hr c hc
  have bd:∀c,c<R->rs (N d c)<=50421:=fun c hc=>jn.1 d cI c hc
  have q1:rs ((1:Int):Rat)<=1:=lO
  have q2:rs ((-1:Int):Rat)<=1:=Dn
  have hh:rs (((1:Int):Rat)/((2:Int):Rat))<=10:=by decide+kernel
  have ho:=Pj (x:=N a) (c:=N a d) (w:=R) (k:=50421) Oz ba uj h0 Oz
  have j8:=WV (x:=1) (y:=2) Oz Oz Oz
  have sJ:=NK (a:=((1:Int):Rat)/((2:Int):Rat)) (b:=N a d) (k:=50421) Oz uj Oz h0
  have bw:=xe (a:=((1:Int):Rat)/((2:Int):Rat)) h0
  rw[he]at sJ bw
  have sN:=Jq (a:=1/(N a d+N a d)) (k:=60000) Oz Oz
  have wh:=AE (x:=1) Oz Oz
  have K8:=AE (x:= -1) Oz Oz
  have eT:=P' (x:=N a) (y:=N d) (c:=((1:Int):Rat)) (w:=R) (k:=50421) Oz ba bd Oz Oz
  have cR:=P' (x:=N a) (y:=N d) (c:=((-1:Int):Rat)) (w:=R) (k:=50421) Oz ba bd Oz Oz
  have F8:L.length=2:=by rw[e1];rfl
  rw[show(-1:Rat)=((-1:Int):Rat)from rfl,show(1:Rat)=((1:Int):Rat)from rfl]at e1
  rw[show(1:Rat)=((1:Int):Rat)from rfl]at sJ sN
  generalize((1:Int):Rat)/(N a d+N a d)=wt at *
  generalize((1:Int):Rat)/((2:Int):Rat)=hf2 at *
  generalize((1:Int):Rat)=u1 at *
  generalize((-1:Int):Rat)=u2 at *
  simp+decide (disch:=try exact D8 j5 j6 j7 jb h3 hb hx h9) only[go_sem,j5,j6,j7,jb,h3,hb,hx,h9]
  refine Qb hP ho ?_
  simp+decide (disch:=try exact D8 j5 j6 j7 jb h3 hb hx h9) only[go_sem,j5,j6,j7,jb,h3,hb,hx,h9]
  refine Tk okB [(7,7),(12,15),(64,94),(2000001,2000001)] [14,90,94] (fun J hp=>J 7= .np 2000001 0 0/\J 12= .ms 90 2/\J 13= .ms 94 2/\J 2000001= .aF 2000001 3 24 [tT R fs.length]/\hp 3=some ⟨3,24,[.agg [.int .i64 0,.int .i64 0,.al]],false⟩/\hp 2000001=some ⟨3,24,[],false⟩/\hp 2000002=some ⟨3,51,(du R fs).map PV.rat,false⟩/\hp 900=some ⟨3,51,(fs.map (·.1)).map PV.rat,false⟩/\
    hp 90=some ⟨1,22,L.map (fun f=>PV.gS R f.2),false⟩/\hp 94=some ⟨3,51,L.map (fun f=>PV.rat f.1),false⟩) ?_ ?_
  ·refine Qa (fun _=> ?_) (fun h=>absurd h Oz)
   repeat' first
    |refine jO ?_ ?_
    |refine Qb hP j8 ?_
    |refine Qb hP sJ ?_
    |refine Qb hP sN ?_
    |refine Qb hP wh ?_
    |refine Qb hP K8 ?_
    |refine Qb hP eT ?_
    |refine Qb hP cR ?_
    |simp+decide (disch:=try exact D8 j5 j6 j7 jb h3 hb hx h9) only[go_sem,j5,j6,j7,jb,h3,hb,hx,h9]
   all_goals
    refine oK ?_
    simp+decide (disch:=try exact D8 j5 j6 j7 jb h3 hb hx h9) only[go_sem,j5,j6,j7,jb,h3,hb,hx,h9]
    rw[e1]
    exact⟨rfl,rfl⟩
  clear h3 hb hx h9 j7 jb
  rintro J3 g ⟨j7,oo,oq,jb,h3,hb,hx,h9,kp,kq⟩
  simp (disch:=decide) only[mB,oC,eP,oD]
  simp+decide (disch:=try exact D10 j5 j6 j7 jb h3 hb hx h9 oo oq) only[go_sem,j5,j6,j7,jb,h3,hb,hx,h9,oo,oq]
  refine iz okB [(5,7),(16,16),(95,129),(2000001,2000001)] [116,117,128,900] (fun q J hp=>∃i,q=L.length-i/\i<=L.length/\J 5= .sl 1 (Qo (PV.gS R) (eQ N (L.take i)) R)/\J 6= .ms 900 (fs++L.take i).length/\J 7= .np 2000001 0 0/\J 16= .int .i64 (i:Nat)/\J 2000001= .aF 2000001 3 24 [tT R (fs++L.take i).length]/\
    hp 3=some ⟨3,24,[.agg [.int .i64 0,.int .i64 0,.al]],false⟩/\hp 2000001=some ⟨3,24,[],false⟩/\hp 2000002=some ⟨3,51,(du R (fs++L.take i)).map PV.rat,false⟩/\hp 900=some ⟨3,51,((fs++L.take i).map (·.1)).map PV.rat,false⟩/\
    hp 90=some ⟨1,22,L.map (fun f=>PV.gS R f.2),false⟩/\hp 94=some ⟨3,51,L.map (fun f=>PV.rat f.1),false⟩) L.length ?_ ?_
  ·refine⟨0,rfl,by omega,?_⟩
   simp+decide (disch:=try exact D8 j5 j6 j7 jb h3 hb hx h9) only[go_sem,j5,j6,j7,jb,h3,hb,hx,h9]
   simp only[Kam]
   refine⟨rfl,trivial,rfl,trivial,trivial,trivial,?_,?_⟩
   ·exact kp
   ·exact kq
  rintro _ J1 g ⟨i,rfl,hi,i5,i6,i7,i16,ib,g3,gb,gx,g9,gp,gq⟩
  simp+decide (disch:=try exact D3 i16 oo oq) only[go_sem,i16,oo,oq]
  refine Qa (fun pg=> ?_) (fun pg=> ?_)
  ·have ao:i<L.length:=by omega
   have aW:L.take (i+1)=L.take i++[L[i]]:=Kak ao
   have uk:=jn.2.1 _ (Kai ao)
   have Ch:=jn.2.2 i hi
   have gP:(fs++L.take i).length<=200:=by
    rw[Kax,KaI];omega
   have Cx:=tg R (fs++L.take i)
   generalize hf:L[i]=f at *
   have fD:=IG N (L.take i) f
   have Cz:=IH R (fs++L.take i) f
   have Cn:fs++L.take (i+1)=(fs++L.take i)++[f]:=by rw[aW,<-List.append_assoc]
   rw[<-aW]at fD
   generalize hT:fs++L.take i=T at *
   generalize hZ:eQ N (L.take i)=Z at *
   have Up:T.length*R<=200*5:=KaY gP df
   have dh:(Qo PV.rat f.2 R).length=R:=fW _ _ _
   have hw:=To (M:=Z) (f:=f) (k:=50421) Oz Ch uk.1 uk.2 Oz
   simp+decide (disch:=try exact D14 i5 i6 i7 i16 ib g3 gb gx g9 gp gq hf oo oq) only[go_sem,i5,i6,i7,i16,ib,g3,gb,gx,g9,gp,gq,hf,oo,oq]
   refine Qb hP hw ?_
   simp+decide (disch:=try exact D14 i5 i6 i7 i16 ib g3 gb gx g9 gp gq hf oo oq) only[go_sem,i5,i6,i7,i16,ib,g3,gb,gx,g9,gp,gq,hf,oo,oq]
   rw[Qq (f:=PV.rat) (y:=f.1) (xs:=T.map (·.1)) (ty':=51) (fz:=false) (T1 g9) T0 Oz (by simp) Oz Oz]
   simp+decide (disch:=try exact D14 i5 i6 i7 i16 ib g3 gb gx g9 gp gq hf oo oq) only[go_sem,i5,i6,i7,i16,ib,g3,gb,gx,g9,gp,gq,hf,oo,oq]
   rw[Ht (xs:=(du R T).map PV.rat) (T1 gx) Oz (by rw[Kap,Cx]) (BF ue) (by rw[dh];omega) (by rw[dh];omega) Oz,dh]
   simp+decide (disch:=try exact D13 i5 i6 i7 i16 ib g3 gb gx g9 gp gq oo oq) only[go_sem,i5,i6,i7,i16,ib,g3,gb,gx,g9,gp,gq,oo,oq]
   refine fG (L.length-(i+1)) Oz ⟨i+1,rfl,by omega,?_⟩
   rw[Cn,fD]
   simp+decide (disch:=try exact D12 i5 i6 i7 ib g3 gb gx g9 gp gq oo oq) only[go_sem,i5,i6,i7,ib,g3,gb,gx,g9,gp,gq,oo,oq]
   refine⟨by rw[Kax];rfl,?_,?_,by simp⟩
   ·rw[Kax,KcQ,show T.length*R+R=(T.length+1)*R from(Kcq _ _).symm]
   ·rw[Cz,Kbo,uV]
  ·have CB:i=L.length:=by omega
   subst CB
   rw[KaH]at i5 i6 ib gx g9
   simp (disch:=decide) only[mB,oC,eP,oD]
   simp+decide (disch:=try exact D0) only[go_sem]
   refine fG (R-(k+1)) Oz ⟨k+1,rfl,UA,?_⟩
   rw[gl,oc]
   simp+decide (disch:=try exact D8 i5 i6 i7 ib g3 gb gx g9) only[go_sem,i5,i6,i7,ib,g3,gb,gx,g9]
theorem N8{l:List Rat}{k:Nat}(hl:l.length<=1048576)(hk:k<=1048576)(hs:∀q∈l,rs q<=k):nK (l.map qR):=⟨by rw[Kap];exact hl,qb.of fun q hq=>Kao (hs q hq) hk⟩
def nM(M:MF)(x:Nat->Rat)(w:Nat):Nat->Rat
 |0=>0
 |n+1=>nM M x w n+x n*Qs (M n) x w
def kk(l:List Rat):Nat->Rat:=fun i=>l.getD i 0
theorem acm(l:List Rat):Qo PV.rat (kk l) l.length=l.map PV.rat:=by
 refine Kbg (by simp[Qo]) fun j h1 h2=> ?_
 rw[pN,KbB]
 unfold kk
 rw[Kad,Kag (by simpa using h2)];rfl
theorem adH{l:List Rat}{k:Nat}(hk:1<=k)(h:∀q∈l,rs q<=k)(i:Nat):rs (kk l i)<=k:=by
 unfold kk
 rw[Kad]
 cases hq:l[i]? with
 |none=>have:=sj;show rs 0<=k;omega
 |some q=>exact h q (Kaj hq)
abbrev arC(e:Int):PV:= .aI [PV.rQ [],PV.lF 0 0 [],.int .i64 e]
theorem ahV:PV.le .al (PV.rQ []):=trivial
theorem Xf:Qd Tryz.prog 115 [.sl 1 []] (· = .bool true):=by
 refine rX Qg Tryz.func115 rfl Pa Nz fun C hP=> ?_;simp only[Kb];refine ic ?_
 refine Sz0 ?_
 refine Ql okB [(2,4),(7,31)] [] (fun q J hp=>J 7= .int .i64 (0:Nat)) 0 ?_ ?_
 ·refine Sz0 ?_
  rfl
 rintro _ J h h7
 refine Sz1 h7 ?_
 refine tp (cn ?_)
 refine Sz0 ?_
 exact Qc rfl rfl
theorem acn:Qd Tryz.prog 48 [PV.bO 0 0 []] (· =arC 0):=by
 have c2:=Xo (l:=[]) (R:=0) (m:=0) rfl Oz Oz
 have e:xm (Qu [] 0) 0 0=[]:=rfl
 rw[e]at c2
 refine rX Qg Tryz.func48 rfl P8 Nz fun C hP=> ?_;simp only[Ke];refine ic ?_
 refine Sz0 ?_
 refine Qb hP (Ec (R:=0) (m:=0) (l:=[]) rfl Oz Oz (fun q hq=>by cases hq)) ?_
 refine Sz0 ?_
 refine Qb hP c2 ?_
 refine Sz0 ?_
 refine Qb hP Xf ?_
 refine Sz0 ?_
 refine et (Wk.refl _ _) ?_
 refine et (Wk.refl _ _) ?_
 refine et (Wk.refl _ _) ?_
 refine Sz0 ?_
 refine Ql okB [(2,2),(6,6),(8,9),(33,80)] [8,46,47,52] (fun q J hp=>J 33= .int .i64 (0:Nat)/\J 2= .al/\hp 3=some ⟨3,24,[.agg [.int .i64 0,.int .i64 0,.al]],false⟩) 0 ?_ ?_
 ·refine Sz0 ?_
  exact⟨rfl,rfl⟩
 rintro _ J h ⟨Km,h2,h3⟩
 refine Sz3 Km h2 h3 ?_
 refine et (Wk.refl _ _) ?_
 refine Sz3 Km h2 h3 ?_
 refine tp (HD ?_)
 refine Sz3 Km h2 h3 ?_
 exact kU rfl rfl rfl rfl ahV agf (Qn _)
theorem JF{R K n:Nat}{M:MF}(hB:vC K R n M):∀k,k<=n->∀f∈(Qv R M k).2,rs f.1<=K/\∀c,c<R->rs (f.2 c)<=K
 |0,_,f,hf=>by simp[Qv]at hf
 |k+1,hk,f,hf=>by
  rw[tl]at hf
  rcases KaK.1 hf with hf|hf
  ·exact JF hB k Oz f hf
  ·exact(hB k Oz).2.1 f hf
theorem XW{l:List a9}{k:Nat}(hb:∀t∈l,RB k t)(dT:1<=k)(hk:k<=2^24)(gP:l.length<=100):Qd Tryz.prog 91 [PV.lG l] (· =PV.aM (zD l)):=by
 have dD:∀t∈l,rs t.q<=k:=fun t ht=>(RB.raw (hb t ht) dT).rs
 refine aE Qg Tryz.func91 ai2 fun C hP=> ?_
 refine Sz0 ?_
 refine iL 3 900 1 37 Oz Tz0 ?_
 refine Ql dq [(3,3),(5,7),(10,51)] [5,49,50,900] (fun n J hp=>∃i,n=l.length-i/\i<=l.length/\J 3= .ms 900 (jQ (l.take i)).length/\J 10= .int .i64 (i:Nat)/\hp 900=some ⟨1,37,(jQ (l.take i)).map PV.aM,false⟩) l.length ?_ ?_
 ·refine⟨0,rfl,by omega,?_⟩
  refine Sz0 ?_
  exact⟨rfl,rfl,rfl⟩
 rintro _ J h ⟨i,rfl,hi,h3,bl,hh⟩
 refine Sz2 h3 bl ?_
 refine Qa (fun hg=> ?_) (fun hg=> ?_)
 ·have ao:i<l.length:=by omega
  have dv:=hb _ (Kai ao)
  have aW:=XJ ao
  have bx:=DA (l.take i)
  rw[KaI]at bx
  generalize hx:l[i]=x at *
  have pk:=dv.l
  have uz:=uN x.m
  have Lh:=(RB.raw dv dT).rs
  refine Sz3 h3 bl hx ?_
  refine Ql dq [(6,6),(17,29)] [] (fun n J hp=>n<=x.m.length/\mP x.m n=dF x.m/\J 6= .int .i64 (n:Nat)/\hp 5=some ⟨4,95,[PV.qw x],false⟩/\hp 900=some ⟨1,37,(jQ (l.take i)).map PV.aM,false⟩) x.m.length ?_ ?_
  ·refine⟨by omega,rfl,?_⟩
   exact Tz1 hh
  rintro n J2 h2 ⟨hn,hc,h6,bT,dI⟩
  refine Sz2 h6 bT ?_
  refine fV (fun eZ=> ?_) (fun eZ=> ?_)
  ·obtain _|n:=n
   ·omega
   have e:((n+1:Nat):Int)-1=n:=by omega
   have lk:n<x.m.length:=by omega
   simp only[mP]at hc
   simp+decide (disch:=try exact D3 h6 bT e) only[go_sem,h6,bT,e]
   refine Qa (fun hz=> ?_) (fun hz=> ?_)
   ·rw[if_pos (by simp[hz,lk])]at hc
    refine Sz3 h6 bT e ?_
    refine Qf n Oz ⟨by omega,hc,?_⟩
    exact Tz2 bT dI
   ·rw[if_neg (by simpa[lk]using hz)]at hc
    refine Sz3 h6 bT e ?_
    rw[hc]
    refine Qb hP (Ay (a:=dF x.m) Oz) ?_
    refine Sz4 h3 bl h6 bT ?_
    cases ni:cD (dF x.m)
    ·rw[SU ni,Option.toList_none,Kcp,Kam]at aW
     refine Sz4 h3 bl h6 bT ?_
     simp (disch:=decide) only[fX,eP]
     refine Qf (l.length-(i+1)) Oz ⟨i+1,rfl,by omega,?_⟩
     rw[aW]
     exact Tz2 dI h3
    rw[IB ni,Option.toList_some,Kb9,Kcp]at aW
    refine Sz4 h3 bl h6 bT ?_
    refine Qb hP (Bb (x:=0) Oz Oz) ?_
    refine Sz4 h3 bl h6 bT ?_
    refine Qb hP (Sx (RB.raw dv dT) Oz) ?_
    refine Sz4 h3 bl h6 bT ?_
    refine Qb hP (RA (a:=x.m) Oz) ?_
    rw[if_pos ni]
    refine Sz4 h3 bl h6 bT ?_
    refine Qb hP (Rf (c:=rv x.n x.a x.d) (m:=dF x.m) Oz) ?_
    by_cases hz:rv x.n x.a x.d=0
    ·rw[show pU (x.q,dF x.m)=none from if_pos hz,Kam]at aW
     rw[if_pos hz]
     refine Sz4 h3 bl h6 bT ?_
     simp (disch:=decide) only[fX,eP]
     refine Qf (l.length-(i+1)) Oz ⟨i+1,rfl,by omega,?_⟩
     rw[aW]
     exact Tz2 dI h3
    ·rw[show pU (x.q,dF x.m)=some [(x.q,dF x.m)]from if_neg hz]at aW
     rw[if_neg hz]
     refine Sz4 h3 bl h6 bT ?_
     rw[Qq (f:=PV.aM) (y:=[(rv x.n x.a x.d,dF x.m)]) (xs:=jQ (l.take i)) (ty':=37) (fz:=false) (Tz1 dI) cP Oz rfl Oz Oz]
     refine Sz4 h3 bl h6 bT ?_
     simp (disch:=decide) only[fX,eP]
     refine Qf (l.length-(i+1)) Oz ⟨i+1,rfl,by omega,?_⟩
     rw[aW]
     simp+decide (disch:=first|omega|rfl|(simp+decide only[go_sem,Kax]<;>rfl)|fail) only[go_sem,Kax]
     rfl
  ·obtain rfl:n=0:=by omega
   refine Sz2 h6 bT ?_
   refine Qb hP (Ay (a:=[]) (by simp)) ?_
   rw[show cD []=cD (dF x.m)by rw[<-hc];rfl]
   refine Sz4 h3 bl h6 bT ?_
   cases ni:cD (dF x.m)
   ·rw[SU ni,Option.toList_none,Kcp,Kam]at aW
    refine Sz4 h3 bl h6 bT ?_
    simp (disch:=decide) only[fX,eP]
    refine Qf (l.length-(i+1)) Oz ⟨i+1,rfl,by omega,?_⟩
    rw[aW]
    exact Tz2 dI h3
   rw[IB ni,Option.toList_some,Kb9,Kcp]at aW
   refine Sz4 h3 bl h6 bT ?_
   refine Qb hP (Bb (x:=0) Oz Oz) ?_
   refine Sz4 h3 bl h6 bT ?_
   refine Qb hP (Sx (RB.raw dv dT) Oz) ?_
   refine Sz4 h3 bl h6 bT ?_
   refine Qb hP (RA (a:=x.m) Oz) ?_
   rw[if_pos ni]
   refine Sz4 h3 bl h6 bT ?_
   refine Qb hP (Rf (c:=rv x.n x.a x.d) (m:=dF x.m) Oz) ?_
   by_cases hz:rv x.n x.a x.d=0
   ·rw[show pU (x.q,dF x.m)=none from if_pos hz,Kam]at aW
    rw[if_pos hz]
    refine Sz4 h3 bl h6 bT ?_
    simp (disch:=decide) only[fX,eP]
    refine Qf (l.length-(i+1)) Oz ⟨i+1,rfl,by omega,?_⟩
    rw[aW]
    exact Tz2 dI h3
   ·rw[show pU (x.q,dF x.m)=some [(x.q,dF x.m)]from if_neg hz]at aW
    rw[if_neg hz]
    refine Sz4 h3 bl h6 bT ?_
    rw[Qq (f:=PV.aM) (y:=[(rv x.n x.a x.d,dF x.m)]) (xs:=jQ (l.take i)) (ty':=37) (fz:=false) (Tz1 dI) cP Oz rfl Oz Oz]
    refine Sz4 h3 bl h6 bT ?_
    simp (disch:=decide) only[fX,eP]
    refine Qf (l.length-(i+1)) Oz ⟨i+1,rfl,by omega,?_⟩
    rw[aW]
    simp+decide (disch:=first|omega|rfl|(simp+decide only[go_sem,Kax]<;>rfl)|fail) only[go_sem,Kax]
    rfl
 ·obtain rfl:i=l.length:=by omega
  rw[KaH]at hh h3
  have bx:=DA l
  have hpn:=Ry l
  have hK:(jQ l).length*(k+1)<=100*(2^24+1):=KaY Oz Oz
  refine Sz2 h3 hh ?_
  refine kS hP (ID (K:=k+1) (E:=1048576) Oz _ (jQ l) (Kaf _) (MC dD) Oz Oz Oz) (by simp+decide (disch:=try exact E1 hh) only[go_sem,hh,ep,Kay,KaD,Kaz,KaF,Kam];simp[Kac]) rfl ?_
  refine Sz0 ?_
  exact Qc rfl rfl
abbrev PV.iv(l:List Sq):PV:= .sl 4 (l.map PV.sq)
theorem JG:PV.le .al (PV.iv []):=trivial
def nT(L:List Tm):List Tm:=zD (L.map ee)
def gX(bs:List (List Int))(f:LF):List Tm:=(List.range bs.length).map fun k=>(f.2 k,bs.getD k [])
def fg(bs:List (List Int))(f:LF):Sq:=(f.1,nT (gX bs f))
def qg(bs:List (List Int))(fs:List LF):PV:=if(fs.all fun f=>decide (0<=f.1))=true then .aI [PV.iv (fs.map (fg bs)),.int .i64 0]else .aI [PV.iv [],.int .i64 17]
theorem QK(t:Tm):(ee t).q=t.1:=dE t.1
theorem adI{L:List Tm}{k:Nat}(hb:∀t∈L,rs t.1<=k/\t.2.length<2^40)(dT:1<=k)(hk:k<=2^24)(hl:L.length<=100):Qd Tryz.prog 91 [PV.aM L] (· =PV.aM (nT L)):=by
 have h:=XW (l:=L.map ee) (k:=k) (fun t ht=>by
  obtain⟨s,hs,rfl⟩:=Kau.1 ht
  exact BN (hb s hs).1 (hb s hs).2) dT hk (by rw[Kap];exact hl)
 rwa[Bm]at h
theorem aaC{L:List Tm}{k:Nat}(hb:∀t∈L,rs t.1<=k):PB (L.length*(k+1)) 1048576 (nT L)/\(nT L).length<=L.length/\bC (nT L):=by
 have h:=XK (l:=L.map ee) (k:=k) (fun t ht=>by
  obtain⟨s,hs,rfl⟩:=Kau.1 ht
  rw[QK];exact hb s hs)
 rw[Kap]at h
 exact⟨h.1,h.2,MA _⟩
theorem wO(bs:List (List Int))(f:LF):(gX bs f).length=bs.length:=by simp[gX]
theorem Eu{bs:List (List Int)}{f:LF}{k:Nat}(h:k<bs.length):(gX bs f)[k]'(by rw[wO];exact h)=(f.2 k,bs[k]):=by
 simp[gX,h]
theorem aaD{bs:List (List Int)}{f:LF}{k:Nat}(h:k<bs.length):(gX bs f).take (k+1)=(gX bs f).take k++[(f.2 k,bs[k])]:=by
 rw[Kak (by rw[wO];exact h),Eu h]
theorem yU{R:Nat}:∀(fs:List LF)(i c:Nat)(hi:i<fs.length),c<R->(du R fs).getD (i*R+c) 0=(fs[i]).2 c
 | [],i,c,hi,hc=>by simp at hi
 | f::fs,i,c,hi,hc=>by
  have e:du R (f::fs)=(List.range R).map f.2++du R fs:=by simp[du]
  rw[e]
  cases i with
  |zero=>
   rw[KcA,Kbb,Kad,Kby (by simpa using hc)]
   simp[hc]
  |succ i=>
   have ih:=yU (R:=R) fs i c (by simpa using hi) hc
   rw[Kad,KbS (by simp[Kcq];omega)]
   rw[Kad]at ih
   have e2:(i+1)*R+c-((List.range R).map f.2).length=i*R+c:=by simp[Kcq];omega
   rw[e2,ih]
   simp
theorem ahW{R:Nat}{fs:List LF}{i c:Nat}(hi:i<fs.length)(hc:c<R):∃h:i*R+c<(du R fs).length,(du R fs)[i*R+c]=(fs[i]).2 c:=by
 have hl:i*R+c<(du R fs).length:=by
  rw[tg]
  have:(i+1)*R<=fs.length*R:=Kah _ hi
  rw[Kcq]at this
  omega
 refine⟨hl,?_⟩
 have:=yU (R:=R) fs i c hi hc
 rw[Kad,Kag hl]at this
 exact this
structure Dg(K R:Nat)(bs:List (List Int))(fs:List LF):Prop where
 b:bs.length=R
 m:∀b∈bs,b.length<2^40
 r:R<=40
 l:fs.length<=200
 f:∀f∈fs,rs f.1<=K/\∀c,c<R->rs (f.2 c)<=K
 k:K<=2^24
 k1:1<=K
theorem Dg.t{K R:Nat}{bs:List (List Int)}{fs:List LF}(h:Dg K R bs fs){f:LF}(hf:f∈fs):∀t∈gX bs f,rs t.1<=K/\t.2.length<2^40:=fun t ht=>by
 obtain⟨k,hk,rfl⟩:=KaT ht
 rw[wO]at hk
 rw[Eu hk]
 exact⟨(h.f f hf).2 k (by have:=h.b;omega),h.m _ (Kai _)⟩
theorem HQ{K R:Nat}{bs:List (List Int)}{la:List Rat}{fs:List LF}(h:Dg K R bs fs)(vY:Qd Tryz.prog 90 [PV.gR bs,PV.bO R R la] (· = .int .i64 0))(uw:Qd Tryz.prog 48 [PV.bO R R la] (· =vD R fs)):
  Qd Tryz.prog 29 [PV.gR bs,PV.bO R R la] (· =qg bs fs):=by
 have sH:=h.b
 have hR:=h.r
 have qj:=h.l
 have asm:=tg R fs
 have hfR:fs.length*R<=200*40:=KaY qj hR
 have o9:∀i (hi:i<fs.length),fs[i].1<0->qg bs fs= .aI [PV.iv [],.int .i64 17]:=fun i hi h=>by
  have:(fs.all fun f=>decide (0<=f.1))=false:=by
   rw[Kca];exact⟨_,Kai hi,by simp;grind⟩
  rw[qg,this,if_neg (by decide)]
 have cH:(∀j (h:j<fs.length),0<=fs[j].1)->qg bs fs= .aI [PV.iv (fs.map (fg bs)),.int .i64 0]:=fun h=>by
  have:(fs.all fun f=>decide (0<=f.1))=true:=by
   rw[Kas]
   intro t ht
   obtain⟨j,hj,rfl⟩:=KaT ht
   exact decide_eq_true (h j hj)
  rw[qg,if_pos this]
 have Ur:(fs.map (·.1)).length=fs.length:=Kap _
 have Ga:∀i (hi:i<fs.length) (gj:i<(fs.map (·.1)).length),(fs.map (·.1))[i]=fs[i].1:=fun i hi gj=>KbB ..
 unfold vD at uw
 generalize fs.map (·.1)=W at *
 refine aE Qg Tryz.func29 aj1 fun C hP=> ?_
 refine Sz0 ?_
 refine Qb hP vY ?_
 refine Sz0 ?_
 refine Qb hP uw ?_
 refine Sz0 ?_
 refine iL 10 901 4 65 Oz Tz0 ?_
 refine Ql okB [(4,5),(10,15),(33,71)] [12,61,62,69,70,900,901] (fun q J hp=>∃i,q=fs.length-i/\i<=fs.length/\(∀j (h:j<fs.length),j<i->0<=fs[j].1)/\J 10= .ms 901 i/\J 33= .int .i64 (i:Nat)/\hp 8=some ⟨3,24,[PV.bO fs.length R (du R fs)],false⟩/\hp 901=some ⟨4,65,((fs.take i).map (fg bs)).map PV.sq,false⟩) fs.length ?_ ?_
 ·refine⟨0,rfl,by omega,by omega,?_⟩
  refine Sz0 ?_
  rfl
 rintro _ J h' ⟨i,rfl,hi,fS,lE,uG,b8,b9⟩
 refine Sz1 uG ?_
 refine Qa (fun hg=> ?_) (fun hg=> ?_)
 ·have ao:i<fs.length:=by omega
  have dn:=Kai ao
  have hfm:=h.f _ dn
  have hft:=h.t dn
  have vV:=fun c (hc:c<R)=>ahW ao hc
  have UB:=o9 i ao
  have fj:0<=fs[i].1->∀j (h:j<fs.length),j<i+1->0<=fs[j].1:=fun h j hj im=>by
   by_cases e:j=i
   ·subst e;exact h
   ·exact fS j hj Oz
  have aW:(fs.take (i+1)).map (fg bs)=(fs.take i).map (fg bs)++[fg bs fs[i]]:=by
   rw[Kak ao,Kbo];rfl
  have lj:fs[i]∈fs:=dn
  generalize hx:fs[i]=f at *
  have wv:=mH (a:=f.1) (by have:=h.k;omega)
  have fD:= @yZ f.1
  have Uq:=Ga i ao Oz
  rw[hx]at Uq
  refine Sz2 uG @Uq ?_
  refine Qb hP wv ?_
  refine Sz0 ?_
  refine Qa (fun h0=> ?_) (fun h0=> ?_)
  ·refine Sz0 ?_
   exact gI (r:=qg bs fs) (UB (fD.1 h0)) rfl rfl JG (Qn _)
  have il:0<=f.1:=by
   have:¬f.1<0:=fun g=>h0 (fD.2 g)
   grind
  have hfT:=wO bs f
  refine Sz0 ?_
  refine iL 13 900 4 95 Oz Tz0 ?_
  refine Ql okB [(13,15),(43,63)] [61,62,900] (fun q J hp=>∃k,q=bs.length-k/\k<=bs.length/\J 13= .ms 900 k/\J 43= .int .i64 (k:Nat)/\hp 8=some ⟨3,24,[PV.bO fs.length R (du R fs)],false⟩/\hp 12=some ⟨3,51,[PV.rat f.1],false⟩/\hp 900=some ⟨4,95,((gX bs f).take k).map PV.term,false⟩/\
    hp 901=some ⟨4,65,((fs.take i).map (fg bs)).map PV.sq,false⟩) bs.length ?_ ?_
  ·refine⟨0,rfl,by omega,?_⟩
   refine Sz2 b8 b9 ?_
   rfl
  rintro _ J2 h2 ⟨k,rfl,hk,xC,Ki,c8,vN,c9,c1⟩
  refine Sz1 Ki ?_
  refine Qa (fun eZ=> ?_) (fun eZ=> ?_)
  ·have cf:k<bs.length:=by omega
   have bA:=aaD (f:=f) cf
   obtain⟨a1,a2⟩:=vV k Oz
   have nZ:((gX bs f).take k).length=k:=by rw[KaI];omega
   generalize(gX bs f).take k=T at *
   generalize hy:bs[k]=y at *
   refine Sz7 xC Ki uG c8 c9 hy a2 ?_
   rw[Qq (f:=PV.term) (y:=(f.2 k,y)) (xs:=T) (ty':=95) (fz:=false) (Tz1 c9) cP Oz nZ.symm Oz Oz]
   refine Sz1 Ki ?_
   refine Qf (bs.length-(k+1)) Oz ⟨k+1,rfl,by omega,?_⟩
   rw[bA]
   exact Tz3 c8 vN c1
  ·obtain rfl:k=bs.length:=by omega
   have sO:=adI (k:=K) hft h.k1 h.k Oz
   have ap3:(gX bs f).take bs.length=gX bs f:=Kac Oz
   rw[ap3]at c9
   have yg:fg bs f=(f.1,nT (gX bs f)):=rfl
   have nZ:((fs.take i).map (fg bs)).length=i:=by rw[Kap,KaI];omega
   generalize(fs.take i).map (fg bs)=T at *
   generalize gX bs f=U at *
   have yf:List.take bs.length (U.map PV.term)=U.map PV.term:=Kac (by rw[Kap];omega)
   simp (disch:=decide) only[fX,eP,H7]
   refine Sz7 lE uG xC c8 vN c9 c1 ?_
   refine kS hP sO (FM yf c9) rfl ?_
   generalize nT U=V at *
   refine Vz7 lE uG xC c8 vN c9 c1 ?_
   rw[Qq (f:=PV.sq) (y:=(f.1,V)) (xs:=T) (ty':=65) (fz:=false) (qV c1) Tr Oz nZ.symm Oz Oz]
   refine qc uG ?_
   refine Qf (fs.length-(i+1)) Oz ⟨i+1,rfl,by omega,fj il,?_⟩
   rw[aW,yg]
   exact qV c8
 ·obtain rfl:i=fs.length:=by omega
  have hr:=cH fun j hj=>fS j hj hj
  have htf:((fs.take fs.length).map (fg bs))=fs.map (fg bs):=by rw[KaH]
  rw[htf]at b9
  have yf:List.take fs.length ((fs.map (fg bs)).map PV.sq)=(fs.map (fg bs)).map PV.sq:=Kac (by simp)
  refine xu lE b9 yf ?_
  exact gI (r:=qg bs fs) hr rfl rfl (Qn _) (Qn _)
theorem N9{R:Nat}{la:List Rat}(hlen:la.length=R*R)(Vj:R<=5)(sl:∀q∈la,rs q<=3)(uy:mS (Qu la R) R):
  ∃fs:List LF,fs=(Qv R (Qu la R) (2*R)).2/\Qd Tryz.prog 48 [PV.bO R R la] (· =vD R fs)/\Qd Tryz.prog 93 [PV.bO R R la] (· =vD R fs)/\fs.length<=20/\∀f∈fs,rs f.1<=50421/\∀c,c<R->rs (f.2 c)<=50421:=by
 have sl':∀q∈la,rs q<=1048576:=fun q hq=>by have:=sl q hq;omega
 have c2:=ack hlen Vj sl uy
 by_cases ue:R=0
 ·subst ue
  obtain rfl:la=[]:=KbZ Oz
  refine⟨_,rfl,?_,c2,by simp[Qv],by simp[Qv]⟩
  have c1:=acn
  exact c1
 ·have zX:=N7 uy
  have zW:eV 3 R R (Qu la R):=fun r _ c _=>y7 Oz sl
  have F9:vC 50421 R (2*R) (Qu la R):=fun k hk=>by
   have h:=Pp (n:=2*R) zX Oz zW k hk
   have e:3*7^R<=3*7^5:=KaA _ (KaN Oz Vj)
   exact⟨fun r hr c hc=>Kao (h.1 r hr c hc) e,fun f hf=>⟨Kao (h.2.1 f hf).1 e,fun c hc=>Kao ((h.2.1 f hf).2 c hc) e⟩,fun j hj r hr c hc=>Kao (h.2.2 j hj r hr c hc) e⟩
  have c1:=N5 hlen Oz Oz sl' Oz F9 uy
  have jL:=JF F9 (2*R) (Kaf _)
  have CI:=DS R (Qu la R) (2*R)
  exact⟨_,rfl,c1,c2,by omega,jL⟩
end Go.Proofs.YtkoclfmjlolkhaaGreat
namespace Go.FW
open Go
variable {fr : Fr} {hp : HP}
theorem aky{β e ty:Nat}{xs xs':List PV}{fz:Bool}(af:hp β=some ⟨e,ty,xs,fz⟩)(hl:xs'.length=xs.length)
  (hc:∀(i:Nat)(x x':PV),xs[i]? =some x->xs'[i]? =some x'->x'.aL=true/\x'.cells.length=x.cells.length/\∀(j:Nat)(y y':PV),x.cells[j]? =some y->x'.cells[j]? =some y'->PV.mo y y'):
  Wk fr hp fr (Qi hp β ⟨e,ty,xs',fz⟩):=by
 rintro C tmps w ⟨ρ,hs⟩
 obtain⟨hp',me⟩:∃f,f=Qi hp β ⟨e,ty,xs',fz⟩:=⟨_,rfl⟩
 rw[<-me]
 have LH:hp' β=some ⟨e,ty,xs',fz⟩:=by rw[me];simp[Qi]
 have po:∀γ,γ≠β->hp' γ=hp γ:=fun γ aj=>by rw[me];simp[Qi,aj]
 have back:∀(i:Nat)(x':PV),xs'[i]? =some x'->∃x,xs[i]? =some x:=fun i x' h=>by
  have hi:i<xs'.length:=(Kae.1 h).1
  exact⟨xs[i]'(by omega),by simp⟩
 have hX:∀c,aK C ρ hp' c->aK C ρ hp c:=by
  rintro c (hx|⟨γ,hb,g1,g2,g3⟩)
  ·exact .inl hx
  ·by_cases aj:γ=β
   ·subst aj;rw[LH]at g1;cases g1;exact .inr ⟨γ,_,af,g2,g3⟩
   ·rw[po γ aj]at g1;exact .inr ⟨γ,hb,g1,g2,g3⟩
 have bA:mW w w (aK C ρ hp) (aK C ρ hp'):=⟨fun _ _ _=>rfl,fun c _ hn h=>hn (hX c h),Kaf _⟩
 have c1:∀γ,pI ρ ρ hp hp' w w γ:=fun γ=>by
  by_cases aj:γ=β
  ·subst aj
   refine⟨rfl,fun hb hq=> ?_⟩
   rw[af]at hq;cases hq
   exact⟨_,LH,rfl,by show xs.length<=xs'.length;omega,fun _ _ _ h=>h,fun h=>⟨KbZ (by rw[show xs=[]from h]at hl;exact hl),rfl,fun _ _=>rfl⟩⟩
  ·exact⟨rfl,fun hb hq=>⟨hb,by rw[po γ aj];exact hq,rfl,Kaf _,fun _ _ _ h=>h,fun h=>⟨h,rfl,fun _ _=>rfl⟩⟩⟩
 refine⟨ρ,hs.sz,hs.ext,hs.fp,fun γ hb1 aj=> ?_,fun γ δ c g1 g2 g3 g4=> ?_,fun i=> ?_⟩
 ·by_cases hq:γ=β
  ·subst hq
   rw[LH]at aj;cases aj
   have h:=hs.own γ _ af
   refine⟨h.lg,fun i x' aV=> ?_,?_,h.fix,h.ro⟩
   ·obtain⟨x,hx⟩:=back i x' aV
    obtain⟨d1,d2,_⟩:=hc i x x' hx aV
    exact⟨d2.trans (h.len i x hx).1,d1⟩
   ·have aY:=h.cL
    cases hr:ρ γ with
    |none=>
     rw[hr]at aY
     exact KbZ (by rw[show xs=[]from aY]at hl;exact hl)
    |some b=>
     rw[hr]at aY
     obtain⟨b1,b2,cur,cap,k1,k2,k3,k4,k5⟩:=aY
     refine⟨b1,b2,cur,cap,k1,k2,by show xs'.length<=cap;have:xs.length<=cap:=k3;omega,k4,fun i x' aV j y' mh=> ?_⟩
     obtain⟨x,hx⟩:=back i x' aV
     obtain⟨_,d2,d3⟩:=hc i x x' hx aV
     have hj:j<x'.cells.length:=(Kae.1 mh).1
     have hy:x.cells[j]? =some (x.cells[j]'(by omega)):=by simp
     exact((k5 i x hx j _ hy).le (d3 j _ y' hy mh)).sub hX
  ·rw[po γ hq]at aj
   obtain⟨q1,q2,q3,q4,q5⟩:=hs.own γ hb1 aj
   refine⟨q1,q2,?_,q4,q5⟩
   cases hr:ρ γ with
   |none=>rw[hr]at q3;exact q3
   |some c=>rw[hr]at q3;exact⟨q3.1,q3.2.1,q3.2.2.move rfl rfl rfl rfl bA.rc⟩
 ·have f:∀γ,hp' γ≠none->hp γ≠none:=fun γ aj=>by
   by_cases hq:γ=β
   ·subst hq;simp[af]
   ·rwa[po γ hq]at aj
  exact hs.inj γ δ c (f γ g1) (f δ g2) g3 g4
 ·exact(hs.cS i).move bA (fun γ _=>(c1 γ).o) (fun γ _=>(c1 γ).yB) (fun γ e' ty' ys _=>c1 γ)
end Go.FW
