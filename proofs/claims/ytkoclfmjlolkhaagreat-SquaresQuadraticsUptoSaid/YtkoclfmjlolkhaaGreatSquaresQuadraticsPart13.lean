/- Part 13 of the proof of SquaresQuadratics: B13, B14, B15, B12, B16, B17, B18, P7, Q5, Q6, Q7, FwXB. Own lemmas; no conditions. -/
import Derived.Test.YtkoclfmjlolkhaaGreatSquaresQuadraticsPart12
set_option maxHeartbeats 1000000
set_option linter.unusedSimpArgs false
set_option linter.unusedVariables false
set_option linter.unnecessarySimpa false
set_option maxRecDepth 100000
namespace Go.Proofs.YtkoclfmjlolkhaaGreat
open Go Go.FW
def aqa:ay:=⟨50,[.t 2,.t 3,.t 4],Zr (Zc 2 0<|
 Zc 3 0<|
 Yh 4)<| .seq (Zr (Yj 5 0)<| .block 0<| .loop<| .seq (Zr (Yo 8 5 0)<| .cond (.t 11) .skip (.exit 0))<| .seq (.block 1<|Zr (rN 14 0 5 5<|
 Zq 21 false 27 [.t 20]<|
 iT 22 21)<| .cond (.t 22) (Zr (Ya 23 5 5<|
 Ya 2 23 24<|
 YO 4) .ret) .skip)<| .rg (fR 12 5))<| .seq (Zr (Yj 6 0)<| .block 2<| .loop<| .seq (Zr (Yo 25 6 0)<| .cond (.t 28) .skip (.exit 2))<| .seq (.block 3<|Zr (YX 31 6 7)<| .block 4<| .loop<| .seq (Zr (Yo 33 7 0)<| .cond (.t 36) .skip (.exit 4))<| .seq (.block 5<|Zr (rN 39 0 6 7<|
 Yl 46 27 45<|
 iT 47 46)<| .cond (.t 47) (Zr (Ya 48 6 7<|
 Ya 2 48 49<|
 YO 4) .ret) .skip)<| .rg (YX 37 7 7))<| .rg (YX 29 6 6))<|Zr (Zc 2 0<|
 Zc 3 0<|
 Yh 4) .ret⟩
theorem alh:Qe Tryz.prog Tryz.f161=some aqa:=by kernel_rfl
def aqc:ay:=⟨31,[.t 6],Zr (Zo (.box 5 3 51 (.t 2))<|
 YE 6)<|Zr (YE 7)<| .seq (Zr (Yj 8 0)<| .block 0<| .loop<| .seq (Zr (Yo 9 8 0)<| .cond (.t 12) .skip (.exit 0))<| .seq (.block 1<| .rg (YY 15 7 0 8<|
 YM 18 16 17<|
 ku 20 1 5<|
 iB 22 1 8 3<|
 Yr 26 85 21 25<|
 Zq 27 true 126 [.t 19,.t 20,.t 26]<|
 Ys 28 1 22 27 24 15 7))<| .rg (fR 13 8))<|Zr (YZ 30 7 6) .ret⟩
theorem ali:Qe Tryz.prog Tryz.f163=some aqc:=by kernel_rfl
theorem Q8o{l:List Rat}{R m:Nat}(hl:l.length=R*m)(cy:R<=40)(hm:m<=40):Qd Tryz.prog 59 [PV.a9 R m l] (· = .sl 1 (Qo (PV.cX m) (Qq l m) R)):=by
 refine o8 Qg Tryz.func59 rfl Kf Nz fun C hP=>?_;simp only[H2];refine fw ?_;refine Sz0 ?_;refine fW 3 900 1 22 Oz Tz0 ?_;refine Qi okB [(3,18)] [12,16,17,18,900] (fun n J hp=>∃i,n=R-i/\i<=R/\J 3= .ms 900 i/\J 4= .int .i64 (i:Nat)/\hp 1=some ⟨3,24,[PV.a9 R m l],false⟩/\hp 900=some ⟨1,22,(List.range i).map (fun r=>.sl 3 (Qo PV.rat (Qq l m r) m)),false⟩) R ?_ ?_
 ·refine⟨0,rfl,by omega,?_⟩;refine Sz0 ?_;exact⟨rfl,rfl⟩
 rintro _ J h ⟨i,rfl,hi,h3,h4,h1,hh⟩;refine Sz3 h3 h4 h1 ?_;refine Qa (fun hg=>?_) (fun hg=>?_)
 ·have al:i<R:=by omega
  have c1:=Kg hl al cy hm;have kZ:((List.range m).map (Qq l m i)).length=m:=by simp
  rw[pe]at c1;refine Sz3 h3 h4 h1 ?_;rw[My Oz];refine Sz3 h3 h4 h1 ?_;refine Qb hP c1 ?_;refine Sz3 h3 h4 h1 ?_;rw[mM (n:=0) (f:=PV.rat) (xs:=[]) (ys:=(List.range m).map (Qq l m i)) Tz0 rfl Oz Oz Oz];refine Sz3 h3 h4 h1 ?_;refine di (Wk.refl _ _) ?_;refine Sz3 h3 h4 h1 ?_;rw[Ua (e':=3) (ty':=51) (xs:=((List.range m).map (Qq l m i)).map PV.rat) (fz:=false) Tz0,Kac (by simp)];refine Sz3 h3 h4 h1 ?_;rw[Qr (f:=fun r=>PV.sl 3 (Qo PV.rat (Qq l m r) m)) (y:=i) (xs:=List.range i) (ty':=22) (fz:=false) (pG hh) (pG @pe) Oz (by simp) Oz Oz];refine Sz3 h3 h4 h1 ?_;refine Qf (R-(i+1)) Oz ⟨i+1,rfl,by omega,?_⟩;exact pG h1
 ·obtain rfl:i=R:=by omega
  refine mm h3 hh ?_;refine qt (cr ?_);refine mm h3 hh ?_;refine Qc ?_ rfl;rw[Kac (by simp)];rfl
theorem TQ{x y:Nat->Rat}{c:Rat}{w k:Nat}(hw:w<=2^30)(hx:∀i,i<w->rs (x i)<=k)(hy:∀i,i<w->rs (y i)<=k)(hc:rs c<=k)(hk:k<=2^32):
  Qd Tryz.prog 162 [.sl 3 (Qo PV.rat x w),.sl 3 (Qo PV.rat y w),PV.rat c] (· = .sl 3 (Qo PV.rat (gF x y c) w)):=by
 have h:=Jp (w:=w) (x:=x) (y:=y) (c:= -c) hw hx hy (by rw[sw];exact hc) hk;have e:(fun i=>x i- -c*y i)=gF x y c:=by funext i;unfold gF;rw[Rat.neg_mul,KcS,Rat.neg_neg]
 rw[e]at h;refine aE Qg Tryz.func162 akk fun C hP=>?_;refine Sz0 ?_;refine Qb hP (L7 hc Oz) ?_;refine Sz0 ?_;refine Qb hP h ?_;refine Sz0 ?_;exact Qc rfl rfl
theorem OC{M:MF}{f:LF}{R k:Nat}(hR:R<=40)(hM:fL k R R M)(hw:rs f.1<=k)(hf:∀c,c<R->rs (f.2 c)<=k)(hk:k<=2^30):
  Qd Tryz.prog 163 [.sl 1 (Qo (PV.cX R) M R),.sl 3 (Qo PV.rat f.2 R),PV.rat f.1] (· = .sl 1 (Qo (PV.cX R) (cT M f) R)):=by
 have dD:(Qo (PV.cX R) M R).length=R:=fl _ _ _;refine aE Qg Tryz.func163 ali fun C hP=>?_;refine Sz1 dD ?_;refine fW 7 900 1 22 Oz Tz0 ?_;refine Qi okB [(7,29)] [28,29,900] (fun n J hp=>∃i,n=R-i/\i<=R/\J 7= .ms 900 i/\J 8= .int .i64 (i:Nat)/\hp 5=some ⟨3,51,[PV.rat f.1],false⟩/\hp 900=some ⟨1,22,(List.range i).map (fun r=>PV.cX R (cT M f r)),false⟩) R ?_ ?_
 ·refine⟨0,rfl,by omega,?_⟩;refine Sz0 ?_;exact⟨rfl,rfl⟩
 rintro _ J h ⟨i,rfl,hi,h7,h8,h5,hh⟩;refine Sz3 h7 h8 dD ?_;refine Qa (fun hg=>?_) (fun hg=>?_)
 ·have al:i<R:=by omega
  have mA:=hf i al;have hm:=fD f.1 (f.2 i);have c1:=wF (a:=f.1) (b:=f.2 i) (k:=k) hw mA Oz;have c2:=Jp (w:=R) (x:=M i) (y:=f.2) (c:=f.1*f.2 i) (k:=2*k) Oz (fun c hc=>by have:=hM i al c hc;omega) (fun c hc=>by have:=hf c hc;omega) Oz Oz
  repeat' first
   |refine lk ?_ ?_
   |refine Qb hP c1 ?_
   |refine Qb hP c2 ?_
   |simp+decide (disch:=try exact D3 h7 h8 h5) only[go_sem,h7,h8,h5]
  all_goals
   rw[Qr (f:=fun r=>PV.cX R (cT M f r)) (y:=i) (xs:=List.range i) (ty':=22) (fz:=false) (pG hh) cE Oz (by simp) Oz Oz];refine Sz3 h7 h8 h5 ?_;refine Qf (R-(i+1)) Oz ⟨i+1,rfl,by omega,?_⟩;exact pG h5
 ·obtain rfl:i=R:=by omega
  refine mm h7 hh ?_;refine Qc ?_ rfl;rw[Kac (by simp)];rfl
theorem Q8p{R:Nat}{l:List Rat}(hl:l.length=R*R)(cy:R<=40)(hs:∀q∈l,rs q<=1048576):Qd Tryz.prog 160 [PV.a9 R R l] (· = .bool (decide (mV (Qq l R) R))):=by
 refine aE Qg Tryz.func160 akj fun C hP=>?_;refine Sz0 ?_;refine Qi okB [(2,25)] [] (fun q J hp=>∃i,q=R-i/\i<=R/\J 3= .int .i64 (i:Nat)/\hp 1=some ⟨3,24,[PV.a9 R R l],false⟩/\∀j,j<i->∀k,k<j->Qq l R j k=Qq l R k j) R ?_ ?_
 ·refine⟨0,rfl,by omega,?_⟩;refine Sz0 ?_;exact⟨rfl,fun j hj=>by omega⟩
 rintro _ J h ⟨i,rfl,hi,h3,h1,eu⟩;refine Sz2 h3 h1 ?_;refine Qa (fun hc=>?_) (fun hc=>?_)
 ·have al:i<R:=by omega
  refine Sz2 h3 h1 ?_;refine Qi okB [(2,2),(4,4),(11,25)] [] (fun q J hp=>∃k,q=i-k/\k<=i/\J 4= .int .i64 (k:Nat)/\h=hp/\∀j,j<k->Qq l R i j=Qq l R j i) i ?_ ?_
  ·refine⟨0,rfl,by omega,?_⟩;refine Sz0 ?_;exact⟨rfl,fun j hj=>by omega⟩
  rintro _ J2 _ ⟨k,rfl,hk,i4,rfl,is⟩;refine Sz2 i4 h3 ?_;refine Qa (fun iD=>?_) (fun iD=>?_)
  ·have bI:k<i:=by omega
   have c1:=Lw hl cy cy al (show k<R by omega) hs;have c2:=Lw hl cy cy (show k<R by omega) al hs;have b1:=yC (m:=R) (r:=i) (c:=k) Oz hs;have b2:=yC (m:=R) (r:=k) (c:=i) Oz hs;have c3:=Lj (a:=Qq l R i k) (b:=Qq l R k i) b1 b2 Oz;obtain⟨x,hx⟩:∃x,Qq l R i k=x:=⟨_,rfl⟩
   obtain⟨y,hy⟩:∃y,Qq l R k i=y:=⟨_,rfl⟩
   rw[hx]at c1 c3;rw[hy]at c2 c3;by_cases e:x=y
   ·rw[decide_eq_true e]at c3
    repeat' first
     |refine lk ?_ ?_
     |refine Qb hP c1 ?_
     |refine Qb hP c2 ?_
     |refine Qb hP c3 ?_
     |simp+decide (disch:=try exact D3 i4 h3 h1) only[go_sem,i4,h3,h1]
    all_goals
     refine Qf (i-(k+1)) Oz ⟨k+1,rfl,by omega,?_⟩;refine Sz0 ?_;intro j hj;by_cases e2:j=k
     ·subst e2;rw[hx,hy,e]
     ·exact is j Oz
   ·rw[decide_eq_false e]at c3
    repeat' first
     |refine lk ?_ ?_
     |refine Qb hP c1 ?_
     |refine Qb hP c2 ?_
     |refine Qb hP c3 ?_
     |simp+decide (disch:=try exact D3 i4 h3 h1) only[go_sem,i4,h3,h1]
    all_goals
     refine Qc ?_ rfl;rw[decide_eq_false];exact fun vX=>e (by rw[<-hx,<-hy];exact vX i al k bI)
  ·have zu:k=i:=by omega
   subst zu;refine Sz1 h3 ?_;simp (disch:=decide) only[fV,dS];refine Qf (R-(k+1)) Oz ⟨k+1,rfl,by omega,?_⟩;refine Sz1 h1 ?_;intro j hj k' bI;by_cases e:j=k
   ·subst e;exact is k' Oz
   ·exact eu j Oz k' bI
 ·refine Sz0 ?_;refine Qc ?_ rfl;rw[decide_eq_true];exact fun j hj k hk=>eu j Oz k hk
def wb(R:Nat)(M:MF):PV:=
 if eh M R<R then .aH [.int .i64 (eh M R:Nat),.int .i64 (eh M R:Nat),.bool true]
 else if cF M R<R then .aH [.int .i64 (cF M R:Nat),.int .i64 (eU M R (cF M R):Nat),.bool true]
 else .aH [.int .i64 0,.int .i64 0,.bool false]
theorem ahq{R k:Nat}{M:MF}(hR:R<=40)(hs:Sym R M)(hM:fL k R R M)(hk:k<=2^30):Qd Tryz.prog 161 [.sl 1 (Qo (PV.cX R) M R)] (· =wb R M):=by
 have dD:(Qo (PV.cX R) M R).length=R:=fl _ _ _;refine aE Qg Tryz.func161 alh fun C hP=>?_;refine Sz1 dD ?_;refine Qi okB [(2,5),(8,24)] [] (fun q J hp=>∃i,q=R-i/\i<=R/\J 5= .int .i64 (i:Nat)/\∀j,j<i->M j j=0) R ?_ ?_
 ·refine⟨0,rfl,by omega,?_⟩;refine Sz0 ?_;exact⟨rfl,fun j hj=>by omega⟩
 rintro _ J h ⟨i,rfl,hi,h5,hz⟩;refine Sz2 h5 dD ?_;refine Qa (fun hc=>?_) (fun hc=>?_)
 ·have al:i<R:=by omega
  have b1:=hM i al i al;refine Sz1 h5 ?_;refine Qb hP (o7 (a:=M i i) Oz) ?_;refine Sz1 h5 ?_;refine Qa (fun he=>?_) (fun he=>?_)
  ·have aJ:M i i≠0:=fun e=>he (dy.2 e);have Ng:eh M R=i:=yA (Kbz _) Oz (decide_eq_true aJ) fun j _ hj=>decide_eq_false (fun h=>h (hz j hj));refine Sz1 h5 ?_;refine jy ?_ rfl rfl rfl (Ql _) (Ql _) (Ql _);unfold wb;rw[Ng,if_pos al]
  ·refine Sz1 h5 ?_;refine Qf (R-(i+1)) Oz ⟨i+1,rfl,by omega,?_⟩;refine Sz0 ?_;intro j hj;by_cases e:j=i
   ·subst e;exact dy.1 (Classical.not_not.1 he)
   ·exact hz j Oz
 ·obtain rfl:i=R:=by omega
  have vR:¬eh M i<i:=by have:eh M i=0+i:=uX fun j _ hj=>decide_eq_false (fun h=>h (hz j Oz));omega
  refine Sz0 ?_;refine Qi okB [(2,4),(6,7),(25,49)] [] (fun q J hp=>∃a,q=i-a/\a<=i/\J 6= .int .i64 (a:Nat)/\∀j,j<a->∀k,k<i->M j k=0) i ?_ ?_
  ·refine⟨0,rfl,by omega,?_⟩;refine Sz0 ?_;exact⟨rfl,fun j hj=>by omega⟩
  rintro _ J1 h1 ⟨a,rfl,ha,a6,az⟩;refine Sz2 a6 dD ?_;refine Qa (fun BB=>?_) (fun BB=>?_)
  ·have mz:a<i:=by omega
   refine Sz1 a6 ?_;refine Qi okB [(2,4),(7,7),(33,49)] [] (fun q J hp=>∃b,q=i-b/\a<b/\b<=i/\J 7= .int .i64 (b:Nat)/\∀k,k<b->M a k=0) (i-(a+1)) ?_ ?_
   ·refine⟨a+1,rfl,by omega,by omega,?_⟩;refine Sz0 ?_;intro k hk;by_cases e:k=a
    ·subst e;exact hz k Oz
    ·rw[hs a mz k Oz];exact az k Oz a mz
   rintro _ J2 h2 ⟨b,rfl,rP,hb,b7,bz⟩;refine Sz2 b7 dD ?_;refine Qa (fun kB=>?_) (fun kB=>?_)
   ·have ax:b<i:=by omega
    have b1:=hM a mz b ax;refine Sz2 b7 a6 ?_;refine Qb hP (o7 (a:=M a b) Oz) ?_;refine Sz2 b7 a6 ?_;refine Qa (fun he=>?_) (fun he=>?_)
    ·have aJ:M a b≠0:=fun e=>he (dy.2 e);have m8:eU M i a=b:=yA (Kbz _) Oz (decide_eq_true aJ) fun j _ hj=>decide_eq_false (fun h=>h (bz j hj));have BM:cF M i=a:=yA (Kbz _) Oz (decide_eq_true (by rw[m8];exact ax)) fun j _ hj=>decide_eq_false (fun h=>by have:eU M i j=0+i:=uX fun k _ hk=>decide_eq_false (fun h2=>h2 (az j Oz k Oz));omega);refine Sz2 b7 a6 ?_;refine jy ?_ rfl rfl rfl (Ql _) (Ql _) (Ql _);unfold wb;rw[if_neg vR,BM,if_pos mz,m8]
    ·refine Sz1 b7 ?_;refine Qf (i-(b+1)) Oz ⟨b+1,rfl,by omega,by omega,?_⟩;refine Sz0 ?_;intro k hk;by_cases e:k=b
     ·subst e;exact dy.1 (Classical.not_not.1 he)
     ·exact bz k Oz
   ·refine Sz1 a6 ?_;simp (disch:=decide) only[fV,dS];refine Qf (i-(a+1)) Oz ⟨a+1,rfl,by omega,?_⟩;refine Sz0 ?_;intro j hj k hk;by_cases e:j=a
    ·subst e;exact bz k Oz
    ·exact az j Oz k hk
  ·refine Sz0 ?_;refine jy ?_ rfl rfl rfl (Ql _) (Ql _) (Ql _);have e1:¬cF M i<i:=by have:cF M i=0+i:=uX fun j _ hj=>decide_eq_false (fun h=>by have:eU M i j=0+i:=uX fun k _ hk=>decide_eq_false (fun h2=>h2 (az j Oz k Oz));omega);omega
   unfold wb;rw[if_neg vR,if_neg e1]
def WU:ay:=⟨132,[.t 2,.cell 3 3 true,.t 4],Zr (iS 1 24<|
 Yf 2<|
 Zo (.alloc 3 3 24 (.agg [Zz 0,Zz 0,.au]))<|
 Yj 4 0)<| .seq (Zr (dn 17 3 1 57<|
 Zu 19 18 .nil)<| .cond (.t 19) (Zr (Zo (.eB 20 [Zz 0,Zz 0,.au] [])<|
 Yf 2<|
 Zs 3 3 20<|
 Yj 4 1) .ret) .skip)<| .seq (Zr (ff 21 0 1 1 1<|
 Zb 25 .neq 22 24<|
 Zm 26 25<|
 Zg 26 false (.ld 27 3 true (.t 1))<|
 Bo 26 160)<| .cond (.t 30) (Zr (Zo (.eB 31 [Zz 0,Zz 0,.au] [])<|
 Yf 2<|
 Zs 3 3 31<|
 Yj 4 16) .ret) .skip)<|Zr (dn 32 3 1 59<|
 Ye 5 33)<|Zr (YE 6)<|Zr (Yi 34 1 1<|
 Zo (.eB 36 [Zz 0,Zz 0,.au] [(1,1,.t 35)])<|
 YL 7<|
 .wk<| .wk<|Zs 3 7 36<|
 .wk .nil)<| .seq (.block 0<| .loop<| .block 1<|Zr (YD 38 5 161<|
 Zm 37 39<|
 xh 40 37 8 10)<| .seq (Zr (Zm 43 10<|
 Zu 44 43 .nil)<| .cond (.t 44) (.exit 0) .skip)<|Zr (rN 45 5 8 9<|
 fu 11 51 .nil)<|Zr (Ym 52 5 8<|
 Zh 56 3 11<|
 Yn 57 125 55 56<|
 Zo (.bs 58 1 22 [.t 57])<|
 Ye 12 58)<|Zr (Zh 59 3 11<|
 Zo (.bs 60 3 51 [.t 59])<|
 Ye 13 60)<| .seq (Zr (Ya 61 8 9<|
 jU 63 61 62)<| .cond (.t 63) (Zr (Zh 66 3 11<|
 .br (Zq 65 true 51 [.c (Zz 1),.c (Zz 2)]<|
 .br (Yr 67 143 65 66<|
 gy 64<|
 fu 14 68<|
 Ye 15 69) (Yc 14<|
 Yr 67 143 65 66<|
 gy 64<|
 Zs 3 14 68<|
 Ye 15 69)) (Yc 14<|
 Zq 65 true 51 [.c (Zz 1),.c (Zz 2)]<|
 Yr 67 143 65 66<|
 gy 64<|
 Zs 3 14 68<|
 Ye 15 69))<|Zr (Ym 70 5 8<|
 Ym 74 5 9<|
 Ym 80 5 8<|
 Ym 84 5 9<|
 Zq 78 true 50 [.c (Zz 1)]<|
 Zq 79 true 162 [.t 73,.t 77,.t 78]<|
 Zq 88 true 50 [.c (Zz (-1))]<|
 Zq 89 true 162 [.t 83,.t 87,.t 88]<|
 Zo (.bs 90 1 22 [.t 79,.t 89])<|
 Ye 12 90)<| .rg (Zh 91 3 14<|
 Zh 92 3 14<|
 dQ 93 63 92<|
 Zo (.bs 94 3 51 [.t 91,.t 93])<|
 Ye 13 94)) .skip)<|Zr (Yj 16 0)<| .block 2<| .loop<| .seq (Zr (Yo 95 16 12)<| .cond (.t 98) .skip (.exit 2))<| .seq (.block 3<|Zr (YY 101 5 12 16<|
 YM 104 102 103<|
 iB 106 13 16 3<|
 Zq 110 false 163 [.t 101,.t 105,.t 109]<|
 Ye 5 110)<|Zr (YY 111 6 13 16<|
 Yx 114 3 112 113<|
 Ys 116 3 51 115 56 111 6)<|Zr (Yi 118 0 7<|
 Zk 120 .add 119 1<|
 Zf 121 0 7<|
 Zs 1 121 120 .nil)<| .rg (Yi 122 2 7<|
 Ym 124 12 16<|
 mo 128 3 56 51 123 127<|
 Zf 129 2 7<|
 Zs 1 129 128 .nil))<| .rg (YX 99 16 16))<|Zr (ku 130 6 7<|
 .wk<|Zm 2 130<|
 Zs 3 3 131<|
 Yj 4 0) .ret⟩
theorem anH:Qe Tryz.prog Tryz.f93=some WU.strip:=by kernel_rfl
theorem alj{α:Rat}(h:α≠0):((1:Int):Rat)/((2:Int):Rat)/α=1/(α+α):=by
 have h2:α+α≠0:=fun e=>h (by grind);have e1:((1:Int):Rat)/((2:Int):Rat)*(((2:Int):Rat))=1:=by decide+kernel
 have e2:((2:Int):Rat)=2:=rfl;rw[e2]at e1⊢;grind
theorem Mk{R:Nat}{M:MF}(h:mV M R):Sym R M:=fun i hi k hk=>by
 rcases Kdf i k with e|e|e
 ·exact(h k hk i e).symm
 ·rw[e]
 ·exact h i hi k e
theorem OD{R kz bz:Nat}{l:List Rat}(hl:l.length=R*R)(cy:R<=20)(hs:∀q∈l,rs q<=1048576)(zM:mV (Qq l R) R)(hz3:3<=bz)(xt:fL bz R R (Qq l R))(Ej:xa kz R R (Qq l R))(hZ1:10<=kz)(hZ:kz<=2^26):
  Qd Tryz.prog 93 [PV.a9 R R l] (· =qL R (Qx R (Qq l R) (2*R)).2):=by
 have c1:=Q8p hl Oz hs;rw[decide_eq_true zM]at c1;have c2:=Q8o hl (show R<=40 by omega) Oz;have hz:([.agg [.int .i64 0,.int .i64 0,.au]]:List PV)≠[]:=by simp
 have uC:∀x∈([.agg [.int .i64 0,.int .i64 0,.au]]:List PV),x.aS=x.cells:=fun x hx=>by rw[Kau.1 hx];rfl
 have Em:=Mk zM;obtain⟨M,hM⟩:∃M,Qq l R=M:=⟨_,rfl⟩
 rw[hM]at c2 xt Em Ej⊢;refine o8 Qg Tryz.func93 rfl anH Nz fun C hP=>?_;simp only[WU];refine fw ?_;simp+decide (disch:=try exact D0) only[go_sem];refine Qb hP (K3 hl Oz Oz hs) ?_;simp+decide (disch:=try exact D0) only[go_sem]
 repeat' first
  |refine lk ?_ ?_
  |refine Qb hP c1 ?_
  |refine Qb hP c2 ?_
  |simp+decide (disch:=try exact D0) only[go_sem]
 refine di (mP 7 2000001 Tr0 Oz rfl Oz) ?_;refine di (va (γ:=2000001) (e:=3) (ty:=24) (fz:=false) T0 hz Oz uC) ?_;simp+decide (disch:=try exact D0) only[go_sem];refine di (CU (γ:=2000001) (e:=3) (ty:=24) (cs:=[.int .i64 0,.int .i64 (R:Nat),.au]) (cs':=[.int .i64 0,.int .i64 (R:Nat),.aB 2000002 0 0]) 2000002 3 51 T0 Tr0 Oz Oz rfl (by simp)) ?_;simp+decide (disch:=try exact D0) only[go_sem];refine fW 6 900 3 51 Oz T0 ?_;refine eO okB [(5,16),(37,129),(2000001,2000001)] [11,14,58,60,90,94,116,117,128,900] (fun q J hp=>∃k,q=R-k/\(∀j,j<k->cd (Qx R M j).1 R≠[])/\J 5= .sl 1 (Qo (PV.cX R) (Qx R M k).1 R)/\J 6= .ms 900 (Qx R M k).2.length/\J 7= .np 2000001 0 0/\J 2000001= .aC 2000001 3 24 [vr R (Qx R M k).2.length]/\
   hp 3=some ⟨3,24,[.agg [.int .i64 0,.int .i64 0,.au]],false⟩/\hp 2000001=some ⟨3,24,[],false⟩/\hp 2000002=some ⟨3,51,(dj R (Qx R M k).2).map PV.rat,false⟩/\hp 900=some ⟨3,51,((Qx R M k).2.map (·.1)).map PV.rat,false⟩) R ?_ ?_
 ·refine⟨0,rfl,(fun j hj=>by omega),?_⟩;simp+decide (disch:=try exact D0) only[go_sem];exact⟨rfl,rfl,by simp[Qx],rfl,rfl⟩
 rintro _ J h ⟨k,rfl,Iw,j5,j6,j7,jb,h3,hb,hx,h9⟩;have pU:=Dr Em Oz xt k Iw;have BE:k<=R:=by omega
 obtain⟨El,_⟩:=Hn Em (b:=bz) Oz xt k;have kA:=Ej k BE;have xH:=Gw R M k;have oM:=ahq (k:=kz) Oz El kA.1 Oz;simp+decide (disch:=try exact D4 j5 j6 j7 jb) only[go_sem,j5,j6,j7,jb];refine Qb hP oM ?_;have gL:(Qx R M (k+1)).1=fP (Qx R M k).1 (cd (Qx R M k).1 R):=rfl;have nV:(Qx R M (k+1)).2=(Qx R M k).2++cd (Qx R M k).1 R:=rfl;by_cases gB:cd (Qx R M k).1 R=[]
 ·have hd:¬eh (Qx R M k).1 R<R:=fun h=>by unfold cd at gB;rw[if_pos h]at gB;cases gB
  have hr:¬cF (Qx R M k).1 R<R:=fun h=>by unfold cd at gB;rw[if_neg hd,if_pos h]at gB;cases gB
  have fS:=Hm gB (2*R-k);rw[show k+(2*R-k)=2*R by omega]at fS;rw[fS];unfold wb;rw[if_neg hd,if_neg hr];have nR:=sh R (Qx R M k).2;simp+decide (disch:=try exact D8 j5 j6 j7 jb h3 hb hx h9) only[go_sem,j5,j6,j7,jb,h3,hb,hx,h9];refine AN 131 2 [2000002] (p:=vr R (Qx R M k).2.length) T0 (D:=PV.a9 (Qx R M k).2.length R (dj R (Qx R M k).2)) ?_ ?_ rfl ?_
  ·intro c hc;simp only[KaG,KbT,or_false]at hc;rcases hc with rfl|rfl|rfl
   ·trivial
   ·trivial
   ·simp only[od,aR];simp
  ·show PV.agg [_,_,eC _ h 2 (.aB 2000002 0 _)]=_;simp only[eC,hx,Ka0];rw[Kac (by rw[Kal,nR];omega)]
  simp+decide (disch:=try exact E6 j6 j7 jb h3 hb h9) only[go_sem,j6,j7,jb,h3,hb,h9,ek,Kaw,KaD,Kav,KaB,Kam];refine qt (Ko ?_);simp+decide (disch:=try exact E2 h3 h9) only[go_sem,h3,h9,ek,Kaw,KaD,Kav,KaB,Kam];rw[Kac (by simp)];exact jy rfl rfl rfl rfl (Ql _) (Ql _) (Ql _)
 have avT:k<R:=by have:=Sd El gB;omega
 have Xw:∀j,j<k+1->cd (Qx R M j).1 R≠[]:=fun j hj=>by
  by_cases e:j=k
  ·subst e;exact gB
  ·exact Iw j Oz
 have jc:=KF (Qx R M k).1 R;obtain⟨E,hE⟩:∃E,Qx R M k=E:=⟨_,rfl⟩
 rw[hE]at kA xH gL nV j5 j6 jb hx h9 gB jc El⊢;obtain⟨N,fs⟩:=E;simp only at kA xH gL nV j5 j6 jb hx h9 gB jc El⊢;have vI:0<R:=by omega
 by_cases hd:eh N R<R
 ·have e0:wb R N= .aH [.int .i64 (eh N R:Nat),.int .i64 (eh N R:Nat),.bool true]:=by unfold wb;rw[if_pos hd]
  have e1:cd N R=[(N (eh N R) (eh N R),gF (fun _=>0) (N (eh N R)) (1/N (eh N R) (eh N R)))]:=by unfold cd;rw[if_pos hd]
  have h0:=CV hd;obtain⟨L,hL⟩:∃L,cd N R=L:=⟨_,rfl⟩
  rw[hL]at kA jc gL nV e1 gB;rw[e0];generalize eh N R=d at *
  have vL:=kA.1 d hd d hd;have ho:=Jq (x:=N d) (c:=N d d) (w:=R) (k:=kz) Oz (fun c hc=>kA.1 d hd c hc) vL h0 Oz;have gd:Qo PV.rat (fun c=>N d c/N d d) R=Qo PV.rat (gF (fun _=>0) (N d) (1/N d d)) R:=om fun c hc=>by show N d c/N d d=0+1/N d d*N d c;rw[Rat.zero_add,Kbr,Kbr,Kcm,Rat.mul_comm]
  rw[gd]at ho;have Ef:L.length=1:=by rw[e1];rfl
  simp+decide (disch:=try exact D8 j5 j6 j7 jb h3 hb hx h9) only[go_sem,j5,j6,j7,jb,h3,hb,hx,h9];refine Qb hP ho ?_;simp+decide (disch:=try exact D8 j5 j6 j7 jb h3 hb hx h9) only[go_sem,j5,j6,j7,jb,h3,hb,hx,h9];refine eO okB [(5,7),(16,16),(95,129),(2000001,2000001)] [116,117,128,900] (fun q J hp=>∃i,q=L.length-i/\i<=L.length/\J 5= .sl 1 (Qo (PV.cX R) (fP N (L.take i)) R)/\J 6= .ms 900 (fs++L.take i).length/\J 7= .np 2000001 0 0/\J 16= .int .i64 (i:Nat)/\J 2000001= .aC 2000001 3 24 [vr R (fs++L.take i).length]/\
    hp 3=some ⟨3,24,[.agg [.int .i64 0,.int .i64 0,.au]],false⟩/\hp 2000001=some ⟨3,24,[],false⟩/\hp 2000002=some ⟨3,51,(dj R (fs++L.take i)).map PV.rat,false⟩/\hp 900=some ⟨3,51,((fs++L.take i).map (·.1)).map PV.rat,false⟩/\
    hp 58=some ⟨1,22,L.map (fun f=>PV.cX R f.2),false⟩/\hp 60=some ⟨3,51,L.map (fun f=>PV.rat f.1),false⟩) L.length ?_ ?_
  ·refine⟨0,rfl,by omega,?_⟩;simp+decide (disch:=try exact D8 j5 j6 j7 jb h3 hb hx h9) only[go_sem,j5,j6,j7,jb,h3,hb,hx,h9];simp only[Kam];refine⟨rfl,trivial,rfl,trivial,trivial,trivial,?_,?_⟩
   ·rw[e1];rfl
   ·rw[e1];rfl
  rintro _ J1 g ⟨i,rfl,hi,i5,i6,i7,i16,ib,g3,gb,gx,g9,gp,gq⟩;simp+decide (disch:=try exact D1 i16) only[go_sem,i16];refine Qa (fun m8=>?_) (fun m8=>?_)
  ·have al:i<L.length:=by omega
   have aT:L.take (i+1)=L.take i++[L[i]]:=Kak al;have vN:=kA.2.1 _ (Kah al);have Eh:=kA.2.2 i hi;have jm:(fs++L.take i).length<=200:=by rw[Kay,KaF];omega
   have EC:=sh R (fs++L.take i);generalize hf:L[i]=f at *
   have dF:=Lu N (L.take i) f;have EE:=Lv R (fs++L.take i) f;have En:fs++L.take (i+1)=(fs++L.take i)++[f]:=by rw[aT,<-List.append_assoc]
   rw[<-aT]at dF;generalize hT:fs++L.take i=T at *
   generalize hZ:fP N (L.take i)=Z at *
   have Xn:T.length*R<=200*20:=KaQ jm cy;have dD:(Qo PV.rat f.2 R).length=R:=fl _ _ _;have hw:=OC (M:=Z) (f:=f) (k:=kz) Oz Eh vN.1 vN.2 Oz;simp+decide (disch:=try exact D12 i5 i6 i7 i16 ib g3 gb gx g9 gp gq hf) only[go_sem,i5,i6,i7,i16,ib,g3,gb,gx,g9,gp,gq,hf];refine Qb hP hw ?_;simp+decide (disch:=try exact D12 i5 i6 i7 i16 ib g3 gb gx g9 gp gq hf) only[go_sem,i5,i6,i7,i16,ib,g3,gb,gx,g9,gp,gq,hf];rw[Qr (f:=PV.rat) (y:=f.1) (xs:=T.map (·.1)) (ty':=51) (fz:=false) (T1 g9) T0 Oz (by simp) Oz Oz];simp+decide (disch:=try exact D12 i5 i6 i7 i16 ib g3 gb gx g9 gp gq hf) only[go_sem,i5,i6,i7,i16,ib,g3,gb,gx,g9,gp,gq,hf];rw[Ke (xs:=(dj R T).map PV.rat) (T1 gx) Oz (by rw[Kal,EC]) (Dn vI) (by rw[dD];omega) (by rw[dD];omega) Oz,dD];simp+decide (disch:=try exact D11 i5 i6 i7 i16 ib g3 gb gx g9 gp gq) only[go_sem,i5,i6,i7,i16,ib,g3,gb,gx,g9,gp,gq];refine de (L.length-(i+1)) Oz ⟨i+1,rfl,by omega,?_⟩;rw[En,dF];simp+decide (disch:=try exact D10 i5 i6 i7 ib g3 gb gx g9 gp gq) only[go_sem,i5,i6,i7,ib,g3,gb,gx,g9,gp,gq];refine⟨by rw[Kay];rfl,?_,?_,by simp⟩
   ·rw[Kay,KcY,show T.length*R+R=(T.length+1)*R from(Kca _ _).symm]
   ·rw[EE,Ka9,pe]
  ·have EI:i=L.length:=by omega
   subst EI;rw[Kaz]at i5 i6 ib gx g9;simp (disch:=decide) only[kk,lY,dS,lX];simp+decide (disch:=try exact D0) only[go_sem];refine de (R-(k+1)) Oz ⟨k+1,rfl,Xw,?_⟩;rw[gL,nV];simp+decide (disch:=try exact D8 i5 i6 i7 ib g3 gb gx g9) only[go_sem,i5,i6,i7,ib,g3,gb,gx,g9]
 ·have hr:cF N R<R:=by refine Classical.byContradiction fun h=>gB ?_;unfold cd;rw[if_neg hd,if_neg h]
  have aw:=alg El hd hr;have hb0:=yD hr;have h0:=AO hb0;have e0:wb R N= .aH [.int .i64 (cF N R:Nat),.int .i64 (eU N R (cF N R):Nat),.bool true]:=by unfold wb;rw[if_neg hd,if_pos hr]
  have e1:cd N R=[(1/(N (cF N R) (eU N R (cF N R))+N (cF N R) (eU N R (cF N R))),gF (N (cF N R)) (N (eU N R (cF N R))) 1),(-(1/(N (cF N R) (eU N R (cF N R))+N (cF N R) (eU N R (cF N R)))),gF (N (cF N R)) (N (eU N R (cF N R))) (-1))]:=by unfold cd;rw[if_neg hd,if_pos hr]
  obtain⟨L,hL⟩:∃L,cd N R=L:=⟨_,rfl⟩
  rw[hL]at kA jc gL nV e1 gB;rw[e0];generalize cF N R=a at *
  generalize eU N R a=d at *
  have vL:=kA.1 a hr d hb0;have he:=alj h0;have ba:∀c,c<R->rs (N a c)<=kz:=fun c hc=>kA.1 a hr c hc;have bd:∀c,c<R->rs (N d c)<=kz:=fun c hc=>kA.1 d hb0 c hc;have q1:rs ((1:Int):Rat)<=1:=mT;have q2:rs ((-1:Int):Rat)<=1:=F3;have hh:rs (((1:Int):Rat)/((2:Int):Rat))<=10:=by decide+kernel
  have ho:=Jq (x:=N a) (c:=N a d) (w:=R) (k:=kz) Oz ba vL h0 Oz;have il:=UJ (x:=1) (y:=2) Oz Oz Oz;have oI:=Hl (a:=((1:Int):Rat)/((2:Int):Rat)) (b:=N a d) (k:=kz) Oz vL Oz h0;have bw:=vd (a:=((1:Int):Rat)/((2:Int):Rat)) h0;rw[he]at oI bw;have pT:=L7 (a:=1/(N a d+N a d)) (k:=kz+20) Oz Oz;have xK:=qn (x:=1) Oz Oz;have NA:=qn (x:= -1) Oz Oz;have eu:=TQ (x:=N a) (y:=N d) (c:=((1:Int):Rat)) (w:=R) (k:=kz) Oz ba bd Oz Oz;have cS:=TQ (x:=N a) (y:=N d) (c:=((-1:Int):Rat)) (w:=R) (k:=kz) Oz ba bd Oz Oz;have Ef:L.length=2:=by rw[e1];rfl
  rw[show(-1:Rat)=((-1:Int):Rat)from rfl,show(1:Rat)=((1:Int):Rat)from rfl]at e1;rw[show(1:Rat)=((1:Int):Rat)from rfl]at oI pT;generalize((1:Int):Rat)/(N a d+N a d)=wt at *
  generalize((1:Int):Rat)/((2:Int):Rat)=hf2 at *
  generalize((1:Int):Rat)=u1 at *
  generalize((-1:Int):Rat)=u2 at *
  simp+decide (disch:=try exact D8 j5 j6 j7 jb h3 hb hx h9) only[go_sem,j5,j6,j7,jb,h3,hb,hx,h9];refine Qb hP ho ?_;simp+decide (disch:=try exact D8 j5 j6 j7 jb h3 hb hx h9) only[go_sem,j5,j6,j7,jb,h3,hb,hx,h9];refine Oy okB [(7,7),(12,15),(64,94),(2000001,2000001)] [14,90,94] (fun J hp=>J 7= .np 2000001 0 0/\J 12= .ms 90 2/\J 13= .ms 94 2/\J 2000001= .aC 2000001 3 24 [vr R fs.length]/\hp 3=some ⟨3,24,[.agg [.int .i64 0,.int .i64 0,.au]],false⟩/\hp 2000001=some ⟨3,24,[],false⟩/\hp 2000002=some ⟨3,51,(dj R fs).map PV.rat,false⟩/\hp 900=some ⟨3,51,(fs.map (·.1)).map PV.rat,false⟩/\
    hp 90=some ⟨1,22,L.map (fun f=>PV.cX R f.2),false⟩/\hp 94=some ⟨3,51,L.map (fun f=>PV.rat f.1),false⟩) ?_ ?_
  ·refine Qa (fun _=>?_) (fun h=>absurd h Oz)
   repeat' first
    |refine lk ?_ ?_
    |refine Qb hP il ?_
    |refine Qb hP oI ?_
    |refine Qb hP pT ?_
    |refine Qb hP xK ?_
    |refine Qb hP NA ?_
    |refine Qb hP eu ?_
    |refine Qb hP cS ?_
    |simp+decide (disch:=try exact D8 j5 j6 j7 jb h3 hb hx h9) only[go_sem,j5,j6,j7,jb,h3,hb,hx,h9]
   all_goals
    refine nv ?_;simp+decide (disch:=try exact D8 j5 j6 j7 jb h3 hb hx h9) only[go_sem,j5,j6,j7,jb,h3,hb,hx,h9];rw[e1];exact⟨rfl,rfl⟩
  clear h3 hb hx h9 j7 jb;rintro J3 g ⟨j7,iI,qd,jb,h3,hb,hx,h9,kp,kq⟩;simp (disch:=decide) only[kk,lY,dS,lX];simp+decide (disch:=try exact D10 j5 j6 j7 jb h3 hb hx h9 iI qd) only[go_sem,j5,j6,j7,jb,h3,hb,hx,h9,iI,qd];refine eO okB [(5,7),(16,16),(95,129),(2000001,2000001)] [116,117,128,900] (fun q J hp=>∃i,q=L.length-i/\i<=L.length/\J 5= .sl 1 (Qo (PV.cX R) (fP N (L.take i)) R)/\J 6= .ms 900 (fs++L.take i).length/\J 7= .np 2000001 0 0/\J 16= .int .i64 (i:Nat)/\J 2000001= .aC 2000001 3 24 [vr R (fs++L.take i).length]/\
    hp 3=some ⟨3,24,[.agg [.int .i64 0,.int .i64 0,.au]],false⟩/\hp 2000001=some ⟨3,24,[],false⟩/\hp 2000002=some ⟨3,51,(dj R (fs++L.take i)).map PV.rat,false⟩/\hp 900=some ⟨3,51,((fs++L.take i).map (·.1)).map PV.rat,false⟩/\
    hp 90=some ⟨1,22,L.map (fun f=>PV.cX R f.2),false⟩/\hp 94=some ⟨3,51,L.map (fun f=>PV.rat f.1),false⟩) L.length ?_ ?_
  ·refine⟨0,rfl,by omega,?_⟩;simp+decide (disch:=try exact D8 j5 j6 j7 jb h3 hb hx h9) only[go_sem,j5,j6,j7,jb,h3,hb,hx,h9];simp only[Kam];refine⟨rfl,trivial,rfl,trivial,trivial,trivial,?_,?_⟩
   ·exact kp
   ·exact kq
  rintro _ J1 g ⟨i,rfl,hi,i5,i6,i7,i16,ib,g3,gb,gx,g9,gp,gq⟩;simp+decide (disch:=try exact D3 i16 iI qd) only[go_sem,i16,iI,qd];refine Qa (fun m8=>?_) (fun m8=>?_)
  ·have al:i<L.length:=by omega
   have aT:L.take (i+1)=L.take i++[L[i]]:=Kak al;have vN:=kA.2.1 _ (Kah al);have Eh:=kA.2.2 i hi;have jm:(fs++L.take i).length<=200:=by rw[Kay,KaF];omega
   have EC:=sh R (fs++L.take i);generalize hf:L[i]=f at *
   have dF:=Lu N (L.take i) f;have EE:=Lv R (fs++L.take i) f;have En:fs++L.take (i+1)=(fs++L.take i)++[f]:=by rw[aT,<-List.append_assoc]
   rw[<-aT]at dF;generalize hT:fs++L.take i=T at *
   generalize hZ:fP N (L.take i)=Z at *
   have Xn:T.length*R<=200*20:=KaQ jm cy;have dD:(Qo PV.rat f.2 R).length=R:=fl _ _ _;have hw:=OC (M:=Z) (f:=f) (k:=kz) Oz Eh vN.1 vN.2 Oz;simp+decide (disch:=try exact D14 i5 i6 i7 i16 ib g3 gb gx g9 gp gq hf iI qd) only[go_sem,i5,i6,i7,i16,ib,g3,gb,gx,g9,gp,gq,hf,iI,qd];refine Qb hP hw ?_;simp+decide (disch:=try exact D14 i5 i6 i7 i16 ib g3 gb gx g9 gp gq hf iI qd) only[go_sem,i5,i6,i7,i16,ib,g3,gb,gx,g9,gp,gq,hf,iI,qd];rw[Qr (f:=PV.rat) (y:=f.1) (xs:=T.map (·.1)) (ty':=51) (fz:=false) (T1 g9) T0 Oz (by simp) Oz Oz];simp+decide (disch:=try exact D14 i5 i6 i7 i16 ib g3 gb gx g9 gp gq hf iI qd) only[go_sem,i5,i6,i7,i16,ib,g3,gb,gx,g9,gp,gq,hf,iI,qd];rw[Ke (xs:=(dj R T).map PV.rat) (T1 gx) Oz (by rw[Kal,EC]) (Dn vI) (by rw[dD];omega) (by rw[dD];omega) Oz,dD];simp+decide (disch:=try exact D13 i5 i6 i7 i16 ib g3 gb gx g9 gp gq iI qd) only[go_sem,i5,i6,i7,i16,ib,g3,gb,gx,g9,gp,gq,iI,qd];refine de (L.length-(i+1)) Oz ⟨i+1,rfl,by omega,?_⟩;rw[En,dF];simp+decide (disch:=try exact D12 i5 i6 i7 ib g3 gb gx g9 gp gq iI qd) only[go_sem,i5,i6,i7,ib,g3,gb,gx,g9,gp,gq,iI,qd];refine⟨by rw[Kay];rfl,?_,?_,by simp⟩
   ·rw[Kay,KcY,show T.length*R+R=(T.length+1)*R from(Kca _ _).symm]
   ·rw[EE,Ka9,pe]
  ·have EI:i=L.length:=by omega
   subst EI;rw[Kaz]at i5 i6 ib gx g9;simp (disch:=decide) only[kk,lY,dS,lX];simp+decide (disch:=try exact D0) only[go_sem];refine de (R-(k+1)) Oz ⟨k+1,rfl,Xw,?_⟩;rw[gL,nV];simp+decide (disch:=try exact D8 i5 i6 i7 ib g3 gb gx g9) only[go_sem,i5,i6,i7,ib,g3,gb,gx,g9]
theorem afv{R:Nat}{l:List Rat}(hl:l.length=R*R)(cy:R<=5)(xP:∀q∈l,rs q<=3)(zM:mV (Qq l R) R):
  Qd Tryz.prog 93 [PV.a9 R R l] (· =qL R (Qx R (Qq l R) (2*R)).2):=by
 have xt:fL 3 R R (Qq l R):=fun r _ c _=>yC Oz xP;refine OD (kz:=50421) hl Oz (fun q hq=>by have:=xP q hq;omega) zM (Kae 3) xt (fun k hk=>?_) Oz Oz;have h:=Sc (n:=R) (Mk zM) Oz xt k hk;have e:3*7^R<=3*7^5:=KaE _ (KaR Oz cy);exact⟨fun r hr c hc=>Kap (h.1 r hr c hc) e,fun f hf=>⟨Kap (h.2.1 f hf).1 e,fun c hc=>Kap ((h.2.1 f hf).2 c hc) e⟩,fun j hj r hr c hc=>Kap (h.2.2 j hj r hr c hc) e⟩
theorem Ho{l:List Rat}{k:Nat}(hl:l.length<=1048576)(hk:k<=1048576)(hs:∀q∈l,rs q<=k):ny (l.map qR):=⟨by rw[Kal];exact hl,mj.of fun q hq=>Kap (hs q hq) hk⟩
def pn(M:MF)(x:Nat->Rat)(w:Nat):Nat->Rat
 |0=>0
 |n+1=>pn M x w n+x n*Qw (M n) x w
def gZ(l:List Rat):Nat->Rat:=fun i=>l.getD i 0
theorem PK(l:List Rat):Qo PV.rat (gZ l) l.length=l.map PV.rat:=by refine Ka7 (by simp[Qo]) fun j h1 h2=>?_;rw[rC,Ka8];unfold gZ;rw[Kad,Kag (by simpa using h2)];rfl
theorem ahr{l:List Rat}{k:Nat}(hk:1<=k)(h:∀q∈l,rs q<=k)(i:Nat):rs (gZ l i)<=k:=by
 unfold gZ;rw[Kad];cases hq:l[i]? with
 |none=>have:=sN;show rs 0<=k;omega
 |some q=>exact h q (Kai hq)
abbrev au6(e:Int):PV:=.aH [PV.rm [],PV.lj 0 0 [],.int .i64 e]
theorem alk:PV.le .au (PV.rm []):=trivial
theorem Q8q:Qd Tryz.prog 115 [.sl 1 []] (· = .bool true):=by
 refine o8 Qg Tryz.func115 rfl SF Nz fun C hP=>?_;simp only[MA];refine fw ?_;refine Sz0 ?_;refine Qi okB [(2,4),(7,31)] [] (fun q J hp=>J 7= .int .i64 (0:Nat)) 0 ?_ ?_
 ·refine Sz0 ?_;rfl
 rintro _ J h h7;refine Sz1 h7 ?_;refine qt (cr ?_);refine Sz0 ?_;exact Qc rfl rfl
theorem afw:Qd Tryz.prog 48 [PV.a9 0 0 []] (· =au6 0):=by
 have c2:=acp (l:=[]) (R:=0) (m:=0) rfl Oz Oz;have e:yN (Qq [] 0) 0 0=[]:=rfl;rw[e]at c2;refine o8 Qg Tryz.func48 rfl TN Nz fun C hP=>?_;simp only[ME];refine fw ?_;refine Sz0 ?_;refine Qb hP (GK (R:=0) (m:=0) (l:=[]) rfl Oz Oz (fun q hq=>by cases hq)) ?_;refine Sz0 ?_;refine Qb hP c2 ?_;refine Sz0 ?_;refine Qb hP Q8q ?_;refine Sz0 ?_;refine di (Wk.refl _ _) ?_;refine di (Wk.refl _ _) ?_;refine di (Wk.refl _ _) ?_;refine Sz0 ?_;refine Qi okB [(2,2),(6,6),(8,9),(33,80)] [8,46,47,52] (fun q J hp=>J 33= .int .i64 (0:Nat)/\J 2= .au/\hp 3=some ⟨3,24,[.agg [.int .i64 0,.int .i64 0,.au]],false⟩) 0 ?_ ?_
 ·refine Sz0 ?_;exact⟨rfl,rfl⟩
 rintro _ J h ⟨MM,h2,h3⟩;refine Sz3 MM h2 h3 ?_;refine di (Wk.refl _ _) ?_;refine Sz3 MM h2 h3 ?_;refine qt (Ko ?_);refine Sz3 MM h2 h3 ?_;exact jy rfl rfl rfl rfl alk ajA (Ql _)
theorem JO{R K n:Nat}{M:MF}(hB:xa K R n M):∀k,k<=n->∀f∈(Qx R M k).2,rs f.1<=K/\∀c,c<R->rs (f.2 c)<=K
 |0,_,f,hf=>by simp[Qx]at hf
 |k+1,hk,f,hf=>by
  rw[uR]at hf;rcases KaL.1 hf with hf|hf
  ·exact JO hB k Oz f hf
  ·exact(hB k Oz).2.1 f hf
theorem acz{l:List aP}{k:Nat}(hb:∀t∈l,RB k t)(dR:1<=k)(hk:k<=2^24)(jm:l.length<=100):Qd Tryz.prog 91 [PV.jI l] (· =PV.aL (wU l)):=by
 have dt:∀t∈l,rs t.q<=k:=fun t ht=>(RB.raw (hb t ht) dR).rs;refine aE Qg Tryz.func91 amB fun C hP=>?_;refine Sz0 ?_;refine fW 3 900 1 37 Oz Tz0 ?_;refine Qi dV [(3,3),(5,7),(10,51)] [5,49,50,900] (fun n J hp=>∃i,n=l.length-i/\i<=l.length/\J 3= .ms 900 (kM (l.take i)).length/\J 10= .int .i64 (i:Nat)/\hp 900=some ⟨1,37,(kM (l.take i)).map PV.aL,false⟩) l.length ?_ ?_
 ·refine⟨0,rfl,by omega,?_⟩;refine Sz0 ?_;exact⟨rfl,rfl,rfl⟩
 rintro _ J h ⟨i,rfl,hi,h3,bp,hh⟩;refine Sz2 h3 bp ?_;refine Qa (fun hg=>?_) (fun hg=>?_)
 ·have al:i<l.length:=by omega
  have dU:=hb _ (Kah al);have aT:=Q93 al;have aV:=Ge (l.take i);rw[KaF]at aV;generalize hx:l[i]=x at *
  have kZ:=dU.l;have qY:=tD x.m;have BP:=(RB.raw dU dR).rs;refine Sz3 h3 bp hx ?_;refine Qi dV [(6,6),(17,29)] [] (fun n J hp=>n<=x.m.length/\mS x.m n=cQ x.m/\J 6= .int .i64 (n:Nat)/\hp 5=some ⟨4,95,[PV.r8 x],false⟩/\hp 900=some ⟨1,37,(kM (l.take i)).map PV.aL,false⟩) x.m.length ?_ ?_
  ·refine⟨by omega,rfl,?_⟩;exact Tz1 hh
  rintro n J2 h2 ⟨hn,hc,h6,cf,dI⟩;refine Sz2 h6 cf ?_;refine fN (fun eK=>?_) (fun eK=>?_)
  ·obtain _|n:=n
   ·omega
   have e:((n+1:Nat):Int)-1=n:=by omega
   have oK:n<x.m.length:=by omega
   simp only[mS]at hc;simp+decide (disch:=try exact D3 h6 cf e) only[go_sem,h6,cf,e];refine Qa (fun hz=>?_) (fun hz=>?_)
   ·rw[if_pos (by simp[hz,oK])]at hc;refine Sz3 h6 cf e ?_;refine Qf n Oz ⟨by omega,hc,?_⟩;exact Tz2 cf dI
   ·rw[if_neg (by simpa[oK]using hz)]at hc;refine Sz3 h6 cf e ?_;rw[hc];refine Qb hP (Cm (a:=cQ x.m) Oz) ?_;refine Sz4 h3 bp h6 cf ?_;cases lf:ck (cQ x.m)
    ·rw[Ls lf,Option.toList_none,KcB,Kam]at aT;refine Sz4 h3 bp h6 cf ?_;simp (disch:=decide) only[fV,dS];refine Qf (l.length-(i+1)) Oz ⟨i+1,rfl,by omega,?_⟩;rw[aT];exact Tz2 dI h3
    rw[GH lf,Option.toList_some,Kcf,KcB]at aT;refine Sz4 h3 bp h6 cf ?_;refine Qb hP (CO (x:=0) Oz Oz) ?_;refine Sz4 h3 bp h6 cf ?_;refine Qb hP (VW (RB.raw dU dR) Oz) ?_;refine Sz4 h3 bp h6 cf ?_;refine Qb hP (UW (a:=x.m) Oz) ?_;rw[if_pos lf];refine Sz4 h3 bp h6 cf ?_;refine Qb hP (Uu (c:=rv x.n x.a x.d) (m:=cQ x.m) Oz) ?_;by_cases hz:rv x.n x.a x.d=0
    ·rw[show rH (x.q,cQ x.m)=none from if_pos hz,Kam]at aT;rw[if_pos hz];refine Sz4 h3 bp h6 cf ?_;simp (disch:=decide) only[fV,dS];refine Qf (l.length-(i+1)) Oz ⟨i+1,rfl,by omega,?_⟩;rw[aT];exact Tz2 dI h3
    ·rw[show rH (x.q,cQ x.m)=some [(x.q,cQ x.m)]from if_neg hz]at aT;rw[if_neg hz];refine Sz4 h3 bp h6 cf ?_;rw[Qr (f:=PV.aL) (y:=[(rv x.n x.a x.d,cQ x.m)]) (xs:=kM (l.take i)) (ty':=37) (fz:=false) (Tz1 dI) cE Oz rfl Oz Oz];refine Sz4 h3 bp h6 cf ?_;simp (disch:=decide) only[fV,dS];refine Qf (l.length-(i+1)) Oz ⟨i+1,rfl,by omega,?_⟩;rw[aT];simp+decide (disch:=first|omega|rfl|(simp+decide only[go_sem,Kay]<;>rfl)|fail) only[go_sem,Kay];rfl
  ·obtain rfl:n=0:=by omega
   refine Sz2 h6 cf ?_;refine Qb hP (Cm (a:=[]) (by simp)) ?_;rw[show ck []=ck (cQ x.m)by rw[<-hc];rfl];refine Sz4 h3 bp h6 cf ?_;cases lf:ck (cQ x.m)
   ·rw[Ls lf,Option.toList_none,KcB,Kam]at aT;refine Sz4 h3 bp h6 cf ?_;simp (disch:=decide) only[fV,dS];refine Qf (l.length-(i+1)) Oz ⟨i+1,rfl,by omega,?_⟩;rw[aT];exact Tz2 dI h3
   rw[GH lf,Option.toList_some,Kcf,KcB]at aT;refine Sz4 h3 bp h6 cf ?_;refine Qb hP (CO (x:=0) Oz Oz) ?_;refine Sz4 h3 bp h6 cf ?_;refine Qb hP (VW (RB.raw dU dR) Oz) ?_;refine Sz4 h3 bp h6 cf ?_;refine Qb hP (UW (a:=x.m) Oz) ?_;rw[if_pos lf];refine Sz4 h3 bp h6 cf ?_;refine Qb hP (Uu (c:=rv x.n x.a x.d) (m:=cQ x.m) Oz) ?_;by_cases hz:rv x.n x.a x.d=0
   ·rw[show rH (x.q,cQ x.m)=none from if_pos hz,Kam]at aT;rw[if_pos hz];refine Sz4 h3 bp h6 cf ?_;simp (disch:=decide) only[fV,dS];refine Qf (l.length-(i+1)) Oz ⟨i+1,rfl,by omega,?_⟩;rw[aT];exact Tz2 dI h3
   ·rw[show rH (x.q,cQ x.m)=some [(x.q,cQ x.m)]from if_neg hz]at aT;rw[if_neg hz];refine Sz4 h3 bp h6 cf ?_;rw[Qr (f:=PV.aL) (y:=[(rv x.n x.a x.d,cQ x.m)]) (xs:=kM (l.take i)) (ty':=37) (fz:=false) (Tz1 dI) cE Oz rfl Oz Oz];refine Sz4 h3 bp h6 cf ?_;simp (disch:=decide) only[fV,dS];refine Qf (l.length-(i+1)) Oz ⟨i+1,rfl,by omega,?_⟩;rw[aT];simp+decide (disch:=first|omega|rfl|(simp+decide only[go_sem,Kay]<;>rfl)|fail) only[go_sem,Kay];rfl
 ·obtain rfl:i=l.length:=by omega
  rw[Kaz]at hh h3;have aV:=Ge l;have hpn:=US l;have hK:(kM l).length*(k+1)<=100*(2^24+1):=KaQ Oz Oz;refine Sz2 h3 hh ?_;refine ln hP (Lh (K:=k+1) (E:=1048576) Oz _ (kM l) (Kae _) (O0 dt) Oz Oz Oz) (by simp+decide (disch:=try exact E1 hh) only[go_sem,hh,ek,Kaw,KaD,Kav,KaB,Kam];simp[Kac]) rfl ?_;refine Sz0 ?_;exact Qc rfl rfl
abbrev PV.cY(l:List Sq):PV:=.sl 4 (l.map PV.sq)
theorem tL:PV.le .au (PV.cY []):=trivial
def mh(L:List Tm):List Tm:=wU (L.map eM)
def eQ(bs:List (List Int))(f:LF):List Tm:=(List.range bs.length).map fun k=>(f.2 k,bs.getD k [])
def dq(bs:List (List Int))(f:LF):Sq:=(f.1,mh (eQ bs f))
def jW(bs:List (List Int))(fs:List LF):PV:=if(fs.all fun f=>decide (0<=f.1))=true then .aH [PV.cY (fs.map (dq bs)),.int .i64 0]else .aH [PV.cY [],.int .i64 17]
theorem Ue(t:Tm):(eM t).q=t.1:=eA t.1
theorem ahs{L:List Tm}{k:Nat}(hb:∀t∈L,rs t.1<=k/\t.2.length<2^40)(dR:1<=k)(hk:k<=2^24)(hl:L.length<=100):Qd Tryz.prog 91 [PV.aL L] (· =PV.aL (mh L)):=by
 have h:=acz (l:=L.map eM) (k:=k) (fun t ht=>by obtain⟨s,hs,rfl⟩:=Kaq.1 ht;exact yH (hb s hs).1 (hb s hs).2) dR hk (by rw[Kal];exact hl)
 rwa[yu]at h
theorem afx{L:List Tm}{k:Nat}(hb:∀t∈L,rs t.1<=k/\t.2.length<2^40)(dR:1<=k)(hk:k<=2^24)(hl:L.length<=100):Qd Tryz.prog 94 [PV.aL L] (· =PV.aL (mh L)):=by
 have h:=Q76 (l:=L.map eM) (k:=k) (fun t ht=>by obtain⟨s,hs,rfl⟩:=Kaq.1 ht;exact yH (hb s hs).1 (hb s hs).2) dR hk (by rw[Kal];exact hl)
 rwa[yu,Pu]at h
theorem OE{L:List Tm}{k:Nat}(hb:∀t∈L,rs t.1<=k):PB (L.length*(k+1)) 1048576 (mh L)/\(mh L).length<=L.length/\bB (mh L):=by have h:=UT (l:=L.map eM) (k:=k) (fun t ht=>by obtain⟨s,hs,rfl⟩:=Kaq.1 ht;rw[Ue];exact hb s hs);rw[Kal]at h;exact⟨h.1,h.2,LH _⟩
theorem uM(bs:List (List Int))(f:LF):(eQ bs f).length=bs.length:=by simp[eQ]
theorem G4{bs:List (List Int)}{f:LF}{k:Nat}(h:k<bs.length):(eQ bs f)[k]'(by rw[uM];exact h)=(f.2 k,bs[k]):=by simp[eQ,h]
theorem OF{bs:List (List Int)}{f:LF}{k:Nat}(h:k<bs.length):(eQ bs f).take (k+1)=(eQ bs f).take k++[(f.2 k,bs[k])]:=by rw[Kak (by rw[uM];exact h),G4 h]
theorem AD{R:Nat}:∀(fs:List LF)(i c:Nat)(hi:i<fs.length),c<R->(dj R fs).getD (i*R+c) 0=(fs[i]).2 c
 | [],i,c,hi,hc=>by simp at hi
 | f::fs,i,c,hi,hc=>by
  have e:dj R (f::fs)=(List.range R).map f.2++dj R fs:=by simp[dj]
  rw[e];cases i with
  |zero=>rw[KcM,Kbh,Kad,KbD (by simpa using hc)];simp[hc]
  |succ i=>
   have ih:=AD (R:=R) fs i c (by simpa using hi) hc;rw[Kad,KbX (by simp[Kca];omega)];rw[Kad]at ih;have e2:(i+1)*R+c-((List.range R).map f.2).length=i*R+c:=by simp[Kca];omega
   rw[e2,ih];simp
theorem Se{R:Nat}{fs:List LF}{i c:Nat}(hi:i<fs.length)(hc:c<R):∃h:i*R+c<(dj R fs).length,(dj R fs)[i*R+c]=(fs[i]).2 c:=by
 have hl:i*R+c<(dj R fs).length:=by rw[sh];have:(i+1)*R<=fs.length*R:=Kaj _ hi;rw[Kca]at this;omega
 refine⟨hl,?_⟩;have:=AD (R:=R) fs i c hi hc;rw[Kad,Kag hl]at this;exact this
structure Cf(K R:Nat)(bs:List (List Int))(fs:List LF):Prop where
 b:bs.length=R
 m:∀b∈bs,b.length<2^40
 r:R<=40
 l:fs.length<=200
 f:∀f∈fs,rs f.1<=K/\∀c,c<R->rs (f.2 c)<=K
 k:K<=2^24
 k1:1<=K
theorem Cf.t{K R:Nat}{bs:List (List Int)}{fs:List LF}(h:Cf K R bs fs){f:LF}(hf:f∈fs):∀t∈eQ bs f,rs t.1<=K/\t.2.length<2^40:=fun t ht=>by obtain⟨k,hk,rfl⟩:=KaV ht;rw[uM]at hk;rw[G4 hk];exact⟨(h.f f hf).2 k (by have:=h.b;omega),h.m _ (Kah _)⟩
theorem Ky{K R:Nat}{bs:List (List Int)}{la:List Rat}{fs:List LF}(h:Cf K R bs fs)(rR:Qd Tryz.prog 90 [PV.fK bs,PV.a9 R R la] (· = .int .i64 0))(nX:Qd Tryz.prog 48 [PV.a9 R R la] (· =qL R fs)):
  Qd Tryz.prog 29 [PV.fK bs,PV.a9 R R la] (· =jW bs fs):=by
 have m7:=h.b;have hR:=h.r;have nR:=h.l;have ats:=sh R fs;have hfR:fs.length*R<=200*40:=KaQ nR hR;have BA:∀i (hi:i<fs.length),fs[i].1<0->jW bs fs= .aH [PV.cY [],.int .i64 17]:=fun i hi h=>by
  have:(fs.all fun f=>decide (0<=f.1))=false:=by rw[Kcr];exact⟨_,Kah hi,by simp;grind⟩
  rw[jW,this,if_neg (by decide)]
 have cU:(∀j (h:j<fs.length),0<=fs[j].1)->jW bs fs= .aH [PV.cY (fs.map (dq bs)),.int .i64 0]:=fun h=>by
  have:(fs.all fun f=>decide (0<=f.1))=true:=by rw[Kax];intro t ht;obtain⟨j,hj,rfl⟩:=KaV ht;exact decide_eq_true (h j hj)
  rw[jW,if_pos this]
 have xx:(fs.map (·.1)).length=fs.length:=Kal _;have xw:∀i (hi:i<fs.length) (dZ:i<(fs.map (·.1)).length),(fs.map (·.1))[i]=fs[i].1:=fun i hi dZ=>Ka8 ..;unfold qL at nX;generalize fs.map (·.1)=W at *
 refine aE Qg Tryz.func29 anG fun C hP=>?_;refine Sz0 ?_;refine Qb hP rR ?_;refine Sz0 ?_;refine Qb hP nX ?_;refine Sz0 ?_;refine fW 10 901 4 65 Oz Tz0 ?_;refine Qi okB [(4,5),(10,15),(33,71)] [12,61,62,69,70,900,901] (fun q J hp=>∃i,q=fs.length-i/\i<=fs.length/\(∀j (h:j<fs.length),j<i->0<=fs[j].1)/\J 10= .ms 901 i/\J 33= .int .i64 (i:Nat)/\hp 8=some ⟨3,24,[PV.a9 fs.length R (dj R fs)],false⟩/\hp 901=some ⟨4,65,((fs.take i).map (dq bs)).map PV.sq,false⟩) fs.length ?_ ?_
 ·refine⟨0,rfl,by omega,by omega,?_⟩;refine Sz0 ?_;rfl
 rintro _ J h' ⟨i,rfl,hi,jZ,eI,v9,b8,b9⟩;refine Sz1 v9 ?_;refine Qa (fun hg=>?_) (fun hg=>?_)
 ·have al:i<fs.length:=by omega
  have dB:=Kah al;have hfm:=h.f _ dB;have Nl:=h.t dB;have uo:=fun c (hc:c<R)=>Se al hc;have Ix:=BA i al;have fg:0<=fs[i].1->∀j (h:j<fs.length),j<i+1->0<=fs[j].1:=fun h j hj im=>by
   by_cases e:j=i
   ·subst e;exact h
   ·exact jZ j hj Oz
  have aT:(fs.take (i+1)).map (dq bs)=(fs.take i).map (dq bs)++[dq bs fs[i]]:=by rw[Kak al,Ka9];rfl
  have mA:fs[i]∈fs:=dB;generalize hx:fs[i]=f at *
  have nY:=pk (a:=f.1) (by have:=h.k;omega);have dF:= @rB f.1;have zd:=xw i al Oz;rw[hx]at zd;refine Sz2 v9 @zd ?_;refine Qb hP nY ?_;refine Sz0 ?_;refine Qa (fun h0=>?_) (fun h0=>?_)
  ·refine Sz0 ?_;exact fp (r:=jW bs fs) (Ix (dF.1 h0)) rfl rfl tL (Ql _)
  have iY:0<=f.1:=by have:¬f.1<0:=fun g=>h0 (dF.2 g);grind
  have hfT:=uM bs f;refine Sz0 ?_;refine fW 13 900 4 95 Oz Tz0 ?_;refine Qi okB [(13,15),(43,63)] [61,62,900] (fun q J hp=>∃k,q=bs.length-k/\k<=bs.length/\J 13= .ms 900 k/\J 43= .int .i64 (k:Nat)/\hp 8=some ⟨3,24,[PV.a9 fs.length R (dj R fs)],false⟩/\hp 12=some ⟨3,51,[PV.rat f.1],false⟩/\hp 900=some ⟨4,95,((eQ bs f).take k).map PV.term,false⟩/\
    hp 901=some ⟨4,65,((fs.take i).map (dq bs)).map PV.sq,false⟩) bs.length ?_ ?_
  ·refine⟨0,rfl,by omega,?_⟩;refine Sz2 b8 b9 ?_;rfl
  rintro _ J2 h2 ⟨k,rfl,hk,sW,y7,c8,xl,c9,c1⟩;refine Sz1 y7 ?_;refine Qa (fun eK=>?_) (fun eK=>?_)
  ·have bI:k<bs.length:=by omega
   have bc:=OF (f:=f) bI;obtain⟨a1,a2⟩:=uo k Oz;have ik:((eQ bs f).take k).length=k:=by rw[KaF];omega
   generalize(eQ bs f).take k=T at *
   generalize hy:bs[k]=y at *
   refine Sz7 sW y7 v9 c8 c9 hy a2 ?_;rw[Qr (f:=PV.term) (y:=(f.2 k,y)) (xs:=T) (ty':=95) (fz:=false) (Tz1 c9) cE Oz ik.symm Oz Oz];refine Sz1 y7 ?_;refine Qf (bs.length-(k+1)) Oz ⟨k+1,rfl,by omega,?_⟩;rw[bc];exact Tz3 c8 xl c1
  ·obtain rfl:k=bs.length:=by omega
   have lg:=ahs (k:=K) Nl h.k1 h.k Oz;have Nm:(eQ bs f).take bs.length=eQ bs f:=Kac Oz;rw[Nm]at c9;have vW:dq bs f=(f.1,mh (eQ bs f)):=rfl;have ik:((fs.take i).map (dq bs)).length=i:=by rw[Kal,KaF];omega
   generalize(fs.take i).map (dq bs)=T at *
   generalize eQ bs f=U at *
   have tp:List.take bs.length (U.map PV.term)=U.map PV.term:=Kac (by rw[Kal];omega);simp (disch:=decide) only[fV,dS,Co];refine Sz7 eI v9 sW c8 xl c9 c1 ?_;refine ln hP lg (Af tp c9) rfl ?_;generalize mh U=V at *
   refine Ww eI v9 sW c8 xl c9 c1 ?_;rw[Qr (f:=PV.sq) (y:=(f.1,V)) (xs:=T) (ty':=65) (fz:=false) (pG c1) Mv Oz ik.symm Oz Oz];refine lG v9 ?_;refine Qf (fs.length-(i+1)) Oz ⟨i+1,rfl,by omega,fg iY,?_⟩;rw[aT,vW];exact pG c8
 ·obtain rfl:i=fs.length:=by omega
  have hr:=cU fun j hj=>jZ j hj hj;have NS:((fs.take fs.length).map (dq bs))=fs.map (dq bs):=by rw[Kaz]
  rw[NS]at b9;have tp:List.take fs.length ((fs.map (dq bs)).map PV.sq)=(fs.map (dq bs)).map PV.sq:=Kac (by simp);refine vw eI b9 tp ?_;exact fp (r:=jW bs fs) hr rfl rfl (Ql _) (Ql _)
theorem Q0q{K R:Nat}{bs:List (List Int)}{la:List Rat}{fs:List LF}(h:Cf K R bs fs)(rR:Qd Tryz.prog 92 [PV.fK bs,PV.a9 R R la] (· = .int .i64 0))(nX:Qd Tryz.prog 93 [PV.a9 R R la] (· =qL R fs)):
  Qd Tryz.prog 30 [PV.fK bs,PV.a9 R R la] (· =jW bs fs):=by
 have m7:=h.b;have hR:=h.r;have nR:=h.l;have ats:=sh R fs;have hfR:fs.length*R<=200*40:=KaQ nR hR;have BA:∀i (hi:i<fs.length),fs[i].1<0->jW bs fs= .aH [PV.cY [],.int .i64 17]:=fun i hi h=>by
  have:(fs.all fun f=>decide (0<=f.1))=false:=by rw[Kcr];exact⟨_,Kah hi,by simp;grind⟩
  rw[jW,this,if_neg (by decide)]
 have cU:(∀j (h:j<fs.length),0<=fs[j].1)->jW bs fs= .aH [PV.cY (fs.map (dq bs)),.int .i64 0]:=fun h=>by
  have:(fs.all fun f=>decide (0<=f.1))=true:=by rw[Kax];intro t ht;obtain⟨j,hj,rfl⟩:=KaV ht;exact decide_eq_true (h j hj)
  rw[jW,if_pos this]
 have xx:(fs.map (·.1)).length=fs.length:=Kal _;have xw:∀i (hi:i<fs.length) (dZ:i<(fs.map (·.1)).length),(fs.map (·.1))[i]=fs[i].1:=fun i hi dZ=>Ka8 ..;unfold qL at nX;generalize fs.map (·.1)=W at *
 refine aE Qg Tryz.func30 am7 fun C hP=>?_;refine Sz0 ?_;refine Qb hP rR ?_;refine Sz0 ?_;refine Qb hP nX ?_;refine Sz0 ?_;refine fW 10 901 4 65 Oz Tz0 ?_;refine Qi okB [(4,5),(10,13),(26,71)] [60,61,70,71,900,901] (fun q J hp=>∃i,q=fs.length-i/\i<=fs.length/\(∀j (h:j<fs.length),j<i->0<=fs[j].1)/\J 10= .ms 901 i/\J 11= .int .i64 (i:Nat)/\hp 8=some ⟨3,24,[PV.a9 fs.length R (dj R fs)],false⟩/\hp 901=some ⟨4,65,((fs.take i).map (dq bs)).map PV.sq,false⟩) fs.length ?_ ?_
 ·refine⟨0,rfl,by omega,by omega,?_⟩;refine Sz0 ?_;rfl
 rintro _ J h' ⟨i,rfl,hi,jZ,eI,rk,b8,b9⟩;refine Sz1 rk ?_;refine Qa (fun hg=>?_) (fun hg=>?_)
 ·have al:i<fs.length:=by omega
  have dB:=Kah al;have hfm:=h.f _ dB;have Nl:=h.t dB;have uo:=fun c (hc:c<R)=>Se al hc;have Ix:=BA i al;have fg:0<=fs[i].1->∀j (h:j<fs.length),j<i+1->0<=fs[j].1:=fun h j hj im=>by
   by_cases e:j=i
   ·subst e;exact h
   ·exact jZ j hj Oz
  have aT:(fs.take (i+1)).map (dq bs)=(fs.take i).map (dq bs)++[dq bs fs[i]]:=by rw[Kak al,Ka9];rfl
  have mA:fs[i]∈fs:=dB;generalize hx:fs[i]=f at *
  have nY:=o7 (a:=f.1) (by have:=h.k;omega);have dF:= @rB f.1;have zd:=xw i al Oz;rw[hx]at zd;refine Sz2 rk @zd ?_;refine Qb hP nY ?_;refine Sz0 ?_;refine Qa (fun h0=>?_) (fun h0=>?_)
  ·refine Sz0 ?_;exact fp (r:=jW bs fs) (Ix (dF.1 h0)) rfl rfl tL (Ql _)
  have iY:0<=f.1:=by have:¬f.1<0:=fun g=>h0 (dF.2 g);grind
  have hfT:=uM bs f;refine Sz0 ?_;refine fW 12 900 4 95 Oz Tz0 ?_;refine Qi okB [(12,13),(38,61)] [60,61,900] (fun q J hp=>∃k,q=bs.length-k/\k<=bs.length/\J 12= .ms 900 k/\J 13= .int .i64 (k:Nat)/\hp 8=some ⟨3,24,[PV.a9 fs.length R (dj R fs)],false⟩/\hp 900=some ⟨4,95,((eQ bs f).take k).map PV.term,false⟩/\
    hp 901=some ⟨4,65,((fs.take i).map (dq bs)).map PV.sq,false⟩) bs.length ?_ ?_
  ·refine⟨0,rfl,by omega,?_⟩;refine Sz2 b8 b9 ?_;rfl
  rintro _ J2 h2 ⟨k,rfl,hk,sW,y7,c8,c9,c1⟩;refine Sz1 y7 ?_;refine Qa (fun eK=>?_) (fun eK=>?_)
  ·have bI:k<bs.length:=by omega
   have bc:=OF (f:=f) bI;obtain⟨a1,a2⟩:=uo k Oz;have ik:((eQ bs f).take k).length=k:=by rw[KaF];omega
   generalize(eQ bs f).take k=T at *
   generalize hy:bs[k]=y at *
   refine Sz7 sW y7 rk c8 c9 hy a2 ?_;rw[Qr (f:=PV.term) (y:=(f.2 k,y)) (xs:=T) (ty':=95) (fz:=false) (Tz1 c9) cE Oz ik.symm Oz Oz];refine Sz1 y7 ?_;refine Qf (bs.length-(k+1)) Oz ⟨k+1,rfl,by omega,?_⟩;rw[bc];exact Tz2 c8 c1
  ·obtain rfl:k=bs.length:=by omega
   have lg:=afx (k:=K) Nl h.k1 h.k Oz;have Nm:(eQ bs f).take bs.length=eQ bs f:=Kac Oz;rw[Nm]at c9;have vW:dq bs f=(f.1,mh (eQ bs f)):=rfl;have ik:((fs.take i).map (dq bs)).length=i:=by rw[Kal,KaF];omega
   generalize(fs.take i).map (dq bs)=T at *
   generalize eQ bs f=U at *
   have tp:List.take bs.length (U.map PV.term)=U.map PV.term:=Kac (by rw[Kal];omega);simp (disch:=decide) only[fV,dS,Co];refine Sz7 eI rk sW c8 c9 c1 @zd ?_;refine ln hP lg (Af tp c9) rfl ?_;generalize mh U=V at *
   refine Ww eI rk sW c8 c9 c1 @zd ?_;rw[Qr (f:=PV.sq) (y:=(f.1,V)) (xs:=T) (ty':=65) (fz:=false) (pG c1) Mv Oz ik.symm Oz Oz];refine lG rk ?_;refine Qf (fs.length-(i+1)) Oz ⟨i+1,rfl,by omega,fg iY,?_⟩;rw[aT,vW];exact pG c8
 ·obtain rfl:i=fs.length:=by omega
  have hr:=cU fun j hj=>jZ j hj hj;have NS:((fs.take fs.length).map (dq bs))=fs.map (dq bs):=by rw[Kaz]
  rw[NS]at b9;have tp:List.take fs.length ((fs.map (dq bs)).map PV.sq)=(fs.map (dq bs)).map PV.sq:=Kac (by simp);refine vw eI b9 tp ?_;exact fp (r:=jW bs fs) hr rfl rfl (Ql _) (Ql _)
theorem RI{R:Nat}{la:List Rat}(hlen:la.length=R*R)(X7:R<=5)(sl:∀q∈la,rs q<=3)(vX:mV (Qq la R) R):
  ∃fs:List LF,fs=(Qx R (Qq la R) (2*R)).2/\Qd Tryz.prog 48 [PV.a9 R R la] (· =qL R fs)/\Qd Tryz.prog 93 [PV.a9 R R la] (· =qL R fs)/\fs.length<=20/\∀f∈fs,rs f.1<=50421/\∀c,c<R->rs (f.2 c)<=50421:=by
 have sl':∀q∈la,rs q<=1048576:=fun q hq=>by have:=sl q hq;omega
 have c2:=afv hlen X7 sl vX;by_cases vI:R=0
 ·subst vI;obtain rfl:la=[]:=Kb5 Oz;refine⟨_,rfl,?_,c2,by simp[Qx],by simp[Qx]⟩;have c1:=afw;exact c1
 ·have Em:=Mk vX;have xt:fL 3 R R (Qq la R):=fun r _ c _=>yC Oz sl;have Ej:xa 50421 R (2*R) (Qq la R):=fun k hk=>by have h:=Sc (n:=2*R) Em Oz xt k hk;have e:3*7^R<=3*7^5:=KaE _ (KaR Oz X7);exact⟨fun r hr c hc=>Kap (h.1 r hr c hc) e,fun f hf=>⟨Kap (h.2.1 f hf).1 e,fun c hc=>Kap ((h.2.1 f hf).2 c hc) e⟩,fun j hj r hr c hc=>Kap (h.2.2 j hj r hr c hc) e⟩
  have c1:=RG hlen Oz Oz sl' Oz Ej vX;have kW:=JO Ej (2*R) (Kae _);have EP:=Gw R (Qq la R) (2*R);exact⟨_,rfl,c1,c2,by omega,kW⟩
structure Mu(x:Sq):Prop where
 w:rs x.1<=1048576
 b:PB 16777216 1048576 x.2
 l:x.2.length<=1000
theorem Ku{L:List Sq}(h:∀x∈L,Mu x)(hl:L.length<=200):Qd Tryz.prog 24 [PV.cY L,PV.cY L] (· = .bool true):=by
 refine aE Qg Tryz.func24 am8 fun C hP=>?_;refine Sz0 ?_;refine Qi okB [(4,5),(11,42)] [] (fun m J hp=>∃i,m=L.length-i/\i<=L.length/\J 5= .int .i64 (i:Nat)) L.length ?_ ?_
 ·refine⟨0,rfl,by omega,?_⟩;refine Sz0 ?_;rfl
 rintro _ J h' ⟨i,rfl,hi,h5⟩;refine Sz1 h5 ?_;refine Qa (fun hg=>?_) (fun hg=>?_)
 ·have al:i<L.length:=by omega
  have bG:=h _ (Kah al);generalize hx:L[i]=x at *
  have hw:=bG.w;have rV:=bG.l;have e1:=Lj (a:=x.1) (b:=x.1) (k:=1048576) hw hw Oz;have e2:=Uy bG.b bG.b Oz Oz Oz Oz;rw[decide_eq_true rfl]at e1 e2;refine Sz2 h5 hx ?_;refine Qb hP e1 ?_;refine Sz2 h5 hx ?_;refine Qb hP e2 ?_;refine Sz1 h5 ?_;refine Qf (L.length-(i+1)) Oz ⟨i+1,rfl,by omega,?_⟩;exact Tz0
 ·obtain rfl:i=L.length:=by omega
  refine Sz0 ?_;exact Qc rfl rfl
end Go.Proofs.YtkoclfmjlolkhaaGreat
namespace Go.FW
open Go
variable {fr : Fr} {hp : HP}
theorem anI{β e ty:Nat}{xs xs':List PV}{fz:Bool}(ae:hp β=some ⟨e,ty,xs,fz⟩)(hl:xs'.length=xs.length)
  (hc:∀(i:Nat)(x x':PV),xs[i]? =some x->xs'[i]? =some x'->x'.aN=true/\x'.cells.length=x.cells.length/\∀(j:Nat)(y y':PV),x.cells[j]? =some y->x'.cells[j]? =some y'->PV.oa y y'):
  Wk fr hp fr (Qj hp β ⟨e,ty,xs',fz⟩):=by
 rintro C tmps w ⟨ρ,hs⟩;obtain⟨hp',lh⟩:∃f,f=Qj hp β ⟨e,ty,xs',fz⟩:=⟨_,rfl⟩
 rw[<-lh];have Oh:hp' β=some ⟨e,ty,xs',fz⟩:=by rw[lh];simp[Qj]
 have po:∀γ,γ≠β->hp' γ=hp γ:=fun γ aj=>by rw[lh];simp[Qj,aj]
 have back:∀(i:Nat)(x':PV),xs'[i]? =some x'->∃x,xs[i]? =some x:=fun i x' h=>by have hi:i<xs'.length:=(Kaf.1 h).1;exact⟨xs[i]'(by omega),by simp⟩
 have hX:∀c,aK C ρ hp' c->aK C ρ hp c:=by
  rintro c (hx|⟨γ,hb,g1,g2,g3⟩)
  ·exact .inl hx
  ·by_cases aj:γ=β
   ·subst aj;rw[Oh]at g1;cases g1;exact .inr ⟨γ,_,ae,g2,g3⟩
   ·rw[po γ aj]at g1;exact .inr ⟨γ,hb,g1,g2,g3⟩
 have bc:nB w w (aK C ρ hp) (aK C ρ hp'):=⟨fun _ _ _=>rfl,fun c _ hn h=>hn (hX c h),Kae _⟩
 have c1:∀γ,qg ρ ρ hp hp' w w γ:=fun γ=>by
  by_cases aj:γ=β
  ·subst aj;refine⟨rfl,fun hb hq=>?_⟩;rw[ae]at hq;cases hq;exact⟨_,Oh,rfl,by show xs.length<=xs'.length;omega,fun _ _ _ h=>h,fun h=>⟨Kb5 (by rw[show xs=[]from h]at hl;exact hl),rfl,fun _ _=>rfl⟩⟩
  ·exact⟨rfl,fun hb hq=>⟨hb,by rw[po γ aj];exact hq,rfl,Kae _,fun _ _ _ h=>h,fun h=>⟨h,rfl,fun _ _=>rfl⟩⟩⟩
 refine⟨ρ,hs.sz,hs.ext,hs.fT,fun γ hb1 aj=>?_,fun γ δ c g1 g2 g3 g4=>?_,fun i=>?_⟩
 ·by_cases hq:γ=β
  ·subst hq;rw[Oh]at aj;cases aj;have h:=hs.own γ _ ae;refine⟨h.m6,fun i x' bk=>?_,?_,h.fix,h.ro⟩
   ·obtain⟨x,hx⟩:=back i x' bk;obtain⟨d1,d2,_⟩:=hc i x x' hx bk;exact⟨d2.trans (h.len i x hx).1,d1⟩
   ·have bl:=h.dd;cases hr:ρ γ with
    |none=>rw[hr]at bl;exact Kb5 (by rw[show xs=[]from bl]at hl;exact hl)
    |some b=>
     rw[hr]at bl;obtain⟨b1,b2,cur,cap,k1,k2,k3,k4,k5⟩:=bl;refine⟨b1,b2,cur,cap,k1,k2,by show xs'.length<=cap;have:xs.length<=cap:=k3;omega,k4,fun i x' bk j y' n5=>?_⟩;obtain⟨x,hx⟩:=back i x' bk;obtain⟨_,d2,d3⟩:=hc i x x' hx bk;have hj:j<x'.cells.length:=(Kaf.1 n5).1;have hy:x.cells[j]? =some (x.cells[j]'(by omega)):=by simp
     exact((k5 i x hx j _ hy).le (d3 j _ y' hy n5)).sub hX
  ·rw[po γ hq]at aj;obtain⟨q1,q2,q3,q4,q5⟩:=hs.own γ hb1 aj;refine⟨q1,q2,?_,q4,q5⟩;cases hr:ρ γ with
   |none=>rw[hr]at q3;exact q3
   |some c=>rw[hr]at q3;exact⟨q3.1,q3.2.1,q3.2.2.move rfl rfl rfl rfl bc.rc⟩
 ·have f:∀γ,hp' γ≠none->hp γ≠none:=fun γ aj=>by
   by_cases hq:γ=β
   ·subst hq;simp[ae]
   ·rwa[po γ hq]at aj
  exact hs.inj γ δ c (f γ g1) (f δ g2) g3 g4
 ·exact(hs.cN i).move bc (fun γ _=>(c1 γ).o) (fun γ _=>(c1 γ).xZ) (fun γ e' ty' ys _=>c1 γ)
end Go.FW
