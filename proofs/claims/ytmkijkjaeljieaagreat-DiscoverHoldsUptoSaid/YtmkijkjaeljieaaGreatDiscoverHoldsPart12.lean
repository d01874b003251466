/- Part 12 of the proof of DiscoverHolds: J10, DX, FwVD. Own lemmas; no conditions. -/
import Derived.Test.YtmkijkjaeljieaaGreatDiscoverHoldsPart11
set_option maxHeartbeats 1000000
set_option linter.unusedSimpArgs false
set_option linter.unusedVariables false
set_option linter.unnecessarySimpa false
set_option maxRecDepth 100000
namespace Go.Proofs.YtmkijkjaeljieaaGreat
open Tryz
open Go Go.FW
theorem alV(hN:rp){S:List Q3}{G:List Qq}(hS:S.length<2^40)(hG:G.length<2^40)(hb:∀s∈S,lA s)(hg:∀g∈G,jD g):AC 12 [PV.df S G] (fun r=>∃b,r= .bool b/\(b=true->om S G)):=by have h:=ak9 hN hS hG hb hg;refine aw Qf func12 anP fun C hP=>?_;refine Sz0 ?_;refine gP hP h rfl rfl rfl ?_;rintro _ ⟨b,rfl,hb⟩;refine Sz0 ?_;exact Q4 ⟨b,rfl,hb⟩ rfl
theorem Q4y(cs:List Cd)(f:Qq):(jy cs f).1=[]∨(cL f cs.length=0/\(jy cs f).1=jS f.k (fun i=>(de cs f.args).getD i ([],[])) (rv f.n f.a f.d)):=by
 unfold jy;split
 ·rename_i h0;split
  ·exact .inl rfl
  ·exact .inr ⟨h0,rfl⟩
 ·exact .inl rfl
theorem Q8z{k:Int}{p:Nat->Cd}{r:Rat}:(jS k p r).length<=2:=by
 unfold jS;repeat' split
 all_goals simp
def yD(S:List Q3)(G:List Qq):List (List Tm):=iE S S.length++pJ S++(tv S G).flatten
theorem ain{S:List Q3}{G:List Qq}(hF:om S G)(hb:∀s∈S,lA s)(hg:∀g∈G,jD g):∀l∈tv S G,l.length<=2:=fun l hl=>by
 obtain⟨g,hm,rfl⟩:=KaA.1 hl;rcases Q4y (eK S) g with e|⟨_,e⟩
 ·rw[e];simp
 ·rw[e];exact Q8z
theorem Ll(S:List Q3):∀i,(iE S i).length<=2*i
 |0=>by simp[iE]
 |n+1=>by have ih:=Ll S n;rw[iE,Kap];have:(tn S (eK S) (dZ S) n).length<=2:=RF;omega
theorem P'{Q:List (List (List Tm))}(h:∀l∈Q,l.length<=2):Q.flatten.length<=2*Q.length:=by
 induction Q with
 |nil=>simp
 |cons a l ih=>have h1:=h a Kbt;have h2:=ih fun x hx=>h x (KaZ _ hx);simp only[List.flatten_cons,Kap,Kaz];omega
theorem afT(hN:rp){S:List Q3}{G:List Qq}(hS:S.length<2^40)(hG:G.length<2^40)(hb:∀s∈S,lA s)(hg:∀g∈G,jD g):
  AC 5 [PV.df S G] (fun r=>∃b,r= .bool b/\(b=true->om S G/\∀p∈yD S G,p.length<=60)):=by
 have atx:=alV hN hS hG hb hg;refine aw Qf func5 apu fun C hP=>?_;refine Sz0 ?_;refine gP hP atx rfl rfl rfl ?_;rintro _ ⟨b,rfl,hF⟩;cases b
 ·refine Sz0 ?_;exact Q4 ⟨false,rfl,fun h=>by cases h⟩ rfl
 replace hF:=hF rfl;have hM:=P9 hN hF hS hG hb hg;refine Sz0 ?_;refine gP hP hM rfl rfl ?_ ?_
 ·rfl
 rintro _ ⟨M,e,rfl,⟨rfl,rfl⟩|⟨he,rfl⟩⟩
 rotate_left
 ·have d:decide (¬e=0)=true:=decide_eq_true he;refine Sz1 d ?_;exact Q4 ⟨false,rfl,fun h=>by cases h⟩ rfl
 have fY:=Ll S S.length;have jM:(pJ S).length<=S.length:=by unfold pJ;rw[KaJ];exact HK S _
 have y9:(tv S G).length=G.length:=by simp[tv]
 have tS:=ain hF hb hg;have tM:=hF.l;have Bw:=hF.gl;have bC:∀L,L=iE S S.length++pJ S++(tv S G).flatten->L=yD S G:=fun L h=>h;unfold GG;generalize iE S S.length=H at *
 generalize pJ S=P at *
 generalize tv S G=Q at *
 have hl5:=P' tS;refine Sz0 ?_;refine PI okB [(5,5),(18,24)] [18] (fun J hp=>J 5= .ms 18 (H.length+P.length)/\hp 3=some ⟨7,37,[PV.iA S G (eK S) (dZ S) H P Q],false⟩/\hp 18=some ⟨1,61,(H++P).map PV.ay,false⟩) ?_ ?_
 ·repeat' first
   |refine eW ?_ ?_
   |rw[aqs Oz]
   |rw[ob (f:=PV.ay) (ty:=61) (xs:=([]:List (List Tm))) (ys:=H) (by rfl) (by rfl) Oz (by simp;omega) (by simp;omega)]
   |rw[ob (f:=PV.ay) (ty:=61) (xs:=H) (ys:=P) (by rfl) (by rfl) Oz Oz Oz]
   |simp+decide (disch:=try exact D0) only[go_sem]
  all_goals
   refine uI ?_;exact Tz0
 rintro J h ⟨j5,b3,WO⟩;obtain⟨A,hA⟩:∃A:Nat->List (List Tm),∀i,A i=H++P++(Q.take i).flatten:=⟨_,fun _=>rfl⟩
 have Ef:A 0=H++P:=by rw[hA];simp
 have Xn:∀i (h:i<Q.length),A (i+1)=A i++Q[i]:=fun i h=>by rw[hA,hA,Kar h,List.flatten_append,Ka8];simp
 have vr:∀i,(A i).length<=100:=fun i=>by
  have h1:=P' (Q:=Q.take i) fun l hl=>tS l (Kbi hl);rw[hA,Kap,Kap];have:(Q.take i).length<=Q.length:=by rw[KaB];omega
  omega
 have MV:A Q.length=yD S G:=bC _ (by rw[hA,Kba]);clear hA bC hl5;rw[<-Ef]at WO;rw[<-List.length_append,<-Ef]at j5;refine Sz0 ?_;refine Qm okB [(5,6),(25,38)] [18,38] (fun q J hp=>∃i,q=Q.length-i/\i<=Q.length/\J 5= .ms 18 (A i).length/\J 6= .int .i64 (i:Nat)/\hp 3=some ⟨7,37,[PV.iA S G (eK S) (dZ S) H P Q],false⟩/\hp 18=some ⟨1,61,(A i).map PV.ay,false⟩) Q.length ?_ ?_
 ·refine⟨0,rfl,by omega,?_⟩;refine Sz3 j5 b3 WO ?_;rfl
 rintro _ J1 h1 ⟨i,rfl,hi,k5,k6,c3,Bn⟩;refine Sz2 k6 c3 ?_;refine Qa (fun hc=>?_) (fun hc=>?_)
 ·have aE:i<Q.length:=by omega
  have hs:=Xn i aE;have hl:=vr i;have h2:=tS _ (Kag aE);generalize hx:Q[i]=x at *
  refine Sz4 k5 k6 c3 hx ?_;rw[ob (f:=PV.ay) (xs:=A i) (ys:=x) Bn rfl Oz Oz Oz];refine Sz1 k6 ?_;refine Qh (Q.length-(i+1)) Oz ⟨i+1,rfl,by omega,?_⟩;rw[hs,Kap,KbS];exact Tz1 c3
 obtain rfl:i=Q.length:=by omega
 rw[MV]at k5 Bn;have qQ:=vr Q.length;rw[MV]at qQ;clear MV Xn vr Ef;generalize yD S G=L at *
 refine Sz1 k5 ?_;refine Qm okB [(2,2),(7,7),(39,50)] [] (fun q J hp=>∃i,q=L.length-i/\i<=L.length/\(∀n (h:n<L.length),n<i->L[n].length<=60)/\J 7= .int .i64 (i:Nat)/\hp 18=some ⟨1,61,L.map PV.ay,false⟩) L.length ?_ ?_
 ·refine⟨0,rfl,by omega,by omega,?_⟩;refine Sz1 Bn ?_;rfl
 rintro _ J2 h2 ⟨i,rfl,hi,Xl,m7,d18⟩;refine Sz2 k5 m7 ?_;refine Qa (fun hc=>?_) (fun hc=>?_)
 ·have aE:i<L.length:=by omega
  have bD:L[i].length<=60->∀n (h:n<L.length),n<i+1->L[n].length<=60:=fun h n hn mS=>by
   by_cases e:n=i
   ·subst e;exact h
   ·exact Xl n hn Oz
  have sv:∀fr hp d K,jm (some ⟨1,61,L.map PV.ay,false⟩) 1 false i 0 d fr hp K=K (ae fr d (PV.ay L[i])) hp:=fun fr hp d K=>by rw[od (by rw[KaJ];exact aE) Oz (by simp),KbJ];rfl
  generalize hx:L[i]=x at *
  refine Sz4 k5 m7 d18 sv ?_;refine Qa (fun hq=>?_) (fun hq=>?_)
  ·refine Sz0 ?_;exact Q4 ⟨false,rfl,fun h=>by cases h⟩ rfl
  refine Sz1 m7 ?_;refine Qh (L.length-(i+1)) Oz ⟨i+1,rfl,by omega,bD Oz,?_⟩;exact Tz1 d18
 obtain rfl:i=L.length:=by omega
 refine Sz0 ?_;refine Q4 ⟨true,rfl,fun _=>⟨hF,fun p hp=>?_⟩⟩ rfl;obtain⟨n,hn,rfl⟩:=KaG hp;exact Xl n hn hn
def c8:az:=⟨57,[.t 6,.t 7],Zr (Zo (.box 3 7 37 (.t 0))<|fJ 6 0)<| .seq (Zr (ke 17 2)<| .block 0<| .loop<|Zr (Yw 20 19 18)<| .seq (.cond (.t 20) .skip (.exit 0))<| .seq (.block 1<|Zr (dW 21 3 17 19<|Zo (.alloc 9 3 50 (.agg [.ab,.ab,.ab]))<|Zs 3 9 22 .nil)<|Zr (YO 24 7 3 3 9<|YZ 26 21 24 25 23<|et 10 27 28)<| .seq (Zr (YU 29 11)<| .cond (.t 30) (Zr (Zm 31 11<|Yk 6<|Ye 7 31) .ret) .skip)<|Zr (Zm 32 10<|Zu 33 32 .nil)<| .cond (.t 33) (Zr (fJ 6 17) .ret) .skip)<| .rg (jZ 34 19))<|Zr (YK 12)<| .seq (Zr (ke 35 1)<| .block 2<| .loop<|Zr (Yw 38 37 36)<| .seq (.cond (.t 38) .skip (.exit 2))<| .seq (.block 3<|Zr (dW 39 5 35 37<|Zo (.alloc 14 5 59 (.agg [Zz 0,.ab,.bool false,.ab,.ab]))<|Zs 5 14 40 .nil)<|Zr (Zh 42 5 14<|Zm 43 2<|YZ 44 22 42 43 41<|et 15 45 46)<| .seq (Zr (YU 47 16)<| .cond (.t 48) (Zr (Zm 49 16<|Yk 6<|Ye 7 49) .ret) .skip)<|Zr (Ye 50 15)<| .cond (.t 50) (.rg (Zm 51 12<|Zh 52 5 14<|Zo (.bs 53 5 59 [.t 52])<|Zo (.app 54 5 88 59 (.t 51) (.t 53))<|Ye 12 54)) .skip)<| .rg (jZ 55 37))<|Zr (Zm 56 12<|jd 6 56) .ret⟩
theorem apF:Qd Tryz.prog f8=some c8:=by kernel_rfl
def c9:az:=⟨62,[.t 6,.t 7],Zr (Zo (.box 3 7 37 (.t 0))<|fJ 6 0)<| .seq (Zr (Yj 8 0)<| .block 0<| .loop<| .seq (Zr (YN 15 8 2)<| .cond (.t 18) .skip (.exit 0))<| .seq (.block 1<|Zr (Zh 22 7 3<|Ym 23 2 8<|dW 25 3 23 24<|YZ 27 23 22 26 21<|et 9 28 29)<| .seq (Zr (YU 30 10)<| .cond (.t 31) (Zr (Zm 32 10<|Yk 6<|Ye 7 32) .ret) .skip)<|Zr (Zm 33 9<|Zu 34 33 .nil)<| .cond (.t 34) (Zr (fJ 6 17) .ret) .skip)<| .rg (kO 19 8 8))<|Zr (YK 11)<| .seq (Zr (Yj 12 0)<| .block 2<| .loop<| .seq (Zr (YN 35 12 1)<| .cond (.t 38) .skip (.exit 2))<| .seq (.block 3<|Zr (Ym 42 1 12<|dW 44 5 42 43<|Zm 46 2<|YZ 47 24 45 46 41<|et 13 48 49)<| .seq (Zr (YU 50 14)<| .cond (.t 51) (Zr (Zm 52 14<|Yk 6<|Ye 7 52) .ret) .skip)<|Zr (Ye 53 13)<| .cond (.t 53) (.rg (eG 54 11 1 12<|dW 57 5 55 56<|Zo (.bs 59 5 59 [.t 58])<|Zo (.app 60 5 88 59 (.t 54) (.t 59))<|Ye 11 60)) .skip)<| .rg (YA 39 12))<|Zr (Zm 61 11<|jd 6 61) .ret⟩
theorem apG:Qd Tryz.prog f9=some c9:=by kernel_rfl
def c82:az:=⟨23,[.t 2],Zr (dP 1 33 0<|YK 2)<|Zr (YK 3)<| .seq (Zr (YI 6 1 1<|Yj 9 0)<| .block 0<| .loop<|Zr (Yw 10 9 8)<| .seq (.cond (.t 10) .skip (.exit 0))<| .seq (.block 1<|Zr (Zm 11 9<|dW 12 3 7 9<|Zo (.alloc 5 3 143 (.agg [Zz 0,Zz 0,Zz 0]))<|Zm 4 11<|Zs 3 5 13 .nil)<|Zr (Yb 14 0 5<|kN 16 15 1)<| .cond (.t 16) (.rg (Ym 17 3 4<|Yy 19 1 3 18 8 17<|Ye 3 20)) .skip)<| .rg (YE 21 9 9))<|Zr (gU 22 3 2) .ret⟩
theorem aoK:Qd Tryz.prog f82=some c82:=by kernel_rfl
def aqS:az:=⟨23,[.t 2],Zr (dP 1 33 0<|YK 2)<|Zr (YK 3)<| .seq (Zr (YI 6 1 1<|Yj 9 0)<| .block 0<| .loop<|Zr (Yw 10 9 8)<| .seq (.cond (.t 10) .skip (.exit 0))<| .seq (.block 1<|Zr (Zm 11 9<|dW 12 3 7 9<|Zo (.alloc 5 3 143 (.agg [Zz 0,Zz 0,Zz 0]))<|Zm 4 11<|Zs 3 5 13 .nil)<|Zr (Yb 14 0 5<|kN 16 15 1)<| .cond (.t 16) (.rg (Ym 17 3 4<|Yy 19 1 3 18 8 17<|Ye 3 20)) .skip)<| .rg (YE 21 9 9))<|Zr (gU 22 3 2) .ret⟩
theorem alW:Qd Tryz.prog f126=some aqS:=by kernel_rfl
def c83:az:=⟨28,[.t 2],Zr (YK 2)<|Zr (YK 3)<| .seq (Zr (ke 6 0)<| .block 0<| .loop<|Zr (Yw 9 8 7)<| .seq (.cond (.t 9) .skip (.exit 0))<| .seq (.block 1<|Zr (dW 10 3 6 8<|Yd 5<|Zs 3 5 11 .nil)<|Zr (Zf 12 0 5<|Yb 13 1 12<|Yb 16 2 5<|dJ 15 115 14<|Zf 19 0 5<|Zf 20 1 19<|dJ 18 115 17<|Zs 1 20 15<|Zf 21 2 5<|Zs 1 21 18 .nil)<| .rg (Zm 22 3<|Zh 23 3 5<|Yy 24 3 57 23 56 22<|Ye 3 25))<| .rg (jZ 26 8))<|Zr (gU 27 3 2) .ret⟩
theorem aoL:Qd Tryz.prog f83=some c83:=by kernel_rfl
def c43:az:=⟨81,[.t 4,.t 5],Zr (Zo (.box 2 7 37 (.t 0))<|dX 3 50 1<|fJ 4 0)<| .seq (Zr (YI 11 0 3<|YC 14 2 2 2<|dJ 16 82 15<|Zn 17 16<|Zb 18 .neq 13 17<|Yu 19 18 2 3<|Zg 19 false (.len 22 (.t 21))<|Zg 19 false (.bG 23 0 (.t 2))<|Zg 19 false (.bG 24 0 (.t 23))<|Zg 19 false (.ld 25 1 false (.t 24))<|Zg 19 false (.len 26 (.t 25))<|Zg 19 false (.bin 27 .neq false (.t 22) (.t 26))<|Yo 28 19 27 .nil)<| .cond (.t 28) (Zr (fJ 4 16) .ret) .skip)<|Zr (YK 6)<|Zr (Yj 7 0)<|Zr (Zc 8 (-1) .nil)<| .seq (Zr (Zf 29 2 2<|YI 30 1 29<|Yj 33 0)<| .block 0<| .loop<|Zr (Yw 34 33 32)<| .seq (.cond (.t 34) .skip (.exit 0))<| .seq (.block 1<|Zr (dW 35 3 31 33<|Zo (.alloc 10 3 143 (.agg [Zz 0,Zz 0,Zz 0]))<|Zs 3 10 36 .nil)<| .block 2<|Zr (Yb 50 0 10<|Yn 52 51 1 49)<| .cond (.t 49) (Zr (Zm 53 6<|eu 54 0 3 7<|dW 57 3 55 56<|Yy 59 3 57 58 56 53<|Ye 6 60)<| .rg (YA 61 7)) (Zr (eu 64 1 10 8<|Zb 67 .eql 65 66<|Zm 63 67 .nil)<| .cond (.t 63) (.rg (Zm 68 6<|cV 69 2 3 1 10<|Zi 73 6 70 72<|YC 74 3 73 3<|Yy 76 3 57 75 56 68<|Ye 6 77)) (Zr (Zm 37 6<|cV 38 2 3 1 10<|Zi 42 6 39 41<|YC 43 0 42 3<|Zo (.bs 45 3 57 [.t 44])<|Zo (.app 46 3 56 57 (.t 37) (.t 45))<|Ye 6 46)<| .rg (Yb 47 1 10<|Ye 8 48))))<| .rg (jZ 78 33))<|Zr (Zm 79 6<|Zq 80 false 83 [.t 79]<|jd 4 80) .ret⟩
theorem SH:Qd Tryz.prog f43=some c43:=by kernel_rfl
def c88:az:=⟨97,[.t 4,.t 5],Zr (Zo (.box 2 7 37 (.t 0))<|dX 3 50 1<|fJ 4 0)<| .seq (Zr (YI 11 0 3<|YC 14 2 2 2<|dJ 16 126 15<|Zn 17 16<|Zb 18 .neq 13 17<|Yu 19 18 2 3<|Zg 19 false (.len 22 (.t 21))<|Zg 19 false (.bG 23 0 (.t 2))<|Zg 19 false (.bG 24 0 (.t 23))<|Zg 19 false (.ld 25 1 false (.t 24))<|Zg 19 false (.len 26 (.t 25))<|Zg 19 false (.bin 27 .neq false (.t 22) (.t 26))<|Yo 28 19 27 .nil)<| .cond (.t 28) (Zr (fJ 4 16) .ret) .skip)<|Zr (YK 6)<|Zr (Zc 7 0<|Yj 8 0)<| .seq (Zr (Yj 9 0)<| .block 0<| .loop<| .seq (Zr (Zm 29 9<|Zf 30 2 2<|YI 31 1 30<|Yw 34 29 33)<| .cond (.t 34) .skip (.exit 0))<| .seq (.block 1<| .seq (Zr (Zf 37 2 2<|lZ 38 1 37 9 3<|Yb 42 0 41<|kN 44 43 1)<| .cond (.t 44) (Zr (Zm 45 6<|eu 46 0 3 7<|dW 49 3 47 48<|Zo (.bs 51 3 57 [.t 50])<|Zo (.app 52 3 56 57 (.t 45) (.t 51))<|Ye 6 52)<|Zr (YA 53 7)<|Zr (Yj 8 0)<| .exit 1) .skip)<|Zr (Yb 55 2 3<|Zf 57 2 2<|lZ 58 1 57 9 3<|Yb 62 1 61<|dW 64 6 56 63<|Zo (.alloc 10 6 115 (.agg [.bool false,.ab,.ab,.bool false,.ab,.ab]))<|Zs 6 10 65 .nil)<|Zr (Zm 66 8<|Zk 67 .eql 66 0<|Zm 68 67<|Zg 68 false (.bG 69 2 (.t 2))<|Zg 68 false (.bG 70 1 (.t 69))<|Zg 68 false (.ld 71 1 false (.t 70))<|Zg 68 false (.mv 72 (.t 9))<|Zg 68 false (.idx 73 3 (.t 71) (.t 72))<|Zg 68 false (.bG 74 1 (.t 73))<|Zg 68 false (.ld 75 1 false (.t 74))<|Zg 68 false (.bG 76 2 (.t 2))<|Zg 68 false (.bG 77 1 (.t 76))<|Zg 68 false (.ld 78 1 false (.t 77))<|Zg 68 false (.mv 79 (.t 9))<|Zg 68 false (.bin 80 .sub false (.t 79) (.c (Zz 1)))<|Zg 68 false (.idx 81 3 (.t 78) (.t 80))<|Zg 68 false (.bG 82 1 (.t 81))<|Zg 68 false (.ld 83 1 false (.t 82))<|Zg 68 false (.bin 84 .neq false (.t 75) (.t 83))<|Yo 85 68 84 .nil)<| .cond (.t 85) (Zr (Zm 86 6<|YC 87 0 10 3<|Yy 89 3 57 88 56 86<|Ye 6 90)<| .rg (Yj 8 1)) (Zr (Zm 91 6<|YC 92 3 10 3<|Yy 94 3 57 93 56 91<|Ye 6 95)<| .rg (Yj 8 0)))<| .rg (YA 35 9))<|Zr (Zm 96 6<|jd 4 96) .ret⟩
theorem SI:Qd Tryz.prog f88=some c88:=by kernel_rfl
def c48:az:=⟨11,[.t 4,.t 5],Zr (Zo (.box 2 7 37 (.t 0))<|dX 3 50 1<|fJ 4 0)<|Zr (Zh 6 7 2<|Zh 7 3 3<|Yr 8 88 6 7<|Yh 9 8<|Zm 4 9<|Zm 5 10 .nil) .ret⟩
theorem aoM:Qd Tryz.prog f48=some c48:=by kernel_rfl
def c44:az:=⟨20,[.t 4],Zr (bP 4)<|Zr (Ym 8 0 1<|YZ 10 84 8 9 7<|Yd 5<|Zs 3 5 11<|Zm 6 12 .nil)<|Zr (Zm 13 6<|Zk 14 .eql 13 0<|Zm 15 14<|Zg 15 true (.ld 16 3 true (.t 5))<|yH 15 85<|Zg 15 true (.bin 18 .eql false (.t 17) (.c (Zz 0)))<|Yp 19 15 18<|Ye 4 19) .ret⟩
theorem SJ:Qd Tryz.prog f44=some c44:=by kernel_rfl
def c46:az:=⟨22,[.t 6],Zr (YM 5 3 57 2<|bP 6)<|Zr (Ym 10 0 1<|YZ 12 84 10 11 9<|Yd 7<|Zs 3 7 13<|Zm 8 14 .nil)<|Zr (Zm 15 8<|Zk 16 .eql 15 0<|Zm 17 16<|Zg 17 true (.ld 18 3 true (.t 7))<|Zg 17 true (.ld 19 3 true (.t 5))<|Zg 17 true (.call (some 20) false (.c (.fn 86 [] [])) [.t 18,.t 19])<|Yp 21 17 20<|Ye 6 21) .ret⟩
theorem SK:Qd Tryz.prog f46=some c46:=by kernel_rfl
def c45:az:=⟨10,[.t 2],Zr (bP 2)<| .seq (Zr (Ye 3 0)<| .block 0<| .seq (Zr (Yn 5 3 1 4)<| .cond (.t 4) .skip (Zr (Yn 6 3 2 4)<| .cond (.t 4) .skip (Zr (Yn 7 3 3 4)<| .cond (.t 4) .skip (Zr (Yn 8 3 4 4)<| .cond (.t 4) .skip (.rg (Yn 9 3 5 4))))))<| .cond (.t 4) (Zr (bP 2) .ret) .skip)<|Zr (YX 2) .ret⟩
theorem SL:Qd Tryz.prog f45=some c45:=by kernel_rfl
def c49:az:=⟨20,[.t 4],Zr (bP 4)<|Zr (Ym 8 0 1<|YZ 10 89 8 9 7<|Yd 5<|Zs 3 5 11<|Zm 6 12 .nil)<|Zr (Zm 13 6<|Zk 14 .eql 13 0<|Zm 15 14<|Zg 15 true (.ld 16 3 true (.t 5))<|yH 15 90<|Zg 15 true (.bin 18 .eql false (.t 17) (.c (Zz 0)))<|Yp 19 15 18<|Ye 4 19) .ret⟩
theorem SM:Qd Tryz.prog f49=some c49:=by kernel_rfl
def c4:az:=⟨61,[.t 4],Zr (bP 4)<| .seq (Zr (YB 7 0<|Zk 9 .gtr 8 20<|YP 10 9 1<|Zg 10 false (.len 12 (.t 11))<|Zg 10 false (.bin 13 .gtr false (.t 12) (.c (Zz 4)))<|Yo 14 10 13 .nil)<| .cond (.t 14) (Zr (bP 4) .ret) .skip)<| .seq (Zr (Yj 5 0)<| .block 0<| .loop<| .seq (Zr (YN 15 5 1)<| .cond (.t 18) .skip (.exit 0))<| .seq (.block 1<|Zr (Ym 21 1 5<|dW 23 3 21 22<|Yv 25 11 24<|Zu 26 25 .nil)<| .cond (.t 26) (Zr (bP 4) .ret) .skip)<| .rg (YA 19 5))<| .seq (Zr (Yj 6 0)<| .block 2<| .loop<| .seq (Zr (YN 27 6 0)<| .cond (.t 30) .skip (.exit 2))<| .seq (.block 3<|Zr (l0 33 0 6 5<|YI 36 1 35<|Zk 39 .gtr 38 20<|YP 40 39 0<|Zg 40 false (.mv 42 (.t 6))<|Zg 40 false (.idx 43 5 (.t 41) (.t 42))<|Zg 40 false (.bG 44 2 (.t 43))<|DS 40 0 1<|YP 51 50 0<|Zg 51 false (.mv 53 (.t 6))<|Zg 51 false (.idx 54 5 (.t 52) (.t 53))<|Zg 51 false (.bG 55 2 (.t 54))<|Zg 51 false (.bG 56 2 (.t 55))<|Zg 51 false (.ld 57 1 false (.t 56))<|Zg 51 false (.len 58 (.t 57))<|Zg 51 false (.bin 59 .gtr false (.t 58) (.c (Zz 2)))<|Yo 60 51 59 .nil)<| .cond (.t 60) (Zr (bP 4) .ret) .skip)<| .rg (YA 31 6))<|Zr (YX 4) .ret⟩
theorem apH:Qd Tryz.prog Tryz.f4=some c4:=by kernel_rfl
def c25:az:=⟨75,[.t 2],Zr (j0 1 50<|bP 2)<| .seq (Zr (Yb 6 0 1<|Yv 8 53 7<|Zu 9 8<|YL 10 9 1 1 8<|YL 16 15 2 1 12 .nil)<| .cond (.t 21) (Zr (bP 2) .ret) .skip)<| .seq (Zr (Yj 3 0)<| .block 0<| .loop<| .seq (Zr (mF 22 3 2 1)<| .cond (.t 26) .skip (.exit 0))<| .seq (.block 1<|Zr (lZ 29 2 1 3 6<|YC 33 0 32 3<|Zf 35 2 1<|Zm 37 3<| .br (Zl 36 1 35<|Zi 38 6 36 37<|Zf 39 3 38<| .br (Zh 40 3 39<| .br (Yd 4<|Yd 5<|oD 3) (Yd 5<|Yd 4<|oD 3)) (.br (Yd 4<| .br (Zh 40 3 39<|Yd 5<|oD 3) (Yd 5<| .br (Zh 40 3 39<|oD 3) (Zs 3 4 34<|Zh 40 3 39<|Zs 3 5 40 .nil))) (Yd 5<| .br (Zh 40 3 39<|Yd 4<|oD 3) (Yd 4<| .br (Zh 40 3 39<|oD 3) (Zs 3 4 34<|Zh 40 3 39<|Zs 3 5 40 .nil))))) (.br (Yd 4<| .br (Zl 36 1 35<|Zi 38 6 36 37<|Zf 39 3 38<| .br (Zh 40 3 39<|Yd 5<|oD 3) (Yd 5<| .br (Zh 40 3 39<|oD 3) (Zs 3 4 34<|Zh 40 3 39<|Zs 3 5 40 .nil))) (Yd 5<| .br (Zl 36 1 35<|Zi 38 6 36 37<|Zf 39 3 38<| .br (Zh 40 3 39<|oD 3) (Zs 3 4 34<|Zh 40 3 39<|Zs 3 5 40 .nil)) (Zs 3 4 34<|Zl 36 1 35<|Zi 38 6 36 37<|YC 39 3 38 3<|Zs 3 5 40 .nil))) (Yd 5<| .br (Zl 36 1 35<|Zi 38 6 36 37<|Zf 39 3 38<| .br (Zh 40 3 39<|Yd 4<|oD 3) (Yd 4<| .br (Zh 40 3 39<|oD 3) (Zs 3 4 34<|Zh 40 3 39<|Zs 3 5 40 .nil))) (Yd 4<| .br (Zl 36 1 35<|Zi 38 6 36 37<|Zf 39 3 38<| .br (Zh 40 3 39<|oD 3) (Zs 3 4 34<|Zh 40 3 39<|Zs 3 5 40 .nil)) (Zs 3 4 34<|Zl 36 1 35<|Zi 38 6 36 37<|YC 39 3 38 3<|Zs 3 5 40 .nil)))))<|Zr (Zf 41 0 4<|YI 42 1 41<|Zk 45 .gtr 44 4<|YL 46 45 2 4 4<|Zm 52 51<|Zg 52 false (.bG 53 0 (.t 5))<|Zg 52 false (.bG 54 1 (.t 53))<|Zg 52 false (.ld 55 1 false (.t 54))<|Zg 52 false (.len 56 (.t 55))<|Zg 52 false (.bin 57 .gtr false (.t 56) (.c (Zz 4)))<|Yo 58 52 57<|YL 59 58 2 5 4<|Bg 65 64 3 4 54<|Bg 70 69 3 5 54 .nil)<| .cond (.t 74) (Zr (bP 2) .ret) .skip)<| .rg (YA 27 3))<|Zr (YX 2) .ret⟩
theorem aoN:Qd Tryz.prog f25=some c25:=by kernel_rfl
def wY:az:=⟨5,[.t 2],Zr (j0 1 50<|bP 2)<|Zr (Zh 3 3 1<|Yv 4 25 3<|Zm 2 4 .nil) .ret⟩
theorem aoO:Qd Tryz.prog f11=some wY:=by kernel_rfl
def DV:az:=⟨93,[.t 4,.t 5],Zr (Zo (.box 2 7 37 (.t 0))<|dX 3 50 1<|Yl 4<|Yj 5 0)<|Zr (YO 16 7 2 3 3<|YZ 18 43 16 17 15<|et 6 19 20)<| .seq (Zr (YU 21 7)<| .cond (.t 22) (Zr (Zm 23 7<|Yl 4<|Ye 5 23) .ret) .skip)<| .seq (Zr (YI 24 4 2<|Yj 27 0)<| .block 0<| .loop<|Zr (Yw 28 27 26)<| .seq (.cond (.t 28) .skip (.exit 0))<| .seq (.block 1<|Zr (Yz 29 25 27<|Ye 9 30)<|Zr (Ym 31 9 6<|Zq 33 false 44 [.t 31,.t 32]<|Zu 34 33 .nil)<| .cond (.t 34) (Zr (Yl 4<|Yj 5 0) .ret) .skip)<| .rg (YE 35 27 27))<| .seq (Zr (YI 36 5 2<|Yj 39 0)<| .block 2<| .loop<|Zr (Yw 40 39 38)<| .seq (.cond (.t 40) .skip (.exit 2))<| .seq (.block 3<|Zr (Yz 41 37 39<|Ye 11 42)<|Zr (Ym 43 11 6<|Yr 45 44 43 44 .nil)<| .cond (.t 45) (Zr (Yl 4<|Yj 5 0) .ret) .skip)<| .rg (YE 46 39 39))<| .seq (Zr (Zf 47 0 2<|YI 48 0 47<|Yj 51 0)<| .block 4<| .loop<|Zr (Yw 52 51 50)<| .seq (.cond (.t 52) .skip (.exit 4))<| .seq (.block 5<|Zr (Zm 53 51<|yE 54 49 51 13<|Zm 12 53<|Zs 6 13 55 .nil)<|Zr (Zf 56 2 2<|eu 57 0 56 12<|dW 60 2 58 59<|YT 14 98<|Zs 2 14 61 .nil)<|Zr (Yb 62 0 13<|dJ 64 45 63<|Zu 65 64<|Zm 66 65<|YG 66 0 14<|Zg 66 true (.mv 69 (.t 6))<|Zg 66 true (.bG 70 2 (.t 3))<|Zg 66 true (.ld 71 1 false (.t 70))<|Zg 66 true (.mv 72 (.t 12))<|Zg 66 true (.idx 73 6 (.t 71) (.t 72))<|Zg 66 true (.bG 74 0 (.t 73))<|Zg 66 true (.ld 75 3 true (.t 74))<|Zg 66 true (.call (some 76) true (.c (.fn 46 [] [])) [.t 68,.t 69,.t 75])<|Zg 66 true (.un 77 .not (.t 76))<|Zg 66 true (.mv 78 (.t 77))<|Zg 78 false (.bG 79 1 (.t 14))<|Zg 78 false (.ld 80 1 false (.t 79))<|Zg 78 false (.mv 81 (.t 6))<|Zg 78 false (.bG 82 2 (.t 3))<|Zg 78 false (.ld 83 1 false (.t 82))<|Zg 78 false (.mv 84 (.t 12))<|Zg 78 false (.idx 85 6 (.t 83) (.t 84))<|Zg 78 false (.bG 86 3 (.t 85))<|Zg 78 false (.ld 87 3 true (.t 86))<|Zg 78 false (.call (some 88) true (.c (.fn 46 [] [])) [.t 80,.t 81,.t 87])<|Zg 78 false (.un 89 .not (.t 88))<|Zg 66 true (.pick 90 (.t 78) (.c (.bool true)) (.t 89))<|Yp 91 66 90 .nil)<| .cond (.t 91) (Zr (Yl 4<|Yj 5 0) .ret) .skip)<| .rg (jZ 92 51))<|Zr (Zo (.mv 4 (.c (.bool true)))<|Yj 5 0) .ret⟩
theorem SN:Qd Tryz.prog f21=some DV:=by kernel_rfl
def c23:az:=⟨92,[.t 4,.t 5],Zr (Zo (.box 2 7 37 (.t 0))<|dX 3 50 1<|Yl 4<|Yj 5 0)<|Zr (YO 13 7 2 3 3<|YZ 15 48 13 14 12<|Zm 6 16<|Zm 7 17 .nil)<| .seq (Zr (YU 18 7)<| .cond (.t 19) (Zr (Zm 20 7<|Yl 4<|Ye 5 20) .ret) .skip)<| .seq (Zr (Yj 8 0)<| .block 0<| .loop<| .seq (Zr (mF 21 8 4 2)<| .cond (.t 25) .skip (.exit 0))<| .seq (.block 1<|Zr (eu 28 4 2 8<|Yz 31 29 30<|Zm 33 6<|Yr 34 49 32 33<|Zu 35 34 .nil)<| .cond (.t 35) (Zr (Yl 4<|Yj 5 0) .ret) .skip)<| .rg (YA 26 8))<| .seq (Zr (Yj 9 0)<| .block 2<| .loop<| .seq (Zr (mF 36 9 5 2)<| .cond (.t 40) .skip (.exit 2))<| .seq (.block 3<|Zr (eu 43 5 2 9<|Yz 46 44 45<|Zm 48 6<|Zq 49 false 49 [.t 47,.t 48] .nil)<| .cond (.t 49) (Zr (Yl 4<|Yj 5 0) .ret) .skip)<| .rg (YA 41 9))<| .seq (Zr (Yj 10 0)<| .block 4<| .loop<| .seq (Zr (Zm 50 10<|Zf 51 2 2<|YI 52 0 51<|Yw 55 50 54)<| .cond (.t 55) .skip (.exit 4))<| .seq (.block 5<|Zr (Zf 58 2 2<|eu 59 0 58 10<|dW 62 2 60 61<|YT 11 98<|Zs 2 11 63 .nil)<|Zr (Yb 64 0 11<|lZ 66 2 3 10 6<|YC 70 0 69 3<|Zm 74 6<|dJ 72 51 71<|Yf 73 50 65 72<|Yf 75 49 73 74<|Zu 76 75<|Yu 77 76 1 11<|Zg 77 false (.bG 80 2 (.t 3))<|Zg 77 false (.ld 81 1 false (.t 80))<|Zg 77 false (.mv 82 (.t 10))<|Zg 77 false (.idx 83 6 (.t 81) (.t 82))<|Zg 77 false (.bG 84 3 (.t 83))<|Zg 77 false (.ld 85 3 true (.t 84))<|Zg 77 false (.mv 88 (.t 6))<|Zg 77 false (.call (some 86) true (.c (.fn 51 [] [])) [.t 85])<|Zg 77 false (.call (some 87) true (.c (.fn 50 [] [])) [.t 79,.t 86])<|Zg 77 false (.call (some 89) true (.c (.fn 49 [] [])) [.t 87,.t 88])<|Zg 77 false (.un 90 .not (.t 89))<|Yo 91 77 90 .nil)<| .cond (.t 91) (Zr (Yl 4<|Yj 5 0) .ret) .skip)<| .rg (YA 56 10))<|Zr (Zo (.mv 4 (.c (.bool true)))<|Yj 5 0) .ret⟩
theorem SO:Qd Tryz.prog f23=some c23:=by kernel_rfl
end Go.Proofs.YtmkijkjaeljieaaGreat
namespace Go.FW
open Go
theorem uU(a b:Rat):rs (a-b)<=rs a+rs b+1:=by rw[Rat.sub_eq_add_neg];have:=pw a (-b);rw[Kd]at this;exact this
end Go.FW
