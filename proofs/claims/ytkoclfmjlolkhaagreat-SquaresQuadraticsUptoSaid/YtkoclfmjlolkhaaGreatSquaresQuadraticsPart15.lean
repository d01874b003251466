/- Part 15 of the proof of SquaresQuadratics: B20, B21, Q10, Q11, W7, W8, FwUG. Own lemmas; no conditions. -/
import Derived.Test.YtkoclfmjlolkhaaGreatSquaresQuadraticsPart14
set_option maxHeartbeats 1000000
set_option linter.unusedSimpArgs false
set_option linter.unusedVariables false
set_option linter.unnecessarySimpa false
set_option maxRecDepth 100000
namespace Go.Proofs.YtkoclfmjlolkhaaGreat
open Go Go.FW
theorem acA{n:Nat}(hn:n<=2^30):gj Tryz.prog 56 [.int .i64 (n:Nat)] (fun _=>.undef) aA (fun r _ H=>r= .ms 2000000 n/\H 2000000=some ⟨3,51,Qo PV.rat (fun _=>(0:Rat)) n,false⟩):=by
 refine o6 Qg Tryz.func56 rfl (Ul Ts) Nz fun C hP=>?_;simp only[WM];refine fw ?_;refine Sz0 ?_;refine Qi okB [(4,4),(9,16)] [] (fun q J hp=>∃i xs,q=n-i/\i<=n/\J 9= .int .i64 (i:Nat)/\xs.length=n/\hp 6=some ⟨3,51,xs,false⟩/\hp 2000000=none/\∀j,j<i->xs[j]? =some (PV.rat 0)) n ?_ ?_
 ·refine⟨0,List.replicate n (.agg [.bool false,.au,.au]),rfl,by omega,?_⟩;refine Sz0 ?_;exact⟨rfl,by simp,fun j hj=>by omega⟩
 rintro _ J h ⟨i,xs,rfl,hi,h9,hl,h6,hN,hx⟩;refine Sz1 h9 ?_;refine Qa (fun hg=>?_) (fun hg=>?_)
 ·have al:i<n:=by omega
  refine Sz1 h9 ?_;refine Qb hP (qK (x:=0) Oz Oz) ?_;rw[show((0:Int):Rat)=0 from rfl];generalize(0:Rat)=z at *
  refine Sz2 h9 h6 ?_;rw[qp (n:=3) (xs:=xs) (v:=PV.rat z) Oz rfl rfl];refine Sz1 h9 ?_;refine Qf (n-(i+1)) Oz ⟨i+1,xs.set i (PV.rat z),rfl,by omega,?_⟩;refine Sz1 @hN ?_;refine⟨by simp[hl],fun j hj=>?_⟩;rw[Kcs];by_cases e:i=j
  ·rw[if_pos e,if_pos Oz]
  ·rw[if_neg e];exact hx j Oz
 ·obtain rfl:i=n:=by omega
  have e:xs=Qo PV.rat (fun _=>(0:Rat)) i:=by refine Ka7 (by simp[Qo,hl]) fun j h1 h2=>?_;have:=hx j Oz;rw[Kag h1]at this;rw[rC];exact KbM this
  refine Sz2 h9 h6 ?_;refine JG (mP 6 2000000 (Tz1 @hN) Oz rfl Oz) ?_;refine Hf ?_;exact Tz2 h6 e
theorem anL{R:Nat}:∀x,kH R x=true->2000000<=x:=fun x hx=>by rcases wX hx with rfl|h<;>omega
def WA:ay:=⟨96,[.t 4,.t 5],Zr (jT 2 24 0<|
 eV 4 0)<| .seq (Zr (dn 13 3 2 52<|
 Zu 15 14<|
 Yw 16 15 1<|
 Bo 16 53)<| .cond (.t 20) (Zr (eV 4 1) .ret) .skip)<| .seq (Zr (Yp 21 1<|
 Yi 23 0 2<|
 jU 25 22 24)<| .cond (.t 25) (Zr (eV 4 16) .ret) .skip)<|Zr (dn 26 3 2 54<|
 Ye 6 27)<| .seq (Zr (YV 28 6)<| .block 0<| .loop<|Zr (Yz 31 30 29)<| .seq (.cond (.t 31) .skip (.exit 0))<| .seq (.block 1<|Zr (YZ 32 30 7)<| .rg (Ya 33 6 7<|
 Ym 35 6 7<|
 iB 39 1 7 3<|
 Zo (.bs 43 3 51 [.t 42])<|
 Zo (.app 44 3 56 51 (.t 38) (.t 43))<|
 YS 45 1 33 34 44))<| .rg (Yu 46 30 30))<|Zr (Zm 47 6<|
 Yi 48 1 2<|
 Zq 50 false 55 [.t 47,.t 49]<|
 Zo (.alloc 8 5 87 (.agg [.au,.au,.bool false,.au,.au]))<|
 Zs 5 8 50 .nil)<| .seq (Zr (Yi 51 1 8<|
 Zn 53 52<|
 Ye 9 53)<| .block 2<| .loop<| .seq (Zr (Zm 54 9<|
 Yi 55 0 2<|
 Yz 57 54 56)<| .cond (.t 57) .skip (.exit 2))<| .seq (.block 3<|Zr (Yi 60 0 8<|
 Zm 62 9<|
 YM 63 61 62<|
 Yi 65 1 2<|
 Yx 67 3 64 66<|
 Yl 69 38 68<|
 iT 70 69)<| .cond (.t 70) (Zr (eV 4 13) .ret) .skip)<| .rg (YX 58 9 9))<|Zr (Yi 71 1 2<|
 Yl 73 56 72<|
 .wk<|Ye 10 73)<| .seq (Zr (Yi 74 1 8<|
 Zn 76 75<|
 Yj 77 0)<| .block 4<| .loop<|Zr (Yz 78 77 76)<| .seq (.cond (.t 78) .skip (.exit 4))<| .seq (.block 5<|Zr (Zm 79 77<|
 YM 80 75 77<|
 dp 11 79 81)<| .rg (Ya 82 10 12<|
 Yi 84 0 8<|
 Zm 86 11<|
 YM 87 85 86<|
 Yi 89 1 2<|
 Yx 91 3 88 90<|
 YS 93 3 82 83 92))<| .rg (Yu 94 77 77))<|Zr (Zm 95 10<|
 Zm 4 95<|
 Yj 5 0) .ret⟩
theorem anM:Qe Tryz.prog Tryz.f13=some WA.strip:=by kernel_rfl
def bS(M:MF)(x:Nat->Rat)(m:Nat):MF:=fun r c=>if c=m then x r else M r c
def fI(E:MF)(ak:List Nat)(m:Nat):Nat->(Nat->Rat)
 |0=>fun _=>0
 |j+1=>fun c=>if c=ak.getD j 0 then E j m else fI E ak m j c
def Ah(E:qh)(R m:Nat):PV:=if(∀r,r<R->E.ak.length<=r->E.M r m=0)then .aH [.sl 3 (Qo PV.rat (fI E.M E.ak m E.ak.length) m),.int .i64 0]else .aH [PV.bj [],.int .i64 13]
theorem Sf{M:MF}{x:Nat->Rat}{m r:Nat}:Qo PV.rat (M r) m++[PV.rat (x r)]=Qo PV.rat (bS M x m r) (m+1):=by
 refine Ka7 (by simp[Qo]) fun j h1 h2=>?_;have hj:j<m+1:=by simpa[Qo]using h2
 rw[rC];unfold bS;by_cases e:j=m
 ·subst e;rw[if_pos rfl,Kch (by simp[Qo])];simp
 ·rw[if_neg e,KbF (by simp[Qo];omega),rC]
theorem Sg{γ i ty m B n:Nat}{L:Nat->Nat}{e0 ty0:Nat}{xs0:List PV}{fr:Fr}{hp:HP}{K:Qh}(h:i<n):
  xW (.aC γ 1 ty ((Qs (rws B n L)).set i .undef)) (some ⟨e0,ty0,xs0,false⟩) (some [.ms (B+i) m]) γ 1 i 0 fr hp K=K (af (iP γ fr) γ (.aC γ 1 ty (Qs (rws B n fun j=>if j=i then m else L j)))) hp:=by
 have hl:i<((Qs (rws B n L)).set i .undef).length:=by simpa[Qs,rws]using h
 simp only[xW,hl,exists_true_left,true_and,Kae,Kbh,KaH,exists_eq_left',KaT,Kbk];rw[<-aiz (L:=L) (L':=fun j=>if j=i then m else L j) fun j _=>rfl];simp[fo,qC,Qs,PV.aS,PV.cells,List.map_set]
theorem Sh{R m K:Nat}{l b:List Rat}(hl:l.length=R*m)(dJ:b.length=R)(hR:0<R)(cy:R<=40)(hm:m<=39)(hs:∀q∈l,rs q<=1048576)(BQ:∀q∈b,rs q<=1048576)(hK:K<=2^20)(hB:vm K R (m+1) m (bS (Qq l m) (gZ b) m)):
  Qd Tryz.prog 13 [PV.a9 R m l,PV.bj b] (· =Ah (Qt R (bS (Qq l m) (gZ b) m) m) R m):=by
 have Bw:=ll R (bS (Qq l m) (gZ b) m) m;have y9:=(hB m (Kae _)).1;have c1:=GK hl cy (show m<=40 by omega) hs;have m9:∀(hp:HP),(∀x,5<=x->hp x=none)->∀x,kH R x=true->hp x=none:=fun hp h x hx=>h x (by have:=wX hx;omega);obtain⟨X,hX⟩:∃X,gZ b=X:=⟨_,rfl⟩
 have BP:PV.bj b= .sl 3 (Qo PV.rat X R):=by rw[PV.bj,<-hX,<-dJ,PK]
 have gM:Qd Tryz.prog 53 [.sl 3 (Qo PV.rat X R)] (· = .bool true):=by
  have:=PF (l:=b.map qR) (Ho Oz (k:=1048576) Oz BQ);rw[<-Ka,BP]at this;have e:(b.map qR).all nE=true:=by rw[Kax];intro y hy;obtain⟨q,_,rfl⟩:=Kaq.1 hy;exact AK q
  rw[e]at this;exact this
 rw[hX]at Bw y9 hB⊢;rw[BP];have dD:(Qo PV.rat X R).length=R:=fl _ _ _;refine o8 Qg Tryz.func13 rfl anM Nz fun C hP=>?_;simp only[WA];refine fw ?_;refine Sz0 ?_;refine Qb hP c1 ?_;refine Sz0 ?_;refine Qb hP gM ?_;refine Sz1 dD ?_;refine PH hP hl hR cy Oz Oz (m9 _ (fun x hx=>by simp+decide (disch:=try exact D1 (show ¬x=2 from by omega)) only[go_sem,show ¬x=2 from by omega]<;>rfl)) ?_;refine Sz3 @vb @vj @yv ?_;refine eO okB [(6,7),(30,46),(2000000,2000000)] [43,44] (fun q J hp=>∃i,q=R-i/\i<=R/\J 6= .aI 2000000 0 R/\J 30= .int .i64 (i:Nat)/\J 2000000= .aC 2000000 1 22 (Qs (rws 3000000 R fun r=>if r<i then m+1 else m))/\hp 2=some ⟨3,24,[PV.a9 R m l],false⟩/\hp 2000000=some ⟨1,22,[],false⟩/\
   (∀r,r<i->hp (3000000+r)=some ⟨3,51,Qo PV.rat (bS (Qq l m) X m r) (m+1),false⟩)/\∀r,i<=r->r<R->hp (3000000+r)=some ⟨3,51,Qo PV.rat (Qq l m r) m,false⟩) R ?_ ?_
 ·refine⟨0,rfl,by omega,?_⟩;refine Sz4 @vb @vj @yv @Jr ?_;refine⟨rfl,?_,(fun r hr=>by omega),fun r _ hr=>by simp+decide (disch:=first|omega|rfl|(simp+decide only[go_sem,CP]<;>rfl)|fail) only[go_sem,CP]⟩;rw[<-DN];have:(fun r=>if r<0 then m+1 else m)=fun _=>m:=by funext r;rw[if_neg Oz]
  rw[this]
 rintro _ J h ⟨i,rfl,hi,h6,ky,hg,h2,hh,lR,iE⟩;refine Sz2 h6 ky ?_;refine Qa (fun hc=>?_) (fun hc=>?_)
 ·have al:i<R:=by omega
  have lP:=fun(K:Qh) (fr:Fr) (hp:HP) d (h:fr 2000000= .aC 2000000 1 22 (Qs (rws 3000000 R fun r=>if r<i then m+1 else m)))=>Tv (K:=K) (d:=d) (hp:=hp) h al;have er:=iE i (Kae _) al;have Nr:(if i<i then m+1 else m)=m:=if_neg Oz;refine Sz6 h6 ky hg hh lP Nr ?_;rw[JF (xs:=Qo PV.rat (Qq l m i) m) (y:=PV.rat (X i)) (ty':=51) (fz:=false) (Tz1 er) Tz0 Oz (fl _ _ _).symm Oz Oz Oz];have aT:=Pm (γ:=2000000) (e:=1) (ty:=22) (L:=fun r=>if r<i then m+1 else m) (B:=3000000) al Oz;rw[Sf];refine Sz5 h6 ky hg hh aT ?_;have hL:(fun j=>if j=i then m+1 else if j<i then m+1 else m)=fun r=>if r<i+1 then m+1 else m:=by
   funext r;by_cases e:r=i
   ·rw[if_pos e,if_pos Oz]
   ·rw[if_neg e];by_cases e2:r<i
    ·rw[if_pos e2,if_pos Oz]
    ·rw[if_neg e2,if_neg Oz]
  rw[Sg al,hL];refine Sz2 h6 ky ?_;refine de (R-(i+1)) Oz ⟨i+1,rfl,by omega,?_⟩;refine Sz3 h6 h2 hh ?_;refine⟨fun r hr=>?_,fun r hr oN=>?_⟩
  ·by_cases e:r=i
   ·subst e;rw[if_pos rfl]
   ·rw[if_neg e];exact lR r Oz
  ·rw[if_neg Oz];exact iE r Oz oN
 obtain rfl:R=i:=by omega
 have hW:Qs (rws 3000000 R fun r=>if r<R then m+1 else m)=Qs (b5 3000000 R (m+1) id):=by
  rw[<-DN];refine congrArg Qs (Ka7 (by simp[rws]) fun j h1 h2=>?_);have hj:j<R:=by simpa[rws]using h1
  rw[su,su,if_pos hj]
 rw[hW]at hg;refine Sz3 h6 h2 ky ?_;refine acs (K:=K) (M:=bS (Qq l m) X m) (ty:=22) (tyr:=51) hP hR cy (show m+1<=40 by omega) (show m<=m+1 by omega) hK hB (Tz1 hg) (Tz1 hh) lR ?_;obtain⟨E,hE⟩:∃E,Qt R (bS (Qq l m) X m) m=E:=⟨_,rfl⟩
 rw[hE]at Bw y9⊢;have hEl:yN E.M R (m+1)=Qo (PV.cX (m+1)) E.M R:=rfl;rw[aht,ahu anL];refine Sz4 @hEl h2 @vb @vj ?_;have hE8:∀r,r=R->PV.Bu r (m+1) E= .agg [.sl 1 (Qo (PV.cX (m+1)) E.M R),.sl 1 (sH E.ak),.bool (decide (E.cG.num<0)),PV.num E.cG.num.natAbs,PV.num E.cG.den]:=fun r h=>by subst h;rfl
 refine eO okB [(4,5),(9,9),(54,70)] [] (fun q J hp=>∃r,q=R-r/\E.ak.length<=r/\r<=R/\(∀j,E.ak.length<=j->j<r->E.M j m=0)/\J 9= .int .i64 (r:Nat)/\hp 2=some ⟨3,24,[PV.a9 R m l],false⟩/\hp 8=some ⟨5,87,[.agg [.sl 1 (Qo (PV.cX (m+1)) E.M R),.sl 1 (sH E.ak),.bool (decide (E.cG.num<0)),PV.num E.cG.num.natAbs,PV.num E.cG.den]],false⟩/\hp 2000000=none) (R-E.ak.length) ?_ ?_
 ·refine⟨E.ak.length,rfl,Kae _,by omega,fun j h1 h2=>by omega,?_⟩;exact Tz4 h2 @hE8 @vb @vj
 rintro _ J2 cz ⟨r,rfl,hr,zJ,hz,i9,i2,i8,iN⟩;refine Sz2 i9 i2 ?_;refine Qa (fun iD=>?_) (fun iD=>?_)
 ·have cM:r<R:=by omega
  refine Sz3 i9 i2 i8 ?_;have hb1:=y9 r cM m Oz;refine Qb hP (pk (a:=E.M r m) Oz) ?_;refine Sz1 i9 ?_;refine Qa (fun hq=>?_) (fun hq=>?_)
  ·have gO:¬E.M r m=0:=fun e=>hq (dy.2 e);have gP:Ah E R m= .aH [PV.bj [],.int .i64 13]:=if_neg fun h=>gO (h r cM hr);refine Sz0 ?_;refine qt (mO ?_);refine Sz1 gP ?_;exact fp rfl rfl rfl (show PV.le .au (.sl 3 [])from trivial) (Ql _)
  ·have gO:E.M r m=0:=Decidable.byContradiction fun e=>hq fun h=>e (dy.1 h);refine Sz1 i9 ?_;refine de (R-(r+1)) Oz ⟨r+1,rfl,by omega,by omega,fun j h1 h2=>?_,?_⟩
   ·by_cases e:j=r
    ·rw[e];exact gO
    ·exact hz j h1 Oz
   exact Tz3 i2 i8 @iN
 ·obtain rfl:R=r:=by omega
  refine Sz1 i2 ?_;refine akw hP (acA (n:=m) Oz) iN (by intro x hx γ e ty xs;rw[Kau.1 hx];intro h;cases h) rfl (by simp) ?_;refine Sz0 ?_;refine di (Wk.refl _ _) ?_;refine Sz1 i8 ?_;refine eO okB [(10,12),(77,94)] [] (fun q J hp=>∃j,q=E.ak.length-j/\j<=E.ak.length/\J 10= .aB 2000000 0 m/\J 77= .int .i64 (j:Nat)/\hp 2=some ⟨3,24,[PV.a9 R m l],false⟩/\hp 8=some ⟨5,87,[.agg [.sl 1 (Qo (PV.cX (m+1)) E.M R),.sl 1 (sH E.ak),.bool (decide (E.cG.num<0)),PV.num E.cG.num.natAbs,PV.num E.cG.den]],false⟩/\hp 2000000=some ⟨3,51,Qo PV.rat (fI E.M E.ak m j) m,false⟩) E.ak.length ?_ ?_
  ·refine⟨0,rfl,by omega,?_⟩;have e0:(fun _=>(0:Rat))=fI E.M E.ak m 0:=rfl;refine Sz3 i2 i8 e0 ?_;rfl
  rintro _ J3 rX ⟨j,rfl,hj,jf,I5,k2,k8,kx⟩;refine Sz1 I5 ?_;refine Qa (fun M9=>?_) (fun M9=>?_)
  ·have et:j<E.ak.length:=by omega
   have hRj:j<R:=by omega
   have zH:E.ak[j]<m:=Bw.2.2 _ (Kah et);simp+decide (disch:=try exact D5 jf I5 k2 k8 kx) only[go_sem,jf,I5,k2,k8,kx];rw[HK (v:=E.M j m) zH];have e1:(fun c=>if c=E.ak[j]then E.M j m else fI E.M E.ak m j c)=fI E.M E.ak m (j+1):=by
    funext c;show _=if c=E.ak.getD j 0 then _ else _
    rw[Kad,Kag et,Kbb]
   refine Sz1 I5 ?_;refine de (E.ak.length-(j+1)) Oz ⟨j+1,rfl,by omega,?_⟩;exact Tz4 jf k2 k8 e1
  ·obtain rfl:j=E.ak.length:=by omega
   refine Sz1 jf ?_;refine qt (mO ?_);refine Sz1 kx ?_;have dF:aU rX (.aB 2000000 0 m)= .sl 3 (Qo PV.rat (fI E.M E.ak m E.ak.length) m):=by simp only[aU,cZ,kx];rw[if_neg (by decide),Ka0,Kac (by rw[fl];omega)]
   have gP:Ah E R m= .aH [.sl 3 (Qo PV.rat (fI E.M E.ak m E.ak.length) m),.int .i64 0]:=if_pos fun r h1 h2=>hz r h2 h1;rw[dF,gP];exact fp rfl rfl rfl (Ql _) (Ql _)
def c75:ay:=⟨68,[.t 6],Zr (Zo (.box 5 3 24 (.t 2))<|
 YE 6)<|Zr (dn 19 3 5 48<|
 yV 18 8 7 9)<|Zr (Yj 10 0)<| .seq (.block 0<| .loop<| .seq (Zr (iB 24 7 10 3<|
 Zq 28 false 38 [.t 27]<|
 Zk 29 .geq 28 0 .nil)<| .cond (.t 29) .skip (.exit 0))<| .block 1<| .rg (YX 30 10 10))<|Zr (Zh 32 3 8<|
 Zm 33 10<|
 Yn 34 138 32 33<|
 Ye 11 34)<|Zr (sQ 35 11<|
 Yx 39 3 35 38<|
 fu 12 40 .nil)<| .seq (Zr (dn 41 3 12 38<|
 jj 43 42 0)<| .cond (.t 43) (Zr (YY 44 0 1 11<|
 Zq 47 false 139 [.t 44,.t 45,.t 46]<|
 Ye 6 47) .ret) .skip)<|Zr (YE 13)<| .seq (Zr (YV 48 11)<| .block 2<| .loop<|Zr (Yz 51 50 49)<| .seq (.cond (.t 51) .skip (.exit 2))<| .seq (.block 3<|Zr (Yx 52 3 48 50<|
 fu 15 53 .nil)<|Zr (mY 55 3 15 12 123<|
 gy 54<|
 fu 16 58<|
 Ye 17 59)<| .rg (ku 60 13 16<|
 Ys 62 3 51 61 56 60 13))<| .rg (Yu 64 50 50))<|Zr (YK 65 1 13 140<|
 Ye 6 67) .ret⟩
theorem anN:Qe Tryz.prog Tryz.f75=some c75:=by kernel_rfl
def mQ(n a:Nat):List Rat:=(List.range n).map fun k=>if k=a then 1 else 0
theorem adO{n a:Nat}:mQ (n+1) a=mQ n a++[if n=a then 1 else 0]:=by unfold mQ;rw[Kck,Ka9];rfl
theorem Ay(n a:Nat):(mQ n a).length=n:=by simp[mQ]
theorem RK{R n a:Nat}{L x:List Rat}{e:Int}(hn:n<=2^30)(hs:Qd Tryz.prog 13 [PV.a9 n R L,PV.bj (mQ n a)] (· = .aH [PV.bj x,.int .i64 e])):Qd Tryz.prog 138 [PV.a9 n R L,.int .i64 (a:Nat)] (· =PV.bj x):=by
 have xK:=qK (x:=1) Oz Oz;have qV:=qK (x:=0) Oz Oz;rw[show((1:Int):Rat)=1 from rfl]at xK;rw[show((0:Int):Rat)=0 from rfl]at qV;refine aE Qg Tryz.func138 alo fun C hP=>?_;refine Sz0 ?_;refine fW 5 900 3 51 Oz Tz0 ?_;refine Qi okB [(5,6),(11,25)] [19,20,23,24,900] (fun q J hp=>∃i,q=n-i/\i<=n/\J 5= .ms 900 i/\J 11= .int .i64 (i:Nat)/\hp 2=some ⟨3,24,[PV.a9 n R L],false⟩/\hp 900=some ⟨3,51,(mQ i a).map PV.rat,false⟩) n ?_ ?_
 ·refine⟨0,rfl,by omega,?_⟩;refine Sz0 ?_;exact⟨rfl,rfl⟩
 rintro _ J h' ⟨i,rfl,hi,j5,rk,b2,b9⟩;refine Sz1 rk ?_;refine Qa (fun hg=>?_) (fun hg=>?_)
 ·have al:i<n:=by omega
  have kF:=adO (n:=i) (a:=a);have zN:=Ay i a;generalize mQ i a=T at *
  refine Sz1 rk ?_;refine Qa (fun h0=>?_) (fun h0=>?_)
  ·rw[if_pos Oz]at kF;refine Sz2 j5 b9 ?_;refine Qb hP xK ?_;generalize(1:Rat)=z at *
   refine Sz2 j5 b9 ?_;rw[Qr (f:=PV.rat) (y:=z) (xs:=T) (ty':=51) (fz:=false) (Tz1 b9) cE Oz zN.symm Oz Oz];refine Sz1 rk ?_;refine Qf (n-(i+1)) Oz ⟨i+1,rfl,by omega,?_⟩;rw[kF];exact Tz1 b2
  ·rw[if_neg Oz]at kF;refine Sz2 j5 b9 ?_;refine Qb hP qV ?_;generalize(0:Rat)=z at *
   refine Sz2 j5 b9 ?_;rw[Qr (f:=PV.rat) (y:=z) (xs:=T) (ty':=51) (fz:=false) (Tz1 b9) cE Oz zN.symm Oz Oz];refine Sz1 rk ?_;refine Qf (n-(i+1)) Oz ⟨i+1,rfl,by omega,?_⟩;rw[kF];exact Tz1 b2
 ·obtain rfl:i=n:=by omega
  have zN:=Ay i a;generalize mQ i a=T at *
  have dF:List.take i (T.map PV.rat)=T.map PV.rat:=Kac (by rw[Kal];omega);refine Sz3 j5 b2 b9 ?_;refine ln hP hs (Af dF b9) rfl ?_;refine ij ?_;exact Qc rfl rfl
def cj(bs:List (List Int))(x:List Rat):Nat->List Rat
 |0=>[]
 |i+1=>cj bs x i++List.replicate ((bs.getD i []).length-1-(cj bs x i).length) 0++[x.getD i 0]
theorem CW{bs:List (List Int)}{x:List Rat}{m:Nat}(hb:∀b∈bs,b.length<=m):∀i,(cj bs x i).length<=m+i
 |0=>by simp[cj]
 | i+1=>by
  have ih:=CW (x:=x) hb i;have h1:(bs.getD i []).length<=m:=by
   rw[Kad];cases h:bs[i]? with
   |none=>simp
   |some b=>simp;exact hb b (Kai h)
  simp only[cj,Kay,List.length_replicate,KcY];omega
theorem LV{bs:List (List Int)}{x:List Rat}(m7:1<=bs.length)(avD:bs.length<=2^20)(hb:∀b∈bs,b.length<=2^20)(hx:bs.length<=x.length+1)(ee:x.length<=2^20):Qd Tryz.prog 140 [PV.fK bs,PV.bj x] (· =PV.bj (cj bs x (bs.length-1))):=by
 have qV:=qK (x:=0) Oz Oz;rw[show((0:Int):Rat)=0 from rfl]at qV;have bb:=fun i=>CW (x:=x) hb i;refine aE Qg Tryz.func140 aln fun C hP=>?_;refine Sz0 ?_;refine fW 5 900 3 51 Oz Tz0 ?_;refine Qi okB [(5,6),(10,33)] [24,25,31,32,900] (fun q J hp=>∃i,q=bs.length-1-i/\i<=bs.length-1/\J 5= .ms 900 (cj bs x i).length/\J 10= .int .i64 (i:Nat)/\hp 900=some ⟨3,51,(cj bs x i).map PV.rat,false⟩) (bs.length-1) ?_ ?_
 ·refine⟨0,rfl,by omega,?_⟩;refine Sz0 ?_;exact⟨rfl,rfl,rfl⟩
 rintro _ J h' ⟨i,rfl,hi,j5,eI,b9⟩;refine Sz1 eI ?_;refine Qa (fun hg=>?_) (fun hg=>?_)
 ·have al:i<bs.length:=by omega
  have hix:i<x.length:=by omega
  have Ix:=hb _ (Kah al);have bc:cj bs x (i+1)=cj bs x i++List.replicate (bs[i].length-1-(cj bs x i).length) 0++[x[i]]:=by
   have e1:bs.getD i []=bs[i]:=by simp[al]
   have e2:x.getD i 0=x[i]:=by simp[hix]
   rw[cj,e1,e2]
  have vQ:=bb i;generalize hy:bs[i]=b at *
  generalize hz:x[i]=z at *
  generalize cj bs x i=T at *
  refine Sz2 eI j5 ?_;refine Qi okB [(5,5),(13,25)] [24,25,900] (fun q J hp=>∃k,q=b.length-1-T.length-k/\k<=b.length-1-T.length/\J 5= .ms 900 (T.length+k)/\hp 900=some ⟨3,51,(T++List.replicate k 0).map PV.rat,false⟩) (b.length-1-T.length) ?_ ?_
  ·refine⟨0,rfl,by omega,?_⟩;refine Sz2 j5 b9 ?_;simp
  rintro _ J2 h2 ⟨k,rfl,hk,g5,g9⟩;refine Sz2 g5 hy ?_;refine Qa (fun eK=>?_) (fun eK=>?_)
  ·have ik:(T++List.replicate k (0:Rat)).length=T.length+k:=by simp
   have NL:T++List.replicate (k+1) (0:Rat)=(T++List.replicate k 0)++[0]:=by rw[KcG,Kbt]
   generalize T++List.replicate k (0:Rat)=U at *
   refine Sz2 g5 g9 ?_;refine Qb hP qV ?_;generalize(0:Rat)=o at *
   refine Sz2 g5 g9 ?_;rw[Qr (f:=PV.rat) (y:=o) (xs:=U) (ty':=51) (fz:=false) (Tz1 g9) cE Oz ik.symm Oz Oz];refine Sz0 ?_;refine Qf (b.length-1-T.length-(k+1)) Oz ⟨k+1,rfl,by omega,?_⟩;rw[NL];refine Sz0 ?_;rfl
  ·have qT:k=b.length-1-T.length:=by omega
   have ik:(T++List.replicate k (0:Rat)).length=T.length+k:=by simp
   rw[<-qT]at bc;generalize T++List.replicate k (0:Rat)=U at *
   simp (disch:=decide) only[fV,dS,Co];refine Sz4 g5 g9 eI hz ?_;rw[Qr (f:=PV.rat) (y:=z) (xs:=U) (ty':=51) (fz:=false) (Tz1 g9) cE Oz ik.symm Oz Oz];refine Sz1 eI ?_;refine Qf (bs.length-1-(i+1)) Oz ⟨i+1,rfl,by omega,?_⟩;rw[bc];refine Sz0 ?_;simp[ik]
 ·obtain rfl:i=bs.length-1:=by omega
  have dF:List.take (cj bs x (bs.length-1)).length ((cj bs x (bs.length-1)).map PV.rat)=(cj bs x (bs.length-1)).map PV.rat:=Kac (by simp);refine vw j5 b9 dF ?_;exact Qc rfl rfl
def c22:ay:=⟨35,[.t 2,.t 3,.t 4],Zr (Yf 2<|
 eV 3 0)<| .seq (Zr (YD 7 0 72<|
 Zu 9 8 .nil)<| .cond (.t 9) (Zr (Yf 2<|
 eV 3 1) .ret) .skip)<| .seq (Zr (YD 10 0 43<|
 Zk 12 .gtr 11 2 .nil)<| .cond (.t 12) (Zr (Yf 2<|
 eV 3 8) .ret) .skip)<|Zr (YD 13 0 73<|
 Zm 5 14 .nil)<| .seq (Zr (Yp 15 5<|
 Zk 17 .gtr 16 40 .nil)<| .cond (.t 17) (Zr (Yf 2<|
 eV 3 4) .ret) .skip)<|Zr (YK 18 0 5 74<|
 YL 6<|
 Zs 3 6 20 .nil)<|Zr (ku 22 5 6<|
 Zq 24 false 29 [.t 22,.t 23]<|
 gy 21<|
 Zm 2 25<|
 Ye 4 26)<| .seq (Zr (Zm 27 4<|
 jj 28 27 17)<| .cond (.t 28) (Zr (Ya 29 0 5<|
 Zh 31 3 6<|
 Zq 32 false 75 [.t 29,.t 30,.t 31]<|
 Yf 2<|
 Zm 3 32<|
 Yj 4 17) .ret) .skip)<|Zr (Ya 33 2 4<|
 Zm 2 33<|
 Yf 3<|
 Ye 4 34) .ret⟩
theorem FN:Qe Tryz.prog Tryz.f22=some c22:=by kernel_rfl
theorem Vy{p:List Tm}{bs:List (List Int)}{R n a m:Nat}{la W L x w:List Rat}{c:Rat}(nX:Qd Tryz.prog 48 [PV.a9 R R la] (· = .aH [PV.bj W,PV.a9 n R L,.int .i64 0]))(ha:a<W.length)(xx:W.length<=1000)(hW:∀q∈W,rs q<2^36)(h1:∀j (h:j<W.length),j<a->0<=W[j])(h2:W[a]<0)
  (NH:Qd Tryz.prog 138 [PV.a9 n R L,.int .i64 (a:Nat)] (· =PV.bj x)) (ee:x.length=m+1) (hm:m<=1000) (I2:∀q∈x,rs q<2^30) (hc:x[m]'Oz=c) (hfa:c=0->Qd Tryz.prog 139 [PV.aL p,PV.fK bs,PV.bj x] (· =PV.bj w)) (eZ:c≠0->Qd Tryz.prog 140 [PV.fK bs,PV.bj (x.map (· /c))] (· =PV.bj w)):
  Qd Tryz.prog 75 [PV.aL p,PV.fK bs,PV.a9 R R la] (· =PV.bj w):=by
 have pK:rs c<2^30:=by rw[<-hc];exact I2 _ (Kah _)
 have NN:=pk (a:=c) Oz;have dM:= @dy c;refine aE Qg Tryz.func75 anN fun C hP=>?_;refine Sz0 ?_;refine Qb hP nX ?_;refine Sz0 ?_;refine Qi okB [(10,10),(24,31)] [] (fun q J hp=>∃i,q=a-i/\i<=a/\J 10= .int .i64 (i:Nat)/\hp 8=some ⟨3,24,[PV.a9 n R L],false⟩) a ?_ ?_
 ·refine⟨0,rfl,by omega,?_⟩;refine Sz0 ?_;rfl
 rintro _ J h' ⟨i,rfl,hi,eI,b8⟩;have XL:i<W.length:=by omega
 have IZ:=hW _ (Kah XL);have nY:=pk (a:=W[i]) IZ;have dF:= @rB W[i];by_cases vP:i=a
 ·subst vP;have av4:=dF.2 h2;generalize hy:W[i]=y at *
  refine Sz2 eI hy ?_;refine Qb hP nY ?_;refine Sz0 ?_;refine Qa (fun h0=>absurd h0 Oz) (fun _=>?_);refine Sz2 eI b8 ?_;refine Qb hP NH ?_;have rW:(x.length:Int)-1=((m:Nat):Int):=by omega
  refine Sz2 rW hc ?_;refine Qb hP NN ?_;refine Sz0 ?_;refine Qa (fun h0=>?_) (fun h0=>?_)
  ·have hf:=hfa (dM.1 h0);refine Sz0 ?_;refine Qb hP hf ?_;refine Sz0 ?_;exact Qc rfl rfl
  have pJ:c≠0:=fun h=>h0 (dM.2 h);replace eZ:=eZ pJ;refine Sz0 ?_;refine fW 13 900 3 51 Oz Tz0 ?_;refine Qi okB [(13,13),(15,17),(50,64)] [15,16,62,63,900] (fun q J hp=>∃i,q=x.length-i/\i<=x.length/\J 13= .ms 900 i/\J 50= .int .i64 (i:Nat)/\hp 12=some ⟨3,51,[PV.rat c],false⟩/\hp 900=some ⟨3,51,((x.take i).map (· /c)).map PV.rat,false⟩) x.length ?_ ?_
  ·refine⟨0,rfl,by omega,?_⟩;refine Sz1 ee ?_;rfl
  rintro _ J2 oF ⟨i,rfl,dZ,sW,Ic,xl,c9⟩;refine Sz1 Ic ?_;refine Qa (fun hg=>?_) (fun hg=>?_)
  ·have al:i<x.length:=by omega
   have gR:=I2 _ (Kah al);have aT:(x.take (i+1)).map (· /c)=(x.take i).map (· /c)++[x[i]/c]:=by rw[Kak al,Ka9];rfl
   have ik:((x.take i).map (· /c)).length=i:=by rw[Kal,KaF];omega
   generalize(x.take i).map (· /c)=T at *
   generalize hz:x[i]=z at *
   have oI:=Bl (a:=z) (b:=c) (k:=2^30) Oz Oz Oz pJ;refine Sz5 sW Ic xl c9 hz ?_;refine Qb hP oI ?_;generalize z/c=u at *
   refine Sz4 sW Ic xl c9 ?_;rw[Qr (f:=PV.rat) (y:=u) (xs:=T) (ty':=51) (fz:=false) (Tz1 c9) cE Oz ik.symm Oz Oz];refine Sz1 Ic ?_;refine Qf (x.length-(i+1)) Oz ⟨i+1,rfl,by omega,?_⟩;rw[aT];exact Tz1 xl
  ·obtain rfl:i=x.length:=by omega
   rw[Kaz]at c9;have tp:List.take x.length ((x.map (· /c)).map PV.rat)=(x.map (· /c)).map PV.rat:=Kac (by simp);refine Sz2 sW c9 ?_;refine ln hP eZ (Af tp c9) rfl ?_;refine ij ?_;exact Qc rfl rfl
 ·have h1i:=h1 i XL Oz;have EY:¬fc W[i]<0:=fun h=>by have:=dF.1 h;grind
  generalize hy:W[i]=y at *
  refine Sz2 eI hy ?_;refine Qb hP nY ?_;refine Sz0 ?_;refine Qa (fun _=>?_) (fun h0=>absurd h0 Oz);refine Sz1 eI ?_;refine Qf (a-(i+1)) Oz ⟨i+1,rfl,by omega,?_⟩;exact Tz1 b8
theorem GL{p:List Tm}{K E:Nat}(hb:PB K E p)(hv:qi p)(hK:K<2^36)(hl:p.length<2^40):Qd Tryz.prog 72 [PV.aL p] (· = .bool true):=by
 have h:=Cp (l:=p.map eM) (k:=max K 1) (fun t ht=>by obtain⟨s,hs,rfl⟩:=Kaq.1 ht;have:=(hb s hs).c;exact yH Oz (by have:=(hb s hs).m.len;omega)) Oz Oz (by rw[Kal];exact hl)
 rwa[yu,C7 hv]at h
theorem alr(p:List Tm):(aF p).length=(Qp p).length+1:=by simp[aF]
theorem l8{p:List Tm}:∀b∈aF p,MB 1 b/\b.length<=64/\b.getLast? ≠some 0:=fun b hb=>by
 rcases KaL.1 hb with hb|hb
 ·obtain⟨v,hv,rfl⟩:=Kaq.1 hb;have:=Ds hv;exact⟨Jo this,by simp[bQ];omega,O2 Oz⟩
 ·rw[Kau.1 hb];exact⟨⟨by simp,by simp,by simp⟩,by simp,by simp⟩
theorem F8{p:List Tm}{K E:Nat}{L:List Sq}{e:Int}{w:List Rat}(hb:PB K E p)(hE:E<=2^29)(hK:K<=2^30)(zb:1<=K)(cW:p.length<=2^30)(hr:Qd Tryz.prog 72 [PV.aL p] (· = .bool true))(hd:jz p<=2)(hn:(aF p).length<=40)
  (hF:Qd Tryz.prog 29 [PV.fK (aF p),PV.a9 (aF p).length (aF p).length (eR p (aF p))] (· = .aH [PV.cY L,.int .i64 e]))
  (hN:e=17->L=[]/\Qd Tryz.prog 75 [PV.aL p,PV.fK (aF p),PV.a9 (aF p).length (aF p).length (eR p (aF p))] (· =PV.bj w)) (hw:e≠17->w=[]):
  Qd Tryz.prog 22 [PV.aL p] (· = .aH [PV.cY L,PV.bj w,.int .i64 e]):=by
 have vM:=KE hb Oz Oz;have rQ:=RJ (fun t ht=>(hb t ht).m) (show p.length<=2^36 by omega);have EF:=alq (bs:=aF p) (F:=1) hb (fun b h=>(l8 b h).1) Oz hE cW Oz hK zb;generalize aF p=bs at *
 generalize eR p bs=la at *
 refine aE Qg Tryz.func22 FN fun C hP=>?_;refine Sz0 ?_;refine Qb hP hr ?_;refine Sz0 ?_;refine Qb hP vM ?_;refine Sz0 ?_;refine Qa (fun h0=>absurd h0 Oz) (fun _=>?_);refine Sz0 ?_;refine Qb hP rQ ?_;refine Sz0 ?_;refine Qa (fun h0=>absurd h0 Oz) (fun _=>?_);refine Sz0 ?_;refine Qb hP EF ?_;refine Sz0 ?_;refine Qb hP hF ?_;refine Sz0 ?_;refine Qa (fun h0=>?_) (fun h0=>?_)
 ·obtain⟨rfl,xv⟩:=hN h0;subst h0;refine Sz0 ?_;refine Qb hP xv ?_;refine Sz0 ?_;exact jy (r:=.aH [PV.cY [],PV.bj w,.int .i64 17]) rfl rfl rfl rfl tL (Ql _) (Ql _)
 ·obtain rfl:=hw h0;refine Sz0 ?_;exact jy (r:=.aH [PV.cY L,PV.bj [],.int .i64 e]) rfl rfl rfl rfl (Ql _) trivial (Ql _)
theorem DF(a b:List Int):me 0 a b=bm a b:=by unfold me;rw[if_neg (by simp)]
end Go.Proofs.YtkoclfmjlolkhaaGreat
namespace Go.FW
open Go
def pbB(K E:Nat)(p:List Tm):Bool:=p.all fun t=>decide (rs t.1+1<=K)&&(decide (t.2.length<=64)&&((t.2.all fun x=>decide (0<=x)&&decide (x<=E))&&decide (t.2.getLast? ≠some 0)))
theorem yO{K E:Nat}{p:List Tm}(h:pbB K E p=true):PB K E p:=fun t ht=>by have:=Kax.1 h t ht;simp only[KaC,decide_eq_true_eq,Kax]at this;obtain⟨h1,h2,h3,h4⟩:=this;exact⟨h1,⟨h2,fun x hx=>(h3 x hx).1,fun x hx=>(h3 x hx).2⟩,h4⟩
def F7:List Tm->Bool
 | []=>true
 |t::p=>(p.all fun s=>decide (0<bm t.2 s.2))&&F7 p
theorem SL:∀ {p:List Tm},F7 p=true->kL p
 | [],_=>trivial
 |t::p,h=>by simp only[F7,KaC,Kax,decide_eq_true_eq]at h;exact⟨h.1,SL h.2⟩
def ZU(p:List Tm):Bool:=(p.all fun t=>decide (t.1≠0)&&decide (t.2.getLast? ≠some 0))&&F7 p
theorem FO{p:List Tm}(h:ZU p=true):bB p:=by simp only[ZU,KaC,Kax,decide_eq_true_eq]at h;exact⟨fun t ht=>(h.1 t ht).2,fun t ht=>(h.1 t ht).1,SL h.2⟩
end Go.FW
