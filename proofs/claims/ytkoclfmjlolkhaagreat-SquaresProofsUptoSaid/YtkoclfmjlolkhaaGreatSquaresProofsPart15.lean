/- Part 15 of the proof of SquaresProofs: B20, B21, Q10, Q11, W7, W8, FwUG. Own lemmas; no conditions. -/
import Derived.Test.YtkoclfmjlolkhaaGreatSquaresProofsPart14
set_option maxHeartbeats 1000000
set_option linter.unusedSimpArgs false
set_option linter.unusedVariables false
set_option linter.unnecessarySimpa false
set_option maxRecDepth 100000
namespace Go.Proofs.YtkoclfmjlolkhaaGreat
open Go Go.FW
theorem XX{n:Nat}(hn:n<=2^30):jC Tryz.prog 56 [.int .i64 (n:Nat)] (fun _=> .undef) aA (fun r _ H=>r= .ms 2000000 n/\H 2000000=some ⟨3,51,Qo PV.rat (fun _=>(0:Rat)) n,false⟩):=by
 refine tr Qg Tryz.func56 rfl (Qy5 P4) Nz fun C hP=> ?_;simp only[TG];refine ic ?_
 refine Sz0 ?_
 refine Ql okB [(4,4),(9,16)] [] (fun q J hp=>∃i xs,q=n-i/\i<=n/\J 9= .int .i64 (i:Nat)/\xs.length=n/\hp 6=some ⟨3,51,xs,false⟩/\hp 2000000=none/\∀j,j<i->xs[j]? =some (PV.rat 0)) n ?_ ?_
 ·refine⟨0,List.replicate n (.agg [.bool false,.al,.al]),rfl,by omega,?_⟩
  refine Sz0 ?_
  exact⟨rfl,by simp,fun j hj=>by omega⟩
 rintro _ J h ⟨i,xs,rfl,hi,h9,hl,h6,hN,hx⟩
 refine Sz1 h9 ?_
 refine Qa (fun hg=> ?_) (fun hg=> ?_)
 ·have ao:i<n:=by omega
  refine Sz1 h9 ?_
  refine Qb hP (oW (x:=0) Oz Oz) ?_
  rw[show((0:Int):Rat)=0 from rfl]
  generalize(0:Rat)=z at *
  refine Sz2 h9 h6 ?_
  rw[wQ (n:=3) (xs:=xs) (v:=PV.rat z) Oz rfl rfl]
  refine Sz1 h9 ?_
  refine Qf (n-(i+1)) Oz ⟨i+1,xs.set i (PV.rat z),rfl,by omega,?_⟩
  refine Sz1 @hN ?_
  refine⟨by simp[hl],fun j hj=> ?_⟩
  rw[KcT]
  by_cases e:i=j
  ·rw[if_pos e,if_pos Oz]
  ·rw[if_neg e];exact hx j Oz
 ·obtain rfl:i=n:=by omega
  have e:xs=Qo PV.rat (fun _=>(0:Rat)) i:=by
   refine Kbg (by simp[Qo,hl]) fun j h1 h2=> ?_
   have:=hx j Oz
   rw[Kag h1]at this
   rw[pN];exact KbI this
  refine Sz2 h9 h6 ?_
  refine afm (qG 6 2000000 (Tz1 @hN) Oz rfl Oz) ?_
  refine Ng ?_
  exact Tz2 h6 e
theorem akB{R:Nat}:∀x,jv R x=true->2000000<=x:=fun x hx=>by
 rcases vq hx with rfl|h<;>omega
def Tw:ay:=⟨96,[.t 4,.t 5],Zr (jE 2 24 0<|
 ia 4 0)<| .seq (Zr (dG 13 3 2 52<|
 Zu 15 14<|
 Yu 16 15 1<|
 vG 16 53<|
 vH 16)<| .cond (.t 20) (Zr (ia 4 1) .ret) .skip)<| .seq (Zr (Yo 21 1<|
 Yf 23 0 2<|
 Zb 25 .neq 22 24 .nil)<| .cond (.t 25) (Zr (ia 4 16) .ret) .skip)<|Zr (dG 26 3 2 54<|
 Yc 6 27)<| .seq (Zr (YP 28 6)<| .block 0<| .loop<|Zr (Ys 31 30 29)<| .seq (.cond (.t 31) .skip (.exit 0))<| .seq (.block 1<|Zr (YW 32 30 7)<| .rg (Ye 33 6 7<|
 Yn 35 6 7<|
 ky 39 1 7 3<|
 Zo (.bs 43 3 51 [.t 42])<|
 Zo (.app 44 3 56 51 (.t 38) (.t 43))<|
 Zi 45 1 33 34<|
 gK 1 45 44))<| .rg (Yw 46 30 30))<|Zr (Zm 47 6<|
 Yf 48 1 2<|
 Zq 50 false 55 [.t 47,.t 49]<|
 Zo (.alloc 8 5 87 (.agg [.al,.al,.bool false,.al,.al]))<|
 Zs 5 8 50 .nil)<| .seq (Zr (Yf 51 1 8<|
 Zn 53 52<|
 Yc 9 53)<| .block 2<| .loop<| .seq (Zr (Zm 54 9<|
 Yf 55 0 2<|
 Ys 57 54 56)<| .cond (.t 57) .skip (.exit 2))<| .seq (.block 3<|Zr (Yf 60 0 8<|
 Zm 62 9<|
 YM 63 61 62<|
 Yf 65 1 2<|
 YI 67 3 64 66<|
 Yk 69 38 68<|
 hO 70 69)<| .cond (.t 70) (Zr (ia 4 13) .ret) .skip)<| .rg (gh 58 9 9))<|Zr (Yf 71 1 2<|
 Yk 73 56 72<|
 .wk<|Yc 10 73)<| .seq (Zr (Yf 74 1 8<|
 Zn 76 75<|
 Yl 77 0)<| .block 4<| .loop<|Zr (Ys 78 77 76)<| .seq (.cond (.t 78) .skip (.exit 4))<| .seq (.block 5<|Zr (ra 79 77 75 11)<| .rg (Ye 82 10 12<|
 Yf 84 0 8<|
 Zm 86 11<|
 YM 87 85 86<|
 Yf 89 1 2<|
 YI 91 3 88 90<|
 Zi 93 3 82 83<|
 gK 3 93 92))<| .rg (Yw 94 77 77))<|Zr (Zm 95 10<|
 Zm 4 95<|
 Yl 5 0) .ret⟩
theorem aj5:Qe Tryz.prog Tryz.f13=some Tw.strip:=by kernel_rfl
def cy(M:MF)(x:Nat->Rat)(m:Nat):MF:=fun r c=>if c=m then x r else M r c
def mT(E:MF)(ax:List Nat)(m:Nat):Nat->(Nat->Rat)
 |0=>fun _=>0
 |j+1=>fun c=>if c=ax.getD j 0 then E j m else mT E ax m j c
def yC(E:ox)(R m:Nat):PV:=if(∀r,r<R->E.ax.length<=r->E.M r m=0)then .aI [.sl 3 (Qo PV.rat (mT E.M E.ax m E.ax.length) m),.int .i64 0]else .aI [PV.bU [],.int .i64 13]
theorem ahs{M:MF}{x:Nat->Rat}{m r:Nat}:Qo PV.rat (M r) m++[PV.rat (x r)]=Qo PV.rat (cy M x m r) (m+1):=by
 refine Kbg (by simp[Qo]) fun j h1 h2=> ?_
 have hj:j<m+1:=by simpa[Qo]using h2
 rw[pN]
 unfold cy
 by_cases e:j=m
 ·subst e;rw[if_pos rfl,Kcc (by simp[Qo])];simp
 ·rw[if_neg e,KbC (by simp[Qo];omega),pN]
theorem aht{γ i ty m B n:Nat}{L:Nat->Nat}{e0 ty0:Nat}{xs0:List PV}{fr:Fr}{hp:HP}{K:Qh}(h:i<n):
  wE (.aF γ 1 ty ((Qy (rws B n L)).set i .undef)) (some ⟨e0,ty0,xs0,false⟩) (some [.ms (B+i) m]) γ 1 i 0 fr hp K=K (ae (gU γ fr) γ (.aF γ 1 ty (Qy (rws B n fun j=>if j=i then m else L j)))) hp:=by
 have hl:i<((Qy (rws B n L)).set i .undef).length:=by simpa[Qy,rws]using h
 simp only[wE,hl,exists_true_left,true_and,Kaf,Kbb,KaC,exists_eq_left',KaP,Kbn]
 rw[<-aeE (L:=L) (L':=fun j=>if j=i then m else L j) fun j _=>rfl]
 simp[fA,oP,Qy,PV.aU,PV.cells,List.map_set]
theorem OQ{R m K:Nat}{l b:List Rat}(hl:l.length=R*m)(dx:b.length=R)(hR:0<R)(df:R<=40)(hm:m<=39)(hs:∀q∈l,rs q<=1048576)(GK:∀q∈b,rs q<=1048576)(hK:K<=2^20)(hB:xt K R (m+1) m (cy (Qu l m) (kk b) m)):
  Qd Tryz.prog 13 [PV.bO R m l,PV.bU b] (· =yC (Qt R (cy (Qu l m) (kk b) m) m) R m):=by
 have Kp:=kR R (cy (Qu l m) (kk b) m) m
 have Ko:=(hB m (Kaf _)).1
 have c1:=Ec hl df (show m<=40 by omega) hs
 have ph:∀(hp:HP),(∀x,5<=x->hp x=none)->∀x,jv R x=true->hp x=none:=fun hp h x hx=>h x (by have:=vq hx;omega)
 obtain⟨X,hX⟩:∃X,kk b=X:=⟨_,rfl⟩
 have Lh:PV.bU b= .sl 3 (Qo PV.rat X R):=by rw[PV.bU,<-hX,<-dx,acm]
 have gm:Qd Tryz.prog 53 [.sl 3 (Qo PV.rat X R)] (· = .bool true):=by
  have:=Ml (l:=b.map qR) (N8 Oz (k:=1048576) Oz GK)
  rw[<-PX,Lh]at this
  have e:(b.map qR).all mQ=true:=by
   rw[Kas]
   intro y hy
   obtain⟨q,_,rfl⟩:=Kau.1 hy
   exact ET q
  rw[e]at this;exact this
 rw[hX]at Kp Ko hB⊢
 rw[Lh]
 have dh:(Qo PV.rat X R).length=R:=fW _ _ _
 refine rX Qg Tryz.func13 rfl aj5 Nz fun C hP=> ?_;simp only[Tw];refine ic ?_
 refine Sz0 ?_
 refine Qb hP c1 ?_
 refine Sz0 ?_
 refine Qb hP gm ?_
 refine Sz1 dh ?_
 refine Mn hP hl hR df Oz Oz (ph _ (fun x hx=>by simp+decide (disch:=try exact D1 (show ¬x=2 from by omega)) only[go_sem,show ¬x=2 from by omega]<;>rfl)) ?_
 refine Sz3 @tG @tL @wV ?_
 refine iz okB [(6,7),(30,46),(2000000,2000000)] [43,44] (fun q J hp=>∃i,q=R-i/\i<=R/\J 6= .aG 2000000 0 R/\J 30= .int .i64 (i:Nat)/\J 2000000= .aF 2000000 1 22 (Qy (rws 3000000 R fun r=>if r<i then m+1 else m))/\hp 2=some ⟨3,24,[PV.bO R m l],false⟩/\hp 2000000=some ⟨1,22,[],false⟩/\
   (∀r,r<i->hp (3000000+r)=some ⟨3,51,Qo PV.rat (cy (Qu l m) X m r) (m+1),false⟩)/\∀r,i<=r->r<R->hp (3000000+r)=some ⟨3,51,Qo PV.rat (Qu l m r) m,false⟩) R ?_ ?_
 ·refine⟨0,rfl,by omega,?_⟩
  refine Sz4 @tG @tL @wV @JE ?_
  refine⟨rfl,?_,(fun r hr=>by omega),fun r _ hr=>by simp+decide (disch:=first|omega|rfl|(simp+decide only[go_sem,AM]<;>rfl)|fail) only[go_sem,AM]⟩
  rw[<-HJ]
  have:(fun r=>if r<0 then m+1 else m)=fun _=>m:=by funext r;rw[if_neg Oz]
  rw[this]
 rintro _ J h ⟨i,rfl,hi,h6,jm,hg,h2,hh,qp,jt⟩
 refine Sz2 h6 jm ?_
 refine Qa (fun hc=> ?_) (fun hc=> ?_)
 ·have ao:i<R:=by omega
  have rB:=fun(K:Qh) (fr:Fr) (hp:HP) d (h:fr 2000000= .aF 2000000 1 22 (Qy (rws 3000000 R fun r=>if r<i then m+1 else m)))=>ajc (K:=K) (d:=d) (hp:=hp) h ao
  have er:=jt i (Kaf _) ao
  have hii:(if i<i then m+1 else m)=m:=if_neg Oz
  refine Sz6 h6 jm hg hh rB hii ?_
  rw[Oy (xs:=Qo PV.rat (Qu l m i) m) (y:=PV.rat (X i)) (ty':=51) (fz:=false) (Tz1 er) Tz0 Oz (fW _ _ _).symm Oz Oz Oz]
  have aW:=abi (γ:=2000000) (e:=1) (ty:=22) (L:=fun r=>if r<i then m+1 else m) (B:=3000000) ao Oz
  rw[ahs]
  refine Sz5 h6 jm hg hh aW ?_
  have hL:(fun j=>if j=i then m+1 else if j<i then m+1 else m)=fun r=>if r<i+1 then m+1 else m:=by
   funext r
   by_cases e:r=i
   ·rw[if_pos e,if_pos Oz]
   ·rw[if_neg e]
    by_cases e2:r<i
    ·rw[if_pos e2,if_pos Oz]
    ·rw[if_neg e2,if_neg Oz]
  rw[aht ao,hL]
  refine Sz2 h6 jm ?_
  refine fG (R-(i+1)) Oz ⟨i+1,rfl,by omega,?_⟩
  refine Sz3 h6 h2 hh ?_
  refine⟨fun r hr=> ?_,fun r hr pq=> ?_⟩
  ·by_cases e:r=i
   ·subst e;rw[if_pos rfl]
   ·rw[if_neg e];exact qp r Oz
  ·rw[if_neg Oz];exact jt r Oz pq
 obtain rfl:R=i:=by omega
 have hW:Qy (rws 3000000 R fun r=>if r<R then m+1 else m)=Qy (bW 3000000 R (m+1) id):=by
  rw[<-HJ]
  refine congrArg Qy (Kbg (by simp[rws]) fun j h1 h2=> ?_)
  have hj:j<R:=by simpa[rws]using h1
  rw[tC,tC,if_pos hj]
 rw[hW]at hg
 refine Sz3 h6 h2 jm ?_
 refine Xq (K:=K) (M:=cy (Qu l m) X m) (ty:=22) (tyr:=51) hP hR df (show m+1<=40 by omega) (show m<=m+1 by omega) hK hB (Tz1 hg) (Tz1 hh) qp ?_
 obtain⟨E,hE⟩:∃E,Qt R (cy (Qu l m) X m) m=E:=⟨_,rfl⟩
 rw[hE]at Kp Ko⊢
 have hEl:xm E.M R (m+1)=Qo (PV.gS (m+1)) E.M R:=rfl
 rw[adL,adM akB]
 refine Sz4 @hEl h2 @tG @tL ?_
 have hE8:∀r,r=R->PV.zS r (m+1) E= .agg [.sl 1 (Qo (PV.gS (m+1)) E.M R),.sl 1 (vB E.ax),.bool (decide (E.cr.num<0)),PV.num E.cr.num.natAbs,PV.num E.cr.den]:=fun r h=>by subst h;rfl
 refine iz okB [(4,5),(9,9),(54,70)] [] (fun q J hp=>∃r,q=R-r/\E.ax.length<=r/\r<=R/\(∀j,E.ax.length<=j->j<r->E.M j m=0)/\J 9= .int .i64 (r:Nat)/\hp 2=some ⟨3,24,[PV.bO R m l],false⟩/\hp 8=some ⟨5,87,[.agg [.sl 1 (Qo (PV.gS (m+1)) E.M R),.sl 1 (vB E.ax),.bool (decide (E.cr.num<0)),PV.num E.cr.num.natAbs,PV.num E.cr.den]],false⟩/\hp 2000000=none) (R-E.ax.length) ?_ ?_
 ·refine⟨E.ax.length,rfl,Kaf _,by omega,fun j h1 h2=>by omega,?_⟩
  exact Tz4 h2 @hE8 @tG @tL
 rintro _ J2 cc ⟨r,rfl,hr,GH,hz,i9,i2,i8,iN⟩
 refine Sz2 i9 i2 ?_
 refine Qa (fun ie=> ?_) (fun ie=> ?_)
 ·have cQ:r<R:=by omega
  refine Sz3 i9 i2 i8 ?_
  have hb1:=Ko r cQ m Oz
  refine Qb hP (mH (a:=E.M r m) Oz) ?_
  refine Sz1 i9 ?_
  refine Qa (fun hq=> ?_) (fun hq=> ?_)
  ·have gu:¬E.M r m=0:=fun e=>hq (dz.2 e)
   have gy:yC E R m= .aI [PV.bU [],.int .i64 13]:=if_neg fun h=>gu (h r cQ hr)
   refine Sz0 ?_
   refine tp (nH ?_)
   refine Sz1 gy ?_
   exact gI rfl rfl rfl (show PV.le .al (.sl 3 [])from trivial) (Qn _)
  ·have gu:E.M r m=0:=Decidable.byContradiction fun e=>hq fun h=>e (dz.1 h)
   refine Sz1 i9 ?_
   refine fG (R-(r+1)) Oz ⟨r+1,rfl,by omega,by omega,fun j h1 h2=> ?_,?_⟩
   ·by_cases e:j=r
    ·rw[e];exact gu
    ·exact hz j h1 Oz
   exact Tz3 i2 i8 @iN
 ·obtain rfl:R=r:=by omega
  refine Sz1 i2 ?_
  refine ahK hP (XX (n:=m) Oz) iN (by intro x hx γ e ty xs;rw[KaB.1 hx];intro h;cases h) rfl (by simp) ?_
  refine Sz0 ?_
  refine et (Wk.refl _ _) ?_
  refine Sz1 i8 ?_
  refine iz okB [(10,12),(77,94)] [] (fun q J hp=>∃j,q=E.ax.length-j/\j<=E.ax.length/\J 10= .aB 2000000 0 m/\J 77= .int .i64 (j:Nat)/\hp 2=some ⟨3,24,[PV.bO R m l],false⟩/\hp 8=some ⟨5,87,[.agg [.sl 1 (Qo (PV.gS (m+1)) E.M R),.sl 1 (vB E.ax),.bool (decide (E.cr.num<0)),PV.num E.cr.num.natAbs,PV.num E.cr.den]],false⟩/\hp 2000000=some ⟨3,51,Qo PV.rat (mT E.M E.ax m j) m,false⟩) E.ax.length ?_ ?_
  ·refine⟨0,rfl,by omega,?_⟩
   have e0:(fun _=>(0:Rat))=mT E.M E.ax m 0:=rfl
   refine Sz3 i2 i8 e0 ?_
   rfl
  rintro _ J3 rE ⟨j,rfl,hj,qv,GX,k2,k8,kx⟩
  refine Sz1 GX ?_
  refine Qa (fun hc3=> ?_) (fun hc3=> ?_)
  ·have dw:j<E.ax.length:=by omega
   have hRj:j<R:=by omega
   have yb:E.ax[j]<m:=Kp.2.2 _ (Kai dw)
   simp+decide (disch:=try exact D5 qv GX k2 k8 kx) only[go_sem,qv,GX,k2,k8,kx]
   rw[Fp (v:=E.M j m) yb]
   have e1:(fun c=>if c=E.ax[j]then E.M j m else mT E.M E.ax m j c)=mT E.M E.ax m (j+1):=by
    funext c
    show _=if c=E.ax.getD j 0 then _ else _
    rw[Kad,Kag dw,Kbe]
   refine Sz1 GX ?_
   refine fG (E.ax.length-(j+1)) Oz ⟨j+1,rfl,by omega,?_⟩
   exact Tz4 qv k2 k8 e1
  ·obtain rfl:j=E.ax.length:=by omega
   refine Sz1 qv ?_
   refine tp (nH ?_)
   refine Sz1 kx ?_
   have fD:aO rE (.aB 2000000 0 m)= .sl 3 (Qo PV.rat (mT E.M E.ax m E.ax.length) m):=by
    simp only[aO,cN,kx]
    rw[if_neg (by decide),Ka6,Kac (by rw[fW];omega)]
   have gy:yC E R m= .aI [.sl 3 (Qo PV.rat (mT E.M E.ax m E.ax.length) m),.int .i64 0]:=if_pos fun r h1 h2=>hz r h2 h1
   rw[fD,gy]
   exact gI rfl rfl rfl (Qn _) (Qn _)
def c75:ay:=⟨68,[.t 6],Zr (Zo (.box 5 3 24 (.t 2))<|
 YE 6)<|Zr (dG 19 3 5 48<|
 Zm 18 20<|
 lU 21 18<|
 qd 8<|
 Zm 7 21<|
 Zs 3 8 22<|
 Yc 9 23)<|Zr (Yl 10 0)<| .seq (.block 0<| .loop<| .seq (Zr (ky 24 7 10 3<|
 Zq 28 false 38 [.t 27]<|
 Zk 29 .geq 28 0 .nil)<| .cond (.t 29) .skip (.exit 0))<| .block 1<| .rg (gh 30 10 10))<|Zr (Zh 32 3 8<|
 Zm 33 10<|
 Ym 34 138 32 33<|
 Yc 11 34)<|Zr (Ye 35 11 11<|
 Zn 37 36<|
 Zk 38 .sub 37 1<|
 YI 39 3 35 38<|
 lR 12 40)<| .seq (Zr (dG 41 3 12 38<|
 jG 43 42 0)<| .cond (.t 43) (Zr (YX 44 0 1 11<|
 Zq 47 false 139 [.t 44,.t 45,.t 46]<|
 Yc 6 47) .ret) .skip)<|Zr (YE 13)<| .seq (Zr (YP 48 11)<| .block 2<| .loop<|Zr (Ys 51 50 49)<| .seq (.cond (.t 51) .skip (.exit 2))<| .seq (.block 3<|Zr (YI 52 3 48 50<|
 lR 15 53)<|Zr (nV 55 3 15 12 123<|
 Zm 54 57<|
 mY 58 54 16 17)<| .rg (Zm 60 13<|
 Zh 61 3 16<|
 Yv 62 3 51 61 56 60 13))<| .rg (Yw 64 50 50))<|Zr (YL 65 1 13 140<|
 Yc 6 67) .ret⟩
theorem aj6:Qe Tryz.prog Tryz.f75=some c75:=by kernel_rfl
def nN(n a:Nat):List Rat:=(List.range n).map fun k=>if k=a then 1 else 0
theorem aaF{n a:Nat}:nN (n+1) a=nN n a++[if n=a then 1 else 0]:=by
 unfold nN;rw[Kc3,Kbo];rfl
theorem I2(n a:Nat):(nN n a).length=n:=by simp[nN]
theorem Ob{R n a:Nat}{L x:List Rat}{e:Int}(hn:n<=2^30)(hs:Qd Tryz.prog 13 [PV.bO n R L,PV.bU (nN n a)] (· = .aI [PV.bU x,.int .i64 e])):Qd Tryz.prog 138 [PV.bO n R L,.int .i64 (a:Nat)] (· =PV.bU x):=by
 have wh:=oW (x:=1) Oz Oz
 have ya:=oW (x:=0) Oz Oz
 rw[show((1:Int):Rat)=1 from rfl]at wh
 rw[show((0:Int):Rat)=0 from rfl]at ya
 refine aE Qg Tryz.func138 ahZ fun C hP=> ?_
 refine Sz0 ?_
 refine iL 5 900 3 51 Oz Tz0 ?_
 refine Ql okB [(5,6),(11,25)] [19,20,23,24,900] (fun q J hp=>∃i,q=n-i/\i<=n/\J 5= .ms 900 i/\J 11= .int .i64 (i:Nat)/\hp 2=some ⟨3,24,[PV.bO n R L],false⟩/\hp 900=some ⟨3,51,(nN i a).map PV.rat,false⟩) n ?_ ?_
 ·refine⟨0,rfl,by omega,?_⟩
  refine Sz0 ?_
  exact⟨rfl,rfl⟩
 rintro _ J h' ⟨i,rfl,hi,j5,GV,b2,b9⟩
 refine Sz1 GV ?_
 refine Qa (fun hg=> ?_) (fun hg=> ?_)
 ·have ao:i<n:=by omega
  have sT:=aaF (n:=i) (a:=a)
  have yh:=I2 i a
  generalize nN i a=T at *
  refine Sz1 GV ?_
  refine Qa (fun h0=> ?_) (fun h0=> ?_)
  ·rw[if_pos Oz]at sT
   refine Sz2 j5 b9 ?_
   refine Qb hP wh ?_
   generalize(1:Rat)=z at *
   refine Sz2 j5 b9 ?_
   rw[Qq (f:=PV.rat) (y:=z) (xs:=T) (ty':=51) (fz:=false) (Tz1 b9) cP Oz yh.symm Oz Oz]
   refine Sz1 GV ?_
   refine Qf (n-(i+1)) Oz ⟨i+1,rfl,by omega,?_⟩
   rw[sT]
   exact Tz1 b2
  ·rw[if_neg Oz]at sT
   refine Sz2 j5 b9 ?_
   refine Qb hP ya ?_
   generalize(0:Rat)=z at *
   refine Sz2 j5 b9 ?_
   rw[Qq (f:=PV.rat) (y:=z) (xs:=T) (ty':=51) (fz:=false) (Tz1 b9) cP Oz yh.symm Oz Oz]
   refine Sz1 GV ?_
   refine Qf (n-(i+1)) Oz ⟨i+1,rfl,by omega,?_⟩
   rw[sT]
   exact Tz1 b2
 ·obtain rfl:i=n:=by omega
  have yh:=I2 i a
  generalize nN i a=T at *
  have fD:List.take i (T.map PV.rat)=T.map PV.rat:=Kac (by rw[Kap];omega)
  refine Sz3 j5 b2 b9 ?_
  refine kS hP hs (FM fD b9) rfl ?_
  refine gJ ?_
  exact Qc rfl rfl
def dd(bs:List (List Int))(x:List Rat):Nat->List Rat
 |0=>[]
 |i+1=>dd bs x i++List.replicate ((bs.getD i []).length-1-(dd bs x i).length) 0++[x.getD i 0]
theorem EZ{bs:List (List Int)}{x:List Rat}{m:Nat}(hb:∀b∈bs,b.length<=m):∀i,(dd bs x i).length<=m+i
 |0=>by simp[dd]
 | i+1=>by
  have ih:=EZ (x:=x) hb i
  have h1:(bs.getD i []).length<=m:=by
   rw[Kad]
   cases h:bs[i]? with
   |none=>simp
   |some b=>simp;exact hb b (Kaj h)
  simp only[dd,Kax,List.length_replicate,KcQ]
  omega
theorem I3{bs:List (List Int)}{x:List Rat}(sH:1<=bs.length)(ar9:bs.length<=2^20)(hb:∀b∈bs,b.length<=2^20)(hx:bs.length<=x.length+1)(dN:x.length<=2^20):Qd Tryz.prog 140 [PV.gR bs,PV.bU x] (· =PV.bU (dd bs x (bs.length-1))):=by
 have ya:=oW (x:=0) Oz Oz
 rw[show((0:Int):Rat)=0 from rfl]at ya
 have bb:=fun i=>EZ (x:=x) hb i
 refine aE Qg Tryz.func140 ahY fun C hP=> ?_
 refine Sz0 ?_
 refine iL 5 900 3 51 Oz Tz0 ?_
 refine Ql okB [(5,6),(10,33)] [24,25,31,32,900] (fun q J hp=>∃i,q=bs.length-1-i/\i<=bs.length-1/\J 5= .ms 900 (dd bs x i).length/\J 10= .int .i64 (i:Nat)/\hp 900=some ⟨3,51,(dd bs x i).map PV.rat,false⟩) (bs.length-1) ?_ ?_
 ·refine⟨0,rfl,by omega,?_⟩
  refine Sz0 ?_
  exact⟨rfl,rfl,rfl⟩
 rintro _ J h' ⟨i,rfl,hi,j5,lE,b9⟩
 refine Sz1 lE ?_
 refine Qa (fun hg=> ?_) (fun hg=> ?_)
 ·have ao:i<bs.length:=by omega
  have hix:i<x.length:=by omega
  have UB:=hb _ (Kai ao)
  have bA:dd bs x (i+1)=dd bs x i++List.replicate (bs[i].length-1-(dd bs x i).length) 0++[x[i]]:=by
   have e1:bs.getD i []=bs[i]:=by simp[ao]
   have e2:x.getD i 0=x[i]:=by simp[hix]
   rw[dd,e1,e2]
  have xT:=bb i
  generalize hy:bs[i]=b at *
  generalize hz:x[i]=z at *
  generalize dd bs x i=T at *
  refine Sz2 lE j5 ?_
  refine Ql okB [(5,5),(13,25)] [24,25,900] (fun q J hp=>∃k,q=b.length-1-T.length-k/\k<=b.length-1-T.length/\J 5= .ms 900 (T.length+k)/\hp 900=some ⟨3,51,(T++List.replicate k 0).map PV.rat,false⟩) (b.length-1-T.length) ?_ ?_
  ·refine⟨0,rfl,by omega,?_⟩
   refine Sz2 j5 b9 ?_
   simp
  rintro _ J2 h2 ⟨k,rfl,hk,g5,g9⟩
  refine Sz2 g5 hy ?_
  refine Qa (fun eZ=> ?_) (fun eZ=> ?_)
  ·have nZ:(T++List.replicate k (0:Rat)).length=T.length+k:=by simp
   have hre:T++List.replicate (k+1) (0:Rat)=(T++List.replicate k 0)++[0]:=by rw[List.replicate_succ',Kbs]
   generalize T++List.replicate k (0:Rat)=U at *
   refine Sz2 g5 g9 ?_
   refine Qb hP ya ?_
   generalize(0:Rat)=o at *
   refine Sz2 g5 g9 ?_
   rw[Qq (f:=PV.rat) (y:=o) (xs:=U) (ty':=51) (fz:=false) (Tz1 g9) cP Oz nZ.symm Oz Oz]
   refine Sz0 ?_
   refine Qf (b.length-1-T.length-(k+1)) Oz ⟨k+1,rfl,by omega,?_⟩
   rw[hre]
   refine Sz0 ?_
   rfl
  ·have ry:k=b.length-1-T.length:=by omega
   have nZ:(T++List.replicate k (0:Rat)).length=T.length+k:=by simp
   rw[<-ry]at bA
   generalize T++List.replicate k (0:Rat)=U at *
   simp (disch:=decide) only[fX,eP,H7]
   refine Sz4 g5 g9 lE hz ?_
   rw[Qq (f:=PV.rat) (y:=z) (xs:=U) (ty':=51) (fz:=false) (Tz1 g9) cP Oz nZ.symm Oz Oz]
   refine Sz1 lE ?_
   refine Qf (bs.length-1-(i+1)) Oz ⟨i+1,rfl,by omega,?_⟩
   rw[bA]
   refine Sz0 ?_
   simp[nZ]
 ·obtain rfl:i=bs.length-1:=by omega
  have fD:List.take (dd bs x (bs.length-1)).length ((dd bs x (bs.length-1)).map PV.rat)=(dd bs x (bs.length-1)).map PV.rat:=Kac (by simp)
  refine xu j5 b9 fD ?_
  exact Qc rfl rfl
def c22:ay:=⟨35,[.t 2,.t 3,.t 4],Zr (Yi 2<|
 ia 3 0)<| .seq (Zr (Yz 7 0 72<|
 Zu 9 8 .nil)<| .cond (.t 9) (Zr (Yi 2<|
 ia 3 1) .ret) .skip)<| .seq (Zr (Yz 10 0 43<|
 Zk 12 .gtr 11 2 .nil)<| .cond (.t 12) (Zr (Yi 2<|
 ia 3 8) .ret) .skip)<|Zr (Yz 13 0 73<|
 Zm 5 14 .nil)<| .seq (Zr (Yo 15 5<|
 Zk 17 .gtr 16 40 .nil)<| .cond (.t 17) (Zr (Yi 2<|
 ia 3 4) .ret) .skip)<|Zr (YL 18 0 5 74<|
 qd 6<|
 Zs 3 6 20 .nil)<|Zr (Zm 22 5<|
 Zh 23 3 6<|
 Zq 24 false 29 [.t 22,.t 23]<|
 Zm 21 24<|
 Yd 25 21<|
 Zm 2 25<|
 Yc 4 26)<| .seq (Zr (Zm 27 4<|
 jG 28 27 17)<| .cond (.t 28) (Zr (Ye 29 0 5<|
 Zh 31 3 6<|
 Zq 32 false 75 [.t 29,.t 30,.t 31]<|
 Yi 2<|
 Zm 3 32<|
 Yl 4 17) .ret) .skip)<|Zr (Ye 33 2 4<|
 Zm 2 33<|
 Yi 3<|
 Yc 4 34) .ret⟩
theorem QA:Qe Tryz.prog Tryz.f22=some c22:=by kernel_rfl
theorem R5{p:List Tm}{bs:List (List Int)}{R n a m:Nat}{la W L x w:List Rat}{c:Rat}(uw:Qd Tryz.prog 48 [PV.bO R R la] (· = .aI [PV.bU W,PV.bO n R L,.int .i64 0]))(ha:a<W.length)(Ur:W.length<=1000)(hW:∀q∈W,rs q<2^36)(h1:∀j (h:j<W.length),j<a->0<=W[j])(h2:W[a]<0)
  (Le:Qd Tryz.prog 138 [PV.bO n R L,.int .i64 (a:Nat)] (· =PV.bU x)) (dN:x.length=m+1) (hm:m<=1000) (GU:∀q∈x,rs q<2^30) (hc:x[m]'Oz=c) (hfa:c=0->Qd Tryz.prog 139 [PV.aM p,PV.gR bs,PV.bU x] (· =PV.bU w)) (eD:c≠0->Qd Tryz.prog 140 [PV.gR bs,PV.bU (x.map (· /c))] (· =PV.bU w)):
  Qd Tryz.prog 75 [PV.aM p,PV.gR bs,PV.bO R R la] (· =PV.bU w):=by
 have qh:rs c<2^30:=by rw[<-hc];exact GU _ (Kai _)
 have hsc:=mH (a:=c) Oz
 have dV:= @dz c
 refine aE Qg Tryz.func75 aj6 fun C hP=> ?_
 refine Sz0 ?_
 refine Qb hP uw ?_
 refine Sz0 ?_
 refine Ql okB [(10,10),(24,31)] [] (fun q J hp=>∃i,q=a-i/\i<=a/\J 10= .int .i64 (i:Nat)/\hp 8=some ⟨3,24,[PV.bO n R L],false⟩) a ?_ ?_
 ·refine⟨0,rfl,by omega,?_⟩
  refine Sz0 ?_
  rfl
 rintro _ J h' ⟨i,rfl,hi,lE,b8⟩
 have UM:i<W.length:=by omega
 have GP:=hW _ (Kai UM)
 have wv:=mH (a:=W[i]) GP
 have fD:= @yZ W[i]
 by_cases hia:i=a
 ·subst hia
  have asG:=fD.2 h2
  generalize hy:W[i]=y at *
  refine Sz2 lE hy ?_
  refine Qb hP wv ?_
  refine Sz0 ?_
  refine Qa (fun h0=>absurd h0 Oz) (fun _=> ?_)
  refine Sz2 lE b8 ?_
  refine Qb hP Le ?_
  have CH:(x.length:Int)-1=((m:Nat):Int):=by omega
  refine Sz2 CH hc ?_
  refine Qb hP hsc ?_
  refine Sz0 ?_
  refine Qa (fun h0=> ?_) (fun h0=> ?_)
  ·have hf:=hfa (dV.1 h0)
   refine Sz0 ?_
   refine Qb hP hf ?_
   refine Sz0 ?_
   exact Qc rfl rfl
  have vX:c≠0:=fun h=>h0 (dV.2 h)
  replace eD:=eD vX
  refine Sz0 ?_
  refine iL 13 900 3 51 Oz Tz0 ?_
  refine Ql okB [(13,13),(15,17),(50,64)] [15,16,62,63,900] (fun q J hp=>∃i,q=x.length-i/\i<=x.length/\J 13= .ms 900 i/\J 50= .int .i64 (i:Nat)/\hp 12=some ⟨3,51,[PV.rat c],false⟩/\hp 900=some ⟨3,51,((x.take i).map (· /c)).map PV.rat,false⟩) x.length ?_ ?_
  ·refine⟨0,rfl,by omega,?_⟩
   refine Sz1 dN ?_
   rfl
  rintro _ J2 lY ⟨i,rfl,gj,xC,FY,vN,c9⟩
  refine Sz1 FY ?_
  refine Qa (fun hg=> ?_) (fun hg=> ?_)
  ·have ao:i<x.length:=by omega
   have fE:=GU _ (Kai ao)
   have aW:(x.take (i+1)).map (· /c)=(x.take i).map (· /c)++[x[i]/c]:=by
    rw[Kak ao,Kbo];rfl
   have nZ:((x.take i).map (· /c)).length=i:=by rw[Kap,KaI];omega
   generalize(x.take i).map (· /c)=T at *
   generalize hz:x[i]=z at *
   have sJ:=zE (a:=z) (b:=c) (k:=2^30) Oz Oz Oz vX
   refine Sz5 xC FY vN c9 hz ?_
   refine Qb hP sJ ?_
   generalize z/c=u at *
   refine Sz4 xC FY vN c9 ?_
   rw[Qq (f:=PV.rat) (y:=u) (xs:=T) (ty':=51) (fz:=false) (Tz1 c9) cP Oz nZ.symm Oz Oz]
   refine Sz1 FY ?_
   refine Qf (x.length-(i+1)) Oz ⟨i+1,rfl,by omega,?_⟩
   rw[aW]
   exact Tz1 vN
  ·obtain rfl:i=x.length:=by omega
   rw[KaH]at c9
   have yf:List.take x.length ((x.map (· /c)).map PV.rat)=(x.map (· /c)).map PV.rat:=Kac (by simp)
   refine Sz2 xC c9 ?_
   refine kS hP eD (FM yf c9) rfl ?_
   refine gJ ?_
   exact Qc rfl rfl
 ·have h1i:=h1 i UM Oz
  have Gy:¬gd W[i]<0:=fun h=>by have:=fD.1 h;grind
  generalize hy:W[i]=y at *
  refine Sz2 lE hy ?_
  refine Qb hP wv ?_
  refine Sz0 ?_
  refine Qa (fun _=> ?_) (fun h0=>absurd h0 Oz)
  refine Sz1 lE ?_
  refine Qf (a-(i+1)) Oz ⟨i+1,rfl,by omega,?_⟩
  exact Tz1 b8
theorem IJ{p:List Tm}{K E:Nat}(hb:PB K E p)(hv:pJ p)(hK:K<2^36)(hl:p.length<2^40):Qd Tryz.prog 72 [PV.aM p] (· = .bool true):=by
 have h:=DQ (l:=p.map ee) (k:=max K 1) (fun t ht=>by
  obtain⟨s,hs,rfl⟩:=Kau.1 ht
  have:=(hb s hs).c
  exact BN Oz (by have:=(hb s hs).m.len;omega)) Oz Oz (by rw[Kap];exact hl)
 rwa[Bm,EU hv]at h
theorem pQ{p:List Tm}:∀b∈aJ p,MB 1 b/\b.length<=64/\b.getLast? ≠some 0:=fun b hb=>by
 rcases KaK.1 hb with hb|hb
 ·obtain⟨v,hv,rfl⟩:=Kau.1 hb
  have:=Hf hv
  exact⟨JC this,by simp[cB];omega,ME Oz⟩
 ·rw[KaB.1 hb]
  exact⟨⟨by simp,by simp,by simp⟩,by simp,by simp⟩
theorem Dw{p:List Tm}{K E:Nat}{L:List Sq}{e:Int}{w:List Rat}(hb:PB K E p)(hE:E<=2^29)(hK:K<=2^30)(Cg:1<=K)(dm:p.length<=2^30)(hr:Qd Tryz.prog 72 [PV.aM p] (· = .bool true))(hd:jU p<=2)(hn:(aJ p).length<=40)
  (hF:Qd Tryz.prog 29 [PV.gR (aJ p),PV.bO (aJ p).length (aJ p).length (iA p (aJ p))] (· = .aI [PV.iv L,.int .i64 e]))
  (hN:e=17->L=[]/\Qd Tryz.prog 75 [PV.aM p,PV.gR (aJ p),PV.bO (aJ p).length (aJ p).length (iA p (aJ p))] (· =PV.bU w)) (hw:e≠17->w=[]):
  Qd Tryz.prog 22 [PV.aM p] (· = .aI [PV.iv L,PV.bU w,.int .i64 e]):=by
 have KN:=HT hb Oz Oz
 have vW:=adK (fun t ht=>(hb t ht).m) (show p.length<=2^36 by omega)
 have hgr:=ahr (bs:=aJ p) (F:=1) hb (fun b h=>(pQ b h).1) Oz hE dm Oz hK Cg
 generalize aJ p=bs at *
 generalize iA p bs=la at *
 refine aE Qg Tryz.func22 QA fun C hP=> ?_
 refine Sz0 ?_
 refine Qb hP hr ?_
 refine Sz0 ?_
 refine Qb hP KN ?_
 refine Sz0 ?_
 refine Qa (fun h0=>absurd h0 Oz) (fun _=> ?_)
 refine Sz0 ?_
 refine Qb hP vW ?_
 refine Sz0 ?_
 refine Qa (fun h0=>absurd h0 Oz) (fun _=> ?_)
 refine Sz0 ?_
 refine Qb hP hgr ?_
 refine Sz0 ?_
 refine Qb hP hF ?_
 refine Sz0 ?_
 refine Qa (fun h0=> ?_) (fun h0=> ?_)
 ·obtain⟨rfl,Cj⟩:=hN h0
  subst h0
  refine Sz0 ?_
  refine Qb hP Cj ?_
  refine Sz0 ?_
  exact kU (r:= .aI [PV.iv [],PV.bU w,.int .i64 17]) rfl rfl rfl rfl JG (Qn _) (Qn _)
 ·obtain rfl:=hw h0
  refine Sz0 ?_
  exact kU (r:= .aI [PV.iv L,PV.bU [],.int .i64 e]) rfl rfl rfl rfl (Qn _) trivial (Qn _)
theorem BH(a b:List Int):kt 0 a b=aX a b:=by unfold kt;rw[if_neg (by simp)]
end Go.Proofs.YtkoclfmjlolkhaaGreat
namespace Go.FW
open Go
def pbB(K E:Nat)(p:List Tm):Bool:=p.all fun t=>decide (rs t.1+1<=K)&&(decide (t.2.length<=64)&&((t.2.all fun x=>decide (0<=x)&&decide (x<=E))&&decide (t.2.getLast? ≠some 0)))
theorem xo{K E:Nat}{p:List Tm}(h:pbB K E p=true):PB K E p:=fun t ht=>by
 have:=Kas.1 h t ht
 simp only[Kar,decide_eq_true_eq,Kas]at this
 obtain⟨h1,h2,h3,h4⟩:=this
 exact⟨h1,⟨h2,fun x hx=>(h3 x hx).1,fun x hx=>(h3 x hx).2⟩,h4⟩
def Dt:List Tm->Bool
 | []=>true
 |t::p=>(p.all fun s=>decide (0<aX t.2 s.2))&&Dt p
theorem OR:∀ {p:List Tm},Dt p=true->jB p
 | [],_=>trivial
 |t::p,h=>by
  simp only[Dt,Kar,Kas,decide_eq_true_eq]at h
  exact⟨h.1,OR h.2⟩
def VS(p:List Tm):Bool:=(p.all fun t=>decide (t.1≠0)&&decide (t.2.getLast? ≠some 0))&&Dt p
theorem FK{p:List Tm}(h:VS p=true):bC p:=by
 simp only[VS,Kar,Kas,decide_eq_true_eq]at h
 exact⟨fun t ht=>(h.1 t ht).2,fun t ht=>(h.1 t ht).1,OR h.2⟩
end Go.FW
