/- Part 14 of the proof of SquaresQuadratics: Q8, Q9, FwVG. Own lemmas; no conditions. -/
import Derived.Test.YtkoclfmjlolkhaaGreatSquaresQuadraticsPart13
set_option maxHeartbeats 1000000
set_option linter.unusedSimpArgs false
set_option linter.unusedVariables false
set_option linter.unnecessarySimpa false
set_option maxRecDepth 100000
namespace Go.Proofs.YtkoclfmjlolkhaaGreat
open Go Go.FW
def WO:ay:=⟨28,[.t 2],Zr (YE 2)<|Zr (YE 3)<| .seq (Zr (YD 7 0 44<|
 Zn 9 8<|
 Yj 10 0)<| .block 0<| .loop<|Zr (Yz 11 10 9)<| .seq (.cond (.t 11) .skip (.exit 0))<| .seq (.block 1<|Zr (YM 12 8 10<|
 Zm 5 13 .nil)<|Zr (Zm 14 5<|
 Zk 15 .add 14 1<|
 Zo (.mk 16 1 8 3 (Zz 0) (.t 15) (.t 15))<|
 Zm 6 16 .nil)<|Zr (Ya 17 6 5<|
 Zi 19 1 17 18<|
 Zo (.st 1 (.t 19) (.c (Zz 1))) .nil)<| .rg (Ya 20 3 6<|
 .wk<|Zo (.bs 22 1 93 [.t 21])<|
 Zo (.app 23 1 24 93 (.t 20) (.t 22))<|
 Ye 3 23))<| .rg (Yu 24 10 10))<|Zr (Zm 25 3<|
 Zo (.bs 26 1 93 [.c .au])<|
 mo 27 1 24 93 25 26<|
 .wk<|Ye 2 27) .ret⟩
theorem anJ:Qe Tryz.prog Tryz.f73=some WO.strip:=by kernel_rfl
def apP:ay:=⟨22,[.cell 4 3 true],Zr (Yc 4 .nil)<| .seq (Zr (YV 7 0)<| .block 0<| .loop<|Zr (Yz 10 9 8)<| .seq (.cond (.t 10) .skip (.exit 0))<| .seq (.block 1<|Zr (YH 11 7 9 6 95)<|Zr (Yi 13 3 6<|
 Zm 15 1<|
 Zq 16 false 193 [.t 14,.t 15,.c (Zz 0)]<|
 jj 17 16 0)<| .cond (.t 17) (Zr (YP 18 6 3<|
 jE 3 19) .ret) .skip)<| .rg (YC 20 9 9))<|Zr (iA 21 61 0<|
 jE 3 21) .ret⟩
theorem alm:Qe Tryz.prog Tryz.f137=some apP:=by kernel_rfl
def apS:ay:=⟨35,[.t 4],Zr (YE 4)<|Zr (YE 5)<| .seq (Zr (Yp 7 0<|
 Zk 9 .sub 8 1<|
 Yj 10 0)<| .block 0<| .loop<|Zr (Yz 11 10 9)<| .seq (.cond (.t 11) .skip (.exit 0))<| .seq (.block 1<|Zr (jC 12 10 6)<| .seq (.block 2<| .loop<| .seq (Zr (Yp 13 5<|
 Ym 15 0 6<|
 Zn 19 18<|
 Zk 20 .sub 19 1<|
 Yz 21 14 20)<| .cond (.t 21) .skip (.exit 2))<| .block 3<| .rg (Zm 22 5<|
 iA 23 61 0<|
 Ys 24 3 51 23 56 22 5))<| .rg (YY 26 5 1 6<|
 Yx 29 3 27 28<|
 Ys 31 3 51 30 56 26 5))<| .rg (Yu 33 10 10))<|Zr (YZ 34 5 4) .ret⟩
theorem aln:Qe Tryz.prog Tryz.f140=some apS:=by kernel_rfl
def apQ:ay:=⟨33,[.t 4],Zr (jT 2 24 0<|
 YE 4)<|Zr (YE 5)<| .seq (Zr (Yi 9 0 2<|
 Yj 11 0)<| .block 0<| .loop<|Zr (Yz 12 11 10)<| .seq (.cond (.t 12) .skip (.exit 0))<| .seq (.block 1<|Zr (jC 13 11 6)<|Zr (Ya 14 6 1<|
 Zb 16 .eql 14 15 .nil)<| .cond (.t 16) (.rg (Zm 17 5<|
 iA 18 61 1<|
 Ys 19 3 51 18 56 17 5)) (.rg (Zm 21 5<|
 iA 22 61 0<|
 Ys 23 3 51 22 56 21 5)))<| .rg (Yu 25 11 11))<|Zr (Zh 27 3 2<|
 Zm 28 5<|
 Yn 29 13 27 28<|
 gy 26<|
 dp 7 30 31)<|Zr (YZ 32 7 4) .ret⟩
theorem alo:Qe Tryz.prog Tryz.f138=some apQ:=by kernel_rfl
def Qp(p:List Tm):List Nat:=(List.range 64).filter (fe p)
def aF(p:List Tm):List (List Int):=(Qp p).map (fun v=>bQ v 1)++[[]]
theorem Ds{p:List Tm}{v:Nat}(h:v∈Qp p):v<64:=by simp[Qp]at h;exact h.1
theorem AL(p:List Tm):(Qp p).length<=64:=by have:=List.length_filter_le (fe p) (List.range 64);rw[List.length_range]at this;exact this
theorem Cq(p:List Tm):Km p=(Qp p).map fun(v:Nat)=>(v:Int):=rfl
def Ml(T:List (List Int)):Prop:=∀(fr:Fr)(hp:HP)(ty:Nat),hp 900=some ⟨1,ty,T.map PV.mono++[.au],false⟩->Wk fr hp fr (Qj hp 900 ⟨1,ty,(T++[[]]).map PV.mono,false⟩)
theorem UK(T:List (List Int)):Ml T:=fun fr hp ty h=>by
 refine anI h (by simp) fun i x x' hx bk=>?_;by_cases hi:i<T.length
 ·rw[KbD (by simpa using hi)]at hx;rw[Ka9,KbD (by simpa using hi)]at bk;rw[hx]at bk;cases bk;rw[Kas,Kaa]at hx;obtain⟨a,_,rfl⟩:=hx;exact⟨rfl,rfl,fun j y y' h1 h2=>by rw[h1]at h2;cases h2;exact AF _⟩
 ·have dZ:i=T.length:=by have:=(Kaf.1 hx).1;simp at this;omega
  subst dZ;simp at hx bk;subst hx bk;exact⟨rfl,rfl,fun j y y' h1 h2=>by
   cases j with
   |zero=>cases h1;cases h2;trivial
   |succ j=>cases h1⟩
theorem RJ{p:List Tm}{E:Nat}(hp:∀t∈p,MB E t.2)(cW:p.length<=2^36):Qd Tryz.prog 73 [PV.aL p] (· =PV.fK (aF p)):=by
 have hv:=acx hp cW;rw[Cq]at hv;have jm:=AL p;have aw:∀v∈Qp p,v<64:=fun v h=>Ds h;unfold aF;generalize Qp p=V at *
 have Ep:(V.map fun(v:Nat)=>(v:Int)).length=V.length:=Kal _;have Eo:∀i (hi:i<V.length) (dZ:i<(V.map fun(v:Nat)=>(v:Int)).length),(V.map fun(v:Nat)=>(v:Int))[i]=(V[i]:Int):=fun i hi dZ=>Ka8 ..;generalize V.map (fun(v:Nat)=>(v:Int))=W at *
 refine o8 Qg Tryz.func73 rfl anJ Nz fun C hP=>?_;simp only[WO];refine fw ?_;refine Sz0 ?_;refine Qb hP hv ?_;refine Sz0 ?_;refine fW 3 900 1 93 Oz Tz0 ?_;refine Qi okB [(3,3),(5,6),(10,24)] [16,22,23,900] (fun q J hp=>∃i,q=V.length-i/\i<=V.length/\J 3= .ms 900 i/\J 10= .int .i64 (i:Nat)/\hp 900=some ⟨1,93,((V.take i).map fun v=>bQ v 1).map PV.mono,false⟩) V.length ?_ ?_
 ·refine⟨0,rfl,by omega,?_⟩;refine Sz0 ?_;rfl
 rintro _ J h' ⟨i,rfl,hi,j3,eI,b9⟩;refine Sz1 eI ?_;refine Qa (fun hg=>?_) (fun hg=>?_)
 ·have al:i<V.length:=by omega
  have XV:=aw _ (Kah al);have uB:=Eo i al Oz;have aT:(V.take (i+1)).map (fun v=>bQ v 1)=(V.take i).map (fun v=>bQ v 1)++[bQ V[i] 1]:=by rw[Kak al,Ka9];rfl
  have ik:((V.take i).map fun v=>bQ v 1).length=i:=by rw[Kal,KaF];omega
  generalize(V.take i).map (fun v=>bQ v 1)=T at *
  generalize hx:V[i]=v at *
  have ka:(List.replicate (v+1) (0:Int)).set v 1=bQ v 1:=L6 v 1 rfl;have ES:v<(List.replicate (v+1) (0:Int)).length:=by simp
  have dF:List.take (v+1) (nC (bQ v 1))=nC (bQ v 1):=Kac (by simp[bQ]);refine Sz3 eI uB ka ?_;refine di (JD 21 vv) ?_;refine vw dF j3 b9 ?_;rw[Qr (f:=PV.mono) (y:=bQ v 1) (xs:=T) (ty':=93) (fz:=false) (pG b9) Mv Oz ik.symm Oz Oz];refine lG eI ?_;refine Qf (V.length-(i+1)) Oz ⟨i+1,rfl,by omega,?_⟩;rw[aT];exact vv
 ·obtain rfl:i=V.length:=by omega
  rw[Kaz]at b9;have kZ:((V.map fun v=>bQ v 1).map PV.mono).length=V.length:=by simp
  have Nb:Ml (V.map fun v=>bQ v 1):=UK _;have dF:List.take (V.length+1) ((V.map (fun v=>bQ v 1)++[[]]).map PV.mono)=(V.map (fun v=>bQ v 1)++[[]]).map PV.mono:=Kac (by simp);generalize V.map (fun v=>bQ v 1)=T at *
  refine Sz2 j3 b9 ?_;rw[CZ (y:=.au) (xs:=T.map PV.mono) (ty':=93) (fz:=false) (Tz1 b9) Tz0 Oz Oz Oz Oz];refine Sz0 ?_;refine di (Nb _ _ 93 Tz0) ?_;refine ij ?_;refine JE (Wk.refl _ _) ?_;refine lG dF ?_;exact Qc rfl rfl
def jO:List Tm->List Int->Rat
 | [],_=>0
 |t::p,m=>if bm t.2 m=0 then t.1 else jO p m
theorem adN{p:List Tm}{m:List Int}{i:Nat}(h:i<p.length):jO (p.drop i) m=if bm p[i].2 m=0 then p[i].1 else jO (p.drop (i+1)) m:=by rw[KaA h];rfl
theorem Mm{m:List Int}{K E:Nat}:∀ {p:List Tm},PB K E p->1<=K->rs (jO p m)<=K
 | [],_,h=>by have:=sN;show rs 0<=K;omega
 |t::p,hp,h=>by
  unfold jO;split
  ·have:=(hp t (by simp)).c;omega
  ·exact Mm (fun s hs=>hp s (Ka1 _ hs)) h
theorem alp{p:List Tm}{m:List Int}{K E:Nat}(hp:PB K E p)(hm:MB E m)(hE:E<=2^30)(cW:p.length<=2^36):Qd Tryz.prog 137 [PV.aL p,PV.mono m] (· =PV.rat (jO p m)):=by
 refine aE Qg Tryz.func137 alm fun C hP=>?_;refine Sz0 ?_;refine Qi okB [(6,6),(9,20)] [6] (fun q J hp=>∃i,q=p.length-i/\i<=p.length/\jO (p.drop i) m=jO p m/\J 9= .int .i64 (i:Nat)/\hp 4=some ⟨3,51,[.agg [.bool false,.au,.au]],false⟩) p.length ?_ ?_
 ·refine⟨0,rfl,by omega,rfl,?_⟩;refine Sz0 ?_;rfl
 rintro _ J h' ⟨i,rfl,hi,he,j9,b4⟩;refine Sz1 j9 ?_;refine Qa (fun hg=>?_) (fun hg=>?_)
 ·have al:i<p.length:=by omega
  have ht:=hp _ (Kah al);rw[adN al]at he;have lJ:=Lg (o:=0) ht.m hm Oz;rw[DF]at lJ;generalize hx:p[i]=t at *
  refine Sz2 j9 hx ?_;refine Qb hP lJ ?_;refine Sz1 j9 ?_;refine Qa (fun h0=>?_) (fun h0=>?_)
  ·rw[if_pos Oz]at he;refine Sz1 b4 ?_;refine cr ?_;refine Sz0 ?_;exact Qc (by rw[he]) rfl
  ·rw[if_neg Oz]at he;refine Sz1 j9 ?_;refine Qf (p.length-(i+1)) Oz ⟨i+1,rfl,by omega,he,?_⟩;exact Tz1 b4
 ·obtain rfl:i=p.length:=by omega
  rw[Kdk]at he;refine Sz0 ?_;refine Qb hP (qK (x:=0) Oz Oz) ?_;refine Sz1 b4 ?_;refine cr ?_;refine Sz0 ?_;exact Qc (by rw[<-he];rfl) rfl
def tT(p:List Tm)(bs:List (List Int))(i k:Nat):Rat:=if i=k then jO p (bF (bs.getD i []) (bs.getD k []))else jO p (bF (bs.getD i []) (bs.getD k []))/2
def kO(p:List Tm)(bs:List (List Int))(j:Nat):Rat:=tT p bs (j/bs.length) (j%bs.length)
def eR(p:List Tm)(bs:List (List Int)):List Rat:=(List.range (bs.length*bs.length)).map (kO p bs)
theorem yp(p:List Tm)(bs:List (List Int)):(eR p bs).length=bs.length*bs.length:=by simp[eR]
theorem Hp{p:List Tm}{bs:List (List Int)}{i k:Nat}(hk:k<bs.length):kO p bs (i*bs.length+k)=tT p bs i k:=by
 have hR:0<bs.length:=by omega
 unfold kO;rw[KbQ,Kc1,KaS hk,Kcx _ _ hR,Kb4 hk,Kbh]
def WQ:ay:=⟨53,[.cell 4 3 true],Zr (YL 4 .nil)<|Zr (Yp 9 1<|
 Yp 11 1<|
 Zo (.eB 13 [Zz 0,Zz 0,.au] [(0,1,.t 10),(1,1,.t 12)])<|
 YL 5<|
 .wk<| .wk<|Zs 3 5 13<|
 .wk .nil)<| .seq (Zr (YV 14 1)<| .block 0<| .loop<|Zr (Yz 17 16 15)<| .seq (.cond (.t 17) .skip (.exit 0))<| .seq (.block 1<|Zr (jC 18 16 6)<|Zr (YV 19 1)<| .block 2<| .loop<|Zr (Yz 22 21 20)<| .seq (.cond (.t 22) .skip (.exit 2))<| .seq (.block 3<|Zr (YZ 23 21 7)<|Zr (YY 24 0 1 6<|
 YM 27 25 26<|
 Ym 29 1 7<|
 .br (Yr 33 96 28 32<|
 .br (Yr 34 137 24 33<|
 fu 8 34 .nil) (Yc 8<|
 jD 34 137 24 33 3 8)) (Yc 8<|
 Yr 33 96 28 32<|
 jD 34 137 24 33 3 8))<| .seq (Zr (Ya 35 6 7<|
 jU 37 35 36)<| .cond (.t 37) (.rg (Zh 39 3 8<|
 Zq 40 true 61 [.c (Zz 2)]<|
 Yr 41 123 39 40<|
 gy 38<|
 Zs 3 8 42 .nil)) .skip)<| .rg (Yi 44 2 5<|
 Zh 46 3 8<|
 Zo (.bs 47 3 51 [.t 46])<|
 Zo (.app 48 3 56 51 (.t 45) (.t 47))<|
 Zf 49 2 5<|
 Zs 1 49 48 .nil))<| .rg (Yu 50 21 21))<| .rg (Yu 51 16 16))<|Zr (Zh 52 3 5<|
 .wk<|jE 3 52) .ret⟩
theorem anK:Qe Tryz.prog Tryz.f74=some WQ.strip:=by kernel_rfl
abbrev yU(n k:Nat):PV:=.bo [.int .i64 (n:Nat),.int .i64 (n:Nat),.aB 2000002 0 k]
theorem alq{p:List Tm}{bs:List (List Int)}{K E F:Nat}(hp:PB K E p)(hb:∀b∈bs,MB F b)(hF:F<=1000)(hE:E<=2^29)(cW:p.length<=2^30)(m7:bs.length<=1000)(hK:K<=2^30)(zb:1<=K):
  Qd Tryz.prog 74 [PV.aL p,PV.fK bs] (· =PV.a9 bs.length bs.length (eR p bs)):=by
 have hz:([.agg [.int .i64 0,.int .i64 0,.au]]:List PV)≠[]:=by simp
 have uC:∀x∈([.agg [.int .i64 0,.int .i64 0,.au]]:List PV),x.aS=x.cells:=fun x hx=>by rw[Kau.1 hx];rfl
 have EY:bs.length*bs.length<=1000*1000:=KaQ m7 m7;obtain⟨n,hn⟩:∃n,n=bs.length:=⟨_,rfl⟩
 refine o8 Qg Tryz.func74 rfl anK Nz fun C hP=>?_;simp only[WQ];refine fw ?_;refine Sz0 ?_;refine di (mP 5 2000001 cE Oz rfl Oz) ?_;refine Sz0 ?_;refine di (va (γ:=2000001) (e:=3) (ty:=24) (fz:=false) Tz0 hz Oz uC) ?_;refine Sz0 ?_;refine di (CU (γ:=2000001) (e:=3) (ty:=24) (cs:=[.int .i64 (bs.length:Nat),.int .i64 (bs.length:Nat),.au]) (cs':=[.int .i64 (bs.length:Nat),.int .i64 (bs.length:Nat),.aB 2000002 0 0]) 2000002 3 51 Tz0 cE Oz Oz rfl (by simp)) ?_;refine Sz0 ?_;refine eO okB [(5,8),(16,51),(2000001,2000001)] [8,47,48] (fun q J hp=>∃i,q=bs.length-i/\i<=bs.length/\J 5= .np 2000001 0 0/\J 16= .int .i64 (i:Nat)/\J 2000001= .aC 2000001 3 24 [yU bs.length (i*bs.length)]/\
  hp 4=some ⟨3,24,[.agg [.int .i64 0,.int .i64 0,.au]],false⟩/\hp 2000001=some ⟨3,24,[],false⟩/\hp 2000002=some ⟨3,51,((List.range (i*bs.length)).map (kO p bs)).map PV.rat,false⟩) bs.length ?_ ?_
 ·refine⟨0,rfl,by omega,?_⟩;refine Sz1 @Nat.zero_mul ?_;exact⟨rfl,rfl⟩
 rintro _ J h ⟨i,rfl,hi,j5,v8,jb,b4,hb1,hx⟩;refine Sz1 v8 ?_;refine Qa (fun hc=>?_) (fun hc=>?_)
 ·have al:i<bs.length:=by omega
  have BE:i*bs.length+bs.length<=bs.length*bs.length:=by have:=Kaj bs.length al;rw[Kca]at this;exact this
  refine Sz6 j5 v8 jb b4 hb1 hx ?_;refine eO okB [(5,5),(7,8),(21,50),(2000001,2000001)] [8,47,48] (fun q J hp=>∃k,q=bs.length-k/\k<=bs.length/\J 5= .np 2000001 0 0/\J 21= .int .i64 (k:Nat)/\J 2000001= .aC 2000001 3 24 [yU bs.length (i*bs.length+k)]/\
   hp 4=some ⟨3,24,[.agg [.int .i64 0,.int .i64 0,.au]],false⟩/\hp 2000001=some ⟨3,24,[],false⟩/\hp 2000002=some ⟨3,51,((List.range (i*bs.length+k)).map (kO p bs)).map PV.rat,false⟩) bs.length ?_ ?_
  ·refine⟨0,rfl,by omega,?_⟩;refine Sz5 j5 jb b4 hb1 hx ?_;rfl
  rintro _ J2 g ⟨k,rfl,hk,i5,i21,ib,g4,gb,gx⟩;refine Sz1 i21 ?_;refine Qa (fun m8=>?_) (fun m8=>?_)
  ·have bI:k<bs.length:=by omega
   have vK:=Hp (p:=p) (i:=i) bI;have m1:=hb _ (Kah al);have m2:=hb _ (Kah bI);have e1:bs.getD i []=bs[i]:=by simp[al]
   have e2:bs.getD k []=bs[k]:=by simp[bI]
   unfold tT at vK;rw[e1,e2]at vK;have xu:((List.range (i*bs.length+k)).map (kO p bs)).length=i*bs.length+k:=by simp
   have kF:(List.range (i*bs.length+(k+1))).map (kO p bs)=(List.range (i*bs.length+k)).map (kO p bs)++[kO p bs (i*bs.length+k)]:=by rw[<-Nat.add_assoc,Kck,Ka9];rfl
   rw[vK]at kF;have BH:=VT m1 m2 Oz;have xI:=m1.mul m2;generalize(List.range (i*bs.length+k)).map (kO p bs)=T at *
   generalize iv:bs[i]=x1 at *
   generalize gQ:bs[k]=x2 at *
   have aa:=alp (p:=p) (m:=bF x1 x2) (K:=K) (E:=E+2000) (hp.mono Oz Oz) (xI.mono Oz) Oz Oz;have dt:=Mm (m:=bF x1 x2) hp zb;generalize bF x1 x2=y at *
   generalize jO p y=c at *
   have vS:=qK (x:=2) Oz Oz;have iE:rs ((2:Int):Rat)<=1:=by decide+kernel
   have oI:=Bl (a:=c) (b:=((2:Int):Rat)) (k:=K+1) Oz Oz Oz (by decide+kernel);rw[show((2:Int):Rat)=2 from rfl]at vS oI;refine Sz9 i5 i21 ib g4 gb gx v8 iv gQ ?_
   repeat' first
    |refine lk ?_ ?_
    |refine Qb hP BH ?_
    |refine Qb hP aa ?_
    |simp+decide (disch:=try exact D6 i5 i21 ib g4 gb gx) only[go_sem,i5,i21,ib,g4,gb,gx]
   all_goals
    refine Qa (fun aJ=>?_) (fun heq=>?_)
    ·rw[if_neg Oz]at kF;refine Sz0 ?_;refine Qb hP vS ?_;refine Sz0 ?_;refine Qb hP oI ?_;generalize c/2=z at *
     refine Sz6 i5 i21 ib g4 gb gx ?_;rw[An (f:=PV.rat) (y:=z) (xs:=T) (ty':=51) (fz:=false) (Tz1 gx) Tz0 Oz xu.symm Oz Oz Oz];refine Sz6 i5 i21 ib g4 gb gx ?_;refine de (bs.length-(k+1)) Oz ⟨k+1,rfl,by omega,?_⟩;rw[kF];refine Sz4 i5 ib g4 gb ?_;rfl
    ·rw[if_pos Oz]at kF;refine Sz6 i5 i21 ib g4 gb gx ?_;rw[An (f:=PV.rat) (y:=c) (xs:=T) (ty':=51) (fz:=false) (Tz1 gx) Tz0 Oz xu.symm Oz Oz Oz];refine Sz6 i5 i21 ib g4 gb gx ?_;refine de (bs.length-(k+1)) Oz ⟨k+1,rfl,by omega,?_⟩;rw[kF];refine Sz4 i5 ib g4 gb ?_;rfl
  ·have pP:k=bs.length:=by omega
   subst pP;refine Sz1 v8 ?_;simp (disch:=decide) only[kk,lY,dS,lX];refine de (bs.length-(i+1)) Oz ⟨i+1,rfl,by omega,?_⟩;rw[show(i+1)*bs.length=i*bs.length+bs.length from Kca _ _];exact Tz5 i5 ib g4 gb gx
 ·obtain rfl:i=bs.length:=by omega
  rw[show(List.range (bs.length*bs.length)).map (kO p bs)=eR p bs from rfl]at hx;have xD:=yp p bs;refine Sz5 j5 jb b4 hb1 hx ?_;refine AN 52 2 [2000002] (p:=yU bs.length (bs.length*bs.length)) Tz0 (D:=PV.a9 bs.length bs.length (eR p bs)) ?_ ?_ rfl ?_
  ·intro c hc;simp only[KaG,KbT,or_false]at hc;rcases hc with rfl|rfl|rfl
   ·trivial
   ·trivial
   ·simp only[od,aR];simp
  ·show PV.agg [_,_,eC _ h 2 (.aB 2000002 0 _)]=_;simp only[eC,hx,Ka0];rw[Kac (by rw[Kal];omega)]
  refine DQ j5 jb b4 hb1 hx ?_;refine qt (cr ?_);refine lG b4 ?_;exact Qc rfl rfl
end Go.Proofs.YtkoclfmjlolkhaaGreat
namespace Go.FW
open Go
variable {C : Ctx} {fr : Fr} {hp : HP} {w : World} {K R : Qh}
theorem Hq{x y:RT}{sk:List It}(bR:fG R sk)(W:List (Nat×Nat))(B:List Nat)(M:Fr->HP->Prop)
  (h:vB C R x y (.el (nD W (dk B fr) M)::sk) (aY W fr (dk B fr)) hp) (hM:∀J hp,M J hp->vc C R sk (aY W J (dk B fr)) hp):vB C R x y sk fr hp:=by
 have key:∀(r:RT),vc C R (.o r:: .el (nD W (dk B fr) M)::sk) (aY W fr (dk B fr)) hp->vc C R (.o r::sk) fr hp:=by
  intro r hr;refine Dd (M:=nD W (dk B fr) M) ?_ _ [.o r] _ _ (Kae _) ?_
  ·rintro aG hp' ⟨J,h1,h2⟩;exact ou bR.1 _ _ _ _ _ _ (Kae _) bR.2 h1 (hM J hp' h2)
  ·exact ou bR.1 _ _ _ _ _ _ (Kae _) (.o r (.el wL bR.2)) (Hx W B) hr
 exact⟨key x h.1,key y h.2⟩
theorem aht{nm:Nat->Bool}{W:List (Nat×Nat)}{J F:Fr}:gw nm (aY W J F)=aY W (gw nm J) (gw nm F):=by funext s;unfold gw aY;split<;>rfl
theorem ahu{nm:Nat->Bool}(h:∀x,nm x=true->2000000<=x){B:List Nat}{F:Fr}:gw nm (dk B F)=dk B F:=by
 funext s;obtain⟨h1,h2,_,_⟩:=AX B F s;show vq nm (dk B F s)=dk B F s;unfold vq;rw[if_neg];intro hn;obtain⟨x,hx,gQ⟩:=Ka6.1 hn;have:=h x gQ;rcases KaL.1 hx with hx|hx
 ·have:=h1 x hx;simp[nn]at this;omega
 ·have:=h2 x hx;simp[n8,nn]at this;omega
theorem wq(R:Nat)(M:MF):∀k,(Qt R M k).ak.Pairwise (· < ·)
 |0=>List.Pairwise.nil
 | k+1=>by
  have h:=wq R M k;have h2:=(ll R M k).2.2;show(dP R (Qt R M k) k).ak.Pairwise (· < ·);unfold dP;split
  ·exact h
  ·refine List.pairwise_append.2 ⟨h,by simp,fun a ha b hb=>?_⟩;rw[Kau.1 hb];exact h2 a ha
theorem wO{l:List Nat}(h:l.Pairwise (· < ·)){i j:Nat}(pQ:i<j)(hj:j<l.length):l[i]<l[j]:=KbE.1 h i j (by omega) hj pQ
def I6(E:MF)(ak:List Nat)(k:Nat):Nat->(Nat->Rat)
 |0=>fun c=>if c=k then 1 else 0
 |j+1=>fun c=>if c=ak.getD j 0 then -(E j k)else I6 E ak k j c
end Go.FW
