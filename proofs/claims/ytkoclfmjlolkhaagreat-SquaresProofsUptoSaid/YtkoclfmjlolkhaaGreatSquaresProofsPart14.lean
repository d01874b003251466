/- Part 14 of the proof of SquaresProofs: Q8, Q9, FwVG. Own lemmas; no conditions. -/
import Derived.Test.YtkoclfmjlolkhaaGreatSquaresProofsPart13
set_option maxHeartbeats 1000000
set_option linter.unusedSimpArgs false
set_option linter.unusedVariables false
set_option linter.unnecessarySimpa false
set_option maxRecDepth 100000
namespace Go.Proofs.YtkoclfmjlolkhaaGreat
open Go Go.FW
def TI:ay:=⟨28,[.t 2],Zr (YE 2)<|Zr (YE 3)<| .seq (Zr (Yz 7 0 44<|
 Zn 9 8<|
 Yl 10 0)<| .block 0<| .loop<|Zr (Ys 11 10 9)<| .seq (.cond (.t 11) .skip (.exit 0))<| .seq (.block 1<|Zr (YM 12 8 10<|
 Zm 5 13 .nil)<|Zr (Zm 14 5<|
 Zk 15 .add 14 1<|
 Zo (.mk 16 1 8 3 (Zz 0) (.t 15) (.t 15))<|
 Zm 6 16 .nil)<|Zr (Ye 17 6 5<|
 Zi 19 1 17 18<|
 Zo (.st 1 (.t 19) (.c (Zz 1))) .nil)<| .rg (Ye 20 3 6<|
 .wk<|Zo (.bs 22 1 93 [.t 21])<|
 Zo (.app 23 1 24 93 (.t 20) (.t 22))<|
 Yc 3 23))<| .rg (Yw 24 10 10))<|Zr (Zm 25 3<|
 Zo (.bs 26 1 93 [.c .al])<|
 mZ 27 1 24 93 25 26<|
 .wk<|Yc 2 27) .ret⟩
theorem akz:Qe Tryz.prog Tryz.f73=some TI.strip:=by kernel_rfl
def amH:ay:=⟨22,[.cell 4 3 true],Zr (Yb 4 .nil)<| .seq (Zr (YP 7 0)<| .block 0<| .loop<|Zr (Ys 10 9 8)<| .seq (.cond (.t 10) .skip (.exit 0))<| .seq (.block 1<|Zr (Yy 11 7 9 6 95)<|Zr (Yf 13 3 6<|
 Zm 15 1<|
 Zq 16 false 193 [.t 14,.t 15,.c (Zz 0)]<|
 jG 17 16 0)<| .cond (.t 17) (Zr (YT 18 6 3<|
 jk 3 19) .ret) .skip)<| .rg (YD 20 9 9))<|Zr (jW 21 61 0<|
 jk 3 21) .ret⟩
theorem ahX:Qe Tryz.prog Tryz.f137=some amH:=by kernel_rfl
def amK:ay:=⟨35,[.t 4],Zr (YE 4)<|Zr (YE 5)<| .seq (Zr (Yo 7 0<|
 Zk 9 .sub 8 1<|
 Yl 10 0)<| .block 0<| .loop<|Zr (Ys 11 10 9)<| .seq (.cond (.t 11) .skip (.exit 0))<| .seq (.block 1<|Zr (jH 12 10 6)<| .seq (.block 2<| .loop<| .seq (Zr (Yo 13 5<|
 Yn 15 0 6<|
 Zn 19 18<|
 Zk 20 .sub 19 1<|
 Ys 21 14 20)<| .cond (.t 21) .skip (.exit 2))<| .block 3<| .rg (Zm 22 5<|
 jW 23 61 0<|
 Yv 24 3 51 23 56 22 5))<| .rg (YX 26 5 1 6<|
 YI 29 3 27 28<|
 Yv 31 3 51 30 56 26 5))<| .rg (Yw 33 10 10))<|Zr (YW 34 5 4) .ret⟩
theorem ahY:Qe Tryz.prog Tryz.f140=some amK:=by kernel_rfl
def amI:ay:=⟨33,[.t 4],Zr (jE 2 24 0<|
 YE 4)<|Zr (YE 5)<| .seq (Zr (Yf 9 0 2<|
 Yl 11 0)<| .block 0<| .loop<|Zr (Ys 12 11 10)<| .seq (.cond (.t 12) .skip (.exit 0))<| .seq (.block 1<|Zr (jH 13 11 6)<|Zr (Ye 14 6 1<|
 Zb 16 .eql 14 15 .nil)<| .cond (.t 16) (.rg (Zm 17 5<|
 jW 18 61 1<|
 Yv 19 3 51 18 56 17 5)) (.rg (Zm 21 5<|
 jW 22 61 0<|
 Yv 23 3 51 22 56 21 5)))<| .rg (Yw 25 11 11))<|Zr (Zh 27 3 2<|
 Zm 28 5<|
 Ym 29 13 27 28<|
 Zm 26 29<|
 jF 30 26 7)<|Zr (YW 32 7 4) .ret⟩
theorem ahZ:Qe Tryz.prog Tryz.f138=some amI:=by kernel_rfl
def Qz(p:List Tm):List Nat:=(List.range 64).filter (gH p)
def aJ(p:List Tm):List (List Int):=(Qz p).map (fun v=>cB v 1)++[[]]
theorem Hf{p:List Tm}{v:Nat}(h:v∈Qz p):v<64:=by
 simp[Qz]at h;exact h.1
theorem adJ(p:List Tm):(Qz p).length<=64:=by
 have:=List.length_filter_le (gH p) (List.range 64)
 rw[List.length_range]at this
 exact this
theorem Tp(p:List Tm):QI p=(Qz p).map fun(v:Nat)=>(v:Int):=rfl
def N'(T:List (List Int)):Prop:=∀(fr:Fr)(hp:HP)(ty:Nat),hp 900=some ⟨1,ty,T.map PV.mono++[.al],false⟩->Wk fr hp fr (Qi hp 900 ⟨1,ty,(T++[[]]).map PV.mono,false⟩)
theorem Xg(T:List (List Int)):N' T:=fun fr hp ty h=>by
 refine aky h (by simp) fun i x x' hx aV=> ?_
 by_cases hi:i<T.length
 ·rw[Kby (by simpa using hi)]at hx
  rw[Kbo,Kby (by simpa using hi)]at aV
  rw[hx]at aV;cases aV
  rw[Kav,Kaa]at hx
  obtain⟨a,_,rfl⟩:=hx
  exact⟨rfl,rfl,fun j y y' h1 h2=>by rw[h1]at h2;cases h2;exact yW _⟩
 ·have gj:i=T.length:=by
   have:=(Kae.1 hx).1
   simp at this;omega
  subst gj
  simp at hx aV
  subst hx aV
  exact⟨rfl,rfl,fun j y y' h1 h2=>by
   cases j with
   |zero=>cases h1;cases h2;trivial
   |succ j=>cases h1⟩
theorem adK{p:List Tm}{E:Nat}(hp:∀t∈p,MB E t.2)(dm:p.length<=2^36):Qd Tryz.prog 73 [PV.aM p] (· =PV.gR (aJ p)):=by
 have hv:=R4 hp dm
 rw[Tp]at hv
 have gP:=adJ p
 have au:∀v∈Qz p,v<64:=fun v h=>Hf h
 unfold aJ
 generalize Qz p=V at *
 have hVl:(V.map fun(v:Nat)=>(v:Int)).length=V.length:=Kap _
 have hVg:∀i (hi:i<V.length) (gj:i<(V.map fun(v:Nat)=>(v:Int)).length),(V.map fun(v:Nat)=>(v:Int))[i]=(V[i]:Int):=fun i hi gj=>KbB ..
 generalize V.map (fun(v:Nat)=>(v:Int))=W at *
 refine rX Qg Tryz.func73 rfl akz Nz fun C hP=> ?_;simp only[TI];refine ic ?_
 refine Sz0 ?_
 refine Qb hP hv ?_
 refine Sz0 ?_
 refine iL 3 900 1 93 Oz Tz0 ?_
 refine Ql okB [(3,3),(5,6),(10,24)] [16,22,23,900] (fun q J hp=>∃i,q=V.length-i/\i<=V.length/\J 3= .ms 900 i/\J 10= .int .i64 (i:Nat)/\hp 900=some ⟨1,93,((V.take i).map fun v=>cB v 1).map PV.mono,false⟩) V.length ?_ ?_
 ·refine⟨0,rfl,by omega,?_⟩
  refine Sz0 ?_
  rfl
 rintro _ J h' ⟨i,rfl,hi,j3,lE,b9⟩
 refine Sz1 lE ?_
 refine Qa (fun hg=> ?_) (fun hg=> ?_)
 ·have ao:i<V.length:=by omega
  have asB:=au _ (Kai ao)
  have Lp:=hVg i ao Oz
  have aW:(V.take (i+1)).map (fun v=>cB v 1)=(V.take i).map (fun v=>cB v 1)++[cB V[i] 1]:=by
   rw[Kak ao,Kbo];rfl
  have nZ:((V.take i).map fun v=>cB v 1).length=i:=by rw[Kap,KaI];omega
  generalize(V.take i).map (fun v=>cB v 1)=T at *
  generalize hx:V[i]=v at *
  have kH:(List.replicate (v+1) (0:Int)).set v 1=cB v 1:=NJ v 1 rfl
  have hlr:v<(List.replicate (v+1) (0:Int)).length:=by simp
  have fD:List.take (v+1) (pY (cB v 1))=pY (cB v 1):=Kac (by simp[cB])
  refine Sz3 lE Lp kH ?_
  refine et (Ov 21 tU) ?_
  refine xu fD j3 b9 ?_
  rw[Qq (f:=PV.mono) (y:=cB v 1) (xs:=T) (ty':=93) (fz:=false) (qV b9) Tr Oz nZ.symm Oz Oz]
  refine qc lE ?_
  refine Qf (V.length-(i+1)) Oz ⟨i+1,rfl,by omega,?_⟩
  rw[aW]
  exact tU
 ·obtain rfl:i=V.length:=by omega
  rw[KaH]at b9
  have pk:((V.map fun v=>cB v 1).map PV.mono).length=V.length:=by simp
  have apF:N' (V.map fun v=>cB v 1):=Xg _
  have fD:List.take (V.length+1) ((V.map (fun v=>cB v 1)++[[]]).map PV.mono)=(V.map (fun v=>cB v 1)++[[]]).map PV.mono:=Kac (by simp)
  generalize V.map (fun v=>cB v 1)=T at *
  refine Sz2 j3 b9 ?_
  rw[EF (y:= .al) (xs:=T.map PV.mono) (ty':=93) (fz:=false) (Tz1 b9) Tz0 Oz Oz Oz Oz]
  refine Sz0 ?_
  refine et (apF _ _ 93 Tz0) ?_
  refine gJ ?_
  refine Ox (Wk.refl _ _) ?_
  refine qc fD ?_
  exact Qc rfl rfl
def lL:List Tm->List Int->Rat
 | [],_=>0
 |t::p,m=>if aX t.2 m=0 then t.1 else lL p m
theorem aaE{p:List Tm}{m:List Int}{i:Nat}(h:i<p.length):lL (p.drop i) m=if aX p[i].2 m=0 then p[i].1 else lL (p.drop (i+1)) m:=by
 rw[Kaw h];rfl
theorem Oa{m:List Int}{K E:Nat}:∀ {p:List Tm},PB K E p->1<=K->rs (lL p m)<=K
 | [],_,h=>by have:=sj;show rs 0<=K;omega
 |t::p,hp,h=>by
  unfold lL
  split
  ·have:=(hp t (by simp)).c;omega
  ·exact Oa (fun s hs=>hp s (Ka5 _ hs)) h
theorem ah0{p:List Tm}{m:List Int}{K E:Nat}(hp:PB K E p)(hm:MB E m)(hE:E<=2^30)(dm:p.length<=2^36):Qd Tryz.prog 137 [PV.aM p,PV.mono m] (· =PV.rat (lL p m)):=by
 refine aE Qg Tryz.func137 ahX fun C hP=> ?_
 refine Sz0 ?_
 refine Ql okB [(6,6),(9,20)] [6] (fun q J hp=>∃i,q=p.length-i/\i<=p.length/\lL (p.drop i) m=lL p m/\J 9= .int .i64 (i:Nat)/\hp 4=some ⟨3,51,[.agg [.bool false,.al,.al]],false⟩) p.length ?_ ?_
 ·refine⟨0,rfl,by omega,rfl,?_⟩
  refine Sz0 ?_
  rfl
 rintro _ J h' ⟨i,rfl,hi,he,j9,b4⟩
 refine Sz1 j9 ?_
 refine Qa (fun hg=> ?_) (fun hg=> ?_)
 ·have ao:i<p.length:=by omega
  have ht:=hp _ (Kai ao)
  rw[aaE ao]at he
  have kD:=IC (o:=0) ht.m hm Oz
  rw[BH]at kD
  generalize hx:p[i]=t at *
  refine Sz2 j9 hx ?_
  refine Qb hP kD ?_
  refine Sz1 j9 ?_
  refine Qa (fun h0=> ?_) (fun h0=> ?_)
  ·rw[if_pos Oz]at he
   refine Sz1 b4 ?_
   refine cn ?_
   refine Sz0 ?_
   exact Qc (by rw[he]) rfl
  ·rw[if_neg Oz]at he
   refine Sz1 j9 ?_
   refine Qf (p.length-(i+1)) Oz ⟨i+1,rfl,by omega,he,?_⟩
   exact Tz1 b4
 ·obtain rfl:i=p.length:=by omega
  rw[Kdb]at he
  refine Sz0 ?_
  refine Qb hP (oW (x:=0) Oz Oz) ?_
  refine Sz1 b4 ?_
  refine cn ?_
  refine Sz0 ?_
  exact Qc (by rw[<-he];rfl) rfl
def tM(p:List Tm)(bs:List (List Int))(i k:Nat):Rat:=if i=k then lL p (bp (bs.getD i []) (bs.getD k []))else lL p (bp (bs.getD i []) (bs.getD k []))/2
def pV(p:List Tm)(bs:List (List Int))(j:Nat):Rat:=tM p bs (j/bs.length) (j%bs.length)
def iA(p:List Tm)(bs:List (List Int)):List Rat:=(List.range (bs.length*bs.length)).map (pV p bs)
theorem I1(p:List Tm)(bs:List (List Int)):(iA p bs).length=bs.length*bs.length:=by simp[iA]
theorem Jt{p:List Tm}{bs:List (List Int)}{i k:Nat}(hk:k<bs.length):pV p bs (i*bs.length+k)=tM p bs i k:=by
 have hR:0<bs.length:=by omega
 unfold pV
 rw[KbO,KcU,KaO hk,Kcn _ _ hR,KbY hk,Kbb]
def TJ:ay:=⟨53,[.cell 4 3 true],Zr (qd 4 .nil)<|Zr (Yo 9 1<|
 Yo 11 1<|
 Zo (.eA 13 [Zz 0,Zz 0,.al] [(0,1,.t 10),(1,1,.t 12)])<|
 qd 5<|
 .wk<| .wk<|Zs 3 5 13<|
 .wk .nil)<| .seq (Zr (YP 14 1)<| .block 0<| .loop<|Zr (Ys 17 16 15)<| .seq (.cond (.t 17) .skip (.exit 0))<| .seq (.block 1<|Zr (jH 18 16 6)<|Zr (YP 19 1)<| .block 2<| .loop<|Zr (Ys 22 21 20)<| .seq (.cond (.t 22) .skip (.exit 2))<| .seq (.block 3<|Zr (YW 23 21 7)<|Zr (YX 24 0 1 6<|
 YM 27 25 26<|
 Yn 29 1 7<|
 .br (Yr 33 96 28 32<|
 .br (Yr 34 137 24 33<|
 lR 8 34) (Yb 8<|
 ji 34 137 24 33 3 8)) (Yb 8<|
 Yr 33 96 28 32<|
 ji 34 137 24 33 3 8))<| .seq (Zr (Ye 35 6 7<|
 Zb 37 .neq 35 36 .nil)<| .cond (.t 37) (.rg (Zh 39 3 8<|
 Zq 40 true 61 [.c (Zz 2)]<|
 Yr 41 123 39 40<|
 Zm 38 41<|
 Yd 42 38<|
 Zs 3 8 42 .nil)) .skip)<| .rg (Yf 44 2 5<|
 Zh 46 3 8<|
 Zo (.bs 47 3 51 [.t 46])<|
 Zo (.app 48 3 56 51 (.t 45) (.t 47))<|
 Zf 49 2 5<|
 gK 1 49 48))<| .rg (Yw 50 21 21))<| .rg (Yw 51 16 16))<|Zr (Zh 52 3 5<|
 .wk<|jk 3 52) .ret⟩
theorem akA:Qe Tryz.prog Tryz.f74=some TJ.strip:=by kernel_rfl
abbrev Kj(n k:Nat):PV:= .bm [.int .i64 (n:Nat),.int .i64 (n:Nat),.aB 2000002 0 k]
theorem ahr{p:List Tm}{bs:List (List Int)}{K E F:Nat}(hp:PB K E p)(hb:∀b∈bs,MB F b)(hF:F<=1000)(hE:E<=2^29)(dm:p.length<=2^30)(sH:bs.length<=1000)(hK:K<=2^30)(Cg:1<=K):
  Qd Tryz.prog 74 [PV.aM p,PV.gR bs] (· =PV.bO bs.length bs.length (iA p bs)):=by
 have hz:([.agg [.int .i64 0,.int .i64 0,.al]]:List PV)≠[]:=by simp
 have Ah:∀x∈([.agg [.int .i64 0,.int .i64 0,.al]]:List PV),x.aU=x.cells:=fun x hx=>by rw[KaB.1 hx];rfl
 have Gy:bs.length*bs.length<=1000*1000:=KaY sH sH
 obtain⟨n,hn⟩:∃n,n=bs.length:=⟨_,rfl⟩
 refine rX Qg Tryz.func74 rfl akA Nz fun C hP=> ?_;simp only[TJ];refine ic ?_
 refine Sz0 ?_
 refine et (qG 5 2000001 cP Oz rfl Oz) ?_
 refine Sz0 ?_
 refine et (xd (γ:=2000001) (e:=3) (ty:=24) (fz:=false) Tz0 hz Oz Ah) ?_
 refine Sz0 ?_
 refine et (Jr (γ:=2000001) (e:=3) (ty:=24) (cs:=[.int .i64 (bs.length:Nat),.int .i64 (bs.length:Nat),.al]) (cs':=[.int .i64 (bs.length:Nat),.int .i64 (bs.length:Nat),.aB 2000002 0 0]) 2000002 3 51 Tz0 cP Oz Oz rfl (by simp)) ?_
 refine Sz0 ?_
 refine iz okB [(5,8),(16,51),(2000001,2000001)] [8,47,48] (fun q J hp=>∃i,q=bs.length-i/\i<=bs.length/\J 5= .np 2000001 0 0/\J 16= .int .i64 (i:Nat)/\J 2000001= .aF 2000001 3 24 [Kj bs.length (i*bs.length)]/\
  hp 4=some ⟨3,24,[.agg [.int .i64 0,.int .i64 0,.al]],false⟩/\hp 2000001=some ⟨3,24,[],false⟩/\hp 2000002=some ⟨3,51,((List.range (i*bs.length)).map (pV p bs)).map PV.rat,false⟩) bs.length ?_ ?_
 ·refine⟨0,rfl,by omega,?_⟩
  refine Sz1 @Nat.zero_mul ?_
  exact⟨rfl,rfl⟩
 rintro _ J h ⟨i,rfl,hi,j5,uF,jb,b4,hb1,hx⟩
 refine Sz1 uF ?_
 refine Qa (fun hc=> ?_) (fun hc=> ?_)
 ·have ao:i<bs.length:=by omega
  have Gr:i*bs.length+bs.length<=bs.length*bs.length:=by
   have:=Kah bs.length ao
   rw[Kcq]at this;exact this
  refine Sz6 j5 uF jb b4 hb1 hx ?_
  refine iz okB [(5,5),(7,8),(21,50),(2000001,2000001)] [8,47,48] (fun q J hp=>∃k,q=bs.length-k/\k<=bs.length/\J 5= .np 2000001 0 0/\J 21= .int .i64 (k:Nat)/\J 2000001= .aF 2000001 3 24 [Kj bs.length (i*bs.length+k)]/\
   hp 4=some ⟨3,24,[.agg [.int .i64 0,.int .i64 0,.al]],false⟩/\hp 2000001=some ⟨3,24,[],false⟩/\hp 2000002=some ⟨3,51,((List.range (i*bs.length+k)).map (pV p bs)).map PV.rat,false⟩) bs.length ?_ ?_
  ·refine⟨0,rfl,by omega,?_⟩
   refine Sz5 j5 jb b4 hb1 hx ?_
   rfl
  rintro _ J2 g ⟨k,rfl,hk,i5,i21,ib,g4,gb,gx⟩
  refine Sz1 i21 ?_
  refine Qa (fun pg=> ?_) (fun pg=> ?_)
  ·have cf:k<bs.length:=by omega
   have KJ:=Jt (p:=p) (i:=i) cf
   have m1:=hb _ (Kai ao)
   have m2:=hb _ (Kai cf)
   have e1:bs.getD i []=bs[i]:=by simp[ao]
   have e2:bs.getD k []=bs[k]:=by simp[cf]
   unfold tM at KJ
   rw[e1,e2]at KJ
   have Ci:((List.range (i*bs.length+k)).map (pV p bs)).length=i*bs.length+k:=by simp
   have sT:(List.range (i*bs.length+(k+1))).map (pV p bs)=(List.range (i*bs.length+k)).map (pV p bs)++[pV p bs (i*bs.length+k)]:=by
    rw[<-Nat.add_assoc,Kc3,Kbo];rfl
   rw[KJ]at sT
   have K4:=Su m1 m2 Oz
   have CL:=m1.mul m2
   generalize(List.range (i*bs.length+k)).map (pV p bs)=T at *
   generalize lz:bs[i]=x1 at *
   generalize ir:bs[k]=x2 at *
   have aa:=ah0 (p:=p) (m:=bp x1 x2) (K:=K) (E:=E+2000) (hp.mono Oz Oz) (CL.mono Oz) Oz Oz
   have dD:=Oa (m:=bp x1 x2) hp Cg
   generalize bp x1 x2=y at *
   generalize lL p y=c at *
   have Vf:=oW (x:=2) Oz Oz
   have jt:rs ((2:Int):Rat)<=1:=by decide+kernel
   have sJ:=zE (a:=c) (b:=((2:Int):Rat)) (k:=K+1) Oz Oz Oz (by decide+kernel)
   rw[show((2:Int):Rat)=2 from rfl]at Vf sJ
   refine Sz9 i5 i21 ib g4 gb gx uF lz ir ?_
   repeat' first
    |refine jO ?_ ?_
    |refine Qb hP K4 ?_
    |refine Qb hP aa ?_
    |simp+decide (disch:=try exact D6 i5 i21 ib g4 gb gx) only[go_sem,i5,i21,ib,g4,gb,gx]
   all_goals
    refine Qa (fun aH=> ?_) (fun heq=> ?_)
    ·rw[if_neg Oz]at sT
     refine Sz0 ?_
     refine Qb hP Vf ?_
     refine Sz0 ?_
     refine Qb hP sJ ?_
     generalize c/2=z at *
     refine Sz6 i5 i21 ib g4 gb gx ?_
     rw[H3 (f:=PV.rat) (y:=z) (xs:=T) (ty':=51) (fz:=false) (Tz1 gx) Tz0 Oz Ci.symm Oz Oz Oz]
     refine Sz6 i5 i21 ib g4 gb gx ?_
     refine fG (bs.length-(k+1)) Oz ⟨k+1,rfl,by omega,?_⟩
     rw[sT]
     refine Sz4 i5 ib g4 gb ?_
     rfl
    ·rw[if_pos Oz]at sT
     refine Sz6 i5 i21 ib g4 gb gx ?_
     rw[H3 (f:=PV.rat) (y:=c) (xs:=T) (ty':=51) (fz:=false) (Tz1 gx) Tz0 Oz Ci.symm Oz Oz Oz]
     refine Sz6 i5 i21 ib g4 gb gx ?_
     refine fG (bs.length-(k+1)) Oz ⟨k+1,rfl,by omega,?_⟩
     rw[sT]
     refine Sz4 i5 ib g4 gb ?_
     rfl
  ·have wb:k=bs.length:=by omega
   subst wb
   refine Sz1 uF ?_
   simp (disch:=decide) only[mB,oC,eP,oD]
   refine fG (bs.length-(i+1)) Oz ⟨i+1,rfl,by omega,?_⟩
   rw[show(i+1)*bs.length=i*bs.length+bs.length from Kcq _ _]
   exact Tz5 i5 ib g4 gb gx
 ·obtain rfl:i=bs.length:=by omega
  rw[show(List.range (bs.length*bs.length)).map (pV p bs)=iA p bs from rfl]at hx
  have xP:=I1 p bs
  refine Sz5 j5 jb b4 hb1 hx ?_
  refine Fq 52 2 [2000002] (p:=Kj bs.length (bs.length*bs.length)) Tz0 (D:=PV.bO bs.length bs.length (iA p bs)) ?_ ?_ rfl ?_
  ·intro c hc
   simp only[KaG,Kb7,or_false]at hc
   rcases hc with rfl|rfl|rfl
   ·trivial
   ·trivial
   ·simp only[pG,aP];simp
  ·show PV.agg [_,_,fO _ h 2 (.aB 2000002 0 _)]=_
   simp only[fO,hx,Ka6]
   rw[Kac (by rw[Kap];omega)]
  refine J8 j5 jb b4 hb1 hx ?_
  refine tp (cn ?_)
  refine qc b4 ?_
  exact Qc rfl rfl
end Go.Proofs.YtkoclfmjlolkhaaGreat
namespace Go.FW
open Go
variable {C : Ctx} {fr : Fr} {hp : HP} {w : World} {K R : Qh}
theorem EY{x y:RT}{sk:List It}(cb:eI R sk)(W:List (Nat×Nat))(B:List Nat)(M:Fr->HP->Prop)
  (h:tW C R x y (.el (lN W (cM B fr) M)::sk) (aR W fr (cM B fr)) hp) (hM:∀J hp,M J hp->vc C R sk (aR W J (cM B fr)) hp):tW C R x y sk fr hp:=by
 have key:∀(r:RT),vc C R (.o r:: .el (lN W (cM B fr) M)::sk) (aR W fr (cM B fr)) hp->vc C R (.o r::sk) fr hp:=by
  intro r hr
  refine Bz (M:=lN W (cM B fr) M) ?_ _ [.o r] _ _ (Kaf _) ?_
  ·rintro aC hp' ⟨J,h1,h2⟩
   exact mG cb.1 _ _ _ _ _ _ (Kaf _) cb.2 h1 (hM J hp' h2)
  ·exact mG cb.1 _ _ _ _ _ _ (Kaf _) (.o r (.el u9 cb.2)) (Fl W B) hr
 exact⟨key x h.1,key y h.2⟩
theorem adL{nm:Nat->Bool}{W:List (Nat×Nat)}{J F:Fr}:iU nm (aR W J F)=aR W (iU nm J) (iU nm F):=by
 funext s;unfold iU aR;split<;>rfl
theorem adM{nm:Nat->Bool}(h:∀x,nm x=true->2000000<=x){B:List Nat}{F:Fr}:iU nm (cM B F)=cM B F:=by
 funext s
 obtain⟨h1,h2,_,_⟩:=zn B F s
 show vv nm (cM B F s)=cM B F s
 unfold vv
 rw[if_neg]
 intro hn
 obtain⟨x,hx,ir⟩:=Ka4.1 hn
 have:=h x ir
 rcases KaK.1 hx with hx|hx
 ·have:=h1 x hx;simp[lD]at this;omega
 ·have:=h2 x hx;simp[mj,lD]at this;omega
theorem wP(R:Nat)(M:MF):∀k,(Qt R M k).ax.Pairwise (· < ·)
 |0=>List.Pairwise.nil
 | k+1=>by
  have h:=wP R M k
  have h2:=(kR R M k).2.2
  show(dM R (Qt R M k) k).ax.Pairwise (· < ·)
  unfold dM
  split
  ·exact h
  ·refine List.pairwise_append.2 ⟨h,by simp,fun a ha b hb=> ?_⟩
   rw[KaB.1 hb];exact h2 a ha
theorem Hz{l:List Nat}(h:l.Pairwise (· < ·)){i j:Nat}(qm:i<j)(hj:j<l.length):l[i]<l[j]:=KbL.1 h i j (by omega) hj qm
def GY(E:MF)(ax:List Nat)(k:Nat):Nat->(Nat->Rat)
 |0=>fun c=>if c=k then 1 else 0
 |j+1=>fun c=>if c=ax.getD j 0 then -(E j k)else GY E ax k j c
end Go.FW
