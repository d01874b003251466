/- Part 21 of the proof of InequalityPolys: Q19, CQ, P9, FwXA. Own lemmas; no conditions. -/
import Derived.Test.YtikalonaompbdaaGreatInequalityPolysPart20
set_option maxHeartbeats 1000000
set_option linter.all false
set_option maxRecDepth 100000
namespace Go.Proofs.YtikalonaompbdaaGreat
open Go Go.FW
open Go.Proofs.Tryz
def atw:ax:=⟨17,[.t 2],Zr (Zo (.box 1 4 99 (.t 0))<|Yf 2 0)<| .seq (Zr (Zf 3 0 1<|iB 4 3 3 77<|Zu 6 5<|Yx 7 6 3 1<|Zg 7 false (.call (some 10) false (.c (.fn 98 [] [])) [.t 9])<|Zg 7 false (.un 11 .not (.t 10))<|xy 12 7 11)<| .cond (.t 12) (Zr (Yf 2 1) .ret) .skip)<| .seq (Zr (cM 13 0 1 3<|Zq 15 false 19 [.t 14]<|Zk 16 .leq 15 0 .nil)<| .cond (.t 16) (Zr (Yf 2 2) .ret) .skip)<|Zr (Yf 2 0) .ret⟩
def apn:Qc Tryz.prog f246=some atw:=by kernel_rfl
def aut:ax:=⟨10,[.t 2],Zr (Yl 2)<|Zr (Yv 3 0<|Zk 5 .gtr 4 4000<|YE 6 5 0<|Zg 6 false (.call (some 8) false (.c (.fn 87 [] [])) [.t 7,.c (.fn 362 [] [])])<|Yk 9 6 8<|Zm 2 9 .nil) .ret⟩
def apo:Qc Tryz.prog f335=some aut:=by kernel_rfl
def auL:ax:=⟨6,[.t 2],Zr (Zo (.box 1 4 114 (.t 0))<|Yl 2)<|Zr (Zf 3 3 1<|Zl 4 1 3<|Zq 5 false 89 [.t 4,.c (.fn 363 [] [])]<|Zm 2 5 .nil) .ret⟩
def aoP:Qc Tryz.prog f362=some auL:=by kernel_rfl
def auM:ax:=⟨5,[.t 2],Zr (Yl 2)<|Zr (Zm 3 0<|Zk 4 .gtr 3 1048576<|Zm 2 4 .nil) .ret⟩
def aoQ:Qc Tryz.prog f363=some auM:=by kernel_rfl
def aty:ax:=⟨12,[.t 2,.t 3],Zr (Zo (.box 1 4 99 (.t 0))<|gz 2 0)<|Zr (dW 4 3 1 3 1<|cM 9 0 1 3<|Ys 8 151 5 7<|Ys 11 37 8 10<|Zm 2 11<|Yf 3 0) .ret⟩
def aoR:Qc Tryz.prog f248=some aty:=by kernel_rfl
def atx:ax:=⟨33,[.t 4,.t 5],Zr (gz 4 0)<|Zr (YI 6)<| .seq (Zr (dS 11 0)<| .block 0<| .loop<|Zr (Yu 14 13 12)<| .seq (.cond (.t 14) .skip (.exit 0))<| .seq (.block 1<|Zr (YL 15 11 13 8 99)<|Zr (Zm 18 1<|Zh 19 4 8<|Zo (.call (some 20) false (.t 18) [.t 19])<|Zm 17 20<|Yd 21 17<|Zm 9 21<|Zm 10 22 .nil)<| .seq (Zr (YQ 23 10)<| .cond (.t 24) (Zr (Zm 25 10<|Yi 4<|Yc 5 25) .ret) .skip)<|Zr (Yh 26 6 9<|Zq 28 false 40 [.t 26,.t 27]<|Yc 6 28)<|Zr (YJ 29 6 335 .nil)<| .cond (.t 30) (Zr (gz 4 4) .ret) .skip)<| .rg (YC 31 13 13))<|Zr (Zm 32 6<|Zm 4 32<|Yf 5 0) .ret⟩
def aoS:Qc Tryz.prog f247=some atx:=by kernel_rfl
def aso:ax:=⟨23,[.t 2,.t 3],Zr (gz 2 0)<| .seq (Zr (dS 7 0)<| .block 0<| .loop<|Zr (Yu 10 9 8)<| .seq (.cond (.t 10) .skip (.exit 0))<| .seq (.block 1<|Zr (YL 11 7 9 5 99)<|Zr (iB 13 4 5 246<|Zm 6 14 .nil)<|Zr (YQ 15 6)<| .cond (.t 16) (Zr (Zm 17 6<|Yi 2<|Yc 3 17) .ret) .skip)<| .rg (YH 18 9 9))<|Zr (Zm 19 0<|Zq 20 false 247 [.t 19,.c (.fn 248 [] [])]<|Yd 21 20<|ic 2 21 22) .ret⟩
def aoT:Qc Tryz.prog f129=some aso:=by kernel_rfl
def c68:ax:=⟨24,[.t 4],Zr (Yf 4 0)<|Zr (YJ 8 1 129<|Zm 7 9<|Yd 10 7<|Zm 5 10<|Zm 6 11 .nil)<| .seq (Zr (YQ 12 6)<| .cond (.t 13) (Zr (kO 14 6 4) .ret) .skip)<| .seq (Zr (YJ 15 0 98<|Zu 17 16<|YE 18 17 0<|Zg 18 false (.mv 20 (.t 5))<|Zg 18 false (.call (some 21) false (.c (.fn 130 [] [])) [.t 19,.t 20])<|Zg 18 false (.un 22 .not (.t 21))<|xy 23 18 22)<| .cond (.t 23) (Zr (Yf 4 17) .ret) .skip)<|Zr (Yf 4 0) .ret⟩
def ad3:Qc Tryz.prog f68=some c68:=by kernel_rfl
def as6:ax:=⟨49,[.t 4],Zr (my 3 145 1<|Yf 4 0)<| .seq (Zr (iB 9 3 3 277<|Zu 11 10 .nil)<| .cond (.t 11) (Zr (Yf 4 1) .ret) .skip)<| .seq (Zr (dS 12 0)<| .block 0<| .loop<|Zr (Yu 15 14 13)<| .seq (.cond (.t 15) .skip (.exit 0))<| .seq (.block 1<|Zr (Yw 16 12 14<|Zm 6 17 .nil)<|Zr (YJ 18 6 178<|Zu 20 19 .nil)<| .cond (.t 20) (Zr (Yf 4 1) .ret) .skip)<| .rg (YH 21 14 14))<|Zr (iB 23 3 3 278<|Zm 22 24<|Yd 25 22<|fc 7<|Zs 3 7 25<|Yc 8 26)<| .seq (Zr (Ya 27 0 3<|Yv 29 0<|Zb 31 .neq 28 30<|Yx 32 31 1 3<|Zg 32 false (.mv 35 (.t 0))<|Zg 32 false (.len 36 (.t 35))<|Zg 32 false (.bin 37 .neq false (.t 34) (.t 36))<|Yk 38 32 37<|YE 39 38 8<|Zg 39 false (.bin 41 .neq false (.t 40) (.c (Zz 0)))<|Yk 42 39 41<|Zm 43 42<|Zg 43 false (.ld 44 3 true (.t 3))<|Zg 43 false (.ld 45 3 true (.t 7))<|Zg 43 false (.call (some 46) false (.c (.fn 279 [] [])) [.t 44,.t 45])<|Zg 43 false (.un 47 .not (.t 46))<|xy 48 43 47)<| .cond (.t 48) (Zr (Yf 4 16) .ret) .skip)<|Zr (Yf 4 0) .ret⟩
def aoV:Qc Tryz.prog f183=some as6:=by kernel_rfl
def ar7:ax:=⟨73,[.t 4,.t 5],Zr (my 3 145 1<|gz 4 0)<| .seq (Zr (Zm 16 0<|Zh 17 3 3<|Yp 18 183 16 17<|Zm 6 18 .nil)<|Zr (YQ 19 6)<| .cond (.t 20) (Zr (Zm 21 6<|Yi 4<|Yc 5 21) .ret) .skip)<|Zr (iB 23 3 3 184<|Zm 22 24<|Yd 25 22<|Zo (.ext 27 (.t 22) 2)<|fc 8<|Zm 7 25<|Zs 3 8 26<|Yc 9 27)<| .seq (Zr (YQ 28 9)<| .cond (.t 29) (Zr (Zm 30 9<|Yi 4<|Yc 5 30) .ret) .skip)<|Zr (YI 10)<| .seq (Zr (dS 31 7)<| .block 0<| .loop<|Zr (Yu 34 33 32)<| .seq (.cond (.t 34) .skip (.exit 0))<| .seq (.block 1<|Zr (Zm 35 33<|YG 36 3 31 33<|Ye 12<|Zm 11 35<|Zs 3 12 37 .nil)<| .seq (Zr (iB 38 3 12 19<|Zk 40 .lss 39 0 .nil)<| .cond (.t 40) (Zr (gz 4 17) .ret) .skip)<|Zr (YI 13)<| .seq (Zr (dS 41 0)<| .block 2<| .loop<|Zr (Yu 44 43 42)<| .seq (.cond (.t 44) .skip (.exit 2))<| .seq (.block 3<|Zr (Zm 45 43<|Yw 46 41 43<|ic 14 45 47)<| .rg (Zm 48 13<|eF 49 2 8 11<|Ya 52 1 8<|Zb 54 .mul 51 53<|Zm 55 14<|Zb 56 .add 54 55<|YG 57 3 50 56<|Zm 59 15<|YP 60 58 59<|YA 61 4 114 60 80 48<|Yc 13 62))<| .rg (YC 63 43 43))<| .rg (Zm 64 10<|sV 65 3 12 13<|nQ 67 185 66<|YP 68 65 67<|Zo (.bs 69 4 99 [.t 68])<|Zo (.app 70 4 80 99 (.t 64) (.t 69))<|Yc 10 70))<| .rg (YC 71 33 33))<|Zr (Zm 72 10<|Zm 4 72<|Yf 5 0) .ret⟩
def aoW:Qc Tryz.prog f102=some ar7:=by kernel_rfl
variable{n:Nat}{p:List Tm}
def Q7i{a:Rat}(hB:1+rs a*n<=2^33)(hn:n<=2^40)(ha:rs a<=2^33):AC 366 [PV.rat a,.int .i64 n] (· =PV.rat (eD a n)):=by
 have h1:=ph;have jC:((1:Int):Rat)=1:=rfl;refine aF Qd func366 anA λC hP=>?_;refine ay hP (vb (x:=1) Oz Oz) ?_;refine Sz0 ?_;refine Qh eO [(1,1),(7,21)] [] (λm J hp=>∃x o:Rat,m<=n/\rs o+rs x*m<=2^33/\o*eD x m=eD a n/\J 1= .int .i64 (m:Nat)/\hp 2=some ⟨3,49,[PV.rat x],false⟩/\hp 4=some ⟨3,49,[.agg [.bool false,.aa,.aa]],false⟩/\hp 5=some ⟨3,49,[PV.rat o],false⟩) n ?_ ?_
 .refine⟨a,((1:Int):Rat),Oz,by rw[jC];omega,by rw[jC];grind,?_⟩;refine Sz0 ?_;rfl
 rintro m J h ⟨x,o,hm,cU,hq,hJ,eZ,gh,cq⟩;refine aZ @hJ (λhg=>?_) (λhg=>?_)
 .have hx:rs x<=rs x*m:=Kb7 _ Oz;have e2:(2:Int)=((2:Nat):Int):=rfl;have uM:∀d fr hp K,cJ .rem false (.int .i64 (m:Int)) (.int .i64 2) d fr hp K=K (ae fr d (.int .i64 ((m%2:Nat):Int))) hp:=λd fr hp K=>by rw[e2,sw Oz]
  have uJ:∀d fr hp K,cJ .quo false (.int .i64 (m:Int)) (.int .i64 2) d fr hp K=K (ae fr d (.int .i64 ((m/2:Nat):Int))) hp:=λd fr hp K=>by rw[e2,Ht Oz Oz]
  have I2:=mO x x;have hom:=mO o x;have qH:rs (x*x)*(m/2)<=rs x*(2*(m/2)):=by rw[<-Nat.mul_assoc];exact Kap _ Oz
  refine Sz5 @hJ eZ cq uM uJ ?_;refine Qm (λh2=>?_) (λh2=>?_)
  .have axD:m%2=1:=Oz;have Ot:o*x*eD (x*x) (m/2)=eD a n:=by rw[<-hq,<-Q3p axD];grind
   have Ou:m=1->o*x*eD x (1/2)=eD a n:=λh=>by rw[<-hq,h];show o*x*1=o*eD x 1;rw[ajR];grind
   have pI:rs x*m=rs x*(2*(m/2))+rs x:=by rw[show m=2*(m/2)+1 by omega,Ka0,KbR];congr 2;omega
   refine kN @hJ eZ cq uM uJ hP (nI (a:=o) (b:=x) (k:=2^33) Oz Oz Oz) ?_;refine Sz5 @hJ eZ cq uM uJ ?_;refine Qm (λh3=>?_) (λh3=>?_)
   .refine kN @hJ eZ cq uM uJ hP (nI (a:=x) (b:=x) (k:=2^33) Oz Oz Oz) ?_;refine Sz5 @hJ eZ cq uM uJ ?_;refine Qe (m/2) Oz ⟨x*x,o*x,Oz,Oz,Ot,?_⟩;exact Tz3 eZ gh cq
   .obtain rfl:m=1:=by omega
    refine Sz5 @hJ eZ cq uM uJ ?_;refine Qe (1/2) Oz ⟨x,o*x,Oz,Oz,(Ou rfl),?_⟩;exact Tz3 eZ gh cq
  .have awQ:m%2=0:=Oz;have Ot:o*eD (x*x) (m/2)=eD a n:=by rw[<-hq,<-Q0w awQ]
   have Ou:m=1->o*eD x (1/2)=eD a n:=λh=>by omega
   have pI:rs x*m=rs x*(2*(m/2)):=by congr 1;omega
   refine Sz5 @hJ eZ cq uM uJ ?_;refine Qm (λh3=>?_) (λh3=>?_)
   .refine kN @hJ eZ cq uM uJ hP (nI (a:=x) (b:=x) (k:=2^33) Oz Oz Oz) ?_;refine Sz5 @hJ eZ cq uM uJ ?_;refine Qe (m/2) Oz ⟨x*x,o,Oz,Oz,Ot,?_⟩;exact Tz3 eZ gh cq
   .obtain rfl:m=1:=by omega
    refine Sz5 @hJ eZ cq uM uJ ?_;refine Qe (1/2) Oz ⟨x,o,Oz,Oz,(Ou rfl),?_⟩;exact Tz3 eZ gh cq
 .obtain rfl:m=0:=by omega
  have l8:o=eD a n:=by rw[<-hq,L6];grind
  refine Sz3 eZ gh cq ?_;refine cx ?_;refine Sz0 ?_;exact Qb (by rw[l8]) rfl
def Q9k{vs:List Rat}{K E W:Nat}(hp:PB K E p)(hv:∀v∈vs,rs v<=W)(hW:1<=W)(hB:1+p.length*(K+64*(1+W*E))+(K+64*(1+W*E))<=2^33)(hE:E<=2^38)(dC:p.length<=2^36)(hlv:vs.length<=2^36):
  AC 349 [PV.aC p,PV.cg vs] (· =Im vs p):=by
 have h0:((0:Int):Rat)=0:=rfl;refine aF Qd func349 anB λC hP=>?_;refine Sz0 ?_;refine Qh eO [(5,5),(7,7),(16,27)] [7] (λn J hp=>∃i,n=p.length-i/\i<=p.length/\(∀t∈p.take i,¬vs.length<t.2.length)/\J 16= .int .i64 (i:Nat)/\hp 4=some ⟨3,49,[.agg [.bool false,.aa,.aa]],false⟩) p.length ?_ ?_
 .refine⟨0,rfl,Oz,by simp,?_⟩;refine Sz0 ?_;rfl
 rintro _ J h ⟨i,rfl,hi,h1,qB,gh⟩;refine aZ qB (λhg=>?_) (λhg=>?_)
 .have au:i<p.length:=Oz;have dv:=hp.get au;have eV:=Kad au;have bl:p.take (i+1)=p.take i++[p[i]]:=Kam au;generalize hx:p[i]=x at *
  have qN:=dv.m.len;have htr:=Rx dv.l;refine bE qB hx hP (Q81 (a:=x.2) Oz) ?_;rw[htr];refine cH qB hx (λhc=>?_) (λhc=>?_)
  .have ho:Aj vs p=true:=by unfold Aj;rw[KaJ];exact⟨x,eV,decide_eq_true Oz⟩
   refine Sz1 gh ?_;refine nH ?_;refine Sz0 ?_;exact ek (p':=PV.rr false [] []) (q':=.int .i64 2) (by rw[Im,if_pos ho]) rfl rfl ⟨rfl,trivial,trivial,trivial⟩ (Qi _)
  .refine Sz1 qB ?_;refine Qe (p.length-(i+1)) Oz ⟨i+1,rfl,Oz,?_,?_⟩
   .rw[bl];intro z hz;rcases KaN.1 hz with hz|hz
    .exact h1 z hz
    .simp only[Kax]at hz;subst hz;omega
   .exact Tz1 gh
 .obtain rfl:i=p.length:=by omega
  rw[KaQ]at h1;have ho:Aj vs p=false:=by unfold Aj;rw[KbP];intro t ht;simpa using h1 t ht
  refine gE gh hP (vb (x:=0) Oz Oz) ?_;refine Sz1 gh ?_;refine Qh eO [(10,13),(31,59)] [10,11] (λn J hp=>∃i,n=p.length-i/\i<=p.length/\J 31= .int .i64 (i:Nat)/\hp 4=some ⟨3,49,[.agg [.bool false,.aa,.aa]],false⟩/\hp 8=some ⟨3,49,[PV.rat (rE vs (p.take i))],false⟩) p.length ?_ ?_
  .refine⟨0,rfl,Oz,?_⟩;refine Sz1 gh ?_;exact⟨rfl,rfl⟩
  rintro _ J1 jC ⟨i,rfl,IU,pC,N6,N7⟩;refine aZ pC (λuB=>?_) (λuB=>?_)
  .have au:i<p.length:=Oz;have dv:=hp.get au;have eM:=h1 _ (Kad au);have bl:=WK (vs:=vs) au;have hrp:=RM hp hv hW i Oz;generalize hx:p[i]=x at *
   have qN:=dv.m.len;have hxc:=dv.c;have azQ:i*(K+64*(1+W*E))<=p.length*(K+64*(1+W*E)):=Kap _ IU;have ZJ:=λj=>Kv (vs:=vs) dv.m hv hW x.1 j
   have Zw:∀j,j<=x.2.length->j*(1+W*E)<=64*(1+W*E):=λj hj=>Kap _ Oz
   refine Sz2 pC hx ?_;refine Qh eO [(12,13),(40,55)] [] (λn J hp=>∃j,n=x.2.length-j/\j<=x.2.length/\J 40= .int .i64 (j:Nat)/\hp 4=some ⟨3,49,[.agg [.bool false,.aa,.aa]],false⟩/\hp 8=some ⟨3,49,[PV.rat (rE vs (p.take i))],false⟩/\hp 11=some ⟨3,49,[PV.rat (x.1*mo vs x.2 j)],false⟩) x.2.length ?_ ?_
   .refine⟨0,rfl,Oz,?_⟩;have e0:x.1*mo vs x.2 0=x.1:=by show x.1*1=x.1;grind
    rw[e0];refine Sz2 N6 N7 ?_;rfl
   rintro _ J2 h2 ⟨j,rfl,hj,uw,N9,IY,zE⟩;refine aZ uw (λgF=>?_) (λgF=>?_)
   .have dz:j<x.2.length:=Oz;have zB:=mQ dz;have hjb:=dv.m.eN j;have I3:mo vs x.2 (j+1)=mo vs x.2 j*eD (vs.getD j 0) (eN x.2 j).toNat:=rfl;generalize hy:x.2[j]=y at *
    obtain⟨m,rfl⟩:∃m:Nat,y=m:=⟨y.toNat,Oz⟩
    rw[zB,Kbi]at I3;rw[zB]at hjb;refine cH uw hy (λhz=>?_) (λhz=>?_)
    .have ZB:j<vs.length:=Oz;have hvg:vs.getD j 0=vs[j]:=by simp[Kac,ZB]
     have hvw:=hv _ (Kad ZB);rw[hvg]at I3;generalize uQ:vs[j]=v at *
     have Jh:rs v*m<=W*E:=KaZ hvw Oz;have wx:rs v<=rs v*m:=Kb7 _ Oz;have hqp:=Ku v m;have wh:=ZJ j;have pI:=Zw j hj;refine gy uw hy zE uQ hP (Q7i (a:=v) (n:=m) Oz Oz Oz) ?_;refine gy uw hy zE uQ hP (nI (a:=x.1*mo vs x.2 j) (b:=eD v m) (k:=2^33) Oz Oz Oz) ?_;refine Sz4 uw hy zE uQ ?_;refine Qe (x.2.length-(j+1)) Oz ⟨j+1,rfl,Oz,?_⟩;have e1:x.1*mo vs x.2 (j+1)=x.1*mo vs x.2 j*eD v m:=by rw[I3];grind
     rw[e1];exact Tz2 N9 IY
    .obtain rfl:m=0:=by omega
     refine Sz2 uw hy ?_;refine Qe (x.2.length-(j+1)) Oz ⟨j+1,rfl,Oz,?_⟩;have e1:x.1*mo vs x.2 (j+1)=x.1*mo vs x.2 j:=by rw[I3,L6];grind
     rw[e1];exact Tz3 N9 IY zE
   .obtain rfl:j=x.2.length:=by omega
    have wh:=ZJ x.2.length;have pI:=Zw x.2.length (Kag _);have Ow:=o7 (rE vs (p.take i)) (x.1*ye vs x.2);rw[show mo vs x.2 x.2.length=ye vs x.2 from rfl]at zE wh;refine gy pC uw IY zE hP (tY (a:=rE vs (p.take i)) (b:=x.1*ye vs x.2) (k:=2^33) Oz Oz Oz) ?_;refine Sz4 pC uw IY zE ?_;simp (disch:=decide) only[iM,gY];refine Qe (p.length-(i+1)) Oz ⟨i+1,rfl,Oz,?_⟩;rw[bl];exact Tz1 N9
  .obtain rfl:i=p.length:=by omega
   rw[KaQ]at N7;refine Sz2 N6 N7 ?_;refine nH ?_;refine Sz0 ?_;exact ek (by rw[Im,if_neg (by simp[ho])]) rfl rfl (Qi _) (Qi _)
end Go.Proofs.YtikalonaompbdaaGreat
namespace Go.FW
open Go
variable{i n:Nat}
structure dB where
 n:Bool
 a:List Nat
 d:List Nat
 p:List bO
instance : Inhabited dB := ⟨⟨false, [], [], []⟩⟩
abbrev PV.gW(s:dB):PV:=.agg [.bool s.n,PV.nat s.a,PV.nat s.d,PV.tD s.p]
abbrev Sq:=Rat×List Tm
abbrev PV.sq(x:Sq):PV:=.agg [.bool (decide (x.1.num<0)),PV.num x.1.num.natAbs,PV.num x.1.den,PV.aC x.2]
def dB.sq(s:dB):Sq:=(rv s.n s.a s.d,s.p.map bO.tm)
def ke(s:dB):Int:=if fL s.n s.a s.d=true then(if eC s.p=true then(if 0<rv s.n s.a s.d then 0 else 2)else 1)else 1
def mP:List dB->Int
 | []=>0
 |s::l=>if ke s=0 then mP l else ke s
def VR{l:List dB}(h:i<l.length):mP (l.drop i)=if ke l[i]=0 then mP (l.drop (i+1))else ke l[i]:=by rw[KaB h];rfl
def mJ(x:Sq):List Tm:=ee (dD x.2 x.2) x.1
def ia(l:List Sq):List Tm:=l.foldl (λo x=>Qp o (mJ x)) []
def lV:List Sq->List Tm->Option (List Tm)
 | [],o=>some o
 |x::l,o=>if ku (Qp o (mJ x))=true then none else lV l (Qp o (mJ x))
def G5{l:List Sq}(h:i<l.length):ia (l.take (i+1))=Qp (ia (l.take i)) (mJ l[i]):=by unfold ia;rw[Kam h,List.foldl_append];rfl
def L4{l:List Sq}(o:List Tm)(h:i<l.length):lV (l.drop i) o=if ku (Qp o (mJ l[i]))=true then none else lV (l.drop (i+1)) (Qp o (mJ l[i])):=by rw[KaB h];rfl
abbrev PV.nu(r:List Tm×Int):PV:=.aI [PV.aC r.1,.int .i64 r.2]
def vN:Option (List Tm)->List Tm×Int
 |some r=>(r,0)
 |none=>([],4)
def kL(l:List dB):List Tm×Int:=if mP l=0 then vN (lV (l.map dB.sq) [])else([],mP l)
structure vO(K E n:Nat)(x:Sq):Prop where
 w:rs x.1+1<=K
 b:PB K E x.2
 l:x.2.length<=n
 n:cu x.2
def KW{K E:Nat}{x:Sq}(h:vO K E n x):PB (n*(K+K)+K) (E+E) (mJ x)/\(mJ x).length<=n*n/\cu (mJ x):=by have h1:=GD h.b h.b;have h2:=yH h.n.s h.n.s;have h3:=Mj (a:=x.1) (L:=K) h1.1 h.w;have h4:=FZ (dD x.2 x.2) x.1;have h5:=KaZ h.l h.l;have h6:min x.2.length x.2.length*(K+K)<=n*(K+K):=Kap _ (by have:=h.l;omega);exact⟨h3.mono Oz Oz,by unfold mJ;omega,ri h2.s _⟩
def AS{K E n:Nat}{l:List Sq}(h:∀x∈l,vO K E n x):∀i,i<=l.length->PB ((n*(K+K)+K)*i) (E+E) (ia (l.take i))/\(ia (l.take i)).length<=n*n*i/\cu (ia (l.take i))
 |0,_=>⟨by simp[ia,PB.nil],by simp[ia],by simp[ia,cu.nil]⟩
 |i+1,hi=>by obtain⟨h1,h2,h3⟩:=AS h i Oz;obtain⟨g1,g2,g3⟩:=KW (h _ (Kad (show i<l.length by omega)));rw[G5 Oz];have:=Gl (ia (l.take i)) (mJ l[i]);rw[Nat.mul_succ,Nat.mul_succ];exact⟨Hw _ _ h1 g1,Oz,yG h3 g3⟩
end Go.FW
