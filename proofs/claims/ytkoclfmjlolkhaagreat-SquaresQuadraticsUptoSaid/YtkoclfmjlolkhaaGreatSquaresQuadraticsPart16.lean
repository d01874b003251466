/- Part 16 of the proof of SquaresQuadratics: W9, Q12, Q13, L6, B22, B26, B27, FwXD. Own lemmas; no conditions. -/
import Derived.Test.YtkoclfmjlolkhaaGreatSquaresQuadraticsPart15
set_option maxHeartbeats 1000000
set_option linter.unusedSimpArgs false
set_option linter.unusedVariables false
set_option linter.unnecessarySimpa false
set_option maxRecDepth 100000
namespace Go.Proofs.YtkoclfmjlolkhaaGreat
open Go Go.FW
theorem ahv(v:Nat):aai v=bQ v 1:=rfl
theorem VA{v:Nat}(hv:v<64):Qd Tryz.prog 67 [.int .i64 v] (· =PV.aL (ic v)):=by
 have ka:(List.replicate (v+1) (0:Int)).set v 1=bQ v 1:=L6 v 1 rfl;have ES:v<(List.replicate (v+1) (0:Int)).length:=by simp
 have tl:=mT;have ee:(bQ v 1).length=v+1:=by simp[bQ]
 have fg:=(K2 (p:=[]) (m:=bQ v 1) (K:=1) (E:=1) (k:=4) (PB.nil _ _) trivial (by simp[NZ]) (fO (q:=((1:Int):Rat)) (k:=4) (by rw[show((1:Int):Rat)=1 from rfl];omega)) Oz (Jo hv) (O2 Oz) Oz Oz (by simp)).le (args':=[.au,PV.rat ((1:Int):Rat),PV.mono (bQ v 1)]) ⟨trivial,Ql _,Ql _,trivial⟩;rw[eA]at fg;have e:lC [] ((1:Int):Rat) (bQ v 1)=ic v:=by rw[lC,yt,if_neg (by decide),ic,if_neg Oz,Kcq,ahv];rfl
 rw[e]at fg;refine aE Qg Tryz.func67 ans fun C hP=>?_;refine Sz0 ?_;refine fb (fun h=>by omega) (fun _=>?_);refine Sz0 ?_;refine Qa (fun h=>by omega) (fun _=>?_);refine Sz1 ka ?_;refine Qb hP (qn (x:=1) Oz Oz) ?_;generalize((1:Int):Rat)=c at *
 refine Sz0 ?_;refine ln hP fg (by simp+decide (disch:=try exact E0) only[go_sem,ek,Kaw,KaD,Kav,KaB,Kam];simp[Kac,ee]) rfl ?_;refine Sz0 ?_;exact Qc rfl rfl
def c21:ay:=⟨73,[.t 0],Zr (Yh 0)<|Zr (iA 10 67 0<|
 iA 11 67 1<|
 Zm 1 10<|
 Zm 2 11 .nil)<|Zr (YK 12 1 2 68<|
 Zm 3 14 .nil)<|Zr (YK 16 3 3 69<|
 Zq 19 false 22 [.t 18]<|
 Zm 15 19<|
 xh 20 15 4 6)<|Zr (YK 24 1 1 69<|
 iA 27 50 1<|
 Yl 28 70 27<|
 Yn 29 68 26 28<|
 Yl 30 22 29<|
 Zm 23 30<|
 xh 31 23 7 9)<| .seq (Zr (Zm 34 6<|
 Zk 35 .neq 34 0<|
 Yw 36 35 9<|
 Zg 36 false (.bin 38 .neq false (.t 37) (.c (Zz 17)))<|
 Yk 39 36 38<|
 sR 40 39 4<|
 Zg 40 false (.bin 43 .neq false (.t 42) (.c (Zz 1)))<|
 Yk 44 40 43<|
 sR 45 44 8<|
 Zg 45 false (.bin 48 .neq false (.t 47) (.c (Zz 1)))<|
 fQ 49 45 48)<| .cond (.t 49) (Zr (Yh 0) .ret) .skip)<|Zr (Zm 50 4<|
 Zo (.idx 51 4 (.t 50) (.c (Zz 0)))<|
 YP 52 51 3<|
 Zq 54 true 50 [.c (Zz 1)]<|
 Yr 55 49 53 54<|
 YN 56 55 4<|
 Zg 56 true (.idx 58 4 (.t 57) (.c (Zz 0)))<|
 Zg 56 true (.gI 59 3 (.t 58))<|
 Zg 56 true (.ld 60 1 false (.t 59))<|
 Zg 56 true (.mv 61 (.t 3))<|
 Zg 56 true (.call (some 62) true (.c (.fn 40 [] [])) [.t 60,.t 61])<|
 Zg 56 true (.mv 63 (.t 62))<|
 Zg 63 false (.mv 64 (.t 4))<|
 Zg 63 false (.idx 65 4 (.t 64) (.c (Zz 0)))<|
 Zg 63 false (.gI 66 3 (.t 65))<|
 Zg 63 false (.ld 67 1 false (.t 66))<|
 Zg 63 false (.mv 68 (.t 3))<|
 Zg 63 false (.call (some 69) true (.c (.fn 71 [] [])) [.t 68])<|
 Zg 63 false (.call (some 70) true (.c (.fn 40 [] [])) [.t 67,.t 69])<|
 Zg 56 true (.pick 71 (.t 63) (.c (.bool true)) (.t 70))<|
 Yq 72 56 71<|
 Ye 0 72) .ret⟩
theorem anO:Qe Tryz.prog Tryz.f21=some c21:=by kernel_rfl
def aD:List Tm:=Of (ic 0) (ic 1)
def y4:List Tm:=hO aD aD
def xj:List Tm:=Of (hO (ic 0) (ic 0)) (tM 1)
def y3:List (List Int):=[[1],[0,1],[]]
def uk:List (List Int):=[[1],[]]
def sT:List Rat:=[1,-1,0,-1,1,0,0,0,0]
def oD:List Rat:=[1,0,0,-1]
theorem Mw:aF y4=y3:=by decide+kernel
theorem Mx:aF xj=uk:=by decide+kernel
theorem ao4:eR y4 y3=sT:=by decide+kernel
theorem ao5:eR xj uk=oD:=by decide+kernel
theorem aon:((Qx 3 (Qq sT 3) (2*3)).2.all fun f=>decide (0<=f.1))=true:=by decide+kernel
theorem aca:(Qx 3 (Qq sT 3) (2*3)).2.map (dq y3)=[(1,aD)]:=by decide+kernel
theorem aoo:((Qx 2 (Qq oD 2) (2*2)).2.all fun f=>decide (0<=f.1))=false:=by decide+kernel
theorem ao9:(Qx 2 (Qq oD 2) (2*2)).2.map (·.1)=[1,-1]:=by decide+kernel
theorem ao3:dj 2 (Qx 2 (Qq oD 2) (2*2)).2=[1,0,0,1]:=by decide+kernel
theorem ao6:(Qx 2 (Qq oD 2) (2*2)).2.length=2:=by decide+kernel
theorem ao1:pH y3 3 3 (sT.map qR)=0:=by decide+kernel
theorem ao2:pH uk 2 2 (oD.map qR)=0:=by decide+kernel
theorem ao7:mV (Qq sT 3) 3:=by decide+kernel
theorem ao8:mV (Qq oD 2) 2:=by decide+kernel
theorem acb:dz (y4.map eM)=true:=by decide+kernel
theorem acd:dz (xj.map eM)=true:=by decide+kernel
theorem UL{p:List Tm}(hb:PB 10 10 p)(hl:p.length<=10)(h:dz (p.map eM)=true):Qd Tryz.prog 72 [PV.aL p] (· = .bool true):=by
 have h1:=Cp (l:=p.map eM) (k:=10) (fun t ht=>by obtain⟨s,hs,rfl⟩:=Kaq.1 ht;have:=(hb s hs).c;exact yH Oz (by have:=(hb s hs).m.len;omega)) Oz Oz (by rw[Kal];omega)
 rwa[yu,h]at h1
theorem RL{l:List Rat}(h:∀q∈l,rs q<=3)(hl:l.length<=25):ny (l.map qR):=⟨by rw[Kal];omega,mj.of fun q hq=>by have:=h q hq;omega⟩
theorem ace:Qd Tryz.prog 29 [PV.fK y3,PV.a9 3 3 sT] (· = .aH [PV.cY [(1,aD)],.int .i64 0]):=by
 have hs:∀q∈sT,rs q<=3:=by decide+kernel
 have c:=Lx (bs:=y3) (r:=3) (c:=3) (by decide) (by decide) (RL hs (by decide));rw[ao1]at c;have hm:PV.a9 3 3 sT=PV.lj 3 3 (sT.map qR):=sB 3 3 sT;rw[<-hm]at c;obtain⟨fs,kW,d1,_,d3,d4⟩:=RI (R:=3) (la:=sT) (by decide) Oz hs ao7;have h:=Ky (K:=50421) (R:=3) (bs:=y3) ⟨rfl,by decide,by omega,by omega,d4,by omega,by omega⟩ c d1;rw[kW,jW,if_pos aon,aca]at h;exact h
theorem TR:Qd Tryz.prog 48 [PV.a9 2 2 oD] (· = .aH [PV.bj [1,-1],PV.a9 2 2 [1,0,0,1],.int .i64 0])/\Qd Tryz.prog 29 [PV.fK uk,PV.a9 2 2 oD] (· = .aH [PV.cY [],.int .i64 17]):=by
 have hs:∀q∈oD,rs q<=3:=by decide+kernel
 have c:=Lx (bs:=uk) (r:=2) (c:=2) (by decide) (by decide) (RL hs (by decide));rw[ao2]at c;have hm:PV.a9 2 2 oD=PV.lj 2 2 (oD.map qR):=sB 2 2 oD;rw[<-hm]at c;obtain⟨fs,kW,d1,_,d3,d4⟩:=RI (R:=2) (la:=oD) (by decide) Oz hs ao8;have h:=Ky (K:=50421) (R:=2) (bs:=uk) ⟨rfl,by decide,by omega,by omega,d4,by omega,by omega⟩ c d1;rw[kW,jW,if_neg (by rw[aoo];decide)]at h;rw[kW,qL,ao9,ao6,ao3]at d1;exact⟨d1,h⟩
theorem als:Ah (Qt 2 (bS (Qq [1,0,0,1] 2) (gZ [0,1]) 2) 2) 2 2= .aH [PV.bj [0,1],.int .i64 0]:=by
 have h0:∀r,r<2->(Qt 2 (bS (Qq [1,0,0,1] 2) (gZ [0,1]) 2) 2).ak.length<=r->(Qt 2 (bS (Qq [1,0,0,1] 2) (gZ [0,1]) 2) 2).M r 2=0:=by
  have e:(Qt 2 (bS (Qq [1,0,0,1] 2) (gZ [0,1]) 2) 2).ak.length=2:=by decide+kernel
  intro r hr h;omega
 rw[Ah,if_pos h0];have e:(List.range 2).map (fI (Qt 2 (bS (Qq [1,0,0,1] 2) (gZ [0,1]) 2) 2).M (Qt 2 (bS (Qq [1,0,0,1] 2) (gZ [0,1]) 2) 2).ak 2 (Qt 2 (bS (Qq [1,0,0,1] 2) (gZ [0,1]) 2) 2).ak.length)=[0,1]:=by decide+kernel
 have key:∀f:Nat->Rat,(List.range 2).map f=[0,1]->Qo PV.rat f 2=[(0:Rat),1].map PV.rat:=fun f h=>by rw[<-h,KbH];rfl
 rw[key _ e]
theorem alu:Qd Tryz.prog 138 [PV.a9 2 2 [1,0,0,1],.int .i64 ((1:Nat):Int)] (· =PV.bj [0,1]):=by
 have hu:mQ 2 1=[0,1]:=by decide+kernel
 have hs:∀q∈([1,0,0,1]:List Rat),rs q<=3:=by decide+kernel
 have cS:∀q∈([0,1]:List Rat),rs q<=3:=by decide+kernel
 have hB:vm (3*3125) 2 3 2 (bS (Qq [1,0,0,1] 2) (gZ [0,1]) 2):=ala Oz (fun r _ c _=>by
  unfold bS;split
  ·exact ahr Oz cS r
  ·exact yC Oz hs) Oz (.inl Oz)
 have h:=Sh (R:=2) (m:=2) (l:=[1,0,0,1]) (b:=[0,1]) rfl rfl Oz Oz Oz (fun q hq=>by have:=hs q hq;omega) (fun q hq=>by have:=cS q hq;omega) Oz hB;rw[als,<-hu]at h;rw[hu]at h;exact RK (R:=2) (n:=2) (a:=1) Oz (by rw[hu];exact h)
theorem abJ:Qd Tryz.prog 75 [PV.aL xj,PV.fK uk,PV.a9 2 2 oD] (· =PV.bj [0]):=by
 have e:([(0:Rat),1].map (· /1))=[0,1]:=by decide+kernel
 have eZ:=LV (bs:=uk) (x:=[0,1]) (by decide) (by decide) (by decide) (by decide) (by decide);rw[show cj uk [0,1] (uk.length-1)=[0]by decide+kernel]at eZ;exact Vy (a:=1) (m:=1) (x:=[0,1]) (c:=1) TR.1 (by decide) (by decide) (by decide+kernel) (by decide+kernel) (by decide+kernel) alu rfl Oz (by decide+kernel) rfl (fun h=>absurd h (by decide+kernel)) (fun _=>by rw[e];exact eZ)
theorem aoZ:Qd Tryz.prog 22 [PV.aL y4] (· = .aH [PV.cY [(1,aD)],PV.bj [],.int .i64 0]):=by have hb:PB 10 10 y4:=yO (by decide+kernel);have hF:=ace;rw[<-ao4,<-Mw]at hF;exact F8 (K:=10) (E:=10) hb Oz Oz Oz (by decide+kernel) (UL hb (by decide+kernel) acb) (by decide+kernel) (by rw[Mw];decide) (by rw[Mw]at hF ⊢;exact hF) (fun h=>by cases h) (fun _=>rfl)
theorem ao0:Qd Tryz.prog 22 [PV.aL xj] (· = .aH [PV.cY [],PV.bj [0],.int .i64 17]):=by have hb:PB 10 10 xj:=yO (by decide+kernel);have hF:=TR.2;have hN:=abJ;rw[<-ao5]at hF hN;exact F8 (K:=10) (E:=10) hb Oz Oz Oz (by decide+kernel) (UL hb (by decide+kernel) acd) (by decide+kernel) (by rw[Mx];decide) (by rw[Mx];exact hF) (fun _=>⟨rfl,by rw[Mx];exact hN⟩) (fun h=>absurd rfl h)
def c8:ay:=⟨48,[.t 4],Zr (Yh 4)<| .seq (Zr (YD 9 1 33<|
 Zu 11 10<|
 Yw 12 11 0<|
 Zg 12 false (.call (some 14) false (.c (.fn 18 [] [])) [.t 13])<|
 Zg 12 false (.un 15 .not (.t 14))<|
 fQ 16 12 15)<| .cond (.t 16) (Zr (Zq 17 false 21 []<|
 Ye 4 17) .ret) .skip)<|Zr (YD 19 1 36<|
 Zm 18 20<|
 Yd 21 18<|
 dp 5 21 22)<|Zr (YD 24 1 39<|
 Zm 23 25<|
 Yd 26 23<|
 dp 7 26 27)<|Zr (Ya 28 5 7<|
 Zq 30 false 40 [.t 28,.t 29]<|
 YN 31 30 6<|
 Zg 31 true (.mv 33 (.t 8))<|
 Zg 31 true (.bin 34 .eql false (.t 32) (.t 33))<|
 Yq 35 31 34<|
 YN 36 35 0<|
 Zg 36 true (.mv 38 (.t 1))<|
 Zg 36 true (.call (some 39) false (.c (.fn 41 [] [])) [.t 37,.t 38])<|
 Zg 36 true (.mv 40 (.t 0))<|
 Zg 36 true (.mv 41 (.t 1))<|
 Zg 36 true (.call (some 42) false (.c (.fn 42 [] [])) [.t 40,.t 41])<|
 Zg 36 true (.bin 43 .eql false (.t 39) (.t 42))<|
 Yq 44 36 43<|
 yY 45 44 4) .ret⟩
def c5:ay:=⟨37,[.t 4],Zr (Zo (.box 3 3 24 (.t 1))<|
 Yh 4)<| .seq (Zr (ku 9 0 3<|
 Yn 11 28 9 10<|
 Zu 12 11 .nil)<| .cond (.t 12) (Zr (Zq 13 false 21 []<|
 Zm 4 13 .nil) .ret) .skip)<|Zr (ku 15 0 3<|
 Zq 17 false 29 [.t 15,.t 16]<|
 gy 14<|
 dp 5 18 19)<|Zr (ku 21 0 3<|
 Zq 23 false 30 [.t 21,.t 22]<|
 gy 20<|
 dp 7 24 25)<|Zr (YK 26 5 7 24<|
 YN 29 28 6<|
 Zg 29 true (.mv 31 (.t 8))<|
 Zg 29 true (.bin 32 .eql false (.t 30) (.t 31))<|
 Yq 33 29 32<|
 yY 34 33 4) .ret⟩
def c7:ay:=⟨84,[.t 4],Zr (Yh 4)<| .seq (Zr (YD 11 0 33<|
 Zu 13 12<|
 sR 14 13 1<|
 Zg 14 false (.bin 17 .lss false (.t 16) (.c (Zz 5)))<|
 Yk 18 14 17<|
 sR 19 18 1<|
 vA 19 6<|
 fQ 23 19 22)<| .cond (.t 23) (Zr (Zq 24 false 21 []<|
 Ye 4 24) .ret) .skip)<| .seq (Zr (Yj 5 0)<| .block 0<| .loop<| .seq (Zr (Yo 25 5 1)<| .cond (.t 28) .skip (.exit 0))<| .seq (.block 1<|Zr (iB 31 1 5 3<|
 Yl 35 34 34<|
 Zu 36 35<|
 qM 37 36 1 5<|
 Zg 37 false (.idx 40 3 (.t 38) (.t 39))<|
 Zg 37 false (.ld 41 3 true (.t 40))<|
 Zg 37 false (.call (some 42) false (.c (.fn 25 [] [])) [.t 41])<|
 Zg 37 false (.un 43 .not (.t 42))<|
 fQ 44 37 43)<| .cond (.t 44) (Zr (Zq 45 false 21 []<|
 Ye 4 45) .ret) .skip)<| .rg (YX 29 5 5))<| .seq (Zr (Yj 6 0)<| .block 2<| .loop<| .seq (Zr (Yo 46 6 0)<| .cond (.t 49) .skip (.exit 2))<| .seq (.block 3<|Zr (nI 52 0 6<|
 Zq 57 false 35 [.t 56,.c (Zz 6),.c (Zz 5),.c (Zz 4)]<|
 Zu 58 57 .nil)<| .cond (.t 58) (Zr (Zq 59 false 21 []<|
 Ye 4 59) .ret) .skip)<| .rg (YX 50 6 6))<|Zr (YD 61 0 36<|
 Zm 60 62<|
 Yd 63 60<|
 dp 7 63 64)<| .seq (Zr (Zm 65 8<|
 iT 66 65)<| .cond (.t 66) (Zr (Zq 67 false 21 []<|
 Ye 4 67) .ret) .skip)<|Zr (YK 69 7 1 37<|
 gy 68<|
 fu 9 72<|
 Ye 10 73)<|Zr (Zm 74 10<|
 Zk 75 .eql 74 0<|
 Zm 76 75<|
 Zg 76 true (.ld 77 3 true (.t 9))<|
 xg 76 38<|
 Zg 76 true (.bin 79 .geq false (.t 78) (.c (Zz 0)))<|
 Yq 80 76 79<|
 yY 81 80 4) .ret⟩
theorem wG:Qd Tryz.prog 21 [] (· = .bool true):=by
 have zO:Qd Tryz.prog 67 [.int .i64 0] (· =PV.aL (ic 0)):=VA (v:=0) Oz;have zP:Qd Tryz.prog 67 [.int .i64 1] (· =PV.aL (ic 1)):=VA (v:=1) Oz;have p0:PB 10 10 (ic 0):=yO (by decide+kernel);have p1:PB 10 10 (ic 1):=yO (by decide+kernel);have pc:PB 10 10 (tM 1):=yO (by decide+kernel);have pd:PB 10 10 aD:=yO (by decide+kernel);have pm:PB 10 10 (hO (ic 0) (ic 0)):=yO (by decide+kernel);have n0:bB (ic 0):=FO (by decide+kernel);have n1:bB (ic 1):=FO (by decide+kernel);have nc:bB (tM 1):=FO (by decide+kernel);have nd:bB aD:=FO (by decide+kernel);have l0:(ic 0).length=1:=by decide+kernel
 have l1:(ic 1).length=1:=by decide+kernel
 have lc:(tM 1).length=1:=by decide+kernel
 have ld:aD.length=2:=by decide+kernel
 have lm:(hO (ic 0) (ic 0)).length=1:=by decide+kernel
 have eu:Qd Tryz.prog 68 [PV.aL (ic 0),PV.aL (ic 1)] (· =PV.aL aD):=Vv p0 p1 n1.z Oz Oz Oz Oz Oz;have cS:Qd Tryz.prog 68 [PV.aL (hO (ic 0) (ic 0)),PV.aL (tM 1)] (· =PV.aL xj):=Vv pm pc nc.z Oz Oz Oz Oz Oz;have jH:=Vu pd pd nd.z nd.z Oz Oz Oz (by rw[ld];decide) (by rw[ld];decide);rw[Rl nd nd]at jH;have jH:Qd Tryz.prog 69 [PV.aL aD,PV.aL aD] (· =PV.aL y4):=jH;have nf:=Vu p0 p0 n0.z n0.z Oz Oz Oz (by rw[l0];decide) (by rw[l0];decide);rw[Rl n0 n0]at nf;have xK:Qd Tryz.prog 50 [.int .i64 1] (· =PV.rat 1):=qn (x:=1) Oz Oz;have aa:Qd Tryz.prog 70 [PV.rat 1] (· =PV.aL (tM 1)):=adC (a:=1) (k:=4) (by decide+kernel) Oz;have xC:=Lj (a:=1) (b:=1) (k:=4) (by decide+kernel) (by decide+kernel) Oz;rw[decide_eq_true rfl]at xC;have ID:=Uy pd pd Oz Oz Oz Oz;rw[decide_eq_true rfl]at ID;have q1:=aoZ;have q2:=ao0;clear p0 p1 pc pd pm n0 n1 nc nd l0 l1 lc lm;generalize hO (ic 0) (ic 0)=M at *
 generalize tM 1=O at *
 generalize ic 0=V0 at *
 generalize ic 1=V1 at *
 generalize y4=P1 at *
 generalize xj=P2 at *
 generalize aD=D at *
 refine aE Qg Tryz.func21 anO fun C hP=>?_;refine Sz0 ?_;refine Qb hP zO ?_;refine Sz0 ?_;refine Qb hP zP ?_;refine Sz0 ?_;refine Qb hP eu ?_;refine Sz0 ?_;refine Qb hP jH ?_;refine Sz0 ?_;refine Qb hP q1 ?_;refine Sz0 ?_;refine Qb hP nf ?_;refine Sz0 ?_;refine Qb hP xK ?_;refine Sz0 ?_;refine Qb hP aa ?_;refine Sz0 ?_;refine Qb hP cS ?_;refine Sz0 ?_;refine Qb hP q2 ?_;refine Sz0 ?_;refine Qb hP xK ?_;refine Sz0 ?_;refine Qb hP xC ?_;refine Sz0 ?_;refine Qb hP ID ?_;refine Sz0 ?_;exact Qc rfl rfl
open Go Go.FW Go.ChangeShapes Go.WideShapes Go.ChangeAt Go.RowKit
variable {H : Type} {enc : TypeId × Value -> H}
variable {w : World} {base : Nat} {spare : Nat -> Bool} {held : Bool} {r : Reach} {b0 : Nat} {v : Value} {d : DataW H} {ps : List MemPlace}
end Go.Proofs.YtkoclfmjlolkhaaGreat
namespace Go.Proofs.YtkoclfmjlolkhaaGreat
open Go Go.FW
theorem rA{x x' y y':Nat->Rat}:∀n,(∀c,c<n->x c=x' c/\y c=y' c)->Qw x y n=Qw x' y' n
 |0,_=>rfl
 |n+1,h=>by simp only[Qw];rw[rA n fun c hc=>h c Oz,(h n Oz).1,(h n Oz).2]
theorem yw{x y:Nat->Rat}:∀n,(∀c,c<n->x c=0)->Qw x y n=0
 |0,_=>rfl
 |n+1,h=>by simp only[Qw];rw[yw n fun c hc=>h c Oz,h n Oz];grind
theorem Az{x:Nat->Rat}:∀n,Qw x (fun _=>0) n=0
 |0=>rfl
 |n+1=>by simp only[Qw];rw[Az n];grind
theorem SM{f x:Nat->Rat}{p:Rat}(hp:p≠0):∀n,Qw (fun c=>f c/p) x n*p=Qw f x n
 |0=>by simp only[Qw];grind
 |n+1=>by have:=SM (f:=f) (x:=x) hp n;simp only[Qw];rw[<-this];grind
theorem AP{f g x:Nat->Rat}{q:Rat}:∀n,Qw (fun c=>f c-q*g c) x n=Qw f x n-q*Qw g x n
 |0=>by simp only[Qw];grind
 |n+1=>by have:=AP (f:=f) (g:=g) (x:=x) (q:=q) n;simp only[Qw];rw[this];grind
theorem Dt{y x:Nat->Rat}{a:Nat}{v:Rat}:∀n,Qw y (fun c=>if c=a then v else x c) n=Qw y x n+(if a<n then y a*(v-x a)else 0)
 |0=>by simp only[Qw];grind
 | n+1=>by
  have h:=Dt (y:=y) (x:=x) (a:=a) (v:=v) n;simp only[Qw];rw[h];by_cases e:n=a
  ·subst e;rw[if_pos rfl,if_neg Oz,if_pos Oz];grind
  ·rw[if_neg e];by_cases e2:a<n
   ·rw[if_pos e2,if_pos Oz];grind
   ·rw[if_neg e2,if_neg Oz];grind
def sI(M:MF)(R w:Nat)(x:Nat->Rat):Prop:=∀r,r<R->Qw (M r) x w=0
theorem ahw{R w k:Nat}{E:qh}{x:Nat->Rat}(hn:E.ak.length<=R):sI (dP R E k).M R w x↔sI E.M R w x:=by
 unfold dP;split
 ·exact Iff.rfl
 rename_i hp;have hle:=AM E.M k (R-E.ak.length) E.ak.length;have aJ:=Dq E.M k (R-E.ak.length) E.ak.length;have te:E.ak.length<=eJ E.M R k E.ak.length:=hle.1;have dZ:eJ E.M R k E.ak.length<R:=by have:eJ E.M R k E.ak.length<=E.ak.length+(R-E.ak.length):=hle.2;omega
 have aA:E.M (eJ E.M R k E.ak.length) k≠0:=aJ (by show eJ E.M R k E.ak.length<_;omega);generalize hi:eJ E.M R k E.ak.length=i at *
 generalize oK:E.ak.length=n at *
 generalize ND:E.M i k=p at *
 have hN:∀r,Qw (dm (ct E.M i n) n p r) x w*(if r=n then p else 1)=Qw (if r=n then E.M i else if r=i then E.M n else E.M r) x w:=by
  intro r;by_cases e:r=n
  ·subst e;rw[if_pos rfl,if_pos rfl];have:dm (ct E.M i r) r p r=fun c=>E.M i c/p:=by funext c;simp[dm,ct]
   rw[this];exact SM aA w
  ·rw[if_neg e,if_neg e];have:dm (ct E.M i n) n p r=if r=i then E.M n else E.M r:=by funext c;simp[dm,ct,e]
   rw[this];grind
 have hL:∀r,Qw (lD (dm (ct E.M i n) n p) n k r) x w=if r=n then Qw (dm (ct E.M i n) n p n) x w else Qw (dm (ct E.M i n) n p r) x w-dm (ct E.M i n) n p r k*Qw (dm (ct E.M i n) n p n) x w:=by
  intro r;by_cases e:r=n
  ·subst e;rw[if_pos rfl];refine rA w fun c _=>⟨by simp[lD],rfl⟩
  ·rw[if_neg e,<-AP];refine rA w fun c _=>⟨by simp[lD,e],rfl⟩
 generalize dm (ct E.M i n) n p=N at *
 constructor
 ·intro h;have h1:Qw (N n) x w=0:=by have:=h n Oz;rwa[hL,if_pos rfl]at this
  have h2:∀r,r<R->Qw (N r) x w=0:=fun r hr=>by
   by_cases e:r=n
   ·rw[e];exact h1
   ·have:=h r hr;rw[hL,if_neg e,h1]at this;grind
  have h3:∀r,r<R->Qw (if r=n then E.M i else if r=i then E.M n else E.M r) x w=0:=fun r hr=>by rw[<-hN r,h2 r hr];grind
  intro r hr;by_cases e:r=i
  ·have:=h3 n Oz;rw[if_pos rfl]at this;rw[e];exact this
  ·by_cases e2:r=n
   ·have:=h3 i dZ;by_cases e3:i=n
    ·omega
    ·rw[if_neg e3,if_pos rfl]at this;rw[e2];exact this
   ·have:=h3 r hr;rw[if_neg e2,if_neg e]at this;exact this
 ·intro h;have h3:∀r,r<R->Qw (if r=n then E.M i else if r=i then E.M n else E.M r) x w=0:=fun r hr=>by
   split
   ·exact h i dZ
   ·split
    ·exact h n Oz
    ·exact h r hr
  have h2:∀r,r<R->Qw (N r) x w=0:=fun r hr=>by
   have:=hN r;rw[h3 r hr]at this;by_cases e:r=n
   ·rw[if_pos e]at this;grind
   ·rw[if_neg e]at this;grind
  intro r hr;show Qw (lD N n k r) x w=0;rw[hL];split
  ·exact h2 n Oz
  ·rw[h2 r hr,h2 n Oz];grind
theorem Hr{R w:Nat}{M:MF}{x:Nat->Rat}:∀k,sI (Qt R M k).M R w x↔sI M R w x
 |0=>Iff.rfl
 |k+1=>(ahw (ll R M k).2.1).trans (Hr k)
def FF(R k:Nat)(E:qh):Prop:=(∀j (hj:j<E.ak.length),∀r,r<R->E.M r E.ak[j]=if r=j then 1 else 0)/\∀r,E.ak.length<=r->r<R->∀c,c<k->E.M r c=0
theorem afy{R k:Nat}{E:qh}(hn:E.ak.length<=R)(BK:∀x∈E.ak,x<k)(h:FF R k E):FF R (k+1) (dP R E k):=by
 obtain⟨hu,hz⟩:=h;unfold dP;split
 ·rename_i hp;refine⟨hu,fun r h1 h2 c hc=>?_⟩;by_cases e:c=k
  ·subst e;exact Pv E.M c (R-E.ak.length) E.ak.length r h1 (by show r<eJ E.M R c E.ak.length;omega)
  ·exact hz r h1 h2 c Oz
 rename_i hp;have hle:=AM E.M k (R-E.ak.length) E.ak.length;have aJ:=Dq E.M k (R-E.ak.length) E.ak.length;have te:E.ak.length<=eJ E.M R k E.ak.length:=hle.1;have dZ:eJ E.M R k E.ak.length<R:=by have:eJ E.M R k E.ak.length<=E.ak.length+(R-E.ak.length):=hle.2;omega
 have aA:E.M (eJ E.M R k E.ak.length) k≠0:=aJ (by show eJ E.M R k E.ak.length<_;omega);generalize hi:eJ E.M R k E.ak.length=i at *
 obtain⟨n,oK⟩:∃n,n=E.ak.length:=⟨_,rfl⟩
 rw[<-oK]at hz te hi hn⊢;generalize ND:E.M i k=p at *
 have hN:∀r c,dm (ct E.M i n) n p r c=if r=n then E.M i c/p else if r=i then E.M n c else E.M r c:=by
  intro r c;by_cases e:r=n
  ·rw[if_pos e];simp[dm,ct,e]
  ·rw[if_neg e];simp only[dm,ct];rw[if_neg e,if_neg e];by_cases e2:r=i
   ·rw[if_pos e2,if_pos e2]
   ·rw[if_neg e2,if_neg e2]
 have Xk:∀j (hj:j<n) r,r<R->dm (ct E.M i n) n p r (E.ak[j]'Oz)=if r=j then 1 else 0:=by
  intro j hj r hr;have xE:j<E.ak.length:=by omega
  rw[hN];by_cases e:r=n
  ·have h1:=hu j Oz i dZ;rw[if_neg Oz]at h1;rw[if_pos e,h1,if_neg Oz];grind
  ·rw[if_neg e];by_cases e2:r=i
   ·rw[if_pos e2,hu j Oz n Oz,if_neg Oz,if_neg Oz]
   ·rw[if_neg e2];exact hu j Oz r hr
 have Xl:∀r,n<=r->r<R->∀c,c<k->dm (ct E.M i n) n p r c=0:=by
  intro r h1 h2 c hc;rw[hN];split
  ·rw[hz i te dZ c hc];grind
  ·split
   ·exact hz n Oz Oz c hc
   ·exact hz r h1 h2 c hc
 have Xj:dm (ct E.M i n) n p n k=1:=by rw[hN,if_pos rfl,ND];grind
 have hE:∀r c,lD (dm (ct E.M i n) n p) n k r c=if r=n then dm (ct E.M i n) n p n c else dm (ct E.M i n) n p r c-dm (ct E.M i n) n p r k*dm (ct E.M i n) n p n c:=fun r c=>rfl
 generalize dm (ct E.M i n) n p=N at *
 have hlen:(E.ak++[k]).length=n+1:=by simp[oK]
 refine⟨fun j hj r hr=>?_,fun r h1 h2 c hc=>?_⟩
 ·simp only[hlen]at hj;show lD N n k r ((E.ak++[k])[j])=_;rw[hE];by_cases e:j=n
  ·have:(E.ak++[k])[j]'(by rw[hlen];omega)=k:=by rw[Kch Oz];simp
   rw[this,Xj,e];by_cases e2:r=n
   ·rw[if_pos e2,if_pos e2]
   ·rw[if_neg e2,if_neg e2];grind
  ·have et:j<n:=by omega
   have:(E.ak++[k])[j]'(by rw[hlen];omega)=E.ak[j]'Oz:=KbF Oz;rw[this,Xk j et n Oz,if_neg (by omega:¬n=j)];by_cases e2:r=n
   ·rw[if_pos e2,if_neg Oz]
   ·rw[if_neg e2,Xk j et r hr];grind
 ·rw[hlen]at h1;show lD N n k r c=0;rw[hE,if_neg Oz];by_cases e:c=k
  ·rw[e,Xj];grind
  ·rw[Xl r Oz h2 c Oz,Xl n Oz Oz c Oz];grind
theorem CQ{R:Nat}{M:MF}:∀k,FF R k (Qt R M k)
 |0=>⟨fun j hj=>by simp[Qt]at hj,fun r _ _ c hc=>by omega⟩
 |k+1=>afy (ll R M k).2.1 (ll R M k).2.2 (CQ k)
def nG(ak:List Nat)(x:Nat->Rat)(val:Nat->Rat):Nat->(Nat->Rat)
 |0=>x
 |j+1=>fun c=>if c=ak.getD j 0 then val j else nG ak x val j c
theorem Hs{ak:List Nat}{x val:Nat->Rat}{c:Nat}:∀j,j<=ak.length->(∀i (hi:i<ak.length),i<j->ak[i]≠c)->nG ak x val j c=x c
 |0,_,_=>rfl
 |j+1,hj,h=>by
  have e:ak.getD j 0=ak[j]'Oz:=by rw[Kad,Kag Oz,Kbb]
  simp only[nG];rw[e,if_neg fun e2=>h j Oz Oz e2.symm];exact Hs j Oz fun i hi pQ=>h i hi Oz
theorem HO{R w:Nat}{E:qh}{x val:Nat->Rat}(hs:E.ak.Pairwise (· < ·))(hu:FF R w E)(hw:∀y∈E.ak,y<w)(hx:∀y∈E.ak,x y=0){r:Nat}(hr:r<R):∀j,j<=E.ak.length->Qw (E.M r) (nG E.ak x val j) w=Qw (E.M r) x w+if r<j then val r else 0
 |0,_=>by rw[if_neg Oz];simp only[nG];grind
 | j+1,hj=>by
  have et:j<E.ak.length:=by omega
  have h:=HO (val:=val) hs hu hw hx hr j Oz;have e:E.ak.getD j 0=E.ak[j]:=by rw[Kad,Kag Oz,Kbb]
  have hm:E.ak[j]∈E.ak:=Kah et;have h0:nG E.ak x val j E.ak[j]=0:=by rw[Hs j Oz fun i hi pQ=>by have:=wO hs pQ et;omega];exact hx _ hm
  simp only[nG];rw[e,Dt,h,if_pos (hw _ hm),h0,hu.1 j et r hr];by_cases e1:r=j
  ·subst e1;rw[if_pos rfl,if_neg Oz,if_pos Oz];grind
  ·rw[if_neg e1];by_cases e2:r<j
   ·rw[if_pos e2,if_pos Oz];grind
   ·rw[if_neg e2,if_neg Oz];grind
theorem Ht{E:MF}{ak:List Nat}{k:Nat}:∀j,I6 E ak k j=nG ak (fun c=>if c=k then 1 else 0) (fun j=> -(E j k)) j
 |0=>rfl
 |j+1=>by simp only[I6,nG];rw[Ht j]
theorem Mn{E:MF}{ak:List Nat}{m:Nat}:∀j,fI E ak m j=nG ak (fun _=>0) (fun j=>E j m) j
 |0=>rfl
 |j+1=>by simp only[fI,nG];rw[Mn j]
theorem SN{R m k:Nat}{M:MF}(hk:k<m)(hf:k ∉ (Qt R M m).ak):sI M R m (I6 (Qt R M m).M (Qt R M m).ak k (Qt R M m).ak.length):=by
 rw[<-Hr (k:=m)];intro r hr;have hp:=ll R M m;have hu:=CQ (R:=R) (M:=M) m;rw[Ht,HO (wq R M m) hu hp.2.2 (fun y hy=>if_neg fun e=>hf (by rw[<-e];exact hy)) hr _ (Kae _)];have hd:Qw ((Qt R M m).M r) (fun c=>if c=k then 1 else 0) m=(Qt R M m).M r k:=by rw[Dt (x:=fun _=>0),Az,if_pos hk];grind
 rw[hd];split
 ·grind
 ·rw[hu.2 r Oz hr k hk];grind
theorem alv{M:MF}{b y:Nat->Rat}{v:Rat}{m r:Nat}:Qw (bS M b m r) (fun c=>if c=m then v else y c) (m+1)=Qw (M r) y m+b r*v:=by simp only[Qw];rw[rA (x':=M r) (y':=y) m fun c hc=>⟨by simp only[bS];rw[if_neg Oz],by rw[if_neg Oz]⟩];simp[bS]
theorem alw{E:MF}{y:Nat->Rat}{v:Rat}{m r:Nat}:Qw (E r) (fun c=>if c=m then v else y c) (m+1)=Qw (E r) y m+E r m*v:=by simp only[Qw];rw[rA (x':=E r) (y':=y) m fun c hc=>⟨rfl,by rw[if_neg Oz]⟩];simp
theorem alx{R m:Nat}{M:MF}{b:Nat->Rat}(h:∀r,r<R->(Qt R (bS M b m) m).ak.length<=r->(Qt R (bS M b m) m).M r m=0):∀r,r<R->Qw (M r) (fI (Qt R (bS M b m) m).M (Qt R (bS M b m) m).ak m (Qt R (bS M b m) m).ak.length) m=b r:=by
 have hp:=ll R (bS M b m) m;have hu:=CQ (R:=R) (M:=bS M b m) m;have hs:=wq R (bS M b m) m;have hS:sI (bS M b m) R (m+1) (fun c=>if c=m then -1 else fI (Qt R (bS M b m) m).M (Qt R (bS M b m) m).ak m (Qt R (bS M b m) m).ak.length c):=by
  rw[<-Hr (k:=m)];intro r hr;rw[alw,Mn,HO hs hu hp.2.2 (fun y hy=>rfl) hr _ (Kae _),Az];split
  ·grind
  ·rw[h r hr Oz];grind
 intro r hr;have:=hS r hr;rw[alv]at this;grind
inductive iz(R:Nat):MF->List LF->Prop
 |nil {M:MF} (h:∀i,i<R->∀k,k<R->M i k=0):iz R M []
 |one {M:MF} {f:LF} {L:List LF} (i:Nat) (hi:i<R) (α:Rat) (hw:f.1≠0) (h2:∀c,f.2 c=α*M i c) (mA:f.2 i≠0) (hz:∀c,c<R->cT M f i c=0) (hL:iz R (cT M f) L):iz R M (f::L)
 | two {M:MF} {f g:LF} {L:List LF} (i k:Nat) (hi:i<R) (hk:k<R) (a:Rat) (ha:a≠0) (wf:f.1≠0) (wg:g.1≠0) (hf:∀c,f.2 c=M i c+M k c) (hg:∀c,g.2 c=M i c-M k c)
   (fi:f.2 i=a) (fk:f.2 k=a) (gi:g.2 i= -a) (gk:g.2 k=a) (uD:∀c,c<R->cT (cT M f) g i c=0) (xS:∀c,c<R->cT (cT M f) g k c=0) (hL:iz R (cT (cT M f) g) L):iz R M (f::g::L)
theorem ahx{R:Nat}{M:MF}{L:List LF}(hs:Sym R M)(h:iz R (fP M (cd M R)) L):iz R M (cd M R++L):=by
 unfold cd at h⊢;by_cases hd:eh M R<R
 ·rw[if_pos hd]at h⊢;have h0:=CV hd;generalize eh M R=i at *
  obtain⟨p,hp⟩:∃p,M i i=p:=⟨_,rfl⟩
  rw[hp]at h0 h⊢;have hq:1/p*p=1:=by rw[Kbr,Kcm,Kb1 _ h0]
  generalize 1/p=q at *
  have f2:∀c,gF (fun _=>0) (M i) q c=q*M i c:=fun c=>Rat.zero_add _;refine iz.one i hd q h0 f2 ?_ ?_ h
  ·show gF (fun _=>0) (M i) q i≠0;rw[f2,hp,hq];decide
  ·intro c hc;show M i c-p*gF (fun _=>0) (M i) q i*gF (fun _=>0) (M i) q c=0;rw[f2,f2,hp,hq];grind
 rw[if_neg hd]at h⊢;by_cases dC:cF M R<R
 ·rw[if_pos dC]at h⊢;have hb0:=yD dC;have h0:=AO hb0;have xB:=Mj hd;generalize cF M R=a at *
  generalize eU M R a=b at *
  obtain⟨α,tu⟩:∃α,M a b=α:=⟨_,rfl⟩
  rw[tu]at h0 h⊢;have h2:α+α≠0:=fun h=>h0 (by grind);have N1:1/(α+α)*(α+α)=1:=by rw[Kbr,Kcm,Kb1 _ h2]
  generalize 1/(α+α)=w at *
  have zS:w≠0:=fun e=>by rw[e]at N1;grind
  have rQ:M b a=α:=by rw[hs b hb0 a dC,tu]
  have MW:=xB a dC;have zj:=xB b hb0;refine iz.two a b dC hb0 α h0 zS (fun e=>zS (by grind)) ?_ ?_ ?_ ?_ ?_ ?_ ?_ ?_ h
  ·intro c;show M a c+1*M b c=_;grind
  ·intro c;show M a c+ -1*M b c=_;grind
  ·show M a a+1*M b a=_;rw[MW,rQ];grind
  ·show M a b+1*M b b=_;rw[tu,zj];grind
  ·show M a a+ -1*M b a=_;rw[MW,rQ];grind
  ·show M a b+ -1*M b b=_;rw[tu,zj];grind
  ·intro c hc;show M a c-w*(M a a+1*M b a)*(M a c+1*M b c)- -w*(M a a+ -1*M b a)*(M a c+ -1*M b c)=0;rw[MW,rQ];grind
  ·intro c hc;show M b c-w*(M a b+1*M b b)*(M a c+1*M b c)- -w*(M a b+ -1*M b b)*(M a c+ -1*M b c)=0;rw[tu,zj];grind
 rw[if_neg dC]at h⊢;exact h
theorem PL{R:Nat}:∀ {M:MF} (L:List LF),Sym R M->Sym R (fP M L)
 |_,[],h=>h
 |_,f::L,h=>PL (M:=cT _ f) L (oq h)
theorem RM{R:Nat}{M:MF}(hs:Sym R M):∀k,Sym R (Qx R M k).1
 |0=>hs
 |k+1=>by rw[uR];exact PL _ (RM hs k)
theorem SO{R:Nat}{M:MF}(hs:Sym R M):∀k L,iz R (Qx R M k).1 L->iz R M ((Qx R M k).2++L)
 |0,L,h=>h
 |k+1,L,h=>by rw[uR]at h⊢;have:=SO hs k _ (ahx (RM hs k) h);rw[Kbt];exact this
theorem aly{R b:Nat}{M:MF}(hR:0<R)(hs:Sym R M)(hb:3<=b)(hM:fL b R R M):iz R M (Qx R M (2*R)).2:=by
 have atj:∃j,j<=R/\cd (Qx R M j).1 R=[]:=by refine Classical.byContradiction fun hn=>?_;have:=Dr hs hb hM (R+1) fun j hj h=>hn ⟨j,by omega,h⟩;omega
 obtain⟨j,hj,hn⟩:=atj;have e:=Hm hn (2*R-j);rw[show j+(2*R-j)=2*R by omega]at e;have:=SO hs (2*R) [] (by rw[e];exact .nil (afu hn))
 rwa[Kam]at this
theorem yx{M:MF}{f:LF}{x:Nat->Rat}{r:Nat}:∀n,Qw (cT M f r) x n=Qw (M r) x n-f.1*f.2 r*Qw f.2 x n:=fun n=>by rw[<-AP];rfl
theorem alz{R:Nat}{M:MF}{L:List LF}(h:iz R M L){x:Nat->Rat}:sI M R R x->∀f∈L,Qw f.2 x R=0:=by
 induction h with
 |nil h=>intro _ f hf;cases hf
 | @one M f L i hi α hw h2 mA hz hL ih=>
  intro hx;have hf:Qw f.2 x R=0:=by
   have e:Qw f.2 x R=Qw (fun c=>0-(-α)*M i c) x R:=rA R fun c _=>⟨by rw[h2];grind,rfl⟩
   rw[e,AP,hx i hi,yw R fun _ _=>rfl];grind
  intro g hg;rcases KaG.1 hg with rfl|hg
  ·exact hf
  ·exact ih (fun r hr=>by rw[yx,hx r hr,hf];grind) g hg
 | @two M f g L i k hi hk a ha wf wg hf hg fi fk gi gk uD xS hL ih=>
  intro hx;have h1:Qw f.2 x R=0:=by
   have e:Qw f.2 x R=Qw (fun c=>M i c-(-1)*M k c) x R:=rA R fun c _=>⟨by rw[hf];grind,rfl⟩
   rw[e,AP,hx i hi,hx k hk];grind
  have h2:Qw g.2 x R=0:=by
   have e:Qw g.2 x R=Qw (fun c=>M i c-1*M k c) x R:=rA R fun c _=>⟨by rw[hg];grind,rfl⟩
   rw[e,AP,hx i hi,hx k hk];grind
  intro y hy;rcases KaG.1 hy with rfl|hy
  ·exact h1
  ·rcases KaG.1 hy with rfl|hy
   ·exact h2
   ·exact ih (fun r hr=>by rw[yx,yx,hx r hr,h1,h2];grind) y hy
theorem ahy{R:Nat}{M:MF}{L:List LF}(h:iz R M L){x:Nat->Rat}:(∀f∈L,Qw f.2 x R=0)->sI M R R x:=by
 induction h with
 |nil h=>intro _ r hr;exact yw R fun c hc=>h r hr c hc
 | @one M f L i hi α hw h2 mA hz hL ih=>intro hx r hr;have h1:=hx f (Kdc ..);have:=ih (fun g hg=>hx g (Ka1 _ hg)) r hr;rw[yx,h1]at this;grind
 | @two M f g L i k hi hk a ha wf wg hf hg fi fk gi gk uD xS hL ih=>intro hx r hr;have h1:=hx f (Kdc ..);have h2:=hx g (Ka1 _ (Kdc ..));have:=ih (fun y hy=>hx y (Ka1 _ (Ka1 _ hy))) r hr;rw[yx,yx,h1,h2]at this;grind
theorem JP{R:Nat}{M:MF}{L:List LF}(h:iz R M L){j:Nat}(hj:j<R):Sym R M->(∀c,c<R->M j c=0)->∀f∈L,f.2 j=0:=by
 induction h with
 |nil h=>intro _ _ f hf;cases hf
 | @one M f L i hi α hw h2 mA hz hL ih=>
  intro hs hx;have hf:f.2 j=0:=by rw[h2,hs i hi j hj,hx i hi];grind
  intro g hg;rcases KaG.1 hg with rfl|hg
  ·exact hf
  ·exact ih (oq hs) (fun c hc=>by rw[F6 hf];exact hx c hc) g hg
 | @two M f g L i k hi hk a ha wf wg hf hg fi fk gi gk uD xS hL ih=>
  intro hs hx;have h1:f.2 j=0:=by rw[hf,hs i hi j hj,hs k hk j hj,hx i hi,hx k hk];grind
  have h2:g.2 j=0:=by rw[hg,hs i hi j hj,hs k hk j hj,hx i hi,hx k hk];grind
  intro y hy;rcases KaG.1 hy with rfl|hy
  ·exact h1
  ·rcases KaG.1 hy with rfl|hy
   ·exact h2
   ·exact ih (oq (oq hs)) (fun c hc=>by rw[F6 h2,F6 h1];exact hx c hc) y hy
def tU:List LF->(Nat->Rat)->Nat->Rat
 | [],_,_=>0
 |f::L,y,c=>y 0*f.2 c+tU L (fun j=>y (j+1)) c
theorem GM{c:Nat}:∀(L:List LF)(y:Nat->Rat),(∀f∈L,f.2 c=0)->tU L y c=0
 | [],_,_=>rfl
 |f::L,y,h=>by simp only[tU];rw[h f (Kdc ..),GM L _ fun g hg=>h g (Ka1 _ hg)];grind
theorem SP{R:Nat}{M:MF}{L:List LF}(h:iz R M L):∀y:Nat->Rat,Sym R M->(∀c,c<R->tU L y c=0)->∀j,j<L.length->y j=0:=by
 induction h with
 |nil h=>intro y _ _ j hj;cases hj
 | @one M f L i hi α hw h2 mA hz hL ih=>
  intro y hs hx;have hl:=GM L (fun j=>y (j+1)) (JP hL hi (oq hs) hz);have h1:=hx i hi;simp only[tU]at h1;rw[hl]at h1;have h0:y 0=0:=by
   rcases KcX.1 (show y 0*f.2 i=0 by grind)with h|h
   ·exact h
   ·exact absurd h mA
  have ht:=ih (fun j=>y (j+1)) (oq hs) fun c hc=>by have:=hx c hc;simp only[tU]at this;rw[h0]at this;grind
  intro j hj
  match j with
  |0=>exact h0
  |j+1=>exact ht j (by simpa using hj)
 | @two M f g L i k hi hk a ha wf wg hf hg fi fk gi gk uD xS hL ih=>
  intro y hs hx;have l1:=GM L (fun j=>y (j+1+1)) (JP hL hi (oq (oq hs)) uD);have l2:=GM L (fun j=>y (j+1+1)) (JP hL hk (oq (oq hs)) xS);have h1:=hx i hi;have h2:=hx k hk;simp only[tU]at h1 h2;rw[l1,fi,gi]at h1;rw[l2,fk,gk]at h2;have e1:y 1=0:=by
   rcases KcX.1 (show y 1*a=0 by grind)with h|h
   ·exact h
   ·exact absurd h ha
  have e0:y 0=0:=by
   rcases KcX.1 (show y 0*a=0 by grind)with h|h
   ·exact h
   ·exact absurd h ha
  have ht:=ih (fun j=>y (j+1+1)) (oq (oq hs)) fun c hc=>by have:=hx c hc;simp only[tU]at this;rw[e0,e1]at this;grind
  intro j hj
  match j with
  |0=>exact e0
  |1=>exact e1
  |j+2=>exact ht j (by simpa using hj)
theorem Mo{A:Nat->Nat->Rat}{e z:Nat->Rat}{r:Nat}:∀n,Qw (fun i=>Qw (A i) e r) z n=Qw (fun j=>Qw (fun i=>A i j) z n) e r
 |0=>(yw r fun _ _=>rfl).symm
 | n+1=>by
  have h:=Mo (A:=A) (e:=e) (z:=z) (r:=r) n;have key:∀r,Qw (fun j=>Qw (fun i=>A i j) z n+A n j*z n) e r=Qw (fun j=>Qw (fun i=>A i j) z n) e r+Qw (A n) e r*z n:=by
   intro r;induction r with
   |zero=>simp only[Qw];grind
   |succ r ih=>simp only[Qw];rw[ih];grind
  show Qw (fun i=>Qw (A i) e r) z n+Qw (A n) e r*z n=_;rw[h];exact(key r).symm
theorem Mp{x y:Nat->Rat}:∀n,Qw x y (n+1)=x 0*y 0+Qw (fun i=>x (i+1)) (fun i=>y (i+1)) n
 |0=>by simp only[Qw];grind
 |n+1=>by have h:=Mp (x:=x) (y:=y) n;show Qw x y (n+1)+x (n+1)*y (n+1)=_;rw[h];simp only[Qw];grind
theorem adP{l:List Nat}(hs:l.Pairwise (· < ·)){r:Nat}(h:∀k,k<r->k∈l):r<=l.length:=by
 have key:∀k,k<r->∀j (hj:j<l.length),l[j]=k->k<=j:=by
  intro k;induction k with
  |zero=>intro _ j _ _;omega
  | succ k ih=>
   intro hk j hj e;obtain⟨i,hi,e2⟩:=KaV (h k Oz);have h1:=ih Oz i hi e2;have h2:i<j:=by
    rcases Kcz i j with h|h
    ·exact h
    ·rcases Kcz j i with h3|h3
     ·have:=wO hs h3 hi;omega
     ·have:i=j:=by omega
      subst this;omega
   omega
 cases r with
 |zero=>omega
 |succ r=>obtain⟨i,hi,e⟩:=KaV (h r Oz);have:=key r Oz i hi e;omega
theorem JQ{n r:Nat}{C:MF}(h:∀z,sI C n r z->∀j,j<r->z j=0):r<=n:=by
 refine Classical.byContradiction fun hn=>?_;have hp:=ll n C r;have hs:=wq n C r;have:∃k,k<r/\k ∉ (Qt n C r).ak:=by refine Classical.byContradiction fun lg=>?_;have:=adP hs (r:=r) fun k hk=>Classical.byContradiction fun qT=>lg ⟨k,hk,qT⟩;omega
 obtain⟨k,hk,EN⟩:=this;have h1:=h _ (SN hk EN) k hk;rw[Ht,Hs _ (Kae _) fun i hi _ e=>EN (by rw[<-e];exact Kah hi)]at h1;rw[if_pos rfl]at h1;exact absurd h1 (by decide)
theorem Mq{ak:List Nat}{w:Nat}{f x val:Nat->Rat}(hs:ak.Pairwise (· < ·))(hw:∀y∈ak,y<w)(hx:∀y∈ak,x y=0):∀j,j<=ak.length->Qw f (nG ak x val j) w=Qw f x w+Qw (fun i=>f (ak.getD i 0)) val j
 |0,_=>by simp only[nG,Qw];grind
 | j+1,hj=>by
  have et:j<ak.length:=by omega
  have h:=Mq (f:=f) (val:=val) hs hw hx j Oz;have e:ak.getD j 0=ak[j]:=by rw[Kad,Kag Oz,Kbb]
  have hm:ak[j]∈ak:=Kah et;have h0:nG ak x val j ak[j]=0:=by rw[Hs j Oz fun i hi pQ=>by have:=wO hs pQ et;omega];exact hx _ hm
  simp only[nG,Qw];rw[e,Dt,h,if_pos (hw _ hm),h0];grind
theorem RN{R m:Nat}{M:MF}{f:Nat->Rat}(hf:∀x,sI M R m x->Qw f x m=0){c:Nat}(hc:c<m):f c=Qw (fun j=>f ((Qt R M m).ak.getD j 0)) (fun j=>(Qt R M m).M j c) (Qt R M m).ak.length:=by
 have hp:=ll R M m;have hs:=wq R M m;have hu:=CQ (R:=R) (M:=M) m;by_cases EA:c∈(Qt R M m).ak
 ·obtain⟨i,hi,rfl⟩:=KaV EA;have key:∀n,n<=(Qt R M m).ak.length->Qw (fun j=>f ((Qt R M m).ak.getD j 0)) (fun j=>(Qt R M m).M j (Qt R M m).ak[i]) n=if i<n then f (Qt R M m).ak[i]else 0:=by
   intro n;induction n with
   |zero=>intro _;rw[if_neg Oz];rfl
   | succ n ih=>
    intro hn;show Qw (fun j=>f ((Qt R M m).ak.getD j 0)) (fun j=>(Qt R M m).M j (Qt R M m).ak[i]) n+f ((Qt R M m).ak.getD n 0)*(Qt R M m).M n (Qt R M m).ak[i]=_;rw[ih Oz,hu.1 i hi n Oz];by_cases e:n=i
    ·subst e;rw[if_pos rfl,if_neg Oz,if_pos Oz,Kad,Kag Oz,Kbb];grind
    ·rw[if_neg e];by_cases e2:i<n
     ·rw[if_pos e2,if_pos Oz];grind
     ·rw[if_neg e2,if_neg Oz];grind
  rw[key _ (Kae _),if_pos hi]
 ·have h1:=hf _ (SN (R:=R) (M:=M) hc EA);rw[Ht,Mq hs hp.2.2 (fun y hy=>if_neg fun e=>EA (by rw[<-e];exact hy)) _ (Kae _)]at h1;have hd:Qw f (fun d=>if d=c then 1 else 0) m=f c:=by rw[Dt (x:=fun _=>0),Az,if_pos hc];grind
  have hn:∀n,Qw (fun i=>f ((Qt R M m).ak.getD i 0)) (fun j=> -((Qt R M m).M j c)) n= -Qw (fun i=>f ((Qt R M m).ak.getD i 0)) (fun j=>(Qt R M m).M j c) n:=by
   intro n;induction n with
   |zero=>simp only[Qw];grind
   |succ n ih=>simp only[Qw];rw[ih];grind
  rw[hd,hn]at h1;grind
theorem ahz{R m:Nat}{M:MF}{z:Nat->Rat}(h:sI M R m (nG (Qt R M m).ak (fun _=>0) z (Qt R M m).ak.length)):∀j,j<(Qt R M m).ak.length->z j=0:=by have hp:=ll R M m;rw[<-Hr (k:=m)]at h;intro j hj;have:=h j Oz;rw[HO (wq R M m) (CQ m) hp.2.2 (fun _ _=>rfl) Oz _ (Kae _),Az,if_pos hj]at this;grind
def jP(L:List LF)(i:Nat):LF:=L.getD i (0,fun _=>0)
theorem LW{c:Nat}:∀(L:List LF)(y:Nat->Rat),tU L y c=Qw (fun i=>(jP L i).2 c) y L.length
 | [],_=>rfl
 |f::L,y=>by rw[KaT,Mp];simp only[tU];rw[LW L];show y 0*f.2 c+_=f.2 c*y 0+Qw (fun i=>(jP L i).2 c) (fun i=>y (i+1)) L.length;grind
theorem PM{L:List LF}{i:Nat}(h:i<L.length):jP L i∈L:=by unfold jP;rw[Kad,Kag h,Kbb];exact Kah h
theorem afz{L:List LF}{f:LF}(h:f∈L):∃i,i<L.length/\jP L i=f:=by obtain⟨i,hi,rfl⟩:=KaV h;refine⟨i,hi,?_⟩;unfold jP;rw[Kad,Kag hi,Kbb]
theorem ahA{R:Nat}{M:MF}{L:List LF}(hs:Sym R M)(h:iz R M L):(Qt R M R).ak.length=L.length:=by
 have hp:=ll R M R;have NQ:=wq R M R;refine Nat.le_antisymm ?_ ?_
 ·refine JQ (C:=fun i j=>(jP L i).2 ((Qt R M R).ak.getD j 0)) fun z hz=>ahz (ahy h fun f hf=>?_);obtain⟨i,hi,rfl⟩:=afz hf;rw[Mq NQ hp.2.2 (fun _ _=>rfl) _ (Kae _),Az,hz i hi];grind
 ·refine JQ (C:=fun j i=>(jP L i).2 ((Qt R M R).ak.getD j 0)) fun z hz=>SP h z hs fun c hc=>?_;rw[LW];have e:Qw (fun i=>(jP L i).2 c) z L.length=Qw (fun i=>Qw (fun j=>(jP L i).2 ((Qt R M R).ak.getD j 0)) (fun j=>(Qt R M R).M j c) (Qt R M R).ak.length) z L.length:=
   rA _ fun i hi=>⟨RN (fun x hx=>alz h hx _ (PM hi)) hc,rfl⟩
  rw[e,Mo];exact yw _ fun j hj=>hz j hj
theorem GN{M:MF}{f:LF}{x:Nat->Rat}{w:Nat}:∀n,pn M x w n=pn (cT M f) x w n+f.1*Qw f.2 x n*Qw f.2 x w
 |0=>by simp only[pn,Qw];grind
 |n+1=>by have h:=GN (M:=M) (f:=f) (x:=x) (w:=w) n;simp only[pn,Qw];rw[h,yx];grind
theorem PN{M:MF}{x:Nat->Rat}{w:Nat}:∀n,(∀r,r<n->∀c,c<w->M r c=0)->pn M x w n=0
 |0,_=>rfl
 |n+1,h=>by simp only[pn];rw[PN n fun r hr=>h r Oz,yw w fun c hc=>h n Oz c hc];grind
def FB(L:List LF)(x:Nat->Rat)(R:Nat):Nat->Rat:=Qw (fun i=>(jP L i).1) (fun i=>Qw (jP L i).2 x R*Qw (jP L i).2 x R)
theorem Mr{f:LF}{L:List LF}{x:Nat->Rat}{R:Nat}:FB (f::L) x R (f::L).length=f.1*(Qw f.2 x R*Qw f.2 x R)+FB L x R L.length:=by unfold FB;rw[KaT,Mp];rfl
theorem ahB{R:Nat}{M:MF}{L:List LF}(h:iz R M L){x:Nat->Rat}:pn M x R R=FB L x R L.length:=by
 induction h with
 |nil h=>rw[PN R fun r hr c hc=>h r hr c hc];rfl
 | @one M f L i hi α hw h2 mA hz hL ih=>rw[GN (f:=f) R,ih,Mr];grind
 | @two M f g L i k hi hk a ha wf wg hf hg fi fk gi gk uD xS hL ih=>rw[GN (f:=f) R,GN (f:=g) R,ih,Mr,Mr];grind
theorem abK{R:Nat}{M:MF}{L:List LF}(h:iz R M L):∀f∈L,f.1≠0:=by
 induction h with
 |nil h=>intro f hf;cases hf
 | @one M f L i hi α hw h2 mA hz hL ih=>
  intro g hg;rcases KaG.1 hg with rfl|hg
  ·exact hw
  ·exact ih g hg
 | @two M f g L i k hi hk a ha wf wg hf hg fi fk gi gk uD xS hL ih=>
  intro y hy;rcases KaG.1 hy with rfl|hy
  ·exact wf
  ·rcases KaG.1 hy with rfl|hy
   ·exact wg
   ·exact ih y hy
theorem abL(x:Rat):0<=x*x:=by
 rcases Rat.le_total (a:=0) (b:=x)with h|h
 ·exact KbG h h
 ·have h2:0<= -x:=by grind
  have:=KbG h2 h2;grind
end Go.Proofs.YtkoclfmjlolkhaaGreat
namespace Go.FW
open Go
def CM(n:Nat)(D:Int)(R w:Nat)(M:MF):Prop:=D≠0/\nl D.natAbs<=n/\∀r,r<R->∀c,c<w->∃a:Int,M r c=(a:Rat)/(D:Rat)/\nl a.natAbs<=n
theorem CM.bd{n R w:Nat}{D:Int}{M:MF}(h:CM n D R w M):fL (max n 1) R w M:=fun r hr c hc=>by obtain⟨a,e,ha⟩:=h.2.2 r hr c hc;rw[e];have:=yE a D h.1;have:=h.2.1;omega
theorem CM.mono{n n' R w:Nat}{D:Int}{M:MF}(h:CM n D R w M)(hn:n<=n'):CM n' D R w M:=
 ⟨h.1,Kap h.2.1 hn,fun r hr c hc=>by obtain⟨a,e,ha⟩:=h.2.2 r hr c hc;exact⟨a,e,Kap ha hn⟩⟩
theorem mi{D:Int}(h:D≠0):(D:Rat)≠0:=by rwa[Ne,Ka5]
theorem akY{a b g s D:Int}(hD:D≠0)(hs:s≠0):(a:Rat)/(D:Rat)-(b:Rat)/(D:Rat)*((g:Rat)/(D:Rat)/((s:Rat)/(D:Rat)))=((a*s-b*g:Int):Rat)/((D*s:Int):Rat):=by
 have h1:=mi hD;have h2:=mi hs;rw[Kdd,KaU,KaU,KaU];generalize(a:Rat)=a at *
 generalize(b:Rat)=b at *
 generalize(g:Rat)=g at *
 generalize(s:Rat)=s at *
 generalize(D:Rat)=D at *
 grind
theorem aop{g s D:Int}(hD:D≠0)(hs:s≠0):(g:Rat)/(D:Rat)/((s:Rat)/(D:Rat))=((g*D:Int):Rat)/((D*s:Int):Rat):=by
 have h1:=mi hD;have h2:=mi hs;rw[KaU,KaU];generalize(g:Rat)=g at *
 generalize(s:Rat)=s at *
 generalize(D:Rat)=D at *
 grind
theorem Du{x y:Int}{n:Nat}(hx:nl x.natAbs<=n)(hy:nl y.natAbs<=n):nl (x-y).natAbs<=n+1:=by have h:=tE x (-y);rw[Kdg]at h;rw[Int.sub_eq_add_neg];omega
theorem lv{x y:Int}{n m:Nat}(hx:nl x.natAbs<=n)(hy:nl y.natAbs<=m):nl (x*y).natAbs<=n+m:=by have:=js x y;omega
theorem Kr{a D:Int}{q:Rat}(h:q≠0)(e:q=(a:Rat)/(D:Rat)):a≠0:=fun h0=>h (by rw[e,h0,Kbr];exact KcC _)
theorem akZ{R w n:Nat}{D:Int}{E:qh}{k:Nat}(hk:k<w)(h:CM n D R w E.M)(hm:E.ak.length<=R):(∃D',CM (2*n+1) D' R w (dP R E k).M)/\rs (dP R E k).cG<=rs E.cG+max n 1:=by
 unfold dP;split
 ·exact⟨⟨D,h.mono (by omega)⟩,by omega⟩
 ·rename_i hp;have h1:=AM E.M k (R-E.ak.length) E.ak.length;obtain⟨i,hi⟩:∃i,eJ E.M R k E.ak.length=i:=⟨_,rfl⟩
  have te:E.ak.length<=i/\i<=R:=by rw[<-hi];unfold eJ;omega
  rw[hi]at hp⊢;have pP:i<R:=by omega
  have aA:E.M i k≠0:=by
   have:=Dq E.M k (R-E.ak.length) E.ak.length (by unfold eJ at hi;rw[hi];omega);unfold eJ at hi
   rwa[hi]at this
  have zk:=h.bd i pP k hk;obtain⟨hD,xr,hc⟩:=h;obtain⟨s,es,hs⟩:=hc i pP k hk;have iG:=Kr aA es;generalize E.ak.length=m at *
  have ja:m<R:=by omega
  have hS:∀r,r<R->∀c,c<w->∃a:Int,ct E.M i m r c=(a:Rat)/(D:Rat)/\nl a.natAbs<=n:=fun r hr c xy=>by
   unfold ct;split
   ·exact hc i pP c xy
   ·split
    ·exact hc m ja c xy
    ·exact hc r hr c xy
  refine⟨⟨D*s,Kcu hD iG,by have:=lv xr hs;omega,fun r hr c xy=>?_⟩,?_⟩
  ·show ∃a:Int,lD (dm (ct E.M i m) m (E.M i k)) m k r c=_/\_;obtain⟨g,eg,hg⟩:=hS m ja c xy;have e1:dm (ct E.M i m) m (E.M i k) m c=(g:Rat)/(D:Rat)/((s:Rat)/(D:Rat)):=by unfold dm;rw[if_pos rfl,eg,es]
   unfold lD;by_cases uz:r=m
   ·rw[if_pos uz,e1,aop hD iG];exact⟨_,rfl,by have:=lv hg xr;omega⟩
   ·rw[if_neg uz,e1];obtain⟨a,ea,ha⟩:=hS r hr c xy;obtain⟨b,eb,hb⟩:=hS r hr k hk;have e2:∀c,dm (ct E.M i m) m (E.M i k) r c=ct E.M i m r c:=fun c=>by unfold dm;rw[if_neg uz]
    rw[e2,e2,ea,eb,akY hD iG];exact⟨_,rfl,by have:=Du (lv ha hs) (lv hb hg);omega⟩
  ·show rs ((if i=m then E.cG else -E.cG)*E.M i k)<=_;have vL:rs (if i=m then E.cG else -E.cG)=rs E.cG:=by
    split
    ·rfl
    ·rw[sw]
   have:=fD (if i=m then E.cG else -E.cG) (E.M i k);omega
theorem JR{R w b:Nat}{D:Int}{M:MF}(hb:2<=b)(h:CM (b-1) D R w M):∀k,k<=w->∃s,s<=k/\s<=R/\(∃D',CM (b*2^s-1) D' R w (Qt R M k).M)/\rs (Qt R M k).cG<=b*2^s/\(Qt R M k).ak.length=s
 | 0,_=>⟨0,Kae _,Kbz _,⟨D,by rw[Kc8,KbK];exact h⟩,by have:=mT;show rs 1<=b*2^0;omega,rfl⟩
 | k+1,hk=>by
  obtain⟨s,h1,h2,⟨D',h3⟩,h4,h5⟩:=JR hb h k (by omega);have jZ:2<=b*2^s:=Kap hb (KaZ _ (Kbw (by omega)));have aV:=(ll R M (k+1)).2.1;show ∃s,s<=k+1/\s<=R/\(∃D',CM (b*2^s-1) D' R w (dP R (Qt R M k) k).M)/\rs (dP R (Qt R M k) k).cG<=b*2^s/\(dP R (Qt R M k) k).ak.length=s;have aV:(dP R (Qt R M k) k).ak.length<=R:=aV;have bc:=akZ (k:=k) (by omega) h3 (by omega);by_cases hp:eJ (Qt R M k).M R k (Qt R M k).ak.length=R
  ·have e:dP R (Qt R M k) k=Qt R M k:=by unfold dP;rw[if_pos hp]
   rw[e];exact⟨s,by omega,h2,⟨D',h3⟩,h4,h5⟩
  ·have hl:(dP R (Qt R M k) k).ak.length=s+1:=by unfold dP;rw[if_neg hp];simp[h5]
   have hm:b*2^(s+1)=2*(b*2^s):=by rw[Kbv];simp only[KaP,Kbl]
   obtain⟨⟨D2,h6⟩,h7⟩:=bc;exact⟨s+1,by omega,by omega,⟨D2,h6.mono (by omega)⟩,by omega,hl⟩
theorem ak0{R w n b:Nat}{D:Int}{M:MF}(hb:2<=b)(h:CM (b-1) D R w M)(hn:n<=w):vm (b*2^R) R w n M:=fun k hk=>by obtain⟨s,h1,h2,⟨D',h3⟩,h4,_⟩:=JR hb h k (by omega);have hm:b*2^s<=b*2^R:=KaE _ (KaR (by omega) h2);have jZ:2<=b*2^s:=Kap hb (KaZ _ (Kbw (by omega)));exact⟨fun r hr c hc=>by have:=h3.bd r hr c hc;omega,by omega⟩
theorem ak1{a b g s D:Int}(hD:D≠0)(hs:s≠0):(a:Rat)/(D:Rat)-(s:Rat)/(D:Rat)*(1/((s:Rat)/(D:Rat))*((b:Rat)/(D:Rat)))*(1/((s:Rat)/(D:Rat))*((g:Rat)/(D:Rat)))=((a*s-b*g:Int):Rat)/((D*s:Int):Rat):=by
 have h1:=mi hD;have h2:=mi hs;rw[Kdd,KaU,KaU,KaU];generalize(a:Rat)=a at *
 generalize(b:Rat)=b at *
 generalize(g:Rat)=g at *
 generalize(s:Rat)=s at *
 generalize(D:Rat)=D at *
 grind
theorem ak2{a x y s D:Int}(hD:D≠0)(hs:s≠0):(a:Rat)/(D:Rat)-1/((s:Rat)/(D:Rat)+(s:Rat)/(D:Rat))*((x:Rat)/(D:Rat))*((y:Rat)/(D:Rat))=((a*(s+s)-x*y:Int):Rat)/((D*(s+s):Int):Rat):=by
 have h1:=mi hD;have h2:=mi hs;rw[Kdd,KaU,KaU,KaU,Kdb];generalize(a:Rat)=a at *
 generalize(x:Rat)=x at *
 generalize(y:Rat)=y at *
 generalize(s:Rat)=s at *
 generalize(D:Rat)=D at *
 have h3:s+s≠0:=by grind
 grind
theorem ak3{a x y x' y' s D:Int}(hD:D≠0)(hs:s≠0):(a:Rat)/(D:Rat)-1/((s:Rat)/(D:Rat)+(s:Rat)/(D:Rat))*((x:Rat)/(D:Rat)+1*((x':Rat)/(D:Rat)))*((y:Rat)/(D:Rat)+1*((y':Rat)/(D:Rat)))- -(1/((s:Rat)/(D:Rat)+(s:Rat)/(D:Rat)))*((x:Rat)/(D:Rat)+ -1*((x':Rat)/(D:Rat)))*((y:Rat)/(D:Rat)+ -1*((y':Rat)/(D:Rat)))=((a*s-(x*y'+x'*y):Int):Rat)/((D*s:Int):Rat):=by
 have h1:=mi hD;have h2:=mi hs;rw[Kdd,KaU,Kdb,KaU,KaU,KaU];generalize(a:Rat)=a at *
 generalize(x:Rat)=x at *
 generalize(y:Rat)=y at *
 generalize(x':Rat)=x' at *
 generalize(y':Rat)=y' at *
 generalize(s:Rat)=s at *
 generalize(D:Rat)=D at *
 have h3:s+s≠0:=by grind
 grind
theorem TG{x y D:Int}{e:Rat}(h:e=1∨e= -1)(hD:D≠0):∃z:Int,(x:Rat)/(D:Rat)+e*((y:Rat)/(D:Rat))=(z:Rat)/(D:Rat)/\∀n,nl x.natAbs<=n->nl y.natAbs<=n->nl z.natAbs<=n+1:=by
 have h1:=mi hD;rcases h with rfl|rfl
 ·refine⟨x+y,?_,fun n hx hy=>by have:=tE x y;omega⟩;rw[Kdb];generalize(x:Rat)=x at *
  generalize(y:Rat)=y at *
  generalize(D:Rat)=D at *
  grind
 ·refine⟨x-y,?_,fun n hx hy=>Du hx hy⟩;rw[Kdd];generalize(x:Rat)=x at *
  generalize(y:Rat)=y at *
  generalize(D:Rat)=D at *
  grind
def FD(n:Nat)(D:Int)(R:Nat)(L:List LF):Prop:=D≠0/\nl D.natAbs<=n/\∀f∈L,∀c,c<R->∃a:Int,f.2 c=(a:Rat)/(D:Rat)/\nl a.natAbs<=n
theorem SQ{R n:Nat}{D:Int}{M:MF}(hS:Sym R M)(h:CM n D R R M)(gL:1<=n)(aJ:cd M R≠[]):
  (∃D',CM (2*n+2) D' R R (fP M (cd M R)))/\(∃D',FD (n+1) D' R (cd M R))/\(∀f∈cd M R,rs f.1<=2*n+4/\∀c,c<R->rs (f.2 c)<=2*n+4)/\∀j,fL (2*n+4) R R (fP M ((cd M R).take j)):=by
 have q1:=mT;have zk:=h.bd;obtain⟨hD,xr,hc⟩:=h;have W3:∀ {D':Int} {L:List LF},FD (n+1) D' R L->∀f∈L,∀c,c<R->rs (f.2 c)<=2*n+4:=fun hf f hL c nP=>by obtain⟨a,e,ha⟩:=hf.2.2 f hL c nP;rw[e];have:=yE a _ hf.1;have:=hf.2.1;omega
 unfold cd at aJ⊢;by_cases hd:eh M R<R
 ·rw[if_pos hd]at aJ⊢;have h0:=CV hd;generalize eh M R=i at *
  obtain⟨f,hf⟩:∃f:LF,(M i i,gF (fun _=>0) (M i) (1/M i i))=f:=⟨_,rfl⟩
  have f1:f.1=M i i:=by rw[<-hf]
  have f2:∀c,f.2 c=1/M i i*M i c:=fun c=>by rw[<-hf];exact Rat.zero_add _
  obtain⟨s,es,hs⟩:=hc i hd i hd;have iG:=Kr h0 es;have tl:fP M [f]=cT M f:=rfl;rw[hf,tl];have hF:FD (n+1) s R [f]:=⟨iG,by omega,fun g hg c nP=>by
   rw[Kau.1 hg,f2];obtain⟨b,eb,hb⟩:=hc i hd c nP;refine⟨b,?_,by omega⟩;rw[eb,es];have h1:=mi hD;have h2:=mi iG;generalize(b:Rat)=b at *
   generalize(s:Rat)=s at *
   generalize(D:Rat)=D at *
   grind⟩
  have hL:CM (2*n+1) (D*s) R R (cT M f):=⟨Kcu hD iG,by have:=lv xr hs;omega,fun r hr c nP=>by obtain⟨a,ea,ha⟩:=hc r hr c nP;obtain⟨b,eb,hb⟩:=hc i hd r hr;obtain⟨g,eg,hg⟩:=hc i hd c nP;refine⟨a*s-b*g,?_,by have:=Du (lv ha hs) (lv hb hg);omega⟩;unfold cT;rw[f1,f2,f2,ea,eb,eg,es];exact ak1 hD iG⟩
  refine⟨⟨_,hL.mono (by omega)⟩,⟨s,hF⟩,fun g hg=>⟨?_,W3 hF g hg⟩,fun j=>?_⟩
  ·rw[Kau.1 hg,f1];have:=zk i hd i hd;omega
  ·match j with
   |0=>exact fun r hr c hc=>by have:=zk r hr c hc;show rs (M r c)<=_;omega
   |j+1=>exact fun r hr c hc=>by have:=hL.bd r hr c hc;simp only[List.take_succ_cons,List.take_nil];rw[tl];omega
 ·rw [if_neg hd]at aJ⊢;by_cases dC:cF M R<R
  ·rw[if_pos dC]at aJ⊢;have hb0:=yD dC;have h0:=AO hb0;generalize cF M R=i at *
   generalize eU M R i=k at *
   obtain⟨s,es,hs⟩:=hc i dC k hb0;have iG:=Kr h0 es;obtain⟨wt,zT⟩:∃wt:Rat,1/(M i k+M i k)=wt:=⟨_,rfl⟩
   rw[zT];obtain⟨f,hf⟩:∃f:LF,(wt,gF (M i) (M k) 1)=f:=⟨_,rfl⟩
   obtain⟨g,hg⟩:∃g:LF,(-wt,gF (M i) (M k) (-1))=g:=⟨_,rfl⟩
   rw[hf,hg];have f1:f.1=wt:=by rw[<-hf]
   have g1:g.1= -wt:=by rw[<-hg]
   have f2:∀c,f.2 c=M i c+1*M k c:=fun c=>by rw[<-hf];rfl
   have g2:∀c,g.2 c=M i c+ -1*M k c:=fun c=>by rw[<-hg];rfl
   have hF:FD (n+1) D R [f,g]:=⟨hD,by omega,fun u hu c nP=>by
    obtain⟨x,ex,hx⟩:=hc i dC c nP;obtain⟨y,ey,hy⟩:=hc k hb0 c nP;rcases KaG.1 hu with rfl|hu
    ·obtain⟨z,ez,hz⟩:=TG (x:=x) (y:=y) (.inl rfl) hD;exact⟨z,by rw[f2,ex,ey,ez],hz n hx hy⟩
    ·rw[Kau.1 hu];obtain⟨z,ez,hz⟩:=TG (x:=x) (y:=y) (.inr rfl) hD;exact⟨z,by rw[g2,ex,ey,ez],hz n hx hy⟩⟩
   have je:s+s≠0:=by omega
   have dF:nl (s+s).natAbs<=n+1:=by have:=tE s s;omega
   have hL1:CM (2*n+3) (D*(s+s)) R R (cT M f):=⟨Kcu hD je,by have:=lv xr dF;omega,fun r hr c nP=>by obtain⟨a,ea,ha⟩:=hc r hr c nP;obtain⟨x,ex,hx⟩:=hF.2.2 f (by simp) r hr;obtain⟨y,ey,hy⟩:=hF.2.2 f (by simp) c nP;refine⟨a*(s+s)-x*y,?_,by have h1:=lv ha dF;have h2:=lv hx hy;have:=Du (n:=2*n+2) (x:=a*(s+s)) (y:=x*y) (by omega) (by omega);omega⟩;unfold cT;rw[f1,ea,ex,ey,<-zT,es];exact ak2 hD iG⟩
   have Xh:CM (2*n+2) (D*s) R R (fP M [f,g]):=⟨Kcu hD iG,by have:=lv xr hs;omega,fun r hr c nP=>by obtain⟨a,ea,ha⟩:=hc r hr c nP;obtain⟨x,ex,hx⟩:=hc i dC r hr;obtain⟨x',ex',bk⟩:=hc k hb0 r hr;obtain⟨y,ey,hy⟩:=hc i dC c nP;obtain⟨y',ey',n5⟩:=hc k hb0 c nP;refine⟨a*s-(x*y'+x'*y),?_,by have h1:=lv ha hs;have h2:=lv hx n5;have h3:=lv bk hy;have h4:=tE (x*y') (x'*y);have:=Du (n:=2*n+1) (x:=a*s) (y:=x*y'+x'*y) (by omega) (by omega);omega⟩;show cT (cT M f) g r c=_;unfold cT;rw[f1,g1,f2,f2,g2,g2,ea,ex,ey,ex',ey',<-zT,es];exact ak3 hD iG⟩
   have IZ:rs wt<=2*n+4:=by have h1:=zk i dC k hb0;have h2:=lz (M i k) (M i k);have h3:M i k+M i k≠0:=fun h=>h0 (by grind);have h4:=DH _ h3;rw[<-zT,Kbr,Kcm];omega
   refine⟨⟨_,Xh⟩,⟨D,hF⟩,fun u hu=>⟨?_,W3 hF u hu⟩,fun j=>?_⟩
   ·rcases KaG.1 hu with rfl|hu
    ·rw[f1];exact IZ
    ·rw[Kau.1 hu,g1,sw];exact IZ
   ·match j with
    |0=>exact fun r hr c hc=>by have:=zk r hr c hc;show rs (M r c)<=_;omega
    |1=>exact fun r hr c hc=>by have:=hL1.bd r hr c hc;show rs (cT M f r c)<=_;omega
    |j+2=>exact fun r hr c hc=>by have:=Xh.bd r hr c hc;simp only[List.take_succ_cons,List.take_nil];omega
  ·rw[if_neg dC]at aJ;exact absurd rfl aJ
theorem FD.mono{n n' R:Nat}{D:Int}{L:List LF}(h:FD n D R L)(hn:n<=n'):FD n' D R L:=
 ⟨h.1,Kap h.2.1 hn,fun f hf c hc=>by obtain⟨a,e,ha⟩:=h.2.2 f hf c hc;exact⟨a,e,Kap ha hn⟩⟩
theorem FD.app{n m R:Nat}{D E:Int}{L K:List LF}(h:FD n D R L)(k:FD m E R K):FD (n+m) (D*E) R (L++K):=
 ⟨Kcu h.1 k.1,lv h.2.1 k.2.1,fun f hf c hc=>by
  have h1:=mi h.1;have h2:=mi k.1;rcases KaL.1 hf with hf|hf
  ·obtain⟨a,e,ha⟩:=h.2.2 f hf c hc;refine⟨a*E,?_,lv ha k.2.1⟩;rw[e,KaU,KaU];generalize(a:Rat)=a at *
   generalize(D:Rat)=D at *
   generalize(E:Rat)=E at *
   grind
  ·obtain⟨a,e,ha⟩:=k.2.2 f hf c hc;refine⟨a*D,?_,by have:=lv ha h.2.1;omega⟩;rw[e,KaU,KaU];generalize(a:Rat)=a at *
   generalize(D:Rat)=D at *
   generalize(E:Rat)=E at *
   grind⟩
theorem JS{R n:Nat}{D:Int}{M:MF}(hs:Sym R M)(hn:2<=n)(h:CM (n-2) D R R M)(gL:3<=n):∀k,(∀j,j<k->cd (Qx R M j).1 R≠[])->Sym R (Qx R M k).1/\(∃D',CM (n*2^k-2) D' R R (Qx R M k).1)/\∃D',FD (n*2^k) D' R (Qx R M k).2
 | 0,_=>⟨hs,⟨D,by rw[Kc8,KbK];exact h⟩,⟨1,by omega,by show nl 1<=_;rw[u9,Kc8];omega,fun f hf=>by cases hf⟩⟩
 |k+1,hk=>by
  obtain⟨h1,⟨D1,h2⟩,⟨D2,h3⟩⟩:=JS hs hn h gL k fun j hj=>hk j (by omega);have jZ:3<=n*2^k:=Kap gL (KaZ _ (Kbw (by omega)));have hm:n*2^(k+1)=2*(n*2^k):=by rw[Kbv];simp only[KaP,Kbl]
  obtain⟨⟨D3,a1⟩,⟨D4,a2⟩,_,_⟩:=SQ h1 h2 (by omega) (hk k (by omega));rw[uR];refine⟨?_,⟨D3,a1.mono (by omega)⟩,⟨D2*D4,(h3.app a2).mono (by omega)⟩⟩;have hb3:fL (max (n*2^k-2) 3) R R (Qx R M k).1:=fun r hr c hc=>by have:=h2.bd r hr c hc;omega
  obtain⟨_,_,_,s3,_⟩:=G3 h1 (by omega) hb3 (hk k (by omega));exact s3
theorem JT{R:Nat}{M:MF}:∀k,∃k',k'<=k/\Qx R M k=Qx R M k'/\∀j,j<k'->cd (Qx R M j).1 R≠[]
 |0=>⟨0,Kae _,rfl,fun j hj=>by omega⟩
 | k+1=>by
  obtain⟨k',h1,h2,h3⟩:=JT (R:=R) (M:=M) k;by_cases hn:cd (Qx R M k').1 R=[]
  ·refine⟨k',by omega,?_,h3⟩;rw[uR,h2,hn,Kam];rfl
  ·have e:Qx R M (k+1)=Qx R M (k'+1):=by rw[uR,uR,h2]
   exact⟨k'+1,by omega,e,fun j hj=>by
    by_cases IG:j=k'
    ·subst IG;exact hn
    ·exact h3 j (by omega)⟩
theorem CM.b3{n R:Nat}{D:Int}{M:MF}(h:CM (n-2) D R R M)(hn:5<=n):fL n R R M:=fun r hr c hc=>by have:=h.bd r hr c hc;omega
theorem ak4{R n m:Nat}{D:Int}{M:MF}(hs:Sym R M)(h:CM (n-2) D R R M)(hn:5<=n):xa (n*2^R) R m M:=fun k _=>by
 obtain⟨k',h1,h2,h3⟩:=JT (R:=R) (M:=M) k;have hz:=Dr hs (by omega) (h.b3 hn) k' h3;obtain⟨a1,⟨D1,a2⟩,_⟩:=JS hs (by omega) h (by omega) k' h3;have jZ:3<=n*2^k':=Kap (by omega) (KaZ _ (Kbw (by omega)));rw[h2];by_cases gB:cd (Qx R M k').1 R=[]
 ·have hle:n*2^k'<=n*2^R:=KaE _ (KaR (by omega) (by omega));have hb:fL (n*2^R) R R (Qx R M k').1:=fun r hr c hc=>by have:=a2.bd r hr c hc;omega
  rw[gB];exact⟨hb,(fun f hf=>by cases hf),fun j _=>by simpa[fP]using hb⟩
 ·have h1z:=Sd a1 gB;have hle:n*2^(k'+1)<=n*2^R:=KaE _ (KaR (by omega) (by omega));have hm:n*2^(k'+1)=2*(n*2^k'):=by rw[Kbv];simp only[KaP,Kbl]
  obtain⟨_,_,b3,b4⟩:=SQ a1 a2 (by omega) gB;exact⟨fun r hr c hc=>by have:=a2.bd r hr c hc;omega,fun f hf=>⟨by have:=(b3 f hf).1;omega,fun c hc=>by have:=(b3 f hf).2 c hc;omega⟩,fun j _ r hr c hc=>by have:=b4 j r hr c hc;omega⟩
theorem ak5{R n:Nat}{D:Int}{M:MF}(hs:Sym R M)(h:CM (n-2) D R R M)(hn:5<=n)(k:Nat):∃D',FD (n*2^R) D' R (Qx R M k).2:=by obtain⟨k',h1,h2,h3⟩:=JT (R:=R) (M:=M) k;have hz:=Dr hs (by omega) (h.b3 hn) k' h3;obtain⟨_,_,⟨D2,a3⟩⟩:=JS hs (by omega) h (by omega) k' h3;rw[h2];exact⟨D2,a3.mono (KaE _ (KaR (by omega) (by omega)))⟩
end Go.FW
