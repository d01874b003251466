/- Part 16 of the proof of SquaresProofs: W9, Q12, Q13, L6, B22, B26, B27, FwXD. Own lemmas; no conditions. -/
import Derived.Test.YtkoclfmjlolkhaaGreatSquaresProofsPart15
set_option maxHeartbeats 1000000
set_option linter.unusedSimpArgs false
set_option linter.unusedVariables false
set_option linter.unnecessarySimpa false
set_option maxRecDepth 100000
namespace Go.Proofs.YtkoclfmjlolkhaaGreat
open Go Go.FW
theorem aef(v:Nat):Wj v=cB v 1:=rfl
theorem R6{v:Nat}(hv:v<64):Qd Tryz.prog 67 [.int .i64 v] (· =PV.aM (fL v)):=by
 have kH:(List.replicate (v+1) (0:Int)).set v 1=cB v 1:=NJ v 1 rfl
 have hlr:v<(List.replicate (v+1) (0:Int)).length:=by simp
 have rD:=lO
 have dN:(cB v 1).length=v+1:=by simp[cB]
 have fj:=(R0 (p:=[]) (m:=cB v 1) (K:=1) (E:=1) (k:=4) (PB.nil _ _) trivial (by simp[NZ]) (eW (q:=((1:Int):Rat)) (k:=4) (by rw[show((1:Int):Rat)=1 from rfl];omega)) Oz (JC hv) (ME Oz) Oz Oz (by simp)).le (args':=[.al,PV.rat ((1:Int):Rat),PV.mono (cB v 1)]) ⟨trivial,Qn _,Qn _,trivial⟩
 rw[dE]at fj
 have e:qH [] ((1:Int):Rat) (cB v 1)=fL v:=by
  rw[qH,wU,if_neg (by decide),fL,if_neg Oz,Kcz,aef];rfl
 rw[e]at fj
 refine aE Qg Tryz.func67 ajO fun C hP=> ?_
 refine Sz0 ?_
 refine Qx (fun h=>by omega) (fun _=> ?_)
 refine Sz0 ?_
 refine Qa (fun h=>by omega) (fun _=> ?_)
 refine Sz1 kH ?_
 refine Qb hP (AE (x:=1) Oz Oz) ?_
 generalize((1:Int):Rat)=c at *
 refine Sz0 ?_
 refine kS hP fj (by simp+decide (disch:=try exact E0) only[go_sem,ep,Kay,KaD,Kaz,KaF,Kam];simp[Kac,dN]) rfl ?_
 refine Sz0 ?_
 exact Qc rfl rfl
def c21:ay:=⟨73,[.t 0],Zr (Yh 0)<|Zr (jW 10 67 0<|
 jW 11 67 1<|
 Zm 1 10<|
 Zm 2 11 .nil)<|Zr (YL 12 1 2 68<|
 Zm 3 14 .nil)<|Zr (YL 16 3 3 69<|
 Zq 19 false 22 [.t 18]<|
 Zm 15 19<|
 lU 20 15<|
 Ye 4 20 21<|
 Yc 6 22)<|Zr (YL 24 1 1 69<|
 jW 27 50 1<|
 Yk 28 70 27<|
 Ym 29 68 26 28<|
 Yk 30 22 29<|
 Zm 23 30<|
 lU 31 23<|
 Ye 7 31 32<|
 Yc 9 33)<| .seq (Zr (Zm 34 6<|
 Zk 35 .neq 34 0<|
 Yu 36 35 9<|
 Zg 36 false (.bin 38 .neq false (.t 37) (.c (Zz 17)))<|
 Yj 39 36 38<|
 qW 40 39 4<|
 Zg 40 false (.bin 43 .neq false (.t 42) (.c (Zz 1)))<|
 Yj 44 40 43<|
 qW 45 44 8<|
 Zg 45 false (.bin 48 .neq false (.t 47) (.c (Zz 1)))<|
 ew 49 45 48)<| .cond (.t 49) (Zr (Yh 0) .ret) .skip)<|Zr (Zm 50 4<|
 Zo (.idx 51 4 (.t 50) (.c (Zz 0)))<|
 YT 52 51 3<|
 Zq 54 true 50 [.c (Zz 1)]<|
 Yr 55 49 53 54<|
 YS 56 55 4<|
 Zg 56 true (.idx 58 4 (.t 57) (.c (Zz 0)))<|
 Zg 56 true (.fP 59 3 (.t 58))<|
 Zg 56 true (.ld 60 1 false (.t 59))<|
 Zg 56 true (.mv 61 (.t 3))<|
 Zg 56 true (.call (some 62) true (.c (.fn 40 [] [])) [.t 60,.t 61])<|
 Zg 56 true (.mv 63 (.t 62))<|
 Zg 63 false (.mv 64 (.t 4))<|
 Zg 63 false (.idx 65 4 (.t 64) (.c (Zz 0)))<|
 Zg 63 false (.fP 66 3 (.t 65))<|
 Zg 63 false (.ld 67 1 false (.t 66))<|
 Zg 63 false (.mv 68 (.t 3))<|
 Zg 63 false (.call (some 69) true (.c (.fn 71 [] [])) [.t 68])<|
 Zg 63 false (.call (some 70) true (.c (.fn 40 [] [])) [.t 67,.t 69])<|
 Zg 56 true (.pick 71 (.t 63) (.c (.bool true)) (.t 70))<|
 Yp 72 56 71<|
 Yc 0 72) .ret⟩
theorem aj7:Qe Tryz.prog Tryz.f21=some c21:=by kernel_rfl
def aD:List Tm:=LD (fL 0) (fL 1)
def xz:List Tm:=fy aD aD
def vL:List Tm:=LD (fy (fL 0) (fL 0)) (rY 1)
def xy:List (List Int):=[[1],[0,1],[]]
def sE:List (List Int):=[[1],[]]
def rf:List Rat:=[1,-1,0,-1,1,0,0,0,0]
def m6:List Rat:=[1,0,0,-1]
theorem J9:aJ xz=xy:=by decide+kernel
theorem Ka:aJ vL=sE:=by decide+kernel
theorem alW:iA xz xy=rf:=by decide+kernel
theorem alX:iA vL sE=m6:=by decide+kernel
theorem aj8:((Qv 3 (Qu rf 3) (2*3)).2.all fun f=>decide (0<=f.1))=true:=by decide+kernel
theorem aln:(Qv 3 (Qu rf 3) (2*3)).2.map (fg xy)=[(1,aD)]:=by decide+kernel
theorem aj9:((Qv 2 (Qu m6 2) (2*2)).2.all fun f=>decide (0<=f.1))=false:=by decide+kernel
theorem al1:(Qv 2 (Qu m6 2) (2*2)).2.map (·.1)=[1,-1]:=by decide+kernel
theorem alV:du 2 (Qv 2 (Qu m6 2) (2*2)).2=[1,0,0,1]:=by decide+kernel
theorem alY:(Qv 2 (Qu m6 2) (2*2)).2.length=2:=by decide+kernel
theorem alT:tY xy 3 3 (rf.map qR)=0:=by decide+kernel
theorem alU:tY sE 2 2 (m6.map qR)=0:=by decide+kernel
theorem alZ:mS (Qu rf 3) 3:=by decide+kernel
theorem al0:mS (Qu m6 2) 2:=by decide+kernel
theorem alo:dk (xz.map ee)=true:=by decide+kernel
theorem alp:dk (vL.map ee)=true:=by decide+kernel
theorem Rp{p:List Tm}(hb:PB 10 10 p)(hl:p.length<=10)(h:dk (p.map ee)=true):Qd Tryz.prog 72 [PV.aM p] (· = .bool true):=by
 have h1:=DQ (l:=p.map ee) (k:=10) (fun t ht=>by
  obtain⟨s,hs,rfl⟩:=Kau.1 ht
  have:=(hb s hs).c
  exact BN Oz (by have:=(hb s hs).m.len;omega)) Oz Oz (by rw[Kap];omega)
 rwa[Bm,h]at h1
theorem Oc{l:List Rat}(h:∀q∈l,rs q<=3)(hl:l.length<=25):nK (l.map qR):=⟨by rw[Kap];omega,qb.of fun q hq=>by have:=h q hq;omega⟩
theorem alq:Qd Tryz.prog 29 [PV.gR xy,PV.bO 3 3 rf] (· = .aI [PV.iv [(1,aD)],.int .i64 0]):=by
 have hs:∀q∈rf,rs q<=3:=by decide+kernel
 have c:=II (bs:=xy) (r:=3) (c:=3) (by decide) (by decide) (Oc hs (by decide))
 rw[alT]at c
 have hm:PV.bO 3 3 rf=PV.lF 3 3 (rf.map qR):=vg 3 3 rf
 rw[<-hm]at c
 obtain⟨fs,jL,d1,_,d3,d4⟩:=N9 (R:=3) (la:=rf) (by decide) Oz hs alZ
 have h:=HQ (K:=50421) (R:=3) (bs:=xy) ⟨rfl,by decide,by omega,by omega,d4,by omega,by omega⟩ c d1
 rw[jL,qg,if_pos aj8,aln]at h
 exact h
theorem QB:Qd Tryz.prog 48 [PV.bO 2 2 m6] (· = .aI [PV.bU [1,-1],PV.bO 2 2 [1,0,0,1],.int .i64 0])/\Qd Tryz.prog 29 [PV.gR sE,PV.bO 2 2 m6] (· = .aI [PV.iv [],.int .i64 17]):=by
 have hs:∀q∈m6,rs q<=3:=by decide+kernel
 have c:=II (bs:=sE) (r:=2) (c:=2) (by decide) (by decide) (Oc hs (by decide))
 rw[alU]at c
 have hm:PV.bO 2 2 m6=PV.lF 2 2 (m6.map qR):=vg 2 2 m6
 rw[<-hm]at c
 obtain⟨fs,jL,d1,_,d3,d4⟩:=N9 (R:=2) (la:=m6) (by decide) Oz hs al0
 have h:=HQ (K:=50421) (R:=2) (bs:=sE) ⟨rfl,by decide,by omega,by omega,d4,by omega,by omega⟩ c d1
 rw[jL,qg,if_neg (by rw[aj9];decide)]at h
 rw[jL,vD,al1,alY,alV]at d1
 exact⟨d1,h⟩
theorem ahu:yC (Qt 2 (cy (Qu [1,0,0,1] 2) (kk [0,1]) 2) 2) 2 2= .aI [PV.bU [0,1],.int .i64 0]:=by
 have h0:∀r,r<2->(Qt 2 (cy (Qu [1,0,0,1] 2) (kk [0,1]) 2) 2).ax.length<=r->(Qt 2 (cy (Qu [1,0,0,1] 2) (kk [0,1]) 2) 2).M r 2=0:=by
  have e:(Qt 2 (cy (Qu [1,0,0,1] 2) (kk [0,1]) 2) 2).ax.length=2:=by decide+kernel
  intro r hr h;omega
 rw[yC,if_pos h0]
 have e:(List.range 2).map (mT (Qt 2 (cy (Qu [1,0,0,1] 2) (kk [0,1]) 2) 2).M (Qt 2 (cy (Qu [1,0,0,1] 2) (kk [0,1]) 2) 2).ax 2 (Qt 2 (cy (Qu [1,0,0,1] 2) (kk [0,1]) 2) 2).ax.length)=[0,1]:=by decide+kernel
 have key:∀f:Nat->Rat,(List.range 2).map f=[0,1]->Qo PV.rat f 2=[(0:Rat),1].map PV.rat:=fun f h=>by rw[<-h,KbE];rfl
 rw[key _ e]
theorem ahv:Qd Tryz.prog 138 [PV.bO 2 2 [1,0,0,1],.int .i64 ((1:Nat):Int)] (· =PV.bU [0,1]):=by
 have hu:nN 2 1=[0,1]:=by decide+kernel
 have hs:∀q∈([1,0,0,1]:List Rat),rs q<=3:=by decide+kernel
 have cR:∀q∈([0,1]:List Rat),rs q<=3:=by decide+kernel
 have hB:xt (3*3125) 2 3 2 (cy (Qu [1,0,0,1] 2) (kk [0,1]) 2):=ahM Oz (fun r _ c _=>by
  unfold cy;split
  ·exact adH Oz cR r
  ·exact y7 Oz hs) Oz (.inl Oz)
 have h:=OQ (R:=2) (m:=2) (l:=[1,0,0,1]) (b:=[0,1]) rfl rfl Oz Oz Oz (fun q hq=>by have:=hs q hq;omega) (fun q hq=>by have:=cR q hq;omega) Oz hB
 rw[ahu,<-hu]at h
 rw[hu]at h
 exact Ob (R:=2) (n:=2) (a:=1) Oz (by rw[hu];exact h)
theorem alr:Qd Tryz.prog 75 [PV.aM vL,PV.gR sE,PV.bO 2 2 m6] (· =PV.bU [0]):=by
 have e:([(0:Rat),1].map (· /1))=[0,1]:=by decide+kernel
 have eD:=I3 (bs:=sE) (x:=[0,1]) (by decide) (by decide) (by decide) (by decide) (by decide)
 rw[show dd sE [0,1] (sE.length-1)=[0]by decide+kernel]at eD
 exact R5 (a:=1) (m:=1) (x:=[0,1]) (c:=1) QB.1 (by decide) (by decide) (by decide+kernel) (by decide+kernel) (by decide+kernel) ahv rfl Oz (by decide+kernel) rfl (fun h=>absurd h (by decide+kernel)) (fun _=>by rw[e];exact eD)
theorem alR:Qd Tryz.prog 22 [PV.aM xz] (· = .aI [PV.iv [(1,aD)],PV.bU [],.int .i64 0]):=by
 have hb:PB 10 10 xz:=xo (by decide+kernel)
 have hF:=alq
 rw[<-alW,<-J9]at hF
 exact Dw (K:=10) (E:=10) hb Oz Oz Oz (by decide+kernel) (Rp hb (by decide+kernel) alo) (by decide+kernel) (by rw[J9];decide) (by rw[J9]at hF ⊢;exact hF) (fun h=>by cases h) (fun _=>rfl)
theorem alS:Qd Tryz.prog 22 [PV.aM vL] (· = .aI [PV.iv [],PV.bU [0],.int .i64 17]):=by
 have hb:PB 10 10 vL:=xo (by decide+kernel)
 have hF:=QB.2
 have hN:=alr
 rw[<-alX]at hF hN
 exact Dw (K:=10) (E:=10) hb Oz Oz Oz (by decide+kernel) (Rp hb (by decide+kernel) alp) (by decide+kernel) (by rw[Ka];decide) (by rw[Ka];exact hF) (fun _=>⟨rfl,by rw[Ka];exact hN⟩) (fun h=>absurd rfl h)
def c8:ay:=⟨48,[.t 4],Zr (Yh 4)<| .seq (Zr (Yz 9 1 33<|
 Zu 11 10<|
 Yu 12 11 0<|
 Zg 12 false (.call (some 14) false (.c (.fn 18 [] [])) [.t 13])<|
 vH 12)<| .cond (.t 16) (Zr (Zq 17 false 21 []<|
 Yc 4 17) .ret) .skip)<|Zr (Yz 19 1 36<|
 Zm 18 20<|
 jF 21 18 5)<|Zr (Yz 24 1 39<|
 Zm 23 25<|
 jF 26 23 7)<|Zr (Ye 28 5 7<|
 Zq 30 false 40 [.t 28,.t 29]<|
 YS 31 30 6<|
 Zg 31 true (.mv 33 (.t 8))<|
 Zg 31 true (.bin 34 .eql false (.t 32) (.t 33))<|
 Yp 35 31 34<|
 YS 36 35 0<|
 Zg 36 true (.mv 38 (.t 1))<|
 Zg 36 true (.call (some 39) false (.c (.fn 41 [] [])) [.t 37,.t 38])<|
 Zg 36 true (.mv 40 (.t 0))<|
 Zg 36 true (.mv 41 (.t 1))<|
 Zg 36 true (.call (some 42) false (.c (.fn 42 [] [])) [.t 40,.t 41])<|
 Zg 36 true (.bin 43 .eql false (.t 39) (.t 42))<|
 zO 44 36 43) .ret⟩
def c5:ay:=⟨37,[.t 4],Zr (Zo (.box 3 3 24 (.t 1))<|
 Yh 4)<| .seq (Zr (Zm 9 0<|
 Zh 10 3 3<|
 Ym 11 28 9 10<|
 Zu 12 11 .nil)<| .cond (.t 12) (Zr (Zq 13 false 21 []<|
 Zm 4 13 .nil) .ret) .skip)<|Zr (Zm 15 0<|
 Zh 16 3 3<|
 Zq 17 false 29 [.t 15,.t 16]<|
 Zm 14 17<|
 jF 18 14 5)<|Zr (Zm 21 0<|
 Zh 22 3 3<|
 Zq 23 false 30 [.t 21,.t 22]<|
 Zm 20 23<|
 jF 24 20 7)<|Zr (YL 26 5 7 24<|
 YS 29 28 6<|
 Zg 29 true (.mv 31 (.t 8))<|
 Zg 29 true (.bin 32 .eql false (.t 30) (.t 31))<|
 zO 33 29 32) .ret⟩
def c7:ay:=⟨84,[.t 4],Zr (Yh 4)<| .seq (Zr (Yz 11 0 33<|
 Zu 13 12<|
 qW 14 13 1<|
 Zg 14 false (.bin 17 .lss false (.t 16) (.c (Zz 5)))<|
 Yj 18 14 17<|
 qW 19 18 1<|
 sD 19 6<|
 ew 23 19 22)<| .cond (.t 23) (Zr (Zq 24 false 21 []<|
 Yc 4 24) .ret) .skip)<| .seq (Zr (Yl 5 0)<| .block 0<| .loop<| .seq (Zr (YH 25 5 1)<| .cond (.t 28) .skip (.exit 0))<| .seq (.block 1<|Zr (ky 31 1 5 3<|
 Yk 35 34 34<|
 Zu 36 35<|
 qY 37 36 1 5<|
 Zg 37 false (.idx 40 3 (.t 38) (.t 39))<|
 Zg 37 false (.ld 41 3 true (.t 40))<|
 Zg 37 false (.call (some 42) false (.c (.fn 25 [] [])) [.t 41])<|
 Zg 37 false (.un 43 .not (.t 42))<|
 ew 44 37 43)<| .cond (.t 44) (Zr (Zq 45 false 21 []<|
 Yc 4 45) .ret) .skip)<| .rg (gh 29 5 5))<| .seq (Zr (Yl 6 0)<| .block 2<| .loop<| .seq (Zr (YH 46 6 0)<| .cond (.t 49) .skip (.exit 2))<| .seq (.block 3<|Zr (oY 52 0 6<|
 Zq 57 false 35 [.t 56,.c (Zz 6),.c (Zz 5),.c (Zz 4)]<|
 Zu 58 57 .nil)<| .cond (.t 58) (Zr (Zq 59 false 21 []<|
 Yc 4 59) .ret) .skip)<| .rg (gh 50 6 6))<|Zr (Yz 61 0 36<|
 Zm 60 62<|
 jF 63 60 7)<| .seq (Zr (Zm 65 8<|
 hO 66 65)<| .cond (.t 66) (Zr (Zq 67 false 21 []<|
 Yc 4 67) .ret) .skip)<|Zr (YL 69 7 1 37<|
 Zm 68 71<|
 mY 72 68 9 10)<|Zr (Zm 74 10<|
 Zk 75 .eql 74 0<|
 Zm 76 75<|
 Zg 76 true (.ld 77 3 true (.t 9))<|
 Zg 76 true (.call (some 78) false (.c (.fn 38 [] [])) [.t 77])<|
 Zg 76 true (.bin 79 .geq false (.t 78) (.c (Zz 0)))<|
 zO 80 76 79) .ret⟩
theorem y9:Qd Tryz.prog 21 [] (· = .bool true):=by
 have yj:Qd Tryz.prog 67 [.int .i64 0] (· =PV.aM (fL 0)):=R6 (v:=0) Oz
 have yl:Qd Tryz.prog 67 [.int .i64 1] (· =PV.aM (fL 1)):=R6 (v:=1) Oz
 have p0:PB 10 10 (fL 0):=xo (by decide+kernel)
 have p1:PB 10 10 (fL 1):=xo (by decide+kernel)
 have pc:PB 10 10 (rY 1):=xo (by decide+kernel)
 have pd:PB 10 10 aD:=xo (by decide+kernel)
 have pm:PB 10 10 (fy (fL 0) (fL 0)):=xo (by decide+kernel)
 have n0:bC (fL 0):=FK (by decide+kernel)
 have n1:bC (fL 1):=FK (by decide+kernel)
 have nc:bC (rY 1):=FK (by decide+kernel)
 have nd:bC aD:=FK (by decide+kernel)
 have l0:(fL 0).length=1:=by decide+kernel
 have l1:(fL 1).length=1:=by decide+kernel
 have lc:(rY 1).length=1:=by decide+kernel
 have ld:aD.length=2:=by decide+kernel
 have lm:(fy (fL 0) (fL 0)).length=1:=by decide+kernel
 have eT:Qd Tryz.prog 68 [PV.aM (fL 0),PV.aM (fL 1)] (· =PV.aM aD):=RZ p0 p1 n1.z Oz Oz Oz Oz Oz
 have cR:Qd Tryz.prog 68 [PV.aM (fy (fL 0) (fL 0)),PV.aM (rY 1)] (· =PV.aM vL):=RZ pm pc nc.z Oz Oz Oz Oz Oz
 have ob:=RY pd pd nd.z nd.z Oz Oz Oz (by rw[ld];decide) (by rw[ld];decide)
 rw[NR nd nd]at ob
 have ob:Qd Tryz.prog 69 [PV.aM aD,PV.aM aD] (· =PV.aM xz):=ob
 have nh:=RY p0 p0 n0.z n0.z Oz Oz Oz (by rw[l0];decide) (by rw[l0];decide)
 rw[NR n0 n0]at nh
 have wh:Qd Tryz.prog 50 [.int .i64 1] (· =PV.rat 1):=AE (x:=1) Oz Oz
 have aa:Qd Tryz.prog 70 [PV.rat 1] (· =PV.aM (rY 1)):=ZL (a:=1) (k:=4) (by decide+kernel) Oz
 have zZ:=Tc (a:=1) (b:=1) (k:=4) (by decide+kernel) (by decide+kernel) Oz
 rw[decide_eq_true rfl]at zZ
 have z4:=Wn pd pd Oz Oz Oz Oz
 rw[decide_eq_true rfl]at z4
 have q1:=alR
 have q2:=alS
 clear p0 p1 pc pd pm n0 n1 nc nd l0 l1 lc lm
 generalize fy (fL 0) (fL 0)=M at *
 generalize rY 1=O at *
 generalize fL 0=V0 at *
 generalize fL 1=V1 at *
 generalize xz=P1 at *
 generalize vL=P2 at *
 generalize aD=D at *
 refine aE Qg Tryz.func21 aj7 fun C hP=> ?_
 refine Sz0 ?_
 refine Qb hP yj ?_
 refine Sz0 ?_
 refine Qb hP yl ?_
 refine Sz0 ?_
 refine Qb hP eT ?_
 refine Sz0 ?_
 refine Qb hP ob ?_
 refine Sz0 ?_
 refine Qb hP q1 ?_
 refine Sz0 ?_
 refine Qb hP nh ?_
 refine Sz0 ?_
 refine Qb hP wh ?_
 refine Sz0 ?_
 refine Qb hP aa ?_
 refine Sz0 ?_
 refine Qb hP cR ?_
 refine Sz0 ?_
 refine Qb hP q2 ?_
 refine Sz0 ?_
 refine Qb hP wh ?_
 refine Sz0 ?_
 refine Qb hP zZ ?_
 refine Sz0 ?_
 refine Qb hP z4 ?_
 refine Sz0 ?_
 exact Qc rfl rfl
open Go Go.FW Go.ChangeShapes Go.WideShapes Go.ChangeAt Go.RowKit
variable {H : Type} {enc : TypeId × Value -> H}
def HA(s:de):Prop:=Raw 1048576 s.n s.a s.d/\Dp s.p
theorem aco:Rd enc 65 fun ps=>∃s:de,ps=(PV.jN s).cells/\HA s:=by
 refine(Dy dQ Tryz.underlying65 rfl (by kernel_rfl) (by kernel_rfl) P3 O6).mono ?_
 rintro ps ⟨p,q,rfl,⟨n,a,d,rfl,h⟩,l,rfl,h3⟩
 exact⟨⟨n,a,d,l⟩,rfl,h,h3⟩
def Ft(l:List de):Prop:=l.length<=1048576/\∀s∈l,HA s
theorem Rq:Tryz.prog.cellsOf 65=4:=by kernel_rfl
theorem aaG:Rd enc 41 fun ps=>∃l:List de,ps=[.sl 4 (l.map PV.jN)]/\Ft l:=by
 refine(DM (α:=de) (f:=PV.jN) (G:=HA) dQ Tryz.underlying41 (by rw[Rq];omega) aco).mono ?_
 rintro ps ⟨l,rfl,h1,h2⟩
 exact⟨l,by rw[Rq],h1,h2⟩
variable {w : World} {base : Nat} {spare : Nat -> Bool} {held : Bool} {r : Reach} {b0 : Nat} {v : Value} {d : DataW H} {ps : List MemPlace}
theorem XY(eR:Value.okWide Tryz.prog w r b0 41 v)(hd:DataW.Trod enc Tryz.prog w base spare held 41 v d ps)(hn:Rows.uptoBulk d<=1048576):∃l:List de,bI w dL (.sl 4 (l.map PV.jN)) v/\Ft l:=by
 obtain⟨p,⟨l,e,h⟩,h2⟩:=LZ Tryz.underlying41 eR aaG hd hn
 obtain rfl:p= .sl 4 (l.map PV.jN):=by simpa using e
 exact⟨l,h2,h⟩
theorem aka{l:List de}(h:Ft l):∀s∈l,qT 1048576 s:=fun s hs=>by
 obtain⟨h1,h2,h3⟩:=h.2 s hs
 exact⟨h1,fun t ht=>(h3 t ht).1,by omega⟩
end Go.Proofs.YtkoclfmjlolkhaaGreat
namespace Go.Proofs.YtkoclfmjlolkhaaGreat
open Go Go.FW
theorem pO{x x' y y':Nat->Rat}:∀n,(∀c,c<n->x c=x' c/\y c=y' c)->Qs x y n=Qs x' y' n
 |0,_=>rfl
 |n+1,h=>by
  simp only[Qs]
  rw[pO n fun c hc=>h c Oz,(h n Oz).1,(h n Oz).2]
theorem wW{x y:Nat->Rat}:∀n,(∀c,c<n->x c=0)->Qs x y n=0
 |0,_=>rfl
 |n+1,h=>by
  simp only[Qs]
  rw[wW n fun c hc=>h c Oz,h n Oz];grind
theorem yS{x:Nat->Rat}:∀n,Qs x (fun _=>0) n=0
 |0=>rfl
 |n+1=>by
  simp only[Qs]
  rw[yS n];grind
theorem OS{f x:Nat->Rat}{p:Rat}(hp:p≠0):∀n,Qs (fun c=>f c/p) x n*p=Qs f x n
 |0=>by simp only[Qs];grind
 |n+1=>by
  have:=OS (f:=f) (x:=x) hp n
  simp only[Qs]
  rw[<-this]
  grind
theorem za{f g x:Nat->Rat}{q:Rat}:∀n,Qs (fun c=>f c-q*g c) x n=Qs f x n-q*Qs g x n
 |0=>by simp only[Qs];grind
 |n+1=>by
  have:=za (f:=f) (g:=g) (x:=x) (q:=q) n
  simp only[Qs]
  rw[this]
  grind
theorem Bq{y x:Nat->Rat}{a:Nat}{v:Rat}:∀n,Qs y (fun c=>if c=a then v else x c) n=Qs y x n+(if a<n then y a*(v-x a)else 0)
 |0=>by simp only[Qs];grind
 | n+1=>by
  have h:=Bq (y:=y) (x:=x) (a:=a) (v:=v) n
  simp only[Qs]
  rw[h]
  by_cases e:n=a
  ·subst e
   rw[if_pos rfl,if_neg Oz,if_pos Oz];grind
  ·rw[if_neg e]
   by_cases e2:a<n
   ·rw[if_pos e2,if_pos Oz];grind
   ·rw[if_neg e2,if_neg Oz];grind
def qK(M:MF)(R w:Nat)(x:Nat->Rat):Prop:=∀r,r<R->Qs (M r) x w=0
theorem aeg{R w k:Nat}{E:ox}{x:Nat->Rat}(hn:E.ax.length<=R):qK (dM R E k).M R w x↔qK E.M R w x:=by
 unfold dM
 split
 ·exact Iff.rfl
 rename_i hp
 have hle:=y6 E.M k (R-E.ax.length) E.ax.length
 have aH:=Bo E.M k (R-E.ax.length) E.ax.length
 have wa:E.ax.length<=dX E.M R k E.ax.length:=hle.1
 have gj:dX E.M R k E.ax.length<R:=by
  have:dX E.M R k E.ax.length<=E.ax.length+(R-E.ax.length):=hle.2
  omega
 have aA:E.M (dX E.M R k E.ax.length) k≠0:=aH (by
  show dX E.M R k E.ax.length<_
  omega)
 generalize hi:dX E.M R k E.ax.length=i at *
 generalize lk:E.ax.length=n at *
 generalize Lb:E.M i k=p at *
 have hN:∀r,Qs (di (cz E.M i n) n p r) x w*(if r=n then p else 1)=Qs (if r=n then E.M i else if r=i then E.M n else E.M r) x w:=by
  intro r
  by_cases e:r=n
  ·subst e
   rw[if_pos rfl,if_pos rfl]
   have:di (cz E.M i r) r p r=fun c=>E.M i c/p:=by funext c;simp[di,cz]
   rw[this]
   exact OS aA w
  ·rw[if_neg e,if_neg e]
   have:di (cz E.M i n) n p r=if r=i then E.M n else E.M r:=by
    funext c;simp[di,cz,e]
   rw[this];grind
 have hL:∀r,Qs (mM (di (cz E.M i n) n p) n k r) x w=if r=n then Qs (di (cz E.M i n) n p n) x w else Qs (di (cz E.M i n) n p r) x w-di (cz E.M i n) n p r k*Qs (di (cz E.M i n) n p n) x w:=by
  intro r
  by_cases e:r=n
  ·subst e;rw[if_pos rfl]
   refine pO w fun c _=>⟨by simp[mM],rfl⟩
  ·rw[if_neg e,<-za]
   refine pO w fun c _=>⟨by simp[mM,e],rfl⟩
 generalize di (cz E.M i n) n p=N at *
 constructor
 ·intro h
  have h1:Qs (N n) x w=0:=by have:=h n Oz;rwa[hL,if_pos rfl]at this
  have h2:∀r,r<R->Qs (N r) x w=0:=fun r hr=>by
   by_cases e:r=n
   ·rw[e];exact h1
   ·have:=h r hr
    rw[hL,if_neg e,h1]at this;grind
  have h3:∀r,r<R->Qs (if r=n then E.M i else if r=i then E.M n else E.M r) x w=0:=fun r hr=>by
   rw[<-hN r,h2 r hr];grind
  intro r hr
  by_cases e:r=i
  ·have:=h3 n Oz
   rw[if_pos rfl]at this;rw[e];exact this
  ·by_cases e2:r=n
   ·have:=h3 i gj
    by_cases e3:i=n
    ·omega
    ·rw[if_neg e3,if_pos rfl]at this;rw[e2];exact this
   ·have:=h3 r hr
    rw[if_neg e2,if_neg e]at this;exact this
 ·intro h
  have h3:∀r,r<R->Qs (if r=n then E.M i else if r=i then E.M n else E.M r) x w=0:=fun r hr=>by
   split
   ·exact h i gj
   ·split
    ·exact h n Oz
    ·exact h r hr
  have h2:∀r,r<R->Qs (N r) x w=0:=fun r hr=>by
   have:=hN r
   rw[h3 r hr]at this
   by_cases e:r=n
   ·rw[if_pos e]at this;grind
   ·rw[if_neg e]at this;grind
  intro r hr
  show Qs (mM N n k r) x w=0
  rw[hL]
  split
  ·exact h2 n Oz
  ·rw[h2 r hr,h2 n Oz];grind
theorem Fa{R w:Nat}{M:MF}{x:Nat->Rat}:∀k,qK (Qt R M k).M R w x↔qK M R w x
 |0=>Iff.rfl
 |k+1=>(aeg (kR R M k).2.1).trans (Fa k)
def De(R k:Nat)(E:ox):Prop:=(∀j (hj:j<E.ax.length),∀r,r<R->E.M r E.ax[j]=if r=j then 1 else 0)/\∀r,E.ax.length<=r->r<R->∀c,c<k->E.M r c=0
theorem acp{R k:Nat}{E:ox}(hn:E.ax.length<=R)(GF:∀x∈E.ax,x<k)(h:De R k E):De R (k+1) (dM R E k):=by
 obtain⟨hu,hz⟩:=h
 unfold dM
 split
 ·rename_i hp
  refine⟨hu,fun r h1 h2 c hc=> ?_⟩
  by_cases e:c=k
  ·subst e
   exact MH E.M c (R-E.ax.length) E.ax.length r h1 (by
    show r<dX E.M R c E.ax.length
    omega)
  ·exact hz r h1 h2 c Oz
 rename_i hp
 have hle:=y6 E.M k (R-E.ax.length) E.ax.length
 have aH:=Bo E.M k (R-E.ax.length) E.ax.length
 have wa:E.ax.length<=dX E.M R k E.ax.length:=hle.1
 have gj:dX E.M R k E.ax.length<R:=by
  have:dX E.M R k E.ax.length<=E.ax.length+(R-E.ax.length):=hle.2
  omega
 have aA:E.M (dX E.M R k E.ax.length) k≠0:=aH (by
  show dX E.M R k E.ax.length<_
  omega)
 generalize hi:dX E.M R k E.ax.length=i at *
 obtain⟨n,lk⟩:∃n,n=E.ax.length:=⟨_,rfl⟩
 rw[<-lk]at hz wa hi hn⊢
 generalize Lb:E.M i k=p at *
 have hN:∀r c,di (cz E.M i n) n p r c=if r=n then E.M i c/p else if r=i then E.M n c else E.M r c:=by
  intro r c
  by_cases e:r=n
  ·rw[if_pos e];simp[di,cz,e]
  ·rw[if_neg e]
   simp only[di,cz]
   rw[if_neg e,if_neg e]
   by_cases e2:r=i
   ·rw[if_pos e2,if_pos e2]
   ·rw[if_neg e2,if_neg e2]
 have Um:∀j (hj:j<n) r,r<R->di (cz E.M i n) n p r (E.ax[j]'Oz)=if r=j then 1 else 0:=by
  intro j hj r hr
  have z6:j<E.ax.length:=by omega
  rw[hN]
  by_cases e:r=n
  ·have h1:=hu j Oz i gj
   rw[if_neg Oz]at h1
   rw[if_pos e,h1,if_neg Oz];grind
  ·rw[if_neg e]
   by_cases e2:r=i
   ·rw[if_pos e2,hu j Oz n Oz,if_neg Oz,if_neg Oz]
   ·rw[if_neg e2];exact hu j Oz r hr
 have Un:∀r,n<=r->r<R->∀c,c<k->di (cz E.M i n) n p r c=0:=by
  intro r h1 h2 c hc
  rw[hN]
  split
  ·rw[hz i wa gj c hc];grind
  ·split
   ·exact hz n Oz Oz c hc
   ·exact hz r h1 h2 c hc
 have Uk:di (cz E.M i n) n p n k=1:=by rw[hN,if_pos rfl,Lb];grind
 have hE:∀r c,mM (di (cz E.M i n) n p) n k r c=if r=n then di (cz E.M i n) n p n c else di (cz E.M i n) n p r c-di (cz E.M i n) n p r k*di (cz E.M i n) n p n c:=fun r c=>rfl
 generalize di (cz E.M i n) n p=N at *
 have hlen:(E.ax++[k]).length=n+1:=by simp[lk]
 refine⟨fun j hj r hr=> ?_,fun r h1 h2 c hc=> ?_⟩
 ·simp only[hlen]at hj
  show mM N n k r ((E.ax++[k])[j])=_
  rw[hE]
  by_cases e:j=n
  ·have:(E.ax++[k])[j]'(by rw[hlen];omega)=k:=by
    rw[Kcc Oz];simp
   rw[this,Uk,e]
   by_cases e2:r=n
   ·rw[if_pos e2,if_pos e2]
   ·rw[if_neg e2,if_neg e2];grind
  ·have dw:j<n:=by omega
   have:(E.ax++[k])[j]'(by rw[hlen];omega)=E.ax[j]'Oz:=KbC Oz
   rw[this,Um j dw n Oz,if_neg (by omega:¬n=j)]
   by_cases e2:r=n
   ·rw[if_pos e2,if_neg Oz]
   ·rw[if_neg e2,Um j dw r hr];grind
 ·rw[hlen]at h1
  show mM N n k r c=0
  rw[hE,if_neg Oz]
  by_cases e:c=k
  ·rw[e,Uk];grind
  ·rw[Un r Oz h2 c Oz,Un n Oz Oz c Oz];grind
theorem AN{R:Nat}{M:MF}:∀k,De R k (Qt R M k)
 |0=>⟨fun j hj=>by simp[Qt]at hj,fun r _ _ c hc=>by omega⟩
 |k+1=>acp (kR R M k).2.1 (kR R M k).2.2 (AN k)
def lQ(ax:List Nat)(x:Nat->Rat)(val:Nat->Rat):Nat->(Nat->Rat)
 |0=>x
 |j+1=>fun c=>if c=ax.getD j 0 then val j else lQ ax x val j c
theorem EM{ax:List Nat}{x val:Nat->Rat}{c:Nat}:∀j,j<=ax.length->(∀i (hi:i<ax.length),i<j->ax[i]≠c)->lQ ax x val j c=x c
 |0,_,_=>rfl
 |j+1,hj,h=>by
  have e:ax.getD j 0=ax[j]'Oz:=by rw[Kad,Kag Oz,Kbe]
  simp only[lQ]
  rw[e,if_neg fun e2=>h j Oz Oz e2.symm]
  exact EM j Oz fun i hi qm=>h i hi Oz
theorem Fu{R w:Nat}{E:ox}{x val:Nat->Rat}(hs:E.ax.Pairwise (· < ·))(hu:De R w E)(hw:∀y∈E.ax,y<w)(hx:∀y∈E.ax,x y=0){r:Nat}(hr:r<R):∀j,j<=E.ax.length->Qs (E.M r) (lQ E.ax x val j) w=Qs (E.M r) x w+if r<j then val r else 0
 |0,_=>by
  rw[if_neg Oz]
  simp only[lQ];grind
 | j+1,hj=>by
  have dw:j<E.ax.length:=by omega
  have h:=Fu (val:=val) hs hu hw hx hr j Oz
  have e:E.ax.getD j 0=E.ax[j]:=by rw[Kad,Kag Oz,Kbe]
  have hm:E.ax[j]∈E.ax:=Kai dw
  have h0:lQ E.ax x val j E.ax[j]=0:=by
   rw[EM j Oz fun i hi qm=>by have:=Hz hs qm dw;omega]
   exact hx _ hm
  simp only[lQ]
  rw[e,Bq,h,if_pos (hw _ hm),h0,hu.1 j dw r hr]
  by_cases e1:r=j
  ·subst e1
   rw[if_pos rfl,if_neg Oz,if_pos Oz];grind
  ·rw[if_neg e1]
   by_cases e2:r<j
   ·rw[if_pos e2,if_pos Oz];grind
   ·rw[if_neg e2,if_neg Oz];grind
theorem EN{E:MF}{ax:List Nat}{k:Nat}:∀j,GY E ax k j=lQ ax (fun c=>if c=k then 1 else 0) (fun j=> -(E j k)) j
 |0=>rfl
 |j+1=>by simp only[GY,lQ];rw[EN j]
theorem Ju{E:MF}{ax:List Nat}{m:Nat}:∀j,mT E ax m j=lQ ax (fun _=>0) (fun j=>E j m) j
 |0=>rfl
 |j+1=>by simp only[mT,lQ];rw[Ju j]
theorem OT{R m k:Nat}{M:MF}(hk:k<m)(hf:k ∉ (Qt R M m).ax):qK M R m (GY (Qt R M m).M (Qt R M m).ax k (Qt R M m).ax.length):=by
 rw[<-Fa (k:=m)]
 intro r hr
 have hp:=kR R M m
 have hu:=AN (R:=R) (M:=M) m
 rw[EN,Fu (wP R M m) hu hp.2.2 (fun y hy=>if_neg fun e=>hf (by rw[<-e];exact hy)) hr _ (Kaf _)]
 have hd:Qs ((Qt R M m).M r) (fun c=>if c=k then 1 else 0) m=(Qt R M m).M r k:=by
  rw[Bq (x:=fun _=>0),yS,if_pos hk];grind
 rw[hd]
 split
 ·grind
 ·rw[hu.2 r Oz hr k hk];grind
theorem ahw{M:MF}{b y:Nat->Rat}{v:Rat}{m r:Nat}:Qs (cy M b m r) (fun c=>if c=m then v else y c) (m+1)=Qs (M r) y m+b r*v:=by
 simp only[Qs]
 rw[pO (x':=M r) (y':=y) m fun c hc=>⟨by simp only[cy];rw[if_neg Oz],by rw[if_neg Oz]⟩]
 simp[cy]
theorem ahx{E:MF}{y:Nat->Rat}{v:Rat}{m r:Nat}:Qs (E r) (fun c=>if c=m then v else y c) (m+1)=Qs (E r) y m+E r m*v:=by
 simp only[Qs]
 rw[pO (x':=E r) (y':=y) m fun c hc=>⟨rfl,by rw[if_neg Oz]⟩]
 simp
theorem ahy{R m:Nat}{M:MF}{b:Nat->Rat}(h:∀r,r<R->(Qt R (cy M b m) m).ax.length<=r->(Qt R (cy M b m) m).M r m=0):∀r,r<R->Qs (M r) (mT (Qt R (cy M b m) m).M (Qt R (cy M b m) m).ax m (Qt R (cy M b m) m).ax.length) m=b r:=by
 have hp:=kR R (cy M b m) m
 have hu:=AN (R:=R) (M:=cy M b m) m
 have hs:=wP R (cy M b m) m
 have hS:qK (cy M b m) R (m+1) (fun c=>if c=m then -1 else mT (Qt R (cy M b m) m).M (Qt R (cy M b m) m).ax m (Qt R (cy M b m) m).ax.length c):=by
  rw[<-Fa (k:=m)]
  intro r hr
  rw[ahx,Ju,Fu hs hu hp.2.2 (fun y hy=>rfl) hr _ (Kaf _),yS]
  split
  ·grind
  ·rw[h r hr Oz];grind
 intro r hr
 have:=hS r hr
 rw[ahw]at this
 grind
inductive gf(R:Nat):MF->List LF->Prop
 |nil {M:MF} (h:∀i,i<R->∀k,k<R->M i k=0):gf R M []
 |one {M:MF} {f:LF} {L:List LF} (i:Nat) (hi:i<R) (α:Rat) (hw:f.1≠0) (h2:∀c,f.2 c=α*M i c) (lj:f.2 i≠0) (hz:∀c,c<R->cA M f i c=0) (hL:gf R (cA M f) L):gf R M (f::L)
 | two {M:MF} {f g:LF} {L:List LF} (i k:Nat) (hi:i<R) (hk:k<R) (a:Rat) (ha:a≠0) (wf:f.1≠0) (wg:g.1≠0) (hf:∀c,f.2 c=M i c+M k c) (hg:∀c,g.2 c=M i c-M k c)
   (fi:f.2 i=a) (fk:f.2 k=a) (gi:g.2 i= -a) (gk:g.2 k=a) (wz:∀c,c<R->cA (cA M f) g i c=0) (wA:∀c,c<R->cA (cA M f) g k c=0) (hL:gf R (cA (cA M f) g) L):gf R M (f::g::L)
theorem aeh{R:Nat}{M:MF}{L:List LF}(hs:Sym R M)(h:gf R (eQ M (bS M R)) L):gf R M (bS M R++L):=by
 unfold bS at h⊢
 by_cases hd:dA M R<R
 ·rw[if_pos hd]at h⊢
  have h0:=Be hd
  generalize dA M R=i at *
  obtain⟨p,hp⟩:∃p,M i i=p:=⟨_,rfl⟩
  rw[hp]at h0 h⊢
  have hq:1/p*p=1:=by rw[KbA,Kck,Kce _ h0]
  generalize 1/p=q at *
  have f2:∀c,fu (fun _=>0) (M i) q c=q*M i c:=fun c=>Rat.zero_add _
  refine gf.one i hd q h0 f2 ?_ ?_ h
  ·show fu (fun _=>0) (M i) q i≠0
   rw[f2,hp,hq];decide
  ·intro c hc
   show M i c-p*fu (fun _=>0) (M i) q i*fu (fun _=>0) (M i) q c=0
   rw[f2,f2,hp,hq]
   grind
 rw[if_neg hd]at h⊢
 by_cases dp:ck M R<R
 ·rw[if_pos dp]at h⊢
  have cI:=xa dp
  have h0:=y8 cI
  have v7:=Js hd
  generalize ck M R=a at *
  generalize dR M R a=b at *
  obtain⟨α,rH⟩:∃α,M a b=α:=⟨_,rfl⟩
  rw[rH]at h0 h⊢
  have h2:α+α≠0:=fun h=>h0 (by grind)
  have Lq:1/(α+α)*(α+α)=1:=by rw[KbA,Kck,Kce _ h2]
  generalize 1/(α+α)=w at *
  have yo:w≠0:=fun e=>by rw[e]at Lq;grind
  have vW:M b a=α:=by rw[hs b cI a dp,rH]
  have Kv:=v7 a dp
  have xJ:=v7 b cI
  refine gf.two a b dp cI α h0 yo (fun e=>yo (by grind)) ?_ ?_ ?_ ?_ ?_ ?_ ?_ ?_ h
  ·intro c;show M a c+1*M b c=_;grind
  ·intro c;show M a c+ -1*M b c=_;grind
  ·show M a a+1*M b a=_;rw[Kv,vW];grind
  ·show M a b+1*M b b=_;rw[rH,xJ];grind
  ·show M a a+ -1*M b a=_;rw[Kv,vW];grind
  ·show M a b+ -1*M b b=_;rw[rH,xJ];grind
  ·intro c hc
   show M a c-w*(M a a+1*M b a)*(M a c+1*M b c)- -w*(M a a+ -1*M b a)*(M a c+ -1*M b c)=0
   rw[Kv,vW];grind
  ·intro c hc
   show M b c-w*(M a b+1*M b b)*(M a c+1*M b c)- -w*(M a b+ -1*M b b)*(M a c+ -1*M b c)=0
   rw[rH,xJ];grind
 rw[if_neg dp]at h⊢
 exact h
theorem MS{R:Nat}:∀ {M:MF} (L:List LF),Sym R M->Sym R (eQ M L)
 |_,[],h=>h
 |_,f::L,h=>MS (M:=cA _ f) L (mz h)
theorem Od{R:Nat}{M:MF}(hs:Sym R M):∀k,Sym R (Qv R M k).1
 |0=>hs
 |k+1=>by rw[tl];exact MS _ (Od hs k)
theorem OU{R:Nat}{M:MF}(hs:Sym R M):∀k L,gf R (Qv R M k).1 L->gf R M ((Qv R M k).2++L)
 |0,L,h=>h
 |k+1,L,h=>by
  rw[tl]at h⊢
  have:=OU hs k _ (aeh (Od hs k) h)
  rw[Kbs];exact this
theorem ahz{R b:Nat}{M:MF}(hR:0<R)(hs:Sym R M)(hb:3<=b)(hM:eV b R R M):gf R M (Qv R M (2*R)).2:=by
 have apV:∃j,j<=R/\bS (Qv R M j).1 R=[]:=by
  refine Classical.byContradiction fun hn=> ?_
  have:=Bp hs hb hM (R+1) fun j hj h=>hn ⟨j,by omega,h⟩
  omega
 obtain⟨j,hj,hn⟩:=apV
 have e:=EW hn (2*R-j)
 rw[show j+(2*R-j)=2*R by omega]at e
 have:=OU hs (2*R) [] (by rw[e];exact .nil (acj hn))
 rwa[Kam]at this
theorem wX{M:MF}{f:LF}{x:Nat->Rat}{r:Nat}:∀n,Qs (cA M f r) x n=Qs (M r) x n-f.1*f.2 r*Qs f.2 x n:=fun n=>by
 rw[<-za]
 rfl
theorem ahA{R:Nat}{M:MF}{L:List LF}(h:gf R M L){x:Nat->Rat}:qK M R R x->∀f∈L,Qs f.2 x R=0:=by
 induction h with
 |nil h=>intro _ f hf;cases hf
 | @one M f L i hi α hw h2 lj hz hL ih=>
  intro hx
  have hf:Qs f.2 x R=0:=by
   have e:Qs f.2 x R=Qs (fun c=>0-(-α)*M i c) x R:=pO R fun c _=>⟨by rw[h2];grind,rfl⟩
   rw[e,za,hx i hi,wW R fun _ _=>rfl];grind
  intro g hg
  rcases KaG.1 hg with rfl|hg
  ·exact hf
  ·exact ih (fun r hr=>by rw[wX,hx r hr,hf];grind) g hg
 | @two M f g L i k hi hk a ha wf wg hf hg fi fk gi gk wz wA hL ih=>
  intro hx
  have h1:Qs f.2 x R=0:=by
   have e:Qs f.2 x R=Qs (fun c=>M i c-(-1)*M k c) x R:=pO R fun c _=>⟨by rw[hf];grind,rfl⟩
   rw[e,za,hx i hi,hx k hk];grind
  have h2:Qs g.2 x R=0:=by
   have e:Qs g.2 x R=Qs (fun c=>M i c-1*M k c) x R:=pO R fun c _=>⟨by rw[hg];grind,rfl⟩
   rw[e,za,hx i hi,hx k hk];grind
  intro y hy
  rcases KaG.1 hy with rfl|hy
  ·exact h1
  ·rcases KaG.1 hy with rfl|hy
   ·exact h2
   ·exact ih (fun r hr=>by rw[wX,wX,hx r hr,h1,h2];grind) y hy
theorem aei{R:Nat}{M:MF}{L:List LF}(h:gf R M L){x:Nat->Rat}:(∀f∈L,Qs f.2 x R=0)->qK M R R x:=by
 induction h with
 |nil h=>intro _ r hr;exact wW R fun c hc=>h r hr c hc
 | @one M f L i hi α hw h2 lj hz hL ih=>
  intro hx r hr
  have h1:=hx f (Kc5 ..)
  have:=ih (fun g hg=>hx g (Ka5 _ hg)) r hr
  rw[wX,h1]at this;grind
 | @two M f g L i k hi hk a ha wf wg hf hg fi fk gi gk wz wA hL ih=>
  intro hx r hr
  have h1:=hx f (Kc5 ..)
  have h2:=hx g (Ka5 _ (Kc5 ..))
  have:=ih (fun y hy=>hx y (Ka5 _ (Ka5 _ hy))) r hr
  rw[wX,wX,h1,h2]at this;grind
theorem Hg{R:Nat}{M:MF}{L:List LF}(h:gf R M L){j:Nat}(hj:j<R):Sym R M->(∀c,c<R->M j c=0)->∀f∈L,f.2 j=0:=by
 induction h with
 |nil h=>intro _ _ f hf;cases hf
 | @one M f L i hi α hw h2 lj hz hL ih=>
  intro hs hx
  have hf:f.2 j=0:=by rw[h2,hs i hi j hj,hx i hi];grind
  intro g hg
  rcases KaG.1 hg with rfl|hg
  ·exact hf
  ·exact ih (mz hs) (fun c hc=>by rw[Ds hf];exact hx c hc) g hg
 | @two M f g L i k hi hk a ha wf wg hf hg fi fk gi gk wz wA hL ih=>
  intro hs hx
  have h1:f.2 j=0:=by rw[hf,hs i hi j hj,hs k hk j hj,hx i hi,hx k hk];grind
  have h2:g.2 j=0:=by rw[hg,hs i hi j hj,hs k hk j hj,hx i hi,hx k hk];grind
  intro y hy
  rcases KaG.1 hy with rfl|hy
  ·exact h1
  ·rcases KaG.1 hy with rfl|hy
   ·exact h2
   ·exact ih (mz (mz hs)) (fun c hc=>by rw[Ds h2,Ds h1];exact hx c hc) y hy
def si:List LF->(Nat->Rat)->Nat->Rat
 | [],_,_=>0
 |f::L,y,c=>y 0*f.2 c+si L (fun j=>y (j+1)) c
theorem Ee{c:Nat}:∀(L:List LF)(y:Nat->Rat),(∀f∈L,f.2 c=0)->si L y c=0
 | [],_,_=>rfl
 |f::L,y,h=>by
  simp only[si]
  rw[h f (Kc5 ..),Ee L _ fun g hg=>h g (Ka5 _ hg)];grind
theorem OV{R:Nat}{M:MF}{L:List LF}(h:gf R M L):∀y:Nat->Rat,Sym R M->(∀c,c<R->si L y c=0)->∀j,j<L.length->y j=0:=by
 induction h with
 |nil h=>intro y _ _ j hj;cases hj
 | @one M f L i hi α hw h2 lj hz hL ih=>
  intro y hs hx
  have hl:=Ee L (fun j=>y (j+1)) (Hg hL hi (mz hs) hz)
  have h1:=hx i hi
  simp only[si]at h1
  rw[hl]at h1
  have h0:y 0=0:=by
   rcases KcP.1 (show y 0*f.2 i=0 by grind)with h|h
   ·exact h
   ·exact absurd h lj
  have ht:=ih (fun j=>y (j+1)) (mz hs) fun c hc=>by
   have:=hx c hc
   simp only[si]at this
   rw[h0]at this;grind
  intro j hj
  match j with
  |0=>exact h0
  |j+1=>exact ht j (by simpa using hj)
 | @two M f g L i k hi hk a ha wf wg hf hg fi fk gi gk wz wA hL ih=>
  intro y hs hx
  have l1:=Ee L (fun j=>y (j+1+1)) (Hg hL hi (mz (mz hs)) wz)
  have l2:=Ee L (fun j=>y (j+1+1)) (Hg hL hk (mz (mz hs)) wA)
  have h1:=hx i hi
  have h2:=hx k hk
  simp only[si]at h1 h2
  rw[l1,fi,gi]at h1
  rw[l2,fk,gk]at h2
  have e1:y 1=0:=by
   rcases KcP.1 (show y 1*a=0 by grind)with h|h
   ·exact h
   ·exact absurd h ha
  have e0:y 0=0:=by
   rcases KcP.1 (show y 0*a=0 by grind)with h|h
   ·exact h
   ·exact absurd h ha
  have ht:=ih (fun j=>y (j+1+1)) (mz (mz hs)) fun c hc=>by
   have:=hx c hc
   simp only[si]at this
   rw[e0,e1]at this;grind
  intro j hj
  match j with
  |0=>exact e0
  |1=>exact e1
  |j+2=>exact ht j (by simpa using hj)
theorem Jv{A:Nat->Nat->Rat}{e z:Nat->Rat}{r:Nat}:∀n,Qs (fun i=>Qs (A i) e r) z n=Qs (fun j=>Qs (fun i=>A i j) z n) e r
 |0=>(wW r fun _ _=>rfl).symm
 | n+1=>by
  have h:=Jv (A:=A) (e:=e) (z:=z) (r:=r) n
  have key:∀r,Qs (fun j=>Qs (fun i=>A i j) z n+A n j*z n) e r=Qs (fun j=>Qs (fun i=>A i j) z n) e r+Qs (A n) e r*z n:=by
   intro r
   induction r with
   |zero=>simp only[Qs];grind
   |succ r ih=>simp only[Qs];rw[ih];grind
  show Qs (fun i=>Qs (A i) e r) z n+Qs (A n) e r*z n=_
  rw[h]
  exact(key r).symm
theorem Jw{x y:Nat->Rat}:∀n,Qs x y (n+1)=x 0*y 0+Qs (fun i=>x (i+1)) (fun i=>y (i+1)) n
 |0=>by simp only[Qs];grind
 |n+1=>by
  have h:=Jw (x:=x) (y:=y) n
  show Qs x y (n+1)+x (n+1)*y (n+1)=_
  rw[h]
  simp only[Qs];grind
theorem aaH{l:List Nat}(hs:l.Pairwise (· < ·)){r:Nat}(h:∀k,k<r->k∈l):r<=l.length:=by
 have key:∀k,k<r->∀j (hj:j<l.length),l[j]=k->k<=j:=by
  intro k
  induction k with
  |zero=>intro _ j _ _;omega
  | succ k ih=>
   intro hk j hj e
   obtain⟨i,hi,e2⟩:=KaT (h k Oz)
   have h1:=ih Oz i hi e2
   have h2:i<j:=by
    rcases KcL i j with h|h
    ·exact h
    ·rcases KcL j i with h3|h3
     ·have:=Hz hs h3 hi;omega
     ·have:i=j:=by omega
      subst this;omega
   omega
 cases r with
 |zero=>omega
 |succ r=>
  obtain⟨i,hi,e⟩:=KaT (h r Oz)
  have:=key r Oz i hi e
  omega
theorem Hh{n r:Nat}{C:MF}(h:∀z,qK C n r z->∀j,j<r->z j=0):r<=n:=by
 refine Classical.byContradiction fun hn=> ?_
 have hp:=kR n C r
 have hs:=wP n C r
 have:∃k,k<r/\k ∉ (Qt n C r).ax:=by
  refine Classical.byContradiction fun sO=> ?_
  have:=aaH hs (r:=r) fun k hk=>Classical.byContradiction fun ry=>sO ⟨k,hk,ry⟩
  omega
 obtain⟨k,hk,CF⟩:=this
 have h1:=h _ (OT hk CF) k hk
 rw[EN,EM _ (Kaf _) fun i hi _ e=>CF (by rw[<-e];exact Kai hi)]at h1
 rw[if_pos rfl]at h1
 exact absurd h1 (by decide)
theorem Jx{ax:List Nat}{w:Nat}{f x val:Nat->Rat}(hs:ax.Pairwise (· < ·))(hw:∀y∈ax,y<w)(hx:∀y∈ax,x y=0):∀j,j<=ax.length->Qs f (lQ ax x val j) w=Qs f x w+Qs (fun i=>f (ax.getD i 0)) val j
 |0,_=>by simp only[lQ,Qs];grind
 | j+1,hj=>by
  have dw:j<ax.length:=by omega
  have h:=Jx (f:=f) (val:=val) hs hw hx j Oz
  have e:ax.getD j 0=ax[j]:=by rw[Kad,Kag Oz,Kbe]
  have hm:ax[j]∈ax:=Kai dw
  have h0:lQ ax x val j ax[j]=0:=by
   rw[EM j Oz fun i hi qm=>by have:=Hz hs qm dw;omega]
   exact hx _ hm
  simp only[lQ,Qs]
  rw[e,Bq,h,if_pos (hw _ hm),h0];grind
theorem Oe{R m:Nat}{M:MF}{f:Nat->Rat}(hf:∀x,qK M R m x->Qs f x m=0){c:Nat}(hc:c<m):f c=Qs (fun j=>f ((Qt R M m).ax.getD j 0)) (fun j=>(Qt R M m).M j c) (Qt R M m).ax.length:=by
 have hp:=kR R M m
 have hs:=wP R M m
 have hu:=AN (R:=R) (M:=M) m
 by_cases Cv:c∈(Qt R M m).ax
 ·obtain⟨i,hi,rfl⟩:=KaT Cv
  have key:∀n,n<=(Qt R M m).ax.length->Qs (fun j=>f ((Qt R M m).ax.getD j 0)) (fun j=>(Qt R M m).M j (Qt R M m).ax[i]) n=if i<n then f (Qt R M m).ax[i]else 0:=by
   intro n
   induction n with
   |zero=>intro _;rw[if_neg Oz];rfl
   | succ n ih=>
    intro hn
    show Qs (fun j=>f ((Qt R M m).ax.getD j 0)) (fun j=>(Qt R M m).M j (Qt R M m).ax[i]) n+f ((Qt R M m).ax.getD n 0)*(Qt R M m).M n (Qt R M m).ax[i]=_
    rw[ih Oz,hu.1 i hi n Oz]
    by_cases e:n=i
    ·subst e
     rw[if_pos rfl,if_neg Oz,if_pos Oz,Kad,Kag Oz,Kbe];grind
    ·rw[if_neg e]
     by_cases e2:i<n
     ·rw[if_pos e2,if_pos Oz];grind
     ·rw[if_neg e2,if_neg Oz];grind
  rw[key _ (Kaf _),if_pos hi]
 ·have h1:=hf _ (OT (R:=R) (M:=M) hc Cv)
  rw[EN,Jx hs hp.2.2 (fun y hy=>if_neg fun e=>Cv (by rw[<-e];exact hy)) _ (Kaf _)]at h1
  have hd:Qs f (fun d=>if d=c then 1 else 0) m=f c:=by
   rw[Bq (x:=fun _=>0),yS,if_pos hc];grind
  have hn:∀n,Qs (fun i=>f ((Qt R M m).ax.getD i 0)) (fun j=> -((Qt R M m).M j c)) n= -Qs (fun i=>f ((Qt R M m).ax.getD i 0)) (fun j=>(Qt R M m).M j c) n:=by
   intro n
   induction n with
   |zero=>simp only[Qs];grind
   |succ n ih=>simp only[Qs];rw[ih];grind
  rw[hd,hn]at h1
  grind
theorem aej{R m:Nat}{M:MF}{z:Nat->Rat}(h:qK M R m (lQ (Qt R M m).ax (fun _=>0) z (Qt R M m).ax.length)):∀j,j<(Qt R M m).ax.length->z j=0:=by
 have hp:=kR R M m
 rw[<-Fa (k:=m)]at h
 intro j hj
 have:=h j Oz
 rw[Fu (wP R M m) (AN m) hp.2.2 (fun _ _=>rfl) Oz _ (Kaf _),yS,if_pos hj]at this
 grind
def iQ(L:List LF)(i:Nat):LF:=L.getD i (0,fun _=>0)
theorem I4{c:Nat}:∀(L:List LF)(y:Nat->Rat),si L y c=Qs (fun i=>(iQ L i).2 c) y L.length
 | [],_=>rfl
 |f::L,y=>by
  rw[KaP,Jw]
  simp only[si]
  rw[I4 L]
  show y 0*f.2 c+_=f.2 c*y 0+Qs (fun i=>(iQ L i).2 c) (fun i=>y (i+1)) L.length
  grind
theorem MT{L:List LF}{i:Nat}(h:i<L.length):iQ L i∈L:=by
 unfold iQ
 rw[Kad,Kag h,Kbe];exact Kai h
theorem acq{L:List LF}{f:LF}(h:f∈L):∃i,i<L.length/\iQ L i=f:=by
 obtain⟨i,hi,rfl⟩:=KaT h
 refine⟨i,hi,?_⟩
 unfold iQ
 rw[Kad,Kag hi,Kbe]
theorem aek{R:Nat}{M:MF}{L:List LF}(hs:Sym R M)(h:gf R M L):(Qt R M R).ax.length=L.length:=by
 have hp:=kR R M R
 have Lj:=wP R M R
 refine Nat.le_antisymm ?_ ?_
 ·refine Hh (C:=fun i j=>(iQ L i).2 ((Qt R M R).ax.getD j 0)) fun z hz=>aej (aei h fun f hf=> ?_)
  obtain⟨i,hi,rfl⟩:=acq hf
  rw[Jx Lj hp.2.2 (fun _ _=>rfl) _ (Kaf _),yS,hz i hi];grind
 ·refine Hh (C:=fun j i=>(iQ L i).2 ((Qt R M R).ax.getD j 0)) fun z hz=>OV h z hs fun c hc=> ?_
  rw[I4]
  have e:Qs (fun i=>(iQ L i).2 c) z L.length=Qs (fun i=>Qs (fun j=>(iQ L i).2 ((Qt R M R).ax.getD j 0)) (fun j=>(Qt R M R).M j c) (Qt R M R).ax.length) z L.length:=
   pO _ fun i hi=>⟨Oe (fun x hx=>ahA h hx _ (MT hi)) hc,rfl⟩
  rw[e,Jv]
  exact wW _ fun j hj=>hz j hj
theorem Ev{M:MF}{f:LF}{x:Nat->Rat}{w:Nat}:∀n,nM M x w n=nM (cA M f) x w n+f.1*Qs f.2 x n*Qs f.2 x w
 |0=>by simp only[nM,Qs];grind
 |n+1=>by
  have h:=Ev (M:=M) (f:=f) (x:=x) (w:=w) n
  simp only[nM,Qs]
  rw[h,wX];grind
theorem MU{M:MF}{x:Nat->Rat}{w:Nat}:∀n,(∀r,r<n->∀c,c<w->M r c=0)->nM M x w n=0
 |0,_=>rfl
 |n+1,h=>by
  simp only[nM]
  rw[MU n fun r hr=>h r Oz,wW w fun c hc=>h n Oz c hc];grind
def Da(L:List LF)(x:Nat->Rat)(R:Nat):Nat->Rat:=Qs (fun i=>(iQ L i).1) (fun i=>Qs (iQ L i).2 x R*Qs (iQ L i).2 x R)
theorem Jy{f:LF}{L:List LF}{x:Nat->Rat}{R:Nat}:Da (f::L) x R (f::L).length=f.1*(Qs f.2 x R*Qs f.2 x R)+Da L x R L.length:=by
 unfold Da
 rw[KaP,Jw];rfl
theorem ael{R:Nat}{M:MF}{L:List LF}(h:gf R M L){x:Nat->Rat}:nM M x R R=Da L x R L.length:=by
 induction h with
 |nil h=>rw[MU R fun r hr c hc=>h r hr c hc];rfl
 | @one M f L i hi α hw h2 lj hz hL ih=>rw[Ev (f:=f) R,ih,Jy];grind
 | @two M f g L i k hi hk a ha wf wg hf hg fi fk gi gk wz wA hL ih=>
  rw[Ev (f:=f) R,Ev (f:=g) R,ih,Jy,Jy];grind
theorem als{R:Nat}{M:MF}{L:List LF}(h:gf R M L):∀f∈L,f.1≠0:=by
 induction h with
 |nil h=>intro f hf;cases hf
 | @one M f L i hi α hw h2 lj hz hL ih=>
  intro g hg
  rcases KaG.1 hg with rfl|hg
  ·exact hw
  ·exact ih g hg
 | @two M f g L i k hi hk a ha wf wg hf hg fi fk gi gk wz wA hL ih=>
  intro y hy
  rcases KaG.1 hy with rfl|hy
  ·exact wf
  ·rcases KaG.1 hy with rfl|hy
   ·exact wg
   ·exact ih y hy
theorem alu(x:Rat):0<=x*x:=by
 rcases Rat.le_total (a:=0) (b:=x)with h|h
 ·exact KbK h h
 ·have h2:0<= -x:=by grind
  have:=KbK h2 h2
  grind
end Go.Proofs.YtkoclfmjlolkhaaGreat
namespace Go.FW
open Go
def CM(n:Nat)(D:Int)(R w:Nat)(M:MF):Prop:=D≠0/\nl D.natAbs<=n/\∀r,r<R->∀c,c<w->∃a:Int,M r c=(a:Rat)/(D:Rat)/\nl a.natAbs<=n
theorem CM.bd{n R w:Nat}{D:Int}{M:MF}(h:CM n D R w M):eV (max n 1) R w M:=fun r hr c hc=>by
 obtain⟨a,e,ha⟩:=h.2.2 r hr c hc
 rw[e]
 have:=zp a D h.1
 have:=h.2.1
 omega
theorem CM.mono{n n' R w:Nat}{D:Int}{M:MF}(h:CM n D R w M)(hn:n<=n'):CM n' D R w M:=
 ⟨h.1,Kao h.2.1 hn,fun r hr c hc=>by
  obtain⟨a,e,ha⟩:=h.2.2 r hr c hc
  exact⟨a,e,Kao ha hn⟩⟩
theorem kv{D:Int}(h:D≠0):(D:Rat)≠0:=by rwa[Ne,Ka2]
theorem aib{a b g s D:Int}(hD:D≠0)(hs:s≠0):(a:Rat)/(D:Rat)-(b:Rat)/(D:Rat)*((g:Rat)/(D:Rat)/((s:Rat)/(D:Rat)))=((a*s-b*g:Int):Rat)/((D*s:Int):Rat):=by
 have h1:=kv hD
 have h2:=kv hs
 rw[Kc6,KaS,KaS,KaS]
 generalize(a:Rat)=a at *
 generalize(b:Rat)=b at *
 generalize(g:Rat)=g at *
 generalize(s:Rat)=s at *
 generalize(D:Rat)=D at *
 grind
theorem akb{g s D:Int}(hD:D≠0)(hs:s≠0):(g:Rat)/(D:Rat)/((s:Rat)/(D:Rat))=((g*D:Int):Rat)/((D*s:Int):Rat):=by
 have h1:=kv hD
 have h2:=kv hs
 rw[KaS,KaS]
 generalize(g:Rat)=g at *
 generalize(s:Rat)=s at *
 generalize(D:Rat)=D at *
 grind
theorem Br{x y:Int}{n:Nat}(hx:nl x.natAbs<=n)(hy:nl y.natAbs<=n):nl (x-y).natAbs<=n+1:=by
 have h:=rR x (-y)
 rw[Kc7]at h
 rw[Int.sub_eq_add_neg];omega
theorem jR{x y:Int}{n m:Nat}(hx:nl x.natAbs<=n)(hy:nl y.natAbs<=m):nl (x*y).natAbs<=n+m:=by
 have:=iy x y;omega
theorem HK{a D:Int}{q:Rat}(h:q≠0)(e:q=(a:Rat)/(D:Rat)):a≠0:=fun h0=>h (by rw[e,h0,KbA];exact KcB _)
theorem aic{R w n:Nat}{D:Int}{E:ox}{k:Nat}(hk:k<w)(h:CM n D R w E.M)(hm:E.ax.length<=R):(∃D',CM (2*n+1) D' R w (dM R E k).M)/\rs (dM R E k).cr<=rs E.cr+max n 1:=by
 unfold dM
 split
 ·exact⟨⟨D,h.mono (by omega)⟩,by omega⟩
 ·rename_i hp
  have h1:=y6 E.M k (R-E.ax.length) E.ax.length
  obtain⟨i,hi⟩:∃i,dX E.M R k E.ax.length=i:=⟨_,rfl⟩
  have wa:E.ax.length<=i/\i<=R:=by
   rw[<-hi];unfold dX;omega
  rw[hi]at hp⊢
  have wb:i<R:=by omega
  have aA:E.M i k≠0:=by
   have:=Bo E.M k (R-E.ax.length) E.ax.length (by unfold dX at hi;rw[hi];omega)
   unfold dX at hi
   rwa[hi]at this
  have xK:=h.bd i wb k hk
  obtain⟨hD,zU,hc⟩:=h
  obtain⟨s,es,hs⟩:=hc i wb k hk
  have gz:=HK aA es
  generalize E.ax.length=m at *
  have kF:m<R:=by omega
  have hS:∀r,r<R->∀c,c<w->∃a:Int,cz E.M i m r c=(a:Rat)/(D:Rat)/\nl a.natAbs<=n:=fun r hr c vZ=>by
   unfold cz
   split
   ·exact hc i wb c vZ
   ·split
    ·exact hc m kF c vZ
    ·exact hc r hr c vZ
  refine⟨⟨D*s,Kcj hD gz,by have:=jR zU hs;omega,fun r hr c vZ=> ?_⟩,?_⟩
  ·show ∃a:Int,mM (di (cz E.M i m) m (E.M i k)) m k r c=_/\_
   obtain⟨g,eg,hg⟩:=hS m kF c vZ
   have e1:di (cz E.M i m) m (E.M i k) m c=(g:Rat)/(D:Rat)/((s:Rat)/(D:Rat)):=by
    unfold di;rw[if_pos rfl,eg,es]
   unfold mM
   by_cases Ad:r=m
   ·rw[if_pos Ad,e1,akb hD gz]
    exact⟨_,rfl,by have:=jR hg zU;omega⟩
   ·rw[if_neg Ad,e1]
    obtain⟨a,ea,ha⟩:=hS r hr c vZ
    obtain⟨b,eb,hb⟩:=hS r hr k hk
    have e2:∀c,di (cz E.M i m) m (E.M i k) r c=cz E.M i m r c:=fun c=>by unfold di;rw[if_neg Ad]
    rw[e2,e2,ea,eb,aib hD gz]
    exact⟨_,rfl,by
     have:=Br (jR ha hs) (jR hb hg)
     omega⟩
  ·show rs ((if i=m then E.cr else -E.cr)*E.M i k)<=_
   have uj:rs (if i=m then E.cr else -E.cr)=rs E.cr:=by
    split
    ·rfl
    ·rw[qE]
   have:=eX (if i=m then E.cr else -E.cr) (E.M i k)
   omega
theorem Hi{R w b:Nat}{D:Int}{M:MF}(hb:2<=b)(h:CM (b-1) D R w M):∀k,k<=w->∃s,s<=k/\s<=R/\(∃D',CM (b*2^s-1) D' R w (Qt R M k).M)/\rs (Qt R M k).cr<=b*2^s/\(Qt R M k).ax.length=s
 | 0,_=>⟨0,Kaf _,Kbv _,⟨D,by rw[KcZ,KbG];exact h⟩,by
   have:=lO
   show rs 1<=b*2^0
   omega,rfl⟩
 | k+1,hk=>by
  obtain⟨s,h1,h2,⟨D',h3⟩,h4,h5⟩:=Hi hb h k (by omega)
  have fS:2<=b*2^s:=Kao hb (Ka1 _ (Kbp (by omega)))
  have bx:=(kR R M (k+1)).2.1
  show ∃s,s<=k+1/\s<=R/\(∃D',CM (b*2^s-1) D' R w (dM R (Qt R M k) k).M)/\rs (dM R (Qt R M k) k).cr<=b*2^s/\(dM R (Qt R M k) k).ax.length=s
  have bx:(dM R (Qt R M k) k).ax.length<=R:=bx
  have bA:=aic (k:=k) (by omega) h3 (by omega)
  by_cases hp:dX (Qt R M k).M R k (Qt R M k).ax.length=R
  ·have e:dM R (Qt R M k) k=Qt R M k:=by unfold dM;rw[if_pos hp]
   rw[e];exact⟨s,by omega,h2,⟨D',h3⟩,h4,h5⟩
  ·have hl:(dM R (Qt R M k) k).ax.length=s+1:=by
    unfold dM;rw[if_neg hp];simp[h5]
   have hm:b*2^(s+1)=2*(b*2^s):=by rw[Kbr];simp only[KaR,Kbi]
   obtain⟨⟨D2,h6⟩,h7⟩:=bA
   exact⟨s+1,by omega,by omega,⟨D2,h6.mono (by omega)⟩,by omega,hl⟩
theorem aid{R w n b:Nat}{D:Int}{M:MF}(hb:2<=b)(h:CM (b-1) D R w M)(hn:n<=w):xt (b*2^R) R w n M:=fun k hk=>by
 obtain⟨s,h1,h2,⟨D',h3⟩,h4,_⟩:=Hi hb h k (by omega)
 have hm:b*2^s<=b*2^R:=KaA _ (KaN (by omega) h2)
 have fS:2<=b*2^s:=Kao hb (Ka1 _ (Kbp (by omega)))
 exact⟨fun r hr c hc=>by have:=h3.bd r hr c hc;omega,by omega⟩
theorem aie{a b g s D:Int}(hD:D≠0)(hs:s≠0):(a:Rat)/(D:Rat)-(s:Rat)/(D:Rat)*(1/((s:Rat)/(D:Rat))*((b:Rat)/(D:Rat)))*(1/((s:Rat)/(D:Rat))*((g:Rat)/(D:Rat)))=((a*s-b*g:Int):Rat)/((D*s:Int):Rat):=by
 have h1:=kv hD
 have h2:=kv hs
 rw[Kc6,KaS,KaS,KaS]
 generalize(a:Rat)=a at *
 generalize(b:Rat)=b at *
 generalize(g:Rat)=g at *
 generalize(s:Rat)=s at *
 generalize(D:Rat)=D at *
 grind
theorem aif{a x y s D:Int}(hD:D≠0)(hs:s≠0):(a:Rat)/(D:Rat)-1/((s:Rat)/(D:Rat)+(s:Rat)/(D:Rat))*((x:Rat)/(D:Rat))*((y:Rat)/(D:Rat))=((a*(s+s)-x*y:Int):Rat)/((D*(s+s):Int):Rat):=by
 have h1:=kv hD
 have h2:=kv hs
 rw[Kc6,KaS,KaS,KaS,Kc4]
 generalize(a:Rat)=a at *
 generalize(x:Rat)=x at *
 generalize(y:Rat)=y at *
 generalize(s:Rat)=s at *
 generalize(D:Rat)=D at *
 have h3:s+s≠0:=by grind
 grind
theorem aih{a x y x' y' s D:Int}(hD:D≠0)(hs:s≠0):(a:Rat)/(D:Rat)-1/((s:Rat)/(D:Rat)+(s:Rat)/(D:Rat))*((x:Rat)/(D:Rat)+1*((x':Rat)/(D:Rat)))*((y:Rat)/(D:Rat)+1*((y':Rat)/(D:Rat)))- -(1/((s:Rat)/(D:Rat)+(s:Rat)/(D:Rat)))*((x:Rat)/(D:Rat)+ -1*((x':Rat)/(D:Rat)))*((y:Rat)/(D:Rat)+ -1*((y':Rat)/(D:Rat)))=((a*s-(x*y'+x'*y):Int):Rat)/((D*s:Int):Rat):=by
 have h1:=kv hD
 have h2:=kv hs
 rw[Kc6,KaS,Kc4,KaS,KaS,KaS]
 generalize(a:Rat)=a at *
 generalize(x:Rat)=x at *
 generalize(y:Rat)=y at *
 generalize(x':Rat)=x' at *
 generalize(y':Rat)=y' at *
 generalize(s:Rat)=s at *
 generalize(D:Rat)=D at *
 have h3:s+s≠0:=by grind
 grind
theorem QC{x y D:Int}{e:Rat}(h:e=1∨e= -1)(hD:D≠0):∃z:Int,(x:Rat)/(D:Rat)+e*((y:Rat)/(D:Rat))=(z:Rat)/(D:Rat)/\∀n,nl x.natAbs<=n->nl y.natAbs<=n->nl z.natAbs<=n+1:=by
 have h1:=kv hD
 rcases h with rfl|rfl
 ·refine⟨x+y,?_,fun n hx hy=>by have:=rR x y;omega⟩
  rw[Kc4]
  generalize(x:Rat)=x at *
  generalize(y:Rat)=y at *
  generalize(D:Rat)=D at *
  grind
 ·refine⟨x-y,?_,fun n hx hy=>Br hx hy⟩
  rw[Kc6]
  generalize(x:Rat)=x at *
  generalize(y:Rat)=y at *
  generalize(D:Rat)=D at *
  grind
def FD(n:Nat)(D:Int)(R:Nat)(L:List LF):Prop:=D≠0/\nl D.natAbs<=n/\∀f∈L,∀c,c<R->∃a:Int,f.2 c=(a:Rat)/(D:Rat)/\nl a.natAbs<=n
theorem OW{R n:Nat}{D:Int}{M:MF}(hS:Sym R M)(h:CM n D R R M)(gl:1<=n)(aH:bS M R≠[]):
  (∃D',CM (2*n+2) D' R R (eQ M (bS M R)))/\(∃D',FD (n+1) D' R (bS M R))/\(∀f∈bS M R,rs f.1<=2*n+4/\∀c,c<R->rs (f.2 c)<=2*n+4)/\∀j,eV (2*n+4) R R (eQ M ((bS M R).take j)):=by
 have q1:=lO
 have xK:=h.bd
 obtain⟨hD,zU,hc⟩:=h
 have TU:∀ {D':Int} {L:List LF},FD (n+1) D' R L->∀f∈L,∀c,c<R->rs (f.2 c)<=2*n+4:=fun hf f hL c l8=>by
  obtain⟨a,e,ha⟩:=hf.2.2 f hL c l8
  rw[e]
  have:=zp a _ hf.1
  have:=hf.2.1
  omega
 unfold bS at aH⊢
 by_cases hd:dA M R<R
 ·rw[if_pos hd]at aH⊢
  have h0:=Be hd
  generalize dA M R=i at *
  obtain⟨f,hf⟩:∃f:LF,(M i i,fu (fun _=>0) (M i) (1/M i i))=f:=⟨_,rfl⟩
  have f1:f.1=M i i:=by rw[<-hf]
  have f2:∀c,f.2 c=1/M i i*M i c:=fun c=>by rw[<-hf];exact Rat.zero_add _
  obtain⟨s,es,hs⟩:=hc i hd i hd
  have gz:=HK h0 es
  have rD:eQ M [f]=cA M f:=rfl
  rw[hf,rD]
  have hF:FD (n+1) s R [f]:=⟨gz,by omega,fun g hg c l8=>by
   rw[KaB.1 hg,f2]
   obtain⟨b,eb,hb⟩:=hc i hd c l8
   refine⟨b,?_,by omega⟩
   rw[eb,es]
   have h1:=kv hD
   have h2:=kv gz
   generalize(b:Rat)=b at *
   generalize(s:Rat)=s at *
   generalize(D:Rat)=D at *
   grind⟩
  have hL:CM (2*n+1) (D*s) R R (cA M f):=⟨Kcj hD gz,by have:=jR zU hs;omega,fun r hr c l8=>by
   obtain⟨a,ea,ha⟩:=hc r hr c l8
   obtain⟨b,eb,hb⟩:=hc i hd r hr
   obtain⟨g,eg,hg⟩:=hc i hd c l8
   refine⟨a*s-b*g,?_,by have:=Br (jR ha hs) (jR hb hg);omega⟩
   unfold cA
   rw[f1,f2,f2,ea,eb,eg,es]
   exact aie hD gz⟩
  refine⟨⟨_,hL.mono (by omega)⟩,⟨s,hF⟩,fun g hg=>⟨?_,TU hF g hg⟩,fun j=> ?_⟩
  ·rw[KaB.1 hg,f1]
   have:=xK i hd i hd;omega
  ·match j with
   |0=>exact fun r hr c hc=>by have:=xK r hr c hc;show rs (M r c)<=_;omega
   |j+1=>exact fun r hr c hc=>by have:=hL.bd r hr c hc;simp only[List.take_succ_cons,List.take_nil];rw[rD];omega
 ·rw [if_neg hd]at aH⊢
  by_cases dp:ck M R<R
  ·rw[if_pos dp]at aH⊢
   have cI:=xa dp
   have h0:=y8 cI
   generalize ck M R=i at *
   generalize dR M R i=k at *
   obtain⟨s,es,hs⟩:=hc i dp k cI
   have gz:=HK h0 es
   obtain⟨wt,GQ⟩:∃wt:Rat,1/(M i k+M i k)=wt:=⟨_,rfl⟩
   rw[GQ]
   obtain⟨f,hf⟩:∃f:LF,(wt,fu (M i) (M k) 1)=f:=⟨_,rfl⟩
   obtain⟨g,hg⟩:∃g:LF,(-wt,fu (M i) (M k) (-1))=g:=⟨_,rfl⟩
   rw[hf,hg]
   have f1:f.1=wt:=by rw[<-hf]
   have g1:g.1= -wt:=by rw[<-hg]
   have f2:∀c,f.2 c=M i c+1*M k c:=fun c=>by rw[<-hf];rfl
   have g2:∀c,g.2 c=M i c+ -1*M k c:=fun c=>by rw[<-hg];rfl
   have hF:FD (n+1) D R [f,g]:=⟨hD,by omega,fun u hu c l8=>by
    obtain⟨x,ex,hx⟩:=hc i dp c l8
    obtain⟨y,ey,hy⟩:=hc k cI c l8
    rcases KaG.1 hu with rfl|hu
    ·obtain⟨z,ez,hz⟩:=QC (x:=x) (y:=y) (.inl rfl) hD
     exact⟨z,by rw[f2,ex,ey,ez],hz n hx hy⟩
    ·rw[KaB.1 hu]
     obtain⟨z,ez,hz⟩:=QC (x:=x) (y:=y) (.inr rfl) hD
     exact⟨z,by rw[g2,ex,ey,ez],hz n hx hy⟩⟩
   have kd:s+s≠0:=by omega
   have fD:nl (s+s).natAbs<=n+1:=by have:=rR s s;omega
   have hL1:CM (2*n+3) (D*(s+s)) R R (cA M f):=⟨Kcj hD kd,by have:=jR zU fD;omega,fun r hr c l8=>by
    obtain⟨a,ea,ha⟩:=hc r hr c l8
    obtain⟨x,ex,hx⟩:=hF.2.2 f (by simp) r hr
    obtain⟨y,ey,hy⟩:=hF.2.2 f (by simp) c l8
    refine⟨a*(s+s)-x*y,?_,by
     have h1:=jR ha fD
     have h2:=jR hx hy
     have:=Br (n:=2*n+2) (x:=a*(s+s)) (y:=x*y) (by omega) (by omega)
     omega⟩
    unfold cA
    rw[f1,ea,ex,ey,<-GQ,es]
    exact aif hD gz⟩
   have Uh:CM (2*n+2) (D*s) R R (eQ M [f,g]):=⟨Kcj hD gz,by have:=jR zU hs;omega,fun r hr c l8=>by
    obtain⟨a,ea,ha⟩:=hc r hr c l8
    obtain⟨x,ex,hx⟩:=hc i dp r hr
    obtain⟨x',ex',aV⟩:=hc k cI r hr
    obtain⟨y,ey,hy⟩:=hc i dp c l8
    obtain⟨y',ey',mh⟩:=hc k cI c l8
    refine⟨a*s-(x*y'+x'*y),?_,by
     have h1:=jR ha hs
     have h2:=jR hx mh
     have h3:=jR aV hy
     have h4:=rR (x*y') (x'*y)
     have:=Br (n:=2*n+1) (x:=a*s) (y:=x*y'+x'*y) (by omega) (by omega)
     omega⟩
    show cA (cA M f) g r c=_
    unfold cA
    rw[f1,g1,f2,f2,g2,g2,ea,ex,ey,ex',ey',<-GQ,es]
    exact aih hD gz⟩
   have GP:rs wt<=2*n+4:=by
    have h1:=xK i dp k cI
    have h2:=ki (M i k) (M i k)
    have h3:M i k+M i k≠0:=fun h=>h0 (by grind)
    have h4:=FE _ h3
    rw[<-GQ,KbA,Kck]
    omega
   refine⟨⟨_,Uh⟩,⟨D,hF⟩,fun u hu=>⟨?_,TU hF u hu⟩,fun j=> ?_⟩
   ·rcases KaG.1 hu with rfl|hu
    ·rw[f1];exact GP
    ·rw[KaB.1 hu,g1,qE];exact GP
   ·match j with
    |0=>exact fun r hr c hc=>by have:=xK r hr c hc;show rs (M r c)<=_;omega
    |1=>exact fun r hr c hc=>by have:=hL1.bd r hr c hc;show rs (cA M f r c)<=_;omega
    |j+2=>exact fun r hr c hc=>by have:=Uh.bd r hr c hc;simp only[List.take_succ_cons,List.take_nil];omega
  ·rw[if_neg dp]at aH
   exact absurd rfl aH
theorem FD.mono{n n' R:Nat}{D:Int}{L:List LF}(h:FD n D R L)(hn:n<=n'):FD n' D R L:=
 ⟨h.1,Kao h.2.1 hn,fun f hf c hc=>by
  obtain⟨a,e,ha⟩:=h.2.2 f hf c hc
  exact⟨a,e,Kao ha hn⟩⟩
theorem FD.app{n m R:Nat}{D E:Int}{L K:List LF}(h:FD n D R L)(k:FD m E R K):FD (n+m) (D*E) R (L++K):=
 ⟨Kcj h.1 k.1,jR h.2.1 k.2.1,fun f hf c hc=>by
  have h1:=kv h.1
  have h2:=kv k.1
  rcases KaK.1 hf with hf|hf
  ·obtain⟨a,e,ha⟩:=h.2.2 f hf c hc
   refine⟨a*E,?_,jR ha k.2.1⟩
   rw[e,KaS,KaS]
   generalize(a:Rat)=a at *
   generalize(D:Rat)=D at *
   generalize(E:Rat)=E at *
   grind
  ·obtain⟨a,e,ha⟩:=k.2.2 f hf c hc
   refine⟨a*D,?_,by have:=jR ha h.2.1;omega⟩
   rw[e,KaS,KaS]
   generalize(a:Rat)=a at *
   generalize(D:Rat)=D at *
   generalize(E:Rat)=E at *
   grind⟩
theorem Hj{R n:Nat}{D:Int}{M:MF}(hs:Sym R M)(hn:2<=n)(h:CM (n-2) D R R M)(gl:3<=n):∀k,(∀j,j<k->bS (Qv R M j).1 R≠[])->Sym R (Qv R M k).1/\(∃D',CM (n*2^k-2) D' R R (Qv R M k).1)/\∃D',FD (n*2^k) D' R (Qv R M k).2
 | 0,_=>⟨hs,⟨D,by rw[KcZ,KbG];exact h⟩,⟨1,by omega,by
   show nl 1<=_
   rw[vf,KcZ];omega,fun f hf=>by cases hf⟩⟩
 |k+1,hk=>by
  obtain⟨h1,⟨D1,h2⟩,⟨D2,h3⟩⟩:=Hj hs hn h gl k fun j hj=>hk j (by omega)
  have fS:3<=n*2^k:=Kao gl (Ka1 _ (Kbp (by omega)))
  have hm:n*2^(k+1)=2*(n*2^k):=by rw[Kbr];simp only[KaR,Kbi]
  obtain⟨⟨D3,a1⟩,⟨D4,a2⟩,_,_⟩:=OW h1 h2 (by omega) (hk k (by omega))
  rw[tl]
  refine⟨?_,⟨D3,a1.mono (by omega)⟩,⟨D2*D4,(h3.app a2).mono (by omega)⟩⟩
  have hb3:eV (max (n*2^k-2) 3) R R (Qv R M k).1:=fun r hr c hc=>by have:=h2.bd r hr c hc;omega
  obtain⟨_,_,_,s3,_⟩:=Et h1 (by omega) hb3 (hk k (by omega))
  exact s3
theorem Hk{R:Nat}{M:MF}:∀k,∃k',k'<=k/\Qv R M k=Qv R M k'/\∀j,j<k'->bS (Qv R M j).1 R≠[]
 |0=>⟨0,Kaf _,rfl,fun j hj=>by omega⟩
 | k+1=>by
  obtain⟨k',h1,h2,h3⟩:=Hk (R:=R) (M:=M) k
  by_cases hn:bS (Qv R M k').1 R=[]
  ·refine⟨k',by omega,?_,h3⟩
   rw[tl,h2,hn,Kam]
   rfl
  ·have e:Qv R M (k+1)=Qv R M (k'+1):=by rw[tl,tl,h2]
   exact⟨k'+1,by omega,e,fun j hj=>by
    by_cases Gm:j=k'
    ·subst Gm;exact hn
    ·exact h3 j (by omega)⟩
theorem CM.b3{n R:Nat}{D:Int}{M:MF}(h:CM (n-2) D R R M)(hn:5<=n):eV n R R M:=fun r hr c hc=>by have:=h.bd r hr c hc;omega
theorem aii{R n m:Nat}{D:Int}{M:MF}(hs:Sym R M)(h:CM (n-2) D R R M)(hn:5<=n):vC (n*2^R) R m M:=fun k _=>by
 obtain⟨k',h1,h2,h3⟩:=Hk (R:=R) (M:=M) k
 have hz:=Bp hs (by omega) (h.b3 hn) k' h3
 obtain⟨a1,⟨D1,a2⟩,_⟩:=Hj hs (by omega) h (by omega) k' h3
 have fS:3<=n*2^k':=Kao (by omega) (Ka1 _ (Kbp (by omega)))
 rw[h2]
 by_cases fo:bS (Qv R M k').1 R=[]
 ·have hle:n*2^k'<=n*2^R:=KaA _ (KaN (by omega) (by omega))
  have hb:eV (n*2^R) R R (Qv R M k').1:=fun r hr c hc=>by have:=a2.bd r hr c hc;omega
  rw[fo]
  exact⟨hb,(fun f hf=>by cases hf),fun j _=>by simpa[eQ]using hb⟩
 ·have h1z:=OP a1 fo
  have hle:n*2^(k'+1)<=n*2^R:=KaA _ (KaN (by omega) (by omega))
  have hm:n*2^(k'+1)=2*(n*2^k'):=by rw[Kbr];simp only[KaR,Kbi]
  obtain⟨_,_,b3,b4⟩:=OW a1 a2 (by omega) fo
  exact⟨fun r hr c hc=>by have:=a2.bd r hr c hc;omega,fun f hf=>⟨by have:=(b3 f hf).1;omega,fun c hc=>by have:=(b3 f hf).2 c hc;omega⟩,fun j _ r hr c hc=>by have:=b4 j r hr c hc;omega⟩
theorem aij{R n:Nat}{D:Int}{M:MF}(hs:Sym R M)(h:CM (n-2) D R R M)(hn:5<=n)(k:Nat):∃D',FD (n*2^R) D' R (Qv R M k).2:=by
 obtain⟨k',h1,h2,h3⟩:=Hk (R:=R) (M:=M) k
 have hz:=Bp hs (by omega) (h.b3 hn) k' h3
 obtain⟨_,_,⟨D2,a3⟩⟩:=Hj hs (by omega) h (by omega) k' h3
 rw[h2]
 exact⟨D2,a3.mono (KaA _ (KaN (by omega) (by omega)))⟩
end Go.FW
