/- SquaresGrams: Gram says whether a polynomial is that of a Gram matrix -/
import Derived.Test.YtkoclfmjlolkhaaGreatSquaresGramsPart16
set_option linter.unusedSimpArgs false
set_option linter.unusedVariables false
set_option linter.unnecessarySimpa false
set_option maxRecDepth 100000
namespace Go.Proofs.YtkoclfmjlolkhaaGreat
open Go Go.FW
theorem Qahi(v:Nat):varM v=Qc6 v 1:=rfl
theorem Qsy{v:Nat}(hv:v<64):Qd Tryz.prog 67 [.int .i64 v] (· =PV.poly (Qd1 v)):=by
 have hset:(List.replicate (v+1) (0:Int)).set v 1=Qc6 v 1:=Q1i v 1 rfl
 have hlr:v<(List.replicate (v+1) (0:Int)).length:=by simp
 have hone:=Qql
 have hxl:(Qc6 v 1).length=v+1:=by simp[Qc6]
 have hadd:=(Qna (p:=[]) (m:=Qc6 v 1) (K:=1) (E:=1) (k:=4) (PB.nil _ _) trivial (by simp[NZ]) (Qbx (q:=((1:Int):Rat)) (k:=4) (by rw[show((1:Int):Rat)=1 from rfl];omega)) (by omega) (Q4j hv) (Qxr (by omega)) (by omega) (by omega) (by simp)).le (args':=[.nilS,PV.rat ((1:Int):Rat),PV.mono (Qc6 v 1)]) ⟨trivial,Qab _,Qab _,trivial⟩
 rw[Qca]at hadd
 have e:Qeq [] ((1:Int):Rat) (Qc6 v 1)=Qd1 v:=by
  rw[Qeq,Qh7,if_neg (by decide),Qd1,if_neg (by omega),Int.toNat_natCast,Qahi];rfl
 rw[e]at hadd
 refine Qf Qq Tryz.func67 rfl Qapw (by simp[c67]) fun C hP=> ?_;simp only[c67,Zo,Zg,Zm,Zc,Zf,Zl,Zh,Zs,Zi,Zb,Zk,Zn,Zu,Zq,Zr,Zz]
 simp+decide (disch:=try exact D0) only[go_sem]
 refine Qal (fun h=>by omega) (fun _=> ?_)
 simp+decide (disch:=try exact D0) only[go_sem]
 refine Qb (fun h=>by omega) (fun _=> ?_)
 simp+decide (disch:=try exact D1 hset) only[go_sem,hset]
 refine Qa hP (Qi1 (x:=1) (by omega) (by omega)) rfl rfl rfl ?_
 generalize((1:Int):Rat)=c at *
 simp+decide (disch:=try exact D0) only[go_sem]
 refine Qdr hP hadd (by simp+decide (disch:=try exact E0) only[go_sem,Qac,List.contains_cons,List.contains_nil,List.flatMap_cons,List.flatMap_nil,List.append_nil];simp[List.take_of_length_le,hxl]) rfl ?_
 simp+decide (disch:=try exact D0) only[go_sem]
 exact Qc rfl rfl
def c21:SFn:=⟨73,[.t 0],Zr (Zo (.mv 0 (.c (.bool false))) .nil)<|Zr (Zq 10 false 67 [.c (Zz 0)]<|
 Zq 11 false 67 [.c (Zz 1)]<|
 Zm 1 10<|
 Zm 2 11 .nil)<|Zr (Zm 12 1<|
 Zm 13 2<|
 Zq 14 false 68 [.t 12,.t 13]<|
 Zm 3 14 .nil)<|Zr (Zm 16 3<|
 Zm 17 3<|
 Zq 18 false 69 [.t 16,.t 17]<|
 Zq 19 false 22 [.t 18]<|
 Zm 15 19<|
 Zo (.ext 20 (.t 15) 0)<|
 Zo (.ext 21 (.t 15) 1)<|
 Zo (.ext 22 (.t 15) 2)<|
 Zm 4 20<|
 Zm 5 21<|
 Zm 6 22 .nil)<|Zr (Zm 24 1<|
 Zm 25 1<|
 Zq 26 false 69 [.t 24,.t 25]<|
 Zq 27 false 50 [.c (Zz 1)]<|
 Zq 28 false 70 [.t 27]<|
 Zq 29 false 68 [.t 26,.t 28]<|
 Zq 30 false 22 [.t 29]<|
 Zm 23 30<|
 Zo (.ext 31 (.t 23) 0)<|
 Zo (.ext 32 (.t 23) 1)<|
 Zo (.ext 33 (.t 23) 2)<|
 Zm 7 31<|
 Zm 8 32<|
 Zm 9 33 .nil)<| .seq (Zr (Zm 34 6<|
 Zk 35 .neq 34 0<|
 Zm 36 35<|
 Zg 36 false (.mv 37 (.t 9))<|
 Zg 36 false (.bin 38 .neq false (.t 37) (.c (Zz 17)))<|
 Zo (.pick 39 (.t 36) (.c (.bool true)) (.t 38))<|
 Zm 40 39<|
 Zg 40 false (.mv 41 (.t 4))<|
 Zg 40 false (.len 42 (.t 41))<|
 Zg 40 false (.bin 43 .neq false (.t 42) (.c (Zz 1)))<|
 Zo (.pick 44 (.t 40) (.c (.bool true)) (.t 43))<|
 Zm 45 44<|
 Zg 45 false (.mv 46 (.t 8))<|
 Zg 45 false (.len 47 (.t 46))<|
 Zg 45 false (.bin 48 .neq false (.t 47) (.c (Zz 1)))<|
 Zo (.pick 49 (.t 45) (.c (.bool true)) (.t 48)) .nil)<| .cond (.t 49) (Zr (Zo (.mv 0 (.c (.bool false))) .nil) .ret) .skip)<|Zr (Zm 50 4<|
 Zo (.idx 51 4 (.t 50) (.c (Zz 0)))<|
 Zf 52 0 51<|
 Zh 53 3 52<|
 Zq 54 true 50 [.c (Zz 1)]<|
 Zq 55 true 49 [.t 53,.t 54]<|
 Zm 56 55<|
 Zg 56 true (.mv 57 (.t 4))<|
 Zg 56 true (.idx 58 4 (.t 57) (.c (Zz 0)))<|
 Zg 56 true (.fld 59 3 (.t 58))<|
 Zg 56 true (.ld 60 1 false (.t 59))<|
 Zg 56 true (.mv 61 (.t 3))<|
 Zg 56 true (.call (some 62) true (.c (.fn 40 [] [])) [.t 60,.t 61])<|
 Zg 56 true (.mv 63 (.t 62))<|
 Zg 63 false (.mv 64 (.t 4))<|
 Zg 63 false (.idx 65 4 (.t 64) (.c (Zz 0)))<|
 Zg 63 false (.fld 66 3 (.t 65))<|
 Zg 63 false (.ld 67 1 false (.t 66))<|
 Zg 63 false (.mv 68 (.t 3))<|
 Zg 63 false (.call (some 69) true (.c (.fn 71 [] [])) [.t 68])<|
 Zg 63 false (.call (some 70) true (.c (.fn 40 [] [])) [.t 67,.t 69])<|
 Zg 56 true (.pick 71 (.t 63) (.c (.bool true)) (.t 70))<|
 Zo (.pick 72 (.t 56) (.t 71) (.c (.bool false)))<|
 Zm 0 72 .nil) .ret⟩
theorem Qarf:Qe Tryz.prog Tryz.f21=some c21:=by kernel_rfl
def aD:List Tm:=psub (Qd1 0) (Qd1 1)
def aP1:List Tm:=Qhj aD aD
def aP2:List Tm:=psub (Qhj (Qd1 0) (Qd1 0)) (Qho 1)
def aB1:List (List Int):=[[1],[0,1],[]]
def aB2:List (List Int):=[[1],[]]
def aG1:List Rat:=[1,-1,0,-1,1,0,0,0,0]
def aG2:List Rat:=[1,0,0,-1]
theorem a_b1:bsP aP1=aB1:=by decide+kernel
theorem a_b2:bsP aP2=aB2:=by decide+kernel
theorem a_g1:Qj0 aP1 aB1=aG1:=by decide+kernel
theorem a_g2:Qj0 aP2 aB2=aG2:=by decide+kernel
theorem Qarg:((Qan 3 (Qai aG1 3) (2*3)).2.all fun f=>decide (0<=f.1))=true:=by decide+kernel
theorem Qasp:(Qan 3 (Qai aG1 3) (2*3)).2.map (fgS aB1)=[(1,aD)]:=by decide+kernel
theorem Qarh:((Qan 2 (Qai aG2 2) (2*2)).2.all fun f=>decide (0<=f.1))=false:=by decide+kernel
theorem a_w2:(Qan 2 (Qai aG2 2) (2*2)).2.map (·.1)=[1,-1]:=by decide+kernel
theorem a_f2:Qcj 2 (Qan 2 (Qai aG2 2) (2*2)).2=[1,0,0,1]:=by decide+kernel
theorem a_l2:(Qan 2 (Qai aG2 2) (2*2)).2.length=2:=by decide+kernel
theorem a_c1:cfE aB1 3 3 (aG1.map qR)=0:=by decide+kernel
theorem a_c2:cfE aB2 2 2 (aG2.map qR)=0:=by decide+kernel
theorem a_s1:Qhl (Qai aG1 3) 3:=by decide+kernel
theorem a_s2:Qhl (Qai aG2 2) 2:=by decide+kernel
theorem Qasq:Qcx (aP1.map toR)=true:=by decide+kernel
theorem Qasr:Qcx (aP2.map toR)=true:=by decide+kernel
theorem Qq4{p:List Tm}(hb:PB 10 10 p)(hl:p.length<=10)(h:Qcx (p.map toR)=true):Qd Tryz.prog 72 [PV.poly p] (· = .bool true):=by
 have h1:=Qsj (l:=p.map toR) (k:=10) (fun t ht=>by
  obtain⟨s,hs,rfl⟩:=List.mem_map.1 ht
  have:=(hb s hs).c
  exact Q0x (by omega) (by have:=(hb s hs).m.len;omega)) (by omega) (by omega) (by rw[List.length_map];omega)
 rwa[Qtg,h]at h1
theorem Q2e{l:List Rat}(h:∀q∈l,rs q<=3)(hl:l.length<=25):Qdy (l.map qR):=⟨by rw[List.length_map];omega,RRk.of fun q hq=>by have:=h q hq;omega⟩
theorem Qass:Qd Tryz.prog 29 [PV.monos aB1,PV.mat 3 3 aG1] (· = .tup [PV.sqs [(1,aD)],.int .i64 0]):=by
 have hs:∀q∈aG1,rs q<=3:=by decide+kernel
 have c:=Qpj (bs:=aB1) (r:=3) (c:=3) (by decide) (by decide) (Q2e hs (by decide))
 rw[a_c1]at c
 have hm:PV.mat 3 3 aG1=PV.rmat 3 3 (aG1.map qR):=Qiz 3 3 aG1
 rw[<-hm]at c
 obtain⟨fs,hfs,d1,_,d3,d4⟩:=Q14 (R:=3) (la:=aG1) (by decide) (by omega) hs a_s1
 have h:=Qnz (K:=50421) (R:=3) (bs:=aB1) ⟨rfl,by decide,by omega,by omega,d4,by omega,by omega⟩ c d1
 rw[hfs,fgR,if_pos Qarg,Qasp]at h
 exact h
theorem Qabb:Qd Tryz.prog 48 [PV.mat 2 2 aG2] (· = .tup [PV.rats [1,-1],PV.mat 2 2 [1,0,0,1],.int .i64 0])/\Qd Tryz.prog 29 [PV.monos aB2,PV.mat 2 2 aG2] (· = .tup [PV.sqs [],.int .i64 17]):=by
 have hs:∀q∈aG2,rs q<=3:=by decide+kernel
 have c:=Qpj (bs:=aB2) (r:=2) (c:=2) (by decide) (by decide) (Q2e hs (by decide))
 rw[a_c2]at c
 have hm:PV.mat 2 2 aG2=PV.rmat 2 2 (aG2.map qR):=Qiz 2 2 aG2
 rw[<-hm]at c
 obtain⟨fs,hfs,d1,_,d3,d4⟩:=Q14 (R:=2) (la:=aG2) (by decide) (by omega) hs a_s2
 have h:=Qnz (K:=50421) (R:=2) (bs:=aB2) ⟨rfl,by decide,by omega,by omega,d4,by omega,by omega⟩ c d1
 rw[hfs,fgR,if_neg (by rw[Qarh];decide)]at h
 rw[hfs,Qtk,a_w2,a_l2,a_f2]at d1
 exact⟨d1,h⟩
theorem Qanj:Q2c (Qbo 2 (Qg3 (Qai [1,0,0,1] 2) (Qfq [0,1]) 2) 2) 2 2= .tup [PV.rats [0,1],.int .i64 0]:=by
 have h0:∀r,r<2->(Qbo 2 (Qg3 (Qai [1,0,0,1] 2) (Qfq [0,1]) 2) 2).piv.length<=r->(Qbo 2 (Qg3 (Qai [1,0,0,1] 2) (Qfq [0,1]) 2) 2).M r 2=0:=by
  have e:(Qbo 2 (Qg3 (Qai [1,0,0,1] 2) (Qfq [0,1]) 2) 2).piv.length=2:=by decide+kernel
  intro r hr h;omega
 rw[Q2c,if_pos h0]
 have e:(List.range 2).map (Qpl (Qbo 2 (Qg3 (Qai [1,0,0,1] 2) (Qfq [0,1]) 2) 2).M (Qbo 2 (Qg3 (Qai [1,0,0,1] 2) (Qfq [0,1]) 2) 2).piv 2 (Qbo 2 (Qg3 (Qai [1,0,0,1] 2) (Qfq [0,1]) 2) 2).piv.length)=[0,1]:=by decide+kernel
 have key:∀f:Nat->Rat,(List.range 2).map f=[0,1]->Qad PV.rat f 2=[(0:Rat),1].map PV.rat:=fun f h=>by rw[<-h,List.map_map];rfl
 rw[key _ e]
theorem Qank:Qd Tryz.prog 138 [PV.mat 2 2 [1,0,0,1],.int .i64 ((1:Nat):Int)] (· =PV.rats [0,1]):=by
 have hu:Qj1 2 1=[0,1]:=by decide+kernel
 have hs:∀q∈([1,0,0,1]:List Rat),rs q<=3:=by decide+kernel
 have hs2:∀q∈([0,1]:List Rat),rs q<=3:=by decide+kernel
 have hB:Q6p (3*3125) 2 3 2 (Qg3 (Qai [1,0,0,1] 2) (Qfq [0,1]) 2):=Qamx (by omega) (fun r _ c _=>by
  unfold Qg3;split
  ·exact Qag6 (by omega) hs2 r
  ·exact Qjm (by omega) hs) (by omega) (.inl (by omega))
 have h:=Qani (R:=2) (m:=2) (l:=[1,0,0,1]) (b:=[0,1]) rfl rfl (by omega) (by omega) (by omega) (fun q hq=>by have:=hs q hq;omega) (fun q hq=>by have:=hs2 q hq;omega) (by omega) hB
 rw[Qanj,<-hu]at h
 rw[hu]at h
 exact Qahh (R:=2) (n:=2) (a:=1) (by omega) (by rw[hu];exact h)
theorem Qast:Qd Tryz.prog 75 [PV.poly aP2,PV.monos aB2,PV.mat 2 2 aG2] (· =PV.rats [0]):=by
 have e:([(0:Rat),1].map (· /1))=[0,1]:=by decide+kernel
 have hsp:=Qaba (bs:=aB2) (x:=[0,1]) (by decide) (by decide) (by decide) (by decide) (by decide)
 rw[show Qg4 aB2 [0,1] (aB2.length-1)=[0]by decide+kernel]at hsp
 exact Q3q (a:=1) (m:=1) (x:=[0,1]) (c:=1) Qabb.1 (by decide) (by decide) (by decide+kernel) (by decide+kernel) (by decide+kernel) Qank rfl (by omega) (by decide+kernel) rfl (by decide+kernel) (by rw[e];exact hsp)
theorem a_Q1:Qd Tryz.prog 22 [PV.poly aP1] (· = .tup [PV.sqs [(1,aD)],PV.rats [],.int .i64 0]):=by
 have hb:PB 10 10 aP1:=Qpm (by decide+kernel)
 have hF:=Qass
 rw[<-a_g1,<-a_b1]at hF
 exact Qmv (K:=10) (E:=10) hb (by omega) (by omega) (by omega) (by decide+kernel) (Qq4 hb (by decide+kernel) Qasq) (by decide+kernel) (by rw[a_b1];decide) (by rw[a_b1]at hF ⊢;exact hF) (fun h=>by cases h) (fun _=>rfl)
theorem a_Q2:Qd Tryz.prog 22 [PV.poly aP2] (· = .tup [PV.sqs [],PV.rats [0],.int .i64 17]):=by
 have hb:PB 10 10 aP2:=Qpm (by decide+kernel)
 have hF:=Qabb.2
 have hN:=Qast
 rw[<-a_g2]at hF hN
 exact Qmv (K:=10) (E:=10) hb (by omega) (by omega) (by omega) (by decide+kernel) (Qq4 hb (by decide+kernel) Qasr) (by decide+kernel) (by rw[a_b2];decide) (by rw[a_b2];exact hF) (fun _=>⟨rfl,by rw[a_b2];exact hN⟩) (fun h=>absurd rfl h)
def c8:SFn:=⟨48,[.t 4],Zr (Zo (.mv 4 (.c (.bool false))) .nil)<| .seq (Zr (Zm 9 1<|
 Zq 10 false 33 [.t 9]<|
 Zu 11 10<|
 Zm 12 11<|
 Zg 12 false (.mv 13 (.t 0))<|
 Zg 12 false (.call (some 14) false (.c (.fn 18 [] [])) [.t 13])<|
 Zg 12 false (.un 15 .not (.t 14))<|
 Zo (.pick 16 (.t 12) (.c (.bool true)) (.t 15)) .nil)<| .cond (.t 16) (Zr (Zq 17 false 21 []<|
 Zm 4 17 .nil) .ret) .skip)<|Zr (Zm 19 1<|
 Zq 20 false 36 [.t 19]<|
 Zm 18 20<|
 Zo (.ext 21 (.t 18) 0)<|
 Zo (.ext 22 (.t 18) 1)<|
 Zm 5 21<|
 Zm 6 22 .nil)<|Zr (Zm 24 1<|
 Zq 25 false 39 [.t 24]<|
 Zm 23 25<|
 Zo (.ext 26 (.t 23) 0)<|
 Zo (.ext 27 (.t 23) 1)<|
 Zm 7 26<|
 Zm 8 27 .nil)<|Zr (Zm 28 5<|
 Zm 29 7<|
 Zq 30 false 40 [.t 28,.t 29]<|
 Zm 31 30<|
 Zg 31 true (.mv 32 (.t 6))<|
 Zg 31 true (.mv 33 (.t 8))<|
 Zg 31 true (.bin 34 .eql false (.t 32) (.t 33))<|
 Zo (.pick 35 (.t 31) (.t 34) (.c (.bool false)))<|
 Zm 36 35<|
 Zg 36 true (.mv 37 (.t 0))<|
 Zg 36 true (.mv 38 (.t 1))<|
 Zg 36 true (.call (some 39) false (.c (.fn 41 [] [])) [.t 37,.t 38])<|
 Zg 36 true (.mv 40 (.t 0))<|
 Zg 36 true (.mv 41 (.t 1))<|
 Zg 36 true (.call (some 42) false (.c (.fn 42 [] [])) [.t 40,.t 41])<|
 Zg 36 true (.bin 43 .eql false (.t 39) (.t 42))<|
 Zo (.pick 44 (.t 36) (.t 43) (.c (.bool false)))<|
 Zm 45 44<|
 Zg 45 true (.call (some 46) false (.c (.fn 21 [] [])) [])<|
 Zo (.pick 47 (.t 45) (.t 46) (.c (.bool false)))<|
 Zm 4 47 .nil) .ret⟩
def c5:SFn:=⟨37,[.t 4],Zr (Zo (.box 3 3 24 (.t 1))<|
 Zo (.mv 4 (.c (.bool false))) .nil)<| .seq (Zr (Zm 9 0<|
 Zh 10 3 3<|
 Zq 11 false 28 [.t 9,.t 10]<|
 Zu 12 11 .nil)<| .cond (.t 12) (Zr (Zq 13 false 21 []<|
 Zm 4 13 .nil) .ret) .skip)<|Zr (Zm 15 0<|
 Zh 16 3 3<|
 Zq 17 false 29 [.t 15,.t 16]<|
 Zm 14 17<|
 Zo (.ext 18 (.t 14) 0)<|
 Zo (.ext 19 (.t 14) 1)<|
 Zm 5 18<|
 Zm 6 19 .nil)<|Zr (Zm 21 0<|
 Zh 22 3 3<|
 Zq 23 false 30 [.t 21,.t 22]<|
 Zm 20 23<|
 Zo (.ext 24 (.t 20) 0)<|
 Zo (.ext 25 (.t 20) 1)<|
 Zm 7 24<|
 Zm 8 25 .nil)<|Zr (Zm 26 5<|
 Zm 27 7<|
 Zq 28 false 24 [.t 26,.t 27]<|
 Zm 29 28<|
 Zg 29 true (.mv 30 (.t 6))<|
 Zg 29 true (.mv 31 (.t 8))<|
 Zg 29 true (.bin 32 .eql false (.t 30) (.t 31))<|
 Zo (.pick 33 (.t 29) (.t 32) (.c (.bool false)))<|
 Zm 34 33<|
 Zg 34 true (.call (some 35) false (.c (.fn 21 [] [])) [])<|
 Zo (.pick 36 (.t 34) (.t 35) (.c (.bool false)))<|
 Zm 4 36 .nil) .ret⟩
theorem Qwr:Qd Tryz.prog 21 [] (· = .bool true):=by
 have hv0:Qd Tryz.prog 67 [.int .i64 0] (· =PV.poly (Qd1 0)):=Qsy (v:=0) (by omega)
 have hv1:Qd Tryz.prog 67 [.int .i64 1] (· =PV.poly (Qd1 1)):=Qsy (v:=1) (by omega)
 have p0:PB 10 10 (Qd1 0):=Qpm (by decide+kernel)
 have p1:PB 10 10 (Qd1 1):=Qpm (by decide+kernel)
 have pc:PB 10 10 (Qho 1):=Qpm (by decide+kernel)
 have pd:PB 10 10 aD:=Qpm (by decide+kernel)
 have pm:PB 10 10 (Qhj (Qd1 0) (Qd1 0)):=Qpm (by decide+kernel)
 have n0:Nrm (Qd1 0):=Qvn (by decide+kernel)
 have n1:Nrm (Qd1 1):=Qvn (by decide+kernel)
 have nc:Nrm (Qho 1):=Qvn (by decide+kernel)
 have nd:Nrm aD:=Qvn (by decide+kernel)
 have l0:(Qd1 0).length=1:=by decide+kernel
 have l1:(Qd1 1).length=1:=by decide+kernel
 have lc:(Qho 1).length=1:=by decide+kernel
 have ld:aD.length=2:=by decide+kernel
 have lm:(Qhj (Qd1 0) (Qd1 0)).length=1:=by decide+kernel
 have hs1:Qd Tryz.prog 68 [PV.poly (Qd1 0),PV.poly (Qd1 1)] (· =PV.poly aD):=Qst p0 p1 n1.z (by omega) (by omega) (by omega) (by omega) (by omega)
 have hs2:Qd Tryz.prog 68 [PV.poly (Qhj (Qd1 0) (Qd1 0)),PV.poly (Qho 1)] (· =PV.poly aP2):=Qst pm pc nc.z (by omega) (by omega) (by omega) (by omega) (by omega)
 have hm1:=Qss pd pd nd.z nd.z (by omega) (by omega) (by omega) (by rw[ld];decide) (by rw[ld];decide)
 rw[Q0s nd nd]at hm1
 have hm1:Qd Tryz.prog 69 [PV.poly aD,PV.poly aD] (· =PV.poly aP1):=hm1
 have hm2:=Qss p0 p0 n0.z n0.z (by omega) (by omega) (by omega) (by rw[l0];decide) (by rw[l0];decide)
 rw[Q0s n0 n0]at hm2
 have ho1:Qd Tryz.prog 50 [.int .i64 1] (· =PV.rat 1):=Qi1 (x:=1) (by omega) (by omega)
 have hco:Qd Tryz.prog 70 [PV.rat 1] (· =PV.poly (Qho 1)):=Q6y (a:=1) (k:=4) (by decide+kernel) (by omega)
 have he1:=Qu6 (a:=1) (b:=1) (k:=4) (by decide+kernel) (by decide+kernel) (by omega)
 rw[decide_eq_true rfl]at he1
 have he2:=Qpx pd pd (by omega) (by omega) (by omega) (by omega)
 rw[decide_eq_true rfl]at he2
 have q1:=a_Q1
 have q2:=a_Q2
 clear p0 p1 pc pd pm n0 n1 nc nd l0 l1 lc lm
 generalize Qhj (Qd1 0) (Qd1 0)=M at *
 generalize Qho 1=O at *
 generalize Qd1 0=V0 at *
 generalize Qd1 1=V1 at *
 generalize aP1=P1 at *
 generalize aP2=P2 at *
 generalize aD=D at *
 refine Qf Qq Tryz.func21 rfl Qarf (by simp[c21]) fun C hP=> ?_;simp only[c21,Zo,Zg,Zm,Zc,Zf,Zl,Zh,Zs,Zi,Zb,Zk,Zn,Zu,Zq,Zr,Zz]
 simp+decide (disch:=try exact D0) only[go_sem]
 refine Qa hP hv0 rfl rfl rfl ?_
 simp+decide (disch:=try exact D0) only[go_sem]
 refine Qa hP hv1 rfl rfl rfl ?_
 simp+decide (disch:=try exact D0) only[go_sem]
 refine Qa hP hs1 rfl rfl rfl ?_
 simp+decide (disch:=try exact D0) only[go_sem]
 refine Qa hP hm1 rfl rfl rfl ?_
 simp+decide (disch:=try exact D0) only[go_sem]
 refine Qa hP q1 rfl rfl rfl ?_
 simp+decide (disch:=try exact D0) only[go_sem]
 refine Qa hP hm2 rfl rfl rfl ?_
 simp+decide (disch:=try exact D0) only[go_sem]
 refine Qa hP ho1 rfl rfl rfl ?_
 simp+decide (disch:=try exact D0) only[go_sem]
 refine Qa hP hco rfl rfl rfl ?_
 simp+decide (disch:=try exact D0) only[go_sem]
 refine Qa hP hs2 rfl rfl rfl ?_
 simp+decide (disch:=try exact D0) only[go_sem]
 refine Qa hP q2 rfl rfl rfl ?_
 simp+decide (disch:=try exact D0) only[go_sem]
 refine Qa hP ho1 rfl rfl rfl ?_
 simp+decide (disch:=try exact D0) only[go_sem]
 refine Qa hP he1 rfl rfl rfl ?_
 simp+decide (disch:=try exact D0) only[go_sem]
 refine Qa hP he2 rfl rfl rfl ?_
 simp+decide (disch:=try exact D0) only[go_sem]
 exact Qc rfl rfl
open Go Go.FW Go.ChangeShapes Go.WideShapes Go.ChangeAt Go.RowKit
variable {H : Type} {enc : TypeId × Value -> H}
def Q2f(bs:List (List Int)):Prop:=bs.length<=1048576/\∀b∈bs,b.length<=1048576/\∀x∈b,-9223372036854775808<=x/\x<=9223372036854775807
theorem Qvo:Tryz.prog.cellsOf 93=1:=by kernel_rfl
theorem Qahl:Rd enc 55 fun ps=>∃bs:List (List Int),ps=[PV.monos bs]/\Q2f bs:=by
 refine(Qhp (α:=List Int) (f:=PV.mono) (G:=fun b=>b.length<=1048576/\∀x∈b,-9223372036854775808<=x/\x<=9223372036854775807) Qbw Tryz.underlying55 (by rw[Qvo];omega) Q4l).mono ?_
 rintro ps ⟨l,rfl,h1,h2⟩
 exact⟨l,by rw[Qvo],h1,h2⟩
variable {w : World} {base : Nat} {spare : Nat -> Bool} {held : Bool} {r : Reach} {b0 : Nat} {v : Value} {d : DataW H} {ps : List MemPlace}
theorem Qabc(Qcu:Value.okWide Tryz.prog w r b0 55 v)(hd:DataW.Trod enc Tryz.prog w base spare held 55 v d ps)(hn:Rows.uptoBulk d<=1048576):∃bs,Qas w Qbs (PV.monos bs) v/\Q2f bs:=by
 obtain⟨p,⟨l,e,h⟩,h2⟩:=Qxe Tryz.underlying55 Qcu Qahl hd hn
 obtain rfl:p=PV.monos l:=by simpa using e
 exact⟨l,h2,h⟩
end Go.Proofs.YtkoclfmjlolkhaaGreat
namespace Go.Proofs.YtkoclfmjlolkhaaGreat
open Go Go.FW
def Qws(a b:List Int):Bool:=(List.range (min a.length b.length)).all fun k=>decide (eN a k+eN b k<=1048576)
theorem Qari{a b:List Int}(ha:Qaj a=true)(hb:Qaj b=true):Qaj (Qa5 a b)=Qws a b:=by
 have ma:=MB.ofOk ha
 have mb:=MB.ofOk hb
 have hz:=Qqy ma mb (Qdg ha) (Qdg hb)
 have hl:=Qcy (· + ·) a b
 have l1:=ma.len
 have l2:=mb.len
 have key:Qaj (Qa5 a b)=true↔Qws a b=true:=by
  unfold Qaj Qws
  rw[<-hz,hl,hz]
  simp only[Bool.and_eq_true,decide_eq_true_eq,List.all_eq_true,List.mem_range]
  constructor
  ·rintro⟨_,_,h⟩ k hk
   have hk':k<(Qgh (· + ·) a b).length:=by rw[hl];omega
   have:=h _ (by rw[<-hz];exact List.getElem_mem hk')
   rw[<-Qde hk',Qrj (by simp)]at this
   exact this.2
  ·intro h
   refine⟨by omega,Qie a b,fun x hx=> ?_⟩
   rw[<-hz]at hx
   obtain⟨k,hk,rfl⟩:=List.getElem_of_mem hx
   rw[<-Qde hk,Qrj (by simp)]
   have p1:=ma.eN k
   have p2:=mb.eN k
   refine⟨by omega,?_⟩
   by_cases hm:k<min a.length b.length
   ·exact h k hm
   ·by_cases h1:k<a.length
    ·rw[Qed (a:=b) (by omega)];omega
    ·rw[Qed (a:=a) (by omega)];omega
 cases h1:Qaj (Qa5 a b)<;>cases h2:Qws a b<;>simp_all
theorem Qanl{a b:List Int}(ha:MB 1048576 a)(hb:MB 1048576 b):Qd Tryz.prog 95 [PV.mono a,PV.mono b] (· = .bool (Qws a b)):=by
 have l1:=ha.len
 have l2:=hb.len
 have em:min (a.length:Int) (b.length:Int)=((min a.length b.length:Nat):Int):=by omega
 have hm1:min a.length b.length<=a.length:=Nat.min_le_left ..
 have hm2:min a.length b.length<=b.length:=Nat.min_le_right ..
 unfold Qws
 generalize hm:min a.length b.length=m at *
 refine Qf Qq Tryz.func95 rfl Qap7 (by simp[c95]) fun C hP=> ?_;simp only[c95,Zo,Zg,Zm,Zc,Zf,Zl,Zh,Zs,Zi,Zb,Zk,Zn,Zu,Zq,Zr,Zz]
 simp+decide (disch:=try exact D1 em) only[go_sem,em]
 refine Qz (by repeat (first|exact Qn|exact Qi|exact Qj|exact Qk|exact Ql|apply Qh|apply Qm|apply Qt|apply Qx|apply Qy|apply Qg|apply Qr)) [(4,5),(11,24)] [] (fun q J hp=>∃i,q=m-i/\i<=m/\(∀j,j<i->eN a j+eN b j<=1048576)/\J 11= .int .i64 (i:Nat)) m ?_ ?_
 ·refine⟨0,rfl,by omega,by omega,?_⟩
  simp+decide (disch:=try exact D0) only[go_sem]
  rfl
 rintro _ J h' ⟨i,rfl,hi,h1,h11⟩
 simp+decide (disch:=try exact D1 h11) only[go_sem,h11]
 refine Qb (fun hg=> ?_) (fun hg=> ?_)
 ·have hi':i<m:=by omega
  have p1:=ha.eN i
  have p2:=hb.eN i
  have e1:a[i]'(by omega)=eN a i:=(Qde (by omega)).symm
  have e2:b[i]'(by omega)=eN b i:=(Qde (by omega)).symm
  have hadd:eN a i+eN b i<=1048576->∀j,j<i+1->eN a j+eN b j<=1048576:=fun h j hj=>by
   by_cases e:j=i
   ·subst e;exact h
   ·exact h1 j (by omega)
  have hno:¬eN a i+eN b i<=1048576->((List.range m).all fun k=>decide (eN a k+eN b k<=1048576))=false:=fun h=>by
   rw[List.all_eq_false];exact⟨i,List.mem_range.2 hi',by simpa using h⟩
  generalize eN a i=x at *
  generalize eN b i=y at *
  simp+decide (disch:=try exact D3 h11 e1 e2) only[go_sem,h11,e1,e2]
  refine Qb (fun h5=> ?_) (fun h5=> ?_)
  ·simp+decide (disch:=try exact D0) only[go_sem]
   exact Qc (by rw[hno (by omega)]) rfl
  ·simp+decide (disch:=try exact D1 h11) only[go_sem,h11]
   refine Qo (m-(i+1)) (by omega) ⟨i+1,rfl,by omega,hadd (by omega),?_⟩
   simp+decide (disch:=try exact D0) only[go_sem]
 ·obtain rfl:i=m:=by omega
  simp+decide (disch:=try exact D0) only[go_sem]
  refine Qc ?_ rfl
  rw[List.all_eq_true.2 fun k hk=>decide_eq_true (h1 k (List.mem_range.1 hk))]
def gT(bs:List (List Int))(la:List Rat)(q:Nat):Tm:=(la.getD q 0,Qa5 (bs.getD (q/bs.length) []) (bs.getD (q%bs.length) []))
theorem Qyx{bs:List (List Int)}{la:List Rat}{i k:Nat}(hi:i<bs.length)(hk:k<bs.length)(hl:i*bs.length+k<la.length):gT bs la (i*bs.length+k)=(la[i*bs.length+k],Qa5 bs[i] bs[k]):=by
 unfold gT
 have e1:(i*bs.length+k)/bs.length=i:=by
  rw[Nat.mul_comm,Nat.mul_add_div (by omega),Nat.div_eq_of_lt hk,Nat.add_zero]
 have e2:(i*bs.length+k)%bs.length=k:=by
  rw[Nat.mul_comm,Nat.mul_add_mod,Nat.mod_eq_of_lt hk]
 rw[e1,e2]
 simp[hi,hk,hl]
def gTs(bs:List (List Int))(la:List Rat):List Tm:=(List.range (bs.length*bs.length)).map (gT bs la)
def Qpn(bs:List (List Int))(la:List Rat):Bool:=(gTs bs la).all fun t=>Qaj t.2
def grR(p:List RTm)(bs:List (List Int))(la:List Rat):PV:=if Qpn bs la=true then .tup [.bool (Qcx p&&decide (p.map RTm.tm=Qia (gTs bs la))),.int .i64 0]else .tup [.bool false,.int .i64 4]
structure Q2g(p:List RTm)(bs:List (List Int))(la:List Rat)(k:Nat):Prop where
 b:∀b∈bs,Qaj b=true
 n:bs.length<=5
 l:la.length=bs.length*bs.length
 s:∀q∈la,rs q<=3
 pr:∀t∈p,RB k t
 k1:1<=k
 k:k<2^36
 f:Qfg p=true
theorem Q7e{bs:List (List Int)}{la:List Rat}{q:Nat}(hl:la.length=bs.length*bs.length)(hq:q<bs.length*bs.length):∃(h1:q<la.length)(hi:q/bs.length<bs.length)(hk:q%bs.length<bs.length),gT bs la q=(la[q],Qa5 bs[q/bs.length] bs[q%bs.length]):=by
 have h0:0<bs.length:=Nat.pos_of_ne_zero fun e=>by rw[e]at hq;simp at hq
 have hi:q/bs.length<bs.length:=Nat.div_lt_of_lt_mul hq
 have hk:q%bs.length<bs.length:=Nat.mod_lt _ h0
 refine⟨by omega,hi,hk,?_⟩
 have h1:q<la.length:=by omega
 unfold gT
 simp[hi,hk,h1]
theorem Q2g.ts{p:List RTm}{bs:List (List Int)}{la:List Rat}{k:Nat}(h:Q2g p bs la k):∀t∈gTs bs la,rs t.1<=3/\t.2.length<2^40:=fun t ht=>by
 obtain⟨q,hq,rfl⟩:=List.mem_map.1 ht
 obtain⟨h1,hi,hk,e⟩:=Q7e (bs:=bs) h.l (List.mem_range.1 hq)
 rw[e]
 have l1:=(MB.ofOk (h.b _ (List.getElem_mem hi))).len
 have l2:=(MB.ofOk (h.b _ (List.getElem_mem hk))).len
 have l3:=Qth (bs[q/bs.length]) (bs[q%bs.length])
 exact⟨h.s _ (List.getElem_mem _),by show(Qa5 _ _).length<_;omega⟩
theorem Q7f{p:List RTm}{bs:List (List Int)}{la:List Rat}{k:Nat}(h:Q2g p bs la k)(hcf:Qd Tryz.prog 90 [PV.monos bs,PV.mat bs.length bs.length la] (· = .int .i64 0)):
  Qd Tryz.prog 31 [PV.rpoly p,PV.monos bs,PV.mat bs.length bs.length la] (· =grR p bs la):=by
 have hts:=h.ts
 have hn:=h.n
 have hl:=h.l
 have hb:=h.b
 have hpl:p.length<2^40:=by
  have hf:=h.f
  simp only[Qfg,Bool.and_eq_true,decide_eq_true_eq]at hf;omega
 have hnn:bs.length*bs.length<=5*5:=Nat.mul_le_mul hn hn
 have hbad:∀i k (hi:i<bs.length) (hk:k<bs.length),Qaj (Qa5 bs[i] bs[k])=false->grR p bs la= .tup [.bool false,.int .i64 4]:=fun i k hi hk e=>by
  have hq:i*bs.length+k<bs.length*bs.length:=by
   have:=Nat.mul_le_mul_right bs.length (show i+1<=bs.length from hi)
   rw[Nat.succ_mul]at this;omega
  have:Qpn bs la=false:=by
   unfold Qpn
   rw[List.all_eq_false]
   refine⟨gT bs la (i*bs.length+k),List.mem_map.2 ⟨_,List.mem_range.2 hq,rfl⟩,?_⟩
   rw[Qyx hi hk (by omega)]
   show ¬Qaj (Qa5 bs[i] bs[k])=true
   rw[e];decide
  rw[grR,this,if_neg (by decide)]
 have hall:(∀i k (hi:i<bs.length) (hk:k<bs.length),Qaj (Qa5 bs[i] bs[k])=true)->grR p bs la= .tup [.bool (Qcx p&&decide (p.map RTm.tm=Qia (gTs bs la))),.int .i64 0]:=fun e=>by
  have:Qpn bs la=true:=by
   unfold Qpn
   rw[List.all_eq_true]
   intro t ht
   obtain⟨q,hq,rfl⟩:=List.mem_map.1 ht
   obtain⟨h1,hi,hk,e2⟩:=Q7e (bs:=bs) hl (List.mem_range.1 hq)
   rw[e2]
   exact e _ _ hi hk
  rw[grR,this,if_pos rfl]
 have hsu:∀i k (hi:i<bs.length) (hk:k<bs.length),∃hq:i*bs.length+k<la.length,(List.range (i*bs.length+(k+1))).map (gT bs la)=(List.range (i*bs.length+k)).map (gT bs la)++[(la[i*bs.length+k],Qa5 bs[i] bs[k])]:=fun i k hi hk=>by
  have hq:i*bs.length+k<la.length:=by
   have:=Nat.mul_le_mul_right bs.length (show i+1<=bs.length from hi)
   rw[Nat.succ_mul]at this;omega
  refine⟨hq,?_⟩
  rw[<-Nat.add_assoc,List.range_succ,List.map_append,<-Qyx hi hk hq];rfl
 have hno:=Q1z (k:=3) hts (by omega) (by omega) (by simp[gTs];omega)
 have hnb:=Qvm (fun t ht=>(hts t ht).1)
 have hGl:(gTs bs la).length=bs.length*bs.length:=by simp[gTs]
 rw[hGl]at hnb
 have hpr:=Qsj h.pr h.k1 h.k hpl
 have hgt:(List.range (bs.length*bs.length)).map (gT bs la)=gTs bs la:=rfl
 refine Qf Qq Tryz.func31 rfl Qaad (by simp[c31]) fun C hP=> ?_;simp only[c31,Zo,Zg,Zm,Zc,Zf,Zl,Zh,Zs,Zi,Zb,Zk,Zn,Zu,Zq,Zr,Zz]
 simp+decide (disch:=try exact D0) only[go_sem]
 refine Qa hP hcf rfl rfl rfl ?_
 simp+decide (disch:=try exact D0) only[go_sem]
 refine Qce 9 900 4 95 (by omega) T0 ?_
 refine Qz (by repeat (first|exact Qn|exact Qi|exact Qj|exact Qk|exact Ql|apply Qh|apply Qm|apply Qt|apply Qx|apply Qy|apply Qg|apply Qr)) [(6,7),(9,11),(20,62)] [59,60,900] (fun q J hp=>∃i,q=bs.length-i/\i<=bs.length/\(∀j k (hj:j<bs.length) (hk:k<bs.length),j<i->Qaj (Qa5 bs[j] bs[k])=true)/\J 9= .ms 900 (i*bs.length)/\J 20= .int .i64 (i:Nat)/\hp 5=some ⟨3,24,[PV.mat bs.length bs.length la],false⟩/\hp 900=some ⟨4,95,((List.range (i*bs.length)).map (gT bs la)).map PV.term,false⟩) bs.length ?_ ?_
 ·refine⟨0,rfl,by omega,by omega,?_⟩
  simp+decide (disch:=try exact D0) only[go_sem]
  simp
 rintro _ J h' ⟨i,rfl,hi,hpos,j9,j20,b5,b9⟩
 simp+decide (disch:=try exact D1 j20) only[go_sem,j20]
 refine Qb (fun hg=> ?_) (fun hg=> ?_)
 ·have hi':i<bs.length:=by omega
  simp+decide (disch:=try exact D1 j20) only[go_sem,j20]
  refine Qz (by repeat (first|exact Qn|exact Qi|exact Qj|exact Qk|exact Ql|apply Qh|apply Qm|apply Qt|apply Qx|apply Qy|apply Qg|apply Qr)) [(6,7),(9,9),(11,11),(25,61)] [59,60,900] (fun q J2 hp=>∃k,q=bs.length-k/\k<=bs.length/\(∀j (hj:j<bs.length),j<k->Qaj (Qa5 bs[i] bs[j])=true)/\J2 9= .ms 900 (i*bs.length+k)/\J2 25= .int .i64 (k:Nat)/\hp 5=some ⟨3,24,[PV.mat bs.length bs.length la],false⟩/\hp 900=some ⟨4,95,((List.range (i*bs.length+k)).map (gT bs la)).map PV.term,false⟩) bs.length ?_ ?_
  ·refine⟨0,rfl,by omega,by omega,?_⟩
   simp+decide (disch:=try exact D4 j9 j20 b5 b9) only[go_sem,j9,j20,b5,b9]
   try simp
  rintro _ J2 h2 ⟨k,rfl,hk,hpk,g9,g25,c5,c9⟩
  simp+decide (disch:=try exact D1 g25) only[go_sem,g25]
  refine Qb (fun hg2=> ?_) (fun hg2=> ?_)
  ·have hk':k<bs.length:=by omega
   obtain⟨hq,hst⟩:=hsu i k hi' hk'
   have m1:=hb _ (List.getElem_mem hi')
   have m2:=hb _ (List.getElem_mem hk')
   have hfi:=Qanl (MB.ofOk m1) (MB.ofOk m2)
   rw[<-Qari m1 m2]at hfi
   have hmu:=Qu1 (MB.ofOk m1) (MB.ofOk m2) (by omega)
   have hbi:=hbad i k hi' hk'
   have hadd:Qaj (Qa5 bs[i] bs[k])=true->∀j (hj:j<bs.length),j<k+1->Qaj (Qa5 bs[i] bs[j])=true:=fun e j hj hjk=>by
    by_cases e2:j=k
    ·subst e2;exact e
    ·exact hpk j hj (by omega)
   have hTl:((List.range (i*bs.length+k)).map (gT bs la)).length=i*bs.length+k:=by simp
   generalize(List.range (i*bs.length+k)).map (gT bs la)=T at *
   generalize hx1:bs[i]=x1 at *
   generalize hx2:bs[k]=x2 at *
   generalize Qa5 x1 x2=y at *
   generalize hc:la[i*bs.length+k]=c at *
   simp+decide (disch:=first|omega|rfl|(simp+decide only[go_sem,g9,j20,g25,c5,c9,hx1,hx2]<;>rfl)|fail) only[go_sem,g9,j20,g25,c5,c9,hx1,hx2]
   refine Qa hP hfi rfl rfl rfl ?_
   cases hy:Qaj y
   ·simp+decide (disch:=try exact D0) only[go_sem]
    exact Qd8 (r:=grR p bs la) (hbi hy) rfl rfl (Qab _) (Qab _)
   simp+decide (disch:=first|omega|rfl|(simp+decide only[go_sem,g9,j20,g25,c5,c9,hx1,hx2,hc]<;>rfl)|fail) only[go_sem,g9,j20,g25,c5,c9,hx1,hx2,hc]
   refine Qa hP hmu rfl rfl rfl ?_
   simp+decide (disch:=first|omega|rfl|(simp+decide only[go_sem,g9,j20,g25,c5,c9,hc]<;>rfl)|fail) only[go_sem,g9,j20,g25,c5,c9,hc]
   rw[Qaf (f:=PV.term) (y:=(c,y)) (xs:=T) (ty':=95) (fz:=false) (T1 c9) Tr0 (by omega) hTl.symm (by omega) (by omega)]
   simp+decide (disch:=try exact D1 g25) only[go_sem,g25]
   refine Qo (bs.length-(k+1)) (by omega) ⟨k+1,rfl,by omega,hadd hy,?_⟩
   rw[hst]
   simp+decide (disch:=first|omega|rfl|(simp+decide only[go_sem,j20,c5]<;>rfl)|fail) only[go_sem,j20,c5]
   rfl
  ·obtain rfl:k=bs.length:=by omega
   simp (disch:=decide) only[Qa3,Qbg,Qhq]
   simp+decide (disch:=try exact D1 j20) only[go_sem,j20]
   refine Qo (bs.length-(i+1)) (by omega) ⟨i+1,rfl,by omega,fun j k hj hk hji=> ?_,?_⟩
   ·by_cases e:j=i
    ·subst e;exact hpk k hk hk
    ·exact hpos j k hj hk (by omega)
   rw[Nat.succ_mul]
   simp+decide (disch:=first|omega|rfl|(simp+decide only[go_sem,g9,c5,c9]<;>rfl)|fail) only[go_sem,g9,c5,c9]
 ·obtain rfl:i=bs.length:=by omega
  have hr:=hall fun j k hj hk=>hpos j k hj hk hj
  rw[hgt]at b9
  generalize gTs bs la=G at *
  have hsn2:List.take (bs.length*bs.length) (G.map PV.term)=G.map PV.term:=List.take_of_length_le (by rw[List.length_map];omega)
  simp+decide (disch:=try exact D1 j9) only[go_sem,j9]
  refine Qa hP hpr rfl rfl rfl ?_
  cases h3:Qcx p
  ·simp+decide (disch:=try exact D0) only[go_sem]
   exact Qd8 (r:=grR p bs la) (by rw[hr,h3];rfl) rfl rfl (Qab _) (Qab _)
  obtain⟨q1,q2⟩:=Q1h h.pr h.f h3
  have q0:=(Qqm h.pr h3).1
  rw[h3]at hr
  rw[q0]
  have hpl20:p.length<=20:=by
   have hf:=h.f
   simp only[Qfg,Bool.and_eq_true,decide_eq_true_eq]at hf;exact hf.1
  have hPl:(p.map RTm.tm).length=p.length:=List.length_map _
  have hq1:PB 200 2097152 (p.map RTm.tm):=q1.mono (by omega) (by omega)
  have hq2:PB 200 2097152 (Qia G):=hnb.1.mono (by omega) (by omega)
  have hnl:=hnb.2.1
  clear hbad hall hts hsu hpr
  have heq:=Q08 hq1 hq2 (by omega) (by omega) (by omega) (by omega)
  simp+decide (disch:=try exact D2 j9 b9) only[go_sem,j9,b9]
  refine Qdr hP hno (Ur2 hsn2 b9) rfl ?_
  generalize Qia G=V at *
  generalize p.map RTm.tm=P at *
  simp+decide (disch:=try exact E0) only[go_sem,Qac,List.contains_cons,List.contains_nil,List.flatMap_cons,List.flatMap_nil,List.append_nil]
  refine Qa hP heq rfl rfl rfl ?_
  simp+decide (disch:=try exact D0) only[go_sem]
  exact Qd8 (r:=grR p bs la) (by rw[hr];rfl) rfl rfl (Qab _) (Qab _)
theorem Q3r{p:List RTm}{bs:List (List Int)}{la:List Rat}{k:Nat}(h:Q2g p bs la k)(hcf:Qd Tryz.prog 92 [PV.monos bs,PV.mat bs.length bs.length la] (· = .int .i64 0)):
  Qd Tryz.prog 32 [PV.rpoly p,PV.monos bs,PV.mat bs.length bs.length la] (· =grR p bs la):=by
 have hts:=h.ts
 have hn:=h.n
 have hl:=h.l
 have hb:=h.b
 have hpl:p.length<2^40:=by
  have hf:=h.f
  simp only[Qfg,Bool.and_eq_true,decide_eq_true_eq]at hf;omega
 have hnn:bs.length*bs.length<=5*5:=Nat.mul_le_mul hn hn
 have hbad:∀i k (hi:i<bs.length) (hk:k<bs.length),Qaj (Qa5 bs[i] bs[k])=false->grR p bs la= .tup [.bool false,.int .i64 4]:=fun i k hi hk e=>by
  have hq:i*bs.length+k<bs.length*bs.length:=by
   have:=Nat.mul_le_mul_right bs.length (show i+1<=bs.length from hi)
   rw[Nat.succ_mul]at this;omega
  have:Qpn bs la=false:=by
   unfold Qpn
   rw[List.all_eq_false]
   refine⟨gT bs la (i*bs.length+k),List.mem_map.2 ⟨_,List.mem_range.2 hq,rfl⟩,?_⟩
   rw[Qyx hi hk (by omega)]
   show ¬Qaj (Qa5 bs[i] bs[k])=true
   rw[e];decide
  rw[grR,this,if_neg (by decide)]
 have hall:(∀i k (hi:i<bs.length) (hk:k<bs.length),Qaj (Qa5 bs[i] bs[k])=true)->grR p bs la= .tup [.bool (Qcx p&&decide (p.map RTm.tm=Qia (gTs bs la))),.int .i64 0]:=fun e=>by
  have:Qpn bs la=true:=by
   unfold Qpn
   rw[List.all_eq_true]
   intro t ht
   obtain⟨q,hq,rfl⟩:=List.mem_map.1 ht
   obtain⟨h1,hi,hk,e2⟩:=Q7e (bs:=bs) hl (List.mem_range.1 hq)
   rw[e2]
   exact e _ _ hi hk
  rw[grR,this,if_pos rfl]
 have hsu:∀i k (hi:i<bs.length) (hk:k<bs.length),∃hq:i*bs.length+k<la.length,(List.range (i*bs.length+(k+1))).map (gT bs la)=(List.range (i*bs.length+k)).map (gT bs la)++[(la[i*bs.length+k],Qa5 bs[i] bs[k])]:=fun i k hi hk=>by
  have hq:i*bs.length+k<la.length:=by
   have:=Nat.mul_le_mul_right bs.length (show i+1<=bs.length from hi)
   rw[Nat.succ_mul]at this;omega
  refine⟨hq,?_⟩
  rw[<-Nat.add_assoc,List.range_succ,List.map_append,<-Qyx hi hk hq];rfl
 have hno:=Qaa8 (k:=3) hts (by omega) (by omega) (by simp[gTs];omega)
 have hnb:=Qvm (fun t ht=>(hts t ht).1)
 have hGl:(gTs bs la).length=bs.length*bs.length:=by simp[gTs]
 rw[hGl]at hnb
 have hpr:=Q1d h.pr h.k1 h.k hpl
 have hgt:(List.range (bs.length*bs.length)).map (gT bs la)=gTs bs la:=rfl
 refine Qf Qq Tryz.func32 rfl Qaae (by simp[c32]) fun C hP=> ?_;simp only[c32,Zo,Zg,Zm,Zc,Zf,Zl,Zh,Zs,Zi,Zb,Zk,Zn,Zu,Zq,Zr,Zz]
 simp+decide (disch:=try exact D0) only[go_sem]
 refine Qa hP hcf rfl rfl rfl ?_
 simp+decide (disch:=try exact D0) only[go_sem]
 refine Qce 9 900 4 95 (by omega) T0 ?_
 refine Qz (by repeat (first|exact Qn|exact Qi|exact Qj|exact Qk|exact Ql|apply Qh|apply Qm|apply Qt|apply Qx|apply Qy|apply Qg|apply Qr)) [(6,7),(9,12),(19,57)] [56,57,900] (fun q J hp=>∃i,q=bs.length-i/\i<=bs.length/\(∀j k (hj:j<bs.length) (hk:k<bs.length),j<i->Qaj (Qa5 bs[j] bs[k])=true)/\J 9= .ms 900 (i*bs.length)/\J 10= .int .i64 (i:Nat)/\hp 5=some ⟨3,24,[PV.mat bs.length bs.length la],false⟩/\hp 900=some ⟨4,95,((List.range (i*bs.length)).map (gT bs la)).map PV.term,false⟩) bs.length ?_ ?_
 ·refine⟨0,rfl,by omega,by omega,?_⟩
  simp+decide (disch:=try exact D0) only[go_sem]
  simp
 rintro _ J h' ⟨i,rfl,hi,hpos,j9,j10,b5,b9⟩
 simp+decide (disch:=try exact D2 j10 b5) only[go_sem,j10,b5]
 refine Qb (fun hg=> ?_) (fun hg=> ?_)
 ·have hi':i<bs.length:=by omega
  simp+decide (disch:=try exact D1 j10) only[go_sem,j10]
  refine Qz (by repeat (first|exact Qn|exact Qi|exact Qj|exact Qk|exact Ql|apply Qh|apply Qm|apply Qt|apply Qx|apply Qy|apply Qg|apply Qr)) [(6,7),(9,9),(11,12),(25,57)] [56,57,900] (fun q J2 hp=>∃k,q=bs.length-k/\k<=bs.length/\(∀j (hj:j<bs.length),j<k->Qaj (Qa5 bs[i] bs[j])=true)/\J2 9= .ms 900 (i*bs.length+k)/\J2 11= .int .i64 (k:Nat)/\hp 5=some ⟨3,24,[PV.mat bs.length bs.length la],false⟩/\hp 900=some ⟨4,95,((List.range (i*bs.length+k)).map (gT bs la)).map PV.term,false⟩) bs.length ?_ ?_
  ·refine⟨0,rfl,by omega,by omega,?_⟩
   simp+decide (disch:=try exact D4 j9 j10 b5 b9) only[go_sem,j9,j10,b5,b9]
   try simp
  rintro _ J2 h2 ⟨k,rfl,hk,hpk,g9,g11,c5,c9⟩
  simp+decide (disch:=first|omega|rfl|(simp+decide only[go_sem,g11,c5]<;>rfl)|fail) only[go_sem,g11,c5]
  refine Qb (fun hg2=> ?_) (fun hg2=> ?_)
  ·have hk':k<bs.length:=by omega
   obtain⟨hq,hst⟩:=hsu i k hi' hk'
   have m1:=hb _ (List.getElem_mem hi')
   have m2:=hb _ (List.getElem_mem hk')
   have hmu:=Qsp (MB.ofOk m1) (MB.ofOk m2) (by omega)
   rw[Qqy (MB.ofOk m1) (MB.ofOk m2) (Qdg m1) (Qdg m2)]at hmu
   have l1:=(MB.ofOk m1).len
   have l2:=(MB.ofOk m2).len
   have hfi:=Qhz (a:=Qa5 bs[i] bs[k]) (by have:=Qth bs[i] bs[k];omega)
   have hbi:=hbad i k hi' hk'
   have hadd:Qaj (Qa5 bs[i] bs[k])=true->∀j (hj:j<bs.length),j<k+1->Qaj (Qa5 bs[i] bs[j])=true:=fun e j hj hjk=>by
    by_cases e2:j=k
    ·subst e2;exact e
    ·exact hpk j hj (by omega)
   have hTl:((List.range (i*bs.length+k)).map (gT bs la)).length=i*bs.length+k:=by simp
   generalize(List.range (i*bs.length+k)).map (gT bs la)=T at *
   generalize hx1:bs[i]=x1 at *
   generalize hx2:bs[k]=x2 at *
   generalize Qa5 x1 x2=y at *
   generalize hc:la[i*bs.length+k]=c at *
   simp+decide (disch:=first|omega|rfl|(simp+decide only[go_sem,g9,j10,g11,c5,c9,hx1,hx2]<;>rfl)|fail) only[go_sem,g9,j10,g11,c5,c9,hx1,hx2]
   refine Qa hP hmu rfl rfl rfl ?_
   simp+decide (disch:=first|omega|rfl|(simp+decide only[go_sem,g9,j10,g11,c5,c9]<;>rfl)|fail) only[go_sem,g9,j10,g11,c5,c9]
   refine Qa hP hfi rfl rfl rfl ?_
   cases hy:Qaj y
   ·simp+decide (disch:=try exact D0) only[go_sem]
    exact Qd8 (r:=grR p bs la) (hbi hy) rfl rfl (Qab _) (Qab _)
   simp+decide (disch:=first|omega|rfl|(simp+decide only[go_sem,g9,j10,g11,c5,c9,hx1,hx2,hc]<;>rfl)|fail) only[go_sem,g9,j10,g11,c5,c9,hx1,hx2,hc]
   rw[Qaf (f:=PV.term) (y:=(c,y)) (xs:=T) (ty':=95) (fz:=false) (T1 c9) Tr0 (by omega) hTl.symm (by omega) (by omega)]
   simp+decide (disch:=try exact D1 g11) only[go_sem,g11]
   refine Qo (bs.length-(k+1)) (by omega) ⟨k+1,rfl,by omega,hadd hy,?_⟩
   rw[hst]
   simp+decide (disch:=first|omega|rfl|(simp+decide only[go_sem,j10,c5]<;>rfl)|fail) only[go_sem,j10,c5]
   rfl
  ·obtain rfl:k=bs.length:=by omega
   simp (disch:=decide) only[Qa3,Qbg,Qhq]
   simp+decide (disch:=try exact D1 j10) only[go_sem,j10]
   refine Qo (bs.length-(i+1)) (by omega) ⟨i+1,rfl,by omega,fun j k hj hk hji=> ?_,?_⟩
   ·by_cases e:j=i
    ·subst e;exact hpk k hk hk
    ·exact hpos j k hj hk (by omega)
   rw[Nat.succ_mul]
   simp+decide (disch:=first|omega|rfl|(simp+decide only[go_sem,g9,c5,c9]<;>rfl)|fail) only[go_sem,g9,c5,c9]
 ·obtain rfl:i=bs.length:=by omega
  have hr:=hall fun j k hj hk=>hpos j k hj hk hj
  rw[hgt]at b9
  generalize gTs bs la=G at *
  have hsn2:List.take (bs.length*bs.length) (G.map PV.term)=G.map PV.term:=List.take_of_length_le (by rw[List.length_map];omega)
  simp+decide (disch:=try exact D1 j9) only[go_sem,j9]
  refine Qa hP hpr rfl rfl rfl ?_
  cases h3:Qcx p
  ·simp+decide (disch:=try exact D0) only[go_sem]
   exact Qd8 (r:=grR p bs la) (by rw[hr,h3];rfl) rfl rfl (Qab _) (Qab _)
  obtain⟨q1,q2⟩:=Q1h h.pr h.f h3
  have q0:=(Qqm h.pr h3).1
  rw[h3]at hr
  rw[q0]
  have hpl20:p.length<=20:=by
   have hf:=h.f
   simp only[Qfg,Bool.and_eq_true,decide_eq_true_eq]at hf;exact hf.1
  have hPl:(p.map RTm.tm).length=p.length:=List.length_map _
  have hq1:PB 200 2097152 (p.map RTm.tm):=q1.mono (by omega) (by omega)
  have hq2:PB 200 2097152 (Qia G):=hnb.1.mono (by omega) (by omega)
  have hnl:=hnb.2.1
  clear hbad hall hts hsu hpr
  have heq:=Qpx hq2 hq1 (by omega) (by omega) (by omega) (by omega)
  simp+decide (disch:=try exact D2 j9 b9) only[go_sem,j9,b9]
  refine Qdr hP hno (Ur2 hsn2 b9) rfl ?_
  generalize Qia G=V at *
  generalize p.map RTm.tm=P at *
  simp+decide (disch:=try exact E0) only[go_sem,Qac,List.contains_cons,List.contains_nil,List.flatMap_cons,List.flatMap_nil,List.append_nil]
  refine Qa hP heq rfl rfl rfl ?_
  simp+decide (disch:=try exact D0) only[go_sem]
  have hdc:decide (P=V)=decide (V=P):=decide_eq_decide.2 ⟨Eq.symm,Eq.symm⟩
  exact Qd8 (r:=grR p bs la) (by rw[hr,hdc];rfl) rfl rfl (Qab _) (Qab _)
def c6:SFn:=⟨46,[.t 6],Zr (Zo (.box 5 3 24 (.t 2))<|
 Zo (.mv 6 (.c (.bool false))) .nil)<| .seq (Zr (Zm 11 1<|
 Zh 12 3 5<|
 Zq 13 false 28 [.t 11,.t 12]<|
 Zu 14 13<|
 Zm 15 14<|
 Zg 15 false (.mv 16 (.t 0))<|
 Zg 15 false (.call (some 17) false (.c (.fn 18 [] [])) [.t 16])<|
 Zg 15 false (.un 18 .not (.t 17))<|
 Zo (.pick 19 (.t 15) (.c (.bool true)) (.t 18)) .nil)<| .cond (.t 19) (Zr (Zq 20 false 21 []<|
 Zm 6 20 .nil) .ret) .skip)<|Zr (Zm 22 0<|
 Zm 23 1<|
 Zh 24 3 5<|
 Zq 25 false 31 [.t 22,.t 23,.t 24]<|
 Zm 21 25<|
 Zo (.ext 26 (.t 21) 0)<|
 Zo (.ext 27 (.t 21) 1)<|
 Zm 7 26<|
 Zm 8 27 .nil)<|Zr (Zm 29 0<|
 Zm 30 1<|
 Zh 31 3 5<|
 Zq 32 false 32 [.t 29,.t 30,.t 31]<|
 Zm 28 32<|
 Zo (.ext 33 (.t 28) 0)<|
 Zo (.ext 34 (.t 28) 1)<|
 Zm 9 33<|
 Zm 10 34 .nil)<|Zr (Zm 35 7<|
 Zm 36 9<|
 Zo (.bin 37 .eql true (.t 35) (.t 36))<|
 Zm 38 37<|
 Zg 38 true (.mv 39 (.t 8))<|
 Zg 38 true (.mv 40 (.t 10))<|
 Zg 38 true (.bin 41 .eql false (.t 39) (.t 40))<|
 Zo (.pick 42 (.t 38) (.t 41) (.c (.bool false)))<|
 Zm 43 42<|
 Zg 43 true (.call (some 44) false (.c (.fn 21 [] [])) [])<|
 Zo (.pick 45 (.t 43) (.t 44) (.c (.bool false)))<|
 Zm 6 45 .nil) .ret⟩
theorem Qasu:Qe Tryz.prog Tryz.f6=some c6:=by kernel_rfl
theorem Q3s{p:List RTm}{bs:List (List Int)}{r c e:Int}{l:List RQ}(he:e≠0)(hcf:Qd Tryz.prog 90 [PV.monos bs,PV.rmat r c l] (· = .int .i64 e)):Qd Tryz.prog 31 [PV.rpoly p,PV.monos bs,PV.rmat r c l] (· = .tup [.bool false,.int .i64 e]):=by
 refine Qf Qq Tryz.func31 rfl Qaad (by simp[c31]) fun C hP=> ?_;simp only[c31,Zo,Zg,Zm,Zc,Zf,Zl,Zh,Zs,Zi,Zb,Zk,Zn,Zu,Zq,Zr,Zz]
 simp+decide (disch:=try exact D0) only[go_sem]
 refine Qa hP hcf rfl rfl rfl ?_
 simp+decide (disch:=try exact D0) only[go_sem]
 refine Qb (fun h0=> ?_) (fun h0=>absurd he h0)
 simp+decide (disch:=try exact D0) only[go_sem]
 exact Qd8 (r:= .tup [.bool false,.int .i64 e]) rfl rfl rfl (Qab _) (Qab _)
theorem Q2h{p:List RTm}{bs:List (List Int)}{r c e:Int}{l:List RQ}(he:e≠0)(hcf:Qd Tryz.prog 92 [PV.monos bs,PV.rmat r c l] (· = .int .i64 e)):Qd Tryz.prog 32 [PV.rpoly p,PV.monos bs,PV.rmat r c l] (· = .tup [.bool false,.int .i64 e]):=by
 refine Qf Qq Tryz.func32 rfl Qaae (by simp[c32]) fun C hP=> ?_;simp only[c32,Zo,Zg,Zm,Zc,Zf,Zl,Zh,Zs,Zi,Zb,Zk,Zn,Zu,Zq,Zr,Zz]
 simp+decide (disch:=try exact D0) only[go_sem]
 refine Qa hP hcf rfl rfl rfl ?_
 simp+decide (disch:=try exact D0) only[go_sem]
 refine Qb (fun h0=> ?_) (fun h0=>absurd he h0)
 simp+decide (disch:=try exact D0) only[go_sem]
 exact Qd8 (r:= .tup [.bool false,.int .i64 e]) rfl rfl rfl (Qab _) (Qab _)
theorem Qarj{p:List RTm}{bs:List (List Int)}{r c:Int}{l:List RQ}{k:Nat}(hm:mxB bs l=true)(hl:Qdy l)(hp:∀t∈p,RB k t)(hk1:1<=k)(hk:k<2^36)(hf:Qfg p=true):
  ∃(b:Bool)(e:Int),Qd Tryz.prog 31 [PV.rpoly p,PV.monos bs,PV.rmat r c l] (· = .tup [.bool b,.int .i64 e])/\Qd Tryz.prog 32 [PV.rpoly p,PV.monos bs,PV.rmat r c l] (· = .tup [.bool b,.int .i64 e]):=by
 simp only[mxB,Bool.and_eq_true,decide_eq_true_eq,List.all_eq_true]at hm
 obtain⟨h1,h2,h3,h4⟩:=hm
 have hb:∀b∈bs,b.length<2^40:=fun b hb=>by have:=h3 b hb;omega
 have c1:=Qpj (r:=r) (c:=c) (show bs.length<2^40 by omega) hb hl
 have c2:=Qag1 (r:=r) (c:=c) (show bs.length<2^40 by omega) hb hl
 by_cases he:cfE bs r c l=0
 ·rw [he]at c1 c2
  have hok:Qcs r c l=true/\bs.all Qaj=true/\r=bs.length/\c=bs.length/\Qhl (Qai (l.map rqV) bs.length) bs.length:=by
   unfold cfE at he
   split at he
   ·rename_i g1
    split at he
    ·rename_i g2
     split at he
     ·rename_i g3;exact⟨g1,g2,g3⟩
     ·cases he
    ·cases he
   ·cases he
  obtain⟨g1,g2,rfl,rfl,g5⟩:=hok
  obtain⟨R,m,la,e1,e2,hR,hm,hla,hlen,hmat⟩:=Qwp hl g1
  have hRb:R=bs.length:=by omega
  have hmb:m=bs.length:=by omega
  subst hRb
  subst hmb
  rw[<-hla]at g5
  rw[hmat]at c1 c2⊢
  have hr5:bs.length<=5:=by
   have e3:la.length<=25:=by rw[hla,List.length_map];exact h2
   rw[hlen]at e3
   have:=Qamz e3
   omega
  have sl:∀q∈la,rs q<=3:=fun q hq=>by
   rw[hla]at hq
   obtain⟨x,hx,rfl⟩:=List.mem_map.1 hq
   have hr:=hl.2 x hx
   have hs:=h4 x hx
   simp only[shQ,Bool.and_eq_true,decide_eq_true_eq]at hs
   have:=(show Raw 2 x.n x.a x.d from⟨hr.la,hr.ld,hs.1,hs.2,by omega⟩).rs
   show rs (rv x.n x.a x.d)<=3
   omega
  have hG:Q2g p bs la k:=⟨List.all_eq_true.1 g2,hr5,hlen,sl,hp,hk1,hk,hf⟩
  have f1:=Q7f hG c1
  have f2:=Q3r hG c2
  unfold grR at f1 f2
  split at f1
  ·rename_i hp
   rw[if_pos hp]at f2
   exact⟨_,_,f1,f2⟩
  ·rename_i hp
   rw[if_neg hp]at f2
   exact⟨_,_,f1,f2⟩
 ·exact⟨false,_,Q3s he c1,Q2h he c2⟩
theorem Qrr{p:List RTm}{bs:List (List Int)}{r c:Int}{l:List RQ}{k:Nat}(hbl:bs.length<2^40)(hb:∀b∈bs,b.length<2^40)(hl:Qdy l)(hp:∀t∈p,RB k t)(hpl:p.length<2^40)(hk1:1<=k)(hk:k<2^36):Qd Tryz.prog 6 [PV.rpoly p,PV.monos bs,PV.rmat r c l] (· = .bool true):=by
 have h1:=Q67 (r:=r) (c:=c) hbl hb hl
 have h2:=Qaal hp hk1 hk hpl
 refine Qf Qq Tryz.func6 rfl Qasu (by simp[c6]) fun C hP=> ?_;simp only[c6,Zo,Zg,Zm,Zc,Zf,Zl,Zh,Zs,Zi,Zb,Zk,Zn,Zu,Zq,Zr,Zz]
 simp+decide (disch:=try exact D0) only[go_sem]
 refine Qa hP h1 rfl rfl rfl ?_
 cases hm:mxB bs l
 ·simp+decide (disch:=try exact D0) only[go_sem]
  refine Qa hP Qwr rfl rfl rfl ?_
  simp+decide (disch:=try exact D0) only[go_sem]
  exact Qc rfl rfl
 simp+decide (disch:=try exact D0) only[go_sem]
 refine Qa hP h2 rfl rfl rfl ?_
 cases hf:Qfg p
 ·simp+decide (disch:=try exact D0) only[go_sem]
  refine Qa hP Qwr rfl rfl rfl ?_
  simp+decide (disch:=try exact D0) only[go_sem]
  exact Qc rfl rfl
 obtain⟨b,e,f1,f2⟩:=Qarj (r:=r) (c:=c) hm hl hp hk1 hk hf
 simp+decide (disch:=try exact D0) only[go_sem]
 refine Qa hP f1 rfl rfl rfl ?_
 simp+decide (disch:=try exact D0) only[go_sem]
 have hbb:(b==b)=true:=by cases b<;>rfl
 refine Qa hP f2 rfl rfl rfl ?_
 simp+decide (disch:=try exact D1 hbb) only[go_sem,hbb]
 refine Qa hP Qwr rfl rfl rfl ?_
 simp+decide (disch:=try exact D0) only[go_sem]
 exact Qc rfl rfl
open Go Go.FW Go.ChangeShapes Go.WideShapes Go.ChangeAt Go.RowKit
theorem Qto{p:List RTm}{bs:List (List Int)}{r c:Int}{l:List RQ}(hp:Q6q p)(hb:Q2f bs)(h:I64' r/\I64' c/\Qdy l):Qd Tryz.prog 6 [PV.rpoly p,PV.monos bs,PV.rmat r c l] (· = .bool true):=
 Qrr (k:=1048576) (by have:=hb.1;omega) (fun b h=>by have:=(hb.2 b h).1;omega) h.2.2 (fun t ht=>(hp.2 t ht).1) (by have:=hp.1;omega) (by omega) (by omega)
theorem Qn0(H:Type)(enc:TypeId×Value->H)(W:World)(base:Nat)(args:Array Value)(ds gs:List (DataW H))(before:List MemPlace)
  (Qcu:∀(j:Nat) t v,Tryz.f6.params[j]? =some t->args[j]? =some v->Value.okWide Tryz.prog W .any base t v)
  (hW:DataW.Whole enc Tryz.prog Tryz.f6.params.toList Rows.squaresGramsSpec.vars false W args.toList ds gs before) (hk:Rows.uptoSmall H (ds++gs)=true):
  Calls Tryz.prog 6 args W fun e W'=>∃v,e= .returned v/\Rows.squaresGramsSpec.post enc Tryz.prog Tryz.f6 false true false false W args v W':=by
 have hW':=hW
 obtain⟨p,q,hA0,hV,rfl,hfz,hnd⟩:=hW
 have hA:DataW.TrodAll enc Tryz.prog W 0 (fun _=>true) true Tryz.f6.params.toList args.toList ds p:=hA0
 rw[Tryz.params6]at hA Qcu
 obtain⟨v0,vs0,e0,ds0,p0,q0,hargs,rfl,rfl,h0,r0⟩:=trodAll_cons hA
 obtain⟨v1,vs1,e1,ds1,p1,q1,rfl,rfl,rfl,h1,r1⟩:=trodAll_cons r0
 obtain⟨v2,vs2,e2,ds2,p2,q2,rfl,rfl,rfl,h2,r2⟩:=trodAll_cons r1
 obtain⟨rfl,rfl,rfl⟩:=trodAll_nil r2
 obtain rfl:args= #[v0,v1,v2]:=by cases args;simp_all
 obtain⟨rfl,rfl⟩:=trodVars_none hV
 have hb:=Qaez hk
 simp only[List.append_nil,Rows.uptoBulkAll]at hb
 obtain⟨a0,g0,b0⟩:=Qae0 (Qcu 0 _ v0 rfl rfl) h0 (by omega)
 obtain⟨a1,g1,b1⟩:=Qabc (Qcu 1 _ v1 rfl rfl) h1 (by omega)
 obtain⟨r2,c2,l2,g2,b2⟩:=Q6r (Qcu 2 _ v2 rfl rfl) h2 (by omega)
 exact Q98 hW' rfl (by kernel_rfl) (by kernel_rfl) rfl (Qto b0 b1 b2) rfl
  (Qae1 (vs:=[v0,v1,v2]) (by
   intro i x hx v hv
   match i,hx,hv with
   |0,hx,hv=>simp at hx hv;subst hx hv;exact g0
   |1,hx,hv=>simp at hx hv;subst hx hv;exact g1
   |2,hx,hv=>simp at hx hv;subst hx hv;exact g2
   |i+3,hx,hv=>simp at hx) rfl)
theorem Qpz(os:Os)(started:os.Started)(H:Type)(enc:TypeId×Value->H)(F:Stop.Interp):
  ReturnsInHanded {} Tryz.checked os 6 .any ((Rows.OpenSpec.upto Rows.squaresGramsSpec).pre6 enc Tryz.prog Tryz.f6 Rows.squaresGramsUptoRow.domain false) (((Rows.OpenSpec.upto Rows.squaresGramsSpec).at F).post enc Tryz.prog Tryz.f6 false true false false):=by
 refine returnsInHanded_of_cond (C:=Tryz.checked) (s:=Rows.OpenSpec.upto Rows.squaresGramsSpec) (k:=Rows.uptoSmall) rfl own started (by kernel_rfl) Tryz.func6
  (OpenSpec.witness (enc:=enc) (C:=Tryz.checked) (s:=Rows.OpenSpec.upto Rows.squaresGramsSpec) (k:=Rows.uptoSmall) rfl false ⟨#[],#[.slice none 0 0,.slice none 0 0,.agg #[.int .i64 0,.int .i64 0,.slice none 0 0]],[]⟩ 8 (by kernel_rfl) (by kernel_rfl) (by kernel_rfl)
   (x:=([.nil,.nil,.agg [.lit (.int .i64 0),.lit (.int .i64 0),.nil]],[],[])) (by kernel_rfl) rfl (by kernel_rfl)) ?_
 intro W base args ds gs before Qcu hW _ hk _
 exact Qn0 H enc W base args ds gs before Qcu hW hk
theorem squaresGrams_proved:Rows.SquaresGramsUptoSaid:=
 OpenClaim.holds_of_cond 6 Tryz.f6 rfl rfl rfl rfl rfl rfl rfl ⟨rfl,rfl,rfl,rfl,rfl⟩ rfl rfl rfl rfl rfl (by kernel_rfl) Tryz.func6 (by kernel_rfl)
  (of_decide_eq_true (by kernel_rfl)) (by unfold Func.isWrapper;first|(rw[if_pos (by decide+kernel)];kernel_rfl)|(rw[if_neg (by decide+kernel)];exact⟨rfl,rfl⟩))
  (fun os started H enc _ F=>Qpz os started H enc F)
end Go.Proofs.YtkoclfmjlolkhaaGreat
