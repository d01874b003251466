/- SquaresSums: Sum and Check of lists of squares -/
import Derived.Test.YtkoclfmjlolkhaaGreatSquaresSumsPart16
set_option linter.unusedSimpArgs false
set_option linter.unusedVariables false
set_option linter.unnecessarySimpa false
set_option maxRecDepth 100000
namespace Go.Proofs.YtkoclfmjlolkhaaGreat
open Go Go.FW
theorem Qahg(v:Nat):varM v=Qc4 v 1:=rfl
theorem Qsw{v:Nat}(hv:v<64):Qd Tryz.prog 67 [.int .i64 v] (· =PV.poly (Qdx v)):=by
 have hset:(List.replicate (v+1) (0:Int)).set v 1=Qc4 v 1:=Q1h v 1 rfl
 have hlr:v<(List.replicate (v+1) (0:Int)).length:=by simp
 have hone:=Qqq
 have hxl:(Qc4 v 1).length=v+1:=by simp[Qc4]
 have hadd:=(Qsr (p:=[]) (m:=Qc4 v 1) (K:=1) (E:=1) (k:=4) (PB.nil _ _) trivial (by simp[NZ]) (Qbs (q:=((1:Int):Rat)) (k:=4) (by rw[show((1:Int):Rat)=1 from rfl];omega)) (by omega) (Q4a hv) (Qxv (by omega)) (by omega) (by omega) (by simp)).le (args':=[.nilS,PV.rat ((1:Int):Rat),PV.mono (Qc4 v 1)]) ⟨trivial,Qaa _,Qaa _,trivial⟩
 rw[Qcb]at hadd
 have e:Qiv [] ((1:Int):Rat) (Qc4 v 1)=Qdx v:=by
  rw[Qiv,Qh1,if_neg (by decide),Qdx,if_neg (by omega),Int.toNat_natCast,Qahg];rfl
 rw[e]at hadd
 refine Qf Qp Tryz.func67 rfl Qap1 (by simp[c67]) fun C hP=> ?_;simp only[c67,Zo,Zg,Zm,Zc,Zf,Zl,Zh,Zs,Zi,Zb,Zk,Zn,Zu,Zq,Zr,Zz]
 simp+decide (disch:=try exact D0) only[go_sem]
 refine Qaj (fun h=>by omega) (fun _=> ?_)
 simp+decide (disch:=try exact D0) only[go_sem]
 refine Qb (fun h=>by omega) (fun _=> ?_)
 simp+decide (disch:=try exact D1 hset) only[go_sem,hset]
 refine Qa hP (Qiz (x:=1) (by omega) (by omega)) rfl rfl rfl ?_
 generalize((1:Int):Rat)=c at *
 simp+decide (disch:=try exact D0) only[go_sem]
 refine Qdo hP hadd (by simp+decide (disch:=try exact E0) only[go_sem,Qab,List.contains_cons,List.contains_nil,List.flatMap_cons,List.flatMap_nil,List.append_nil];simp[List.take_of_length_le,hxl]) rfl ?_
 simp+decide (disch:=try exact D0) only[go_sem]
 exact Qc rfl rfl
def c21:SFn:=⟨73,[.t 0],Zr (Zo (.mv 0 (.c (.bool false))) .nil)<|Zr (Zq 10 false 67 [.c (Zz 0)]<|
 Zq 11 false 67 [.c (Zz 1)]<|
 Zm 1 10<|
 Zm 2 11 .nil)<|Zr (Zm 12 1<|
 Zm 13 2<|
 Zq 14 false 68 [.t 12,.t 13]<|
 Zm 3 14 .nil)<|Zr (Zm 16 3<|
 Zm 17 3<|
 Zq 18 false 69 [.t 16,.t 17]<|
 Zq 19 false 22 [.t 18]<|
 Zm 15 19<|
 Zo (.ext 20 (.t 15) 0)<|
 Zo (.ext 21 (.t 15) 1)<|
 Zo (.ext 22 (.t 15) 2)<|
 Zm 4 20<|
 Zm 5 21<|
 Zm 6 22 .nil)<|Zr (Zm 24 1<|
 Zm 25 1<|
 Zq 26 false 69 [.t 24,.t 25]<|
 Zq 27 false 50 [.c (Zz 1)]<|
 Zq 28 false 70 [.t 27]<|
 Zq 29 false 68 [.t 26,.t 28]<|
 Zq 30 false 22 [.t 29]<|
 Zm 23 30<|
 Zo (.ext 31 (.t 23) 0)<|
 Zo (.ext 32 (.t 23) 1)<|
 Zo (.ext 33 (.t 23) 2)<|
 Zm 7 31<|
 Zm 8 32<|
 Zm 9 33 .nil)<| .seq (Zr (Zm 34 6<|
 Zk 35 .neq 34 0<|
 Zm 36 35<|
 Zg 36 false (.mv 37 (.t 9))<|
 Zg 36 false (.bin 38 .neq false (.t 37) (.c (Zz 17)))<|
 Zo (.pick 39 (.t 36) (.c (.bool true)) (.t 38))<|
 Zm 40 39<|
 Zg 40 false (.mv 41 (.t 4))<|
 Zg 40 false (.len 42 (.t 41))<|
 Zg 40 false (.bin 43 .neq false (.t 42) (.c (Zz 1)))<|
 Zo (.pick 44 (.t 40) (.c (.bool true)) (.t 43))<|
 Zm 45 44<|
 Zg 45 false (.mv 46 (.t 8))<|
 Zg 45 false (.len 47 (.t 46))<|
 Zg 45 false (.bin 48 .neq false (.t 47) (.c (Zz 1)))<|
 Zo (.pick 49 (.t 45) (.c (.bool true)) (.t 48)) .nil)<| .cond (.t 49) (Zr (Zo (.mv 0 (.c (.bool false))) .nil) .ret) .skip)<|Zr (Zm 50 4<|
 Zo (.idx 51 4 (.t 50) (.c (Zz 0)))<|
 Zf 52 0 51<|
 Zh 53 3 52<|
 Zq 54 true 50 [.c (Zz 1)]<|
 Zq 55 true 49 [.t 53,.t 54]<|
 Zm 56 55<|
 Zg 56 true (.mv 57 (.t 4))<|
 Zg 56 true (.idx 58 4 (.t 57) (.c (Zz 0)))<|
 Zg 56 true (.fld 59 3 (.t 58))<|
 Zg 56 true (.ld 60 1 false (.t 59))<|
 Zg 56 true (.mv 61 (.t 3))<|
 Zg 56 true (.call (some 62) true (.c (.fn 40 [] [])) [.t 60,.t 61])<|
 Zg 56 true (.mv 63 (.t 62))<|
 Zg 63 false (.mv 64 (.t 4))<|
 Zg 63 false (.idx 65 4 (.t 64) (.c (Zz 0)))<|
 Zg 63 false (.fld 66 3 (.t 65))<|
 Zg 63 false (.ld 67 1 false (.t 66))<|
 Zg 63 false (.mv 68 (.t 3))<|
 Zg 63 false (.call (some 69) true (.c (.fn 71 [] [])) [.t 68])<|
 Zg 63 false (.call (some 70) true (.c (.fn 40 [] [])) [.t 67,.t 69])<|
 Zg 56 true (.pick 71 (.t 63) (.c (.bool true)) (.t 70))<|
 Zo (.pick 72 (.t 56) (.t 71) (.c (.bool false)))<|
 Zm 0 72 .nil) .ret⟩
theorem Qarn:Qe Tryz.prog Tryz.f21=some c21:=by kernel_rfl
def aD:List Tm:=psub (Qdx 0) (Qdx 1)
def aP1:List Tm:=Qdl aD aD
def aP2:List Tm:=psub (Qdl (Qdx 0) (Qdx 0)) (Qhn 1)
def aB1:List (List Int):=[[1],[0,1],[]]
def aB2:List (List Int):=[[1],[]]
def aG1:List Rat:=[1,-1,0,-1,1,0,0,0,0]
def aG2:List Rat:=[1,0,0,-1]
theorem a_b1:bsP aP1=aB1:=by decide+kernel
theorem a_b2:bsP aP2=aB2:=by decide+kernel
theorem a_g1:Qj0 aP1 aB1=aG1:=by decide+kernel
theorem a_g2:Qj0 aP2 aB2=aG2:=by decide+kernel
theorem Qaro:((Qam 3 (Qai aG1 3) (2*3)).2.all fun f=>decide (0<=f.1))=true:=by decide+kernel
theorem Qasw:(Qam 3 (Qai aG1 3) (2*3)).2.map (fgS aB1)=[(1,aD)]:=by decide+kernel
theorem Qarp:((Qam 2 (Qai aG2 2) (2*2)).2.all fun f=>decide (0<=f.1))=false:=by decide+kernel
theorem a_w2:(Qam 2 (Qai aG2 2) (2*2)).2.map (·.1)=[1,-1]:=by decide+kernel
theorem a_f2:Qcd 2 (Qam 2 (Qai aG2 2) (2*2)).2=[1,0,0,1]:=by decide+kernel
theorem a_l2:(Qam 2 (Qai aG2 2) (2*2)).2.length=2:=by decide+kernel
theorem a_c1:cfE aB1 3 3 (aG1.map qR)=0:=by decide+kernel
theorem a_c2:cfE aB2 2 2 (aG2.map qR)=0:=by decide+kernel
theorem a_s1:Qi1 (Qai aG1 3) 3:=by decide+kernel
theorem a_s2:Qi1 (Qai aG2 2) 2:=by decide+kernel
theorem Qasx:Qcq (aP1.map toR)=true:=by decide+kernel
theorem Qasy:Qcq (aP2.map toR)=true:=by decide+kernel
theorem Qrb{p:List Tm}(hb:PB 10 10 p)(hl:p.length<=10)(h:Qcq (p.map toR)=true):Qd Tryz.prog 72 [PV.poly p] (· = .bool true):=by
 have h1:=Qnj (l:=p.map toR) (k:=10) (fun t ht=>by
  obtain⟨s,hs,rfl⟩:=List.mem_map.1 ht
  have:=(hb s hs).c
  exact Q9q (by omega) (by have:=(hb s hs).m.len;omega)) (by omega) (by omega) (by rw[List.length_map];omega)
 rwa[Q00,h]at h1
theorem Q16{l:List Rat}(h:∀q∈l,rs q<=3)(hl:l.length<=25):Qhg (l.map qR):=⟨by rw[List.length_map];omega,RRk.of fun q hq=>by have:=h q hq;omega⟩
theorem Qasz:Qd Tryz.prog 29 [PV.monos aB1,PV.mat 3 3 aG1] (· = .tup [PV.sqs [(1,aD)],.int .i64 0]):=by
 have hs:∀q∈aG1,rs q<=3:=by decide+kernel
 have c:=Qvn (bs:=aB1) (r:=3) (c:=3) (by decide) (by decide) (Q16 hs (by decide))
 rw[a_c1]at c
 have hm:PV.mat 3 3 aG1=PV.rmat 3 3 (aG1.map qR):=Ql5 3 3 aG1
 rw[<-hm]at c
 obtain⟨fs,hfs,d1,_,d3,d4⟩:=Q1w (R:=3) (la:=aG1) (by decide) (by omega) hs a_s1
 have h:=Qoc (K:=50421) (R:=3) (bs:=aB1) ⟨rfl,by decide,by omega,by omega,d4,by omega,by omega⟩ c d1
 rw[hfs,fgR,if_pos Qaro,Qasw]at h
 exact h
theorem Qaay:Qd Tryz.prog 48 [PV.mat 2 2 aG2] (· = .tup [PV.rats [1,-1],PV.mat 2 2 [1,0,0,1],.int .i64 0])/\Qd Tryz.prog 29 [PV.monos aB2,PV.mat 2 2 aG2] (· = .tup [PV.sqs [],.int .i64 17]):=by
 have hs:∀q∈aG2,rs q<=3:=by decide+kernel
 have c:=Qvn (bs:=aB2) (r:=2) (c:=2) (by decide) (by decide) (Q16 hs (by decide))
 rw[a_c2]at c
 have hm:PV.mat 2 2 aG2=PV.rmat 2 2 (aG2.map qR):=Ql5 2 2 aG2
 rw[<-hm]at c
 obtain⟨fs,hfs,d1,_,d3,d4⟩:=Q1w (R:=2) (la:=aG2) (by decide) (by omega) hs a_s2
 have h:=Qoc (K:=50421) (R:=2) (bs:=aB2) ⟨rfl,by decide,by omega,by omega,d4,by omega,by omega⟩ c d1
 rw[hfs,fgR,if_neg (by rw[Qarp];decide)]at h
 rw[hfs,Qtj,a_w2,a_l2,a_f2]at d1
 exact⟨d1,h⟩
theorem Qanp:Q14 (Qbj 2 (Qg4 (Qai [1,0,0,1] 2) (Qfq [0,1]) 2) 2) 2 2= .tup [PV.rats [0,1],.int .i64 0]:=by
 have h0:∀r,r<2->(Qbj 2 (Qg4 (Qai [1,0,0,1] 2) (Qfq [0,1]) 2) 2).piv.length<=r->(Qbj 2 (Qg4 (Qai [1,0,0,1] 2) (Qfq [0,1]) 2) 2).M r 2=0:=by
  have e:(Qbj 2 (Qg4 (Qai [1,0,0,1] 2) (Qfq [0,1]) 2) 2).piv.length=2:=by decide+kernel
  intro r hr h;omega
 rw[Q14,if_pos h0]
 have e:(List.range 2).map (Qpt (Qbj 2 (Qg4 (Qai [1,0,0,1] 2) (Qfq [0,1]) 2) 2).M (Qbj 2 (Qg4 (Qai [1,0,0,1] 2) (Qfq [0,1]) 2) 2).piv 2 (Qbj 2 (Qg4 (Qai [1,0,0,1] 2) (Qfq [0,1]) 2) 2).piv.length)=[0,1]:=by decide+kernel
 have key:∀f:Nat->Rat,(List.range 2).map f=[0,1]->Qac PV.rat f 2=[(0:Rat),1].map PV.rat:=fun f h=>by rw[<-h,List.map_map];rfl
 rw[key _ e]
theorem Qanq:Qd Tryz.prog 138 [PV.mat 2 2 [1,0,0,1],.int .i64 ((1:Nat):Int)] (· =PV.rats [0,1]):=by
 have hu:Qj1 2 1=[0,1]:=by decide+kernel
 have hs:∀q∈([1,0,0,1]:List Rat),rs q<=3:=by decide+kernel
 have hs2:∀q∈([0,1]:List Rat),rs q<=3:=by decide+kernel
 have hB:Q6h (3*3125) 2 3 2 (Qg4 (Qai [1,0,0,1] 2) (Qfq [0,1]) 2):=Qam5 (by omega) (fun r _ c _=>by
  unfold Qg4;split
  ·exact Qag3 (by omega) hs2 r
  ·exact Qlh (by omega) hs) (by omega) (.inl (by omega))
 have h:=Qano (R:=2) (m:=2) (l:=[1,0,0,1]) (b:=[0,1]) rfl rfl (by omega) (by omega) (by omega) (fun q hq=>by have:=hs q hq;omega) (fun q hq=>by have:=hs2 q hq;omega) (by omega) hB
 rw[Qanp,<-hu]at h
 rw[hu]at h
 exact Qahf (R:=2) (n:=2) (a:=1) (by omega) (by rw[hu];exact h)
theorem Qas0:Qd Tryz.prog 75 [PV.poly aP2,PV.monos aB2,PV.mat 2 2 aG2] (· =PV.rats [0]):=by
 have e:([(0:Rat),1].map (· /1))=[0,1]:=by decide+kernel
 have hsp:=Qaax (bs:=aB2) (x:=[0,1]) (by decide) (by decide) (by decide) (by decide) (by decide)
 rw[show Qg5 aB2 [0,1] (aB2.length-1)=[0]by decide+kernel]at hsp
 exact Q3h (a:=1) (m:=1) (x:=[0,1]) (c:=1) Qaay.1 (by decide) (by decide) (by decide+kernel) (by decide+kernel) (by decide+kernel) Qanq rfl (by omega) (by decide+kernel) rfl (by decide+kernel) (by rw[e];exact hsp)
theorem a_Q1:Qd Tryz.prog 22 [PV.poly aP1] (· = .tup [PV.sqs [(1,aD)],PV.rats [],.int .i64 0]):=by
 have hb:PB 10 10 aP1:=Qpu (by decide+kernel)
 have hF:=Qasz
 rw[<-a_g1,<-a_b1]at hF
 exact Qm1 (K:=10) (E:=10) hb (by omega) (by omega) (by omega) (by decide+kernel) (Qrb hb (by decide+kernel) Qasx) (by decide+kernel) (by rw[a_b1];decide) (by rw[a_b1]at hF ⊢;exact hF) (fun h=>by cases h) (fun _=>rfl)
theorem a_Q2:Qd Tryz.prog 22 [PV.poly aP2] (· = .tup [PV.sqs [],PV.rats [0],.int .i64 17]):=by
 have hb:PB 10 10 aP2:=Qpu (by decide+kernel)
 have hF:=Qaay.2
 have hN:=Qas0
 rw[<-a_g2]at hF hN
 exact Qm1 (K:=10) (E:=10) hb (by omega) (by omega) (by omega) (by decide+kernel) (Qrb hb (by decide+kernel) Qasy) (by decide+kernel) (by rw[a_b2];decide) (by rw[a_b2];exact hF) (fun _=>⟨rfl,by rw[a_b2];exact hN⟩) (fun h=>absurd rfl h)
def c8:SFn:=⟨48,[.t 4],Zr (Zo (.mv 4 (.c (.bool false))) .nil)<| .seq (Zr (Zm 9 1<|
 Zq 10 false 33 [.t 9]<|
 Zu 11 10<|
 Zm 12 11<|
 Zg 12 false (.mv 13 (.t 0))<|
 Zg 12 false (.call (some 14) false (.c (.fn 18 [] [])) [.t 13])<|
 Zg 12 false (.un 15 .not (.t 14))<|
 Zo (.pick 16 (.t 12) (.c (.bool true)) (.t 15)) .nil)<| .cond (.t 16) (Zr (Zq 17 false 21 []<|
 Zm 4 17 .nil) .ret) .skip)<|Zr (Zm 19 1<|
 Zq 20 false 36 [.t 19]<|
 Zm 18 20<|
 Zo (.ext 21 (.t 18) 0)<|
 Zo (.ext 22 (.t 18) 1)<|
 Zm 5 21<|
 Zm 6 22 .nil)<|Zr (Zm 24 1<|
 Zq 25 false 39 [.t 24]<|
 Zm 23 25<|
 Zo (.ext 26 (.t 23) 0)<|
 Zo (.ext 27 (.t 23) 1)<|
 Zm 7 26<|
 Zm 8 27 .nil)<|Zr (Zm 28 5<|
 Zm 29 7<|
 Zq 30 false 40 [.t 28,.t 29]<|
 Zm 31 30<|
 Zg 31 true (.mv 32 (.t 6))<|
 Zg 31 true (.mv 33 (.t 8))<|
 Zg 31 true (.bin 34 .eql false (.t 32) (.t 33))<|
 Zo (.pick 35 (.t 31) (.t 34) (.c (.bool false)))<|
 Zm 36 35<|
 Zg 36 true (.mv 37 (.t 0))<|
 Zg 36 true (.mv 38 (.t 1))<|
 Zg 36 true (.call (some 39) false (.c (.fn 41 [] [])) [.t 37,.t 38])<|
 Zg 36 true (.mv 40 (.t 0))<|
 Zg 36 true (.mv 41 (.t 1))<|
 Zg 36 true (.call (some 42) false (.c (.fn 42 [] [])) [.t 40,.t 41])<|
 Zg 36 true (.bin 43 .eql false (.t 39) (.t 42))<|
 Zo (.pick 44 (.t 36) (.t 43) (.c (.bool false)))<|
 Zm 45 44<|
 Zg 45 true (.call (some 46) false (.c (.fn 21 [] [])) [])<|
 Zo (.pick 47 (.t 45) (.t 46) (.c (.bool false)))<|
 Zm 4 47 .nil) .ret⟩
theorem Qas1:Qe Tryz.prog Tryz.f8=some c8:=by kernel_rfl
def c5:SFn:=⟨37,[.t 4],Zr (Zo (.box 3 3 24 (.t 1))<|
 Zo (.mv 4 (.c (.bool false))) .nil)<| .seq (Zr (Zm 9 0<|
 Zh 10 3 3<|
 Zq 11 false 28 [.t 9,.t 10]<|
 Zu 12 11 .nil)<| .cond (.t 12) (Zr (Zq 13 false 21 []<|
 Zm 4 13 .nil) .ret) .skip)<|Zr (Zm 15 0<|
 Zh 16 3 3<|
 Zq 17 false 29 [.t 15,.t 16]<|
 Zm 14 17<|
 Zo (.ext 18 (.t 14) 0)<|
 Zo (.ext 19 (.t 14) 1)<|
 Zm 5 18<|
 Zm 6 19 .nil)<|Zr (Zm 21 0<|
 Zh 22 3 3<|
 Zq 23 false 30 [.t 21,.t 22]<|
 Zm 20 23<|
 Zo (.ext 24 (.t 20) 0)<|
 Zo (.ext 25 (.t 20) 1)<|
 Zm 7 24<|
 Zm 8 25 .nil)<|Zr (Zm 26 5<|
 Zm 27 7<|
 Zq 28 false 24 [.t 26,.t 27]<|
 Zm 29 28<|
 Zg 29 true (.mv 30 (.t 6))<|
 Zg 29 true (.mv 31 (.t 8))<|
 Zg 29 true (.bin 32 .eql false (.t 30) (.t 31))<|
 Zo (.pick 33 (.t 29) (.t 32) (.c (.bool false)))<|
 Zm 34 33<|
 Zg 34 true (.call (some 35) false (.c (.fn 21 [] [])) [])<|
 Zo (.pick 36 (.t 34) (.t 35) (.c (.bool false)))<|
 Zm 4 36 .nil) .ret⟩
theorem Qwy:Qd Tryz.prog 21 [] (· = .bool true):=by
 have hv0:Qd Tryz.prog 67 [.int .i64 0] (· =PV.poly (Qdx 0)):=Qsw (v:=0) (by omega)
 have hv1:Qd Tryz.prog 67 [.int .i64 1] (· =PV.poly (Qdx 1)):=Qsw (v:=1) (by omega)
 have p0:PB 10 10 (Qdx 0):=Qpu (by decide+kernel)
 have p1:PB 10 10 (Qdx 1):=Qpu (by decide+kernel)
 have pc:PB 10 10 (Qhn 1):=Qpu (by decide+kernel)
 have pd:PB 10 10 aD:=Qpu (by decide+kernel)
 have pm:PB 10 10 (Qdl (Qdx 0) (Qdx 0)):=Qpu (by decide+kernel)
 have n0:Nrm (Qdx 0):=Qvt (by decide+kernel)
 have n1:Nrm (Qdx 1):=Qvt (by decide+kernel)
 have nc:Nrm (Qhn 1):=Qvt (by decide+kernel)
 have nd:Nrm aD:=Qvt (by decide+kernel)
 have l0:(Qdx 0).length=1:=by decide+kernel
 have l1:(Qdx 1).length=1:=by decide+kernel
 have lc:(Qhn 1).length=1:=by decide+kernel
 have ld:aD.length=2:=by decide+kernel
 have lm:(Qdl (Qdx 0) (Qdx 0)).length=1:=by decide+kernel
 have hs1:Qd Tryz.prog 68 [PV.poly (Qdx 0),PV.poly (Qdx 1)] (· =PV.poly aD):=Qsq p0 p1 n1.z (by omega) (by omega) (by omega) (by omega) (by omega)
 have hs2:Qd Tryz.prog 68 [PV.poly (Qdl (Qdx 0) (Qdx 0)),PV.poly (Qhn 1)] (· =PV.poly aP2):=Qsq pm pc nc.z (by omega) (by omega) (by omega) (by omega) (by omega)
 have hm1:=Qnn pd pd nd.z nd.z (by omega) (by omega) (by omega) (by rw[ld];decide) (by rw[ld];decide)
 rw[Qte nd nd]at hm1
 have hm1:Qd Tryz.prog 69 [PV.poly aD,PV.poly aD] (· =PV.poly aP1):=hm1
 have hm2:=Qnn p0 p0 n0.z n0.z (by omega) (by omega) (by omega) (by rw[l0];decide) (by rw[l0];decide)
 rw[Qte n0 n0]at hm2
 have ho1:Qd Tryz.prog 50 [.int .i64 1] (· =PV.rat 1):=Qiz (x:=1) (by omega) (by omega)
 have hco:Qd Tryz.prog 70 [PV.rat 1] (· =PV.poly (Qhn 1)):=Q6n (a:=1) (k:=4) (by decide+kernel) (by omega)
 have he1:=Qu9 (a:=1) (b:=1) (k:=4) (by decide+kernel) (by decide+kernel) (by omega)
 rw[decide_eq_true rfl]at he1
 have he2:=Qkt pd pd (by omega) (by omega) (by omega) (by omega)
 rw[decide_eq_true rfl]at he2
 have q1:=a_Q1
 have q2:=a_Q2
 clear p0 p1 pc pd pm n0 n1 nc nd l0 l1 lc lm
 generalize Qdl (Qdx 0) (Qdx 0)=M at *
 generalize Qhn 1=O at *
 generalize Qdx 0=V0 at *
 generalize Qdx 1=V1 at *
 generalize aP1=P1 at *
 generalize aP2=P2 at *
 generalize aD=D at *
 refine Qf Qp Tryz.func21 rfl Qarn (by simp[c21]) fun C hP=> ?_;simp only[c21,Zo,Zg,Zm,Zc,Zf,Zl,Zh,Zs,Zi,Zb,Zk,Zn,Zu,Zq,Zr,Zz]
 simp+decide (disch:=try exact D0) only[go_sem]
 refine Qa hP hv0 rfl rfl rfl ?_
 simp+decide (disch:=try exact D0) only[go_sem]
 refine Qa hP hv1 rfl rfl rfl ?_
 simp+decide (disch:=try exact D0) only[go_sem]
 refine Qa hP hs1 rfl rfl rfl ?_
 simp+decide (disch:=try exact D0) only[go_sem]
 refine Qa hP hm1 rfl rfl rfl ?_
 simp+decide (disch:=try exact D0) only[go_sem]
 refine Qa hP q1 rfl rfl rfl ?_
 simp+decide (disch:=try exact D0) only[go_sem]
 refine Qa hP hm2 rfl rfl rfl ?_
 simp+decide (disch:=try exact D0) only[go_sem]
 refine Qa hP ho1 rfl rfl rfl ?_
 simp+decide (disch:=try exact D0) only[go_sem]
 refine Qa hP hco rfl rfl rfl ?_
 simp+decide (disch:=try exact D0) only[go_sem]
 refine Qa hP hs2 rfl rfl rfl ?_
 simp+decide (disch:=try exact D0) only[go_sem]
 refine Qa hP q2 rfl rfl rfl ?_
 simp+decide (disch:=try exact D0) only[go_sem]
 refine Qa hP ho1 rfl rfl rfl ?_
 simp+decide (disch:=try exact D0) only[go_sem]
 refine Qa hP he1 rfl rfl rfl ?_
 simp+decide (disch:=try exact D0) only[go_sem]
 refine Qa hP he2 rfl rfl rfl ?_
 simp+decide (disch:=try exact D0) only[go_sem]
 exact Qc rfl rfl
theorem Qtn{p:List RTm}{l:List RSq}{k:Nat}(hb:∀s∈l,SqB k s)(hp:∀t∈p,RB k t)(hpl:p.length<2^40)(hll:l.length<2^40)(hk1:1<=k)(hk:k<2^36):Qd Tryz.prog 8 [PV.rpoly p,.sl 4 (l.map PV.rsq)] (· = .bool true):=by
 have h1:=Qamm hb hk1 hk hll
 have h2:=Qx3 hp hk1 hk hpl
 refine Qf Qp Tryz.func8 rfl Qas1 (by simp[c8]) fun C hP=> ?_;simp only[c8,Zo,Zg,Zm,Zc,Zf,Zl,Zh,Zs,Zi,Zb,Zk,Zn,Zu,Zq,Zr,Zz]
 simp+decide (disch:=try exact D0) only[go_sem]
 refine Qa hP h1 rfl rfl rfl ?_
 cases hf:Qh5 l
 ·simp+decide (disch:=try exact D0) only[go_sem]
  refine Qa hP Qwy rfl rfl rfl ?_
  simp+decide (disch:=try exact D0) only[go_sem]
  exact Qc rfl rfl
 simp+decide (disch:=try exact D0) only[go_sem]
 refine Qa hP h2 rfl rfl rfl ?_
 cases hl:Qfg p
 ·simp+decide (disch:=try exact D0) only[go_sem]
  refine Qa hP Qwy rfl rfl rfl ?_
  simp+decide (disch:=try exact D0) only[go_sem]
  exact Qc rfl rfl
 have c1:=Q99 hb hk1 hk hf
 have c2:=Q4j hb hk1 hk hf
 have c3:=Qagn hb hp hpl hk1 hk hf hl
 have c4:=Qaaa hb hp hpl hk1 hk hf hl
 obtain⟨b1,b2,b3⟩:=Qwx hb hf
 have he:=Qkt b1 b1 (by omega) (by omega) (by omega) (by omega)
 rw[decide_eq_true rfl]at he
 generalize Qn9 p l=z at *
 generalize Qen l=r at *
 obtain⟨s,e⟩:=r
 simp+decide (disch:=try exact D0) only[go_sem]
 refine Qa hP c1 rfl rfl rfl ?_
 simp+decide (disch:=try exact D0) only[go_sem]
 refine Qa hP c2 rfl rfl rfl ?_
 simp+decide (disch:=try exact D0) only[go_sem]
 refine Qa hP he rfl rfl rfl ?_
 simp+decide (disch:=try exact D0) only[go_sem]
 refine Qa hP c3 rfl rfl rfl ?_
 simp+decide (disch:=try exact D0) only[go_sem]
 refine Qa hP c4 rfl rfl rfl ?_
 simp+decide (disch:=try exact D0) only[go_sem]
 refine Qa hP Qwy rfl rfl rfl ?_
 simp+decide (disch:=try exact D0) only[go_sem]
 exact Qc rfl rfl
open Go Go.FW Go.ChangeShapes Go.WideShapes Go.ChangeAt Go.RowKit
variable {H : Type} {enc : TypeId × Value -> H}
def Q17(s:RSq):Prop:=Raw 1048576 s.n s.a s.d/\Qyz s.p
theorem Qaaz:Rd enc 65 fun ps=>∃s:RSq,ps=(PV.rsq s).cells/\Q17 s:=by
 refine(Qhp Qcu Tryz.underlying65 rfl (by kernel_rfl) (by kernel_rfl) Q9w Q4c).mono ?_
 rintro ps ⟨p,q,rfl,⟨n,a,d,rfl,h⟩,l,rfl,h3⟩
 exact⟨⟨n,a,d,l⟩,rfl,h,h3⟩
def Qry(l:List RSq):Prop:=l.length<=1048576/\∀s∈l,Q17 s
theorem Qrc:Tryz.prog.cellsOf 65=4:=by kernel_rfl
theorem Q64:Rd enc 41 fun ps=>∃l:List RSq,ps=[.sl 4 (l.map PV.rsq)]/\Qry l:=by
 refine(Qju (α:=RSq) (f:=PV.rsq) (G:=Q17) Qcu Tryz.underlying41 (by rw[Qrc];omega) Qaaz).mono ?_
 rintro ps ⟨l,rfl,h1,h2⟩
 exact⟨l,by rw[Qrc],h1,h2⟩
variable {w : World} {base : Nat} {spare : Nat -> Bool} {held : Bool} {r : Reach} {b0 : Nat} {v : Value} {d : DataW H} {ps : List MemPlace}
theorem Q3i(Qc9:Value.okWide Tryz.prog w r b0 41 v)(hd:DataW.Trod enc Tryz.prog w base spare held 41 v d ps)(hn:Rows.uptoBulk d<=1048576):∃l:List RSq,Qas w Qbt (.sl 4 (l.map PV.rsq)) v/\Qry l:=by
 obtain⟨p,⟨l,e,h⟩,h2⟩:=Qxl Tryz.underlying41 Qc9 Q64 hd hn
 obtain rfl:p= .sl 4 (l.map PV.rsq):=by simpa using e
 exact⟨l,h2,h⟩
theorem Qarq{l:List RSq}(h:Qry l):∀s∈l,SqB 1048576 s:=fun s hs=>by
 obtain⟨h1,h2,h3⟩:=h.2 s hs
 exact⟨h1,fun t ht=>(h3 t ht).1,by omega⟩
theorem Qvu{p:List RTm}{l:List RSq}(hp:Qyz p)(hl:Qry l):Qd Tryz.prog 8 [PV.rpoly p,.sl 4 (l.map PV.rsq)] (· = .bool true):=
 Qtn (k:=1048576) (Qarq hl) (fun t ht=>(hp.2 t ht).1) (by have:=hp.1;omega) (by have:=hl.1;omega) (by omega) (by omega)
end Go.Proofs.YtkoclfmjlolkhaaGreat
namespace Go.Proofs.YtkoclfmjlolkhaaGreat
open Go Go.FW Go.ChangeShapes Go.WideShapes Go.ChangeAt Go.RowKit
theorem Qpv(H:Type)(enc:TypeId×Value->H)(W:World)(base:Nat)(args:Array Value)(ds gs:List (DataW H))(before:List MemPlace)
  (Qc9:∀(j:Nat) t v,Tryz.f8.params[j]? =some t->args[j]? =some v->Value.okWide Tryz.prog W .any base t v)
  (hW:DataW.Whole enc Tryz.prog Tryz.f8.params.toList Rows.squaresSumsSpec.vars false W args.toList ds gs before) (hk:Rows.uptoSmall H (ds++gs)=true):
  Calls Tryz.prog 8 args W fun e W'=>∃v,e= .returned v/\Rows.squaresSumsSpec.post enc Tryz.prog Tryz.f8 false true false false W args v W':=by
 have hW':=hW
 obtain⟨p,q,hA0,hV,rfl,hfz,hnd⟩:=hW
 have hA:DataW.TrodAll enc Tryz.prog W 0 (fun _=>true) true Tryz.f8.params.toList args.toList ds p:=hA0
 rw[Tryz.params8]at hA Qc9
 obtain⟨v0,vs0,e0,ds0,p0,q0,hargs,rfl,rfl,h0,r0⟩:=trodAll_cons hA
 obtain⟨v1,vs1,e1,ds1,p1,q1,rfl,rfl,rfl,h1,r1⟩:=trodAll_cons r0
 obtain⟨rfl,rfl,rfl⟩:=trodAll_nil r1
 obtain rfl:args= #[v0,v1]:=by cases args;simp_all
 obtain⟨rfl,rfl⟩:=trodVars_none hV
 have hb:=Qaem hk
 simp only[List.append_nil,Rows.uptoBulkAll]at hb
 obtain⟨a0,g0,b0⟩:=Qaen (Qc9 0 _ v0 rfl rfl) h0 (by omega)
 obtain⟨a1,g1,b1⟩:=Q3i (Qc9 1 _ v1 rfl rfl) h1 (by omega)
 exact Q9x hW' rfl (by kernel_rfl) (by kernel_rfl) rfl (Qvu b0 b1) rfl
  (Qaeo (vs:=[v0,v1]) (by
   intro i x hx v hv
   match i,hx,hv with
   |0,hx,hv=>simp at hx hv;subst hx hv;exact g0
   |1,hx,hv=>simp at hx hv;subst hx hv;exact g1
   |i+2,hx,hv=>simp at hx) rfl)
theorem Qrd(os:Os)(started:os.Started)(H:Type)(enc:TypeId×Value->H)(F:Stop.Interp):
  ReturnsInHanded {} Tryz.checked os 8 .any ((Rows.OpenSpec.upto Rows.squaresSumsSpec).pre6 enc Tryz.prog Tryz.f8 Rows.squaresSumsUptoRow.domain false) (((Rows.OpenSpec.upto Rows.squaresSumsSpec).at F).post enc Tryz.prog Tryz.f8 false true false false):=by
 refine returnsInHanded_of_cond (C:=Tryz.checked) (s:=Rows.OpenSpec.upto Rows.squaresSumsSpec) (k:=Rows.uptoSmall) rfl own started (by kernel_rfl) Tryz.func8
  (OpenSpec.witness (enc:=enc) (C:=Tryz.checked) (s:=Rows.OpenSpec.upto Rows.squaresSumsSpec) (k:=Rows.uptoSmall) rfl false ⟨#[],#[.slice none 0 0,.slice none 0 0],[]⟩ 8 (by kernel_rfl) (by kernel_rfl) (by kernel_rfl)
   (x:=([.nil,.nil],[],[])) (by kernel_rfl) rfl (by kernel_rfl)) ?_
 intro W base args ds gs before Qc9 hW _ hk _
 exact Qpv H enc W base args ds gs before Qc9 hW hk
theorem squaresSums_proved:Rows.SquaresSumsUptoSaid:=
 OpenClaim.holds_of_cond 8 Tryz.f8 rfl rfl rfl rfl rfl rfl rfl ⟨rfl,rfl,rfl,rfl,rfl⟩ rfl rfl rfl rfl rfl (by kernel_rfl) Tryz.func8 (by kernel_rfl)
  (of_decide_eq_true (by kernel_rfl)) (by unfold Func.isWrapper;first|(rw[if_pos (by decide+kernel)];kernel_rfl)|(rw[if_neg (by decide+kernel)];exact⟨rfl,rfl⟩))
  (fun os started H enc _ F=>Qrd os started H enc F)
end Go.Proofs.YtkoclfmjlolkhaaGreat
