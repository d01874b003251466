/- SquaresPositive: a sum of squares has no negative value -/
import Derived.Test.YtkoclfmjlolkhaaGreatSquaresPositivePart16
set_option linter.unusedSimpArgs false
set_option linter.unusedVariables false
set_option linter.unnecessarySimpa false
set_option maxRecDepth 100000
namespace Go.Proofs.YtkoclfmjlolkhaaGreat
open Go Go.FW
theorem Qahw(v:Nat):varM v=Qc7 v 1:=rfl
theorem Qs1{v:Nat}(hv:v<64):Qd Tryz.prog 67 [.int .i64 v] (· =PV.poly (Qd0 v)):=by
 have hset:(List.replicate (v+1) (0:Int)).set v 1=Qc7 v 1:=Q1q v 1 rfl
 have hlr:v<(List.replicate (v+1) (0:Int)).length:=by simp
 have hone:=Qne
 have hxl:(Qc7 v 1).length=v+1:=by simp[Qc7]
 have hadd:=(Qsx (p:=[]) (m:=Qc7 v 1) (K:=1) (E:=1) (k:=4) (PB.nil _ _) trivial (by simp[NZ]) (Qb8 (q:=((1:Int):Rat)) (k:=4) (by rw[show((1:Int):Rat)=1 from rfl];omega)) (by omega) (Q4p hv) (Qx1 (by omega)) (by omega) (by omega) (by simp)).le (args':=[.nilS,PV.rat ((1:Int):Rat),PV.mono (Qc7 v 1)]) ⟨trivial,Qaa _,Qaa _,trivial⟩
 rw[Qcl]at hadd
 have e:Qiw [] ((1:Int):Rat) (Qc7 v 1)=Qd0 v:=by
  rw[Qiw,Qh6,if_neg (by decide),Qd0,if_neg (by omega),Int.toNat_natCast,Qahw];rfl
 rw[e]at hadd
 refine Qf Qp Tryz.func67 rfl Qaql (by simp[c67]) fun C hP=> ?_;simp only[c67,Zo,Zg,Zm,Zc,Zf,Zl,Zh,Zs,Zi,Zb,Zk,Zn,Zu,Zq,Zr,Zz]
 simp+decide (disch:=try exact D0) only[go_sem]
 refine Qah (fun h=>by omega) (fun _=> ?_)
 simp+decide (disch:=try exact D0) only[go_sem]
 refine Qb (fun h=>by omega) (fun _=> ?_)
 simp+decide (disch:=try exact D1 hset) only[go_sem,hset]
 refine Qa hP (Qi1 (x:=1) (by omega) (by omega)) rfl rfl rfl ?_
 generalize((1:Int):Rat)=c at *
 simp+decide (disch:=try exact D0) only[go_sem]
 refine Qdq hP hadd (by simp+decide (disch:=try exact E0) only[go_sem,Qab,List.contains_cons,List.contains_nil,List.flatMap_cons,List.flatMap_nil,List.append_nil];simp[List.take_of_length_le,hxl]) rfl ?_
 simp+decide (disch:=try exact D0) only[go_sem]
 exact Qc rfl rfl
def c21:SFn:=⟨73,[.t 0],Zr (Zo (.mv 0 (.c (.bool false))) .nil)<|Zr (Zq 10 false 67 [.c (Zz 0)]<|
 Zq 11 false 67 [.c (Zz 1)]<|
 Zm 1 10<|
 Zm 2 11 .nil)<|Zr (Zm 12 1<|
 Zm 13 2<|
 Zq 14 false 68 [.t 12,.t 13]<|
 Zm 3 14 .nil)<|Zr (Zm 16 3<|
 Zm 17 3<|
 Zq 18 false 69 [.t 16,.t 17]<|
 Zq 19 false 22 [.t 18]<|
 Zm 15 19<|
 Zo (.ext 20 (.t 15) 0)<|
 Zo (.ext 21 (.t 15) 1)<|
 Zo (.ext 22 (.t 15) 2)<|
 Zm 4 20<|
 Zm 5 21<|
 Zm 6 22 .nil)<|Zr (Zm 24 1<|
 Zm 25 1<|
 Zq 26 false 69 [.t 24,.t 25]<|
 Zq 27 false 50 [.c (Zz 1)]<|
 Zq 28 false 70 [.t 27]<|
 Zq 29 false 68 [.t 26,.t 28]<|
 Zq 30 false 22 [.t 29]<|
 Zm 23 30<|
 Zo (.ext 31 (.t 23) 0)<|
 Zo (.ext 32 (.t 23) 1)<|
 Zo (.ext 33 (.t 23) 2)<|
 Zm 7 31<|
 Zm 8 32<|
 Zm 9 33 .nil)<| .seq (Zr (Zm 34 6<|
 Zk 35 .neq 34 0<|
 Zm 36 35<|
 Zg 36 false (.mv 37 (.t 9))<|
 Zg 36 false (.bin 38 .neq false (.t 37) (.c (Zz 17)))<|
 Zo (.pick 39 (.t 36) (.c (.bool true)) (.t 38))<|
 Zm 40 39<|
 Zg 40 false (.mv 41 (.t 4))<|
 Zg 40 false (.len 42 (.t 41))<|
 Zg 40 false (.bin 43 .neq false (.t 42) (.c (Zz 1)))<|
 Zo (.pick 44 (.t 40) (.c (.bool true)) (.t 43))<|
 Zm 45 44<|
 Zg 45 false (.mv 46 (.t 8))<|
 Zg 45 false (.len 47 (.t 46))<|
 Zg 45 false (.bin 48 .neq false (.t 47) (.c (Zz 1)))<|
 Zo (.pick 49 (.t 45) (.c (.bool true)) (.t 48)) .nil)<| .cond (.t 49) (Zr (Zo (.mv 0 (.c (.bool false))) .nil) .ret) .skip)<|Zr (Zm 50 4<|
 Zo (.idx 51 4 (.t 50) (.c (Zz 0)))<|
 Zf 52 0 51<|
 Zh 53 3 52<|
 Zq 54 true 50 [.c (Zz 1)]<|
 Zq 55 true 49 [.t 53,.t 54]<|
 Zm 56 55<|
 Zg 56 true (.mv 57 (.t 4))<|
 Zg 56 true (.idx 58 4 (.t 57) (.c (Zz 0)))<|
 Zg 56 true (.fld 59 3 (.t 58))<|
 Zg 56 true (.ld 60 1 false (.t 59))<|
 Zg 56 true (.mv 61 (.t 3))<|
 Zg 56 true (.call (some 62) true (.c (.fn 40 [] [])) [.t 60,.t 61])<|
 Zg 56 true (.mv 63 (.t 62))<|
 Zg 63 false (.mv 64 (.t 4))<|
 Zg 63 false (.idx 65 4 (.t 64) (.c (Zz 0)))<|
 Zg 63 false (.fld 66 3 (.t 65))<|
 Zg 63 false (.ld 67 1 false (.t 66))<|
 Zg 63 false (.mv 68 (.t 3))<|
 Zg 63 false (.call (some 69) true (.c (.fn 71 [] [])) [.t 68])<|
 Zg 63 false (.call (some 70) true (.c (.fn 40 [] [])) [.t 67,.t 69])<|
 Zg 56 true (.pick 71 (.t 63) (.c (.bool true)) (.t 70))<|
 Zo (.pick 72 (.t 56) (.t 71) (.c (.bool false)))<|
 Zm 0 72 .nil) .ret⟩
theorem Qar5:Qe Tryz.prog Tryz.f21=some c21:=by kernel_rfl
def aD:List Tm:=psub (Qd0 0) (Qd0 1)
def aP1:List Tm:=Qdu aD aD
def aP2:List Tm:=psub (Qdu (Qd0 0) (Qd0 0)) (Qhp 1)
def aB1:List (List Int):=[[1],[0,1],[]]
def aB2:List (List Int):=[[1],[]]
def aG1:List Rat:=[1,-1,0,-1,1,0,0,0,0]
def aG2:List Rat:=[1,0,0,-1]
theorem a_b1:bsP aP1=aB1:=by decide+kernel
theorem a_b2:bsP aP2=aB2:=by decide+kernel
theorem a_g1:Qj3 aP1 aB1=aG1:=by decide+kernel
theorem a_g2:Qj3 aP2 aB2=aG2:=by decide+kernel
theorem Qar6:((Qam 3 (Qaj aG1 3) (2*3)).2.all fun f=>decide (0<=f.1))=true:=by decide+kernel
theorem Qatd:(Qam 3 (Qaj aG1 3) (2*3)).2.map (fgS aB1)=[(1,aD)]:=by decide+kernel
theorem Qar7:((Qam 2 (Qaj aG2 2) (2*2)).2.all fun f=>decide (0<=f.1))=false:=by decide+kernel
theorem a_w2:(Qam 2 (Qaj aG2 2) (2*2)).2.map (·.1)=[1,-1]:=by decide+kernel
theorem a_f2:Qcf 2 (Qam 2 (Qaj aG2 2) (2*2)).2=[1,0,0,1]:=by decide+kernel
theorem a_l2:(Qam 2 (Qaj aG2 2) (2*2)).2.length=2:=by decide+kernel
theorem a_c1:cfE aB1 3 3 (aG1.map qR)=0:=by decide+kernel
theorem a_c2:cfE aB2 2 2 (aG2.map qR)=0:=by decide+kernel
theorem a_s1:Qi5 (Qaj aG1 3) 3:=by decide+kernel
theorem a_s2:Qi5 (Qaj aG2 2) 2:=by decide+kernel
theorem Qate:Qc2 (aP1.map toR)=true:=by decide+kernel
theorem Qatf:Qc2 (aP2.map toR)=true:=by decide+kernel
theorem Qre{p:List Tm}(hb:PB 10 10 p)(hl:p.length<=10)(h:Qc2 (p.map toR)=true):Qd Tryz.prog 72 [PV.poly p] (· = .bool true):=by
 have h1:=Qsn (l:=p.map toR) (k:=10) (fun t ht=>by
  obtain⟨s,hs,rfl⟩:=List.mem_map.1 ht
  have:=(hb s hs).c
  exact Qaac (by omega) (by have:=(hb s hs).m.len;omega)) (by omega) (by omega) (by rw[List.length_map];omega)
 rwa[Q05,h]at h1
theorem Q2g{l:List Rat}(h:∀q∈l,rs q<=3)(hl:l.length<=25):Qfh (l.map qR):=⟨by rw[List.length_map];omega,RRk.of fun q hq=>by have:=h q hq;omega⟩
theorem Qatg:Qd Tryz.prog 29 [PV.monos aB1,PV.mat 3 3 aG1] (· = .tup [PV.sqs [(1,aD)],.int .i64 0]):=by
 have hs:∀q∈aG1,rs q<=3:=by decide+kernel
 have c:=Qvx (bs:=aB1) (r:=3) (c:=3) (by decide) (by decide) (Q2g hs (by decide))
 rw[a_c1]at c
 have hm:PV.mat 3 3 aG1=PV.rmat 3 3 (aG1.map qR):=Qma 3 3 aG1
 rw[<-hm]at c
 obtain⟨fs,hfs,d1,_,d3,d4⟩:=Q2a (R:=3) (la:=aG1) (by decide) (by omega) hs a_s1
 have h:=Qoh (K:=50421) (R:=3) (bs:=aB1) ⟨rfl,by decide,by omega,by omega,d4,by omega,by omega⟩ c d1
 rw[hfs,fgR,if_pos Qar6,Qatd]at h
 exact h
theorem Qabi:Qd Tryz.prog 48 [PV.mat 2 2 aG2] (· = .tup [PV.rats [1,-1],PV.mat 2 2 [1,0,0,1],.int .i64 0])/\Qd Tryz.prog 29 [PV.monos aB2,PV.mat 2 2 aG2] (· = .tup [PV.sqs [],.int .i64 17]):=by
 have hs:∀q∈aG2,rs q<=3:=by decide+kernel
 have c:=Qvx (bs:=aB2) (r:=2) (c:=2) (by decide) (by decide) (Q2g hs (by decide))
 rw[a_c2]at c
 have hm:PV.mat 2 2 aG2=PV.rmat 2 2 (aG2.map qR):=Qma 2 2 aG2
 rw[<-hm]at c
 obtain⟨fs,hfs,d1,_,d3,d4⟩:=Q2a (R:=2) (la:=aG2) (by decide) (by omega) hs a_s2
 have h:=Qoh (K:=50421) (R:=2) (bs:=aB2) ⟨rfl,by decide,by omega,by omega,d4,by omega,by omega⟩ c d1
 rw[hfs,fgR,if_neg (by rw[Qar7];decide)]at h
 rw[hfs,Qts,a_w2,a_l2,a_f2]at d1
 exact⟨d1,h⟩
theorem Qan8:Q2e (Qbk 2 (Qg3 (Qaj [1,0,0,1] 2) (Qft [0,1]) 2) 2) 2 2= .tup [PV.rats [0,1],.int .i64 0]:=by
 have h0:∀r,r<2->(Qbk 2 (Qg3 (Qaj [1,0,0,1] 2) (Qft [0,1]) 2) 2).piv.length<=r->(Qbk 2 (Qg3 (Qaj [1,0,0,1] 2) (Qft [0,1]) 2) 2).M r 2=0:=by
  have e:(Qbk 2 (Qg3 (Qaj [1,0,0,1] 2) (Qft [0,1]) 2) 2).piv.length=2:=by decide+kernel
  intro r hr h;omega
 rw[Q2e,if_pos h0]
 have e:(List.range 2).map (Qpy (Qbk 2 (Qg3 (Qaj [1,0,0,1] 2) (Qft [0,1]) 2) 2).M (Qbk 2 (Qg3 (Qaj [1,0,0,1] 2) (Qft [0,1]) 2) 2).piv 2 (Qbk 2 (Qg3 (Qaj [1,0,0,1] 2) (Qft [0,1]) 2) 2).piv.length)=[0,1]:=by decide+kernel
 have key:∀f:Nat->Rat,(List.range 2).map f=[0,1]->Qac PV.rat f 2=[(0:Rat),1].map PV.rat:=fun f h=>by rw[<-h,List.map_map];rfl
 rw[key _ e]
theorem Qan9:Qd Tryz.prog 138 [PV.mat 2 2 [1,0,0,1],.int .i64 ((1:Nat):Int)] (· =PV.rats [0,1]):=by
 have hu:Qj4 2 1=[0,1]:=by decide+kernel
 have hs:∀q∈([1,0,0,1]:List Rat),rs q<=3:=by decide+kernel
 have hs2:∀q∈([0,1]:List Rat),rs q<=3:=by decide+kernel
 have hB:Q6z (3*3125) 2 3 2 (Qg3 (Qaj [1,0,0,1] 2) (Qft [0,1]) 2):=Qano (by omega) (fun r _ c _=>by
  unfold Qg3;split
  ·exact Qahj (by omega) hs2 r
  ·exact Qll (by omega) hs) (by omega) (.inl (by omega))
 have h:=Qan7 (R:=2) (m:=2) (l:=[1,0,0,1]) (b:=[0,1]) rfl rfl (by omega) (by omega) (by omega) (fun q hq=>by have:=hs q hq;omega) (fun q hq=>by have:=hs2 q hq;omega) (by omega) hB
 rw[Qan8,<-hu]at h
 rw[hu]at h
 exact Qahv (R:=2) (n:=2) (a:=1) (by omega) (by rw[hu];exact h)
theorem Qath:Qd Tryz.prog 75 [PV.poly aP2,PV.monos aB2,PV.mat 2 2 aG2] (· =PV.rats [0]):=by
 have e:([(0:Rat),1].map (· /1))=[0,1]:=by decide+kernel
 have hsp:=Qabh (bs:=aB2) (x:=[0,1]) (by decide) (by decide) (by decide) (by decide) (by decide)
 rw[show Qg4 aB2 [0,1] (aB2.length-1)=[0]by decide+kernel]at hsp
 exact Q3u (a:=1) (m:=1) (x:=[0,1]) (c:=1) Qabi.1 (by decide) (by decide) (by decide+kernel) (by decide+kernel) (by decide+kernel) Qan9 rfl (by omega) (by decide+kernel) rfl (by decide+kernel) (by rw[e];exact hsp)
theorem a_Q1:Qd Tryz.prog 22 [PV.poly aP1] (· = .tup [PV.sqs [(1,aD)],PV.rats [],.int .i64 0]):=by
 have hb:PB 10 10 aP1:=Qpz (by decide+kernel)
 have hF:=Qatg
 rw[<-a_g1,<-a_b1]at hF
 exact Qm6 (K:=10) (E:=10) hb (by omega) (by omega) (by omega) (by decide+kernel) (Qre hb (by decide+kernel) Qate) (by decide+kernel) (by rw[a_b1];decide) (by rw[a_b1]at hF ⊢;exact hF) (fun h=>by cases h) (fun _=>rfl)
theorem a_Q2:Qd Tryz.prog 22 [PV.poly aP2] (· = .tup [PV.sqs [],PV.rats [0],.int .i64 17]):=by
 have hb:PB 10 10 aP2:=Qpz (by decide+kernel)
 have hF:=Qabi.2
 have hN:=Qath
 rw[<-a_g2]at hF hN
 exact Qm6 (K:=10) (E:=10) hb (by omega) (by omega) (by omega) (by decide+kernel) (Qre hb (by decide+kernel) Qatf) (by decide+kernel) (by rw[a_b2];decide) (by rw[a_b2];exact hF) (fun _=>⟨rfl,by rw[a_b2];exact hN⟩) (fun h=>absurd rfl h)
def c8:SFn:=⟨48,[.t 4],Zr (Zo (.mv 4 (.c (.bool false))) .nil)<| .seq (Zr (Zm 9 1<|
 Zq 10 false 33 [.t 9]<|
 Zu 11 10<|
 Zm 12 11<|
 Zg 12 false (.mv 13 (.t 0))<|
 Zg 12 false (.call (some 14) false (.c (.fn 18 [] [])) [.t 13])<|
 Zg 12 false (.un 15 .not (.t 14))<|
 Zo (.pick 16 (.t 12) (.c (.bool true)) (.t 15)) .nil)<| .cond (.t 16) (Zr (Zq 17 false 21 []<|
 Zm 4 17 .nil) .ret) .skip)<|Zr (Zm 19 1<|
 Zq 20 false 36 [.t 19]<|
 Zm 18 20<|
 Zo (.ext 21 (.t 18) 0)<|
 Zo (.ext 22 (.t 18) 1)<|
 Zm 5 21<|
 Zm 6 22 .nil)<|Zr (Zm 24 1<|
 Zq 25 false 39 [.t 24]<|
 Zm 23 25<|
 Zo (.ext 26 (.t 23) 0)<|
 Zo (.ext 27 (.t 23) 1)<|
 Zm 7 26<|
 Zm 8 27 .nil)<|Zr (Zm 28 5<|
 Zm 29 7<|
 Zq 30 false 40 [.t 28,.t 29]<|
 Zm 31 30<|
 Zg 31 true (.mv 32 (.t 6))<|
 Zg 31 true (.mv 33 (.t 8))<|
 Zg 31 true (.bin 34 .eql false (.t 32) (.t 33))<|
 Zo (.pick 35 (.t 31) (.t 34) (.c (.bool false)))<|
 Zm 36 35<|
 Zg 36 true (.mv 37 (.t 0))<|
 Zg 36 true (.mv 38 (.t 1))<|
 Zg 36 true (.call (some 39) false (.c (.fn 41 [] [])) [.t 37,.t 38])<|
 Zg 36 true (.mv 40 (.t 0))<|
 Zg 36 true (.mv 41 (.t 1))<|
 Zg 36 true (.call (some 42) false (.c (.fn 42 [] [])) [.t 40,.t 41])<|
 Zg 36 true (.bin 43 .eql false (.t 39) (.t 42))<|
 Zo (.pick 44 (.t 36) (.t 43) (.c (.bool false)))<|
 Zm 45 44<|
 Zg 45 true (.call (some 46) false (.c (.fn 21 [] [])) [])<|
 Zo (.pick 47 (.t 45) (.t 46) (.c (.bool false)))<|
 Zm 4 47 .nil) .ret⟩
def c5:SFn:=⟨37,[.t 4],Zr (Zo (.box 3 3 24 (.t 1))<|
 Zo (.mv 4 (.c (.bool false))) .nil)<| .seq (Zr (Zm 9 0<|
 Zh 10 3 3<|
 Zq 11 false 28 [.t 9,.t 10]<|
 Zu 12 11 .nil)<| .cond (.t 12) (Zr (Zq 13 false 21 []<|
 Zm 4 13 .nil) .ret) .skip)<|Zr (Zm 15 0<|
 Zh 16 3 3<|
 Zq 17 false 29 [.t 15,.t 16]<|
 Zm 14 17<|
 Zo (.ext 18 (.t 14) 0)<|
 Zo (.ext 19 (.t 14) 1)<|
 Zm 5 18<|
 Zm 6 19 .nil)<|Zr (Zm 21 0<|
 Zh 22 3 3<|
 Zq 23 false 30 [.t 21,.t 22]<|
 Zm 20 23<|
 Zo (.ext 24 (.t 20) 0)<|
 Zo (.ext 25 (.t 20) 1)<|
 Zm 7 24<|
 Zm 8 25 .nil)<|Zr (Zm 26 5<|
 Zm 27 7<|
 Zq 28 false 24 [.t 26,.t 27]<|
 Zm 29 28<|
 Zg 29 true (.mv 30 (.t 6))<|
 Zg 29 true (.mv 31 (.t 8))<|
 Zg 29 true (.bin 32 .eql false (.t 30) (.t 31))<|
 Zo (.pick 33 (.t 29) (.t 32) (.c (.bool false)))<|
 Zm 34 33<|
 Zg 34 true (.call (some 35) false (.c (.fn 21 [] [])) [])<|
 Zo (.pick 36 (.t 34) (.t 35) (.c (.bool false)))<|
 Zm 4 36 .nil) .ret⟩
def c7:SFn:=⟨84,[.t 4],Zr (Zo (.mv 4 (.c (.bool false))) .nil)<| .seq (Zr (Zm 11 0<|
 Zq 12 false 33 [.t 11]<|
 Zu 13 12<|
 Zm 14 13<|
 Zg 14 false (.mv 15 (.t 1))<|
 Zg 14 false (.len 16 (.t 15))<|
 Zg 14 false (.bin 17 .lss false (.t 16) (.c (Zz 5)))<|
 Zo (.pick 18 (.t 14) (.c (.bool true)) (.t 17))<|
 Zm 19 18<|
 Zg 19 false (.mv 20 (.t 1))<|
 Zg 19 false (.len 21 (.t 20))<|
 Zg 19 false (.bin 22 .gtr false (.t 21) (.c (Zz 6)))<|
 Zo (.pick 23 (.t 19) (.c (.bool true)) (.t 22)) .nil)<| .cond (.t 23) (Zr (Zq 24 false 21 []<|
 Zm 4 24 .nil) .ret) .skip)<| .seq (Zr (Zc 5 0 .nil)<| .block 0<| .loop<| .seq (Zr (Zm 25 5<|
 Zm 26 1<|
 Zn 27 26<|
 Zb 28 .lss 25 27 .nil)<| .cond (.t 28) .skip (.exit 0))<| .seq (.block 1<|Zr (Zm 31 1<|
 Zm 32 5<|
 Zi 33 3 31 32<|
 Zh 34 3 33<|
 Zq 35 false 34 [.t 34]<|
 Zu 36 35<|
 Zm 37 36<|
 Zg 37 false (.mv 38 (.t 1))<|
 Zg 37 false (.mv 39 (.t 5))<|
 Zg 37 false (.idx 40 3 (.t 38) (.t 39))<|
 Zg 37 false (.ld 41 3 true (.t 40))<|
 Zg 37 false (.call (some 42) false (.c (.fn 25 [] [])) [.t 41])<|
 Zg 37 false (.un 43 .not (.t 42))<|
 Zo (.pick 44 (.t 37) (.c (.bool true)) (.t 43)) .nil)<| .cond (.t 44) (Zr (Zq 45 false 21 []<|
 Zm 4 45 .nil) .ret) .skip)<| .rg (Zm 29 5<|
 Zk 30 .add 29 1<|
 Zm 5 30 .nil))<| .seq (Zr (Zc 6 0 .nil)<| .block 2<| .loop<| .seq (Zr (Zm 46 6<|
 Zm 47 0<|
 Zn 48 47<|
 Zb 49 .lss 46 48 .nil)<| .cond (.t 49) .skip (.exit 2))<| .seq (.block 3<|Zr (Zm 52 0<|
 Zm 53 6<|
 Zi 54 4 52 53<|
 Zf 55 3 54<|
 Zl 56 1 55<|
 Zq 57 false 35 [.t 56,.c (Zz 6),.c (Zz 5),.c (Zz 4)]<|
 Zu 58 57 .nil)<| .cond (.t 58) (Zr (Zq 59 false 21 []<|
 Zm 4 59 .nil) .ret) .skip)<| .rg (Zm 50 6<|
 Zk 51 .add 50 1<|
 Zm 6 51 .nil))<|Zr (Zm 61 0<|
 Zq 62 false 36 [.t 61]<|
 Zm 60 62<|
 Zo (.ext 63 (.t 60) 0)<|
 Zo (.ext 64 (.t 60) 1)<|
 Zm 7 63<|
 Zm 8 64 .nil)<| .seq (Zr (Zm 65 8<|
 Zk 66 .neq 65 0 .nil)<| .cond (.t 66) (Zr (Zq 67 false 21 []<|
 Zm 4 67 .nil) .ret) .skip)<|Zr (Zm 69 7<|
 Zm 70 1<|
 Zq 71 false 37 [.t 69,.t 70]<|
 Zm 68 71<|
 Zo (.ext 72 (.t 68) 0)<|
 Zo (.ext 73 (.t 68) 1)<|
 Zo (.alloc 9 3 51 (.agg [.bool false,.nilS,.nilS]))<|
 Zs 3 9 72<|
 Zm 10 73 .nil)<|Zr (Zm 74 10<|
 Zk 75 .eql 74 0<|
 Zm 76 75<|
 Zg 76 true (.ld 77 3 true (.t 9))<|
 Zg 76 true (.call (some 78) false (.c (.fn 38 [] [])) [.t 77])<|
 Zg 76 true (.bin 79 .geq false (.t 78) (.c (Zz 0)))<|
 Zo (.pick 80 (.t 76) (.t 79) (.c (.bool false)))<|
 Zm 81 80<|
 Zg 81 true (.call (some 82) false (.c (.fn 21 [] [])) [])<|
 Zo (.pick 83 (.t 81) (.t 82) (.c (.bool false)))<|
 Zm 4 83 .nil) .ret⟩
theorem Qati:Qe Tryz.prog Tryz.f7=some c7:=by kernel_rfl
theorem Qie:Qd Tryz.prog 21 [] (· = .bool true):=by
 have hv0:Qd Tryz.prog 67 [.int .i64 0] (· =PV.poly (Qd0 0)):=Qs1 (v:=0) (by omega)
 have hv1:Qd Tryz.prog 67 [.int .i64 1] (· =PV.poly (Qd0 1)):=Qs1 (v:=1) (by omega)
 have p0:PB 10 10 (Qd0 0):=Qpz (by decide+kernel)
 have p1:PB 10 10 (Qd0 1):=Qpz (by decide+kernel)
 have pc:PB 10 10 (Qhp 1):=Qpz (by decide+kernel)
 have pd:PB 10 10 aD:=Qpz (by decide+kernel)
 have pm:PB 10 10 (Qdu (Qd0 0) (Qd0 0)):=Qpz (by decide+kernel)
 have n0:Nrm (Qd0 0):=Qv3 (by decide+kernel)
 have n1:Nrm (Qd0 1):=Qv3 (by decide+kernel)
 have nc:Nrm (Qhp 1):=Qv3 (by decide+kernel)
 have nd:Nrm aD:=Qv3 (by decide+kernel)
 have l0:(Qd0 0).length=1:=by decide+kernel
 have l1:(Qd0 1).length=1:=by decide+kernel
 have lc:(Qhp 1).length=1:=by decide+kernel
 have ld:aD.length=2:=by decide+kernel
 have lm:(Qdu (Qd0 0) (Qd0 0)).length=1:=by decide+kernel
 have hs1:Qd Tryz.prog 68 [PV.poly (Qd0 0),PV.poly (Qd0 1)] (· =PV.poly aD):=Qsw p0 p1 n1.z (by omega) (by omega) (by omega) (by omega) (by omega)
 have hs2:Qd Tryz.prog 68 [PV.poly (Qdu (Qd0 0) (Qd0 0)),PV.poly (Qhp 1)] (· =PV.poly aP2):=Qsw pm pc nc.z (by omega) (by omega) (by omega) (by omega) (by omega)
 have hm1:=Qsv pd pd nd.z nd.z (by omega) (by omega) (by omega) (by rw[ld];decide) (by rw[ld];decide)
 rw[Q00 nd nd]at hm1
 have hm1:Qd Tryz.prog 69 [PV.poly aD,PV.poly aD] (· =PV.poly aP1):=hm1
 have hm2:=Qsv p0 p0 n0.z n0.z (by omega) (by omega) (by omega) (by rw[l0];decide) (by rw[l0];decide)
 rw[Q00 n0 n0]at hm2
 have ho1:Qd Tryz.prog 50 [.int .i64 1] (· =PV.rat 1):=Qi1 (x:=1) (by omega) (by omega)
 have hco:Qd Tryz.prog 70 [PV.rat 1] (· =PV.poly (Qhp 1)):=Q65 (a:=1) (k:=4) (by decide+kernel) (by omega)
 have he1:=Qvj (a:=1) (b:=1) (k:=4) (by decide+kernel) (by decide+kernel) (by omega)
 rw[decide_eq_true rfl]at he1
 have he2:=Qyu pd pd (by omega) (by omega) (by omega) (by omega)
 rw[decide_eq_true rfl]at he2
 have q1:=a_Q1
 have q2:=a_Q2
 clear p0 p1 pc pd pm n0 n1 nc nd l0 l1 lc lm
 generalize Qdu (Qd0 0) (Qd0 0)=M at *
 generalize Qhp 1=O at *
 generalize Qd0 0=V0 at *
 generalize Qd0 1=V1 at *
 generalize aP1=P1 at *
 generalize aP2=P2 at *
 generalize aD=D at *
 refine Qf Qp Tryz.func21 rfl Qar5 (by simp[c21]) fun C hP=> ?_;simp only[c21,Zo,Zg,Zm,Zc,Zf,Zl,Zh,Zs,Zi,Zb,Zk,Zn,Zu,Zq,Zr,Zz]
 simp+decide (disch:=try exact D0) only[go_sem]
 refine Qa hP hv0 rfl rfl rfl ?_
 simp+decide (disch:=try exact D0) only[go_sem]
 refine Qa hP hv1 rfl rfl rfl ?_
 simp+decide (disch:=try exact D0) only[go_sem]
 refine Qa hP hs1 rfl rfl rfl ?_
 simp+decide (disch:=try exact D0) only[go_sem]
 refine Qa hP hm1 rfl rfl rfl ?_
 simp+decide (disch:=try exact D0) only[go_sem]
 refine Qa hP q1 rfl rfl rfl ?_
 simp+decide (disch:=try exact D0) only[go_sem]
 refine Qa hP hm2 rfl rfl rfl ?_
 simp+decide (disch:=try exact D0) only[go_sem]
 refine Qa hP ho1 rfl rfl rfl ?_
 simp+decide (disch:=try exact D0) only[go_sem]
 refine Qa hP hco rfl rfl rfl ?_
 simp+decide (disch:=try exact D0) only[go_sem]
 refine Qa hP hs2 rfl rfl rfl ?_
 simp+decide (disch:=try exact D0) only[go_sem]
 refine Qa hP q2 rfl rfl rfl ?_
 simp+decide (disch:=try exact D0) only[go_sem]
 refine Qa hP ho1 rfl rfl rfl ?_
 simp+decide (disch:=try exact D0) only[go_sem]
 refine Qa hP he1 rfl rfl rfl ?_
 simp+decide (disch:=try exact D0) only[go_sem]
 refine Qa hP he2 rfl rfl rfl ?_
 simp+decide (disch:=try exact D0) only[go_sem]
 exact Qc rfl rfl
open Go Go.FW Go.ChangeShapes Go.WideShapes Go.ChangeAt Go.RowKit
variable {H : Type} {enc : TypeId × Value -> H}
def Q2h(s:RSq):Prop:=Raw 1048576 s.n s.a s.d/\Qah8 s.p
theorem Qabj:Rd enc 65 fun ps=>∃s:RSq,ps=(PV.rsq s).cells/\Q2h s:=by
 refine(Qhs Qct Tryz.underlying65 rfl (by kernel_rfl) (by kernel_rfl) Q08 Qak8).mono ?_
 rintro ps ⟨p,q,rfl,⟨n,a,d,rfl,h⟩,l,rfl,h3⟩
 exact⟨⟨n,a,d,l⟩,rfl,h,h3⟩
def Qr2(l:List RSq):Prop:=l.length<=1048576/\∀s∈l,Q2h s
theorem Qrf:Tryz.prog.cellsOf 65=4:=by kernel_rfl
theorem Q7p:Rd enc 41 fun ps=>∃l:List RSq,ps=[.sl 4 (l.map PV.rsq)]/\Qr2 l:=by
 refine(Qhq (α:=RSq) (f:=PV.rsq) (G:=Q2h) Qct Tryz.underlying41 (by rw[Qrf];omega) Qabj).mono ?_
 rintro ps ⟨l,rfl,h1,h2⟩
 exact⟨l,by rw[Qrf],h1,h2⟩
variable {w : World} {base : Nat} {spare : Nat -> Bool} {held : Bool} {r : Reach} {b0 : Nat} {v : Value} {d : DataW H} {ps : List MemPlace}
theorem Q3v(Qdc:Value.okWide Tryz.prog w r b0 41 v)(hd:DataW.Trod enc Tryz.prog w base spare held 41 v d ps)(hn:Rows.uptoBulk d<=1048576):∃l:List RSq,Qas w Qbt (.sl 4 (l.map PV.rsq)) v/\Qr2 l:=by
 obtain⟨p,⟨l,e,h⟩,h2⟩:=Qxr Tryz.underlying41 Qdc Q7p hd hn
 obtain rfl:p= .sl 4 (l.map PV.rsq):=by simpa using e
 exact⟨l,h2,h⟩
theorem Qar8{l:List RSq}(h:Qr2 l):∀s∈l,SqB 1048576 s:=fun s hs=>by
 obtain⟨h1,h2,h3⟩:=h.2 s hs
 exact⟨h1,fun t ht=>(h3 t ht).1,by omega⟩
end Go.Proofs.YtkoclfmjlolkhaaGreat
namespace Go.Proofs.YtkoclfmjlolkhaaGreat
open Go Go.FW
theorem Q3w(vs:List Rat){p:List Tm}(hp:Nrm p)(a:Rat):Qbv vs (Qc6 p a)=a*Qbv vs p:=by
 unfold Qbv
 rw[Q6o _ hp.c]
theorem Qaoa{vs:List Rat}{x:Sq}(h:SqS x):Qbv vs (sqT x)=x.1*(Qbv vs x.2*Qbv vs x.2):=by
 unfold sqT
 rw[Q3w _ (Qpl h.n.s h.n.s),Q6w h.b h.b]
theorem Q2i{vs:List Rat}{l:List Sq}(h:∀x∈l,SqS x/\0<x.1):∀i,i<=l.length->0<=Qbv vs (Qfr (l.take i))
 |0,_=>by
  show 0<=Qbv vs []
  exact Rat.le_refl
 | i+1,hi=>by
  have ih:=Q2i (vs:=vs) h i (by omega)
  obtain⟨h1,h2⟩:=h _ (List.getElem_mem (show i<l.length by omega))
  obtain⟨_,_,n1⟩:=Qoe (fun x hx=>(h x hx).1) i (by omega)
  obtain⟨_,_,n2⟩:=Q1p h1
  rw[Qkn (by omega),Q6v n1.c n2.c,Qaoa h1]
  have hs:∀q:Rat,0<=q*q:=fun q=>by
   rcases(Rat.le_total:0<=q∨q<=0)with h|h
   ·exact Rat.mul_nonneg h h
   ·have:=Rat.mul_nonneg (show 0<= -q by grind) (show 0<= -q by grind)
    grind
  have:=Rat.mul_nonneg (Rat.le_of_lt h2) (hs (Qbv vs l[i].2))
  grind
theorem Q5d{n:Nat}{l:List Sq}(h:∀x∈l,SqS x/\ML n x.2):∀i,i<=l.length->ML n (Qfr (l.take i))
 |0,_=>fun t ht=>by cases ht
 | i+1,hi=>by
  rw[Qkn (by omega)]
  obtain⟨hx,hm⟩:=h _ (List.getElem_mem (show i<l.length by omega))
  refine ML.padd (Q5d h i (by omega)) ?_
  have hm:=hm.pmul hm
  intro t ht
  unfold sqT at ht
  by_cases h0:l[i].1=0
  ·rw[Qc6,if_pos h0]at ht;cases ht
  ·rw[Q67 (Qpl hx.n.s hx.n.s) h0]at ht
   obtain⟨s,hs,rfl⟩:=List.mem_map.1 ht
   exact hm s hs
theorem Qabk{l:List Sq}(h:∀x∈l,rs x.1<=2/\PB 5 4 x.2/\x.2.length<=6):∀i,i<=l.length->PB (63*i) 8 (Qfr (l.take i))
 |0,_=>PB.nil _ _
 |i+1,hi=>by
  obtain⟨hw,hb,hl⟩:=h _ (List.getElem_mem (show i<l.length by omega))
  rw[Qkn (by omega)]
  have h1:=(Qo4 hb hb).1
  have h3:=Qqv (a:=l[i].1) (L:=3) h1 (by omega)
  exact(Qrv _ _ (Qabk h i (by omega)) (h3.mono (K':=63) (E':=8) (by omega) (by omega))).mono (by omega) (by omega)
def vlQ(q:RQ):Bool:=shQ q.a q.d&&Qeq q.n q.a q.d
theorem Qp0{l:List RSq}{x:List RQ}{k:Nat}(hb:∀s∈l,SqB k s)(hx:Qfh x)(hll:l.length<2^40)(hk1:1<=k)(hk:k<2^36):Qd Tryz.prog 7 [.sl 4 (l.map PV.rsq),PV.rqs x] (· = .bool true):=by
 have h1:=Qam5 hb hk1 hk hll
 have hxl:=hx.1
 refine Qf Qp Tryz.func7 rfl Qati (by simp[c7]) fun C hP=> ?_;simp only[c7,Zo,Zg,Zm,Zc,Zf,Zl,Zh,Zs,Zi,Zb,Zk,Zn,Zu,Zq,Zr,Zz]
 simp+decide (disch:=try exact D0) only[go_sem]
 refine Qa hP h1 rfl rfl rfl ?_
 cases hf:Qmd l
 ·simp+decide (disch:=try exact D0) only[go_sem]
  refine Qa hP Qie rfl rfl rfl ?_
  simp+decide (disch:=try exact D0) only[go_sem]
  exact Qc rfl rfl
 have hl5:l.length<=5:=by
  simp only[Qmd,Bool.and_eq_true,decide_eq_true_eq]at hf;exact hf.1
 simp+decide (disch:=try exact D0) only[go_sem]
 refine Qah (fun h2=> ?_) (fun h2=> ?_)
 ·simp+decide (disch:=try exact D0) only[go_sem]
  refine Qa hP Qie rfl rfl rfl ?_
  simp+decide (disch:=try exact D0) only[go_sem]
  exact Qc rfl rfl
 simp+decide (disch:=try exact D0) only[go_sem]
 refine Qb (fun h3=> ?_) (fun h3=> ?_)
 ·simp+decide (disch:=try exact D0) only[go_sem]
  refine Qa hP Qie rfl rfl rfl ?_
  simp+decide (disch:=try exact D0) only[go_sem]
  exact Qc rfl rfl
 simp+decide (disch:=try exact D0) only[go_sem]
 refine Qw (by repeat (first|exact Qo|exact Qi|exact Qj|exact Qk|exact Ql|apply Qh|apply Qn|apply Qr|apply Qx|apply Qy|apply Qg|apply Qs)) [(4,5),(25,45)] [] (fun q J hp=>∃i,q=x.length-i/\i<=x.length/\(∀j (h:j<x.length),j<i->vlQ x[j]=true)/\J 5= .int .i64 (i:Nat)) x.length ?_ ?_
 ·refine⟨0,rfl,by omega,by omega,?_⟩
  simp+decide (disch:=try exact D0) only[go_sem]
  rfl
 rintro _ J h' ⟨i,rfl,hi,h4,h5⟩
 simp+decide (disch:=try exact D1 h5) only[go_sem,h5]
 refine Qb (fun hg=> ?_) (fun hg=> ?_)
 ·have hi':i<x.length:=by omega
  have hr:=hx.2 _ (List.getElem_mem hi')
  have hadd:vlQ x[i]=true->∀j (h:j<x.length),j<i+1->vlQ x[j]=true:=fun h j hj hji=>by
   by_cases e:j=i
   ·subst e;exact h
   ·exact h4 j hj (by omega)
  generalize hy:x[i]=y at *
  have c1:=Qq8 hr (by omega)
  have c2:=Qkx hr (by omega)
  simp+decide (disch:=try exact D2 h5 hy) only[go_sem,h5,hy]
  refine Qa hP c1 rfl rfl rfl ?_
  cases e1:shQ y.a y.d
  ·simp+decide (disch:=try exact D0) only[go_sem]
   refine Qa hP Qie rfl rfl rfl ?_
   simp+decide (disch:=try exact D0) only[go_sem]
   exact Qc rfl rfl
  simp+decide (disch:=try exact D2 h5 hy) only[go_sem,h5,hy]
  refine Qa hP c2 rfl rfl rfl ?_
  cases e2:Qeq y.n y.a y.d
  ·simp+decide (disch:=try exact D0) only[go_sem]
   refine Qa hP Qie rfl rfl rfl ?_
   simp+decide (disch:=try exact D0) only[go_sem]
   exact Qc rfl rfl
  simp+decide (disch:=try exact D1 h5) only[go_sem,h5]
  refine Qm (x.length-(i+1)) (by omega) ⟨i+1,rfl,by omega,hadd (by rw[vlQ,e1,e2];rfl),?_⟩
  simp+decide (disch:=try exact D0) only[go_sem]
 obtain rfl:i=x.length:=by omega
 have hall:∀q∈x,vlQ q=true:=fun q hq=>by
  obtain⟨j,hj,rfl⟩:=List.getElem_of_mem hq
  exact h4 j hj hj
 have hok:x.all Qhk=true:=by
  rw[List.all_eq_true]
  intro q hq
  have:=hall q hq
  simp only[vlQ,Bool.and_eq_true]at this
  exact this.2
 have hxr:PV.rqs x=PV.rats (x.map rqV):=Q07 hx hok
 have hxs:∀v∈x.map rqV,rs v<=2:=fun v hv=>by
  obtain⟨q,hq,rfl⟩:=List.mem_map.1 hv
  have:=hall q hq
  simp only[vlQ,shQ,Bool.and_eq_true,decide_eq_true_eq]at this
  have hr:=hx.2 q hq
  exact(show Raw 2 q.n q.a q.d from⟨hr.la,hr.ld,this.1.1,this.1.2,by omega⟩).rs
 have hxl2:(x.map rqV).length=x.length:=List.length_map _
 simp+decide (disch:=try exact D0) only[go_sem]
 refine Qw (by repeat (first|exact Qo|exact Qi|exact Qj|exact Qk|exact Ql|apply Qh|apply Qn|apply Qr|apply Qx|apply Qy|apply Qg|apply Qs)) [(4,4),(6,6),(46,59)] [] (fun q J hp=>∃i,q=l.length-i/\i<=l.length/\(∀j (h:j<l.length),j<i->Qhw 6 5 (4:Nat) l[j].p=true)/\J 6= .int .i64 (i:Nat)) l.length ?_ ?_
 ·refine⟨0,rfl,by omega,by omega,?_⟩
  simp+decide (disch:=try exact D0) only[go_sem]
  rfl
 rintro _ J2 h2' ⟨i,rfl,hi2,g4,g6⟩
 simp+decide (disch:=try exact D1 g6) only[go_sem,g6]
 refine Qb (fun hg2=> ?_) (fun hg2=> ?_)
 ·have hi':i<l.length:=by omega
  have hbt:=hb _ (List.getElem_mem hi')
  have hadd:Qhw 6 5 (4:Nat) l[i].p=true->∀j (h:j<l.length),j<i+1->Qhw 6 5 (4:Nat) l[j].p=true:=fun h j hj hji=>by
   by_cases e:j=i
   ·subst e;exact h
   ·exact g4 j hj (by omega)
  have c1:=Qyx (n:=6) (v:=5) (e:=(4:Nat)) hbt.p hk1 hk hbt.l
  generalize hy:l[i]=y at *
  simp+decide (disch:=try exact D2 g6 hy) only[go_sem,g6,hy]
  refine Qa hP c1 rfl rfl rfl ?_
  cases e1:Qhw 6 5 (4:Nat) y.p
  ·simp+decide (disch:=try exact D0) only[go_sem]
   refine Qa hP Qie rfl rfl rfl ?_
   simp+decide (disch:=try exact D0) only[go_sem]
   exact Qc rfl rfl
  simp+decide (disch:=try exact D1 g6) only[go_sem,g6]
  refine Qm (l.length-(i+1)) (by omega) ⟨i+1,rfl,by omega,hadd e1,?_⟩
  simp+decide (disch:=try exact D0) only[go_sem]
 obtain rfl:i=l.length:=by omega
 have hsm:∀s∈l,Qhw 6 5 (4:Nat) s.p=true:=fun s hs=>by
  obtain⟨j,hj,rfl⟩:=List.getElem_of_mem hs
  exact g4 j hj hj
 have c2:=Qarf hb hk1 hk hf
 simp+decide (disch:=try exact D0) only[go_sem]
 refine Qa hP c2 rfl rfl rfl ?_
 by_cases he:(Qps l).2=0
 case neg=>
  simp+decide (disch:=try exact D0) only[go_sem]
  refine Qb (fun _=> ?_) (fun h=>absurd he h)
  simp+decide (disch:=try exact D0) only[go_sem]
  refine Qa hP Qie rfl rfl rfl ?_
  simp+decide (disch:=try exact D0) only[go_sem]
  exact Qc rfl rfl
 have h0:Qgd l=0:=by
  unfold Qps at he
  split at he
  ·assumption
  ·exact he
 obtain⟨e1,e2,e3⟩:=Q4x hb hf h0
 have hR:Qps l=(Qfr (l.map RSq.sq),0):=by
  rw[Qps,if_pos h0]at he⊢
  cases hs:Qhx (l.map RSq.sq) []with
  |none=>rw[hs]at he;cases he
  |some r=>rw[Qvo hs];rfl
 have hml:∀y∈l.map RSq.sq,SqS y/\ML 5 y.2:=fun y hy=>by
  refine⟨(e2 y hy).1,?_⟩
  obtain⟨s,hs,rfl⟩:=List.mem_map.1 hy
  exact(Qvv (hb s hs).p (hsm s hs)).ml
 have hM:=Q5d hml _ (Nat.le_refl _)
 have hV:=Q2i (vs:=x.map rqV) e2 _ (Nat.le_refl _)
 obtain⟨b1,b2,b3⟩:=Qoe (fun y hy=>(e2 y hy).1) _ (Nat.le_refl _)
 have b8:=Qabk (l:=l.map RSq.sq) (fun y hy=>by
  refine⟨(e2 y hy).1.w,?_,(e2 y hy).1.l⟩
  obtain⟨s,hs,rfl⟩:=List.mem_map.1 hy
  exact(Qvv (hb s hs).p (hsm s hs)).b) _ (Nat.le_refl _)
 rw[List.take_length]at hM hV b2 b8
 have b8':PB 400 8 (Qfr (l.map RSq.sq)):=b8.mono (by omega) (by omega)
 have hpo:=hM.pout (vs:=x.map rqV) (by omega)
 have b2':(Qfr (l.map RSq.sq)).length<=180:=by omega
 rw[hR]at c2⊢
 rw[hxr]
 generalize Qfr (l.map RSq.sq)=S at *
 generalize x.map rqV=V at *
 have hB:S.length*(400+64*(1+2*8))<=180*(400+64*(1+2*8)):=Nat.mul_le_mul_right _ b2'
 have hev:=Q3h (p:=S) (vs:=V) (W:=2) b8' hxs (by omega) (by omega) (by omega) (by omega) (by omega)
 unfold evR at hev
 rw[hpo,if_neg (by decide)]at hev
 have hrs:=Qto b8' hxs (by omega) S.length (Nat.le_refl _)
 rw[List.take_length]at hrs
 have hsg:=Qfi (a:=Qbv V S) (by omega)
 have hsn:= @Ql4 (Qbv V S)
 have hnn:¬Qdy (Qbv V S)<0:=fun h=>by have:=hsn.1 h;grind
 generalize Qdy (Qbv V S)=z at *
 generalize Qbv V S=y at *
 simp+decide (disch:=try exact D0) only[go_sem]
 refine Qa hP hev rfl rfl rfl ?_
 simp+decide (disch:=try exact D0) only[go_sem]
 refine Qa hP hsg rfl rfl rfl ?_
 simp+decide (disch:=try exact D0) only[go_sem]
 rw[decide_eq_true (show 0<=z by omega)]
 simp+decide (disch:=try exact D0) only[go_sem]
 refine Qa hP Qie rfl rfl rfl ?_
 simp+decide (disch:=try exact D0) only[go_sem]
 exact Qc rfl rfl
open Go Go.FW Go.ChangeShapes Go.WideShapes Go.ChangeAt Go.RowKit
theorem Qqa{l:List RSq}{x:List RQ}(hl:Qr2 l)(hx:Qfh x):Qd Tryz.prog 7 [.sl 4 (l.map PV.rsq),PV.rqs x] (· = .bool true):=
 Qp0 (k:=1048576) (Qar8 hl) hx (by have:=hl.1;omega) (by omega) (by omega)
theorem Qmf(H:Type)(enc:TypeId×Value->H)(W:World)(base:Nat)(args:Array Value)(ds gs:List (DataW H))(before:List MemPlace)
  (Qdc:∀(j:Nat) t v,Tryz.f7.params[j]? =some t->args[j]? =some v->Value.okWide Tryz.prog W .any base t v)
  (hW:DataW.Whole enc Tryz.prog Tryz.f7.params.toList Rows.squaresPositiveSpec.vars false W args.toList ds gs before) (hk:Rows.uptoSmall H (ds++gs)=true):
  Calls Tryz.prog 7 args W fun e W'=>∃v,e= .returned v/\Rows.squaresPositiveSpec.post enc Tryz.prog Tryz.f7 false true false false W args v W':=by
 have hW':=hW
 obtain⟨p,q,hA0,hV,rfl,hfz,hnd⟩:=hW
 have hA:DataW.TrodAll enc Tryz.prog W 0 (fun _=>true) true Tryz.f7.params.toList args.toList ds p:=hA0
 rw[Tryz.params7]at hA Qdc
 obtain⟨v0,vs0,e0,ds0,p0,q0,hargs,rfl,rfl,h0,r0⟩:=trodAll_cons hA
 obtain⟨v1,vs1,e1,ds1,p1,q1,rfl,rfl,rfl,h1,r1⟩:=trodAll_cons r0
 obtain⟨rfl,rfl,rfl⟩:=trodAll_nil r1
 obtain rfl:args= #[v0,v1]:=by cases args;simp_all
 obtain⟨rfl,rfl⟩:=trodVars_none hV
 have hb:=Qae4 hk
 simp only[List.append_nil,Rows.uptoBulkAll]at hb
 obtain⟨a0,g0,b0⟩:=Q3v (Qdc 0 _ v0 rfl rfl) h0 (by omega)
 obtain⟨a1,g1,b1⟩:=Qae5 (Qdc 1 _ v1 rfl rfl) h1 (by omega)
 exact Qaah hW' rfl (by kernel_rfl) (by kernel_rfl) rfl (Qqa b0 b1) rfl
  (Qae6 (vs:=[v0,v1]) (by
   intro i x hx v hv
   match i,hx,hv with
   |0,hx,hv=>simp at hx hv;subst hx hv;exact g0
   |1,hx,hv=>simp at hx hv;subst hx hv;exact g1
   |i+2,hx,hv=>simp at hx) rfl)
theorem Qnt(os:Os)(started:os.Started)(H:Type)(enc:TypeId×Value->H)(F:Stop.Interp):
  ReturnsInHanded {} Tryz.checked os 7 .any ((Rows.OpenSpec.upto Rows.squaresPositiveSpec).pre6 enc Tryz.prog Tryz.f7 Rows.squaresPositiveUptoRow.domain false) (((Rows.OpenSpec.upto Rows.squaresPositiveSpec).at F).post enc Tryz.prog Tryz.f7 false true false false):=by
 refine returnsInHanded_of_cond (C:=Tryz.checked) (s:=Rows.OpenSpec.upto Rows.squaresPositiveSpec) (k:=Rows.uptoSmall) rfl own started (by kernel_rfl) Tryz.func7
  (OpenSpec.witness (enc:=enc) (C:=Tryz.checked) (s:=Rows.OpenSpec.upto Rows.squaresPositiveSpec) (k:=Rows.uptoSmall) rfl false ⟨#[],#[.slice none 0 0,.slice none 0 0],[]⟩ 8 (by kernel_rfl) (by kernel_rfl) (by kernel_rfl)
   (x:=([.nil,.nil],[],[])) (by kernel_rfl) rfl (by kernel_rfl)) ?_
 intro W base args ds gs before Qdc hW _ hk _
 exact Qmf H enc W base args ds gs before Qdc hW hk
theorem squaresPositive_proved:Rows.SquaresPositiveUptoSaid:=
 OpenClaim.holds_of_cond 7 Tryz.f7 rfl rfl rfl rfl rfl rfl rfl ⟨rfl,rfl,rfl,rfl,rfl⟩ rfl rfl rfl rfl rfl (by kernel_rfl) Tryz.func7 (by kernel_rfl)
  (of_decide_eq_true (by kernel_rfl)) (by unfold Func.isWrapper;first|(rw[if_pos (by decide+kernel)];kernel_rfl)|(rw[if_neg (by decide+kernel)];exact⟨rfl,rfl⟩))
  (fun os started H enc _ F=>Qnt os started H enc F)
end Go.Proofs.YtkoclfmjlolkhaaGreat
