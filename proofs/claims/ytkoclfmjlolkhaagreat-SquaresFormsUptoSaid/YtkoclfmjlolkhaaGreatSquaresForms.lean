/- SquaresForms: FromGram of a Gram matrix writes the same sum of squares -/
import Derived.Test.YtkoclfmjlolkhaaGreatSquaresFormsPart16
set_option linter.unusedSimpArgs false
set_option linter.unusedVariables false
set_option linter.unnecessarySimpa false
set_option maxRecDepth 100000
namespace Go.Proofs.YtkoclfmjlolkhaaGreat
open Go Go.FW
theorem Qagq(v:Nat):varM v=Qc5 v 1:=rfl
theorem Qsr{v:Nat}(hv:v<64):Qd Tryz.prog 67 [.int .i64 v] (· =PV.poly (Qd0 v)):=by
 have hset:(List.replicate (v+1) (0:Int)).set v 1=Qc5 v 1:=Q00 v 1 rfl
 have hlr:v<(List.replicate (v+1) (0:Int)).length:=by simp
 have hone:=Qql
 have hxl:(Qc5 v 1).length=v+1:=by simp[Qc5]
 have hadd:=(Qm7 (p:=[]) (m:=Qc5 v 1) (K:=1) (E:=1) (k:=4) (PB.nil _ _) trivial (by simp[NZ]) (Qb9 (q:=((1:Int):Rat)) (k:=4) (by rw[show((1:Int):Rat)=1 from rfl];omega)) (by omega) (Q3v hv) (Qxe (by omega)) (by omega) (by omega) (by simp)).le (args':=[.nilS,PV.rat ((1:Int):Rat),PV.mono (Qc5 v 1)]) ⟨trivial,Qac _,Qac _,trivial⟩
 rw[Qck]at hadd
 have e:Qen [] ((1:Int):Rat) (Qc5 v 1)=Qd0 v:=by
  rw[Qen,Qh4,if_neg (by decide),Qd0,if_neg (by omega),Int.toNat_natCast,Qagq];rfl
 rw[e]at hadd
 refine Qf Qq Tryz.func67 rfl Qaox (by simp[c67]) fun C hP=> ?_;simp only[c67,Zo,Zg,Zm,Zc,Zf,Zl,Zh,Zs,Zi,Zb,Zk,Zn,Zu,Zq,Zr,Zz]
 simp+decide (disch:=try exact D0) only[go_sem]
 refine Qam (fun h=>by omega) (fun _=> ?_)
 simp+decide (disch:=try exact D0) only[go_sem]
 refine Qb (fun h=>by omega) (fun _=> ?_)
 simp+decide (disch:=try exact D1 hset) only[go_sem,hset]
 refine Qa hP (Qiw (x:=1) (by omega) (by omega)) rfl rfl rfl ?_
 generalize((1:Int):Rat)=c at *
 simp+decide (disch:=try exact D0) only[go_sem]
 refine Qdy hP hadd (by simp+decide (disch:=try exact E0) only[go_sem,Qab,List.contains_cons,List.contains_nil,List.flatMap_cons,List.flatMap_nil,List.append_nil];simp[List.take_of_length_le,hxl]) rfl ?_
 simp+decide (disch:=try exact D0) only[go_sem]
 exact Qc rfl rfl
def c21:SFn:=⟨73,[.t 0],Zr (Zo (.mv 0 (.c (.bool false))) .nil)<|Zr (Zq 10 false 67 [.c (Zz 0)]<|
 Zq 11 false 67 [.c (Zz 1)]<|
 Zm 1 10<|
 Zm 2 11 .nil)<|Zr (Zm 12 1<|
 Zm 13 2<|
 Zq 14 false 68 [.t 12,.t 13]<|
 Zm 3 14 .nil)<|Zr (Zm 16 3<|
 Zm 17 3<|
 Zq 18 false 69 [.t 16,.t 17]<|
 Zq 19 false 22 [.t 18]<|
 Zm 15 19<|
 Zo (.ext 20 (.t 15) 0)<|
 Zo (.ext 21 (.t 15) 1)<|
 Zo (.ext 22 (.t 15) 2)<|
 Zm 4 20<|
 Zm 5 21<|
 Zm 6 22 .nil)<|Zr (Zm 24 1<|
 Zm 25 1<|
 Zq 26 false 69 [.t 24,.t 25]<|
 Zq 27 false 50 [.c (Zz 1)]<|
 Zq 28 false 70 [.t 27]<|
 Zq 29 false 68 [.t 26,.t 28]<|
 Zq 30 false 22 [.t 29]<|
 Zm 23 30<|
 Zo (.ext 31 (.t 23) 0)<|
 Zo (.ext 32 (.t 23) 1)<|
 Zo (.ext 33 (.t 23) 2)<|
 Zm 7 31<|
 Zm 8 32<|
 Zm 9 33 .nil)<| .seq (Zr (Zm 34 6<|
 Zk 35 .neq 34 0<|
 Zm 36 35<|
 Zg 36 false (.mv 37 (.t 9))<|
 Zg 36 false (.bin 38 .neq false (.t 37) (.c (Zz 17)))<|
 Zo (.pick 39 (.t 36) (.c (.bool true)) (.t 38))<|
 Zm 40 39<|
 Zg 40 false (.mv 41 (.t 4))<|
 Zg 40 false (.len 42 (.t 41))<|
 Zg 40 false (.bin 43 .neq false (.t 42) (.c (Zz 1)))<|
 Zo (.pick 44 (.t 40) (.c (.bool true)) (.t 43))<|
 Zm 45 44<|
 Zg 45 false (.mv 46 (.t 8))<|
 Zg 45 false (.len 47 (.t 46))<|
 Zg 45 false (.bin 48 .neq false (.t 47) (.c (Zz 1)))<|
 Zo (.pick 49 (.t 45) (.c (.bool true)) (.t 48)) .nil)<| .cond (.t 49) (Zr (Zo (.mv 0 (.c (.bool false))) .nil) .ret) .skip)<|Zr (Zm 50 4<|
 Zo (.idx 51 4 (.t 50) (.c (Zz 0)))<|
 Zf 52 0 51<|
 Zh 53 3 52<|
 Zq 54 true 50 [.c (Zz 1)]<|
 Zq 55 true 49 [.t 53,.t 54]<|
 Zm 56 55<|
 Zg 56 true (.mv 57 (.t 4))<|
 Zg 56 true (.idx 58 4 (.t 57) (.c (Zz 0)))<|
 Zg 56 true (.fld 59 3 (.t 58))<|
 Zg 56 true (.ld 60 1 false (.t 59))<|
 Zg 56 true (.mv 61 (.t 3))<|
 Zg 56 true (.call (some 62) true (.c (.fn 40 [] [])) [.t 60,.t 61])<|
 Zg 56 true (.mv 63 (.t 62))<|
 Zg 63 false (.mv 64 (.t 4))<|
 Zg 63 false (.idx 65 4 (.t 64) (.c (Zz 0)))<|
 Zg 63 false (.fld 66 3 (.t 65))<|
 Zg 63 false (.ld 67 1 false (.t 66))<|
 Zg 63 false (.mv 68 (.t 3))<|
 Zg 63 false (.call (some 69) true (.c (.fn 71 [] [])) [.t 68])<|
 Zg 63 false (.call (some 70) true (.c (.fn 40 [] [])) [.t 67,.t 69])<|
 Zg 56 true (.pick 71 (.t 63) (.c (.bool true)) (.t 70))<|
 Zo (.pick 72 (.t 56) (.t 71) (.c (.bool false)))<|
 Zm 0 72 .nil) .ret⟩
theorem Qaqg:Qe Tryz.prog Tryz.f21=some c21:=by kernel_rfl
def aD:List Tm:=psub (Qd0 0) (Qd0 1)
def aP1:List Tm:=Qhg aD aD
def aP2:List Tm:=psub (Qhg (Qd0 0) (Qd0 0)) (Qhn 1)
def aB1:List (List Int):=[[1],[0,1],[]]
def aB2:List (List Int):=[[1],[]]
def aG1:List Rat:=[1,-1,0,-1,1,0,0,0,0]
def aG2:List Rat:=[1,0,0,-1]
theorem a_b1:bsP aP1=aB1:=by decide+kernel
theorem a_b2:bsP aP2=aB2:=by decide+kernel
theorem a_g1:Qju aP1 aB1=aG1:=by decide+kernel
theorem a_g2:Qju aP2 aB2=aG2:=by decide+kernel
theorem Qaqh:((Qal 3 (Qai aG1 3) (2*3)).2.all fun f=>decide (0<=f.1))=true:=by decide+kernel
theorem Qarn:(Qal 3 (Qai aG1 3) (2*3)).2.map (fgS aB1)=[(1,aD)]:=by decide+kernel
theorem Qaqi:((Qal 2 (Qai aG2 2) (2*2)).2.all fun f=>decide (0<=f.1))=false:=by decide+kernel
theorem a_w2:(Qal 2 (Qai aG2 2) (2*2)).2.map (·.1)=[1,-1]:=by decide+kernel
theorem a_f2:Qb8 2 (Qal 2 (Qai aG2 2) (2*2)).2=[1,0,0,1]:=by decide+kernel
theorem a_l2:(Qal 2 (Qai aG2 2) (2*2)).2.length=2:=by decide+kernel
theorem a_c1:cfE aB1 3 3 (aG1.map qR)=0:=by decide+kernel
theorem a_c2:cfE aB2 2 2 (aG2.map qR)=0:=by decide+kernel
theorem a_s1:Qhk (Qai aG1 3) 3:=by decide+kernel
theorem a_s2:Qhk (Qai aG2 2) 2:=by decide+kernel
theorem Qaro:Qhi (aP1.map toR)=true:=by decide+kernel
theorem Qarp:Qhi (aP2.map toR)=true:=by decide+kernel
theorem Qq0{p:List Tm}(hb:PB 10 10 p)(hl:p.length<=10)(h:Qhi (p.map toR)=true):Qd Tryz.prog 72 [PV.poly p] (· = .bool true):=by
 have h1:=Q2h (l:=p.map toR) (k:=10) (fun t ht=>by
  obtain⟨s,hs,rfl⟩:=List.mem_map.1 ht
  have:=(hb s hs).c
  exact Q0i (by omega) (by have:=(hb s hs).m.len;omega)) (by omega) (by omega) (by rw[List.length_map];omega)
 rwa[Qs8,h]at h1
theorem Q1n{l:List Rat}(h:∀q∈l,rs q<=3)(hl:l.length<=25):Qdw (l.map qR):=⟨by rw[List.length_map];omega,RRk.of fun q hq=>by have:=h q hq;omega⟩
theorem Qarq:Qd Tryz.prog 29 [PV.monos aB1,PV.mat 3 3 aG1] (· = .tup [PV.sqs [(1,aD)],.int .i64 0]):=by
 have hs:∀q∈aG1,rs q<=3:=by decide+kernel
 have c:=Qpj (bs:=aB1) (r:=3) (c:=3) (by decide) (by decide) (Q1n hs (by decide))
 rw[a_c1]at c
 have hm:PV.mat 3 3 aG1=PV.rmat 3 3 (aG1.map qR):=Qiu 3 3 aG1
 rw[<-hm]at c
 obtain⟨fs,hfs,d1,_,d3,d4⟩:=Qtd (R:=3) (la:=aG1) (by decide) (by omega) hs a_s1
 have h:=Qje (K:=50421) (R:=3) (bs:=aB1) ⟨rfl,by decide,by omega,by omega,d4,by omega,by omega⟩ c d1
 rw[hfs,fgR,if_pos Qaqh,Qarn]at h
 exact h
theorem Qaan:Qd Tryz.prog 48 [PV.mat 2 2 aG2] (· = .tup [PV.rats [1,-1],PV.mat 2 2 [1,0,0,1],.int .i64 0])/\Qd Tryz.prog 29 [PV.monos aB2,PV.mat 2 2 aG2] (· = .tup [PV.sqs [],.int .i64 17]):=by
 have hs:∀q∈aG2,rs q<=3:=by decide+kernel
 have c:=Qpj (bs:=aB2) (r:=2) (c:=2) (by decide) (by decide) (Q1n hs (by decide))
 rw[a_c2]at c
 have hm:PV.mat 2 2 aG2=PV.rmat 2 2 (aG2.map qR):=Qiu 2 2 aG2
 rw[<-hm]at c
 obtain⟨fs,hfs,d1,_,d3,d4⟩:=Qtd (R:=2) (la:=aG2) (by decide) (by omega) hs a_s2
 have h:=Qje (K:=50421) (R:=2) (bs:=aB2) ⟨rfl,by decide,by omega,by omega,d4,by omega,by omega⟩ c d1
 rw[hfs,fgR,if_neg (by rw[Qaqi];decide)]at h
 rw[hfs,Qph,a_w2,a_l2,a_f2]at d1
 exact⟨d1,h⟩
theorem Qamm:Q1l (Qbn 2 (Qg0 (Qai [1,0,0,1] 2) (Qfm [0,1]) 2) 2) 2 2= .tup [PV.rats [0,1],.int .i64 0]:=by
 have h0:∀r,r<2->(Qbn 2 (Qg0 (Qai [1,0,0,1] 2) (Qfm [0,1]) 2) 2).piv.length<=r->(Qbn 2 (Qg0 (Qai [1,0,0,1] 2) (Qfm [0,1]) 2) 2).M r 2=0:=by
  have e:(Qbn 2 (Qg0 (Qai [1,0,0,1] 2) (Qfm [0,1]) 2) 2).piv.length=2:=by decide+kernel
  intro r hr h;omega
 rw[Q1l,if_pos h0]
 have e:(List.range 2).map (Qpl (Qbn 2 (Qg0 (Qai [1,0,0,1] 2) (Qfm [0,1]) 2) 2).M (Qbn 2 (Qg0 (Qai [1,0,0,1] 2) (Qfm [0,1]) 2) 2).piv 2 (Qbn 2 (Qg0 (Qai [1,0,0,1] 2) (Qfm [0,1]) 2) 2).piv.length)=[0,1]:=by decide+kernel
 have key:∀f:Nat->Rat,(List.range 2).map f=[0,1]->Qad PV.rat f 2=[(0:Rat),1].map PV.rat:=fun f h=>by rw[<-h,List.map_map];rfl
 rw[key _ e]
theorem Qamn:Qd Tryz.prog 138 [PV.mat 2 2 [1,0,0,1],.int .i64 ((1:Nat):Int)] (· =PV.rats [0,1]):=by
 have hu:Qjv 2 1=[0,1]:=by decide+kernel
 have hs:∀q∈([1,0,0,1]:List Rat),rs q<=3:=by decide+kernel
 have hs2:∀q∈([0,1]:List Rat),rs q<=3:=by decide+kernel
 have hB:Q51 (3*3125) 2 3 2 (Qg0 (Qai [1,0,0,1] 2) (Qfm [0,1]) 2):=Qal1 (by omega) (fun r _ c _=>by
  unfold Qg0;split
  ·exact Qage (by omega) hs2 r
  ·exact Qjd (by omega) hs) (by omega) (.inl (by omega))
 have h:=Qaml (R:=2) (m:=2) (l:=[1,0,0,1]) (b:=[0,1]) rfl rfl (by omega) (by omega) (by omega) (fun q hq=>by have:=hs q hq;omega) (fun q hq=>by have:=hs2 q hq;omega) (by omega) hB
 rw[Qamm,<-hu]at h
 rw[hu]at h
 exact Qagp (R:=2) (n:=2) (a:=1) (by omega) (by rw[hu];exact h)
theorem Qarr:Qd Tryz.prog 75 [PV.poly aP2,PV.monos aB2,PV.mat 2 2 aG2] (· =PV.rats [0]):=by
 have e:([(0:Rat),1].map (· /1))=[0,1]:=by decide+kernel
 have hsp:=Qaam (bs:=aB2) (x:=[0,1]) (by decide) (by decide) (by decide) (by decide) (by decide)
 rw[show Qg1 aB2 [0,1] (aB2.length-1)=[0]by decide+kernel]at hsp
 exact Q22 (a:=1) (m:=1) (x:=[0,1]) (c:=1) Qaan.1 (by decide) (by decide) (by decide+kernel) (by decide+kernel) (by decide+kernel) Qamn rfl (by omega) (by decide+kernel) rfl (by decide+kernel) (by rw[e];exact hsp)
theorem a_Q1:Qd Tryz.prog 22 [PV.poly aP1] (· = .tup [PV.sqs [(1,aD)],PV.rats [],.int .i64 0]):=by
 have hb:PB 10 10 aP1:=Qpm (by decide+kernel)
 have hF:=Qarq
 rw[<-a_g1,<-a_b1]at hF
 exact Qms (K:=10) (E:=10) hb (by omega) (by omega) (by omega) (by decide+kernel) (Qq0 hb (by decide+kernel) Qaro) (by decide+kernel) (by rw[a_b1];decide) (by rw[a_b1]at hF ⊢;exact hF) (fun h=>by cases h) (fun _=>rfl)
theorem a_Q2:Qd Tryz.prog 22 [PV.poly aP2] (· = .tup [PV.sqs [],PV.rats [0],.int .i64 17]):=by
 have hb:PB 10 10 aP2:=Qpm (by decide+kernel)
 have hF:=Qaan.2
 have hN:=Qarr
 rw[<-a_g2]at hF hN
 exact Qms (K:=10) (E:=10) hb (by omega) (by omega) (by omega) (by decide+kernel) (Qq0 hb (by decide+kernel) Qarp) (by decide+kernel) (by rw[a_b2];decide) (by rw[a_b2];exact hF) (fun _=>⟨rfl,by rw[a_b2];exact hN⟩) (fun h=>absurd rfl h)
def c8:SFn:=⟨48,[.t 4],Zr (Zo (.mv 4 (.c (.bool false))) .nil)<| .seq (Zr (Zm 9 1<|
 Zq 10 false 33 [.t 9]<|
 Zu 11 10<|
 Zm 12 11<|
 Zg 12 false (.mv 13 (.t 0))<|
 Zg 12 false (.call (some 14) false (.c (.fn 18 [] [])) [.t 13])<|
 Zg 12 false (.un 15 .not (.t 14))<|
 Zo (.pick 16 (.t 12) (.c (.bool true)) (.t 15)) .nil)<| .cond (.t 16) (Zr (Zq 17 false 21 []<|
 Zm 4 17 .nil) .ret) .skip)<|Zr (Zm 19 1<|
 Zq 20 false 36 [.t 19]<|
 Zm 18 20<|
 Zo (.ext 21 (.t 18) 0)<|
 Zo (.ext 22 (.t 18) 1)<|
 Zm 5 21<|
 Zm 6 22 .nil)<|Zr (Zm 24 1<|
 Zq 25 false 39 [.t 24]<|
 Zm 23 25<|
 Zo (.ext 26 (.t 23) 0)<|
 Zo (.ext 27 (.t 23) 1)<|
 Zm 7 26<|
 Zm 8 27 .nil)<|Zr (Zm 28 5<|
 Zm 29 7<|
 Zq 30 false 40 [.t 28,.t 29]<|
 Zm 31 30<|
 Zg 31 true (.mv 32 (.t 6))<|
 Zg 31 true (.mv 33 (.t 8))<|
 Zg 31 true (.bin 34 .eql false (.t 32) (.t 33))<|
 Zo (.pick 35 (.t 31) (.t 34) (.c (.bool false)))<|
 Zm 36 35<|
 Zg 36 true (.mv 37 (.t 0))<|
 Zg 36 true (.mv 38 (.t 1))<|
 Zg 36 true (.call (some 39) false (.c (.fn 41 [] [])) [.t 37,.t 38])<|
 Zg 36 true (.mv 40 (.t 0))<|
 Zg 36 true (.mv 41 (.t 1))<|
 Zg 36 true (.call (some 42) false (.c (.fn 42 [] [])) [.t 40,.t 41])<|
 Zg 36 true (.bin 43 .eql false (.t 39) (.t 42))<|
 Zo (.pick 44 (.t 36) (.t 43) (.c (.bool false)))<|
 Zm 45 44<|
 Zg 45 true (.call (some 46) false (.c (.fn 21 [] [])) [])<|
 Zo (.pick 47 (.t 45) (.t 46) (.c (.bool false)))<|
 Zm 4 47 .nil) .ret⟩
def c5:SFn:=⟨37,[.t 4],Zr (Zo (.box 3 3 24 (.t 1))<|
 Zo (.mv 4 (.c (.bool false))) .nil)<| .seq (Zr (Zm 9 0<|
 Zh 10 3 3<|
 Zq 11 false 28 [.t 9,.t 10]<|
 Zu 12 11 .nil)<| .cond (.t 12) (Zr (Zq 13 false 21 []<|
 Zm 4 13 .nil) .ret) .skip)<|Zr (Zm 15 0<|
 Zh 16 3 3<|
 Zq 17 false 29 [.t 15,.t 16]<|
 Zm 14 17<|
 Zo (.ext 18 (.t 14) 0)<|
 Zo (.ext 19 (.t 14) 1)<|
 Zm 5 18<|
 Zm 6 19 .nil)<|Zr (Zm 21 0<|
 Zh 22 3 3<|
 Zq 23 false 30 [.t 21,.t 22]<|
 Zm 20 23<|
 Zo (.ext 24 (.t 20) 0)<|
 Zo (.ext 25 (.t 20) 1)<|
 Zm 7 24<|
 Zm 8 25 .nil)<|Zr (Zm 26 5<|
 Zm 27 7<|
 Zq 28 false 24 [.t 26,.t 27]<|
 Zm 29 28<|
 Zg 29 true (.mv 30 (.t 6))<|
 Zg 29 true (.mv 31 (.t 8))<|
 Zg 29 true (.bin 32 .eql false (.t 30) (.t 31))<|
 Zo (.pick 33 (.t 29) (.t 32) (.c (.bool false)))<|
 Zm 34 33<|
 Zg 34 true (.call (some 35) false (.c (.fn 21 [] [])) [])<|
 Zo (.pick 36 (.t 34) (.t 35) (.c (.bool false)))<|
 Zm 4 36 .nil) .ret⟩
theorem Qars:Qe Tryz.prog Tryz.f5=some c5:=by kernel_rfl
theorem Q4i:Qd Tryz.prog 21 [] (· = .bool true):=by
 have hv0:Qd Tryz.prog 67 [.int .i64 0] (· =PV.poly (Qd0 0)):=Qsr (v:=0) (by omega)
 have hv1:Qd Tryz.prog 67 [.int .i64 1] (· =PV.poly (Qd0 1)):=Qsr (v:=1) (by omega)
 have p0:PB 10 10 (Qd0 0):=Qpm (by decide+kernel)
 have p1:PB 10 10 (Qd0 1):=Qpm (by decide+kernel)
 have pc:PB 10 10 (Qhn 1):=Qpm (by decide+kernel)
 have pd:PB 10 10 aD:=Qpm (by decide+kernel)
 have pm:PB 10 10 (Qhg (Qd0 0) (Qd0 0)):=Qpm (by decide+kernel)
 have n0:Nrm (Qd0 0):=Qvf (by decide+kernel)
 have n1:Nrm (Qd0 1):=Qvf (by decide+kernel)
 have nc:Nrm (Qhn 1):=Qvf (by decide+kernel)
 have nd:Nrm aD:=Qvf (by decide+kernel)
 have l0:(Qd0 0).length=1:=by decide+kernel
 have l1:(Qd0 1).length=1:=by decide+kernel
 have lc:(Qhn 1).length=1:=by decide+kernel
 have ld:aD.length=2:=by decide+kernel
 have lm:(Qhg (Qd0 0) (Qd0 0)).length=1:=by decide+kernel
 have hs1:Qd Tryz.prog 68 [PV.poly (Qd0 0),PV.poly (Qd0 1)] (· =PV.poly aD):=Qsm p0 p1 n1.z (by omega) (by omega) (by omega) (by omega) (by omega)
 have hs2:Qd Tryz.prog 68 [PV.poly (Qhg (Qd0 0) (Qd0 0)),PV.poly (Qhn 1)] (· =PV.poly aP2):=Qsm pm pc nc.z (by omega) (by omega) (by omega) (by omega) (by omega)
 have hm1:=Qsl pd pd nd.z nd.z (by omega) (by omega) (by omega) (by rw[ld];decide) (by rw[ld];decide)
 rw[Q0d nd nd]at hm1
 have hm1:Qd Tryz.prog 69 [PV.poly aD,PV.poly aD] (· =PV.poly aP1):=hm1
 have hm2:=Qsl p0 p0 n0.z n0.z (by omega) (by omega) (by omega) (by rw[l0];decide) (by rw[l0];decide)
 rw[Q0d n0 n0]at hm2
 have ho1:Qd Tryz.prog 50 [.int .i64 1] (· =PV.rat 1):=Qiw (x:=1) (by omega) (by omega)
 have hco:Qd Tryz.prog 70 [PV.rat 1] (· =PV.poly (Qhn 1)):=Q6a (a:=1) (k:=4) (by decide+kernel) (by omega)
 have he1:=Qpb (a:=1) (b:=1) (k:=4) (by decide+kernel) (by decide+kernel) (by omega)
 rw[decide_eq_true rfl]at he1
 have he2:=Qpx pd pd (by omega) (by omega) (by omega) (by omega)
 rw[decide_eq_true rfl]at he2
 have q1:=a_Q1
 have q2:=a_Q2
 clear p0 p1 pc pd pm n0 n1 nc nd l0 l1 lc lm
 generalize Qhg (Qd0 0) (Qd0 0)=M at *
 generalize Qhn 1=O at *
 generalize Qd0 0=V0 at *
 generalize Qd0 1=V1 at *
 generalize aP1=P1 at *
 generalize aP2=P2 at *
 generalize aD=D at *
 refine Qf Qq Tryz.func21 rfl Qaqg (by simp[c21]) fun C hP=> ?_;simp only[c21,Zo,Zg,Zm,Zc,Zf,Zl,Zh,Zs,Zi,Zb,Zk,Zn,Zu,Zq,Zr,Zz]
 simp+decide (disch:=try exact D0) only[go_sem]
 refine Qa hP hv0 rfl rfl rfl ?_
 simp+decide (disch:=try exact D0) only[go_sem]
 refine Qa hP hv1 rfl rfl rfl ?_
 simp+decide (disch:=try exact D0) only[go_sem]
 refine Qa hP hs1 rfl rfl rfl ?_
 simp+decide (disch:=try exact D0) only[go_sem]
 refine Qa hP hm1 rfl rfl rfl ?_
 simp+decide (disch:=try exact D0) only[go_sem]
 refine Qa hP q1 rfl rfl rfl ?_
 simp+decide (disch:=try exact D0) only[go_sem]
 refine Qa hP hm2 rfl rfl rfl ?_
 simp+decide (disch:=try exact D0) only[go_sem]
 refine Qa hP ho1 rfl rfl rfl ?_
 simp+decide (disch:=try exact D0) only[go_sem]
 refine Qa hP hco rfl rfl rfl ?_
 simp+decide (disch:=try exact D0) only[go_sem]
 refine Qa hP hs2 rfl rfl rfl ?_
 simp+decide (disch:=try exact D0) only[go_sem]
 refine Qa hP q2 rfl rfl rfl ?_
 simp+decide (disch:=try exact D0) only[go_sem]
 refine Qa hP ho1 rfl rfl rfl ?_
 simp+decide (disch:=try exact D0) only[go_sem]
 refine Qa hP he1 rfl rfl rfl ?_
 simp+decide (disch:=try exact D0) only[go_sem]
 refine Qa hP he2 rfl rfl rfl ?_
 simp+decide (disch:=try exact D0) only[go_sem]
 exact Qc rfl rfl
theorem Qrm{bs:List (List Int)}{r c:Int}{l:List RQ}(hbl:bs.length<2^40)(hb:∀b∈bs,b.length<2^40)(hl:Qdw l):Qd Tryz.prog 5 [PV.monos bs,PV.rmat r c l] (· = .bool true):=by
 have h1:=Q6j (r:=r) (c:=c) hbl hb hl
 refine Qf Qq Tryz.func5 rfl Qars (by simp[c5]) fun C hP=> ?_;simp only[c5,Zo,Zg,Zm,Zc,Zf,Zl,Zh,Zs,Zi,Zb,Zk,Zn,Zu,Zq,Zr,Zz]
 simp+decide (disch:=try exact D0) only[go_sem]
 refine Qa hP h1 rfl rfl rfl ?_
 cases hm:mxB bs l
 ·simp+decide (disch:=try exact D0) only[go_sem]
  refine Qa hP Q4i rfl rfl rfl ?_
  simp+decide (disch:=try exact D0) only[go_sem]
  exact Qc rfl rfl
 obtain⟨L,e,f1,f2,f3,f4⟩:=Qap6 (r:=r) (c:=c) hm hl
 have f5:=Qve f3 (by omega)
 simp+decide (disch:=try exact D0) only[go_sem]
 refine Qa hP f1 rfl rfl rfl ?_
 simp+decide (disch:=try exact D0) only[go_sem]
 refine Qa hP f2 rfl rfl rfl ?_
 simp+decide (disch:=try exact D0) only[go_sem]
 refine Qa hP f5 rfl rfl rfl ?_
 simp+decide (disch:=try exact D0) only[go_sem]
 refine Qa hP Q4i rfl rfl rfl ?_
 simp+decide (disch:=try exact D0) only[go_sem]
 exact Qc rfl rfl
open Go Go.FW Go.ChangeShapes Go.WideShapes Go.ChangeAt Go.RowKit
variable {H : Type} {enc : TypeId × Value -> H}
def Q1o(bs:List (List Int)):Prop:=bs.length<=1048576/\∀b∈bs,b.length<=1048576/\∀x∈b,-9223372036854775808<=x/\x<=9223372036854775807
theorem Qvg:Tryz.prog.cellsOf 93=1:=by kernel_rfl
theorem Qagt:Rd enc 55 fun ps=>∃bs:List (List Int),ps=[PV.monos bs]/\Q1o bs:=by
 refine(Qjl (α:=List Int) (f:=PV.mono) (G:=fun b=>b.length<=1048576/\∀x∈b,-9223372036854775808<=x/\x<=9223372036854775807) Qb1 Tryz.underlying55 (by rw[Qvg];omega) Qajx).mono ?_
 rintro ps ⟨l,rfl,h1,h2⟩
 exact⟨l,by rw[Qvg],h1,h2⟩
variable {w : World} {base : Nat} {spare : Nat -> Bool} {held : Bool} {r : Reach} {b0 : Nat} {v : Value} {d : DataW H} {ps : List MemPlace}
theorem Qaao(Qc0:Value.okWide Tryz.prog w r b0 55 v)(hd:DataW.Trod enc Tryz.prog w base spare held 55 v d ps)(hn:Rows.uptoBulk d<=1048576):∃bs,Qar w Qbs (PV.monos bs) v/\Q1o bs:=by
 obtain⟨p,⟨l,e,h⟩,h2⟩:=Q8m Tryz.underlying55 Qc0 Qagt hd hn
 obtain rfl:p=PV.monos l:=by simpa using e
 exact⟨l,h2,h⟩
theorem Qtg{bs:List (List Int)}{r c:Int}{l:List RQ}(hb:Q1o bs)(h:I64' r/\I64' c/\Qdw l):Qd Tryz.prog 5 [PV.monos bs,PV.rmat r c l] (· = .bool true):=
 Qrm (by have:=hb.1;omega) (fun b h=>by have:=(hb.2 b h).1;omega) h.2.2
end Go.Proofs.YtkoclfmjlolkhaaGreat
namespace Go.Proofs.YtkoclfmjlolkhaaGreat
open Go Go.FW Go.ChangeShapes Go.WideShapes Go.ChangeAt Go.RowKit
theorem Qny(H:Type)(enc:TypeId×Value->H)(W:World)(base:Nat)(args:Array Value)(ds gs:List (DataW H))(before:List MemPlace)
  (Qc0:∀(j:Nat) t v,Tryz.f5.params[j]? =some t->args[j]? =some v->Value.okWide Tryz.prog W .any base t v)
  (hW:DataW.Whole enc Tryz.prog Tryz.f5.params.toList Rows.squaresFormsSpec.vars false W args.toList ds gs before) (hk:Rows.uptoSmall H (ds++gs)=true):
  Calls Tryz.prog 5 args W fun e W'=>∃v,e= .returned v/\Rows.squaresFormsSpec.post enc Tryz.prog Tryz.f5 false true false false W args v W':=by
 have hW':=hW
 obtain⟨p,q,hA0,hV,rfl,hfz,hnd⟩:=hW
 have hA:DataW.TrodAll enc Tryz.prog W 0 (fun _=>true) true Tryz.f5.params.toList args.toList ds p:=hA0
 rw[Tryz.params5]at hA Qc0
 obtain⟨v0,vs0,e0,ds0,p0,q0,hargs,rfl,rfl,h0,r0⟩:=trodAll_cons hA
 obtain⟨v1,vs1,e1,ds1,p1,q1,rfl,rfl,rfl,h1,r1⟩:=trodAll_cons r0
 obtain⟨rfl,rfl,rfl⟩:=trodAll_nil r1
 obtain rfl:args= #[v0,v1]:=by cases args;simp_all
 obtain⟨rfl,rfl⟩:=trodVars_none hV
 have hb:=Qaeb hk
 simp only[List.append_nil,Rows.uptoBulkAll]at hb
 obtain⟨a0,g0,b0⟩:=Qaao (Qc0 0 _ v0 rfl rfl) h0 (by omega)
 obtain⟨r1,c1,l1,g1,b1⟩:=Q52 (Qc0 1 _ v1 rfl rfl) h1 (by omega)
 exact Q9i hW' rfl (by kernel_rfl) (by kernel_rfl) rfl (Qtg b0 b1) rfl
  (Qaec (vs:=[v0,v1]) (by
   intro i x hx v hv
   match i,hx,hv with
   |0,hx,hv=>simp at hx hv;subst hx hv;exact g0
   |1,hx,hv=>simp at hx hv;subst hx hv;exact g1
   |i+2,hx,hv=>simp at hx) rfl)
theorem Qpz(os:Os)(started:os.Started)(H:Type)(enc:TypeId×Value->H)(F:Stop.Interp):
  ReturnsInHanded {} Tryz.checked os 5 .any ((Rows.OpenSpec.upto Rows.squaresFormsSpec).pre6 enc Tryz.prog Tryz.f5 Rows.squaresFormsUptoRow.domain false) (((Rows.OpenSpec.upto Rows.squaresFormsSpec).at F).post enc Tryz.prog Tryz.f5 false true false false):=by
 refine returnsInHanded_of_cond (C:=Tryz.checked) (s:=Rows.OpenSpec.upto Rows.squaresFormsSpec) (k:=Rows.uptoSmall) rfl own started (by kernel_rfl) Tryz.func5
  (OpenSpec.witness (enc:=enc) (C:=Tryz.checked) (s:=Rows.OpenSpec.upto Rows.squaresFormsSpec) (k:=Rows.uptoSmall) rfl false ⟨#[],#[.slice none 0 0,.agg #[.int .i64 0,.int .i64 0,.slice none 0 0]],[]⟩ 8 (by kernel_rfl) (by kernel_rfl) (by kernel_rfl)
   (x:=([.nil,.agg [.lit (.int .i64 0),.lit (.int .i64 0),.nil]],[],[])) (by kernel_rfl) rfl (by kernel_rfl)) ?_
 intro W base args ds gs before Qc0 hW _ hk _
 exact Qny H enc W base args ds gs before Qc0 hW hk
theorem squaresForms_proved:Rows.SquaresFormsUptoSaid:=
 OpenClaim.holds_of_cond 5 Tryz.f5 rfl rfl rfl rfl rfl rfl rfl ⟨rfl,rfl,rfl,rfl,rfl⟩ rfl rfl rfl rfl rfl (by kernel_rfl) Tryz.func5 (by kernel_rfl)
  (of_decide_eq_true (by kernel_rfl)) (by unfold Func.isWrapper;first|(rw[if_pos (by decide+kernel)];kernel_rfl)|(rw[if_neg (by decide+kernel)];exact⟨rfl,rfl⟩))
  (fun os started H enc _ F=>Qpz os started H enc F)
end Go.Proofs.YtkoclfmjlolkhaaGreat
