/- Part 14 of the proof of TriangularZeros: W11, W15, TR0, TR1, TR2, TR6, TR7, FwXB. Own lemmas; no conditions. -/
import Derived.Test.YtdjoomkeehihmaaGreatTriangularZerosPart13
set_option maxHeartbeats 1000000
set_option linter.unusedSimpArgs false
set_option linter.unusedVariables false
set_option linter.unnecessarySimpa false
set_option maxRecDepth 100000
namespace Go.Proofs.YtdjoomkeehihmaaGreat
open Go Go.FW
theorem RY{f g:List Tm}{v d:Nat}(nf:az f)(ng:az g):∀k,Q4 (cy (aZ g v d) k) f=Q8 (Q4 (aD g v d f k).1 g) (aD g v d f k).2
 |0=>by show Q4 (dm ((1:Int):Rat)) f=Q8 (Q4 [] g) f;rw[Q87,pG];exact Pq nf
 | k+1=>by
  have ih:=RY (v:=v) (d:=d) nf ng k;obtain⟨n1,n2⟩:=r7 (v:=v) (d:=d) nf ng k;have aG:aD g v d f (k+1)=(gJ (aD g v d f k).1 (aD g v d f k).2 g v (Q3 (aD g v d f k).2 v).toNat d,ej (aD g v d f k).2 g v (Q3 (aD g v d f k).2 v).toNat d):=rfl;rw[aG];have nc:=jU ng v d;have XD:=tE nc k;show Q4 (Q4 (cy (aZ g v d) k) (aZ g v d)) f=Q8 (Q4 (gJ (aD g v d f k).1 (aD g v d f k).2 g v (Q3 (aD g v d f k).2 v).toNat d) g) (ej (aD g v d f k).2 g v (Q3 (aD g v d f k).2 v).toNat d);generalize(Q3 (aD g v d f k).2 v).toNat=n;generalize(aD g v d f k).1=q at *
  generalize(aD g v d f k).2=r at *
  have nb:az (c8 r v n d):=rQ (jU n2 v n) v (n-d);unfold gJ ej;rw[Du XD nc,Dd nc XD nf,ih];generalize c8 r v n d=b at *
  generalize aZ g v d=c at *
  have NK:=dN n1.s ng.s;have XC:=dN nc.s n1.s;have y7:=dN nb.s ng.s;have B7:=dN nc.s n2.s;have B6:=dN XC.s ng.s;rw[Oo XC nb ng];have e1:Q4 c (Q8 (Q4 q g) r)=Q8 (Q4 c (Q4 q g)) (Q4 c r):=by have nq2:=nQ NK n2;rw[Du nc nq2,Oo NK n2 nc,Du NK nc,Du n2 nc]
  rw[e1,<-Dd nc n1 ng];generalize Q4 (Q4 c q) g=A at *
  generalize Q4 b g=Y at *
  generalize Q4 c r=X at *
  refine r6 (nQ B6 B7) (nQ (nQ B6 y7) (vn B7 y7)) fun φ=>?_;rw[pI B6.c B7.c,pI (nQ B6 y7).c (vn B7 y7).c,pI B6.c y7.c,H6 φ B7.c y7];grind
theorem OD{f g:List Tm}{v d:Nat}(nf:az f)(ng:az g)(hd:Q3 g v=d)(hb:∀k,∃K E,PB K E (aD g v d f k).2):∀(fuel k:Nat),((aD g v d f k).2=[]∨Q3 (aD g v d f k).2 v<fuel)->
  jG g v d fuel (aD g v d f k).1 (aD g v d f k).2 k= .au [PV.aj [],PV.aj [],.int .i64 0,.int .i64 4]∨
  ∃j,k<=j/\j<=k+fuel/\((aD g v d f j).2=[]∨Q3 (aD g v d f j).2 v<d)/\
   jG g v d fuel (aD g v d f k).1 (aD g v d f k).2 k= .au [PV.aj (aD g v d f j).1,PV.aj (aD g v d f j).2,.int .i64 j,.int .i64 0]
 | 0,k,h0=>by
  refine .inr ⟨k,Kac _,by omega,?_,rfl⟩;rcases h0 with h|h
  ·exact .inl h
  ·left;apply Classical.byContradiction;intro aO;obtain⟨K,E,hp⟩:=hb k;have:=(oI hp aO v).1;omega
 | fuel+1,k,h0=>by
  by_cases h:(aD g v d f k).2=[]∨Q3 (aD g v d f k).2 v<d
  ·exact .inr ⟨k,Kac _,by omega,h,zE h _⟩
  ·by_cases h2:bh (gJ (aD g v d f k).1 (aD g v d f k).2 g v (Q3 (aD g v d f k).2 v).toNat d)=true∨bh (ej (aD g v d f k).2 g v (Q3 (aD g v d f k).2 v).toNat d)=true
   ·exact .inl (G5 h h2)
   ·rw[Hg h h2];obtain⟨K,E,hp⟩:=hb k;have aO:(aD g v d f k).2≠[]:=fun e=>h (.inl e);have Fp:=Gp (r7 (v:=v) (d:=d) nf ng k).2 ng hp aO hd (Int.not_lt.1 fun e=>h (.inr e));have ar:Q3 (aD g v d f (k+1)).2 v<fuel:=by
     have e:(aD g v d f (k+1)).2=ej (aD g v d f k).2 g v (Q3 (aD g v d f k).2 v).toNat d:=rfl;rw[e];rcases h0 with h0|h0
     ·exact absurd h0 aO
     ·omega
    rcases OD nf ng hd hb fuel (k+1) (.inr ar)with e|⟨j,j1,j2,j3,e⟩
    ·exact .inl e
    ·exact .inr ⟨j,by omega,by omega,j3,e⟩
def JC:aA:=⟨9,[.t 4],Zr (Zo (.mv 4 (.c (.bool false))) .nil)<|Zr (Zm 5 0<|Zm 6 1<|Zq 7 false 162 [.t 5,.t 6]<|Zk 8 .geq 7 0<|Zm 4 8 .nil) .ret⟩
theorem ahZ:Qe Tryz.prog Tryz.f122=some JC:=by kernel_rfl
def Kk:aA:=⟨19,[.t 4],Zr (Zc 4 0 .nil)<| .seq (Zr (Zm 6 0<|Zn 7 6<|Zc 8 0 .nil)<| .block 0<| .loop<|Zr (Zb 9 .lss 8 7 .nil)<| .seq (.cond (.t 9) .skip (.exit 0))<| .seq (.block 1<|Zr (Zm 10 8<|Zm 5 10 .nil)<|Zr (Zm 11 1<|Zm 12 0<|Zm 13 5<|Zi 14 1 12 13<|Zl 15 1 14<|Zo (.call (some 16) false (.t 11) [.t 15]) .nil)<| .cond (.t 16) (Zr (Zm 17 5<|Zm 4 17 .nil) .ret) .skip)<| .rg (Zk 18 .add 8 1<|Zm 8 18 .nil))<|Zr (Zc 4 (-1) .nil) .ret⟩
theorem ah0:Qe Tryz.prog Tryz.f162=some Kk:=by kernel_rfl
def JU:aA:=⟨24,[.t 2],Zr (Zo (.mv 2 (.c (.bool false))) .nil)<|Zr (Zc 3 (-1) .nil)<| .seq (Zr (Zm 6 0<|Zn 7 6<|Zc 8 0 .nil)<| .block 0<| .loop<|Zr (Zb 9 .lss 8 7 .nil)<| .seq (.cond (.t 9) .skip (.exit 0))<| .seq (.block 1<|Zr (Zi 10 1 6 8<|Zl 11 1 10<|Zm 5 11 .nil)<| .seq (Zr (Zm 12 5<|Zq 13 false 40 [.t 12]<|Zu 14 13<|Zm 15 14<|Zg 15 false (.mv 16 (.t 5))<|Zg 15 false (.call (some 17) false (.c (.fn 41 [] [])) [.t 16])<|Zg 15 false (.mv 18 (.t 3))<|Zg 15 false (.bin 19 .leq false (.t 17) (.t 18))<|Zo (.pick 20 (.t 15) (.c (.bool true)) (.t 19)) .nil)<| .cond (.t 20) (Zr (Zo (.mv 2 (.c (.bool false))) .nil) .ret) .skip)<| .rg (Zm 21 5<|Zq 22 false 41 [.t 21]<|Zm 3 22 .nil))<| .rg (Zk 23 .add 8 1<|Zm 8 23 .nil))<|Zr (Zo (.mv 2 (.c (.bool true))) .nil) .ret⟩
theorem akH:Qe Tryz.prog Tryz.f14=some JU:=by kernel_rfl
def Ln:aA:=⟨16,[.t 4],Zr (Zo (.mv 4 (.c .aa)) .nil)<|Zr (Zq 6 false 26 [.c (Zz 1)]<|Zq 7 false 65 [.t 6]<|Zm 5 7 .nil)<| .seq (Zr (Zm 8 1<|Zc 9 0 .nil)<| .block 0<| .loop<|Zr (Zb 10 .lss 9 8 .nil)<| .seq (.cond (.t 10) .skip (.exit 0))<| .seq (.block 1<| .rg (Zm 11 5<|Zm 12 0<|Zq 13 false 60 [.t 11,.t 12]<|Zm 5 13 .nil))<| .rg (Zk 14 .add 9 1<|Zm 9 14 .nil))<|Zr (Zm 15 5<|Zm 4 15 .nil) .ret⟩
theorem akI:Qe Tryz.prog Tryz.f58=some Ln:=by kernel_rfl
def Lq:aA:=⟨10,[.t 2],Zr (Zo (.mv 2 (.c (.bool false))) .nil)<|Zr (Zm 3 0<|Zn 4 3<|Zk 5 .gtr 4 4000<|Zm 6 5<|Zg 6 false (.mv 7 (.t 0))<|Zg 6 false (.call (some 8) false (.c (.fn 112 [] [])) [.t 7,.c (.fn 113 [] [])])<|Zo (.pick 9 (.t 6) (.c (.bool true)) (.t 8))<|Zm 2 9 .nil) .ret⟩
theorem akJ:Qe Tryz.prog Tryz.f61=some Lq:=by kernel_rfl
def Ju:aA:=⟨6,[.t 2],Zr (Zo (.box 1 4 54 (.t 0))<|Zo (.mv 2 (.c (.bool false))) .nil)<|Zr (Zf 3 3 1<|Zl 4 1 3<|Zq 5 false 114 [.t 4,.c (.fn 115 [] [])]<|Zm 2 5 .nil) .ret⟩
theorem ah1:Qe Tryz.prog Tryz.f113=some Ju:=by kernel_rfl
def Jw:aA:=⟨5,[.t 2],Zr (Zo (.mv 2 (.c (.bool false))) .nil)<|Zr (Zm 3 0<|Zk 4 .gtr 3 1048576<|Zm 2 4 .nil) .ret⟩
theorem ah2:Qe Tryz.prog Tryz.f115=some Jw:=by kernel_rfl
def JD:aA:=⟨6,[.t 2],Zr (Zo (.mv 2 (.c (.bool false))) .nil)<|Zr (Zm 3 0<|Zq 4 false 41 [.t 3]<|Zk 5 .lss 4 0<|Zm 2 5 .nil) .ret⟩
theorem ah3:Qe Tryz.prog Tryz.f123=some JD:=by kernel_rfl
def KS:aA:=⟨63,[.t 4,.t 5],Zr (Zc 4 0<|Zc 5 0 .nil)<|Zr (Zc 6 (-1)<|Zc 7 0 .nil)<| .seq (Zr (Zm 12 0<|Zn 13 12<|Zc 14 0 .nil)<| .block 0<| .loop<|Zr (Zb 15 .lss 14 13 .nil)<| .seq (.cond (.t 15) .skip (.exit 0))<| .seq (.block 1<|Zr (Zm 16 14<|Zi 17 2 12 14<|Zh 18 2 17<|Zo (.alloc 9 2 34 (.agg [.aa,.aa]))<|Zm 8 16<|Zs 2 9 18 .nil)<| .seq (Zr (Zf 19 0 9<|Zl 20 1 19<|Zq 21 false 41 [.t 20]<|Zm 22 1<|Zb 23 .neq 21 22 .nil)<| .cond (.t 23) (.exit 1) .skip)<|Zr (Zm 24 7<|Zk 25 .add 24 1<|Zm 7 25 .nil)<| .seq (Zr (Zm 26 6<|Zk 27 .lss 26 0 .nil)<| .cond (.t 27) (Zr (Zm 28 8<|Zm 6 28 .nil)<| .exit 1) .skip)<|Zr (Zf 29 0 9<|Zl 30 1 29<|Zm 31 1<|Zm 33 0<|Zm 34 6<|Zi 35 2 33 34<|Zf 36 0 35<|Zl 37 1 36<|Zm 38 1<|Zq 32 true 67 [.t 30,.t 31]<|Zq 39 true 67 [.t 37,.t 38]<|Zm 10 32<|Zm 11 39 .nil)<|Zr (Zm 40 10<|Zm 41 11<|Zb 42 .lss 40 41<|Zm 43 42<|Zg 43 false (.mv 44 (.t 10))<|Zg 43 false (.mv 45 (.t 11))<|Zg 43 false (.bin 46 .eql false (.t 44) (.t 45))<|Zg 43 false (.mv 47 (.t 46))<|Zg 47 true (.cC 48 0 (.t 9))<|Zg 47 true (.ld 49 1 false (.t 48))<|Zg 47 true (.mv 50 (.t 0))<|Zg 47 true (.mv 51 (.t 6))<|Zg 47 true (.idx 52 2 (.t 50) (.t 51))<|Zg 47 true (.cC 53 0 (.t 52))<|Zg 47 true (.ld 54 1 false (.t 53))<|Zg 47 true (.call (some 55) false (.c (.fn 68 [] [])) [.t 49,.t 54])<|Zg 47 true (.bin 56 .lss false (.t 55) (.c (Zz 0)))<|Zg 43 false (.pick 57 (.t 47) (.t 56) (.c (.bool false)))<|Zo (.pick 58 (.t 43) (.c (.bool true)) (.t 57)) .nil)<| .cond (.t 58) (.rg (Zm 59 8<|Zm 6 59 .nil)) .skip)<| .rg (Zk 60 .add 14 1<|Zm 14 60 .nil))<|Zr (Zm 61 6<|Zm 62 7<|Zm 4 61<|Zm 5 62 .nil) .ret⟩
theorem akK:Qe Tryz.prog Tryz.f28=some KS:=by kernel_rfl
def KT:aA:=⟨57,[.t 6,.t 7],Zr (Zo (.mv 6 (.c .aa))<|Zc 7 0 .nil)<|Zr (Zo (.mv 8 (.c .aa)) .nil)<| .seq (Zr (Zm 13 0<|Zn 14 13<|Zc 15 0 .nil)<| .block 0<| .loop<|Zr (Zb 16 .lss 15 14 .nil)<| .seq (.cond (.t 16) .skip (.exit 0))<| .seq (.block 1<|Zr (Zm 17 15<|Zi 18 2 13 15<|Zh 19 2 18<|Zo (.alloc 10 2 34 (.agg [.aa,.aa]))<|Zm 9 17<|Zs 2 10 19 .nil)<| .seq (Zr (Zm 20 9<|Zm 21 1<|Zb 22 .eql 20 21<|Zm 23 22<|Zg 23 false (.cC 24 0 (.t 10))<|Zg 23 false (.ld 25 1 false (.t 24))<|Zg 23 false (.call (some 26) false (.c (.fn 41 [] [])) [.t 25])<|Zg 23 false (.mv 27 (.t 2))<|Zg 23 false (.bin 28 .neq false (.t 26) (.t 27))<|Zo (.pick 29 (.t 23) (.c (.bool true)) (.t 28)) .nil)<| .cond (.t 29) (Zr (Zm 30 8<|Zh 31 2 10<|Zo (.bs 32 2 34 [.t 31])<|Zo (.app 33 2 48 34 (.t 30) (.t 32))<|Zm 8 33 .nil)<| .exit 1) .skip)<|Zr (Zh 35 2 10<|Zm 36 0<|Zm 37 1<|Zi 38 2 36 37<|Zh 39 2 38<|Zm 40 2<| .br (Zq 41 true 69 [.t 35,.t 39,.t 40]<|Zm 34 41<|Zo (.ext 42 (.t 34) 0)<|Zo (.ext 43 (.t 34) 1)<|Zo (.alloc 11 2 34 (.agg [.aa,.aa]))<|Zs 2 11 42<|Zm 12 43 .nil) (Zo (.alloc 11 2 34 (.agg [.aa,.aa]))<|Zq 41 true 69 [.t 35,.t 39,.t 40]<|Zm 34 41<|Zo (.ext 42 (.t 34) 0)<|Zo (.ext 43 (.t 34) 1)<|Zs 2 11 42<|Zm 12 43 .nil))<| .seq (Zr (Zm 44 12<|Zk 45 .neq 44 0 .nil)<| .cond (.t 45) (Zr (Zm 46 12<|Zo (.mv 6 (.c .aa))<|Zm 7 46 .nil) .ret) .skip)<|Zr (Zf 47 0 11<|Zl 48 1 47<|Zn 49 48<|Zk 50 .gtr 49 0 .nil)<| .cond (.t 50) (.rg (Zm 51 8<|Zh 52 2 11<|Zo (.bs 53 2 34 [.t 52])<|Zo (.app 54 2 48 34 (.t 51) (.t 53))<|Zm 8 54 .nil)) .skip)<| .rg (Zk 55 .add 15 1<|Zm 15 55 .nil))<|Zr (Zm 56 8<|Zm 6 56<|Zc 7 0 .nil) .ret⟩
theorem akL:Qe Tryz.prog Tryz.f29=some KT:=by kernel_rfl
def AT:aA:=⟨65,[.cell 6 2 true,.t 7],Zr (Zo (.box 3 2 34 (.t 0))<|Zo (.box 4 2 34 (.t 1))<|Zo (.alloc 6 2 34 (.agg [.aa,.aa]))<|Zc 7 0 .nil)<|Zr (Zf 16 0 3<|Zl 17 1 16<|Zf 18 0 4<|Zl 19 1 18<|Zm 20 2<|Zq 21 false 57 [.t 17,.t 19,.t 20]<|Zm 15 21<|Zo (.ext 22 (.t 15) 0)<|Zo (.ext 23 (.t 15) 1)<|Zo (.ext 24 (.t 15) 2)<|Zo (.ext 25 (.t 15) 3)<|Zm 8 22<|Zm 9 23<|Zm 10 24<|Zm 11 25 .nil)<| .seq (Zr (Zm 26 11<|Zk 27 .neq 26 0 .nil)<| .cond (.t 27) (Zr (Zo (.bU 28 [.aa,.aa] [])<|Zm 29 11<|Zs 2 6 28<|Zm 7 29 .nil) .ret) .skip)<|Zr (Zf 30 0 4<|Zl 31 1 30<|Zq 32 false 59 [.t 31]<|Zm 33 10<|Zq 34 false 58 [.t 32,.t 33]<|Zm 12 34 .nil)<|Zr (Zo (.mv 13 (.c .aa)) .nil)<| .seq (Zr (Zf 35 1 3<|Zl 36 1 35<|Zn 37 36<|Zc 38 0 .nil)<| .block 0<| .loop<|Zr (Zb 39 .lss 38 37 .nil)<| .seq (.cond (.t 39) .skip (.exit 0))<| .seq (.block 1<|Zr (Zm 40 38<|Zm 14 40 .nil)<| .rg (Zm 41 13<|Zm 42 12<|Zf 43 1 3<|Zl 44 1 43<|Zm 45 14<|Zi 46 1 44 45<|Zl 47 1 46<|Zm 49 8<|Zf 50 1 4<|Zl 51 1 50<|Zm 52 14<|Zi 53 1 51 52<|Zl 54 1 53<|Zq 48 true 60 [.t 42,.t 47]<|Zq 55 true 60 [.t 49,.t 54]<|Zq 56 true 109 [.t 48,.t 55]<|Zo (.bs 57 1 32 [.t 56])<|Zo (.app 58 1 24 32 (.t 41) (.t 57))<|Zm 13 58 .nil))<| .rg (Zk 59 .add 38 1<|Zm 38 59 .nil))<|Zr (Zm 60 9<|Zm 61 13<|Zq 62 false 66 [.t 60,.t 61]<|Zo (.ext 63 (.t 62) 0)<|Zo (.ext 64 (.t 62) 1)<|Zs 2 6 63<|Zm 7 64 .nil) .ret⟩
theorem R0:Qe Tryz.prog Tryz.f69=some AT:=by kernel_rfl
def LJ:aA:=⟨18,[.t 4],Zr (Zo (.mv 4 (.c .aa)) .nil)<|Zr (Zq 7 false 32 [.c (Zz 1)]<|Zq 8 false 25 [.t 7]<|Zm 5 8 .nil)<| .seq (Zr (Zc 6 0 .nil)<| .block 0<| .loop<| .seq (Zr (Zm 9 6<|Zm 10 1<|Zb 11 .lss 9 10 .nil)<| .cond (.t 11) .skip (.exit 0))<| .seq (.block 1<| .rg (Zm 14 5<|Zm 15 0<|Zq 16 false 24 [.t 14,.t 15]<|Zm 5 16 .nil))<| .rg (Zm 12 6<|Zk 13 .add 12 1<|Zm 6 13 .nil))<|Zr (Zm 17 5<|Zm 4 17 .nil) .ret⟩
theorem akM:Qe Tryz.prog Tryz.f79=some LJ:=by kernel_rfl
def c6:aA:=⟨68,[.t 6],Zr (Zo (.mv 6 (.c (.bool false))) .nil)<| .seq (Zr (Zm 9 0<|Zn 10 9<|Zm 11 1<|Zb 12 .gtr 10 11 .nil)<| .cond (.t 12) (Zr (Zo (.mv 6 (.c (.bool false))) .nil) .ret) .skip)<| .seq (Zr (Zc 7 0 .nil)<| .block 0<| .loop<| .seq (Zr (Zm 13 7<|Zm 14 0<|Zn 15 14<|Zb 16 .lss 13 15 .nil)<| .cond (.t 16) .skip (.exit 0))<| .seq (.block 1<| .seq (Zr (Zm 19 0<|Zm 20 7<|Zi 21 1 19 20<|Zl 22 1 21<|Zq 23 false 18 [.t 22,.c (Zz 4),.c (Zz 3),.c (Zz 3)]<|Zu 24 23<|Zm 25 24<|Zg 25 false (.mv 26 (.t 0))<|Zg 25 false (.mv 27 (.t 7))<|Zg 25 false (.idx 28 1 (.t 26) (.t 27))<|Zg 25 false (.ld 29 1 false (.t 28))<|Zg 25 false (.call (some 30) false (.c (.fn 19 [] [])) [.t 29])<|Zg 25 false (.mv 31 (.t 2))<|Zg 25 false (.bin 32 .gtr false (.t 30) (.t 31))<|Zo (.pick 33 (.t 25) (.c (.bool true)) (.t 32)) .nil)<| .cond (.t 33) (Zr (Zo (.mv 6 (.c (.bool false))) .nil) .ret) .skip)<|Zr (Zc 8 0 .nil)<| .block 2<| .loop<| .seq (Zr (Zm 34 8<|Zm 35 0<|Zm 36 7<|Zi 37 1 35 36<|Zl 38 1 37<|Zn 39 38<|Zb 40 .lss 34 39 .nil)<| .cond (.t 40) .skip (.exit 2))<| .seq (.block 3<|Zr (Zm 43 0<|Zm 44 7<|Zi 45 1 43 44<|Zl 46 1 45<|Zm 47 8<|Zi 48 4 46 47<|Zf 49 0 48<|Zf 50 0 49<|Zf 51 1 50<|Zl 52 1 51<|Zn 53 52<|Zk 54 .gtr 53 1<|Zm 55 54<|Zg 55 false (.mv 56 (.t 0))<|Zg 55 false (.mv 57 (.t 7))<|Zg 55 false (.idx 58 1 (.t 56) (.t 57))<|Zg 55 false (.ld 59 1 false (.t 58))<|Zg 55 false (.mv 60 (.t 8))<|Zg 55 false (.idx 61 4 (.t 59) (.t 60))<|Zg 55 false (.cC 62 0 (.t 61))<|Zg 55 false (.cC 63 2 (.t 62))<|Zg 55 false (.ld 64 1 false (.t 63))<|Zg 55 false (.len 65 (.t 64))<|Zg 55 false (.bin 66 .gtr false (.t 65) (.c (Zz 1)))<|Zo (.pick 67 (.t 55) (.c (.bool true)) (.t 66)) .nil)<| .cond (.t 67) (Zr (Zo (.mv 6 (.c (.bool false))) .nil) .ret) .skip)<| .rg (Zm 41 8<|Zk 42 .add 41 1<|Zm 8 42 .nil))<| .rg (Zm 17 7<|Zk 18 .add 17 1<|Zm 7 18 .nil))<|Zr (Zo (.mv 6 (.c (.bool true))) .nil) .ret⟩
theorem alS:Qe Tryz.prog Tryz.f6=some c6:=by kernel_rfl
def c7:aA:=⟨73,[.t 0],Zr (Zo (.mv 0 (.c (.bool false))) .nil)<|Zr (Zq 7 false 20 [.c (Zz 0)]<|Zq 8 false 20 [.c (Zz 1)]<|Zm 1 7<|Zm 2 8 .nil)<|Zr (Zm 10 2<|Zm 11 1<|Zq 12 false 21 [.t 10,.t 11]<|Zm 13 2<|Zm 14 1<|Zq 15 false 22 [.t 13,.t 14]<|Zo (.bs 16 1 32 [.t 12,.t 15])<|Zq 17 false 8 [.t 16]<|Zm 9 17<|Zo (.ext 18 (.t 9) 0)<|Zo (.ext 19 (.t 9) 1)<|Zm 3 18<|Zm 4 19 .nil)<|Zr (Zm 21 2<|Zm 22 2<|Zq 23 false 24 [.t 21,.t 22]<|Zm 24 1<|Zm 25 2<|Zq 26 false 24 [.t 24,.t 25]<|Zq 27 false 26 [.c (Zz 1)]<|Zq 28 false 25 [.t 27]<|Zq 29 false 21 [.t 26,.t 28]<|Zo (.bs 30 1 32 [.t 29])<|Zq 31 false 23 [.t 23,.t 30]<|Zm 20 31<|Zo (.ext 32 (.t 20) 0)<|Zo (.ext 33 (.t 20) 1)<|Zo (.alloc 5 3 58 (.agg [.aa,.aa,.aa]))<|Zs 3 5 32<|Zm 6 33 .nil)<|Zr (Zm 34 4<|Zk 35 .eql 34 0<|Zm 36 35<|Zg 36 true (.mv 37 (.t 6))<|Zg 36 true (.bin 38 .eql false (.t 37) (.c (Zz 0)))<|Zo (.pick 39 (.t 36) (.t 38) (.c (.bool false)))<|Zm 40 39<|Zg 40 true (.mv 41 (.t 3))<|Zg 40 true (.len 42 (.t 41))<|Zg 40 true (.bin 43 .eql false (.t 42) (.c (Zz 2)))<|Zo (.pick 44 (.t 40) (.t 43) (.c (.bool false)))<|Zm 45 44<|Zg 45 true (.mv 46 (.t 3))<|Zg 45 true (.idx 47 2 (.t 46) (.c (Zz 0)))<|Zg 45 true (.cC 48 0 (.t 47))<|Zg 45 true (.ld 49 1 false (.t 48))<|Zg 45 true (.mv 50 (.t 1))<|Zg 45 true (.call (some 51) true (.c (.fn 11 [] [])) [.t 49,.t 50])<|Zo (.pick 52 (.t 45) (.t 51) (.c (.bool false)))<|Zm 53 52<|Zg 53 true (.cC 54 0 (.t 5))<|Zg 53 true (.ld 55 1 false (.t 54))<|Zg 53 true (.len 56 (.t 55))<|Zg 53 true (.bin 57 .eql false (.t 56) (.c (Zz 1)))<|Zo (.pick 58 (.t 53) (.t 57) (.c (.bool false)))<|Zm 59 58<|Zg 59 true (.cC 60 0 (.t 5))<|Zg 59 true (.ld 61 1 false (.t 60))<|Zg 59 true (.idx 62 1 (.t 61) (.c (Zz 0)))<|Zg 59 true (.ld 63 1 false (.t 62))<|Zg 59 true (.bin 64 .eql false (.t 63) (.c (Zz 2)))<|Zo (.pick 65 (.t 59) (.t 64) (.c (.bool false)))<|Zm 66 65<|Zg 66 true (.cC 67 2 (.t 5))<|Zg 66 true (.ld 68 1 false (.t 67))<|Zg 66 true (.call (some 69) true (.c (.fn 26 [] [])) [.c (Zz 1)])<|Zg 66 true (.call (some 70) true (.c (.fn 25 [] [])) [.t 69])<|Zg 66 true (.call (some 71) true (.c (.fn 11 [] [])) [.t 68,.t 70])<|Zo (.pick 72 (.t 66) (.t 71) (.c (.bool false)))<|Zm 0 72 .nil) .ret⟩
theorem alT:Qe Tryz.prog Tryz.f7=some c7:=by kernel_rfl
theorem ac2(x:Int):Qc Tryz.prog 115 [.int .i64 x] (· = .bool (decide (1048576<x))):=by refine Qf Qo Tryz.func115 rfl ah2 (by simp[Jw]) fun C hP=>?_;simp only[Jw,Zo,Zg,Zm,Zc,Zf,Zl,Zh,Zs,Zi,Zb,Zk,Zn,Zu,Zq,Zr,Zz];refine Sz0 ?_;exact Qd rfl rfl
theorem aeU{t:Tm}(h:t.2.length<=2^36):Qc Tryz.prog 113 [PV.term t] (· = .bool (t.2.any fun x=>decide (1048576<x))):=by refine Qf Qo Tryz.func113 rfl ah1 (by simp[Ju]) fun C hP=>?_;simp only[Ju,Zo,Zg,Zm,Zc,Zf,Zl,Zh,Zs,Zi,Zb,Zk,Zn,Zu,Zq,Zr,Zz];refine Sz0 ?_;refine Qa hP (Qss (fun x _=>ac2 x) h) rfl rfl rfl ?_;refine Sz0 ?_;exact Qd rfl rfl
theorem En{p:List Tm}{E:Nat}(hp:∀t∈p,MB E t.2)(bV:p.length<=2^36):Qc Tryz.prog 61 [PV.aj p] (· = .bool (bh p)):=by
 refine Qf Qo Tryz.func61 rfl akJ (by simp[Lq]) fun C hP=>?_;simp only[Lq,Zo,Zg,Zm,Zc,Zf,Zl,Zh,Zs,Zi,Zb,Zk,Zn,Zu,Zq,Zr,Zz];refine Sz0 ?_;refine dM (fun h=>?_) (fun h=>?_)
 ·refine Sz0 ?_;exact Qd (congrArg PV.bool (by rw[bh,decide_eq_true (by omega),KcN])) rfl
 ·refine Sz0 ?_;refine Qa hP (Qsr (fun t ht=>aeU (by have:=(hp t ht).len;omega)) bV) rfl rfl rfl ?_;refine Sz0 ?_;exact Qd (congrArg PV.bool (by rw[bh,decide_eq_false (by omega),Kcn])) rfl
theorem Qxn{p:List (List Tm)}{f:Nat}{g:List Tm->Bool}(hf:∀t∈p,Qc Tryz.prog f [PV.aj t] (· = .bool (g t)))(bV:p.length<=2^36):
  Qc Tryz.prog 162 [PV.ch p,.fn f [] []] (· = .int .i64 (sj g p)):=by
 refine Qf Qo Tryz.func162 rfl ah0 (by simp[Kk]) fun C hP=>?_;simp only[Kk,Zo,Zg,Zm,Zc,Zf,Zl,Zh,Zs,Zi,Zb,Zk,Zn,Zu,Zq,Zr,Zz];refine Sz0 ?_;refine Qw (by repeat (first|exact Qr|exact Qk|exact Ql|exact Qm|exact Qn|apply Qj|apply Qq|apply Qx|apply Q5|apply Q6|apply Qi)) [(4,5),(8,18)] [] (fun n J hp=>∃i,n=p.length-i/\i<=p.length/\(∀j (h:j<p.length),j<i->g p[j]=false)/\J 8= .int .i64 (i:Nat)) p.length ?_ ?_
 ·refine⟨0,rfl,by omega,by omega,?_⟩;refine Sz0 ?_;rfl
 rintro _ J h ⟨i,rfl,hi,h1,h8⟩;refine Sz1 h8 ?_;refine Qb (fun hg=>?_) (fun hg=>?_)
 ·have aB:i<p.length:=by omega
  have wg:=hf _ (Kag aB);have bA:=fun h=>H7 (g:=g) aB h h1;have fE:g p[i]=false->∀j (h:j<p.length),j<i+1->g p[j]=false:=fun h j hj dW=>by
   by_cases e:j=i
   ·subst e;exact h
   ·exact h1 j hj (by omega)
  generalize hx:p[i]=x at *
  refine Sz2 h8 hx ?_;refine Qa hP wg rfl rfl rfl ?_;refine Sz2 h8 hx ?_;cases ux:g x
  ·refine Sz1 h8 ?_;refine Qg (p.length-(i+1)) (by omega) ⟨i+1,rfl,by omega,fE ux,?_⟩;exact Tz0
  ·refine Sz1 h8 ?_;exact Qd (by rw[bA ux]) rfl
 ·obtain rfl:i=p.length:=by omega
  refine Sz0 ?_;exact Qd (by rw[Hf (fun j hj=>h1 j hj hj)]) rfl
theorem Sk{p:List (List Tm)}{f:Nat}{g:List Tm->Bool}(hf:∀t∈p,Qc Tryz.prog f [PV.aj t] (· = .bool (g t)))(bV:p.length<=2^36):
  Qc Tryz.prog 122 [PV.ch p,.fn f [] []] (· = .bool (p.any g)):=by
 refine Qf Qo Tryz.func122 rfl ahZ (by simp[JC]) fun C hP=>?_;simp only[JC,Zo,Zg,Zm,Zc,Zf,Zl,Zh,Zs,Zi,Zb,Zk,Zn,Zu,Zq,Zr,Zz];refine Sz0 ?_;refine Qa hP (Qxn hf bV) rfl rfl rfl ?_;refine Sz0 ?_;exact Qd (congrArg PV.bool (HY g p)) rfl
abbrev PV.el(x:List Tm×List (List Tm)):PV:=.agg [PV.aj x.1,PV.ch x.2]
theorem UF{p:List Tm}{K E:Nat}(hp:PB K E p)(bV:p.length<=2^36):Qc Tryz.prog 123 [PV.aj p] (· = .bool (decide (Qv p<0))):=by refine Qf Qo Tryz.func123 rfl ah3 (by simp[JD]) fun C hP=>?_;simp only[JD,Zo,Zg,Zm,Zc,Zf,Zl,Zh,Zs,Zi,Zb,Zk,Zn,Zu,Zq,Zr,Zz];refine Sz0 ?_;refine Qa hP (xf hp bV) rfl rfl rfl ?_;refine Sz0 ?_;exact Qd rfl rfl
theorem IE{p:List Tm}{n K E L:Nat}(hn:n<=4000)(hp:PB K E p)(hb:∀i,i<=n->PB K E (cy p i)/\(cy p i).length<=L)(bV:p.length<=L)(hL:L<=2^17)(hE:E<=2^37)(hK:L*(K+K)<=2^33)(l9:K<=2^33):
  Qc Tryz.prog 58 [PV.aj p,.int .i64 n] (· =PV.aj (cy p n)):=by
 have h1:=l4;refine Qf Qo Tryz.func58 rfl akI (by simp[Ln]) fun C hP=>?_;simp only[Ln,Zo,Zg,Zm,Zc,Zf,Zl,Zh,Zs,Zi,Zb,Zk,Zn,Zu,Zq,Zr,Zz];refine Sz0 ?_;refine Qa hP (rN (x:=1) (by omega) (by omega)) rfl rfl rfl ?_;refine Sz0 ?_;refine Qa hP (Ot (a:=((1:Int):Rat)) (k:=1) (by have:((1:Int):Rat)=1:=rfl;rw[this];exact h1) (by omega)) rfl rfl rfl ?_;rw[show dm ((1:Int):Rat)=cy p 0 from rfl];refine Sz0 ?_;refine Qw (by repeat (first|exact Qr|exact Qk|exact Ql|exact Qm|exact Qn|apply Qj|apply Qq|apply Qx|apply Q5|apply Q6|apply Qi|apply Q2)) [(5,5),(9,14)] [] (fun m J hp=>∃i,m=n-i/\i<=n/\J 5=PV.aj (cy p i)/\J 9= .int .i64 (i:Nat)) n ?_ ?_
 ·refine⟨0,rfl,by omega,?_⟩;refine Sz0 ?_
  try (first|rfl|trivial|exact⟨rfl,rfl⟩)
 rintro _ J h ⟨i,rfl,hi,h5,h9⟩;refine Sz2 h5 h9 ?_;refine Qb (fun hg=>?_) (fun hg=>?_)
 ·have aB:i<n:=by omega
  obtain⟨b1,b2⟩:=hb i (by omega);have ox:(cy p i).length*p.length<=2^17*2^17:=KaK (by omega) (by omega);have ko:min (cy p i).length p.length*(K+K)<=L*(K+K):=Kaf _ (by omega);refine Sz2 h5 h9 ?_;refine Qa hP (rP b1 hp hE (by omega) (by omega) (by omega) (by omega) l9) rfl rfl rfl ?_;rw[show Q4 (cy p i) p=cy p (i+1)from rfl];refine Sz2 h5 h9 ?_;refine Qg (n-(i+1)) (by omega) ⟨i+1,rfl,by omega,?_⟩;refine Sz0 ?_
  try trivial
 ·obtain rfl:i=n:=by omega
  refine Sz1 h5 ?_;exact Qd rfl rfl
def yo(v:Nat)(x y:List Tm):Bool:=decide (Q3 x v<Q3 y v)||decide (Q3 x v=Q3 y v)&&decide (ia x y<0)
def xV(l:List (List Tm×List (List Tm)))(v:Nat)(s:Int×Nat)(i:Nat):Int×Nat:=
 if Qv (l.getD i default).1≠v then s else if s.1<0 then((i:Int),s.2+1)else if yo v (l.getD i default).1 (l.getD s.1.toNat default).1 then((i:Int),s.2+1)else(s.1,s.2+1)
def iJ(l:List (List Tm×List (List Tm)))(v i:Nat):Int×Nat:=(List.range i).foldl (xV l v) (-1,0)
def cG(l:List (List Tm×List (List Tm)))(v:Nat):Int×Nat:=iJ l v l.length
theorem Dy(l:List (List Tm×List (List Tm)))(v i:Nat):iJ l v (i+1)=xV l v (iJ l v i) i:=by unfold iJ;rw[Kb0,KbW];rfl
theorem Eo(l:List (List Tm×List (List Tm)))(v:Nat):∀i,-1<=(iJ l v i).1/\(iJ l v i).1<i/\(iJ l v i).2<=i
 |0=>by simp[iJ]
 | i+1=>by
  have ih:=Eo l v i;rw[Dy];unfold xV;split
  ·omega
  ·split
   ·simp;omega
   ·split<;>(simp;omega)
def cD(c q:List Tm)(a b:List (List Tm)):List (List Tm):=List.zipWith (fun x y=>fV (Q4 c x) (Q4 q y)) a b
theorem OE{f g:List Tm×List (List Tm)}{v:Int}{q r c:List Tm}{n:Nat}{x:List Tm×List (List Tm)}{e:Int}(hl:f.2.length<=100)(hlen:g.2.length=f.2.length)
  (hd:Qc Tryz.prog 57 [PV.aj f.1,PV.aj g.1,.int .i64 v] (· = .au [PV.aj q,PV.aj r,.int .i64 n,.int .i64 0]))
  (hi:Qc Tryz.prog 59 [PV.aj g.1] (· =PV.aj (cA g.1))) (qh:Qc Tryz.prog 58 [PV.aj (cA g.1),.int .i64 n] (· =PV.aj c))
  (ox:∀y∈f.2,Qc Tryz.prog 60 [PV.aj c,PV.aj y] (· =PV.aj (Q4 c y))) (ko:∀y∈g.2,Qc Tryz.prog 60 [PV.aj q,PV.aj y] (· =PV.aj (Q4 q y)))
  (uF:∀y∈f.2,∀z∈g.2,Qc Tryz.prog 109 [PV.aj (Q4 c y),PV.aj (Q4 q z)] (· =PV.aj (fV (Q4 c y) (Q4 q z))))
  (dt:Qc Tryz.prog 66 [PV.aj r,PV.ch (cD c q f.2 g.2)] (· = .au [PV.el x,.int .i64 e])):
  Qc Tryz.prog 69 [PV.el f,PV.el g,.int .i64 v] (· = .au [PV.el x,.int .i64 e]):=by
 obtain⟨fp,fc⟩:=f;obtain⟨gp,gc⟩:=g;simp only at *
 refine Qf Qo Tryz.func69 rfl R0 (by simp[AT]) fun C hP=>?_;simp only[AT,Zo,Zg,Zm,Zc,Zf,Zl,Zh,Zs,Zi,Zb,Zk,Zn,Zu,Zq,Zr,Zz];refine Sz0 ?_;refine Qa hP hd rfl rfl rfl ?_;refine Sz0 ?_;rw[bO rfl];refine Sz0 ?_;refine Qa hP hi rfl rfl rfl ?_;refine Sz0 ?_;refine Qa hP qh rfl rfl rfl ?_;refine Sz0 ?_;refine kZ 13 900 1 32 (by omega) Tz0 ?_;refine Qw (by repeat (first|exact Qr|exact Qk|exact Ql|exact Qm|exact Qn|apply Qj|apply Qq|apply Qx|apply Q5|apply Q6|apply Qi|apply Q2)) [(13,14),(38,59)] [57,58,900] (fun m J hp=>∃i,m=fc.length-i/\i<=fc.length/\J 13= .ms 900 ((cD c q fc gc).take i).length/\J 38= .int .i64 (i:Nat)/\hp 3=some ⟨2,34,[PV.el (fp,fc)],false⟩/\hp 4=some ⟨2,34,[PV.el (gp,gc)],false⟩/\hp 6=some ⟨2,34,[.agg [.aa,.aa]],false⟩/\hp 900=some ⟨1,32,((cD c q fc gc).take i).map PV.aj,false⟩) fc.length ?_ ?_
 ·refine⟨0,rfl,by omega,?_⟩;refine Sz0 ?_
  first|rfl|exact⟨rfl,rfl⟩|exact⟨rfl,rfl,rfl⟩|trace_state
 rintro _ J h ⟨i,rfl,aB,kA,yZ,uo,uq,Bi,hh⟩;refine Sz2 kA yZ ?_;refine Qb (fun hg=>?_) (fun hg=>?_)
 ·have c1:i<fc.length:=by omega
  have c2:i<gc.length:=by omega
  have m1:=ox _ (Kag c1);have m2:=ko _ (Kag c2);have m3:=uF _ (Kag c1) _ (Kag c2);have hz:i<(cD c q fc gc).length:=by unfold cD;rw[KbU];omega
  have ht:(cD c q fc gc).take (i+1)=(cD c q fc gc).take i++[fV (Q4 c fc[i]) (Q4 q gc[i])]:=by rw[Kah hz];simp[cD]
  have ar:((cD c q fc gc).take i).length<=100:=by rw[KaH];omega
  generalize(cD c q fc gc).take i=A at *
  generalize hx:fc[i]=y at *
  generalize hw:gc[i]=z at *
  refine Sz6 kA yZ uo uq hx hw ?_;refine Qa hP m1 rfl rfl rfl ?_;refine Sz6 kA yZ uo uq hx hw ?_;refine Qa hP m2 rfl rfl rfl ?_;refine Sz6 kA yZ uo uq hx hw ?_;refine Qa hP m3 rfl rfl rfl ?_;refine Sz6 kA yZ uo uq hx hw ?_;rw[Q9 (f:=PV.aj) (y:=fV (Q4 c y) (Q4 q z)) (xs:=A) (ty':=32) (fz:=false) (Tz1 hh) cH (by omega) rfl (by omega) (by omega)];refine Sz4 kA yZ uo uq ?_;refine Qg (fc.length-(i+1)) (by omega) ⟨i+1,rfl,by omega,?_⟩;rw[ht];simp+decide (disch:=first|omega|rfl|(simp+decide only[go_sem,uo,uq,Bi,Kap]<;>rfl)|fail) only[go_sem,uo,uq,Bi,Kap]
  try trivial
 ·obtain rfl:i=fc.length:=by omega
  rw[Kae (by unfold cD;rw[KbU];omega)]at kA hh;refine Sz5 kA hh uo uq Bi ?_;have e0:List.take (cD c q fc gc).length ((cD c q fc gc).map PV.aj)=(cD c q fc gc).map PV.aj:=Kae (by simp);refine iQ hP dt (by simp+decide (disch:=try exact E2 hh e0) only[go_sem,hh,et,Kax,KaC,Kau,KaA,Kak,e0];try rfl) rfl ?_;refine lk hh Bi ?_;refine iS ?_;refine lk hh Bi ?_;exact eV rfl rfl rfl (Qy _) (Qy _)
theorem Yy{f g:List Tm×List (List Tm)}{v:Int}(hd:Qc Tryz.prog 57 [PV.aj f.1,PV.aj g.1,.int .i64 v] (· = .au [PV.aj [],PV.aj [],.int .i64 0,.int .i64 4])):
  Qc Tryz.prog 69 [PV.el f,PV.el g,.int .i64 v] (· = .au [PV.el ([],[]),.int .i64 4]):=by
 obtain⟨fp,fc⟩:=f;obtain⟨gp,gc⟩:=g;simp only at *
 refine Qf Qo Tryz.func69 rfl R0 (by simp[AT]) fun C hP=>?_;simp only[AT,Zo,Zg,Zm,Zc,Zf,Zl,Zh,Zs,Zi,Zb,Zk,Zn,Zu,Zq,Zr,Zz];refine Sz0 ?_;refine Qa hP hd rfl rfl rfl ?_;refine Sz0 ?_;rw[bO rfl];refine Sz0 ?_;refine iS ?_;refine Sz0 ?_;exact eV (p':=PV.el ([],[])) rfl rfl rfl ⟨trivial,trivial,trivial⟩ (Qy _)
def mP(l:List (List Tm×List (List Tm)))(at_:Nat)(v:Nat)(R:List Tm×List (List Tm)->List Tm×List (List Tm))(i:Nat):List (List Tm×List (List Tm)):=
 if i=at_∨Qv (l.getD i default).1≠v then [l.getD i default]else if 0<(R (l.getD i default)).1.length then [R (l.getD i default)]else []
def eP(l:List (List Tm×List (List Tm)))(at_ v:Nat)(R:List Tm×List (List Tm)->List Tm×List (List Tm))(i:Nat):List (List Tm×List (List Tm)):=(List.range i).flatMap (mP l at_ v R)
theorem DI(l:List (List Tm×List (List Tm)))(at_ v:Nat)(R:List Tm×List (List Tm)->List Tm×List (List Tm)):∀i,(eP l at_ v R i).length<=i
 |0=>by simp[eP]
 |i+1=>by
  have:=DI l at_ v R i;unfold eP at *
  rw[Kb0,Kb4,Kap];have h2:((([i]:List Nat).flatMap (mP l at_ v R))).length<=1:=by simp only[Kau,KaA,Kak];unfold mP;split<;>(try split)<;>simp
  omega
theorem PA{l:List (List Tm×List (List Tm))}{at_ v K E bad:Nat}{er:Int}{R:List Tm×List (List Tm)->List Tm×List (List Tm)}(hl:l.length<=100)(bA:at_<l.length)(hp:∀x∈l,PB K E x.1/\x.1.length<=2^30)(qW:bad<=l.length)
  (oX:∀i (h:i<l.length),i<bad->i≠at_->Qv l[i].1=v->Qc Tryz.prog 69 [PV.el l[i],PV.el l[at_],.int .i64 v] (· = .au [PV.el (R l[i]),.int .i64 0])/\(R l[i]).1.length<=2^30)
  (Fj:∀h:bad<l.length,bad≠at_/\Qv l[bad].1=v/\er≠0/\Qc Tryz.prog 69 [PV.el l[bad],PV.el l[at_],.int .i64 v] (· = .au [PV.el ([],[]),.int .i64 er])):
  Qc Tryz.prog 29 [.sl 2 (l.map PV.el),.int .i64 at_,.int .i64 v] (· =if bad=l.length then .au [.sl 2 ((eP l at_ v R l.length).map PV.el),.int .i64 0]else .au [.sl 2 [],.int .i64 er]):=by
 obtain⟨tY,ou⟩:∃tY,tY=if bad=l.length then PV.au [.sl 2 ((eP l at_ v R l.length).map PV.el),.int .i64 0]else .au [.sl 2 [],.int .i64 er]:=⟨_,rfl⟩
 rw[<-ou];refine Qf Qo Tryz.func29 rfl akL (by simp[KT]) fun C hP=>?_;simp only[KT,Zo,Zg,Zm,Zc,Zf,Zl,Zh,Zs,Zi,Zb,Zk,Zn,Zu,Zq,Zr,Zz];refine Sz0 ?_;refine kZ 8 900 2 34 (by omega) Tz0 ?_;refine Qw (by repeat (first|exact Qr|exact Qk|exact Ql|exact Qm|exact Qn|apply Qj|apply Qq|apply Qx|apply Q5|apply Q6|apply Qi|apply Q2)) [(6,12),(15,55)] [10,11,32,33,53,54,900] (fun m J hp=>∃i,m=l.length-i/\i<=bad/\J 8= .ms 900 (eP l at_ v R i).length/\J 15= .int .i64 (i:Nat)/\hp 900=some ⟨2,34,(eP l at_ v R i).map PV.el,false⟩) l.length ?_ ?_
 ·refine⟨0,rfl,by omega,?_⟩;refine Sz0 ?_
  first|rfl|exact⟨rfl,rfl⟩|exact⟨rfl,rfl,rfl⟩
 rintro _ J h ⟨i,rfl,hi,j8,mu,hh⟩;refine Sz2 j8 mu ?_;refine Qb (fun hg=>?_) (fun hg=>?_)
 ·have c1:i<l.length:=by omega
  obtain⟨b1,b2⟩:=hp _ (Kag c1);have hm:=xf b1 (by omega:_<=2^36);by_cases gR:i=bad
  ·subst gR;obtain⟨e1,e2,e3,hd⟩:=Fj c1;have aO:¬i=l.length:=by omega
   generalize eP l at_ v R i=A at *
   generalize hx:l[i]=x at *
   generalize hy:l[at_]=y at *
   have q1:decide ((i:Int)=(at_:Int))=false:=decide_eq_false (by omega);have q2:decide (¬Qv x.1=(v:Int))=false:=decide_eq_false fun h=>h e2;have rD:(!decide (Qv x.1=(v:Int)))=false:=by simp[e2]
   have q3:decide (er=0)=false:=decide_eq_false e3;have tc:decide (¬er=0)=true:=decide_eq_true e3;refine Sz4 j8 mu hx q1 ?_;refine Qa hP hm rfl rfl rfl ?_;refine Sz7 j8 mu hx hy q1 q2 rD ?_;refine nP ?_ ?_
   all_goals
    refine Sz7 j8 mu hx hy q1 q2 rD ?_;refine Qa hP hd rfl rfl rfl ?_;refine Sz9 j8 mu hx hy q1 q2 rD q3 tc ?_;exact eV (p':=.sl 2 []) (by rw[ou,if_neg aO]) rfl rfl trivial (Qy _)
  have hd:=oX i c1 (by omega);have uj:=fun e1 e2=>(hd e1 e2).2;replace hd:=fun e1 e2=>(hd e1 e2).1;have sK:=DI l at_ v R i;have aG:eP l at_ v R (i+1)=eP l at_ v R i++mP l at_ v R i:=by unfold eP;rw[Kb0,Kb4];simp
  have eH:l.getD i default=l[i]:=by simp[c1]
  unfold mP at aG;rw[eH]at aG;generalize eP l at_ v R i=A at *
  generalize hx:l[i]=x at *
  generalize hy:l[at_]=y at *
  by_cases e1:i=at_
  ·have q1:decide ((i:Int)=(at_:Int))=true:=decide_eq_true (by omega);rw[if_pos (.inl e1)]at aG;refine Sz4 j8 mu hx q1 ?_;rw[Q9 (f:=PV.el) (y:=x) (xs:=A) (ty':=34) (fz:=false) (Tz1 hh) cH (by omega) rfl (by omega) (by omega)];refine Sz4 j8 mu hx q1 ?_;refine Qg (l.length-(i+1)) (by omega) ⟨i+1,rfl,by omega,?_⟩;rw[aG];simp+decide (disch:=first|omega|rfl|(simp+decide only[go_sem,Kap]<;>rfl)|fail) only[go_sem,Kap]
   try trivial
  ·have q1:decide ((i:Int)=(at_:Int))=false:=decide_eq_false (by omega);refine Sz4 j8 mu hx q1 ?_;refine Qa hP hm rfl rfl rfl ?_;by_cases e2:Qv x.1=v
   ·have q2:decide (¬Qv x.1=(v:Int))=false:=decide_eq_false fun h=>h e2;have rD:(!decide (Qv x.1=(v:Int)))=false:=by simp[e2]
    rw[if_neg (by simp[e1,e2])]at aG;have hd:=hd e1 e2;have uj:=uj e1 e2;generalize hr:R x=z at *
    refine Sz7 j8 mu hx hy q1 q2 rD ?_;refine nP ?_ ?_
    all_goals
     refine Sz7 j8 mu hx hy q1 q2 rD ?_;refine Qa hP hd rfl rfl rfl ?_;by_cases e3:0<z.1.length
     ·have q3:decide ((z.1.length:Int)>0)=true:=decide_eq_true (by omega);have tc:decide (0<(z.1.length:Int))=true:=decide_eq_true (by omega);rw[if_pos e3]at aG;refine Sz9 j8 mu hx hy q1 q2 rD q3 tc ?_;rw[Q9 (f:=PV.el) (y:=z) (xs:=A) (ty':=34) (fz:=false) (Tz1 hh) cH (by omega) rfl (by omega) (by omega)];refine Sz4 j8 mu hx q1 ?_;refine Qg (l.length-(i+1)) (by omega) ⟨i+1,rfl,by omega,?_⟩;rw[aG];simp+decide (disch:=first|omega|rfl|(simp+decide only[go_sem,Kap]<;>rfl)|fail) only[go_sem,Kap]
      try trivial
     ·have q3:decide ((z.1.length:Int)>0)=false:=decide_eq_false (by omega);have tc:decide (0<(z.1.length:Int))=false:=decide_eq_false (by omega);rw[if_neg e3,Kak]at aG;refine Sz9 j8 mu hx hy q1 q2 rD q3 tc ?_;refine Qg (l.length-(i+1)) (by omega) ⟨i+1,rfl,by omega,?_⟩;rw[aG];refine Sz2 j8 hh ?_
      try (first|trivial|exact⟨rfl,rfl⟩)
   ·have q2:decide (¬Qv x.1=(v:Int))=true:=decide_eq_true e2;have rD:(!decide (Qv x.1=(v:Int)))=true:=by simp[e2]
    rw[if_pos (.inr e2)]at aG;refine Sz6 j8 mu hx q1 q2 rD ?_;rw[Q9 (f:=PV.el) (y:=x) (xs:=A) (ty':=34) (fz:=false) (Tz1 hh) cH (by omega) rfl (by omega) (by omega)];refine Sz4 j8 mu hx q1 ?_;refine Qg (l.length-(i+1)) (by omega) ⟨i+1,rfl,by omega,?_⟩;rw[aG];simp+decide (disch:=first|omega|rfl|(simp+decide only[go_sem,Kap]<;>rfl)|fail) only[go_sem,Kap]
    try trivial
 ·obtain rfl:i=l.length:=by omega
  have fm:bad=l.length:=by omega
  refine lk j8 hh ?_;exact eV (by rw[ou,if_pos fm,Kae (by simp)]) rfl rfl (Qy _) (Qy _)
theorem ah4{l:List (List Tm×List (List Tm))}{at_ v K E:Nat}{R:List Tm×List (List Tm)->List Tm×List (List Tm)}(hl:l.length<=100)(bA:at_<l.length)(hp:∀x∈l,PB K E x.1/\x.1.length<=2^30)
  (oX:∀i (h:i<l.length),i≠at_->Qv l[i].1=v->Qc Tryz.prog 69 [PV.el l[i],PV.el l[at_],.int .i64 v] (· = .au [PV.el (R l[i]),.int .i64 0])) (hR:∀x∈l,Qv x.1=v->(R x).1.length<=2^30):
  Qc Tryz.prog 29 [.sl 2 (l.map PV.el),.int .i64 at_,.int .i64 v] (· = .au [.sl 2 ((eP l at_ v R l.length).map PV.el),.int .i64 0]):=by
 have h:=PA (bad:=l.length) (er:=0) hl bA hp (Kac _) (fun i h _ h1 h2=>⟨oX i h h1 h2,hR _ (Kag h) h2⟩) (fun h=>absurd h (by omega));simpa using h
end Go.Proofs.YtdjoomkeehihmaaGreat
namespace Go.FW
open Go
variable {fr : Fr} {hp : HP}
theorem akd{β e ty:Nat}{xs xs':List PV}{fz:Bool}(al:hp β=some ⟨e,ty,xs,fz⟩)(hl:xs'.length=xs.length)
  (hc:∀(i:Nat)(x x':PV),xs[i]? =some x->xs'[i]? =some x'->x'.aE=true/\x'.cells.length=x.cells.length/\∀(j:Nat)(y y':PV),x.cells[j]? =some y->x'.cells[j]? =some y'->PV.mw y y'):
  Wk fr hp fr (Qz hp β ⟨e,ty,xs',fz⟩):=by
 rintro C tmps w ⟨ρ,hs⟩;obtain⟨an,qf⟩:∃f,f=Qz hp β ⟨e,ty,xs',fz⟩:=⟨_,rfl⟩
 rw[<-qf];have NP:an β=some ⟨e,ty,xs',fz⟩:=by rw[qf];simp[Qz]
 have po:∀γ,γ≠β->an γ=hp γ:=fun γ ak=>by rw[qf];simp[Qz,ak]
 have back:∀(i:Nat)(x':PV),xs'[i]? =some x'->∃x,xs[i]? =some x:=fun i x' h=>by have hi:i<xs'.length:=(Kad.1 h).1;exact⟨xs[i]'(by omega),by simp⟩
 have hX:∀c,aH C ρ an c->aH C ρ hp c:=by
  rintro c (hx|⟨γ,hb,g1,g2,g3⟩)
  ·exact .inl hx
  ·by_cases ak:γ=β
   ·subst ak;rw[NP]at g1;cases g1;exact .inr ⟨γ,_,al,g2,g3⟩
   ·rw[po γ ak]at g1;exact .inr ⟨γ,hb,g1,g2,g3⟩
 have aG:ob w w (aH C ρ hp) (aH C ρ an):=⟨fun _ _ _=>rfl,fun c _ hn h=>hn (hX c h),Kac _⟩
 have c1:∀γ,qy ρ ρ hp an w w γ:=fun γ=>by
  by_cases ak:γ=β
  ·subst ak;refine⟨rfl,fun hb hq=>?_⟩;rw[al]at hq;cases hq;exact⟨_,NP,rfl,by show xs.length<=xs'.length;omega,fun _ _ _ h=>h,fun h=>⟨Kcd (by rw[show xs=[]from h]at hl;exact hl),rfl,fun _ _=>rfl⟩⟩
  ·exact⟨rfl,fun hb hq=>⟨hb,by rw[po γ ak];exact hq,rfl,Kac _,fun _ _ _ h=>h,fun h=>⟨h,rfl,fun _ _=>rfl⟩⟩⟩
 refine⟨ρ,hs.sz,hs.ext,hs.ij,fun γ oU ak=>?_,fun γ δ c g1 g2 g3 g4=>?_,fun i=>?_⟩
 ·by_cases hq:γ=β
  ·subst hq;rw[NP]at ak;cases ak;have h:=hs.own γ _ al;refine⟨h.l6,fun i x' aW=>?_,?_,h.fix,h.ro⟩
   ·obtain⟨x,hx⟩:=back i x' aW;obtain⟨d1,d2,_⟩:=hc i x x' hx aW;exact⟨d2.trans (h.len i x hx).1,d1⟩
   ·have bc:=h.eg;cases hr:ρ γ with
    |none=>rw[hr]at bc;exact Kcd (by rw[show xs=[]from bc]at hl;exact hl)
    |some b=>
     rw[hr]at bc;obtain⟨b1,b2,cur,cap,k1,k2,k3,k4,k5⟩:=bc;refine⟨b1,b2,cur,cap,k1,k2,by show xs'.length<=cap;have:xs.length<=cap:=k3;omega,k4,fun i x' aW j y' jO=>?_⟩;obtain⟨x,hx⟩:=back i x' aW;obtain⟨_,d2,d3⟩:=hc i x x' hx aW;have hj:j<x'.cells.length:=(Kad.1 jO).1;have hy:x.cells[j]? =some (x.cells[j]'(by omega)):=by simp
     exact((k5 i x hx j _ hy).le (d3 j _ y' hy jO)).sub hX
  ·rw[po γ hq]at ak;obtain⟨q1,q2,q3,q4,q5⟩:=hs.own γ oU ak;refine⟨q1,q2,?_,q4,q5⟩;cases hr:ρ γ with
   |none=>rw[hr]at q3;exact q3
   |some c=>rw[hr]at q3;exact⟨q3.1,q3.2.1,q3.2.2.move rfl rfl rfl rfl aG.rc⟩
 ·have f:∀γ,an γ≠none->hp γ≠none:=fun γ ak=>by
   by_cases hq:γ=β
   ·subst hq;simp[al]
   ·rwa[po γ hq]at ak
  exact hs.inj γ δ c (f γ g1) (f δ g2) g3 g4
 ·exact(hs.fh i).move aG (fun γ _=>(c1 γ).o) (fun γ _=>(c1 γ).Cm) (fun γ e' ty' ys _=>c1 γ)
end Go.FW
