/- Part 13 of the proof of MatrixSolves: B20, A8, A9, A10, A11, U5, P5, U6, P6, V1, B4, B6, B7, B8, FwVE, FwVF. Own lemmas; no conditions. -/
import Derived.Test.YtkoclfmjlolkhaaGreatMatrixSolvesPart12
set_option linter.unusedSimpArgs false
set_option linter.unusedVariables false
set_option linter.unnecessarySimpa false
set_option maxRecDepth 100000
namespace Go.Proofs.YtkoclfmjlolkhaaGreat
open Go Go.FW
def c15:SFn:=⟨74,[.t 2,.t 3],Zr (Zo (.box 1 3 24 (.t 0))<|
 Zo (.mv 2 (.c .nilS))<|
 Zc 3 0 .nil)<| .seq (Zr (Zh 11 3 1<|
 Zq 12 false 52 [.t 11]<|
 Zu 13 12 .nil)<| .cond (.t 13) (Zr (Zo (.mv 2 (.c .nilS))<|
 Zc 3 1 .nil) .ret) .skip)<|Zr (Zh 14 3 1<|
 Zf 16 1 1<|
 Zl 17 1 16<|
 .br (Zq 15 true 54 [.t 14]<|
 .br (Zq 18 false 55 [.t 15,.t 17]<|
 Zo (.alloc 4 5 87 (.agg [.nilS,.nilS,.bool false,.nilS,.nilS]))<|
 Zs 5 4 18 .nil) (Zo (.alloc 4 5 87 (.agg [.nilS,.nilS,.bool false,.nilS,.nilS]))<|
 Zq 18 false 55 [.t 15,.t 17]<|
 Zs 5 4 18 .nil)) (Zo (.alloc 4 5 87 (.agg [.nilS,.nilS,.bool false,.nilS,.nilS]))<|
 Zq 15 true 54 [.t 14]<|
 Zq 18 false 55 [.t 15,.t 17]<|
 Zs 5 4 18 .nil))<|Zr (Zo (.mv 5 (.c .nilS)) .nil)<|Zr (Zc 6 0 .nil)<| .seq (Zr (Zf 19 1 1<|
 Zl 20 1 19<|
 Zc 21 0 .nil)<| .block 0<| .loop<|Zr (Zb 22 .lss 21 20 .nil)<| .seq (.cond (.t 22) .skip (.exit 0))<| .seq (.block 1<|Zr (Zm 23 21<|
 Zm 7 23 .nil)<| .seq (Zr (Zm 24 6<|
 Zf 25 1 4<|
 Zl 26 1 25<|
 Zn 27 26<|
 Zb 28 .lss 24 27<|
 Zm 29 28<|
 Zg 29 true (.fld 30 1 (.t 4))<|
 Zg 29 true (.ld 31 1 false (.t 30))<|
 Zg 29 true (.mv 32 (.t 6))<|
 Zg 29 true (.idx 33 1 (.t 31) (.t 32))<|
 Zg 29 true (.ld 34 1 false (.t 33))<|
 Zg 29 true (.mv 35 (.t 7))<|
 Zg 29 true (.bin 36 .eql false (.t 34) (.t 35))<|
 Zo (.pick 37 (.t 29) (.t 36) (.c (.bool false))) .nil)<| .cond (.t 37) (Zr (Zm 38 6<|
 Zk 39 .add 38 1<|
 Zm 6 39 .nil)<| .exit 1) .skip)<|Zr (Zf 40 1 1<|
 Zl 41 1 40<|
 Zq 42 false 56 [.t 41]<|
 .wk<|Zm 8 42 .nil)<|Zr (Zm 43 8<|
 Zm 44 7<|
 Zq 45 false 61 [.c (Zz 1)]<|
 Zi 46 3 43 44<|
 Zs 3 46 45 .nil)<| .seq (Zr (Zf 47 1 4<|
 Zl 48 1 47<|
 Zn 49 48<|
 Zc 50 0 .nil)<| .block 2<| .loop<|Zr (Zb 51 .lss 50 49 .nil)<| .seq (.cond (.t 51) .skip (.exit 2))<| .seq (.block 3<|Zr (Zm 52 50<|
 Zi 53 1 48 50<|
 Zl 54 1 53<|
 Zm 9 52<|
 Zm 10 54 .nil)<| .rg (Zm 55 8<|
 Zm 56 10<|
 Zf 57 0 4<|
 Zl 58 1 57<|
 Zm 59 9<|
 Zi 60 1 58 59<|
 Zl 61 1 60<|
 Zm 62 7<|
 Zi 63 3 61 62<|
 Zh 64 3 63<|
 Zq 65 false 62 [.t 64]<|
 Zi 66 3 55 56<|
 Zs 3 66 65 .nil))<| .rg (Zk 67 .add 50 1<|
 Zm 50 67 .nil))<| .rg (Zm 68 5<|
 Zm 69 8<|
 Zo (.bs 70 1 22 [.t 69])<|
 Zo (.app 71 1 24 22 (.t 68) (.t 70))<|
 Zm 5 71 .nil))<| .rg (Zk 72 .add 21 1<|
 Zm 21 72 .nil))<|Zr (Zm 73 5<|
 Zm 2 73<|
 Zc 3 0 .nil) .ret⟩
theorem Q4b:Qe Tryz.prog Tryz.f15=some c15.strip:=by kernel_rfl
theorem Qk9{n:Nat}(hn:n<=2^30):Qbr Tryz.prog 56 [.int .i64 (n:Nat)] (fun _=> .undef) hp0 (fun r _ H=>r= .ms 2000000 n/\H 2000000=some ⟨3,51,Qh PV.rat (fun _=>(0:Rat)) n,false⟩):=by
 refine Qdb Qt Tryz.func56 rfl (Qrt Q3t) (by simp[c56]) fun C hP=> ?_;simp only[c56,Zo,Zg,Zm,Zc,Zf,Zl,Zh,Zs,Zi,Zb,Zk,Zn,Zu,Zq,Zr,Zz]
 simp+decide (disch:=try exact D0) only[go_sem]
 refine Qai (by repeat (first|exact Qw|exact Qo|exact Qp|exact Qq|exact Qr|apply Qn|apply Qv|apply Qz|apply Q6|apply Q7|apply Qk|apply Qu)) [(4,4),(9,16)] [] (fun q J hp=>∃i xs,q=n-i/\i<=n/\J 9= .int .i64 (i:Nat)/\xs.length=n/\hp 6=some ⟨3,51,xs,false⟩/\hp 2000000=none/\∀j,j<i->xs[j]? =some (PV.rat 0)) n ?_ ?_
 ·refine⟨0,List.replicate n (.agg [.bool false,.nilS,.nilS]),rfl,by omega,?_⟩
  simp+decide (disch:=try exact D0) only[go_sem]
  exact⟨rfl,by simp,fun j hj=>by omega⟩
 rintro _ J h ⟨i,xs,rfl,hi,h9,hl,h6,hN,hx⟩
 simp+decide (disch:=try exact D1 h9) only[go_sem,h9]
 refine Qb (fun hg=> ?_) (fun hg=> ?_)
 ·have hi':i<n:=by omega
  simp+decide (disch:=try exact D1 h9) only[go_sem,h9]
  refine Qa hP (Qn5 (x:=0) (by omega) (by omega)) rfl rfl rfl ?_
  rw[show((0:Int):Rat)=0 from rfl]
  generalize(0:Rat)=z at *
  simp+decide (disch:=try exact D2 h9 h6) only[go_sem,h9,h6]
  rw[Qe5 (n:=3) (xs:=xs) (v:=PV.rat z) (by omega) rfl rfl]
  simp+decide (disch:=try exact D1 h9) only[go_sem,h9]
  refine Qab (n-(i+1)) (by omega) ⟨i+1,xs.set i (PV.rat z),rfl,by omega,?_⟩
  simp+decide (disch:=try exact D1 hN) only[go_sem,hN]
  refine⟨by simp[hl],fun j hj=> ?_⟩
  rw[List.getElem?_set]
  by_cases e:i=j
  ·rw[if_pos e,if_pos (by omega)]
  ·rw[if_neg e];exact hx j (by omega)
 ·obtain rfl:i=n:=by omega
  have e:xs=Qh PV.rat (fun _=>(0:Rat)) i:=by
   refine List.ext_getElem (by simp[Qh,hl]) fun j h1 h2=> ?_
   have:=hx j (by omega)
   rw[List.getElem?_eq_getElem h1]at this
   rw[Qc7];exact Option.some.inj this
  simp+decide (disch:=try exact D2 h9 h6) only[go_sem,h9,h6]
  refine Qyf (Qiy 6 2000000 (T1 hN) (by omega) rfl (by omega)) ?_
  refine Qmv ?_
  simp+decide (disch:=try exact D2 h6 e) only[go_sem,h6,e]
abbrev PV.rowsL(m:Nat)(L:List (Nat->Rat)):PV:= .sl 1 (L.map (PV.rowD m))
theorem Q4c{R w x:Nat}{M:MF}{hp:HP}(h:nmR R x=false):Qgf R w M hp x=hp x:=by
 have:=Q0p h
 unfold Qgf
 rw[if_neg (by omega),if_neg (by omega)]
theorem Q4d{R:Nat}:∀x,nmR R x=true->2000000<=x:=fun x hx=>by
 rcases Qh9 hx with rfl|h<;>omega
theorem Q9c{R m K:Nat}{l:List Rat}(hl:l.length=R*m)(hR2:R<=40)(hm:m<=40)(hs:∀q∈l,rs q<=1048576)(hK:K<=2^20)(hB:Qhh K R m m (Q3 l m)):
  Qd Tryz.prog 15 [PV.mat R m l] (· = .tup [PV.rowsL m (Qck (Qaf R (Q3 l m) m).M (Qaf R (Q3 l m) m).piv m),.int .i64 0]):=by
 have hEp:=Qdn R (Q3 l m) m
 have hEs:=Qk8 R (Q3 l m) m
 have hEb:=(hB m (Nat.le_refl _)).1
 have hc1:=fun(h0:R=0)=>Qk3 hl hR2 hm
 have hc2:R=0->Qd Tryz.prog 55 [.sl 1 (Qh8 (Q3 l m) R m),.int .i64 (m:Nat)] (· =PV.ech R m (Qaf R (Q3 l m) m)):=fun h0=>by
  subst h0;exact Qm4 (M:=Q3 l m) (w:=m) (n:=m) hm
 have hfree:∀(hp:HP),(∀x,5<=x->hp x=none)->∀x,nmR R x=true->hp x=none:=fun hp h x hx=>h x (by have:=Qh9 hx;omega)
 refine Qcz Qt Tryz.func15 rfl Q4b (by simp[c15]) fun C hP=> ?_;simp only[c15,Zo,Zg,Zm,Zc,Zf,Zl,Zh,Zs,Zi,Zb,Zk,Zn,Zu,Zq,Zr,Zz]
 simp+decide (disch:=try exact D0) only[go_sem]
 refine Qa hP (Qhl hl hR2 hm hs) rfl rfl rfl ?_
 simp+decide (disch:=try exact D0) only[go_sem]
 obtain⟨E,hE⟩:∃E,Qaf R (Q3 l m) m=E:=⟨_,rfl⟩
 have hEl:Qh8 E.M R m=Qh (PV.rowD m) E.M R:=rfl
 refine Q9b (by repeat (first|exact Qw|exact Qo|exact Qp|exact Qq|exact Qr|apply Qn|apply Qv|apply Qz|apply Q6|apply Q7|apply Qk|apply Qu)) [(4,4),(14,18),(2000000,2000000)] [4] (fun J hp=>J 4= .mp 4 0 0/\hp 1=some ⟨3,24,[PV.mat R m l],false⟩/\hp 4=some ⟨5,87,[.agg [.sl 1 (Qh (PV.rowD m) E.M R),.sl 1 (Qeg E.piv),.bool (decide (E.det.num<0)),PV.num E.det.num.natAbs,PV.num E.det.den]],false⟩/\hp 2000000=none/\∀j,hp (3000000+j)=none) ?_ ?_
 ·by_cases hR:R=0
  ·have e1:=hc1 hR
   have e2:=hc2 hR
   rw[hE]at e2
   repeat' first
    |refine Qeu ?_ ?_
    |refine Qa hP e1 rfl rfl rfl ?_
    |refine Qa hP e2 rfl rfl rfl ?_
    |simp+decide (disch:=try exact D0) only[go_sem]
   all_goals
    refine Qhy ?_
    simp+decide (disch:=try exact D0) only[go_sem]
    exact⟨rfl,fun _=>trivial⟩
  ·have hR0:0<R:=by omega
   repeat' first
    |refine Qeu ?_ ?_
    |refine Qkj hP hl hR0 hR2 hm (by omega) (hfree _ (fun x hx=>by simp+decide (disch:=try exact D3 (show ¬x=1 from by omega) (show ¬x=2 from by omega) (show ¬x=4 from by omega)) only[go_sem,show ¬x=1 from by omega,show ¬x=2 from by omega,show ¬x=4 from by omega]<;>rfl)) ?_
    |refine Qk5 (K:=K) (M:=Q3 l m) (ty:=22) (tyr:=51) hP hR0 hR2 hm (Nat.le_refl _) hK hB T0 (by simp+decide (disch:=first|omega|rfl|(simp+decide only[go_sem,Qgg]<;>rfl)|fail) only[go_sem,Qgg]) (fun r hr=>by simp+decide (disch:=first|omega|rfl|(simp+decide only[go_sem,Qem]<;>rfl)|fail) only[go_sem,Qem]) ?_
    |rw[Qwo,Qwp Q4d]
    |simp+decide (disch:=first|omega|rfl|(simp+decide only[go_sem,Qbc,Qdg,Qay]<;>rfl)|fail) only[go_sem,Qbc,Qdg,Qay]
   all_goals
    refine Qhy ?_
    simp+decide (disch:=first|omega|rfl|(simp+decide only[go_sem,Qbc,Qdg,Qay,hE,hEl]<;>rfl)|fail) only[go_sem,Qbc,Qdg,Qay,hE,hEl]
    intro j
    split
    ·rfl
    ·rename_i hn
     rw[Q4c (by simpa using hn)]
     simp+decide (disch:=try exact D0) only[go_sem]<;>rfl
 rw[hE]at hEp hEs hEb⊢
 rintro J0 h0 ⟨g4,g1,gE,gN,gno⟩
 simp+decide (disch:=try exact D2 g4 g1) only[go_sem,g4,g1]
 refine Qd6 5 900 1 22 (by omega) T0 ?_
 refine Qat (by repeat (first|exact Qw|exact Qo|exact Qp|exact Qq|exact Qr|apply Qn|apply Qv|apply Qz|apply Q6|apply Q7|apply Qk|apply Qu)) [(5,10),(21,72)] [70,71,900] (fun q J hp=>∃k n,q=m-k/\k<=m/\n<=E.piv.length/\(∀j (hj:j<E.piv.length),j<n->E.piv[j]<k)/\(∀j (hj:j<E.piv.length),n<=j->k<=E.piv[j])/\J 5= .ms 900 (Qex E.piv k).length/\J 6= .int .i64 (n:Nat)/\J 21= .int .i64 (k:Nat)/\
   hp 1=some ⟨3,24,[PV.mat R m l],false⟩/\hp 4=some ⟨5,87,[.agg [.sl 1 (Qh (PV.rowD m) E.M R),.sl 1 (Qeg E.piv),.bool (decide (E.det.num<0)),PV.num E.det.num.natAbs,PV.num E.det.den]],false⟩/\hp 900=some ⟨1,22,(Qck E.M E.piv k).map (PV.rowD m),false⟩/\hp 2000000=none/\∀j,k<=j->hp (3000000+j)=none) m ?_ ?_
 ·refine⟨0,0,rfl,by omega,by omega,(fun j _ hj=>by omega),(fun j _ _=>Nat.zero_le _),?_⟩
  simp+decide (disch:=try exact D4 g4 g1 gE gN) only[go_sem,g4,g1,gE,gN]
  refine⟨rfl,rfl,rfl,rfl,fun j _=> ?_⟩
  have:=gno j
  simp+decide (disch:=try exact D1 this) only[go_sem,this]
 rintro _ J h ⟨k,n,rfl,hk,hn,hlo,hhi,j5,j6,j21,h1,h4,h9,hN,hno⟩
 simp+decide (disch:=try exact D1 j21) only[go_sem,j21]
 refine Qb (fun hc=> ?_) (fun hc=> ?_)
 ·have hk':k<m:=by omega
  have hfs:=Qrm E.piv k
  simp+decide (disch:=try exact D6 j5 j6 j21 h1 h4 g4) only[go_sem,j5,j6,j21,h1,h4,g4]
  have hlast:E.piv.contains k=false->Qex E.piv (k+1)=Qex E.piv k++[k]:=fun h=>by rw[hfs,h];rfl
  refine Qbq (fun hg1=> ?_) (fun hg1=> ?_)
  case' refine_1=>
   have hn':n<E.piv.length:=by omega
   have hpn:=hhi n hn' (Nat.le_refl _)
   simp+decide (disch:=try exact D6 j5 j6 j21 h1 h4 g4) only[go_sem,j5,j6,j21,h1,h4,g4]
   refine Qb (fun hq=> ?_) (fun hq=> ?_)
   ·have hq':E.piv[n]=k:=by omega
    have hct:E.piv.contains k=true:=List.contains_iff_mem.2 (by rw[<-hq'];exact List.getElem_mem hn')
    have hf2:Qex E.piv (k+1)=Qex E.piv k:=by rw[hfs,hct];simp
    simp+decide (disch:=try exact D2 j6 j21) only[go_sem,j6,j21]
    refine Qak (m-(k+1)) (by omega) ⟨k+1,n+1,rfl,by omega,by omega,fun j hj h=> ?_,fun j hj h=> ?_,?_⟩
    ·by_cases e:j=n
     ·subst e;omega
     ·have:=hlo j hj (by omega);omega
    ·have:=Qj0 hEs (show n<j by omega) hj;omega
    ·have hk2:Qck E.M E.piv (k+1)=Qck E.M E.piv k:=by unfold Qck;rw[hf2]
     rw[hf2,hk2]
     simp+decide (disch:=try exact D5 j5 h1 h4 h9 hN) only[go_sem,j5,h1,h4,h9,hN]
     exact fun j hj=>hno j (by omega)
   have hct:E.piv.contains k=false:=by
    refine Bool.eq_false_iff.2 fun h=> ?_
    obtain⟨j,hj,hjk⟩:=List.getElem_of_mem (List.contains_iff_mem.1 h)
    rcases Nat.lt_trichotomy j n with e|e|e
    ·have:=hlo j hj e;omega
    ·subst e;exact hq (by simp[hjk])
    ·have:=Qj0 hEs e hj
     have:E.piv[n]≠k:=fun e=>hq (by simp[e])
     omega
  case' refine_2=>
   have hct:E.piv.contains k=false:=by
    refine Bool.eq_false_iff.2 fun h=> ?_
    obtain⟨j,hj,hjk⟩:=List.getElem_of_mem (List.contains_iff_mem.1 h)
    have:=hlo j hj (by omega);omega
  all_goals
   have hf2:=hlast hct
   simp+decide (disch:=try exact D6 j5 j6 j21 h1 h4 g4) only[go_sem,j5,j6,j21,h1,h4,g4]
   refine Qlx hP (Qk9 (n:=m) (by omega)) hN (by intro x hx γ e ty xs;rw[List.mem_singleton.1 hx];intro h;cases h) rfl (by simp) ?_
   simp+decide (disch:=try exact D0) only[go_sem]
   refine Qch (Qiy 2000000 (3000000+k) (by simp+decide (disch:=first|omega|rfl|(simp+decide only[go_sem,hno k (Nat.le_refl _)]<;>rfl)|fail) only[go_sem,hno k (Nat.le_refl _)]) (by omega) rfl (by omega)) ?_
   have hmv:=fun(B:List Nat) (F:Fr)=>Qye (B:=B) (F:=F) (β:=2000000) (δ:=3000000+k) (.inr (by omega)) (.inr (by omega))
   simp+decide (disch:=try exact D7 j5 j6 j21 h1 h4 g4 hmv) only[go_sem,j5,j6,j21,h1,h4,g4,hmv]
   refine Qa hP (Qn5 (x:=1) (by omega) (by omega)) rfl rfl rfl ?_
   obtain⟨u,hu⟩:∃u:Rat,((1:Int):Rat)=u:=⟨_,rfl⟩
   rw[hu]
   have hu1:u=1:=hu.symm
   simp+decide (disch:=try exact D6 j5 j6 j21 h1 h4 g4) only[go_sem,j5,j6,j21,h1,h4,g4]
   rw[Qfm hk']
   simp+decide (disch:=try exact D6 j5 j6 j21 h1 h4 g4) only[go_sem,j5,j6,j21,h1,h4,g4]
   refine Qat (by repeat (first|exact Qw|exact Qo|exact Qp|exact Qq|exact Qr|apply Qn|apply Qv|apply Qz|apply Q6|apply Q7|apply Qk|apply Qu)) [(8,10),(50,67)] [] (fun q J2 hp=>∃j,q=E.piv.length-j/\j<=E.piv.length/\J2 8= .mso (3000000+k) 0 m/\J2 50= .int .i64 (j:Nat)/\hp 1=some ⟨3,24,[PV.mat R m l],false⟩/\hp 4=some ⟨5,87,[.agg [.sl 1 (Qh (PV.rowD m) E.M R),.sl 1 (Qeg E.piv),.bool (decide (E.det.num<0)),PV.num E.det.num.natAbs,PV.num E.det.den]],false⟩/\hp 900=some ⟨1,22,(Qck E.M E.piv k).map (PV.rowD m),false⟩/\hp 2000000=none/\(∀j,k+1<=j->hp (3000000+j)=none)/\hp (3000000+k)=some ⟨3,51,Qh PV.rat (Qev E.M E.piv k j) m,false⟩) E.piv.length ?_ ?_
   ·refine⟨0,rfl,by omega,?_⟩
    have e0:(fun c=>if c=k then u else 0)=Qev E.M E.piv k 0:=by rw[hu1];rfl
    simp+decide (disch:=try exact D4 h1 h4 h9 e0) only[go_sem,h1,h4,h9,e0]
    refine⟨rfl,fun j hj=> ?_⟩
    rw[if_neg (by omega),if_neg (by omega)]
    exact hno j (by omega)
   rintro _ J2 hp2 ⟨j,rfl,hj,i8,i50,i1,i4,i9,iN,ino,ix⟩
   simp+decide (disch:=try exact D1 i50) only[go_sem,i50]
   refine Qb (fun hc2=> ?_) (fun hc2=> ?_)
   ·have hj':j<E.piv.length:=by omega
    simp+decide (disch:=try exact D6 i8 i50 i1 i4 ix g4) only[go_sem,i8,i50,i1,i4,ix,g4]
    have hRj:j<R:=by omega
    have hpj:E.piv[j]<m:=hEp.2.2 _ (List.getElem_mem hj')
    have hb1:=hEb j hRj k hk'
    refine Qa hP (Q0g (a:=E.M j k) (k:=K) hb1 (by omega)) rfl rfl rfl ?_
    obtain⟨v,hv⟩:∃v,-(E.M j k)=v:=⟨_,rfl⟩
    rw[hv]
    simp+decide (disch:=try exact D6 i8 i50 i1 i4 ix g4) only[go_sem,i8,i50,i1,i4,ix,g4]
    rw[Qfm hpj]
    have e1:(fun c=>if c=E.piv[j]then v else Qev E.M E.piv k j c)=Qev E.M E.piv k (j+1):=by
     funext c
     rw[<-hv]
     show _=if c=E.piv.getD j 0 then _ else _
     rw[List.getD_eq_getElem?_getD,List.getElem?_eq_getElem hj',Option.getD_some]
    simp+decide (disch:=try exact D1 i50) only[go_sem,i50]
    refine Qak (E.piv.length-(j+1)) (by omega) ⟨j+1,rfl,by omega,?_⟩
    simp+decide (disch:=try exact D6 i8 i1 i4 i9 iN e1) only[go_sem,i8,i1,i4,i9,iN,e1]
    intro j' hj'
    rw[if_neg (by omega)]
    exact ino j' hj'
   ·obtain rfl:j=E.piv.length:=by omega
    simp (disch:=decide) only[Qce,Qci,Qcf,Qct]
    simp+decide (disch:=try exact D8 i8 i50 i1 i4 i9 ix g4 j5) only[go_sem,i8,i50,i1,i4,i9,ix,g4,j5]
    rw[Qagv ix (by omega),List.take_of_length_le (by simp[Qaa])]
    have hkl:(Qck E.M E.piv k).length=(Qex E.piv k).length:=by simp[Qck]
    have hfl:(Qex E.piv k).length<=k:=by
     have:=List.length_filter_le (fun c=> !E.piv.contains c) (List.range k)
     rw[List.length_range]at this
     exact this
    have hk2:Qck E.M E.piv k++[Qev E.M E.piv k E.piv.length]=Qck E.M E.piv (k+1):=by
     unfold Qck;rw[hf2,List.map_append];rfl
    simp+decide (disch:=try exact D8 i8 i50 i1 i4 i9 ix g4 j5) only[go_sem,i8,i50,i1,i4,i9,ix,g4,j5]
    have hfz:FW.Q9 hp2 [3000000+k] 900=hp2 900:=Qi1 (by intro y hy;rw[List.mem_singleton.1 hy];omega) (by omega)
    rw[i9]at hfz
    rw[Qaz (f:=PV.rowD m) (y:=Qev E.M E.piv k E.piv.length) (xs:=Qck E.M E.piv k) (ty':=22) (fz:=false) (T1 hfz) T0 (by omega) hkl.symm (by omega) (by omega),hk2]
    simp+decide (disch:=try exact D2 j6 j21) only[go_sem,j6,j21]
    refine Qak (m-(k+1)) (by omega) ⟨k+1,n,rfl,by omega,by omega,fun j hj h=> ?_,fun j hj h=> ?_,?_⟩
    ·have:=hlo j hj h;omega
    ·have h1:=hhi j hj h
     have h2:E.piv[j]≠k:=fun e=>by
      have:E.piv.contains k=true:=List.contains_iff_mem.2 (by rw[<-e];exact List.getElem_mem hj)
      rw[this]at hct;cases hct
     omega
    have hl1:(Qex E.piv (k+1)).length=(Qex E.piv k).length+1:=by rw[hf2];simp
    have hz:∀x,hp2 x=none->FW.Q9 hp2 [3000000+k] x=none:=fun x hx=>by
     unfold FW.Q9;rw[hx];split<;>rfl
    have hf1:FW.Q9 hp2 [3000000+k] 1=hp2 1:=Qi1 (by intro y hy;rw[List.mem_singleton.1 hy];omega) (by omega)
    have hf4:FW.Q9 hp2 [3000000+k] 4=hp2 4:=Qi1 (by intro y hy;rw[List.mem_singleton.1 hy];omega) (by omega)
    rw[i1]at hf1
    rw[i4]at hf4
    simp+decide (disch:=try exact D4 hl1 j6 hf1 hf4) only[go_sem,hl1,j6,hf1,hf4]
    exact⟨hz _ iN,fun j hj=>hz _ (ino j hj)⟩
 ·obtain rfl:k=m:=by omega
  simp+decide (disch:=try exact D2 j5 h9) only[go_sem,j5,h9]
  refine Qb9 (Qb1 ?_)
  simp+decide (disch:=try exact E2 j5 h9) only[go_sem,j5,h9,Qac,List.contains_cons,List.contains_nil,List.flatMap_cons,List.flatMap_nil,List.append_nil]
  rw[List.take_of_length_le (by simp[Qck])]
  exact Qb2 rfl rfl rfl (Qy _) (Qy _)
theorem Qads{n:Nat}(hn:n<=2^30):Qd Tryz.prog 56 [.int .i64 (n:Nat)] (· = .sl 3 (Qh PV.rat (fun _=>(0:Rat)) n)):=by
 refine Qi Qt Tryz.func56 rfl Q3t (by simp[c56]) fun C hP=> ?_;simp only[c56,Zo,Zg,Zm,Zc,Zf,Zl,Zh,Zs,Zi,Zb,Zk,Zn,Zu,Zq,Zr,Zz]
 simp+decide (disch:=try exact D0) only[go_sem]
 refine Qai (by repeat (first|exact Qw|exact Qo|exact Qp|exact Qq|exact Qr|apply Qn|apply Qv|apply Qz|apply Q6|apply Q7|apply Qk|apply Qu)) [(4,4),(9,16)] [] (fun q J hp=>∃i xs,q=n-i/\i<=n/\J 9= .int .i64 (i:Nat)/\xs.length=n/\hp 6=some ⟨3,51,xs,false⟩/\∀j,j<i->xs[j]? =some (PV.rat 0)) n ?_ ?_
 ·refine⟨0,List.replicate n (.agg [.bool false,.nilS,.nilS]),rfl,by omega,?_⟩
  simp+decide (disch:=try exact D0) only[go_sem]
  exact⟨rfl,by simp,fun j hj=>by omega⟩
 rintro _ J h ⟨i,xs,rfl,hi,h9,hl,h6,hx⟩
 simp+decide (disch:=try exact D1 h9) only[go_sem,h9]
 refine Qb (fun hg=> ?_) (fun hg=> ?_)
 ·have hi':i<n:=by omega
  simp+decide (disch:=try exact D1 h9) only[go_sem,h9]
  refine Qa hP (Qn5 (x:=0) (by omega) (by omega)) rfl rfl rfl ?_
  rw[show((0:Int):Rat)=0 from rfl]
  generalize(0:Rat)=z at *
  simp+decide (disch:=try exact D2 h9 h6) only[go_sem,h9,h6]
  rw[Qe5 (n:=3) (xs:=xs) (v:=PV.rat z) (by omega) rfl rfl]
  simp+decide (disch:=try exact D1 h9) only[go_sem,h9]
  refine Qab (n-(i+1)) (by omega) ⟨i+1,xs.set i (PV.rat z),rfl,by omega,?_⟩
  simp+decide (disch:=try exact D0) only[go_sem]
  refine⟨by simp[hl],fun j hj=> ?_⟩
  rw[List.getElem?_set]
  by_cases e:i=j
  ·rw[if_pos e,if_pos (by omega)]
  ·rw[if_neg e];exact hx j (by omega)
 ·obtain rfl:i=n:=by omega
  have e:xs=Qh PV.rat (fun _=>(0:Rat)) i:=by
   refine List.ext_getElem (by simp[Qh,hl]) fun j h1 h2=> ?_
   have:=hx j (by omega)
   rw[List.getElem?_eq_getElem h1]at this
   rw[Qc7];exact Option.some.inj this
  simp+decide (disch:=try exact D2 h9 h6) only[go_sem,h9,h6]
  refine Qc ?_ ?_
  ·simp+decide (disch:=try exact E2 h6 e) only[go_sem,Qac,List.contains_cons,List.contains_nil,List.flatMap_cons,List.flatMap_nil,List.append_nil,h6,e]
   rw[List.take_of_length_le (by rw[Qaa];omega)]
  ·simp+decide (disch:=try exact E1 h6) only[go_sem,Qac,List.contains_cons,List.contains_nil,List.flatMap_cons,List.flatMap_nil,List.append_nil,h6]
theorem Qrn{x y:Nat->Rat}{c:Rat}{w ty1 ty2 k:Nat}(hw:w<=2^30)(hx:∀i,i<w->rs (x i)<=k)(hy:∀i,i<w->rs (y i)<=k)(hc:rs c<=k)(hk:k<=2^33):
  Qbr Tryz.prog 180 [.ms 1500000 w,.ms 1500001 w,PV.rat c] (fun _=> .undef) (Qg (Qg hp0 1500000 ⟨3,ty1,Qh PV.rat x w,true⟩) 1500001 ⟨3,ty2,Qh PV.rat y w,true⟩) (fun r _ _=>r= .sl 3 (Qh PV.rat (Qhi x y c) w)):=by
 refine Qdb Qt Tryz.func180 rfl Qyl (by simp[Qwf]) fun C hP=> ?_;simp only[Qwf,Zo,Zg,Zm,Zc,Zf,Zl,Zh,Zs,Zi,Zb,Zk,Zn,Zu,Zq,Zr,Zz]
 simp+decide (disch:=try exact D0) only[go_sem]
 refine Qai (by repeat (first|exact Qw|exact Qo|exact Qp|exact Qq|exact Qr|apply Qn|apply Qv|apply Qz|apply Q6|apply Q7|apply Qk|apply Qu)) [(8,8),(14,31)] [] (fun q J hp=>∃i xs,q=w-i/\i<=w/\J 14= .int .i64 (i:Nat)/\xs.length=w/\hp 11=some ⟨3,51,xs,false⟩/\hp 5=some ⟨3,51,[PV.rat c],false⟩/\hp 1500000=some ⟨3,ty1,Qh PV.rat x w,true⟩/\hp 1500001=some ⟨3,ty2,Qh PV.rat y w,true⟩/\∀j,j<i->xs[j]? =some (PV.rat (Qhi x y c j))) w ?_ ?_
 ·refine⟨0,List.replicate w (.agg [.bool false,.nilS,.nilS]),rfl,by omega,?_⟩
  simp+decide (disch:=try exact D0) only[go_sem]
  exact⟨rfl,by simp,fun j hj=>by omega⟩
 rintro _ J h ⟨i,xs,rfl,hi,h14,hl,h11,h5,hx1,hy1,hxs⟩
 simp+decide (disch:=try exact D1 h14) only[go_sem,h14]
 refine Qb (fun hg=> ?_) (fun hg=> ?_)
 ·have hi':i<w:=by omega
  have h1:=hx i hi'
  have h2:=hy i hi'
  have hm:=Qf2 c (y i)
  simp+decide (disch:=try exact D5 h14 h11 h5 hx1 hy1) only[go_sem,h14,h11,h5,hx1,hy1]
  refine Qa hP (Qow (k:=k) hc h2 (by omega)) rfl rfl rfl ?_
  simp+decide (disch:=try exact D5 h14 h11 h5 hx1 hy1) only[go_sem,h14,h11,h5,hx1,hy1]
  refine Qa hP (Q0a (k:=2*k) (by omega) (by omega) (by omega)) rfl rfl rfl ?_
  simp+decide (disch:=try exact D5 h14 h11 h5 hx1 hy1) only[go_sem,h14,h11,h5,hx1,hy1]
  rw[Qe5 (n:=3) (xs:=xs) (v:=PV.rat (x i+c*y i)) (by omega) rfl rfl]
  simp+decide (disch:=try exact D1 h14) only[go_sem,h14]
  refine Qab (w-(i+1)) (by omega) ⟨i+1,xs.set i (PV.rat (x i+c*y i)),rfl,by omega,?_⟩
  simp+decide (disch:=try exact D3 h5 hx1 hy1) only[go_sem,h5,hx1,hy1]
  refine⟨by simp[hl],fun j hj=> ?_⟩
  rw[List.getElem?_set]
  by_cases e:i=j
  ·subst e;rw[if_pos rfl,if_pos (by omega)];rfl
  ·rw[if_neg e];exact hxs j (by omega)
 ·obtain rfl:i=w:=by omega
  have e:xs=Qh PV.rat (Qhi x y c) i:=by
   refine List.ext_getElem (by simp[Qh,hl]) fun j h1 h2=> ?_
   have:=hxs j (by omega)
   rw[List.getElem?_eq_getElem h1]at this
   rw[Qc7];exact Option.some.inj this
  simp+decide (disch:=try exact D2 h14 h11) only[go_sem,h14,h11]
  refine Qd4 ?_
  simp+decide (disch:=try exact D1 h11) only[go_sem,h11]
  refine Qc ?_ ?_
  ·simp+decide (disch:=try exact E2 h11 e) only[go_sem,Qac,List.contains_cons,List.contains_nil,List.flatMap_cons,List.flatMap_nil,List.append_nil,h11,e]
   rw[List.take_of_length_le (by rw[Qaa];omega)]
  ·simp+decide (disch:=try exact E1 h11) only[go_sem,Qac,List.contains_cons,List.contains_nil,List.flatMap_cons,List.flatMap_nil,List.append_nil,h11]
theorem Qxo{x y:Nat->Rat}{c:Rat}{w ty2 k:Nat}(hw:w<=2^30)(hx:∀i,i<w->rs (x i)<=k)(hy:∀i,i<w->rs (y i)<=k)(hc:rs c<=k)(hk:k<=2^33):
  Qbr Tryz.prog 180 [.sl 3 (Qh PV.rat x w),.ms 1500001 w,PV.rat c] (fun _=> .undef) (Qg hp0 1500001 ⟨3,ty2,Qh PV.rat y w,true⟩) (fun r _ _=>r= .sl 3 (Qh PV.rat (Qhi x y c) w)):=by
 have hrl:(Qh PV.rat x w).length=w:=Qaa _ _ _
 refine Qdb Qt Tryz.func180 rfl Qyl (by simp[Qwf]) fun C hP=> ?_;simp only[Qwf,Zo,Zg,Zm,Zc,Zf,Zl,Zh,Zs,Zi,Zb,Zk,Zn,Zu,Zq,Zr,Zz]
 simp+decide (disch:=try exact D1 hrl) only[go_sem,hrl]
 refine Qai (by repeat (first|exact Qw|exact Qo|exact Qp|exact Qq|exact Qr|apply Qn|apply Qv|apply Qz|apply Q6|apply Q7|apply Qk|apply Qu)) [(8,8),(14,31)] [] (fun q J hp=>∃i xs,q=w-i/\i<=w/\J 14= .int .i64 (i:Nat)/\xs.length=w/\hp 11=some ⟨3,51,xs,false⟩/\hp 5=some ⟨3,51,[PV.rat c],false⟩/\hp 1500001=some ⟨3,ty2,Qh PV.rat y w,true⟩/\∀j,j<i->xs[j]? =some (PV.rat (Qhi x y c j))) w ?_ ?_
 ·refine⟨0,List.replicate w (.agg [.bool false,.nilS,.nilS]),rfl,by omega,?_⟩
  simp+decide (disch:=try exact D0) only[go_sem]
  exact⟨rfl,by simp,fun j hj=>by omega⟩
 rintro _ J h ⟨i,xs,rfl,hi,h14,hl,h11,h5,hy1,hxs⟩
 simp+decide (disch:=try exact D1 h14) only[go_sem,h14]
 refine Qb (fun hg=> ?_) (fun hg=> ?_)
 ·have hi':i<w:=by omega
  have h1:=hx i hi'
  have h2:=hy i hi'
  have hm:=Qf2 c (y i)
  simp+decide (disch:=try exact D4 h14 h11 h5 hy1) only[go_sem,h14,h11,h5,hy1]
  refine Qa hP (Qow (k:=k) hc h2 (by omega)) rfl rfl rfl ?_
  simp+decide (disch:=try exact D4 h14 h11 h5 hy1) only[go_sem,h14,h11,h5,hy1]
  refine Qa hP (Q0a (k:=2*k) (by omega) (by omega) (by omega)) rfl rfl rfl ?_
  simp+decide (disch:=try exact D4 h14 h11 h5 hy1) only[go_sem,h14,h11,h5,hy1]
  rw[Qe5 (n:=3) (xs:=xs) (v:=PV.rat (x i+c*y i)) (by omega) rfl rfl]
  simp+decide (disch:=try exact D1 h14) only[go_sem,h14]
  refine Qab (w-(i+1)) (by omega) ⟨i+1,xs.set i (PV.rat (x i+c*y i)),rfl,by omega,?_⟩
  simp+decide (disch:=try exact D2 h5 hy1) only[go_sem,h5,hy1]
  refine⟨by simp[hl],fun j hj=> ?_⟩
  rw[List.getElem?_set]
  by_cases e:i=j
  ·subst e;rw[if_pos rfl,if_pos (by omega)];rfl
  ·rw[if_neg e];exact hxs j (by omega)
 ·obtain rfl:i=w:=by omega
  have e:xs=Qh PV.rat (Qhi x y c) i:=by
   refine List.ext_getElem (by simp[Qh,hl]) fun j h1 h2=> ?_
   have:=hxs j (by omega)
   rw[List.getElem?_eq_getElem h1]at this
   rw[Qc7];exact Option.some.inj this
  simp+decide (disch:=try exact D2 h14 h11) only[go_sem,h14,h11]
  refine Qd4 ?_
  simp+decide (disch:=try exact D1 h11) only[go_sem,h11]
  refine Qc ?_ ?_
  ·simp+decide (disch:=try exact E2 h11 e) only[go_sem,Qac,List.contains_cons,List.contains_nil,List.flatMap_cons,List.flatMap_nil,List.append_nil,h11,e]
   rw[List.take_of_length_le (by rw[Qaa];omega)]
  ·simp+decide (disch:=try exact E1 h11) only[go_sem,Qac,List.contains_cons,List.contains_nil,List.flatMap_cons,List.flatMap_nil,List.append_nil,h11]
def Qwq(M:MF)(R:Nat):Prop:=∀i,i<R->∀k,k<i->M i k=M k i
instance {M : MF} {R : Nat} : Decidable (Qwq M R) := by unfold Qwq; infer_instance
theorem Qxp{M:MF}{R K ty tyr:Nat}(hR2:R<=40)(hK:K<2^35)(hB:MBd K R R M):
  Qbr Tryz.prog 115 [.nso 1500000 0 R] (upd (fun _=> .undef) 1500000 (.nst 1500000 1 ty (Qx (Qas 1600000 R R id))))
   (fun x=>if x=1500000 then some ⟨1,ty,[],true⟩else if 1600000<=x/\x<1600000+R then some ⟨3,tyr,Qh PV.rat (M (x-1600000)) R,true⟩else none) (fun r _ _=>r= .bool (decide (Qwq M R))):=by
 refine Qdb Qt Tryz.func115 rfl Qac3 (by simp[Q8u]) fun C hP=> ?_;simp only[Q8u,Zo,Zg,Zm,Zc,Zf,Zl,Zh,Zs,Zi,Zb,Zk,Zn,Zu,Zq,Zr,Zz]
 simp+decide (disch:=try exact D0) only[go_sem]
 refine Qat (by repeat (first|exact Qw|exact Qo|exact Qp|exact Qq|exact Qr|apply Qn|apply Qv|apply Qz|apply Q6|apply Q7|apply Qk|apply Qu)) [(0,0),(2,4),(7,31),(1500000,1500000)] [] (fun q J hp=>∃i,q=R-i/\i<=R/\J 0= .nso 1500000 0 R/\J 7= .int .i64 (i:Nat)/\J 1500000= .nst 1500000 1 ty (Qx (Qas 1600000 R R id))/\hp 1500000=some ⟨1,ty,[],true⟩/\(∀r,r<R->hp (1600000+r)=some ⟨3,tyr,Qh PV.rat (M r) R,true⟩)/\∀j,j<i->∀k,k<j->M j k=M k j) R ?_ ?_
 ·refine⟨0,rfl,by omega,?_⟩
  simp+decide (disch:=try exact D0) only[go_sem]
  refine⟨rfl,fun r hr=> ?_,fun j hj=>by omega⟩
  rw[if_pos ⟨by omega,by omega⟩,Nat.add_sub_cancel_left]
 rintro _ J h ⟨i,rfl,hi,h0,h7,hg,hh,hr,hs⟩
 simp+decide (disch:=try exact D1 h7) only[go_sem,h7]
 refine Qb (fun hc=> ?_) (fun hc=> ?_)
 ·have hi':i<R:=by omega
  simp+decide (disch:=try exact D4 h0 h7 hg hh) only[go_sem,h0,h7,hg,hh]
  refine Qat (by repeat (first|exact Qw|exact Qo|exact Qp|exact Qq|exact Qr|apply Qn|apply Qv|apply Qz|apply Q6|apply Q7|apply Qk|apply Qu)) [(0,0),(2,2),(4,4),(11,30),(1500000,1500000)] [] (fun q J hp=>∃k,q=i-k/\k<=i/\J 0= .nso 1500000 0 R/\J 11= .int .i64 (k:Nat)/\J 1500000= .nst 1500000 1 ty (Qx (Qas 1600000 R R id))/\h=hp/\∀j,j<k->M i j=M j i) i ?_ ?_
  ·refine⟨0,rfl,by omega,?_⟩
   simp+decide (disch:=try exact D2 h0 hg) only[go_sem,h0,hg]
   exact⟨rfl,fun j hj=>by omega⟩
  rintro _ J2 _ ⟨k,rfl,hk,i0,i11,ig,rfl,is⟩
  simp+decide (disch:=try exact D1 i11) only[go_sem,i11]
  refine Qb (fun hc2=> ?_) (fun hc2=> ?_)
  ·have hk':k<i:=by omega
   have r1:=hr i hi'
   have r2:=hr k (by omega)
   have b1:=hB i hi' k (by omega)
   have b2:=hB k (by omega) i hi'
   simp+decide (disch:=first|omega|rfl|(simp+decide only[go_sem,i0,i11,ig,hh,r1,r2,id]<;>rfl)|fail) only[go_sem,i0,i11,ig,hh,r1,r2,id]
   refine Qa hP (Qacd (a:=M i k) (b:=M k i) b1 b2 (by omega)) rfl rfl rfl ?_
   by_cases e:M i k=M k i
   ·simp+decide (disch:=try exact D2 i11 e) only[go_sem,i11,e]
    refine Qak (i-(k+1)) (by omega) ⟨k+1,rfl,by omega,?_⟩
    simp+decide (disch:=try exact D2 i0 ig) only[go_sem,i0,ig]
    intro j hj
    by_cases e2:j=k
    ·subst e2;exact e
    ·exact is j (by omega)
   ·simp+decide (disch:=try exact D1 e) only[go_sem,e]
    refine Qd4 ?_
    simp+decide (disch:=try exact D0) only[go_sem]
    refine Qc ?_ rfl
    rw[decide_eq_false]
    exact fun h=>e (h i hi' k hk')
  ·simp+decide (disch:=try exact D1 h7) only[go_sem,h7]
   simp (disch:=decide) only[Qce,Qci,Qcf,Qct]
   refine Qak (R-(i+1)) (by omega) ⟨i+1,rfl,by omega,?_⟩
   simp+decide (disch:=try exact D3 i0 ig hh) only[go_sem,i0,ig,hh]
   refine⟨hr,fun j hj k' hk'=> ?_⟩
   by_cases e:j=i
   ·subst e;exact is k' (by omega)
   ·exact hs j (by omega) k' hk'
 ·simp+decide (disch:=try exact D0) only[go_sem]
  refine Qd4 ?_
  simp+decide (disch:=try exact D0) only[go_sem]
  refine Qc ?_ rfl
  rw[decide_eq_true]
  exact fun j hj k hk=>hs j (by omega) k hk
theorem Qagw{M:MF}{R K ty tyr:Nat}(hR2:R<=40)(hK:K<2^30)(hB:MBd K R R M):
  Qbr Tryz.prog 116 [.nso 1500000 0 R] (upd (fun _=> .undef) 1500000 (.nst 1500000 1 ty (Qx (Qas 1600000 R R id))))
   (fun x=>if x=1500000 then some ⟨1,ty,[],true⟩else if 1600000<=x/\x<1600000+R then some ⟨3,tyr,Qh PV.rat (M (x-1600000)) R,true⟩else none) (fun r _ _=>r= .sl 4 ((Qfd M R).map (PV.form R))):=by
 refine Qdb Qt Tryz.func116 rfl Qac4 (by simp[Q8v]) fun C hP=> ?_;simp only[Q8v,Zo,Zg,Zm,Zc,Zf,Zl,Zh,Zs,Zi,Zb,Zk,Zn,Zu,Zq,Zr,Zz]
 simp+decide (disch:=try exact D0) only[go_sem]
 refine Qa hP (Qn5 (x:=1) (by omega) (by omega)) rfl rfl rfl ?_
 rw[show((1:Int):Rat)=1 from rfl]
 obtain⟨u,hu⟩:∃u:Rat,(1:Rat)=u:=⟨_,rfl⟩
 rw[hu]
 simp+decide (disch:=try exact D0) only[go_sem]
 refine Qat (by repeat (first|exact Qw|exact Qo|exact Qp|exact Qq|exact Qr|apply Qn|apply Qv|apply Qz|apply Q6|apply Q7|apply Qk|apply Qu)) [(0,0),(2,2),(4,7),(16,47),(1500000,1500000)] [5,6,46] (fun q J hp=>∃i,q=R-i/\i<=R/\J 0= .nso 1500000 0 R/\J 16= .int .i64 (i:Nat)/\J 1500000= .nst 1500000 1 ty (Qx (Qas 1600000 R R id))/\hp 1500000=some ⟨1,ty,[],true⟩/\(∀r,r<R->hp (1600000+r)=some ⟨3,tyr,Qh PV.rat (M r) R,true⟩)/\hp 3=some ⟨3,51,[PV.rat u],false⟩/\∀j,j<i->M j j=0) R ?_ ?_
 ·refine⟨0,rfl,by omega,?_⟩
  simp+decide (disch:=try exact D0) only[go_sem]
  refine⟨rfl,fun r hr=> ?_,fun j hj=>by omega⟩
  rw[if_pos ⟨by omega,by omega⟩,Nat.add_sub_cancel_left]
 rintro _ J h ⟨i,rfl,hi,h0,h16,hg,hh,hr,h3,hz⟩
 simp+decide (disch:=try exact D1 h16) only[go_sem,h16]
 refine Qb (fun hc=> ?_) (fun hc=> ?_)
 ·have hi':i<R:=by omega
  have r1:=hr i hi'
  have b1:=hB i hi' i hi'
  simp+decide (disch:=first|omega|rfl|(simp+decide only[go_sem,h0,h16,hg,hh,r1,id]<;>rfl)|fail) only[go_sem,h0,h16,hg,hh,r1,id]
  refine Qa hP (Qlu (a:=M i i) (by omega)) rfl rfl rfl ?_
  simp+decide (disch:=first|omega|rfl|(simp+decide only[go_sem,h0,h16,hg,hh,r1,id]<;>rfl)|fail) only[go_sem,h0,h16,hg,hh,r1,id]
  refine Qb (fun hs=> ?_) (fun hs=> ?_)
  ·have hne:M i i≠0:=fun e=>hs (Qb8.2 e)
   simp+decide (disch:=try exact D1 h3) only[go_sem,h3]
   refine Qa hP (Q0d (a:=u) (b:=M i i) (k:=K+1) (by rw[<-hu];have:=Qse;omega) (by omega) (by omega) hne) rfl rfl rfl ?_
   simp+decide (disch:=first|omega|rfl|(simp+decide only[go_sem,h0,h16,hg,hh,r1,id]<;>rfl)|fail) only[go_sem,h0,h16,hg,hh,r1,id]
   refine Qa hP (Qads (n:=R) (by omega)) rfl rfl rfl ?_
   simp+decide (disch:=try exact D0) only[go_sem]
   have hbd:rs (u/M i i)<=K+2:=by
    rw[Rat.div_def]
    have q1:=Qf2 u (M i i)⁻¹
    have q2:=Qwn (M i i) hne
    have q3:=Qse
    rw[hu]at q3
    omega
   have cmb:=Qxo (w:=R) (x:=fun _=>(0:Rat)) (y:=M i) (c:=u/M i i) (ty2:=tyr) (k:=K+2) (by omega) (fun _ _=>by have:=Qp2;omega) (fun c hc=>by have:=hB i hi' c hc;omega) hbd (by omega)
   refine Qadc hP (hb1:=⟨3,tyr,Qh PV.rat (M i) R,true⟩) cmb T0 (γ1:=1600000+i) (T1 r1) T0 (fun γ hγ=>by simpa[PV.refs,PV.sref]using hγ) (by simp) ?_
   simp+decide (disch:=try exact D1 h0) only[go_sem,h0]
   refine Qd4 ?_
   simp+decide (disch:=try exact D0) only[go_sem]
   refine Qc ?_ ?_
   ·simp+decide (disch:=try exact E0) only[go_sem,Qac,List.contains_cons,List.contains_nil,List.flatMap_cons,List.flatMap_nil,List.append_nil]
    have hdi:Qiz M R=i:=Qov (Nat.zero_le _) (by omega) (decide_eq_true hne) fun j _ hj=>decide_eq_false (fun h=>h (hz j hj))
    unfold Qfd
    rw[hdi,if_pos hi',<-hu]
    rfl
   ·simp+decide (disch:=try exact E0) only[go_sem,Qac,List.contains_cons,List.contains_nil,List.flatMap_cons,List.flatMap_nil,List.append_nil]
  ·simp+decide (disch:=try exact D1 h16) only[go_sem,h16]
   refine Qak (R-(i+1)) (by omega) ⟨i+1,rfl,by omega,?_⟩
   simp+decide (disch:=try exact D4 h0 hg hh h3) only[go_sem,h0,hg,hh,h3]
   refine⟨hr,fun j hj=> ?_⟩
   by_cases e:j=i
   ·subst e;exact Qb8.1 (Classical.not_not.1 hs)
   ·exact hz j (by omega)
 ·obtain rfl:i=R:=by omega
  have hnd:¬Qiz M i<i:=by
   have:Qiz M i=0+i:=Qls fun j _ hj=>decide_eq_false (fun h=>h (hz j (by omega)))
   omega
  simp+decide (disch:=try exact D1 h0) only[go_sem,h0]
  refine Qat (by repeat (first|exact Qw|exact Qo|exact Qp|exact Qq|exact Qr|apply Qn|apply Qv|apply Qz|apply Q6|apply Q7|apply Qk|apply Qu)) [(0,0),(2,2),(8,12),(50,101),(1500000,1500000)] [10,11,99] (fun q J hp=>∃a,q=i-a/\a<=i/\J 0= .nso 1500000 0 i/\J 50= .int .i64 (a:Nat)/\J 1500000= .nst 1500000 1 ty (Qx (Qas 1600000 i i id))/\hp 1500000=some ⟨1,ty,[],true⟩/\(∀r,r<i->hp (1600000+r)=some ⟨3,tyr,Qh PV.rat (M r) i,true⟩)/\hp 3=some ⟨3,51,[PV.rat u],false⟩/\∀j,j<a->∀k,k<i->M j k=0) i ?_ ?_
  ·refine⟨0,rfl,by omega,?_⟩
   simp+decide (disch:=try exact D4 h0 hg hh h3) only[go_sem,h0,hg,hh,h3]
   exact⟨rfl,hr,fun j hj=>by omega⟩
  rintro _ J1 h1 ⟨a,rfl,ha,a0,a50,ag,ah,ar,a3,az⟩
  simp+decide (disch:=try exact D1 a50) only[go_sem,a50]
  refine Qb (fun hca=> ?_) (fun hca=> ?_)
  ·have ha':a<i:=by omega
   have r1:=ar a ha'
   simp+decide (disch:=first|omega|rfl|(simp+decide only[go_sem,a0,a50,ag,ah,r1,id]<;>rfl)|fail) only[go_sem,a0,a50,ag,ah,r1,id]
   refine Qat (by repeat (first|exact Qw|exact Qo|exact Qp|exact Qq|exact Qr|apply Qn|apply Qv|apply Qz|apply Q6|apply Q7|apply Qk|apply Qu)) [(0,0),(2,2),(9,12),(56,56),(58,100),(1500000,1500000)] [10,11,99] (fun q J hp=>∃b,q=i-b/\b<=i/\J 0= .nso 1500000 0 i/\J 56= .ms (1600000+a) i/\J 58= .int .i64 (b:Nat)/\J 1500000= .nst 1500000 1 ty (Qx (Qas 1600000 i i id))/\hp 1500000=some ⟨1,ty,[],true⟩/\(∀r,r<i->hp (1600000+r)=some ⟨3,tyr,Qh PV.rat (M r) i,true⟩)/\hp 3=some ⟨3,51,[PV.rat u],false⟩/\∀k,k<b->M a k=0) i ?_ ?_
   ·refine⟨0,rfl,by omega,?_⟩
    simp+decide (disch:=try exact D4 a0 ag ah a3) only[go_sem,a0,ag,ah,a3]
    exact⟨rfl,ar,fun j hj=>by omega⟩
   rintro _ J2 h2 ⟨b,rfl,hb,b0,b56,b58,bg,bh,br,b3,bz⟩
   simp+decide (disch:=try exact D1 b58) only[go_sem,b58]
   refine Qb (fun hcb=> ?_) (fun hcb=> ?_)
   ·have hb':b<i:=by omega
    have s1:=br a ha'
    have s2:=br b hb'
    have b1:=hB a ha' b hb'
    simp+decide (disch:=first|omega|rfl|(simp+decide only[go_sem,b0,b56,b58,bg,bh,s1,s2,id]<;>rfl)|fail) only[go_sem,b0,b56,b58,bg,bh,s1,s2,id]
    refine Qa hP (Qlu (a:=M a b) (by omega)) rfl rfl rfl ?_
    simp+decide (disch:=first|omega|rfl|(simp+decide only[go_sem,b0,b56,b58,bg,bh,s1,s2,id]<;>rfl)|fail) only[go_sem,b0,b56,b58,bg,bh,s1,s2,id]
    refine Qb (fun hs=> ?_) (fun hs=> ?_)
    ·have hne:M a b≠0:=fun e=>hs (Qb8.2 e)
     have hab:a≠b:=fun e=>hne (by rw[<-e];exact hz a ha')
     simp+decide (disch:=first|omega|rfl|(simp+decide only[go_sem,b0,b56,b58,bg,bh,b3,s1,s2,id]<;>rfl)|fail) only[go_sem,b0,b56,b58,bg,bh,b3,s1,s2,id]
     have q1:=Q2o (M a b) (M a b)
     have hne2:M a b+M a b≠0:=fun h=>hne (by grind)
     have q2:rs u<=1:=by rw[<-hu];exact Qse
     have c1:=Q0a (a:=M a b) (b:=M a b) (k:=K) b1 b1 (by omega)
     have c2:=Q0d (a:=u) (b:=M a b+M a b) (k:=2*K+1) (by omega) (by omega) (by omega) hne2
     have q3:rs (u/(M a b+M a b))<=2*K+2:=by
      rw[Rat.div_def]
      have:=Qf2 u (M a b+M a b)⁻¹
      have:=Qwn (M a b+M a b) hne2
      omega
     have c3:=Q0g (a:=u/(M a b+M a b)) q3 (by omega)
     have c4:=Qn5 (x:= -1) (by omega) (by omega)
     rw[show((-1:Int):Rat)= -1 from rfl]at c4
     obtain⟨v,hv⟩:∃v:Rat,(-1:Rat)=v:=⟨_,rfl⟩
     have q4:rs v<=1:=by rw[<-hv,Qlp];exact Qse
     rw[hv]at c4
     have c5:=Qrn (w:=i) (x:=M a) (y:=M b) (c:=u) (ty1:=tyr) (ty2:=tyr) (k:=K+2) (by omega) (fun c hc=>by have:=hB a ha' c hc;omega) (fun c hc=>by have:=hB b hb' c hc;omega) (by omega) (by omega)
     have c6:=Qrn (w:=i) (x:=M a) (y:=M b) (c:=v) (ty1:=tyr) (ty2:=tyr) (k:=K+2) (by omega) (fun c hc=>by have:=hB a ha' c hc;omega) (fun c hc=>by have:=hB b hb' c hc;omega) (by omega) (by omega)
     have hci:Qk0 M i a=b:=Qov (Nat.zero_le _) (by omega) (decide_eq_true hne) fun j _ hj=>decide_eq_false (fun h=>h (bz j hj))
     have hri:Qgi M i=a:=Qov (Nat.zero_le _) (by omega) (decide_eq_true (by rw[hci];exact hb')) fun j _ hj=>decide_eq_false (fun h=>by
      have:Qk0 M i j=0+i:=Qls fun k _ hk=>decide_eq_false (fun h2=>h2 (az j (by omega) k (by omega)))
      omega)
     have hnx:Qfd M i=[(u/(M a b+M a b),Qhi (M a) (M b) u),(-(u/(M a b+M a b)),Qhi (M a) (M b) v)]:=by
      unfold Qfd
      rw[if_neg hnd,hri,if_pos ha',hci,<-hu,<-hv]
     have hab2:¬1600000+b=1600000+a:=by omega
     repeat' first
      |refine Qeu ?_ ?_
      |refine Qa hP c1 rfl rfl rfl ?_
      |refine Qa hP c2 rfl rfl rfl ?_
      |simp+decide (disch:=first|omega|rfl|(simp+decide only[go_sem,b0,b56,b58,bg,bh,b3,s1,s2,id]<;>rfl)|fail) only[go_sem,b0,b56,b58,bg,bh,b3,s1,s2,id]
     all_goals
      refine Qyn hP (hb1:=⟨3,tyr,Qh PV.rat (M a) i,true⟩) (hb2:=⟨3,tyr,Qh PV.rat (M b) i,true⟩) c5 T0 (γ1:=1600000+a) (γ2:=1600000+b) (T1 s1) (T1 s2) (by omega) (T1 hab2) (fun γ hγ=>by simpa[PV.refs,PV.sref]using hγ) (by simp) ?_
      simp+decide (disch:=first|omega|rfl|(simp+decide only[go_sem,b0,b56,b58,bg,bh,b3,s1,s2,id]<;>rfl)|fail) only[go_sem,b0,b56,b58,bg,bh,b3,s1,s2,id]
      refine Qa hP c3 rfl rfl rfl ?_
      simp+decide (disch:=first|omega|rfl|(simp+decide only[go_sem,b0,b56,b58,bg,bh,b3,s1,s2,id]<;>rfl)|fail) only[go_sem,b0,b56,b58,bg,bh,b3,s1,s2,id]
      refine Qa hP c4 rfl rfl rfl ?_
      simp+decide (disch:=first|omega|rfl|(simp+decide only[go_sem,b0,b56,b58,bg,bh,b3,s1,s2,id]<;>rfl)|fail) only[go_sem,b0,b56,b58,bg,bh,b3,s1,s2,id]
      refine Qyn hP (hb1:=⟨3,tyr,Qh PV.rat (M a) i,true⟩) (hb2:=⟨3,tyr,Qh PV.rat (M b) i,true⟩) c6 T0 (γ1:=1600000+a) (γ2:=1600000+b) (T1 s1) (T1 s2) (by omega) (T1 hab2) (fun γ hγ=>by simpa[PV.refs,PV.sref]using hγ) (by simp) ?_
      simp+decide (disch:=first|omega|rfl|(simp+decide only[go_sem,b0,b56,b58,bg,bh,b3,s1,s2,id]<;>rfl)|fail) only[go_sem,b0,b56,b58,bg,bh,b3,s1,s2,id]
      refine Qd4 ?_
      simp+decide (disch:=try exact D0) only[go_sem]
      refine Qc ?_ ?_
      ·simp+decide (disch:=try exact E0) only[go_sem,Qac,List.contains_cons,List.contains_nil,List.flatMap_cons,List.flatMap_nil,List.append_nil]
       rw[hnx];rfl
      ·simp+decide (disch:=try exact E0) only[go_sem,Qac,List.contains_cons,List.contains_nil,List.flatMap_cons,List.flatMap_nil,List.append_nil]
    ·simp+decide (disch:=try exact D1 b58) only[go_sem,b58]
     refine Qak (i-(b+1)) (by omega) ⟨b+1,rfl,by omega,?_⟩
     simp+decide (disch:=try exact D5 b0 b56 bg bh b3) only[go_sem,b0,b56,bg,bh,b3]
     refine⟨br,fun j hj=> ?_⟩
     by_cases e:j=b
     ·subst e;exact Qb8.1 (Classical.not_not.1 hs)
     ·exact bz j (by omega)
   ·simp+decide (disch:=try exact D0) only[go_sem]
    simp (disch:=decide) only[Qce,Qci,Qcf,Qct]
    simp+decide (disch:=try exact D1 a50) only[go_sem,a50]
    refine Qak (i-(a+1)) (by omega) ⟨a+1,rfl,by omega,?_⟩
    simp+decide (disch:=try exact D4 b0 bg bh b3) only[go_sem,b0,bg,bh,b3]
    refine⟨br,fun j hj k hk=> ?_⟩
    by_cases e:j=a
    ·subst e;exact bz k (by omega)
    ·exact az j (by omega) k hk
  ·simp+decide (disch:=try exact D0) only[go_sem]
   refine Qd4 ?_
   simp+decide (disch:=try exact D0) only[go_sem]
   refine⟨rfl,.sl 4 [],trivial,?_⟩
   unfold Qfd
   have e1:¬Qgi M i<i:=by
    have:Qgi M i=0+i:=Qls fun j _ hj=>decide_eq_false (fun h=>by
     have:Qk0 M i j=0+i:=Qls fun k _ hk=>decide_eq_false (fun h2=>h2 (az j (by omega) k (by omega)))
     omega)
    omega
   rw[if_neg hnd,if_neg e1]
   rfl
def c48:SFn:=⟨83,[.t 2,.cell 3 3 true,.t 4],Zr (Zo (.box 1 3 24 (.t 0))<|
 Zo (.mv 2 (.c .nilS))<|
 Zo (.alloc 3 3 24 (.agg [Zz 0,Zz 0,.nilS]))<|
 Zc 4 0 .nil)<| .seq (Zr (Zh 10 3 1<|
 Zq 11 false 52 [.t 10]<|
 Zu 12 11 .nil)<| .cond (.t 12) (Zr (Zo (.bld 13 [Zz 0,Zz 0,.nilS] [])<|
 Zo (.mv 2 (.c .nilS))<|
 Zs 3 3 13<|
 Zc 4 1 .nil) .ret) .skip)<|Zr (Zh 14 3 1<|
 Zq 15 false 54 [.t 14]<|
 Zm 5 15 .nil)<| .seq (Zr (Zf 16 0 1<|
 Zl 17 1 16<|
 Zf 18 1 1<|
 Zl 19 1 18<|
 Zb 20 .neq 17 19<|
 Zm 21 20<|
 Zg 21 false (.mv 22 (.t 5))<|
 Zg 21 false (.call (some 23) false (.c (.fn 115 [] [])) [.t 22])<|
 Zg 21 false (.un 24 .not (.t 23))<|
 Zo (.pick 25 (.t 21) (.c (.bool true)) (.t 24)) .nil)<| .cond (.t 25) (Zr (Zo (.bld 26 [Zz 0,Zz 0,.nilS] [])<|
 Zo (.mv 2 (.c .nilS))<|
 Zs 3 3 26<|
 Zc 4 16 .nil) .ret) .skip)<|Zr (Zf 27 1 1<|
 Zl 28 1 27<|
 Zf 29 1 3<|
 Zs 1 29 28 .nil)<| .seq (Zr (Zf 30 0 1<|
 Zl 31 1 30<|
 Zo (.bin 32 .mul false (.c (Zz 2)) (.t 31))<|
 Zc 33 0<|
 .wk<| .wk<| .wk .nil)<| .block 0<| .loop<|Zr (Zb 34 .lss 33 32 .nil)<| .seq (.cond (.t 34) .skip (.exit 0))<| .seq (.block 1<|Zr (Zm 35 5<|
 Zq 36 false 116 [.t 35]<|
 Zm 6 36 .nil)<|Zr (Zm 37 6<|
 Zn 38 37<|
 Zc 39 0 .nil)<| .block 2<| .loop<|Zr (Zb 40 .lss 39 38 .nil)<| .seq (.cond (.t 40) .skip (.exit 2))<| .seq (.block 3<|Zr (Zi 41 4 37 39<|
 Zh 42 4 41<|
 Zo (.alloc 8 4 133 (.agg [.bool false,.nilS,.nilS,.nilS]))<|
 Zs 4 8 42 .nil)<|Zr (Zm 43 2<|
 Zf 44 0 8<|
 Zh 45 3 44<|
 Zo (.bs 46 3 51 [.t 45])<|
 Zo (.app 47 3 56 51 (.t 43) (.t 46))<|
 Zm 2 47 .nil)<|Zr (Zf 48 2 3<|
 Zl 49 1 48<|
 Zf 50 3 8<|
 Zl 51 1 50<|
 Zo (.app 52 3 56 51 (.t 49) (.t 51))<|
 Zf 53 2 3<|
 Zs 1 53 52 .nil)<|Zr (Zf 54 0 3<|
 Zl 55 1 54<|
 Zk 56 .add 55 1<|
 Zf 57 0 3<|
 Zs 1 57 56 .nil)<|Zr (Zm 58 5<|
 Zn 59 58<|
 Zc 60 0 .nil)<| .block 4<| .loop<|Zr (Zb 61 .lss 60 59 .nil)<| .seq (.cond (.t 61) .skip (.exit 4))<| .seq (.block 5<|Zr (Zm 62 60<|
 Zm 9 62 .nil)<| .rg (Zm 63 5<|
 Zm 64 9<|
 Zi 65 1 63 64<|
 Zl 66 1 65<|
 Zf 67 3 8<|
 Zl 68 1 67<|
 Zf 69 0 8<|
 Zh 70 3 69<|
 Zf 71 3 8<|
 Zl 72 1 71<|
 Zm 73 9<|
 Zi 74 3 72 73<|
 Zh 75 3 74<|
 Zq 76 true 105 [.t 70,.t 75]<|
 Zq 77 false 117 [.t 66,.t 68,.t 76] .nil))<| .rg (Zk 78 .add 60 1<|
 Zm 60 78 .nil))<| .rg (Zk 79 .add 39 1<|
 Zm 39 79 .nil))<| .rg (Zk 80 .add 33 1<|
 Zm 33 80 .nil))<|Zr (Zm 81 2<|
 Zh 82 3 3<|
 .wk<|Zm 2 81<|
 Zs 3 3 82<|
 Zc 4 0 .nil) .ret⟩
theorem Qagx:Qe Tryz.prog Tryz.f48=some c48.strip:=by kernel_rfl
theorem Qxq{x y:Nat->Rat}{c:Rat}{w ty1 k:Nat}(hw:0<w)(hw2:w<=2^30)(hx:∀i,i<w->rs (x i)<=k)(hy:∀i,i<w->rs (y i)<=k)(hc:rs c<=k)(hk:k<=2^33):
  Qbr Tryz.prog 117 [.ms 1000000 w,.sl 3 (Qh PV.rat y w),PV.rat c] (fun _=> .undef) (Qg hp0 1000000 ⟨3,ty1,Qh PV.rat x w,false⟩) (fun r F H=>Qfc r/\∃xs,H 1000000=some ⟨3,ty1,xs,false⟩/\xs.length=(Qh PV.rat x w).length/\(r= .tup []/\xs=Qh PV.rat (fun i=>x i-c*y i) w)):=by
 refine Qdb Qt Tryz.func117 rfl Qyk (by simp[Qwe]) fun C hP=> ?_;simp only[Qwe,Zo,Zg,Zm,Zc,Zf,Zl,Zh,Zs,Zi,Zb,Zk,Zn,Zu,Zq,Zr,Zz]
 simp+decide (disch:=try exact D0) only[go_sem]
 refine Qa hP (Qlu (a:=c) (by omega)) rfl rfl rfl ?_
 simp+decide (disch:=try exact D0) only[go_sem]
 refine Qb (fun h0=> ?_) (fun h0=> ?_)
 ·simp+decide (disch:=try exact D0) only[go_sem]
  refine Qkh ?_
  simp+decide (disch:=try exact D0) only[go_sem]
  refine⟨_,rfl,rfl,Qcd fun i hi=> ?_⟩
  rw[Qb8.1 h0,Rat.zero_mul,Rat.sub_eq_add_neg,Rat.neg_zero,Rat.add_zero]
 simp+decide (disch:=try exact D0) only[go_sem]
 refine Qai (by repeat (first|exact Qw|exact Qo|exact Qp|exact Qq|exact Qr|apply Qn|apply Qv|apply Qz|apply Q6|apply Q7|apply Qk|apply Qu)) [(6,6),(12,29)] [] (fun n J hp=>∃i,n=w-i/\i<=w/\J 12= .int .i64 (i:Nat)/\hp 5=some ⟨3,51,[PV.rat c],false⟩/\hp 1000000=some ⟨3,ty1,Qh PV.rat (fun j=>if j<i then x j-c*y j else x j) w,false⟩) w ?_ ?_
 ·refine⟨0,rfl,by omega,?_⟩
  simp+decide (disch:=try exact D0) only[go_sem]
  exact⟨rfl,Qm2 (Qcd fun k _=>(if_neg (Nat.not_lt_zero k)).symm)⟩
 rintro _ J h ⟨i,rfl,hi,h12,h5,hx1⟩
 simp+decide (disch:=try exact D1 h12) only[go_sem,h12]
 refine Qb (fun hg=> ?_) (fun hg=> ?_)
 ·have hi':i<w:=by omega
  have hm:=Qf2 c (y i)
  have h1:=hx i hi'
  have h2:=hy i hi'
  simp+decide (disch:=try exact D3 h12 h5 hx1) only[go_sem,h12,h5,hx1]
  rw[if_neg (Nat.lt_irrefl i)]
  refine Qa hP (Qow (k:=k) hc h2 (by omega)) rfl rfl rfl ?_
  simp+decide (disch:=try exact D3 h12 h5 hx1) only[go_sem,h12,h5,hx1]
  refine Qa hP (Q9o (k:=2*k) (by omega) (by omega) (by omega)) rfl rfl rfl ?_
  simp+decide (disch:=try exact D3 h12 h5 hx1) only[go_sem,h12,h5,hx1]
  rw[Qfm hi']
  simp+decide (disch:=try exact D1 h12) only[go_sem,h12]
  refine Qab (w-(i+1)) (by omega) ⟨i+1,rfl,by omega,?_⟩
  simp+decide (disch:=try exact D1 h5) only[go_sem,h5]
  refine Qm2 (Qcd fun k _=> ?_)
  by_cases e:k=i
  ·subst e;rw[if_pos rfl,if_pos (by omega)]
  ·rw[if_neg e]
   by_cases e2:k<i
   ·rw[if_pos e2,if_pos (by omega)]
   ·rw[if_neg e2,if_neg (by omega)]
 ·obtain rfl:i=w:=by omega
  simp+decide (disch:=try exact D1 h12) only[go_sem,h12]
  refine Qkh ?_
  simp+decide (disch:=try exact D1 hx1) only[go_sem,hx1]
  exact⟨_,rfl,by rw[Qaa,Qaa],Qcd fun k hk=>if_pos hk⟩
theorem Qkl{R w x:Nat}{M:MF}{hp:HP}(h:x<3000000)(h2:¬x=2000000):Qgf R w M hp x=hp x:=by
 unfold Qgf
 rw[if_neg h2,if_neg (by omega)]
abbrev Q0t(R n:Nat):PV:= .rag [.int .i64 (n:Nat),.int .i64 (R:Nat),.mso 2000002 0 (n*R)]
abbrev redA(R:Nat)(l:List LF):PV:= .tup [PV.rats (l.map (·.1)),PV.mat l.length R (Qew R l),.int .i64 0]
theorem Q9d{R K:Nat}{l:List Rat}(hl:l.length=R*R)(hR0:0<R)(hR2:R<=40)(hs:∀q∈l,rs q<=1048576)(hK:K<2^28)(hB:Q80 K R (2*R) (Q3 l R))(hsym:Qwq (Q3 l R) R):
  Qd Tryz.prog 48 [PV.mat R R l] (· =redA R (Qby R (Q3 l R) (2*R)).2):=by
 refine Qcz Qt Tryz.func48 rfl Qagx (by simp[c48]) fun C hP=> ?_;simp only[c48,Zo,Zg,Zm,Zc,Zf,Zl,Zh,Zs,Zi,Zb,Zk,Zn,Zu,Zq,Zr,Zz]
 simp+decide (disch:=try exact D0) only[go_sem]
 refine Qa hP (Qhl hl hR2 hR2 hs) rfl rfl rfl ?_
 simp+decide (disch:=try exact D0) only[go_sem]
 have hfree:∀(hp:HP),(∀x,5<=x->hp x=none)->∀x,nmR R x=true->hp x=none:=fun hp h x hx=>h x (by have:=Qh9 hx;omega)
 refine Qkj hP hl hR0 hR2 hR2 (by omega) (hfree _ (fun x hx=>by simp+decide (disch:=try exact D4 (show ¬x=1 from by omega) (show ¬x=2 from by omega) (show ¬x=3 from by omega) (show ¬x=4 from by omega)) only[go_sem,show ¬x=1 from by omega,show ¬x=2 from by omega,show ¬x=3 from by omega,show ¬x=4 from by omega]<;>rfl)) ?_
 simp+decide (disch:=first|omega|rfl|(simp+decide only[go_sem,Qbc,Qdg,Qay]<;>rfl)|fail) only[go_sem,Qbc,Qdg,Qay]
 have hB0:=hB 0 (by omega)
 have hx:=Qxp (K:=K) (ty:=22) (tyr:=51) hR2 (by omega) hB0.1
 repeat' first
  |refine Qeu ?_ ?_
  |refine Qyo (ys:=fun r=>Qh PV.rat (Q3 l R r) R) hP (by omega) hx (by simp[Qlw]) T0 (by simp+decide (disch:=first|omega|rfl|(simp+decide only[go_sem,Qgg]<;>rfl)|fail) only[go_sem,Qgg]) (fun r hr=>by simp+decide (disch:=first|omega|rfl|(simp+decide only[go_sem,Qem]<;>rfl)|fail) only[go_sem,Qem]) ?_
  |simp+decide (disch:=first|omega|rfl|(simp+decide only[go_sem,Qbc,Qdg,Qay]<;>rfl)|fail) only[go_sem,Qbc,Qdg,Qay]
 rw[show(Qby R (Q3 l R) 0).1=Q3 l R from rfl,decide_eq_true hsym]
 simp+decide (disch:=first|omega|rfl|(simp+decide only[go_sem,Qbc,Qdg,Qay]<;>rfl)|fail) only[go_sem,Qbc,Qdg,Qay]
 refine Qch (Qiy 3 2000001 (by simp+decide (disch:=first|omega|rfl|(simp+decide only[go_sem,Qkl]<;>rfl)|fail) only[go_sem,Qkl]<;>rfl) (by omega) rfl (by omega)) ?_
 have hmv:rnP (mvN 3 2000001) (.nst 2000000 1 22 (Qx (Qas 3000000 R R id)))= .nst 2000000 1 22 (Qx (Qas 3000000 R R id)):=mv_P (by omega) (by omega) (by omega)
 simp+decide (disch:=try exact D1 hmv) only[go_sem,hmv]
 refine Qch (Qvz (γ:=2000001) (e:=3) (ty:=24) (xs:=[.agg [.int .i64 0,.int .i64 (R:Nat),.nilS]]) (fz:=false) T0 (by simp) (by omega) (fun x hx=>by rw[List.mem_singleton.1 hx];rfl)) ?_
 refine Qch (Q81 (γ:=2000001) (e:=3) (ty:=24) (cs:=[.int .i64 0,.int .i64 (R:Nat),.nilS]) (cs':=[.int .i64 0,.int .i64 (R:Nat),.mso 2000002 0 0]) 2000002 3 51 T0 (by simp+decide (disch:=first|omega|rfl|(simp+decide only[go_sem,Qkl]<;>rfl)|fail) only[go_sem,Qkl]<;>rfl) (by omega) (by omega) rfl (by simp)) ?_
 simp+decide (disch:=try exact D0) only[go_sem]
 refine Qd6 2 900 3 51 (by omega) T0 ?_
 obtain⟨M,hM⟩:∃M,Q3 l R=M:=⟨_,rfl⟩
 rw[hM]at hB⊢
 refine Qat (by repeat (first|exact Qw|exact Qo|exact Qp|exact Qq|exact Qr|apply Qn|apply Qv|apply Qz|apply Q6|apply Q7|apply Qk|apply Qu)) [(2,3),(5,6),(8,9),(33,80),(2000000,2000001)] [8,46,47,52,900] (fun q J hp=>∃k,q=2*R-k/\k<=2*R/\J 2= .ms 900 (Qby R M k).2.length/\J 3= .np 2000001 0 0/\J 5= .nso 2000000 0 R/\J 33= .int .i64 (k:Nat)/\J 2000000= .nst 2000000 1 22 (Qx (Qas 3000000 R R id))/\J 2000001= .nst 2000001 3 24 [Q0t R (Qby R M k).2.length]/\
   hp 2000000=some ⟨1,22,[],false⟩/\hp 2000001=some ⟨3,24,[],false⟩/\hp 2000002=some ⟨3,51,(Qew R (Qby R M k).2).map PV.rat,false⟩/\hp 900=some ⟨3,51,((Qby R M k).2.map (·.1)).map PV.rat,false⟩/\
   ∀r,r<R->hp (3000000+r)=some ⟨3,51,Qh PV.rat ((Qby R M k).1 r) R,false⟩) (2*R) ?_ ?_
 ·refine⟨0,rfl,by omega,?_⟩
  simp+decide (disch:=first|omega|rfl|(simp+decide only[go_sem,Qbc,Qdg,Qay]<;>rfl)|fail) only[go_sem,Qbc,Qdg,Qay]
  refine⟨rfl,rfl,?_,Qgg,rfl,rfl,fun r hr=>Qem hr⟩
  simp[Qby]
 rintro _ J h ⟨k,rfl,hk,j2,j3,j5,j33,jg,jb,h0,h1,h2,h9,hrow⟩
 simp+decide (disch:=try exact D1 j33) only[go_sem,j33]
 refine Qb (fun hc=> ?_) (fun hc=> ?_)
 ·have hk':k<2*R:=by omega
  have hBk:=hB k hk
  have hlk:=Qpn R M k
  have hfl:=Qjz R (Qby R M k).2
  have hn1:(Qby R M (k+1)).1=Qki (Qby R M k).1 (Qfd (Qby R M k).1 R):=rfl
  have hn2:(Qby R M (k+1)).2=(Qby R M k).2++Qfd (Qby R M k).1 R:=rfl
  obtain⟨E,hE⟩:∃E,Qby R M k=E:=⟨_,rfl⟩
  rw[hE]at hBk hlk hfl hn1 hn2 j2 jb h2 h9 hrow
  obtain⟨N,fs⟩:=E
  simp only at hBk hlk hfl hn1 hn2 j2 jb h2 h9 hrow
  have hnl:=Qn6 N R
  have hx2:=Qagw (K:=K) (ty:=22) (tyr:=51) hR2 (by omega) hBk.1
  simp+decide (disch:=try exact D5 j2 j3 j5 jg jb) only[go_sem,j2,j3,j5,jg,jb]
  refine Qyo (ys:=fun r=>Qh PV.rat (N r) R) hP (by omega) hx2 (by simp[Qlw]) (T1 jg) h0 hrow ?_
  obtain⟨L,hL⟩:∃L,Qfd N R=L:=⟨_,rfl⟩
  rw[hL]at hBk hnl hn1 hn2⊢
  simp+decide (disch:=try exact D5 j2 j3 j5 jg jb) only[go_sem,j2,j3,j5,jg,jb]
  refine Qat (by repeat (first|exact Qw|exact Qo|exact Qp|exact Qq|exact Qr|apply Qn|apply Qv|apply Qz|apply Q6|apply Q7|apply Qk|apply Qu)) [(2,3),(5,5),(8,9),(39,79),(2000000,2000001)] [8,46,47,52,900] (fun q J hp=>∃i,q=L.length-i/\i<=L.length/\J 2= .ms 900 (fs++L.take i).length/\J 3= .np 2000001 0 0/\J 5= .nso 2000000 0 R/\J 39= .int .i64 (i:Nat)/\J 2000000= .nst 2000000 1 22 (Qx (Qas 3000000 R R id))/\J 2000001= .nst 2000001 3 24 [Q0t R (fs++L.take i).length]/\
   hp 2000000=some ⟨1,22,[],false⟩/\hp 2000001=some ⟨3,24,[],false⟩/\hp 2000002=some ⟨3,51,(Qew R (fs++L.take i)).map PV.rat,false⟩/\hp 900=some ⟨3,51,((fs++L.take i).map (·.1)).map PV.rat,false⟩/\
   ∀r,r<R->hp (3000000+r)=some ⟨3,51,Qh PV.rat (Qki N (L.take i) r) R,false⟩) L.length ?_ ?_
  ·refine⟨0,rfl,by omega,?_⟩
   simp+decide (disch:=try exact D9 j2 j3 j5 jg jb h0 h1 h2 h9) only[go_sem,j2,j3,j5,jg,jb,h0,h1,h2,h9]
   simp only[List.append_nil]
   exact⟨trivial,rfl,trivial,trivial,trivial,hrow⟩
  rintro _ J1 g ⟨i,rfl,hi,i2,i3,i5,i39,ig,ib,g0,g1,g2,g9,growr⟩
  simp+decide (disch:=try exact D1 i39) only[go_sem,i39]
  refine Qb (fun hci=> ?_) (fun hci=> ?_)
  ·have hi':i<L.length:=by omega
   have htk:L.take (i+1)=L.take i++[L[i]]:=List.take_succ_eq_append_getElem hi'
   have hfb:=hBk.2.1 _ (List.getElem_mem hi')
   have hMb:=hBk.2.2 i hi
   have hll:(fs++L.take i).length<=200:=by
    rw[List.length_append,List.length_take];omega
   have hfl2:=Qjz R (fs++L.take i)
   generalize hf:L[i]=f at *
   have hsn:=Q0n N (L.take i) f
   have hfsn:=Q0o R (fs++L.take i) f
   have hTk:fs++L.take (i+1)=(fs++L.take i)++[f]:=by rw[htk,<-List.append_assoc]
   rw[<-htk]at hsn
   generalize hT:fs++L.take i=T at *
   generalize hZ:Qki N (L.take i)=Z at *
   have hTR:T.length*R<=200*40:=Nat.mul_le_mul hll hR2
   have hrl:(Qh PV.rat f.2 R).length=R:=Qaa _ _ _
   simp+decide (disch:=try exact D11 i2 i3 i5 i39 ig ib g0 g1 g2 g9 hf) only[go_sem,i2,i3,i5,i39,ig,ib,g0,g1,g2,g9,hf]
   rw[Qaz (f:=PV.rat) (y:=f.1) (xs:=T.map (·.1)) (ty':=51) (fz:=false) (T1 g9) T0 (by omega) (by simp) (by omega) (by omega)]
   simp+decide (disch:=try exact D10 i2 i3 i5 i39 ig ib g0 g1 g2 g9) only[go_sem,i2,i3,i5,i39,ig,ib,g0,g1,g2,g9]
   rw[Qagn (xs:=(Qew R T).map PV.rat) (T1 g2) (by omega) (by rw[List.length_map,hfl2]) (Qsk hR0) (by rw[hrl];omega) (by rw[hrl];omega) (by omega),hrl]
   simp+decide (disch:=try exact D10 i2 i3 i5 i39 ig ib g0 g1 g2 g9) only[go_sem,i2,i3,i5,i39,ig,ib,g0,g1,g2,g9]
   obtain⟨g8,hg8⟩:∃g8,g8=HB.mk 4 133 [PV.form R f] false:=⟨_,rfl⟩
   refine Qat (by repeat (first|exact Qw|exact Qo|exact Qp|exact Qq|exact Qr|apply Qn|apply Qv|apply Qz|apply Q6|apply Q7|apply Qk|apply Qu)) [(3,3),(5,5),(9,9),(60,78),(2000000,2000001)] [] (fun q J hp=>∃r,q=R-r/\r<=R/\J 3= .np 2000001 0 0/\J 5= .nso 2000000 0 R/\J 60= .int .i64 (r:Nat)/\J 2000000= .nst 2000000 1 22 (Qx (Qas 3000000 R R id))/\J 2000001= .nst 2000001 3 24 [Q0t R (T.length+1)]/\
    hp 2000000=some ⟨1,22,[],false⟩/\hp 2000001=some ⟨3,24,[],false⟩/\hp 2000002=some ⟨3,51,(Qew R (T++[f])).map PV.rat,false⟩/\hp 900=some ⟨3,51,((T++[f]).map (·.1)).map PV.rat,false⟩/\hp 8=some g8/\
    ∀r',r'<R->hp (3000000+r')=some ⟨3,51,Qh PV.rat (if r'<r then Q0m Z f r' else Z r') R,false⟩) R ?_ ?_
   ·refine⟨0,rfl,by omega,?_⟩
    simp+decide (disch:=try exact D10 i2 i3 i5 i39 ig ib g0 g1 g2 g9) only[go_sem,i2,i3,i5,i39,ig,ib,g0,g1,g2,g9]
    refine⟨rfl,?_,?_,?_,hg8.symm,fun r' hr'=> ?_⟩
    ·have e1:T.length*R+R=(T.length+1)*R:=by rw[Nat.add_mul,Nat.one_mul]
     rw[e1]
    ·rw[hfsn,List.map_append,Qfe]
    ·simp
    ·rw[if_neg (by omega)];exact growr r' hr'
   rintro _ J2 e ⟨r,rfl,hr,k3,k5,k60,kg,kb,e0,e1,e2,e9,e8,erow⟩
   simp+decide (disch:=try exact D1 k60) only[go_sem,k60]
   refine Qb (fun hcr=> ?_) (fun hcr=> ?_)
   ·have hr':r<R:=by omega
    have er:=erow r hr'
    rw[if_neg (Nat.lt_irrefl r)]at er
    simp+decide (disch:=first|omega|rfl|(simp+decide only[go_sem,k3,k5,k60,kg,kb,e0,e1,e2,e9,e8,hg8,er,id]<;>rfl)|fail) only[go_sem,k3,k5,k60,kg,kb,e0,e1,e2,e9,e8,hg8,er,id]
    have hm:=Qf2 f.1 (f.2 r)
    have hfr:=hfb.2 r hr'
    refine Qa hP (Qow (a:=f.1) (b:=f.2 r) (k:=K) hfb.1 hfr (by omega)) rfl rfl rfl ?_
    simp+decide (disch:=first|omega|rfl|(simp+decide only[go_sem,k3,k5,k60,kg,kb,e0,e1,e2,e9,e8,hg8,er,id]<;>rfl)|fail) only[go_sem,k3,k5,k60,kg,kb,e0,e1,e2,e9,e8,hg8,er,id]
    have sub:=Qxq (w:=R) (x:=Z r) (y:=f.2) (c:=f.1*f.2 r) (ty1:=51) (k:=2*K) hR0 (by omega) (fun c hc=>by have:=hMb r hr' c hc;omega) (fun c hc=>by have:=hfb.2 c hc;omega) (by omega) (by omega)
    refine Qadi hP sub er rfl (Qsk hR0) (by simp[isB];omega) T0 (fun γ hγ=>by simpa[PV.refs,PV.sref]using hγ) (by simp) ?_
    rintro _ xs _ ⟨rfl,rfl⟩
    simp+decide (disch:=try exact D1 k60) only[go_sem,k60]
    refine Qak (R-(r+1)) (by omega) ⟨r+1,rfl,by omega,?_⟩
    simp+decide (disch:=try exact D9 k3 k5 kg kb e0 e1 e2 e9 e8) only[go_sem,k3,k5,kg,kb,e0,e1,e2,e9,e8]
    refine⟨hg8,fun r' hr2=> ?_⟩
    by_cases e3:r'=r
    ·subst e3
     rw[if_pos rfl,if_pos (by omega)]
     rfl
    ·rw[if_neg e3,erow r' hr2]
     by_cases e4:r'<r
     ·rw[if_pos e4,if_pos (by omega)]
     ·rw[if_neg e4,if_neg (by omega)]
   ·have hrR:r=R:=by omega
    subst hrR
    rw[Qce]
    rotate_left
    ·decide
    simp+decide (disch:=try exact D1 i39) only[go_sem,i39]
    refine Qak (L.length-(i+1)) (by omega) ⟨i+1,rfl,by omega,?_⟩
    rw[hTk,hsn]
    simp+decide (disch:=try exact D9 i2 k3 k5 kg kb e0 e1 e2 e9) only[go_sem,i2,k3,k5,kg,kb,e0,e1,e2,e9]
    rw[List.length_append]
    exact⟨rfl,rfl,fun r' hr'=>by rw[erow r' hr',if_pos hr']⟩
  ·have hiL:i=L.length:=by omega
   subst hiL
   rw[List.take_length]at i2 ib g2 g9 growr
   simp (disch:=decide) only[Qce,Qci,Qcf,Qct]
   simp+decide (disch:=try exact D1 j33) only[go_sem,j33]
   refine Qak (2*R-(k+1)) (by omega) ⟨k+1,rfl,by omega,?_⟩
   rw[hn1,hn2]
   simp+decide (disch:=try exact D9 i2 i3 i5 ig ib g0 g1 g2 g9) only[go_sem,i2,i3,i5,ig,ib,g0,g1,g2,g9]
   exact growr
 ·have hkR:k=2*R:=by omega
  subst hkR
  simp+decide (disch:=try exact D9 j2 j3 j5 jg jb h0 h1 h2 h9) only[go_sem,j2,j3,j5,jg,jb,h0,h1,h2,h9]
  have hfl:=Qjz R (Qby R M (2*R)).2
  have hml:(Qew R (Qby R M (2*R)).2).map PV.rat=(Qew R (Qby R M (2*R)).2).map PV.rat:=rfl
  refine Qadh 82 2 [2000002] (p:=Q0t R (Qby R M (2*R)).2.length) T0 (D:=PV.mat (Qby R M (2*R)).2.length R (Qew R (Qby R M (2*R)).2)) ?_ ?_ rfl ?_
  ·intro c hc
   simp only[List.mem_cons,List.not_mem_nil,or_false]at hc
   rcases hc with rfl|rfl|rfl
   ·trivial
   ·trivial
   ·simp only[okD,isY];simp
  ·show PV.agg [_,_,dsn _ h 2 (.mso 2000002 0 _)]=_
   simp only[dsn,h2,List.drop_zero]
   rw[List.take_of_length_le (by rw[List.length_map,hfl];omega)]
  simp+decide (disch:=try exact E5 j2 j3 jb h1 h9) only[go_sem,j2,j3,jb,h1,h9,Qac,List.contains_cons,List.contains_nil,List.flatMap_cons,List.flatMap_nil,List.append_nil]
  refine Qabs (Qagm (γ:=2000001) (e:=3) (ty:=24) (xs:=[PV.mat (Qby R M (2*R)).2.length R (Qew R (Qby R M (2*R)).2)]) 3 T0 (Tr1 j3) rfl (fun x hx=>by rw[List.mem_singleton.1 hx];exact⟨rfl,rfl,fun c hc=>by
   simp only[PV.ncells,PV.cells,List.mem_cons,List.not_mem_nil,or_false]at hc
   rcases hc with rfl|rfl|rfl<;>rfl⟩)) ?_
  refine Qaha ?_
  simp+decide (disch:=try exact E1 h9) only[go_sem,h9,Qac,List.contains_cons,List.contains_nil,List.flatMap_cons,List.flatMap_nil,List.append_nil]
  rw[List.take_of_length_le (by simp)]
  exact Qmc rfl rfl rfl rfl (Qy _) (Qy _) (Qy _)
theorem Qro{xs:List Int}(hl:xs.length<=1000)(hx:∀x∈xs,-9223372036854775808<=x/\x<=9223372036854775807):Qd Tryz.prog 46 [.sl 1 (Qpv xs)] (· =PV.rats (xs.map fun x:Int=>(x:Rat))):=by
 refine Qi Qt Tryz.func46 rfl Qaf8 (by simp[c46]) fun C hP=> ?_;simp only[c46,Zo,Zg,Zm,Zc,Zf,Zl,Zh,Zs,Zi,Zb,Zk,Zn,Zu,Zq,Zr,Zz]
 simp+decide (disch:=try exact D0) only[go_sem]
 refine Qd6 3 900 3 51 (by omega) T0 ?_
 refine Qai (by repeat (first|exact Qw|exact Qo|exact Qp|exact Qq|exact Qr|apply Qn|apply Qv|apply Qz|apply Q6|apply Q7|apply Qk|apply Qu)) [(3,18)] [17,18,900] (fun n J hp=>∃i,n=xs.length-i/\i<=xs.length/\J 3= .ms 900 i/\J 4= .int .i64 (i:Nat)/\hp 900=some ⟨3,51,((xs.take i).map fun x:Int=>(x:Rat)).map PV.rat,false⟩) xs.length ?_ ?_
 ·refine⟨0,rfl,by omega,?_⟩
  simp+decide (disch:=try exact D0) only[go_sem]
  rfl
 rintro _ J h ⟨i,rfl,hi,h3,h4,hh⟩
 simp+decide (disch:=try exact D2 h3 h4) only[go_sem,h3,h4]
 refine Qb (fun hg=> ?_) (fun hg=> ?_)
 ·have hi':i<xs.length:=by omega
  have htk:xs.take (i+1)=xs.take i++[xs[i]]:=List.take_succ_eq_append_getElem hi'
  have hb:=hx _ (List.getElem_mem hi')
  generalize hz:xs[i]=z at *
  simp+decide (disch:=try exact D3 h3 h4 hz) only[go_sem,h3,h4,hz]
  refine Qa hP (Qge (x:=z) hb.1 hb.2) rfl rfl rfl ?_
  simp+decide (disch:=try exact D3 h3 h4 hz) only[go_sem,h3,h4,hz]
  rw[Qaz (f:=PV.rat) (y:=(z:Rat)) (xs:=(xs.take i).map fun x:Int=>(x:Rat)) (ty':=51) (fz:=false) (T1 hh) T0 (by omega) (by rw[List.length_map,List.length_take];omega) (by omega) (by omega)]
  simp+decide (disch:=try exact D2 h3 h4) only[go_sem,h3,h4]
  refine Qab (xs.length-(i+1)) (by omega) ⟨i+1,rfl,by omega,?_⟩
  simp+decide (disch:=try exact D0) only[go_sem]
  rw[htk]
  simp
 ·obtain rfl:i=xs.length:=by omega
  simp+decide (disch:=try exact E2 h3 hh) only[go_sem,h3,hh,Qac,List.contains_cons,List.contains_nil,List.flatMap_cons,List.flatMap_nil,List.append_nil]
  refine Qc ?_ rfl
  rw[List.take_of_length_le (i:=xs.length) (by simp)];simp[PV.rats]
theorem alD:Qv7 2 (Q3 [0,1,1,0] 2)= -1:=by decide+kernel
theorem alE:Qhh 1000 2 2 2 (Q3 [0,1,1,0] 2):=by unfold Qhh MBd;decide+kernel
theorem alR:Q80 1000 2 4 (Q3 [0,1,1,0] 2):=by unfold Q80 MBd;decide+kernel
theorem alS:Qwq (Q3 [0,1,1,0] 2) 2:=by decide+kernel
theorem alW:((Qby 2 (Q3 [0,1,1,0] 2) 4).2.map (·.1))=[((1:Int):Rat)/((2:Int):Rat),((-1:Int):Rat)/((2:Int):Rat)]:=by decide+kernel
theorem alF:Qew 2 (Qby 2 (Q3 [0,1,1,0] 2) 4).2=(([1,1,-1,1]:List Int).map fun x:Int=>(x:Rat)):=by decide+kernel
theorem alL:(Qby 2 (Q3 [0,1,1,0] 2) 4).2.length=2:=by decide+kernel
theorem Q4e{k:Nat}{l:List Rat}(h:∀q∈l,rs q<=k):RRk k (l.map qR):=RRk.of h
theorem Qn7{l:List Rat}{k:Nat}(h:∀q∈l,rs q<=k)(hk:k<2^34)(ll:l.length<2^40):Qd Tryz.prog 17 [PV.rats l,PV.rats l] (· = .bool true):=by
 have:=Qpm (a:=l.map qR) (b:=l.map qR) (Q4e h) (Q4e h) hk (by simpa using ll) (by simpa using ll)
 rw[decide_eq_true rfl,<-Qlr]at this
 exact this
theorem Q9e{R m:Nat}{l:List Rat}(hl:l.length=R*m)(hR:R<=40)(hm:m<=40):Qub R m (l.map qR)= .tup [PV.mat R m l,.int .i64 0]:=by
 have h:=Qn0 hl hR hm
 unfold Qbh at h
 rw[Bool.and_eq_true,decide_eq_true_eq]at h
 unfold Qub
 rw[if_pos (by omega),if_pos h.1.2.2.2.2,if_pos h.2,Qv6]
theorem Qp6:Qd Tryz.prog 12 [] (· = .bool true):=by
 have n1:=Qro (xs:=[0,1,1,0]) (by simp) (by simp)
 have n2:=Qro (xs:=[1,1,-1,1]) (by simp) (by simp)
 have s1:∀q∈([0,1,1,0]:List Int).map fun x:Int=>(x:Rat),rs q<=10:=by decide+kernel
 have s2:∀q∈([1,1,-1,1]:List Int).map fun x:Int=>(x:Rat),rs q<=10:=by decide+kernel
 have s3:∀q∈[((1:Int):Rat)/((2:Int):Rat),((-1:Int):Rat)/((2:Int):Rat)],rs q<=10:=by decide+kernel
 have f1:=Qn4 (x:=1) (y:=2) (by omega) (by omega) (by omega)
 have f2:=Qn4 (x:= -1) (y:=2) (by omega) (by omega) (by omega)
 have o1:=Qge (x:= -1) (by omega) (by omega)
 have hmk:=Qagl (r:=2) (c:=2) (l:=(([0,1,1,0]:List Int).map fun x:Int=>(x:Rat)).map qR) ⟨by simp,RRk.of fun q hq=>by have:=s1 q hq;omega⟩
 rw[<-Qlr]at hmk
 rw[show(2:Int)=((2:Nat):Int)from rfl,Q9e (R:=2) (m:=2) rfl (by omega) (by omega)]at hmk
 have hdet:=Qah1 (R:=2) (K:=1000) (l:=[0,1,1,0]) rfl (by omega) (fun q hq=>by have:=s1 q hq;omega) (by omega) alE
 have hred:=Q9d (R:=2) (K:=1000) (l:=[0,1,1,0]) rfl (by omega) (by omega) (fun q hq=>by have:=s1 q hq;omega) (by omega) alR alS
 rw[alD]at hdet
 rw[show 2*2=4 from rfl,redA,alW,alF,alL]at hred
 rw[show([0,1,1,0]:List Rat)=(([0,1,1,0]:List Int).map fun x:Int=>(x:Rat))from rfl]at hdet hred
 have eq1:=Q0c (a:= -1) (b:= -1) (k:=10) (by decide+kernel) (by decide+kernel) (by omega)
 have sm1:=Qn7 s3 (by omega) (by simp)
 have sm2:=Qn7 s2 (by omega) (by simp)
 rw[show((-1:Int):Rat)= -1 from rfl]at o1
 rw[decide_eq_true rfl]at eq1
 obtain⟨lA,hA⟩:∃l,(([0,1,1,0]:List Int).map fun x:Int=>(x:Rat))=l:=⟨_,rfl⟩
 obtain⟨lB,hB⟩:∃l,(([1,1,-1,1]:List Int).map fun x:Int=>(x:Rat))=l:=⟨_,rfl⟩
 obtain⟨q1,hq1⟩:∃q,((1:Int):Rat)/((2:Int):Rat)=q:=⟨_,rfl⟩
 obtain⟨q2,hq2⟩:∃q,((-1:Int):Rat)/((2:Int):Rat)=q:=⟨_,rfl⟩
 obtain⟨q3,hq3⟩:∃q,(-1:Rat)=q:=⟨_,rfl⟩
 rw[hA]at n1 hmk hdet hred
 rw[hB]at n2 hred sm2
 rw[hq1]at f1 hred sm1
 rw[hq2]at f2 hred sm1
 rw[hq3]at o1 eq1 hdet
 clear hA hB s1 s2 s3
 refine Qi Qt Tryz.func12 rfl Qaf9 (by simp[c12]) fun C hP=> ?_;simp only[c12,Zo,Zg,Zm,Zc,Zf,Zl,Zh,Zs,Zi,Zb,Zk,Zn,Zu,Zq,Zr,Zz]
 simp+decide (disch:=try exact D0) only[go_sem]
 rw[Qln (by rfl) (by simp[PV.cells]) (by omega)]
 simp+decide (disch:=try exact E0) only[go_sem,Qac,List.contains_cons,List.contains_nil,List.flatMap_cons,List.flatMap_nil,List.append_nil]
 refine Qdj hP n1 Ur0 rfl ?_
 simp+decide (disch:=try exact E0) only[go_sem,Qac,List.contains_cons,List.contains_nil,List.flatMap_cons,List.flatMap_nil,List.append_nil]
 repeat' first
  |refine Qeu ?_ ?_
  |rw[Qln (by rfl) (by simp[PV.cells]) (by omega)]
  |refine Qa hP hmk rfl rfl rfl ?_
  |refine Qa hP hdet rfl rfl rfl ?_
  |refine Qa hP hred rfl rfl rfl ?_
  |refine Qa hP o1 rfl rfl rfl ?_
  |refine Qa hP eq1 rfl rfl rfl ?_
  |refine Qa hP f1 rfl rfl rfl ?_
  |refine Qa hP f2 rfl rfl rfl ?_
  |refine Qa hP sm2 rfl rfl rfl ?_
  |refine Qdj hP sm1 Ur0 rfl ?_
  |refine Qdj hP n2 Ur0 rfl ?_
  |simp+decide (disch:=try exact E0) only[go_sem,Qac,List.contains_cons,List.contains_nil,List.flatMap_cons,List.flatMap_nil,List.append_nil]
 all_goals exact Qc rfl rfl
abbrev I64'(x:Int):Prop:= -9223372036854775808<=x/\x<=9223372036854775807
theorem Qwr{l:List RQ}{n:Nat}(hl:Qbs l)(hs:Qc9 l n=true):l.length<=n/\∀q∈l.map rqV,rs q<=3:=by
 unfold Qc9 at hs
 rw[Bool.and_eq_true,decide_eq_true_eq,List.all_eq_true]at hs
 refine⟨hs.1,fun q hq=> ?_⟩
 obtain⟨x,hx,rfl⟩:=List.mem_map.1 hq
 have h1:=hs.2 x hx
 rw[Bool.and_eq_true,decide_eq_true_eq,decide_eq_true_eq]at h1
 have h2:=hl.2 x hx
 exact Q2p (n:=0) h2.la h2.ld h1.1 h1.2 (by omega)
theorem Qsn{l:List Rat}{k m r c:Nat}(hk:1<=k)(h:∀q∈l,rs q<=k):rs (Q3 l m r c)<=k:=by
 unfold Q3
 rw[List.getD_eq_getElem?_getD]
 cases hq:l[r*m+c]? with
 |none=>have:=Qp2;show rs 0<=k;omega
 |some q=>exact h q (List.mem_of_getElem? hq)
theorem Qso{R m:Nat}(h:R*m<=25):R<=5∨m<=5:=by
 refine Classical.byContradiction fun hn=> ?_
 have:6*6<=R*m:=Nat.mul_le_mul (by omega) (by omega)
 omega
end Go.Proofs.YtkoclfmjlolkhaaGreat
namespace Go.FW
open Go
end Go.FW
