/- MatrixSolves: Solve and Kernel agree with the specification -/
import Derived.Test.YtkoclfmjlolkhaaGreatMatrixSolvesPart13
set_option linter.unusedSimpArgs false
set_option linter.unusedVariables false
set_option linter.unnecessarySimpa false
set_option maxRecDepth 100000
namespace Go.Proofs.YtkoclfmjlolkhaaGreat
open Go Go.FW
theorem Qm6{l:List Rat}{k:Nat}(hl:l.length<=1048576)(hk:k<=1048576)(hs:∀q∈l,rs q<=k):Qbs (l.map qR):=⟨by rw[List.length_map];exact hl,RRk.of fun q hq=>Nat.le_trans (hs q hq) hk⟩
def Qdq(l:List Rat):Nat->Rat:=fun i=>l.getD i 0
theorem Qtr(l:List Rat):Qh PV.rat (Qdq l) l.length=l.map PV.rat:=by
 refine List.ext_getElem (by simp[Qh]) fun j h1 h2=> ?_
 rw[Qc7,List.getElem_map]
 unfold Qdq
 rw[List.getD_eq_getElem?_getD,List.getElem?_eq_getElem (by simpa using h2)];rfl
theorem Qws{l:List Rat}{k:Nat}(hk:1<=k)(h:∀q∈l,rs q<=k)(i:Nat):rs (Qdq l i)<=k:=by
 unfold Qdq
 rw[List.getD_eq_getElem?_getD]
 cases hq:l[i]? with
 |none=>have:=Qp2;show rs 0<=k;omega
 |some q=>exact h q (List.mem_of_getElem? hq)
def c13:SFn:=⟨96,[.t 4,.t 5],Zr (Zo (.box 2 3 24 (.t 0))<|
 Zo (.mv 4 (.c .nilS))<|
 Zc 5 0 .nil)<| .seq (Zr (Zh 13 3 2<|
 Zq 14 false 52 [.t 13]<|
 Zu 15 14<|
 Zm 16 15<|
 Zg 16 false (.mv 17 (.t 1))<|
 Zg 16 false (.call (some 18) false (.c (.fn 53 [] [])) [.t 17])<|
 Zg 16 false (.un 19 .not (.t 18))<|
 Zo (.pick 20 (.t 16) (.c (.bool true)) (.t 19)) .nil)<| .cond (.t 20) (Zr (Zo (.mv 4 (.c .nilS))<|
 Zc 5 1 .nil) .ret) .skip)<| .seq (Zr (Zm 21 1<|
 Zn 22 21<|
 Zf 23 0 2<|
 Zl 24 1 23<|
 Zb 25 .neq 22 24 .nil)<| .cond (.t 25) (Zr (Zo (.mv 4 (.c .nilS))<|
 Zc 5 16 .nil) .ret) .skip)<|Zr (Zh 26 3 2<|
 Zq 27 false 54 [.t 26]<|
 Zm 6 27 .nil)<| .seq (Zr (Zm 28 6<|
 Zn 29 28<|
 Zc 30 0 .nil)<| .block 0<| .loop<|Zr (Zb 31 .lss 30 29 .nil)<| .seq (.cond (.t 31) .skip (.exit 0))<| .seq (.block 1<|Zr (Zm 32 30<|
 Zm 7 32 .nil)<| .rg (Zm 33 6<|
 Zm 34 7<|
 Zm 35 6<|
 Zm 36 7<|
 Zi 37 1 35 36<|
 Zl 38 1 37<|
 Zm 39 1<|
 Zm 40 7<|
 Zi 41 3 39 40<|
 Zh 42 3 41<|
 Zo (.bs 43 3 51 [.t 42])<|
 Zo (.app 44 3 56 51 (.t 38) (.t 43))<|
 Zi 45 1 33 34<|
 Zs 1 45 44 .nil))<| .rg (Zk 46 .add 30 1<|
 Zm 30 46 .nil))<|Zr (Zm 47 6<|
 Zf 48 1 2<|
 Zl 49 1 48<|
 Zq 50 false 55 [.t 47,.t 49]<|
 Zo (.alloc 8 5 87 (.agg [.nilS,.nilS,.bool false,.nilS,.nilS]))<|
 Zs 5 8 50 .nil)<| .seq (Zr (Zf 51 1 8<|
 Zl 52 1 51<|
 Zn 53 52<|
 Zm 9 53 .nil)<| .block 2<| .loop<| .seq (Zr (Zm 54 9<|
 Zf 55 0 2<|
 Zl 56 1 55<|
 Zb 57 .lss 54 56 .nil)<| .cond (.t 57) .skip (.exit 2))<| .seq (.block 3<|Zr (Zf 60 0 8<|
 Zl 61 1 60<|
 Zm 62 9<|
 Zi 63 1 61 62<|
 Zl 64 1 63<|
 Zf 65 1 2<|
 Zl 66 1 65<|
 Zi 67 3 64 66<|
 Zh 68 3 67<|
 Zq 69 false 38 [.t 68]<|
 Zk 70 .neq 69 0 .nil)<| .cond (.t 70) (Zr (Zo (.mv 4 (.c .nilS))<|
 Zc 5 13 .nil) .ret) .skip)<| .rg (Zm 58 9<|
 Zk 59 .add 58 1<|
 Zm 9 59 .nil))<|Zr (Zf 71 1 2<|
 Zl 72 1 71<|
 Zq 73 false 56 [.t 72]<|
 .wk<|Zm 10 73 .nil)<| .seq (Zr (Zf 74 1 8<|
 Zl 75 1 74<|
 Zn 76 75<|
 Zc 77 0 .nil)<| .block 4<| .loop<|Zr (Zb 78 .lss 77 76 .nil)<| .seq (.cond (.t 78) .skip (.exit 4))<| .seq (.block 5<|Zr (Zm 79 77<|
 Zi 80 1 75 77<|
 Zl 81 1 80<|
 Zm 11 79<|
 Zm 12 81 .nil)<| .rg (Zm 82 10<|
 Zm 83 12<|
 Zf 84 0 8<|
 Zl 85 1 84<|
 Zm 86 11<|
 Zi 87 1 85 86<|
 Zl 88 1 87<|
 Zf 89 1 2<|
 Zl 90 1 89<|
 Zi 91 3 88 90<|
 Zh 92 3 91<|
 Zi 93 3 82 83<|
 Zs 3 93 92 .nil))<| .rg (Zk 94 .add 77 1<|
 Zm 77 94 .nil))<|Zr (Zm 95 10<|
 Zm 4 95<|
 Zc 5 0 .nil) .ret⟩
theorem Qrp:Qe Tryz.prog Tryz.f13=some c13.strip:=by kernel_rfl
def Qdt(M:MF)(x:Nat->Rat)(m:Nat):MF:=fun r c=>if c=m then x r else M r c
def Qde(E:MF)(piv:List Nat)(m:Nat):Nat->(Nat->Rat)
 |0=>fun _=>0
 |j+1=>fun c=>if c=piv.getD j 0 then E j m else Qde E piv m j c
def Qgj(E:Ech)(R m:Nat):PV:=if(∀r,r<R->E.piv.length<=r->E.M r m=0)then .tup [.sl 3 (Qh PV.rat (Qde E.M E.piv m E.piv.length) m),.int .i64 0]else .tup [PV.rats [],.int .i64 13]
theorem Qyr{M:MF}{x:Nat->Rat}{m r:Nat}:Qh PV.rat (M r) m++[PV.rat (x r)]=Qh PV.rat (Qdt M x m r) (m+1):=by
 refine List.ext_getElem (by simp[Qh]) fun j h1 h2=> ?_
 have hj:j<m+1:=by simpa[Qh]using h2
 rw[Qc7]
 unfold Qdt
 by_cases e:j=m
 ·subst e;rw[if_pos rfl,List.getElem_append_right (by simp[Qh])];simp
 ·rw[if_neg e,List.getElem_append_left (by simp[Qh];omega),Qc7]
theorem Qys{γ i ty m B n:Nat}{L:Nat->Nat}{e0 ty0:Nat}{xs0:List PV}{fr:Fr}{hp:HP}{K:Qf}(h:i<n):
  stX (.nst γ 1 ty ((Qx (rws B n L)).set i .undef)) (some ⟨e0,ty0,xs0,false⟩) (some [.ms (B+i) m]) γ 1 i 0 fr hp K=K (upd (Qcr γ fr) γ (.nst γ 1 ty (Qx (rws B n fun j=>if j=i then m else L j)))) hp:=by
 have hl:i<((Qx (rws B n L)).set i .undef).length:=by simpa[Qx,rws]using h
 simp only[stX,hl,exists_true_left,true_and,Nat.le_refl,Nat.zero_add,Option.some.injEq,exists_eq_left',List.length_cons,List.length_nil]
 rw[<-Qabx (L:=L) (L':=fun j=>if j=i then m else L j) fun j _=>rfl]
 simp[Qcp,Qho,Qx,PV.ncells,PV.cells,List.map_set]
theorem Qadt{R m K:Nat}{l b:List Rat}(hl:l.length=R*m)(hlb:b.length=R)(hR:0<R)(hR2:R<=40)(hm:m<=39)(hs:∀q∈l,rs q<=1048576)(hsb:∀q∈b,rs q<=1048576)(hK:K<=2^20)(hB:Qhh K R (m+1) m (Qdt (Q3 l m) (Qdq b) m)):
  Qd Tryz.prog 13 [PV.mat R m l,PV.rats b] (· =Qgj (Qaf R (Qdt (Q3 l m) (Qdq b) m) m) R m):=by
 have hEp:=Qdn R (Qdt (Q3 l m) (Qdq b) m) m
 have hEb:=(hB m (Nat.le_refl _)).1
 have c1:=Qhl hl hR2 (show m<=40 by omega) hs
 have hfree:∀(hp:HP),(∀x,5<=x->hp x=none)->∀x,nmR R x=true->hp x=none:=fun hp h x hx=>h x (by have:=Qh9 hx;omega)
 obtain⟨X,hX⟩:∃X,Qdq b=X:=⟨_,rfl⟩
 have hrx:PV.rats b= .sl 3 (Qh PV.rat X R):=by rw[PV.rats,<-hX,<-hlb,Qtr]
 have hnm:Qd Tryz.prog 53 [.sl 3 (Qh PV.rat X R)] (· = .bool true):=by
  have:=Qg1 (l:=b.map qR) (Qm6 (by omega) (k:=1048576) (by omega) hsb)
  rw[<-Qlr,hrx]at this
  have e:(b.map qR).all Qdw=true:=by
   rw[List.all_eq_true]
   intro y hy
   obtain⟨q,_,rfl⟩:=List.mem_map.1 hy
   exact Qp4 q
  rw[e]at this;exact this
 rw[hX]at hEp hEb hB⊢
 rw[hrx]
 have hrl:(Qh PV.rat X R).length=R:=Qaa _ _ _
 refine Qcz Qt Tryz.func13 rfl Qrp (by simp[c13]) fun C hP=> ?_;simp only[c13,Zo,Zg,Zm,Zc,Zf,Zl,Zh,Zs,Zi,Zb,Zk,Zn,Zu,Zq,Zr,Zz]
 simp+decide (disch:=try exact D0) only[go_sem]
 refine Qa hP c1 rfl rfl rfl ?_
 simp+decide (disch:=try exact D0) only[go_sem]
 refine Qa hP hnm rfl rfl rfl ?_
 simp+decide (disch:=try exact D1 hrl) only[go_sem,hrl]
 refine Qkj hP hl hR hR2 (by omega) (by omega) (hfree _ (fun x hx=>by simp+decide (disch:=try exact D1 (show ¬x=2 from by omega)) only[go_sem,show ¬x=2 from by omega]<;>rfl)) ?_
 simp+decide (disch:=first|omega|rfl|(simp+decide only[go_sem,Qbc,Qdg,Qay]<;>rfl)|fail) only[go_sem,Qbc,Qdg,Qay]
 refine Qat (by repeat (first|exact Qw|exact Qo|exact Qp|exact Qq|exact Qr|apply Qn|apply Qv|apply Qz|apply Q6|apply Q7|apply Qk|apply Qu)) [(6,7),(30,46),(2000000,2000000)] [43,44] (fun q J hp=>∃i,q=R-i/\i<=R/\J 6= .nso 2000000 0 R/\J 30= .int .i64 (i:Nat)/\J 2000000= .nst 2000000 1 22 (Qx (rws 3000000 R fun r=>if r<i then m+1 else m))/\hp 2=some ⟨3,24,[PV.mat R m l],false⟩/\hp 2000000=some ⟨1,22,[],false⟩/\
   (∀r,r<i->hp (3000000+r)=some ⟨3,51,Qh PV.rat (Qdt (Q3 l m) X m r) (m+1),false⟩)/\∀r,i<=r->r<R->hp (3000000+r)=some ⟨3,51,Qh PV.rat (Q3 l m r) m,false⟩) R ?_ ?_
 ·refine⟨0,rfl,by omega,?_⟩
  simp+decide (disch:=first|omega|rfl|(simp+decide only[go_sem,Qbc,Qdg,Qay,Qgg]<;>rfl)|fail) only[go_sem,Qbc,Qdg,Qay,Qgg]
  refine⟨rfl,?_,(fun r hr=>by omega),fun r _ hr=>by simp+decide (disch:=first|omega|rfl|(simp+decide only[go_sem,Qem]<;>rfl)|fail) only[go_sem,Qem]⟩
  rw[<-Qra]
  have:(fun r=>if r<0 then m+1 else m)=fun _=>m:=by funext r;rw[if_neg (by omega)]
  rw[this]
 rintro _ J h ⟨i,rfl,hi,h6,h30,hg,h2,hh,hr1,hr2⟩
 simp+decide (disch:=try exact D2 h6 h30) only[go_sem,h6,h30]
 refine Qb (fun hc=> ?_) (fun hc=> ?_)
 ·have hi':i<R:=by omega
  have hld:=fun(K:Qf) (fr:Fr) (hp:HP) d (h:fr 2000000= .nst 2000000 1 22 (Qx (rws 3000000 R fun r=>if r<i then m+1 else m)))=>Q26 (K:=K) (d:=d) (hp:=hp) h hi'
  have er:=hr2 i (Nat.le_refl _) hi'
  have hii:(if i<i then m+1 else m)=m:=if_neg (by omega)
  simp+decide (disch:=try exact D6 h6 h30 hg hh hld hii) only[go_sem,h6,h30,hg,hh,hld,hii]
  rw[Qsh (xs:=Qh PV.rat (Q3 l m i) m) (y:=PV.rat (X i)) (ty':=51) (fz:=false) (T1 er) T0 (by omega) (Qaa _ _ _).symm (by omega) (by omega) (by omega)]
  have htk:=Qti (γ:=2000000) (e:=1) (ty:=22) (L:=fun r=>if r<i then m+1 else m) (B:=3000000) hi' (by omega)
  rw[Qyr]
  simp+decide (disch:=try exact D5 h6 h30 hg hh htk) only[go_sem,h6,h30,hg,hh,htk]
  have hL:(fun j=>if j=i then m+1 else if j<i then m+1 else m)=fun r=>if r<i+1 then m+1 else m:=by
   funext r
   by_cases e:r=i
   ·rw[if_pos e,if_pos (by omega)]
   ·rw[if_neg e]
    by_cases e2:r<i
    ·rw[if_pos e2,if_pos (by omega)]
    ·rw[if_neg e2,if_neg (by omega)]
  rw[Qys hi',hL]
  simp+decide (disch:=try exact D2 h6 h30) only[go_sem,h6,h30]
  refine Qak (R-(i+1)) (by omega) ⟨i+1,rfl,by omega,?_⟩
  simp+decide (disch:=try exact D3 h6 h2 hh) only[go_sem,h6,h2,hh]
  refine⟨fun r hr=> ?_,fun r hr hr3=> ?_⟩
  ·by_cases e:r=i
   ·subst e;rw[if_pos rfl]
   ·rw[if_neg e];exact hr1 r (by omega)
  ·rw[if_neg (by omega)];exact hr2 r (by omega) hr3
 obtain rfl:R=i:=by omega
 have hW:Qx (rws 3000000 R fun r=>if r<R then m+1 else m)=Qx (Qas 3000000 R (m+1) id):=by
  rw[<-Qra]
  refine congrArg Qx (List.ext_getElem (by simp[rws]) fun j h1 h2=> ?_)
  have hj:j<R:=by simpa[rws]using h1
  rw[Qe1,Qe1,if_pos hj]
 rw[hW]at hg
 simp+decide (disch:=try exact D3 h6 h2 h30) only[go_sem,h6,h2,h30]
 refine Qk5 (K:=K) (M:=Qdt (Q3 l m) X m) (ty:=22) (tyr:=51) hP hR hR2 (show m+1<=40 by omega) (show m<=m+1 by omega) hK hB (T1 hg) (T1 hh) hr1 ?_
 obtain⟨E,hE⟩:∃E,Qaf R (Qdt (Q3 l m) X m) m=E:=⟨_,rfl⟩
 rw[hE]at hEp hEb⊢
 have hEl:Qh8 E.M R (m+1)=Qh (PV.rowD (m+1)) E.M R:=rfl
 rw[Qwo,Qwp Q4d]
 simp+decide (disch:=first|omega|rfl|(simp+decide only[go_sem,hEl,h2,Qbc,Qdg]<;>rfl)|fail) only[go_sem,hEl,h2,Qbc,Qdg]
 have hE8:∀r,r=R->PV.ech r (m+1) E= .agg [.sl 1 (Qh (PV.rowD (m+1)) E.M R),.sl 1 (Qeg E.piv),.bool (decide (E.det.num<0)),PV.num E.det.num.natAbs,PV.num E.det.den]:=fun r h=>by subst h;rfl
 refine Qat (by repeat (first|exact Qw|exact Qo|exact Qp|exact Qq|exact Qr|apply Qn|apply Qv|apply Qz|apply Q6|apply Q7|apply Qk|apply Qu)) [(4,5),(9,9),(54,70)] [] (fun q J hp=>∃r,q=R-r/\E.piv.length<=r/\r<=R/\(∀j,E.piv.length<=j->j<r->E.M j m=0)/\J 9= .int .i64 (r:Nat)/\hp 2=some ⟨3,24,[PV.mat R m l],false⟩/\hp 8=some ⟨5,87,[.agg [.sl 1 (Qh (PV.rowD (m+1)) E.M R),.sl 1 (Qeg E.piv),.bool (decide (E.det.num<0)),PV.num E.det.num.natAbs,PV.num E.det.den]],false⟩/\hp 2000000=none) (R-E.piv.length) ?_ ?_
 ·refine⟨E.piv.length,rfl,Nat.le_refl _,by omega,fun j h1 h2=>by omega,?_⟩
  simp+decide (disch:=first|omega|rfl|(simp+decide only[go_sem,h2,hE8,Qbc,Qdg]<;>rfl)|fail) only[go_sem,h2,hE8,Qbc,Qdg]
 rintro _ J2 hp2 ⟨r,rfl,hr,hrR,hz,i9,i2,i8,iN⟩
 simp+decide (disch:=try exact D2 i9 i2) only[go_sem,i9,i2]
 refine Qb (fun hc2=> ?_) (fun hc2=> ?_)
 ·have hr':r<R:=by omega
  simp+decide (disch:=try exact D3 i9 i2 i8) only[go_sem,i9,i2,i8]
  have hb1:=hEb r hr' m (by omega)
  refine Qa hP (Qlu (a:=E.M r m) (by omega)) rfl rfl rfl ?_
  simp+decide (disch:=try exact D1 i9) only[go_sem,i9]
  refine Qb (fun hq=> ?_) (fun hq=> ?_)
  ·have hq0:¬E.M r m=0:=fun e=>hq (Qb8.2 e)
   have hres:Qgj E R m= .tup [PV.rats [],.int .i64 13]:=if_neg fun h=>hq0 (h r hr' hr)
   simp+decide (disch:=try exact D0) only[go_sem]
   refine Qb9 (Qb1 ?_)
   simp+decide (disch:=try exact D1 hres) only[go_sem,hres]
   exact Qb2 rfl rfl rfl (show PV.le .nilS (.sl 3 [])from trivial) (Qy _)
  ·have hq0:E.M r m=0:=Decidable.byContradiction fun e=>hq fun h=>e (Qb8.1 h)
   simp+decide (disch:=try exact D1 i9) only[go_sem,i9]
   refine Qak (R-(r+1)) (by omega) ⟨r+1,rfl,by omega,by omega,fun j h1 h2=> ?_,?_⟩
   ·by_cases e:j=r
    ·rw[e];exact hq0
    ·exact hz j h1 (by omega)
   simp+decide (disch:=try exact D3 i2 i8 iN) only[go_sem,i2,i8,iN]
 ·obtain rfl:R=r:=by omega
  simp+decide (disch:=try exact D1 i2) only[go_sem,i2]
  refine Qlx hP (Qk9 (n:=m) (by omega)) iN (by intro x hx γ e ty xs;rw[List.mem_singleton.1 hx];intro h;cases h) rfl (by simp) ?_
  simp+decide (disch:=try exact D0) only[go_sem]
  refine Qch (Wk.refl _ _) ?_
  simp+decide (disch:=try exact D1 i8) only[go_sem,i8]
  refine Qat (by repeat (first|exact Qw|exact Qo|exact Qp|exact Qq|exact Qr|apply Qn|apply Qv|apply Qz|apply Q6|apply Q7|apply Qk|apply Qu)) [(10,12),(77,94)] [] (fun q J hp=>∃j,q=E.piv.length-j/\j<=E.piv.length/\J 10= .mso 2000000 0 m/\J 77= .int .i64 (j:Nat)/\hp 2=some ⟨3,24,[PV.mat R m l],false⟩/\hp 8=some ⟨5,87,[.agg [.sl 1 (Qh (PV.rowD (m+1)) E.M R),.sl 1 (Qeg E.piv),.bool (decide (E.det.num<0)),PV.num E.det.num.natAbs,PV.num E.det.den]],false⟩/\hp 2000000=some ⟨3,51,Qh PV.rat (Qde E.M E.piv m j) m,false⟩) E.piv.length ?_ ?_
  ·refine⟨0,rfl,by omega,?_⟩
   have e0:(fun _=>(0:Rat))=Qde E.M E.piv m 0:=rfl
   simp+decide (disch:=try exact D3 i2 i8 e0) only[go_sem,i2,i8,e0]
   rfl
  rintro _ J3 hp3 ⟨j,rfl,hj,k10,k77,k2,k8,kx⟩
  simp+decide (disch:=try exact D1 k77) only[go_sem,k77]
  refine Qb (fun hc3=> ?_) (fun hc3=> ?_)
  ·have hj':j<E.piv.length:=by omega
   have hRj:j<R:=by omega
   have hpj:E.piv[j]<m:=hEp.2.2 _ (List.getElem_mem hj')
   simp+decide (disch:=try exact D5 k10 k77 k2 k8 kx) only[go_sem,k10,k77,k2,k8,kx]
   rw[Qfm (v:=E.M j m) hpj]
   have e1:(fun c=>if c=E.piv[j]then E.M j m else Qde E.M E.piv m j c)=Qde E.M E.piv m (j+1):=by
    funext c
    show _=if c=E.piv.getD j 0 then _ else _
    rw[List.getD_eq_getElem?_getD,List.getElem?_eq_getElem hj',Option.getD_some]
   simp+decide (disch:=try exact D1 k77) only[go_sem,k77]
   refine Qak (E.piv.length-(j+1)) (by omega) ⟨j+1,rfl,by omega,?_⟩
   simp+decide (disch:=try exact D4 k10 k2 k8 e1) only[go_sem,k10,k2,k8,e1]
  ·obtain rfl:j=E.piv.length:=by omega
   simp+decide (disch:=try exact D1 k10) only[go_sem,k10]
   refine Qb9 (Qb1 ?_)
   simp+decide (disch:=try exact D1 kx) only[go_sem,kx]
   have hsn:Q8 hp3 (.mso 2000000 0 m)= .sl 3 (Qh PV.rat (Qde E.M E.piv m E.piv.length) m):=by
    simp only[Q8,Qaq,kx]
    rw[if_neg (by decide),List.drop_zero,List.take_of_length_le (by rw[Qaa];omega)]
   have hres:Qgj E R m= .tup [.sl 3 (Qh PV.rat (Qde E.M E.piv m E.piv.length) m),.int .i64 0]:=if_pos fun r h1 h2=>hz r h2 h1
   rw[hsn,hres]
   exact Qb2 rfl rfl rfl (Qy _) (Qy _)
theorem Q9f{m:Nat}{M:MF}(hm:m<=40):Qd Tryz.prog 13 [PV.mat 0 m [],PV.rats []] (· =Qgj (Qaf 0 M m) 0 m):=by
 have c1:=Qhl (l:=[]) (R:=0) (m:=m) (by simp) (by omega) (show m<=40 by omega) (by intro q hq;cases hq)
 have hnm:Qd Tryz.prog 53 [PV.rats []] (· = .bool true):=Qg1 (l:=([]:List Rat).map qR) (Qm6 (by simp) (k:=3) (by omega) (by intro q hq;cases hq))
 have c2:=Qk3 (l:=[]) (R:=0) (m:=m) (by simp) (by omega) (by omega)
 have c3:Qd Tryz.prog 55 [.sl 1 (Qh8 (Q3 [] m) 0 m),.int .i64 (m:Nat)] (· =PV.ech 0 m (Qaf 0 M m)):=Qm4 (M:=M) (w:=m) (n:=m) (by omega)
 rw[show Qh8 (Q3 [] m) 0 m=[]from rfl]at c2 c3
 have hEp:=Qdn 0 M m
 obtain⟨E,hE⟩:∃E,Qaf 0 M m=E:=⟨_,rfl⟩
 rw[hE]at c3 hEp⊢
 have hpl:E.piv.length=0:=by omega
 have hres:Qgj E 0 m= .tup [.sl 3 (Qh PV.rat (fun _=>0) m),.int .i64 0]:=by
  unfold Qgj
  rw[if_pos fun r h=>absurd h (by omega),hpl]
  rfl
 rw[hres]
 refine Qcz Qt Tryz.func13 rfl Qrp (by simp[c13]) fun C hP=> ?_;simp only[c13,Zo,Zg,Zm,Zc,Zf,Zl,Zh,Zs,Zi,Zb,Zk,Zn,Zu,Zq,Zr,Zz]
 simp+decide (disch:=try exact D0) only[go_sem]
 refine Qa hP c1 rfl rfl rfl ?_
 simp+decide (disch:=try exact D0) only[go_sem]
 refine Qa hP hnm rfl rfl rfl ?_
 simp+decide (disch:=try exact D0) only[go_sem]
 refine Qa hP c2 rfl rfl rfl ?_
 simp+decide (disch:=try exact D0) only[go_sem]
 refine Qat (by repeat (first|exact Qw|exact Qo|exact Qp|exact Qq|exact Qr|apply Qn|apply Qv|apply Qz|apply Q6|apply Q7|apply Qk|apply Qu)) [(7,7),(30,46)] [43,44] (fun q J hp=>J 30= .int .i64 0/\J 6= .sl 1 []/\hp 2=some ⟨3,24,[PV.mat 0 m []],false⟩/\hp 2000000=none) 0 ?_ ?_
 ·simp+decide (disch:=try exact D0) only[go_sem]
 rintro _ J h ⟨j30,j6,h2,hN⟩
 simp+decide (disch:=try exact D3 j30 j6 h2) only[go_sem,j30,j6,h2]
 refine Qa hP c3 rfl rfl rfl ?_
 have hE8:PV.ech 0 m E= .agg [.sl 1 [],.sl 1 (Qeg E.piv),.bool (decide (E.det.num<0)),PV.num E.det.num.natAbs,PV.num E.det.den]:=rfl
 have hpl2:(Qeg E.piv).length=0:=by simp[Qeg,hpl]
 simp+decide (disch:=try exact D2 h2 hpl) only[go_sem,h2,hpl]
 refine Qat (by repeat (first|exact Qw|exact Qo|exact Qp|exact Qq|exact Qr|apply Qn|apply Qv|apply Qz|apply Q6|apply Q7|apply Qk|apply Qu)) [(4,5),(9,9),(54,70)] [] (fun q J hp=>J 9= .int .i64 0/\hp 2=some ⟨3,24,[PV.mat 0 m []],false⟩/\hp 8=some ⟨5,87,[.agg [.sl 1 [],.sl 1 (Qeg E.piv),.bool (decide (E.det.num<0)),PV.num E.det.num.natAbs,PV.num E.det.den]],false⟩/\hp 2000000=none) 0 ?_ ?_
 ·simp+decide (disch:=try exact D3 hE8 h2 hN) only[go_sem,hE8,h2,hN]
  rfl
 rintro _ J2 hp2 ⟨i9,i2,i8,iN⟩
 simp+decide (disch:=try exact D2 i9 i2) only[go_sem,i9,i2]
 refine Qlx hP (Qk9 (n:=m) (by omega)) iN (by intro x hx γ e ty xs;rw[List.mem_singleton.1 hx];intro h;cases h) rfl (by simp) ?_
 simp+decide (disch:=try exact D0) only[go_sem]
 refine Qch (Wk.refl _ _) ?_
 simp+decide (disch:=try exact D2 i8 hpl2) only[go_sem,i8,hpl2]
 refine Qat (by repeat (first|exact Qw|exact Qo|exact Qp|exact Qq|exact Qr|apply Qn|apply Qv|apply Qz|apply Q6|apply Q7|apply Qk|apply Qu)) [(10,12),(77,94)] [] (fun q J hp=>J 10= .mso 2000000 0 m/\J 77= .int .i64 0/\hp 2000000=some ⟨3,51,Qh PV.rat (fun _=>0) m,false⟩) 0 ?_ ?_
 ·simp+decide (disch:=try exact D0) only[go_sem]
 rintro _ J3 hp3 ⟨k10,k77,kx⟩
 simp+decide (disch:=try exact D2 k77 k10) only[go_sem,k77,k10]
 refine Qb9 (Qb1 ?_)
 have hsn:Q8 hp3 (.mso 2000000 0 m)= .sl 3 (Qh PV.rat (fun _=>(0:Rat)) m):=by
  simp only[Q8,Qaq,kx]
  rw[if_neg (by decide),List.drop_zero,List.take_of_length_le (by rw[Qaa];omega)]
 simp+decide (disch:=try exact D0) only[go_sem]
 rw[hsn]
 exact Qb2 rfl rfl rfl (Qy _) (Qy _)
def c14:SFn:=⟨108,[.t 4,.t 5],Zr (Zo (.box 2 3 24 (.t 0))<|
 Zo (.mv 4 (.c .nilS))<|
 Zc 5 0 .nil)<| .seq (Zr (Zh 13 3 2<|
 Zq 14 false 57 [.t 13]<|
 Zu 15 14<|
 Zm 16 15<|
 Zg 16 false (.mv 17 (.t 1))<|
 Zg 16 false (.call (some 18) false (.c (.fn 58 [] [])) [.t 17])<|
 Zg 16 false (.un 19 .not (.t 18))<|
 Zo (.pick 20 (.t 16) (.c (.bool true)) (.t 19)) .nil)<| .cond (.t 20) (Zr (Zo (.mv 4 (.c .nilS))<|
 Zc 5 1 .nil) .ret) .skip)<| .seq (Zr (Zm 21 1<|
 Zn 22 21<|
 Zf 23 0 2<|
 Zl 24 1 23<|
 Zb 25 .neq 22 24 .nil)<| .cond (.t 25) (Zr (Zo (.mv 4 (.c .nilS))<|
 Zc 5 16 .nil) .ret) .skip)<|Zr (Zh 26 3 2<|
 Zq 27 false 59 [.t 26]<|
 Zm 6 27 .nil)<| .seq (Zr (Zc 7 0 .nil)<| .block 0<| .loop<| .seq (Zr (Zm 28 7<|
 Zm 29 6<|
 Zn 30 29<|
 Zb 31 .lss 28 30 .nil)<| .cond (.t 31) .skip (.exit 0))<| .seq (.block 1<| .rg (Zm 34 6<|
 Zm 35 7<|
 Zm 36 6<|
 Zm 37 7<|
 Zi 38 1 36 37<|
 Zl 39 1 38<|
 Zm 40 1<|
 Zm 41 7<|
 Zi 42 3 40 41<|
 Zh 43 3 42<|
 Zo (.bs 44 3 51 [.t 43])<|
 Zo (.app 45 3 56 51 (.t 39) (.t 44))<|
 Zi 46 1 34 35<|
 Zs 1 46 45 .nil))<| .rg (Zm 32 7<|
 Zk 33 .add 32 1<|
 Zm 7 33 .nil))<|Zr (Zm 48 6<|
 .wk<| .wk<| .wk<|Zf 49 1 2<|
 Zl 50 1 49<|
 Zq 51 false 60 [.t 48,.t 50]<|
 Zm 47 51<|
 Zo (.ext 52 (.t 47) 0)<|
 Zo (.ext 53 (.t 47) 1)<|
 Zm 6 52<|
 Zm 8 53 .nil)<| .seq (Zr (Zm 54 8<|
 Zn 55 54<|
 Zm 9 55 .nil)<| .block 2<| .loop<| .seq (Zr (Zm 56 9<|
 Zm 57 6<|
 Zn 58 57<|
 Zb 59 .lss 56 58 .nil)<| .cond (.t 59) .skip (.exit 2))<| .seq (.block 3<|Zr (Zm 62 6<|
 Zm 63 9<|
 Zi 64 1 62 63<|
 Zl 65 1 64<|
 Zf 66 1 2<|
 Zl 67 1 66<|
 Zi 68 3 65 67<|
 Zh 69 3 68<|
 Zq 70 false 27 [.t 69]<|
 Zk 71 .neq 70 0 .nil)<| .cond (.t 71) (Zr (Zo (.mv 4 (.c .nilS))<|
 Zc 5 13 .nil) .ret) .skip)<| .rg (Zm 60 9<|
 Zk 61 .add 60 1<|
 Zm 9 61 .nil))<|Zr (Zo (.mv 10 (.c .nilS)) .nil)<|Zr (Zc 11 0 .nil)<| .seq (Zr (Zc 12 0 .nil)<| .block 4<| .loop<| .seq (Zr (Zm 72 12<|
 Zf 73 1 2<|
 Zl 74 1 73<|
 Zb 75 .lss 72 74 .nil)<| .cond (.t 75) .skip (.exit 4))<| .seq (.block 5<|Zr (Zm 78 11<|
 Zm 79 8<|
 Zn 80 79<|
 Zb 81 .lss 78 80<|
 Zm 82 81<|
 Zg 82 true (.mv 83 (.t 8))<|
 Zg 82 true (.mv 84 (.t 11))<|
 Zg 82 true (.idx 85 1 (.t 83) (.t 84))<|
 Zg 82 true (.ld 86 1 false (.t 85))<|
 Zg 82 true (.mv 87 (.t 12))<|
 Zg 82 true (.bin 88 .eql false (.t 86) (.t 87))<|
 Zo (.pick 89 (.t 82) (.t 88) (.c (.bool false))) .nil)<| .cond (.t 89) (Zr (Zm 90 10<|
 Zm 91 6<|
 Zm 92 11<|
 Zi 93 1 91 92<|
 Zl 94 1 93<|
 Zf 95 1 2<|
 Zl 96 1 95<|
 Zi 97 3 94 96<|
 Zh 98 3 97<|
 Zo (.bs 99 3 51 [.t 98])<|
 Zo (.app 100 3 56 51 (.t 90) (.t 99))<|
 Zm 10 100 .nil)<| .rg (Zm 101 11<|
 Zk 102 .add 101 1<|
 Zm 11 102 .nil)) (.rg (Zm 103 10<|
 Zq 104 false 50 [.c (Zz 0)]<|
 Zo (.bs 105 3 51 [.t 104])<|
 Zo (.app 106 3 56 51 (.t 103) (.t 105))<|
 Zm 10 106 .nil)))<| .rg (Zm 76 12<|
 Zk 77 .add 76 1<|
 Zm 12 77 .nil))<|Zr (Zm 107 10<|
 Zm 4 107<|
 Zc 5 0 .nil) .ret⟩
theorem Qrq:Qe Tryz.prog Tryz.f14=some c14.strip:=by kernel_rfl
theorem Qts{E:MF}{piv:List Nat}{m c:Nat}:∀n,(∀j,j<n->piv.getD j 0≠c)->Qde E piv m n c=0
 |0,_=>rfl
 |n+1,h=>by
  show(if c=piv.getD n 0 then _ else _)=_
  rw[if_neg fun e=>h n (by omega) e.symm]
  exact Qts n fun j hj=>h j (by omega)
theorem Qwt{E:MF}{piv:List Nat}{m j:Nat}(hd:∀i,i<piv.length->i≠j->piv.getD i 0≠piv.getD j 0):∀n,j<n->n<=piv.length->Qde E piv m n (piv.getD j 0)=E j m
 |0,h,_=>by omega
 | n+1,h,hn=>by
  show(if piv.getD j 0=piv.getD n 0 then _ else _)=_
  by_cases e:j=n
  ·subst e;rw[if_pos rfl]
  ·rw[if_neg fun e2=>hd n (by omega) (fun e3=>e e3.symm) e2.symm]
   exact Qwt hd n (by omega) (by omega)
theorem Qj0{piv:List Nat}(h:piv.Pairwise (· < ·)){i j:Nat}(hij:i<j)(hj:j<piv.length):piv[i]'(by omega)<piv[j]:=List.pairwise_iff_getElem.1 h i j (by omega) hj hij
theorem Q9g{R m K:Nat}{l b:List Rat}(hl:l.length=R*m)(hlb:b.length=R)(hR:0<R)(hR2:R<=40)(hm:m<=39)(hs:∀q∈l,rs q<=1048576)(hsb:∀q∈b,rs q<=1048576)(hK:K<=2^20)(hB:Qhh K R (m+1) m (Qdt (Q3 l m) (Qdq b) m)):
  Qd Tryz.prog 14 [PV.mat R m l,PV.rats b] (· =Qgj (Qaf R (Qdt (Q3 l m) (Qdq b) m) m) R m):=by
 have hEp:=Qdn R (Qdt (Q3 l m) (Qdq b) m) m
 have hEs:=Qk8 R (Qdt (Q3 l m) (Qdq b) m) m
 have hEb:=(hB m (Nat.le_refl _)).1
 have c1:=Qk7 hl hR2 (show m<=40 by omega) hs
 have hech:=Qm5 (ty:=22) (w:=m+1) (n:=m) hR2 (by omega) (by omega) hK hB
 obtain⟨X,hX⟩:∃X,Qdq b=X:=⟨_,rfl⟩
 have hrx:PV.rats b= .sl 3 (Qh PV.rat X R):=by rw[PV.rats,<-hX,<-hlb,Qtr]
 have hnm:Qd Tryz.prog 58 [.sl 3 (Qh PV.rat X R)] (· = .bool true):=by
  have:=Qhk (l:=b.map qR) (Qm6 (by omega) (k:=1048576) (by omega) hsb)
  rw[<-Qlr,hrx]at this
  have e:(b.map qR).all Qdw=true:=by
   rw[List.all_eq_true]
   intro y hy
   obtain⟨q,_,rfl⟩:=List.mem_map.1 hy
   exact Qp4 q
  rw[e]at this;exact this
 rw[hX]at hEp hEs hEb hB hech⊢
 rw[hrx]
 have hrl:(Qh PV.rat X R).length=R:=Qaa _ _ _
 refine Qcz Qt Tryz.func14 rfl Qrq (by simp[c14]) fun C hP=> ?_;simp only[c14,Zo,Zg,Zm,Zc,Zf,Zl,Zh,Zs,Zi,Zb,Zk,Zn,Zu,Zq,Zr,Zz]
 simp+decide (disch:=try exact D0) only[go_sem]
 refine Qa hP c1 rfl rfl rfl ?_
 simp+decide (disch:=try exact D0) only[go_sem]
 refine Qa hP hnm rfl rfl rfl ?_
 simp+decide (disch:=try exact D1 hrl) only[go_sem,hrl]
 refine Q0s hP hl hR hR2 (by omega) (by omega) (fun x hx=>by have:=Qrj hx;simp+decide (disch:=try exact D1 (show ¬x=2 from by omega)) only[go_sem,show ¬x=2 from by omega]<;>rfl) ?_
 simp+decide (disch:=first|omega|rfl|(simp+decide only[go_sem,Qo0,Qrk,Qkk]<;>rfl)|fail) only[go_sem,Qo0,Qrk,Qkk]
 refine Qat (by repeat (first|exact Qw|exact Qo|exact Qp|exact Qq|exact Qr|apply Qn|apply Qv|apply Qz|apply Q6|apply Q7|apply Qk|apply Qu)) [(6,7),(28,46),(4000018,4000018)] [44,45] (fun q J hp=>∃i,q=R-i/\i<=R/\J 6= .nso 4000018 0 R/\J 7= .int .i64 (i:Nat)/\J 4000018= .nst 4000018 1 22 (Qx (rws 5000000 R fun r=>if r<i then m+1 else m))/\hp 2=some ⟨3,24,[PV.mat R m l],false⟩/\hp 4000018=some ⟨1,22,[],false⟩/\hp 2000000=none/\
   (∀r,r<i->hp (5000000+r)=some ⟨3,51,Qh PV.rat (Qdt (Q3 l m) X m r) (m+1),false⟩)/\∀r,i<=r->r<R->hp (5000000+r)=some ⟨3,51,Qh PV.rat (Q3 l m r) m,false⟩) R ?_ ?_
 ·refine⟨0,rfl,by omega,?_⟩
  simp+decide (disch:=first|omega|rfl|(simp+decide only[go_sem,Qo0,Qrk,Qkk,Qwm]<;>rfl)|fail) only[go_sem,Qo0,Qrk,Qkk,Qwm]
  refine⟨rfl,?_,(fun r hr=>by omega),fun r _ hr=>by simp+decide (disch:=first|omega|rfl|(simp+decide only[go_sem,Qrl]<;>rfl)|fail) only[go_sem,Qrl]⟩
  rw[<-Qra]
  have:(fun r=>if r<0 then m+1 else m)=fun _=>m:=by funext r;rw[if_neg (by omega)]
  rw[this]
 rintro _ J h ⟨i,rfl,hi,h6,h7,hg,h2,hh,h20,hr1,hr2⟩
 simp+decide (disch:=try exact D2 h6 h7) only[go_sem,h6,h7]
 refine Qb (fun hc=> ?_) (fun hc=> ?_)
 ·have hi':i<R:=by omega
  have hld:=fun(K:Qf) (fr:Fr) (hp:HP) d (h:fr 4000018= .nst 4000018 1 22 (Qx (rws 5000000 R fun r=>if r<i then m+1 else m)))=>Q26 (K:=K) (d:=d) (hp:=hp) h hi'
  have er:=hr2 i (Nat.le_refl _) hi'
  have hii:(if i<i then m+1 else m)=m:=if_neg (by omega)
  simp+decide (disch:=try exact D6 h6 h7 hg hh hld hii) only[go_sem,h6,h7,hg,hh,hld,hii]
  rw[Qsh (xs:=Qh PV.rat (Q3 l m i) m) (y:=PV.rat (X i)) (ty':=51) (fz:=false) (T1 er) T0 (by omega) (Qaa _ _ _).symm (by omega) (by omega) (by omega)]
  have htk:=Qti (γ:=4000018) (e:=1) (ty:=22) (L:=fun r=>if r<i then m+1 else m) (B:=5000000) hi' (by omega)
  rw[Qyr]
  simp+decide (disch:=try exact D5 h6 h7 hg hh htk) only[go_sem,h6,h7,hg,hh,htk]
  have hL:(fun j=>if j=i then m+1 else if j<i then m+1 else m)=fun r=>if r<i+1 then m+1 else m:=by
   funext r
   by_cases e:r=i
   ·rw[if_pos e,if_pos (by omega)]
   ·rw[if_neg e]
    by_cases e2:r<i
    ·rw[if_pos e2,if_pos (by omega)]
    ·rw[if_neg e2,if_neg (by omega)]
  rw[Qys hi',hL]
  simp+decide (disch:=try exact D2 h6 h7) only[go_sem,h6,h7]
  refine Qak (R-(i+1)) (by omega) ⟨i+1,rfl,by omega,?_⟩
  simp+decide (disch:=try exact D4 h6 h2 hh h20) only[go_sem,h6,h2,hh,h20]
  refine⟨fun r hr=> ?_,fun r hr hr3=> ?_⟩
  ·by_cases e:r=i
   ·subst e;rw[if_pos rfl]
   ·rw[if_neg e];exact hr1 r (by omega)
  ·rw[if_neg (by omega)];exact hr2 r (by omega) hr3
 obtain rfl:R=i:=by omega
 have hW:(rws 5000000 R fun r=>if r<R then m+1 else m)=rws 5000000 R fun _=>m+1:=by
  refine List.ext_getElem (by simp[rws]) fun j h1 h2=> ?_
  have hj:j<R:=by simpa[rws]using h1
  rw[Qe1,Qe1,if_pos hj]
 rw[hW]at hg
 simp+decide (disch:=try exact D3 h6 h2 hg) only[go_sem,h6,h2,hg]
 refine Qch (Q89 (γ:=4000018) (ty:=22) (B:=5000000) (n:=R) (m:=m+1) (e':=3) (tyr:=51) (ys:=fun r=>Qh PV.rat (Qdt (Q3 l m) X m r) (m+1)) (T1 hg) (by omega) (fun r hr=>hr1 r hr) (fun r hr=>Qaa _ _ _)) ?_
 simp+decide (disch:=try exact D4 h6 h2 hg hh) only[go_sem,h6,h2,hg,hh]
 refine Qch (Qadm (γ:=4000018) (e:=1) (ty:=22) (n:=R) (xs:=Qh (fun r=>PV.sl 3 (Qh PV.rat (Qdt (Q3 l m) X m r) (m+1))) id R) (hb0:=⟨1,22,[],false⟩) 48 T0 (T1 h6) (T1 hh) (by rw[Qaa];omega) rfl (fun x hx=>by obtain⟨r,_,rfl⟩:=List.mem_map.1 hx;exact⟨rfl,rfl,fun c hc=>by rw[List.mem_singleton.1 hc];rfl⟩)) ?_
 simp+decide (disch:=try exact D4 h6 h2 hg hh) only[go_sem,h6,h2,hg,hh]
 refine Qch (Qiy 4000018 2000000 (Tr1 h20) (by omega) rfl (by omega)) ?_
 simp+decide (disch:=try exact D4 h6 h2 hg hh) only[go_sem,h6,h2,hg,hh]
 refine Qsm hP hech (by simp[Qlw]) Tr0 rfl (by simp) (by simp[PV.refs,PV.sref]) (by simp) (by simp) ?_
 obtain⟨E,hE⟩:∃E,Qaf R (Qdt (Q3 l m) X m) m=E:=⟨_,rfl⟩
 rw[hE]at hEp hEs hEb⊢
 have hDl:(Qh (PV.rowD (m+1)) E.M R).length=R:=Qaa _ _ _
 have hpl:(Qeg E.piv).length=E.piv.length:=by simp[Qeg]
 simp+decide (disch:=first|omega|rfl|(simp+decide only[go_sem,h2,Qfk,hpl]<;>rfl)|fail) only[go_sem,h2,Qfk,hpl]
 refine Qat (by repeat (first|exact Qw|exact Qo|exact Qp|exact Qq|exact Qr|apply Qn|apply Qv|apply Qz|apply Q6|apply Q7|apply Qk|apply Qu)) [(4,5),(9,9),(56,71)] [] (fun q J hp=>∃r,q=R-r/\E.piv.length<=r/\r<=R/\(∀j,E.piv.length<=j->j<r->E.M j m=0)/\J 9= .int .i64 (r:Nat)/\hp 2=some ⟨3,24,[PV.mat R m l],false⟩) (R-E.piv.length) ?_ ?_
 ·refine⟨E.piv.length,rfl,Nat.le_refl _,by omega,fun j h1 h2=>by omega,?_⟩
  simp+decide (disch:=first|omega|rfl|(simp+decide only[go_sem,h2,Qfk]<;>rfl)|fail) only[go_sem,h2,Qfk]
 rintro _ J2 hp2 ⟨r,rfl,hr,hrR,hz,i9,i2⟩
 simp+decide (disch:=try exact D3 i9 i2 hDl) only[go_sem,i9,i2,hDl]
 refine Qb (fun hc2=> ?_) (fun hc2=> ?_)
 ·have hr':r<R:=by omega
  have hb1:=hEb r hr' m (by omega)
  simp+decide (disch:=try exact D2 i9 i2) only[go_sem,i9,i2]
  refine Qa hP (Qtn (a:=E.M r m) (by omega)) rfl rfl rfl ?_
  simp+decide (disch:=try exact D1 i9) only[go_sem,i9]
  refine Qb (fun hq=> ?_) (fun hq=> ?_)
  ·have hq0:¬E.M r m=0:=fun e=>hq (Qb8.2 e)
   have hres:Qgj E R m= .tup [PV.rats [],.int .i64 13]:=if_neg fun h=>hq0 (h r hr' hr)
   simp+decide (disch:=try exact D0) only[go_sem]
   refine Qb9 (Qb1 ?_)
   simp+decide (disch:=try exact D1 hres) only[go_sem,hres]
   exact Qb2 rfl rfl rfl (show PV.le .nilS (.sl 3 [])from trivial) (Qy _)
  ·have hq0:E.M r m=0:=Decidable.byContradiction fun e=>hq fun h=>e (Qb8.1 h)
   simp+decide (disch:=try exact D1 i9) only[go_sem,i9]
   refine Qak (R-(r+1)) (by omega) ⟨r+1,rfl,by omega,by omega,fun j h1 h2=> ?_,?_⟩
   ·by_cases e:j=r
    ·rw[e];exact hq0
    ·exact hz j h1 (by omega)
   simp+decide (disch:=try exact D1 i2) only[go_sem,i2]
 ·obtain rfl:R=r:=by omega
  have hgd:∀j (h:j<E.piv.length),E.piv.getD j 0=E.piv[j]:=fun j h=>by
   rw[List.getD_eq_getElem?_getD,List.getElem?_eq_getElem h,Option.getD_some]
  have hhit:∀j (h:j<E.piv.length),Qde E.M E.piv m E.piv.length E.piv[j]=E.M j m:=fun j h=>by
   rw[<-hgd j h]
   refine Qwt (fun i hi hne=> ?_) _ h (Nat.le_refl _)
   rw[hgd i hi,hgd j h]
   rcases Nat.lt_or_gt_of_ne hne with h1|h1
   ·exact Nat.ne_of_lt (Qj0 hEs h1 h)
   ·exact Nat.ne_of_gt (Qj0 hEs h1 hi)
  have hmiss:∀c,(∀j (h:j<E.piv.length),E.piv[j]≠c)->Qde E.M E.piv m E.piv.length c=0:=fun c h=>Qts _ fun j hj=>by rw[hgd j hj];exact h j hj
  have hsu:∀k,(List.range (k+1)).map (Qde E.M E.piv m E.piv.length)=(List.range k).map (Qde E.M E.piv m E.piv.length)++[Qde E.M E.piv m E.piv.length k]:=fun k=>by
   rw[List.range_succ,List.map_append];rfl
  have hpRl:E.piv.length<=R:=by omega
  have hrf:∀f:Nat->Rat,(List.range m).map f=(List.range m).map f:=fun _=>rfl
  simp+decide (disch:=try exact D1 i2) only[go_sem,i2]
  refine Qd6 10 900 3 51 (by omega) T0 ?_
  simp+decide (disch:=try exact D1 i2) only[go_sem,i2]
  refine Qat (by repeat (first|exact Qw|exact Qo|exact Qp|exact Qq|exact Qr|apply Qn|apply Qv|apply Qz|apply Q6|apply Q7|apply Qk|apply Qu)) [(10,12),(72,106)] [99,100,105,106,900] (fun q J hp=>∃k p,q=m-k/\k<=m/\p<=E.piv.length/\(∀j (h:j<E.piv.length),j<p->E.piv[j]<k)/\(∀j (h:j<E.piv.length),p<=j->k<=E.piv[j])/\J 10= .ms 900 k/\J 11= .int .i64 (p:Nat)/\J 12= .int .i64 (k:Nat)/\hp 2=some ⟨3,24,[PV.mat R m l],false⟩/\
    hp 900=some ⟨3,51,((List.range k).map (Qde E.M E.piv m E.piv.length)).map PV.rat,false⟩) m ?_ ?_
  ·refine⟨0,0,rfl,by omega,by omega,by omega,by omega,?_⟩
   simp+decide (disch:=try exact D1 i2) only[go_sem,i2]
   exact⟨rfl,rfl,rfl⟩
  rintro _ J3 hp3 ⟨k,p,rfl,hk,hp1,hlo,hhi,k10,k11,k12,k2,kx⟩
  simp+decide (disch:=try exact D2 k12 k2) only[go_sem,k12,k2]
  refine Qb (fun hc3=> ?_) (fun hc3=> ?_)
  ·have hk':k<m:=by omega
   have hTl:((List.range k).map (Qde E.M E.piv m E.piv.length)).length=k:=by simp
   have hsk:=hsu k
   have hof:=Qge (x:=0) (by omega) (by omega)
   rw[show((0:Int):Rat)=0 from rfl]at hof
   have hzero:(∀j (h:j<E.piv.length),E.piv[j]≠k)->Qde E.M E.piv m E.piv.length k=0:=hmiss k
   simp+decide (disch:=try exact D1 k11) only[go_sem,k11]
   refine Qbq (fun hg1=> ?_) (fun hg1=> ?_)
   ·have hp':p<E.piv.length:=by omega
    have hpR:p<R:=by omega
    have hhp:=hhit p hp'
    have hge:=hhi p hp' (Nat.le_refl _)
    simp+decide (disch:=try exact D2 k11 k12) only[go_sem,k11,k12]
    refine Qb (fun he=> ?_) (fun he=> ?_)
    ·have hek:E.piv[p]=k:=by omega
     rw[hek]at hhp
     rw[hhp]at hsk
     have hlo':∀j (h:j<E.piv.length),j<p+1->E.piv[j]<k+1:=fun j h hj=>by
      by_cases e:j=p
      ·subst e;omega
      ·have:=hlo j h (by omega);omega
     have hhi':∀j (h:j<E.piv.length),p+1<=j->k+1<=E.piv[j]:=fun j h hj=>by
      have:=Qj0 hEs (show p<j by omega) h
      omega
     generalize(List.range k).map (Qde E.M E.piv m E.piv.length)=T at *
     simp+decide (disch:=try exact D5 k10 k11 k12 k2 kx) only[go_sem,k10,k11,k12,k2,kx]
     rw[Qaz (f:=PV.rat) (y:=E.M p m) (xs:=T) (ty':=51) (fz:=false) (T1 kx) T0 (by omega) hTl.symm (by omega) (by omega)]
     simp+decide (disch:=try exact D2 k11 k12) only[go_sem,k11,k12]
     refine Qak (m-(k+1)) (by omega) ⟨k+1,p+1,rfl,by omega,by omega,hlo',hhi',?_⟩
     rw[hsk]
     simp+decide (disch:=try exact D1 k2) only[go_sem,k2]
    ·have hne:∀j (h:j<E.piv.length),E.piv[j]≠k:=fun j h e=>by
      rcases Nat.lt_trichotomy j p with h1|h1|h1
      ·have:=hlo j h h1;omega
      ·subst h1;omega
      ·have:=Qj0 hEs h1 h;omega
     rw[hzero hne]at hsk
     have hlo':∀j (h:j<E.piv.length),j<p->E.piv[j]<k+1:=fun j h hj=>by have:=hlo j h hj;omega
     have hhi':∀j (h:j<E.piv.length),p<=j->k+1<=E.piv[j]:=fun j h hj=>by
      have:=hhi j h hj
      have:=hne j h
      omega
     generalize(List.range k).map (Qde E.M E.piv m E.piv.length)=T at *
     simp+decide (disch:=try exact D5 k10 k11 k12 k2 kx) only[go_sem,k10,k11,k12,k2,kx]
     refine Qa hP hof rfl rfl rfl ?_
     simp+decide (disch:=try exact D5 k10 k11 k12 k2 kx) only[go_sem,k10,k11,k12,k2,kx]
     rw[Qaz (f:=PV.rat) (y:=(0:Rat)) (xs:=T) (ty':=51) (fz:=false) (T1 kx) T0 (by omega) hTl.symm (by omega) (by omega)]
     simp+decide (disch:=try exact D2 k11 k12) only[go_sem,k11,k12]
     refine Qak (m-(k+1)) (by omega) ⟨k+1,p,rfl,by omega,by omega,hlo',hhi',?_⟩
     rw[hsk]
     simp+decide (disch:=try exact D2 k11 k2) only[go_sem,k11,k2]
   ·have hne:∀j (h:j<E.piv.length),E.piv[j]≠k:=fun j h e=>by have:=hlo j h (by omega);omega
    simp+decide (disch:=try exact D0) only[go_sem]
    rw[hzero hne]at hsk
    have hlo':∀j (h:j<E.piv.length),j<p->E.piv[j]<k+1:=fun j h hj=>by have:=hlo j h hj;omega
    have hhi':∀j (h:j<E.piv.length),p<=j->k+1<=E.piv[j]:=fun j h hj=>by
     have:=hhi j h hj
     have:=hne j h
     omega
    generalize(List.range k).map (Qde E.M E.piv m E.piv.length)=T at *
    simp+decide (disch:=try exact D5 k10 k11 k12 k2 kx) only[go_sem,k10,k11,k12,k2,kx]
    refine Qa hP hof rfl rfl rfl ?_
    simp+decide (disch:=try exact D5 k10 k11 k12 k2 kx) only[go_sem,k10,k11,k12,k2,kx]
    rw[Qaz (f:=PV.rat) (y:=(0:Rat)) (xs:=T) (ty':=51) (fz:=false) (T1 kx) T0 (by omega) hTl.symm (by omega) (by omega)]
    simp+decide (disch:=try exact D2 k11 k12) only[go_sem,k11,k12]
    refine Qak (m-(k+1)) (by omega) ⟨k+1,p,rfl,by omega,by omega,hlo',hhi',?_⟩
    rw[hsk]
    simp+decide (disch:=try exact D2 k11 k2) only[go_sem,k11,k2]
  ·obtain rfl:k=m:=by omega
   have hres:Qgj E R k= .tup [.sl 3 (Qh PV.rat (Qde E.M E.piv k E.piv.length) k),.int .i64 0]:=if_pos fun r h1 h2=>hz r h2 h1
   simp+decide (disch:=try exact D1 k10) only[go_sem,k10]
   refine Qb9 (Qb1 ?_)
   have hrm:((List.range k).map (Qde E.M E.piv k E.piv.length)).map PV.rat=Qh PV.rat (Qde E.M E.piv k E.piv.length) k:=by simp[Qh]
   rw[hrm]at kx
   simp+decide (disch:=try exact D1 kx) only[go_sem,kx]
   have hsn:Q8 hp3 (.mso 900 0 k)= .sl 3 (Qh PV.rat (Qde E.M E.piv k E.piv.length) k):=by
    simp only[Q8,Qaq,kx]
    rw[if_neg (by decide),List.drop_zero,List.take_of_length_le (by rw[Qaa];omega)]
   rw[hsn,hres]
   exact Qb2 rfl rfl rfl (Qy _) (Qy _)
theorem Qjb:PV.le .nilS (PV.rqs []):=trivial
theorem Qtt{x:Nat->Rat}{n:Nat}:PV.sl 3 (Qh PV.rat x n)=PV.rats ((List.range n).map x):=by rw[PV.rats,Qfe]
theorem Qn8{x y:Nat->Rat}{n k:Nat}(h:∀i,i<n->x i=y i)(hx:∀i,i<n->rs (x i)<=k)(hn:n<=100)(h1:1<=k)(hk:k<=2^24):Qd Tryz.prog 17 [.sl 3 (Qh PV.rat x n),.sl 3 (Qh PV.rat y n)] (· = .bool true):=by
 have e:(List.range n).map y=(List.range n).map x:=List.map_congr_left fun i hi=>(h i (List.mem_range.1 hi)).symm
 rw[Qtt,Qtt,e,Qlr]
 have hr:RRk k (((List.range n).map x).map qR):=RRk.of fun q hq=>by
  obtain⟨i,hi,rfl⟩:=List.mem_map.1 hq
  exact hx i (List.mem_range.1 hi)
 have:=Qpm hr hr (by omega) (by simp;omega) (by simp;omega)
 rwa[decide_eq_true rfl]at this
theorem Qpo{r c:Int}{l x:List RQ}(hl:Qbs l)(hx:Qbs x)(h:(Qbh r c l&&x.all Qdw)=false):Qd Tryz.prog 13 [PV.rmat r c l,PV.rqs x] (· = .tup [PV.rqs [],.int .i64 1]):=by
 refine Qcz Qt Tryz.func13 rfl Qrp (by simp[c13]) fun C hP=> ?_;simp only[c13,Zo,Zg,Zm,Zc,Zf,Zl,Zh,Zs,Zi,Zb,Zk,Zn,Zu,Zq,Zr,Zz]
 simp+decide (disch:=try exact D0) only[go_sem]
 refine Qa hP (Qox hl) rfl rfl rfl ?_
 cases hq:Qbh r c l
 ·simp+decide (disch:=try exact D0) only[go_sem]
  refine Qb9 (Qb1 ?_)
  simp+decide (disch:=try exact D0) only[go_sem]
  exact Qb2 rfl rfl rfl Qjb (Qy _)
 ·rw[hq,Bool.true_and]at h
  simp+decide (disch:=try exact D0) only[go_sem]
  refine Qa hP (Qg1 hx) rfl rfl rfl ?_
  rw[h]
  simp+decide (disch:=try exact D0) only[go_sem]
  refine Qb9 (Qb1 ?_)
  simp+decide (disch:=try exact D0) only[go_sem]
  exact Qb2 rfl rfl rfl Qjb (Qy _)
theorem Q0u{r c:Int}{l x:List RQ}(hl:Qbs l)(hx:Qbs x)(h1:Qbh r c l=true)(h2:x.all Qdw=true)(hne:¬(x.length:Int)=r):Qd Tryz.prog 13 [PV.rmat r c l,PV.rqs x] (· = .tup [PV.rqs [],.int .i64 16]):=by
 have hxl:=hx.1
 refine Qcz Qt Tryz.func13 rfl Qrp (by simp[c13]) fun C hP=> ?_;simp only[c13,Zo,Zg,Zm,Zc,Zf,Zl,Zh,Zs,Zi,Zb,Zk,Zn,Zu,Zq,Zr,Zz]
 simp+decide (disch:=try exact D0) only[go_sem]
 refine Qa hP (Qox hl) rfl rfl rfl ?_
 rw[h1]
 simp+decide (disch:=try exact D0) only[go_sem]
 refine Qa hP (Qg1 hx) rfl rfl rfl ?_
 rw[h2]
 simp+decide (disch:=try exact D1 hne) only[go_sem,hne]
 refine Qb9 (Qb1 ?_)
 simp+decide (disch:=try exact D0) only[go_sem]
 exact Qb2 rfl rfl rfl Qjb (Qy _)
theorem Q4f{m K:Nat}{M:MF}(hm:m<=40)(hK:K<=2^20)(hB:Qhh K 0 m m M):Qd Tryz.prog 14 [PV.mat 0 m [],PV.rats []] (· =Qgj (Qaf 0 M m) 0 m):=by
 have c1:=Qk7 (l:=[]) (R:=0) (m:=m) (by simp) (by omega) (show m<=40 by omega) (by intro q hq;cases hq)
 have hnm:Qd Tryz.prog 58 [PV.rats []] (· = .bool true):=Qhk (l:=([]:List Rat).map qR) (Qm6 (by simp) (k:=3) (by omega) (by intro q hq;cases hq))
 have hrw:=Qyp (l:=[]) (R:=0) (m:=m) (by simp) (by omega) (by omega)
 have hech:=Qm5 (ty:=22) (w:=m) (n:=m) (by omega) (by omega) (Nat.le_refl _) hK hB
 have hEp:=Qdn 0 M m
 obtain⟨E,hE⟩:∃E,Qaf 0 M m=E:=⟨_,rfl⟩
 rw[hE]at hech hEp⊢
 have hpl:E.piv.length=0:=by omega
 have hpl2:(Qeg E.piv).length=0:=by simp[Qeg,hpl]
 have hres:Qgj E 0 m= .tup [.sl 3 (Qh PV.rat (fun _=>0) m),.int .i64 0]:=by
  unfold Qgj
  rw[if_pos fun r h=>absurd h (by omega),hpl]
  rfl
 rw[hres]
 refine Qcz Qt Tryz.func14 rfl Qrq (by simp[c14]) fun C hP=> ?_;simp only[c14,Zo,Zg,Zm,Zc,Zf,Zl,Zh,Zs,Zi,Zb,Zk,Zn,Zu,Zq,Zr,Zz]
 simp+decide (disch:=try exact D0) only[go_sem]
 refine Qa hP c1 rfl rfl rfl ?_
 simp+decide (disch:=try exact D0) only[go_sem]
 refine Qa hP hnm rfl rfl rfl ?_
 simp+decide (disch:=try exact D0) only[go_sem]
 refine Qlx hP hrw Tr0 (by simp) rfl (by simp) ?_
 simp+decide (disch:=try exact D0) only[go_sem]
 refine Qat (by repeat (first|exact Qw|exact Qo|exact Qp|exact Qq|exact Qr|apply Qn|apply Qv|apply Qz|apply Q6|apply Q7|apply Qk|apply Qu)) [(6,7),(28,46)] [44,45] (fun q J hp=>J 6= .ms 2000000 0/\J 7= .int .i64 0/\hp 2=some ⟨3,24,[PV.mat 0 m []],false⟩/\hp 2000000=some ⟨1,22,Qh (PV.rowD m) (Q3 [] m) 0,false⟩) 0 ?_ ?_
 ·simp+decide (disch:=try exact D0) only[go_sem]
 rintro _ J h ⟨j6,j7,h2,hh⟩
 simp+decide (disch:=try exact D3 j6 j7 h2) only[go_sem,j6,j7,h2]
 refine Qch (Wk.refl _ _) ?_
 refine Qch (Wk.refl _ _) ?_
 refine Qch (Wk.refl _ _) ?_
 simp+decide (disch:=try exact D3 j6 j7 h2) only[go_sem,j6,j7,h2]
 refine Qsm hP hech (by simp[Qlw]) (Tr1 hh) rfl (by simp) (by simp[PV.refs,PV.sref]) (by simp) (by simp) ?_
 simp+decide (disch:=first|omega|rfl|(simp+decide only[go_sem,h2,Qfk,hpl2]<;>rfl)|fail) only[go_sem,h2,Qfk,hpl2]
 refine Qat (by repeat (first|exact Qw|exact Qo|exact Qp|exact Qq|exact Qr|apply Qn|apply Qv|apply Qz|apply Q6|apply Q7|apply Qk|apply Qu)) [(4,5),(9,9),(56,71)] [] (fun q J hp=>J 9= .int .i64 0/\hp 2=some ⟨3,24,[PV.mat 0 m []],false⟩) 0 ?_ ?_
 ·simp+decide (disch:=first|omega|rfl|(simp+decide only[go_sem,h2,Qfk]<;>rfl)|fail) only[go_sem,h2,Qfk]
  try rfl
 rintro _ J2 hp2 ⟨i9,i2⟩
 have hD0:(Qh (PV.rowD m) E.M 0).length=0:=Qaa _ _ _
 simp+decide (disch:=try exact D3 i9 i2 hD0) only[go_sem,i9,i2,hD0]
 refine Qd6 10 900 3 51 (by omega) T0 ?_
 simp+decide (disch:=try exact D1 i2) only[go_sem,i2]
 have hof:=Qge (x:=0) (by omega) (by omega)
 rw[show((0:Int):Rat)=0 from rfl]at hof
 refine Qat (by repeat (first|exact Qw|exact Qo|exact Qp|exact Qq|exact Qr|apply Qn|apply Qv|apply Qz|apply Q6|apply Q7|apply Qk|apply Qu)) [(10,12),(72,106)] [99,100,105,106,900] (fun q J hp=>∃k,q=m-k/\k<=m/\J 10= .ms 900 k/\J 11= .int .i64 0/\J 12= .int .i64 (k:Nat)/\hp 2=some ⟨3,24,[PV.mat 0 m []],false⟩/\hp 900=some ⟨3,51,((List.range k).map (fun _=>(0:Rat))).map PV.rat,false⟩) m ?_ ?_
 ·refine⟨0,rfl,by omega,?_⟩
  simp+decide (disch:=try exact D1 i2) only[go_sem,i2]
  exact⟨rfl,rfl⟩
 rintro _ J3 hp3 ⟨k,rfl,hk,k10,k11,k12,k2,kx⟩
 simp+decide (disch:=try exact D2 k12 k2) only[go_sem,k12,k2]
 refine Qb (fun hc3=> ?_) (fun hc3=> ?_)
 ·have hTl:((List.range k).map (fun _=>(0:Rat))).length=k:=by simp
  have hsk:(List.range (k+1)).map (fun _=>(0:Rat))=(List.range k).map (fun _=>(0:Rat))++[0]:=by rw[List.range_succ,List.map_append];rfl
  generalize(List.range k).map (fun _=>(0:Rat))=T at *
  simp+decide (disch:=try exact D6 k10 k11 k12 k2 kx hpl2) only[go_sem,k10,k11,k12,k2,kx,hpl2]
  refine Qa hP hof rfl rfl rfl ?_
  simp+decide (disch:=try exact D5 k10 k11 k12 k2 kx) only[go_sem,k10,k11,k12,k2,kx]
  rw[Qaz (f:=PV.rat) (y:=(0:Rat)) (xs:=T) (ty':=51) (fz:=false) (T1 kx) T0 (by omega) hTl.symm (by omega) (by omega)]
  simp+decide (disch:=try exact D2 k11 k12) only[go_sem,k11,k12]
  refine Qak (m-(k+1)) (by omega) ⟨k+1,rfl,by omega,?_⟩
  rw[hsk]
  simp+decide (disch:=try exact D2 k11 k2) only[go_sem,k11,k2]
 ·obtain rfl:k=m:=by omega
  simp+decide (disch:=try exact D1 k10) only[go_sem,k10]
  refine Qb9 (Qb1 ?_)
  have hrm:((List.range k).map (fun _=>(0:Rat))).map PV.rat=Qh PV.rat (fun _=>0) k:=by simp[Qh]
  rw[hrm]at kx
  simp+decide (disch:=try exact D1 kx) only[go_sem,kx]
  have hsn:Q8 hp3 (.mso 900 0 k)= .sl 3 (Qh PV.rat (fun _=>(0:Rat)) k):=by
   simp only[Q8,Qaq,kx]
   rw[if_neg (by decide),List.drop_zero,List.take_of_length_le (by rw[Qaa];omega)]
  rw[hsn]
  exact Qb2 rfl rfl rfl (Qy _) (Qy _)
theorem Qn9{r c:Int}{l x:List RQ}(hl:Qbs l)(hx:Qbs x)(h:(Qbh r c l&&x.all Qdw)=false):Qd Tryz.prog 14 [PV.rmat r c l,PV.rqs x] (· = .tup [PV.rqs [],.int .i64 1]):=by
 refine Qcz Qt Tryz.func14 rfl Qrq (by simp[c14]) fun C hP=> ?_;simp only[c14,Zo,Zg,Zm,Zc,Zf,Zl,Zh,Zs,Zi,Zb,Zk,Zn,Zu,Zq,Zr,Zz]
 simp+decide (disch:=try exact D0) only[go_sem]
 refine Qa hP (Qm3 hl) rfl rfl rfl ?_
 cases hq:Qbh r c l
 ·simp+decide (disch:=try exact D0) only[go_sem]
  refine Qb9 (Qb1 ?_)
  simp+decide (disch:=try exact D0) only[go_sem]
  exact Qb2 rfl rfl rfl Qjb (Qy _)
 ·rw[hq,Bool.true_and]at h
  simp+decide (disch:=try exact D0) only[go_sem]
  refine Qa hP (Qhk hx) rfl rfl rfl ?_
  rw[h]
  simp+decide (disch:=try exact D0) only[go_sem]
  refine Qb9 (Qb1 ?_)
  simp+decide (disch:=try exact D0) only[go_sem]
  exact Qb2 rfl rfl rfl Qjb (Qy _)
theorem Qxr{r c:Int}{l x:List RQ}(hl:Qbs l)(hx:Qbs x)(h1:Qbh r c l=true)(h2:x.all Qdw=true)(hne:¬(x.length:Int)=r):Qd Tryz.prog 14 [PV.rmat r c l,PV.rqs x] (· = .tup [PV.rqs [],.int .i64 16]):=by
 have hxl:=hx.1
 refine Qcz Qt Tryz.func14 rfl Qrq (by simp[c14]) fun C hP=> ?_;simp only[c14,Zo,Zg,Zm,Zc,Zf,Zl,Zh,Zs,Zi,Zb,Zk,Zn,Zu,Zq,Zr,Zz]
 simp+decide (disch:=try exact D0) only[go_sem]
 refine Qa hP (Qm3 hl) rfl rfl rfl ?_
 rw[h1]
 simp+decide (disch:=try exact D0) only[go_sem]
 refine Qa hP (Qhk hx) rfl rfl rfl ?_
 rw[h2]
 simp+decide (disch:=try exact D1 hne) only[go_sem,hne]
 refine Qb9 (Qb1 ?_)
 simp+decide (disch:=try exact D0) only[go_sem]
 exact Qb2 rfl rfl rfl Qjb (Qy _)
theorem Q4g{E:MF}{piv:List Nat}{k:Nat}:Qck E piv (k+1)=Qck E piv k++(if piv.contains k then []else [Qev E piv k piv.length]):=by
 unfold Qck
 rw[Qrm,List.map_append]
 cases piv.contains k<;>rfl
theorem Q4h{R m K:Nat}{l:List Rat}(hl:l.length=R*m)(hR2:R<=40)(hm:m<=40)(hs:∀q∈l,rs q<=1048576)(hK:K<=2^20)(hB:Qhh K R m m (Q3 l m)):
  Qd Tryz.prog 16 [PV.mat R m l] (· = .tup [PV.rowsL m (Qck (Qaf R (Q3 l m) m).M (Qaf R (Q3 l m) m).piv m),.int .i64 0]):=by
 have hEp:=Qdn R (Q3 l m) m
 have hEb:=(hB m (Nat.le_refl _)).1
 have hech:=Qm5 (ty:=22) (w:=m) hR2 hm (Nat.le_refl _) hK hB
 obtain⟨E,hE⟩:∃E,Qaf R (Q3 l m) m=E:=⟨_,rfl⟩
 rw[hE]at hEp hEb hech⊢
 have hDl:(Qh (PV.rowD m) E.M R).length=R:=Qaa _ _ _
 have hpl:(Qeg E.piv).length=E.piv.length:=by simp[Qeg]
 have hof0:=Qge (x:=0) (by omega) (by omega)
 rw[show((0:Int):Rat)=0 from rfl]at hof0
 have hof1:=Qge (x:=1) (by omega) (by omega)
 rw[show((1:Int):Rat)=1 from rfl]at hof1
 obtain⟨z,hz⟩:∃z:Rat,z=0:=⟨_,rfl⟩
 obtain⟨u,hu⟩:∃u:Rat,u=1:=⟨_,rfl⟩
 rw[<-hz]at hof0
 rw[<-hu]at hof1
 refine Qi Qt Tryz.func16 rfl Q4a (by simp[c16]) fun C hP=> ?_;simp only[c16,Zo,Zg,Zm,Zc,Zf,Zl,Zh,Zs,Zi,Zb,Zk,Zn,Zu,Zq,Zr,Zz]
 simp+decide (disch:=try exact D0) only[go_sem]
 refine Qa hP (Qk7 hl hR2 hm hs) rfl rfl rfl ?_
 simp+decide (disch:=try exact D0) only[go_sem]
 refine Qlx hP (Qyp hl hR2 hm) Tr0 (by simp) rfl (by simp) ?_
 simp+decide (disch:=try exact D0) only[go_sem]
 refine Qsm hP hech (by simp[Qlw]) T0 rfl (by simp) (by simp[PV.refs,PV.sref]) (by simp) (by simp) ?_
 simp+decide (disch:=first|omega|rfl|(simp+decide only[go_sem,Qfk]<;>rfl)|fail) only[go_sem,Qfk]
 refine Qd6 6 900 1 22 (by omega) T0 ?_
 refine Qai (by repeat (first|exact Qw|exact Qo|exact Qp|exact Qq|exact Qr|apply Qn|apply Qv|apply Qz|apply Q6|apply Q7|apply Qk|apply Qu)) [(6,11),(23,79)] [31,78,79,900] (fun q J hp=>∃k,q=m-k/\k<=m/\J 6= .ms 900 (Qck E.M E.piv k).length/\J 7= .int .i64 (k:Nat)/\hp 1=some ⟨3,24,[PV.mat R m l],false⟩/\hp 900=some ⟨1,22,(Qck E.M E.piv k).map (PV.rowD m),false⟩) m ?_ ?_
 ·refine⟨0,rfl,by omega,?_⟩
  simp+decide (disch:=first|omega|rfl|(simp+decide only[go_sem,Qfk]<;>rfl)|fail) only[go_sem,Qfk]
  exact⟨rfl,rfl,rfl⟩
 rintro _ J h ⟨k,rfl,hk,j6,j7,h1,h9⟩
 simp+decide (disch:=try exact D2 j7 h1) only[go_sem,j7,h1]
 refine Qb (fun hc=> ?_) (fun hc=> ?_)
 ·have hk':k<m:=by omega
  have hkl:=Q4g (E:=E.M) (piv:=E.piv) (k:=k)
  have hkn:(Qck E.M E.piv k).length<=k:=by
   unfold Qck Qex
   rw[List.length_map]
   have:=List.length_filter_le (fun x=> !E.piv.contains x) (List.range k)
   rw[List.length_range]at this
   exact this
  simp+decide (disch:=try exact D2 j7 h1) only[go_sem,j7,h1]
  refine Qai (by repeat (first|exact Qw|exact Qo|exact Qp|exact Qq|exact Qr|apply Qn|apply Qv|apply Qz|apply Q6|apply Q7|apply Qk|apply Qu)) [(10,10),(32,41)] [] (fun q J2 hp=>∃i xs,q=m-i/\i<=m/\J2 10= .int .i64 (i:Nat)/\xs.length=m/\hp 31=some ⟨3,51,xs,false⟩/\(∀j,j<i->xs[j]? =some (PV.rat z))/\hp 1=some ⟨3,24,[PV.mat R m l],false⟩/\hp 900=some ⟨1,22,(Qck E.M E.piv k).map (PV.rowD m),false⟩) m ?_ ?_
  ·refine⟨0,List.replicate m (.agg [.bool false,.nilS,.nilS]),rfl,by omega,?_⟩
   simp+decide (disch:=try exact D2 h1 h9) only[go_sem,h1,h9]
   exact⟨rfl,by simp,fun j hj=>by omega⟩
  rintro _ J2 h2 ⟨i,xs,rfl,hi,i10,hxl,i31,hx,i1,i9⟩
  simp+decide (disch:=try exact D2 i10 i1) only[go_sem,i10,i1]
  refine Qb (fun hg=> ?_) (fun hg=> ?_)
  ·have hi':i<m:=by omega
   simp+decide (disch:=try exact D1 i10) only[go_sem,i10]
   refine Qa hP hof0 rfl rfl rfl ?_
   simp+decide (disch:=try exact D2 i10 i31) only[go_sem,i10,i31]
   rw[Qe5 (n:=3) (xs:=xs) (v:=PV.rat z) (by omega) rfl rfl]
   simp+decide (disch:=try exact D1 i10) only[go_sem,i10]
   refine Qab (m-(i+1)) (by omega) ⟨i+1,xs.set i (PV.rat z),rfl,by omega,?_⟩
   simp+decide (disch:=try exact D2 i1 i9) only[go_sem,i1,i9]
   refine⟨by simp[hxl],fun j hj=> ?_⟩
   rw[List.getElem?_set]
   by_cases e:i=j
   ·rw[if_pos e,if_pos (by omega)]
   ·rw[if_neg e];exact hx j (by omega)
  have hxe:xs=Qh PV.rat (fun _=>z) m:=by
   refine List.ext_getElem (by simp[Qh,hxl]) fun j h1 h2=> ?_
   have:=hx j (by omega)
   rw[List.getElem?_eq_getElem h1]at this
   rw[Qc7];exact Option.some.inj this
  rw[hxe]at i31
  simp (disch:=decide) only[Qbu,Qcf,Qkz]
  simp+decide (disch:=try exact D1 j7) only[go_sem,j7]
  refine Qa hP hof1 rfl rfl rfl ?_
  simp+decide (disch:=try exact D2 i31 j7) only[go_sem,i31,j7]
  rw[Qfm hk']
  simp+decide (disch:=try exact D2 i31 j7) only[go_sem,i31,j7]
  have hPm:∀j (h:j<E.piv.length),E.piv[j]<m:=fun j h=>hEp.2.2 _ (List.getElem_mem h)
  refine Qai (by repeat (first|exact Qw|exact Qo|exact Qp|exact Qq|exact Qr|apply Qn|apply Qv|apply Qz|apply Q6|apply Q7|apply Qk|apply Qu)) [(8,8),(11,11),(46,74)] [] (fun q J3 hp=>∃j b,q=E.piv.length-j/\j<=E.piv.length/\(b=true↔∀t (h:t<E.piv.length),t<j->E.piv[t]≠k)/\J3 8= .bool b/\J3 11= .int .i64 (j:Nat)/\hp 1=some ⟨3,24,[PV.mat R m l],false⟩/\hp 31=some ⟨3,51,Qh PV.rat (Qev E.M E.piv k j) m,false⟩/\hp 900=some ⟨1,22,(Qck E.M E.piv k).map (PV.rowD m),false⟩) E.piv.length ?_ ?_
  ·refine⟨0,true,rfl,by omega,?_⟩
   have e0:(fun c=>if c=k then u else z)=Qev E.M E.piv k 0:=by rw[hu,hz];rfl
   simp+decide (disch:=try exact D3 i1 i9 e0) only[go_sem,i1,i9,e0]
   exact⟨⟨fun _ t h h0=>by omega,fun _=>trivial⟩,rfl⟩
  rintro _ J3 h3 ⟨j,b,rfl,hj,hb,q8,q11,q1,q31,q9⟩
  simp+decide (disch:=try exact D1 q11) only[go_sem,q11]
  refine Qb (fun hg=> ?_) (fun hg=> ?_)
  ·have hj':j<E.piv.length:=by omega
   have hjR:j<R:=by omega
   have hjm:=hPm j hj'
   have hbd:=hEb j hjR k hk'
   have hng:=Qwg (a:=E.M j k) (k:=K) hbd (by omega)
   have hst:(fun c=>if c=E.piv[j]then -(E.M j k)else Qev E.M E.piv k j c)=Qev E.M E.piv k (j+1):=by
    funext c
    show _=if c=E.piv.getD j 0 then _ else _
    rw[List.getD_eq_getElem?_getD,List.getElem?_eq_getElem hj',Option.getD_some]
   have hb1:∀b',(b'=true↔b=true/\E.piv[j]≠k)->(b'=true↔∀t (h:t<E.piv.length),t<j+1->E.piv[t]≠k):=fun b' h=>by
    rw[h,hb]
    refine⟨fun⟨h1,h2⟩ t ht htj=> ?_,fun h=>⟨fun t ht htj=>h t ht (by omega),h j hj' (by omega)⟩⟩
    by_cases e:t=j
    ·subst e;exact h2
    ·exact h1 t ht (by omega)
   cases b
   ·have hb2:=hb1 false (by simp)
    simp+decide (disch:=try exact D4 q8 q11 q31 j7) only[go_sem,q8,q11,q31,j7]
    refine Qa hP hng rfl rfl rfl ?_
    simp+decide (disch:=try exact D4 q8 q11 q31 j7) only[go_sem,q8,q11,q31,j7]
    rw[Qfm (v:= -(E.M j k)) hjm,hst]
    simp+decide (disch:=try exact D1 q11) only[go_sem,q11]
    refine Qab (E.piv.length-(j+1)) (by omega) ⟨j+1,_,rfl,by omega,hb2,?_⟩
    simp+decide (disch:=try exact D2 q1 q9) only[go_sem,q1,q9]
   ·by_cases hq:E.piv[j]=k
    ·have hb2:=hb1 false (by simp[hq])
     have hqi:((E.piv[j]:Nat):Int)=(k:Int):=by omega
     have hst2:(fun c=>if c=k then -(E.M j k)else Qev E.M E.piv k j c)=Qev E.M E.piv k (j+1):=by rw[<-hst,hq]
     simp+decide (disch:=try exact D5 q8 q11 q31 j7 hqi) only[go_sem,q8,q11,q31,j7,hqi]
     refine Qa hP hng rfl rfl rfl ?_
     simp+decide (disch:=try exact D4 q8 q11 q31 j7) only[go_sem,q8,q11,q31,j7]
     rw[Qfm (v:= -(E.M j k)) hk',hst2]
     simp+decide (disch:=try exact D1 q11) only[go_sem,q11]
     refine Qab (E.piv.length-(j+1)) (by omega) ⟨j+1,_,rfl,by omega,hb2,?_⟩
     simp+decide (disch:=try exact D2 q1 q9) only[go_sem,q1,q9]
    ·have hb2:=hb1 true (by simp[hq])
     have hqi:¬((E.piv[j]:Nat):Int)=(k:Int):=by omega
     simp+decide (disch:=try exact D5 q8 q11 q31 j7 hqi) only[go_sem,q8,q11,q31,j7,hqi]
     refine Qa hP hng rfl rfl rfl ?_
     simp+decide (disch:=try exact D4 q8 q11 q31 j7) only[go_sem,q8,q11,q31,j7]
     rw[Qfm (v:= -(E.M j k)) hjm,hst]
     simp+decide (disch:=try exact D1 q11) only[go_sem,q11]
     refine Qab (E.piv.length-(j+1)) (by omega) ⟨j+1,_,rfl,by omega,hb2,?_⟩
     simp+decide (disch:=try exact D2 q1 q9) only[go_sem,q1,q9]
  ·obtain rfl:j=E.piv.length:=by omega
   simp (disch:=decide) only[Qbu,Qcf,Qkz]
   have hrl:(Qh PV.rat (Qev E.M E.piv k E.piv.length) m).length=m:=Qaa _ _ _
   cases b
   ·have hct:E.piv.contains k=true:=by
     refine Bool.not_eq_false _▸fun hcf=> ?_
     have:(false=true):=hb.2 fun t ht _ e=>by
      have:=List.contains_iff_mem.2 (e▸List.getElem_mem ht)
      rw[hcf]at this;cases this
     cases this
    rw[hct,if_pos rfl,List.append_nil]at hkl
    simp+decide (disch:=try exact D3 q8 j6 j7) only[go_sem,q8,j6,j7]
    refine Qab (m-(k+1)) (by omega) ⟨k+1,rfl,by omega,?_⟩
    rw[hkl]
    simp+decide (disch:=try exact D3 q1 q9 j6) only[go_sem,q1,q9,j6]
   ·have hct:E.piv.contains k=false:=by
     refine Bool.eq_false_iff.2 fun h=> ?_
     obtain⟨t,ht,htk⟩:=List.getElem_of_mem (List.contains_iff_mem.1 h)
     exact hb.1 rfl t ht ht htk
    rw[hct,if_neg (by decide)]at hkl
    simp+decide (disch:=try exact D3 q8 j6 j7) only[go_sem,q8,j6,j7]
    rw[Q9n (e':=3) (ty':=51) (xs:=Qh PV.rat (Qev E.M E.piv k E.piv.length) m) (fz:=false) (T1 q31),List.take_of_length_le (by omega)]
    simp+decide (disch:=try exact D3 q8 j6 j7) only[go_sem,q8,j6,j7]
    rw[Qaz (f:=PV.rowD m) (y:=Qev E.M E.piv k E.piv.length) (xs:=Qck E.M E.piv k) (ty':=22) (fz:=false) (U1 q9) Ur0 (by omega) rfl (by omega) (by omega)]
    simp+decide (disch:=try exact D1 j7) only[go_sem,j7]
    refine Qab (m-(k+1)) (by omega) ⟨k+1,rfl,by omega,?_⟩
    rw[hkl]
    rw[List.length_append]
    simp+decide (disch:=try exact E1 q1) only[go_sem,q1,Qac,List.contains_cons,List.contains_nil,List.flatMap_cons,List.flatMap_nil,List.append_nil]
 ·obtain rfl:k=m:=by omega
  have hLl:((Qck E.M E.piv k).map (PV.rowD k)).length=(Qck E.M E.piv k).length:=List.length_map _
  simp+decide (disch:=try exact D1 j6) only[go_sem,j6]
  have hsn:Q8 h (.mso 900 0 (Qck E.M E.piv k).length)=PV.rowsL k (Qck E.M E.piv k):=by
   simp only[Q8,Qaq,h9]
   rw[if_neg (by decide),List.drop_zero,List.take_of_length_le (by rw[List.length_map];exact Nat.le_refl _)]
  rw[hsn]
  exact Qb2 rfl rfl rfl (Qy _) (Qy _)
theorem Q0v{m:Nat}{L:List (Nat->Rat)}:PV.rowsL m L= .sl 1 (Qh (PV.rowD m) (fun i=>L.getD i fun _=>0) L.length):=by
 have e:L.map (PV.rowD m)=Qh (PV.rowD m) (fun i=>L.getD i fun _=>0) L.length:=by
  refine List.ext_getElem (by simp[Qh]) fun j h1 h2=> ?_
  have hj:j<L.length:=by rw[List.length_map]at h1;exact h1
  rw[Qc7,List.getElem_map,List.getD_eq_getElem?_getD,List.getElem?_eq_getElem hj,Option.getD_some]
 rw[PV.rowsL,e]
theorem Qyt{E:MF}{piv:List Nat}{k K R:Nat}(hK:1<=K)(hE:∀r,r<R->rs (E r k)<=K):∀j,j<=R->∀c,rs (Qev E piv k j c)<=K
 |0,_,c=>by
  have h0:=Qp2
  have h1:=Qse
  simp only[Qev]
  split<;>omega
 |j+1,hj,c=>by
  simp only[Qev]
  split
  ·rw[Qlp];exact hE j (by omega)
  ·exact Qyt hK hE j (by omega) c
theorem Qyu{E:MF}{piv:List Nat}{m K R:Nat}(hK:1<=K)(hE:∀r,r<R->rs (E r m)<=K):∀j,j<=R->∀c,rs (Qde E piv m j c)<=K
 |0,_,c=>by
  have h0:=Qp2
  simp only[Qde];omega
 |j+1,hj,c=>by
  simp only[Qde]
  split
  ·exact hE j (by omega)
  ·exact Qyu hK hE j (by omega) c
theorem Qyv{M:MF}{x:Nat->Rat}{m k:Nat}(hM:∀r c,rs (M r c)<=k)(hx:∀r,rs (x r)<=k)(r c:Nat):rs (Qdt M x m r c)<=k:=by
 unfold Qdt;split
 ·exact hx r
 ·exact hM r c
theorem Qxs{R m k:Nat}{l b:List Rat}(hl:l.length=R*m)(hlb:b.length=R)(h25:R*m<=25)(hR:R<=40)(hm:m<=40)(hs:∀q∈l,rs q<=k)(hsb:∀q∈b,rs q<=k)(h1:1<=k)(hk:k<=300):
  Qd Tryz.prog 13 [PV.mat R m l,PV.rats b] (· =Qgj (Qaf R (Qdt (Q3 l m) (Qdq b) m) m) R m)/\MBd (k*3125) R (m+1) (Qaf R (Qdt (Q3 l m) (Qdq b) m) m).M:=by
 have hB:Qhh (k*3125) R (m+1) m (Qdt (Q3 l m) (Qdq b) m):=Qo1 h1 (fun r _ c _=>Qyv (fun r c=>Qsn h1 hs) (Qws h1 hsb) r c) (by omega) (Qso h25)
 refine⟨?_,(hB m (Nat.le_refl _)).1⟩
 by_cases hR0:R=0
 ·subst hR0
  obtain rfl:l=[]:=List.eq_nil_of_length_eq_zero (by omega)
  obtain rfl:b=[]:=List.eq_nil_of_length_eq_zero (by omega)
  exact Q9f hm
 ·have hm25:m<=25:=by
   have:1*m<=R*m:=Nat.mul_le_mul_right _ (by omega)
   omega
  exact Qadt hl hlb (by omega) hR (by omega) (fun q hq=>by have:=hs q hq;omega) (fun q hq=>by have:=hsb q hq;omega) (by omega) hB
theorem Qwu{R m k:Nat}{l b:List Rat}(hl:l.length=R*m)(hlb:b.length=R)(h25:R*m<=25)(hR:R<=40)(hm:m<=40)(hs:∀q∈l,rs q<=k)(hsb:∀q∈b,rs q<=k)(h1:1<=k)(hk:k<=300):
  Qd Tryz.prog 14 [PV.mat R m l,PV.rats b] (· =Qgj (Qaf R (Qdt (Q3 l m) (Qdq b) m) m) R m)/\MBd (k*3125) R (m+1) (Qaf R (Qdt (Q3 l m) (Qdq b) m) m).M:=by
 have hB:Qhh (k*3125) R (m+1) m (Qdt (Q3 l m) (Qdq b) m):=Qo1 h1 (fun r _ c _=>Qyv (fun r c=>Qsn h1 hs) (Qws h1 hsb) r c) (by omega) (Qso h25)
 refine⟨?_,(hB m (Nat.le_refl _)).1⟩
 by_cases hR0:R=0
 ·subst hR0
  obtain rfl:l=[]:=List.eq_nil_of_length_eq_zero (by omega)
  obtain rfl:b=[]:=List.eq_nil_of_length_eq_zero (by omega)
  exact Q4f (K:=k*3125) hm (by omega) (Qo1 h1 (fun r hr=>by omega) (Nat.le_refl _) (by simp))
 ·have hm25:m<=25:=by
   have:1*m<=R*m:=Nat.mul_le_mul_right _ (by omega)
   omega
  exact Q9g hl hlb (by omega) hR (by omega) (fun q hq=>by have:=hs q hq;omega) (fun q hq=>by have:=hsb q hq;omega) (by omega) hB
theorem Qsp{r c:Int}{l x:List RQ}(hl:Qbs l)(hx:Qbs x)(h:(Qc9 l 25&&Qc9 x 8)=false):Qd Tryz.prog 3 [PV.rmat r c l,PV.rqs x] (· = .bool true):=by
 have hsm:=Qwk (l:=[⟨r,c,l⟩]) (by simpa using hl) (by simp)
 simp only[List.all_cons,List.all_nil,Bool.and_true]at hsm
 have hsx:=Qp5 (n:=8) hx
 cases h1:Qc9 l 25
 ·rw[h1]at hsm
  refine Qi Qt Tryz.func3 rfl Q0f (by simp[c3]) fun C hP=> ?_;simp only[c3,Zo,Zg,Zm,Zc,Zf,Zl,Zh,Zs,Zi,Zb,Zk,Zn,Zu,Zq,Zr,Zz]
  simp+decide (disch:=try exact D0) only[go_sem]
  refine Qdj hP hsm Ur0 rfl ?_
  simp+decide (disch:=try exact E0) only[go_sem,Qac,List.contains_cons,List.contains_nil,List.flatMap_cons,List.flatMap_nil,List.append_nil]
  refine Qa hP Qp6 rfl rfl rfl ?_
  simp+decide (disch:=try exact E0) only[go_sem,Qac,List.contains_cons,List.contains_nil,List.flatMap_cons,List.flatMap_nil,List.append_nil]
  exact Qc rfl rfl
 rw[h1]at hsm
 rw[h1,Bool.true_and]at h
 rw[h]at hsx
 refine Qi Qt Tryz.func3 rfl Q0f (by simp[c3]) fun C hP=> ?_;simp only[c3,Zo,Zg,Zm,Zc,Zf,Zl,Zh,Zs,Zi,Zb,Zk,Zn,Zu,Zq,Zr,Zz]
 simp+decide (disch:=try exact D0) only[go_sem]
 refine Qdj hP hsm Ur0 rfl ?_
 simp+decide (disch:=try exact E0) only[go_sem,Qac,List.contains_cons,List.contains_nil,List.flatMap_cons,List.flatMap_nil,List.append_nil]
 refine Qa hP hsx rfl rfl rfl ?_
 simp+decide (disch:=try exact E0) only[go_sem,Qac,List.contains_cons,List.contains_nil,List.flatMap_cons,List.flatMap_nil,List.append_nil]
 refine Qa hP Qp6 rfl rfl rfl ?_
 simp+decide (disch:=try exact E0) only[go_sem,Qac,List.contains_cons,List.contains_nil,List.flatMap_cons,List.flatMap_nil,List.append_nil]
 exact Qc rfl rfl
theorem Qgh{r c:Int}{l x:List RQ}{V:Nat->Rat}{w wk n:Nat}{LF:MF}{e e2:Int}(hl:Qbs l)(hx:Qbs x)(h1:Qc9 l 25=true)(h3:Qc9 x 8=true)(hn:n<=40)
  (s1:Qd Tryz.prog 13 [PV.rmat r c l,PV.rqs x] (· = .tup [.sl 3 (Qh PV.rat V w),.int .i64 e]))
  (s2:Qd Tryz.prog 14 [PV.rmat r c l,PV.rqs x] (· = .tup [.sl 3 (Qh PV.rat V w),.int .i64 e]))
  (k1:Qd Tryz.prog 15 [PV.rmat r c l] (· = .tup [.sl 1 (Qh (PV.rowD wk) LF n),.int .i64 e2]))
  (k2:Qd Tryz.prog 16 [PV.rmat r c l] (· = .tup [.sl 1 (Qh (PV.rowD wk) LF n),.int .i64 e2]))
  (sm:Qd Tryz.prog 17 [.sl 3 (Qh PV.rat V w),.sl 3 (Qh PV.rat V w)] (· = .bool true))
  (sk:∀i,i<n->Qd Tryz.prog 17 [.sl 3 (Qh PV.rat (LF i) wk),.sl 3 (Qh PV.rat (LF i) wk)] (· = .bool true)):
  Qd Tryz.prog 3 [PV.rmat r c l,PV.rqs x] (· = .bool true):=by
 have hsm:=Qwk (l:=[⟨r,c,l⟩]) (by simpa using hl) (by simp)
 simp only[List.all_cons,List.all_nil,Bool.and_true]at hsm
 have hsx:=Qp5 (n:=8) hx
 rw[h1]at hsm
 rw[h3]at hsx
 have hrn:(Qh (PV.rowD wk) LF n).length=n:=Qaa _ _ _
 refine Qi Qt Tryz.func3 rfl Q0f (by simp[c3]) fun C hP=> ?_;simp only[c3,Zo,Zg,Zm,Zc,Zf,Zl,Zh,Zs,Zi,Zb,Zk,Zn,Zu,Zq,Zr,Zz]
 simp+decide (disch:=try exact D0) only[go_sem]
 refine Qdj hP hsm Ur0 rfl ?_
 simp+decide (disch:=try exact E0) only[go_sem,Qac,List.contains_cons,List.contains_nil,List.flatMap_cons,List.flatMap_nil,List.append_nil]
 refine Qa hP hsx rfl rfl rfl ?_
 simp+decide (disch:=try exact E0) only[go_sem,Qac,List.contains_cons,List.contains_nil,List.flatMap_cons,List.flatMap_nil,List.append_nil]
 refine Qa hP s1 rfl rfl rfl ?_
 simp+decide (disch:=try exact E0) only[go_sem,Qac,List.contains_cons,List.contains_nil,List.flatMap_cons,List.flatMap_nil,List.append_nil]
 refine Qa hP s2 rfl rfl rfl ?_
 simp+decide (disch:=try exact E0) only[go_sem,Qac,List.contains_cons,List.contains_nil,List.flatMap_cons,List.flatMap_nil,List.append_nil]
 refine Qa hP k1 rfl rfl rfl ?_
 simp+decide (disch:=try exact E0) only[go_sem,Qac,List.contains_cons,List.contains_nil,List.flatMap_cons,List.flatMap_nil,List.append_nil]
 refine Qa hP k2 rfl rfl rfl ?_
 simp+decide (disch:=try exact E0) only[go_sem,Qac,List.contains_cons,List.contains_nil,List.flatMap_cons,List.flatMap_nil,List.append_nil]
 refine Qa hP sm rfl rfl rfl ?_
 simp+decide (disch:=try exact E1 hrn) only[go_sem,Qac,List.contains_cons,List.contains_nil,List.flatMap_cons,List.flatMap_nil,List.append_nil,hrn]
 refine Qai (by repeat (first|exact Qw|exact Qo|exact Qp|exact Qq|exact Qr|apply Qn|apply Qv|apply Qz|apply Q6|apply Q7|apply Qk|apply Qu)) [(4,4),(13,13),(67,82)] [] (fun q J hp=>∃i,q=n-i/\i<=n/\J 13= .int .i64 (i:Nat)) n ?_ ?_
 ·refine⟨0,rfl,by omega,?_⟩
  simp+decide (disch:=try exact D0) only[go_sem]
  rfl
 rintro _ J h ⟨i,rfl,hi,h13⟩
 simp+decide (disch:=try exact D2 h13 hrn) only[go_sem,h13,hrn]
 refine Qb (fun hc=> ?_) (fun hc=> ?_)
 ·have hi':i<n:=by omega
  have hs1:=sk i hi'
  simp+decide (disch:=try exact D1 h13) only[go_sem,h13]
  refine Qa hP hs1 rfl rfl rfl ?_
  simp+decide (disch:=try exact D1 h13) only[go_sem,h13]
  refine Qab (n-(i+1)) (by omega) ⟨i+1,rfl,by omega,?_⟩
  simp+decide (disch:=try exact D0) only[go_sem]
 ·simp+decide (disch:=try exact D0) only[go_sem]
  refine Qa hP Qp6 rfl rfl rfl ?_
  simp+decide (disch:=try exact D0) only[go_sem]
  exact Qc rfl rfl
theorem Qwv(m:Nat):PV.le .nilS (.sl 1 (Qh (PV.rowD m) (fun _ _=>(0:Rat)) 0)):=trivial
theorem Qww{r c:Int}{l:List RQ}(hl:Qbs l)(h:Qbh r c l=false):Qd Tryz.prog 15 [PV.rmat r c l] (· = .tup [.sl 1 (Qh (PV.rowD 0) (fun _ _=>(0:Rat)) 0),.int .i64 1]):=by
 have c1:=Qox (r:=r) (c:=c) hl
 rw[h]at c1
 refine Qcz Qt Tryz.func15 rfl Q4b (by simp[c15]) fun C hP=> ?_;simp only[c15,Zo,Zg,Zm,Zc,Zf,Zl,Zh,Zs,Zi,Zb,Zk,Zn,Zu,Zq,Zr,Zz]
 simp+decide (disch:=try exact D0) only[go_sem]
 refine Qa hP c1 rfl rfl rfl ?_
 simp+decide (disch:=try exact D0) only[go_sem]
 refine Qb9 (Qb1 ?_)
 simp+decide (disch:=try exact D0) only[go_sem]
 exact Qb2 rfl rfl rfl (Qwv 0) (Qy _)
theorem Qt5{r c:Int}{l:List RQ}(hl:Qbs l)(h:Qbh r c l=false):Qd Tryz.prog 16 [PV.rmat r c l] (· = .tup [.sl 1 (Qh (PV.rowD 0) (fun _ _=>(0:Rat)) 0),.int .i64 1]):=by
 have c1:=Qm3 (r:=r) (c:=c) hl
 rw[h]at c1
 refine Qi Qt Tryz.func16 rfl Q4a (by simp[c16]) fun C hP=> ?_;simp only[c16,Zo,Zg,Zm,Zc,Zf,Zl,Zh,Zs,Zi,Zb,Zk,Zn,Zu,Zq,Zr,Zz]
 simp+decide (disch:=try exact D0) only[go_sem]
 refine Qa hP c1 rfl rfl rfl ?_
 simp+decide (disch:=try exact D0) only[go_sem]
 exact Qb2 rfl rfl rfl (Qwv 0) (Qy _)
theorem Q4i{E:Ech}{R m K:Nat}(hK:1<=K)(hm:m<=40)(hp:E.piv.length<=R)(hE:∀r,r<R->rs (E.M r m)<=K):
  ∃(V:Nat->Rat)(w:Nat)(e:Int),Qgj E R m= .tup [.sl 3 (Qh PV.rat V w),.int .i64 e]/\w<=40/\∀i,rs (V i)<=K:=by
 unfold Qgj
 split
 ·exact⟨_,m,0,rfl,hm,fun i=>Qyu hK hE _ hp i⟩
 ·exact⟨fun _=>0,0,13,rfl,by omega,fun i=>by have:=Qp2;show rs 0<=K;omega⟩
theorem Qp7{r c:Int}{l x:List RQ}(h:I64' r/\I64' c/\Qbs l)(hx:Qbs x):Qd Tryz.prog 3 [PV.rmat r c l,PV.rqs x] (· = .bool true):=by
 have hl:=h.2.2
 cases hq:(Qc9 l 25&&Qc9 x 8)
 ·exact Qsp hl hx hq
 rw[Bool.and_eq_true]at hq
 obtain⟨h1,h3⟩:=hq
 obtain⟨l25,sl⟩:=Qwr hl h1
 obtain⟨lx8,sx⟩:=Qwr hx h3
 have z0:=Qn8 (x:=fun _=>(0:Rat)) (y:=fun _=>0) (n:=0) (k:=1) (fun i hi=>by omega) (fun i _=>Qp2) (by omega) (by omega) (by omega)
 have nilx:PV.rqs []= .sl 3 (Qh PV.rat (fun _=>(0:Rat)) 0):=rfl
 cases h2:Qbh r c l
 ·have o3:(Qbh r c l&&x.all Qdw)=false:=by rw[h2,Bool.false_and]
  have s1:=Qpo hl hx o3
  have s2:=Qn9 hl hx o3
  rw[nilx]at s1 s2
  exact Qgh hl hx h1 h3 (by omega) s1 s2 (Qww hl h2) (Qt5 hl h2) z0 (fun i hi=>by omega)
 obtain⟨R,m,la,rfl,rfl,hR,hm,hla,hlen,hmat⟩:=Qacc hl h2
 rw[<-hla]at sl
 have sl':∀q∈la,rs q<=1048576:=fun q hq=>by have:=sl q hq;omega
 have h25:R*m<=25:=by
  rw[<-hlen,hla,List.length_map];exact l25
 have hB:Qhh (3*3125) R m m (Q3 la m):=Qo1 (by omega) (fun r _ c _=>Qsn (by omega) sl) (Nat.le_refl _) (Qso h25)
 have hEp:=Qdn R (Q3 la m) m
 have k1:=Q9c hlen hR hm sl' (by omega) hB
 have k2:=Q4h hlen hR hm sl' (by omega) hB
 rw[Q0v]at k1 k2
 have hkl:(Qck (Qaf R (Q3 la m) m).M (Qaf R (Q3 la m) m).piv m).length<=40:=by
  unfold Qck Qex
  rw[List.length_map]
  have:=List.length_filter_le (fun c=> !(Qaf R (Q3 la m) m).piv.contains c) (List.range m)
  rw[List.length_range]at this
  omega
 have sk:∀i,i<(Qck (Qaf R (Q3 la m) m).M (Qaf R (Q3 la m) m).piv m).length->Qd Tryz.prog 17 [.sl 3 (Qh PV.rat ((Qck (Qaf R (Q3 la m) m).M (Qaf R (Q3 la m) m).piv m).getD i fun _=>0) m),.sl 3 (Qh PV.rat ((Qck (Qaf R (Q3 la m) m).M (Qaf R (Q3 la m) m).piv m).getD i fun _=>0) m)] (· = .bool true):=fun i hi=>by
  rw[List.getD_eq_getElem?_getD,List.getElem?_eq_getElem hi,Option.getD_some]
  have hmem:=List.getElem_mem hi
  generalize(Qck (Qaf R (Q3 la m) m).M (Qaf R (Q3 la m) m).piv m)[i]=V at *
  obtain⟨k,hk,rfl⟩:=List.mem_map.1 hmem
  unfold Qex at hk
  rw[List.mem_filter,List.mem_range]at hk
  have hv:=Qyt (E:=(Qaf R (Q3 la m) m).M) (piv:=(Qaf R (Q3 la m) m).piv) (k:=k) (K:=3*3125) (R:=R) (by omega) (fun r hr=>(hB m (Nat.le_refl _)).1 r hr k hk.1) (Qaf R (Q3 la m) m).piv.length hEp.2.1
  exact Qn8 (k:=3*3125) (fun i _=>rfl) (fun i _=>hv i) (by omega) (by omega) (by omega)
 rw[<-hmat]at k1 k2
 cases o2:x.all Qdw
 ·have o3:(Qbh R m l&&x.all Qdw)=false:=by rw[o2,Bool.and_false]
  have s1:=Qpo hl hx o3
  have s2:=Qn9 hl hx o3
  rw[nilx]at s1 s2
  exact Qgh hl hx h1 h3 hkl s1 s2 k1 k2 z0 sk
 have hxr:=Q3f hx o2
 by_cases hxl:x.length=R
 ·generalize hbs:x.map rqV=bs at *
  have hbl:bs.length=R:=by rw[<-hbs,List.length_map];exact hxl
  obtain⟨s1,b1⟩:=Qxs hlen hbl h25 hR hm sl sx (by omega) (by omega)
  have s2:=(Qwu hlen hbl h25 hR hm sl sx (by omega) (by omega)).1
  obtain⟨V,w,e,e1,e2,e3⟩:=Q4i (E:=Qaf R (Qdt (Q3 la m) (Qdq bs) m) m) (R:=R) (m:=m) (K:=3*3125) (by omega) hm (Qdn R (Qdt (Q3 la m) (Qdq bs) m) m).2.1 (fun r hr=>b1 r hr m (by omega))
  rw[e1,<-hmat,<-hxr]at s1 s2
  exact Qgh hl hx h1 h3 hkl s1 s2 k1 k2 (Qn8 (k:=3*3125) (fun i _=>rfl) (fun i _=>e3 i) (by omega) (by omega) (by omega)) sk
 ·have s1:=Q0u hl hx h2 o2 (by omega)
  have s2:=Qxr hl hx h2 o2 (by omega)
  rw[nilx]at s1 s2
  exact Qgh hl hx h1 h3 hkl s1 s2 k1 k2 z0 sk
open Go Go.FW Go.ChangeShapes Go.WideShapes Go.ChangeAt Go.RowKit
theorem Qly(H:Type)(enc:TypeId×Value->H)(W:World)(base:Nat)(args:Array Value)(ds gs:List (DataW H))(before:List MemPlace)
  (Qc5:∀(j:Nat) t v,Tryz.f3.params[j]? =some t->args[j]? =some v->Value.okWide Tryz.prog W .any base t v)
  (hW:DataW.Whole enc Tryz.prog Tryz.f3.params.toList Rows.matrixSolvesSpec.vars false W args.toList ds gs before) (hk:Rows.uptoSmall H (ds++gs)=true):
  Calls Tryz.prog 3 args W fun e W'=>∃v,e= .returned v/\Rows.matrixSolvesSpec.post enc Tryz.prog Tryz.f3 false true false false W args v W':=by
 have hW':=hW
 obtain⟨p,q,hA0,hV,rfl,hfz,hnd⟩:=hW
 have hA:DataW.TrodAll enc Tryz.prog W 0 (fun _=>true) true Tryz.f3.params.toList args.toList ds p:=hA0
 rw[Tryz.params3]at hA Qc5
 obtain⟨v0,vs0,e0,ds0,p0,q0,hargs,rfl,rfl,h0,r0⟩:=trodAll_cons hA
 obtain⟨v1,vs1,e1,ds1,p1,q1,rfl,rfl,rfl,h1,r1⟩:=trodAll_cons r0
 obtain⟨rfl,rfl,rfl⟩:=trodAll_nil r1
 obtain rfl:args= #[v0,v1]:=by cases args;simp_all
 obtain⟨rfl,rfl⟩:=trodVars_none hV
 have hb:=Q7z hk
 simp only[List.append_nil,Rows.uptoBulkAll]at hb
 obtain⟨r0,c0,l0,g0,b0⟩:=Qz9 (Qc5 0 _ v0 rfl rfl) h0 (by omega)
 obtain⟨a1,g1,b1⟩:=Q70 (Qc5 1 _ v1 rfl rfl) h1 (by omega)
 exact Q3i hW' rfl (by kernel_rfl) (by kernel_rfl) rfl (Qp7 b0 b1) rfl
  (Q71 (vs:=[v0,v1]) (by
   intro i x hx v hv
   match i,hx,hv with
   |0,hx,hv=>simp at hx hv;subst hx hv;exact g0
   |1,hx,hv=>simp at hx hv;subst hx hv;exact g1
   |i+2,hx,hv=>simp at hx) rfl)
theorem Qnf(os:Os)(started:os.Started)(H:Type)(enc:TypeId×Value->H)(F:Stop.Interp):
  ReturnsInHanded {} Tryz.checked os 3 .any ((Rows.OpenSpec.upto Rows.matrixSolvesSpec).pre6 enc Tryz.prog Tryz.f3 Rows.matrixSolvesUptoRow.domain false) (((Rows.OpenSpec.upto Rows.matrixSolvesSpec).at F).post enc Tryz.prog Tryz.f3 false true false false):=by
 refine returnsInHanded_of_cond (C:=Tryz.checked) (s:=Rows.OpenSpec.upto Rows.matrixSolvesSpec) (k:=Rows.uptoSmall) rfl own started (by kernel_rfl) Tryz.func3
  (OpenSpec.witness (enc:=enc) (C:=Tryz.checked) (s:=Rows.OpenSpec.upto Rows.matrixSolvesSpec) (k:=Rows.uptoSmall) rfl false ⟨#[],#[.agg #[.int .i64 0,.int .i64 0,.slice none 0 0],.slice none 0 0],[]⟩ 8 (by kernel_rfl) (by kernel_rfl) (by kernel_rfl)
   (x:=([.agg [.lit (.int .i64 0),.lit (.int .i64 0),.nil],.nil],[],[])) (by kernel_rfl) rfl (by kernel_rfl)) ?_
 intro W base args ds gs before Qc5 hW _ hk _
 exact Qly H enc W base args ds gs before Qc5 hW hk
theorem matrixSolves_proved:Rows.MatrixSolvesUptoSaid:=
 OpenClaim.holds_of_cond 3 Tryz.f3 rfl rfl rfl rfl rfl rfl rfl ⟨rfl,rfl,rfl,rfl,rfl⟩ rfl rfl rfl rfl rfl (by kernel_rfl) Tryz.func3 (by kernel_rfl)
  (of_decide_eq_true (by kernel_rfl)) (by unfold Func.isWrapper;first|(rw[if_pos (by decide+kernel)];kernel_rfl)|(rw[if_neg (by decide+kernel)];exact⟨rfl,rfl⟩))
  (fun os started H enc _ F=>Qnf os started H enc F)
end Go.Proofs.YtkoclfmjlolkhaaGreat
