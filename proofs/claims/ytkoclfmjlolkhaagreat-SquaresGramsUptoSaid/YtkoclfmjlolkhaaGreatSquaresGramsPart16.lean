/- Part 16 of the proof of SquaresGrams: B20, B21, Q10, Q11, W7, W8, FwUG. Own lemmas; no conditions. -/
import Derived.Test.YtkoclfmjlolkhaaGreatSquaresGramsPart15
set_option linter.unusedSimpArgs false
set_option linter.unusedVariables false
set_option linter.unnecessarySimpa false
set_option maxRecDepth 100000
namespace Go.Proofs.YtkoclfmjlolkhaaGreat
open Go Go.FW
theorem Q3p{n:Nat}(hn:n<=2^30):Qcv Tryz.prog 56 [.int .i64 (n:Nat)] (fun _=> .undef) hp0 (fun r _ H=>r= .ms 2000000 n/\H 2000000=some ⟨3,51,Qad PV.rat (fun _=>(0:Rat)) n,false⟩):=by
 refine Qfe Qq Tryz.func56 rfl (Qvr Qaab) (by simp[c56]) fun C hP=> ?_;simp only[c56,Zo,Zg,Zm,Zc,Zf,Zl,Zh,Zs,Zi,Zb,Zk,Zn,Zu,Zq,Zr,Zz]
 simp+decide (disch:=try exact D0) only[go_sem]
 refine Qz (by repeat (first|exact Qn|exact Qi|exact Qj|exact Qk|exact Ql|apply Qh|apply Qm|apply Qt|apply Qx|apply Qy|apply Qg|apply Qr)) [(4,4),(9,16)] [] (fun q J hp=>∃i xs,q=n-i/\i<=n/\J 9= .int .i64 (i:Nat)/\xs.length=n/\hp 6=some ⟨3,51,xs,false⟩/\hp 2000000=none/\∀j,j<i->xs[j]? =some (PV.rat 0)) n ?_ ?_
 ·refine⟨0,List.replicate n (.agg [.bool false,.nilS,.nilS]),rfl,by omega,?_⟩
  simp+decide (disch:=try exact D0) only[go_sem]
  exact⟨rfl,by simp,fun j hj=>by omega⟩
 rintro _ J h ⟨i,xs,rfl,hi,h9,hl,h6,hN,hx⟩
 simp+decide (disch:=try exact D1 h9) only[go_sem,h9]
 refine Qb (fun hg=> ?_) (fun hg=> ?_)
 ·have hi':i<n:=by omega
  simp+decide (disch:=try exact D1 h9) only[go_sem,h9]
  refine Qa hP (Qnb (x:=0) (by omega) (by omega)) rfl rfl rfl ?_
  rw[show((0:Int):Rat)=0 from rfl]
  generalize(0:Rat)=z at *
  simp+decide (disch:=try exact D2 h9 h6) only[go_sem,h9,h6]
  rw[Qgr (n:=3) (xs:=xs) (v:=PV.rat z) (by omega) rfl rfl]
  simp+decide (disch:=try exact D1 h9) only[go_sem,h9]
  refine Qo (n-(i+1)) (by omega) ⟨i+1,xs.set i (PV.rat z),rfl,by omega,?_⟩
  simp+decide (disch:=try exact D1 hN) only[go_sem,hN]
  refine⟨by simp[hl],fun j hj=> ?_⟩
  rw[List.getElem?_set]
  by_cases e:i=j
  ·rw[if_pos e,if_pos (by omega)]
  ·rw[if_neg e];exact hx j (by omega)
 ·obtain rfl:i=n:=by omega
  have e:xs=Qad PV.rat (fun _=>(0:Rat)) i:=by
   refine List.ext_getElem (by simp[Qad,hl]) fun j h1 h2=> ?_
   have:=hx j (by omega)
   rw[List.getElem?_eq_getElem h1]at this
   rw[Qeh];exact Option.some.inj this
  simp+decide (disch:=try exact D2 h9 h6) only[go_sem,h9,h6]
  refine Qake (Qht 6 2000000 (T1 hN) (by omega) rfl (by omega)) ?_
  refine Q0k ?_
  simp+decide (disch:=try exact D2 h6 e) only[go_sem,h6,e]
theorem Qaq9{R:Nat}:∀x,nmR R x=true->2000000<=x:=fun x hx=>by
 rcases Qmt hx with rfl|h<;>omega
def c13:SFn:=⟨96,[.t 4,.t 5],Zr (Zo (.box 2 3 24 (.t 0))<|
 Zo (.mv 4 (.c .nilS))<|
 Zc 5 0 .nil)<| .seq (Zr (Zh 13 3 2<|
 Zq 14 false 52 [.t 13]<|
 Zu 15 14<|
 Zm 16 15<|
 Zg 16 false (.mv 17 (.t 1))<|
 Zg 16 false (.call (some 18) false (.c (.fn 53 [] [])) [.t 17])<|
 Zg 16 false (.un 19 .not (.t 18))<|
 Zo (.pick 20 (.t 16) (.c (.bool true)) (.t 19)) .nil)<| .cond (.t 20) (Zr (Zo (.mv 4 (.c .nilS))<|
 Zc 5 1 .nil) .ret) .skip)<| .seq (Zr (Zm 21 1<|
 Zn 22 21<|
 Zf 23 0 2<|
 Zl 24 1 23<|
 Zb 25 .neq 22 24 .nil)<| .cond (.t 25) (Zr (Zo (.mv 4 (.c .nilS))<|
 Zc 5 16 .nil) .ret) .skip)<|Zr (Zh 26 3 2<|
 Zq 27 false 54 [.t 26]<|
 Zm 6 27 .nil)<| .seq (Zr (Zm 28 6<|
 Zn 29 28<|
 Zc 30 0 .nil)<| .block 0<| .loop<|Zr (Zb 31 .lss 30 29 .nil)<| .seq (.cond (.t 31) .skip (.exit 0))<| .seq (.block 1<|Zr (Zm 32 30<|
 Zm 7 32 .nil)<| .rg (Zm 33 6<|
 Zm 34 7<|
 Zm 35 6<|
 Zm 36 7<|
 Zi 37 1 35 36<|
 Zl 38 1 37<|
 Zm 39 1<|
 Zm 40 7<|
 Zi 41 3 39 40<|
 Zh 42 3 41<|
 Zo (.bs 43 3 51 [.t 42])<|
 Zo (.app 44 3 56 51 (.t 38) (.t 43))<|
 Zi 45 1 33 34<|
 Zs 1 45 44 .nil))<| .rg (Zk 46 .add 30 1<|
 Zm 30 46 .nil))<|Zr (Zm 47 6<|
 Zf 48 1 2<|
 Zl 49 1 48<|
 Zq 50 false 55 [.t 47,.t 49]<|
 Zo (.alloc 8 5 87 (.agg [.nilS,.nilS,.bool false,.nilS,.nilS]))<|
 Zs 5 8 50 .nil)<| .seq (Zr (Zf 51 1 8<|
 Zl 52 1 51<|
 Zn 53 52<|
 Zm 9 53 .nil)<| .block 2<| .loop<| .seq (Zr (Zm 54 9<|
 Zf 55 0 2<|
 Zl 56 1 55<|
 Zb 57 .lss 54 56 .nil)<| .cond (.t 57) .skip (.exit 2))<| .seq (.block 3<|Zr (Zf 60 0 8<|
 Zl 61 1 60<|
 Zm 62 9<|
 Zi 63 1 61 62<|
 Zl 64 1 63<|
 Zf 65 1 2<|
 Zl 66 1 65<|
 Zi 67 3 64 66<|
 Zh 68 3 67<|
 Zq 69 false 38 [.t 68]<|
 Zk 70 .neq 69 0 .nil)<| .cond (.t 70) (Zr (Zo (.mv 4 (.c .nilS))<|
 Zc 5 13 .nil) .ret) .skip)<| .rg (Zm 58 9<|
 Zk 59 .add 58 1<|
 Zm 9 59 .nil))<|Zr (Zf 71 1 2<|
 Zl 72 1 71<|
 Zq 73 false 56 [.t 72]<|
 .wk<|Zm 10 73 .nil)<| .seq (Zr (Zf 74 1 8<|
 Zl 75 1 74<|
 Zn 76 75<|
 Zc 77 0 .nil)<| .block 4<| .loop<|Zr (Zb 78 .lss 77 76 .nil)<| .seq (.cond (.t 78) .skip (.exit 4))<| .seq (.block 5<|Zr (Zm 79 77<|
 Zi 80 1 75 77<|
 Zl 81 1 80<|
 Zm 11 79<|
 Zm 12 81 .nil)<| .rg (Zm 82 10<|
 Zm 83 12<|
 Zf 84 0 8<|
 Zl 85 1 84<|
 Zm 86 11<|
 Zi 87 1 85 86<|
 Zl 88 1 87<|
 Zf 89 1 2<|
 Zl 90 1 89<|
 Zi 91 3 88 90<|
 Zh 92 3 91<|
 Zi 93 3 82 83<|
 Zs 3 93 92 .nil))<| .rg (Zk 94 .add 77 1<|
 Zm 77 94 .nil))<|Zr (Zm 95 10<|
 Zm 4 95<|
 Zc 5 0 .nil) .ret⟩
theorem Qara:Qe Tryz.prog Tryz.f13=some c13.strip:=by kernel_rfl
def Qg3(M:MF)(x:Nat->Rat)(m:Nat):MF:=fun r c=>if c=m then x r else M r c
def Qpl(E:MF)(piv:List Nat)(m:Nat):Nat->(Nat->Rat)
 |0=>fun _=>0
 |j+1=>fun c=>if c=piv.getD j 0 then E j m else Qpl E piv m j c
def Q2c(E:Ech)(R m:Nat):PV:=if(∀r,r<R->E.piv.length<=r->E.M r m=0)then .tup [.sl 3 (Qad PV.rat (Qpl E.M E.piv m E.piv.length) m),.int .i64 0]else .tup [PV.rats [],.int .i64 13]
theorem Qang{M:MF}{x:Nat->Rat}{m r:Nat}:Qad PV.rat (M r) m++[PV.rat (x r)]=Qad PV.rat (Qg3 M x m r) (m+1):=by
 refine List.ext_getElem (by simp[Qad]) fun j h1 h2=> ?_
 have hj:j<m+1:=by simpa[Qad]using h2
 rw[Qeh]
 unfold Qg3
 by_cases e:j=m
 ·subst e;rw[if_pos rfl,List.getElem_append_right (by simp[Qad])];simp
 ·rw[if_neg e,List.getElem_append_left (by simp[Qad];omega),Qeh]
theorem Qanh{γ i ty m B n:Nat}{L:Nat->Nat}{e0 ty0:Nat}{xs0:List PV}{fr:Fr}{hp:HP}{K:Qp}(h:i<n):
  stX (.nst γ 1 ty ((Qak (rws B n L)).set i .undef)) (some ⟨e0,ty0,xs0,false⟩) (some [.ms (B+i) m]) γ 1 i 0 fr hp K=K (upd (Qdw γ fr) γ (.nst γ 1 ty (Qak (rws B n fun j=>if j=i then m else L j)))) hp:=by
 have hl:i<((Qak (rws B n L)).set i .undef).length:=by simpa[Qak,rws]using h
 simp only[stX,hl,exists_true_left,true_and,Nat.le_refl,Nat.zero_add,Option.some.injEq,exists_eq_left',List.length_cons,List.length_nil]
 rw[<-Qaj6 (L:=L) (L':=fun j=>if j=i then m else L j) fun j _=>rfl]
 simp[Qdu,Qi8,Qak,PV.ncells,PV.cells,List.map_set]
theorem Qani{R m K:Nat}{l b:List Rat}(hl:l.length=R*m)(hlb:b.length=R)(hR:0<R)(hR2:R<=40)(hm:m<=39)(hs:∀q∈l,rs q<=1048576)(hsb:∀q∈b,rs q<=1048576)(hK:K<=2^20)(hB:Q6p K R (m+1) m (Qg3 (Qai l m) (Qfq b) m)):
  Qd Tryz.prog 13 [PV.mat R m l,PV.rats b] (· =Q2c (Qbo R (Qg3 (Qai l m) (Qfq b) m) m) R m):=by
 have hEp:=Qo9 R (Qg3 (Qai l m) (Qfq b) m) m
 have hEb:=(hB m (Nat.le_refl _)).1
 have c1:=Qk5 hl hR2 (show m<=40 by omega) hs
 have hfree:∀(hp:HP),(∀x,5<=x->hp x=none)->∀x,nmR R x=true->hp x=none:=fun hp h x hx=>h x (by have:=Qmt hx;omega)
 obtain⟨X,hX⟩:∃X,Qfq b=X:=⟨_,rfl⟩
 have hrx:PV.rats b= .sl 3 (Qad PV.rat X R):=by rw[PV.rats,<-hX,<-hlb,Qaa6]
 have hnm:Qd Tryz.prog 53 [.sl 3 (Qad PV.rat X R)] (· = .bool true):=by
  have:=Qx2 (l:=b.map qR) (Qag5 (by omega) (k:=1048576) (by omega) hsb)
  rw[<-Q93,hrx]at this
  have e:(b.map qR).all Qh8=true:=by
   rw[List.all_eq_true]
   intro y hy
   obtain⟨q,_,rfl⟩:=List.mem_map.1 hy
   exact Q0w q
  rw[e]at this;exact this
 rw[hX]at hEp hEb hB⊢
 rw[hrx]
 have hrl:(Qad PV.rat X R).length=R:=Qa0 _ _ _
 refine Qea Qq Tryz.func13 rfl Qara (by simp[c13]) fun C hP=> ?_;simp only[c13,Zo,Zg,Zm,Zc,Zf,Zl,Zh,Zs,Zi,Zb,Zk,Zn,Zu,Zq,Zr,Zz]
 simp+decide (disch:=try exact D0) only[go_sem]
 refine Qa hP c1 rfl rfl rfl ?_
 simp+decide (disch:=try exact D0) only[go_sem]
 refine Qa hP hnm rfl rfl rfl ?_
 simp+decide (disch:=try exact D1 hrl) only[go_sem,hrl]
 refine Qx4 hP hl hR hR2 (by omega) (by omega) (hfree _ (fun x hx=>by simp+decide (disch:=try exact D1 (show ¬x=2 from by omega)) only[go_sem,show ¬x=2 from by omega]<;>rfl)) ?_
 simp+decide (disch:=first|omega|rfl|(simp+decide only[go_sem,Qek,Qfp,Qej]<;>rfl)|fail) only[go_sem,Qek,Qfp,Qej]
 refine Qbn (by repeat (first|exact Qn|exact Qi|exact Qj|exact Qk|exact Ql|apply Qh|apply Qm|apply Qt|apply Qx|apply Qy|apply Qg|apply Qr)) [(6,7),(30,46),(2000000,2000000)] [43,44] (fun q J hp=>∃i,q=R-i/\i<=R/\J 6= .nso 2000000 0 R/\J 30= .int .i64 (i:Nat)/\J 2000000= .nst 2000000 1 22 (Qak (rws 3000000 R fun r=>if r<i then m+1 else m))/\hp 2=some ⟨3,24,[PV.mat R m l],false⟩/\hp 2000000=some ⟨1,22,[],false⟩/\
   (∀r,r<i->hp (3000000+r)=some ⟨3,51,Qad PV.rat (Qg3 (Qai l m) X m r) (m+1),false⟩)/\∀r,i<=r->r<R->hp (3000000+r)=some ⟨3,51,Qad PV.rat (Qai l m r) m,false⟩) R ?_ ?_
 ·refine⟨0,rfl,by omega,?_⟩
  simp+decide (disch:=first|omega|rfl|(simp+decide only[go_sem,Qek,Qfp,Qej,Qnw]<;>rfl)|fail) only[go_sem,Qek,Qfp,Qej,Qnw]
  refine⟨rfl,?_,(fun r hr=>by omega),fun r _ hr=>by simp+decide (disch:=first|omega|rfl|(simp+decide only[go_sem,Qkk]<;>rfl)|fail) only[go_sem,Qkk]⟩
  rw[<-Q6h]
  have:(fun r=>if r<0 then m+1 else m)=fun _=>m:=by funext r;rw[if_neg (by omega)]
  rw[this]
 rintro _ J h ⟨i,rfl,hi,h6,h30,hg,h2,hh,hr1,hr2⟩
 simp+decide (disch:=try exact D2 h6 h30) only[go_sem,h6,h30]
 refine Qb (fun hc=> ?_) (fun hc=> ?_)
 ·have hi':i<R:=by omega
  have hld:=fun(K:Qp) (fr:Fr) (hp:HP) d (h:fr 2000000= .nst 2000000 1 22 (Qak (rws 3000000 R fun r=>if r<i then m+1 else m)))=>Qaoz (K:=K) (d:=d) (hp:=hp) h hi'
  have er:=hr2 i (Nat.le_refl _) hi'
  have hii:(if i<i then m+1 else m)=m:=if_neg (by omega)
  simp+decide (disch:=try exact D6 h6 h30 hg hh hld hii) only[go_sem,h6,h30,hg,hh,hld,hii]
  rw[Q4e (xs:=Qad PV.rat (Qai l m i) m) (y:=PV.rat (X i)) (ty':=51) (fz:=false) (T1 er) T0 (by omega) (Qa0 _ _ _).symm (by omega) (by omega) (by omega)]
  have htk:=Q9o (γ:=2000000) (e:=1) (ty:=22) (L:=fun r=>if r<i then m+1 else m) (B:=3000000) hi' (by omega)
  rw[Qang]
  simp+decide (disch:=try exact D5 h6 h30 hg hh htk) only[go_sem,h6,h30,hg,hh,htk]
  have hL:(fun j=>if j=i then m+1 else if j<i then m+1 else m)=fun r=>if r<i+1 then m+1 else m:=by
   funext r
   by_cases e:r=i
   ·rw[if_pos e,if_pos (by omega)]
   ·rw[if_neg e]
    by_cases e2:r<i
    ·rw[if_pos e2,if_pos (by omega)]
    ·rw[if_neg e2,if_neg (by omega)]
  rw[Qanh hi',hL]
  simp+decide (disch:=try exact D2 h6 h30) only[go_sem,h6,h30]
  refine Qa4 (R-(i+1)) (by omega) ⟨i+1,rfl,by omega,?_⟩
  simp+decide (disch:=try exact D3 h6 h2 hh) only[go_sem,h6,h2,hh]
  refine⟨fun r hr=> ?_,fun r hr hr3=> ?_⟩
  ·by_cases e:r=i
   ·subst e;rw[if_pos rfl]
   ·rw[if_neg e];exact hr1 r (by omega)
  ·rw[if_neg (by omega)];exact hr2 r (by omega) hr3
 obtain rfl:R=i:=by omega
 have hW:Qak (rws 3000000 R fun r=>if r<R then m+1 else m)=Qak (Qbc 3000000 R (m+1) id):=by
  rw[<-Q6h]
  refine congrArg Qak (List.ext_getElem (by simp[rws]) fun j h1 h2=> ?_)
  have hj:j<R:=by simpa[rws]using h1
  rw[Qhd,Qhd,if_pos hj]
 rw[hW]at hg
 simp+decide (disch:=try exact D3 h6 h2 h30) only[go_sem,h6,h2,h30]
 refine Q3i (K:=K) (M:=Qg3 (Qai l m) X m) (ty:=22) (tyr:=51) hP hR hR2 (show m+1<=40 by omega) (show m<=m+1 by omega) hK hB (T1 hg) (T1 hh) hr1 ?_
 obtain⟨E,hE⟩:∃E,Qbo R (Qg3 (Qai l m) X m) m=E:=⟨_,rfl⟩
 rw[hE]at hEp hEb⊢
 have hEl:Qpd E.M R (m+1)=Qad (PV.rowD (m+1)) E.M R:=rfl
 rw[Qahf,Qahg Qaq9]
 simp+decide (disch:=first|omega|rfl|(simp+decide only[go_sem,hEl,h2,Qek,Qfp]<;>rfl)|fail) only[go_sem,hEl,h2,Qek,Qfp]
 have hE8:∀r,r=R->PV.ech r (m+1) E= .agg [.sl 1 (Qad (PV.rowD (m+1)) E.M R),.sl 1 (Qqz E.piv),.bool (decide (E.det.num<0)),PV.num E.det.num.natAbs,PV.num E.det.den]:=fun r h=>by subst h;rfl
 refine Qbn (by repeat (first|exact Qn|exact Qi|exact Qj|exact Qk|exact Ql|apply Qh|apply Qm|apply Qt|apply Qx|apply Qy|apply Qg|apply Qr)) [(4,5),(9,9),(54,70)] [] (fun q J hp=>∃r,q=R-r/\E.piv.length<=r/\r<=R/\(∀j,E.piv.length<=j->j<r->E.M j m=0)/\J 9= .int .i64 (r:Nat)/\hp 2=some ⟨3,24,[PV.mat R m l],false⟩/\hp 8=some ⟨5,87,[.agg [.sl 1 (Qad (PV.rowD (m+1)) E.M R),.sl 1 (Qqz E.piv),.bool (decide (E.det.num<0)),PV.num E.det.num.natAbs,PV.num E.det.den]],false⟩/\hp 2000000=none) (R-E.piv.length) ?_ ?_
 ·refine⟨E.piv.length,rfl,Nat.le_refl _,by omega,fun j h1 h2=>by omega,?_⟩
  simp+decide (disch:=first|omega|rfl|(simp+decide only[go_sem,h2,hE8,Qek,Qfp]<;>rfl)|fail) only[go_sem,h2,hE8,Qek,Qfp]
 rintro _ J2 hp2 ⟨r,rfl,hr,hrR,hz,i9,i2,i8,iN⟩
 simp+decide (disch:=try exact D2 i9 i2) only[go_sem,i9,i2]
 refine Qb (fun hc2=> ?_) (fun hc2=> ?_)
 ·have hr':r<R:=by omega
  simp+decide (disch:=try exact D3 i9 i2 i8) only[go_sem,i9,i2,i8]
  have hb1:=hEb r hr' m (by omega)
  refine Qa hP (Qg0 (a:=E.M r m) (by omega)) rfl rfl rfl ?_
  simp+decide (disch:=try exact D1 i9) only[go_sem,i9]
  refine Qb (fun hq=> ?_) (fun hq=> ?_)
  ·have hq0:¬E.M r m=0:=fun e=>hq (Qav.2 e)
   have hres:Q2c E R m= .tup [PV.rats [],.int .i64 13]:=if_neg fun h=>hq0 (h r hr' hr)
   simp+decide (disch:=try exact D0) only[go_sem]
   refine Qet (Qhs ?_)
   simp+decide (disch:=try exact D1 hres) only[go_sem,hres]
   exact Qd8 rfl rfl rfl (show PV.le .nilS (.sl 3 [])from trivial) (Qab _)
  ·have hq0:E.M r m=0:=Decidable.byContradiction fun e=>hq fun h=>e (Qav.1 h)
   simp+decide (disch:=try exact D1 i9) only[go_sem,i9]
   refine Qa4 (R-(r+1)) (by omega) ⟨r+1,rfl,by omega,by omega,fun j h1 h2=> ?_,?_⟩
   ·by_cases e:j=r
    ·rw[e];exact hq0
    ·exact hz j h1 (by omega)
   simp+decide (disch:=try exact D3 i2 i8 iN) only[go_sem,i2,i8,iN]
 ·obtain rfl:R=r:=by omega
  simp+decide (disch:=try exact D1 i2) only[go_sem,i2]
  refine Qamv hP (Q3p (n:=m) (by omega)) iN (by intro x hx γ e ty xs;rw[List.mem_singleton.1 hx];intro h;cases h) rfl (by simp) ?_
  simp+decide (disch:=try exact D0) only[go_sem]
  refine Qb4 (Wk.refl _ _) ?_
  simp+decide (disch:=try exact D1 i8) only[go_sem,i8]
  refine Qbn (by repeat (first|exact Qn|exact Qi|exact Qj|exact Qk|exact Ql|apply Qh|apply Qm|apply Qt|apply Qx|apply Qy|apply Qg|apply Qr)) [(10,12),(77,94)] [] (fun q J hp=>∃j,q=E.piv.length-j/\j<=E.piv.length/\J 10= .mso 2000000 0 m/\J 77= .int .i64 (j:Nat)/\hp 2=some ⟨3,24,[PV.mat R m l],false⟩/\hp 8=some ⟨5,87,[.agg [.sl 1 (Qad (PV.rowD (m+1)) E.M R),.sl 1 (Qqz E.piv),.bool (decide (E.det.num<0)),PV.num E.det.num.natAbs,PV.num E.det.den]],false⟩/\hp 2000000=some ⟨3,51,Qad PV.rat (Qpl E.M E.piv m j) m,false⟩) E.piv.length ?_ ?_
  ·refine⟨0,rfl,by omega,?_⟩
   have e0:(fun _=>(0:Rat))=Qpl E.M E.piv m 0:=rfl
   simp+decide (disch:=try exact D3 i2 i8 e0) only[go_sem,i2,i8,e0]
   rfl
  rintro _ J3 hp3 ⟨j,rfl,hj,k10,k77,k2,k8,kx⟩
  simp+decide (disch:=try exact D1 k77) only[go_sem,k77]
  refine Qb (fun hc3=> ?_) (fun hc3=> ?_)
  ·have hj':j<E.piv.length:=by omega
   have hRj:j<R:=by omega
   have hpj:E.piv[j]<m:=hEp.2.2 _ (List.getElem_mem hj')
   simp+decide (disch:=try exact D5 k10 k77 k2 k8 kx) only[go_sem,k10,k77,k2,k8,kx]
   rw[Qro (v:=E.M j m) hpj]
   have e1:(fun c=>if c=E.piv[j]then E.M j m else Qpl E.M E.piv m j c)=Qpl E.M E.piv m (j+1):=by
    funext c
    show _=if c=E.piv.getD j 0 then _ else _
    rw[List.getD_eq_getElem?_getD,List.getElem?_eq_getElem hj',Option.getD_some]
   simp+decide (disch:=try exact D1 k77) only[go_sem,k77]
   refine Qa4 (E.piv.length-(j+1)) (by omega) ⟨j+1,rfl,by omega,?_⟩
   simp+decide (disch:=try exact D4 k10 k2 k8 e1) only[go_sem,k10,k2,k8,e1]
  ·obtain rfl:j=E.piv.length:=by omega
   simp+decide (disch:=try exact D1 k10) only[go_sem,k10]
   refine Qet (Qhs ?_)
   simp+decide (disch:=try exact D1 kx) only[go_sem,kx]
   have hsn:Qam hp3 (.mso 2000000 0 m)= .sl 3 (Qad PV.rat (Qpl E.M E.piv m E.piv.length) m):=by
    simp only[Qam,Qbh,kx]
    rw[if_neg (by decide),List.drop_zero,List.take_of_length_le (by rw[Qa0];omega)]
   have hres:Q2c E R m= .tup [.sl 3 (Qad PV.rat (Qpl E.M E.piv m E.piv.length) m),.int .i64 0]:=if_pos fun r h1 h2=>hz r h2 h1
   rw[hsn,hres]
   exact Qd8 rfl rfl rfl (Qab _) (Qab _)
def c75:SFn:=⟨68,[.t 6],Zr (Zo (.box 5 3 24 (.t 2))<|
 Zo (.mv 6 (.c .nilS)) .nil)<|Zr (Zh 19 3 5<|
 Zq 20 false 48 [.t 19]<|
 Zm 18 20<|
 Zo (.ext 21 (.t 18) 0)<|
 Zo (.ext 22 (.t 18) 1)<|
 Zo (.ext 23 (.t 18) 2)<|
 Zo (.alloc 8 3 24 (.agg [Zz 0,Zz 0,.nilS]))<|
 Zm 7 21<|
 Zs 3 8 22<|
 Zm 9 23 .nil)<|Zr (Zc 10 0 .nil)<| .seq (.block 0<| .loop<| .seq (Zr (Zm 24 7<|
 Zm 25 10<|
 Zi 26 3 24 25<|
 Zh 27 3 26<|
 Zq 28 false 38 [.t 27]<|
 Zk 29 .geq 28 0 .nil)<| .cond (.t 29) .skip (.exit 0))<| .block 1<| .rg (Zm 30 10<|
 Zk 31 .add 30 1<|
 Zm 10 31 .nil))<|Zr (Zh 32 3 8<|
 Zm 33 10<|
 Zq 34 false 138 [.t 32,.t 33]<|
 Zm 11 34 .nil)<|Zr (Zm 35 11<|
 Zm 36 11<|
 Zn 37 36<|
 Zk 38 .sub 37 1<|
 Zi 39 3 35 38<|
 Zh 40 3 39<|
 Zo (.alloc 12 3 51 (.agg [.bool false,.nilS,.nilS]))<|
 Zs 3 12 40 .nil)<| .seq (Zr (Zh 41 3 12<|
 Zq 42 false 38 [.t 41]<|
 Zk 43 .eql 42 0 .nil)<| .cond (.t 43) (Zr (Zm 44 0<|
 Zm 45 1<|
 Zm 46 11<|
 Zq 47 false 139 [.t 44,.t 45,.t 46]<|
 Zm 6 47 .nil) .ret) .skip)<|Zr (Zo (.mv 13 (.c .nilS)) .nil)<| .seq (Zr (Zm 48 11<|
 Zn 49 48<|
 Zc 50 0 .nil)<| .block 2<| .loop<|Zr (Zb 51 .lss 50 49 .nil)<| .seq (.cond (.t 51) .skip (.exit 2))<| .seq (.block 3<|Zr (Zi 52 3 48 50<|
 Zh 53 3 52<|
 Zo (.alloc 15 3 51 (.agg [.bool false,.nilS,.nilS]))<|
 Zs 3 15 53 .nil)<|Zr (Zh 55 3 15<|
 Zh 56 3 12<|
 Zq 57 false 123 [.t 55,.t 56]<|
 Zm 54 57<|
 Zo (.ext 58 (.t 54) 0)<|
 Zo (.ext 59 (.t 54) 1)<|
 Zo (.alloc 16 3 51 (.agg [.bool false,.nilS,.nilS]))<|
 Zs 3 16 58<|
 Zm 17 59 .nil)<| .rg (Zm 60 13<|
 Zh 61 3 16<|
 Zo (.bs 62 3 51 [.t 61])<|
 Zo (.app 63 3 56 51 (.t 60) (.t 62))<|
 Zm 13 63 .nil))<| .rg (Zk 64 .add 50 1<|
 Zm 50 64 .nil))<|Zr (Zm 65 1<|
 Zm 66 13<|
 Zq 67 false 140 [.t 65,.t 66]<|
 Zm 6 67 .nil) .ret⟩
theorem Qarb:Qe Tryz.prog Tryz.f75=some c75:=by kernel_rfl
def Qj1(n a:Nat):List Rat:=(List.range n).map fun k=>if k=a then 1 else 0
theorem Q7d{n a:Nat}:Qj1 (n+1) a=Qj1 n a++[if n=a then 1 else 0]:=by
 unfold Qj1;rw[List.range_succ,List.map_append];rfl
theorem Qx6(n a:Nat):(Qj1 n a).length=n:=by simp[Qj1]
theorem Qahh{R n a:Nat}{L x:List Rat}{e:Int}(hn:n<=2^30)(hs:Qd Tryz.prog 13 [PV.mat n R L,PV.rats (Qj1 n a)] (· = .tup [PV.rats x,.int .i64 e])):Qd Tryz.prog 138 [PV.mat n R L,.int .i64 (a:Nat)] (· =PV.rats x):=by
 have ho1:=Qnb (x:=1) (by omega) (by omega)
 have ho0:=Qnb (x:=0) (by omega) (by omega)
 rw[show((1:Int):Rat)=1 from rfl]at ho1
 rw[show((0:Int):Rat)=0 from rfl]at ho0
 refine Qf Qq Tryz.func138 rfl Qand (by simp[c138]) fun C hP=> ?_;simp only[c138,Zo,Zg,Zm,Zc,Zf,Zl,Zh,Zs,Zi,Zb,Zk,Zn,Zu,Zq,Zr,Zz]
 simp+decide (disch:=try exact D0) only[go_sem]
 refine Qce 5 900 3 51 (by omega) T0 ?_
 refine Qz (by repeat (first|exact Qn|exact Qi|exact Qj|exact Qk|exact Ql|apply Qh|apply Qm|apply Qt|apply Qx|apply Qy|apply Qg|apply Qr)) [(5,6),(11,25)] [19,20,23,24,900] (fun q J hp=>∃i,q=n-i/\i<=n/\J 5= .ms 900 i/\J 11= .int .i64 (i:Nat)/\hp 2=some ⟨3,24,[PV.mat n R L],false⟩/\hp 900=some ⟨3,51,(Qj1 i a).map PV.rat,false⟩) n ?_ ?_
 ·refine⟨0,rfl,by omega,?_⟩
  simp+decide (disch:=try exact D0) only[go_sem]
  exact⟨rfl,rfl⟩
 rintro _ J h' ⟨i,rfl,hi,j5,j11,b2,b9⟩
 simp+decide (disch:=try exact D1 j11) only[go_sem,j11]
 refine Qb (fun hg=> ?_) (fun hg=> ?_)
 ·have hi':i<n:=by omega
  have hsu:=Q7d (n:=i) (a:=a)
  have hul:=Qx6 i a
  generalize Qj1 i a=T at *
  simp+decide (disch:=try exact D1 j11) only[go_sem,j11]
  refine Qb (fun h0=> ?_) (fun h0=> ?_)
  ·rw[if_pos (by omega)]at hsu
   simp+decide (disch:=try exact D2 j5 b9) only[go_sem,j5,b9]
   refine Qa hP ho1 rfl rfl rfl ?_
   generalize(1:Rat)=z at *
   simp+decide (disch:=try exact D2 j5 b9) only[go_sem,j5,b9]
   rw[Qaf (f:=PV.rat) (y:=z) (xs:=T) (ty':=51) (fz:=false) (T1 b9) Tr0 (by omega) hul.symm (by omega) (by omega)]
   simp+decide (disch:=try exact D1 j11) only[go_sem,j11]
   refine Qo (n-(i+1)) (by omega) ⟨i+1,rfl,by omega,?_⟩
   rw[hsu]
   simp+decide (disch:=try exact D1 b2) only[go_sem,b2]
  ·rw[if_neg (by omega)]at hsu
   simp+decide (disch:=try exact D2 j5 b9) only[go_sem,j5,b9]
   refine Qa hP ho0 rfl rfl rfl ?_
   generalize(0:Rat)=z at *
   simp+decide (disch:=try exact D2 j5 b9) only[go_sem,j5,b9]
   rw[Qaf (f:=PV.rat) (y:=z) (xs:=T) (ty':=51) (fz:=false) (T1 b9) Tr0 (by omega) hul.symm (by omega) (by omega)]
   simp+decide (disch:=try exact D1 j11) only[go_sem,j11]
   refine Qo (n-(i+1)) (by omega) ⟨i+1,rfl,by omega,?_⟩
   rw[hsu]
   simp+decide (disch:=try exact D1 b2) only[go_sem,b2]
 ·obtain rfl:i=n:=by omega
  have hul:=Qx6 i a
  generalize Qj1 i a=T at *
  have hsn:List.take i (T.map PV.rat)=T.map PV.rat:=List.take_of_length_le (by rw[List.length_map];omega)
  simp+decide (disch:=try exact D3 j5 b2 b9) only[go_sem,j5,b2,b9]
  refine Qdr hP hs (Ur2 hsn b9) rfl ?_
  simp+decide (disch:=try exact E0) only[go_sem,Qac,List.contains_cons,List.contains_nil,List.flatMap_cons,List.flatMap_nil,List.append_nil]
  exact Qc rfl rfl
def Qg4(bs:List (List Int))(x:List Rat):Nat->List Rat
 |0=>[]
 |i+1=>Qg4 bs x i++List.replicate ((bs.getD i []).length-1-(Qg4 bs x i).length) 0++[x.getD i 0]
theorem Q2d{bs:List (List Int)}{x:List Rat}{m:Nat}(hb:∀b∈bs,b.length<=m):∀i,(Qg4 bs x i).length<=m+i
 |0=>by simp[Qg4]
 | i+1=>by
  have ih:=Q2d (x:=x) hb i
  have h1:(bs.getD i []).length<=m:=by
   rw[List.getD_eq_getElem?_getD]
   cases h:bs[i]? with
   |none=>simp
   |some b=>simp;exact hb b (List.mem_of_getElem? h)
  simp only[Qg4,List.length_append,List.length_replicate,List.length_singleton]
  omega
theorem Qaba{bs:List (List Int)}{x:List Rat}(hbl:1<=bs.length)(hbl2:bs.length<=2^20)(hb:∀b∈bs,b.length<=2^20)(hx:bs.length<=x.length+1)(hxl:x.length<=2^20):Qd Tryz.prog 140 [PV.monos bs,PV.rats x] (· =PV.rats (Qg4 bs x (bs.length-1))):=by
 have ho0:=Qnb (x:=0) (by omega) (by omega)
 rw[show((0:Int):Rat)=0 from rfl]at ho0
 have hsl:=fun i=>Q2d (x:=x) hb i
 refine Qf Qq Tryz.func140 rfl Qanc (by simp[c140]) fun C hP=> ?_;simp only[c140,Zo,Zg,Zm,Zc,Zf,Zl,Zh,Zs,Zi,Zb,Zk,Zn,Zu,Zq,Zr,Zz]
 simp+decide (disch:=try exact D0) only[go_sem]
 refine Qce 5 900 3 51 (by omega) T0 ?_
 refine Qz (by repeat (first|exact Qn|exact Qi|exact Qj|exact Qk|exact Ql|apply Qh|apply Qm|apply Qt|apply Qx|apply Qy|apply Qg|apply Qr)) [(5,6),(10,33)] [24,25,31,32,900] (fun q J hp=>∃i,q=bs.length-1-i/\i<=bs.length-1/\J 5= .ms 900 (Qg4 bs x i).length/\J 10= .int .i64 (i:Nat)/\hp 900=some ⟨3,51,(Qg4 bs x i).map PV.rat,false⟩) (bs.length-1) ?_ ?_
 ·refine⟨0,rfl,by omega,?_⟩
  simp+decide (disch:=try exact D0) only[go_sem]
  exact⟨rfl,rfl,rfl⟩
 rintro _ J h' ⟨i,rfl,hi,j5,j10,b9⟩
 simp+decide (disch:=try exact D1 j10) only[go_sem,j10]
 refine Qb (fun hg=> ?_) (fun hg=> ?_)
 ·have hi':i<bs.length:=by omega
  have hix:i<x.length:=by omega
  have hbi:=hb _ (List.getElem_mem hi')
  have hst:Qg4 bs x (i+1)=Qg4 bs x i++List.replicate (bs[i].length-1-(Qg4 bs x i).length) 0++[x[i]]:=by
   have e1:bs.getD i []=bs[i]:=by simp[hi']
   have e2:x.getD i 0=x[i]:=by simp[hix]
   rw[Qg4,e1,e2]
  have hl1:=hsl i
  generalize hy:bs[i]=b at *
  generalize hz:x[i]=z at *
  generalize Qg4 bs x i=T at *
  simp+decide (disch:=try exact D2 j10 j5) only[go_sem,j10,j5]
  refine Qz (by repeat (first|exact Qn|exact Qi|exact Qj|exact Qk|exact Ql|apply Qh|apply Qm|apply Qt|apply Qx|apply Qy|apply Qg|apply Qr)) [(5,5),(13,25)] [24,25,900] (fun q J hp=>∃k,q=b.length-1-T.length-k/\k<=b.length-1-T.length/\J 5= .ms 900 (T.length+k)/\hp 900=some ⟨3,51,(T++List.replicate k 0).map PV.rat,false⟩) (b.length-1-T.length) ?_ ?_
  ·refine⟨0,rfl,by omega,?_⟩
   simp+decide (disch:=try exact D2 j5 b9) only[go_sem,j5,b9]
   simp
  rintro _ J2 h2 ⟨k,rfl,hk,g5,g9⟩
  simp+decide (disch:=try exact D2 g5 hy) only[go_sem,g5,hy]
  refine Qb (fun hg2=> ?_) (fun hg2=> ?_)
  ·have hTl:(T++List.replicate k (0:Rat)).length=T.length+k:=by simp
   have hre:T++List.replicate (k+1) (0:Rat)=(T++List.replicate k 0)++[0]:=by rw[List.replicate_succ',List.append_assoc]
   generalize T++List.replicate k (0:Rat)=U at *
   simp+decide (disch:=try exact D2 g5 g9) only[go_sem,g5,g9]
   refine Qa hP ho0 rfl rfl rfl ?_
   generalize(0:Rat)=o at *
   simp+decide (disch:=try exact D2 g5 g9) only[go_sem,g5,g9]
   rw[Qaf (f:=PV.rat) (y:=o) (xs:=U) (ty':=51) (fz:=false) (T1 g9) Tr0 (by omega) hTl.symm (by omega) (by omega)]
   simp+decide (disch:=try exact D0) only[go_sem]
   refine Qo (b.length-1-T.length-(k+1)) (by omega) ⟨k+1,rfl,by omega,?_⟩
   rw[hre]
   simp+decide (disch:=try exact D0) only[go_sem]
   rfl
  ·have hk2:k=b.length-1-T.length:=by omega
   have hTl:(T++List.replicate k (0:Rat)).length=T.length+k:=by simp
   rw[<-hk2]at hst
   generalize T++List.replicate k (0:Rat)=U at *
   simp (disch:=decide) only[Qa3,Qbg,Qhq]
   simp+decide (disch:=try exact D4 g5 g9 j10 hz) only[go_sem,g5,g9,j10,hz]
   rw[Qaf (f:=PV.rat) (y:=z) (xs:=U) (ty':=51) (fz:=false) (T1 g9) Tr0 (by omega) hTl.symm (by omega) (by omega)]
   simp+decide (disch:=try exact D1 j10) only[go_sem,j10]
   refine Qo (bs.length-1-(i+1)) (by omega) ⟨i+1,rfl,by omega,?_⟩
   rw[hst]
   simp+decide (disch:=try exact D0) only[go_sem]
   simp[hTl]
 ·obtain rfl:i=bs.length-1:=by omega
  have hsn:List.take (Qg4 bs x (bs.length-1)).length ((Qg4 bs x (bs.length-1)).map PV.rat)=(Qg4 bs x (bs.length-1)).map PV.rat:=List.take_of_length_le (by simp)
  simp+decide (disch:=try exact E3 j5 b9 hsn) only[go_sem,j5,b9,Qac,List.contains_cons,List.contains_nil,List.flatMap_cons,List.flatMap_nil,List.append_nil,hsn]
  exact Qc rfl rfl
def c22:SFn:=⟨35,[.t 2,.t 3,.t 4],Zr (Zo (.mv 2 (.c .nilS))<|
 Zo (.mv 3 (.c .nilS))<|
 Zc 4 0 .nil)<| .seq (Zr (Zm 7 0<|
 Zq 8 false 72 [.t 7]<|
 Zu 9 8 .nil)<| .cond (.t 9) (Zr (Zo (.mv 2 (.c .nilS))<|
 Zo (.mv 3 (.c .nilS))<|
 Zc 4 1 .nil) .ret) .skip)<| .seq (Zr (Zm 10 0<|
 Zq 11 false 43 [.t 10]<|
 Zk 12 .gtr 11 2 .nil)<| .cond (.t 12) (Zr (Zo (.mv 2 (.c .nilS))<|
 Zo (.mv 3 (.c .nilS))<|
 Zc 4 8 .nil) .ret) .skip)<|Zr (Zm 13 0<|
 Zq 14 false 73 [.t 13]<|
 Zm 5 14 .nil)<| .seq (Zr (Zm 15 5<|
 Zn 16 15<|
 Zk 17 .gtr 16 40 .nil)<| .cond (.t 17) (Zr (Zo (.mv 2 (.c .nilS))<|
 Zo (.mv 3 (.c .nilS))<|
 Zc 4 4 .nil) .ret) .skip)<|Zr (Zm 18 0<|
 Zm 19 5<|
 Zq 20 false 74 [.t 18,.t 19]<|
 Zo (.alloc 6 3 24 (.agg [Zz 0,Zz 0,.nilS]))<|
 Zs 3 6 20 .nil)<|Zr (Zm 22 5<|
 Zh 23 3 6<|
 Zq 24 false 29 [.t 22,.t 23]<|
 Zm 21 24<|
 Zo (.ext 25 (.t 21) 0)<|
 Zo (.ext 26 (.t 21) 1)<|
 Zm 2 25<|
 Zm 4 26 .nil)<| .seq (Zr (Zm 27 4<|
 Zk 28 .eql 27 17 .nil)<| .cond (.t 28) (Zr (Zm 29 0<|
 Zm 30 5<|
 Zh 31 3 6<|
 Zq 32 false 75 [.t 29,.t 30,.t 31]<|
 Zo (.mv 2 (.c .nilS))<|
 Zm 3 32<|
 Zc 4 17 .nil) .ret) .skip)<|Zr (Zm 33 2<|
 Zm 34 4<|
 Zm 2 33<|
 Zo (.mv 3 (.c .nilS))<|
 Zm 4 34 .nil) .ret⟩
theorem Qarc:Qe Tryz.prog Tryz.f22=some c22:=by kernel_rfl
theorem Q3q{p:List Tm}{bs:List (List Int)}{R n a m:Nat}{la W L x w:List Rat}{c:Rat}(hred:Qd Tryz.prog 48 [PV.mat R R la] (· = .tup [PV.rats W,PV.mat n R L,.int .i64 0]))(ha:a<W.length)(hWl:W.length<=1000)(hW:∀q∈W,rs q<2^36)(h1:∀j (h:j<W.length),j<a->0<=W[j])(h2:W[a]<0)
  (hpt:Qd Tryz.prog 138 [PV.mat n R L,.int .i64 (a:Nat)] (· =PV.rats x)) (hxl:x.length=m+1) (hm:m<=1000) (hxr:∀q∈x,rs q<2^30) (hc:x[m]'(by omega)=c) (hc0:c≠0) (hsp:Qd Tryz.prog 140 [PV.monos bs,PV.rats (x.map (· /c))] (· =PV.rats w)):
  Qd Tryz.prog 75 [PV.poly p,PV.monos bs,PV.mat R R la] (· =PV.rats w):=by
 have hcr:rs c<2^30:=by rw[<-hc];exact hxr _ (List.getElem_mem _)
 have hsc:=Qg0 (a:=c) (by omega)
 have hsz:= @Qav c
 refine Qf Qq Tryz.func75 rfl Qarb (by simp[c75]) fun C hP=> ?_;simp only[c75,Zo,Zg,Zm,Zc,Zf,Zl,Zh,Zs,Zi,Zb,Zk,Zn,Zu,Zq,Zr,Zz]
 simp+decide (disch:=try exact D0) only[go_sem]
 refine Qa hP hred rfl rfl rfl ?_
 simp+decide (disch:=try exact D0) only[go_sem]
 refine Qz (by repeat (first|exact Qn|exact Qi|exact Qj|exact Qk|exact Ql|apply Qh|apply Qm|apply Qt|apply Qx|apply Qy|apply Qg|apply Qr)) [(10,10),(24,31)] [] (fun q J hp=>∃i,q=a-i/\i<=a/\J 10= .int .i64 (i:Nat)/\hp 8=some ⟨3,24,[PV.mat n R L],false⟩) a ?_ ?_
 ·refine⟨0,rfl,by omega,?_⟩
  simp+decide (disch:=try exact D0) only[go_sem]
  rfl
 rintro _ J h' ⟨i,rfl,hi,j10,b8⟩
 have hiW:i<W.length:=by omega
 have hwr:=hW _ (List.getElem_mem hiW)
 have hsg:=Qg0 (a:=W[i]) hwr
 have hsn:= @Qol W[i]
 by_cases hia:i=a
 ·subst hia
  have hneg:=hsn.2 h2
  generalize hy:W[i]=y at *
  simp+decide (disch:=try exact D2 j10 hy) only[go_sem,j10,hy]
  refine Qa hP hsg rfl rfl rfl ?_
  simp+decide (disch:=try exact D0) only[go_sem]
  refine Qb (fun h0=>absurd h0 (by omega)) (fun _=> ?_)
  simp+decide (disch:=try exact D2 j10 b8) only[go_sem,j10,b8]
  refine Qa hP hpt rfl rfl rfl ?_
  have hlm:(x.length:Int)-1=((m:Nat):Int):=by omega
  simp+decide (disch:=try exact D2 hlm hc) only[go_sem,hlm,hc]
  refine Qa hP hsc rfl rfl rfl ?_
  simp+decide (disch:=try exact D0) only[go_sem]
  refine Qb (fun h0=>absurd (hsz.1 h0) hc0) (fun _=> ?_)
  simp+decide (disch:=try exact D0) only[go_sem]
  refine Qce 13 900 3 51 (by omega) T0 ?_
  refine Qz (by repeat (first|exact Qn|exact Qi|exact Qj|exact Qk|exact Ql|apply Qh|apply Qm|apply Qt|apply Qx|apply Qy|apply Qg|apply Qr)) [(13,13),(15,17),(50,64)] [15,16,62,63,900] (fun q J hp=>∃i,q=x.length-i/\i<=x.length/\J 13= .ms 900 i/\J 50= .int .i64 (i:Nat)/\hp 12=some ⟨3,51,[PV.rat c],false⟩/\hp 900=some ⟨3,51,((x.take i).map (· /c)).map PV.rat,false⟩) x.length ?_ ?_
  ·refine⟨0,rfl,by omega,?_⟩
   simp+decide (disch:=try exact D1 hxl) only[go_sem,hxl]
   rfl
  rintro _ J2 h2' ⟨i,rfl,hi2,g13,g50,c12,c9⟩
  simp+decide (disch:=try exact D1 g50) only[go_sem,g50]
  refine Qb (fun hg=> ?_) (fun hg=> ?_)
  ·have hi':i<x.length:=by omega
   have hxi:=hxr _ (List.getElem_mem hi')
   have htk:(x.take (i+1)).map (· /c)=(x.take i).map (· /c)++[x[i]/c]:=by
    rw[List.take_succ_eq_append_getElem hi',List.map_append];rfl
   have hTl:((x.take i).map (· /c)).length=i:=by rw[List.length_map,List.length_take];omega
   generalize(x.take i).map (· /c)=T at *
   generalize hz:x[i]=z at *
   have hdv:=Qva (a:=z) (b:=c) (k:=2^30) (by omega) (by omega) (by omega) hc0
   simp+decide (disch:=first|omega|rfl|(simp+decide only[go_sem,g13,g50,c12,c9,hz]<;>rfl)|fail) only[go_sem,g13,g50,c12,c9,hz]
   refine Qa hP hdv rfl rfl rfl ?_
   generalize z/c=u at *
   simp+decide (disch:=first|omega|rfl|(simp+decide only[go_sem,g13,g50,c12,c9]<;>rfl)|fail) only[go_sem,g13,g50,c12,c9]
   rw[Qaf (f:=PV.rat) (y:=u) (xs:=T) (ty':=51) (fz:=false) (T1 c9) Tr0 (by omega) hTl.symm (by omega) (by omega)]
   simp+decide (disch:=try exact D1 g50) only[go_sem,g50]
   refine Qo (x.length-(i+1)) (by omega) ⟨i+1,rfl,by omega,?_⟩
   rw[htk]
   simp+decide (disch:=first|omega|rfl|(simp+decide only[go_sem,c12]<;>rfl)|fail) only[go_sem,c12]
  ·obtain rfl:i=x.length:=by omega
   rw[List.take_length]at c9
   have hsn2:List.take x.length ((x.map (· /c)).map PV.rat)=(x.map (· /c)).map PV.rat:=List.take_of_length_le (by simp)
   simp+decide (disch:=try exact D2 g13 c9) only[go_sem,g13,c9]
   refine Qdr hP hsp (Ur2 hsn2 c9) rfl ?_
   simp+decide (disch:=try exact E0) only[go_sem,Qac,List.contains_cons,List.contains_nil,List.flatMap_cons,List.flatMap_nil,List.append_nil]
   exact Qc rfl rfl
 ·have h1i:=h1 i hiW (by omega)
  have hnn:¬Qee W[i]<0:=fun h=>by have:=hsn.1 h;grind
  generalize hy:W[i]=y at *
  simp+decide (disch:=try exact D2 j10 hy) only[go_sem,j10,hy]
  refine Qa hP hsg rfl rfl rfl ?_
  simp+decide (disch:=try exact D0) only[go_sem]
  refine Qb (fun _=> ?_) (fun h0=>absurd h0 (by omega))
  simp+decide (disch:=try exact D1 j10) only[go_sem,j10]
  refine Qo (a-(i+1)) (by omega) ⟨i+1,rfl,by omega,?_⟩
  simp+decide (disch:=try exact D1 b8) only[go_sem,b8]
theorem Qard{p:List Tm}:∀b∈bsP p,MB 1 b/\b.length<=64/\b.getLast? ≠some 0:=fun b hb=>by
 rcases List.mem_append.1 hb with hb|hb
 ·obtain⟨v,hv,rfl⟩:=List.mem_map.1 hb
  have:=Q45 hv
  exact⟨Q4j this,by simp[Qc6];omega,Qxr (by omega)⟩
 ·rw[List.mem_singleton.1 hb]
  exact⟨⟨by simp,by simp,by simp⟩,by simp,by simp⟩
theorem Qmv{p:List Tm}{K E:Nat}{L:List Sq}{e:Int}{w:List Rat}(hb:PB K E p)(hE:E<=2^29)(hK:K<=2^30)(hK1:1<=K)(hlp:p.length<=2^30)(hr:Qd Tryz.prog 72 [PV.poly p] (· = .bool true))(hd:Qta p<=2)(hn:(bsP p).length<=40)
  (hF:Qd Tryz.prog 29 [PV.monos (bsP p),PV.mat (bsP p).length (bsP p).length (Qj0 p (bsP p))] (· = .tup [PV.sqs L,.int .i64 e]))
  (hN:e=17->L=[]/\Qd Tryz.prog 75 [PV.poly p,PV.monos (bsP p),PV.mat (bsP p).length (bsP p).length (Qj0 p (bsP p))] (· =PV.rats w)) (hw:e≠17->w=[]):
  Qd Tryz.prog 22 [PV.poly p] (· = .tup [PV.sqs L,PV.rats w,.int .i64 e]):=by
 have hdg:=Qyo hb (by omega) (by omega)
 have hba:=Qahc (fun t ht=>(hb t ht).m) (show p.length<=2^36 by omega)
 have hgr:=Qanf (bs:=bsP p) (F:=1) hb (fun b h=>(Qard b h).1) (by omega) hE hlp (by omega) hK hK1
 generalize bsP p=bs at *
 generalize Qj0 p bs=la at *
 refine Qf Qq Tryz.func22 rfl Qarc (by simp[c22]) fun C hP=> ?_;simp only[c22,Zo,Zg,Zm,Zc,Zf,Zl,Zh,Zs,Zi,Zb,Zk,Zn,Zu,Zq,Zr,Zz]
 simp+decide (disch:=try exact D0) only[go_sem]
 refine Qa hP hr rfl rfl rfl ?_
 simp+decide (disch:=try exact D0) only[go_sem]
 refine Qa hP hdg rfl rfl rfl ?_
 simp+decide (disch:=try exact D0) only[go_sem]
 refine Qb (fun h0=>absurd h0 (by omega)) (fun _=> ?_)
 simp+decide (disch:=try exact D0) only[go_sem]
 refine Qa hP hba rfl rfl rfl ?_
 simp+decide (disch:=try exact D0) only[go_sem]
 refine Qb (fun h0=>absurd h0 (by omega)) (fun _=> ?_)
 simp+decide (disch:=try exact D0) only[go_sem]
 refine Qa hP hgr rfl rfl rfl ?_
 simp+decide (disch:=try exact D0) only[go_sem]
 refine Qa hP hF rfl rfl rfl ?_
 simp+decide (disch:=try exact D0) only[go_sem]
 refine Qb (fun h0=> ?_) (fun h0=> ?_)
 ·obtain⟨rfl,hN2⟩:=hN h0
  subst h0
  simp+decide (disch:=try exact D0) only[go_sem]
  refine Qa hP hN2 rfl rfl rfl ?_
  simp+decide (disch:=try exact D0) only[go_sem]
  exact Qhi (r:= .tup [PV.sqs [],PV.rats w,.int .i64 17]) rfl rfl rfl rfl Q44 (Qab _) (Qab _)
 ·obtain rfl:=hw h0
  simp+decide (disch:=try exact D0) only[go_sem]
  exact Qhi (r:= .tup [PV.sqs L,PV.rats [],.int .i64 e]) rfl rfl rfl rfl (Qab _) trivial (Qab _)
theorem Qqk(a b:List Int):Qgj 0 a b=Qau a b:=by unfold Qgj;rw[if_neg (by simp)]
end Go.Proofs.YtkoclfmjlolkhaaGreat
namespace Go.FW
open Go
def pbB(K E:Nat)(p:List Tm):Bool:=p.all fun t=>decide (rs t.1+1<=K)&&(decide (t.2.length<=64)&&((t.2.all fun x=>decide (0<=x)&&decide (x<=E))&&decide (t.2.getLast? ≠some 0)))
theorem Qpm{K E:Nat}{p:List Tm}(h:pbB K E p=true):PB K E p:=fun t ht=>by
 have:=List.all_eq_true.1 h t ht
 simp only[Bool.and_eq_true,decide_eq_true_eq,List.all_eq_true]at this
 obtain⟨h1,h2,h3,h4⟩:=this
 exact⟨h1,⟨h2,fun x hx=>(h3 x hx).1,fun x hx=>(h3 x hx).2⟩,h4⟩
def Qyw:List Tm->Bool
 | []=>true
 |t::p=>(p.all fun s=>decide (0<Qau t.2 s.2))&&Qyw p
theorem Q46:∀ {p:List Tm},Qyw p=true->Qcz p
 | [],_=>trivial
 |t::p,h=>by
  simp only[Qyw,Bool.and_eq_true,List.all_eq_true,decide_eq_true_eq]at h
  exact⟨h.1,Q46 h.2⟩
def nrmB(p:List Tm):Bool:=(p.all fun t=>decide (t.1≠0)&&decide (t.2.getLast? ≠some 0))&&Qyw p
theorem Qvn{p:List Tm}(h:nrmB p=true):Nrm p:=by
 simp only[nrmB,Bool.and_eq_true,List.all_eq_true,decide_eq_true_eq]at h
 exact⟨fun t ht=>(h.1 t ht).2,fun t ht=>(h.1 t ht).1,Q46 h.2⟩
end Go.FW
