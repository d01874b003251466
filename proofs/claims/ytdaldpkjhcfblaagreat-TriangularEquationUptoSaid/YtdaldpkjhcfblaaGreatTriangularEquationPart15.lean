/- Part 15 of the proof of TriangularEquation: TR8, FwWA, FwWB, FwWC, FwWD, FwUK, FwWE, FwWF, FwWG, FwVD, FwWH, FwVG, FwYB, FwYC, FwYD, FwYE, FwYF. Own lemmas; no conditions. -/
import Derived.Test.YtdaldpkjhcfblaaGreatTriangularEquationPart14
set_option maxHeartbeats 1000000
set_option linter.unusedSimpArgs false
set_option linter.unusedVariables false
set_option linter.unnecessarySimpa false
set_option maxRecDepth 100000
namespace Go.Proofs.YtdaldpkjhcfblaaGreat
open Go Go.FW
def c59:SFn:=⟨44,[.t 2,.t 3],.seq (.rg (.o none (.mv 2 (.c .nilS))<|
 .o none (.mv 3 (.c (.int .i64 0))) .nil))<| .seq (.rg (.o none (.mv 4 (.c .nilS)) .nil))<| .seq (.seq (.rg (.o none (.mv 10 (.t 0))<|
 .o none (.len 11 (.t 10))<|
 .o none (.mv 12 (.c (.int .i64 0))) .nil))<| .block 0 (.loop (.seq (.rg (.o none (.bin 13 .lss false (.t 12) (.t 11)) .nil))<| .seq (.cond (.t 13) (.skip) (.exit 0))<| .seq (.block 1 (.seq (.rg (.o none (.mv 14 (.t 12))<|
 .o none (.idx 15 1 (.t 10) (.t 12))<|
 .o none (.ld 16 1 false (.t 15))<|
 .o none (.mv 5 (.t 14))<|
 .o none (.mv 6 (.t 16)) .nil))<| .seq (.rg (.o none (.mv 17 (.t 0))<|
 .o none (.len 18 (.t 17))<|
 .o none (.mk 19 1 24 23 .nilS (.t 18) (.t 18))<| .wk<|
 .o none (.mv 7 (.t 19)) .nil))<| .seq (.rg (.o none (.mv 20 (.t 7))<|
 .o none (.mv 21 (.t 5))<|
 .o none (.call (some 22) false (.c (.fn 32 [] [])) [(.c (.int .i64 1))])<|
 .o none (.call (some 23) false (.c (.fn 75 [] [])) [(.t 22)])<|
 .o none (.idx 24 1 (.t 20) (.t 21))<|
 .o none (.st 1 (.t 24) (.t 23)) .nil))<| .seq (.rg (.o none (.mv 26 (.t 6))<|
 .o none (.mv 27 (.t 7))<|
 .o none (.call (some 28) false (.c (.fn 103 [] [])) [(.t 26),(.t 27)])<|
 .o none (.mv 25 (.t 28))<|
 .o none (.ext 29 (.t 25) 0)<|
 .o none (.ext 30 (.t 25) 1)<|
 .o none (.alloc 8 2 62 (.agg [.nilS,.nilS]))<|
 .o none (.st 2 (.t 8) (.t 29))<|
 .o none (.mv 9 (.t 30)) .nil))<| .seq (.seq (.rg (.o none (.mv 31 (.t 9))<|
 .o none (.bin 32 .neq false (.t 31) (.c (.int .i64 0))) .nil))<| .cond (.t 32) (.seq (.rg (.o none (.mv 33 (.t 9))<|
 .o none (.mv 2 (.c .nilS))<|
 .o none (.mv 3 (.t 33)) .nil))<| .ret) (.skip))<| .seq (.rg (.o none (.fld 34 0 (.t 8))<|
 .o none (.ld 35 1 false (.t 34))<|
 .o none (.len 36 (.t 35))<|
 .o none (.bin 37 .gtr false (.t 36) (.c (.int .i64 0))) .nil))<| .cond (.t 37) (.rg (.o none (.mv 38 (.t 4))<|
 .o none (.ld 39 2 true (.t 8))<|
 .o none (.bs 40 2 62 [(.t 39)])<|
 .o none (.app 41 2 48 62 (.t 38) (.t 40))<|
 .o none (.mv 4 (.t 41)) .nil)) (.skip)))<| .rg (.o none (.bin 42 .add false (.t 12) (.c (.int .i64 1)))<|
 .o none (.mv 12 (.t 42)) .nil))))<| .seq (.rg (.o none (.mv 43 (.t 4))<|
 .o none (.mv 2 (.t 43))<|
 .o none (.mv 3 (.c (.int .i64 0))) .nil))<| .ret⟩
theorem Qap9:Qe Tryz.prog Tryz.f59=some c59.strip:=by kernel_rfl
def Qr3(n i:Nat):List (List Tm):=(List.replicate n []).set i (Qbe ((1:Int):Rat))
def Qri(R:Nat->List Tm×List (List Tm))(i:Nat):List (List Tm×List (List Tm)):=if 0<(R i).1.length then [R i]else []
def Qno(R:Nat->List Tm×List (List Tm))(i:Nat):List (List Tm×List (List Tm)):=(List.range i).flatMap (Qri R)
theorem Q12(R:Nat->List Tm×List (List Tm)):∀i,(Qno R i).length<=i
 |0=>by simp[Qno]
 |i+1=>by
  have:=Q12 R i;unfold Qno at *
  rw[List.range_succ,List.flatMap_append,List.length_append];have h2:(([i]:List Nat).flatMap (Qri R)).length<=1:=by simp only[List.flatMap_cons,List.flatMap_nil,List.append_nil];unfold Qri;split<;>simp
  omega
theorem Qxf(n β ty:Nat):∀(fr:Fr)(hp:HP),hp β=some ⟨1,ty,List.replicate n PV.nilS,false⟩->Wk fr hp fr (Qv hp β ⟨1,ty,(List.replicate n ([]:List Tm)).map PV.poly,false⟩):=fun fr hp h=>by
 refine Qap8 h (by simp) fun i x x' hx hx'=>?_;rw[List.getElem?_replicate]at hx;rw[List.getElem?_map,List.getElem?_replicate]at hx';split at hx
 ·rename_i hi;cases hx;rw[if_pos hi]at hx';cases hx';refine⟨rfl,rfl,fun j y y' hy hy'=>?_⟩
  match j,hy,hy' with
  |0,hy,hy'=>simp[PV.cells]at hy hy';subst hy hy';exact trivial
  |j+1,hy,_=>simp[PV.cells]at hy
 ·cases hx
theorem Qak3{ps:List (List Tm)}{R:Nat->List Tm×List (List Tm)}(hl:ps.length<=100)(hpr:∀i (h:i<ps.length),Qd Tryz.prog 103 [PV.poly ps[i],PV.polys (Qr3 ps.length i)] (· = .tup [PV.el (R i),.int .i64 0]))(hR:∀i,i<ps.length->(R i).1.length<=2^30):
  Qd Tryz.prog 59 [PV.polys ps] (· = .tup [.sl 2 ((Qno R ps.length).map PV.el),.int .i64 0]):=by
 have h1:=Qnc;have hof:=Qij (x:=1) (by omega) (by omega);have hco:=Qyn (a:=((1:Int):Rat)) (k:=1) (by have:((1:Int):Rat)=1:=rfl;rw[this];exact h1) (by omega);refine Qrc Qj Tryz.func59 rfl Qap9 (by simp[c59]) fun C hP=>?_;simp only[c59];refine Sz0 ?_;refine Qes 4 900 2 62 (by omega) Tz0 ?_;refine Qy (by repeat (first|exact Qu|exact Qn|exact Qo|exact Qk|exact Qp|apply Qm|apply Qt|apply Qw|apply Q5|apply Q6|apply Qi|apply Qz)) [(2,9),(12,42)] [8,19,40,41,900] (fun m J hp=>∃i,m=ps.length-i/\i<=ps.length/\J 4= .ms 900 (Qno R i).length/\J 12= .int .i64 (i:Nat)/\hp 900=some ⟨2,62,(Qno R i).map PV.el,false⟩) ps.length ?_ ?_
 ·refine⟨0,rfl,by omega,?_⟩;refine Sz0 ?_
  first|rfl|exact⟨rfl,rfl⟩|exact⟨rfl,rfl,rfl⟩
 rintro _ J h ⟨i,rfl,hi,j4,j12,hh⟩;refine Sz2 j4 j12 ?_;refine Qb (fun hg=>?_) (fun hg=>?_)
 ·have c1:i<ps.length:=by omega
  have hp:=hpr i c1;have hRl:=hR i c1;have hln:=Q12 R i;have hst:Qno R (i+1)=Qno R i++Qri R i:=by unfold Qno;rw[List.range_succ,List.flatMap_append];simp
  unfold Qri at hst;generalize Qno R i=A at *
  generalize hx:ps[i]=x at *
  generalize R i=z at *
  refine Sz3 j4 j12 hx ?_;refine Qh0 (Qxf ps.length 19 23 _ _ Tz0) ?_;have lZ:(List.replicate ps.length ([]:List Tm)).length=ps.length:=List.length_replicate;unfold Qr3 at hp;generalize List.replicate ps.length ([]:List Tm)=Z at *
  have hiZ:i<Z.length:=by omega
  have hset:(Z.map PV.poly).set i (PV.poly (Qbe ((1:Int):Rat)))=(Z.set i (Qbe ((1:Int):Rat))).map PV.poly:=by rw[List.map_set]
  have hiL:i<(Z.map PV.poly).length:=by rw[List.length_map];omega
  have hlS:(Z.set i (Qbe ((1:Int):Rat))).length=ps.length:=by rw[List.length_set,lZ]
  refine Sz3 j4 j12 hx ?_;refine Qa hP hof rfl rfl rfl ?_;refine Sz3 j4 j12 hx ?_;refine Qa hP hco rfl rfl rfl ?_;refine Sz3 j4 j12 hx ?_;rw[Qqg (n:=1) (v:=PV.sl 4 ((Qbe ((1:Int):Rat)).map PV.term)) hiL rfl rfl];rw[show(Z.map PV.poly).set i (PV.sl 4 ((Qbe ((1:Int):Rat)).map PV.term))=(Z.set i (Qbe ((1:Int):Rat))).map PV.poly from hset];generalize Z.set i (Qbe ((1:Int):Rat))=Y at *
  refine Sz3 j4 j12 hx ?_;have e0:List.take ps.length (Y.map PV.poly)=Y.map PV.poly:=List.take_of_length_le (by rw[List.length_map];omega);refine Qcb hP hp (by simp+decide (disch:=first|omega|rfl|(simp+decide only[go_sem,↓reduceIte,hh,Qa6,List.contains_cons,List.contains_nil,List.flatMap_cons,List.flatMap_nil,List.append_nil,e0]<;>rfl)|fail) only[go_sem,↓reduceIte,hh,Qa6,List.contains_cons,List.contains_nil,List.flatMap_cons,List.flatMap_nil,List.append_nil,e0];try rfl) rfl ?_;refine Vz4 j4 j12 hx hh ?_;by_cases e3:0<z.1.length
  ·have q3:decide (0<(z.1.length:Int))=true:=decide_eq_true (by omega);rw[if_pos e3]at hst;refine Vz5 j4 j12 hx hh q3 ?_;rw[Qag (f:=PV.el) (y:=z) (xs:=A) (ty':=62) (fz:=false) (Uz1 hh) Qcv (by omega) rfl (by omega) (by omega)];refine Sz3 j4 j12 hx ?_;refine Qh (ps.length-(i+1)) (by omega) ⟨i+1,rfl,by omega,?_⟩;rw[hst];simp+decide (disch:=first|omega|rfl|(simp+decide only[go_sem,↓reduceIte,List.length_append]<;>rfl)|fail) only[go_sem,↓reduceIte,List.length_append]
   try trivial
  ·have q3:decide (0<(z.1.length:Int))=false:=decide_eq_false (by omega);rw[if_neg e3,List.append_nil]at hst;refine Vz5 j4 j12 hx hh q3 ?_;refine Qh (ps.length-(i+1)) (by omega) ⟨i+1,rfl,by omega,?_⟩;rw[hst];refine Vz2 j4 hh ?_
   try (first|trivial|exact⟨rfl,rfl⟩)
 ·obtain rfl:i=ps.length:=by omega
  refine Vz2 j4 hh ?_;refine Qkk ?_;refine Qhk ?_;refine Vz2 j4 hh ?_;exact Qf9 (by rw[List.take_of_length_le (by simp)]) rfl rfl (Q2 _) (Q2 _)
end Go.Proofs.YtdaldpkjhcfblaaGreat
namespace Go.FW
open Go
def n1:List Tm->Rat
 | []=>0
 |t::p=>Qdb t.1+n1 p
theorem Qdd:∀p,0<=n1 p
 | []=>Rat.le_refl
 |t::p=>by have h1:=Qdh t.1;have h2:=Qdd p;simp only[n1];grind
theorem Qr4(p q:List Tm):n1 (Q4 p q)<=n1 p+n1 q:=by
 induction p,q using Q4.induct with
 |case1 q=>rw[Qez];simp only[n1];grind
 |case2 p hp=>rw[Qcj];simp only[n1];grind
 |case3 c m p d l q h1 ih=>rw[Q4,if_pos h1];simp only[n1]at ih ⊢;grind
 |case4 c m p d l q h1 h2 ih=>rw[Q4,if_neg h1,if_pos h2];simp only[n1]at ih ⊢;grind
 |case5 c m p d l q h1 h2 h3 ih=>rw[Q4,if_neg h1,if_neg h2,if_pos h3];have g1:=Qdh c;have g2:=Qdh d;simp only[n1]at ih ⊢;grind
 |case6 c m p d l q h1 h2 h3 ih=>rw[Q4,if_neg h1,if_neg h2,if_neg h3];have g:=Qafx c d;simp only[n1]at ih⊢;grind
theorem Qrj(t:Tm):∀p:List Tm,n1 (Qad p t)<=Qdb t.1*n1 p
 | []=>by simp only[Qad,List.filterMap_nil,n1];grind
 |s::p=>by
  have ih:=Qrj t p;have g:=Qpo s.1 t.1;have g2:=Rat.mul_nonneg (Qdh t.1) (Qdh s.1);unfold Qad at ih⊢;rw[List.filterMap_cons];by_cases e:s.1*t.1=0
  ·rw[if_pos e];simp only[n1];grind
  ·rw[if_neg e];simp only[n1];grind
def n1s:List (List Tm)->Rat
 | []=>0
 |p::l=>n1 p+n1s l
theorem Qv2:∀a b:List (List Tm),n1s (a++b)=n1s a+n1s b
 | [],b=>by simp only[List.nil_append,n1s];grind
 |p::a,b=>by simp only[List.cons_append,n1s];rw[Qv2 a b];grind
theorem Q4m(l:List (List Tm)):n1 (Qbn l)<=n1s l:=by
 induction l using Qbn.induct with
 |case1=>rw[Qbn];exact Rat.le_refl
 |case2 p=>rw[Qbn];simp only[n1s];grind
 |case3 p q r h1 h2=>rw[Qbn];have h3:=Qr4 (Qbn ((p::q::r).take ((p::q::r).length/2))) (Qbn ((p::q::r).drop ((p::q::r).length/2)));have h4:=Qv2 ((p::q::r).take ((p::q::r).length/2)) ((p::q::r).drop ((p::q::r).length/2));rw[List.take_append_drop]at h4;rw[h4];grind
theorem Qrk(q:List Tm):∀p:List Tm,n1s (p.map (Qad q))<=n1 p*n1 q
 | []=>by simp only[List.map_nil,n1s,n1];grind
 |t::p=>by have ih:=Qrk q p;have h:=Qrj t q;simp only[List.map_cons,n1s,n1];grind
theorem Qob(p q:List Tm):n1 (Qx p q)<=n1 p*n1 q:=by
 unfold Qx;split
 ·have h1:=Q4m (q.map (Qad p));have h2:=Qrk p q;unfold Qhy;grind
 ·have h1:=Q4m (p.map (Qad q));have h2:=Qrk q p;unfold Qhy;grind
def Dn(D:Nat)(p:List Tm):Prop:=∀t∈p,IsI (t.1*(D:Rat))
theorem Qr5{D:Nat}(p q:List Tm):Dn D p->Dn D q->Dn D (Q4 p q):=by
 induction p,q using Q4.induct with
 |case1 q=>intro _ h;rwa[Qez]
 |case2 p hp=>intro h _;rwa[Qcj]
 |case3 c m p d l q h1 ih=>
  intro hp hq;rw[Q4,if_pos h1];intro t ht;rcases List.mem_cons.1 ht with rfl|ht
  ·exact hp _ (List.mem_cons_self ..)
  ·exact ih (fun t ht=>hp t (List.mem_cons_of_mem _ ht)) hq t ht
 |case4 c m p d l q h1 h2 ih=>
  intro hp hq;rw[Q4,if_neg h1,if_pos h2];intro t ht;rcases List.mem_cons.1 ht with rfl|ht
  ·exact hq _ (List.mem_cons_self ..)
  ·exact ih hp (fun t ht=>hq t (List.mem_cons_of_mem _ ht)) t ht
 |case5 c m p d l q h1 h2 h3 ih=>intro hp hq;rw[Q4,if_neg h1,if_neg h2,if_pos h3];exact ih (fun t ht=>hp t (List.mem_cons_of_mem _ ht)) fun t ht=>hq t (List.mem_cons_of_mem _ ht)
 | case6 c m p d l q h1 h2 h3 ih=>
  intro hp hq;rw[Q4,if_neg h1,if_neg h2,if_neg h3];intro t ht;rcases List.mem_cons.1 ht with rfl|ht
  ·have a:=hp (c,m) (List.mem_cons_self ..);have b:=hq (d,l) (List.mem_cons_self ..);show IsI ((c+d)*(D:Rat));rw[Rat.add_mul];exact a.add b
  ·exact ih (fun t ht=>hp t (List.mem_cons_of_mem _ ht)) (fun t ht=>hq t (List.mem_cons_of_mem _ ht)) t ht
theorem Q4n{D:Nat}(l:List (List Tm)):(∀p∈l,Dn D p)->Dn D (Qbn l):=by
 induction l using Qbn.induct with
 |case1=>intro _;rw[Qbn];intro t ht;cases ht
 |case2 p=>intro h;rw[Qbn];exact h p (List.mem_cons_self ..)
 |case3 p q r h1 h2=>intro h;rw[Qbn];exact Qr5 _ _ (h1 fun x hx=>h x (List.mem_of_mem_take hx)) (h2 fun x hx=>h x (List.mem_of_mem_drop hx))
theorem Qrl{D D':Nat}{t:Tm}(ht:IsI (t.1*(D':Rat))){p:List Tm}(hp:Dn D p):Dn (D*D') (Qad p t):=by
 intro x hx;simp only[Qad,List.mem_filterMap]at hx;obtain⟨s,hs,e⟩:=hx;split at e
 ·cases e
 ·obtain rfl:(s.1*t.1,Qay s.2 t.2)=x:=by simpa using e
  have:=(hp s hs).mul ht;show IsI (s.1*t.1*((D*D':Nat):Rat));rw[Rat.natCast_mul,show s.1*t.1*((D:Rat)*(D':Rat))=s.1*(D:Rat)*(t.1*(D':Rat))by grind];exact this
theorem Qoc{D D':Nat}{p q:List Tm}(hp:Dn D p)(hq:Dn D' q):Dn (D*D') (Qx p q):=by
 unfold Qx;split
 ·refine Q4n _ fun x hx=>?_;obtain⟨t,ht,rfl⟩:=List.mem_map.1 hx;exact Qrl (hq t ht) hp
 ·refine Q4n _ fun x hx=>?_;obtain⟨t,ht,rfl⟩:=List.mem_map.1 hx;rw[Nat.mul_comm];exact Qrl (hp t ht) hq
theorem Qaaq:∀ {p:List Tm} {t:Tm},t∈p->Qdb t.1<=n1 p
 | s::p,t,ht=>by
  have h1:=Qdd p;have h2:=Qdh s.1;simp only[n1];rcases List.mem_cons.1 ht with rfl|ht
  ·grind
  ·have:=Qaaq ht;grind
theorem Qaf5{D N:Nat}{p:List Tm}(hD:0<D)(hN:0<N)(hp:Dn D p)(hn:n1 p<=(N:Rat)){t:Tm}(ht:t∈p):rs t.1<=nl (N*D)+nl D+2:=by
 obtain⟨z,hz⟩:=hp t ht;have hT:=Qaaq ht;have hNt:Qdb t.1<=(N:Rat):=by grind
 have hXr:((D:Int):Rat)≠0:=by rw[Ne,Rat.intCast_eq_zero_iff];omega
 have e:t.1=(z:Rat)/((D:Int):Rat):=by rw[<-hz,Rat.intCast_natCast];rw[Rat.intCast_natCast]at hXr;grind
 have hzl:z.natAbs<=N*D:=by
  have h2:Qdb (z:Rat)=Qdb t.1*(D:Rat):=by rw[<-hz,Qpo];congr 1;rw[<-Rat.intCast_natCast,Qjs,Int.natAbs_natCast,Rat.intCast_natCast]
  rw[Qjs]at h2;have h3:(0:Rat)<=(D:Rat):=by rw[<-Rat.intCast_natCast,show(0:Rat)=((0:Int):Rat)from rfl,Rat.intCast_le_intCast];omega
  have h4:=Rat.mul_le_mul_of_nonneg_right hNt h3;rw[<-h2,<-Rat.natCast_mul,<-Rat.intCast_natCast,<-Rat.intCast_natCast,Rat.intCast_le_intCast]at h4;omega
 have hr:=Q1y z (D:Int) (by omega);rw[<-e,Int.natAbs_natCast]at hr;have g1:=Qbm hzl;omega
def XB(E:Nat)(p:List Tm):Prop:=∃K,PB K E p
theorem XB.padd{E:Nat}{p q:List Tm}:XB E p->XB E q->XB E (FW.Q4 p q):=fun⟨_,h⟩ ⟨_,g⟩=>⟨_,Qhm p q h g⟩
theorem XB.psum{E:Nat}(l:List (List Tm)):(∀p∈l,XB E p)->XB E (FW.Qbn l):=by
 induction l using FW.Qbn.induct with
 |case1=>intro _;rw[FW.Qbn];exact⟨0,PB.nil _ _⟩
 |case2 p=>intro h;rw[FW.Qbn];exact h p (List.mem_cons_self ..)
 |case3 p q r h1 h2=>intro h;rw[FW.Qbn];exact XB.padd (h1 fun x hx=>h x (List.mem_of_mem_take hx)) (h2 fun x hx=>h x (List.mem_of_mem_drop hx))
theorem XB.pmul{E F:Nat}{p q:List Tm}:XB E p->XB F q->XB (E+F) (FW.Qx p q):=fun⟨K,h⟩ ⟨L,g⟩=>by
 unfold FW.Qx;split
 ·refine XB.psum _ fun x hx=>?_;obtain⟨t,ht,rfl⟩:=List.mem_map.1 hx;exact⟨K+L,Qf3 h (g t ht)⟩
 ·refine XB.psum _ fun x hx=>?_;obtain⟨t,ht,rfl⟩:=List.mem_map.1 hx;rw[Nat.add_comm];exact⟨L+K,Qf3 g (h t ht)⟩
structure SZ(a b E:Nat)(p:List Tm):Prop where
 d:∃D N:Nat,0<D/\0<N/\nl D<=a/\nl N<=b/\Dn D p/\n1 p<=(N:Rat)
 x:XB E p
theorem SZ.mono{a b E a' b' E':Nat}{p:List Tm}(h:SZ a b E p)(ha:a<=a')(hb:b<=b')(hE:E<=E'):SZ a' b' E' p:=by obtain⟨⟨D,N,h1,h2,h3,h4,h5,h6⟩,K,hx⟩:=h;exact⟨⟨D,N,h1,h2,by omega,by omega,h5,h6⟩,K,hx.mono (Nat.le_refl _) hE⟩
theorem Dn.dvd{D D':Nat}{p:List Tm}(h:Dn D p)(hd:D∣D'):Dn D' p:=fun t ht=>by obtain⟨k,rfl⟩:=hd;rw[Rat.natCast_mul,<-Rat.mul_assoc];exact(h t ht).mul (IsI.nat k)
theorem SZ.pmul{a b E a' b' E':Nat}{p q:List Tm}(hp:SZ a b E p)(hq:SZ a' b' E' q):SZ (a+a') (b+b') (E+E') (FW.Qx p q):=by
 obtain⟨⟨D,N,h1,h2,h3,h4,h5,h6⟩,hx⟩:=hp;obtain⟨⟨D',N',g1,g2,g3,g4,g5,g6⟩,gx⟩:=hq;have e1:=Qdl D D';have e2:=Qdl N N';refine⟨⟨D*D',N*N',Nat.mul_pos h1 g1,Nat.mul_pos h2 g2,by omega,by omega,Qoc h5 g5,?_⟩,hx.pmul gx⟩;have m1:=Qob p q;have m2:=Rat.mul_le_mul_of_nonneg_right h6 (Qdd q);have n0:(0:Rat)<=(N:Rat):=by have:=Qdd p;grind
 have m3:=Rat.mul_le_mul_of_nonneg_left g6 n0;rw[Rat.natCast_mul];grind
theorem SZ.padd{a b E a' b':Nat}{p q:List Tm}(hp:SZ a b E p)(hq:SZ a' b' E q):SZ (a+a') (max b b'+1) E (FW.Q4 p q):=by obtain⟨⟨D,N,h1,h2,h3,h4,h5,h6⟩,hx⟩:=hp;obtain⟨⟨D',N',g1,g2,g3,g4,g5,g6⟩,gx⟩:=hq;have e1:=Qdl D D';have e2:=Qny N N';refine⟨⟨D*D',N+N',Nat.mul_pos h1 g1,by omega,by omega,by omega,Qr5 p q (h5.dvd (Nat.dvd_mul_right _ _)) (g5.dvd (Nat.dvd_mul_left _ _)),?_⟩,hx.padd gx⟩;have m1:=Qr4 p q;rw[Rat.natCast_add];grind
theorem SZ.PB{a b E:Nat}{p:List Tm}(h:SZ a b E p):PB (a+b+a+3) E p:=fun t ht=>by obtain⟨⟨D,N,h1,h2,h3,h4,h5,h6⟩,K,hx⟩:=h;have hr:=Qaf5 h1 h2 h5 h6 ht;have e:=Qdl N D;exact⟨by omega,(hx t ht).m,(hx t ht).l⟩
theorem Qxg:∀p:List Tm,n1 p<=((Qja p:Nat):Rat)
 | []=>Rat.le_refl
 |t::p=>by have h1:=Qxg p;have h2:=Q3a t.1;have e:Qja (t::p)=t.1.num.natAbs+Qja p:=rfl;rw[e,Rat.natCast_add];simp only[n1];grind
theorem SZ.of{K E L:Nat}{p:List Tm}(h:FW.PB K E p)(hl:p.length<=L):SZ (L*K+1) (L+K+2) E p:=by
 have h1:=Qakv h;have h2:=Qakw h;have h3:=Qny (Qja p) 1;have h4:nl 1<=1:=by rw[Qex];exact Nat.le_refl 1
 have h5:p.length*K<=L*K:=Nat.mul_le_mul_right _ hl;have h6:=Qbm (show Qja p<=Qja p+1 by omega);by_cases hz:nl (Qja p)=0
 ·refine⟨⟨Qnn p,Qja p+1,Q1z p,by omega,by omega,by omega,fun t ht=>Q4k (Qtw ht),?_⟩,K,h⟩;have:=Qxg p;rw[Rat.natCast_add];have:(0:Rat)<=((1:Nat):Rat):=by decide
  grind
 ·refine⟨⟨Qnn p,Qja p,Q1z p,Nat.pos_of_ne_zero fun e=>hz (Qiu.2 e),by omega,by omega,fun t ht=>Q4k (Qtw ht),Qxg p⟩,K,h⟩
theorem Nrm.drop{p:List Tm}(h:Nrm p):∀k,Nrm (p.drop k)
 |0=>h
 |k+1=>by
  have:=Nrm.drop h k;rw[<-List.drop_drop];cases hd:p.drop k with
  |nil=>simpa using Nrm.nil
  |cons t l=>rw[hd]at this;simpa using this.tail
structure Sml(p:List Tm):Prop where
 z:SZ 64 64 64 p
 l:p.length<=64
 n:Nrm p
structure Big(p:List Tm):Prop where
 z:SZ (2097152) (2097152) (16384) p
 l:p.length<=131072
 n:Nrm p
structure SmlW(k:Nat)(p:List Tm):Prop where
 z:SZ (64*k) (64*k) (64*k) p
 l:p.length<=64
 n:Nrm p
theorem Sml.w{p:List Tm}(h:Sml p):SmlW 1 p:=⟨h.z.mono (by omega) (by omega) (by omega),h.l,h.n⟩
theorem SmlW.PB{k:Nat}{p:List Tm}(h:SmlW k p)(hk:k<=512):PB 131072 32768 p:=h.z.PB.mono (by omega) (by omega)
theorem Sml.PB{p:List Tm}(h:Sml p):PB 256 64 p:=h.z.PB.mono (by omega) (by omega)
theorem Big.PB{p:List Tm}(h:Big p):FW.PB (8388608) (16384) p:=h.z.PB.mono (by omega) (by omega)
structure Prd(m:Nat)(p:List Tm):Prop where
 z:SZ (m*64+1) (m*64+2) (m*64) p
 n:Nrm p
 l:p.length<=4000
theorem Prd.PB{m:Nat}{p:List Tm}(h:Prd m p)(hm:m<=2048):FW.PB (524288) (131072) p:=h.z.PB.mono (by omega) (by omega)
theorem SZ.one:SZ 1 1 0 (Qbe 1):=by
 have e:Qbe 1=[((1:Rat),[])]:=by unfold Qbe;rw[if_neg (by decide)]
 rw[e];refine⟨⟨1,1,by omega,by omega,by rw[Qex];omega,by rw[Qex];omega,fun t ht=>?_,?_⟩,3,fun t ht=>?_⟩
 ·obtain rfl:t=(1,[]):=by simpa using ht
  exact⟨1,by decide+kernel⟩
 ·simp only[n1];decide+kernel
 ·obtain rfl:t=(1,[]):=by simpa using ht
  refine⟨?_,⟨by simp,by simp,by simp⟩,by simp⟩;show rs 1+1<=3;have:=Qnc;omega
theorem Prd.one:Prd 0 (Qbe 1):=⟨SZ.one.mono (by omega) (by omega) (by omega),Qhq 1,by unfold Qbe;rw[if_neg (by decide)];simp⟩
structure Cf(j:Nat)(p:List Tm):Prop where
 d:∃D N:Nat,0<D/\0<N/\nl D<=31+120000*j/\nl N<=13+75000*j/\Dn D p/\n1 p<=(N:Rat)
 w:∀t∈p,psi t.2<=6560
 pos:Pos p
 ml:ML 4 p
 n:Nrm p
theorem Cf.mono{i j:Nat}{p:List Tm}(h:Cf i p)(hij:i<=j):Cf j p:=by obtain⟨⟨D,N,h1,h2,h3,h4,h5,h6⟩,h7,h8,h9,h10⟩:=h;exact⟨⟨D,N,h1,h2,by omega,by omega,h5,h6⟩,h7,h8,h9,h10⟩
structure Qaar(hp:HP)(p:PV)(cs:List PV)(rs:List Nat):Prop where
 d:(Qaa hp p).isData=true
 c:(Qaa hp p).cells=cs
 r:p.refs=rs
 n:p.isNst=false
theorem Qaar.flat{hp:HP}{p:PV}(h:p.flat=true):Qaar hp p p.cells []:=by obtain⟨s1,s2,s3⟩:=Qen (hp:=hp) h;exact⟨by rw[s1];exact s3,by rw[s1],s2,Qos h⟩
theorem Qr6{fr:Fr}{hp:HP}{K:Qg}{ty i d:Nat}{fz:Bool}{l:List (List Tm)}(h:i<l.length):ldM (some ⟨1,ty,l.map PV.poly,fz⟩) 1 false i 0 d fr hp K=K (upd fr d (PV.poly (l[i]'h))) hp:=by
 have hi:i<(l.map PV.poly).length:=by simpa using h
 simp[ldM,h,ldV,PV.cells]
theorem Qr7{fr:Fr}{hp:HP}{ty β i:Nat}{v:List Tm}{l:List (List Tm)}{K:Qg}(h:i<l.length):stM (some ⟨1,ty,l.map PV.poly,false⟩) β 1 i 0 (PV.poly v) fr hp K=K fr (Qv hp β ⟨1,ty,(l.set i v).map PV.poly,false⟩):=by rw[Qqg (n:=1) (xs:=l.map PV.poly) (v:=PV.poly v) (by simpa using h) rfl rfl,List.map_set]
variable {C : Ctx} {fr : Fr} {hp : HP} {w : World} {K R : Qg}
theorem Qtx{x y:RT}{sk:List It}(hok:Qd6 R sk)(W:List (Nat×Nat))(B:List Nat)(M:Fr->HP->Prop)
  (h:brV C R x y (.el (Qkw W (bse B fr) M)::sk) (ovr W fr (bse B fr)) hp) (hM:∀J hp,M J hp->vc C R sk (ovr W J (bse B fr)) hp):brV C R x y sk fr hp:=by
 have key:∀(r:RT),vc C R (.o r:: .el (Qkw W (bse B fr) M)::sk) (ovr W fr (bse B fr)) hp->vc C R (.o r::sk) fr hp:=by
  intro r hr;refine Qnz (M:=Qkw W (bse B fr) M) ?_ _ [.o r] _ _ (Nat.le_refl _) ?_
  ·rintro fr' hp' ⟨J,h1,h2⟩;exact Qiz hok.1 _ _ _ _ _ _ (Nat.le_refl _) hok.2 h1 (hM J hp' h2)
  ·exact Qiz hok.1 _ _ _ _ _ _ (Nat.le_refl _) (.o r (.el Qrz hok.2)) (Q33 W B) hr
 exact⟨key x h.1,key y h.2⟩
end Go.FW
namespace Go.FW
open Go
variable {C : Ctx} {fr : Fr} {hp : HP} {w : World} {K R : Qg}
theorem Qaqa:(∀(β o n:Nat),(PV.mso β o n).sref1=[β])/\(∀(k:IntKind)(n:Int),(PV.int k n).sref1=[])/\(∀b:Bool,(PV.bool b).sref1=[])/\(PV.nilS.sref1=[])/\(∀(e:Nat)(xs:List PV),(PV.sl e xs).sref1=[]):=by refine⟨?_,?_,?_,?_,?_⟩<;>intros<;>rfl
attribute [go_sem] Qaqa
end Go.FW
namespace Go.FW
open Go
variable {C : Ctx} {fr : Fr} {hp : HP} {w : World} {K R : Qg}
end Go.FW
namespace Go.FW
open Go
structure PQ(T K E:Nat)(p:List Tm):Prop where
 l:p.length<=T
 b:PB K E p
 n:Nrm p
theorem PQ.mono{T K E T' K' E':Nat}{p:List Tm}(h:PQ T K E p)(h1:T<=T')(h2:K<=K')(h3:E<=E'):PQ T' K' E' p:=⟨Nat.le_trans h.l h1,h.b.mono h2 h3,h.n⟩
theorem PQ.nil{T K E:Nat}:PQ T K E []:=⟨Nat.zero_le _,PB.nil _ _,Nrm.nil⟩
theorem PQ.add{T K S L E:Nat}{p q:List Tm}(hp:PQ T K E p)(hq:PQ S L E q):PQ (T+S) (K+L) E (Q4 p q):=
 ⟨by have:=Qeo p q;have:=hp.l;have:=hq.l;omega,Qhm _ _ hp.b hq.b,Qbt hp.n hq.n⟩
theorem Qaqb{fr:Fr}{hp:HP}{K:Qg}{len e β j o d:Nat}{k:IntKind}(h:0<len):Qjt len e (.mp β j o) (.int k 0) d fr hp K=K (upd fr d (.mp β j o)) hp:=by simp[Qjt,h]
theorem Qaqc{fr:Fr}{hp:HP}{K:Qg}{len e β j o d:Nat}{k:IntKind}(h:1<len):Qjt len e (.mp β j o) (.int k 1) d fr hp K=K (upd fr d (.mp β j (o+e))) hp:=by simp[Qjt];omega
theorem Qaqd{fr:Fr}{hp:HP}{K:Qg}{e d β n:Nat}{k:IntKind}(h:0<n)(he:(hp β).map (·.e)=some e):Qci e (.mso β 0 n) (.int k 0) d fr hp K=K (upd fr d (.mp β 0 0)) hp:=by rw[Quk (by omega) (by omega) he];rfl
theorem Qaqe{fr:Fr}{hp:HP}{K:Qg}{e d β n:Nat}{k:IntKind}(h:1<n)(he:(hp β).map (·.e)=some e):Qci e (.mso β 0 n) (.int k 1) d fr hp K=K (upd fr d (.mp β 1 0)) hp:=by rw[Quk (by omega) (by omega) he];rfl
theorem Qaqf{fr:Fr}{hp:HP}{K:Qg}{e d β n:Nat}{k:IntKind}(h:2<n)(he:(hp β).map (·.e)=some e):Qci e (.mso β 0 n) (.int k 2) d fr hp K=K (upd fr d (.mp β 2 0)) hp:=by rw[Quk (by omega) (by omega) he];rfl
attribute [go_sem] Qaqb Qaqc Qaqd Qaqe Qaqf
variable {C : Ctx} {fr : Fr} {hp : HP} {w : World} {K R : Qg}
end Go.FW
namespace Go.FW
open Go
variable {fr : Fr} {hp : HP}
theorem Qaf7{γ:Nat}(hγ:2000000<=γ){p:PV}(h:Cln p):Qcp γ p=p:=by
 obtain⟨h1,h2,h3,h4⟩:=h;have k1:∀β∈p.refs,β≠γ:=fun β hβ e=>by have:=h1 β hβ;subst e;simp[isN]at this;omega
 have k2:∀β∈p.sref,β≠γ:=fun β hβ e=>by have:=h2 β hβ;subst e;simp[isS,isN]at this;omega
 cases p with
 |mso β o n=>first|(simp[Qcp,Qdg,k1 β (by simp[PV.refs,PV.ref1])];done)|(simp[Qcp,Qdg,k2 β (by simp[PV.sref,PV.sref1])];done)
 |mp β i o=>simp[Qcp,Qdg,k1 β (by simp[PV.refs,PV.ref1])]
 |rb β o n=>first|(simp[Qcp,Qdg,k1 β (by simp[PV.refs,PV.ref1])];done)|simp[Qcp,Qdg,k2 β (by simp[PV.sref,PV.sref1])]
 |fn f a b=>simp only[Qcp,Qaq];rw[if_neg];intro hn;exact k1 γ (by simpa using hn) rfl
 |nst γ' e ty xs=>exact absurd rfl (h3 γ' e ty xs)
 |rag cs=>exact absurd rfl (h4 cs).1
 |rtp cs=>exact absurd rfl (h4 cs).2.1
 |rtq cs q=>exact absurd rfl ((h4 cs).2.2 q)
 |_=>rfl
theorem Q4o{γ:Nat}{x:PV}{W:List (Nat×Nat)}{J F:Fr}{B:List Nat}(hW:inW W γ=true)(hγ:2000000<=γ):Qw1 γ x (ovr W J (bse B F))=ovr W (Qw1 γ x J) (bse B F):=by
 funext s;show(if s=γ then x else Qcp γ (if inW W s then J s else bse B F s))=if inW W s then(if s=γ then x else Qcp γ (J s))else bse B F s
 by_cases e:s=γ
 ·subst e;rw[if_pos rfl,if_pos hW,if_pos rfl]
 ·rw[if_neg e,if_neg e];split
  ·rfl
  ·exact Qaf7 hγ (Qlo B F s)
def dieH(nm:Nat->Bool)(hp:HP):HP:=fun β=>if nm β=true then none else hp β
theorem Qak4{nm:Nat->Bool}{β:Nat}:dieH nm hp β=if nm β=true then none else hp β:=rfl
def one(γ:Nat):Nat->Bool:=fun x=>decide (x=γ)
theorem Qaqg{γ x:Nat}:one γ x=decide (x=γ):=rfl
theorem Qaf8{K:Qg}{e d:Nat}{k:IntKind}{x0 x1 x2:PV}{xs:List PV}:Qci e (.sl e (x0::x1::x2::xs)) (.int k 2) d fr hp K=K (upd fr d (.pt x2.cells)) hp:=by simp[Qci]
theorem Qaf9{K:Qg}{e d:Nat}{k:IntKind}{x0 x1 x2 x3:PV}{xs:List PV}:Qci e (.sl e (x0::x1::x2::x3::xs)) (.int k 3) d fr hp K=K (upd fr d (.pt x3.cells)) hp:=by simp[Qci]
theorem Qaga{K:Qg}{e d:Nat}{k:IntKind}{x0 x1 x2 x3 x4:PV}{xs:List PV}:Qci e (.sl e (x0::x1::x2::x3::x4::xs)) (.int k 4) d fr hp K=K (upd fr d (.pt x4.cells)) hp:=by simp[Qci]
theorem Qagb{K:Qg}{e d:Nat}{k:IntKind}{x0 x1 x2 x3 x4 x5:PV}{xs:List PV}:Qci e (.sl e (x0::x1::x2::x3::x4::x5::xs)) (.int k 5) d fr hp K=K (upd fr d (.pt x5.cells)) hp:=by simp[Qci]
theorem Qagc{K:Qg}{e d:Nat}{k:IntKind}{x0 x1 x2 x3 x4 x5 x6:PV}{xs:List PV}:Qci e (.sl e (x0::x1::x2::x3::x4::x5::x6::xs)) (.int k 6) d fr hp K=K (upd fr d (.pt x6.cells)) hp:=by simp[Qci]
theorem Qagd{K:Qg}{e d:Nat}{k:IntKind}{x0 x1 x2 x3 x4 x5 x6 x7:PV}{xs:List PV}:Qci e (.sl e (x0::x1::x2::x3::x4::x5::x6::x7::xs)) (.int k 7) d fr hp K=K (upd fr d (.pt x7.cells)) hp:=by simp[Qci]
attribute [go_sem] Qak4 Qaqg Qaf8 Qaf9 Qaga Qagb Qagc Qagd
end Go.FW
