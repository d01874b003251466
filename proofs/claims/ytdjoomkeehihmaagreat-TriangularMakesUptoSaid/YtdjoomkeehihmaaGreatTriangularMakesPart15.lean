/- Part 15 of the proof of TriangularMakes: TR8, FwWA, FwWB, FwWC, FwWD, FwUK, FwWE, FwWF, FwWG, FwVD, FwWH, FwVG, FwYB, FwYC, FwYD, FwYE, FwYF. Own lemmas; no conditions. -/
import Derived.Test.YtdjoomkeehihmaaGreatTriangularMakesPart14
set_option maxHeartbeats 1000000
set_option linter.unusedSimpArgs false
set_option linter.unusedVariables false
set_option linter.unnecessarySimpa false
set_option maxRecDepth 100000
namespace Go.Proofs.YtdjoomkeehihmaaGreat
open Go Go.FW
def JW:az:=⟨44,[.t 2,.t 3],Zr (Zo (.mv 2 (.c .aa))<|Zc 3 0 .nil)<|Zr (Zo (.mv 4 (.c .aa)) .nil)<| .seq (Zr (Zm 10 0<|Zn 11 10<|Zc 12 0 .nil)<| .block 0<| .loop<|Zr (Zb 13 .lss 12 11 .nil)<| .seq (.cond (.t 13) .skip (.exit 0))<| .seq (.block 1<|Zr (Zm 14 12<|Zi 15 1 10 12<|Zl 16 1 15<|Zm 5 14<|Zm 6 16 .nil)<|Zr (Zm 17 0<|Zn 18 17<|Zo (.mk 19 1 24 32 .aa (.t 18) (.t 18))<| .wk<|Zm 7 19 .nil)<|Zr (Zm 20 7<|Zm 21 5<|Zq 22 false 26 [.c (Zz 1)]<|Zq 23 false 65 [.t 22]<|Zi 24 1 20 21<|Zs 1 24 23 .nil)<|Zr (Zm 26 6<|Zm 27 7<|Zq 28 false 66 [.t 26,.t 27]<|Zm 25 28<|Zo (.ext 29 (.t 25) 0)<|Zo (.ext 30 (.t 25) 1)<|Zo (.alloc 8 2 34 (.agg [.aa,.aa]))<|Zs 2 8 29<|Zm 9 30 .nil)<| .seq (Zr (Zm 31 9<|Zk 32 .neq 31 0 .nil)<| .cond (.t 32) (Zr (Zm 33 9<|Zo (.mv 2 (.c .aa))<|Zm 3 33 .nil) .ret) .skip)<|Zr (Zf 34 0 8<|Zl 35 1 34<|Zn 36 35<|Zk 37 .gtr 36 0 .nil)<| .cond (.t 37) (.rg (Zm 38 4<|Zh 39 2 8<|Zo (.bs 40 2 34 [.t 39])<|Zo (.app 41 2 48 34 (.t 38) (.t 40))<|Zm 4 41 .nil)) .skip)<| .rg (Zk 42 .add 12 1<|Zm 12 42 .nil))<|Zr (Zm 43 4<|Zm 2 43<|Zc 3 0 .nil) .ret⟩
theorem ajp:Qe Tryz.prog Tryz.f27=some JW.strip:=by kernel_rfl
def fP(n i:Nat):List (List Tm):=(List.replicate n []).set i (dQ ((1:Int):Rat))
def tc(R:Nat->List Tm×List (List Tm))(i:Nat):List (List Tm×List (List Tm)):=if 0<(R i).1.length then [R i]else []
def gu(R:Nat->List Tm×List (List Tm))(i:Nat):List (List Tm×List (List Tm)):=(List.range i).flatMap (tc R)
theorem Dj(R:Nat->List Tm×List (List Tm)):∀i,(gu R i).length<=i
 |0=>by simp[gu]
 |i+1=>by
  have:=Dj R i;unfold gu at *
  rw[KbZ,Kb4,Kap];have h2:(([i]:List Nat).flatMap (tc R)).length<=1:=by simp only[Kau,KaA,Kak];unfold tc;split<;>simp
  omega
theorem H7(n β ty:Nat):∀(fr:Fr)(hp:HP),hp β=some ⟨1,ty,List.replicate n PV.aa,false⟩->Wk fr hp fr (Qy hp β ⟨1,ty,(List.replicate n ([]:List Tm)).map PV.aj,false⟩):=fun fr hp h=>by
 refine ajo h (by simp) fun i x x' hx aS=>?_;rw[List.getElem?_replicate]at hx;rw[Kaw,List.getElem?_replicate]at aS;split at hx
 ·rename_i hi;cases hx;rw[if_pos hi]at aS;cases aS;refine⟨rfl,rfl,fun j y y' hy jC=>?_⟩
  match j,hy,jC with
  |0,hy,jC=>simp[PV.cells]at hy jC;subst hy jC;exact trivial
  |j+1,hy,_=>simp[PV.cells]at hy
 ·cases hx
theorem N9{ps:List (List Tm)}{R:Nat->List Tm×List (List Tm)}{bad:Nat}{er:Int}(hl:ps.length<=100)(qF:bad<=ps.length)(dz:∀i (h:i<ps.length),i<bad->Qc Tryz.prog 66 [PV.aj ps[i],PV.bZ (fP ps.length i)] (· = .au [PV.el (R i),.int .i64 0])/\(R i).1.length<=2^30)
  (Ep:∀h:bad<ps.length,er≠0/\Qc Tryz.prog 66 [PV.aj ps[bad],PV.bZ (fP ps.length bad)] (· = .au [PV.el ([],[]),.int .i64 er])):
  Qc Tryz.prog 27 [PV.bZ ps] (· =if bad=ps.length then .au [.sl 2 ((gu R ps.length).map PV.el),.int .i64 0]else .au [.sl 2 [],.int .i64 er]):=by
 obtain⟨tz,nT⟩:∃tz,tz=if bad=ps.length then PV.au [.sl 2 ((gu R ps.length).map PV.el),.int .i64 0]else .au [.sl 2 [],.int .i64 er]:=⟨_,rfl⟩
 rw[<-nT];have h1:=nK;have r9:=uL (x:=1) (by omega) (by omega);have ae:=TK (a:=((1:Int):Rat)) (k:=1) (by have:((1:Int):Rat)=1:=rfl;rw[this];exact h1) (by omega);refine wL Qj Tryz.func27 rfl ajp (by simp[JW]) fun C hP=>?_;simp only[JW,Zo,Zg,Zm,Zc,Zf,Zl,Zh,Zs,Zi,Zb,Zk,Zn,Zu,Zq,Zr,Zz];refine Sz0 ?_;refine kM 4 900 2 34 (by omega) Tz0 ?_;refine Qz (by repeat (first|exact Qs|exact Ql|exact Qm|exact Qn|exact Qo|apply Qk|apply Qr|apply Qx|apply Q4|apply Q5|apply Qi|apply Q2)) [(2,9),(12,42)] [8,19,40,41,900] (fun m J hp=>∃i,m=ps.length-i/\i<=bad/\J 4= .ms 900 (gu R i).length/\J 12= .int .i64 (i:Nat)/\hp 900=some ⟨2,34,(gu R i).map PV.el,false⟩) ps.length ?_ ?_
 ·refine⟨0,rfl,by omega,?_⟩;refine Sz0 ?_
  first|rfl|exact⟨rfl,rfl⟩|exact⟨rfl,rfl,rfl⟩
 rintro _ J h ⟨i,rfl,hi,j4,pT,hh⟩;refine Sz2 j4 pT ?_;refine Qb (fun hg=>?_) (fun hg=>?_)
 ·have c1:i<ps.length:=by omega
  have aE:Qc Tryz.prog 66 [PV.aj ps[i],PV.bZ (fP ps.length i)] (· =if i<bad then .au [PV.el (R i),.int .i64 0]else .au [PV.el ([],[]),.int .i64 er]):=by
   by_cases gD:i<bad
   ·rw[if_pos gD];exact(dz i c1 gD).1
   ·obtain rfl:i=bad:=by omega
    rw[if_neg gD];exact(Ep c1).2
  have tI:i<bad->(R i).1.length<=2^30:=fun h=>(dz i c1 h).2;have her:¬i<bad->er≠0/\¬bad=ps.length:=fun h=>by
   obtain rfl:i=bad:=by omega
   exact⟨(Ep c1).1,by omega⟩
  have hp:=aE;clear aE;have r7:=Dj R i;have aF:gu R (i+1)=gu R i++tc R i:=by unfold gu;rw[KbZ,Kb4];simp
  unfold tc at aF;generalize gu R i=A at *
  generalize hx:ps[i]=x at *
  generalize R i=z at *
  refine Sz3 j4 pT hx ?_;refine mE (H7 ps.length 19 32 _ _ Tz0) ?_;have lZ:(List.replicate ps.length ([]:List Tm)).length=ps.length:=List.length_replicate;unfold fP at hp;generalize List.replicate ps.length ([]:List Tm)=Z at *
  have hiZ:i<Z.length:=by omega
  have jT:(Z.map PV.aj).set i (PV.aj (dQ ((1:Int):Rat)))=(Z.set i (dQ ((1:Int):Rat))).map PV.aj:=by rw[Kc8]
  have L5:i<(Z.map PV.aj).length:=by rw[KaV];omega
  have hlS:(Z.set i (dQ ((1:Int):Rat))).length=ps.length:=by rw[Kb8,lZ]
  refine Sz3 j4 pT hx ?_;refine Qa hP r9 rfl rfl rfl ?_;refine Sz3 j4 pT hx ?_;refine Qa hP ae rfl rfl rfl ?_;refine Sz3 j4 pT hx ?_;rw[CR (n:=1) (v:=PV.sl 4 ((dQ ((1:Int):Rat)).map PV.term)) L5 rfl rfl];rw[show(Z.map PV.aj).set i (PV.sl 4 ((dQ ((1:Int):Rat)).map PV.term))=(Z.set i (dQ ((1:Int):Rat))).map PV.aj from jT];generalize Z.set i (dQ ((1:Int):Rat))=Y at *
  refine Sz3 j4 pT hx ?_;have e0:List.take ps.length (Y.map PV.aj)=Y.map PV.aj:=Kae (by rw[KaV];omega);by_cases gD:i<bad
  rotate_left
  ·rw[if_neg gD]at hp;obtain⟨e1,e2⟩:=her gD;have q3:decide (er=0)=false:=decide_eq_false e1;have sF:decide (¬er=0)=true:=decide_eq_true e1;refine iE hP hp (by simp+decide (disch:=try exact E2 hh e0) only[go_sem,hh,dV,Kav,KaC,Kau,KaA,Kak,e0];try rfl) rfl ?_;refine Vz6 j4 pT hx hh q3 sF ?_;refine sS ?_;refine jr ?_;refine kQ j4 hh ?_;exact fb (p':=.sl 2 []) (by rw[nT,if_neg e2]) rfl rfl trivial (Qw _)
  rw[if_pos gD]at hp;have tI:=tI gD;refine iE hP hp (by simp+decide (disch:=try exact E2 hh e0) only[go_sem,hh,dV,Kav,KaC,Kau,KaA,Kak,e0];try rfl) rfl ?_;refine Ik j4 pT hx hh ?_;by_cases e3:0<z.1.length
  ·have q3:decide (0<(z.1.length:Int))=true:=decide_eq_true (by omega);rw[if_pos e3]at aF;refine TS j4 pT hx hh q3 ?_;rw[Q9 (f:=PV.el) (y:=z) (xs:=A) (ty':=34) (fz:=false) (Uz1 hh) cE (by omega) rfl (by omega) (by omega)];refine Sz3 j4 pT hx ?_;refine Qh (ps.length-(i+1)) (by omega) ⟨i+1,rfl,by omega,?_⟩;rw[aF];simp+decide (disch:=first|omega|rfl|(simp+decide only[go_sem,Kap]<;>rfl)|fail) only[go_sem,Kap]
   try trivial
  ·have q3:decide (0<(z.1.length:Int))=false:=decide_eq_false (by omega);rw[if_neg e3,Kak]at aF;refine TS j4 pT hx hh q3 ?_;refine Qh (ps.length-(i+1)) (by omega) ⟨i+1,rfl,by omega,?_⟩;rw[aF];refine kQ j4 hh ?_
   try (first|trivial|exact⟨rfl,rfl⟩)
 ·obtain rfl:i=ps.length:=by omega
  have eU:bad=ps.length:=by omega
  refine kQ j4 hh ?_;refine sS ?_;refine jr ?_;refine kQ j4 hh ?_;exact fb (by rw[nT,if_pos eU,Kae (by simp)]) rfl rfl (Qw _) (Qw _)
theorem agH{ps:List (List Tm)}{R:Nat->List Tm×List (List Tm)}(hl:ps.length<=100)(dz:∀i (h:i<ps.length),Qc Tryz.prog 66 [PV.aj ps[i],PV.bZ (fP ps.length i)] (· = .au [PV.el (R i),.int .i64 0]))(hR:∀i,i<ps.length->(R i).1.length<=2^30):
  Qc Tryz.prog 27 [PV.bZ ps] (· = .au [.sl 2 ((gu R ps.length).map PV.el),.int .i64 0]):=by
 have h:=N9 (bad:=ps.length) (er:=0) hl (Kac _) (fun i h _=>⟨dz i h,hR i h⟩) (fun h=>absurd h (by omega));simpa using h
end Go.Proofs.YtdjoomkeehihmaaGreat
namespace Go.FW
open Go
def n1:List Tm->Rat
 | []=>0
 |t::p=>dJ t.1+n1 p
theorem lC:∀p,0<=n1 p
 | []=>Rat.le_refl
 |t::p=>by have h1:=qa t.1;have h2:=lC p;simp only[n1];grind
theorem Dr(p q:List Tm):n1 (Q7 p q)<=n1 p+n1 q:=by
 induction p,q using Q7.induct with
 |case1 q=>rw[qi];simp only[n1];grind
 |case2 p hp=>rw[kK];simp only[n1];grind
 |case3 c m p d l q h1 ih=>rw[Q7,if_pos h1];simp only[n1]at ih ⊢;grind
 |case4 c m p d l q h1 h2 ih=>rw[Q7,if_neg h1,if_pos h2];simp only[n1]at ih ⊢;grind
 |case5 c m p d l q h1 h2 h3 ih=>rw[Q7,if_neg h1,if_neg h2,if_pos h3];have g1:=qa c;have g2:=qa d;simp only[n1]at ih ⊢;grind
 |case6 c m p d l q h1 h2 h3 ih=>rw[Q7,if_neg h1,if_neg h2,if_neg h3];have g:=adf c d;simp only[n1]at ih⊢;grind
theorem wM(t:Tm):∀p:List Tm,n1 (bb p t)<=dJ t.1*n1 p
 | []=>by simp only[bb,List.filterMap_nil,n1];grind
 |s::p=>by
  have ih:=wM t p;have g:=Dh s.1 t.1;have g2:=Kch (qa t.1) (qa s.1);unfold bb at ih⊢;rw[Kbk];by_cases e:s.1*t.1=0
  ·rw[if_pos e];simp only[n1];grind
  ·rw[if_neg e];simp only[n1];grind
def pV:List (List Tm)->Rat
 | []=>0
 |p::l=>n1 p+pV l
theorem Sg:∀a b:List (List Tm),pV (a++b)=pV a+pV b
 | [],b=>by simp only[KaN,pV];grind
 |p::a,b=>by simp only[KaR,pV];rw[Sg a b];grind
theorem OC(l:List (List Tm)):n1 (cN l)<=pV l:=by
 induction l using cN.induct with
 |case1=>rw[cN];exact Rat.le_refl
 |case2 p=>rw[cN];simp only[pV];grind
 |case3 p q r h1 h2=>rw[cN];have h3:=Dr (cN ((p::q::r).take ((p::q::r).length/2))) (cN ((p::q::r).drop ((p::q::r).length/2)));have h4:=Sg ((p::q::r).take ((p::q::r).length/2)) ((p::q::r).drop ((p::q::r).length/2));rw[Kbn]at h4;rw[h4];grind
theorem G1(q:List Tm):∀p:List Tm,pV (p.map (bb q))<=n1 p*n1 q
 | []=>by simp only[Kbu,pV,n1];grind
 |t::p=>by have ih:=G1 q p;have h:=wM t q;simp only[Kbj,pV,n1];grind
theorem zR(p q:List Tm):n1 (Q8 p q)<=n1 p*n1 q:=by
 unfold Q8;split
 ·have h1:=OC (q.map (bb p));have h2:=G1 p q;unfold ow;grind
 ·have h1:=OC (p.map (bb q));have h2:=G1 q p;unfold ow;grind
def Dn(D:Nat)(p:List Tm):Prop:=∀t∈p,iY (t.1*(D:Rat))
theorem Ds{D:Nat}(p q:List Tm):Dn D p->Dn D q->Dn D (Q7 p q):=by
 induction p,q using Q7.induct with
 |case1 q=>intro _ h;rwa[qi]
 |case2 p hp=>intro h _;rwa[kK]
 |case3 c m p d l q h1 ih=>
  intro hp hq;rw[Q7,if_pos h1];intro t ht;rcases KaO.1 ht with rfl|ht
  ·exact hp _ (KbO ..)
  ·exact ih (fun t ht=>hp t (Kbl _ ht)) hq t ht
 |case4 c m p d l q h1 h2 ih=>
  intro hp hq;rw[Q7,if_neg h1,if_pos h2];intro t ht;rcases KaO.1 ht with rfl|ht
  ·exact hq _ (KbO ..)
  ·exact ih hp (fun t ht=>hq t (Kbl _ ht)) t ht
 |case5 c m p d l q h1 h2 h3 ih=>intro hp hq;rw[Q7,if_neg h1,if_neg h2,if_pos h3];exact ih (fun t ht=>hp t (Kbl _ ht)) fun t ht=>hq t (Kbl _ ht)
 | case6 c m p d l q h1 h2 h3 ih=>
  intro hp hq;rw[Q7,if_neg h1,if_neg h2,if_neg h3];intro t ht;rcases KaO.1 ht with rfl|ht
  ·have a:=hp (c,m) (KbO ..);have b:=hq (d,l) (KbO ..);show iY ((c+d)*(D:Rat));rw[Rat.add_mul];exact a.add b
  ·exact ih (fun t ht=>hp t (Kbl _ ht)) (fun t ht=>hq t (Kbl _ ht)) t ht
theorem OD{D:Nat}(l:List (List Tm)):(∀p∈l,Dn D p)->Dn D (cN l):=by
 induction l using cN.induct with
 |case1=>intro _;rw[cN];intro t ht;cases ht
 |case2 p=>intro h;rw[cN];exact h p (KbO ..)
 |case3 p q r h1 h2=>intro h;rw[cN];exact Ds _ _ (h1 fun x hx=>h x (Kbb hx)) (h2 fun x hx=>h x (Kbv hx))
theorem zf{D D':Nat}{t:Tm}(ht:iY (t.1*(D':Rat))){p:List Tm}(hp:Dn D p):Dn (D*D') (bb p t):=by
 intro x hx;simp only[bb,KbR]at hx;obtain⟨s,hs,e⟩:=hx;split at e
 ·cases e
 ·obtain rfl:(s.1*t.1,b7 s.2 t.2)=x:=by simpa using e
  have:=(hp s hs).mul ht;show iY (s.1*t.1*((D*D':Nat):Rat));rw[Kb9,show s.1*t.1*((D:Rat)*(D':Rat))=s.1*(D:Rat)*(t.1*(D':Rat))by grind];exact this
theorem zS{D D':Nat}{p q:List Tm}(hp:Dn D p)(hq:Dn D' q):Dn (D*D') (Q8 p q):=by
 unfold Q8;split
 ·refine OD _ fun x hx=>?_;obtain⟨t,ht,rfl⟩:=KaI.1 hx;exact zf (hq t ht) hp
 ·refine OD _ fun x hx=>?_;obtain⟨t,ht,rfl⟩:=KaI.1 hx;rw[KaS];exact zf (hp t ht) hq
theorem PR:∀ {p:List Tm} {t:Tm},t∈p->dJ t.1<=n1 p
 | s::p,t,ht=>by
  have h1:=lC p;have h2:=qa s.1;simp only[n1];rcases KaO.1 ht with rfl|ht
  ·grind
  ·have:=PR ht;grind
theorem ady{D N:Nat}{p:List Tm}(hD:0<D)(hN:0<N)(hp:Dn D p)(hn:n1 p<=(N:Rat)){t:Tm}(ht:t∈p):rs t.1<=nl (N*D)+nl D+2:=by
 obtain⟨z,hz⟩:=hp t ht;have hT:=PR ht;have hNt:dJ t.1<=(N:Rat):=by grind
 have LB:((D:Int):Rat)≠0:=by rw[Ne,Ka6];omega
 have e:t.1=(z:Rat)/((D:Int):Rat):=by rw[<-hz,KaW];rw[KaW]at LB;grind
 have EZ:z.natAbs<=N*D:=by
  have h2:dJ (z:Rat)=dJ t.1*(D:Rat):=by rw[<-hz,Dh];congr 1;rw[<-Rat.intCast_natCast,wX,KaD,KaW]
  rw[wX]at h2;have h3:(0:Rat)<=(D:Rat):=by rw[<-Rat.intCast_natCast,show(0:Rat)=((0:Int):Rat)from rfl,Kb2];omega
  have h4:=Kbi hNt h3;rw[<-h2,<-Rat.natCast_mul,<-Rat.intCast_natCast,<-Rat.intCast_natCast,Kb2]at h4;omega
 have hr:=DO z (D:Int) (by omega);rw[<-e,KaD]at hr;have g1:=fE EZ;omega
def XB(E:Nat)(p:List Tm):Prop:=∃K,PB K E p
theorem XB.sC{E:Nat}{p q:List Tm}:XB E p->XB E q->XB E (FW.Q7 p q):=fun⟨_,h⟩ ⟨_,g⟩=>⟨_,uT p q h g⟩
theorem XB.Wn{E:Nat}(l:List (List Tm)):(∀p∈l,XB E p)->XB E (FW.cN l):=by
 induction l using FW.cN.induct with
 |case1=>intro _;rw[FW.cN];exact⟨0,PB.nil _ _⟩
 |case2 p=>intro h;rw[FW.cN];exact h p (KbO ..)
 |case3 p q r h1 h2=>intro h;rw[FW.cN];exact XB.sC (h1 fun x hx=>h x (Kbb hx)) (h2 fun x hx=>h x (Kbv hx))
theorem XB.l8{E F:Nat}{p q:List Tm}:XB E p->XB F q->XB (E+F) (FW.Q8 p q):=fun⟨K,h⟩ ⟨L,g⟩=>by
 unfold FW.Q8;split
 ·refine XB.Wn _ fun x hx=>?_;obtain⟨t,ht,rfl⟩:=KaI.1 hx;exact⟨K+L,sR h (g t ht)⟩
 ·refine XB.Wn _ fun x hx=>?_;obtain⟨t,ht,rfl⟩:=KaI.1 hx;rw[KbQ];exact⟨L+K,sR g (h t ht)⟩
structure SZ(a b E:Nat)(p:List Tm):Prop where
 d:∃D N:Nat,0<D/\0<N/\nl D<=a/\nl N<=b/\Dn D p/\n1 p<=(N:Rat)
 x:XB E p
theorem SZ.mono{a b E a' b' E':Nat}{p:List Tm}(h:SZ a b E p)(ha:a<=a')(hb:b<=b')(hE:E<=E'):SZ a' b' E' p:=by obtain⟨⟨D,N,h1,h2,h3,h4,h5,h6⟩,K,hx⟩:=h;exact⟨⟨D,N,h1,h2,by omega,by omega,h5,h6⟩,K,hx.mono (Kac _) hE⟩
theorem Dn.dvd{D D':Nat}{p:List Tm}(h:Dn D p)(hd:D∣D'):Dn D' p:=fun t ht=>by obtain⟨k,rfl⟩:=hd;rw[Kb9,<-Rat.mul_assoc];exact(h t ht).mul (iY.nat k)
theorem SZ.l8{a b E a' b' E':Nat}{p q:List Tm}(hp:SZ a b E p)(hq:SZ a' b' E' q):SZ (a+a') (b+b') (E+E') (FW.Q8 p q):=by
 obtain⟨⟨D,N,h1,h2,h3,h4,h5,h6⟩,hx⟩:=hp;obtain⟨⟨D',N',g1,g2,g3,g4,g5,g6⟩,gx⟩:=hq;have e1:=gJ D D';have e2:=gJ N N';refine⟨⟨D*D',N*N',Kce h1 g1,Kce h2 g2,by omega,by omega,zS h5 g5,?_⟩,hx.l8 gx⟩;have m1:=zR p q;have m2:=Kbi h6 (lC q);have n0:(0:Rat)<=(N:Rat):=by have:=lC p;grind
 have m3:=Kbr g6 n0;rw[Kb9];grind
theorem SZ.sC{a b E a' b':Nat}{p q:List Tm}(hp:SZ a b E p)(hq:SZ a' b' E q):SZ (a+a') (max b b'+1) E (FW.Q7 p q):=by obtain⟨⟨D,N,h1,h2,h3,h4,h5,h6⟩,hx⟩:=hp;obtain⟨⟨D',N',g1,g2,g3,g4,g5,g6⟩,gx⟩:=hq;have e1:=gJ D D';have e2:=uY N N';refine⟨⟨D*D',N+N',Kce h1 g1,by omega,by omega,by omega,Ds p q (h5.dvd (Nat.dvd_mul_right _ _)) (g5.dvd (Kdg _ _)),?_⟩,hx.sC gx⟩;have m1:=Dr p q;rw[Rat.natCast_add];grind
theorem SZ.PB{a b E:Nat}{p:List Tm}(h:SZ a b E p):PB (a+b+a+3) E p:=fun t ht=>by obtain⟨⟨D,N,h1,h2,h3,h4,h5,h6⟩,K,hx⟩:=h;have hr:=ady h1 h2 h5 h6 ht;have e:=gJ N D;exact⟨by omega,(hx t ht).m,(hx t ht).l⟩
theorem H8:∀p:List Tm,n1 p<=((mN p:Nat):Rat)
 | []=>Rat.le_refl
 |t::p=>by have h1:=H8 p;have h2:=Ri t.1;have e:mN (t::p)=t.1.num.natAbs+mN p:=rfl;rw[e,Rat.natCast_add];simp only[n1];grind
theorem SZ.of{K E L:Nat}{p:List Tm}(h:FW.PB K E p)(hl:p.length<=L):SZ (L*K+1) (L+K+2) E p:=by
 have h1:=agy h;have h2:=agz h;have h3:=uY (mN p) 1;have h4:nl 1<=1:=by rw[jG];exact Kac 1
 have h5:p.length*K<=L*K:=Kaf _ hl;have h6:=fE (show mN p<=mN p+1 by omega);by_cases hz:nl (mN p)=0
 ·refine⟨⟨qx p,mN p+1,N7 p,by omega,by omega,by omega,fun t ht=>H5 (Hq ht),?_⟩,K,h⟩;have:=H8 p;rw[Rat.natCast_add];have:(0:Rat)<=((1:Nat):Rat):=by decide
  grind
 ·refine⟨⟨qx p,mN p,N7 p,KaY fun e=>hz (wG.2 e),by omega,by omega,fun t ht=>H5 (Hq ht),H8 p⟩,K,h⟩
theorem aC.drop{p:List Tm}(h:aC p):∀k,aC (p.drop k)
 |0=>h
 |k+1=>by
  have:=aC.drop h k;rw[<-List.drop_drop];cases hd:p.drop k with
  |nil=>simpa using aC.nil
  |cons t l=>rw[hd]at this;simpa using this.tail
theorem agI(r:Rat):(r.num:Rat)/(r.den:Rat)=r:=by have:=Rat.num_divInt_den r;rw[Rat.divInt_eq_div,KaW]at this;exact this
theorem Th(f:Tm->Nat):∀(l:List Tm)(g:Nat),l.foldl (fun g t=>Nat.gcd g (f t)) g∣g/\(∀t∈l,l.foldl (fun g t=>Nat.gcd g (f t)) g∣f t)/\∀d,d∣g->(∀t∈l,d∣f t)->d∣l.foldl (fun g t=>Nat.gcd g (f t)) g
 | [],g=>⟨Nat.dvd_refl _,(fun t h=>by cases h),(fun d h _=>h)⟩
 | t::l,g=>by
  obtain⟨h1,h2,h3⟩:=Th f l (Nat.gcd g (f t));refine⟨Kcn h1 (KbI _ _),fun s hs=>?_,fun d hd hl=>?_⟩
  ·rcases KaO.1 hs with rfl|hs
   ·exact Kcn h1 (KbU _ _)
   ·exact h2 s hs
  ·exact h3 d (Nat.dvd_gcd hd (hl t (KbO ..))) fun s hs=>hl s (Kbl _ hs)
structure Prim(a:Rat)(p:List Tm):Prop where
 i:∀t∈p,∃z:Int,a*t.1=(z:Rat)
 g:∀d:Nat,(∀t∈p,∀z:Int,a*t.1=(z:Rat)->d∣z.natAbs)->d=1
 s:0<a*(oF p).1
theorem adz(p:List Tm):0<aZ p:=by
 have:=(th p p.length (Kac _)).l0
 rwa[Kas]at this
theorem abH{p:List Tm}{t:Tm}(h:t∈p):t.1.den∣aZ p:=by obtain⟨i,hi,rfl⟩:=Kbd h;exact Hp p hi
theorem abI{p:List Tm}(np:aC p)(h0:p≠[]):Prim (dI p) p:=by
 have hL:=adz p;have hG:=uU np.z h0;obtain⟨L,nS⟩:∃L,L=aZ p:=⟨_,rfl⟩
 obtain⟨G,Lm⟩:∃G,G=dH p:=⟨_,rfl⟩
 obtain⟨g1,g2,g3⟩:=Th (fun t=>t.1.num.natAbs*(L/t.1.den)) p 0;have hGL:p.foldl (fun g t=>Nat.gcd g (t.1.num.natAbs*(L/t.1.den))) 0=G:=by rw[Lm,<-TO,<-nS];rfl
 rw[hGL]at g2 g3;have hG0:((G:Int):Rat)≠0:=by intro h;exact hG (by rw[<-Lm];have:=Ka6.1 h;omega)
 have hc:∀t∈p,∃z:Int,t.1*((L:Int):Rat)=(z:Rat)/\z.natAbs=t.1.num.natAbs*(L/t.1.den):=fun t ht=>by
  have hd:t.1.den∣L:=nS▸abH ht;have e:=RM hd;obtain⟨k,hk⟩:=hd;refine⟨t.1.num*(k:Int),?_,?_⟩
  ·have jA:((t.1.den:Nat):Rat)≠0:=by intro h;exact t.1.den_nz (by exact_mod_cast h)
   have e1:=agI t.1;rw[hk];have e2:(((t.1.den*k:Nat):Int):Rat)=((t.1.den:Nat):Rat)*((k:Nat):Rat):=by rw[KaW,Kb9]
   rw[e2,Kbs,KaW];generalize((k:Nat):Rat)=kk;generalize((t.1.den:Nat):Rat)=dd at *
   generalize((t.1.num:Int):Rat)=nn at *
   have e3:t.1*dd=nn:=by rw[<-e1];exact Rat.div_mul_cancel jA
   rw[<-Rat.mul_assoc,e3]
  ·rw[Kcq,KaD,hk,Kbg _ t.1.den_pos]
 have am2:∃s:Int,(s=1∨s= -1)/\dI p=((s*(L:Int):Int):Rat)/((G:Int):Rat)/\(s=1->¬(oF p).1<0)/\(s= -1->(oF p).1<0):=by
  unfold dI;rw[<-nS,<-Lm];by_cases hn:(p.headD (0,[])).1<0
  ·refine⟨-1,.inr rfl,?_,fun h=>absurd h (by decide),fun _=>hn⟩;rw[if_pos hn];have:(-1:Int)*(L:Int)= -(L:Int):=by omega
   rw[this]
  ·refine⟨1,.inl rfl,?_,fun _=>hn,fun h=>absurd h (by decide)⟩;rw[if_neg hn,Int.one_mul]
 obtain⟨s,gj,eY,vY,hs4⟩:=am2;have hmul:∀t∈p,∃y:Int,dI p*t.1=(y:Rat)/\y.natAbs*G=t.1.num.natAbs*(L/t.1.den):=fun t ht=>by
  obtain⟨z,hz,Bo⟩:=hc t ht;obtain⟨c,gd⟩:(G:Int)∣z:=KcZ.2 (Bo▸g2 t ht);refine⟨s*c,?_,?_⟩
  ·have e:dI p*t.1=(s:Rat)*(t.1*((L:Int):Rat))/((G:Int):Rat):=by rw[eY,Kbs,KcA,KcA];grind
   rw[e,hz,gd,Kbs,Kbs,KcA];have:=Rat.mul_inv_cancel _ hG0;generalize((G:Int):Rat)=gg at *
   generalize(gg)⁻¹ =gi at *
   grind
  ·rw[<-Bo,gd,Kcq,Kcq,KaD];have:s.natAbs=1:=by rcases gj with h|h<;>rw[h]<;>rfl
   rw[this,KcU,KaS]
 refine⟨fun t ht=>?_,fun d hd=>?_,?_⟩
 ·obtain⟨y,hy,_⟩:=hmul t ht;exact⟨y,hy⟩
 ·have h1:d*G∣G:=g3 _ (Nat.dvd_zero _) fun t ht=>by
   obtain⟨y,hy,hy2⟩:=hmul t ht;show d*G∣t.1.num.natAbs*(L/t.1.den)
   rw[<-hy2];exact Nat.mul_dvd_mul_right (hd t ht y hy) G
  have h2:0<G:=by omega
  exact Nat.dvd_one.1 (Nat.dvd_of_mul_dvd_mul_right h2 (by rwa[KcU]))
 ·have My:=np.z _ (H4 h0);have hLp:(0:Rat)<((L:Int):Rat):=by
   have:(0:Int)<(L:Int):=by omega
   exact_mod_cast this
  have hGp:(0:Rat)<((G:Int):Rat):=by
   have:(0:Int)<(G:Int):=by omega
   exact_mod_cast this
  have Un:(0:Rat)<((L:Int):Rat)/((G:Int):Rat):=by rw[KcA];exact Rat.mul_pos hLp (Rat.inv_pos.2 hGp)
  have e:dI p=(s:Rat)*(((L:Int):Rat)/((G:Int):Rat)):=by rw[eY,Kbs,KcA,KcA,Rat.mul_assoc]
  rw[e];generalize((L:Int):Rat)/((G:Int):Rat)=x at *
  rcases gj with h|h
  ·have:=vY h;have e1:(s:Rat)=1:=by rw[h];rfl
   rw[e1,Kdj];exact Rat.mul_pos Un (by grind)
  ·have:=hs4 h;have e1:(s:Rat)= -1:=by rw[h];rfl
   rw[e1];have h5:=Rat.mul_pos Un (show(0:Rat)< -(oF p).1 by grind);grind
theorem OE{p:List Tm}(np:aC p)(h0:p≠[]):dI p≠0:=fun h=>by have:=(abI np h0).s;rw[h,Rat.zero_mul]at this;exact absurd this (by decide)
structure DP(p:List Tm):Prop where
 z:SZ 64 64 64 p
 l:p.length<=64
 n:aC p
structure M7(p:List Tm):Prop where
 z:SZ (2097152) (2097152) (16384) p
 l:p.length<=131072
 n:aC p
structure Ii(k:Nat)(p:List Tm):Prop where
 z:SZ (64*k) (64*k) (64*k) p
 l:p.length<=64
 n:aC p
theorem DP.w{p:List Tm}(h:DP p):Ii 1 p:=⟨h.z.mono (by omega) (by omega) (by omega),h.l,h.n⟩
theorem Ii.PB{k:Nat}{p:List Tm}(h:Ii k p)(hk:k<=512):PB 131072 32768 p:=h.z.PB.mono (by omega) (by omega)
theorem DP.PB{p:List Tm}(h:DP p):PB 256 64 p:=h.z.PB.mono (by omega) (by omega)
theorem M7.PB{p:List Tm}(h:M7 p):FW.PB (8388608) (16384) p:=h.z.PB.mono (by omega) (by omega)
structure BK(m:Nat)(p:List Tm):Prop where
 z:SZ (m*64+1) (m*64+2) (m*64) p
 n:aC p
 l:p.length<=4000
theorem BK.PB{m:Nat}{p:List Tm}(h:BK m p)(hm:m<=2048):FW.PB (524288) (131072) p:=h.z.PB.mono (by omega) (by omega)
theorem SZ.one:SZ 1 1 0 (dQ 1):=by
 have e:dQ 1=[((1:Rat),[])]:=by unfold dQ;rw[if_neg (by decide)]
 rw[e];refine⟨⟨1,1,by omega,by omega,by rw[jG];omega,by rw[jG];omega,fun t ht=>?_,?_⟩,3,fun t ht=>?_⟩
 ·obtain rfl:t=(1,[]):=by simpa using ht
  exact⟨1,by decide+kernel⟩
 ·simp only[n1];decide+kernel
 ·obtain rfl:t=(1,[]):=by simpa using ht
  refine⟨?_,⟨by simp,by simp,by simp⟩,by simp⟩;show rs 1+1<=3;have:=nK;omega
theorem BK.one:BK 0 (dQ 1):=⟨SZ.one.mono (by omega) (by omega) (by omega),CC 1,by unfold dQ;rw[if_neg (by decide)];simp⟩
structure Cf(j:Nat)(p:List Tm):Prop where
 d:∃D N:Nat,0<D/\0<N/\nl D<=31+120000*j/\nl N<=13+75000*j/\Dn D p/\n1 p<=(N:Rat)
 w:∀t∈p,jl t.2<=6560
 pos:Pos p
 ml:ML 4 p
 n:aC p
theorem Cf.mono{i j:Nat}{p:List Tm}(h:Cf i p)(L6:i<=j):Cf j p:=by obtain⟨⟨D,N,h1,h2,h3,h4,h5,h6⟩,h7,h8,h9,bF⟩:=h;exact⟨⟨D,N,h1,h2,by omega,by omega,h5,h6⟩,h7,h8,h9,bF⟩
structure PS(hp:HP)(p:PV)(cs:List PV)(rs:List Nat):Prop where
 d:(aK hp p).aD=true
 c:(aK hp p).cells=cs
 r:p.refs=rs
 n:p.kD=false
theorem PS.flat{hp:HP}{p:PV}(h:p.flat=true):PS hp p p.cells []:=by obtain⟨s1,s2,s3⟩:=qb (hp:=hp) h;exact⟨by rw[s1];exact s3,by rw[s1],s2,Gu h⟩
theorem OF{fr:Fr}{hp:HP}{K:Qg}{ty i d:Nat}{fz:Bool}{l:List (List Tm)}(h:i<l.length):jY (some ⟨1,ty,l.map PV.aj,fz⟩) 1 false i 0 d fr hp K=K (af fr d (PV.aj (l[i]'h))) hp:=by
 have hi:i<(l.map PV.aj).length:=by simpa using h
 simp[jY,h,eE,PV.cells]
theorem OG{fr:Fr}{hp:HP}{ty β i:Nat}{v:List Tm}{l:List (List Tm)}{K:Qg}(h:i<l.length):stM (some ⟨1,ty,l.map PV.aj,false⟩) β 1 i 0 (PV.aj v) fr hp K=K fr (Qy hp β ⟨1,ty,(l.set i v).map PV.aj,false⟩):=by rw[CR (n:=1) (xs:=l.map PV.aj) (v:=PV.aj v) (by simpa using h) rfl rfl,Kc8]
variable {C : Ctx} {fr : Fr} {hp : HP} {w : World} {K R : Qg}
theorem Oa{x y:RT}{sk:List It}(cA:fZ R sk)(W:List (Nat×Nat))(B:List Nat)(M:Fr->HP->Prop)
  (h:rP C R x y (.el (oB W (dk B fr) M)::sk) (aQ W fr (dk B fr)) hp) (hM:∀J hp,M J hp->vc C R sk (aQ W J (dk B fr)) hp):rP C R x y sk fr hp:=by
 have key:∀(r:RT),vc C R (.o r:: .el (oB W (dk B fr) M)::sk) (aQ W fr (dk B fr)) hp->vc C R (.o r::sk) fr hp:=by
  intro r hr;refine zH (M:=oB W (dk B fr) M) ?_ _ [.o r] _ _ (Kac _) ?_
  ·rintro ay an ⟨J,h1,h2⟩;exact rF cA.1 _ _ _ _ _ _ (Kac _) cA.2 h1 (hM J an h2)
  ·exact rF cA.1 _ _ _ _ _ _ (Kac _) (.o r (.el Dy cA.2)) (OW W B) hr
 exact⟨key x h.1,key y h.2⟩
end Go.FW
namespace Go.FW
open Go
variable {C : Ctx} {fr : Fr} {hp : HP} {w : World} {K R : Qg}
theorem ajq:(∀(β o n:Nat),(PV.ax β o n).dP=[β])/\(∀(k:IntKind)(n:Int),(PV.int k n).dP=[])/\(∀b:Bool,(PV.bool b).dP=[])/\(PV.aa.dP=[])/\(∀(e:Nat)(xs:List PV),(PV.sl e xs).dP=[]):=by refine⟨?_,?_,?_,?_,?_⟩<;>intros<;>rfl
attribute [go_sem] ajq
end Go.FW
namespace Go.FW
open Go
variable {C : Ctx} {fr : Fr} {hp : HP} {w : World} {K R : Qg}
end Go.FW
namespace Go.FW
open Go
structure PQ(T K E:Nat)(p:List Tm):Prop where
 l:p.length<=T
 b:PB K E p
 n:aC p
theorem PQ.mono{T K E T' K' E':Nat}{p:List Tm}(h:PQ T K E p)(h1:T<=T')(h2:K<=K')(h3:E<=E'):PQ T' K' E' p:=⟨Kay h.l h1,h.b.mono h2 h3,h.n⟩
theorem PQ.nil{T K E:Nat}:PQ T K E []:=⟨Kbw _,PB.nil _ _,aC.nil⟩
theorem ajr{fr:Fr}{hp:HP}{K:Qg}{len e β j o d:Nat}{k:IntKind}(h:0<len):qn len e (.mp β j o) (.int k 0) d fr hp K=K (af fr d (.mp β j o)) hp:=by simp[qn,h]
theorem ajs{fr:Fr}{hp:HP}{K:Qg}{len e β j o d:Nat}{k:IntKind}(h:1<len):qn len e (.mp β j o) (.int k 1) d fr hp K=K (af fr d (.mp β j (o+e))) hp:=by simp[qn];omega
theorem aiU{fr:Fr}{hp:HP}{K:Qg}{e d β n:Nat}{k:IntKind}(h:0<n)(he:(hp β).map (·.e)=some e):dG e (.ax β 0 n) (.int k 0) d fr hp K=K (af fr d (.mp β 0 0)) hp:=by rw[DL (by omega) (by omega) he];rfl
theorem aiV{fr:Fr}{hp:HP}{K:Qg}{e d β n:Nat}{k:IntKind}(h:1<n)(he:(hp β).map (·.e)=some e):dG e (.ax β 0 n) (.int k 1) d fr hp K=K (af fr d (.mp β 1 0)) hp:=by rw[DL (by omega) (by omega) he];rfl
theorem aiW{fr:Fr}{hp:HP}{K:Qg}{e d β n:Nat}{k:IntKind}(h:2<n)(he:(hp β).map (·.e)=some e):dG e (.ax β 0 n) (.int k 2) d fr hp K=K (af fr d (.mp β 2 0)) hp:=by rw[DL (by omega) (by omega) he];rfl
attribute [go_sem] ajr ajs aiU aiV aiW
variable {C : Ctx} {fr : Fr} {hp : HP} {w : World} {K R : Qg}
end Go.FW
namespace Go.FW
open Go
variable {fr : Fr} {hp : HP}
theorem adA{γ:Nat}(ak:2000000<=γ){p:PV}(h:re p):dR γ p=p:=by
 obtain⟨h1,h2,h3,h4⟩:=h;have k1:∀β∈p.refs,β≠γ:=fun β al e=>by have:=h1 β al;subst e;simp[kC]at this;omega
 have k2:∀β∈p.bS,β≠γ:=fun β al e=>by have:=h2 β al;subst e;simp[lk,kC]at this;omega
 cases p with
 |ax β o n=>first|(simp[dR,fg,k1 β (by simp[PV.refs,PV.bN])];done)|(simp[dR,fg,k2 β (by simp[PV.bS,PV.dP])];done)
 |mp β i o=>simp[dR,fg,k1 β (by simp[PV.refs,PV.bN])]
 |rb β o n=>first|(simp[dR,fg,k1 β (by simp[PV.refs,PV.bN])];done)|simp[dR,fg,k2 β (by simp[PV.bS,PV.dP])]
 |fn f a b=>simp only[dR,bX];rw[if_neg];intro hn;exact k1 γ (by simpa using hn) rfl
 |aN bB e ty xs=>exact absurd rfl (h3 bB e ty xs)
 |aT cs=>exact absurd rfl (h4 cs).1
 |eO cs=>exact absurd rfl (h4 cs).2.1
 |eP cs q=>exact absurd rfl ((h4 cs).2.2 q)
 |_=>rfl
theorem agJ{γ:Nat}{x:PV}{W:List (Nat×Nat)}{J F:Fr}{B:List Nat}(hW:lj W γ=true)(ak:2000000<=γ):xv γ x (aQ W J (dk B F))=aQ W (xv γ x J) (dk B F):=by
 funext s;show(if s=γ then x else dR γ (if lj W s then J s else dk B F s))=if lj W s then(if s=γ then x else dR γ (J s))else dk B F s
 by_cases e:s=γ
 ·subst e;rw[if_pos rfl,if_pos hW,if_pos rfl]
 ·rw[if_neg e,if_neg e];split
  ·rfl
  ·exact adA ak (xd B F s)
def alp(nm:Nat->Bool)(hp:HP):HP:=fun β=>if nm β=true then none else hp β
theorem agK{nm:Nat->Bool}{β:Nat}:alp nm hp β=if nm β=true then none else hp β:=rfl
def one(γ:Nat):Nat->Bool:=fun x=>decide (x=γ)
theorem aiX{γ x:Nat}:one γ x=decide (x=γ):=rfl
theorem adB{K:Qg}{e d:Nat}{k:IntKind}{x0 x1 x2:PV}{xs:List PV}:dG e (.sl e (x0::x1::x2::xs)) (.int k 2) d fr hp K=K (af fr d (.pt x2.cells)) hp:=by simp[dG]
theorem adC{K:Qg}{e d:Nat}{k:IntKind}{x0 x1 x2 x3:PV}{xs:List PV}:dG e (.sl e (x0::x1::x2::x3::xs)) (.int k 3) d fr hp K=K (af fr d (.pt x3.cells)) hp:=by simp[dG]
theorem adD{K:Qg}{e d:Nat}{k:IntKind}{x0 x1 x2 x3 x4:PV}{xs:List PV}:dG e (.sl e (x0::x1::x2::x3::x4::xs)) (.int k 4) d fr hp K=K (af fr d (.pt x4.cells)) hp:=by simp[dG]
theorem adE{K:Qg}{e d:Nat}{k:IntKind}{x0 x1 x2 x3 x4 x5:PV}{xs:List PV}:dG e (.sl e (x0::x1::x2::x3::x4::x5::xs)) (.int k 5) d fr hp K=K (af fr d (.pt x5.cells)) hp:=by simp[dG]
theorem adF{K:Qg}{e d:Nat}{k:IntKind}{x0 x1 x2 x3 x4 x5 x6:PV}{xs:List PV}:dG e (.sl e (x0::x1::x2::x3::x4::x5::x6::xs)) (.int k 6) d fr hp K=K (af fr d (.pt x6.cells)) hp:=by simp[dG]
theorem adG{K:Qg}{e d:Nat}{k:IntKind}{x0 x1 x2 x3 x4 x5 x6 x7:PV}{xs:List PV}:dG e (.sl e (x0::x1::x2::x3::x4::x5::x6::x7::xs)) (.int k 7) d fr hp K=K (af fr d (.pt x7.cells)) hp:=by simp[dG]
attribute [go_sem] agK aiX adB adC adD adE adF adG
end Go.FW
