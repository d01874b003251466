/- Part 15 of the proof of TriangularZeros: TR8, FwWA, FwWB, FwWC, FwWD, FwUK, FwWE, FwWF, FwWG, FwVD, FwWH, FwVG, FwYB, FwYC, FwYD, FwYE, FwYF. Own lemmas; no conditions. -/
import Derived.Test.YtdjoomkeehihmaaGreatTriangularZerosPart14
set_option maxHeartbeats 1000000
set_option linter.unusedSimpArgs false
set_option linter.unusedVariables false
set_option linter.unnecessarySimpa false
set_option maxRecDepth 100000
namespace Go.Proofs.YtdjoomkeehihmaaGreat
open Go Go.FW
def KR:aA:=⟨44,[.t 2,.t 3],Zr (Zo (.mv 2 (.c .aa))<|Zc 3 0 .nil)<|Zr (Zo (.mv 4 (.c .aa)) .nil)<| .seq (Zr (Zm 10 0<|Zn 11 10<|Zc 12 0 .nil)<| .block 0<| .loop<|Zr (Zb 13 .lss 12 11 .nil)<| .seq (.cond (.t 13) .skip (.exit 0))<| .seq (.block 1<|Zr (Zm 14 12<|Zi 15 1 10 12<|Zl 16 1 15<|Zm 5 14<|Zm 6 16 .nil)<|Zr (Zm 17 0<|Zn 18 17<|Zo (.mk 19 1 24 32 .aa (.t 18) (.t 18))<| .wk<|Zm 7 19 .nil)<|Zr (Zm 20 7<|Zm 21 5<|Zq 22 false 26 [.c (Zz 1)]<|Zq 23 false 65 [.t 22]<|Zi 24 1 20 21<|Zs 1 24 23 .nil)<|Zr (Zm 26 6<|Zm 27 7<|Zq 28 false 66 [.t 26,.t 27]<|Zm 25 28<|Zo (.ext 29 (.t 25) 0)<|Zo (.ext 30 (.t 25) 1)<|Zo (.alloc 8 2 34 (.agg [.aa,.aa]))<|Zs 2 8 29<|Zm 9 30 .nil)<| .seq (Zr (Zm 31 9<|Zk 32 .neq 31 0 .nil)<| .cond (.t 32) (Zr (Zm 33 9<|Zo (.mv 2 (.c .aa))<|Zm 3 33 .nil) .ret) .skip)<|Zr (Zf 34 0 8<|Zl 35 1 34<|Zn 36 35<|Zk 37 .gtr 36 0 .nil)<| .cond (.t 37) (.rg (Zm 38 4<|Zh 39 2 8<|Zo (.bs 40 2 34 [.t 39])<|Zo (.app 41 2 48 34 (.t 38) (.t 40))<|Zm 4 41 .nil)) .skip)<| .rg (Zk 42 .add 12 1<|Zm 12 42 .nil))<|Zr (Zm 43 4<|Zm 2 43<|Zc 3 0 .nil) .ret⟩
theorem ake:Qe Tryz.prog Tryz.f27=some KR.strip:=by kernel_rfl
def eD(n i:Nat):List (List Tm):=(List.replicate n []).set i (dm ((1:Int):Rat))
def se(R:Nat->List Tm×List (List Tm))(i:Nat):List (List Tm×List (List Tm)):=if 0<(R i).1.length then [R i]else []
def gz(R:Nat->List Tm×List (List Tm))(i:Nat):List (List Tm×List (List Tm)):=(List.range i).flatMap (se R)
theorem DJ(R:Nat->List Tm×List (List Tm)):∀i,(gz R i).length<=i
 |0=>by simp[gz]
 |i+1=>by
  have:=DJ R i;unfold gz at *
  rw[Kb0,Kb4,Kap];have h2:(([i]:List Nat).flatMap (se R)).length<=1:=by simp only[Kau,KaA,Kak];unfold se;split<;>simp
  omega
theorem IF(n β ty:Nat):∀(fr:Fr)(hp:HP),hp β=some ⟨1,ty,List.replicate n PV.aa,false⟩->Wk fr hp fr (Qz hp β ⟨1,ty,(List.replicate n ([]:List Tm)).map PV.aj,false⟩):=fun fr hp h=>by
 refine akd h (by simp) fun i x x' hx aW=>?_;rw[List.getElem?_replicate]at hx;rw[Kay,List.getElem?_replicate]at aW;split at hx
 ·rename_i hi;cases hx;rw[if_pos hi]at aW;cases aW;refine⟨rfl,rfl,fun j y y' hy jO=>?_⟩
  match j,hy,jO with
  |0,hy,jO=>simp[PV.cells]at hy jO;subst hy jO;exact trivial
  |j+1,hy,_=>simp[PV.cells]at hy
 ·cases hx
theorem PC{ps:List (List Tm)}{R:Nat->List Tm×List (List Tm)}{bad:Nat}{er:Int}(hl:ps.length<=100)(qW:bad<=ps.length)(dt:∀i (h:i<ps.length),i<bad->Qc Tryz.prog 66 [PV.aj ps[i],PV.ch (eD ps.length i)] (· = .au [PV.el (R i),.int .i64 0])/\(R i).1.length<=2^30)
  (Fj:∀h:bad<ps.length,er≠0/\Qc Tryz.prog 66 [PV.aj ps[bad],PV.ch (eD ps.length bad)] (· = .au [PV.el ([],[]),.int .i64 er])):
  Qc Tryz.prog 27 [PV.ch ps] (· =if bad=ps.length then .au [.sl 2 ((gz R ps.length).map PV.el),.int .i64 0]else .au [.sl 2 [],.int .i64 er]):=by
 obtain⟨tY,ou⟩:∃tY,tY=if bad=ps.length then PV.au [.sl 2 ((gz R ps.length).map PV.el),.int .i64 0]else .au [.sl 2 [],.int .i64 er]:=⟨_,rfl⟩
 rw[<-ou];have h1:=l4;have sN:=rN (x:=1) (by omega) (by omega);have ae:=Ot (a:=((1:Int):Rat)) (k:=1) (by have:((1:Int):Rat)=1:=rfl;rw[this];exact h1) (by omega);refine xA Qo Tryz.func27 rfl ake (by simp[KR]) fun C hP=>?_;simp only[KR,Zo,Zg,Zm,Zc,Zf,Zl,Zh,Zs,Zi,Zb,Zk,Zn,Zu,Zq,Zr,Zz];refine Sz0 ?_;refine kZ 4 900 2 34 (by omega) Tz0 ?_;refine Qw (by repeat (first|exact Qr|exact Qk|exact Ql|exact Qm|exact Qn|apply Qj|apply Qq|apply Qx|apply Q5|apply Q6|apply Qi|apply Q2)) [(2,9),(12,42)] [8,19,40,41,900] (fun m J hp=>∃i,m=ps.length-i/\i<=bad/\J 4= .ms 900 (gz R i).length/\J 12= .int .i64 (i:Nat)/\hp 900=some ⟨2,34,(gz R i).map PV.el,false⟩) ps.length ?_ ?_
 ·refine⟨0,rfl,by omega,?_⟩;refine Sz0 ?_
  first|rfl|exact⟨rfl,rfl⟩|exact⟨rfl,rfl,rfl⟩
 rintro _ J h ⟨i,rfl,hi,j4,qt,hh⟩;refine Sz2 j4 qt ?_;refine Qb (fun hg=>?_) (fun hg=>?_)
 ·have c1:i<ps.length:=by omega
  have aF:Qc Tryz.prog 66 [PV.aj ps[i],PV.ch (eD ps.length i)] (· =if i<bad then .au [PV.el (R i),.int .i64 0]else .au [PV.el ([],[]),.int .i64 er]):=by
   by_cases gR:i<bad
   ·rw[if_pos gR];exact(dt i c1 gR).1
   ·obtain rfl:i=bad:=by omega
    rw[if_neg gR];exact(Fj c1).2
  have uj:i<bad->(R i).1.length<=2^30:=fun h=>(dt i c1 h).2;have her:¬i<bad->er≠0/\¬bad=ps.length:=fun h=>by
   obtain rfl:i=bad:=by omega
   exact⟨(Fj c1).1,by omega⟩
  have hp:=aF;clear aF;have sK:=DJ R i;have aG:gz R (i+1)=gz R i++se R i:=by unfold gz;rw[Kb0,Kb4];simp
  unfold se at aG;generalize gz R i=A at *
  generalize hx:ps[i]=x at *
  generalize R i=z at *
  refine Sz3 j4 qt hx ?_;refine mT (IF ps.length 19 32 _ _ Tz0) ?_;have lZ:(List.replicate ps.length ([]:List Tm)).length=ps.length:=List.length_replicate;unfold eD at hp;generalize List.replicate ps.length ([]:List Tm)=Z at *
  have hiZ:i<Z.length:=by omega
  have ks:(Z.map PV.aj).set i (PV.aj (dm ((1:Int):Rat)))=(Z.set i (dm ((1:Int):Rat))).map PV.aj:=by rw[Kda]
  have M0:i<(Z.map PV.aj).length:=by rw[KaV];omega
  have hlS:(Z.set i (dm ((1:Int):Rat))).length=ps.length:=by rw[Kb8,lZ]
  refine Sz3 j4 qt hx ?_;refine Qa hP sN rfl rfl rfl ?_;refine Sz3 j4 qt hx ?_;refine Qa hP ae rfl rfl rfl ?_;refine Sz3 j4 qt hx ?_;rw[Dj (n:=1) (v:=PV.sl 4 ((dm ((1:Int):Rat)).map PV.term)) M0 rfl rfl];rw[show(Z.map PV.aj).set i (PV.sl 4 ((dm ((1:Int):Rat)).map PV.term))=(Z.set i (dm ((1:Int):Rat))).map PV.aj from ks];generalize Z.set i (dm ((1:Int):Rat))=Y at *
  refine Sz3 j4 qt hx ?_;have e0:List.take ps.length (Y.map PV.aj)=Y.map PV.aj:=Kae (by rw[KaV];omega);by_cases gR:i<bad
  rotate_left
  ·rw[if_neg gR]at hp;obtain⟨e1,e2⟩:=her gR;have q3:decide (er=0)=false:=decide_eq_false e1;have tc:decide (¬er=0)=true:=decide_eq_true e1;refine iQ hP hp (by simp+decide (disch:=try exact E2 hh e0) only[go_sem,hh,et,Kax,KaC,Kau,KaA,Kak,e0];try rfl) rfl ?_;refine Vz6 j4 qt hx hh q3 tc ?_;refine tv ?_;refine iS ?_;refine lk j4 hh ?_;exact eV (p':=.sl 2 []) (by rw[ou,if_neg e2]) rfl rfl trivial (Qy _)
  rw[if_pos gR]at hp;have uj:=uj gR;refine iQ hP hp (by simp+decide (disch:=try exact E2 hh e0) only[go_sem,hh,et,Kax,KaC,Kau,KaA,Kak,e0];try rfl) rfl ?_;refine Je j4 qt hx hh ?_;by_cases e3:0<z.1.length
  ·have q3:decide (0<(z.1.length:Int))=true:=decide_eq_true (by omega);rw[if_pos e3]at aG;refine Vq j4 qt hx hh q3 ?_;rw[Q9 (f:=PV.el) (y:=z) (xs:=A) (ty':=34) (fz:=false) (Uz1 hh) cH (by omega) rfl (by omega) (by omega)];refine Sz3 j4 qt hx ?_;refine Qg (ps.length-(i+1)) (by omega) ⟨i+1,rfl,by omega,?_⟩;rw[aG];simp+decide (disch:=first|omega|rfl|(simp+decide only[go_sem,Kap]<;>rfl)|fail) only[go_sem,Kap]
   try trivial
  ·have q3:decide (0<(z.1.length:Int))=false:=decide_eq_false (by omega);rw[if_neg e3,Kak]at aG;refine Vq j4 qt hx hh q3 ?_;refine Qg (ps.length-(i+1)) (by omega) ⟨i+1,rfl,by omega,?_⟩;rw[aG];refine lk j4 hh ?_
   try (first|trivial|exact⟨rfl,rfl⟩)
 ·obtain rfl:i=ps.length:=by omega
  have fm:bad=ps.length:=by omega
  refine lk j4 hh ?_;refine tv ?_;refine iS ?_;refine lk j4 hh ?_;exact eV (by rw[ou,if_pos fm,Kae (by simp)]) rfl rfl (Qy _) (Qy _)
theorem ahv{ps:List (List Tm)}{R:Nat->List Tm×List (List Tm)}(hl:ps.length<=100)(dt:∀i (h:i<ps.length),Qc Tryz.prog 66 [PV.aj ps[i],PV.ch (eD ps.length i)] (· = .au [PV.el (R i),.int .i64 0]))(hR:∀i,i<ps.length->(R i).1.length<=2^30):
  Qc Tryz.prog 27 [PV.ch ps] (· = .au [.sl 2 ((gz R ps.length).map PV.el),.int .i64 0]):=by
 have h:=PC (bad:=ps.length) (er:=0) hl (Kac _) (fun i h _=>⟨dt i h,hR i h⟩) (fun h=>absurd h (by omega));simpa using h
end Go.Proofs.YtdjoomkeehihmaaGreat
namespace Go.FW
open Go
def n1:List Tm->Rat
 | []=>0
 |t::p=>dQ t.1+n1 p
theorem lP:∀p,0<=n1 p
 | []=>Rat.le_refl
 |t::p=>by have h1:=qB t.1;have h2:=lP p;simp only[n1];grind
theorem Ep(p q:List Tm):n1 (Q8 p q)<=n1 p+n1 q:=by
 induction p,q using Q8.induct with
 |case1 q=>rw[pG];simp only[n1];grind
 |case2 p hp=>rw[lf];simp only[n1];grind
 |case3 c m p d l q h1 ih=>rw[Q8,if_pos h1];simp only[n1]at ih ⊢;grind
 |case4 c m p d l q h1 h2 ih=>rw[Q8,if_neg h1,if_pos h2];simp only[n1]at ih ⊢;grind
 |case5 c m p d l q h1 h2 h3 ih=>rw[Q8,if_neg h1,if_neg h2,if_pos h3];have g1:=qB c;have g2:=qB d;simp only[n1]at ih ⊢;grind
 |case6 c m p d l q h1 h2 h3 ih=>rw[Q8,if_neg h1,if_neg h2,if_neg h3];have g:=aeB c d;simp only[n1]at ih⊢;grind
theorem xB(t:Tm):∀p:List Tm,n1 (bd p t)<=dQ t.1*n1 p
 | []=>by simp only[bd,List.filterMap_nil,n1];grind
 |s::p=>by
  have ih:=xB t p;have g:=DH s.1 t.1;have g2:=Kci (qB t.1) (qB s.1);unfold bd at ih⊢;rw[Kbl];by_cases e:s.1*t.1=0
  ·rw[if_pos e];simp only[n1];grind
  ·rw[if_neg e];simp only[n1];grind
def qv:List (List Tm)->Rat
 | []=>0
 |p::l=>n1 p+qv l
theorem UG:∀a b:List (List Tm),qv (a++b)=qv a+qv b
 | [],b=>by simp only[KaN,qv];grind
 |p::a,b=>by simp only[KaQ,qv];rw[UG a b];grind
theorem Rh(l:List (List Tm)):n1 (cQ l)<=qv l:=by
 induction l using cQ.induct with
 |case1=>rw[cQ];exact Rat.le_refl
 |case2 p=>rw[cQ];simp only[qv];grind
 |case3 p q r h1 h2=>rw[cQ];have h3:=Ep (cQ ((p::q::r).take ((p::q::r).length/2))) (cQ ((p::q::r).drop ((p::q::r).length/2)));have h4:=UG ((p::q::r).take ((p::q::r).length/2)) ((p::q::r).drop ((p::q::r).length/2));rw[Kbo]at h4;rw[h4];grind
theorem Hz(q:List Tm):∀p:List Tm,qv (p.map (bd q))<=n1 p*n1 q
 | []=>by simp only[Kbu,qv,n1];grind
 |t::p=>by have ih:=Hz q p;have h:=xB t q;simp only[Kbd,qv,n1];grind
theorem Az(p q:List Tm):n1 (Q4 p q)<=n1 p*n1 q:=by
 unfold Q4;split
 ·have h1:=Rh (q.map (bd p));have h2:=Hz p q;unfold oM;grind
 ·have h1:=Rh (p.map (bd q));have h2:=Hz q p;unfold oM;grind
def Dn(D:Nat)(p:List Tm):Prop:=∀t∈p,jk (t.1*(D:Rat))
theorem Er{D:Nat}(p q:List Tm):Dn D p->Dn D q->Dn D (Q8 p q):=by
 induction p,q using Q8.induct with
 |case1 q=>intro _ h;rwa[pG]
 |case2 p hp=>intro h _;rwa[lf]
 |case3 c m p d l q h1 ih=>
  intro hp hq;rw[Q8,if_pos h1];intro t ht;rcases KaP.1 ht with rfl|ht
  ·exact hp _ (KbO ..)
  ·exact ih (fun t ht=>hp t (Kbm _ ht)) hq t ht
 |case4 c m p d l q h1 h2 ih=>
  intro hp hq;rw[Q8,if_neg h1,if_pos h2];intro t ht;rcases KaP.1 ht with rfl|ht
  ·exact hq _ (KbO ..)
  ·exact ih hp (fun t ht=>hq t (Kbm _ ht)) t ht
 |case5 c m p d l q h1 h2 h3 ih=>intro hp hq;rw[Q8,if_neg h1,if_neg h2,if_pos h3];exact ih (fun t ht=>hp t (Kbm _ ht)) fun t ht=>hq t (Kbm _ ht)
 | case6 c m p d l q h1 h2 h3 ih=>
  intro hp hq;rw[Q8,if_neg h1,if_neg h2,if_neg h3];intro t ht;rcases KaP.1 ht with rfl|ht
  ·have a:=hp (c,m) (KbO ..);have b:=hq (d,l) (KbO ..);show jk ((c+d)*(D:Rat));rw[Rat.add_mul];exact a.add b
  ·exact ih (fun t ht=>hp t (Kbm _ ht)) (fun t ht=>hq t (Kbm _ ht)) t ht
theorem Ri{D:Nat}(l:List (List Tm)):(∀p∈l,Dn D p)->Dn D (cQ l):=by
 induction l using cQ.induct with
 |case1=>intro _;rw[cQ];intro t ht;cases ht
 |case2 p=>intro h;rw[cQ];exact h p (KbO ..)
 |case3 p q r h1 h2=>intro h;rw[cQ];exact Er _ _ (h1 fun x hx=>h x (Kbc hx)) (h2 fun x hx=>h x (Kbx hx))
theorem z9{D D':Nat}{t:Tm}(ht:jk (t.1*(D':Rat))){p:List Tm}(hp:Dn D p):Dn (D*D') (bd p t):=by
 intro x hx;simp only[bd,KbR]at hx;obtain⟨s,hs,e⟩:=hx;split at e
 ·cases e
 ·obtain rfl:(s.1*t.1,bm s.2 t.2)=x:=by simpa using e
  have:=(hp s hs).mul ht;show jk (s.1*t.1*((D*D':Nat):Rat));rw[Kb9,show s.1*t.1*((D:Rat)*(D':Rat))=s.1*(D:Rat)*(t.1*(D':Rat))by grind];exact this
theorem AA{D D':Nat}{p q:List Tm}(hp:Dn D p)(hq:Dn D' q):Dn (D*D') (Q4 p q):=by
 unfold Q4;split
 ·refine Ri _ fun x hx=>?_;obtain⟨t,ht,rfl⟩:=KaE.1 hx;exact z9 (hq t ht) hp
 ·refine Ri _ fun x hx=>?_;obtain⟨t,ht,rfl⟩:=KaE.1 hx;rw[KaU];exact z9 (hp t ht) hq
theorem R1:∀ {p:List Tm} {t:Tm},t∈p->dQ t.1<=n1 p
 | s::p,t,ht=>by
  have h1:=lP p;have h2:=qB s.1;simp only[n1];rcases KaP.1 ht with rfl|ht
  ·grind
  ·have:=R1 ht;grind
theorem aeV{D N:Nat}{p:List Tm}(hD:0<D)(hN:0<N)(hp:Dn D p)(hn:n1 p<=(N:Rat)){t:Tm}(ht:t∈p):rs t.1<=nl (N*D)+nl D+2:=by
 obtain⟨z,hz⟩:=hp t ht;have hT:=R1 ht;have hNt:dQ t.1<=(N:Rat):=by grind
 have Mz:((D:Int):Rat)≠0:=by rw[Ne,Ka6];omega
 have e:t.1=(z:Rat)/((D:Int):Rat):=by rw[<-hz,KaX];rw[KaX]at Mz;grind
 have FU:z.natAbs<=N*D:=by
  have h2:dQ (z:Rat)=dQ t.1*(D:Rat):=by rw[<-hz,DH];congr 1;rw[<-Rat.intCast_natCast,xC,KaD,KaX]
  rw[xC]at h2;have h3:(0:Rat)<=(D:Rat):=by rw[<-Rat.intCast_natCast,show(0:Rat)=((0:Int):Rat)from rfl,Kb3];omega
  have h4:=Kbk hNt h3;rw[<-h2,<-Rat.natCast_mul,<-Rat.intCast_natCast,<-Rat.intCast_natCast,Kb3]at h4;omega
 have hr:=EF z (D:Int) (by omega);rw[<-e,KaD]at hr;have g1:=fS FU;omega
def XB(E:Nat)(p:List Tm):Prop:=∃K,PB K E p
theorem XB.s6{E:Nat}{p q:List Tm}:XB E p->XB E q->XB E (FW.Q8 p q):=fun⟨_,h⟩ ⟨_,g⟩=>⟨_,tI p q h g⟩
theorem XB.XM{E:Nat}(l:List (List Tm)):(∀p∈l,XB E p)->XB E (FW.cQ l):=by
 induction l using FW.cQ.induct with
 |case1=>intro _;rw[FW.cQ];exact⟨0,PB.nil _ _⟩
 |case2 p=>intro h;rw[FW.cQ];exact h p (KbO ..)
 |case3 p q r h1 h2=>intro h;rw[FW.cQ];exact XB.s6 (h1 fun x hx=>h x (Kbc hx)) (h2 fun x hx=>h x (Kbx hx))
theorem XB.mA{E F:Nat}{p q:List Tm}:XB E p->XB F q->XB (E+F) (FW.Q4 p q):=fun⟨K,h⟩ ⟨L,g⟩=>by
 unfold FW.Q4;split
 ·refine XB.XM _ fun x hx=>?_;obtain⟨t,ht,rfl⟩:=KaE.1 hx;exact⟨K+L,tu h (g t ht)⟩
 ·refine XB.XM _ fun x hx=>?_;obtain⟨t,ht,rfl⟩:=KaE.1 hx;rw[KbQ];exact⟨L+K,tu g (h t ht)⟩
structure SZ(a b E:Nat)(p:List Tm):Prop where
 d:∃D N:Nat,0<D/\0<N/\nl D<=a/\nl N<=b/\Dn D p/\n1 p<=(N:Rat)
 x:XB E p
theorem SZ.mono{a b E a' b' E':Nat}{p:List Tm}(h:SZ a b E p)(ha:a<=a')(hb:b<=b')(hE:E<=E'):SZ a' b' E' p:=by obtain⟨⟨D,N,h1,h2,h3,h4,h5,h6⟩,K,hx⟩:=h;exact⟨⟨D,N,h1,h2,by omega,by omega,h5,h6⟩,K,hx.mono (Kac _) hE⟩
theorem Dn.dvd{D D':Nat}{p:List Tm}(h:Dn D p)(hd:D∣D'):Dn D' p:=fun t ht=>by obtain⟨k,rfl⟩:=hd;rw[Kb9,<-Rat.mul_assoc];exact(h t ht).mul (jk.nat k)
theorem SZ.mA{a b E a' b' E':Nat}{p q:List Tm}(hp:SZ a b E p)(hq:SZ a' b' E' q):SZ (a+a') (b+b') (E+E') (FW.Q4 p q):=by
 obtain⟨⟨D,N,h1,h2,h3,h4,h5,h6⟩,hx⟩:=hp;obtain⟨⟨D',N',g1,g2,g3,g4,g5,g6⟩,gx⟩:=hq;have e1:=gV D D';have e2:=gV N N';refine⟨⟨D*D',N*N',Kce h1 g1,Kce h2 g2,by omega,by omega,AA h5 g5,?_⟩,hx.mA gx⟩;have m1:=Az p q;have m2:=Kbk h6 (lP q);have n0:(0:Rat)<=(N:Rat):=by have:=lP p;grind
 have m3:=Kbt g6 n0;rw[Kb9];grind
theorem SZ.s6{a b E a' b':Nat}{p q:List Tm}(hp:SZ a b E p)(hq:SZ a' b' E q):SZ (a+a') (max b b'+1) E (FW.Q8 p q):=by obtain⟨⟨D,N,h1,h2,h3,h4,h5,h6⟩,hx⟩:=hp;obtain⟨⟨D',N',g1,g2,g3,g4,g5,g6⟩,gx⟩:=hq;have e1:=gV D D';have e2:=vD N N';refine⟨⟨D*D',N+N',Kce h1 g1,by omega,by omega,by omega,Er p q (h5.dvd (Nat.dvd_mul_right _ _)) (g5.dvd (Kdi _ _)),?_⟩,hx.s6 gx⟩;have m1:=Ep p q;rw[Rat.natCast_add];grind
theorem SZ.PB{a b E:Nat}{p:List Tm}(h:SZ a b E p):PB (a+b+a+3) E p:=fun t ht=>by obtain⟨⟨D,N,h1,h2,h3,h4,h5,h6⟩,K,hx⟩:=h;have hr:=aeV h1 h2 h5 h6 ht;have e:=gV N D;exact⟨by omega,(hx t ht).m,(hx t ht).l⟩
theorem I5:∀p:List Tm,n1 p<=((m8 p:Nat):Rat)
 | []=>Rat.le_refl
 |t::p=>by have h1:=I5 p;have h2:=TG t.1;have e:m8 (t::p)=t.1.num.natAbs+m8 p:=rfl;rw[e,Rat.natCast_add];simp only[n1];grind
theorem SZ.of{K E L:Nat}{p:List Tm}(h:FW.PB K E p)(hl:p.length<=L):SZ (L*K+1) (L+K+2) E p:=by
 have h1:=ahW h;have h2:=ahX h;have h3:=vD (m8 p) 1;have h4:nl 1<=1:=by rw[jV];exact Kac 1
 have h5:p.length*K<=L*K:=Kaf _ hl;have h6:=fS (show m8 p<=m8 p+1 by omega);by_cases hz:nl (m8 p)=0
 ·refine⟨⟨qO p,m8 p+1,Pk p,by omega,by omega,by omega,fun t ht=>ID (Iq ht),?_⟩,K,h⟩;have:=I5 p;rw[Rat.natCast_add];have:(0:Rat)<=((1:Nat):Rat):=by decide
  grind
 ·refine⟨⟨qO p,m8 p,Pk p,KaY fun e=>hz (xl.2 e),by omega,by omega,fun t ht=>ID (Iq ht),I5 p⟩,K,h⟩
theorem az.drop{p:List Tm}(h:az p):∀k,az (p.drop k)
 |0=>h
 |k+1=>by
  have:=az.drop h k;rw[<-List.drop_drop];cases hd:p.drop k with
  |nil=>simpa using az.nil
  |cons t l=>rw[hd]at this;simpa using this.tail
theorem ahw(r:Rat):(r.num:Rat)/(r.den:Rat)=r:=by have:=Rat.num_divInt_den r;rw[Rat.divInt_eq_div,KaX]at this;exact this
theorem OF(f:Tm->Nat):∀(l:List Tm)(g:Nat),l.foldl (fun g t=>Nat.gcd g (f t)) g∣g/\(∀t∈l,l.foldl (fun g t=>Nat.gcd g (f t)) g∣f t)/\∀d,d∣g->(∀t∈l,d∣f t)->d∣l.foldl (fun g t=>Nat.gcd g (f t)) g
 | [],g=>⟨Nat.dvd_refl _,(fun t h=>by cases h),(fun d h _=>h)⟩
 | t::l,g=>by
  obtain⟨h1,h2,h3⟩:=OF f l (Nat.gcd g (f t));refine⟨Kco h1 (KbJ _ _),fun s hs=>?_,fun d hd hl=>?_⟩
  ·rcases KaP.1 hs with rfl|hs
   ·exact Kco h1 (KbV _ _)
   ·exact h2 s hs
  ·exact h3 d (Nat.dvd_gcd hd (hl t (KbO ..))) fun s hs=>hl s (Kbm _ hs)
structure Prim(a:Rat)(p:List Tm):Prop where
 i:∀t∈p,∃z:Int,a*t.1=(z:Rat)
 g:∀d:Nat,(∀t∈p,∀z:Int,a*t.1=(z:Rat)->d∣z.natAbs)->d=1
 s:0<a*(oW p).1
theorem aeW(p:List Tm):0<bb p:=by
 have:=(tP p p.length (Kac _)).l0
 rwa[Kar]at this
theorem ac3{p:List Tm}{t:Tm}(h:t∈p):t.1.den∣bb p:=by obtain⟨i,hi,rfl⟩:=Ka8 h;exact Ip p hi
theorem ac4{p:List Tm}(np:az p)(h0:p≠[]):Prim (dP p) p:=by
 have hL:=aeW p;have hG:=vz np.z h0;obtain⟨L,lA⟩:∃L,L=bb p:=⟨_,rfl⟩
 obtain⟨G,Mm⟩:∃G,G=dS p:=⟨_,rfl⟩
 obtain⟨g1,g2,g3⟩:=OF (fun t=>t.1.num.natAbs*(L/t.1.den)) p 0;have hGL:p.foldl (fun g t=>Nat.gcd g (t.1.num.natAbs*(L/t.1.den))) 0=G:=by rw[Mm,<-Ox,<-lA];rfl
 rw[hGL]at g2 g3;have hG0:((G:Int):Rat)≠0:=by intro h;exact hG (by rw[<-Mm];have:=Ka6.1 h;omega)
 have hc:∀t∈p,∃z:Int,t.1*((L:Int):Rat)=(z:Rat)/\z.natAbs=t.1.num.natAbs*(L/t.1.den):=fun t ht=>by
  have hd:t.1.den∣L:=lA▸ac3 ht;have e:=TC hd;obtain⟨k,hk⟩:=hd;refine⟨t.1.num*(k:Int),?_,?_⟩
  ·have jL:((t.1.den:Nat):Rat)≠0:=by intro h;exact t.1.den_nz (by exact_mod_cast h)
   have e1:=ahw t.1;rw[hk];have e2:(((t.1.den*k:Nat):Int):Rat)=((t.1.den:Nat):Rat)*((k:Nat):Rat):=by rw[KaX,Kb9]
   rw[e2,Kbv,KaX];generalize((k:Nat):Rat)=kk;generalize((t.1.den:Nat):Rat)=dd at *
   generalize((t.1.num:Int):Rat)=nn at *
   have e3:t.1*dd=nn:=by rw[<-e1];exact Rat.div_mul_cancel jL
   rw[<-Rat.mul_assoc,e3]
  ·rw[Kcq,KaD,hk,Kbi _ t.1.den_pos]
 have aoo:∃s:Int,(s=1∨s= -1)/\dP p=((s*(L:Int):Int):Rat)/((G:Int):Rat)/\(s=1->¬(oW p).1<0)/\(s= -1->(oW p).1<0):=by
  unfold dP;rw[<-lA,<-Mm];by_cases hn:(p.headD (0,[])).1<0
  ·refine⟨-1,.inr rfl,?_,fun h=>absurd h (by decide),fun _=>hn⟩;rw[if_pos hn];have:(-1:Int)*(L:Int)= -(L:Int):=by omega
   rw[this]
  ·refine⟨1,.inl rfl,?_,fun _=>hn,fun h=>absurd h (by decide)⟩;rw[if_neg hn,Int.one_mul]
 obtain⟨s,gC,fw,wG,hs4⟩:=aoo;have hmul:∀t∈p,∃y:Int,dP p*t.1=(y:Rat)/\y.natAbs*G=t.1.num.natAbs*(L/t.1.den):=fun t ht=>by
  obtain⟨z,hz,BY⟩:=hc t ht;obtain⟨c,gA⟩:(G:Int)∣z:=Kc2.2 (BY▸g2 t ht);refine⟨s*c,?_,?_⟩
  ·have e:dP p*t.1=(s:Rat)*(t.1*((L:Int):Rat))/((G:Int):Rat):=by rw[fw,Kbv,KcB,KcB];grind
   rw[e,hz,gA,Kbv,Kbv,KcB];have:=Rat.mul_inv_cancel _ hG0;generalize((G:Int):Rat)=gg at *
   generalize(gg)⁻¹ =gi at *
   grind
  ·rw[<-BY,gA,Kcq,Kcq,KaD];have:s.natAbs=1:=by rcases gC with h|h<;>rw[h]<;>rfl
   rw[this,KcW,KaU]
 refine⟨fun t ht=>?_,fun d hd=>?_,?_⟩
 ·obtain⟨y,hy,_⟩:=hmul t ht;exact⟨y,hy⟩
 ·have h1:d*G∣G:=g3 _ (Nat.dvd_zero _) fun t ht=>by
   obtain⟨y,hy,hy2⟩:=hmul t ht;show d*G∣t.1.num.natAbs*(L/t.1.den)
   rw[<-hy2];exact Nat.mul_dvd_mul_right (hd t ht y hy) G
  have h2:0<G:=by omega
  exact Nat.dvd_one.1 (Nat.dvd_of_mul_dvd_mul_right h2 (by rwa[KcW]))
 ·have Nx:=np.z _ (IC h0);have hLp:(0:Rat)<((L:Int):Rat):=by
   have:(0:Int)<(L:Int):=by omega
   exact_mod_cast this
  have hGp:(0:Rat)<((G:Int):Rat):=by
   have:(0:Int)<(G:Int):=by omega
   exact_mod_cast this
  have VM:(0:Rat)<((L:Int):Rat)/((G:Int):Rat):=by rw[KcB];exact Rat.mul_pos hLp (Rat.inv_pos.2 hGp)
  have e:dP p=(s:Rat)*(((L:Int):Rat)/((G:Int):Rat)):=by rw[fw,Kbv,KcB,KcB,Rat.mul_assoc]
  rw[e];generalize((L:Int):Rat)/((G:Int):Rat)=x at *
  rcases gC with h|h
  ·have:=wG h;have e1:(s:Rat)=1:=by rw[h];rfl
   rw[e1,Kdl];exact Rat.mul_pos VM (by grind)
  ·have:=hs4 h;have e1:(s:Rat)= -1:=by rw[h];rfl
   rw[e1];have h5:=Rat.mul_pos VM (show(0:Rat)< -(oW p).1 by grind);grind
theorem Rj{p:List Tm}(np:az p)(h0:p≠[]):dP p≠0:=fun h=>by have:=(ac4 np h0).s;rw[h,Rat.zero_mul]at this;exact absurd this (by decide)
structure EG(p:List Tm):Prop where
 z:SZ 64 64 64 p
 l:p.length<=64
 n:az p
structure N6(p:List Tm):Prop where
 z:SZ (2097152) (2097152) (16384) p
 l:p.length<=131072
 n:az p
structure Jc(k:Nat)(p:List Tm):Prop where
 z:SZ (64*k) (64*k) (64*k) p
 l:p.length<=64
 n:az p
theorem EG.w{p:List Tm}(h:EG p):Jc 1 p:=⟨h.z.mono (by omega) (by omega) (by omega),h.l,h.n⟩
theorem Jc.PB{k:Nat}{p:List Tm}(h:Jc k p)(hk:k<=512):PB 131072 32768 p:=h.z.PB.mono (by omega) (by omega)
theorem EG.PB{p:List Tm}(h:EG p):PB 256 64 p:=h.z.PB.mono (by omega) (by omega)
theorem N6.PB{p:List Tm}(h:N6 p):FW.PB (8388608) (16384) p:=h.z.PB.mono (by omega) (by omega)
structure Cp(m:Nat)(p:List Tm):Prop where
 z:SZ (m*64+1) (m*64+2) (m*64) p
 n:az p
 l:p.length<=4000
theorem Cp.PB{m:Nat}{p:List Tm}(h:Cp m p)(hm:m<=2048):FW.PB (524288) (131072) p:=h.z.PB.mono (by omega) (by omega)
theorem SZ.one:SZ 1 1 0 (dm 1):=by
 have e:dm 1=[((1:Rat),[])]:=by unfold dm;rw[if_neg (by decide)]
 rw[e];refine⟨⟨1,1,by omega,by omega,by rw[jV];omega,by rw[jV];omega,fun t ht=>?_,?_⟩,3,fun t ht=>?_⟩
 ·obtain rfl:t=(1,[]):=by simpa using ht
  exact⟨1,by decide+kernel⟩
 ·simp only[n1];decide+kernel
 ·obtain rfl:t=(1,[]):=by simpa using ht
  refine⟨?_,⟨by simp,by simp,by simp⟩,by simp⟩;show rs 1+1<=3;have:=l4;omega
theorem Cp.one:Cp 0 (dm 1):=⟨SZ.one.mono (by omega) (by omega) (by omega),xp 1,by unfold dm;rw[if_neg (by decide)];simp⟩
structure Cf(j:Nat)(p:List Tm):Prop where
 d:∃D N:Nat,0<D/\0<N/\nl D<=31+120000*j/\nl N<=13+75000*j/\Dn D p/\n1 p<=(N:Rat)
 w:∀t∈p,jA t.2<=6560
 pos:Pos p
 ml:ML 4 p
 n:az p
theorem Cf.mono{i j:Nat}{p:List Tm}(h:Cf i p)(M1:i<=j):Cf j p:=by obtain⟨⟨D,N,h1,h2,h3,h4,h5,h6⟩,h7,h8,h9,bK⟩:=h;exact⟨⟨D,N,h1,h2,by omega,by omega,h5,h6⟩,h7,h8,h9,bK⟩
structure R2(hp:HP)(p:PV)(cs:List PV)(rs:List Nat):Prop where
 d:(aK hp p).aE=true
 c:(aK hp p).cells=cs
 r:p.refs=rs
 n:p.kS=false
theorem R2.flat{hp:HP}{p:PV}(h:p.flat=true):R2 hp p p.cells []:=by obtain⟨s1,s2,s3⟩:=qD (hp:=hp) h;exact⟨by rw[s1];exact s3,by rw[s1],s2,Ha h⟩
theorem P'{fr:Fr}{hp:HP}{K:Qh}{ty i d:Nat}{fz:Bool}{l:List (List Tm)}(h:i<l.length):kB (some ⟨1,ty,l.map PV.aj,fz⟩) 1 false i 0 d fr hp K=K (af fr d (PV.aj (l[i]'h))) hp:=by
 have hi:i<(l.map PV.aj).length:=by simpa using h
 simp[kB,h,eR,PV.cells]
theorem QA{fr:Fr}{hp:HP}{ty β i:Nat}{v:List Tm}{l:List (List Tm)}{K:Qh}(h:i<l.length):stM (some ⟨1,ty,l.map PV.aj,false⟩) β 1 i 0 (PV.aj v) fr hp K=K fr (Qz hp β ⟨1,ty,(l.set i v).map PV.aj,false⟩):=by rw[Dj (n:=1) (xs:=l.map PV.aj) (v:=PV.aj v) (by simpa using h) rfl rfl,Kda]
variable {C : Ctx} {fr : Fr} {hp : HP} {w : World} {K R : Qh}
theorem PD{x y:RT}{sk:List It}(cx:gy R sk)(W:List (Nat×Nat))(B:List Nat)(M:Fr->HP->Prop)
  (h:sv C R x y (.el (oR W (dp B fr) M)::sk) (aQ W fr (dp B fr)) hp) (hM:∀J hp,M J hp->vc C R sk (aQ W J (dp B fr)) hp):sv C R x y sk fr hp:=by
 have key:∀(r:RT),vc C R (.o r:: .el (oR W (dp B fr) M)::sk) (aQ W fr (dp B fr)) hp->vc C R (.o r::sk) fr hp:=by
  intro r hr;refine As (M:=oR W (dp B fr) M) ?_ _ [.o r] _ _ (Kac _) ?_
  ·rintro ay an ⟨J,h1,h2⟩;exact r8 cx.1 _ _ _ _ _ _ (Kac _) cx.2 h1 (hM J an h2)
  ·exact r8 cx.1 _ _ _ _ _ _ (Kac _) (.o r (.el El cx.2)) (QQ W B) hr
 exact⟨key x h.1,key y h.2⟩
end Go.FW
namespace Go.FW
open Go
variable {C : Ctx} {fr : Fr} {hp : HP} {w : World} {K R : Qh}
theorem akf:(∀(β o n:Nat),(PV.ax β o n).dZ=[β])/\(∀(k:IntKind)(n:Int),(PV.int k n).dZ=[])/\(∀b:Bool,(PV.bool b).dZ=[])/\(PV.aa.dZ=[])/\(∀(e:Nat)(xs:List PV),(PV.sl e xs).dZ=[]):=by refine⟨?_,?_,?_,?_,?_⟩<;>intros<;>rfl
attribute [go_sem] akf
end Go.FW
namespace Go.FW
open Go
variable {C : Ctx} {fr : Fr} {hp : HP} {w : World} {K R : Qh}
end Go.FW
namespace Go.FW
open Go
structure PQ(T K E:Nat)(p:List Tm):Prop where
 l:p.length<=T
 b:PB K E p
 n:az p
theorem PQ.mono{T K E T' K' E':Nat}{p:List Tm}(h:PQ T K E p)(h1:T<=T')(h2:K<=K')(h3:E<=E'):PQ T' K' E' p:=⟨Kaw h.l h1,h.b.mono h2 h3,h.n⟩
theorem PQ.nil{T K E:Nat}:PQ T K E []:=⟨Kby _,PB.nil _ _,az.nil⟩
theorem PQ.add{T K S L E:Nat}{p q:List Tm}(hp:PQ T K E p)(hq:PQ S L E q):PQ (T+S) (K+L) E (Q8 p q):=
 ⟨by have:=tk p q;have:=hp.l;have:=hq.l;omega,tI _ _ hp.b hq.b,nQ hp.n hq.n⟩
theorem akg{fr:Fr}{hp:HP}{K:Qh}{len e β j o d:Nat}{k:IntKind}(h:0<len):qK len e (.mp β j o) (.int k 0) d fr hp K=K (af fr d (.mp β j o)) hp:=by simp[qK,h]
theorem akh{fr:Fr}{hp:HP}{K:Qh}{len e β j o d:Nat}{k:IntKind}(h:1<len):qK len e (.mp β j o) (.int k 1) d fr hp K=K (af fr d (.mp β j (o+e))) hp:=by simp[qK];omega
theorem aki{fr:Fr}{hp:HP}{K:Qh}{e d β n:Nat}{k:IntKind}(h:0<n)(he:(hp β).map (·.e)=some e):dR e (.ax β 0 n) (.int k 0) d fr hp K=K (af fr d (.mp β 0 0)) hp:=by rw[EB (by omega) (by omega) he];rfl
theorem akj{fr:Fr}{hp:HP}{K:Qh}{e d β n:Nat}{k:IntKind}(h:1<n)(he:(hp β).map (·.e)=some e):dR e (.ax β 0 n) (.int k 1) d fr hp K=K (af fr d (.mp β 1 0)) hp:=by rw[EB (by omega) (by omega) he];rfl
theorem akk{fr:Fr}{hp:HP}{K:Qh}{e d β n:Nat}{k:IntKind}(h:2<n)(he:(hp β).map (·.e)=some e):dR e (.ax β 0 n) (.int k 2) d fr hp K=K (af fr d (.mp β 2 0)) hp:=by rw[EB (by omega) (by omega) he];rfl
attribute [go_sem] akg akh aki akj akk
variable {C : Ctx} {fr : Fr} {hp : HP} {w : World} {K R : Qh}
end Go.FW
namespace Go.FW
open Go
variable {fr : Fr} {hp : HP}
theorem aeX{γ:Nat}(ak:2000000<=γ){p:PV}(h:rF p):ee γ p=p:=by
 obtain⟨h1,h2,h3,h4⟩:=h;have k1:∀β∈p.refs,β≠γ:=fun β al e=>by have:=h1 β al;subst e;simp[kR]at this;omega
 have k2:∀β∈p.bW,β≠γ:=fun β al e=>by have:=h2 β al;subst e;simp[lI,kR]at this;omega
 cases p with
 |ax β o n=>first|(simp[ee,fC,k1 β (by simp[PV.refs,PV.bS])];done)|(simp[ee,fC,k2 β (by simp[PV.bW,PV.dZ])];done)
 |mp β i o=>simp[ee,fC,k1 β (by simp[PV.refs,PV.bS])]
 |rb β o n=>first|(simp[ee,fC,k1 β (by simp[PV.refs,PV.bS])];done)|simp[ee,fC,k2 β (by simp[PV.bW,PV.dZ])]
 |fn f a b=>simp only[ee,bZ];rw[if_neg];intro hn;exact k1 γ (by simpa using hn) rfl
 |aN bF e ty xs=>exact absurd rfl (h3 bF e ty xs)
 |aX cs=>exact absurd rfl (h4 cs).1
 |ff cs=>exact absurd rfl (h4 cs).2.1
 |fg cs q=>exact absurd rfl ((h4 cs).2.2 q)
 |_=>rfl
theorem ahx{γ:Nat}{x:PV}{W:List (Nat×Nat)}{J F:Fr}{B:List Nat}(hW:lH W γ=true)(ak:2000000<=γ):yp γ x (aQ W J (dp B F))=aQ W (yp γ x J) (dp B F):=by
 funext s;show(if s=γ then x else ee γ (if lH W s then J s else dp B F s))=if lH W s then(if s=γ then x else ee γ (J s))else dp B F s
 by_cases e:s=γ
 ·subst e;rw[if_pos rfl,if_pos hW,if_pos rfl]
 ·rw[if_neg e,if_neg e];split
  ·rfl
  ·exact aeX ak (xL B F s)
def amN(nm:Nat->Bool)(hp:HP):HP:=fun β=>if nm β=true then none else hp β
theorem ahy{nm:Nat->Bool}{β:Nat}:amN nm hp β=if nm β=true then none else hp β:=rfl
def one(γ:Nat):Nat->Bool:=fun x=>decide (x=γ)
theorem akl{γ x:Nat}:one γ x=decide (x=γ):=rfl
theorem aeY{K:Qh}{e d:Nat}{k:IntKind}{x0 x1 x2:PV}{xs:List PV}:dR e (.sl e (x0::x1::x2::xs)) (.int k 2) d fr hp K=K (af fr d (.pt x2.cells)) hp:=by simp[dR]
theorem aeZ{K:Qh}{e d:Nat}{k:IntKind}{x0 x1 x2 x3:PV}{xs:List PV}:dR e (.sl e (x0::x1::x2::x3::xs)) (.int k 3) d fr hp K=K (af fr d (.pt x3.cells)) hp:=by simp[dR]
theorem ae0{K:Qh}{e d:Nat}{k:IntKind}{x0 x1 x2 x3 x4:PV}{xs:List PV}:dR e (.sl e (x0::x1::x2::x3::x4::xs)) (.int k 4) d fr hp K=K (af fr d (.pt x4.cells)) hp:=by simp[dR]
theorem ae1{K:Qh}{e d:Nat}{k:IntKind}{x0 x1 x2 x3 x4 x5:PV}{xs:List PV}:dR e (.sl e (x0::x1::x2::x3::x4::x5::xs)) (.int k 5) d fr hp K=K (af fr d (.pt x5.cells)) hp:=by simp[dR]
theorem ae2{K:Qh}{e d:Nat}{k:IntKind}{x0 x1 x2 x3 x4 x5 x6:PV}{xs:List PV}:dR e (.sl e (x0::x1::x2::x3::x4::x5::x6::xs)) (.int k 6) d fr hp K=K (af fr d (.pt x6.cells)) hp:=by simp[dR]
theorem ae3{K:Qh}{e d:Nat}{k:IntKind}{x0 x1 x2 x3 x4 x5 x6 x7:PV}{xs:List PV}:dR e (.sl e (x0::x1::x2::x3::x4::x5::x6::x7::xs)) (.int k 7) d fr hp K=K (af fr d (.pt x7.cells)) hp:=by simp[dR]
attribute [go_sem] ahy akl aeY aeZ ae0 ae1 ae2 ae3
end Go.FW
