/- Part 6 of the proof of CertcheckFactors: FwWA, FwWB, FwWC, FwWD, FwUH, FwUK, FwWE. Own lemmas; no conditions. -/
import Derived.Test.YtdacdnoebgcjhaaGreatCertcheckFactorsPart5
set_option linter.unusedSimpArgs false
set_option linter.unnecessarySimpa false
set_option linter.unusedVariables false
namespace Go.FW
open Go
def n1:List Tm->Rat
 | []=>0
 |t::p=>Qcs t.1+n1 p
theorem Qkt:∀p,0<=n1 p
 | []=>Rat.le_refl
 |t::p=>by
  have h1:=Qc0 t.1
  have h2:=Qkt p
  simp only[n1];grind
theorem Qzw(p q:List Tm):n1 (Q8 p q)<=n1 p+n1 q:=by
 induction p,q using Q8.induct with
 |case1 q=>rw[Qeu];simp only[n1];grind
 |case2 p hp=>rw[Qb4];simp only[n1];grind
 |case3 c m p d l q h1 ih=>rw[Q8,if_pos h1];simp only[n1]at ih ⊢;grind
 |case4 c m p d l q h1 h2 ih=>rw[Q8,if_neg h1,if_pos h2];simp only[n1]at ih ⊢;grind
 |case5 c m p d l q h1 h2 h3 ih=>
  rw[Q8,if_neg h1,if_neg h2,if_pos h3]
  have g1:=Qc0 c
  have g2:=Qc0 d
  simp only[n1]at ih ⊢;grind
 |case6 c m p d l q h1 h2 h3 ih=>
  rw[Q8,if_neg h1,if_neg h2,if_neg h3]
  have g:=Q80 c d
  simp only[n1]at ih⊢
  grind
theorem Qt6(t:Tm):∀p:List Tm,n1 (Q9 p t)<=Qcs t.1*n1 p
 | []=>by simp only[Q9,List.filterMap_nil,n1];grind
 |s::p=>by
  have ih:=Qt6 t p
  have g:=Qm1 s.1 t.1
  have g2:=Rat.mul_nonneg (Qc0 t.1) (Qc0 s.1)
  unfold Q9 at ih⊢
  rw[List.filterMap_cons]
  by_cases e:s.1*t.1=0
  ·rw[if_pos e];simp only[n1];grind
  ·rw[if_neg e];simp only[n1];grind
def n1s:List (List Tm)->Rat
 | []=>0
 |p::l=>n1 p+n1s l
theorem Qrx:∀a b:List (List Tm),n1s (a++b)=n1s a+n1s b
 | [],b=>by simp only[List.nil_append,n1s];grind
 |p::a,b=>by
  simp only[List.cons_append,n1s]
  rw[Qrx a b];grind
theorem Qzx(l:List (List Tm)):n1 (Qa6 l)<=n1s l:=by
 induction l using Qa6.induct with
 |case1=>rw[Qa6];exact Rat.le_refl
 |case2 p=>rw[Qa6];simp only[n1s];grind
 |case3 p q r h1 h2=>
  rw[Qa6]
  have h3:=Qzw (Qa6 ((p::q::r).take ((p::q::r).length/2))) (Qa6 ((p::q::r).drop ((p::q::r).length/2)))
  have h4:=Qrx ((p::q::r).take ((p::q::r).length/2)) ((p::q::r).drop ((p::q::r).length/2))
  rw[List.take_append_drop]at h4
  rw[h4]
  grind
theorem Qn8(q:List Tm):∀p:List Tm,n1s (p.map (Q9 q))<=n1 p*n1 q
 | []=>by simp only[List.map_nil,n1s,n1];grind
 |t::p=>by
  have ih:=Qn8 q p
  have h:=Qt6 t q
  simp only[List.map_cons,n1s,n1]
  grind
theorem Qacn(p q:List Tm):n1 (Qbc p q)<=n1 p*n1 q:=by
 unfold Qbc
 split
 ·have h1:=Qzx (q.map (Q9 p))
  have h2:=Qn8 p q
  unfold Qf7;grind
 ·have h1:=Qzx (p.map (Q9 q))
  have h2:=Qn8 q p
  unfold Qf7;grind
def Dn(D:Nat)(p:List Tm):Prop:=∀t∈p,IsI (t.1*(D:Rat))
theorem Qzy{D:Nat}(p q:List Tm):Dn D p->Dn D q->Dn D (Q8 p q):=by
 induction p,q using Q8.induct with
 |case1 q=>intro _ h;rwa[Qeu]
 |case2 p hp=>intro h _;rwa[Qb4]
 |case3 c m p d l q h1 ih=>
  intro hp hq;rw[Q8,if_pos h1]
  intro t ht
  rcases List.mem_cons.1 ht with rfl|ht
  ·exact hp _ (List.mem_cons_self ..)
  ·exact ih (fun t ht=>hp t (List.mem_cons_of_mem _ ht)) hq t ht
 |case4 c m p d l q h1 h2 ih=>
  intro hp hq;rw[Q8,if_neg h1,if_pos h2]
  intro t ht
  rcases List.mem_cons.1 ht with rfl|ht
  ·exact hq _ (List.mem_cons_self ..)
  ·exact ih hp (fun t ht=>hq t (List.mem_cons_of_mem _ ht)) t ht
 |case5 c m p d l q h1 h2 h3 ih=>
  intro hp hq;rw[Q8,if_neg h1,if_neg h2,if_pos h3]
  exact ih (fun t ht=>hp t (List.mem_cons_of_mem _ ht)) fun t ht=>hq t (List.mem_cons_of_mem _ ht)
 | case6 c m p d l q h1 h2 h3 ih=>
  intro hp hq;rw[Q8,if_neg h1,if_neg h2,if_neg h3]
  intro t ht
  rcases List.mem_cons.1 ht with rfl|ht
  ·have a:=hp (c,m) (List.mem_cons_self ..)
   have b:=hq (d,l) (List.mem_cons_self ..)
   show IsI ((c+d)*(D:Rat))
   rw[Rat.add_mul];exact a.add b
  ·exact ih (fun t ht=>hp t (List.mem_cons_of_mem _ ht)) (fun t ht=>hq t (List.mem_cons_of_mem _ ht)) t ht
theorem Qzz{D:Nat}(l:List (List Tm)):(∀p∈l,Dn D p)->Dn D (Qa6 l):=by
 induction l using Qa6.induct with
 |case1=>intro _;rw[Qa6];intro t ht;cases ht
 |case2 p=>intro h;rw[Qa6];exact h p (List.mem_cons_self ..)
 |case3 p q r h1 h2=>
  intro h
  rw[Qa6]
  exact Qzy _ _ (h1 fun x hx=>h x (List.mem_of_mem_take hx)) (h2 fun x hx=>h x (List.mem_of_mem_drop hx))
theorem Qt7{D D':Nat}{t:Tm}(ht:IsI (t.1*(D':Rat))){p:List Tm}(hp:Dn D p):Dn (D*D') (Q9 p t):=by
 intro x hx
 simp only[Q9,List.mem_filterMap]at hx
 obtain⟨s,hs,e⟩:=hx
 split at e
 ·cases e
 ·obtain rfl:(s.1*t.1,Qby s.2 t.2)=x:=by simpa using e
  have:=(hp s hs).mul ht
  show IsI (s.1*t.1*((D*D':Nat):Rat))
  rw[Rat.natCast_mul,show s.1*t.1*((D:Rat)*(D':Rat))=s.1*(D:Rat)*(t.1*(D':Rat))by grind]
  exact this
theorem Qaco{D D':Nat}{p q:List Tm}(hp:Dn D p)(hq:Dn D' q):Dn (D*D') (Qbc p q):=by
 unfold Qbc
 split
 ·refine Qzz _ fun x hx=> ?_
  obtain⟨t,ht,rfl⟩:=List.mem_map.1 hx
  exact Qt7 (hq t ht) hp
 ·refine Qzz _ fun x hx=> ?_
  obtain⟨t,ht,rfl⟩:=List.mem_map.1 hx
  rw[Nat.mul_comm]
  exact Qt7 (hp t ht) hq
theorem Q4q:∀ {p:List Tm} {t:Tm},t∈p->Qcs t.1<=n1 p
 | s::p,t,ht=>by
  have h1:=Qkt p
  have h2:=Qc0 s.1
  simp only[n1]
  rcases List.mem_cons.1 ht with rfl|ht
  ·grind
  ·have:=Q4q ht
   grind
theorem Qxh{D N:Nat}{p:List Tm}(hD:0<D)(hN:0<N)(hp:Dn D p)(hn:n1 p<=(N:Rat)){t:Tm}(ht:t∈p):rs t.1<=nl (N*D)+nl D+2:=by
 obtain⟨z,hz⟩:=hp t ht
 have hT:=Q4q ht
 have hNt:Qcs t.1<=(N:Rat):=by grind
 have hXr:((D:Int):Rat)≠0:=by rw[Ne,Rat.intCast_eq_zero_iff];omega
 have e:t.1=(z:Rat)/((D:Int):Rat):=by rw[<-hz,Rat.intCast_natCast];rw[Rat.intCast_natCast]at hXr;grind
 have hzl:z.natAbs<=N*D:=by
  have h2:Qcs (z:Rat)=Qcs t.1*(D:Rat):=by
   rw[<-hz,Qm1];congr 1
   rw[<-Rat.intCast_natCast,Qhl,Int.natAbs_natCast,Rat.intCast_natCast]
  rw[Qhl]at h2
  have h3:(0:Rat)<=(D:Rat):=by rw[<-Rat.intCast_natCast,show(0:Rat)=((0:Int):Rat)from rfl,Rat.intCast_le_intCast];omega
  have h4:=Rat.mul_le_mul_of_nonneg_right hNt h3
  rw[<-h2,<-Rat.natCast_mul,<-Rat.intCast_natCast,<-Rat.intCast_natCast,Rat.intCast_le_intCast]at h4
  omega
 have hr:=Qxf z (D:Int) (by omega)
 rw[<-e,Int.natAbs_natCast]at hr
 have g1:=Qa7 hzl
 omega
end Go.FW
namespace Go.FW
open Go
def XB(E:Nat)(p:List Tm):Prop:=∃K,PB K E p
theorem XB.padd{E:Nat}{p q:List Tm}:XB E p->XB E q->XB E (FW.Q8 p q):=fun⟨_,h⟩ ⟨_,g⟩=>⟨_,Qsp p q h g⟩
theorem XB.psum{E:Nat}(l:List (List Tm)):(∀p∈l,XB E p)->XB E (FW.Qa6 l):=by
 induction l using FW.Qa6.induct with
 |case1=>intro _;rw[FW.Qa6];exact⟨0,PB.nil _ _⟩
 |case2 p=>intro h;rw[FW.Qa6];exact h p (List.mem_cons_self ..)
 |case3 p q r h1 h2=>
  intro h
  rw[FW.Qa6]
  exact XB.padd (h1 fun x hx=>h x (List.mem_of_mem_take hx)) (h2 fun x hx=>h x (List.mem_of_mem_drop hx))
theorem XB.pmul{E F:Nat}{p q:List Tm}:XB E p->XB F q->XB (E+F) (FW.Qbc p q):=fun⟨K,h⟩ ⟨L,g⟩=>by
 unfold FW.Qbc
 split
 ·refine XB.psum _ fun x hx=> ?_
  obtain⟨t,ht,rfl⟩:=List.mem_map.1 hx
  exact⟨K+L,Qfn h (g t ht)⟩
 ·refine XB.psum _ fun x hx=> ?_
  obtain⟨t,ht,rfl⟩:=List.mem_map.1 hx
  rw[Nat.add_comm]
  exact⟨L+K,Qfn g (h t ht)⟩
structure SZ(a b E:Nat)(p:List Tm):Prop where
 d:∃D N:Nat,0<D/\0<N/\nl D<=a/\nl N<=b/\Dn D p/\n1 p<=(N:Rat)
 x:XB E p
theorem SZ.mono{a b E a' b' E':Nat}{p:List Tm}(h:SZ a b E p)(ha:a<=a')(hb:b<=b')(hE:E<=E'):SZ a' b' E' p:=by
 obtain⟨⟨D,N,h1,h2,h3,h4,h5,h6⟩,K,hx⟩:=h
 exact⟨⟨D,N,h1,h2,by omega,by omega,h5,h6⟩,K,hx.mono (Nat.le_refl _) hE⟩
theorem Dn.dvd{D D':Nat}{p:List Tm}(h:Dn D p)(hd:D∣D'):Dn D' p:=fun t ht=>by
 obtain⟨k,rfl⟩:=hd
 rw[Rat.natCast_mul,<-Rat.mul_assoc]
 exact(h t ht).mul (IsI.nat k)
theorem SZ.pmul{a b E a' b' E':Nat}{p q:List Tm}(hp:SZ a b E p)(hq:SZ a' b' E' q):SZ (a+a') (b+b') (E+E') (FW.Qbc p q):=by
 obtain⟨⟨D,N,h1,h2,h3,h4,h5,h6⟩,hx⟩:=hp
 obtain⟨⟨D',N',g1,g2,g3,g4,g5,g6⟩,gx⟩:=hq
 have e1:=Qc2 D D'
 have e2:=Qc2 N N'
 refine⟨⟨D*D',N*N',Nat.mul_pos h1 g1,Nat.mul_pos h2 g2,by omega,by omega,Qaco h5 g5,?_⟩,hx.pmul gx⟩
 have m1:=Qacn p q
 have m2:=Rat.mul_le_mul_of_nonneg_right h6 (Qkt q)
 have n0:(0:Rat)<=(N:Rat):=by have:=Qkt p;grind
 have m3:=Rat.mul_le_mul_of_nonneg_left g6 n0
 rw[Rat.natCast_mul];grind
theorem SZ.padd{a b E a' b':Nat}{p q:List Tm}(hp:SZ a b E p)(hq:SZ a' b' E q):SZ (a+a') (max b b'+1) E (FW.Q8 p q):=by
 obtain⟨⟨D,N,h1,h2,h3,h4,h5,h6⟩,hx⟩:=hp
 obtain⟨⟨D',N',g1,g2,g3,g4,g5,g6⟩,gx⟩:=hq
 have e1:=Qc2 D D'
 have e2:=Qnq N N'
 refine⟨⟨D*D',N+N',Nat.mul_pos h1 g1,by omega,by omega,by omega,Qzy p q (h5.dvd (Nat.dvd_mul_right _ _)) (g5.dvd (Nat.dvd_mul_left _ _)),?_⟩,hx.padd gx⟩
 have m1:=Qzw p q
 rw[Rat.natCast_add];grind
theorem SZ.PB{a b E:Nat}{p:List Tm}(h:SZ a b E p):PB (a+b+a+3) E p:=fun t ht=>by
 obtain⟨⟨D,N,h1,h2,h3,h4,h5,h6⟩,K,hx⟩:=h
 have hr:=Qxh h1 h2 h5 h6 ht
 have e:=Qc2 N D
 exact⟨by omega,(hx t ht).m,(hx t ht).l⟩
theorem Qs0:∀p:List Tm,n1 p<=((Qg4 p:Nat):Rat)
 | []=>Rat.le_refl
 |t::p=>by
  have h1:=Qs0 p
  have h2:=Qyv t.1
  have e:Qg4 (t::p)=t.1.num.natAbs+Qg4 p:=rfl
  rw[e,Rat.natCast_add]
  simp only[n1];grind
theorem SZ.of{K E L:Nat}{p:List Tm}(h:FW.PB K E p)(hl:p.length<=L):SZ (L*K+1) (L+K+2) E p:=by
 have h1:=Qacl h
 have h2:=Qacm h
 have h3:=Qnq (Qg4 p) 1
 have h4:nl 1<=1:=by rw[Qfl];exact Nat.le_refl 1
 have h5:p.length*K<=L*K:=Nat.mul_le_mul_right _ hl
 have h6:=Qa7 (show Qg4 p<=Qg4 p+1 by omega)
 by_cases hz:nl (Qg4 p)=0
 ·refine⟨⟨Qk9 p,Qg4 p+1,Qxg p,by omega,by omega,by omega,fun t ht=>Qzv (Qp8 ht),?_⟩,K,h⟩
  have:=Qs0 p
  rw[Rat.natCast_add]
  have:(0:Rat)<=((1:Nat):Rat):=by decide
  grind
 ·refine⟨⟨Qk9 p,Qg4 p,Qxg p,Nat.pos_of_ne_zero fun e=>hz (Qfx.2 e),by omega,by omega,fun t ht=>Qzv (Qp8 ht),Qs0 p⟩,K,h⟩
end Go.FW
namespace Go.FW
open Go
def Qfr:List (List Tm×List Tm)->List Tm->Option (List Tm)
 | [],s=>some s
 |x::l,s=>if 4000<(Q8 s (Qbc x.1 x.2)).length then none else Qfr l (Q8 s (Qbc x.1 x.2))
def Qcz(q:List Tm):Nat->List Tm->Option (List Tm)
 |0,p=>some p
 |n+1,p=>if 4000<(Qbc p q).length then none else Qcz q n (Qbc p q)
def Qf3:List (List Tm×Nat)->List Tm->Option (List Tm)
 | [],p=>some p
 |x::l,p=>(Qcz x.1 x.2 p).bind (Qf3 l)
def Qcf(l:List (List Tm×List Tm))(i:Nat):List Tm:=(l.take i).foldl (fun s x=>Q8 s (Qbc x.1 x.2)) []
theorem Qi1{l:List (List Tm×List Tm)}{i:Nat}(h:i<l.length):Qcf l (i+1)=Q8 (Qcf l i) (Qbc l[i].1 l[i].2):=by
 unfold Qcf
 rw[List.take_succ_eq_append_getElem h,List.foldl_append]
 rfl
theorem Qxi{a b E a' b' E':Nat}{l:List (List Tm×List Tm)}(hl:∀x∈l,SZ a b E x.1/\SZ a' b' E' x.2):∀i,i<=l.length->SZ (i*(a+a')+1) (b+b'+i+1) (E+E') (Qcf l i)
 |0,_=>by
  refine⟨⟨1,1,by omega,by omega,?_,?_,fun t ht=> ?_,?_⟩,0,fun t ht=> ?_⟩
  ·rw[Qfl];omega
  ·rw[Qfl];omega
  ·simp[Qcf]at ht
  ·simp only[Qcf,List.take_zero,List.foldl_nil,n1];decide
  ·simp[Qcf]at ht
 |i+1,hi=>by
  have h:=Qxi hl i (by omega)
  obtain⟨h1,h2⟩:=hl _ (List.getElem_mem (show i<l.length by omega))
  rw[Qi1 (by omega)]
  refine(h.padd (h1.pmul h2)).mono ?_ ?_ (Nat.le_refl _)
  ·rw[Nat.succ_mul];omega
  ·omega
theorem Qpl{l:List (List Tm×List Tm)}{i:Nat}(h:i<l.length):Qfr (l.drop i) (Qcf l i)=if 4000<(Qcf l (i+1)).length then none else Qfr (l.drop (i+1)) (Qcf l (i+1)):=by
 rw[List.drop_eq_getElem_cons h]
 rw[Qi1 h]
 rfl
end Go.FW
namespace Go.FW
open Go
theorem Qt8{l:List (List Tm×List Tm)}(hl:∀x∈l,Nrm x.1/\Nrm x.2):∀i,i<=l.length->Nrm (Qcf l i)
 |0,_=>Nrm.nil
 |i+1,hi=>by
  obtain⟨h1,h2⟩:=hl _ (List.getElem_mem (show i<l.length by omega))
  rw[Qi1 (by omega)]
  exact Qp4 (Qt8 hl i (by omega)) (Qp5 h1.s h2.s)
end Go.FW
namespace Go.FW
open Go
end Go.FW
namespace Go.FW
open Go
theorem Nrm.drop{p:List Tm}(h:Nrm p):∀k,Nrm (p.drop k)
 |0=>h
 |k+1=>by
  have:=Nrm.drop h k
  rw[<-List.drop_drop]
  cases hd:p.drop k with
  |nil=>simpa using Nrm.nil
  |cons t l=>rw[hd]at this;simpa using this.tail
end Go.FW
namespace Go.FW
open Go
set_option maxRecDepth 100000
abbrev PV.pe(r:List Tm×Int):PV:= .tup [PV.poly r.1,.int .i64 r.2]
abbrev PV.cert(fs:List (List Tm))(ps:List Int)(n:Int)(cs:List (List Tm)):PV:= .agg [PV.polys fs,PV.mono ps,.int .i64 n,PV.polys cs]
def Qhm:Option (List Tm)->List Tm×Int
 |some r=>(r,0)
 |none=>([],4)
def Qb9(cs ls:List (List Tm)):List Tm×Int:=if cs.length=ls.length then Qhm (Qfr (cs.zip ls) [])else([],16)
def Qjz(q p:List Tm)(n:Nat):List Tm×Int:=Qhm (Qcz q n p)
def Qku(ps:List Int):Bool:=ps.all fun n=>decide (0<=n/\n<=64)
def Qdk(fs:List (List Tm))(ps:List Int):List Tm×Int:=
 if fs.length=ps.length then(if Qku ps then Qhm (Qf3 (fs.zip (ps.map Int.toNat)) (Qbn 1))else([],2))else([],16)
def Qry(fs:List (List Tm))(ps:List Int)(n:Int)(cs hs:List (List Tm))(g:List Tm):Int:=
 if(Qdk fs ps).2=0 then
  if fs.any List.isEmpty then 3
  else if n<1∨64<n then 2
  else if cs.length=hs.length then
   match Qcz g n.toNat (Qdk fs ps).1 with
   |none=>4
   |some l=>if(Qb9 cs hs).2=0 then(if l=(Qb9 cs hs).1 then 0 else 17)else(Qb9 cs hs).2
  else 16
 else(Qdk fs ps).2
structure Sml(p:List Tm):Prop where
 z:SZ 64 64 64 p
 l:p.length<=64
 n:Nrm p
structure Big(p:List Tm):Prop where
 z:SZ (2097152) (2097152) (16384) p
 l:p.length<=131072
 n:Nrm p
theorem Sml.PB{p:List Tm}(h:Sml p):PB 256 64 p:=h.z.PB.mono (by omega) (by omega)
theorem Big.PB{p:List Tm}(h:Big p):FW.PB (8388608) (16384) p:=h.z.PB.mono (by omega) (by omega)
theorem Sml.big{p:List Tm}(h:Sml p):Big p:=⟨h.z.mono (by omega) (by omega) (by omega),by have:=h.l;omega,h.n⟩
theorem Qacp{cs ls:List (List Tm)}(hl:cs.length=ls.length){i:Nat}(h:i<cs.length):(cs.zip ls)[i]'(by simp;omega)=(cs[i],ls[i]'(by omega)):=List.getElem_zip
theorem Qacq{P Q:List Tm->Prop}{cs ls:List (List Tm)}(h1:∀c∈cs,P c)(h2:∀c∈ls,Q c):∀x∈cs.zip ls,P x.1/\Q x.2:=fun x hx=>by
 obtain⟨i,hi,rfl⟩:=List.getElem_of_mem hx
 rw[List.getElem_zip]
 exact⟨h1 _ (List.getElem_mem _),h2 _ (List.getElem_mem _)⟩
theorem Qz0{cs ls:List (List Tm)}(h1:∀c∈cs,Big c)(h2:∀c∈ls,Sml c)(hl:cs.length<=8){i:Nat}(hi:i<=(cs.zip ls).length):PB (268435456) (32768) (Qcf (cs.zip ls) i)/\Nrm (Qcf (cs.zip ls) i):=by
 have hz:=Qacq (P:=Big) (Q:=Sml) h1 h2
 have hi8:i<=8:=by rw[List.length_zip]at hi;omega
 refine⟨((Qxi (fun x hx=>⟨(hz x hx).1.z,(hz x hx).2.z⟩) i hi).mono (a':=16777729) (b':=2097225) (E':=32768) ?_ (by omega) (by omega)).PB.mono (by omega) (by omega),Qt8 (fun x hx=>⟨(hz x hx).1.n,(hz x hx).2.n⟩) i hi⟩
 exact Nat.succ_le_succ (Nat.le_trans (Nat.mul_le_mul_right _ hi8) (by decide+kernel))
structure Prd(m:Nat)(p:List Tm):Prop where
 z:SZ (m*64+1) (m*64+2) (m*64) p
 n:Nrm p
 l:p.length<=4000
theorem Prd.PB{m:Nat}{p:List Tm}(h:Prd m p)(hm:m<=1024):FW.PB (262144) (131072) p:=h.z.PB.mono (by omega) (by omega)
theorem Prd.mul{m:Nat}{p q:List Tm}(h:Prd m p)(hq:Sml q)(hl:(Qbc p q).length<=4000):Prd (m+1) (Qbc p q):=
 ⟨(h.z.pmul hq.z).mono (by omega) (by omega) (by omega),Qp5 h.n.s hq.n.s,hl⟩
theorem SZ.one:SZ 1 1 0 (Qbn 1):=by
 have e:Qbn 1=[((1:Rat),[])]:=by unfold Qbn;rw[if_neg (by decide)]
 rw[e]
 refine⟨⟨1,1,by omega,by omega,by rw[Qfl];omega,by rw[Qfl];omega,fun t ht=> ?_,?_⟩,3,fun t ht=> ?_⟩
 ·obtain rfl:t=(1,[]):=by simpa using ht
  exact⟨1,by decide+kernel⟩
 ·simp only[n1];decide+kernel
 ·obtain rfl:t=(1,[]):=by simpa using ht
  refine⟨?_,⟨by simp,by simp,by simp⟩,by simp⟩
  show rs 1+1<=3
  have:=Qsq
  omega
theorem Prd.one:Prd 0 (Qbn 1):=⟨SZ.one.mono (by omega) (by omega) (by omega),Q1f 1,by unfold Qbn;rw[if_neg (by decide)];simp⟩
theorem Qxj{q P:List Tm}{n k:Nat}(h:k<n):Qcz q (n-k) P=if 4000<(Qbc P q).length then none else Qcz q (n-(k+1)) (Qbc P q):=by
 rw[show n-k=(n-(k+1))+1 by omega];rfl
theorem Qi2{q:List Tm}(hq:Sml q):∀(n m:Nat)(p r:List Tm),Prd m p->Qcz q n p=some r->Prd (m+n) r
 |0,m,p,r,hp,h=>by cases h;exact hp
 | n+1,m,p,r,hp,h=>by
  unfold Qcz at h
  split at h
  ·cases h
  ·have:=Qi2 hq n (m+1) _ r (hp.mul hq (by omega)) h
   rwa[show m+1+n=m+(n+1)by omega]at this
theorem Qyw{l:List (List Tm×Nat)}{i:Nat}{p:List Tm}(h:i<l.length):Qf3 (l.drop i) p=(Qcz l[i].1 l[i].2 p).bind (Qf3 (l.drop (i+1))):=by
 rw[List.drop_eq_getElem_cons h];rfl
def Qip(fs:List (List Tm))(ps:List Int):List (List Tm×Nat):=fs.zip (ps.map Int.toNat)
theorem Qj0{fs:List (List Tm)}{ps:List Int}(h:fs.length=ps.length):(Qip fs ps).length=fs.length:=by simp[Qip,h]
theorem Qxk{fs:List (List Tm)}{ps:List Int}(h:fs.length=ps.length){i:Nat}(hi:i<fs.length):(Qip fs ps)[i]'(by rw[Qj0 h];exact hi)=(fs[i],(ps[i]'(by omega)).toNat):=by
 simp[Qip,List.getElem_zip]
theorem Qt9{ps:List Int}(h:Qku ps=true){i:Nat}(hi:i<ps.length):0<=ps[i]/\ps[i]<=64:=by
 have:=List.all_eq_true.1 h _ (List.getElem_mem hi)
 simpa using this
theorem Q4r{ps:List Int}{i:Nat}(hi:i<ps.length)(h:¬(0<=ps[i]/\ps[i]<=64)):Qku ps=false:=by
 unfold Qku
 rw[List.all_eq_false];exact⟨_,List.getElem_mem hi,by simpa using h⟩
theorem Q4s{ps:List Int}(h:∀j (hj:j<ps.length),0<=ps[j]/\ps[j]<=64):Qku ps=true:=by
 unfold Qku
 rw[List.all_eq_true]
 intro x hx
 obtain⟨j,hj,rfl⟩:=List.getElem_of_mem hx
 exact decide_eq_true (h j hj)
theorem Qua{fs:List (List Tm)}{ps:List Int}(h:fs.length=ps.length)(hp:Qku ps=false):Qdk fs ps=([],2):=by
 unfold Qdk;rw[if_pos h,hp];rfl
theorem Q82{fs:List (List Tm)}{ps:List Int}(h:fs.length=ps.length)(hp:Qku ps=true):Qdk fs ps=Qhm (Qf3 (Qip fs ps) (Qbn 1)):=by
 unfold Qdk;rw[if_pos h,hp];rfl
theorem Q4t{l:List (List Tm×Nat)}(hl:∀x∈l,Sml x.1/\x.2<=64):∀(m:Nat)(p r:List Tm),Prd m p->Qf3 l p=some r->∃n,n<=m+64*l.length/\Prd n r:=by
 induction l with
 |nil=>intro m p r hp h;cases h;exact⟨m,by omega,hp⟩
 | cons x l ih=>
  intro m p r hp h
  obtain⟨h1,h2⟩:=hl x (List.mem_cons_self ..)
  show ∃n,_
  unfold Qf3 at h
  cases hr:Qcz x.1 x.2 p with
  |none=>rw[hr]at h;cases h
  |some s=>
   rw[hr]at h
   obtain⟨n,h3,h4⟩:=ih (fun y hy=>hl y (List.mem_cons_of_mem _ hy)) (m+x.2) s r (Qi2 h1 _ _ _ _ hp hr) h
   exact⟨n,by rw[List.length_cons];omega,h4⟩
theorem Q4u{fs:List (List Tm)}{ps:List Int}(hf:∀c∈fs,Sml c)(hl:fs.length<=8)(h:(Qdk fs ps).2=0):∃n,n<=512/\Prd n (Qdk fs ps).1:=by
 unfold Qdk at h⊢
 split at h
 ·rename_i h1
  rw[if_pos h1]
  split at h
  ·rename_i h2
   rw[if_pos h2]
   cases hr:Qf3 (Qip fs ps) (Qbn 1)with
   |none=>unfold Qip at hr;rw[hr]at h;cases h
   | some r=>
    have hr':=hr
    unfold Qip at hr'
    rw[hr']
    obtain⟨n,h3,h4⟩:=Q4t (l:=Qip fs ps) (fun x hx=>by
     obtain⟨i,hi,rfl⟩:=List.getElem_of_mem hx
     have hi':i<fs.length:=by rwa[Qj0 h1]at hi
     rw[Qxk h1 hi']
     have:=Qt9 h2 (i:=i) (by omega)
     exact⟨hf _ (List.getElem_mem hi'),by simp only;omega⟩) 0 _ r Prd.one hr
    rw[Qj0 h1]at h3
    exact⟨n,by omega,h4⟩
  ·cases h
 ·cases h
theorem Qpm{l:List (List Tm×List Tm)}{s:List Tm}:∀k i,k=l.length-i->i<=l.length->(Qcf l i).length<=4000->Qfr (l.drop i) (Qcf l i)=some s->s=Qcf l l.length/\s.length<=4000
 |0,i,hk,hi,hl,h=>by
  obtain rfl:i=l.length:=by omega
  rw[List.drop_length]at h
  cases h;exact⟨rfl,hl⟩
 |k+1,i,hk,hi,hl,h=>by
  have hi':i<l.length:=by omega
  rw[Qpl hi']at h
  split at h
  ·cases h
  ·exact Qpm k (i+1) (by omega) (by omega) (by omega) h
theorem Q83{cs ls:List (List Tm)}(h:(Qb9 cs ls).2=0):cs.length=ls.length/\Qfr (cs.zip ls) []=some (Qb9 cs ls).1/\(Qb9 cs ls).1=Qcf (cs.zip ls) (cs.zip ls).length/\(Qb9 cs ls).1.length<=4000:=by
 unfold Qb9 at h⊢
 split at h
 ·rename_i he
  rw[if_pos he]
  cases hr:Qfr (cs.zip ls) []with
  |none=>rw[hr]at h;cases h
  |some s=>
   obtain⟨h1,h2⟩:=Qpm _ 0 rfl (by omega) (by simp[Qcf]) (s:=s) (by exact hr)
   exact⟨he,rfl,h1,h2⟩
 ·cases h
theorem Q84{cs ls:List (List Tm)}(h1:∀c∈cs,Big c)(h2:∀c∈ls,Sml c)(hl:cs.length<=8):PB 268435456 32768 (Qb9 cs ls).1/\Nrm (Qb9 cs ls).1/\(Qb9 cs ls).1.length<=4000:=by
 by_cases h:(Qb9 cs ls).2=0
 ·obtain⟨_,_,h3,h4⟩:=Q83 h
  have:=Qz0 h1 h2 hl (Nat.le_refl _)
  rw[<-h3]at this
  exact⟨this.1,this.2,h4⟩
 ·have e:(Qb9 cs ls).1=[]:=by
   unfold Qb9 at h⊢
   split
   ·rename_i he
    rw[if_pos he]at h
    cases hr:Qfr (cs.zip ls) []with
    |none=>rfl
    |some s=>rw[hr]at h;exact absurd rfl h
   ·rfl
  rw[e];exact⟨PB.nil _ _,Nrm.nil,by simp⟩
end Go.FW
