/- Part 6 of the proof of CertcheckPowers: FwWB, FwWC, FwWD, FwUH, FwUK, FwWE. Own lemmas; no conditions. -/
import Derived.Test.YtdacdnoebgcjhaaGreatCertcheckPowersPart5
set_option linter.unusedSimpArgs false
set_option linter.unnecessarySimpa false
set_option linter.unusedVariables false
namespace Go.FW
open Go
def XB(E:Nat)(p:List Tm):Prop:=∃K,PB K E p
theorem XB.padd{E:Nat}{p q:List Tm}:XB E p->XB E q->XB E (FW.Q7 p q):=fun⟨_,h⟩ ⟨_,g⟩=>⟨_,Qsk p q h g⟩
theorem XB.psum{E:Nat}(l:List (List Tm)):(∀p∈l,XB E p)->XB E (FW.Qa4 l):=by
 induction l using FW.Qa4.induct with
 |case1=>intro _;rw[FW.Qa4];exact⟨0,PB.nil _ _⟩
 |case2 p=>intro h;rw[FW.Qa4];exact h p (List.mem_cons_self ..)
 |case3 p q r h1 h2=>
  intro h
  rw[FW.Qa4]
  exact XB.padd (h1 fun x hx=>h x (List.mem_of_mem_take hx)) (h2 fun x hx=>h x (List.mem_of_mem_drop hx))
theorem XB.pmul{E F:Nat}{p q:List Tm}:XB E p->XB F q->XB (E+F) (FW.Qbb p q):=fun⟨K,h⟩ ⟨L,g⟩=>by
 unfold FW.Qbb
 split
 ·refine XB.psum _ fun x hx=> ?_
  obtain⟨t,ht,rfl⟩:=List.mem_map.1 hx
  exact⟨K+L,Qfl h (g t ht)⟩
 ·refine XB.psum _ fun x hx=> ?_
  obtain⟨t,ht,rfl⟩:=List.mem_map.1 hx
  rw[Nat.add_comm]
  exact⟨L+K,Qfl g (h t ht)⟩
structure SZ(a b E:Nat)(p:List Tm):Prop where
 d:∃D N:Nat,0<D/\0<N/\nl D<=a/\nl N<=b/\Dn D p/\n1 p<=(N:Rat)
 x:XB E p
theorem SZ.mono{a b E a' b' E':Nat}{p:List Tm}(h:SZ a b E p)(ha:a<=a')(hb:b<=b')(hE:E<=E'):SZ a' b' E' p:=by
 obtain⟨⟨D,N,h1,h2,h3,h4,h5,h6⟩,K,hx⟩:=h
 exact⟨⟨D,N,h1,h2,by omega,by omega,h5,h6⟩,K,hx.mono (Nat.le_refl _) hE⟩
theorem Dn.dvd{D D':Nat}{p:List Tm}(h:Dn D p)(hd:D∣D'):Dn D' p:=fun t ht=>by
 obtain⟨k,rfl⟩:=hd
 rw[Rat.natCast_mul,<-Rat.mul_assoc]
 exact(h t ht).mul (IsI.nat k)
theorem SZ.pmul{a b E a' b' E':Nat}{p q:List Tm}(hp:SZ a b E p)(hq:SZ a' b' E' q):SZ (a+a') (b+b') (E+E') (FW.Qbb p q):=by
 obtain⟨⟨D,N,h1,h2,h3,h4,h5,h6⟩,hx⟩:=hp
 obtain⟨⟨D',N',g1,g2,g3,g4,g5,g6⟩,gx⟩:=hq
 have e1:=Qcz D D'
 have e2:=Qcz N N'
 refine⟨⟨D*D',N*N',Nat.mul_pos h1 g1,Nat.mul_pos h2 g2,by omega,by omega,Qace h5 g5,?_⟩,hx.pmul gx⟩
 have m1:=Qacd p q
 have m2:=Rat.mul_le_mul_of_nonneg_right h6 (Qkl q)
 have n0:(0:Rat)<=(N:Rat):=by have:=Qkl p;grind
 have m3:=Rat.mul_le_mul_of_nonneg_left g6 n0
 rw[Rat.natCast_mul];grind
theorem SZ.padd{a b E a' b':Nat}{p q:List Tm}(hp:SZ a b E p)(hq:SZ a' b' E q):SZ (a+a') (max b b'+1) E (FW.Q7 p q):=by
 obtain⟨⟨D,N,h1,h2,h3,h4,h5,h6⟩,hx⟩:=hp
 obtain⟨⟨D',N',g1,g2,g3,g4,g5,g6⟩,gx⟩:=hq
 have e1:=Qcz D D'
 have e2:=Qnc N N'
 refine⟨⟨D*D',N+N',Nat.mul_pos h1 g1,by omega,by omega,by omega,Qzt p q (h5.dvd (Nat.dvd_mul_right _ _)) (g5.dvd (Nat.dvd_mul_left _ _)),?_⟩,hx.padd gx⟩
 have m1:=Qzr p q
 rw[Rat.natCast_add];grind
theorem SZ.PB{a b E:Nat}{p:List Tm}(h:SZ a b E p):PB (a+b+a+3) E p:=fun t ht=>by
 obtain⟨⟨D,N,h1,h2,h3,h4,h5,h6⟩,K,hx⟩:=h
 have hr:=Qxd h1 h2 h5 h6 ht
 have e:=Qcz N D
 exact⟨by omega,(hx t ht).m,(hx t ht).l⟩
theorem Qsx:∀p:List Tm,n1 p<=((Qg6 p:Nat):Rat)
 | []=>Rat.le_refl
 |t::p=>by
  have h1:=Qsx p
  have h2:=Qyp t.1
  have e:Qg6 (t::p)=t.1.num.natAbs+Qg6 p:=rfl
  rw[e,Rat.natCast_add]
  simp only[n1];grind
theorem SZ.of{K E L:Nat}{p:List Tm}(h:FW.PB K E p)(hl:p.length<=L):SZ (L*K+1) (L+K+2) E p:=by
 have h1:=Qacb h
 have h2:=Qacc h
 have h3:=Qnc (Qg6 p) 1
 have h4:nl 1<=1:=by rw[Qfj];exact Nat.le_refl 1
 have h5:p.length*K<=L*K:=Nat.mul_le_mul_right _ hl
 have h6:=Qa7 (show Qg6 p<=Qg6 p+1 by omega)
 by_cases hz:nl (Qg6 p)=0
 ·refine⟨⟨Qk1 p,Qg6 p+1,Qxc p,by omega,by omega,by omega,fun t ht=>Qzq (Qpx ht),?_⟩,K,h⟩
  have:=Qsx p
  rw[Rat.natCast_add]
  have:(0:Rat)<=((1:Nat):Rat):=by decide
  grind
 ·refine⟨⟨Qk1 p,Qg6 p,Qxc p,Nat.pos_of_ne_zero fun e=>hz (Qfv.2 e),by omega,by omega,fun t ht=>Qzq (Qpx ht),Qsx p⟩,K,h⟩
end Go.FW
namespace Go.FW
open Go
def Qfp:List (List Tm×List Tm)->List Tm->Option (List Tm)
 | [],s=>some s
 |x::l,s=>if 4000<(Q7 s (Qbb x.1 x.2)).length then none else Qfp l (Q7 s (Qbb x.1 x.2))
def Qcw(q:List Tm):Nat->List Tm->Option (List Tm)
 |0,p=>some p
 |n+1,p=>if 4000<(Qbb p q).length then none else Qcw q n (Qbb p q)
def Qf1:List (List Tm×Nat)->List Tm->Option (List Tm)
 | [],p=>some p
 |x::l,p=>(Qcw x.1 x.2 p).bind (Qf1 l)
def Qcf(l:List (List Tm×List Tm))(i:Nat):List Tm:=(l.take i).foldl (fun s x=>Q7 s (Qbb x.1 x.2)) []
theorem Qix{l:List (List Tm×List Tm)}{i:Nat}(h:i<l.length):Qcf l (i+1)=Q7 (Qcf l i) (Qbb l[i].1 l[i].2):=by
 unfold Qcf
 rw[List.take_succ_eq_append_getElem h,List.foldl_append]
 rfl
theorem Qxe{a b E a' b' E':Nat}{l:List (List Tm×List Tm)}(hl:∀x∈l,SZ a b E x.1/\SZ a' b' E' x.2):∀i,i<=l.length->SZ (i*(a+a')+1) (b+b'+i+1) (E+E') (Qcf l i)
 |0,_=>by
  refine⟨⟨1,1,by omega,by omega,?_,?_,fun t ht=> ?_,?_⟩,0,fun t ht=> ?_⟩
  ·rw[Qfj];omega
  ·rw[Qfj];omega
  ·simp[Qcf]at ht
  ·simp only[Qcf,List.take_zero,List.foldl_nil,n1];decide
  ·simp[Qcf]at ht
 |i+1,hi=>by
  have h:=Qxe hl i (by omega)
  obtain⟨h1,h2⟩:=hl _ (List.getElem_mem (show i<l.length by omega))
  rw[Qix (by omega)]
  refine(h.padd (h1.pmul h2)).mono ?_ ?_ (Nat.le_refl _)
  ·rw[Nat.succ_mul];omega
  ·omega
theorem Qpa{l:List (List Tm×List Tm)}{i:Nat}(h:i<l.length):Qfp (l.drop i) (Qcf l i)=if 4000<(Qcf l (i+1)).length then none else Qfp (l.drop (i+1)) (Qcf l (i+1)):=by
 rw[List.drop_eq_getElem_cons h]
 rw[Qix h]
 rfl
end Go.FW
namespace Go.FW
open Go
theorem Qt3{l:List (List Tm×List Tm)}(hl:∀x∈l,Nrm x.1/\Nrm x.2):∀i,i<=l.length->Nrm (Qcf l i)
 |0,_=>Nrm.nil
 |i+1,hi=>by
  obtain⟨h1,h2⟩:=hl _ (List.getElem_mem (show i<l.length by omega))
  rw[Qix (by omega)]
  exact Qpt (Qt3 hl i (by omega)) (Qpu h1.s h2.s)
end Go.FW
namespace Go.FW
open Go
end Go.FW
namespace Go.FW
open Go
theorem Nrm.drop{p:List Tm}(h:Nrm p):∀k,Nrm (p.drop k)
 |0=>h
 |k+1=>by
  have:=Nrm.drop h k
  rw[<-List.drop_drop]
  cases hd:p.drop k with
  |nil=>simpa using Nrm.nil
  |cons t l=>rw[hd]at this;simpa using this.tail
end Go.FW
namespace Go.FW
open Go
set_option maxRecDepth 100000
abbrev PV.pe(r:List Tm×Int):PV:= .tup [PV.poly r.1,.int .i64 r.2]
abbrev PV.cert(fs:List (List Tm))(ps:List Int)(n:Int)(cs:List (List Tm)):PV:= .agg [PV.polys fs,PV.mono ps,.int .i64 n,PV.polys cs]
def Qho:Option (List Tm)->List Tm×Int
 |some r=>(r,0)
 |none=>([],4)
def Qb8(cs ls:List (List Tm)):List Tm×Int:=if cs.length=ls.length then Qho (Qfp (cs.zip ls) [])else([],16)
def Qjv(q p:List Tm)(n:Nat):List Tm×Int:=Qho (Qcw q n p)
def Qkm(ps:List Int):Bool:=ps.all fun n=>decide (0<=n/\n<=64)
def Qdh(fs:List (List Tm))(ps:List Int):List Tm×Int:=
 if fs.length=ps.length then(if Qkm ps then Qho (Qf1 (fs.zip (ps.map Int.toNat)) (Qbm 1))else([],2))else([],16)
def Qrq(fs:List (List Tm))(ps:List Int)(n:Int)(cs hs:List (List Tm))(g:List Tm):Int:=
 if(Qdh fs ps).2=0 then
  if fs.any List.isEmpty then 3
  else if n<1∨64<n then 2
  else if cs.length=hs.length then
   match Qcw g n.toNat (Qdh fs ps).1 with
   |none=>4
   |some l=>if(Qb8 cs hs).2=0 then(if l=(Qb8 cs hs).1 then 0 else 17)else(Qb8 cs hs).2
  else 16
 else(Qdh fs ps).2
structure Sml(p:List Tm):Prop where
 z:SZ 64 64 64 p
 l:p.length<=64
 n:Nrm p
structure Big(p:List Tm):Prop where
 z:SZ (2097152) (2097152) (16384) p
 l:p.length<=131072
 n:Nrm p
theorem Sml.PB{p:List Tm}(h:Sml p):PB 256 64 p:=h.z.PB.mono (by omega) (by omega)
theorem Big.PB{p:List Tm}(h:Big p):FW.PB (8388608) (16384) p:=h.z.PB.mono (by omega) (by omega)
theorem Sml.big{p:List Tm}(h:Sml p):Big p:=⟨h.z.mono (by omega) (by omega) (by omega),by have:=h.l;omega,h.n⟩
theorem Qacf{cs ls:List (List Tm)}(hl:cs.length=ls.length){i:Nat}(h:i<cs.length):(cs.zip ls)[i]'(by simp;omega)=(cs[i],ls[i]'(by omega)):=List.getElem_zip
theorem Qacg{P Q:List Tm->Prop}{cs ls:List (List Tm)}(h1:∀c∈cs,P c)(h2:∀c∈ls,Q c):∀x∈cs.zip ls,P x.1/\Q x.2:=fun x hx=>by
 obtain⟨i,hi,rfl⟩:=List.getElem_of_mem hx
 rw[List.getElem_zip]
 exact⟨h1 _ (List.getElem_mem _),h2 _ (List.getElem_mem _)⟩
theorem Qzv{cs ls:List (List Tm)}(h1:∀c∈cs,Big c)(h2:∀c∈ls,Sml c)(hl:cs.length<=8){i:Nat}(hi:i<=(cs.zip ls).length):PB (268435456) (32768) (Qcf (cs.zip ls) i)/\Nrm (Qcf (cs.zip ls) i):=by
 have hz:=Qacg (P:=Big) (Q:=Sml) h1 h2
 have hi8:i<=8:=by rw[List.length_zip]at hi;omega
 refine⟨((Qxe (fun x hx=>⟨(hz x hx).1.z,(hz x hx).2.z⟩) i hi).mono (a':=16777729) (b':=2097225) (E':=32768) ?_ (by omega) (by omega)).PB.mono (by omega) (by omega),Qt3 (fun x hx=>⟨(hz x hx).1.n,(hz x hx).2.n⟩) i hi⟩
 exact Nat.succ_le_succ (Nat.le_trans (Nat.mul_le_mul_right _ hi8) (by decide+kernel))
structure Prd(m:Nat)(p:List Tm):Prop where
 z:SZ (m*64+1) (m*64+2) (m*64) p
 n:Nrm p
 l:p.length<=4000
theorem Prd.PB{m:Nat}{p:List Tm}(h:Prd m p)(hm:m<=1024):FW.PB (262144) (131072) p:=h.z.PB.mono (by omega) (by omega)
theorem Prd.mul{m:Nat}{p q:List Tm}(h:Prd m p)(hq:Sml q)(hl:(Qbb p q).length<=4000):Prd (m+1) (Qbb p q):=
 ⟨(h.z.pmul hq.z).mono (by omega) (by omega) (by omega),Qpu h.n.s hq.n.s,hl⟩
theorem SZ.one:SZ 1 1 0 (Qbm 1):=by
 have e:Qbm 1=[((1:Rat),[])]:=by unfold Qbm;rw[if_neg (by decide)]
 rw[e]
 refine⟨⟨1,1,by omega,by omega,by rw[Qfj];omega,by rw[Qfj];omega,fun t ht=> ?_,?_⟩,3,fun t ht=> ?_⟩
 ·obtain rfl:t=(1,[]):=by simpa using ht
  exact⟨1,by decide+kernel⟩
 ·simp only[n1];decide+kernel
 ·obtain rfl:t=(1,[]):=by simpa using ht
  refine⟨?_,⟨by simp,by simp,by simp⟩,by simp⟩
  show rs 1+1<=3
  have:=Qwh
  omega
theorem Prd.one:Prd 0 (Qbm 1):=⟨SZ.one.mono (by omega) (by omega) (by omega),Q09 1,by unfold Qbm;rw[if_neg (by decide)];simp⟩
theorem Qxf{q P:List Tm}{n k:Nat}(h:k<n):Qcw q (n-k) P=if 4000<(Qbb P q).length then none else Qcw q (n-(k+1)) (Qbb P q):=by
 rw[show n-k=(n-(k+1))+1 by omega];rfl
theorem Qiy{q:List Tm}(hq:Sml q):∀(n m:Nat)(p r:List Tm),Prd m p->Qcw q n p=some r->Prd (m+n) r
 |0,m,p,r,hp,h=>by cases h;exact hp
 | n+1,m,p,r,hp,h=>by
  unfold Qcw at h
  split at h
  ·cases h
  ·have:=Qiy hq n (m+1) _ r (hp.mul hq (by omega)) h
   rwa[show m+1+n=m+(n+1)by omega]at this
theorem Qyq{l:List (List Tm×Nat)}{i:Nat}{p:List Tm}(h:i<l.length):Qf1 (l.drop i) p=(Qcw l[i].1 l[i].2 p).bind (Qf1 (l.drop (i+1))):=by
 rw[List.drop_eq_getElem_cons h];rfl
def Qim(fs:List (List Tm))(ps:List Int):List (List Tm×Nat):=fs.zip (ps.map Int.toNat)
theorem Qjw{fs:List (List Tm)}{ps:List Int}(h:fs.length=ps.length):(Qim fs ps).length=fs.length:=by simp[Qim,h]
theorem Qxg{fs:List (List Tm)}{ps:List Int}(h:fs.length=ps.length){i:Nat}(hi:i<fs.length):(Qim fs ps)[i]'(by rw[Qjw h];exact hi)=(fs[i],(ps[i]'(by omega)).toNat):=by
 simp[Qim,List.getElem_zip]
theorem Qt4{ps:List Int}(h:Qkm ps=true){i:Nat}(hi:i<ps.length):0<=ps[i]/\ps[i]<=64:=by
 have:=List.all_eq_true.1 h _ (List.getElem_mem hi)
 simpa using this
theorem Q4k{ps:List Int}{i:Nat}(hi:i<ps.length)(h:¬(0<=ps[i]/\ps[i]<=64)):Qkm ps=false:=by
 unfold Qkm
 rw[List.all_eq_false];exact⟨_,List.getElem_mem hi,by simpa using h⟩
theorem Q4l{ps:List Int}(h:∀j (hj:j<ps.length),0<=ps[j]/\ps[j]<=64):Qkm ps=true:=by
 unfold Qkm
 rw[List.all_eq_true]
 intro x hx
 obtain⟨j,hj,rfl⟩:=List.getElem_of_mem hx
 exact decide_eq_true (h j hj)
theorem Qt5{fs:List (List Tm)}{ps:List Int}(h:fs.length=ps.length)(hp:Qkm ps=false):Qdh fs ps=([],2):=by
 unfold Qdh;rw[if_pos h,hp];rfl
theorem Q8v{fs:List (List Tm)}{ps:List Int}(h:fs.length=ps.length)(hp:Qkm ps=true):Qdh fs ps=Qho (Qf1 (Qim fs ps) (Qbm 1)):=by
 unfold Qdh;rw[if_pos h,hp];rfl
theorem Q4m{l:List (List Tm×Nat)}(hl:∀x∈l,Sml x.1/\x.2<=64):∀(m:Nat)(p r:List Tm),Prd m p->Qf1 l p=some r->∃n,n<=m+64*l.length/\Prd n r:=by
 induction l with
 |nil=>intro m p r hp h;cases h;exact⟨m,by omega,hp⟩
 | cons x l ih=>
  intro m p r hp h
  obtain⟨h1,h2⟩:=hl x (List.mem_cons_self ..)
  show ∃n,_
  unfold Qf1 at h
  cases hr:Qcw x.1 x.2 p with
  |none=>rw[hr]at h;cases h
  |some s=>
   rw[hr]at h
   obtain⟨n,h3,h4⟩:=ih (fun y hy=>hl y (List.mem_cons_of_mem _ hy)) (m+x.2) s r (Qiy h1 _ _ _ _ hp hr) h
   exact⟨n,by rw[List.length_cons];omega,h4⟩
theorem Q4n{fs:List (List Tm)}{ps:List Int}(hf:∀c∈fs,Sml c)(hl:fs.length<=8)(h:(Qdh fs ps).2=0):∃n,n<=512/\Prd n (Qdh fs ps).1:=by
 unfold Qdh at h⊢
 split at h
 ·rename_i h1
  rw[if_pos h1]
  split at h
  ·rename_i h2
   rw[if_pos h2]
   cases hr:Qf1 (Qim fs ps) (Qbm 1)with
   |none=>unfold Qim at hr;rw[hr]at h;cases h
   | some r=>
    have hr':=hr
    unfold Qim at hr'
    rw[hr']
    obtain⟨n,h3,h4⟩:=Q4m (l:=Qim fs ps) (fun x hx=>by
     obtain⟨i,hi,rfl⟩:=List.getElem_of_mem hx
     have hi':i<fs.length:=by rwa[Qjw h1]at hi
     rw[Qxg h1 hi']
     have:=Qt4 h2 (i:=i) (by omega)
     exact⟨hf _ (List.getElem_mem hi'),by simp only;omega⟩) 0 _ r Prd.one hr
    rw[Qjw h1]at h3
    exact⟨n,by omega,h4⟩
  ·cases h
 ·cases h
theorem Qpb{l:List (List Tm×List Tm)}{s:List Tm}:∀k i,k=l.length-i->i<=l.length->(Qcf l i).length<=4000->Qfp (l.drop i) (Qcf l i)=some s->s=Qcf l l.length/\s.length<=4000
 |0,i,hk,hi,hl,h=>by
  obtain rfl:i=l.length:=by omega
  rw[List.drop_length]at h
  cases h;exact⟨rfl,hl⟩
 |k+1,i,hk,hi,hl,h=>by
  have hi':i<l.length:=by omega
  rw[Qpa hi']at h
  split at h
  ·cases h
  ·exact Qpb k (i+1) (by omega) (by omega) (by omega) h
theorem Q8w{cs ls:List (List Tm)}(h:(Qb8 cs ls).2=0):cs.length=ls.length/\Qfp (cs.zip ls) []=some (Qb8 cs ls).1/\(Qb8 cs ls).1=Qcf (cs.zip ls) (cs.zip ls).length/\(Qb8 cs ls).1.length<=4000:=by
 unfold Qb8 at h⊢
 split at h
 ·rename_i he
  rw[if_pos he]
  cases hr:Qfp (cs.zip ls) []with
  |none=>rw[hr]at h;cases h
  |some s=>
   obtain⟨h1,h2⟩:=Qpb _ 0 rfl (by omega) (by simp[Qcf]) (s:=s) (by exact hr)
   exact⟨he,rfl,h1,h2⟩
 ·cases h
theorem Q8x{cs ls:List (List Tm)}(h1:∀c∈cs,Big c)(h2:∀c∈ls,Sml c)(hl:cs.length<=8):PB 268435456 32768 (Qb8 cs ls).1/\Nrm (Qb8 cs ls).1/\(Qb8 cs ls).1.length<=4000:=by
 by_cases h:(Qb8 cs ls).2=0
 ·obtain⟨_,_,h3,h4⟩:=Q8w h
  have:=Qzv h1 h2 hl (Nat.le_refl _)
  rw[<-h3]at this
  exact⟨this.1,this.2,h4⟩
 ·have e:(Qb8 cs ls).1=[]:=by
   unfold Qb8 at h⊢
   split
   ·rename_i he
    rw[if_pos he]at h
    cases hr:Qfp (cs.zip ls) []with
    |none=>rfl
    |some s=>rw[hr]at h;exact absurd rfl h
   ·rfl
  rw[e];exact⟨PB.nil _ _,Nrm.nil,by simp⟩
end Go.FW
