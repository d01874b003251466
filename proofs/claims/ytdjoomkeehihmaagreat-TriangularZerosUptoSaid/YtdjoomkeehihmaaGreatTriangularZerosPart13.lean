/- Part 13 of the proof of TriangularZeros: P5, U6, P6, V1, W12, W13, W14, FwUH. Own lemmas; no conditions. -/
import Derived.Test.YtdjoomkeehihmaaGreatTriangularZerosPart12
set_option maxHeartbeats 1000000
set_option linter.unusedSimpArgs false
set_option linter.unusedVariables false
set_option linter.unnecessarySimpa false
set_option maxRecDepth 100000
namespace Go.Proofs.YtdjoomkeehihmaaGreat
open Go Go.FW
theorem ac1{p:List Tm}{i:Nat}(h:i<p.length):jH (p.take (i+1))=max (jH (p.take i)) (fB p[i].2):=by rw[Kah h,jH,KbW];rfl
theorem Qy6{p:List Tm}{K E:Nat}(hp:PB K E p)(hE:E<=2^38)(bV:p.length<=2^36):Qc Tryz.prog 19 [PV.aj p] (· = .int .i64 (jH p)):=by
 refine Qf Qo Tryz.func19 rfl ajT (by simp[KI]) fun C hP=>?_;simp only[KI,Zo,Zg,Zm,Zc,Zf,Zl,Zh,Zs,Zi,Zb,Zk,Zn,Zu,Zq,Zr,Zz];refine Sz0 ?_;refine Qw (by repeat (first|exact Qr|exact Qk|exact Ql|exact Qm|exact Qn|apply Qj|apply Qq|apply Qx|apply Q5|apply Q6|apply Qi|apply Q2)) [(3,18)] [] (fun n J hp=>∃i,n=p.length-i/\i<=p.length/\J 3= .int .i64 (jH (p.take i))/\J 4= .int .i64 (i:Nat)) p.length ?_ ?_
 ·refine⟨0,rfl,by omega,?_⟩;refine Sz0 ?_;simp[jH]
 rintro _ J h ⟨i,rfl,hi,h3,h4⟩;refine Sz2 h3 h4 ?_;refine Qb (fun hg=>?_) (fun hg=>?_)
 ·have aB:i<p.length:=by omega
  have aV:=hp.get aB;have bj:=ac1 aB;generalize hx:p[i]=x at *
  have hl:=aV.m.len;have hd:=IN aV.m;refine Sz3 h3 h4 hx ?_;refine Qa hP (zs (a:=x.2) (by omega) (fun y hy=>⟨aV.m.lo y hy,by have:=aV.m.hi y hy;omega⟩)) rfl rfl rfl ?_;refine Sz3 h3 h4 hx ?_;refine Qg (p.length-(i+1)) (by omega) ⟨i+1,rfl,by omega,?_⟩;rw[bj];exact Tz0
 ·obtain rfl:i=p.length:=by omega
  rw[Kar]at h3;refine Sz1 h3 ?_;exact Qd rfl rfl
def Qv(p:List Tm):Int:=p.foldl (fun v t=>max v ((t.2.length:Int)-1)) (-1)
theorem Q9m{p:List Tm}{i:Nat}(h:i<p.length):Qv (p.take (i+1))=max (Qv (p.take i)) ((p[i].2.length:Int)-1):=by rw[Kah h,Qv,KbW];rfl
theorem OC(p:List Tm):∀d:Int,d<=p.foldl (fun v t=>max v ((t.2.length:Int)-1)) d/\(∀t∈p,(t.2.length:Int)-1<=p.foldl (fun v t=>max v ((t.2.length:Int)-1)) d)/\
  (p.foldl (fun v t=>max v ((t.2.length:Int)-1)) d=d∨∃t∈p,p.foldl (fun v t=>max v ((t.2.length:Int)-1)) d=(t.2.length:Int)-1):=by
 induction p with
 |nil=>intro d;exact⟨KcJ _,(fun t h=>by cases h),.inl rfl⟩
 | cons x p ih=>
  intro d;obtain⟨h1,h2,h3⟩:=ih (max d ((x.2.length:Int)-1));simp only[KcK];refine⟨by omega,fun t ht=>?_,?_⟩
  ·rcases KaP.1 ht with rfl|ht
   ·omega
   ·exact h2 t ht
  ·rcases h3 with h3|⟨t,ht,h3⟩
   ·by_cases hc:(x.2.length:Int)-1<=d
    ·left;omega
    ·exact .inr ⟨x,KbO ..,by omega⟩
   ·exact .inr ⟨t,Kbm _ ht,h3⟩
theorem vg(p:List Tm): -1<=Qv p/\(∀t∈p,(t.2.length:Int)-1<=Qv p)/\(Qv p= -1∨∃t∈p,Qv p=(t.2.length:Int)-1):=OC p (-1)
theorem ahY{E:Nat}{a b:List Int}(ha:MB E a)(hl:a.getLast? ≠some 0)(h:aS a b<0):a.length<=b.length:=by
 apply Classical.byContradiction;intro hc;obtain⟨k,hk⟩:∃k,a.length=k+1:=⟨a.length-1,by omega⟩
 have e:max a.length b.length=k+1:=by omega
 have h1:=ha.eN k;have h2:eN b k=0:=fA (by omega);have h3:eN a k≠0:=fun h0=>by have:=DQ hk;rw[fj (by omega)]at h0;rw[h0]at this;exact hl this
 rw[aS,e,dw,h2]at h;have h4:cY (eN a k) 0=1:=by
  rcases acm (eN a k) 0 with h|h|h
  ·have:=vw.1 (show cY (eN a k) 0<0 by omega);omega
  ·exact absurd (QJ.1 h) h3
  ·exact h
 simp only[h4]at h;revert h;simp[h3]
theorem aeD{p:List Tm}{K E:Nat}(hp:PB K E p)(np:az p)(h0:p≠[]):Qv p=((oW p).2.length:Int)-1:=by
 obtain⟨h1,h2,h3⟩:=vg p;have h4:=h2 _ (IC h0);rcases h3 with h3|⟨t,ht,h3⟩
 ·omega
 ·have aV:=hp t ht;rcases Q9h np.s t ht with e|e
  ·rw[<-e];exact h3
  ·have:=ahY aV.m aV.l e;omega
theorem xf{p:List Tm}{K E:Nat}(hp:PB K E p)(bV:p.length<=2^36):Qc Tryz.prog 41 [PV.aj p] (· = .int .i64 (Qv p)):=by
 refine Qf Qo Tryz.func41 rfl aj3 (by simp[K5]) fun C hP=>?_;simp only[K5,Zo,Zg,Zm,Zc,Zf,Zl,Zh,Zs,Zi,Zb,Zk,Zn,Zu,Zq,Zr,Zz];refine Sz0 ?_;refine Qw (by repeat (first|exact Qr|exact Qk|exact Ql|exact Qm|exact Qn|apply Qj|apply Qq|apply Qx|apply Q5|apply Q6|apply Qi|apply Q2)) [(3,3),(5,5),(8,17)] [5] (fun n J hp=>∃i,n=p.length-i/\i<=p.length/\J 3= .int .i64 (Qv (p.take i))/\J 8= .int .i64 (i:Nat)) p.length ?_ ?_
 ·refine⟨0,rfl,by omega,?_⟩;refine Sz0 ?_;exact⟨rfl,rfl⟩
 rintro _ J h ⟨i,rfl,hi,h5,bK⟩;refine Sz2 h5 bK ?_;refine Qb (fun hg=>?_) (fun hg=>?_)
 ·have aB:i<p.length:=by omega
  have aV:=hp.get aB;have bj:=Q9m aB;generalize hx:p[i]=x at *
  have mh:=aV.m.len;have sL:=Tq (a:=x.2) (by omega);rw[DP aV.l]at sL;refine Sz3 h5 bK hx ?_;refine Qa hP sL rfl rfl rfl ?_;refine Sz3 h5 bK hx ?_;refine Qg (p.length-(i+1)) (by omega) ⟨i+1,rfl,by omega,?_⟩;rw[bj];exact Tz0
 ·obtain rfl:i=p.length:=by omega
  rw[Kar]at h5;refine Sz1 h5 ?_;exact Qd rfl rfl
theorem Zv{a:List Int}{E:Nat}(ha:MB E a):Qc Tryz.prog 77 [PV.mono a] (· = .int .i64 ((a.length:Int)-1)):=by have:=ha.len;refine Qf Qo Tryz.func77 rfl aka (by simp[LH]) fun C hP=>?_;simp only[LH,Zo,Zg,Zm,Zc,Zf,Zl,Zh,Zs,Zi,Zb,Zk,Zn,Zu,Zq,Zr,Zz];refine Sz0 ?_;exact Qd rfl rfl
theorem CW{p:List Tm}{K E:Nat}(hp:PB K E p)(np:az p)(bV:p.length<=2^36):Qc Tryz.prog 35 [PV.aj p] (· = .int .i64 (Qv p)):=by
 by_cases h0:p=[]
 ·subst h0;refine Qf Qo Tryz.func35 rfl RO (by simp[AR]) fun C hP=>?_;simp only[AR,Zo,Zg,Zm,Zc,Zf,Zl,Zh,Zs,Zi,Zb,Zk,Zn,Zu,Zq,Zr,Zz];refine Sz0 ?_;exact Qd rfl rfl
 have hl:=Kbf.2 h0;have hh:=ahQ hl;have hm:=aeD hp np h0;have aV:=hp.get hl;rw[hh]at aV;have aO:¬((p.length:Int)=0):=by omega
 refine Qf Qo Tryz.func35 rfl RO (by simp[AR]) fun C hP=>?_;simp only[AR,Zo,Zg,Zm,Zc,Zf,Zl,Zh,Zs,Zi,Zb,Zk,Zn,Zu,Zq,Zr,Zz];refine Sz2 aO hh ?_;refine Qa hP (Zv aV.m) rfl rfl rfl ?_;rw[<-hm];refine Sz0 ?_;exact Qd rfl rfl
def cA(p:List Tm):List Tm:=if Qv p<0 then p else aZ p (cS (Qv p)) (Q3 p (cS (Qv p)))
theorem GF{p:List Tm}{K E:Nat}(hp:PB K E p)(bV:p.length<=2^36):Qc Tryz.prog 59 [PV.aj p] (· =PV.aj (cA p)):=by
 refine Qf Qo Tryz.func59 rfl aj5 (by simp[Lo]) fun C hP=>?_;simp only[Lo,Zo,Zg,Zm,Zc,Zf,Zl,Zh,Zs,Zi,Zb,Zk,Zn,Zu,Zq,Zr,Zz];refine Sz0 ?_;refine Qa hP (xf hp bV) rfl rfl rfl ?_;unfold cA;generalize Qv p=v;refine Sz0 ?_;refine Qb (fun h0=>?_) (fun h0=>?_)
 ·rw[if_pos h0];refine Sz0 ?_;exact Qd rfl rfl
 ·rw[if_neg h0];refine Sz0 ?_;refine Qa hP (uU hp bV) rfl rfl rfl ?_;refine Sz0 ?_;refine Qa hP (GS hp bV) rfl rfl rfl ?_;refine Sz0 ?_;exact Qd rfl rfl
theorem Qxm{p:List Tm}{K E:Nat}(hp:PB K E p)(np:az p)(bV:p.length<=2^36)(hE:E<=1048576)(hK:K<=2^32):Qc Tryz.prog 80 [PV.aj p] (· =PV.aj (cA p)):=by
 refine Qf Qo Tryz.func80 rfl aj8 (by simp[LK]) fun C hP=>?_;simp only[LK,Zo,Zg,Zm,Zc,Zf,Zl,Zh,Zs,Zi,Zb,Zk,Zn,Zu,Zq,Zr,Zz];refine Sz0 ?_;refine Qa hP (CW hp np bV) rfl rfl rfl ?_;unfold cA;generalize Qv p=v;refine Sz0 ?_;refine Qb (fun h0=>?_) (fun h0=>?_)
 ·rw[if_pos h0];refine Sz0 ?_;exact Qd rfl rfl
 ·rw[if_neg h0];refine Sz0 ?_;refine Qa hP (xa hp bV) rfl rfl rfl ?_;refine Sz0 ?_;refine Qa hP (GV hp np bV hE hK) rfl rfl rfl ?_;refine Sz0 ?_;exact Qd rfl rfl
end Go.Proofs.YtdjoomkeehihmaaGreat
namespace Go.FW
open Go
def dK:Nat->Nat
 |0=>5
 |k+1=>10*dK k+62
def dE:Nat->Nat
 |0=>4
 |k+1=>3*dE k
def dL:Nat->Nat
 |0=>5
 |k+1=>10*dL k
theorem d5{k:Nat}(h:k<=5):dK k<=1188882/\dE k<=972/\dL k<=500000/\(k<5->dK k<=118882):=by
 have:k=0∨k=1∨k=2∨k=3∨k=4∨k=5:=by omega
 rcases this with rfl|rfl|rfl|rfl|rfl|rfl<;>decide
end Go.FW
