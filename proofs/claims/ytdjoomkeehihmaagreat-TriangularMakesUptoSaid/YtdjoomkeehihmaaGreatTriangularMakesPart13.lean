/- Part 13 of the proof of TriangularMakes: P5, U6, P6, V1, W12, W13, W14, FwUH. Own lemmas; no conditions. -/
import Derived.Test.YtdjoomkeehihmaaGreatTriangularMakesPart12
set_option maxHeartbeats 1000000
set_option linter.unusedSimpArgs false
set_option linter.unusedVariables false
set_option linter.unnecessarySimpa false
set_option maxRecDepth 100000
namespace Go.Proofs.YtdjoomkeehihmaaGreat
open Go Go.FW
theorem abF{p:List Tm}{i:Nat}(h:i<p.length):jx (p.take (i+1))=max (jx (p.take i)) (ff p[i].2):=by rw[Kag h,jx,KbV];rfl
theorem Qyh{p:List Tm}{K E:Nat}(hp:PB K E p)(hE:E<=2^38)(bV:p.length<=2^36):Qc Tryz.prog 19 [PV.aj p] (· = .int .i64 (jx p)):=by
 refine Qf Qj Tryz.func19 rfl ahS (by simp[JO]) fun C hP=>?_;simp only[JO,Zo,Zg,Zm,Zc,Zf,Zl,Zh,Zs,Zi,Zb,Zk,Zn,Zu,Zq,Zr,Zz];refine Sz0 ?_;refine Qz (by repeat (first|exact Qs|exact Ql|exact Qm|exact Qn|exact Qo|apply Qk|apply Qr|apply Qx|apply Q4|apply Q5|apply Qi|apply Q2)) [(3,18)] [] (fun n J hp=>∃i,n=p.length-i/\i<=p.length/\J 3= .int .i64 (jx (p.take i))/\J 4= .int .i64 (i:Nat)) p.length ?_ ?_
 ·refine⟨0,rfl,by omega,?_⟩;refine Sz0 ?_;simp[jx]
 rintro _ J h ⟨i,rfl,hi,h3,h4⟩;refine Sz2 h3 h4 ?_;refine Qb (fun hg=>?_) (fun hg=>?_)
 ·have aA:i<p.length:=by omega
  have ba:=hp.get aA;have bn:=abF aA;generalize hx:p[i]=x at *
  have hl:=ba.m.len;have hd:=HX ba.m;refine Sz3 h3 h4 hx ?_;refine Qa hP (yK (a:=x.2) (by omega) (fun y hy=>⟨ba.m.lo y hy,by have:=ba.m.hi y hy;omega⟩)) rfl rfl rfl ?_;refine Sz3 h3 h4 hx ?_;refine Qh (p.length-(i+1)) (by omega) ⟨i+1,rfl,by omega,?_⟩;rw[bn];exact Tz0
 ·obtain rfl:i=p.length:=by omega
  rw[Kas]at h3;refine Sz1 h3 ?_;exact Qd rfl rfl
def Qv(p:List Tm):Int:=p.foldl (fun v t=>max v ((t.2.length:Int)-1)) (-1)
theorem ZQ{p:List Tm}{i:Nat}(h:i<p.length):Qv (p.take (i+1))=max (Qv (p.take i)) ((p[i].2.length:Int)-1):=by rw[Kag h,Qv,KbV];rfl
theorem Tc(p:List Tm):∀d:Int,d<=p.foldl (fun v t=>max v ((t.2.length:Int)-1)) d/\(∀t∈p,(t.2.length:Int)-1<=p.foldl (fun v t=>max v ((t.2.length:Int)-1)) d)/\
  (p.foldl (fun v t=>max v ((t.2.length:Int)-1)) d=d∨∃t∈p,p.foldl (fun v t=>max v ((t.2.length:Int)-1)) d=(t.2.length:Int)-1):=by
 induction p with
 |nil=>intro d;exact⟨KcH _,(fun t h=>by cases h),.inl rfl⟩
 | cons x p ih=>
  intro d;obtain⟨h1,h2,h3⟩:=ih (max d ((x.2.length:Int)-1));simp only[KcI];refine⟨by omega,fun t ht=>?_,?_⟩
  ·rcases KaO.1 ht with rfl|ht
   ·omega
   ·exact h2 t ht
  ·rcases h3 with h3|⟨t,ht,h3⟩
   ·by_cases hc:(x.2.length:Int)-1<=d
    ·left;omega
    ·exact .inr ⟨x,KbO ..,by omega⟩
   ·exact .inr ⟨t,Kbl _ ht,h3⟩
theorem wO(p:List Tm): -1<=Qv p/\(∀t∈p,(t.2.length:Int)-1<=Qv p)/\(Qv p= -1∨∃t∈p,Qv p=(t.2.length:Int)-1):=Tc p (-1)
theorem agA{E:Nat}{a b:List Int}(ha:MB E a)(hl:a.getLast? ≠some 0)(h:aR a b<0):a.length<=b.length:=by
 apply Classical.byContradiction;intro hc;obtain⟨k,hk⟩:∃k,a.length=k+1:=⟨a.length-1,by omega⟩
 have e:max a.length b.length=k+1:=by omega
 have h1:=ha.eN k;have h2:eN b k=0:=fq (by omega);have h3:eN a k≠0:=fun h0=>by have:=C1 hk;rw[e9 (by omega)]at h0;rw[h0]at this;exact hl this
 rw[aR,e,dp,h2]at h;have h4:cW (eN a k) 0=1:=by
  rcases aaY (eN a k) 0 with h|h|h
  ·have:=uS.1 (show cW (eN a k) 0<0 by omega);omega
  ·exact absurd (OP.1 h) h3
  ·exact h
 simp only[h4]at h;revert h;simp[h3]
theorem adh{p:List Tm}{K E:Nat}(hp:PB K E p)(np:aC p)(h0:p≠[]):Qv p=((oF p).2.length:Int)-1:=by
 obtain⟨h1,h2,h3⟩:=wO p;have h4:=h2 _ (H4 h0);rcases h3 with h3|⟨t,ht,h3⟩
 ·omega
 ·have ba:=hp t ht;rcases ZO np.s t ht with e|e
  ·rw[<-e];exact h3
  ·have:=agA ba.m ba.l e;omega
theorem wD{p:List Tm}{K E:Nat}(hp:PB K E p)(bV:p.length<=2^36):Qc Tryz.prog 41 [PV.aj p] (· = .int .i64 (Qv p)):=by
 refine Qf Qj Tryz.func41 rfl aiD (by simp[Kc]) fun C hP=>?_;simp only[Kc,Zo,Zg,Zm,Zc,Zf,Zl,Zh,Zs,Zi,Zb,Zk,Zn,Zu,Zq,Zr,Zz];refine Sz0 ?_;refine Qz (by repeat (first|exact Qs|exact Ql|exact Qm|exact Qn|exact Qo|apply Qk|apply Qr|apply Qx|apply Q4|apply Q5|apply Qi|apply Q2)) [(3,3),(5,5),(8,17)] [5] (fun n J hp=>∃i,n=p.length-i/\i<=p.length/\J 3= .int .i64 (Qv (p.take i))/\J 8= .int .i64 (i:Nat)) p.length ?_ ?_
 ·refine⟨0,rfl,by omega,?_⟩;refine Sz0 ?_;exact⟨rfl,rfl⟩
 rintro _ J h ⟨i,rfl,hi,h5,bF⟩;refine Sz2 h5 bF ?_;refine Qb (fun hg=>?_) (fun hg=>?_)
 ·have aA:i<p.length:=by omega
  have ba:=hp.get aA;have bn:=ZQ aA;generalize hx:p[i]=x at *
  have nY:=ba.m.len;have tW:=XW (a:=x.2) (by omega);rw[Hf ba.l]at tW;refine Sz3 h5 bF hx ?_;refine Qa hP tW rfl rfl rfl ?_;refine Sz3 h5 bF hx ?_;refine Qh (p.length-(i+1)) (by omega) ⟨i+1,rfl,by omega,?_⟩;rw[bn];exact Tz0
 ·obtain rfl:i=p.length:=by omega
  rw[Kas]at h5;refine Sz1 h5 ?_;exact Qd rfl rfl
theorem XJ{a:List Int}{E:Nat}(ha:MB E a):Qc Tryz.prog 77 [PV.mono a] (· = .int .i64 ((a.length:Int)-1)):=by have:=ha.len;refine Qf Qj Tryz.func77 rfl aiL (by simp[KI]) fun C hP=>?_;simp only[KI,Zo,Zg,Zm,Zc,Zf,Zl,Zh,Zs,Zi,Zb,Zk,Zn,Zu,Zq,Zr,Zz];refine Sz0 ?_;exact Qd rfl rfl
theorem B8{p:List Tm}{K E:Nat}(hp:PB K E p)(np:aC p)(bV:p.length<=2^36):Qc Tryz.prog 35 [PV.aj p] (· = .int .i64 (Qv p)):=by
 by_cases h0:p=[]
 ·subst h0;refine Qf Qj Tryz.func35 rfl PG (by simp[Ah]) fun C hP=>?_;simp only[Ah,Zo,Zg,Zm,Zc,Zf,Zl,Zh,Zs,Zi,Zb,Zk,Zn,Zu,Zq,Zr,Zz];refine Sz0 ?_;exact Qd rfl rfl
 have hl:=Kbq.2 h0;have hh:=agt hl;have hm:=adh hp np h0;have ba:=hp.get hl;rw[hh]at ba;have aP:¬((p.length:Int)=0):=by omega
 refine Qf Qj Tryz.func35 rfl PG (by simp[Ah]) fun C hP=>?_;simp only[Ah,Zo,Zg,Zm,Zc,Zf,Zl,Zh,Zs,Zi,Zb,Zk,Zn,Zu,Zq,Zr,Zz];refine Sz2 aP hh ?_;refine Qa hP (XJ ba.m) rfl rfl rfl ?_;rw[<-hm];refine Sz0 ?_;exact Qd rfl rfl
def cy(p:List Tm):List Tm:=if Qv p<0 then p else aX p (cP (Qv p)) (Q3 p (cP (Qv p)))
theorem FN{p:List Tm}{K E:Nat}(hp:PB K E p)(bV:p.length<=2^36):Qc Tryz.prog 59 [PV.aj p] (· =PV.aj (cy p)):=by
 refine Qf Qj Tryz.func59 rfl aiF (by simp[Kt]) fun C hP=>?_;simp only[Kt,Zo,Zg,Zm,Zc,Zf,Zl,Zh,Zs,Zi,Zb,Zk,Zn,Zu,Zq,Zr,Zz];refine Sz0 ?_;refine Qa hP (wD hp bV) rfl rfl rfl ?_;unfold cy;generalize Qv p=v;refine Sz0 ?_;refine Qb (fun h0=>?_) (fun h0=>?_)
 ·rw[if_pos h0];refine Sz0 ?_;exact Qd rfl rfl
 ·rw[if_neg h0];refine Sz0 ?_;refine Qa hP (uy hp bV) rfl rfl rfl ?_;refine Sz0 ?_;refine Qa hP (F3 hp bV) rfl rfl rfl ?_;refine Sz0 ?_;exact Qd rfl rfl
theorem Qwz{p:List Tm}{K E:Nat}(hp:PB K E p)(np:aC p)(bV:p.length<=2^36)(hE:E<=1048576)(hK:K<=2^32):Qc Tryz.prog 80 [PV.aj p] (· =PV.aj (cy p)):=by
 refine Qf Qj Tryz.func80 rfl aiI (by simp[KL]) fun C hP=>?_;simp only[KL,Zo,Zg,Zm,Zc,Zf,Zl,Zh,Zs,Zi,Zb,Zk,Zn,Zu,Zq,Zr,Zz];refine Sz0 ?_;refine Qa hP (B8 hp np bV) rfl rfl rfl ?_;unfold cy;generalize Qv p=v;refine Sz0 ?_;refine Qb (fun h0=>?_) (fun h0=>?_)
 ·rw[if_pos h0];refine Sz0 ?_;exact Qd rfl rfl
 ·rw[if_neg h0];refine Sz0 ?_;refine Qa hP (wv hp bV) rfl rfl rfl ?_;refine Sz0 ?_;refine Qa hP (F7 hp np bV hE hK) rfl rfl rfl ?_;refine Sz0 ?_;exact Qd rfl rfl
theorem Qw0{l:List (List Tm)}{K E:Nat}(hl:∀c∈l,PB K E c/\c.length<=2^36)(hK:K<=2^33)(hE:E<=2^38)(pI:l.length<=2^36):Qc Tryz.prog 37 [PV.bZ l,PV.bZ l] (· = .bool true):=by
 refine Qf Qj Tryz.func37 rfl aiK (by simp[J8]) fun C hP=>?_;simp only[J8,Zo,Zg,Zm,Zc,Zf,Zl,Zh,Zs,Zi,Zb,Zk,Zn,Zu,Zq,Zr,Zz];refine Sz0 ?_;refine Qz (by repeat (first|exact Qs|exact Ql|exact Qm|exact Qn|exact Qo|apply Qk|apply Qr|apply Qx|apply Q4|apply Q5|apply Qi|apply Q2)) [(4,5),(11,26)] [] (fun n J hp=>∃i,n=l.length-i/\i<=l.length/\J 5= .int .i64 (i:Nat)) l.length ?_ ?_
 ·refine⟨0,rfl,by omega,?_⟩;refine Sz0 ?_;rfl
 rintro _ J h ⟨i,rfl,hi,h5⟩;refine Sz1 h5 ?_;refine Qb (fun hg=>?_) (fun hg=>?_)
 ·have aA:i<l.length:=by omega
  have hc:=hl _ (Kah aA);generalize hx:l[i]=x at *
  refine Sz2 h5 hx ?_;refine Qa hP (B7 hc.1 hc.1 hK hE hc.2 hc.2) rfl rfl rfl ?_;rw[decide_eq_true (p:=x=x) rfl];refine Sz1 h5 ?_;refine Qh (l.length-(i+1)) (by omega) ⟨i+1,rfl,by omega,?_⟩;exact Tz0
 ·refine Sz1 h5 ?_;exact Qd rfl rfl
end Go.Proofs.YtdjoomkeehihmaaGreat
namespace Go.FW
open Go
def dK:Nat->Nat
 |0=>5
 |k+1=>10*dK k+62
def dE:Nat->Nat
 |0=>4
 |k+1=>3*dE k
def dL:Nat->Nat
 |0=>5
 |k+1=>10*dL k
theorem d5{k:Nat}(h:k<=5):dK k<=1188882/\dE k<=972/\dL k<=500000/\(k<5->dK k<=118882):=by
 have:k=0∨k=1∨k=2∨k=3∨k=4∨k=5:=by omega
 rcases this with rfl|rfl|rfl|rfl|rfl|rfl<;>decide
end Go.FW
