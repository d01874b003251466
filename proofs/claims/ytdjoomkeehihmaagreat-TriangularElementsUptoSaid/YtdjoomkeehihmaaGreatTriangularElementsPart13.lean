/- Part 13 of the proof of TriangularElements: P5, U6, P6, V1, W12, W13, W14, FwUH. Own lemmas; no conditions. -/
import Derived.Test.YtdjoomkeehihmaaGreatTriangularElementsPart12
set_option maxHeartbeats 1000000
set_option linter.unusedSimpArgs false
set_option linter.unusedVariables false
set_option linter.unnecessarySimpa false
set_option maxRecDepth 100000
namespace Go.Proofs.YtdjoomkeehihmaaGreat
open Go Go.FW
theorem aci{p:List Tm}{i:Nat}(h:i<p.length):jE (p.take (i+1))=max (jE (p.take i)) (fm p[i].2):=by rw[Kah h,jE,KbX];rfl
theorem Qyu{p:List Tm}{K E:Nat}(hp:PB K E p)(hE:E<=2^38)(bW:p.length<=2^36):Qc Tryz.prog 19 [PV.aj p] (· = .int .i64 (jE p)):=by
 refine Qf Qj Tryz.func19 rfl ai6 (by simp[Ko]) fun C hP=>?_;simp only[Ko,Zo,Zg,Zm,Zc,Zf,Zl,Zh,Zs,Zi,Zb,Zk,Zn,Zu,Zq,Zr,Zz];refine Sz0 ?_;refine Qz (by repeat (first|exact Qs|exact Ql|exact Qm|exact Qn|exact Qo|apply Qk|apply Qr|apply Qw|apply Q5|apply Q6|apply Qi|apply Q2)) [(3,18)] [] (fun n J hp=>∃i,n=p.length-i/\i<=p.length/\J 3= .int .i64 (jE (p.take i))/\J 4= .int .i64 (i:Nat)) p.length ?_ ?_
 ·refine⟨0,rfl,by omega,?_⟩;refine Sz0 ?_;simp[jE]
 rintro _ J h ⟨i,rfl,hi,h3,h4⟩;refine Sz2 h3 h4 ?_;refine Qb (fun hg=>?_) (fun hg=>?_)
 ·have aC:i<p.length:=by omega
  have bc:=hp.get aC;have bk:=aci aC;generalize hx:p[i]=x at *
  have hl:=bc.m.len;have hd:=Iu bc.m;refine Sz3 h3 h4 hx ?_;refine Qa hP (y9 (a:=x.2) (by omega) (fun y hy=>⟨bc.m.lo y hy,by have:=bc.m.hi y hy;omega⟩)) rfl rfl rfl ?_;refine Sz3 h3 h4 hx ?_;refine Qh (p.length-(i+1)) (by omega) ⟨i+1,rfl,by omega,?_⟩;rw[bk];exact Tz0
 ·obtain rfl:i=p.length:=by omega
  rw[Kar]at h3;refine Sz1 h3 ?_;exact Qd rfl rfl
def Qv(p:List Tm):Int:=p.foldl (fun v t=>max v ((t.2.length:Int)-1)) (-1)
theorem ZZ{p:List Tm}{i:Nat}(h:i<p.length):Qv (p.take (i+1))=max (Qv (p.take i)) ((p[i].2.length:Int)-1):=by rw[Kah h,Qv,KbX];rfl
theorem NN(p:List Tm):∀d:Int,d<=p.foldl (fun v t=>max v ((t.2.length:Int)-1)) d/\(∀t∈p,(t.2.length:Int)-1<=p.foldl (fun v t=>max v ((t.2.length:Int)-1)) d)/\
  (p.foldl (fun v t=>max v ((t.2.length:Int)-1)) d=d∨∃t∈p,p.foldl (fun v t=>max v ((t.2.length:Int)-1)) d=(t.2.length:Int)-1):=by
 induction p with
 |nil=>intro d;exact⟨KcI _,(fun t h=>by cases h),.inl rfl⟩
 | cons x p ih=>
  intro d;obtain⟨h1,h2,h3⟩:=ih (max d ((x.2.length:Int)-1));simp only[KcJ];refine⟨by omega,fun t ht=>?_,?_⟩
  ·rcases KaQ.1 ht with rfl|ht
   ·omega
   ·exact h2 t ht
  ·rcases h3 with h3|⟨t,ht,h3⟩
   ·by_cases hc:(x.2.length:Int)-1<=d
    ·left;omega
    ·exact .inr ⟨x,KbO ..,by omega⟩
   ·exact .inr ⟨t,Kbm _ ht,h3⟩
theorem xa(p:List Tm): -1<=Qv p/\(∀t∈p,(t.2.length:Int)-1<=Qv p)/\(Qv p= -1∨∃t∈p,Qv p=(t.2.length:Int)-1):=NN p (-1)
theorem agD{E:Nat}{a b:List Int}(ha:MB E a)(hl:a.getLast? ≠some 0)(h:aR a b<0):a.length<=b.length:=by
 apply Classical.byContradiction;intro hc;obtain⟨k,hk⟩:∃k,a.length=k+1:=⟨a.length-1,by omega⟩
 have e:max a.length b.length=k+1:=by omega
 have h1:=ha.eN k;have h2:eN b k=0:=fB (by omega);have h3:eN a k≠0:=fun h0=>by have:=DC hk;rw[fk (by omega)]at h0;rw[h0]at this;exact hl this
 rw[aR,e,du,h2]at h;have h4:cY (eN a k) 0=1:=by
  rcases abC (eN a k) 0 with h|h|h
  ·have:=vr.1 (show cY (eN a k) 0<0 by omega);omega
  ·exact absurd (Py.1 h) h3
  ·exact h
 simp only[h4]at h;revert h;simp[h3]
theorem aei{p:List Tm}{K E:Nat}(hp:PB K E p)(np:au p)(h0:p≠[]):Qv p=((oU p).2.length:Int)-1:=by
 obtain⟨h1,h2,h3⟩:=xa p;have h4:=h2 _ (IH h0);rcases h3 with h3|⟨t,ht,h3⟩
 ·omega
 ·have bc:=hp t ht;rcases ZX np.s t ht with e|e
  ·rw[<-e];exact h3
  ·have:=agD bc.m bc.l e;omega
theorem wV{p:List Tm}{K E:Nat}(hp:PB K E p)(bW:p.length<=2^36):Qc Tryz.prog 41 [PV.aj p] (· = .int .i64 (Qv p)):=by
 refine Qf Qj Tryz.func41 rfl aiG (by simp[KH]) fun C hP=>?_;simp only[KH,Zo,Zg,Zm,Zc,Zf,Zl,Zh,Zs,Zi,Zb,Zk,Zn,Zu,Zq,Zr,Zz];refine Sz0 ?_;refine Qz (by repeat (first|exact Qs|exact Ql|exact Qm|exact Qn|exact Qo|apply Qk|apply Qr|apply Qw|apply Q5|apply Q6|apply Qi|apply Q2)) [(3,3),(5,5),(8,17)] [5] (fun n J hp=>∃i,n=p.length-i/\i<=p.length/\J 3= .int .i64 (Qv (p.take i))/\J 8= .int .i64 (i:Nat)) p.length ?_ ?_
 ·refine⟨0,rfl,by omega,?_⟩;refine Sz0 ?_;exact⟨rfl,rfl⟩
 rintro _ J h ⟨i,rfl,hi,h5,bI⟩;refine Sz2 h5 bI ?_;refine Qb (fun hg=>?_) (fun hg=>?_)
 ·have aC:i<p.length:=by omega
  have bc:=hp.get aC;have bk:=ZZ aC;generalize hx:p[i]=x at *
  have ov:=bc.m.len;have uv:=YM (a:=x.2) (by omega);rw[HX bc.l]at uv;refine Sz3 h5 bI hx ?_;refine Qa hP uv rfl rfl rfl ?_;refine Sz3 h5 bI hx ?_;refine Qh (p.length-(i+1)) (by omega) ⟨i+1,rfl,by omega,?_⟩;rw[bk];exact Tz0
 ·obtain rfl:i=p.length:=by omega
  rw[Kar]at h5;refine Sz1 h5 ?_;exact Qd rfl rfl
theorem Yj{a:List Int}{E:Nat}(ha:MB E a):Qc Tryz.prog 77 [PV.mono a] (· = .int .i64 ((a.length:Int)-1)):=by have:=ha.len;refine Qf Qj Tryz.func77 rfl ajn (by simp[Lh]) fun C hP=>?_;simp only[Lh,Zo,Zg,Zm,Zc,Zf,Zl,Zh,Zs,Zi,Zb,Zk,Zn,Zu,Zq,Zr,Zz];refine Sz0 ?_;exact Qd rfl rfl
theorem za{p:List Tm}{K E:Nat}(hp:PB K E p)(np:au p)(bW:p.length<=2^36):Qc Tryz.prog 35 [PV.aj p] (· = .int .i64 (Qv p)):=by
 by_cases h0:p=[]
 ·subst h0;refine Qf Qj Tryz.func35 rfl QK (by simp[AD]) fun C hP=>?_;simp only[AD,Zo,Zg,Zm,Zc,Zf,Zl,Zh,Zs,Zi,Zb,Zk,Zn,Zu,Zq,Zr,Zz];refine Sz0 ?_;exact Qd rfl rfl
 have hl:=Kbf.2 h0;have hh:=agw hl;have hm:=aei hp np h0;have bc:=hp.get hl;rw[hh]at bc;have aO:¬((p.length:Int)=0):=by omega
 refine Qf Qj Tryz.func35 rfl QK (by simp[AD]) fun C hP=>?_;simp only[AD,Zo,Zg,Zm,Zc,Zf,Zl,Zh,Zs,Zi,Zb,Zk,Zn,Zu,Zq,Zr,Zz];refine Sz2 aO hh ?_;refine Qa hP (Yj bc.m) rfl rfl rfl ?_;rw[<-hm];refine Sz0 ?_;exact Qd rfl rfl
def cA(p:List Tm):List Tm:=if Qv p<0 then p else aW p (cS (Qv p)) (Q3 p (cS (Qv p)))
theorem Gg{p:List Tm}{K E:Nat}(hp:PB K E p)(bW:p.length<=2^36):Qc Tryz.prog 59 [PV.aj p] (· =PV.aj (cA p)):=by
 refine Qf Qj Tryz.func59 rfl aiI (by simp[KZ]) fun C hP=>?_;simp only[KZ,Zo,Zg,Zm,Zc,Zf,Zl,Zh,Zs,Zi,Zb,Zk,Zn,Zu,Zq,Zr,Zz];refine Sz0 ?_;refine Qa hP (wV hp bW) rfl rfl rfl ?_;unfold cA;generalize Qv p=v;refine Sz0 ?_;refine Qb (fun h0=>?_) (fun h0=>?_)
 ·rw[if_pos h0];refine Sz0 ?_;exact Qd rfl rfl
 ·rw[if_neg h0];refine Sz0 ?_;refine Qa hP (uR hp bW) rfl rfl rfl ?_;refine Sz0 ?_;refine Qa hP (Gu hp bW) rfl rfl rfl ?_;refine Sz0 ?_;exact Qd rfl rfl
theorem Qxd{p:List Tm}{K E:Nat}(hp:PB K E p)(np:au p)(bW:p.length<=2^36)(hE:E<=1048576)(hK:K<=2^32):Qc Tryz.prog 80 [PV.aj p] (· =PV.aj (cA p)):=by
 refine Qf Qj Tryz.func80 rfl aiL (by simp[Ll]) fun C hP=>?_;simp only[Ll,Zo,Zg,Zm,Zc,Zf,Zl,Zh,Zs,Zi,Zb,Zk,Zn,Zu,Zq,Zr,Zz];refine Sz0 ?_;refine Qa hP (za hp np bW) rfl rfl rfl ?_;unfold cA;generalize Qv p=v;refine Sz0 ?_;refine Qb (fun h0=>?_) (fun h0=>?_)
 ·rw[if_pos h0];refine Sz0 ?_;exact Qd rfl rfl
 ·rw[if_neg h0];refine Sz0 ?_;refine Qa hP (wR hp bW) rfl rfl rfl ?_;refine Sz0 ?_;refine Qa hP (Gw hp np bW hE hK) rfl rfl rfl ?_;refine Sz0 ?_;exact Qd rfl rfl
end Go.Proofs.YtdjoomkeehihmaaGreat
namespace Go.FW
open Go
def dK:Nat->Nat
 |0=>5
 |k+1=>10*dK k+62
def dE:Nat->Nat
 |0=>4
 |k+1=>3*dE k
def dL:Nat->Nat
 |0=>5
 |k+1=>10*dL k
theorem d5{k:Nat}(h:k<=5):dK k<=1188882/\dE k<=972/\dL k<=500000/\(k<5->dK k<=118882):=by
 have:k=0∨k=1∨k=2∨k=3∨k=4∨k=5:=by omega
 rcases this with rfl|rfl|rfl|rfl|rfl|rfl<;>decide
end Go.FW
