/- Part 13 of the proof of GoalsPolynomials: W6, CA, A1, K19, K20, K21, K15, K16, K17, K22, K25, K26, FwUE, FwUF, FwUG, FwYI. Own lemmas; no conditions. -/
import Derived.Test.YtonjiljafkiikaaGreatGoalsPolynomialsPart12
set_option maxHeartbeats 1000000
set_option linter.unusedSimpArgs false
set_option linter.unusedVariables false
set_option linter.unnecessarySimpa false
set_option maxRecDepth 100000
namespace Go.Proofs.YtonjiljafkiikaaGreat
open Go Go.FW
theorem MV{x:Int}(h1: -9223372036854775808<=x)(h2:x<=9223372036854775807):Qd Tryz.prog 65 [.int .i64 x] (· =PV.rat (x:Rat)):=Jk h1 h2
abbrev C3(c:Cd):Prop:=CQ 7 128 3 c
theorem C3.cb{c:Cd}(h:C3 c):CB c:=h.mono (by omega) (by omega) (by omega)
theorem nb{a b c d:Cd}(ha:C3 a)(hb:C3 b)(hc:C3 c)(hd:C3 d):PQ 392 14450 6 (oT a b c d):=
 (((hb.x.sub ha.x).mul (hd.y.sub hc.y)).sub ((hb.y.sub ha.y).mul (hd.x.sub hc.x))).mono (by omega) (by omega) (by omega)
theorem nk{a b c d:Cd}(ha:C3 a)(hb:C3 b)(hc:C3 c)(hd:C3 d):PQ 392 14450 6 (iF a b c d):=
 (((hb.x.sub ha.x).mul (hd.x.sub hc.x)).add ((hb.y.sub ha.y).mul (hd.y.sub hc.y))).mono (by omega) (by omega) (by omega)
theorem sO{p q:List Tm}(hp:PQ 392 14450 6 p)(hq:PQ 392 14450 6 q):PQ 153664 11328800 12 (cz p q):=(hp.mul hq).mono (by omega) (by omega) (by omega)
theorem KJ{p:List Tm}{a:Rat}{T K E:Nat}(hp:PQ T K E p)(ha:rs a+1<=K)(hT:T<=2^36)(hK:K<=2^33)(hE:E<=2^38):Qd Tryz.prog 117 [PV.ax p,PV.rat a] (· =PV.ax (eC p a)):=
 H2 hp.b ha hK hE (by have:=hp.l;omega)
theorem Jo{p q:List Tm}{T K E:Nat}(hp:PQ T K E p)(hq:PQ T K E q)(hT:T<=2^15)(hK:T*(K+K)+(K+K)<=2^32)(hE:E<=2^37):Qd Tryz.prog 121 [PV.ax p,.sl 1 [PV.ax q]] (· =PV.ax (cz p q)):=by
 have h:=u7 hp hq hT hK hE;refine Qf Qh Tryz.func121 rfl VG (by simp[Dn]) fun C hP=>?_;simp only[Dn,Zo,Zg,Zm,Zc,Zf,Zl,Zh,Zs,Zi,Zb,Zk,Zn,Zu,Zq,Zr,Zz];refine Sz0 ?_;refine Q3 (by repeat (first|exact Qx|exact Qq|exact Qr|exact Qt|exact Qu|apply Qp|apply Qw|apply Q2|apply Q7|apply Q8|apply Qn)) [(0,0),(6,6),(9,16)] [] (fun m J hp=>∃i,m=1-i/\i<=1/\J 9= .int .i64 (i:Nat)/\J 0=PV.ax (if i=0 then p else cz p q)) 1 ?_ ?_
 ·refine⟨0,rfl,by omega,?_⟩;refine Sz0 ?_;rfl
 rintro _ J h2 ⟨i,rfl,hi,j9,j0⟩;refine Sz1 j9 ?_;refine Qb (fun hc=>?_) (fun hc=>?_)
 ·obtain rfl:i=0:=by omega
  rw[if_pos rfl]at j0;replace j9:J 9= .int .i64 0:=j9;refine Sz2 j9 j0 ?_;refine Qa hP h rfl rfl rfl ?_;refine Sz1 j9 ?_;refine Qm 0 (by omega) ⟨1,rfl,by omega,?_⟩;refine Sz0 ?_;rfl
 obtain rfl:i=1:=by omega
 refine Sz1 j0 ?_;exact Qc rfl rfl
theorem JU{a b c d:Cd}{r:Rat}(ha:CB a)(hb:CB b)(hc:CB c)(hd:CB d)(hr:rs r<=1024):Qd Tryz.prog 64 [.sl 2 [PV.ay a,PV.ay b,PV.ay c,PV.ay d],PV.rat r] (· =PV.ax (cH (iF a b a b) (eC (iF c d c d) r))):=by
 have d1:=vj ha hb ha hb;have d2:=vj hc hd hc hd;have b2:=kC hc hd hc hd;have s:=KJ b2 (a:=r) (by omega) (by omega) (by omega) (by omega);have f:=oS (T:=524288) (K:=2^29+8196) (E:=200) ((kC ha hb ha hb).mono (by omega) (by omega) (by omega)) ((b2.scale (a:=r) (L:=1025) (by omega)).mono (by omega) (by omega) (by omega)) (by omega) (by omega) (by omega);refine Qf Qh Tryz.func64 rfl X1 (by simp[EA]) fun C hP=>?_;simp only[EA,Zo,Zg,Zm,Zc,Zf,Zl,Zh,Zs,Zi,Zb,Zk,Zn,Zu,Zq,Zr,Zz];refine Sz0 ?_;refine Qa hP d1 rfl rfl rfl ?_;refine Sz0 ?_
 repeat' first
  |refine eV ?_ ?_
  |refine Qa hP d2 rfl rfl rfl ?_
  |refine Qa hP s rfl rfl rfl ?_
  |refine Qa hP f rfl rfl rfl ?_
  |exact Qc rfl rfl
  |simp+decide (disch:=try exact D0) only[go_sem]
theorem KK{p q r:List Tm}(hp:PQ 256 (2^17) 100 p)(hq:PQ 256 (2^17) 100 q)(hr:PQ 256 (2^17) 100 r):Qd Tryz.prog 66 [PV.ax p,PV.ax q,PV.ax r] (· =PV.ax (cH (Q4 q r) (eC p 2))):=by
 have h2:rs 2<=1024:=by decide+kernel
 have a1:=Ha hq hr (by omega) (by omega) (by omega);have o2:=MV (x:=2) (by omega) (by omega);have s:=KJ hp (a:=2) (by omega) (by omega) (by omega) (by omega);have f:=oS (T:=512) (K:=2^18) (E:=100) ((hq.add hr).mono (by omega) (by omega) (by omega)) ((hp.scale (a:=2) (L:=1025) (by omega)).mono (by omega) (by omega) (by omega)) (by omega) (by omega) (by omega);refine Qf Qh Tryz.func66 rfl XZ (by simp[EC]) fun C hP=>?_;simp only[EC,Zo,Zg,Zm,Zc,Zf,Zl,Zh,Zs,Zi,Zb,Zk,Zn,Zu,Zq,Zr,Zz];refine Sz0 ?_;refine Qa hP a1 rfl rfl rfl ?_;refine Sz0 ?_;refine Qa hP o2 rfl rfl rfl ?_;refine Sz0 ?_;refine Qa hP s rfl rfl rfl ?_;refine Sz0 ?_;refine Qa hP f rfl rfl rfl ?_;refine Sz0 ?_;exact Qc rfl rfl
def kH(a b c d e f g h:Cd):List Tm:=cH (cz (oT a b c d) (iF e f g h)) (cz (oT e f g h) (iF a b c d))
theorem JV{a b c d e f g h:Cd}(ha:C3 a)(hb:C3 b)(hc:C3 c)(hd:C3 d)(he:C3 e)(hf:C3 f)(hg:C3 g)(hh:C3 h):
  Qd Tryz.prog 67 [.sl 2 [PV.ay a,PV.ay b,PV.ay c,PV.ay d,PV.ay e,PV.ay f,PV.ay g,PV.ay h]] (· =PV.ax (kH a b c d e f g h)):=by
 have c1:=yl ha.cb hb.cb hc.cb hd.cb;have d2:=vj he.cb hf.cb hg.cb hh.cb;have c2:=yl he.cb hf.cb hg.cb hh.cb;have d1:=vj ha.cb hb.cb hc.cb hd.cb;have p1:=Jo (nb ha hb hc hd) (nk he hf hg hh) (by omega) (by omega) (by omega);have p2:=Jo (nb he hf hg hh) (nk ha hb hc hd) (by omega) (by omega) (by omega);have s:=oS (sO (nb ha hb hc hd) (nk he hf hg hh)) (sO (nb he hf hg hh) (nk ha hb hc hd)) (by omega) (by omega) (by omega);refine Qf Qh Tryz.func67 rfl X2 (by simp[ED]) fun C hP=>?_;simp only[ED,Zo,Zg,Zm,Zc,Zf,Zl,Zh,Zs,Zi,Zb,Zk,Zn,Zu,Zq,Zr,Zz];refine Sz0 ?_
 repeat' first
  |refine eV ?_ ?_
  |refine Qa hP c1 rfl rfl rfl ?_
  |refine Qa hP d2 rfl rfl rfl ?_
  |refine Qa hP c2 rfl rfl rfl ?_
  |refine Qa hP d1 rfl rfl rfl ?_
  |refine ix hP p1 Am rfl ?_
  |refine ix hP p2 Am rfl ?_
  |refine Qa hP s rfl rfl rfl ?_
  |exact Qc rfl rfl
  |simp+decide (disch:=try exact D0) only[go_sem]
theorem On{p:List Tm}{T K E:Nat}(h:PQ T K E p):eC p 1=p:=
 yj (h.scale (a:=1) (L:=2) (by decide+kernel)).n h.n fun φ=>by rw[I3 φ h.n.c];grind
theorem IS{p:List Tm}{T K E:Nat}(h:PQ T K E p):eC p 2=Q4 p p:=
 yj (h.scale (a:=2) (L:=100) (by decide+kernel)).n (h.add h).n fun φ=>by rw[I3 φ h.n.c,B1 h.n.c h.n.c];grind
def cN(k:Int)(p:Nat->Cd)(r:Rat):List (List Tm):=
 if k=1 then [oT (p 0) (p 1) (p 0) (p 2)]else if k=2 then [oT (p 0) (p 1) (p 2) (p 3)]else if k=3 then [iF (p 0) (p 1) (p 2) (p 3)]
 else if k=4 then [cH (iF (p 0) (p 1) (p 0) (p 1)) (iF (p 2) (p 3) (p 2) (p 3))]
 else if k=5 then [cH (Q4 (p 1).1 (p 2).1) (Q4 (p 0).1 (p 0).1),cH (Q4 (p 1).2 (p 2).2) (Q4 (p 0).2 (p 0).2)]
 else if k=6 then [kH (p 1) (p 0) (p 1) (p 2) (p 3) (p 0) (p 3) (p 2)]
 else if k=7 then [kH (p 0) (p 1) (p 2) (p 3) (p 4) (p 5) (p 6) (p 7)]
 else if k=8 then [cH (p 0).1 (p 1).1,cH (p 0).2 (p 1).2]
 else [cH (iF (p 0) (p 1) (p 0) (p 1)) (eC (iF (p 2) (p 3) (p 2) (p 3)) r)]
abbrev PV.nK(l:List (List Tm)):PV:=.sl 1 (l.map PV.ax)
theorem Vd{k:Int}{args:List Int}{n:Bool}{a d:List Nat}{L:List Cd}(hk:b9 k≠0)(hl:(L.length:Int)=b9 k)(hc:∀c∈L,CB c)(h3:k=6∨k=7->∀c∈L,C3 c)(hr:k=9->PV.rr n a d=PV.rat (rv n a d)/\rs (rv n a d)<=1000):
  Qd Tryz.prog 30 [PV.fG ⟨k,args,n,a,d⟩,.sl 2 (L.map PV.ay)] (· =PV.nK (cN k (fun i=>L.getD i ([],[])) (rv n a d))):=by
 have Fo:k=1∨k=2∨k=3∨k=4∨k=5∨k=6∨k=7∨k=8∨k=9:=by
  rcases ub k with h|h
  ·exact h
  ·exfalso;apply hk;unfold b9;repeat' split
   all_goals omega
 have e2:∀L:List Cd,L.length=2->∃x y,L=[x,y]:=fun L h=>by
  match L,h with
  | [x,y],_=>exact⟨x,y,rfl⟩
 have e3:∀L:List Cd,L.length=3->∃x y z,L=[x,y,z]:=fun L h=>by
  match L,h with
  | [x,y,z],_=>exact⟨x,y,z,rfl⟩
 have e4:∀L:List Cd,L.length=4->∃x y z w,L=[x,y,z,w]:=fun L h=>by
  match L,h with
  | [x,y,z,w],_=>exact⟨x,y,z,w,rfl⟩
 have e8:∀L:List Cd,L.length=8->∃x y z w s t u v,L=[x,y,z,w,s,t,u,v]:=fun L h=>by
  match L,h with
  | [x,y,z,w,s,t,u,v],_=>exact⟨x,y,z,w,s,t,u,v,rfl⟩
 rcases Fo with rfl|rfl|rfl|rfl|rfl|rfl|rfl|rfl|rfl
 ·obtain⟨x,y,z,rfl⟩:=e3 L (by simp[b9]at hl;omega);have hx:=hc x (by simp);have hy:=hc y (by simp);have hz:=hc z (by simp);have c1:=yl hx hy hx hz;refine Qf Qh Tryz.func30 rfl nT (by simp[gm]) fun C hP=>?_;simp only[gm,Zo,Zg,Zm,Zc,Zf,Zl,Zh,Zs,Zi,Zb,Zk,Zn,Zu,Zq,Zr,Zz];refine Sz0 ?_;refine Qa hP c1 rfl rfl rfl ?_;refine Sz0 ?_;exact eX bd (by simp[cN])
 ·obtain⟨x,y,z,w,rfl⟩:=e4 L (by simp[b9]at hl;omega);have hx:=hc x (by simp);have hy:=hc y (by simp);have hz:=hc z (by simp);have hw:=hc w (by simp);have c1:=yl hx hy hz hw;refine Qf Qh Tryz.func30 rfl nT (by simp[gm]) fun C hP=>?_;simp only[gm,Zo,Zg,Zm,Zc,Zf,Zl,Zh,Zs,Zi,Zb,Zk,Zn,Zu,Zq,Zr,Zz];refine Sz0 ?_;refine Qa hP c1 rfl rfl rfl ?_;refine Sz0 ?_;exact eX bd (by simp[cN])
 ·obtain⟨x,y,z,w,rfl⟩:=e4 L (by simp[b9]at hl;omega);have hx:=hc x (by simp);have hy:=hc y (by simp);have hz:=hc z (by simp);have hw:=hc w (by simp);have c1:=vj hx hy hz hw;refine Qf Qh Tryz.func30 rfl nT (by simp[gm]) fun C hP=>?_;simp only[gm,Zo,Zg,Zm,Zc,Zf,Zl,Zh,Zs,Zi,Zb,Zk,Zn,Zu,Zq,Zr,Zz];refine Sz0 ?_;refine Qa hP c1 rfl rfl rfl ?_;refine Sz0 ?_;exact eX bd (by simp[cN])
 ·obtain⟨x,y,z,w,rfl⟩:=e4 L (by simp[b9]at hl;omega);have hx:=hc x (by simp);have hy:=hc y (by simp);have hz:=hc z (by simp);have hw:=hc w (by simp);have c1:=JU hx hy hz hw (r:=((1:Int):Rat)) (by decide+kernel);have o1:=MV (x:=1) (by omega) (by omega);have e1:eC (iF z w z w) ((1:Int):Rat)=iF z w z w:=On (kC hz hw hz hw);rw[e1]at c1;refine Qf Qh Tryz.func30 rfl nT (by simp[gm]) fun C hP=>?_;simp only[gm,Zo,Zg,Zm,Zc,Zf,Zl,Zh,Zs,Zi,Zb,Zk,Zn,Zu,Zq,Zr,Zz];refine Sz0 ?_;refine Qa hP o1 rfl rfl rfl ?_;refine Sz0 ?_;refine Qa hP c1 rfl rfl rfl ?_;refine Sz0 ?_;exact eX bd (by simp[cN])
 ·obtain⟨x,y,z,rfl⟩:=e3 L (by simp[b9]at hl;omega);have hx:=hc x (by simp);have hy:=hc y (by simp);have hz:=hc z (by simp);have c1:=KK hx.x hy.x hz.x;have c2:=KK hx.y hy.y hz.y;rw[IS hx.x]at c1;rw[IS hx.y]at c2;refine Qf Qh Tryz.func30 rfl nT (by simp[gm]) fun C hP=>?_;simp only[gm,Zo,Zg,Zm,Zc,Zf,Zl,Zh,Zs,Zi,Zb,Zk,Zn,Zu,Zq,Zr,Zz];refine Sz0 ?_
  repeat' first
   |refine eV ?_ ?_
   |refine Qa hP c1 rfl rfl rfl ?_
   |refine Qa hP c2 rfl rfl rfl ?_
   |simp+decide (disch:=try exact D0) only[go_sem]
  all_goals exact eX bd (by simp[cN])
 ·obtain⟨x,y,z,w,rfl⟩:=e4 L (by simp[b9]at hl;omega);have hx:=h3 (.inl rfl) x (by simp);have hy:=h3 (.inl rfl) y (by simp);have hz:=h3 (.inl rfl) z (by simp);have hw:=h3 (.inl rfl) w (by simp);have c1:=JV hy hx hy hz hw hx hw hz;refine Qf Qh Tryz.func30 rfl nT (by simp[gm]) fun C hP=>?_;simp only[gm,Zo,Zg,Zm,Zc,Zf,Zl,Zh,Zs,Zi,Zb,Zk,Zn,Zu,Zq,Zr,Zz];refine Sz0 ?_;rw[sm rfl (fun p hp=>by simp only[KaF,Kba,or_false]at hp;rcases hp with rfl|rfl|rfl|rfl|rfl|rfl|rfl|rfl<;>rfl) (by omega)];refine Sz0 ?_;refine ix hP c1 Am rfl ?_;refine Sz0 ?_;exact eX bd (by simp[cN])
 ·obtain⟨x,y,z,w,s,t,u,v,rfl⟩:=e8 L (by simp[b9]at hl;omega);have hx:=h3 (.inr rfl) x (by simp);have hy:=h3 (.inr rfl) y (by simp);have hz:=h3 (.inr rfl) z (by simp);have hw:=h3 (.inr rfl) w (by simp);have hs:=h3 (.inr rfl) s (by simp);have ht:=h3 (.inr rfl) t (by simp);have hu:=h3 (.inr rfl) u (by simp);have hv:=h3 (.inr rfl) v (by simp);have c1:=JV hx hy hz hw hs ht hu hv;refine Qf Qh Tryz.func30 rfl nT (by simp[gm]) fun C hP=>?_;simp only[gm,Zo,Zg,Zm,Zc,Zf,Zl,Zh,Zs,Zi,Zb,Zk,Zn,Zu,Zq,Zr,Zz];refine Sz0 ?_;refine Qa hP c1 rfl rfl rfl ?_;refine Sz0 ?_;exact eX bd (by simp[cN])
 ·obtain⟨x,y,rfl⟩:=e2 L (by simp[b9]at hl;omega);have hx:=hc x (by simp);have hy:=hc y (by simp);have c1:=oS hx.x hy.x (by omega) (by omega) (by omega);have c2:=oS hx.y hy.y (by omega) (by omega) (by omega);refine Qf Qh Tryz.func30 rfl nT (by simp[gm]) fun C hP=>?_;simp only[gm,Zo,Zg,Zm,Zc,Zf,Zl,Zh,Zs,Zi,Zb,Zk,Zn,Zu,Zq,Zr,Zz];refine Sz0 ?_
  repeat' first
   |refine eV ?_ ?_
   |refine Qa hP c1 rfl rfl rfl ?_
   |refine Qa hP c2 rfl rfl rfl ?_
   |simp+decide (disch:=try exact D0) only[go_sem]
  all_goals exact eX bd (by simp[cN])
 ·obtain⟨x,y,z,w,rfl⟩:=e4 L (by simp[b9]at hl;omega);have hx:=hc x (by simp);have hy:=hc y (by simp);have hz:=hc z (by simp);have hw:=hc w (by simp);obtain⟨kV,iM⟩:=hr rfl;have c1:=JU hx hy hz hw (r:=rv n a d) (by omega);rw[<-kV]at c1;refine Qf Qh Tryz.func30 rfl nT (by simp[gm]) fun C hP=>?_;simp only[gm,Zo,Zg,Zm,Zc,Zf,Zl,Zh,Zs,Zi,Zb,Zk,Zn,Zu,Zq,Zr,Zz];refine Sz0 ?_;refine Qa hP c1 rfl rfl rfl ?_;refine Sz0 ?_;exact eX bd (by simp[cN])
abbrev Nb:=List Cd×List Vr×Nat
def bE(S:List cC):Nat->Nb
 |0=>([],[],0)
 | i+1=>((bE S i).1++[gj (S.getD i fU).k (rv (S.getD i fU).n (S.getD i fU).a (S.getD i fU).d) (bK (bE S i).1 (S.getD i fU).args) (bE S i).2.1.length (bE S i).2.2],
   (bE S i).2.1++jd (S.getD i fU).k (i:Nat) (bE S i).2.2,if(S.getD i fU).k=1 then(bE S i).2.2+1 else(bE S i).2.2)
theorem uR(S:List cC):∀i,(bE S i).1.length=i
 |0=>rfl
 |i+1=>by rw[bE,KaJ,uR S i];rfl
theorem JW(k i:Int)(b:Nat):(jd k i b).length<=3:=by
 unfold jd nj
 repeat' split
 all_goals simp
theorem Hn(S:List cC):∀i,(bE S i).2.1.length<=3*i/\(bE S i).2.2<=i
 |0=>⟨Kag _,Kag _⟩
 |i+1=>by obtain⟨h1,h2⟩:=Hn S i;have h3:=JW (S.getD i fU).k (i:Nat) (bE S i).2.2;rw[bE];refine⟨by simp only[KaJ];omega,?_⟩;simp only;split<;>omega
abbrev WQ(w:Nat)(c:Cd):Prop:=CQ (2^w-1) (2*4^w) w c
theorem pw{w:Nat}(h:1<=w):2<=2^w/\4<=4^w:=by
 obtain⟨n,rfl⟩:∃n,w=n+1:=⟨w-1,by omega⟩
 have:=Nat.one_le_pow n 2 (by omega);have:=Nat.one_le_pow n 4 (by omega);rw[Kbi,Kbi];omega
theorem Co{x y:Nat}(hx:2<=x)(hy:2<=y):2*x+y<=x*y+2:=by
 obtain⟨a,rfl⟩:∃a,x=a+2:=⟨x-2,by omega⟩
 obtain⟨b,rfl⟩:∃b,y=b+2:=⟨y-2,by omega⟩
 have:(a+2)*(b+2)=a*b+2*a+2*b+4:=by rw[Kaz,KaO,KaO];omega
 have h0:0<=a*b:=KbG _;omega
theorem B5{x y:Nat}(hx:4<=x)(hy:4<=y):4*x+2*y+8<=2*(x*y):=by
 obtain⟨a,rfl⟩:∃a,x=a+4:=⟨x-4,by omega⟩
 obtain⟨b,rfl⟩:∃b,y=b+4:=⟨y-4,by omega⟩
 have:(a+4)*(b+4)=a*b+4*a+4*b+16:=by rw[Kaz,KaO,KaO];omega
 have h0:0<=a*b:=KbG _;omega
theorem xX{p q m:List Tm}{u v e:Nat}(hu:1<=u)(hv:1<=v)(hp:PQ (2^u-1) (2*4^u) u p)(hq:PQ (2^v-1) (2*4^v) v q)(hm:PQ 1 4 e m){w:Nat}(hw:u+v<=w)(he:max u v+e<=w):
  PQ (2^w-1) (2*4^w) w (Q4 p (cz m (cH q p))):=by
 obtain⟨u2,u4⟩:=pw hu;obtain⟨v2,v4⟩:=pw hv;have h2:2^(u+v)<=2^w:=KaX (by omega) hw;have h4:4^(u+v)<=4^w:=KaX (by omega) hw;rw[Nat.pow_add]at h2 h4;have b2:=Co u2 v2;have b4:=B5 u4 v4;have E:Nat:=max u v;have hp':=hp.mono (Kag _) (Kag _) (show u<=max u v by omega);have fR:=hq.mono (Kag _) (Kag _) (show v<=max u v by omega);have hs:=fR.sub hp';have hmul:=hm.mul hs;have vZ:min 1 (2^v-1+(2^u-1))*(4+(2*4^v+(2*4^u+2)))<=1*(4+(2*4^v+(2*4^u+2))):=Kam _ (by omega);refine((hp.mono (Kag _) (Kag _) (show u<=w by omega)).add (hmul.mono (Kag _) (Kag _) (show e+max u v<=w by omega))).mono (by omega) (by omega) (Kag _)
theorem ym{p q r:List Tm}{u v x w:Nat}(hu:1<=u)(hv:1<=v)(hx:1<=x)(hp:PQ (2^u-1) (2*4^u) u p)(hq:PQ (2^v-1) (2*4^v) v q)(hr:PQ (2^x-1) (2*4^x) x r)(hw:u+v+x<=w):
  PQ (2^w-1) (2*4^w) w (jQ p q r):=by
 obtain⟨u2,u4⟩:=pw hu;obtain⟨v2,v4⟩:=pw hv;obtain⟨x2,x4⟩:=pw hx;have h2:2^(u+v+x)<=2^w:=KaX (by omega) hw;have h4:4^(u+v+x)<=4^w:=KaX (by omega) hw;rw[Nat.pow_add,Nat.pow_add]at h2 h4;have a2:=Co u2 v2;have a4:=B5 u4 v4;have b2:=Co (x:=2^u*2^v) (y:=2^x) (by omega) x2;have b4:=B5 (x:=4^u*4^v) (y:=4^x) (by omega) x4;have hp':=hp.mono (Kag _) (Kag _) (show u<=w by omega);have fR:=hq.mono (Kag _) (Kag _) (show v<=w by omega);have dZ:=hr.mono (Kag _) (Kag _) (show x<=w by omega);exact(hp'.add (fR.sub dZ)).mono (by omega) (by omega) (Kag _)
abbrev PV.frame(cs:List Cd)(vs:List Vr):PV:=.agg [.sl 2 (cs.map PV.ay),.sl 3 (vs.map PV.fvar)]
theorem GL{S:List cC}:∀ {n i:Nat} (h:i<n),(cW S n)[i]'(by rw[mU];exact h)=fJ (cW S i) (S.getD i fU).k (S.getD i fU).args
 | n+1,i,h=>by
  simp only[cW];by_cases e:i<n
  ·rw[Kco (by rw[mU];exact e)];exact GL e
  ·obtain rfl:i=n:=by omega
   rw[List.getElem_append_right (by rw[mU];omega)];simp[mU]
theorem se{S:List cC}{n i:Nat}(h:i<n):(cW S n).getD i 0=fJ (cW S i) (S.getD i fU).k (S.getD i fU).args:=by rw[Kae,Kaf (by rw[mU];exact h)];exact GL h
theorem WQ.one{c:Cd}(hx:PQ 1 4 1 c.1)(hy:PQ 1 4 1 c.2):WQ 1 c:=⟨hx.mono (by omega) (by omega) (by omega),hy.mono (by omega) (by omega) (by omega)⟩
theorem z9{w:Nat}{c:Cd}(h:WQ w c)(hw:w<=8):CB c:=by have h2:2^w<=2^8:=KaX (by omega) hw;have h4:4^w<=4^8:=KaX (by omega) hw;exact h.mono (by omega) (by omega) (by omega)
theorem uZ{S:List cC}{G:List cn}(hF:sM S G)(hb:∀s∈S,oa s):∀i,i<=S.length->∀n,n<i->∃w:Nat,1<=w/\w<=8/\(cW S i).getD n 0=(w:Int)/\WQ w ((bE S i).1.getD n ([],[]))
 |0,_,n,h=>by omega
 | i +1,hi,n,h=>by
  have ih:=uZ hF hb i (by omega);have hl:=uR S i;have tg:i<S.length:=by omega
  have hd:S.getD i fU=S[i]:=by rw[Kae,Kaf tg];rfl
  have bQ:=hF.f.s i tg;have dI:=hF.s _ (Kaq tg);have Mg:=(hb _ (Kaq tg)).r;by_cases hn:n<i
  ·obtain⟨w,h1,h2,h3,h4⟩:=ih n hn;refine⟨w,h1,h2,?_,?_⟩
   ·rw[se (show n<i+1 by omega),<-se hn];exact h3
   ·rw[bE];simp only;rw[Kae,KbM (by omega),<-List.getD_eq_getElem?_getD];exact h4
  obtain rfl:n=i:=by omega
  have wq:(cW S (n+1)).getD n 0<=8:=by
   have e:(cW S (n+1)).getD n 0=(cW S S.length).getD n 0:=by rw[se (Kcc n),se tg]
   rw[e,Kae,Kaf (by rw[mU];exact tg)];exact hF.t.w _ (Kaq _)
  have hc:(bE S (n+1)).1.getD n ([],[])=gj S[n].k (rv S[n].n S[n].a S[n].d) (bK (bE S n).1 S[n].args) (bE S n).2.1.length (bE S n).2.2:=by rw[bE,hd];simp only;rw[Kae,Kbd (by omega)];simp[hl]
  rw[se (Kcc n),hd]at wq;rw[se (Kcc n),hd,hc];have hlen:=bQ.l;have bP:∀m,m<S[n].args.length->∃w:Nat,1<=w/\w<=8/\jX (cW S n) S[n].args m=(w:Int)/\WQ w ((bK (bE S n).1 S[n].args).getD m ([],[])):=fun m hm=>by
   have hr:=bQ.r _ (Kaq hm);obtain⟨w,h1,h2,h3,h4⟩:=ih S[n].args[m].toNat (by omega);refine⟨w,h1,h2,?_,?_⟩
   ·unfold jX;rw[show S[n].args.getD m 0=S[n].args[m]by rw[Kae,Kaf hm];rfl];exact h3
   ·rw[show(bK (bE S n).1 S[n].args).getD m ([],[])=(bE S n).1.getD S[n].args[m].toNat ([],[])by rw[Kae,bK,Kap,Kaf hm];rfl];exact h4
  have hk:=bQ.k;have hq:=bQ.q;generalize S[n]=s at *
  generalize bE S n=F at *
  generalize bK F.1 s.args=L at *
  generalize cW S n=W at *
  have v1:∀m:Nat,PQ 1 4 1 (bX m):=fun m=>PQ.var;have v0:PQ 1 4 1 []:=PQ.nil;by_cases k1:s.k=1
  ·refine⟨1,by omega,by omega,by rw[k1];rfl,WQ.one ?_ ?_⟩
   all_goals
    rw[k1];simp only[gj,nZ];rw[if_pos trivial]
    repeat' split
    all_goals first|exact v1 _|exact v0
  have Me:s.k=2->PQ 1 4 0 (lz (rv s.n s.a s.d)):=fun _=>PQ.const (by have:=(show Raw 2 s.n s.a s.d from⟨Mg.la,Mg.ld,dI.1,dI.2,by omega⟩).rs;omega);by_cases k2:s.k=2
  ·have mI:s.args.length=2:=by rw[k2]at hlen;have:fg 2=2:=(by decide);omega
   obtain⟨w0,a1,a2,a3,a4⟩:=bP 0 (by omega);obtain⟨w1,b1,b2,b3,b4⟩:=bP 1 (by omega);have e:fJ W s.k s.args=((w0+w1:Nat):Int):=by rw[fJ,if_pos k2,a3,b3];omega
   rw[e]at wq⊢;refine⟨w0+w1,by omega,by omega,rfl,?_⟩;rw[gj,if_neg k1,if_pos k2];exact⟨xX a1 b1 a4.x b4.x (Me k2) (Kag _) (by omega),xX a1 b1 a4.y b4.y (Me k2) (Kag _) (by omega)⟩
  by_cases k3:s.k=3∨s.k=4
  ·have mI:s.args.length=3:=by
    rcases k3 with k3|k3
    ·rw[k3]at hlen;have:fg 3=3:=by decide
     omega
    ·rw[k3]at hlen;have:fg 4=3:=by decide
     omega
   obtain⟨w0,a1,a2,a3,a4⟩:=bP 0 (by omega);obtain⟨w1,b1,b2,b3,b4⟩:=bP 1 (by omega);obtain⟨w2,c1,c2,c3,c4⟩:=bP 2 (by omega);have e:fJ W s.k s.args=((w0+w1+w2:Nat):Int):=by rw[fJ,if_neg k2,if_pos k3,a3,b3,c3];omega
   rw[e]at wq⊢;refine⟨w0+w1+w2,by omega,by omega,rfl,?_⟩;rw[gj,if_neg k1,if_neg k2];by_cases q3:s.k=3
   ·rw[if_pos q3];exact⟨ym a1 c1 b1 a4.x c4.x b4.x (by omega),ym a1 c1 b1 a4.y c4.y b4.y (by omega)⟩
   ·rw[if_neg q3,if_pos (by omega)];exact⟨ym a1 b1 c1 a4.x b4.y c4.y (by omega),ym a1 c1 b1 a4.y c4.x b4.x (by omega)⟩
  by_cases k5:s.k=5
  ·have mI:s.args.length=2:=by rw[k5]at hlen;have:fg 5=2:=(by decide);omega
   obtain⟨w0,a1,a2,a3,a4⟩:=bP 0 (by omega);obtain⟨w1,b1,b2,b3,b4⟩:=bP 1 (by omega);have e:fJ W s.k s.args=((2*w0+w1:Nat):Int):=by rw[fJ,if_neg k2,if_neg k3,if_pos k5,a3,b3];omega
   rw[e]at wq⊢;refine⟨2*w0+w1,by omega,by omega,rfl,?_⟩;rw[gj,if_neg k1,if_neg k2,if_neg (by omega),if_neg (by omega),if_pos k5];exact⟨xX a1 b1 a4.x b4.x (v1 _) (by omega) (by omega),xX a1 b1 a4.y b4.y (v1 _) (by omega) (by omega)⟩
  ·have e:fJ W s.k s.args=((1:Nat):Int):=by rw[fJ,if_neg k2,if_neg k3,if_neg k5];rfl
   rw[e]at wq⊢;refine⟨1,by omega,by omega,rfl,?_⟩;rw[gj,if_neg k1,if_neg k2,if_neg (by omega),if_neg (by omega),if_neg k5];split
   ·exact WQ.one (v1 _) (v1 _)
   ·exact WQ.one (v1 _) (v1 _)
theorem HC{p q p' q':PV}{R:PV->Prop}(h:R (.aO [p',q']))(d1:p.aA=true)(d2:q.aA=true)(h1:PV.le p p')(h2:PV.le q q'):vf R p q:=by obtain⟨g1,r,g2,g3⟩:=jR (r:=.aO [p',q']) rfl d1 d2 h1 h2;subst g3;exact⟨g1,_,g2,h⟩
set_option maxHeartbeats 1000000 in
theorem Gm(hN:qj){S:List cC}{G:List cn}(hF:sM S G)(hS:S.length<2^40)(hG:G.length<2^40)(hb:∀s∈S,oa s)(hg:∀g∈G,ns g):
  Qd Tryz.prog 10 [PV.fh S G] (fun r=>∃(cs:List Cd)(vs:List Vr)(e:Int),r= .aO [PV.frame cs vs,.int .i64 e]/\(e=0->cs=(bE S S.length).1/\vs=(bE S S.length).2.1)/\(Cl S G->e=0)):=by
 have hR:=Jn hN hS hG hb hg;have hSl:=hF.l;refine Jl Qh Tryz.func10 rfl Yc (by simp[C6]) fun C hP=>?_;simp only[C6,Zo,Zg,Zm,Zc,Zf,Zl,Zh,Zs,Zi,Zb,Zk,Zn,Zu,Zq,Zr,Zz];refine Sz0 ?_;refine gz hP hR rfl rfl rfl ?_;rintro _ ⟨e,rfl,-,Fx⟩;by_cases h0:¬e=0
 ·have d:decide (¬e=0)=true:=decide_eq_true h0;refine Sz1 d ?_;have hh:PV.le (.agg [.aa,.aa]) (.agg [.sl 2 [],.sl 3 []]):=⟨trivial,trivial,trivial⟩
  refine JN (va ?_);refine Sz0 ?_;refine HC (p:=.agg [.aa,.aa]) (q:=.int .i64 e) (p':=.agg [.sl 2 [],.sl 3 []]) (q':=.int .i64 e) ?_ rfl rfl hh (bT _);exact⟨[],[],e,rfl,fun h=>absurd h h0,fun q=>absurd (Fx q) h0⟩
 obtain rfl:e=0:=by omega
 refine Sz0 ?_;refine cO (ni 5 2000020 bd (by omega) rfl (by omega)) ?_;refine Sz0 ?_;refine cO (nc (γ:=2000020) (e:=2) (ty:=43) (xs:=[.agg [.aa,.aa]]) (fz:=false) Tz0 (by simp) (by omega) (fun x hx=>by rw[KaB.1 hx];rfl)) ?_;refine Sz0 ?_;refine cO (Sl (γ:=2000020) (e:=2) (ty:=43) (cs:=[.aa,.aa]) (cs':=[.aq 2000000 0 0,.aa]) 2000000 2 82 Tz0 bd (by omega) (by omega) rfl (by simp)) ?_;refine Sz0 ?_;refine cO (Vw (γ:=2000020) (e:=2) (ty:=43) (cs:=[.aq 2000000 0 0,.aa]) (cs':=[.aq 2000000 0 0,.aq 2000001 0 0]) 2000001 3 99 Tz0 bd (by omega) (by omega) rfl (by simp)) ?_;refine Sz0 ?_;refine J9 (by repeat (first|exact Qx|exact Qq|exact Qr|exact Qt|exact Qu|apply Qp|apply Qw|apply Q2|apply Q7|apply Q8|apply Qn)) [(3,3),(5,10),(20,62),(2000020,2000021)] [8,9,10,54,55] (fun q J hp=>∃i,q=S.length-i/\i<=S.length/\J 5= .np 2000020 0 0/\J 6= .int .i64 ((bE S i).2.2:Nat)/\J 20= .int .i64 (i:Nat)/\J 2000020= .aC 2000020 2 43 [wV i (bE S i).2.1.length]/\hp 2000020=some ⟨2,43,[],false⟩/\hp 2000021=none/\
   hp 2000000=some (s9 (bE S i).1)/\hp 2000001=some (tc (bE S i).2.1)/\hp 1=some ⟨2,25,[PV.fh S G],false⟩/\hp 2=some ⟨2,43,[.agg [.aa,.aa]],false⟩) S.length ?_ ?_
 ·refine⟨0,rfl,by omega,?_⟩;refine Sz0 ?_;exact⟨rfl,rfl,rfl,rfl,rfl⟩
 rintro _ J h ⟨i,rfl,hi,j5,j6,il,g5,k5,kn,k0,k1,kf,kr⟩;refine Sz1 il ?_;refine Qb (fun hc=>?_) (fun hc=>?_)
 ·have aD:i<S.length:=by omega
  have hd:S.getD i fU=S[i]:=by rw[Kae,Kaf aD];rfl
  have dY:=uR S i;obtain⟨jB,td⟩:=Hn S i;have fY:∀c∈(bE S i).1,CB c:=fun c hc=>by obtain⟨n,hn,rfl⟩:=Ka0 hc;obtain⟨w,_,w8,_,hw⟩:=uZ hF hb i hi n (by omega);rw[Kae,Kaf hn]at hw;exact z9 hw w8
  have jv:=Yr (S:=S) (G:=G) (b:=(bE S i).2.2) (vs:=(bE S i).2.1) aD (by omega) (hF.f.s i aD) dY fY (by omega) (by omega) (fun _=>⟨(hF.s _ (Kaq aD)).1,(hF.s _ (Kaq aD)).2,(hb _ (Kaq aD)).r⟩);have Fq:CB (gj S[i].k (rv S[i].n S[i].a S[i].d) (bK (bE S i).1 S[i].args) (bE S i).2.1.length (bE S i).2.2):=by obtain⟨w,_,w8,_,hw⟩:=uZ hF hb (i+1) (by omega) i (by omega);rw[bE,hd,Kae]at hw;simp only at hw;rw[Kbd (by omega),dY,KbD]at hw;exact z9 hw w8
  have fi:=JW S[i].k (i:Nat) (bE S i).2.2;have FQ:bE S (i+1)=((bE S i).1++[gj S[i].k (rv S[i].n S[i].a S[i].d) (bK (bE S i).1 S[i].args) (bE S i).2.1.length (bE S i).2.2],(bE S i).2.1++jd S[i].k (i:Nat) (bE S i).2.2,if S[i].k=1 then(bE S i).2.2+1 else(bE S i).2.2):=by rw[bE,hd]
  rw[mr,dY]at jv;obtain⟨F,EY⟩:∃F,bE S i=F:=⟨_,rfl⟩
  rw[EY]at g5 k0 k1 j6 jB td fY jv Fq fi FQ dY;generalize gj S[i].k (rv S[i].n S[i].a S[i].d) (bK F.1 S[i].args) F.2.1.length F.2.2=c at *
  generalize jd S[i].k (i:Nat) F.2.2=nv at *
  generalize hx:S[i]=s at *
  refine Sz6 il j5 j6 g5 kf hx ?_;refine cO (r9 (γ:=2000020) (e:=2) (ty:=43) (cs:=[.aq 2000000 0 i,.aq 2000001 0 F.2.1.length]) (Tz1 g5)) ?_;refine Sz5 il j5 j6 k5 kf ?_;refine me hP jv (Tz1 k0) (Tz1 k1) rfl rfl rfl (by simp) ?_;rw[Hz,HA (fun x hx=>by rcases ss.1 hx with rfl|rfl<;>omega)];refine Sz2 j5 k5 ?_;refine cO (ni 9 2000021 (jV kn) (by omega) rfl (by omega)) ?_;refine Sz1 kn ?_;refine cO (nc (γ:=2000021) (e:=2) (ty:=43) (xs:=[.agg [.aa,.aa]]) (fz:=false) (Tz1 kn) (by simp) (by omega) (fun x hx=>by rw[KaB.1 hx];rfl)) ?_;rw[Va rfl (by omega)];have d1:decide (64<((F.2.1++nv).length:Int))=false:=decide_eq_false (by rw[KaJ];omega);have d2:decide (4000<(c.1.length:Int))=false:=decide_eq_false (by have:=Fq.x.l;omega);have d3:decide (4000<(c.2.length:Int))=false:=decide_eq_false (by have:=Fq.y.l;omega);refine Sz3 d1 d2 d3 ?_;refine cO (Vc 2000021) ?_;rw[ZC (by omega)];generalize hJ:ft (one 2000021) _=J';have w5:J' 5= .np 2000020 0 0:=by rw[<-hJ];simp+decide (disch:=try exact D4 g5 j5 j6 il) only[go_sem,g5,j5,j6,il]<;>rfl
  have w6:J' 6= .int .i64 (F.2.2:Nat):=by rw[<-hJ];simp+decide (disch:=try exact D4 g5 j5 j6 il) only[go_sem,g5,j5,j6,il]<;>rfl
  have w8:J' 8= .mp 8 0 0:=by rw[<-hJ];simp+decide (disch:=try exact D4 g5 j5 j6 il) only[go_sem,g5,j5,j6,il]<;>rfl
  have w10:J' 10= .mp 10 0 0:=by rw[<-hJ];simp+decide (disch:=try exact D4 g5 j5 j6 il) only[go_sem,g5,j5,j6,il]<;>rfl
  have M9:J' 20= .int .i64 (i:Nat):=by rw[<-hJ];simp+decide (disch:=try exact D4 g5 j5 j6 il) only[go_sem,g5,j5,j6,il]<;>rfl
  have w50:J' 50= .aH [.aq 2000000 0 i,.aq 2000001 0 (F.2.1++nv).length]:=by rw[<-hJ];simp+decide (disch:=try exact D4 g5 j5 j6 il) only[go_sem,g5,j5,j6,il]<;>rfl
  have aef:J' 2000020= .aC 2000020 2 43 [.aH [.undef,.undef]]:=by rw[<-hJ];simp+decide (disch:=try exact D4 g5 j5 j6 il) only[go_sem,g5,j5,j6,il]<;>rfl
  generalize hH:ET (one 2000021) _=H';have v1:H' 1=some ⟨2,25,[PV.fh S G],false⟩:=by rw[<-hH];simp+decide (disch:=try exact D6 kf kr k5 k0 k1 kn) only[go_sem,kf,kr,k5,k0,k1,kn]<;>rfl
  have v2:H' 2=some ⟨2,43,[.agg [.aa,.aa]],false⟩:=by rw[<-hH];simp+decide (disch:=try exact D6 kf kr k5 k0 k1 kn) only[go_sem,kf,kr,k5,k0,k1,kn]<;>rfl
  have v8:H' 8=some ⟨6,76,[PV.mS s],false⟩:=by rw[<-hH];simp+decide (disch:=try exact D6 kf kr k5 k0 k1 kn) only[go_sem,kf,kr,k5,k0,k1,kn]<;>rfl
  have v10:H' 10=some ⟨2,82,[PV.ay c],false⟩:=by rw[<-hH];simp+decide (disch:=try exact D6 kf kr k5 k0 k1 kn) only[go_sem,kf,kr,k5,k0,k1,kn]<;>rfl
  have aec:H' 2000000=some (s9 F.1):=by rw[<-hH];simp+decide (disch:=try exact D6 kf kr k5 k0 k1 kn) only[go_sem,kf,kr,k5,k0,k1,kn]<;>rfl
  have M7:H' 2000001=some (tc (F.2.1++nv)):=by rw[<-hH];simp+decide (disch:=try exact D6 kf kr k5 k0 k1 kn) only[go_sem,kf,kr,k5,k0,k1,kn]<;>rfl
  have zY:H' 2000020=some ⟨2,43,[],false⟩:=by rw[<-hH];simp+decide (disch:=try exact D6 kf kr k5 k0 k1 kn) only[go_sem,kf,kr,k5,k0,k1,kn]<;>rfl
  have M8:H' 2000021=none:=by rw[<-hH];simp+decide (disch:=try exact D6 kf kr k5 k0 k1 kn) only[go_sem,kf,kr,k5,k0,k1,kn]<;>rfl
  clear hJ hH;refine Sz6 w5 w50 aef zY w10 v10 ?_;rw[H9 (f:=PV.ay) (y:=c) (xs:=F.1) (ty':=82) (fz:=false) (jV aec) bd (by omega) dY.symm (by omega) (by omega) (by omega)];refine Sz4 w5 zY w8 v8 ?_;refine Qb (fun hk=>?_) (fun hk=>?_)
  ·refine Sz2 w6 M9 ?_;refine BS (S.length-(i+1)) (by omega) ⟨i+1,rfl,by omega,?_⟩;rw[FQ,if_pos hk];exact Tz7 w5 w6 zY M8 M7 v1 v2
  ·refine Sz2 w6 M9 ?_;refine BS (S.length-(i+1)) (by omega) ⟨i+1,rfl,by omega,?_⟩;rw[FQ,if_neg hk];exact Tz7 w5 w6 zY M8 M7 v1 v2
 obtain rfl:i=S.length:=by omega
 refine Sz3 j5 g5 k5 ?_;have ot:=uR S S.length;obtain⟨F,EY⟩:∃F,bE S S.length=F:=⟨_,rfl⟩
 rw[EY]at k0 k1 ot⊢;refine W7 63 1 (p:=.aH [.ms 2000000 S.length,.ms 2000001 F.2.1.length]) (D:=PV.frame F.1 F.2.1) bd ?_ (fun l hl=>?_)
 ·refine⟨fun c hc=>?_,?_,?_⟩
  ·simp only[KaF,Kba,or_false]at hc;rcases hc with rfl|rfl<;>rfl
  ·simp[Ac,lK,k0,k1,s9,tc,PV.frame];exact⟨Kaj (by simp[ot]),Kaj (by simp)⟩
  ·simp[wU,oF]
 have z2:FW.bw h l 2=some ⟨2,43,[.agg [.aa,.aa]],false⟩:=by rw[Ok hl (by omega),kr]
 refine Sz1 z2 ?_;refine JN (va ?_);refine Sz0 ?_;have hh:=bT (.agg [.sl 2 (F.1.map PV.ay),.sl 3 (F.2.1.map PV.fvar)]);refine HC ?_ rfl rfl hh (bT _);exact⟨F.1,F.2.1,0,rfl,fun _=>⟨rfl,rfl⟩,fun _=>rfl⟩
def fw(cs:List Cd)(f:cn):List (List Tm)×Int:=
 if cM f cs.length=0 then
  if(cN f.k (fun i=>(bK cs f.args).getD i ([],[])) (rv f.n f.a f.d)).any (fun p=>decide (4000<p.length))then([],4)
  else(cN f.k (fun i=>(bK cs f.args).getD i ([],[])) (rv f.n f.a f.d),0)
 else([],cM f cs.length)
structure u0(cs:List Cd)(f:cn):Prop where
 b:ns f
 l:cs.length<=8
 c:∀c∈cs,CB c
 t:cM f cs.length=0->f.k=6∨f.k=7->∀c∈bK cs f.args,C3 c
 r:cM f cs.length=0->f.k=9->PV.rr f.n f.a f.d=PV.rat (rv f.n f.a f.d)/\rs (rv f.n f.a f.d)<=1000
theorem B6{cs:List Cd}{l:List Int}(h:∀a∈l,0<=a/\a<cs.length):∀c∈bK cs l,c∈cs:=fun c hm=>by obtain⟨a,ha,rfl⟩:=KaL.1 hm;have:=h a ha;rw[Kae,Kaf (show a.toNat<cs.length by omega)];exact Kaq _
theorem uS{cs:List Cd}{vs:List Vr}{f:cn}(h:u0 cs f):Qd Tryz.prog 11 [PV.fG f,PV.frame cs vs] (· = .aO [PV.nK (fw cs f).1,.int .i64 (fw cs f).2]):=by
 have hR:=SM (n:=cs.length) h.b;have hl8:=h.l;have lL:=h.b.l;refine Qf Qh Tryz.func11 rfl X3 (by simp[Df]) fun C hP=>?_;simp only[Df,Zo,Zg,Zm,Zc,Zf,Zl,Zh,Zs,Zi,Zb,Zk,Zn,Zu,Zq,Zr,Zz];refine Sz0 ?_;refine Qa hP hR rfl rfl rfl ?_;by_cases h0:cM f cs.length=0
 ·have hA:f.args.length<=8/\(f.args.length:Int)=b9 f.k/\b9 f.k≠0/\∀a∈f.args,0<=a/\a<cs.length:=by
   obtain⟨k0,k1,k2,k3⟩:=sA h0;refine⟨?_,k1,k0,k2⟩;unfold b9 at k1
   repeat' split at k1
   all_goals omega
  obtain⟨ha8,lL,Fg,s8⟩:=hA;have vE:(bK cs f.args).length=f.args.length:=by simp[bK]
  have cJ:=Vd (k:=f.k) (args:=f.args) (n:=f.n) (a:=f.a) (d:=f.d) (L:=bK cs f.args) Fg (by omega) (fun c hc=>h.c c (B6 s8 c hc)) (h.t h0) (h.r h0);have d0:decide (¬cM f cs.length=0)=false:=by simp[h0]
  refine Sz1 d0 ?_;refine mY 7 900 2 82 (by omega) Tz0 ?_;refine Q3 (by repeat (first|exact Qx|exact Qq|exact Qr|exact Qt|exact Qu|apply Qp|apply Qw|apply Q2|apply Q7|apply Q8|apply Qn)) [(7,7),(9,9),(24,36)] [34,35,900] (fun q J hp=>∃j,q=f.args.length-j/\j<=f.args.length/\J 7= .ms 900 j/\J 24= .int .i64 (j:Nat)/\hp 2=some ⟨5,34,[PV.fG f],false⟩/\hp 3=some ⟨2,43,[PV.frame cs vs],false⟩/\hp 900=some ⟨2,82,((bK cs f.args).take j).map PV.ay,false⟩) f.args.length ?_ ?_
  ·refine⟨0,rfl,by omega,?_⟩;refine Sz0 ?_;rfl
  rintro _ J bu ⟨j,rfl,hj,j7,zH,h2,h3,et⟩;refine Sz1 zH ?_;refine Qb (fun hg=>?_) (fun hg=>?_)
  ·have dq:j<f.args.length:=by omega
   have FG:j<(bK cs f.args).length:=by omega
   obtain⟨m,hm⟩:∃m:Nat,f.args[j]=(m:Int):=⟨f.args[j].toNat,by have:=s8 _ (Kaq dq);omega⟩
   have vY:m<cs.length:=by have:=s8 _ (Kaq dq);omega
   have EV:(bK cs f.args)[j]=cs[m]:=by simp only[bK,KbQ,hm,KbW];rw[Kae,Kaf vY];rfl
   have cE:(bK cs f.args).take (j+1)=(bK cs f.args).take j++[cs[m]]:=by rw[<-EV];exact KaG FG
   have nE:j=((bK cs f.args).take j).length:=by rw[Kav];omega
   generalize hy:cs[m]=y at *
   refine Sz5 zH j7 h3 hm hy ?_;rw[dB (f:=PV.ay) (y:=y) (xs:=(bK cs f.args).take j) (ty':=82) (fz:=false) (Tz1 et) bd (by omega) nE (by omega) (by omega)];refine Sz4 zH j7 h2 h3 ?_;refine Qm (f.args.length-(j+1)) (by omega) ⟨j+1,rfl,by omega,?_⟩;exact Tz5 zH j7 h2 h3 cE
  obtain rfl:j=f.args.length:=by omega
  rw[Kaj (by omega)]at et;refine Sz2 h2 j7 ?_;refine ix hP cJ (by simp+decide (disch:=try exact E1 et) only[go_sem,et,eU,Kay,KaI,KaA,KaK,Kao];rw[Kaj (by rw[Ka3];omega)]) rfl ?_;have hG:fw cs f=if(cN f.k (fun i=>(bK cs f.args).getD i ([],[])) (rv f.n f.a f.d)).any (fun p=>decide (4000<p.length))then([],4)
   else(cN f.k (fun i=>(bK cs f.args).getD i ([],[])) (rv f.n f.a f.d),0):=by unfold fw;rw[if_pos h0]
  have hPl:(cN f.k (fun i=>(bK cs f.args).getD i ([],[])) (rv f.n f.a f.d)).length<=2:=by
   unfold cN;repeat' split
   all_goals simp
  generalize cN f.k (fun i=>(bK cs f.args).getD i ([],[])) (rv f.n f.a f.d)=L at *
  refine Sz0 ?_;refine Q3 (by repeat (first|exact Qx|exact Qq|exact Qr|exact Qt|exact Qu|apply Qp|apply Qw|apply Q2|apply Q7|apply Q8|apply Qn)) [(4,5),(12,12),(42,49)] [] (fun q J hp=>∃i,q=L.length-i/\i<=L.length/\(∀n (h:n<L.length),n<i->¬4000<L[n].length)/\J 42= .int .i64 (i:Nat)) L.length ?_ ?_
  ·refine⟨0,rfl,by omega,by omega,?_⟩;refine Sz0 ?_;rfl
  rintro _ J2 ke ⟨i,rfl,hi,hle,Ga⟩;refine Sz1 Ga ?_;refine Qb (fun hg=>?_) (fun hg=>?_)
  ·have aD:i<L.length:=by omega
   have dy:¬4000<L[i].length->∀n (h:n<L.length),n<i+1->¬4000<L[n].length:=fun h n hn pM=>by
    by_cases e:n=i
    ·subst e;exact h
    ·exact hle n hn (by omega)
   have Fi:4000<L[i].length->L.any (fun p=>decide (4000<p.length))=true:=fun h=>KaP.2 ⟨_,Kaq aD,decide_eq_true h⟩;generalize hx:L[i]=x at *
   refine Sz2 Ga hx ?_;refine Qb (fun h4=>?_) (fun h4=>?_)
   ·refine Sz0 ?_;exact jR (by rw[hG,if_pos (Fi (by omega))]) rfl rfl (p':=PV.nK []) trivial (bT _)
   refine Sz1 Ga ?_;refine Qm (L.length-(i+1)) (by omega) ⟨i+1,rfl,by omega,dy (by omega),?_⟩;exact Tz0
  obtain rfl:i=L.length:=by omega
  have mK:L.any (fun p=>decide (4000<p.length))=false:=by rw[Kcs];intro p hp;obtain⟨n,hn,rfl⟩:=Ka0 hp;simpa using hle n hn hn
  refine Sz0 ?_;exact jR (by rw[hG,mK,if_neg (by simp)]) rfl rfl (bT _) (bT _)
 ·have d0:decide (¬cM f cs.length=0)=true:=decide_eq_true h0;have hG:fw cs f=([],cM f cs.length):=by unfold fw;rw[if_neg h0]
  refine Sz1 d0 ?_;exact jR (by rw[hG]) rfl rfl (p':=PV.nK []) trivial (bT _)
theorem JX{p q r s:List Tm}(hp:PQ 392 14450 6 p)(hq:PQ 392 14450 6 q)(hr:PQ 392 14450 6 r)(hs:PQ 392 14450 6 s):Qd Tryz.prog 73 [PV.ax p,PV.ax q,PV.ax r,PV.ax s] (· =PV.ax (cH (cz p s) (cz r q))):=by
 have c1:=oR hp hs (by omega) (by omega) (by omega);have c2:=oR hr hq (by omega) (by omega) (by omega);have c3:=gg (sO hp hs) (sO hr hq) (by omega) (by omega) (by omega);refine Qf Qh Tryz.func73 rfl X7 (by simp[EJ]) fun C hP=>?_;simp only[EJ,Zo,Zg,Zm,Zc,Zf,Zl,Zh,Zs,Zi,Zb,Zk,Zn,Zu,Zq,Zr,Zz];refine Sz0 ?_
 repeat' first
  |refine eV ?_ ?_
  |refine Qa hP c1 rfl rfl rfl ?_
  |refine Qa hP c2 rfl rfl rfl ?_
  |simp+decide (disch:=try exact D0) only[go_sem]
 all_goals
  refine Qa hP c3 rfl rfl rfl ?_;refine Sz0 ?_;exact Qc rfl rfl
theorem SN{p:List Tm}{a:Rat}{T K E:Nat}(hp:PQ T K E p)(ha:rs a+1<=K)(hT:T<=2^36)(hK:K<=2^33)(hE:E<=2^38):Qd Tryz.prog 74 [PV.ax p,PV.rat a] (· =PV.ax (eC p a)):=
 HX hp.b hp.n.z ha hK hE (by have:=hp.l;omega)
def mT(cs:List Cd):List Int->List Cd->Prop
 |a::l,c::L=>(∃m:Nat,a=(m:Int)/\∃h:m<cs.length,cs[m]=c)/\mT cs l L
 | [],[]=>True
 |_,_=>False
theorem Ho{cs:List Cd}:∀ {l:List Int},(∀a∈l,0<=a/\a<cs.length)->mT cs l (bK cs l)
 | [],_=>trivial
 |a::l,h=>by have h0:=h a Kcq;refine⟨⟨a.toNat,by omega,by omega,?_⟩,Ho fun x hx=>h x (KbA _ hx)⟩;show cs[a.toNat]=cs.getD a.toNat ([],[]);rw[Kae,Kaf (show a.toNat<cs.length by omega)];rfl
theorem ja{cs:List Cd}{m:Nat}{c:Cd}{h:m<cs.length}(e:cs[m]=c):(cs.map PV.ay)[m]? =some (PV.ay c):=by rw[Kap,Kaf h,e];rfl
theorem ik{cs:List Cd}{l:List Int}{c:Cd}{L:List Cd}(h:mT cs l (c::L)):∃(m:Nat)(r:List Int),l=(m:Int)::r/\(∃h:m<cs.length,cs[m]=c)/\mT cs r L:=by
 cases l with
 |nil=>exact h.elim
 |cons a l=>obtain⟨⟨m,rfl,hm⟩,hr⟩:=h;exact⟨m,l,rfl,hm,hr⟩
theorem zG{cs:List Cd}{l:List Int}(h:mT cs l []):l=[]:=by
 cases l with
 |nil=>rfl
 |cons a l=>exact h.elim
theorem ix2{cs:List Cd}{l:List Int}{x y:Cd}(h:mT cs l [x,y]):∃m0 m1:Nat,l=[(m0:Int),(m1:Int)]/\(∃h:m0<cs.length,cs[m0]=x)/\(∃h:m1<cs.length,cs[m1]=y):=by obtain⟨m0,r0,rfl,h0,h⟩:=ik h;obtain⟨m1,r1,rfl,h1,h⟩:=ik h;obtain rfl:=zG h;exact⟨m0,m1,rfl,h0,h1⟩
theorem MK{cs:List Cd}{l:List Int}{x y z:Cd}(h:mT cs l [x,y,z]):∃m0 m1 m2:Nat,l=[(m0:Int),(m1:Int),(m2:Int)]/\(∃h:m0<cs.length,cs[m0]=x)/\(∃h:m1<cs.length,cs[m1]=y)/\(∃h:m2<cs.length,cs[m2]=z):=by obtain⟨m0,r0,rfl,h0,h⟩:=ik h;obtain⟨m1,r1,rfl,h1,h⟩:=ik h;obtain⟨m2,r2,rfl,h2,h⟩:=ik h;obtain rfl:=zG h;exact⟨m0,m1,m2,rfl,h0,h1,h2⟩
theorem wz{cs:List Cd}{l:List Int}{x y z w:Cd}(h:mT cs l [x,y,z,w]):∃m0 m1 m2 m3:Nat,l=[(m0:Int),(m1:Int),(m2:Int),(m3:Int)]/\(∃h:m0<cs.length,cs[m0]=x)/\(∃h:m1<cs.length,cs[m1]=y)/\(∃h:m2<cs.length,cs[m2]=z)/\(∃h:m3<cs.length,cs[m3]=w):=by obtain⟨m0,r0,rfl,h0,h⟩:=ik h;obtain⟨m1,r1,rfl,h1,h⟩:=ik h;obtain⟨m2,r2,rfl,h2,h⟩:=ik h;obtain⟨m3,r3,rfl,h3,h⟩:=ik h;obtain rfl:=zG h;exact⟨m0,m1,m2,m3,rfl,h0,h1,h2,h3⟩
theorem ix8{cs:List Cd}{l:List Int}{x y z w s t u v:Cd}(h:mT cs l [x,y,z,w,s,t,u,v]):∃m0 m1 m2 m3 m4 m5 m6 m7:Nat,l=[(m0:Int),(m1:Int),(m2:Int),(m3:Int),(m4:Int),(m5:Int),(m6:Int),(m7:Int)]/\(∃h:m0<cs.length,cs[m0]=x)/\(∃h:m1<cs.length,cs[m1]=y)/\(∃h:m2<cs.length,cs[m2]=z)/\(∃h:m3<cs.length,cs[m3]=w)/\(∃h:m4<cs.length,cs[m4]=s)/\(∃h:m5<cs.length,cs[m5]=t)/\(∃h:m6<cs.length,cs[m6]=u)/\(∃h:m7<cs.length,cs[m7]=v):=by obtain⟨m0,r0,rfl,h0,h⟩:=ik h;obtain⟨m1,r1,rfl,h1,h⟩:=ik h;obtain⟨m2,r2,rfl,h2,h⟩:=ik h;obtain⟨m3,r3,rfl,h3,h⟩:=ik h;obtain⟨m4,r4,rfl,h4,h⟩:=ik h;obtain⟨m5,r5,rfl,h5,h⟩:=ik h;obtain⟨m6,r6,rfl,h6,h⟩:=ik h;obtain⟨m7,r7,rfl,h7,h⟩:=ik h;obtain rfl:=zG h;exact⟨m0,m1,m2,m3,m4,m5,m6,m7,rfl,h0,h1,h2,h3,h4,h5,h6,h7⟩
theorem QB{k:Int}{args:List Int}{n:Bool}{a d:List Nat}{cs L:List Cd}(hk:b9 k≠0)(hl:(L.length:Int)=b9 k)(hI:mT cs args L)(hc:∀c∈L,CB c)(h3:k=6∨k=7->∀c∈L,C3 c)(hr:k=9->PV.rr n a d=PV.rat (rv n a d)/\rs (rv n a d)<=1000):
  Qd Tryz.prog 31 [PV.fG ⟨k,args,n,a,d⟩,.sl 2 (cs.map PV.ay)] (· =PV.nK (cN k (fun i=>L.getD i ([],[])) (rv n a d))):=by
 have Fo:k=1∨k=2∨k=3∨k=4∨k=5∨k=6∨k=7∨k=8∨k=9:=by
  rcases ub k with h|h
  ·exact h
  ·exfalso;apply hk;unfold b9;repeat' split
   all_goals omega
 have e2:∀L:List Cd,L.length=2->∃x y,L=[x,y]:=fun L h=>by
  match L,h with
  | [x,y],_=>exact⟨x,y,rfl⟩
 have e3:∀L:List Cd,L.length=3->∃x y z,L=[x,y,z]:=fun L h=>by
  match L,h with
  | [x,y,z],_=>exact⟨x,y,z,rfl⟩
 have e4:∀L:List Cd,L.length=4->∃x y z w,L=[x,y,z,w]:=fun L h=>by
  match L,h with
  | [x,y,z,w],_=>exact⟨x,y,z,w,rfl⟩
 have e8:∀L:List Cd,L.length=8->∃x y z w s t u v,L=[x,y,z,w,s,t,u,v]:=fun L h=>by
  match L,h with
  | [x,y,z,w,s,t,u,v],_=>exact⟨x,y,z,w,s,t,u,v,rfl⟩
 rcases Fo with rfl|rfl|rfl|rfl|rfl|rfl|rfl|rfl|rfl
 ·obtain⟨x,y,z,rfl⟩:=e3 L (by simp[b9]at hl;omega);have hx:=hc x (by simp);have hy:=hc y (by simp);have hz:=hc z (by simp);obtain⟨m0,m1,m2,rfl,⟨b0,i0⟩,⟨b1,i1⟩,⟨b2,i2⟩⟩:=MK hI;have c1:=rW hx hy hx hz;show Qd _ _ [.agg [.int .i64 1,.sl 1 [.int .i64 (m0:Nat),.int .i64 (m1:Nat),.int .i64 (m2:Nat)],.bool n,PV.nat a,PV.nat d],_] _;refine Qf Qh Tryz.func31 rfl nU (by simp[gp]) fun C hP=>?_;simp only[gp,Zo,Zg,Zm,Zc,Zf,Zl,Zh,Zs,Zi,Zb,Zk,Zn,Zu,Zq,Zr,Zz];refine Sz3 i0 i1 i2 ?_
  repeat' first
   |refine eV ?_ ?_
   |refine Qa hP c1 rfl rfl rfl ?_
   |simp+decide (disch:=try exact D3 i0 i1 i2) only[go_sem,i0,i1,i2]
  all_goals exact eX bd (by simp[cN,kH])
 ·obtain⟨x,y,z,w,rfl⟩:=e4 L (by simp[b9]at hl;omega);have hx:=hc x (by simp);have hy:=hc y (by simp);have hz:=hc z (by simp);have hw:=hc w (by simp);obtain⟨m0,m1,m2,m3,rfl,⟨b0,i0⟩,⟨b1,i1⟩,⟨b2,i2⟩,⟨b3,i3⟩⟩:=wz hI;have c1:=rW hx hy hz hw;show Qd _ _ [.agg [.int .i64 2,.sl 1 [.int .i64 (m0:Nat),.int .i64 (m1:Nat),.int .i64 (m2:Nat),.int .i64 (m3:Nat)],.bool n,PV.nat a,PV.nat d],_] _;refine Qf Qh Tryz.func31 rfl nU (by simp[gp]) fun C hP=>?_;simp only[gp,Zo,Zg,Zm,Zc,Zf,Zl,Zh,Zs,Zi,Zb,Zk,Zn,Zu,Zq,Zr,Zz];refine Sz4 i0 i1 i2 i3 ?_
  repeat' first
   |refine eV ?_ ?_
   |refine Qa hP c1 rfl rfl rfl ?_
   |simp+decide (disch:=try exact D4 i0 i1 i2 i3) only[go_sem,i0,i1,i2,i3]
  all_goals exact eX bd (by simp[cN,kH])
 ·obtain⟨x,y,z,w,rfl⟩:=e4 L (by simp[b9]at hl;omega);have hx:=hc x (by simp);have hy:=hc y (by simp);have hz:=hc z (by simp);have hw:=hc w (by simp);obtain⟨m0,m1,m2,m3,rfl,⟨b0,i0⟩,⟨b1,i1⟩,⟨b2,i2⟩,⟨b3,i3⟩⟩:=wz hI;have c1:=sv hx hy hz hw;show Qd _ _ [.agg [.int .i64 3,.sl 1 [.int .i64 (m0:Nat),.int .i64 (m1:Nat),.int .i64 (m2:Nat),.int .i64 (m3:Nat)],.bool n,PV.nat a,PV.nat d],_] _;refine Qf Qh Tryz.func31 rfl nU (by simp[gp]) fun C hP=>?_;simp only[gp,Zo,Zg,Zm,Zc,Zf,Zl,Zh,Zs,Zi,Zb,Zk,Zn,Zu,Zq,Zr,Zz];refine Sz4 i0 i1 i2 i3 ?_
  repeat' first
   |refine eV ?_ ?_
   |refine Qa hP c1 rfl rfl rfl ?_
   |simp+decide (disch:=try exact D4 i0 i1 i2 i3) only[go_sem,i0,i1,i2,i3]
  all_goals exact eX bd (by simp[cN,kH])
 ·obtain⟨x,y,z,w,rfl⟩:=e4 L (by simp[b9]at hl;omega);have hx:=hc x (by simp);have hy:=hc y (by simp);have hz:=hc z (by simp);have hw:=hc w (by simp);obtain⟨m0,m1,m2,m3,rfl,⟨b0,i0⟩,⟨b1,i1⟩,⟨b2,i2⟩,⟨b3,i3⟩⟩:=wz hI;have c1:=xV hx hy;have c2:=xV hz hw;have c3:=gg (kC hx hy hx hy) (kC hz hw hz hw) (by omega) (by omega) (by omega);show Qd _ _ [.agg [.int .i64 4,.sl 1 [.int .i64 (m0:Nat),.int .i64 (m1:Nat),.int .i64 (m2:Nat),.int .i64 (m3:Nat)],.bool n,PV.nat a,PV.nat d],_] _;refine Qf Qh Tryz.func31 rfl nU (by simp[gp]) fun C hP=>?_;simp only[gp,Zo,Zg,Zm,Zc,Zf,Zl,Zh,Zs,Zi,Zb,Zk,Zn,Zu,Zq,Zr,Zz];refine Sz4 i0 i1 i2 i3 ?_
  repeat' first
   |refine eV ?_ ?_
   |refine Qa hP c1 rfl rfl rfl ?_
   |refine Qa hP c2 rfl rfl rfl ?_
   |refine Qa hP c3 rfl rfl rfl ?_
   |simp+decide (disch:=try exact D4 i0 i1 i2 i3) only[go_sem,i0,i1,i2,i3]
  all_goals exact eX bd (by simp[cN,kH])
 ·obtain⟨x,y,z,rfl⟩:=e3 L (by simp[b9]at hl;omega);have hx:=hc x (by simp);have hy:=hc y (by simp);have hz:=hc z (by simp);obtain⟨m0,m1,m2,rfl,⟨b0,i0⟩,⟨b1,i1⟩,⟨b2,i2⟩⟩:=MK hI;have p1:=hx.x.add hx.x;have p2:=hx.y.add hx.y;have p3:=hy.x.add hz.x;have p4:=hy.y.add hz.y;have c1:=qq hx.x hx.x (by omega) (by omega) (by omega);have c2:=qq hx.y hx.y (by omega) (by omega) (by omega);have c3:=qq hy.x hz.x (by omega) (by omega) (by omega);have c4:=qq hy.y hz.y (by omega) (by omega) (by omega);have c5:=gg p3 p1 (by omega) (by omega) (by omega);have c6:=gg p4 p2 (by omega) (by omega) (by omega);show Qd _ _ [.agg [.int .i64 5,.sl 1 [.int .i64 (m0:Nat),.int .i64 (m1:Nat),.int .i64 (m2:Nat)],.bool n,PV.nat a,PV.nat d],_] _;refine xx Qh Tryz.func31 rfl (AR nU) (by simp[gp]) fun C hP hN=>?_;simp only[gp,Zo,Zg,Zm,Zc,Zf,Zl,Zh,Zs,Zi,Zb,Zk,Zn,Zu,Zq,Zr,Zz];refine Sz0 ?_;refine CR uX yA (by rw[hP];exact Qh) (by rw[hP,hN];exact P6) P7 (by decide) (cZ (yD cs [.int .i64 (m0:Nat),.int .i64 (m1:Nat),.int .i64 (m2:Nat)]) (CW cs [.int .i64 (m0:Nat),.int .i64 (m1:Nat),.int .i64 (m2:Nat)] m0 m1 m2 x y z) (sB x y z)) ?_ (SJ (args:=[.int .i64 (m0:Nat),.int .i64 (m1:Nat),.int .i64 (m2:Nat)]) rfl (ja i0) rfl (ja i1) rfl (ja i2)) (fun l fr hp cx I=>?_)
  ·refine⟨fun e he=>?_,fun e he h=>(by cases h),fun e he h=>(by cases h),fun e he h=>(by cases h)⟩;simp only[yD,KaF,Kba,or_false]at he;rcases he with rfl|rfl
   ·exact Tz0
   ·simp+decide (disch:=try exact D0) only[go_sem]<;>rfl
  refine Gl (I.fin (fun e he=>?_) (fun e he=>?_)) (Cn ?_)
  ·simp only[sB,KaF,Kba,or_false]at he;rcases he with rfl|rfl|rfl
   all_goals exact cx _ (by simp[uX,uY])
  ·simp only[sB,KaF,Kba,or_false]at he;rcases he with rfl|rfl|rfl
   ·exact I.at (s:=6) rfl (cx 18 (by decide))
   ·exact I.at (s:=7) rfl (cx 19 (by decide))
   ·exact I.at (s:=8) rfl (cx 20 (by decide))
  simp only[oe,pN,sB];refine Sz0 ?_
  repeat' first
   |refine eV ?_ ?_
   |refine Qa hP c1 rfl rfl rfl ?_
   |refine Qa hP c2 rfl rfl rfl ?_
   |refine Qa hP c3 rfl rfl rfl ?_
   |refine Qa hP c4 rfl rfl rfl ?_
   |refine Qa hP c5 rfl rfl rfl ?_
   |refine Qa hP c6 rfl rfl rfl ?_
   |simp+decide (disch:=try exact D0) only[go_sem]
  all_goals
   refine yf (Wk.refl _ _) ?_;refine Sz0 ?_;exact eX bd (by simp[cN,kH])
 ·obtain⟨x,y,z,w,rfl⟩:=e4 L (by simp[b9]at hl;omega);have hx:=h3 (.inl rfl) x (by simp);have hy:=h3 (.inl rfl) y (by simp);have hz:=h3 (.inl rfl) z (by simp);have hw:=h3 (.inl rfl) w (by simp);obtain⟨m0,m1,m2,m3,rfl,⟨b0,i0⟩,⟨b1,i1⟩,⟨b2,i2⟩,⟨b3,i3⟩⟩:=wz hI;have c1:=rW hy.cb hx.cb hy.cb hz.cb;have c2:=sv hy.cb hx.cb hy.cb hz.cb;have c3:=rW hw.cb hx.cb hw.cb hz.cb;have c4:=sv hw.cb hx.cb hw.cb hz.cb;have c5:=JX (nb hy hx hy hz) (nk hy hx hy hz) (nb hw hx hw hz) (nk hw hx hw hz);show Qd _ _ [.agg [.int .i64 6,.sl 1 [.int .i64 (m0:Nat),.int .i64 (m1:Nat),.int .i64 (m2:Nat),.int .i64 (m3:Nat)],.bool n,PV.nat a,PV.nat d],_] _;refine xx Qh Tryz.func31 rfl (AR nU) (by simp[gp]) fun C hP hN=>?_;simp only[gp,Zo,Zg,Zm,Zc,Zf,Zl,Zh,Zs,Zi,Zb,Zk,Zn,Zu,Zq,Zr,Zz];refine Sz0 ?_;refine CR uY yB (by rw[hP];exact Qh) (by rw[hP,hN];exact P8) P9 (by decide) (cZ (yw cs [.int .i64 (m0:Nat),.int .i64 (m1:Nat),.int .i64 (m2:Nat),.int .i64 (m3:Nat)]) (CX cs [.int .i64 (m0:Nat),.int .i64 (m1:Nat),.int .i64 (m2:Nat),.int .i64 (m3:Nat)] m0 m1 m2 m3 x y z w) (sE x y z w)) ?_ (SK (args:=[.int .i64 (m0:Nat),.int .i64 (m1:Nat),.int .i64 (m2:Nat),.int .i64 (m3:Nat)]) rfl (ja i0) rfl (ja i1) rfl (ja i2) rfl (ja i3)) (fun l fr hp cx I=>?_)
  ·refine⟨fun e he=>?_,fun e he h=>(by cases h),fun e he h=>(by cases h),fun e he h=>(by cases h)⟩;simp only[yw,KaF,Kba,or_false]at he;rcases he with rfl|rfl
   ·exact Tz0
   ·simp+decide (disch:=try exact D0) only[go_sem]<;>rfl
  refine Gl (I.fin (fun e he=>?_) (fun e he=>?_)) (Cn ?_)
  ·simp only[sE,KaF,Kba,or_false]at he;rcases he with rfl|rfl|rfl|rfl
   all_goals exact cx _ (by simp[uX,uY])
  ·simp only[sE,KaF,Kba,or_false]at he;rcases he with rfl|rfl|rfl|rfl
   ·exact I.at (s:=9) rfl (cx 24 (by decide))
   ·exact I.at (s:=10) rfl (cx 25 (by decide))
   ·exact I.at (s:=11) rfl (cx 26 (by decide))
   ·exact I.at (s:=12) rfl (cx 27 (by decide))
  simp only[oe,pN,sE];refine Sz0 ?_
  repeat' first
   |refine eV ?_ ?_
   |refine Qa hP c1 rfl rfl rfl ?_
   |refine Qa hP c2 rfl rfl rfl ?_
   |refine Qa hP c3 rfl rfl rfl ?_
   |refine Qa hP c4 rfl rfl rfl ?_
   |refine Qa hP c5 rfl rfl rfl ?_
   |simp+decide (disch:=try exact D0) only[go_sem]
  all_goals
   refine yf (Wk.refl _ _) ?_;refine Sz0 ?_;exact eX bd (by simp[cN,kH])
 ·obtain⟨x,y,z,w,s,t,u,v,rfl⟩:=e8 L (by simp[b9]at hl;omega);have hx:=h3 (.inr rfl) x (by simp);have hy:=h3 (.inr rfl) y (by simp);have hz:=h3 (.inr rfl) z (by simp);have hw:=h3 (.inr rfl) w (by simp);have hs:=h3 (.inr rfl) s (by simp);have ht:=h3 (.inr rfl) t (by simp);have hu:=h3 (.inr rfl) u (by simp);have hv:=h3 (.inr rfl) v (by simp);obtain⟨m0,m1,m2,m3,m4,m5,m6,m7,rfl,⟨b0,i0⟩,⟨b1,i1⟩,⟨b2,i2⟩,⟨b3,i3⟩,⟨b4,i4⟩,⟨b5,i5⟩,⟨b6,i6⟩,⟨b7,i7⟩⟩:=ix8 hI;have c1:=rW hx.cb hy.cb hz.cb hw.cb;have c2:=sv hx.cb hy.cb hz.cb hw.cb;have c3:=rW hs.cb ht.cb hu.cb hv.cb;have c4:=sv hs.cb ht.cb hu.cb hv.cb;have c5:=JX (nb hx hy hz hw) (nk hx hy hz hw) (nb hs ht hu hv) (nk hs ht hu hv);show Qd _ _ [.agg [.int .i64 7,.sl 1 [.int .i64 (m0:Nat),.int .i64 (m1:Nat),.int .i64 (m2:Nat),.int .i64 (m3:Nat),.int .i64 (m4:Nat),.int .i64 (m5:Nat),.int .i64 (m6:Nat),.int .i64 (m7:Nat)],.bool n,PV.nat a,PV.nat d],_] _;refine xx Qh Tryz.func31 rfl (AR nU) (by simp[gp]) fun C hP hN=>?_;simp only[gp,Zo,Zg,Zm,Zc,Zf,Zl,Zh,Zs,Zi,Zb,Zk,Zn,Zu,Zq,Zr,Zz];refine Sz0 ?_;refine CR CS yC (by rw[hP];exact Qh) (by rw[hP,hN];exact P') QA (by decide) (cZ (yx cs [.int .i64 (m0:Nat),.int .i64 (m1:Nat),.int .i64 (m2:Nat),.int .i64 (m3:Nat),.int .i64 (m4:Nat),.int .i64 (m5:Nat),.int .i64 (m6:Nat),.int .i64 (m7:Nat)]) (CY cs [.int .i64 (m0:Nat),.int .i64 (m1:Nat),.int .i64 (m2:Nat),.int .i64 (m3:Nat),.int .i64 (m4:Nat),.int .i64 (m5:Nat),.int .i64 (m6:Nat),.int .i64 (m7:Nat)] m0 m1 m2 m3 m4 m5 m6 m7 x y z w s t u v _ _ _ _ _) (CZ x y z w s t u v _ _ _ _ _)) ?_ (SL (args:=[.int .i64 (m0:Nat),.int .i64 (m1:Nat),.int .i64 (m2:Nat),.int .i64 (m3:Nat),.int .i64 (m4:Nat),.int .i64 (m5:Nat),.int .i64 (m6:Nat),.int .i64 (m7:Nat)]) rfl (ja i0) rfl (ja i1) rfl (ja i2) rfl (ja i3) rfl (ja i4) rfl (ja i5) rfl (ja i6) rfl (ja i7) hP c1 c2 c3 c4 c5) (fun l fr hp cx I=>?_)
  ·refine⟨fun e he=>?_,fun e he h=>(by cases h),fun e he h=>(by cases h),fun e he h=>(by cases h)⟩;simp only[yx,KaF,Kba,or_false]at he;rcases he with rfl|rfl
   ·exact Tz0
   ·simp+decide (disch:=try exact D0) only[go_sem]<;>rfl
  refine Gl (Yv (s:=4) (β:=325) (n:=1) (I.at (s:=4) rfl (cx 102 (by decide))) (I.s _ (KaB.2 rfl) (cx 101 (by decide)))) (Cn ?_);refine Sz0 ?_;refine yf (Wk.refl _ _) ?_;refine Sz0 ?_;exact eX bd (by simp[cN,kH])
 ·obtain⟨x,y,rfl⟩:=e2 L (by simp[b9]at hl;omega);have hx:=hc x (by simp);have hy:=hc y (by simp);obtain⟨m0,m1,rfl,⟨b0,i0⟩,⟨b1,i1⟩⟩:=ix2 hI;have c1:=gg hx.x hy.x (by omega) (by omega) (by omega);have c2:=gg hx.y hy.y (by omega) (by omega) (by omega);show Qd _ _ [.agg [.int .i64 8,.sl 1 [.int .i64 (m0:Nat),.int .i64 (m1:Nat)],.bool n,PV.nat a,PV.nat d],_] _;refine Qf Qh Tryz.func31 rfl nU (by simp[gp]) fun C hP=>?_;simp only[gp,Zo,Zg,Zm,Zc,Zf,Zl,Zh,Zs,Zi,Zb,Zk,Zn,Zu,Zq,Zr,Zz];refine Sz2 i0 i1 ?_
  repeat' first
   |refine eV ?_ ?_
   |refine Qa hP c1 rfl rfl rfl ?_
   |refine Qa hP c2 rfl rfl rfl ?_
   |simp+decide (disch:=try exact D2 i0 i1) only[go_sem,i0,i1]
  all_goals exact eX bd (by simp[cN,kH])
 ·obtain⟨x,y,z,w,rfl⟩:=e4 L (by simp[b9]at hl;omega);have hx:=hc x (by simp);have hy:=hc y (by simp);have hz:=hc z (by simp);have hw:=hc w (by simp);obtain⟨m0,m1,m2,m3,rfl,⟨b0,i0⟩,⟨b1,i1⟩,⟨b2,i2⟩,⟨b3,i3⟩⟩:=wz hI;obtain⟨kV,iM⟩:=hr rfl;have c1:=xV hx hy;have c2:=xV hz hw;have c3:=SN (a:=rv n a d) (kC hz hw hz hw) (by omega) (by omega) (by omega) (by omega);rw[<-kV]at c3;have c4:=gg ((kC hx hy hx hy).mono (by omega) (by omega) (by omega)) ((kC hz hw hz hw).scale (a:=rv n a d) (L:=2^20) (by omega)) (T:=524288) (K:=2^29+4098+2^20) (E:=200) (by omega) (by omega) (by omega);show Qd _ _ [.agg [.int .i64 9,.sl 1 [.int .i64 (m0:Nat),.int .i64 (m1:Nat),.int .i64 (m2:Nat),.int .i64 (m3:Nat)],.bool n,PV.nat a,PV.nat d],_] _;refine Qf Qh Tryz.func31 rfl nU (by simp[gp]) fun C hP=>?_;simp only[gp,Zo,Zg,Zm,Zc,Zf,Zl,Zh,Zs,Zi,Zb,Zk,Zn,Zu,Zq,Zr,Zz];refine Sz4 i0 i1 i2 i3 ?_
  repeat' first
   |refine eV ?_ ?_
   |refine Qa hP c1 rfl rfl rfl ?_
   |refine Qa hP c2 rfl rfl rfl ?_
   |refine Qa hP c3 rfl rfl rfl ?_
   |refine Qa hP c4 rfl rfl rfl ?_
   |simp+decide (disch:=try exact D4 i0 i1 i2 i3) only[go_sem,i0,i1,i2,i3]
  all_goals exact eX bd (by simp[cN,kH])
theorem JY{cs:List Cd}{vs:List Vr}{f:cn}(h:u0 cs f):Qd Tryz.prog 12 [PV.fG f,PV.frame cs vs] (· = .aO [PV.nK (fw cs f).1,.int .i64 (fw cs f).2]):=by
 have hR:=BI (n:=cs.length) h.b;have hl8:=h.l;have lL:=h.b.l;refine Qf Qh Tryz.func12 rfl X8 (by simp[Dl]) fun C hP=>?_;simp only[Dl,Zo,Zg,Zm,Zc,Zf,Zl,Zh,Zs,Zi,Zb,Zk,Zn,Zu,Zq,Zr,Zz];refine Sz0 ?_;refine Qa hP hR rfl rfl rfl ?_;by_cases h0:cM f cs.length=0
 ·have hA:f.args.length<=8/\(f.args.length:Int)=b9 f.k/\b9 f.k≠0/\∀a∈f.args,0<=a/\a<cs.length:=by
   obtain⟨k0,k1,k2,k3⟩:=sA h0;refine⟨?_,k1,k0,k2⟩;unfold b9 at k1
   repeat' split at k1
   all_goals omega
  obtain⟨ha8,lL,Fg,s8⟩:=hA;have vE:(bK cs f.args).length=f.args.length:=by simp[bK]
  have cJ:=QB (k:=f.k) (args:=f.args) (n:=f.n) (a:=f.a) (d:=f.d) (L:=bK cs f.args) Fg (by omega) (Ho s8) (fun c hc=>h.c c (B6 s8 c hc)) (h.t h0) (h.r h0);have d0:decide (¬cM f cs.length=0)=false:=by simp[h0]
  refine Sz1 d0 ?_;refine Qa hP cJ rfl rfl rfl ?_;have hG:fw cs f=if(cN f.k (fun i=>(bK cs f.args).getD i ([],[])) (rv f.n f.a f.d)).any (fun p=>decide (4000<p.length))then([],4)
   else(cN f.k (fun i=>(bK cs f.args).getD i ([],[])) (rv f.n f.a f.d),0):=by unfold fw;rw[if_pos h0]
  have hPl:(cN f.k (fun i=>(bK cs f.args).getD i ([],[])) (rv f.n f.a f.d)).length<=2:=by
   unfold cN;repeat' split
   all_goals simp
  generalize cN f.k (fun i=>(bK cs f.args).getD i ([],[])) (rv f.n f.a f.d)=L at *
  refine Sz0 ?_;refine Q3 (by repeat (first|exact Qx|exact Qq|exact Qr|exact Qt|exact Qu|apply Qp|apply Qw|apply Q2|apply Q7|apply Q8|apply Qn)) [(4,5),(8,8),(21,32)] [] (fun q J hp=>∃i,q=L.length-i/\i<=L.length/\(∀n (h:n<L.length),n<i->¬4000<L[n].length)/\J 8= .int .i64 (i:Nat)) L.length ?_ ?_
  ·refine⟨0,rfl,by omega,by omega,?_⟩;refine Sz0 ?_;rfl
  rintro _ J2 ke ⟨i,rfl,hi,hle,j8⟩;refine Sz1 j8 ?_;refine Qb (fun hg=>?_) (fun hg=>?_)
  ·have aD:i<L.length:=by omega
   have dy:¬4000<L[i].length->∀n (h:n<L.length),n<i+1->¬4000<L[n].length:=fun h n hn pM=>by
    by_cases e:n=i
    ·subst e;exact h
    ·exact hle n hn (by omega)
   have Fi:4000<L[i].length->L.any (fun p=>decide (4000<p.length))=true:=fun h=>KaP.2 ⟨_,Kaq aD,decide_eq_true h⟩;generalize hx:L[i]=x at *
   refine Sz2 j8 hx ?_;refine Qb (fun h4=>?_) (fun h4=>?_)
   ·refine Sz0 ?_;exact jR (by rw[hG,if_pos (Fi (by omega))]) rfl rfl (p':=PV.nK []) trivial (bT _)
   refine Sz1 j8 ?_;refine Qm (L.length-(i+1)) (by omega) ⟨i+1,rfl,by omega,dy (by omega),?_⟩;exact Tz0
  obtain rfl:i=L.length:=by omega
  have mK:L.any (fun p=>decide (4000<p.length))=false:=by rw[Kcs];intro p hp;obtain⟨n,hn,rfl⟩:=Ka0 hp;simpa using hle n hn hn
  refine Sz0 ?_;exact jR (by rw[hG,mK,if_neg (by simp)]) rfl rfl (bT _) (bT _)
 ·have d0:decide (¬cM f cs.length=0)=true:=decide_eq_true h0;have hG:fw cs f=([],cM f cs.length):=by unfold fw;rw[if_neg h0]
  refine Sz1 d0 ?_;exact jR (by rw[hG]) rfl rfl (p':=PV.nK []) trivial (bT _)
end Go.Proofs.YtonjiljafkiikaaGreat
namespace Go.FW
open Go
mutual
inductive tL:PV->PV->Prop
 |rfl (p:PV):tL p p
 |nil (e:Nat):tL .aa (.sl e [])
 |sl (e:Nat) {xs ys:List PV} (h:vq xs ys):tL (.sl e xs) (.sl e ys)
inductive qB:List PV->List PV->Prop
 |nil:qB [] []
 |cons {p q:PV} {ps qs:List PV} (h:tL p q) (t:qB ps qs):qB (p::ps) (q::qs)
inductive vq:List PV->List PV->Prop
 |nil:vq [] []
 |cons {x y:PV} {xs ys:List PV} (h:qB x.cells y.cells) (t:vq xs ys):vq (x::xs) (y::ys)
end
mutual
theorem Qo.leD{w:World}{X:Nat->Prop}:∀ {p q:PV},tL p q->∀ {v:Value},Qo w X p v->Qo w X q v
 |_,_,.rfl p,v,h=>h
 |_,_,.nil e,v,h=>by cases h;exact .gS _ _ _ (KbG _)
 | _,_,.sl e (xs:=xs) (ys:=ys) ht,v,h=>by
  obtain⟨h1,h2⟩:=KL ht;cases h with
  |gS _ ad cap hc=>have:ys=[]:=Kat.1 (by simpa using h1);subst this;exact .gS _ _ _ hc
  | sl _ _ b off cap vs hX hb kR hc he hv hr=>
   rw[<-h1]at kR hv⊢;refine .sl e ys b off cap vs hX hb kR hc (fun i y hy=>?_) hv (fun i y hy j z hz=>?_)
   ·obtain⟨x,hx,hle,_⟩:=h2 w X i y hy;rw[hle];exact he i x hx
   ·obtain⟨x,hx,_,hle⟩:=h2 w X i y hy;obtain⟨u,hu,acE⟩:=hle j z hz;exact acE _ (hr i x hx j u hu)
theorem Ck:∀ {ps qs:List PV},qB ps qs->∀(w:World)(X:Nat->Prop),qs.length=ps.length/\∀(i:Nat)(q:PV),qs[i]? =some q->∃p,ps[i]? =some p/\∀v,Qo w X p v->Qo w X q v
 |_,_,.nil,w,X=>⟨rfl,by simp⟩
 |_,_,.cons (p:=p) (q:=q) h t,w,X=>by
  have k:=fun v=>Qo.leD (w:=w) (X:=X) h (v:=v);obtain⟨h1,h2⟩:=Ck t w X;refine⟨by simp[h1],fun i x hx=>?_⟩;cases i with
  |zero=>simp at hx;subst hx;exact⟨p,rfl,k⟩
  |succ i=>simp at hx;simpa using h2 i x hx
theorem KL:∀ {xs ys:List PV},vq xs ys->ys.length=xs.length/\∀(w:World)(X:Nat->Prop)(i:Nat)(y:PV),ys[i]? =some y->∃x,xs[i]? =some x/\y.cells.length=x.cells.length/\∀(j:Nat)(z:PV),y.cells[j]? =some z->∃u,x.cells[j]? =some u/\∀v,Qo w X u v->Qo w X z v
 |_,_,.nil=>⟨rfl,by simp⟩
 |_,_,.cons (x:=x) (y:=y) h t=>by
  have k:=fun(w:World) (X:Nat->Prop)=>Ck h w X;obtain⟨h1,h2⟩:=KL t;refine⟨by simp[h1],fun w X i z hz=>?_⟩;cases i with
  |zero=>simp at hz;subst hz;exact⟨x,rfl,(k w X).1,(k w X).2⟩
  |succ i=>simp at hz;simpa using h2 w X i z hz
end
theorem Qd.oG{P:Program}{f:FuncId}{ps qs:List PV}{ls bs:List PV}{R:PV->Prop}(h:Qd P f (ls++ .agg qs::bs) R)(hl:qB ps qs):Qd P f (ls++ .agg ps::bs) R:=by
 refine⟨h.1,fun w X aU g1 g2 g3=>h.2 w X aU g1 (by simpa using g2) (fun i x hx=>?_)⟩;by_cases hi:i=ls.length
 ·subst hi;rw[Kbd (Kag _)]at hx;simp at hx;subst hx;obtain⟨vs,e,k1,k2⟩:=g3 ls.length (.agg ps) (by rw[Kbd (Kag _)];simp);obtain⟨h1,h2⟩:=Ck hl w X;refine⟨vs,e,by omega,fun j x hx=>?_⟩;obtain⟨p,hp,hle⟩:=h2 j x hx;exact hle _ (k2 j p hp)
 ·refine g3 i x ?_;rcases Kcn i ls.length with an|fD
  ·rw[KbM an]at hx ⊢;exact hx
  ·rw[Kbd fD]at hx⊢;obtain⟨j,hj⟩:∃j,i-ls.length=j+1:=⟨i-ls.length-1,by omega⟩
   rw[hj]at hx ⊢;exact hx
end Go.FW
