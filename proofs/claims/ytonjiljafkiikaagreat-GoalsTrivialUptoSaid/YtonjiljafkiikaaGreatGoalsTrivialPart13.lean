/- Part 13 of the proof of GoalsTrivial: W6, CA, A1, K19, K20, K21, K15, K16, K17, K22, K25, K26, FwUE, FwUF, FwUG, FwYI. Own lemmas; no conditions. -/
import Derived.Test.YtonjiljafkiikaaGreatGoalsTrivialPart12
set_option maxHeartbeats 1000000
set_option linter.unusedSimpArgs false
set_option linter.unusedVariables false
set_option linter.unnecessarySimpa false
set_option maxRecDepth 100000
namespace Go.Proofs.YtonjiljafkiikaaGreat
open Go Go.FW
theorem Raw.not{n:Bool}{a d:List Nat}{k:Nat}(h:Raw k n a d):Raw k (!n) a d:=⟨h.la,h.ld,h.sa,h.sd,h.k1⟩
theorem Lp{x:Int}(h1: -9223372036854775808<=x)(h2:x<=9223372036854775807):Qd Tryz.prog 65 [.int .i64 x] (· =PV.rat (x:Rat)):=Ib h1 h2
abbrev C3(c:Cd):Prop:=CQ 7 128 3 c
theorem C3.cb{c:Cd}(h:C3 c):CB c:=h.mono (by omega) (by omega) (by omega)
theorem xb{a b c d:Cd}(ha:C3 a)(hb:C3 b)(hc:C3 c)(hd:C3 d):PQ 392 14450 6 (kL a b c d):=
 (((hb.x.sub ha.x).mul (hd.y.sub hc.y)).sub ((hb.y.sub ha.y).mul (hd.x.sub hc.x))).mono (by omega) (by omega) (by omega)
theorem xH{a b c d:Cd}(ha:C3 a)(hb:C3 b)(hc:C3 c)(hd:C3 d):PQ 392 14450 6 (eI a b c d):=
 (((hb.x.sub ha.x).mul (hd.x.sub hc.x)).add ((hb.y.sub ha.y).mul (hd.y.sub hc.y))).mono (by omega) (by omega) (by omega)
theorem F6{p q:List Tm}(hp:PQ 392 14450 6 p)(hq:PQ 392 14450 6 q):PQ 153664 11328800 12 (bU p q):=(hp.mul hq).mono (by omega) (by omega) (by omega)
theorem I6{p:List Tm}{a:Rat}{T K E:Nat}(hp:PQ T K E p)(ha:rs a+1<=K)(hT:T<=2^36)(hK:K<=2^33)(hE:E<=2^38):Qd Tryz.prog 117 [PV.aC p,PV.rat a] (· =PV.aC (er p a)):=
 Gw hp.b ha hK hE (by have:=hp.l;omega)
theorem Ie{p q:List Tm}{T K E:Nat}(hp:PQ T K E p)(hq:PQ T K E q)(hT:T<=2^15)(hK:T*(K+K)+(K+K)<=2^32)(hE:E<=2^37):Qd Tryz.prog 121 [PV.aC p,.sl 1 [PV.aC q]] (· =PV.aC (bU p q)):=by
 have h:=ua hp hq hT hK hE;refine Qf Qk Tryz.func121 rfl To (by simp[CJ]) fun C hP=>?_;simp only[CJ,Zo,Zg,Zm,Zc,Zf,Zl,Zh,Zs,Zi,Zb,Zk,Zn,Zu,Zq,Zr,Zz];refine Sz0 ?_;refine Q5 (by repeat (first|exact Qx|exact Qq|exact Qr|exact Qt|exact Qu|apply Qp|apply Qw|apply Q3|apply Q8|apply Q9|apply Qn)) [(0,0),(6,6),(9,16)] [] (fun m J hp=>∃i,m=1-i/\i<=1/\J 9= .int .i64 (i:Nat)/\J 0=PV.aC (if i=0 then p else bU p q)) 1 ?_ ?_
 ·refine⟨0,rfl,by omega,?_⟩;refine Sz0 ?_;rfl
 rintro _ J h2 ⟨i,rfl,hi,j9,j0⟩;refine Sz1 j9 ?_;refine Qb (fun hc=>?_) (fun hc=>?_)
 ·obtain rfl:i=0:=by omega
  rw[if_pos rfl]at j0;replace j9:J 9= .int .i64 0:=j9;refine Sz2 j9 j0 ?_;refine Qa hP h rfl rfl rfl ?_;refine Sz1 j9 ?_;refine Qm 0 (by omega) ⟨1,rfl,by omega,?_⟩;refine Sz0 ?_;rfl
 obtain rfl:i=1:=by omega
 refine Sz1 j0 ?_;exact Qc rfl rfl
theorem Ig{a b c d:Cd}{r:Rat}(ha:CB a)(hb:CB b)(hc:CB c)(hd:CB d)(hr:rs r<=1024):Qd Tryz.prog 64 [.sl 2 [PV.bB a,PV.bB b,PV.bB c,PV.bB d],PV.rat r] (· =PV.aC (b6 (eI a b a b) (er (eI c d c d) r))):=by
 have d1:=ue ha hb ha hb;have d2:=ue hc hd hc hd;have b2:=w9 hc hd hc hd;have s:=I6 b2 (a:=r) (by omega) (by omega) (by omega) (by omega);have f:=ot (T:=524288) (K:=2^29+8196) (E:=200) ((w9 ha hb ha hb).mono (by omega) (by omega) (by omega)) ((b2.scale (a:=r) (L:=1025) (by omega)).mono (by omega) (by omega) (by omega)) (by omega) (by omega) (by omega);refine Qf Qk Tryz.func64 rfl VP (by simp[Dp]) fun C hP=>?_;simp only[Dp,Zo,Zg,Zm,Zc,Zf,Zl,Zh,Zs,Zi,Zb,Zk,Zn,Zu,Zq,Zr,Zz];refine Sz0 ?_;refine Qa hP d1 rfl rfl rfl ?_;refine Sz0 ?_
 repeat' first
  |refine iE ?_ ?_
  |refine Qa hP d2 rfl rfl rfl ?_
  |refine Qa hP s rfl rfl rfl ?_
  |refine Qa hP f rfl rfl rfl ?_
  |exact Qc rfl rfl
  |simp+decide (disch:=try exact D0) only[go_sem]
theorem I7{p q r:List Tm}(hp:PQ 256 (2^17) 100 p)(hq:PQ 256 (2^17) 100 q)(hr:PQ 256 (2^17) 100 r):Qd Tryz.prog 66 [PV.aC p,PV.aC q,PV.aC r] (· =PV.aC (b6 (Q2 q r) (er p 2))):=by
 have h2:rs 2<=1024:=by decide+kernel
 have a1:=FE hq hr (by omega) (by omega) (by omega);have o2:=Lp (x:=2) (by omega) (by omega);have s:=I6 hp (a:=2) (by omega) (by omega) (by omega) (by omega);have f:=ot (T:=512) (K:=2^18) (E:=100) ((hq.add hr).mono (by omega) (by omega) (by omega)) ((hp.scale (a:=2) (L:=1025) (by omega)).mono (by omega) (by omega) (by omega)) (by omega) (by omega) (by omega);refine Qf Qk Tryz.func66 rfl VO (by simp[Dr]) fun C hP=>?_;simp only[Dr,Zo,Zg,Zm,Zc,Zf,Zl,Zh,Zs,Zi,Zb,Zk,Zn,Zu,Zq,Zr,Zz];refine Sz0 ?_;refine Qa hP a1 rfl rfl rfl ?_;refine Sz0 ?_;refine Qa hP o2 rfl rfl rfl ?_;refine Sz0 ?_;refine Qa hP s rfl rfl rfl ?_;refine Sz0 ?_;refine Qa hP f rfl rfl rfl ?_;refine Sz0 ?_;exact Qc rfl rfl
def ET(a b c d e f g h:Cd):List Tm:=b6 (bU (kL a b c d) (eI e f g h)) (bU (kL e f g h) (eI a b c d))
theorem Ih{a b c d e f g h:Cd}(ha:C3 a)(hb:C3 b)(hc:C3 c)(hd:C3 d)(he:C3 e)(hf:C3 f)(hg:C3 g)(hh:C3 h):
  Qd Tryz.prog 67 [.sl 2 [PV.bB a,PV.bB b,PV.bB c,PV.bB d,PV.bB e,PV.bB f,PV.bB g,PV.bB h]] (· =PV.aC (ET a b c d e f g h)):=by
 have c1:=xa ha.cb hb.cb hc.cb hd.cb;have d2:=ue he.cb hf.cb hg.cb hh.cb;have c2:=xa he.cb hf.cb hg.cb hh.cb;have d1:=ue ha.cb hb.cb hc.cb hd.cb;have p1:=Ie (xb ha hb hc hd) (xH he hf hg hh) (by omega) (by omega) (by omega);have p2:=Ie (xb he hf hg hh) (xH ha hb hc hd) (by omega) (by omega) (by omega);have s:=ot (F6 (xb ha hb hc hd) (xH he hf hg hh)) (F6 (xb he hf hg hh) (xH ha hb hc hd)) (by omega) (by omega) (by omega);refine Qf Qk Tryz.func67 rfl VQ (by simp[Ds]) fun C hP=>?_;simp only[Ds,Zo,Zg,Zm,Zc,Zf,Zl,Zh,Zs,Zi,Zb,Zk,Zn,Zu,Zq,Zr,Zz];refine Sz0 ?_
 repeat' first
  |refine iE ?_ ?_
  |refine Qa hP c1 rfl rfl rfl ?_
  |refine Qa hP d2 rfl rfl rfl ?_
  |refine Qa hP c2 rfl rfl rfl ?_
  |refine Qa hP d1 rfl rfl rfl ?_
  |refine gX hP p1 zu rfl ?_
  |refine gX hP p2 zu rfl ?_
  |refine Qa hP s rfl rfl rfl ?_
  |exact Qc rfl rfl
  |simp+decide (disch:=try exact D0) only[go_sem]
theorem MC{p:List Tm}{T K E:Nat}(h:PQ T K E p):er p 1=p:=
 nj (h.scale (a:=1) (L:=2) (by decide+kernel)).n h.n fun φ=>by rw[Bf φ h.n.c];grind
theorem Hd{p:List Tm}{T K E:Nat}(h:PQ T K E p):er p 2=Q2 p p:=
 nj (h.scale (a:=2) (L:=100) (by decide+kernel)).n (h.add h).n fun φ=>by rw[Bf φ h.n.c,wM h.n.c h.n.c];grind
def eP(k:Int)(p:Nat->Cd)(r:Rat):List (List Tm):=
 if k=1 then [kL (p 0) (p 1) (p 0) (p 2)]else if k=2 then [kL (p 0) (p 1) (p 2) (p 3)]else if k=3 then [eI (p 0) (p 1) (p 2) (p 3)]
 else if k=4 then [b6 (eI (p 0) (p 1) (p 0) (p 1)) (eI (p 2) (p 3) (p 2) (p 3))]
 else if k=5 then [b6 (Q2 (p 1).1 (p 2).1) (Q2 (p 0).1 (p 0).1),b6 (Q2 (p 1).2 (p 2).2) (Q2 (p 0).2 (p 0).2)]
 else if k=6 then [ET (p 1) (p 0) (p 1) (p 2) (p 3) (p 0) (p 3) (p 2)]
 else if k=7 then [ET (p 0) (p 1) (p 2) (p 3) (p 4) (p 5) (p 6) (p 7)]
 else if k=8 then [b6 (p 0).1 (p 1).1,b6 (p 0).2 (p 1).2]
 else [b6 (eI (p 0) (p 1) (p 0) (p 1)) (er (eI (p 2) (p 3) (p 2) (p 3)) r)]
abbrev PV.qU(l:List (List Tm)):PV:=.sl 1 (l.map PV.aC)
theorem Tx{k:Int}{args:List Int}{n:Bool}{a d:List Nat}{L:List Cd}(hk:cD k≠0)(hl:(L.length:Int)=cD k)(hc:∀c∈L,CB c)(h3:k=6∨k=7->∀c∈L,C3 c)(hr:k=9->PV.rr n a d=PV.rat (rv n a d)/\rs (rv n a d)<=1000):
  Qd Tryz.prog 30 [PV.jg ⟨k,args,n,a,d⟩,.sl 2 (L.map PV.bB)] (· =PV.qU (eP k (fun i=>L.getD i ([],[])) (rv n a d))):=by
 have aak:k=1∨k=2∨k=3∨k=4∨k=5∨k=6∨k=7∨k=8∨k=9:=by
  rcases BE k with h|h
  ·exact h
  ·exfalso;apply hk;unfold cD;repeat' split
   all_goals omega
 have e2:∀L:List Cd,L.length=2->∃x y,L=[x,y]:=fun L h=>by
  match L,h with
  | [x,y],_=>exact⟨x,y,rfl⟩
 have e3:∀L:List Cd,L.length=3->∃x y z,L=[x,y,z]:=fun L h=>by
  match L,h with
  | [x,y,z],_=>exact⟨x,y,z,rfl⟩
 have e4:∀L:List Cd,L.length=4->∃x y z w,L=[x,y,z,w]:=fun L h=>by
  match L,h with
  | [x,y,z,w],_=>exact⟨x,y,z,w,rfl⟩
 have e8:∀L:List Cd,L.length=8->∃x y z w s t u v,L=[x,y,z,w,s,t,u,v]:=fun L h=>by
  match L,h with
  | [x,y,z,w,s,t,u,v],_=>exact⟨x,y,z,w,s,t,u,v,rfl⟩
 rcases aak with rfl|rfl|rfl|rfl|rfl|rfl|rfl|rfl|rfl
 ·obtain⟨x,y,z,rfl⟩:=e3 L (by simp[cD]at hl;omega);have hx:=hc x (by simp);have hy:=hc y (by simp);have hz:=hc z (by simp);have c1:=xa hx hy hx hz;refine Qf Qk Tryz.func30 rfl nq (by simp[fQ]) fun C hP=>?_;simp only[fQ,Zo,Zg,Zm,Zc,Zf,Zl,Zh,Zs,Zi,Zb,Zk,Zn,Zu,Zq,Zr,Zz];refine Sz0 ?_;refine Qa hP c1 rfl rfl rfl ?_;refine Sz0 ?_;exact iF bA (by simp[eP])
 ·obtain⟨x,y,z,w,rfl⟩:=e4 L (by simp[cD]at hl;omega);have hx:=hc x (by simp);have hy:=hc y (by simp);have hz:=hc z (by simp);have hw:=hc w (by simp);have c1:=xa hx hy hz hw;refine Qf Qk Tryz.func30 rfl nq (by simp[fQ]) fun C hP=>?_;simp only[fQ,Zo,Zg,Zm,Zc,Zf,Zl,Zh,Zs,Zi,Zb,Zk,Zn,Zu,Zq,Zr,Zz];refine Sz0 ?_;refine Qa hP c1 rfl rfl rfl ?_;refine Sz0 ?_;exact iF bA (by simp[eP])
 ·obtain⟨x,y,z,w,rfl⟩:=e4 L (by simp[cD]at hl;omega);have hx:=hc x (by simp);have hy:=hc y (by simp);have hz:=hc z (by simp);have hw:=hc w (by simp);have c1:=ue hx hy hz hw;refine Qf Qk Tryz.func30 rfl nq (by simp[fQ]) fun C hP=>?_;simp only[fQ,Zo,Zg,Zm,Zc,Zf,Zl,Zh,Zs,Zi,Zb,Zk,Zn,Zu,Zq,Zr,Zz];refine Sz0 ?_;refine Qa hP c1 rfl rfl rfl ?_;refine Sz0 ?_;exact iF bA (by simp[eP])
 ·obtain⟨x,y,z,w,rfl⟩:=e4 L (by simp[cD]at hl;omega);have hx:=hc x (by simp);have hy:=hc y (by simp);have hz:=hc z (by simp);have hw:=hc w (by simp);have c1:=Ig hx hy hz hw (r:=((1:Int):Rat)) (by decide+kernel);have o1:=Lp (x:=1) (by omega) (by omega);have e1:er (eI z w z w) ((1:Int):Rat)=eI z w z w:=MC (w9 hz hw hz hw);rw[e1]at c1;refine Qf Qk Tryz.func30 rfl nq (by simp[fQ]) fun C hP=>?_;simp only[fQ,Zo,Zg,Zm,Zc,Zf,Zl,Zh,Zs,Zi,Zb,Zk,Zn,Zu,Zq,Zr,Zz];refine Sz0 ?_;refine Qa hP o1 rfl rfl rfl ?_;refine Sz0 ?_;refine Qa hP c1 rfl rfl rfl ?_;refine Sz0 ?_;exact iF bA (by simp[eP])
 ·obtain⟨x,y,z,rfl⟩:=e3 L (by simp[cD]at hl;omega);have hx:=hc x (by simp);have hy:=hc y (by simp);have hz:=hc z (by simp);have c1:=I7 hx.x hy.x hz.x;have c2:=I7 hx.y hy.y hz.y;rw[Hd hx.x]at c1;rw[Hd hx.y]at c2;refine Qf Qk Tryz.func30 rfl nq (by simp[fQ]) fun C hP=>?_;simp only[fQ,Zo,Zg,Zm,Zc,Zf,Zl,Zh,Zs,Zi,Zb,Zk,Zn,Zu,Zq,Zr,Zz];refine Sz0 ?_
  repeat' first
   |refine iE ?_ ?_
   |refine Qa hP c1 rfl rfl rfl ?_
   |refine Qa hP c2 rfl rfl rfl ?_
   |simp+decide (disch:=try exact D0) only[go_sem]
  all_goals exact iF bA (by simp[eP])
 ·obtain⟨x,y,z,w,rfl⟩:=e4 L (by simp[cD]at hl;omega);have hx:=h3 (.inl rfl) x (by simp);have hy:=h3 (.inl rfl) y (by simp);have hz:=h3 (.inl rfl) z (by simp);have hw:=h3 (.inl rfl) w (by simp);have c1:=Ih hy hx hy hz hw hx hw hz;refine Qf Qk Tryz.func30 rfl nq (by simp[fQ]) fun C hP=>?_;simp only[fQ,Zo,Zg,Zm,Zc,Zf,Zl,Zh,Zs,Zi,Zb,Zk,Zn,Zu,Zq,Zr,Zz];refine Sz0 ?_;rw[lF rfl (fun p hp=>by simp only[KaH,Kbc,or_false]at hp;rcases hp with rfl|rfl|rfl|rfl|rfl|rfl|rfl|rfl<;>rfl) (by omega)];refine Sz0 ?_;refine gX hP c1 zu rfl ?_;refine Sz0 ?_;exact iF bA (by simp[eP])
 ·obtain⟨x,y,z,w,s,t,u,v,rfl⟩:=e8 L (by simp[cD]at hl;omega);have hx:=h3 (.inr rfl) x (by simp);have hy:=h3 (.inr rfl) y (by simp);have hz:=h3 (.inr rfl) z (by simp);have hw:=h3 (.inr rfl) w (by simp);have hs:=h3 (.inr rfl) s (by simp);have ht:=h3 (.inr rfl) t (by simp);have hu:=h3 (.inr rfl) u (by simp);have hv:=h3 (.inr rfl) v (by simp);have c1:=Ih hx hy hz hw hs ht hu hv;refine Qf Qk Tryz.func30 rfl nq (by simp[fQ]) fun C hP=>?_;simp only[fQ,Zo,Zg,Zm,Zc,Zf,Zl,Zh,Zs,Zi,Zb,Zk,Zn,Zu,Zq,Zr,Zz];refine Sz0 ?_;refine Qa hP c1 rfl rfl rfl ?_;refine Sz0 ?_;exact iF bA (by simp[eP])
 ·obtain⟨x,y,rfl⟩:=e2 L (by simp[cD]at hl;omega);have hx:=hc x (by simp);have hy:=hc y (by simp);have c1:=ot hx.x hy.x (by omega) (by omega) (by omega);have c2:=ot hx.y hy.y (by omega) (by omega) (by omega);refine Qf Qk Tryz.func30 rfl nq (by simp[fQ]) fun C hP=>?_;simp only[fQ,Zo,Zg,Zm,Zc,Zf,Zl,Zh,Zs,Zi,Zb,Zk,Zn,Zu,Zq,Zr,Zz];refine Sz0 ?_
  repeat' first
   |refine iE ?_ ?_
   |refine Qa hP c1 rfl rfl rfl ?_
   |refine Qa hP c2 rfl rfl rfl ?_
   |simp+decide (disch:=try exact D0) only[go_sem]
  all_goals exact iF bA (by simp[eP])
 ·obtain⟨x,y,z,w,rfl⟩:=e4 L (by simp[cD]at hl;omega);have hx:=hc x (by simp);have hy:=hc y (by simp);have hz:=hc z (by simp);have hw:=hc w (by simp);obtain⟨me,jb⟩:=hr rfl;have c1:=Ig hx hy hz hw (r:=rv n a d) (by omega);rw[<-me]at c1;refine Qf Qk Tryz.func30 rfl nq (by simp[fQ]) fun C hP=>?_;simp only[fQ,Zo,Zg,Zm,Zc,Zf,Zl,Zh,Zs,Zi,Zb,Zk,Zn,Zu,Zq,Zr,Zz];refine Sz0 ?_;refine Qa hP c1 rfl rfl rfl ?_;refine Sz0 ?_;exact iF bA (by simp[eP])
abbrev LH:=List Cd×List Vr×Nat
def bo(S:List cB):Nat->LH
 |0=>([],[],0)
 | i+1=>((bo S i).1++[fN (S.getD i fD).k (rv (S.getD i fD).n (S.getD i fD).a (S.getD i fD).d) (ca (bo S i).1 (S.getD i fD).args) (bo S i).2.1.length (bo S i).2.2],
   (bo S i).2.1++iJ (S.getD i fD).k (i:Nat) (bo S i).2.2,if(S.getD i fD).k=1 then(bo S i).2.2+1 else(bo S i).2.2)
theorem tT(S:List cB):∀i,(bo S i).1.length=i
 |0=>rfl
 |i+1=>by rw[bo,KaG,tT S i];rfl
theorem Ii(k i:Int)(b:Nat):(iJ k i b).length<=3:=by
 unfold iJ mK
 repeat' split
 all_goals simp
theorem FQ(S:List cB):∀i,(bo S i).2.1.length<=3*i/\(bo S i).2.2<=i
 |0=>⟨Kae _,Kae _⟩
 |i+1=>by obtain⟨h1,h2⟩:=FQ S i;have h3:=Ii (S.getD i fD).k (i:Nat) (bo S i).2.2;rw[bo];refine⟨by simp only[KaG];omega,?_⟩;simp only;split<;>omega
abbrev WQ(w:Nat)(c:Cd):Prop:=CQ (2^w-1) (2*4^w) w c
theorem pw{w:Nat}(h:1<=w):2<=2^w/\4<=4^w:=by
 obtain⟨n,rfl⟩:∃n,w=n+1:=⟨w-1,by omega⟩
 have:=Nat.one_le_pow n 2 (by omega);have:=Nat.one_le_pow n 4 (by omega);rw[Kbg,Kbg];omega
theorem Cp{x y:Nat}(hx:2<=x)(hy:2<=y):2*x+y<=x*y+2:=by
 obtain⟨a,rfl⟩:∃a,x=a+2:=⟨x-2,by omega⟩
 obtain⟨b,rfl⟩:∃b,y=b+2:=⟨y-2,by omega⟩
 have:(a+2)*(b+2)=a*b+2*a+2*b+4:=by rw[Kax,KaL,KaL];omega
 have h0:0<=a*b:=KbE _;omega
theorem BW{x y:Nat}(hx:4<=x)(hy:4<=y):4*x+2*y+8<=2*(x*y):=by
 obtain⟨a,rfl⟩:∃a,x=a+4:=⟨x-4,by omega⟩
 obtain⟨b,rfl⟩:∃b,y=b+4:=⟨y-4,by omega⟩
 have:(a+4)*(b+4)=a*b+4*a+4*b+16:=by rw[Kax,KaL,KaL];omega
 have h0:0<=a*b:=KbE _;omega
theorem wO{p q m:List Tm}{u v e:Nat}(hu:1<=u)(hv:1<=v)(hp:PQ (2^u-1) (2*4^u) u p)(hq:PQ (2^v-1) (2*4^v) v q)(hm:PQ 1 4 e m){w:Nat}(hw:u+v<=w)(he:max u v+e<=w):
  PQ (2^w-1) (2*4^w) w (Q2 p (bU m (b6 q p))):=by
 obtain⟨u2,u4⟩:=pw hu;obtain⟨v2,v4⟩:=pw hv;have h2:2^(u+v)<=2^w:=KaV (by omega) hw;have h4:4^(u+v)<=4^w:=KaV (by omega) hw;rw[Nat.pow_add]at h2 h4;have b2:=Cp u2 v2;have b4:=BW u4 v4;have E:Nat:=max u v;have hp':=hp.mono (Kae _) (Kae _) (show u<=max u v by omega);have fw:=hq.mono (Kae _) (Kae _) (show v<=max u v by omega);have hs:=fw.sub hp';have hmul:=hm.mul hs;have u0:min 1 (2^v-1+(2^u-1))*(4+(2*4^v+(2*4^u+2)))<=1*(4+(2*4^v+(2*4^u+2))):=Kal _ (by omega);refine((hp.mono (Kae _) (Kae _) (show u<=w by omega)).add (hmul.mono (Kae _) (Kae _) (show e+max u v<=w by omega))).mono (by omega) (by omega) (Kae _)
theorem xc{p q r:List Tm}{u v x w:Nat}(hu:1<=u)(hv:1<=v)(hx:1<=x)(hp:PQ (2^u-1) (2*4^u) u p)(hq:PQ (2^v-1) (2*4^v) v q)(hr:PQ (2^x-1) (2*4^x) x r)(hw:u+v+x<=w):
  PQ (2^w-1) (2*4^w) w (jt p q r):=by
 obtain⟨u2,u4⟩:=pw hu;obtain⟨v2,v4⟩:=pw hv;obtain⟨x2,x4⟩:=pw hx;have h2:2^(u+v+x)<=2^w:=KaV (by omega) hw;have h4:4^(u+v+x)<=4^w:=KaV (by omega) hw;rw[Nat.pow_add,Nat.pow_add]at h2 h4;have a2:=Cp u2 v2;have a4:=BW u4 v4;have b2:=Cp (x:=2^u*2^v) (y:=2^x) (by omega) x2;have b4:=BW (x:=4^u*4^v) (y:=4^x) (by omega) x4;have hp':=hp.mono (Kae _) (Kae _) (show u<=w by omega);have fw:=hq.mono (Kae _) (Kae _) (show v<=w by omega);have dS:=hr.mono (Kae _) (Kae _) (show x<=w by omega);exact(hp'.add (fw.sub dS)).mono (by omega) (by omega) (Kae _)
abbrev PV.frame(cs:List Cd)(vs:List Vr):PV:=.agg [.sl 2 (cs.map PV.bB),.sl 3 (vs.map PV.fvar)]
theorem JG{S:List cB}:∀ {n i:Nat} (h:i<n),(cO S n)[i]'(by rw[mz];exact h)=fj (cO S i) (S.getD i fD).k (S.getD i fD).args
 | n+1,i,h=>by
  simp only[cO];by_cases e:i<n
  ·rw[Kcl (by rw[mz];exact e)];exact JG e
  ·obtain rfl:i=n:=by omega
   rw[List.getElem_append_right (by rw[mz];omega)];simp[mz]
theorem ry{S:List cB}{n i:Nat}(h:i<n):(cO S n).getD i 0=fj (cO S i) (S.getD i fD).k (S.getD i fD).args:=by rw[Kad,Kaf (by rw[mz];exact h)];exact JG h
theorem WQ.one{c:Cd}(hx:PQ 1 4 1 c.1)(hy:PQ 1 4 1 c.2):WQ 1 c:=⟨hx.mono (by omega) (by omega) (by omega),hy.mono (by omega) (by omega) (by omega)⟩
theorem zb{w:Nat}{c:Cd}(h:WQ w c)(hw:w<=8):CB c:=by have h2:2^w<=2^8:=KaV (by omega) hw;have h4:4^w<=4^8:=KaV (by omega) hw;exact h.mono (by omega) (by omega) (by omega)
theorem xy{S:List cB}{G:List cI}(hF:xF S G)(hb:∀s∈S,oH s):∀i,i<=S.length->∀n,n<i->∃w:Nat,1<=w/\w<=8/\(cO S i).getD n 0=(w:Int)/\WQ w ((bo S i).1.getD n ([],[]))
 |0,_,n,h=>by omega
 | i +1,hi,n,h=>by
  have ih:=xy hF hb i (by omega);have hl:=tT S i;have sv:i<S.length:=by omega
  have hd:S.getD i fD=S[i]:=by rw[Kad,Kaf sv];rfl
  have bQ:=hF.f.s i sv;have dL:=hF.s _ (Kao sv);have KL:=(hb _ (Kao sv)).r;by_cases hn:n<i
  ·obtain⟨w,h1,h2,h3,h4⟩:=ih n hn;refine⟨w,h1,h2,?_,?_⟩
   ·rw[ry (show n<i+1 by omega),<-ry hn];exact h3
   ·rw[bo];simp only;rw[Kad,KbK (by omega),<-List.getD_eq_getElem?_getD];exact h4
  obtain rfl:n=i:=by omega
  have vk:(cO S (n+1)).getD n 0<=8:=by
   have e:(cO S (n+1)).getD n 0=(cO S S.length).getD n 0:=by rw[ry (Kcb n),ry sv]
   rw[e,Kad,Kaf (by rw[mz];exact sv)];exact hF.t.w _ (Kao _)
  have hc:(bo S (n+1)).1.getD n ([],[])=fN S[n].k (rv S[n].n S[n].a S[n].d) (ca (bo S n).1 S[n].args) (bo S n).2.1.length (bo S n).2.2:=by rw[bo,hd];simp only;rw[Kad,Kba (by omega)];simp[hl]
  rw[ry (Kcb n),hd]at vk;rw[ry (Kcb n),hd,hc];have hlen:=bQ.l;have bK:∀m,m<S[n].args.length->∃w:Nat,1<=w/\w<=8/\jB (cO S n) S[n].args m=(w:Int)/\WQ w ((ca (bo S n).1 S[n].args).getD m ([],[])):=fun m hm=>by
   have hr:=bQ.r _ (Kao hm);obtain⟨w,h1,h2,h3,h4⟩:=ih S[n].args[m].toNat (by omega);refine⟨w,h1,h2,?_,?_⟩
   ·unfold jB;rw[show S[n].args.getD m 0=S[n].args[m]by rw[Kad,Kaf hm];rfl];exact h3
   ·rw[show(ca (bo S n).1 S[n].args).getD m ([],[])=(bo S n).1.getD S[n].args[m].toNat ([],[])by rw[Kad,ca,Kap,Kaf hm];rfl];exact h4
  have hk:=bQ.k;have hq:=bQ.q;generalize S[n]=s at *
  generalize bo S n=F at *
  generalize ca F.1 s.args=L at *
  generalize cO S n=W at *
  have v1:∀m:Nat,PQ 1 4 1 (bV m):=fun m=>PQ.var;have v0:PQ 1 4 1 []:=PQ.nil;by_cases k1:s.k=1
  ·refine⟨1,by omega,by omega,by rw[k1];rfl,WQ.one ?_ ?_⟩
   all_goals
    rw[k1];simp only[fN,nw];rw[if_pos trivial]
    repeat' split
    all_goals first|exact v1 _|exact v0
  have KH:s.k=2->PQ 1 4 0 (kK (rv s.n s.a s.d)):=fun _=>PQ.const (by have:=(show Raw 2 s.n s.a s.d from⟨KL.la,KL.ld,dL.1,dL.2,by omega⟩).rs;omega);by_cases k2:s.k=2
  ·have mb:s.args.length=2:=by rw[k2]at hlen;have:eR 2=2:=(by decide);omega
   obtain⟨w0,a1,a2,a3,a4⟩:=bK 0 (by omega);obtain⟨w1,b1,b2,b3,b4⟩:=bK 1 (by omega);have e:fj W s.k s.args=((w0+w1:Nat):Int):=by rw[fj,if_pos k2,a3,b3];omega
   rw[e]at vk⊢;refine⟨w0+w1,by omega,by omega,rfl,?_⟩;rw[fN,if_neg k1,if_pos k2];exact⟨wO a1 b1 a4.x b4.x (KH k2) (Kae _) (by omega),wO a1 b1 a4.y b4.y (KH k2) (Kae _) (by omega)⟩
  by_cases k3:s.k=3∨s.k=4
  ·have mb:s.args.length=3:=by
    rcases k3 with k3|k3
    ·rw[k3]at hlen;have:eR 3=3:=by decide
     omega
    ·rw[k3]at hlen;have:eR 4=3:=by decide
     omega
   obtain⟨w0,a1,a2,a3,a4⟩:=bK 0 (by omega);obtain⟨w1,b1,b2,b3,b4⟩:=bK 1 (by omega);obtain⟨w2,c1,c2,c3,c4⟩:=bK 2 (by omega);have e:fj W s.k s.args=((w0+w1+w2:Nat):Int):=by rw[fj,if_neg k2,if_pos k3,a3,b3,c3];omega
   rw[e]at vk⊢;refine⟨w0+w1+w2,by omega,by omega,rfl,?_⟩;rw[fN,if_neg k1,if_neg k2];by_cases q3:s.k=3
   ·rw[if_pos q3];exact⟨xc a1 c1 b1 a4.x c4.x b4.x (by omega),xc a1 c1 b1 a4.y c4.y b4.y (by omega)⟩
   ·rw[if_neg q3,if_pos (by omega)];exact⟨xc a1 b1 c1 a4.x b4.y c4.y (by omega),xc a1 c1 b1 a4.y c4.x b4.x (by omega)⟩
  by_cases k5:s.k=5
  ·have mb:s.args.length=2:=by rw[k5]at hlen;have:eR 5=2:=(by decide);omega
   obtain⟨w0,a1,a2,a3,a4⟩:=bK 0 (by omega);obtain⟨w1,b1,b2,b3,b4⟩:=bK 1 (by omega);have e:fj W s.k s.args=((2*w0+w1:Nat):Int):=by rw[fj,if_neg k2,if_neg k3,if_pos k5,a3,b3];omega
   rw[e]at vk⊢;refine⟨2*w0+w1,by omega,by omega,rfl,?_⟩;rw[fN,if_neg k1,if_neg k2,if_neg (by omega),if_neg (by omega),if_pos k5];exact⟨wO a1 b1 a4.x b4.x (v1 _) (by omega) (by omega),wO a1 b1 a4.y b4.y (v1 _) (by omega) (by omega)⟩
  ·have e:fj W s.k s.args=((1:Nat):Int):=by rw[fj,if_neg k2,if_neg k3,if_neg k5];rfl
   rw[e]at vk⊢;refine⟨1,by omega,by omega,rfl,?_⟩;rw[fN,if_neg k1,if_neg k2,if_neg (by omega),if_neg (by omega),if_neg k5];split
   ·exact WQ.one (v1 _) (v1 _)
   ·exact WQ.one (v1 _) (v1 _)
theorem F7{p q p' q':PV}{R:PV->Prop}(h:R (.aJ [p',q']))(d1:p.ax=true)(d2:q.ax=true)(h1:PV.le p p')(h2:PV.le q q'):ug R p q:=by obtain⟨g1,r,g2,g3⟩:=lP (r:=.aJ [p',q']) rfl d1 d2 h1 h2;subst g3;exact⟨g1,_,g2,h⟩
set_option maxHeartbeats 1000000 in
theorem LC(hN:pG){S:List cB}{G:List cI}(hF:xF S G)(hS:S.length<2^40)(hG:G.length<2^40)(hb:∀s∈S,oH s)(hg:∀g∈G,oG g):
  Qd Tryz.prog 10 [PV.fp S G] (fun r=>∃(cs:List Cd)(vs:List Vr)(e:Int),r= .aJ [PV.frame cs vs,.int .i64 e]/\(e=0->cs=(bo S S.length).1/\vs=(bo S S.length).2.1)/\(Cn S G->e=0)):=by
 have hR:=Ic hN hS hG hb hg;have hSl:=hF.l;refine BD Qk Tryz.func10 rfl VV (by simp[CE]) fun C hP=>?_;simp only[CE,Zo,Zg,Zm,Zc,Zf,Zl,Zh,Zs,Zi,Zb,Zk,Zn,Zu,Zq,Zr,Zz];refine Sz0 ?_;refine gW hP hR rfl rfl rfl ?_;rintro _ ⟨e,rfl,-,Ec⟩;by_cases h0:¬e=0
 ·have d:decide (¬e=0)=true:=decide_eq_true h0;refine Sz1 d ?_;have hh:PV.le (.agg [.aa,.aa]) (.agg [.sl 2 [],.sl 3 []]):=⟨trivial,trivial,trivial⟩
  refine HG (uj ?_);refine Sz0 ?_;refine F7 (p:=.agg [.aa,.aa]) (q:=.int .i64 e) (p':=.agg [.sl 2 [],.sl 3 []]) (q':=.int .i64 e) ?_ rfl rfl hh (cf _);exact⟨[],[],e,rfl,fun h=>absurd h h0,fun q=>absurd (Ec q) h0⟩
 obtain rfl:e=0:=by omega
 refine Sz0 ?_;refine cq (mJ 5 2000020 bA (by omega) rfl (by omega)) ?_;refine Sz0 ?_;refine cq (mF (γ:=2000020) (e:=2) (ty:=43) (xs:=[.agg [.aa,.aa]]) (fz:=false) Tz0 (by simp) (by omega) (fun x hx=>by rw[KaQ.1 hx];rfl)) ?_;refine Sz0 ?_;refine cq (PO (γ:=2000020) (e:=2) (ty:=43) (cs:=[.aa,.aa]) (cs':=[.ao 2000000 0 0,.aa]) 2000000 2 82 Tz0 bA (by omega) (by omega) rfl (by simp)) ?_;refine Sz0 ?_;refine cq (Ss (γ:=2000020) (e:=2) (ty:=43) (cs:=[.ao 2000000 0 0,.aa]) (cs':=[.ao 2000000 0 0,.ao 2000001 0 0]) 2000001 3 99 Tz0 bA (by omega) (by omega) rfl (by simp)) ?_;refine Sz0 ?_;refine IT (by repeat (first|exact Qx|exact Qq|exact Qr|exact Qt|exact Qu|apply Qp|apply Qw|apply Q3|apply Q8|apply Q9|apply Qn)) [(3,3),(5,10),(20,62),(2000020,2000021)] [8,9,10,54,55] (fun q J hp=>∃i,q=S.length-i/\i<=S.length/\J 5= .np 2000020 0 0/\J 6= .int .i64 ((bo S i).2.2:Nat)/\J 20= .int .i64 (i:Nat)/\J 2000020= .az 2000020 2 43 [vL i (bo S i).2.1.length]/\hp 2000020=some ⟨2,43,[],false⟩/\hp 2000021=none/\
   hp 2000000=some (sm (bo S i).1)/\hp 2000001=some (sn (bo S i).2.1)/\hp 1=some ⟨2,25,[PV.fp S G],false⟩/\hp 2=some ⟨2,43,[.agg [.aa,.aa]],false⟩) S.length ?_ ?_
 ·refine⟨0,rfl,by omega,?_⟩;refine Sz0 ?_;exact⟨rfl,rfl,rfl,rfl,rfl⟩
 rintro _ J h ⟨i,rfl,hi,j5,j6,gP,g5,k5,kn,k0,k1,kf,kr⟩;refine Sz1 gP ?_;refine Qb (fun hc=>?_) (fun hc=>?_)
 ·have aA:i<S.length:=by omega
  have hd:S.getD i fD=S[i]:=by rw[Kad,Kaf aA];rfl
  have dt:=tT S i;obtain⟨jd,sr⟩:=FQ S i;have gk:∀c∈(bo S i).1,CB c:=fun c hc=>by obtain⟨n,hn,rfl⟩:=KaZ hc;obtain⟨w,_,w8,_,hw⟩:=xy hF hb i hi n (by omega);rw[Kad,Kaf hn]at hw;exact zb hw w8
  have iY:=Wi (S:=S) (G:=G) (b:=(bo S i).2.2) (vs:=(bo S i).2.1) aA (by omega) (hF.f.s i aA) dt gk (by omega) (by omega) (fun _=>⟨(hF.s _ (Kao aA)).1,(hF.s _ (Kao aA)).2,(hb _ (Kao aA)).r⟩);have DY:CB (fN S[i].k (rv S[i].n S[i].a S[i].d) (ca (bo S i).1 S[i].args) (bo S i).2.1.length (bo S i).2.2):=by obtain⟨w,_,w8,_,hw⟩:=xy hF hb (i+1) (by omega) i (by omega);rw[bo,hd,Kad]at hw;simp only at hw;rw[Kba (by omega),dt,KbA]at hw;exact zb hw w8
  have eS:=Ii S[i].k (i:Nat) (bo S i).2.2;have Eu:bo S (i+1)=((bo S i).1++[fN S[i].k (rv S[i].n S[i].a S[i].d) (ca (bo S i).1 S[i].args) (bo S i).2.1.length (bo S i).2.2],(bo S i).2.1++iJ S[i].k (i:Nat) (bo S i).2.2,if S[i].k=1 then(bo S i).2.2+1 else(bo S i).2.2):=by rw[bo,hd]
  rw[lU,dt]at iY;obtain⟨F,DJ⟩:∃F,bo S i=F:=⟨_,rfl⟩
  rw[DJ]at g5 k0 k1 j6 jd sr gk iY DY eS Eu dt;generalize fN S[i].k (rv S[i].n S[i].a S[i].d) (ca F.1 S[i].args) F.2.1.length F.2.2=c at *
  generalize iJ S[i].k (i:Nat) F.2.2=nv at *
  generalize hx:S[i]=s at *
  refine Sz6 gP j5 j6 g5 kf hx ?_;refine cq (ru (γ:=2000020) (e:=2) (ty:=43) (cs:=[.ao 2000000 0 i,.ao 2000001 0 F.2.1.length]) (Tz1 g5)) ?_;refine Sz5 gP j5 j6 k5 kf ?_;refine lH hP iY (Tz1 k0) (Tz1 k1) rfl rfl rfl (by simp) ?_;rw[F4,F5 (fun x hx=>by rcases rG.1 hx with rfl|rfl<;>omega)];refine Sz2 j5 k5 ?_;refine cq (mJ 9 2000021 (jz kn) (by omega) rfl (by omega)) ?_;refine Sz1 kn ?_;refine cq (mF (γ:=2000021) (e:=2) (ty:=43) (xs:=[.agg [.aa,.aa]]) (fz:=false) (Tz1 kn) (by simp) (by omega) (fun x hx=>by rw[KaQ.1 hx];rfl)) ?_;rw[Tu rfl (by omega)];have d1:decide (64<((F.2.1++nv).length:Int))=false:=decide_eq_false (by rw[KaG];omega);have d2:decide (4000<(c.1.length:Int))=false:=decide_eq_false (by have:=DY.x.l;omega);have d3:decide (4000<(c.2.length:Int))=false:=decide_eq_false (by have:=DY.y.l;omega);refine Sz3 d1 d2 d3 ?_;refine cq (Tw 2000021) ?_;rw[W6 (by omega)];generalize hJ:e9 (one 2000021) _=J';have w5:J' 5= .np 2000020 0 0:=by rw[<-hJ];simp+decide (disch:=try exact D4 g5 j5 j6 gP) only[go_sem,g5,j5,j6,gP]<;>rfl
  have w6:J' 6= .int .i64 (F.2.2:Nat):=by rw[<-hJ];simp+decide (disch:=try exact D4 g5 j5 j6 gP) only[go_sem,g5,j5,j6,gP]<;>rfl
  have w8:J' 8= .mp 8 0 0:=by rw[<-hJ];simp+decide (disch:=try exact D4 g5 j5 j6 gP) only[go_sem,g5,j5,j6,gP]<;>rfl
  have w10:J' 10= .mp 10 0 0:=by rw[<-hJ];simp+decide (disch:=try exact D4 g5 j5 j6 gP) only[go_sem,g5,j5,j6,gP]<;>rfl
  have LB:J' 20= .int .i64 (i:Nat):=by rw[<-hJ];simp+decide (disch:=try exact D4 g5 j5 j6 gP) only[go_sem,g5,j5,j6,gP]<;>rfl
  have w50:J' 50= .aE [.ao 2000000 0 i,.ao 2000001 0 (F.2.1++nv).length]:=by rw[<-hJ];simp+decide (disch:=try exact D4 g5 j5 j6 gP) only[go_sem,g5,j5,j6,gP]<;>rfl
  have acw:J' 2000020= .az 2000020 2 43 [.aE [.undef,.undef]]:=by rw[<-hJ];simp+decide (disch:=try exact D4 g5 j5 j6 gP) only[go_sem,g5,j5,j6,gP]<;>rfl
  generalize hH:DE (one 2000021) _=H';have v1:H' 1=some ⟨2,25,[PV.fp S G],false⟩:=by rw[<-hH];simp+decide (disch:=try exact D6 kf kr k5 k0 k1 kn) only[go_sem,kf,kr,k5,k0,k1,kn]<;>rfl
  have v2:H' 2=some ⟨2,43,[.agg [.aa,.aa]],false⟩:=by rw[<-hH];simp+decide (disch:=try exact D6 kf kr k5 k0 k1 kn) only[go_sem,kf,kr,k5,k0,k1,kn]<;>rfl
  have v8:H' 8=some ⟨6,76,[PV.mu s],false⟩:=by rw[<-hH];simp+decide (disch:=try exact D6 kf kr k5 k0 k1 kn) only[go_sem,kf,kr,k5,k0,k1,kn]<;>rfl
  have v10:H' 10=some ⟨2,82,[PV.bB c],false⟩:=by rw[<-hH];simp+decide (disch:=try exact D6 kf kr k5 k0 k1 kn) only[go_sem,kf,kr,k5,k0,k1,kn]<;>rfl
  have acs:H' 2000000=some (sm F.1):=by rw[<-hH];simp+decide (disch:=try exact D6 kf kr k5 k0 k1 kn) only[go_sem,kf,kr,k5,k0,k1,kn]<;>rfl
  have Lz:H' 2000001=some (sn (F.2.1++nv)):=by rw[<-hH];simp+decide (disch:=try exact D6 kf kr k5 k0 k1 kn) only[go_sem,kf,kr,k5,k0,k1,kn]<;>rfl
  have y3:H' 2000020=some ⟨2,43,[],false⟩:=by rw[<-hH];simp+decide (disch:=try exact D6 kf kr k5 k0 k1 kn) only[go_sem,kf,kr,k5,k0,k1,kn]<;>rfl
  have LA:H' 2000021=none:=by rw[<-hH];simp+decide (disch:=try exact D6 kf kr k5 k0 k1 kn) only[go_sem,kf,kr,k5,k0,k1,kn]<;>rfl
  clear hJ hH;refine Sz6 w5 w50 acw y3 w10 v10 ?_;rw[GM (f:=PV.bB) (y:=c) (xs:=F.1) (ty':=82) (fz:=false) (jz acs) bA (by omega) dt.symm (by omega) (by omega) (by omega)];refine Sz4 w5 y3 w8 v8 ?_;refine Qb (fun hk=>?_) (fun hk=>?_)
  ·refine Sz2 w6 LB ?_;refine By (S.length-(i+1)) (by omega) ⟨i+1,rfl,by omega,?_⟩;rw[Eu,if_pos hk];exact Tz7 w5 w6 y3 LA Lz v1 v2
  ·refine Sz2 w6 LB ?_;refine By (S.length-(i+1)) (by omega) ⟨i+1,rfl,by omega,?_⟩;rw[Eu,if_neg hk];exact Tz7 w5 w6 y3 LA Lz v1 v2
 obtain rfl:i=S.length:=by omega
 refine Sz3 j5 g5 k5 ?_;have nN:=tT S S.length;obtain⟨F,DJ⟩:∃F,bo S S.length=F:=⟨_,rfl⟩
 rw[DJ]at k0 k1 nN⊢;refine Vx 63 1 (p:=.aE [.ms 2000000 S.length,.ms 2000001 F.2.1.length]) (D:=PV.frame F.1 F.2.1) bA ?_ (fun l hl=>?_)
 ·refine⟨fun c hc=>?_,?_,?_⟩
  ·simp only[KaH,Kbc,or_false]at hc;rcases hc with rfl|rfl<;>rfl
  ·simp[zw,kU,k0,k1,sm,sn,PV.frame];exact⟨Kai (by simp[nN]),Kai (by simp)⟩
  ·simp[vK,nZ]
 have z2:FW.bq h l 2=some ⟨2,43,[.agg [.aa,.aa]],false⟩:=by rw[My hl (by omega),kr]
 refine Sz1 z2 ?_;refine HG (uj ?_);refine Sz0 ?_;have hh:=cf (.agg [.sl 2 (F.1.map PV.bB),.sl 3 (F.2.1.map PV.fvar)]);refine F7 ?_ rfl rfl hh (cf _);exact⟨F.1,F.2.1,0,rfl,fun _=>⟨rfl,rfl⟩,fun _=>rfl⟩
def iH(cs:List Cd)(f:cI):List (List Tm)×Int:=
 if dF f cs.length=0 then
  if(eP f.k (fun i=>(ca cs f.args).getD i ([],[])) (rv f.n f.a f.d)).any (fun p=>decide (4000<p.length))then([],4)
  else(eP f.k (fun i=>(ca cs f.args).getD i ([],[])) (rv f.n f.a f.d),0)
 else([],dF f cs.length)
structure Cz(cs:List Cd)(f:cI):Prop where
 b:oG f
 l:cs.length<=8
 c:∀c∈cs,CB c
 t:dF f cs.length=0->f.k=6∨f.k=7->∀c∈ca cs f.args,C3 c
 r:dF f cs.length=0->f.k=9->PV.rr f.n f.a f.d=PV.rat (rv f.n f.a f.d)/\rs (rv f.n f.a f.d)<=1000
theorem PJ{cs:List Cd}{l:List Int}(h:∀a∈l,0<=a/\a<cs.length):∀c∈ca cs l,c∈cs:=fun c hm=>by obtain⟨a,ha,rfl⟩:=KaM.1 hm;have:=h a ha;rw[Kad,Kaf (show a.toNat<cs.length by omega)];exact Kao _
theorem og{cs:List Cd}{vs:List Vr}{f:cI}(h:Cz cs f):Qd Tryz.prog 11 [PV.jg f,PV.frame cs vs] (· = .aJ [PV.qU (iH cs f).1,.int .i64 (iH cs f).2]):=by
 have hR:=PI (n:=cs.length) h.b;have hl8:=h.l;have mO:=h.b.l;refine Qf Qk Tryz.func11 rfl VR (by simp[CG]) fun C hP=>?_;simp only[CG,Zo,Zg,Zm,Zc,Zf,Zl,Zh,Zs,Zi,Zb,Zk,Zn,Zu,Zq,Zr,Zz];refine Sz0 ?_;refine Qa hP hR rfl rfl rfl ?_;by_cases h0:dF f cs.length=0
 ·have hA:f.args.length<=8/\(f.args.length:Int)=cD f.k/\cD f.k≠0/\∀a∈f.args,0<=a/\a<cs.length:=by
   obtain⟨k0,k1,k2,k3⟩:=FP h0;refine⟨?_,k1,k0,k2⟩;unfold cD at k1
   repeat' split at k1
   all_goals omega
  obtain⟨ha8,mO,ZY,DS⟩:=hA;have yd:(ca cs f.args).length=f.args.length:=by simp[ca]
  have cK:=Tx (k:=f.k) (args:=f.args) (n:=f.n) (a:=f.a) (d:=f.d) (L:=ca cs f.args) ZY (by omega) (fun c hc=>h.c c (PJ DS c hc)) (h.t h0) (h.r h0);have d0:decide (¬dF f cs.length=0)=false:=by simp[h0]
  refine Sz1 d0 ?_;refine mC 7 900 2 82 (by omega) Tz0 ?_;refine Q5 (by repeat (first|exact Qx|exact Qq|exact Qr|exact Qt|exact Qu|apply Qp|apply Qw|apply Q3|apply Q8|apply Q9|apply Qn)) [(7,7),(9,9),(24,36)] [34,35,900] (fun q J hp=>∃j,q=f.args.length-j/\j<=f.args.length/\J 7= .ms 900 j/\J 24= .int .i64 (j:Nat)/\hp 2=some ⟨5,34,[PV.jg f],false⟩/\hp 3=some ⟨2,43,[PV.frame cs vs],false⟩/\hp 900=some ⟨2,82,((ca cs f.args).take j).map PV.bB,false⟩) f.args.length ?_ ?_
  ·refine⟨0,rfl,by omega,?_⟩;refine Sz0 ?_;rfl
  rintro _ J bc ⟨j,rfl,hj,j7,yJ,h2,h3,dY⟩;refine Sz1 yJ ?_;refine Qb (fun hg=>?_) (fun hg=>?_)
  ·have cR:j<f.args.length:=by omega
   have Ej:j<(ca cs f.args).length:=by omega
   obtain⟨m,hm⟩:∃m:Nat,f.args[j]=(m:Int):=⟨f.args[j].toNat,by have:=DS _ (Kao cR);omega⟩
   have uZ:m<cs.length:=by have:=DS _ (Kao cR);omega
   have DG:(ca cs f.args)[j]=cs[m]:=by simp only[ca,KbO,hm,KbU];rw[Kad,Kaf uZ];rfl
   have cy:(ca cs f.args).take (j+1)=(ca cs f.args).take j++[cs[m]]:=by rw[<-DG];exact KaD Ej
   have mX:j=((ca cs f.args).take j).length:=by rw[Kau];omega
   generalize hy:cs[m]=y at *
   refine Sz5 yJ j7 h3 hm hy ?_;rw[dm (f:=PV.bB) (y:=y) (xs:=(ca cs f.args).take j) (ty':=82) (fz:=false) (Tz1 dY) bA (by omega) mX (by omega) (by omega)];refine Sz4 yJ j7 h2 h3 ?_;refine Qm (f.args.length-(j+1)) (by omega) ⟨j+1,rfl,by omega,?_⟩;exact Tz5 yJ j7 h2 h3 cy
  obtain rfl:j=f.args.length:=by omega
  rw[Kai (by omega)]at dY;refine Sz2 h2 j7 ?_;refine gX hP cK (by simp+decide (disch:=try exact E1 dY) only[go_sem,dY,eG,Kaw,KaF,Kay,KaI,Kan];rw[Kai (by rw[Ka1];omega)]) rfl ?_;have hG:iH cs f=if(eP f.k (fun i=>(ca cs f.args).getD i ([],[])) (rv f.n f.a f.d)).any (fun p=>decide (4000<p.length))then([],4)
   else(eP f.k (fun i=>(ca cs f.args).getD i ([],[])) (rv f.n f.a f.d),0):=by unfold iH;rw[if_pos h0]
  have hPl:(eP f.k (fun i=>(ca cs f.args).getD i ([],[])) (rv f.n f.a f.d)).length<=2:=by
   unfold eP;repeat' split
   all_goals simp
  generalize eP f.k (fun i=>(ca cs f.args).getD i ([],[])) (rv f.n f.a f.d)=L at *
  refine Sz0 ?_;refine Q5 (by repeat (first|exact Qx|exact Qq|exact Qr|exact Qt|exact Qu|apply Qp|apply Qw|apply Q3|apply Q8|apply Q9|apply Qn)) [(4,5),(12,12),(42,49)] [] (fun q J hp=>∃i,q=L.length-i/\i<=L.length/\(∀n (h:n<L.length),n<i->¬4000<L[n].length)/\J 42= .int .i64 (i:Nat)) L.length ?_ ?_
  ·refine⟨0,rfl,by omega,by omega,?_⟩;refine Sz0 ?_;rfl
  rintro _ J2 kv ⟨i,rfl,hi,hle,EK⟩;refine Sz1 EK ?_;refine Qb (fun hg=>?_) (fun hg=>?_)
  ·have aA:i<L.length:=by omega
   have dB:¬4000<L[i].length->∀n (h:n<L.length),n<i+1->¬4000<L[n].length:=fun h n hn qD=>by
    by_cases e:n=i
    ·subst e;exact h
    ·exact hle n hn (by omega)
   have ZZ:4000<L[i].length->L.any (fun p=>decide (4000<p.length))=true:=fun h=>KaS.2 ⟨_,Kao aA,decide_eq_true h⟩;generalize hx:L[i]=x at *
   refine Sz2 EK hx ?_;refine Qb (fun h4=>?_) (fun h4=>?_)
   ·refine Sz0 ?_;exact lP (by rw[hG,if_pos (ZZ (by omega))]) rfl rfl (p':=PV.qU []) trivial (cf _)
   refine Sz1 EK ?_;refine Qm (L.length-(i+1)) (by omega) ⟨i+1,rfl,by omega,dB (by omega),?_⟩;exact Tz0
  obtain rfl:i=L.length:=by omega
  have nQ:L.any (fun p=>decide (4000<p.length))=false:=by rw[Kco];intro p hp;obtain⟨n,hn,rfl⟩:=KaZ hp;simpa using hle n hn hn
  refine Sz0 ?_;exact lP (by rw[hG,nQ,if_neg (by simp)]) rfl rfl (cf _) (cf _)
 ·have d0:decide (¬dF f cs.length=0)=true:=decide_eq_true h0;have hG:iH cs f=([],dF f cs.length):=by unfold iH;rw[if_neg h0]
  refine Sz1 d0 ?_;exact lP (by rw[hG]) rfl rfl (p':=PV.qU []) trivial (cf _)
end Go.Proofs.YtonjiljafkiikaaGreat
namespace Go.FW
open Go
mutual
inductive sY:PV->PV->Prop
 |rfl (p:PV):sY p p
 |nil (e:Nat):sY .aa (.sl e [])
 |sl (e:Nat) {xs ys:List PV} (h:uw xs ys):sY (.sl e xs) (.sl e ys)
inductive qc:List PV->List PV->Prop
 |nil:qc [] []
 |cons {p q:PV} {ps qs:List PV} (h:sY p q) (t:qc ps qs):qc (p::ps) (q::qs)
inductive uw:List PV->List PV->Prop
 |nil:uw [] []
 |cons {x y:PV} {xs ys:List PV} (h:qc x.cells y.cells) (t:uw xs ys):uw (x::xs) (y::ys)
end
mutual
theorem Qo.leD{w:World}{X:Nat->Prop}:∀ {p q:PV},sY p q->∀ {v:Value},Qo w X p v->Qo w X q v
 |_,_,.rfl p,v,h=>h
 |_,_,.nil e,v,h=>by cases h;exact .gB _ _ _ (KbE _)
 | _,_,.sl e (xs:=xs) (ys:=ys) ht,v,h=>by
  obtain⟨h1,h2⟩:=I8 ht;cases h with
  |gB _ ad cap hc=>have:ys=[]:=Kas.1 (by simpa using h1);subst this;exact .gB _ _ _ hc
  | sl _ _ b off cap vs hX hb mQ hc he hv hr=>
   rw[<-h1]at mQ hv⊢;refine .sl e ys b off cap vs hX hb mQ hc (fun i y hy=>?_) hv (fun i y hy j z hz=>?_)
   ·obtain⟨x,hx,hle,_⟩:=h2 w X i y hy;rw[hle];exact he i x hx
   ·obtain⟨x,hx,_,hle⟩:=h2 w X i y hy;obtain⟨u,hu,aaT⟩:=hle j z hz;exact aaT _ (hr i x hx j u hu)
theorem BX:∀ {ps qs:List PV},qc ps qs->∀(w:World)(X:Nat->Prop),qs.length=ps.length/\∀(i:Nat)(q:PV),qs[i]? =some q->∃p,ps[i]? =some p/\∀v,Qo w X p v->Qo w X q v
 |_,_,.nil,w,X=>⟨rfl,by simp⟩
 |_,_,.cons (p:=p) (q:=q) h t,w,X=>by
  have k:=fun v=>Qo.leD (w:=w) (X:=X) h (v:=v);obtain⟨h1,h2⟩:=BX t w X;refine⟨by simp[h1],fun i x hx=>?_⟩;cases i with
  |zero=>simp at hx;subst hx;exact⟨p,rfl,k⟩
  |succ i=>simp at hx;simpa using h2 i x hx
theorem I8:∀ {xs ys:List PV},uw xs ys->ys.length=xs.length/\∀(w:World)(X:Nat->Prop)(i:Nat)(y:PV),ys[i]? =some y->∃x,xs[i]? =some x/\y.cells.length=x.cells.length/\∀(j:Nat)(z:PV),y.cells[j]? =some z->∃u,x.cells[j]? =some u/\∀v,Qo w X u v->Qo w X z v
 |_,_,.nil=>⟨rfl,by simp⟩
 |_,_,.cons (x:=x) (y:=y) h t=>by
  have k:=fun(w:World) (X:Nat->Prop)=>BX h w X;obtain⟨h1,h2⟩:=I8 t;refine⟨by simp[h1],fun w X i z hz=>?_⟩;cases i with
  |zero=>simp at hz;subst hz;exact⟨x,rfl,(k w X).1,(k w X).2⟩
  |succ i=>simp at hz;simpa using h2 w X i z hz
end
theorem Qd.n1{P:Program}{f:FuncId}{ps qs:List PV}{ls bs:List PV}{R:PV->Prop}(h:Qd P f (ls++ .agg qs::bs) R)(hl:qc ps qs):Qd P f (ls++ .agg ps::bs) R:=by
 refine⟨h.1,fun w X aQ g1 g2 g3=>h.2 w X aQ g1 (by simpa using g2) (fun i x hx=>?_)⟩;by_cases hi:i=ls.length
 ·subst hi;rw[Kba (Kae _)]at hx;simp at hx;subst hx;obtain⟨vs,e,k1,k2⟩:=g3 ls.length (.agg ps) (by rw[Kba (Kae _)];simp);obtain⟨h1,h2⟩:=BX hl w X;refine⟨vs,e,by omega,fun j x hx=>?_⟩;obtain⟨p,hp,hle⟩:=h2 j x hx;exact hle _ (k2 j p hp)
 ·refine g3 i x ?_;rcases Nat.lt_or_ge i ls.length with ak|fc
  ·rw[KbK ak]at hx ⊢;exact hx
  ·rw[Kba fc]at hx⊢;obtain⟨j,hj⟩:∃j,i-ls.length=j+1:=⟨i-ls.length-1,by omega⟩
   rw[hj]at hx ⊢;exact hx
end Go.FW
