/- Part 4 of the proof of SquaresPositive: FwSG, FwSH, FwSI, FwSJ, FwSK, FwSL, FwUA, FwSM, FwUC, FwVA. Own lemmas; no conditions. -/
import Derived.Test.YtkoclfmjlolkhaaGreatSquaresPositivePart3
set_option linter.unusedSimpArgs false
set_option linter.unusedVariables false
set_option linter.unnecessarySimpa false
set_option maxRecDepth 100000
namespace Go.FW
open Go
def Qb2(a:Rat):Nat->Rat
 |0=>1
 |n+1=>Qb2 a n*a
theorem Qq2(a:Rat):Qb2 a 0=1:=rfl
theorem Qaez(a:Rat):Qb2 a 1=a:=by show 1*a=a;grind
theorem Q06(a:Rat)(m:Nat):∀n,Qb2 a (m+n)=Qb2 a m*Qb2 a n
 |0=>by rw[Nat.add_zero,Qq2];grind
 |n+1=>by
  rw[<-Nat.add_assoc]
  show Qb2 a (m+n)*a=Qb2 a m*(Qb2 a n*a)
  rw[Q06 a m n];grind
theorem Qw0(a:Rat):∀k,Qb2 (a*a) k=Qb2 a (2*k)
 |0=>rfl
 |k+1=>by
  show Qb2 (a*a) k*(a*a)=_
  rw[Qw0 a k,show 2*(k+1)=2*k+1+1 by omega]
  show _=Qb2 a (2*k)*a*a
  grind
theorem Qw1{a:Rat}{n:Nat}(h:n%2=0):Qb2 (a*a) (n/2)=Qb2 a n:=by rw[Qw0];congr 1;omega
theorem Qyp{a:Rat}{n:Nat}(h:n%2=1):Qb2 (a*a) (n/2)*a=Qb2 a n:=by
 rw[Qw0,show n=2*(n/2)+1 by omega,show 2*((2*(n/2)+1)/2)=2*(n/2)by omega];rfl
theorem Qw2(a:Rat):∀n,rs (Qb2 a n)<=1+rs a*n
 |0=>by have:=Qne;show rs 1<=_;omega
 |n+1=>by
  have:=Qw2 a n
  have:=Qck (Qb2 a n) a
  rw[Nat.mul_add]
  show rs (Qb2 a n*a)<=_
  omega
def Qes(vs:List Rat)(m:List Int):Nat->Rat
 |0=>1
 |n+1=>Qes vs m n*Qb2 (vs.getD n 0) (eN m n).toNat
def mev(vs:List Rat)(m:List Int):Rat:=Qes vs m m.length
theorem Qak2(vs:List Rat)(m:List Int)(k:Nat):Qes vs m (m.length+k)=mev vs m:=by
 induction k with
 |zero=>rfl
 |succ k ih=>
  rw[<-Nat.add_assoc]
  show Qes vs m (m.length+k)*Qb2 _ (eN m (m.length+k)).toNat=_
  rw[ih,Qe4 (by omega)]
  show mev vs m*1=_
  grind
theorem Qw3{vs:List Rat}{m:List Int}{n:Nat}(h:m.length<=n):Qes vs m n=mev vs m:=by
 obtain⟨k,rfl⟩:∃k,n=m.length+k:=⟨n-m.length,by omega⟩
 exact Qak2 vs m k
theorem Qak3{vs:List Rat}{a b:List Int}{k l:Nat}(ha:MB k a)(hb:MB l b):mev vs (Qbs a b)=mev vs a*mev vs b:=by
 have hlen:(Qbs a b).length<=max a.length b.length:=by
  have:=Qe2 (Qgi (· + ·) a b)
  rw[Qcx]at this
  exact this
 rw[<-Qw3 (n:=max a.length b.length) hlen,<-Qw3 (m:=a) (n:=max a.length b.length) (by omega),<-Qw3 (m:=b) (n:=max a.length b.length) (by omega)]
 generalize max a.length b.length=N
 induction N with
 |zero=>show(1:Rat)=1*1;grind
 |succ N ih=>
  have h1:=(ha.eN N).1
  have h2:=(hb.eN N).1
  show Qes vs (Qbs a b) N*Qb2 _ (eN (Qbs a b) N).toNat=(Qes vs a N*Qb2 _ (eN a N).toNat)*(Qes vs b N*Qb2 _ (eN b N).toNat)
  rw[ih,Qjl,show(eN a N+eN b N).toNat=(eN a N).toNat+(eN b N).toNat by omega,Q06];grind
def Qbv(vs:List Rat)(p:List Tm):Rat:=pev (mev vs) p
def Qtn(vs:List Rat)(p:List Tm):Bool:=p.any fun t=>decide (vs.length<t.2.length)
abbrev PV.rats(vs:List Rat):PV:= .sl 3 (vs.map PV.rat)
def evR(vs:List Rat)(p:List Tm):PV:=if Qtn vs p=true then .tup [PV.rr false [] [],.int .i64 2]else .tup [PV.rat (Qbv vs p),.int .i64 0]
theorem Qu7{vs:List Rat}{p:List Tm}{i:Nat}(h:i<p.length):Qbv vs (p.take (i+1))=Qbv vs (p.take i)+p[i].1*mev vs p[i].2:=by
 rw[List.take_succ_eq_append_getElem h,Qbv,Quz,Qbi,Qec,Qbv];grind
theorem Qw4{vs:List Rat}{m:List Int}{E W:Nat}(hm:MB E m)(hv:∀v∈vs,rs v<=W)(hW:1<=W)(c:Rat):∀n,rs (c*Qes vs m n)<=rs c+n*(1+W*E)
 |0=>by
  have:c*Qes vs m 0=c:=by show c*1=c;grind
  rw[this];omega
 | n+1=>by
  have h1:=Qw4 hm hv hW c n
  have h2:=Qw2 (vs.getD n 0) (eN m n).toNat
  have h3:rs (vs.getD n 0)<=W:=by
   by_cases h:n<vs.length
   ·rw[List.getD_eq_getElem?_getD,List.getElem?_eq_getElem h];exact hv _ (List.getElem_mem h)
   ·rw[List.getD_eq_getElem?_getD,List.getElem?_eq_none (by omega)]
    have:=Qtg
    show rs 0<=W;omega
  have h4:(eN m n).toNat<=E:=by have:=(hm.eN n).2;omega
  have h5:rs (vs.getD n 0)*(eN m n).toNat<=W*E:=Nat.mul_le_mul h3 h4
  have h6:=Qck (c*Qes vs m n) (Qb2 (vs.getD n 0) (eN m n).toNat)
  have e:c*Qes vs m (n+1)=(c*Qes vs m n)*Qb2 (vs.getD n 0) (eN m n).toNat:=by
   show c*(Qes vs m n*_)=_;grind
  rw[e,Nat.add_mul]
  omega
theorem Qto{vs:List Rat}{p:List Tm}{K E W:Nat}(hp:PB K E p)(hv:∀v∈vs,rs v<=W)(hW:1<=W):∀i,i<=p.length->rs (Qbv vs (p.take i))<=1+i*(K+64*(1+W*E))
 |0,_=>by have:=Qtg;show rs 0<=_;omega
 |i+1,h=>by
  have h1:=Qto hp hv hW i (by omega)
  have ht:=hp.get (i:=i) (by omega)
  have h2:=Qw4 (vs:=vs) ht.m hv hW p[i].1 p[i].2.length
  have h3:=Qho (Qbv vs (p.take i)) (p[i].1*mev vs p[i].2)
  have h4:p[i].2.length*(1+W*E)<=64*(1+W*E):=Nat.mul_le_mul_right _ ht.m.len
  have h5:=ht.c
  rw[Qu7 (by omega),Nat.add_mul]
  have h6:rs (p[i].1*mev vs p[i].2)<=rs p[i].1+p[i].2.length*(1+W*E):=h2
  omega
theorem Q6s{B B':List Nat}{F:Fr}(h:(B'.all B.contains)=true):Qan B' (Qan B F)=Qan B F:=by
 funext s
 rw[Qqp B']
 split
 ·rename_i h1
  rw[Qqp B]at h1⊢
  split
  ·rfl
  ·rename_i h2
   rw[if_neg h2]at h1
   exfalso
   apply h2
   rw[List.any_eq_true]at h1⊢
   obtain⟨x,hx,hb⟩:=h1
   rw[List.all_eq_true]at h
   exact⟨x,hx,h x (List.contains_iff_mem.1 hb)⟩
 ·rfl
theorem Q6t{W:List (Nat×Nat)}{B:List Nat}{J F:Fr}:Qan B (ovr W J F)=ovr W (Qan B J) (Qan B F):=by
 funext s;unfold Qan ovr;split<;>rfl
theorem Qnk{V W:List (Nat×Nat)}{B B':List Nat}{X Z F:Fr}(h:Qta V W=true)(hB:(B'.all B.contains)=true):ovr V X (Qan B' (ovr W Z (Qan B F)))=ovr W (ovr V X (Qan B' Z)) (Qan B F):=by
 rw[Q6t,Q6s hB,Qbh h]
section
variable {C : Ctx} {fr : Fr} {hp : HP} {w : World} {K R : Qq}
theorem Qasu{ty d β n e' ty':Nat}{xs:List PV}{fz:Bool}(h:hp β=some ⟨e',ty',xs,fz⟩)(hB:isB β=false:=by decide):
  bsK 1 ty [.ms β n] d fr hp K=K (upd (Qa2 d fr) d (.ms d 1)) (Qv (Qap hp [β]) d ⟨1,ty,[.sl e' (xs.take n)],false⟩):=by
 have e:=Qwf hp β n _ _ _ _ h hB
 have e2:Qrh hp 1 [.ms β n]:=fun p hp'=>by
  simp only[List.mem_singleton]at hp'
  subst hp'
  rw[e];exact⟨rfl,rfl⟩
 apply propext
 simp only[bsK,List.map_cons,List.map_nil,e,List.length_cons,List.length_nil]
 exact⟨fun h=>h.2.2,fun h=>⟨by omega,e2,h⟩⟩
end
def Q6u(m:List Int)(v:Nat):List Int:=Qbu (m.set v 0)
def Qu8(p:List Tm)(v:Nat)(n:Int):List Tm:=p.filterMap fun t=>if eN t.2 v=n then some (t.1,Q6u t.2 v)else none
theorem Qaad{p:List Tm}{v:Nat}{n:Int}{t:Tm}(h:t∈Qu8 p v n):∃s∈p,eN s.2 v=n/\t=(s.1,Q6u s.2 v):=by
 simp only[Qu8,List.mem_filterMap]at h
 obtain⟨s,h1,h2⟩:=h
 split at h2
 ·rename_i h3;cases h2;exact⟨s,h1,h3,rfl⟩
 ·cases h2
end Go.FW
namespace Go.FW
open Go
def hor(p:List Tm)(v:Nat)(q:List Tm)(top:Nat):Nat->List Tm
 |0=>Qu8 p v top
 |k+1=>Qak (Qdu (hor p v q top k) q) (Qu8 p v ((top:Int)-(k+1)))
theorem Q6v{vs:List Rat}{p q:List Tm}(hp:Can p)(hq:Can q):Qbv vs (Qak p q)=Qbv vs p+Qbv vs q:=Qtl hp hq
theorem Q6w{vs:List Rat}{p q:List Tm}{K L E F:Nat}(hp:PB K E p)(hq:PB L F q):Qbv vs (Qdu p q)=Qbv vs p*Qbv vs q:=by
 rw[Qbv,Q0z]
 have e:pev (fun m=>pev (fun n=>mev vs (Qbs m n)) q) p=pev (fun m=>Qbv vs q*mev vs m) p:=Qgz fun s hs=>by
  have e2:pev (fun n=>mev vs (Qbs s.2 n)) q=pev (fun n=>mev vs s.2*mev vs n) q:=Qgz fun t ht=>Qak3 (hp s hs).m (hq t ht).m
  rw[e2,Qpi,Qbv];grind
 rw[e,Qpi,Qbv,Qbv];grind
def Qdc(vs:List Rat)(v:Nat)(b:Rat)(n:Int):List Tm->Rat
 | []=>0
 |t::p=>(if n<=eN t.2 v then t.1*mev vs (Q6u t.2 v)*Qb2 b (eN t.2 v-n).toNat else 0)+Qdc vs v b n p
def ML(n:Nat)(p:List Tm):Prop:=∀t∈p,t.2.length<=n
theorem ML.padd{n:Nat}{p q:List Tm}(hp:ML n p)(hq:ML n q):ML n (Qak p q):=fun t ht=>by
 rcases Qjn ht with⟨s,h1,h2⟩|⟨s,h1,h2⟩
 ·rw[<-h2];exact hp s h1
 ·rw[<-h2];exact hq s h1
theorem Qae0(a b:List Int):(Qbs a b).length<=max a.length b.length:=by
 have:=Qe2 (Qgi (· + ·) a b)
 rwa[Qcx]at this
theorem Q6x{p:List Tm}{t x:Tm}(h:x∈Qao p t):∃s∈p,x.2=Qbs s.2 t.2:=by
 simp only[Qao,List.mem_filterMap]at h
 obtain⟨y,hy,h⟩:=h
 split at h
 ·cases h
 ·cases h;exact⟨y,hy,rfl⟩
theorem Qae1:∀(n:Nat)(l:List (List Tm)),l.length<=n->∀ {t:Tm},t∈Qc5 l->∃p∈l,∃s∈p,s.2=t.2:=by
 intro n
 induction n with
 |zero=>
  intro l hl t ht
  have:l=[]:=List.length_eq_zero_iff.1 (by omega)
  subst this
  rw[Qc5]at ht;cases ht
 | succ n ih=>
  intro l hl t ht
  match l,ht with
  | [],ht=>rw[Qc5]at ht;cases ht
  | [p],ht=>rw[Qc5]at ht;exact⟨p,by simp,t,ht,rfl⟩
  | p::q::r,ht=>
   rw[Qki (by simp)]at ht
   generalize hL:p::q::r=L at *
   have hlen:2<=L.length:=by rw[<-hL];simp
   rcases Qjn ht with⟨s,h1,h2⟩|⟨s,h1,h2⟩
   ·obtain⟨p',hp',s',hs',e⟩:=ih _ (by rw[List.length_take];omega) h1
    exact⟨p',List.mem_of_mem_take hp',s',hs',e.trans h2⟩
   ·obtain⟨p',hp',s',hs',e⟩:=ih _ (by rw[List.length_drop];omega) h1
    exact⟨p',List.mem_of_mem_drop hp',s',hs',e.trans h2⟩
theorem Qae2{p q:List Tm}{t:Tm}(h:t∈Qdu p q):∃a∈p,∃b∈q,t.2=Qbs a.2 b.2:=by
 have main:∀ {p q:List Tm},t∈Qjw p q->∃a∈p,∃b∈q,t.2=Qbs a.2 b.2:=fun {p q} h=>by
  obtain⟨x,hx,s,hs,e⟩:=Qae1 _ _ (Nat.le_refl _) h
  obtain⟨a,ha,rfl⟩:=List.mem_map.1 hx
  obtain⟨b,hb,e2⟩:=Q6x hs
  exact⟨a,ha,b,hb,by rw[<-e,e2,Qmx]⟩
 unfold Qdu at h
 split at h
 ·obtain⟨a,ha,b,hb,e⟩:=main h
  exact⟨b,hb,a,ha,by rw[e,Qmx]⟩
 ·exact main h
theorem ML.pmul{n:Nat}{p q:List Tm}(hp:ML n p)(hq:ML n q):ML n (Qdu p q):=fun t ht=>by
 obtain⟨a,ha,b,hb,e⟩:=Qae2 ht
 have:=Qae0 a.2 b.2
 have:=hp a ha
 have:=hq b hb
 rw[e];omega
theorem ML.coefN{n:Nat}{p:List Tm}(hp:ML n p)(v:Nat)(k:Int):ML n (Qu8 p v k):=fun t ht=>by
 obtain⟨s,h1,_,rfl⟩:=Qaad ht
 have:=Qe2 (s.2.set v 0)
 rw[List.length_set]at this
 exact Nat.le_trans this (hp s h1)
theorem ML.hor{n:Nat}{p q:List Tm}(hp:ML n p)(hq:ML n q)(v top:Nat):∀k,ML n (hor p v q top k)
 |0=>hp.coefN v _
 |k+1=>((ML.hor hp hq v top k).pmul hq).padd (hp.coefN v _)
theorem ML.pout{n:Nat}{p:List Tm}{vs:List Rat}(hp:ML n p)(h:n<=vs.length):Qtn vs p=false:=by
 unfold FW.Qtn;rw[List.any_eq_false];intro t ht
 have:=hp t ht
 simp;omega
def Qc7(v n:Nat):List Int:=List.replicate v 0++[(n:Int)]
theorem Qx1{v n:Nat}(h:0<n):(Qc7 v n).getLast? ≠some 0:=by
 unfold Qc7
 rw[List.getLast?_append]
 simp
 omega
theorem Q4p{v n:Nat}(hv:v<64):MB n (Qc7 v n):=by
 refine⟨by simp[Qc7];omega,fun x hx=> ?_,fun x hx=> ?_⟩
 all_goals
  simp only[Qc7,List.mem_append,List.mem_replicate,List.mem_singleton]at hx
  omega
variable {C : Ctx} {fr : Fr} {hp : HP} {w : World} {K R : Qq}
theorem bs0{e ty d:Nat}(he:0<e):bsK e ty [] d fr hp K=K (upd (Qa2 d fr) d (.ms d 0)) (Qv hp d ⟨e,ty,[],false⟩):=Qwn (by rfl) (by simp) he
end Go.FW
namespace Go.FW
open Go
variable {C : Ctx} {fr : Fr} {hp : HP} {K : Qq}
end Go.FW
namespace Go.FW
open Go
theorem Qu9:∀ {p:List Tm},Qcu p->∀n,Qcu (p.take n)
 |_,_,0=>trivial
 | [],_,n+1=>trivial
 |t::p,h,n+1=>⟨fun s hs=>h.1 s (List.mem_of_mem_take hs),Qu9 h.2 n⟩
theorem Nrm.take{p:List Tm}(h:Nrm p)(n:Nat):Nrm (p.take n):=⟨fun t ht=>h.c t (List.mem_of_mem_take ht),fun t ht=>h.z t (List.mem_of_mem_take ht),Qu9 h.s n⟩
abbrev PV.mat(r c:Nat)(l:List Rat):PV:= .agg [.int .i64 r,.int .i64 c,PV.rats l]
abbrev MF:=Nat->Nat->Rat
def Qaj(l:List Rat)(m:Nat):MF:=fun r c=>l.getD (r*m+c) 0
theorem Qx2{l:List Rat}{n m r:Nat}(hl:l.length=n*m)(hr:r<n):((l.take ((r+1)*m)).drop (r*m)).map PV.rat=Qac PV.rat (Qaj l m r) m:=by
 have h1:(r+1)*m<=n*m:=Nat.mul_le_mul_right _ hr
 have h2:(r+1)*m=r*m+m:=by rw[Nat.add_mul,Nat.one_mul]
 refine List.ext_getElem (by simp[Qac];omega) fun j h3 h4=> ?_
 have hj:j<m:=by simpa[Qac]using h4
 simp only[List.getElem_drop,List.getElem_take,List.getElem_map,Qac,List.getElem_range,Qaj]
 rw[List.getD_eq_getElem?_getD,List.getElem?_eq_getElem (by omega)]
 rfl
structure RQ where
 n:Bool
 a:List Nat
 d:List Nat
 deriving Inhabited
abbrev PV.rq(q:RQ):PV:=PV.rr q.n q.a q.d
abbrev PV.rqs(l:List RQ):PV:= .sl 3 (l.map PV.rq)
abbrev PV.rmat(r c:Int)(l:List RQ):PV:= .agg [.int .i64 r,.int .i64 c,PV.rqs l]
def Qhk(q:RQ):Bool:=Qeq q.n q.a q.d
def rqV(q:RQ):Rat:=rv q.n q.a q.d
def Qc1(r c:Int)(l:List RQ):Bool:=decide (0<=r/\r<=40/\0<=c/\c<=40/\(l.length:Int)=r*c)&&l.all Qhk
def qR(q:Rat):RQ:=⟨decide (q.num<0),dig q.num.natAbs,dig q.den⟩
theorem Qx3{R m:Nat}{l:List Rat}(hl:l.length=R*m)(hR:R<=40)(hm:m<=40):Qc1 R m (l.map qR)=true:=by
 unfold Qc1
 rw[Bool.and_eq_true,decide_eq_true_eq]
 refine⟨⟨by omega,by omega,by omega,by omega,by rw[List.length_map,hl,Int.natCast_mul]⟩,?_⟩
 rw[List.all_eq_true]
 intro x hx
 obtain⟨q,hq,rfl⟩:=List.mem_map.1 hx
 exact Q04 q
theorem Qaae(l:List Rat):PV.rats l=PV.rqs (l.map qR):=by
 unfold PV.rqs PV.rats
 rw[List.map_map];rfl
theorem Qma(R m:Nat)(l:List Rat):PV.mat R m l=PV.rmat R m (l.map qR):=by
 unfold PV.mat PV.rmat
 rw[Qaae]
theorem Qapz(q:Rat):rqV (qR q)=q:=Qcl q
theorem Q6y(l:List Rat):(l.map qR).map rqV=l:=by
 rw[List.map_map]
 conv=>rhs;rw[<-List.map_id l]
 exact List.map_congr_left fun q _=>Qapz q
def Qnl(M:MF)(k:Nat):Nat->Nat->Nat
 |0,i=>i
 |f+1,i=>if M i k=0 then Qnl M k f (i+1)else i
theorem Qw5(M:MF)(k:Nat):∀f i,i<=Qnl M k f i/\Qnl M k f i<=i+f
 |0,i=>⟨Nat.le_refl _,Nat.le_refl _⟩
 |f+1,i=>by
  unfold Qnl
  split
  ·have:=Qw5 M k f (i+1);omega
  ·omega
theorem Q4q(M:MF)(k:Nat):∀f i,Qnl M k f i<i+f->M (Qnl M k f i) k≠0
 |0,i,h=>by simp[Qnl]at h
 |f+1,i,h=>by
  unfold Qnl at h⊢
  split
  ·rename_i h0;rw[if_pos h0]at h;exact Q4q M k f (i+1) (by omega)
  ·rename_i h0;exact h0
def Qhl(M:MF)(R k n:Nat):Nat:=Qnl M k (R-n) n
def Qd4(M:MF)(i n:Nat):MF:=fun r=>if r=n then M i else if r=i then M n else M r
def Qhu(M:MF)(n:Nat)(p:Rat):MF:=fun r c=>if r=n then M n c/p else M r c
def Qrx(M:MF)(n k:Nat):MF:=fun r c=>if r=n then M n c else M r c-M r k*M n c
structure Ech where
 M:MF
 piv:List Nat
 det:Rat
def Qf7(R:Nat)(E:Ech)(k:Nat):Ech:=
 if Qhl E.M R k E.piv.length=R then E else
  ⟨Qrx (Qhu (Qd4 E.M (Qhl E.M R k E.piv.length) E.piv.length) E.piv.length (E.M (Qhl E.M R k E.piv.length) k)) E.piv.length k,E.piv++[k],
   (if Qhl E.M R k E.piv.length=E.piv.length then E.det else -E.det)*E.M (Qhl E.M R k E.piv.length) k⟩
def Qbk(R:Nat)(M:MF):Nat->Ech
 |0=>⟨M,[],1⟩
 |k+1=>Qf7 R (Qbk R M k) k
theorem Qpn(R:Nat)(M:MF):∀k,(Qbk R M k).piv.length<=k/\(Qbk R M k).piv.length<=R/\∀x∈(Qbk R M k).piv,x<k
 |0=>⟨Nat.le_refl _,Nat.zero_le _,by simp[Qbk]⟩
 | k+1=>by
  obtain⟨h1,h2,h3⟩:=Qpn R M k
  show(Qf7 R (Qbk R M k) k).piv.length<=k+1/\_
  simp only[Qbk]
  unfold Qf7
  split
  ·exact⟨by omega,h2,fun x hx=>by have:=h3 x hx;omega⟩
  ·rename_i h
   have:=Qw5 (Qbk R M k).M k (R-(Qbk R M k).piv.length) (Qbk R M k).piv.length
   have h4:Qhl (Qbk R M k).M R k (Qbk R M k).piv.length<=R:=by unfold Qhl;omega
   have h5:(Qbk R M k).piv.length<=Qhl (Qbk R M k).M R k (Qbk R M k).piv.length:=this.1
   refine⟨by simp;omega,by simp;omega,fun x hx=> ?_⟩
   simp only[List.mem_append,List.mem_singleton]at hx
   rcases hx with hx|hx
   ·have:=h3 x hx;omega
   ·omega
def MBd(K R w:Nat)(M:MF):Prop:=∀r,r<R->∀c,c<w->rs (M r c)<=K
theorem Qak4:PV.le (.agg [.int .i64 0,.int .i64 0,.nilS]) (PV.rmat 0 0 []):=by simp[PV.le,PV.leL,PV.le1,PV.rmat,PV.rqs]
def Q6z(K R w n:Nat)(M:MF):Prop:=∀k,k<=n->MBd K R w (Qbk R M k).M/\rs (Qbk R M k).det<=K
def Qh7(p:Nat->Bool):Nat->Nat->Nat
 |0,i=>i
 |f+1,i=>if p i then i else Qh7 p f (i+1)
theorem Qjo{p:Nat->Bool}:∀ {f i n:Nat},i<=n->n<i+f->p n=true->(∀j,i<=j->j<n->p j=false)->Qh7 p f i=n
 |0,i,n,h1,h2,_,_=>by omega
 | f+1,i,n,h1,h2,h3,h4=>by
  unfold Qh7
  by_cases e:i=n
  ·subst e;rw[if_pos h3]
  ·rw[h4 i (Nat.le_refl _) (by omega)]
   exact Qjo (by omega) (by omega) h3 fun j h5 h6=>h4 j (by omega) h6
theorem Qhf{p:Nat->Bool}:∀ {f i:Nat},(∀j,i<=j->j<i+f->p j=false)->Qh7 p f i=i+f
 |0,i,_=>rfl
 |f+1,i,h=>by
  unfold Qh7
  rw[h i (Nat.le_refl _) (by omega)]
  have:=Qhf (p:=p) (f:=f) (i:=i+1) fun j h5 h6=>h j (by omega) (by omega)
  simp only[Bool.false_eq_true,if_false];omega
def Qd5(x y:Nat->Rat)(c:Rat):Nat->Rat:=fun i=>x i+c*y i
def Qb7(M:MF)(R:Nat):Nat:=Qh7 (fun i=>decide (M i i≠0)) R 0
def Qc3(M:MF)(R i:Nat):Nat:=Qh7 (fun k=>decide (M i k≠0)) R 0
def Qbl(M:MF)(R:Nat):Nat:=Qh7 (fun i=>decide (Qc3 M R i<R)) R 0
def Qbb (M:MF) (R:Nat):List (Rat×(Nat->Rat)):=
  if Qb7 M R<R then [(M (Qb7 M R) (Qb7 M R),Qd5 (fun _=>0) (M (Qb7 M R)) (1/M (Qb7 M R) (Qb7 M R)))]
  else if Qbl M R<R then
    [(1/(M (Qbl M R) (Qc3 M R (Qbl M R))+M (Qbl M R) (Qc3 M R (Qbl M R))),Qd5 (M (Qbl M R)) (M (Qc3 M R (Qbl M R))) 1),
     (-(1/(M (Qbl M R) (Qc3 M R (Qbl M R))+M (Qbl M R) (Qc3 M R (Qbl M R)))),Qd5 (M (Qbl M R)) (M (Qc3 M R (Qbl M R))) (-1))]
  else []
abbrev PV.form(w:Nat)(f:Rat×(Nat->Rat)):PV:= .agg [.bool (decide (f.1.num<0)),PV.num f.1.num.natAbs,PV.num f.1.den,.sl 3 (Qac PV.rat f.2 w)]
end Go.FW
