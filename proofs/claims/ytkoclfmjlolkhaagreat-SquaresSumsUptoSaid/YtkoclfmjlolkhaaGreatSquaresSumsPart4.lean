/- Part 4 of the proof of SquaresSums: FwSK, FwSL, FwUA, FwSM, FwUC, FwVA. Own lemmas; no conditions. -/
import Derived.Test.YtkoclfmjlolkhaaGreatSquaresSumsPart3
set_option linter.unusedSimpArgs false
set_option linter.unusedVariables false
set_option linter.unnecessarySimpa false
set_option maxRecDepth 100000
namespace Go.FW
open Go
def Qc9(vs:List Rat)(v:Nat)(b:Rat)(n:Int):List Tm->Rat
 | []=>0
 |t::p=>(if n<=eN t.2 v then t.1*mev vs (Q6e t.2 v)*qpow b (eN t.2 v-n).toNat else 0)+Qc9 vs v b n p
def ML(n:Nat)(p:List Tm):Prop:=∀t∈p,t.2.length<=n
theorem ML.padd{n:Nat}{p q:List Tm}(hp:ML n p)(hq:ML n q):ML n (Qak p q):=fun t ht=>by
 rcases Qjk ht with⟨s,h1,h2⟩|⟨s,h1,h2⟩
 ·rw[<-h2];exact hp s h1
 ·rw[<-h2];exact hq s h1
theorem Qaei(a b:List Int):(Qce a b).length<=max a.length b.length:=by
 have:=Qgx (Qgy (· + ·) a b)
 rwa[Qc2]at this
theorem Q6f{p:List Tm}{t x:Tm}(h:x∈Qap p t):∃s∈p,x.2=Qce s.2 t.2:=by
 simp only[Qap,List.mem_filterMap]at h
 obtain⟨y,hy,h⟩:=h
 split at h
 ·cases h
 ·cases h;exact⟨y,hy,rfl⟩
theorem Qaej:∀(n:Nat)(l:List (List Tm)),l.length<=n->∀ {t:Tm},t∈Qc3 l->∃p∈l,∃s∈p,s.2=t.2:=by
 intro n
 induction n with
 |zero=>
  intro l hl t ht
  have:l=[]:=List.length_eq_zero_iff.1 (by omega)
  subst this
  rw[Qc3]at ht;cases ht
 | succ n ih=>
  intro l hl t ht
  match l,ht with
  | [],ht=>rw[Qc3]at ht;cases ht
  | [p],ht=>rw[Qc3]at ht;exact⟨p,by simp,t,ht,rfl⟩
  | p::q::r,ht=>
   rw[Qkg (by simp)]at ht
   generalize hL:p::q::r=L at *
   have hlen:2<=L.length:=by rw[<-hL];simp
   rcases Qjk ht with⟨s,h1,h2⟩|⟨s,h1,h2⟩
   ·obtain⟨p',hp',s',hs',e⟩:=ih _ (by rw[List.length_take];omega) h1
    exact⟨p',List.mem_of_mem_take hp',s',hs',e.trans h2⟩
   ·obtain⟨p',hp',s',hs',e⟩:=ih _ (by rw[List.length_drop];omega) h1
    exact⟨p',List.mem_of_mem_drop hp',s',hs',e.trans h2⟩
theorem Qaek{p q:List Tm}{t:Tm}(h:t∈Qdl p q):∃a∈p,∃b∈q,t.2=Qce a.2 b.2:=by
 have main:∀ {p q:List Tm},t∈Qjt p q->∃a∈p,∃b∈q,t.2=Qce a.2 b.2:=fun {p q} h=>by
  obtain⟨x,hx,s,hs,e⟩:=Qaej _ _ (Nat.le_refl _) h
  obtain⟨a,ha,rfl⟩:=List.mem_map.1 hx
  obtain⟨b,hb,e2⟩:=Q6f hs
  exact⟨a,ha,b,hb,by rw[<-e,e2,Qmq]⟩
 unfold Qdl at h
 split at h
 ·obtain⟨a,ha,b,hb,e⟩:=main h
  exact⟨b,hb,a,ha,by rw[e,Qmq]⟩
 ·exact main h
theorem ML.pmul{n:Nat}{p q:List Tm}(hp:ML n p)(hq:ML n q):ML n (Qdl p q):=fun t ht=>by
 obtain⟨a,ha,b,hb,e⟩:=Qaek ht
 have:=Qaei a.2 b.2
 have:=hp a ha
 have:=hq b hb
 rw[e];omega
theorem ML.coefN{n:Nat}{p:List Tm}(hp:ML n p)(v:Nat)(k:Int):ML n (Quy p v k):=fun t ht=>by
 obtain⟨s,h1,_,rfl⟩:=Q9r ht
 have:=Qgx (s.2.set v 0)
 rw[List.length_set]at this
 exact Nat.le_trans this (hp s h1)
theorem ML.hor{n:Nat}{p q:List Tm}(hp:ML n p)(hq:ML n q)(v top:Nat):∀k,ML n (hor p v q top k)
 |0=>hp.coefN v _
 |k+1=>((ML.hor hp hq v top k).pmul hq).padd (hp.coefN v _)
def Qc4(v n:Nat):List Int:=List.replicate v 0++[(n:Int)]
theorem Qxv{v n:Nat}(h:0<n):(Qc4 v n).getLast? ≠some 0:=by
 unfold Qc4
 rw[List.getLast?_append]
 simp
 omega
theorem Q4a{v n:Nat}(hv:v<64):MB n (Qc4 v n):=by
 refine⟨by simp[Qc4];omega,fun x hx=> ?_,fun x hx=> ?_⟩
 all_goals
  simp only[Qc4,List.mem_append,List.mem_replicate,List.mem_singleton]at hx
  omega
variable {C : Ctx} {fr : Fr} {hp : HP} {w : World} {K R : Qq}
theorem bs0{e ty d:Nat}(he:0<e):bsK e ty [] d fr hp K=K (upd (Qa1 d fr) d (.ms d 0)) (Qv hp d ⟨e,ty,[],false⟩):=Qwf (by rfl) (by simp) he
end Go.FW
namespace Go.FW
open Go
variable {C : Ctx} {fr : Fr} {hp : HP} {K : Qq}
end Go.FW
namespace Go.FW
open Go
theorem Quz:∀ {p:List Tm},Qcr p->∀n,Qcr (p.take n)
 |_,_,0=>trivial
 | [],_,n+1=>trivial
 |t::p,h,n+1=>⟨fun s hs=>h.1 s (List.mem_of_mem_take hs),Quz h.2 n⟩
theorem Nrm.take{p:List Tm}(h:Nrm p)(n:Nat):Nrm (p.take n):=⟨fun t ht=>h.c t (List.mem_of_mem_take ht),fun t ht=>h.z t (List.mem_of_mem_take ht),Quz h.s n⟩
abbrev PV.mat(r c:Nat)(l:List Rat):PV:= .agg [.int .i64 r,.int .i64 c,PV.rats l]
abbrev MF:=Nat->Nat->Rat
def Qai(l:List Rat)(m:Nat):MF:=fun r c=>l.getD (r*m+c) 0
theorem Qxw{l:List Rat}{n m r:Nat}(hl:l.length=n*m)(hr:r<n):((l.take ((r+1)*m)).drop (r*m)).map PV.rat=Qac PV.rat (Qai l m r) m:=by
 have h1:(r+1)*m<=n*m:=Nat.mul_le_mul_right _ hr
 have h2:(r+1)*m=r*m+m:=by rw[Nat.add_mul,Nat.one_mul]
 refine List.ext_getElem (by simp[Qac];omega) fun j h3 h4=> ?_
 have hj:j<m:=by simpa[Qac]using h4
 simp only[List.getElem_drop,List.getElem_take,List.getElem_map,Qac,List.getElem_range,Qai]
 rw[List.getD_eq_getElem?_getD,List.getElem?_eq_getElem (by omega)]
 rfl
structure RQ where
 n:Bool
 a:List Nat
 d:List Nat
 deriving Inhabited
abbrev PV.rq(q:RQ):PV:=PV.rr q.n q.a q.d
abbrev PV.rqs(l:List RQ):PV:= .sl 3 (l.map PV.rq)
abbrev PV.rmat(r c:Int)(l:List RQ):PV:= .agg [.int .i64 r,.int .i64 c,PV.rqs l]
def Qh3(q:RQ):Bool:=Qez q.n q.a q.d
def rqV(q:RQ):Rat:=rv q.n q.a q.d
def Qcy(r c:Int)(l:List RQ):Bool:=decide (0<=r/\r<=40/\0<=c/\c<=40/\(l.length:Int)=r*c)&&l.all Qh3
def qR(q:Rat):RQ:=⟨decide (q.num<0),dig q.num.natAbs,dig q.den⟩
theorem Qxx{R m:Nat}{l:List Rat}(hl:l.length=R*m)(hR:R<=40)(hm:m<=40):Qcy R m (l.map qR)=true:=by
 unfold Qcy
 rw[Bool.and_eq_true,decide_eq_true_eq]
 refine⟨⟨by omega,by omega,by omega,by omega,by rw[List.length_map,hl,Int.natCast_mul]⟩,?_⟩
 rw[List.all_eq_true]
 intro x hx
 obtain⟨q,hq,rfl⟩:=List.mem_map.1 hx
 exact Q0z q
theorem Q9s(l:List Rat):PV.rats l=PV.rqs (l.map qR):=by
 unfold PV.rqs PV.rats
 rw[List.map_map];rfl
theorem Ql5(R m:Nat)(l:List Rat):PV.mat R m l=PV.rmat R m (l.map qR):=by
 unfold PV.mat PV.rmat
 rw[Q9s]
theorem Qapg(q:Rat):rqV (qR q)=q:=Qcb q
theorem Q6g(l:List Rat):(l.map qR).map rqV=l:=by
 rw[List.map_map]
 conv=>rhs;rw[<-List.map_id l]
 exact List.map_congr_left fun q _=>Qapg q
def Qng(M:MF)(k:Nat):Nat->Nat->Nat
 |0,i=>i
 |f+1,i=>if M i k=0 then Qng M k f (i+1)else i
theorem Qwu(M:MF)(k:Nat):∀f i,i<=Qng M k f i/\Qng M k f i<=i+f
 |0,i=>⟨Nat.le_refl _,Nat.le_refl _⟩
 |f+1,i=>by
  unfold Qng
  split
  ·have:=Qwu M k f (i+1);omega
  ·omega
theorem Q4b(M:MF)(k:Nat):∀f i,Qng M k f i<i+f->M (Qng M k f i) k≠0
 |0,i,h=>by simp[Qng]at h
 |f+1,i,h=>by
  unfold Qng at h⊢
  split
  ·rename_i h0;rw[if_pos h0]at h;exact Q4b M k f (i+1) (by omega)
  ·rename_i h0;exact h0
def Qhk(M:MF)(R k n:Nat):Nat:=Qng M k (R-n) n
def Qd1(M:MF)(i n:Nat):MF:=fun r=>if r=n then M i else if r=i then M n else M r
def Qhr(M:MF)(n:Nat)(p:Rat):MF:=fun r c=>if r=n then M n c/p else M r c
def Qrt(M:MF)(n k:Nat):MF:=fun r c=>if r=n then M n c else M r c-M r k*M n c
structure Ech where
 M:MF
 piv:List Nat
 det:Rat
def Qf6(R:Nat)(E:Ech)(k:Nat):Ech:=
 if Qhk E.M R k E.piv.length=R then E else
  ⟨Qrt (Qhr (Qd1 E.M (Qhk E.M R k E.piv.length) E.piv.length) E.piv.length (E.M (Qhk E.M R k E.piv.length) k)) E.piv.length k,E.piv++[k],
   (if Qhk E.M R k E.piv.length=E.piv.length then E.det else -E.det)*E.M (Qhk E.M R k E.piv.length) k⟩
def Qbj(R:Nat)(M:MF):Nat->Ech
 |0=>⟨M,[],1⟩
 |k+1=>Qf6 R (Qbj R M k) k
theorem Qpi(R:Nat)(M:MF):∀k,(Qbj R M k).piv.length<=k/\(Qbj R M k).piv.length<=R/\∀x∈(Qbj R M k).piv,x<k
 |0=>⟨Nat.le_refl _,Nat.zero_le _,by simp[Qbj]⟩
 | k+1=>by
  obtain⟨h1,h2,h3⟩:=Qpi R M k
  show(Qf6 R (Qbj R M k) k).piv.length<=k+1/\_
  simp only[Qbj]
  unfold Qf6
  split
  ·exact⟨by omega,h2,fun x hx=>by have:=h3 x hx;omega⟩
  ·rename_i h
   have:=Qwu (Qbj R M k).M k (R-(Qbj R M k).piv.length) (Qbj R M k).piv.length
   have h4:Qhk (Qbj R M k).M R k (Qbj R M k).piv.length<=R:=by unfold Qhk;omega
   have h5:(Qbj R M k).piv.length<=Qhk (Qbj R M k).M R k (Qbj R M k).piv.length:=this.1
   refine⟨by simp;omega,by simp;omega,fun x hx=> ?_⟩
   simp only[List.mem_append,List.mem_singleton]at hx
   rcases hx with hx|hx
   ·have:=h3 x hx;omega
   ·omega
def MBd(K R w:Nat)(M:MF):Prop:=∀r,r<R->∀c,c<w->rs (M r c)<=K
theorem Qakl:PV.le (.agg [.int .i64 0,.int .i64 0,.nilS]) (PV.rmat 0 0 []):=by simp[PV.le,PV.leL,PV.le1,PV.rmat,PV.rqs]
def Q6h(K R w n:Nat)(M:MF):Prop:=∀k,k<=n->MBd K R w (Qbj R M k).M/\rs (Qbj R M k).det<=K
def Qh4(p:Nat->Bool):Nat->Nat->Nat
 |0,i=>i
 |f+1,i=>if p i then i else Qh4 p f (i+1)
theorem Qjl{p:Nat->Bool}:∀ {f i n:Nat},i<=n->n<i+f->p n=true->(∀j,i<=j->j<n->p j=false)->Qh4 p f i=n
 |0,i,n,h1,h2,_,_=>by omega
 | f+1,i,n,h1,h2,h3,h4=>by
  unfold Qh4
  by_cases e:i=n
  ·subst e;rw[if_pos h3]
  ·rw[h4 i (Nat.le_refl _) (by omega)]
   exact Qjl (by omega) (by omega) h3 fun j h5 h6=>h4 j (by omega) h6
theorem Qhf{p:Nat->Bool}:∀ {f i:Nat},(∀j,i<=j->j<i+f->p j=false)->Qh4 p f i=i+f
 |0,i,_=>rfl
 |f+1,i,h=>by
  unfold Qh4
  rw[h i (Nat.le_refl _) (by omega)]
  have:=Qhf (p:=p) (f:=f) (i:=i+1) fun j h5 h6=>h j (by omega) (by omega)
  simp only[Bool.false_eq_true,if_false];omega
def Qd2(x y:Nat->Rat)(c:Rat):Nat->Rat:=fun i=>x i+c*y i
def Qb5(M:MF)(R:Nat):Nat:=Qh4 (fun i=>decide (M i i≠0)) R 0
def Qcz(M:MF)(R i:Nat):Nat:=Qh4 (fun k=>decide (M i k≠0)) R 0
def Qbk(M:MF)(R:Nat):Nat:=Qh4 (fun i=>decide (Qcz M R i<R)) R 0
def Qbb (M:MF) (R:Nat):List (Rat×(Nat->Rat)):=
  if Qb5 M R<R then [(M (Qb5 M R) (Qb5 M R),Qd2 (fun _=>0) (M (Qb5 M R)) (1/M (Qb5 M R) (Qb5 M R)))]
  else if Qbk M R<R then
    [(1/(M (Qbk M R) (Qcz M R (Qbk M R))+M (Qbk M R) (Qcz M R (Qbk M R))),Qd2 (M (Qbk M R)) (M (Qcz M R (Qbk M R))) 1),
     (-(1/(M (Qbk M R) (Qcz M R (Qbk M R))+M (Qbk M R) (Qcz M R (Qbk M R)))),Qd2 (M (Qbk M R)) (M (Qcz M R (Qbk M R))) (-1))]
  else []
abbrev PV.form(w:Nat)(f:Rat×(Nat->Rat)):PV:= .agg [.bool (decide (f.1.num<0)),PV.num f.1.num.natAbs,PV.num f.1.den,.sl 3 (Qac PV.rat f.2 w)]
end Go.FW
