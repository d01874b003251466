/- Part 4 of the proof of SquaresGrams: FwSI, FwSJ, FwSK, FwSL, FwUA, FwSM, FwUC, FwVA. Own lemmas; no conditions. -/
import Derived.Test.YtkoclfmjlolkhaaGreatSquaresGramsPart3
set_option linter.unusedSimpArgs false
set_option linter.unusedVariables false
set_option linter.unnecessarySimpa false
set_option maxRecDepth 100000
namespace Go.FW
open Go
theorem Q6k{B B':List Nat}{F:Fr}(h:(B'.all B.contains)=true):Qao B' (Qao B F)=Qao B F:=by
 funext s
 rw[Qqe B']
 split
 ·rename_i h1
  rw[Qqe B]at h1⊢
  split
  ·rfl
  ·rename_i h2
   rw[if_neg h2]at h1
   exfalso
   apply h2
   rw[List.any_eq_true]at h1⊢
   obtain⟨x,hx,hb⟩:=h1
   rw[List.all_eq_true]at h
   exact⟨x,hx,h x (List.contains_iff_mem.1 hb)⟩
 ·rfl
theorem Q6l{W:List (Nat×Nat)}{B:List Nat}{J F:Fr}:Qao B (ovr W J F)=ovr W (Qao B J) (Qao B F):=by
 funext s;unfold Qao ovr;split<;>rfl
theorem Qhq{V W:List (Nat×Nat)}{B B':List Nat}{X Z F:Fr}(h:Qs7 V W=true)(hB:(B'.all B.contains)=true):ovr V X (Qao B' (ovr W Z (Qao B F)))=ovr W (ovr V X (Qao B' Z)) (Qao B F):=by
 rw[Q6l,Q6k hB,Qbg h]
section
variable {C : Ctx} {fr : Fr} {hp : HP} {w : World} {K R : Qp}
theorem Qar6{ty d β n e' ty':Nat}{xs:List PV}{fz:Bool}(h:hp β=some ⟨e',ty',xs,fz⟩)(hB:isB β=false:=by decide):
  bsK 1 ty [.ms β n] d fr hp K=K (upd (Qa7 d fr) d (.ms d 1)) (Qw (Qaq hp [β]) d ⟨1,ty,[.sl e' (xs.take n)],false⟩):=by
 have e:=Qv0 hp β n _ _ _ _ h hB
 have e2:Qq6 hp 1 [.ms β n]:=fun p hp'=>by
  simp only[List.mem_singleton]at hp'
  subst hp'
  rw[e];exact⟨rfl,rfl⟩
 apply propext
 simp only[bsK,List.map_cons,List.map_nil,e,List.length_cons,List.length_nil]
 exact⟨fun h=>h.2.2,fun h=>⟨by omega,e2,h⟩⟩
end
def Q6m(m:List Int)(v:Nat):List Int:=Qbb (m.set v 0)
def Quy(p:List Tm)(v:Nat)(n:Int):List Tm:=p.filterMap fun t=>if eN t.2 v=n then some (t.1,Q6m t.2 v)else none
theorem Q92{p:List Tm}{v:Nat}{n:Int}{t:Tm}(h:t∈Quy p v n):∃s∈p,eN s.2 v=n/\t=(s.1,Q6m s.2 v):=by
 simp only[Quy,List.mem_filterMap]at h
 obtain⟨s,h1,h2⟩:=h
 split at h2
 ·rename_i h3;cases h2;exact⟨s,h1,h3,rfl⟩
 ·cases h2
end Go.FW
namespace Go.FW
open Go
def hor(p:List Tm)(v:Nat)(q:List Tm)(top:Nat):Nat->List Tm
 |0=>Quy p v top
 |k+1=>Qap (Qhj (hor p v q top k) q) (Quy p v ((top:Int)-(k+1)))
def Qcu(vs:List Rat)(v:Nat)(b:Rat)(n:Int):List Tm->Rat
 | []=>0
 |t::p=>(if n<=eN t.2 v then t.1*mev vs (Q6m t.2 v)*qpow b (eN t.2 v-n).toNat else 0)+Qcu vs v b n p
def ML(n:Nat)(p:List Tm):Prop:=∀t∈p,t.2.length<=n
theorem ML.padd{n:Nat}{p q:List Tm}(hp:ML n p)(hq:ML n q):ML n (Qap p q):=fun t ht=>by
 rcases Qjk ht with⟨s,h1,h2⟩|⟨s,h1,h2⟩
 ·rw[<-h2];exact hp s h1
 ·rw[<-h2];exact hq s h1
theorem Qth(a b:List Int):(Qa5 a b).length<=max a.length b.length:=by
 have:=Qe1 (Qgh (· + ·) a b)
 rwa[Qcy]at this
theorem Q6n{p:List Tm}{t x:Tm}(h:x∈Qa6 p t):∃s∈p,x.2=Qa5 s.2 t.2:=by
 simp only[Qa6,List.mem_filterMap]at h
 obtain⟨y,hy,h⟩:=h
 split at h
 ·cases h
 ·cases h;exact⟨y,hy,rfl⟩
theorem Qaew:∀(n:Nat)(l:List (List Tm)),l.length<=n->∀ {t:Tm},t∈Qc5 l->∃p∈l,∃s∈p,s.2=t.2:=by
 intro n
 induction n with
 |zero=>
  intro l hl t ht
  have:l=[]:=List.length_eq_zero_iff.1 (by omega)
  subst this
  rw[Qc5]at ht;cases ht
 | succ n ih=>
  intro l hl t ht
  match l,ht with
  | [],ht=>rw[Qc5]at ht;cases ht
  | [p],ht=>rw[Qc5]at ht;exact⟨p,by simp,t,ht,rfl⟩
  | p::q::r,ht=>
   rw[Qkf (by simp)]at ht
   generalize hL:p::q::r=L at *
   have hlen:2<=L.length:=by rw[<-hL];simp
   rcases Qjk ht with⟨s,h1,h2⟩|⟨s,h1,h2⟩
   ·obtain⟨p',hp',s',hs',e⟩:=ih _ (by rw[List.length_take];omega) h1
    exact⟨p',List.mem_of_mem_take hp',s',hs',e.trans h2⟩
   ·obtain⟨p',hp',s',hs',e⟩:=ih _ (by rw[List.length_drop];omega) h1
    exact⟨p',List.mem_of_mem_drop hp',s',hs',e.trans h2⟩
theorem Qaex{p q:List Tm}{t:Tm}(h:t∈Qhj p q):∃a∈p,∃b∈q,t.2=Qa5 a.2 b.2:=by
 have main:∀ {p q:List Tm},t∈Qrk p q->∃a∈p,∃b∈q,t.2=Qa5 a.2 b.2:=fun {p q} h=>by
  obtain⟨x,hx,s,hs,e⟩:=Qaew _ _ (Nat.le_refl _) h
  obtain⟨a,ha,rfl⟩:=List.mem_map.1 hx
  obtain⟨b,hb,e2⟩:=Q6n hs
  exact⟨a,ha,b,hb,by rw[<-e,e2,Qmn]⟩
 unfold Qhj at h
 split at h
 ·obtain⟨a,ha,b,hb,e⟩:=main h
  exact⟨b,hb,a,ha,by rw[e,Qmn]⟩
 ·exact main h
theorem ML.pmul{n:Nat}{p q:List Tm}(hp:ML n p)(hq:ML n q):ML n (Qhj p q):=fun t ht=>by
 obtain⟨a,ha,b,hb,e⟩:=Qaex ht
 have:=Qth a.2 b.2
 have:=hp a ha
 have:=hq b hb
 rw[e];omega
theorem ML.coefN{n:Nat}{p:List Tm}(hp:ML n p)(v:Nat)(k:Int):ML n (Quy p v k):=fun t ht=>by
 obtain⟨s,h1,_,rfl⟩:=Q92 ht
 have:=Qe1 (s.2.set v 0)
 rw[List.length_set]at this
 exact Nat.le_trans this (hp s h1)
theorem ML.hor{n:Nat}{p q:List Tm}(hp:ML n p)(hq:ML n q)(v top:Nat):∀k,ML n (hor p v q top k)
 |0=>hp.coefN v _
 |k+1=>((ML.hor hp hq v top k).pmul hq).padd (hp.coefN v _)
def Qc6(v n:Nat):List Int:=List.replicate v 0++[(n:Int)]
theorem Qxr{v n:Nat}(h:0<n):(Qc6 v n).getLast? ≠some 0:=by
 unfold Qc6
 rw[List.getLast?_append]
 simp
 omega
theorem Q4j{v n:Nat}(hv:v<64):MB n (Qc6 v n):=by
 refine⟨by simp[Qc6];omega,fun x hx=> ?_,fun x hx=> ?_⟩
 all_goals
  simp only[Qc6,List.mem_append,List.mem_replicate,List.mem_singleton]at hx
  omega
variable {C : Ctx} {fr : Fr} {hp : HP} {w : World} {K R : Qp}
theorem bs0{e ty d:Nat}(he:0<e):bsK e ty [] d fr hp K=K (upd (Qa7 d fr) d (.ms d 0)) (Qw hp d ⟨e,ty,[],false⟩):=Qv9 (by rfl) (by simp) he
end Go.FW
namespace Go.FW
open Go
variable {C : Ctx} {fr : Fr} {hp : HP} {K : Qp}
end Go.FW
namespace Go.FW
open Go
theorem Quz:∀ {p:List Tm},Qcz p->∀n,Qcz (p.take n)
 |_,_,0=>trivial
 | [],_,n+1=>trivial
 |t::p,h,n+1=>⟨fun s hs=>h.1 s (List.mem_of_mem_take hs),Quz h.2 n⟩
theorem Nrm.take{p:List Tm}(h:Nrm p)(n:Nat):Nrm (p.take n):=⟨fun t ht=>h.c t (List.mem_of_mem_take ht),fun t ht=>h.z t (List.mem_of_mem_take ht),Quz h.s n⟩
abbrev PV.mat(r c:Nat)(l:List Rat):PV:= .agg [.int .i64 r,.int .i64 c,PV.rats l]
abbrev MF:=Nat->Nat->Rat
def Qai(l:List Rat)(m:Nat):MF:=fun r c=>l.getD (r*m+c) 0
theorem Qxs{l:List Rat}{n m r:Nat}(hl:l.length=n*m)(hr:r<n):((l.take ((r+1)*m)).drop (r*m)).map PV.rat=Qad PV.rat (Qai l m r) m:=by
 have h1:(r+1)*m<=n*m:=Nat.mul_le_mul_right _ hr
 have h2:(r+1)*m=r*m+m:=by rw[Nat.add_mul,Nat.one_mul]
 refine List.ext_getElem (by simp[Qad];omega) fun j h3 h4=> ?_
 have hj:j<m:=by simpa[Qad]using h4
 simp only[List.getElem_drop,List.getElem_take,List.getElem_map,Qad,List.getElem_range,Qai]
 rw[List.getD_eq_getElem?_getD,List.getElem?_eq_getElem (by omega)]
 rfl
structure RQ where
 n:Bool
 a:List Nat
 d:List Nat
 deriving Inhabited
abbrev PV.rq(q:RQ):PV:=PV.rr q.n q.a q.d
abbrev PV.rqs(l:List RQ):PV:= .sl 3 (l.map PV.rq)
abbrev PV.rmat(r c:Int)(l:List RQ):PV:= .agg [.int .i64 r,.int .i64 c,PV.rqs l]
def Qh8(q:RQ):Bool:=Qf3 q.n q.a q.d
def rqV(q:RQ):Rat:=rv q.n q.a q.d
def Qcs(r c:Int)(l:List RQ):Bool:=decide (0<=r/\r<=40/\0<=c/\c<=40/\(l.length:Int)=r*c)&&l.all Qh8
def qR(q:Rat):RQ:=⟨decide (q.num<0),dig q.num.natAbs,dig q.den⟩
theorem Qxt{R m:Nat}{l:List Rat}(hl:l.length=R*m)(hR:R<=40)(hm:m<=40):Qcs R m (l.map qR)=true:=by
 unfold Qcs
 rw[Bool.and_eq_true,decide_eq_true_eq]
 refine⟨⟨by omega,by omega,by omega,by omega,by rw[List.length_map,hl,Int.natCast_mul]⟩,?_⟩
 rw[List.all_eq_true]
 intro x hx
 obtain⟨q,hq,rfl⟩:=List.mem_map.1 hx
 exact Q0w q
theorem Q93(l:List Rat):PV.rats l=PV.rqs (l.map qR):=by
 unfold PV.rqs PV.rats
 rw[List.map_map];rfl
theorem Qiz(R m:Nat)(l:List Rat):PV.mat R m l=PV.rmat R m (l.map qR):=by
 unfold PV.mat PV.rmat
 rw[Q93]
theorem Qapa(q:Rat):rqV (qR q)=q:=Qca q
theorem Q6o(l:List Rat):(l.map qR).map rqV=l:=by
 rw[List.map_map]
 conv=>rhs;rw[<-List.map_id l]
 exact List.map_congr_left fun q _=>Qapa q
def Qm7(M:MF)(k:Nat):Nat->Nat->Nat
 |0,i=>i
 |f+1,i=>if M i k=0 then Qm7 M k f (i+1)else i
theorem Qwo(M:MF)(k:Nat):∀f i,i<=Qm7 M k f i/\Qm7 M k f i<=i+f
 |0,i=>⟨Nat.le_refl _,Nat.le_refl _⟩
 |f+1,i=>by
  unfold Qm7
  split
  ·have:=Qwo M k f (i+1);omega
  ·omega
theorem Q4k(M:MF)(k:Nat):∀f i,Qm7 M k f i<i+f->M (Qm7 M k f i) k≠0
 |0,i,h=>by simp[Qm7]at h
 |f+1,i,h=>by
  unfold Qm7 at h⊢
  split
  ·rename_i h0;rw[if_pos h0]at h;exact Q4k M k f (i+1) (by omega)
  ·rename_i h0;exact h0
def Qhk(M:MF)(R k n:Nat):Nat:=Qm7 M k (R-n) n
def Qd5(M:MF)(i n:Nat):MF:=fun r=>if r=n then M i else if r=i then M n else M r
def Qhx(M:MF)(n:Nat)(p:Rat):MF:=fun r c=>if r=n then M n c/p else M r c
def Qrm(M:MF)(n k:Nat):MF:=fun r c=>if r=n then M n c else M r c-M r k*M n c
structure Ech where
 M:MF
 piv:List Nat
 det:Rat
def Qf5(R:Nat)(E:Ech)(k:Nat):Ech:=
 if Qhk E.M R k E.piv.length=R then E else
  ⟨Qrm (Qhx (Qd5 E.M (Qhk E.M R k E.piv.length) E.piv.length) E.piv.length (E.M (Qhk E.M R k E.piv.length) k)) E.piv.length k,E.piv++[k],
   (if Qhk E.M R k E.piv.length=E.piv.length then E.det else -E.det)*E.M (Qhk E.M R k E.piv.length) k⟩
def Qbo(R:Nat)(M:MF):Nat->Ech
 |0=>⟨M,[],1⟩
 |k+1=>Qf5 R (Qbo R M k) k
theorem Qo9(R:Nat)(M:MF):∀k,(Qbo R M k).piv.length<=k/\(Qbo R M k).piv.length<=R/\∀x∈(Qbo R M k).piv,x<k
 |0=>⟨Nat.le_refl _,Nat.zero_le _,by simp[Qbo]⟩
 | k+1=>by
  obtain⟨h1,h2,h3⟩:=Qo9 R M k
  show(Qf5 R (Qbo R M k) k).piv.length<=k+1/\_
  simp only[Qbo]
  unfold Qf5
  split
  ·exact⟨by omega,h2,fun x hx=>by have:=h3 x hx;omega⟩
  ·rename_i h
   have:=Qwo (Qbo R M k).M k (R-(Qbo R M k).piv.length) (Qbo R M k).piv.length
   have h4:Qhk (Qbo R M k).M R k (Qbo R M k).piv.length<=R:=by unfold Qhk;omega
   have h5:(Qbo R M k).piv.length<=Qhk (Qbo R M k).M R k (Qbo R M k).piv.length:=this.1
   refine⟨by simp;omega,by simp;omega,fun x hx=> ?_⟩
   simp only[List.mem_append,List.mem_singleton]at hx
   rcases hx with hx|hx
   ·have:=h3 x hx;omega
   ·omega
def MBd(K R w:Nat)(M:MF):Prop:=∀r,r<R->∀c,c<w->rs (M r c)<=K
theorem Qako:PV.le (.agg [.int .i64 0,.int .i64 0,.nilS]) (PV.rmat 0 0 []):=by simp[PV.le,PV.leL,PV.le1,PV.rmat,PV.rqs]
def Q6p(K R w n:Nat)(M:MF):Prop:=∀k,k<=n->MBd K R w (Qbo R M k).M/\rs (Qbo R M k).det<=K
def Qh9(p:Nat->Bool):Nat->Nat->Nat
 |0,i=>i
 |f+1,i=>if p i then i else Qh9 p f (i+1)
theorem Qjl{p:Nat->Bool}:∀ {f i n:Nat},i<=n->n<i+f->p n=true->(∀j,i<=j->j<n->p j=false)->Qh9 p f i=n
 |0,i,n,h1,h2,_,_=>by omega
 | f+1,i,n,h1,h2,h3,h4=>by
  unfold Qh9
  by_cases e:i=n
  ·subst e;rw[if_pos h3]
  ·rw[h4 i (Nat.le_refl _) (by omega)]
   exact Qjl (by omega) (by omega) h3 fun j h5 h6=>h4 j (by omega) h6
theorem Qhe{p:Nat->Bool}:∀ {f i:Nat},(∀j,i<=j->j<i+f->p j=false)->Qh9 p f i=i+f
 |0,i,_=>rfl
 |f+1,i,h=>by
  unfold Qh9
  rw[h i (Nat.le_refl _) (by omega)]
  have:=Qhe (p:=p) (f:=f) (i:=i+1) fun j h5 h6=>h j (by omega) (by omega)
  simp only[Bool.false_eq_true,if_false];omega
def Qd6(x y:Nat->Rat)(c:Rat):Nat->Rat:=fun i=>x i+c*y i
def Qb9(M:MF)(R:Nat):Nat:=Qh9 (fun i=>decide (M i i≠0)) R 0
def Qc3(M:MF)(R i:Nat):Nat:=Qh9 (fun k=>decide (M i k≠0)) R 0
def Qbp(M:MF)(R:Nat):Nat:=Qh9 (fun i=>decide (Qc3 M R i<R)) R 0
def Qbf (M:MF) (R:Nat):List (Rat×(Nat->Rat)):=
  if Qb9 M R<R then [(M (Qb9 M R) (Qb9 M R),Qd6 (fun _=>0) (M (Qb9 M R)) (1/M (Qb9 M R) (Qb9 M R)))]
  else if Qbp M R<R then
    [(1/(M (Qbp M R) (Qc3 M R (Qbp M R))+M (Qbp M R) (Qc3 M R (Qbp M R))),Qd6 (M (Qbp M R)) (M (Qc3 M R (Qbp M R))) 1),
     (-(1/(M (Qbp M R) (Qc3 M R (Qbp M R))+M (Qbp M R) (Qc3 M R (Qbp M R)))),Qd6 (M (Qbp M R)) (M (Qc3 M R (Qbp M R))) (-1))]
  else []
abbrev PV.form(w:Nat)(f:Rat×(Nat->Rat)):PV:= .agg [.bool (decide (f.1.num<0)),PV.num f.1.num.natAbs,PV.num f.1.den,.sl 3 (Qad PV.rat f.2 w)]
end Go.FW
