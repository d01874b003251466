/- Part 4 of the proof of SquaresForms: FwSI, FwSJ, FwSK, FwSL, FwUA, FwSM, FwUC, FwVA. Own lemmas; no conditions. -/
import Derived.Test.YtkoclfmjlolkhaaGreatSquaresFormsPart3
set_option linter.unusedSimpArgs false
set_option linter.unusedVariables false
set_option linter.unnecessarySimpa false
set_option maxRecDepth 100000
namespace Go.FW
open Go
theorem Q5w{B B':List Nat}{F:Fr}(h:(B'.all B.contains)=true):Qan B' (Qan B F)=Qan B F:=by
 funext s
 rw[Qqe B']
 split
 ·rename_i h1
  rw[Qqe B]at h1⊢
  split
  ·rfl
  ·rename_i h2
   rw[if_neg h2]at h1
   exfalso
   apply h2
   rw[List.any_eq_true]at h1⊢
   obtain⟨x,hx,hb⟩:=h1
   rw[List.all_eq_true]at h
   exact⟨x,hx,h x (List.contains_iff_mem.1 hb)⟩
 ·rfl
theorem Q5x{W:List (Nat×Nat)}{B:List Nat}{J F:Fr}:Qan B (ovr W J F)=ovr W (Qan B J) (Qan B F):=by
 funext s;unfold Qan ovr;split<;>rfl
theorem Qjr{V W:List (Nat×Nat)}{B B':List Nat}{X Z F:Fr}(h:Qs0 V W=true)(hB:(B'.all B.contains)=true):ovr V X (Qan B' (ovr W Z (Qan B F)))=ovr W (ovr V X (Qan B' Z)) (Qan B F):=by
 rw[Q5x,Q5w hB,Qbj h]
section
variable {C : Ctx} {fr : Fr} {hp : HP} {w : World} {K R : Qo}
theorem Qaq5{ty d β n e' ty':Nat}{xs:List PV}{fz:Bool}(h:hp β=some ⟨e',ty',xs,fz⟩)(hB:isB β=false:=by decide):
  bsK 1 ty [.ms β n] d fr hp K=K (upd (Qa4 d fr) d (.ms d 1)) (Qw (Qap hp [β]) d ⟨1,ty,[.sl e' (xs.take n)],false⟩):=by
 have e:=Qvs hp β n _ _ _ _ h hB
 have e2:Qq2 hp 1 [.ms β n]:=fun p hp'=>by
  simp only[List.mem_singleton]at hp'
  subst hp'
  rw[e];exact⟨rfl,rfl⟩
 apply propext
 simp only[bsK,List.map_cons,List.map_nil,e,List.length_cons,List.length_nil]
 exact⟨fun h=>h.2.2,fun h=>⟨by omega,e2,h⟩⟩
end
def Q5y(m:List Int)(v:Nat):List Int:=Qba (m.set v 0)
def Quq(p:List Tm)(v:Nat)(n:Int):List Tm:=p.filterMap fun t=>if eN t.2 v=n then some (t.1,Q5y t.2 v)else none
theorem Q9d{p:List Tm}{v:Nat}{n:Int}{t:Tm}(h:t∈Quq p v n):∃s∈p,eN s.2 v=n/\t=(s.1,Q5y s.2 v):=by
 simp only[Quq,List.mem_filterMap]at h
 obtain⟨s,h1,h2⟩:=h
 split at h2
 ·rename_i h3;cases h2;exact⟨s,h1,h3,rfl⟩
 ·cases h2
end Go.FW
namespace Go.FW
open Go
def hor(p:List Tm)(v:Nat)(q:List Tm)(top:Nat):Nat->List Tm
 |0=>Quq p v top
 |k+1=>Qao (Qhg (hor p v q top k) q) (Quq p v ((top:Int)-(k+1)))
def Qc0(vs:List Rat)(v:Nat)(b:Rat)(n:Int):List Tm->Rat
 | []=>0
 |t::p=>(if n<=eN t.2 v then t.1*mev vs (Q5y t.2 v)*qpow b (eN t.2 v-n).toNat else 0)+Qc0 vs v b n p
def ML(n:Nat)(p:List Tm):Prop:=∀t∈p,t.2.length<=n
theorem ML.padd{n:Nat}{p q:List Tm}(hp:ML n p)(hq:ML n q):ML n (Qao p q):=fun t ht=>by
 rcases Qjb ht with⟨s,h1,h2⟩|⟨s,h1,h2⟩
 ·rw[<-h2];exact hp s h1
 ·rw[<-h2];exact hq s h1
theorem Qad7(a b:List Int):(Qcl a b).length<=max a.length b.length:=by
 have:=Qey (Qgu (· + ·) a b)
 rwa[Qc3]at this
theorem Q5z{p:List Tm}{t x:Tm}(h:x∈Qa3 p t):∃s∈p,x.2=Qcl s.2 t.2:=by
 simp only[Qa3,List.mem_filterMap]at h
 obtain⟨y,hy,h⟩:=h
 split at h
 ·cases h
 ·cases h;exact⟨y,hy,rfl⟩
theorem Qad8:∀(n:Nat)(l:List (List Tm)),l.length<=n->∀ {t:Tm},t∈Qc4 l->∃p∈l,∃s∈p,s.2=t.2:=by
 intro n
 induction n with
 |zero=>
  intro l hl t ht
  have:l=[]:=List.length_eq_zero_iff.1 (by omega)
  subst this
  rw[Qc4]at ht;cases ht
 | succ n ih=>
  intro l hl t ht
  match l,ht with
  | [],ht=>rw[Qc4]at ht;cases ht
  | [p],ht=>rw[Qc4]at ht;exact⟨p,by simp,t,ht,rfl⟩
  | p::q::r,ht=>
   rw[Qka (by simp)]at ht
   generalize hL:p::q::r=L at *
   have hlen:2<=L.length:=by rw[<-hL];simp
   rcases Qjb ht with⟨s,h1,h2⟩|⟨s,h1,h2⟩
   ·obtain⟨p',hp',s',hs',e⟩:=ih _ (by rw[List.length_take];omega) h1
    exact⟨p',List.mem_of_mem_take hp',s',hs',e.trans h2⟩
   ·obtain⟨p',hp',s',hs',e⟩:=ih _ (by rw[List.length_drop];omega) h1
    exact⟨p',List.mem_of_mem_drop hp',s',hs',e.trans h2⟩
theorem Qad9{p q:List Tm}{t:Tm}(h:t∈Qhg p q):∃a∈p,∃b∈q,t.2=Qcl a.2 b.2:=by
 have main:∀ {p q:List Tm},t∈Qrf p q->∃a∈p,∃b∈q,t.2=Qcl a.2 b.2:=fun {p q} h=>by
  obtain⟨x,hx,s,hs,e⟩:=Qad8 _ _ (Nat.le_refl _) h
  obtain⟨a,ha,rfl⟩:=List.mem_map.1 hx
  obtain⟨b,hb,e2⟩:=Q5z hs
  exact⟨a,ha,b,hb,by rw[<-e,e2,Qmk]⟩
 unfold Qhg at h
 split at h
 ·obtain⟨a,ha,b,hb,e⟩:=main h
  exact⟨b,hb,a,ha,by rw[e,Qmk]⟩
 ·exact main h
theorem ML.pmul{n:Nat}{p q:List Tm}(hp:ML n p)(hq:ML n q):ML n (Qhg p q):=fun t ht=>by
 obtain⟨a,ha,b,hb,e⟩:=Qad9 ht
 have:=Qad7 a.2 b.2
 have:=hp a ha
 have:=hq b hb
 rw[e];omega
theorem ML.coefN{n:Nat}{p:List Tm}(hp:ML n p)(v:Nat)(k:Int):ML n (Quq p v k):=fun t ht=>by
 obtain⟨s,h1,_,rfl⟩:=Q9d ht
 have:=Qey (s.2.set v 0)
 rw[List.length_set]at this
 exact Nat.le_trans this (hp s h1)
theorem ML.hor{n:Nat}{p q:List Tm}(hp:ML n p)(hq:ML n q)(v top:Nat):∀k,ML n (hor p v q top k)
 |0=>hp.coefN v _
 |k+1=>((ML.hor hp hq v top k).pmul hq).padd (hp.coefN v _)
def Qc5(v n:Nat):List Int:=List.replicate v 0++[(n:Int)]
theorem Qxe{v n:Nat}(h:0<n):(Qc5 v n).getLast? ≠some 0:=by
 unfold Qc5
 rw[List.getLast?_append]
 simp
 omega
theorem Q3v{v n:Nat}(hv:v<64):MB n (Qc5 v n):=by
 refine⟨by simp[Qc5];omega,fun x hx=> ?_,fun x hx=> ?_⟩
 all_goals
  simp only[Qc5,List.mem_append,List.mem_replicate,List.mem_singleton]at hx
  omega
variable {C : Ctx} {fr : Fr} {hp : HP} {w : World} {K R : Qo}
theorem bs0{e ty d:Nat}(he:0<e):bsK e ty [] d fr hp K=K (upd (Qa4 d fr) d (.ms d 0)) (Qw hp d ⟨e,ty,[],false⟩):=Qv1 (by rfl) (by simp) he
end Go.FW
namespace Go.FW
open Go
variable {C : Ctx} {fr : Fr} {hp : HP} {K : Qo}
end Go.FW
namespace Go.FW
open Go
theorem Qur:∀ {p:List Tm},Qcw p->∀n,Qcw (p.take n)
 |_,_,0=>trivial
 | [],_,n+1=>trivial
 |t::p,h,n+1=>⟨fun s hs=>h.1 s (List.mem_of_mem_take hs),Qur h.2 n⟩
theorem Nrm.take{p:List Tm}(h:Nrm p)(n:Nat):Nrm (p.take n):=⟨fun t ht=>h.c t (List.mem_of_mem_take ht),fun t ht=>h.z t (List.mem_of_mem_take ht),Qur h.s n⟩
abbrev PV.mat(r c:Nat)(l:List Rat):PV:= .agg [.int .i64 r,.int .i64 c,PV.rats l]
abbrev MF:=Nat->Nat->Rat
def Qai(l:List Rat)(m:Nat):MF:=fun r c=>l.getD (r*m+c) 0
theorem Qxf{l:List Rat}{n m r:Nat}(hl:l.length=n*m)(hr:r<n):((l.take ((r+1)*m)).drop (r*m)).map PV.rat=Qad PV.rat (Qai l m r) m:=by
 have h1:(r+1)*m<=n*m:=Nat.mul_le_mul_right _ hr
 have h2:(r+1)*m=r*m+m:=by rw[Nat.add_mul,Nat.one_mul]
 refine List.ext_getElem (by simp[Qad];omega) fun j h3 h4=> ?_
 have hj:j<m:=by simpa[Qad]using h4
 simp only[List.getElem_drop,List.getElem_take,List.getElem_map,Qad,List.getElem_range,Qai]
 rw[List.getD_eq_getElem?_getD,List.getElem?_eq_getElem (by omega)]
 rfl
structure RQ where
 n:Bool
 a:List Nat
 d:List Nat
 deriving Inhabited
abbrev PV.rq(q:RQ):PV:=PV.rr q.n q.a q.d
abbrev PV.rqs(l:List RQ):PV:= .sl 3 (l.map PV.rq)
abbrev PV.rmat(r c:Int)(l:List RQ):PV:= .agg [.int .i64 r,.int .i64 c,PV.rqs l]
def Qh5(q:RQ):Bool:=Qgj q.n q.a q.d
def rqV(q:RQ):Rat:=rv q.n q.a q.d
def Qcs(r c:Int)(l:List RQ):Bool:=decide (0<=r/\r<=40/\0<=c/\c<=40/\(l.length:Int)=r*c)&&l.all Qh5
def qR(q:Rat):RQ:=⟨decide (q.num<0),dig q.num.natAbs,dig q.den⟩
theorem Qxg{R m:Nat}{l:List Rat}(hl:l.length=R*m)(hR:R<=40)(hm:m<=40):Qcs R m (l.map qR)=true:=by
 unfold Qcs
 rw[Bool.and_eq_true,decide_eq_true_eq]
 refine⟨⟨by omega,by omega,by omega,by omega,by rw[List.length_map,hl,Int.natCast_mul]⟩,?_⟩
 rw[List.all_eq_true]
 intro x hx
 obtain⟨q,hq,rfl⟩:=List.mem_map.1 hx
 exact Q0h q
theorem Q9e(l:List Rat):PV.rats l=PV.rqs (l.map qR):=by
 unfold PV.rqs PV.rats
 rw[List.map_map];rfl
theorem Qiu(R m:Nat)(l:List Rat):PV.mat R m l=PV.rmat R m (l.map qR):=by
 unfold PV.mat PV.rmat
 rw[Q9e]
theorem Qaoc(q:Rat):rqV (qR q)=q:=Qck q
theorem Q50(l:List Rat):(l.map qR).map rqV=l:=by
 rw[List.map_map]
 conv=>rhs;rw[<-List.map_id l]
 exact List.map_congr_left fun q _=>Qaoc q
def Qm4(M:MF)(k:Nat):Nat->Nat->Nat
 |0,i=>i
 |f+1,i=>if M i k=0 then Qm4 M k f (i+1)else i
theorem Qwf(M:MF)(k:Nat):∀f i,i<=Qm4 M k f i/\Qm4 M k f i<=i+f
 |0,i=>⟨Nat.le_refl _,Nat.le_refl _⟩
 |f+1,i=>by
  unfold Qm4
  split
  ·have:=Qwf M k f (i+1);omega
  ·omega
theorem Q3w(M:MF)(k:Nat):∀f i,Qm4 M k f i<i+f->M (Qm4 M k f i) k≠0
 |0,i,h=>by simp[Qm4]at h
 |f+1,i,h=>by
  unfold Qm4 at h⊢
  split
  ·rename_i h0;rw[if_pos h0]at h;exact Q3w M k f (i+1) (by omega)
  ·rename_i h0;exact h0
def Qhj(M:MF)(R k n:Nat):Nat:=Qm4 M k (R-n) n
def Qd4(M:MF)(i n:Nat):MF:=fun r=>if r=n then M i else if r=i then M n else M r
def Qhv(M:MF)(n:Nat)(p:Rat):MF:=fun r c=>if r=n then M n c/p else M r c
def Qrh(M:MF)(n k:Nat):MF:=fun r c=>if r=n then M n c else M r c-M r k*M n c
structure Ech where
 M:MF
 piv:List Nat
 det:Rat
def Qf0(R:Nat)(E:Ech)(k:Nat):Ech:=
 if Qhj E.M R k E.piv.length=R then E else
  ⟨Qrh (Qhv (Qd4 E.M (Qhj E.M R k E.piv.length) E.piv.length) E.piv.length (E.M (Qhj E.M R k E.piv.length) k)) E.piv.length k,E.piv++[k],
   (if Qhj E.M R k E.piv.length=E.piv.length then E.det else -E.det)*E.M (Qhj E.M R k E.piv.length) k⟩
def Qbn(R:Nat)(M:MF):Nat->Ech
 |0=>⟨M,[],1⟩
 |k+1=>Qf0 R (Qbn R M k) k
theorem Qo7(R:Nat)(M:MF):∀k,(Qbn R M k).piv.length<=k/\(Qbn R M k).piv.length<=R/\∀x∈(Qbn R M k).piv,x<k
 |0=>⟨Nat.le_refl _,Nat.zero_le _,by simp[Qbn]⟩
 | k+1=>by
  obtain⟨h1,h2,h3⟩:=Qo7 R M k
  show(Qf0 R (Qbn R M k) k).piv.length<=k+1/\_
  simp only[Qbn]
  unfold Qf0
  split
  ·exact⟨by omega,h2,fun x hx=>by have:=h3 x hx;omega⟩
  ·rename_i h
   have:=Qwf (Qbn R M k).M k (R-(Qbn R M k).piv.length) (Qbn R M k).piv.length
   have h4:Qhj (Qbn R M k).M R k (Qbn R M k).piv.length<=R:=by unfold Qhj;omega
   have h5:(Qbn R M k).piv.length<=Qhj (Qbn R M k).M R k (Qbn R M k).piv.length:=this.1
   refine⟨by simp;omega,by simp;omega,fun x hx=> ?_⟩
   simp only[List.mem_append,List.mem_singleton]at hx
   rcases hx with hx|hx
   ·have:=h3 x hx;omega
   ·omega
def MBd(K R w:Nat)(M:MF):Prop:=∀r,r<R->∀c,c<w->rs (M r c)<=K
theorem Qajw:PV.le (.agg [.int .i64 0,.int .i64 0,.nilS]) (PV.rmat 0 0 []):=by simp[PV.le,PV.leL,PV.le1,PV.rmat,PV.rqs]
def Q51(K R w n:Nat)(M:MF):Prop:=∀k,k<=n->MBd K R w (Qbn R M k).M/\rs (Qbn R M k).det<=K
def Qh6(p:Nat->Bool):Nat->Nat->Nat
 |0,i=>i
 |f+1,i=>if p i then i else Qh6 p f (i+1)
theorem Qjc{p:Nat->Bool}:∀ {f i n:Nat},i<=n->n<i+f->p n=true->(∀j,i<=j->j<n->p j=false)->Qh6 p f i=n
 |0,i,n,h1,h2,_,_=>by omega
 | f+1,i,n,h1,h2,h3,h4=>by
  unfold Qh6
  by_cases e:i=n
  ·subst e;rw[if_pos h3]
  ·rw[h4 i (Nat.le_refl _) (by omega)]
   exact Qjc (by omega) (by omega) h3 fun j h5 h6=>h4 j (by omega) h6
theorem Qhb{p:Nat->Bool}:∀ {f i:Nat},(∀j,i<=j->j<i+f->p j=false)->Qh6 p f i=i+f
 |0,i,_=>rfl
 |f+1,i,h=>by
  unfold Qh6
  rw[h i (Nat.le_refl _) (by omega)]
  have:=Qhb (p:=p) (f:=f) (i:=i+1) fun j h5 h6=>h j (by omega) (by omega)
  simp only[Bool.false_eq_true,if_false];omega
def Qd5(x y:Nat->Rat)(c:Rat):Nat->Rat:=fun i=>x i+c*y i
def Qb7(M:MF)(R:Nat):Nat:=Qh6 (fun i=>decide (M i i≠0)) R 0
def Qc1(M:MF)(R i:Nat):Nat:=Qh6 (fun k=>decide (M i k≠0)) R 0
def Qbo(M:MF)(R:Nat):Nat:=Qh6 (fun i=>decide (Qc1 M R i<R)) R 0
def Qbe (M:MF) (R:Nat):List (Rat×(Nat->Rat)):=
  if Qb7 M R<R then [(M (Qb7 M R) (Qb7 M R),Qd5 (fun _=>0) (M (Qb7 M R)) (1/M (Qb7 M R) (Qb7 M R)))]
  else if Qbo M R<R then
    [(1/(M (Qbo M R) (Qc1 M R (Qbo M R))+M (Qbo M R) (Qc1 M R (Qbo M R))),Qd5 (M (Qbo M R)) (M (Qc1 M R (Qbo M R))) 1),
     (-(1/(M (Qbo M R) (Qc1 M R (Qbo M R))+M (Qbo M R) (Qc1 M R (Qbo M R)))),Qd5 (M (Qbo M R)) (M (Qc1 M R (Qbo M R))) (-1))]
  else []
abbrev PV.form(w:Nat)(f:Rat×(Nat->Rat)):PV:= .agg [.bool (decide (f.1.num<0)),PV.num f.1.num.natAbs,PV.num f.1.den,.sl 3 (Qad PV.rat f.2 w)]
end Go.FW
