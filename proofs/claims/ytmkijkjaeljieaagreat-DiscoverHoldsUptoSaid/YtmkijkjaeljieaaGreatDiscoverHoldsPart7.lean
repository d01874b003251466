/- Part 7 of the proof of DiscoverHolds: E1, E2, E3, CI, C1b, N1, N2, N3, N4, N5, N6, N7, N8, N9, N10, N11, N12, N13, N14, N15, I1, R1, R2, R3, R4, M1, M2, P1, P2, P3, P8, W1, W2, W3, CS, S1, S2, S3, S4, S5, S6, S7, S8, S9, T1, T1b, T1c, T1d, U1, U2, P4, U3, U4, U7, U8, U10, W4, W5, FwUD. Own lemmas; no conditions. -/
import Derived.Test.YtmkijkjaeljieaaGreatDiscoverHoldsPart6
set_option maxHeartbeats 1000000
set_option linter.unusedSimpArgs false
set_option linter.unusedVariables false
set_option linter.unnecessarySimpa false
set_option maxRecDepth 100000
namespace Go.Proofs.YtmkijkjaeljieaaGreat
open Tryz
open Go Go.FW
abbrev AC:=@Qb Tryz.prog
abbrev PV.jf(f:Int×List Int):PV:=.agg [.int .i64 f.1,PV.mono f.2,.bool false,.sl 1 [],.sl 1 []]
def Bb(a b:Int):Int:=if a<b then -1 else if a>b then 1 else 0
theorem afk{a b:Int}:AC 60 [.int .i64 a,.int .i64 b] (· = .int .i64 (Bb a b)):=by
 refine aw Qf func60 anL fun C hP=>?_;refine Sz0 ?_;refine Qa (fun h=>?_) (fun h=>?_)
 ·refine Sz0 ?_;exact Qc (by simp[Bb,h]) rfl
 refine Sz0 ?_;refine Qa (fun h2=>?_) (fun h2=>?_)
 ·refine Sz0 ?_;exact Qc (by simp[Bb,h,h2]) rfl
 refine Sz0 ?_;exact Qc (by simp[Bb,h,h2]) rfl
abbrev PV.pr(p:Int×Int):PV:=.agg [.int .i64 p.1,.int .i64 p.2]
def jY(n a:Nat):List (Int×Int):=(List.range' (a+1) (n-(a+1))).map fun(b:Nat)=>((a:Int),(b:Int))
def nA(n:Nat):List (Int×Int):=(List.range n).flatMap (jY n)
theorem HE(n a:Nat):(jY n a).length=n-(a+1):=by simp[jY]
theorem P2{n:Nat}:∀i,((List.range i).flatMap (jY n)).length<=i*n
 |0=>by simp
 |i+1=>by have:=P2 (n:=n) i;have h2:=HE n i;rw[List.range_succ,Kcj,Kap];simp only[KaC,KaN,Kak,Nat.succ_mul];omega
theorem afl{n i j:Nat}(h:i+1+j<n):(jY n i).take (j+1)=(jY n i).take j++[((i:Int),((i+1+j:Nat):Int))]:=by
 have hl:j<(jY n i).length:=by rw[HE];omega
 rw[Kar hl];simp[jY]
theorem ahP{n i j:Nat}(h:¬i+1+j<n):(jY n i).take j=jY n i:=Kah (by rw[HE];omega)
theorem Q8c{n:Nat}(hn:n<=100):AC 58 [.int .i64 n] (· = .sl 2 ((nA n).map PV.pr)):=by
 refine aw Qf func58 anI fun C hP=>?_;refine Sz0 ?_;refine jt 3 900 2 88 Oz Tz0 ?_;refine Qm okB [(3,5),(7,23)] [21,22,900] (fun m J hp=>∃i,m=n-i/\i<=n/\J 3= .ms 900 ((List.range i).flatMap (jY n)).length/\J 7= .int .i64 (i:Nat)/\hp 900=some ⟨2,88,((List.range i).flatMap (jY n)).map PV.pr,false⟩) n ?_ ?_
 ·refine⟨0,rfl,by omega,?_⟩;refine Sz0 ?_;exact⟨rfl,rfl,rfl⟩
 rintro _ J h ⟨i,rfl,hi,j3,ji,hh⟩;refine Sz2 j3 ji ?_;refine Qa (fun hg=>?_) (fun hg=>?_)
 ·have aE:i<n:=by omega
  have fM:=P2 (n:=n) i;have dF:i*n<=100*100:=KbU Oz hn;have iM:(List.range (i+1)).flatMap (jY n)=(List.range i).flatMap (jY n)++jY n i:=by rw[List.range_succ];simp
  generalize(List.range i).flatMap (jY n)=A at *
  refine Sz2 j3 ji ?_;refine Qm okB [(3,3),(5,5),(12,22)] [21,22,900] (fun m J hp=>∃j,m=n-j/\j<=n/\(j=0∨i+1+j<=n)/\J 3= .ms 900 (A++(jY n i).take j).length/\J 5= .int .i64 ((i+1+j:Nat):Int)/\hp 900=some ⟨2,88,(A++(jY n i).take j).map PV.pr,false⟩) n ?_ ?_
  ·refine⟨0,rfl,by omega,by omega,?_⟩;refine Sz2 j3 hh ?_;simp
  rintro _ J1 h1 ⟨j,rfl,hj,oO,BV,j5,ND⟩;have bo:=HE n i;have mT:((jY n i).take j).length<=n:=by rw[KaB];omega
  refine Sz4 j3 ji @BV j5 ?_;refine Qa (fun nP=>?_) (fun nP=>?_)
  ·have ht:=afl (n:=n) (i:=i) (j:=j) Oz;have e5:((i+1+j:Nat):Int)+1=((i+1+(j+1):Nat):Int):=by omega
   refine Sz4 j3 ji @BV j5 ?_;rw[Qv (f:=PV.pr) (y:=((i:Int),((i+1+j:Nat):Int))) (xs:=A++(jY n i).take j) (ty':=88) (fz:=false) (Tz1 ND) a9 Oz rfl (by simp;omega) (by simp;omega)];refine Sz5 j3 ji @BV j5 e5 ?_;refine Qh (n-(j+1)) Oz ⟨j+1,rfl,by omega,by omega,?_⟩;rw[ht];simp+decide (disch:=first|omega|rfl|(simp+decide only[go_sem,Ka8,Kap,KbW]<;>rfl)|fail) only[go_sem,Ka8,Kap,KbW]
  ·have ht:=ahP (n:=n) (i:=i) (j:=j) Oz;rw[ht]at BV ND;refine Sz4 j3 ji @BV j5 ?_;simp (disch:=decide) only[mu,uJ,Ul];refine Qh (n-(i+1)) Oz ⟨i+1,rfl,by omega,?_⟩;rw[iM];exact Tz2 @BV ND
 ·obtain rfl:i=n:=by omega
  refine DM j3 hh ?_;exact Qc (by rw[Kah (by simp)];rfl) rfl
def OW(n a:Nat):List Nat:=List.range' a (n-a)
theorem akv{f g:Int×List Int}(hf:f.1≠9)(hl:f.2.length<=100)(jM:g.2.length<=100):AC 32 [PV.jf f,PV.jf g] (fun r=>∃c:Int,r= .int .i64 c/\(c=0↔f=g)):=by
 have ho:=fun a b=>afk (a:=a) (b:=b);have JQ:∀a b,a≠b->Bb a b≠0:=fun a b h=>by unfold Bb;split<;>(try split)<;>omega
 obtain⟨k,l⟩:=f;obtain⟨k2,l2⟩:=g;simp only at hf hl jM;have d9:decide (k=9)=false:=decide_eq_false hf;have DW:decide (¬k=9)=true:=decide_eq_true hf;refine aw Qf func32 Sp fun C hP=>?_;refine Sz0 ?_;refine Qa (fun hk=>?_) (fun hk=>?_)
 ·refine aq hP (ho k k2) ?_;refine Sz0 ?_;exact⟨rfl,_,Qe _,_,rfl,by simp[JQ k k2 hk,hk]⟩
 have cG:k=k2:=by omega
 refine Sz0 ?_;refine Qm okB [(4,5),(16,51)] [] (fun m J hp=>∃i,m=l.length-i/\i<=l.length/\i<=l2.length/\l.take i=l2.take i/\J 5= .int .i64 (i:Nat)/\hp 2=some ⟨5,59,[PV.jf (k,l)],false⟩/\hp 3=some ⟨5,59,[PV.jf (k2,l2)],false⟩) l.length ?_ ?_
 ·refine⟨0,rfl,by omega,by omega,rfl,?_⟩;refine Sz0 ?_
  try (first|rfl|trivial|exact⟨rfl,rfl⟩|exact⟨rfl,rfl,rfl⟩)
 rintro _ J h ⟨i,rfl,hi,oN,cO,j5,b2,b3⟩;by_cases c1:i<l.length
 ·have e1:decide ((i:Int)<(l.length:Int))=true:=decide_eq_true Oz;by_cases c2:i<l2.length
  ·have e2:decide ((i:Int)<(l2.length:Int))=true:=decide_eq_true Oz;have t1:=Kar c1;have t2:=Kar c2;generalize hx:l[i]=x at *
   generalize hy:l2[i]=y at *
   by_cases yM:x=y
   ·have q1:decide (x=y)=true:=decide_eq_true yM;have q2:decide (¬x=y)=false:=decide_eq_false fun h=>h yM;refine Sz9 j5 b2 b3 e1 e2 hx hy q1 q2 ?_;refine Qh (l.length-(i+1)) Oz ⟨i+1,rfl,by omega,by omega,by rw[t1,t2,cO,yM],?_⟩;refine Sz2 b2 b3 ?_
    try trivial
   ·have q1:decide (x=y)=false:=decide_eq_false yM;have q2:decide (¬x=y)=true:=decide_eq_true yM;refine Sz9 j5 b2 b3 e1 e2 hx hy q1 q2 ?_;refine Qo hP (ho x y) ?_;refine Sz0 ?_;refine⟨rfl,_,Qe _,_,rfl,?_⟩;have:l≠l2:=fun e=>yM (by subst e;rw[<-hx,<-hy]);simp[JQ x y yM,this]
  ·have e2:decide ((i:Int)<(l2.length:Int))=false:=decide_eq_false Oz;have bz:l.length≠l2.length:=by omega
   refine Sz5 j5 b2 b3 e1 e2 ?_;refine Qa (fun hg=>?_) (fun hg=>?_)
   ·refine eF j5 b2 b3 hP (ho l.length l2.length) ?_;refine Sz0 ?_;refine⟨rfl,_,Qe _,_,rfl,?_⟩;have:l≠l2:=fun e=>bz (by rw[e]);simp[JQ l.length l2.length Oz,this]
   ·omega
 ·have e1:decide ((i:Int)<(l.length:Int))=false:=decide_eq_false Oz;refine Sz4 j5 b2 b3 e1 ?_;refine Qa (fun hg=>?_) (fun hg=>?_)
  ·refine eF j5 b2 b3 hP (ho l.length l2.length) ?_;refine Sz0 ?_;refine⟨rfl,_,Qe _,_,rfl,?_⟩;have:l≠l2:=fun e=>hg (by rw[e]);simp[JQ l.length l2.length Oz,this]
  ·refine Sz5 j5 b2 b3 d9 DW ?_;refine⟨rfl,_,Qe _,0,rfl,?_⟩;have:l=l2:=by rw[Kah Oz,Kah Oz]at cO;exact cO
   simp[cG,this]
theorem afm{f g:Int×List Int}(hf:f.1≠9)(hl:f.2.length<=100)(jM:g.2.length<=100):AC 14 [PV.jf f,PV.jf g] (· = .bool (decide (f=g))):=by have hc:=akv hf hl jM;refine aw Qf func14 Sq fun C hP=>?_;refine Sz0 ?_;refine gP hP hc rfl rfl rfl ?_;rintro _ ⟨c,rfl,hc⟩;refine Sz0 ?_;exact Qc (by rw[decide_eq_decide.2 hc]) rfl
def O3(L:List (Int×List Int)):Prop:=L.length<=2000/\∀f∈L,f.1≠9/\f.2.length<=100
def Tk(n:Nat):List (List Int):=(OW n 0).flatMap fun m=>(fy n 2 0).filterMap (gT m)
def Xk(n:Nat):List (Int×List (List Int)):=[(1,fy n 3 0),(2,ff uP (nA n)),(3,ff rI (nA n)),(4,ff rI (nA n)),(5,Tk n),(6,fy n 4 0),(8,fy n 2 0)]
def uZ(n:Nat):List (Int×List Int):=(Xk n).flatMap fun g=>g.2.map fun l=>(g.1,l)
instance : DecidablePred O3 := fun L => by unfold O3; infer_instance
theorem anm:(uZ 3).length=13/\(uZ 3)[0]? =some (1,[0,1,2]):=by decide+kernel
theorem anY:(uZ 4).length=56:=by decide+kernel
theorem akw{s t:Int×Int}:AC 29 [PV.pr s,PV.pr t] (· = .bool (uP s t)):=by
 obtain⟨a,b⟩:=s;obtain⟨c,d⟩:=t;have hv:uP (a,b) (c,d)=(decide (¬a=c)&&decide (¬a=d)&&decide (¬b=c)&&decide (¬b=d)):=rfl;rw[hv];refine aw Qf func29 anJ fun C hP=>?_;by_cases h1:a=c
 ·have q1:decide (a=c)=true:=decide_eq_true h1;have sP:decide (¬a=c)=false:=decide_eq_false fun h=>h h1;refine Sz2 q1 sP ?_;exact Qc rfl rfl
 have q1:decide (a=c)=false:=decide_eq_false h1;have sP:decide (¬a=c)=true:=decide_eq_true h1;by_cases h2:a=d
 ·have q2:decide (a=d)=true:=decide_eq_true h2;have JT:decide (¬a=d)=false:=decide_eq_false fun h=>h h2;refine Sz4 q1 sP q2 JT ?_;exact Qc rfl rfl
 have q2:decide (a=d)=false:=decide_eq_false h2;have JT:decide (¬a=d)=true:=decide_eq_true h2;by_cases h3:b=c
 ·have q3:decide (b=c)=true:=decide_eq_true h3;have OG:decide (¬b=c)=false:=decide_eq_false fun h=>h h3;refine Sz6 q1 sP q2 JT q3 OG ?_;exact Qc rfl rfl
 have q3:decide (b=c)=false:=decide_eq_false h3;have OG:decide (¬b=c)=true:=decide_eq_true h3;refine Sz6 q1 sP q2 JT q3 OG ?_;exact Qc (by simp) rfl
theorem afn{s t:Int×Int}:AC 30 [PV.pr s,PV.pr t] (· = .bool (rI s t)):=by
 obtain⟨a,b⟩:=s;obtain⟨c,d⟩:=t;have hv:rI (a,b) (c,d)=(decide (¬a=c)||decide (¬b=d)):=rfl;rw[hv];refine aw Qf func30 anK fun C hP=>?_;by_cases h1:a=c
 ·have q1:decide (a=c)=true:=decide_eq_true h1;have sP:decide (¬a=c)=false:=decide_eq_false fun h=>h h1;refine Sz2 q1 sP ?_;exact Qc (by simp) rfl
 have q1:decide (a=c)=false:=decide_eq_false h1;have sP:decide (¬a=c)=true:=decide_eq_true h1;refine Sz2 q1 sP ?_;exact Qc rfl rfl
structure Tl:Prop where
 ok:∀n:Nat,n<8->AC 13 [.int .i64 n] (· = .aK [.sl 5 ((uZ n).map PV.jf),.int .i64 0])
 neg:∀n:Int,n<0∨40<n->AC 13 [.int .i64 n] (· = .aK [.sl 5 (([]:List (Int×List Int)).map PV.jf),.int .i64 2])
 axV:∀n:Int,10<n->n<=40->AC 13 [.int .i64 n] (· = .aK [.sl 5 (([]:List (Int×List Int)).map PV.jf),.int .i64 4])
theorem afo(hC:Tl):AC 6 [] (· = .bool true):=by
 have h3:=hC.ok 3 Oz;have h4:=hC.ok 4 Oz;obtain⟨l3,a3⟩:=anm;have l4:=anY;have he:=afm (f:=(1,[0,1,2])) (g:=(1,[0,1,2])) (by simp) (by simp) (by simp);generalize uZ 3=A at *
 generalize uZ 4=B at *
 obtain⟨x,A',rfl⟩:∃x A',A=x::A':=by
  cases A with
  |nil=>cases l3
  |cons x A'=>exact⟨x,A',rfl⟩
 simp at a3;subst a3;refine aw Qf func6 aoZ fun C hP=>?_;refine aq hP h3 ?_;refine aq hP h4 ?_;have q13:decide (((A'.length+1:Nat):Int)=13)=true:=decide_eq_true (by simp at l3;omega);have q56:decide (((B.length:Nat):Int)=56)=true:=decide_eq_true Oz;have vC:=he.le (args':=[PV.jf (1,[0,1,2]),.agg [.int .i64 1,.sl 1 [.int .i64 0,.int .i64 1,.int .i64 2],.bool false,.ab,.ab]]) ⟨Qe _,⟨Ai _,Ai _,Ai _,trivial,trivial,trivial⟩,trivial⟩
 repeat' first
  |rw[wz (by rfl) (by simp[PV.cells]) Oz]
  |(rw[aoV (m:=3) (e:=1) (ty:=3) (xs:=[.int .i64 0,.int .i64 1,.int .i64 2]) (fz:=false) rfl Tz0 rfl];refine⟨⟨rfl,by decide⟩,⟨rfl,by decide⟩,?_⟩)
  |refine Qo hP vC ?_
  |simp+decide (disch:=try exact E2 q13 q56) only[go_sem,q13,q56,il,KaK,KaT,KaC,KaN,Kak]
 exact Qc rfl rfl
open Go Go.FW Go.RowKit Go.Shelf
theorem P3{f:FuncId}{args:List PV}{R:PV->Prop}(h:AC f args R){aR:Array Value}{w:World}(hs:aR.size=args.length)(X:Nat->Prop)(hX:∀b,X b->b<w.heap.size)(hr:∀(i:Nat)(x:PV),args[i]? =some x->Q8 w X x (aR.getD i undef))(n:Nat):
  CallsIn Fence.wide n Tryz.prog f aR w fun e w'=>∃v r,e= .returned v/\Ext Q5 w w'/\eX w' X r v/\R r:=callsIn_wide.2 (h.2 w X aR hX hs hr)
theorem Qxr(n:Nat)(hn:n<=100)(m:Nat)(w:World):CallsIn Fence.wide m Tryz.prog 58 #[.int .i64 (n:Nat)] w fun e w'=>∃a cap,e= .returned (.slice a (nA n).length cap)/\Ext Q5 w w'/\
  ∀i (h:i<(nA n).length),∃b off,a=some ⟨b,off,none⟩/\b<w'.heap.size/\w.heap.size<=b/\(nA n).length<=cap/\w'.cell? ⟨b,off+i*2,none⟩=some (.int .i64 (nA n)[i].1)/\w'.cell? ⟨b,off+i*2+1,none⟩=some (.int .i64 (nA n)[i].2):=by
 refine(P3 (Q8c hn) rfl (fun b=>b<w.heap.size) (fun _ h=>h) (fun i x hx=>?_) m).mono fun e w' h=>?_
 ·match i,hx with
  |0,hx=>simp at hx;subst hx;exact Qn.int _ _
  |i+1,hx=>simp at hx
 ·obtain⟨v,r,rfl,h1,h2,rfl⟩:=h;have gK:Qn w' (fun b=>b<w.heap.size) (.sl 2 ((nA n).map PV.pr)) v:=h2;generalize nA n=S at *
  generalize hX:S.map PV.pr=X at gK;have hl:X.length=S.length:=by rw[<-hX];simp
  cases gK with
  |gC _ a cap hc=>have:S=[]:=Kas.1 (by rw[<-hl];rfl);subst this;exact⟨a,cap,rfl,h1,fun i hi=>by cases hi⟩
  | sl _ _ b off cap vs oG hb ss hc he hv hr=>
   refine⟨_,cap,by rw[hl],h1,fun i hi=>⟨b,off,rfl,hb,by omega,by omega,?_,?_⟩⟩
   ·have hg:X[i]? =some (PV.pr S[i]):=by rw[<-hX,Kao,Kad hi];rfl
    have h3:=hv i Oz 0 Oz;have h4:=hr i _ hg 0 _ rfl;generalize vs i 0=u at h3 h4;cases h4;exact h3
   ·have hg:X[i]? =some (PV.pr S[i]):=by rw[<-hX,Kao,Kad hi];rfl
    have h3:=hv i Oz 1 Oz;have h4:=hr i _ hg 1 _ rfl;generalize vs i 1=u at h3 h4;cases h4;exact h3
theorem Sr(w:World)(p:Int×Int):Q8 w Q5 (PV.pr p) (.agg #[.int .i64 p.1,.int .i64 p.2]):=by
 refine⟨_,rfl,rfl,fun i x hx=>?_⟩
 match i,hx with
 |0,hx=>simp at hx;subst hx;exact Qn.int _ _
 |1,hx=>simp at hx;subst hx;exact Qn.int _ _
 |i+2,hx=>simp at hx
def GB(ft:FuncId):Int×Int->Int×Int->Bool:=if ft=29 then uP else rI
theorem UP(ft:FuncId)(hft:ft=29∨ft=30)(m:Nat)(s t:Int×Int)(w:World):
  CallsIn Fence.wide m Tryz.prog ft #[.agg #[.int .i64 s.1,.int .i64 s.2],.agg #[.int .i64 t.1,.int .i64 t.2]] w fun e w'=>e= .returned (.bool (GB ft s t))/\Ext Q5 w w':=by
 have h:AC ft [PV.pr s,PV.pr t] (· = .bool (GB ft s t)):=by
  rcases hft with rfl|rfl
  ·exact akw
  ·exact afn
 refine(P3 h rfl Q5 (fun _ h=>h.elim) (fun i x hx=>?_) m).mono fun e w' h=>?_
 ·match i,hx with
  |0,hx=>simp at hx;subst hx;exact Sr w s
  |1,hx=>simp at hx;subst hx;exact Sr w t
  |i+2,hx=>simp at hx
 ·obtain⟨v,r,rfl,h1,h2,rfl⟩:=h;cases h2;exact⟨rfl,h1⟩
open Go Go.FW Go.RowKit
theorem ahQ(n:Nat):DG n (nA n)=uZ n:=by
 have h:OW n 0=List.range' 0 n:=by unfold OW;simp
 unfold DG uZ tA Xk Tk;rw[h]
theorem akx:∀n,n<8->(nA n).length<=400:=by decide+kernel
theorem ahR:∀n,n<8->(uZ n).length<=100000:=by decide+kernel
theorem awO(n:Nat)(hn:n<8):Gu n (nA n):=by
 refine⟨akx n hn,fun m w=>Qxr n Oz m w,fun m s1 s2 t1 t2 w=>?_,fun m s1 s2 t1 t2 w=>?_⟩
 ·have h:=UP 29 (.inl rfl) m (s1,s2) (t1,t2) w;have e:GB 29=uP:=if_pos rfl;rw[e]at h;exact h
 ·have h:=UP 30 (.inr rfl) m (s1,s2) (t1,t2) w;have e:GB 30=rI:=if_neg (by decide);rw[e]at h;exact h
theorem Tn:∀(L:List (Int×List Int×Value))(i:Nat)(x:Int×List Int×Value)(j:Nat),L[i]? =some x->j<5->(L.flatMap im)[i*5+j]? =(im x)[j]?
 | [],i,x,j,h,_=>by simp at h
 |y::L,0,x,j,h,hj=>by simp at h;subst h;rw[KaC,KbA (by simp[im];omega)];simp
 |y::L,i+1,x,j,h,hj=>by
  rw[KaC,Kbm (by simp[im];omega)];have e:(i+1)*5+j-(im y).length=i*5+j:=by simp[im];omega
  rw[e];exact Tn L i x j (by simpa using h) hj
theorem ahS{w:World}{X:Nat->Prop}{v:Value}{c:List Int}(h:jE eI v c w)(hX:∀b,v.ownBlock=some b->¬X b):Qn w X (PV.mono c) v:=by
 rcases h.2 with⟨rfl,h0⟩|⟨g,cap,cur,rfl,_,hg,h1,h2,_,_⟩
 ·have:c=[]:=Kas.1 h0;subst this;exact Qn.gC 1 none 0 (Ka6 _)
 ·have hl:(c.map (PV.int .i64)).length=c.length:=by simp
  have hc:=h.cells (g:=g) rfl;show Qn w X (.sl 1 (c.map (PV.int .i64))) _;rw[<-hl];refine Qn.sl 1 _ g 0 cap (fun i _=>.int .i64 (c.getD i 0)) (hX g rfl) (Kan.1 hg).1 (by simpa using h1) h2 (fun i x hx=>?_) (fun i hi j hj=>?_) (fun i x hx j y hy=>?_)
  ·rw[Kao]at hx;cases BF:c[i]? with
   |none=>rw[BF]at hx;cases hx
   |some a=>rw[BF]at hx;cases hx;rfl
  ·have aE:i<c.length:=by simpa using hi
   have Zv:j=0:=by omega
   subst Zv;have:=hc i (.int .i64 c[i]) (by simp[aE]);have e:(⟨g,0,none⟩:Addr).add i=⟨g,0+i*1+0,none⟩:=by unfold Addr.add;split<;>simp_all
   rw[e]at this;rw[this];simp[aE]
  ·rw[Kao]at hx;cases BF:c[i]? with
   |none=>rw[BF]at hx;cases hx
   | some a=>
    rw[BF]at hx;cases hx
    match j,hy with
    |0,hy=>simp[PV.cells]at hy;subst hy;simp[BF];exact Qn.int _ _
    |j+1,hy=>simp[PV.cells]at hy
theorem ajY{w w':World}{X:Nat->Prop}(hX:∀b,X b->b<w.heap.size){base:Nat}(hb:w.heap.size<base){L:List (Int×List Int×Value)}{vo:Value}(hr:w'.ownsRow base 59 5 vo L.length (L.flatMap im))(ha:∀x∈L,jE eI x.2.2 x.2.1 w'/\∀b,x.2.2.ownBlock=some b->base<=b):
  Qn w' X (.sl 5 ((L.map fun x=>(x.1,x.2.1)).map PV.jf)) vo:=by
 have zp:=hr;rcases hr.2 with⟨rfl,h0⟩|⟨g,cap,cur,rfl,BE,hg,h1,h2,_,_⟩
 ·have:L=[]:=Kas.1 h0;subst this;exact Qn.gC 5 none 0 (Ka6 _)
 ·have hl:((L.map fun x=>(x.1,x.2.1)).map PV.jf).length=L.length:=by simp
  rw[show Value.slice (some ⟨g,0,none⟩) L.length cap=Value.slice (some ⟨g,0,none⟩) ((L.map fun x=>(x.1,x.2.1)).map PV.jf).length cap by rw[hl]];have eR:∀(i:Nat)(x:PV),((L.map fun x=>(x.1,x.2.1)).map PV.jf)[i]? =some x->∃z,L[i]? =some z/\x=PV.jf (z.1,z.2.1):=fun i x hx=>by
   rw[KcW,Kao]at hx;cases hz:L[i]? with
   |none=>rw[hz]at hx;cases hx
   |some z=>rw[hz]at hx;cases hx;exact⟨z,rfl,rfl⟩
  refine Qn.sl 5 _ g 0 cap (fun i j=>((L[i]?.map im).getD []).getD j undef) (fun h=>by have:=hX g h;omega) (Kan.1 hg).1 (by rw[hl];exact h1) h2 (fun i x hx=>?_) (fun i hi j hj=>?_) (fun i x hx j y hy=>?_)
  ·obtain⟨z,_,rfl⟩:=eR i x hx;rfl
  ·rw[hl]at hi;have hz:L[i]? =some L[i]:=Kad hi;have h3:=zp.cellAt (i*5+j) Oz;rw[show(0:Nat)+i*5+j=i*5+j by omega,h3,Tn L i _ j hz hj,hz];have ER:j<(im L[i]).length:=by simpa[im]using hj
   simp[ER]
  ·obtain⟨z,hz,rfl⟩:=eR i x hx;have hm:=ha z (Kai hz);simp only[hz,KbT,Ka9]
   match j,hy with
   |0,hy=>simp[PV.cells]at hy;subst hy;exact Qn.int _ _
   |1,hy=>simp[PV.cells]at hy;subst hy;exact ahS hm.1 fun b au h=>by have:=hX b h;have:=hm.2 b au;omega
   |2,hy=>simp[PV.cells]at hy;subst hy;exact Qn.bool _
   |3,hy=>simp[PV.cells]at hy;subst hy;exact Qn.gC 1 none 0 (Ka6 _)
   |4,hy=>simp[PV.cells]at hy;subst hy;exact Qn.gC 1 none 0 (Ka6 _)
   |j+5,hy=>simp[PV.cells]at hy
theorem Mm{w:World}{X:Nat->Prop}{L:List PV}{v:Value}{k:Int}(h:Qn w X (.sl 5 L) v):eX w X (.aK [.sl 5 L,.int .i64 k]) (.tuple #[v,.int .i64 k]):=by
 refine⟨_,rfl,rfl,fun i x hx=>?_⟩
 match i,hx with
 |0,hx=>simp at hx;subst hx;exact h
 |1,hx=>simp at hx;subst hx;exact Qn.int _ _
 |i+2,hx=>simp at hx
theorem Mn{aR:Array Value}{n:Int}(h1:aR.size=([PV.int .i64 n]:List PV).length){w:World}{X:Nat->Prop}(h2:∀(i:Nat)(x:PV),([PV.int .i64 n]:List PV)[i]? =some x->Q8 w X x (aR.getD i undef)):aR= #[.int .i64 n]:=by
 have h0:=h2 0 (.int .i64 n) rfl;obtain⟨v,rfl⟩:∃v,aR= #[v]:=by
  obtain⟨l⟩:=aR
  match l,h1 with
  | [v],_=>exact⟨v,rfl⟩
 have h1:Qn w X (.int .i64 n) v:=h0;cases h1;rfl
theorem ao1:Tl:=by
 refine⟨fun n hn=>⟨by unfold lT;kernel_rfl,fun w X aR hX hs hr=>?_⟩,fun n hn=>⟨by unfold lT;kernel_rfl,fun w X aR hX hs hr=>?_⟩,fun n h1 h2=>⟨by unfold lT;kernel_rfl,fun w X aR hX hs hr=>?_⟩⟩
 ·rw[Mn hs hr];have hl:=ahR n hn;rw[<-ahQ n]at hl⊢;refine callsIn_wide.1 ((aiF n Oz (nA n) (awO n hn) hl 0 w).mono fun e w' h=>?_);obtain⟨vo,rfl,L,base,h1,h2,h3,h4,h5⟩:=h;rw[<-h1];exact⟨_,_,rfl,h2,Mm (ajY hX h3 h4 h5),rfl⟩
 ·rw[Mn hs hr];refine callsIn_wide.1 ((agi n hn 0 w).mono fun e w' h=>?_);obtain⟨rfl,rfl⟩:=h;exact⟨_,_,rfl,Ext.refl _ _,Mm (Qn.gC 5 none 0 (Ka6 _)),rfl⟩
 ·rw[Mn hs hr];refine callsIn_wide.1 ((Q6t n h1 h2 0 w).mono fun e w' h=>?_);obtain⟨rfl,rfl⟩:=h;exact⟨_,_,rfl,Ext.refl _ _,Mm (Qn.gC 5 none 0 (Ka6 _)),rfl⟩
def ar4:az:=⟨15,[.cell 4 2 true],Zr (YS 4 .nil)<|Zr (YQ 5 1 176<|Zm 1 6 .nil)<|Zr (DT 7<|Zs 2 4 14 .nil) .ret⟩
theorem ajZ:Qd Tryz.prog f194=some ar4:=by kernel_rfl
def arK:az:=⟨13,[.cell 4 2 true],Zr (YS 4 .nil)<|Zr (DT 5<|Zs 2 4 12 .nil) .ret⟩
theorem aj0:Qd Tryz.prog f174=some arK:=by kernel_rfl
def arU:az:=⟨27,[.t 2],Zr (dP 1 55 0<|bP 2)<|Zr (YI 4 1 1<|Zm 3 6 .nil)<|Zr (Zm 7 3<|Zk 8 .eql 7 0<|Zm 9 8<|YG 9 0 1<|Zg 9 true (.un 12 .not (.t 11))<|Yp 13 9 12<|YP 14 13 3<|Zg 14 false (.bin 16 .gtr false (.t 15) (.c (Zz 0)))<|Zg 14 false (.mv 17 (.t 16))<|YG 17 1 1<|Zg 17 true (.mv 20 (.t 3))<|Zg 17 true (.bin 21 .sub false (.t 20) (.c (Zz 1)))<|Zg 17 true (.idx 22 1 (.t 19) (.t 21))<|Zg 17 true (.ld 23 1 false (.t 22))<|Zg 17 true (.bin 24 .neq false (.t 23) (.c (.int .u16 0)))<|Zg 14 false (.pick 25 (.t 17) (.t 24) (.c (.bool false)))<|Yo 26 14 25<|Ye 2 26) .ret⟩
theorem aj1:Qd Tryz.prog f185=some arU:=by kernel_rfl
def arN:az:=⟨8,[.cell 2 2 true],Zr (dP 1 55 0<|tH 2)<|Zr (cV 3 0 1 1 1<|ja 7 194 4 6 2 2) .ret⟩
theorem aj2:Qd Tryz.prog f177=some arN:=by kernel_rfl
def Mz:az:=⟨16,[.cell 2 2 true],Zr (tH 2)<| .seq (Zr (Zm 3 0<|Zk 4 .lss 3 0 .nil)<| .cond (.t 4) (Zr (Zm 5 0<|Zk 6 .add 5 1<|Zo (.un 7 .neg (.t 6))<|mG 8 7<|Zo (.bin 9 .add false (.t 8) (.c (.int .u64 1)))<|Yv 10 175 9<|Zq 11 false 174 [.c (.bool true),.t 10]<|Zs 2 2 11 .nil) .ret) .skip)<|Zr (Zm 12 0<|mG 13 12<|Yv 14 175 13<|Zq 15 false 174 [.c (.bool false),.t 14]<|Zs 2 2 15 .nil) .ret⟩
theorem aj3:Qd Tryz.prog f144=some Mz:=by kernel_rfl
def aqO:az:=⟨11,[.t 2],Zr (dP 1 55 0<|Yj 2 0)<| .seq (.block 0<|Zr (Yb 4 1 1<|Yv 6 152 5<|Yn 7 6 0 3)<| .cond (.t 3) (Zr (Yj 2 0) .ret) (Zr (Yb 9 0 1<|Zm 8 10 .nil)<| .cond (.t 8) (Zr (Zc 2 (-1) .nil) .ret) .skip))<|Zr (Yj 2 1) .ret⟩
theorem aj4:Qd Tryz.prog f122=some aqO:=by kernel_rfl
def arl:az:=⟨35,[.t 4],Zr (dX 2 55 0<|YM 3 2 55 1<|Yj 4 0)<|Zr (Zh 8 2 2<|Zh 10 2 3<|dJ 9 122 8<|dJ 11 122 10<|Zm 5 9<|Zm 6 11 .nil)<|Zr (Zo (.mv 7 (.c (.fn 183 [] []))) .nil)<| .seq (.block 0<|Zr (Ym 13 5 6<|Zb 15 .lss 13 14<|Zm 12 15 .nil)<| .cond (.t 12) (Zr (Zc 4 (-1) .nil) .ret) (Zr (Ym 17 5 6<|Zb 19 .gtr 17 18<|Zm 16 19 .nil)<| .cond (.t 16) (Zr (Yj 4 1) .ret) (Zr (Zm 21 5<|Zk 22 .lss 21 0<|Zm 20 22 .nil)<| .cond (.t 20) (Zr (Zm 23 7<|cV 24 1 3 1 2<|Zo (.call (some 28) false (.t 23) [.t 25,.t 27])<|Ye 4 28) .ret) .skip)))<|Zr (Zm 29 7<|cV 30 1 2 1 3<|Zo (.call (some 34) false (.t 29) [.t 31,.t 33])<|Ye 4 34) .ret⟩
theorem aj5:Qd Tryz.prog f153=some arl:=by kernel_rfl
def arR:az:=⟨8,[.t 4],Zr (Yj 4 0)<|Zr (fU 5 0 1 184<|Zm 4 7 .nil) .ret⟩
theorem aj6:Qd Tryz.prog f183=some arR:=by kernel_rfl
def arQ:az:=⟨40,[.cell 4 2 true],Zr (dX 2 55 0<|YM 3 2 55 1<|YS 4 .nil)<| .seq (Zr (cV 7 0 2 0 3<|Zo (.bin 11 .eql true (.t 8) (.t 10)) .nil)<| .cond (.t 11) (Zr (cV 12 0 2 1 2<|Yb 16 1 3<|jH 18 200 15 17 174 13 2 4) .ret) .skip)<| .seq (Zr (cV 20 1 2 1 3<|Yr 24 184 21 23<|Zk 25 .lss 24 0 .nil)<| .cond (.t 25) (.rg (YO 26 2 3 2 2<|Zs 2 2 26<|Zs 2 3 27 .nil)) .skip)<|Zr (cV 29 1 2 1 3<|YZ 33 201 30 32 28<|et 5 34 35)<|Zr (eu 36 0 2 5<|ja 39 174 37 38 2 4) .ret⟩
theorem aj7:Qd Tryz.prog f181=some arQ:=by kernel_rfl
def ard:az:=⟨16,[.cell 4 2 true],Zr (dX 2 55 0<|YM 3 2 55 1<|YS 4 .nil)<|Zr (cV 5 0 2 0 3<|Zo (.bin 9 .neq true (.t 6) (.t 8))<|cV 10 1 2 1 3<|jH 14 148 11 13 174 9 2 4) .ret⟩
theorem akI:Qd Tryz.prog f147=some ard:=by kernel_rfl
def arf:az:=⟨17,[.t 2],Zr (bP 2)<|Zr (YB 4 0<|Zo (.dY 6 [Zz 0,.int .u16 0] [(0,1,.t 5)])<|Zo (.alloc 3 2 209 (.agg [Zz 0,.int .u16 0]))<|Zs 2 3 6 .nil)<| .seq (Zr (YB 7 0<|Zk 9 .gtr 8 0 .nil)<| .cond (.t 9) (.rg (ir 10 0 0<|Zf 13 1 3<|Zs 1 13 12 .nil)) .skip)<|Zr (Zh 14 2 3<|Zo (.dY 15 [Zz 0,.int .u16 0] [(0,1,.c (Zz 1)),(1,1,.c (.int .u16 1))])<|Zo (.eqs 16 false (.t 14) (.t 15))<|Ye 2 16) .ret⟩
theorem akJ:Qd Tryz.prog f149=some arf:=by kernel_rfl
def arc:az:=⟨2,[.t 0],Zr (YK 0)<|Zr (Zo (.bs 1 1 177 [.c (.int .u16 1)])<|Zm 0 1 .nil) .ret⟩
theorem akK:Qd Tryz.prog f145=some arc:=by kernel_rfl
def MA:az:=⟨52,[.cell 4 3 true],Zr (dX 2 55 0<|Yd 4 .nil)<|Zr (YQ 6 1 176<|Zm 1 7 .nil)<|Zr (Zh 8 2 2<|Yv 9 177 8<|Zs 2 2 9 .nil)<| .seq (Zr (YB 10 1<|Zk 12 .eql 11 0<|Yu 13 12 1 2<|Zg 13 false (.len 16 (.t 15))<|Zg 13 false (.bin 17 .eql false (.t 16) (.c (Zz 0)))<|Yo 18 13 17 .nil)<| .cond (.t 18) (Zr (Zq 19 false 145 []<|Zo (.dY 20 [.bool false,.ab,.ab] [(2,1,.t 19)])<|Zs 3 4 20 .nil) .ret) .skip)<| .seq (Zr (YQ 21 1 149 .nil)<| .cond (.t 22) (Zr (Zh 23 2 2<|Zm 24 1<|yG 25 23 24<|Zs 3 4 25 .nil) .ret) .skip)<|Zr (eu 26 1 2 1<|Yr 29 178 27 28<|Ye 5 29)<| .seq (Zr (YQ 30 5 149<|Zu 32 31 .nil)<| .cond (.t 32) (Zr (eu 34 1 2 5<|YZ 37 179 35 36 33<|Zo (.ext 40 (.t 33) 2)<|Zf 41 1 2<|Zs 1 41 38 .nil)<| .rg (Ym 43 1 5<|YZ 45 179 43 44 42<|Zo (.ext 48 (.t 42) 2)<|Ye 1 46)) .skip)<|Zr (Zh 49 2 2<|Zm 50 1<|yG 51 49 50<|Zs 3 4 51 .nil) .ret⟩
theorem akL:Qd Tryz.prog f146=some MA:=by kernel_rfl
def aqN:az:=⟨14,[.cell 2 2 true,.t 3],Zr (j0 1 57<|Zo (.alloc 2 2 55 (.agg [.bool false,.ab]))<|YK 3)<| .seq (Zr (Yb 4 2 1<|Yv 6 152 5<|kN 7 6 0)<| .cond (.t 7) (Zr (Zo (.dY 8 [.bool false,.ab] [])<|Zq 9 false 145 []<|Zs 2 2 8<|Zm 3 9 .nil) .ret) .skip)<|Zr (YC 10 0 1 2<|Zf 12 2 1<| .br (Zl 13 1 12<|Zs 2 2 11<|Zm 3 13 .nil) (Zs 2 2 11<|Zl 13 1 12<|Zm 3 13 .nil)) .ret⟩
theorem akM:Qd Tryz.prog f121=some aqN:=by kernel_rfl
def arj:az:=⟨5,[.cell 2 2 true],Zr (tH 2)<|Zr (Zm 3 0<|Zo (.dY 4 [.bool false,.ab] [(1,1,.t 3)])<|Zs 2 2 4 .nil) .ret⟩
theorem akN:Qd Tryz.prog f151=some arj:=by kernel_rfl
def MC:az:=⟨36,[.t 2],Zr (j0 1 57<|bP 2)<|Zr (YI 4 2 1<|Zm 3 6 .nil)<| .seq (Zr (YC 7 0 1 2<|Yv 9 185 8<|Zu 10 9<|YP 11 10 3<|Zg 11 false (.bin 13 .eql false (.t 12) (.c (Zz 0)))<|Yo 14 11 13<|Yu 15 14 2 1<|Zg 15 false (.mv 18 (.t 3))<|Zg 15 false (.bin 19 .sub false (.t 18) (.c (Zz 1)))<|Zg 15 false (.idx 20 1 (.t 17) (.t 19))<|Zg 15 false (.ld 21 1 false (.t 20))<|Zg 15 false (.bin 22 .eql false (.t 21) (.c (.int .u16 0)))<|Yo 23 15 22 .nil)<| .cond (.t 23) (Zr (bP 2) .ret) .skip)<|Zr (Yb 24 2 1<|Yv 26 149 25<|Zm 27 26<|Zg 27 false (.bG 28 0 (.t 1))<|Zg 27 false (.bG 29 1 (.t 28))<|Zg 27 false (.ld 30 1 false (.t 29))<|Zg 27 false (.bG 31 2 (.t 1))<|Zg 27 false (.ld 32 1 false (.t 31))<|Zg 27 false (.call (some 33) false (.c (.fn 178 [] [])) [.t 30,.t 32])<|Zg 27 false (.call (some 34) false (.c (.fn 149 [] [])) [.t 33])<|Yo 35 27 34<|Ye 2 35) .ret⟩
theorem akO:Qd Tryz.prog f155=some MC:=by kernel_rfl
def aqL:az:=⟨7,[.cell 2 3 true],Zr (tG 2)<|Zr (YQ 3 0 144<|Zq 5 false 145 []<|yG 6 4 5<|Zs 3 2 6 .nil) .ret⟩
theorem akP:Qd Tryz.prog f117=some aqL:=by kernel_rfl
def c85:az:=⟨12,[.t 2],Zr (j0 1 57<|Yj 2 0)<|Zr (oE 6 3 1 121 5<|YS 3<|Zs 2 3 8<|Zm 4 9 .nil)<|Zr (Zh 10 2 3<|Yv 11 122 10<|Zm 2 11 .nil) .ret⟩
theorem anZ:Qd Tryz.prog f85=some c85:=by kernel_rfl
def aqP:az:=⟨40,[.t 4],Zr (dP 2 57 0<|dX 3 57 1<|Yj 4 0)<|Zr (Zh 11 3 2<|Zh 13 3 3<|dJ 12 85 11<|dJ 14 85 13<|Zm 5 12<|Zm 6 14 .nil)<| .seq (Zr (Ym 15 5 6<|Zb 17 .neq 15 16 .nil)<| .cond (.t 17) (.seq (Zr (Ym 18 5 6<|Yw 20 18 19)<| .cond (.t 20) (Zr (Zc 4 (-1) .nil) .ret) .skip)<|Zr (Yj 4 1) .ret) .skip)<|Zr (oE 22 3 2 121 21<|YS 7<|Zs 2 7 24<|Ye 8 25)<|Zr (oE 27 3 3 121 26<|YS 9<|Zs 2 9 29<|Ye 10 30)<|Zr (Zh 31 2 7<|Zm 32 10<|Zh 35 2 9<|Zm 36 8<|dJ 33 151 32<|Yf 34 147 31 33<|dJ 37 151 36<|jb 38 147 35 37 153 34<|Ye 4 39) .ret⟩
theorem akQ:Qd Tryz.prog f123=some aqP:=by kernel_rfl
def c86:az:=⟨9,[.t 4],Zr (dP 2 57 0<|dX 3 57 1<|bP 4)<|Zr (YO 5 3 2 3 3<|Yr 7 123 5 6<|Yn 8 7 0 4) .ret⟩
theorem an0:Qd Tryz.prog f86=some c86:=by kernel_rfl
def ari:az:=⟨17,[.cell 2 2 true],Zr (tH 2)<|Zr (YS 3 .nil)<| .seq (Zr (ke 6 0)<| .block 0<| .loop<|Zr (Yw 9 8 7)<| .seq (.cond (.t 9) .skip (.exit 0))<| .seq (.block 1<|Zr (dW 10 2 6 8<|YS 5<|Zs 2 5 11 .nil)<| .rg (YO 12 2 3 2 5<|ja 14 181 12 13 2 3))<| .rg (YE 15 8 8))<|Zr (Zh 16 2 3<|Zs 2 2 16 .nil) .ret⟩
theorem akR:Qd Tryz.prog f150=some ari:=by kernel_rfl
def My:az:=⟨45,[.cell 4 3 true],Zr (dP 2 57 0<|dX 3 57 1<|Yd 4 .nil)<|Zr (oE 10 3 2 121 9<|YS 5<|Zs 2 5 12<|Zm 6 13 .nil)<|Zr (oE 15 3 3 121 14<|YS 7<|Zs 2 7 17<|Zm 8 18 .nil)<| .seq (Zr (YQ 19 6 149<|j' 21 20 8<|yH 21 149<|Yp 24 21 23 .nil)<| .cond (.t 24) (Zr (YO 25 2 5 2 7<|Zo (.bs 27 2 55 [.t 25,.t 26])<|Yv 28 150 27<|Zm 29 6<|ja 30 146 28 29 3 4) .ret) .skip)<|Zr (Zh 31 2 5<|Zm 32 8<|Zh 35 2 7<|Zm 36 6<|Ym 41 6 8<|dJ 33 151 32<|Yf 34 147 31 33<|dJ 37 151 36<|Yf 38 147 35 37<|Zo (.bs 39 2 55 [.t 34,.t 38])<|dJ 40 150 39<|jH 43 148 41 42 146 40 3 4) .ret⟩
theorem akS:Qd Tryz.prog f120=some My:=by kernel_rfl
def arv:az:=⟨18,[.cell 4 3 true],Zr (dP 2 57 0<|dX 3 57 1<|Yd 4 .nil)<|Zr (Zh 5 3 2<|Zf 6 0 3<|Yb 7 0 6<|Zu 9 8<|Zf 10 0 3<|Yb 11 1 10<|Zo (.dY 13 [.bool false,.ab] [(0,1,.t 9),(1,1,.t 12)])<|Yb 14 2 3<|yG 16 13 15<|ja 17 120 5 16 3 4) .ret⟩
theorem akT:Qd Tryz.prog f160=some arv:=by kernel_rfl
def Mx:az:=⟨26,[.cell 4 3 true],Zr (dP 2 57 0<|dX 3 57 1<|Yd 4 .nil)<|Zr (oE 10 3 2 121 9<|YS 5<|Zs 2 5 12<|Zm 6 13 .nil)<|Zr (oE 15 3 3 121 14<|YS 7<|Zs 2 7 17<|Zm 8 18 .nil)<|Zr (YO 19 2 5 2 7<|Yr 21 147 19 20<|fU 22 6 8 148<|ja 25 146 21 24 3 4) .ret⟩
theorem akU:Qd Tryz.prog f118=some Mx:=by kernel_rfl
def WW:az:=⟨108,[.t 4],Zr (YM 2 1 53 0<|YM 3 1 53 1<|YK 4)<|Zr (Zl 12 1 3<|Zn 13 12<|Zo (.alloc 5 1 3 (Zz 0))<|Zs 1 5 13 .nil)<|Zr (Zl 14 1 2<|Zn 15 14<|Zl 16 1 5<|Zb 17 .sub 15 16<|rW 18 17 17<|Zm 6 18 .nil)<| .seq (Zr (Zl 19 1 2<|Zn 20 19<|Zl 21 1 5<|Zb 22 .sub 20 21<|Zk 23 .sub 22 1<|Zo (.alloc 7 1 3 (Zz 0))<|Zs 1 7 23 .nil)<| .block 0<| .loop<| .seq (Zr (Zl 24 1 7<|Zk 25 .geq 24 0 .nil)<| .cond (.t 25) .skip (.exit 0))<| .seq (.block 1<|Zr (Zl 28 1 2<|Zl 29 1 7<|Zl 30 1 5<|dM 31 29 30<|Yz 32 28 31<|mG 34 33<|Zo (.bin 35 .shl false (.t 34) (.c (.int .u64 16)))<|Zl 36 1 2<|Zl 37 1 7<|Zl 38 1 5<|dM 39 37 38<|Zk 40 .sub 39 1<|Yz 41 36 40<|mG 43 42<|Zb 44 .or 35 43<|Ye 8 44)<|Zr (Zm 45 8<|Zl 46 1 3<|Zl 47 1 5<|Zk 48 .sub 47 1<|Yz 49 46 48<|mG 51 50<|Zb 52 .quo 45 51<|Zm 53 8<| .br (Zl 54 1 3<| .br (YH 55<| .br (Yc 58<| .br (Ys 9<|Ys 10<|YY 1) (Ys 10<|Ys 9<|YY 1)) (.br (Ys 9<| .br (Yc 58<|Ys 10<|YY 1) (Ys 10<| .br (gI 58) (gH 1))) (Ys 10<| .br (Yc 58<|Ys 9<|YY 1) (Ys 9<| .br (gI 58) (gH 1))))) (.br (Ys 9<| .br (YH 55<| .br (Yc 58<|Ys 10<|YY 1) (Ys 10<| .br (gI 58) (gH 1))) (Ys 10<| .br (YH 55<| .br (gI 58) (gH 1)) (Zs 1 9 52<|YH 55<|Yc 58<|Yx 1))) (Ys 10<| .br (YH 55<| .br (Yc 58<|Ys 9<|YY 1) (Ys 9<| .br (gI 58) (gH 1))) (Ys 9<| .br (YH 55<| .br (gI 58) (gH 1)) (Zs 1 9 52<|YH 55<|Yc 58<|Yx 1))))) (.br (Zl 55 1 5<|Zk 56 .sub 55 1<| .br (jG 54<| .br (Yc 58<| .br (Ys 9<|Ys 10<|YY 1) (Ys 10<|Ys 9<|YY 1)) (.br (Ys 9<| .br (Yc 58<|Ys 10<|YY 1) (Ys 10<| .br (gI 58) (gH 1))) (Ys 10<| .br (Yc 58<|Ys 9<|YY 1) (Ys 9<| .br (gI 58) (gH 1))))) (.br (Ys 9<| .br (jG 54<| .br (Yc 58<|Ys 10<|YY 1) (Ys 10<| .br (gI 58) (gH 1))) (Ys 10<| .br (jG 54<| .br (gI 58) (gH 1)) (Zs 1 9 52<|jG 54<|Yc 58<|Yx 1))) (Ys 10<| .br (jG 54<| .br (Yc 58<|Ys 9<|YY 1) (Ys 9<| .br (gI 58) (gH 1))) (Ys 9<| .br (jG 54<| .br (gI 58) (gH 1)) (Zs 1 9 52<|jG 54<|Yc 58<|Yx 1))))) (.br (Ys 9<| .br (Zl 54 1 3<| .br (YH 55<| .br (Yc 58<|Ys 10<|YY 1) (Ys 10<| .br (gI 58) (gH 1))) (Ys 10<| .br (YH 55<| .br (gI 58) (gH 1)) (Zs 1 9 52<|YH 55<|Yc 58<|Yx 1))) (.br (Zl 55 1 5<|Zk 56 .sub 55 1<| .br (jG 54<| .br (Yc 58<|Ys 10<|YY 1) (Ys 10<| .br (gI 58) (gH 1))) (Ys 10<| .br (jG 54<| .br (gI 58) (gH 1)) (Zs 1 9 52<|jG 54<|Yc 58<|Yx 1))) (Ys 10<| .br (Zl 54 1 3<| .br (YH 55<| .br (gI 58) (gH 1)) (Zs 1 9 52<|YH 55<|Yc 58<|Yx 1)) (.br (Zl 55 1 5<|Zk 56 .sub 55 1<| .br (jG 54<| .br (gI 58) (gH 1)) (Zs 1 9 52<|jG 54<|Yc 58<|Yx 1)) (Zs 1 9 52<| .br (Zl 54 1 3<|YH 55<|Yc 58<|Yx 1) (Zl 55 1 5<|Zk 56 .sub 55 1<|jG 54<|Yc 58<|Yx 1)))))) (Ys 10<| .br (Zl 54 1 3<| .br (YH 55<| .br (Yc 58<|Ys 9<|YY 1) (Ys 9<| .br (gI 58) (gH 1))) (Ys 9<| .br (YH 55<| .br (gI 58) (gH 1)) (Zs 1 9 52<|YH 55<|Yc 58<|Yx 1))) (.br (Zl 55 1 5<|Zk 56 .sub 55 1<| .br (jG 54<| .br (Yc 58<|Ys 9<|YY 1) (Ys 9<| .br (gI 58) (gH 1))) (Ys 9<| .br (jG 54<| .br (gI 58) (gH 1)) (Zs 1 9 52<|jG 54<|Yc 58<|Yx 1))) (Ys 9<| .br (Zl 54 1 3<| .br (YH 55<| .br (gI 58) (gH 1)) (Zs 1 9 52<|YH 55<|Yc 58<|Yx 1)) (.br (Zl 55 1 5<|Zk 56 .sub 55 1<| .br (jG 54<| .br (gI 58) (gH 1)) (Zs 1 9 52<|jG 54<|Yc 58<|Yx 1)) (Zs 1 9 52<| .br (Zl 54 1 3<|YH 55<|Yc 58<|Yx 1) (Zl 55 1 5<|Zk 56 .sub 55 1<|jG 54<|Yc 58<|Yx 1)))))))))<|Zr (Zo (.fn 61 204 [] [.t 9,.t 3,.t 5,.t 10,.t 2,.t 7])<|Ye 11 61)<| .seq (.block 2<| .loop<| .seq (Zr (Zl 62 1 10<|Zo (.bin 63 .lss false (.t 62) (.c (.int .u64 65536)))<|j' 64 63 11<|Zg 64 true (.call (some 66) false (.t 65) [])<|Yp 67 64 66 .nil)<| .cond (.t 67) .skip (.exit 2))<| .block 3<|Zr (Zl 68 1 9<|Zo (.bin 69 .sub false (.t 68) (.c (.int .u64 1)))<|Zs 1 9 69 .nil)<| .rg (Zl 70 1 10<|Zl 71 1 3<|Zl 72 1 5<|Zk 73 .sub 72 1<|Yz 74 71 73<|mG 76 75<|dM 77 70 76<|Zs 1 10 77 .nil))<| .seq (Zr (Zl 78 1 2<|Zl 79 1 7<|Zl 80 1 7<|Zl 81 1 5<|dM 82 80 81<|Zk 83 .add 82 1<|Zo (.sl 84 1 (.t 78) (some (.t 79)) (some (.t 83)) none)<|Zl 85 1 3<|Zl 86 1 9<|lY 87 86<|Zq 88 false 205 [.t 84,.t 85,.t 87] .nil)<| .cond (.t 88) (Zr (Zl 89 1 9<|Zo (.bin 90 .sub false (.t 89) (.c (.int .u64 1)))<|Zs 1 9 90 .nil)<| .rg (Zl 91 1 2<|Zl 92 1 7<|Zl 93 1 7<|Zl 94 1 5<|dM 95 93 94<|Zk 96 .add 95 1<|Zo (.sl 97 1 (.t 91) (some (.t 92)) (some (.t 96)) none)<|Zl 98 1 3<|Yr 99 206 97 98 .nil)) .skip)<| .rg (Zm 100 6<|Zl 101 1 7<|Zl 102 1 9<|pQ 103 102 100 101))<| .seq (Zr (Zl 105 1 7 .nil)<| .rg (Zo (.alloc 7 1 3 (Zz 0))<|Zs 1 7 105 .nil))<| .rg (Zl 26 1 7<|Zk 27 .sub 26 1<|Zs 1 7 27 .nil))<|Zr (YQ 106 6 180<|Ye 4 107) .ret⟩
theorem akV:Qd Tryz.prog f199=some WW:=by kernel_rfl
theorem iS{l:List Nat}(hv:Qi l)(hl:l.length<2^42):AC 180 [PV.nat l] (· =PV.num (val l)):=by
 refine aw Qf func180 Rv fun C hP=>?_;refine Sz0 ?_;refine tc (fun m fr hp=>m<=l.length/\cut l m=ak (val l)/\fr 0=PV.nat l/\fr 3= .int .i64 m/\hp=aA) l.length ?_ ?_
 ·exact⟨Kae _,C9 hv,rfl,rfl,rfl⟩
 rintro n fr _ ⟨hn,hc,h0,h3,rfl⟩;refine Sz2 h0 h3 ?_;refine ic (fun hg=>?_) (fun hg=>?_)
 ·simp+decide (disch:=first|omega|rfl|(simp+decide only[go_sem,h0,h3,yf,od]<;>rfl)|fail) only[go_sem,h0,h3,yf,od];obtain _|n:=n
  ·omega
  have e:((n+1:Nat):Int)-1=n:=by omega
  simp only[cut]at hc;refine Qa (fun hz=>?_) (fun hz=>?_)
  ·rw[if_pos (by grind)]at hc;simp+decide (disch:=try exact D3 h0 h3 e) only[go_sem,h0,h3,e];refine ph (m:=n) Oz ⟨by omega,hc,?_⟩;exact Tz3 h0 @true_and @and_true
  ·refine Sz3 h0 h3 @Lm ?_;rw[if_neg (by grind)]at hc;exact Qc (by simp[hc]) rfl
 ·obtain rfl:n=0:=by omega
  refine Sz3 h0 h3 @Lm ?_;exact Qc (by simp[<-hc,cut]) rfl
theorem CO{l:List Nat}(hv:Qi l)(hl:l.length<2^42):AC 176 [PV.nat l] (· =PV.num (val l)):=by
 have hd:=cE hv;unfold nl at hd;refine aw Qf func176 ajI fun C hP=>?_;refine aq hP (iS hv hl) ?_;refine Sz0 ?_;refine Qa (fun hz=>?_) (fun hz=>?_)
 ·refine Sz0 ?_;have:ak (val l)=[]:=Kas.1 Oz;exact wx (by rw[PV.num,this];exact alM) rfl
 ·refine Sz0 ?_;rw[ai6 rfl (by simp)];refine Sz0 ?_;exact ig rfl (by simp[Kah])
theorem H3{n:Nat}(hn:n<18446744073709551616):AC 175 [.int .u64 n] (· =PV.num n):=by
 have hlen:=td hn;unfold nl at hlen;refine aw Qf func175 ajJ fun C hP=>?_;refine Sz0 ?_;refine CG (fun m fr hp=>∃done:List Nat,ak n=done++ak m/\m<=n/\fr 0= .int .u64 m/\fr 3= .ms 12 done.length/\hp 12=some ⟨1,177,done.map fun(x:Nat)=>.int .u16 x,false⟩) n (RS 3 12 1 177 Oz ?_) ?_ ?_
 ·exact Tz0
 ·refine⟨[],?_⟩;simp+decide (disch:=first|omega|rfl|(simp+decide only[go_sem,Kau,KbG,KaR,true_and,and_true,Kae]<;>rfl)|fail) only[go_sem,Kau,KbG,KaR,true_and,and_true,Kae]
 rintro m fr hp ⟨done,hd,hm,h0,h3,hh⟩;rw[hd,Kap]at hlen;refine Sz1 h0 ?_;refine Qa (fun hz=>?_) (fun hz=>?_)
 ·have bz:m≠0:=by omega
  have oJ:ak n=(done++[m%65536])++ak (m/65536):=by rw[hd,wy bz];simp
  refine Sz2 h0 h3 ?_;rw[LL (xs:=done.map fun(x:Nat)=>.int .u16 x) (Tz1 hh) rfl Oz (by simp) Oz Oz];refine Sz4 h0 h3 @TS @VW ?_;refine ph (m:=m/65536) Oz ⟨done++[m%65536],oJ,by omega,?_⟩;refine Sz3 h0 h3 hh ?_;simp
 ·obtain rfl:m=0:=by omega
  refine Sz1 h3 ?_;exact ig hh (by simp[PV.num,PV.nat,hd,gp,Kah])
theorem HF{a b:List Nat}(ha:Qi a)(hb:Qi b)(bK:a.length<2^40)(eh:b.length<2^40):AC 184 [PV.nat a,PV.nat b] (· = .int .i64 (iq (val a) (val b))):=by
 have iJ:=cE ha;have kR:=cE hb;have ZN:= @Pv (val a) (val b);have ZO:= @Pv (val b) (val a);have au0:=Ql (val a);have au1:=Ql (val b);have oT:=Qw (val a);have mc:=Qw (val b);unfold nl at iJ kR ZN ZO;refine aw Qf func184 ajM fun C hP=>?_;refine aq hP (iS ha Oz) ?_;refine aq hP (iS hb Oz) ?_;refine Sz0 ?_;generalize val a=x at *
 generalize val b=y at *
 refine Qa (fun hz=>?_) (fun hz=>?_)
 ·refine Sz0 ?_;refine Qa (fun hz=>?_) (fun hz=>?_)
  ·refine Sz0 ?_;exact Qc (by rw[Ma (ZN Oz)]) rfl
  ·refine Sz0 ?_;exact Qc (by rw[Mb (ZO Oz)]) rfl
 refine Sz0 ?_;refine tc (fun m fr hp=>m<=(ak x).length/\val ((ak x).drop m)=val ((ak y).drop m)/\fr 0=PV.num x/\fr 1=PV.num y/\fr 5= .int .i64 ((m:Int)-1)/\hp=aA) (ak x).length ?_ ?_
 ·refine⟨Kae _,?_,?_⟩
  ·rw[Kat (Kae _),Kat Oz]
  ·exact Tz2 @true_and @and_true
 rintro m fr _ ⟨hm,hd,h0,h1,h5,rfl⟩;refine Sz3 h0 h1 h5 ?_;refine Qa (fun hg=>?_) (fun hg=>?_)
 ·obtain _|m:=m
  ·omega
  have e:((m+1:Nat):Int)-1=m:=by omega
  have vG:m<(ak x).length:=by omega
  have sB:m<(ak y).length:=by omega
  simp+decide (disch:=try exact D4 h0 h1 h5 e) only[go_sem,h0,h1,h5,e];refine Qa (fun hq=>?_) (fun hq=>?_)
  ·refine Sz0 ?_;exact Qc (by rw[Ma];have:=VY au0 vG sB Oz hd;omega) rfl
  simp+decide (disch:=try exact D4 h0 h1 h5 e) only[go_sem,h0,h1,h5,e];refine Qa (fun qS=>?_) (fun qS=>?_)
  ·refine Sz0 ?_;exact Qc (by rw[Mb];have:=VY au1 sB vG Oz hd.symm;omega) rfl
  refine Sz4 h0 h1 h5 e ?_;refine ph (m:=m) Oz ⟨by omega,?_,?_⟩
  ·rw[nd vG,nd sB,hd];omega
  ·exact Tz4 h0 h1 @true_and @and_true
 ·obtain rfl:m=0:=by omega
  refine Sz0 ?_;refine Qc ?_ rfl;rw[Rc];simp at hd;omega
theorem ahT{a b:List Nat}(ha:Qi a)(hb:Qi b)(bK:a.length<2^40)(eh:b.length<2^40):AC 200 [PV.nat a,PV.nat b] (· =PV.num (val a+val b)):=by
 have iJ:=cE ha;have kR:=cE hb;unfold nl at iJ kR;refine aw Qf func200 ajN fun C hP=>?_;refine aq hP (iS ha Oz) ?_;refine aq hP (iS hb Oz) ?_;refine Sz0 ?_;generalize val a=x0 at *
 generalize val b=y0 at *
 refine CI (fun fr hp=>∃x y,x+y=x0+y0/\(ak x).length<2^40/\(ak y).length<=(ak x).length/\fr 0=PV.num x/\fr 1=PV.num y/\hp=aA) ?_ ?_
 ·refine Qa (fun hz=>?_) (fun hz=>?_)
  ·refine Sz0 ?_;refine⟨y0,x0,by omega,by omega,by omega,?_⟩;exact Tz2 @true_and @and_true
  ·refine Sz0 ?_;refine⟨x0,y0,by omega,by omega,by omega,?_⟩;exact Tz2 @true_and @and_true
 rintro fr _ ⟨x,y,zx,hx,hy,h0,h1,rfl⟩;rw[<-zx];clear zx iJ kR;have eS:=Ql x;have mW:=Ql y;refine Sz2 h0 h1 ?_;refine tc (fun m fr hp=>∃i c done,m=(ak x).length-i/\i<=(ak x).length/\c<=1/\done.length=i/\done++jW ((ak x).drop i) ((ak y).drop i) c=ak (x+y)/\
  fr 1=PV.num y/\fr 5= .ms 25 (ak x).length/\fr 6= .int .u32 c/\fr 26=PV.num x/\fr 27= .int .i64 (ak x).length/\fr 28= .int .i64 i/\hp=Qj aA 25 ⟨1,177,bJ (done++List.replicate ((ak x).length-i) 0),false⟩) (ak x).length ?_ ?_
 ·refine⟨0,0,[],rfl,by omega,by omega,rfl,by simpa using agO hy,?_⟩;simp+decide (disch:=first|omega|rfl|(simp+decide only[go_sem,h0,h1,true_and,and_true,Kcp,Kau]<;>rfl)|fail) only[go_sem,h0,h1,true_and,and_true,Kcp,Kau];simp
 rintro _ fr _ ⟨i,c,done,rfl,hi,hc,fW,hd,h1,h5,h6,xf,xg,xh,rfl⟩;refine Sz3 xf xg xh ?_;refine Qa (fun hg=>?_) (fun hg=>?_)
 ·have aE:i<(ak x).length:=by omega
  have gm:=fe eS aE;rw[aeC aE]at hd;have hlen:=LN (n:=(ak x).length-i) fW (by omega:_=(ak x).length);simp+decide (disch:=try exact D6 h1 h5 h6 xf xg xh) only[go_sem,h1,h5,h6,xf,xg,xh];refine Qa (fun hq=>?_) (fun hq=>?_)
  ·have kT:i<(ak y).length:=by omega
   have xH:=fe mW kT;rw[gQ kT]at hd;simp+decide (disch:=try exact D6 h1 h5 h6 xf xg xh) only[go_sem,h1,h5,h6,xf,xg,xh];refine ph (m:=(ak x).length-(i+1)) Oz ⟨i+1,_,_,rfl,by omega,?_,?_,(KbO ..).symm.trans hd,?_⟩
   ·omega
   ·simp[fW]
   ·exact Tz10 h1 h5 h6 xf xg xh @true_and @and_true @CU @Nat.sub_sub
  ·rw[gR Oz]at hd;refine Sz6 h1 h5 h6 xf xg xh ?_;refine ph (m:=(ak x).length-(i+1)) Oz ⟨i+1,_,_,rfl,by omega,?_,?_,(KbO ..).symm.trans hd,?_⟩
   ·omega
   ·simp[fW]
   ·exact Tz11 h1 h5 h6 xf xg xh @true_and @and_true @CU @Nat.sub_sub @Nat.add_zero
 ·obtain rfl:i=(ak x).length:=by omega
  rw[Kat (Kae _),Kat hy]at hd;simp+decide (disch:=first|omega|rfl|(simp+decide only[go_sem,h5,h6,Kbw,Ka7,Kak]<;>rfl)|fail) only[go_sem,h5,h6,Kbw,Ka7,Kak];refine Qa (fun hq=>?_) (fun hq=>?_)
  ·refine Sz2 h5 h6 ?_;rw[LL (xs:=bJ done) Tz0 rfl Oz (by simp[fW]) Oz Oz];refine Sz1 h5 ?_;refine ig rfl ?_;rw[jW,if_neg Oz]at hd;rw[PV.num,<-hd];simp[bJ,fW,Kah];omega
  ·refine Sz1 h5 ?_;refine ig rfl ?_;rw[jW,if_pos Oz]at hd;rw[PV.num,<-hd];simp[bJ,fW,Kah]
theorem P4{a b:List Nat}(ha:Qi a)(hb:Qi b)(bK:a.length<2^40)(eh:b.length<2^40)(hle:val b<=val a):AC 201 [PV.nat a,PV.nat b] (· = .aK [PV.num (val a-val b),.int .i64 0]):=by
 have iJ:=cE ha;have kR:=cE hb;have nQ:=gE hle;unfold nl at iJ kR nQ;refine aw Qf func201 ajO fun C hP=>?_;refine aq hP (HF ha hb bK eh) ?_;have auj:¬iq (val a) (val b)<0:=by unfold iq;split<;>(try split)<;>omega
 refine Sz0 ?_;refine Qa (fun hz=>absurd hz auj) (fun hz=>?_);refine aq hP (iS ha Oz) ?_;refine aq hP (iS hb Oz) ?_;refine Sz0 ?_;generalize val a=x at *
 generalize val b=y at *
 have eS:=Ql x;have mW:=Ql y;have dT:=Px (ak x) (ak y) 0 Oz eS mW nQ (by rw[Qw,Qw];exact hle);rw[Qw,Qw,KaP]at dT;have cT:=UX (ak x) (ak y) 0;have Jn:=Ua (ak x) (ak y) 0;refine tc (fun m fr hp=>∃i c done,m=(ak x).length-i/\i<=(ak x).length/\c<=1/\done.length=i/\done++nw ((ak x).drop i) ((ak y).drop i) c=nw (ak x) (ak y) 0/\
  fr 1=PV.num y/\fr 6= .ms 21 (ak x).length/\fr 7= .int .i32 (c:Nat)/\fr 22=PV.num x/\fr 23= .int .i64 (ak x).length/\fr 24= .int .i64 i/\hp=Qj aA 21 ⟨1,177,bJ (done++List.replicate ((ak x).length-i) 0),false⟩) (ak x).length ?_ ?_
 ·refine⟨0,0,[],rfl,by omega,by omega,rfl,rfl,?_⟩;simp+decide (disch:=first|omega|rfl|(simp+decide only[go_sem,true_and,and_true,Kcp,Kau]<;>rfl)|fail) only[go_sem,true_and,and_true,Kcp,Kau];simp
 rintro _ fr _ ⟨i,c,done,rfl,hi,hc,fW,hd,h1,h6,h7,nH,nI,nJ,rfl⟩;refine Sz3 nH nI nJ ?_;refine Qa (fun hg=>?_) (fun hg=>?_)
 ·have aE:i<(ak x).length:=by omega
  have gm:=fe eS aE;rw[aeD aE]at hd;have hlen:=LN (n:=(ak x).length-i) fW (by omega:_=(ak x).length);simp+decide (disch:=try exact D6 h1 h6 h7 nH nI nJ) only[go_sem,h1,h6,h7,nH,nI,nJ];refine CI (fun fr hp=>fr 1=PV.num y/\fr 6= .ms 21 (ak x).length/\fr 8= .int .i64 i/\fr 10= .int .i32 ((ak x)[i]-(c:Int)-((ak y).getD i 0:Nat))/\(ak y).getD i 0<65536/\fr 22=PV.num x/\fr 23= .int .i64 (ak x).length/\fr 24= .int .i64 i/\hp=Qj aA 21 ⟨1,177,bJ (done++List.replicate ((ak x).length-i) 0),false⟩) ?_ ?_
  ·refine Qa (fun hq=>?_) (fun hq=>?_)
   ·have kT:i<(ak y).length:=by omega
    have xH:=fe mW kT;simp+decide (disch:=first|omega|rfl|(simp+decide only[go_sem,h1,h6,h7,nH,nI,nJ,gQ kT,true_and,and_true]<;>rfl)|fail) only[go_sem,h1,h6,h7,nH,nI,nJ,gQ kT,true_and,and_true];exact xH
   ·simp+decide (disch:=first|omega|rfl|(simp+decide only[go_sem,h1,h6,h7,nH,nI,nJ,true_and,and_true,gR (by omega:¬i<(ak y).length)]<;>rfl)|fail) only[go_sem,h1,h6,h7,nH,nI,nJ,true_and,and_true,gR (by omega:¬i<(ak y).length)];simp
  clear h1 h6 nH nI nJ;rintro fr _ ⟨h1,h6,h8,du,xH,nH,nI,nJ,rfl⟩;generalize hw:(ak y).getD i 0=yi at *
  refine Sz1 du ?_;refine CI (fun fr hp=>fr 1=PV.num y/\fr 6= .ms 21 (ak x).length/\fr 8= .int .i64 i/\fr 10= .int .i32 (((ak x)[i]+65536-c-yi)%65536:Nat)/\fr 7= .int .i32 ((if(ak x)[i]<c+yi then 1 else 0):Nat)/\fr 22=PV.num x/\fr 23= .int .i64 (ak x).length/\fr 24= .int .i64 i/\hp=Qj aA 21 ⟨1,177,bJ (done++List.replicate ((ak x).length-i) 0),false⟩) ?_ ?_
  ·refine Qa (fun hq=>?_) (fun hq=>?_)
   ·rw[if_pos Oz];refine Sz9 h1 h6 h8 du nH nI nJ @true_and @and_true ?_;simp;omega
   ·rw[if_neg Oz];refine Sz9 h1 h6 h8 du nH nI nJ @true_and @and_true ?_;simp;omega
  clear h1 h6 h8 du nH nI nJ;rintro fr _ ⟨h1,h6,h8,du,h7,nH,nI,nJ,rfl⟩;refine Sz8 h1 h6 h7 h8 du nH nI nJ ?_;refine ph (m:=(ak x).length-(i+1)) Oz ⟨i+1,_,_,rfl,by omega,?_,?_,(KbO ..).symm.trans hd,?_⟩
  ·split<;>omega
  ·simp[fW]
  ·exact Tz13 h1 h6 h7 h8 du nH nI nJ @true_and @and_true @CU @Nat.sub_sub @Nat.mod_mod
 ·obtain rfl:i=(ak x).length:=by omega
  rw[Kat (Kae _),nw,Kak]at hd;simp+decide (disch:=first|omega|rfl|(simp+decide only[go_sem,h6,Kbw,Ka7,Kak]<;>rfl)|fail) only[go_sem,h6,Kbw,Ka7,Kak];rw[hd];refine xX hP (iS cT Oz) (CV rfl Jn.symm) rfl fun hp'=>?_;refine Sz0 ?_;exact bO rfl rfl rfl (yd (by rw[show val (nw (ak x) (ak y) 0)=x-y by omega])) (Qe _)
theorem HG{a b:List Nat}(ha:Qi a)(hb:Qi b)(bK:a.length<2^40)(eh:b.length<2^40):AC 148 [PV.nat a,PV.nat b] (· =PV.num (val a*val b)):=by
 have iJ:=cE ha;have kR:=cE hb;unfold nl at iJ kR;refine aw Qf func148 ajP fun C hP=>?_;refine aq hP (iS ha Oz) ?_;refine aq hP (iS hb Oz) ?_;refine Sz0 ?_;generalize val a=x at *
 generalize val b=y at *
 have eS:=Ql x;have mW:=Ql y;refine Qp (fun hz=>?_) (fun hz=>?_)
 ·refine Sz0 ?_;have:=rj (by omega:(ak x).length=0);rw[m9]at this;exact wx (Da (by simp[this])) rfl
 refine Sz0 ?_;refine Qa (fun BT=>?_) (fun BT=>?_)
 ·refine Sz0 ?_;have:=rj (by omega:(ak y).length=0);rw[m9]at this;exact wx (Da (by simp[this])) rfl
 refine Sz0 ?_;refine tc (fun m fr hp=>∃i lo,m=(ak x).length-i/\i<=(ak x).length/\Qi lo/\lo.length=i+(ak y).length/\val lo=val ((ak x).take i)*val (ak y)/\
  fr 1=PV.num y/\fr 5= .ms 28 ((ak x).length+(ak y).length)/\fr 29=PV.num x/\fr 30= .int .i64 (ak x).length/\fr 31= .int .i64 i/\hp=Qj aA 28 ⟨1,177,bJ (lo++List.replicate ((ak x).length-i) 0),false⟩) (ak x).length ?_ ?_
 ·refine⟨0,List.replicate (ak y).length 0,rfl,by omega,?_,by simp,by simp[VX,val],?_⟩
  ·intro z hz;rw[List.eq_of_mem_replicate hz];omega
  ·refine Sz3 @true_and @and_true @Nat.sub_zero ?_;simp[Kb2]
 rintro _ fr _ ⟨i,lo,rfl,hi,mQ,EZ,hv,h1,h5,se,vq,oF,rfl⟩;refine Sz3 se vq oF ?_;refine Qa (fun hg=>?_) (fun hg=>?_)
 ·have aE:i<(ak x).length:=by omega
  have gm:=fe eS aE;have iM:=agP aE EZ hv;have EY:Qi (lo.take i++lv (lo.drop i) (ak y) (ak x)[i] 0):=o9.2 ⟨z' mQ i,UZ _ _ _ _ Oz gm (Cw mQ i) mW⟩;have axA:(lo.take i++lv (lo.drop i) (ak y) (ak x)[i] 0).length=i+(ak y).length+1:=by rw[Kap,Ub _ _ _ _ (by simp[EZ])];simp;omega
  generalize eT:(ak x)[i]=xi at *
  refine Sz6 h1 h5 se vq oF eT ?_;refine tc (fun m fr hp=>∃k c p rs,m=(ak y).length-k/\k<=(ak y).length/\c<65536/\Qi rs/\p.length=i+k/\rs.length=(ak y).length-k/\p++lv rs ((ak y).drop k) xi c=lo.take i++lv (lo.drop i) (ak y) xi 0/\
   fr 1=PV.num y/\fr 5= .ms 28 ((ak x).length+(ak y).length)/\fr 6= .int .i64 i/\fr 7= .int .u16 xi/\fr 8= .int .u32 c/\fr 29=PV.num x/\fr 30= .int .i64 (ak x).length/\fr 31= .int .i64 i/\fr 36=PV.num y/\fr 37= .int .i64 (ak y).length/\fr 38= .int .i64 k/\
   hp=Qj aA 28 ⟨1,177,bJ (p++(rs++List.replicate ((ak x).length-i) 0)),false⟩) (ak y).length ?_ ?_
  ·refine⟨0,0,lo.take i,lo.drop i,rfl,by omega,by omega,Cw mQ i,by simp;omega,by simp;omega,rfl,?_⟩;refine Sz7 h1 h5 se vq oF @true_and @and_true ?_;rw[<-List.append_assoc,Kbk];simp
  clear h1 h5 se vq oF;rintro _ fr _ ⟨k,c,p,rs,rfl,hk,hc,dw,ej,zs,hinv,h1,h5,h6,h7,h8,se,vq,oF,IK,IL,IM,rfl⟩;refine Sz3 IK IL IM ?_;refine Qa (fun hq=>?_) (fun hq=>?_)
  ·have cG:k<(ak y).length:=by omega
   have hyk:=fe mW cG;rw[Kax cG]at hinv;generalize hyy:(ak y)[k]=yk at *
   obtain _|⟨r,rs⟩:=rs
   ·simp at zs;omega
   rw[iC]at dw;have zp:=dw.1;have FD:=we gm hyk;rw[lv]at hinv;have ao:i+k<(p++r::(rs++List.replicate ((ak x).length-i) 0)).length:=by simp;omega
   have eR:=HV ej ao;simp+decide (disch:=first|omega|rfl|(simp+decide only[go_sem,h1,h5,h6,h7,h8,IK,IL,IM,hyy,Kaw,eR]<;>rfl)|fail) only[go_sem,h1,h5,h6,h7,h8,IK,IL,IM,hyy,Kaw,eR];refine ph (m:=(ak y).length-(k+1)) Oz ⟨k+1,_,_,_,rfl,by omega,?_,dw.2,?_,?_,(KbO ..).symm.trans hinv,?_⟩
   ·omega
   ·simp[ej];omega
   ·simp at zs;omega
   ·refine Sz14 h1 h5 h6 h7 h8 se vq oF IK IL IM @true_and @and_true @pq ?_;simp
  ·obtain rfl:k=(ak y).length:=by omega
   obtain rfl:rs=[]:=Kas.1 Oz;rw[Kat (Kae _),lv]at hinv
   rotate_left
   ·intros;simp_all
   obtain⟨z,hz⟩:∃z,(ak x).length-i=z+1:=⟨(ak x).length-i-1,by omega⟩
   have ao:i+(ak y).length<(p++0::(List.replicate z 0)).length:=by simp;omega
   simp+decide (disch:=first|omega|rfl|(simp+decide only[go_sem,h1,h5,h6,h8,se,vq,oF,Kau,hz,KbN]<;>rfl)|fail) only[go_sem,h1,h5,h6,h8,se,vq,oF,Kau,hz,KbN];refine ph (m:=(ak x).length-(i+1)) Oz ⟨i+1,lo.take i++lv (lo.drop i) (ak y) xi 0,rfl,by omega,EY,by omega,?_,?_⟩
   ·rw[iM]
   ·refine Sz8 h1 h5 se vq oF @true_and @and_true @pq ?_;rw[<-hinv,show(ak x).length-(i+1)=z by omega,KaO hc];simp
 ·obtain rfl:i=(ak x).length:=by omega
  rw[Kba,Qw,Qw]at hv;simp+decide (disch:=first|omega|rfl|(simp+decide only[go_sem,h5,Kbw,Ka7,Kak]<;>rfl)|fail) only[go_sem,h5,Kbw,Ka7,Kak];refine xX hP (iS mQ Oz) (CV rfl EZ.symm) rfl fun hp'=>?_;refine Sz0 ?_;exact Qc (by rw[hv]) rfl
theorem Q2k{pre w post v:List Nat}{j m:Nat}(hw:Qi w)(hv:Qi v)(hj:pre.length=j)(hm:w.length=m)(hle:v.length<=w.length)(hlen:(pre++(w++post)).length<2^43):
  At Tryz.prog 206 [.ax B0 j m,PV.nat v] 177 (bJ (pre++(w++post))) (fun r xs'=>r= .aK []/\xs'=bJ (pre++(lU w v 0++post))):=by
 simp only[Kap]at hlen;refine He Qf func206 rfl ajU Nz fun C hP=>?_;simp only[WY];refine eY ?_;refine Sz0 ?_;refine tc (fun k fr hp=>∃i c done,k=w.length-i/\i<=w.length/\c<=1/\done.length=i/\done++lU (w.drop i) (v.drop i) c=lU w v 0/\
  fr 0= .ax 1000000 j m/\fr 1=PV.nat v/\fr 4= .int .u32 c/\fr 7= .int .i64 m/\fr 8= .int .i64 i/\hp=Qj aA 1000000 ⟨1,177,bJ ((pre++done)++(w.drop i++post)),false⟩) w.length ?_ ?_
 ·refine⟨0,0,[],rfl,by omega,by omega,rfl,rfl,?_⟩;simp+decide (disch:=first|omega|rfl|(simp+decide only[go_sem,true_and,and_true,Kak,KbF]<;>rfl)|fail) only[go_sem,true_and,and_true,Kak,KbF];simp
 rintro _ fr _ ⟨i,c,done,rfl,hi,hc,fW,hd,h0,h1,h4,h7,h8,rfl⟩;refine Sz2 h7 h8 ?_;refine Qa (fun hg=>?_) (fun hg=>?_)
 ·have aE:i<w.length:=by omega
  have hwi:=fe hw aE;rw[aeI aE]at hd;have ej:(pre++done).length=j+i:=by simp[hj,fW]
  rw[Kax aE];generalize hww:w[i]=wi at *
  have ao:j+i<((pre++done)++wi::(w.drop (i+1)++post)).length:=by simp;omega
  have eR:=HV ej ao;simp+decide (disch:=first|omega|rfl|(simp+decide only[go_sem,h0,h1,h4,h7,h8,Kaw,eR]<;>rfl)|fail) only[go_sem,h0,h1,h4,h7,h8,Kaw,eR];refine Qa (fun hq=>?_) (fun hq=>?_)
  ·have kT:i<v.length:=by omega
   have hvi:=fe hv kT;rw[gQ kT]at hd;simp+decide (disch:=first|omega|rfl|(simp+decide only[go_sem,h0,h1,h4,h7,h8,pq]<;>rfl)|fail) only[go_sem,h0,h1,h4,h7,h8,pq];refine ph (m:=w.length-(i+1)) Oz ⟨i+1,_,_,rfl,by omega,?_,?_,(KbO ..).symm.trans hd,?_⟩
   ·omega
   ·simp[fW]
   ·refine Sz8 h0 h1 h4 h7 h8 @true_and @and_true @pq ?_;simp
  ·rw[gR Oz]at hd;refine Sz6 h0 h1 h4 h7 h8 @pq ?_;refine ph (m:=w.length-(i+1)) Oz ⟨i+1,_,_,rfl,by omega,?_,?_,(KbO ..).symm.trans hd,?_⟩
   ·omega
   ·simp[fW]
   ·refine Sz8 h0 h1 h4 h7 h8 @true_and @and_true @pq ?_;simp
 ·obtain rfl:i=w.length:=by omega
  rw[Kat (Kae _),lU,Kak]at hd;refine Sz0 ?_;refine ams rfl (rz _) ?_ ⟨rfl,?_⟩
  ·simp[fW]
  ·rw[Kat (Kae _),hd];simp
theorem Qzu{pre w post v:List Nat}{j m q:Nat}(hw:Qi w)(hv:Qi v)(hq:q<65536)(hj:pre.length=j)(hm:w.length=m)(hle:v.length<=w.length)(hlen:(pre++(w++post)).length<2^43):
  At Tryz.prog 205 [.ax B0 j m,PV.nat v,.int .u32 q] 177 (bJ (pre++(w++post))) (fun r xs'=>r= .bool (decide (0<(fR w v q 0 0).2.2))/\xs'=bJ (pre++((fR w v q 0 0).1++post))):=by
 simp only[Kap]at hlen;refine He Qf func205 rfl ajT Nz fun C hP=>?_;simp only[WX];refine eY ?_;refine Sz0 ?_;refine tc (fun k fr hp=>∃i c b done,k=w.length-i/\i<=w.length/\c<65536/\b<=1/\done.length=i/\done++(fR (w.drop i) (v.drop i) q c b).1=(fR w v q 0 0).1/\(fR (w.drop i) (v.drop i) q c b).2=(fR w v q 0 0).2/\
  fr 0= .ax 1000000 j m/\fr 1=PV.nat v/\fr 2= .int .u32 q/\fr 7= .int .u32 c/\fr 8= .int .i32 (b:Nat)/\fr 12= .int .i64 m/\fr 13= .int .i64 i/\hp=Qj aA 1000000 ⟨1,177,bJ ((pre++done)++(w.drop i++post)),false⟩) w.length ?_ ?_
 ·refine⟨0,0,0,[],rfl,by omega,by omega,by omega,rfl,rfl,rfl,?_⟩;simp+decide (disch:=first|omega|rfl|(simp+decide only[go_sem,true_and,and_true,Kak,KbF]<;>rfl)|fail) only[go_sem,true_and,and_true,Kak,KbF];simp
 rintro _ fr _ ⟨i,c,b,done,rfl,hi,hc,hb,fW,hd,oJ,h0,h1,h2,h7,h8,kP,kQ,rfl⟩;refine Sz2 kP kQ ?_;refine Qa (fun hg=>?_) (fun hg=>?_)
 ·have aE:i<w.length:=by omega
  have hwi:=fe hw aE;rw[aeJ aE]at hd oJ;simp only at hd oJ;have ej:(pre++done).length=j+i:=by simp[hj,fW]
  rw[Kax aE];generalize hww:w[i]=wi at *
  have ao:j+i<((pre++done)++wi::(w.drop (i+1)++post)).length:=by simp;omega
  have eR:=HV ej ao;simp+decide (disch:=first|omega|rfl|(simp+decide only[go_sem,h0,h1,h2,h7,h8,kP,kQ,Kaw,eR]<;>rfl)|fail) only[go_sem,h0,h1,h2,h7,h8,kP,kQ,Kaw,eR];refine CI (fun fr hp=>c+q*v.getD i 0<=4294967295/\fr 0= .ax 1000000 j m/\fr 1=PV.nat v/\fr 2= .int .u32 q/\fr 7= .int .u32 (c+q*v.getD i 0:Nat)/\fr 8= .int .i32 (b:Nat)/\fr 9= .int .i64 i/\fr 12= .int .i64 m/\fr 13= .int .i64 i/\hp=Qj aA 1000000 ⟨1,177,bJ ((pre++done)++wi::(w.drop (i+1)++post)),false⟩) ?_ ?_
  ·refine Qa (fun tZ=>?_) (fun tZ=>?_)
   ·have kT:i<v.length:=by omega
    have hvi:=fe hv kT;have tZ:=we hq hvi;simp+decide (disch:=first|omega|rfl|(simp+decide only[go_sem,h0,h1,h2,h7,h8,kP,kQ,gQ kT,true_and,and_true]<;>rfl)|fail) only[go_sem,h0,h1,h2,h7,h8,kP,kQ,gQ kT,true_and,and_true];omega
   ·simp+decide (disch:=first|omega|rfl|(simp+decide only[go_sem,h0,h1,h2,h7,h8,kP,kQ,true_and,and_true,gR (by omega:¬i<v.length),Kb4,KaP]<;>rfl)|fail) only[go_sem,h0,h1,h2,h7,h8,kP,kQ,true_and,and_true,gR (by omega:¬i<v.length),Kb4,KaP];omega
  clear h0 h1 h2 h7 h8 kP kQ;rintro fr _ ⟨mM,h0,h1,h2,h7,h8,h9,kP,kQ,rfl⟩;generalize c+q*v.getD i 0=c1 at *
  refine Sz9 h0 h1 h2 h7 h8 h9 kP kQ eR ?_;refine CI (fun fr hp=>fr 0= .ax 1000000 j m/\fr 1=PV.nat v/\fr 2= .int .u32 q/\fr 7= .int .u32 (c1/65536:Nat)/\fr 8= .int .i32 ((if wi<c1%65536+b then 1 else 0):Nat)/\fr 9= .int .i64 i/\fr 10= .int .i32 ((wi+65536-c1%65536-b)%65536:Nat)/\fr 12= .int .i64 m/\fr 13= .int .i64 i/\hp=Qj aA 1000000 ⟨1,177,bJ ((pre++done)++wi::(w.drop (i+1)++post)),false⟩) ?_ ?_
  ·refine Qa (fun hq=>?_) (fun hq=>?_)
   ·rw[if_pos Oz];refine AZ h0 h1 h2 h7 h8 h9 kP kQ @true_and @and_true ?_;simp;omega
   ·rw[if_neg Oz];refine AZ h0 h1 h2 h7 h8 h9 kP kQ @true_and @and_true ?_;simp;omega
  clear h0 h1 h2 h7 h8 h9 kP kQ;rintro fr _ ⟨h0,h1,h2,h7,h8,h9,du,kP,kQ,rfl⟩;refine AZ h0 h1 h2 h7 h8 h9 du kP kQ @pq ?_;refine ph (m:=w.length-(i+1)) Oz ⟨i+1,c1/65536,_,_,rfl,by omega,by omega,?_,?_,(KbO ..).symm.trans hd,oJ,?_⟩
  ·split<;>omega
  ·simp[fW]
  ·refine Sz13 h0 h1 h2 h7 h8 h9 du kP kQ @true_and @and_true @pq @Nat.mod_mod ?_;simp
 ·obtain rfl:i=w.length:=by omega
  rw[Kat (Kae _),fR]at hd oJ;simp only[Kak]at hd;refine Sz1 h8 ?_;refine R8 (p:=.bool (decide (0<(b:Int)))) rfl (rz _) ?_ Tz0 rfl ⟨?_,?_⟩
  ·simp[fW]
  ·rw[<-oJ];simp
  ·rw[Kat (Kae _),hd];simp
theorem Qzv{v u:List Nat}{dg n r j:Nat}(hv:Qi v)(hu:Qi u)(hn:2<=n)(iK:n=v.length)(hju:j+n<u.length)(hd:dg<4294967296)(hr:r<65536)(Oa:u.length<2^43):
  AC 204 [.pt [.int .u64 dg],.pt [PV.nat v],.pt [.int .i64 n],.pt [.int .u64 r],.pt [PV.nat u],.pt [.int .i64 j]]
   (· = .bool (decide (65536<=dg∨r*65536+u.getD (j+n-2) 0<dg*v.getD (n-2) 0))):=by
 have h1:n-2<v.length:=by omega
 have h2:j+n-2<u.length:=by omega
 have zy:=fe hv h1;have hu1:=fe hu h2;rw[gQ h1,gQ h2];refine aw Qf func204 ajS fun C hP=>?_;refine Sz0 ?_;refine Qp (fun hz=>?_) (fun hz=>?_)
 ·refine Sz0 ?_;exact Qc (by simp;omega) rfl
 ·have nN:dg<65536:=by omega
  have e1:(n:Int)-2=((n-2:Nat):Int):=by omega
  have e2:((j+n:Nat):Int)-2=((j+n-2:Nat):Int):=by omega
  generalize hvv:v[n-2]=vi at *
  generalize huu:u[j+n-2]=ui at *
  have hm:=we nN zy;refine Sz6 e1 e2 hvv huu @Ln @LP ?_;exact Qc (congrArg PV.bool (decide_eq_decide.2 ⟨fun h=>.inr Oz,fun h=>by rcases h with h|h<;>omega⟩)) rfl
theorem Q8e{l post:List Nat}(hv:Qi l)(hl:(l++post).length<2^43)(hlen:0<l.length):
  At Tryz.prog 180 [.ax B0 0 l.length] 177 (bJ (l++post)) (fun r xs'=>r= .ax B0 0 (nl (val l))/\xs'=bJ (l++post)):=by
 simp only[Kap]at hl;have axz:l.length<=(l++post).length:=by simp
 refine He Qf func180 rfl Rv Nz fun C hP=>?_;simp only[WU];refine eY ?_;refine Sz0 ?_;refine tc (fun m fr hp=>m<=l.length/\cut l m=ak (val l)/\fr 0= .ax 1000000 0 l.length/\fr 3= .int .i64 m/\hp=Qj aA 1000000 ⟨1,177,bJ (l++post),false⟩) l.length ?_ ?_
 ·exact⟨Kae _,C9 hv,rfl,rfl,rfl⟩
 rintro n fr _ ⟨hn,hc,h0,h3,rfl⟩;refine Sz2 h0 h3 ?_;refine ic (fun hg=>?_) (fun hg=>?_)
 ·obtain _|n:=n
  ·omega
  have e:((n+1:Nat):Int)-1=n:=by omega
  have ao:n<(l++post).length:=by simp;omega
  have eR:(l++post)[n]=l[n]:=by simp[List.getElem_append,show n<l.length by omega]
  refine Sz4 h0 h3 e eR ?_;simp only[cut]at hc;refine Qa (fun hz=>?_) (fun hz=>?_)
  ·rw[if_pos (by grind)]at hc;refine Sz3 h0 h3 e ?_;refine ph (m:=n) Oz ⟨by omega,hc,?_⟩;exact Tz3 h0 @true_and @and_true
  ·rw[if_neg (by grind)]at hc;have nQ:nl (val l)=n+1:=by rw[nl,<-hc];simp;omega
   refine Sz2 h0 h3 ?_;exact Re rfl (rz _) (by simp) (Tz1 nQ) ⟨rfl,rfl⟩
 ·obtain rfl:n=0:=by omega
  have nQ:nl (val l)=0:=by rw[nl,<-hc,cut];rfl
  refine Sz2 h0 h3 ?_;exact Re rfl (rz _) (by simp) (Tz1 nQ) ⟨rfl,rfl⟩
theorem KW{a:List Nat}{s:Nat}(ha:Qi a)(bK:a.length<2^40)(hs:s<=15)(bz:val a≠0):Au Tryz.prog 198 [PV.nat a,.int .i64 s] 177 (fun ys=>ys=bJ (ak (val a*2^s))):=by
 have iJ:=cE ha;unfold nl at iJ;have qf:(ak (val a)).length≠0:=by intro h;exact bz (m9.1 (rj h))
 refine aeG Qf func198 rfl Mi Nz fun C hP=>?_;simp only[WV];refine eY ?_;refine aq hP (iS ha Oz) ?_;refine Sz0 ?_;generalize val a=x at *
 have eS:=Ql x;have e1:s/16=0:=Kcy Oz;have e2:s%16=s:=KaO Oz;refine Qp (fun hz=>by omega) (fun hz=>?_);refine Sz0 ?_;refine Qp (fun hz=>by omega) (fun hz=>?_);refine Sz0 ?_;refine Qa (fun hz=>by omega) (fun hz=>?_);refine Sz0 ?_;refine Qa (fun hz=>by omega) (fun hz=>?_);refine Sz4 @Wa @Wb e1 e2 ?_;refine tc (fun k fr hp=>∃i c done,k=(ak x).length-i/\i<=(ak x).length/\c<2^s/\done.length=i/\done++pG s ((ak x).drop i) c=pG s (ak x) 0/\
  fr 5= .int .i64 (0:Nat)/\fr 6= .int .i64 s/\fr 7= .ms 44 ((ak x).length+1)/\fr 45=PV.num x/\fr 46= .int .i64 (ak x).length/\fr 47= .int .i64 i/\
  hp=Qj aA 44 ⟨1,177,bJ (done++c::List.replicate ((ak x).length-i) 0),false⟩) (ak x).length ?_ ?_
 ·refine⟨0,0,[],rfl,by omega,KbY Oz,rfl,rfl,?_⟩;simp+decide (disch:=first|omega|rfl|(simp+decide only[go_sem,true_and,and_true,Kau,Kcp]<;>rfl)|fail) only[go_sem,true_and,and_true,Kau,Kcp];simp[KbN]
 rintro _ fr _ ⟨i,c,done,rfl,hi,hc,fW,hd,h5,h6,h7,IN,IP,IQ,rfl⟩;refine Sz3 IN IP IQ ?_;have axG:2^s<=2^15:=KbD Oz hs;refine Qa (fun hg=>?_) (fun hg=>?_)
 ·have aE:i<(ak x).length:=by omega
  have gm:=fe eS aE;rw[Kax aE,pG]at hd;generalize eT:(ak x)[i]=xi at *
  obtain⟨z,hz⟩:∃z,(ak x).length-i=z+1:=⟨(ak x).length-i-1,by omega⟩
  have ao:i<(done++c::List.replicate (z+1) 0).length:=by simp;omega
  have eR:=HV fW ao;have jl:=PD (x:=xi) (show s<=16 by omega) hc;have cF:=Wc (show s<=16 by omega) gm;have hl:=amu hs gm;refine Sz13 h5 h6 h7 IN IP IQ eT hz eR @Rg @amt jl.2 @pq ?_;have zu:∀v u,(done++v::List.replicate (z+1) 0).set (i+1) u=(done++[v])++u::List.replicate z 0:=fun v u=>by rw[KbO,KbN,pq (by simp[fW])]
  rw[R5 (by simp;omega),zu,KaO (by omega:xi*2^s/65536<65536)];refine Sz6 h5 h6 h7 IN IP IQ ?_;refine ph (m:=(ak x).length-(i+1)) Oz ⟨i+1,xi*2^s/65536,done++[xi*2^s%65536+c],rfl,by omega,cF,by simp[fW],(KbO ..).symm.trans hd,?_⟩;refine Sz8 h5 h6 h7 IN IP IQ @true_and @and_true ?_;rw[show(ak x).length-(i+1)=z by omega]
 ·obtain rfl:i=(ak x).length:=by omega
  rw[Kat (Kae _),pG]at hd;have sA:=Vd hs (ak x) 0 eS (KbY Oz);have me:=PC s (ak x) 0;have Jn:=Ue s (ak x) 0;rw[Qw,KaP]at me;rw[<-hd]at sA me Jn;have axD:x*2^s≠0:=Nat.mul_ne_zero bz (Nat.ne_of_gt (KbY Oz));simp+decide (disch:=first|omega|rfl|(simp+decide only[go_sem,h7,Kbw,Ka7]<;>rfl)|fail) only[go_sem,h7,Kbw,Ka7];have ht:=Q8e (l:=done++[c]) (post:=[]) sA (by simp[fW];omega) (by simp);rw[Kak,me]at ht;refine Ii hP ht (O:=44) Tz0 (rz _) (by simp) (by simp[kA,Jn]) rfl ?_;rintro r xs' _ _ ⟨rfl,rfl⟩;simp+decide (disch:=first|omega|rfl|(simp+decide only[go_sem,pA]<;>rfl)|fail) only[go_sem,pA];refine⟨4,44,nl (x*2^s),_,rfl,by simp+decide (disch:=try exact D0) only[go_sem],rfl,by simp+decide (disch:=try exact D0) only[go_sem];rfl,rz _,?_,?_⟩
  ·have:= @Cx (x*2^s);omega
  ·rw[<-me,<-List.map_take,agR sA]
theorem Q8f{a:List Nat}{s:Nat}(ha:Qi a)(bK:a.length<2^42)(hs:s<=15):AC 203 [PV.nat a,.int .i64 s] (· =PV.num (val a/2^s)):=by
 have e1:s/16=0:=Kcy Oz;have e2:s%16=s:=KaO Oz;refine aw Qf func203 ajW fun C hP=>?_;refine Sz4 @Wa @Wb e1 e2 ?_;refine Qa (fun hz=>?_) (fun hz=>?_)
 ·have:a=[]:=Kas.1 Oz;subst this;refine Sz0 ?_;exact wx (Da (by simp[val])) rfl
 have e3:((a.length:Int)-((0:Nat):Int))=((a.length:Nat):Int):=by omega
 refine Sz1 e3 ?_;refine Qm kv [(8,9),(25,60)] [] (fun k J hp=>∃i done,k=a.length-i/\i<=a.length/\done.length=i/\done++ov s (a.drop i)=ov s a/\J 25= .int .i64 i/\
  hp=Qj aA 22 ⟨1,177,bJ (done++List.replicate (a.length-i) 0),false⟩) a.length ?_ ?_
 ·refine⟨0,[],rfl,by omega,rfl,rfl,?_⟩;simp+decide (disch:=first|omega|rfl|(simp+decide only[go_sem,true_and,and_true,Kau,Kcp]<;>rfl)|fail) only[go_sem,true_and,and_true,Kau,Kcp];simp
 rintro _ J _ ⟨i,done,rfl,hi,fW,hd,yO,rfl⟩;refine Sz1 yO ?_;refine Qa (fun hg=>?_) (fun hg=>?_)
 ·have aE:i<a.length:=by omega
  have I8:=fe ha aE;rw[aeN aE]at hd;generalize eT:a[i]=xi at *
  have hlen:=LN (n:=a.length-i) fW (by omega:_=a.length);refine Sz2 yO eT ?_;refine Qa (fun hq=>?_) (fun hq=>?_)
  ·have kT:i+1<a.length:=by omega
   have haj:=fe ha kT;rw[gQ kT]at hd;simp+decide (disch:=first|omega|rfl|(simp+decide only[go_sem,yO,Lo,V',Mc]<;>rfl)|fail) only[go_sem,yO,Lo,V',Mc];refine Qh (a.length-(i+1)) Oz ⟨i+1,_,rfl,by omega,by simp[fW],(KbO ..).symm.trans hd,?_⟩;exact Tz5 yO @true_and @and_true @CU @Nat.sub_sub
  ·rw[gR Oz,Kb3,Ka1]at hd;refine Sz2 yO @Mc ?_;refine Qh (a.length-(i+1)) Oz ⟨i+1,_,rfl,by omega,by simp[fW],(KbO ..).symm.trans hd,?_⟩;exact Tz5 yO @true_and @and_true @CU @Nat.sub_sub
 ·obtain rfl:i=a.length:=by omega
  rw[Kat (Kae _),ov,Kak]at hd;simp+decide (disch:=first|omega|rfl|(simp+decide only[go_sem,Kbw,Ka7,Kak]<;>rfl)|fail) only[go_sem,Kbw,Ka7,Kak];rw[hd];refine xX hP (iS (Ve s a) (by rw[KT];exact bK)) (CV rfl (KT s a).symm) rfl fun hp'=>?_;refine Sz0 ?_;exact Qc (by rw[PF Oz a ha]) rfl
theorem Q4c{x V d q:Nat}(hd:0<d)(h:q=V/d):(V%d*65536+x)/d+65536*q=(x+65536*V)/d/\(V%d*65536+x)%d=(x+65536*V)%d:=by
 subst h;have e:x+65536*V=(V%d*65536+x)+d*(65536*(V/d)):=by
  have:=Kbv V d
  calc x+65536*V=x+65536*(d*(V/d)+V%d):=by rw[this]
   _=_:=by rw[Ka0,KbL];omega
 rw[e,Kct _ _ hd,Kcs];exact⟨rfl,rfl⟩
theorem Q4d{a:List Nat}{d:Nat}(ha:Qi a)(bK:a.length<2^42)(hd:0<d)(oJ:d<65536):AC 196 [PV.nat a,.int .u16 d] (· = .aK [PV.num (val a/d),.int .u16 (val a%d:Nat)]):=by
 refine aw Qf func196 ajQ fun C hP=>?_;refine Sz0 ?_;refine Qm kv [(7,8),(15,38)] [] (fun k J hp=>∃qs,k<=a.length/\qs.length=a.length-k/\Qi qs/\val qs=val (a.drop k)/d/\J 7= .int .u32 (val (a.drop k)%d:Nat)/\J 8= .int .i64 ((k:Int)-1)/\
  hp=Qj aA 11 ⟨1,177,bJ (List.replicate k 0++qs),false⟩) a.length ?_ ?_
 ·refine⟨[],Kae _,by simp,pg,by simp[val],?_⟩;refine Sz2 @true_and @and_true ?_;simp[val]
 rintro k J _ ⟨qs,hk,ZV,qT,hv,h7,h8,rfl⟩;refine Sz2 h7 h8 ?_;have hr:=KbC (val (a.drop k)) hd;refine Qa (fun hg=>?_) (fun hg=>?_)
 ·obtain _|n:=k
  ·omega
  have hn:n<a.length:=by omega
  have I9:=fe ha hn;have e:((n+1:Nat):Int)-1=n:=by omega
  have bq:=Q4c (x:=a[n]) hd hv;rw[<-nd hn]at bq;have ao:(val (a.drop (n+1))%d*65536+a[n])/d<65536:=by rw[Kbp hd];have:(val (a.drop (n+1))%d+1)*65536<=d*65536:=Kam _ hr;omega
  generalize eT:a[n]=xn at *
  generalize val (a.drop (n+1))%d=r at *
  have hlen:n<(List.replicate (n+1) 0++qs).length:=by simp;omega
  refine Sz8 h7 h8 e eT @Lo @agQ @ajc @qx ?_;refine Qh n Oz ⟨(r*65536+xn)/d::qs,by omega,?_,?_,?_,?_⟩
  ·simp;omega
  ·rw[iC];exact⟨ao,qT⟩
  ·rw[val,bq.1]
  ·refine Sz5 h7 h8 @true_and @and_true bq.2 ?_;rw[KaO ao,List.replicate_succ',Ka8,List.singleton_append,pq (by simp)]
 ·obtain rfl:k=0:=by omega
  rw[KbF]at hv h7;have ao:=KbC (val a) hd;simp+decide (disch:=first|omega|rfl|(simp+decide only[go_sem,h7,h8,Ka7,Kau]<;>rfl)|fail) only[go_sem,h7,h8,Ka7,Kau];refine xX hP (iS qT Oz) (CV rfl Oz) rfl fun hp'=>?_;refine Sz1 h7 ?_;refine bO rfl rfl rfl (yd (by rw[hv])) (yd ?_);rw[KaO Oz]
theorem UQ{x:Nat}(h:x<65536):AC 182 [.int .u16 x] (· = .int .i64 (Lib.bitLen x:Nat)):=
 Q33 (by simp[lT];exact⟨rfl,by decide⟩) (fun w=>Q4e x w Oz Oz) (fun _ _=>Qn.int _ _)
theorem KX{x:Nat}(h:x<65536):Lib.bitLen x<=16:=Lib.bitLen_le x 16 Oz Oz
theorem Li{x:Nat}(h:x<65536)(h0:x≠0):1<=Lib.bitLen x:=by have:=Lib.bitLen_half x h0 Oz;omega
theorem Q4f:Lib.bitLen 0=0:=by decide
theorem Q8g:∀(n x:Nat),Lib.bitLen x=n->x≠0->x<65536->2^n<=2*x/\x<2^n:=by
 intro n;induction n with
 |zero=>intro x h h0 hx;have:=Li hx h0;omega
 | succ n ih=>
  intro x h h0 hx;have e:=Lib.bitLen_half x h0 Oz;by_cases h2:x/2=0
  ·have:x=1:=by omega
   subst this;have:n=0:=by rw[h]at e;simp[Q4f]at e;exact e
   subst this;simp
  ·have:=ih (x/2) Oz h2 Oz;rw[KbH];omega
theorem Qqy{x:Nat}(h:x<65536):AC 197 [.int .u16 x] (· = .int .i64 (16-Lib.bitLen x:Nat)):=by have:=KX h;refine aw Qf func197 ajX fun C hP=>?_;refine aq hP (UQ h) ?_;refine Sz0 ?_;exact Qc (by congr 1;omega) rfl
theorem VQ{a:List Nat}(ha:Qi a)(bK:a.length<2^40):AC 152 [PV.nat a] (fun r=>∃n:Nat,r= .int .i64 n/\(n=0↔val a=0)):=by
 have hd:=cE ha;unfold nl at hd;refine aw Qf func152 ajL fun C hP=>?_;refine aq hP (iS ha Oz) ?_;refine Sz0 ?_;refine Qa (fun hz=>?_) (fun hz=>?_)
 ·refine Sz0 ?_;have:val a=0:=m9.1 (Kas.1 Oz);exact⟨rfl,_,Qe _,0,rfl,by simp[this]⟩
 ·have bz:val a≠0:=fun h=>by rw[h,gp]at hz;simp at hz
  have BJ:=LM (val a);have Jo:=Ql (val a);generalize val a=x at *
  obtain⟨k,hk⟩:∃k,(ak x).length=k+1:=⟨(ak x).length-1,by omega⟩
  have ao:k<(ak x).length:=by omega
  have vP:=fe Jo ao;have qf:(ak x)[k]≠0:=by intro h;apply BJ;rw[Kbq,hk,KbZ,Kad ao,h]
  have e:((k+1:Nat):Int)-1=k:=by omega
  generalize eT:(ak x)[k]=xi at *
  have hb:=KX vP;have bw:=Li vP qf;refine eF hk e eT hP (UQ vP) ?_;have e2:(16:Int)*(k:Int)=((16*k:Nat):Int):=by omega
  refine Sz1 e2 ?_;exact⟨rfl,_,Qe _,16*k+Lib.bitLen xi,rfl,by omega⟩
theorem apt(i:Nat):2^(16*i)=65536^i:=by rw[Nat.pow_mul]
theorem Lv{a:List Nat}(ha:Qi a)(bK:a.length<2^40):AC 195 [PV.nat a] (· =if nl (val a)<=4 then .aK [.int .u64 (val a),.bool true]else .aK [.int .u64 0,.bool false]):=by
 have hd:=cE ha;unfold nl at hd;refine aw Qf func195 ajK fun C hP=>?_;refine aq hP (iS ha Oz) ?_;refine Sz0 ?_;have Jo:=Ql (val a);have dT:=Qw (val a);unfold nl;generalize val a=x at *
 refine Qa (fun hz=>?_) (fun hz=>?_)
 ·refine Sz0 ?_;rw[if_neg Oz];exact bO rfl rfl rfl (Qe _) (Qe _)
 ·refine Sz0 ?_;rw[if_pos Oz];refine Qm kv [(4,6),(14,26)] [] (fun k J hp=>∃i,k=(ak x).length-i/\i<=(ak x).length/\J 14= .int .i64 i/\J 4= .int .u64 (val ((ak x).take i))/\hp=aA) (ak x).length ?_ ?_
  ·refine⟨0,rfl,by omega,?_⟩;simp+decide (disch:=first|omega|rfl|(simp+decide only[go_sem,true_and,and_true,Kcr]<;>rfl)|fail) only[go_sem,true_and,and_true,Kcr];simp[val]
  rintro _ J _ ⟨i,rfl,hi,Br,h4,rfl⟩;refine Sz2 Br h4 ?_;refine Qa (fun hg=>?_) (fun hg=>?_)
  ·have aE:i<(ak x).length:=by omega
   have gm:=fe Jo aE;have mU:=Ck aE;have xF:=vZ Jo i Oz;generalize eT:(ak x)[i]=xi at *
   have e2:(16:Int)*(i:Int)=((16*i:Nat):Int):=by omega
   have hb:xi*2^(16*i)+2^(16*i)<=18446744073709551616:=by have h3:2^(16*i)<=2^48:=KbD Oz Oz;have:(xi+1)*2^(16*i)<=65536*2^48:=KbU Oz h3;rw[KaM]at this;omega
   have hpp:0<2^(16*i):=KbY Oz;rw[<-apt]at mU xF;have BN:(val ((ak x).take i)|||xi*2^(16*i))=val ((ak x).take (i+1)):=by rw[Nat.or_comm,DA xF,mU,Ka5,Kb2]
   refine Sz7 Br h4 eT e2 @Rf @R9 BN ?_;refine Qh ((ak x).length-(i+1)) Oz ⟨i+1,rfl,by omega,?_⟩;exact Tz3 Br @true_and @and_true
  ·obtain rfl:i=(ak x).length:=by omega
   rw[Kba,dT]at h4;refine Sz1 h4 ?_;exact bO rfl rfl rfl (Qe _) (Qe _)
set_option maxHeartbeats 2000000 in
theorem afp{u v ex:List Nat}(hu:Qi u)(hv:Qi v)(hn:2<=v.length)(ao:v.length<u.length)(aam:32768<=v.getD (v.length-1) 0)(auM:val (u.drop (u.length-v.length))<val v)(Oa:u.length+ex.length<2^42):
  At Tryz.prog 199 [.ax B0 0 u.length,PV.nat v] 177 (bJ (u++ex)) (fun r xs'=>r=PV.num (val u/val v)/\∃l,xs'=bJ (l++ex)/\Qi l/\l.length=u.length/\val l=val u%val v):=by
 obtain⟨n,iK⟩:∃n,v.length=n+2:=⟨v.length-2,by omega⟩
 have e1:(u.length:Int)-(v.length:Int)=((u.length-v.length:Nat):Int):=by omega
 have xF:=Rk iK;have Fu:=vZ hv n Oz;have avW:=qy hv;have zy:=fe hv (show n+1<v.length by omega);have vN:=fe hv (show n<v.length by omega);have nP:v[n+1]'Oz=v.getD (n+1) 0:=(gQ _).symm;have jh:v[n]'Oz=v.getD n 0:=(gQ _).symm;have avK:32768<=v.getD (n+1) 0:=by rw[iK]at aam;exact aam
 rw[nP]at zy;rw[jh]at vN;rw[iK]at avW;have hvp:0<val v:=by rw[xF];have:0<65536^n:=KbY Oz;have:0<(v.getD (n+1) 0*65536+v.getD n 0)*65536^n:=KcU Oz this;omega
 refine He Qf func199 rfl akV Nz fun C hP=>?_;simp only[WW];refine eY ?_;refine Sz1 e1 ?_;refine PJ kv [(7,11),(24,105)] [7,9,10] (fun k J hp=>∃l qs,k+qs.length=u.length-v.length/\Qi l/\l.length=u.length/\Qi qs/\val (l.drop k)<val v/\val u=val l+val v*(65536^k*val qs)/\J 7= .mp 7 0 0/\
  hp 7=some ⟨1,3,[.int .i64 ((k:Int)-1)],false⟩/\hp 1000000=some ⟨1,177,bJ (l++ex),false⟩/\hp 18=some ⟨1,177,bJ (List.replicate k 0++qs),false⟩/\
  hp 3=some ⟨1,53,[PV.nat v],false⟩/\hp 5=some ⟨1,3,[.int .i64 v.length],false⟩) (u.length-v.length) ?_ ?_
 ·refine⟨u,[],rfl,hu,rfl,pg,auM,by simp[val],?_⟩;refine Sz2 @true_and @and_true ?_;simp
 intro F hF;have mI:F 2= .rb 1000000 0 u.length:=by rw[hF];simp+decide (disch:=try exact D0) only[go_sem]
 have kg:F 3= .mp 3 0 0:=by rw[hF];simp+decide (disch:=try exact D0) only[go_sem]
 have ki:F 5= .mp 5 0 0:=by rw[hF];simp+decide (disch:=try exact D0) only[go_sem]
 have mJ:F 6= .ms 18 (u.length-v.length):=by rw[hF];simp+decide (disch:=try exact D0) only[go_sem]
 have Jm:∀O,[7,9,10].contains O=true->bZ O F=F:=fun O h=>by rw[hF];exact GQ h
 have hk9:=Jm 9 rfl;have axv:=Jm 10 rfl;have Jl:=Jm 7 rfl;have EX:Q7 [9,10] F=F:=by rw[hF];exact Qzt rfl
 clear Jm hF;rintro k J h ⟨l,qs,zx,hl,qQ,qT,Ju,dT,gY,oM,mP,sn,cW,ez⟩;refine AZ @gY oM @mP sn cW ez @mI @kg @ki @mJ ?_;refine Qa (fun hg=>?_) (fun hg=>?_)
 ·obtain _|j:=k
  ·omega
  have e2:((j+1:Nat):Int)-1=j:=by omega
  have e3:((n+2:Nat):Int)-1=((n+1:Nat):Int):=by omega
  have e4:((j+(n+2):Nat):Int)-1=((j+(n+1):Nat):Int):=by omega
  obtain⟨pre,w,post,NL,ej,kq,BP,hw,iL,NW,EG,aar,w0,JA,JC⟩:=amw (n:=n) hl Oz Oz Ju;have jM:=fe hl (show j+(n+2)<l.length by omega);have fY:=fe hl (show j+(n+1)<l.length by omega);have su:=fe hl (show j+n<l.length by omega);have axy:(l++ex).length=u.length+ex.length:=by rw[Kap,qQ]
  have Yt:(l++ex)[j+(n+2)]'Oz=l.getD (j+(n+2)) 0:=by rw[KcO Oz];exact(gQ _).symm
  have X9:(l++ex)[j+(n+1)]'Oz=l.getD (j+(n+1)) 0:=by rw[KcO Oz];exact(gQ _).symm
  rw[<-gQ Oz]at jM fY;have avJ:(bJ (l++ex)).take u.length=bJ l:=by rw[<-List.map_take,<-qQ,List.take_left]
  have ZK:l++ex=pre++(w++(post++ex)):=by rw[NL];simp
  generalize l.getD (j+(n+2)) 0=w2 at *
  generalize l.getD (j+(n+1)) 0=w1 at *
  simp+decide (disch:=first|omega|rfl|(simp+decide only[go_sem,gY,oM,mP,sn,cW,ez,mI,kg,ki,mJ,iK,e2,e3,e4,Yt,X9,nP,Ln,LP,Db,qx]<;>rfl)|fail) only[go_sem,gY,oM,mP,sn,cW,ez,mI,kg,ki,mJ,iK,e2,e3,e4,Yt,X9,nP,Ln,LP,Db,qx];have axP:w.length=n+3:=kq;have aup:=Q7l xF JC JA (by rw[<-gQ (show j+n<l.length by omega)]at su;omega) (by omega:0<v.getD (n+1) 0);have xx:=ag0 xF JC Fu aar (KbY Oz);have xr:=Kbv (w2*65536+w1) (v.getD (n+1) 0);have axo:(w2*65536+w1)/v.getD (n+1) 0<131072:=by rw[Kbp Oz];omega
  have axJ:=KbC (w2*65536+w1) (by omega:0<v.getD (n+1) 0);rw[Ka5]at xr;generalize EE:(w2*65536+w1)/v.getD (n+1) 0=d0 at *
  generalize zp:(w2*65536+w1)%v.getD (n+1) 0=r0 at *
  have Ns:∀(h:HP) v w,Qj (Qj h 10 v) 9 w=Qj (Qj h 9 w) 10 v:=fun h v w=>aer 10 9 (by decide) h v w;refine ajg (fun J=>J 7= .mp 7 0 0/\J 52= .int .u64 d0/\J 53= .int .u64 (w2*65536+w1:Nat)) (Tz3 @gY @true_and @and_true) ?_;clear gY;rintro J ⟨gY,M3,M4⟩;refine ag1 kv [9,10] (fun J2 cg=>J2 7= .mp 7 0 0/\J2 9= .mp 9 0 0/\J2 10= .mp 10 0 0/\cg=Qj (Qj h 9 ⟨1,157,[.int .u64 d0],false⟩) 10 ⟨1,157,[.int .u64 r0],false⟩) ?_ ?_
  ·intro F' Eh;have Xs:F' 3= .mp 3 0 0:=by rw[Eh];simp+decide (disch:=try exact D1 kg) only[go_sem,kg]
   have Xt:F' 5= .mp 5 0 0:=by rw[Eh];simp+decide (disch:=try exact D1 ki) only[go_sem,ki]
   have ZC:bZ 9 F'=F':=by rw[Eh];exact GQ rfl
   have ZB:bZ 10 F'=F':=by rw[Eh];exact GQ rfl
   clear Eh
   repeat' (first|refine eW ?_ ?_|simp+decide (disch:=first|omega|rfl|(simp+decide only[go_sem,gY,M3,M4,cW,ez,Xs,Xt,ZC,ZB,iK,e3,nP,qx]<;>rfl)|fail) only[go_sem,gY,M3,M4,cW,ez,Xs,Xt,ZC,ZB,iK,e3,nP,qx])
   all_goals refine uI (J:=_) ?_
   all_goals simp+decide (disch:=try exact D5 gY zp Ns true_and and_true) only[go_sem,gY,zp,Ns,true_and,and_true]
  clear gY M3 M4 J;rintro J _ ⟨gY,pU,pT,rfl⟩;simp+decide (disch:=first|omega|rfl|(simp+decide only[go_sem,gY,pU,pT,mI,kg,ki,mJ,W8,List.all_cons,List.all_nil,Kaw,Kau,true_and]<;>rfl)|fail) only[go_sem,gY,pU,pT,mI,kg,ki,mJ,W8,List.all_cons,List.all_nil,Kaw,Kau,true_and];refine PJ kv [(62,77)] [] (fun m J hp=>∃d r,m=d/\d*v.getD (n+1) 0+r=w2*65536+w1/\val w<(d+1)*val v/\hp=Qj (Qj h 9 ⟨1,157,[.int .u64 d],false⟩) 10 ⟨1,157,[.int .u64 r],false⟩) d0 ?_ ?_
  ·exact⟨d0,r0,rfl,xr,aup,rfl⟩
  intro F1 Bv;have IX:F1 9= .mp 9 0 0:=by rw[Bv,mu];simp+decide (disch:=try exact D1 pU) only[go_sem,pU]
  have IU:F1 10= .mp 10 0 0:=by rw[Bv,mu];simp+decide (disch:=try exact D1 pT) only[go_sem,pT]
  have MX:F1 11= .fn 204 [] [.mp 9 0 0,.mp 3 0 0,.mp 5 0 0,.mp 10 0 0,.rb 1000000 0 u.length,.mp 7 0 0]:=by rw[Bv,mu];simp+decide (disch:=try exact D0) only[go_sem]
  have fG:F1 3= .mp 3 0 0:=by rw[Bv,mu];simp+decide (disch:=try exact D1 kg) only[go_sem,kg]
  have vu:F1 5= .mp 5 0 0:=by rw[Bv,mu];simp+decide (disch:=try exact D1 ki) only[go_sem,ki]
  rintro d J2 _ ⟨_,r,rfl,xt,Nt,rfl⟩;have axm:d<131072:=by have:d*32768<=d*v.getD (n+1) 0:=Kbf _ avK;omega
  refine Sz3 @IX @IU @MX ?_;refine Q34 kv [(62,67)] [] (fun J hp=>J 67= .bool (decide (r<65536/\(65536<=d∨r*65536+l.getD (j+n) 0<d*v.getD n 0)))/\hp=Qj (Qj h 9 ⟨1,157,[.int .u64 d],false⟩) 10 ⟨1,157,[.int .u64 r],false⟩) ?_ ?_
  ·refine ic (fun hr=>?_) (fun hr=>?_)
   ·refine Sz3 @IX @IU @MX ?_;refine aeH hP (Qzv (dg:=d) (r:=r) (j:=j) hv hl hn rfl Oz Oz Oz Oz) (by simp+decide (disch:=first|omega|rfl|(simp+decide only[go_sem,gj,mP,cW,ez,oM,e2,Kak,Kau,KcP,KbF,Kah]<;>rfl)|fail) only[go_sem,gj,mP,cW,ez,oM,e2,Kak,Kau,KcP,KbF,Kah];simp only[KbF,avJ]) rfl rfl ?_;refine Sz1 iK ?_;refine uI ⟨?_,rfl⟩;refine Sz0 ?_;rw[show j+(n+2)-2=j+n by omega,show n+2-2=n by omega];exact congrArg PV.bool (decide_eq_decide.2 ⟨fun h=>⟨by omega,h⟩,fun h=>h.2⟩)
   ·refine Sz3 @IX @IU @MX ?_;refine uI ⟨?_,rfl⟩;refine Sz0 ?_;simp;omega
  rintro J3 _ ⟨MT,rfl⟩;simp (disch:=decide) only[mu,uJ];refine Sz1 MT ?_;refine Qa (fun ht=>?_) (fun ht=>?_)
  ·obtain⟨hr,ht⟩:=ht;have za:val w<d*val v:=by
    rcases ht with ht|ht
    ·exact KaE aar (Kam _ ht)
    ·exact agY xF JC JA xt ht
   obtain _|d:=d
   ·omega
   have e5:((d+1:Nat):Int)-1=(d:Nat):=by omega
   refine Cb @IX @IU @fG @vu cW ez iK e3 e5 nP Ns ?_;refine Qh d Oz ⟨d,r+v.getD (n+1) 0,rfl,?_,za,rfl⟩;rw[KaM]at xt;omega
  have yY:d<65536:=by apply Decidable.byContradiction;intro iw;apply ht;refine⟨?_,.inl Oz⟩;have:65536*v.getD (n+1) 0<=d*v.getD (n+1) 0:=Kam _ Oz;omega
  have avI:¬r*65536+l.getD (j+n) 0<d*v.getD n 0:=by
   intro au7;by_cases hr:r<65536
   ·exact ht ⟨hr,.inr au7⟩
   ·have:=we yY vN;omega
  have e5:j+(n+2)+1-j=n+3:=by omega
  subst Bv;simp (disch:=decide) only[mu,EX,uJ];refine Sz14 @gY @pU @pT @mI @kg @ki @mJ cW ez oM @mP e2 iK e5 ?_;have Fq:=PA w v d 0 0 hw Oz Oz;have Jb:=Vg w v d 0 0 Oz Oz yY hv;have bo:=Vc w v d 0 0;have aai:=Ud w v d 0 0;have JB:=qy hw;rw[kq]at Fq JB;refine Ii hP (Qzu (pre:=pre) (w:=w) (post:=post++ex) (j:=j) (m:=n+3) (q:=d) hw hv yY ej kq Oz (by rw[<-ZK];omega)) (O:=1000000) (Tz2 @mP ZK) (rz _) (by simp;omega) (by simp[kA,B0]) rfl ?_;rintro _ _ _ _ ⟨rfl,rfl⟩;generalize fR w v d 0 0=sq at *
  obtain⟨⟨Fq,bw⟩,Jb⟩:=And.intro Fq Jb;have XA:=qy bo;rw[aai,kq]at XA;have axH:pre.length+(w.length+post.length)=u.length:=by rw[<-qQ,NL];simp
  have axK:j<(List.replicate (j+1) 0++qs).length:=by simp;omega
  have Jz:val l=val pre+65536^j*val w:=by rw[NL,n9,n9,NW,ej,Kb4,KaP]
  simp+decide (disch:=first|omega|rfl|(simp+decide only[go_sem,pA,gY,pU,pT,mI,kg,ki,mJ]<;>rfl)|fail) only[go_sem,pA,gY,pU,pT,mI,kg,ki,mJ];refine Qa (fun hb=>?_) (fun hb=>?_)
  ·have cN:sq.2.2=1:=by omega
   rw[Jb,cN]at Fq;obtain _|d:=d
   ·omega
   have X4:=agZ xF JC Fu Oz yY xt avI;obtain⟨k,hk⟩:=Pz sq.1 v 0 Oz;have zs:=Vb sq.1 v 0;have ZY:=Uc sq.1 v 0;rw[aai,kq]at hk ZY;have ZW:=qy zs;rw[ZY]at ZW;obtain⟨M7,M8⟩:=ajh (B:=65536^(n+3)) (S:=val sq.1) (e:=d) Oz XA X4 Oz ZW JB;have e6:((d+1:Nat):Int)-1=(d:Nat):=by omega
   simp+decide (disch:=first|omega|rfl|(simp+decide only[go_sem,gY,pU,pT,mI,kg,ki,mJ,cW,ez,oM,mP,e2,e6,iK,e5]<;>rfl)|fail) only[go_sem,gY,pU,pT,mI,kg,ki,mJ,cW,ez,oM,mP,e2,e6,iK,e5];refine Ii hP (Q2k (pre:=pre) (w:=sq.1) (post:=post++ex) (j:=j) (m:=n+3) bo hv ej Oz Oz (by simp;omega)) (O:=1000000) Tz0 (rz _) (by simp;omega) (by simp[kA,B0]) rfl ?_;rintro _ _ _ _ ⟨rfl,rfl⟩;have Ex:=Wi (q:=d) (R:=lU sq.1 v 0) ej NW dT Jz M8;simp+decide (disch:=first|omega|rfl|(simp+decide only[go_sem,pA,gY,pU,pT,mI,kg,ki,mJ,cW,ez,oM,mP,sn,e2,e6,iK,e5,HX,KaO (by omega:d<65536),Jl]<;>rfl)|fail) only[go_sem,pA,gY,pU,pT,mI,kg,ki,mJ,cW,ez,oM,mP,sn,e2,e6,iK,e5,HX,KaO (by omega:d<65536),Jl];refine Qh j Oz ⟨pre++(lU sq.1 v 0++post),d::qs,by simp;omega,?_,?_,?_,?_,Ex.2,?_⟩
   ·rw[o9,o9];exact⟨BP,zs,iL⟩
   ·simp;omega
   ·rw[iC];exact⟨by omega,qT⟩
   ·rw[Ex.1];exact M7
   ·simp+decide (disch:=first|omega|rfl|(simp+decide only[go_sem,cW,ez,true_and,and_true,iK,Ka8]<;>rfl)|fail) only[go_sem,cW,ez,true_and,and_true,iK,Ka8]
  ·have cN:sq.2.2=0:=by omega
   rw[Jb,cN]at Fq;obtain⟨M7,M8⟩:=amx (S:=val sq.1) (d:=d) Oz Nt;have Ex:=Wi (q:=d) (R:=sq.1) ej NW dT Jz M8;simp+decide (disch:=first|omega|rfl|(simp+decide only[go_sem,pA,gY,pU,pT,mI,kg,ki,mJ,cW,ez,oM,mP,sn,e2,iK,e5,HX,KaO yY,Jl]<;>rfl)|fail) only[go_sem,pA,gY,pU,pT,mI,kg,ki,mJ,cW,ez,oM,mP,sn,e2,iK,e5,HX,KaO yY,Jl];refine Qh j Oz ⟨pre++(sq.1++post),d::qs,by simp;omega,?_,?_,?_,?_,Ex.2,?_⟩
   ·rw[o9,o9];exact⟨BP,bo,iL⟩
   ·simp;omega
   ·rw[iC];exact⟨yY,qT⟩
   ·rw[Ex.1];exact M7
   ·simp+decide (disch:=first|omega|rfl|(simp+decide only[go_sem,cW,ez,true_and,and_true,iK,Ka8]<;>rfl)|fail) only[go_sem,cW,ez,true_and,and_true,iK,Ka8]
 ·obtain rfl:k=0:=by omega
  rw[KbF]at Ju;rw[Nat.pow_zero,KcE]at dT;have hdiv:val u/val v=val qs:=by rw[dT,Kct _ _ hvp,Kcy Ju,Ka1]
  have Fe:val u%val v=val l:=by rw[dT,Kcs,KaO Ju]
  simp+decide (disch:=first|omega|rfl|(simp+decide only[go_sem,gY,oM,mP,sn,cW,ez,mI,kg,ki,mJ,Ka7,Kau]<;>rfl)|fail) only[go_sem,gY,oM,mP,sn,cW,ez,mI,kg,ki,mJ,Ka7,Kau];refine ik hP (iS qT Oz) (CV (ty:=177) (fz:=false) (by simp+decide (disch:=first|omega|rfl|(simp+decide only[go_sem,sn,Ka7,Kau]<;>rfl)|fail) only[go_sem,sn,Ka7,Kau]) Oz) rfl ?_;refine Sz0 ?_;refine R8 (xs':=bJ (l++ex)) (p:=PV.num (val qs)) ?_ (rz _) (by simp;omega) Tz0 rfl ⟨by rw[hdiv],l,rfl,hl,qQ,Fe.symm⟩;show FW.Q6 h [18] 1000000=_;simp only[FW.Q6];rw[if_neg (by decide),mP]
theorem Q8h{a:List Nat}{s:Nat}(ha:Qi a)(bK:a.length<2^40)(hs:s<=15):AC 198 [PV.nat a,.int .i64 (-(s:Int))] (· =PV.num (val a/2^s)):=by
 have iJ:=cE ha;unfold nl at iJ;by_cases h0:val a=0
 ·refine aw Qf func198 Mi fun C hP=>?_;refine aq hP (iS ha Oz) ?_;refine Sz0 ?_;refine Qp (fun hz=>by omega) (fun hz=>?_);refine Sz0 ?_;refine Qp (fun hz=>by omega) (fun hz=>?_);refine Sz0 ?_;refine Qa (fun hz=>?_) (fun hz=>absurd (by rw[h0,gp];rfl) hz);refine Sz0 ?_;exact wx (Da (by simp[h0])) rfl
 by_cases ub:s=0
 ·subst ub;have:=(KW (s:=0) ha bK Oz h0).OK;rw[Nat.pow_zero,Kcn]at this;rw[Nat.pow_zero,Nat.div_one];exact this
 have qf:(ak (val a)).length≠0:=fun h=>h0 (m9.1 (rj h));refine aw Qf func198 Mi fun C hP=>?_;refine aq hP (iS ha Oz) ?_;refine Sz0 ?_;refine Qp (fun hz=>by omega) (fun hz=>?_);refine Sz0 ?_;refine Qp (fun hz=>by omega) (fun hz=>?_);refine Sz0 ?_;refine Qa (fun hz=>by omega) (fun hz=>?_);refine Sz0 ?_;refine Qa (fun hz=>?_) (fun hz=>by omega);have e:(0:Int)- -(s:Int)=(s:Nat):=by omega
 refine pP e hP (Q8f (Ql (val a)) Oz hs) ?_;refine Sz1 @Qw ?_;exact Qc rfl rfl
theorem Q8i{x d:Nat}(hx:(ak x).length<2^42)(hd:0<d)(oJ:d<65536):AC 196 [PV.num x,.int .u16 d] (· = .aK [PV.num (x/d),.int .u16 (x%d:Nat)]):=by
 have:=Q4d (Ql x) hx hd oJ
 rwa[Qw]at this
theorem KY{a b:List Nat}(ha:Qi a)(hb:Qi b)(bK:a.length<2^38)(eh:b.length<2^38):AC 179 [PV.nat a,PV.nat b]
  (· =if val b=0 then .aK [PV.num 0,PV.num 0,.int .i64 3]else .aK [PV.num (val a/val b),PV.num (val a%val b),.int .i64 0]):=by
 have iJ:=cE ha;have kR:=cE hb;unfold nl at iJ kR;refine aw Qf func179 ajR fun C hP=>?_;refine aq hP (iS ha Oz) ?_;refine aq hP (iS hb Oz) ?_;refine Sz0 ?_;have eS:=Ql (val a);have mW:=Ql (val b);have sH:=Qw (val a);have oW:=Qw (val b);have awf:=LM (val b);generalize val a=x at *
 generalize val b=y at *
 refine Qa (fun hz=>?_) (fun hz=>?_)
 ·have dG:y=0:=m9.1 (rj Oz);refine Sz0 ?_;rw[if_pos dG];exact wN rfl rfl rfl rfl Aj Aj (Qe _)
 have dG:y≠0:=fun h=>by rw[h,gp]at hz;simp at hz
 rw[if_neg dG];refine aq hP (HF eS mW Oz Oz) ?_;refine Sz2 sH oW ?_;refine Qa (fun hc=>?_) (fun hc=>?_)
 ·have ao:x<y:=by
   unfold iq at hc;split at hc
   ·assumption
   ·split at hc<;>omega
  refine aq hP (CO eS Oz) ?_;refine Sz1 sH ?_;exact wN rfl rfl rfl rfl (Da (Kcy ao)) (yd (by rw[KaO ao])) (Qe _)
 have iw:y<=x:=by unfold iq at hc;split at hc<;>omega
 refine Sz0 ?_;refine Qa (fun h1=>?_) (fun h1=>?_)
 ·obtain⟨d,hd⟩:∃d,ak y=[d]:=by
   match h:ak y,h1 with
   | [d],_=>exact⟨d,rfl⟩
   | [],h1=>simp at h1
   |_::_::_,h1=>simp at h1;omega
  have hyd:y=d:=by rw[<-oW,hd];simp[val]
  have EF:d<65536:=by rw[hd]at mW;exact mW d (by simp)
  simp+decide (disch:=first|omega|rfl|(simp+decide only[go_sem,hd,Kbn,KbG,Kaz,KaR]<;>rfl)|fail) only[go_sem,hd,Kbn,KbG,Kaz,KaR];refine Qy hP (Q8i (x:=x) (d:=d) Oz Oz EF) (by rw[PV.num];rfl) rfl rfl ?_;have hm:x%d<18446744073709551616:=by have:=KbC x (show 0<d by omega);omega
  refine aq hP (H3 hm) ?_;refine Sz0 ?_;rw[hyd];exact wN rfl rfl rfl rfl (Qe _) (Qe _) (Qe _)
 obtain⟨n,hn⟩:∃n,(ak y).length=n+2:=⟨(ak y).length-2,by omega⟩
 obtain⟨m,hm⟩:∃m,(ak x).length=m+2:=by have:=gE iw;unfold nl at this;exact⟨(ak x).length-2,by omega⟩
 have e1:((n+2:Nat):Int)-1=((n+1:Nat):Int):=by omega
 have BJ:(ak y)[n+1]'Oz≠0:=by
  intro h;apply awf;have:(ak y).getLast? =some ((ak y)[n+1]'Oz):=by rw[Kbq,show(ak y).length-1=n+1 by omega];exact Kad _
  rw[this,h]
 have JE:=fe mW (show n+1<(ak y).length by omega);have axp:val (ak y)=y:=Qw y;generalize xH:(ak y)[n+1]'Oz=yi at *
 have pW:=KX JE;have mL:=Li JE BJ;obtain⟨fu,avL⟩:=Q8g _ yi rfl BJ JE;obtain⟨s,hs,xE⟩:∃s,16-Lib.bitLen yi=s/\s<=15:=⟨_,rfl,by omega⟩
 refine eF hn e1 xH hP (Qqy JE) ?_;refine Sz1 hs ?_;have hso:=KW (a:=ak x) (s:=s) eS Oz xE (by rw[sH];omega);refine amr hP hso rfl rfl rfl (by decide) ?_;rintro _ _ rfl;rw[sH];have hDl:(ak (x*2^s)).length<=m+3:=by have h1:=mC x (2^s);have h2:nl (2^s)<=1:=oe.2 (by have:2^s<=2^15:=KbD Oz xE;omega);unfold nl at h1 h2;omega
 have axb:m+2<=(ak (x*2^s)).length:=by have:=gE (show x<=x*2^s from Kce _ (KbY Oz));unfold nl at this;omega
 refine Sz1 hm ?_;rw[Ld (ys:=bJ [0,0]) (xs:=bJ (ak (x*2^s))) (by simp+decide (disch:=first|omega|rfl|(simp+decide only[go_sem,kE]<;>rfl)|fail) only[go_sem,kE];rfl) Tz0 Oz (by simp) (by simp;omega) (by simp;omega)];rw[Kah (by simp),<-List.map_append];simp+decide (disch:=first|omega|rfl|(simp+decide only[go_sem,hm,Kaz,KaR]<;>rfl)|fail) only[go_sem,hm,Kaz,KaR];have aak:=(KW (a:=ak y) (s:=s) mW Oz xE (by rw[oW];omega)).OK;rw[oW]at aak;refine Qo hP aak ?_;obtain⟨g1,g2⟩:=aeu xE (by rw[show 16-s=Lib.bitLen yi by omega];exact fu) (by rw[show 16-s=Lib.bitLen yi by omega];exact avL);obtain⟨tN,hYt,atS⟩:=Q35 hn xH g1 g2;have ia:n<=m:=by have:=gE iw;unfold nl at this;omega
 obtain⟨u,ex,hu1,N9,hu3,hu4,hu5,hu6⟩:=Q36 (s:=s) hm xE ia atS;have auq:x*2^s/(y*2^s)=x/y:=Nat.mul_div_mul_right _ _ (KbY Oz);have aur:x*2^s%(y*2^s)=x%y*2^s:=Nat.mul_mod_mul_right _ _ _;rw[hu1];refine Sz0 ?_;have ZI:=afp (u:=u) (v:=ak (y*2^s)) (ex:=ex) hu3 (Ql _) Oz Oz (by rw[tN];exact hYt) (by rw[tN,N9,Qw];exact hu6) Oz;rw[N9,hu4,Qw,auq,aur]at ZI;refine Ii hP ZI (O:=52) Tz0 (rz _) (by simp;omega) (by simp[kA]) rfl ?_;rintro _ _ _ _ ⟨rfl,l,rfl,fY,jM,y9⟩;have e5:IntKind.i64.wrap (0-(s:Int))= -(s:Int):=by rw[yc Oz Oz];omega
 have cO:(bJ (l++ex)).take (m+2+1)=bJ l:=by rw[<-List.map_take,show m+2+1=l.length by omega,List.take_left]
 simp+decide (disch:=first|omega|rfl|(simp+decide only[go_sem,pA]<;>rfl)|fail) only[go_sem,pA];refine ik hP (iS fY Oz) (by simp[Qr,cx,aQ,Qj,<-List.map_append,cO]) rfl ?_;refine Sz1 e5 ?_;rw[y9];have Jx:=Q8h (a:=ak (x%y*2^s)) (s:=s) (Ql _) (by have:=gE (show x%y*2^s<=x*2^s from Kam _ (Nat.mod_le _ _));unfold nl at this;omega) xE;rw[Qw,Nat.mul_div_cancel _ (KbY Oz)]at Jx;refine Qo hP Jx ?_;refine Sz0 ?_;exact wN rfl rfl rfl rfl (Qe _) (Qe _) (Qe _)
theorem P5{a b:List Nat}(ha:Qi a)(hb:Qi b)(bK:a.length<2^38)(eh:b.length<2^38):AC 178 [PV.nat a,PV.nat b] (· =PV.num (Nat.gcd (val a) (val b))):=by
 have iJ:=cE ha;have kR:=cE hb;unfold nl at iJ kR;refine aw Qf func178 ajV fun C hP=>?_;refine aq hP (CO ha Oz) ?_;refine aq hP (CO hb Oz) ?_;refine Sz0 ?_;refine Qm kv [(0,1),(4,11),(16,49)] [] (fun m J hp=>∃x,Nat.gcd x m=Nat.gcd (val a) (val b)/\(ak x).length<2^38/\(ak m).length<2^38/\J 0=PV.num x/\J 1=PV.num m/\hp=aA) (val b) ?_ ?_
 ·refine⟨val a,rfl,by omega,by omega,?_⟩;exact Tz2 @true_and @and_true
 rintro y J _ ⟨x,hg,hx,hy,h0,h1,rfl⟩;generalize Nat.gcd (val a) (val b)=g at *
 refine Sz2 h0 h1 ?_;refine Qa (fun hc=>?_) (fun hc=>?_)
 ·have dG:y≠0:=fun h=>by rw[h,gp]at hc;simp at hc
  have Fe:(ak (x%y)).length<2^38:=by have:=gE (Nat.le_of_lt (KbC x (Kbb dG)));unfold nl at this;omega
  refine cR h0 h1 hP (Lv (Ql x) Oz) ?_;refine Sz2 h0 h1 ?_;rw[Qw];by_cases fM:nl x<=4
  ·have mV:=Hd.1 fM;rw[if_pos fM];refine cR h0 h1 hP (Lv (Ql y) Oz) ?_;rw[Qw];by_cases dF:nl y<=4
   ·have sI:=Hd.1 dF;rw[if_pos dF];refine Sz2 h0 h1 ?_;refine Qm kv [(5,5),(7,7),(33,38)] [] (fun m J hp=>∃p,Nat.gcd p m=g/\p<18446744073709551616/\m<18446744073709551616/\J 5= .int .u64 p/\J 7= .int .u64 m/\hp=aA) y ?_ ?_
    ·refine⟨x,hg,mV,sI,?_⟩;exact Tz2 @true_and @and_true
    rintro q J2 _ ⟨p,jh,cK,cg,h5,h7,rfl⟩;refine Sz2 h5 h7 ?_;refine Qa (fun hq=>?_) (fun hq=>?_)
    ·have ma:0<q:=by omega
     refine Sz3 h5 h7 @qx ?_;refine Qh (p%q) (KbC _ ma) ⟨q,?_,cg,?_,?_⟩
     ·rw[<-jh,KcH p q,Nat.gcd_rec q p,KcH]
     ·have:=KbC p ma;omega
     ·exact Tz2 @true_and @and_true
    ·obtain rfl:q=0:=by omega
     refine cR h5 h7 hP (H3 cK) ?_;refine Sz0 ?_;exact Qc (by rw[<-jh,KcS]) rfl
   ·rw[if_neg dF];refine cR h0 h1 hP (KY (Ql x) (Ql y) Oz Oz) ?_;rw[Qw,Qw,if_neg dG];refine Sz2 h0 h1 ?_;refine Qh (x%y) (KbC _ (Kbb dG)) ⟨y,?_,hy,Fe,?_⟩
    ·rw[<-hg,KcH x y,Nat.gcd_rec y x,KcH]
    ·exact Tz2 @true_and @and_true
  ·rw[if_neg fM];refine cR h0 h1 hP (Lv (Ql y) Oz) ?_;obtain⟨r1,r2,hr⟩:∃r1 r2,(if nl (val (ak y))<=4 then PV.aK [.int .u64 (val (ak y)),.bool true]else .aK [.int .u64 0,.bool false])= .aK [.int .u64 r1,.bool r2]:=by split<;>exact⟨_,_,rfl⟩
   rw[hr];refine cR h0 h1 hP (KY (Ql x) (Ql y) Oz Oz) ?_;rw[Qw,Qw,if_neg dG];refine Sz2 h0 h1 ?_;refine Qh (x%y) (KbC _ (Kbb dG)) ⟨y,?_,hy,Fe,?_⟩
   ·rw[<-hg,KcH x y,Nat.gcd_rec y x,KcH]
   ·exact Tz2 @true_and @and_true
 ·have dG:y=0:=m9.1 (rj Oz);subst dG;refine Sz1 h0 ?_;exact Qc (by rw[<-hg,KcS]) rfl
theorem zZ(n:Bool)(x:Nat):AC 174 [.bool n,PV.num x] (· =PV.zz (if n then -(x:Int)else x)):=by
 refine aw Qf func174 aj0 fun C hP=>?_;refine Sz0 ?_;refine z9 (fun hn=>?_) (fun hn=>?_)
 all_goals
  refine Sz0 ?_;refine bX ?_;refine Sz0 ?_;exact Qc (by rw[<-Mf,hn];simp) rfl
theorem afq{n:Bool}{a:List Nat}(ha:Qi a)(bK:a.length<2^42):AC 194 [.bool n,PV.nat a] (· =PV.zz (zv n a)):=by
 refine aw Qf func194 ajZ fun C hP=>?_;refine aq hP (CO ha bK) ?_;refine Sz0 ?_;refine z9 (fun hn=>?_) (fun hn=>?_)
 all_goals
  refine Sz0 ?_;refine bX ?_;refine Sz0 ?_;exact Qc (by have:=Mf n (val a);rw[hn]at this;subst hn;simpa[zv]using this) rfl
theorem Q4g{n:Bool}{a:List Nat}(ha:Qi a)(bK:a.length<2^42):AC 177 [PV.zi n a] (· =PV.zz (zv n a)):=by refine aw Qf func177 aj2 fun C hP=>?_;refine aq hP (afq ha bK) ?_;refine Sz0 ?_;refine bX ?_;refine Sz0 ?_;exact Qc rfl rfl
theorem KZ{n:Bool}{a:List Nat}(ha:Qi a)(bK:a.length<2^40):AC 122 [PV.zi n a] (· = .int .i64 (fN (zv n a))):=by
 refine aw Qf func122 aj4 fun C hP=>?_;refine Sz0 ?_;refine gP hP (VQ ha bK) rfl rfl rfl ?_;rintro _ ⟨k,rfl,hk⟩;refine Sz0 ?_;rw[Kc];refine Qa (fun hz=>?_) (fun hz=>?_)
 ·refine Sz0 ?_;rw[if_pos (hk.1 Oz)];exact Qc rfl rfl
 ·rw[if_neg (fun h=>hz (by rw[hk.2 h];rfl))];refine Sz0 ?_;refine CF (fun hn=>?_) (fun hn=>?_)
  ·refine Sz0 ?_;exact Qc (by simp[hn]) rfl
  ·refine Sz0 ?_;exact Qc (by simp[hn]) rfl
theorem Um{a b:List Nat}(ha:Qi a)(hb:Qi b)(bK:a.length<2^40)(eh:b.length<2^40):AC 183 [PV.nat a,PV.nat b] (· = .int .i64 (iq (val a) (val b))):=by refine aw Qf func183 aj6 fun C hP=>?_;refine aq hP (HF ha hb bK eh) ?_;refine Sz0 ?_;exact Qc rfl rfl
theorem Q8j{n m:Bool}{a b:List Nat}(ha:Qi a)(hb:Qi b)(bK:a.length<2^40)(eh:b.length<2^40):AC 153 [PV.zi n a,PV.zi m b] (· = .int .i64 (fD (zv n a) (zv m b))):=by
 have hx:=Kc n a;have hy:=Kc m b;refine aw Qf func153 aj5 fun C hP=>?_;refine aq hP (KZ ha bK) ?_;refine aq hP (KZ hb eh) ?_;refine Sz0 ?_;refine Qa (fun hs=>?_) (fun hs=>?_)
 ·refine Sz0 ?_;exact Qc (by rw[ajl hs]) rfl
 refine Sz0 ?_;refine Qa (fun dF=>?_) (fun dF=>?_)
 ·refine Sz0 ?_;exact Qc (by rw[ajm dF]) rfl
 have he:fN (zv n a)=fN (zv m b):=by omega
 refine Sz0 ?_;refine Qa (fun sF=>?_) (fun sF=>?_)
 ·refine aq hP (Um hb ha eh bK) ?_;refine Sz0 ?_;exact Qc (by rw[ajn (Dd.1 sF) (Dd.1 (he▸sF))]) rfl
 ·refine aq hP (Um ha hb bK eh) ?_;refine Sz0 ?_;exact Qc (by rw[aiO (fun h=>sF (Dd.2 h)) (fun h=>sF (he▸Dd.2 h))]) rfl
theorem UR{n m:Bool}{a b:List Nat}(ha:Qi a)(hb:Qi b)(bK:a.length<2^40)(eh:b.length<2^40):AC 181 [PV.zi n a,PV.zi m b] (· =PV.zz (zv n a+zv m b)):=by
 refine aw Qf func181 aj7 fun C hP=>?_;refine Sz0 ?_;refine CF (fun ia=>?_) (fun ia=>?_)
 ·have ia:n=m:=by simpa using ia
  subst ia;refine aq hP (ahT ha hb bK eh) ?_;refine aq hP (zZ n (val a+val b)) ?_;refine Sz0 ?_;refine bX ?_;refine Sz0 ?_;exact Qc (congrArg PV.zz (by unfold zv;split<;>simp<;>omega)) rfl
 have ia:n= !m:=by cases n<;>cases m<;>simp_all
 subst ia;refine aq hP (HF ha hb bK eh) ?_;refine Sz0 ?_;refine Qa (fun hc=>?_) (fun hc=>?_)
 ·rw[Hx]at hc;refine aq hP (P4 hb ha eh bK Oz) ?_;refine aq hP (zZ m (val b-val a)) ?_;refine Sz0 ?_;refine bX ?_;refine Sz0 ?_;exact Qc (congrArg PV.zz (by unfold zv;cases m<;>simp<;>omega)) rfl
 ·rw[Hx]at hc;refine aq hP (P4 ha hb bK eh Oz) ?_;refine aq hP (zZ (!m) (val a-val b)) ?_;refine Sz0 ?_;refine bX ?_;refine Sz0 ?_;exact Qc (congrArg PV.zz (by unfold zv;cases m<;>simp<;>omega)) rfl
theorem xY{n m:Bool}{a b:List Nat}(ha:Qi a)(hb:Qi b)(bK:a.length<2^40)(eh:b.length<2^40):AC 147 [PV.zi n a,PV.zi m b] (· =PV.zz (zv n a*zv m b)):=by refine aw Qf func147 akI fun C hP=>?_;refine aq hP (HG ha hb bK eh) ?_;refine aq hP (zZ (!(n==m)) (val a*val b)) ?_;refine Sz0 ?_;refine bX ?_;refine Sz0 ?_;exact Qc (congrArg PV.zz (by unfold zv;cases n<;>cases m<;>simp[Int.neg_mul,Int.mul_neg])) rfl
theorem HH{a:List Nat}(hl:a.length<2^43):AC 149 [PV.nat a] (· = .bool (decide (a=[1]))):=by
 refine aw Qf func149 akJ fun C hP=>?_;refine Sz0 ?_;refine Qa (fun hz=>?_) (fun hz=>?_)
 ·obtain⟨x,xs,rfl⟩:∃x xs,a=x::xs:=by
   match a,hz with
   |x::xs,_=>exact⟨x,xs,rfl⟩
  simp+decide (disch:=first|omega|rfl|(simp+decide only[go_sem,Kbn,List.getElem_cons_zero]<;>rfl)|fail) only[go_sem,Kbn,List.getElem_cons_zero];refine Qc (congrArg PV.bool ?_) rfl;rw[<-Bool.decide_and];exact decide_eq_decide.2 ⟨fun⟨h1,h2⟩=>by
   have:xs=[]:=Kas.1 Oz;subst this;congr 1;omega,fun h=>by
   injection h with h1 h2;subst h1 h2;simp⟩
 ·have:a=[]:=Kas.1 Oz;subst this;refine Sz0 ?_;exact Qc rfl rfl
theorem Un(x:Nat):(ak x=[1])↔x=1:=⟨fun h=>by have:=Qw x;rw[h]at this;simpa[val]using this.symm,fun h=>by rw[h,uH]⟩
theorem Mo{x:Nat}(hl:(ak x).length<2^43):AC 149 [PV.num x] (· = .bool (decide (x=1))):=by
 have:=HH hl
 rwa[decide_eq_decide.2 (Un x)]at this
theorem Hj:AC 145 [] (· =PV.nat [1]):=by refine aw Qf func145 akK fun C hP=>?_;refine Sz0 ?_;exact Qc rfl rfl
theorem US{x y:Nat}(hx:(ak x).length<2^38)(hy:(ak y).length<2^38)(h0:y≠0):AC 179 [PV.num x,PV.num y] (· = .aK [PV.num (x/y),PV.num (x%y),.int .i64 0]):=by
 have:=KY (Ql x) (Ql y) hx hy
 rwa[Qw,Qw,if_neg h0]at this
theorem akW{x y:Nat}(hx:(ak x).length<2^38)(hy:(ak y).length<2^38):AC 178 [PV.num x,PV.num y] (· =PV.num (Nat.gcd x y)):=by
 have:=P5 (Ql x) (Ql y) hx hy
 rwa[Qw,Qw]at this
theorem Q2m{n:Bool}{a d:List Nat}(ha:Qi a)(hd:Qi d)(bK:a.length<2^38)(sv:d.length<2^38):AC 146 [PV.zi n a,PV.nat d] (· =PV.rat (rv n a d)):=by
 have qd:=cE ha;have NP:=cE hd;rw[<-lf n a]at qd;unfold rv;unfold nl at qd NP;refine wm Qf func146 rfl akL (by simp[MA]) fun C hP=>?_;simp only[MA];refine eY ?_;refine Sz0 ?_;refine Qy hP (CO hd (by omega)) rfl rfl rfl ?_;refine Sz0 ?_;refine Qy hP (Q4g ha (by omega)) rfl rfl rfl ?_;refine Sz0 ?_;generalize zv n a=z at *
 generalize val d=D at *
 have hlen:∀x:Nat,((ak x).length:Int)=0↔x=0:=fun x=>by rw[<-m9,<-List.length_eq_zero_iff];omega
 have Xi:∀ {fr:Fr} {hp:HP},(D=0∨z=0)->yz (· =PV.rat (mkRat z D)) (.agg [.bool false,.ab,PV.nat [1]]):=fun h=>by rw[Uf h];exact wx Rl rfl
 refine Qp (fun hz=>?_) (fun hz=>?_)
 ·refine Sz0 ?_;refine Qy hP Hj rfl rfl rfl ?_;refine Sz0 ?_;refine bX ?_;refine Sz0 ?_;exact Xi (fr:=aO) (hp:=aA) (.inl ((hlen _).1 hz))
 refine Sz0 ?_;refine Qa (fun BT=>?_) (fun BT=>?_)
 ·refine Sz0 ?_;refine Qy hP Hj rfl rfl rfl ?_;refine Sz0 ?_;refine bX ?_;refine Sz0 ?_;exact Xi (fr:=aO) (hp:=aA) (.inr (Int.natAbs_eq_zero.1 ((hlen _).1 BT)))
 have hD:D≠0:=fun h=>hz ((hlen _).2 h);refine Sz0 ?_;refine Qy hP (Mo (by omega)) rfl rfl rfl ?_;refine Sz0 ?_;refine Qa (fun h1=>?_) (fun h1=>?_)
 ·subst h1;refine Sz0 ?_;refine bX ?_;refine Sz0 ?_;exact Qc (by rw[<-apb];simp only[uH]) rfl
 refine Sz0 ?_;refine Qy hP (akW (by omega) (by omega)) rfl rfl rfl ?_;have oL:Nat.gcd z.natAbs D≠0:=fun h=>hD (Nat.eq_zero_of_gcd_eq_zero_right h);have tQ:(ak (Nat.gcd z.natAbs D)).length<2^38:=by have:=gE (KcY z.natAbs (Kbb hD));unfold nl at this;omega
 have dS:=Se (z:=z) hD;generalize Nat.gcd z.natAbs D=g at *
 refine Sz0 ?_;refine Qy hP (Mo (by omega)) rfl rfl rfl ?_;refine Sz0 ?_;refine CF (fun h2=>?_) (fun h2=>?_)
 ·refine Sz0 ?_;refine Qy hP (US (by omega) tQ oL) rfl rfl rfl ?_;refine Sz0 ?_;refine Qy hP (US (by omega) tQ oL) rfl rfl rfl ?_;refine Sz0 ?_;refine bX ?_;refine Sz0 ?_;exact Qc dS rfl
 ·have:g=1:=by simpa using h2
  subst this;rw[Nat.div_one,Nat.div_one]at dS;refine Sz0 ?_;refine bX ?_;refine Sz0 ?_;exact Qc dS rfl
theorem Aa(a:List Nat):AC 151 [PV.nat a] (· =PV.zi false a):=by refine aw Qf func151 akN fun C hP=>?_;refine Sz0 ?_;refine bX ?_;refine Sz0 ?_;exact Qc rfl rfl
def an1(k:Nat)(q:Rat)(r:PV):Prop:=∃n a d,r= .aK [PV.zi n a,PV.nat d]/\Qi a/\Qi d/\a.length<=k/\d.length<=k/\val d≠0/\rv n a d=q
theorem xZ{n:Bool}{a d:List Nat}{k:Nat}(ha:Qi a)(hd:Qi d)(hk:1<=k)(bK:a.length<=k)(sv:d.length<=k)(iy:k<2^38):AC 121 [PV.rr n a d] (an1 k (rv n a d)):=by
 refine aw Qf func121 akM fun C hP=>?_;refine Sz0 ?_;refine gP hP (VQ hd Oz) rfl rfl rfl ?_;rintro _ ⟨b,rfl,hb⟩;refine Sz0 ?_;refine Qa (fun hz=>?_) (fun hz=>?_)
 ·have h0:val d=0:=hb.1 Oz;refine aq hP Hj ?_;refine Sz0 ?_;refine iW ?_;refine Sz0 ?_;refine⟨⟨rfl,rfl⟩,.aK [PV.zi false [],PV.nat [1]],⟨⟨rfl,trivial,trivial⟩,Qe _,trivial⟩,false,[],[1],rfl,pg,by intro x hx;simp at hx;omega,by simp,by simpa using hk,by simp[val],?_⟩;unfold rv;rw[h0,Rat.mkRat_zero];rfl
 ·have h0:val d≠0:=fun h=>hz (by rw[hb.2 h];rfl);refine Sz0 ?_;refine eW ?_ ?_
  all_goals
   refine Sz0 ?_;refine iW ?_;refine Sz0 ?_;exact⟨⟨rfl,rfl⟩,.aK [PV.zi n a,PV.nat d],⟨Qe _,Qe _,trivial⟩,n,a,d,rfl,ha,hd,bK,sv,h0,rfl⟩
theorem ahU{z:Int}{m:Bool}{b:List Nat}(hb:Qi b)(bK:nl z.natAbs<2^40)(eh:b.length<2^40):AC 181 [PV.zz z,PV.zi m b] (· =PV.zz (z+zv m b)):=by
 have:=UR (n:=decide (z<0)) (a:=ak z.natAbs) (m:=m) (Ql _) hb bK eh
 rwa[og]at this
theorem P6{n m:Bool}{a b:List Nat}(ha:Qi a)(hb:Qi b)(bK:a.length<2^39)(eh:b.length<2^39):AC 150 [.sl 2 [PV.zi n a,PV.zi m b]] (· =PV.zz (zv n a+zv m b)):=by
 have qd:=cE ha;rw[<-lf n a]at qd;refine aw Qf func150 akR fun C hP=>?_;refine Sz0 ?_;refine Qm kv [(5,5),(8,15)] [5] (fun k J hp=>∃i,k=2-i/\i<=2/\J 8= .int .i64 (i:Nat)/\hp 2=some ⟨2,55,[.agg [.bool false,.ab]],false⟩/\hp 3=some ⟨2,55,[if i=0 then .agg [.bool false,.ab]else if i=1 then PV.zz (zv n a)else PV.zz (zv n a+zv m b)],false⟩) 2 ?_ ?_
 ·refine⟨0,rfl,by omega,?_⟩;refine Sz0 ?_;simp
 rintro _ J h ⟨i,rfl,hi,h8,ix,cW⟩;refine Sz1 h8 ?_;refine Qa (fun hg=>?_) (fun hg=>?_)
 ·have oN:i=0∨i=1:=by have:i<2:=Oz;omega
  rcases oN with rfl|rfl
  ·have Ee:J 8= .int .i64 0:=h8;refine eF Ee ix cW hP ((UR (n:=false) (a:=[]) (m:=n) (b:=a) pg ha (by simp) Oz).le (args':=[.agg [.bool false,.ab],PV.zi n a]) ⟨⟨rfl,trivial,trivial⟩,Qe _,trivial⟩) ?_;refine Sz3 Ee ix cW ?_;refine Qh 1 Oz ⟨1,rfl,by omega,?_⟩;refine Sz2 ix cW ?_;simp[zv,val]
  ·rw[if_neg Oz,if_pos rfl]at cW;have Ee:J 8= .int .i64 1:=h8;refine eF Ee ix cW hP (ahU (z:=zv n a) hb Oz Oz) ?_;refine Sz3 Ee ix cW ?_;refine Qh 0 Oz ⟨2,rfl,by omega,?_⟩;refine Sz2 ix cW ?_;simp
 ·obtain rfl:i=2:=by simp at hg;omega
  rw[if_neg Oz,if_neg Oz]at cW;refine Sz3 h8 ix cW ?_;refine bX ?_;refine Sz2 ix cW ?_;exact Qc rfl rfl
theorem G4{z:Int}{d:List Nat}(hd:Qi d)(hz:nl z.natAbs<2^38)(sv:d.length<2^38):AC 146 [PV.zz z,PV.nat d] (· =PV.rat (mkRat z (val d))):=by
 have:=Q2m (n:=decide (z<0)) (Ql z.natAbs) hd hz sv
 rwa[rv,og]at this
theorem Ss{x y:Int}(hx:nl x.natAbs<2^39)(hy:nl y.natAbs<2^39):AC 150 [.sl 2 [PV.zz x,PV.zz y]] (· =PV.zz (x+y)):=by
 have:=P6 (n:=decide (x<0)) (m:=decide (y<0)) (Ql x.natAbs) (Ql y.natAbs) hx hy
 rwa[og,og]at this
theorem ahV{x y:Int}(hx:nl x.natAbs<2^40)(hy:nl y.natAbs<2^40):AC 153 [PV.zz x,PV.zz y] (· = .int .i64 (fD x y)):=by
 have:=Q8j (n:=decide (x<0)) (m:=decide (y<0)) (Ql x.natAbs) (Ql y.natAbs) hx hy
 rwa[og,og]at this
structure Raw(k:Nat)(n:Bool)(a d:List Nat):Prop where
 la:Qi a
 ld:Qi d
 sa:a.length<=k
 sd:d.length<=k
 k1:1<=k
theorem kC{q:Rat}{k:Nat}(h:rs q<=k):Raw k (decide (q.num<0)) (ak q.num.natAbs) (ak q.den):=by
 have:=Sg q;unfold rs nl at *
 exact⟨Ql _,Ql _,by omega,by omega,by omega⟩
theorem Raw.rs{n:Bool}{a d:List Nat}{k:Nat}(h:Raw k n a d):FW.rs (rv n a d)<=k:=amD (k:=k) (n:=k) h.la h.ld h.sa h.sd h.k1
theorem Wt{n m:Bool}{a d b c:List Nat}{k:Nat}(hp:Raw k n a d)(hq:Raw k m b c)(hk:k<2^36):AC 120 [PV.rr n a d,PV.rr m b c] (· =PV.rat (rv n a d+rv m b c)):=by
 refine wm Qf func120 rfl akS (by simp[My]) fun C hP=>?_;simp only[My];refine eY ?_;refine Sz0 ?_;refine gP hP (xZ hp.la hp.ld hp.k1 hp.sa hp.sd (by omega)) rfl rfl rfl ?_;rintro _ ⟨n',a',d',rfl,g1,g2,g3,g4,g5,g6⟩;refine Sz0 ?_;refine gP hP (xZ hq.la hq.ld hq.k1 hq.sa hq.sd (by omega)) rfl rfl rfl ?_;rintro _ ⟨m',b',c',rfl,e1,e2,e3,e4,e5,e6⟩;refine Sz0 ?_;refine Qy hP (HH (by omega)) rfl rfl rfl ?_;have key:=Rat.mkRat_add_mkRat (zv n' a') (zv m' b') g5 e5;have hza:nl (zv n' a').natAbs<=k:=by rw[lf];exact KaQ (cE g1) g3
 have hzb:nl (zv m' b').natAbs<=k:=by rw[lf];exact KaQ (cE e1) e3
 have hvd:nl (val d')<=k:=KaQ (cE g2) g4;have BS:nl (val c')<=k:=KaQ (cE e2) e4;rw[<-g6,<-e6];unfold rv;rw[key];refine Sz0 ?_;refine ic (fun h1=>?_) (fun h1=>?_)
 ·refine Sz0 ?_;refine Qy hP (HH (by omega)) rfl rfl rfl ?_;refine Sz0 ?_;refine Qa (fun h2=>?_) (fun h2=>?_)
  ·subst h1 h2;refine Sz0 ?_;refine ik hP (P6 (n:=n') (m:=m') g1 e1 (by omega) (by omega)) pO rfl ?_;refine aY ?_;have hs:=Cl (zv n' a') (zv m' b');refine Qy hP (G4 g2 (by omega) (by omega)) rfl rfl rfl ?_;refine aY ?_;refine bX ?_;refine aY ?_;exact Qc (congrArg PV.rat (by simp[val])) rfl
  ·refine Sz0 ?_;refine Qy hP (Aa _) rfl rfl rfl ?_;refine Sz0 ?_;refine Qy hP (xY (n:=n') (m:=false) g1 e2 (by omega) (by omega)) rfl rfl rfl ?_;refine Sz0 ?_;refine Qy hP (Aa _) rfl rfl rfl ?_;refine Sz0 ?_;refine Qy hP (xY (n:=m') (m:=false) e1 g2 (by omega) (by omega)) rfl rfl rfl ?_;rw[ye,ye];have h3:=nc (zv n' a') (val c');have h4:=nc (zv m' b') (val d');have h5:=Cl (zv n' a'*(val c':Int)) (zv m' b'*(val d':Int));have h6:=mC (val d') (val c');rw[Kbu]at h3 h4;refine Sz0 ?_;refine ik hP (Ss (x:=zv n' a'*(val c':Int)) (y:=zv m' b'*(val d':Int)) (by omega) (by omega)) pO rfl ?_;refine aY ?_;refine Qy hP (HG g2 e2 (by omega) (by omega)) rfl rfl rfl ?_;refine aY ?_;refine Qy hP (G4 (z:=zv n' a'*(val c':Int)+zv m' b'*(val d':Int)) (Ql _) (by omega) (by show nl _<_;omega)) rfl rfl rfl ?_;refine aY ?_;refine bX ?_;refine aY ?_;exact Qc (by rw[Qw]) rfl
 · simp+decide (disch:=try exact D0) only[go_sem]
   refine Qy hP (Aa _) rfl rfl rfl ?_;refine Sz0 ?_;refine Qy hP (xY (n:=n') (m:=false) g1 e2 (by omega) (by omega)) rfl rfl rfl ?_;refine Sz0 ?_;refine Qy hP (Aa _) rfl rfl rfl ?_;refine Sz0 ?_;refine Qy hP (xY (n:=m') (m:=false) e1 g2 (by omega) (by omega)) rfl rfl rfl ?_;rw[ye,ye];have h3:=nc (zv n' a') (val c');have h4:=nc (zv m' b') (val d');have h5:=Cl (zv n' a'*(val c':Int)) (zv m' b'*(val d':Int));have h6:=mC (val d') (val c');rw[Kbu]at h3 h4;refine Sz0 ?_;refine ik hP (Ss (x:=zv n' a'*(val c':Int)) (y:=zv m' b'*(val d':Int)) (by omega) (by omega)) pO rfl ?_;refine aY ?_;refine Qy hP (HG g2 e2 (by omega) (by omega)) rfl rfl rfl ?_;refine aY ?_;refine Qy hP (G4 (z:=zv n' a'*(val c':Int)+zv m' b'*(val d':Int)) (Ql _) (by omega) (by show nl _<_;omega)) rfl rfl rfl ?_;refine aY ?_;refine bX ?_;refine aY ?_;exact Qc (by rw[Qw]) rfl
theorem afr{n m:Bool}{a d b c:List Nat}{k:Nat}(hp:Raw k n a d)(hq:Raw k m b c)(hk:k<2^36):AC 118 [PV.rr n a d,PV.rr m b c] (· =PV.rat (rv n a d*rv m b c)):=by
 refine wm Qf func118 rfl akU (by simp[Mx]) fun C hP=>?_;simp only[Mx];refine eY ?_;refine Sz0 ?_;refine gP hP (xZ hp.la hp.ld hp.k1 hp.sa hp.sd (by omega)) rfl rfl rfl ?_;rintro _ ⟨n',a',d',rfl,g1,g2,g3,g4,g5,g6⟩;refine Sz0 ?_;refine gP hP (xZ hq.la hq.ld hq.k1 hq.sa hq.sd (by omega)) rfl rfl rfl ?_;rintro _ ⟨m',b',c',rfl,e1,e2,e3,e4,e5,e6⟩;refine Sz0 ?_;have hza:nl (zv n' a').natAbs<=k:=by rw[lf];exact KaQ (cE g1) g3
 have hzb:nl (zv m' b').natAbs<=k:=by rw[lf];exact KaQ (cE e1) e3
 have hvd:nl (val d')<=k:=KaQ (cE g2) g4;have BS:nl (val c')<=k:=KaQ (cE e2) e4;have h3:=nc (zv n' a') (zv m' b');have h6:=mC (val d') (val c');refine Qy hP (xY (n:=n') (m:=m') g1 e1 (by omega) (by omega)) rfl rfl rfl ?_;refine Sz0 ?_;refine Qy hP (HG g2 e2 (by omega) (by omega)) rfl rfl rfl ?_;refine Sz0 ?_;refine Qy hP (G4 (z:=zv n' a'*zv m' b') (Ql _) (by omega) (by show nl _<_;omega)) rfl rfl rfl ?_;refine Sz0 ?_;refine bX ?_;refine Sz0 ?_;refine Qc ?_ rfl;rw[Qw,<-g6,<-e6];unfold rv;rw[Rat.mkRat_mul_mkRat]
theorem Lj{n:Bool}{a d:List Nat}{k:Nat}(hp:Raw k n a d)(hk:k<2^36):AC 85 [PV.rr n a d] (· = .int .i64 (eQ (rv n a d))):=by refine aw Qf func85 anZ fun C hP=>?_;refine Sz0 ?_;refine gP hP (xZ hp.la hp.ld hp.k1 hp.sa hp.sd Oz) rfl rfl rfl ?_;rintro _ ⟨n',a',d',rfl,g1,g2,g3,g4,g5,g6⟩;refine aq hP (KZ g1 Oz) ?_;refine Sz0 ?_;exact Qc (by rw[<-g6];unfold rv;rw[aeV g5]) rfl
theorem afs{n m:Bool}{a d b c:List Nat}{k:Nat}(hp:Raw k n a d)(hq:Raw k m b c)(hk:k<2^36):AC 123 [PV.rr n a d,PV.rr m b c] (· = .int .i64 (qH (rv n a d) (rv m b c))):=by
 refine aw Qf func123 akQ fun C hP=>?_;refine aq hP (Lj hp hk) ?_;refine aq hP (Lj hq hk) ?_;refine Sz0 ?_;refine Qa (fun h1=>?_) (fun h1=>?_)
 ·refine Sz0 ?_;refine Qa (fun h2=>?_) (fun h2=>?_)
  ·refine Sz0 ?_;exact Qc (by rw[PN h2]) rfl
  ·refine Sz0 ?_;exact Qc (by rw[ahc Oz]) rfl
 refine Sz0 ?_;refine gP hP (xZ hp.la hp.ld hp.k1 hp.sa hp.sd Oz) rfl rfl rfl ?_;rintro _ ⟨n',a',d',rfl,g1,g2,g3,g4,g5,g6⟩;refine Sz0 ?_;refine gP hP (xZ hq.la hq.ld hq.k1 hq.sa hq.sd Oz) rfl rfl rfl ?_;rintro _ ⟨m',b',c',rfl,e1,e2,e3,e4,e5,e6⟩;have hza:nl (zv n' a').natAbs<=k:=by rw[lf];exact KaQ (cE g1) g3
 have hzb:nl (zv m' b').natAbs<=k:=by rw[lf];exact KaQ (cE e1) e3
 have hvd:nl (val d')<=k:=KaQ (cE g2) g4;have BS:nl (val c')<=k:=KaQ (cE e2) e4;have h3:=nc (zv n' a') (val c');have h4:=nc (zv m' b') (val d');rw[Kbu]at h3 h4;refine aq hP (Aa _) ?_;refine aq hP (xY (n:=n') (m:=false) g1 e2 Oz Oz) ?_;refine aq hP (Aa _) ?_;refine aq hP (xY (n:=m') (m:=false) e1 g2 Oz Oz) ?_;rw[ye,ye];refine aq hP (ahV (x:=zv n' a'*(val c':Int)) (y:=zv m' b'*(val d':Int)) Oz Oz) ?_;refine Sz0 ?_;exact Qc (by rw[<-g6,<-e6];unfold rv;rw[Rm g5 e5]) rfl
theorem Q4h{n m:Bool}{a d b c:List Nat}{k:Nat}(hp:Raw k n a d)(hq:Raw k m b c)(hk:k<2^36):AC 86 [PV.rr n a d,PV.rr m b c] (· = .bool (decide (rv n a d=rv m b c))):=by refine aw Qf func86 an0 fun C hP=>?_;refine aq hP (afs hp hq hk) ?_;refine Sz0 ?_;exact Qc (congrArg PV.bool (decide_eq_decide.2 aeW)) rfl
theorem aft{x:Int}(h1: -9223372036854775808<=x)(h2:x<=9223372036854775807):AC 144 [.int .i64 x] (· =PV.zz x):=by
 refine wm Qf func144 rfl aj3 (by simp[Mz]) fun C hP=>?_;simp only[Mz];refine eY ?_;refine Sz0 ?_;refine Qa (fun hc=>?_) (fun hc=>?_)
 ·obtain⟨y,hy⟩:∃y:Nat,x= -((y:Int)+1):=⟨(-(x+1)).toNat,by omega⟩
  have e1:IntKind.i64.wrap (x+1)= -(y:Int):=by rw[yc (by omega) (by omega)];omega
  have e2:IntKind.i64.wrap (0- -(y:Int))=(y:Int):=by rw[yc (by omega) (by omega)];omega
  have e3:IntKind.u64.wrap (y:Int)=(y:Int):=uC (by omega) (by omega);have e4:IntKind.u64.wrap ((y+1:Nat):Int)=((y+1:Nat):Int):=uC (by omega) (by omega);refine Sz4 e1 e2 e3 e4 ?_;refine Qy hP (H3 (by omega)) rfl rfl rfl ?_;refine Sz0 ?_;refine Qy hP (zZ true (y+1)) rfl rfl rfl ?_;refine Sz0 ?_;refine bX ?_;refine Sz0 ?_;exact Qc (congrArg PV.zz (by simp;omega)) rfl
 ·obtain⟨y,rfl⟩:∃y:Nat,x=y:=⟨x.toNat,by omega⟩
  refine Sz0 ?_;refine Qy hP (H3 (by omega)) rfl rfl rfl ?_;refine Sz0 ?_;refine Qy hP (zZ false y) rfl rfl rfl ?_;refine Sz0 ?_;refine bX ?_;refine Sz0 ?_;exact Qc (congrArg PV.zz (by simp)) rfl
theorem Lw{x:Int}(h1: -9223372036854775808<=x)(h2:x<=9223372036854775807):AC 117 [.int .i64 x] (· =PV.rat (x:Rat)):=by refine aw Qf func117 akP fun C hP=>?_;refine aq hP (aft h1 h2) ?_;refine aq hP Hj ?_;refine Sz0 ?_;refine bX ?_;refine Sz0 ?_;exact Qc (by rw[PV.rat,Rat.num_intCast,Rat.den_intCast,PV.num,PV.num,uH];rfl) rfl
theorem Q2o{n:Bool}{a:List Nat}(ha:Qi a)(bK:a.length<2^42):AC 185 [PV.zi n a] (· = .bool (qB n a)):=by
 refine aw Qf func185 aj1 fun C hP=>?_;refine Sz0 ?_;refine ic (fun h0=>?_) (fun h0=>?_)
 ·have:a=[]:=Kas.1 Oz;subst this;refine Sz0 ?_;cases n
  ·refine Sz0 ?_;refine Qc (congrArg PV.bool ?_) rfl;simp[qB]
  ·refine Sz0 ?_;refine Qc (congrArg PV.bool ?_) rfl;simp[qB]
 ·obtain⟨k,hk⟩:∃k,a.length=k+1:=⟨a.length-1,by omega⟩
  have bz:a≠[]:=fun h=>by rw[h]at hk;simp at hk
  have hl:=Ug hk;have e:((k+1:Nat):Int)-1=k:=by omega
  generalize hx:a[k]'Oz=x at *
  refine Sz3 hk e hx ?_;refine ic (fun h=>?_) (fun h=>absurd Oz h);refine Sz3 hk e hx ?_;refine Qc (congrArg PV.bool ?_) rfl;unfold qB;rw[if_neg bz,hl];exact decide_eq_decide.2 ⟨fun h h'=>h (by injection h' with h';rw[h'];rfl),fun h h'=>h (by rw[show x=0 by omega])⟩
theorem Q4i{n:Bool}{a d:List Nat}{k:Nat}(hp:Raw k n a d)(hk:k<2^36):AC 155 [PV.rr n a d] (· = .bool (iX n a d)):=by
 obtain⟨ha,hd,sa,sd,k1⟩:=hp;refine wm Qf func155 rfl akO (by simp[MC]) fun C hP=>?_;simp only[MC];refine eY ?_;refine Sz0 ?_;refine Qy hP (Q2o ha (by omega)) rfl rfl rfl ?_;unfold iX;refine Sz0 ?_;cases hio:qB n a
 ·refine Sz1 @Bool.not_false ?_;exact Qc (by simp) rfl
 rw[Bool.true_and];refine Sz1 @Bool.not_true ?_;refine Qp (fun h0=>?_) (fun h0=>?_)
 ·have:d=[]:=Kas.1 (by omega);subst this;refine Sz0 ?_;exact Qc (by simp) rfl
 obtain⟨k',cG⟩:∃k,d.length=k+1:=⟨d.length-1,by omega⟩
 have bz:d≠[]:=fun h=>by rw[h]at cG;simp at cG
 have hl:=Ug cG;have e:((k'+1:Nat):Int)-1=k':=by omega
 generalize hx:d[k']'(by omega)=x at *
 refine Sz3 cG e hx ?_;refine Qa (fun h1=>?_) (fun h1=>?_)
 ·refine Sz0 ?_;refine Qc (congrArg PV.bool ?_) rfl;rw[hl,show x=0 by omega];simp
 have bR:x≠0:=by omega
 refine Sz0 ?_;refine Qy hP (HH (by omega)) rfl rfl rfl ?_;refine Sz0 ?_;refine Qp (fun h2=>?_) (fun h2=>?_)
 ·subst h2;refine Sz0 ?_;refine Qc (congrArg PV.bool ?_) rfl;simp[val]
 ·refine Sz0 ?_;refine Qy hP (P5 ha hd (by omega) (by omega)) rfl rfl rfl ?_;have hD:0<val d:=by apply Kbb;intro h0;have jL:=C8 hd (by rw[hl];simpa using bR);rw[h0,gp]at jL;exact bz jL.symm
  have tQ:(ak (Nat.gcd (val a) (val d))).length<2^43:=by have h3:=gE (KcY (val a) hD);have h4:=cE hd;unfold nl at h3 h4;omega
  refine Sz0 ?_;refine Qy hP (Mo tQ) rfl rfl rfl ?_;refine Sz0 ?_;refine Qc (congrArg PV.bool ?_) rfl;rw[hl];simp[bz,bR]
theorem Q4j{a:List Int}(hl:a.length<2^42):AC 143 [PV.mono a] (· =PV.mono (tr a)):=by
 refine aw Qf func143 ajo fun C hP=>?_;refine Sz0 ?_;refine Qm kv [(3,3),(6,17)] [] (fun n J hp=>n<=a.length/\pH a n=tr a/\J 3= .int .i64 n/\hp=aA) a.length ?_ ?_
 ·refine⟨Kae _,rfl,?_⟩;exact Tz0
 rintro n J _ ⟨hn,hc,h3,rfl⟩;refine Sz1 h3 ?_;refine ic (fun hg=>?_) (fun hg=>?_)
 ·obtain _|n:=n
  ·omega
  have e:((n+1:Nat):Int)-1=n:=by omega
  simp only[pH]at hc;simp+decide (disch:=try exact D2 h3 e) only[go_sem,h3,e];refine Qa (fun hz=>?_) (fun hz=>?_)
  ·rw[if_pos (by simp[hz,show n<a.length by omega])]at hc;refine Sz2 h3 e ?_;refine Qh n Oz ⟨by omega,hc,?_⟩;exact Tz0
  ·rw[if_neg (by simpa[show n<a.length by omega]using hz)]at hc;refine Sz2 h3 e ?_;refine Qa (fun h=>by omega) (fun h=>?_);refine Sz2 h3 e ?_;exact Qc (congrArg PV.mono hc) rfl
 ·obtain rfl:n=0:=by omega
  refine Sz1 h3 ?_;exact wx (aeX (by rw[<-hc];rfl)) rfl
theorem Q4k{a:List Int}(hl:a.length<2^42):AC 116 [PV.mono a] (· = .int .i64 ((tr a).length-1)):=by have:=GR a;refine aw Qf func116 ajp fun C hP=>?_;refine aq hP (Q4j hl) ?_;refine Sz0 ?_;exact Qc rfl rfl
theorem Gl{a b:Rat}{k:Nat}(ha:rs a<=k)(hb:rs b<=k)(hk:k<2^36):AC 120 [PV.rat a,PV.rat b] (· =PV.rat (a+b)):=by
 have:=Wt (kC ha) (kC hb) hk
 rwa[kG,kG]at this
theorem qD{a b:Rat}{k:Nat}(ha:rs a<=k)(hb:rs b<=k)(hk:k<2^36):AC 118 [PV.rat a,PV.rat b] (· =PV.rat (a*b)):=by
 have:=afr (kC ha) (kC hb) hk
 rwa[kG,kG]at this
theorem akX{a b:Rat}{k:Nat}(ha:rs a<=k)(hb:rs b<=k)(hk:k<2^36):AC 86 [PV.rat a,PV.rat b] (· = .bool (decide (a=b))):=by
 have:=Q4h (kC ha) (kC hb) hk
 rwa[kG,kG]at this
theorem St{a:Rat}(ha:rs a<2^36):AC 85 [PV.rat a] (· = .int .i64 (eQ a)):=by
 have:=Lj (kC (Kae (rs a))) ha
 rwa[kG]at this
theorem Uo{p:List Tm}{t:Tm}{i:Nat}(h:i<p.length):cH (p.take (i+1)) t=cH (p.take i) t++(if p[i].1*t.1=0 then []else [(p[i].1*t.1,ek p[i].2 t.2)]):=by rw[Kar h,cH,List.filterMap_append,cH];congr 1;simp only[Kck,KcB];split<;>split<;>simp_all
theorem ahW(v:Nat)(n:Int)(h:n=((n.toNat:Nat):Int)):(List.replicate (v+1) (0:Int)).set v n=oy v n.toNat:=by
 unfold oy;rw[<-h];induction v with
 |zero=>rfl
 |succ v ih=>rw[KbN,List.set_cons_succ,ih];rfl
def aqX:az:=⟨24,[.t 2],Zr (YK 2)<|Zr (YB 5 0<|Zm 3 6 .nil)<| .seq (.block 0<| .loop<| .seq (Zr (YJ 7 3 1<|Zg 9 true (.ld 14 1 false (.t 13))<|Zg 9 true (.bin 15 .eql false (.t 14) (.c (.int .u16 0)))<|Yp 16 9 15 .nil)<| .cond (.t 16) .skip (.exit 0))<| .block 1<| .rg (Zm 17 3<|Zk 18 .sub 17 1<|Ye 3 18))<|Zr (YK 4)<|Zr (eG 19 4 0 3<|Zo (.sl 22 1 (.t 20) none (some (.t 21)) none)<|Zo (.app 23 1 2 177 (.t 19) (.t 22))<|Ye 2 23) .ret⟩
theorem akY:Qd Tryz.prog f130=some aqX:=by kernel_rfl
def c98:az:=⟨15,[.t 2],Zr (YK 2)<|Zr (YK 3)<| .seq (.block 0<| .loop<| .seq (Zr (Zm 4 0<|Zo (.bin 5 .gtr false (.t 4) (.c (.int .u64 0))) .nil)<| .cond (.t 5) .skip (.exit 0))<| .block 1<|Zr (Ym 6 3 0<|Zo (.bin 8 .rem false (.t 7) (.c (.int .u64 65536)))<|Zo (.conv 9 .u16 (.t 8))<|Yy 10 1 177 9 2 6<|Zm 3 11 .nil)<| .rg (Zm 12 0<|Zo (.bin 13 .quo false (.t 12) (.c (.int .u64 65536)))<|Ye 0 13))<|Zr (Zm 14 3<|Zm 2 14 .nil) .ret⟩
theorem an2:Qd Tryz.prog f98=some c98:=by kernel_rfl
def arG:az:=⟨21,[.t 2],Zr (Zo (.mv 2 (.c (.int .u64 0))) .nil)<|Zr (Zo (.mv 3 (.c (.int .u64 0))) .nil)<| .seq (Zr (YB 5 0<|Zk 7 .sub 6 1<|Zm 4 7 .nil)<| .block 0<| .loop<| .seq (Zr (Zm 8 4<|Zk 9 .geq 8 0 .nil)<| .cond (.t 9) .skip (.exit 0))<| .seq (.block 1<| .rg (Zm 12 3<|Zo (.bin 13 .mul false (.t 12) (.c (.int .u64 65536)))<|j1 14 0 4<|mG 18 17<|dM 19 13 18<|Ye 3 19))<| .rg (Zm 10 4<|Zk 11 .sub 10 1<|Zm 4 11 .nil))<|Zr (gU 20 3 2) .ret⟩
theorem akZ:Qd Tryz.prog f170=some arG:=by kernel_rfl
def arJ:az:=⟨14,[.t 4],Zr (Yj 4 0)<| .seq (Zr (YN 5 1 0)<| .cond (.t 8) (Zr (j1 9 0 1<|Zo (.conv 13 .i64 (.t 12))<|Zm 4 13 .nil) .ret) .skip)<|Zr (Yj 4 0) .ret⟩
theorem ak0:Qd Tryz.prog f173=some arJ:=by kernel_rfl
def aq0:az:=⟨30,[.t 4],Zr (Yj 4 0)<| .seq (Zr (YB 6 0<|YB 8 1<|Zo (.mx 10 (.t 7) (.t 9))<|Zk 11 .sub 10 1<|Zm 5 11 .nil)<| .block 0<| .loop<| .seq (Zr (Zm 12 5<|Zk 13 .geq 12 0 .nil)<| .cond (.t 13) .skip (.exit 0))<| .seq (.block 1<| .seq (Zr (fU 16 0 5 173<|fU 19 1 5 173<|Yw 22 18 21)<| .cond (.t 22) (Zr (Zc 4 (-1) .nil) .ret) .skip)<|Zr (fU 23 0 5 173<|fU 26 1 5 173<|Zb 29 .gtr 25 28 .nil)<| .cond (.t 29) (Zr (Yj 4 1) .ret) .skip)<| .rg (Zm 14 5<|Zk 15 .sub 14 1<|Zm 5 15 .nil))<|Zr (Yj 4 0) .ret⟩
theorem ak1:Qd Tryz.prog f133=some aq0:=by kernel_rfl
def ara:az:=⟨44,[.t 4],Zr (YK 4)<|Zr (YK 5)<|Zr (Yj 6 0)<| .seq (Zr (Yj 7 0)<| .block 0<| .loop<| .seq (Zr (DN 9 7 7<|Yo 18 13 17<|YP 19 18 6<|Zg 19 false (.bin 21 .gtr false (.t 20) (.c (Zz 0)))<|Yo 22 19 21 .nil)<| .cond (.t 22) .skip (.exit 0))<| .seq (.block 1<|Zr (fU 25 0 7 173<|fU 28 1 7 173<|dM 31 27 30<|Zm 32 6<|dM 33 31 32<|Ye 8 33)<|Zr (Ym 34 5 8<|Zk 36 .rem 35 65536<|Zo (.conv 37 .u16 (.t 36))<|Yy 38 1 177 37 2 34<|Ye 5 39)<| .rg (Zm 40 8<|Zk 41 .quo 40 65536<|Ye 6 41))<| .rg (YA 23 7))<|Zr (YQ 42 5 130<|Ye 4 43) .ret⟩
theorem ak2:Qd Tryz.prog f142=some ara:=by kernel_rfl
def arI:az:=⟨40,[.t 4,.t 5],Zr (fJ 4 0)<| .seq (Zr (fU 10 0 1 133<|Zk 13 .lss 12 0 .nil)<| .cond (.t 13) (Zr (fJ 4 2) .ret) .skip)<|Zr (YK 6)<|Zr (Yj 7 0)<| .seq (Zr (Yj 8 0)<| .block 0<| .loop<| .seq (Zr (YN 14 8 0)<| .cond (.t 17) .skip (.exit 0))<| .seq (.block 1<|Zr (fU 20 0 8 173<|fU 23 1 8 173<|Zb 26 .sub 22 25<|Zm 27 7<|Zb 28 .sub 26 27<|Ye 9 28)<|Zr (Yj 7 0)<| .seq (Zr (Zm 29 9<|Zk 30 .lss 29 0 .nil)<| .cond (.t 30) (Zr (Zm 31 9<|Zk 32 .add 31 65536<|Ye 9 32)<| .rg (Yj 7 1)) .skip)<| .rg (Ym 33 6 9<|Zo (.conv 35 .u16 (.t 34))<|Yy 36 1 177 35 2 33<|Ye 6 37))<| .rg (kO 18 8 8))<|Zr (YQ 38 6 130<|jd 4 39) .ret⟩
theorem ak3:Qd Tryz.prog f172=some arI:=by kernel_rfl
def aq2:az:=⟨65,[.t 4],Zr (YK 4)<|Zr (YB 10 0<|YB 12 1<|dM 14 11 13<|Zk 15 .add 14 1<|rW 16 15 15<|Zm 5 16 .nil)<| .seq (Zr (Yj 6 0)<| .block 0<| .loop<| .seq (Zr (YN 17 6 0)<| .cond (.t 20) .skip (.exit 0))<| .seq (.block 1<|Zr (Zo (.mv 7 (.c (.int .u64 0))) .nil)<|Zr (Yj 8 0)<| .block 2<| .loop<| .seq (Zr (Ym 23 8 1<|Zn 25 24<|Zb 26 .lss 23 25<|YP 27 26 7<|Zg 27 false (.bin 29 .gtr false (.t 28) (.c (.int .u64 0)))<|Yo 30 27 29 .nil)<| .cond (.t 30) .skip (.exit 2))<| .seq (.block 3<|Zr (eG 33 5 6 8<|dM 36 34 35<|Yz 37 33 36<|mG 39 38<|j1 40 0 6<|mG 44 43<|Ym 45 1 8<|Zm 51 7<|Yf 47 173 45 46<|mG 48 47<|Zb 49 .mul 44 48<|dM 50 39 49<|dM 52 50 51<|Ye 9 52)<|Zr (eG 53 5 6 8<|dM 56 54 55<|Zm 57 9<|Zo (.bin 58 .rem false (.t 57) (.c (.int .u64 65536)))<|pQ 59 58 53 56)<| .rg (Zm 61 9<|Zo (.bin 62 .quo false (.t 61) (.c (.int .u64 65536)))<|Ye 7 62))<| .rg (YA 31 8))<| .rg (YA 21 6))<|Zr (YQ 63 5 130<|Ye 4 64) .ret⟩
theorem ak4:Qd Tryz.prog f135=some aq2:=by kernel_rfl
def arH:az:=⟨27,[.t 4],Zr (Zo (.mv 4 (.c (.int .u64 0))) .nil)<|Zr (Zo (.mv 5 (.c (.int .u64 0)))<|Zo (.mv 6 (.c (.int .u64 65535))) .nil)<| .seq (.block 0<| .loop<| .seq (Zr (Ym 8 5 6<|Yw 10 8 9)<| .cond (.t 10) .skip (.exit 0))<| .block 1<|Zr (Ym 11 5 6<|dM 13 11 12<|Zo (.bin 14 .add false (.t 13) (.c (.int .u64 1)))<|Zo (.bin 15 .quo false (.t 14) (.c (.int .u64 2)))<|Zm 7 15 .nil)<|Zr (Ym 16 1 7<|Yv 18 98 17<|Yr 19 135 16 18<|Zm 20 0<|Yr 21 133 19 20<|Zk 22 .leq 21 0 .nil)<| .cond (.t 22) (.rg (gU 23 7 5)) (.rg (Zm 24 7<|Zo (.bin 25 .sub false (.t 24) (.c (.int .u64 1)))<|Ye 6 25)))<|Zr (gU 26 5 4) .ret⟩
theorem ak5:Qd Tryz.prog f171=some arH:=by kernel_rfl
def aqY:az:=⟨73,[.t 4,.t 5,.t 6],Zr (Yk 4<|fJ 5 0)<|Zr (YQ 11 0 130<|YQ 13 1 130<|Zm 0 12<|Ye 1 14)<| .seq (Zr (YB 15 1<|kN 17 16 0)<| .cond (.t 17) (Zr (Yk 4<|fJ 5 3) .ret) .skip)<| .seq (Zr (YB 18 0<|Zk 20 .leq 19 4<|j' 21 20 1<|Zg 21 true (.len 23 (.t 22))<|Zg 21 true (.bin 24 .leq false (.t 23) (.c (Zz 4)))<|Yp 25 21 24 .nil)<| .cond (.t 25) (Zr (YQ 26 0 170<|YQ 28 1 170<|Zb 30 .quo 27 29<|Yv 31 98 30<|YQ 32 0 170<|YQ 34 1 170<|Zb 36 .rem 33 35<|Yv 37 98 36<|Ym 4 31 37<|Yj 6 0) .ret) .skip)<|Zr (Yk 7<|YK 8)<| .seq (Zr (YB 38 0<|Zk 40 .sub 39 1<|Ye 9 40)<| .block 0<| .loop<| .seq (Zr (Zm 41 9<|Zk 42 .geq 41 0 .nil)<| .cond (.t 42) .skip (.exit 0))<| .seq (.block 1<|Zr (j1 45 0 9<|Zo (.bs 49 1 177 [.t 48])<|Zm 50 8<|Zo (.app 51 1 2 177 (.t 49) (.t 50))<|Yv 52 130 51<|Ye 8 52)<|Zr (fU 53 8 1 171<|Ye 10 55)<|Zr (Zm 56 10<|Zo (.conv 57 .u16 (.t 56))<|Zo (.bs 58 1 177 [.t 57])<|Zm 59 7<|Zo (.app 60 1 2 177 (.t 58) (.t 59))<|Ye 7 60)<| .rg (Ym 62 8 1<|YQ 64 10 98<|Yr 66 135 63 65<|YZ 67 172 62 66 61<|Ye 8 68))<| .rg (Zm 43 9<|Zk 44 .sub 43 1<|Ye 9 44))<|Zr (YQ 70 7 130<|Zm 72 8<|Ym 4 71 72<|Yj 6 0) .ret⟩
theorem ak6:Qd Tryz.prog f131=some aqY:=by kernel_rfl
def c97:az:=⟨25,[.t 4],Zr (YK 4)<|Zr (YQ 8 0 130<|YQ 10 1 130<|Zm 0 9<|Zm 1 11 .nil)<| .seq (.block 0<| .loop<| .seq (Zr (YB 12 1<|Zk 14 .gtr 13 0 .nil)<| .cond (.t 14) .skip (.exit 0))<| .block 1<|Zr (Ym 16 0 1<|YZ 18 131 16 17 15<|Zo (.ext 21 (.t 15) 2)<|Ym 5 19 20<|Ye 7 21)<| .rg (Ym 22 1 6<|et 0 22 23))<|Zr (gU 24 0 4) .ret⟩
theorem an3:Qd Tryz.prog f97=some c97:=by kernel_rfl
def c95:az:=⟨15,[.t 2],Zr (bP 2)<|Zr (YB 3 0<|Zk 5 .eql 4 0<|YP 6 5 0<|Zg 6 false (.mv 8 (.t 0))<|Zg 6 false (.len 9 (.t 8))<|Zg 6 false (.bin 10 .sub false (.t 9) (.c (Zz 1)))<|Zg 6 false (.idx 11 1 (.t 7) (.t 10))<|Zg 6 false (.ld 12 1 false (.t 11))<|Zg 6 false (.bin 13 .neq false (.t 12) (.c (.int .u16 0)))<|Yo 14 6 13<|Zm 2 14 .nil) .ret⟩
theorem an4:Qd Tryz.prog f95=some c95:=by kernel_rfl
def c96:az:=⟨26,[.t 4],Zr (bP 4)<| .seq (Zr (YB 6 0<|YB 8 1<|Zb 10 .neq 7 9 .nil)<| .cond (.t 10) (Zr (bP 4) .ret) .skip)<| .seq (Zr (Yj 5 0)<| .block 0<| .loop<| .seq (Zr (YN 11 5 0)<| .cond (.t 14) .skip (.exit 0))<| .seq (.block 1<|Zr (j1 17 0 5<|j1 21 1 5<|Zb 25 .neq 20 24 .nil)<| .cond (.t 25) (Zr (bP 4) .ret) .skip)<| .rg (kO 15 5 5))<|Zr (YX 4) .ret⟩
theorem an5:Qd Tryz.prog f96=some c96:=by kernel_rfl
def c94:az:=⟨17,[.t 2],Zr (dP 1 55 0<|bP 2)<|Zr (Yb 3 1 1<|Yv 5 95 4<|Zm 6 5<|YG 6 0 1<|Zg 6 true (.mv 9 (.t 8))<|YG 9 1 1<|Zg 9 true (.len 12 (.t 11))<|Zg 9 true (.bin 13 .eql false (.t 12) (.c (Zz 0)))<|Zg 6 true (.pick 14 (.t 9) (.t 13) (.c (.bool false)))<|Zg 6 true (.un 15 .not (.t 14))<|Yp 16 6 15<|Ye 2 16) .ret⟩
theorem an6:Qd Tryz.prog f94=some c94:=by kernel_rfl
def aq1:az:=⟨15,[.cell 4 2 true],Zr (YS 4 .nil)<|Zr (YQ 5 1 130<|Zm 1 6 .nil)<|Zr (DT 7<|Zs 2 4 14 .nil) .ret⟩
theorem ak7:Qd Tryz.prog f134=some aq1:=by kernel_rfl
def aqZ:az:=⟨8,[.cell 2 2 true],Zr (dP 1 55 0<|tH 2)<|Zr (cV 3 0 1 1 1<|ja 7 134 4 6 2 2) .ret⟩
theorem aky:Qd Tryz.prog f132=some aqZ:=by kernel_rfl
def Mw:az:=⟨17,[.cell 2 2 true],Zr (tH 2)<| .seq (Zr (Zm 3 0<|Zk 4 .lss 3 0 .nil)<| .cond (.t 4) (Zr (Zm 5 0<|Zk 6 .add 5 1<|Zo (.un 7 .neg (.t 6))<|mG 8 7<|Yv 9 98 8<|Zq 10 false 98 [.c (.int .u64 1)]<|Yr 11 142 9 10<|Zq 12 false 134 [.c (.bool true),.t 11]<|Zs 2 2 12 .nil) .ret) .skip)<|Zr (Zm 13 0<|mG 14 13<|Yv 15 98 14<|Zq 16 false 134 [.c (.bool false),.t 15]<|Zs 2 2 16 .nil) .ret⟩
theorem akz:Qd Tryz.prog f113=some Mw:=by kernel_rfl
def aqU:az:=⟨11,[.t 2],Zr (dP 1 55 0<|Yj 2 0)<|Zr (Zh 3 2 1<|Yv 4 132 3<|Zs 2 1 4 .nil)<| .seq (Zr (YI 5 1 1<|kN 8 7 0)<| .cond (.t 8) (Zr (Yj 2 0) .ret) .skip)<| .seq (Zr (Yb 9 0 1 .nil)<| .cond (.t 10) (Zr (Zc 2 (-1) .nil) .ret) .skip)<|Zr (Yj 2 1) .ret⟩
theorem akA:Qd Tryz.prog f128=some aqU:=by kernel_rfl
def aqx:az:=⟨38,[.t 4],Zr (dX 2 55 0<|YM 3 2 55 1<|Yj 4 0)<|Zr (Zh 5 2 2<|Zh 7 2 3<|dJ 6 132 5<|dJ 8 132 7<|Zs 2 2 6<|Zs 2 3 8 .nil)<| .seq (.block 0<|Zr (Yb 10 0 2<|Zm 12 11<|YG 12 0 3<|Zg 12 true (.un 15 .not (.t 14))<|Yp 16 12 15<|Zm 9 16 .nil)<| .cond (.t 9) (Zr (Zc 4 (-1) .nil) .ret) (Zr (Yb 18 0 3<|Zm 20 19<|YG 20 0 2<|Zg 20 true (.un 23 .not (.t 22))<|Yp 24 20 23<|Zm 17 24 .nil)<| .cond (.t 17) (Zr (Yj 4 1) .ret) (Zr (Yb 26 0 2<|Zm 25 27 .nil)<| .cond (.t 25) (Zr (cV 28 1 3 1 2<|Yr 32 133 29 31<|Ye 4 32) .ret) .skip)))<|Zr (cV 33 1 2 1 3<|Yr 37 133 34 36<|Ye 4 37) .ret⟩
theorem akB:Qd Tryz.prog f101=some aqx:=by kernel_rfl
def asc:az:=⟨9,[.cell 2 2 true],Zr (dP 1 55 0<|tH 2)<|Zr (Yb 3 0 1<|Zu 5 4<|Yb 6 1 1<|ja 8 134 5 7 2 2) .ret⟩
theorem akC:Qd Tryz.prog f202=some asc:=by kernel_rfl
def aq9:az:=⟨48,[.cell 4 2 true],Zr (dX 2 55 0<|YM 3 2 55 1<|YS 4 .nil)<| .seq (Zr (cV 9 0 2 0 3<|Zo (.bin 13 .eql true (.t 10) (.t 12)) .nil)<| .cond (.t 13) (Zr (cV 14 0 2 1 2<|Yb 18 1 3<|jH 20 142 17 19 134 15 2 4) .ret) .skip)<| .seq (Zr (cV 23 1 2 1 3<|YZ 27 172 24 26 22<|et 5 28 29)<|Zr (Zm 30 6<|kN 31 30 0)<| .cond (.t 31) (Zr (eu 32 0 2 5<|ja 35 134 33 34 2 4) .ret) .skip)<|Zr (cV 37 1 3 1 2<|YZ 41 172 38 40 36<|et 7 42 43)<|Zr (eu 44 0 3 7<|ja 47 134 45 46 2 4) .ret⟩
theorem akD:Qd Tryz.prog f141=some aq9:=by kernel_rfl
def aqy:az:=⟨16,[.cell 4 2 true],Zr (dX 2 55 0<|YM 3 2 55 1<|YS 4 .nil)<|Zr (cV 5 0 2 0 3<|Zo (.bin 9 .neq true (.t 6) (.t 8))<|cV 10 1 2 1 3<|jH 14 135 11 13 134 9 2 4) .ret⟩
theorem akE:Qd Tryz.prog f102=some aqy:=by kernel_rfl
def MD:az:=⟨27,[.t 2],Zr (j0 1 57<|bP 2)<|Zr (YC 3 0 1 2<|Yv 5 94 4<|Zm 6 5<|YG 6 2 1<|Zg 6 true (.call (some 9) false (.c (.fn 95 [] [])) [.t 8])<|Yp 10 6 9<|Bd 11 10<|Zg 11 true (.bG 15 2 (.t 1))<|Zg 11 true (.ld 16 1 false (.t 15))<|Zg 11 true (.call (some 17) false (.c (.fn 97 [] [])) [.t 14,.t 16])<|Zg 11 true (.call (some 18) false (.c (.fn 98 [] [])) [.c (.int .u64 1)])<|Zg 11 true (.call (some 19) false (.c (.fn 96 [] [])) [.t 17,.t 18])<|Yp 20 11 19<|Zm 21 20<|YG 21 2 1<|Zg 21 true (.len 24 (.t 23))<|Zg 21 true (.bin 25 .gtr false (.t 24) (.c (Zz 0)))<|Yp 26 21 25<|Ye 2 26) .ret⟩
theorem an7:Qd Tryz.prog f54=some MD:=by kernel_rfl
def aqI:az:=⟨44,[.cell 4 3 true],Zr (dX 2 55 0<|Yd 4 .nil)<| .seq (Zr (YQ 12 1 130<|Zn 14 13<|kN 15 14 0)<| .cond (.t 15) (Zr (Zq 16 false 98 [.c (.int .u64 1)]<|Zo (.dY 17 [.bool false,.ab,.ab] [(2,1,.t 16)])<|Zs 3 4 17 .nil) .ret) .skip)<|Zr (eu 18 1 2 1<|Yr 21 97 19 20<|Ye 5 21)<|Zr (eu 23 1 2 5<|YZ 26 131 24 25 22<|Zo (.ext 29 (.t 22) 2)<|Ym 6 27 28<|Ye 8 29)<|Zr (Ym 31 1 5<|YZ 33 131 31 32 30<|Zo (.ext 36 (.t 30) 2)<|Ym 9 34 35<|Ye 11 36)<|Zr (eu 37 0 2 6<|Zo (.dY 40 [.bool false,.ab] [(0,1,.t 38),(1,1,.t 39)])<|Yv 41 132 40<|Zm 42 9<|yG 43 41 42<|Zs 3 4 43 .nil) .ret⟩
theorem akF:Qd Tryz.prog f112=some aqI:=by kernel_rfl
def aqw:az:=⟨8,[.cell 2 3 true],Zr (j0 1 57<|tG 2)<|Zr (YC 3 0 1 2<|Yb 5 2 1<|ja 7 112 4 6 3 2) .ret⟩
theorem akG:Qd Tryz.prog f100=some aqw:=by kernel_rfl
def c79:az:=⟨7,[.cell 2 3 true],Zr (tG 2)<|Zr (YQ 3 0 113<|Zq 5 false 98 [.c (.int .u64 1)]<|ja 6 112 4 5 3 2) .ret⟩
theorem an8:Qd Tryz.prog f79=some c79:=by kernel_rfl
def aqz:az:=⟨5,[.cell 2 2 true],Zr (tH 2)<|Zr (Zm 3 0<|Zo (.dY 4 [.bool false,.ab] [(1,1,.t 3)])<|Zs 2 2 4 .nil) .ret⟩
theorem akH:Qd Tryz.prog f103=some aqz:=by kernel_rfl
def c90:az:=⟨7,[.t 2],Zr (j0 1 57<|Yj 2 0)<|Zr (Zh 3 3 1<|Yv 4 100 3<|Zo (.Bq 5 0 2 true (.t 4))<|Yv 6 128 5<|Zm 2 6 .nil) .ret⟩
theorem an9:Qd Tryz.prog f90=some c90:=by kernel_rfl
def c61:az:=⟨22,[.t 4],Zr (dP 2 57 0<|dX 3 57 1<|Yj 4 0)<|Zr (Zh 5 3 2<|Zh 7 3 3<|dJ 6 100 5<|dJ 8 100 7<|Zs 3 2 6<|Zs 3 3 8 .nil)<|Zr (YC 9 0 2 2<|Yb 11 2 3<|YC 15 0 3 2<|Yb 17 2 2<|dJ 13 103 12<|Yf 14 102 10 13<|dJ 19 103 18<|jb 20 102 16 19 101 14<|Ye 4 21) .ret⟩
theorem aoa:Qd Tryz.prog f61=some c61:=by kernel_rfl
def ar3:az:=⟨9,[.cell 2 3 true],Zr (j0 1 57<|tG 2)<|Zr (YC 3 0 1 2<|Yb 6 2 1<|dJ 5 202 4<|YV 8 112 5 7 3 2) .ret⟩
theorem ali:Qd Tryz.prog f193=some ar3:=by kernel_rfl
def aqH:az:=⟨28,[.cell 4 3 true],Zr (dP 2 57 0<|dX 3 57 1<|Yd 4 .nil)<|Zr (Zh 5 3 2<|Zh 7 3 3<|dJ 6 100 5<|dJ 8 100 7<|Zs 3 2 6<|Zs 3 3 8 .nil)<|Zr (YC 9 0 2 2<|Yb 11 2 3<|YC 15 0 3 2<|Yb 17 2 2<|cV 22 2 2 2 3<|dJ 13 103 12<|Yf 14 102 10 13<|dJ 19 103 18<|jb 20 102 16 19 141 14<|jH 26 135 23 25 112 21 3 4) .ret⟩
theorem alj:Qd Tryz.prog f111=some aqH:=by kernel_rfl
def arB:az:=⟨9,[.cell 4 3 true],Zr (dP 2 57 0<|dX 3 57 1<|Yd 4 .nil)<|Zr (YO 5 3 2 3 3<|dJ 7 193 6<|YV 8 111 5 7 3 4) .ret⟩
theorem alk:Qd Tryz.prog f166=some arB:=by kernel_rfl
def aqJ:az:=⟨16,[.cell 4 3 true],Zr (dP 2 57 0<|dX 3 57 1<|Yd 4 .nil)<|Zr (YC 5 0 2 2<|YC 7 0 3 2<|cV 10 2 2 2 3<|Yf 9 102 6 8<|jH 14 135 11 13 112 9 3 4) .ret⟩
theorem alm:Qd Tryz.prog f114=some aqJ:=by kernel_rfl
theorem pd{l:List Nat}(hv:Qi l)(hl:l.length<2^42):AC 130 [PV.nat l] (· =PV.num (val l)):=by
 have aun:=C9 hv;refine aw Qf func130 akY fun C hP=>?_;refine Sz0 ?_;refine Qm okB [(3,3),(7,18)] [] (fun m J hp=>m<=l.length/\cut l m=ak (val l)/\J 3= .int .i64 m/\hp=aA) l.length ?_ ?_
 ·refine⟨Kae _,aun,?_⟩;exact Tz0
 rintro n J _ ⟨hn,hc,h3,rfl⟩;refine Sz1 h3 ?_;refine ic (fun hg=>?_) (fun hg=>?_)
 ·obtain _|n:=n
  ·omega
  have e:((n+1:Nat):Int)-1=n:=by omega
  simp only[cut]at hc;simp+decide (disch:=try exact D2 h3 e) only[go_sem,h3,e];refine Qa (fun hz=>?_) (fun hz=>?_)
  ·rw[if_pos (by grind)]at hc;refine Sz2 h3 e ?_;refine Qh n Oz ⟨by omega,hc,?_⟩;exact Tz0
  ·rw[if_neg (by grind)]at hc;have ao:(l.take (n+1)).length<2^42:=by rw[KaB];omega
   refine DM h3 e ?_;exact Qc (by rw[Kah (by simp),hc]) rfl
 ·obtain rfl:n=0:=by omega
  simp+decide (disch:=first|omega|rfl|(simp+decide only[go_sem,h3,Kcr,KbG,KaR]<;>rfl)|fail) only[go_sem,h3,Kcr,KbG,KaR];rw[Lc (ys:=[]) rfl Oz (by simp) (by simp)];refine aY ?_;exact Qc (by show _=PV.nat (ak (val l));rw[<-hc];rfl) rfl
theorem rk{n:Nat}(hn:n<18446744073709551616):AC 98 [.int .u64 n] (· =PV.num n):=by
 have hlen:=td hn;unfold nl at hlen;refine aw Qf func98 an2 fun C hP=>?_;refine Sz0 ?_;refine jt 3 900 1 177 Oz Tz0 ?_;refine Qm okB [(0,0),(3,13)] [10,11,900] (fun m J hp=>∃done:List Nat,ak n=done++ak m/\m<=n/\J 0= .int .u64 m/\J 3= .ms 900 done.length/\hp 900=some ⟨1,177,bJ done,false⟩) n ?_ ?_
 ·refine⟨[],rfl,Kae _,?_⟩;exact Tz0
 rintro m J hp ⟨done,hd,hm,h0,h3,hh⟩;rw[hd,Kap]at hlen;refine Sz2 h0 h3 ?_;refine Qa (fun hz=>?_) (fun hz=>?_)
 ·have bz:m≠0:=by omega
  have oJ:ak n=(done++[m%65536])++ak (m/65536):=by rw[hd,wy bz];simp
  refine Sz3 h0 h3 @Nat.mod_mod ?_;rw[Qv (f:=fun(x:Nat)=>.int .u16 x) (y:=m%65536) (xs:=done) (ty':=177) (fz:=false) (Tz1 hh) a9 Oz rfl Oz Oz];refine Sz2 h0 h3 ?_;refine Qh (m/65536) Oz ⟨done++[m%65536],oJ,by omega,?_⟩;refine Sz2 h0 h3 ?_;simp
 ·obtain rfl:m=0:=by omega
  rw[gp,Kak]at hd;refine DM h3 hh ?_;exact Qc (by show _=PV.nat (ak n);rw[hd,Kah (by simp)]) rfl
theorem n7{a:List Nat}{i:Nat}(ha:Qi a)(hl:a.length<2^43):AC 173 [PV.nat a,.int .i64 i] (· = .int .i64 (dg a i:Nat)):=by
 refine aw Qf func173 ak0 fun C hP=>?_;refine Sz0 ?_;refine Qa (fun hi=>?_) (fun hi=>?_)
 ·have aE:i<a.length:=by omega
  have I8:=fe ha aE;have hg:dg a i=a[i]:=gQ aE;refine Sz0 ?_;exact Qc (by rw[hg]) rfl
 ·refine Sz0 ?_;exact Qc (by rw[dg,gR Oz];rfl) rfl
theorem GI{a:List Nat}(ha:Qi a)(hl:a.length<=4):AC 170 [PV.nat a] (· = .int .u64 (val a:Nat)):=by
 have ao:∀k,val (a.drop k)<18446744073709551616:=fun k=>by have h1:=qy (Cw ha k);have:65536^(a.drop k).length<=65536^4:=KbD Oz (by rw[KbK];omega);omega
 refine aw Qf func170 akZ fun C hP=>?_;refine Sz0 ?_;refine Qm okB [(3,4),(8,19)] [] (fun k J hp=>k<=a.length/\J 3= .int .u64 (val (a.drop k):Nat)/\J 4= .int .i64 ((k:Int)-1)) a.length ?_ ?_
 ·refine⟨Kae _,?_⟩;refine Sz0 ?_;simp[val]
 rintro k J h ⟨hk,h3,h4⟩;refine Sz2 h3 h4 ?_;refine Qa (fun hg=>?_) (fun hg=>?_)
 ·obtain _|n:=k
  ·omega
  have hn:n<a.length:=by omega
  have I9:=fe ha hn;have e:((n+1:Nat):Int)-1=n:=by omega
  have hv:=nd hn;have h1:=ao n;generalize eT:a[n]=x at *
  have e2:val (a.drop (n+1))*65536+x=val (a.drop n):=by omega
  refine Sz5 h3 h4 e eT e2 ?_;refine Qh n Oz ⟨by omega,?_⟩;exact Tz0
 ·obtain rfl:k=0:=by omega
  simp+decide (disch:=first|omega|rfl|(simp+decide only[go_sem,h3,KbF]<;>rfl)|fail) only[go_sem,h3,KbF];exact Qc rfl rfl
theorem GV{a b:List Nat}(ha:Qi a)(hb:Qi b)(bK:a.length<2^42)(eh:b.length<2^42):AC 133 [PV.nat a,PV.nat b] (· = .int .i64 (iq (val a) (val b))):=by
 refine aw Qf func133 ak1 fun C hP=>?_;refine Sz1 @Rq ?_;refine Qm okB [(4,5),(12,29)] [] (fun k J hp=>k<=max a.length b.length/\val (a.drop k)=val (b.drop k)/\J 5= .int .i64 ((k:Int)-1)) (max a.length b.length) ?_ ?_
 ·refine⟨Kae _,?_,?_⟩
  ·rw[Kat Oz,Kat Oz]
  ·exact Tz0
 rintro k J h ⟨hk,hv,h5⟩;refine Sz1 h5 ?_;refine Qa (fun hg=>?_) (fun hg=>?_)
 ·obtain _|n:=k
  ·omega
  have e:((n+1:Nat):Int)-1=n:=by omega
  have e1:=Ae a n;have e2:=Ae b n;have d1:=yw ha n;have d2:=yw hb n;refine cR h5 e hP (n7 ha Oz) ?_;refine cR h5 e hP (n7 hb Oz) ?_;refine Sz2 h5 e ?_;refine Qa (fun hc=>?_) (fun hc=>?_)
  ·have ao:=Uj (a:=a) (b:=b) ha (i:=n) Oz;refine Sz0 ?_;exact Qc (by rw[Ma ao]) rfl
  refine cR h5 e hP (n7 ha Oz) ?_;refine cR h5 e hP (n7 hb Oz) ?_;refine Sz2 h5 e ?_;refine Qa (fun jJ=>?_) (fun jJ=>?_)
  ·have ao:=Uj (a:=b) (b:=a) hb (i:=n) Oz;refine Sz0 ?_;exact Qc (by rw[Mb ao]) rfl
  ·refine Sz2 h5 e ?_;refine Qh n Oz ⟨by omega,by omega,?_⟩;exact Tz0
 ·obtain rfl:k=0:=by omega
  refine Sz0 ?_;exact Qc (by rw[Rc (by simpa using hv)]) rfl
theorem TP{a:List Nat}(ha:Qi a)(hl:a.length<2^43):AC 95 [PV.nat a] (· = .bool (decide (a.getLast? ≠some 0))):=by
 refine aw Qf func95 an4 fun C hP=>?_;refine Sz0 ?_;refine Qp (fun h0=>?_) (fun h0=>?_)
 ·have:a=[]:=Kas.1 Oz;subst this;refine Sz0 ?_;exact Qc (by simp) rfl
 ·obtain⟨k,hk⟩:∃k,a.length=k+1:=⟨a.length-1,by omega⟩
  have BJ:=ahg hk;have e:((k+1:Nat):Int)-1=k:=by omega
  generalize hy:a[k]'Oz=y at *
  refine Sz3 hk e hy ?_;refine Qc (congrArg PV.bool ?_) rfl;rw[BJ];exact decide_eq_decide.2 ⟨fun h h'=>h (by injection h' with h';rw[h'];rfl),fun h h'=>h (by rw[show y=0 by omega])⟩
theorem Q2p{a b:List Nat}(bK:a.length<2^43)(eh:b.length<2^43):AC 96 [PV.nat a,PV.nat b] (· = .bool (decide (a=b))):=by
 refine aw Qf func96 an5 fun C hP=>?_;refine Sz0 ?_;refine Qa (fun h0=>?_) (fun h0=>?_)
 ·refine Sz0 ?_;exact Qc (congrArg PV.bool (by rw[decide_eq_false];rintro rfl;exact h0 rfl)) rfl
 have hlen:a.length=b.length:=by omega
 refine Sz0 ?_;refine Qm okB [(4,5),(11,25)] [] (fun n J hp=>∃i,n=a.length-i/\i<=a.length/\a.take i=b.take i/\J 5= .int .i64 (i:Nat)) a.length ?_ ?_
 ·refine⟨0,rfl,by omega,by simp,?_⟩;refine Sz0 ?_;rfl
 rintro _ J h ⟨i,rfl,hi,he,h5⟩;refine Sz1 h5 ?_;refine Qa (fun hg=>?_) (fun hg=>?_)
 ·have aE:i<a.length:=by omega
  have Zj:i<b.length:=by omega
  have ta:=Kar aE;have tb:=Kar Zj;have bz:a=b->a[i]=b[i]:=fun h=>by subst h;rfl
  generalize hx:a[i]=x at *
  generalize hy:b[i]=y at *
  refine Sz3 h5 hx hy ?_;refine Qa (fun hc=>?_) (fun hc=>?_)
  ·refine Sz0 ?_;exact Qc (congrArg PV.bool (by rw[decide_eq_false];intro h;exact hc (by rw[bz h]))) rfl
  ·refine Sz1 h5 ?_;refine Qh (a.length-(i+1)) Oz ⟨i+1,rfl,by omega,by rw[ta,tb,he,show x=y by omega],?_⟩;exact Tz0
 ·obtain rfl:i=a.length:=by omega
  rw[Kba,hlen,Kba]at he;refine Sz0 ?_;exact Qc (congrArg PV.bool (by rw[he];simp)) rfl
theorem Up{a b:List Nat}(ha:Qi a)(hb:Qi b)(bK:a.length<2^40)(eh:b.length<2^40):AC 142 [PV.nat a,PV.nat b] (· =PV.num (val a+val b)):=by
 refine aw Qf func142 ak2 fun C hP=>?_;refine Sz0 ?_;refine jt 5 900 1 177 Oz Tz0 ?_;refine Qm okB [(5,41)] [38,39,900] (fun m J hp=>∃(i c:Nat)(out:List Nat),m=2*(max a.length b.length-i)+c/\c<=1/\i<=max a.length b.length+1/\(i<=max a.length b.length∨c=0)/\out.length=i/\Qi out/\val out+65536^i*(c+val (a.drop i)+val (b.drop i))=val a+val b/\J 5= .ms 900 out.length/\J 6= .int .i64 c/\J 7= .int .i64 i/\hp 900=some ⟨1,177,bJ out,false⟩) (2*max a.length b.length) ?_ ?_
 ·refine⟨0,0,[],rfl,by omega,by omega,by omega,rfl,pg,by simp[val],?_⟩;refine Sz0 ?_;simp
 rintro _ J h ⟨i,c,out,rfl,hc,hi,oN,gM,nT,hv,h5,h6,h7,hh⟩;have e1:=Ae a i;have e2:=Ae b i;have d1:=yw ha i;have d2:=yw hb i;refine Sz3 h5 h6 h7 ?_;refine Qp (fun hg=>?_) (fun hg=>?_)
 ·have ao:i<max a.length b.length:=by omega
  have fM:(dg a i+dg b i+c)/65536<=1:=by omega
  have iM:val (out++[(dg a i+dg b i+c)%65536])+65536^(i+1)*((dg a i+dg b i+c)/65536+val (a.drop (i+1))+val (b.drop (i+1)))=val a+val b:=by
   rw[HA,gM,KbH,<-hv,e1,e2];have:=Kbv (dg a i+dg b i+c) 65536;generalize 65536^i=P at *
   generalize(dg a i+dg b i+c)/65536=q at *
   generalize(dg a i+dg b i+c)%65536=r at *
   have e:c+(dg a i+65536*val (a.drop (i+1)))+(dg b i+65536*val (b.drop (i+1)))=r+65536*(q+val (a.drop (i+1))+val (b.drop (i+1))):=by omega
   rw[e,Ka0 P,Kbo];omega
  refine eF h5 h6 h7 hP (n7 ha Oz) ?_;refine eF h5 h6 h7 hP (n7 hb Oz) ?_;refine Sz4 h5 h6 h7 @Nat.mod_mod ?_;rw[Qv (f:=fun(x:Nat)=>.int .u16 x) (y:=(dg a i+dg b i+c)%65536) (xs:=out) (ty':=177) (fz:=false) (Tz1 hh) a9 Oz rfl Oz Oz];refine Sz3 h5 h6 h7 ?_;refine Qh (2*(max a.length b.length-(i+1))+(dg a i+dg b i+c)/65536) ?_ ⟨i+1,(dg a i+dg b i+c)/65536,out++[(dg a i+dg b i+c)%65536],rfl,fM,by omega,?_,by simp[gM],?_,iM,?_⟩
  ·by_cases ao:i<max a.length b.length
   ·omega
   ·have z1:dg a i=0:=by rw[dg,gR Oz]
    have z2:dg b i=0:=by rw[dg,gR Oz]
    rw[z1,z2];omega
  ·by_cases ao:i<max a.length b.length
   ·omega
   ·have z1:dg a i=0:=by rw[dg,gR Oz]
    have z2:dg b i=0:=by rw[dg,gR Oz]
    rw[z1,z2];omega
  ·rw[o9];exact⟨nT,by intro z hz;simp at hz;omega⟩
  ·refine Sz0 ?_;simp
 refine Sz3 h5 h6 h7 ?_;refine Qp (fun jh=>?_) (fun jh=>?_)
 ·have ao:i<max a.length b.length:=by omega
  have fM:(dg a i+dg b i+c)/65536<=1:=by omega
  have iM:val (out++[(dg a i+dg b i+c)%65536])+65536^(i+1)*((dg a i+dg b i+c)/65536+val (a.drop (i+1))+val (b.drop (i+1)))=val a+val b:=by
   rw[HA,gM,KbH,<-hv,e1,e2];have:=Kbv (dg a i+dg b i+c) 65536;generalize 65536^i=P at *
   generalize(dg a i+dg b i+c)/65536=q at *
   generalize(dg a i+dg b i+c)%65536=r at *
   have e:c+(dg a i+65536*val (a.drop (i+1)))+(dg b i+65536*val (b.drop (i+1)))=r+65536*(q+val (a.drop (i+1))+val (b.drop (i+1))):=by omega
   rw[e,Ka0 P,Kbo];omega
  refine eF h5 h6 h7 hP (n7 ha Oz) ?_;refine eF h5 h6 h7 hP (n7 hb Oz) ?_;refine Sz4 h5 h6 h7 @Nat.mod_mod ?_;rw[Qv (f:=fun(x:Nat)=>.int .u16 x) (y:=(dg a i+dg b i+c)%65536) (xs:=out) (ty':=177) (fz:=false) (Tz1 hh) a9 Oz rfl Oz Oz];refine Sz3 h5 h6 h7 ?_;refine Qh (2*(max a.length b.length-(i+1))+(dg a i+dg b i+c)/65536) ?_ ⟨i+1,(dg a i+dg b i+c)/65536,out++[(dg a i+dg b i+c)%65536],rfl,fM,by omega,?_,by simp[gM],?_,iM,?_⟩
  ·by_cases ao:i<max a.length b.length
   ·omega
   ·have z1:dg a i=0:=by rw[dg,gR Oz]
    have z2:dg b i=0:=by rw[dg,gR Oz]
    rw[z1,z2];omega
  ·by_cases ao:i<max a.length b.length
   ·omega
   ·have z1:dg a i=0:=by rw[dg,gR Oz]
    have z2:dg b i=0:=by rw[dg,gR Oz]
    rw[z1,z2];omega
  ·rw[o9];exact⟨nT,by intro z hz;simp at hz;omega⟩
  ·refine Sz0 ?_;simp
 refine Sz3 h5 h6 h7 ?_;refine Qa (fun EL=>?_) (fun EL=>?_)
 ·have Zj:i<=max a.length b.length:=by omega
  have fM:(dg a i+dg b i+c)/65536<=1:=by omega
  have iM:val (out++[(dg a i+dg b i+c)%65536])+65536^(i+1)*((dg a i+dg b i+c)/65536+val (a.drop (i+1))+val (b.drop (i+1)))=val a+val b:=by
   rw[HA,gM,KbH,<-hv,e1,e2];have:=Kbv (dg a i+dg b i+c) 65536;generalize 65536^i=P at *
   generalize(dg a i+dg b i+c)/65536=q at *
   generalize(dg a i+dg b i+c)%65536=r at *
   have e:c+(dg a i+65536*val (a.drop (i+1)))+(dg b i+65536*val (b.drop (i+1)))=r+65536*(q+val (a.drop (i+1))+val (b.drop (i+1))):=by omega
   rw[e,Ka0 P,Kbo];omega
  refine eF h5 h6 h7 hP (n7 ha Oz) ?_;refine eF h5 h6 h7 hP (n7 hb Oz) ?_;refine Sz4 h5 h6 h7 @Nat.mod_mod ?_;rw[Qv (f:=fun(x:Nat)=>.int .u16 x) (y:=(dg a i+dg b i+c)%65536) (xs:=out) (ty':=177) (fz:=false) (Tz1 hh) a9 Oz rfl Oz Oz];refine Sz3 h5 h6 h7 ?_;refine Qh (2*(max a.length b.length-(i+1))+(dg a i+dg b i+c)/65536) ?_ ⟨i+1,(dg a i+dg b i+c)/65536,out++[(dg a i+dg b i+c)%65536],rfl,fM,by omega,?_,by simp[gM],?_,iM,?_⟩
  ·by_cases ao:i<max a.length b.length
   ·omega
   ·have z1:dg a i=0:=by rw[dg,gR Oz]
    have z2:dg b i=0:=by rw[dg,gR Oz]
    rw[z1,z2];omega
  ·by_cases ao:i<max a.length b.length
   ·omega
   ·have z1:dg a i=0:=by rw[dg,gR Oz]
    have z2:dg b i=0:=by rw[dg,gR Oz]
    rw[z1,z2];omega
  ·rw[o9];exact⟨nT,by intro z hz;simp at hz;omega⟩
  ·refine Sz0 ?_;simp
 ·obtain rfl:c=0:=by omega
  rw[Kat Oz,Kat Oz]at hv;simp only[val,KaP,Kb4]at hv;refine Sz2 h5 hh ?_;refine xX hP (pd nT Oz) (by simp+decide (disch:=try exact E1 hh) only[go_sem,hh,il,KaK,KaT,KaC,KaN,Kak];simp[Kah]) rfl fun hp'=>?_;refine Sz0 ?_;exact Qc (by rw[hv]) rfl
theorem K1{a b:List Nat}(ha:Qi a)(hb:Qi b)(bK:a.length<2^40)(eh:b.length<2^40):AC 172 [PV.nat a,PV.nat b] (· =if val a<val b then .aK [PV.num 0,.int .i64 2]else .aK [PV.num (val a-val b),.int .i64 0]):=by
 refine aw Qf func172 ak3 fun C hP=>?_;refine aq hP (GV ha hb Oz Oz) ?_;refine Sz0 ?_;refine Qa (fun hc=>?_) (fun hc=>?_)
 ·rw[if_pos (Hx.1 hc)];refine Sz0 ?_;exact bO rfl rfl rfl Aj (Qe _)
 have iw:¬val a<val b:=fun h=>hc (Hx.2 h);rw[if_neg iw];refine Sz0 ?_;refine jt 6 900 1 177 Oz Tz0 ?_;refine Qm okB [(6,9),(14,37)] [36,37,900] (fun m J hp=>∃(i c:Nat)(out:List Nat),m=a.length-i/\c<=1/\i<=a.length/\out.length=i/\Qi out/\val (a.take i)+65536^i*c=val out+val (b.take i)/\J 6= .ms 900 out.length/\J 7= .int .i64 c/\J 8= .int .i64 i/\hp 900=some ⟨1,177,bJ out,false⟩) a.length ?_ ?_
 ·refine⟨0,0,[],rfl,by omega,by omega,rfl,pg,by simp[val],?_⟩;refine Sz0 ?_;simp
 rintro _ J h ⟨i,c,out,rfl,mM,hi,gM,nT,hv,h6,h7,h8,hh⟩;refine Sz3 h6 h7 h8 ?_;refine Qa (fun hg=>?_) (fun hg=>?_)
 ·have aE:i<a.length:=by omega
  have e1:=TC a i;have e2:=TC b i;have d1:=yw ha i;have d2:=yw hb i;refine eF h6 h7 h8 hP (n7 ha Oz) ?_;refine eF h6 h7 h8 hP (n7 hb Oz) ?_;refine Sz3 h6 h7 h8 ?_;have step:∀(d c':Nat),d<65536->c'<=1->dg a i+65536*c'=d+dg b i+c->val (a.take (i+1))+65536^(i+1)*c'=val (out++[d])+val (b.take (i+1)):=fun d c' _ _ h3=>by
   rw[HA,gM,e1,e2,KbH];generalize 65536^i=P at *
   have:P*(dg a i+65536*c')=P*(d+dg b i+c):=by rw[h3]
   rw[Ka0,<-Nat.mul_assoc,Ka0,Ka0]at this;omega
  refine Qa (fun hd=>?_) (fun hd=>?_)
  ·obtain⟨d,EF⟩:∃d:Nat,(dg a i:Int)-(dg b i:Int)-(c:Int)+65536=d:=⟨((dg a i:Int)-(dg b i:Int)-(c:Int)+65536).toNat,by omega⟩
   have bq:=step d 1 Oz Oz Oz;refine Sz4 h6 h7 h8 EF ?_;rw[Qv (f:=fun(x:Nat)=>.int .u16 x) (y:=d) (xs:=out) (ty':=177) (fz:=false) (Tz1 hh) (by simp+decide (disch:=first|omega|rfl|(simp+decide only[go_sem,KaO (by omega:d<65536)]<;>rfl)|fail) only[go_sem,KaO (by omega:d<65536)]) Oz rfl Oz Oz];refine Sz3 h6 h7 h8 ?_;refine Qh (a.length-(i+1)) Oz ⟨i+1,1,out++[d],rfl,by omega,by omega,by simp[gM],?_,bq,?_⟩
   ·rw[o9];exact⟨nT,by intro z hz;simp at hz;omega⟩
   ·refine Sz0 ?_;simp
  ·obtain⟨d,EF⟩:∃d:Nat,(dg a i:Int)-(dg b i:Int)-(c:Int)=d:=⟨((dg a i:Int)-(dg b i:Int)-(c:Int)).toNat,by omega⟩
   have bq:=step d 0 Oz Oz Oz;refine Sz4 h6 h7 h8 EF ?_;rw[Qv (f:=fun(x:Nat)=>.int .u16 x) (y:=d) (xs:=out) (ty':=177) (fz:=false) (Tz1 hh) (by simp+decide (disch:=first|omega|rfl|(simp+decide only[go_sem,KaO (by omega:d<65536)]<;>rfl)|fail) only[go_sem,KaO (by omega:d<65536)]) Oz rfl Oz Oz];refine Sz3 h6 h7 h8 ?_;refine Qh (a.length-(i+1)) Oz ⟨i+1,0,out++[d],rfl,by omega,by omega,by simp[gM],?_,bq,?_⟩
   ·rw[o9];exact⟨nT,by intro z hz;simp at hz;omega⟩
   ·refine Sz0 ?_;simp
 ·obtain rfl:i=a.length:=by omega
  have hbz:val (b.drop a.length)=0:=G2 (by have:=qy ha;omega);have vB:=Lg b a.length;rw[hbz,Kb4,KaP]at vB;rw[Kba,<-vB]at hv;have hvo:=qy nT;rw[gM]at hvo;have tO:c=0:=by
   match c,mM with
   |0,_=>rfl
   |1,_=>exfalso;have:=qy ha;omega
  subst tO;refine Sz2 h6 hh ?_;refine xX hP (pd nT Oz) (by simp+decide (disch:=try exact E1 hh) only[go_sem,hh,il,KaK,KaT,KaC,KaN,Kak];simp[Kah]) rfl fun hp'=>?_;refine Sz0 ?_;exact bO rfl rfl rfl (yd (congrArg PV.num Oz)) (Qe _)
theorem KQ{a b:List Nat}(ha:Qi a)(hb:Qi b)(bK:a.length<2^40)(eh:b.length<2^40):AC 135 [PV.nat a,PV.nat b] (· =PV.num (val a*val b)):=by
 refine aw Qf func135 ak4 fun C hP=>?_;refine Sz0 ?_;refine Qm okB [(6,9),(17,62)] [] (fun m J hp=>∃(i:Nat)(L:List Nat),m=a.length-i/\i<=a.length/\L.length=a.length+b.length+1/\Qi L/\val L=val (a.take i)*val b/\J 6= .int .i64 i/\hp=Qj aA 16 ⟨1,177,bJ L,false⟩) a.length ?_ ?_
 ·refine⟨0,List.replicate (a.length+b.length+1) 0,rfl,by omega,by simp,?_,by simp[val,VX],?_⟩
  ·intro z hz;rw[List.eq_of_mem_replicate hz];omega
  ·refine Sz0 ?_;simp
 rintro _ J _ ⟨i,L,rfl,hi,Ek,hL,hv,h6,rfl⟩;refine Sz1 h6 ?_;refine Qa (fun hg=>?_) (fun hg=>?_)
 ·have aE:i<a.length:=by omega
  have I8:=fe ha aE;have mU:=Ck aE;have JF:dg L (i+b.length)=0:=by apply Q7z;apply G2;rw[hv,Nat.pow_add];have h1:=vZ ha i Oz;have h2:=qy hb;exact Nat.mul_lt_mul'' h1 h2
  generalize eT:a[i]=ai at *
  refine Sz2 h6 eT ?_;refine Qm okB [(7,9),(23,62)] [] (fun m J hp=>∃(k c:Nat)(M:List Nat),m=b.length+1-k/\k<=b.length+1/\(k<=b.length∨c=0)/\c<65536/\M.length=L.length/\Qi M/\val M+65536^(i+k)*(c+ai*val (b.drop k))=val L+65536^i*(ai*val b)/\(∀j,i+k<=j->dg M j=dg L j)/\J 7= .int .u64 c/\J 8= .int .i64 k/\hp=Qj aA 16 ⟨1,177,bJ M,false⟩) (b.length+1) ?_ ?_
  ·refine⟨0,0,L,rfl,by omega,by omega,by omega,rfl,hL,by simp,fun _ _=>rfl,?_⟩;refine Sz1 h6 ?_;simp
  rintro _ J2 _ ⟨k,c,M,rfl,hk,iy,hc,Xy,hM,hw,zt,h7,h8,rfl⟩;have e2:=Ae b k;have d2:=yw hb k;refine Sz3 h6 h7 h8 ?_;refine Qp (fun vE=>?_) (fun vE=>?_)
  ·have auT:k<=b.length:=by omega
   have hj:i+k<M.length:=by omega
   have hx:=fe hM hj;have zu:=fun v=>Rt (v:=v) hj;have ze:=we I8 d2;have yZ:dg M (i+k)=M[i+k]:=gQ hj;generalize oU:M[i+k]=x at *
   have xr:=Kbv (x+ai*dg b k+c) 65536;have oQ:=Wp (T:=val L+65536^i*(ai*val b)) (zu ((x+ai*dg b k+c)%65536)) (by rw[<-e2];exact hw) xr;have hr:=KbC (x+ai*dg b k+c) (show 0<65536 by omega);have hq:(x+ai*dg b k+c)/65536<65536:=by omega
   have ma:¬k<b.length->(x+ai*dg b k+c)/65536=0:=fun h=>by
    have z1:dg b k=0:=by rw[dg,gR Oz]
    have z2:x=0:=by rw[<-yZ,zt _ (Kae _),show i+k=i+b.length by omega,JF]
    rw[z1,z2];omega
   have EY:Qi (M.set (i+k) ((x+ai*dg b k+c)%65536)):=fun z hz=>by
    rcases List.mem_or_eq_of_mem_set hz with h|h
    ·exact hM z h
    ·omega
   have e5:IntKind.u64.wrap ((ai*dg b k:Nat):Int)=((ai*dg b k:Nat):Int):=uC Oz Oz;refine lX h6 h7 h8 eT oU hP (n7 hb Oz) ?_;refine Sz7 h6 h7 h8 eT oU e5 @Nat.mod_mod ?_;refine Qh (b.length+1-(k+1)) Oz ⟨k+1,(x+ai*dg b k+c)/65536,M.set (i+k) ((x+ai*dg b k+c)%65536),rfl,by omega,?_,hq,by rw[List.length_set];exact Xy,EY,?_,?_,?_⟩
   ·by_cases h:k<b.length
    ·omega
    ·exact .inr (ma h)
   ·rw[<-Nat.add_assoc,KbH];exact oQ
   ·intro j oO;rw[Wq Oz];exact zt j Oz
   ·exact Tz3 h6 h7 h8
  refine Sz3 h6 h7 h8 ?_;refine Qa (fun tO=>?_) (fun tO=>?_)
  ·have auT:k<=b.length:=by omega
   have hj:i+k<M.length:=by omega
   have hx:=fe hM hj;have zu:=fun v=>Rt (v:=v) hj;have ze:=we I8 d2;have yZ:dg M (i+k)=M[i+k]:=gQ hj;generalize oU:M[i+k]=x at *
   have xr:=Kbv (x+ai*dg b k+c) 65536;have oQ:=Wp (T:=val L+65536^i*(ai*val b)) (zu ((x+ai*dg b k+c)%65536)) (by rw[<-e2];exact hw) xr;have hr:=KbC (x+ai*dg b k+c) (show 0<65536 by omega);have hq:(x+ai*dg b k+c)/65536<65536:=by omega
   have ma:¬k<b.length->(x+ai*dg b k+c)/65536=0:=fun h=>by
    have z1:dg b k=0:=by rw[dg,gR Oz]
    have z2:x=0:=by rw[<-yZ,zt _ (Kae _),show i+k=i+b.length by omega,JF]
    rw[z1,z2];omega
   have EY:Qi (M.set (i+k) ((x+ai*dg b k+c)%65536)):=fun z hz=>by
    rcases List.mem_or_eq_of_mem_set hz with h|h
    ·exact hM z h
    ·omega
   have e5:IntKind.u64.wrap ((ai*dg b k:Nat):Int)=((ai*dg b k:Nat):Int):=uC Oz Oz;refine lX h6 h7 h8 eT oU hP (n7 hb Oz) ?_;refine Sz7 h6 h7 h8 eT oU e5 @Nat.mod_mod ?_;refine Qh (b.length+1-(k+1)) Oz ⟨k+1,(x+ai*dg b k+c)/65536,M.set (i+k) ((x+ai*dg b k+c)%65536),rfl,by omega,?_,hq,by rw[List.length_set];exact Xy,EY,?_,?_,?_⟩
   ·by_cases h:k<b.length
    ·omega
    ·exact .inr (ma h)
   ·rw[<-Nat.add_assoc,KbH];exact oQ
   ·intro j oO;rw[Wq Oz];exact zt j Oz
   ·exact Tz3 h6 h7 h8
  ·obtain rfl:c=0:=by omega
   rw[Kat Oz]at hw;simp only[val,Kb4,KaP]at hw;refine Sz3 h6 h7 h8 ?_;simp (disch:=decide) only[mu,uJ];refine Qh (a.length-(i+1)) Oz ⟨i+1,M,rfl,by omega,by omega,hM,?_,?_⟩
   ·rw[hw,hv,mU,KaM,Kbo]
   ·exact Tz0
 ·obtain rfl:i=a.length:=by omega
  rw[Kba]at hv;refine Sz0 ?_;refine xX hP (pd hL Oz) (by simp+decide (disch:=try exact E0) only[go_sem,il,KaK,KaT,KaC,KaN,Kak];simp[Kah,Ek]) rfl fun hp'=>?_;refine Sz0 ?_;exact Qc (by rw[hv]) rfl
theorem G5{x y:Nat}(hx:nl x<2^40)(hy:nl y<2^40):AC 135 [PV.num x,PV.num y] (· =PV.num (x*y)):=by
 have:=KQ (Ql x) (Ql y) hx hy
 rwa[Qw,Qw]at this
theorem Q8k{x y:Nat}(hx:nl x<2^42)(hy:nl y<2^42):AC 133 [PV.num x,PV.num y] (· = .int .i64 (iq x y)):=by
 have:=GV (Ql x) (Ql y) hx hy
 rwa[Qw,Qw]at this
theorem UT{x y:Nat}(hx:nl x<2^40)(hy:nl y<2^40)(h:y<=x):AC 172 [PV.num x,PV.num y] (· = .aK [PV.num (x-y),.int .i64 0]):=by
 have:=K1 (Ql x) (Ql y) hx hy
 rwa[Qw,Qw,if_neg Oz]at this
theorem QN{x y:Nat}:iq x y<=0↔x<=y:=by unfold iq;split<;>(try split)<;>omega
theorem TQ{x y:Nat}(hx:nl x<2^38)(hy:nl y<2^38)(dG:0<y):AC 171 [PV.num x,PV.num y] (· = .int .u64 (min 65535 (x/y):Nat)):=by
 have qS:∀(n d:Nat) fr hp K,n<18446744073709551616->cn .quo false (.int .u64 (n:Int)) (.int .u64 2) d fr hp K=K (ae fr d (.int .u64 ((n/2:Nat):Int))) hp:=fun n d fr hp K h=>by rw[show(2:Int)=((2:Nat):Int)from rfl,Db Oz h]
 refine aw Qf func171 ak5 fun C hP=>?_;refine Sz0 ?_;refine Qm okB [(5,25)] [] (fun m J hp=>∃lo hi:Nat,m=hi-lo/\lo<=hi/\hi<=65535/\y*lo<=x/\(hi=65535∨x<y*(hi+1))/\J 5= .int .u64 lo/\J 6= .int .u64 hi) 65535 ?_ ?_
 ·refine⟨0,65535,rfl,by omega,by omega,by omega,.inl rfl,?_⟩;refine Sz0 ?_;simp
 rintro _ J h ⟨lo,hi,rfl,h1,h2,h3,h4,h5,h6⟩;refine Sz2 h5 h6 ?_;refine Qa (fun hg=>?_) (fun hg=>?_)
 ·have fh:nl ((lo+hi+1)/2)<=4:=td Oz;have hm:=mC y ((lo+hi+1)/2);generalize ava:(lo+hi+1)/2=zG at *
  refine jF h5 h6 qS ava hP (rk (n:=zG) Oz) ?_;refine cR h5 h6 hP (G5 (x:=y) (y:=zG) Oz Oz) ?_;refine cR h5 h6 hP (Q8k (x:=y*zG) (y:=x) Oz Oz) ?_;refine Sz2 h5 h6 ?_;refine Qa (fun hc=>?_) (fun hc=>?_)
  ·rw[QN]at hc;refine Sz2 h5 h6 ?_;refine Qh (hi-zG) Oz ⟨zG,hi,rfl,by omega,h2,hc,h4,?_⟩;exact Tz1 h6
  ·rw[QN]at hc;obtain⟨n,rfl⟩:∃n,zG=n+1:=⟨zG-1,by omega⟩
   have e:((n+1:Nat):Int)-1=n:=by omega
   refine Sz3 h5 h6 e ?_;refine Qh (n-lo) Oz ⟨lo,n,rfl,by omega,by omega,h3,.inr Oz,?_⟩;exact Tz1 h5
 ·obtain rfl:lo=hi:=by omega
  refine Sz1 h5 ?_;refine Qc ?_ rfl;have hle:lo<=x/y:=(Nat.le_div_iff_mul_le dG).2 (by rw[Ka5];exact h3);rcases h4 with rfl|h4
  ·rw[Kb7 hle]
  ·have:x/y<lo+1:=(Kbp dG).2 (by rw[Ka5];exact h4);congr 2;omega
theorem TE{a b:List Nat}(ha:Qi a)(hb:Qi b)(bK:a.length<2^36)(eh:b.length<2^36):AC 131 [PV.nat a,PV.nat b]
  (· =if val b=0 then .aK [PV.num 0,PV.num 0,.int .i64 3]else .aK [PV.num (val a/val b),PV.num (val a%val b),.int .i64 0]):=by
 have iJ:=cE ha;have kR:=cE hb;refine aw Qf func131 ak6 fun C hP=>?_;refine aq hP (pd ha Oz) ?_;refine aq hP (pd hb Oz) ?_;refine Sz0 ?_;generalize val a=x at *
 generalize val b=y at *
 unfold nl at iJ kR;refine Qa (fun hz=>?_) (fun hz=>?_)
 ·have dG:y=0:=m9.1 (rj Oz);refine Sz0 ?_;rw[if_pos dG];exact wN rfl rfl rfl rfl Aj Aj (Qe _)
 have dG:y≠0:=fun h=>by rw[h,gp]at hz;simp at hz
 rw[if_neg dG];have hyp:0<y:=Kbb dG;have eS:=Ql x;have mW:=Ql y;have sH:=Qw x;have oW:=Qw y;refine Sz0 ?_;refine ic (fun h1=>?_) (fun h1=>?_)
 ·refine Sz0 ?_;refine Qa (fun h2=>?_) (fun h2=>?_)
  ·have axR:=Hd.1 (show nl x<=4 by unfold nl;omega);have axS:=Hd.1 (show nl y<=4 by unfold nl;omega);have hq:=KcG x y;have hr:=KbC x hyp;refine aq hP (GI eS Oz) ?_;refine pP sH hP (GI mW Oz) ?_;refine eF sH oW @Db hP (rk (n:=x/y) Oz) ?_;refine aq hP (GI eS Oz) ?_;refine pP sH hP (GI mW Oz) ?_;refine eF sH oW @qx hP (rk (n:=x%y) Oz) ?_;refine Sz0 ?_;exact wN rfl rfl rfl rfl (Qe _) (Qe _) (Qe _)
  ·have avz:=trivial;refine Sz0 ?_;refine De 7 1 Tz0 ?_;refine De 8 1 Tz0 ?_;refine Po okB [(7,10),(41,69)] [49,51,58,60] (fun k J hp=>∃qs,k<=(ak x).length/\qs.length=(ak x).length-k/\Qi qs/\val qs=val ((ak x).drop k)/y/\J 7= .sl 1 (bJ qs)/\J 8=PV.num (val ((ak x).drop k)%y)/\J 9= .int .i64 ((k:Int)-1)) (ak x).length ?_ ?_
   ·refine⟨[],Kae _,by simp,pg,by simp[val],?_⟩;refine Sz0 ?_;simp[val,gp]
   rintro k J h ⟨qs,hk,ZV,qT,tZ,h7,h8,h9⟩;refine Sz3 h7 h8 h9 ?_;have hr:=KbC (val ((ak x).drop k)) hyp;refine Qa (fun hg=>?_) (fun hg=>?_)
   ·obtain _|n:=k
    ·omega
    have hn:n<(ak x).length:=by omega
    have I9:=fe eS hn;have e:((n+1:Nat):Int)-1=n:=by omega
    have bq:=Vk (x:=(ak x)[n]) hyp tZ;rw[<-nd hn]at bq;generalize hV:val ((ak x).drop (n+1))%y=r at *
    generalize eT:(ak x)[n]=xi at *
    have zs:(ak r).length<=(ak y).length:=gE (Nat.le_of_lt hr);have sA:Qi ([xi]++ak r):=by rw[o9];exact⟨by intro z hz;simp at hz;omega,Ql r⟩
    have cT:val ([xi]++ak r)=r*65536+xi:=by rw[n9,Qw];simp[val];omega
    have ao:(r*65536+xi)/y<65536:=by rw[Kbp hyp];have:(r+1)*65536<=y*65536:=Kam _ hr;omega
    have NO:nl (r*65536+xi)<=(ak y).length+1:=by have:=cE sA;rw[cT,Kap]at this;simp at this;omega
    have xr:=Kbv (r*65536+xi) y;have ia:nl (y*((r*65536+xi)/y))<=(ak y).length+1:=KaQ (gE Oz) NO;have NN:nl ((r*65536+xi)/y)<=4:=td Oz;have N6:r*65536+xi-y*((r*65536+xi)/y)=(r*65536+xi)%y:=by omega
    refine Sz5 h7 h8 h9 e eT ?_;rw[ob (f:=fun(x:Nat)=>.int .u16 x) (xs:=[xi]) (ys:=ak r) (n:=1) a9 rfl Oz Oz Oz];refine Sz5 h7 h8 h9 e eT ?_;refine ik hP (pd (l:=[xi]++ak r) sA (by simp;omega)) (by simp+decide (disch:=try exact E0) only[go_sem,il,KaK,KaT,KaC,KaN,Kak];simp[Kb2 1,Kah]) rfl ?_;rw[cT];refine lX h7 h8 h9 e eT hP (TQ (x:=r*65536+xi) (y:=y) Oz (by unfold nl;omega) hyp) ?_;rw[Nat.min_eq_right (by omega:(r*65536+xi)/y<=65535)];generalize hD:(r*65536+xi)/y=D at *
    simp+decide (disch:=first|omega|rfl|(simp+decide only[go_sem,h7,h8,h9,e,eT,KaO ao]<;>rfl)|fail) only[go_sem,h7,h8,h9,e,eT,KaO ao];rw[ob (f:=fun(x:Nat)=>.int .u16 x) (xs:=[D]) (ys:=qs) (n:=1) a9 rfl Oz Oz Oz];refine lX h7 h8 h9 e eT hP (rk (n:=D) Oz) ?_;refine jF h7 h8 h9 e hP (G5 (x:=y) (y:=D) (by unfold nl;omega) Oz) ?_;refine jF h7 h8 h9 e hP (UT (x:=r*65536+xi) (y:=y*D) Oz Oz Oz) ?_;rw[N6];refine Sz4 h7 h8 h9 e ?_;refine Vj 7 n rfl ?_ Oz ⟨D::qs,by omega,by simp;omega,?_,?_,?_⟩
    ·exact pO
    ·rw[iC];exact⟨ao,qT⟩
    ·rw[val,bq.1]
    ·refine WK bq.2 ?_;simp[Kb2 1,Kah]
   ·obtain rfl:k=0:=by omega
    rw[KbF,sH]at tZ h8;refine cR h7 h8 hP (pd qT Oz) ?_;refine Sz2 h7 h8 ?_;exact wN rfl rfl rfl rfl (yd (by rw[tZ])) (Qe _) (Qe _)
 ·have avz:=trivial;refine Sz0 ?_;refine De 7 1 Tz0 ?_;refine De 8 1 Tz0 ?_;refine Po okB [(7,10),(41,69)] [49,51,58,60] (fun k J hp=>∃qs,k<=(ak x).length/\qs.length=(ak x).length-k/\Qi qs/\val qs=val ((ak x).drop k)/y/\J 7= .sl 1 (bJ qs)/\J 8=PV.num (val ((ak x).drop k)%y)/\J 9= .int .i64 ((k:Int)-1)) (ak x).length ?_ ?_
  ·refine⟨[],Kae _,by simp,pg,by simp[val],?_⟩;refine Sz0 ?_;simp[val,gp]
  rintro k J h ⟨qs,hk,ZV,qT,tZ,h7,h8,h9⟩;refine Sz3 h7 h8 h9 ?_;have hr:=KbC (val ((ak x).drop k)) hyp;refine Qa (fun hg=>?_) (fun hg=>?_)
  ·obtain _|n:=k
   ·omega
   have hn:n<(ak x).length:=by omega
   have I9:=fe eS hn;have e:((n+1:Nat):Int)-1=n:=by omega
   have bq:=Vk (x:=(ak x)[n]) hyp tZ;rw[<-nd hn]at bq;generalize hV:val ((ak x).drop (n+1))%y=r at *
   generalize eT:(ak x)[n]=xi at *
   have zs:(ak r).length<=(ak y).length:=gE (Nat.le_of_lt hr);have sA:Qi ([xi]++ak r):=by rw[o9];exact⟨by intro z hz;simp at hz;omega,Ql r⟩
   have cT:val ([xi]++ak r)=r*65536+xi:=by rw[n9,Qw];simp[val];omega
   have ao:(r*65536+xi)/y<65536:=by rw[Kbp hyp];have:(r+1)*65536<=y*65536:=Kam _ hr;omega
   have NO:nl (r*65536+xi)<=(ak y).length+1:=by have:=cE sA;rw[cT,Kap]at this;simp at this;omega
   have xr:=Kbv (r*65536+xi) y;have ia:nl (y*((r*65536+xi)/y))<=(ak y).length+1:=KaQ (gE Oz) NO;have NN:nl ((r*65536+xi)/y)<=4:=td Oz;have N6:r*65536+xi-y*((r*65536+xi)/y)=(r*65536+xi)%y:=by omega
   refine Sz5 h7 h8 h9 e eT ?_;rw[ob (f:=fun(x:Nat)=>.int .u16 x) (xs:=[xi]) (ys:=ak r) (n:=1) a9 rfl Oz Oz Oz];refine Sz5 h7 h8 h9 e eT ?_;refine ik hP (pd (l:=[xi]++ak r) sA (by simp;omega)) (by simp+decide (disch:=try exact E0) only[go_sem,il,KaK,KaT,KaC,KaN,Kak];simp[Kb2 1,Kah]) rfl ?_;rw[cT];refine lX h7 h8 h9 e eT hP (TQ (x:=r*65536+xi) (y:=y) Oz (by unfold nl;omega) hyp) ?_;rw[Nat.min_eq_right (by omega:(r*65536+xi)/y<=65535)];generalize hD:(r*65536+xi)/y=D at *
   simp+decide (disch:=first|omega|rfl|(simp+decide only[go_sem,h7,h8,h9,e,eT,KaO ao]<;>rfl)|fail) only[go_sem,h7,h8,h9,e,eT,KaO ao];rw[ob (f:=fun(x:Nat)=>.int .u16 x) (xs:=[D]) (ys:=qs) (n:=1) a9 rfl Oz Oz Oz];refine lX h7 h8 h9 e eT hP (rk (n:=D) Oz) ?_;refine jF h7 h8 h9 e hP (G5 (x:=y) (y:=D) (by unfold nl;omega) Oz) ?_;refine jF h7 h8 h9 e hP (UT (x:=r*65536+xi) (y:=y*D) Oz Oz Oz) ?_;rw[N6];refine Sz4 h7 h8 h9 e ?_;refine Vj 7 n rfl ?_ Oz ⟨D::qs,by omega,by simp;omega,?_,?_,?_⟩
   ·exact pO
   ·rw[iC];exact⟨ao,qT⟩
   ·rw[val,bq.1]
   ·refine WK bq.2 ?_;simp[Kb2 1,Kah]
  ·obtain rfl:k=0:=by omega
   rw[KbF,sH]at tZ h8;refine cR h7 h8 hP (pd qT Oz) ?_;refine Sz2 h7 h8 ?_;exact wN rfl rfl rfl rfl (yd (by rw[tZ])) (Qe _) (Qe _)
theorem Qzw{x y:Nat}(hx:nl x<2^36)(hy:nl y<2^36)(h0:y≠0):AC 131 [PV.num x,PV.num y] (· = .aK [PV.num (x/y),PV.num (x%y),.int .i64 0]):=by
 have:=TE (Ql x) (Ql y) hx hy
 rwa[Qw,Qw,if_neg h0]at this
theorem Uq{a b:List Nat}(ha:Qi a)(hb:Qi b)(bK:a.length<2^36)(eh:b.length<2^36):AC 97 [PV.nat a,PV.nat b] (· =PV.num (Nat.gcd (val a) (val b))):=by
 have iJ:=cE ha;have kR:=cE hb;refine aw Qf func97 an3 fun C hP=>?_;refine aq hP (pd ha Oz) ?_;refine aq hP (pd hb Oz) ?_;refine Sz0 ?_;refine Qm okB [(0,1),(5,7),(12,23)] [] (fun m J hp=>∃x,Nat.gcd x m=Nat.gcd (val a) (val b)/\nl x<2^36/\nl m<2^36/\J 0=PV.num x/\J 1=PV.num m/\hp=aA) (val b) ?_ ?_
 ·refine⟨val a,rfl,by omega,by omega,?_⟩;exact Tz0
 rintro y J _ ⟨x,hg,hx,hy,h0,h1,rfl⟩;generalize Nat.gcd (val a) (val b)=g at *
 refine Sz2 h0 h1 ?_;refine Qa (fun hc=>?_) (fun hc=>?_)
 ·have dG:y≠0:=fun h=>by rw[h,gp]at hc;simp at hc
  have Fe:=gE (Nat.le_of_lt (KbC x (Kbb dG)));refine cR h0 h1 hP (Qzw (x:=x) (y:=y) hx hy dG) ?_;refine Sz2 h0 h1 ?_;refine Qh (x%y) (KbC _ (Kbb dG)) ⟨y,?_,hy,by omega,?_⟩
  ·rw[<-hg,KcH x y,Nat.gcd_rec y x,KcH]
  ·exact Tz0
 ·have dG:y=0:=m9.1 (rj Oz);subst dG;refine Sz1 h0 ?_;exact Qc (by rw[<-hg,KcS]) rfl
theorem wj{n:Bool}{a:List Nat}(ha:Qi a)(bK:a.length<2^42):AC 134 [.bool n,PV.nat a] (· =PV.zz (zv n a)):=by
 refine aw Qf func134 ak7 fun C hP=>?_;refine aq hP (pd ha bK) ?_;refine Sz0 ?_;refine z9 (fun hn=>?_) (fun hn=>?_)
 all_goals
  refine Sz0 ?_;refine bX ?_;refine Sz0 ?_;exact Qc (by have:=Mf n (val a);rw[hn]at this;subst hn;simpa[zv]using this) rfl
theorem GS{n:Bool}{a:List Nat}(ha:Qi a)(bK:a.length<2^42):AC 132 [PV.zi n a] (· =PV.zz (zv n a)):=by refine aw Qf func132 aky fun C hP=>?_;refine aq hP (wj ha bK) ?_;refine Sz0 ?_;refine bX ?_;refine Sz0 ?_;exact Qc rfl rfl
theorem Ur{n m:Bool}{a b:List Nat}(ha:Qi a)(hb:Qi b)(bK:a.length<2^40)(eh:b.length<2^40):AC 102 [PV.zi n a,PV.zi m b] (· =PV.zz (zv n a*zv m b)):=by
 have hr:nl (val a*val b)<2^42:=by have:=mC (val a) (val b);have:=cE ha;have:=cE hb;omega
 refine aw Qf func102 akE fun C hP=>?_;refine aq hP (KQ ha hb bK eh) ?_;refine aq hP (wj (n:= !(n==m)) (Ql (val a*val b)) hr) ?_;refine Sz0 ?_;refine bX ?_;refine Sz0 ?_;exact Qc (congrArg PV.zz (by rw[uQ];unfold zv;cases n<;>cases m<;>simp[Int.neg_mul,Int.mul_neg])) rfl
theorem Q8l{x:Int}(h1: -9223372036854775808<=x)(h2:x<=9223372036854775807):AC 113 [.int .i64 x] (· =PV.zz x):=by
 refine wm Qf func113 rfl akz (by simp[Mw]) fun C hP=>?_;simp only[Mw];refine eY ?_;refine Sz0 ?_;refine Qa (fun hc=>?_) (fun hc=>?_)
 ·obtain⟨y,hy⟩:∃y:Nat,x= -((y:Int)+1):=⟨(-(x+1)).toNat,by omega⟩
  have e1:IntKind.i64.wrap (x+1)= -(y:Int):=by rw[yc (by omega) (by omega)];omega
  have e2:IntKind.i64.wrap (0- -(y:Int))=(y:Int):=by rw[yc (by omega) (by omega)];omega
  have e3:IntKind.u64.wrap (y:Int)=(y:Int):=uC (by omega) (by omega);have fY:nl y<=4:=td (by omega);have jM:nl (y+1)<=4:=td (by omega);refine Sz3 e1 e2 e3 ?_;refine Qy hP (rk (n:=y) (by omega)) rfl rfl rfl ?_;refine Sz0 ?_;refine Qy hP (rk (n:=1) (by omega)) rfl rfl rfl ?_;refine Sz0 ?_;refine Qy hP (Up (Ql y) (Ql 1) (show nl y<_ by omega) (show nl 1<_ by rw[qz];omega)) rfl rfl rfl ?_;refine Sz0 ?_;refine Qy hP (wj (n:=true) (Ql (val (ak y)+val (ak 1))) (show nl _<_ by rw[Qw,Qw];omega)) rfl rfl rfl ?_;refine Sz0 ?_;refine bX ?_;refine Sz0 ?_;exact Qc (congrArg PV.zz (by rw[uQ,Qw,Qw];simp;omega)) rfl
 ·obtain⟨y,rfl⟩:∃y:Nat,x=y:=⟨x.toNat,by omega⟩
  have fY:nl y<=4:=td (by omega);refine Sz0 ?_;refine Qy hP (rk (by omega)) rfl rfl rfl ?_;refine Sz0 ?_;refine Qy hP (wj (n:=false) (Ql y) (show nl _<_ by omega)) rfl rfl rfl ?_;refine Sz0 ?_;refine bX ?_;refine Sz0 ?_;exact Qc (congrArg PV.zz (by rw[uQ];simp)) rfl
theorem Q2q{n:Bool}{a:List Nat}(ha:Qi a)(bK:a.length<2^42):AC 128 [PV.zi n a] (· = .int .i64 (fN (zv n a))):=by
 refine aw Qf func128 akA fun C hP=>?_;refine aq hP (GS ha bK) ?_;generalize zv n a=z;refine Sz0 ?_;refine Qa (fun hz=>?_) (fun hz=>?_)
 ·have:z=0:=by have:=m9.1 (rj (n:=z.natAbs) Oz);omega
  subst this;refine Sz0 ?_;exact Qc rfl rfl
 ·have h0:z≠0:=fun h=>by subst h;exact hz (by simp[gp])
  refine Sz0 ?_;refine CF (fun hn=>?_) (fun hn=>?_)
  ·have hn:z<0:=by simpa using hn
   refine Sz0 ?_;exact Qc (by rw[fN,if_pos hn]) rfl
  ·have hn:¬z<0:=by simpa using hn
   refine Sz0 ?_;exact Qc (by rw[fN,if_neg hn,if_pos Oz]) rfl
theorem Qzx{n:Bool}{a:List Nat}(ha:Qi a)(bK:a.length<2^42):AC 94 [PV.zi n a] (· = .bool (qB n a)):=by
 refine aw Qf func94 an6 fun C hP=>?_;refine aq hP (TP ha Oz) ?_;refine Sz0 ?_;refine z9 (fun hv=>?_) (fun hv=>?_)
 ·refine Sz0 ?_;refine z9 (fun hn=>?_) (fun hn=>?_)
  ·refine Sz0 ?_;exact Qc (congrArg PV.bool (by unfold qB;subst hn;cases a<;>simp_all<;>omega)) rfl
  ·refine Sz0 ?_;exact Qc (congrArg PV.bool (by unfold qB;subst hn;cases a<;>simp_all)) rfl
 ·refine Sz0 ?_;exact Qc (congrArg PV.bool (by unfold qB;cases a<;>simp_all)) rfl
theorem Q4l{n m:Bool}{a b:List Nat}(ha:Qi a)(hb:Qi b)(bK:a.length<2^41)(eh:b.length<2^41):AC 101 [PV.zi n a,PV.zi m b] (· = .int .i64 (fD (zv n a) (zv m b))):=by
 have hx:nl (zv n a).natAbs<2^41:=by rw[lf];have:=cE ha;omega
 have hy:nl (zv m b).natAbs<2^41:=by rw[lf];have:=cE hb;omega
 refine aw Qf func101 akB fun C hP=>?_;refine aq hP (GS ha Oz) ?_;refine aq hP (GS hb Oz) ?_;generalize zv n a=x at *
 generalize zv m b=y at *
 have lx:(ak x.natAbs).length<2^41:=hx;have ly:(ak y.natAbs).length<2^41:=hy;by_cases bR:x<0<;>by_cases dG:y<0
 ·refine cR bR dG hP (GV (Ql y.natAbs) (Ql x.natAbs) Oz Oz) ?_;refine Sz0 ?_;exact Qc (congrArg (PV.int .i64) (by rw[Qw,Qw];unfold iq fD;split<;>split<;>(try split)<;>(try split)<;>omega)) rfl
 ·refine Sz2 bR dG ?_;exact Qc (congrArg (PV.int .i64) (by unfold fD;rw[if_pos Oz])) rfl
 ·refine Sz2 bR dG ?_;exact Qc (congrArg (PV.int .i64) (by unfold fD;rw[if_neg Oz,if_pos Oz])) rfl
 ·refine cR bR dG hP (GV (Ql x.natAbs) (Ql y.natAbs) Oz Oz) ?_;refine Sz0 ?_;exact Qc (congrArg (PV.int .i64) (by rw[Qw,Qw];unfold iq fD;split<;>split<;>(try split)<;>(try split)<;>omega)) rfl
theorem Q4m{n m:Bool}{a b:List Nat}(ha:Qi a)(hb:Qi b)(bK:a.length<2^40)(eh:b.length<2^40):AC 141 [PV.zi n a,PV.zi m b] (· =PV.zz (zv n a+zv m b)):=by
 have iJ:=cE ha;have kR:=cE hb;refine aw Qf func141 akD fun C hP=>?_;refine Sz0 ?_;refine CF (fun ia=>?_) (fun ia=>?_)
 ·have ia:n=m:=by simpa using ia
  subst ia;have hr:=Dy (val a) (val b);refine aq hP (Up ha hb bK eh) ?_;refine aq hP (wj (n:=n) (Ql (val a+val b)) (show nl _<_ by omega)) ?_;refine Sz0 ?_;refine bX ?_;refine Sz0 ?_;exact Qc (congrArg PV.zz (by rw[uQ];unfold zv;split<;>simp<;>omega)) rfl
 have ia:n= !m:=by cases n<;>cases m<;>simp_all
 subst ia;refine aq hP (K1 ha hb bK eh) ?_;by_cases hc:val a<val b
 ·rw[if_pos hc];have hr:=gE (Nat.sub_le (val b) (val a));refine aq hP (K1 hb ha eh bK) ?_;rw[if_neg Oz];refine aq hP (wj (n:=m) (Ql (val b-val a)) (show nl _<_ by omega)) ?_;refine Sz0 ?_;refine bX ?_;refine Sz0 ?_;exact Qc (congrArg PV.zz (by rw[uQ];unfold zv;cases m<;>simp<;>omega)) rfl
 ·rw[if_neg hc];have hr:=gE (Nat.sub_le (val a) (val b));refine aq hP (wj (n:= !m) (Ql (val a-val b)) (show nl _<_ by omega)) ?_;refine Sz0 ?_;refine bX ?_;refine Sz0 ?_;exact Qc (congrArg PV.zz (by rw[uQ];unfold zv;cases m<;>simp<;>omega)) rfl
theorem TT{a:List Nat}{g:Nat}(ha:Qi a)(hx:a.length<2^36)(hy:nl g<2^36)(h0:g≠0):AC 131 [PV.nat a,PV.num g] (· = .aK [PV.num (val a/g),PV.num (val a%g),.int .i64 0]):=by
 have:=TE ha (Ql g) hx hy
 rwa[Qw,if_neg h0]at this
theorem aob(n:Bool)(a:List Nat)(D:Nat):zv n (ak (val a/Nat.gcd (val a) D))=zv n a/(Nat.gcd (zv n a).natAbs D:Int):=by
 rw[lf,uQ];unfold zv;cases n
 ·simp
 ·have hd:((Nat.gcd (val a) D:Nat):Int)∣(val a:Int):=Int.natCast_dvd_natCast.2 (KcX _ _);simp only[if_true];rw[Int.neg_ediv_of_dvd hd,Int.natCast_ediv]
theorem TU{n:Bool}{a d:List Nat}(ha:Qi a)(hd:Qi d)(bK:a.length<2^36)(sv:d.length<2^36):AC 112 [PV.zi n a,PV.nat d] (· =PV.rat (rv n a d)):=by
 have qd:=cE ha;have NP:=cE hd;refine aw Qf func112 akF fun C hP=>?_;refine aq hP (pd hd Oz) ?_;refine Sz0 ?_;refine Qa (fun hz=>?_) (fun hz=>?_)
 ·have h0:val d=0:=m9.1 (rj (n:=val d) Oz);refine aq hP (rk (n:=1) Oz) ?_;refine Sz0 ?_;refine bX ?_;refine Sz0 ?_;exact(by unfold rv;rw[Uf (.inl h0),uH];exact wx Rl rfl)
 ·have h0:val d≠0:=fun h=>by rw[h,gp]at hz;exact hz rfl
  have oL:Nat.gcd (val a) (val d)≠0:=fun h=>h0 (Nat.gcd_eq_zero_iff.1 h).2;have hg:=gE (KcY (val a) (Kbb h0));have hq:=Sf (val a) (Nat.gcd (val a) (val d));refine aq hP (Uq ha hd bK sv) ?_;refine aq hP (TT ha bK Oz oL) ?_;refine aq hP (TT hd sv Oz oL) ?_;refine aq hP (GS (n:=n) (Ql (val a/Nat.gcd (val a) (val d))) (show nl _<_ by omega)) ?_;rw[aob];have hm:=CJ (z:=zv n a) h0;refine Sz0 ?_;refine bX ?_;refine Sz0 ?_;exact Qc (by unfold rv;rw[PV.rat,hm.1,hm.2,lf]) rfl
theorem xR{n:Bool}{a d:List Nat}{k:Nat}(hp:Raw k n a d)(hk:k<2^36):AC 100 [PV.rr n a d] (· =PV.rat (rv n a d)):=by obtain⟨ha,hd,sa,sd,k1⟩:=hp;refine aw Qf func100 akG fun C hP=>?_;refine aq hP (TU (n:=n) ha hd Oz Oz) ?_;refine Sz0 ?_;refine bX ?_;refine Sz0 ?_;exact Qc rfl rfl
theorem G6{z:Int}{D:Nat}(hz:nl z.natAbs<2^36)(hD:nl D<2^36):AC 112 [PV.zz z,PV.num D] (· =PV.rat (mkRat z D)):=by
 have:=TU (n:=decide (z<0)) (Ql z.natAbs) (Ql D) hz hD
 rwa[rv,og,Qw]at this
theorem Ab{x:Int}(h1: -9223372036854775808<=x)(h2:x<=9223372036854775807):AC 79 [.int .i64 x] (· =PV.rat (x:Rat)):=by have fY:nl x.natAbs<=4:=td Oz;refine aw Qf func79 an8 fun C hP=>?_;refine aq hP (Q8l h1 h2) ?_;refine aq hP (rk (n:=1) Oz) ?_;refine aq hP (G6 (z:=x) (D:=1) Oz (by rw[qz];omega)) ?_;refine Sz0 ?_;refine bX ?_;refine Sz0 ?_;exact Qc (congrArg PV.rat (Rat.mkRat_one x)) rfl
theorem GJ(d:List Nat):AC 103 [PV.nat d] (· =PV.zi false d):=by refine aw Qf func103 akH fun C hP=>?_;refine Sz0 ?_;refine bX ?_;refine Sz0 ?_;exact Qc rfl rfl
theorem Q8m{x:Int}(hx:nl x.natAbs<2^42):AC 128 [PV.zz x] (· = .int .i64 (fN x)):=by
 have:=Q2q (n:=decide (x<0)) (Ql x.natAbs) hx
 rwa[og]at this
theorem GU{n:Bool}{a d:List Nat}{k:Nat}(hp:Raw k n a d)(hk:k<2^36):AC 90 [PV.rr n a d] (· = .int .i64 (eQ (rv n a d))):=by have hs:=hp.rs;unfold FW.rs at hs;refine aw Qf func90 an9 fun C hP=>?_;refine aq hP (xR hp hk) ?_;refine aq hP (Q8m (x:=(rv n a d).num) Oz) ?_;refine Sz0 ?_;exact Qc rfl rfl
theorem Hk{x:Int}{d:Nat}(hx:nl x.natAbs<2^40)(hy:nl d<2^40):AC 102 [PV.zz x,PV.zi false (ak d)] (· =PV.zz (x*(d:Int))):=by
 have:=Ur (n:=decide (x<0)) (m:=false) (Ql x.natAbs) (Ql d) hx hy
 rwa[og,ye,Qw]at this
theorem afu{x y:Int}(hx:nl x.natAbs<2^40)(hy:nl y.natAbs<2^40):AC 141 [PV.zz x,PV.zz y] (· =PV.zz (x+y)):=by
 have:=Q4m (n:=decide (x<0)) (m:=decide (y<0)) (Ql x.natAbs) (Ql y.natAbs) hx hy
 rwa[og,og]at this
theorem afv{x y:Int}(hx:nl x.natAbs<2^41)(hy:nl y.natAbs<2^41):AC 101 [PV.zz x,PV.zz y] (· = .int .i64 (fD x y)):=by
 have:=Q4l (n:=decide (x<0)) (m:=decide (y<0)) (Ql x.natAbs) (Ql y.natAbs) hx hy
 rwa[og,og]at this
theorem Q4n{n m:Bool}{a d b c:List Nat}{k:Nat}(hp:Raw k n a d)(hq:Raw k m b c)(hk:k<2^34):AC 114 [PV.rr n a d,PV.rr m b c] (· =PV.rat (rv n a d*rv m b c)):=by obtain⟨ha,hd,sa,sd,k1⟩:=hp;obtain⟨hb,hc,sb,sc,k2⟩:=hq;have h1:=nc (zv n a) (zv m b);have h2:=mC (val d) (val c);rw[lf,lf]at h1;have e1:=cE ha;have e2:=cE hd;have e3:=cE hb;have e4:=cE hc;refine aw Qf func114 alm fun C hP=>?_;refine aq hP (Ur (n:=n) (m:=m) ha hb Oz Oz) ?_;refine aq hP (KQ hd hc Oz Oz) ?_;refine aq hP (G6 (z:=zv n a*zv m b) (D:=val d*val c) Oz Oz) ?_;refine Sz0 ?_;refine bX ?_;refine Sz0 ?_;exact Qc (congrArg PV.rat (Rat.mkRat_mul_mkRat _ _ _ _).symm) rfl
theorem Q4o{n m:Bool}{a d b c:List Nat}{k:Nat}(hp:Raw k n a d)(hq:Raw k m b c)(hk:k<2^34):AC 61 [PV.rr n a d,PV.rr m b c] (· = .int .i64 (qH (rv n a d) (rv m b c))):=by
 have hx:=hp.rs;have hy:=hq.rs;unfold FW.rs at hx hy;refine aw Qf func61 aoa fun C hP=>?_;refine aq hP (xR hp Oz) ?_;refine aq hP (xR hq Oz) ?_;generalize rv n a d=p at *
 generalize rv m b c=q at *
 have h1:=nc p.num (q.den:Int);have h2:=nc q.num (p.den:Int);rw[Kbu]at h1 h2;refine aq hP (GJ (ak q.den)) ?_;refine aq hP (Hk (x:=p.num) (d:=q.den) Oz Oz) ?_;refine aq hP (GJ (ak p.den)) ?_;refine aq hP (Hk (x:=q.num) (d:=p.den) Oz Oz) ?_;refine aq hP (afv (x:=p.num*(q.den:Int)) (y:=q.num*(p.den:Int)) Oz Oz) ?_;refine Sz0 ?_;exact Qc (congrArg (PV.int .i64) (by rw[<-Rm p.den_nz q.den_nz,KcL,KcL])) rfl
theorem Us{n m:Bool}{a d b c:List Nat}{k:Nat}(hp:Raw k n a d)(hq:Raw k m b c)(hk:k<2^34):AC 111 [PV.rr n a d,PV.rr m b c] (· =PV.rat (rv n a d+rv m b c)):=by
 have hx:=hp.rs;have hy:=hq.rs;unfold FW.rs at hx hy;refine aw Qf func111 alj fun C hP=>?_;refine aq hP (xR hp Oz) ?_;refine aq hP (xR hq Oz) ?_;generalize rv n a d=p at *
 generalize rv m b c=q at *
 have h1:=nc p.num (q.den:Int);have h2:=nc q.num (p.den:Int);have h3:=Cl (p.num*(q.den:Int)) (q.num*(p.den:Int));have h4:=mC p.den q.den;rw[Kbu]at h1 h2;refine aq hP (GJ (ak q.den)) ?_;refine aq hP (Hk (x:=p.num) (d:=q.den) Oz Oz) ?_;refine aq hP (GJ (ak p.den)) ?_;refine aq hP (Hk (x:=q.num) (d:=p.den) Oz Oz) ?_;refine aq hP (afu (x:=p.num*(q.den:Int)) (y:=q.num*(p.den:Int)) Oz Oz) ?_;refine aq hP (G5 (x:=p.den) (y:=q.den) Oz Oz) ?_;refine aq hP (G6 (z:=p.num*(q.den:Int)+q.num*(p.den:Int)) (D:=p.den*q.den) Oz Oz) ?_;refine Sz0 ?_;refine bX ?_;refine Sz0 ?_;exact Qc (congrArg PV.rat (by rw[<-Rat.mkRat_add_mkRat _ _ p.den_nz q.den_nz,KcL,KcL])) rfl
theorem Cn{n:Bool}{a d:List Nat}{k:Nat}(hp:Raw k n a d)(hk:k<2^36):AC 54 [PV.rr n a d] (· = .bool (iX n a d)):=by
 obtain⟨ha,hd,sa,sd,k1⟩:=hp;have tQ:(ak (Nat.gcd (val a) (val d))).length<2^43:=by
  by_cases h0:val d=0
  ·rw[h0,KcS];have h4:=cE ha;unfold nl at h4;omega
  ·have h3:=gE (KcY (val a) (Kbb h0));have h4:=cE hd;unfold nl at h3 h4;omega
 refine wm Qf func54 rfl an7 (by simp[MD]) fun C hP=>?_;simp only[MD];refine eY ?_;refine Sz0 ?_;refine Qy hP (Qzx ha (by omega)) rfl rfl rfl ?_;unfold iX;refine Sz0 ?_;cases hio:qB n a
 ·refine Sz0 ?_;exact Qc (by simp) rfl
 rw[Bool.true_and];refine Sz0 ?_;refine Qy hP (TP hd (by omega)) rfl rfl rfl ?_;refine Sz0 ?_;refine z9 (fun hv=>?_) (fun hv=>?_)
 ·refine Sz0 ?_;refine Qy hP (Uq ha hd (by omega) (by omega)) rfl rfl rfl ?_;refine Sz0 ?_;refine Qy hP (rk (n:=1) (by omega)) rfl rfl rfl ?_;refine Sz0 ?_;refine Qy hP (Q2p tQ (by rw[uH];decide)) rfl rfl rfl ?_;rw[uH,decide_eq_decide.2 (Un (Nat.gcd (val a) (val d)))];refine Sz0 ?_;refine ic (fun hg=>?_) (fun hg=>?_)
  ·refine Sz0 ?_;exact Qc (congrArg PV.bool (by cases d<;>simp_all)) rfl
  ·refine Sz0 ?_;exact Qc (congrArg PV.bool (by simp[hg])) rfl
 ·refine Sz0 ?_;exact Qc (congrArg PV.bool (by simp_all)) rfl
theorem KP(x:Int):AC 139 [.int .i64 x] (· = .int .i64 (fN x)):=by
 refine aw Qf func139 ajv fun C hP=>?_;refine Sz0 ?_;refine Qa (fun h=>?_) (fun h=>?_)
 ·refine Sz0 ?_;exact Qc (by rw[fN,if_pos h]) rfl
 refine Sz0 ?_;refine Qa (fun h2=>?_) (fun h2=>?_)
 ·refine Sz0 ?_;exact Qc (by rw[fN,if_neg h,if_pos h2]) rfl
 ·refine Sz0 ?_;exact Qc (by rw[fN,if_neg h,if_neg h2]) rfl
theorem Q4p{a:List Int}{v:Int}(hl:a.length<2^42):AC 140 [PV.mono a,.int .i64 v] (· = .int .i64 (if v<0 then 0 else eN a v.toNat)):=by
 refine aw Qf func140 ajs fun C hP=>?_;refine Sz0 ?_;refine Qp (fun h1=>?_) (fun h1=>?_)
 ·refine Sz0 ?_;exact Qc (by rw[if_pos h1]) rfl
 ·obtain⟨n,rfl⟩:∃n:Nat,v=n:=⟨v.toNat,by omega⟩
  rw[if_neg h1];refine Sz0 ?_;refine Qa (fun h2=>?_) (fun h2=>?_)
  ·refine Sz0 ?_;exact Qc (by rw[pB Oz]) rfl
  ·have hn:n<a.length:=by omega
   refine Sz0 ?_;exact Qc (by rw[nq hn]) rfl
theorem qw{a:List Int}{i:Nat}(hl:a.length<2^42):AC 140 [PV.mono a,.int .i64 i] (· = .int .i64 (eN a i)):=by
 have:=Q4p (v:=i) hl
 rwa[if_neg Oz,Kbs]at this
theorem GM{a:List Int}(hl:a.length<=1048576)(hb:∀x∈a,0<=x/\x<=1099511627776):AC 138 [PV.mono a] (· = .int .i64 (rT a)):=by
 refine aw Qf func138 ajr fun C hP=>?_;refine Sz0 ?_;refine Qm okB [(3,16)] [] (fun k J hp=>∃(i:Nat)(s:Int),k=a.length-i/\i<=a.length/\0<=s/\s<=1099511627776*i/\s+(a.drop i).sum=rT a/\J 4= .int .i64 (i:Nat)/\J 3= .int .i64 s/\hp=aA) a.length ?_ ?_
 ·refine⟨0,0,rfl,by omega,by omega,by omega,by simp[rT],?_⟩;refine Sz0 ?_;simp
 rintro _ J _ ⟨i,s,rfl,hi,ub,fM,zx,h4,h3,rfl⟩;refine Sz2 h4 h3 ?_;refine Qa (fun hg=>?_) (fun hg=>?_)
 ·have aE:i<a.length:=by omega
  have hx:=hb _ (Kag aE);rw[Kax aE,List.sum_cons]at zx;generalize eT:a[i]=x at *
  refine Sz3 h4 h3 eT ?_;refine Qh (a.length-(i+1)) Oz ⟨i+1,s+x,rfl,by omega,by omega,by push_cast;omega,by omega,?_⟩;exact Tz0
 ·rw[Kat Oz,List.sum_nil,Int.add_zero]at zx;refine Sz1 h3 ?_;exact Qc (by rw[zx]) rfl
theorem Q4q{k:Nat}{a b:List Int}(ha:MB k a)(hb:MB k b)(hk:k<=1099511627776):AC 137 [PV.mono a,PV.mono b] (· =PV.mono (pI (· + ·) a b)):=by
 have h1:=ha.len;have h2:=hb.len;have hz:=v5 (· + ·) a b;refine aw Qf func137 ajt fun C hP=>?_;refine Sz0 ?_;refine jt 5 900 1 3 Oz Tz0 ?_;refine Qm okB [(5,28)] [27,28,900] (fun m J hp=>∃(i:Nat)(out:List Int),m=max a.length b.length-i/\i<=max a.length b.length/\out=(pI (· + ·) a b).take i/\J 5= .ms 900 out.length/\J 6= .int .i64 i/\hp 900=some ⟨1,3,tE out,false⟩) (max a.length b.length) ?_ ?_
 ·refine⟨0,[],rfl,by omega,by simp,?_⟩;refine Sz0 ?_;simp
 rintro _ J h ⟨i,out,rfl,hi,nT,h5,h6,hh⟩;have gM:out.length=i:=by rw[nT,KaB,hz];omega
 refine Sz2 h5 h6 ?_;refine Qp (fun hg=>?_) (fun hg=>?_)
 ·have ao:i<max a.length b.length:=by omega
  have cO:=Wn (g:=(· + ·)) ao;have ea:=ha.eN i;have eb:=hb.eN i;refine cR h5 h6 hP (qw (a:=a) (i:=i) Oz) ?_;refine cR h5 h6 hP (qw (a:=b) (i:=i) Oz) ?_;refine Sz2 h5 h6 ?_;rw[Qv (f:=fun(x:Int)=>.int .i64 x) (y:=eN a i+eN b i) (xs:=out) (ty':=3) (fz:=false) (Tz1 hh) a9 Oz rfl Oz Oz];refine Sz2 h5 h6 ?_;refine Qh (max a.length b.length-(i+1)) Oz ⟨i+1,out++[eN a i+eN b i],rfl,by omega,by rw[cO,nT],?_⟩;refine Sz0 ?_;simp
 refine Sz2 h5 h6 ?_;refine Qa (fun jh=>?_) (fun jh=>?_)
 ·have ao:i<max a.length b.length:=by omega
  have cO:=Wn (g:=(· + ·)) ao;have ea:=ha.eN i;have eb:=hb.eN i;refine cR h5 h6 hP (qw (a:=a) (i:=i) Oz) ?_;refine cR h5 h6 hP (qw (a:=b) (i:=i) Oz) ?_;refine Sz2 h5 h6 ?_;rw[Qv (f:=fun(x:Int)=>.int .i64 x) (y:=eN a i+eN b i) (xs:=out) (ty':=3) (fz:=false) (Tz1 hh) a9 Oz rfl Oz Oz];refine Sz2 h5 h6 ?_;refine Qh (max a.length b.length-(i+1)) Oz ⟨i+1,out++[eN a i+eN b i],rfl,by omega,by rw[cO,nT],?_⟩;refine Sz0 ?_;simp
 obtain rfl:i=max a.length b.length:=by omega
 rw[Kah Oz]at nT;subst nT;refine DM h5 hh ?_;exact Qc (by rw[Kah (by simp)]) rfl
theorem LW(x y:Int):fN (x-y)=fD x y:=by unfold fN fD;(repeat' split)<;>omega
theorem Q4r{k:Nat}{a b:List Int}{o:Int}(ha:MB k a)(hb:MB k b)(hk:k<=1099511627776):AC 110 [PV.mono a,PV.mono b,.int .i64 o] (· = .int .i64 (vg o a b)):=by
 have h1:=ha.len;have h2:=hb.len;have iJ:∀x∈a,0<=x/\x<=1099511627776:=fun x hx=>by have:=ha.lo x hx;have:=ha.hi x hx;omega
 have kR:∀x∈b,0<=x/\x<=1099511627776:=fun x hx=>by have:=hb.lo x hx;have:=hb.hi x hx;omega
 have da:=Rs ha;have db:=Rs hb;refine wm Qf func110 rfl aju (by simp[aqG]) fun C hP=>?_;simp only[aqG];refine eY ?_;refine Sz0 ?_;refine ic (fun ho=>?_) (fun ho=>?_)
 ·refine Sz0 ?_;refine Qy hP (GM (by omega) iJ) rfl rfl rfl ?_;refine Sz0 ?_;refine Qy hP (GM (by omega) kR) rfl rfl rfl ?_;refine Sz0 ?_;refine Qa (fun hd=>?_) (fun hd=>?_)
  ·have zn:vg o a b=fD (rT a) (rT b):=by unfold vg;rw[if_pos ⟨ho,hd⟩]
   refine Sz0 ?_;refine Qy hP (GM (by omega) iJ) rfl rfl rfl ?_;refine Sz0 ?_;refine Qy hP (GM (by omega) kR) rfl rfl rfl ?_;refine Sz0 ?_;refine Qy hP (KP _) rfl rfl rfl ?_;refine Sz0 ?_;exact Qc (by rw[zn,LW]) rfl
  have zn:vg o a b=cz a b:=by unfold vg;rw[if_neg (fun h=>hd h.2)]
  refine Sz0 ?_;refine Qm (by repeat (first|exact PH|exact Wf|exact Wh|exact VL|exact VM|apply We|apply PG|apply Ri|apply RX|apply RY|apply Vf|apply Q7y)) [(6,7),(29,47)] [] (fun n J hp=>n<=max a.length b.length/\fE a b n=cz a b/\J 7= .int .i64 ((n:Int)-1)/\hp=aA) (max a.length b.length) ?_ ?_
  ·refine⟨by omega,rfl,?_⟩;exact Tz0
  rintro n J _ ⟨hn,hc,h7,rfl⟩;refine Sz1 h7 ?_;refine Qa (fun hg=>?_) (fun hg=>?_)
  ·obtain _|n:=n
   ·omega
   have e:((n+1:Nat):Int)-1=n:=by omega
   have ea:=ha.eN n;have eb:=hb.eN n;rw[fE]at hc;refine Sz2 h7 e ?_;refine Qy hP (qw (by omega)) rfl rfl rfl ?_;refine Sz2 h7 e ?_;refine Qy hP (qw (by omega)) rfl rfl rfl ?_;refine Sz2 h7 e ?_;refine Qa (fun h4=>?_) (fun h4=>?_)
   ·rw[if_neg h4]at hc;refine Sz2 h7 e ?_;refine Qy hP (qw (by omega)) rfl rfl rfl ?_;refine Sz2 h7 e ?_;refine Qy hP (qw (by omega)) rfl rfl rfl ?_;refine Sz2 h7 e ?_;refine Qy hP (KP _) rfl rfl rfl ?_;refine Sz2 h7 e ?_;exact Qc (by rw[zn,<-hc,LW]) rfl
   ·rw[if_pos (by omega)]at hc;refine Sz2 h7 e ?_;refine Qh n (by omega) ⟨by omega,hc,?_⟩;exact Tz0
  ·obtain rfl:n=0:=by omega
   refine Sz0 ?_;exact Qc (by rw[zn,<-hc];rfl) rfl
 ·have zn:vg o a b=cz a b:=by unfold vg;rw[if_neg (fun h=>ho h.1)]
  refine Sz0 ?_;refine Qm (by repeat (first|exact PH|exact Wf|exact Wh|exact VL|exact VM|apply We|apply PG|apply Ri|apply RX|apply RY|apply Vf|apply Q7y)) [(6,7),(29,47)] [] (fun n J hp=>n<=max a.length b.length/\fE a b n=cz a b/\J 7= .int .i64 ((n:Int)-1)/\hp=aA) (max a.length b.length) ?_ ?_
  ·refine⟨by omega,rfl,?_⟩;exact Tz0
  rintro n J _ ⟨hn,hc,h7,rfl⟩;refine Sz1 h7 ?_;refine Qa (fun hg=>?_) (fun hg=>?_)
  ·obtain _|n:=n
   ·omega
   have e:((n+1:Nat):Int)-1=n:=by omega
   have ea:=ha.eN n;have eb:=hb.eN n;rw[fE]at hc;refine Sz2 h7 e ?_;refine Qy hP (qw (by omega)) rfl rfl rfl ?_;refine Sz2 h7 e ?_;refine Qy hP (qw (by omega)) rfl rfl rfl ?_;refine Sz2 h7 e ?_;refine Qa (fun h4=>?_) (fun h4=>?_)
   ·rw[if_neg h4]at hc;refine Sz2 h7 e ?_;refine Qy hP (qw (by omega)) rfl rfl rfl ?_;refine Sz2 h7 e ?_;refine Qy hP (qw (by omega)) rfl rfl rfl ?_;refine Sz2 h7 e ?_;refine Qy hP (KP _) rfl rfl rfl ?_;refine Sz2 h7 e ?_;exact Qc (by rw[zn,<-hc,LW]) rfl
   ·rw[if_pos (by omega)]at hc;refine Sz2 h7 e ?_;refine Qh n (by omega) ⟨by omega,hc,?_⟩;exact Tz0
  ·obtain rfl:n=0:=by omega
   refine Sz0 ?_;exact Qc (by rw[zn,<-hc];rfl) rfl
theorem C1{a b:Rat}{k:Nat}(ha:rs a<=k)(hb:rs b<=k)(hk:k<2^34):AC 111 [PV.rat a,PV.rat b] (· =PV.rat (a+b)):=by
 have:=Us (kC ha) (kC hb) hk
 rwa[kG,kG]at this
theorem pj{a b:Rat}{k:Nat}(ha:rs a<=k)(hb:rs b<=k)(hk:k<2^34):AC 114 [PV.rat a,PV.rat b] (· =PV.rat (a*b)):=by
 have:=Q4n (kC ha) (kC hb) hk
 rwa[kG,kG]at this
theorem Lx{a:Rat}(ha:rs a<2^36):AC 90 [PV.rat a] (· = .int .i64 (eQ a)):=by
 have:=GU (kC (Kae (rs a))) ha
 rwa[kG]at this
theorem Kk{k:Nat}{a b:List Int}(ha:MB k a)(hb:MB k b)(hk:k<=1099511627776):AC 110 [PV.mono a,PV.mono b,.int .i64 0] (· = .int .i64 (cz a b)):=by
 have:=Q4r (o:=0) ha hb hk
 rwa[amG]at this
theorem KR{p q:List Tm}{K E:Nat}(hp:PB K E p)(hq:PB K E q)(hK:K<=2^32)(hE:E<=2^38)(tU:p.length<=2^36)(NK:q.length<=2^36):
  AC 78 [PV.ay p,PV.ay q] (· =PV.ay (Qu p q)):=by
 refine aw Qf func78 am1 fun C hP=>?_;refine Sz0 ?_;refine jt 5 900 4 171 Oz Tz0 ?_;refine Qm okB [(5,90)] [9,61,62,75,76,87,88,900] (fun n J hp=>∃i k out,n=(p.length-i)+(q.length-k)/\i<=p.length/\k<=q.length/\out.length<=i+k/\out++Qu (p.drop i) (q.drop k)=Qu p q/\
  J 5= .ms 900 out.length/\J 6= .int .i64 (i:Nat)/\J 7= .int .i64 (k:Nat)/\hp 900=some ⟨4,171,out.map PV.term,false⟩) (p.length+q.length) ?_ ?_
 ·refine⟨0,0,[],by omega,by omega,by omega,by simp,rfl,?_⟩;refine Sz0 ?_;simp
 rintro _ J h ⟨i,k,out,rfl,hi,hk,gM,jN,h5,h6,h7,hh⟩;refine Sz3 h5 h6 h7 ?_;refine Qp (fun hg=>?_) (fun hg=>?_)
 ·have aE:i<p.length:=by omega
  refine Sz3 h5 h6 h7 ?_;refine Qa (fun h=>by omega) (fun _=>?_);refine Sz3 h5 h6 h7 ?_;refine Qa (fun jh=>?_) (fun jh=>?_)
  ·have cG:k<q.length:=by omega
   have fu:=hp.get aE;have Ft:=hq.get cG;rw[aeY aE cG]at jN;have c1:=fu.c;have c2:=Ft.c;generalize hx:p[i]=x at *
   generalize hy:q[k]=y at *
   refine lX h5 h6 h7 hx hy hP (Kk fu.m Ft.m Oz) ?_;refine Sz5 h5 h6 h7 hx hy ?_;refine Qa (fun hc=>?_) (fun hc=>?_)
   ·rw[if_pos hc]at jN;refine Sz4 h5 h6 h7 hx ?_;rw[Qv (f:=PV.term) (y:=x) (xs:=out) (ty':=171) (fz:=false) (Tz1 hh) a9 Oz rfl Oz Oz];refine Sz4 h5 h6 h7 hx ?_;refine Qh ((p.length-(i+1))+(q.length-k)) Oz ⟨i+1,k,out++[x],rfl,by omega,hk,by simp;omega,by simpa using jN,?_⟩;refine Sz3 h5 h6 h7 ?_;simp
   rw[if_neg hc]at jN;refine Sz5 h5 h6 h7 hx hy ?_;refine Qa (fun jJ=>?_) (fun jJ=>?_)
   ·rw[if_pos jJ]at jN;refine Sz4 h5 h6 h7 hy ?_;rw[Qv (f:=PV.term) (y:=y) (xs:=out) (ty':=171) (fz:=false) (Tz1 hh) a9 Oz rfl Oz Oz];refine Sz4 h5 h6 h7 hy ?_;refine Qh ((p.length-i)+(q.length-(k+1))) Oz ⟨i,k+1,out++[y],rfl,by omega,by omega,by simp;omega,by simpa using jN,?_⟩;refine Sz3 h5 h6 h7 ?_;simp
   rw[if_neg jJ]at jN;have Fk:=pw x.1 y.1;refine Sz5 h5 h6 h7 hx hy ?_;refine eW ?_ ?_
   all_goals
    refine lX h5 h6 h7 hx hy hP (C1 (a:=x.1) (b:=y.1) (k:=2^32) Oz Oz Oz) ?_;refine lX h5 h6 h7 hx hy hP (Lx (a:=x.1+y.1) Oz) ?_;refine Sz5 h5 h6 h7 hx hy ?_;refine Qa (fun hz=>?_) (fun hz=>?_)
    ·rw[if_neg (fun h=>hz (lg.2 h))]at jN;refine Sz5 h5 h6 h7 hx hy ?_;rw[Qv (f:=PV.term) (y:=(x.1+y.1,x.2)) (xs:=out) (ty':=171) (fz:=false) (Tz1 hh) a9 Oz rfl Oz Oz];refine Sz5 h5 h6 h7 hx hy ?_;refine Qh ((p.length-(i+1))+(q.length-(k+1))) Oz ⟨i+1,k+1,out++[(x.1+y.1,x.2)],rfl,by omega,by omega,by simp;omega,by simpa using jN,?_⟩;refine Sz3 h5 h6 h7 ?_;simp
    ·rw[if_pos (lg.1 (Decidable.not_not.1 hz))]at jN;refine Sz5 h5 h6 h7 hx hy ?_;refine Qh ((p.length-(i+1))+(q.length-(k+1))) Oz ⟨i+1,k+1,out,rfl,by omega,by omega,by omega,jN,?_⟩;exact Tz4 h5 h6 h7 hh
  ·rw[Kat (show q.length<=k by omega),nf,Kax aE]at jN;have jN:out++p[i]::Qu (p.drop (i+1)) (q.drop k)=Qu p q:=by rw[Kat (show q.length<=k by omega),nf];exact jN
   generalize hx:p[i]=x at *
   refine Sz4 h5 h6 h7 hx ?_;rw[Qv (f:=PV.term) (y:=x) (xs:=out) (ty':=171) (fz:=false) (Tz1 hh) a9 Oz rfl Oz Oz];refine Sz4 h5 h6 h7 hx ?_;refine Qh ((p.length-(i+1))+(q.length-k)) Oz ⟨i+1,k,out++[x],rfl,by omega,hk,by simp;omega,by simpa using jN,?_⟩;refine Sz3 h5 h6 h7 ?_;simp
 ·have aE:i=p.length:=by omega
  refine Sz3 h5 h6 h7 ?_;refine Qa (fun jh=>?_) (fun jh=>?_)
  ·have cG:k<q.length:=by omega
   rw[Kat (show p.length<=i by omega),wu,Kax cG]at jN;have jN:out++q[k]::Qu (p.drop i) (q.drop (k+1))=Qu p q:=by rw[Kat (show p.length<=i by omega),wu];exact jN
   generalize hy:q[k]=y at *
   refine Sz4 h5 h6 h7 hy ?_;refine Qa (fun _=>?_) (fun h=>by omega);refine Sz4 h5 h6 h7 hy ?_;rw[Qv (f:=PV.term) (y:=y) (xs:=out) (ty':=171) (fz:=false) (Tz1 hh) a9 Oz rfl Oz Oz];refine Sz4 h5 h6 h7 hy ?_;refine Qh ((p.length-i)+(q.length-(k+1))) Oz ⟨i,k+1,out++[y],rfl,by omega,by omega,by simp;omega,by simpa using jN,?_⟩;refine Sz3 h5 h6 h7 ?_;simp
  ·rw[Kat (show p.length<=i by omega),wu,Kat (show q.length<=k by omega),Kak]at jN;refine Vz4 h5 h6 h7 hh ?_;exact Qc (by rw[Kah (by simp),jN]) rfl
theorem afw{k l:Nat}{a b:List Int}(ha:MB k a)(hb:MB l b)(h1:a.getLast? ≠some 0)(h2:b.getLast? ≠some 0):pI (· + ·) a b=ek a b:=by
 rw[ek,PR];rw[Kbq,v5];intro h;obtain⟨hl,hv⟩:=Kaf.1 h;rw[<-nq hl,Rp (by simp)]at hv;rw[v5]at hl;have p1:=(ha.eN (max a.length b.length-1)).1;have p2:=(hb.eN (max a.length b.length-1)).1;by_cases hc:b.length<=a.length
 ·apply h1;have e:max a.length b.length-1=a.length-1:=by omega
  rw[e]at hv p1 p2;rw[Kbq,Kad Oz,<-nq Oz];congr 1;omega
 ·apply h2;have e:max a.length b.length-1=b.length-1:=by omega
  rw[e]at hv p1 p2;rw[Kbq,Kad Oz,<-nq Oz];congr 1;omega
theorem Qzy{p:List Tm}{t:Tm}{K E:Nat}(hp:PB K E p)(ht:TB K E t)(qf:NZ p)(ht0:t.1≠0)(hK:K<=2^33)(hE:E<=2^38)(tU:p.length<=2^36):
  AC 109 [PV.ay p,PV.term t] (· =PV.ay (cH p t)):=by
 refine aw Qf func109 ajx fun C hP=>?_;refine Sz0 ?_;refine jt 5 900 4 171 Oz Tz0 ?_;refine Qm okB [(5,32)] [31,32,900] (fun n J hp=>∃i,n=p.length-i/\i<=p.length/\J 5= .ms 900 (cH (p.take i) t).length/\J 6= .int .i64 (i:Nat)/\hp 3=some ⟨4,171,[PV.term t],false⟩/\hp 900=some ⟨4,171,(cH (p.take i) t).map PV.term,false⟩) p.length ?_ ?_
 ·refine⟨0,rfl,by omega,?_⟩;refine Sz0 ?_;simp[cH]
 rintro _ J h ⟨i,rfl,hi,h5,h6,cW,hh⟩;refine Sz2 h5 h6 ?_;refine Qa (fun hg=>?_) (fun hg=>?_)
 ·have aE:i<p.length:=by omega
  have fu:=hp.get aE;have cO:=Uo (t:=t) aE;have hlen:=zX (p.take i) t;rw[KaB]at hlen;have c1:=fu.c;have c2:=ht.c;have jk:=qf _ (Kag aE);generalize hx:p[i]=x at *
  have hzz:=afw fu.m ht.m fu.l ht.l;rw[if_neg (fun h=>by rcases Rat.mul_eq_zero.1 h with h|h<;>contradiction)]at cO;refine jF h5 h6 cW hx hP (pj (a:=x.1) (b:=t.1) (k:=2^33) Oz Oz Oz) ?_;refine jF h5 h6 cW hx hP (Q4q fu.m ht.m Oz) ?_;rw[hzz];refine Sz4 h5 h6 cW hx ?_;rw[Qv (f:=PV.term) (y:=(x.1*t.1,ek x.2 t.2)) (xs:=cH (p.take i) t) (ty':=171) (fz:=false) (Tz1 hh) a9 Oz rfl Oz Oz];rw[<-cO];refine Sz4 h5 h6 cW hx ?_;refine Qh (p.length-(i+1)) Oz ⟨i+1,rfl,by omega,?_⟩;rw[cO];simp+decide (disch:=first|omega|rfl|(simp+decide only[go_sem,h5,h6,cW,Kap]<;>rfl)|fail) only[go_sem,h5,h6,cW,Kap]
 ·obtain rfl:i=p.length:=by omega
  rw[Kba]at h5 hh;refine DM h5 hh ?_;exact Qc (by simp[Kah]) rfl
theorem Q8n{p q:List Tm}{i:Nat}(h:i<q.length):qC p (q.take (i+1))=Qu (qC p (q.take i)) (cH p q[i]):=by rw[Kar h,qC,List.foldl_append,qC];rfl
theorem Ut{K E:Nat}{p:List Tm}(hp:PB K E p):∀(q out:List Tm)(L:Nat),PB K E q->PB L (E+E) out->PB (q.length*(K+K)+L) (E+E) (q.foldl (fun out t=>Qu out (cH p t)) out)/\(q.foldl (fun out t=>Qu out (cH p t)) out).length<=q.length*p.length+out.length
 | [],out,L,_,ho=>⟨by simpa using ho,by simp⟩
 |t::q,out,L,hq,ho=>by obtain⟨h1,h2⟩:=Ut hp q (Qu out (cH p t)) (L+(K+K)) (PB.cons.1 hq).2 (HY _ _ ho (Ad hp (PB.cons.1 hq).1));have h3:=KU out (cH p t);have h4:=zX p t;refine⟨h1.mono (by rw[Kaz,KaM];omega) (Kae _),KaQ h2 ?_⟩;rw[Kaz,KaM];omega
theorem ahX{K E:Nat}{p q:List Tm}(hp:PB K E p)(hq:PB K E q):PB (q.length*(K+K)) (E+E) (qC p q)/\(qC p q).length<=q.length*p.length:=by have:=Ut hp q [] 0 hq (PB.nil _ _);simpa[qC]using this
theorem Q4s{p q:List Tm}{K E:Nat}(hp:PB K E p)(hq:PB K E q)(hnp:NZ p)(Fh:NZ q)(hE:E<=2^37)(tU:p.length<=2^30)(NK:q.length<=2^30)(hlm:q.length*p.length<=2^36)(hK:q.length*(K+K)+(K+K)<=2^32):
  AC 75 [PV.ay p,PV.ay q] (· =PV.ay (qC p q)):=by
 refine aw Qf func75 am4 fun C hP=>?_;refine Sz0 ?_;refine De 5 4 Tz0 ?_;refine Qm okB [(5,20)] [] (fun n J hp=>∃i,n=q.length-i/\i<=q.length/\J 5=PV.ay (qC p (q.take i))/\J 6= .int .i64 (i:Nat)) q.length ?_ ?_
 ·refine⟨0,rfl,by omega,?_⟩;refine Sz0 ?_;simp[qC]
 rintro _ J h ⟨i,rfl,hi,h5,h6⟩;refine Sz2 h5 h6 ?_;refine Qa (fun hg=>?_) (fun hg=>?_)
 ·have aE:i<q.length:=by omega
  have Ft:=hq.get aE;have cO:=Q8n (p:=p) aE;have jk:=Fh _ (Kag aE);obtain⟨bw,cN⟩:=ahX hp (hq.take i);have lG:=Ad hp Ft;have ao:=zX p q[i];generalize hx:q[i]=x at *
  have e1:(q.take i).length=i:=by rw[KaB];omega
  rw[e1]at bw cN;have e2:i*(K+K)<=q.length*(K+K):=Kam _ hi;have e3:i*p.length<=q.length*p.length:=Kam _ hi;refine eF h5 h6 hx hP (Qzy (t:=x) hp Ft hnp jk Oz Oz Oz) ?_;refine eF h5 h6 hx hP (KR (K:=q.length*(K+K)+(K+K)) (E:=E+E) (bw.mono Oz Oz) (lG.mono Oz Oz) hK Oz Oz Oz) ?_;refine Sz3 h5 h6 hx ?_;refine Qh (q.length-(i+1)) Oz ⟨i+1,rfl,by omega,?_⟩;rw[cO];exact Tz0
 ·obtain rfl:i=q.length:=by omega
  rw[Kba]at h5;refine Sz1 h5 ?_;exact Qc rfl rfl
theorem TR{p:List Tm}{a:Rat}{K E:Nat}(hp:PB K E p)(qf:NZ p)(ha:rs a+1<=K)(hK:K<=2^33)(hE:E<=2^38)(tU:p.length<=2^36):
  AC 81 [PV.ay p,PV.rat a] (· =PV.ay (kB p a)):=by
 refine aw Qf func81 am6 fun C hP=>?_;refine Sz0 ?_;refine jt 5 900 4 171 Oz Tz0 ?_;refine Qm okB [(5,33)] [32,33,900] (fun n J hp=>∃i,n=p.length-i/\i<=p.length/\J 5= .ms 900 (cH (p.take i) (a,[])).length/\J 6= .int .i64 (i:Nat)/\hp 3=some ⟨3,57,[PV.rat a],false⟩/\hp 900=some ⟨4,171,(cH (p.take i) (a,[])).map PV.term,false⟩) p.length ?_ ?_
 ·refine⟨0,rfl,by omega,?_⟩;refine Sz0 ?_;simp[cH]
 rintro _ J h ⟨i,rfl,hi,h5,h6,cW,hh⟩;refine Sz2 h5 h6 ?_;refine ic (fun hg=>?_) (fun hg=>?_)
 ·have aE:i<p.length:=by omega
  have fu:=hp.get aE;have cO:=Uo (t:=(a,[])) aE;have hlen:=zX (p.take i) (a,[]);rw[KaB]at hlen;have c1:=fu.c;have jk:=qf _ (Kag aE);generalize hx:p[i]=x at *
  refine jF h5 h6 cW hx hP (Lx (a:=a) Oz) ?_;refine Sz4 h5 h6 cW hx ?_;refine Qa (fun hz=>?_) (fun hz=>?_)
  ·rw[if_neg (fun h=>by rcases Rat.mul_eq_zero.1 h with h|h;exact jk h;exact hz (lg.2 h)),LQ fu.l]at cO;refine jF h5 h6 cW hx hP (pj (a:=x.1) (b:=a) (k:=2^33) Oz Oz Oz) ?_;refine Sz4 h5 h6 cW hx ?_;rw[Qv (f:=PV.term) (y:=(x.1*a,x.2)) (xs:=cH (p.take i) (a,[])) (ty':=171) (fz:=false) (Tz1 hh) a9 Oz rfl Oz Oz];rw[<-cO];refine Sz4 h5 h6 cW hx ?_;refine Qh (p.length-(i+1)) Oz ⟨i+1,rfl,by omega,?_⟩;rw[cO];simp+decide (disch:=first|omega|rfl|(simp+decide only[go_sem,h5,h6,cW,Kap]<;>rfl)|fail) only[go_sem,h5,h6,cW,Kap]
  ·have sg:=lg.1 (Decidable.not_not.1 hz);have e0:∀l:List Tm,cH l (a,[])=[]:=fun l=>by rw[sg];simp[cH]
   refine IB h5 hh cW ?_;refine Qc ?_ rfl;rw[e0,kB,if_pos sg];rfl
 ·obtain rfl:i=p.length:=by omega
  rw[Kba]at h5 hh;refine IB h5 hh cW ?_;refine Qc ?_ rfl;rw[Kah (by simp),kB];split
  ·rename_i sg;rw[sg];simp[cH]
  ·rfl
theorem Q4t{p:List Tm}{K E:Nat}(hp:PB K E p)(qf:NZ p)(Xw:2<=K)(hK:K<=2^33)(hE:E<=2^38)(tU:p.length<=2^36):AC 91 [PV.ay p] (· =PV.ay (wP p)):=by have h1:=Iy;refine aw Qf func91 am5 fun C hP=>?_;refine aq hP (Ab (x:= -1) Oz Oz) ?_;refine aq hP (TR (a:=((-1:Int):Rat)) hp qf (by have:((-1:Int):Rat)= -1:=rfl;rw[this];omega) hK hE tU) ?_;refine Sz0 ?_;exact Qc rfl rfl
theorem Uu{p q:List Tm}{K E:Nat}(hp:PB K E p)(hq:PB K E q)(qf:NZ q)(Xw:2<=K)(hK:K<=2^31)(hE:E<=2^38)(tU:p.length<=2^36)(NK:q.length<=2^36):AC 50 [PV.ay p,PV.ay q] (· =PV.ay (bF p q)):=by have hl:=TL q (-1);refine aw Qf func50 am7 fun C hP=>?_;refine aq hP (Q4t hq qf Xw Oz hE NK) ?_;refine aq hP (KR (hp.mono (K':=K+2) Oz (Kae _)) (aiQ hq) Oz hE tU (by show(kB q (-1)).length<=_;omega)) ?_;refine Sz0 ?_;exact Qc rfl rfl
theorem Uv{p:List Tm}{n:Bool}{a d:List Nat}{m:List Int}{K E k:Nat}(hp:PB K E p)(hs:jQ p)(qf:NZ p)(hr:Raw k n a d)(hk:k<=2^32)(hm:MB E m)(hl:m.getLast? ≠some 0)(hK:K<=2^32)(hE:E<=2^38)(tU:p.length<=2^36):
  AC 92 [PV.ay p,PV.rr n a d,PV.mono m] (· =PV.ay (rL p (rv n a d) m)):=by
 have hrr:=hr.rs;refine aw Qf func92 am8 fun C hP=>?_;refine Sz0 ?_;refine Qm okB [(7,7),(12,26)] [] (fun k J hp=>k<=p.length/\(∀t∈p.drop k,cz t.2 m<0)/\J 7= .int .i64 (k:Nat)/\hp 4=some ⟨3,57,[PV.rr n a d],false⟩) p.length ?_ ?_
 ·refine⟨by omega,by simp,?_⟩;exact Tz0
 rintro j J h ⟨hj,hd,h7,ew⟩;refine Sz1 h7 ?_;refine ic (fun hg=>?_) (fun hg=>?_)
 ·obtain⟨i,rfl⟩:∃i,j=i+1:=⟨j-1,by omega⟩
  have e:((i+1:Nat):Int)-1=i:=by omega
  have hi:i<p.length:=by omega
  have fu:=hp.get hi;have xt:p.drop i=p[i]::p.drop (i+1):=Kax hi;have cO:p.take (i+1)=p.take i++[p[i]]:=Kar hi;have mU:=Q2d hs hi;have bC:p=p.take i++p[i]::p.drop (i+1):=by rw[<-xt,Kbk]
  have c1:=fu.c;generalize hx:p[i]=x at *
  refine eF h7 e hx hP (Kk fu.m hm Oz) ?_;refine Sz3 h7 e hx ?_;refine Qa (fun hc=>?_) (fun hc=>?_)
  ·refine Sz3 h7 e hx ?_;refine Qh i Oz ⟨by omega,?_,?_⟩
   ·rw[xt];intro t ht;rcases KaH.1 ht with rfl|ht
    ·exact hc
    ·exact hd t ht
   ·exact Tz1 ew
  ·refine Sz3 h7 e hx ?_;refine ic (fun _=>?_) (fun h=>by omega);refine eF h7 e hx hP (Kk fu.m hm Oz) ?_;refine Sz3 h7 e hx ?_;refine Qa (fun jJ=>?_) (fun jJ=>?_)
   ·have oU:x.2=m:=(Ro fu.l hl).1 jJ;have bR:=qf _ (Kag hi);rw[hx]at bR;have dS:rL p (rv n a d) m=p.take i++(if x.1+rv n a d=0 then []else [(x.1+rv n a d,m)])++p.drop (i+1):=by
     have XJ:p=p.take i++(x.1,m)::p.drop (i+1):=by rw[<-oU];exact bC
     rw[rL];split
     ·rename_i h0;have e0:x.1+0=x.1:=Rat.add_zero _;rw[h0,nf,e0,if_neg bR];simpa using XJ
     ·conv=>lhs;rw[XJ]
      exact Ry (fun t ht=>by rw[<-oU];exact mU t ht)
    have mT:(p.take i).length<=p.length:=List.length_take_le' _ _;have fW:(p.drop (i+1)).length<=p.length:=by rw[KbK];omega
    have Fk:=pw x.1 (rv n a d);have hxr:=kC (q:=x.1) (k:=2^32) Oz;have bD:=Us (k:=2^32) hxr (show Raw (2^32) n a d from⟨hr.la,hr.ld,by have:=hr.sa;omega,by have:=hr.sd;omega,by omega⟩) Oz;rw[kG]at bD;refine Sz4 h7 e hx ew ?_;refine eW ?_ ?_
    all_goals
     refine jF h7 e hx ew hP bD ?_;refine jF h7 e hx ew hP (Lx (a:=x.1+rv n a d) Oz) ?_;refine Sz4 h7 e hx ew ?_;refine Qa (fun hz=>?_) (fun hz=>?_)
     ·rw[if_neg (fun h=>hz (lg.2 h))]at dS;refine Sz4 h7 e hx ew ?_;rw[Qv (f:=PV.term) (y:=(x.1+rv n a d,m)) (xs:=p.take i) (ty':=171) (fz:=false) Tz0 a9 Oz rfl Oz Oz];refine Sz4 h7 e hx ew ?_;rw[ob (f:=PV.term) (xs:=p.take i++[(x.1+rv n a d,m)]) (ys:=p.drop (i+1)) Tz0 (by simp<;>omega) Oz Oz Oz];refine aY ?_;refine Qc ?_ rfl;rw[Kah (by simp<;>omega),dS]
     ·rw[if_pos (lg.1 (Decidable.not_not.1 hz)),Kak]at dS;refine Sz4 h7 e hx ew ?_;rw[ob (f:=PV.term) (xs:=p.take i) (ys:=p.drop (i+1)) Tz0 (by simp<;>omega) Oz Oz Oz];refine aY ?_;refine Qc ?_ rfl;rw[Kah (by simp<;>omega),dS]
   ·have qO:Qu p [(rv n a d,m)]=p.take (i+1)++(rv n a d,m)::p.drop (i+1):=by
     have:=Mj (m:=m) (c:=rv n a d) (u:=p.take (i+1)) (v:=p.drop (i+1)) (fun t ht=>by
      rw[cO]at ht;rcases KaS.1 ht with ht|ht
      ·exact Cm (mU t ht) Oz
      ·simp only[Kay]at ht;subst ht;omega) hd
     rwa[Kbk]at this
    have mT:(p.take (i+1)).length<=p.length:=List.length_take_le' _ _;have fW:(p.drop (i+1)).length<=p.length:=by rw[KbK];omega
    refine cR h7 ew hP (GU hr Oz) ?_;refine Sz2 h7 ew ?_;refine Qa (fun hz=>?_) (fun hz=>?_)
    ·have vQ:¬rv n a d=0:=fun h=>hz (lg.2 h);refine cR h7 ew hP (xR hr Oz) ?_;refine Sz2 h7 ew ?_;rw[Qv (f:=PV.term) (y:=(rv n a d,m)) (xs:=p.take (i+1)) (ty':=171) (fz:=false) Tz0 a9 Oz rfl Oz Oz];refine Sz2 h7 ew ?_;rw[ob (f:=PV.term) (xs:=p.take (i+1)++[(rv n a d,m)]) (ys:=p.drop (i+1)) Tz0 (by simp<;>omega) Oz Oz Oz];refine aY ?_;refine Qc ?_ rfl;rw[Kah (by simp<;>omega),rL,if_neg vQ,qO];simp
    ·have vQ:rv n a d=0:=lg.1 (Decidable.not_not.1 hz);refine Sz2 h7 ew ?_;rw[ob (f:=PV.term) (xs:=p.take (i+1)) (ys:=p.drop (i+1)) Tz0 (by simp<;>omega) Oz Oz Oz];refine aY ?_;refine Qc ?_ rfl;rw[Kah (by simp<;>omega),rL,if_pos vQ,nf,Kbk]
 ·obtain rfl:j=0:=by omega
  have qO:Qu p [(rv n a d,m)]=[]++(rv n a d,m)::p:=Mj (m:=m) (c:=rv n a d) (u:=[]) (v:=p) (by simp) (by simpa using hd);refine Sz1 h7 ?_;rw[Q4a Oz];refine cR h7 ew hP (GU hr Oz) ?_;refine Sz2 h7 ew ?_;refine Qa (fun hz=>?_) (fun hz=>?_)
  ·have vQ:¬rv n a d=0:=fun h=>hz (lg.2 h);refine cR h7 ew hP (xR hr Oz) ?_;refine Sz2 h7 ew ?_;rw[Qv (f:=PV.term) (y:=(rv n a d,m)) (xs:=([]:List Tm)) (ty':=171) (fz:=false) Tz0 a9 Oz (n:=0) rfl Oz Oz];refine Sz2 h7 ew ?_;rw[ob (f:=PV.term) (xs:=([]:List Tm)++[(rv n a d,m)]) (ys:=p) Tz0 (by simp<;>omega) Oz Oz Oz];refine aY ?_;refine Qc ?_ rfl;rw[Kah (by simp<;>omega),rL,if_neg vQ,qO];simp
  ·have vQ:rv n a d=0:=lg.1 (Decidable.not_not.1 hz);refine Sz2 h7 ew ?_;rw[ob (f:=PV.term) (xs:=([]:List Tm)) (ys:=p) Tz0 (by simp<;>omega) Oz Oz Oz];refine aY ?_;refine Qc ?_ rfl;rw[Kah (by simp<;>omega),rL,if_pos vQ,nf]
theorem KL{n:Bool}{a d:List Nat}{k:Nat}(hr:Raw k n a d)(hk:k<=2^32):AC 51 [PV.rr n a d] (· =PV.ay (dz (rv n a d))):=by
 have bD:=(Uv (p:=[]) (m:=[]) (K:=1) (E:=1) (PB.nil _ _) trivial (by simp[NZ]) hr hk ⟨by simp,by simp,by simp⟩ (by simp) Oz Oz (by simp)).le (args':=[.ab,PV.rr n a d,.ab]) ⟨trivial,Qe _,trivial,trivial⟩;have e:rL [] (rv n a d) []=dz (rv n a d):=by rw[rL,wu];rfl
 rw[e]at bD;refine aw Qf func51 am2 fun C hP=>?_;refine aq hP bD ?_;refine Sz0 ?_;exact Qc rfl rfl
theorem Q8o{a:Rat}{k:Nat}(h:rs a<=k)(hk:k<=2^32):AC 51 [PV.rat a] (· =PV.ay (dz a)):=by
 have:=KL (kC h) hk
 rwa[kG]at this
end Go.Proofs.YtmkijkjaeljieaaGreat
namespace Go.FW
open Go
theorem Q8p(x y:Int)(hy:y≠0):mkRat (zv (decide (x<0) !=decide (y<0)) (ak x.natAbs)) y.natAbs=(x:Rat)/(y:Rat):=by
 rw[Rat.mkRat_eq_div,uQ,<-Rat.intCast_natCast];have h3:(y:Rat)≠0:=by rw[Ne,Kcf];exact hy
 by_cases dG:y<0
 ·have e2:(((y.natAbs:Nat):Int):Rat)= -(y:Rat):=by rw[<-Rat.intCast_neg];congr 1;omega
  have e1:(if(decide (x<0) !=decide (y<0))=true then -(x.natAbs:Int)else x.natAbs)= -x:=by by_cases hx:x<0<;>simp[hx,dG]<;>omega
  rw[e1,e2,Rat.intCast_neg];grind
 ·have e2:(((y.natAbs:Nat):Int):Rat)=(y:Rat):=by congr 1;omega
  have e1:(if(decide (x<0) !=decide (y<0))=true then -(x.natAbs:Int)else x.natAbs)=x:=by by_cases hx:x<0<;>simp[hx,dG]<;>omega
  rw[e1,e2]
end Go.FW
