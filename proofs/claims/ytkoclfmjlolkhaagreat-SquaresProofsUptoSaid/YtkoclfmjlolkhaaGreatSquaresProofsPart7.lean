/- Part 7 of the proof of SquaresProofs: Q1, Q2, W1, W2, W3, W4, W5, W6, A1, A2, FwNH. Own lemmas; no conditions. -/
import Derived.Test.YtkoclfmjlolkhaaGreatSquaresProofsPart6
set_option maxHeartbeats 1000000
set_option linter.unusedSimpArgs false
set_option linter.unusedVariables false
set_option linter.unnecessarySimpa false
set_option maxRecDepth 100000
namespace Go.Proofs.YtkoclfmjlolkhaaGreat
open Go Go.FW
structure qT(k:Nat)(s:de):Prop where
 r:Raw k s.n s.a s.d
 p:∀t∈s.p,RB k t
 l:s.p.length<2^40
theorem ad0{p:List a9}{k:Nat}(hb:∀t∈p,RB k t)(h:tF p=true)(cb:dk p=true):PB 3 1048576 (p.map a9.tm)/\bC (p.map a9.tm):=by
 obtain⟨e1,e2⟩:=Eo hb cb
 simp only[tF,Kar,decide_eq_true_eq,Kas]at h
 refine⟨fun t ht=> ?_,e2.rM⟩
 have hv:=e2.t _ ht
 obtain⟨x,hx,rfl⟩:=Kau.1 ht
 have hs:=h.2 x hx
 simp only[rJ,uI,Kar,decide_eq_true_eq]at hs
 have hr:=(show Raw 2 x.n x.a x.d from⟨(hb x hx).r.1,(hb x hx).r.2.1,hs.2.1,hs.2.2,by omega⟩).rs
 have hm:=MB.sY hv.m
 refine⟨?_,hm,yG hv.m⟩
 show rs (rv x.n x.a x.d)+1<=3
 omega
theorem P7{s:de}{k:Nat}(hb:qT k s)(h:oV s=true)(h0:nv s=0):PV.jN s=PV.sq s.sq/\zN s.sq/\0<s.sq.1:=by
 unfold nv at h0
 split at h0
 ·rename_i h1
  split at h0
  ·rename_i h2
   split at h0
   ·rename_i h3
    simp only[oV,Kar,decide_eq_true_eq]at h
    obtain⟨g1,g2,g3⟩:=h
    obtain⟨e1,e2⟩:=Eo hb.p h2
    obtain⟨p1,p2⟩:=ad0 hb.p g3 h2
    simp only[uI,Kar,decide_eq_true_eq]at g1
    have hr:=(show Raw 2 s.n s.a s.d from⟨hb.r.la,hb.r.ld,g1.1,g1.2,by omega⟩).rs
    have he:=QQ hb.r.la hb.r.ld h1
    refine⟨?_,⟨by show rs (rv s.n s.a s.d)+1<=3;omega,p1,by show(s.p.map a9.tm).length<=6;simpa using g2,p2⟩,h3⟩
    injection he with he
    injection he with e3 he
    injection he with e4 he
    injection he with e5 he
    show PV.agg [.bool s.n,PV.nat s.a,PV.nat s.d,PV.lG s.p]=PV.agg [.bool (decide ((rv s.n s.a s.d).num<0)),PV.num (rv s.n s.a s.d).num.natAbs,PV.num (rv s.n s.a s.d).den,PV.aM (s.p.map a9.tm)]
    rw[e3,e4,e5,e1]
   ·cases h0
  ·cases h0
 ·cases h0
theorem MN{n:Bool}{a d:List Nat}{k:Nat}(hr:Raw k n a d)(hk:k<2^36):Qd Tryz.prog 34 [PV.rr n a d] (· = .bool (uI a d)):=by
 have h1:=hr.sa
 have h2:=hr.sd
 refine aE Qg Tryz.func34 ajU fun C hP=> ?_
 refine Sz0 ?_
 refine fV (fun h=> ?_) (fun h=> ?_)
 ·refine Sz0 ?_
  exact Qc (congrArg PV.bool (by rw[uI,decide_eq_true (show a.length<=2 by omega),Kco];exact decide_eq_decide.2 ⟨fun h=>by omega,fun h=>by omega⟩)) rfl
 ·refine Sz0 ?_
  exact Qc (by rw[uI,decide_eq_false (show ¬a.length<=2 by omega),Bool.false_and]) rfl
theorem ab1{p:List a9}{k:Nat}(hb:∀t∈p,RB k t)(dT:1<=k)(hk:k<2^36)(hl:p.length<2^40):Qd Tryz.prog 18 [PV.lG p] (· = .bool (tF p)):=by
 refine aE Qg Tryz.func18 ajV fun C hP=> ?_
 refine Sz0 ?_
 refine Qa (fun hn=> ?_) (fun hn=> ?_)
 ·refine Sz0 ?_
  exact Qc (by simp[tF,show ¬p.length<=20 by omega]) rfl
 have lk:p.length<=20:=by omega
 refine Sz0 ?_
 refine Ql okB [(2,3),(7,28)] [] (fun m J hp=>∃i,m=p.length-i/\i<=p.length/\(∀j (h:j<p.length),j<i->rJ p[j]=true)/\J 3= .int .i64 (i:Nat)) p.length ?_ ?_
 ·refine⟨0,rfl,by omega,by omega,?_⟩
  refine Sz0 ?_
  rfl
 rintro _ J h ⟨i,rfl,hi,h1,h3⟩
 refine Sz1 h3 ?_
 refine Qa (fun hg=> ?_) (fun hg=> ?_)
 ·have ao:i<p.length:=by omega
  have dv:=hb _ (Kai ao)
  have dn:=Kai ao
  have o9:rJ p[i]=false->tF p=false:=fun h=>by
   have:p.all rJ=false:=by
    rw[Kca];exact⟨_,dn,by simp[h]⟩
   simp[tF,this]
  have fj:rJ p[i]=true->∀j (h:j<p.length),j<i+1->rJ p[j]=true:=fun h j hj im=>by
   by_cases e:j=i
   ·subst e;exact h
   ·exact h1 j hj Oz
  have pk:=dv.l
  generalize hx:p[i]=x at *
  have CR:=MN (RB.raw dv dT) hk
  refine Sz2 h3 hx ?_
  refine Qx (fun h4=> ?_) (fun h4=> ?_)
  ·refine Sz1 h3 ?_
   exact Qc (by rw[o9 (by simp[rJ,show ¬x.m.length<=70 by omega])]) rfl
  refine Sz2 h3 hx ?_
  refine Qb hP CR ?_
  cases hs:uI x.a x.d
  ·refine Sz1 h3 ?_
   exact Qc (by rw[o9 (by simp[rJ,hs])]) rfl
  ·refine Sz1 h3 ?_
   refine Qf (p.length-(i+1)) Oz ⟨i+1,rfl,by omega,fj (by rw[rJ,hs,decide_eq_true Oz];rfl),?_⟩
   exact Tz0
 ·obtain rfl:i=p.length:=by omega
  refine Sz0 ?_
  refine Qc ?_ rfl
  have:p.all rJ=true:=by
   rw[Kas]
   intro t ht
   obtain⟨j,hj,rfl⟩:=KaT ht
   exact h1 j hj hj
  simp[tF,this,lk]
theorem agS{l:List de}{k:Nat}(hb:∀s∈l,qT k s)(dT:1<=k)(hk:k<2^36)(hl:l.length<2^40):Qd Tryz.prog 33 [.sl 4 (l.map PV.jN)] (· = .bool (qa l)):=by
 refine aE Qg Tryz.func33 ajW fun C hP=> ?_
 refine Sz0 ?_
 refine Qa (fun hn=> ?_) (fun hn=> ?_)
 ·refine Sz0 ?_
  exact Qc (by simp[qa,show ¬l.length<=5 by omega]) rfl
 have lk:l.length<=5:=by omega
 refine Sz0 ?_
 refine Ql okB [(2,3),(7,37)] [] (fun m J hp=>∃i,m=l.length-i/\i<=l.length/\(∀j (h:j<l.length),j<i->oV l[j]=true)/\J 3= .int .i64 (i:Nat)) l.length ?_ ?_
 ·refine⟨0,rfl,by omega,by omega,?_⟩
  refine Sz0 ?_
  rfl
 rintro _ J h ⟨i,rfl,hi,h1,h3⟩
 refine Sz1 h3 ?_
 refine Qa (fun hg=> ?_) (fun hg=> ?_)
 ·have ao:i<l.length:=by omega
  have dv:=hb _ (Kai ao)
  have dn:=Kai ao
  have o9:oV l[i]=false->qa l=false:=fun h=>by
   have:l.all oV=false:=by
    rw[Kca];exact⟨_,dn,by simp[h]⟩
   simp[qa,this]
  have fj:oV l[i]=true->∀j (h:j<l.length),j<i+1->oV l[j]=true:=fun h j hj im=>by
   by_cases e:j=i
   ·subst e;exact h
   ·exact h1 j hj Oz
  have bx:=dv.l
  generalize hx:l[i]=x at *
  have CR:=MN dv.r hk
  have hli:=ab1 dv.p dT hk dv.l
  refine Sz2 h3 hx ?_
  refine Qb hP CR ?_
  cases hs:uI x.a x.d
  ·refine Sz1 h3 ?_
   exact Qc (by rw[o9 (by simp[oV,hs])]) rfl
  refine Sz2 h3 hx ?_
  refine Qx (fun h4=> ?_) (fun h4=> ?_)
  ·refine Sz1 h3 ?_
   exact Qc (by rw[o9 (by simp[oV,show ¬x.p.length<=6 by omega])]) rfl
  refine Sz2 h3 hx ?_
  refine Qb hP hli ?_
  cases cR:tF x.p
  ·refine Sz1 h3 ?_
   exact Qc (by rw[o9 (by simp[oV,cR])]) rfl
  ·refine Sz1 h3 ?_
   refine Qf (l.length-(i+1)) Oz ⟨i+1,rfl,by omega,fj (by rw[oV,hs,cR,decide_eq_true Oz];rfl),?_⟩
   exact Tz0
 ·obtain rfl:i=l.length:=by omega
  refine Sz0 ?_
  refine Qc ?_ rfl
  have:l.all oV=true:=by
   rw[Kas]
   intro t ht
   obtain⟨j,hj,rfl⟩:=KaT ht
   exact h1 j hj hj
  simp[qa,this,lk]
theorem ad1{s:de}{k:Nat}(hb:qT k s)(dT:1<=k)(hk:k<2^36):Qd Tryz.prog 99 [PV.jN s] (· = .int .i64 (nv s)):=by
 have h1:=H8 hb.r hk
 have h2:=DQ hb.p dT hk hb.l
 have h3:=AD hb.r hk
 obtain⟨n,a,d,p⟩:=s
 simp only at h1 h2 h3
 refine aE Qg Tryz.func99 ajX fun C hP=> ?_
 refine Sz0 ?_
 refine Qb hP h1 ?_
 cases e1:kj n a d
 ·refine Sz0 ?_
  exact Qc (by simp[nv,e1]) rfl
 refine Sz0 ?_
 refine Qb hP h2 ?_
 cases e2:dk p
 ·refine Sz0 ?_
  exact Qc (by simp[nv,e1,e2]) rfl
 refine Sz0 ?_
 refine Qb hP h3 ?_
 have hp:= @Jn (rv n a d)
 refine Sz0 ?_
 refine Qa (fun h=> ?_) (fun h=> ?_)
 ·refine Sz0 ?_
  exact Qc (by simp only[nv,e1,e2,if_true];rw[if_neg (fun g=>by have:=hp.2 g;omega)]) rfl
 ·refine Sz0 ?_
  exact Qc (by simp only[nv,e1,e2,if_true];rw[if_pos (hp.1 Oz)]) rfl
theorem ZN(x:Int):Qd Tryz.prog 211 [.int .i64 x] (· = .bool (decide (1048576<x))):=by
 refine aE Qg Tryz.func211 agp fun C hP=> ?_
 refine Sz0 ?_
 exact Qc rfl rfl
theorem ab2{t:Tm}(h:t.2.length<=2^36):Qd Tryz.prog 209 [PV.term t] (· = .bool (t.2.any fun x=>decide (1048576<x))):=by
 refine aE Qg Tryz.func209 ago fun C hP=> ?_
 refine Sz0 ?_
 refine Qb hP (Qtf (fun x _=>ZN x) h) ?_
 refine Sz0 ?_
 exact Qc rfl rfl
theorem ad2{p:List Tm}{E:Nat}(hp:∀t∈p,MB E t.2)(dm:p.length<=2^36):Qd Tryz.prog 171 [PV.aM p] (· = .bool (rZ p)):=by
 refine aE Qg Tryz.func171 agn fun C hP=> ?_
 refine Sz0 ?_
 refine Qx (fun h=> ?_) (fun h=> ?_)
 ·refine Sz0 ?_
  exact Qc (congrArg PV.bool (by rw[rZ,decide_eq_true Oz,Bool.true_or])) rfl
 ·refine Sz0 ?_
  refine Qb hP (Qte (fun t ht=>ab2 (by have:=(hp t ht).len;omega)) dm) ?_
  refine Sz0 ?_
  exact Qc (congrArg PV.bool (by rw[rZ,decide_eq_false Oz,Bool.false_or])) rfl
theorem agT{K E n:Nat}{x:Sq}(h:qU K E n x)(hn:n<=1000)(hE:E<=2^30)(hK:n*(K+K)+K<=2^32):Qd Tryz.prog 101 [PV.sq x] (· = .aI [PV.aM (jx x),.int .i64 0]):=by
 have hl:=h.l
 have hw:=h.w
 have h1:=SH h.b h.b
 have h5:=KaY hl hl
 have h7:n*n<=1000*1000:=KaY hn hn
 have h6:min x.2.length x.2.length*(K+K)<=n*(K+K):=Kah _ Oz
 have c1:=aal h.b h.b Oz Oz Oz Oz Oz Oz
 have c2:=W4 (p:=fy x.2 x.2) (a:=x.1) (K:=n*(K+K)+K) (E:=E+E) (h1.1.mono Oz Oz) Oz Oz Oz Oz
 refine aE Qg Tryz.func101 agq fun C hP=> ?_
 refine Sz0 ?_
 refine Qb hP c1 ?_
 refine Sz0 ?_
 refine Qb hP c2 ?_
 refine Sz0 ?_
 exact gI (r:= .aI [PV.aM (jx x),.int .i64 0]) rfl rfl rfl (Qn _) (Qn _)
theorem PR{K E n:Nat}{l:List Sq}(h:∀x∈l,qU K E n x)(hl:l.length<=1000)(hn:n<=1000)(hE:E<=2^30)(hK:(n*(K+K)+K)*(l.length+1)<=2^32):Qd Tryz.prog 100 [.sl 4 (l.map PV.sq),.fn 101 [] []] (· =PV.s0 (zK (mN l []))):=by
 have hle:n*(K+K)+K<=(n*(K+K)+K)*(l.length+1):=Ka1 _ Oz
 have Gy:n*n*(l.length+1)<=1000*1000*1001:=KaY (KaY hn hn) Oz
 have Gv:∀i,i<=l.length+1->(n*(K+K)+K)*i<=2^32/\n*n*i<=1000*1000*1001:=fun i hi=>⟨Kao (KaA _ hi) hK,Kao (KaA _ hi) Gy⟩
 have gl:=Gv 1 Oz
 rw[KbG,KbG]at gl
 refine aE Qg Tryz.func100 ag1 fun C hP=> ?_
 refine Sz0 ?_
 refine zk 6 4 Tz0 ?_
 refine Ql okB [(4,6),(8,10),(13,31)] [8] (fun q J hp=>∃i,q=l.length-i/\i<=l.length/\mN (l.drop i) (fB (l.take i))=mN l []/\J 6=PV.aM (fB (l.take i))/\J 13= .int .i64 (i:Nat)) l.length ?_ ?_
 ·refine⟨0,rfl,by omega,rfl,?_⟩
  refine Sz0 ?_
  exact⟨rfl,rfl⟩
 rintro _ J h' ⟨i,rfl,hi,nb,h6,eB⟩
 refine Sz1 eB ?_
 refine Qa (fun hg=> ?_) (fun hg=> ?_)
 ·have ao:i<l.length:=by omega
  have cF:=h _ (Kai ao)
  obtain⟨a1,a2,a3⟩:=vb h i hi
  obtain⟨b1,b2,b3⟩:=vb h (i+1) ao
  have m1:=Gv i Oz
  have m2:=Gv (i+1) Oz
  have bA:=AL ao
  rw[Th _ ao,<-bA]at nb
  obtain⟨c1,c2,c3⟩:=FF cF
  have eT:=agT cF hn hE Oz
  have Uv:=Sw (a1.mono (K':=2^33) (E':=E+E) Oz Oz) (c1.mono (K':=2^33) (E':=E+E) Oz Oz) Oz Oz Oz Oz
  have xV:=ad2 (fun t ht=>(b1 t ht).m) Oz
  clear m1 m2 Gv Gy hle gl hK
  generalize hx:l[i]=x at *
  rw[<-bA]at Uv
  generalize fB (l.take i)=A at *
  generalize Cb:fB (l.take (i+1))=A' at *
  refine Sz2 eB hx ?_
  refine Qb hP eT ?_
  refine Sz2 eB h6 ?_
  refine Qb hP Uv ?_
  refine Sz1 eB ?_
  refine Qb hP xV ?_
  cases hp:rZ A'
  ·rw[hp,if_neg (by decide)]at nb
   refine Sz1 eB ?_
   refine Qf (l.length-(i+1)) Oz ⟨i+1,rfl,by omega,by rw[Cb];exact nb,?_⟩
   rw[Cb]
   exact Tz0
  ·rw[hp,if_pos rfl]at nb
   refine Sz0 ?_
   exact gI (r:=PV.s0 (zK (mN l []))) (by rw[<-nb];rfl) rfl rfl I' (Qn _)
 ·obtain rfl:i=l.length:=by omega
  rw[Kdb]at nb
  refine Sz1 h6 ?_
  exact gI (r:=PV.s0 (zK (mN l []))) (by rw[<-nb];rfl) rfl rfl (Qn _) (Qn _)
theorem JD{l:List de}{k:Nat}(hb:∀s∈l,qT k s)(h:qa l=true)(h0:mI l=0):PV.sl 4 (l.map PV.jN)=PV.sl 4 ((l.map de.sq).map PV.sq)/\(∀x∈l.map de.sq,zN x/\0<x.1)/\(l.map de.sq).length<=5:=by
 simp only[qa,Kar,decide_eq_true_eq,Kas]at h
 obtain⟨h1,h2⟩:=h
 have hz:=Tg h0
 refine⟨?_,fun x hx=> ?_,by rw[Kap];exact h1⟩
 ·rw[KbE]
  exact congrArg _ (KaL fun s hs=>(P7 (hb s hs) (h2 s hs) (hz s hs)).1)
 ·obtain⟨s,hs,rfl⟩:=Kau.1 hx
  exact(P7 (hb s hs) (h2 s hs) (hz s hs)).2
theorem Pd{l:List de}{k:Nat}(hb:∀s∈l,qT k s)(dT:1<=k)(hk:k<2^36)(hl5:l.length<=2^30)(lu:mI l=0->Qd Tryz.prog 100 [.sl 4 (l.map PV.jN),.fn 101 [] []] (· =PV.s0 (zK (mN (l.map de.sq) [])))):Qd Tryz.prog 36 [.sl 4 (l.map PV.jN)] (· =PV.s0 (jf l)):=by
 refine aE Qg Tryz.func36 ajY fun C hP=> ?_
 refine Sz0 ?_
 refine Ql okB [(2,3),(5,6),(9,18)] [5] (fun q J hp=>∃i,q=l.length-i/\i<=l.length/\mI (l.drop i)=mI l/\J 9= .int .i64 (i:Nat)) l.length ?_ ?_
 ·refine⟨0,rfl,by omega,rfl,?_⟩
  refine Sz0 ?_
  rfl
 rintro _ J h' ⟨i,rfl,hi,he,h9⟩
 refine Sz1 h9 ?_
 refine Qa (fun hg=> ?_) (fun hg=> ?_)
 ·have ao:i<l.length:=by omega
  have dv:=hb _ (Kai ao)
  rw[Xn ao]at he
  generalize hx:l[i]=s at *
  have hc:=ad1 dv dT hk
  generalize nv s=e at *
  refine Sz2 h9 hx ?_
  refine Qb hP hc ?_
  refine Sz1 h9 ?_
  refine Qa (fun h0=> ?_) (fun h0=> ?_)
  ·rw[if_neg Oz]at he
   refine Sz0 ?_
   exact gI (r:=PV.s0 (jf l)) (by rw[jf,<-he,if_neg Oz]) rfl rfl I' (Qn _)
  ·rw[if_pos Oz]at he
   refine Sz1 h9 ?_
   refine Qf (l.length-(i+1)) Oz ⟨i+1,rfl,by omega,he,?_⟩
   exact Tz0
 ·obtain rfl:i=l.length:=by omega
  rw[Kdb]at he
  have hs:=lu he.symm
  refine Sz0 ?_
  refine Qb hP hs ?_
  refine Sz0 ?_
  exact gI (r:=PV.s0 (jf l)) (by rw[jf,if_pos (show mI l=0 from he.symm)]) rfl rfl (Qn _) (Qn _)
theorem aki{l:List de}{k:Nat}(hb:∀s∈l,qT k s)(dT:1<=k)(hk:k<2^36)(hf:qa l=true):Qd Tryz.prog 36 [.sl 4 (l.map PV.jN)] (· =PV.s0 (jf l)):=
 Pd hb dT hk (by
  simp only[qa,Kar,decide_eq_true_eq]at hf;omega) fun h0=>by
  obtain⟨e1,e2,e3⟩:=JD hb hf h0
  rw[e1]
  exact PR (fun x hx=>(e2 x hx).1) Oz Oz Oz (Kao (KaA _ (show _<=6 by omega)) Oz)
def xl(p:List a9)(r:List Tm×Int):Int:=if r.2≠0 then r.2 else if dk p=true/\p.map a9.tm=r.1 then 0 else 17
theorem agU{l:List de}{k:Nat}(hb:∀s∈l,qT k s)(hf:qa l=true):PB 200 2097152 (jf l).1/\(jf l).1.length<=180/\bC (jf l).1:=by
 unfold jf
 split
 ·rename_i h0
  obtain⟨e1,e2,e3⟩:=JD hb hf h0
  cases hs:mN (l.map de.sq) []with
  |none=>exact⟨PB.nil _ _,by simp[zK],bC.nil⟩
  |some r=>
   have hr:r=fB (l.map de.sq):=IF hs
   obtain⟨a1,a2,a3⟩:=Pc (fun x hx=>(e2 x hx).1) _ (Kaf _)
   rw[KaH,<-hr]at a1 a2 a3
   exact⟨a1.mono Oz Oz,by show r.length<=180;omega,a3⟩
 ·exact⟨PB.nil _ _,by simp,bC.nil⟩
theorem MO{p:List a9}{l:List de}{r:List Tm×Int}{k K E:Nat}(h1:Qd Tryz.prog 36 [.sl 4 (l.map PV.jN)] (· =PV.s0 r))(hp:∀t∈p,RB k t)(bx:p.length<2^30)(dT:1<=k)(hk:k<2^36)(b1:PB K E r.1)(b2:r.1.length<=2^30)(hq:dk p=true->PB K E (p.map a9.tm))(hK:K<=2^33)(hE:E<=2^31):Qd Tryz.prog 41 [PV.lG p,.sl 4 (l.map PV.jN)] (· = .int .i64 (xl p r)):=by
 have h2:=DQ hp dT hk Oz
 unfold xl
 obtain⟨s,e⟩:=r
 simp only at b1 b2 h1
 refine aE Qg Tryz.func41 ajZ fun C hP=> ?_
 refine Sz0 ?_
 refine Qb hP h1 ?_
 refine Sz0 ?_
 refine Qa (fun h0=> ?_) (fun h0=> ?_)
 ·refine Sz0 ?_
  exact Qc (by rw[if_pos (show(s,e).2≠0 from h0)]) rfl
 rw[if_neg (show ¬(s,e).2≠0 from h0)]
 refine Sz0 ?_
 refine Qb hP h2 ?_
 cases h3:dk p
 ·refine Sz0 ?_
  exact Qc (by simp) rfl
 have q1':=hq h3
 have q0:=(Eo hp h3).1
 rw[q0]
 have hPl:(p.map a9.tm).length=p.length:=Kap _
 generalize p.map a9.tm=P at *
 have heq:=W5 q1' b1 Oz Oz Oz Oz
 refine Sz0 ?_
 refine Qb hP heq ?_
 by_cases hs:P=s
 ·subst hs
  rw[decide_eq_true rfl]
  refine Sz0 ?_
  exact Qc (by simp) rfl
 ·have eC:¬s=P:=fun h=>hs h.symm
  first|rw[decide_eq_false hs]|rw[decide_eq_false eC]
  refine Sz0 ?_
  exact Qc (by rw[if_neg hs]) rfl
theorem NJ(v:Nat)(n:Int)(h:n=((n.toNat:Nat):Int)):(List.replicate (v+1) (0:Int)).set v n=cB v n.toNat:=by
 unfold cB
 rw[<-h]
 induction v with
 |zero=>rfl
 |succ v ih=>rw[KbH,List.set_cons_succ,ih];rfl
theorem MP{x y:Int}(hx:nl x.natAbs<2^38)(hy:nl y.natAbs<2^38)(h0:y≠0):Qd Tryz.prog 187 [PV.zz x,PV.zz y] (· = .aI [PV.rat ((x:Rat)/(y:Rat)),.int .i64 0]):=by
 have hv:=Td x y h0
 have hr:=HX (n:=decide (x<0) !=decide (y<0)) (a:=ak x.natAbs) (d:=ak y.natAbs) (Qk _) (Qk _) hx hy
 rw[rv,Qw,hv]at hr
 have hs:=DN (n:=decide (y<0)) (a:=ak y.natAbs) (Qk _) (by show nl _<_;omega)
 rw[mK]at hs
 generalize(x:Rat)/(y:Rat)=Q at *
 refine aE Qg Tryz.func187 af0 fun C hP=> ?_
 refine Sz0 ?_
 refine Qb hP hs ?_
 refine Sz0 ?_
 refine Qa (fun h=>absurd (Jm.1 h) h0) (fun _=> ?_)
 refine Sz0 ?_
 refine Qb hP hr ?_
 refine Sz0 ?_
 refine nH ?_
 refine Sz0 ?_
 exact gI rfl rfl rfl (Qn _) (Qn _)
theorem abH{n m:Bool}{a d b c:List Nat}{k:Nat}(hp:Raw k n a d)(hq:Raw k m b c)(hk:k<2^34)(h0:rv m b c≠0):Qd Tryz.prog 123 [PV.rr n a d,PV.rr m b c] (· = .aI [PV.rat (rv n a d/rv m b c),.int .i64 0]):=by
 refine aE Qg Tryz.func123 af1 fun C hP=> ?_
 refine Sz0 ?_
 refine pL hP (rS hp.la hp.ld hp.k1 hp.sa hp.sd Oz) rfl rfl rfl ?_
 rintro _ ⟨n',a',d',rfl,g1,g2,g3,g4,g5,g6⟩
 refine Sz0 ?_
 refine pL hP (rS hq.la hq.ld hq.k1 hq.sa hq.sd Oz) rfl rfl rfl ?_
 rintro _ ⟨m',b',c',rfl,e1,e2,e3,e4,e5,e6⟩
 refine Sz0 ?_
 have Ls:nl (zv n' a').natAbs<=k:=by rw[jA];exact Kao (bZ g1) g3
 have Lt:nl (zv m' b').natAbs<=k:=by rw[jA];exact Kao (bZ e1) e3
 have Ln:nl (val d')<=k:=Kao (bZ g2) g4
 have yn:nl (val c')<=k:=Kao (bZ e2) e4
 have h3:=iy (zv n' a') (val c')
 have h6:=iy (zv m' b') (val d')
 rw[Kbh]at h3 h6
 have VK:zv m' b'≠0:=fun h=>h0 (by rw[<-e6,rv,h,Rat.zero_mkRat])
 have aH:zv m' b'*(val d':Int)≠0:=Kcj VK Oz
 have fm:=akg (n:=n') (a:=a') (m:=m') (b:=b') g5 e5 VK
 rw[g6,e6]at fm
 have ob:=tj (n:=n') (m:=false) g1 e2 Oz Oz
 have nh:=tj (n:=m') (m:=false) e1 g2 Oz Oz
 rw[uX]at ob nh
 refine Qb hP (uP c') ?_
 refine Sz0 ?_
 refine Qb hP ob ?_
 refine Sz0 ?_
 refine Qb hP (uP d') ?_
 refine Sz0 ?_
 refine Qb hP nh ?_
 generalize zv n' a'*(val c':Int)=X at *
 generalize zv m' b'*(val d':Int)=Y at *
 refine Sz0 ?_
 refine Qb hP (MP (x:=X) (y:=Y) Oz Oz aH) ?_
 rw[fm]
 generalize rv n a d/rv m b c=Q at *
 refine Sz0 ?_
 refine nH ?_
 refine Sz0 ?_
 exact gI rfl rfl rfl (Qn _) (Qn _)
theorem zE{a b:Rat}{k:Nat}(ha:rs a<=k)(hb:rs b<=k)(hk:k<2^34)(h0:b≠0):Qd Tryz.prog 123 [PV.rat a,PV.rat b] (· = .aI [PV.rat (a/b),.int .i64 0]):=by
 have:=abH (eW ha) (eW hb) hk (by rw[dE];exact h0)
 rwa[dE,dE]at this
theorem MQ{x:Int}(hx:nl x.natAbs<2^40):Qd Tryz.prog 130 [PV.zz x] (· =PV.zz (-x)):=by
 have hs:=uO (n:= !decide (x<0)) (a:=ak x.natAbs) (Qk _) (by show nl _<_;omega)
 have e:zv (!decide (x<0)) (ak x.natAbs)= -x:=by
  rw[tH];by_cases h:x<0<;>simp[h]<;>omega
 rw[e]at hs
 refine aE Qg Tryz.func130 ahh fun C hP=> ?_
 refine Sz0 ?_
 refine Qb hP hs ?_
 refine Sz0 ?_
 refine cn ?_
 refine Sz0 ?_
 exact Qc rfl rfl
theorem Ti{x y:Int}(hx:nl x.natAbs<2^35)(hy:nl y.natAbs<2^35)(h0:y≠0):Qd Tryz.prog 121 [PV.zz x,PV.zz y] (· = .aI [PV.rat ((x:Rat)/(y:Rat)),.int .i64 0]):=by
 have h3:(y:Rat)≠0:=by rw[Ne,Ka2];exact h0
 have fo:nl (-x).natAbs<2^35:=by rw[Kc7];exact hx
 have o1:=yN (z:=x) (D:=y.natAbs) Oz Oz
 have o2:=yN (z:= -x) (D:=y.natAbs) Oz Oz
 have e1:¬y<0->mkRat x y.natAbs=(x:Rat)/(y:Rat):=fun h=>by
  rw[Kb6,<-Rat.intCast_natCast]
  congr 2;omega
 have e2:y<0->mkRat (-x) y.natAbs=(x:Rat)/(y:Rat):=fun h=>by
  have e:(((y.natAbs:Nat):Int):Rat)= -(y:Rat):=by rw[<-Rat.intCast_neg];congr 1;omega
  rw[Kb6,<-Rat.intCast_natCast,e,Rat.intCast_neg]
  grind
 refine aE Qg Tryz.func121 ahl fun C hP=> ?_
 refine Sz0 ?_
 refine Qb hP (Tb Oz) ?_
 refine Sz0 ?_
 refine Qa (fun h=>absurd (Jm.1 h) h0) (fun _=> ?_)
 refine Sz0 ?_
 refine Qa (fun hn=> ?_) (fun hn=> ?_)
 ·rw[e2 hn]at o2
  generalize(x:Rat)/(y:Rat)=Q at *
  refine Sz0 ?_
  refine Qb hP (MQ (x:=x) Oz) ?_
  refine Sz0 ?_
  refine Qb hP o2 ?_
  refine Sz0 ?_
  refine nH ?_
  refine Sz0 ?_
  exact gI rfl rfl rfl (Qn _) (Qn _)
 ·rw[e1 hn]at o1
  generalize(x:Rat)/(y:Rat)=Q at *
  refine Sz0 ?_
  refine Qb hP o1 ?_
  refine Sz0 ?_
  refine nH ?_
  refine Sz0 ?_
  exact gI rfl rfl rfl (Qn _) (Qn _)
theorem ZO{n m:Bool}{a d b c:List Nat}{k:Nat}(hp:Raw k n a d)(hq:Raw k m b c)(hk:k<2^33)(h0:rv m b c≠0):Qd Tryz.prog 143 [PV.rr n a d,PV.rr m b c] (· = .aI [PV.rat (rv n a d/rv m b c),.int .i64 0]):=by
 have hx:=hp.rs
 have hy:=hq.rs
 unfold FW.rs at hx hy
 refine aE Qg Tryz.func143 ahp fun C hP=> ?_
 refine Sz0 ?_
 refine Qb hP (tf hp Oz) ?_
 refine Sz0 ?_
 refine Qb hP (tf hq Oz) ?_
 generalize rv n a d=p at *
 generalize rv m b c=q at *
 have h1:=iy p.num (q.den:Int)
 have h2:=iy q.num (p.den:Int)
 rw[Kbh]at h1 h2
 have gu:q.num≠0:=fun h=>h0 (Rat.num_eq_zero.1 h)
 have aH:q.num*(p.den:Int)≠0:=Kcj gu (by have:=p.den_nz;omega)
 have fm:((p.num*(q.den:Int):Int):Rat)/((q.num*(p.den:Int):Int):Rat)=p/q:=by
  have k1:((p.den:Int):Rat)≠0:=by rw[Ne,Ka2];have:=p.den_nz;omega
  have k2:((q.den:Int):Rat)≠0:=by rw[Ne,Ka2];have:=q.den_nz;omega
  have k3:((q.num:Int):Rat)≠0:=by rw[Ne,Ka2];exact gu
  have d1:p=(p.num:Rat)/((p.den:Int):Rat):=by
   conv=>lhs;rw[<-Rat.mkRat_self p]
   rw[Kb6,Kcb]
  have d2:q=(q.num:Rat)/((q.den:Int):Rat):=by
   conv=>lhs;rw[<-Rat.mkRat_self q]
   rw[Kb6,Kcb]
  rw[KaS,KaS]
  generalize(p.num:Rat)=A at *
  generalize(q.num:Rat)=B at *
  generalize((p.den:Int):Rat)=D at *
  generalize((q.den:Int):Rat)=F at *
  rw[d1,d2]
  grind
 refine Sz0 ?_
 refine Qb hP (yF (ak q.den)) ?_
 refine Sz0 ?_
 refine Qb hP (yR (x:=p.num) (d:=q.den) Oz Oz) ?_
 refine Sz0 ?_
 refine Qb hP (yF (ak p.den)) ?_
 refine Sz0 ?_
 refine Qb hP (yR (x:=q.num) (d:=p.den) Oz Oz) ?_
 generalize p.num*(q.den:Int)=X at *
 generalize q.num*(p.den:Int)=Y at *
 refine Sz0 ?_
 refine Qb hP (Ti (x:=X) (y:=Y) Oz Oz aH) ?_
 rw[fm]
 generalize p/q=Q at *
 refine Sz0 ?_
 refine nH ?_
 refine Sz0 ?_
 exact gI rfl rfl rfl (Qn _) (Qn _)
theorem NK{a b:Rat}{k:Nat}(ha:rs a<=k)(hb:rs b<=k)(hk:k<2^33)(h0:b≠0):Qd Tryz.prog 143 [PV.rat a,PV.rat b] (· = .aI [PV.rat (a/b),.int .i64 0]):=by
 have:=ZO (eW ha) (eW hb) hk (by rw[dE];exact h0)
 rwa[dE,dE]at this
theorem WV{x y:Int}(hx: -9223372036854775808<=x/\x<=9223372036854775807)(hy: -9223372036854775808<=y/\y<=9223372036854775807)(h0:y≠0):Qd Tryz.prog 51 [.int .i64 x,.int .i64 y] (· =PV.rat ((x:Rat)/(y:Rat))):=by
 have n1:=oH (n:=x.natAbs) Oz
 have n2:=oH (n:=y.natAbs) Oz
 have hm:=Ti (x:=x) (y:=y) Oz Oz h0
 generalize(x:Rat)/(y:Rat)=Q at *
 refine aE Qg Tryz.func51 ajN fun C hP=> ?_
 refine Sz0 ?_
 refine Qb hP (IE hx.1 hx.2) ?_
 refine Sz0 ?_
 refine Qb hP (IE hy.1 hy.2) ?_
 refine Sz0 ?_
 refine Qb hP hm ?_
 refine Sz0 ?_
 refine cn ?_
 refine Sz0 ?_
 exact Qc rfl rfl
theorem PS(n:Bool)(a d:List Nat):rv (!n) a d= -rv n a d:=by
 have e:zv (!n) a= -zv n a:=by unfold zv;cases n<;>simp
 unfold rv;rw[e,Rat.neg_mkRat]
theorem Raw.not{n:Bool}{a d:List Nat}{k:Nat}(h:Raw k n a d):Raw k (!n) a d:=⟨h.la,h.ld,h.sa,h.sd,h.k1⟩
theorem abI{n m:Bool}{a d b c:List Nat}{k:Nat}(hp:Raw k n a d)(hq:Raw k m b c)(hk:k<2^36):Qd Tryz.prog 181 [PV.rr n a d,PV.rr m b c] (· =PV.rat (rv n a d-rv m b c)):=by
 have h:=IP hp hq.not hk
 rw[PS,<-Rat.sub_eq_add_neg]at h
 refine aE Qg Tryz.func181 afY fun C hP=> ?_
 refine Sz0 ?_
 refine Qb hP h ?_
 refine Sz0 ?_
 refine cn ?_
 refine Sz0 ?_
 exact Qc rfl rfl
theorem Dq{a b:Rat}{k:Nat}(ha:rs a<=k)(hb:rs b<=k)(hk:k<2^36):Qd Tryz.prog 181 [PV.rat a,PV.rat b] (· =PV.rat (a-b)):=by
 have:=abI (eW ha) (eW hb) hk
 rwa[dE,dE]at this
theorem abJ{n:Bool}{a d:List Nat}{k:Nat}(hp:Raw k n a d)(hk:k<2^36):Qd Tryz.prog 62 [PV.rr n a d] (· =PV.rat (-rv n a d)):=by
 refine aE Qg Tryz.func62 ajl fun C hP=> ?_
 refine Sz0 ?_
 refine pL hP (rS hp.la hp.ld hp.k1 hp.sa hp.sd Oz) rfl rfl rfl ?_
 rintro _ ⟨n',a',d',rfl,g1,g2,g3,g4,g5,g6⟩
 refine Sz0 ?_
 refine Qb hP (HX (n:= !n') g1 g2 Oz Oz) ?_
 rw[PS,g6]
 refine Sz0 ?_
 refine cn ?_
 refine Sz0 ?_
 exact Qc rfl rfl
theorem HI{a:Rat}{k:Nat}(ha:rs a<=k)(hk:k<2^36):Qd Tryz.prog 62 [PV.rat a] (· =PV.rat (-a)):=by
 have:=abJ (eW ha) hk
 rwa[dE]at this
theorem oW{x:Int}(h1: -9223372036854775808<=x)(h2:x<=9223372036854775807):Qd Tryz.prog 61 [.int .i64 x] (· =PV.rat (x:Rat)):=Bb h1 h2
theorem Jq{a:Rat}{k:Nat}(ha:rs a<=k)(hk:k<2^35):Qd Tryz.prog 63 [PV.rat a] (· =PV.rat (-a)):=by
 have h1:nl a.num.natAbs<=k:=by unfold rs at ha;omega
 have h2:nl a.den<=k:=by unfold rs at ha;omega
 have h3:nl (-a.num).natAbs<=k:=by rw[Kc7];exact h1
 have e:mkRat (-a.num) a.den= -a:=by rw[<-Rat.neg_mkRat,KcW]
 have hn:=MQ (x:=a.num) Oz
 have ho:=yN (z:= -a.num) (D:=a.den) Oz Oz
 rw[e]at ho
 refine aE Qg Tryz.func63 ajE fun C hP=> ?_
 refine Sz0 ?_
 refine Qb hP hn ?_
 refine Sz0 ?_
 refine Qb hP ho ?_
 refine Sz0 ?_
 refine cn ?_
 refine Sz0 ?_
 exact Qc rfl rfl
theorem ad3{a b:Rat}{k:Nat}(ha:rs a<=k)(hb:rs b<=k)(hk:k<2^34):Qd Tryz.prog 145 [PV.rat a,PV.rat b] (· =PV.rat (a-b)):=by
 have h:=NY (a:=a) (b:= -b) ha (by rw[qE];exact hb) hk
 rw[<-Rat.sub_eq_add_neg]at h
 refine aE Qg Tryz.func145 aho fun C hP=> ?_
 refine Sz0 ?_
 refine Qb hP (Jq hb Oz) ?_
 refine Sz0 ?_
 refine Qb hP h ?_
 refine Sz0 ?_
 refine cn ?_
 refine Sz0 ?_
 exact Qc rfl rfl
theorem Tj{l:List Rat}{R m:Nat}(hl:l.length=R*m)(hR:0<R)(df:R<=40)(hm:m<=40):
  jC Tryz.prog 54 [PV.bO R m l] (fun _=> .undef) aA (fun r F H=>r= .aG 2000000 0 R/\F 2000000= .aF 2000000 1 22 (Qy (rws 3000000 R fun _=>m))/\H 2000000=some ⟨1,22,[],false⟩/\
   ∀i,i<R->H (3000000+i)=some ⟨3,51,Qo PV.rat (Qu l m i) m,false⟩):=by
 refine tr Qg Tryz.func54 rfl P5 Nz fun C hP=> ?_;simp only[Kf];refine ic ?_
 refine Sz0 ?_
 refine et (qG 7 2000000 rfl Oz rfl Oz) ?_
 refine Sz0 ?_
 refine et (xd (γ:=2000000) (e:=1) (ty:=22) (xs:=List.replicate R .al) (fz:=false) Tz0 (by intro h;have:=congrArg List.length h;simp at this;omega) Oz (fun x hx=>by rw[Kcy hx];rfl)) ?_
 rw[abQ 3000000 R fun _=>m]
 refine Sz0 ?_
 refine iz dq [(3,4),(10,36),(2000000,2000000)] [17] (fun n J hp=>∃i,n=R-i/\i<=R/\J 3= .aG 2000000 0 R/\J 10= .int .i64 (i:Nat)/\J 2000000= .aF 2000000 1 22 (gG 3000000 i R fun _=>m)/\
   hp 1=some ⟨3,24,[PV.bO R m l],false⟩/\hp 2000000=some ⟨1,22,[],false⟩/\(∀j,j<i->hp (3000000+j)=some ⟨3,51,Qo PV.rat (Qu l m j) m,false⟩)/\∀j,i<=j->hp (3000000+j)=none) R ?_ ?_
 ·refine⟨0,rfl,by omega,?_⟩
  refine Sz0 ?_
  exact⟨rfl,(fun j hj=>by omega),fun j hj=>trivial⟩
 rintro _ J h ⟨i,rfl,hi,h3,bl,hg,h1,hh,fU,sO⟩
 refine Sz2 h3 bl ?_
 refine Qa (fun hc=> ?_) (fun hc=> ?_)
 ·have ao:i<R:=by omega
  have j8:=sO i (Kaf _)
  refine Sz4 h3 bl h1 hg ?_
  refine et (qG 17 (3000000+i) (Tz1 j8) Oz rfl Oz) ?_
  have KT:∀L,b6 (ju 17 (3000000+i)) (.aF 2000000 1 22 (gG 3000000 i R L))= .aF 2000000 1 22 (gG 3000000 i R L):=fun L=>agb Oz Oz Oz
  refine Sz6 h3 bl h1 hg hh KT ?_
  rw[af9 (ty:=22) (B:=3000000) (i:=i) (n:=R) (L:=fun _=>m) (e0:=1) (ty0:=22) (xs0:=[]) (Tz2 hg KT) (Tz1 hh) ao Oz rfl]
  have rB:=fun(K:Qh) (fr:Fr) (hp:HP) d=>aga (d:=d) (fr:=fr) (hp:=hp) (K:=K) (γ:=2000000) (j:=i) (i:=i+1) (n:=R) (ty:=22) (B:=3000000) (L:=fun _=>m)
  have hb1:(i+1)*m<=R*m:=Kah _ ao
  have hb2:i*m<=(i+1)*m:=Kah _ Oz
  have e1:(i:Int)*(m:Int)=((i*m:Nat):Int):=by rw[KbX]
  have e2:((i:Int)+1)*(m:Int)=(((i+1)*m:Nat):Int):=by rw[KbX];rfl
  have qh:=MG hl ao
  have vU:R*m<=40*40:=KaY df hm
  refine Sz9 h3 bl h1 hg hh KT rB e1 e2 ?_
  rw[akD (xs:=List.replicate m (.agg [.bool false,.al,.al])) (ty:=51) Tz0 Oz (by simp) (by rw[qh,fW])]
  rw[qh]
  refine Sz2 h3 bl ?_
  refine fG (R-(i+1)) Oz ⟨i+1,rfl,by omega,?_⟩
  refine Sz4 h3 bl h1 hh ?_
  refine⟨fun j hj=> ?_,fun j hj=> ?_⟩
  ·by_cases e:j=i
   ·subst e;simp+decide (disch:=try exact D0) only[go_sem]
   ·refine Sz1 e ?_
    exact fU j Oz
  ·have e:¬j=i:=by omega
   refine Sz1 e ?_
   exact sO j Oz
 ·obtain rfl:i=R:=by omega
  rw[abR]at hg
  refine Sz1 h3 ?_
  refine Ng ?_
  refine Sz2 hg hh ?_
  exact fU
end Go.Proofs.YtkoclfmjlolkhaaGreat
namespace Go.FW
open Go
variable {C : Ctx} {ρ : Nat -> Option Nat} {fr aC : Fr} {hp : HP} {w : World} {K R : Qh}
theorem jC.data{P:Program}{f:FuncId}{args:List PV}{aT:PV->Fr->HP->Prop}{Rr:PV->Prop}(k:Nat)(h:jC P f args (fun _=> .undef) aA aT)(hl:args.length<=1000000)
  (fT:∀r F H,aT r F H->vt (jV r F) k r/\Rr (qQ (jV r F) H k r)):Qd P f args Rr:=by
 refine⟨h.1,fun w X bu hX dV gw=> ?_⟩
 let C:Ctx:=Ctx.plain P args.length w X hX hl
 have nk:Qr C (fun _=>none) (sn args fun _=> .undef) aA bu w:=by
  refine⟨dV,Ext.refl _ _,(fun _ _ h=>by cases h),by simp[aA],by simp[aA],fun i=> ?_⟩
  unfold sn
  split
  ·cases hi:args[i]? with
   |none=>trivial
   |some p=>
    simp only[Kbe]
    refine Qm.mu ((gw i p hi).mono (fun _ _ _=>rfl) (fun b _ hn hx=> ?_) (Kaf _))
    rcases hx with hx|⟨_,_,h1,_⟩
    ·exact hn hx
    ·simp[aA]at h1
  ·trivial
 refine(h.2 C _ bu w rfl rfl rfl nk).mono ?_
 rintro e w' ⟨v,ρ',r,F,H,rfl,hs,hp⟩
 obtain⟨h1,h2⟩:=fT r F H hp
 have dp:jV r F 0=r:=rfl
 obtain⟨lI,cR⟩:=Hn (fr:=jV r F) (hp:=H) 0 k (by rw[dp];exact h1) (C.kL 1 (by decide)) #[v] w' ⟨ρ',hs⟩
 refine⟨v,_,rfl,Ctx.G5 cR.ext,?_,h2⟩
 have bb:=cR.cS 0
 rw[dp]at bb
 have e1:ae (jV r F) 0 (qQ (jV r F) H k r) 0=qQ (jV r F) H k r:=by simp[ae]
 rw[e1]at bb
 have hd:eG w' (aK C lI (bV H (zM (jV r F) k r))) (qQ (jV r F) H k r) v:=by
  cases r with
  |bm cs=>exact bb
  | aG γ o n=>
   cases k with
   |zero=>cases h1
   | succ k=>
    simp only[vt,pG]at h1
    split at h1
    ·rename_i aj
     simp only[qQ,fO,aj]at bb⊢
     exact bb
    ·exact h1.elim
  |_=>cases h1
 exact hd.mono (fun _ _ _=>rfl) (fun b _ hn hx=>hn (.inl hx)) (Kaf _)
theorem Mk{γ ty n:Nat}{l:List (Nat×Nat)}(aj:fr γ= .aF γ 1 ty (Qy l))(hn:n=l.length)(h2:2000000<=γ)(hl:∀x∈l,2000000<=x.1):vt fr 2 (.aG γ 0 n):=by
 simp only[vt,pG,aj]
 refine⟨trivial,by simp[aP];omega,by simp[Qy,hn],fun x hx c hc=> ?_⟩
 obtain⟨y,hy,rfl⟩:=Kau.1 (KbM (Kbf hx))
 obtain rfl:c= .aB y.1 0 y.2:=by simpa[PV.aU,PV.cells]using hc
 have:=hl y hy
 simp only[pG,aP];simp;omega
theorem NL{γ ty n e':Nat}{l:List (Nat×Nat)}(aj:fr γ= .aF γ 1 ty (Qy l))(hn:n=l.length)(ys:Nat->List PV)(hh:∀x∈l,∃ty' fz,hp x.1=some ⟨e',ty',ys x.1,fz⟩):
  qQ fr hp 2 (.aG γ 0 n)= .sl 1 (l.map fun x=> .sl e' ((ys x.1).take x.2)):=by
 simp only[qQ,fO,aj,Ka6]
 rw[Kac (by simp[Qy,hn])]
 simp only[Qy,KbE]
 congr 1
 refine KaL fun x hx=> ?_
 obtain⟨ty',fz,h⟩:=hh x hx
 simp[Function.comp,PV.aU,PV.cells,An,fO,h]
theorem ZP {P : Program} {f : FuncId} {fn : Func} {sf : ay} {args : List PV} {Rr : PV -> Prop} (hm : P.follows .mixedOrders = true) (hf : P.funcs[f]? = some fn) (pn : (fn.name != "runtime.NumGoroutine") = true) (hc : Qe P fn = some sf.strip) (hn : args.length <= sf.n /\ sf.n <= 1000000)
  (hv:∀C:Ctx,C.P=P->C.N=sf.n->vc C (tO (ff sf.rs Rr)) [.c sf.body] (jT args) aA):Qd P f args Rr:=by
 simp only[Qe,Kab,Kaa]at hc
 obtain⟨c,hb,sb,jo,rs,dD,CQ⟩:=hc
 obtain⟨n,LI,body⟩:=sf
 simp only[ay.strip,ay.mk.injEq]at CQ
 obtain⟨rfl,rfl,rfl⟩:=CQ
 refine⟨by simp[qO,hf,hb];simpa using pn,fun w X bu hX dV gw=> ?_⟩
 let C:Ctx:=Ctx.plain P fn.ntmps w X hX hn.2
 refine calls_of_wp hf hb ?_
 have sU:(bu++Array.replicate (fn.ntmps-bu.size) undef).size=fn.ntmps:=by simp at hn ⊢;omega
 have nk:eu C (jT args) aA (bu++Array.replicate (fn.ntmps-bu.size) undef) w:=by
  refine⟨fun _=>none,sU,Ext.refl _ _,(fun _ _ h=>by cases h),by simp[aA],by simp[aA],fun i=> ?_⟩
  unfold jT
  cases hi:args[i]? with
  |none=>trivial
  | some p=>
   simp only[Kbe]
   have iV:i<bu.size:=by rw[dV];exact(Kae.1 hi).1
   have hr:=gw i p hi
   have e:(bu++Array.replicate (fn.ntmps-bu.size) undef).getD i undef=bu.getD i undef:=by
    rw[kQ,if_pos iV]
   rw[e]
   refine Qm.mu (hr.mono (fun _ _ _=>rfl) (fun b _ hn hx=> ?_) (Kaf _))
   rcases hx with hx|⟨_,_,h1,_⟩
   ·exact hn hx
   ·simp[aA]at h1
 have fin:∀(fr:Fr)(hp:HP)(a:Act)(w':World),a.defers=[]->eu C fr hp a.tmps w'->tO (ff rs Rr) fr hp->
   a.defers=[]/\∃v,(results fn a.tmps).run P w'= .ok v w'/\∃v' r,Ending.returned v= .returned v'/\Ext dL w w'/\eG w' X r v'/\Rr r:=by
  rintro fr hp a w' hd gz ⟨vP,ka,hw,hr⟩
  obtain⟨ρ,hs⟩:=hw C _ _ gz
  obtain⟨v,r,h1,h2,h3⟩:=L6 (C:=C) rfl dD hs hr
  exact⟨hd,v,h1,v,r,rfl,Ctx.G5 hs.ext,h2,h3⟩
 exact Ia (C:=C) (R:=tO (ff rs Rr)) hm c body [] _ (jT args) aA _ w jo ⟨fun fr hp a w' hd hs hv=>(by rw[vd]at hv;exact fin fr hp a w' hd hs hv),fun id dZ he=>(by simp[FW.ch]at he),fin⟩ rfl nk (hv C rfl rfl)
theorem rX {P : Program} {f : FuncId} {fn : Func} {sf : ay} {args : List PV} {Rr : PV -> Prop} (hm : P.follows .mixedOrders = true) (hf : P.funcs[f]? = some fn) (pn : (fn.name != "runtime.NumGoroutine") = true) (hc : Qe P fn = some sf.strip) (hn : args.length <= sf.n /\ sf.n <= 1000000)
  (hv:∀C:Ctx,C.P=P->vc C (tO (ff sf.rs Rr)) [.c sf.body] (jT args) aA):Qd P f args Rr:=
 ZP hm hf pn hc hn fun C h _=>hv C h
theorem Es{aT:PV->Fr->HP->Prop}(h:aT (.aI []) fr hp):qS [] aT fr hp:=by
 refine tq ?_
 simp only[ff,KaF,R7]
 exact⟨by simp,_,acN _,h⟩
theorem agV{ty w i d:Nat}{fz:Bool}{f:Nat->Rat}(h:i<w):mm (some ⟨3,ty,Qo PV.rat f w,fz⟩) 3 true i 0 d fr hp K=K (ae fr d (PV.rat (f i))) hp:=by
 rw[ve (by rw[fW];exact h) (by omega) (by simp),pN];rfl
theorem Fp{ty β w i:Nat}{f:Nat->Rat}{v:Rat}(h:i<w):stM (some ⟨3,ty,Qo PV.rat f w,false⟩) β 3 i 0 (PV.rat v) fr hp K=K fr (Qi hp β ⟨3,ty,Qo PV.rat (fun c=>if c=i then v else f c) w,false⟩):=by
 have e:=wQ (fr:=fr) (hp:=hp) (K:=K) (n:=3) (ty:=ty) (β:=β) (i:=i) (xs:=Qo PV.rat f w) (v:=PV.rat v) (by rw[fW];exact h) rfl rfl
 rw[adi (g:=fun c=>if c=i then v else f c) fun k _=>rfl]at e
 exact e
theorem Dr{e ty:Nat}{xs ys:List PV}{fz:Bool}(h:xs=ys):HB.mk e ty xs fz=HB.mk e ty ys fz:=by rw[h]
theorem Hs:(nI (.aI [])=True)/\(∀(k:IntKind)(n:Int),nI (.int k n)=True)/\(∀b:Bool,nI (.bool b)=True)/\(∀(e:Nat)(xs:List PV),nI (.sl e xs)=True)/\(∀cs:List PV,nI (.agg cs)=True)/\(∀cs:List PV,nI (.aI cs)=True):=by
 refine⟨?_,?_,?_,?_,?_,?_⟩<;>intros<;>simp[nI,PV.refs,PV.aQ,b6,dy]
attribute [go_sem] Hs agV
end Go.FW
