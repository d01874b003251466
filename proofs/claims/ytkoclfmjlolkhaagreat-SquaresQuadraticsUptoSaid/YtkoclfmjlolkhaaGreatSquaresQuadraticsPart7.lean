/- Part 7 of the proof of SquaresQuadratics: Q1, Q2, W1, W2, W3, W4, W5, W6, A1, A2, FwNH. Own lemmas; no conditions. -/
import Derived.Test.YtkoclfmjlolkhaaGreatSquaresQuadraticsPart6
set_option maxHeartbeats 1000000
set_option linter.unusedSimpArgs false
set_option linter.unusedVariables false
set_option linter.unnecessarySimpa false
set_option maxRecDepth 100000
namespace Go.Proofs.YtkoclfmjlolkhaaGreat
open Go Go.FW
structure Mt(k:Nat)(s:mW):Prop where
 r:Raw k s.n s.a s.d
 p:∀t∈s.p,RB k t
 l:s.p.length<2^40
theorem RC{p:List aP}{k:Nat}(hb:∀t∈p,RB k t)(h:sD p=true)(bR:dz p=true):PB 3 1048576 (p.map aP.tm)/\bB (p.map aP.tm):=by obtain⟨e1,e2⟩:=GY hb bR;simp only[sD,KaC,decide_eq_true_eq,Kax]at h;refine⟨fun t ht=>?_,e2.uG⟩;have hv:=e2.t _ ht;obtain⟨x,hx,rfl⟩:=Kaq.1 ht;have hs:=h.2 x hx;simp only[tw,B8,KaC,decide_eq_true_eq]at hs;have hr:=(show Raw 2 x.n x.a x.d from⟨(hb x hx).r.1,(hb x hx).r.2.1,hs.2.1,hs.2.2,by omega⟩).rs;have hm:=MB.tA hv.m;refine⟨?_,hm,yj hv.m⟩;show rs (rv x.n x.a x.d)+1<=3;omega
theorem aeR{n:Bool}{a d:List Nat}{k:Nat}(hr:Raw k n a d)(hk:k<2^36):Qd Tryz.prog 34 [PV.rr n a d] (· = .bool (B8 a d)):=by
 have h1:=hr.sa;have h2:=hr.sd;refine aE Qg Tryz.func34 anA fun C hP=>?_;refine Sz0 ?_;refine fN (fun h=>?_) (fun h=>?_)
 ·refine Sz0 ?_;exact Qc (congrArg PV.bool (by rw[B8,decide_eq_true (show a.length<=2 by omega),KcA];exact decide_eq_decide.2 ⟨fun h=>by omega,fun h=>by omega⟩)) rfl
 ·refine Sz0 ?_;exact Qc (by rw[B8,decide_eq_false (show ¬a.length<=2 by omega),Bool.false_and]) rfl
theorem aeS{p:List aP}{k:Nat}(hb:∀t∈p,RB k t)(dR:1<=k)(hk:k<2^36)(hl:p.length<2^40):Qd Tryz.prog 18 [PV.jI p] (· = .bool (sD p)):=by
 refine aE Qg Tryz.func18 anB fun C hP=>?_;refine Sz0 ?_;refine Qa (fun hn=>?_) (fun hn=>?_)
 ·refine Sz0 ?_;exact Qc (by simp[sD,show ¬p.length<=20 by omega]) rfl
 have oK:p.length<=20:=by omega
 refine Sz0 ?_;refine Qi okB [(2,3),(7,28)] [] (fun m J hp=>∃i,m=p.length-i/\i<=p.length/\(∀j (h:j<p.length),j<i->tw p[j]=true)/\J 3= .int .i64 (i:Nat)) p.length ?_ ?_
 ·refine⟨0,rfl,by omega,by omega,?_⟩;refine Sz0 ?_;rfl
 rintro _ J h ⟨i,rfl,hi,h1,h3⟩;refine Sz1 h3 ?_;refine Qa (fun hg=>?_) (fun hg=>?_)
 ·have al:i<p.length:=by omega
  have dU:=hb _ (Kah al);have dB:=Kah al;have BA:tw p[i]=false->sD p=false:=fun h=>by
   have:p.all tw=false:=by rw[Kcr];exact⟨_,dB,by simp[h]⟩
   simp[sD,this]
  have fg:tw p[i]=true->∀j (h:j<p.length),j<i+1->tw p[j]=true:=fun h j hj im=>by
   by_cases e:j=i
   ·subst e;exact h
   ·exact h1 j hj Oz
  have kZ:=dU.l;generalize hx:p[i]=x at *
  have NO:=aeR (RB.raw dU dR) hk;refine Sz2 h3 hx ?_;refine fb (fun h4=>?_) (fun h4=>?_)
  ·refine Sz1 h3 ?_;exact Qc (by rw[BA (by simp[tw,show ¬x.m.length<=70 by omega])]) rfl
  refine Sz2 h3 hx ?_;refine Qb hP NO ?_;cases hs:B8 x.a x.d
  ·refine Sz1 h3 ?_;exact Qc (by rw[BA (by simp[tw,hs])]) rfl
  ·refine Sz1 h3 ?_;refine Qf (p.length-(i+1)) Oz ⟨i+1,rfl,by omega,fg (by rw[tw,hs,decide_eq_true Oz];rfl),?_⟩;exact Tz0
 ·obtain rfl:i=p.length:=by omega
  refine Sz0 ?_;refine Qc ?_ rfl;have:p.all tw=true:=by rw[Kax];intro t ht;obtain⟨j,hj,rfl⟩:=KaV ht;exact h1 j hj hj
  simp[sD,this,oK]
theorem agJ{s:mW}{k:Nat}(hb:Mt k s)(dR:1<=k)(hk:k<2^36):Qd Tryz.prog 99 [PV.wc s] (· = .int .i64 (r9 s)):=by
 have h1:=KX hb.r hk;have h2:=Cp hb.p dR hk hb.l;have h3:=Cy hb.r hk;obtain⟨n,a,d,p⟩:=s;simp only at h1 h2 h3;refine aE Qg Tryz.func99 anC fun C hP=>?_;refine Sz0 ?_;refine Qb hP h1 ?_;cases e1:lB n a d
 ·refine Sz0 ?_;exact Qc (by simp[r9,e1]) rfl
 refine Sz0 ?_;refine Qb hP h2 ?_;cases e2:dz p
 ·refine Sz0 ?_;exact Qc (by simp[r9,e1,e2]) rfl
 refine Sz0 ?_;refine Qb hP h3 ?_;have hp:= @Mg (rv n a d);refine Sz0 ?_;refine Qa (fun h=>?_) (fun h=>?_)
 ·refine Sz0 ?_;exact Qc (by simp only[r9,e1,e2,if_true];rw[if_neg (fun g=>by have:=hp.2 g;omega)]) rfl
 ·refine Sz0 ?_;exact Qc (by simp only[r9,e1,e2,if_true];rw[if_pos (hp.1 Oz)]) rfl
theorem adE(x:Int):Qd Tryz.prog 211 [.int .i64 x] (· = .bool (decide (1048576<x))):=by refine aE Qg Tryz.func211 ajO fun C hP=>?_;refine Sz0 ?_;exact Qc rfl rfl
theorem aeT{t:Tm}(h:t.2.length<=2^36):Qd Tryz.prog 209 [PV.term t] (· = .bool (t.2.any fun x=>decide (1048576<x))):=by refine aE Qg Tryz.func209 akn fun C hP=>?_;refine Sz0 ?_;refine Qb hP (Qu9 (fun x _=>adE x) h) ?_;refine Sz0 ?_;exact Qc rfl rfl
theorem agK{p:List Tm}{E:Nat}(hp:∀t∈p,MB E t.2)(cW:p.length<=2^36):Qd Tryz.prog 171 [PV.aL p] (· = .bool (tN p)):=by
 refine aE Qg Tryz.func171 akm fun C hP=>?_;refine Sz0 ?_;refine fb (fun h=>?_) (fun h=>?_)
 ·refine Sz0 ?_;exact Qc (congrArg PV.bool (by rw[tN,decide_eq_true Oz,Bool.true_or])) rfl
 ·refine Sz0 ?_;refine Qb hP (Qu8 (fun t ht=>aeT (by have:=(hp t ht).len;omega)) cW) ?_;refine Sz0 ?_;exact Qc (congrArg PV.bool (by rw[tN,decide_eq_false Oz,Bool.false_or])) rfl
theorem akR{K E n:Nat}{x:Sq}(h:uc K E n x)(hn:n<=1000)(hE:E<=2^30)(hK:n*(K+K)+K<=2^32):Qd Tryz.prog 101 [PV.sq x] (· = .aH [PV.aL (oT x),.int .i64 0]):=by have hl:=h.l;have hw:=h.w;have h1:=Wg h.b h.b;have h5:=KaQ hl hl;have h7:n*n<=1000*1000:=KaQ hn hn;have h6:min x.2.length x.2.length*(K+K)<=n*(K+K):=Kaj _ Oz;have c1:=ac2 h.b h.b Oz Oz Oz Oz Oz Oz;have c2:=Q70 (p:=hO x.2 x.2) (a:=x.1) (K:=n*(K+K)+K) (E:=E+E) (h1.1.mono Oz Oz) Oz Oz Oz Oz;refine aE Qg Tryz.func101 ajP fun C hP=>?_;refine Sz0 ?_;refine Qb hP c1 ?_;refine Sz0 ?_;refine Qb hP c2 ?_;refine Sz0 ?_;exact fp (r:=.aH [PV.aL (oT x),.int .i64 0]) rfl rfl rfl (Ql _) (Ql _)
theorem anY{K E n:Nat}{l:List Sq}(h:∀x∈l,uc K E n x)(hl:l.length<=1000)(hn:n<=1000)(hE:E<=2^30)(hK:(n*(K+K)+K)*(l.length+1)<=2^32):Qd Tryz.prog 100 [.sl 4 (l.map PV.sq),.fn 101 [] []] (· =PV.wa (Ce (sF l []))):=by
 have hle:n*(K+K)+K<=(n*(K+K)+K)*(l.length+1):=KaZ _ Oz;have EY:n*n*(l.length+1)<=1000*1000*1001:=KaQ (KaQ hn hn) Oz;have uw:∀i,i<=l.length+1->(n*(K+K)+K)*i<=2^32/\n*n*i<=1000*1000*1001:=fun i hi=>⟨Kap (KaE _ hi) hK,Kap (KaE _ hi) EY⟩
 have gL:=uw 1 Oz;rw[KbK,KbK]at gL;refine aE Qg Tryz.func100 ajQ fun C hP=>?_;refine Sz0 ?_;refine yz 6 4 Tz0 ?_;refine Qi okB [(4,6),(8,10),(13,31)] [8] (fun q J hp=>∃i,q=l.length-i/\i<=l.length/\sF (l.drop i) (jS (l.take i))=sF l []/\J 6=PV.aL (jS (l.take i))/\J 13= .int .i64 (i:Nat)) l.length ?_ ?_
 ·refine⟨0,rfl,by omega,rfl,?_⟩;refine Sz0 ?_;exact⟨rfl,rfl⟩
 rintro _ J h' ⟨i,rfl,hi,lN,h6,fy⟩;refine Sz1 fy ?_;refine Qa (fun hg=>?_) (fun hg=>?_)
 ·have al:i<l.length:=by omega
  have bG:=h _ (Kah al);obtain⟨a1,a2,a3⟩:=yB h i hi;obtain⟨b1,b2,b3⟩:=yB h (i+1) al;have m1:=uw i Oz;have m2:=uw (i+1) Oz;have bc:=G1 al;rw[Ov _ al,<-bc]at lN;obtain⟨c1,c2,c3⟩:=Kd bG;have eu:=akR bG hn hE Oz;have Xs:=VV (a1.mono (K':=2^33) (E':=E+E) Oz Oz) (c1.mono (K':=2^33) (E':=E+E) Oz Oz) Oz Oz Oz Oz;have zy:=agK (fun t ht=>(b1 t ht).m) Oz;clear m1 m2 uw EY hle gL hK;generalize hx:l[i]=x at *
  rw[<-bc]at Xs;generalize jS (l.take i)=A at *
  generalize Ec:jS (l.take (i+1))=A' at *
  refine Sz2 fy hx ?_;refine Qb hP eu ?_;refine Sz2 fy h6 ?_;refine Qb hP Xs ?_;refine Sz1 fy ?_;refine Qb hP zy ?_;cases hp:tN A'
  ·rw[hp,if_neg (by decide)]at lN;refine Sz1 fy ?_;refine Qf (l.length-(i+1)) Oz ⟨i+1,rfl,by omega,by rw[Ec];exact lN,?_⟩;rw[Ec];exact Tz0
  ·rw[hp,if_pos rfl]at lN;refine Sz0 ?_;exact fp (r:=PV.wa (Ce (sF l []))) (by rw[<-lN];rfl) rfl rfl L0 (Ql _)
 ·obtain rfl:i=l.length:=by omega
  rw[Kdk]at lN;refine Sz1 h6 ?_;exact fp (r:=PV.wa (Ce (sF l []))) (by rw[<-lN];rfl) rfl rfl (Ql _) (Ql _)
theorem akS{l:List mW}{k:Nat}(hb:∀s∈l,Mt k s)(dR:1<=k)(hk:k<2^36)(hl5:l.length<=2^30)(kD:sC l=0->Qd Tryz.prog 100 [.sl 4 (l.map PV.wc),.fn 101 [] []] (· =PV.wa (Ce (sF (l.map mW.sq) [])))):Qd Tryz.prog 36 [.sl 4 (l.map PV.wc)] (· =PV.wa (yQ l)):=by
 refine aE Qg Tryz.func36 anD fun C hP=>?_;refine Sz0 ?_;refine Qi okB [(2,3),(5,6),(9,18)] [5] (fun q J hp=>∃i,q=l.length-i/\i<=l.length/\sC (l.drop i)=sC l/\J 9= .int .i64 (i:Nat)) l.length ?_ ?_
 ·refine⟨0,rfl,by omega,rfl,?_⟩;refine Sz0 ?_;rfl
 rintro _ J h' ⟨i,rfl,hi,he,h9⟩;refine Sz1 h9 ?_;refine Qa (fun hg=>?_) (fun hg=>?_)
 ·have al:i<l.length:=by omega
  have dU:=hb _ (Kah al);rw[aco al]at he;generalize hx:l[i]=s at *
  have hc:=agJ dU dR hk;generalize r9 s=e at *
  refine Sz2 h9 hx ?_;refine Qb hP hc ?_;refine Sz1 h9 ?_;refine Qa (fun h0=>?_) (fun h0=>?_)
  ·rw[if_neg Oz]at he;refine Sz0 ?_;exact fp (r:=PV.wa (yQ l)) (by rw[yQ,<-he,if_neg Oz]) rfl rfl L0 (Ql _)
  ·rw[if_pos Oz]at he;refine Sz1 h9 ?_;refine Qf (l.length-(i+1)) Oz ⟨i+1,rfl,by omega,he,?_⟩;exact Tz0
 ·obtain rfl:i=l.length:=by omega
  rw[Kdk]at he;have hs:=kD he.symm;refine Sz0 ?_;refine Qb hP hs ?_;refine Sz0 ?_;exact fp (r:=PV.wa (yQ l)) (by rw[yQ,if_pos (show sC l=0 from he.symm)]) rfl rfl (Ql _) (Ql _)
def F4(p:List aP)(r:List Tm×Int):Int:=if r.2≠0 then r.2 else if dz p=true/\p.map aP.tm=r.1 then 0 else 17
theorem aeU{p:List aP}{l:List mW}{r:List Tm×Int}{k K E:Nat}(h1:Qd Tryz.prog 36 [.sl 4 (l.map PV.wc)] (· =PV.wa r))(hp:∀t∈p,RB k t)(aV:p.length<2^30)(dR:1<=k)(hk:k<2^36)(b1:PB K E r.1)(b2:r.1.length<=2^30)(hq:dz p=true->PB K E (p.map aP.tm))(hK:K<=2^33)(hE:E<=2^31):Qd Tryz.prog 41 [PV.jI p,.sl 4 (l.map PV.wc)] (· = .int .i64 (F4 p r)):=by
 have h2:=Cp hp dR hk Oz;unfold F4;obtain⟨s,e⟩:=r;simp only at b1 b2 h1;refine aE Qg Tryz.func41 anE fun C hP=>?_;refine Sz0 ?_;refine Qb hP h1 ?_;refine Sz0 ?_;refine Qa (fun h0=>?_) (fun h0=>?_)
 ·refine Sz0 ?_;exact Qc (by rw[if_pos (show(s,e).2≠0 from h0)]) rfl
 rw[if_neg (show ¬(s,e).2≠0 from h0)];refine Sz0 ?_;refine Qb hP h2 ?_;cases h3:dz p
 ·refine Sz0 ?_;exact Qc (by simp) rfl
 have q1':=hq h3;have q0:=(GY hp h3).1;rw[q0];have hPl:(p.map aP.tm).length=p.length:=Kal _;generalize p.map aP.tm=P at *
 have heq:=Q71 q1' b1 Oz Oz Oz Oz;refine Sz0 ?_;refine Qb hP heq ?_;by_cases hs:P=s
 ·subst hs;rw[decide_eq_true rfl];refine Sz0 ?_;exact Qc (by simp) rfl
 ·have fA:¬s=P:=fun h=>hs h.symm
  first|rw[decide_eq_false hs]|rw[decide_eq_false fA]
  refine Sz0 ?_;exact Qc (by rw[if_neg hs]) rfl
theorem L6(v:Nat)(n:Int)(h:n=((n.toNat:Nat):Int)):(List.replicate (v+1) (0:Int)).set v n=bQ v n.toNat:=by
 unfold bQ;rw[<-h];induction v with
 |zero=>rfl
 |succ v ih=>rw[KbL,List.set_cons_succ,ih];rfl
theorem PC{x y:Int}(hx:nl x.natAbs<2^38)(hy:nl y.natAbs<2^38)(h0:y≠0):Qd Tryz.prog 187 [PV.zz x,PV.zz y] (· = .aH [PV.rat ((x:Rat)/(y:Rat)),.int .i64 0]):=by
 have hv:=VZ x y h0;have hr:=KJ (n:=decide (x<0) !=decide (y<0)) (a:=ao x.natAbs) (d:=ao y.natAbs) (Qm _) (Qm _) hx hy;rw[rv,Qy,hv]at hr;have hs:=Gr (n:=decide (y<0)) (a:=ao y.natAbs) (Qm _) (by show nl _<_;omega);rw[ow]at hs;generalize(x:Rat)/(y:Rat)=Q at *
 refine aE Qg Tryz.func187 aiK fun C hP=>?_;refine Sz0 ?_;refine Qb hP hs ?_;refine Sz0 ?_;refine Qa (fun h=>absurd (Mf.1 h) h0) (fun _=>?_);refine Sz0 ?_;refine Qb hP hr ?_;refine Sz0 ?_;refine mO ?_;refine Sz0 ?_;exact fp rfl rfl rfl (Ql _) (Ql _)
theorem afh{n m:Bool}{a d b c:List Nat}{k:Nat}(hp:Raw k n a d)(hq:Raw k m b c)(hk:k<2^34)(h0:rv m b c≠0):Qd Tryz.prog 123 [PV.rr n a d,PV.rr m b c] (· = .aH [PV.rat (rv n a d/rv m b c),.int .i64 0]):=by
 refine aE Qg Tryz.func123 aiL fun C hP=>?_;refine Sz0 ?_;refine nu hP (tF hp.la hp.ld hp.k1 hp.sa hp.sd Oz) rfl rfl rfl ?_;rintro _ ⟨n',a',d',rfl,g1,g2,g3,g4,g5,g6⟩;refine Sz0 ?_;refine nu hP (tF hq.la hq.ld hq.k1 hq.sa hq.sd Oz) rfl rfl rfl ?_;rintro _ ⟨m',b',c',rfl,e1,e2,e3,e4,e5,e6⟩;refine Sz0 ?_;have N5:nl (zv n' a').natAbs<=k:=by rw[kJ];exact Kap (cq g1) g3
 have N6:nl (zv m' b').natAbs<=k:=by rw[kJ];exact Kap (cq e1) e3
 have NV:nl (val d')<=k:=Kap (cq g2) g4;have zR:nl (val c')<=k:=Kap (cq e2) e4;have h3:=js (zv n' a') (val c');have h6:=js (zv m' b') (val d');rw[Kbj]at h3 h6;have ZM:zv m' b'≠0:=fun h=>h0 (by rw[<-e6,rv,h,Rat.zero_mkRat]);have aJ:zv m' b'*(val d':Int)≠0:=Kcu ZM Oz;have fS:=anX (n:=n') (a:=a') (m:=m') (b:=b') g5 e5 ZM;rw[g6,e6]at fS;have jH:=uO (n:=n') (m:=false) g1 e2 Oz Oz;have nf:=uO (n:=m') (m:=false) e1 g2 Oz Oz;rw[wD]at jH nf;refine Qb hP (wA c') ?_;refine Sz0 ?_;refine Qb hP jH ?_;refine Sz0 ?_;refine Qb hP (wA d') ?_;refine Sz0 ?_;refine Qb hP nf ?_;generalize zv n' a'*(val c':Int)=X at *
 generalize zv m' b'*(val d':Int)=Y at *
 refine Sz0 ?_;refine Qb hP (PC (x:=X) (y:=Y) Oz Oz aJ) ?_;rw[fS];generalize rv n a d/rv m b c=Q at *
 refine Sz0 ?_;refine mO ?_;refine Sz0 ?_;exact fp rfl rfl rfl (Ql _) (Ql _)
theorem Bl{a b:Rat}{k:Nat}(ha:rs a<=k)(hb:rs b<=k)(hk:k<2^34)(h0:b≠0):Qd Tryz.prog 123 [PV.rat a,PV.rat b] (· = .aH [PV.rat (a/b),.int .i64 0]):=by
 have:=afh (fO ha) (fO hb) hk (by rw[eA];exact h0)
 rwa[eA,eA]at this
theorem PD{x:Int}(hx:nl x.natAbs<2^40):Qd Tryz.prog 130 [PV.zz x] (· =PV.zz (-x)):=by
 have hs:=wB (n:= !decide (x<0)) (a:=ao x.natAbs) (Qm _) (by show nl _<_;omega);have e:zv (!decide (x<0)) (ao x.natAbs)= -x:=by rw[u7];by_cases h:x<0<;>simp[h]<;>omega
 rw[e]at hs;refine aE Qg Tryz.func130 akG fun C hP=>?_;refine Sz0 ?_;refine Qb hP hs ?_;refine Sz0 ?_;refine cr ?_;refine Sz0 ?_;exact Qc rfl rfl
theorem Ow{x y:Int}(hx:nl x.natAbs<2^35)(hy:nl y.natAbs<2^35)(h0:y≠0):Qd Tryz.prog 121 [PV.zz x,PV.zz y] (· = .aH [PV.rat ((x:Rat)/(y:Rat)),.int .i64 0]):=by
 have h3:(y:Rat)≠0:=by rw[Ne,Ka5];exact h0
 have gB:nl (-x).natAbs<2^35:=by rw[Kdg];exact hx
 have o1:=At (z:=x) (D:=y.natAbs) Oz Oz;have o2:=At (z:= -x) (D:=y.natAbs) Oz Oz;have e1:¬y<0->mkRat x y.natAbs=(x:Rat)/(y:Rat):=fun h=>by rw[Kb6,<-Rat.intCast_natCast];congr 2;omega
 have e2:y<0->mkRat (-x) y.natAbs=(x:Rat)/(y:Rat):=fun h=>by
  have e:(((y.natAbs:Nat):Int):Rat)= -(y:Rat):=by rw[<-Rat.intCast_neg];congr 1;omega
  rw[Kb6,<-Rat.intCast_natCast,e,Rat.intCast_neg];grind
 refine aE Qg Tryz.func121 akK fun C hP=>?_;refine Sz0 ?_;refine Qb hP (VY Oz) ?_;refine Sz0 ?_;refine Qa (fun h=>absurd (Mf.1 h) h0) (fun _=>?_);refine Sz0 ?_;refine Qa (fun hn=>?_) (fun hn=>?_)
 ·rw[e2 hn]at o2;generalize(x:Rat)/(y:Rat)=Q at *
  refine Sz0 ?_;refine Qb hP (PD (x:=x) Oz) ?_;refine Sz0 ?_;refine Qb hP o2 ?_;refine Sz0 ?_;refine mO ?_;refine Sz0 ?_;exact fp rfl rfl rfl (Ql _) (Ql _)
 ·rw[e1 hn]at o1;generalize(x:Rat)/(y:Rat)=Q at *
  refine Sz0 ?_;refine Qb hP o1 ?_;refine Sz0 ?_;refine mO ?_;refine Sz0 ?_;exact fp rfl rfl rfl (Ql _) (Ql _)
theorem adF{n m:Bool}{a d b c:List Nat}{k:Nat}(hp:Raw k n a d)(hq:Raw k m b c)(hk:k<2^33)(h0:rv m b c≠0):Qd Tryz.prog 143 [PV.rr n a d,PV.rr m b c] (· = .aH [PV.rat (rv n a d/rv m b c),.int .i64 0]):=by
 have hx:=hp.rs;have hy:=hq.rs;unfold FW.rs at hx hy;refine aE Qg Tryz.func143 akO fun C hP=>?_;refine Sz0 ?_;refine Qb hP (uL hp Oz) ?_;refine Sz0 ?_;refine Qb hP (uL hq Oz) ?_;generalize rv n a d=p at *
 generalize rv m b c=q at *
 have h1:=js p.num (q.den:Int);have h2:=js q.num (p.den:Int);rw[Kbj]at h1 h2;have gO:q.num≠0:=fun h=>h0 (Rat.num_eq_zero.1 h);have aJ:q.num*(p.den:Int)≠0:=Kcu gO (by have:=p.den_nz;omega);have fS:((p.num*(q.den:Int):Int):Rat)/((q.num*(p.den:Int):Int):Rat)=p/q:=by
  have k1:((p.den:Int):Rat)≠0:=by rw[Ne,Ka5];have:=p.den_nz;omega
  have k2:((q.den:Int):Rat)≠0:=by rw[Ne,Ka5];have:=q.den_nz;omega
  have k3:((q.num:Int):Rat)≠0:=by rw[Ne,Ka5];exact gO
  have d1:p=(p.num:Rat)/((p.den:Int):Rat):=by
   conv=>lhs;rw[<-Rat.mkRat_self p]
   rw[Kb6,KbR]
  have d2:q=(q.num:Rat)/((q.den:Int):Rat):=by
   conv=>lhs;rw[<-Rat.mkRat_self q]
   rw[Kb6,KbR]
  rw[KaU,KaU];generalize(p.num:Rat)=A at *
  generalize(q.num:Rat)=B at *
  generalize((p.den:Int):Rat)=D at *
  generalize((q.den:Int):Rat)=F at *
  rw[d1,d2];grind
 refine Sz0 ?_;refine Qb hP (Al (ao q.den)) ?_;refine Sz0 ?_;refine Qb hP (Ax (x:=p.num) (d:=q.den) Oz Oz) ?_;refine Sz0 ?_;refine Qb hP (Al (ao p.den)) ?_;refine Sz0 ?_;refine Qb hP (Ax (x:=q.num) (d:=p.den) Oz Oz) ?_;generalize p.num*(q.den:Int)=X at *
 generalize q.num*(p.den:Int)=Y at *
 refine Sz0 ?_;refine Qb hP (Ow (x:=X) (y:=Y) Oz Oz aJ) ?_;rw[fS];generalize p/q=Q at *
 refine Sz0 ?_;refine mO ?_;refine Sz0 ?_;exact fp rfl rfl rfl (Ql _) (Ql _)
theorem Hl{a b:Rat}{k:Nat}(ha:rs a<=k)(hb:rs b<=k)(hk:k<2^33)(h0:b≠0):Qd Tryz.prog 143 [PV.rat a,PV.rat b] (· = .aH [PV.rat (a/b),.int .i64 0]):=by
 have:=adF (fO ha) (fO hb) hk (by rw[eA];exact h0)
 rwa[eA,eA]at this
theorem UJ{x y:Int}(hx: -9223372036854775808<=x/\x<=9223372036854775807)(hy: -9223372036854775808<=y/\y<=9223372036854775807)(h0:y≠0):Qd Tryz.prog 51 [.int .i64 x,.int .i64 y] (· =PV.rat ((x:Rat)/(y:Rat))):=by
 have n1:=qu (n:=x.natAbs) Oz;have n2:=qu (n:=y.natAbs) Oz;have hm:=Ow (x:=x) (y:=y) Oz Oz h0;generalize(x:Rat)/(y:Rat)=Q at *
 refine aE Qg Tryz.func51 anr fun C hP=>?_;refine Sz0 ?_;refine Qb hP (Li hx.1 hx.2) ?_;refine Sz0 ?_;refine Qb hP (Li hy.1 hy.2) ?_;refine Sz0 ?_;refine Qb hP hm ?_;refine Sz0 ?_;refine cr ?_;refine Sz0 ?_;exact Qc rfl rfl
theorem TL(n:Bool)(a d:List Nat):rv (!n) a d= -rv n a d:=by
 have e:zv (!n) a= -zv n a:=by unfold zv;cases n<;>simp
 unfold rv;rw[e,Rat.neg_mkRat]
theorem Raw.not{n:Bool}{a d:List Nat}{k:Nat}(h:Raw k n a d):Raw k (!n) a d:=⟨h.la,h.ld,h.sa,h.sd,h.k1⟩
theorem afi{n m:Bool}{a d b c:List Nat}{k:Nat}(hp:Raw k n a d)(hq:Raw k m b c)(hk:k<2^36):Qd Tryz.prog 181 [PV.rr n a d,PV.rr m b c] (· =PV.rat (rv n a d-rv m b c)):=by have h:=LC hp hq.not hk;rw[TL,<-Rat.sub_eq_add_neg]at h;refine aE Qg Tryz.func181 aiI fun C hP=>?_;refine Sz0 ?_;refine Qb hP h ?_;refine Sz0 ?_;refine cr ?_;refine Sz0 ?_;exact Qc rfl rfl
theorem F5{a b:Rat}{k:Nat}(ha:rs a<=k)(hb:rs b<=k)(hk:k<2^36):Qd Tryz.prog 181 [PV.rat a,PV.rat b] (· =PV.rat (a-b)):=by
 have:=afi (fO ha) (fO hb) hk
 rwa[eA,eA]at this
theorem afj{n:Bool}{a d:List Nat}{k:Nat}(hp:Raw k n a d)(hk:k<2^36):Qd Tryz.prog 62 [PV.rr n a d] (· =PV.rat (-rv n a d)):=by refine aE Qg Tryz.func62 amT fun C hP=>?_;refine Sz0 ?_;refine nu hP (tF hp.la hp.ld hp.k1 hp.sa hp.sd Oz) rfl rfl rfl ?_;rintro _ ⟨n',a',d',rfl,g1,g2,g3,g4,g5,g6⟩;refine Sz0 ?_;refine Qb hP (KJ (n:= !n') g1 g2 Oz Oz) ?_;rw[TL,g6];refine Sz0 ?_;refine cr ?_;refine Sz0 ?_;exact Qc rfl rfl
theorem Kq{a:Rat}{k:Nat}(ha:rs a<=k)(hk:k<2^36):Qd Tryz.prog 62 [PV.rat a] (· =PV.rat (-a)):=by
 have:=afj (fO ha) hk
 rwa[eA]at this
theorem qK{x:Int}(h1: -9223372036854775808<=x)(h2:x<=9223372036854775807):Qd Tryz.prog 61 [.int .i64 x] (· =PV.rat (x:Rat)):=CO h1 h2
theorem L7{a:Rat}{k:Nat}(ha:rs a<=k)(hk:k<2^35):Qd Tryz.prog 63 [PV.rat a] (· =PV.rat (-a)):=by
 have h1:nl a.num.natAbs<=k:=by unfold rs at ha;omega
 have h2:nl a.den<=k:=by unfold rs at ha;omega
 have h3:nl (-a.num).natAbs<=k:=by rw[Kdg];exact h1
 have e:mkRat (-a.num) a.den= -a:=by rw[<-Rat.neg_mkRat,Kc4]
 have hn:=PD (x:=a.num) Oz;have ho:=At (z:= -a.num) (D:=a.den) Oz Oz;rw[e]at ho;refine aE Qg Tryz.func63 anT fun C hP=>?_;refine Sz0 ?_;refine Qb hP hn ?_;refine Sz0 ?_;refine Qb hP ho ?_;refine Sz0 ?_;refine cr ?_;refine Sz0 ?_;exact Qc rfl rfl
theorem RD{a b:Rat}{k:Nat}(ha:rs a<=k)(hb:rs b<=k)(hk:k<2^34):Qd Tryz.prog 145 [PV.rat a,PV.rat b] (· =PV.rat (a-b)):=by have h:=G' (a:=a) (b:= -b) ha (by rw[sw];exact hb) hk;rw[<-Rat.sub_eq_add_neg]at h;refine aE Qg Tryz.func145 akN fun C hP=>?_;refine Sz0 ?_;refine Qb hP (L7 hb Oz) ?_;refine Sz0 ?_;refine Qb hP h ?_;refine Sz0 ?_;refine cr ?_;refine Sz0 ?_;exact Qc rfl rfl
theorem Ox{l:List Rat}{R m:Nat}(hl:l.length=R*m)(hR:0<R)(cy:R<=40)(hm:m<=40):
  gj Tryz.prog 54 [PV.a9 R m l] (fun _=>.undef) aA (fun r F H=>r= .aI 2000000 0 R/\F 2000000= .aC 2000000 1 22 (Qs (rws 3000000 R fun _=>m))/\H 2000000=some ⟨1,22,[],false⟩/\
   ∀i,i<R->H (3000000+i)=some ⟨3,51,Qo PV.rat (Qq l m i) m,false⟩):=by
 refine o6 Qg Tryz.func54 rfl Tt Nz fun C hP=>?_;simp only[MG];refine fw ?_;refine Sz0 ?_;refine di (mP 7 2000000 rfl Oz rfl Oz) ?_;refine Sz0 ?_;refine di (va (γ:=2000000) (e:=1) (ty:=22) (xs:=List.replicate R .au) (fz:=false) Tz0 (by intro h;have:=congrArg List.length h;simp at this;omega) Oz (fun x hx=>by rw[KcL hx];rfl)) ?_;rw[ae4 3000000 R fun _=>m];refine Sz0 ?_;refine eO dV [(3,4),(10,36),(2000000,2000000)] [17] (fun n J hp=>∃i,n=R-i/\i<=R/\J 3= .aI 2000000 0 R/\J 10= .int .i64 (i:Nat)/\J 2000000= .aC 2000000 1 22 (iR 3000000 i R fun _=>m)/\
   hp 1=some ⟨3,24,[PV.a9 R m l],false⟩/\hp 2000000=some ⟨1,22,[],false⟩/\(∀j,j<i->hp (3000000+j)=some ⟨3,51,Qo PV.rat (Qq l m j) m,false⟩)/\∀j,i<=j->hp (3000000+j)=none) R ?_ ?_
 ·refine⟨0,rfl,by omega,?_⟩;refine Sz0 ?_;exact⟨rfl,(fun j hj=>by omega),fun j hj=>trivial⟩
 rintro _ J h ⟨i,rfl,hi,h3,bp,hg,h1,hh,gd,lg⟩;refine Sz2 h3 bp ?_;refine Qa (fun hc=>?_) (fun hc=>?_)
 ·have al:i<R:=by omega
  have il:=lg i (Kae _);refine Sz4 h3 bp h1 hg ?_;refine di (mP 17 (3000000+i) (Tz1 il) Oz rfl Oz) ?_;have vO:∀L,ch (iJ 17 (3000000+i)) (.aC 2000000 1 22 (iR 3000000 i R L))= .aC 2000000 1 22 (iR 3000000 i R L):=fun L=>ajv Oz Oz Oz;refine Sz6 h3 bp h1 hg hh vO ?_;rw[ajt (ty:=22) (B:=3000000) (i:=i) (n:=R) (L:=fun _=>m) (e0:=1) (ty0:=22) (xs0:=[]) (Tz2 hg vO) (Tz1 hh) al Oz rfl];have lP:=fun(K:Qh) (fr:Fr) (hp:HP) d=>aju (d:=d) (fr:=fr) (hp:=hp) (K:=K) (γ:=2000000) (j:=i) (i:=i+1) (n:=R) (ty:=22) (B:=3000000) (L:=fun _=>m);have hb1:(i+1)*m<=R*m:=Kaj _ al;have hb2:i*m<=(i+1)*m:=Kaj _ Oz;have e1:(i:Int)*(m:Int)=((i*m:Nat):Int):=by rw[Kb3]
  have e2:((i:Int)+1)*(m:Int)=(((i+1)*m:Nat):Int):=by rw[Kb3];rfl
  have pK:=O3 hl al;have rO:R*m<=40*40:=KaQ cy hm;refine Sz9 h3 bp h1 hg hh vO lP e1 e2 ?_;rw[abS (xs:=List.replicate m (.agg [.bool false,.au,.au])) (ty:=51) Tz0 Oz (by simp) (by rw[pK,fl])];rw[pK];refine Sz2 h3 bp ?_;refine de (R-(i+1)) Oz ⟨i+1,rfl,by omega,?_⟩;refine Sz4 h3 bp h1 hh ?_;refine⟨fun j hj=>?_,fun j hj=>?_⟩
  ·by_cases e:j=i
   ·subst e;simp+decide (disch:=try exact D0) only[go_sem]
   ·refine Sz1 e ?_;exact gd j Oz
  ·have e:¬j=i:=by omega
   refine Sz1 e ?_;exact lg j Oz
 ·obtain rfl:i=R:=by omega
  rw[ae5]at hg;refine Sz1 h3 ?_;refine Hf ?_;refine Sz2 hg hh ?_;exact gd
end Go.Proofs.YtkoclfmjlolkhaaGreat
namespace Go.FW
open Go
variable {C : Ctx} {ρ : Nat -> Option Nat} {fr aG : Fr} {hp : HP} {w : World} {K R : Qh}
theorem gj.data{P:Program}{f:FuncId}{args:List PV}{aZ:PV->Fr->HP->Prop}{Rr:PV->Prop}(k:Nat)(h:gj P f args (fun _=>.undef) aA aZ)(hl:args.length<=1000000)
  (eY:∀r F H,aZ r F H->w8 (lF r F) k r/\Rr (sO (lF r F) H k r)):Qd P f args Rr:=by
 refine⟨h.1,fun w X bC hX dM iF=>?_⟩
 let C:Ctx:=Ctx.plain P args.length w X hX hl
 have oO:Qv C (fun _=>none) (tY args fun _=>.undef) aA bC w:=by
  refine⟨dM,Ext.refl _ _,(fun _ _ h=>by cases h),by simp[aA],by simp[aA],fun i=>?_⟩;unfold tY;split
  ·cases hi:args[i]? with
   |none=>trivial
   |some p=>
    simp only[Kbb];refine Qn.oc ((iF i p hi).mono (fun _ _ _=>rfl) (fun b _ hn hx=>?_) (Kae _));rcases hx with hx|⟨_,_,h1,_⟩
    ·exact hn hx
    ·simp[aA]at h1
  ·trivial
 refine(h.2 C _ bC w rfl rfl rfl oO).mono ?_;rintro e w' ⟨v,ρ',r,F,H,rfl,hs,hp⟩;obtain⟨h1,h2⟩:=eY r F H hp;have dC:lF r F 0=r:=rfl;obtain⟨ns,cS⟩:=JY (fr:=lF r F) (hp:=H) 0 k (by rw[dC];exact h1) (C.mH 1 (by decide)) #[v] w' ⟨ρ',hs⟩;refine⟨v,_,rfl,Ctx.Jc cS.ext,?_,h2⟩;have bb:=cS.cN 0;rw[dC]at bb;have e1:af (lF r F) 0 (sO (lF r F) H k r) 0=sO (lF r F) H k r:=by simp[af]
 rw[e1]at bb;have hd:fE w' (aK C ns (bW H (Ag (lF r F) k r))) (sO (lF r F) H k r) v:=by
  cases r with
  |bo cs=>exact bb
  |dX cs=>cases h1
  | aI γ o n=>
   cases k with
   |zero=>cases h1
   | succ k=>
    simp only[w8,od]at h1;split at h1
    ·rename_i aj;simp only[sO,eC,aj]at bb⊢;exact bb
    ·exact h1.elim
  |_=>cases h1
 exact hd.mono (fun _ _ _=>rfl) (fun b _ hn hx=>hn (.inl hx)) (Kae _)
theorem PE{γ ty n:Nat}{l:List (Nat×Nat)}(aj:fr γ= .aC γ 1 ty (Qs l))(hn:n=l.length)(h2:2000000<=γ)(hl:∀x∈l,2000000<=x.1):w8 fr 2 (.aI γ 0 n):=by
 simp only[w8,od,aj];refine⟨trivial,by simp[aR];omega,by simp[Qs,hn],fun x hx c hc=>?_⟩;obtain⟨y,hy,rfl⟩:=Kaq.1 (KbO (Kbf hx));obtain rfl:c= .aB y.1 0 y.2:=by simpa[PV.aS,PV.cells]using hc
 have:=hl y hy;simp only[od,aR];simp;omega
theorem RE{γ ty n e':Nat}{l:List (Nat×Nat)}(aj:fr γ= .aC γ 1 ty (Qs l))(hn:n=l.length)(ys:Nat->List PV)(hh:∀x∈l,∃ty' fz,hp x.1=some ⟨e',ty',ys x.1,fz⟩):
  sO fr hp 2 (.aI γ 0 n)= .sl 1 (l.map fun x=>.sl e' ((ys x.1).take x.2)):=by
 simp only[sO,eC,aj,Ka0];rw[Kac (by simp[Qs,hn])];simp only[Qs,KbH];congr 1;refine KaJ fun x hx=>?_;obtain⟨ty',fz,h⟩:=hh x hx;simp[Function.comp,PV.aS,PV.cells,B2,eC,h]
theorem adG {P : Program} {f : FuncId} {fn : Func} {sf : ay} {args : List PV} {Rr : PV -> Prop} (hm : P.follows .mixedOrders = true) (hf : P.funcs[f]? = some fn) (qU : (fn.name != "runtime.NumGoroutine") = true) (hc : Qe P fn = some sf.strip) (hn : args.length <= sf.n /\ sf.n <= 1000000)
  (hv:∀C:Ctx,C.P=P->C.N=sf.n->vc C (vo (gm sf.rs Rr)) [.c sf.body] (lE args) aA):Qd P f args Rr:=by
 simp only[Qe,Kab,Kaa]at hc;obtain⟨c,hb,sb,kB,rs,dt,xQ⟩:=hc;obtain⟨n,Oi,body⟩:=sf;simp only[ay.strip,ay.mk.injEq]at xQ;obtain⟨rfl,rfl,rfl⟩:=xQ;refine⟨by simp[sM,hf,hb];simpa using qU,fun w X bC hX dM iF=>?_⟩
 let C:Ctx:=Ctx.plain P fn.ntmps w X hX hn.2
 refine calls_of_wp hf hb ?_;have uA:(bC++Array.replicate (fn.ntmps-bC.size) undef).size=fn.ntmps:=by simp at hn ⊢;omega
 have oO:ft C (lE args) aA (bC++Array.replicate (fn.ntmps-bC.size) undef) w:=by
  refine⟨fun _=>none,uA,Ext.refl _ _,(fun _ _ h=>by cases h),by simp[aA],by simp[aA],fun i=>?_⟩;unfold lE;cases hi:args[i]? with
  |none=>trivial
  | some p=>
   simp only[Kbb];have jY:i<bC.size:=by rw[dM];exact(Kaf.1 hi).1
   have hr:=iF i p hi;have e:(bC++Array.replicate (fn.ntmps-bC.size) undef).getD i undef=bC.getD i undef:=by rw[mK,if_pos jY]
   rw[e];refine Qn.oc (hr.mono (fun _ _ _=>rfl) (fun b _ hn hx=>?_) (Kae _));rcases hx with hx|⟨_,_,h1,_⟩
   ·exact hn hx
   ·simp[aA]at h1
 have fin:∀(fr:Fr)(hp:HP)(a:Act)(w':World),a.defers=[]->ft C fr hp a.tmps w'->vo (gm rs Rr) fr hp->
   a.defers=[]/\∃v,(results fn a.tmps).run P w'= .ok v w'/\∃v' r,Ending.returned v= .returned v'/\Ext eP w w'/\fE w' X r v'/\Rr r:=by
  rintro fr hp a w' hd iG ⟨sV,jn,hw,hr⟩;obtain⟨ρ,hs⟩:=hw C _ _ iG;obtain⟨v,r,h1,h2,h3⟩:=OQ (C:=C) rfl dt hs hr;exact⟨hd,v,h1,v,r,rfl,Ctx.Jc hs.ext,h2,h3⟩
 exact KP (C:=C) (R:=vo (gm rs Rr)) hm c body [] _ (lE args) aA _ w kB ⟨fun fr hp a w' hd hs hv=>(by rw[wN]at hv;exact fin fr hp a w' hd hs hv),fun id fj he=>(by simp[FW.cC]at he),fin⟩ rfl oO (hv C rfl rfl)
theorem o8 {P : Program} {f : FuncId} {fn : Func} {sf : ay} {args : List PV} {Rr : PV -> Prop} (hm : P.follows .mixedOrders = true) (hf : P.funcs[f]? = some fn) (qU : (fn.name != "runtime.NumGoroutine") = true) (hc : Qe P fn = some sf.strip) (hn : args.length <= sf.n /\ sf.n <= 1000000)
  (hv:∀C:Ctx,C.P=P->vc C (vo (gm sf.rs Rr)) [.c sf.body] (lE args) aA):Qd P f args Rr:=
 adG hm hf qU hc hn fun C h _=>hv C h
theorem G2{aZ:PV->Fr->HP->Prop}(h:aZ (.aH []) fr hp):rL [] aZ fr hp:=by refine rz ?_;simp only[gm,KaB,VB];exact⟨by simp,_,af2 _,h⟩
theorem akT{ty w i d:Nat}{fz:Bool}{f:Nat->Rat}(h:i<w):nq (some ⟨3,ty,Qo PV.rat f w,fz⟩) 3 true i 0 d fr hp K=K (af fr d (PV.rat (f i))) hp:=by rw[uZ (by rw[fl];exact h) (by omega) (by simp),rC];rfl
theorem HK{ty β w i:Nat}{f:Nat->Rat}{v:Rat}(h:i<w):stM (some ⟨3,ty,Qo PV.rat f w,false⟩) β 3 i 0 (PV.rat v) fr hp K=K fr (Qj hp β ⟨3,ty,Qo PV.rat (fun c=>if c=i then v else f c) w,false⟩):=by have e:=qp (fr:=fr) (hp:=hp) (K:=K) (n:=3) (ty:=ty) (β:=β) (i:=i) (xs:=Qo PV.rat f w) (v:=PV.rat v) (by rw[fl];exact h) rfl rfl;rw[Rf (g:=fun c=>if c=i then v else f c) fun k _=>rfl]at e;exact e
theorem wW{e ty:Nat}{xs ys:List PV}{fz:Bool}(h:xs=ys):HB.mk e ty xs fz=HB.mk e ty ys fz:=by rw[h]
theorem FI:(oy (.aH [])=True)/\(∀(k:IntKind)(n:Int),oy (.int k n)=True)/\(∀b:Bool,oy (.bool b)=True)/\(∀(e:Nat)(xs:List PV),oy (.sl e xs)=True)/\(∀cs:List PV,oy (.agg cs)=True)/\(∀cs:List PV,oy (.aH cs)=True):=by refine⟨?_,?_,?_,?_,?_,?_⟩<;>intros<;>simp[oy,PV.refs,PV.aQ,ch,dW]
attribute [go_sem] FI akT
end Go.FW
