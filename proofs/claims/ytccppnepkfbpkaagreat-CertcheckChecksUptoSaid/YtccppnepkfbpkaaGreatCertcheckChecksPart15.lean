/- Part 15 of the proof of CertcheckChecks: J10, J11, J12, U5, G1, G2, G3, G4, G5, W7, W8, G6, G7, G8, FwVD, FwWH. Own lemmas; no conditions. -/
import Derived.Test.YtccppnepkfbpkaaGreatCertcheckChecksPart14
set_option maxHeartbeats 1000000
set_option linter.unusedSimpArgs false
set_option linter.unusedVariables false
set_option linter.unnecessarySimpa false
set_option maxRecDepth 100000
namespace Go.Proofs.YtccppnepkfbpkaaGreat
open Go Go.FW
theorem aft(hN:oK){S:List Q4}{G:List bz}(hS:S.length<2^40)(hG:G.length<2^40)(hb:∀s∈S,jb s)(hg:∀g∈G,kC g):Qd Tryz.prog 37 [PV.cu S G] (fun r=>∃b,r= .bool b/\(b=true->lV S G)):=by have h:=aex hN hS hG hb hg;refine aB Qh Tryz.func37 ahK fun C hP=>?_;refine Sz0 ?_;refine fT hP h rfl rfl rfl ?_;rintro _ ⟨b,rfl,hb⟩;refine Sz0 ?_;exact cJ ⟨b,rfl,hb⟩ rfl
theorem Ow(cs:List Cd)(f:bz):(iK cs f).1=[]∨(fS f cs.length=0/\(iK cs f).1=ie f.k (fun i=>(ct cs f.args).getD i ([],[])) (rv f.n f.a f.d)):=by
 unfold iK;split
 ·rename_i h0;split
  ·exact .inl rfl
  ·exact .inr ⟨h0,rfl⟩
 ·exact .inl rfl
theorem WY{k:Int}{p:Nat->Cd}{r:Rat}:(ie k p r).length<=2:=by
 unfold ie;repeat' split
 all_goals simp
def xS(S:List Q4)(G:List bz):List (List Tm):=gz S S.length++ri S++(jR S G).flatten
theorem HV{S:List Q4}{G:List bz}(hF:lV S G)(hb:∀s∈S,jb s)(hg:∀g∈G,kC g):∀l∈jR S G,l.length<=2:=fun l hl=>by
 obtain⟨g,hm,rfl⟩:=KaE.1 hl;rcases Ow (dV S) g with e|⟨_,e⟩
 ·rw[e];simp
 ·rw[e];exact WY
theorem Hv(S:List Q4):∀i,(gz S i).length<=2*i
 |0=>by simp[gz]
 |n+1=>by have ih:=Hv S n;rw[gz,Kax];have:(qY S (dV S) (iu S) n).length<=2:=Ms;omega
theorem LD{Q:List (List (List Tm))}(h:∀l∈Q,l.length<=2):Q.flatten.length<=2*Q.length:=by
 induction Q with
 |nil=>simp
 |cons a l ih=>have h1:=h a Kbp;have h2:=ih fun x hx=>h x (KaZ _ hx);simp only[List.flatten_cons,Kax,KaQ];omega
theorem ZI(hN:oK){S:List Q4}{G:List bz}(hS:S.length<2^40)(hG:G.length<2^40)(hb:∀s∈S,jb s)(hg:∀g∈G,kC g):
  Qd Tryz.prog 15 [PV.cu S G] (fun r=>∃b,r= .bool b/\(b=true->lV S G/\∀p∈xS S G,p.length<=60)):=by
 have amZ:=aft hN hS hG hb hg;refine aB Qh Tryz.func15 ahL fun C hP=>?_;refine Sz0 ?_;refine fT hP amZ rfl rfl rfl ?_;rintro _ ⟨b,rfl,hF⟩;cases b
 ·refine Sz0 ?_;exact cJ ⟨false,rfl,fun h=>by cases h⟩ rfl
 replace hF:=hF rfl;have hM:=LC hN hF hS hG hb hg;refine Sz0 ?_;refine fT hP hM rfl rfl ?_ ?_
 ·rfl
 rintro _ ⟨M,e,rfl,⟨rfl,rfl⟩|⟨he,rfl⟩⟩
 rotate_left
 ·have d:decide (¬e=0)=true:=decide_eq_true he;refine Sz1 d ?_;exact cJ ⟨false,rfl,fun h=>by cases h⟩ rfl
 have qq:=Hv S S.length;have mm:(ri S).length<=S.length:=by unfold ri;rw[KaV];exact HU S _
 have yt:(jR S G).length=G.length:=by simp[jR]
 have sZ:=HV hF hb hg;have qg:=hF.l;have hG3:=hF.gl;have aP:∀L,L=gz S S.length++ri S++(jR S G).flatten->L=xS S G:=fun L h=>h;unfold vE;generalize gz S S.length=H at *
 generalize ri S=P at *
 generalize jR S G=Q at *
 have hl5:=LD sZ;refine Sz0 ?_;refine aa8 okB [(5,5),(18,24)] [18] (fun J hp=>J 5= .ms 18 (H.length+P.length)/\hp 3=some ⟨7,34,[PV.gW S G (dV S) (iu S) H P Q],false⟩/\hp 18=some ⟨1,43,(H++P).map PV.ao,false⟩) ?_ ?_
 ·repeat' first
   |refine dI ?_ ?_
   |rw[aj8 (by omega)]
   |rw[jG (f:=PV.ao) (ty:=43) (xs:=([]:List (List Tm))) (ys:=H) (by rfl) (by rfl) (by omega) (by simp;omega) (by simp;omega)]
   |rw[jG (f:=PV.ao) (ty:=43) (xs:=H) (ys:=P) (by rfl) (by rfl) (by omega) (by omega) (by omega)]
   |simp+decide (disch:=try exact D0) only[go_sem]
  all_goals
   refine DG ?_;exact Tz0
 rintro J h ⟨j5,b3,Rf⟩;obtain⟨A,hA⟩:∃A:Nat->List (List Tm),∀i,A i=H++P++(Q.take i).flatten:=⟨_,fun _=>rfl⟩
 have AE:A 0=H++P:=by rw[hA];simp
 have RJ:∀i (h:i<Q.length),A (i+1)=A i++Q[i]:=fun i h=>by rw[hA,hA,Kao h,List.flatten_append,Kbv];simp
 have uu:∀i,(A i).length<=100:=fun i=>by
  have h1:=LD (Q:=Q.take i) fun l hl=>sZ l (Ka4 hl);rw[hA,Kax,Kax];have:(Q.take i).length<=Q.length:=by rw[Kay];omega
  omega
 have IQ:A Q.length=xS S G:=aP _ (by rw[hA,KaT]);clear hA aP hl5;rw[<-AE]at Rf;rw[<-List.length_append,<-AE]at j5;refine Sz0 ?_;refine Ql okB [(5,6),(25,38)] [18,38] (fun q J hp=>∃i,q=Q.length-i/\i<=Q.length/\J 5= .ms 18 (A i).length/\J 6= .int .i64 (i:Nat)/\hp 3=some ⟨7,34,[PV.gW S G (dV S) (iu S) H P Q],false⟩/\hp 18=some ⟨1,43,(A i).map PV.ao,false⟩) Q.length ?_ ?_
 ·refine⟨0,rfl,by omega,?_⟩;refine Sz3 j5 b3 Rf ?_;rfl
 rintro _ J1 h1 ⟨i,rfl,hi,k5,k6,c3,Ay⟩;refine Sz2 k6 c3 ?_;refine Qb (fun hc=>?_) (fun hc=>?_)
 ·have az:i<Q.length:=by omega
  have hs:=RJ i az;have hl:=uu i;have h2:=sZ _ (Kah az);generalize hx:Q[i]=x at *
  refine Sz4 k5 k6 c3 hx ?_;rw[jG (f:=PV.ao) (xs:=A i) (ys:=x) Ay rfl (by omega) (by omega) (by omega)];refine Sz1 k6 ?_;refine Qg (Q.length-(i+1)) (by omega) ⟨i+1,rfl,by omega,?_⟩;rw[hs,Kax,KbQ];exact Tz1 c3
 obtain rfl:i=Q.length:=by omega
 rw[IQ]at k5 Ay;have jW:=uu Q.length;rw[IQ]at jW;clear IQ RJ uu AE;generalize xS S G=L at *
 refine Sz1 k5 ?_;refine Ql okB [(2,2),(7,7),(39,50)] [] (fun q J hp=>∃i,q=L.length-i/\i<=L.length/\(∀n (h:n<L.length),n<i->L[n].length<=60)/\J 7= .int .i64 (i:Nat)/\hp 18=some ⟨1,43,L.map PV.ao,false⟩) L.length ?_ ?_
 ·refine⟨0,rfl,by omega,by omega,?_⟩;refine Sz1 Ay ?_;rfl
 rintro _ J2 h2 ⟨i,rfl,hi,Ex,m7,d18⟩;refine Sz2 k5 m7 ?_;refine Qb (fun hc=>?_) (fun hc=>?_)
 ·have az:i<L.length:=by omega
  have bn:L[i].length<=60->∀n (h:n<L.length),n<i+1->L[n].length<=60:=fun h n hn rI=>by
   by_cases e:n=i
   ·subst e;exact h
   ·exact Ex n hn (by omega)
  have s5:∀fr hp d K,iD (some ⟨1,43,L.map PV.ao,false⟩) 1 false i 0 d fr hp K=K (ab fr d (PV.ao L[i])) hp:=fun fr hp d K=>by rw[oO (by rw[KaV];exact az) (by omega) (by simp),Kb1];rfl
  generalize hx:L[i]=x at *
  refine Sz4 k5 m7 d18 s5 ?_;refine Qb (fun hq=>?_) (fun hq=>?_)
  ·refine Sz0 ?_;exact cJ ⟨false,rfl,fun h=>by cases h⟩ rfl
  refine Sz1 m7 ?_;refine Qg (L.length-(i+1)) (by omega) ⟨i+1,rfl,by omega,bn (by omega),?_⟩;exact Tz1 d18
 obtain rfl:i=L.length:=by omega
 refine Sz0 ?_;refine cJ ⟨true,rfl,fun _=>⟨hF,fun p hp=>?_⟩⟩ rfl;obtain⟨n,hn,rfl⟩:=Kaz hp;exact Ex n hn hn
structure B1(S:List Q4)(G:List bz):Prop where
 F:lV S G
 a:∀p∈xS S G,p.length<=60
 h:(gz S S.length).length<=4
 g:∀l∈jR S G,∀p∈l,p.length<=12
theorem ZJ(hN:oK){S:List Q4}{G:List bz}(hS:S.length<2^40)(hG:G.length<2^40)(hb:∀s∈S,jb s)(hg:∀g∈G,kC g):
  Qd Tryz.prog 5 [PV.cu S G] (fun r=>∃M b,r= .aI [M,.bool b]/\(M=vE S G∨M=sG)/\(b=true->M=vE S G/\B1 S G)):=by
 have hL:=ZI hN hS hG hb hg;refine aB Qh Tryz.func5 ajo fun C hP=>?_;refine Sz0 ?_;refine fT hP hL rfl rfl rfl ?_;rintro _ ⟨b,rfl,hF⟩;cases b
 ·refine Sz0 ?_;refine fp ?_;refine Sz0 ?_;exact il ⟨sG,false,rfl,.inr rfl,fun h=>by cases h⟩ rfl rfl DQ (Qf _)
 obtain⟨hF,ha⟩:=hF rfl;have hM:=LC hN hF hS hG hb hg;refine Sz0 ?_;refine fT hP hM rfl rfl ?_ ?_
 ·rfl
 rintro _ ⟨M,e,rfl,⟨rfl,rfl⟩|⟨he,rfl⟩⟩
 rotate_left
 ·have d:decide (e=0)=false:=decide_eq_false he;refine Sz1 d ?_;refine Ql okB [(3,3),(6,7),(20,44)] [] (fun q J hp=>q=0/\J 20= .int .i64 0/\hp 2=some ⟨7,34,[.agg [.aa,.aa,.aa,.aa,.aa,.aa,.aa]],false⟩/\hp 4=some ⟨7,34,[sG],false⟩) 0 ?_ ?_
  ·refine⟨rfl,?_⟩;refine Sz0 ?_;rfl
  rintro _ J h ⟨rfl,gE,b2,b4⟩;refine Sz1 gE ?_
  repeat' first|refine dI ?_ ?_|simp+decide (disch:=try exact D3 b2 b4 d) only[go_sem,b2,b4,d]
  all_goals
   refine fp ?_;refine Sz0 ?_;exact il ⟨sG,false,rfl,.inr rfl,fun h=>by cases h⟩ rfl rfl (Qf _) (Qf _)
 have yt:(jR S G).length<=3:=by simp[jR];exact hF.gl
 have sZ:=HV hF hb hg;have qq:=Hv S S.length;have qg:=hF.l;have aP:(gz S S.length).length<=4->(∀l∈jR S G,∀p∈l,p.length<=12)->B1 S G:=fun h1 h2=>⟨hF,ha,h1,h2⟩
 obtain⟨M,IY⟩:∃M,vE S G=M:=⟨_,rfl⟩
 have hMx:M=PV.gW S G (dV S) (iu S) (gz S S.length) (ri S) (jR S G):=IY.symm;rw[IY];generalize gz S S.length=H at *
 generalize ri S=P at *
 generalize jR S G=Q at *
 generalize dV S=C0 at *
 generalize iu S=V0 at *
 subst hMx;clear IY hM ha;refine Sz0 ?_;refine Ql okB [(3,3),(6,7),(20,44)] [] (fun q J hp=>∃i,q=Q.length-i/\i<=Q.length/\(∀n (h:n<Q.length),n<i->∀p∈Q[n],p.length<=12)/\J 20= .int .i64 (i:Nat)/\hp 2=some ⟨7,34,[.agg [.aa,.aa,.aa,.aa,.aa,.aa,.aa]],false⟩/\hp 4=some ⟨7,34,[PV.gW S G C0 V0 H P Q],false⟩) Q.length ?_ ?_
 ·refine⟨0,rfl,by omega,by omega,?_⟩;refine Sz0 ?_;rfl
 rintro _ J h ⟨i,rfl,hi,iw,gE,b2,b4⟩;refine Sz1 gE ?_;refine Qb (fun hc=>?_) (fun hc=>?_)
 ·have az:i<Q.length:=by omega
  have jC:=sZ _ (Kah az);have bn:(∀p∈Q[i],p.length<=12)->∀n (h:n<Q.length),n<i+1->∀p∈Q[n],p.length<=12:=fun h n hn rI=>by
   by_cases e:n=i
   ·subst e;exact h
   ·exact iw n hn (by omega)
  generalize hx:Q[i]=x at *
  refine Sz3 gE b4 hx ?_;refine Ql okB [(3,3),(7,7),(29,43)] [] (fun q J2 hp=>∃k,q=x.length-k/\k<=x.length/\(∀n (h:n<x.length),n<k->x[n].length<=12)/\J2 29= .int .i64 (k:Nat)/\hp 2=some ⟨7,34,[.agg [.aa,.aa,.aa,.aa,.aa,.aa,.aa]],false⟩/\hp 4=some ⟨7,34,[PV.gW S G C0 V0 H P Q],false⟩) x.length ?_ ?_
  ·refine⟨0,rfl,by omega,by omega,?_⟩;refine Sz2 b2 b4 ?_;rfl
  rintro _ J2 h2 ⟨k,rfl,hk,RH,Ke,c2,c4⟩;refine Sz1 Ke ?_;refine Qb (fun eR=>?_) (fun eR=>?_)
  ·have cI:k<x.length:=by omega
   have od:x[k].length<=12->∀n (h:n<x.length),n<k+1->x[n].length<=12:=fun h n hn rI=>by
    by_cases e:n=k
    ·subst e;exact h
    ·exact RH n hn (by omega)
   generalize hy:x[k]=y at *
   refine Sz6 gE Ke c2 c4 hx hy ?_;refine Qb (fun hq=>?_) (fun hq=>?_)
   ·refine Sz2 c2 c4 ?_;refine fp ?_;refine Sz0 ?_;exact il ⟨_,false,rfl,.inl rfl,fun h=>by cases h⟩ rfl rfl (Qf _) (Qf _)
   refine Sz1 Ke ?_;refine Qg (x.length-(k+1)) (by omega) ⟨k+1,rfl,by omega,od (by omega),?_⟩;exact Tz2 c2 c4
  obtain rfl:k=x.length:=by omega
  refine Sz1 gE ?_;simp (disch:=decide) only[iT,nO];refine Qg (Q.length-(i+1)) (by omega) ⟨i+1,rfl,by omega,bn (fun p hp=>?_),?_⟩
  ·obtain⟨n,hn,rfl⟩:=Kaz hp;exact RH n hn hn
  exact Tz2 c2 c4
 obtain rfl:i=Q.length:=by omega
 have amU:∀l∈Q,∀p∈l,p.length<=12:=fun l hl=>by obtain⟨n,hn,rfl⟩:=Kaz hl;exact iw n hn hn
 repeat' first|refine dI ?_ ?_|simp+decide (disch:=try exact D2 b2 b4) only[go_sem,b2,b4]
 all_goals
  refine fp ?_;refine Sz0 ?_;exact il ⟨_,_,rfl,.inl rfl,fun h=>⟨rfl,aP (by have:=of_decide_eq_true h;omega) amU⟩⟩ rfl rfl (Qf _) (Qf _)
theorem pP{a b E:Nat}{p:List Tm}(h:SZ a b E p)(ha:a<=30912)(hb:b<=30912)(hE:E<=30912)(hl:p.length<=60)(hn:bf p):eX 483 p:=⟨h.mono (by omega) (by omega) (by omega),by omega,hn⟩
theorem Ns{a b c d e f g h:Cd}(ha:CW a)(hb:CW b)(hc:CW c)(hd:CW d)(he:CW e)(hf:CW f)(hg:CW g)(hh:CW h)(hl:(nT a b c d e f g h).length<=60):eX 483 (nT a b c d e f g h):=by have:=((oN ha hb hc hd).mul (cZ he hf hg hh)).sub ((oN he hf hg hh).mul (cZ ha hb hc hd));exact pP this.z (by omega) (by omega) (by omega) hl this.q.n
theorem afu{a b E k:Nat}{p:List Tm}{r:Rat}(h:SZ a b E p)(hn:bf p)(hr:rs r+1<=k):SZ (a+(1*k+1)) (b+(1+k+2)) E (dS p r):=by rw[<-CT hn r];have:=(SZ.of (PQ.const hr).b (PQ.const hr).l).tp h;exact this.mono (by omega) (by omega) (by omega)
theorem Q1.add{p q:List Tm}(hp:QZ 8 120 8 961 130 p)(hq:QZ 8 120 8 961 130 q):QZ 16 242 8 1927 138 (Qq p q):=(QZ.add hp hq).mono (by omega) (by omega) (by omega) (by omega) (by omega)
theorem WZ{k:Int}{p:Nat->Cd}{r:Rat}(hp:∀i,CW (p i))(hr:k<=8∨rs r<=1000)(hk:1<=k):∀q∈ie k p r,q.length<=60->eX 483 q:=fun q hq hl=>by
 unfold ie at hq;have one:∀ {x:List Tm},eX 483 x∨(x.length<=60->eX 483 x)->q∈[x]->eX 483 q:=fun {x} h hm=>by rw[Kaw.1 hm]at hl⊢;exact h.elim id fun h=>h hl
 split at hq
 ·exact one (.inr fun hl=>by have:=oN (hp 0) (hp 1) (hp 0) (hp 2);exact pP this.z (by omega) (by omega) (by omega) hl this.q.n) hq
 split at hq
 ·exact one (.inr fun hl=>by have:=oN (hp 0) (hp 1) (hp 2) (hp 3);exact pP this.z (by omega) (by omega) (by omega) hl this.q.n) hq
 split at hq
 ·exact one (.inr fun hl=>by have:=cZ (hp 0) (hp 1) (hp 2) (hp 3);exact pP this.z (by omega) (by omega) (by omega) hl this.q.n) hq
 split at hq
 ·exact one (.inr fun hl=>by have:=(cZ (hp 0) (hp 1) (hp 0) (hp 1)).sub (cZ (hp 2) (hp 3) (hp 2) (hp 3));exact pP this.z (by omega) (by omega) (by omega) hl this.q.n) hq
 split at hq
 ·have h1:=QZ.sub (Q1.add (hp 1).x (hp 2).x) (Q1.add (hp 0).x (hp 0).x);have h2:=QZ.sub (Q1.add (hp 1).y (hp 2).y) (Q1.add (hp 0).y (hp 0).y);rcases KaC.1 hq with rfl|hq
  ·exact pP h1.z (by omega) (by omega) (by omega) hl h1.q.n
  ·rw[Kaw.1 hq]at hl⊢;exact pP h2.z (by omega) (by omega) (by omega) hl h2.q.n
 split at hq
 ·exact one (.inr fun hl=>Ns (hp _) (hp _) (hp _) (hp _) (hp _) (hp _) (hp _) (hp _) hl) hq
 split at hq
 ·exact one (.inr fun hl=>Ns (hp _) (hp _) (hp _) (hp _) (hp _) (hp _) (hp _) (hp _) hl) hq
 split at hq
 ·have h1:=Q1.of (hp 0).x (hp 1).x;have h2:=Q1.of (hp 0).y (hp 1).y;rcases KaC.1 hq with rfl|hq
  ·exact pP h1.z (by omega) (by omega) (by omega) hl h1.q.n
  ·rw[Kaw.1 hq]at hl⊢;exact pP h2.z (by omega) (by omega) (by omega) hl h2.q.n
 ·refine one (.inr fun hl=>?_) hq;have h1:=cZ (hp 0) (hp 1) (hp 0) (hp 1);have h2:=cZ (hp 2) (hp 3) (hp 2) (hp 3);have du:rs r+1<=1001:=by omega
  have h3:=Nm h1.z (afu h2.z h2.q.n du) (oI h2.q.n.s _);exact pP h3 (by omega) (by omega) (by omega) hl (h1.q.sub (h2.q.scale du)).n
theorem abY{S:List Q4}{G:List bz}(hF:lV S G)(hb:∀s∈S,jb s)(hg:∀g∈G,kC g):∀l∈jR S G,∀q∈l,q.length<=60->eX 483 q:=fun l hl q hq Ex=>by
 obtain⟨g,hm,rfl⟩:=KaE.1 hl;rcases Ow (dV S) g with e|⟨h0,e⟩
 ·rw[e]at hq;cases hq
 rw[e]at hq;have ok:=Po hF hb (hg g hm) hm;have hC:=Aj hF hb;obtain⟨k0,k1,hr,_⟩:=Ad h0;have ha:=HT hr;refine WZ (fun i=>?_) ?_ ?_ q hq Ex
 ·rw[Kad];cases e:(ct (dV S) g.args)[i]? with
  |none=>exact CW.nil
  |some c=>exact hC c (ha c (Kaj e))
 ·by_cases h9:g.k=9
  ·exact .inr (ok.r h0 h9).2
  ·refine .inl ?_;unfold eO at k0
   repeat' split at k0
   all_goals omega
 ·unfold eO at k0
  repeat' split at k0
  all_goals omega
theorem QV{S:List Q4}{G:List bz}(hF:lV S G)(hb:∀s∈S,jb s):∀n,n<=S.length->∀q∈gz S n,HQ q
 |0,_,q,hq=>by cases hq
 |n+1,hn,q,hq=>by
  rw[gz,KaG]at hq;rcases hq with h|h
  ·exact QV hF hb n (by omega) q h
  have hl:=(Af S S.length).1;have qg:=hF.l;have di:(dV S).length=S.length:=ss S S.length;refine abT (by show(bA S S.length).2.1.length<=64;omega) (Aj hF hb) ?_ q h;have e:S.getD n cz=S[n]:=by rw[Kad,Kag (show n<S.length by omega)];rfl
  rw[e];intro a ha;have:=(hF.f.s n (by omega)).r a ha;omega
structure Gm(H:List (List Tm))(Q:List (List (List Tm))):Prop where
 h:∀p∈H,eX 483 p
 hl:H.length<=4
 q:∀l∈Q,∀p∈l,eX 483 p
 ql:∀l∈Q,l.length<=2
 l:Q.length<=3
theorem B1.hg{S:List Q4}{G:List bz}(h:B1 S G)(hb:∀s∈S,jb s)(hg:∀g∈G,kC g):Gm (gz S S.length) (jR S G):=by
 refine⟨fun p hp=>?_,h.h,fun l hl p hp=>?_,HV h.F hb hg,?_⟩
 ·have:=QV h.F hb S.length (Kae _) p hp;have hl:=h.a p (by unfold xS;simp[hp]);exact pP this.z (by omega) (by omega) (by omega) hl this.q.n
 ·have mm:=h.g l hl p hp;exact abY h.F hb hg l hl p hp (by omega)
 ·have:=h.F.gl;simp[jR];exact this
def mF(t:cm):Bool:=decide (t.m.length<=4)&&(decide (t.a.length<=2)&&(decide (t.d.length<=2)&&t.m.all fun x=>decide (x<=4)))
def nd(l:List cm):Bool:=decide (l.length<=6)&&(l.all mF&&cK l)
theorem Qxy{l:List cm}{k:Nat}(hb:∀t∈l,RB k t)(dn:1<=k)(hk:k<2^36)(jW:l.length<2^40):
  Qd Tryz.prog 10 [PV.kT l] (· = .bool (nd l)):=by
 have bad:∀i (h:i<l.length),mF l[i]=false->nd l=false:=fun i hi h=>by
  have:l.all mF=false:=by rw[KbW];exact⟨_,Kah hi,by simp[h]⟩
  simp[nd,this]
 refine aB Qh Tryz.func10 ah0 fun C hP=>?_;refine Sz0 ?_;refine Qb (fun hn=>?_) (fun hn=>?_)
 ·refine Sz0 ?_;exact Qc (by simp[nd,show ¬l.length<=6 by omega]) rfl
 have om:l.length<=6:=by omega
 refine Sz0 ?_;refine Ql okB [(2,4),(8,60)] [] (fun m J hp=>∃i,m=l.length-i/\i<=l.length/\(∀j (h:j<l.length),j<i->mF l[j]=true)/\J 3= .int .i64 (i:Nat)) l.length ?_ ?_
 ·refine⟨0,rfl,by omega,by omega,?_⟩;refine Sz0 ?_;rfl
 rintro _ J h ⟨i,rfl,hi,h1,h9⟩;refine Sz1 h9 ?_;refine Qb (fun hg=>?_) (fun hg=>?_)
 ·have az:i<l.length:=by omega
  have fN:=hb _ (Kah az);have gB:=bad i az;have uE:=fN.l;have bn:mF l[i]=true->∀j (h:j<l.length),j<i+1->mF l[j]=true:=fun h j hj fa=>by
   by_cases e:j=i
   ·subst e;exact h
   ·exact h1 j hj (by omega)
  generalize hx:l[i]=x at *
  refine Sz2 h9 hx ?_;refine Qo (fun h2=>?_) (fun h2=>?_)
  ·refine Sz2 h9 hx ?_;exact Qc (by rw[gB (by simp[mF,show ¬x.m.length<=4 by omega])]) rfl
  refine Sz2 h9 hx ?_;refine Qo (fun h3=>?_) (fun h3=>?_)
  ·refine Sz2 h9 hx ?_;exact Qc (by rw[gB (by simp[mF,show ¬x.a.length<=2 by omega])]) rfl
  refine Sz2 h9 hx ?_;refine Qb (fun h4=>?_) (fun h4=>?_)
  ·refine Sz2 h9 hx ?_;exact Qc (by rw[gB (by simp[mF,show ¬x.d.length<=2 by omega])]) rfl
  refine Sz2 h9 hx ?_;refine Ql okB [(2,2),(4,4),(42,60)] [] (fun m J hp=>∃j,m=x.m.length-j/\j<=x.m.length/\(∀y∈x.m.take j,y<=4)/\J 4= .int .i64 (j:Nat)) x.m.length ?_ ?_
  ·refine⟨0,rfl,by omega,by simp,?_⟩;refine Sz0 ?_;rfl
  rintro _ J2 ll ⟨j,rfl,hj,h5,bh⟩;refine Sz3 h9 bh hx ?_;refine Qb (fun dX=>?_) (fun dX=>?_)
  ·have cg:j<x.m.length:=by omega
   have gD:=Kah cg;have bO:x.m.take (j+1)=x.m.take j++[x.m[j]]:=Kao cg;generalize hy:x.m[j]=y at *
   refine Sz4 h9 bh hx hy ?_;refine Qb (fun h6=>?_) (fun h6=>?_)
   ·refine Sz3 h9 bh hx ?_;refine Qc ?_ rfl;rw[gB];have:(x.m.all fun x=>decide (x<=4))=false:=by rw[KbW];exact⟨y,gD,by simp;omega⟩
    simp[mF,this]
   ·refine Sz3 h9 bh hx ?_;refine Qg (x.m.length-(j+1)) (by omega) ⟨j+1,rfl,by omega,?_,?_⟩
    ·rw[bO];intro z hz;rcases KaG.1 hz with hz|hz
     ·exact h5 z hz
     ·simp at hz;omega
    ·exact Tz0
  ·rw[Kai (by omega)]at h5;have te:mF x=true:=by simp only[mF,Kav,decide_eq_true_eq,Kap];exact⟨by omega,by omega,by omega,h5⟩
   refine Sz2 h9 bh ?_;simp (disch:=decide) only[iT,nO];refine Qg (l.length-(i+1)) (by omega) ⟨i+1,rfl,by omega,bn te,?_⟩;exact Tz0
 ·obtain rfl:i=l.length:=by omega
  have aP:l.all mF=true:=by rw[Kap];intro t ht;obtain⟨j,hj,rfl⟩:=Kaz ht;exact h1 j hj hj
  refine Sz0 ?_;refine Qa hP (GH hb dn hk jW) rfl rfl rfl ?_;refine Sz0 ?_;exact Qc (by simp[nd,om,aP]) rfl
def rj(ls:List (List cm)):Bool:=decide (ls.length<=4)&&ls.all nd
theorem ND{ls:List (List cm)}{k:Nat}(hb:∀l∈ls,(∀t∈l,RB k t)/\l.length<2^40)(dn:1<=k)(hk:k<2^36)(jW:ls.length<2^40):
  Qd Tryz.prog 44 [.sl 1 (ls.map PV.kT)] (· = .bool (rj ls)):=by
 refine aB Qh Tryz.func44 ah1 fun C hP=>?_;refine Sz0 ?_;refine Qb (fun hn=>?_) (fun hn=>?_)
 ·refine Sz0 ?_;exact Qc (by simp[rj,show ¬ls.length<=4 by omega]) rfl
 have om:ls.length<=4:=by omega
 refine Sz0 ?_;refine Ql okB [(2,3),(7,18)] [] (fun m J hp=>∃i,m=ls.length-i/\i<=ls.length/\(∀j (h:j<ls.length),j<i->nd ls[j]=true)/\J 3= .int .i64 (i:Nat)) ls.length ?_ ?_
 ·refine⟨0,rfl,by omega,by omega,?_⟩;refine Sz0 ?_;rfl
 rintro _ J h ⟨i,rfl,hi,h1,h3⟩;refine Sz1 h3 ?_;refine Qb (fun hg=>?_) (fun hg=>?_)
 ·have az:i<ls.length:=by omega
  have fN:=hb _ (Kah az);have gD:=Kah az;have bn:nd ls[i]=true->∀j (h:j<ls.length),j<i+1->nd ls[j]=true:=fun h j hj fa=>by
   by_cases e:j=i
   ·subst e;exact h
   ·exact h1 j hj (by omega)
  generalize hx:ls[i]=x at *
  refine Sz2 h3 hx ?_;refine Qa hP (Qxy fN.1 dn hk fN.2) rfl rfl rfl ?_;refine Sz1 h3 ?_;cases hs:nd x
  ·refine Sz2 h3 hs ?_;refine Qc ?_ rfl;have:ls.all nd=false:=by rw[KbW];exact⟨x,gD,by simp[hs]⟩
   simp[rj,this]
  ·refine Sz2 h3 hs ?_;refine Qg (ls.length-(i+1)) (by omega) ⟨i+1,rfl,by omega,bn hs,?_⟩;exact Tz0
 ·obtain rfl:i=ls.length:=by omega
  refine Sz0 ?_;refine Qc ?_ rfl;have:ls.all nd=true:=by rw[Kap];intro t ht;obtain⟨j,hj,rfl⟩:=Kaz ht;exact h1 j hj hj
  simp[rj,this,om]
structure eL where
 fs:List (List cm)
 ps:List Int
 n:Int
 cs:List (List cm)
abbrev PV.nF(c:eL):PV:=.agg [.sl 1 (c.fs.map PV.kT),PV.mono c.ps,.int .i64 c.n,.sl 1 (c.cs.map PV.kT)]
structure RC(k:Nat)(c:eL):Prop where
 f:∀l∈c.fs,(∀t∈l,RB k t)/\l.length<2^40
 g:∀l∈c.cs,(∀t∈l,RB k t)/\l.length<2^40
 fl:c.fs.length<2^40
 cl:c.cs.length<2^40
 pl:c.ps.length<2^40
def uc(c:eL):Bool:=rj c.fs&&(rj c.cs&&decide (c.ps.length<=6))
theorem Wv{c:eL}{k:Nat}(hb:RC k c)(dn:1<=k)(hk:k<2^36):Qd Tryz.prog 17 [PV.nF c] (· = .bool (uc c)):=by
 have h1:=ND hb.f dn hk hb.fl;have h2:=ND hb.g dn hk hb.cl;have h3:=hb.pl;refine aB Qh Tryz.func17 ah2 fun C hP=>?_;refine Sz0 ?_;refine Qa hP h1 rfl rfl rfl ?_;cases e1:rj c.fs
 ·refine Sz0 ?_;exact Qc (by simp[uc,e1]) rfl
 refine Sz0 ?_;refine Qa hP h2 rfl rfl rfl ?_;cases e2:rj c.cs
 ·refine Sz0 ?_;exact Qc (by simp[uc,e2]) rfl
 refine Sz0 ?_;exact Qc (by simp only[uc,e1,e2,KcH];exact congrArg PV.bool (decide_eq_decide.2 ⟨fun h=>by omega,fun h=>by omega⟩)) rfl
theorem z4{a b c d:Nat}(h:a<=c)(h2:b<=d):a*b<=c*d:=KbO h h2
theorem NX{p q:List Tm}{n m w:Nat}(hw:w<=512)(hp:gY m p)(hq:eX w q)(hn:n<=64)(hm:m+n*w<=2048):Qd Tryz.prog 98 [PV.ao p,PV.ao q,.int .i64 n] (· =PV.pe (vl q p n)):=by
 have yz:=hq.l;have bq:=(hq.PB hw).mono (K':=2^19) (E':=2^17) (by omega) (by omega);refine aB Qh Tryz.func98 ah3 fun C hP=>?_;refine Sz0 ?_;refine Ql okB [(0,0),(6,7),(9,17)] [] (fun r J hp=>∃k P,r=n-k/\k<=n/\gY (m+k*w) P/\js q (n-k) P=js q n p/\J 0=PV.ao P/\J 9= .int .i64 (k:Nat)) n ?_ ?_
 ·refine⟨0,p,rfl,by omega,by rw[KbG];exact hp,rfl,?_⟩;refine Sz0 ?_;rfl
 rintro _ J h ⟨k,P,rfl,hk,IZ,eA,h0,h9⟩;refine Sz1 h9 ?_;refine Qb (fun hg=>?_) (fun hg=>?_)
 ·have cI:k<n:=by omega
  have hkw:k*w<=n*w:=Kam _ hk;have bP:=IZ.PB (by omega);have lP:=IZ.l;have aH:=GI (q:=q) (P:=P) cI;have m1:=z4 lP yz;have m2:min P.length q.length*(2^19+2^19)<=64*(2^19+2^19):=Kam _ (by omega);have fP:=IZ.mul hq;rw[show m+k*w+w=m+(k+1)*w by rw[KaD];omega]at fP;refine Sz2 h0 h9 ?_;refine Qa hP (OS bP bq (by omega) (by omega) (by omega) (by omega) (by omega) (by omega)) rfl rfl rfl ?_;generalize Q8 P q=P' at *
  refine Sz2 h0 h9 ?_;refine Qb (fun hc=>?_) (fun hc=>?_)
  ·refine Sz0 ?_;refine cG (r:=PV.pe (vl q p n)) ?_ rfl rfl mQ (Qf _);unfold vl;rw[<-eA,aH,if_pos (by omega)];rfl
  ·refine Sz2 h0 h9 ?_;rw[if_neg (by omega)]at aH;refine Qg (n-(k+1)) (by omega) ⟨k+1,P',rfl,by omega,fP (by omega),by rw[<-eA,aH],?_⟩;exact Tz0
 ·obtain rfl:k=n:=by omega
  refine Sz1 h0 ?_;refine cG (r:=PV.pe (vl q p k)) ?_ rfl rfl (Qf _) (Qf _);unfold vl;rw[<-eA,Kbx];rfl
theorem Qxz{cs ls:List (List Tm)}{k:Nat}(hk:k<=512)(h1:∀c∈cs,qF c)(h2:∀c∈ls,eX k c)(hl:cs.length<=8)(jW:ls.length<2^40):Qd Tryz.prog 99 [PV.dp cs,PV.dp ls] (· =PV.pe (eh cs ls)):=by
 refine aB Qh Tryz.func99 ah4 fun C hP=>?_;refine Sz0 ?_;refine Qb (fun aQ=>?_) (fun aQ=>?_)
 ·refine Sz0 ?_;refine cG (r:=PV.pe (eh cs ls)) ?_ rfl rfl mQ (Qf _);unfold eh;rw[if_neg (by omega)]
 have he:cs.length=ls.length:=by omega
 have yD:(cs.zip ls).length=ls.length:=by rw[KcK];omega
 have iA:eh cs ls=nb (mS (cs.zip ls) []):=by unfold eh;rw[if_pos he]
 refine Sz0 ?_;refine vf 6 4 Tz0 ?_;refine Ql okB [(4,7),(15,32)] [] (fun r J hp=>∃i,r=ls.length-i/\i<=ls.length/\(eK (cs.zip ls) i).length<=4000/\mS ((cs.zip ls).drop i) (eK (cs.zip ls) i)=mS (cs.zip ls) []/\J 6=PV.ao (eK (cs.zip ls) i)/\J 15= .int .i64 (i:Nat)) ls.length ?_ ?_
 ·refine⟨0,rfl,by omega,by simp[eK],rfl,?_⟩;refine Sz0 ?_;exact⟨rfl,rfl⟩
 rintro _ J h ⟨i,rfl,hi,hlen,eA,h6,qd⟩;refine Sz1 qd ?_;refine Qb (fun hg=>?_) (fun hg=>?_)
 ·have az:i<ls.length:=by omega
  have jV:i<cs.length:=by omega
  have aH:=GX (l:=cs.zip ls) (i:=i) (by omega);have hs:=zd (l:=cs.zip ls) (i:=i) (by omega);rw[Mo he jV]at hs;obtain⟨b1,n1⟩:=Is h1 hk h2 hl (i:=i) (by omega);have c1:=h1 _ (Kah jV);have c2:=h2 _ (Kah az);have b2:=c1.PB.mono (K':=2^23) (E':=2^16) (by omega) (by omega);have b3:=(c2.PB hk).mono (K':=2^23) (E':=2^16) (by omega) (by omega);have l2:=c1.l;have l3:=c2.l;simp only at hs;rw[<-eA];have m1:=z4 l2 l3;have m2:min (cs[i]).length (ls[i]).length*(2^23+2^23)<=64*(2^23+2^23):=Kam _ (by omega);generalize hx:cs[i]=x at *
  generalize hy:ls[i]=y at *
  have bm:=Hb b2 b3;have aj7:min x.length y.length*(2^23+2^23)<=2^31:=by omega
  have b4:=bm.1.mono (K':=2^31) (E':=2^17) aj7 (by omega);have l4:=bm.2;have mq:=OS b2 b3 (by omega) (by omega) (by omega) (by omega) (by omega) (by omega);generalize Q8 x y=z at *
  have b5:=b1.mono (K':=2^31) (E':=2^17) (by omega) (by omega);generalize hS:eK (cs.zip ls) i=s at *
  generalize I2:eK (cs.zip ls) (i+1)=s' at *
  refine Sz4 h6 qd hx hy ?_;refine Qa hP mq rfl rfl rfl ?_;refine Sz2 h6 qd ?_;refine Qa hP (OQ b5 b4 (by omega) (by omega) (by omega) (by omega)) rfl rfl rfl ?_;rw[<-hs];refine Sz2 h6 qd ?_;refine Qb (fun hc=>?_) (fun hc=>?_)
  ·refine Sz0 ?_;refine cG (r:=PV.pe (eh cs ls)) ?_ rfl rfl mQ (Qf _);rw[iA,<-eA,aH,if_pos (by omega)];rfl
  ·refine Sz2 h6 qd ?_;rw[if_neg (by omega)]at aH;refine Qg (ls.length-(i+1)) (by omega) ⟨i+1,rfl,by omega,?_⟩;rw[I2];refine⟨by omega,by rw[<-aH,eA],?_⟩;exact Tz0
 ·obtain rfl:i=ls.length:=by omega
  refine Sz1 h6 ?_;refine cG (r:=PV.pe (eh cs ls)) ?_ rfl rfl (Qf _) (Qf _);rw[iA,<-eA,Kal (by omega)];rfl
theorem ai1:Qd Tryz.prog 90 [.int .i64 1] (· =PV.rat 1):=C6 (by omega) (by omega)
theorem Qx0{fs:List (List Tm)}{ps:List Int}(h1:∀c∈fs,n7 c)(hl:fs.length<=8)(cQ:ps.length<2^40):Qd Tryz.prog 97 [PV.dp fs,PV.mono ps] (· =PV.pe (fq fs ps)):=by
 have s9:=pV;refine aB Qh Tryz.func97 ah5 fun C hP=>?_;refine Sz0 ?_;refine Qb (fun aQ=>?_) (fun aQ=>?_)
 ·refine Sz0 ?_;refine cG (r:=PV.pe (fq fs ps)) ?_ rfl rfl mQ (Qf _);unfold fq;rw[if_neg (by omega)]
 have he:fs.length=ps.length:=by omega
 refine Sz0 ?_;refine Ql okB [(4,5),(7,7),(19,29)] [] (fun r J hp=>∃i,r=ps.length-i/\i<=ps.length/\(∀j (hj:j<ps.length),j<i->0<=ps[j]/\ps[j]<=64)/\J 19= .int .i64 (i:Nat)) ps.length ?_ ?_
 ·refine⟨0,rfl,by omega,by omega,?_⟩;refine Sz0 ?_;rfl
 rintro _ J h ⟨i,rfl,hi,aP,eQ⟩;refine Sz1 eQ ?_;refine Qb (fun hg=>?_) (fun hg=>?_)
 ·have az:i<ps.length:=by omega
  have gB:=QP az;have bn:(0<=ps[i]/\ps[i]<=64)->∀j (hj:j<ps.length),j<i+1->0<=ps[j]/\ps[j]<=64:=fun h j hj fa=>by
   by_cases e:j=i
   ·subst e;exact h
   ·exact aP j hj (by omega)
  generalize hx:ps[i]=x at *
  refine Sz2 eQ hx ?_;refine Qo (fun h6=>?_) (fun h6=>?_)
  ·refine Sz2 eQ hx ?_;refine cG (r:=PV.pe (fq fs ps)) ?_ rfl rfl mQ (Qf _);rw[Db he (gB (by omega))]
  refine Sz2 eQ hx ?_;refine Qb (fun h7=>?_) (fun h7=>?_)
  ·refine Sz2 eQ hx ?_;refine cG (r:=PV.pe (fq fs ps)) ?_ rfl rfl mQ (Qf _);rw[Db he (gB (by omega))]
  refine Sz1 eQ ?_;refine Qg (ps.length-(i+1)) (by omega) ⟨i+1,rfl,by omega,bn (by omega),?_⟩;exact Tz0
 obtain rfl:i=ps.length:=by omega
 have aL:=QQ fun j hj=>aP j hj hj;have tc:=Lx he aL;refine Sz0 ?_;refine Qa hP ai1 rfl rfl rfl ?_;refine Sz0 ?_;refine Qa hP (ZM (k:=4) (by omega) (by omega)) rfl rfl rfl ?_;refine Sz0 ?_;refine Ql okB [(4,5),(8,11),(34,54)] [] (fun r J hp=>∃i m P,r=fs.length-i/\i<=fs.length/\m<=64*i/\gY m P/\oR ((l8 fs ps).drop i) P=oR (l8 fs ps) (cD 1)/\J 8=PV.ao P/\J 34= .int .i64 (i:Nat)) fs.length ?_ ?_
 ·refine⟨0,0,_,rfl,by omega,by omega,gY.one,rfl,?_⟩;refine Sz0 ?_;rfl
 rintro _ J2 h2 ⟨i,m,P,rfl,hi,hm,kG,eA,h8,mg⟩;refine Sz1 mg ?_;refine Qb (fun hg=>?_) (fun hg=>?_)
 ·have az:i<fs.length:=by omega
  have uC:i<ps.length:=by omega
  have hpw:=Hu aL uC;have aH:=Ot (l:=l8 fs ps) (i:=i) (p:=P) (by rw[vd he];exact az);rw[HS he az]at aH;have te:=h1 _ (Kah az);have Bk:=CU te.w (ps[i]).toNat m P;simp only[KbV]at Bk;simp only at aH;obtain⟨n,hn⟩:∃n:Nat,ps[i]=n:=⟨(ps[i]).toNat,by omega⟩
  rw[hn,Kbg]at aH Bk;have SF:n<=64:=by omega
  have Je:=NX (by omega) kG te.w SF (by omega);generalize hx:fs[i]=x at *
  refine Sz4 mg h8 hx hn ?_;refine Qa hP Je rfl rfl rfl ?_;unfold vl;cases hr:js x n P with
  |none=>rw[hr]at aH;simp+decide (disch:=first|omega|rfl|(simp+decide only[go_sem,mg,nb]<;>rfl)|fail) only[go_sem,mg,nb];refine cG (r:=PV.pe (fq fs ps)) ?_ rfl rfl mQ (Qf _);rw[tc,<-eA,aH];rfl
  |some P'=>rw[hr]at aH;simp+decide (disch:=first|omega|rfl|(simp+decide only[go_sem,mg,nb]<;>rfl)|fail) only[go_sem,mg,nb];refine Qg (fs.length-(i+1)) (by omega) ⟨i+1,m+n,P',rfl,by omega,by omega,Bk P' kG hr,by rw[<-eA,aH];rfl,?_⟩;exact Tz0
 ·obtain rfl:i=fs.length:=by omega
  refine Sz1 h8 ?_;refine cG (r:=PV.pe (fq fs ps)) ?_ rfl rfl (Qf _) (Qf _);rw[tc,<-eA,Kal (by rw[vd he];omega)];rfl
theorem Qx1{cs ls:List (List Tm)}{k:Nat}(hk:k<=512)(h1:∀c∈cs,qF c)(h2:∀c∈ls,eX k c)(hl:cs.length<=8)(jW:ls.length<2^40):Qd Tryz.prog 54 [PV.dp cs,PV.dp ls] (· =PV.pe (eh cs ls)):=by
 refine aB Qh Tryz.func54 ah7 fun C hP=>?_;refine Sz0 ?_;refine Qb (fun aQ=>?_) (fun aQ=>?_)
 ·refine Sz0 ?_;refine cG (r:=PV.pe (eh cs ls)) ?_ rfl rfl mQ (Qf _);unfold eh;rw[if_neg (by omega)]
 have he:cs.length=ls.length:=by omega
 have yD:(cs.zip ls).length=ls.length:=by rw[KcK];omega
 have iA:eh cs ls=nb (mS (cs.zip ls) []):=by unfold eh;rw[if_pos he]
 refine Sz0 ?_;refine vf 6 4 Tz0 ?_;refine Ql okB [(4,7),(13,32)] [] (fun r J hp=>∃i,r=ls.length-i/\i<=ls.length/\(eK (cs.zip ls) i).length<=4000/\mS ((cs.zip ls).drop i) (eK (cs.zip ls) i)=mS (cs.zip ls) []/\J 6=PV.ao (eK (cs.zip ls) i)/\J 7= .int .i64 (i:Nat)) ls.length ?_ ?_
 ·refine⟨0,rfl,by omega,by simp[eK],rfl,?_⟩;refine Sz0 ?_;exact⟨rfl,rfl⟩
 rintro _ J h ⟨i,rfl,hi,hlen,eA,h6,qd⟩;refine Sz1 qd ?_;refine Qb (fun hg=>?_) (fun hg=>?_)
 ·have az:i<ls.length:=by omega
  have jV:i<cs.length:=by omega
  have aH:=GX (l:=cs.zip ls) (i:=i) (by omega);have hs:=zd (l:=cs.zip ls) (i:=i) (by omega);rw[Mo he jV]at hs;obtain⟨b1,n1⟩:=Is h1 hk h2 hl (i:=i) (by omega);have c1:=h1 _ (Kah jV);have c2:=h2 _ (Kah az);have b2:=c1.PB.mono (K':=2^23) (E':=2^16) (by omega) (by omega);have b3:=(c2.PB hk).mono (K':=2^23) (E':=2^16) (by omega) (by omega);have l2:=c1.l;have l3:=c2.l;have np:=c1.n;have nq:=c2.n;simp only at hs;rw[<-eA];have m1:=z4 l3 l2;generalize hx:cs[i]=x at *
  generalize hy:ls[i]=y at *
  have bm:=Hb b2 b3;have b4:=bm.1.mono (K':=2^31) (E':=2^17) (by omega) (by omega);have l4:=bm.2;have l5:=z4 l2 l3;have mq:=GV b2 b3 np.z nq.z (by omega) (by omega) (by omega) (by omega) (by omega);rw[Hy np nq]at mq;generalize Q8 x y=z at *
  have b5:=b1.mono (K':=2^31) (E':=2^17) (by omega) (by omega);generalize hS:eK (cs.zip ls) i=s at *
  generalize I2:eK (cs.zip ls) (i+1)=s' at *
  refine Sz4 h6 qd hx hy ?_;refine Qa hP mq rfl rfl rfl ?_;refine Sz2 h6 qd ?_;refine Qa hP (CJ b5 b4 (by omega) (by omega) (by omega) (by omega)) rfl rfl rfl ?_;rw[<-hs];refine Sz2 h6 qd ?_;refine Qb (fun hc=>?_) (fun hc=>?_)
  ·refine Sz0 ?_;refine cG (r:=PV.pe (eh cs ls)) ?_ rfl rfl mQ (Qf _);rw[iA,<-eA,aH,if_pos (by omega)];rfl
  ·refine Sz2 h6 qd ?_;rw[if_neg (by omega)]at aH;refine Qg (ls.length-(i+1)) (by omega) ⟨i+1,rfl,by omega,?_⟩;rw[I2];refine⟨by omega,by rw[<-aH,eA],?_⟩;exact Tz0
 ·obtain rfl:i=ls.length:=by omega
  refine Sz1 h6 ?_;refine cG (r:=PV.pe (eh cs ls)) ?_ rfl rfl (Qf _) (Qf _);rw[iA,<-eA,Kal (by omega)];rfl
theorem aiz:Qd Tryz.prog 14 [.int .i64 1] (· =PV.rat 1):=r9 (by omega) (by omega)
theorem Ww:Qd Tryz.prog 100 [] (· =PV.ao (cD 1)):=by have s9:=pV;refine aB Qh Tryz.func100 aeA fun C hP=>?_;refine Sz0 ?_;refine Qa hP aiz rfl rfl rfl ?_;refine Sz0 ?_;refine Qa hP (G' (k:=4) (by omega) (by omega)) rfl rfl rfl ?_;refine Sz0 ?_;exact Qc rfl rfl
theorem Gn{m w:Nat}{P q:List Tm}(hw:w<=512)(kG:gY m P)(hq:eX w q)(hm:m<=2048):Qd Tryz.prog 19 [PV.ao P,PV.ao q] (· =PV.ao (Q8 P q)):=by
 have yz:=hq.l;have bq:=(hq.PB hw).mono (K':=2^19) (E':=2^17) (by omega) (by omega);have bP:=kG.PB hm;have lP:=kG.l;have m1:=z4 yz lP;have:=GV bP bq kG.n.z hq.n.z (by omega) (by omega) (by omega) (by omega) (by omega)
 rwa[Hy kG.n hq.n]at this
theorem Qx2{fs:List (List Tm)}{ps:List Int}(h1:∀c∈fs,n7 c)(hl:fs.length<=8)(cQ:ps.length<2^40):Qd Tryz.prog 53 [PV.dp fs,PV.mono ps] (· =PV.pe (fq fs ps)):=by
 refine aB Qh Tryz.func53 ah8 fun C hP=>?_;refine Sz0 ?_;refine Qb (fun aQ=>?_) (fun aQ=>?_)
 ·refine Sz0 ?_;refine cG (r:=PV.pe (fq fs ps)) ?_ rfl rfl mQ (Qf _);unfold fq;rw[if_neg (by omega)]
 have he:fs.length=ps.length:=by omega
 refine Sz0 ?_;refine Ql okB [(4,6),(15,32)] [] (fun r J hp=>∃i,r=ps.length-i/\i<=ps.length/\(∀j (hj:j<ps.length),j<i->0<=ps[j]/\ps[j]<=64)/\J 6= .int .i64 (i:Nat)) ps.length ?_ ?_
 ·refine⟨0,rfl,by omega,by omega,?_⟩;refine Sz0 ?_;rfl
 rintro _ J h ⟨i,rfl,hi,aP,eQ⟩;refine Sz1 eQ ?_;refine Qb (fun hg=>?_) (fun hg=>?_)
 ·have az:i<ps.length:=by omega
  have gB:=QP az;have bn:(0<=ps[i]/\ps[i]<=64)->∀j (hj:j<ps.length),j<i+1->0<=ps[j]/\ps[j]<=64:=fun h j hj fa=>by
   by_cases e:j=i
   ·subst e;exact h
   ·exact aP j hj (by omega)
  generalize hx:ps[i]=x at *
  refine Sz2 eQ hx ?_;refine Qo (fun h6=>?_) (fun h6=>?_)
  ·refine Sz2 eQ hx ?_;refine cG (r:=PV.pe (fq fs ps)) ?_ rfl rfl mQ (Qf _);rw[Db he (gB (by omega))]
  refine Sz2 eQ hx ?_;refine Qb (fun h7=>?_) (fun h7=>?_)
  ·refine Sz2 eQ hx ?_;refine cG (r:=PV.pe (fq fs ps)) ?_ rfl rfl mQ (Qf _);rw[Db he (gB (by omega))]
  refine Sz1 eQ ?_;refine Qg (ps.length-(i+1)) (by omega) ⟨i+1,rfl,by omega,bn (by omega),?_⟩;exact Tz0
 obtain rfl:i=ps.length:=by omega
 have aL:=QQ fun j hj=>aP j hj hj;have tc:=Lx he aL;refine Sz0 ?_;refine Qa hP Ww rfl rfl rfl ?_;refine Sz0 ?_;refine Ql okB [(4,5),(7,9),(34,56)] [] (fun r J hp=>∃i m P,r=fs.length-i/\i<=fs.length/\m<=64*i/\gY m P/\oR ((l8 fs ps).drop i) P=oR (l8 fs ps) (cD 1)/\J 7=PV.ao P/\J 8= .int .i64 (i:Nat)) fs.length ?_ ?_
 ·refine⟨0,0,_,rfl,by omega,by omega,gY.one,rfl,?_⟩;refine Sz0 ?_;rfl
 rintro _ J2 h2 ⟨i,m,P,rfl,hi,hm,kG,eA,h8,mg⟩;refine Sz1 mg ?_;refine Qb (fun hg=>?_) (fun hg=>?_)
 ·have az:i<fs.length:=by omega
  have uC:i<ps.length:=by omega
  have hpw:=Hu aL uC;have aH:=Ot (l:=l8 fs ps) (i:=i) (p:=P) (by rw[vd he];exact az);rw[HS he az]at aH;have te:=h1 _ (Kah az);simp only at aH;obtain⟨n,hn⟩:∃n:Nat,ps[i]=n:=⟨(ps[i]).toNat,by omega⟩
  rw[hn,Kbg]at aH;have SF:n<=64:=by omega
  generalize hx:fs[i]=x at *
  refine Sz2 mg h8 ?_;refine Ql okB [(4,5),(7,7),(9,9),(40,56)] [] (fun r J hp=>∃k Q,r=n-k/\k<=n/\gY (m+k) Q/\js x (n-k) Q=js x n P/\J 7=PV.ao Q/\J 9= .int .i64 (k:Nat)) n ?_ ?_
  ·refine⟨0,P,rfl,by omega,kG,rfl,?_⟩;refine Sz2 mg h8 ?_;rfl
  rintro _ J3 h3 ⟨k,Q,rfl,hk,hQ,EP,i7,i9⟩;refine Sz4 i7 i9 mg hn ?_;refine Qb (fun dX=>?_) (fun dX=>?_)
  ·have cI:k<n:=by omega
   have Fo:=GI (q:=x) (P:=Q) cI;have fP:=hQ.mul te.w;have mq:=Gn (by omega) hQ te.w (by omega);generalize Q8 Q x=Q' at *
   refine Sz5 i7 i9 mg hn hx ?_;refine Qa hP mq rfl rfl rfl ?_;refine Sz4 i7 i9 mg hn ?_;refine Qb (fun hc=>?_) (fun hc=>?_)
   ·rw[if_pos (by omega)]at Fo;rw[<-EP,Fo]at aH;refine Sz0 ?_;refine cG (r:=PV.pe (fq fs ps)) ?_ rfl rfl mQ (Qf _);rw[tc,<-eA,aH];rfl
   ·rw[if_neg (by omega)]at Fo;refine Sz3 i7 i9 mg ?_;refine Qg (n-(k+1)) (by omega) ⟨k+1,Q',rfl,by omega,fP (by omega),by rw[<-EP,Fo],?_⟩;exact Tz0
  ·obtain rfl:k=n:=by omega
   rw[Kbx]at EP;rw[<-EP]at aH;simp (disch:=decide) only[iT,nO];refine Sz2 i7 mg ?_;refine Qg (fs.length-(i+1)) (by omega) ⟨i+1,m+k,Q,rfl,by omega,by omega,hQ,by rw[<-eA,aH];rfl,?_⟩;exact Tz1 i7
 ·obtain rfl:i=fs.length:=by omega
  refine Sz1 h8 ?_;refine cG (r:=PV.pe (fq fs ps)) ?_ rfl rfl (Qf _) (Qf _);rw[tc,<-eA,Kal (by rw[vd he];omega)];rfl
theorem LG{fs:List (List Tm)}{ps:List Int}{n:Int}{cs hs:List (List Tm)}{g P:List Tm}{e:Int}(h:fq fs ps=(P,e)):oS fs ps n cs hs g=if e=0 then
  if fs.any List.isEmpty then 3
  else if n<1∨64<n then 2
  else if cs.length=hs.length then
   match js g n.toNat P with
   |none=>4
   |some l=>if(eh cs hs).2=0 then(if l=(eh cs hs).1 then 0 else 17)else(eh cs hs).2
  else 16
 else e:=by unfold oS;rw[h];rfl
theorem Mt{fs:List (List Tm)}{i:Nat}(h:i<fs.length)(h0:fs[i].length=0):fs.any List.isEmpty=true:=by rw[KaS];exact⟨_,Kah h,by rw[Kat.1 h0];rfl⟩
theorem M3{fs:List (List Tm)}(h:∀j (hj:j<fs.length),fs[j].length≠0):fs.any List.isEmpty=false:=by rw[Kcy];intro x hx;obtain⟨j,hj,rfl⟩:=Kaz hx;intro e;exact h j hj (by rw[List.isEmpty_iff.1 e];rfl)
theorem NS{fs:List (List Tm)}{ps:List Int}{n:Int}{cs hs:List (List Tm)}{g:List Tm}{w:Nat}(hw:w<=512)(hf:∀c∈fs,n7 c)(uy:fs.length<=8)(cQ:ps.length<2^40)(hc:∀c∈cs,qF c)(di:cs.length<=8)(hh:∀c∈hs,eX w c)(yp:hs.length<2^40)(hg:eX w g)(wj:n.toNat*w<=1500∨64<n):
  Qd Tryz.prog 52 [PV.cert fs ps n cs,PV.dp hs,PV.ao g] (· = .int .i64 (oS fs ps n cs hs g)):=by
 have c1:=Qx0 hf uy cQ;have c2:=Qxz hw hc hh di yp;obtain⟨b1,_,l1⟩:=Ly hw hc hh di;obtain⟨⟨P,e⟩,hR⟩:∃r,r=fq fs ps:=⟨_,rfl⟩
 have cM:=LG (n:=n) (cs:=cs) (hs:=hs) (g:=g) hR.symm;have kG:=QR (ps:=ps) hf uy;rw[<-hR]at kG;rw[<-hR]at c1;obtain⟨⟨s,e2⟩,hC⟩:∃r,r=eh cs hs:=⟨_,rfl⟩
 rw[<-hC]at c2 cM b1 l1;simp only at c1 c2 cM kG b1 l1;refine aB Qh Tryz.func52 ah6 fun C hP=>?_;refine Sz0 ?_;refine Qa hP c1 rfl rfl rfl ?_;refine Sz0 ?_;refine Qb (fun h1=>?_) (fun h1=>?_)
 ·refine Sz0 ?_;exact Qc (congrArg (PV.int .i64) (by rw[cM,if_neg (by omega)])) rfl
 obtain rfl:e=0:=by omega
 obtain⟨m,hm,EE⟩:=kG rfl;rw[if_pos rfl]at cM;refine Sz0 ?_;refine Ql okB [(6,6),(10,10),(26,33)] [] (fun r J hp=>∃i,r=fs.length-i/\i<=fs.length/\(∀j (hj:j<fs.length),j<i->fs[j].length≠0)/\J 26= .int .i64 (i:Nat)/\hp 3=some ⟨4,62,[PV.cert fs ps n cs],false⟩) fs.length ?_ ?_
 ·refine⟨0,rfl,by omega,by omega,?_⟩;refine Sz0 ?_;rfl
 rintro _ J h ⟨i,rfl,hi,aP,ln,hb⟩;refine Sz1 ln ?_;refine Qb (fun dX=>?_) (fun dX=>?_)
 ·have az:i<fs.length:=by omega
  have AN:=Mt az;have bn:fs[i].length≠0->∀j (hj:j<fs.length),j<i+1->fs[j].length≠0:=fun h j hj fa=>by
   by_cases e:j=i
   ·subst e;exact h
   ·exact aP j hj (by omega)
  generalize hx:fs[i]=x at *
  refine Sz2 ln hx ?_;refine Qb (fun h0=>?_) (fun h0=>?_)
  ·refine Sz0 ?_;exact Qc (congrArg (PV.int .i64) (by rw[cM,AN (by omega)];rfl)) rfl
  refine Sz1 ln ?_;refine Qg (fs.length-(i+1)) (by omega) ⟨i+1,rfl,by omega,bn (by omega),?_⟩;exact Tz1 hb
 obtain rfl:i=fs.length:=by omega
 rw[M3 fun j hj=>aP j hj hj]at cM;simp only[Ka8,if_false]at cM;refine Sz1 hb ?_;refine Qo (fun h2=>?_) (fun h2=>?_)
 ·refine Sz1 hb ?_;exact Qc (congrArg (PV.int .i64) (by rw[cM,if_pos (by omega)])) rfl
 refine Sz1 hb ?_;refine Qb (fun h3=>?_) (fun h3=>?_)
 ·refine Sz1 hb ?_;exact Qc (congrArg (PV.int .i64) (by rw[cM,if_pos (by omega)])) rfl
 rw[if_neg (by omega)]at cM;obtain⟨k,rfl⟩:∃k:Nat,n=k:=⟨n.toNat,by omega⟩
 rw[Kbg]at cM wj;replace wj:k*w<=1500:=wj.resolve_right (by omega);refine Sz1 hb ?_;refine Qb (fun h4=>?_) (fun h4=>?_)
 ·refine Sz1 hb ?_;exact Qc (congrArg (PV.int .i64) (by rw[cM,if_neg (by omega)])) rfl
 rw[if_pos (by omega)]at cM;have c3:=NX hw EE hg (n:=k) (by omega) (by omega);have Bk:=CU hg k m P;refine Sz1 hb ?_;refine Qa hP c3 rfl rfl rfl ?_;unfold vl;cases hr:js g k P with
 |none=>rw[hr]at cM;simp+decide (disch:=first|omega|rfl|(simp+decide only[go_sem,hb,nb]<;>rfl)|fail) only[go_sem,hb,nb];exact Qc (congrArg (PV.int .i64) cM.symm) rfl
 | some L=>
  have hL:=Bk L EE hr;rw[hr]at cM;simp only at cM;have bL:=(hL.PB (by omega)).mono (K':=268435456) (E':=131072) (by omega) (by omega);have lL:=hL.l;have b2:=b1.mono (K':=268435456) (E':=131072) (by omega) (by omega);simp+decide (disch:=first|omega|rfl|(simp+decide only[go_sem,hb,nb]<;>rfl)|fail) only[go_sem,hb,nb];refine Qa hP c2 rfl rfl rfl ?_;refine Sz1 hb ?_;refine Qb (fun h5=>?_) (fun h5=>?_)
  ·refine Sz1 hb ?_;exact Qc (congrArg (PV.int .i64) (by rw[cM,if_neg (by omega)])) rfl
  rw[if_pos (by omega)]at cM;refine Sz1 hb ?_;refine Qa hP (GG bL b2 (by omega) (by omega) (by omega) (by omega)) rfl rfl rfl ?_;by_cases hq:L=s
  ·rw[if_pos hq]at cM;refine Sz1 hq ?_;exact Qc (congrArg (PV.int .i64) cM.symm) rfl
  ·rw[if_neg hq]at cM;refine Sz1 hq ?_;exact Qc (congrArg (PV.int .i64) cM.symm) rfl
theorem UQ{fs:List (List Tm)}{ps:List Int}{n:Int}{cs hs:List (List Tm)}{g:List Tm}{w:Nat}(hw:w<=512)(hf:∀c∈fs,n7 c)(uy:fs.length<=8)(cQ:ps.length<2^40)(hc:∀c∈cs,qF c)(di:cs.length<=8)(hh:∀c∈hs,eX w c)(yp:hs.length<2^40)(hg:eX w g)(wj:n.toNat*w<=1500∨64<n):
  Qd Tryz.prog 25 [PV.cert fs ps n cs,PV.dp hs,PV.ao g] (· = .int .i64 (oS fs ps n cs hs g)):=by
 have c1:=Qx2 hf uy cQ;have c2:=Qx1 hw hc hh di yp;obtain⟨b1,_,l1⟩:=Ly hw hc hh di;obtain⟨⟨P,e⟩,hR⟩:∃r,r=fq fs ps:=⟨_,rfl⟩
 have cM:=LG (n:=n) (cs:=cs) (hs:=hs) (g:=g) hR.symm;have kG:=QR (ps:=ps) hf uy;rw[<-hR]at kG;rw[<-hR]at c1;obtain⟨⟨s,e2⟩,hC⟩:∃r,r=eh cs hs:=⟨_,rfl⟩
 rw[<-hC]at c2 cM b1 l1;simp only at c1 c2 cM kG b1 l1;refine aB Qh Tryz.func25 ah9 fun C hP=>?_;refine Sz0 ?_;refine Qa hP c1 rfl rfl rfl ?_;refine Sz0 ?_;refine Qb (fun h1=>?_) (fun h1=>?_)
 ·refine Sz0 ?_;exact Qc (congrArg (PV.int .i64) (by rw[cM,if_neg (by omega)])) rfl
 obtain rfl:e=0:=by omega
 obtain⟨m,hm,EE⟩:=kG rfl;rw[if_pos rfl]at cM;refine Sz0 ?_;refine Ql okB [(6,6),(9,9),(24,37)] [] (fun r J hp=>∃i,r=fs.length-i/\i<=fs.length/\(∀j (hj:j<fs.length),j<i->fs[j].length≠0)/\J 9= .int .i64 (i:Nat)/\hp 3=some ⟨4,62,[PV.cert fs ps n cs],false⟩) fs.length ?_ ?_
 ·refine⟨0,rfl,by omega,by omega,?_⟩;refine Sz0 ?_;rfl
 rintro _ J h ⟨i,rfl,hi,aP,ln,hb⟩;refine Sz2 ln hb ?_;refine Qb (fun dX=>?_) (fun dX=>?_)
 ·have az:i<fs.length:=by omega
  have AN:=Mt az;have bn:fs[i].length≠0->∀j (hj:j<fs.length),j<i+1->fs[j].length≠0:=fun h j hj fa=>by
   by_cases e:j=i
   ·subst e;exact h
   ·exact aP j hj (by omega)
  generalize hx:fs[i]=x at *
  refine Sz3 ln hb hx ?_;refine Qb (fun h0=>?_) (fun h0=>?_)
  ·refine Sz0 ?_;exact Qc (congrArg (PV.int .i64) (by rw[cM,AN (by omega)];rfl)) rfl
  refine Sz2 ln hb ?_;refine Qg (fs.length-(i+1)) (by omega) ⟨i+1,rfl,by omega,bn (by omega),?_⟩;exact Tz1 hb
 obtain rfl:i=fs.length:=by omega
 rw[M3 fun j hj=>aP j hj hj]at cM;simp only[Ka8,if_false]at cM;refine Sz1 hb ?_;refine Qo (fun h2=>?_) (fun h2=>?_)
 ·refine Sz1 hb ?_;exact Qc (congrArg (PV.int .i64) (by rw[cM,if_pos (by omega)])) rfl
 refine Sz1 hb ?_;refine Qb (fun h3=>?_) (fun h3=>?_)
 ·refine Sz1 hb ?_;exact Qc (congrArg (PV.int .i64) (by rw[cM,if_pos (by omega)])) rfl
 rw[if_neg (by omega)]at cM;obtain⟨k,rfl⟩:∃k:Nat,n=k:=⟨n.toNat,by omega⟩
 rw[Kbg]at cM wj;replace wj:k*w<=1500:=wj.resolve_right (by omega);refine Sz1 hb ?_;refine Qb (fun h4=>?_) (fun h4=>?_)
 ·refine Sz1 hb ?_;exact Qc (congrArg (PV.int .i64) (by rw[cM,if_neg (by omega)])) rfl
 rw[if_pos (by omega)]at cM;refine Sz1 hb ?_;refine Ql okB [(6,7),(10,10),(52,63)] [] (fun r J hp=>∃i Q,r=k-i/\i<=k/\gY (m+i*w) Q/\js g (k-i) Q=js g k P/\J 7=PV.ao Q/\J 10= .int .i64 (i:Nat)/\hp 3=some ⟨4,62,[PV.cert fs ps k cs],false⟩) k ?_ ?_
 ·refine⟨0,P,rfl,by omega,by rw[KbG];exact EE,rfl,?_⟩;refine Sz1 hb ?_;rfl
 rintro _ J2 h' ⟨i,Q,rfl,lC,hQ,eA,h7,bh,au⟩;refine Sz2 bh au ?_;refine Qb (fun AW=>?_) (fun AW=>?_)
 ·have az:i<k:=by omega
  have aH:=GI (q:=g) (P:=Q) az;have fP:=hQ.mul hg;rw[show m+i*w+w=m+(i+1)*w by rw[KaD];omega]at fP;have hiw:i*w<=k*w:=Kam _ lC;have mq:=Gn hw hQ hg (by omega);generalize Q8 Q g=Q' at *
  refine Sz3 h7 bh au ?_;refine Qa hP mq rfl rfl rfl ?_;refine Sz2 bh au ?_;refine Qb (fun EK=>?_) (fun EK=>?_)
  ·rw[if_pos (by omega)]at aH;rw[<-eA,aH]at cM;refine Sz0 ?_;exact Qc (congrArg (PV.int .i64) cM.symm) rfl
  ·rw[if_neg (by omega)]at aH;refine Sz1 bh ?_;refine Qg (k-(i+1)) (by omega) ⟨i+1,Q',rfl,by omega,fP (by omega),by rw[<-eA,aH],?_⟩;exact Tz1 au
 ·obtain rfl:i=k:=by omega
  rw[Kbx]at eA;rw[<-eA]at cM;have sV:oS fs ps i cs hs g=if e2=0 then(if Q=s then 0 else 17)else e2:=cM
  have bL:=(hQ.PB (by omega)).mono (K':=268435456) (E':=131072) (by omega) (by omega);have lL:=hQ.l;have b2:=b1.mono (K':=268435456) (E':=131072) (by omega) (by omega);refine Sz2 h7 au ?_;refine Qa hP c2 rfl rfl rfl ?_;refine Sz2 h7 au ?_;refine Qb (fun h5=>?_) (fun h5=>?_)
  ·refine Sz1 au ?_;exact Qc (congrArg (PV.int .i64) (by rw[sV,if_neg (by omega)])) rfl
  rw[if_pos (by omega)]at sV;refine Sz2 h7 au ?_;refine Qa hP (Qz8 bL b2 (by omega) (by omega) (by omega) (by omega)) rfl rfl rfl ?_;by_cases hq:Q=s
  ·rw[if_pos hq]at sV;refine Sz1 hq ?_;exact Qc (congrArg (PV.int .i64) sV.symm) rfl
  ·rw[if_neg hq]at sV;refine Sz1 hq ?_;exact Qc (congrArg (PV.int .i64) sV.symm) rfl
theorem Ea(a b:List Int):jO 0 a b=aX a b:=by unfold jO;rw[if_neg (by simp)]
end Go.Proofs.YtccppnepkfbpkaaGreat
namespace Go.FW
open Go
theorem aiA{a b:Rat}(h:b≠0):rs (a/b)<=rs a+rs b:=by rw[Rat.div_def];have:=vj a b⁻¹;have:=ahQ b h;omega
theorem CT{p:List Tm}(np:bf p){c:Rat}:Q8 p [(c,[])]=dS p c:=by refine xq (tH np.s (UY _)) (oI np.s c) fun φ=>?_;rw[zK,wY φ np.c,<-Dw];refine si fun t ht=>?_;show bZ _ [(c,[])]=_;rw[fc,kt,Dq (np.c t ht)];grind
def xO(s c:Rat):Nat->Rat
 |0=>s
 |n+1=>xO s c n/c
theorem afv{s c:Rat}(hs:s≠0)(hc:c≠0):∀n,xO s c n≠0
 |0=>hs
 |n+1=>by have:=afv hs hc n;show xO s c n/c≠0;grind
theorem Mu{s c:Rat}(hc:c≠0){b:Nat}(hb:rs c<=b):∀n,rs (xO s c n)<=rs s+n*b
 |0=>by show rs s<=_;omega
 |n+1=>by have h1:=Mu hc hb (s:=s) n;have h2:=aiA (a:=xO s c n) hc;show rs (xO s c n/c)<=_;rw[Nat.succ_mul];omega
end Go.FW
