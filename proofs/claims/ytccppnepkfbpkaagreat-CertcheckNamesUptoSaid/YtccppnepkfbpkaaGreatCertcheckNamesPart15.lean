/- Part 15 of the proof of CertcheckNames: J10, J11, J12, U5, G1, H1, G2, G3, G4, G5, W7, W8, G6, G7, G8, FwVD, FwWH. Own lemmas; no conditions. -/
import Derived.Test.YtccppnepkfbpkaaGreatCertcheckNamesPart14
set_option maxHeartbeats 1000000
set_option linter.unusedSimpArgs false
set_option linter.unusedVariables false
set_option linter.unnecessarySimpa false
set_option maxRecDepth 100000
namespace Go.Proofs.YtccppnepkfbpkaaGreat
open Go Go.FW
theorem afl(hN:oM){S:List Q8}{G:List bD}(hS:S.length<2^40)(hG:G.length<2^40)(hb:∀s∈S,jR s)(hg:∀g∈G,l9 g):Qd Tryz.prog 37 [PV.cw S G] (fun r=>∃b,r= .bool b/\(b=true->nS S G)):=by have h:=afz hN hS hG hb hg;refine aB Qg Tryz.func37 aib fun C hP=>?_;refine Sz0 ?_;refine fM hP h rfl rfl rfl ?_;rintro _ ⟨b,rfl,hb⟩;refine Sz0 ?_;exact dq ⟨b,rfl,hb⟩ rfl
theorem Vt(cs:List Cd)(f:bD):(iC cs f).1=[]∨(fL f cs.length=0/\(iC cs f).1=iT f.k (fun i=>(cC cs f.args).getD i ([],[])) (rv f.n f.a f.d)):=by
 unfold iC;split
 ·rename_i h0;split
  ·exact .inl rfl
  ·exact .inr ⟨h0,rfl⟩
 ·exact .inl rfl
theorem WO{k:Int}{p:Nat->Cd}{r:Rat}:(iT k p r).length<=2:=by
 unfold iT;repeat' split
 all_goals simp
def xV(S:List Q8)(G:List bD):List (List Tm):=iD S S.length++nV S++(l7 S G).flatten
theorem LY{S:List Q8}{G:List bD}(hF:nS S G)(hb:∀s∈S,jR s)(hg:∀g∈G,l9 g):∀l∈l7 S G,l.length<=2:=fun l hl=>by
 obtain⟨g,hm,rfl⟩:=KaF.1 hl;rcases Vt (eu S) g with e|⟨_,e⟩
 ·rw[e];simp
 ·rw[e];exact WO
theorem HC(S:List Q8):∀i,(iD S i).length<=2*i
 |0=>by simp[iD]
 |n+1=>by have ih:=HC S n;rw[iD,Kaw];have:(sI S (eu S) (gL S) n).length<=2:=MS;omega
theorem LZ{Q:List (List (List Tm))}(h:∀l∈Q,l.length<=2):Q.flatten.length<=2*Q.length:=by
 induction Q with
 |nil=>simp
 |cons a l ih=>have h1:=h a Kbk;have h2:=ih fun x hx=>h x (KaZ _ hx);simp only[List.flatten_cons,Kaw,KaT];omega
theorem aaH(hN:oM){S:List Q8}{G:List bD}(hS:S.length<2^40)(hG:G.length<2^40)(hb:∀s∈S,jR s)(hg:∀g∈G,l9 g):
  Qd Tryz.prog 15 [PV.cw S G] (fun r=>∃b,r= .bool b/\(b=true->nS S G/\∀p∈xV S G,p.length<=60)):=by
 have anh:=afl hN hS hG hb hg;refine aB Qg Tryz.func15 aiL fun C hP=>?_;refine Sz0 ?_;refine fM hP anh rfl rfl rfl ?_;rintro _ ⟨b,rfl,hF⟩;cases b
 ·refine Sz0 ?_;exact dq ⟨false,rfl,fun h=>by cases h⟩ rfl
 replace hF:=hF rfl;have hM:=LX hN hF hS hG hb hg;refine Sz0 ?_;refine fM hP hM rfl rfl ?_ ?_
 ·rfl
 rintro _ ⟨M,e,rfl,⟨rfl,rfl⟩|⟨he,rfl⟩⟩
 rotate_left
 ·have d:decide (¬e=0)=true:=decide_eq_true he;refine Sz1 d ?_;exact dq ⟨false,rfl,fun h=>by cases h⟩ rfl
 have qn:=HC S S.length;have nw:(nV S).length<=S.length:=by unfold nV;rw[Ka0];exact DN S _
 have JO:(l7 S G).length=G.length:=by simp[l7]
 have s5:=LY hF hb hg;have rA:=hF.l;have hG3:=hF.gl;have aW:∀L,L=iD S S.length++nV S++(l7 S G).flatten->L=xV S G:=fun L h=>h;unfold vH;generalize iD S S.length=H at *
 generalize nV S=P at *
 generalize l7 S G=Q at *
 have hl5:=LZ s5;refine Sz0 ?_;refine abw okB [(5,5),(18,24)] [18] (fun J hp=>J 5= .ms 18 (H.length+P.length)/\hp 3=some ⟨7,34,[PV.iv S G (eu S) (gL S) H P Q],false⟩/\hp 18=some ⟨1,43,(H++P).map PV.ao,false⟩) ?_ ?_
 ·repeat' first
   |refine dp ?_ ?_
   |rw[akt (by omega)]
   |rw[jI (f:=PV.ao) (ty:=43) (xs:=([]:List (List Tm))) (ys:=H) (by rfl) (by rfl) (by omega) (by simp;omega) (by simp;omega)]
   |rw[jI (f:=PV.ao) (ty:=43) (xs:=H) (ys:=P) (by rfl) (by rfl) (by omega) (by omega) (by omega)]
   |simp+decide (disch:=try exact D0) only[go_sem]
  all_goals
   refine DV ?_;exact Tz0
 rintro J h ⟨j5,b3,Rl⟩;obtain⟨A,hA⟩:∃A:Nat->List (List Tm),∀i,A i=H++P++(Q.take i).flatten:=⟨_,fun _=>rfl⟩
 have AR:A 0=H++P:=by rw[hA];simp
 have RR:∀i (h:i<Q.length),A (i+1)=A i++Q[i]:=fun i h=>by rw[hA,hA,Kam h,List.flatten_append,Kbv];simp
 have uq:∀i,(A i).length<=100:=fun i=>by
  have h1:=LZ (Q:=Q.take i) fun l hl=>s5 l (Ka8 hl);rw[hA,Kaw,Kaw];have:(Q.take i).length<=Q.length:=by rw[Kax];omega
  omega
 have I6:A Q.length=xV S G:=aW _ (by rw[hA,KaE]);clear hA aW hl5;rw[<-AR]at Rl;rw[<-List.length_append,<-AR]at j5;refine Sz0 ?_;refine Qn okB [(5,6),(25,38)] [18,38] (fun q J hp=>∃i,q=Q.length-i/\i<=Q.length/\J 5= .ms 18 (A i).length/\J 6= .int .i64 (i:Nat)/\hp 3=some ⟨7,34,[PV.iv S G (eu S) (gL S) H P Q],false⟩/\hp 18=some ⟨1,43,(A i).map PV.ao,false⟩) Q.length ?_ ?_
 ·refine⟨0,rfl,by omega,?_⟩;refine Sz3 j5 b3 Rl ?_;rfl
 rintro _ J1 h1 ⟨i,rfl,hi,k5,k6,c3,AL⟩;refine Sz2 k6 c3 ?_;refine Qb (fun hc=>?_) (fun hc=>?_)
 ·have az:i<Q.length:=by omega
  have hs:=RR i az;have hl:=uq i;have h2:=s5 _ (Kah az);generalize hx:Q[i]=x at *
  refine Sz4 k5 k6 c3 hx ?_;rw[jI (f:=PV.ao) (xs:=A i) (ys:=x) AL rfl (by omega) (by omega) (by omega)];refine Sz1 k6 ?_;refine Qi (Q.length-(i+1)) (by omega) ⟨i+1,rfl,by omega,?_⟩;rw[hs,Kaw,KbW];exact Tz1 c3
 obtain rfl:i=Q.length:=by omega
 rw[I6]at k5 AL;have lA:=uq Q.length;rw[I6]at lA;clear I6 RR uq AR;generalize xV S G=L at *
 refine Sz1 k5 ?_;refine Qn okB [(2,2),(7,7),(39,50)] [] (fun q J hp=>∃i,q=L.length-i/\i<=L.length/\(∀n (h:n<L.length),n<i->L[n].length<=60)/\J 7= .int .i64 (i:Nat)/\hp 18=some ⟨1,43,L.map PV.ao,false⟩) L.length ?_ ?_
 ·refine⟨0,rfl,by omega,by omega,?_⟩;refine Sz1 AL ?_;rfl
 rintro _ J2 h2 ⟨i,rfl,hi,RP,m7,d18⟩;refine Sz2 k5 m7 ?_;refine Qb (fun hc=>?_) (fun hc=>?_)
 ·have az:i<L.length:=by omega
  have bR:L[i].length<=60->∀n (h:n<L.length),n<i+1->L[n].length<=60:=fun h n hn rG=>by
   by_cases e:n=i
   ·subst e;exact h
   ·exact RP n hn (by omega)
  have s6:∀fr hp d K,iu (some ⟨1,43,L.map PV.ao,false⟩) 1 false i 0 d fr hp K=K (ae fr d (PV.ao L[i])) hp:=fun fr hp d K=>by rw[oN (by rw[Ka0];exact az) (by omega) (by simp),Kb8];rfl
  generalize hx:L[i]=x at *
  refine Sz4 k5 m7 d18 s6 ?_;refine Qb (fun hq=>?_) (fun hq=>?_)
  ·refine Sz0 ?_;exact dq ⟨false,rfl,fun h=>by cases h⟩ rfl
  refine Sz1 m7 ?_;refine Qi (L.length-(i+1)) (by omega) ⟨i+1,rfl,by omega,bR (by omega),?_⟩;exact Tz1 d18
 obtain rfl:i=L.length:=by omega
 refine Sz0 ?_;refine dq ⟨true,rfl,fun _=>⟨hF,fun p hp=>?_⟩⟩ rfl;obtain⟨n,hn,rfl⟩:=KaA hp;exact RP n hn hn
structure GI(S:List Q8)(G:List bD):Prop where
 F:nS S G
 a:∀p∈xV S G,p.length<=60
 h:(iD S S.length).length<=4
 g:∀l∈l7 S G,∀p∈l,p.length<=12
theorem aaI(hN:oM){S:List Q8}{G:List bD}(hS:S.length<2^40)(hG:G.length<2^40)(hb:∀s∈S,jR s)(hg:∀g∈G,l9 g):
  Qd Tryz.prog 5 [PV.cw S G] (fun r=>∃M b,r= .aG [M,.bool b]/\(M=vH S G∨M=sQ)/\(b=true->M=vH S G/\GI S G)):=by
 have hL:=aaH hN hS hG hb hg;refine aB Qg Tryz.func5 ajg fun C hP=>?_;refine Sz0 ?_;refine fM hP hL rfl rfl rfl ?_;rintro _ ⟨b,rfl,hF⟩;cases b
 ·refine Sz0 ?_;refine eA ?_;refine Sz0 ?_;exact gZ ⟨sQ,false,rfl,.inr rfl,fun h=>by cases h⟩ rfl rfl DO (Qf _)
 obtain⟨hF,ha⟩:=hF rfl;have hM:=LX hN hF hS hG hb hg;refine Sz0 ?_;refine fM hP hM rfl rfl ?_ ?_
 ·rfl
 rintro _ ⟨M,e,rfl,⟨rfl,rfl⟩|⟨he,rfl⟩⟩
 rotate_left
 ·have d:decide (e=0)=false:=decide_eq_false he;refine Sz1 d ?_;refine Qn okB [(3,3),(6,7),(20,44)] [] (fun q J hp=>q=0/\J 20= .int .i64 0/\hp 2=some ⟨7,34,[.agg [.aa,.aa,.aa,.aa,.aa,.aa,.aa]],false⟩/\hp 4=some ⟨7,34,[sQ],false⟩) 0 ?_ ?_
  ·refine⟨rfl,?_⟩;refine Sz0 ?_;rfl
  rintro _ J h ⟨rfl,gy,b2,b4⟩;refine Sz1 gy ?_
  repeat' first|refine dp ?_ ?_|simp+decide (disch:=try exact D3 b2 b4 d) only[go_sem,b2,b4,d]
  all_goals
   refine eA ?_;refine Sz0 ?_;exact gZ ⟨sQ,false,rfl,.inr rfl,fun h=>by cases h⟩ rfl rfl (Qf _) (Qf _)
 have JO:(l7 S G).length<=3:=by simp[l7];exact hF.gl
 have s5:=LY hF hb hg;have qn:=HC S S.length;have rA:=hF.l;have aW:(iD S S.length).length<=4->(∀l∈l7 S G,∀p∈l,p.length<=12)->GI S G:=fun h1 h2=>⟨hF,ha,h1,h2⟩
 obtain⟨M,Jc⟩:∃M,vH S G=M:=⟨_,rfl⟩
 have hMx:M=PV.iv S G (eu S) (gL S) (iD S S.length) (nV S) (l7 S G):=Jc.symm;rw[Jc];generalize iD S S.length=H at *
 generalize nV S=P at *
 generalize l7 S G=Q at *
 generalize eu S=C0 at *
 generalize gL S=V0 at *
 subst hMx;clear Jc hM ha;refine Sz0 ?_;refine Qn okB [(3,3),(6,7),(20,44)] [] (fun q J hp=>∃i,q=Q.length-i/\i<=Q.length/\(∀n (h:n<Q.length),n<i->∀p∈Q[n],p.length<=12)/\J 20= .int .i64 (i:Nat)/\hp 2=some ⟨7,34,[.agg [.aa,.aa,.aa,.aa,.aa,.aa,.aa]],false⟩/\hp 4=some ⟨7,34,[PV.iv S G C0 V0 H P Q],false⟩) Q.length ?_ ?_
 ·refine⟨0,rfl,by omega,by omega,?_⟩;refine Sz0 ?_;rfl
 rintro _ J h ⟨i,rfl,hi,ig,gy,b2,b4⟩;refine Sz1 gy ?_;refine Qb (fun hc=>?_) (fun hc=>?_)
 ·have az:i<Q.length:=by omega
  have jB:=s5 _ (Kah az);have bR:(∀p∈Q[i],p.length<=12)->∀n (h:n<Q.length),n<i+1->∀p∈Q[n],p.length<=12:=fun h n hn rG=>by
   by_cases e:n=i
   ·subst e;exact h
   ·exact ig n hn (by omega)
  generalize hx:Q[i]=x at *
  refine Sz3 gy b4 hx ?_;refine Qn okB [(3,3),(7,7),(29,43)] [] (fun q J2 hp=>∃k,q=x.length-k/\k<=x.length/\(∀n (h:n<x.length),n<k->x[n].length<=12)/\J2 29= .int .i64 (k:Nat)/\hp 2=some ⟨7,34,[.agg [.aa,.aa,.aa,.aa,.aa,.aa,.aa]],false⟩/\hp 4=some ⟨7,34,[PV.iv S G C0 V0 H P Q],false⟩) x.length ?_ ?_
  ·refine⟨0,rfl,by omega,by omega,?_⟩;refine Sz2 b2 b4 ?_;rfl
  rintro _ J2 h2 ⟨k,rfl,hk,RN,Kt,c2,c4⟩;refine Sz1 Kt ?_;refine Qb (fun eL=>?_) (fun eL=>?_)
  ·have cP:k<x.length:=by omega
   have oe:x[k].length<=12->∀n (h:n<x.length),n<k+1->x[n].length<=12:=fun h n hn rG=>by
    by_cases e:n=k
    ·subst e;exact h
    ·exact RN n hn (by omega)
   generalize hy:x[k]=y at *
   refine Sz6 gy Kt c2 c4 hx hy ?_;refine Qb (fun hq=>?_) (fun hq=>?_)
   ·refine Sz2 c2 c4 ?_;refine eA ?_;refine Sz0 ?_;exact gZ ⟨_,false,rfl,.inl rfl,fun h=>by cases h⟩ rfl rfl (Qf _) (Qf _)
   refine Sz1 Kt ?_;refine Qi (x.length-(k+1)) (by omega) ⟨k+1,rfl,by omega,oe (by omega),?_⟩;exact Tz2 c2 c4
  obtain rfl:k=x.length:=by omega
  refine Sz1 gy ?_;simp (disch:=decide) only[jG,pI];refine Qi (Q.length-(i+1)) (by omega) ⟨i+1,rfl,by omega,bR (fun p hp=>?_),?_⟩
  ·obtain⟨n,hn,rfl⟩:=KaA hp;exact RN n hn hn
  exact Tz2 c2 c4
 obtain rfl:i=Q.length:=by omega
 have anb:∀l∈Q,∀p∈l,p.length<=12:=fun l hl=>by obtain⟨n,hn,rfl⟩:=KaA hl;exact ig n hn hn
 repeat' first|refine dp ?_ ?_|simp+decide (disch:=try exact D2 b2 b4) only[go_sem,b2,b4]
 all_goals
  refine eA ?_;refine Sz0 ?_;exact gZ ⟨_,_,rfl,.inl rfl,fun h=>⟨rfl,aW (by have:=of_decide_eq_true h;omega) anb⟩⟩ rfl rfl (Qf _) (Qf _)
theorem Q1.add{p q:List Tm}(hp:QZ 8 120 8 961 130 p)(hq:QZ 8 120 8 961 130 q):QZ 16 242 8 1927 138 (Qq p q):=(QZ.add hp hq).mono (by omega) (by omega) (by omega) (by omega) (by omega)
def mF(t:cS):Bool:=decide (t.m.length<=4)&&(decide (t.a.length<=2)&&(decide (t.d.length<=2)&&t.m.all fun x=>decide (x<=4)))
def tV(l:List cS):Bool:=decide (l.length<=6)&&(l.all mF&&dt l)
theorem Qyb{l:List cS}{k:Nat}(hb:∀t∈l,RB k t)(jx:1<=k)(hk:k<2^36)(lA:l.length<2^40):
  Qd Tryz.prog 10 [PV.mD l] (· = .bool (tV l)):=by
 have bad:∀i (h:i<l.length),mF l[i]=false->tV l=false:=fun i hi h=>by
  have:l.all mF=false:=by rw[KcJ];exact⟨_,Kah hi,by simp[h]⟩
  simp[tV,this]
 refine aB Qg Tryz.func10 aix fun C hP=>?_;refine Sz0 ?_;refine Qb (fun hn=>?_) (fun hn=>?_)
 ·refine Sz0 ?_;exact Qc (by simp[tV,show ¬l.length<=6 by omega]) rfl
 have s7:l.length<=6:=by omega
 refine Sz0 ?_;refine Qn okB [(2,4),(8,60)] [] (fun m J hp=>∃i,m=l.length-i/\i<=l.length/\(∀j (h:j<l.length),j<i->mF l[j]=true)/\J 3= .int .i64 (i:Nat)) l.length ?_ ?_
 ·refine⟨0,rfl,by omega,by omega,?_⟩;refine Sz0 ?_;rfl
 rintro _ J h ⟨i,rfl,hi,h1,h9⟩;refine Sz1 h9 ?_;refine Qb (fun hg=>?_) (fun hg=>?_)
 ·have az:i<l.length:=by omega
  have jW:=hb _ (Kah az);have mg:=bad i az;have uH:=jW.l;have bR:mF l[i]=true->∀j (h:j<l.length),j<i+1->mF l[j]=true:=fun h j hj gP=>by
   by_cases e:j=i
   ·subst e;exact h
   ·exact h1 j hj (by omega)
  generalize hx:l[i]=x at *
  refine Sz2 h9 hx ?_;refine Qo (fun h2=>?_) (fun h2=>?_)
  ·refine Sz2 h9 hx ?_;exact Qc (by rw[mg (by simp[mF,show ¬x.m.length<=4 by omega])]) rfl
  refine Sz2 h9 hx ?_;refine Qo (fun h3=>?_) (fun h3=>?_)
  ·refine Sz2 h9 hx ?_;exact Qc (by rw[mg (by simp[mF,show ¬x.a.length<=2 by omega])]) rfl
  refine Sz2 h9 hx ?_;refine Qb (fun h4=>?_) (fun h4=>?_)
  ·refine Sz2 h9 hx ?_;exact Qc (by rw[mg (by simp[mF,show ¬x.d.length<=2 by omega])]) rfl
  refine Sz2 h9 hx ?_;refine Qn okB [(2,2),(4,4),(42,60)] [] (fun m J hp=>∃j,m=x.m.length-j/\j<=x.m.length/\(∀y∈x.m.take j,y<=4)/\J 4= .int .i64 (j:Nat)) x.m.length ?_ ?_
  ·refine⟨0,rfl,by omega,by simp,?_⟩;refine Sz0 ?_;rfl
  rintro _ J2 lk ⟨j,rfl,hj,h5,bp⟩;refine Sz3 h9 bp hx ?_;refine Qb (fun eW=>?_) (fun eW=>?_)
  ·have dj:j<x.m.length:=by omega
   have im:=Kah dj;have bN:x.m.take (j+1)=x.m.take j++[x.m[j]]:=Kam dj;generalize hy:x.m[j]=y at *
   refine Sz4 h9 bp hx hy ?_;refine Qb (fun h6=>?_) (fun h6=>?_)
   ·refine Sz3 h9 bp hx ?_;refine Qc ?_ rfl;rw[mg];have:(x.m.all fun x=>decide (x<=4))=false:=by rw[KcJ];exact⟨y,im,by simp;omega⟩
    simp[mF,this]
   ·refine Sz3 h9 bp hx ?_;refine Qi (x.m.length-(j+1)) (by omega) ⟨j+1,rfl,by omega,?_,?_⟩
    ·rw[bN];intro z hz;rcases KaM.1 hz with hz|hz
     ·exact h5 z hz
     ·simp at hz;omega
    ·exact Tz0
  ·rw[Kai (by omega)]at h5;have yH:mF x=true:=by simp only[mF,Kav,decide_eq_true_eq,Kaq];exact⟨by omega,by omega,by omega,h5⟩
   refine Sz2 h9 bp ?_;simp (disch:=decide) only[jG,pI];refine Qi (l.length-(i+1)) (by omega) ⟨i+1,rfl,by omega,bR yH,?_⟩;exact Tz0
 ·obtain rfl:i=l.length:=by omega
  have aW:l.all mF=true:=by rw[Kaq];intro t ht;obtain⟨j,hj,rfl⟩:=KaA ht;exact h1 j hj hj
  refine Sz0 ?_;refine Qa hP (UU hb jx hk lA) rfl rfl rfl ?_;refine Sz0 ?_;exact Qc (by simp[tV,s7,aW]) rfl
structure AD where
 fs:List (List cS)
 ps:List Int
 n:Int
 cs:List (List cS)
abbrev PV.KH(c:AD):PV:=.agg [.sl 1 (c.fs.map PV.mD),PV.mono c.ps,.int .i64 c.n,.sl 1 (c.cs.map PV.mD)]
structure RC(k:Nat)(c:AD):Prop where
 f:∀l∈c.fs,(∀t∈l,RB k t)/\l.length<2^40
 g:∀l∈c.cs,(∀t∈l,RB k t)/\l.length<2^40
 fl:c.fs.length<2^40
 cl:c.cs.length<2^40
 pl:c.ps.length<2^40
def vq(c:AD)(i:Nat):Bool:=decide (0<=c.ps.getD i 0/\c.ps.getD i 0<=64)&&(decide (c.fs.getD i []≠[])&&dt (c.fs.getD i []))
def qU(c:AD):Bool:=decide (c.ps.length=c.fs.length/\1<=c.n/\c.n<=64)&&((List.range c.fs.length).all (vq c)&&c.cs.all dt)
theorem VV{c:AD}{k:Nat}(hb:RC k c)(jx:1<=k)(hk:k<2^36):Qd Tryz.prog 51 [PV.KH c] (· = .bool (qU c)):=by
 have h2:=hb.pl;have h3:=hb.fl;have h4:=hb.cl;obtain⟨fs,ps,n,cs⟩:=c;simp only at h2 h3 h4;refine aB Qg Tryz.func51 ah6 fun C hP=>?_;refine Sz0 ?_;refine Qo (fun hl=>?_) (fun hl=>?_)
 ·refine Sz0 ?_;exact Qc (by simp[qU,show ¬ps.length=fs.length by omega]) rfl
 refine Sz0 ?_;refine Qo (fun hn=>?_) (fun hn=>?_)
 ·refine Sz0 ?_;exact Qc (by simp[qU,show ¬1<=n by omega]) rfl
 refine Sz0 ?_;refine Qb (fun s8=>?_) (fun s8=>?_)
 ·refine Sz0 ?_;exact Qc (by simp[qU,show ¬n<=64 by omega]) rfl
 have iL:decide (ps.length=fs.length/\1<=n/\n<=64)=true:=decide_eq_true (by omega);refine Sz0 ?_;refine Qn okB [(2,4),(27,56)] [] (fun m J hp=>∃i,m=fs.length-i/\i<=fs.length/\(∀j,j<i->vq ⟨fs,ps,n,cs⟩ j=true)/\J 27= .int .i64 (i:Nat)/\hp 1=some ⟨4,62,[PV.KH ⟨fs,ps,n,cs⟩],false⟩) fs.length ?_ ?_
 ·refine⟨0,rfl,by omega,by omega,?_⟩;refine Sz0 ?_;rfl
 rintro _ J h ⟨i,rfl,hi,h5,h6,aZ⟩;refine Sz2 aZ h6 ?_;refine Qb (fun hg=>?_) (fun hg=>?_)
 ·have JL:i<fs.length:=by omega
  have Fo:i<ps.length:=by omega
  have mg:vq ⟨fs,ps,n,cs⟩ i=false->qU ⟨fs,ps,n,cs⟩=false:=fun h=>by
   have:(List.range fs.length).all (vq ⟨fs,ps,n,cs⟩)=false:=by rw[KcJ];exact⟨i,KcY.2 JL,by simp[h]⟩
   simp[qU,this]
  have e2:ps.getD i 0=ps[i]:=by simp[Fo]
  have e3:fs.getD i []=fs[i]:=by simp[JL]
  have e4:vq ⟨fs,ps,n,cs⟩ i=(decide (0<=ps[i]/\ps[i]<=64)&&(decide (fs[i]≠[])&&dt fs[i])):=by unfold vq;rw[e2,e3]
  rw[e4]at mg;have qx:=hb.f _ (Kah JL);generalize hx:ps[i]=x at *
  generalize hy:fs[i]=y at *
  have kJ:=qx.2;have hr:=OG qx.1 jx hk qx.2;refine Sz4 aZ h6 hx hy ?_;refine Qo (fun h7=>?_) (fun h7=>?_)
  ·refine Sz3 aZ h6 hx ?_;exact Qc (by rw[mg (by rw[decide_eq_false (by omega),Bool.false_and])]) rfl
  refine Sz3 aZ h6 hx ?_;refine Qo (fun h8=>?_) (fun h8=>?_)
  ·refine Sz3 aZ h6 hx ?_;exact Qc (by rw[mg (by rw[decide_eq_false (by omega),Bool.false_and])]) rfl
  refine Sz4 aZ h6 hx hy ?_;refine Qo (fun h9=>?_) (fun h9=>?_)
  ·refine Sz3 aZ h6 hx ?_;obtain rfl:y=[]:=Kar.1 (by omega);exact Qc (by rw[mg (by simp)]) rfl
  have aT:y≠[]:=fun e=>by rw[e]at h9;simp at h9
  refine Sz2 aZ h6 ?_;refine Qa hP hr rfl rfl rfl ?_;cases aO:dt y
  ·refine Sz2 aZ h6 ?_;exact Qc (by rw[mg (by simp[aO])]) rfl
  refine Sz2 aZ h6 ?_;refine Qi (fs.length-(i+1)) (by omega) ⟨i+1,rfl,by omega,fun j hj=>?_,?_⟩
  ·by_cases e:j=i
   ·subst e;rw[e4,decide_eq_true (by omega),decide_eq_true aT,aO];rfl
   ·exact h5 j (by omega)
  ·exact Tz1 aZ
 ·obtain rfl:i=fs.length:=by omega
  have aW:(List.range fs.length).all (vq ⟨fs,ps,n,cs⟩)=true:=by rw[Kaq];intro t ht;exact h5 t (KcY.1 ht)
  refine Sz1 aZ ?_;refine Qn okB [(2,2),(6,6),(60,67)] [] (fun m J hp=>∃i,m=cs.length-i/\i<=cs.length/\(∀j (h:j<cs.length),j<i->dt cs[j]=true)/\J 60= .int .i64 (i:Nat)) cs.length ?_ ?_
  ·refine⟨0,rfl,by omega,by omega,?_⟩;refine Sz0 ?_;rfl
  rintro _ J2 h' ⟨i,rfl,hi,h7,h8⟩;refine Sz1 h8 ?_;refine Qb (fun hg=>?_) (fun hg=>?_)
  ·have o8:i<cs.length:=by omega
   have qx:=hb.g _ (Kah o8);have hym:=Kah o8;have bR:dt cs[i]=true->∀j (h:j<cs.length),j<i+1->dt cs[j]=true:=fun h j hj gP=>by
    by_cases e:j=i
    ·subst e;exact h
    ·exact h7 j hj (by omega)
   generalize hy:cs[i]=y at *
   have hr:=OG qx.1 jx hk qx.2;refine Sz2 h8 hy ?_;refine Qa hP hr rfl rfl rfl ?_;cases aO:dt y
   ·refine Sz1 h8 ?_;refine Qc ?_ rfl;have:cs.all dt=false:=by rw[KcJ];exact⟨y,hym,by simp[aO]⟩
    simp[qU,this]
   refine Sz1 h8 ?_;refine Qi (cs.length-(i+1)) (by omega) ⟨i+1,rfl,by omega,bR aO,?_⟩;exact Tz0
  ·obtain rfl:i=cs.length:=by omega
   refine Sz0 ?_;refine Qc ?_ rfl;have:cs.all dt=true:=by rw[Kaq];intro t ht;obtain⟨j,hj,rfl⟩:=KaA ht;exact h7 j hj hj
   rw[qU,aW,this,iL];rfl
theorem IG{a b c d:Nat}(h:a<=c)(h2:b<=d):a*b<=c*d:=KbU h h2
theorem N8{p q:List Tm}{n m w:Nat}(hw:w<=512)(hp:jF m p)(hq:nU w q)(hn:n<=64)(hm:m+n*w<=2048):Qd Tryz.prog 98 [PV.ao p,PV.ao q,.int .i64 n] (· =PV.pe (vn q p n)):=by
 have yF:=hq.l;have bq:=(hq.PB hw).mono (K':=2^19) (E':=2^17) (by omega) (by omega);refine aB Qg Tryz.func98 aiy fun C hP=>?_;refine Sz0 ?_;refine Qn okB [(0,0),(6,7),(9,17)] [] (fun r J hp=>∃k P,r=n-k/\k<=n/\jF (m+k*w) P/\lM q (n-k) P=lM q n p/\J 0=PV.ao P/\J 9= .int .i64 (k:Nat)) n ?_ ?_
 ·refine⟨0,p,rfl,by omega,by rw[KbI];exact hp,rfl,?_⟩;refine Sz0 ?_;rfl
 rintro _ J h ⟨k,P,rfl,hk,Je,jX,h0,h9⟩;refine Sz1 h9 ?_;refine Qb (fun hg=>?_) (fun hg=>?_)
 ·have cP:k<n:=by omega
  have hkw:k*w<=n*w:=Kal _ hk;have bP:=Je.PB (by omega);have lP:=Je.l;have aL:=Vf (q:=q) (P:=P) cP;have m1:=IG lP yF;have m2:min P.length q.length*(2^19+2^19)<=64*(2^19+2^19):=Kal _ (by omega);have ir:=Je.mul hq;rw[show m+k*w+w=m+(k+1)*w by rw[KaG];omega]at ir;refine Sz2 h0 h9 ?_;refine Qa hP (Pw bP bq (by omega) (by omega) (by omega) (by omega) (by omega) (by omega)) rfl rfl rfl ?_;generalize aV P q=P' at *
  refine Sz2 h0 h9 ?_;refine Qb (fun hc=>?_) (fun hc=>?_)
  ·refine Sz0 ?_;refine cA (r:=PV.pe (vn q p n)) ?_ rfl rfl si (Qf _);unfold vn;rw[<-jX,aL,if_pos (by omega)];rfl
  ·refine Sz2 h0 h9 ?_;rw[if_neg (by omega)]at aL;refine Qi (n-(k+1)) (by omega) ⟨k+1,P',rfl,by omega,ir (by omega),by rw[<-jX,aL],?_⟩;exact Tz0
 ·obtain rfl:k=n:=by omega
  refine Sz1 h0 ?_;refine cA (r:=PV.pe (vn q p k)) ?_ rfl rfl (Qf _) (Qf _);unfold vn;rw[<-jX,KbH];rfl
theorem Qyd{cs ls:List (List Tm)}{k:Nat}(hk:k<=512)(h1:∀c∈cs,tr c)(h2:∀c∈ls,nU k c)(hl:cs.length<=8)(lA:ls.length<2^40):Qd Tryz.prog 99 [PV.eI cs,PV.eI ls] (· =PV.pe (fP cs ls)):=by
 refine aB Qg Tryz.func99 aiz fun C hP=>?_;refine Sz0 ?_;refine Qb (fun aT=>?_) (fun aT=>?_)
 ·refine Sz0 ?_;refine cA (r:=PV.pe (fP cs ls)) ?_ rfl rfl si (Qf _);unfold fP;rw[if_neg (by omega)]
 have he:cs.length=ls.length:=by omega
 have FO:(cs.zip ls).length=ls.length:=by rw[List.length_zip];omega
 have ju:fP cs ls=nT (pL (cs.zip ls) []):=by unfold fP;rw[if_pos he]
 refine Sz0 ?_;refine xp 6 4 Tz0 ?_;refine Qn okB [(4,7),(15,32)] [] (fun r J hp=>∃i,r=ls.length-i/\i<=ls.length/\(gk (cs.zip ls) i).length<=4000/\pL ((cs.zip ls).drop i) (gk (cs.zip ls) i)=pL (cs.zip ls) []/\J 6=PV.ao (gk (cs.zip ls) i)/\J 15= .int .i64 (i:Nat)) ls.length ?_ ?_
 ·refine⟨0,rfl,by omega,by simp[gk],rfl,?_⟩;refine Sz0 ?_;exact⟨rfl,rfl⟩
 rintro _ J h ⟨i,rfl,hi,hlen,jX,h6,AP⟩;refine Sz1 AP ?_;refine Qb (fun hg=>?_) (fun hg=>?_)
 ·have az:i<ls.length:=by omega
  have o8:i<cs.length:=by omega
  have aL:=OL (l:=cs.zip ls) (i:=i) (by omega);have hs:=C4 (l:=cs.zip ls) (i:=i) (by omega);rw[afM he o8]at hs;obtain⟨b1,n1⟩:=MN h1 hk h2 hl (i:=i) (by omega);have c1:=h1 _ (Kah o8);have c2:=h2 _ (Kah az);have b2:=c1.PB.mono (K':=2^23) (E':=2^16) (by omega) (by omega);have b3:=(c2.PB hk).mono (K':=2^23) (E':=2^16) (by omega) (by omega);have l2:=c1.l;have l3:=c2.l;simp only at hs;rw[<-jX];have m1:=IG l2 l3;have m2:min (cs[i]).length (ls[i]).length*(2^23+2^23)<=64*(2^23+2^23):=Kal _ (by omega);generalize hx:cs[i]=x at *
  generalize hy:ls[i]=y at *
  have bm:=Pj b2 b3;have aks:min x.length y.length*(2^23+2^23)<=2^31:=by omega
  have b4:=bm.1.mono (K':=2^31) (E':=2^17) aks (by omega);have l4:=bm.2;have uI:=Pw b2 b3 (by omega) (by omega) (by omega) (by omega) (by omega) (by omega);generalize aV x y=z at *
  have b5:=b1.mono (K':=2^31) (E':=2^17) (by omega) (by omega);generalize hS:gk (cs.zip ls) i=s at *
  generalize hS':gk (cs.zip ls) (i+1)=s' at *
  refine Sz4 h6 AP hx hy ?_;refine Qa hP uI rfl rfl rfl ?_;refine Sz2 h6 AP ?_;refine Qa hP (O6 b5 b4 (by omega) (by omega) (by omega) (by omega)) rfl rfl rfl ?_;rw[<-hs];refine Sz2 h6 AP ?_;refine Qb (fun hc=>?_) (fun hc=>?_)
  ·refine Sz0 ?_;refine cA (r:=PV.pe (fP cs ls)) ?_ rfl rfl si (Qf _);rw[ju,<-jX,aL,if_pos (by omega)];rfl
  ·refine Sz2 h6 AP ?_;rw[if_neg (by omega)]at aL;refine Qi (ls.length-(i+1)) (by omega) ⟨i+1,rfl,by omega,?_⟩;rw[hS'];refine⟨by omega,by rw[<-aL,jX],?_⟩;exact Tz0
 ·obtain rfl:i=ls.length:=by omega
  refine Sz1 h6 ?_;refine cA (r:=PV.pe (fP cs ls)) ?_ rfl rfl (Qf _) (Qf _);rw[ju,<-jX,Kan (by omega)];rfl
theorem ajQ:Qd Tryz.prog 90 [.int .i64 1] (· =PV.rat 1):=Dk (by omega) (by omega)
theorem Qye{fs:List (List Tm)}{ps:List Int}(h1:∀c∈fs,pY c)(hl:fs.length<=8)(df:ps.length<2^40):Qd Tryz.prog 97 [PV.eI fs,PV.mono ps] (· =PV.pe (jm fs ps)):=by
 have wm:=sM;refine aB Qg Tryz.func97 aiA fun C hP=>?_;refine Sz0 ?_;refine Qb (fun aT=>?_) (fun aT=>?_)
 ·refine Sz0 ?_;refine cA (r:=PV.pe (jm fs ps)) ?_ rfl rfl si (Qf _);unfold jm;rw[if_neg (by omega)]
 have he:fs.length=ps.length:=by omega
 refine Sz0 ?_;refine Qn okB [(4,5),(7,7),(19,29)] [] (fun r J hp=>∃i,r=ps.length-i/\i<=ps.length/\(∀j (hj:j<ps.length),j<i->0<=ps[j]/\ps[j]<=64)/\J 19= .int .i64 (i:Nat)) ps.length ?_ ?_
 ·refine⟨0,rfl,by omega,by omega,?_⟩;refine Sz0 ?_;rfl
 rintro _ J h ⟨i,rfl,hi,aW,gM⟩;refine Sz1 gM ?_;refine Qb (fun hg=>?_) (fun hg=>?_)
 ·have az:i<ps.length:=by omega
  have mg:=aal az;have bR:(0<=ps[i]/\ps[i]<=64)->∀j (hj:j<ps.length),j<i+1->0<=ps[j]/\ps[j]<=64:=fun h j hj gP=>by
   by_cases e:j=i
   ·subst e;exact h
   ·exact aW j hj (by omega)
  generalize hx:ps[i]=x at *
  refine Sz2 gM hx ?_;refine Qo (fun h6=>?_) (fun h6=>?_)
  ·refine Sz2 gM hx ?_;refine cA (r:=PV.pe (jm fs ps)) ?_ rfl rfl si (Qf _);rw[Re he (mg (by omega))]
  refine Sz2 gM hx ?_;refine Qb (fun h7=>?_) (fun h7=>?_)
  ·refine Sz2 gM hx ?_;refine cA (r:=PV.pe (jm fs ps)) ?_ rfl rfl si (Qf _);rw[Re he (mg (by omega))]
  refine Sz1 gM ?_;refine Qi (ps.length-(i+1)) (by omega) ⟨i+1,rfl,by omega,bR (by omega),?_⟩;exact Tz0
 obtain rfl:i=ps.length:=by omega
 have aO:=aam fun j hj=>aW j hj hj;have rI:=ab7 he aO;refine Sz0 ?_;refine Qa hP ajQ rfl rfl rfl ?_;refine Sz0 ?_;refine Qa hP (aad (k:=4) (by omega) (by omega)) rfl rfl rfl ?_;refine Sz0 ?_;refine Qn okB [(4,5),(8,11),(34,54)] [] (fun r J hp=>∃i m P,r=fs.length-i/\i<=fs.length/\m<=64*i/\jF m P/\qR ((oY fs ps).drop i) P=qR (oY fs ps) (cM 1)/\J 8=PV.ao P/\J 34= .int .i64 (i:Nat)) fs.length ?_ ?_
 ·refine⟨0,0,_,rfl,by omega,by omega,jF.one,rfl,?_⟩;refine Sz0 ?_;rfl
 rintro _ J2 h2 ⟨i,m,P,rfl,hi,hm,qf,jX,h8,yn⟩;refine Sz1 yn ?_;refine Qb (fun hg=>?_) (fun hg=>?_)
 ·have az:i<fs.length:=by omega
  have Fo:i<ps.length:=by omega
  have hpw:=Rc aO Fo;have aL:=Vq (l:=oY fs ps) (i:=i) (p:=P) (by rw[zY he];exact az);rw[LS he az]at aL;have yH:=h1 _ (Kah az);have Bw:=C5 yH.w (ps[i]).toNat m P;simp only[KbL]at Bw;simp only at aL;obtain⟨n,hn⟩:∃n:Nat,ps[i]=n:=⟨(ps[i]).toNat,by omega⟩
  rw[hn,KbF]at aL Bw;have aoE:n<=64:=by omega
  have Jv:=N8 (by omega) qf yH.w aoE (by omega);generalize hx:fs[i]=x at *
  refine Sz4 yn h8 hx hn ?_;refine Qa hP Jv rfl rfl rfl ?_;unfold vn;cases hr:lM x n P with
  |none=>rw[hr]at aL;simp+decide (disch:=first|omega|rfl|(simp+decide only[go_sem,yn,nT]<;>rfl)|fail) only[go_sem,yn,nT];refine cA (r:=PV.pe (jm fs ps)) ?_ rfl rfl si (Qf _);rw[rI,<-jX,aL];rfl
  |some P'=>rw[hr]at aL;simp+decide (disch:=first|omega|rfl|(simp+decide only[go_sem,yn,nT]<;>rfl)|fail) only[go_sem,yn,nT];refine Qi (fs.length-(i+1)) (by omega) ⟨i+1,m+n,P',rfl,by omega,by omega,Bw P' qf hr,by rw[<-jX,aL];rfl,?_⟩;exact Tz0
 ·obtain rfl:i=fs.length:=by omega
  refine Sz1 h8 ?_;refine cA (r:=PV.pe (jm fs ps)) ?_ rfl rfl (Qf _) (Qf _);rw[rI,<-jX,Kan (by rw[zY he];omega)];rfl
theorem ajR{m w:Nat}{P q:List Tm}(hw:w<=512)(qf:jF m P)(hq:nU w q)(hm:m<=2048):Qd Tryz.prog 19 [PV.ao P,PV.ao q] (· =PV.ao (aV P q)):=by
 have yF:=hq.l;have bq:=(hq.PB hw).mono (K':=2^19) (E':=2^17) (by omega) (by omega);have bP:=qf.PB hm;have lP:=qf.l;have m1:=IG yF lP;have:=OF bP bq qf.n.z hq.n.z (by omega) (by omega) (by omega) (by omega) (by omega)
 rwa[LL qf.n hq.n]at this
theorem acR{fs:List (List Tm)}{ps:List Int}{n:Int}{cs hs:List (List Tm)}{g P:List Tm}{e:Int}(h:jm fs ps=(P,e)):Ey fs ps n cs hs g=if e=0 then
  if fs.any List.isEmpty then 3
  else if n<1∨64<n then 2
  else if cs.length=hs.length then
   match lM g n.toNat P with
   |none=>4
   |some l=>if(fP cs hs).2=0 then(if l=(fP cs hs).1 then 0 else 17)else(fP cs hs).2
  else 16
 else e:=by unfold Ey;rw[h];rfl
theorem afm{fs:List (List Tm)}{i:Nat}(h:i<fs.length)(h0:fs[i].length=0):fs.any List.isEmpty=true:=by rw[KaW];exact⟨_,Kah h,by rw[Kar.1 h0];rfl⟩
theorem aiZ{fs:List (List Tm)}(h:∀j (hj:j<fs.length),fs[j].length≠0):fs.any List.isEmpty=false:=by rw[KcG];intro x hx;obtain⟨j,hj,rfl⟩:=KaA hx;intro e;exact h j hj (by rw[List.isEmpty_iff.1 e];rfl)
theorem Vh{fs:List (List Tm)}{ps:List Int}{n:Int}{cs hs:List (List Tm)}{g:List Tm}{w:Nat}(hw:w<=512)(hf:∀c∈fs,pY c)(yw:fs.length<=8)(df:ps.length<2^40)(hc:∀c∈cs,tr c)(cX:cs.length<=8)(hh:∀c∈hs,nU w c)(Fl:hs.length<2^40)(hg:nU w g)(JX:n.toNat*w<=1500∨64<n):
  Qd Tryz.prog 52 [PV.cert fs ps n cs,PV.eI hs,PV.ao g] (· = .int .i64 (Ey fs ps n cs hs g)):=by
 have c1:=Qye hf yw df;have c2:=Qyd hw hc hh cX Fl;obtain⟨b1,_,l1⟩:=ab9 hw hc hh cX;obtain⟨⟨P,e⟩,hR⟩:∃r,r=jm fs ps:=⟨_,rfl⟩
 have gq:=acR (n:=n) (cs:=cs) (hs:=hs) (g:=g) hR.symm;have qf:=aao (ps:=ps) hf yw;rw[<-hR]at qf;rw[<-hR]at c1;obtain⟨⟨s,e2⟩,hC⟩:∃r,r=fP cs hs:=⟨_,rfl⟩
 rw[<-hC]at c2 gq b1 l1;simp only at c1 c2 gq qf b1 l1;refine aB Qg Tryz.func52 ah2 fun C hP=>?_;refine Sz0 ?_;refine Qa hP c1 rfl rfl rfl ?_;refine Sz0 ?_;refine Qb (fun h1=>?_) (fun h1=>?_)
 ·refine Sz0 ?_;exact Qc (congrArg (PV.int .i64) (by rw[gq,if_neg (by omega)])) rfl
 obtain rfl:e=0:=by omega
 obtain⟨m,hm,R1⟩:=qf rfl;rw[if_pos rfl]at gq;refine Sz0 ?_;refine Qn okB [(6,6),(10,10),(26,33)] [] (fun r J hp=>∃i,r=fs.length-i/\i<=fs.length/\(∀j (hj:j<fs.length),j<i->fs[j].length≠0)/\J 26= .int .i64 (i:Nat)/\hp 3=some ⟨4,62,[PV.cert fs ps n cs],false⟩) fs.length ?_ ?_
 ·refine⟨0,rfl,by omega,by omega,?_⟩;refine Sz0 ?_;rfl
 rintro _ J h ⟨i,rfl,hi,aW,o0,hb⟩;refine Sz1 o0 ?_;refine Qb (fun eW=>?_) (fun eW=>?_)
 ·have az:i<fs.length:=by omega
  have Jn:=afm az;have bR:fs[i].length≠0->∀j (hj:j<fs.length),j<i+1->fs[j].length≠0:=fun h j hj gP=>by
   by_cases e:j=i
   ·subst e;exact h
   ·exact aW j hj (by omega)
  generalize hx:fs[i]=x at *
  refine Sz2 o0 hx ?_;refine Qb (fun h0=>?_) (fun h0=>?_)
  ·refine Sz0 ?_;exact Qc (congrArg (PV.int .i64) (by rw[gq,Jn (by omega)];rfl)) rfl
  refine Sz1 o0 ?_;refine Qi (fs.length-(i+1)) (by omega) ⟨i+1,rfl,by omega,bR (by omega),?_⟩;exact Tz1 hb
 obtain rfl:i=fs.length:=by omega
 rw[aiZ fun j hj=>aW j hj hj]at gq;simp only[Kbj,if_false]at gq;refine Sz1 hb ?_;refine Qo (fun h2=>?_) (fun h2=>?_)
 ·refine Sz1 hb ?_;exact Qc (congrArg (PV.int .i64) (by rw[gq,if_pos (by omega)])) rfl
 refine Sz1 hb ?_;refine Qb (fun h3=>?_) (fun h3=>?_)
 ·refine Sz1 hb ?_;exact Qc (congrArg (PV.int .i64) (by rw[gq,if_pos (by omega)])) rfl
 rw[if_neg (by omega)]at gq;obtain⟨k,rfl⟩:∃k:Nat,n=k:=⟨n.toNat,by omega⟩
 rw[KbF]at gq JX;replace JX:k*w<=1500:=JX.resolve_right (by omega);refine Sz1 hb ?_;refine Qb (fun h4=>?_) (fun h4=>?_)
 ·refine Sz1 hb ?_;exact Qc (congrArg (PV.int .i64) (by rw[gq,if_neg (by omega)])) rfl
 rw[if_pos (by omega)]at gq;have c3:=N8 hw R1 hg (n:=k) (by omega) (by omega);have Bw:=C5 hg k m P;refine Sz1 hb ?_;refine Qa hP c3 rfl rfl rfl ?_;unfold vn;cases hr:lM g k P with
 |none=>rw[hr]at gq;simp+decide (disch:=first|omega|rfl|(simp+decide only[go_sem,hb,nT]<;>rfl)|fail) only[go_sem,hb,nT];exact Qc (congrArg (PV.int .i64) gq.symm) rfl
 | some L=>
  have hL:=Bw L R1 hr;rw[hr]at gq;simp only at gq;have bL:=(hL.PB (by omega)).mono (K':=268435456) (E':=131072) (by omega) (by omega);have lL:=hL.l;have b2:=b1.mono (K':=268435456) (E':=131072) (by omega) (by omega);simp+decide (disch:=first|omega|rfl|(simp+decide only[go_sem,hb,nT]<;>rfl)|fail) only[go_sem,hb,nT];refine Qa hP c2 rfl rfl rfl ?_;refine Sz1 hb ?_;refine Qb (fun h5=>?_) (fun h5=>?_)
  ·refine Sz1 hb ?_;exact Qc (congrArg (PV.int .i64) (by rw[gq,if_neg (by omega)])) rfl
  rw[if_pos (by omega)]at gq;refine Sz1 hb ?_;refine Qa hP (CH bL b2 (by omega) (by omega) (by omega) (by omega)) rfl rfl rfl ?_;by_cases hq:L=s
  ·rw[if_pos hq]at gq;refine Sz1 hq ?_;exact Qc (congrArg (PV.int .i64) gq.symm) rfl
  ·rw[if_neg hq]at gq;refine Sz1 hq ?_;exact Qc (congrArg (PV.int .i64) gq.symm) rfl
theorem ai0{c:Rat}{L:Nat}(hL:0<L):PV.agg [.bool (decide (fk c<0)),PV.num L]=PV.zz (if c<0 then -(L:Int)else(L:Int)):=by
 by_cases h:c<0
 ·rw[if_pos h,PV.zz,decide_eq_true (DH.2 h),decide_eq_true (by omega),KcL,KaD]
 ·rw[if_neg h,PV.zz,decide_eq_false (fun x=>h (DH.1 x)),decide_eq_false (by omega),KaD]
theorem ai1(L:Nat):PV.agg [.bool false,PV.num L]=PV.zz (L:Int):=by rw[PV.zz,decide_eq_false (by omega),KaD]
theorem Qum:Qd Tryz.prog 30 [PV.ao []] (· = .aG [PV.ao [],PV.rat ((1:Int):Rat)]):=by refine aB Qg Tryz.func30 Nb fun C hP=>?_;refine Sz0 ?_;refine Qa hP (r9 (by omega) (by omega)) rfl rfl rfl ?_;generalize((1:Int):Rat)=c;refine Sz0 ?_;refine eA ?_;refine Sz0 ?_;exact cA rfl rfl rfl (si) (Qf _)
theorem Qs1{p:List Tm}{K E:Nat}(hp:PB K E p)(np:aR p)(h0:p≠[])(hl:p.length<=2^20)(hK:p.length*K+(K+K)<=2^31)(hE:E<=2^38):
  Qd Tryz.prog 30 [PV.ao p] (· = .aG [PV.ao (Q5 p (ej p)),PV.rat (ej p)]):=by
 have RO:0<p.length:=KbB.2 h0;have rI:=MD hp np.z h0;have iM:=Ii np.z h0;have jy:=(vA p p.length (Kad _)).l0;have rE:=Ag hp p.length (Kad _);have s8:=Ij hp p.length (Kad _);have hpk:K<=p.length*K:=Nat.le_mul_of_pos_left _ RO;have hK1:1<=K:=by have:=(hp.get RO).c;omega
 rw[KaE]at jy rE s8;have we:=WL (x:=if(p[0]).1<0 then -(ca p:Int)else(ca p:Int)) (y:=(jn p:Int)) (by split<;>simp only[KcL,KaD]<;>omega) (by rw[KaD];omega) (by omega);rw[<-ai0 jy,<-ai1]at we;have wz:decide (fk (p[0]).1<0)=decide ((p[0]).1.num<0):=by exact decide_eq_decide.2 xx
 rw[wz]at we;have Sw:(((if(p[0]).1<0 then -(ca p:Int)else(ca p:Int):Int):Rat)/((jn p:Int):Rat))=ej p:=by
  unfold ej;cases p with
  |nil=>cases h0 rfl
  |cons t p=>rfl
 have aT:ej p≠0:=by
  rw[<-Sw];have k1:((jn p:Int):Rat)≠0:=by rw[Ne,KaS];omega
  have k2:(((if(p[0]).1<0 then -(ca p:Int)else(ca p:Int):Int)):Rat)≠0:=by rw[Ne,KaS];split<;>omega
  intro h;rw[KcP,Rat.mul_eq_zero]at h;rcases h with h|h
  ·exact k2 h
  ·grind
 rw[Sw]at we;have aW:=QV (p:=p);refine aB Qg Tryz.func30 Nb fun C hP=>?_;refine Sz0 ?_;refine Qb (fun h=>absurd h (by omega)) (fun _=>?_);refine Sz0 ?_;refine Qa hP (mO (n:=1) (by omega)) rfl rfl rfl ?_;refine Sz0 ?_;refine Qa hP (mO (n:=0) (by omega)) rfl rfl rfl ?_;refine Sz0 ?_;refine Qn okB [(4,4),(6,10),(21,49)] [] (fun n J hp=>∃i,n=p.length-i/\i<=p.length/\J 4=PV.num (ca (p.take i))/\J 6= .int .i64 (i:Nat)/\hp 3=some ⟨3,53,[.agg [.bool false,.aa,.aa]],false⟩) p.length ?_ ?_
 ·refine⟨0,rfl,by omega,?_⟩;refine Sz0 ?_;exact⟨rfl,rfl⟩
 rintro _ J h ⟨i,rfl,hi,h4,h6,bz⟩;refine Sz2 h4 h6 ?_;refine Qb (fun hg=>?_) (fun hg=>?_)
 ·have az:i<p.length:=by omega
  have cx:=(hp.get az).c;have eW:=Ag hp i hi;have rB:i*K<=p.length*K:=Kal _ hi;have cL:=xe az;unfold rs at cx;generalize hx:p[i]=x at *
  have sZ:=x.1.den_nz;have il:Nat.gcd (ca (p.take i)) x.1.den≠0:=fun h=>sZ (Nat.eq_zero_of_gcd_eq_zero_right h);have hgn:=Gp (ca (p.take i)) x.1.den;have hqd:=xD x.1.den (Nat.gcd (ca (p.take i)) x.1.den);generalize ca (p.take i)=L at *
  refine Sz3 h4 h6 hx ?_;refine Qa hP (O3 (x:=L) (y:=x.1.den) (by omega) (by omega)) rfl rfl rfl ?_;refine Sz3 h4 h6 hx ?_;refine Qa hP (N5 (x:=x.1.den) (y:=Nat.gcd L x.1.den) (by omega) (by omega) il) rfl rfl rfl ?_;refine Sz3 h4 h6 hx ?_;refine Qa hP (zk (x:=L) (y:=x.1.den/Nat.gcd L x.1.den) (by omega) (by omega)) rfl rfl rfl ?_;refine Sz3 h4 h6 hx ?_;refine Qi (p.length-(i+1)) (by omega) ⟨i+1,rfl,by omega,?_⟩;rw[cL];exact Tz1 bz
 obtain rfl:i=p.length:=by omega
 rw[KaE]at h4;refine Sz1 h4 ?_;refine Qn okB [(5,5),(11,12),(50,70)] [12] (fun n J hp=>∃i,n=p.length-i/\i<=p.length/\J 5=PV.num (pR (ca p) (p.take i))/\J 11= .int .i64 (i:Nat)/\hp 3=some ⟨3,53,[.agg [.bool false,.aa,.aa]],false⟩) p.length ?_ ?_
 ·refine⟨0,rfl,by omega,?_⟩;refine Sz1 bz ?_;exact⟨rfl,rfl⟩
 rintro _ J2 h2 ⟨i,rfl,hi,h5,cj,JJ⟩;refine Sz3 h4 h5 cj ?_;refine Qb (fun hg=>?_) (fun hg=>?_)
 ·have az:i<p.length:=by omega
  have cx:=(hp.get az).c;have ee:=Hv (L:=ca p) az;have hdv:=Ly p az;have uD:=LA hp i hi;generalize hx:p[i]=x at *
  have SS:=OJ hdv;have hrm:=iP x.1.num.natAbs (ca p/x.1.den);have Kc:=xD (ca p) x.1.den;have ao7:=cx;unfold rs at ao7;have hM:=OB (n:=decide (x.1.num<0)) (a:=ak x.1.num.natAbs) (d:=ak x.1.den) (m:=false) (b:=ak (ca p)) (c:=ak 1) (k:=1+p.length*K) (gV (q:=x.1) (by omega)) ⟨Qk _,Qk _,rE,by show nl 1<=_;rw[lO];omega,by omega⟩ (by omega);have e1:mkRat (ca p:Int) 1=(((ca p:Nat):Int):Rat):=by rw[KbP,show((1:Nat):Rat)=1 from rfl];grind
  rw[gF,rv,sg,Qt,Qt,e1]at hM;generalize x.1*(((ca p:Nat):Int):Rat)=y at *
  refine Sz4 h4 h5 cj hx ?_;have yB:=mO (n:=1) (by omega);have uC:=O3 (x:=pR (ca p) (p.take i)) (y:=x.1.num.natAbs*(ca p/x.1.den)) (by omega) (by omega);rw[<-ee]at uC;refine dp ?_ ?_
  ·refine Sz4 h4 h5 cj hx ?_;refine Qa hP yB rfl rfl rfl ?_;refine Sz4 h4 h5 cj hx ?_;refine dp ?_ ?_
   all_goals
    refine Sz4 h4 h5 cj hx ?_;refine Qa hP hM rfl rfl rfl ?_;refine Sz4 h4 h5 cj hx ?_;rw[SS];refine Qa hP uC rfl rfl rfl ?_;refine Sz4 h4 h5 cj hx ?_;refine Qi (p.length-(i+1)) (by omega) ⟨i+1,rfl,by omega,?_⟩;exact Tz1 JJ
  ·refine Sz4 h4 h5 cj hx ?_;refine Qa hP yB rfl rfl rfl ?_;refine Sz4 h4 h5 cj hx ?_;refine Qa hP hM rfl rfl rfl ?_;refine Sz4 h4 h5 cj hx ?_;rw[SS];refine Qa hP uC rfl rfl rfl ?_;refine Sz4 h4 h5 cj hx ?_;refine Qi (p.length-(i+1)) (by omega) ⟨i+1,rfl,by omega,?_⟩;exact Tz1 JJ
 ·obtain rfl:i=p.length:=by omega
  rw[KaE,aW]at h5;generalize hx:p[0]=x at *
  refine Sz3 h4 h5 hx ?_;refine Qa hP we rfl rfl rfl ?_;generalize ej p=a at *
  refine Sz3 h4 h5 hx ?_;refine Qa hP (Ht (x:=a.num) (by unfold rs at rI;omega)) rfl rfl rfl ?_;refine Sz3 h4 h5 hx ?_;refine Qb (fun h=>absurd (Rat.num_eq_zero.1 (DG.1 h)) aT) (fun _=>?_);refine Sz3 h4 h5 hx ?_;refine Qa hP (zd (K:=2+p.length*K+K) (hp.mono (by omega) (Kad _)) np.z (by omega) (by omega) hE (by omega)) rfl rfl rfl ?_;refine Sz1 JJ ?_;refine eA ?_;refine Sz0 ?_;exact cA rfl rfl rfl (Qf _) (Qf _)
theorem Er(a b:List Int):jO 0 a b=aY a b:=by unfold jO;rw[if_neg (by simp)]
end Go.Proofs.YtccppnepkfbpkaaGreat
namespace Go.FW
open Go
theorem ai2{a b:Rat}(h:b≠0):rs (a/b)<=rs a+rs b:=by rw[KcP];have:=vl a b⁻¹;have:=aiR b h;omega
theorem Hu{p:List Tm}(np:aR p){c:Rat}:aV p [(c,[])]=Q5 p c:=by refine tH (tE np.s (Vn _)) (kp np.s c) fun φ=>?_;rw[zX,qE φ np.c,<-Du];refine sj fun t ht=>?_;show cf _ [(c,[])]=_;rw[eZ,kt,zT (np.c t ht)];grind
def xW(s c:Rat):Nat->Rat
 |0=>s
 |n+1=>xW s c n/c
theorem afn{s c:Rat}(hs:s≠0)(hc:c≠0):∀n,xW s c n≠0
 |0=>hs
 |n+1=>by have:=afn hs hc n;show xW s c n/c≠0;grind
theorem IH{s c:Rat}(hc:c≠0){b:Nat}(hb:rs c<=b):∀n,rs (xW s c n)<=rs s+n*b
 |0=>by show rs s<=_;omega
 |n+1=>by have h1:=IH hc hb (s:=s) n;have h2:=ai2 (a:=xW s c n) hc;show rs (xW s c n/c)<=_;rw[Nat.succ_mul];omega
end Go.FW
