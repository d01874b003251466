/- Check accepts exactly the proofs of any goal of a small problem, with the first error otherwise (arguments of bulk at most 1048576). -/
import Derived.Test.YtccppnepkfbpkaaGreatCertcheckChecksPart18
import Derived.Laws.RangeString
import Derived.Laws.RangeAny
import Derived.Lib.OthersKept
import Derived.LoopTactic
set_option maxHeartbeats 1000000
set_option linter.unusedSimpArgs false
set_option linter.unusedVariables false
set_option linter.unnecessarySimpa false
set_option maxRecDepth 100000
namespace Go.Proofs.YtccppnepkfbpkaaGreat
open Go Go.FW
theorem QW{l:List cm}{k:Nat}(hb:∀t∈l,RB k t)(h:nd l=true):PV.kT l=PV.ao (l.map cm.tm)/\fZ (l.map cm.tm):=by
 simp only[nd,Kav,decide_eq_true_eq,Kap]at h;obtain⟨h1,h2,h3⟩:=h;obtain⟨e1,e2⟩:=XA hb h3;refine⟨e1,e2.rS,fun t ht=>?_,fun t ht=>?_,by simpa using h1⟩
 ·obtain⟨x,hx,rfl⟩:=KaE.1 ht;have hs:=h2 x hx;simp only[mF,Kav,decide_eq_true_eq,Kap]at hs;have hv:=e2.t _ ht;have hr:=(show Raw 2 x.n x.a x.d from⟨(hb x hx).r.1,(hb x hx).r.2.1,hs.2.1,hs.2.2.1,by omega⟩).rs;have hm:=MB.uQ hv.m;refine⟨?_,⟨hm.len,hm.lo,fun y hy=>hs.2.2.2 y hy⟩,N3 hv.m⟩;show rs (rv x.n x.a x.d)+1<=3;omega
 ·obtain⟨x,hx,rfl⟩:=KaE.1 ht;have hs:=h2 x hx;simp only[mF,Kav,decide_eq_true_eq,Kap]at hs;exact hs.1
def gX(ls:List (List cm)):List (List Tm):=ls.map fun l=>l.map cm.tm
theorem QX{ls:List (List cm)}{k:Nat}(hb:∀l∈ls,(∀t∈l,RB k t)/\l.length<2^40)(h:rj ls=true):PV.sl 1 (ls.map PV.kT)=PV.dp (gX ls)/\(∀f∈gX ls,fZ f)/\(gX ls).length<=4:=by
 simp only[rj,Kav,decide_eq_true_eq,Kap]at h;refine⟨?_,fun f hf=>?_,by unfold gX;rw[KaV];exact h.1⟩
 ·unfold gX PV.dp;rw[List.map_map];exact congrArg _ (Ka1 fun l hl=>(QW (hb l hl).1 (h.2 l hl)).1)
 ·obtain⟨l,hl,rfl⟩:=KaE.1 hf;exact(QW (hb l hl).1 (h.2 l hl)).2
theorem aan{c:eL}{k:Nat}(hb:RC k c)(h:uc c=true):PV.nF c=PV.cert (gX c.fs) c.ps c.n (gX c.cs)/\(∀f∈gX c.fs,fZ f)/\(gX c.fs).length<=4/\(∀f∈gX c.cs,fZ f)/\(gX c.cs).length<=4/\c.ps.length<=6:=by simp only[uc,Kav,decide_eq_true_eq]at h;obtain⟨h1,h2,h3⟩:=h;obtain⟨a1,a2,a3⟩:=QX hb.f h1;obtain⟨b1,b2,b3⟩:=QX hb.g h2;refine⟨?_,a2,a3,b2,b3,h3⟩;unfold PV.nF;rw[a1,b1]
def nP(c:eL)(i:Nat):Bool:=decide (0<=c.ps.getD i 0/\c.ps.getD i 0<=64)&&(decide (c.fs.getD i []≠[])&&cK (c.fs.getD i []))
def gK(c:eL):Bool:=decide (c.ps.length=c.fs.length/\1<=c.n/\c.n<=64)&&((List.range c.fs.length).all (nP c)&&c.cs.all cK)
theorem Ui{c:eL}{k:Nat}(hb:RC k c)(dn:1<=k)(hk:k<2^36):Qd Tryz.prog 24 [PV.nF c] (· = .bool (gK c)):=by
 have h2:=hb.pl;have h3:=hb.fl;have h4:=hb.cl;obtain⟨fs,ps,n,cs⟩:=c;simp only at h2 h3 h4;refine aB Qh Tryz.func24 aia fun C hP=>?_;refine Sz0 ?_;refine Qo (fun hl=>?_) (fun hl=>?_)
 ·refine Sz0 ?_;exact Qc (by simp[gK,show ¬ps.length=fs.length by omega]) rfl
 refine Sz0 ?_;refine Qo (fun hn=>?_) (fun hn=>?_)
 ·refine Sz0 ?_;exact Qc (by simp[gK,show ¬1<=n by omega]) rfl
 refine Sz0 ?_;refine Qb (fun rG=>?_) (fun rG=>?_)
 ·refine Sz0 ?_;exact Qc (by simp[gK,show ¬n<=64 by omega]) rfl
 have lA:decide (ps.length=fs.length/\1<=n/\n<=64)=true:=decide_eq_true (by omega);refine Sz0 ?_;refine Ql okB [(2,4),(27,56)] [] (fun m J hp=>∃i,m=fs.length-i/\i<=fs.length/\(∀j,j<i->nP ⟨fs,ps,n,cs⟩ j=true)/\J 27= .int .i64 (i:Nat)/\hp 1=some ⟨4,62,[PV.nF ⟨fs,ps,n,cs⟩],false⟩) fs.length ?_ ?_
 ·refine⟨0,rfl,by omega,by omega,?_⟩;refine Sz0 ?_;rfl
 rintro _ J h ⟨i,rfl,hi,h5,h6,aN⟩;refine Sz2 aN h6 ?_;refine Qb (fun hg=>?_) (fun hg=>?_)
 ·have vZ:i<fs.length:=by omega
  have uC:i<ps.length:=by omega
  have gB:nP ⟨fs,ps,n,cs⟩ i=false->gK ⟨fs,ps,n,cs⟩=false:=fun h=>by
   have:(List.range fs.length).all (nP ⟨fs,ps,n,cs⟩)=false:=by rw[KbW];exact⟨i,Kco.2 vZ,by simp[h]⟩
   simp[gK,this]
  have e2:ps.getD i 0=ps[i]:=by simp[uC]
  have e3:fs.getD i []=fs[i]:=by simp[vZ]
  have e4:nP ⟨fs,ps,n,cs⟩ i=(decide (0<=ps[i]/\ps[i]<=64)&&(decide (fs[i]≠[])&&cK fs[i])):=by unfold nP;rw[e2,e3]
  rw[e4]at gB;have jY:=hb.f _ (Kah vZ);generalize hx:ps[i]=x at *
  generalize hy:fs[i]=y at *
  have jZ:=jY.2;have hr:=GH jY.1 dn hk jY.2;refine Sz4 aN h6 hx hy ?_;refine Qo (fun h7=>?_) (fun h7=>?_)
  ·refine Sz3 aN h6 hx ?_;exact Qc (by rw[gB (by rw[decide_eq_false (by omega),Bool.false_and])]) rfl
  refine Sz3 aN h6 hx ?_;refine Qo (fun h8=>?_) (fun h8=>?_)
  ·refine Sz3 aN h6 hx ?_;exact Qc (by rw[gB (by rw[decide_eq_false (by omega),Bool.false_and])]) rfl
  refine Sz4 aN h6 hx hy ?_;refine Qo (fun h9=>?_) (fun h9=>?_)
  ·refine Sz3 aN h6 hx ?_;obtain rfl:y=[]:=Kat.1 (by omega);exact Qc (by rw[gB (by simp)]) rfl
  have aQ:y≠[]:=fun e=>by rw[e]at h9;simp at h9
  refine Sz2 aN h6 ?_;refine Qa hP hr rfl rfl rfl ?_;cases aL:cK y
  ·refine Sz2 aN h6 ?_;exact Qc (by rw[gB (by simp[aL])]) rfl
  refine Sz2 aN h6 ?_;refine Qg (fs.length-(i+1)) (by omega) ⟨i+1,rfl,by omega,fun j hj=>?_,?_⟩
  ·by_cases e:j=i
   ·subst e;rw[e4,decide_eq_true (by omega),decide_eq_true aQ,aL];rfl
   ·exact h5 j (by omega)
  ·exact Tz1 aN
 ·obtain rfl:i=fs.length:=by omega
  have aP:(List.range fs.length).all (nP ⟨fs,ps,n,cs⟩)=true:=by rw[Kap];intro t ht;exact h5 t (Kco.1 ht)
  refine Sz1 aN ?_;refine Ql okB [(2,2),(6,6),(60,67)] [] (fun m J hp=>∃i,m=cs.length-i/\i<=cs.length/\(∀j (h:j<cs.length),j<i->cK cs[j]=true)/\J 60= .int .i64 (i:Nat)) cs.length ?_ ?_
  ·refine⟨0,rfl,by omega,by omega,?_⟩;refine Sz0 ?_;rfl
  rintro _ J2 h' ⟨i,rfl,hi,h7,h8⟩;refine Sz1 h8 ?_;refine Qb (fun hg=>?_) (fun hg=>?_)
  ·have jV:i<cs.length:=by omega
   have jY:=hb.g _ (Kah jV);have J5:=Kah jV;have bn:cK cs[i]=true->∀j (h:j<cs.length),j<i+1->cK cs[j]=true:=fun h j hj fa=>by
    by_cases e:j=i
    ·subst e;exact h
    ·exact h7 j hj (by omega)
   generalize hy:cs[i]=y at *
   have hr:=GH jY.1 dn hk jY.2;refine Sz2 h8 hy ?_;refine Qa hP hr rfl rfl rfl ?_;cases aL:cK y
   ·refine Sz1 h8 ?_;refine Qc ?_ rfl;have:cs.all cK=false:=by rw[KbW];exact⟨y,J5,by simp[aL]⟩
    simp[gK,this]
   refine Sz1 h8 ?_;refine Qg (cs.length-(i+1)) (by omega) ⟨i+1,rfl,by omega,bn aL,?_⟩;exact Tz0
  ·obtain rfl:i=cs.length:=by omega
   refine Sz0 ?_;refine Qc ?_ rfl;have:cs.all cK=true:=by rw[Kap];intro t ht;obtain⟨j,hj,rfl⟩:=Kaz ht;exact h7 j hj hj
   rw[gK,aP,this,lA];rfl
theorem Ox{c:eL}{k:Nat}(hb:RC k c)(dn:1<=k)(hk:k<2^36):Qd Tryz.prog 51 [PV.nF c] (· = .bool (gK c)):=by
 have h2:=hb.pl;have h3:=hb.fl;have h4:=hb.cl;obtain⟨fs,ps,n,cs⟩:=c;simp only at h2 h3 h4;refine aB Qh Tryz.func51 aie fun C hP=>?_;refine Sz0 ?_;refine Qo (fun hl=>?_) (fun hl=>?_)
 ·refine Sz0 ?_;exact Qc (by simp[gK,show ¬ps.length=fs.length by omega]) rfl
 refine Sz0 ?_;refine Qo (fun hn=>?_) (fun hn=>?_)
 ·refine Sz0 ?_;exact Qc (by simp[gK,show ¬1<=n by omega]) rfl
 refine Sz0 ?_;refine Qb (fun rG=>?_) (fun rG=>?_)
 ·refine Sz0 ?_;exact Qc (by simp[gK,show ¬n<=64 by omega]) rfl
 have lA:decide (ps.length=fs.length/\1<=n/\n<=64)=true:=decide_eq_true (by omega);refine Sz0 ?_;refine Ql okB [(2,4),(27,56)] [] (fun m J hp=>∃i,m=fs.length-i/\i<=fs.length/\(∀j,j<i->nP ⟨fs,ps,n,cs⟩ j=true)/\J 27= .int .i64 (i:Nat)/\hp 1=some ⟨4,62,[PV.nF ⟨fs,ps,n,cs⟩],false⟩) fs.length ?_ ?_
 ·refine⟨0,rfl,by omega,by omega,?_⟩;refine Sz0 ?_;rfl
 rintro _ J h ⟨i,rfl,hi,h5,h6,aN⟩;refine Sz2 aN h6 ?_;refine Qb (fun hg=>?_) (fun hg=>?_)
 ·have vZ:i<fs.length:=by omega
  have uC:i<ps.length:=by omega
  have gB:nP ⟨fs,ps,n,cs⟩ i=false->gK ⟨fs,ps,n,cs⟩=false:=fun h=>by
   have:(List.range fs.length).all (nP ⟨fs,ps,n,cs⟩)=false:=by rw[KbW];exact⟨i,Kco.2 vZ,by simp[h]⟩
   simp[gK,this]
  have e2:ps.getD i 0=ps[i]:=by simp[uC]
  have e3:fs.getD i []=fs[i]:=by simp[vZ]
  have e4:nP ⟨fs,ps,n,cs⟩ i=(decide (0<=ps[i]/\ps[i]<=64)&&(decide (fs[i]≠[])&&cK fs[i])):=by unfold nP;rw[e2,e3]
  rw[e4]at gB;have jY:=hb.f _ (Kah vZ);generalize hx:ps[i]=x at *
  generalize hy:fs[i]=y at *
  have jZ:=jY.2;have hr:=On jY.1 dn hk jY.2;refine Sz4 aN h6 hx hy ?_;refine Qo (fun h7=>?_) (fun h7=>?_)
  ·refine Sz3 aN h6 hx ?_;exact Qc (by rw[gB (by rw[decide_eq_false (by omega),Bool.false_and])]) rfl
  refine Sz3 aN h6 hx ?_;refine Qo (fun h8=>?_) (fun h8=>?_)
  ·refine Sz3 aN h6 hx ?_;exact Qc (by rw[gB (by rw[decide_eq_false (by omega),Bool.false_and])]) rfl
  refine Sz4 aN h6 hx hy ?_;refine Qo (fun h9=>?_) (fun h9=>?_)
  ·refine Sz3 aN h6 hx ?_;obtain rfl:y=[]:=Kat.1 (by omega);exact Qc (by rw[gB (by simp)]) rfl
  have aQ:y≠[]:=fun e=>by rw[e]at h9;simp at h9
  refine Sz2 aN h6 ?_;refine Qa hP hr rfl rfl rfl ?_;cases aL:cK y
  ·refine Sz2 aN h6 ?_;exact Qc (by rw[gB (by simp[aL])]) rfl
  refine Sz2 aN h6 ?_;refine Qg (fs.length-(i+1)) (by omega) ⟨i+1,rfl,by omega,fun j hj=>?_,?_⟩
  ·by_cases e:j=i
   ·subst e;rw[e4,decide_eq_true (by omega),decide_eq_true aQ,aL];rfl
   ·exact h5 j (by omega)
  ·exact Tz1 aN
 ·obtain rfl:i=fs.length:=by omega
  have aP:(List.range fs.length).all (nP ⟨fs,ps,n,cs⟩)=true:=by rw[Kap];intro t ht;exact h5 t (Kco.1 ht)
  refine Sz1 aN ?_;refine Ql okB [(2,2),(6,6),(60,67)] [] (fun m J hp=>∃i,m=cs.length-i/\i<=cs.length/\(∀j (h:j<cs.length),j<i->cK cs[j]=true)/\J 60= .int .i64 (i:Nat)) cs.length ?_ ?_
  ·refine⟨0,rfl,by omega,by omega,?_⟩;refine Sz0 ?_;rfl
  rintro _ J2 h' ⟨i,rfl,hi,h7,h8⟩;refine Sz1 h8 ?_;refine Qb (fun hg=>?_) (fun hg=>?_)
  ·have jV:i<cs.length:=by omega
   have jY:=hb.g _ (Kah jV);have J5:=Kah jV;have bn:cK cs[i]=true->∀j (h:j<cs.length),j<i+1->cK cs[j]=true:=fun h j hj fa=>by
    by_cases e:j=i
    ·subst e;exact h
    ·exact h7 j hj (by omega)
   generalize hy:cs[i]=y at *
   have hr:=On jY.1 dn hk jY.2;refine Sz2 h8 hy ?_;refine Qa hP hr rfl rfl rfl ?_;cases aL:cK y
   ·refine Sz1 h8 ?_;refine Qc ?_ rfl;have:cs.all cK=false:=by rw[KbW];exact⟨y,J5,by simp[aL]⟩
    simp[gK,this]
   refine Sz1 h8 ?_;refine Qg (cs.length-(i+1)) (by omega) ⟨i+1,rfl,by omega,bn aL,?_⟩;exact Tz0
  ·obtain rfl:i=cs.length:=by omega
   refine Sz0 ?_;refine Qc ?_ rfl;have:cs.all cK=true:=by rw[Kap];intro t ht;obtain⟨j,hj,rfl⟩:=Kaz ht;exact h7 j hj hj
   rw[gK,aP,this,lA];rfl
abbrev PV.uS(l:List eL):PV:=.sl 4 (l.map PV.nF)
def sH(c:eL):Prop:=uc c=true/\(c.n<=3∨64<c.n)
theorem VD{l:List eL}{k:Nat}(hb:∀c∈l,RC k c)(dn:1<=k)(hk:k<2^36)(hl:l.length<2^40):Qd Tryz.prog 6 [PV.uS l] (fun r=>∃b,r= .bool b/\(b=true->l.length<=3/\∀c∈l,sH c)):=by
 refine aB Qh Tryz.func6 ajp fun C hP=>?_;refine Sz0 ?_;refine Qb (fun hn=>?_) (fun hn=>?_)
 ·refine Sz0 ?_;exact cJ ⟨false,rfl,fun h=>by cases h⟩ rfl
 have om:l.length<=3:=by omega
 refine Sz0 ?_;refine Ql okB [(2,5),(11,80)] [] (fun m J hp=>∃i,m=l.length-i/\i<=l.length/\(∀j (h:j<l.length),j<i->sH l[j])/\J 11= .int .i64 (i:Nat)) l.length ?_ ?_
 ·refine⟨0,rfl,by omega,by omega,?_⟩;refine Sz0 ?_;rfl
 rintro _ J h ⟨i,rfl,hi,h1,h3⟩;refine Sz1 h3 ?_;refine Qb (fun hg=>?_) (fun hg=>?_)
 ·have az:i<l.length:=by omega
  have fN:=hb _ (Kah az);have bn:sH l[i]->∀j (h:j<l.length),j<i+1->sH l[j]:=fun h j hj fa=>by
   by_cases e:j=i
   ·subst e;exact h
   ·exact h1 j hj (by omega)
  have cQ:=fN.pl;have uy:=fN.fl;have hff:=fN.f;generalize hx:l[i]=c at *
  refine Sz2 h3 hx ?_;refine Qa hP (Wv fN dn hk) rfl rfl rfl ?_;cases hs:uc c
  ·refine Sz1 h3 ?_;exact cJ ⟨false,rfl,fun h=>by cases h⟩ rfl
  refine Sz2 h3 hx ?_;refine Q5 (fun h4=>?_) (fun h4=>?_)
  focus
   refine Sz2 h3 hx ?_;refine Qb (fun h5=>?_) (fun h5=>?_)
   ·refine Sz0 ?_;exact cJ ⟨false,rfl,fun h=>by cases h⟩ rfl
  all_goals
   have vU:sH c:=⟨hs,by omega⟩
   refine Sz2 h3 hx ?_;refine Ql okB [(2,2),(4,5),(42,79)] [] (fun m J hp=>∃n,m=c.ps.length-n/\n<=c.ps.length/\J 42= .int .i64 (n:Nat)) c.ps.length ?_ ?_
   ·refine⟨0,rfl,by omega,?_⟩;refine Sz0 ?_;rfl
   rintro _ J2 h' ⟨n,rfl,uF,g4⟩;refine Sz3 g4 h3 hx ?_;refine Qb (fun dX=>?_) (fun dX=>?_)
   ·have rG:n<c.ps.length:=by omega
    generalize hy:c.ps[n]=y at *
    refine Sz4 g4 h3 hx hy ?_;refine Q5 (fun h6=>?_) (fun h6=>?_)
    focus
     refine Sz3 g4 h3 hx ?_;refine Qo (fun h7=>?_) (fun h7=>?_)
     ·refine Sz0 ?_;exact cJ ⟨false,rfl,fun h=>by cases h⟩ rfl
    all_goals
     refine Sz3 g4 h3 hx ?_;refine Q5 (fun h8=>?_) (fun h8=>?_)
     rotate_left
     ·refine Sz1 g4 ?_;refine Qg (c.ps.length-(n+1)) (by omega) ⟨n+1,rfl,by omega,?_⟩;exact Tz0
     refine Sz3 g4 h3 hx ?_;refine Q5 (fun h9=>?_) (fun h9=>?_)
     rotate_left
     ·refine Sz1 g4 ?_;refine Qg (c.ps.length-(n+1)) (by omega) ⟨n+1,rfl,by omega,?_⟩;exact Tz0
     have JB:n<c.fs.length:=by omega
     have yD:=(hff _ (Kah JB)).2;generalize hz:c.fs[n]=z at *
     refine Sz4 g4 h3 hx hz ?_;refine Qb (fun bh=>?_) (fun bh=>?_)
     ·refine Sz0 ?_;exact cJ ⟨false,rfl,fun h=>by cases h⟩ rfl
     refine Sz1 g4 ?_;refine Qg (c.ps.length-(n+1)) (by omega) ⟨n+1,rfl,by omega,?_⟩;exact Tz0
   ·obtain rfl:n=c.ps.length:=by omega
    simp (disch:=decide) only[iT,nO];refine Sz1 h3 ?_;refine Qg (l.length-(i+1)) (by omega) ⟨i+1,rfl,by omega,bn vU,?_⟩;exact Tz0
 ·obtain rfl:i=l.length:=by omega
  refine Sz0 ?_;refine cJ ⟨true,rfl,fun _=>⟨om,fun c hc=>?_⟩⟩ rfl;obtain⟨n,hn,rfl⟩:=Kaz hc;exact h1 n hn hn
structure mI where
 fs:List (List Tm)
 ps:List Int
 n:Int
 cs:List (List Tm)
abbrev PV.IK(c:mI):PV:=PV.cert c.fs c.ps c.n c.cs
abbrev PV.RD(l:List mI):PV:=.sl 4 (l.map PV.IK)
structure As(c:mI):Prop where
 l:c.ps.length=c.fs.length
 f:∀f∈c.fs,fZ f/\f≠[]
 fl:c.fs.length<=5
def yV(out:List (List Tm))(x:List Tm×Int):List (List Tm):=if x.2<1∨tT x.1<1 then out else if(out.any fun g=>decide (x.1=g))=true then out else out++[x.1]
def B3(out:List (List Tm))(c:mI):List (List Tm):=(c.fs.zip c.ps).foldl yV out
def kv(l:List mI):List (List Tm):=l.foldl B3 []
theorem Pp{l:List mI}{i:Nat}(h:i<l.length):kv (l.take (i+1))=B3 (kv (l.take i)) l[i]:=by unfold kv;rw[Kao h,Kcz];rfl
def lW(out:List (List Tm))(c:mI)(k:Nat):List (List Tm):=((c.fs.zip c.ps).take k).foldl yV out
theorem QY{out:List (List Tm)}{c:mI}{k:Nat}(hl:c.ps.length=c.fs.length)(h:k=c.fs.length):lW out c k=B3 out c:=by unfold lW B3;rw[Kai (by rw[KcK];omega)]
theorem Pq{out:List (List Tm)}{c:mI}{k:Nat}(h:k<c.fs.length)(h2:k<c.ps.length):lW out c (k+1)=yV (lW out c k) (c.fs[k],c.ps[k]):=by unfold lW;rw[Kao (by rw[KcK];omega),Kcz,KcS];rfl
structure yW(n:Nat)(out:List (List Tm)):Prop where
 l:out.length<=n
 f:∀f∈out,fZ f
theorem afw{n:Nat}{out:List (List Tm)}{x:List Tm×Int}(h:yW n out)(hx:fZ x.1):yW (n+1) (yV out x):=by
 unfold yV;have:=h.l;split
 ·exact⟨by omega,h.f⟩
 ·split
  ·exact⟨by omega,h.f⟩
  ·refine⟨by rw[Kax,List.length_singleton];omega,fun f hf=>?_⟩;rcases KaG.1 hf with hf|hf
   ·exact h.f f hf
   ·rw[Kaw.1 hf];exact hx
theorem HW{n:Nat}{out:List (List Tm)}{c:mI}(h:yW n out)(hc:As c):∀k,k<=c.fs.length->yW (n+k) (lW out c k)
 |0,_=>h
 |k+1,hk=>by rw[Pq (by omega) (by have:=hc.l;omega)];exact afw (HW h hc k (by omega)) (hc.f _ (Kah _)).1
theorem HX{l:List mI}(h:∀c∈l,As c):∀i,i<=l.length->yW (5*i) (kv (l.take i))
 |0,_=>⟨by simp[kv],by simp[kv]⟩
 |i+1,hi=>by have hc:=h _ (Kah (show i<l.length by omega));have h1:=HW (HX h i (by omega)) hc _ (Kae _);rw[Pp (by omega),<-QY hc.l rfl];have:=hc.fl;exact⟨by have:=h1.l;omega,h1.f⟩
theorem acB{A:List (List Tm)}{m:Nat}{p:List Tm->Bool}(h:m<A.length):(A.take (m+1)).any p=((A.take m).any p||p A[m]):=by rw[Kao h,List.any_append];simp
theorem NF{l:List mI}(h:∀c∈l,As c)(hl:l.length<=4):Qd Tryz.prog 22 [PV.RD l] (· =PV.dp (kv l)):=by
 refine aB Qh Tryz.func22 aib fun C hP=>?_;refine Sz0 ?_;refine oM 3 900 1 43 (by omega) Tz0 ?_;refine Ql okB [(3,3),(5,8),(10,10),(13,56)] [5,53,54,900] (fun q J hp=>∃i,q=l.length-i/\i<=l.length/\J 3= .ms 900 (kv (l.take i)).length/\J 13= .int .i64 (i:Nat)/\hp 900=some ⟨1,43,(kv (l.take i)).map PV.ao,false⟩) l.length ?_ ?_
 ·refine⟨0,rfl,by omega,?_⟩;refine Sz0 ?_;exact⟨rfl,rfl,rfl⟩
 rintro _ J h' ⟨i,rfl,hi,h3,e7,h9⟩;refine Sz1 e7 ?_;refine Qb (fun hg=>?_) (fun hg=>?_)
 ·have az:i<l.length:=by omega
  have hc:=h _ (Kah az);have hL:=HX h i hi;have fP:=Pp az;have hK:=fun k hk=>HW hL hc k hk;rw[<-QY hc.l rfl]at fP;have e0:kv (l.take i)=lW (kv (l.take i)) l[i] 0:=rfl;have di:=hc.l;have Sd:=hc.fl;generalize hx:l[i]=c at *
  generalize kv (l.take i)=A0 at *
  refine Sz3 e7 h3 hx ?_;refine Ql okB [(3,3),(6,8),(10,10),(20,55)] [53,54,900] (fun q J hp=>∃k,q=c.fs.length-k/\k<=c.fs.length/\J 3= .ms 900 (lW A0 c k).length/\J 20= .int .i64 (k:Nat)/\hp 5=some ⟨4,62,[PV.IK c],false⟩/\hp 900=some ⟨1,43,(lW A0 c k).map PV.ao,false⟩) c.fs.length ?_ ?_
  ·refine⟨0,rfl,by omega,?_⟩;refine Sz2 h3 h9 ?_;rw[<-e0];exact⟨rfl,rfl,rfl⟩
  rintro _ J2 h2 ⟨k,rfl,hk,g3,rA,g5,g9⟩;refine Sz1 rA ?_;refine Qb (fun dX=>?_) (fun dX=>?_)
  ·have cI:k<c.fs.length:=by omega
   have EW:k<c.ps.length:=by omega
   obtain⟨s1,s2⟩:=hc.f _ (Kah cI);have hA:=hK k hk;have tf:lW A0 c (k+1)=if c.ps[k]<1∨tT c.fs[k]<1 then lW A0 c k else if((lW A0 c k).any fun g=>decide (c.fs[k]=g))=true then lW A0 c k else lW A0 c k++[c.fs[k]]:=Pq cI EW
   have uu:=hA.l;generalize lW A0 c k=A at *
   generalize hf:c.fs[k]=f at *
   generalize hp:c.ps[k]=x at *
   have hdg:=Uh s1.b (by omega) (by have:=s1.l;omega);refine Sz4 rA g5 hf hp ?_;refine Qo (fun h4=>?_) (fun h4=>?_)
   ·
    refine Sz4 rA g3 g5 g9 ?_;refine Qg (c.fs.length-(k+1)) (by omega) ⟨k+1,rfl,by omega,?_⟩;rw[if_pos (by omega)]at tf;rw[tf];exact Tz3 g3 g5 g9
   refine Sz4 rA g5 hf hp ?_;refine Qa hP hdg rfl rfl rfl ?_;refine Sz2 rA g5 ?_;refine Qb (fun h5=>?_) (fun h5=>?_)
   ·
    refine Sz4 rA g3 g5 g9 ?_;refine Qg (c.fs.length-(k+1)) (by omega) ⟨k+1,rfl,by omega,?_⟩;rw[if_pos (by omega)]at tf;rw[tf];exact Tz3 g3 g5 g9
   rw[if_neg (by omega)]at tf;refine Sz3 rA g3 g5 ?_;refine Ql okB [(8,8),(10,10),(38,48)] [] (fun q J hp=>∃m,q=A.length-m/\m<=A.length/\J 8= .bool ((A.take m).any fun g=>decide (f=g))/\J 38= .int .i64 (m:Nat)/\hp 5=some ⟨4,62,[PV.IK c],false⟩/\hp 900=some ⟨1,43,A.map PV.ao,false⟩) A.length ?_ ?_
   ·refine⟨0,rfl,by omega,?_⟩;refine Sz2 g5 g9 ?_;rfl
   rintro _ J3 h3' ⟨m,rfl,hm,k8,FA,k5,k9⟩;refine Sz1 FA ?_;refine Qb (fun AW=>?_) (fun AW=>?_)
   ·have JA:m<A.length:=by omega
    have hq:=hA.f _ (Kah JA);have rC:=acB (p:=fun g=>decide (f=g)) JA;generalize hy:A[m]=y at *
    have heq:=GG s1.b hq.b (by omega) (by omega) (by have:=s1.l;omega) (by have:=hq.l;omega);refine Sz2 FA k9 ?_;rw[afs JA,hy];refine Sz0 ?_;cases hb:(A.take m).any fun g=>decide (f=g)
    ·rw[hb]at rC k8;refine Sz1 k8 ?_;refine Qa hP heq rfl rfl rfl ?_;refine Sz1 FA ?_;refine Qg (A.length-(m+1)) (by omega) ⟨m+1,rfl,by omega,?_⟩;rw[rC,Bool.false_or];exact⟨rfl,rfl,k5,k9⟩
    ·rw[hb]at rC k8;refine Sz2 k8 FA ?_;refine Qg (A.length-(m+1)) (by omega) ⟨m+1,rfl,by omega,?_⟩;rw[rC,Bool.true_or];exact⟨rfl,rfl,k5,k9⟩
   ·obtain rfl:m=A.length:=by omega
    rw[KaT]at k8;simp (disch:=decide) only[iT,nO];refine Sz1 k8 ?_;cases hb:A.any fun g=>decide (f=g)
    ·rw[hb,if_neg (by simp)]at tf;refine Sz4 rA g3 k9 k5 ?_;rw[Q3 (f:=PV.ao) (y:=f) (xs:=A) (ty':=43) (fz:=false) (Tz1 k9) bc (by omega) rfl (by omega) (by omega)];refine Sz1 rA ?_;refine Qg (c.fs.length-(k+1)) (by omega) ⟨k+1,rfl,by omega,?_⟩;rw[tf];refine Sz1 k5 ?_;simp
    ·rw[hb,if_pos rfl]at tf;refine Sz4 rA g3 k5 k9 ?_;refine Qg (c.fs.length-(k+1)) (by omega) ⟨k+1,rfl,by omega,?_⟩;rw[tf];exact Tz3 g3 k5 k9
  ·obtain rfl:k=c.fs.length:=by omega
   simp (disch:=decide) only[iT,nO,Vp];refine Sz1 e7 ?_;refine Qg (l.length-(i+1)) (by omega) ⟨i+1,rfl,by omega,?_⟩;rw[fP];exact⟨g3,rfl,g9⟩
 ·obtain rfl:i=l.length:=by omega
  rw[KaT]at h3 h9;refine xT h3 h9 ?_;exact Qc (by simp[Kai]) rfl
theorem UG{a:Rat}{n:Nat}(hB:1+rs a*n<=2^33)(hn:n<=2^40)(ha:rs a<=2^33):Qd Tryz.prog 92 [PV.rat a,.int .i64 n] (· =PV.rat (df a n)):=by
 have h1:=pV;have iv:((1:Int):Rat)=1:=rfl;refine aB Qh Tryz.func92 agL fun C hP=>?_;refine Sz0 ?_;refine Qa hP (C6 (x:=1) (by omega) (by omega)) rfl rfl rfl ?_;refine Sz0 ?_;refine Ql ep [(1,1),(7,21)] [] (fun m J hp=>∃x o:Rat,m<=n/\rs o+rs x*m<=2^33/\o*df x m=df a n/\J 1= .int .i64 (m:Nat)/\hp 2=some ⟨3,53,[PV.rat x],false⟩/\hp 4=some ⟨3,53,[.agg [.bool false,.aa,.aa]],false⟩/\hp 5=some ⟨3,53,[PV.rat o],false⟩) n ?_ ?_
 ·refine⟨a,((1:Int):Rat),by omega,by rw[iv];omega,by rw[iv];grind,?_⟩;refine Sz0 ?_;rfl
 rintro m J h ⟨x,o,hm,cN,hq,hJ,gC,eB,dy⟩;refine Sz1 @hJ ?_;refine Qb (fun hg=>?_) (fun hg=>?_)
 ·have hx:rs x<=rs x*m:=Kcj _ (by omega);have e2:(2:Int)=((2:Nat):Int):=rfl;have rM:∀d fr hp K,bQ .rem false (.int .i64 (m:Int)) (.int .i64 2) d fr hp K=K (ab fr d (.int .i64 ((m%2:Nat):Int))) hp:=fun d fr hp K=>by rw[e2,pL (by omega)]
  have rK:∀d fr hp K,bQ .quo false (.int .i64 (m:Int)) (.int .i64 2) d fr hp K=K (ab fr d (.int .i64 ((m/2:Nat):Int))) hp:=fun d fr hp K=>by rw[e2,DF (by omega) (by omega)]
  have mq:=vj x x;have hom:=vj o x;have oe:rs (x*x)*(m/2)<=rs x*(2*(m/2)):=by rw[<-Nat.mul_assoc];exact Kam _ (by omega)
  refine Sz5 @hJ gC dy rM rK ?_;refine Qb (fun h2=>?_) (fun h2=>?_)
  ·have aom:m%2=1:=by omega
   have JP:o*x*df (x*x) (m/2)=df a n:=by rw[<-hq,<-Qz4 aom];grind
   have JQ:m=1->o*x*df x (1/2)=df a n:=fun h=>by rw[<-hq,h];show o*x*1=o*df x 1;rw[abL];grind
   have pk:rs x*m=rs x*(2*(m/2))+rs x:=by rw[show m=2*(m/2)+1 by omega,KaW,KbV];congr 2;omega
   refine Sz5 @hJ gC dy rM rK ?_;refine Qa hP (Ar (a:=o) (b:=x) (k:=2^33) (by omega) (by omega) (by omega)) rfl rfl rfl ?_;refine Sz5 @hJ gC dy rM rK ?_;refine Qb (fun h3=>?_) (fun h3=>?_)
   ·refine Sz5 @hJ gC dy rM rK ?_;refine Qa hP (Ar (a:=x) (b:=x) (k:=2^33) (by omega) (by omega) (by omega)) rfl rfl rfl ?_;refine Sz5 @hJ gC dy rM rK ?_;refine Qg (m/2) (by omega) ⟨x*x,o*x,by omega,by omega,JP,?_⟩;exact Tz3 gC eB dy
   ·obtain rfl:m=1:=by omega
    refine Sz5 @hJ gC dy rM rK ?_;refine Qg (1/2) (by omega) ⟨x,o*x,by omega,by omega,(JQ rfl),?_⟩;exact Tz3 gC eB dy
  ·have anK:m%2=0:=by omega
   have JP:o*df (x*x) (m/2)=df a n:=by rw[<-hq,<-Qxk anK]
   have JQ:m=1->o*df x (1/2)=df a n:=fun h=>by omega
   have pk:rs x*m=rs x*(2*(m/2)):=by congr 1;omega
   refine Sz5 @hJ gC dy rM rK ?_;refine Qb (fun h3=>?_) (fun h3=>?_)
   ·refine Sz5 @hJ gC dy rM rK ?_;refine Qa hP (Ar (a:=x) (b:=x) (k:=2^33) (by omega) (by omega) (by omega)) rfl rfl rfl ?_;refine Sz5 @hJ gC dy rM rK ?_;refine Qg (m/2) (by omega) ⟨x*x,o,by omega,by omega,JP,?_⟩;exact Tz3 gC eB dy
   ·obtain rfl:m=1:=by omega
    refine Sz5 @hJ gC dy rM rK ?_;refine Qg (1/2) (by omega) ⟨x,o,by omega,by omega,(JQ rfl),?_⟩;exact Tz3 gC eB dy
 ·obtain rfl:m=0:=by omega
  have jA:o=df a n:=by rw[<-hq,Hq];grind
  refine Sz3 gC eB dy ?_;refine cY ?_;refine Sz0 ?_;exact Qc (by rw[jA]) rfl
theorem VE{p:List Tm}{vs:List Rat}{K E W:Nat}(hp:PB K E p)(hv:∀v∈vs,rs v<=W)(hW:1<=W)(hB:1+p.length*(K+64*(1+W*E))+(K+64*(1+W*E))<=2^33)(hE:E<=2^38)(gm:p.length<=2^36)(hlv:vs.length<=2^36):
  Qd Tryz.prog 48 [PV.ao p,PV.TJ vs] (· =Em vs p):=by
 have h0:((0:Int):Rat)=0:=rfl;refine aB Qh Tryz.func48 ahm fun C hP=>?_;refine Sz0 ?_;refine Ql ep [(5,5),(7,7),(16,27)] [7] (fun n J hp=>∃i,n=p.length-i/\i<=p.length/\(∀t∈p.take i,¬vs.length<t.2.length)/\J 16= .int .i64 (i:Nat)/\hp 4=some ⟨3,53,[.agg [.bool false,.aa,.aa]],false⟩) p.length ?_ ?_
 ·refine⟨0,rfl,by omega,by simp,?_⟩;refine Sz0 ?_;rfl
 rintro _ J h ⟨i,rfl,hi,h1,uo,eB⟩;refine Sz1 uo ?_;refine Qb (fun hg=>?_) (fun hg=>?_)
 ·have az:i<p.length:=by omega
  have cO:=hp.get az;have gD:=Kah az;have bO:p.take (i+1)=p.take i++[p[i]]:=Kao az;generalize hx:p[i]=x at *
  have uE:=cO.m.len;have htr:=KV cO.l;refine Sz2 uo hx ?_;refine Qa hP (Vy (a:=x.2) (by omega)) rfl rfl rfl ?_;rw[htr];refine Sz2 uo hx ?_;refine Qb (fun hc=>?_) (fun hc=>?_)
  ·have ho:ub vs p=true:=by unfold ub;rw[KaS];exact⟨x,gD,decide_eq_true (by omega)⟩
   refine Sz1 eB ?_;refine fp ?_;refine Sz0 ?_;exact cG (p':=PV.rr false [] []) (q':=.int .i64 2) (by rw[Em,if_pos ho]) rfl rfl ⟨rfl,trivial,trivial,trivial⟩ (Qf _)
  ·refine Sz1 uo ?_;refine Qg (p.length-(i+1)) (by omega) ⟨i+1,rfl,by omega,?_,?_⟩
   ·rw[bO];intro z hz;rcases KaG.1 hz with hz|hz
    ·exact h1 z hz
    ·simp only[Kaw]at hz;subst hz;omega
   ·exact Tz1 eB
 ·obtain rfl:i=p.length:=by omega
  rw[KaT]at h1;have ho:ub vs p=false:=by unfold ub;rw[Kcy];intro t ht;simpa using h1 t ht
  refine Sz1 eB ?_;refine Qa hP (C6 (x:=0) (by omega) (by omega)) rfl rfl rfl ?_;refine Sz1 eB ?_;refine Ql ep [(10,13),(31,59)] [10,11] (fun n J hp=>∃i,n=p.length-i/\i<=p.length/\J 31= .int .i64 (i:Nat)/\hp 4=some ⟨3,53,[.agg [.bool false,.aa,.aa]],false⟩/\hp 8=some ⟨3,53,[PV.rat (lT vs (p.take i))],false⟩) p.length ?_ ?_
  ·refine⟨0,rfl,by omega,?_⟩;refine Sz1 eB ?_;exact⟨rfl,rfl⟩
  rintro _ J1 iv ⟨i,rfl,hi1,nj,Sw,Jv⟩;refine Sz1 nj ?_;refine Qb (fun uA=>?_) (fun uA=>?_)
  ·have az:i<p.length:=by omega
   have cO:=hp.get az;have eC:=h1 _ (Kah az);have bO:=Pb (vs:=vs) az;have hrp:=Hz hp hv hW i (by omega);generalize hx:p[i]=x at *
   have uE:=cO.m.len;have hxc:=cO.c;have aqv:i*(K+64*(1+W*E))<=p.length*(K+64*(1+W*E)):=Kam _ hi1;have SB:=fun j=>Il (vs:=vs) cO.m hv hW x.1 j;have Sq:∀j,j<=x.2.length->j*(1+W*E)<=64*(1+W*E):=fun j hj=>Kam _ (by omega);refine Sz2 nj hx ?_;refine Ql ep [(12,13),(40,55)] [] (fun n J hp=>∃j,n=x.2.length-j/\j<=x.2.length/\J 40= .int .i64 (j:Nat)/\hp 4=some ⟨3,53,[.agg [.bool false,.aa,.aa]],false⟩/\hp 8=some ⟨3,53,[PV.rat (lT vs (p.take i))],false⟩/\hp 11=some ⟨3,53,[PV.rat (x.1*jQ vs x.2 j)],false⟩) x.2.length ?_ ?_
   ·refine⟨0,rfl,by omega,?_⟩;have e0:x.1*jQ vs x.2 0=x.1:=by show x.1*1=x.1;grind
    rw[e0];refine Sz2 Sw Jv ?_;rfl
   rintro _ J2 h2 ⟨j,rfl,hj,rB,sZ,Bb,wa⟩;refine Sz1 rB ?_;refine Qb (fun dX=>?_) (fun dX=>?_)
   ·have cg:j<x.2.length:=by omega
    have v5:=ik cg;have hjb:=cO.m.eN j;have EZ:jQ vs x.2 (j+1)=jQ vs x.2 j*df (vs.getD j 0) (eN x.2 j).toNat:=rfl;generalize hy:x.2[j]=y at *
    obtain⟨m,rfl⟩:∃m:Nat,y=m:=⟨y.toNat,by omega⟩
    rw[v5,Kbg]at EZ;rw[v5]at hjb;refine Sz2 rB hy ?_;refine Qb (fun hz=>?_) (fun hz=>?_)
    ·have Su:j<vs.length:=by omega
     have hvg:vs.getD j 0=vs[j]:=by simp[Kad,Su]
     have hvw:=hv _ (Kah Su);rw[hvg]at EZ;generalize JY:vs[j]=v at *
     have Fs:rs v*m<=W*E:=KbO hvw (by omega);have tg:rs v<=rs v*m:=Kcj _ (by omega);have hqp:=Ik v m;have qu:=SB j;have pk:=Sq j hj;refine Sz4 rB hy wa JY ?_;refine Qa hP (UG (a:=v) (n:=m) (by omega) (by omega) (by omega)) rfl rfl rfl ?_;refine Sz4 rB hy wa JY ?_;refine Qa hP (Ar (a:=x.1*jQ vs x.2 j) (b:=df v m) (k:=2^33) (by omega) (by omega) (by omega)) rfl rfl rfl ?_;refine Sz4 rB hy wa JY ?_;refine Qg (x.2.length-(j+1)) (by omega) ⟨j+1,rfl,by omega,?_⟩;have e1:x.1*jQ vs x.2 (j+1)=x.1*jQ vs x.2 j*df v m:=by rw[EZ];grind
     rw[e1];exact Tz2 sZ Bb
    ·obtain rfl:m=0:=by omega
     refine Sz2 rB hy ?_;refine Qg (x.2.length-(j+1)) (by omega) ⟨j+1,rfl,by omega,?_⟩;have e1:x.1*jQ vs x.2 (j+1)=x.1*jQ vs x.2 j:=by rw[EZ,Hq];grind
     rw[e1];exact Tz3 sZ Bb wa
   ·obtain rfl:j=x.2.length:=by omega
    have qu:=SB x.2.length;have pk:=Sq x.2.length (Kae _);have Fi:=vh (lT vs (p.take i)) (x.1*uN vs x.2);rw[show jQ vs x.2 x.2.length=uN vs x.2 from rfl]at wa qu;refine Sz4 nj rB Bb wa ?_;refine Qa hP (Nj (a:=lT vs (p.take i)) (b:=x.1*uN vs x.2) (k:=2^33) (by omega) (by omega) (by omega)) rfl rfl rfl ?_;refine Sz4 nj rB Bb wa ?_;simp (disch:=decide) only[iT,nO];refine Qg (p.length-(i+1)) (by omega) ⟨i+1,rfl,by omega,?_⟩;rw[bO];exact Tz1 sZ
  ·obtain rfl:i=p.length:=by omega
   rw[KaT]at Jv;refine Sz2 Sw Jv ?_;refine fp ?_;refine Sz0 ?_;exact cG (by rw[Em,if_neg (by simp[ho])]) rfl rfl (Qf _) (Qf _)
def qZ(vs:List Rat):List (List Tm)->Bool->Bool×Int
 | [],b=>(b,0)
 |f::l,b=>if ub vs f then(false,2)else qZ vs l (b&&decide (lT vs f≠0))
abbrev PV.be(r:Bool×Int):PV:=.aI [.bool r.1,.int .i64 r.2]
theorem aiC{q:Rat}:decide (fX q≠0)=decide (q≠0):=decide_eq_decide.2 (not_congr gq)
theorem aao{vs:List Rat}{l:List (List Tm)}{b:Bool}{i:Nat}(h:i<l.length):qZ vs (l.drop i) b=if ub vs l[i]then(false,2)else qZ vs (l.drop (i+1)) (b&&decide (lT vs l[i]≠0)):=by rw[Kau h];rfl
theorem amL{p:List Tm}{vs:List Rat}(hp:fZ p)(hv:∀v∈vs,rs v<=2)(hl:vs.length<=12):rs (lT vs p)<2^36/\1+p.length*(3+64*(1+2*4))+(3+64*(1+2*4))<=2^31:=by have h1:=hp.l;have hr:=Hz hp.b hv (by omega) p.length (Kae _);rw[KaT]at hr;exact⟨by omega,by omega⟩
theorem NT{l:List mI}{vs:List Rat}(h:∀c∈l,As c)(hl:l.length<=4)(hv:∀v∈vs,rs v<=2)(jB:vs.length<=12):Qd Tryz.prog 21 [PV.RD l,PV.TJ vs] (· =PV.be (qZ vs (kv l) true)):=by
 have hF:=HX h _ (Kae _);rw[KaT]at hF;have hFl:=hF.l;have hfa:=NF h hl;refine aB Qh Tryz.func21 aic fun C hP=>?_;refine Sz0 ?_;refine Qa hP hfa rfl rfl rfl ?_;generalize kv l=A at *
 refine Sz0 ?_;refine Ql okB [(4,6),(8,10),(14,33)] [9] (fun q J hp=>∃i b,q=A.length-i/\i<=A.length/\qZ vs (A.drop i) b=qZ vs A true/\J 6= .bool b/\J 14= .int .i64 (i:Nat)) A.length ?_ ?_
 ·refine⟨0,true,rfl,by omega,rfl,?_⟩;refine Sz0 ?_;rfl
 rintro _ J h' ⟨i,b,rfl,hi,hm,h6,gh⟩;refine Sz1 gh ?_;refine Qb (fun hg=>?_) (fun hg=>?_)
 ·have az:i<A.length:=by omega
  have hq:=hF.f _ (Kah az);rw[aao az]at hm;obtain⟨e1,e2⟩:=amL hq hv jB;generalize hx:A[i]=x at *
  have lz:=VE (W:=2) hq.b hv (by omega) (by omega) (by omega) (by have:=hq.l;omega) (by omega);have hsg:=Ac e1;unfold Em at lz;cases ho:ub vs x
  ·rw[ho,if_neg (by decide)]at lz hm;refine Sz2 gh hx ?_;refine Qa hP lz rfl rfl rfl ?_;cases b
   ·refine Sz2 gh h6 ?_;refine Qg (A.length-(i+1)) (by omega) ⟨i+1,false,rfl,by omega,by rw[<-hm];rfl,?_⟩;exact Tz0
   ·refine Sz2 gh h6 ?_;refine Qa hP hsg rfl rfl rfl ?_;refine Sz1 gh ?_;refine Qg (A.length-(i+1)) (by omega) ⟨i+1,decide (lT vs x≠0),rfl,by omega,by rw[<-hm];rfl,?_⟩;refine⟨?_,rfl⟩;rw[<-aiC];rfl
  ·rw[ho,if_pos rfl]at lz hm;refine Sz2 gh hx ?_;refine Qa hP lz rfl rfl rfl ?_;refine Sz0 ?_;exact cG (r:=PV.be (qZ vs A true)) (by rw[<-hm]) rfl rfl (Qf _) (Qf _)
 ·obtain rfl:i=A.length:=by omega
  rw[List.drop_length]at hm;refine Sz1 h6 ?_;exact cG (r:=PV.be (qZ vs A true)) (by rw[<-hm];rfl) rfl rfl (Qf _) (Qf _)
theorem Nt{fr:Fr}{hp:HP}{K:Qi}{β j o d:Nat}:jI 2 2 (.mp β j o) (.int .i64 1) d fr hp K=K (ab fr d (.mp β j (o+2))) hp:=qP (i:=1) (by omega)
theorem aju{fr:Fr}{hp:HP}{K:Qi}{β j o d:Nat}:jI 2 2 (.mp β j o) (.int .i64 0) d fr hp K=K (ab fr d (.mp β j o)) hp:=qP (i:=0) (by omega)
abbrev gW(M S G:List Tm):PV:=.agg [.aa,.aa,.aa,.aa,.sl 1 [PV.ao M],.sl 1 [PV.ao S],.sl 1 [.sl 1 [PV.ao G]]]
theorem acC{M S G V:List Tm}(hS:fZ S)(RR:S≠[])(hV:fZ V)(RU:V≠[])(e:dS V ((kI S).1/(kI V).1)=S):Qd Tryz.prog 11 [gW M S G,PV.ao V] (· = .aI [.int .i64 0,.bool true]):=by
 have hl:0<S.length:=KcC.2 RR;have mm:0<V.length:=KcC.2 RU;have g1:=Mi hl;have g2:=Mi mm;have m1:=DO RR;have m2:=DO RU;have r1:=(hS.b _ m1).c;have r2:=(hV.b _ m2).c;have hz:=hV.n.z _ m2;have hd:=aiZ (a:=(kI S).1) (b:=(kI V).1) (k:=3) (by omega) (by omega) (by omega) hz;have hrd:rs ((kI S).1/(kI V).1)<=rs (kI S).1+1*rs (kI V).1:=Mu hz (Kae _) 1;have Fm:=Ur (p:=V) (a:=(kI S).1/(kI V).1) (K:=100) (E:=4) (hV.b.mono (by omega) (by omega)) (by omega) (by omega) (by omega) (by have:=hV.l;omega);have heq:=GG hS.b hS.b (by omega) (by omega) (by have:=hS.l;omega) (by have:=hS.l;omega);rw[decide_eq_true rfl]at heq;rw[e]at Fm;refine aB Qh Tryz.func11 aid fun C hP=>?_;refine Sz0 ?_;refine Qb (fun h=>absurd h (by omega)) (fun _=>?_);refine Sz0 ?_;refine Ql okB [(4,9),(16,42)] [8] (fun q J hp=>q=0/\J 16= .int .i64 0/\hp 2=some ⟨7,34,[gW M S G],false⟩) 0 ?_ ?_
 ·exact Tz0
 rintro _ J h ⟨rfl,uo,b2⟩;refine Sz1 uo ?_;refine Qb (fun h=>absurd h (by omega)) (fun _=>?_);refine Sz3 uo g1 g2 ?_;refine dI ?_ ?_
 all_goals
  first|simp+decide (disch:=try exact D0) only[go_sem]|skip
  refine Qa hP hd rfl rfl rfl ?_;refine Sz0 ?_;refine Qa hP Fm rfl rfl rfl ?_;refine Sz0 ?_;refine Qa hP heq rfl rfl rfl ?_;refine Sz1 uo ?_;exact cG (r:=.aI [.int .i64 0,.bool true]) rfl rfl rfl (Qf _) (Qf _)
theorem acD{F D:List Tm}(hF:fZ F)(hD:fZ D):PV.cert [F] [1] 1 [D]=PV.nF ⟨[F.map mG],[1],1,[D.map mG]⟩/\RC 4 ⟨[F.map mG],[1],1,[D.map mG]⟩:=by
 have key:∀ {p:List Tm},fZ p->(∀t∈p.map mG,RB 4 t)/\(p.map mG).length<2^40:=fun {p} hp=>by refine⟨fun t ht=>?_,by rw[KaV];have:=hp.l;omega⟩;obtain⟨s,hs,rfl⟩:=KaE.1 ht;have:=(hp.b s hs).c;exact af9 (by omega) (by have:=(hp.b s hs).m.len;omega)
 refine⟨?_,⟨fun l hl=>?_,fun l hl=>?_,by simp,by simp,by simp⟩⟩
 ·show PV.agg [.sl 1 [PV.ao F],PV.mono [1],.int .i64 1,.sl 1 [PV.ao D]]=PV.agg [.sl 1 [PV.kT (F.map mG)],PV.mono [1],.int .i64 1,.sl 1 [PV.kT (D.map mG)]];rw[Lr,Lr]
 ·rw[Kaw.1 hl];exact key hF
 ·rw[Kaw.1 hl];exact key hD
theorem acE{M S G F D:List Tm}{e:Int}(hF:fZ F)(hD:fZ D)(hr:gK ⟨[F.map mG],[1],1,[D.map mG]⟩=true)(hc:Qd Tryz.prog 52 [PV.cert [F] [1] 1 [D],PV.dp [M],PV.ao G] (· = .int .i64 e)):
  Qd Tryz.prog 23 [gW M S G,PV.ao G,PV.cert [F] [1] 1 [D]] (· = .agg [.int .i64 0,.int .i64 0,.int .i64 0,.int .i64 e]):=by
 obtain⟨c1,c2⟩:=acD hF hD;have SW:=Ox c2 (by omega) (by omega);rw[hr,<-c1]at SW;refine aB Qh Tryz.func23 M6 fun C hP=>?_;refine Sz0 ?_;refine Qa hP SW rfl rfl rfl ?_;refine Sz0 ?_;refine Qa hP hc rfl rfl rfl ?_;refine Sz0 ?_;refine cY ?_;refine Sz0 ?_;exact Qc rfl rfl
theorem VF{M S G:List Tm}(c:PV):Qd Tryz.prog 8 [gW M S G,.int .i64 1,c] (· = .int .i64 2):=by refine aB Qh Tryz.func8 BY fun C hP=>?_;refine Sz0 ?_;exact Qc rfl rfl
theorem aap{M S G:List Tm}:Qd Tryz.prog 8 [gW M S G,.int .i64 0,.aa] (· = .int .i64 16):=by refine aB Qh Tryz.func8 BY fun C hP=>?_;refine Sz0 ?_;exact Qc rfl rfl
theorem acF{M S G F D:List Tm}(hm:Qd Tryz.prog 23 [gW M S G,PV.ao G,PV.cert [F] [1] 1 [D]] (· = .agg [.int .i64 0,.int .i64 0,.int .i64 0,.int .i64 0])):
  Qd Tryz.prog 8 [gW M S G,.int .i64 0,.sl 4 [PV.cert [F] [1] 1 [D]]] (· = .int .i64 0):=by
 refine aB Qh Tryz.func8 BY fun C hP=>?_;refine Sz0 ?_;refine Ql okB [(6,9),(30,61)] [8,9] (fun q J hp=>((q=1/\J 30= .int .i64 0)∨(q=0/\J 30= .int .i64 1))/\hp 3=some ⟨7,34,[gW M S G],false⟩) 1 ?_ ?_
 ·refine⟨.inl ⟨rfl,?_⟩,?_⟩
  ·exact Tz0
  ·exact Tz0
 rintro _ J h ⟨⟨rfl,ni⟩|⟨rfl,ni⟩,b3⟩
 ·refine Sz2 ni b3 ?_;refine dI ?_ ?_
  all_goals
   first|simp+decide (disch:=try exact D0) only[go_sem]|skip
   refine Qa hP hm rfl rfl rfl ?_;refine Sz1 ni ?_;refine Qg 0 (by omega) ⟨.inr ⟨rfl,?_⟩,?_⟩
   ·refine Sz0 ?_;rfl
   ·exact Tz1 b3
 ·refine Sz1 ni ?_;exact Qc rfl rfl
def vF:List Int->Int
 | []=>0
 |x::r=>if x=0 then vF r else x
theorem Mw:∀ {zs:List Int} {i:Nat} (h:i<zs.length),(∀j (hj:j<zs.length),j<i->zs[j]=0)->zs[i]≠0->vF zs=zs[i]
 |x::r,0,_,_,hn=>by rw[vF,if_neg (by simpa using hn)];rfl
 |x::r,i+1,h,h0,hn=>by have e:x=0:=h0 0 (by simp) (by omega);rw[vF,if_pos e];exact Mw (i:=i) (by simpa using h) (fun j hj fa=>h0 (j+1) (by simpa using hj) (by omega)) hn
theorem Na:∀ {zs:List Int},(∀j (hj:j<zs.length),zs[j]=0)->vF zs=0
 | [],_=>rfl
 |x::r,h0=>by have e:x=0:=h0 0 (by simp);rw[vF,if_pos e];exact Na fun j hj=>h0 (j+1) (by simpa using hj)
def fY(H:List (List Tm))(g:List Tm)(c:eL):Int:=if gK c=true then oS (gX c.fs) c.ps c.n (gX c.cs) H g else 1
def xP(H:List (List Tm))(gs:List (List Tm))(l:List eL):Int:=vF ((l.zip gs).map fun x=>fY H x.2 x.1)
def pY(H:List (List Tm))(Q:List (List (List Tm)))(i:Int)(l:List eL):Int:=
 if i<0∨(Q.length:Int)<=i then 2 else if l.length=(Q.getD i.toNat []).length then xP H (Q.getD i.toNat []) l else 16
theorem Mx{H gs:List (List Tm)}{l:List eL}(hl:l.length=gs.length){i:Nat}(h:i<l.length)(h0:∀j (hj:j<l.length),j<i->fY H (gs[j]'(by omega)) l[j]=0)(hn:fY H (gs[i]'(by omega)) l[i]≠0):xP H gs l=fY H (gs[i]'(by omega)) l[i]:=by
 have:=Mw (zs:=(l.zip gs).map fun x=>fY H x.2 x.1) (i:=i) (by simp;omega) (fun j hj fa=>by
  have cg:j<l.length:=by simp at hj;omega
  simpa using h0 j cg fa) (by simpa using hn)
 simpa[xP]using this
theorem Nb{H gs:List (List Tm)}{l:List eL}(hl:l.length=gs.length)(h0:∀j (hj:j<l.length),fY H (gs[j]'(by omega)) l[j]=0):xP H gs l=0:=
 Na fun j hj=>by
  have cg:j<l.length:=by simp at hj;omega
  simpa using h0 j cg
theorem Ra{c:eL}{k:Nat}(hb:RC k c)(h:sH c){H:List (List Tm)}{g:List Tm}(hH:∀p∈H,eX 483 p)(yg:H.length<=4)(hg:eX 483 g):
  Qd Tryz.prog 52 [PV.nF c,PV.dp H,PV.ao g] (· = .int .i64 (oS (gX c.fs) c.ps c.n (gX c.cs) H g))/\
  Qd Tryz.prog 25 [PV.nF c,PV.dp H,PV.ao g] (· = .int .i64 (oS (gX c.fs) c.ps c.n (gX c.cs) H g)):=by
 obtain⟨e,f4,fl4,c4,cl4,_⟩:=aan hb h.1;have hp:=hb.pl;have hn:c.n.toNat*483<=1500∨64<c.n:=by have:=h.2;omega
 rw[e];exact⟨NS (by omega) (fun f hf=>(f4 f hf).rV) (by omega) hp (fun f hf=>(c4 f hf).rV.Iy) (by omega) hH (by omega) hg hn,
  UQ (by omega) (fun f hf=>(f4 f hf).rV) (by omega) hp (fun f hf=>(c4 f hf).rV.Iy) (by omega) hH (by omega) hg hn⟩
theorem afx{S:List Q4}{G:List bz}{C:List Cd}{V:List Vr}{H P:List (List Tm)}{Q:List (List (List Tm))}{g:List Tm}{c:eL}{k:Nat}(hb:RC k c)(dn:1<=k)(hk:k<2^36)(h:sH c)(hH:∀p∈H,eX 483 p)(yg:H.length<=4)(hg:eX 483 g):
  Qd Tryz.prog 23 [PV.gW S G C V H P Q,PV.ao g,PV.nF c] (fun r=>∃a b,r= .agg [.int .i64 0,.int .i64 0,.int .i64 a,.int .i64 b]/\((a=1/\fY H g c=1)∨(a=0/\b=fY H g c))):=by
 have hr:=Ox hb dn hk;have hc:=(Ra hb h hH yg hg).1;have Ju:gK c=true->oS (gX c.fs) c.ps c.n (gX c.cs) H g=fY H g c:=fun h=>by rw[fY,if_pos h]
 have dn:gK c=false->fY H g c=1:=fun h=>by rw[fY,if_neg (by simp[h])]
 generalize oS (gX c.fs) c.ps c.n (gX c.cs) H g=e at *
 generalize fY H g c=f at *
 refine aB Qh Tryz.func23 M6 fun C hP=>?_;refine Sz0 ?_;refine Qa hP hr rfl rfl rfl ?_;cases aL:gK c
 ·refine Sz0 ?_;refine cY ?_;refine Sz0 ?_;exact cJ ⟨1,0,rfl,.inl ⟨rfl,dn aL⟩⟩ rfl
 refine Sz0 ?_;refine Qa hP hc rfl rfl rfl ?_;refine Sz0 ?_;refine cY ?_;refine Sz0 ?_;exact cJ ⟨0,e,rfl,.inr ⟨rfl,Ju aL⟩⟩ rfl
theorem aaq{S:List Q4}{G:List bz}{C0:List Cd}{V:List Vr}{H P:List (List Tm)}{Q:List (List (List Tm))}{i:Int}{l:List eL}{k:Nat}(hb:∀c∈l,RC k c)(dn:1<=k)(hk:k<2^36)(hl:l.length<=3)(h:∀c∈l,sH c)(hQ:Gm H Q):
  Qd Tryz.prog 9 [PV.gW S G C0 V H P Q,.int .i64 i,PV.uS l] (· = .int .i64 (pY H Q i l)):=by
 have hQl:=hQ.l;have yg:=hQ.hl;refine aB Qh Tryz.func9 ajq fun C hP=>?_;refine Sz0 ?_;refine Qo (fun h1=>?_) (fun h1=>?_)
 ·refine Sz0 ?_;exact Qc (by rw[pY,if_pos (.inl h1)]) rfl
 refine Sz0 ?_;refine Qb (fun h2=>?_) (fun h2=>?_)
 ·refine Sz0 ?_;exact Qc (by rw[pY,if_pos (.inr (by omega))]) rfl
 obtain⟨n,rfl⟩:∃n:Nat,i=n:=⟨i.toNat,by omega⟩
 have hn:n<Q.length:=by omega
 have sX:=hQ.ql _ (Kah hn);have Jp:=hQ.q _ (Kah hn);have hV:pY H Q n l=if l.length=Q[n].length then xP H Q[n] l else 16:=by
  have e:Q.getD (n:Int).toNat []=Q[n]:=by simp[hn]
  rw[pY,if_neg (by omega),e]
 rw[hV];generalize hx:Q[n]=x at *
 refine Sz1 hx ?_;refine Qb (fun h3=>?_) (fun h3=>?_)
 ·refine Sz0 ?_;exact Qc (by rw[if_neg (by omega)]) rfl
 have pj:l.length=x.length:=by omega
 rw[if_pos pj];refine Sz0 ?_;refine Ql okB [(6,8),(27,56)] [] (fun m J hp=>∃j,m=l.length-j/\j<=l.length/\(∀q (h:q<l.length),q<j->fY H (x[q]'(by omega)) l[q]=0)/\J 7= .int .i64 (j:Nat)/\hp 3=some ⟨7,34,[PV.gW S G C0 V H P Q],false⟩) l.length ?_ ?_
 ·refine⟨0,rfl,by omega,by omega,?_⟩;refine Sz0 ?_;rfl
 rintro _ J hp ⟨j,rfl,hj,h0,j7,b3⟩;refine Sz1 j7 ?_;refine Qb (fun hc=>?_) (fun hc=>?_)
 ·have cg:j<l.length:=by omega
  have Jt:j<x.length:=by omega
  have vU:=hb _ (Kah cg);have cM:=Ra vU (h _ (Kah cg)) hQ.h yg (Jp _ (Kah Jt));have hR:=Ui vU dn hk;have rC:=Mx (H:=H) pj cg h0;have bn:fY H x[j] l[j]=0->∀q (h:q<l.length),q<j+1->fY H (x[q]'(by omega)) l[q]=0:=fun h q hq JR=>by
   by_cases e:q=j
   ·subst e;exact h
   ·exact h0 q hq (by omega)
  generalize hy:l[j]=c at *
  generalize hz:x[j]=z at *
  refine Sz3 j7 b3 hy ?_;refine Qa hP hR rfl rfl rfl ?_;cases aL:gK c
  ·refine Sz0 ?_;have e1:fY H z c=1:=by rw[fY,if_neg (by simp[aL])]
   exact Qc (by rw[rC (by omega),e1]) rfl
  have e1:oS (gX c.fs) c.ps c.n (gX c.cs) H z=fY H z c:=by rw[fY,if_pos aL]
  have sV:=cM.2;rw[e1]at sV;clear cM e1;generalize fY H z c=e at *
  refine Sz5 j7 b3 hx hy hz ?_;refine Qa hP sV rfl rfl rfl ?_;refine Sz0 ?_;refine Qb (fun he=>?_) (fun he=>?_)
  ·refine Sz0 ?_;exact Qc (by rw[rC he]) rfl
  refine Sz1 j7 ?_;refine Qg (l.length-(j+1)) (by omega) ⟨j+1,rfl,by omega,bn (by omega),?_⟩;exact Tz1 b3
 obtain rfl:j=l.length:=by omega
 refine Sz0 ?_;exact Qc (by rw[Nb pj fun q hq=>h0 q hq hq]) rfl
theorem afy{S:List Q4}{G:List bz}{C0:List Cd}{V:List Vr}{H P:List (List Tm)}{Q:List (List (List Tm))}{i:Int}{l:List eL}{k:Nat}(hb:∀c∈l,RC k c)(dn:1<=k)(hk:k<2^36)(hl:l.length<=3)(h:∀c∈l,sH c)(hQ:Gm H Q):
  Qd Tryz.prog 8 [PV.gW S G C0 V H P Q,.int .i64 i,PV.uS l] (· = .int .i64 (pY H Q i l)):=by
 have hQl:=hQ.l;have yg:=hQ.hl;refine aB Qh Tryz.func8 BY fun C hP=>?_;refine Sz0 ?_;refine Qo (fun h1=>?_) (fun h1=>?_)
 ·refine Sz0 ?_;exact Qc (by rw[pY,if_pos (.inl h1)]) rfl
 refine Sz0 ?_;refine Qb (fun h2=>?_) (fun h2=>?_)
 ·refine Sz0 ?_;exact Qc (by rw[pY,if_pos (.inr (by omega))]) rfl
 obtain⟨n,rfl⟩:∃n:Nat,i=n:=⟨i.toNat,by omega⟩
 have hn:n<Q.length:=by omega
 have sX:=hQ.ql _ (Kah hn);have Jp:=hQ.q _ (Kah hn);have hV:pY H Q n l=if l.length=Q[n].length then xP H Q[n] l else 16:=by
  have e:Q.getD (n:Int).toNat []=Q[n]:=by simp[hn]
  rw[pY,if_neg (by omega),e]
 rw[hV];generalize hx:Q[n]=x at *
 refine Sz1 hx ?_;refine Qb (fun h3=>?_) (fun h3=>?_)
 ·refine Sz0 ?_;exact Qc (by rw[if_neg (by omega)]) rfl
 have pj:l.length=x.length:=by omega
 rw[if_pos pj];refine Sz0 ?_;refine Ql okB [(6,9),(30,61)] [8,9] (fun m J hp=>∃j,m=l.length-j/\j<=l.length/\(∀q (h:q<l.length),q<j->fY H (x[q]'(by omega)) l[q]=0)/\J 30= .int .i64 (j:Nat)/\hp 3=some ⟨7,34,[PV.gW S G C0 V H P Q],false⟩) l.length ?_ ?_
 ·refine⟨0,rfl,by omega,by omega,?_⟩;refine Sz0 ?_;rfl
 rintro _ J hp ⟨j,rfl,hj,h0,Bz,b3⟩;refine Sz1 Bz ?_;refine Qb (fun hc=>?_) (fun hc=>?_)
 ·have cg:j<l.length:=by omega
  have Jt:j<x.length:=by omega
  have hm:=afx (S:=S) (G:=G) (C:=C0) (V:=V) (P:=P) (Q:=Q) (hb _ (Kah cg)) dn hk (h _ (Kah cg)) hQ.h yg (Jp _ (Kah Jt));have rC:=Mx (H:=H) pj cg h0;have bn:fY H x[j] l[j]=0->∀q (h:q<l.length),q<j+1->fY H (x[q]'(by omega)) l[q]=0:=fun h q hq JR=>by
   by_cases e:q=j
   ·subst e;exact h
   ·exact h0 q hq (by omega)
  generalize hy:l[j]=c at *
  generalize hz:x[j]=z at *
  generalize fY H z c=e at *
  refine Sz5 Bz b3 hx hy hz ?_;refine dI ?_ ?_
  all_goals
   first|simp+decide (disch:=try exact D5 Bz b3 hx hy hz) only[go_sem,Bz,b3,hx,hy,hz]|skip
   refine fT hP hm rfl rfl rfl ?_;rintro _ ⟨a,b,rfl,I6⟩;refine Sz0 ?_;rcases I6 with⟨rfl,he⟩|⟨rfl,rfl⟩
   ·refine Sz0 ?_;exact Qc (by rw[rC (by omega),he]) rfl
   by_cases jj:b=0
   ·have d:decide (0=b)=true:=decide_eq_true jj.symm;refine Sz2 d Bz ?_;refine Qg (l.length-(j+1)) (by omega) ⟨j+1,rfl,by omega,bn jj,?_⟩;exact Tz1 b3
   ·have d:decide (0=b)=false:=decide_eq_false fun h=>jj h.symm;refine Sz1 d ?_;exact Qc (by rw[rC jj]) rfl
 obtain rfl:j=l.length:=by omega
 refine Sz0 ?_;exact Qc (by rw[Nb pj fun q hq=>h0 q hq hq]) rfl
def c7:ay:=⟨98,[.t 0],Zr (Yd 0)<|Zr (Zq 11 false 18 [.c (Zz 0)]<|
 Zq 12 false 18 [.c (Zz 1)]<|
 Zm 1 11<|
 Zm 2 12 .nil)<|Zr (Yh 13 1 2<|
 Zq 15 false 19 [.t 13,.t 14]<|
 Zo (.bs 16 1 43 [.t 15])<|
 .wk<|Zm 17 1<|
 Zq 18 false 14 [.c (Zz 2)]<|
 Yl 19 13 17 18<|
 Zo (.bs 20 1 43 [.t 19])<|
 .wk<|Zm 21 2<|
 Zo (.bs 22 1 43 [.t 21])<|
 .wk<|Zo (.bs 23 1 31 [.t 22])<|
 .wk<|Zo (.ej 24 [.aa,.aa,.aa,.aa,.aa,.aa,.aa] [(4,1,.t 16),(5,1,.t 20),(6,1,.t 23)])<|
 Zo (.alloc 3 7 34 (.agg [.aa,.aa,.aa,.aa,.aa,.aa,.aa]))<|
 Zs 7 3 24 .nil)<|Zr (Zm 25 1<|
 Zo (.bs 26 1 43 [.t 25])<|
 .wk<|Zo (.bs 27 1 3 [.c (Zz 1)])<|
 .wk<|Zq 28 false 14 [.c (Zz 1)]<|
 Yn 29 20 28<|
 Zo (.bs 30 1 43 [.t 29])<|
 .wk<|Zo (.ej 31 [.aa,.aa,Zz 0,.aa] [(0,1,.t 26),(1,1,.t 27),(2,1,.c (Zz 1)),(3,1,.t 30)])<|
 Zo (.bs 32 4 62 [.t 31])<|
 .wk<|Yc 4 32)<|Zr (Zm 34 4<|
 Zq 35 false 14 [.c (Zz 0)]<|
 Zq 36 false 14 [.c (Zz 5)]<|
 Zo (.bs 37 3 53 [.t 35,.t 36])<|
 .wk<|ma 38 21 34 37 33 5 6)<|Zr (Zm 42 4<|
 Zq 43 false 14 [.c (Zz 1)]<|
 Zq 44 false 14 [.c (Zz 0)]<|
 Zo (.bs 45 3 53 [.t 43,.t 44])<|
 .wk<|ma 46 21 42 45 41 7 8)<|Zr (fL 50 7 3 1<|
 ma 52 11 50 51 49 9 10)<|Zr (fL 55 7 3 4<|
 Zq 57 false 8 [.t 55,.c (Zz 0),.t 56]<|
 Zk 58 .eql 57 0<|
 Zm 59 58<|
 Zg 59 true (.ld 60 7 true (.t 3))<|
 Zg 59 true (.call (some 61) false (.c (.fn 8 [] [])) [.t 60,.c (Zz 0),.c .aa])<|
 Zg 59 true (.bin 62 .eql false (.t 61) (.c (Zz 16)))<|
 Yk 63 59 62<|
 Zm 64 63<|
 Zg 64 true (.ld 65 7 true (.t 3))<|
 Zg 64 true (.mv 66 (.t 4))<|
 Zg 64 true (.call (some 67) false (.c (.fn 8 [] [])) [.t 65,.c (Zz 1),.t 66])<|
 Zg 64 true (.bin 68 .eql false (.t 67) (.c (Zz 2)))<|
 Yk 69 64 68<|
 YL 70 69 5<|
 Zg 70 true (.un 72 .not (.t 71))<|
 Yk 73 70 72<|
 YL 74 73 6<|
 Zg 74 true (.bin 76 .eql false (.t 75) (.c (Zz 0)))<|
 Yk 77 74 76<|
 YL 78 77 7<|
 Yk 80 78 79<|
 YL 81 80 8<|
 Zg 81 true (.bin 83 .eql false (.t 82) (.c (Zz 0)))<|
 Yk 84 81 83<|
 YL 85 84 9<|
 Zg 85 true (.bin 87 .eql false (.t 86) (.c (Zz 0)))<|
 Yk 88 85 87<|
 YL 89 88 10<|
 Yk 91 89 90<|
 YL 92 91 4<|
 vK 92 22<|
 nf 92<|
 Zg 92 true (.bin 96 .eql false (.t 95) (.c (Zz 1)))<|
 Yk 97 92 96<|
 Yc 0 97) .ret⟩
theorem ajv:Qe Tryz.prog Tryz.f7=some c7.strip:=by kernel_rfl
theorem aiD:qZ [((0:Int):Rat),((5:Int):Rat)] (kv [⟨[Qx 0],[1],1,[cD 1]⟩]) true=(false,0):=by decide+kernel
theorem aiE:qZ [((1:Int):Rat),((0:Int):Rat)] (kv [⟨[Qx 0],[1],1,[cD 1]⟩]) true=(true,0):=by decide+kernel
theorem aiF:kv [⟨[Qx 0],[1],1,[cD 1]⟩]=[Qx 0]:=by decide+kernel
theorem aiG:gK ⟨[(Qx 0).map mG],[1],1,[(cD 1).map mG]⟩=true:=by decide+kernel
theorem aiH:dS (Qx 0) ((kI (dS (Qx 0) ((2:Int):Rat))).1/(kI (Qx 0)).1)=dS (Qx 0) ((2:Int):Rat):=by decide+kernel
theorem GJ:Qd Tryz.prog 7 [] (· = .bool true):=by
 have s0:fZ (Qx 0):=Aa (by decide+kernel);have s1:fZ (Qx 1):=Aa (by decide+kernel);have s2:fZ (cD 1):=Aa (by decide+kernel);have s3:fZ (dS (Qx 0) ((2:Int):Rat)):=Aa (by decide+kernel);have s4:fZ (Q8 (Qx 0) (Qx 1)):=Aa (by decide+kernel);have n0:Qx 0≠[]:=by decide+kernel
 have n3:dS (Qx 0) ((2:Int):Rat)≠[]:=by decide+kernel
 have wx:Qd Tryz.prog 18 [.int .i64 0] (· =PV.ao (Qx 0)):=y7 (v:=0) (by omega);have tg:Qd Tryz.prog 18 [.int .i64 1] (· =PV.ao (Qx 1)):=y7 (v:=1) (by omega);have qu:=Gn (m:=4) (w:=1) (by omega) (P:=Qx 0) (q:=Qx 1) ⟨s0.rV.z.mono (by omega) (by omega) (by omega),s0.n,by have:=s0.l;omega⟩ s1.rV.w (by omega);have JJ:Qd Tryz.prog 14 [.int .i64 2] (· =PV.rat ((2:Int):Rat)):=r9 (by omega) (by omega);have JI:Qd Tryz.prog 14 [.int .i64 1] (· =PV.rat ((1:Int):Rat)):=r9 (by omega) (by omega);have Fc:Qd Tryz.prog 14 [.int .i64 0] (· =PV.rat ((0:Int):Rat)):=r9 (by omega) (by omega);have ho5:Qd Tryz.prog 14 [.int .i64 5] (· =PV.rat ((5:Int):Rat)):=r9 (by omega) (by omega);have Fm:=GC (p:=Qx 0) (a:=((2:Int):Rat)) (K:=3) (E:=4) s0.b s0.n.z (by decide+kernel) (by omega) (by omega) (by have:=s0.l;omega);have ae:Qd Tryz.prog 20 [PV.rat ((1:Int):Rat)] (· =PV.ao (cD 1)):=G' (a:=((1:Int):Rat)) (k:=4) (by decide+kernel) (by omega);have mr:=acC (M:=Q8 (Qx 0) (Qx 1)) (G:=Qx 1) s3 n3 s0 n0 aiH;have jV:=NS (fs:=[Qx 0]) (ps:=[1]) (n:=1) (cs:=[cD 1]) (hs:=[Q8 (Qx 0) (Qx 1)]) (g:=Qx 1) (w:=1) (by omega) (by simp;exact s0.rV) (by simp) (by simp) (by simp;exact s2.rV.Iy) (by simp) (by simp;exact s4.rV.w) (by simp) s1.rV.w (.inl (by decide));rw[ajt]at jV;have SD:=acE (S:=dS (Qx 0) ((2:Int):Rat)) s0 s2 aiG jV;have Ju:=acF SD;have dn:=aap (M:=Q8 (Qx 0) (Qx 1)) (S:=dS (Qx 0) ((2:Int):Rat)) (G:=Qx 1);have ph:=VF (M:=Q8 (Qx 0) (Qx 1)) (S:=dS (Qx 0) ((2:Int):Rat)) (G:=Qx 1) (.sl 4 [PV.cert [Qx 0] [1] 1 [cD 1]]);have EO:∀c∈[(⟨[Qx 0],[1],1,[cD 1]⟩:mI)],As c:=by intro c hc;rw[Kaw.1 hc];exact⟨rfl,by simp;exact⟨s0,n0⟩,by simp⟩
 have hf:=NF EO (by simp);have yn:=NT (vs:=[((0:Int):Rat),((5:Int):Rat)]) EO (by simp) (by decide+kernel) (by simp);have yo:=NT (vs:=[((1:Int):Rat),((0:Int):Rat)]) EO (by simp) (by decide+kernel) (by simp);rw[aiD]at yn;rw[aiE]at yo;rw[aiF]at hf;clear jV SD EO s0 s1 s2 s3 s4 n0 n3;generalize dS (Qx 0) ((2:Int):Rat)=S2 at *
 generalize Q8 (Qx 0) (Qx 1)=M at *
 generalize cD 1=O at *
 generalize Qx 0=V0 at *
 generalize Qx 1=V1 at *
 generalize((0:Int):Rat)=q0 at *
 generalize((1:Int):Rat)=q1 at *
 generalize((2:Int):Rat)=q2 at *
 generalize((5:Int):Rat)=q5 at *
 refine mM Qh Tryz.func7 rfl ajv Nz fun C hP=>?_;simp only[c7];refine dO ?_;refine Sz0 ?_;refine Qa hP wx rfl rfl rfl ?_;refine Sz0 ?_;refine Qa hP tg rfl rfl rfl ?_;refine Sz0 ?_;refine Qa hP qu rfl rfl rfl ?_;refine Sz0 ?_;refine bT (jr 16 gS) ?_;refine bp ?_;refine Qa hP JJ rfl rfl rfl ?_;refine bp ?_;refine Qa hP Fm rfl rfl rfl ?_;refine bp ?_;refine bT (jr 20 gS) ?_;refine bp ?_;refine bT (jr 22 gS) ?_;refine bp ?_;refine bT (jr 23 gS) ?_;refine bp ?_;refine bT (jr 26 gS) ?_;refine bp ?_;refine bT (jr 27 gS) ?_;refine bp ?_;refine Qa hP JI rfl rfl rfl ?_;refine bp ?_;refine Qa hP ae rfl rfl rfl ?_;refine bp ?_;refine bT (jr 30 gS) ?_;refine bp ?_;rw[ai0 (qU.flat rfl) (qU.flat rfl) (qU.flat rfl) (qU.flat rfl)];refine⟨⟨rfl,by simp⟩,⟨rfl,by simp⟩,⟨rfl,by simp⟩,⟨rfl,by simp⟩,?_⟩;refine bp ?_;refine bT (jr 32 gS) ?_;refine bp ?_;refine Qa hP Fc rfl rfl rfl ?_;refine bp ?_;refine Qa hP ho5 rfl rfl rfl ?_;refine bp ?_;refine bT (jr 37 gS) ?_;refine bp ?_;refine Qa hP yn rfl rfl rfl ?_;refine bp ?_;refine Qa hP JI rfl rfl rfl ?_;refine bp ?_;refine Qa hP Fc rfl rfl rfl ?_;refine bp ?_;refine bT (jr 45 gS) ?_;refine bp ?_;refine Qa hP yo rfl rfl rfl ?_;refine bp ?_;refine Qa hP mr rfl rfl rfl ?_;refine bp ?_;refine Qa hP Ju rfl rfl rfl ?_;refine bp ?_;refine Qa hP dn rfl rfl rfl ?_;refine bp ?_;refine Qa hP ph rfl rfl rfl ?_;refine bp ?_;refine Qa hP hf rfl rfl rfl ?_;refine bp ?_;refine DK (Wk.refl _ _) ?_;refine Sz0 ?_;exact Qc rfl rfl
theorem Qp9(hN:oK){S:List Q4}{G:List bz}{i:Int}{l:List eL}{k:Nat}(hS:S.length<2^40)(hG:G.length<2^40)(hb:∀s∈S,jb s)(hg:∀g∈G,kC g)(hc:∀c∈l,RC k c)(dn:1<=k)(hk:k<2^36)(hl:l.length<2^40):
  Qd Tryz.prog 3 [PV.cu S G,.int .i64 i,PV.uS l] (· = .bool true):=by
 have hs:=ZJ hN hS hG hb hg;have hB:=VD hc dn hk hl;refine aB Qh Tryz.func3 ajr fun C hP=>?_;refine Sz0 ?_;refine fT hP hs rfl rfl ?_ ?_
 ·rfl
 rintro _ ⟨M,b,rfl,hM,hs⟩;cases b
 ·rcases hM with rfl|rfl
  all_goals
   refine Sz0 ?_;refine Qa hP GJ rfl rfl rfl ?_;refine Sz0 ?_;exact Qc rfl rfl
 obtain⟨rfl,dA⟩:=hs rfl;have hQ:=dA.hg hb hg;unfold vE;clear hs dA hM;generalize gz S S.length=H at *
 generalize ri S=P at *
 generalize jR S G=Q at *
 generalize dV S=C0 at *
 generalize iu S=V0 at *
 refine Sz0 ?_;refine fT hP hB rfl rfl rfl ?_;rintro _ ⟨b,rfl,dv⟩;cases b
 ·refine Sz0 ?_;refine Qa hP GJ rfl rfl rfl ?_;refine Sz0 ?_;exact Qc rfl rfl
 obtain⟨yt,vU⟩:=dv rfl;have h1:=afy (S:=S) (G:=G) (C0:=C0) (V:=V0) (P:=P) (i:=i) hc dn hk yt vU hQ;have h2:=aaq (S:=S) (G:=G) (C0:=C0) (V:=V0) (P:=P) (i:=i) hc dn hk yt vU hQ;generalize pY H Q i l=e at *
 refine Sz0 ?_;refine Qa hP h1 rfl rfl rfl ?_;refine Sz0 ?_;refine Qa hP h2 rfl rfl rfl ?_;refine Sz0 ?_;refine Qa hP GJ rfl rfl rfl ?_;refine Sz0 ?_;exact Qc rfl rfl
theorem Pr(n:Nat)(w:World):Calls Tryz.prog 164 #[.int .u8 n] w fun e w'=>e= .returned (.bool (kQ n))/\Ext ca w w':=by
 refine((WV (n:=n)).2 w ca #[.int .u8 n] (fun _ h=>h.elim) rfl (fun i x hx=>?_)).mono fun e w' h=>?_
 ·match i,hx with
  |0,hx=>simp at hx;subst hx;exact Qp.int _ _
  |i+1,hx=>simp at hx
 ·obtain⟨v,r,rfl,h1,h2,rfl⟩:=h;cases h2;exact⟨rfl,h1⟩
theorem aar(n:Nat)(w:World):Calls Tryz.prog 165 #[.int .u8 n] w fun e w'=>e= .returned (.bool (rz n))/\Ext ca w w':=by
 refine((ZO (n:=n)).2 w ca #[.int .u8 n] (fun _ h=>h.elim) rfl (fun i x hx=>?_)).mono fun e w' h=>?_
 ·match i,hx with
  |0,hx=>simp at hx;subst hx;exact Qp.int _ _
  |i+1,hx=>simp at hx
 ·obtain⟨v,r,rfl,h1,h2,rfl⟩:=h;cases h2;exact⟨rfl,h1⟩
theorem UH(w:World):Calls Tryz.prog 166 #[] w fun e w'=>∃b off cap,e= .returned (.slice (some ⟨b,off,none⟩) 29 cap)/\Ext ca w w'/\∀i (h:i<kg.length),w'.cell? ⟨b,off+i,none⟩=some (.string kg[i]):=by
 refine(Uu.2 w ca #[] (fun _ h=>h.elim) rfl (fun i x hx=>by simp at hx)).mono fun e w' h=>?_;obtain⟨v,r,rfl,h1,h2,rfl⟩:=h;have ll:Qp w' ca (.sl 1 (kg.map PV.str)) v:=h2;cases ll with
 |sl _ _ b off cap vs hX hb hl hc he hv hr=>
  refine⟨b,off,cap,rfl,h1,fun i hi=>?_⟩;have hlen:(kg.map PV.str).length=29:=rfl;have sY:i<kg.length:=hi;have hg:(kg.map PV.str)[i]? =some (.str kg[i]):=by rw[Kas,Kag sY];rfl
  have h3:=hv i (by rw[hlen];exact sY) 0 (by omega);have h4:=hr i _ hg 0 _ rfl;generalize vs i 0=u at h3 h4;cases h4;rw[<-h3];simp
theorem aas(s:ByteArray)(pos:Nat)(h:pos<s.size):1<=(Utf8.decode s pos).2:=by
 by_cases ha:(s[pos]'h).toNat<128
 ·rw[decode_ascii s pos h ha];exact Kae _
 ·exact(decode_high s pos h (by omega)).2
theorem acG{w wr:World}(h:Ext ca w wr)(s:ByteArray)(p:Nat):Ext ca w (wr.iter s p):=h.trans (Ext.alloc wr _ _)
theorem Wx{w wr:World}(h:Ext ca w wr){b:Nat}(hb:w.heap.size<=b)(s:ByteArray)(p:Nat):Ext ca w (wr.iterAt b s p):=
 ⟨h.os,h.tape,h.output,by rw[Lib.iterAt_size];exact h.size,fun c hc hn=>by rw[Lib.iterAt_other _ _ _ _ _ (by omega)];exact h.block c hc hn⟩
theorem aiI{s k:ByteArray}(h:s.toList=k.toList):s=k:=by rw[KcE,KcE]at h;cases s;cases k;exact congrArg _ (Array.toList_inj.1 h)
theorem B4{p:Prop}(h:p->False):false=true↔p:=⟨fun e=>(by cases e),fun q=>(h q).elim⟩
theorem Nu{s:ByteArray}(h:Nq s):¬s.toList=[]:=fun e=>by have:=h.p;have h2:=congrArg List.length e;rw[KcE,Kb8]at h2;have:s.size=0:=h2;omega
theorem aiJ{s:ByteArray}(h:Nq s)(h0:0<s.size):¬((s.toList.isEmpty=true∨(20:Int)<s.size)∨(!kQ (s[0]'h0).toNat)=true):=by
 rintro((e|e)|e)
 ·exact Nu h (List.isEmpty_iff.1 e)
 ·have:=h.l;omega
 ·rw[h.f h0]at e;cases e
set_option maxHeartbeats 2000000 in
theorem UI (s : ByteArray) (hs :s.size<2^40) (w:World):Calls Tryz.prog 126 #[.string s] w fun e w'=>∃b,e= .returned (.bool b)/\Ext ca w w'/\(b=true↔Nq s):=by
  go_enter Tryz.func126,Tryz.ntmps126
  go_wp2_with (go_at_call 164;refine(Pr _ _).mono ?_;rintro e w2 ⟨rfl,hx⟩)
  all_goals try (go_ret;first|exact⟨_,rfl,Ext.refl _ _,B4 fun hn=>absurd (by assumption) (Nu hn)⟩|exact⟨_,rfl,by assumption,B4 fun hn=>absurd (by assumption) (aiJ hn _)⟩|exact .inl ⟨rfl,Ext.refl _ _,fun hn=>absurd hn.l (by omega)⟩)
  rotate_left
  · exfalso
    have h1:¬s.toList=[]:=by assumption
    have h2:¬0<s.size:=by assumption
    refine h1 (Kat.1 ?_);rw[KcE];simp only[Kb8];show s.size=0;omega
  rename_i r1 r2 r3 r4 r5 r6;have an9:s.size<=20:=by omega
  have EN:kQ (s[0]'r3).toNat=true:=by simpa using r4.2
  have hf1:∀h:0<s.size,kQ (s[0]'h).toNat=true:=fun _=>EN;clear r1 r2 r4 EN;generalize s.toList.isEmpty=b0;generalize decide (20<(s.size:Int))=b1;generalize kQ (s[0]'r3).toNat=b2
  go_loopw [3] (fun v wr=>∃pos n,wr.heap[w2.heap.size]? =some (.stringIter s pos)/\Ext ca w wr/\pos=gP s n/\∀m,m<n->∀h:gP s m<s.size,kQ (s[gP s m]'h).toNat=true∨rz (s[gP s m]'h).toNat=true) (fun _ wr=>s.size-wr.iterPos w2.heap.size)
  case atStart=>exact⟨0,0,World.iter_heap w2 s 0,acG hx s 0,rfl,fun m hm=>absurd hm (by omega)⟩
  case round=>
    have Fq:=hx.size;obtain⟨pos,n,AX,hE,Fg,aP⟩:=hrel;have uC:wr.iterPos w2.heap.size=pos:=by simp[World.iterPos,AX]
    have amW:w2.heap.size<wr.heap.size:=(Kbl.1 AX).1;by_cases hp:pos<s.size
    · have fP:∀ty,(Instr.next (.pointer (some ⟨w2.heap.size,0,none⟩)) true ty).run Tryz.prog wr=_:=fun ty=>Lib.run_next_any_at wr w2.heap.size s pos ty AX hp
      have hwd:=aas s pos hp;have JG:gP s (n+1)=pos+(Utf8.decode s pos).2:=by rw[gP,<-Fg,if_pos hp]
      have bn:(kQ (s[pos]'hp).toNat=true∨rz (s[pos]'hp).toNat=true)->∀m,m<n+1->∀h:gP s m<s.size,kQ (s[gP s m]'h).toNat=true∨rz (s[gP s m]'h).toNat=true:=by
        subst Fg;intro ho m hm h;by_cases e:m=n
        · subst e;exact ho
        · exact aP m (by omega) h
      have gB:¬(kQ (s[pos]'hp).toNat=true∨rz (s[pos]'hp).toNat=true)->¬Nq s:=by subst Fg;exact fun ho q=>ho (q.a n hp)
      clear aP Fg;obtain⟨wd,aoX⟩:∃wd,(Utf8.decode s pos).2=wd:=⟨_,rfl⟩
      rw[aoX]at fP hwd JG;have AY:=Lib.iterAt_heap wr w2.heap.size s pos (pos+wd) AX;have EA:=Wx hE Fq s (pos+wd);obtain⟨W1,I3⟩:∃W1,W1=wr.iterAt w2.heap.size s (pos+wd):=⟨_,rfl⟩
      have Ey:w2.heap.size<W1.heap.size:=by rw[I3,Lib.iterAt_size];exact amW
      rw[<-I3]at fP AY EA;clear I3
      go_wp2_with (first|(go_at_call 164;refine(Pr _ _).mono ?_;rintro e w3 ⟨rfl,qy⟩)|(go_at_call 165;refine(aar _ _).mono ?_;rintro e w4 ⟨rfl,Tl⟩))
      · go_roundw
        case rel=>exact⟨pos+wd,n+1,(qy.block _ Ey id).trans AY,EA.trans qy,JG.symm,bn (.inl (by assumption))⟩
        case measure=>
          have:w3.iterPos w2.heap.size=pos+wd:=by simp[World.iterPos,(qy.block _ Ey id).trans AY]
          omega
      · go_ret
        exact⟨_,rfl,(EA.trans qy).trans Tl,B4 (gB (fun ho=>by rcases ho with ho|ho;exact absurd ho (by assumption);simp_all))⟩
      · have Bt:=qy.trans Tl
        go_roundw
        case rel=>exact⟨pos+wd,n+1,(Bt.block _ Ey id).trans AY,EA.trans Bt,JG.symm,bn (.inr (by simp_all))⟩
        case measure=>
          have:w4.iterPos w2.heap.size=pos+wd:=by simp[World.iterPos,(Bt.block _ Ey id).trans AY]
          omega
    · have fP : ∀ ty,(Instr.next (.pointer (some ⟨w2.heap.size,0,none⟩)) true ty).run Tryz.prog wr=_:=fun ty=>Lib.run_next_end_at wr w2.heap.size s pos ty AX hp
      go_wp2_with (go_at_call 166;refine(UH _).mono ?_;rintro e w5 ⟨bk,ok,ck,rfl,Bt,hk⟩)
      have dW:=hE.trans Bt;have ank:∀m (h:gP s m<s.size),kQ (s[gP s m]'h).toNat=true∨rz (s[gP s m]'h).toNat=true:=fun m h=>by
        rcases KcF m n with hm|hm
        · exact aP m hm h
        · have e:=QJ (s:=s) (n:=n) (by omega) (m-n)
          rw[show n+(m-n)=m by omega]at e;omega
      clear aP
      go_loopw [38] (fun v wr=>∃i:Nat,v= .int .i64 i/\i<=29/\wr=w5/\∀j (h:j<kg.length),j<i->s≠kg[j]) (fun v _=>29-(Go.RowKit.intOf v).toNat)
      case atStart=>exact⟨0,rfl,by omega,rfl,fun j _ hj=>absurd hj (by omega)⟩
      case round=>
        obtain⟨i,rfl,hi,rfl,aQ⟩:=hrel;by_cases qf:i<29
        · have sY :i<kg.length:=qf
          have cM:=hk i sY;have hkm:=Kah sY;have bn:s≠kg[i]->∀j (h:j<kg.length),j<i+1->s≠kg[j]:=fun hh j hj fa=>by
            by_cases e:j=i
            · subst e;exact hh
            · exact aQ j hj (by omega)
          have lC:(i:Int)<29:=by omega
          go_wp2
          · go_ret
            exact⟨_,rfl,dW,B4 fun hn=>absurd (aiI (eq_of_beq (by assumption))) (hn.k _ hkm)⟩
          · have hwr:IntKind.i64.wrap ((i:Int)+1)=((i+1:Nat):Int):=by rw[IntKind.wrap_i64];omega
            refine iI (v:=.int .i64 ((i+1:Nat):Int)) (w':=wr) ?_ ?_
            · unfold execOp
              simp[Act.eval,eqGuard,binOp,Op.intArith,hwr]
              try trace_state
            · rename_i ka kb
              refine kb _ _ ?_
              go_wp2
              refine iI (v:=.int .i64 ((i+1:Nat):Int)) (w':=wr) ?_ ?_
              · unfold execOp
                simp[Act.eval,Act.put]
                try trace_state
              · rename_i kc kd
                refine kd _ _ ?_
                go_wp2
                refine⟨?_,?_⟩
                · repeat apply Exists.intro
                  refine⟨⟨i+1,rfl,by omega,trivial,bn (fun e=>by simp_all)⟩,rfl⟩
                · show 29-(Go.RowKit.intOf (.int .i64 ((i+1:Nat):Int))).toNat<29-(Go.RowKit.intOf (.int .i64 (i:Int))).toNat
                  simp only[Go.RowKit.intOf,Kbg];omega
        · have lC:¬(i:Int)<29:=by omega
          go_wp2
          go_ret
          have RP:Nq s:=⟨r3,an9,hf1,ank,fun k ph=>by
            obtain⟨j,hj,rfl⟩:=Kaz ph;exact aQ j hj (by have:kg.length=29:=(rfl);omega)⟩
          first|exact .inr ⟨rfl,dW,RP⟩|exact⟨_,rfl,dW,fun _=>RP,fun _=>rfl⟩|trace_state
theorem Wy(s:ByteArray)(hs:s.size<2^40):Qd Tryz.prog 126 [PV.str s] (fun r=>r= .bool (yI s)):=by
 refine⟨by unfold oZ;kernel_rfl,fun w X bb hX hl ha=>?_⟩;have h0:=ha 0 (.str s) rfl;obtain⟨v,rfl⟩:∃v,bb= #[v]:=by
  obtain⟨l⟩:=bb
  match l,hl with
  | [v],_=>exact⟨v,rfl⟩
 have h1:Qp w X (.str s) v:=h0;cases h1;refine(UI s hs w).mono fun e w' h=>?_;obtain⟨b,rfl,h2,h3⟩:=h;exact⟨_,.bool b,rfl,h2,Qp.bool b,by rw[ahX h3]⟩
open Go Go.FW Go.ChangeShapes Go.WideShapes Go.ChangeAt Go.RowKit
variable {H : Type} {enc : TypeId × Value -> H}
def B5(c:eL):Prop:=xx c.fs/\vr c.ps/\(-9223372036854775808<=c.n/\c.n<=9223372036854775807)/\xx c.cs
theorem afz:Rd enc 62 fun ps=>∃c:eL,ps=(PV.nF c).cells/\B5 c:=by refine(Cs (Qs:=[fun ps=>∃ls:List (List cm),ps=[.sl 1 (ls.map PV.kT)]/\xx ls,fun ps=>∃l:List Int,ps=[PV.mono l]/\vr l,fun ps=>∃n:Int,ps=[.int .i64 n]/\ -9223372036854775808<=n/\n<=9223372036854775807,fun ps=>∃ls:List (List cm),ps=[.sl 1 (ls.map PV.kT)]/\xx ls]) bR Tryz.underlying62 (by kernel_rfl) ⟨rfl,Ls,by kernel_rfl,Ip,by kernel_rfl,w9 Tryz.underlying3,by kernel_rfl,Ls,trivial⟩).mono ?_;rintro ps ⟨p,q,rfl,⟨f,rfl,h1⟩,p2,q2,rfl,⟨l,rfl,h2⟩,p3,q3,rfl,⟨n,rfl,h3⟩,p4,q4,rfl,⟨c,rfl,h4⟩,rfl⟩;exact⟨⟨f,l,n,c⟩,rfl,h1,h2,h3,h4⟩
def F6(l:List eL):Prop:=l.length<=1048576/\∀c∈l,B5 c
instance : Inhabited eL := ⟨⟨[], [], 0, []⟩⟩
theorem Ps:Tryz.prog.cellsOf 62=4:=by kernel_rfl
theorem acH:Rd enc 26 fun ps=>∃l:List eL,ps=[PV.uS l]/\F6 l:=by refine(tx (α:=eL) (f:=PV.nF) (G:=B5) bR Tryz.underlying26 (by rw[Ps];omega) afz).mono ?_;rintro ps ⟨l,rfl,h1,h2⟩;exact⟨l,by rw[Ps],h1,h2⟩
variable {w : World} {base : Nat} {spare : Nat -> Bool} {held : Bool} {r : Reach} {b0 : Nat} {v : Value} {d : DataW H} {ps : List MemPlace}
theorem aat(dT:Value.okWide Tryz.prog w r b0 26 v)(hd:DataW.Trod enc Tryz.prog w base spare held 26 v d ps)(hn:Rows.uptoBulk d<=1048576):∃l,Q6 w ca (PV.uS l) v/\F6 l:=by
 obtain⟨p,⟨l,e,h⟩,h2⟩:=XD Tryz.underlying26 dT acH hd hn;obtain rfl:p=PV.uS l:=by simpa using e
 exact⟨l,h2,h⟩
theorem B6{ls:List (List cm)}(h:xx ls):(∀l∈ls,(∀t∈l,RB 1048576 t)/\l.length<2^40)/\ls.length<2^40:=⟨fun l hl=>⟨fun t ht=>((h.2 l hl).2 t ht).1,by have:=(h.2 l hl).1;omega⟩,by have:=h.1;omega⟩
theorem ajw{c:eL}(h:B5 c):RC 1048576 c:=by obtain⟨h1,h2,h3,h4⟩:=h;exact⟨(B6 h1).1,(B6 h4).1,(B6 h1).2,(B6 h4).2,by have:=h2.1;omega⟩
theorem acI:oK:=fun s hs=>Wy s hs
theorem Qqj{S:List Q4}{G:List bz}{i:Int}{l:List eL}(h:Iq S G)(_: -9223372036854775808<=i/\i<=9223372036854775807)(hc:F6 l):Qd Tryz.prog 3 [PV.cu S G,.int .i64 i,PV.uS l] (· = .bool true):=
 Qp9 acI (k:=1048576) (by have:=h.1.1;omega) (by have:=h.2.1;omega) (fun s hs=>ahZ (h.1.2 s hs)) (fun g hg=>ahY (h.2.2 g hg)) (fun c h=>ajw (hc.2 c h)) (by omega) (by omega) (by have:=hc.1;omega)
end Go.Proofs.YtccppnepkfbpkaaGreat
namespace Go.Proofs.YtccppnepkfbpkaaGreat
open Go Go.FW Go.ChangeShapes Go.WideShapes Go.ChangeAt Go.RowKit
theorem Qmu(H:Type)(enc:TypeId×Value->H)(W:World)(base:Nat)(args:Array Value)(ds gs:List (DataW H))(before:List MemPlace)
  (dT:∀(j:Nat) t v,Tryz.f3.params[j]? =some t->args[j]? =some v->Value.okWide Tryz.prog W .any base t v)
  (hW:DataW.Whole enc Tryz.prog Tryz.f3.params.toList Rows.certcheckChecksSpec.vars false W args.toList ds gs before) (hk:Rows.uptoSmall H (ds++gs)=true):
  Calls Tryz.prog 3 args W fun e W'=>∃v,e= .returned v/\Rows.certcheckChecksSpec.post enc Tryz.prog Tryz.f3 false true false false W args v W':=by
 have AK:=hW;obtain⟨p,q,AE,hV,rfl,mj,JE⟩:=hW;have hA:DataW.TrodAll enc Tryz.prog W 0 (fun _=>true) true Tryz.f3.params.toList args.toList ds p:=AE;rw[Tryz.params3]at hA dT;obtain⟨v0,vs0,e0,ds0,p0,q0,cL,rfl,rfl,h0,r0⟩:=trodAll_cons hA;obtain⟨v1,vs1,e1,ds1,p1,q1,rfl,rfl,rfl,h1,r1⟩:=trodAll_cons r0;obtain⟨v2,vs2,e2,ds2,p2,q2,rfl,rfl,rfl,h2,r2⟩:=trodAll_cons r1;obtain⟨rfl,rfl,rfl⟩:=trodAll_nil r2;obtain rfl:args= #[v0,v1,v2]:=by cases args;simp_all
 obtain⟨rfl,rfl⟩:=trodVars_none hV;have hb:=abl hk;simp only[Kar,Rows.uptoBulkAll]at hb;obtain⟨S0,G0,g0,b0⟩:=WW (dT 0 _ v0 rfl rfl) h0 (by omega);obtain⟨a1,g1,b1⟩:=aed (dT 1 _ v1 rfl rfl) h1 (by omega);obtain⟨a2,g2,b2⟩:=aat (dT 2 _ v2 rfl rfl) h2 (by omega);exact Zw AK rfl (by kernel_rfl) (by kernel_rfl) rfl (Qqj b0 b1 b2) rfl
  (abm (vs:=[v0,v1,v2]) (by
   intro i x hx v hv
   match i,hx,hv with
   |0,hx,hv=>simp at hx hv;subst hx hv;exact g0
   |1,hx,hv=>simp at hx hv;subst hx hv;exact g1
   |2,hx,hv=>simp at hx hv;subst hx hv;exact g2
   |i+3,hx,hv=>simp at hx) rfl)
theorem Qny(os:Os)(started:os.Started)(H:Type)(enc:TypeId×Value->H)(F:Stop.Interp):
  ReturnsInHanded {} Tryz.checked os 3 .any ((Rows.OpenSpec.upto Rows.certcheckChecksSpec).pre6 enc Tryz.prog Tryz.f3 Rows.certcheckChecksUptoRow.domain false) (((Rows.OpenSpec.upto Rows.certcheckChecksSpec).at F).post enc Tryz.prog Tryz.f3 false true false false):=by
 refine returnsInHanded_of_cond (C:=Tryz.checked) (s:=Rows.OpenSpec.upto Rows.certcheckChecksSpec) (k:=Rows.uptoSmall) rfl own started (by kernel_rfl) Tryz.func3
  (OpenSpec.witness (enc:=enc) (C:=Tryz.checked) (s:=Rows.OpenSpec.upto Rows.certcheckChecksSpec) (k:=Rows.uptoSmall) rfl false ⟨#[],#[.agg #[.slice none 0 0,.slice none 0 0],.int .i64 0,.slice none 0 0],[]⟩ 8 (by kernel_rfl) (by kernel_rfl) (by kernel_rfl)
   (x:=([.agg [.nil,.nil],.lit (.int .i64 0),.nil],[],[])) (by kernel_rfl) rfl (by kernel_rfl)) ?_
 intro W base args ds gs before dT hW _ hk _;exact Qmu H enc W base args ds gs before dT hW hk
theorem certcheckChecks_proved:Rows.CertcheckChecksUptoSaid:=
 OpenClaim.holds_of_cond 3 Tryz.f3 rfl rfl rfl rfl rfl rfl rfl ⟨rfl,rfl,rfl,rfl,rfl⟩ rfl rfl rfl rfl rfl (by kernel_rfl) Tryz.func3 (by kernel_rfl)
  (of_decide_eq_true (by kernel_rfl)) (by unfold Func.isWrapper;first|(rw[if_pos (by decide+kernel)];kernel_rfl)|(rw[if_neg (by decide+kernel)];exact⟨rfl,rfl⟩))
  (fun os started H enc _ F=>Qny os started H enc F)
end Go.Proofs.YtccppnepkfbpkaaGreat
