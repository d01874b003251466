/- Part 4 of the proof of DiscoverHolds: FwCJ, FwCK, FwCL, FwMA, FwMB, FwMC, FwPA, FwPB, FwPC, FwSA, FwSB, FwSC, FwTA, FwSet, FwSt, FwUB, FwNA, FwNB, FwND, FwNE, FwNF, FwSu. Own lemmas; no conditions. -/
import Derived.Test.YtmkijkjaeljieaaGreatDiscoverHoldsPart3
import Derived.ChangeSame
import Derived.ChangeStays
import Derived.Deep.Slices
import Derived.OpenShut
import Derived.RowKit
import Derived.ProofKit
import Derived.JoinedCond
set_option maxHeartbeats 1000000
set_option linter.unusedSimpArgs false
set_option linter.unusedVariables false
set_option linter.unnecessarySimpa false
set_option maxRecDepth 100000
namespace Go.FW
open Go
def zv(n:Bool)(a:List Nat):Int:=if n then -(val a:Int)else val a
abbrev PV.zi(n:Bool)(a:List Nat):PV:=.agg [.bool n,PV.nat a]
abbrev PV.zz(z:Int):PV:=.agg [.bool (decide (z<0)),PV.num z.natAbs]
theorem Mf(n:Bool)(x:Nat):PV.agg [.bool (n&&decide (0<(ak x).length)),PV.num x]=PV.zz (if n then -(x:Int)else x):=by
 have h:0<(ak x).length↔x≠0:=by
  constructor
  ·intro h h0;rw[h0,gp]at h;simp at h
  ·intro h;apply Kbb;intro h0;exact h (m9.1 (rj h0))
 cases n
 ·simp
 ·simp only[Bool.true_and,if_true,PV.zz,Int.natAbs_neg,Kbu];congr 3;exact decide_eq_decide.2 (by rw[h];omega)
theorem og(z:Int):zv (decide (z<0)) (ak z.natAbs)=z:=by unfold zv;rw[Qw];by_cases h:z<0<;>simp[h]<;>omega
theorem lf(n:Bool)(a:List Nat):(zv n a).natAbs=val a:=by unfold zv;split<;>simp
theorem ye(a:List Nat):zv false a=val a:=rfl
theorem uQ(n:Bool)(x:Nat):zv n (ak x)=if n then -(x:Int)else x:=by unfold zv;rw[Qw]
def fN(z:Int):Int:=if z<0 then -1 else if 0<z then 1 else 0
def fD(x y:Int):Int:=if x<y then -1 else if y<x then 1 else 0
theorem Kc(n:Bool)(a:List Nat):fN (zv n a)=if val a=0 then 0 else if n then -1 else 1:=by unfold fN zv;cases n<;>simp<;>split<;>(try split)<;>omega
theorem Dd{x:Int}:fN x<0↔x<0:=by unfold fN;split<;>(try split)<;>omega
theorem ajl{x y:Int}(h:fN x<fN y):fD x y= -1:=by unfold fN at h;unfold fD;rw[if_pos];split at h<;>split at h<;>(try split at h)<;>(try split at h)<;>omega
theorem ajm{x y:Int}(h:fN y<fN x):fD x y=1:=by
 have:y<x:=by unfold fN at h;split at h<;>split at h<;>(try split at h)<;>(try split at h)<;>omega
 unfold fD;rw[if_neg (by omega),if_pos this]
theorem Hw(n:Bool)(a:List Nat):zv n a=val a∨zv n a= -(val a:Int):=by unfold zv;split<;>simp
theorem ajn{n m:Bool}{a b:List Nat}(h:zv n a<0)(h2:zv m b<0):iq (val b) (val a)=fD (zv n a) (zv m b):=by
 unfold iq fD;have e:=Hw n a;have f:=Hw m b;generalize zv n a=p at *
 generalize zv m b=q at *
 repeat' split
 all_goals omega
theorem aiO{n m:Bool}{a b:List Nat}(h:¬zv n a<0)(h2:¬zv m b<0):iq (val a) (val b)=fD (zv n a) (zv m b):=by
 unfold iq fD;have e:=Hw n a;have f:=Hw m b;generalize zv n a=p at *
 generalize zv m b=q at *
 repeat' split
 all_goals omega
theorem Hx{x y:Nat}:iq x y<0↔x<y:=by unfold iq;split<;>(try split)<;>omega
variable {C : Ctx} {fr : Fr} {hp : HP} {w : World} {K R : Qg}
def Kz(hb:Option HB)(o n:Nat):PV:=match hb with
 |some hb=>.sl hb.e ((hb.xs.drop o).take n)
 |none=>.undef
theorem il:(∀(hp:HP)(O o n:Nat),Qr hp (.ax O o n)=if aQ O=true then .undef else Kz (hp O) o n)/\
  (∀(e ty o n:Nat)(xs:List PV)(fz:Bool),Kz (some ⟨e,ty,xs,fz⟩) o n= .sl e ((xs.drop o).take n))/\
  (∀(O:Nat),aQ O=(decide (1000000<=O)&&decide (O<2000000)))/\
  (∀(hp:HP)(l:List Nat)(O:Nat),FW.Q6 hp l O=if l.contains O=true then(hp O).map (fun hb=>{ hb with fz:=true })else hp O):=by
 refine⟨fun hp O o n=>?_,fun _ _ _ _ _ _=>rfl,fun _=>rfl,fun _ _ _=>rfl⟩;simp only[Qr,cx,Kz];cases aQ O<;>cases hp O<;>rfl
theorem amz{n d:Nat}{cs:List PV}(h:n<=cs.length):iQ n true (.pt cs) d fr hp K=K (ae fr d (.agg (cs.take n))) hp:=by simp[iQ,h,eZ,PV.cells]
theorem amA{off d:Nat}{cs:List PV}(h:off<=cs.length):tD off (.pt cs) d fr hp K=K (ae fr d (.pt (cs.drop off))) hp:=by simp[tD,h]
theorem amB{off n d:Nat}{cs:List PV}(h:off+n<=cs.length):tq off n true (.agg cs) d fr hp K=K (ae fr d (.agg ((cs.drop off).take n))) hp:=by simp[tq,h,eZ,PV.cells]
theorem amC{off d:Nat}{cs:List PV}(h:off+1<=cs.length):tq off 1 false (.agg cs) d fr hp K=K (ae fr d ((cs.drop off).headD .undef)) hp:=by simp[tq,h,eZ,PV.cells]
def rv(n:Bool)(a d:List Nat):Rat:=mkRat (zv n a) (val d)
abbrev PV.rr(n:Bool)(a d:List Nat):PV:=.agg [.bool n,PV.nat a,PV.nat d]
abbrev PV.rat(q:Rat):PV:=.agg [.bool (decide (q.num<0)),PV.num q.num.natAbs,PV.num q.den]
theorem kG(q:Rat):rv (decide (q.num<0)) (ak q.num.natAbs) (ak q.den)=q:=by unfold rv;rw[og,Qw,KcL]
theorem CJ{z:Int}{D:Nat}(hD:D≠0):(mkRat z D).num=z/(Nat.gcd z.natAbs D:Int)/\(mkRat z D).den=D/Nat.gcd z.natAbs D:=by rw[Rat.mkRat_def,dif_neg hD,Rat.normalize_eq];exact⟨rfl,rfl⟩
theorem Se{z:Int}{D:Nat}(hD:D≠0):PV.agg [.bool (decide (z<0)),PV.num (z.natAbs/Nat.gcd z.natAbs D),PV.num (D/Nat.gcd z.natAbs D)]=PV.rat (mkRat z D):=by
 obtain⟨h1,h2⟩:=CJ (z:=z) hD;have hg:0<Nat.gcd z.natAbs D:=Nat.gcd_pos_of_pos_right _ (Kbb hD);have Nw:(Nat.gcd z.natAbs D:Int)∣z:=Int.ofNat_dvd_left.2 (KcX _ _);obtain⟨k,hk⟩:=Nw;rw[PV.rat,h1,h2];generalize hgg:Nat.gcd z.natAbs D=g at *
 have e1:z/(g:Int)=k:=by rw[hk,Int.mul_ediv_cancel_left _ (by omega)]
 have e2:z.natAbs/g=k.natAbs:=by rw[hk,Int.natAbs_mul,Kbu,Nat.mul_div_cancel_left _ hg]
 have e3:z<0↔k<0:=by
  rw[hk];constructor
  ·intro h;apply Decidable.byContradiction;intro h';have:=Int.mul_nonneg (show(0:Int)<=g by omega) (show 0<=k by omega);omega
  ·intro h;exact Int.mul_neg_of_pos_of_neg (by omega) h
 rw[e1,e2,decide_eq_decide.2 e3]
theorem apb(z:Int):PV.agg [.bool (decide (z<0)),PV.num z.natAbs,PV.nat [1]]=PV.rat (mkRat z 1):=by rw[<-Se (by omega),Nat.gcd_one_right,Nat.div_one,Nat.div_one,PV.num,PV.num,uH]
theorem Rl:PV.le (.agg [.bool false,.ab,PV.nat [1]]) (PV.rat 0):=by
 show PV.F3 _ _;refine⟨rfl,?_,?_,trivial⟩
 ·show PV.nY .ab (PV.nat (ak 0));rw[gp];trivial
 ·show PV.nY (PV.nat [1]) (PV.nat (ak 1));rw[uH];exact Ai _
theorem Uf{z:Int}{D:Nat}(h:D=0∨z=0):mkRat z D=0:=by
 rcases h with h|h
 ·rw[h,Rat.mkRat_zero]
 ·rw[h,Rat.zero_mkRat]
def rs(q:Rat):Nat:=max (nl q.num.natAbs) (nl q.den)
theorem Sf(x y:Nat):nl (x/y)<=nl x:=gE (KcG _ _)
theorem qz:nl 1=1:=by unfold nl;rw[uH];rfl
theorem Hy(z:Int)(D:Nat):rs (mkRat z D)<=max (nl z.natAbs) (max (nl D) 1):=by
 by_cases hD:D=0
 ·rw[hD,Rat.mkRat_zero];show max (nl 0) (nl 1)<=_;rw[C7,qz];omega
 ·obtain⟨h1,h2⟩:=CJ (z:=z) hD;unfold rs;rw[h1,h2];have e:(z/(Nat.gcd z.natAbs D:Int)).natAbs<=z.natAbs:=by have Nw:(Nat.gcd z.natAbs D:Int)∣z:=Int.ofNat_dvd_left.2 (KcX _ _);rw[Int.natAbs_ediv_of_dvd Nw];exact KcG _ _
  have:=gE e;have:=Sf D (Nat.gcd z.natAbs D);omega
theorem Cl(x y:Int):nl (x+y).natAbs<=max (nl x.natAbs) (nl y.natAbs)+1:=
 KaQ (gE (Int.natAbs_add_le x y)) (Dy _ _)
theorem nc(x y:Int):nl (x*y).natAbs<=nl x.natAbs+nl y.natAbs:=by rw[Int.natAbs_mul];exact mC _ _
theorem Sg(q:Rat):1<=rs q:=by have:nl q.den≠0:=fun h=>q.den_nz (Cx.1 h);unfold rs;omega
theorem pw(a b:Rat):rs (a+b)<=rs a+rs b+1:=by
 have e:a+b=mkRat (a.num*b.den+b.num*a.den) (a.den*b.den):=by
  conv=>lhs;rw[<-Rat.mkRat_self a,<-Rat.mkRat_self b]
  exact Rat.mkRat_add_mkRat _ _ a.den_nz b.den_nz
 rw[e];have h1:=Hy (a.num*b.den+b.num*a.den) (a.den*b.den);have h2:=Cl (a.num*b.den) (b.num*a.den);have h3:=nc a.num b.den;have h4:=nc b.num a.den;have h5:=mC a.den b.den;rw[Kbu]at h3 h4;unfold rs at *
 omega
theorem fw(a b:Rat):rs (a*b)<=rs a+rs b:=by
 have e:a*b=mkRat (a.num*b.num) (a.den*b.den):=by
  conv=>lhs;rw[<-Rat.mkRat_self a,<-Rat.mkRat_self b]
  exact Rat.mkRat_mul_mkRat _ _ _ _
 rw[e];have h1:=Hy (a.num*b.num) (a.den*b.den);have h3:=nc a.num b.num;have h5:=mC a.den b.den;have:=Sg a;unfold rs at *
 omega
theorem Kd(a:Rat):rs (-a)=rs a:=by unfold rs;rw[Rat.neg_num,Rat.neg_den,Int.natAbs_neg]
theorem amD{n k:Nat}{a d:List Nat}{b:Bool}(ha:Qi a)(hd:Qi d)(h1:a.length<=k)(h2:d.length<=k)(hk:1<=k):rs (rv b a d)<=k:=by unfold rv;have h:=Hy (zv b a) (val d);rw[lf]at h;have:=cE ha;have:=cE hd;omega
end Go.FW
namespace Go.FW
open Go
def eQ(q:Rat):Int:=fN q.num
def qH(p q:Rat):Int:=if p<q then -1 else if q<p then 1 else 0
theorem KK{z:Int}{D:Nat}(hD:D≠0):∃g:Nat,0<g/\z=(mkRat z D).num*g/\D=(mkRat z D).den*g:=by
 obtain⟨h1,h2⟩:=CJ (z:=z) hD;have hg:0<Nat.gcd z.natAbs D:=Nat.gcd_pos_of_pos_right _ (Kbb hD);refine⟨_,hg,?_,?_⟩
 ·rw[h1,Int.ediv_mul_cancel (Int.ofNat_dvd_left.2 (KcX _ _))]
 ·rw[h2,Nat.div_mul_cancel (Nat.gcd_dvd_right _ _)]
theorem Q7r{a:Int}{g:Nat}(hg:0<g):a*g<0↔a<0:=by
 constructor
 ·intro h;apply Decidable.byContradiction;intro h';have:=Int.mul_nonneg (show 0<=a by omega) (show(0:Int)<=g by omega);omega
 ·intro h;exact Int.mul_neg_of_neg_of_pos h (by omega)
theorem Q7s{a:Int}{g:Nat}(hg:0<g):0<a*g↔0<a:=by
 constructor
 ·intro h;apply Decidable.byContradiction;intro h';have:=Int.mul_nonneg (show 0<= -a by omega) (show(0:Int)<=g by omega);rw[Int.neg_mul]at this;omega
 ·intro h;exact Int.mul_pos h (by omega)
theorem aeV{z:Int}{D:Nat}(hD:D≠0):eQ (mkRat z D)=fN z:=by
 obtain⟨g,hg,h1,_⟩:=KK (z:=z) hD;unfold eQ;generalize(mkRat z D).num=x at *
 subst h1;unfold fN;have:=Q7r (a:=x) hg;have:=Q7s (a:=x) hg
 repeat' split
 all_goals omega
theorem PK{x y:Int}{d c:Nat}(hd:d≠0)(hc:c≠0):mkRat x d<mkRat y c↔x*c<y*d:=by
 obtain⟨g,hg,h1,h2⟩:=KK (z:=x) hd;obtain⟨k,hk,h3,h4⟩:=KK (z:=y) hc;rw[Rat.lt_iff];generalize(mkRat x d).num=p at *
 generalize(mkRat x d).den=p' at *
 generalize(mkRat y c).num=q at *
 generalize(mkRat y c).den=q' at *
 subst h1 h2 h3 h4;have e1:p*(g:Int)*((q'*k:Nat):Int)=(p*q')*((g*k:Nat):Int):=by push_cast;grind
 have e2:q*(k:Int)*((p'*g:Nat):Int)=(q*p')*((g*k:Nat):Int):=by push_cast;grind
 rw[e1,e2];have Jh:(0:Int)<((g*k:Nat):Int):=by exact_mod_cast KcU hg hk
 exact⟨fun h=>Int.mul_lt_mul_of_pos_right h Jh,fun h=>Int.lt_of_mul_lt_mul_right h (Int.le_of_lt Jh)⟩
theorem Rm{x y:Int}{d c:Nat}(hd:d≠0)(hc:c≠0):qH (mkRat x d) (mkRat y c)=fD (x*c) (y*d):=by unfold qH fD;simp only[PK hd hc,PK hc hd]
theorem agC{x:Int}:fN x=0↔x=0:=by unfold fN;(repeat' split)<;>omega
theorem lg{q:Rat}:eQ q=0↔q=0:=by unfold eQ;rw[agC,Rat.num_eq_zero]
theorem PL{q:Rat}:eQ q<0↔q<0:=by unfold eQ;rw[Dd,Rat.lt_iff];simp
theorem PM{q:Rat}:0<eQ q↔0<q:=by
 unfold eQ;rw[Rat.lt_iff];unfold fN;simp;repeat' split
 all_goals omega
theorem Wj(q:Rat):eQ q= -1∨eQ q=0∨eQ q=1:=by unfold eQ fN;(repeat' split)<;>omega
theorem PN{p q:Rat}(h:eQ p<eQ q):qH p q= -1:=by
 unfold qH;rw[if_pos];rcases Wj p with h1|h1|h1<;>rcases Wj q with h2|h2|h2<;>first|omega|skip
 ·have a:=PL.1 (show eQ p<0 by omega);have b:=lg.1 h2;grind
 ·have a:=PL.1 (show eQ p<0 by omega);have b:=PM.1 (show 0<eQ q by omega);grind
 ·have a:=lg.1 h1;have b:=PM.1 (show 0<eQ q by omega);grind
theorem ahc{p q:Rat}(h:eQ q<eQ p):qH p q=1:=by
 have:=PN h;unfold qH at *
 have ao:q<p:=by apply Decidable.byContradiction;intro hn;rw[if_neg hn]at this;split at this<;>omega
 rw[if_neg (by grind),if_pos ao]
theorem aeW{p q:Rat}:qH p q=0↔p=q:=by
 unfold qH;constructor
 ·intro h;split at h
  ·omega
  ·split at h
   ·omega
   ·grind
 ·rintro rfl;rw[if_neg (by grind),if_neg (by grind)]
def qB(n:Bool)(a:List Nat):Bool:=if a=[]then !n else decide (a.getLast? ≠some 0)
def iX(n:Bool)(a d:List Nat):Bool:=qB n a&&(decide (d≠[]/\d.getLast? ≠some 0)&&decide (Nat.gcd (val a) (val d)=1))
theorem ahd{n:Bool}{a d:List Nat}(ha:Qi a)(hd:Qi d)(h:iX n a d=true):n=decide ((rv n a d).num<0)/\a=ak (rv n a d).num.natAbs/\d=ak (rv n a d).den:=by
 simp only[iX,qB,Ka2,decide_eq_true_eq]at h;obtain⟨h1,⟨h2,h3⟩,h4⟩:=h;have ea:a=ak (val a):=by
  refine(C8 ha ?_).symm;split at h1
  ·rename_i h;subst h;simp
  ·simpa using h1
 have ed:d=ak (val d):=(C8 hd h3).symm;have hD:val d≠0:=fun h=>h2 (by rw[ed,h,gp]);obtain⟨g1,g2⟩:=CJ (z:=zv n a) hD;rw[lf,h4]at g1 g2;have xd:(rv n a d).num=zv n a:=by unfold rv;rw[g1];simp
 have DZ:(rv n a d).den=val d:=by unfold rv;rw[g2];simp
 rw[xd,DZ,lf];refine⟨?_,ea,ed⟩;unfold zv;split at h1
 ·rename_i h;subst h;simp at h1;subst h1;simp[val]
 ·rename_i h;have h0:val a≠0:=fun h'=>h (by rw[ea,h',gp]);cases n<;>simp;omega
theorem Ix{n:Bool}{a d:List Nat}(ha:Qi a)(hd:Qi d)(h:iX n a d=true):PV.rr n a d=PV.rat (rv n a d):=by obtain⟨h1,h2,h3⟩:=ahd ha hd h;rw[PV.rr,PV.rat,<-h1,PV.num,PV.num,<-h2,<-h3]
theorem Ug{a:List Nat}{k:Nat}(h:a.length=k+1):a.getLast? =some (a[k]'(by omega)):=by rw[Kbq,show a.length-1=k by omega];exact Kad _
def eN(a:List Int)(i:Nat):Int:=a.getD i 0
theorem nq{a:List Int}{i:Nat}(h:i<a.length):eN a i=a[i]:=by simp[eN,Kac,h]
theorem pB{a:List Int}{i:Nat}(h:a.length<=i):eN a i=0:=by simp[eN,Kac,Kb8 h]
theorem amE(i:Nat):eN [] i=0:=by simp[eN]
def pH(l:List Int):Nat->List Int
 |0=>[]
 |n+1=>if l[n]? =some 0 then pH l n else l.take (n+1)
def tr(l:List Int):List Int:=pH l l.length
theorem Uh(l:List Int):∀n,(pH l n).length<=n
 |0=>by simp[pH]
 |n+1=>by
  rw[pH];split
  ·have:=Uh l n;omega
  ·simp;omega
theorem Wl(l:List Int):∀n,n<=l.length->(pH l n).getLast? ≠some 0
 |0,_=>by simp[pH]
 | n+1,h=>by
  rw[pH];split
  ·exact Wl l n (by omega)
  ·rename_i hn;have:(l.take (n+1)).getLast? =l[n]? :=by rw[Kbq,KaB,Kb7 h];simp[Kcq]
   rw[this];exact hn
theorem Rn(l:List Int)(i:Nat):∀n,n<=l.length->eN (pH l n) i=if i<n then eN l i else 0
 |0,_=>by simp[pH,eN]
 | n +1,h=>by
  rw[pH];split
  ·rename_i hn;rw[Rn l i n (by omega)];by_cases h1:i<n
   ·simp[h1,show i<n+1 by omega]
   ·rw[if_neg h1];split
    ·obtain rfl:i=n:=by omega
     simp[eN,Kac,hn]
    ·rfl
  ·simp only[eN,Kac,Kcq];split<;>simp_all
theorem PO(l:List Int)(i:Nat):eN (tr l) i=eN l i:=by
 rw[tr,Rn l i _ (Kae _)];split
 ·rfl
 ·exact(pB (by omega)).symm
theorem Vh(l:List Int):(tr l).getLast? ≠some 0:=Wl l _ (Kae _)
theorem GR(l:List Int):(tr l).length<=l.length:=Uh l _
theorem Hz{a b:List Int}(ha:a.getLast? ≠some 0)(hb:b.getLast? ≠some 0)(h:∀i,eN a i=eN b i):a=b:=by
 have key:∀(a b:List Int),b.getLast? ≠some 0->(∀i,eN a i=eN b i)->¬a.length<b.length:=by intro a b hb h ao;have h1:=h (b.length-1);rw[pB (by omega),nq (by omega)]at h1;apply hb;rw[Kbq,Kad (by omega),<-h1]
 have h1:=key a b hb h;have h2:=key b a ha (fun i=>(h i).symm);refine List.ext_getElem (by omega) fun i h3 h4=>?_;have:=h i
 rwa[nq h3,nq h4]at this
theorem PR{a:List Int}(h:a.getLast? ≠some 0):tr a=a:=Hz (Vh a) h (PO a)
def fE(a b:List Int):Nat->Int
 |0=>0
 |n+1=>if eN a n=eN b n then fE a b n else fD (eN a n) (eN b n)
def cz(a b:List Int):Int:=fE a b (max a.length b.length)
theorem aiP{x y:Int}:fD x y=0↔x=y:=by unfold fD;(repeat' split)<;>omega
theorem Av{x y:Int}:fD x y<0↔x<y:=by unfold fD;(repeat' split)<;>omega
theorem ahe(x y:Int):fD y x= -fD x y:=by unfold fD;(repeat' split)<;>omega
theorem Hh(a b:List Int):∀n,fE a b n=0↔∀i,i<n->eN a i=eN b i
 |0=>by simp[fE]
 | n+1=>by
  rw[fE];split
  ·rename_i h;rw[Hh a b n];exact⟨fun H i hi=>by
    by_cases h1:i=n
    ·subst h1;exact h
    ·exact H i (by omega),fun H i hi=>H i (by omega)⟩
  ·rename_i h;rw[aiP];exact⟨fun H=>absurd H h,fun H=>H n (by omega)⟩
theorem PT(a b:List Int):∀n,fE b a n= -fE a b n
 |0=>rfl
 |n+1=>by
  rw[fE,fE];by_cases h:eN a n=eN b n
  ·rw[if_pos h,if_pos h.symm,PT a b n]
  ·rw[if_neg h,if_neg (fun h'=>h h'.symm),ahe]
theorem Vi{a b c:List Int}:∀n,fE a b n<0->fE b c n<0->fE a c n<0
 |0=>by simp[fE]
 | n+1=>by
  intro h1 h2;rw[fE]at h1 h2⊢;split at h1<;>split at h2
  ·rename_i e1 e2;rw[if_pos (e1.trans e2)];exact Vi n h1 h2
  ·rename_i e1 e2;rw[e1,if_neg e2];exact h2
  ·rename_i e1 e2;rw[<-e2,if_neg e1];exact h1
  ·rename_i e1 e2;rw[Av]at h1 h2;rw[if_neg (by omega),Av];omega
theorem Ak{a b:List Int}{m:Nat}(h:max a.length b.length<=m):fE a b m=cz a b:=by
 obtain⟨k,rfl⟩:∃k,m=max a.length b.length+k:=⟨m-max a.length b.length,by omega⟩
 induction k with
 |zero=>rfl
 |succ k ih=>rw[<-Nat.add_assoc,fE,if_pos (by rw[pB (by omega),pB (by omega)])];exact ih (by omega)
theorem Ro{a b:List Int}(ha:a.getLast? ≠some 0)(hb:b.getLast? ≠some 0):cz a b=0↔a=b:=by
 unfold cz;rw[Hh];constructor
 ·intro h;refine Hz ha hb fun i=>?_;by_cases hi:i<max a.length b.length
  ·exact h i hi
  ·rw[pB (by omega),pB (by omega)]
 ·rintro rfl i _;rfl
theorem Wm(a:List Int):cz a a=0:=by rw[cz,Hh];intros;rfl
theorem Al(a b:List Int):cz b a= -cz a b:=by unfold cz;rw[Nat.max_comm,PT]
theorem Q7t{a b c:List Int}(h1:cz a b<0)(h2:cz b c<0):cz a c<0:=by
 have e:∀x y:List Int,x.length<=a.length+b.length+c.length->y.length<=a.length+b.length+c.length->cz x y=fE x y (a.length+b.length+c.length):=fun x y hx hy=>(Ak (by omega)).symm;rw[e _ _ (by omega) (by omega)]at *
 exact Vi _ h1 h2
theorem Q7u{a b c d:List Int}(h1:∀i,eN a i=eN c i)(h2:∀i,eN b i=eN d i):cz a b=cz c d:=by
 have key:∀n,fE a b n=fE c d n:=by
  intro n;induction n with
  |zero=>rfl
  |succ n ih=>rw[fE,fE,h1,h2,ih]
 rw[<-Ak (m:=max (max a.length b.length) (max c.length d.length)) (by omega),key,Ak (by omega)]
def pI(g:Int->Int->Int)(a b:List Int):List Int:=(List.range (max a.length b.length)).map fun i=>g (eN a i) (eN b i)
theorem v5(g:Int->Int->Int)(a b:List Int):(pI g a b).length=max a.length b.length:=by simp[pI]
theorem Rp{g:Int->Int->Int}(hg:g 0 0=0)(a b:List Int)(i:Nat):eN (pI g a b) i=g (eN a i) (eN b i):=by
 by_cases h:i<max a.length b.length
 ·rw[nq (by rw[v5];exact h)];simp[pI]
 ·rw[pB (by rw[v5];omega),pB (by omega),pB (by omega),hg]
def ek(a b:List Int):List Int:=tr (pI (· + ·) a b)
theorem Aw(a b:List Int)(i:Nat):eN (ek a b) i=eN a i+eN b i:=by rw[ek,PO,Rp (by simp)]
theorem CK(a b:List Int):(ek a b).getLast? ≠some 0:=Vh _
theorem CL(a b:List Int):ek a b=ek b a:=Hz (CK _ _) (CK _ _) fun i=>by rw[Aw,Aw,Int.add_comm]
theorem LQ{a:List Int}(h:a.getLast? ≠some 0):ek a []=a:=Hz (CK _ _) h fun i=>by rw[Aw,amE,Int.add_zero]
theorem ahf(a b c:List Int):cz (ek a c) (ek b c)=cz a b:=by
 have key:∀n,fE (ek a c) (ek b c) n=fE a b n:=by
  intro n;induction n with
  |zero=>rfl
  |succ n ih=>
   rw[fE,fE,Aw,Aw,ih];by_cases h:eN a n=eN b n
   ·rw[if_pos h,if_pos (by omega)]
   ·rw[if_neg h,if_neg (by omega)];unfold fD;(repeat' split)<;>omega
 rw[<-Ak (m:=max (max (ek a c).length (ek b c).length) (max a.length b.length)) (by omega),key,Ak (by omega)]
def rT(a:List Int):Int:=a.sum
def Ka(a:List Int):Bool:=decide (a.length<=64)&&(decide (a.getLast? ≠some 0)&&a.all fun x=>decide (0<=x)&&decide (x<=1048576))
def vg(o:Int)(a b:List Int):Int:=if o=1/\rT a≠rT b then fD (rT a) (rT b)else cz a b
structure MB(k:Nat)(a:List Int):Prop where
 len:a.length<=64
 lo:∀x∈a,0<=x
 hi:∀x∈a,x<=k
theorem MB.eN{k:Nat}{a:List Int}(h:MB k a)(i:Nat):0<=FW.eN a i/\FW.eN a i<=k:=by
 by_cases hi:i<a.length
 ·rw[nq hi];exact⟨h.lo _ (Kag _),h.hi _ (Kag _)⟩
 ·rw[pB (by omega)];omega
theorem MB.mono{k k':Nat}{a:List Int}(h:MB k a)(hk:k<=k'):MB k' a:=⟨h.len,h.lo,fun x hx=>by have:=h.hi x hx;omega⟩
theorem MB.mul{k l:Nat}{a b:List Int}(h:MB k a)(g:MB l b):MB (k+l) (ek a b):=by
 have hl:(ek a b).length<=64:=by have:=GR (pI (· + ·) a b);rw[v5]at this;have:=h.len;have:=g.len;unfold ek;omega
 refine⟨hl,fun x hx=>?_,fun x hx=>?_⟩
 all_goals
  obtain⟨i,hi,rfl⟩:=KaG hx;rw[<-nq hi,Aw];have:=h.eN i;have:=g.eN i
  push_cast;omega
variable {C : Ctx} {fr : Fr} {hp : HP} {w : World} {K R : Qg}
theorem apc{α:Type}{f:α->PV}{e d:Nat}{xs:List α}{k k':IntKind}{n:Nat}(h5:n<=xs.length):
  jo e (.sl e (xs.map f)) none (some (.int k (n:Int))) (some (.int k' (n:Int))) d fr hp K=K (ae fr d (.sl e ((xs.take n).map f))) hp:=by
 simp[jo,iR,h5]
theorem ahg{α:Type}{a:List α}{k:Nat}(h:a.length=k+1):a.getLast? =some (a[k]'(by omega)):=by rw[Kbq,show a.length-1=k by omega];exact Kad _
theorem Q37{α:Type}{f:α->PV}{e by_ ty d:Nat}{xs:List α}(h0:0<e)(h1:xs.length*by_<=140737488355328)(h2:xs.length<=9223372036854775807):
  jz e by_ ty .ab (.sl e (xs.map f)) d fr hp K=K (ae (bZ d fr) d (.ms d xs.length)) (Qj hp d ⟨e,ty,xs.map f,false⟩):=by
 have:=Lc (fr:=fr) (hp:=hp) (K:=K) (e:=e) (by_:=by_) (ty:=ty) (d:=d) (x:=.sl e (xs.map f)) (ys:=xs.map f) rfl h0 (by simpa using h1) (by simpa using h2);simpa using this
theorem ob{α:Type}{f:α->PV}{e by_ ty d O n:Nat}{xs ys:List α}(hb:hp O=some ⟨e,ty,xs.map f,false⟩)(hn:n=xs.length)(h0:0<e)(h1:(n+ys.length)*by_<=140737488355328)(h2:n+ys.length<=9223372036854775807)(hB:bW O=false:=by decide):
  jz e by_ ty (.ms O n) (.sl e (ys.map f)) d fr hp K=K (ae (bZ O fr) d (.ms O (n+ys.length))) (Qj hp O ⟨e,ty,(xs++ys).map f,false⟩):=by
 rw[Ld (ys:=ys.map f) (xs:=xs.map f) rfl hb h0 (by simp[hn]) (by simpa using h1) (by simpa using h2) hB];rw[Kah (by simp[hn]),KbS,KaJ]
theorem Qv{α:Type}{f:α->PV}{y:α}{e by_ ty ty' d O γ n:Nat}{xs:List α}{fz:Bool}(hb:hp O=some ⟨e,ty,xs.map f,false⟩)(hy:hp γ=some ⟨e,ty',[f y],fz⟩)(h0:0<e)(hn:n=xs.length)(h1:(n+1)*by_<=140737488355328)(h2:n+1<=9223372036854775807)(hB:bW O=false:=by decide):
  jz e by_ ty (.ms O n) (.ms γ 1) d fr hp K=K (ae (bZ O fr) d (.ms O (n+1))) (Qj hp O ⟨e,ty,(xs++[y]).map f,false⟩):=by
 rw[LL hb hy h0 (by simp[hn]) h1 h2 hB];simp
abbrev PV.mono(a:List Int):PV:=.sl 1 (tE a)
theorem aeX{a:List Int}(h:a=[]):PV.le .ab (PV.mono a):=by subst h;trivial
theorem amF{by_ ty d:Nat}{k k':IntKind}{n c:Nat}(h2:n<=c)(h3:by_*c<=281474976710656)(h4:c<=9223372036854775807):
  o6 1 by_ ty (.int .i64 0) (.int k (n:Int)) (.int k' (c:Int)) d fr hp K=K (ae (bZ d fr) d (.ms d n)) (Qj hp d ⟨1,ty,tE (List.replicate n 0),false⟩):=by
 rw[RZ (by omega) (by omega) (by omega) (by omega)];simp[tE]
theorem Rq(a b:Nat):max (a:Int) (b:Int)=((max a b:Nat):Int):=by omega
end Go.FW
namespace Go.FW
open Go
variable {C : Ctx} {fr : Fr} {hp : HP} {w : World} {K R : Qg}
theorem Wn{g:Int->Int->Int}{a b:List Int}{i:Nat}(h:i<max a.length b.length):(pI g a b).take (i+1)=(pI g a b).take i++[g (eN a i) (eN b i)]:=by rw[Kar (by rw[v5];exact h)];simp[pI]
end Go.FW
namespace Go.FW
open Go
abbrev Tm:=Rat×List Int
abbrev PV.term(t:Tm):PV:=.agg [.bool (decide (t.1.num<0)),PV.num t.1.num.natAbs,PV.num t.1.den,PV.mono t.2]
abbrev PV.ay(p:List Tm):PV:=.sl 4 (p.map PV.term)
abbrev PV.jn(l:List (List Tm)):PV:=.sl 1 (l.map PV.ay)
def Qu:List Tm->List Tm->List Tm
 | [],q=>q
 |p,[]=>p
 |(c,m)::p,(d,l)::q=>
  if 0<cz m l then(c,m)::Qu p ((d,l)::q)
  else if cz m l<0 then(d,l)::Qu ((c,m)::p) q
  else if c+d=0 then Qu p q else(c+d,m)::Qu p q
termination_by p q=>p.length+q.length
theorem nf(p:List Tm):Qu p []=p:=by cases p<;>rw[Qu];simp
theorem wu(p:List Tm):Qu [] p=p:=by rw[Qu]
structure TB(K E:Nat)(t:Tm):Prop where
 c:rs t.1+1<=K
 m:MB E t.2
 l:t.2.getLast? ≠some 0
def PB(K E:Nat)(p:List Tm):Prop:=∀t∈p,TB K E t
theorem TB.mono{K K' E E':Nat}{t:Tm}(h:TB K E t)(hK:K<=K')(hE:E<=E'):TB K' E' t:=⟨KaQ h.c hK,h.m.mono hE,h.l⟩
theorem PB.mono{K K' E E':Nat}{p:List Tm}(h:PB K E p)(hK:K<=K')(hE:E<=E'):PB K' E' p:=fun t ht=>(h t ht).mono hK hE
theorem PB.nil(K E:Nat):PB K E []:=fun t ht=>by cases ht
theorem PB.cons{K E:Nat}{t:Tm}{p:List Tm}:PB K E (t::p)↔TB K E t/\PB K E p:=by simp[PB]
theorem PB.drop{K E:Nat}{p:List Tm}(h:PB K E p)(n:Nat):PB K E (p.drop n):=fun t ht=>h t (KbP ht)
theorem PB.take{K E:Nat}{p:List Tm}(h:PB K E p)(n:Nat):PB K E (p.take n):=fun t ht=>h t (Kbi ht)
theorem PB.get{K E:Nat}{p:List Tm}(h:PB K E p){i:Nat}(hi:i<p.length):TB K E p[i]:=h _ (Kag hi)
theorem KU:∀(p q:List Tm),(Qu p q).length<=p.length+q.length:=by
 intro p q;induction p,q using Qu.induct with
 |case1 q=>rw[Qu];simp
 |case2 p h=>rw[nf];simp
 |case3 c m p d l q h ih=>rw[Qu,if_pos h];simp at ih ⊢;omega
 |case4 c m p d l q h1 h2 ih=>rw[Qu,if_neg h1,if_pos h2];simp at ih ⊢;omega
 |case5 c m p d l q h1 h2 h3 ih=>rw[Qu,if_neg h1,if_neg h2,if_pos h3];simp at ih ⊢;omega
 |case6 c m p d l q h1 h2 h3 ih=>rw[Qu,if_neg h1,if_neg h2,if_neg h3];simp at ih ⊢;omega
theorem HY{K L E:Nat}:∀(p q:List Tm),PB K E p->PB L E q->PB (K+L) E (Qu p q):=by
 intro p q;induction p,q using Qu.induct with
 |case1 q=>rw[Qu];exact fun _ h=>h.mono (by omega) (by omega)
 |case2 p h=>rw[nf];exact fun h _=>h.mono (by omega) (by omega)
 |case3 c m p d l q h ih=>intro hp hq;rw[Qu,if_pos h];rw[PB.cons]at hp⊢;exact⟨hp.1.mono (by omega) (by omega),ih hp.2 hq⟩
 |case4 c m p d l q h1 h2 ih=>intro hp hq;rw[Qu,if_neg h1,if_pos h2];rw[PB.cons]at hq⊢;exact⟨hq.1.mono (by omega) (by omega),ih hp hq.2⟩
 |case5 c m p d l q h1 h2 h3 ih=>intro hp hq;rw[Qu,if_neg h1,if_neg h2,if_pos h3];rw[PB.cons]at hp hq;exact ih hp.2 hq.2
 |case6 c m p d l q h1 h2 h3 ih=>intro hp hq;rw[Qu,if_neg h1,if_neg h2,if_neg h3];rw[PB.cons]at hp hq⊢;refine⟨⟨?_,hp.1.m,hp.1.l⟩,ih hp.2 hq.2⟩;have:=pw c d;have:=hp.1.c;have:=hq.1.c;simp only at *;omega
def dA(l:List (List Tm)):List Tm:=
 match l with
 | []=>[]
 | [p]=>p
 |p::q::r=>Qu (dA ((p::q::r).take ((p::q::r).length/2))) (dA ((p::q::r).drop ((p::q::r).length/2)))
termination_by l.length
decreasing_by
 all_goals simp[KaB,KbK];omega
theorem Hi{l:List (List Tm)}(h:2<=l.length):dA l=Qu (dA (l.take (l.length/2))) (dA (l.drop (l.length/2))):=by
 match l,h with
 |p::q::r,_=>rw[dA]
def wO(l:List (List Tm)):Nat:=(l.map List.length).sum
theorem Q7v(l:List (List Tm))(n:Nat):wO (l.take n)+wO (l.drop n)=wO l:=by unfold wO;rw[<-List.sum_append,<-List.map_append,Kbk]
theorem Q7w{K E:Nat}:∀(n:Nat)(l:List (List Tm)),l.length<=n->(∀p∈l,PB K E p)->PB (l.length*K) E (dA l)/\(dA l).length<=wO l:=by
 intro n;induction n with
 |zero=>intro l hl _;have:l=[]:=Kas.1 (by omega);subst this;rw[dA];exact⟨PB.nil _ _,by simp⟩
 | succ n ih=>
  intro l hl h
  match l,h with
  | [],_=>rw[dA];exact⟨PB.nil _ _,by simp⟩
  | [p],h=>rw[dA];exact⟨by simpa using h p (by simp),by simp[wO]⟩
  | p::q::r,h=>
   rw[Hi (by simp)];generalize hL:p::q::r=L at *
   have hlen:2<=L.length:=by rw[<-hL];simp
   obtain⟨a1,a2⟩:=ih (L.take (L.length/2)) (by rw[KaB];omega) (fun x hx=>h x (Kbi hx));obtain⟨b1,b2⟩:=ih (L.drop (L.length/2)) (by rw[KbK];omega) (fun x hx=>h x (KbP hx));have hs:=Q7v L (L.length/2);constructor
   ·have e:(L.take (L.length/2)).length*K+(L.drop (L.length/2)).length*K=L.length*K:=by rw[<-Nat.add_mul,KaB,KbK];congr 1;omega
    rw[<-e];exact HY _ _ a1 b1
   ·have:=KU (dA (L.take (L.length/2))) (dA (L.drop (L.length/2)));omega
def cH(p:List Tm)(t:Tm):List Tm:=p.filterMap fun x=>if x.1*t.1=0 then none else some (x.1*t.1,ek x.2 t.2)
theorem zX(p:List Tm)(t:Tm):(cH p t).length<=p.length:=List.length_filterMap_le _ _
theorem Ad{K L E F:Nat}{p:List Tm}{t:Tm}(hp:PB K E p)(ht:TB L F t):PB (K+L) (E+F) (cH p t):=by
 intro x hx;simp only[cH,Kca]at hx;obtain⟨y,hy,h⟩:=hx;split at h
 ·cases h
 ·cases h;have g:=hp y hy;refine⟨?_,g.m.mul ht.m,CK _ _⟩;have:=fw y.1 t.1;have:=g.c;have:=ht.c;simp only;omega
def tt(p q:List Tm):List Tm:=dA (p.map (cH q))
def cB(p q:List Tm):List Tm:=if q.length<p.length then tt q p else tt p q
theorem Qxh(p q:List Tm):wO (p.map (cH q))<=p.length*q.length:=by
 unfold wO;induction p with
 |nil=>simp
 |cons t p ih=>have:=zX q t;simp only[Kbn,List.sum_cons,Kaz,KaM,KcE];omega
theorem Ui{K L E F:Nat}{p q:List Tm}(hp:PB K E p)(hq:PB L F q):PB (p.length*(K+L)) (E+F) (tt p q)/\(tt p q).length<=p.length*q.length:=by obtain⟨h1,h2⟩:=Q7w (K:=K+L) (E:=E+F) _ (p.map (cH q)) (Kae _) (fun x hx=>by obtain⟨t,ht,rfl⟩:=KaA.1 hx;exact(Ad hq (hp t ht)).mono (by omega) (by omega));rw[KaJ]at h1;exact⟨h1,KaQ h2 (Qxh p q)⟩
theorem Q7x{K L E F:Nat}{p q:List Tm}(hp:PB K E p)(hq:PB L F q):PB (min p.length q.length*(K+L)) (E+F) (cB p q)/\(cB p q).length<=p.length*q.length:=by
 unfold cB;split
 ·rename_i h;obtain⟨h1,h2⟩:=Ui hq hp;rw[Nat.min_eq_right (by omega),Kb2 K,Kb2 E,Ka5 p.length];exact⟨h1,h2⟩
 ·rename_i h;obtain⟨h1,h2⟩:=Ui hp hq;rw[Kb7 (by omega)];exact⟨h1,h2⟩
theorem CM(x y:Tm)(p q:List Tm):Qu (x::p) (y::q)=if 0<cz x.2 y.2 then x::Qu p (y::q)else if cz x.2 y.2<0 then y::Qu (x::p) q else if x.1+y.1=0 then Qu p q else(x.1+y.1,x.2)::Qu p q:=by obtain⟨c,m⟩:=x;obtain⟨d,l⟩:=y;rw[Qu]
theorem aeY{p q:List Tm}{i k:Nat}(hi:i<p.length)(hk:k<q.length):Qu (p.drop i) (q.drop k)=if 0<cz p[i].2 q[k].2 then p[i]::Qu (p.drop (i+1)) (q.drop k)else if cz p[i].2 q[k].2<0 then q[k]::Qu (p.drop i) (q.drop (k+1))else if p[i].1+q[k].1=0 then Qu (p.drop (i+1)) (q.drop (k+1))else(p[i].1+q[k].1,p[i].2)::Qu (p.drop (i+1)) (q.drop (k+1)):=by rw[Kax hi,Kax hk,CM]
theorem amG(a b:List Int):vg 0 a b=cz a b:=by simp[vg]
theorem Lf{a b:List Int}(h1:¬0<cz a b)(h2:¬cz a b<0)(ha:a.getLast? ≠some 0)(hb:b.getLast? ≠some 0):a=b:=(Ro ha hb).1 (by omega)
section
variable {C : Ctx} {fr : Fr} {hp : HP} {w : World} {K R : Qg}
theorem ahh{e by_ ty d:Nat}{z:PV}{k k':IntKind}{Cc:Int}(h0:0<e)(hz:z.cells.length=e)(h2:0<=Cc)(h3:by_*Cc<=281474976710656)(h4:Cc<=9223372036854775807):
  o6 e by_ ty z (.int k 0) (.int k' Cc) d fr hp K=K (ae (bZ d fr) d (.ms d 0)) (Qj hp d ⟨e,ty,[],false⟩):=Iu h0 hz (by omega) h2 h3 h4
end
end Go.FW
namespace Go.FW
open Go
def kB(p:List Tm)(a:Rat):List Tm:=if a=0 then []else cH p (a,[])
def wP(p:List Tm):List Tm:=kB p (-1)
def bF(p q:List Tm):List Tm:=Qu p (wP q)
def dz(a:Rat):List Tm:=if a=0 then []else [(a,[])]
def jX(v:Nat):List Int:=List.replicate v 0++[1]
def cq(v:Int):List Tm:=if v<0∨64<=v then []else [(1,jX v.toNat)]
theorem TB.num{a:Rat}{K E:Nat}(h:rs a+1<=K):TB K E (a,[]):=⟨h,⟨by simp,by simp,by simp⟩,by simp⟩
theorem Wo{p:List Tm}{a:Rat}{K E L:Nat}(hp:PB K E p)(ha:rs a+1<=L):PB (K+L) E (kB p a):=by
 unfold kB;split
 ·exact PB.nil _ _
 ·exact(Ad (F:=0) hp (TB.num ha)).mono (by omega) (by omega)
theorem TL(p:List Tm)(a:Rat):(kB p a).length<=p.length:=by
 unfold kB;split
 ·simp
 ·exact zX _ _
theorem amH(z:Int)(h1: -18446744073709551616<z)(h2:z<18446744073709551616):rs (z:Rat)<=4:=by unfold rs;rw[Rat.num_intCast,Rat.den_intCast,qz];have:=td (n:=z.natAbs) (by omega);omega
theorem Iy:rs (-1)<=1:=by have:rs (-1)=max (nl 1) (nl 1):=rfl;rw[this,qz];omega
theorem vh:rs 1<=1:=by have:rs 1=max (nl 1) (nl 1):=rfl;rw[this,qz];omega
theorem aa4:rs 0<=1:=by have:rs 0=max (nl 0) (nl 1):=rfl;rw[this,qz,C7];omega
theorem aiQ{p:List Tm}{K E:Nat}(hp:PB K E p):PB (K+2) E (wP p):=Wo hp (by have:=Iy;omega)
theorem Rs{E:Nat}{a:List Int}(h:MB E a):0<=rT a/\rT a<=64*E:=by
 have key:∀(l:List Int),(∀x∈l,0<=x)->(∀x∈l,x<=E)->0<=l.sum/\l.sum<=l.length*E:=by
  intro l;induction l with
  |nil=>simp
  |cons x l ih=>
   intro h1 h2;obtain⟨a1,a2⟩:=ih (fun y hy=>h1 y (by simp[hy])) (fun y hy=>h2 y (by simp[hy]));have b1:=h1 x (by simp);have b2:=h2 x (by simp);rw[List.sum_cons,Kaz]
   push_cast
   rw[Int.add_mul];omega
 obtain⟨h1,h2⟩:=key a h.lo h.hi;refine⟨h1,Int.le_trans h2 (Int.mul_le_mul_of_nonneg_right ?_ (by omega))⟩;have:=h.len;omega
structure RTm where
 n:Bool
 a:List Nat
 d:List Nat
 m:List Int
structure TV(t:Tm):Prop where
 c:t.1≠0
 m:Ka t.2=true
def jQ:List Tm->Prop
 | []=>True
 |s::p=>(∀t∈p,0<cz s.2 t.2)/\jQ p
structure O7(p:List Tm):Prop where
 t:∀t∈p,TV t
 s:jQ p
theorem Cm{a b c:List Int}(h1:0<cz a b)(h2:0<cz b c):0<cz a c:=by have e1:=Al a b;have e2:=Al b c;have e3:=Al a c;have:=Q7t (a:=c) (b:=b) (c:=a) (by omega) (by omega);omega
theorem Q38{a:List Int}(h:Ka a=true):a.getLast? ≠some 0:=by simp only[Ka,Ka2,decide_eq_true_eq]at h;exact h.2.1
variable {C : Ctx} {ρ : Nat -> Option Nat} {fr : Fr} {hp : HP} {w : World} {K R : Qg}
theorem uK(s:Nat)(hd:(Qr hp (fr s)).aG=true):Wk fr hp (ae fr s (Qr hp (fr s))) (FW.Q6 hp (fr s).refs):=by
 rintro C tmps w ⟨ρ,hs⟩;have hf:=hs.freeze (fr s).refs;refine⟨ρ,hf.sz,hf.ext,hf.fI,hf.own,hf.inj,fun i=>?_⟩;unfold ae;split
 ·rename_i hi;subst hi;exact Qk.mZ (s9 hs (hs.dm i) (fun O h=>h) hd)
 ·exact hf.dm i
def yu(W:List (Nat×Nat))(F:Fr)(I:Nat->Fr->HP->Prop)(n:Nat):Qg:=fun aC hp'=>∃J cg m,Wk aC hp' (bu W J F) cg/\m<n/\I m J cg
theorem ahi{W:List (Nat×Nat)}{F:Fr}{I:Nat->Fr->HP->Prop}{n:Nat}:KM (yu W F I n) (yu W F I n):=by rintro f f' hp hf ⟨J,cg,m,h1,h2,h3⟩;exact⟨J,cg,m,hf.wk.trans h1,h2,h3⟩
theorem Q7y{sk:List It}{W:List (Nat×Nat)}{F:Fr}{I:Nat->Fr->HP->Prop}{n:Nat}(h:fC R sk):fC R (.el (yu W F I n)::sk):=⟨h.1,.el ahi h.2⟩
theorem CN{W:List (Nat×Nat)}{F J:Fr}{I:Nat->Fr->HP->Prop}{n:Nat}(m:Nat)(hl:m<n)(h:I m J hp):yu W F I n (bu W J F) hp:=⟨J,hp,m,Wk.refl _ _,hl,h⟩
theorem Vj{W:List (Nat×Nat)}{F J:Fr}{I:Nat->Fr->HP->Prop}{n:Nat}(s m:Nat)(hs:mX W s=true)(hd:(Qr hp (J s)).aG=true)(hl:m<n)(h:I m (ae J s (Qr hp (J s))) (FW.Q6 hp (J s).refs)):yu W F I n (bu W J F) hp:=by
 have e:bu W J F s=J s:=by rw[RW,if_pos hs]
 have hw:=uK (fr:=bu W J F) (hp:=hp) s (by rw[e];exact hd);rw[e,Rh hs]at hw;exact⟨_,_,m,hw,hl,h⟩
theorem Po{sk:List It}{x:SC}(bd:fC R sk)(W:List (Nat×Nat))(B:List Nat)(I:Nat->Fr->HP->Prop)(m0:Nat)(h0:I m0 fr hp)
  (h:∀m J hp,I m J hp->vc C R (.c x:: .el (yu W (Q7 B fr) I m)::sk) (bu W J (Q7 B fr)) hp):vc C R (.c (.loop x)::sk) fr hp:=by
 refine CG (fun m aC hp'=>∃J,aC=bu W J (Q7 B fr)/\I m J hp') m0 (Hu W B).wk ⟨fr,rfl,h0⟩ ?_;rintro m _ hp' ⟨J,rfl,hI⟩;refine rC bd.1 _ _ _ _ _ _ (Kae _) (.c x (.el ?_ bd.2)) (cA.refl _) (h m J hp' hI);rintro f f' cg hf ⟨J2,qg,m2,e2,hl,h2⟩;exact LJ hl (hf.wk.trans e2) ⟨J2,rfl,h2⟩
abbrev dg(a:List Nat)(i:Nat):Nat:=a.getD i 0
theorem yw{a:List Nat}(h:Qi a)(i:Nat):dg a i<65536:=by
 by_cases hi:i<a.length
 ·rw[dg,gQ hi];exact fe h hi
 ·rw[dg,gR hi];omega
theorem Ae(a:List Nat)(i:Nat):val (a.drop i)=dg a i+65536*val (a.drop (i+1)):=by
 by_cases hi:i<a.length
 ·rw[nd hi,dg,gQ hi]
 ·rw[dg,gR hi,Kat (by omega),Kat (by omega)];rfl
theorem Lg(a:List Nat)(i:Nat):val a=val (a.take i)+65536^i*val (a.drop i):=by
 by_cases hi:i<=a.length
 ·exact rf a i hi
 ·rw[Kah (by omega),Kat (by omega)];simp[val]
theorem Q12{a:List Nat}(h:Qi a)(i:Nat):val (a.take i)<65536^i:=by
 by_cases hi:i<=a.length
 ·exact vZ h i hi
 ·rw[Kah (by omega)];exact KaE (qy h) (KbD (by omega) (by omega))
theorem TC(a:List Nat)(i:Nat):val (a.take (i+1))=val (a.take i)+65536^i*dg a i:=by
 by_cases hi:i<a.length
 ·rw[Ck hi,dg,gQ hi]
 ·rw[dg,gR hi,Kah (by omega),Kah (by omega)];simp
theorem Uj{a b:List Nat}(ha:Qi a){i:Nat}(h:val (a.drop i)<val (b.drop i)):val a<val b:=by rw[Lg a i,Lg b i];have h1:=Q12 ha i;have:65536^i*(val (a.drop i)+1)<=65536^i*val (b.drop i):=Kbf _ h;rw[Ka0]at this;omega
theorem Rt{l:List Nat}{j v:Nat}(h:j<l.length):val (l.set j v)+65536^j*l[j]=val l+65536^j*v:=by have e:l.set j v=l.take j++v::l.drop (j+1):=List.set_eq_take_append_cons_drop.trans (by rw[if_pos h]);have e2:=rf l j (by omega);rw[nd h]at e2;rw[e,n9,KaB,Kb7 (by omega),val,e2,Ka0,Ka0];omega
theorem HA(l:List Nat)(x:Nat):val (l++[x])=val l+65536^l.length*x:=by rw[n9];simp[val]
theorem Q7z{l:List Nat}{j:Nat}(h:val (l.drop j)=0):dg l j=0:=by have:=Ae l j;omega
theorem amh{bt:Bool}{n d:Nat}:cn .rem bt (.int .u64 (n:Int)) (.int .u64 65536) d fr hp K=K (ae fr d (.int .u64 ((n%65536:Nat):Int))) hp:=by rw[show(65536:Int)=((65536:Nat):Int)from rfl,qx (by omega)]
theorem ami{bt:Bool}{n d:Nat}(h:n<18446744073709551616):cn .quo bt (.int .u64 (n:Int)) (.int .u64 65536) d fr hp K=K (ae fr d (.int .u64 ((n/65536:Nat):Int))) hp:=by rw[show(65536:Int)=((65536:Nat):Int)from rfl,Db (by omega) h]
theorem aiR{bt:Bool}{n d:Nat}:cn .rem bt (.int .i64 (n:Int)) (.int .i64 65536) d fr hp K=K (ae fr d (.int .i64 ((n%65536:Nat):Int))) hp:=by rw[show(65536:Int)=((65536:Nat):Int)from rfl,qx (by omega)]
theorem aiS{bt:Bool}{n d:Nat}(h:n<9223372036854775808):cn .quo bt (.int .i64 (n:Int)) (.int .i64 65536) d fr hp K=K (ae fr d (.int .i64 ((n/65536:Nat):Int))) hp:=by rw[show(65536:Int)=((65536:Nat):Int)from rfl,HW (by omega) h]
theorem amj(n:Nat):(n:Int)*65536=((n*65536:Nat):Int):=by omega
end Go.FW
namespace Go.FW
theorem Wp{P x y V ai c q r M S T:Nat}(h1:S+P*x=M+P*r)(h2:M+P*(c+ai*(y+65536*V))=T)(h3:65536*q+r=x+ai*y+c):S+P*65536*(q+ai*V)=T:=by
 have e:P*(65536*q+r)=P*(x+ai*y+c):=by rw[h3]
 have a1:P*(c+ai*(y+65536*V))=P*c+P*(ai*y)+65536*(P*(ai*V)):=by rw[Ka0 ai,Ka0,Ka0,KbL ai 65536,KbL P 65536];omega
 have a2:P*65536*(q+ai*V)=65536*(P*q)+65536*(P*(ai*V)):=by rw[Ka5 P,Kbo,Ka0,Ka0]
 have a3:P*(65536*q+r)=65536*(P*q)+P*r:=by rw[Ka0,KbL]
 have a4:P*(x+ai*y+c)=P*x+P*(ai*y)+P*c:=by rw[Ka0,Ka0]
 omega
theorem Wq{l:List Nat}{i j v:Nat}(h:i≠j):dg (l.set i v) j=dg l j:=by simp[dg,Kac,List.getElem?_set_ne h]
open Go
variable {C : Ctx} {ρ : Nat -> Option Nat} {fr : Fr} {hp : HP} {w : World} {K R : Qg}
theorem Vk{x V d q:Nat}(hd:0<d)(h:q=V/d):(V%d*65536+x)/d+65536*q=(x+65536*V)/d/\(V%d*65536+x)%d=(x+65536*V)%d:=by
 subst h;have e:x+65536*V=(V%d*65536+x)+d*(65536*(V/d)):=by
  have:=Kbv V d
  calc x+65536*V=x+65536*(d*(V/d)+V%d):=by rw[this]
   _=_:=by rw[Ka0,KbL];omega
 rw[e,Kct _ _ hd,Kcs];exact⟨rfl,rfl⟩
theorem aiT(i e:Nat)(hi:fr i= .ab):Wk fr hp (ae fr i (.sl e [])) hp:=by
 rintro C tmps w ⟨ρ,hs⟩;refine⟨ρ,hs.sz,hs.ext,hs.fI,hs.own,hs.inj,fun j=>?_⟩;unfold ae;split
 ·rename_i hj;subst hj;have:=hs.dm j;rw[hi]at this;rw[Qk.zL this];exact Qn.gC _ _ _ (Ka6 _)
 ·exact hs.dm j
theorem De{sk:List It}{x:SC}(i e:Nat)(hi:fr i= .ab)(h:vc C R (.c (.loop x)::sk) (ae fr i (.sl e [])) hp):vc C R (.c (.loop x)::sk) fr hp:=by rw[z8]at h⊢;obtain⟨I,μ,⟨aO,aA,h1,gJ⟩,h2⟩:=h;exact⟨I,μ,⟨aO,aA,(aiT i e hi).trans h1,gJ⟩,h2⟩
end Go.FW
namespace Go.FW
open Go Go.ChangeShapes Go.WideShapes
section
variable {H : Type} {enc : TypeId × Value -> H} {P : Program} {w : World} {base : Nat} {spare : Nat -> Bool} {held : Bool}
structure Gw(cC:DataW H->Nat):Prop where
 len:∀(elems spare:List (DataW H)),elems.length<=cC (.slice elems spare)
 sl:∀(elems spare:List (DataW H))(d:DataW H),d∈elems->cC d<=cC (.slice elems spare)
 ag:∀(parts:List (DataW H))(d:DataW H),d∈parts->cC d<=cC (.agg parts)
def kH(enc:TypeId×Value->H)(P:Program)(cC:DataW H->Nat)(N:Nat)(t:TypeId)(Q:List PV->Prop):Prop:=
 ∀(w:World)(base:Nat)(spare:Nat->Bool)(held:Bool)(fuel:Nat)(cs:List Value)(x:DataW H×List MemPlace),DataW.trod enc P w base spare held fuel t cs=some x->cC x.1<=N->
  ∃ps,Q ps/\ps.length=cs.length/\∀(i:Nat)(p:PV),ps[i]? =some p->Qn w Q5 p (cs.getD i undef)
variable {cC : DataW H -> Nat} {N : Nat}
theorem CX{w:World}{p:PV}{v:Value}(h:Qn w Q5 p v):∀(i:Nat)(q:PV),[p][i]? =some q->Qn w Q5 q ([v].getD i undef):=by
 intro i q hq
 match i,hq with
 |0,hq=>simp at hq;subst hq;exact h
 |i+1,hq=>simp at hq
theorem kH.mono{t:TypeId}{Q Q':List PV->Prop}(h:kH enc P cC N t Q)(hQ:∀ps,Q ps->Q' ps):kH enc P cC N t Q':=
 fun w base spare held fuel cs x hx hn=>let⟨ps,h1,h2,h3⟩:=h w base spare held fuel cs x hx hn;⟨ps,hQ ps h1,h2,h3⟩
theorem Wr{t:TypeId}{k:IntKind}(ht:P.underlying t=some (.int k)):kH enc P cC N t fun ps=>∃n,ps=[.int k n]/\(Lit.int k n).wf=true:=by intro w base spare held fuel cs x hx _;obtain⟨n,rfl,rfl,hw⟩:=DataW.trod_int ht hx;exact⟨_,⟨n,rfl,hw⟩,rfl,CX (.int k n)⟩
theorem Vl{t:TypeId}(ht:P.underlying t=some .bool):kH enc P cC N t fun ps=>∃b,ps=[.bool b]:=by intro w base spare held fuel cs x hx _;obtain⟨b,rfl,rfl⟩:=DataW.trod_bool ht hx;exact⟨_,⟨b,rfl⟩,rfl,CX (.bool b)⟩
theorem aeZ{t:TypeId}(ht:P.underlying t=some (.int .u16)):kH enc P cC N t fun ps=>∃n:Nat,ps=[.int .u16 n]/\n<65536:=by refine(Wr ht).mono ?_;rintro ps ⟨n,rfl,hw⟩;simp[Lit.wf,IntKind.min,IntKind.max,IntKind.signed,IntKind.bits]at hw;obtain⟨m,rfl⟩:=Int.eq_ofNat_of_zero_le hw.1;exact⟨m,rfl,by omega⟩
theorem Ls{t:TypeId}(ht:P.underlying t=some (.int .i64)):kH enc P cC N t fun ps=>∃n:Int,ps=[.int .i64 n]/\ -9223372036854775808<=n/\n<=9223372036854775807:=by refine(Wr ht).mono ?_;rintro ps ⟨n,rfl,hw⟩;simp[Lit.wf,IntKind.min,IntKind.max,IntKind.signed,IntKind.bits]at hw;exact⟨n,rfl,by omega⟩
theorem v7{α:Type}[Inhabited α]{f:α->PV}{G:α->Prop}{t e:TypeId}(hB:Gw cC)(ht:P.underlying t=some (.slice e))(tY:0<P.cellsOf e)
  (he:kH enc P cC N e fun ps=>∃a:α,ps=(f a).cells/\G a):kH enc P cC N t fun ps=>∃l:List α,ps=[.sl (P.cellsOf e) (l.map f)]/\l.length<=N/\∀a∈l,G a:=by
 intro w base spare held fuel cs x hx hn;rcases Deep.open_slice ht hx with⟨rfl,rfl⟩|⟨a,len,cap,m,n,D,Pl,rfl,_,hl,hm,zd,rfl,bC⟩
 ·exact⟨_,⟨[],rfl,Ka6 _,fun _ h=>by cases h⟩,rfl,CX (.gC _ none 0 (Ka6 _))⟩
 have hlm:len<=m:=by rw[zd];split<;>omega
 obtain⟨A,hA⟩:=Deep.choose_lt (α:=α×List Value) (n:=len) (p:=fun i y=>w.cells? base (a.add (i*P.cellsOf e)) (P.cellsOf e)=some y.2/\G y.1/\(f y.1).cells.length=y.2.length/\∀(j:Nat)(p:PV),(f y.1).cells[j]? =some p->Qn w Q5 p (y.2.getD j undef)) (fun i hi=>by obtain⟨cs',h1,h2⟩:=bC i (by omega);have hd:D i∈(List.range len).map D:=Kcw (Kcg.2 hi);obtain⟨_,⟨b,rfl,hG⟩,h3,h4⟩:=he w base spare held n cs' _ h2 (KaQ (hB.sl _ _ _ hd) hn);exact⟨(b,cs'),h1,hG,h3,h4⟩);have hlen:=hB.len ((List.range len).map D) ((List.range (m-len)).map fun j=>D (len+j));simp only[KaJ,List.length_range]at hlen hn;refine⟨_,⟨(List.range len).map fun i=>(A i).1,rfl,by simp;omega,fun b hb=>?_⟩,rfl,CX ?_⟩
 ·obtain⟨i,hi,rfl⟩:=KaA.1 hb;exact(hA i (Kcg.1 hi)).2.1
 ·rcases Nat.eq_zero_or_pos len with rfl|hp
  ·exact .gC _ _ _ hm
  have sp:a.spot=none:=by obtain⟨_,h2,h3⟩:=World.cells?_some (hA 0 hp).1;have h4:=h3 0 tY;rw[Kad (by omega)]at h4;simpa[Addr.add]using World.cell?_spot h4
  obtain⟨b,off,spot⟩:=a;have sp':spot=none:=sp;subst sp';have pX:∀i,i<len->∀j,j<P.cellsOf e->w.cell? ⟨b,off+i*P.cellsOf e+j,none⟩=some ((A i).2.getD j undef):=fun i hi j hj=>by obtain⟨_,h2,h3⟩:=World.cells?_some (hA i hi).1;have h4:=h3 j hj;rw[Kad (by omega),add_plain,add_plain]at h4;rw[h4];simp[Kac,Kad (show j<(A i).2.length by omega)]
  have e1:((List.range len).map fun i=>(A i).1).map f=(List.range len).map fun i=>f (A i).1:=by simp
  have e2:((List.range len).map fun i=>f (A i).1).length=len:=by simp
  have get:∀(i:Nat)(x:PV),((List.range len).map fun i=>f (A i).1)[i]? =some x->i<len/\x=f (A i).1:=fun i x hx=>by obtain⟨hi,h⟩:=Kaf.1 hx;rw[e2]at hi;exact⟨hi,by simpa using h.symm⟩
  rw[e1];have:=Qn.sl (w:=w) (X:=Q5) (P.cellsOf e) ((List.range len).map fun i=>f (A i).1) b off cap (fun i j=>(A i).2.getD j undef) (fun h=>h) (Q6n (pX 0 hp 0 tY)) (by rw[e2];exact hl) hm
   (fun i x hx=>by obtain⟨hi,rfl⟩:=get i x hx;rw[(hA i hi).2.2.1];exact(World.cells?_some (hA i hi).1).2.1)
   (fun i hi j hj=>pX i (by rwa[e2]at hi) j hj)
   (fun i x hx j y hy=>by obtain⟨hi,rfl⟩:=get i x hx;exact(hA i hi).2.2.2 j y hy)
  rwa[e2]at this
theorem TM{t:TypeId}{f0 f1:Field}{Q0 Q1:List PV->Prop}(hB:Gw cC)(ht:P.underlying t=some (.struct #[f0,f1]))(h0:f0.offset=0)(h1:f1.offset=P.cellsOf f0.type)(hc:P.cellsOf t=P.cellsOf f0.type+P.cellsOf f1.type)
  (r0:kH enc P cC N f0.type Q0) (r1:kH enc P cC N f1.type Q1):kH enc P cC N t fun ps=>∃p q,ps=p++q/\Q0 p/\Q1 q:=by
 intro w base spare held fuel cs x hx hn;obtain⟨y0,y1,n,rfl,hl,g0,g1⟩:=trod_struct2 ht hx;obtain⟨p,hp,cg,qg⟩:=r0 _ _ _ _ _ _ _ g0 (KaQ (hB.ag _ _ (by simp)) hn);obtain⟨q,hq,qS,Js⟩:=r1 _ _ _ _ _ _ _ g1 (KaQ (hB.ag _ _ (by simp)) hn);rw[h0]at cg qg;rw[h1]at qS Js;simp only[KbF,KaB,KbK]at cg qS;have lp:p.length=P.cellsOf f0.type:=by omega
 have lq:q.length=P.cellsOf f1.type:=by omega
 refine⟨_,⟨p,q,rfl,hp,hq⟩,by rw[Kap];omega,fun i v hv=>?_⟩;by_cases hi:i<p.length
 ·rw[KbA hi]at hv;have:=qg i v hv;rw[KbF,Kac,Kcq,if_pos (by omega)]at this;rw[Kac];exact this
 ·rw[Kbm (by omega)]at hv;have:=Js _ v hv;have oN:i-p.length<q.length:=(Kaf.1 hv).1;rw[Kac,Kcq,if_pos (by omega),Ka4,show P.cellsOf f0.type+(i-p.length)=i by omega]at this;rw[Kac];exact this
theorem aiU{r:Reach}{b0:Nat}{t:TypeId}{v:Value}{d:DataW H}{ps:List MemPlace}{Q:List PV->Prop}(hr:kH enc P cC N t Q)(hd:DataW.Trod enc P w base spare held t v d ps)(hn:cC d<=N)
  (hv:v.cells= #[v]):∃p,Q [p]/\Q8 w Q5 p v:=by
 obtain⟨fuel,hf⟩:=hd;obtain⟨qs,h1,h2,h3⟩:=hr _ _ _ _ _ _ _ hf hn;rw[hv]at h2 h3
 match qs,h2 with
 | [p],_=>exact⟨p,h1,Q8.sN (by simpa using h3 0 p rfl)⟩
theorem Ws{r:Reach}{b0:Nat}{t e:TypeId}{v:Value}{d:DataW H}{ps:List MemPlace}{Q:List PV->Prop}(ht:P.underlying t=some (.slice e))(dT:Value.okWide P w r b0 t v)(hr:kH enc P cC N t Q)(hd:DataW.Trod enc P w base spare held t v d ps)(hn:cC d<=N):
  ∃p,Q [p]/\Q8 w Q5 p v:=by
 obtain⟨a,len,cap,rfl⟩:=okWide_slice ht dT;exact aiU (r:=r) (b0:=b0) hr hd hn rfl
theorem Q71{r:Reach}{b0:Nat}{t:TypeId}{fs:Array Field}{v:Value}{d:DataW H}{ps:List MemPlace}{Q:List PV->Prop}(ht:P.underlying t=some (.struct fs))(dT:Value.okWide P w r b0 t v)(hr:kH enc P cC N t Q)(hd:DataW.Trod enc P w base spare held t v d ps)(hn:cC d<=N):
  ∃p,Q p/\Q8 w Q5 (.agg p) v:=by
 obtain⟨vs,rfl,_⟩:=okWide_struct ht dT;obtain⟨fuel,hf⟩:=hd;obtain⟨qs,h1,h2,h3⟩:=hr _ _ _ _ _ _ _ hf hn;refine⟨qs,h1,vs,rfl,by simpa[Value.cells]using h2.symm,fun i x hx=>?_⟩;have:=h3 i x hx;simpa[Value.cells,Kac,KaL]using this
theorem Ext.sameAt{W W':World}(h:Ext Q5 W W'){p:MemPlace}(hp:p.block<W.heap.size):W.sameAt W' p:=by
 cases p with
 |cell b off=>exact xU (h.block b hp (fun h=>h))
 |map b=>exact h.block b hp (fun h=>h)
theorem Ext.keptBut{W W':World}(h:Ext Q5 W W')(may:MemPlace->Prop):W.keptBut W' may:=by
 refine⟨h.os,h.output,fun i hi=>?_⟩;rw[h.block i hi (fun h=>h)];cases hh:W.heap[i]? with
 |none=>rfl
 |some o=>cases o with
  |cells c t fr=>exact⟨rfl,rfl,rfl,fun _ _=>rfl⟩
  |map es clock=>exact Or.inr ⟨rfl,rfl⟩
  |_=>rfl
theorem Ext.frozen{W W':World}(h:Ext Q5 W W'){a:Addr}(ha:a.block<W.heap.size):W'.frozen? a=W.frozen? a:=by unfold World.frozen?;rw[h.block _ ha (fun h=>h)]
theorem VH(hl:laidOutB P=true)(hm:mapsRowed P=true)(fh:∀ {t e:TypeId},t<P.types.size->P.underlying t=some (.slice e)->0<P.cellsOf e){W W':World}(hx:Ext Q5 W W')(sp:Nat->Bool):
  ∀ {ts:List TypeId} {vs:List Value} {ds:List (DataW H)} {ps:List MemPlace},(∀t∈ts,t<P.types.size)->DataW.TrodAll enc P W 0 (fun _=>true) true ts vs ds ps->(∀p∈ps,sp p.block=true)->DataW.TrodAll enc P W' 0 sp true ts vs ds ps
 | [],_,_,_,_,h,_=>by obtain⟨rfl,rfl,rfl⟩:=trodAll_nil h;rfl
 |t::ts,_,_,_,mU,h,hs=>by obtain⟨v,vs,d,ds,p,q,rfl,rfl,rfl,⟨fuel,h1⟩,h2⟩:=trodAll_cons h;refine⟨p,q,⟨fuel,?_⟩,VH hl hm fh hx sp (fun t ht=>mU t (by simp[ht])) h2 (fun x aX=>hs x (by simp[aX])),rfl⟩;exact DataW.trod_stays (kids_rows hl hm) fh (fun h=>by cases h) (mU t (by simp)) h1 (fun x aX=>hx.sameAt (DataW.trod_lt _ _ _ _ h1 x aX)) (fun x aX=>hs x (by simp[aX]))
theorem Q13{f:FuncId}{fn:Func}{s:ChangeSpec}{ap fresh handsOn AK:Bool}{W:World}{args:Array Value}{ds gs:List (DataW H)}{before:List MemPlace}{aU:List PV}{tb:TypeId}
  (hW:DataW.Whole enc P fn.params.toList s.vars ap W args.toList ds gs before) (Fv:s.vars=[]) (fq:fn.resultTypes= #[tb]) (htb:P.underlying tb=some .bool)
  (hl:laidOutB P=true) (hm:mapsRowed P=true) (fh:∀ {t e:TypeId},t<P.types.size->P.underlying t=some (.slice e)->0<P.cellsOf e) (Jr:∀t∈fn.params.toList,t<P.types.size)
  (y6:s.fn H (ds++gs)={ results:=[.lit (.bool true)],args:=ds })
  (hF:Qb P f aU (· = .bool true)) (N4:args.size=aU.length) (gA:∀(i:Nat)(x:PV),aU[i]? =some x->Q8 W Q5 x (args.getD i undef)):
  Calls P f args W fun e W'=>∃v,e= .returned v/\s.post enc P fn ap fresh handsOn AK W args v W':=by
 refine(hF.2 W Q5 args (fun _ h=>h.elim) N4 gA).mono ?_;rintro e W' ⟨v,r,rfl,hx,hr,rfl⟩;have hv:v= .bool true:=by cases hr;rfl
 subst hv;refine⟨_,rfl,?_⟩;have Ep:=hW;obtain⟨p,q,hA,hV,rfl,hz,hn⟩:=hW;rw[Fv]at hV;obtain⟨rfl,rfl⟩:=trodVars_none hV;simp only[Kak]at Ep hz hn;have ao:∀x∈p,x.block<W.heap.size:=fun x aX=>by simpa using Ep.lt x aX
 have Xm:∀sp:Nat->Bool,(∀x∈p,sp x.block=true)->DataW.TrodAll enc P W' 0 sp true fn.params.toList args.toList ds p:=fun sp hs=>VH hl hm fh hx sp Jr hA hs;have hR:∀(b:Nat)(sp:Nat->Bool)(hd:Bool),DataW.TrodAll enc P W' b sp hd fn.resultTypes.toList ((Value.bool true).resultList fn.resultTypes.size) [.lit (.bool true)] []:=fun b sp hd=>by rw[fq];exact trodAll_mk1 ⟨1,by simp[DataW.trod,Value.cells,htb]⟩
 have hold:∀x∈p,(fun b=>decide (b<W.heap.size)) x.block=true:=fun x aX=>by simpa using ao x aX
 refine⟨ds,[],p,[],p,[],Ep,?_,?_,?_,hx.keptBut _,fun _=>⟨?_,?_⟩⟩
 ·rw[y6];exact hR _ _ _
 ·rw[y6];simpa using Xm _ hold
 ·rw[y6,Fv];rfl
 ·exact RowKit.ok_one fq rfl (RowKit.okWide_bool_mk htb _)
 ·refine⟨[.lit (.bool true)]++ds,[],p,⟨[]++p,[],trodAll_append (Xm _ (fun _ _=>rfl)) (hR _ _ _),?_,by simp,?_,?_⟩,?_⟩
  ·rw[Fv];rfl
  ·intro b off hp;rw[hx.frozen (ao _ hp)];exact hz b off hp
  ·exact hn
  ·intro x aX _;exact aX
end
end Go.FW
namespace Go.FW
open Go
attribute [go_sem ↓] vcs awA
attribute [go_sem] awB awC awD awE amy agw agx amz amA amB amC agy agz ao9 apa Q7o agA aji aqo aqp aqq aqr aew Q7p List.drop_succ_cons List.drop_zero List.take_succ_cons List.take_zero List.headD_cons List.cons_append List.nil_append aev atq atp agB ajj ajk and_true List.length_cons List.length_nil amo amp amq B0 ai3 aeA aja ag2 agt agu agv ajb alR alS agM ajd aje ao2 alT aml amm R5 amn alN bs1 bs2 alP ai7 ai8 ai9 alQ Nat.add_zero TS aeB VW Int.toNat_natCast Nat.zero_add Option.map_some Option.map_none ao5 amv ao8 true_and RW agU aeq Qzs mu Lq Ht ajf Bool.and_true Bool.true_and Bool.and_false Bool.false_and decide_true decide_false List.contains_cons List.contains_nil Bool.or_false Bool.false_or Bool.or_true Bool.true_or List.any_cons List.any_nil Bool.false_eq_true cI.dst yc af5 uC Hr ai0 Bool.not_true Bool.not_false List.length_map List.map_cons List.map_nil ao7 Option.some.injEq iG List.getElem?_cons_zero List.getElem?_cons_succ Option.getD_some
attribute [go_sem] amh ami aiR aiS amj ahh apc Q37 amF Rq
theorem Dz0{p:Prop}(h:p:=by first|omega|rfl|(simp+decide only[go_sem]<;>rfl)|fail):p:=h
theorem Dz1{p A0:Prop}(x0:A0)(h:A0->p:=by intro x0;first|omega|rfl|(simp+decide only[go_sem,x0]<;>rfl)|fail):p:=h x0
theorem Dz2{p A0 A1:Prop}(x0:A0)(x1:A1)(h:A0->A1->p:=by intro x0 x1;first|omega|rfl|(simp+decide only[go_sem,x0,x1]<;>rfl)|fail):p:=h x0 x1
theorem Dz3{p A0 A1 A2:Prop}(x0:A0)(x1:A1)(x2:A2)(h:A0->A1->A2->p:=by intro x0 x1 x2;first|omega|rfl|(simp+decide only[go_sem,x0,x1,x2]<;>rfl)|fail):p:=h x0 x1 x2
theorem Dz4{p A0 A1 A2 A3:Prop}(x0:A0)(x1:A1)(x2:A2)(x3:A3)(h:A0->A1->A2->A3->p:=by intro x0 x1 x2 x3;first|omega|rfl|(simp+decide only[go_sem,x0,x1,x2,x3]<;>rfl)|fail):p:=h x0 x1 x2 x3
theorem Dz5{p A0 A1 A2 A3 A4:Prop}(x0:A0)(x1:A1)(x2:A2)(x3:A3)(x4:A4)(h:A0->A1->A2->A3->A4->p:=by intro x0 x1 x2 x3 x4;first|omega|rfl|(simp+decide only[go_sem,x0,x1,x2,x3,x4]<;>rfl)|fail):p:=h x0 x1 x2 x3 x4
theorem Dz6{p A0 A1 A2 A3 A4 A5:Prop}(x0:A0)(x1:A1)(x2:A2)(x3:A3)(x4:A4)(x5:A5)(h:A0->A1->A2->A3->A4->A5->p:=by intro x0 x1 x2 x3 x4 x5;first|omega|rfl|(simp+decide only[go_sem,x0,x1,x2,x3,x4,x5]<;>rfl)|fail):p:=h x0 x1 x2 x3 x4 x5
theorem Dz7{p A0 A1 A2 A3 A4 A5 A6:Prop}(x0:A0)(x1:A1)(x2:A2)(x3:A3)(x4:A4)(x5:A5)(x6:A6)(h:A0->A1->A2->A3->A4->A5->A6->p:=by intro x0 x1 x2 x3 x4 x5 x6;first|omega|rfl|(simp+decide only[go_sem,x0,x1,x2,x3,x4,x5,x6]<;>rfl)|fail):p:=h x0 x1 x2 x3 x4 x5 x6
theorem Dz8{p A0 A1 A2 A3 A4 A5 A6 A7:Prop}(x0:A0)(x1:A1)(x2:A2)(x3:A3)(x4:A4)(x5:A5)(x6:A6)(x7:A7)(h:A0->A1->A2->A3->A4->A5->A6->A7->p:=by intro x0 x1 x2 x3 x4 x5 x6 x7;first|omega|rfl|(simp+decide only[go_sem,x0,x1,x2,x3,x4,x5,x6,x7]<;>rfl)|fail):p:=h x0 x1 x2 x3 x4 x5 x6 x7
theorem Dz9{p A0 A1 A2 A3 A4 A5 A6 A7 A8:Prop}(x0:A0)(x1:A1)(x2:A2)(x3:A3)(x4:A4)(x5:A5)(x6:A6)(x7:A7)(x8:A8)(h:A0->A1->A2->A3->A4->A5->A6->A7->A8->p:=by intro x0 x1 x2 x3 x4 x5 x6 x7 x8;first|omega|rfl|(simp+decide only[go_sem,x0,x1,x2,x3,x4,x5,x6,x7,x8]<;>rfl)|fail):p:=h x0 x1 x2 x3 x4 x5 x6 x7 x8
theorem Dz10{p A0 A1 A2 A3 A4 A5 A6 A7 A8 A9:Prop}(x0:A0)(x1:A1)(x2:A2)(x3:A3)(x4:A4)(x5:A5)(x6:A6)(x7:A7)(x8:A8)(x9:A9)(h:A0->A1->A2->A3->A4->A5->A6->A7->A8->A9->p:=by intro x0 x1 x2 x3 x4 x5 x6 x7 x8 x9;first|omega|rfl|(simp+decide only[go_sem,x0,x1,x2,x3,x4,x5,x6,x7,x8,x9]<;>rfl)|fail):p:=h x0 x1 x2 x3 x4 x5 x6 x7 x8 x9
theorem Dz11{p A0 A1 A2 A3 A4 A5 A6 A7 A8 A9 fk:Prop}(x0:A0)(x1:A1)(x2:A2)(x3:A3)(x4:A4)(x5:A5)(x6:A6)(x7:A7)(x8:A8)(x9:A9)(cU:fk)(h:A0->A1->A2->A3->A4->A5->A6->A7->A8->A9->fk->p:=by intro x0 x1 x2 x3 x4 x5 x6 x7 x8 x9 cU;first|omega|rfl|(simp+decide only[go_sem,x0,x1,x2,x3,x4,x5,x6,x7,x8,x9,cU]<;>rfl)|fail):p:=h x0 x1 x2 x3 x4 x5 x6 x7 x8 x9 cU
theorem Dz12{p A0 A1 A2 A3 A4 A5 A6 A7 A8 A9 fk iB:Prop}(x0:A0)(x1:A1)(x2:A2)(x3:A3)(x4:A4)(x5:A5)(x6:A6)(x7:A7)(x8:A8)(x9:A9)(cU:fk)(eO:iB)(h:A0->A1->A2->A3->A4->A5->A6->A7->A8->A9->fk->iB->p:=by intro x0 x1 x2 x3 x4 x5 x6 x7 x8 x9 cU eO;first|omega|rfl|(simp+decide only[go_sem,x0,x1,x2,x3,x4,x5,x6,x7,x8,x9,cU,eO]<;>rfl)|fail):p:=h x0 x1 x2 x3 x4 x5 x6 x7 x8 x9 cU eO
theorem Dz13{p A0 A1 A2 A3 A4 A5 A6 A7 A8 A9 fk iB lO:Prop}(x0:A0)(x1:A1)(x2:A2)(x3:A3)(x4:A4)(x5:A5)(x6:A6)(x7:A7)(x8:A8)(x9:A9)(cU:fk)(eO:iB)(gD:lO)(h:A0->A1->A2->A3->A4->A5->A6->A7->A8->A9->fk->iB->lO->p:=by intro x0 x1 x2 x3 x4 x5 x6 x7 x8 x9 cU eO gD;first|omega|rfl|(simp+decide only[go_sem,x0,x1,x2,x3,x4,x5,x6,x7,x8,x9,cU,eO,gD]<;>rfl)|fail):p:=h x0 x1 x2 x3 x4 x5 x6 x7 x8 x9 cU eO gD
theorem Dz14{p A0 A1 A2 A3 A4 A5 A6 A7 A8 A9 fk iB lO vW:Prop}(x0:A0)(x1:A1)(x2:A2)(x3:A3)(x4:A4)(x5:A5)(x6:A6)(x7:A7)(x8:A8)(x9:A9)(cU:fk)(eO:iB)(gD:lO)(qu:vW)(h:A0->A1->A2->A3->A4->A5->A6->A7->A8->A9->fk->iB->lO->vW->p:=by intro x0 x1 x2 x3 x4 x5 x6 x7 x8 x9 cU eO gD qu;first|omega|rfl|(simp+decide only[go_sem,x0,x1,x2,x3,x4,x5,x6,x7,x8,x9,cU,eO,gD,qu]<;>rfl)|fail):p:=h x0 x1 x2 x3 x4 x5 x6 x7 x8 x9 cU eO gD qu
theorem Sz0{p q:Prop}(h:q)(e:p=q:=by conv=>lhs;simp+decide (disch:=try exact Dz0) only[go_sem]):p:=e▸h
theorem Tz0{p:Prop}(h:p:=by simp+decide (disch:=try exact Dz0) only[go_sem]):p:=h
theorem a9{p:Prop}(h:p:=by simp+decide (disch:=try exact Dz0) only[go_sem]<;>rfl):p:=h
theorem Sz1{p q A0:Prop}(x0:A0)(h:q)(e:A0->p=q:=by intro x0;conv=>lhs;simp+decide (disch:=try exact Dz1 @x0) only[go_sem,x0]):p:=(e x0)▸h
theorem Tz1{p A0:Prop}(x0:A0)(h:A0->p:=by intro x0;simp+decide (disch:=try exact Dz1 @x0) only[go_sem,x0]):p:=h x0
theorem mE{p A0:Prop}(x0:A0)(h:A0->p:=by intro x0;simp+decide (disch:=try exact Dz1 @x0) only[go_sem,x0]<;>rfl):p:=h x0
theorem Sz2{p q A0 A1:Prop}(x0:A0)(x1:A1)(h:q)(e:A0->A1->p=q:=by intro x0 x1;conv=>lhs;simp+decide (disch:=try exact Dz2 @x0 @x1) only[go_sem,x0,x1]):p:=(e x0 x1)▸h
theorem Tz2{p A0 A1:Prop}(x0:A0)(x1:A1)(h:A0->A1->p:=by intro x0 x1;simp+decide (disch:=try exact Dz2 @x0 @x1) only[go_sem,x0,x1]):p:=h x0 x1
theorem Sz3{p q A0 A1 A2:Prop}(x0:A0)(x1:A1)(x2:A2)(h:q)(e:A0->A1->A2->p=q:=by intro x0 x1 x2;conv=>lhs;simp+decide (disch:=try exact Dz3 @x0 @x1 @x2) only[go_sem,x0,x1,x2]):p:=(e x0 x1 x2)▸h
theorem Tz3{p A0 A1 A2:Prop}(x0:A0)(x1:A1)(x2:A2)(h:A0->A1->A2->p:=by intro x0 x1 x2;simp+decide (disch:=try exact Dz3 @x0 @x1 @x2) only[go_sem,x0,x1,x2]):p:=h x0 x1 x2
theorem Sz4{p q A0 A1 A2 A3:Prop}(x0:A0)(x1:A1)(x2:A2)(x3:A3)(h:q)(e:A0->A1->A2->A3->p=q:=by intro x0 x1 x2 x3;conv=>lhs;simp+decide (disch:=try exact Dz4 @x0 @x1 @x2 @x3) only[go_sem,x0,x1,x2,x3]):p:=(e x0 x1 x2 x3)▸h
theorem Tz4{p A0 A1 A2 A3:Prop}(x0:A0)(x1:A1)(x2:A2)(x3:A3)(h:A0->A1->A2->A3->p:=by intro x0 x1 x2 x3;simp+decide (disch:=try exact Dz4 @x0 @x1 @x2 @x3) only[go_sem,x0,x1,x2,x3]):p:=h x0 x1 x2 x3
theorem Sz5{p q A0 A1 A2 A3 A4:Prop}(x0:A0)(x1:A1)(x2:A2)(x3:A3)(x4:A4)(h:q)(e:A0->A1->A2->A3->A4->p=q:=by intro x0 x1 x2 x3 x4;conv=>lhs;simp+decide (disch:=try exact Dz5 @x0 @x1 @x2 @x3 @x4) only[go_sem,x0,x1,x2,x3,x4]):p:=(e x0 x1 x2 x3 x4)▸h
theorem Tz5{p A0 A1 A2 A3 A4:Prop}(x0:A0)(x1:A1)(x2:A2)(x3:A3)(x4:A4)(h:A0->A1->A2->A3->A4->p:=by intro x0 x1 x2 x3 x4;simp+decide (disch:=try exact Dz5 @x0 @x1 @x2 @x3 @x4) only[go_sem,x0,x1,x2,x3,x4]):p:=h x0 x1 x2 x3 x4
theorem Sz6{p q A0 A1 A2 A3 A4 A5:Prop}(x0:A0)(x1:A1)(x2:A2)(x3:A3)(x4:A4)(x5:A5)(h:q)(e:A0->A1->A2->A3->A4->A5->p=q:=by intro x0 x1 x2 x3 x4 x5;conv=>lhs;simp+decide (disch:=try exact Dz6 @x0 @x1 @x2 @x3 @x4 @x5) only[go_sem,x0,x1,x2,x3,x4,x5]):p:=(e x0 x1 x2 x3 x4 x5)▸h
theorem Sz7{p q A0 A1 A2 A3 A4 A5 A6:Prop}(x0:A0)(x1:A1)(x2:A2)(x3:A3)(x4:A4)(x5:A5)(x6:A6)(h:q)(e:A0->A1->A2->A3->A4->A5->A6->p=q:=by intro x0 x1 x2 x3 x4 x5 x6;conv=>lhs;simp+decide (disch:=try exact Dz7 @x0 @x1 @x2 @x3 @x4 @x5 @x6) only[go_sem,x0,x1,x2,x3,x4,x5,x6]):p:=(e x0 x1 x2 x3 x4 x5 x6)▸h
theorem Tz7{p A0 A1 A2 A3 A4 A5 A6:Prop}(x0:A0)(x1:A1)(x2:A2)(x3:A3)(x4:A4)(x5:A5)(x6:A6)(h:A0->A1->A2->A3->A4->A5->A6->p:=by intro x0 x1 x2 x3 x4 x5 x6;simp+decide (disch:=try exact Dz7 @x0 @x1 @x2 @x3 @x4 @x5 @x6) only[go_sem,x0,x1,x2,x3,x4,x5,x6]):p:=h x0 x1 x2 x3 x4 x5 x6
theorem Sz8{p q A0 A1 A2 A3 A4 A5 A6 A7:Prop}(x0:A0)(x1:A1)(x2:A2)(x3:A3)(x4:A4)(x5:A5)(x6:A6)(x7:A7)(h:q)(e:A0->A1->A2->A3->A4->A5->A6->A7->p=q:=by intro x0 x1 x2 x3 x4 x5 x6 x7;conv=>lhs;simp+decide (disch:=try exact Dz8 @x0 @x1 @x2 @x3 @x4 @x5 @x6 @x7) only[go_sem,x0,x1,x2,x3,x4,x5,x6,x7]):p:=(e x0 x1 x2 x3 x4 x5 x6 x7)▸h
theorem Sz9{p q A0 A1 A2 A3 A4 A5 A6 A7 A8:Prop}(x0:A0)(x1:A1)(x2:A2)(x3:A3)(x4:A4)(x5:A5)(x6:A6)(x7:A7)(x8:A8)(h:q)(e:A0->A1->A2->A3->A4->A5->A6->A7->A8->p=q:=by intro x0 x1 x2 x3 x4 x5 x6 x7 x8;conv=>lhs;simp+decide (disch:=try exact Dz9 @x0 @x1 @x2 @x3 @x4 @x5 @x6 @x7 @x8) only[go_sem,x0,x1,x2,x3,x4,x5,x6,x7,x8]):p:=(e x0 x1 x2 x3 x4 x5 x6 x7 x8)▸h
theorem AZ{p q A0 A1 A2 A3 A4 A5 A6 A7 A8 A9:Prop}(x0:A0)(x1:A1)(x2:A2)(x3:A3)(x4:A4)(x5:A5)(x6:A6)(x7:A7)(x8:A8)(x9:A9)(h:q)(e:A0->A1->A2->A3->A4->A5->A6->A7->A8->A9->p=q:=by intro x0 x1 x2 x3 x4 x5 x6 x7 x8 x9;conv=>lhs;simp+decide (disch:=try exact Dz10 @x0 @x1 @x2 @x3 @x4 @x5 @x6 @x7 @x8 @x9) only[go_sem,x0,x1,x2,x3,x4,x5,x6,x7,x8,x9]):p:=(e x0 x1 x2 x3 x4 x5 x6 x7 x8 x9)▸h
theorem Tz10{p A0 A1 A2 A3 A4 A5 A6 A7 A8 A9:Prop}(x0:A0)(x1:A1)(x2:A2)(x3:A3)(x4:A4)(x5:A5)(x6:A6)(x7:A7)(x8:A8)(x9:A9)(h:A0->A1->A2->A3->A4->A5->A6->A7->A8->A9->p:=by intro x0 x1 x2 x3 x4 x5 x6 x7 x8 x9;simp+decide (disch:=try exact Dz10 @x0 @x1 @x2 @x3 @x4 @x5 @x6 @x7 @x8 @x9) only[go_sem,x0,x1,x2,x3,x4,x5,x6,x7,x8,x9]):p:=h x0 x1 x2 x3 x4 x5 x6 x7 x8 x9
theorem Cb{p q A0 A1 A2 A3 A4 A5 A6 A7 A8 A9 fk:Prop}(x0:A0)(x1:A1)(x2:A2)(x3:A3)(x4:A4)(x5:A5)(x6:A6)(x7:A7)(x8:A8)(x9:A9)(cU:fk)(h:q)(e:A0->A1->A2->A3->A4->A5->A6->A7->A8->A9->fk->p=q:=by intro x0 x1 x2 x3 x4 x5 x6 x7 x8 x9 cU;conv=>lhs;simp+decide (disch:=try exact Dz11 @x0 @x1 @x2 @x3 @x4 @x5 @x6 @x7 @x8 @x9 @cU) only[go_sem,x0,x1,x2,x3,x4,x5,x6,x7,x8,x9,cU]):p:=(e x0 x1 x2 x3 x4 x5 x6 x7 x8 x9 cU)▸h
theorem Tz11{p A0 A1 A2 A3 A4 A5 A6 A7 A8 A9 fk:Prop}(x0:A0)(x1:A1)(x2:A2)(x3:A3)(x4:A4)(x5:A5)(x6:A6)(x7:A7)(x8:A8)(x9:A9)(cU:fk)(h:A0->A1->A2->A3->A4->A5->A6->A7->A8->A9->fk->p:=by intro x0 x1 x2 x3 x4 x5 x6 x7 x8 x9 cU;simp+decide (disch:=try exact Dz11 @x0 @x1 @x2 @x3 @x4 @x5 @x6 @x7 @x8 @x9 @cU) only[go_sem,x0,x1,x2,x3,x4,x5,x6,x7,x8,x9,cU]):p:=h x0 x1 x2 x3 x4 x5 x6 x7 x8 x9 cU
theorem yB{p q A0 A1 A2 A3 A4 A5 A6 A7 A8 A9 fk iB:Prop}(x0:A0)(x1:A1)(x2:A2)(x3:A3)(x4:A4)(x5:A5)(x6:A6)(x7:A7)(x8:A8)(x9:A9)(cU:fk)(eO:iB)(h:q)(e:A0->A1->A2->A3->A4->A5->A6->A7->A8->A9->fk->iB->p=q:=by intro x0 x1 x2 x3 x4 x5 x6 x7 x8 x9 cU eO;conv=>lhs;simp+decide (disch:=try exact Dz12 @x0 @x1 @x2 @x3 @x4 @x5 @x6 @x7 @x8 @x9 @cU @eO) only[go_sem,x0,x1,x2,x3,x4,x5,x6,x7,x8,x9,cU,eO]):p:=(e x0 x1 x2 x3 x4 x5 x6 x7 x8 x9 cU eO)▸h
theorem Sz13{p q A0 A1 A2 A3 A4 A5 A6 A7 A8 A9 fk iB lO:Prop}(x0:A0)(x1:A1)(x2:A2)(x3:A3)(x4:A4)(x5:A5)(x6:A6)(x7:A7)(x8:A8)(x9:A9)(cU:fk)(eO:iB)(gD:lO)(h:q)(e:A0->A1->A2->A3->A4->A5->A6->A7->A8->A9->fk->iB->lO->p=q:=by intro x0 x1 x2 x3 x4 x5 x6 x7 x8 x9 cU eO gD;conv=>lhs;simp+decide (disch:=try exact Dz13 @x0 @x1 @x2 @x3 @x4 @x5 @x6 @x7 @x8 @x9 @cU @eO @gD) only[go_sem,x0,x1,x2,x3,x4,x5,x6,x7,x8,x9,cU,eO,gD]):p:=(e x0 x1 x2 x3 x4 x5 x6 x7 x8 x9 cU eO gD)▸h
theorem Tz13{p A0 A1 A2 A3 A4 A5 A6 A7 A8 A9 fk iB lO:Prop}(x0:A0)(x1:A1)(x2:A2)(x3:A3)(x4:A4)(x5:A5)(x6:A6)(x7:A7)(x8:A8)(x9:A9)(cU:fk)(eO:iB)(gD:lO)(h:A0->A1->A2->A3->A4->A5->A6->A7->A8->A9->fk->iB->lO->p:=by intro x0 x1 x2 x3 x4 x5 x6 x7 x8 x9 cU eO gD;simp+decide (disch:=try exact Dz13 @x0 @x1 @x2 @x3 @x4 @x5 @x6 @x7 @x8 @x9 @cU @eO @gD) only[go_sem,x0,x1,x2,x3,x4,x5,x6,x7,x8,x9,cU,eO,gD]):p:=h x0 x1 x2 x3 x4 x5 x6 x7 x8 x9 cU eO gD
theorem Sz14{p q A0 A1 A2 A3 A4 A5 A6 A7 A8 A9 fk iB lO vW:Prop}(x0:A0)(x1:A1)(x2:A2)(x3:A3)(x4:A4)(x5:A5)(x6:A6)(x7:A7)(x8:A8)(x9:A9)(cU:fk)(eO:iB)(gD:lO)(qu:vW)(h:q)(e:A0->A1->A2->A3->A4->A5->A6->A7->A8->A9->fk->iB->lO->vW->p=q:=by intro x0 x1 x2 x3 x4 x5 x6 x7 x8 x9 cU eO gD qu;conv=>lhs;simp+decide (disch:=try exact Dz14 @x0 @x1 @x2 @x3 @x4 @x5 @x6 @x7 @x8 @x9 @cU @eO @gD @qu) only[go_sem,x0,x1,x2,x3,x4,x5,x6,x7,x8,x9,cU,eO,gD,qu]):p:=(e x0 x1 x2 x3 x4 x5 x6 x7 x8 x9 cU eO gD qu)▸h
theorem Tz14{p A0 A1 A2 A3 A4 A5 A6 A7 A8 A9 fk iB lO vW:Prop}(x0:A0)(x1:A1)(x2:A2)(x3:A3)(x4:A4)(x5:A5)(x6:A6)(x7:A7)(x8:A8)(x9:A9)(cU:fk)(eO:iB)(gD:lO)(qu:vW)(h:A0->A1->A2->A3->A4->A5->A6->A7->A8->A9->fk->iB->lO->vW->p:=by intro x0 x1 x2 x3 x4 x5 x6 x7 x8 x9 cU eO gD qu;simp+decide (disch:=try exact Dz14 @x0 @x1 @x2 @x3 @x4 @x5 @x6 @x7 @x8 @x9 @cU @eO @gD @qu) only[go_sem,x0,x1,x2,x3,x4,x5,x6,x7,x8,x9,cU,eO,gD,qu]):p:=h x0 x1 x2 x3 x4 x5 x6 x7 x8 x9 cU eO gD qu
theorem Ez0{p:Prop}(h:p:=by first|omega|rfl|(simp+decide only[go_sem,il,KaK,KaT,KaC,KaN,Kak]<;>rfl)|fail):p:=h
theorem Ez1{p A0:Prop}(x0:A0)(h:A0->p:=by intro x0;first|omega|rfl|(simp+decide only[go_sem,il,KaK,KaT,KaC,KaN,Kak,x0]<;>rfl)|fail):p:=h x0
theorem Ez2{p A0 A1:Prop}(x0:A0)(x1:A1)(h:A0->A1->p:=by intro x0 x1;first|omega|rfl|(simp+decide only[go_sem,il,KaK,KaT,KaC,KaN,Kak,x0,x1]<;>rfl)|fail):p:=h x0 x1
theorem Ez3{p A0 A1 A2:Prop}(x0:A0)(x1:A1)(x2:A2)(h:A0->A1->A2->p:=by intro x0 x1 x2;first|omega|rfl|(simp+decide only[go_sem,il,KaK,KaT,KaC,KaN,Kak,x0,x1,x2]<;>rfl)|fail):p:=h x0 x1 x2
theorem Ez4{p A0 A1 A2 A3:Prop}(x0:A0)(x1:A1)(x2:A2)(x3:A3)(h:A0->A1->A2->A3->p:=by intro x0 x1 x2 x3;first|omega|rfl|(simp+decide only[go_sem,il,KaK,KaT,KaC,KaN,Kak,x0,x1,x2,x3]<;>rfl)|fail):p:=h x0 x1 x2 x3
theorem aY{p q:Prop}(h:q)(e:p=q:=by conv=>lhs;simp+decide (disch:=try exact Ez0) only[go_sem,il,KaK,KaT,KaC,KaN,Kak]):p:=e▸h
theorem pO{p:Prop}(h:p:=by simp+decide (disch:=try exact Ez0) only[go_sem,il,KaK,KaT,KaC,KaN,Kak]):p:=h
theorem rU{p:Prop}(h:p:=by simp+decide (disch:=try exact Ez0) only[go_sem,il,KaK,KaT,KaC,KaN,Kak]<;>rfl):p:=h
theorem WK{p q A0:Prop}(x0:A0)(h:q)(e:A0->p=q:=by intro x0;conv=>lhs;simp+decide (disch:=try exact Ez1 @x0) only[go_sem,il,KaK,KaT,KaC,KaN,Kak,x0]):p:=(e x0)▸h
theorem DM{p q A0 A1:Prop}(x0:A0)(x1:A1)(h:q)(e:A0->A1->p=q:=by intro x0 x1;conv=>lhs;simp+decide (disch:=try exact Ez2 @x0 @x1) only[go_sem,il,KaK,KaT,KaC,KaN,Kak,x0,x1]):p:=(e x0 x1)▸h
theorem IB{p q A0 A1 A2:Prop}(x0:A0)(x1:A1)(x2:A2)(h:q)(e:A0->A1->A2->p=q:=by intro x0 x1 x2;conv=>lhs;simp+decide (disch:=try exact Ez3 @x0 @x1 @x2) only[go_sem,il,KaK,KaT,KaC,KaN,Kak,x0,x1,x2]):p:=(e x0 x1 x2)▸h
theorem Uz3{p A0 A1 A2:Prop}(x0:A0)(x1:A1)(x2:A2)(h:A0->A1->A2->p:=by intro x0 x1 x2;simp+decide (disch:=try exact Ez3 @x0 @x1 @x2) only[go_sem,il,KaK,KaT,KaC,KaN,Kak,x0,x1,x2]):p:=h x0 x1 x2
theorem Vz4{p q A0 A1 A2 A3:Prop}(x0:A0)(x1:A1)(x2:A2)(x3:A3)(h:q)(e:A0->A1->A2->A3->p=q:=by intro x0 x1 x2 x3;conv=>lhs;simp+decide (disch:=try exact Ez4 @x0 @x1 @x2 @x3) only[go_sem,il,KaK,KaT,KaC,KaN,Kak,x0,x1,x2,x3]):p:=(e x0 x1 x2 x3)▸h
theorem WJ{p A0 A1 A2 A3:Prop}(x0:A0)(x1:A1)(x2:A2)(x3:A3)(h:A0->A1->A2->A3->p:=by intro x0 x1 x2 x3;simp+decide (disch:=try exact Ez4 @x0 @x1 @x2 @x3) only[go_sem,il,KaK,KaT,KaC,KaN,Kak,x0,x1,x2,x3]<;>rfl):p:=h x0 x1 x2 x3
variable {C : Ctx} {fr : Fr} {hp : HP} {R : Qg}
end Go.FW
namespace Go.FW
open Go
variable {C : Ctx} {ρ : Nat -> Option Nat} {fr aC : Fr} {hp : HP} {w : World} {K R : Qg}
theorem cZ.known{p:PV}{v:Value}(h:cZ C ρ hp w p v):∀γ∈p.dO,hp γ≠none:=by
 intro γ ah;cases p with
 |ax O o n=>simp[PV.dO]at ah;subst ah;obtain⟨_,hb,h1,_⟩:=h;simp[h1]
 |aL O o n=>simp[PV.dO]at ah;subst ah;obtain⟨_,hb,b,cap,h1,_⟩:=h;simp[h1]
 |np O o n=>cases h
 |_=>cases ah
theorem dp.known{p:PV}{v:Value}(h:dp C ρ hp w p v):(∀γ∈p.bS,hp γ≠none)/\∀γ∈p.fa,hp γ≠none:=by
 cases p with
 |mp O i o=>obtain⟨b,hb,h1,h2,_⟩:=h;simp[PV.bS,PV.fa,h2]
 |ax O o n=>obtain⟨hb,h1,_⟩:=h;simp[PV.bS,PV.fa,h1]
 |rb O o n=>obtain⟨b,u,_,_,_,_,hb,h1,_⟩:=h;simp[PV.bS,PV.fa,h1]
 |np γ i o=>obtain⟨_,b,hb,h1,h2,_⟩:=h;simp[PV.bS,PV.fa,h2]
 |aL γ o n=>obtain⟨_,hb,b,cap,h1,_⟩:=h;simp[PV.bS,PV.fa,h1]
 |_=>exact⟨(fun γ ah=>by cases ah),(fun γ ah=>by cases ah)⟩
theorem Qk.known{p:PV}{v:Value}(h:Qk C ρ hp w p v):(∀γ∈p.refs,hp γ≠none)/\∀γ∈p.aV,hp γ≠none:=by
 cases p with
 |mp O i o=>obtain⟨b,hb,h1,h2,_⟩:=h;simp[PV.refs,PV.aV,h2]
 |ax O o n=>obtain⟨hb,h1,_⟩:=h;simp[PV.refs,PV.aV,h1]
 |rb O o n=>obtain⟨b,u,_,_,_,_,hb,h1,_⟩:=h;simp[PV.refs,PV.aV,h1]
 |np γ i o=>obtain⟨_,b,hb,h1,h2,_⟩:=h;simp[PV.refs,PV.aV,h2]
 |aL γ o n=>obtain⟨_,hb,b,cap,h1,_⟩:=h;simp[PV.refs,PV.aV,h1]
 |aP cs=>obtain⟨vs,_,_,h2⟩:=h;refine⟨fun γ ah=>(by cases ah),fun γ ah=>?_⟩;obtain⟨x,hx,ah⟩:=Kaq.1 ah;obtain⟨i,hi⟩:=KaF hx;exact(h2 i x hi).known γ ah
 |fb cs=>obtain⟨vs,_,_,h2⟩:=h;refine⟨fun γ ah=>(by cases ah),fun γ ah=>?_⟩;obtain⟨x,hx,ah⟩:=Kaq.1 ah;obtain⟨i,hi⟩:=KaF hx;exact(h2 i x hi).known γ ah
 |dx cs q=>obtain⟨vs,u,_,_,h2,_⟩:=h;refine⟨fun γ ah=>(by cases ah),fun γ ah=>?_⟩;obtain⟨x,hx,ah⟩:=Kaq.1 ah;obtain⟨i,hi⟩:=KaF hx;exact(h2 i x hi).known γ ah
 | aJ O e ty xs=>
  obtain⟨_,_,b,hb,cur,cap,_,g2,_,_,_,_,_,_,_,_,nG⟩:=h;refine⟨fun γ ah=>(by cases ah),fun γ ah=>?_⟩;rcases KaH.1 ah with rfl|ah
  ·simp[g2]
  ·obtain⟨x,hx,ah⟩:=Kaq.1 ah;obtain⟨y,hy,ah⟩:=Kaq.1 ah;obtain⟨i,hi⟩:=KaF hx;obtain⟨j,hj⟩:=KaF hy;exact(nG i x hi j y hj).known γ ah
 | fn f first cap=>
  obtain⟨fv,cv,_,_,_,h3,h4⟩:=h;have g:∀(l:List PV)(u:Array Value),(∀(i:Nat)(x:PV),l[i]? =some x->dp C ρ hp w x (u.getD i undef))->(∀γ∈l.flatMap PV.bS,hp γ≠none)/\∀γ∈l.flatMap PV.fa,hp γ≠none:=by
   intro l u hl;refine⟨fun γ ah=>?_,fun γ ah=>?_⟩<;>
   ·obtain⟨x,hx,ah⟩:=Kaq.1 ah;obtain⟨i,hi⟩:=KaF hx
    first|exact(hl i x hi).known.1 γ ah|exact(hl i x hi).known.2 γ ah
  refine⟨fun γ ah=>?_,fun γ ah=>?_⟩
  ·rcases KaS.1 ah with ah|ah
   ·exact(g first fv h3).1 γ ah
   ·exact(g cap cv h4).1 γ ah
  ·rcases KaS.1 ah with ah|ah
   ·exact(g first fv h3).2 γ ah
   ·exact(g cap cv h4).2 γ ah
 |_=>exact⟨(fun γ ah=>by cases ah),(fun γ ah=>by cases ah)⟩
def lL(O:Nat):Bool:=decide (2000000<=O)
def mY(O:Nat):Bool:=lL O||decide (O<1000000)
theorem apd{O:Nat}(h:mY O=false):lL O=false:=by simp[mY]at h;exact h.1
def lz:PV->PV
 |.aJ _ _ _ _| .aP _| .fb _| .dx _ _=>.undef
 |p=>if p.refs.any lL||p.aV.any mY then .undef else p
def yC(F:Fr):Fr:=fun s=>lz (F s)
def vX(p:PV):Prop:=(∀O∈p.refs,lL O=false)/\(∀O∈p.aV,mY O=false)/\(∀γ e ty xs,p≠ .aJ γ e ty xs)/\∀cs,p≠ .aP cs/\p≠ .fb cs/\∀q,p≠ .dx cs q
theorem ahj(p:PV):vX (lz p):=by
 have h0:vX .undef:=⟨(fun O h=>by cases h),(fun O h=>by cases h),(fun _ _ _ _ h=>by cases h),(fun _=>⟨(fun h=>by cases h),(fun h=>by cases h),fun _ h=>by cases h⟩)⟩
 unfold lz;split
 ·exact h0
 ·exact h0
 ·exact h0
 ·exact h0
 ·rename_i hn Ff hn3 NN;split
  ·exact h0
  ·rename_i h;simp only[KbE,not_or,Bool.not_eq_true,KcI]at h;exact⟨fun O aj=>by simpa using h.1 O aj,fun O aj=>by simpa using h.2 O aj,fun γ e ty xs=>hn γ e ty xs,fun cs=>⟨Ff cs,hn3 cs,NN cs⟩⟩
theorem vX.kill{p:PV}(h:vX p){B:List Nat}:vX (if p.refs.any B.contains then .undef else p):=by
 split
 ·exact⟨(fun O h=>by cases h),(fun O h=>by cases h),(fun _ _ _ _ h=>by cases h),(fun _=>⟨(fun h=>by cases h),(fun h=>by cases h),fun _ h=>by cases h⟩)⟩
 ·exact h
theorem VI{O:Nat}{p:PV}(h:∀γ∈p.refs,γ≠O):bU O p=p:=by unfold bU;rw[if_neg];intro hc;exact h O (by simpa using hc) rfl
theorem Lt{O:Nat}{p:PV}(h:∀γ∈p.dO,γ≠O):iV O p=p:=by
 cases p with
 |ax γ o n=>simp only[iV];rw[if_neg (h γ (by simp[PV.dO]))]
 |aL γ o n=>simp only[iV];rw[if_neg (h γ (by simp[PV.dO]))]
 |_=>rfl
theorem ae0{O:Nat}{p:PV}(h:∀γ∈p.refs,γ≠O)(h2:∀γ∈p.aV,γ≠O)(h3:∀γ e ty xs,p≠ .aJ γ e ty xs):dC O p=p:=by
 cases p with
 |aJ γ e ty xs=>exact absurd rfl (h3 _ _ _ _)
 |aP cs=>
  simp only[dC];congr 1;conv=>rhs;rw[<-List.map_id cs]
  exact KaX fun x hx=>Lt fun γ ah=>h2 γ (Kaq.2 ⟨x,hx,ah⟩)
 |fb cs=>
  simp only[dC];congr 1;conv=>rhs;rw[<-List.map_id cs]
  exact KaX fun x hx=>Lt fun γ ah=>h2 γ (Kaq.2 ⟨x,hx,ah⟩)
 |dx cs q=>
  simp only[dC];congr 1;conv=>rhs;rw[<-List.map_id cs]
  exact KaX fun x hx=>Lt fun γ ah=>h2 γ (Kaq.2 ⟨x,hx,ah⟩)
 |aL γ o n=>simp only[dC];rw[if_neg (h2 γ (by simp[PV.aV]))]
 |np γ i o=>simp only[dC];rw[if_neg (h2 γ (by simp[PV.aV]))]
 |fn f first cap=>simp only[dC];rw[if_neg,VI h];intro hc;exact h2 O (by simpa[PV.aV]using hc) rfl
 |_=>exact VI h
theorem Sh{O γ:Nat}(h:2000000<=O)(h2:lL γ=false):γ≠O:=by simp[lL]at h2;omega
abbrev eH(B:List Nat)(F:Fr):Fr:=Q7 B (yC F)
theorem Df(B:List Nat)(F:Fr)(s:Nat):vX (eH B F s):=(ahj (F s)).kill
theorem VJ{O:Nat}{B:List Nat}{F:Fr}(h:2000000<=O):gi O (eH B F)=eH B F:=by funext s;have hc:=Df B F s;exact ae0 (fun γ ah=>Sh h (hc.1 γ ah)) (fun γ ah=>Sh h (apd (hc.2.1 γ ah))) hc.2.2.1
theorem VK{γ:Nat}{B:List Nat}{F:Fr}:jv γ (eH B F)=eH B F:=by
 funext s;have hc:=Df B F s;show jT γ (eH B F s)=_;generalize eH B F s=p at *
 cases p with
 |aJ bj e ty xs=>exact absurd rfl (hc.2.2.1 _ _ _ _)
 |_=>rfl
theorem ae1{W:List (Nat×Nat)}{O:Nat}{J F:Fr}:gi O (bu W J F)=bu W (gi O J) (gi O F):=by funext s;unfold gi bu;split<;>rfl
theorem ae2{W:List (Nat×Nat)}{O:Nat}{J F:Fr}:jv O (bu W J F)=bu W (jv O J) (jv O F):=by funext s;unfold jv bu;split<;>rfl
theorem ae3{O d:Nat}{F:Fr}{v:PV}:gi O (ae F d v)=ae (gi O F) d (dC O v):=by funext s;unfold gi ae;split<;>rfl
theorem ae4{O d:Nat}{F:Fr}{v:PV}:jv O (ae F d v)=ae (jv O F) d (jT O v):=by funext s;unfold jv ae;split<;>rfl
theorem ahk{O:Nat}{F:Fr}{s:Nat}:gi O F s=dC O (F s):=rfl
theorem ahl{O:Nat}{F:Fr}{s:Nat}:jv O F s=jT O (F s):=rfl
theorem Ru(W:List (Nat×Nat))(B:List Nat):cA fr (bu W fr (eH B fr)):=fun s=>by
 unfold bu eH Q7;split
 ·exact .inl rfl
 ·split
  ·exact .inr rfl
  ·unfold yC lz;split
   ·exact .inr rfl
   ·exact .inr rfl
   ·exact .inr rfl
   ·exact .inr rfl
   ·split
    ·exact .inr rfl
    ·exact .inl rfl
theorem HC{sk:List It}{x:SC}(bd:fC R sk)(W:List (Nat×Nat))(B:List Nat)(I:Nat->Fr->HP->Prop)(m0:Nat)(h0:I m0 fr hp)
  (h:∀m J hp,I m J hp->vc C R (.c x:: .el (yu W (eH B fr) I m)::sk) (bu W J (eH B fr)) hp):vc C R (.c (.loop x)::sk) fr hp:=by
 refine CG (fun m aC hp'=>∃J,aC=bu W J (eH B fr)/\I m J hp') m0 (Ru W B).wk ⟨fr,rfl,h0⟩ ?_;rintro m _ hp' ⟨J,rfl,hI⟩;refine rC bd.1 _ _ _ _ _ _ (Kae _) (.c x (.el ?_ bd.2)) (cA.refl _) (h m J hp' hI);rintro f f' cg hf ⟨J2,qg,m2,e2,hl,h2⟩;exact LJ hl (hf.wk.trans e2) ⟨J2,rfl,h2⟩
def lj(l:List (Nat×Nat)):List PV:=l.map fun x=>.ax x.1 0 x.2
def ape(d:Nat)(S:List Nat)(γ n:Nat)(x:PV)(fr:Fr):Fr:=fun s=>if s=γ then x else if S.contains s then .aL γ 0 n else bU d (fr s)
theorem Q15{tmps:Array Value}(h:Qt C ρ fr hp tmps w){O b:Nat}{hb:HB}{l:List Nat}(hB:aQ O=false)(aj:hp O=some hb)(hl:O∈l)(bE:ρ O=some b):¬aI C ρ (Q6 hp l) b:=by
 have bc:=(h.own O hb aj).bV;rw[bE]at bc;rintro(hx|⟨γ,hg,h1,h2,h3⟩)
 ·exact Ctx.IF bc.1 (AA hB) hx
 ·obtain⟨oL,g1,_,_,_,_,g6⟩:=Cp h1;have:=h.inj γ O b (by simp[g1]) (by simp[aj]) h3 bE;subst this;exact g6 h2 hl
theorem fm.snap{tmps:Array Value}(h:Qt C ρ fr hp tmps w){O o n:Nat}{v:Value}{l:List Nat}{hb:HB}(hr:fm ρ hp w O o n v)(hB:aQ O=false)(hl:O∈l)(aj:hp O=some hb):Qn w (aI C ρ (Q6 hp l)) (.sl hb.e ((hb.xs.drop o).take n)) v:=by
 obtain⟨au,g1,g2,g3⟩:=hr;rw[aj]at g1;cases g1;rcases g3 with⟨g3,rfl,rfl,rfl⟩|⟨b,cap,g3,rfl,g5,g6⟩
 ·simp only[Kcr];exact .gC _ _ _ (Ka6 _)
 ·have aS:=h.own O hb aj;have bc:=aS.bV;rw[g3]at bc;obtain⟨_,ao,cur,eJ,c1,c2,c3,c4,c5⟩:=bc;obtain⟨cur',ty',d1,d2⟩:=g5;rw[c1]at d1;cases d1;have jg:o+cap=eJ:=by rw[c2]at d2;exact(KbI aS.lE d2).symm
  subst jg;have hlen:((hb.xs.drop o).take n).length=n:=by simp;omega
  have eR:∀(i:Nat)(x:PV),((hb.xs.drop o).take n)[i]? =some x->i<n/\hb.xs[o+i]? =some x:=fun i x hx=>by
   have hi:i<n:=by have:=(Kaf.1 hx).1;omega
   rw[KaI hi,Ka4]at hx;exact⟨hi,hx⟩
  have:=Qn.sl (w:=w) (X:=aI C ρ (Q6 hp l)) hb.e ((hb.xs.drop o).take n) b (o*hb.e) cap (fun i j=>cur.getD ((o+i)*hb.e+j) undef) (Q15 h hB aj hl g3) ao (by omega) (by omega)
   (fun i x hx=>(aS.len _ x (eR i x hx).2).1)
   (fun i hi j hj=>by rw[hlen]at hi;have:=oc (i:=o+i) (e:=hb.e) (o:=0) (j:=j) (n:=hb.e) (cap:=o+cap) (by omega) (by omega) hj;rw[KaP]at this;rw[show o*hb.e+i*hb.e+j=(o+i)*hb.e+j by rw[KaM]];exact mr c1 (by rw[c2];exact this))
   (fun i x hx j y hy=>(c5 _ x (eR i x hx).2 j y hy).freeze)
  rwa[hlen]at this
def vj(R:Qg):Qg:=fun fr hp=>∃aC hp',Wk fr hp aC hp'/\R aC hp'
theorem Mg{hp':HP}(hw:Wk fr hp aC hp')(h:R aC hp'):vj R fr hp:=⟨aC,hp',hw,h⟩
theorem mA(h:R fr hp):vj R fr hp:=⟨fr,hp,Wk.refl _ _,h⟩
theorem aiV:KM (vj R) (vj R):=by rintro f f' hp hf ⟨aC,hp',h1,h2⟩;exact⟨aC,hp',hf.wk.trans h1,h2⟩
theorem VL:fC (vj R) []:=⟨aiV,.nil⟩
theorem aiW{d γ m i:Nat}{k:IntKind}(h:i<m)(he:(hp γ).map (·.e)=some 1):dt 1 (.aL γ 0 m) (.int k (i:Int)) d fr hp K=K (ae fr d (.np γ i 0)) hp:=by
 have e:(0:Int)<=(i:Int):=by omega
 simp[dt,e,h,he]
theorem aiX{d γ o m:Nat}:qG (.aL γ o m) d fr hp K=K (ae fr d (.int .i64 m)) hp:=rfl
theorem ajy{e by_ ty ty' d O γ n:Nat}{xs:List PV}{y:PV}{fz:Bool}(hb:hp O=some ⟨e,ty,xs,false⟩)(hy:hp γ=some ⟨e,ty',[y],fz⟩)(h0:0<e)(hn:n=xs.length)(h1:(n+1)*by_<=140737488355328)(h2:n+1<=9223372036854775807)(hB:2000000<=O):
  jz e by_ ty (.ms O n) (.ms γ 1) d fr hp K=K (ae (gi O fr) d (.ms O (n+1))) (Qj hp O ⟨e,ty,xs++[y],false⟩):=by
 subst hn;have b1:bW O=true:=by simp[bW];omega
 have b2:aQ O=false:=by simp[aQ];omega
 simp[jz,kE,hy,hb,h0,b1,b2,h1,h2]
theorem G3{α:Type}{f:α->PV}{y:α}{e by_ ty ty' d O γ n:Nat}{xs:List α}{fz:Bool}(hb:hp O=some ⟨e,ty,xs.map f,false⟩)(hy:hp γ=some ⟨e,ty',[f y],fz⟩)(h0:0<e)(hn:n=xs.length)(h1:(n+1)*by_<=140737488355328)(h2:n+1<=9223372036854775807)(hB:2000000<=O):
  jz e by_ ty (.ms O n) (.ms γ 1) d fr hp K=K (ae (gi O fr) d (.ms O (n+1))) (Qj hp O ⟨e,ty,(xs++[y]).map f,false⟩):=by
 rw[ajy hb hy h0 (by simp[hn]) h1 h2 hB];simp
theorem ae5{O γ o n:Nat}(h:γ≠O):dC O (.aL γ o n)= .aL γ o n:=by simp only[dC];rw[if_neg h]
theorem ahm{O γ o n:Nat}(h:γ≠O):dC O (.np γ o n)= .np γ o n:=by simp only[dC];rw[if_neg h]
theorem apf:
  (∀(O:Nat)(k:IntKind)(n:Int),dC O (.int k n)= .int k n)/\
  (∀(O:Nat)(b:Bool),dC O (.bool b)= .bool b)/\
  (∀(O e:Nat)(xs:List PV),dC O (.sl e xs)= .sl e xs)/\
  (∀(O:Nat)(cs:List PV),dC O (.agg cs)= .agg cs)/\
  (∀(O:Nat)(cs:List PV),dC O (.pt cs)= .pt cs)/\
  (∀(O:Nat),dC O .ab= .ab)/\
  (∀(O:Nat),dC O .undef= .undef)/\
  (∀(γ:Nat)(k:IntKind)(n:Int),jT γ (.int k n)= .int k n)/\
  (∀(γ:Nat)(b:Bool),jT γ (.bool b)= .bool b)/\
  (∀(γ e:Nat)(xs:List PV),jT γ (.sl e xs)= .sl e xs)/\
  (∀(γ:Nat)(cs:List PV),jT γ (.agg cs)= .agg cs)/\
  (∀(γ:Nat)(cs:List PV),jT γ (.pt cs)= .pt cs)/\
  (∀(γ:Nat),jT γ .ab= .ab)/\
  (∀(γ:Nat),jT γ .undef= .undef)/\
  (∀(γ O o n:Nat),jT γ (.ax O o n)= .ax O o n)/\
  (∀(γ O o n:Nat),jT γ (.mp O o n)= .mp O o n)/\
  (∀(γ O o n:Nat),jT γ (.rb O o n)= .rb O o n)/\
  (∀(γ O o n:Nat),jT γ (.aL O o n)= .aL O o n)/\
  (∀(γ O o n:Nat),jT γ (.np O o n)= .np O o n)/\
  (∀(O γ o n:Nat),bU O (.aL γ o n)= .aL γ o n)/\
  (∀(O γ o n:Nat),bU O (.np γ o n)= .np γ o n)/\
  (∀(O γ e ty:Nat)(xs:List PV),bU O (.aJ γ e ty xs)= .aJ γ e ty xs)/\
  (∀(O:Nat),bU O .undef= .undef)/\
  (∀(O:Nat)(cs:List PV),bU O (.pt cs)= .pt cs):=by
 refine⟨?_,?_,?_,?_,?_,?_,?_,?_,?_,?_,?_,?_,?_,?_,?_,?_,?_,?_,?_,?_,?_,?_,?_,?_⟩<;>intros<;>rfl
theorem ahn(O γ o n:Nat):dC O (.ax γ o n)=if γ=O then .undef else .ax γ o n:=Ps O γ o n
theorem aho(O γ o n:Nat):dC O (.mp γ o n)=if γ=O then .undef else .mp γ o n:=Pu O γ o n
end Go.FW
namespace Go.FW
open Go
variable {C : Ctx} {ρ : Nat -> Option Nat} {fr aC : Fr} {hp : HP} {w : World} {K R : Qg}
theorem ajz{F:Fr}{s:Nat}:yC F s=lz (F s):=rfl
theorem apg:
  (∀(k:IntKind)(n:Int),lz (.int k n)= .int k n)/\
  (∀(b:Bool),lz (.bool b)= .bool b)/\
  (∀(e:Nat)(xs:List PV),lz (.sl e xs)= .sl e xs)/\
  (∀(cs:List PV),lz (.agg cs)= .agg cs)/\
  (∀(cs:List PV),lz (.pt cs)= .pt cs)/\
  (lz .ab= .ab)/\(lz .undef= .undef)/\
  (∀(O o n:Nat),lz (.ax O o n)=if lL O then .undef else .ax O o n)/\
  (∀(O o n:Nat),lz (.mp O o n)=if lL O then .undef else .mp O o n)/\
  (∀(O o n:Nat),lz (.rb O o n)=if lL O then .undef else .rb O o n)/\
  (∀(O o n:Nat),lz (.aL O o n)=if mY O then .undef else .aL O o n)/\
  (∀(O o n:Nat),lz (.np O o n)=if mY O then .undef else .np O o n):=by
 refine⟨fun _ _=>rfl,fun _=>rfl,fun _ _=>rfl,fun _=>rfl,fun _=>rfl,rfl,rfl,?_,?_,?_,?_,?_⟩<;>intros<;>simp[lz,PV.refs,PV.aV]
theorem amk{O:Nat}:mY O=(lL O||decide (O<1000000)):=rfl
theorem amS{O:Nat}:lL O=decide (2000000<=O):=rfl
theorem ahp{d γ n:Nat}{S:List Nat}{x:PV}{s:Nat}:ape d S γ n x fr s=if s=γ then x else if S.contains s then .aL γ 0 n else bU d (fr s):=rfl
theorem ajA{by_ ty d:Nat}{k k':IntKind}{n c:Nat}(h2:n<=c)(h3:by_*c<=281474976710656)(h4:c<=9223372036854775807):
  o6 1 by_ ty .ab (.int k (n:Int)) (.int k' (c:Int)) d fr hp K=K (ae (bZ d fr) d (.ms d n)) (Qj hp d ⟨1,ty,List.replicate n .ab,false⟩):=by
 rw[Iu (e:=1) (by omega) rfl (by omega) (by omega) (by omega) (by omega)];rfl
theorem amT{k c:Nat}(h:c<3000000):(3000000+k=c)=False:=by simp;omega
theorem ajB{k c:Nat}(h:c<3000000):(c=3000000+k)=False:=by simp;omega
theorem amU{k j:Nat}:(3000000+k=3000000+j)=(k=j):=by simp
attribute [go_sem] amT ajB amU ajA ahp ae1 ae2 ae3 ae4 ahk ahl VJ VK apf ahn aho ae5 ahm aiW aiX ajz apg amk amS
end Go.FW
namespace Go.FW
open Go
variable {C C' : Ctx} {ρ ρ' : Nat -> Option Nat} {fr aC : Fr} {hp hp' : HP} {w : World} {K R : Qg}
theorem dn{sk:List It}{r:RT}{aO:Fr}{aA:HP}(hw:Wk fr hp aO aA)(h:vc C R (.o r::sk) aO aA):vc C R (.o (.wk r)::sk) fr hp:=by rw[Ic];exact⟨aO,aA,hw,h⟩
def dI(σ:Nat->Nat):PV->PV
 |.mp O i o=>.mp (σ O) i o
 |.ax O o n=>.ax (σ O) o n
 |.rb O o n=>.rb (σ O) o n
 |.np O i o=>.np (σ O) i o
 |.aL O o n=>.aL (σ O) o n
 |p=>p
def dh(σ:Nat->Nat):PV->PV
 |.fn f a b=>.fn f (a.map (dI σ)) (b.map (dI σ))
 |.aP cs=>.aP (cs.map (dI σ))
 |.fb cs=>.fb (cs.map (dI σ))
 |.dx cs q=>.dx (cs.map (dI σ)) q
 |.aJ γ e ty xs=>.aJ (σ γ) e ty (xs.map fun x=>gw (x.bg.map (dI σ)))
 |p=>dI σ p
structure wT(σ:Nat->Nat)(ρ ρ':Nat->Option Nat)(hp hp':HP)(O:Nat):Prop where
 r:ρ' (σ O)=ρ O
 h:∀hb,hp O=some hb->∃cN,hp' (σ O)=some cN/\cN.e=hb.e/\cN.ty=hb.ty/\cN.xs=hb.xs
 b:bW O=true->bW (σ O)=true
theorem Qn.dI{X:Nat->Prop}{σ:Nat->Nat}{p:PV}{v:Value}(h:Qn w X p v):FW.dI σ p=p:=by cases h<;>rfl
theorem fm.gO{σ:Nat->Nat}{O o n:Nat}{v:Value}(h:fm ρ hp w O o n v)(hr:wT σ ρ ρ' hp hp' O):fm ρ' hp' w (σ O) o n v:=by obtain⟨hb,h1,h2,h3⟩:=h;obtain⟨au,k1,k2,k3,k4⟩:=hr.h hb h1;refine⟨au,k1,by rw[k4];exact h2,?_⟩;rw[hr.r,k2];exact h3
theorem pE.gO{σ:Nat->Nat}{γ o n:Nat}{v:Value}(h:pE ρ hp w γ o n v)(hr:wT σ ρ ρ' hp hp' γ):pE ρ' hp' w (σ γ) o n v:=by obtain⟨h0,hb,b,cap,h1,h2,h3⟩:=h;obtain⟨au,k1,k2,k3,k4⟩:=hr.h hb h1;exact⟨hr.b h0,au,b,cap,k1,by rw[hr.r];exact h2,by rw[k2];exact h3⟩
theorem Qn.sub{X X':Nat->Prop}{p:PV}{v:Value}(h:Qn w X p v)(hX:∀b,X' b->X b):Qn w X' p v:=h.mono (fun _ _ _=>rfl) (fun b _ hn hx=>hn (hX b hx)) (Kae _)
theorem cZ.gO{σ:Nat->Nat}{p:PV}{v:Value}(h:cZ C ρ hp w p v)(hX:∀b,aI C' ρ' hp' b->aI C ρ hp b)(hr:∀O∈p.dO,wT σ ρ ρ' hp hp' O):cZ C' ρ' hp' w (dI σ p) v:=by
 cases p with
 |undef=>trivial
 |ax O o n=>exact⟨(hr O (by simp[PV.dO])).b h.1,h.2.gO (hr O (by simp[PV.dO]))⟩
 |aL γ o n=>exact pE.gO h (hr γ (by simp[PV.dO]))
 |mp=>cases h
 |rb=>cases h
 |np=>cases h
 |_=>exact Qn.sub h hX
theorem dp.gO{σ:Nat->Nat}{p:PV}{v:Value}(h:dp C ρ hp w p v)(hX:∀b,aI C' ρ' hp' b->aI C ρ hp b)(hr:∀O∈p.bS++p.fa,wT σ ρ ρ' hp hp' O):dp C' ρ' hp' w (dI σ p) v:=by
 cases p with
 |mp O i o=>have hq:=hr O (by simp[PV.bS]);obtain⟨b,hb,h1,h2,h3⟩:=h;obtain⟨au,k1,k2,k3,k4⟩:=hq.h hb h2;exact⟨b,au,by rw[hq.r];exact h1,k1,by rw[k2];exact h3⟩
 |ax O o n=>exact fm.gO h (hr O (by simp[PV.bS]))
 |rb O o n=>obtain⟨b,u,h1,h2,h3,h4,h5⟩:=h;exact⟨b,u,h1,h2,fun hx=>h3 (hX b hx),h4,h5.gO (hr O (by simp[PV.bS]))⟩
 |np γ i o=>have hq:=hr γ (by simp[PV.bS,PV.fa]);obtain⟨h0,b,hb,h1,h2,h3⟩:=h;obtain⟨au,k1,k2,k3,k4⟩:=hq.h hb h2;exact⟨hq.b h0,b,au,by rw[hq.r];exact h1,k1,by rw[k2];exact h3⟩
 |aL γ o n=>exact pE.gO h (hr γ (by simp[PV.bS,PV.fa]))
 |_=>exact Qn.sub h hX
theorem Uk{cs:List PV}(h:∀c∈cs,(∀ds,c≠ .agg ds)/\∀ds,c≠ .aP ds):(gw cs).bg=cs:=by
 match cs,h with
 | [],_=>rfl
 | [c],h=>
  obtain⟨h1,h2⟩:=h c (by simp);cases c with
  |agg ds=>exact absurd rfl (h1 ds)
  |aP ds=>exact absurd rfl (h2 ds)
  |_=>rfl
 |c::d::cs,_=>simp only[gw,pz];split<;>rfl
theorem cZ.one{p:PV}{v:Value}(h:cZ C ρ hp w p v):(∀ds,p≠ .agg ds)/\∀ds,p≠ .aP ds:=by refine⟨fun ds e=>?_,fun ds e=>?_⟩<;>subst e<;>cases h
theorem Qk.gO{σ:Nat->Nat}{p:PV}{v:Value}(h:Qk C ρ hp w p v)(hX:∀b,aI C' ρ' hp' b->aI C ρ hp b)(hr:∀O∈p.refs++p.aV,wT σ ρ ρ' hp hp' O):Qk C' ρ' hp' w (dh σ p) v:=by
 have hV:∀q u,Qn w (aI C ρ hp) q u->Qn w (aI C' ρ' hp') q u:=fun q u hq=>Qn.sub hq hX;cases p with
 |undef=>trivial
 |mp O i o=>exact dp.gO (w:=w) (p:=.mp O i o) h hX (by simpa[PV.refs,PV.aV,PV.bS,PV.fa]using hr)
 |ax O o n=>exact dp.gO (w:=w) (p:=.ax O o n) h hX (by simpa[PV.refs,PV.aV,PV.bS,PV.fa]using hr)
 |rb O o n=>exact dp.gO (w:=w) (p:=.rb O o n) h hX (by simpa[PV.refs,PV.aV,PV.bS,PV.fa]using hr)
 |np γ i o=>exact dp.gO (w:=w) (p:=.np γ i o) h hX (by simpa[PV.refs,PV.aV,PV.bS,PV.fa]using hr)
 |aL γ o n=>exact dp.gO (w:=w) (p:=.aL γ o n) h hX (by simpa[PV.refs,PV.aV,PV.bS,PV.fa]using hr)
 |aP cs=>obtain⟨vs,rfl,h1,h2⟩:=h;refine⟨vs,rfl,by simpa using h1,fun i x hi=>?_⟩;simp only[Kao,Kaa]at hi;obtain⟨y,hy,rfl⟩:=hi;exact(h2 i y hy).gO hX fun O aj=>hr O (Kby _ (Kaq.2 ⟨y,Kai hy,aj⟩))
 |fb cs=>obtain⟨vs,rfl,h1,h2⟩:=h;refine⟨vs,rfl,by simpa using h1,fun i x hi=>?_⟩;simp only[Kao,Kaa]at hi;obtain⟨y,hy,rfl⟩:=hi;exact(h2 i y hy).gO hX fun O aj=>hr O (Kby _ (Kaq.2 ⟨y,Kai hy,aj⟩))
 |dx cs q=>obtain⟨vs,u,rfl,h1,h2,h3⟩:=h;refine⟨vs,u,rfl,by simpa using h1,fun i x hi=>?_,h3.mono (fun _ _ _=>rfl) (fun b _ hn hx=>hn (hX b hx)) (Kae _)⟩;simp only[Kao,Kaa]at hi;obtain⟨y,hy,rfl⟩:=hi;exact(h2 i y hy).gO hX fun O aj=>hr O (Kby _ (Kaq.2 ⟨y,Kai hy,aj⟩))
 | aJ γ e ty xs=>
  obtain⟨h0,he,b,hb,cur,cap,h1,h2,h3,h4,h5,h6,h7,h8,h9,du,nG⟩:=h;have hq:=hr γ (by simp[PV.aV]);have key:∀(i:Nat)(x:PV),xs[i]? =some x->∀(j:Nat)(y:PV),x.bg[j]? =some y->cZ C' ρ' hp' w (dI σ y) (cur.getD (i*e+j) undef):=fun i x hx j y hy=>
   (nG i x hx j y hy).gO hX fun O aj=>hr O (Kby _ (KaZ _ (Kaq.2 ⟨x,Kai hx,Kaq.2 ⟨y,Kai hy,aj⟩⟩)))
  have tW:∀(i:Nat)(x:PV),xs[i]? =some x->(gw (x.bg.map (dI σ))).bg=x.bg.map (dI σ):=fun i x hx=>by refine Uk fun c hc=>?_;obtain⟨y,hy,rfl⟩:=KaA.1 hc;obtain⟨j,hj⟩:=KaF hy;exact(key i x hx j y hj).one
  obtain⟨au,k1,k2,k3,k4⟩:=hq.h hb h2;refine⟨hq.b h0,he,b,au,cur,cap,by rw[hq.r];exact h1,k1,by rw[k4];exact h3,by rw[k2];exact h4,by rw[k3];exact h5,h6,h7,by simpa using h8,h9,fun i x hx=>?_,fun i x hx j y hy=>?_⟩
  ·simp only[Kao,Kaa]at hx;obtain⟨x0,bR,rfl⟩:=hx;rw[tW i x0 bR,KaJ];exact du i x0 bR
  ·simp only[Kao,Kaa]at hx;obtain⟨x0,bR,rfl⟩:=hx;rw[tW i x0 bR,Kao,Kaa]at hy;obtain⟨y0,dG,rfl⟩:=hy;exact key i x0 bR j y0 dG
 | fn f first cap=>
  obtain⟨fv,cv,rfl,h1,h2,h3,h4⟩:=h;have hm:∀(l:List PV)(x:PV),x∈l->∀O∈x.bS++x.fa,O∈l.flatMap PV.bS++l.flatMap PV.fa:=fun l x hx O aj=>by
   rcases KaS.1 aj with aj|aj
   ·exact Kcd _ (Kaq.2 ⟨x,hx,aj⟩)
   ·exact Kby _ (Kaq.2 ⟨x,hx,aj⟩)
  refine⟨fv,cv,rfl,by simpa using h1,by simpa using h2,fun i x hi=>?_,fun i x hi=>?_⟩
  ·simp only[Kao,Kaa]at hi;obtain⟨y,hy,rfl⟩:=hi;refine(h3 i y hy).gO hX fun O aj=>hr O ?_;have:=hm first y (Kai hy) O aj
   simp only[PV.refs,PV.aV,KaS]at this⊢;rcases this with h|h
   ·exact .inl (.inl h)
   ·exact .inr (.inl h)
  ·simp only[Kao,Kaa]at hi;obtain⟨y,hy,rfl⟩:=hi;refine(h4 i y hy).gO hX fun O aj=>hr O ?_;have:=hm cap y (Kai hy) O aj;simp only[PV.refs,PV.aV,KaS]at this⊢;rcases this with h|h
   ·exact .inl (.inr h)
   ·exact .inr (.inr h)
 |agg cs=>exact eX.move (p:=.agg cs) h hV
 |aK cs=>exact eX.move (p:=.aK cs) h hV
 |_=>exact hV _ _ h
theorem amV(σ τ:Nat->Nat)(h1:∀O hb,hp O=some hb->hp' (σ O)=some hb/\τ (σ O)=O)(h2:∀γ hb,hp' γ=some hb->hp (τ γ)=some hb/\σ (τ γ)=γ)
  (hB:∀O,hp O≠none->bW O=true->bW (σ O)=true) (hY:∀O,hp O≠none->aQ (σ O)=aQ O/\(aQ O=true->σ O=O)) (hf:∀s,aC s=dh σ (fr s)∨aC s= .undef):Wk fr hp aC hp':=by
 rintro C tmps w ⟨ρ,hs⟩;obtain⟨ρ',bE⟩:∃f:Nat->Option Nat,f=fun γ=>if hp' γ=none then none else ρ (τ γ):=⟨_,rfl⟩
 have hr:∀O,hp O≠none->wT σ ρ ρ' hp hp' O:=fun O aj=>by obtain⟨hb,hq⟩:=Kbx.1 aj;obtain⟨a1,a2⟩:=h1 O hb hq;refine⟨?_,(fun hb hq=>⟨hb,(h1 O hb hq).1,rfl,rfl,rfl⟩),hB O aj⟩;rw[bE];simp only[];rw[if_neg (by rw[a1];simp),a2]
 have au:∀γ hb,hp' γ=some hb->ρ' γ=ρ (τ γ):=fun γ hb hq=>by rw[bE];simp only[];rw[if_neg (by rw[hq];simp)]
 have hX:∀b,aI C ρ' hp' b->aI C ρ hp b:=by
  rintro b (hx|⟨γ,hg,g1,g2,g3⟩)
  ·exact .inl hx
  ·rw[au γ hg g1]at g3;exact .inr ⟨τ γ,hg,(h2 γ hg g1).1,g2,g3⟩
 refine⟨ρ',hs.sz,hs.ext,hs.fI,fun γ hb ah=>?_,fun γ δ b g1 g2 g3 g4=>?_,fun i=>?_⟩
 ·obtain⟨a1,a2⟩:=h2 γ hb ah;obtain⟨q1,q2,q3,q4,q5⟩:=hs.own (τ γ) hb a1;obtain⟨y1,y2⟩:=hY (τ γ) (by simp[a1]);rw[a2]at y1 y2;refine⟨q1,q2,?_,fun hy=>?_,fun hR=>?_⟩
  rotate_left
  rotate_left
  ·have hy:aQ γ=true:=by simp[fH]at hR;simp[aQ];omega
   have e:=y2 (by rw[<-y1];exact hy);exact q5 (by rw[<-e];exact hR)
  ·rw[au γ hb ah];cases hq:ρ (τ γ)with
   |none=>rw[hq]at q3;exact q3
   |some b=>
    rw[hq]at q3;refine⟨?_,q3.2.1,q3.2.2.move rfl rfl rfl rfl fun q u hq=>Qn.sub hq hX⟩;have:=q3.1;unfold Ctx.cls at this⊢;rw[y1];split at this
    ·rename_i hy;rw[if_pos hy,y2 hy];exact this
    ·rename_i hy;rw[if_neg hy];exact this
  ·rw[au γ hb ah,q4 (by rw[<-y1];exact hy),<-y2 (by rw[<-y1];exact hy)]
 ·obtain⟨x1,k1⟩:=Kbx.1 g1;obtain⟨x2,k2⟩:=Kbx.1 g2;rw[au γ x1 k1]at g3;rw[au δ x2 k2]at g4;have:=hs.inj (τ γ) (τ δ) b (by rw[(h2 γ x1 k1).1];simp) (by rw[(h2 δ x2 k2).1];simp) g3 g4;rw[<-(h2 γ x1 k1).2,<-(h2 δ x2 k2).2,this]
 ·have bo:=hs.dm i;rcases hf i with e|e
  ·rw[e];exact bo.gO hX fun O aj=>hr O (by
    rcases KaS.1 aj with h|h
    ·exact bo.known.1 O h
    ·exact bo.known.2 O h)
  ·rw[e];trivial
def qo(O δ x:Nat):Nat:=if x=O then δ else x
def sL(O δ:Nat)(fr:Fr):Fr:=fun s=>dh (qo O δ) (fr s)
def JL(O δ:Nat)(hp:HP):HP:=fun x=>if x=δ then hp O else if x=O then none else hp x
theorem rK(O δ:Nat)(oX:hp δ=none)(h2:2000000<=δ)(hY:aQ O=false)(bz:O≠δ):Wk fr hp (sL O δ fr) (JL O δ hp):=by
 have bδ:bW δ=true:=by simp[bW];omega
 have yδ:aQ δ=false:=by simp[aQ];omega
 refine amV (qo O δ) (fun y=>if y=δ then O else y) (fun x hb hx=>?_) (fun y hb hy=>?_) (fun x hx hb=>?_) (fun x hx=>?_) (fun s=>.inl rfl)
 ·unfold qo JL;by_cases e:x=O
  ·subst e;simp[hx]
  ·have e2:x≠δ:=fun e2=>by rw[e2,oX]at hx;cases hx
   simp[e,e2,hx]
 ·unfold JL at hy;unfold qo;by_cases e:y=δ
  ·subst e;simp at hy;simp[hy]
  ·rw[if_neg e]at hy;by_cases e2:y=O
   ·rw[if_pos e2]at hy;cases hy
   ·rw[if_neg e2]at hy;simp[e,e2,hy]
 ·unfold qo;split
  ·exact bδ
  ·exact hb
 ·unfold qo;split
  ·rename_i e;subst e;rw[yδ,hY];simp
  ·simp
theorem amW{O δ x:Nat}:JL O δ hp x=if x=δ then hp O else if x=O then none else hp x:=rfl
theorem amX{O δ s:Nat}:sL O δ fr s=dh (qo O δ) (fr s):=rfl
theorem amY{O δ x:Nat}:qo O δ x=if x=O then δ else x:=rfl
theorem ajC{O δ d:Nat}{v:PV}:sL O δ (ae fr d v)=ae (sL O δ fr) d (dh (qo O δ) v):=by funext s;unfold sL ae;split<;>rfl
theorem ajD{W:List (Nat×Nat)}{O δ:Nat}{J F:Fr}:sL O δ (bu W J F)=bu W (sL O δ J) (sL O δ F):=by funext s;unfold sL bu;split<;>rfl
theorem Si{σ:Nat->Nat}{p:PV}(h:∀O∈p.bS++p.fa,σ O=O):dI σ p=p:=by
 cases p with
 |mp O=>simp only[dI];rw[h O (by simp[PV.bS])]
 |ax O=>simp only[dI];rw[h O (by simp[PV.bS])]
 |rb O=>simp only[dI];rw[h O (by simp[PV.bS])]
 |np O=>simp only[dI];rw[h O (by simp[PV.bS,PV.fa])]
 |aL O=>simp only[dI];rw[h O (by simp[PV.bS,PV.fa])]
 |_=>rfl
theorem ajE{σ:Nat->Nat}{p:PV}(h:vX p)(vS:∀O∈p.refs++p.aV,σ O=O):dh σ p=p:=by
 have hm:∀(l:List PV),(∀O∈l.flatMap PV.bS++l.flatMap PV.fa,σ O=O)->l.map (dI σ)=l:=fun l hl=>by
  conv=>rhs;rw[<-List.map_id l]
  refine KaX fun x hx=>Si fun O aj=>hl O ?_;rcases KaS.1 aj with aj|aj
  ·exact Kcd _ (Kaq.2 ⟨x,hx,aj⟩)
  ·exact Kby _ (Kaq.2 ⟨x,hx,aj⟩)
 cases p with
 |aJ γ e ty xs=>exact absurd rfl (h.2.2.1 _ _ _ _)
 |aP cs=>exact absurd rfl (h.2.2.2 _).1
 |fb cs=>exact absurd rfl (h.2.2.2 _).2.1
 |dx cs q=>exact absurd rfl ((h.2.2.2 _).2.2 _)
 | fn f a b=>
  simp only[dh];rw[hm a,hm b]
  ·intro O aj;refine vS O ?_;simp only[PV.refs,PV.aV,KaS]at aj⊢;rcases aj with h|h
   ·exact .inl (.inr h)
   ·exact .inr (.inr h)
  ·intro O aj;refine vS O ?_;simp only[PV.refs,PV.aV,KaS]at aj⊢;rcases aj with h|h
   ·exact .inl (.inl h)
   ·exact .inr (.inl h)
 |mp O=>simp only[dh,dI];rw[vS O (by simp[PV.refs])]
 |ax O=>simp only[dh,dI];rw[vS O (by simp[PV.refs])]
 |rb O=>simp only[dh,dI];rw[vS O (by simp[PV.refs])]
 |np O=>simp only[dh,dI];rw[vS O (by simp[PV.refs,PV.aV])]
 |aL O=>simp only[dh,dI];rw[vS O (by simp[PV.refs,PV.aV])]
 |_=>rfl
theorem ahq{B:List Nat}{F:Fr}{s O:Nat}(h:O∈(eH B F s).refs):B.contains O=false:=by
 cases hq:B.contains O with
 |false=>rfl
 |true=>
  unfold eH Q7 at h;split at h
  ·cases h
  ·rename_i hn;exact absurd (KaU.2 ⟨O,h,hq⟩) hn
theorem ajF{B:List Nat}{F:Fr}{O δ:Nat}(aj:B.contains O=true∨2000000<=O)(axT:O<1000000∨2000000<=O):sL O δ (eH B F)=eH B F:=by
 funext s;have hc:=Df B F s;refine ajE hc fun x hx=>if_neg fun e=>?_;subst e;rcases aj with aj|aj
 ·rcases KaS.1 hx with h|h
  ·rw[ahq h]at aj;cases aj
  ·have h1:=hc.2.1 x h;simp[mY,lL]at h1;omega
 ·rcases KaS.1 hx with h|h
  ·have:=hc.1 x h;simp[lL]at this;omega
  ·have:=hc.2.1 x h;simp[mY,lL]at this;omega
end Go.FW
namespace Go.FW
open Go
variable {C C' : Ctx} {ρ ρ' : Nat -> Option Nat} {fr aC : Fr} {hp hp' : HP} {w : World} {K R : Qg}
def fF(γ:Nat):PV->PV
 |.ax O o n=>if O=γ then .aL γ o n else .ax O o n
 |.mp O i o=>if O=γ then .np γ i o else .mp O i o
 |.rb O o n=>if O=γ then .undef else .rb O o n
 |p=>p
def dV(γ:Nat):PV->PV
 |.fn f a b=>bU γ (.fn f a b)
 |.aP cs=>.aP (cs.map (fF γ))
 |.fb cs=>.fb (cs.map (fF γ))
 |.dx cs q=>.dx (cs.map (fF γ)) q
 |.aJ bj e ty xs=>if bj=γ then .undef else .aJ bj e ty (xs.map fun x=>gw (x.bg.map (fF γ)))
 |p=>fF γ p
def Ba(γ:Nat)(x:PV)(fr:Fr):Fr:=fun s=>if s=γ then x else dV γ (fr s)
theorem rD {γ e ty:Nat} {xs:List PV} {fz:Bool} (ah:hp γ=some ⟨e,ty,xs,fz⟩) (h0:xs≠[]) (h2:2000000<=γ) (hd:∀x∈xs,x.bg=x.cells):Wk fr hp (Ba γ (.aJ γ e ty xs) fr) (Qj hp γ ⟨e,ty,[],fz⟩):=by
 rintro C tmps w ⟨ρ,hs⟩;have Bl:bW γ=true:=by simp[bW];omega
 have aS:=hs.own γ _ ah;have bc:=aS.bV;obtain⟨b,bE⟩:∃b,ρ γ=some b:=by
  cases hq:ρ γ with
  |none=>rw[hq]at bc;exact absurd bc h0
  |some b=>exact⟨b,rfl⟩
 rw[bE]at bc;obtain⟨b1,b2,cur,cap,c1,c2,c3,c4,c5⟩:=bc;have lE:=aS.lE;obtain⟨hp',nU⟩:∃f,f=Qj hp γ ⟨e,ty,[],fz⟩:=⟨_,rfl⟩
 rw[<-nU];have vU:hp' γ=some ⟨e,ty,[],fz⟩:=by rw[nU];simp[Qj]
 have po:∀O,O≠γ->hp' O=hp O:=fun O aj=>by rw[nU];simp[Qj,aj]
 have hX:aI C ρ hp'=aI C ρ hp:=by
  funext c;apply propext;constructor
  ·rintro(hx|⟨O,hb,g1,g2,g3⟩)
   ·exact .inl hx
   ·by_cases aj:O=γ
    ·subst aj;rw[vU]at g1;cases g1;exact .inr ⟨O,_,ah,g2,g3⟩
    ·rw[po O aj]at g1;exact .inr ⟨O,hb,g1,g2,g3⟩
  ·rintro(hx|⟨O,hb,g1,g2,g3⟩)
   ·exact .inl hx
   ·by_cases aj:O=γ
    ·subst aj;rw[ah]at g1;cases g1;exact .inr ⟨O,_,vU,g2,g3⟩
    ·exact .inr ⟨O,hb,by rw[po O aj];exact g1,g2,g3⟩
 have bq:nt w w (aI C ρ hp) (aI C ρ hp'):=by rw[hX];exact⟨fun _ _ _=>rfl,fun _ _ hn=>hn,Kae _⟩
 have c0:∀O,O≠γ->qv ρ ρ hp hp' w w O:=fun O aj=>⟨rfl,fun hb hq=>⟨hb,by rw[po O aj];exact hq,rfl,Kae _,fun _ _ _ h=>h,fun h=>⟨h,rfl,fun _ _=>rfl⟩⟩⟩
 have Gi:∀ {o n:Nat} {v:Value},fm ρ hp w γ o n v->pE ρ hp' w γ o n v:=by
  rintro o n v ⟨hb,g1,g2,g3⟩;rw[ah]at g1;cases g1;rcases g3 with⟨g3,_⟩|⟨b',cp,g3,g4,g5,g6⟩
  ·rw[bE]at g3;cases g3
  ·rw[bE]at g3;cases g3;refine⟨Bl,_,b,cp,vU,bE,g4,g5,g6,?_⟩;obtain⟨cur',ty',d1,d2⟩:=g5;rw[c1]at d1;cases d1;have:cap=o+cp:=KbI lE (by rw[<-c2,<-d2]);simp only at g2 c3;omega
 have cell:∀ {p:PV} {v:Value},cZ C ρ hp w p v->cZ C ρ hp' w (fF γ p) v:=by
  intro p v h;cases p with
  |ax O o n=>
   by_cases aj:O=γ
   ·subst aj;simp only[fF,if_true];exact Gi h.2
   ·simp only[fF,if_neg aj];exact cZ.move (p:=.ax O o n) h bq fun x hx=>by simp[PV.dO]at hx;subst hx;exact(c0 _ aj).B7
  | aL O o n=>
   by_cases aj:O=γ
   ·obtain⟨_,hb,b',cp,k1,k2,k3,k4,k5,k6⟩:=h;subst aj;rw[ah]at k1;cases k1;exact⟨Bl,_,b',cp,vU,k2,k3,k4,k5,k6⟩
   ·exact cZ.move (p:=.aL O o n) h bq fun x hx=>by simp[PV.dO]at hx;subst hx;exact(c0 _ aj).B7
  |mp=>cases h
  |rb=>cases h
  |np=>cases h
  |undef=>trivial
  |_=>exact cZ.move h bq (fun x hx=>by cases hx)
 refine⟨ρ,hs.sz,hs.ext,hs.fI,fun O hb aj=>?_,fun O δ c g1 g2 g3 g4=>?_,fun i=>?_⟩
 ·by_cases hq:O=γ
  ·subst hq;rw[vU]at aj;cases aj;refine⟨lE,(fun i x hx=>by simp at hx),?_,aS.fix,aS.ro⟩;rw[bE];exact⟨b1,b2,cur,cap,c1,c2,Ka6 _,c4,fun i x hx=>by simp at hx⟩
  ·rw[po O hq]at aj;obtain⟨q1,q2,q3,q4,q5⟩:=hs.own O hb aj;refine⟨q1,q2,?_,q4,q5⟩;cases hr:ρ O with
   |none=>rw[hr]at q3;exact q3
   |some c=>rw[hr]at q3;exact⟨q3.1,q3.2.1,q3.2.2.move rfl rfl rfl rfl bq.rc⟩
 ·have f:∀O,hp' O≠none->hp O≠none:=fun O aj=>by
   by_cases hq:O=γ
   ·subst hq;simp[ah]
   ·rwa[po O hq]at aj
  exact hs.inj O δ c (f O g1) (f δ g2) g3 g4
 ·have bo:=hs.dm i;show Qk C ρ hp' w (Ba γ (.aJ γ e ty xs) fr i) _;unfold Ba;split
  ·refine⟨Bl,lE,b,_,cur,cap,bE,vU,rfl,rfl,rfl,c1,c2,c3,c4,fun k x hx=>?_,fun k x hx j y hy=>?_⟩
   ·rw[hd x (Kai hx)];exact(aS.len k x hx).1
   ·rw[hd x (Kai hx)]at hy;have:=c5 k x hx j y hy;have h3:Qn w (aI C ρ hp') y (cur.getD (k*e+j) undef):=by rw[hX];exact this
    cases y with
    |undef=>trivial
    |ax=>cases h3
    |aL=>cases h3
    |_=>exact h3
  ·generalize fr i=p at bo;cases p with
   |ax O o n=>
    by_cases aj:O=γ
    ·subst aj;simp only[dV,fF,if_true];exact Gi bo
    ·simp only[dV,fF,if_neg aj];exact Qk.qZ bo bq (fun x hx=>by simp[PV.refs]at hx;subst hx;exact(c0 _ aj).o) (fun x hx=>by cases hx)
   | mp O k o=>
    by_cases aj:O=γ
    ·subst aj;simp only[dV,fF,if_true];obtain⟨b',hb,g1,g2,g3⟩:=bo;rw[ah]at g2;cases g2;exact⟨Bl,b',_,g1,vU,g3⟩
    ·simp only[dV,fF,if_neg aj];exact Qk.qZ bo bq (fun x hx=>by simp[PV.refs]at hx;subst hx;exact(c0 _ aj).o) (fun x hx=>by cases hx)
   |rb O o n=>
    by_cases aj:O=γ
    ·simp only[dV,fF,if_pos aj];trivial
    ·simp only[dV,fF,if_neg aj];exact Qk.qZ bo bq (fun x hx=>by simp[PV.refs]at hx;subst hx;exact(c0 _ aj).o) (fun x hx=>by cases hx)
   | np O k o=>
    by_cases aj:O=γ
    ·subst aj;obtain⟨_,b',hb,g1,g2,g3⟩:=bo;rw[ah]at g2;cases g2;exact⟨Bl,b',_,g1,vU,g3⟩
    ·refine Qk.qZ (p:=.np O k o) bo bq (fun x hx=>by cases hx) (fun x hx=>?_);have e1:x=O:=by simpa[PV.aV]using hx
     rw[e1];exact c0 _ aj
   |aL O o n=>exact cell (p:=.aL O o n) bo
   |aP cs=>obtain⟨vs,e1,h1,h3⟩:=bo;refine⟨vs,e1,by simpa using h1,fun k x hk=>?_⟩;simp only[Kao,Kaa]at hk;obtain⟨y,hy,rfl⟩:=hk;exact cell (h3 k y hy)
   |fb cs=>obtain⟨vs,e1,h1,h3⟩:=bo;refine⟨vs,e1,by simpa using h1,fun k x hk=>?_⟩;simp only[Kao,Kaa]at hk;obtain⟨y,hy,rfl⟩:=hk;exact cell (h3 k y hy)
   |dx cs q=>obtain⟨vs,u,e1,h1,h3,h4⟩:=bo;refine⟨vs,u,e1,by simpa using h1,fun k x hk=>?_,h4.mono bq.bV bq.out bq.size⟩;simp only[Kao,Kaa]at hk;obtain⟨y,hy,rfl⟩:=hk;exact cell (h3 k y hy)
   | aJ O e' ty' ys=>
    simp only[dV];split
    ·trivial
    ·rename_i aj;obtain⟨k0,he,b',hb,cur',eJ,k1,k2,k3,k4,k5,k6,k7,k8,k9,sK,qX⟩:=bo;have tW:∀(k:Nat)(x:PV),ys[k]? =some x->(gw (x.bg.map (fF γ))).bg=x.bg.map (fF γ):=fun k x hx=>by refine Uk fun c hc=>?_;obtain⟨y,hy,rfl⟩:=KaA.1 hc;obtain⟨j,hj⟩:=KaF hy;exact(cell (qX k x hx j y hj)).one
     refine⟨k0,he,b',hb,cur',eJ,k1,by rw[po O aj];exact k2,k3,k4,k5,k6,k7,by simpa using k8,k9,fun k x hx=>?_,fun k x hx j y hy=>?_⟩
     ·simp only[Kao,Kaa]at hx;obtain⟨x0,bR,rfl⟩:=hx;rw[tW k x0 bR,KaJ];exact sK k x0 bR
     ·simp only[Kao,Kaa]at hx;obtain⟨x0,bR,rfl⟩:=hx;rw[tW k x0 bR,Kao,Kaa]at hy;obtain⟨y0,dG,rfl⟩:=hy;exact cell (qX k x0 bR j y0 dG)
   | fn f a c=>
    simp only[dV,bU];split
    ·trivial
    ·rename_i hn;have vH:γ ∉ (PV.fn f a c).refs:=by simpa using hn
     by_cases hm:γ∈(PV.fn f a c).aV
     ·
      obtain⟨fv,cv,g1,g2,g3,g4,g5⟩:=bo;have IE:∀ {x:PV} {v:Value},γ ∉ x.bS->dp C ρ hp w x v->dp C ρ hp' w x v:=by
       intro x v hx h;cases x with
       | np O k o=>
        by_cases aj:O=γ
        ·subst aj;obtain⟨_,b',hb,k1,k2,k3⟩:=h;rw[ah]at k2;cases k2;exact⟨Bl,b',_,k1,vU,k3⟩
        ·exact dp.move (p:=.np O k o) h bq (fun x hx=>by cases hx) (fun x hx=>by simp[PV.fa]at hx;subst hx;exact(c0 _ aj).B7)
       |aL O o n=>exact cell (p:=.aL O o n) h
       |mp O k o=>exact dp.move (p:=.mp O k o) h bq (fun x aX=>by simp[PV.bS]at aX hx;subst aX;exact(c0 _ (fun e=>hx e.symm)).o) (fun x hx=>by cases hx)
       |ax O k o=>exact dp.move (p:=.ax O k o) h bq (fun x aX=>by simp[PV.bS]at aX hx;subst aX;exact(c0 _ (fun e=>hx e.symm)).o) (fun x hx=>by cases hx)
       |rb O k o=>exact dp.move (p:=.rb O k o) h bq (fun x aX=>by simp[PV.bS]at aX hx;subst aX;exact(c0 _ (fun e=>hx e.symm)).o) (fun x hx=>by cases hx)
       |_=>exact dp.move h bq (fun x hx=>by cases hx) (fun x hx=>by cases hx)
      exact⟨fv,cv,g1,g2,g3,fun k x hk=>IE (fun hx=>vH (KG hk γ hx)) (g4 k x hk),fun k x hk=>IE (fun hx=>vH (KN hk γ hx)) (g5 k x hk)⟩
     ·exact Qk.qZ bo bq (fun x hx=>(c0 x (fun e=>vH (e▸hx))).o) (fun x hx=>c0 x (fun e=>hm (e▸hx)))
   |_=>exact Qk.qZ bo bq (fun x hx=>by cases hx) (fun x hx=>by cases hx)
theorem Pp{γ e ty:Nat}{xs xs':List PV}(D:Nat->Option (Nat×Nat))(xw:fr γ= .aJ γ e ty xs)(hD:∀δ x,D δ=some x->hp δ=none/\2000000<=δ/\0<x.1)(hl:xs'.length=xs.length)
  (hx:∀(i:Nat)(x x':PV),xs[i]? =some x->xs'[i]? =some x'->x'.bg.length=x.bg.length/\∀(j:Nat)(y y':PV),x.bg[j]? =some y->x'.bg[j]? =some y'->y'=y∨(y= .ab/\∃δ z,D δ=some z/\y'= .ax δ 0 0)):
  Wk fr hp (ae fr γ (.aJ γ e ty xs')) (fun δ=>match D δ with|some x=>some ⟨x.1,x.2,[],false⟩|none=>hp δ):=by
 rintro C tmps w ⟨ρ,hs⟩;obtain⟨hp',nU⟩:∃f:HP,f=fun δ=>match D δ with|some x=>some ⟨x.1,x.2,[],false⟩|none=>hp δ:=⟨_,rfl⟩
 obtain⟨ρ',aaB⟩:∃f:Nat->Option Nat,f=fun δ=>if(D δ).isSome then none else ρ δ:=⟨_,rfl⟩
 rw[<-nU];have pD:∀δ x,D δ=some x->hp' δ=some ⟨x.1,x.2,[],false⟩/\ρ' δ=none:=fun δ x oX=>by rw[nU,aaB];simp[oX]
 have po:∀δ,D δ=none->hp' δ=hp δ/\ρ' δ=ρ δ:=fun δ oX=>by rw[nU,aaB];simp[oX]
 have hk:∀O,hp O≠none->D O=none:=fun O aj=>by
  cases hq:D O with
  |none=>rfl
  |some x=>exact absurd (hD O x hq).1 aj
 have hX:∀c,aI C ρ' hp' c->aI C ρ hp c:=by
  rintro c (h|⟨O,hb,g1,g2,g3⟩)
  ·exact .inl h
  ·cases hq:D O with
   |none=>rw[(po O hq).1]at g1;rw[(po O hq).2]at g3;exact .inr ⟨O,hb,g1,g2,g3⟩
   |some x=>rw[(pD O x hq).2]at g3;cases g3
 have bq:nt w w (aI C ρ hp) (aI C ρ' hp'):=⟨fun _ _ _=>rfl,fun c _ hn h=>hn (hX c h),Kae _⟩
 have c0:∀O,hp O≠none->qv ρ ρ' hp hp' w w O:=fun O aj=>⟨(po O (hk O aj)).2,fun hb hq=>⟨hb,by rw[(po O (hk O aj)).1];exact hq,rfl,Kae _,fun _ _ _ h=>h,fun h=>⟨h,rfl,fun _ _=>rfl⟩⟩⟩
 refine⟨ρ',hs.sz,hs.ext,hs.fI,fun O hb aj=>?_,fun O δ c g1 g2 g3 g4=>?_,fun i=>?_⟩
 ·cases hq:D O with
  |some x=>rw[(pD O x hq).1]at aj;cases aj;obtain⟨_,d2,d3⟩:=hD O x hq;refine⟨d3,(fun i x hx=>by simp at hx),?_,(fun h=>by simp[aQ]at h;omega),fun h=>by simp[fH]at h;omega⟩;rw[(pD O x hq).2]
  |none=>
   rw[(po O hq).1]at aj;obtain⟨q1,q2,q3,q4,q5⟩:=hs.own O hb aj;refine⟨q1,q2,?_,(by rw[(po O hq).2];exact q4),q5⟩;rw[(po O hq).2];cases hr:ρ O with
   |none=>rw[hr]at q3;exact q3
   |some c=>rw[hr]at q3;exact⟨q3.1,q3.2.1,q3.2.2.move rfl rfl rfl rfl bq.rc⟩
 ·have f:∀O,hp' O≠none->∀c,ρ' O=some c->hp O≠none/\ρ O=some c:=fun O aj c hc=>by
   cases hq:D O with
   |none=>rw[(po O hq).1]at aj;rw[(po O hq).2]at hc;exact⟨aj,hc⟩
   |some x=>rw[(pD O x hq).2]at hc;cases hc
  exact hs.inj O δ c (f O g1 c g3).1 (f δ g2 c g4).1 (f O g1 c g3).2 (f δ g2 c g4).2
 ·have xy:=(hs.dm i).known;have old:Qk C ρ' hp' w (fr i) (tmps.getD i undef):=(hs.dm i).qZ bq (fun O aj=>(c0 O (xy.1 O aj)).o) (fun O aj=>c0 O (xy.2 O aj));unfold ae;split
  ·rename_i hi;subst hi;rw[xw]at old;obtain⟨k0,he,b',hb,cur',eJ,k1,k2,k3,k4,k5,k6,k7,k8,k9,sK,qX⟩:=old;have eR:∀(k:Nat)(x':PV),xs'[k]? =some x'->∃x,xs[k]? =some x:=fun k x' cG=>by
    have:k<xs.length:=by have:=(Kaf.1 cG).1;omega
    exact⟨_,Kad this⟩
   refine⟨k0,he,b',hb,cur',eJ,k1,k2,k3,k4,k5,k6,k7,by omega,k9,fun k x' cG=>?_,fun k x' cG j y' oV=>?_⟩
   ·obtain⟨x,vP⟩:=eR k x' cG;rw[(hx k x x' vP cG).1];exact sK k x vP
   ·obtain⟨x,vP⟩:=eR k x' cG;obtain⟨l1,l2⟩:=hx k x x' vP cG;have hj:j<x.bg.length:=by have:=(Kaf.1 oV).1;omega
    have hy:=Kad hj;have hr:=qX k x vP j _ hy;rcases l2 j _ y' hy oV with e1|⟨e1,δ,z,e2,e3⟩
    ·rw[e1];exact hr
    ·rw[e1]at hr;obtain⟨_,d2,_⟩:=hD δ z e2;rw[e3];have hv:cur'.getD (k*e+j) undef= .slice none 0 0:=by generalize cur'.getD (k*e+j) undef=u at hr;cases hr;rfl
     exact⟨by simp[bW];omega,_,(pD δ z e2).1,Kae _,.inl ⟨(pD δ z e2).2,hv,rfl,rfl⟩⟩
  ·exact old
def F6:List PV->PV
 | [c]=>c
 |cs=>.agg cs
def pS(fr:Fr)(hp:HP):Nat->PV->PV
 |0,p=>p
 | k+1,p=>match p with
  |.ax O o n=>match hp O with
   |some hb=>.sl hb.e ((hb.xs.drop o).take n)
   |none=>.undef
  |.aL γ o n=>match fr γ with
   |.aJ _ e _ xs=>.sl e (((xs.drop o).take n).map fun x=>F6 (x.bg.map (pS fr hp k)))
   |_=>.undef
  |p=>p
def ug(fr:Fr):Nat->PV->List Nat
 |0,_=>[]
 | k+1,p=>match p with
  |.ax O _ _=>[O]
  |.aL γ o n=>match fr γ with
   |.aJ _ _ _ xs=>γ::(((xs.drop o).take n).flatMap fun x=>x.bg.flatMap (ug fr k))
   |_=>[]
  |_=>[]
def F9(fr:Fr):Nat->PV->Prop
 |0,p=>match p with
  |.undef| .ax _ _ _| .aL _ _ _=>False
  |_=>True
 | k+1,p=>match p with
  |.undef=>False
  |.ax O _ _=>aQ O=false
  |.aL γ o n=>match fr γ with
   |.aJ bj _ _ xs=>bj=γ/\aQ γ=false/\o+n<=xs.length/\∀x∈(xs.drop o).take n,∀c∈x.bg,F9 fr k c
   |_=>False
  |_=>True
theorem ajG{tmps:Array Value}(h:Qt C ρ fr hp tmps w){O b:Nat}{hb:HB}{l:List Nat}(hB:aQ O=false)(aj:hp O=some hb)(hl:O∈l)(bE:ρ O=some b):¬aI C ρ (Q6 hp l) b:=by
 have bc:=(h.own O hb aj).bV;rw[bE]at bc;rintro(hx|⟨γ,hg,h1,h2,h3⟩)
 ·exact Ctx.IF bc.1 (AA hB) hx
 ·obtain⟨oL,g1,_,_,_,_,g6⟩:=Cp h1;have:=h.inj γ O b (by simp[g1]) (by simp[aj]) h3 bE;subst this;exact g6 h2 hl
theorem ae6{cs:List PV}(h:∀c∈cs,c.cells=[c]):(F6 cs).cells=cs:=by
 match cs,h with
 | [],_=>rfl
 | [c],h=>exact h c (by simp)
 |_::_::_,_=>rfl
theorem Mh{tmps:Array Value}(h:Qt C ρ fr hp tmps w){l:List Nat}:∀(k:Nat) {p:PV} {v:Value},cZ C ρ hp w p v->F9 fr k p->(∀O∈ug fr k p,O∈l)->Qn w (aI C ρ (Q6 hp l)) (pS fr hp k p) v
 |0,p,v,hr,ho,_=>by
  cases p with
  |undef=>cases ho
  |ax=>cases ho
  |aL=>cases ho
  |_=>exact Qn.freeze hr
 | k +1,p,v,hr,ho,hl=>by
  cases p with
  |undef=>cases ho
  |ax O o n=>
   obtain⟨hb,aj⟩:∃hb,hp O=some hb:=by obtain⟨_,hb,h1,_⟩:=hr;exact⟨hb,h1⟩
   have:=fm.snap h hr.2 ho (hl O (by simp[ug])) aj;simp only[pS,aj];exact this
  | aL γ o n=>
   simp only[F9]at ho;split at ho
   ·rename_i bj e ty xs ah;obtain⟨rfl,hY,ho1,zk⟩:=ho;have bo:=h.dm bj;rw[ah]at bo;obtain⟨k0,he,b,hb,cur,cap,k1,k2,k3,k4,k5,k6,k7,k8,k9,sK,qX⟩:=bo;obtain⟨_,cN,b2,yJ,g1,g2,rfl,g4,g5,g6⟩:=hr;rw[k2]at g1;cases g1;rw[k1]at g2;cases g2;have tV:bj∈l:=hl bj (by simp[ug,ah]);have hX:=ajG (l:=l) h hY k2 tV k1;have ao:=(Kan.1 k6).1;obtain⟨cur',ty',d1,d2⟩:=g4;rw[k6]at d1;cases d1;rw[k4]at d2;have jg:cap=o+yJ:=KbI he (by rw[<-k7,<-d2]);have key:∀i (x:PV),((xs.drop o).take n)[i]? =some x->i<n/\xs[o+i]? =some x:=fun i x hx=>by
     have hi:i<n:=by have:=(Kaf.1 hx).1;simp at this;omega
     rw[KaI hi,Ka4]at hx;exact⟨hi,hx⟩
    have W9:∀i (x:PV),((xs.drop o).take n)[i]? =some x->∀j (y:PV),x.bg[j]? =some y->Qn w (aI C ρ (Q6 hp l)) (pS fr hp k y) (cur.getD ((o+i)*e+j) undef):=fun i x hx j y hy=>by have oU:=Kai hx;refine Mh h k (qX (o+i) x (key i x hx).2 j y hy) (zk x oU y (Kai hy)) fun O aj=>hl O ?_;simp only[ug,ah];exact KaZ _ (Kaq.2 ⟨x,oU,Kaq.2 ⟨y,Kai hy,aj⟩⟩)
    have tW:∀i (x:PV),((xs.drop o).take n)[i]? =some x->(F6 (x.bg.map (pS fr hp k))).cells=x.bg.map (pS fr hp k):=fun i x hx=>by refine ae6 fun c hc=>?_;obtain⟨y,hy,rfl⟩:=KaA.1 hc;obtain⟨j,hj⟩:=KaF hy;exact(W9 i x hx j y hj).uf.2.2
    simp only[pS,ah];have hlen:(((xs.drop o).take n).map fun x=>F6 (x.bg.map (pS fr hp k))).length=n:=by simp;omega
    have:=Qn.sl (w:=w) (X:=aI C ρ (Q6 hp l)) e (((xs.drop o).take n).map fun x=>F6 (x.bg.map (pS fr hp k))) b (o*hb.e) yJ (fun i j=>cur.getD ((o+i)*e+j) undef) hX ao (by omega) (by omega)
     (fun i x hx=>by simp only[Kao,Kaa]at hx;obtain⟨x0,bR,rfl⟩:=hx;rw[tW i x0 bR,KaJ];exact sK _ x0 (key i x0 bR).2)
     (fun i hi j hj=>by rw[hlen]at hi;rw[k4];have:=oc (i:=o+i) (e:=e) (o:=0) (j:=j) (n:=e) (cap:=cap) (by omega) (by omega) hj;rw[KaP]at this;rw[show o*e+i*e+j=(o+i)*e+j by rw[KaM]];exact mr k6 (by rw[k7];exact this))
     (fun i x hx j y hy=>by simp only[Kao,Kaa]at hx;obtain⟨x0,bR,rfl⟩:=hx;rw[tW i x0 bR,Kao,Kaa]at hy;obtain⟨y0,dG,rfl⟩:=hy;exact W9 i x0 bR j y0 dG)
    rw[hlen]at this;exact this
   ·exact ho.elim
  |_=>exact Qn.freeze hr
def Gx(fr:Fr)(hp:HP)(k:Nat):PV->PV
 |.aP cs=>.agg (cs.map (pS fr hp k))
 |p=>pS fr hp k p
def Ce(fr:Fr)(k:Nat):PV->List Nat
 |.aP cs=>cs.flatMap (ug fr k)
 |p=>ug fr k p
def aaU(fr:Fr)(k:Nat):PV->Prop
 |.aP cs=>∀c∈cs,F9 fr k c
 |.aL γ o n=>F9 fr k (.aL γ o n)
 |_=>False
theorem amZ(s k:Nat)(ho:aaU fr k (fr s)):Wk fr hp (ae fr s (Gx fr hp k (fr s))) (Q6 hp (Ce fr k (fr s))):=by
 rintro C tmps w ⟨ρ,hs⟩;have hf:=hs.freeze (Ce fr k (fr s));refine⟨ρ,hf.sz,hf.ext,hf.fI,hf.own,hf.inj,fun i=>?_⟩;unfold ae;split
 ·rename_i hi;subst hi;have bo:=hs.dm i;generalize aA:fr i=p at *
  cases p with
  |aP cs=>obtain⟨vs,e1,h1,h2⟩:=bo;refine⟨vs,e1,by simpa using h1,fun j x hj=>?_⟩;simp only[Kao,Kaa]at hj;obtain⟨y,hy,rfl⟩:=hj;exact Mh hs k (h2 j y hy) (ho y (Kai hy)) fun O aj=>Kaq.2 ⟨y,Kai hy,aj⟩
  |aL γ o n=>have:=Mh (l:=ug fr k (.aL γ o n)) hs k (p:=.aL γ o n) bo ho (fun O aj=>aj);exact Qk.mZ (Q8.sN this)
  |_=>cases ho
 ·exact hf.dm i
end Go.FW
namespace Go.FW
open Go
variable {C : Ctx} {ρ : Nat -> Option Nat} {fr aC : Fr} {hp hp' : HP} {w w' : World} {K R : Qg}
def wQ(args:List PV)(G:Fr):Fr:=fun s=>if s<1000000 then(args[s]?).getD .undef else G s
def vd(r:PV)(F:Fr):Fr:=fun s=>if s=0 then r else if s<1000000 then .undef else F s
def Ctx.kW(C:Ctx)(n:Nat)(hn:n<=1000000):Ctx:={ C with N:=n,hN:=hn }
theorem vb.kW{C:Ctx}{n:Nat}{hn:n<=1000000}{O:Nat}{hb:HB}:vb (C.kW n hn) ρ hp w O hb↔vb C ρ hp w O hb:=⟨fun h=>⟨h.lE,h.len,h.bV,h.fix,h.ro⟩,fun h=>⟨h.lE,h.len,h.bV,h.fix,h.ro⟩⟩
def Ax(P:Program)(f:FuncId)(args:List PV)(G:Fr)(aA:HP)(bm:PV->Fr->HP->Prop):Prop:=
 lT P f/\∀(C:Ctx)(ρ:Nat->Option Nat)(aR:Array Value)(w:World),C.P=P->C.w0=w->C.N=args.length->Qt C ρ (wQ args G) aA aR w->
  Calls P f aR w fun e w'=>∃v ρ' r F H,e= .returned v/\Qt (C.kW 1 (by decide)) ρ' (vd r F) H #[v] w'/\bm r F H
def PV.OD:PV->Bool
 |.ax O _ _=>bW O
 |.int .. | .bool _| .ab=>true
 |_=>false
theorem Qk.Gi{p:PV}{v:Value}(h:Qk C ρ hp w p v)(h1:p.OD=true):cZ C ρ hp w p v:=by
 cases p with
 |ax O o n=>exact⟨h1,h⟩
 |int k n=>exact h
 |bool b=>exact h
 |ab=>exact h
 |_=>cases h1
def Iz(fr:Fr)(s n:Nat)(cs:List PV):Prop:=∃γ i o e ty xs,fr s= .np γ i o/\fr γ= .aJ γ e ty xs/\∃h:i<xs.length,o+n<=e/\ue true n o (xs[i]'h)= .aP cs
theorem awI{P:Program}(hP:C.P=P){a:Act}{x t n:Nat}{cs:List PV}(hc:ie P (.cell x t)=some (.cell x n true))(h:Qt C ρ fr hp a.tmps w)(hn:Iz fr x n cs):
  ∃vs:Array Value,(lu a.tmps (.cell x t)).run P w= .ok (.agg vs) w/\vs.size=cs.length/\∀(i:Nat)(y:PV),cs[i]? =some y->cZ C ρ hp w y (vs.getD i undef):=by
 subst hP;obtain⟨γ,i,o,e,ty,xs,h1,h2,hi,hle,hr⟩:=hn;simp only[ie,Kab,Kaa]at hc;obtain⟨n',vH,ag,kj,he⟩:=hc;cases he;have hx:=h.dm x;rw[h1]at hx;obtain⟨hB,b,hb,g1,g2,g3⟩:=hx.JO;have bo:=h.dm γ;rw[h2]at bo;obtain⟨_,y5,b',au,cur,cap,q1,q2,q3,q4,q5,q6,q7,q8,q9,zN,vV⟩:=bo;rw[g1]at q1;cases q1;rw[g2]at q2;cases q2;rw[q4]at g3;have gm:=Kad hi;have cF:=zN i _ gm;have kS:∀j,j<n->i*e+o+j<cur.size:=fun j hj=>by rw[q7];exact oc (show i<cap by omega) hle hj
 have bQ:=Co (P:=C.P) (t:=t) (b:=b) (off:=i*e+o) (vs:=Array.ofFn (n:=n) fun j=>cur.getD (i*e+o+j.val) undef) vH kj (fun h=>by cases h) (by simp) w
  (fun j hj=>by rw[s7 (f:=fun j=>cur.getD (i*e+o+j) undef) hj];exact mr q6 (kS j hj))
 have gA:=L4 (C:=C) (ρ:=ρ) (hp:=hp) (w:=w) (ag:=true) (n:=n) (off:=o) (x:=xs[i]) (vs:=Array.ofFn (n:=n) fun j=>cur.getD (i*e+o+j.val) undef) (by simp) (by rw[cF];exact hle) (fun h=>by cases h) (fun j y hj hy=>by rw[s7 (f:=fun j=>cur.getD (i*e+o+j) undef) hj,KbW];exact vV i _ gm (o+j) y hy);rw[hr]at gA;obtain⟨vs,ev,k1,k2⟩:=gA;refine⟨vs,?_,k1,k2⟩;rw[<-ev,<-bQ];simp only[lu,g3,asAddr,Kal,KaW,Kaj]
def ve(rs:List RV)(bm:PV->Fr->HP->Prop):Qg:=fun fr hp=>∃aC hp',Wk fr hp aC hp'/\
 (gG rs (fun r=>bm r aC (Q6 hp' (rs.flatMap (lr aC)))) aC hp'∨(∃s,rs=[.t s]/\bm (aC s) aC hp')∨(∃s t,rs=[.t s,.t t]/\(aC s).OD=true/\(aC t).OD=true/\bm (.fb [aC s,aC t]) aC hp')∨∃s n b cs,rs=[.cell s n true,b]/\lr aC b=[]/\lN aC hp' b/\Iz aC s n cs/\bm (.dx cs (kV aC hp' b)) aC hp')
theorem Pq{s n:Nat}{b:RV}{cs:List PV}{bm:PV->Fr->HP->Prop}(h1:Iz fr s n cs)(h2:lr fr b=[])(h3:lN fr hp b)(h:bm (.dx cs (kV fr hp b)) fr hp):ve [.cell s n true,b] bm fr hp:=⟨fr,hp,Wk.refl _ _,.inr (.inr (.inr ⟨s,n,b,cs,rfl,h2,h3,h1,h⟩))⟩
theorem ajH{rs:List RV}{bm:PV->Fr->HP->Prop}:KM (ve rs bm) (ve rs bm):=by rintro f f' hp hf ⟨aC,hp',h1,h2⟩;exact⟨aC,hp',hf.wk.trans h1,h2⟩
theorem VM{rs:List RV}{bm:PV->Fr->HP->Prop}:fC (ve rs bm) []:=⟨ajH,.nil⟩
theorem Af {P : Program} {f : FuncId} {fn : Func} {sf : az} {args : List PV} {G : Fr} {aA : HP} {bm : PV -> Fr -> HP -> Prop} (hm : P.follows .mixedOrders = true) (hf : P.funcs[f]? = some fn) (qe : (fn.name != "runtime.NumGoroutine") = true) (hc : Qd P fn = some sf.strip) (hn : args.length <= sf.n /\ sf.n <= 1000000)
  (hv:∀C:Ctx,C.P=P->vc C (ve sf.rs bm) [.c sf.body] (wQ args G) aA):Ax P f args G aA bm:=by
 simp only[Qd,Kab,Kaa]at hc;obtain⟨c,hb,sb,jK,rs,dw,Fm⟩:=hc;obtain⟨n,OH,body⟩:=sf;simp only[az.strip,az.mk.injEq]at Fm;obtain⟨rfl,rfl,rfl⟩:=Fm;refine⟨by simp[lT,hf,hb];simpa using qe,fun C ρ aR w hP hw hN hs=>?_⟩;subst hP;refine calls_of_wp hf hb ?_;have me:aR.size=args.length:=by rw[hs.sz,hN]
 have qW:(aR++Array.replicate (fn.ntmps-aR.size) undef).size=fn.ntmps:=by simp at hn ⊢;omega
 have qh:Qt (C.kW fn.ntmps hn.2) ρ (wQ args G) aA (aR++Array.replicate (fn.ntmps-aR.size) undef) w:=by
  refine⟨qW,hs.ext,hs.fI,fun O hb h=>vb.kW.2 (hs.own O hb h),hs.inj,fun i=>?_⟩;have bo:=hs.dm i;by_cases hi:i<args.length
  ·have e:(aR++Array.replicate (fn.ntmps-aR.size) undef).getD i undef=aR.getD i undef:=by rw[lP,if_pos (by omega)]
   rw[e];exact bo
  ·unfold wQ at bo⊢;split
   ·rw[Kb8 (by omega)];trivial
   ·rename_i h2;rw[if_neg h2]at bo;have e1:aR.getD i undef=undef:=by simp[Array.getD,me,hi]
    have e2:(aR++Array.replicate (fn.ntmps-aR.size) undef).getD i undef=undef:=by simp only[Array.getD];rw[dif_neg (by rw[qW];simp at hn;omega)]
    rw[e2];rw[e1]at bo;exact bo
 have fin:∀(fr:Fr) (hp:HP) (a:Act) (w':World),a.defers=[]->eE (C.kW fn.ntmps hn.2) fr hp a.tmps w'->ve rs bm fr hp->
   a.defers=[]/\∃v,(results fn a.tmps).run C.P w'= .ok v w'/\∃v' ρ' r F H,Ending.returned v= .returned v'/\Qt (C.kW 1 (by decide)) ρ' (vd r F) H #[v'] w'/\bm r F H:=by
  rintro fr hp a w' hd ub ⟨nF,cK,Of,hr⟩;obtain⟨zV,fM⟩:=Of _ _ _ ub;have ghost:∀ {cg:HP} {r:PV} {v:Value},Qt (C.kW fn.ntmps hn.2) zV nF cg a.tmps w'->Qk C zV cg w' r v->Qt (C.kW 1 (by decide)) zV (vd r nF) cg #[v] w':=by
   intro cg r v dF vN;refine⟨rfl,dF.ext,dF.fI,fun O hb h=>vb.kW.2 (vb.kW.1 (dF.own O hb h)),dF.inj,fun i=>?_⟩;unfold vd;split
   ·rename_i hi;subst hi;exact vN
   ·split
    ·trivial
    ·rename_i h0 h1;have bo:=dF.dm i;have e1:a.tmps.getD i undef=undef:=by have hz:a.tmps.size=fn.ntmps:=dF.sz;have Ff:fn.ntmps<=1000000:=hn.2;simp only[Array.getD];rw[dif_neg (by omega)]
     have e2:(#[v]:Array Value).getD i undef=undef:=by simp only[Array.getD];rw[dif_neg (by simp;omega)]
     rw[e2];rw[e1]at bo;exact bo
  rcases hr with hr|⟨s,Fl,iL⟩|⟨s,t,Fl,dF,Jy,iL⟩|⟨s,n,b,cs,Fl,ZJ,bd,tW,iL⟩
  ·obtain⟨v,r,h1,h2,_,h3⟩:=Lb (C:=C.kW fn.ntmps hn.2) rfl dw fM hr;refine⟨hd,v,h1,v,zV,r,nF,_,rfl,ghost (fM.freeze _) (Qk.JP h2),h3⟩
  ·subst Fl;obtain⟨x,hx⟩:∃x,fn.results.toList=[x]:=by have:=nh dw;exact List.length_eq_one_iff.1 (by rw[<-this.1];rfl)
   have lI:ie C.P x=some (.t s):=by rw[hx]at dw;simp only[Kch,KcZ,KbX,Kcl,Kab,KaD]at dw;obtain⟨y,h1,_,_,h2⟩:=dw;simp only[KcR]at h2;rw[<-h2.1];exact h1
   have sG:x= .tmp s:=by
    cases x with
    |tmp t=>simpa[ie]using lI
    |cell y t=>simp[ie,Kab]at lI
   subst sG;have fq:(results fn a.tmps).run C.P w'= .ok (a.tmps.getD s undef) w':=by have e:results fn a.tmps=(do let vs<-fn.results.mapM (lu a.tmps);pure (if h:vs.size=1 then vs[0]else .tuple vs)):=rfl;rw[e,Kbz,hx];simp[Kal,lu]
   exact⟨hd,_,fq,_,zV,_,nF,cK,rfl,ghost fM (fM.dm s),iL⟩
  ·subst Fl;have hlen:=nh dw;obtain⟨x,y,hx⟩:∃x y,fn.results.toList=[x,y]:=by
    have h2:fn.results.toList.length=2:=by rw[<-hlen.1];rfl
    match h3:fn.results.toList,h2 with
    | [x,y],_=>exact⟨x,y,rfl⟩
   rw[hx]at dw;simp only[Kch,KcZ,KbX,Kcl,Kab,KaD]at dw;obtain⟨u1,k1,l1,⟨u2,k2,l2,k3,k4⟩,k5⟩:=dw;subst k3 k4;simp only[KcR,and_true]at k5;obtain⟨rfl,rfl⟩:=k5;have tm:∀ {z:ResultVar} {s:Nat},ie C.P z=some (.t s)->z= .tmp s:=fun {z s} hz=>by
    cases z with
    |tmp t=>simpa[ie]using hz
    |cell y t=>simp[ie,Kab]at hz
   obtain rfl:=tm k1;obtain rfl:=tm k2;have fq:(results fn a.tmps).run C.P w'= .ok (.tuple #[a.tmps.getD s undef,a.tmps.getD t undef]) w':=by have e:results fn a.tmps=(do let vs<-fn.results.mapM (lu a.tmps);pure (if h:vs.size=1 then vs[0]else .tuple vs)):=rfl;rw[e,Kbz,hx];simp[Kal,lu]
   refine⟨hd,_,fq,_,zV,_,nF,cK,rfl,ghost (r:=.fb [nF s,nF t]) fM ⟨#[a.tmps.getD s undef,a.tmps.getD t undef],rfl,rfl,fun i x hi=>?_⟩,iL⟩
   match i,hi with
   |0,hi=>simp at hi;subst hi;exact(fM.dm s).Gi dF
   |1,hi=>simp at hi;subst hi;exact(fM.dm t).Gi Jy
   |i+2,hi=>simp at hi
  ·subst Fl;have hlen:=nh dw;obtain⟨x,y,hx⟩:∃x y,fn.results.toList=[x,y]:=by
    have h2:fn.results.toList.length=2:=by rw[<-hlen.1];rfl
    match h3:fn.results.toList,h2 with
    | [x,y],_=>exact⟨x,y,rfl⟩
   rw[hx]at dw;simp only[Kch,KcZ,KbX,Kcl,Kab,KaD]at dw;obtain⟨u1,k1,l1,⟨u2,k2,l2,k3,k4⟩,k5⟩:=dw;subst k3 k4;simp only[KcR,and_true]at k5;obtain⟨rfl,rfl⟩:=k5;obtain⟨x',t',rfl⟩:∃x' t',x= .cell x' t':=by
    cases x with
    |tmp t=>simp[ie]at k1
    |cell y t=>exact⟨y,t,rfl⟩
   have mV:x'=s:=by simp only[ie,Kab,Kaa]at k1;obtain⟨_,_,_,_,he⟩:=k1;cases he;rfl
   subst mV;obtain⟨vs,q1,q2,q3⟩:=awI (C:=C.kW fn.ntmps hn.2) rfl k1 fM tW;obtain⟨u,r1,r2⟩:=Pa (C:=C.kW fn.ntmps hn.2) rfl k2 fM bd;rw[ZJ,Cv]at r2;have fq:(results fn a.tmps).run C.P w'= .ok (.tuple #[.agg vs,u]) w':=by have e:results fn a.tmps=(do let vs<-fn.results.mapM (lu a.tmps);pure (if h:vs.size=1 then vs[0]else .tuple vs)):=rfl;rw[e,Kbz,hx];have sP:(lu a.tmps (.cell x' t')).run C.P w'= .ok (.agg vs) w':=q1;have r1':(lu a.tmps y).run C.P w'= .ok u w':=r1;simp[Kal,sP,r1']
   exact⟨hd,_,fq,_,zV,_,nF,cK,rfl,ghost (r:=.dx cs _) fM ⟨vs,u,rfl,q2,q3,r2⟩,iL⟩
 exact KS (C:=C.kW fn.ntmps hn.2) (R:=ve rs bm) hm c body [] _ (wQ args G) aA _ w jK ⟨fun fr hp a w' hd hs hv=>(by rw[wB]at hv;exact fin fr hp a w' hd hs hv),fun id fc he=>(by simp[FW.cD]at he),fin⟩ rfl ⟨ρ,qh⟩ (hv (C.kW fn.ntmps hn.2) rfl)
structure vf(C:Ctx)(hp:HP)(aA:HP)(gv:Nat->Option Nat):Prop where
 g:∀O γ,gv O=some γ->∃hb,hp γ=some hb/\bW O=true/\(fH O=true->aA O=some ⟨hb.e,hb.ty,hb.xs,true⟩)/\(fH O=false->aA O=some hb/\hb.fz=false/\bW γ=true/\(aQ O=false->aQ γ=false))
 a:∀O,aA O≠none->∃γ,gv O=some γ
 i:∀O bY γ,gv O=some γ->gv bY=some γ->O=bY
def gn(gv:Nat->Option Nat):Nat->Option Nat:=fun O=>if fH O=true then none else gv O
theorem HZ{gv:Nat->Option Nat}{O γ:Nat}(h:gn gv O=some γ):fH O=false/\gv O=some γ:=by
 unfold gn at h;split at h
 ·cases h
 ·rename_i hr;exact⟨by simpa using hr,h⟩
theorem AN{gv:Nat->Option Nat}{O:Nat}(h:fH O=false):gn gv O=gv O:=by unfold gn;rw[h];rfl
theorem vf.n{C:Ctx}{hp aA:HP}{gv:Nat->Option Nat}(hh:vf C hp aA gv)(O γ:Nat)(h:gn gv O=some γ):∃hb,aA O=some hb/\hp γ=some hb/\hb.fz=false/\bW O=true/\bW γ=true/\(aQ O=false->aQ γ=false):=by obtain⟨hr,h⟩:=HZ h;obtain⟨hb,h1,h2,_,h4⟩:=hh.g O γ h;obtain⟨k1,k2,k3,k4⟩:=h4 hr;exact⟨hb,k1,h1,k2,h2,k3,k4⟩
theorem vf.s{C:Ctx}{hp aA:HP}{gv:Nat->Option Nat}(hh:vf C hp aA gv)(O γ:Nat)(h:gv O=some γ):∃hb au,hp γ=some hb/\aA O=some au/\au.e=hb.e/\au.ty=hb.ty/\au.xs=hb.xs/\(au.fz=false->hb=au/\fH O=false)/\(fH O=true->au.fz=true)/\bW O=true:=by
 obtain⟨hb,h1,h2,h3,h4⟩:=hh.g O γ h;cases hr:fH O with
 |true=>exact⟨hb,_,h1,h3 hr,rfl,rfl,rfl,(fun h=>by cases h),fun _=>rfl,h2⟩
 |false=>obtain⟨k1,k2,_⟩:=h4 hr;exact⟨hb,hb,h1,k1,rfl,rfl,rfl,(fun _=>⟨rfl,rfl⟩),(fun h=>by cases h),h2⟩
def wR (C:Ctx) (ρ:Nat->Option Nat) (fr:Fr) (hp aA:HP) (tmps:Array Value) (w:World) (gv:Nat->Option Nat) (hs:Qt C ρ fr hp tmps w) (hh:vf C hp aA gv) (n:Nat) (hn:n<=1000000):Ctx where
 P:=C.P
 N:=n
 w0:=w
 X0:=fun b=>aI C ρ hp b/\¬∃O γ,gn gv O=some γ/\ρ γ=some b
 Er:=fun b hb=>Dx hs b hb.1
 hN:=hn
 fx:=fun O=>if aQ O=true then(gv O).bind ρ else none
 pZ :=fun O b h=>by
  split at h
  ·cases hq:gv O with
   |none=>rw[hq]at h;cases h
   |some γ=>rw[hq]at h;obtain⟨hb,h2,_⟩:=hh.g O γ hq;have:=(hs.own γ hb h2).bV;rw[show ρ γ=some b from h]at this;exact⟨this.2.1,fun hr hx=>hx.2 ⟨O,γ,(AN hr).trans hq,h⟩⟩
  ·cases h
 Z0:=fun b=>∃O γ,gn gv O=some γ/\aQ O=false/\ρ γ=some b
 I6 :=fun b ⟨O,γ,h1,h2,h3⟩=>by
  obtain⟨hb,_,k2,_⟩:=hh.n O γ h1;have:=(hs.own γ hb k2).bV;rw[h3]at this;refine⟨this.2.1,fun hx=>hx.2 ⟨O,γ,h1,h3⟩,fun bY hf=>?_⟩;split at hf
  ·rename_i hy;cases hq:gv bY with
   |none=>rw[hq]at hf;cases hf
   |some bj=>rw[hq]at hf;obtain⟨au,zE,_⟩:=hh.g bY bj hq;have e:=hs.inj γ bj b (by simp[k2]) (by simp[zE]) h3 hf;subst e;have e2:=hh.i O bY γ (HZ h1).2 hq;subst e2;rw[h2]at hy;cases hy
  ·cases hf
theorem Q73{tmps:Array Value}{w:World}{aA:HP}{gv:Nat->Option Nat}{τ:Nat->Nat}{args:List PV}{aU:List PV}{G:Fr}{av:Array Value}(hs:Qt C ρ fr hp tmps w)(hh:vf C hp aA gv)
  (FV:∀O γ,gv O=some γ->τ γ=O) (fh:av.size=args.length) (dk:args.map (dh τ)=aU) (hav:∀(i:Nat)(x:PV),args[i]? =some x->Qk C ρ hp w x (av.getD i undef))
  (qd:∀x∈args,∀γ∈x.refs++x.aV,∃O,gv O=some γ) (hG:∀s,1000000<=s->G s= .undef∨∃s',1000000<=s'/\G s=dh τ (fr s')/\∀γ∈(fr s').refs++(fr s').aV,∃O,gv O=some γ) (ej:aU.length<=1000000):
  Qt (wR C ρ fr hp aA tmps w gv hs hh aU.length ej) (fun O=>(gv O).bind ρ) (wQ aU G) aA av w:=by
 subst dk;have hX:∀b,aI (wR C ρ fr hp aA tmps w gv hs hh (args.map (dh τ)).length ej) (fun O=>(gv O).bind ρ) aA b->aI C ρ hp b:=by
  rintro b (hx|⟨O,hb,h1,h2,h3⟩)
  ·exact hx.1
  ·cases hq:gv O with
   |none=>simp only[hq]at h3;cases h3
   |some γ=>simp only[hq,Kcb]at h3;obtain⟨bw,au,k2,k1,_,_,_,k6,_⟩:=hh.s O γ hq;rw[h1]at k1;cases k1;exact .inr ⟨γ,bw,k2,by rw[(k6 h2).1];exact h2,h3⟩
 have hr:∀γ,(∃O,gv O=some γ)->wT τ ρ (fun O=>(gv O).bind ρ) hp aA γ:=fun γ ⟨O,aj⟩=>by
  obtain⟨hb,cN,k2,k1,k3,k4,k5,_,_,k8⟩:=hh.s O γ aj;refine⟨?_,fun au h'=>?_,fun _=>by rw[FV O γ aj];exact k8⟩
  ·show(gv (τ γ)).bind ρ=ρ γ;rw[FV O γ aj,aj];rfl
  ·rw[k2]at h';cases h';exact⟨cN,by rw[FV O γ aj];exact k1,k3,k4,k5⟩
 refine⟨by rw[fh];simp[wR],Ext.refl _ _,fun _ _ _ _ _ h=>h,fun O hb aj=>?_,fun O δ b h1 h2 h3 h4=>?_,fun i=>?_⟩
 ·obtain⟨γ,ah⟩:=hh.a O (by simp[aj]);obtain⟨bw,au,k2,k1,k3,k4,k5,k6,k7,_⟩:=hh.s O γ ah;rw[aj]at k1;cases k1;obtain⟨q1,q2,q3,q4,q5⟩:=hs.own γ bw k2;refine⟨by rw[k3];exact q1,by rw[k3,k5];exact q2,?_,fun hy=>?_,k7⟩
  ·simp only[ah,Kcb];cases hr:ρ γ with
   |none=>rw[hr]at q3;rw[k5];exact q3
   | some b=>
    rw[hr]at q3;refine⟨?_,q3.2.1,q3.2.2.move rfl k3 k4 k5 fun q u hq=>Qn.sub hq hX⟩;unfold Ctx.cls;split
    ·rename_i hy;show(if aQ O=true then(gv O).bind ρ else none)=some b;rw[if_pos hy,ah];exact hr
    ·rename_i hy;exact .inr ⟨O,γ,(AN (AA (by simpa using hy))).trans ah,by simpa using hy,hr⟩
  ·show(gv O).bind ρ=(if aQ O=true then(gv O).bind ρ else none)
   rw[if_pos hy]
 ·obtain⟨B8,e1⟩:=hh.a O h1;obtain⟨γ2,e2⟩:=hh.a δ h2;simp only[e1,Kcb]at h3;simp only[e2,Kcb]at h4;obtain⟨bw,k1,_⟩:=hh.g O B8 e1;obtain⟨cN,k2,_⟩:=hh.g δ γ2 e2;have:=hs.inj B8 γ2 b (by simp[k1]) (by simp[k2]) h3 h4;subst this;exact hh.i O δ B8 e1 e2
 ·unfold wQ;split
  ·rw[Kao];cases hi:args[i]? with
   |none=>trivial
   |some x=>simp only[KbT,Ka9];exact(hav i x hi).gO hX fun γ ah=>hr γ (qd x (Kai hi) γ ah)
  ·rename_i hi;have e1:av.getD i undef=undef:=by simp only[Array.getD];rw[dif_neg (by simp at ej;omega)]
   rcases hG i (by omega)with e|⟨s',fg,e,hn⟩
   ·rw[e];trivial
   ·rw[e,e1];have bo:=hs.dm s';have e2:tmps.getD s' undef=undef:=by simp only[Array.getD];rw[dif_neg (by rw[hs.sz];have:=C.hN;omega)]
    rw[e2]at bo;exact bo.gO hX fun γ ah=>hr γ (hn γ ah)
theorem ae7{tmps:Array Value}{aA H cg:HP}{gv eo:Nat->Option Nat}{σ:Nat->Nat}{F gk:Fr}{r:PV}{v:Value}{d:Option Nat}{n:Nat}{hn:n<=1000000}{n4:Nat->Option Nat}(hs:Qt C ρ fr hp tmps w)(hh:vf C hp aA gv)
  (h2:Qt ((wR C ρ fr hp aA tmps w gv hs hh n hn).kW 1 (by decide)) n4 (vd r F) H #[v] w') (hd:∀x,d=some x->x<C.N)
  (e1:∀γ O,eo γ=some O->H O≠none/\σ O=γ/\bW γ=true/\((aQ O=true/\gn gv O=some γ)∨(aQ O=false/\aQ γ=false/\(hp γ=none∨∃bY,gn gv bY=some γ))))
  (e2:∀O γ,gn gv O=some γ->aQ O=true->eo γ=some O)
  (q1:∀γ O,eo γ=some O->cg γ=H O) (q2:∀γ,eo γ=none->(∃O,gn gv O=some γ)->cg γ=none) (q3:∀γ,eo γ=none->(¬∃O,gn gv O=some γ)->cg γ=hp γ)
  (hS:∀s,gk s= .undef∨
   (d≠some s/\gk s=fr s/\(∀γ∈(fr s).refs++(fr s).aV,(¬∃O,gn gv O=some γ)∨∃O hb au,gn gv O=some γ/\aQ O=true/\hp γ=some hb/\H O=some au/\au.e=hb.e/\hb.xs.length<=au.xs.length)/\∀γ e ty xs,fr s= .aJ γ e ty xs->¬∃O,gn gv O=some γ)∨
   (d=some s/\gk s=dh σ r/\∀O∈r.refs++r.aV,eo (σ O)=some O)∨
   (∃s',1000000<=s'/\(∃γ e ty xs,F s'= .aJ γ e ty xs)/\gk s=dh σ (F s')/\∀O∈(F s').refs++(F s').aV,eo (σ O)=some O)):
  eE C gk cg (wK tmps d v) w':=by
 obtain⟨Yg,yS⟩:∃f:Nat->Prop,f=fun b=>∃O γ,gn gv O=some γ/\ρ γ=some b:=⟨_,rfl⟩
 have yX:∀b,Yg b->aI C ρ hp b:=fun b hb=>by rw[yS]at hb;obtain⟨O,γ,h1,h3⟩:=hb;obtain⟨hb,_,k2,k3,_⟩:=hh.n O γ h1;exact .inr ⟨γ,hb,k2,k3,h3⟩
 have fX:Ext Yg w w':=h2.ext.mono fun b _ hb=>by
  rw[yS];rcases hb with⟨O,hr,hb⟩|⟨O,γ,h1,_,h3⟩
  ·have hb:(if aQ O=true then(gv O).bind ρ else none)=some b:=hb;split at hb
   ·cases hq:gv O with
    |none=>rw[hq]at hb;cases hb
    |some γ=>rw[hq]at hb;exact⟨O,γ,(AN hr).trans hq,hb⟩
   ·cases hb
  ·exact⟨O,γ,h1,h3⟩
 have J6:∀b,Yg b->∃O γ,gn gv O=some γ/\ρ γ=some b/\C.cls γ b/\hp γ≠none/\fH γ=false:=fun b hb=>by
  rw[yS]at hb;obtain⟨O,γ,h1,h3⟩:=hb;obtain⟨hb,_,k2,k3,_⟩:=hh.n O γ h1;have:=(hs.own γ hb k2).bV;rw[h3]at this;refine⟨O,γ,h1,h3,this.1,by simp[k2],?_⟩;cases hR:fH γ with
  |false=>rfl
  |true=>have:=(hs.own γ hb k2).ro hR;rw[k3]at this;cases this
 have F8:∀γ b,hp γ≠none->(¬∃O,gn gv O=some γ)->ρ γ=some b->¬Yg b:=fun γ b hk vJ hr hy=>by obtain⟨O,bj,h1,h3,_,h5,_⟩:=J6 b hy;have:=hs.inj γ bj b hk h5 hr h3;subst this;exact vJ ⟨O,h1⟩
 have B1:∀O hb,H O=some hb->vb (wR C ρ fr hp aA tmps w gv hs hh n hn) n4 H w' O hb:=fun O hb h=>vb.kW.1 (h2.own O hb h);have IH:∀O γ,aQ O=true->gn gv O=some γ->H O≠none->n4 O=ρ γ:=fun O γ hy hg hH=>by obtain⟨hb,hq⟩:=Kbx.1 hH;have:=(B1 O hb hq).fix hy;rw[this];show(if aQ O=true then(gv O).bind ρ else none)=ρ γ;rw[if_pos hy,(HZ hg).2];rfl
 have Xb:∀O hb b,aQ O=false->H O=some hb->n4 O=some b->w.heap.size<=b∨Yg b:=fun O hb b hy hH hr=>by
  have:=(B1 O hb hH).bV;rw[hr]at this;rcases Ctx.w9 this.1 hy with h|⟨bY,bj,k1,_,k3⟩
  ·exact .inl h
  ·exact .inr (by rw[yS];exact⟨bY,bj,k1,k3⟩)
 have ati:∀O hb b,aQ O=false->H O=some hb->n4 O=some b->C.w0.heap.size<=b∨C.Z0 b:=fun O hb b hy hH hr=>by
  have:=(B1 O hb hH).bV;rw[hr]at this;rcases Ctx.w9 this.1 hy with h|⟨bY,bj,k1,k2,k3⟩
  ·exact .inl (KaQ hs.ext.size h)
  ·obtain⟨au,_,l2,_,_,_,l6⟩:=hh.n bY bj k1;have:=(hs.own bj au l2).bV;rw[k3]at this;exact Ctx.w9 this.1 (l6 k2)
 obtain⟨ρ',bE⟩:∃f:Nat->Option Nat,f=fun γ=>match eo γ with|some O=>n4 O|none=>ρ γ:=⟨_,rfl⟩
 have rs:∀γ O,eo γ=some O->ρ' γ=n4 O:=fun γ O h=>by rw[bE];simp[h]
 have rn:∀γ,eo γ=none->ρ' γ=ρ γ:=fun γ h=>by rw[bE];simp[h]
 have I4:∀b,aI C ρ' cg b->aI (wR C ρ fr hp aA tmps w gv hs hh n hn) n4 H b:=by
  rintro b (hx|⟨γ,hb,h1,h3,h4⟩)
  ·refine .inl ⟨.inl hx,fun hy=>?_⟩;obtain⟨_,γ,_,_,h5,_,h7⟩:=J6 b (by rw[yS];exact hy);exact Ctx.IF h5 h7 hx
  ·cases hq:eo γ with
   |some O=>rw[q1 γ O hq]at h1;rw[rs γ O hq]at h4;exact .inr ⟨O,hb,h1,h3,h4⟩
   | none=>
    rw[rn γ hq]at h4;by_cases hg:∃O,gn gv O=some γ
    ·rw[q2 γ hq hg]at h1;cases h1
    ·rw[q3 γ hq hg]at h1;exact .inl ⟨.inr ⟨γ,hb,h1,h3,h4⟩,fun hy=>F8 γ b (by simp[h1]) hg h4 (by rw[yS];exact hy)⟩
 have vz:∀b,b<w.heap.size->aI C ρ' cg b->aI C ρ hp b:=fun b hb hx=>by
  rcases I4 b hx with hx|⟨O,yU,h1,h3,h4⟩
  ·exact hx.1
  ·by_cases hy:aQ O=true
   ·have:=(B1 O yU h1).fix hy;rw[h4]at this;have this:some b=(if aQ O=true then(gv O).bind ρ else none):=this;rw[if_pos hy]at this;have hR:fH O=false:=by
     cases hR:fH O with
     |false=>rfl
     |true=>have:=(B1 O yU h1).ro hR;rw[h3]at this;cases this
    cases hq:gv O with
    |none=>rw[hq]at this;cases this
    |some γ=>rw[hq]at this;exact yX b (by rw[yS];exact⟨O,γ,(AN hR).trans hq,this.symm⟩)
   ·rcases Xb O yU b (by simpa using hy) h1 h4 with h|h
    ·omega
    ·exact yX b h
 have bq:nt w w' (aI C ρ hp) (aI C ρ' cg):=⟨fun b hb nS=>fX.block b hb fun hy=>nS (yX b hy),fun b hb nS hx=>nS (vz b hb hx),fX.size⟩
 have W7:∀O γ b,aQ O=true->gn gv O=some γ->ρ γ=some b->∀e cap,dH w b e cap->dH w' b e cap:=fun O γ b hy hg hr e cap hc=>by refine h2.fI O b ?_ e cap hc;show(if aQ O=true then(gv O).bind ρ else none)=some b;rw[if_pos hy,(HZ hg).2];exact hr
 refine⟨ρ',?_,?_,fun O b hb e cap hc=>?_,fun γ hb ah=>?_,fun γ δ b g1 g2 g3 g4=>?_,fun s=>?_⟩
 ·cases d with
  |none=>exact hs.sz
  |some d=>simp only[wK];simpa using hs.sz
 ·refine hs.ext.trans' fX fun b hb hy=>?_;obtain⟨_,_,_,_,h5,_,h7⟩:=J6 b hy;exact(Ctx.IG h5 h7).resolve_left (by omega)
 ·have h1:=hs.fI O b hb e cap hc;by_cases hy:Yg b
  ·obtain⟨O0,B8,k1,k3,k4,k5,_⟩:=J6 b hy;by_cases hY:aQ O0=true
   ·exact W7 O0 B8 b hY k1 k3 e cap h1
   ·obtain⟨_,_,_,_,_,_,l6⟩:=hh.n O0 B8 k1;exact absurd hb (Ctx.O6 (Ctx.w9 k4 (l6 (by simpa using hY))))
  ·exact mw (fX.block b (mB h1) hy) h1
 ·cases hq:eo γ with
  | some O=>
   have hH:H O=some hb:=by rw[<-q1 γ O hq];exact ah
   obtain⟨k1,k2,k3,k4⟩:=e1 γ O hq;obtain⟨o1,o2,o3,o4,o5⟩:=B1 O hb hH;refine⟨o1,o2,?_,fun hy=>?_,fun hR=>?_⟩
   ·rw[rs γ O hq];cases hr:n4 O with
    |none=>rw[hr]at o3;exact o3
    | some b=>
     rw[hr]at o3;refine⟨?_,o3.2.1,o3.2.2.move rfl rfl rfl rfl fun q u hq=>Qn.sub hq I4⟩;rcases k4 with⟨k4,k5⟩|⟨k4,k5,_⟩
     ·have e:=IH O γ k4 k5 k1;rw[hr]at e;obtain⟨au,_,l2,_⟩:=hh.n O γ k5;have:=(hs.own γ au l2).bV;rw[<-e]at this;exact this.1
     ·exact Ctx.Xc (ati O hb b k4 hH hr) k5
   ·rcases k4 with⟨k4,k5⟩|⟨_,k5,_⟩
    ·rw[rs γ O hq,IH O γ k4 k5 k1];obtain⟨au,_,l2,_⟩:=hh.n O γ k5;exact(hs.own γ au l2).fix hy
    ·rw[k5]at hy;cases hy
   ·rcases k4 with⟨k4,k5⟩|⟨_,k5,_⟩
    ·obtain⟨au,_,l2,l3,_⟩:=hh.n O γ k5;have:=(hs.own γ au l2).ro hR;rw[l3]at this;cases this
    ·rw[AA k5]at hR;cases hR
  | none=>
   by_cases hg:∃O,gn gv O=some γ
   ·rw[q2 γ hq hg]at ah;cases ah
   ·rw[q3 γ hq hg]at ah;obtain⟨o1,o2,o3,o4,o5⟩:=hs.own γ hb ah;refine⟨o1,o2,?_,(fun hy=>by rw[rn γ hq];exact o4 hy),o5⟩;rw[rn γ hq];cases hr:ρ γ with
    |none=>rw[hr]at o3;exact o3
    |some b=>rw[hr]at o3;exact⟨o3.1,KaE o3.2.1 fX.size,o3.2.2.move (fX.block b o3.2.1 (F8 γ b (by simp[ah]) hg hr)) rfl rfl rfl bq.rc⟩
 ·have Xe:∀γ δ O,eo γ=some O->eo δ=none->cg δ≠none->n4 O=some b->ρ δ=some b->False:=fun γ δ O h1 h3 h5 h6 h7=>by
   have hg:¬∃O,gn gv O=some δ:=fun hg=>h5 (q2 δ h3 hg);rw[q3 δ h3 hg]at h5;obtain⟨k1,k2,k3,k4⟩:=e1 γ O h1;obtain⟨hb,hH⟩:=Kbx.1 k1;rcases k4 with⟨k4,k5⟩|⟨k4,k5,_⟩
   ·rw[IH O γ k4 k5 k1]at h6;obtain⟨au,_,l2,_⟩:=hh.n O γ k5;have:=hs.inj γ δ b (by simp[l2]) h5 h6 h7;subst this;exact hg ⟨O,k5⟩
   ·rcases Xb O hb b k4 hH h6 with h|h
    ·obtain⟨au,hq⟩:=Kbx.1 h5;have:=(hs.own δ au hq).bV;rw[h7]at this;omega
    ·exact F8 δ b h5 hg h7 h
  cases h1:eo γ with
  | some O=>
   rw[rs γ O h1]at g3;cases h3:eo δ with
   |some bY=>rw[rs δ bY h3]at g4;have:=h2.inj O bY b (e1 γ O h1).1 (e1 δ bY h3).1 g3 g4;rw[<-(e1 γ O h1).2.1,<-(e1 δ bY h3).2.1,this]
   |none=>rw[rn δ h3]at g4;exact(Xe γ δ O h1 h3 g2 g3 g4).elim
  | none=>
   rw[rn γ h1]at g3;cases h3:eo δ with
   |some bY=>rw[rs δ bY h3]at g4;exact(Xe δ γ bY h3 h1 g1 g4 g3).elim
   | none=>
    rw[rn δ h3]at g4;have k:∀γ,eo γ=none->cg γ≠none->hp γ≠none:=fun γ h hq=>by
     by_cases hg:∃O,gn gv O=some γ
     ·exact absurd (q2 γ h hg) hq
     ·rwa[q3 γ h hg]at hq
    exact hs.inj γ δ b (k γ h1 g1) (k δ h3 g2) g3 g4
 ·have lH:∀O,eo (σ O)=some O->wT σ n4 ρ' H cg O:=fun O h=>⟨rs _ _ h,(fun hb hq=>⟨hb,by rw[q1 _ _ h];exact hq,rfl,rfl,rfl⟩),fun _=>(e1 _ _ h).2.2.1⟩
  rcases hS s with e|⟨k1,k2,k3,k4⟩|⟨k1,k2,k3⟩|⟨s',k1,k2,k3,k4⟩
  ·rw[e];trivial
  ·have hv:(wK tmps d v).getD s undef=tmps.getD s undef:=by
    cases d with
    |none=>rfl
    |some x=>simp only[wK,KaL];rw[Kb6 (fun e=>k1 (by rw[e]))]
   rw[hv,k2];have bo:=hs.dm s;have xy:=bo.known;have Xj:∀γ,hp γ≠none->(¬∃O,gn gv O=some γ)->qv ρ ρ' hp cg w w' γ:=fun γ hk hg=>by
    have xu:eo γ=none:=by
     cases hq:eo γ with
     |none=>rfl
     |some O=>
      rcases(e1 γ O hq).2.2.2 with⟨_,h⟩|⟨_,_,h|h⟩
      ·exact absurd ⟨O,h⟩ hg
      ·exact absurd h hk
      ·exact absurd h hg
    refine⟨rn γ xu,fun hb hq=>⟨hb,by rw[q3 γ xu hg];exact hq,rfl,Kae _,fun b cap hr hc=>mw (fX.block b (mB hc) (F8 γ b hk hg hr)) hc,fun he=>⟨he,rfl,fun b hr=>fX.block b ?_ (F8 γ b hk hg hr)⟩⟩⟩;have:=(hs.own γ hb hq).bV;rw[hr]at this;exact this.2.1
   have par:∀γ,hp γ≠none->((¬∃O,gn gv O=some γ)∨∃O hb au,gn gv O=some γ/\aQ O=true/\hp γ=some hb/\H O=some au/\au.e=hb.e/\hb.xs.length<=au.xs.length)->yy ρ ρ' hp cg w w' γ:=fun γ hk h=>by
    rcases h with h|⟨O,hb,au,l1,l2,l3,l4,l5,l6⟩
    ·exact(Xj γ hk h).B7
    ·have xu:=e2 O γ l1 l2;refine⟨by rw[rs γ O xu];exact IH O γ l2 l1 (by simp[l4]),fun lF hq=>?_⟩;rw[l3]at hq;cases hq;exact⟨au,by rw[q1 γ O xu];exact l4,l5,l6,fun b cap hr hc=>W7 O γ b l2 l1 hr _ cap hc⟩
   refine bo.move bq (fun γ ah=>?_) (fun γ ah=>par γ (xy.2 γ ah) (k3 γ (Kby _ ah))) (fun γ e ty xs e0=>Xj γ (xy.2 γ (by rw[e0];simp[PV.aV])) (k4 γ e ty xs e0));have:=par γ (xy.1 γ ah) (k3 γ (Kcd _ ah));exact⟨this.r,this.h⟩
  ·subst k1;have hv:(wK tmps (some s) v).getD s undef=v:=by have:=hd s rfl;simp[wK,Array.getD,hs.sz,this]
   rw[hv,k2];have:=h2.dm 0;exact Qk.gO (C':=C) (ρ':=ρ') (hp':=cg) this I4 fun O aj=>lH O (k3 O aj)
  ·obtain⟨γ,e,ty,xs,hF⟩:=k2;rw[k3];have:=h2.dm s';have e0:vd r F s'=F s':=by unfold vd;rw[if_neg (by omega),if_neg (by omega)]
   rw[e0]at this;have h3:=Qk.gO (C':=C) (ρ':=ρ') (hp':=cg) this I4 fun O aj=>lH O (k4 O aj);rw[hF]at h3⊢;exact h3
theorem ae8{tmps:Array Value}{aA H:HP}{gv:Nat->Option Nat}{F:Fr}{r:PV}{v:Value}{n:Nat}{hn:n<=1000000}{n4:Nat->Option Nat}(hs:Qt C ρ fr hp tmps w)(hh:vf C hp aA gv)
  (h2:Qt ((wR C ρ fr hp aA tmps w gv hs hh n hn).kW 1 (by decide)) n4 (vd r F) H #[v] w') (h0:∀O,gn gv O=none):Ext Q5 w w':=h2.ext.mono fun b _ hb=>by
 rcases hb with⟨O,hr,hb⟩|⟨O,γ,h1,_,h3⟩
 ·have hb:(if aQ O=true then(gv O).bind ρ else none)=some b:=hb;have e:=(AN (gv:=gv) hr).symm;rw[e,h0 O]at hb;split at hb<;>cases hb
 ·rw[h0 O]at h1;cases h1
end Go.FW
namespace Go.FW
open Go
variable {C : Ctx} {R : Qg} {fr : Fr} {hp : HP} {K : Qg}
theorem kv{sk:List It}(h:fC R sk:=by repeat (first|exact PH|exact Wf|exact Wh|exact VL|exact VM|apply We|apply PG|apply Ri|apply RX|apply RY|apply Vf)):fC R sk:=h
theorem okB{sk:List It}(h:fC R sk:=by repeat (first|exact PH|exact Wf|exact Wh|exact VL|exact VM|apply We|apply PG|apply Ri|apply RX|apply RY|apply Vf|apply Q7y)):fC R sk:=h
theorem aw {P : Program} {f : FuncId} {fn : Func} {sf : az} {args : List PV} {Rr : PV -> Prop} {n : Nat} {rs : List RV} {b : SC} (hm : P.follows .mixedOrders = true) (hf : P.funcs[f]? = some fn) (hc : Qd P fn = some sf) (hv : ∀ C : Ctx, C.P = P -> vc C (gG rs Rr) [.c b] (iG args) aA) (he : sf = ⟨n, rs, b⟩ := by conv => lhs; whnf; try dsimp only [Zo, Zg, Zm, Zc, Zf, Zl, Zh, Zs, Zi, Zb, Zk, Zn, Zu, Zq, Zr, Zz, Ya, Yb, Yc, Yd, Ye, Yf, Yh, Yj, Yk, Yl, Ym, Yn, Yo, Yp, Yq, Yr, Ys, Yu, Yv, Yw, Yx, Yy, Yz, YA, YB, YC, YD, YE, YG, YH, YI, YJ, YK, YL, YM, YN, YO, YP, YQ, YS, YT, YU, YV, YW, YX, YY, YZ, dW, bP, gH, j', dP, dX, pQ, Bf, eu, wV, Bg, cV, wW, DR, dJ, tG, DS, jG, fU, DT, jc, tH, oE, yF, tI, jZ, ir, et, yE, mF, DN, eG, ja, tF, Bd, rW, oD, jb, j0, DO, Be, wU, DP, fJ, j1, lY, DQ, mG, nC, gU, yG, gI, lB, jd, lZ, Bh, dM, kN, kO, jH, ke, yH, l0, Nat.reduceAdd]) (qe : (fn.name != "runtime.NumGoroutine") = true := by exact rfl) (hn : args.length <= n /\ n <= 1000000 := by simp) : Qb P f args Rr := by subst he;exact wm hm hf qe hc hn hv
theorem Qo{P:Program}(hP:C.P=P){g:FuncId}{first cap args:List PV}{pr:Bool}{d:Option Nat}{r:PV}(h:Qb P g ((first++args++cap).map (Qr hp)) (· =r))(hK:K (gS fr d r) hp)(dR:((first++args++cap).map (Qr hp)).all PV.aG=true:=by exact rfl)(hr:(first++args++cap).flatMap PV.refs=[]:=by exact rfl):gF C pr (.fn g first cap) args d fr hp K:=Qy hP h rfl dR hr hK
theorem Oz{p:Prop}(h:p:=by omega):p:=h
theorem Nz{a b:Nat}(h:(Nat.ble a b&&Nat.ble b 1000000)=true:=by exact rfl):a<=b/\b<=1000000:=by simp only[Ka2,Nat.ble_eq]at h;exact h
theorem aq{p:Prop}{P:Program}(hP:C.P=P){g:FuncId}{first cap args aU:List PV}{pr:Bool}{d:Option Nat}{r:PV}(h:Qb P g aU (· =r))(hK:K (gS fr d r) hp)(e:p=gF C pr (.fn g first cap) args d fr hp K:=by conv=>lhs;simp+decide (disch:=try exact Dz0) only[go_sem])(ha:(first++args++cap).map (Qr hp)=aU:=by exact rfl)(dR:aU.all PV.aG=true:=by exact rfl)(hr:(first++args++cap).flatMap PV.refs=[]:=by exact rfl):p:=(e).mpr (Qy hP h ha dR hr hK)
theorem pP{p A0:Prop}(x0:A0){P:Program}(hP:C.P=P){g:FuncId}{first cap args aU:List PV}{pr:Bool}{d:Option Nat}{r:PV}(h:Qb P g aU (· =r))(hK:K (gS fr d r) hp)(e:A0->p=gF C pr (.fn g first cap) args d fr hp K:=by intro x0;conv=>lhs;simp+decide (disch:=try exact Dz1 @x0) only[go_sem,x0])(ha:(first++args++cap).map (Qr hp)=aU:=by exact rfl)(dR:aU.all PV.aG=true:=by exact rfl)(hr:(first++args++cap).flatMap PV.refs=[]:=by exact rfl):p:=(e x0).mpr (Qy hP h ha dR hr hK)
theorem cR{p A0 A1:Prop}(x0:A0)(x1:A1){P:Program}(hP:C.P=P){g:FuncId}{first cap args aU:List PV}{pr:Bool}{d:Option Nat}{r:PV}(h:Qb P g aU (· =r))(hK:K (gS fr d r) hp)(e:A0->A1->p=gF C pr (.fn g first cap) args d fr hp K:=by intro x0 x1;conv=>lhs;simp+decide (disch:=try exact Dz2 @x0 @x1) only[go_sem,x0,x1])(ha:(first++args++cap).map (Qr hp)=aU:=by exact rfl)(dR:aU.all PV.aG=true:=by exact rfl)(hr:(first++args++cap).flatMap PV.refs=[]:=by exact rfl):p:=(e x0 x1).mpr (Qy hP h ha dR hr hK)
theorem eF{p A0 A1 A2:Prop}(x0:A0)(x1:A1)(x2:A2){P:Program}(hP:C.P=P){g:FuncId}{first cap args aU:List PV}{pr:Bool}{d:Option Nat}{r:PV}(h:Qb P g aU (· =r))(hK:K (gS fr d r) hp)(e:A0->A1->A2->p=gF C pr (.fn g first cap) args d fr hp K:=by intro x0 x1 x2;conv=>lhs;simp+decide (disch:=try exact Dz3 @x0 @x1 @x2) only[go_sem,x0,x1,x2])(ha:(first++args++cap).map (Qr hp)=aU:=by exact rfl)(dR:aU.all PV.aG=true:=by exact rfl)(hr:(first++args++cap).flatMap PV.refs=[]:=by exact rfl):p:=(e x0 x1 x2).mpr (Qy hP h ha dR hr hK)
theorem jF{p A0 A1 A2 A3:Prop}(x0:A0)(x1:A1)(x2:A2)(x3:A3){P:Program}(hP:C.P=P){g:FuncId}{first cap args aU:List PV}{pr:Bool}{d:Option Nat}{r:PV}(h:Qb P g aU (· =r))(hK:K (gS fr d r) hp)(e:A0->A1->A2->A3->p=gF C pr (.fn g first cap) args d fr hp K:=by intro x0 x1 x2 x3;conv=>lhs;simp+decide (disch:=try exact Dz4 @x0 @x1 @x2 @x3) only[go_sem,x0,x1,x2,x3])(ha:(first++args++cap).map (Qr hp)=aU:=by exact rfl)(dR:aU.all PV.aG=true:=by exact rfl)(hr:(first++args++cap).flatMap PV.refs=[]:=by exact rfl):p:=(e x0 x1 x2 x3).mpr (Qy hP h ha dR hr hK)
theorem lX{p A0 A1 A2 A3 A4:Prop}(x0:A0)(x1:A1)(x2:A2)(x3:A3)(x4:A4){P:Program}(hP:C.P=P){g:FuncId}{first cap args aU:List PV}{pr:Bool}{d:Option Nat}{r:PV}(h:Qb P g aU (· =r))(hK:K (gS fr d r) hp)(e:A0->A1->A2->A3->A4->p=gF C pr (.fn g first cap) args d fr hp K:=by intro x0 x1 x2 x3 x4;conv=>lhs;simp+decide (disch:=try exact Dz5 @x0 @x1 @x2 @x3 @x4) only[go_sem,x0,x1,x2,x3,x4])(ha:(first++args++cap).map (Qr hp)=aU:=by exact rfl)(dR:aU.all PV.aG=true:=by exact rfl)(hr:(first++args++cap).flatMap PV.refs=[]:=by exact rfl):p:=(e x0 x1 x2 x3 x4).mpr (Qy hP h ha dR hr hK)
theorem eY{p q:Prop}(h:q)(e:p=q:=by conv=>lhs;try dsimp only[Zo,Zg,Zm,Zc,Zf,Zl,Zh,Zs,Zi,Zb,Zk,Zn,Zu,Zq,Zr,Zz,Ya,Yb,Yc,Yd,Ye,Yf,Yh,Yj,Yk,Yl,Ym,Yn,Yo,Yp,Yq,Yr,Ys,Yu,Yv,Yw,Yx,Yy,Yz,YA,YB,YC,YD,YE,YG,YH,YI,YJ,YK,YL,YM,YN,YO,YP,YQ,YS,YT,YU,YV,YW,YX,YY,YZ,dW,bP,gH,j',dP,dX,pQ,Bf,eu,wV,Bg,cV,wW,DR,dJ,tG,DS,jG,fU,DT,jc,tH,oE,yF,tI,jZ,ir,et,yE,mF,DN,eG,ja,tF,Bd,rW,oD,jb,j0,DO,Be,wU,DP,fJ,j1,lY,DQ,mG,nC,gU,yG,gI,lB,jd,lZ,Bh,dM,kN,kO,jH,ke,yH,l0,Nat.reduceAdd]):p:=e▸h
end Go.FW
