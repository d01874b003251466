/- Part 9 of the proof of TriangularMakes: W6, FwUE. Own lemmas; no conditions. -/
import Derived.Test.YtdjoomkeehihmaaGreatTriangularMakesPart8
set_option maxHeartbeats 1000000
set_option linter.unusedSimpArgs false
set_option linter.unusedVariables false
set_option linter.unnecessarySimpa false
set_option maxRecDepth 100000
namespace Go.Proofs.YtdjoomkeehihmaaGreat
open Go Go.FW
theorem aa7{x y:Int}(hx:nl x.natAbs<2^38)(hy:nl y.natAbs<2^38)(h0:y≠0):Qc Tryz.prog 161 [PV.zz x,PV.zz y] (· = .au [PV.rat ((x:Rat)/(y:Rat)),.int .i64 0]):=by
 have hv:=SA x y h0;have hr:=QP (n:=decide (x<0) !=decide (y<0)) (a:=ah x.natAbs) (d:=ah y.natAbs) (Qp _) (Qp _) hx hy;rw[rv,Q6,hv]at hr;have hs:=Ct (n:=decide (y<0)) (a:=ah y.natAbs) (Qp _) (by show nl _<_;omega);rw[lF]at hs;generalize(x:Rat)/(y:Rat)=Q at *
 refine Qf Qj Tryz.func161 rfl afs (by simp[Jp]) fun C hP=>?_;simp only[Jp,Zo,Zg,Zm,Zc,Zf,Zl,Zh,Zs,Zi,Zb,Zk,Zn,Zu,Zq,Zr,Zz];refine Sz0 ?_;refine Qa hP hs rfl rfl rfl ?_;refine Sz0 ?_;refine Qb (fun h=>absurd (CZ.1 h) h0) (fun _=>?_);refine Sz0 ?_;refine Qa hP hr rfl rfl rfl ?_;refine Sz0 ?_;refine jr ?_;refine Sz0 ?_;exact fb rfl rfl rfl (Qw _) (Qw _)
theorem aa8{x:Int}(hx:nl x.natAbs<2^40):Qc Tryz.prog 166 [PV.zz x] (· =PV.zz (-x)):=by
 have hs:=sL (n:= !decide (x<0)) (a:=ah x.natAbs) (Qp _) (by show nl _<_;omega);have e:zv (!decide (x<0)) (ah x.natAbs)= -x:=by rw[rG];by_cases h:x<0<;>simp[h]<;>omega
 rw[e]at hs;refine Qf Qj Tryz.func166 rfl af6 (by simp[Ju]) fun C hP=>?_;simp only[Ju,Zo,Zg,Zm,Zc,Zf,Zl,Zh,Zs,Zi,Zb,Zk,Zn,Zu,Zq,Zr,Zz];refine Sz0 ?_;refine Qa hP hs rfl rfl rfl ?_;refine Sz0 ?_;refine dA ?_;refine Sz0 ?_;exact Qd rfl rfl
theorem ZN{x y:Int}(hx:nl x.natAbs<2^35)(hy:nl y.natAbs<2^35)(h0:y≠0):Qc Tryz.prog 130 [PV.zz x,PV.zz y] (· = .au [PV.rat ((x:Rat)/(y:Rat)),.int .i64 0]):=by
 have h3:(y:Rat)≠0:=by rw[Ne,Ka6];exact h0
 have EL:nl (-x).natAbs<2^35:=by rw[KcC];exact hx
 have o1:=yW (z:=x) (D:=y.natAbs) (by omega) (by omega);have o2:=yW (z:= -x) (D:=y.natAbs) (by omega) (by omega);have e1:¬y<0->mkRat x y.natAbs=(x:Rat)/(y:Rat):=fun h=>by rw[Kb1,<-Rat.intCast_natCast];congr 2;omega
 have e2:y<0->mkRat (-x) y.natAbs=(x:Rat)/(y:Rat):=fun h=>by
  have e:(((y.natAbs:Nat):Int):Rat)= -(y:Rat):=by rw[<-Rat.intCast_neg];congr 1;omega
  rw[Kb1,<-Rat.intCast_natCast,e,Kc2];grind
 refine Qf Qj Tryz.func130 rfl af9 (by simp[IV]) fun C hP=>?_;simp only[IV,Zo,Zg,Zm,Zc,Zf,Zl,Zh,Zs,Zi,Zb,Zk,Zn,Zu,Zq,Zr,Zz];refine Sz0 ?_;refine Qa hP (GG (by omega)) rfl rfl rfl ?_;refine Sz0 ?_;refine Qb (fun h=>absurd (CZ.1 h) h0) (fun _=>?_);refine Sz0 ?_;refine Qb (fun hn=>?_) (fun hn=>?_)
 ·rw[e2 hn]at o2;generalize(x:Rat)/(y:Rat)=Q at *
  refine Sz0 ?_;refine Qa hP (aa8 (x:=x) (by omega)) rfl rfl rfl ?_;refine Sz0 ?_;refine Qa hP o2 rfl rfl rfl ?_;refine Sz0 ?_;refine jr ?_;refine Sz0 ?_;exact fb rfl rfl rfl (Qw _) (Qw _)
 ·rw[e1 hn]at o1;generalize(x:Rat)/(y:Rat)=Q at *
  refine Sz0 ?_;refine Qa hP o1 rfl rfl rfl ?_;refine Sz0 ?_;refine jr ?_;refine Sz0 ?_;exact fb rfl rfl rfl (Qw _) (Qw _)
end Go.Proofs.YtdjoomkeehihmaaGreat
namespace Go.FW
open Go
def dH(p:List Tm):Nat:=p.foldl (fun g t=>Nat.gcd g t.1.num.natAbs) 0
def aZ(p:List Tm):Nat:=p.foldl (fun l t=>l*(t.1.den/Nat.gcd l t.1.den)) 1
theorem CN{p:List Tm}{i:Nat}(h:i<p.length):dH (p.take (i+1))=Nat.gcd (dH (p.take i)) p[i].1.num.natAbs:=by rw[Kag h,dH,KbV];rfl
theorem sU{p:List Tm}{i:Nat}(h:i<p.length):aZ (p.take (i+1))=aZ (p.take i)*(p[i].1.den/Nat.gcd (aZ (p.take i)) p[i].1.den):=by rw[Kag h,aZ,KbV];rfl
structure Fm(G L:Nat):Prop where
 l0:0<L
 cop:Nat.Coprime G L
theorem TN{G L n d:Nat}(h:Fm G L)(hd:0<d)(hc:Nat.Coprime n d):
  Fm (Nat.gcd G n) (L*(d/Nat.gcd L d))/\Nat.gcd (G*(d/Nat.gcd L d)) (n*(L/Nat.gcd L d))=Nat.gcd G n:=by
 obtain⟨g,hg⟩:∃g,g=Nat.gcd L d:=⟨_,rfl⟩
 have ia:0<g:=hg▸Nat.gcd_pos_of_pos_left d h.l0;obtain⟨a,ha⟩:g∣d:=hg▸KbU L d;obtain⟨b,hb⟩:g∣L:=hg▸KbI L d;have vD:Nat.Coprime a b:=by
  have e:Nat.gcd L d=g*Nat.gcd b a:=by conv=>lhs;rw[hb,ha,Nat.gcd_mul_left]
  rw[<-hg]at e;have:Nat.gcd b a=1:=by apply Nat.eq_of_mul_eq_mul_left ia;rw[KbF];exact e.symm
  rw[Nat.Coprime,Kcx];exact this
 have e1:d/Nat.gcd L d=a:=by rw[<-hg,ha,Kbg _ ia]
 have e2:L/Nat.gcd L d=b:=by rw[<-hg,hb,Kbg _ ia]
 have UJ:=h.cop;rw[e1,e2];have xU:0<a:=Nat.pos_of_mul_pos_left (ha▸hd:0<g*a);have Ua:Nat.Coprime n a:=Nat.Coprime.coprime_dvd_right ⟨g,by rw[ha,KaS]⟩ hc;have cGb:Nat.Coprime G b:=Nat.Coprime.coprime_dvd_right ⟨g,by rw[hb,KaS]⟩ UJ;refine⟨⟨Kce h.l0 xU,?_⟩,?_⟩
 ·refine Nat.Coprime.mul_right ?_ ?_
  ·exact Nat.Coprime.coprime_dvd_left (KbI G n) UJ
  ·exact Nat.Coprime.coprime_dvd_left (KbU G n) Ua
 ·have c1:Nat.Coprime a (n*b):=Nat.Coprime.mul_right Ua.symm vD;rw[KaS G a,Nat.Coprime.gcd_mul_left_cancel _ c1,KaS n b,Nat.Coprime.gcd_mul_left_cancel_right _ cGb.symm]
theorem H3(q:Rat):Nat.Coprime q.num.natAbs q.den:=q.reduced
theorem th(p:List Tm):∀i,i<=p.length->Fm (dH (p.take i)) (aZ (p.take i))
 |0,_=>⟨by simp[aZ],by simp[dH,aZ,Nat.Coprime]⟩
 |i+1,h=>by rw[CN (by omega),sU (by omega)];exact(TN (th p i (by omega)) (KaY p[i].1.den_nz) (H3 _)).1
theorem N4(p:List Tm){i:Nat}(h:i<p.length):aZ (p.take i)∣aZ (p.take (i+1))/\p[i].1.den∣aZ (p.take (i+1)):=by
 rw[sU h];refine⟨Nat.dvd_mul_right _ _,?_⟩;generalize aZ (p.take i)=L;generalize p[i].1.den=d;obtain⟨a,ha⟩:Nat.gcd L d∣d:=KbU L d;obtain⟨b,hb⟩:Nat.gcd L d∣L:=KbI L d;generalize hg:Nat.gcd L d=g at *
 rcases Kc0 g with h0|h0
 ·rw[h0,KbH]at ha;subst ha;rw[h0]at hb;simp at hb;subst hb;simp
 ·have e1:d/g=a:=by rw[ha,Kbg _ h0]
  rw[e1];exact⟨b,by rw[ha,hb,Nat.mul_right_comm]⟩
theorem Oz(p:List Tm):∀ {i j:Nat},i<=j->j<=p.length->aZ (p.take i)∣aZ (p.take j):=by
 intro i j h hj;obtain⟨k,rfl⟩:∃k,j=i+k:=⟨j-i,by omega⟩
 clear h;induction k with
 |zero=>exact Nat.dvd_refl _
 |succ k ih=>exact Kcn (ih (by omega)) (N4 p (i:=i+k) (by omega)).1
theorem Hp(p:List Tm){i:Nat}(h:i<p.length):p[i].1.den∣aZ p:=by have h1:=(N4 p h).2;have h2:=Oz p (i:=i+1) (j:=p.length) (by omega) (Kac _);rw[Kas]at h2;exact Kcn h1 h2
def o9(L:Nat)(p:List Tm):Nat:=p.foldl (fun g t=>Nat.gcd g (t.1.num.natAbs*(L/t.1.den))) 0
theorem GJ{L:Nat}{p:List Tm}{i:Nat}(h:i<p.length):o9 L (p.take (i+1))=Nat.gcd (o9 L (p.take i)) (p[i].1.num.natAbs*(L/p[i].1.den)):=by rw[Kag h,o9,KbV];rfl
theorem N5{L:Nat}{p:List Tm}(hL:L=aZ p):∀i,i<=p.length->o9 L (p.take i)=dH (p.take i)*(L/aZ (p.take i))
 |0,_=>by simp[o9,dH]
 | i+1,h=>by
  have hi:i<p.length:=by omega
  have hd:=Oz p (i:=i+1) (j:=p.length) h (Kac _);rw[Kas,<-hL]at hd;obtain⟨c,hc⟩:=hd;have jz:=TN (th p i (by omega)) (KaY p[i].1.den_nz) (H3 p[i].1);have ic:=(th p (i+1) h).l0;have Vf:=(th p i (by omega)).l0;rw[GJ hi,N5 hL i (by omega),CN hi,<-jz.2];rw[sU hi]at hc ic;rw[sU hi];have jA:=KaY p[i].1.den_nz;generalize aZ (p.take i)=Li at *
  generalize p[i].1.den=d at *
  generalize dH (p.take i)=G at *
  generalize p[i].1.num.natAbs=n at *
  clear jz;obtain⟨g,hg⟩:∃g,g=Nat.gcd Li d:=⟨_,rfl⟩
  have ia:0<g:=hg▸Nat.gcd_pos_of_pos_left d Vf;obtain⟨a,ha⟩:g∣d:=hg▸KbU Li d;obtain⟨b,hb⟩:g∣Li:=hg▸KbI Li d;rw[<-hg]at hc ic⊢;have e1:d/g=a:=by rw[ha,Kbg _ ia]
  have e2:Li/g=b:=by rw[hb,Kbg _ ia]
  rw[e1]at hc ic⊢;rw[e2];have f1:L/Li=a*c:=by rw[hc,Kbf,Kbg _ Vf]
  have f2:L/d=b*c:=by
   have:L=d*(b*c):=by rw[hc,hb,ha];simp only[Kbf,Kbx,KaS]
   rw[this,Kbg _ jA]
  have f3:L/(Li*a)=c:=by rw[hc,Kbg _ ic]
  rw[f1,f2,f3,<-Nat.mul_assoc,<-Nat.mul_assoc,Nat.gcd_mul_right]
theorem TO{p:List Tm}:o9 (aZ p) p=dH p:=by have h:=N5 (p:=p) rfl p.length (Kac _);have h2:=(th p p.length (Kac _)).l0;rw[Kas]at h h2;rw[h,Nat.div_self h2,KbF]
theorem uU{p:List Tm}(hz:NZ p)(h0:p≠[]):dH p≠0:=by
 have hd:∀(l:List Tm)(g:Nat),l.foldl (fun g t=>Nat.gcd g t.1.num.natAbs) g∣g/\∀t∈l,l.foldl (fun g t=>Nat.gcd g t.1.num.natAbs) g∣t.1.num.natAbs:=by
  intro l;induction l with
  |nil=>intro g;simp
  |cons t l ih=>
   intro g;obtain⟨h1,h2⟩:=ih (Nat.gcd g t.1.num.natAbs);refine⟨Kcn h1 (KbI _ _),fun s hs=>?_⟩;rcases KaO.1 hs with rfl|hs
   ·exact Kcn h1 (KbU _ _)
   ·exact h2 s hs
 obtain⟨t,ht⟩:=List.exists_mem_of_ne_nil p h0;have h2:=(hd p 0).2 t ht;intro h;rw[show List.foldl (fun g t=>Nat.gcd g t.1.num.natAbs) 0 p=dH p from rfl,h]at h2;have h3:=Nat.eq_zero_of_zero_dvd h2;exact hz t ht (Rat.num_eq_zero.1 (Int.natAbs_eq_zero.1 h3))
theorem DN(x y:Nat):nl (Nat.gcd x y)<=max (nl x) (nl y):=by
 rcases Kc0 x with h|h
 ·subst h;rw[Nat.gcd_zero_left];omega
 ·have:=fE (Nat.gcd_le_left y h);omega
theorem xf{p:List Tm}{K E:Nat}(hp:PB K E p):∀i,i<=p.length->nl (dH (p.take i))<=K
 |0,_=>by simp[dH,w8]
 |i+1,h=>by rw[CN (by omega)];have h1:=xf hp i (by omega);have h2:=DN (dH (p.take i)) p[i].1.num.natAbs;have h3:=(hp _ (Kah (show i<p.length by omega))).c;unfold rs at h3;omega
theorem uV{p:List Tm}{K E:Nat}(hp:PB K E p):∀i,i<=p.length->nl (aZ (p.take i))<=1+i*K
 |0,_=>by simp[aZ,jG]
 |i+1,h=>by rw[sU (by omega),Nat.succ_mul];have h1:=uV hp i (by omega);have h2:=gJ (aZ (p.take i)) (p[i].1.den/Nat.gcd (aZ (p.take i)) p[i].1.den);have h3:=(hp _ (Kah (show i<p.length by omega))).c;have h4:=u5 p[i].1.den (Nat.gcd (aZ (p.take i)) p[i].1.den);unfold rs at h3;omega
theorem N6{p:List Tm}{K E:Nat}(hp:PB K E p):∀i,i<=p.length->nl (o9 (aZ p) (p.take i))<=K+(1+p.length*K)
 |0,_=>by simp[o9,w8]
 |i+1,h=>by
  have hi:i<p.length:=by omega
  rw[GJ hi];have h1:=N6 hp i (by omega);have h2:=DN (o9 (aZ p) (p.take i)) (p[i].1.num.natAbs*(aZ p/p[i].1.den));have h3:=(hp _ (Kah hi)).c;have h4:=gJ p[i].1.num.natAbs (aZ p/p[i].1.den);have h5:=u5 (aZ p) p[i].1.den;have h6:=uV hp p.length (Kac _);rw[Kas]at h6;unfold rs at h3;omega
def dI(p:List Tm):Rat:=((if(p.headD (0,[])).1<0 then -(aZ p:Int)else(aZ p:Int):Int):Rat)/((dH p:Int):Rat)
theorem DO(x y:Int)(hy:y≠0):rs ((x:Rat)/(y:Rat))<=max (nl x.natAbs) (max (nl y.natAbs) 1):=by
 rw[<-SA x y hy];have:=CY (zv (decide (x<0) !=decide (y<0)) (ah x.natAbs)) y.natAbs
 rwa[jF,Q6]at this
theorem OA{p:List Tm}{K E:Nat}(hp:PB K E p)(hz:NZ p)(h0:p≠[]):rs (dI p)<=1+p.length*K+K:=by
 have h1:=xf hp p.length (Kac _);have h2:=uV hp p.length (Kac _);rw[Kas]at h1 h2;have h3:=uU hz h0;unfold dI;refine Kay (DO _ _ (by omega)) ?_;rw[KaD];split
 ·rw[KcC,KaD];omega
 ·rw[KaD];omega
theorem RM{c:Rat}{L:Nat}(h:c.den∣L):(c*((L:Int):Rat)).num.natAbs=c.num.natAbs*(L/c.den):=by
 obtain⟨k,rfl⟩:=h;have jA:=c.den_nz;have e:c*(((c.den*k:Nat):Int):Rat)=((c.num*(k:Int):Int):Rat):=by
  have d1:c=(c.num:Rat)/((c.den:Int):Rat):=by
   conv=>lhs;rw[<-Rat.mkRat_self c]
   rw[Kb1,KaW]
  have k1:((c.den:Int):Rat)≠0:=by rw[Ne,Ka6];omega
  rw[Int.natCast_mul,Kbs,Kbs];generalize((c.den:Int):Rat)=D at *
  generalize(c.num:Rat)=N at *
  rw[d1];grind
 rw[e,Rat.num_intCast,Kcq,KaD,Kbg _ (KaY jA)]
end Go.FW
