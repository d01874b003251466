/- Part 11 of the proof of CertcheckNames: K16, FwUD, FwUE, FwUF, FwUI, FwUJ, FwWA, FwWB, FwWC, FwWD, FwUH, FwUK, FwWE. Own lemmas; no conditions. -/
import Derived.Test.YtccppnepkfbpkaaGreatCertcheckNamesPart10
set_option maxHeartbeats 1000000
set_option linter.unusedSimpArgs false
set_option linter.unusedVariables false
set_option linter.unnecessarySimpa false
set_option maxRecDepth 100000
namespace Go.Proofs.YtccppnepkfbpkaaGreat
open Go Go.FW
abbrev PV.frame(cs:List Cd)(vs:List Vr):PV:=.agg [.sl 2 (cs.map PV.aC),.sl 3 (vs.map PV.fvar)]
theorem Mz{S:List Q8}:∀ {n i:Nat} (h:i<n),(dF S n)[i]'(by rw[qF];exact h)=iy (dF S i) (S.getD i cJ).k (S.getD i cJ).args
 | n+1,i,h=>by
  simp only[dF];by_cases e:i<n
  ·rw[KcS (by rw[qF];exact e)];exact Mz e
  ·obtain rfl:i=n:=by omega
   rw[List.getElem_append_right (by rw[qF];omega)];simp[qF]
theorem xh{S:List Q8}{n i:Nat}(h:i<n):(dF S n).getD i 0=iy (dF S i) (S.getD i cJ).k (S.getD i cJ).args:=by rw[Kae,Kag (by rw[qF];exact h)];exact Mz h
theorem WQ.one{c:Cd}(hx:PQ 1 4 1 c.1)(hy:PQ 1 4 1 c.2):WQ 1 c:=⟨hx.mono (by omega) (by omega) (by omega),hy.mono (by omega) (by omega) (by omega)⟩
theorem NB{w:Nat}{c:Cd}(h:WQ w c)(hw:w<=8):CB c:=h.mono (by omega) (by omega) (by omega)
theorem As{S:List Q8}{G:List bD}(hF:nS S G)(hb:∀s∈S,jR s):∀i,i<=S.length->∀n,n<i->∃w:Nat,1<=w/\w<=8/\(dF S i).getD n 0=(w:Int)/\WQ w ((bC S i).1.getD n ([],[]))
 |0,_,n,h=>by omega
 | i +1,hi,n,h=>by
  have ih:=As hF hb i (by omega);have hl:=su S i;have yx:i<S.length:=by omega
  have hd:S.getD i cJ=S[i]:=by rw[Kae,Kag yx];rfl
  have aO:=hF.f.s i yx;have eE:=hF.s _ (Kah yx);have Tf:=(hb _ (Kah yx)).r;by_cases hn:n<i
  ·obtain⟨w,h1,h2,h3,h4⟩:=ih n hn;refine⟨w,h1,h2,?_,?_⟩
   ·rw[xh (show n<i+1 by omega),<-xh hn];exact h3
   ·rw[bC];simp only;rw[Kae,Kcl (by omega),<-List.getD_eq_getElem?_getD];exact h4
  obtain rfl:n=i:=by omega
  have BD:(dF S (n+1)).getD n 0<=8:=by
   have e:(dF S (n+1)).getD n 0=(dF S S.length).getD n 0:=by rw[xh (Kcv n),xh yx]
   rw[e,Kae,Kag (by rw[qF];exact yx)];exact hF.t.w _ (Kah _)
  have hc:(bC S (n+1)).1.getD n ([],[])=jl S[n].k (rv S[n].n S[n].a S[n].d) (cC (bC S n).1 S[n].args) (bC S n).2.1.length (bC S n).2.2:=by rw[bC,hd];simp only;rw[Kae,Kb0 (by omega)];simp[hl]
  rw[xh (Kcv n),hd]at BD;rw[xh (Kcv n),hd,hc];have hlen:=aO.l;have bK:∀m,m<S[n].args.length->∃w:Nat,1<=w/\w<=8/\m9 (dF S n) S[n].args m=(w:Int)/\WQ w ((cC (bC S n).1 S[n].args).getD m ([],[])):=fun m hm=>by
   have hr:=aO.r _ (Kah hm);obtain⟨w,h1,h2,h3,h4⟩:=ih S[n].args[m].toNat (by omega);refine⟨w,h1,h2,?_,?_⟩
   ·unfold m9;rw[show S[n].args.getD m 0=S[n].args[m]by rw[Kae,Kag hm];rfl];exact h3
   ·rw[show(cC (bC S n).1 S[n].args).getD m ([],[])=(bC S n).1.getD S[n].args[m].toNat ([],[])by rw[Kae,cC,Kat,Kag hm];rfl];exact h4
  have hk:=aO.k;have hq:=aO.q;generalize S[n]=s at *
  generalize bC S n=F at *
  generalize cC F.1 s.args=L at *
  generalize dF S n=W at *
  have v1:∀m:Nat,PQ 1 4 1 (Q3 m):=fun m=>PQ.var;have v0:PQ 1 4 1 []:=PQ.nil;by_cases k1:s.k=1
  ·refine⟨1,by omega,by omega,by rw[k1];rfl,WQ.one ?_ ?_⟩
   all_goals
    rw[k1];simp only[jl,sH];rw[if_pos trivial]
    repeat' split
    all_goals first|exact v1 _|exact v0
  have Td:=(show Raw 2 s.n s.a s.d from⟨Tf.la,Tf.ld,eE.1,eE.2,by omega⟩).rs;by_cases k2:s.k=2
  ·have nw:s.args.length=2:=by rw[k2]at hlen;have:fR 2=2:=(by decide);omega
   obtain⟨w0,a1,a2,a3,a4⟩:=bK 0 (by omega);obtain⟨w1,b1,b2,b3,b4⟩:=bK 1 (by omega);have e:iy W s.k s.args=((w0+w1:Nat):Int):=by rw[iy,if_pos k2,a3,b3];omega
   rw[e]at BD⊢;refine⟨w0+w1,by omega,by omega,rfl,?_⟩;rw[jl,if_neg k1,if_pos k2];exact⟨Mx a1 b1 a4.x b4.x Td,Mx a1 b1 a4.y b4.y Td⟩
  by_cases k3:s.k=3∨s.k=4
  ·have nw:s.args.length=3:=by
    rcases k3 with k3|k3
    ·rw[k3]at hlen;have:fR 3=3:=by decide
     omega
    ·rw[k3]at hlen;have:fR 4=3:=by decide
     omega
   obtain⟨w0,a1,a2,a3,a4⟩:=bK 0 (by omega);obtain⟨w1,b1,b2,b3,b4⟩:=bK 1 (by omega);obtain⟨w2,c1,c2,c3,c4⟩:=bK 2 (by omega);have e:iy W s.k s.args=((w0+w1+w2:Nat):Int):=by rw[iy,if_neg k2,if_pos k3,a3,b3,c3];omega
   rw[e]at BD⊢;refine⟨w0+w1+w2,by omega,by omega,rfl,?_⟩;rw[jl,if_neg k1,if_neg k2];by_cases q3:s.k=3
   ·rw[if_pos q3];exact⟨Ed a1 c1 b1 a4.x c4.x b4.x (by omega),Ed a1 c1 b1 a4.y c4.y b4.y (by omega)⟩
   ·rw[if_neg q3,if_pos (by omega)];exact⟨Ed a1 b1 c1 a4.x b4.y c4.y (by omega),Ed a1 c1 b1 a4.y c4.x b4.x (by omega)⟩
  by_cases k5:s.k=5
  ·have nw:s.args.length=2:=by rw[k5]at hlen;have:fR 5=2:=(by decide);omega
   obtain⟨w0,a1,a2,a3,a4⟩:=bK 0 (by omega);obtain⟨w1,b1,b2,b3,b4⟩:=bK 1 (by omega);have e:iy W s.k s.args=((2*w0+w1:Nat):Int):=by rw[iy,if_neg k2,if_neg k3,if_pos k5,a3,b3];omega
   rw[e]at BD⊢;refine⟨2*w0+w1,by omega,by omega,rfl,?_⟩;rw[jl,if_neg k1,if_neg k2,if_neg (by omega),if_neg (by omega),if_pos k5];exact⟨My a1 b1 a4.x b4.x (v1 _),My a1 b1 a4.y b4.y (v1 _)⟩
  ·have e:iy W s.k s.args=((1:Nat):Int):=by rw[iy,if_neg k2,if_neg k3,if_neg k5];rfl
   rw[e]at BD⊢;refine⟨1,by omega,by omega,rfl,?_⟩;rw[jl,if_neg k1,if_neg k2,if_neg (by omega),if_neg (by omega),if_neg k5];split
   ·exact WQ.one (v1 _) (v1 _)
   ·exact WQ.one (v1 _) (v1 _)
end Go.Proofs.YtccppnepkfbpkaaGreat
namespace Go.FW
open Go
theorem PC(x y:Int)(hy:y≠0):mkRat (zv (decide (x<0) !=decide (y<0)) (ak x.natAbs)) y.natAbs=(x:Rat)/(y:Rat):=by
 rw[KbP,sA,<-Rat.intCast_natCast];have h3:(y:Rat)≠0:=by rw[Ne,KaS];exact hy
 by_cases cU:y<0
 ·have e2:(((y.natAbs:Nat):Int):Rat)= -(y:Rat):=by rw[<-Rat.intCast_neg];congr 1;omega
  have e1:(if(decide (x<0) !=decide (y<0))=true then -(x.natAbs:Int)else x.natAbs)= -x:=by by_cases hx:x<0<;>simp[hx,cU]<;>omega
  rw[e1,e2,Rat.intCast_neg];grind
 ·have e2:(((y.natAbs:Nat):Int):Rat)=(y:Rat):=by congr 1;omega
  have e1:(if(decide (x<0) !=decide (y<0))=true then -(x.natAbs:Int)else x.natAbs)=x:=by by_cases hx:x<0<;>simp[hx,cU]<;>omega
  rw[e1,e2]
theorem aiQ{n m:Bool}{a d b c:List Nat}(hd:val d≠0)(hc:val c≠0)(hb:zv m b≠0):((zv n a*(val c:Int):Int):Rat)/((zv m b*(val d:Int):Int):Rat)=rv n a d/rv m b c:=by
 have h1:((val d:Int):Rat)≠0:=by rw[Ne,KaS];omega
 have h2:((val c:Int):Rat)≠0:=by rw[Ne,KaS];omega
 have h3:((zv m b:Int):Rat)≠0:=by rw[Ne,KaS];exact hb
 unfold rv;rw[KbP,KbP,KbD,KbD];rw[<-Rat.intCast_natCast,<-Rat.intCast_natCast];grind
def jn(p:List Tm):Nat:=p.foldl (fun g t=>Nat.gcd g t.1.num.natAbs) 0
def ca(p:List Tm):Nat:=p.foldl (fun l t=>l*(t.1.den/Nat.gcd l t.1.den)) 1
theorem Hx{p:List Tm}{i:Nat}(h:i<p.length):jn (p.take (i+1))=Nat.gcd (jn (p.take i)) p[i].1.num.natAbs:=by rw[Kam h,jn,Kb2];rfl
theorem xe{p:List Tm}{i:Nat}(h:i<p.length):ca (p.take (i+1))=ca (p.take i)*(p[i].1.den/Nat.gcd (ca (p.take i)) p[i].1.den):=by rw[Kam h,ca,Kb2];rfl
structure Ge(G L:Nat):Prop where
 l0:0<L
 cop:Nat.Coprime G L
theorem QU{G L n d:Nat}(h:Ge G L)(hd:0<d)(hc:Nat.Coprime n d):
  Ge (Nat.gcd G n) (L*(d/Nat.gcd L d))/\Nat.gcd (G*(d/Nat.gcd L d)) (n*(L/Nat.gcd L d))=Nat.gcd G n:=by
 obtain⟨g,hg⟩:∃g,g=Nat.gcd L d:=⟨_,rfl⟩
 have iL:0<g:=hg▸Nat.gcd_pos_of_pos_left d h.l0;obtain⟨a,ha⟩:g∣d:=hg▸Kce L d;obtain⟨b,hb⟩:g∣L:=hg▸KbO L d;have Ba:Nat.Coprime a b:=by
  have e:Nat.gcd L d=g*Nat.gcd b a:=by conv=>lhs;rw[hb,ha,Nat.gcd_mul_left]
  rw[<-hg]at e;have:Nat.gcd b a=1:=by apply Nat.eq_of_mul_eq_mul_left iL;rw[KbL];exact e.symm
  rw[Nat.Coprime,Kcr];exact this
 have e1:d/Nat.gcd L d=a:=by rw[<-hg,ha,Kbb _ iL]
 have e2:L/Nat.gcd L d=b:=by rw[<-hg,hb,Kbb _ iL]
 have Fi:=h.cop;rw[e1,e2];have kF:0<a:=Nat.pos_of_mul_pos_left (ha▸hd:0<g*a);have RG:Nat.Coprime n a:=Nat.Coprime.coprime_dvd_right ⟨g,by rw[ha,KaQ]⟩ hc;have cGb:Nat.Coprime G b:=Nat.Coprime.coprime_dvd_right ⟨g,by rw[hb,KaQ]⟩ Fi;refine⟨⟨KcO h.l0 kF,?_⟩,?_⟩
 ·refine Nat.Coprime.mul_right ?_ ?_
  ·exact Nat.Coprime.coprime_dvd_left (KbO G n) Fi
  ·exact Nat.Coprime.coprime_dvd_left (Kce G n) RG
 ·have c1:Nat.Coprime a (n*b):=Nat.Coprime.mul_right RG.symm Ba;rw[KaQ G a,Nat.Coprime.gcd_mul_left_cancel _ c1,KaQ n b,Nat.Coprime.gcd_mul_left_cancel_right _ cGb.symm]
theorem MA(q:Rat):Nat.Coprime q.num.natAbs q.den:=q.reduced
theorem vA(p:List Tm):∀i,i<=p.length->Ge (jn (p.take i)) (ca (p.take i))
 |0,_=>⟨by simp[ca],by simp[jn,ca,Nat.Coprime]⟩
 |i+1,h=>by rw[Hx (by omega),xe (by omega)];exact(QU (vA p i (by omega)) (KaU p[i].1.den_nz) (MA _)).1
theorem Lx(p:List Tm){i:Nat}(h:i<p.length):ca (p.take i)∣ca (p.take (i+1))/\p[i].1.den∣ca (p.take (i+1)):=by
 rw[xe h];refine⟨Nat.dvd_mul_right _ _,?_⟩;generalize ca (p.take i)=L;generalize p[i].1.den=d;obtain⟨a,ha⟩:Nat.gcd L d∣d:=Kce L d;obtain⟨b,hb⟩:Nat.gcd L d∣L:=KbO L d;generalize hg:Nat.gcd L d=g at *
 rcases Nat.eq_zero_or_pos g with h0|h0
 ·rw[h0,KbI]at ha;subst ha;rw[h0]at hb;simp at hb;subst hb;simp
 ·have e1:d/g=a:=by rw[ha,Kbb _ h0]
  rw[e1];exact⟨b,by rw[ha,hb,Nat.mul_right_comm]⟩
theorem MC(p:List Tm):∀ {i j:Nat},i<=j->j<=p.length->ca (p.take i)∣ca (p.take j):=by
 intro i j h hj;obtain⟨k,rfl⟩:∃k,j=i+k:=⟨j-i,by omega⟩
 clear h;induction k with
 |zero=>exact Nat.dvd_refl _
 |succ k ih=>exact KcI (ih (by omega)) (Lx p (i:=i+k) (by omega)).1
theorem Ly(p:List Tm){i:Nat}(h:i<p.length):p[i].1.den∣ca p:=by have h1:=(Lx p h).2;have h2:=MC p (i:=i+1) (j:=p.length) (by omega) (Kad _);rw[KaE]at h2;exact KcI h1 h2
def pR(L:Nat)(p:List Tm):Nat:=p.foldl (fun g t=>Nat.gcd g (t.1.num.natAbs*(L/t.1.den))) 0
theorem Hv{L:Nat}{p:List Tm}{i:Nat}(h:i<p.length):pR L (p.take (i+1))=Nat.gcd (pR L (p.take i)) (p[i].1.num.natAbs*(L/p[i].1.den)):=by rw[Kam h,pR,Kb2];rfl
theorem Lz{L:Nat}{p:List Tm}(hL:L=ca p):∀i,i<=p.length->pR L (p.take i)=jn (p.take i)*(L/ca (p.take i))
 |0,_=>by simp[pR,jn]
 | i+1,h=>by
  have hi:i<p.length:=by omega
  have hd:=MC p (i:=i+1) (j:=p.length) h (Kad _);rw[KaE,<-hL]at hd;obtain⟨c,hc⟩:=hd;have jd:=QU (vA p i (by omega)) (KaU p[i].1.den_nz) (MA p[i].1);have jy:=(vA p (i+1) h).l0;have SP:=(vA p i (by omega)).l0;rw[Hv hi,Lz hL i (by omega),Hx hi,<-jd.2];rw[xe hi]at hc jy;rw[xe hi];have sZ:=KaU p[i].1.den_nz;generalize ca (p.take i)=Li at *
  generalize p[i].1.den=d at *
  generalize jn (p.take i)=G at *
  generalize p[i].1.num.natAbs=n at *
  clear jd;obtain⟨g,hg⟩:∃g,g=Nat.gcd Li d:=⟨_,rfl⟩
  have iL:0<g:=hg▸Nat.gcd_pos_of_pos_left d SP;obtain⟨a,ha⟩:g∣d:=hg▸Kce Li d;obtain⟨b,hb⟩:g∣Li:=hg▸KbO Li d;rw[<-hg]at hc jy⊢;have e1:d/g=a:=by rw[ha,Kbb _ iL]
  have e2:Li/g=b:=by rw[hb,Kbb _ iL]
  rw[e1]at hc jy⊢;rw[e2];have f1:L/Li=a*c:=by rw[hc,Kba,Kbb _ SP]
  have f2:L/d=b*c:=by
   have:L=d*(b*c):=by rw[hc,hb,ha];simp only[Kba,Kbw,KaQ]
   rw[this,Kbb _ sZ]
  have f3:L/(Li*a)=c:=by rw[hc,Kbb _ jy]
  rw[f1,f2,f3,<-Nat.mul_assoc,<-Nat.mul_assoc,Nat.gcd_mul_right]
theorem QV{p:List Tm}:pR (ca p) p=jn p:=by have h:=Lz (p:=p) rfl p.length (Kad _);have h2:=(vA p p.length (Kad _)).l0;rw[KaE]at h h2;rw[h,Nat.div_self h2,KbL]
theorem Ii{p:List Tm}(hz:NZ p)(h0:p≠[]):jn p≠0:=by
 have hd:∀(l:List Tm)(g:Nat),l.foldl (fun g t=>Nat.gcd g t.1.num.natAbs) g∣g/\∀t∈l,l.foldl (fun g t=>Nat.gcd g t.1.num.natAbs) g∣t.1.num.natAbs:=by
  intro l;induction l with
  |nil=>intro g;simp
  |cons t l ih=>
   intro g;obtain⟨h1,h2⟩:=ih (Nat.gcd g t.1.num.natAbs);refine⟨KcI h1 (KbO _ _),fun s hs=>?_⟩;rcases KaC.1 hs with rfl|hs
   ·exact KcI h1 (Kce _ _)
   ·exact h2 s hs
 obtain⟨t,ht⟩:=List.exists_mem_of_ne_nil p h0;have h2:=(hd p 0).2 t ht;intro h;rw[show List.foldl (fun g t=>Nat.gcd g t.1.num.natAbs) 0 p=jn p from rfl,h]at h2;have h3:=Nat.eq_zero_of_zero_dvd h2;exact hz t ht (Rat.num_eq_zero.1 (Int.natAbs_eq_zero.1 h3))
theorem Gp(x y:Nat):nl (Nat.gcd x y)<=max (nl x) (nl y):=by
 rcases Nat.eq_zero_or_pos x with h|h
 ·subst h;rw[Nat.gcd_zero_left];omega
 ·have:=fh (Nat.gcd_le_left y h);omega
theorem Ij{p:List Tm}{K E:Nat}(hp:PB K E p):∀i,i<=p.length->nl (jn (p.take i))<=K
 |0,_=>by simp[jn,xv]
 |i+1,h=>by rw[Hx (by omega)];have h1:=Ij hp i (by omega);have h2:=Gp (jn (p.take i)) p[i].1.num.natAbs;have h3:=(hp _ (Kah (show i<p.length by omega))).c;unfold rs at h3;omega
theorem Ag{p:List Tm}{K E:Nat}(hp:PB K E p):∀i,i<=p.length->nl (ca (p.take i))<=1+i*K
 |0,_=>by simp[ca,lO]
 |i+1,h=>by rw[xe (by omega),Nat.succ_mul];have h1:=Ag hp i (by omega);have h2:=iP (ca (p.take i)) (p[i].1.den/Nat.gcd (ca (p.take i)) p[i].1.den);have h3:=(hp _ (Kah (show i<p.length by omega))).c;have h4:=xD p[i].1.den (Nat.gcd (ca (p.take i)) p[i].1.den);unfold rs at h3;omega
theorem LA{p:List Tm}{K E:Nat}(hp:PB K E p):∀i,i<=p.length->nl (pR (ca p) (p.take i))<=K+(1+p.length*K)
 |0,_=>by simp[pR,xv]
 |i+1,h=>by
  have hi:i<p.length:=by omega
  rw[Hv hi];have h1:=LA hp i (by omega);have h2:=Gp (pR (ca p) (p.take i)) (p[i].1.num.natAbs*(ca p/p[i].1.den));have h3:=(hp _ (Kah hi)).c;have h4:=iP p[i].1.num.natAbs (ca p/p[i].1.den);have h5:=xD (ca p) p[i].1.den;have h6:=Ag hp p.length (Kad _);rw[KaE]at h6;unfold rs at h3;omega
def ej(p:List Tm):Rat:=((if(p.headD (0,[])).1<0 then -(ca p:Int)else(ca p:Int):Int):Rat)/((jn p:Int):Rat)
theorem Ex(x y:Int)(hy:y≠0):rs ((x:Rat)/(y:Rat))<=max (nl x.natAbs) (max (nl y.natAbs) 1):=by
 rw[<-PC x y hy];have:=DF (zv (decide (x<0) !=decide (y<0)) (ak x.natAbs)) y.natAbs
 rwa[iO,Qt]at this
theorem MD{p:List Tm}{K E:Nat}(hp:PB K E p)(hz:NZ p)(h0:p≠[]):rs (ej p)<=1+p.length*K+K:=by
 have h1:=Ij hp p.length (Kad _);have h2:=Ag hp p.length (Kad _);rw[KaE]at h1 h2;have h3:=Ii hz h0;unfold ej;refine KaL (Ex _ _ (by omega)) ?_;rw[KaD];split
 ·rw[KcL,KaD];omega
 ·rw[KaD];omega
theorem aiR(q:Rat)(h:q≠0):rs q⁻¹ <=rs q:=by
 have hn:q.num≠0:=fun e=>h (Rat.num_eq_zero.1 e);have e:q⁻¹ =(((q.den:Int):Int):Rat)/((q.num:Int):Rat):=by
  have d1:q=(q.num:Rat)/((q.den:Int):Rat):=by
   conv=>lhs;rw[<-Rat.mkRat_self q]
   rw[KbP,Ka4]
  have k1:((q.den:Int):Rat)≠0:=by rw[Ne,KaS];have:=q.den_nz;omega
  have k3:((q.num:Int):Rat)≠0:=by rw[Ne,KaS];exact hn
  generalize(q.num:Rat)=A at *
  generalize((q.den:Int):Rat)=D at *
  rw[d1];grind
 have h2:=Ex (q.den:Int) q.num hn;have h3:=Gl q;rw[e];unfold rs at h3⊢;unfold rs at h2;rw[KaD]at h2;have h4:1<=nl q.den:=by have:=q.den_nz;apply Decidable.byContradiction;intro hc;exact this (w9.1 (by omega))
 omega
theorem OJ{c:Rat}{L:Nat}(h:c.den∣L):(c*((L:Int):Rat)).num.natAbs=c.num.natAbs*(L/c.den):=by
 obtain⟨k,rfl⟩:=h;have sZ:=c.den_nz;have e:c*(((c.den*k:Nat):Int):Rat)=((c.num*(k:Int):Int):Rat):=by
  have d1:c=(c.num:Rat)/((c.den:Int):Rat):=by
   conv=>lhs;rw[<-Rat.mkRat_self c]
   rw[KbP,Ka4]
  have k1:((c.den:Int):Rat)≠0:=by rw[Ne,KaS];omega
  rw[Int.natCast_mul,KbD,KbD];generalize((c.den:Int):Rat)=D at *
  generalize(c.num:Rat)=N at *
  rw[d1];grind
 rw[e,Rat.num_intCast,Kb4,KaD,Kbb _ (KaU sZ)]
def bX(p:List Tm):Tm:=p.headD (0,[])
theorem Ee{p:List Tm}(h:0<p.length):p[0]=bX p:=by cases p with
 |nil=>simp at h
 |cons t p=>rfl
theorem sv{p:List Tm}(h:p≠[]):bX p∈p:=by cases p with
 |nil=>exact absurd rfl h
 |cons t p=>simp[bX]
theorem Vn(t:Tm):iz [t]:=⟨by simp,trivial⟩
def eS(c:Rat):Rat:=if c<0 then -c else c
theorem rW(c:Rat):0<=eS c:=by unfold eS;grind
theorem acD(a b:Rat):eS (a+b)<=eS a+eS b:=by unfold eS;grind
theorem DL(a b:Rat):eS (a*b)=eS a*eS b:=by
 have pos:∀x:Rat,0<=x->eS x=x:=fun x h=>by unfold eS;grind
 have neg:∀x:Rat,x<=0->eS x= -x:=fun x h=>by unfold eS;grind
 rcases Decidable.em (0<=a)with ha|ha<;>rcases Decidable.em (0<=b)with hb|hb
 ·rw[pos _ (Kcy ha hb),pos _ ha,pos _ hb]
 ·have h:=Kcy ha (show 0<= -b by grind);rw[neg (a*b) (by grind),pos _ ha,neg b (by grind)];grind
 ·have h:=Kcy (show 0<= -a by grind) hb;rw[neg (a*b) (by grind),neg a (by grind),pos _ hb];grind
 ·have h:=Kcy (show 0<= -a by grind) (show 0<= -b by grind);rw[pos (a*b) (by grind),neg a (by grind),neg b (by grind)];grind
theorem xj(z:Int):eS (z:Rat)=((z.natAbs:Nat):Rat):=by
 rw[<-Rat.intCast_natCast];unfold eS;split
 ·rename_i h;have h':z<0:=by have:=(Rat.intCast_lt_intCast (a:=z) (b:=0)).1 (by simpa using h);exact this
  rw[<-Rat.intCast_neg];congr 1;omega
 ·rename_i h;have h':¬z<0:=fun hz=>h (by have:=(Rat.intCast_lt_intCast (a:=z) (b:=0)).2 hz;simpa using this);congr 1;omega
def iN(m:List Int):Nat:=(eN m 3).toNat*729+(eN m 2).toNat*81+(eN m 1).toNat*9+(eN m 0).toNat
theorem amX{a b:List Int}(ha:a.length<=4)(hb:b.length<=4):aY a b=dI a b 4:=(xm (by omega)).symm
theorem afH{a b:List Int}(ha:a.length<=4)(hb:b.length<=4)(h:aY a b<0):
  eN a 3<eN b 3∨(eN a 3=eN b 3/\(eN a 2<eN b 2∨(eN a 2=eN b 2/\(eN a 1<eN b 1∨(eN a 1=eN b 1/\eN a 0<eN b 0))))):=by
 rw[amX ha hb]at h;simp only[dI]at h;have z3:=xy (x:=eN a 3) (y:=eN b 3);have z2:=xy (x:=eN a 2) (y:=eN b 2);have z1:=xy (x:=eN a 1) (y:=eN b 1);have z0:=xy (x:=eN a 0) (y:=eN b 0);by_cases e3:eN a 3=eN b 3
 ·rw[if_pos e3]at h;refine .inr ⟨e3,?_⟩;by_cases e2:eN a 2=eN b 2
  ·rw[if_pos e2]at h;refine .inr ⟨e2,?_⟩;by_cases e1:eN a 1=eN b 1
   ·rw[if_pos e1]at h;refine .inr ⟨e1,?_⟩;by_cases e0:eN a 0=eN b 0
    ·rw[if_pos e0]at h;omega
    ·rw[if_neg e0]at h;exact z0.1 h
   ·rw[if_neg e1]at h;exact .inl (z1.1 h)
  ·rw[if_neg e2]at h;exact .inl (z2.1 h)
 ·rw[if_neg e3]at h;exact .inl (z3.1 h)
def nW(W:Rat):List Tm->Rat
 | []=>0
 |t::p=>eS t.1*W^iN t.2+nW W p
theorem PD{W:Rat}(h:0<=W):∀n:Nat,0<=W^n
 |0=>by rw[Rat.pow_zero];decide
 |n+1=>by rw[Rat.pow_succ];exact Kcy (PD h n) h
theorem PE{W:Rat}(h:1<=W):∀n:Nat,1<=W^n
 |0=>by rw[Rat.pow_zero];decide
 |n+1=>by rw[Rat.pow_succ];have h1:=PE h n;have:=Kb6 h1 (show(0:Rat)<=W by grind);grind
theorem OK{W:Rat}(h:0<=W)(c:Rat)(m:List Int):0<=eS c*W^iN m:=Kcy (rW c) (PD h _)
theorem QW{W:Rat}(h:0<=W):∀p,0<=nW W p
 | []=>by simp only[nW];decide
 |t::p=>by have h1:=OK h t.1 t.2;have h2:=QW h p;simp only[nW];grind
def Pos(p:List Tm):Prop:=∀t∈p,∀i,0<=eN t.2 i
def jE(c:Rat):Prop:=∃z:Int,c=(z:Rat)
theorem jE.add{a b:Rat}:jE a->jE b->jE (a+b):=fun⟨x,hx⟩ ⟨y,hy⟩=>⟨x+y,by rw[hx,hy,Rat.intCast_add]⟩
theorem jE.mul{a b:Rat}:jE a->jE b->jE (a*b):=fun⟨x,hx⟩ ⟨y,hy⟩=>⟨x*y,by rw[hx,hy,KbD]⟩
theorem jE.nat(n:Nat):jE (n:Rat):=⟨n,(Ka4 n).symm⟩
def IW(D F:Rat)(N:Nat)(p:List Tm):Prop:=∀t∈p,iN t.2<=N/\jE (t.1*(D*F^(N-iN t.2)))
theorem IW.cons{D F:Rat}{N:Nat}{t:Tm}{p:List Tm}:IW D F N (t::p)↔(iN t.2<=N/\jE (t.1*(D*F^(N-iN t.2))))/\IW D F N p:=by simp[IW]
def c4(m:List Int):Nat:=(((eN m 3).toNat*81+(eN m 2).toNat)*729+(eN m 1).toNat)*6561+(eN m 0).toNat
theorem aji{a b:List Int}(ha:∀i,0<=eN a i)(hb:∀i,0<=eN b i)(la:a.length<=4)(lb:b.length<=4)(pa:iN a<=6560)(pb:iN b<=6560)(h:aY a b<0):c4 a<c4 b:=by have a0:=ha 0;have a1:=ha 1;have a2:=ha 2;have a3:=ha 3;have b0:=hb 0;have b1:=hb 1;have b2:=hb 2;have b3:=hb 3;have:=afH la lb h;simp only[iN]at pa pb;simp only[c4,Zo,Zg,Zm,Zc,Zf,Zl,Zh,Zs,Zi,Zb,Zk,Zn,Zu,Zq,Zr,Zz];omega
theorem NC{a:List Int}(pa:iN a<=6560):c4 a<2^32:=by simp only[iN]at pa;simp only[c4,Zo,Zg,Zm,Zc,Zf,Zl,Zh,Zs,Zi,Zb,Zk,Zn,Zu,Zq,Zr,Zz];omega
structure BZ(D F W N0:Rat)(p:List Tm):Prop where
 i:IW D F 6560 p
 n:nW W p<=N0
 pos:Pos p
 ml:ML 4 p
 rR:aR p
theorem PF{p:List Tm}:(∀t∈p,iN t.2<=6560)->Pos p->ML 4 p->iz p->p≠[]->p.length<=c4 (bX p).2+1:=by
 induction p with
 |nil=>intro _ _ _ _ h;exact absurd rfl h
 | cons t p ih=>
  intro hp hP hM hs _;cases p with
  |nil=>simp
  |cons s p=>have h1:=ih (fun x hx=>hp x (by simp[hx])) (fun x hx=>hP x (by simp[hx])) (fun x hx=>hM x (by simp[hx])) hs.2 (by simp);have h2:=hs.1 s (by simp);have h3:=xo t.2 s.2;have h4:=aji (hP s (by simp)) (hP t (by simp)) (hM s (by simp)) (hM t (by simp)) (hp s (by simp)) (hp t (by simp)) (by omega);simp only[bX,List.headD_cons,KaT]at h1⊢;omega
theorem BZ.len{D F W N0:Rat}{p:List Tm}(h:BZ D F W N0 p):p.length<=2^32:=by
 by_cases h0:p=[]
 ·subst h0;simp
 ·have h1:=PF (fun t ht=>(h.i t ht).1) h.pos h.ml h.rR.s h0;have:=NC (h.i _ (sv h0)).1;omega
theorem Nr{W:Rat}(h:1<=W):∀ {p:List Tm} {t:Tm},t∈p->eS t.1<=nW W p
 | s::p,t,ht=>by
  have h0:(0:Rat)<=W:=by grind
  have h1:=QW h0 p;have h2:=OK h0 s.1 s.2;simp only[nW];rcases KaC.1 ht with rfl|ht
  ·have h3:=Kcx (PE h (iN t.2)) (rW t.1);grind
  ·have:=Nr h ht;grind
theorem BZ.PB{d f w n0 L:Nat}{p:List Tm}(h:BZ d f w n0 p)(hd:0<d)(hf:0<f)(hw:0<w)(iq:0<n0)(hL:nl (n0*(d*f^6560))<L):PB L 6560 p:=by
 intro t ht;obtain⟨h1,z,hz⟩:=h.i t ht;have Kk:(1:Rat)<=(w:Rat):=by rw[<-Rat.intCast_natCast,show(1:Rat)=((1:Int):Rat)from rfl,Kb1];omega
 have hN:eS t.1<=(n0:Rat):=by have:=Nr Kk ht;have:=h.n;grind
 have hX:(d:Rat)*(f:Rat)^(6560-iN t.2)=((d*f^(6560-iN t.2):Nat):Rat):=by rw[KcF,Rat.natCast_pow]
 have aop:∀N k:Nat,k<=N->d*f^k<=d*f^N:=fun N k h=>Kbc _ (Kbu hf h);have R5:=aop 6560 (6560-iN t.2) (Nat.sub_le _ _);have AZ:0<d*f^(6560-iN t.2):=KcO hd (KbS hf);rw[hX]at hz;generalize d*f^(6560-iN t.2)=X at *
 generalize d*f^6560=Y at *
 have Jk:((X:Int):Rat)≠0:=by rw[Ne,KaS];omega
 have e:t.1=(z:Rat)/((X:Int):Rat):=by rw[<-hz,Ka4];rw[Ka4]at Jk;grind
 have FO:z.natAbs<=n0*Y:=by
  have h2:eS (z:Rat)=eS t.1*(X:Rat):=by rw[<-hz,DL];congr 1;rw[<-Rat.intCast_natCast,xj,KaD,Ka4]
  rw[xj]at h2;have h3:(0:Rat)<=(X:Rat):=by rw[<-Rat.intCast_natCast,show(0:Rat)=((0:Int):Rat)from rfl,Kb1];omega
  have h4:=Kb6 hN h3;rw[<-h2,<-Rat.natCast_mul,<-Rat.intCast_natCast,<-Rat.intCast_natCast,Kb1]at h4;have h5:=Kbc n0 R5;omega
 have hr:=Ex z (X:Int) (by omega);rw[<-e,KaD]at hr;have g1:=fh FO;have g2:nl X<=nl (n0*Y):=by exact fh (KaL R5 (Nat.le_mul_of_pos_left _ iq))
 have g3:1<=nl X:=by apply Decidable.byContradiction;intro hc;have:=w9.1 (show nl X=0 by omega);omega
 refine⟨by omega,⟨by have:=h.ml t ht;omega,fun x hx=>?_,fun x hx=>?_⟩,h.rR.c t ht⟩
 all_goals
  obtain⟨i,hi,rfl⟩:=KaA hx;have hp:=h.pos t ht i;rw[gY hi]at hp
 ·exact hp
 ·have hl:=h.ml t ht;simp only[iN]at h1;rw[<-gY hi];rw[<-gY hi]at hp;have:i=0∨i=1∨i=2∨i=3:=by omega
  rcases this with rfl|rfl|rfl|rfl<;>omega
def qZ(p:List Tm):Nat:=(p.map fun t=>t.1.den).foldr (· * ·) 1
def na(p:List Tm):Nat:=(p.map fun t=>t.1.num.natAbs).foldr (· + ·) 0
theorem LB(p:List Tm):0<qZ p:=by
 induction p with
 |nil=>simp[qZ]
 |cons t p ih=>exact KcO (KaU t.1.den_nz) ih
theorem H7:∀ {p:List Tm} {t:Tm},t∈p->t.1.den∣qZ p
 |s::p,t,ht=>by
  rcases KaC.1 ht with rfl|ht
  ·exact Nat.dvd_mul_right _ _
  ·exact KcI (H7 ht) (Nat.dvd_mul_left _ _)
theorem afI{p:List Tm}{K E:Nat}(hp:FW.PB K E p):nl (qZ p)<=p.length*K+1:=by
 induction p with
 |nil=>simp[qZ,lO]
 |cons t p ih=>have h1:=ih (PB.cons.1 hp).2;have h2:=(PB.cons.1 hp).1.c;have h3:=iP t.1.den (qZ p);unfold rs at h2;rw[KaT,Nat.succ_mul];have e:qZ (t::p)=t.1.den*qZ p:=rfl;rw[e];omega
theorem afJ{p:List Tm}{K E:Nat}(hp:FW.PB K E p):nl (na p)<=p.length+K:=by
 induction p with
 |nil=>simp[na,xv]
 |cons t p ih=>have h1:=ih (PB.cons.1 hp).2;have h2:=(PB.cons.1 hp).1.c;have h3:=Aj t.1.num.natAbs (na p);unfold rs at h2;have e:na (t::p)=t.1.num.natAbs+na p:=rfl;rw[e,KaT];omega
theorem ME{c:Rat}{L:Nat}(h:c.den∣L):jE (c*(L:Rat)):=by
 obtain⟨k,rfl⟩:=h;refine⟨c.num*(k:Int),?_⟩;have sZ:=c.den_nz;have d1:c=(c.num:Rat)/((c.den:Int):Rat):=by
  conv=>lhs;rw[<-Rat.mkRat_self c]
  rw[KbP,Ka4]
 have k1:((c.den:Int):Rat)≠0:=by rw[Ne,KaS];omega
 rw[KcF,KbD,Ka4,<-Rat.intCast_natCast c.den];generalize((c.den:Int):Rat)=D at *
 generalize(c.num:Rat)=N at *
 rw[d1];grind
theorem acE(c:Rat):eS c*(c.den:Rat)=((c.num.natAbs:Nat):Rat):=by
 have d1:c*(c.den:Rat)=(c.num:Rat):=by
  have e:c=(c.num:Rat)/((c.den:Int):Rat):=by
   conv=>lhs;rw[<-Rat.mkRat_self c]
   rw[KbP,Ka4]
  have k1:((c.den:Int):Rat)≠0:=by rw[Ne,KaS];have:=c.den_nz;omega
  rw[<-Rat.intCast_natCast];generalize((c.den:Int):Rat)=D at *
  generalize(c.num:Rat)=N at *
  rw[e];grind
 rw[<-xj,<-d1,DL];congr 1;rw[<-Rat.intCast_natCast,xj,KaD,Ka4]
theorem Vo{a b:Nat}(h:a<=b):(a:Rat)<=(b:Rat):=by rw[<-Rat.intCast_natCast,<-Rat.intCast_natCast,Kb1];omega
theorem Vp(c:Rat):eS c<=((c.num.natAbs:Nat):Rat):=by have h:=acE c;have h1:(1:Rat)<=(c.den:Rat):=Vo (a:=1) (KaU c.den_nz);have:=Kcx h1 (rW c);grind
def n1:List Tm->Rat
 | []=>0
 |t::p=>eS t.1+n1 p
theorem Dm:∀p,0<=n1 p
 | []=>Rat.le_refl
 |t::p=>by have h1:=rW t.1;have h2:=Dm p;simp only[n1];grind
theorem MG(p q:List Tm):n1 (Qq p q)<=n1 p+n1 q:=by
 induction p,q using Qq.induct with
 |case1 q=>rw[sh];simp only[n1];grind
 |case2 p hp=>rw[kW];simp only[n1];grind
 |case3 c m p d l q h1 ih=>rw[Qq,if_pos h1];simp only[n1]at ih ⊢;grind
 |case4 c m p d l q h1 h2 ih=>rw[Qq,if_neg h1,if_pos h2];simp only[n1]at ih ⊢;grind
 |case5 c m p d l q h1 h2 h3 ih=>rw[Qq,if_neg h1,if_neg h2,if_pos h3];have g1:=rW c;have g2:=rW d;simp only[n1]at ih ⊢;grind
 |case6 c m p d l q h1 h2 h3 ih=>rw[Qq,if_neg h1,if_neg h2,if_neg h3];have g:=acD c d;simp only[n1]at ih⊢;grind
theorem QX(t:Tm):∀p:List Tm,n1 (Qw p t)<=eS t.1*n1 p
 | []=>by simp only[Qw,List.filterMap_nil,n1];grind
 |s::p=>by
  have ih:=QX t p;have g:=DL s.1 t.1;have g2:=Kcy (rW t.1) (rW s.1);unfold Qw at ih⊢;rw[Kcu];by_cases e:s.1*t.1=0
  ·rw[if_pos e];simp only[n1];grind
  ·rw[if_neg e];simp only[n1];grind
def qA:List (List Tm)->Rat
 | []=>0
 |p::l=>n1 p+qA l
theorem PG:∀a b:List (List Tm),qA (a++b)=qA a+qA b
 | [],b=>by simp only[KaI,qA];grind
 |p::a,b=>by simp only[KaK,qA];rw[PG a b];grind
theorem MH(l:List (List Tm)):n1 (cB l)<=qA l:=by
 induction l using cB.induct with
 |case1=>rw[cB];exact Rat.le_refl
 |case2 p=>rw[cB];simp only[qA];grind
 |case3 p q r h1 h2=>rw[cB];have h3:=MG (cB ((p::q::r).take ((p::q::r).length/2))) (cB ((p::q::r).drop ((p::q::r).length/2)));have h4:=PG ((p::q::r).take ((p::q::r).length/2)) ((p::q::r).drop ((p::q::r).length/2));rw[Kbg]at h4;rw[h4];grind
theorem Hy(q:List Tm):∀p:List Tm,qA (p.map (Qw q))<=n1 p*n1 q
 | []=>by simp only[Kby,qA,n1];grind
 |t::p=>by have ih:=Hy q p;have h:=QX t q;simp only[Kbe,qA,n1];grind
theorem afK(p q:List Tm):n1 (aV p q)<=n1 p*n1 q:=by
 unfold aV;split
 ·have h1:=MH (q.map (Qw p));have h2:=Hy p q;unfold oT;grind
 ·have h1:=MH (p.map (Qw q));have h2:=Hy q p;unfold oT;grind
def Dn(D:Nat)(p:List Tm):Prop:=∀t∈p,jE (t.1*(D:Rat))
theorem MI{D:Nat}(p q:List Tm):Dn D p->Dn D q->Dn D (Qq p q):=by
 induction p,q using Qq.induct with
 |case1 q=>intro _ h;rwa[sh]
 |case2 p hp=>intro h _;rwa[kW]
 |case3 c m p d l q h1 ih=>
  intro hp hq;rw[Qq,if_pos h1];intro t ht;rcases KaC.1 ht with rfl|ht
  ·exact hp _ (Kbk ..)
  ·exact ih (fun t ht=>hp t (KaZ _ ht)) hq t ht
 |case4 c m p d l q h1 h2 ih=>
  intro hp hq;rw[Qq,if_neg h1,if_pos h2];intro t ht;rcases KaC.1 ht with rfl|ht
  ·exact hq _ (Kbk ..)
  ·exact ih hp (fun t ht=>hq t (KaZ _ ht)) t ht
 |case5 c m p d l q h1 h2 h3 ih=>intro hp hq;rw[Qq,if_neg h1,if_neg h2,if_pos h3];exact ih (fun t ht=>hp t (KaZ _ ht)) fun t ht=>hq t (KaZ _ ht)
 | case6 c m p d l q h1 h2 h3 ih=>
  intro hp hq;rw[Qq,if_neg h1,if_neg h2,if_neg h3];intro t ht;rcases KaC.1 ht with rfl|ht
  ·have a:=hp (c,m) (Kbk ..);have b:=hq (d,l) (Kbk ..);show jE ((c+d)*(D:Rat));rw[Rat.add_mul];exact a.add b
  ·exact ih (fun t ht=>hp t (KaZ _ ht)) (fun t ht=>hq t (KaZ _ ht)) t ht
theorem MJ{D:Nat}(l:List (List Tm)):(∀p∈l,Dn D p)->Dn D (cB l):=by
 induction l using cB.induct with
 |case1=>intro _;rw[cB];intro t ht;cases ht
 |case2 p=>intro h;rw[cB];exact h p (Kbk ..)
 |case3 p q r h1 h2=>intro h;rw[cB];exact MI _ _ (h1 fun x hx=>h x (Ka8 hx)) (h2 fun x hx=>h x (Kbt hx))
theorem QY{D D':Nat}{t:Tm}(ht:jE (t.1*(D':Rat))){p:List Tm}(hp:Dn D p):Dn (D*D') (Qw p t):=by
 intro x hx;simp only[Qw,Kb7]at hx;obtain⟨s,hs,e⟩:=hx;split at e
 ·cases e
 ·obtain rfl:(s.1*t.1,di s.2 t.2)=x:=by simpa using e
  have:=(hp s hs).mul ht;show jE (s.1*t.1*((D*D':Nat):Rat));rw[KcF,show s.1*t.1*((D:Rat)*(D':Rat))=s.1*(D:Rat)*(t.1*(D':Rat))by grind];exact this
theorem afL{D D':Nat}{p q:List Tm}(hp:Dn D p)(hq:Dn D' q):Dn (D*D') (aV p q):=by
 unfold aV;split
 ·refine MJ _ fun x hx=>?_;obtain⟨t,ht,rfl⟩:=KaF.1 hx;exact QY (hq t ht) hp
 ·refine MJ _ fun x hx=>?_;obtain⟨t,ht,rfl⟩:=KaF.1 hx;rw[KaQ];exact QY (hp t ht) hq
theorem Ns:∀ {p:List Tm} {t:Tm},t∈p->eS t.1<=n1 p
 | s::p,t,ht=>by
  have h1:=Dm p;have h2:=rW s.1;simp only[n1];rcases KaC.1 ht with rfl|ht
  ·grind
  ·have:=Ns ht;grind
theorem LQ{D N:Nat}{p:List Tm}(hD:0<D)(hN:0<N)(hp:Dn D p)(hn:n1 p<=(N:Rat)){t:Tm}(ht:t∈p):rs t.1<=nl (N*D)+nl D+2:=by
 obtain⟨z,hz⟩:=hp t ht;have hT:=Ns ht;have hNt:eS t.1<=(N:Rat):=by grind
 have Jk:((D:Int):Rat)≠0:=by rw[Ne,KaS];omega
 have e:t.1=(z:Rat)/((D:Int):Rat):=by rw[<-hz,Ka4];rw[Ka4]at Jk;grind
 have FO:z.natAbs<=N*D:=by
  have h2:eS (z:Rat)=eS t.1*(D:Rat):=by rw[<-hz,DL];congr 1;rw[<-Rat.intCast_natCast,xj,KaD,Ka4]
  rw[xj]at h2;have h3:(0:Rat)<=(D:Rat):=by rw[<-Rat.intCast_natCast,show(0:Rat)=((0:Int):Rat)from rfl,Kb1];omega
  have h4:=Kb6 hNt h3;rw[<-h2,<-Rat.natCast_mul,<-Rat.intCast_natCast,<-Rat.intCast_natCast,Kb1]at h4;omega
 have hr:=Ex z (D:Int) (by omega);rw[<-e,KaD]at hr;have g1:=fh FO;omega
def XB(E:Nat)(p:List Tm):Prop:=∃K,PB K E p
theorem XB.uW{E:Nat}{p q:List Tm}:XB E p->XB E q->XB E (FW.Qq p q):=fun⟨_,h⟩ ⟨_,g⟩=>⟨_,DZ p q h g⟩
theorem XB.TW{E:Nat}(l:List (List Tm)):(∀p∈l,XB E p)->XB E (FW.cB l):=by
 induction l using FW.cB.induct with
 |case1=>intro _;rw[FW.cB];exact⟨0,PB.nil _ _⟩
 |case2 p=>intro h;rw[FW.cB];exact h p (Kbk ..)
 |case3 p q r h1 h2=>intro h;rw[FW.cB];exact XB.uW (h1 fun x hx=>h x (Ka8 hx)) (h2 fun x hx=>h x (Kbt hx))
theorem XB.uX{E F:Nat}{p q:List Tm}:XB E p->XB F q->XB (E+F) (FW.aV p q):=fun⟨K,h⟩ ⟨L,g⟩=>by
 unfold FW.aV;split
 ·refine XB.TW _ fun x hx=>?_;obtain⟨t,ht,rfl⟩:=KaF.1 hx;exact⟨K+L,tx h (g t ht)⟩
 ·refine XB.TW _ fun x hx=>?_;obtain⟨t,ht,rfl⟩:=KaF.1 hx;rw[KbY];exact⟨L+K,tx g (h t ht)⟩
structure SZ(a b E:Nat)(p:List Tm):Prop where
 d:∃D N:Nat,0<D/\0<N/\nl D<=a/\nl N<=b/\Dn D p/\n1 p<=(N:Rat)
 x:XB E p
theorem SZ.mono{a b E a' b' E':Nat}{p:List Tm}(h:SZ a b E p)(ha:a<=a')(hb:b<=b')(hE:E<=E'):SZ a' b' E' p:=by obtain⟨⟨D,N,h1,h2,h3,h4,h5,h6⟩,K,hx⟩:=h;exact⟨⟨D,N,h1,h2,by omega,by omega,h5,h6⟩,K,hx.mono (Kad _) hE⟩
theorem Dn.dvd{D D':Nat}{p:List Tm}(h:Dn D p)(hd:D∣D'):Dn D' p:=fun t ht=>by obtain⟨k,rfl⟩:=hd;rw[KcF,<-Rat.mul_assoc];exact(h t ht).mul (jE.nat k)
theorem SZ.uX{a b E a' b' E':Nat}{p q:List Tm}(hp:SZ a b E p)(hq:SZ a' b' E' q):SZ (a+a') (b+b') (E+E') (FW.aV p q):=by
 obtain⟨⟨D,N,h1,h2,h3,h4,h5,h6⟩,hx⟩:=hp;obtain⟨⟨D',N',g1,g2,g3,g4,g5,g6⟩,gx⟩:=hq;have e1:=iP D D';have e2:=iP N N';refine⟨⟨D*D',N*N',KcO h1 g1,KcO h2 g2,by omega,by omega,afL h5 g5,?_⟩,hx.uX gx⟩;have m1:=afK p q;have m2:=Kb6 h6 (Dm q);have n0:(0:Rat)<=(N:Rat):=by have:=Dm p;grind
 have m3:=Kcx g6 n0;rw[KcF];grind
theorem SZ.uW{a b E a' b':Nat}{p q:List Tm}(hp:SZ a b E p)(hq:SZ a' b' E q):SZ (a+a') (max b b'+1) E (FW.Qq p q):=by obtain⟨⟨D,N,h1,h2,h3,h4,h5,h6⟩,hx⟩:=hp;obtain⟨⟨D',N',g1,g2,g3,g4,g5,g6⟩,gx⟩:=hq;have e1:=iP D D';have e2:=Aj N N';refine⟨⟨D*D',N+N',KcO h1 g1,by omega,by omega,by omega,MI p q (h5.dvd (Nat.dvd_mul_right _ _)) (g5.dvd (Nat.dvd_mul_left _ _)),?_⟩,hx.uW gx⟩;have m1:=MG p q;rw[Rat.natCast_add];grind
theorem SZ.PB{a b E:Nat}{p:List Tm}(h:SZ a b E p):PB (a+b+a+3) E p:=fun t ht=>by obtain⟨⟨D,N,h1,h2,h3,h4,h5,h6⟩,K,hx⟩:=h;have hr:=LQ h1 h2 h5 h6 ht;have e:=iP N D;exact⟨by omega,(hx t ht).m,(hx t ht).l⟩
theorem Ik:∀p:List Tm,n1 p<=((na p:Nat):Rat)
 | []=>Rat.le_refl
 |t::p=>by have h1:=Ik p;have h2:=Vp t.1;have e:na (t::p)=t.1.num.natAbs+na p:=rfl;rw[e,Rat.natCast_add];simp only[n1];grind
theorem SZ.of{K E L:Nat}{p:List Tm}(h:FW.PB K E p)(hl:p.length<=L):SZ (L*K+1) (L+K+2) E p:=by
 have h1:=afI h;have h2:=afJ h;have h3:=Aj (na p) 1;have h4:nl 1<=1:=by rw[lO];exact Kad 1
 have h5:p.length*K<=L*K:=Kal _ hl;have h6:=fh (show na p<=na p+1 by omega);by_cases hz:nl (na p)=0
 ·refine⟨⟨qZ p,na p+1,LB p,by omega,by omega,by omega,fun t ht=>ME (H7 ht),?_⟩,K,h⟩;have:=Ik p;rw[Rat.natCast_add];have:(0:Rat)<=((1:Nat):Rat):=by decide
  grind
 ·refine⟨⟨qZ p,na p,LB p,KaU fun e=>hz (w9.2 e),by omega,by omega,fun t ht=>ME (H7 ht),Ik p⟩,K,h⟩
def pL:List (List Tm×List Tm)->List Tm->Option (List Tm)
 | [],s=>some s
 |x::l,s=>if 4000<(Qq s (aV x.1 x.2)).length then none else pL l (Qq s (aV x.1 x.2))
def lM(q:List Tm):Nat->List Tm->Option (List Tm)
 |0,p=>some p
 |n+1,p=>if 4000<(aV p q).length then none else lM q n (aV p q)
def qR:List (List Tm×Nat)->List Tm->Option (List Tm)
 | [],p=>some p
 |x::l,p=>(lM x.1 x.2 p).bind (qR l)
def gk(l:List (List Tm×List Tm))(i:Nat):List Tm:=(l.take i).foldl (fun s x=>Qq s (aV x.1 x.2)) []
theorem C4{l:List (List Tm×List Tm)}{i:Nat}(h:i<l.length):gk l (i+1)=Qq (gk l i) (aV l[i].1 l[i].2):=by unfold gk;rw[Kam h,Kb2];rfl
theorem LR{a b E a' b' E':Nat}{l:List (List Tm×List Tm)}(hl:∀x∈l,SZ a b E x.1/\SZ a' b' E' x.2):∀i,i<=l.length->SZ (i*(a+a')+1) (b+b'+i+1) (E+E') (gk l i)
 |0,_=>by
  refine⟨⟨1,1,by omega,by omega,?_,?_,fun t ht=>?_,?_⟩,0,fun t ht=>?_⟩
  ·rw[lO];omega
  ·rw[lO];omega
  ·simp[gk]at ht
  ·simp only[gk,Kcc,List.foldl_nil,n1];decide
  ·simp[gk]at ht
 |i+1,hi=>by
  have h:=LR hl i (by omega);obtain⟨h1,h2⟩:=hl _ (Kah (show i<l.length by omega));rw[C4 (by omega)];refine(h.uW (h1.uX h2)).mono ?_ ?_ (Kad _)
  ·rw[Nat.succ_mul];omega
  ·omega
theorem OL{l:List (List Tm×List Tm)}{i:Nat}(h:i<l.length):pL (l.drop i) (gk l i)=if 4000<(gk l (i+1)).length then none else pL (l.drop (i+1)) (gk l (i+1)):=by rw[Kau h];rw[C4 h];rfl
theorem Ra{l:List (List Tm×List Tm)}(hl:∀x∈l,aR x.1/\aR x.2):∀i,i<=l.length->aR (gk l i)
 |0,_=>aR.nil
 |i+1,hi=>by obtain⟨h1,h2⟩:=hl _ (Kah (show i<l.length by omega));rw[C4 (by omega)];exact vg (Ra hl i (by omega)) (tE h1.s h2.s)
def dK:Nat->Nat
 |0=>5
 |k+1=>10*dK k+62
def dE:Nat->Nat
 |0=>4
 |k+1=>3*dE k
def dL:Nat->Nat
 |0=>5
 |k+1=>10*dL k
theorem d5{k:Nat}(h:k<=5):dK k<=1188882/\dE k<=972/\dL k<=500000/\(k<5->dK k<=118882):=by
 have:k=0∨k=1∨k=2∨k=3∨k=4∨k=5:=by omega
 rcases this with rfl|rfl|rfl|rfl|rfl|rfl<;>decide
theorem aR.drop{p:List Tm}(h:aR p):∀k,aR (p.drop k)
 |0=>h
 |k+1=>by
  have:=aR.drop h k;rw[<-List.drop_drop];cases hd:p.drop k with
  |nil=>simpa using aR.nil
  |cons t l=>rw[hd]at this;simpa using this.tail
theorem MK(r:Rat):(r.num:Rat)/(r.den:Rat)=r:=by have:=Rat.num_divInt_den r;rw[Rat.divInt_eq_div,Ka4]at this;exact this
theorem Rb(f:Tm->Nat):∀(l:List Tm)(g:Nat),l.foldl (fun g t=>Nat.gcd g (f t)) g∣g/\(∀t∈l,l.foldl (fun g t=>Nat.gcd g (f t)) g∣f t)/\∀d,d∣g->(∀t∈l,d∣f t)->d∣l.foldl (fun g t=>Nat.gcd g (f t)) g
 | [],g=>⟨Nat.dvd_refl _,(fun t h=>by cases h),(fun d h _=>h)⟩
 | t::l,g=>by
  obtain⟨h1,h2,h3⟩:=Rb f l (Nat.gcd g (f t));refine⟨KcI h1 (KbO _ _),fun s hs=>?_,fun d hd hl=>?_⟩
  ·rcases KaC.1 hs with rfl|hs
   ·exact KcI h1 (Kce _ _)
   ·exact h2 s hs
  ·exact h3 d (Nat.dvd_gcd hd (hl t (Kbk ..))) fun s hs=>hl s (KaZ _ hs)
structure y6(a:Rat)(p:List Tm):Prop where
 i:∀t∈p,∃z:Int,a*t.1=(z:Rat)
 g:∀d:Nat,(∀t∈p,∀z:Int,a*t.1=(z:Rat)->d∣z.natAbs)->d=1
 s:0<a*(bX p).1
theorem y6.uniq{a b:Rat}{p:List Tm}(ha:y6 a p)(hb:y6 b p):a=b:=by
 have hs:=ha.s;have cL:=hb.s;have kF:a≠0:=by rintro rfl;rw[Rat.zero_mul]at hs;exact absurd hs (by decide)
 have lu:b≠0:=by rintro rfl;rw[Rat.zero_mul]at cL;exact absurd cL (by decide)
 obtain⟨r,hr⟩:∃r:Rat,r=b/a:=⟨_,rfl⟩
 have uL:b=r*a:=by rw[hr];exact(Rat.div_mul_cancel kF).symm
 have FH:(r.num:Rat)=r*(r.den:Rat):=by
  have hd:((r.den:Nat):Rat)≠0:=by intro h;exact r.den_nz (by exact_mod_cast h)
  have:=MK r;have h2:=Rat.div_mul_cancel (a:=(r.num:Rat)) hd;rw[this]at h2;exact h2.symm
 have key:∀t∈p,∀z w:Int,a*t.1=(z:Rat)->b*t.1=(w:Rat)->w*(r.den:Int)=r.num*z:=fun t _ z w hz hw=>by
  have:((w*(r.den:Int):Int):Rat)=((r.num*z:Int):Rat):=by rw[KbD,KbD,<-hw,<-hz,FH,uL];have e:(((r.den:Nat):Int):Rat)=((r.den:Nat):Rat):=Ka4 _;rw[e];grind
  exact Rat.intCast_inj.1 this
 have Fi:Nat.Coprime r.num.natAbs r.den:=r.reduced;have Sr:r.den=1:=by
  refine ha.g _ fun t ht z hz=>?_;obtain⟨w,hw⟩:=hb.i t ht;have:=key t ht z w hz hw;have h2:w.natAbs*r.den=r.num.natAbs*z.natAbs:=by
   have:=congrArg Int.natAbs this
   rwa[Kb4,Kb4,KaD]at this
  exact(Fi.symm).dvd_of_dvd_mul_left ⟨w.natAbs,by rw[<-h2,KaQ]⟩
 have aq2:r.num.natAbs=1:=by
  refine hb.g _ fun t ht w hw=>?_;obtain⟨z,hz⟩:=ha.i t ht;have:=key t ht z w hz hw;have h2:w.natAbs*r.den=r.num.natAbs*z.natAbs:=by
   have:=congrArg Int.natAbs this
   rwa[Kb4,Kb4,KaD]at this
  rw[Sr,KbL]at h2;exact⟨_,h2⟩
 have ou:r=1∨r= -1:=by
  have h3:r.num=1∨r.num= -1:=by omega
  have h4:((r.den:Nat):Rat)=1:=by rw[Sr];rfl
  rw[h4,Rat.mul_one]at FH;rcases h3 with h3|h3
  ·left;rw[<-FH,h3];rfl
  ·right;rw[<-FH,h3];rfl
 rcases ou with e|e
 ·rw[uL,e,Rat.one_mul]
 ·exfalso;rw[uL,e]at cL;grind
theorem acF(p:List Tm):0<ca p:=by
 have:=(vA p p.length (Kad _)).l0
 rwa[KaE]at this
theorem aak{p:List Tm}{t:Tm}(h:t∈p):t.1.den∣ca p:=by obtain⟨i,hi,rfl⟩:=KaA h;exact Ly p hi
theorem Hz{p:List Tm}(np:aR p)(h0:p≠[]):y6 (ej p) p:=by
 have hL:=acF p;have hG:=Ii np.z h0;obtain⟨L,AW⟩:∃L,L=ca p:=⟨_,rfl⟩
 obtain⟨G,I9⟩:∃G,G=jn p:=⟨_,rfl⟩
 obtain⟨g1,g2,g3⟩:=Rb (fun t=>t.1.num.natAbs*(L/t.1.den)) p 0;have hGL:p.foldl (fun g t=>Nat.gcd g (t.1.num.natAbs*(L/t.1.den))) 0=G:=by rw[I9,<-QV,<-AW];rfl
 rw[hGL]at g2 g3;have hG0:((G:Int):Rat)≠0:=by intro h;exact hG (by rw[<-I9];have:=KaS.1 h;omega)
 have hc:∀t∈p,∃z:Int,t.1*((L:Int):Rat)=(z:Rat)/\z.natAbs=t.1.num.natAbs*(L/t.1.den):=fun t ht=>by
  have hd:t.1.den∣L:=AW▸aak ht;have e:=OJ hd;obtain⟨k,hk⟩:=hd;refine⟨t.1.num*(k:Int),?_,?_⟩
  ·have sZ:((t.1.den:Nat):Rat)≠0:=by intro h;exact t.1.den_nz (by exact_mod_cast h)
   have e1:=MK t.1;rw[hk];have e2:(((t.1.den*k:Nat):Int):Rat)=((t.1.den:Nat):Rat)*((k:Nat):Rat):=by rw[Ka4,KcF]
   rw[e2,KbD,Ka4];generalize((k:Nat):Rat)=kk;generalize((t.1.den:Nat):Rat)=dd at *
   generalize((t.1.num:Int):Rat)=nn at *
   have e3:t.1*dd=nn:=by rw[<-e1];exact Rat.div_mul_cancel sZ
   rw[<-Rat.mul_assoc,e3]
  ·rw[Kb4,KaD,hk,Kbb _ t.1.den_pos]
 have an6:∃s:Int,(s=1∨s= -1)/\ej p=((s*(L:Int):Int):Rat)/((G:Int):Rat)/\(s=1->¬(bX p).1<0)/\(s= -1->(bX p).1<0):=by
  unfold ej;rw[<-AW,<-I9];by_cases hn:(p.headD (0,[])).1<0
  ·refine⟨-1,.inr rfl,?_,fun h=>absurd h (by decide),fun _=>hn⟩;rw[if_pos hn];have:(-1:Int)*(L:Int)= -(L:Int):=by omega
   rw[this]
  ·refine⟨1,.inl rfl,?_,fun _=>hn,fun h=>absurd h (by decide)⟩;rw[if_neg hn,Int.one_mul]
 obtain⟨s,ee,cL,wx,hs4⟩:=an6;have hmul:∀t∈p,∃y:Int,ej p*t.1=(y:Rat)/\y.natAbs*G=t.1.num.natAbs*(L/t.1.den):=fun t ht=>by
  obtain⟨z,hz,yK⟩:=hc t ht;obtain⟨c,fU⟩:(G:Int)∣z:=KcT.2 (yK▸g2 t ht);refine⟨s*c,?_,?_⟩
  ·have e:ej p*t.1=(s:Rat)*(t.1*((L:Int):Rat))/((G:Int):Rat):=by rw[cL,KbD,KcP,KcP];grind
   rw[e,hz,fU,KbD,KbD,KcP];have:=Rat.mul_inv_cancel _ hG0;generalize((G:Int):Rat)=gg at *
   generalize(gg)⁻¹ =gi at *
   grind
  ·rw[<-yK,fU,Kb4,Kb4,KaD];have:s.natAbs=1:=by rcases ee with h|h<;>rw[h]<;>rfl
   rw[this,Kck,KaQ]
 refine⟨fun t ht=>?_,fun d hd=>?_,?_⟩
 ·obtain⟨y,hy,_⟩:=hmul t ht;exact⟨y,hy⟩
 ·have h1:d*G∣G:=g3 _ (Nat.dvd_zero _) fun t ht=>by
   obtain⟨y,hy,hy2⟩:=hmul t ht;show d*G∣t.1.num.natAbs*(L/t.1.den)
   rw[<-hy2];exact Nat.mul_dvd_mul_right (hd t ht y hy) G
  have h2:0<G:=by omega
  exact Nat.dvd_one.1 (Nat.dvd_of_mul_dvd_mul_right h2 (by rwa[Kck]))
 ·have BH:=np.z _ (sv h0);have hLp:(0:Rat)<((L:Int):Rat):=by
   have:(0:Int)<(L:Int):=by omega
   exact_mod_cast this
  have hGp:(0:Rat)<((G:Int):Rat):=by
   have:(0:Int)<(G:Int):=by omega
   exact_mod_cast this
  have RY:(0:Rat)<((L:Int):Rat)/((G:Int):Rat):=by rw[KcP];exact Rat.mul_pos hLp (Rat.inv_pos.2 hGp)
  have e:ej p=(s:Rat)*(((L:Int):Rat)/((G:Int):Rat)):=by rw[cL,KbD,KcP,KcP,Rat.mul_assoc]
  rw[e];generalize((L:Int):Rat)/((G:Int):Rat)=x at *
  rcases ee with h|h
  ·have:=wx h;have e1:(s:Rat)=1:=by rw[h];rfl
   rw[e1,Rat.one_mul];exact Rat.mul_pos RY (by grind)
  ·have:=hs4 h;have e1:(s:Rat)= -1:=by rw[h];rfl
   rw[e1];have h5:=Rat.mul_pos RY (show(0:Rat)< -(bX p).1 by grind);grind
theorem xa{p:List Tm}(np:aR p){c:Rat}(hc:c≠0):Q5 p c=p.map fun t=>(t.1*c,t.2):=by
 rw[Q5,if_neg hc,Qw];induction p with
 |nil=>rfl
 | cons t p ih=>
  have hz:t.1*c≠0:=fun h=>by
   rcases Rat.mul_eq_zero.1 h with h|h
   ·exact np.z t (by simp) h
   ·exact hc h
  have ih':=ih np.tail;rw[Kcu,Kbe];simp only[if_neg hz];rw[ih',zT (np.c t (by simp))]
theorem HA{p:List Tm}(np:aR p)(h0:p≠[]){c:Rat}(hc:c≠0):Q5 p c≠[]:=by rw[xa np hc];simpa using h0
theorem Xf{p:List Tm}(np:aR p)(h0:p≠[]){c:Rat}(hc:c≠0):ej (Q5 p c)*c=ej p:=by
 have h1:=Hz (kp np.s c) (HA np h0 hc);refine y6.uniq (p:=p) ⟨fun t ht=>?_,fun d hd=>?_,?_⟩ (Hz np h0)
 ·obtain⟨z,hz⟩:=h1.i (t.1*c,t.2) (by rw[xa np hc];exact KaF.2 ⟨t,ht,rfl⟩);exact⟨z,by rw[<-hz];grind⟩
 ·refine h1.g d fun t ht z hz=>?_;rw[xa np hc]at ht;obtain⟨s,hs,rfl⟩:=KaF.1 ht;exact hd s hs z (by rw[<-hz];grind)
 ·have:=h1.s;have e:bX (Q5 p c)=((bX p).1*c,(bX p).2):=by
   rw[xa np hc];cases p with
   |nil=>exact absurd rfl h0
   |cons t p=>rfl
  rw[e]at this;grind
theorem MM{p:List Tm}(np:aR p)(h0:p≠[]):ej p≠0:=fun h=>by have:=(Hz np h0).s;rw[h,Rat.zero_mul]at this;exact absurd this (by decide)
theorem PH{p:List Tm}(np:aR p):Q5 p 1=p:=by rw[xa np (by decide)];simp
theorem G1{p:List Tm}(np:aR p)(a b:Rat):Q5 (Q5 p a) b=Q5 p (a*b):=by refine tH (kp (kp np.s a).s b) (kp np.s _) fun φ=>?_;rw[qE φ (kp np.s a).c,qE φ np.c,qE φ np.c];grind
abbrev PV.pe(r:List Tm×Int):PV:=.aG [PV.ao r.1,.int .i64 r.2]
abbrev PV.cert(fs:List (List Tm))(ps:List Int)(n:Int)(cs:List (List Tm)):PV:=.agg [PV.eI fs,PV.mono ps,.int .i64 n,PV.eI cs]
def nT:Option (List Tm)->List Tm×Int
 |some r=>(r,0)
 |none=>([],4)
def fP(cs ls:List (List Tm)):List Tm×Int:=if cs.length=ls.length then nT (pL (cs.zip ls) [])else([],16)
def vn(q p:List Tm)(n:Nat):List Tm×Int:=nT (lM q n p)
def tO(ps:List Int):Bool:=ps.all fun n=>decide (0<=n/\n<=64)
def jm(fs:List (List Tm))(ps:List Int):List Tm×Int:=
 if fs.length=ps.length then(if tO ps then nT (qR (fs.zip (ps.map Int.toNat)) (cM 1))else([],2))else([],16)
def Ey(fs:List (List Tm))(ps:List Int)(n:Int)(cs hs:List (List Tm))(g:List Tm):Int:=
 if(jm fs ps).2=0 then
  if fs.any List.isEmpty then 3
  else if n<1∨64<n then 2
  else if cs.length=hs.length then
   match lM g n.toNat (jm fs ps).1 with
   |none=>4
   |some l=>if(fP cs hs).2=0 then(if l=(fP cs hs).1 then 0 else 17)else(fP cs hs).2
  else 16
 else(jm fs ps).2
structure pY(p:List Tm):Prop where
 z:SZ 64 64 64 p
 l:p.length<=64
 n:aR p
structure tr(p:List Tm):Prop where
 z:SZ (2097152) (2097152) (16384) p
 l:p.length<=131072
 n:aR p
structure nU(k:Nat)(p:List Tm):Prop where
 z:SZ (64*k) (64*k) (64*k) p
 l:p.length<=64
 n:aR p
theorem pY.w{p:List Tm}(h:pY p):nU 1 p:=⟨h.z.mono (by omega) (by omega) (by omega),h.l,h.n⟩
theorem nU.PB{k:Nat}{p:List Tm}(h:nU k p)(hk:k<=512):PB 131072 32768 p:=h.z.PB.mono (by omega) (by omega)
theorem pY.PB{p:List Tm}(h:pY p):PB 256 64 p:=h.z.PB.mono (by omega) (by omega)
theorem tr.PB{p:List Tm}(h:tr p):FW.PB (8388608) (16384) p:=h.z.PB.mono (by omega) (by omega)
theorem pY.big{p:List Tm}(h:pY p):tr p:=⟨h.z.mono (by omega) (by omega) (by omega),by have:=h.l;omega,h.n⟩
theorem afM{cs ls:List (List Tm)}(hl:cs.length=ls.length){i:Nat}(h:i<cs.length):(cs.zip ls)[i]'(by simp;omega)=(cs[i],ls[i]'(by omega)):=Kc1
theorem afN{P Q:List Tm->Prop}{cs ls:List (List Tm)}(h1:∀c∈cs,P c)(h2:∀c∈ls,Q c):∀x∈cs.zip ls,P x.1/\Q x.2:=fun x hx=>by obtain⟨i,hi,rfl⟩:=KaA hx;rw[Kc1];exact⟨h1 _ (Kah _),h2 _ (Kah _)⟩
theorem MN{cs ls:List (List Tm)}(h1:∀c∈cs,tr c){k:Nat}(hk:k<=512)(h2:∀c∈ls,nU k c)(hl:cs.length<=8){i:Nat}(hi:i<=(cs.zip ls).length):PB (268435456) (65536) (gk (cs.zip ls) i)/\aR (gk (cs.zip ls) i):=by
 have hz:=afN (P:=tr) (Q:=nU k) h1 h2;have hi8:i<=8:=by rw[List.length_zip]at hi;omega
 have hm:i*(2097152+64*k)<=8*(2097152+64*k):=Kal _ hi8;exact⟨((LR (fun x hx=>⟨(hz x hx).1.z,(hz x hx).2.z⟩) i hi).mono (a':=17039361) (b':=2130000) (E':=65536) (by omega) (by omega) (by omega)).PB.mono (by omega) (by omega),Ra (fun x hx=>⟨(hz x hx).1.n,(hz x hx).2.n⟩) i hi⟩
structure jF(m:Nat)(p:List Tm):Prop where
 z:SZ (m*64+1) (m*64+2) (m*64) p
 n:aR p
 l:p.length<=4000
theorem jF.PB{m:Nat}{p:List Tm}(h:jF m p)(hm:m<=2048):FW.PB (524288) (131072) p:=h.z.PB.mono (by omega) (by omega)
theorem jF.mul{m k:Nat}{p q:List Tm}(h:jF m p)(hq:nU k q)(hl:(aV p q).length<=4000):jF (m+k) (aV p q):=
 ⟨(h.z.uX hq.z).mono (by omega) (by omega) (by omega),tE h.n.s hq.n.s,hl⟩
theorem SZ.one:SZ 1 1 0 (cM 1):=by
 have e:cM 1=[((1:Rat),[])]:=by unfold cM;rw[if_neg (by decide)]
 rw[e];refine⟨⟨1,1,by omega,by omega,by rw[lO];omega,by rw[lO];omega,fun t ht=>?_,?_⟩,3,fun t ht=>?_⟩
 ·obtain rfl:t=(1,[]):=by simpa using ht
  exact⟨1,by decide+kernel⟩
 ·simp only[n1];decide+kernel
 ·obtain rfl:t=(1,[]):=by simpa using ht
  refine⟨?_,⟨by simp,by simp,by simp⟩,by simp⟩;show rs 1+1<=3;have:=sM;omega
theorem jF.one:jF 0 (cM 1):=⟨SZ.one.mono (by omega) (by omega) (by omega),CY 1,by unfold cM;rw[if_neg (by decide)];simp⟩
theorem Vf{q P:List Tm}{n k:Nat}(h:k<n):lM q (n-k) P=if 4000<(aV P q).length then none else lM q (n-(k+1)) (aV P q):=by rw[show n-k=(n-(k+1))+1 by omega];rfl
theorem C5{q:List Tm}{k:Nat}(hq:nU k q):∀(n m:Nat)(p r:List Tm),jF m p->lM q n p=some r->jF (m+n*k) r
 |0,m,p,r,hp,h=>by cases h;rw[KbI];exact hp
 | n+1,m,p,r,hp,h=>by
  unfold lM at h;split at h
  ·cases h
  ·have:=C5 hq n (m+k) _ r (hp.mul hq (by omega)) h
   rwa[show m+k+n*k=m+(n+1)*k by rw[KaG];omega]at this
theorem Vq{l:List (List Tm×Nat)}{i:Nat}{p:List Tm}(h:i<l.length):qR (l.drop i) p=(lM l[i].1 l[i].2 p).bind (qR (l.drop (i+1))):=by rw[Kau h];rfl
def oY(fs:List (List Tm))(ps:List Int):List (List Tm×Nat):=fs.zip (ps.map Int.toNat)
theorem zY{fs:List (List Tm)}{ps:List Int}(h:fs.length=ps.length):(oY fs ps).length=fs.length:=by simp[oY,h]
theorem LS{fs:List (List Tm)}{ps:List Int}(h:fs.length=ps.length){i:Nat}(hi:i<fs.length):(oY fs ps)[i]'(by rw[zY h];exact hi)=(fs[i],(ps[i]'(by omega)).toNat):=by simp[oY,Kc1]
theorem Rc{ps:List Int}(h:tO ps=true){i:Nat}(hi:i<ps.length):0<=ps[i]/\ps[i]<=64:=by have:=Kaq.1 h _ (Kah hi);simpa using this
theorem aal{ps:List Int}{i:Nat}(hi:i<ps.length)(h:¬(0<=ps[i]/\ps[i]<=64)):tO ps=false:=by unfold tO;rw[KcJ];exact⟨_,Kah hi,by simpa using h⟩
theorem aam{ps:List Int}(h:∀j (hj:j<ps.length),0<=ps[j]/\ps[j]<=64):tO ps=true:=by unfold tO;rw[Kaq];intro x hx;obtain⟨j,hj,rfl⟩:=KaA hx;exact decide_eq_true (h j hj)
theorem Re{fs:List (List Tm)}{ps:List Int}(h:fs.length=ps.length)(hp:tO ps=false):jm fs ps=([],2):=by unfold jm;rw[if_pos h,hp];rfl
theorem ab7{fs:List (List Tm)}{ps:List Int}(h:fs.length=ps.length)(hp:tO ps=true):jm fs ps=nT (qR (oY fs ps) (cM 1)):=by unfold jm;rw[if_pos h,hp];rfl
theorem aan{l:List (List Tm×Nat)}(hl:∀x∈l,pY x.1/\x.2<=64):∀(m:Nat)(p r:List Tm),jF m p->qR l p=some r->∃n,n<=m+64*l.length/\jF n r:=by
 induction l with
 |nil=>intro m p r hp h;cases h;exact⟨m,by omega,hp⟩
 | cons x l ih=>
  intro m p r hp h;obtain⟨h1,h2⟩:=hl x (Kbk ..);show ∃n,_;unfold qR at h;cases hr:lM x.1 x.2 p with
  |none=>rw[hr]at h;cases h
  |some s=>rw[hr]at h;obtain⟨n,h3,h4⟩:=ih (fun y hy=>hl y (KaZ _ hy)) (m+x.2) s r (by have:=C5 h1.w _ _ _ _ hp hr;rwa[KbL]at this) h;exact⟨n,by rw[KaT];omega,h4⟩
theorem aao{fs:List (List Tm)}{ps:List Int}(hf:∀c∈fs,pY c)(hl:fs.length<=8)(h:(jm fs ps).2=0):∃n,n<=512/\jF n (jm fs ps).1:=by
 unfold jm at h⊢;split at h
 ·rename_i h1;rw[if_pos h1];split at h
  ·rename_i h2;rw[if_pos h2];cases hr:qR (oY fs ps) (cM 1)with
   |none=>unfold oY at hr;rw[hr]at h;cases h
   | some r=>
    have dP:=hr;unfold oY at dP;rw[dP];obtain⟨n,h3,h4⟩:=aan (l:=oY fs ps) (fun x hx=>by
     obtain⟨i,hi,rfl⟩:=KaA hx;have az:i<fs.length:=by rwa[zY h1]at hi
     rw[LS h1 az];have:=Rc h2 (i:=i) (by omega);exact⟨hf _ (Kah az),by simp only;omega⟩) 0 _ r jF.one hr
    rw[zY h1]at h3;exact⟨n,by omega,h4⟩
  ·cases h
 ·cases h
theorem OM{l:List (List Tm×List Tm)}{s:List Tm}:∀k i,k=l.length-i->i<=l.length->(gk l i).length<=4000->pL (l.drop i) (gk l i)=some s->s=gk l l.length/\s.length<=4000
 |0,i,hk,hi,hl,h=>by
  obtain rfl:i=l.length:=by omega
  rw[List.drop_length]at h;cases h;exact⟨rfl,hl⟩
 |k+1,i,hk,hi,hl,h=>by
  have az:i<l.length:=by omega
  rw[OL az]at h;split at h
  ·cases h
  ·exact OM k (i+1) (by omega) (by omega) (by omega) h
theorem ab8{cs ls:List (List Tm)}(h:(fP cs ls).2=0):cs.length=ls.length/\pL (cs.zip ls) []=some (fP cs ls).1/\(fP cs ls).1=gk (cs.zip ls) (cs.zip ls).length/\(fP cs ls).1.length<=4000:=by
 unfold fP at h⊢;split at h
 ·rename_i he;rw[if_pos he];cases hr:pL (cs.zip ls) []with
  |none=>rw[hr]at h;cases h
  |some s=>obtain⟨h1,h2⟩:=OM _ 0 rfl (by omega) (by simp[gk]) (s:=s) (by exact hr);exact⟨he,rfl,h1,h2⟩
 ·cases h
theorem ab9{cs ls:List (List Tm)}{k:Nat}(hk:k<=512)(h1:∀c∈cs,tr c)(h2:∀c∈ls,nU k c)(hl:cs.length<=8):PB 268435456 65536 (fP cs ls).1/\aR (fP cs ls).1/\(fP cs ls).1.length<=4000:=by
 by_cases h:(fP cs ls).2=0
 ·obtain⟨_,_,h3,h4⟩:=ab8 h;have:=MN h1 hk h2 hl (Kad _);rw[<-h3]at this;exact⟨this.1,this.2,h4⟩
 ·have e:(fP cs ls).1=[]:=by
   unfold fP at h⊢;split
   ·rename_i he;rw[if_pos he]at h;cases hr:pL (cs.zip ls) []with
    |none=>rfl
    |some s=>rw[hr]at h;exact absurd rfl h
   ·rfl
  rw[e];exact⟨PB.nil _ _,aR.nil,by simp⟩
end Go.FW
