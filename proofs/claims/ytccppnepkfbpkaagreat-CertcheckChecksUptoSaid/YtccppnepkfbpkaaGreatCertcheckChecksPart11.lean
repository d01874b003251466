/- Part 11 of the proof of CertcheckChecks: K16, FwUD, FwUE, FwUF, FwUI, FwUJ, FwWA, FwWB, FwWC, FwWD, FwUH, FwUK, FwWE. Own lemmas; no conditions. -/
import Derived.Test.YtccppnepkfbpkaaGreatCertcheckChecksPart10
set_option maxHeartbeats 1000000
set_option linter.unusedSimpArgs false
set_option linter.unusedVariables false
set_option linter.unnecessarySimpa false
set_option maxRecDepth 100000
namespace Go.Proofs.YtccppnepkfbpkaaGreat
open Go Go.FW
abbrev PV.frame(cs:List Cd)(vs:List Vr):PV:=.agg [.sl 2 (cs.map PV.aC),.sl 3 (vs.map PV.fvar)]
theorem Mh{S:List Q4}:∀ {n i:Nat} (h:i<n),(dG S n)[i]'(by rw[qH];exact h)=iG (dG S i) (S.getD i cz).k (S.getD i cz).args
 | n+1,i,h=>by
  simp only[dG];by_cases e:i<n
  ·rw[KcG (by rw[qH];exact e)];exact Mh e
  ·obtain rfl:i=n:=by omega
   rw[List.getElem_append_right (by rw[qH];omega)];simp[qH]
theorem xc{S:List Q4}{n i:Nat}(h:i<n):(dG S n).getD i 0=iG (dG S i) (S.getD i cz).k (S.getD i cz).args:=by rw[Kad,Kag (by rw[qH];exact h)];exact Mh h
theorem WQ.one{c:Cd}(hx:PQ 1 4 1 c.1)(hy:PQ 1 4 1 c.2):WQ 1 c:=⟨hx.mono (by omega) (by omega) (by omega),hy.mono (by omega) (by omega) (by omega)⟩
theorem Nk{w:Nat}{c:Cd}(h:WQ w c)(hw:w<=8):CB c:=h.mono (by omega) (by omega) (by omega)
theorem Ag{S:List Q4}{G:List bz}(hF:lV S G)(hb:∀s∈S,jb s):∀i,i<=S.length->∀n,n<i->∃w:Nat,1<=w/\w<=8/\(dG S i).getD n 0=(w:Int)/\WQ w ((bA S i).1.getD n ([],[]))
 |0,_,n,h=>by omega
 | i +1,hi,n,h=>by
  have ih:=Ag hF hb i (by omega);have hl:=ss S i;have yq:i<S.length:=by omega
  have hd:S.getD i cz=S[i]:=by rw[Kad,Kag yq];rfl
  have aL:=hF.f.s i yq;have eH:=hF.s _ (Kah yq);have SP:=(hb _ (Kah yq)).r;by_cases hn:n<i
  ·obtain⟨w,h1,h2,h3,h4⟩:=ih n hn;refine⟨w,h1,h2,?_,?_⟩
   ·rw[xc (show n<i+1 by omega),<-xc hn];exact h3
   ·rw[bA];simp only;rw[Kad,Kcc (by omega),<-List.getD_eq_getElem?_getD];exact h4
  obtain rfl:n=i:=by omega
  have Bs:(dG S (n+1)).getD n 0<=8:=by
   have e:(dG S (n+1)).getD n 0=(dG S S.length).getD n 0:=by rw[xc (Kck n),xc yq]
   rw[e,Kad,Kag (by rw[qH];exact yq)];exact hF.t.w _ (Kah _)
  have hc:(bA S (n+1)).1.getD n ([],[])=jx S[n].k (rv S[n].n S[n].a S[n].d) (ct (bA S n).1 S[n].args) (bA S n).2.1.length (bA S n).2.2:=by rw[bA,hd];simp only;rw[Kad,KbT (by omega)];simp[hl]
  rw[xc (Kck n),hd]at Bs;rw[xc (Kck n),hd,hc];have hlen:=aL.l;have bN:∀m,m<S[n].args.length->∃w:Nat,1<=w/\w<=8/\m9 (dG S n) S[n].args m=(w:Int)/\WQ w ((ct (bA S n).1 S[n].args).getD m ([],[])):=fun m hm=>by
   have hr:=aL.r _ (Kah hm);obtain⟨w,h1,h2,h3,h4⟩:=ih S[n].args[m].toNat (by omega);refine⟨w,h1,h2,?_,?_⟩
   ·unfold m9;rw[show S[n].args.getD m 0=S[n].args[m]by rw[Kad,Kag hm];rfl];exact h3
   ·rw[show(ct (bA S n).1 S[n].args).getD m ([],[])=(bA S n).1.getD S[n].args[m].toNat ([],[])by rw[Kad,ct,Kas,Kag hm];rfl];exact h4
  have hk:=aL.k;have hq:=aL.q;generalize S[n]=s at *
  generalize bA S n=F at *
  generalize ct F.1 s.args=L at *
  generalize dG S n=W at *
  have v1:∀m:Nat,PQ 1 4 1 (Qx m):=fun m=>PQ.var;have v0:PQ 1 4 1 []:=PQ.nil;by_cases k1:s.k=1
  ·refine⟨1,by omega,by omega,by rw[k1];rfl,WQ.one ?_ ?_⟩
   all_goals
    rw[k1];simp only[jx,sE];rw[if_pos trivial]
    repeat' split
    all_goals first|exact v1 _|exact v0
  have SN:=(show Raw 2 s.n s.a s.d from⟨SP.la,SP.ld,eH.1,eH.2,by omega⟩).rs;by_cases k2:s.k=2
  ·have mm:s.args.length=2:=by rw[k2]at hlen;have:gg 2=2:=(by decide);omega
   obtain⟨w0,a1,a2,a3,a4⟩:=bN 0 (by omega);obtain⟨w1,b1,b2,b3,b4⟩:=bN 1 (by omega);have e:iG W s.k s.args=((w0+w1:Nat):Int):=by rw[iG,if_pos k2,a3,b3];omega
   rw[e]at Bs⊢;refine⟨w0+w1,by omega,by omega,rfl,?_⟩;rw[jx,if_neg k1,if_pos k2];exact⟨Mf a1 b1 a4.x b4.x SN,Mf a1 b1 a4.y b4.y SN⟩
  by_cases k3:s.k=3∨s.k=4
  ·have mm:s.args.length=3:=by
    rcases k3 with k3|k3
    ·rw[k3]at hlen;have:gg 3=3:=by decide
     omega
    ·rw[k3]at hlen;have:gg 4=3:=by decide
     omega
   obtain⟨w0,a1,a2,a3,a4⟩:=bN 0 (by omega);obtain⟨w1,b1,b2,b3,b4⟩:=bN 1 (by omega);obtain⟨w2,c1,c2,c3,c4⟩:=bN 2 (by omega);have e:iG W s.k s.args=((w0+w1+w2:Nat):Int):=by rw[iG,if_neg k2,if_pos k3,a3,b3,c3];omega
   rw[e]at Bs⊢;refine⟨w0+w1+w2,by omega,by omega,rfl,?_⟩;rw[jx,if_neg k1,if_neg k2];by_cases q3:s.k=3
   ·rw[if_pos q3];exact⟨DN a1 c1 b1 a4.x c4.x b4.x (by omega),DN a1 c1 b1 a4.y c4.y b4.y (by omega)⟩
   ·rw[if_neg q3,if_pos (by omega)];exact⟨DN a1 b1 c1 a4.x b4.y c4.y (by omega),DN a1 c1 b1 a4.y c4.x b4.x (by omega)⟩
  by_cases k5:s.k=5
  ·have mm:s.args.length=2:=by rw[k5]at hlen;have:gg 5=2:=(by decide);omega
   obtain⟨w0,a1,a2,a3,a4⟩:=bN 0 (by omega);obtain⟨w1,b1,b2,b3,b4⟩:=bN 1 (by omega);have e:iG W s.k s.args=((2*w0+w1:Nat):Int):=by rw[iG,if_neg k2,if_neg k3,if_pos k5,a3,b3];omega
   rw[e]at Bs⊢;refine⟨2*w0+w1,by omega,by omega,rfl,?_⟩;rw[jx,if_neg k1,if_neg k2,if_neg (by omega),if_neg (by omega),if_pos k5];exact⟨Mg a1 b1 a4.x b4.x (v1 _),Mg a1 b1 a4.y b4.y (v1 _)⟩
  ·have e:iG W s.k s.args=((1:Nat):Int):=by rw[iG,if_neg k2,if_neg k3,if_neg k5];rfl
   rw[e]at Bs⊢;refine⟨1,by omega,by omega,rfl,?_⟩;rw[jx,if_neg k1,if_neg k2,if_neg (by omega),if_neg (by omega),if_neg k5];split
   ·exact WQ.one (v1 _) (v1 _)
   ·exact WQ.one (v1 _) (v1 _)
end Go.Proofs.YtccppnepkfbpkaaGreat
namespace Go.FW
open Go
theorem OW(x y:Int)(hy:y≠0):mkRat (zv (decide (x<0) !=decide (y<0)) (ak x.natAbs)) y.natAbs=(x:Rat)/(y:Rat):=by
 rw[Kcm,tN,<-Rat.intCast_natCast];have h3:(y:Rat)≠0:=by rw[Ne,Kbc];exact hy
 by_cases cU:y<0
 ·have e2:(((y.natAbs:Nat):Int):Rat)= -(y:Rat):=by rw[<-Rat.intCast_neg];congr 1;omega
  have e1:(if(decide (x<0) !=decide (y<0))=true then -(x.natAbs:Int)else x.natAbs)= -x:=by by_cases hx:x<0<;>simp[hx,cU]<;>omega
  rw[e1,e2,Rat.intCast_neg];grind
 ·have e2:(((y.natAbs:Nat):Int):Rat)=(y:Rat):=by congr 1;omega
  have e1:(if(decide (x<0) !=decide (y<0))=true then -(x.natAbs:Int)else x.natAbs)=x:=by by_cases hx:x<0<;>simp[hx,cU]<;>omega
  rw[e1,e2]
theorem ahP{n m:Bool}{a d b c:List Nat}(hd:val d≠0)(hc:val c≠0)(hb:zv m b≠0):((zv n a*(val c:Int):Int):Rat)/((zv m b*(val d:Int):Int):Rat)=rv n a d/rv m b c:=by
 have h1:((val d:Int):Rat)≠0:=by rw[Ne,Kbc];omega
 have h2:((val c:Int):Rat)≠0:=by rw[Ne,Kbc];omega
 have h3:((zv m b:Int):Rat)≠0:=by rw[Ne,Kbc];exact hb
 unfold rv;rw[Kcm,Kcm,Rat.intCast_mul,Rat.intCast_mul];rw[<-Rat.intCast_natCast,<-Rat.intCast_natCast];grind
theorem F7(x y:Int)(hy:y≠0):rs ((x:Rat)/(y:Rat))<=max (nl x.natAbs) (max (nl y.natAbs) 1):=by
 rw[<-OW x y hy];have:=Dm (zv (decide (x<0) !=decide (y<0)) (ak x.natAbs)) y.natAbs
 rwa[iU,Qu]at this
theorem ahQ(q:Rat)(h:q≠0):rs q⁻¹ <=rs q:=by
 have hn:q.num≠0:=fun e=>h (Rat.num_eq_zero.1 e);have e:q⁻¹ =(((q.den:Int):Int):Rat)/((q.num:Int):Rat):=by
  have d1:q=(q.num:Rat)/((q.den:Int):Rat):=by
   conv=>lhs;rw[<-Rat.mkRat_self q]
   rw[Kcm,Kbj]
  have k1:((q.den:Int):Rat)≠0:=by rw[Ne,Kbc];have:=q.den_nz;omega
  have k3:((q.num:Int):Rat)≠0:=by rw[Ne,Kbc];exact hn
  generalize(q.num:Rat)=A at *
  generalize((q.den:Int):Rat)=D at *
  rw[d1];grind
 have h2:=F7 (q.den:Int) q.num hn;have h3:=FV q;rw[e];unfold rs at h3⊢;unfold rs at h2;rw[Ka7]at h2;have h4:1<=nl q.den:=by have:=q.den_nz;apply Decidable.byContradiction;intro hc;exact this (wX.1 (by omega))
 omega
def kI(p:List Tm):Tm:=p.headD (0,[])
theorem Mi{p:List Tm}(h:0<p.length):p[0]=kI p:=by cases p with
 |nil=>simp at h
 |cons t p=>rfl
theorem DO{p:List Tm}(h:p≠[]):kI p∈p:=by cases p with
 |nil=>exact absurd rfl h
 |cons t p=>simp[kI]
theorem UY(t:Tm):iH [t]:=⟨by simp,trivial⟩
def eW(c:Rat):Rat:=if c<0 then -c else c
theorem rY(c:Rat):0<=eW c:=by unfold eW;grind
theorem acb(a b:Rat):eW (a+b)<=eW a+eW b:=by unfold eW;grind
theorem Di(a b:Rat):eW (a*b)=eW a*eW b:=by
 have pos:∀x:Rat,0<=x->eW x=x:=fun x h=>by unfold eW;grind
 have neg:∀x:Rat,x<=0->eW x= -x:=fun x h=>by unfold eW;grind
 rcases Decidable.em (0<=a)with ha|ha<;>rcases Decidable.em (0<=b)with hb|hb
 ·rw[pos _ (Kcp ha hb),pos _ ha,pos _ hb]
 ·have h:=Kcp ha (show 0<= -b by grind);rw[neg (a*b) (by grind),pos _ ha,neg b (by grind)];grind
 ·have h:=Kcp (show 0<= -a by grind) hb;rw[neg (a*b) (by grind),neg a (by grind),pos _ hb];grind
 ·have h:=Kcp (show 0<= -a by grind) (show 0<= -b by grind);rw[pos (a*b) (by grind),neg a (by grind),neg b (by grind)];grind
theorem xd(z:Int):eW (z:Rat)=((z.natAbs:Nat):Rat):=by
 rw[<-Rat.intCast_natCast];unfold eW;split
 ·rename_i h;have h':z<0:=by have:=(Rat.intCast_lt_intCast (a:=z) (b:=0)).1 (by simpa using h);exact this
  rw[<-Rat.intCast_neg];congr 1;omega
 ·rename_i h;have h':¬z<0:=fun hz=>h (by have:=(Rat.intCast_lt_intCast (a:=z) (b:=0)).2 hz;simpa using this);congr 1;omega
def iS(m:List Int):Nat:=(eN m 3).toNat*729+(eN m 2).toNat*81+(eN m 1).toNat*9+(eN m 0).toNat
theorem amH{a b:List Int}(ha:a.length<=4)(hb:b.length<=4):aX a b=dJ a b 4:=(xg (by omega)).symm
theorem afg{a b:List Int}(ha:a.length<=4)(hb:b.length<=4)(h:aX a b<0):
  eN a 3<eN b 3∨(eN a 3=eN b 3/\(eN a 2<eN b 2∨(eN a 2=eN b 2/\(eN a 1<eN b 1∨(eN a 1=eN b 1/\eN a 0<eN b 0))))):=by
 rw[amH ha hb]at h;simp only[dJ]at h;have z3:=xm (x:=eN a 3) (y:=eN b 3);have z2:=xm (x:=eN a 2) (y:=eN b 2);have z1:=xm (x:=eN a 1) (y:=eN b 1);have z0:=xm (x:=eN a 0) (y:=eN b 0);by_cases e3:eN a 3=eN b 3
 ·rw[if_pos e3]at h;refine .inr ⟨e3,?_⟩;by_cases e2:eN a 2=eN b 2
  ·rw[if_pos e2]at h;refine .inr ⟨e2,?_⟩;by_cases e1:eN a 1=eN b 1
   ·rw[if_pos e1]at h;refine .inr ⟨e1,?_⟩;by_cases e0:eN a 0=eN b 0
    ·rw[if_pos e0]at h;omega
    ·rw[if_neg e0]at h;exact z0.1 h
   ·rw[if_neg e1]at h;exact .inl (z1.1 h)
  ·rw[if_neg e2]at h;exact .inl (z2.1 h)
 ·rw[if_neg e3]at h;exact .inl (z3.1 h)
def nW(W:Rat):List Tm->Rat
 | []=>0
 |t::p=>eW t.1*W^iS t.2+nW W p
theorem Ph{W:Rat}(h:0<=W):∀n:Nat,0<=W^n
 |0=>by rw[Rat.pow_zero];decide
 |n+1=>by rw[Rat.pow_succ];exact Kcp (Ph h n) h
theorem Pj{W:Rat}(h:1<=W):∀n:Nat,1<=W^n
 |0=>by rw[Rat.pow_zero];decide
 |n+1=>by rw[Rat.pow_succ];have h1:=Pj h n;have:=KbZ h1 (show(0:Rat)<=W by grind);grind
theorem Oq{W:Rat}(h:0<=W)(c:Rat)(m:List Int):0<=eW c*W^iS m:=Kcp (rY c) (Ph h _)
theorem QL{W:Rat}(h:0<=W):∀p,0<=nW W p
 | []=>by simp only[nW];decide
 |t::p=>by have h1:=Oq h t.1 t.2;have h2:=QL h p;simp only[nW];grind
def Pos(p:List Tm):Prop:=∀t∈p,∀i,0<=eN t.2 i
def jF(c:Rat):Prop:=∃z:Int,c=(z:Rat)
theorem jF.add{a b:Rat}:jF a->jF b->jF (a+b):=fun⟨x,hx⟩ ⟨y,hy⟩=>⟨x+y,by rw[hx,hy,Rat.intCast_add]⟩
theorem jF.mul{a b:Rat}:jF a->jF b->jF (a*b):=fun⟨x,hx⟩ ⟨y,hy⟩=>⟨x*y,by rw[hx,hy,Rat.intCast_mul]⟩
theorem jF.nat(n:Nat):jF (n:Rat):=⟨n,(Kbj n).symm⟩
def IW(D F:Rat)(N:Nat)(p:List Tm):Prop:=∀t∈p,iS t.2<=N/\jF (t.1*(D*F^(N-iS t.2)))
theorem IW.cons{D F:Rat}{N:Nat}{t:Tm}{p:List Tm}:IW D F N (t::p)↔(iS t.2<=N/\jF (t.1*(D*F^(N-iS t.2))))/\IW D F N p:=by simp[IW]
def c4(m:List Int):Nat:=(((eN m 3).toNat*81+(eN m 2).toNat)*729+(eN m 1).toNat)*6561+(eN m 0).toNat
theorem ajs{a b:List Int}(ha:∀i,0<=eN a i)(hb:∀i,0<=eN b i)(la:a.length<=4)(lb:b.length<=4)(pa:iS a<=6560)(pb:iS b<=6560)(h:aX a b<0):c4 a<c4 b:=by have a0:=ha 0;have a1:=ha 1;have a2:=ha 2;have a3:=ha 3;have b0:=hb 0;have b1:=hb 1;have b2:=hb 2;have b3:=hb 3;have:=afg la lb h;simp only[iS]at pa pb;simp only[c4,Zo,Zg,Zm,Zc,Zf,Zl,Zh,Zs,Zi,Zb,Zk,Zn,Zu,Zq,Zr,Zz];omega
theorem Nl{a:List Int}(pa:iS a<=6560):c4 a<2^32:=by simp only[iS]at pa;simp only[c4,Zo,Zg,Zm,Zc,Zf,Zl,Zh,Zs,Zi,Zb,Zk,Zn,Zu,Zq,Zr,Zz];omega
structure BP(D F W N0:Rat)(p:List Tm):Prop where
 i:IW D F 6560 p
 n:nW W p<=N0
 pos:Pos p
 ml:ML 4 p
 rS:bf p
theorem Pk{p:List Tm}:(∀t∈p,iS t.2<=6560)->Pos p->ML 4 p->iH p->p≠[]->p.length<=c4 (kI p).2+1:=by
 induction p with
 |nil=>intro _ _ _ _ h;exact absurd rfl h
 | cons t p ih=>
  intro hp hP hM hs _;cases p with
  |nil=>simp
  |cons s p=>have h1:=ih (fun x hx=>hp x (by simp[hx])) (fun x hx=>hP x (by simp[hx])) (fun x hx=>hM x (by simp[hx])) hs.2 (by simp);have h2:=hs.1 s (by simp);have h3:=xh t.2 s.2;have h4:=ajs (hP s (by simp)) (hP t (by simp)) (hM s (by simp)) (hM t (by simp)) (hp s (by simp)) (hp t (by simp)) (by omega);simp only[kI,List.headD_cons,KaQ]at h1⊢;omega
theorem BP.len{D F W N0:Rat}{p:List Tm}(h:BP D F W N0 p):p.length<=2^32:=by
 by_cases h0:p=[]
 ·subst h0;simp
 ·have h1:=Pk (fun t ht=>(h.i t ht).1) h.pos h.ml h.rS.s h0;have:=Nl (h.i _ (DO h0)).1;omega
theorem M7{W:Rat}(h:1<=W):∀ {p:List Tm} {t:Tm},t∈p->eW t.1<=nW W p
 | s::p,t,ht=>by
  have h0:(0:Rat)<=W:=by grind
  have h1:=QL h0 p;have h2:=Oq h0 s.1 s.2;simp only[nW];rcases KaC.1 ht with rfl|ht
  ·have h3:=Kcn (Pj h (iS t.2)) (rY t.1);grind
  ·have:=M7 h ht;grind
theorem BP.PB{d f w n0 L:Nat}{p:List Tm}(h:BP d f w n0 p)(hd:0<d)(hf:0<f)(hw:0<w)(iB:0<n0)(hL:nl (n0*(d*f^6560))<L):PB L 6560 p:=by
 intro t ht;obtain⟨h1,z,hz⟩:=h.i t ht;have JZ:(1:Rat)<=(w:Rat):=by rw[<-Rat.intCast_natCast,show(1:Rat)=((1:Int):Rat)from rfl,KbU];omega
 have hN:eW t.1<=(n0:Rat):=by have:=M7 JZ ht;have:=h.n;grind
 have hX:(d:Rat)*(f:Rat)^(6560-iS t.2)=((d*f^(6560-iS t.2):Nat):Rat):=by rw[KcJ,Rat.natCast_pow]
 have an5:∀N k:Nat,k<=N->d*f^k<=d*f^N:=fun N k h=>Ka9 _ (Kbu hf h);have RW:=an5 6560 (6560-iS t.2) (Nat.sub_le _ _);have AL:0<d*f^(6560-iS t.2):=KcM hd (KbM hf);rw[hX]at hz;generalize d*f^(6560-iS t.2)=X at *
 generalize d*f^6560=Y at *
 have I5:((X:Int):Rat)≠0:=by rw[Ne,Kbc];omega
 have e:t.1=(z:Rat)/((X:Int):Rat):=by rw[<-hz,Kbj];rw[Kbj]at I5;grind
 have yD:z.natAbs<=n0*Y:=by
  have h2:eW (z:Rat)=eW t.1*(X:Rat):=by rw[<-hz,Di];congr 1;rw[<-Rat.intCast_natCast,xd,Ka7,Kbj]
  rw[xd]at h2;have h3:(0:Rat)<=(X:Rat):=by rw[<-Rat.intCast_natCast,show(0:Rat)=((0:Int):Rat)from rfl,KbU];omega
  have h4:=KbZ hN h3;rw[<-h2,<-Rat.natCast_mul,<-Rat.intCast_natCast,<-Rat.intCast_natCast,KbU]at h4;have h5:=Ka9 n0 RW;omega
 have hr:=F7 z (X:Int) (by omega);rw[<-e,Ka7]at hr;have g1:=fG yD;have g2:nl X<=nl (n0*Y):=by exact fG (KaO RW (Nat.le_mul_of_pos_left _ iB))
 have g3:1<=nl X:=by apply Decidable.byContradiction;intro hc;have:=wX.1 (show nl X=0 by omega);omega
 refine⟨by omega,⟨by have:=h.ml t ht;omega,fun x hx=>?_,fun x hx=>?_⟩,h.rS.c t ht⟩
 all_goals
  obtain⟨i,hi,rfl⟩:=Kaz hx;have hp:=h.pos t ht i;rw[ik hi]at hp
 ·exact hp
 ·have hl:=h.ml t ht;simp only[iS]at h1;rw[<-ik hi];rw[<-ik hi]at hp;have:i=0∨i=1∨i=2∨i=3:=by omega
  rcases this with rfl|rfl|rfl|rfl<;>omega
def rh(p:List Tm):Nat:=(p.map fun t=>t.1.den).foldr (· * ·) 1
def na(p:List Tm):Nat:=(p.map fun t=>t.1.num.natAbs).foldr (· + ·) 0
theorem Lu(p:List Tm):0<rh p:=by
 induction p with
 |nil=>simp[rh]
 |cons t p ih=>exact KcM (Ka6 t.1.den_nz) ih
theorem HR:∀ {p:List Tm} {t:Tm},t∈p->t.1.den∣rh p
 |s::p,t,ht=>by
  rcases KaC.1 ht with rfl|ht
  ·exact Nat.dvd_mul_right _ _
  ·exact Nat.dvd_trans (HR ht) (Nat.dvd_mul_left _ _)
theorem afh{p:List Tm}{K E:Nat}(hp:FW.PB K E p):nl (rh p)<=p.length*K+1:=by
 induction p with
 |nil=>simp[rh,oQ]
 |cons t p ih=>have h1:=ih (PB.cons.1 hp).2;have h2:=(PB.cons.1 hp).1.c;have h3:=kq t.1.den (rh p);unfold rs at h2;rw[KaQ,Nat.succ_mul];have e:rh (t::p)=t.1.den*rh p:=rfl;rw[e];omega
theorem afi{p:List Tm}{K E:Nat}(hp:FW.PB K E p):nl (na p)<=p.length+K:=by
 induction p with
 |nil=>simp[na,DD]
 |cons t p ih=>have h1:=ih (PB.cons.1 hp).2;have h2:=(PB.cons.1 hp).1.c;have h3:=z' t.1.num.natAbs (na p);unfold rs at h2;have e:na (t::p)=t.1.num.natAbs+na p:=rfl;rw[e,KaQ];omega
theorem Mj{c:Rat}{L:Nat}(h:c.den∣L):jF (c*(L:Rat)):=by
 obtain⟨k,rfl⟩:=h;refine⟨c.num*(k:Int),?_⟩;have hd0:=c.den_nz;have d1:c=(c.num:Rat)/((c.den:Int):Rat):=by
  conv=>lhs;rw[<-Rat.mkRat_self c]
  rw[Kcm,Kbj]
 have k1:((c.den:Int):Rat)≠0:=by rw[Ne,Kbc];omega
 rw[KcJ,Rat.intCast_mul,Kbj,<-Rat.intCast_natCast c.den];generalize((c.den:Int):Rat)=D at *
 generalize(c.num:Rat)=N at *
 rw[d1];grind
theorem acd(c:Rat):eW c*(c.den:Rat)=((c.num.natAbs:Nat):Rat):=by
 have d1:c*(c.den:Rat)=(c.num:Rat):=by
  have e:c=(c.num:Rat)/((c.den:Int):Rat):=by
   conv=>lhs;rw[<-Rat.mkRat_self c]
   rw[Kcm,Kbj]
  have k1:((c.den:Int):Rat)≠0:=by rw[Ne,Kbc];have:=c.den_nz;omega
  rw[<-Rat.intCast_natCast];generalize((c.den:Int):Rat)=D at *
  generalize(c.num:Rat)=N at *
  rw[e];grind
 rw[<-xd,<-d1,Di];congr 1;rw[<-Rat.intCast_natCast,xd,Ka7,Kbj]
theorem UZ{a b:Nat}(h:a<=b):(a:Rat)<=(b:Rat):=by rw[<-Rat.intCast_natCast,<-Rat.intCast_natCast,KbU];omega
theorem U'(c:Rat):eW c<=((c.num.natAbs:Nat):Rat):=by have h:=acd c;have h1:(1:Rat)<=(c.den:Rat):=UZ (a:=1) (Ka6 c.den_nz);have:=Kcn h1 (rY c);grind
def n1:List Tm->Rat
 | []=>0
 |t::p=>eW t.1+n1 p
theorem Da:∀p,0<=n1 p
 | []=>Rat.le_refl
 |t::p=>by have h1:=rY t.1;have h2:=Da p;simp only[n1];grind
theorem Mk(p q:List Tm):n1 (Qq p q)<=n1 p+n1 q:=by
 induction p,q using Qq.induct with
 |case1 q=>rw[qO];simp only[n1];grind
 |case2 p hp=>rw[kX];simp only[n1];grind
 |case3 c m p d l q h1 ih=>rw[Qq,if_pos h1];simp only[n1]at ih ⊢;grind
 |case4 c m p d l q h1 h2 ih=>rw[Qq,if_neg h1,if_pos h2];simp only[n1]at ih ⊢;grind
 |case5 c m p d l q h1 h2 h3 ih=>rw[Qq,if_neg h1,if_neg h2,if_pos h3];have g1:=rY c;have g2:=rY d;simp only[n1]at ih ⊢;grind
 |case6 c m p d l q h1 h2 h3 ih=>rw[Qq,if_neg h1,if_neg h2,if_neg h3];have g:=acb c d;simp only[n1]at ih⊢;grind
theorem QM(t:Tm):∀p:List Tm,n1 (Qw p t)<=eW t.1*n1 p
 | []=>by simp only[Qw,List.filterMap_nil,n1];grind
 |s::p=>by
  have ih:=QM t p;have g:=Di s.1 t.1;have g2:=Kcp (rY t.1) (rY s.1);unfold Qw at ih⊢;rw[KcD];by_cases e:s.1*t.1=0
  ·rw[if_pos e];simp only[n1];grind
  ·rw[if_neg e];simp only[n1];grind
def qC:List (List Tm)->Rat
 | []=>0
 |p::l=>n1 p+qC l
theorem Pm:∀a b:List (List Tm),qC (a++b)=qC a+qC b
 | [],b=>by simp only[KaH,qC];grind
 |p::a,b=>by simp only[KaJ,qC];rw[Pm a b];grind
theorem Ml(l:List (List Tm)):n1 (cy l)<=qC l:=by
 induction l using cy.induct with
 |case1=>rw[cy];exact Rat.le_refl
 |case2 p=>rw[cy];simp only[qC];grind
 |case3 p q r h1 h2=>rw[cy];have h3:=Mk (cy ((p::q::r).take ((p::q::r).length/2))) (cy ((p::q::r).drop ((p::q::r).length/2)));have h4:=Pm ((p::q::r).take ((p::q::r).length/2)) ((p::q::r).drop ((p::q::r).length/2));rw[Kbe]at h4;rw[h4];grind
theorem Ht(q:List Tm):∀p:List Tm,qC (p.map (Qw q))<=n1 p*n1 q
 | []=>by simp only[Kby,qC,n1];grind
 |t::p=>by have ih:=Ht q p;have h:=QM t q;simp only[Kbk,qC,n1];grind
theorem afj(p q:List Tm):n1 (Q8 p q)<=n1 p*n1 q:=by
 unfold Q8;split
 ·have h1:=Ml (q.map (Qw p));have h2:=Ht p q;unfold oV;grind
 ·have h1:=Ml (p.map (Qw q));have h2:=Ht q p;unfold oV;grind
def Dn(D:Nat)(p:List Tm):Prop:=∀t∈p,jF (t.1*(D:Rat))
theorem Mm{D:Nat}(p q:List Tm):Dn D p->Dn D q->Dn D (Qq p q):=by
 induction p,q using Qq.induct with
 |case1 q=>intro _ h;rwa[qO]
 |case2 p hp=>intro h _;rwa[kX]
 |case3 c m p d l q h1 ih=>
  intro hp hq;rw[Qq,if_pos h1];intro t ht;rcases KaC.1 ht with rfl|ht
  ·exact hp _ (Kbp ..)
  ·exact ih (fun t ht=>hp t (KaZ _ ht)) hq t ht
 |case4 c m p d l q h1 h2 ih=>
  intro hp hq;rw[Qq,if_neg h1,if_pos h2];intro t ht;rcases KaC.1 ht with rfl|ht
  ·exact hq _ (Kbp ..)
  ·exact ih hp (fun t ht=>hq t (KaZ _ ht)) t ht
 |case5 c m p d l q h1 h2 h3 ih=>intro hp hq;rw[Qq,if_neg h1,if_neg h2,if_pos h3];exact ih (fun t ht=>hp t (KaZ _ ht)) fun t ht=>hq t (KaZ _ ht)
 | case6 c m p d l q h1 h2 h3 ih=>
  intro hp hq;rw[Qq,if_neg h1,if_neg h2,if_neg h3];intro t ht;rcases KaC.1 ht with rfl|ht
  ·have a:=hp (c,m) (Kbp ..);have b:=hq (d,l) (Kbp ..);show jF ((c+d)*(D:Rat));rw[Rat.add_mul];exact a.add b
  ·exact ih (fun t ht=>hp t (KaZ _ ht)) (fun t ht=>hq t (KaZ _ ht)) t ht
theorem Mn{D:Nat}(l:List (List Tm)):(∀p∈l,Dn D p)->Dn D (cy l):=by
 induction l using cy.induct with
 |case1=>intro _;rw[cy];intro t ht;cases ht
 |case2 p=>intro h;rw[cy];exact h p (Kbp ..)
 |case3 p q r h1 h2=>intro h;rw[cy];exact Mm _ _ (h1 fun x hx=>h x (Ka4 hx)) (h2 fun x hx=>h x (Kbt hx))
theorem QN{D D':Nat}{t:Tm}(ht:jF (t.1*(D':Rat))){p:List Tm}(hp:Dn D p):Dn (D*D') (Qw p t):=by
 intro x hx;simp only[Qw,Kb0]at hx;obtain⟨s,hs,e⟩:=hx;split at e
 ·cases e
 ·obtain rfl:(s.1*t.1,dk s.2 t.2)=x:=by simpa using e
  have:=(hp s hs).mul ht;show jF (s.1*t.1*((D*D':Nat):Rat));rw[KcJ,show s.1*t.1*((D:Rat)*(D':Rat))=s.1*(D:Rat)*(t.1*(D':Rat))by grind];exact this
theorem afk{D D':Nat}{p q:List Tm}(hp:Dn D p)(hq:Dn D' q):Dn (D*D') (Q8 p q):=by
 unfold Q8;split
 ·refine Mn _ fun x hx=>?_;obtain⟨t,ht,rfl⟩:=KaE.1 hx;exact QN (hq t ht) hp
 ·refine Mn _ fun x hx=>?_;obtain⟨t,ht,rfl⟩:=KaE.1 hx;rw[KaX];exact QN (hp t ht) hq
theorem M8:∀ {p:List Tm} {t:Tm},t∈p->eW t.1<=n1 p
 | s::p,t,ht=>by
  have h1:=Da p;have h2:=rY s.1;simp only[n1];rcases KaC.1 ht with rfl|ht
  ·grind
  ·have:=M8 ht;grind
theorem Lv{D N:Nat}{p:List Tm}(hD:0<D)(hN:0<N)(hp:Dn D p)(hn:n1 p<=(N:Rat)){t:Tm}(ht:t∈p):rs t.1<=nl (N*D)+nl D+2:=by
 obtain⟨z,hz⟩:=hp t ht;have hT:=M8 ht;have hNt:eW t.1<=(N:Rat):=by grind
 have I5:((D:Int):Rat)≠0:=by rw[Ne,Kbc];omega
 have e:t.1=(z:Rat)/((D:Int):Rat):=by rw[<-hz,Kbj];rw[Kbj]at I5;grind
 have yD:z.natAbs<=N*D:=by
  have h2:eW (z:Rat)=eW t.1*(D:Rat):=by rw[<-hz,Di];congr 1;rw[<-Rat.intCast_natCast,xd,Ka7,Kbj]
  rw[xd]at h2;have h3:(0:Rat)<=(D:Rat):=by rw[<-Rat.intCast_natCast,show(0:Rat)=((0:Int):Rat)from rfl,KbU];omega
  have h4:=KbZ hNt h3;rw[<-h2,<-Rat.natCast_mul,<-Rat.intCast_natCast,<-Rat.intCast_natCast,KbU]at h4;omega
 have hr:=F7 z (D:Int) (by omega);rw[<-e,Ka7]at hr;have g1:=fG yD;omega
def XB(E:Nat)(p:List Tm):Prop:=∃K,PB K E p
theorem XB.uR{E:Nat}{p q:List Tm}:XB E p->XB E q->XB E (FW.Qq p q):=fun⟨_,h⟩ ⟨_,g⟩=>⟨_,DJ p q h g⟩
theorem XB.TH{E:Nat}(l:List (List Tm)):(∀p∈l,XB E p)->XB E (FW.cy l):=by
 induction l using FW.cy.induct with
 |case1=>intro _;rw[FW.cy];exact⟨0,PB.nil _ _⟩
 |case2 p=>intro h;rw[FW.cy];exact h p (Kbp ..)
 |case3 p q r h1 h2=>intro h;rw[FW.cy];exact XB.uR (h1 fun x hx=>h x (Ka4 hx)) (h2 fun x hx=>h x (Kbt hx))
theorem XB.tp{E F:Nat}{p q:List Tm}:XB E p->XB F q->XB (E+F) (FW.Q8 p q):=fun⟨K,h⟩ ⟨L,g⟩=>by
 unfold FW.Q8;split
 ·refine XB.TH _ fun x hx=>?_;obtain⟨t,ht,rfl⟩:=KaE.1 hx;exact⟨K+L,tC h (g t ht)⟩
 ·refine XB.TH _ fun x hx=>?_;obtain⟨t,ht,rfl⟩:=KaE.1 hx;rw[KbR];exact⟨L+K,tC g (h t ht)⟩
structure SZ(a b E:Nat)(p:List Tm):Prop where
 d:∃D N:Nat,0<D/\0<N/\nl D<=a/\nl N<=b/\Dn D p/\n1 p<=(N:Rat)
 x:XB E p
theorem SZ.mono{a b E a' b' E':Nat}{p:List Tm}(h:SZ a b E p)(ha:a<=a')(hb:b<=b')(hE:E<=E'):SZ a' b' E' p:=by obtain⟨⟨D,N,h1,h2,h3,h4,h5,h6⟩,K,hx⟩:=h;exact⟨⟨D,N,h1,h2,by omega,by omega,h5,h6⟩,K,hx.mono (Kae _) hE⟩
theorem Dn.dvd{D D':Nat}{p:List Tm}(h:Dn D p)(hd:D∣D'):Dn D' p:=fun t ht=>by obtain⟨k,rfl⟩:=hd;rw[KcJ,<-Rat.mul_assoc];exact(h t ht).mul (jF.nat k)
theorem SZ.tp{a b E a' b' E':Nat}{p q:List Tm}(hp:SZ a b E p)(hq:SZ a' b' E' q):SZ (a+a') (b+b') (E+E') (FW.Q8 p q):=by
 obtain⟨⟨D,N,h1,h2,h3,h4,h5,h6⟩,hx⟩:=hp;obtain⟨⟨D',N',g1,g2,g3,g4,g5,g6⟩,gx⟩:=hq;have e1:=kq D D';have e2:=kq N N';refine⟨⟨D*D',N*N',KcM h1 g1,KcM h2 g2,by omega,by omega,afk h5 g5,?_⟩,hx.tp gx⟩;have m1:=afj p q;have m2:=KbZ h6 (Da q);have n0:(0:Rat)<=(N:Rat):=by have:=Da p;grind
 have m3:=Kcn g6 n0;rw[KcJ];grind
theorem SZ.uR{a b E a' b':Nat}{p q:List Tm}(hp:SZ a b E p)(hq:SZ a' b' E q):SZ (a+a') (max b b'+1) E (FW.Qq p q):=by obtain⟨⟨D,N,h1,h2,h3,h4,h5,h6⟩,hx⟩:=hp;obtain⟨⟨D',N',g1,g2,g3,g4,g5,g6⟩,gx⟩:=hq;have e1:=kq D D';have e2:=z' N N';refine⟨⟨D*D',N+N',KcM h1 g1,by omega,by omega,by omega,Mm p q (h5.dvd (Nat.dvd_mul_right _ _)) (g5.dvd (Nat.dvd_mul_left _ _)),?_⟩,hx.uR gx⟩;have m1:=Mk p q;rw[Rat.natCast_add];grind
theorem SZ.PB{a b E:Nat}{p:List Tm}(h:SZ a b E p):PB (a+b+a+3) E p:=fun t ht=>by obtain⟨⟨D,N,h1,h2,h3,h4,h5,h6⟩,K,hx⟩:=h;have hr:=Lv h1 h2 h5 h6 ht;have e:=kq N D;exact⟨by omega,(hx t ht).m,(hx t ht).l⟩
theorem Ir:∀p:List Tm,n1 p<=((na p:Nat):Rat)
 | []=>Rat.le_refl
 |t::p=>by have h1:=Ir p;have h2:=U' t.1;have e:na (t::p)=t.1.num.natAbs+na p:=rfl;rw[e,Rat.natCast_add];simp only[n1];grind
theorem SZ.of{K E L:Nat}{p:List Tm}(h:FW.PB K E p)(hl:p.length<=L):SZ (L*K+1) (L+K+2) E p:=by
 have h1:=afh h;have h2:=afi h;have h3:=z' (na p) 1;have h4:nl 1<=1:=by rw[oQ];exact Kae 1
 have h5:p.length*K<=L*K:=Kam _ hl;have h6:=fG (show na p<=na p+1 by omega);by_cases hz:nl (na p)=0
 ·refine⟨⟨rh p,na p+1,Lu p,by omega,by omega,by omega,fun t ht=>Mj (HR ht),?_⟩,K,h⟩;have:=Ir p;rw[Rat.natCast_add];have:(0:Rat)<=((1:Nat):Rat):=by decide
  grind
 ·refine⟨⟨rh p,na p,Lu p,Ka6 fun e=>hz (wX.2 e),by omega,by omega,fun t ht=>Mj (HR ht),Ir p⟩,K,h⟩
def mS:List (List Tm×List Tm)->List Tm->Option (List Tm)
 | [],s=>some s
 |x::l,s=>if 4000<(Qq s (Q8 x.1 x.2)).length then none else mS l (Qq s (Q8 x.1 x.2))
def js(q:List Tm):Nat->List Tm->Option (List Tm)
 |0,p=>some p
 |n+1,p=>if 4000<(Q8 p q).length then none else js q n (Q8 p q)
def oR:List (List Tm×Nat)->List Tm->Option (List Tm)
 | [],p=>some p
 |x::l,p=>(js x.1 x.2 p).bind (oR l)
def eK(l:List (List Tm×List Tm))(i:Nat):List Tm:=(l.take i).foldl (fun s x=>Qq s (Q8 x.1 x.2)) []
theorem zd{l:List (List Tm×List Tm)}{i:Nat}(h:i<l.length):eK l (i+1)=Qq (eK l i) (Q8 l[i].1 l[i].2):=by unfold eK;rw[Kao h,Kcz];rfl
theorem Lw{a b E a' b' E':Nat}{l:List (List Tm×List Tm)}(hl:∀x∈l,SZ a b E x.1/\SZ a' b' E' x.2):∀i,i<=l.length->SZ (i*(a+a')+1) (b+b'+i+1) (E+E') (eK l i)
 |0,_=>by
  refine⟨⟨1,1,by omega,by omega,?_,?_,fun t ht=>?_,?_⟩,0,fun t ht=>?_⟩
  ·rw[oQ];omega
  ·rw[oQ];omega
  ·simp[eK]at ht
  ·simp only[eK,Kb5,List.foldl_nil,n1];decide
  ·simp[eK]at ht
 |i+1,hi=>by
  have h:=Lw hl i (by omega);obtain⟨h1,h2⟩:=hl _ (Kah (show i<l.length by omega));rw[zd (by omega)];refine(h.uR (h1.tp h2)).mono ?_ ?_ (Kae _)
  ·rw[Nat.succ_mul];omega
  ·omega
theorem GX{l:List (List Tm×List Tm)}{i:Nat}(h:i<l.length):mS (l.drop i) (eK l i)=if 4000<(eK l (i+1)).length then none else mS (l.drop (i+1)) (eK l (i+1)):=by rw[Kau h];rw[zd h];rfl
theorem QO{l:List (List Tm×List Tm)}(hl:∀x∈l,bf x.1/\bf x.2):∀i,i<=l.length->bf (eK l i)
 |0,_=>bf.nil
 |i+1,hi=>by obtain⟨h1,h2⟩:=hl _ (Kah (show i<l.length by omega));rw[zd (by omega)];exact vb (QO hl i (by omega)) (tH h1.s h2.s)
def dK:Nat->Nat
 |0=>5
 |k+1=>10*dK k+62
def dE:Nat->Nat
 |0=>4
 |k+1=>3*dE k
def dL:Nat->Nat
 |0=>5
 |k+1=>10*dL k
theorem d5{k:Nat}(h:k<=5):dK k<=1188882/\dE k<=972/\dL k<=500000/\(k<5->dK k<=118882):=by
 have:k=0∨k=1∨k=2∨k=3∨k=4∨k=5:=by omega
 rcases this with rfl|rfl|rfl|rfl|rfl|rfl<;>decide
theorem bf.drop{p:List Tm}(h:bf p):∀k,bf (p.drop k)
 |0=>h
 |k+1=>by
  have:=bf.drop h k;rw[<-List.drop_drop];cases hd:p.drop k with
  |nil=>simpa using bf.nil
  |cons t l=>rw[hd]at this;simpa using this.tail
abbrev PV.pe(r:List Tm×Int):PV:=.aI [PV.ao r.1,.int .i64 r.2]
abbrev PV.cert(fs:List (List Tm))(ps:List Int)(n:Int)(cs:List (List Tm)):PV:=.agg [PV.dp fs,PV.mono ps,.int .i64 n,PV.dp cs]
def nb:Option (List Tm)->List Tm×Int
 |some r=>(r,0)
 |none=>([],4)
def eh(cs ls:List (List Tm)):List Tm×Int:=if cs.length=ls.length then nb (mS (cs.zip ls) [])else([],16)
def vl(q p:List Tm)(n:Nat):List Tm×Int:=nb (js q n p)
def tQ(ps:List Int):Bool:=ps.all fun n=>decide (0<=n/\n<=64)
def fq(fs:List (List Tm))(ps:List Int):List Tm×Int:=
 if fs.length=ps.length then(if tQ ps then nb (oR (fs.zip (ps.map Int.toNat)) (cD 1))else([],2))else([],16)
def oS(fs:List (List Tm))(ps:List Int)(n:Int)(cs hs:List (List Tm))(g:List Tm):Int:=
 if(fq fs ps).2=0 then
  if fs.any List.isEmpty then 3
  else if n<1∨64<n then 2
  else if cs.length=hs.length then
   match js g n.toNat (fq fs ps).1 with
   |none=>4
   |some l=>if(eh cs hs).2=0 then(if l=(eh cs hs).1 then 0 else 17)else(eh cs hs).2
  else 16
 else(fq fs ps).2
structure n7(p:List Tm):Prop where
 z:SZ 64 64 64 p
 l:p.length<=64
 n:bf p
structure qF(p:List Tm):Prop where
 z:SZ (2097152) (2097152) (16384) p
 l:p.length<=131072
 n:bf p
structure eX(k:Nat)(p:List Tm):Prop where
 z:SZ (64*k) (64*k) (64*k) p
 l:p.length<=64
 n:bf p
theorem n7.w{p:List Tm}(h:n7 p):eX 1 p:=⟨h.z.mono (by omega) (by omega) (by omega),h.l,h.n⟩
theorem eX.PB{k:Nat}{p:List Tm}(h:eX k p)(hk:k<=512):PB 131072 32768 p:=h.z.PB.mono (by omega) (by omega)
theorem n7.PB{p:List Tm}(h:n7 p):PB 256 64 p:=h.z.PB.mono (by omega) (by omega)
theorem qF.PB{p:List Tm}(h:qF p):FW.PB (8388608) (16384) p:=h.z.PB.mono (by omega) (by omega)
theorem n7.Iy{p:List Tm}(h:n7 p):qF p:=⟨h.z.mono (by omega) (by omega) (by omega),by have:=h.l;omega,h.n⟩
theorem Mo{cs ls:List (List Tm)}(hl:cs.length=ls.length){i:Nat}(h:i<cs.length):(cs.zip ls)[i]'(by simp;omega)=(cs[i],ls[i]'(by omega)):=KcS
theorem afl{P Q:List Tm->Prop}{cs ls:List (List Tm)}(h1:∀c∈cs,P c)(h2:∀c∈ls,Q c):∀x∈cs.zip ls,P x.1/\Q x.2:=fun x hx=>by obtain⟨i,hi,rfl⟩:=Kaz hx;rw[KcS];exact⟨h1 _ (Kah _),h2 _ (Kah _)⟩
theorem Is{cs ls:List (List Tm)}(h1:∀c∈cs,qF c){k:Nat}(hk:k<=512)(h2:∀c∈ls,eX k c)(hl:cs.length<=8){i:Nat}(hi:i<=(cs.zip ls).length):PB (268435456) (65536) (eK (cs.zip ls) i)/\bf (eK (cs.zip ls) i):=by
 have hz:=afl (P:=qF) (Q:=eX k) h1 h2;have hi8:i<=8:=by rw[KcK]at hi;omega
 have hm:i*(2097152+64*k)<=8*(2097152+64*k):=Kam _ hi8;exact⟨((Lw (fun x hx=>⟨(hz x hx).1.z,(hz x hx).2.z⟩) i hi).mono (a':=17039361) (b':=2130000) (E':=65536) (by omega) (by omega) (by omega)).PB.mono (by omega) (by omega),QO (fun x hx=>⟨(hz x hx).1.n,(hz x hx).2.n⟩) i hi⟩
structure gY(m:Nat)(p:List Tm):Prop where
 z:SZ (m*64+1) (m*64+2) (m*64) p
 n:bf p
 l:p.length<=4000
theorem gY.PB{m:Nat}{p:List Tm}(h:gY m p)(hm:m<=2048):FW.PB (524288) (131072) p:=h.z.PB.mono (by omega) (by omega)
theorem gY.mul{m k:Nat}{p q:List Tm}(h:gY m p)(hq:eX k q)(hl:(Q8 p q).length<=4000):gY (m+k) (Q8 p q):=
 ⟨(h.z.tp hq.z).mono (by omega) (by omega) (by omega),tH h.n.s hq.n.s,hl⟩
theorem SZ.one:SZ 1 1 0 (cD 1):=by
 have e:cD 1=[((1:Rat),[])]:=by unfold cD;rw[if_neg (by decide)]
 rw[e];refine⟨⟨1,1,by omega,by omega,by rw[oQ];omega,by rw[oQ];omega,fun t ht=>?_,?_⟩,3,fun t ht=>?_⟩
 ·obtain rfl:t=(1,[]):=by simpa using ht
  exact⟨1,by decide+kernel⟩
 ·simp only[n1];decide+kernel
 ·obtain rfl:t=(1,[]):=by simpa using ht
  refine⟨?_,⟨by simp,by simp,by simp⟩,by simp⟩;show rs 1+1<=3;have:=pV;omega
theorem gY.one:gY 0 (cD 1):=⟨SZ.one.mono (by omega) (by omega) (by omega),CO 1,by unfold cD;rw[if_neg (by decide)];simp⟩
theorem GI{q P:List Tm}{n k:Nat}(h:k<n):js q (n-k) P=if 4000<(Q8 P q).length then none else js q (n-(k+1)) (Q8 P q):=by rw[show n-k=(n-(k+1))+1 by omega];rfl
theorem CU{q:List Tm}{k:Nat}(hq:eX k q):∀(n m:Nat)(p r:List Tm),gY m p->js q n p=some r->gY (m+n*k) r
 |0,m,p,r,hp,h=>by cases h;rw[KbG];exact hp
 | n+1,m,p,r,hp,h=>by
  unfold js at h;split at h
  ·cases h
  ·have:=CU hq n (m+k) _ r (hp.mul hq (by omega)) h
   rwa[show m+k+n*k=m+(n+1)*k by rw[KaD];omega]at this
theorem Ot{l:List (List Tm×Nat)}{i:Nat}{p:List Tm}(h:i<l.length):oR (l.drop i) p=(js l[i].1 l[i].2 p).bind (oR (l.drop (i+1))):=by rw[Kau h];rfl
def l8(fs:List (List Tm))(ps:List Int):List (List Tm×Nat):=fs.zip (ps.map Int.toNat)
theorem vd{fs:List (List Tm)}{ps:List Int}(h:fs.length=ps.length):(l8 fs ps).length=fs.length:=by simp[l8,h]
theorem HS{fs:List (List Tm)}{ps:List Int}(h:fs.length=ps.length){i:Nat}(hi:i<fs.length):(l8 fs ps)[i]'(by rw[vd h];exact hi)=(fs[i],(ps[i]'(by omega)).toNat):=by simp[l8,KcS]
theorem Hu{ps:List Int}(h:tQ ps=true){i:Nat}(hi:i<ps.length):0<=ps[i]/\ps[i]<=64:=by have:=Kap.1 h _ (Kah hi);simpa using this
theorem QP{ps:List Int}{i:Nat}(hi:i<ps.length)(h:¬(0<=ps[i]/\ps[i]<=64)):tQ ps=false:=by unfold tQ;rw[KbW];exact⟨_,Kah hi,by simpa using h⟩
theorem QQ{ps:List Int}(h:∀j (hj:j<ps.length),0<=ps[j]/\ps[j]<=64):tQ ps=true:=by unfold tQ;rw[Kap];intro x hx;obtain⟨j,hj,rfl⟩:=Kaz hx;exact decide_eq_true (h j hj)
theorem Db{fs:List (List Tm)}{ps:List Int}(h:fs.length=ps.length)(hp:tQ ps=false):fq fs ps=([],2):=by unfold fq;rw[if_pos h,hp];rfl
theorem Lx{fs:List (List Tm)}{ps:List Int}(h:fs.length=ps.length)(hp:tQ ps=true):fq fs ps=nb (oR (l8 fs ps) (cD 1)):=by unfold fq;rw[if_pos h,hp];rfl
theorem ZT{l:List (List Tm×Nat)}(hl:∀x∈l,n7 x.1/\x.2<=64):∀(m:Nat)(p r:List Tm),gY m p->oR l p=some r->∃n,n<=m+64*l.length/\gY n r:=by
 induction l with
 |nil=>intro m p r hp h;cases h;exact⟨m,by omega,hp⟩
 | cons x l ih=>
  intro m p r hp h;obtain⟨h1,h2⟩:=hl x (Kbp ..);show ∃n,_;unfold oR at h;cases hr:js x.1 x.2 p with
  |none=>rw[hr]at h;cases h
  |some s=>rw[hr]at h;obtain⟨n,h3,h4⟩:=ih (fun y hy=>hl y (KaZ _ hy)) (m+x.2) s r (by have:=CU h1.w _ _ _ _ hp hr;rwa[KbV]at this) h;exact⟨n,by rw[KaQ];omega,h4⟩
theorem QR{fs:List (List Tm)}{ps:List Int}(hf:∀c∈fs,n7 c)(hl:fs.length<=8)(h:(fq fs ps).2=0):∃n,n<=512/\gY n (fq fs ps).1:=by
 unfold fq at h⊢;split at h
 ·rename_i h1;rw[if_pos h1];split at h
  ·rename_i h2;rw[if_pos h2];cases hr:oR (l8 fs ps) (cD 1)with
   |none=>unfold l8 at hr;rw[hr]at h;cases h
   | some r=>
    have du:=hr;unfold l8 at du;rw[du];obtain⟨n,h3,h4⟩:=ZT (l:=l8 fs ps) (fun x hx=>by
     obtain⟨i,hi,rfl⟩:=Kaz hx;have az:i<fs.length:=by rwa[vd h1]at hi
     rw[HS h1 az];have:=Hu h2 (i:=i) (by omega);exact⟨hf _ (Kah az),by simp only;omega⟩) 0 _ r gY.one hr
    rw[vd h1]at h3;exact⟨n,by omega,h4⟩
  ·cases h
 ·cases h
theorem Ou{l:List (List Tm×List Tm)}{s:List Tm}:∀k i,k=l.length-i->i<=l.length->(eK l i).length<=4000->mS (l.drop i) (eK l i)=some s->s=eK l l.length/\s.length<=4000
 |0,i,hk,hi,hl,h=>by
  obtain rfl:i=l.length:=by omega
  rw[List.drop_length]at h;cases h;exact⟨rfl,hl⟩
 |k+1,i,hk,hi,hl,h=>by
  have az:i<l.length:=by omega
  rw[GX az]at h;split at h
  ·cases h
  ·exact Ou k (i+1) (by omega) (by omega) (by omega) h
theorem ace{cs ls:List (List Tm)}(h:(eh cs ls).2=0):cs.length=ls.length/\mS (cs.zip ls) []=some (eh cs ls).1/\(eh cs ls).1=eK (cs.zip ls) (cs.zip ls).length/\(eh cs ls).1.length<=4000:=by
 unfold eh at h⊢;split at h
 ·rename_i he;rw[if_pos he];cases hr:mS (cs.zip ls) []with
  |none=>rw[hr]at h;cases h
  |some s=>obtain⟨h1,h2⟩:=Ou _ 0 rfl (by omega) (by simp[eK]) (s:=s) (by exact hr);exact⟨he,rfl,h1,h2⟩
 ·cases h
theorem Ly{cs ls:List (List Tm)}{k:Nat}(hk:k<=512)(h1:∀c∈cs,qF c)(h2:∀c∈ls,eX k c)(hl:cs.length<=8):PB 268435456 65536 (eh cs ls).1/\bf (eh cs ls).1/\(eh cs ls).1.length<=4000:=by
 by_cases h:(eh cs ls).2=0
 ·obtain⟨_,_,h3,h4⟩:=ace h;have:=Is h1 hk h2 hl (Kae _);rw[<-h3]at this;exact⟨this.1,this.2,h4⟩
 ·have e:(eh cs ls).1=[]:=by
   unfold eh at h⊢;split
   ·rename_i he;rw[if_pos he]at h;cases hr:mS (cs.zip ls) []with
    |none=>rfl
    |some s=>rw[hr]at h;exact absurd rfl h
   ·rfl
  rw[e];exact⟨PB.nil _ _,bf.nil,by simp⟩
end Go.FW
