/- Part 10 of the proof of TriangularMakes: W7, FwUF. Own lemmas; no conditions. -/
import Derived.Test.YtdjoomkeehihmaaGreatTriangularMakesPart9
set_option maxHeartbeats 1000000
set_option linter.unusedSimpArgs false
set_option linter.unusedVariables false
set_option linter.unnecessarySimpa false
set_option maxRecDepth 100000
namespace Go.Proofs.YtdjoomkeehihmaaGreat
open Go Go.FW
theorem Pz{c:Rat}{L:Nat}(hL:0<L):PV.agg [.bool (decide (ga c<0)),PV.num L]=PV.zz (if c<0 then -(L:Int)else(L:Int)):=by
 by_cases h:c<0
 ·rw[if_pos h,PV.zz,decide_eq_true (C0.2 h),decide_eq_true (by omega),KcC,KaD]
 ·rw[if_neg h,PV.zz,decide_eq_false (fun x=>h (C0.1 x)),decide_eq_false (by omega),KaD]
theorem PA(L:Nat):PV.agg [.bool false,PV.num L]=PV.zz (L:Int):=by rw[PV.zz,decide_eq_false (by omega),KaD]
theorem ags{x y:Nat}(hx:nl x<2^40)(hy:nl y<2^40):Qc Tryz.prog 93 [PV.num x,PV.num y] (· =PV.num (x*y)):=by
 have:=zC (Qp x) (Qp y) hx hy
 rwa[Q6,Q6]at this
theorem Quv:Qc Tryz.prog 120 [PV.aj []] (· = .au [PV.aj [],PV.rat ((1:Int):Rat)]):=by refine Qf Qj Tryz.func120 rfl O1 (by simp[yG]) fun C hP=>?_;simp only[yG,Zo,Zg,Zm,Zc,Zf,Zl,Zh,Zs,Zi,Zb,Zk,Zn,Zu,Zq,Zr,Zz];refine Sz0 ?_;refine Qa hP (uL (by omega) (by omega)) rfl rfl rfl ?_;generalize((1:Int):Rat)=c;refine Sz0 ?_;refine jr ?_;refine Sz0 ?_;exact fb rfl rfl rfl (oZ) (Qw _)
theorem P'{p:List Tm}{K E:Nat}(hp:PB K E p)(np:aC p)(h0:p≠[])(hl:p.length<=2^20)(hK:p.length*K+(K+K)<=2^32)(hE:E<=2^38):
  Qc Tryz.prog 120 [PV.aj p] (· = .au [PV.aj (ch p (dI p)),PV.rat (dI p)]):=by
 have xM:0<p.length:=Kbq.2 h0;have dz:=OA hp np.z h0;have fU:=uU np.z h0;have ic:=(th p p.length (Kac _)).l0;have kX:=uV hp p.length (Kac _);have qP:=xf hp p.length (Kac _);have hpk:K<=p.length*K:=Nat.le_mul_of_pos_left _ xM;have hK1:1<=K:=by have:=(hp.get xM).c;omega
 have tV:=aa7 (x:=if(p[0]).1<0 then -(aZ p:Int)else(aZ p:Int)) (y:=(dH p:Int)) (by split<;>simp only[KcC,KaD]<;>rw[Kas]at kX<;>omega) (by rw[KaD];rw[Kas]at qP;omega) (by omega);rw[<-Pz (by rw[Kas]at ic;exact ic),<-PA]at tV;have qJ:(((if(p[0]).1<0 then -(aZ p:Int)else(aZ p:Int):Int):Rat)/((dH p:Int):Rat))=dI p:=by
  unfold dI;cases p with
  |nil=>cases h0 rfl
  |cons t p=>rfl
 rw[qJ]at tV;have vH:=(hp.get xM).c;have bp:p[0]=p[0]:=rfl;refine Qf Qj Tryz.func120 rfl O1 (by simp[yG]) fun C hP=>?_;simp only[yG,Zo,Zg,Zm,Zc,Zf,Zl,Zh,Zs,Zi,Zb,Zk,Zn,Zu,Zq,Zr,Zz];refine Sz0 ?_;refine Qb (fun h=>absurd h (by omega)) (fun _=>?_);refine Sz0 ?_;refine Qa hP (zP (n:=1) (by omega)) rfl rfl rfl ?_;refine Sz0 ?_;refine rE 4 1 Tz0 ?_;refine Qz (by repeat (first|exact Qs|exact Ql|exact Qm|exact Qn|exact Qo|apply Qk|apply Qr|apply Qx|apply Q4|apply Q5|apply Qi|apply Q2)) [(4,5),(7,11),(21,48)] [7] (fun n J hp=>∃i,n=p.length-i/\i<=p.length/\J 4=PV.num (dH (p.take i))/\J 5=PV.num (aZ (p.take i))/\J 21= .int .i64 (i:Nat)/\hp 3=some ⟨3,43,[.agg [.bool false,.aa,.aa]],false⟩) p.length ?_ ?_
 ·refine⟨0,rfl,by omega,?_⟩;refine Sz0 ?_;refine⟨?_,rfl,rfl⟩;simp[dH,fC]
 rintro _ J h ⟨i,rfl,hi,h4,h5,xN,bw⟩;refine Sz3 h4 h5 xN ?_;refine Qb (fun hg=>?_) (fun hg=>?_)
 ·have aA:i<p.length:=by omega
  have ba:=(hp.get aA).c;have qK:=xf hp i hi;have fI:=uV hp i hi;have qM:i*K<=p.length*K:=Kaf _ hi;have gj:=CN aA;have eY:=sU aA;unfold rs at ba;generalize hx:p[i]=x at *
  have jA:=x.1.den_nz;have en:Nat.gcd (aZ (p.take i)) x.1.den≠0:=fun h=>jA (Kcr h);have hgn:=DN (aZ (p.take i)) x.1.den;have hqd:=u5 x.1.den (Nat.gcd (aZ (p.take i)) x.1.den);generalize dH (p.take i)=G at *
  generalize aZ (p.take i)=L at *
  refine Sz4 h4 h5 xN hx ?_;refine Qa hP (Hx (x:=G) (y:=x.1.num.natAbs) (by show nl _<_;omega) (by show nl _<_;omega)) rfl rfl rfl ?_;refine Sz4 h4 h5 xN hx ?_;refine Qa hP (Hx (x:=L) (y:=x.1.den) (by show nl _<_;omega) (by show nl _<_;omega)) rfl rfl rfl ?_;refine Sz4 h4 h5 xN hx ?_;refine Qa hP (Gy (x:=x.1.den) (y:=Nat.gcd L x.1.den) (by show nl _<_;omega) (by show nl _<_;omega) en) rfl rfl rfl ?_;refine Sz4 h4 h5 xN hx ?_;refine Qa hP (ags (x:=L) (y:=x.1.den/Nat.gcd L x.1.den) (by omega) (by omega)) rfl rfl rfl ?_;refine Sz5 h4 h5 xN hx bw ?_;refine Qh (p.length-(i+1)) (by omega) ⟨i+1,rfl,by omega,?_⟩;rw[gj,eY];exact Tz1 bw
 ·obtain rfl:i=p.length:=by omega
  rw[Kas]at h4 h5 kX qP;generalize hx:p[0]=x at *
  have mW:=ic;refine Sz3 h4 h5 hx ?_;refine Qa hP (zU (a:=x.1) (by omega)) rfl rfl rfl ?_;refine Sz3 h4 h5 hx ?_;refine Qa hP tV rfl rfl rfl ?_;generalize dI p=a at *
  refine Sz3 h4 h5 hx ?_;refine Qa hP (Cb (K:=2+p.length*K+K) (hp.mono (by omega) (Kac _)) (by omega) (by omega) hE (by omega)) rfl rfl rfl ?_;refine Sz1 bw ?_;refine jr ?_;refine Sz0 ?_;exact fb rfl rfl rfl (Qw _) (Qw _)
theorem Quw:Qc Tryz.prog 70 [PV.aj []] (· = .au [PV.aj [],PV.rat ((1:Int):Rat)]):=by refine Qf Qj Tryz.func70 rfl PH (by simp[Ak]) fun C hP=>?_;simp only[Ak,Zo,Zg,Zm,Zc,Zf,Zl,Zh,Zs,Zi,Zb,Zk,Zn,Zu,Zq,Zr,Zz];refine Sz0 ?_;refine Qa hP (uH (by omega) (by omega)) rfl rfl rfl ?_;generalize((1:Int):Rat)=c;refine Sz0 ?_;refine jr ?_;refine Sz0 ?_;exact fb rfl rfl rfl (oZ) (Qw _)
theorem Qs5{p:List Tm}{K E:Nat}(hp:PB K E p)(np:aC p)(h0:p≠[])(hl:p.length<=2^20)(hK:p.length*K+(K+K)<=2^31)(hE:E<=2^38):
  Qc Tryz.prog 70 [PV.aj p] (· = .au [PV.aj (ch p (dI p)),PV.rat (dI p)]):=by
 have xM:0<p.length:=Kbq.2 h0;have dz:=OA hp np.z h0;have fU:=uU np.z h0;have ic:=(th p p.length (Kac _)).l0;have kX:=uV hp p.length (Kac _);have qP:=xf hp p.length (Kac _);have hpk:K<=p.length*K:=Nat.le_mul_of_pos_left _ xM;have hK1:1<=K:=by have:=(hp.get xM).c;omega
 rw[Kas]at ic kX qP;have tV:=ZN (x:=if(p[0]).1<0 then -(aZ p:Int)else(aZ p:Int)) (y:=(dH p:Int)) (by split<;>simp only[KcC,KaD]<;>omega) (by rw[KaD];omega) (by omega);rw[<-Pz ic,<-PA]at tV;have ub:decide (ga (p[0]).1<0)=decide ((p[0]).1.num<0):=by exact decide_eq_decide.2 xa
 rw[ub]at tV;have qJ:(((if(p[0]).1<0 then -(aZ p:Int)else(aZ p:Int):Int):Rat)/((dH p:Int):Rat))=dI p:=by
  unfold dI;cases p with
  |nil=>cases h0 rfl
  |cons t p=>rfl
 have aP:dI p≠0:=by
  rw[<-qJ];have k1:((dH p:Int):Rat)≠0:=by rw[Ne,Ka6];omega
  have k2:(((if(p[0]).1<0 then -(aZ p:Int)else(aZ p:Int):Int)):Rat)≠0:=by rw[Ne,Ka6];split<;>omega
  intro h;rw[KcA,Rat.mul_eq_zero]at h;rcases h with h|h
  ·exact k2 h
  ·grind
 rw[qJ]at tV;have cu:=TO (p:=p);refine Qf Qj Tryz.func70 rfl PH (by simp[Ak]) fun C hP=>?_;simp only[Ak,Zo,Zg,Zm,Zc,Zf,Zl,Zh,Zs,Zi,Zb,Zk,Zn,Zu,Zq,Zr,Zz];refine Sz0 ?_;refine Qb (fun h=>absurd h (by omega)) (fun _=>?_);refine Sz0 ?_;refine Qa hP (mw (n:=1) (by omega)) rfl rfl rfl ?_;refine Sz0 ?_;refine Qa hP (mw (n:=0) (by omega)) rfl rfl rfl ?_;refine Sz0 ?_;refine Qz (by repeat (first|exact Qs|exact Ql|exact Qm|exact Qn|exact Qo|apply Qk|apply Qr|apply Qx|apply Q4|apply Q5|apply Qi|apply Q2)) [(4,4),(6,10),(21,49)] [] (fun n J hp=>∃i,n=p.length-i/\i<=p.length/\J 4=PV.num (aZ (p.take i))/\J 6= .int .i64 (i:Nat)/\hp 3=some ⟨3,43,[.agg [.bool false,.aa,.aa]],false⟩) p.length ?_ ?_
 ·refine⟨0,rfl,by omega,?_⟩;refine Sz0 ?_;exact⟨rfl,rfl⟩
 rintro _ J h ⟨i,rfl,hi,h4,h6,bw⟩;refine Sz2 h4 h6 ?_;refine Qb (fun hg=>?_) (fun hg=>?_)
 ·have aA:i<p.length:=by omega
  have ba:=(hp.get aA).c;have fI:=uV hp i hi;have qM:i*K<=p.length*K:=Kaf _ hi;have eY:=sU aA;unfold rs at ba;generalize hx:p[i]=x at *
  have jA:=x.1.den_nz;have en:Nat.gcd (aZ (p.take i)) x.1.den≠0:=fun h=>jA (Kcr h);have hgn:=DN (aZ (p.take i)) x.1.den;have hqd:=u5 x.1.den (Nat.gcd (aZ (p.take i)) x.1.den);generalize aZ (p.take i)=L at *
  refine Sz3 h4 h6 hx ?_;refine Qa hP (Sx (x:=L) (y:=x.1.den) (by omega) (by omega)) rfl rfl rfl ?_;refine Sz3 h4 h6 hx ?_;refine Qa hP (QR (x:=x.1.den) (y:=Nat.gcd L x.1.den) (by omega) (by omega) en) rfl rfl rfl ?_;refine Sz3 h4 h6 hx ?_;refine Qa hP (yV (x:=L) (y:=x.1.den/Nat.gcd L x.1.den) (by omega) (by omega)) rfl rfl rfl ?_;refine Sz3 h4 h6 hx ?_;refine Qh (p.length-(i+1)) (by omega) ⟨i+1,rfl,by omega,?_⟩;rw[eY];exact Tz1 bw
 obtain rfl:i=p.length:=by omega
 rw[Kas]at h4;refine Sz1 h4 ?_;refine Qz (by repeat (first|exact Qs|exact Ql|exact Qm|exact Qn|exact Qo|apply Qk|apply Qr|apply Qx|apply Q4|apply Q5|apply Qi|apply Q2)) [(5,5),(11,12),(50,70)] [12] (fun n J hp=>∃i,n=p.length-i/\i<=p.length/\J 5=PV.num (o9 (aZ p) (p.take i))/\J 11= .int .i64 (i:Nat)/\hp 3=some ⟨3,43,[.agg [.bool false,.aa,.aa]],false⟩) p.length ?_ ?_
 ·refine⟨0,rfl,by omega,?_⟩;refine Sz1 bw ?_;exact⟨rfl,rfl⟩
 rintro _ J2 h2 ⟨i,rfl,hi,h5,cn,LZ⟩;refine Sz3 h4 h5 cn ?_;refine Qb (fun hg=>?_) (fun hg=>?_)
 ·have aA:i<p.length:=by omega
  have ba:=(hp.get aA).c;have gj:=GJ (L:=aZ p) aA;have oG:=Hp p aA;have nV:=N6 hp i hi;generalize hx:p[i]=x at *
  have Vl:=RM oG;have hrm:=gJ x.1.num.natAbs (aZ p/x.1.den);have hrd:=u5 (aZ p) x.1.den;have aoe:=ba;unfold rs at aoe;have hM:=RG (n:=decide (x.1.num<0)) (a:=ah x.1.num.natAbs) (d:=ah x.1.den) (m:=false) (b:=ah (aZ p)) (c:=ah 1) (k:=1+p.length*K) (ir (q:=x.1) (by omega)) ⟨Qp _,Qp _,kX,by show nl 1<=_;rw[jG];omega,by omega⟩ (by omega);have e1:mkRat (aZ p:Int) 1=(((aZ p:Nat):Int):Rat):=by rw[Kb1,show((1:Nat):Rat)=1 from rfl];grind
  rw[gK,rv,sW,Q6,Q6,e1]at hM;generalize x.1*(((aZ p:Nat):Int):Rat)=y at *
  refine Sz4 h4 h5 cn hx ?_;have r9:=mw (n:=1) (by omega);have LY:=Sx (x:=o9 (aZ p) (p.take i)) (y:=x.1.num.natAbs*(aZ p/x.1.den)) (by omega) (by omega);rw[<-gj]at LY;refine ns ?_ ?_
  ·refine Sz4 h4 h5 cn hx ?_;refine Qa hP r9 rfl rfl rfl ?_;refine Sz4 h4 h5 cn hx ?_;refine ns ?_ ?_
   all_goals
    refine Sz4 h4 h5 cn hx ?_;refine Qa hP hM rfl rfl rfl ?_;refine Sz4 h4 h5 cn hx ?_;rw[Vl];refine Qa hP LY rfl rfl rfl ?_;refine Sz4 h4 h5 cn hx ?_;refine Qh (p.length-(i+1)) (by omega) ⟨i+1,rfl,by omega,?_⟩;exact Tz1 LZ
  ·refine Sz4 h4 h5 cn hx ?_;refine Qa hP r9 rfl rfl rfl ?_;refine Sz4 h4 h5 cn hx ?_;refine Qa hP hM rfl rfl rfl ?_;refine Sz4 h4 h5 cn hx ?_;rw[Vl];refine Qa hP LY rfl rfl rfl ?_;refine Sz4 h4 h5 cn hx ?_;refine Qh (p.length-(i+1)) (by omega) ⟨i+1,rfl,by omega,?_⟩;exact Tz1 LZ
 ·obtain rfl:i=p.length:=by omega
  rw[Kas,cu]at h5;generalize hx:p[0]=x at *
  refine Sz3 h4 h5 hx ?_;refine Qa hP tV rfl rfl rfl ?_;generalize dI p=a at *
  refine Sz3 h4 h5 hx ?_;refine Qa hP (GG (x:=a.num) (by unfold rs at dz;omega)) rfl rfl rfl ?_;refine Sz3 h4 h5 hx ?_;refine Qb (fun h=>absurd (Rat.num_eq_zero.1 (CZ.1 h)) aP) (fun _=>?_);refine Sz3 h4 h5 hx ?_;refine Qa hP (FU (K:=2+p.length*K+K) (hp.mono (by omega) (Kac _)) np.z (by omega) (by omega) hE (by omega)) rfl rfl rfl ?_;refine Sz1 LZ ?_;refine jr ?_;refine Sz0 ?_;exact fb rfl rfl rfl (Qw _) (Qw _)
end Go.Proofs.YtdjoomkeehihmaaGreat
namespace Go.FW
open Go
def oF(p:List Tm):Tm:=p.headD (0,[])
theorem agt{p:List Tm}(h:0<p.length):p[0]=oF p:=by cases p with
 |nil=>simp at h
 |cons t p=>rfl
theorem H4{p:List Tm}(h:p≠[]):oF p∈p:=by cases p with
 |nil=>exact absurd rfl h
 |cons t p=>simp[oF]
theorem ZO{p:List Tm}(hs:eR p):∀t∈p,t=oF p∨aR t.2 (oF p).2<0:=by
 cases p with
 |nil=>intro t ht;cases ht
 | cons x p=>
  intro t ht;rcases KaO.1 ht with rfl|ht
  ·exact .inl rfl
  ·right;have:=hs.1 t ht;have e:=uO x.2 t.2;show aR t.2 x.2<0;omega
end Go.FW
