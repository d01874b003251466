/- Part 10 of the proof of TriangularZeros: W7, FwUF. Own lemmas; no conditions. -/
import Derived.Test.YtdjoomkeehihmaaGreatTriangularZerosPart9
set_option maxHeartbeats 1000000
set_option linter.unusedSimpArgs false
set_option linter.unusedVariables false
set_option linter.unnecessarySimpa false
set_option maxRecDepth 100000
namespace Go.Proofs.YtdjoomkeehihmaaGreat
open Go Go.FW
theorem RG{c:Rat}{L:Nat}(hL:0<L):PV.agg [.bool (decide (fk c<0)),PV.num L]=PV.zz (if c<0 then -(L:Int)else(L:Int)):=by
 by_cases h:c<0
 ·rw[if_pos h,PV.zz,decide_eq_true (DO.2 h),decide_eq_true (by omega),KcD,KaD]
 ·rw[if_neg h,PV.zz,decide_eq_false (fun x=>h (DO.1 x)),decide_eq_false (by omega),KaD]
theorem RH(L:Nat):PV.agg [.bool false,PV.num L]=PV.zz (L:Int):=by rw[PV.zz,decide_eq_false (by omega),KaD]
theorem ahP{x y:Nat}(hx:nl x<2^40)(hy:nl y<2^40):Qc Tryz.prog 93 [PV.num x,PV.num y] (· =PV.num (x*y)):=by
 have:=Am (Qp x) (Qp y) hx hy
 rwa[Q7,Q7]at this
theorem Qvj:Qc Tryz.prog 120 [PV.aj []] (· = .au [PV.aj [],PV.rat ((1:Int):Rat)]):=by refine Qf Qo Tryz.func120 rfl QV (by simp[zr]) fun C hP=>?_;simp only[zr,Zo,Zg,Zm,Zc,Zf,Zl,Zh,Zs,Zi,Zb,Zk,Zn,Zu,Zq,Zr,Zz];refine Sz0 ?_;refine Qa hP (rN (by omega) (by omega)) rfl rfl rfl ?_;generalize((1:Int):Rat)=c;refine Sz0 ?_;refine iS ?_;refine Sz0 ?_;exact eV rfl rfl rfl (pH) (Qy _)
theorem Sm{p:List Tm}{K E:Nat}(hp:PB K E p)(np:az p)(h0:p≠[])(hl:p.length<=2^20)(hK:p.length*K+(K+K)<=2^32)(hE:E<=2^38):
  Qc Tryz.prog 120 [PV.aj p] (· = .au [PV.aj (b8 p (dP p)),PV.rat (dP p)]):=by
 have yB:0<p.length:=Kbf.2 h0;have dt:=Rf hp np.z h0;have gm:=vz np.z h0;have ix:=(tP p p.length (Kac _)).l0;have lD:=vv hp p.length (Kac _);have rj:=xN hp p.length (Kac _);have hpk:K<=p.length*K:=Nat.le_mul_of_pos_left _ yB;have hK1:1<=K:=by have:=(hp.get yB).c;omega
 have uA:=acv (x:=if(p[0]).1<0 then -(bb p:Int)else(bb p:Int)) (y:=(dS p:Int)) (by split<;>simp only[KcD,KaD]<;>rw[Kar]at lD<;>omega) (by rw[KaD];rw[Kar]at rj;omega) (by omega);rw[<-RG (by rw[Kar]at ix;exact ix),<-RH]at uA;have ra:(((if(p[0]).1<0 then -(bb p:Int)else(bb p:Int):Int):Rat)/((dS p:Int):Rat))=dP p:=by
  unfold dP;cases p with
  |nil=>cases h0 rfl
  |cons t p=>rfl
 rw[ra]at uA;have v9:=(hp.get yB).c;have bw:p[0]=p[0]:=rfl;refine Qf Qo Tryz.func120 rfl QV (by simp[zr]) fun C hP=>?_;simp only[zr,Zo,Zg,Zm,Zc,Zf,Zl,Zh,Zs,Zi,Zb,Zk,Zn,Zu,Zq,Zr,Zz];refine Sz0 ?_;refine Qb (fun h=>absurd h (by omega)) (fun _=>?_);refine Sz0 ?_;refine Qa hP (Ax (n:=1) (by omega)) rfl rfl rfl ?_;refine Sz0 ?_;refine rZ 4 1 Tz0 ?_;refine Qw (by repeat (first|exact Qr|exact Qk|exact Ql|exact Qm|exact Qn|apply Qj|apply Qq|apply Qx|apply Q5|apply Q6|apply Qi|apply Q2)) [(4,5),(7,11),(21,48)] [7] (fun n J hp=>∃i,n=p.length-i/\i<=p.length/\J 4=PV.num (dS (p.take i))/\J 5=PV.num (bb (p.take i))/\J 21= .int .i64 (i:Nat)/\hp 3=some ⟨3,43,[.agg [.bool false,.aa,.aa]],false⟩) p.length ?_ ?_
 ·refine⟨0,rfl,by omega,?_⟩;refine Sz0 ?_;refine⟨?_,rfl,rfl⟩;simp[dS,fQ]
 rintro _ J h ⟨i,rfl,hi,h4,h5,yC,bB⟩;refine Sz3 h4 h5 yC ?_;refine Qb (fun hg=>?_) (fun hg=>?_)
 ·have aB:i<p.length:=by omega
  have aV:=(hp.get aB).c;have o0:=xN hp i hi;have fF:=vv hp i hi;have rf:i*K<=p.length*K:=Kaf _ hi;have gC:=Dx aB;have fw:=tz aB;unfold rs at aV;generalize hx:p[i]=x at *
  have jL:=x.1.den_nz;have eH:Nat.gcd (bb (p.take i)) x.1.den≠0:=fun h=>jL (Kcr h);have hgn:=EE (bb (p.take i)) x.1.den;have hqd:=vE x.1.den (Nat.gcd (bb (p.take i)) x.1.den);generalize dS (p.take i)=G at *
  generalize bb (p.take i)=L at *
  refine Sz4 h4 h5 yC hx ?_;refine Qa hP (IX (x:=G) (y:=x.1.num.natAbs) (by show nl _<_;omega) (by show nl _<_;omega)) rfl rfl rfl ?_;refine Sz4 h4 h5 yC hx ?_;refine Qa hP (IX (x:=L) (y:=x.1.den) (by show nl _<_;omega) (by show nl _<_;omega)) rfl rfl rfl ?_;refine Sz4 h4 h5 yC hx ?_;refine Qa hP (Hp (x:=x.1.den) (y:=Nat.gcd L x.1.den) (by show nl _<_;omega) (by show nl _<_;omega) eH) rfl rfl rfl ?_;refine Sz4 h4 h5 yC hx ?_;refine Qa hP (ahP (x:=L) (y:=x.1.den/Nat.gcd L x.1.den) (by omega) (by omega)) rfl rfl rfl ?_;refine Sz5 h4 h5 yC hx bB ?_;refine Qg (p.length-(i+1)) (by omega) ⟨i+1,rfl,by omega,?_⟩;rw[gC,fw];exact Tz1 bB
 ·obtain rfl:i=p.length:=by omega
  rw[Kar]at h4 h5 lD rj;generalize hx:p[0]=x at *
  have nA:=ix;refine Sz3 h4 h5 hx ?_;refine Qa hP (vF (a:=x.1) (by omega)) rfl rfl rfl ?_;refine Sz3 h4 h5 hx ?_;refine Qa hP uA rfl rfl rfl ?_;generalize dP p=a at *
  refine Sz3 h4 h5 hx ?_;refine Qa hP (CK (K:=2+p.length*K+K) (hp.mono (by omega) (Kac _)) (by omega) (by omega) hE (by omega)) rfl rfl rfl ?_;refine Sz1 bB ?_;refine iS ?_;refine Sz0 ?_;exact eV rfl rfl rfl (Qy _) (Qy _)
theorem Qvk:Qc Tryz.prog 70 [PV.aj []] (· = .au [PV.aj [],PV.rat ((1:Int):Rat)]):=by refine Qf Qo Tryz.func70 rfl RP (by simp[AU]) fun C hP=>?_;simp only[AU,Zo,Zg,Zm,Zc,Zf,Zl,Zh,Zs,Zi,Zb,Zk,Zn,Zu,Zq,Zr,Zz];refine Sz0 ?_;refine Qa hP (vb (by omega) (by omega)) rfl rfl rfl ?_;generalize((1:Int):Rat)=c;refine Sz0 ?_;refine iS ?_;refine Sz0 ?_;exact eV rfl rfl rfl (pH) (Qy _)
theorem Qto{p:List Tm}{K E:Nat}(hp:PB K E p)(np:az p)(h0:p≠[])(hl:p.length<=2^20)(hK:p.length*K+(K+K)<=2^31)(hE:E<=2^38):
  Qc Tryz.prog 70 [PV.aj p] (· = .au [PV.aj (b8 p (dP p)),PV.rat (dP p)]):=by
 have yB:0<p.length:=Kbf.2 h0;have dt:=Rf hp np.z h0;have gm:=vz np.z h0;have ix:=(tP p p.length (Kac _)).l0;have lD:=vv hp p.length (Kac _);have rj:=xN hp p.length (Kac _);have hpk:K<=p.length*K:=Nat.le_mul_of_pos_left _ yB;have hK1:1<=K:=by have:=(hp.get yB).c;omega
 rw[Kar]at ix lD rj;have uA:=Q9g (x:=if(p[0]).1<0 then -(bb p:Int)else(bb p:Int)) (y:=(dS p:Int)) (by split<;>simp only[KcD,KaD]<;>omega) (by rw[KaD];omega) (by omega);rw[<-RG ix,<-RH]at uA;have uF:decide (fk (p[0]).1<0)=decide ((p[0]).1.num<0):=by exact decide_eq_decide.2 xJ
 rw[uF]at uA;have ra:(((if(p[0]).1<0 then -(bb p:Int)else(bb p:Int):Int):Rat)/((dS p:Int):Rat))=dP p:=by
  unfold dP;cases p with
  |nil=>cases h0 rfl
  |cons t p=>rfl
 have aO:dP p≠0:=by
  rw[<-ra];have k1:((dS p:Int):Rat)≠0:=by rw[Ne,Ka6];omega
  have k2:(((if(p[0]).1<0 then -(bb p:Int)else(bb p:Int):Int)):Rat)≠0:=by rw[Ne,Ka6];split<;>omega
  intro h;rw[KcB,Rat.mul_eq_zero]at h;rcases h with h|h
  ·exact k2 h
  ·grind
 rw[ra]at uA;have bz:=Ox (p:=p);refine Qf Qo Tryz.func70 rfl RP (by simp[AU]) fun C hP=>?_;simp only[AU,Zo,Zg,Zm,Zc,Zf,Zl,Zh,Zs,Zi,Zb,Zk,Zn,Zu,Zq,Zr,Zz];refine Sz0 ?_;refine Qb (fun h=>absurd h (by omega)) (fun _=>?_);refine Sz0 ?_;refine Qa hP (mI (n:=1) (by omega)) rfl rfl rfl ?_;refine Sz0 ?_;refine Qa hP (mI (n:=0) (by omega)) rfl rfl rfl ?_;refine Sz0 ?_;refine Qw (by repeat (first|exact Qr|exact Qk|exact Ql|exact Qm|exact Qn|apply Qj|apply Qq|apply Qx|apply Q5|apply Q6|apply Qi|apply Q2)) [(4,4),(6,10),(21,49)] [] (fun n J hp=>∃i,n=p.length-i/\i<=p.length/\J 4=PV.num (bb (p.take i))/\J 6= .int .i64 (i:Nat)/\hp 3=some ⟨3,43,[.agg [.bool false,.aa,.aa]],false⟩) p.length ?_ ?_
 ·refine⟨0,rfl,by omega,?_⟩;refine Sz0 ?_;exact⟨rfl,rfl⟩
 rintro _ J h ⟨i,rfl,hi,h4,h6,bB⟩;refine Sz2 h4 h6 ?_;refine Qb (fun hg=>?_) (fun hg=>?_)
 ·have aB:i<p.length:=by omega
  have aV:=(hp.get aB).c;have fF:=vv hp i hi;have rf:i*K<=p.length*K:=Kaf _ hi;have fw:=tz aB;unfold rs at aV;generalize hx:p[i]=x at *
  have jL:=x.1.den_nz;have eH:Nat.gcd (bb (p.take i)) x.1.den≠0:=fun h=>jL (Kcr h);have hgn:=EE (bb (p.take i)) x.1.den;have hqd:=vE x.1.den (Nat.gcd (bb (p.take i)) x.1.den);generalize bb (p.take i)=L at *
  refine Sz3 h4 h6 hx ?_;refine Qa hP (Uw (x:=L) (y:=x.1.den) (by omega) (by omega)) rfl rfl rfl ?_;refine Sz3 h4 h6 hx ?_;refine Qa hP (SH (x:=x.1.den) (y:=Nat.gcd L x.1.den) (by omega) (by omega) eH) rfl rfl rfl ?_;refine Sz3 h4 h6 hx ?_;refine Qa hP (zF (x:=L) (y:=x.1.den/Nat.gcd L x.1.den) (by omega) (by omega)) rfl rfl rfl ?_;refine Sz3 h4 h6 hx ?_;refine Qg (p.length-(i+1)) (by omega) ⟨i+1,rfl,by omega,?_⟩;rw[fw];exact Tz1 bB
 obtain rfl:i=p.length:=by omega
 rw[Kar]at h4;refine Sz1 h4 ?_;refine Qw (by repeat (first|exact Qr|exact Qk|exact Ql|exact Qm|exact Qn|apply Qj|apply Qq|apply Qx|apply Q5|apply Q6|apply Qi|apply Q2)) [(5,5),(11,12),(50,70)] [12] (fun n J hp=>∃i,n=p.length-i/\i<=p.length/\J 5=PV.num (pO (bb p) (p.take i))/\J 11= .int .i64 (i:Nat)/\hp 3=some ⟨3,43,[.agg [.bool false,.aa,.aa]],false⟩) p.length ?_ ?_
 ·refine⟨0,rfl,by omega,?_⟩;refine Sz1 bB ?_;exact⟨rfl,rfl⟩
 rintro _ J2 h2 ⟨i,rfl,hi,h5,cu,MY⟩;refine Sz3 h4 h5 cu ?_;refine Qb (fun hg=>?_) (fun hg=>?_)
 ·have aB:i<p.length:=by omega
  have aV:=(hp.get aB).c;have gC:=Hj (L:=bb p) aB;have oX:=Ip p aB;have pY:=Pj hp i hi;generalize hx:p[i]=x at *
  have WR:=TC oX;have hrm:=gV x.1.num.natAbs (bb p/x.1.den);have hrd:=vE (bb p) x.1.den;have apA:=aV;unfold rs at apA;have hM:=Tu (n:=decide (x.1.num<0)) (a:=ah x.1.num.natAbs) (d:=ah x.1.den) (m:=false) (b:=ah (bb p)) (c:=ah 1) (k:=1+p.length*K) (iG (q:=x.1) (by omega)) ⟨Qp _,Qp _,lD,by show nl 1<=_;rw[jV];omega,by omega⟩ (by omega);have e1:mkRat (bb p:Int) 1=(((bb p:Nat):Int):Rat):=by rw[Kb2,show((1:Nat):Rat)=1 from rfl];grind
  rw[gY,rv,tA,Q7,Q7,e1]at hM;generalize x.1*(((bb p:Nat):Int):Rat)=y at *
  refine Sz4 h4 h5 cu hx ?_;have sN:=mI (n:=1) (by omega);have MX:=Uw (x:=pO (bb p) (p.take i)) (y:=x.1.num.natAbs*(bb p/x.1.den)) (by omega) (by omega);rw[<-gC]at MX;refine nP ?_ ?_
  ·refine Sz4 h4 h5 cu hx ?_;refine Qa hP sN rfl rfl rfl ?_;refine Sz4 h4 h5 cu hx ?_;refine nP ?_ ?_
   all_goals
    refine Sz4 h4 h5 cu hx ?_;refine Qa hP hM rfl rfl rfl ?_;refine Sz4 h4 h5 cu hx ?_;rw[WR];refine Qa hP MX rfl rfl rfl ?_;refine Sz4 h4 h5 cu hx ?_;refine Qg (p.length-(i+1)) (by omega) ⟨i+1,rfl,by omega,?_⟩;exact Tz1 MY
  ·refine Sz4 h4 h5 cu hx ?_;refine Qa hP sN rfl rfl rfl ?_;refine Sz4 h4 h5 cu hx ?_;refine Qa hP hM rfl rfl rfl ?_;refine Sz4 h4 h5 cu hx ?_;rw[WR];refine Qa hP MX rfl rfl rfl ?_;refine Sz4 h4 h5 cu hx ?_;refine Qg (p.length-(i+1)) (by omega) ⟨i+1,rfl,by omega,?_⟩;exact Tz1 MY
 ·obtain rfl:i=p.length:=by omega
  rw[Kar,bz]at h5;generalize hx:p[0]=x at *
  refine Sz3 h4 h5 hx ?_;refine Qa hP uA rfl rfl rfl ?_;generalize dP p=a at *
  refine Sz3 h4 h5 hx ?_;refine Qa hP (Hh (x:=a.num) (by unfold rs at dt;omega)) rfl rfl rfl ?_;refine Sz3 h4 h5 hx ?_;refine Qb (fun h=>absurd (Rat.num_eq_zero.1 (DN.1 h)) aO) (fun _=>?_);refine Sz3 h4 h5 hx ?_;refine Qa hP (GO (K:=2+p.length*K+K) (hp.mono (by omega) (Kac _)) np.z (by omega) (by omega) hE (by omega)) rfl rfl rfl ?_;refine Sz1 MY ?_;refine iS ?_;refine Sz0 ?_;exact eV rfl rfl rfl (Qy _) (Qy _)
end Go.Proofs.YtdjoomkeehihmaaGreat
namespace Go.FW
open Go
def oW(p:List Tm):Tm:=p.headD (0,[])
theorem ahQ{p:List Tm}(h:0<p.length):p[0]=oW p:=by cases p with
 |nil=>simp at h
 |cons t p=>rfl
theorem IC{p:List Tm}(h:p≠[]):oW p∈p:=by cases p with
 |nil=>exact absurd rfl h
 |cons t p=>simp[oW]
theorem Q9h{p:List Tm}(hs:fi p):∀t∈p,t=oW p∨aS t.2 (oW p).2<0:=by
 cases p with
 |nil=>intro t ht;cases ht
 | cons x p=>
  intro t ht;rcases KaP.1 ht with rfl|ht
  ·exact .inl rfl
  ·right;have:=hs.1 t ht;have e:=vm x.2 t.2;show aS t.2 x.2<0;omega
end Go.FW
