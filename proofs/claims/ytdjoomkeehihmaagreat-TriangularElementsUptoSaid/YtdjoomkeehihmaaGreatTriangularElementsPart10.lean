/- Part 10 of the proof of TriangularElements: W7, FwUF. Own lemmas; no conditions. -/
import Derived.Test.YtdjoomkeehihmaaGreatTriangularElementsPart9
set_option maxHeartbeats 1000000
set_option linter.unusedSimpArgs false
set_option linter.unusedVariables false
set_option linter.unnecessarySimpa false
set_option maxRecDepth 100000
namespace Go.Proofs.YtdjoomkeehihmaaGreat
open Go Go.FW
theorem QY{c:Rat}{L:Nat}(hL:0<L):PV.agg [.bool (decide (gf c<0)),PV.num L]=PV.zz (if c<0 then -(L:Int)else(L:Int)):=by
 by_cases h:c<0
 ·rw[if_pos h,PV.zz,decide_eq_true (DB.2 h),decide_eq_true (by omega),KcC,KaD]
 ·rw[if_neg h,PV.zz,decide_eq_false (fun x=>h (DB.1 x)),decide_eq_false (by omega),KaD]
theorem QZ(L:Nat):PV.agg [.bool false,PV.num L]=PV.zz (L:Int):=by rw[PV.zz,decide_eq_false (by omega),KaD]
theorem agv{x y:Nat}(hx:nl x<2^40)(hy:nl y<2^40):Qc Tryz.prog 93 [PV.num x,PV.num y] (· =PV.num (x*y)):=by
 have:=z8 (Qp x) (Qp y) hx hy
 rwa[Q7,Q7]at this
theorem Qva:Qc Tryz.prog 120 [PV.aj []] (· = .aw [PV.aj [],PV.rat ((1:Int):Rat)]):=by refine Qf Qj Tryz.func120 rfl O9 (by simp[y5]) fun C hP=>?_;simp only[y5,Zo,Zg,Zm,Zc,Zf,Zl,Zh,Zs,Zi,Zb,Zk,Zn,Zu,Zq,Zr,Zz];refine Sz0 ?_;refine Qa hP (vb (by omega) (by omega)) rfl rfl rfl ?_;generalize((1:Int):Rat)=c;refine Sz0 ?_;refine jC ?_;refine Sz0 ?_;exact fl rfl rfl rfl (pF) (Qx _)
theorem RA{p:List Tm}{K E:Nat}(hp:PB K E p)(np:au p)(h0:p≠[])(hl:p.length<=2^20)(hK:p.length*K+(K+K)<=2^32)(hE:E<=2^38):
  Qc Tryz.prog 120 [PV.aj p] (· = .aw [PV.aj (b8 p (dO p)),PV.rat (dO p)]):=by
 have yl:0<p.length:=Kbf.2 h0;have dq:=PL hp np.z h0;have fX:=vt np.z h0;have iq:=(tK p p.length (Kac _)).l0;have lu:=vn hp p.length (Kac _);have rm:=xD hp p.length (Kac _);have hpk:K<=p.length*K:=Nat.le_mul_of_pos_left _ yl;have hK1:1<=K:=by have:=(hp.get yl).c;omega
 have uu:=ace (x:=if(p[0]).1<0 then -(ba p:Int)else(ba p:Int)) (y:=(dN p:Int)) (by split<;>simp only[KcC,KaD]<;>rw[Kar]at lu<;>omega) (by rw[KaD];rw[Kar]at rm;omega) (by omega);rw[<-QY (by rw[Kar]at iq;exact iq),<-QZ]at uu;have ra:(((if(p[0]).1<0 then -(ba p:Int)else(ba p:Int):Int):Rat)/((dN p:Int):Rat))=dO p:=by
  unfold dO;cases p with
  |nil=>cases h0 rfl
  |cons t p=>rfl
 rw[ra]at uu;have vY:=(hp.get yl).c;have bw:p[0]=p[0]:=rfl;refine Qf Qj Tryz.func120 rfl O9 (by simp[y5]) fun C hP=>?_;simp only[y5,Zo,Zg,Zm,Zc,Zf,Zl,Zh,Zs,Zi,Zb,Zk,Zn,Zu,Zq,Zr,Zz];refine Sz0 ?_;refine Qb (fun h=>absurd h (by omega)) (fun _=>?_);refine Sz0 ?_;refine Qa hP (Aj (n:=1) (by omega)) rfl rfl rfl ?_;refine Sz0 ?_;refine qK 4 1 Tz0 ?_;refine Qz (by repeat (first|exact Qs|exact Ql|exact Qm|exact Qn|exact Qo|apply Qk|apply Qr|apply Qw|apply Q5|apply Q6|apply Qi|apply Q2)) [(4,5),(7,11),(21,48)] [7] (fun n J hp=>∃i,n=p.length-i/\i<=p.length/\J 4=PV.num (dN (p.take i))/\J 5=PV.num (ba (p.take i))/\J 21= .int .i64 (i:Nat)/\hp 3=some ⟨3,43,[.agg [.bool false,.aa,.aa]],false⟩) p.length ?_ ?_
 ·refine⟨0,rfl,by omega,?_⟩;refine Sz0 ?_;refine⟨?_,rfl,rfl⟩;simp[dN,fH]
 rintro _ J h ⟨i,rfl,hi,h4,h5,ym,bA⟩;refine Sz3 h4 h5 ym ?_;refine Qb (fun hg=>?_) (fun hg=>?_)
 ·have aC:i<p.length:=by omega
  have bc:=(hp.get aC).c;have re:=xD hp i hi;have fN:=vn hp i hi;have rh:i*K<=p.length*K:=Kaf _ hi;have gq:=De aC;have fi:=tq aC;unfold rs at bc;generalize hx:p[i]=x at *
  have jI:=x.1.den_nz;have eB:Nat.gcd (ba (p.take i)) x.1.den≠0:=fun h=>jI (Kcr h);have hgn:=Eh (ba (p.take i)) x.1.den;have hqd:=vA x.1.den (Nat.gcd (ba (p.take i)) x.1.den);generalize dN (p.take i)=G at *
  generalize ba (p.take i)=L at *
  refine Sz4 h4 h5 ym hx ?_;refine Qa hP (IB (x:=G) (y:=x.1.num.natAbs) (by show nl _<_;omega) (by show nl _<_;omega)) rfl rfl rfl ?_;refine Sz4 h4 h5 ym hx ?_;refine Qa hP (IB (x:=L) (y:=x.1.den) (by show nl _<_;omega) (by show nl _<_;omega)) rfl rfl rfl ?_;refine Sz4 h4 h5 ym hx ?_;refine Qa hP (G0 (x:=x.1.den) (y:=Nat.gcd L x.1.den) (by show nl _<_;omega) (by show nl _<_;omega) eB) rfl rfl rfl ?_;refine Sz4 h4 h5 ym hx ?_;refine Qa hP (agv (x:=L) (y:=x.1.den/Nat.gcd L x.1.den) (by omega) (by omega)) rfl rfl rfl ?_;refine Sz5 h4 h5 ym hx bA ?_;refine Qh (p.length-(i+1)) (by omega) ⟨i+1,rfl,by omega,?_⟩;rw[gq,fi];exact Tz1 bA
 ·obtain rfl:i=p.length:=by omega
  rw[Kar]at h4 h5 lu rm;generalize hx:p[0]=x at *
  have nd:=iq;refine Sz3 h4 h5 hx ?_;refine Qa hP (As (a:=x.1) (by omega)) rfl rfl rfl ?_;refine Sz3 h4 h5 hx ?_;refine Qa hP uu rfl rfl rfl ?_;generalize dO p=a at *
  refine Sz3 h4 h5 hx ?_;refine Qa hP (Cs (K:=2+p.length*K+K) (hp.mono (by omega) (Kac _)) (by omega) (by omega) hE (by omega)) rfl rfl rfl ?_;refine Sz1 bA ?_;refine jC ?_;refine Sz0 ?_;exact fl rfl rfl rfl (Qx _) (Qx _)
theorem Qvb:Qc Tryz.prog 70 [PV.aj []] (· = .aw [PV.aj [],PV.rat ((1:Int):Rat)]):=by refine Qf Qj Tryz.func70 rfl QL (by simp[AG]) fun C hP=>?_;simp only[AG,Zo,Zg,Zm,Zc,Zf,Zl,Zh,Zs,Zi,Zb,Zk,Zn,Zu,Zq,Zr,Zz];refine Sz0 ?_;refine Qa hP (u5 (by omega) (by omega)) rfl rfl rfl ?_;generalize((1:Int):Rat)=c;refine Sz0 ?_;refine jC ?_;refine Sz0 ?_;exact fl rfl rfl rfl (pF) (Qx _)
theorem Qti{p:List Tm}{K E:Nat}(hp:PB K E p)(np:au p)(h0:p≠[])(hl:p.length<=2^20)(hK:p.length*K+(K+K)<=2^31)(hE:E<=2^38):
  Qc Tryz.prog 70 [PV.aj p] (· = .aw [PV.aj (b8 p (dO p)),PV.rat (dO p)]):=by
 have yl:0<p.length:=Kbf.2 h0;have dq:=PL hp np.z h0;have fX:=vt np.z h0;have iq:=(tK p p.length (Kac _)).l0;have lu:=vn hp p.length (Kac _);have rm:=xD hp p.length (Kac _);have hpk:K<=p.length*K:=Nat.le_mul_of_pos_left _ yl;have hK1:1<=K:=by have:=(hp.get yl).c;omega
 rw[Kar]at iq lu rm;have uu:=ZW (x:=if(p[0]).1<0 then -(ba p:Int)else(ba p:Int)) (y:=(dN p:Int)) (by split<;>simp only[KcC,KaD]<;>omega) (by rw[KaD];omega) (by omega);rw[<-QY iq,<-QZ]at uu;have uA:decide (gf (p[0]).1<0)=decide ((p[0]).1.num<0):=by exact decide_eq_decide.2 xz
 rw[uA]at uu;have ra:(((if(p[0]).1<0 then -(ba p:Int)else(ba p:Int):Int):Rat)/((dN p:Int):Rat))=dO p:=by
  unfold dO;cases p with
  |nil=>cases h0 rfl
  |cons t p=>rfl
 have aO:dO p≠0:=by
  rw[<-ra];have k1:((dN p:Int):Rat)≠0:=by rw[Ne,Ka6];omega
  have k2:(((if(p[0]).1<0 then -(ba p:Int)else(ba p:Int):Int)):Rat)≠0:=by rw[Ne,Ka6];split<;>omega
  intro h;rw[KcA,Rat.mul_eq_zero]at h;rcases h with h|h
  ·exact k2 h
  ·grind
 rw[ra]at uu;have cw:=NJ (p:=p);refine Qf Qj Tryz.func70 rfl QL (by simp[AG]) fun C hP=>?_;simp only[AG,Zo,Zg,Zm,Zc,Zf,Zl,Zh,Zs,Zi,Zb,Zk,Zn,Zu,Zq,Zr,Zz];refine Sz0 ?_;refine Qb (fun h=>absurd h (by omega)) (fun _=>?_);refine Sz0 ?_;refine Qa hP (mB (n:=1) (by omega)) rfl rfl rfl ?_;refine Sz0 ?_;refine Qa hP (mB (n:=0) (by omega)) rfl rfl rfl ?_;refine Sz0 ?_;refine Qz (by repeat (first|exact Qs|exact Ql|exact Qm|exact Qn|exact Qo|apply Qk|apply Qr|apply Qw|apply Q5|apply Q6|apply Qi|apply Q2)) [(4,4),(6,10),(21,49)] [] (fun n J hp=>∃i,n=p.length-i/\i<=p.length/\J 4=PV.num (ba (p.take i))/\J 6= .int .i64 (i:Nat)/\hp 3=some ⟨3,43,[.agg [.bool false,.aa,.aa]],false⟩) p.length ?_ ?_
 ·refine⟨0,rfl,by omega,?_⟩;refine Sz0 ?_;exact⟨rfl,rfl⟩
 rintro _ J h ⟨i,rfl,hi,h4,h6,bA⟩;refine Sz2 h4 h6 ?_;refine Qb (fun hg=>?_) (fun hg=>?_)
 ·have aC:i<p.length:=by omega
  have bc:=(hp.get aC).c;have fN:=vn hp i hi;have rh:i*K<=p.length*K:=Kaf _ hi;have fi:=tq aC;unfold rs at bc;generalize hx:p[i]=x at *
  have jI:=x.1.den_nz;have eB:Nat.gcd (ba (p.take i)) x.1.den≠0:=fun h=>jI (Kcr h);have hgn:=Eh (ba (p.take i)) x.1.den;have hqd:=vA x.1.den (Nat.gcd (ba (p.take i)) x.1.den);generalize ba (p.take i)=L at *
  refine Sz3 h4 h6 hx ?_;refine Qa hP (S' (x:=L) (y:=x.1.den) (by omega) (by omega)) rfl rfl rfl ?_;refine Sz3 h4 h6 hx ?_;refine Qa hP (RS (x:=x.1.den) (y:=Nat.gcd L x.1.den) (by omega) (by omega) eB) rfl rfl rfl ?_;refine Sz3 h4 h6 hx ?_;refine Qa hP (zr (x:=L) (y:=x.1.den/Nat.gcd L x.1.den) (by omega) (by omega)) rfl rfl rfl ?_;refine Sz3 h4 h6 hx ?_;refine Qh (p.length-(i+1)) (by omega) ⟨i+1,rfl,by omega,?_⟩;rw[fi];exact Tz1 bA
 obtain rfl:i=p.length:=by omega
 rw[Kar]at h4;refine Sz1 h4 ?_;refine Qz (by repeat (first|exact Qs|exact Ql|exact Qm|exact Qn|exact Qo|apply Qk|apply Qr|apply Qw|apply Q5|apply Q6|apply Qi|apply Q2)) [(5,5),(11,12),(50,70)] [12] (fun n J hp=>∃i,n=p.length-i/\i<=p.length/\J 5=PV.num (pL (ba p) (p.take i))/\J 11= .int .i64 (i:Nat)/\hp 3=some ⟨3,43,[.agg [.bool false,.aa,.aa]],false⟩) p.length ?_ ?_
 ·refine⟨0,rfl,by omega,?_⟩;refine Sz1 bA ?_;exact⟨rfl,rfl⟩
 rintro _ J2 h2 ⟨i,rfl,hi,h5,ct,My⟩;refine Sz3 h4 h5 ct ?_;refine Qb (fun hg=>?_) (fun hg=>?_)
 ·have aC:i<p.length:=by omega
  have bc:=(hp.get aC).c;have gq:=GU (L:=ba p) aC;have oV:=HG p aC;have oY:=OS hp i hi;generalize hx:p[i]=x at *
  have VZ:=SB oV;have hrm:=gL x.1.num.natAbs (ba p/x.1.den);have hrd:=vA (ba p) x.1.den;have aoL:=bc;unfold rs at aoL;have hM:=Se (n:=decide (x.1.num<0)) (a:=ah x.1.num.natAbs) (d:=ah x.1.den) (m:=false) (b:=ah (ba p)) (c:=ah 1) (k:=1+p.length*K) (iB (q:=x.1) (by omega)) ⟨Qp _,Qp _,lu,by show nl 1<=_;rw[jP];omega,by omega⟩ (by omega);have e1:mkRat (ba p:Int) 1=(((ba p:Nat):Int):Rat):=by rw[Kb2,show((1:Nat):Rat)=1 from rfl];grind
  rw[gN,rv,tB,Q7,Q7,e1]at hM;generalize x.1*(((ba p:Nat):Int):Rat)=y at *
  refine Sz4 h4 h5 ct hx ?_;have sG:=mB (n:=1) (by omega);have Mx:=S' (x:=pL (ba p) (p.take i)) (y:=x.1.num.natAbs*(ba p/x.1.den)) (by omega) (by omega);rw[<-gq]at Mx;refine nI ?_ ?_
  ·refine Sz4 h4 h5 ct hx ?_;refine Qa hP sG rfl rfl rfl ?_;refine Sz4 h4 h5 ct hx ?_;refine nI ?_ ?_
   all_goals
    refine Sz4 h4 h5 ct hx ?_;refine Qa hP hM rfl rfl rfl ?_;refine Sz4 h4 h5 ct hx ?_;rw[VZ];refine Qa hP Mx rfl rfl rfl ?_;refine Sz4 h4 h5 ct hx ?_;refine Qh (p.length-(i+1)) (by omega) ⟨i+1,rfl,by omega,?_⟩;exact Tz1 My
  ·refine Sz4 h4 h5 ct hx ?_;refine Qa hP sG rfl rfl rfl ?_;refine Sz4 h4 h5 ct hx ?_;refine Qa hP hM rfl rfl rfl ?_;refine Sz4 h4 h5 ct hx ?_;rw[VZ];refine Qa hP Mx rfl rfl rfl ?_;refine Sz4 h4 h5 ct hx ?_;refine Qh (p.length-(i+1)) (by omega) ⟨i+1,rfl,by omega,?_⟩;exact Tz1 My
 ·obtain rfl:i=p.length:=by omega
  rw[Kar,cw]at h5;generalize hx:p[0]=x at *
  refine Sz3 h4 h5 hx ?_;refine Qa hP uu rfl rfl rfl ?_;generalize dO p=a at *
  refine Sz3 h4 h5 hx ?_;refine Qa hP (G8 (x:=a.num) (by unfold rs at dq;omega)) rfl rfl rfl ?_;refine Sz3 h4 h5 hx ?_;refine Qb (fun h=>absurd (Rat.num_eq_zero.1 (DA.1 h)) aO) (fun _=>?_);refine Sz3 h4 h5 hx ?_;refine Qa hP (Gq (K:=2+p.length*K+K) (hp.mono (by omega) (Kac _)) np.z (by omega) (by omega) hE (by omega)) rfl rfl rfl ?_;refine Sz1 My ?_;refine jC ?_;refine Sz0 ?_;exact fl rfl rfl rfl (Qx _) (Qx _)
end Go.Proofs.YtdjoomkeehihmaaGreat
namespace Go.FW
open Go
def oU(p:List Tm):Tm:=p.headD (0,[])
theorem agw{p:List Tm}(h:0<p.length):p[0]=oU p:=by cases p with
 |nil=>simp at h
 |cons t p=>rfl
theorem IH{p:List Tm}(h:p≠[]):oU p∈p:=by cases p with
 |nil=>exact absurd rfl h
 |cons t p=>simp[oU]
theorem ZX{p:List Tm}(hs:e9 p):∀t∈p,t=oU p∨aR t.2 (oU p).2<0:=by
 cases p with
 |nil=>intro t ht;cases ht
 | cons x p=>
  intro t ht;rcases KaQ.1 ht with rfl|ht
  ·exact .inl rfl
  ·right;have:=hs.1 t ht;have e:=vh x.2 t.2;show aR t.2 x.2<0;omega
end Go.FW
