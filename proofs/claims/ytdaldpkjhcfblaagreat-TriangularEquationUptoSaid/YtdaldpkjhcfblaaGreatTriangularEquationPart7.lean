/- Part 7 of the proof of TriangularEquation: W2, W3, CS, S1, S2, S3, S4, S5, S6, S7, S8, S9, T1, T1b, T1c, T1d, U1, U2, P4, U3, FwNG, FwNS, FwNT, FwNH, FwNI, FwNJ, FwVA, FwVB, FwVC, FwYA. Own lemmas; no conditions. -/
import Derived.Test.YtdaldpkjhcfblaaGreatTriangularEquationPart6
set_option maxHeartbeats 1000000
set_option linter.unusedSimpArgs false
set_option linter.unusedVariables false
set_option linter.unnecessarySimpa false
set_option maxRecDepth 100000
namespace Go.Proofs.YtdaldpkjhcfblaaGreat
open Go Go.FW
theorem Qtt(v:Nat)(n:Int)(h:n=((n.toNat:Nat):Int)):(List.replicate (v+1) (0:Int)).set v n=Qbl v n.toNat:=by
 unfold Qbl;rw[<-h];induction v with
 |zero=>rfl
 |succ v ih=>rw[List.replicate_succ,List.set_cons_succ,ih];rfl
theorem Qxa{p:List Tm}{v n K E:Nat}(hp:PB K E p)(hv:v<64)(hn:n<=E)(hK2:2<=K)(hE:E<=2^37)(hlp:p.length<=2^30)(hK:K<=2^32):
  Qd Tryz.prog 73 [PV.poly p,.int .i64 v,.int .i64 n] (· =PV.poly (Qcn p v n)):=by
 have hlr:v<(List.replicate (v+1) (0:Int)).length:=by simp
 have hone:=Qnc;have hpm:Qcn p v n=if n=0 then p else Qx p [(1,Qbl v n)]:=rfl
 refine Qf Qj Tryz.func73 rfl Qaom (by simp[c73]) fun C hP=>?_;simp only[c73];refine Sz0 ?_;refine Qab (fun h1=>by omega) (fun _=>?_);refine Sz0 ?_;refine Qab (fun h1=>by omega) (fun _=>?_);refine Sz0 ?_;refine Qb (fun h0=>?_) (fun h0=>?_)
 ·obtain rfl:n=0:=by omega
  refine Sz0 ?_;exact Qc rfl rfl
 refine Sz0 ?_;rw[Qtt v n (by omega),Int.toNat_natCast];have hxl:(Qbl v n).length=v+1:=by simp[Qbl]
 refine Qa hP (Qij (by omega) (by omega)) rfl rfl rfl ?_;generalize hc:((1:Int):Rat)=c;have hc1:c=1:=hc.symm;refine Sz0 ?_;rw[Qagt (p:=PV.rat c) (e:=1) (ty:=3) (fz:=false) (xs:=Qee (Qbl v n)) rfl Tz0 (by simp[hxl,Qee])];have hb1:PB K E [(c,Qbl v n)]:=fun t ht=>by
  obtain rfl:t=(c,Qbl v n):=by simpa using ht
  exact⟨by show rs c+1<=K;rw[hc1];omega,(Qw8 hv).mono hn,Qm3 (by omega)⟩
 have hm1:min p.length [(c,Qbl v n)].length*(K+K)<=1*(K+K):=Nat.mul_le_mul_right _ (by simp;omega);have hm2:p.length*[(c,Qbl v n)].length<=p.length:=by simp
 rw[if_neg (by omega),<-hc1]at hpm;refine Sz0 ?_;refine Qcb hP (Qd2 hp hb1 hE hlp (by simp) (by omega) (by omega) (by omega)) Qw0 rfl ?_;refine Sz0 ?_;exact Qc (by rw[hpm]) rfl
theorem Qjr{f g:List Tm}{v d N K E M:Nat}(nf:Nrm f)(ng:Nrm g)(bg:PB K E g)(hv:v<64)(hg0:g≠[])(hd:Q8 g v=d)(hN:Q8 f v<N)(hfl:Qaf f=false)
  (hb:∀k,k<N->PB K E (dvS g v d f k).1/\PB K E (dvS g v d f k).2) (hgM:g.length<=M) (hM:M<=2^16) (hK:M*(K+K+2)+(M*(K+K+2)+(K+2))<=2^31) (hK2:2<=K) (hM1:1<=M) (hE:E<=2^24) (hN1:0<N) (hN2:N<=2^30):
  Qd Tryz.prog 35 [PV.poly f,PV.poly g,.int .i64 v] (· =Qe8 g v d N [] f 0):=by
 have hlen:∀ {p:List Tm},Qaf p=false->p.length<=4000:=fun {p} h=>by unfold Qaf at h;simp only[Bool.or_eq_false_iff,decide_eq_false_iff_not]at h;omega
 have hKM:K+K+2<=M*(K+K+2):=by have:=Nat.mul_le_mul_right (K+K+2) hM1;omega
 have hKM2:M*(K+K)<=M*(K+K+2):=Nat.mul_le_mul_left _ (by omega);have hbf:PB K E f:=(hb 0 hN1).2;have hfm:∀t∈f,MB E t.2:=fun t ht=>(hbf t ht).m;have hfl':=hlen hfl;have hcl:(Qae g v d).length<=M:=Nat.le_trans (Qc8 _ _ _) hgM;have hcb:=Qfs bg v (d:Int);refine Qf Qj Tryz.func35 rfl Qaoo (by simp[c35]) fun C hP=>?_;simp only[c35];simp+decide (disch:=first|omega|rfl|(simp+decide only[go_sem,↓reduceIte]<;>rfl)|fail) only[go_sem,↓reduceIte,Qal,Qaz];refine Qab (fun h1=>by omega) (fun _=>?_);simp+decide (disch:=first|omega|rfl|(simp+decide only[go_sem,↓reduceIte]<;>rfl)|fail) only[go_sem,↓reduceIte,Qal,Qaz];refine Qb (fun h1=>by omega) (fun _=>?_);simp+decide (disch:=first|omega|rfl|(simp+decide only[go_sem,↓reduceIte]<;>rfl)|fail) only[go_sem,↓reduceIte,Qal,Qaz];refine Qb (fun h1=>absurd (List.length_eq_zero_iff.1 (by omega)) hg0) (fun _=>?_);simp+decide (disch:=first|omega|rfl|(simp+decide only[go_sem,↓reduceIte]<;>rfl)|fail) only[go_sem,↓reduceIte,Qal,Qaz];refine Qa hP (Qk0 hfm (by omega)) rfl rfl rfl ?_;rw[hfl];simp+decide (disch:=first|omega|rfl|(simp+decide only[go_sem,↓reduceIte]<;>rfl)|fail) only[go_sem,↓reduceIte,Qal,Qaz];refine Qa hP (Qce bg (by omega)) rfl rfl rfl ?_;rw[Qet,hd];simp+decide (disch:=first|omega|rfl|(simp+decide only[go_sem,↓reduceIte]<;>rfl)|fail) only[go_sem,↓reduceIte,Qal,Qaz];refine Qa hP (Qme bg (by omega)) rfl rfl rfl ?_;rw[Qet];simp+decide (disch:=first|omega|rfl|(simp+decide only[go_sem,↓reduceIte]<;>rfl)|fail) only[go_sem,↓reduceIte,Qal,Qaz];refine Qhn 6 4 (by simp+decide (disch:=first|omega|rfl|(simp+decide only[go_sem,↓reduceIte]<;>rfl)|fail) only[go_sem,↓reduceIte,Qal,Qaz]) ?_;refine Qy (by repeat (first|exact Qu|exact Qn|exact Qo|exact Qk|exact Qp|apply Qm|apply Qt|apply Qw|apply Q5|apply Q6|apply Qi)) [(6,9),(12,13),(36,89)] [] (fun m J hp=>∃k,m=N-k/\k<=N/\((dvS g v d f k).2≠[]->Q8 (dvS g v d f k).2 v<N-k)/\(∃K' E',PB K' E' (dvS g v d f k).2/\E'<=2^30)/\Qaf (dvS g v d f k).1=false/\Qaf (dvS g v d f k).2=false/\Qe8 g v d (N-k) (dvS g v d f k).1 (dvS g v d f k).2 k=Qe8 g v d N [] f 0/\
  J 6=PV.poly (dvS g v d f k).1/\J 7=PV.poly (dvS g v d f k).2/\J 8= .int .i64 (k:Nat)) N ?_ ?_
 ·refine⟨0,rfl,by omega,fun _=>by simpa[dvS]using hN,⟨K,E,hbf,by omega⟩,rfl,hfl,rfl,?_⟩;simp+decide (disch:=first|omega|rfl|(simp+decide only[go_sem,↓reduceIte]<;>rfl)|fail) only[go_sem,↓reduceIte,Qal,Qaz];exact⟨rfl,rfl,rfl⟩
 rintro _ J h ⟨k,rfl,hk,hdk,⟨K',E',hbr,hE'⟩,hl1,hl2,hres,h6,h7,h8⟩;obtain⟨n1,n2⟩:=Qjq (v:=v) (d:=d) nf ng k;have hst:dvS g v d f (k+1)=(dvQ (dvS g v d f k).1 (dvS g v d f k).2 g v (Q8 (dvS g v d f k).2 v).toNat d,dvR (dvS g v d f k).2 g v (Q8 (dvS g v d f k).2 v).toNat d):=rfl;have hbk:=hb k;generalize(dvS g v d f k).1=q at *
 generalize(dvS g v d f k).2=r at *
 have hql:=hlen hl1;have hrl:=hlen hl2;simp+decide (disch:=first|omega|rfl|(simp+decide only[go_sem,↓reduceIte,h6,h7,h8]<;>rfl)|fail) only[go_sem,↓reduceIte,Qal,Qaz,h6,h7,h8];refine Qat (fun hg=>?_) (fun hg=>?_)
 ·have hr0:r≠[]:=fun h=>by rw[h]at hg;simp at hg
  have hrange:=Qe1 hbr hr0 v;have hdk':=hdk hr0;have hkN:k<N:=by omega
  obtain⟨b1,b2⟩:=hbk hkN;obtain⟨n,hn⟩:∃n:Nat,Q8 r v=n:=⟨(Q8 r v).toNat,by omega⟩
  have hnE:n<=E:=by have:=(Qe1 b2 hr0 v).2;omega
  simp+decide (disch:=first|omega|rfl|(simp+decide only[go_sem,↓reduceIte,h6,h7,h8]<;>rfl)|fail) only[go_sem,↓reduceIte,Qal,Qaz,h6,h7,h8];refine Qa hP (Qce b2 (by omega)) rfl rfl rfl ?_;rw[Qet,hn];simp+decide (disch:=first|omega|rfl|(simp+decide only[go_sem,↓reduceIte,h6,h7,h8]<;>rfl)|fail) only[go_sem,↓reduceIte,Qal,Qaz,h6,h7,h8];refine Qb (fun hc=>?_) (fun hc=>?_)
  ·have hdn:d<=n:=by omega
   have e1:(n:Int)-(d:Int)=((n-d:Nat):Int):=by omega
   have hdeg:=Q1p n2 ng b2 hr0 hd (by omega);rw[hn,Int.toNat_natCast]at hst hdeg;obtain⟨q1,q2,q3,q4,q5,q6,q7,q8⟩:=Q1q (n:=n) (d:=d) b1 b2 bg hgM hv hnE;have nb:Nrm (dvB r v n d):=Qfi (Qb2 n2 v n) v (n-d);have hmr:min (Qae g v d).length r.length*(K+K)<=M*(K+K):=Nat.mul_le_mul_right _ (by omega);have hmq:min (Qae g v d).length q.length*(K+K)<=M*(K+K):=Nat.mul_le_mul_right _ (by omega);have hmb:min (dvB r v n d).length g.length*(K+2+(K+2))<=M*(K+K+2)+M*2:=by
    have:=Nat.mul_le_mul_right (K+2+(K+2)) (show min (dvB r v n d).length g.length<=M by omega);have e:K+2+(K+2)=K+K+2+2:=by omega
    rw[e]at this⊢;rw[<-Nat.mul_add];exact this
   have hl1:(Qae g v d).length*r.length<=2^16*4000:=Nat.mul_le_mul (by omega) hrl;have hl2:(Qae g v d).length*q.length<=2^16*4000:=Nat.mul_le_mul (by omega) hql;have hl3:(dvB r v n d).length*g.length<=4000*2^16:=Nat.mul_le_mul (by omega) (by omega);have hl4:M*r.length<=2^16*4000:=Nat.mul_le_mul (by omega) hrl;have hl5:M*q.length<=2^16*4000:=Nat.mul_le_mul (by omega) hql;have hl6:r.length*M<=4000*2^16:=Nat.mul_le_mul hrl hM;have hB:Qcn (Qae r v n) v (n-d)=dvB r v n d:=rfl;simp+decide (disch:=first|omega|rfl|(simp+decide only[go_sem,↓reduceIte,h6,h7,h8]<;>rfl)|fail) only[go_sem,↓reduceIte,Qal,Qaz,h6,h7,h8];refine Qa hP (Qce b2 (by omega)) rfl rfl rfl ?_;rw[Qet,hn];simp+decide (disch:=first|omega|rfl|(simp+decide only[go_sem,↓reduceIte,h6,h7,h8]<;>rfl)|fail) only[go_sem,↓reduceIte,Qal,Qaz,h6,h7,h8];refine Qa hP (Qme b2 (by omega)) rfl rfl rfl ?_;rw[Qet];simp+decide (disch:=first|omega|rfl|(simp+decide only[go_sem,↓reduceIte,h6,h7,h8,e1]<;>rfl)|fail) only[go_sem,↓reduceIte,Qal,Qaz,h6,h7,h8,e1];refine Qa hP (Qxa (E:=E) (K:=K) (Qfs b2 v n) hv (by omega) hK2 (by omega) (by have:=Qc8 r v n;omega) (by omega)) rfl rfl rfl ?_;rw[hB];simp+decide (disch:=first|omega|rfl|(simp+decide only[go_sem,↓reduceIte,h6,h7,h8]<;>rfl)|fail) only[go_sem,↓reduceIte,Qal,Qaz,h6,h7,h8];refine Qa hP (Qd2 hcb b1 (by omega) (by omega) (by omega) (by omega) (by omega) (by omega)) rfl rfl rfl ?_;simp+decide (disch:=first|omega|rfl|(simp+decide only[go_sem,↓reduceIte,h6,h7,h8]<;>rfl)|fail) only[go_sem,↓reduceIte,Qal,Qaz,h6,h7,h8];refine Qa hP (Qle (K:=M*(K+K+2)) (E:=E+E) (q3.mono (by omega) (Nat.le_refl _)) (q1.mono (by omega) (Nat.le_refl _)) (by omega) (by omega) (by omega) (by omega)) rfl rfl rfl ?_;rw[show Q4 (Qx (Qae g v d) q) (dvB r v n d)=dvQ q r g v n d from rfl];simp+decide (disch:=first|omega|rfl|(simp+decide only[go_sem,↓reduceIte,h6,h7,h8]<;>rfl)|fail) only[go_sem,↓reduceIte,Qal,Qaz,h6,h7,h8];refine Qa hP (Qd2 hcb b2 (by omega) (by omega) (by omega) (by omega) (by omega) (by omega)) rfl rfl rfl ?_;simp+decide (disch:=first|omega|rfl|(simp+decide only[go_sem,↓reduceIte,h6,h7,h8]<;>rfl)|fail) only[go_sem,↓reduceIte,Qal,Qaz,h6,h7,h8];refine Qa hP (Qd2 (q1.mono (Nat.le_refl _) (by omega)) (bg.mono (K':=K+2) (E':=E+E) (by omega) (by omega)) (by omega) (by omega) (by omega) (by omega) (by omega) (by omega)) rfl rfl rfl ?_;simp+decide (disch:=first|omega|rfl|(simp+decide only[go_sem,↓reduceIte,h6,h7,h8]<;>rfl)|fail) only[go_sem,↓reduceIte,Qal,Qaz,h6,h7,h8];refine Qa hP (Qvb (K:=M*(K+K+2)) (E:=E+E+E) (q5.mono (by omega) (by omega)) q7 (by omega) (by omega) (by omega) (by omega) (by omega)) rfl rfl rfl ?_;rw[show Qgc (Qx (Qae g v d) r) (Qx (dvB r v n d) g)=dvR r g v n d from rfl];have bQ:PB (M*(K+K)+(K+2)) (E+E) (dvQ q r g v n d):=Qhm _ _ q3 q1;have lQ:(dvQ q r g v n d).length<=2^33:=Nat.le_trans (Qeo _ _) (by omega);have bR:PB (M*(K+K)+(M*(K+K+2)+2)) (E+E+E) (dvR r g v n d):=Qhm _ _ (q5.mono (Nat.le_refl _) (by omega)) (Qn5 q7);have lR:(dvR r g v n d).length<=2^33:=Nat.le_trans (Qeo _ _) (by have:=Qhz (Qx (dvB r v n d) g) (-1);have e:(Qi2 (Qx (dvB r v n d) g)).length=(Qcf (Qx (dvB r v n d) g) (-1)).length:=rfl;omega);have hns:¬(r=[]∨Q8 r v<d):=fun h=>h.elim hr0 (fun h=>by omega);have hd1:=Qpk (g:=g) (k:=k) (q:=q) (fuel:=N-(k+1)) hns;have hd2:=Qnh (g:=g) (k:=k) (q:=q) (fuel:=N-(k+1)) hns;rw[show N-(k+1)+1=N-k by omega,hn,Int.toNat_natCast,hres]at hd1 hd2;generalize dvQ q r g v n d=q' at *
   generalize dvR r g v n d=r' at *
   simp+decide (disch:=first|omega|rfl|(simp+decide only[go_sem,↓reduceIte,h6,h7,h8]<;>rfl)|fail) only[go_sem,↓reduceIte,Qal,Qaz,h6,h7,h8];refine Qa hP (Qk0 (fun t ht=>(bQ t ht).m) (by omega)) rfl rfl rfl ?_;cases hlq:Qaf q'
   ·simp+decide (disch:=first|omega|rfl|(simp+decide only[go_sem,↓reduceIte,h6,h7,h8]<;>rfl)|fail) only[go_sem,↓reduceIte,Qal,Qaz,h6,h7,h8];refine Qa hP (Qk0 (fun t ht=>(bR t ht).m) (by omega)) rfl rfl rfl ?_;cases hlr:Qaf r'
    ·simp+decide (disch:=first|omega|rfl|(simp+decide only[go_sem,↓reduceIte,h6,h7,h8]<;>rfl)|fail) only[go_sem,↓reduceIte,Qal,Qaz,h6,h7,h8];refine Qa hP (Qce bR (by omega)) rfl rfl rfl ?_;rw[Qet];have hd1':=hd1 (by simp[hlq,hlr]);have hge:¬((n:Int)<=Q8 r' v):=by omega
     simp+decide (disch:=first|omega|rfl|(simp+decide only[go_sem,↓reduceIte,h6,h7,h8,hge]<;>rfl)|fail) only[go_sem,↓reduceIte,Qal,Qaz,h6,h7,h8,hge];refine Qh (N-(k+1)) (by omega) ⟨k+1,rfl,by omega,?_⟩;rw[hst];refine⟨fun _=>?_,⟨_,_,bR,by omega⟩,hlq,hlr,hd1'.symm,?_⟩
     ·show Q8 r' v<(N:Int)-((k+1:Nat):Int)
      omega
     simp+decide (disch:=first|omega|rfl|(simp+decide only[go_sem,↓reduceIte]<;>rfl)|fail) only[go_sem,↓reduceIte,Qal,Qaz]
    ·have hd2':=hd2 (.inr hlr);simp+decide (disch:=first|omega|rfl|(simp+decide only[go_sem,↓reduceIte]<;>rfl)|fail) only[go_sem,↓reduceIte,Qal,Qaz];exact Qq6 hd2' rfl rfl rfl rfl Qgb Qgb (Q2 _) (Q2 _)
   ·have hd2':=hd2 (.inl hlq);simp+decide (disch:=first|omega|rfl|(simp+decide only[go_sem,↓reduceIte]<;>rfl)|fail) only[go_sem,↓reduceIte,Qal,Qaz];exact Qq6 hd2' rfl rfl rfl rfl Qgb Qgb (Q2 _) (Q2 _)
  ·have hd1:=Qi5 (g:=g) (q:=q) (k:=k) (show r=[]∨Q8 r v<d from .inr (by omega)) (N-k);rw[hres]at hd1;simp+decide (disch:=first|omega|rfl|(simp+decide only[go_sem,↓reduceIte,h6,h7,h8]<;>rfl)|fail) only[go_sem,↓reduceIte,Qal,Qaz,h6,h7,h8];exact Qq6 hd1 rfl rfl rfl rfl (Q2 _) (Q2 _) (Q2 _) (Q2 _)
 ·have hr0:r=[]:=List.length_eq_zero_iff.1 (by omega);have hd1:=Qi5 (g:=g) (q:=q) (k:=k) (show r=[]∨Q8 r v<d from .inl hr0) (N-k);rw[hres]at hd1;simp+decide (disch:=first|omega|rfl|(simp+decide only[go_sem,↓reduceIte,h6,h7,h8]<;>rfl)|fail) only[go_sem,↓reduceIte,Qal,Qaz,h6,h7,h8];exact Qq6 hd1 rfl rfl rfl rfl (Q2 _) (Q2 _) (Q2 _) (Q2 _)
def c130:SFn:=⟨24,[.t 2],.seq (.rg (.o none (.mv 2 (.c .nilS)) .nil))<| .seq (.rg (.o none (.mv 5 (.t 0))<|
 .o none (.len 6 (.t 5))<|
 .o none (.mv 3 (.t 6)) .nil))<| .seq (.block 0 (.loop (.seq (.seq (.rg (.o none (.mv 7 (.t 3))<|
 .o none (.bin 8 .gtr false (.t 7) (.c (.int .i64 0)))<|
 .o none (.mv 9 (.t 8))<|
 .o (some (9,true)) (.mv 10 (.t 0))<|
 .o (some (9,true)) (.mv 11 (.t 3))<|
 .o (some (9,true)) (.bin 12 .sub false (.t 11) (.c (.int .i64 1)))<|
 .o (some (9,true)) (.idx 13 1 (.t 10) (.t 12))<|
 .o (some (9,true)) (.ld 14 1 false (.t 13))<|
 .o (some (9,true)) (.bin 15 .eql false (.t 14) (.c (.int .u16 0)))<|
 .o none (.pick 16 (.t 9) (.t 15) (.c (.bool false))) .nil))<| .cond (.t 16) (.skip) (.exit 0))<| .block 1 (.rg (.o none (.mv 17 (.t 3))<|
 .o none (.bin 18 .sub false (.t 17) (.c (.int .i64 1)))<|
 .o none (.mv 3 (.t 18)) .nil)))))<| .seq (.rg (.o none (.mv 4 (.c .nilS)) .nil))<| .seq (.rg (.o none (.mv 19 (.t 4))<|
 .o none (.mv 20 (.t 0))<|
 .o none (.mv 21 (.t 3))<|
 .o none (.sl 22 1 (.t 20) none (some (.t 21)) none)<|
 .o none (.app 23 1 2 115 (.t 19) (.t 22))<|
 .o none (.mv 2 (.t 23)) .nil))<| .ret⟩
theorem Qajq:Qe Tryz.prog Tryz.f130=some c130:=by kernel_rfl
def c86:SFn:=⟨15,[.t 2],.seq (.rg (.o none (.mv 2 (.c .nilS)) .nil))<| .seq (.rg (.o none (.mv 3 (.c .nilS)) .nil))<| .seq (.block 0 (.loop (.seq (.seq (.rg (.o none (.mv 4 (.t 0))<|
 .o none (.bin 5 .gtr false (.t 4) (.c (.int .u64 0))) .nil))<| .cond (.t 5) (.skip) (.exit 0))<| .block 1 (.seq (.rg (.o none (.mv 6 (.t 3))<|
 .o none (.mv 7 (.t 0))<|
 .o none (.bin 8 .rem false (.t 7) (.c (.int .u64 65536)))<|
 .o none (.conv 9 .u16 (.t 8))<|
 .o none (.bs 10 1 115 [(.t 9)])<|
 .o none (.app 11 1 2 115 (.t 6) (.t 10))<|
 .o none (.mv 3 (.t 11)) .nil))<| .rg (.o none (.mv 12 (.t 0))<|
 .o none (.bin 13 .quo false (.t 12) (.c (.int .u64 65536)))<|
 .o none (.mv 0 (.t 13)) .nil)))))<| .seq (.rg (.o none (.mv 14 (.t 3))<|
 .o none (.mv 2 (.t 14)) .nil))<| .ret⟩
theorem Qao1:Qe Tryz.prog Tryz.f86=some c86:=by kernel_rfl
def c154:SFn:=⟨21,[.t 2],.seq (.rg (.o none (.mv 2 (.c (.int .u64 0))) .nil))<| .seq (.rg (.o none (.mv 3 (.c (.int .u64 0))) .nil))<| .seq (.seq (.rg (.o none (.mv 5 (.t 0))<|
 .o none (.len 6 (.t 5))<|
 .o none (.bin 7 .sub false (.t 6) (.c (.int .i64 1)))<|
 .o none (.mv 4 (.t 7)) .nil))<| .block 0 (.loop (.seq (.seq (.rg (.o none (.mv 8 (.t 4))<|
 .o none (.bin 9 .geq false (.t 8) (.c (.int .i64 0))) .nil))<| .cond (.t 9) (.skip) (.exit 0))<| .seq (.block 1 (.rg (.o none (.mv 12 (.t 3))<|
 .o none (.bin 13 .mul false (.t 12) (.c (.int .u64 65536)))<|
 .o none (.mv 14 (.t 0))<|
 .o none (.mv 15 (.t 4))<|
 .o none (.idx 16 1 (.t 14) (.t 15))<|
 .o none (.ld 17 1 false (.t 16))<|
 .o none (.conv 18 .u64 (.t 17))<|
 .o none (.bin 19 .add false (.t 13) (.t 18))<|
 .o none (.mv 3 (.t 19)) .nil)))<| .rg (.o none (.mv 10 (.t 4))<|
 .o none (.bin 11 .sub false (.t 10) (.c (.int .i64 1)))<|
 .o none (.mv 4 (.t 11)) .nil))))<| .seq (.rg (.o none (.mv 20 (.t 3))<|
 .o none (.mv 2 (.t 20)) .nil))<| .ret⟩
theorem Qajr:Qe Tryz.prog Tryz.f154=some c154:=by kernel_rfl
def c146:SFn:=⟨14,[.t 4],.seq (.rg (.o none (.mv 4 (.c (.int .i64 0))) .nil))<| .seq (.seq (.rg (.o none (.mv 5 (.t 1))<|
 .o none (.mv 6 (.t 0))<|
 .o none (.len 7 (.t 6))<|
 .o none (.bin 8 .lss false (.t 5) (.t 7)) .nil))<| .cond (.t 8) (.seq (.rg (.o none (.mv 9 (.t 0))<|
 .o none (.mv 10 (.t 1))<|
 .o none (.idx 11 1 (.t 9) (.t 10))<|
 .o none (.ld 12 1 false (.t 11))<|
 .o none (.conv 13 .i64 (.t 12))<|
 .o none (.mv 4 (.t 13)) .nil))<| .ret) (.skip))<| .seq (.rg (.o none (.mv 4 (.c (.int .i64 0))) .nil))<| .ret⟩
theorem Qajs:Qe Tryz.prog Tryz.f146=some c146:=by kernel_rfl
def c162:SFn:=⟨30,[.t 4],.seq (.rg (.o none (.mv 4 (.c (.int .i64 0))) .nil))<| .seq (.seq (.rg (.o none (.mv 6 (.t 0))<|
 .o none (.len 7 (.t 6))<|
 .o none (.mv 8 (.t 1))<|
 .o none (.len 9 (.t 8))<|
 .o none (.mx 10 (.t 7) (.t 9))<|
 .o none (.bin 11 .sub false (.t 10) (.c (.int .i64 1)))<|
 .o none (.mv 5 (.t 11)) .nil))<| .block 0 (.loop (.seq (.seq (.rg (.o none (.mv 12 (.t 5))<|
 .o none (.bin 13 .geq false (.t 12) (.c (.int .i64 0))) .nil))<| .cond (.t 13) (.skip) (.exit 0))<| .seq (.block 1 (.seq (.seq (.rg (.o none (.mv 16 (.t 0))<|
 .o none (.mv 17 (.t 5))<|
 .o none (.call (some 18) false (.c (.fn 146 [] [])) [(.t 16),(.t 17)])<|
 .o none (.mv 19 (.t 1))<|
 .o none (.mv 20 (.t 5))<|
 .o none (.call (some 21) false (.c (.fn 146 [] [])) [(.t 19),(.t 20)])<|
 .o none (.bin 22 .lss false (.t 18) (.t 21)) .nil))<| .cond (.t 22) (.seq (.rg (.o none (.mv 4 (.c (.int .i64 (-1)))) .nil))<| .ret) (.skip))<| .seq (.rg (.o none (.mv 23 (.t 0))<|
 .o none (.mv 24 (.t 5))<|
 .o none (.call (some 25) false (.c (.fn 146 [] [])) [(.t 23),(.t 24)])<|
 .o none (.mv 26 (.t 1))<|
 .o none (.mv 27 (.t 5))<|
 .o none (.call (some 28) false (.c (.fn 146 [] [])) [(.t 26),(.t 27)])<|
 .o none (.bin 29 .gtr false (.t 25) (.t 28)) .nil))<| .cond (.t 29) (.seq (.rg (.o none (.mv 4 (.c (.int .i64 1))) .nil))<| .ret) (.skip)))<| .rg (.o none (.mv 14 (.t 5))<|
 .o none (.bin 15 .sub false (.t 14) (.c (.int .i64 1)))<|
 .o none (.mv 5 (.t 15)) .nil))))<| .seq (.rg (.o none (.mv 4 (.c (.int .i64 0))) .nil))<| .ret⟩
theorem Qajt:Qe Tryz.prog Tryz.f162=some c162:=by kernel_rfl
def c134:SFn:=⟨44,[.t 4],.seq (.rg (.o none (.mv 4 (.c .nilS)) .nil))<| .seq (.rg (.o none (.mv 5 (.c .nilS)) .nil))<| .seq (.rg (.o none (.mv 6 (.c (.int .i64 0))) .nil))<| .seq (.seq (.rg (.o none (.mv 7 (.c (.int .i64 0))) .nil))<| .block 0 (.loop (.seq (.seq (.rg (.o none (.mv 9 (.t 7))<|
 .o none (.mv 10 (.t 0))<|
 .o none (.len 11 (.t 10))<|
 .o none (.bin 12 .lss false (.t 9) (.t 11))<|
 .o none (.mv 13 (.t 12))<|
 .o (some (13,false)) (.mv 14 (.t 7))<|
 .o (some (13,false)) (.mv 15 (.t 1))<|
 .o (some (13,false)) (.len 16 (.t 15))<|
 .o (some (13,false)) (.bin 17 .lss false (.t 14) (.t 16))<|
 .o none (.pick 18 (.t 13) (.c (.bool true)) (.t 17))<|
 .o none (.mv 19 (.t 18))<|
 .o (some (19,false)) (.mv 20 (.t 6))<|
 .o (some (19,false)) (.bin 21 .gtr false (.t 20) (.c (.int .i64 0)))<|
 .o none (.pick 22 (.t 19) (.c (.bool true)) (.t 21)) .nil))<| .cond (.t 22) (.skip) (.exit 0))<| .seq (.block 1 (.seq (.rg (.o none (.mv 25 (.t 0))<|
 .o none (.mv 26 (.t 7))<|
 .o none (.call (some 27) false (.c (.fn 146 [] [])) [(.t 25),(.t 26)])<|
 .o none (.mv 28 (.t 1))<|
 .o none (.mv 29 (.t 7))<|
 .o none (.call (some 30) false (.c (.fn 146 [] [])) [(.t 28),(.t 29)])<|
 .o none (.bin 31 .add false (.t 27) (.t 30))<|
 .o none (.mv 32 (.t 6))<|
 .o none (.bin 33 .add false (.t 31) (.t 32))<|
 .o none (.mv 8 (.t 33)) .nil))<| .seq (.rg (.o none (.mv 34 (.t 5))<|
 .o none (.mv 35 (.t 8))<|
 .o none (.bin 36 .rem false (.t 35) (.c (.int .i64 65536)))<|
 .o none (.conv 37 .u16 (.t 36))<|
 .o none (.bs 38 1 115 [(.t 37)])<|
 .o none (.app 39 1 2 115 (.t 34) (.t 38))<|
 .o none (.mv 5 (.t 39)) .nil))<| .rg (.o none (.mv 40 (.t 8))<|
 .o none (.bin 41 .quo false (.t 40) (.c (.int .i64 65536)))<|
 .o none (.mv 6 (.t 41)) .nil)))<| .rg (.o none (.mv 23 (.t 7))<|
 .o none (.bin 24 .add false (.t 23) (.c (.int .i64 1)))<|
 .o none (.mv 7 (.t 24)) .nil))))<| .seq (.rg (.o none (.mv 42 (.t 5))<|
 .o none (.call (some 43) false (.c (.fn 130 [] [])) [(.t 42)])<|
 .o none (.mv 4 (.t 43)) .nil))<| .ret⟩
theorem Qaju:Qe Tryz.prog Tryz.f134=some c134:=by kernel_rfl
def c145:SFn:=⟨40,[.t 4,.t 5],.seq (.rg (.o none (.mv 4 (.c .nilS))<|
 .o none (.mv 5 (.c (.int .i64 0))) .nil))<| .seq (.seq (.rg (.o none (.mv 10 (.t 0))<|
 .o none (.mv 11 (.t 1))<|
 .o none (.call (some 12) false (.c (.fn 162 [] [])) [(.t 10),(.t 11)])<|
 .o none (.bin 13 .lss false (.t 12) (.c (.int .i64 0))) .nil))<| .cond (.t 13) (.seq (.rg (.o none (.mv 4 (.c .nilS))<|
 .o none (.mv 5 (.c (.int .i64 2))) .nil))<| .ret) (.skip))<| .seq (.rg (.o none (.mv 6 (.c .nilS)) .nil))<| .seq (.rg (.o none (.mv 7 (.c (.int .i64 0))) .nil))<| .seq (.seq (.rg (.o none (.mv 8 (.c (.int .i64 0))) .nil))<| .block 0 (.loop (.seq (.seq (.rg (.o none (.mv 14 (.t 8))<|
 .o none (.mv 15 (.t 0))<|
 .o none (.len 16 (.t 15))<|
 .o none (.bin 17 .lss false (.t 14) (.t 16)) .nil))<| .cond (.t 17) (.skip) (.exit 0))<| .seq (.block 1 (.seq (.rg (.o none (.mv 20 (.t 0))<|
 .o none (.mv 21 (.t 8))<|
 .o none (.call (some 22) false (.c (.fn 146 [] [])) [(.t 20),(.t 21)])<|
 .o none (.mv 23 (.t 1))<|
 .o none (.mv 24 (.t 8))<|
 .o none (.call (some 25) false (.c (.fn 146 [] [])) [(.t 23),(.t 24)])<|
 .o none (.bin 26 .sub false (.t 22) (.t 25))<|
 .o none (.mv 27 (.t 7))<|
 .o none (.bin 28 .sub false (.t 26) (.t 27))<|
 .o none (.mv 9 (.t 28)) .nil))<| .seq (.rg (.o none (.mv 7 (.c (.int .i64 0))) .nil))<| .seq (.seq (.rg (.o none (.mv 29 (.t 9))<|
 .o none (.bin 30 .lss false (.t 29) (.c (.int .i64 0))) .nil))<| .cond (.t 30) (.seq (.rg (.o none (.mv 31 (.t 9))<|
 .o none (.bin 32 .add false (.t 31) (.c (.int .i64 65536)))<|
 .o none (.mv 9 (.t 32)) .nil))<| .rg (.o none (.mv 7 (.c (.int .i64 1))) .nil)) (.skip))<| .rg (.o none (.mv 33 (.t 6))<|
 .o none (.mv 34 (.t 9))<|
 .o none (.conv 35 .u16 (.t 34))<|
 .o none (.bs 36 1 115 [(.t 35)])<|
 .o none (.app 37 1 2 115 (.t 33) (.t 36))<|
 .o none (.mv 6 (.t 37)) .nil)))<| .rg (.o none (.mv 18 (.t 8))<|
 .o none (.bin 19 .add false (.t 18) (.c (.int .i64 1)))<|
 .o none (.mv 8 (.t 19)) .nil))))<| .seq (.rg (.o none (.mv 38 (.t 6))<|
 .o none (.call (some 39) false (.c (.fn 130 [] [])) [(.t 38)])<|
 .o none (.mv 4 (.t 39))<|
 .o none (.mv 5 (.c (.int .i64 0))) .nil))<| .ret⟩
theorem Qajv:Qe Tryz.prog Tryz.f145=some c145:=by kernel_rfl
def c109:SFn:=⟨65,[.t 4],.seq (.rg (.o none (.mv 4 (.c .nilS)) .nil))<| .seq (.rg (.o none (.mv 10 (.t 0))<|
 .o none (.len 11 (.t 10))<|
 .o none (.mv 12 (.t 1))<|
 .o none (.len 13 (.t 12))<|
 .o none (.bin 14 .add false (.t 11) (.t 13))<|
 .o none (.bin 15 .add false (.t 14) (.c (.int .i64 1)))<|
 .o none (.mk 16 1 2 115 (.int .u16 0) (.t 15) (.t 15))<|
 .o none (.mv 5 (.t 16)) .nil))<| .seq (.seq (.rg (.o none (.mv 6 (.c (.int .i64 0))) .nil))<| .block 0 (.loop (.seq (.seq (.rg (.o none (.mv 17 (.t 6))<|
 .o none (.mv 18 (.t 0))<|
 .o none (.len 19 (.t 18))<|
 .o none (.bin 20 .lss false (.t 17) (.t 19)) .nil))<| .cond (.t 20) (.skip) (.exit 0))<| .seq (.block 1 (.seq (.rg (.o none (.mv 7 (.c (.int .u64 0))) .nil))<| .seq (.rg (.o none (.mv 8 (.c (.int .i64 0))) .nil))<| .block 2 (.loop (.seq (.seq (.rg (.o none (.mv 23 (.t 8))<|
 .o none (.mv 24 (.t 1))<|
 .o none (.len 25 (.t 24))<|
 .o none (.bin 26 .lss false (.t 23) (.t 25))<|
 .o none (.mv 27 (.t 26))<|
 .o (some (27,false)) (.mv 28 (.t 7))<|
 .o (some (27,false)) (.bin 29 .gtr false (.t 28) (.c (.int .u64 0)))<|
 .o none (.pick 30 (.t 27) (.c (.bool true)) (.t 29)) .nil))<| .cond (.t 30) (.skip) (.exit 2))<| .seq (.block 3 (.seq (.rg (.o none (.mv 33 (.t 5))<|
 .o none (.mv 34 (.t 6))<|
 .o none (.mv 35 (.t 8))<|
 .o none (.bin 36 .add false (.t 34) (.t 35))<|
 .o none (.idx 37 1 (.t 33) (.t 36))<|
 .o none (.ld 38 1 false (.t 37))<|
 .o none (.conv 39 .u64 (.t 38))<|
 .o none (.mv 40 (.t 0))<|
 .o none (.mv 41 (.t 6))<|
 .o none (.idx 42 1 (.t 40) (.t 41))<|
 .o none (.ld 43 1 false (.t 42))<|
 .o none (.conv 44 .u64 (.t 43))<|
 .o none (.mv 45 (.t 1))<|
 .o none (.mv 46 (.t 8))<|
 .o none (.mv 51 (.t 7))<|
 .o none (.call (some 47) true (.c (.fn 146 [] [])) [(.t 45),(.t 46)])<|
 .o none (.conv 48 .u64 (.t 47))<|
 .o none (.bin 49 .mul false (.t 44) (.t 48))<|
 .o none (.bin 50 .add false (.t 39) (.t 49))<|
 .o none (.bin 52 .add false (.t 50) (.t 51))<|
 .o none (.mv 9 (.t 52)) .nil))<| .seq (.rg (.o none (.mv 53 (.t 5))<|
 .o none (.mv 54 (.t 6))<|
 .o none (.mv 55 (.t 8))<|
 .o none (.bin 56 .add false (.t 54) (.t 55))<|
 .o none (.mv 57 (.t 9))<|
 .o none (.bin 58 .rem false (.t 57) (.c (.int .u64 65536)))<|
 .o none (.conv 59 .u16 (.t 58))<|
 .o none (.idx 60 1 (.t 53) (.t 56))<|
 .o none (.st 1 (.t 60) (.t 59)) .nil))<| .rg (.o none (.mv 61 (.t 9))<|
 .o none (.bin 62 .quo false (.t 61) (.c (.int .u64 65536)))<|
 .o none (.mv 7 (.t 62)) .nil)))<| .rg (.o none (.mv 31 (.t 8))<|
 .o none (.bin 32 .add false (.t 31) (.c (.int .i64 1)))<|
 .o none (.mv 8 (.t 32)) .nil)))))<| .rg (.o none (.mv 21 (.t 6))<|
 .o none (.bin 22 .add false (.t 21) (.c (.int .i64 1)))<|
 .o none (.mv 6 (.t 22)) .nil))))<| .seq (.rg (.o none (.mv 63 (.t 5))<|
 .o none (.call (some 64) false (.c (.fn 130 [] [])) [(.t 63)])<|
 .o none (.mv 4 (.t 64)) .nil))<| .ret⟩
theorem Qajw:Qe Tryz.prog Tryz.f109=some c109:=by kernel_rfl
def c155:SFn:=⟨27,[.t 4],.seq (.rg (.o none (.mv 4 (.c (.int .u64 0))) .nil))<| .seq (.rg (.o none (.mv 5 (.c (.int .u64 0)))<|
 .o none (.mv 6 (.c (.int .u64 65535))) .nil))<| .seq (.block 0 (.loop (.seq (.seq (.rg (.o none (.mv 8 (.t 5))<|
 .o none (.mv 9 (.t 6))<|
 .o none (.bin 10 .lss false (.t 8) (.t 9)) .nil))<| .cond (.t 10) (.skip) (.exit 0))<| .block 1 (.seq (.rg (.o none (.mv 11 (.t 5))<|
 .o none (.mv 12 (.t 6))<|
 .o none (.bin 13 .add false (.t 11) (.t 12))<|
 .o none (.bin 14 .add false (.t 13) (.c (.int .u64 1)))<|
 .o none (.bin 15 .quo false (.t 14) (.c (.int .u64 2)))<|
 .o none (.mv 7 (.t 15)) .nil))<| .seq (.rg (.o none (.mv 16 (.t 1))<|
 .o none (.mv 17 (.t 7))<|
 .o none (.call (some 18) false (.c (.fn 86 [] [])) [(.t 17)])<|
 .o none (.call (some 19) false (.c (.fn 109 [] [])) [(.t 16),(.t 18)])<|
 .o none (.mv 20 (.t 0))<|
 .o none (.call (some 21) false (.c (.fn 162 [] [])) [(.t 19),(.t 20)])<|
 .o none (.bin 22 .leq false (.t 21) (.c (.int .i64 0))) .nil))<| .cond (.t 22) (.rg (.o none (.mv 23 (.t 7))<|
 .o none (.mv 5 (.t 23)) .nil)) (.rg (.o none (.mv 24 (.t 7))<|
 .o none (.bin 25 .sub false (.t 24) (.c (.int .u64 1)))<|
 .o none (.mv 6 (.t 25)) .nil))))))<| .seq (.rg (.o none (.mv 26 (.t 5))<|
 .o none (.mv 4 (.t 26)) .nil))<| .ret⟩
theorem Qajx:Qe Tryz.prog Tryz.f155=some c155:=by kernel_rfl
def c131:SFn:=⟨73,[.t 4,.t 5,.t 6],.seq (.rg (.o none (.mv 4 (.c .nilS))<|
 .o none (.mv 5 (.c .nilS))<|
 .o none (.mv 6 (.c (.int .i64 0))) .nil))<| .seq (.rg (.o none (.mv 11 (.t 0))<|
 .o none (.call (some 12) false (.c (.fn 130 [] [])) [(.t 11)])<|
 .o none (.mv 13 (.t 1))<|
 .o none (.call (some 14) false (.c (.fn 130 [] [])) [(.t 13)])<|
 .o none (.mv 0 (.t 12))<|
 .o none (.mv 1 (.t 14)) .nil))<| .seq (.seq (.rg (.o none (.mv 15 (.t 1))<|
 .o none (.len 16 (.t 15))<|
 .o none (.bin 17 .eql false (.t 16) (.c (.int .i64 0))) .nil))<| .cond (.t 17) (.seq (.rg (.o none (.mv 4 (.c .nilS))<|
 .o none (.mv 5 (.c .nilS))<|
 .o none (.mv 6 (.c (.int .i64 3))) .nil))<| .ret) (.skip))<| .seq (.seq (.rg (.o none (.mv 18 (.t 0))<|
 .o none (.len 19 (.t 18))<|
 .o none (.bin 20 .leq false (.t 19) (.c (.int .i64 4)))<|
 .o none (.mv 21 (.t 20))<|
 .o (some (21,true)) (.mv 22 (.t 1))<|
 .o (some (21,true)) (.len 23 (.t 22))<|
 .o (some (21,true)) (.bin 24 .leq false (.t 23) (.c (.int .i64 4)))<|
 .o none (.pick 25 (.t 21) (.t 24) (.c (.bool false))) .nil))<| .cond (.t 25) (.seq (.rg (.o none (.mv 26 (.t 0))<|
 .o none (.call (some 27) false (.c (.fn 154 [] [])) [(.t 26)])<|
 .o none (.mv 28 (.t 1))<|
 .o none (.call (some 29) false (.c (.fn 154 [] [])) [(.t 28)])<|
 .o none (.bin 30 .quo false (.t 27) (.t 29))<|
 .o none (.call (some 31) false (.c (.fn 86 [] [])) [(.t 30)])<|
 .o none (.mv 32 (.t 0))<|
 .o none (.call (some 33) false (.c (.fn 154 [] [])) [(.t 32)])<|
 .o none (.mv 34 (.t 1))<|
 .o none (.call (some 35) false (.c (.fn 154 [] [])) [(.t 34)])<|
 .o none (.bin 36 .rem false (.t 33) (.t 35))<|
 .o none (.call (some 37) false (.c (.fn 86 [] [])) [(.t 36)])<|
 .o none (.mv 4 (.t 31))<|
 .o none (.mv 5 (.t 37))<|
 .o none (.mv 6 (.c (.int .i64 0))) .nil))<| .ret) (.skip))<| .seq (.rg (.o none (.mv 7 (.c .nilS))<|
 .o none (.mv 8 (.c .nilS)) .nil))<| .seq (.seq (.rg (.o none (.mv 38 (.t 0))<|
 .o none (.len 39 (.t 38))<|
 .o none (.bin 40 .sub false (.t 39) (.c (.int .i64 1)))<|
 .o none (.mv 9 (.t 40)) .nil))<| .block 0 (.loop (.seq (.seq (.rg (.o none (.mv 41 (.t 9))<|
 .o none (.bin 42 .geq false (.t 41) (.c (.int .i64 0))) .nil))<| .cond (.t 42) (.skip) (.exit 0))<| .seq (.block 1 (.seq (.rg (.o none (.mv 45 (.t 0))<|
 .o none (.mv 46 (.t 9))<|
 .o none (.idx 47 1 (.t 45) (.t 46))<|
 .o none (.ld 48 1 false (.t 47))<|
 .o none (.bs 49 1 115 [(.t 48)])<|
 .o none (.mv 50 (.t 8))<|
 .o none (.app 51 1 2 115 (.t 49) (.t 50))<|
 .o none (.call (some 52) false (.c (.fn 130 [] [])) [(.t 51)])<|
 .o none (.mv 8 (.t 52)) .nil))<| .seq (.rg (.o none (.mv 53 (.t 8))<|
 .o none (.mv 54 (.t 1))<|
 .o none (.call (some 55) false (.c (.fn 155 [] [])) [(.t 53),(.t 54)])<|
 .o none (.mv 10 (.t 55)) .nil))<| .seq (.rg (.o none (.mv 56 (.t 10))<|
 .o none (.conv 57 .u16 (.t 56))<|
 .o none (.bs 58 1 115 [(.t 57)])<|
 .o none (.mv 59 (.t 7))<|
 .o none (.app 60 1 2 115 (.t 58) (.t 59))<|
 .o none (.mv 7 (.t 60)) .nil))<| .rg (.o none (.mv 62 (.t 8))<|
 .o none (.mv 63 (.t 1))<|
 .o none (.mv 64 (.t 10))<|
 .o none (.call (some 65) false (.c (.fn 86 [] [])) [(.t 64)])<|
 .o none (.call (some 66) false (.c (.fn 109 [] [])) [(.t 63),(.t 65)])<|
 .o none (.call (some 67) false (.c (.fn 145 [] [])) [(.t 62),(.t 66)])<|
 .o none (.mv 61 (.t 67))<|
 .o none (.ext 68 (.t 61) 0)<|
 .o none (.ext 69 (.t 61) 1)<|
 .o none (.mv 8 (.t 68)) .nil)))<| .rg (.o none (.mv 43 (.t 9))<|
 .o none (.bin 44 .sub false (.t 43) (.c (.int .i64 1)))<|
 .o none (.mv 9 (.t 44)) .nil))))<| .seq (.rg (.o none (.mv 70 (.t 7))<|
 .o none (.call (some 71) false (.c (.fn 130 [] [])) [(.t 70)])<|
 .o none (.mv 72 (.t 8))<|
 .o none (.mv 4 (.t 71))<|
 .o none (.mv 5 (.t 72))<|
 .o none (.mv 6 (.c (.int .i64 0))) .nil))<| .ret⟩
theorem Qajy:Qe Tryz.prog Tryz.f131=some c131:=by kernel_rfl
def c99:SFn:=⟨25,[.t 4],.seq (.rg (.o none (.mv 4 (.c .nilS)) .nil))<| .seq (.rg (.o none (.mv 8 (.t 0))<|
 .o none (.call (some 9) false (.c (.fn 130 [] [])) [(.t 8)])<|
 .o none (.mv 10 (.t 1))<|
 .o none (.call (some 11) false (.c (.fn 130 [] [])) [(.t 10)])<|
 .o none (.mv 0 (.t 9))<|
 .o none (.mv 1 (.t 11)) .nil))<| .seq (.block 0 (.loop (.seq (.seq (.rg (.o none (.mv 12 (.t 1))<|
 .o none (.len 13 (.t 12))<|
 .o none (.bin 14 .gtr false (.t 13) (.c (.int .i64 0))) .nil))<| .cond (.t 14) (.skip) (.exit 0))<| .block 1 (.seq (.rg (.o none (.mv 16 (.t 0))<|
 .o none (.mv 17 (.t 1))<|
 .o none (.call (some 18) false (.c (.fn 131 [] [])) [(.t 16),(.t 17)])<|
 .o none (.mv 15 (.t 18))<|
 .o none (.ext 19 (.t 15) 0)<|
 .o none (.ext 20 (.t 15) 1)<|
 .o none (.ext 21 (.t 15) 2)<|
 .o none (.mv 5 (.t 19))<|
 .o none (.mv 6 (.t 20))<|
 .o none (.mv 7 (.t 21)) .nil))<| .rg (.o none (.mv 22 (.t 1))<|
 .o none (.mv 23 (.t 6))<|
 .o none (.mv 0 (.t 22))<|
 .o none (.mv 1 (.t 23)) .nil)))))<| .seq (.rg (.o none (.mv 24 (.t 0))<|
 .o none (.mv 4 (.t 24)) .nil))<| .ret⟩
theorem Qao2:Qe Tryz.prog Tryz.f99=some c99:=by kernel_rfl
def c97:SFn:=⟨15,[.t 2],.seq (.rg (.o none (.mv 2 (.c (.bool false))) .nil))<| .seq (.rg (.o none (.mv 3 (.t 0))<|
 .o none (.len 4 (.t 3))<|
 .o none (.bin 5 .eql false (.t 4) (.c (.int .i64 0)))<|
 .o none (.mv 6 (.t 5))<|
 .o (some (6,false)) (.mv 7 (.t 0))<|
 .o (some (6,false)) (.mv 8 (.t 0))<|
 .o (some (6,false)) (.len 9 (.t 8))<|
 .o (some (6,false)) (.bin 10 .sub false (.t 9) (.c (.int .i64 1)))<|
 .o (some (6,false)) (.idx 11 1 (.t 7) (.t 10))<|
 .o (some (6,false)) (.ld 12 1 false (.t 11))<|
 .o (some (6,false)) (.bin 13 .neq false (.t 12) (.c (.int .u16 0)))<|
 .o none (.pick 14 (.t 6) (.c (.bool true)) (.t 13))<|
 .o none (.mv 2 (.t 14)) .nil))<| .ret⟩
theorem Qao3:Qe Tryz.prog Tryz.f97=some c97:=by kernel_rfl
def c98:SFn:=⟨26,[.t 4],.seq (.rg (.o none (.mv 4 (.c (.bool false))) .nil))<| .seq (.seq (.rg (.o none (.mv 6 (.t 0))<|
 .o none (.len 7 (.t 6))<|
 .o none (.mv 8 (.t 1))<|
 .o none (.len 9 (.t 8))<|
 .o none (.bin 10 .neq false (.t 7) (.t 9)) .nil))<| .cond (.t 10) (.seq (.rg (.o none (.mv 4 (.c (.bool false))) .nil))<| .ret) (.skip))<| .seq (.seq (.rg (.o none (.mv 5 (.c (.int .i64 0))) .nil))<| .block 0 (.loop (.seq (.seq (.rg (.o none (.mv 11 (.t 5))<|
 .o none (.mv 12 (.t 0))<|
 .o none (.len 13 (.t 12))<|
 .o none (.bin 14 .lss false (.t 11) (.t 13)) .nil))<| .cond (.t 14) (.skip) (.exit 0))<| .seq (.block 1 (.seq (.rg (.o none (.mv 17 (.t 0))<|
 .o none (.mv 18 (.t 5))<|
 .o none (.idx 19 1 (.t 17) (.t 18))<|
 .o none (.ld 20 1 false (.t 19))<|
 .o none (.mv 21 (.t 1))<|
 .o none (.mv 22 (.t 5))<|
 .o none (.idx 23 1 (.t 21) (.t 22))<|
 .o none (.ld 24 1 false (.t 23))<|
 .o none (.bin 25 .neq false (.t 20) (.t 24)) .nil))<| .cond (.t 25) (.seq (.rg (.o none (.mv 4 (.c (.bool false))) .nil))<| .ret) (.skip)))<| .rg (.o none (.mv 15 (.t 5))<|
 .o none (.bin 16 .add false (.t 15) (.c (.int .i64 1)))<|
 .o none (.mv 5 (.t 16)) .nil))))<| .seq (.rg (.o none (.mv 4 (.c (.bool true))) .nil))<| .ret⟩
theorem Qao4:Qe Tryz.prog Tryz.f98=some c98:=by kernel_rfl
def c96:SFn:=⟨17,[.t 2],.seq (.rg (.o none (.box 1 2 49 (.t 0))<|
 .o none (.mv 2 (.c (.bool false))) .nil))<| .seq (.rg (.o none (.fld 3 1 (.t 1))<|
 .o none (.ld 4 1 false (.t 3))<|
 .o none (.call (some 5) false (.c (.fn 97 [] [])) [(.t 4)])<|
 .o none (.mv 6 (.t 5))<|
 .o (some (6,true)) (.fld 7 0 (.t 1))<|
 .o (some (6,true)) (.ld 8 1 false (.t 7))<|
 .o (some (6,true)) (.mv 9 (.t 8))<|
 .o (some (9,true)) (.fld 10 1 (.t 1))<|
 .o (some (9,true)) (.ld 11 1 false (.t 10))<|
 .o (some (9,true)) (.len 12 (.t 11))<|
 .o (some (9,true)) (.bin 13 .eql false (.t 12) (.c (.int .i64 0)))<|
 .o (some (6,true)) (.pick 14 (.t 9) (.t 13) (.c (.bool false)))<|
 .o (some (6,true)) (.un 15 .not (.t 14))<|
 .o none (.pick 16 (.t 6) (.t 15) (.c (.bool false)))<|
 .o none (.mv 2 (.t 16)) .nil))<| .ret⟩
theorem Qao5:Qe Tryz.prog Tryz.f96=some c96:=by kernel_rfl
def c133:SFn:=⟨15,[.cell 4 2 true],.seq (.rg (.o none (.alloc 4 2 49 (.agg [(.bool false),.nilS])) .nil))<| .seq (.rg (.o none (.mv 5 (.t 1))<|
 .o none (.call (some 6) false (.c (.fn 130 [] [])) [(.t 5)])<|
 .o none (.mv 1 (.t 6)) .nil))<| .seq (.rg (.o none (.mv 7 (.t 0))<|
 .o none (.mv 8 (.t 7))<|
 .o (some (8,true)) (.mv 9 (.t 1))<|
 .o (some (8,true)) (.len 10 (.t 9))<|
 .o (some (8,true)) (.bin 11 .gtr false (.t 10) (.c (.int .i64 0)))<|
 .o none (.pick 12 (.t 8) (.t 11) (.c (.bool false)))<|
 .o none (.mv 13 (.t 1))<|
 .o none (.bld 14 [(.bool false),.nilS] [(0,1,(.t 12)),(1,1,(.t 13))])<|
 .o none (.st 2 (.t 4) (.t 14)) .nil))<| .ret⟩
theorem Qajz:Qe Tryz.prog Tryz.f133=some c133:=by kernel_rfl
def c132:SFn:=⟨8,[.cell 2 2 true],.seq (.rg (.o none (.box 1 2 49 (.t 0))<|
 .o none (.alloc 2 2 49 (.agg [(.bool false),.nilS])) .nil))<| .seq (.rg (.o none (.fld 3 0 (.t 1))<|
 .o none (.ld 4 1 false (.t 3))<|
 .o none (.fld 5 1 (.t 1))<|
 .o none (.ld 6 1 false (.t 5))<|
 .o none (.call (some 7) false (.c (.fn 133 [] [])) [(.t 4),(.t 6)])<|
 .o none (.st 2 (.t 2) (.t 7)) .nil))<| .ret⟩
theorem Qaj0:Qe Tryz.prog Tryz.f132=some c132:=by kernel_rfl
def c85:SFn:=⟨17,[.cell 2 2 true],.seq (.rg (.o none (.alloc 2 2 49 (.agg [(.bool false),.nilS])) .nil))<| .seq (.seq (.rg (.o none (.mv 3 (.t 0))<|
 .o none (.bin 4 .lss false (.t 3) (.c (.int .i64 0))) .nil))<| .cond (.t 4) (.seq (.rg (.o none (.mv 5 (.t 0))<|
 .o none (.bin 6 .add false (.t 5) (.c (.int .i64 1)))<|
 .o none (.un 7 .neg (.t 6))<|
 .o none (.conv 8 .u64 (.t 7))<|
 .o none (.call (some 9) false (.c (.fn 86 [] [])) [(.t 8)])<|
 .o none (.call (some 10) false (.c (.fn 86 [] [])) [(.c (.int .u64 1))])<|
 .o none (.call (some 11) false (.c (.fn 134 [] [])) [(.t 9),(.t 10)])<|
 .o none (.call (some 12) false (.c (.fn 133 [] [])) [(.c (.bool true)),(.t 11)])<|
 .o none (.st 2 (.t 2) (.t 12)) .nil))<| .ret) (.skip))<| .seq (.rg (.o none (.mv 13 (.t 0))<|
 .o none (.conv 14 .u64 (.t 13))<|
 .o none (.call (some 15) false (.c (.fn 86 [] [])) [(.t 14)])<|
 .o none (.call (some 16) false (.c (.fn 133 [] [])) [(.c (.bool false)),(.t 15)])<|
 .o none (.st 2 (.t 2) (.t 16)) .nil))<| .ret⟩
theorem Qao6:Qe Tryz.prog Tryz.f85=some c85:=by kernel_rfl
def c100:SFn:=⟨11,[.t 2],.seq (.rg (.o none (.box 1 2 49 (.t 0))<|
 .o none (.mv 2 (.c (.int .i64 0))) .nil))<| .seq (.rg (.o none (.ld 3 2 true (.t 1))<|
 .o none (.call (some 4) false (.c (.fn 132 [] [])) [(.t 3)])<|
 .o none (.st 2 (.t 1) (.t 4)) .nil))<| .seq (.seq (.rg (.o none (.fld 5 1 (.t 1))<|
 .o none (.ld 6 1 false (.t 5))<|
 .o none (.len 7 (.t 6))<|
 .o none (.bin 8 .eql false (.t 7) (.c (.int .i64 0))) .nil))<| .cond (.t 8) (.seq (.rg (.o none (.mv 2 (.c (.int .i64 0))) .nil))<| .ret) (.skip))<| .seq (.seq (.rg (.o none (.fld 9 0 (.t 1))<|
 .o none (.ld 10 1 false (.t 9)) .nil))<| .cond (.t 10) (.seq (.rg (.o none (.mv 2 (.c (.int .i64 (-1)))) .nil))<| .ret) (.skip))<| .seq (.rg (.o none (.mv 2 (.c (.int .i64 1))) .nil))<| .ret⟩
theorem Qaj1:Qe Tryz.prog Tryz.f100=some c100:=by kernel_rfl
def c147:SFn:=⟨38,[.t 4],.seq (.rg (.o none (.box 2 2 49 (.t 0))<|
 .o none (.box 3 2 49 (.t 1))<|
 .o none (.mv 4 (.c (.int .i64 0))) .nil))<| .seq (.rg (.o none (.ld 5 2 true (.t 2))<|
 .o none (.ld 7 2 true (.t 3))<|
 .o none (.call (some 6) true (.c (.fn 132 [] [])) [(.t 5)])<|
 .o none (.call (some 8) true (.c (.fn 132 [] [])) [(.t 7)])<|
 .o none (.st 2 (.t 2) (.t 6))<|
 .o none (.st 2 (.t 3) (.t 8)) .nil))<| .seq (.block 0 (.seq (.rg (.o none (.fld 10 0 (.t 2))<|
 .o none (.ld 11 1 false (.t 10))<|
 .o none (.mv 12 (.t 11))<|
 .o (some (12,true)) (.fld 13 0 (.t 3))<|
 .o (some (12,true)) (.ld 14 1 false (.t 13))<|
 .o (some (12,true)) (.un 15 .not (.t 14))<|
 .o none (.pick 16 (.t 12) (.t 15) (.c (.bool false)))<|
 .o none (.mv 9 (.t 16)) .nil))<| .cond (.t 9) (.seq (.rg (.o none (.mv 4 (.c (.int .i64 (-1)))) .nil))<| .ret) (.seq (.rg (.o none (.fld 18 0 (.t 3))<|
 .o none (.ld 19 1 false (.t 18))<|
 .o none (.mv 20 (.t 19))<|
 .o (some (20,true)) (.fld 21 0 (.t 2))<|
 .o (some (20,true)) (.ld 22 1 false (.t 21))<|
 .o (some (20,true)) (.un 23 .not (.t 22))<|
 .o none (.pick 24 (.t 20) (.t 23) (.c (.bool false)))<|
 .o none (.mv 17 (.t 24)) .nil))<| .cond (.t 17) (.seq (.rg (.o none (.mv 4 (.c (.int .i64 1))) .nil))<| .ret) (.seq (.rg (.o none (.fld 26 0 (.t 2))<|
 .o none (.ld 27 1 false (.t 26))<|
 .o none (.mv 25 (.t 27)) .nil))<| .cond (.t 25) (.seq (.rg (.o none (.fld 28 1 (.t 3))<|
 .o none (.ld 29 1 false (.t 28))<|
 .o none (.fld 30 1 (.t 2))<|
 .o none (.ld 31 1 false (.t 30))<|
 .o none (.call (some 32) false (.c (.fn 162 [] [])) [(.t 29),(.t 31)])<|
 .o none (.mv 4 (.t 32)) .nil))<| .ret) (.skip)))))<| .seq (.rg (.o none (.fld 33 1 (.t 2))<|
 .o none (.ld 34 1 false (.t 33))<|
 .o none (.fld 35 1 (.t 3))<|
 .o none (.ld 36 1 false (.t 35))<|
 .o none (.call (some 37) false (.c (.fn 162 [] [])) [(.t 34),(.t 36)])<|
 .o none (.mv 4 (.t 37)) .nil))<| .ret⟩
theorem Qaj2:Qe Tryz.prog Tryz.f147=some c147:=by kernel_rfl
def c106:SFn:=⟨48,[.cell 4 2 true],.seq (.rg (.o none (.box 2 2 49 (.t 0))<|
 .o none (.box 3 2 49 (.t 1))<|
 .o none (.alloc 4 2 49 (.agg [(.bool false),.nilS])) .nil))<| .seq (.seq (.rg (.o none (.fld 9 0 (.t 2))<|
 .o none (.ld 10 1 false (.t 9))<|
 .o none (.fld 11 0 (.t 3))<|
 .o none (.ld 12 1 false (.t 11))<|
 .o none (.bin 13 .eql true (.t 10) (.t 12)) .nil))<| .cond (.t 13) (.seq (.rg (.o none (.fld 14 0 (.t 2))<|
 .o none (.ld 15 1 false (.t 14))<|
 .o none (.fld 16 1 (.t 2))<|
 .o none (.ld 17 1 false (.t 16))<|
 .o none (.fld 18 1 (.t 3))<|
 .o none (.ld 19 1 false (.t 18))<|
 .o none (.call (some 20) true (.c (.fn 134 [] [])) [(.t 17),(.t 19)])<|
 .o none (.call (some 21) true (.c (.fn 133 [] [])) [(.t 15),(.t 20)])<|
 .o none (.st 2 (.t 4) (.t 21)) .nil))<| .ret) (.skip))<| .seq (.seq (.rg (.o none (.fld 23 1 (.t 2))<|
 .o none (.ld 24 1 false (.t 23))<|
 .o none (.fld 25 1 (.t 3))<|
 .o none (.ld 26 1 false (.t 25))<|
 .o none (.call (some 27) false (.c (.fn 145 [] [])) [(.t 24),(.t 26)])<|
 .o none (.mv 22 (.t 27))<|
 .o none (.ext 28 (.t 22) 0)<|
 .o none (.ext 29 (.t 22) 1)<|
 .o none (.mv 5 (.t 28))<|
 .o none (.mv 6 (.t 29)) .nil))<| .seq (.rg (.o none (.mv 30 (.t 6))<|
 .o none (.bin 31 .eql false (.t 30) (.c (.int .i64 0))) .nil))<| .cond (.t 31) (.seq (.rg (.o none (.fld 32 0 (.t 2))<|
 .o none (.ld 33 1 false (.t 32))<|
 .o none (.mv 34 (.t 5))<|
 .o none (.call (some 35) false (.c (.fn 133 [] [])) [(.t 33),(.t 34)])<|
 .o none (.st 2 (.t 4) (.t 35)) .nil))<| .ret) (.skip))<| .seq (.rg (.o none (.fld 37 1 (.t 3))<|
 .o none (.ld 38 1 false (.t 37))<|
 .o none (.fld 39 1 (.t 2))<|
 .o none (.ld 40 1 false (.t 39))<|
 .o none (.call (some 41) false (.c (.fn 145 [] [])) [(.t 38),(.t 40)])<|
 .o none (.mv 36 (.t 41))<|
 .o none (.ext 42 (.t 36) 0)<|
 .o none (.ext 43 (.t 36) 1)<|
 .o none (.mv 7 (.t 42))<|
 .o none (.mv 8 (.t 43)) .nil))<| .seq (.rg (.o none (.fld 44 0 (.t 3))<|
 .o none (.ld 45 1 false (.t 44))<|
 .o none (.mv 46 (.t 7))<|
 .o none (.call (some 47) false (.c (.fn 133 [] [])) [(.t 45),(.t 46)])<|
 .o none (.st 2 (.t 4) (.t 47)) .nil))<| .ret⟩
theorem Qaj3:Qe Tryz.prog Tryz.f106=some c106:=by kernel_rfl
def c107:SFn:=⟨16,[.cell 4 2 true],.seq (.rg (.o none (.box 2 2 49 (.t 0))<|
 .o none (.box 3 2 49 (.t 1))<|
 .o none (.alloc 4 2 49 (.agg [(.bool false),.nilS])) .nil))<| .seq (.rg (.o none (.fld 5 0 (.t 2))<|
 .o none (.ld 6 1 false (.t 5))<|
 .o none (.fld 7 0 (.t 3))<|
 .o none (.ld 8 1 false (.t 7))<|
 .o none (.bin 9 .neq true (.t 6) (.t 8))<|
 .o none (.fld 10 1 (.t 2))<|
 .o none (.ld 11 1 false (.t 10))<|
 .o none (.fld 12 1 (.t 3))<|
 .o none (.ld 13 1 false (.t 12))<|
 .o none (.call (some 14) true (.c (.fn 109 [] [])) [(.t 11),(.t 13)])<|
 .o none (.call (some 15) true (.c (.fn 133 [] [])) [(.t 9),(.t 14)])<|
 .o none (.st 2 (.t 4) (.t 15)) .nil))<| .ret⟩
theorem Qaj4:Qe Tryz.prog Tryz.f107=some c107:=by kernel_rfl
def c53:SFn:=⟨27,[.t 2],.seq (.rg (.o none (.box 1 3 51 (.t 0))<|
 .o none (.mv 2 (.c (.bool false))) .nil))<| .seq (.rg (.o none (.fld 3 0 (.t 1))<|
 .o none (.ld 4 2 true (.t 3))<|
 .o none (.call (some 5) false (.c (.fn 96 [] [])) [(.t 4)])<|
 .o none (.mv 6 (.t 5))<|
 .o (some (6,true)) (.fld 7 2 (.t 1))<|
 .o (some (6,true)) (.ld 8 1 false (.t 7))<|
 .o (some (6,true)) (.call (some 9) false (.c (.fn 97 [] [])) [(.t 8)])<|
 .o none (.pick 10 (.t 6) (.t 9) (.c (.bool false)))<|
 .o none (.mv 11 (.t 10))<|
 .o (some (11,true)) (.fld 12 0 (.t 1))<|
 .o (some (11,true)) (.fld 13 1 (.t 12))<|
 .o (some (11,true)) (.ld 14 1 false (.t 13))<|
 .o (some (11,true)) (.fld 15 2 (.t 1))<|
 .o (some (11,true)) (.ld 16 1 false (.t 15))<|
 .o (some (11,true)) (.call (some 17) false (.c (.fn 99 [] [])) [(.t 14),(.t 16)])<|
 .o (some (11,true)) (.call (some 18) false (.c (.fn 86 [] [])) [(.c (.int .u64 1))])<|
 .o (some (11,true)) (.call (some 19) false (.c (.fn 98 [] [])) [(.t 17),(.t 18)])<|
 .o none (.pick 20 (.t 11) (.t 19) (.c (.bool false)))<|
 .o none (.mv 21 (.t 20))<|
 .o (some (21,true)) (.fld 22 2 (.t 1))<|
 .o (some (21,true)) (.ld 23 1 false (.t 22))<|
 .o (some (21,true)) (.len 24 (.t 23))<|
 .o (some (21,true)) (.bin 25 .gtr false (.t 24) (.c (.int .i64 0)))<|
 .o none (.pick 26 (.t 21) (.t 25) (.c (.bool false)))<|
 .o none (.mv 2 (.t 26)) .nil))<| .ret⟩
theorem Qao7:Qe Tryz.prog Tryz.f53=some c53:=by kernel_rfl
def c84:SFn:=⟨44,[.cell 4 3 true],.seq (.rg (.o none (.box 2 2 49 (.t 0))<|
 .o none (.alloc 4 3 51 (.agg [(.bool false),.nilS,.nilS])) .nil))<| .seq (.seq (.rg (.o none (.mv 12 (.t 1))<|
 .o none (.call (some 13) false (.c (.fn 130 [] [])) [(.t 12)])<|
 .o none (.len 14 (.t 13))<|
 .o none (.bin 15 .eql false (.t 14) (.c (.int .i64 0))) .nil))<| .cond (.t 15) (.seq (.rg (.o none (.call (some 16) false (.c (.fn 86 [] [])) [(.c (.int .u64 1))])<|
 .o none (.bld 17 [(.bool false),.nilS,.nilS] [(2,1,(.t 16))])<|
 .o none (.st 3 (.t 4) (.t 17)) .nil))<| .ret) (.skip))<| .seq (.rg (.o none (.fld 18 1 (.t 2))<|
 .o none (.ld 19 1 false (.t 18))<|
 .o none (.mv 20 (.t 1))<|
 .o none (.call (some 21) false (.c (.fn 99 [] [])) [(.t 19),(.t 20)])<|
 .o none (.mv 5 (.t 21)) .nil))<| .seq (.rg (.o none (.fld 23 1 (.t 2))<|
 .o none (.ld 24 1 false (.t 23))<|
 .o none (.mv 25 (.t 5))<|
 .o none (.call (some 26) false (.c (.fn 131 [] [])) [(.t 24),(.t 25)])<|
 .o none (.mv 22 (.t 26))<|
 .o none (.ext 27 (.t 22) 0)<|
 .o none (.ext 28 (.t 22) 1)<|
 .o none (.ext 29 (.t 22) 2)<|
 .o none (.mv 6 (.t 27))<|
 .o none (.mv 7 (.t 28))<|
 .o none (.mv 8 (.t 29)) .nil))<| .seq (.rg (.o none (.mv 31 (.t 1))<|
 .o none (.mv 32 (.t 5))<|
 .o none (.call (some 33) false (.c (.fn 131 [] [])) [(.t 31),(.t 32)])<|
 .o none (.mv 30 (.t 33))<|
 .o none (.ext 34 (.t 30) 0)<|
 .o none (.ext 35 (.t 30) 1)<|
 .o none (.ext 36 (.t 30) 2)<|
 .o none (.mv 9 (.t 34))<|
 .o none (.mv 10 (.t 35))<|
 .o none (.mv 11 (.t 36)) .nil))<| .seq (.rg (.o none (.fld 37 0 (.t 2))<|
 .o none (.ld 38 1 false (.t 37))<|
 .o none (.mv 39 (.t 6))<|
 .o none (.bld 40 [(.bool false),.nilS] [(0,1,(.t 38)),(1,1,(.t 39))])<|
 .o none (.call (some 41) false (.c (.fn 132 [] [])) [(.t 40)])<|
 .o none (.mv 42 (.t 9))<|
 .o none (.bld 43 [(.bool false),.nilS,.nilS] [(0,2,(.t 41)),(2,1,(.t 42))])<|
 .o none (.st 3 (.t 4) (.t 43)) .nil))<| .ret⟩
theorem Qao8:Qe Tryz.prog Tryz.f84=some c84:=by kernel_rfl
def c101:SFn:=⟨8,[.cell 2 3 true],.seq (.rg (.o none (.box 1 3 51 (.t 0))<|
 .o none (.alloc 2 3 51 (.agg [(.bool false),.nilS,.nilS])) .nil))<| .seq (.rg (.o none (.fld 3 0 (.t 1))<|
 .o none (.ld 4 2 true (.t 3))<|
 .o none (.fld 5 2 (.t 1))<|
 .o none (.ld 6 1 false (.t 5))<|
 .o none (.call (some 7) false (.c (.fn 84 [] [])) [(.t 4),(.t 6)])<|
 .o none (.st 3 (.t 2) (.t 7)) .nil))<| .ret⟩
theorem Qaj5:Qe Tryz.prog Tryz.f101=some c101:=by kernel_rfl
def c44:SFn:=⟨7,[.cell 2 3 true],.seq (.rg (.o none (.alloc 2 3 51 (.agg [(.bool false),.nilS,.nilS])) .nil))<| .seq (.rg (.o none (.mv 3 (.t 0))<|
 .o none (.call (some 4) false (.c (.fn 85 [] [])) [(.t 3)])<|
 .o none (.call (some 5) false (.c (.fn 86 [] [])) [(.c (.int .u64 1))])<|
 .o none (.call (some 6) false (.c (.fn 84 [] [])) [(.t 4),(.t 5)])<|
 .o none (.st 3 (.t 2) (.t 6)) .nil))<| .ret⟩
theorem Qao9:Qe Tryz.prog Tryz.f44=some c44:=by kernel_rfl
def c108:SFn:=⟨5,[.cell 2 2 true],.seq (.rg (.o none (.alloc 2 2 49 (.agg [(.bool false),.nilS])) .nil))<| .seq (.rg (.o none (.mv 3 (.t 0))<|
 .o none (.bld 4 [(.bool false),.nilS] [(1,1,(.t 3))])<|
 .o none (.st 2 (.t 2) (.t 4)) .nil))<| .ret⟩
theorem Qaj6:Qe Tryz.prog Tryz.f108=some c108:=by kernel_rfl
def c54:SFn:=⟨7,[.t 2],.seq (.rg (.o none (.box 1 3 51 (.t 0))<|
 .o none (.mv 2 (.c (.int .i64 0))) .nil))<| .seq (.rg (.o none (.ld 3 3 true (.t 1))<|
 .o none (.call (some 4) false (.c (.fn 101 [] [])) [(.t 3)])<|
 .o none (.fldv 5 0 2 true (.t 4))<|
 .o none (.call (some 6) false (.c (.fn 100 [] [])) [(.t 5)])<|
 .o none (.mv 2 (.t 6)) .nil))<| .ret⟩
theorem Qapa:Qe Tryz.prog Tryz.f54=some c54:=by kernel_rfl
def c114:SFn:=⟨22,[.t 4],.seq (.rg (.o none (.box 2 3 51 (.t 0))<|
 .o none (.box 3 3 51 (.t 1))<|
 .o none (.mv 4 (.c (.int .i64 0))) .nil))<| .seq (.rg (.o none (.ld 5 3 true (.t 2))<|
 .o none (.ld 7 3 true (.t 3))<|
 .o none (.call (some 6) true (.c (.fn 101 [] [])) [(.t 5)])<|
 .o none (.call (some 8) true (.c (.fn 101 [] [])) [(.t 7)])<|
 .o none (.st 3 (.t 2) (.t 6))<|
 .o none (.st 3 (.t 3) (.t 8)) .nil))<| .seq (.rg (.o none (.fld 9 0 (.t 2))<|
 .o none (.ld 10 2 true (.t 9))<|
 .o none (.fld 11 2 (.t 3))<|
 .o none (.ld 12 1 false (.t 11))<|
 .o none (.fld 15 0 (.t 3))<|
 .o none (.ld 16 2 true (.t 15))<|
 .o none (.fld 17 2 (.t 2))<|
 .o none (.ld 18 1 false (.t 17))<|
 .o none (.call (some 13) true (.c (.fn 108 [] [])) [(.t 12)])<|
 .o none (.call (some 14) true (.c (.fn 107 [] [])) [(.t 10),(.t 13)])<|
 .o none (.call (some 19) true (.c (.fn 108 [] [])) [(.t 18)])<|
 .o none (.call (some 20) true (.c (.fn 107 [] [])) [(.t 16),(.t 19)])<|
 .o none (.call (some 21) true (.c (.fn 147 [] [])) [(.t 14),(.t 20)])<|
 .o none (.mv 4 (.t 21)) .nil))<| .ret⟩
theorem Qaj7:Qe Tryz.prog Tryz.f114=some c114:=by kernel_rfl
def c63:SFn:=⟨28,[.cell 4 3 true],.seq (.rg (.o none (.box 2 3 51 (.t 0))<|
 .o none (.box 3 3 51 (.t 1))<|
 .o none (.alloc 4 3 51 (.agg [(.bool false),.nilS,.nilS])) .nil))<| .seq (.rg (.o none (.ld 5 3 true (.t 2))<|
 .o none (.ld 7 3 true (.t 3))<|
 .o none (.call (some 6) true (.c (.fn 101 [] [])) [(.t 5)])<|
 .o none (.call (some 8) true (.c (.fn 101 [] [])) [(.t 7)])<|
 .o none (.st 3 (.t 2) (.t 6))<|
 .o none (.st 3 (.t 3) (.t 8)) .nil))<| .seq (.rg (.o none (.fld 9 0 (.t 2))<|
 .o none (.ld 10 2 true (.t 9))<|
 .o none (.fld 11 2 (.t 3))<|
 .o none (.ld 12 1 false (.t 11))<|
 .o none (.fld 15 0 (.t 3))<|
 .o none (.ld 16 2 true (.t 15))<|
 .o none (.fld 17 2 (.t 2))<|
 .o none (.ld 18 1 false (.t 17))<|
 .o none (.fld 22 2 (.t 2))<|
 .o none (.ld 23 1 false (.t 22))<|
 .o none (.fld 24 2 (.t 3))<|
 .o none (.ld 25 1 false (.t 24))<|
 .o none (.call (some 13) true (.c (.fn 108 [] [])) [(.t 12)])<|
 .o none (.call (some 14) true (.c (.fn 107 [] [])) [(.t 10),(.t 13)])<|
 .o none (.call (some 19) true (.c (.fn 108 [] [])) [(.t 18)])<|
 .o none (.call (some 20) true (.c (.fn 107 [] [])) [(.t 16),(.t 19)])<|
 .o none (.call (some 21) true (.c (.fn 106 [] [])) [(.t 14),(.t 20)])<|
 .o none (.call (some 26) true (.c (.fn 109 [] [])) [(.t 23),(.t 25)])<|
 .o none (.call (some 27) true (.c (.fn 84 [] [])) [(.t 21),(.t 26)])<|
 .o none (.st 3 (.t 4) (.t 27)) .nil))<| .ret⟩
theorem Qapb:Qe Tryz.prog Tryz.f63=some c63:=by kernel_rfl
def c110:SFn:=⟨16,[.cell 4 3 true],.seq (.rg (.o none (.box 2 3 51 (.t 0))<|
 .o none (.box 3 3 51 (.t 1))<|
 .o none (.alloc 4 3 51 (.agg [(.bool false),.nilS,.nilS])) .nil))<| .seq (.rg (.o none (.fld 5 0 (.t 2))<|
 .o none (.ld 6 2 true (.t 5))<|
 .o none (.fld 7 0 (.t 3))<|
 .o none (.ld 8 2 true (.t 7))<|
 .o none (.fld 10 2 (.t 2))<|
 .o none (.ld 11 1 false (.t 10))<|
 .o none (.fld 12 2 (.t 3))<|
 .o none (.ld 13 1 false (.t 12))<|
 .o none (.call (some 9) true (.c (.fn 107 [] [])) [(.t 6),(.t 8)])<|
 .o none (.call (some 14) true (.c (.fn 109 [] [])) [(.t 11),(.t 13)])<|
 .o none (.call (some 15) true (.c (.fn 84 [] [])) [(.t 9),(.t 14)])<|
 .o none (.st 3 (.t 4) (.t 15)) .nil))<| .ret⟩
theorem Qaj8:Qe Tryz.prog Tryz.f110=some c110:=by kernel_rfl
theorem Qb6{l:List Nat}(hv:Ql l)(hl:l.length<2^42):Qd Tryz.prog 130 [PV.nat l] (· =PV.num (val l)):=by
 have hcut:=Qnx hv;refine Qf Qj Tryz.func130 rfl Qajq (by simp[c130]) fun C hP=>?_;simp only[c130];refine Sz0 ?_;refine Qy (by repeat (first|exact Qu|exact Qn|exact Qo|exact Qk|exact Qp|apply Qm|apply Qt|apply Qw|apply Q5|apply Q6|apply Qi|apply Qz)) [(3,3),(7,18)] [] (fun m J hp=>m<=l.length/\cut l m=dig (val l)/\J 3= .int .i64 m/\hp=hp0) l.length ?_ ?_
 ·refine⟨Nat.le_refl _,hcut,?_⟩;exact Tz0
 rintro n J _ ⟨hn,hc,h3,rfl⟩;refine Sz1 h3 ?_;refine Qat (fun hg=>?_) (fun hg=>?_)
 ·obtain _|n:=n
  ·omega
  have e:((n+1:Nat):Int)-1=n:=by omega
  simp only[cut]at hc;simp+decide (disch:=first|omega|rfl|(simp+decide only[go_sem,↓reduceIte,h3,e]<;>rfl)|fail) only[go_sem,↓reduceIte,h3,e];refine Qb (fun hz=>?_) (fun hz=>?_)
  ·rw[if_pos (by grind)]at hc;refine Sz2 h3 e ?_;refine Qh n (by omega) ⟨by omega,hc,?_⟩;exact Tz0
  ·rw[if_neg (by grind)]at hc;have hlt:(l.take (n+1)).length<2^42:=by rw[List.length_take];omega
   refine Vz2 h3 e ?_;exact Qc (by rw[List.take_of_length_le (by simp),hc]) rfl
 ·obtain rfl:n=0:=by omega
  simp+decide (disch:=first|omega|rfl|(simp+decide only[go_sem,↓reduceIte,h3,List.take_zero,List.map_nil,List.length_nil]<;>rfl)|fail) only[go_sem,↓reduceIte,h3,List.take_zero,List.map_nil,List.length_nil];rw[Qk8 (ys:=[]) rfl (by omega) (by simp) (by simp)];refine Vz0 ?_;exact Qc (by show _=PV.nat (dig (val l));rw[<-hc];rfl) rfl
theorem Qdp{n:Nat}(hn:n<18446744073709551616):Qd Tryz.prog 86 [.int .u64 n] (· =PV.num n):=by
 have hlen:=Qf8 hn;unfold nl at hlen;refine Qf Qj Tryz.func86 rfl Qao1 (by simp[c86]) fun C hP=>?_;simp only[c86];refine Sz0 ?_;refine Qes 3 900 1 115 (by omega) Tz0 ?_;refine Qy (by repeat (first|exact Qu|exact Qn|exact Qo|exact Qk|exact Qp|apply Qm|apply Qt|apply Qw|apply Q5|apply Q6|apply Qi|apply Qz)) [(0,0),(3,13)] [10,11,900] (fun m J hp=>∃done:List Nat,dig n=done++dig m/\m<=n/\J 0= .int .u64 m/\J 3= .ms 900 done.length/\hp 900=some ⟨1,115,Qba done,false⟩) n ?_ ?_
 ·refine⟨[],rfl,Nat.le_refl _,?_⟩;exact Tz0
 rintro m J hp ⟨done,hd,hm,h0,h3,hh⟩;rw[hd,List.length_append]at hlen;refine Sz2 h0 h3 ?_;refine Qb (fun hz=>?_) (fun hz=>?_)
 ·have hne:m≠0:=by omega
  have hd2:dig n=(done++[m%65536])++dig (m/65536):=by rw[hd,Qif hne];simp
  refine Sz3 h0 h3 @Nat.mod_mod ?_;rw[Qag (f:=fun(x:Nat)=>.int .u16 x) (y:=m%65536) (xs:=done) (ty':=115) (fz:=false) (Tz1 hh) Qcv (by omega) rfl (by omega) (by omega)];refine Sz2 h0 h3 ?_;refine Qh (m/65536) (by omega) ⟨done++[m%65536],hd2,by omega,?_⟩;refine Sz2 h0 h3 ?_;simp
 ·obtain rfl:m=0:=by omega
  rw[Qa7,List.append_nil]at hd;refine Vz2 h3 hh ?_;exact Qc (by show _=PV.nat (dig n);rw[hd,List.take_of_length_le (by simp)]) rfl
theorem Qbz{a:List Nat}{i:Nat}(ha:Ql a)(hl:a.length<2^43):Qd Tryz.prog 146 [PV.nat a,.int .i64 i] (· = .int .i64 (dg a i:Nat)):=by
 refine Qf Qj Tryz.func146 rfl Qajs (by simp[c146]) fun C hP=>?_;simp only[c146];refine Sz0 ?_;refine Qb (fun hi=>?_) (fun hi=>?_)
 ·have hi':i<a.length:=by omega
  have hai:=Qas ha hi';have hg:dg a i=a[i]:=Qbu hi';refine Sz0 ?_;exact Qc (by rw[hg]) rfl
 ·refine Sz0 ?_;exact Qc (by rw[dg,Qbv (by omega)];rfl) rfl
theorem Qh1{a:List Nat}(ha:Ql a)(hl:a.length<=4):Qd Tryz.prog 154 [PV.nat a] (· = .int .u64 (val a:Nat)):=by
 have hlt:∀k,val (a.drop k)<18446744073709551616:=fun k=>by have h1:=Qgj (Qit ha k);have:65536^(a.drop k).length<=65536^4:=Nat.pow_le_pow_right (by omega) (by rw[List.length_drop];omega);omega
 refine Qf Qj Tryz.func154 rfl Qajr (by simp[c154]) fun C hP=>?_;simp only[c154];refine Sz0 ?_;refine Qy (by repeat (first|exact Qu|exact Qn|exact Qo|exact Qk|exact Qp|apply Qm|apply Qt|apply Qw|apply Q5|apply Q6|apply Qi|apply Qz)) [(3,4),(8,19)] [] (fun k J hp=>k<=a.length/\J 3= .int .u64 (val (a.drop k):Nat)/\J 4= .int .i64 ((k:Int)-1)) a.length ?_ ?_
 ·refine⟨Nat.le_refl _,?_⟩;refine Sz0 ?_;simp[val]
 rintro k J h ⟨hk,h3,h4⟩;refine Sz2 h3 h4 ?_;refine Qb (fun hg=>?_) (fun hg=>?_)
 ·obtain _|n:=k
  ·omega
  have hn:n<a.length:=by omega
  have han:=Qas ha hn;have e:((n+1:Nat):Int)-1=n:=by omega
  have hv:=Qda hn;have h1:=hlt n;generalize hxx:a[n]=x at *
  have e2:val (a.drop (n+1))*65536+x=val (a.drop n):=by omega
  refine Sz5 h3 h4 e hxx e2 ?_;refine Qh n (by omega) ⟨by omega,?_⟩;exact Tz0
 ·obtain rfl:k=0:=by omega
  simp+decide (disch:=first|omega|rfl|(simp+decide only[go_sem,↓reduceIte,h3,List.drop_zero]<;>rfl)|fail) only[go_sem,↓reduceIte,h3,List.drop_zero];exact Qc rfl rfl
theorem Qj5{a b:List Nat}(ha:Ql a)(hb:Ql b)(hla:a.length<2^42)(hlb:b.length<2^42):Qd Tryz.prog 162 [PV.nat a,PV.nat b] (· = .int .i64 (Qel (val a) (val b))):=by
 refine Qf Qj Tryz.func162 rfl Qajt (by simp[c162]) fun C hP=>?_;simp only[c162];refine Sz1 @Q30 ?_;refine Qy (by repeat (first|exact Qu|exact Qn|exact Qo|exact Qk|exact Qp|apply Qm|apply Qt|apply Qw|apply Q5|apply Q6|apply Qi|apply Qz)) [(4,5),(12,29)] [] (fun k J hp=>k<=max a.length b.length/\val (a.drop k)=val (b.drop k)/\J 5= .int .i64 ((k:Int)-1)) (max a.length b.length) ?_ ?_
 ·refine⟨Nat.le_refl _,?_,?_⟩
  ·rw[List.drop_of_length_le (by omega),List.drop_of_length_le (by omega)]
  ·exact Tz0
 rintro k J h ⟨hk,hv,h5⟩;refine Sz1 h5 ?_;refine Qb (fun hg=>?_) (fun hg=>?_)
 ·obtain _|n:=k
  ·omega
  have e:((n+1:Nat):Int)-1=n:=by omega
  have e1:=Qii a n;have e2:=Qii b n;have d1:=Qo3 ha n;have d2:=Qo3 hb n;refine Sz2 h5 e ?_;refine Qa hP (Qbz ha (by omega)) rfl rfl rfl ?_;refine Sz2 h5 e ?_;refine Qa hP (Qbz hb (by omega)) rfl rfl rfl ?_;refine Sz2 h5 e ?_;refine Qb (fun hc=>?_) (fun hc=>?_)
  ·have hlt:=Qsp (a:=a) (b:=b) ha (i:=n) (by omega);refine Sz0 ?_;exact Qc (by rw[Qwq hlt]) rfl
  refine Sz2 h5 e ?_;refine Qa hP (Qbz ha (by omega)) rfl rfl rfl ?_;refine Sz2 h5 e ?_;refine Qa hP (Qbz hb (by omega)) rfl rfl rfl ?_;refine Sz2 h5 e ?_;refine Qb (fun hc2=>?_) (fun hc2=>?_)
  ·have hlt:=Qsp (a:=b) (b:=a) hb (i:=n) (by omega);refine Sz0 ?_;exact Qc (by rw[Qwr hlt]) rfl
  ·refine Sz2 h5 e ?_;refine Qh n (by omega) ⟨by omega,by omega,?_⟩;exact Tz0
 ·obtain rfl:k=0:=by omega
  refine Sz0 ?_;exact Qc (by rw[Q3n (by simpa using hv)]) rfl
theorem Qp0{a:List Nat}(ha:Ql a)(hl:a.length<2^43):Qd Tryz.prog 97 [PV.nat a] (· = .bool (decide (a.getLast? ≠some 0))):=by
 refine Qf Qj Tryz.func97 rfl Qao3 (by simp[c97]) fun C hP=>?_;simp only[c97];refine Sz0 ?_;refine Qab (fun h0=>?_) (fun h0=>?_)
 ·have:a=[]:=List.length_eq_zero_iff.1 (by omega);subst this;refine Sz0 ?_;exact Qc (by simp) rfl
 ·obtain⟨k,hk⟩:∃k,a.length=k+1:=⟨a.length-1,by omega⟩
  have hlast:=Qoy hk;have e:((k+1:Nat):Int)-1=k:=by omega
  generalize hy:a[k]'(by omega)=y at *
  refine Sz3 hk e hy ?_;refine Qc (congrArg PV.bool ?_) rfl;rw[hlast];exact decide_eq_decide.2 ⟨fun h h'=>h (by injection h' with h';rw[h'];rfl),fun h h'=>h (by rw[show y=0 by omega])⟩
theorem Q1r{a b:List Nat}(hla:a.length<2^43)(hlb:b.length<2^43):Qd Tryz.prog 98 [PV.nat a,PV.nat b] (· = .bool (decide (a=b))):=by
 refine Qf Qj Tryz.func98 rfl Qao4 (by simp[c98]) fun C hP=>?_;simp only[c98];refine Sz0 ?_;refine Qb (fun h0=>?_) (fun h0=>?_)
 ·refine Sz0 ?_;exact Qc (congrArg PV.bool (by rw[decide_eq_false];rintro rfl;exact h0 rfl)) rfl
 have hlen:a.length=b.length:=by omega
 refine Sz0 ?_;refine Qy (by repeat (first|exact Qu|exact Qn|exact Qo|exact Qk|exact Qp|apply Qm|apply Qt|apply Qw|apply Q5|apply Q6|apply Qi|apply Qz)) [(4,5),(11,25)] [] (fun n J hp=>∃i,n=a.length-i/\i<=a.length/\a.take i=b.take i/\J 5= .int .i64 (i:Nat)) a.length ?_ ?_
 ·refine⟨0,rfl,by omega,by simp,?_⟩;refine Sz0 ?_;rfl
 rintro _ J h ⟨i,rfl,hi,he,h5⟩;refine Sz1 h5 ?_;refine Qb (fun hg=>?_) (fun hg=>?_)
 ·have hi':i<a.length:=by omega
  have hib:i<b.length:=by omega
  have ta:=List.take_succ_eq_append_getElem hi';have tb:=List.take_succ_eq_append_getElem hib;have hne:a=b->a[i]=b[i]:=fun h=>by subst h;rfl
  generalize hx:a[i]=x at *
  generalize hy:b[i]=y at *
  refine Sz3 h5 hx hy ?_;refine Qb (fun hc=>?_) (fun hc=>?_)
  ·refine Sz0 ?_;exact Qc (congrArg PV.bool (by rw[decide_eq_false];intro h;exact hc (by rw[hne h]))) rfl
  ·refine Sz1 h5 ?_;refine Qh (a.length-(i+1)) (by omega) ⟨i+1,rfl,by omega,by rw[ta,tb,he,show x=y by omega],?_⟩;exact Tz0
 ·obtain rfl:i=a.length:=by omega
  rw[List.take_length,hlen,List.take_length]at he;refine Sz0 ?_;exact Qc (congrArg PV.bool (by rw[he];simp)) rfl
theorem Qsv{a b:List Nat}(ha:Ql a)(hb:Ql b)(hla:a.length<2^40)(hlb:b.length<2^40):Qd Tryz.prog 134 [PV.nat a,PV.nat b] (· =PV.num (val a+val b)):=by
 refine Qf Qj Tryz.func134 rfl Qaju (by simp[c134]) fun C hP=>?_;simp only[c134];refine Sz0 ?_;refine Qes 5 900 1 115 (by omega) Tz0 ?_;refine Qy (by repeat (first|exact Qu|exact Qn|exact Qo|exact Qk|exact Qp|apply Qm|apply Qt|apply Qw|apply Q5|apply Q6|apply Qi|apply Qz)) [(5,41)] [38,39,900] (fun m J hp=>∃(i c:Nat)(out:List Nat),m=2*(max a.length b.length-i)+c/\c<=1/\i<=max a.length b.length+1/\(i<=max a.length b.length∨c=0)/\out.length=i/\Ql out/\val out+65536^i*(c+val (a.drop i)+val (b.drop i))=val a+val b/\J 5= .ms 900 out.length/\J 6= .int .i64 c/\J 7= .int .i64 i/\hp 900=some ⟨1,115,Qba out,false⟩) (2*max a.length b.length) ?_ ?_
 ·refine⟨0,0,[],rfl,by omega,by omega,by omega,rfl,Qdc,by simp[val],?_⟩;refine Sz0 ?_;simp
 rintro _ J h ⟨i,c,out,rfl,hc,hi,hi2,hol,hout,hv,h5,h6,h7,hh⟩;have e1:=Qii a i;have e2:=Qii b i;have d1:=Qo3 ha i;have d2:=Qo3 hb i;refine Sz3 h5 h6 h7 ?_;refine Qab (fun hg=>?_) (fun hg=>?_)
 ·have hlt:i<max a.length b.length:=by omega
  have hs1:(dg a i+dg b i+c)/65536<=1:=by omega
  have hstep:val (out++[(dg a i+dg b i+c)%65536])+65536^(i+1)*((dg a i+dg b i+c)/65536+val (a.drop (i+1))+val (b.drop (i+1)))=val a+val b:=by
   rw[Qo5,hol,Nat.pow_succ,<-hv,e1,e2];have:=Nat.div_add_mod (dg a i+dg b i+c) 65536;generalize 65536^i=P at *
   generalize(dg a i+dg b i+c)/65536=q at *
   generalize(dg a i+dg b i+c)%65536=r at *
   have e:c+(dg a i+65536*val (a.drop (i+1)))+(dg b i+65536*val (b.drop (i+1)))=r+65536*(q+val (a.drop (i+1))+val (b.drop (i+1))):=by omega
   rw[e,Nat.mul_add P,Nat.mul_assoc];omega
  refine Sz3 h5 h6 h7 ?_;refine Qa hP (Qbz ha (by omega)) rfl rfl rfl ?_;refine Sz3 h5 h6 h7 ?_;refine Qa hP (Qbz hb (by omega)) rfl rfl rfl ?_;refine Sz4 h5 h6 h7 @Nat.mod_mod ?_;rw[Qag (f:=fun(x:Nat)=>.int .u16 x) (y:=(dg a i+dg b i+c)%65536) (xs:=out) (ty':=115) (fz:=false) (Tz1 hh) Qcv (by omega) rfl (by omega) (by omega)];refine Sz3 h5 h6 h7 ?_;refine Qh (2*(max a.length b.length-(i+1))+(dg a i+dg b i+c)/65536) ?_ ⟨i+1,(dg a i+dg b i+c)/65536,out++[(dg a i+dg b i+c)%65536],rfl,hs1,by omega,?_,by simp[hol],?_,hstep,?_⟩
  ·by_cases hlt:i<max a.length b.length
   ·omega
   ·have z1:dg a i=0:=by rw[dg,Qbv (by omega)]
    have z2:dg b i=0:=by rw[dg,Qbv (by omega)]
    rw[z1,z2];omega
  ·by_cases hlt:i<max a.length b.length
   ·omega
   ·have z1:dg a i=0:=by rw[dg,Qbv (by omega)]
    have z2:dg b i=0:=by rw[dg,Qbv (by omega)]
    rw[z1,z2];omega
  ·rw[Qb5];exact⟨hout,by intro z hz;simp at hz;omega⟩
  ·refine Sz0 ?_;simp
 refine Sz3 h5 h6 h7 ?_;refine Qab (fun hg2=>?_) (fun hg2=>?_)
 ·have hlt:i<max a.length b.length:=by omega
  have hs1:(dg a i+dg b i+c)/65536<=1:=by omega
  have hstep:val (out++[(dg a i+dg b i+c)%65536])+65536^(i+1)*((dg a i+dg b i+c)/65536+val (a.drop (i+1))+val (b.drop (i+1)))=val a+val b:=by
   rw[Qo5,hol,Nat.pow_succ,<-hv,e1,e2];have:=Nat.div_add_mod (dg a i+dg b i+c) 65536;generalize 65536^i=P at *
   generalize(dg a i+dg b i+c)/65536=q at *
   generalize(dg a i+dg b i+c)%65536=r at *
   have e:c+(dg a i+65536*val (a.drop (i+1)))+(dg b i+65536*val (b.drop (i+1)))=r+65536*(q+val (a.drop (i+1))+val (b.drop (i+1))):=by omega
   rw[e,Nat.mul_add P,Nat.mul_assoc];omega
  refine Sz3 h5 h6 h7 ?_;refine Qa hP (Qbz ha (by omega)) rfl rfl rfl ?_;refine Sz3 h5 h6 h7 ?_;refine Qa hP (Qbz hb (by omega)) rfl rfl rfl ?_;refine Sz4 h5 h6 h7 @Nat.mod_mod ?_;rw[Qag (f:=fun(x:Nat)=>.int .u16 x) (y:=(dg a i+dg b i+c)%65536) (xs:=out) (ty':=115) (fz:=false) (Tz1 hh) Qcv (by omega) rfl (by omega) (by omega)];refine Sz3 h5 h6 h7 ?_;refine Qh (2*(max a.length b.length-(i+1))+(dg a i+dg b i+c)/65536) ?_ ⟨i+1,(dg a i+dg b i+c)/65536,out++[(dg a i+dg b i+c)%65536],rfl,hs1,by omega,?_,by simp[hol],?_,hstep,?_⟩
  ·by_cases hlt:i<max a.length b.length
   ·omega
   ·have z1:dg a i=0:=by rw[dg,Qbv (by omega)]
    have z2:dg b i=0:=by rw[dg,Qbv (by omega)]
    rw[z1,z2];omega
  ·by_cases hlt:i<max a.length b.length
   ·omega
   ·have z1:dg a i=0:=by rw[dg,Qbv (by omega)]
    have z2:dg b i=0:=by rw[dg,Qbv (by omega)]
    rw[z1,z2];omega
  ·rw[Qb5];exact⟨hout,by intro z hz;simp at hz;omega⟩
  ·refine Sz0 ?_;simp
 refine Sz3 h5 h6 h7 ?_;refine Qb (fun hg3=>?_) (fun hg3=>?_)
 ·have hib:i<=max a.length b.length:=by omega
  have hs1:(dg a i+dg b i+c)/65536<=1:=by omega
  have hstep:val (out++[(dg a i+dg b i+c)%65536])+65536^(i+1)*((dg a i+dg b i+c)/65536+val (a.drop (i+1))+val (b.drop (i+1)))=val a+val b:=by
   rw[Qo5,hol,Nat.pow_succ,<-hv,e1,e2];have:=Nat.div_add_mod (dg a i+dg b i+c) 65536;generalize 65536^i=P at *
   generalize(dg a i+dg b i+c)/65536=q at *
   generalize(dg a i+dg b i+c)%65536=r at *
   have e:c+(dg a i+65536*val (a.drop (i+1)))+(dg b i+65536*val (b.drop (i+1)))=r+65536*(q+val (a.drop (i+1))+val (b.drop (i+1))):=by omega
   rw[e,Nat.mul_add P,Nat.mul_assoc];omega
  refine Sz3 h5 h6 h7 ?_;refine Qa hP (Qbz ha (by omega)) rfl rfl rfl ?_;refine Sz3 h5 h6 h7 ?_;refine Qa hP (Qbz hb (by omega)) rfl rfl rfl ?_;refine Sz4 h5 h6 h7 @Nat.mod_mod ?_;rw[Qag (f:=fun(x:Nat)=>.int .u16 x) (y:=(dg a i+dg b i+c)%65536) (xs:=out) (ty':=115) (fz:=false) (Tz1 hh) Qcv (by omega) rfl (by omega) (by omega)];refine Sz3 h5 h6 h7 ?_;refine Qh (2*(max a.length b.length-(i+1))+(dg a i+dg b i+c)/65536) ?_ ⟨i+1,(dg a i+dg b i+c)/65536,out++[(dg a i+dg b i+c)%65536],rfl,hs1,by omega,?_,by simp[hol],?_,hstep,?_⟩
  ·by_cases hlt:i<max a.length b.length
   ·omega
   ·have z1:dg a i=0:=by rw[dg,Qbv (by omega)]
    have z2:dg b i=0:=by rw[dg,Qbv (by omega)]
    rw[z1,z2];omega
  ·by_cases hlt:i<max a.length b.length
   ·omega
   ·have z1:dg a i=0:=by rw[dg,Qbv (by omega)]
    have z2:dg b i=0:=by rw[dg,Qbv (by omega)]
    rw[z1,z2];omega
  ·rw[Qb5];exact⟨hout,by intro z hz;simp at hz;omega⟩
  ·refine Sz0 ?_;simp
 ·obtain rfl:c=0:=by omega
  rw[List.drop_of_length_le (by omega),List.drop_of_length_le (by omega)]at hv;simp only[val,Nat.add_zero,Nat.mul_zero]at hv;refine Sz2 h5 hh ?_;refine Qg3 hP (Qb6 hout (by omega)) (by simp+decide (disch:=first|omega|rfl|(simp+decide only[go_sem,↓reduceIte,hh,Qa6,List.contains_cons,List.contains_nil,List.flatMap_cons,List.flatMap_nil,List.append_nil]<;>rfl)|fail) only[go_sem,↓reduceIte,hh,Qa6,List.contains_cons,List.contains_nil,List.flatMap_cons,List.flatMap_nil,List.append_nil];simp[List.take_of_length_le]) rfl fun hp'=>?_;refine Sz0 ?_;exact Qc (by rw[hv]) rfl
theorem Qni{a b:List Nat}(ha:Ql a)(hb:Ql b)(hla:a.length<2^40)(hlb:b.length<2^40):Qd Tryz.prog 145 [PV.nat a,PV.nat b] (· =if val a<val b then .tup [PV.num 0,.int .i64 2]else .tup [PV.num (val a-val b),.int .i64 0]):=by
 refine Qf Qj Tryz.func145 rfl Qajv (by simp[c145]) fun C hP=>?_;simp only[c145];refine Sz0 ?_;refine Qa hP (Qj5 ha hb (by omega) (by omega)) rfl rfl rfl ?_;refine Sz0 ?_;refine Qb (fun hc=>?_) (fun hc=>?_)
 ·rw[if_pos (Qov.1 hc)];refine Sz0 ?_;exact Qf9 rfl rfl rfl Qji (Q2 _)
 have hge:¬val a<val b:=fun h=>hc (Qov.2 h);rw[if_neg hge];refine Sz0 ?_;refine Qes 6 900 1 115 (by omega) Tz0 ?_;refine Qy (by repeat (first|exact Qu|exact Qn|exact Qo|exact Qk|exact Qp|apply Qm|apply Qt|apply Qw|apply Q5|apply Q6|apply Qi|apply Qz)) [(6,9),(14,37)] [36,37,900] (fun m J hp=>∃(i c:Nat)(out:List Nat),m=a.length-i/\c<=1/\i<=a.length/\out.length=i/\Ql out/\val (a.take i)+65536^i*c=val out+val (b.take i)/\J 6= .ms 900 out.length/\J 7= .int .i64 c/\J 8= .int .i64 i/\hp 900=some ⟨1,115,Qba out,false⟩) a.length ?_ ?_
 ·refine⟨0,0,[],rfl,by omega,by omega,rfl,Qdc,by simp[val],?_⟩;refine Sz0 ?_;simp
 rintro _ J h ⟨i,c,out,rfl,hc1,hi,hol,hout,hv,h6,h7,h8,hh⟩;refine Sz3 h6 h7 h8 ?_;refine Qb (fun hg=>?_) (fun hg=>?_)
 ·have hi':i<a.length:=by omega
  have e1:=Qn6 a i;have e2:=Qn6 b i;have d1:=Qo3 ha i;have d2:=Qo3 hb i;refine Sz3 h6 h7 h8 ?_;refine Qa hP (Qbz ha (by omega)) rfl rfl rfl ?_;refine Sz3 h6 h7 h8 ?_;refine Qa hP (Qbz hb (by omega)) rfl rfl rfl ?_;refine Sz3 h6 h7 h8 ?_;have step:∀(d c':Nat),d<65536->c'<=1->dg a i+65536*c'=d+dg b i+c->val (a.take (i+1))+65536^(i+1)*c'=val (out++[d])+val (b.take (i+1)):=fun d c' _ _ h3=>by
   rw[Qo5,hol,e1,e2,Nat.pow_succ];generalize 65536^i=P at *
   have:P*(dg a i+65536*c')=P*(d+dg b i+c):=by rw[h3]
   rw[Nat.mul_add,<-Nat.mul_assoc,Nat.mul_add,Nat.mul_add]at this;omega
  refine Qb (fun hd=>?_) (fun hd=>?_)
  ·obtain⟨d,hd1⟩:∃d:Nat,(dg a i:Int)-(dg b i:Int)-(c:Int)+65536=d:=⟨((dg a i:Int)-(dg b i:Int)-(c:Int)+65536).toNat,by omega⟩
   have hst:=step d 1 (by omega) (by omega) (by omega);refine Sz4 h6 h7 h8 hd1 ?_;rw[Qag (f:=fun(x:Nat)=>.int .u16 x) (y:=d) (xs:=out) (ty':=115) (fz:=false) (Tz1 hh) (by simp+decide (disch:=first|omega|rfl|(simp+decide only[go_sem,↓reduceIte,Nat.mod_eq_of_lt (by omega:d<65536)]<;>rfl)|fail) only[go_sem,↓reduceIte,Nat.mod_eq_of_lt (by omega:d<65536)]) (by omega) rfl (by omega) (by omega)];refine Sz3 h6 h7 h8 ?_;refine Qh (a.length-(i+1)) (by omega) ⟨i+1,1,out++[d],rfl,by omega,by omega,by simp[hol],?_,hst,?_⟩
   ·rw[Qb5];exact⟨hout,by intro z hz;simp at hz;omega⟩
   ·refine Sz0 ?_;simp
  ·obtain⟨d,hd1⟩:∃d:Nat,(dg a i:Int)-(dg b i:Int)-(c:Int)=d:=⟨((dg a i:Int)-(dg b i:Int)-(c:Int)).toNat,by omega⟩
   have hst:=step d 0 (by omega) (by omega) (by omega);refine Sz4 h6 h7 h8 hd1 ?_;rw[Qag (f:=fun(x:Nat)=>.int .u16 x) (y:=d) (xs:=out) (ty':=115) (fz:=false) (Tz1 hh) (by simp+decide (disch:=first|omega|rfl|(simp+decide only[go_sem,↓reduceIte,Nat.mod_eq_of_lt (by omega:d<65536)]<;>rfl)|fail) only[go_sem,↓reduceIte,Nat.mod_eq_of_lt (by omega:d<65536)]) (by omega) rfl (by omega) (by omega)];refine Sz3 h6 h7 h8 ?_;refine Qh (a.length-(i+1)) (by omega) ⟨i+1,0,out++[d],rfl,by omega,by omega,by simp[hol],?_,hst,?_⟩
   ·rw[Qb5];exact⟨hout,by intro z hz;simp at hz;omega⟩
   ·refine Sz0 ?_;simp
 ·obtain rfl:i=a.length:=by omega
  have hbz:val (b.drop a.length)=0:=Qj0 (by have:=Qgj ha;omega);have hbs:=Qo4 b a.length;rw[hbz,Nat.mul_zero,Nat.add_zero]at hbs;rw[List.take_length,<-hbs]at hv;have hvo:=Qgj hout;rw[hol]at hvo;have hc0:c=0:=by
   match c,hc1 with
   |0,_=>rfl
   |1,_=>exfalso;have:=Qgj ha;omega
  subst hc0;refine Sz2 h6 hh ?_;refine Qg3 hP (Qb6 hout (by omega)) (by simp+decide (disch:=first|omega|rfl|(simp+decide only[go_sem,↓reduceIte,hh,Qa6,List.contains_cons,List.contains_nil,List.flatMap_cons,List.flatMap_nil,List.append_nil]<;>rfl)|fail) only[go_sem,↓reduceIte,hh,Qa6,List.contains_cons,List.contains_nil,List.flatMap_cons,List.flatMap_nil,List.append_nil];simp[List.take_of_length_le]) rfl fun hp'=>?_;refine Sz0 ?_;exact Qf9 rfl rfl rfl (Qg4 (congrArg PV.num (by omega))) (Q2 _)
theorem Qnj{a b:List Nat}(ha:Ql a)(hb:Ql b)(hla:a.length<2^40)(hlb:b.length<2^40):Qd Tryz.prog 109 [PV.nat a,PV.nat b] (· =PV.num (val a*val b)):=by
 refine Qf Qj Tryz.func109 rfl Qajw (by simp[c109]) fun C hP=>?_;simp only[c109];refine Sz0 ?_;refine Qy (by repeat (first|exact Qu|exact Qn|exact Qo|exact Qk|exact Qp|apply Qm|apply Qt|apply Qw|apply Q5|apply Q6|apply Qi|apply Qz)) [(6,9),(17,62)] [] (fun m J hp=>∃(i:Nat)(L:List Nat),m=a.length-i/\i<=a.length/\L.length=a.length+b.length+1/\Ql L/\val L=val (a.take i)*val b/\J 6= .int .i64 i/\hp=Qv hp0 16 ⟨1,115,Qba L,false⟩) a.length ?_ ?_
 ·refine⟨0,List.replicate (a.length+b.length+1) 0,rfl,by omega,by simp,?_,by simp[val,Qxv],?_⟩
  ·intro z hz;rw[List.eq_of_mem_replicate hz];omega
  ·refine Sz0 ?_;simp
 rintro _ J _ ⟨i,L,rfl,hi,hLl,hL,hv,h6,rfl⟩;refine Sz1 h6 ?_;refine Qb (fun hg=>?_) (fun hg=>?_)
 ·have hi':i<a.length:=by omega
  have hai:=Qas ha hi';have hts:=Qgk hi';have hz0:dg L (i+b.length)=0:=by apply Q50;apply Qj0;rw[hv,Nat.pow_add];have h1:=Qem ha i (by omega);have h2:=Qgj hb;exact Nat.mul_lt_mul'' h1 h2
  generalize hxx:a[i]=ai at *
  refine Sz2 h6 hxx ?_;refine Qy (by repeat (first|exact Qu|exact Qn|exact Qo|exact Qk|exact Qp|apply Qm|apply Qt|apply Qw|apply Q5|apply Q6|apply Qi|apply Qz)) [(7,9),(23,62)] [] (fun m J hp=>∃(k c:Nat)(M:List Nat),m=b.length+1-k/\k<=b.length+1/\(k<=b.length∨c=0)/\c<65536/\M.length=L.length/\Ql M/\val M+65536^(i+k)*(c+ai*val (b.drop k))=val L+65536^i*(ai*val b)/\(∀j,i+k<=j->dg M j=dg L j)/\J 7= .int .u64 c/\J 8= .int .i64 k/\hp=Qv hp0 16 ⟨1,115,Qba M,false⟩) (b.length+1) ?_ ?_
  ·refine⟨0,0,L,rfl,by omega,by omega,by omega,rfl,hL,by simp,fun _ _=>rfl,?_⟩;refine Sz1 h6 ?_;simp
  rintro _ J2 _ ⟨k,c,M,rfl,hk,hk2,hc,hMl,hM,hw,hsame,h7,h8,rfl⟩;have e2:=Qii b k;have d2:=Qo3 hb k;refine Sz3 h6 h7 h8 ?_;refine Qab (fun hkb=>?_) (fun hkb=>?_)
  ·have hkb':k<=b.length:=by omega
   have hj:i+k<M.length:=by omega
   have hx:=Qas hM hj;have hset:=fun v=>Q32 (v:=v) hj;have hmx:=Qf2 hai d2;have hdx:dg M (i+k)=M[i+k]:=Qbu hj;generalize hxm:M[i+k]=x at *
   have hdm:=Nat.div_add_mod (x+ai*dg b k+c) 65536;have hnew:=Qya (T:=val L+65536^i*(ai*val b)) (hset ((x+ai*dg b k+c)%65536)) (by rw[<-e2];exact hw) hdm;have hr:=Nat.mod_lt (x+ai*dg b k+c) (show 0<65536 by omega);have hq:(x+ai*dg b k+c)/65536<65536:=by omega
   have hq0:¬k<b.length->(x+ai*dg b k+c)/65536=0:=fun h=>by
    have z1:dg b k=0:=by rw[dg,Qbv (by omega)]
    have z2:x=0:=by rw[<-hdx,hsame _ (Nat.le_refl _),show i+k=i+b.length by omega,hz0]
    rw[z1,z2];omega
   have hlims:Ql (M.set (i+k) ((x+ai*dg b k+c)%65536)):=fun z hz=>by
    rcases List.mem_or_eq_of_mem_set hz with h|h
    ·exact hM z h
    ·omega
   have e5:IntKind.u64.wrap ((ai*dg b k:Nat):Int)=((ai*dg b k:Nat):Int):=Qf7 (by omega) (by omega);refine Sz5 h6 h7 h8 hxx hxm ?_;refine Qa hP (Qbz hb (by omega)) rfl rfl rfl ?_;refine Sz7 h6 h7 h8 hxx hxm e5 @Nat.mod_mod ?_;refine Qh (b.length+1-(k+1)) (by omega) ⟨k+1,(x+ai*dg b k+c)/65536,M.set (i+k) ((x+ai*dg b k+c)%65536),rfl,by omega,?_,hq,by rw[List.length_set];exact hMl,hlims,?_,?_,?_⟩
   ·by_cases h:k<b.length
    ·omega
    ·exact .inr (hq0 h)
   ·rw[<-Nat.add_assoc,Nat.pow_succ];exact hnew
   ·intro j hj2;rw[Qyb (by omega)];exact hsame j (by omega)
   ·exact Tz3 h6 h7 h8
  refine Sz3 h6 h7 h8 ?_;refine Qb (fun hc0=>?_) (fun hc0=>?_)
  ·have hkb':k<=b.length:=by omega
   have hj:i+k<M.length:=by omega
   have hx:=Qas hM hj;have hset:=fun v=>Q32 (v:=v) hj;have hmx:=Qf2 hai d2;have hdx:dg M (i+k)=M[i+k]:=Qbu hj;generalize hxm:M[i+k]=x at *
   have hdm:=Nat.div_add_mod (x+ai*dg b k+c) 65536;have hnew:=Qya (T:=val L+65536^i*(ai*val b)) (hset ((x+ai*dg b k+c)%65536)) (by rw[<-e2];exact hw) hdm;have hr:=Nat.mod_lt (x+ai*dg b k+c) (show 0<65536 by omega);have hq:(x+ai*dg b k+c)/65536<65536:=by omega
   have hq0:¬k<b.length->(x+ai*dg b k+c)/65536=0:=fun h=>by
    have z1:dg b k=0:=by rw[dg,Qbv (by omega)]
    have z2:x=0:=by rw[<-hdx,hsame _ (Nat.le_refl _),show i+k=i+b.length by omega,hz0]
    rw[z1,z2];omega
   have hlims:Ql (M.set (i+k) ((x+ai*dg b k+c)%65536)):=fun z hz=>by
    rcases List.mem_or_eq_of_mem_set hz with h|h
    ·exact hM z h
    ·omega
   have e5:IntKind.u64.wrap ((ai*dg b k:Nat):Int)=((ai*dg b k:Nat):Int):=Qf7 (by omega) (by omega);refine Sz5 h6 h7 h8 hxx hxm ?_;refine Qa hP (Qbz hb (by omega)) rfl rfl rfl ?_;refine Sz7 h6 h7 h8 hxx hxm e5 @Nat.mod_mod ?_;refine Qh (b.length+1-(k+1)) (by omega) ⟨k+1,(x+ai*dg b k+c)/65536,M.set (i+k) ((x+ai*dg b k+c)%65536),rfl,by omega,?_,hq,by rw[List.length_set];exact hMl,hlims,?_,?_,?_⟩
   ·by_cases h:k<b.length
    ·omega
    ·exact .inr (hq0 h)
   ·rw[<-Nat.add_assoc,Nat.pow_succ];exact hnew
   ·intro j hj2;rw[Qyb (by omega)];exact hsame j (by omega)
   ·exact Tz3 h6 h7 h8
  ·obtain rfl:c=0:=by omega
   rw[List.drop_of_length_le (by omega)]at hw;simp only[val,Nat.mul_zero,Nat.add_zero]at hw;refine Sz3 h6 h7 h8 ?_;simp (disch:=decide) only[Qb3,Qfx];refine Qh (a.length-(i+1)) (by omega) ⟨i+1,M,rfl,by omega,by omega,hM,?_,?_⟩
   ·rw[hw,hv,hts,Nat.add_mul,Nat.mul_assoc]
   ·exact Tz0
 ·obtain rfl:i=a.length:=by omega
  rw[List.take_length]at hv;refine Sz0 ?_;refine Qg3 hP (Qb6 hL (by omega)) (by simp+decide (disch:=first|omega|rfl|(simp+decide only[go_sem,↓reduceIte,Qa6,List.contains_cons,List.contains_nil,List.flatMap_cons,List.flatMap_nil,List.append_nil]<;>rfl)|fail) only[go_sem,↓reduceIte,Qa6,List.contains_cons,List.contains_nil,List.flatMap_cons,List.flatMap_nil,List.append_nil];simp[List.take_of_length_le,hLl]) rfl fun hp'=>?_;refine Sz0 ?_;exact Qc (by rw[hv]) rfl
theorem Qli{x y:Nat}(hx:nl x<2^40)(hy:nl y<2^40):Qd Tryz.prog 109 [PV.num x,PV.num y] (· =PV.num (x*y)):=by
 have:=Qnj (Qq x) (Qq y) hx hy
 rwa[Q7,Q7]at this
theorem Q6n{x y:Nat}(hx:nl x<2^42)(hy:nl y<2^42):Qd Tryz.prog 162 [PV.num x,PV.num y] (· = .int .i64 (Qel x y)):=by
 have:=Qj5 (Qq x) (Qq y) hx hy
 rwa[Q7,Q7]at this
theorem Qvo{x y:Nat}(hx:nl x<2^40)(hy:nl y<2^40)(h:y<=x):Qd Tryz.prog 145 [PV.num x,PV.num y] (· = .tup [PV.num (x-y),.int .i64 0]):=by
 have:=Qni (Qq x) (Qq y) hx hy
 rwa[Q7,Q7,if_neg (by omega)]at this
theorem Q4d{x y:Nat}:Qel x y<=0↔x<=y:=by unfold Qel;split<;>(try split)<;>omega
theorem Qp1{x y:Nat}(hx:nl x<2^38)(hy:nl y<2^38)(hy0:0<y):Qd Tryz.prog 155 [PV.num x,PV.num y] (· = .int .u64 (min 65535 (x/y):Nat)):=by
 have hq2:∀(n d:Nat) fr hp K,n<18446744073709551616->Qa9 .quo false (.int .u64 (n:Int)) (.int .u64 2) d fr hp K=K (upd fr d (.int .u64 ((n/2:Nat):Int))) hp:=fun n d fr hp K h=>by rw[show(2:Int)=((2:Nat):Int)from rfl,Qn2 (by omega) h]
 refine Qf Qj Tryz.func155 rfl Qajx (by simp[c155]) fun C hP=>?_;simp only[c155];refine Sz0 ?_;refine Qy (by repeat (first|exact Qu|exact Qn|exact Qo|exact Qk|exact Qp|apply Qm|apply Qt|apply Qw|apply Q5|apply Q6|apply Qi|apply Qz)) [(5,25)] [] (fun m J hp=>∃lo hi:Nat,m=hi-lo/\lo<=hi/\hi<=65535/\y*lo<=x/\(hi=65535∨x<y*(hi+1))/\J 5= .int .u64 lo/\J 6= .int .u64 hi) 65535 ?_ ?_
 ·refine⟨0,65535,rfl,by omega,by omega,by omega,.inl rfl,?_⟩;refine Sz0 ?_;simp
 rintro _ J h ⟨lo,hi,rfl,h1,h2,h3,h4,h5,h6⟩;refine Sz2 h5 h6 ?_;refine Qb (fun hg=>?_) (fun hg=>?_)
 ·have hsz:nl ((lo+hi+1)/2)<=4:=Qf8 (by omega);have hm:=Qdl y ((lo+hi+1)/2);generalize hmid:(lo+hi+1)/2=mid at *
  refine Sz4 h5 h6 hq2 hmid ?_;refine Qa hP (Qdp (n:=mid) (by omega)) rfl rfl rfl ?_;refine Sz2 h5 h6 ?_;refine Qa hP (Qli (x:=y) (y:=mid) (by omega) (by omega)) rfl rfl rfl ?_;refine Sz2 h5 h6 ?_;refine Qa hP (Q6n (x:=y*mid) (y:=x) (by omega) (by omega)) rfl rfl rfl ?_;refine Sz2 h5 h6 ?_;refine Qb (fun hc=>?_) (fun hc=>?_)
  ·rw[Q4d]at hc;refine Sz2 h5 h6 ?_;refine Qh (hi-mid) (by omega) ⟨mid,hi,rfl,by omega,h2,hc,h4,?_⟩;exact Tz1 h6
  ·rw[Q4d]at hc;obtain⟨n,rfl⟩:∃n,mid=n+1:=⟨mid-1,by omega⟩
   have e:((n+1:Nat):Int)-1=n:=by omega
   refine Sz3 h5 h6 e ?_;refine Qh (n-lo) (by omega) ⟨lo,n,rfl,by omega,by omega,h3,.inr (by omega),?_⟩;exact Tz1 h5
 ·obtain rfl:lo=hi:=by omega
  refine Sz1 h5 ?_;refine Qc ?_ rfl;have hle:lo<=x/y:=(Nat.le_div_iff_mul_le hy0).2 (by rw[Nat.mul_comm];exact h3);rcases h4 with rfl|h4
  ·rw[Nat.min_eq_left hle]
  ·have:x/y<lo+1:=(Nat.div_lt_iff_lt_mul hy0).2 (by rw[Nat.mul_comm];exact h4);congr 2;omega
theorem Qoa{a b:List Nat}(ha:Ql a)(hb:Ql b)(hla:a.length<2^36)(hlb:b.length<2^36):Qd Tryz.prog 131 [PV.nat a,PV.nat b]
  (· =if val b=0 then .tup [PV.num 0,PV.num 0,.int .i64 3]else .tup [PV.num (val a/val b),PV.num (val a%val b),.int .i64 0]):=by
 have hda:=Qau ha;have hdb:=Qau hb;refine Qf Qj Tryz.func131 rfl Qajy (by simp[c131]) fun C hP=>?_;simp only[c131];refine Sz0 ?_;refine Qa hP (Qb6 ha (by omega)) rfl rfl rfl ?_;refine Sz0 ?_;refine Qa hP (Qb6 hb (by omega)) rfl rfl rfl ?_;refine Sz0 ?_;generalize val a=x at *
 generalize val b=y at *
 unfold nl at hda hdb;refine Qb (fun hz=>?_) (fun hz=>?_)
 ·have hy0:y=0:=Qbw.1 (Qdm (by omega));refine Sz0 ?_;rw[if_pos hy0];exact Qqj rfl rfl rfl rfl Qji Qji (Q2 _)
 have hy0:y≠0:=fun h=>by rw[h,Qa7]at hz;simp at hz
 rw[if_neg hy0];have hyp:0<y:=Nat.pos_of_ne_zero hy0;have hxl:=Qq x;have hyl:=Qq y;have hxv:=Q7 x;have hyv:=Q7 y;refine Sz0 ?_;refine Qat (fun h1=>?_) (fun h1=>?_)
 ·refine Sz0 ?_;refine Qb (fun h2=>?_) (fun h2=>?_)
  ·have hx64:=Qmt.1 (show nl x<=4 by unfold nl;omega);have hy64:=Qmt.1 (show nl y<=4 by unfold nl;omega);have hq:=Nat.div_le_self x y;have hr:=Nat.mod_lt x hyp;refine Sz0 ?_;refine Qa hP (Qh1 hxl (by omega)) rfl rfl rfl ?_;refine Sz1 hxv ?_;refine Qa hP (Qh1 hyl (by omega)) rfl rfl rfl ?_;refine Sz3 hxv hyv @Qn2 ?_;refine Qa hP (Qdp (n:=x/y) (by omega)) rfl rfl rfl ?_;refine Sz0 ?_;refine Qa hP (Qh1 hxl (by omega)) rfl rfl rfl ?_;refine Sz1 hxv ?_;refine Qa hP (Qh1 hyl (by omega)) rfl rfl rfl ?_;refine Sz3 hxv hyv @Qgm ?_;refine Qa hP (Qdp (n:=x%y) (by omega)) rfl rfl rfl ?_;refine Sz0 ?_;exact Qqj rfl rfl rfl rfl (Q2 _) (Q2 _) (Q2 _)
  ·have hsep:=trivial;refine Sz0 ?_;refine Qhn 7 1 Tz0 ?_;refine Qhn 8 1 Tz0 ?_;refine Q00 (by repeat (first|exact Qu|exact Qn|exact Qo|exact Qk|exact Qp|apply Qm|apply Qt|apply Qw|apply Q5|apply Q6|apply Qi|apply Qz)) [(7,10),(41,69)] [49,51,58,60] (fun k J hp=>∃qs,k<=(dig x).length/\qs.length=(dig x).length-k/\Ql qs/\val qs=val ((dig x).drop k)/y/\J 7= .sl 1 (Qba qs)/\J 8=PV.num (val ((dig x).drop k)%y)/\J 9= .int .i64 ((k:Int)-1)) (dig x).length ?_ ?_
   ·refine⟨[],Nat.le_refl _,by simp,Qdc,by simp[val],?_⟩;refine Sz0 ?_;simp[val,Qa7]
   rintro k J h ⟨qs,hk,hql,hqs,hqv,h7,h8,h9⟩;refine Sz3 h7 h8 h9 ?_;have hr:=Nat.mod_lt (val ((dig x).drop k)) hyp;refine Qb (fun hg=>?_) (fun hg=>?_)
   ·obtain _|n:=k
    ·omega
    have hn:n<(dig x).length:=by omega
    have han:=Qas hxl hn;have e:((n+1:Nat):Int)-1=n:=by omega
    have hst:=Qu4 (x:=(dig x)[n]) hyp hqv;rw[<-Qda hn]at hst;generalize hV:val ((dig x).drop (n+1))%y=r at *
    generalize hxx:(dig x)[n]=xi at *
    have hrl:(dig r).length<=(dig y).length:=Qbm (Nat.le_of_lt hr);have hlim:Ql ([xi]++dig r):=by rw[Qb5];exact⟨by intro z hz;simp at hz;omega,Qq r⟩
    have hvl:val ([xi]++dig r)=r*65536+xi:=by rw[Qcm,Q7];simp[val];omega
    have hlt:(r*65536+xi)/y<65536:=by rw[Nat.div_lt_iff_lt_mul hyp];have:(r+1)*65536<=y*65536:=Nat.mul_le_mul_right _ hr;omega
    have hnR:nl (r*65536+xi)<=(dig y).length+1:=by have:=Qau hlim;rw[hvl,List.length_append]at this;simp at this;omega
    have hdm:=Nat.div_add_mod (r*65536+xi) y;have hnm:nl (y*((r*65536+xi)/y))<=(dig y).length+1:=Nat.le_trans (Qbm (by omega)) hnR;have hn4:nl ((r*65536+xi)/y)<=4:=Qf8 (by omega);have hsub:r*65536+xi-y*((r*65536+xi)/y)=(r*65536+xi)%y:=by omega
    refine Sz5 h7 h8 h9 e hxx ?_;rw[Qec (f:=fun(x:Nat)=>.int .u16 x) (xs:=[xi]) (ys:=dig r) (n:=1) Qcv rfl (by omega) (by omega) (by omega)];refine Sz5 h7 h8 h9 e hxx ?_;refine Qcb hP (Qb6 (l:=[xi]++dig r) hlim (by simp;omega)) (by simp+decide (disch:=first|omega|rfl|(simp+decide only[go_sem,↓reduceIte,Qa6,List.contains_cons,List.contains_nil,List.flatMap_cons,List.flatMap_nil,List.append_nil]<;>rfl)|fail) only[go_sem,↓reduceIte,Qa6,List.contains_cons,List.contains_nil,List.flatMap_cons,List.flatMap_nil,List.append_nil];simp[Nat.add_comm 1,List.take_of_length_le]) rfl ?_;rw[hvl];refine Sz5 h7 h8 h9 e hxx ?_;refine Qa hP (Qp1 (x:=r*65536+xi) (y:=y) (by omega) (by unfold nl;omega) hyp) rfl rfl rfl ?_;rw[Nat.min_eq_right (by omega:(r*65536+xi)/y<=65535)];generalize hD:(r*65536+xi)/y=D at *
    simp+decide (disch:=first|omega|rfl|(simp+decide only[go_sem,↓reduceIte,h7,h8,h9,e,hxx,Nat.mod_eq_of_lt hlt]<;>rfl)|fail) only[go_sem,↓reduceIte,h7,h8,h9,e,hxx,Nat.mod_eq_of_lt hlt];rw[Qec (f:=fun(x:Nat)=>.int .u16 x) (xs:=[D]) (ys:=qs) (n:=1) Qcv rfl (by omega) (by omega) (by omega)];refine Sz5 h7 h8 h9 e hxx ?_;refine Qa hP (Qdp (n:=D) (by omega)) rfl rfl rfl ?_;refine Sz4 h7 h8 h9 e ?_;refine Qa hP (Qli (x:=y) (y:=D) (by unfold nl;omega) (by omega)) rfl rfl rfl ?_;refine Sz4 h7 h8 h9 e ?_;refine Qa hP (Qvo (x:=r*65536+xi) (y:=y*D) (by omega) (by omega) (by omega)) rfl rfl rfl ?_;rw[hsub];refine Sz4 h7 h8 h9 e ?_;refine Qu3 7 n rfl ?_ (by omega) ⟨D::qs,by omega,by simp;omega,?_,?_,?_⟩
    ·exact Uz0
    ·rw[Qa5];exact⟨hlt,hqs⟩
    ·rw[val,hst.1]
    ·refine Vz1 hst.2 ?_;simp[Nat.add_comm 1,List.take_of_length_le]
   ·obtain rfl:k=0:=by omega
    rw[List.drop_zero,hxv]at hqv h8;refine Sz2 h7 h8 ?_;refine Qa hP (Qb6 hqs (by omega)) rfl rfl rfl ?_;refine Sz2 h7 h8 ?_;exact Qqj rfl rfl rfl rfl (Qg4 (by rw[hqv])) (Q2 _) (Q2 _)
 ·have hsep:=trivial;refine Sz0 ?_;refine Qhn 7 1 Tz0 ?_;refine Qhn 8 1 Tz0 ?_;refine Q00 (by repeat (first|exact Qu|exact Qn|exact Qo|exact Qk|exact Qp|apply Qm|apply Qt|apply Qw|apply Q5|apply Q6|apply Qi|apply Qz)) [(7,10),(41,69)] [49,51,58,60] (fun k J hp=>∃qs,k<=(dig x).length/\qs.length=(dig x).length-k/\Ql qs/\val qs=val ((dig x).drop k)/y/\J 7= .sl 1 (Qba qs)/\J 8=PV.num (val ((dig x).drop k)%y)/\J 9= .int .i64 ((k:Int)-1)) (dig x).length ?_ ?_
  ·refine⟨[],Nat.le_refl _,by simp,Qdc,by simp[val],?_⟩;refine Sz0 ?_;simp[val,Qa7]
  rintro k J h ⟨qs,hk,hql,hqs,hqv,h7,h8,h9⟩;refine Sz3 h7 h8 h9 ?_;have hr:=Nat.mod_lt (val ((dig x).drop k)) hyp;refine Qb (fun hg=>?_) (fun hg=>?_)
  ·obtain _|n:=k
   ·omega
   have hn:n<(dig x).length:=by omega
   have han:=Qas hxl hn;have e:((n+1:Nat):Int)-1=n:=by omega
   have hst:=Qu4 (x:=(dig x)[n]) hyp hqv;rw[<-Qda hn]at hst;generalize hV:val ((dig x).drop (n+1))%y=r at *
   generalize hxx:(dig x)[n]=xi at *
   have hrl:(dig r).length<=(dig y).length:=Qbm (Nat.le_of_lt hr);have hlim:Ql ([xi]++dig r):=by rw[Qb5];exact⟨by intro z hz;simp at hz;omega,Qq r⟩
   have hvl:val ([xi]++dig r)=r*65536+xi:=by rw[Qcm,Q7];simp[val];omega
   have hlt:(r*65536+xi)/y<65536:=by rw[Nat.div_lt_iff_lt_mul hyp];have:(r+1)*65536<=y*65536:=Nat.mul_le_mul_right _ hr;omega
   have hnR:nl (r*65536+xi)<=(dig y).length+1:=by have:=Qau hlim;rw[hvl,List.length_append]at this;simp at this;omega
   have hdm:=Nat.div_add_mod (r*65536+xi) y;have hnm:nl (y*((r*65536+xi)/y))<=(dig y).length+1:=Nat.le_trans (Qbm (by omega)) hnR;have hn4:nl ((r*65536+xi)/y)<=4:=Qf8 (by omega);have hsub:r*65536+xi-y*((r*65536+xi)/y)=(r*65536+xi)%y:=by omega
   refine Sz5 h7 h8 h9 e hxx ?_;rw[Qec (f:=fun(x:Nat)=>.int .u16 x) (xs:=[xi]) (ys:=dig r) (n:=1) Qcv rfl (by omega) (by omega) (by omega)];refine Sz5 h7 h8 h9 e hxx ?_;refine Qcb hP (Qb6 (l:=[xi]++dig r) hlim (by simp;omega)) (by simp+decide (disch:=first|omega|rfl|(simp+decide only[go_sem,↓reduceIte,Qa6,List.contains_cons,List.contains_nil,List.flatMap_cons,List.flatMap_nil,List.append_nil]<;>rfl)|fail) only[go_sem,↓reduceIte,Qa6,List.contains_cons,List.contains_nil,List.flatMap_cons,List.flatMap_nil,List.append_nil];simp[Nat.add_comm 1,List.take_of_length_le]) rfl ?_;rw[hvl];refine Sz5 h7 h8 h9 e hxx ?_;refine Qa hP (Qp1 (x:=r*65536+xi) (y:=y) (by omega) (by unfold nl;omega) hyp) rfl rfl rfl ?_;rw[Nat.min_eq_right (by omega:(r*65536+xi)/y<=65535)];generalize hD:(r*65536+xi)/y=D at *
   simp+decide (disch:=first|omega|rfl|(simp+decide only[go_sem,↓reduceIte,h7,h8,h9,e,hxx,Nat.mod_eq_of_lt hlt]<;>rfl)|fail) only[go_sem,↓reduceIte,h7,h8,h9,e,hxx,Nat.mod_eq_of_lt hlt];rw[Qec (f:=fun(x:Nat)=>.int .u16 x) (xs:=[D]) (ys:=qs) (n:=1) Qcv rfl (by omega) (by omega) (by omega)];refine Sz5 h7 h8 h9 e hxx ?_;refine Qa hP (Qdp (n:=D) (by omega)) rfl rfl rfl ?_;refine Sz4 h7 h8 h9 e ?_;refine Qa hP (Qli (x:=y) (y:=D) (by unfold nl;omega) (by omega)) rfl rfl rfl ?_;refine Sz4 h7 h8 h9 e ?_;refine Qa hP (Qvo (x:=r*65536+xi) (y:=y*D) (by omega) (by omega) (by omega)) rfl rfl rfl ?_;rw[hsub];refine Sz4 h7 h8 h9 e ?_;refine Qu3 7 n rfl ?_ (by omega) ⟨D::qs,by omega,by simp;omega,?_,?_,?_⟩
   ·exact Uz0
   ·rw[Qa5];exact⟨hlt,hqs⟩
   ·rw[val,hst.1]
   ·refine Vz1 hst.2 ?_;simp[Nat.add_comm 1,List.take_of_length_le]
  ·obtain rfl:k=0:=by omega
   rw[List.drop_zero,hxv]at hqv h8;refine Sz2 h7 h8 ?_;refine Qa hP (Qb6 hqs (by omega)) rfl rfl rfl ?_;refine Sz2 h7 h8 ?_;exact Qqj rfl rfl rfl rfl (Qg4 (by rw[hqv])) (Q2 _) (Q2 _)
theorem Qy9{x y:Nat}(hx:nl x<2^36)(hy:nl y<2^36)(h0:y≠0):Qd Tryz.prog 131 [PV.num x,PV.num y] (· = .tup [PV.num (x/y),PV.num (x%y),.int .i64 0]):=by
 have:=Qoa (Qq x) (Qq y) hx hy
 rwa[Q7,Q7,if_neg h0]at this
theorem Qsw{a b:List Nat}(ha:Ql a)(hb:Ql b)(hla:a.length<2^36)(hlb:b.length<2^36):Qd Tryz.prog 99 [PV.nat a,PV.nat b] (· =PV.num (Nat.gcd (val a) (val b))):=by
 have hda:=Qau ha;have hdb:=Qau hb;refine Qf Qj Tryz.func99 rfl Qao2 (by simp[c99]) fun C hP=>?_;simp only[c99];refine Sz0 ?_;refine Qa hP (Qb6 ha (by omega)) rfl rfl rfl ?_;refine Sz0 ?_;refine Qa hP (Qb6 hb (by omega)) rfl rfl rfl ?_;refine Sz0 ?_;refine Qy (by repeat (first|exact Qu|exact Qn|exact Qo|exact Qk|exact Qp|apply Qm|apply Qt|apply Qw|apply Q5|apply Q6|apply Qi|apply Qz)) [(0,1),(5,7),(12,23)] [] (fun m J hp=>∃x y,m=y/\Nat.gcd x y=Nat.gcd (val a) (val b)/\nl x<2^36/\nl y<2^36/\J 0=PV.num x/\J 1=PV.num y/\hp=hp0) (val b) ?_ ?_
 ·refine⟨val a,val b,rfl,rfl,by omega,by omega,?_⟩;exact Tz0
 rintro y J _ ⟨x,_,rfl,hg,hx,hy,h0,h1,rfl⟩;generalize Nat.gcd (val a) (val b)=g at *
 refine Sz2 h0 h1 ?_;refine Qb (fun hc=>?_) (fun hc=>?_)
 ·have hy0:y≠0:=fun h=>by rw[h,Qa7]at hc;simp at hc
  have hmod:=Qbm (Nat.le_of_lt (Nat.mod_lt x (Nat.pos_of_ne_zero hy0)));refine Sz2 h0 h1 ?_;refine Qa hP (Qy9 (x:=x) (y:=y) hx hy hy0) rfl rfl rfl ?_;refine Sz2 h0 h1 ?_;refine Qh (x%y) (Nat.mod_lt _ (Nat.pos_of_ne_zero hy0)) ⟨y,x%y,rfl,?_,hy,by omega,?_⟩
  ·rw[<-hg,Nat.gcd_comm x y,Nat.gcd_rec y x,Nat.gcd_comm]
  ·exact Tz0
 ·have hy0:y=0:=Qbw.1 (Qdm (by omega));subst hy0;refine Sz1 h0 ?_;exact Qc (by rw[<-hg,Nat.gcd_zero_right]) rfl
theorem Qgg{n:Bool}{a:List Nat}(ha:Ql a)(hla:a.length<2^42):Qd Tryz.prog 133 [.bool n,PV.nat a] (· =PV.zz (zv n a)):=by
 refine Qf Qj Tryz.func133 rfl Qajz (by simp[c133]) fun C hP=>?_;simp only[c133];refine Sz0 ?_;refine Qa hP (Qb6 ha hla) rfl rfl rfl ?_;refine Sz0 ?_;refine Qhg (fun hn=>?_) (fun hn=>?_)
 all_goals
  refine Sz0 ?_;refine Qbs ?_;refine Sz0 ?_;exact Qc (by have:=Qww n (val a);rw[hn]at this;subst hn;simpa[zv]using this) rfl
theorem Qi6{n:Bool}{a:List Nat}(ha:Ql a)(hla:a.length<2^42):Qd Tryz.prog 132 [PV.zi n a] (· =PV.zz (zv n a)):=by refine Qf Qj Tryz.func132 rfl Qaj0 (by simp[c132]) fun C hP=>?_;simp only[c132];refine Sz0 ?_;refine Qa hP (Qgg ha hla) rfl rfl rfl ?_;refine Sz0 ?_;refine Qbs ?_;refine Sz0 ?_;exact Qc rfl rfl
theorem Qsx{n m:Bool}{a b:List Nat}(ha:Ql a)(hb:Ql b)(hla:a.length<2^40)(hlb:b.length<2^40):Qd Tryz.prog 107 [PV.zi n a,PV.zi m b] (· =PV.zz (zv n a*zv m b)):=by
 have hr:nl (val a*val b)<2^42:=by have:=Qdl (val a) (val b);have:=Qau ha;have:=Qau hb;omega
 refine Qf Qj Tryz.func107 rfl Qaj4 (by simp[c107]) fun C hP=>?_;simp only[c107];refine Sz0 ?_;refine Qa hP (Qnj ha hb hla hlb) rfl rfl rfl ?_;refine Sz0 ?_;refine Qa hP (Qgg (n:= !(n==m)) (Qq (val a*val b)) hr) rfl rfl rfl ?_;refine Sz0 ?_;refine Qbs ?_;refine Sz0 ?_;exact Qc (congrArg PV.zz (by rw[Qkf];unfold zv;cases n<;>cases m<;>simp[Int.neg_mul,Int.mul_neg])) rfl
theorem Q6o{x:Int}(h1: -9223372036854775808<=x)(h2:x<=9223372036854775807):Qd Tryz.prog 85 [.int .i64 x] (· =PV.zz x):=by
 refine Qf Qj Tryz.func85 rfl Qao6 (by simp[c85]) fun C hP=>?_;simp only[c85];refine Sz0 ?_;refine Qb (fun hc=>?_) (fun hc=>?_)
 ·obtain⟨y,hy⟩:∃y:Nat,x= -((y:Int)+1):=⟨(-(x+1)).toNat,by omega⟩
  have e1:IntKind.i64.wrap (x+1)= -(y:Int):=by rw[Qh7 (by omega) (by omega)];omega
  have e2:IntKind.i64.wrap (0- -(y:Int))=(y:Int):=by rw[Qh7 (by omega) (by omega)];omega
  have e3:IntKind.u64.wrap (y:Int)=(y:Int):=Qf7 (by omega) (by omega);have hl1:nl y<=4:=Qf8 (by omega);have hl2:nl (y+1)<=4:=Qf8 (by omega);refine Sz3 e1 e2 e3 ?_;refine Qa hP (Qdp (n:=y) (by omega)) rfl rfl rfl ?_;refine Sz0 ?_;refine Qa hP (Qdp (n:=1) (by omega)) rfl rfl rfl ?_;refine Sz0 ?_;refine Qa hP (Qsv (Qq y) (Qq 1) (show nl y<_ by omega) (show nl 1<_ by rw[Qex];omega)) rfl rfl rfl ?_;refine Sz0 ?_;refine Qa hP (Qgg (n:=true) (Qq (val (dig y)+val (dig 1))) (show nl _<_ by rw[Q7,Q7];omega)) rfl rfl rfl ?_;refine Sz0 ?_;refine Qbs ?_;refine Sz0 ?_;exact Qc (congrArg PV.zz (by rw[Qkf,Q7,Q7];simp;omega)) rfl
 ·obtain⟨y,rfl⟩:∃y:Nat,x=y:=⟨x.toNat,by omega⟩
  have hl1:nl y<=4:=Qf8 (by omega);refine Sz0 ?_;refine Qa hP (Qdp (by omega)) rfl rfl rfl ?_;refine Sz0 ?_;refine Qa hP (Qgg (n:=false) (Qq y) (show nl _<_ by omega)) rfl rfl rfl ?_;refine Sz0 ?_;refine Qbs ?_;refine Sz0 ?_;exact Qc (congrArg PV.zz (by rw[Qkf];simp)) rfl
theorem Q1s{n:Bool}{a:List Nat}(ha:Ql a)(hla:a.length<2^42):Qd Tryz.prog 100 [PV.zi n a] (· = .int .i64 (sgn (zv n a))):=by
 refine Qf Qj Tryz.func100 rfl Qaj1 (by simp[c100]) fun C hP=>?_;simp only[c100];refine Sz0 ?_;refine Qa hP (Qi6 ha hla) rfl rfl rfl ?_;generalize zv n a=z;refine Sz0 ?_;refine Qb (fun hz=>?_) (fun hz=>?_)
 ·have:z=0:=by have:=Qbw.1 (Qdm (n:=z.natAbs) (by omega));omega
  subst this;refine Sz0 ?_;exact Qc rfl rfl
 ·have h0:z≠0:=fun h=>by subst h;exact hz (by simp[Qa7])
  refine Sz0 ?_;refine Qka (fun hn=>?_) (fun hn=>?_)
  ·have hn:z<0:=by simpa using hn
   refine Sz0 ?_;exact Qc (by rw[sgn,if_pos hn]) rfl
  ·have hn:¬z<0:=by simpa using hn
   refine Sz0 ?_;exact Qc (by rw[sgn,if_neg hn,if_pos (by omega)]) rfl
theorem Qza{n:Bool}{a:List Nat}(ha:Ql a)(hla:a.length<2^42):Qd Tryz.prog 96 [PV.zi n a] (· = .bool (Qhl n a)):=by
 refine Qf Qj Tryz.func96 rfl Qao5 (by simp[c96]) fun C hP=>?_;simp only[c96];refine Sz0 ?_;refine Qa hP (Qp0 ha (by omega)) rfl rfl rfl ?_;refine Sz0 ?_;refine Qhg (fun hv=>?_) (fun hv=>?_)
 ·refine Sz0 ?_;refine Qhg (fun hn=>?_) (fun hn=>?_)
  ·refine Sz0 ?_;exact Qc (congrArg PV.bool (by unfold Qhl;subst hn;cases a<;>simp_all<;>omega)) rfl
  ·refine Sz0 ?_;exact Qc (congrArg PV.bool (by unfold Qhl;subst hn;cases a<;>simp_all)) rfl
 ·refine Sz0 ?_;exact Qc (congrArg PV.bool (by unfold Qhl;cases a<;>simp_all)) rfl
theorem Q2z{n m:Bool}{a b:List Nat}(ha:Ql a)(hb:Ql b)(hla:a.length<2^41)(hlb:b.length<2^41):Qd Tryz.prog 147 [PV.zi n a,PV.zi m b] (· = .int .i64 (Qbx (zv n a) (zv m b))):=by
 have hx:nl (zv n a).natAbs<2^41:=by rw[Qb1];have:=Qau ha;omega
 have hy:nl (zv m b).natAbs<2^41:=by rw[Qb1];have:=Qau hb;omega
 refine Qf Qj Tryz.func147 rfl Qaj2 (by simp[c147]) fun C hP=>?_;simp only[c147];refine Sz0 ?_;refine Qa hP (Qi6 ha (by omega)) rfl rfl rfl ?_;refine Sz0 ?_;refine Qa hP (Qi6 hb (by omega)) rfl rfl rfl ?_;generalize zv n a=x at *
 generalize zv m b=y at *
 have lx:(dig x.natAbs).length<2^41:=hx;have ly:(dig y.natAbs).length<2^41:=hy;by_cases hx0:x<0<;>by_cases hy0:y<0
 ·refine Sz2 hx0 hy0 ?_;refine Qa hP (Qj5 (Qq y.natAbs) (Qq x.natAbs) (by omega) (by omega)) rfl rfl rfl ?_;refine Sz0 ?_;exact Qc (congrArg (PV.int .i64) (by rw[Q7,Q7];unfold Qel Qbx;split<;>split<;>(try split)<;>(try split)<;>omega)) rfl
 ·refine Sz2 hx0 hy0 ?_;exact Qc (congrArg (PV.int .i64) (by unfold Qbx;rw[if_pos (by omega)])) rfl
 ·refine Sz2 hx0 hy0 ?_;exact Qc (congrArg (PV.int .i64) (by unfold Qbx;rw[if_neg (by omega),if_pos (by omega)])) rfl
 ·refine Sz2 hx0 hy0 ?_;refine Qa hP (Qj5 (Qq x.natAbs) (Qq y.natAbs) (by omega) (by omega)) rfl rfl rfl ?_;refine Sz0 ?_;exact Qc (congrArg (PV.int .i64) (by rw[Q7,Q7];unfold Qel Qbx;split<;>split<;>(try split)<;>(try split)<;>omega)) rfl
theorem Q20{n m:Bool}{a b:List Nat}(ha:Ql a)(hb:Ql b)(hla:a.length<2^40)(hlb:b.length<2^40):Qd Tryz.prog 106 [PV.zi n a,PV.zi m b] (· =PV.zz (zv n a+zv m b)):=by
 have hda:=Qau ha;have hdb:=Qau hb;refine Qf Qj Tryz.func106 rfl Qaj3 (by simp[c106]) fun C hP=>?_;simp only[c106];refine Sz0 ?_;refine Qka (fun hnm=>?_) (fun hnm=>?_)
 ·have hnm:n=m:=by simpa using hnm
  subst hnm;have hr:=Qny (val a) (val b);refine Sz0 ?_;refine Qa hP (Qsv ha hb hla hlb) rfl rfl rfl ?_;refine Sz0 ?_;refine Qa hP (Qgg (n:=n) (Qq (val a+val b)) (show nl _<_ by omega)) rfl rfl rfl ?_;refine Sz0 ?_;refine Qbs ?_;refine Sz0 ?_;exact Qc (congrArg PV.zz (by rw[Qkf];unfold zv;split<;>simp<;>omega)) rfl
 have hnm:n= !m:=by cases n<;>cases m<;>simp_all
 subst hnm;refine Sz0 ?_;refine Qa hP (Qni ha hb hla hlb) rfl rfl rfl ?_;by_cases hc:val a<val b
 ·rw[if_pos hc];have hr:=Qbm (Nat.sub_le (val b) (val a));refine Sz0 ?_;refine Qa hP (Qni hb ha hlb hla) rfl rfl rfl ?_;rw[if_neg (by omega)];refine Sz0 ?_;refine Qa hP (Qgg (n:=m) (Qq (val b-val a)) (show nl _<_ by omega)) rfl rfl rfl ?_;refine Sz0 ?_;refine Qbs ?_;refine Sz0 ?_;exact Qc (congrArg PV.zz (by rw[Qkf];unfold zv;cases m<;>simp<;>omega)) rfl
 ·rw[if_neg hc];have hr:=Qbm (Nat.sub_le (val a) (val b));refine Sz0 ?_;refine Qa hP (Qgg (n:= !m) (Qq (val a-val b)) (show nl _<_ by omega)) rfl rfl rfl ?_;refine Sz0 ?_;refine Qbs ?_;refine Sz0 ?_;exact Qc (congrArg PV.zz (by rw[Qkf];unfold zv;cases m<;>simp<;>omega)) rfl
theorem Qq7{a:List Nat}{g:Nat}(ha:Ql a)(hx:a.length<2^36)(hy:nl g<2^36)(h0:g≠0):Qd Tryz.prog 131 [PV.nat a,PV.num g] (· = .tup [PV.num (val a/g),PV.num (val a%g),.int .i64 0]):=by
 have:=Qoa ha (Qq g) hx hy
 rwa[Q7,if_neg h0]at this
theorem Qapc(n:Bool)(a:List Nat)(D:Nat):zv n (dig (val a/Nat.gcd (val a) D))=zv n a/(Nat.gcd (zv n a).natAbs D:Int):=by
 rw[Qb1,Qkf];unfold zv;cases n
 ·simp
 ·have hd:((Nat.gcd (val a) D:Nat):Int)∣(val a:Int):=Int.natCast_dvd_natCast.2 (Nat.gcd_dvd_left _ _);simp only[if_true];rw[Int.neg_ediv_of_dvd hd,Int.natCast_ediv]
theorem Qq8{n:Bool}{a d:List Nat}(ha:Ql a)(hd:Ql d)(hla:a.length<2^36)(hld:d.length<2^36):Qd Tryz.prog 84 [PV.zi n a,PV.nat d] (· =PV.rat (rv n a d)):=by
 have hna:=Qau ha;have hnd:=Qau hd;refine Qf Qj Tryz.func84 rfl Qao8 (by simp[c84]) fun C hP=>?_;simp only[c84];refine Sz0 ?_;refine Qa hP (Qb6 hd (by omega)) rfl rfl rfl ?_;refine Sz0 ?_;refine Qb (fun hz=>?_) (fun hz=>?_)
 ·have h0:val d=0:=Qbw.1 (Qdm (n:=val d) (by omega));refine Sz0 ?_;refine Qa hP (Qdp (n:=1) (by omega)) rfl rfl rfl ?_;refine Sz0 ?_;refine Qbs ?_;refine Sz0 ?_;exact(by unfold rv;rw[Qsk (.inl h0),Qhi];exact Qeq Q3v rfl)
 ·have h0:val d≠0:=fun h=>by rw[h,Qa7]at hz;exact hz rfl
  have hg0:Nat.gcd (val a) (val d)≠0:=fun h=>h0 (Nat.gcd_eq_zero_iff.1 h).2;have hg:=Qbm (Nat.gcd_le_right (val a) (Nat.pos_of_ne_zero h0));have hq:=Quy (val a) (Nat.gcd (val a) (val d));refine Sz0 ?_;refine Qa hP (Qsw ha hd hla hld) rfl rfl rfl ?_;refine Sz0 ?_;refine Qa hP (Qq7 ha hla (by omega) hg0) rfl rfl rfl ?_;refine Sz0 ?_;refine Qa hP (Qq7 hd hld (by omega) hg0) rfl rfl rfl ?_;refine Sz0 ?_;refine Qa hP (Qi6 (n:=n) (Qq (val a/Nat.gcd (val a) (val d))) (show nl _<_ by omega)) rfl rfl rfl ?_;rw[Qapc];have hm:=Qkg (z:=zv n a) h0;refine Sz0 ?_;refine Qbs ?_;refine Sz0 ?_;exact Qc (by unfold rv;rw[PV.rat,hm.1,hm.2,Qb1]) rfl
theorem Qe2{n:Bool}{a d:List Nat}{k:Nat}(hp:Raw k n a d)(hk:k<2^36):Qd Tryz.prog 101 [PV.rr n a d] (· =PV.rat (rv n a d)):=by obtain⟨ha,hd,sa,sd,k1⟩:=hp;refine Qf Qj Tryz.func101 rfl Qaj5 (by simp[c101]) fun C hP=>?_;simp only[c101];refine Sz0 ?_;refine Qa hP (Qq8 (n:=n) ha hd (by omega) (by omega)) rfl rfl rfl ?_;refine Sz0 ?_;refine Qbs ?_;refine Sz0 ?_;exact Qc rfl rfl
theorem Qpl{z:Int}{D:Nat}(hz:nl z.natAbs<2^36)(hD:nl D<2^36):Qd Tryz.prog 84 [PV.zz z,PV.num D] (· =PV.rat (mkRat z D)):=by
 have:=Qq8 (n:=decide (z<0)) (Qq z.natAbs) (Qq D) hz hD
 rwa[rv,Qga,Q7]at this
theorem Qi7{x:Int}(h1: -9223372036854775808<=x)(h2:x<=9223372036854775807):Qd Tryz.prog 44 [.int .i64 x] (· =PV.rat (x:Rat)):=by have hl1:nl x.natAbs<=4:=Qf8 (by omega);refine Qf Qj Tryz.func44 rfl Qao9 (by simp[c44]) fun C hP=>?_;simp only[c44];refine Sz0 ?_;refine Qa hP (Q6o h1 h2) rfl rfl rfl ?_;refine Sz0 ?_;refine Qa hP (Qdp (n:=1) (by omega)) rfl rfl rfl ?_;refine Sz0 ?_;refine Qa hP (Qpl (z:=x) (D:=1) (by omega) (by rw[Qex];omega)) rfl rfl rfl ?_;refine Sz0 ?_;refine Qbs ?_;refine Sz0 ?_;exact Qc (congrArg PV.rat (Rat.mkRat_one x)) rfl
theorem Qh2(d:List Nat):Qd Tryz.prog 108 [PV.nat d] (· =PV.zi false d):=by refine Qf Qj Tryz.func108 rfl Qaj6 (by simp[c108]) fun C hP=>?_;simp only[c108];refine Sz0 ?_;refine Qbs ?_;refine Sz0 ?_;exact Qc rfl rfl
theorem Q6p{x:Int}(hx:nl x.natAbs<2^42):Qd Tryz.prog 100 [PV.zz x] (· = .int .i64 (sgn x)):=by
 have:=Q1s (n:=decide (x<0)) (Qq x.natAbs) hx
 rwa[Qga]at this
theorem Qi8{n:Bool}{a d:List Nat}{k:Nat}(hp:Raw k n a d)(hk:k<2^36):Qd Tryz.prog 54 [PV.rr n a d] (· = .int .i64 (Qef (rv n a d))):=by have hs:=hp.rs;unfold FW.rs at hs;refine Qf Qj Tryz.func54 rfl Qapa (by simp[c54]) fun C hP=>?_;simp only[c54];refine Sz0 ?_;refine Qa hP (Qe2 hp hk) rfl rfl rfl ?_;refine Sz0 ?_;refine Qa hP (Q6p (x:=(rv n a d).num) (by omega)) rfl rfl rfl ?_;refine Sz0 ?_;exact Qc rfl rfl
theorem Qm4{x:Int}{d:Nat}(hx:nl x.natAbs<2^40)(hy:nl d<2^40):Qd Tryz.prog 107 [PV.zz x,PV.zi false (dig d)] (· =PV.zz (x*(d:Int))):=by
 have:=Qsx (n:=decide (x<0)) (m:=false) (Qq x.natAbs) (Qq d) hx hy
 rwa[Qga,Qh9,Q7]at this
theorem Q92{x y:Int}(hx:nl x.natAbs<2^40)(hy:nl y.natAbs<2^40):Qd Tryz.prog 106 [PV.zz x,PV.zz y] (· =PV.zz (x+y)):=by
 have:=Q20 (n:=decide (x<0)) (m:=decide (y<0)) (Qq x.natAbs) (Qq y.natAbs) hx hy
 rwa[Qga,Qga]at this
theorem Q93{x y:Int}(hx:nl x.natAbs<2^41)(hy:nl y.natAbs<2^41):Qd Tryz.prog 147 [PV.zz x,PV.zz y] (· = .int .i64 (Qbx x y)):=by
 have:=Q2z (n:=decide (x<0)) (m:=decide (y<0)) (Qq x.natAbs) (Qq y.natAbs) hx hy
 rwa[Qga,Qga]at this
theorem Q21{n m:Bool}{a d b c:List Nat}{k:Nat}(hp:Raw k n a d)(hq:Raw k m b c)(hk:k<2^34):Qd Tryz.prog 110 [PV.rr n a d,PV.rr m b c] (· =PV.rat (rv n a d*rv m b c)):=by obtain⟨ha,hd,sa,sd,k1⟩:=hp;obtain⟨hb,hc,sb,sc,k2⟩:=hq;have h1:=Qbh (zv n a) (zv m b);have h2:=Qdl (val d) (val c);rw[Qb1,Qb1]at h1;have e1:=Qau ha;have e2:=Qau hd;have e3:=Qau hb;have e4:=Qau hc;refine Qf Qj Tryz.func110 rfl Qaj8 (by simp[c110]) fun C hP=>?_;simp only[c110];refine Sz0 ?_;refine Qa hP (Qsx (n:=n) (m:=m) ha hb (by omega) (by omega)) rfl rfl rfl ?_;refine Sz0 ?_;refine Qa hP (Qnj hd hc (by omega) (by omega)) rfl rfl rfl ?_;refine Sz0 ?_;refine Qa hP (Qpl (z:=zv n a*zv m b) (D:=val d*val c) (by omega) (by omega)) rfl rfl rfl ?_;refine Sz0 ?_;refine Qbs ?_;refine Sz0 ?_;exact Qc (congrArg PV.rat (Rat.mkRat_mul_mkRat _ _ _ _).symm) rfl
theorem Q22{n m:Bool}{a d b c:List Nat}{k:Nat}(hp:Raw k n a d)(hq:Raw k m b c)(hk:k<2^34):Qd Tryz.prog 114 [PV.rr n a d,PV.rr m b c] (· = .int .i64 (Qjl (rv n a d) (rv m b c))):=by
 have hx:=hp.rs;have hy:=hq.rs;unfold FW.rs at hx hy;refine Qf Qj Tryz.func114 rfl Qaj7 (by simp[c114]) fun C hP=>?_;simp only[c114];refine Sz0 ?_;refine Qa hP (Qe2 hp (by omega)) rfl rfl rfl ?_;refine Sz0 ?_;refine Qa hP (Qe2 hq (by omega)) rfl rfl rfl ?_;generalize rv n a d=p at *
 generalize rv m b c=q at *
 have h1:=Qbh p.num (q.den:Int);have h2:=Qbh q.num (p.den:Int);rw[Int.natAbs_natCast]at h1 h2;refine Sz0 ?_;refine Qa hP (Qh2 (dig q.den)) rfl rfl rfl ?_;refine Sz0 ?_;refine Qa hP (Qm4 (x:=p.num) (d:=q.den) (by omega) (by omega)) rfl rfl rfl ?_;refine Sz0 ?_;refine Qa hP (Qh2 (dig p.den)) rfl rfl rfl ?_;refine Sz0 ?_;refine Qa hP (Qm4 (x:=q.num) (d:=p.den) (by omega) (by omega)) rfl rfl rfl ?_;refine Sz0 ?_;refine Qa hP (Q93 (x:=p.num*(q.den:Int)) (y:=q.num*(p.den:Int)) (by omega) (by omega)) rfl rfl rfl ?_;refine Sz0 ?_;exact Qc (congrArg (PV.int .i64) (by rw[<-Q3w p.den_nz q.den_nz,Rat.mkRat_self,Rat.mkRat_self])) rfl
theorem Qsy{n m:Bool}{a d b c:List Nat}{k:Nat}(hp:Raw k n a d)(hq:Raw k m b c)(hk:k<2^34):Qd Tryz.prog 63 [PV.rr n a d,PV.rr m b c] (· =PV.rat (rv n a d+rv m b c)):=by
 have hx:=hp.rs;have hy:=hq.rs;unfold FW.rs at hx hy;refine Qf Qj Tryz.func63 rfl Qapb (by simp[c63]) fun C hP=>?_;simp only[c63];refine Sz0 ?_;refine Qa hP (Qe2 hp (by omega)) rfl rfl rfl ?_;refine Sz0 ?_;refine Qa hP (Qe2 hq (by omega)) rfl rfl rfl ?_;generalize rv n a d=p at *
 generalize rv m b c=q at *
 have h1:=Qbh p.num (q.den:Int);have h2:=Qbh q.num (p.den:Int);have h3:=Qgl (p.num*(q.den:Int)) (q.num*(p.den:Int));have h4:=Qdl p.den q.den;rw[Int.natAbs_natCast]at h1 h2;refine Sz0 ?_;refine Qa hP (Qh2 (dig q.den)) rfl rfl rfl ?_;refine Sz0 ?_;refine Qa hP (Qm4 (x:=p.num) (d:=q.den) (by omega) (by omega)) rfl rfl rfl ?_;refine Sz0 ?_;refine Qa hP (Qh2 (dig p.den)) rfl rfl rfl ?_;refine Sz0 ?_;refine Qa hP (Qm4 (x:=q.num) (d:=p.den) (by omega) (by omega)) rfl rfl rfl ?_;refine Sz0 ?_;refine Qa hP (Q92 (x:=p.num*(q.den:Int)) (y:=q.num*(p.den:Int)) (by omega) (by omega)) rfl rfl rfl ?_;refine Sz0 ?_;refine Qa hP (Qli (x:=p.den) (y:=q.den) (by omega) (by omega)) rfl rfl rfl ?_;refine Sz0 ?_;refine Qa hP (Qpl (z:=p.num*(q.den:Int)+q.num*(p.den:Int)) (D:=p.den*q.den) (by omega) (by omega)) rfl rfl rfl ?_;refine Sz0 ?_;refine Qbs ?_;refine Sz0 ?_;exact Qc (congrArg PV.rat (by rw[<-Rat.mkRat_add_mkRat _ _ p.den_nz q.den_nz,Rat.mkRat_self,Rat.mkRat_self])) rfl
theorem Qzb{n:Bool}{a d:List Nat}{k:Nat}(hp:Raw k n a d)(hk:k<2^36):Qd Tryz.prog 53 [PV.rr n a d] (· = .bool (Qi1 n a d)):=by
 obtain⟨ha,hd,sa,sd,k1⟩:=hp;have hgl:(dig (Nat.gcd (val a) (val d))).length<2^43:=by
  by_cases h0:val d=0
  ·rw[h0,Nat.gcd_zero_right];have h4:=Qau ha;unfold nl at h4;omega
  ·have h3:=Qbm (Nat.gcd_le_right (val a) (Nat.pos_of_ne_zero h0));have h4:=Qau hd;unfold nl at h3 h4;omega
 refine Qf Qj Tryz.func53 rfl Qao7 (by simp[c53]) fun C hP=>?_;simp only[c53];refine Sz0 ?_;refine Qa hP (Qza ha (by omega)) rfl rfl rfl ?_;unfold Qi1;refine Sz0 ?_;cases hio:Qhl n a
 ·refine Sz0 ?_;exact Qc (by simp) rfl
 rw[Bool.true_and];refine Sz0 ?_;refine Qa hP (Qp0 hd (by omega)) rfl rfl rfl ?_;refine Sz0 ?_;refine Qhg (fun hv=>?_) (fun hv=>?_)
 ·refine Sz0 ?_;refine Qa hP (Qsw ha hd (by omega) (by omega)) rfl rfl rfl ?_;refine Sz0 ?_;refine Qa hP (Qdp (n:=1) (by omega)) rfl rfl rfl ?_;refine Sz0 ?_;refine Qa hP (Q1r hgl (by rw[Qhi];decide)) rfl rfl rfl ?_;rw[Qhi,decide_eq_decide.2 (Qss (Nat.gcd (val a) (val d)))];refine Sz0 ?_;refine Qat (fun hg=>?_) (fun hg=>?_)
  ·refine Sz0 ?_;exact Qc (congrArg PV.bool (by cases d<;>simp_all)) rfl
  ·refine Sz0 ?_;exact Qc (congrArg PV.bool (by simp[hg])) rfl
 ·refine Sz0 ?_;exact Qc (congrArg PV.bool (by simp_all)) rfl
theorem Qmf(x:Int):Qd Tryz.prog 102 [.int .i64 x] (· = .int .i64 (sgn x)):=by
 refine Qf Qj Tryz.func102 rfl Qajh (by simp[c102]) fun C hP=>?_;simp only[c102];refine Sz0 ?_;refine Qb (fun h=>?_) (fun h=>?_)
 ·refine Sz0 ?_;exact Qc (by rw[sgn,if_pos h]) rfl
 refine Sz0 ?_;refine Qb (fun h2=>?_) (fun h2=>?_)
 ·refine Sz0 ?_;exact Qc (by rw[sgn,if_neg h,if_pos h2]) rfl
 ·refine Sz0 ?_;exact Qc (by rw[sgn,if_neg h,if_neg h2]) rfl
theorem Qsz{a:List Int}{v:Int}(hl:a.length<2^42):Qd Tryz.prog 87 [PV.mono a,.int .i64 v] (· = .int .i64 (if v<0 then 0 else eN a v.toNat)):=by
 refine Qf Qj Tryz.func87 rfl Qan2 (by simp[c87]) fun C hP=>?_;simp only[c87];refine Sz0 ?_;refine Qab (fun h1=>?_) (fun h1=>?_)
 ·refine Sz0 ?_;exact Qc (by rw[if_pos h1]) rfl
 ·obtain⟨n,rfl⟩:∃n:Nat,v=n:=⟨v.toNat,by omega⟩
  rw[if_neg h1];refine Sz0 ?_;refine Qb (fun h2=>?_) (fun h2=>?_)
  ·refine Sz0 ?_;exact Qc (by rw[Qcs (by omega)]) rfl
  ·have hn:n<a.length:=by omega
   refine Sz0 ?_;exact Qc (by rw[Qc2 hn]) rfl
theorem Qcw{a:List Int}{i:Nat}(hl:a.length<2^42):Qd Tryz.prog 87 [PV.mono a,.int .i64 i] (· = .int .i64 (eN a i)):=by
 have:=Qsz (v:=i) hl
 rwa[if_neg (by omega),Int.toNat_natCast]at this
theorem Qfy{a:List Int}(hl:a.length<=1048576)(hb:∀x∈a,0<=x/\x<=1099511627776):Qd Tryz.prog 57 [PV.mono a] (· = .int .i64 (Qgt a)):=by
 refine Qf Qj Tryz.func57 rfl Qan1 (by simp[c57]) fun C hP=>?_;simp only[c57];refine Sz0 ?_;refine Qy (by repeat (first|exact Qu|exact Qn|exact Qo|exact Qk|exact Qp|apply Qm|apply Qt|apply Qw|apply Q5|apply Q6|apply Qi|apply Qz)) [(3,16)] [] (fun k J hp=>∃(i:Nat)(s:Int),k=a.length-i/\i<=a.length/\0<=s/\s<=1099511627776*i/\s+(a.drop i).sum=Qgt a/\J 4= .int .i64 (i:Nat)/\J 3= .int .i64 s/\hp=hp0) a.length ?_ ?_
 ·refine⟨0,0,rfl,by omega,by omega,by omega,by simp[Qgt],?_⟩;refine Sz0 ?_;simp
 rintro _ J _ ⟨i,s,rfl,hi,hs0,hs1,hsum,h4,h3,rfl⟩;refine Sz2 h4 h3 ?_;refine Qb (fun hg=>?_) (fun hg=>?_)
 ·have hi':i<a.length:=by omega
  have hx:=hb _ (List.getElem_mem hi');rw[List.drop_eq_getElem_cons hi',List.sum_cons]at hsum;generalize hxx:a[i]=x at *
  refine Sz3 h4 h3 hxx ?_;refine Qh (a.length-(i+1)) (by omega) ⟨i+1,s+x,rfl,by omega,by omega,by push_cast;omega,by omega,?_⟩;exact Tz0
 ·rw[List.drop_of_length_le (by omega),List.sum_nil,Int.add_zero]at hsum;refine Sz1 h3 ?_;exact Qc (by rw[hsum]) rfl
theorem Q23{l:List Int}(hl:l.length<2^42):Qd Tryz.prog 156 [PV.mono l] (· =PV.mono (Qdf l)):=by
 refine Qf Qj Tryz.func156 rfl Qaje (by simp[c156]) fun C hP=>?_;simp only[c156];refine Sz0 ?_;refine Qy (by repeat (first|exact Qu|exact Qn|exact Qo|exact Qk|exact Qp|apply Qm|apply Qt|apply Qw|apply Q5|apply Q6|apply Qi|apply Qz)) [(3,3),(7,18)] [] (fun m J hp=>m<=l.length/\Qg6 l m=Qdf l/\J 3= .int .i64 m/\hp=hp0) l.length ?_ ?_
 ·refine⟨Nat.le_refl _,rfl,?_⟩;exact Tz0
 rintro n J _ ⟨hn,hc,h3,rfl⟩;refine Sz1 h3 ?_;refine Qat (fun hg=>?_) (fun hg=>?_)
 ·obtain _|n:=n
  ·omega
  have e:((n+1:Nat):Int)-1=n:=by omega
  simp only[Qg6]at hc;simp+decide (disch:=first|omega|rfl|(simp+decide only[go_sem,↓reduceIte,h3,e]<;>rfl)|fail) only[go_sem,↓reduceIte,h3,e];refine Qb (fun hz=>?_) (fun hz=>?_)
  ·rw[if_pos (by simp[hz,show n<l.length by omega])]at hc;refine Sz2 h3 e ?_;refine Qh n (by omega) ⟨by omega,hc,?_⟩;exact Tz0
  ·rw[if_neg (by simpa[show n<l.length by omega]using hz)]at hc;have hlt:(l.take (n+1)).length<2^42:=by rw[List.length_take];omega
   refine Vz2 h3 e ?_;exact Qc (by rw[List.take_of_length_le (by simp),hc]) rfl
 ·obtain rfl:n=0:=by omega
  simp+decide (disch:=first|omega|rfl|(simp+decide only[go_sem,↓reduceIte,h3,List.take_zero,List.map_nil,List.length_nil]<;>rfl)|fail) only[go_sem,↓reduceIte,h3,List.take_zero,List.map_nil,List.length_nil];rw[Qk8 (ys:=[]) rfl (by omega) (by simp) (by simp)];refine Vz0 ?_;exact Qc (by rw[<-hc];rfl) rfl
theorem Qp2{a:List Int}(hl:a.length<2^42):Qd Tryz.prog 55 [PV.mono a] (· = .bool (Qby a)):=by
 refine Qf Qj Tryz.func55 rfl Qan0 (by simp[c55]) fun C hP=>?_;simp only[c55];refine Sz0 ?_;have bad:(64<a.length∨a.getLast? =some 0∨∃x∈a,x<0∨1048576<x)->Qby a=false:=fun h=>by
  cases hb:Qby a with
  |false=>rfl
  |true=>
   have:=MB.ofOk hb;simp only[Qby,Bool.and_eq_true,decide_eq_true_eq]at hb;rcases h with h|h|⟨x,hx,h⟩
   ·omega
   ·exact absurd h hb.2.1
   ·have h5:=this.lo x hx;have h6:=this.hi x hx;omega
 refine Qab (fun h1=>?_) (fun h1=>?_)
 ·refine Sz0 ?_;exact Qc (by rw[bad (.inl (by omega))]) rfl
 refine Sz0 ?_;have fin:a.length<=64->a.getLast? ≠some 0->(∀x∈a,0<=x/\x<=1048576)->Qby a=true:=fun h1 h2 h3=>by simp only[Qby,Bool.and_eq_true,decide_eq_true_eq,List.all_eq_true];exact⟨h1,h2,h3⟩
 refine Qat (fun h2=>?_) (fun h2=>?_)
 ·obtain⟨k,hk⟩:∃k,a.length=k+1:=⟨a.length-1,by omega⟩
  have hlast:=Qoy hk;have e:((k+1:Nat):Int)-1=k:=by omega
  generalize hy:a[k]'(by omega)=y at *
  refine Sz3 hk e hy ?_;refine Qb (fun h3=>?_) (fun h3=>?_)
  ·refine Sz0 ?_;exact Qc (by rw[bad (.inr (.inl (by rw[hlast,h3])))]) rfl
  have hlast:a.getLast? ≠some 0:=by rw[hlast];simpa using h3
  rw[<-hk]at *
  refine Sz0 ?_;refine Qy (by repeat (first|exact Qu|exact Qn|exact Qo|exact Qk|exact Qp|apply Qm|apply Qt|apply Qw|apply Q5|apply Q6|apply Qi|apply Qz)) [(2,3),(21,38)] [] (fun k J hp=>∃i,k=a.length-i/\i<=a.length/\(∀x∈a.take i,0<=x/\x<=1048576)/\J 3= .int .i64 i/\hp=hp0) a.length ?_ ?_
  ·refine⟨0,rfl,by omega,by simp,?_⟩;refine Sz0 ?_;rfl
  rintro _ J _ ⟨i,rfl,hi,hall,hj,rfl⟩;refine Sz1 hj ?_;refine Qb (fun hg=>?_) (fun hg=>?_)
  ·have hi':i<a.length:=by omega
   have hmem:=List.getElem_mem hi';have htk:∀x∈a.take (i+1),x∈a.take i∨x=a[i]:=fun x hx=>by
    rw[List.take_succ_eq_append_getElem hi']at hx;rcases List.mem_append.1 hx with h|h
    ·exact .inl h
    ·exact .inr (List.mem_singleton.1 h)
   generalize hx:a[i]=x at *
   refine Sz2 hj hx ?_;refine Qab (fun h5=>?_) (fun h5=>?_)
   ·refine Sz0 ?_;exact Qc (by rw[bad (.inr (.inr ⟨x,hmem,.inl h5⟩))]) rfl
   ·refine Sz2 hj hx ?_;refine Qb (fun h6=>?_) (fun h6=>?_)
    ·refine Sz0 ?_;exact Qc (by rw[bad (.inr (.inr ⟨x,hmem,.inr h6⟩))]) rfl
    ·refine Sz1 hj ?_;refine Qh (a.length-(i+1)) (by omega) ⟨i+1,rfl,by omega,fun y hy=>?_,?_⟩
     ·rcases htk y hy with h|rfl
      ·exact hall y h
      ·omega
     ·exact Tz0
  ·rw[List.take_of_length_le (by omega)]at hall;refine Sz0 ?_;exact Qc (by rw[fin (by omega) hlast hall]) rfl
 ·have hnil:a=[]:=List.length_eq_zero_iff.1 (by omega);have hlast:a.getLast? ≠some 0:=by rw[hnil];simp
  refine Sz0 ?_;refine Qy (by repeat (first|exact Qu|exact Qn|exact Qo|exact Qk|exact Qp|apply Qm|apply Qt|apply Qw|apply Q5|apply Q6|apply Qi|apply Qz)) [(2,3),(21,38)] [] (fun k J hp=>∃i,k=a.length-i/\i<=a.length/\(∀x∈a.take i,0<=x/\x<=1048576)/\J 3= .int .i64 i/\hp=hp0) a.length ?_ ?_
  ·refine⟨0,rfl,by omega,by simp,?_⟩;refine Sz0 ?_;rfl
  rintro _ J _ ⟨i,rfl,hi,hall,hj,rfl⟩;refine Sz1 hj ?_;refine Qb (fun hg=>?_) (fun hg=>?_)
  ·have hi':i<a.length:=by omega
   have hmem:=List.getElem_mem hi';have htk:∀x∈a.take (i+1),x∈a.take i∨x=a[i]:=fun x hx=>by
    rw[List.take_succ_eq_append_getElem hi']at hx;rcases List.mem_append.1 hx with h|h
    ·exact .inl h
    ·exact .inr (List.mem_singleton.1 h)
   generalize hx:a[i]=x at *
   refine Sz2 hj hx ?_;refine Qab (fun h5=>?_) (fun h5=>?_)
   ·refine Sz0 ?_;exact Qc (by rw[bad (.inr (.inr ⟨x,hmem,.inl h5⟩))]) rfl
   ·refine Sz2 hj hx ?_;refine Qb (fun h6=>?_) (fun h6=>?_)
    ·refine Sz0 ?_;exact Qc (by rw[bad (.inr (.inr ⟨x,hmem,.inr h6⟩))]) rfl
    ·refine Sz1 hj ?_;refine Qh (a.length-(i+1)) (by omega) ⟨i+1,rfl,by omega,fun y hy=>?_,?_⟩
     ·rcases htk y hy with h|rfl
      ·exact hall y h
      ·omega
     ·exact Tz0
  ·rw[List.take_of_length_le (by omega)]at hall;refine Sz0 ?_;exact Qc (by rw[fin (by omega) hlast hall]) rfl
theorem Qq9{a:List Int}(hl:a.length<2^42):Qd Tryz.prog 135 [PV.mono a] (· =PV.mono (if Qby (Qdf a)then Qdf a else [])):=by
 have ht:=Qd7 a;refine Qf Qj Tryz.func135 rfl Qajf (by simp[c135]) fun C hP=>?_;simp only[c135];refine Sz0 ?_;refine Qa hP (Q23 hl) rfl rfl rfl ?_;refine Sz0 ?_;refine Qa hP (Qp2 (by omega)) rfl rfl rfl ?_;refine Sz0 ?_;cases hok:Qby (Qdf a)
 ·refine Sz1 @Bool.not_false ?_;exact Qeq (Qx6 (by simp)) rfl
 ·have:(Qdf a).length<=64:=(MB.ofOk hok).len;refine Vz1 @Bool.not_true ?_;exact Qc (by simp[List.take_of_length_le]) rfl
theorem Q24{k:Nat}{a b:List Int}(ha:MB k a)(hb:MB k b)(hk:k<=1099511627776):Qd Tryz.prog 111 [PV.mono a,PV.mono b] (· =PV.mono (Qg8 (· + ·) a b)):=by
 have h1:=ha.len;have h2:=hb.len;have hz:=Qc6 (· + ·) a b;refine Qf Qj Tryz.func111 rfl Qajg (by simp[c111]) fun C hP=>?_;simp only[c111];refine Sz0 ?_;refine Qes 5 900 1 3 (by omega) Tz0 ?_;refine Qy (by repeat (first|exact Qu|exact Qn|exact Qo|exact Qk|exact Qp|apply Qm|apply Qt|apply Qw|apply Q5|apply Q6|apply Qi|apply Qz)) [(5,28)] [27,28,900] (fun m J hp=>∃(i:Nat)(out:List Int),m=max a.length b.length-i/\i<=max a.length b.length/\out=(Qg8 (· + ·) a b).take i/\J 5= .ms 900 out.length/\J 6= .int .i64 i/\hp 900=some ⟨1,3,Qee out,false⟩) (max a.length b.length) ?_ ?_
 ·refine⟨0,[],rfl,by omega,by simp,?_⟩;refine Sz0 ?_;simp
 rintro _ J h ⟨i,out,rfl,hi,hout,h5,h6,hh⟩;have hol:out.length=i:=by rw[hout,List.length_take,hz];omega
 refine Sz2 h5 h6 ?_;refine Qab (fun hg=>?_) (fun hg=>?_)
 ·have hlt:i<max a.length b.length:=by omega
  have htk:=Qqq (g:=(· + ·)) hlt;have ea:=ha.eN i;have eb:=hb.eN i;refine Sz2 h5 h6 ?_;refine Qa hP (Qcw (a:=a) (i:=i) (by omega)) rfl rfl rfl ?_;refine Sz2 h5 h6 ?_;refine Qa hP (Qcw (a:=b) (i:=i) (by omega)) rfl rfl rfl ?_;refine Sz2 h5 h6 ?_;rw[Qag (f:=fun(x:Int)=>.int .i64 x) (y:=eN a i+eN b i) (xs:=out) (ty':=3) (fz:=false) (Tz1 hh) Qcv (by omega) rfl (by omega) (by omega)];refine Sz2 h5 h6 ?_;refine Qh (max a.length b.length-(i+1)) (by omega) ⟨i+1,out++[eN a i+eN b i],rfl,by omega,by rw[htk,hout],?_⟩;refine Sz0 ?_;simp
 refine Sz2 h5 h6 ?_;refine Qb (fun hg2=>?_) (fun hg2=>?_)
 ·have hlt:i<max a.length b.length:=by omega
  have htk:=Qqq (g:=(· + ·)) hlt;have ea:=ha.eN i;have eb:=hb.eN i;refine Sz2 h5 h6 ?_;refine Qa hP (Qcw (a:=a) (i:=i) (by omega)) rfl rfl rfl ?_;refine Sz2 h5 h6 ?_;refine Qa hP (Qcw (a:=b) (i:=i) (by omega)) rfl rfl rfl ?_;refine Sz2 h5 h6 ?_;rw[Qag (f:=fun(x:Int)=>.int .i64 x) (y:=eN a i+eN b i) (xs:=out) (ty':=3) (fz:=false) (Tz1 hh) Qcv (by omega) rfl (by omega) (by omega)];refine Sz2 h5 h6 ?_;refine Qh (max a.length b.length-(i+1)) (by omega) ⟨i+1,out++[eN a i+eN b i],rfl,by omega,by rw[htk,hout],?_⟩;refine Sz0 ?_;simp
 obtain rfl:i=max a.length b.length:=by omega
 rw[List.take_of_length_le (by omega)]at hout;subst hout;refine Vz2 h5 hh ?_;exact Qc (by rw[List.take_of_length_le (by simp)]) rfl
theorem Qtu(x y:Int):sgn (x-y)=Qbx x y:=by unfold sgn Qbx;(repeat' split)<;>omega
theorem Q25{k:Nat}{a b:List Int}{o:Int}(ha:MB k a)(hb:MB k b)(hk:k<=1099511627776):Qd Tryz.prog 56 [PV.mono a,PV.mono b,.int .i64 o] (· = .int .i64 (Qgu o a b)):=by
 have h1:=ha.len;have h2:=hb.len;have hda:∀x∈a,0<=x/\x<=1099511627776:=fun x hx=>by have:=ha.lo x hx;have:=ha.hi x hx;omega
 have hdb:∀x∈b,0<=x/\x<=1099511627776:=fun x hx=>by have:=hb.lo x hx;have:=hb.hi x hx;omega
 have da:=Qwz ha;have db:=Qwz hb;refine Qf Qj Tryz.func56 rfl Qan3 (by simp[c56]) fun C hP=>?_;simp only[c56];refine Sz0 ?_;refine Qat (fun ho=>?_) (fun ho=>?_)
 ·refine Sz0 ?_;refine Qa hP (Qfy (by omega) hda) rfl rfl rfl ?_;refine Sz0 ?_;refine Qa hP (Qfy (by omega) hdb) rfl rfl rfl ?_;refine Sz0 ?_;refine Qb (fun hd=>?_) (fun hd=>?_)
  ·have hord:Qgu o a b=Qbx (Qgt a) (Qgt b):=by unfold Qgu;rw[if_pos ⟨ho,hd⟩]
   refine Sz0 ?_;refine Qa hP (Qfy (by omega) hda) rfl rfl rfl ?_;refine Sz0 ?_;refine Qa hP (Qfy (by omega) hdb) rfl rfl rfl ?_;refine Sz0 ?_;refine Qa hP (Qmf _) rfl rfl rfl ?_;refine Sz0 ?_;exact Qc (by rw[hord,Qtu]) rfl
  have hord:Qgu o a b=Qak a b:=by unfold Qgu;rw[if_neg (fun h=>hd h.2)]
  refine Sz0 ?_;refine Qy (by repeat (first|exact Qu|exact Qn|exact Qo|exact Qk|exact Qp|apply Qm|apply Qt|apply Qw|apply Q5|apply Q6|apply Qi|apply Qz)) [(6,7),(29,47)] [] (fun n J hp=>n<=max a.length b.length/\Qb9 a b n=Qak a b/\J 7= .int .i64 ((n:Int)-1)/\hp=hp0) (max a.length b.length) ?_ ?_
  ·refine⟨by omega,rfl,?_⟩;exact Tz0
  rintro n J _ ⟨hn,hc,h7,rfl⟩;refine Sz1 h7 ?_;refine Qb (fun hg=>?_) (fun hg=>?_)
  ·obtain _|n:=n
   ·omega
   have e:((n+1:Nat):Int)-1=n:=by omega
   have ea:=ha.eN n;have eb:=hb.eN n;rw[Qb9]at hc;refine Sz2 h7 e ?_;refine Qa hP (Qcw (by omega)) rfl rfl rfl ?_;refine Sz2 h7 e ?_;refine Qa hP (Qcw (by omega)) rfl rfl rfl ?_;refine Sz2 h7 e ?_;refine Qb (fun h4=>?_) (fun h4=>?_)
   ·rw[if_neg h4]at hc;refine Sz2 h7 e ?_;refine Qa hP (Qcw (by omega)) rfl rfl rfl ?_;refine Sz2 h7 e ?_;refine Qa hP (Qcw (by omega)) rfl rfl rfl ?_;refine Sz2 h7 e ?_;refine Qa hP (Qmf _) rfl rfl rfl ?_;refine Sz2 h7 e ?_;exact Qc (by rw[hord,<-hc,Qtu]) rfl
   ·rw[if_pos (by omega)]at hc;refine Sz2 h7 e ?_;refine Qh n (by omega) ⟨by omega,hc,?_⟩;exact Tz0
  ·obtain rfl:n=0:=by omega
   refine Sz0 ?_;exact Qc (by rw[hord,<-hc];rfl) rfl
 ·have hord:Qgu o a b=Qak a b:=by unfold Qgu;rw[if_neg (fun h=>ho h.1)]
  refine Sz0 ?_;refine Qy (by repeat (first|exact Qu|exact Qn|exact Qo|exact Qk|exact Qp|apply Qm|apply Qt|apply Qw|apply Q5|apply Q6|apply Qi|apply Qz)) [(6,7),(29,47)] [] (fun n J hp=>n<=max a.length b.length/\Qb9 a b n=Qak a b/\J 7= .int .i64 ((n:Int)-1)/\hp=hp0) (max a.length b.length) ?_ ?_
  ·refine⟨by omega,rfl,?_⟩;exact Tz0
  rintro n J _ ⟨hn,hc,h7,rfl⟩;refine Sz1 h7 ?_;refine Qb (fun hg=>?_) (fun hg=>?_)
  ·obtain _|n:=n
   ·omega
   have e:((n+1:Nat):Int)-1=n:=by omega
   have ea:=ha.eN n;have eb:=hb.eN n;rw[Qb9]at hc;refine Sz2 h7 e ?_;refine Qa hP (Qcw (by omega)) rfl rfl rfl ?_;refine Sz2 h7 e ?_;refine Qa hP (Qcw (by omega)) rfl rfl rfl ?_;refine Sz2 h7 e ?_;refine Qb (fun h4=>?_) (fun h4=>?_)
   ·rw[if_neg h4]at hc;refine Sz2 h7 e ?_;refine Qa hP (Qcw (by omega)) rfl rfl rfl ?_;refine Sz2 h7 e ?_;refine Qa hP (Qcw (by omega)) rfl rfl rfl ?_;refine Sz2 h7 e ?_;refine Qa hP (Qmf _) rfl rfl rfl ?_;refine Sz2 h7 e ?_;exact Qc (by rw[hord,<-hc,Qtu]) rfl
   ·rw[if_pos (by omega)]at hc;refine Sz2 h7 e ?_;refine Qh n (by omega) ⟨by omega,hc,?_⟩;exact Tz0
  ·obtain rfl:n=0:=by omega
   refine Sz0 ?_;exact Qc (by rw[hord,<-hc];rfl) rfl
theorem Qaff{a b:Rat}{k:Nat}(ha:rs a<=k)(hb:rs b<=k)(hk:k<2^34):Qd Tryz.prog 63 [PV.rat a,PV.rat b] (· =PV.rat (a+b)):=by
 have:=Qsy (Qc7 ha) (Qc7 hb) hk
 rwa[Qdo,Qdo]at this
theorem Q1t{a b:Rat}{k:Nat}(ha:rs a<=k)(hb:rs b<=k)(hk:k<2^34):Qd Tryz.prog 110 [PV.rat a,PV.rat b] (· =PV.rat (a*b)):=by
 have:=Q21 (Qc7 ha) (Qc7 hb) hk
 rwa[Qdo,Qdo]at this
theorem Qafg{a b:Rat}{k:Nat}(ha:rs a<=k)(hb:rs b<=k)(hk:k<2^34):Qd Tryz.prog 114 [PV.rat a,PV.rat b] (· = .int .i64 (Qjl a b)):=by
 have:=Q22 (Qc7 ha) (Qc7 hb) hk
 rwa[Qdo,Qdo]at this
theorem Qra{a:Rat}(ha:rs a<2^36):Qd Tryz.prog 54 [PV.rat a] (· = .int .i64 (Qef a)):=by
 have:=Qi8 (Qc7 (Nat.le_refl (rs a))) ha
 rwa[Qdo]at this
theorem Qrb{k:Nat}{a b:List Int}(ha:MB k a)(hb:MB k b)(hk:k<=1099511627776):Qd Tryz.prog 56 [PV.mono a,PV.mono b,.int .i64 0] (· = .int .i64 (Qak a b)):=by
 have:=Q25 (o:=0) ha hb hk
 rwa[Qu2]at this
theorem Q26{p q:List Tm}{K E:Nat}(hp:PB K E p)(hq:PB K E q)(hK:K<=2^33)(hE:E<=2^38)(hlp:p.length<=2^36)(hlq:q.length<=2^36):
  Qd Tryz.prog 67 [PV.poly p,PV.poly q] (· = .int .i64 (Qe0 p q)):=by
 refine Qf Qj Tryz.func67 rfl Qan5 (by simp[c67]) fun C hP=>?_;simp only[c67];refine Sz0 ?_;refine Qy (by repeat (first|exact Qu|exact Qn|exact Qo|exact Qk|exact Qp|apply Qm|apply Qt|apply Qw|apply Q5|apply Q6|apply Qi|apply Qz)) [(4,47)] [] (fun n J hp=>∃i,n=p.length-i/\i<=p.length/\i<=q.length/\Qe0 (p.drop i) (q.drop i)=Qe0 p q/\J 5= .int .i64 (i:Nat)) p.length ?_ ?_
 ·refine⟨0,rfl,by omega,by omega,rfl,?_⟩;refine Sz0 ?_;rfl
 rintro _ J h ⟨i,rfl,hi,hi2,hpc,h5⟩;refine Sz1 h5 ?_;refine Qat (fun hg=>?_) (fun hg=>?_)
 ·have hi':i<p.length:=by omega
  refine Sz1 h5 ?_;refine Qb (fun hk=>?_) (fun hk=>?_)
  ·have hk':i<q.length:=by omega
   have htp:=hp.get hi';have htq:=hq.get hk';have c1:=htp.c;have c2:=htq.c;rw[Qx8 hi' hk']at hpc;generalize hx:p[i]=x at *
   generalize hy:q[i]=y at *
   refine Sz3 h5 hx hy ?_;refine Qa hP (Qrb htp.m htq.m (by omega)) rfl rfl rfl ?_;refine Sz3 h5 hx hy ?_;refine Qb (fun hc=>?_) (fun hc=>?_)
   ·refine Sz0 ?_;exact Qc (by rw[<-hpc,if_pos (by rw[Qi3,if_pos hc];exact hc),Qi3,if_pos hc]) rfl
   ·refine Sz3 h5 hx hy ?_;refine Qa hP (Qafg (a:=x.1) (b:=y.1) (k:=2^33) (by omega) (by omega) (by omega)) rfl rfl rfl ?_;refine Sz3 h5 hx hy ?_;refine Qb (fun hc2=>?_) (fun hc2=>?_)
    ·refine Sz0 ?_;exact Qc (by rw[<-hpc,if_pos (by rw[Qi3,if_neg hc];exact hc2),Qi3,if_neg hc]) rfl
    ·rw[if_neg (by rw[Qi3,if_neg hc];exact hc2)]at hpc;refine Sz1 h5 ?_;refine Qh (p.length-(i+1)) (by omega) ⟨i+1,rfl,by omega,by omega,hpc,?_⟩;exact Tz0
  refine Sz0 ?_;refine Qb (fun hk=>?_) (fun hk=>?_)
  ·refine Sz0 ?_;exact Qc (by rw[<-hpc,List.drop_of_length_le (show p.length<=i by omega),Ql9,if_neg (by rw[List.length_drop];omega)]) rfl
  ·refine Sz0 ?_;refine Qb (fun hk2=>?_) (fun hk2=>?_)
   ·refine Sz0 ?_;refine Qc ?_ rfl;rw[<-hpc,List.drop_eq_getElem_cons (show i<p.length by omega),List.drop_of_length_le (show q.length<=i by omega),Qe0]
   ·refine Sz0 ?_;exact Qc (by rw[<-hpc,List.drop_of_length_le (show p.length<=i by omega),Ql9,if_pos (by rw[List.length_drop];omega)]) rfl
 ·have hi':i=p.length:=by omega
  refine Sz0 ?_;refine Qb (fun hk=>?_) (fun hk=>?_)
  ·refine Sz0 ?_;exact Qc (by rw[<-hpc,List.drop_of_length_le (show p.length<=i by omega),Ql9,if_neg (by rw[List.length_drop];omega)]) rfl
  ·refine Sz0 ?_;refine Qb (fun hk2=>?_) (fun hk2=>?_)
   ·refine Sz0 ?_;refine Qc ?_ rfl;rw[<-hpc,List.drop_eq_getElem_cons (show i<p.length by omega),List.drop_of_length_le (show q.length<=i by omega),Qe0]
   ·refine Sz0 ?_;exact Qc (by rw[<-hpc,List.drop_of_length_le (show p.length<=i by omega),Ql9,if_pos (by rw[List.length_drop];omega)]) rfl
theorem Qp3{p q:List Tm}{K E:Nat}(hp:PB K E p)(hq:PB K E q)(hK:K<=2^33)(hE:E<=2^38)(hlp:p.length<=2^36)(hlq:q.length<=2^36):Qd Tryz.prog 33 [PV.poly p,PV.poly q] (· = .bool (decide (p=q))):=by refine Qf Qj Tryz.func33 rfl Qan8 (by simp[c33]) fun C hP=>?_;simp only[c33];refine Sz0 ?_;refine Qa hP (Q26 hp hq hK hE hlp hlq) rfl rfl rfl ?_;refine Sz0 ?_;exact Qc (congrArg PV.bool (decide_eq_decide.2 (Qwy hp.last hq.last))) rfl
theorem Qj6{p q:List Tm}{K E:Nat}(hp:PB K E p)(hq:PB K E q)(hK:K<=2^32)(hE:E<=2^38)(hlp:p.length<=2^36)(hlq:q.length<=2^36):
  Qd Tryz.prog 29 [PV.poly p,PV.poly q] (· =PV.poly (Q4 p q)):=by
 refine Qf Qj Tryz.func29 rfl Qan4 (by simp[c29]) fun C hP=>?_;simp only[c29];refine Sz0 ?_;refine Qes 5 900 4 54 (by omega) Tz0 ?_;refine Qy (by repeat (first|exact Qu|exact Qn|exact Qo|exact Qk|exact Qp|apply Qm|apply Qt|apply Qw|apply Q5|apply Q6|apply Qi|apply Qz)) [(5,90)] [9,61,62,75,76,87,88,900] (fun n J hp=>∃i k out,n=(p.length-i)+(q.length-k)/\i<=p.length/\k<=q.length/\out.length<=i+k/\out++Q4 (p.drop i) (q.drop k)=Q4 p q/\
  J 5= .ms 900 out.length/\J 6= .int .i64 (i:Nat)/\J 7= .int .i64 (k:Nat)/\hp 900=some ⟨4,54,out.map PV.term,false⟩) (p.length+q.length) ?_ ?_
 ·refine⟨0,0,[],by omega,by omega,by omega,by simp,rfl,?_⟩;refine Sz0 ?_;simp
 rintro _ J h ⟨i,k,out,rfl,hi,hk,hol,hpad,h5,h6,h7,hh⟩;refine Sz3 h5 h6 h7 ?_;refine Qab (fun hg=>?_) (fun hg=>?_)
 ·have hi':i<p.length:=by omega
  refine Sz3 h5 h6 h7 ?_;refine Qb (fun h=>by omega) (fun _=>?_);refine Sz3 h5 h6 h7 ?_;refine Qb (fun hg2=>?_) (fun hg2=>?_)
  ·have hk':k<q.length:=by omega
   have htp:=hp.get hi';have htq:=hq.get hk';rw[Qx7 hi' hk']at hpad;have c1:=htp.c;have c2:=htq.c;generalize hx:p[i]=x at *
   generalize hy:q[k]=y at *
   refine Sz5 h5 h6 h7 hx hy ?_;refine Qa hP (Qrb htp.m htq.m (by omega)) rfl rfl rfl ?_;refine Sz5 h5 h6 h7 hx hy ?_;refine Qb (fun hc=>?_) (fun hc=>?_)
   ·rw[if_pos hc]at hpad;refine Sz4 h5 h6 h7 hx ?_;rw[Qag (f:=PV.term) (y:=x) (xs:=out) (ty':=54) (fz:=false) (Tz1 hh) Qcv (by omega) rfl (by omega) (by omega)];refine Sz4 h5 h6 h7 hx ?_;refine Qh ((p.length-(i+1))+(q.length-k)) (by omega) ⟨i+1,k,out++[x],rfl,by omega,hk,by simp;omega,by simpa using hpad,?_⟩;refine Sz3 h5 h6 h7 ?_;simp
   rw[if_neg hc]at hpad;refine Sz5 h5 h6 h7 hx hy ?_;refine Qb (fun hc2=>?_) (fun hc2=>?_)
   ·rw[if_pos hc2]at hpad;refine Sz4 h5 h6 h7 hy ?_;rw[Qag (f:=PV.term) (y:=y) (xs:=out) (ty':=54) (fz:=false) (Tz1 hh) Qcv (by omega) rfl (by omega) (by omega)];refine Sz4 h5 h6 h7 hy ?_;refine Qh ((p.length-i)+(q.length-(k+1))) (by omega) ⟨i,k+1,out++[y],rfl,by omega,by omega,by simp;omega,by simpa using hpad,?_⟩;refine Sz3 h5 h6 h7 ?_;simp
   rw[if_neg hc2]at hpad;have hra:=Quz x.1 y.1;refine Sz5 h5 h6 h7 hx hy ?_;refine Qfq ?_ ?_
   all_goals
    refine Sz5 h5 h6 h7 hx hy ?_;refine Qa hP (Qaff (a:=x.1) (b:=y.1) (k:=2^32) (by omega) (by omega) (by omega)) rfl rfl rfl ?_;refine Sz5 h5 h6 h7 hx hy ?_;refine Qa hP (Qra (a:=x.1+y.1) (by omega)) rfl rfl rfl ?_;refine Sz5 h5 h6 h7 hx hy ?_;refine Qb (fun hz=>?_) (fun hz=>?_)
    ·rw[if_neg (fun h=>hz (Qbd.2 h))]at hpad;refine Sz5 h5 h6 h7 hx hy ?_;rw[Qag (f:=PV.term) (y:=(x.1+y.1,x.2)) (xs:=out) (ty':=54) (fz:=false) (Tz1 hh) Qcv (by omega) rfl (by omega) (by omega)];refine Sz5 h5 h6 h7 hx hy ?_;refine Qh ((p.length-(i+1))+(q.length-(k+1))) (by omega) ⟨i+1,k+1,out++[(x.1+y.1,x.2)],rfl,by omega,by omega,by simp;omega,by simpa using hpad,?_⟩;refine Sz3 h5 h6 h7 ?_;simp
    ·rw[if_pos (Qbd.1 (Decidable.not_not.1 hz))]at hpad;refine Sz5 h5 h6 h7 hx hy ?_;refine Qh ((p.length-(i+1))+(q.length-(k+1))) (by omega) ⟨i+1,k+1,out,rfl,by omega,by omega,by omega,hpad,?_⟩;exact Tz4 h5 h6 h7 hh
  ·rw[List.drop_of_length_le (show q.length<=k by omega),Qcj,List.drop_eq_getElem_cons hi']at hpad;have hpad:out++p[i]::Q4 (p.drop (i+1)) (q.drop k)=Q4 p q:=by rw[List.drop_of_length_le (show q.length<=k by omega),Qcj];exact hpad
   generalize hx:p[i]=x at *
   refine Sz4 h5 h6 h7 hx ?_;rw[Qag (f:=PV.term) (y:=x) (xs:=out) (ty':=54) (fz:=false) (Tz1 hh) Qcv (by omega) rfl (by omega) (by omega)];refine Sz4 h5 h6 h7 hx ?_;refine Qh ((p.length-(i+1))+(q.length-k)) (by omega) ⟨i+1,k,out++[x],rfl,by omega,hk,by simp;omega,by simpa using hpad,?_⟩;refine Sz3 h5 h6 h7 ?_;simp
 ·have hi':i=p.length:=by omega
  refine Sz3 h5 h6 h7 ?_;refine Qb (fun hg2=>?_) (fun hg2=>?_)
  ·have hk':k<q.length:=by omega
   rw[List.drop_of_length_le (show p.length<=i by omega),Qez,List.drop_eq_getElem_cons hk']at hpad;have hpad:out++q[k]::Q4 (p.drop i) (q.drop (k+1))=Q4 p q:=by rw[List.drop_of_length_le (show p.length<=i by omega),Qez];exact hpad
   generalize hy:q[k]=y at *
   refine Sz4 h5 h6 h7 hy ?_;refine Qb (fun _=>?_) (fun h=>by omega);refine Sz4 h5 h6 h7 hy ?_;rw[Qag (f:=PV.term) (y:=y) (xs:=out) (ty':=54) (fz:=false) (Tz1 hh) Qcv (by omega) rfl (by omega) (by omega)];refine Sz4 h5 h6 h7 hy ?_;refine Qh ((p.length-i)+(q.length-(k+1))) (by omega) ⟨i,k+1,out++[y],rfl,by omega,by omega,by simp;omega,by simpa using hpad,?_⟩;refine Sz3 h5 h6 h7 ?_;simp
  ·rw[List.drop_of_length_le (show p.length<=i by omega),Qez,List.drop_of_length_le (show q.length<=k by omega),List.append_nil]at hpad;refine Vz4 h5 h6 h7 hh ?_;exact Qc (by rw[List.take_of_length_le (by simp),hpad]) rfl
theorem Q94{k l:Nat}{a b:List Int}(ha:MB k a)(hb:MB l b)(h1:a.getLast? ≠some 0)(h2:b.getLast? ≠some 0):Qg8 (· + ·) a b=Qay a b:=by
 rw[Qay,Qtk];rw[List.getLast?_eq_getElem?,Qc6];intro h;obtain⟨hl,hv⟩:=List.getElem?_eq_some_iff.1 h;rw[<-Qc2 hl,Q3z (by simp)]at hv;rw[Qc6]at hl;have p1:=(ha.eN (max a.length b.length-1)).1;have p2:=(hb.eN (max a.length b.length-1)).1;by_cases hc:b.length<=a.length
 ·apply h1;have e:max a.length b.length-1=a.length-1:=by omega
  rw[e]at hv p1 p2;rw[List.getLast?_eq_getElem?,List.getElem?_eq_getElem (by omega),<-Qc2 (by omega)];congr 1;omega
 ·apply h2;have e:max a.length b.length-1=b.length-1:=by omega
  rw[e]at hv p1 p2;rw[List.getLast?_eq_getElem?,List.getElem?_eq_getElem (by omega),<-Qc2 (by omega)];congr 1;omega
theorem Qzc{p:List Tm}{t:Tm}{K E:Nat}(hp:PB K E p)(ht:TB K E t)(hnz:NZ p)(ht0:t.1≠0)(hK:K<=2^33)(hE:E<=2^38)(hlp:p.length<=2^36):
  Qd Tryz.prog 64 [PV.poly p,PV.term t] (· =PV.poly (Qad p t)):=by
 refine Qf Qj Tryz.func64 rfl Qaoh (by simp[c64]) fun C hP=>?_;simp only[c64];refine Sz0 ?_;refine Qes 5 900 4 54 (by omega) Tz0 ?_;refine Qy (by repeat (first|exact Qu|exact Qn|exact Qo|exact Qk|exact Qp|apply Qm|apply Qt|apply Qw|apply Q5|apply Q6|apply Qi|apply Qz)) [(5,32)] [31,32,900] (fun n J hp=>∃i,n=p.length-i/\i<=p.length/\J 5= .ms 900 (Qad (p.take i) t).length/\J 6= .int .i64 (i:Nat)/\hp 3=some ⟨4,54,[PV.term t],false⟩/\hp 900=some ⟨4,54,(Qad (p.take i) t).map PV.term,false⟩) p.length ?_ ?_
 ·refine⟨0,rfl,by omega,?_⟩;refine Sz0 ?_;simp[Qad]
 rintro _ J h ⟨i,rfl,hi,h5,h6,hh3,hh⟩;refine Sz2 h5 h6 ?_;refine Qb (fun hg=>?_) (fun hg=>?_)
 ·have hi':i<p.length:=by omega
  have htp:=hp.get hi';have htk:=Qng (t:=t) hi';have hlen:=Qeg (p.take i) t;rw[List.length_take]at hlen;have c1:=htp.c;have c2:=ht.c;have hn0:=hnz _ (List.getElem_mem hi');generalize hx:p[i]=x at *
  have hzz:=Q94 htp.m ht.m htp.l ht.l;rw[if_neg (fun h=>by rcases Rat.mul_eq_zero.1 h with h|h<;>contradiction)]at htk;refine Sz4 h5 h6 hh3 hx ?_;refine Qa hP (Q1t (a:=x.1) (b:=t.1) (k:=2^33) (by omega) (by omega) (by omega)) rfl rfl rfl ?_;refine Sz4 h5 h6 hh3 hx ?_;refine Qa hP (Q24 htp.m ht.m (by omega)) rfl rfl rfl ?_;rw[hzz];refine Sz4 h5 h6 hh3 hx ?_;rw[Qag (f:=PV.term) (y:=(x.1*t.1,Qay x.2 t.2)) (xs:=Qad (p.take i) t) (ty':=54) (fz:=false) (Tz1 hh) Qcv (by omega) rfl (by omega) (by omega)];rw[<-htk];refine Sz4 h5 h6 hh3 hx ?_;refine Qh (p.length-(i+1)) (by omega) ⟨i+1,rfl,by omega,?_⟩;rw[htk];simp+decide (disch:=first|omega|rfl|(simp+decide only[go_sem,↓reduceIte,h5,h6,hh3,List.length_append]<;>rfl)|fail) only[go_sem,↓reduceIte,h5,h6,hh3,List.length_append]
 ·obtain rfl:i=p.length:=by omega
  rw[List.take_length]at h5 hh;refine Vz2 h5 hh ?_;exact Qc (by simp[List.take_of_length_le]) rfl
theorem Q6q{p q:List Tm}{i:Nat}(h:i<q.length):Qgz p (q.take (i+1))=Q4 (Qgz p (q.take i)) (Qad p q[i]):=by rw[List.take_succ_eq_append_getElem h,Qgz,List.foldl_append,Qgz];rfl
theorem Qs0{K E:Nat}{p:List Tm}(hp:PB K E p):∀(q out:List Tm)(L:Nat),PB K E q->PB L (E+E) out->PB (q.length*(K+K)+L) (E+E) (q.foldl (fun out t=>Q4 out (Qad p t)) out)/\(q.foldl (fun out t=>Q4 out (Qad p t)) out).length<=q.length*p.length+out.length
 | [],out,L,_,ho=>⟨by simpa using ho,by simp⟩
 |t::q,out,L,hq,ho=>by obtain⟨h1,h2⟩:=Qs0 hp q (Q4 out (Qad p t)) (L+(K+K)) (PB.cons.1 hq).2 (Qhm _ _ ho (Qf3 hp (PB.cons.1 hq).1));have h3:=Qeo out (Qad p t);have h4:=Qeg p t;refine⟨h1.mono (by rw[List.length_cons,Nat.add_mul];omega) (Nat.le_refl _),Nat.le_trans h2 ?_⟩;rw[List.length_cons,Nat.add_mul];omega
theorem Qafh{K E:Nat}{p q:List Tm}(hp:PB K E p)(hq:PB K E q):PB (q.length*(K+K)) (E+E) (Qgz p q)/\(Qgz p q).length<=q.length*p.length:=by have:=Qs0 hp q [] 0 hq (PB.nil _ _);simpa[Qgz]using this
theorem Qep{p q:List Tm}{K E:Nat}(hp:PB K E p)(hq:PB K E q)(hnp:NZ p)(hnq:NZ q)(hE:E<=2^37)(hlp:p.length<=2^30)(hlq:q.length<=2^30)(hlm:q.length*p.length<=2^36)(hK:q.length*(K+K)+(K+K)<=2^32):
  Qd Tryz.prog 30 [PV.poly p,PV.poly q] (· =PV.poly (Qgz p q)):=by
 refine Qf Qj Tryz.func30 rfl Qaoa (by simp[c30]) fun C hP=>?_;simp only[c30];refine Sz0 ?_;refine Qhn 5 4 Tz0 ?_;refine Qy (by repeat (first|exact Qu|exact Qn|exact Qo|exact Qk|exact Qp|apply Qm|apply Qt|apply Qw|apply Q5|apply Q6|apply Qi|apply Qz)) [(5,20)] [] (fun n J hp=>∃i,n=q.length-i/\i<=q.length/\J 5=PV.poly (Qgz p (q.take i))/\J 6= .int .i64 (i:Nat)) q.length ?_ ?_
 ·refine⟨0,rfl,by omega,?_⟩;refine Sz0 ?_;simp[Qgz]
 rintro _ J h ⟨i,rfl,hi,h5,h6⟩;refine Sz2 h5 h6 ?_;refine Qb (fun hg=>?_) (fun hg=>?_)
 ·have hi':i<q.length:=by omega
  have htq:=hq.get hi';have htk:=Q6q (p:=p) hi';have hn0:=hnq _ (List.getElem_mem hi');obtain⟨hb1,hb2⟩:=Qafh hp (hq.take i);have hbt:=Qf3 hp htq;have hlt:=Qeg p q[i];generalize hx:q[i]=x at *
  have e1:(q.take i).length=i:=by rw[List.length_take];omega
  rw[e1]at hb1 hb2;have e2:i*(K+K)<=q.length*(K+K):=Nat.mul_le_mul_right _ hi;have e3:i*p.length<=q.length*p.length:=Nat.mul_le_mul_right _ hi;refine Sz3 h5 h6 hx ?_;refine Qa hP (Qzc (t:=x) hp htq hnp hn0 (by omega) (by omega) (by omega)) rfl rfl rfl ?_;refine Sz3 h5 h6 hx ?_;refine Qa hP (Qj6 (K:=q.length*(K+K)+(K+K)) (E:=E+E) (hb1.mono (by omega) (by omega)) (hbt.mono (by omega) (by omega)) hK (by omega) (by omega) (by omega)) rfl rfl rfl ?_;refine Sz3 h5 h6 hx ?_;refine Qh (q.length-(i+1)) (by omega) ⟨i+1,rfl,by omega,?_⟩;rw[htk];exact Tz0
 ·obtain rfl:i=q.length:=by omega
  rw[List.take_length]at h5;refine Sz1 h5 ?_;exact Qc rfl rfl
theorem Qzd{p:List Tm}{a:Rat}{K E:Nat}(hp:PB K E p)(hnz:NZ p)(ha:rs a+1<=K)(hK:K<=2^33)(hE:E<=2^38)(hlp:p.length<=2^36):
  Qd Tryz.prog 105 [PV.poly p,PV.rat a] (· =PV.poly (Qcf p a)):=by
 refine Qf Qj Tryz.func105 rfl Qaji (by simp[c105]) fun C hP=>?_;simp only[c105];refine Sz0 ?_;refine Qes 5 900 4 54 (by omega) Tz0 ?_;refine Qy (by repeat (first|exact Qu|exact Qn|exact Qo|exact Qk|exact Qp|apply Qm|apply Qt|apply Qw|apply Q5|apply Q6|apply Qi|apply Qz)) [(5,33)] [32,33,900] (fun n J hp=>∃i,n=p.length-i/\i<=p.length/\J 5= .ms 900 (Qad (p.take i) (a,[])).length/\J 6= .int .i64 (i:Nat)/\hp 3=some ⟨3,51,[PV.rat a],false⟩/\hp 900=some ⟨4,54,(Qad (p.take i) (a,[])).map PV.term,false⟩) p.length ?_ ?_
 ·refine⟨0,rfl,by omega,?_⟩;refine Sz0 ?_;simp[Qad]
 rintro _ J h ⟨i,rfl,hi,h5,h6,hh3,hh⟩;refine Sz2 h5 h6 ?_;refine Qat (fun hg=>?_) (fun hg=>?_)
 ·have hi':i<p.length:=by omega
  have htp:=hp.get hi';have htk:=Qng (t:=(a,[])) hi';have hlen:=Qeg (p.take i) (a,[]);rw[List.length_take]at hlen;have c1:=htp.c;have hn0:=hnz _ (List.getElem_mem hi');generalize hx:p[i]=x at *
  refine Sz4 h5 h6 hh3 hx ?_;refine Qa hP (Qra (a:=a) (by omega)) rfl rfl rfl ?_;refine Sz4 h5 h6 hh3 hx ?_;refine Qb (fun hz=>?_) (fun hz=>?_)
  ·rw[if_neg (fun h=>by rcases Rat.mul_eq_zero.1 h with h|h;exact hn0 h;exact hz (Qbd.2 h)),Ql8 htp.l]at htk;refine Sz4 h5 h6 hh3 hx ?_;refine Qa hP (Q1t (a:=x.1) (b:=a) (k:=2^33) (by omega) (by omega) (by omega)) rfl rfl rfl ?_;refine Sz4 h5 h6 hh3 hx ?_;rw[Qag (f:=PV.term) (y:=(x.1*a,x.2)) (xs:=Qad (p.take i) (a,[])) (ty':=54) (fz:=false) (Tz1 hh) Qcv (by omega) rfl (by omega) (by omega)];rw[<-htk];refine Sz4 h5 h6 hh3 hx ?_;refine Qh (p.length-(i+1)) (by omega) ⟨i+1,rfl,by omega,?_⟩;rw[htk];simp+decide (disch:=first|omega|rfl|(simp+decide only[go_sem,↓reduceIte,h5,h6,hh3,List.length_append]<;>rfl)|fail) only[go_sem,↓reduceIte,h5,h6,hh3,List.length_append]
  ·have ha0:=Qbd.1 (Decidable.not_not.1 hz);have e0:∀l:List Tm,Qad l (a,[])=[]:=fun l=>by rw[ha0];simp[Qad]
   refine Vz3 h5 hh hh3 ?_;refine Qc ?_ rfl;rw[e0,Qcf,if_pos ha0];rfl
 ·obtain rfl:i=p.length:=by omega
  rw[List.take_length]at h5 hh;refine Vz3 h5 hh hh3 ?_;refine Qc ?_ rfl;rw[List.take_of_length_le (by simp),Qcf];split
  ·rename_i ha0;rw[ha0];simp[Qad]
  ·rfl
theorem Q27{p:List Tm}{K E:Nat}(hp:PB K E p)(hnz:NZ p)(hK2:2<=K)(hK:K<=2^33)(hE:E<=2^38)(hlp:p.length<=2^36):Qd Tryz.prog 62 [PV.poly p] (· =PV.poly (Qi2 p)):=by have h1:=Q5x;refine Qf Qj Tryz.func62 rfl Qaob (by simp[c62]) fun C hP=>?_;simp only[c62];refine Sz0 ?_;refine Qa hP (Qi7 (x:= -1) (by omega) (by omega)) rfl rfl rfl ?_;refine Sz0 ?_;refine Qa hP (Qzd (a:=((-1:Int):Rat)) hp hnz (by have:((-1:Int):Rat)= -1:=rfl;rw[this];omega) hK hE hlp) rfl rfl rfl ?_;refine Sz0 ?_;exact Qc rfl rfl
theorem Qnk{p q:List Tm}{K E:Nat}(hp:PB K E p)(hq:PB K E q)(hnz:NZ q)(hK2:2<=K)(hK:K<=2^31)(hE:E<=2^38)(hlp:p.length<=2^36)(hlq:q.length<=2^36):Qd Tryz.prog 28 [PV.poly p,PV.poly q] (· =PV.poly (Qgc p q)):=by have hl:=Qhz q (-1);refine Qf Qj Tryz.func28 rfl Qaof (by simp[c28]) fun C hP=>?_;simp only[c28];refine Sz0 ?_;refine Qa hP (Q27 hq hnz hK2 (by omega) hE hlq) rfl rfl rfl ?_;refine Sz0 ?_;refine Qa hP (Qj6 (hp.mono (K':=K+2) (by omega) (Nat.le_refl _)) (Qn5 hq) (by omega) hE hlp (by show(Qcf q (-1)).length<=_;omega)) rfl rfl rfl ?_;refine Sz0 ?_;exact Qc rfl rfl
theorem RB.raw{k:Nat}{t:RTm}(h:RB k t)(hk:1<=k):Raw k t.n t.a t.d:=⟨h.r.1,h.r.2.1,h.r.2.2.1,h.r.2.2.2,hk⟩
theorem Qaj9{s t:RTm}{E:Nat}(hs:MB E s.m)(ht:MB E t.m)(hE:E<=2^38):Qd Tryz.prog 48 [PV.rterm s,PV.rterm t] (· = .int .i64 (Qak s.m t.m)):=by refine Qf Qj Tryz.func48 rfl Q9j (by simp[c48]) fun C hP=>?_;simp only[c48];refine Sz0 ?_;refine Qa hP (Qu8 (o:=0) hs ht (by omega)) rfl rfl rfl ?_;refine Sz0 ?_;exact Qc (by rw[Qu2]) rfl
theorem Qs1{l:List RTm}{k:Nat}(hb:∀t∈l,RB k t)(hk1:1<=k)(hk:k<2^36)(hll:l.length<2^40):Qd Tryz.prog 34 [PV.rpoly l] (· = .bool (Qcu l)):=by
 have hiff:=Qtn l;have bad:∀ {b:Bool},(b=true->False)->b=false:=fun {b} h=>by cases b<;>simp_all
 refine Qf Qj Tryz.func34 rfl Qanf (by simp[c34]) fun C hP=>?_;simp only[c34];refine Sz0 ?_;refine Qy (by repeat (first|exact Qu|exact Qn|exact Qo|exact Qk|exact Qp|apply Qm|apply Qt|apply Qw|apply Q5|apply Q6|apply Qi)) [(2,4),(7,42)] [4] (fun n J hp=>∃i,n=l.length-i/\i<=l.length/\(∀j (h:j<l.length),j<i->rOk l[j]=true)/\(∀j (h:j+1<l.length),j+1<i->0<Qak l[j].m l[j+1].m)/\J 7= .int .i64 (i:Nat)) l.length ?_ ?_
 ·refine⟨0,rfl,by omega,by omega,by omega,?_⟩;refine Sz0 ?_;rfl
 rintro _ J h ⟨i,rfl,hi,h1,h2,h7⟩;refine Sz1 h7 ?_;refine Qb (fun hg=>?_) (fun hg=>?_)
 ·have hi':i<l.length:=by omega
  have hbt:=hb _ (List.getElem_mem hi');have hr:=(RB.raw hbt hk1).rs;have hml:=hbt.l;have hbadt:Qcu l=true->rOk l[i]=true:=fun h=>(hiff.1 h).1 i hi';have hbadc:∀(j:Nat)(hj:j+1=i),Qcu l=true->0<Qak (l[j]'(by omega)).m l[i].m:=fun j hj h=>by subst hj;exact(hiff.1 h).2 j hi'
  have hadd1:rOk l[i]=true->∀j (h:j<l.length),j<i+1->rOk l[j]=true:=fun h j hj hji=>by
   by_cases e:j=i
   ·subst e;exact h
   ·exact h1 j hj (by omega)
  have hprev:∀(j:Nat)(hj:j+1=i),MB 1048576 (l[j]'(by omega)).m:=fun j hj=>by have:=h1 j (by omega) (by omega);simp only[rOk,Bool.and_eq_true]at this;exact MB.ofOk this.2.2
  have hadd2:(∀(j:Nat)(hj:j+1=i),0<Qak (l[j]'(by omega)).m l[i].m)->∀j (h:j+1<l.length),j+1<i+1->0<Qak l[j].m l[j+1].m:=fun h j hj hji=>by
   by_cases e:j+1=i
   ·subst e;exact h j rfl
   ·exact h2 j hj (by omega)
  generalize hx:l[i]=x at *
  have hr':rs (rv x.n x.a x.d)<2^36:=by omega
  refine Sz2 h7 hx ?_;refine Qa hP (Q2s (RB.raw hbt hk1) hk) rfl rfl rfl ?_;refine Sz1 h7 ?_;cases hok:Qi1 x.n x.a x.d
  ·have hf:Qcu l=false:=bad fun h=>by have:=hbadt h;simp[rOk,hok]at this
   refine Sz2 h7 @Bool.not_false ?_;exact Qc (by rw[hf]) rfl
  refine Sz2 h7 @Bool.not_true ?_;refine Qa hP (Qld (RB.raw hbt hk1) hk) rfl rfl rfl ?_;refine Sz1 h7 ?_;refine Qab (fun hz=>?_) (fun hz=>?_)
  ·have hf:Qcu l=false:=bad fun h=>by have:=hbadt h;simp[rOk,RTm.q,Qbd.1 hz]at this
   refine Sz1 h7 ?_;exact Qc (by rw[hf]) rfl
  refine Sz1 h7 ?_;refine Qa hP (Q1a (by omega)) rfl rfl rfl ?_;refine Sz1 h7 ?_;cases hmo:Qby x.m
  ·have hf:Qcu l=false:=bad fun h=>by have:=hbadt h;simp[rOk,hmo]at this
   refine Sz2 h7 @Bool.not_false ?_;exact Qc (by rw[hf]) rfl
  have hrok:rOk x=true:=by simp only[rOk,hok,hmo,Bool.true_and,Bool.and_true,decide_eq_true_eq];exact fun h=>hz (Qbd.2 h)
  refine Sz2 h7 @Bool.not_true ?_;refine Qat (fun hi0=>?_) (fun hi0=>?_)
  ·obtain⟨j,rfl⟩:∃j,i=j+1:=⟨i-1,by omega⟩
   have e:((j+1:Nat):Int)-1=j:=by omega
   have hjl:j<l.length:=by omega
   have hpj:=hprev j rfl;have hbadj:=hbadc j rfl;have hadd2':0<Qak (l[j]'(by omega)).m x.m->∀j2 (h:j2+1<l.length),j2+1<j+1+1->0<Qak l[j2].m l[j2+1].m:=fun h=>hadd2 (fun j' hj'=>by
    obtain rfl:j'=j:=by omega
    exact h)
   generalize hy:l[j]'(by omega)=y at *
   refine Sz3 h7 e hy ?_;refine Qa hP (Qaj9 (s:=y) (t:=x) hpj (MB.ofOk hmo) (by omega)) rfl rfl rfl ?_;refine Sz2 h7 e ?_;refine Qb (fun hc=>?_) (fun hc=>?_)
   ·have hf:Qcu l=false:=bad fun h=>by have:=hbadj h;omega
    refine Sz1 h7 ?_;exact Qc (by rw[hf]) rfl
   ·refine Sz1 h7 ?_;refine Qh (l.length-(j+1+1)) (by omega) ⟨j+1+1,rfl,by omega,hadd1 hrok,hadd2' (by omega),?_⟩;exact Tz0
  ·obtain rfl:i=0:=by omega
   refine Sz1 h7 ?_;refine Qh (l.length-1) (by omega) ⟨1,rfl,by omega,hadd1 hrok,hadd2 (fun j hj=>by omega),?_⟩;exact Tz0
 ·obtain rfl:i=l.length:=by omega
  have hf:Qcu l=true:=hiff.2 ⟨fun j hj=>h1 j hj hj,fun j hj=>h2 j hj hj⟩;refine Sz0 ?_;exact Qc (by rw[hf]) rfl
theorem Qmg{l:List RTm}{k:Nat}(hb:∀t∈l,RB k t)(hk1:1<=k)(hk:k<2^36)(hll:l.length<2^40):Qd Tryz.prog 19 [PV.rpoly l] (· = .bool (Qcu l)):=by
 have hiff:=Qtn l;have bad:∀ {b:Bool},(b=true->False)->b=false:=fun {b} h=>by cases b<;>simp_all
 refine Qf Qj Tryz.func19 rfl Qaod (by simp[c19]) fun C hP=>?_;simp only[c19];refine Sz0 ?_;refine Qy (by repeat (first|exact Qu|exact Qn|exact Qo|exact Qk|exact Qp|apply Qm|apply Qt|apply Qw|apply Q5|apply Q6|apply Qi|apply Qz)) [(2,51)] [] (fun n J hp=>∃i,n=l.length-i/\i<=l.length/\(∀j (h:j<l.length),j<i->rOk l[j]=true)/\(∀j (h:j+1<l.length),j+1<i->0<Qak l[j].m l[j+1].m)/\J 3= .int .i64 (i:Nat)) l.length ?_ ?_
 ·refine⟨0,rfl,by omega,by omega,by omega,?_⟩;refine Sz0 ?_;rfl
 rintro _ J h ⟨i,rfl,hi,h1,h2,h7⟩;refine Sz1 h7 ?_;refine Qb (fun hg=>?_) (fun hg=>?_)
 ·have hi':i<l.length:=by omega
  have hbt:=hb _ (List.getElem_mem hi');have hr:=(RB.raw hbt hk1).rs;have hml:=hbt.l;have hbadt:Qcu l=true->rOk l[i]=true:=fun h=>(hiff.1 h).1 i hi';have hbadc:∀(j:Nat)(hj:j+1=i),Qcu l=true->0<Qak (l[j]'(by omega)).m l[i].m:=fun j hj h=>by subst hj;exact(hiff.1 h).2 j hi'
  have hadd1:rOk l[i]=true->∀j (h:j<l.length),j<i+1->rOk l[j]=true:=fun h j hj hji=>by
   by_cases e:j=i
   ·subst e;exact h
   ·exact h1 j hj (by omega)
  have hprev:∀(j:Nat)(hj:j+1=i),MB 1048576 (l[j]'(by omega)).m:=fun j hj=>by have:=h1 j (by omega) (by omega);simp only[rOk,Bool.and_eq_true]at this;exact MB.ofOk this.2.2
  have hadd2:(∀(j:Nat)(hj:j+1=i),0<Qak (l[j]'(by omega)).m l[i].m)->∀j (h:j+1<l.length),j+1<i+1->0<Qak l[j].m l[j+1].m:=fun h j hj hji=>by
   by_cases e:j+1=i
   ·subst e;exact h j rfl
   ·exact h2 j hj (by omega)
  generalize hx:l[i]=x at *
  have hr':rs (rv x.n x.a x.d)<2^36:=by omega
  refine Sz2 h7 hx ?_;refine Qa hP (Qzb (RB.raw hbt hk1) hk) rfl rfl rfl ?_;refine Sz1 h7 ?_;cases hok:Qi1 x.n x.a x.d
  ·have hf:Qcu l=false:=bad fun h=>by have:=hbadt h;simp[rOk,hok]at this
   refine Sz2 h7 @Bool.not_false ?_;exact Qc (by rw[hf]) rfl
  refine Sz3 h7 @Bool.not_true hx ?_;refine Qa hP (Qi8 (RB.raw hbt hk1) hk) rfl rfl rfl ?_;refine Sz1 h7 ?_;refine Qab (fun hz=>?_) (fun hz=>?_)
  ·have hf:Qcu l=false:=bad fun h=>by have:=hbadt h;simp[rOk,RTm.q,Qbd.1 hz]at this
   refine Sz1 h7 ?_;exact Qc (by rw[hf]) rfl
  refine Sz2 h7 hx ?_;refine Qa hP (Qp2 (by omega)) rfl rfl rfl ?_;refine Sz1 h7 ?_;cases hmo:Qby x.m
  ·have hf:Qcu l=false:=bad fun h=>by have:=hbadt h;simp[rOk,hmo]at this
   refine Sz2 h7 @Bool.not_false ?_;exact Qc (by rw[hf]) rfl
  have hrok:rOk x=true:=by simp only[rOk,hok,hmo,Bool.true_and,Bool.and_true,decide_eq_true_eq];exact fun h=>hz (Qbd.2 h)
  refine Sz2 h7 @Bool.not_true ?_;refine Qat (fun hi0=>?_) (fun hi0=>?_)
  ·obtain⟨j,rfl⟩:∃j,i=j+1:=⟨i-1,by omega⟩
   have e:((j+1:Nat):Int)-1=j:=by omega
   have hjl:j<l.length:=by omega
   have hpj:=hprev j rfl;have hbadj:=hbadc j rfl;have hadd2':0<Qak (l[j]'(by omega)).m x.m->∀j2 (h:j2+1<l.length),j2+1<j+1+1->0<Qak l[j2].m l[j2+1].m:=fun h=>hadd2 (fun j' hj'=>by
    obtain rfl:j'=j:=by omega
    exact h)
   generalize hy:l[j]'(by omega)=y at *
   refine Sz4 h7 e hx hy ?_;refine Qa hP (Qrb hpj (MB.ofOk hmo) (by omega)) rfl rfl rfl ?_;refine Sz2 h7 e ?_;refine Qb (fun hc=>?_) (fun hc=>?_)
   ·have hf:Qcu l=false:=bad fun h=>by have:=hbadj h;omega
    refine Sz1 h7 ?_;exact Qc (by rw[hf]) rfl
   ·refine Sz1 h7 ?_;refine Qh (l.length-(j+1+1)) (by omega) ⟨j+1+1,rfl,by omega,hadd1 hrok,hadd2' (by omega),?_⟩;exact Tz0
  ·obtain rfl:i=0:=by omega
   refine Sz1 h7 ?_;refine Qh (l.length-1) (by omega) ⟨1,rfl,by omega,hadd1 hrok,hadd2 (fun j hj=>by omega),?_⟩;exact Tz0
 ·obtain rfl:i=l.length:=by omega
  have hf:Qcu l=true:=hiff.2 ⟨fun j hj=>h1 j hj hj,fun j hj=>h2 j hj hj⟩;refine Sz0 ?_;exact Qc (by rw[hf]) rfl
def smT(v:Nat)(e:Int)(t:RTm):Bool:=decide (t.m.length<=v)&&(decide (t.a.length<=4)&&(decide (t.d.length<=4)&&t.m.all fun x=>decide (x<=e)))
def Qft(n v:Nat)(e:Int)(l:List RTm):Bool:=decide (l.length<=n)&&(l.all (smT v e)&&Qcu l)
theorem Qze{l:List RTm}{k n v:Nat}{e:Int}(hb:∀t∈l,RB k t)(hk1:1<=k)(hk:k<2^36)(hll:l.length<2^40):
  Qd Tryz.prog 24 [PV.rpoly l,.int .i64 n,.int .i64 v,.int .i64 e] (· = .bool (Qft n v e l)):=by
 have bad:l.length<=n->∀i (h:i<l.length),smT v e l[i]=false->Qft n v e l=false:=fun _ i hi h=>by
  have:l.all (smT v e)=false:=by rw[List.all_eq_false];exact⟨_,List.getElem_mem hi,by simp[h]⟩
  simp[Qft,this]
 refine Qf Qj Tryz.func24 rfl Qaoe (by simp[c24]) fun C hP=>?_;simp only[c24];refine Sz0 ?_;refine Qb (fun hn=>?_) (fun hn=>?_)
 ·refine Sz0 ?_;exact Qc (by simp[Qft,show ¬l.length<=n by omega]) rfl
 have hn':l.length<=n:=by omega
 refine Sz0 ?_;refine Qy (by repeat (first|exact Qu|exact Qn|exact Qo|exact Qk|exact Qp|apply Qm|apply Qt|apply Qw|apply Q5|apply Q6|apply Qi|apply Qz)) [(8,10),(15,69)] [] (fun m J hp=>∃i,m=l.length-i/\i<=l.length/\(∀j (h:j<l.length),j<i->smT v e l[j]=true)/\J 9= .int .i64 (i:Nat)) l.length ?_ ?_
 ·refine⟨0,rfl,by omega,by omega,?_⟩;refine Sz0 ?_;rfl
 rintro _ J h ⟨i,rfl,hi,h1,h9⟩;refine Sz1 h9 ?_;refine Qb (fun hg=>?_) (fun hg=>?_)
 ·have hi':i<l.length:=by omega
  have hbt:=hb _ (List.getElem_mem hi');have hbad:=bad hn' i hi';have hml:=hbt.l;have hadd:smT v e l[i]=true->∀j (h:j<l.length),j<i+1->smT v e l[j]=true:=fun h j hj hji=>by
   by_cases e:j=i
   ·subst e;exact h
   ·exact h1 j hj (by omega)
  generalize hx:l[i]=x at *
  refine Sz2 h9 hx ?_;refine Qab (fun h2=>?_) (fun h2=>?_)
  ·refine Sz2 h9 hx ?_;exact Qc (by rw[hbad (by simp[smT,show ¬x.m.length<=v by omega])]) rfl
  refine Sz2 h9 hx ?_;refine Qab (fun h3=>?_) (fun h3=>?_)
  ·refine Sz2 h9 hx ?_;exact Qc (by rw[hbad (by simp[smT,show ¬x.a.length<=4 by omega])]) rfl
  refine Sz2 h9 hx ?_;refine Qb (fun h4=>?_) (fun h4=>?_)
  ·refine Sz2 h9 hx ?_;exact Qc (by rw[hbad (by simp[smT,show ¬x.d.length<=4 by omega])]) rfl
  refine Sz2 h9 hx ?_;refine Qy (by repeat (first|exact Qu|exact Qn|exact Qo|exact Qk|exact Qp|apply Qm|apply Qt|apply Qw|apply Q5|apply Q6|apply Qi|apply Qz)) [(8,8),(10,10),(50,69)] [] (fun m J hp=>∃j,m=x.m.length-j/\j<=x.m.length/\(∀y∈x.m.take j,y<=e)/\J 10= .int .i64 (j:Nat)) x.m.length ?_ ?_
  ·refine⟨0,rfl,by omega,by simp,?_⟩;refine Sz0 ?_;rfl
  rintro _ J2 h2' ⟨j,rfl,hj,h5,h10⟩;refine Sz3 h9 h10 hx ?_;refine Qb (fun hg2=>?_) (fun hg2=>?_)
  ·have hj':j<x.m.length:=by omega
   have hmem:=List.getElem_mem hj';have htk:x.m.take (j+1)=x.m.take j++[x.m[j]]:=List.take_succ_eq_append_getElem hj';generalize hy:x.m[j]=y at *
   refine Sz4 h9 h10 hx hy ?_;refine Qb (fun h6=>?_) (fun h6=>?_)
   ·refine Sz3 h9 h10 hx ?_;refine Qc ?_ rfl;rw[hbad];have:(x.m.all fun x=>decide (x<=e))=false:=by rw[List.all_eq_false];exact⟨y,hmem,by simp;omega⟩
    simp[smT,this]
   ·refine Sz3 h9 h10 hx ?_;refine Qh (x.m.length-(j+1)) (by omega) ⟨j+1,rfl,by omega,?_,?_⟩
    ·rw[htk];intro z hz;rcases List.mem_append.1 hz with hz|hz
     ·exact h5 z hz
     ·simp at hz;omega
    ·exact Tz0
  ·rw[List.take_of_length_le (by omega)]at h5;have hsm:smT v e x=true:=by simp only[smT,Bool.and_eq_true,decide_eq_true_eq,List.all_eq_true];exact⟨by omega,by omega,by omega,h5⟩
   refine Sz2 h9 h10 ?_;simp (disch:=decide) only[Qb3,Qfx];refine Qh (l.length-(i+1)) (by omega) ⟨i+1,rfl,by omega,hadd hsm,?_⟩;exact Tz0
 ·obtain rfl:i=l.length:=by omega
  have hall:l.all (smT v e)=true:=by rw[List.all_eq_true];intro t ht;obtain⟨j,hj,rfl⟩:=List.getElem_of_mem ht;exact h1 j hj hj
  refine Sz0 ?_;refine Qa hP (Qmg hb hk1 hk hll) rfl rfl rfl ?_;refine Sz0 ?_;exact Qc (by simp[Qft,hn',hall]) rfl
end Go.Proofs.YtdaldpkjhcfblaaGreat
namespace Go.FW
open Go
variable {C : Ctx} {ρ : Nat -> Option Nat} {fr fr' : Fr} {hp hp' : HP} {w w' : World} {K R : Qg}
def Qpm(r:PV):Prop:=(r.refs=[]/\r.sref=[])/\∀σ,rnP σ r=r
def Q1u(nm:Nat->Bool)(p:PV):PV:=if(p.refs++p.sref).any nm then .undef else p
def dieF(nm:Nat->Bool)(fr:Fr):Fr:=fun s=>Q1u nm (fr s)
def exH(nm ex:Nat->Bool)(H hp:HP):HP:=fun x=>if ex x then H x else if nm x then none else hp x
def exF(S:List Nat)(F fr:Fr):Fr:=fun s=>if S.contains s then F s else fr s
end Go.FW
namespace Go.FW
open Go
variable {C : Ctx} {ρ : Nat -> Option Nat} {fr fr' : Fr} {hp : HP} {w : World} {K R : Qg}
theorem Qafi{B:List Nat}{F:Fr}{β δ:Nat}(hβ:B.contains β=true)(h2:β<1000000):mvF β δ (bse B F)=bse B F:=Qah5 (.inl hβ) (.inl h2)
theorem rnPs:
  (∀(σ:Nat->Nat)(k:IntKind)(n:Int),rnP σ (.int k n)= .int k n)/\
  (∀(σ:Nat->Nat)(b:Bool),rnP σ (.bool b)= .bool b)/\
  (∀(σ:Nat->Nat)(e:Nat)(xs:List PV),rnP σ (.sl e xs)= .sl e xs)/\
  (∀(σ:Nat->Nat)(cs:List PV),rnP σ (.agg cs)= .agg cs)/\
  (∀(σ:Nat->Nat)(cs:List PV),rnP σ (.tup cs)= .tup cs)/\
  (∀(σ:Nat->Nat)(cs:List PV),rnP σ (.pt cs)= .pt cs)/\
  (∀(σ:Nat->Nat),rnP σ .nilS= .nilS)/\
  (∀(σ:Nat->Nat),rnP σ .undef= .undef)/\
  (∀(σ:Nat->Nat)(β o n:Nat),rnP σ (.mso β o n)= .mso (σ β) o n)/\
  (∀(σ:Nat->Nat)(β o n:Nat),rnP σ (.mp β o n)= .mp (σ β) o n)/\
  (∀(σ:Nat->Nat)(β o n:Nat),rnP σ (.nso β o n)= .nso (σ β) o n)/\
  (∀(σ:Nat->Nat)(β o n:Nat),rnP σ (.np β o n)= .np (σ β) o n)/\
  (∀(σ:Nat->Nat)(cs:List PV),rnP σ (.rag cs)= .rag (cs.map (rn1 σ))):=by
 refine⟨?_,?_,?_,?_,?_,?_,?_,?_,?_,?_,?_,?_,?_⟩<;>intros<;>rfl
theorem rn1s:
  (∀(σ:Nat->Nat)(k:IntKind)(n:Int),rn1 σ (.int k n)= .int k n)/\
  (∀(σ:Nat->Nat)(b:Bool),rn1 σ (.bool b)= .bool b)/\
  (∀(σ:Nat->Nat)(e:Nat)(xs:List PV),rn1 σ (.sl e xs)= .sl e xs)/\
  (∀(σ:Nat->Nat),rn1 σ .nilS= .nilS)/\
  (∀(σ:Nat->Nat),rn1 σ .undef= .undef)/\
  (∀(σ:Nat->Nat)(β o n:Nat),rn1 σ (.mso β o n)= .mso (σ β) o n)/\
  (∀(σ:Nat->Nat)(β o n:Nat),rn1 σ (.nso β o n)= .nso (σ β) o n):=by
 refine⟨?_,?_,?_,?_,?_,?_,?_⟩<;>intros<;>rfl
theorem Qarg:
  (∀(γ:Nat)(k:IntKind)(n:Int),Qcp γ (.int k n)= .int k n)/\
  (∀(γ:Nat)(b:Bool),Qcp γ (.bool b)= .bool b)/\
  (∀(γ e:Nat)(xs:List PV),Qcp γ (.sl e xs)= .sl e xs)/\
  (∀(γ:Nat)(cs:List PV),Qcp γ (.agg cs)= .agg cs)/\
  (∀(γ:Nat)(cs:List PV),Qcp γ (.tup cs)= .tup cs)/\
  (∀(γ:Nat)(cs:List PV),Qcp γ (.pt cs)= .pt cs)/\
  (∀(γ:Nat),Qcp γ .nilS= .nilS)/\
  (∀(γ:Nat),Qcp γ .undef= .undef)/\
  (∀(γ β o n:Nat),Qcp γ (.mso β o n)=if β=γ then .nso γ o n else .mso β o n)/\
  (∀(γ β o n:Nat),Qcp γ (.mp β o n)=if β=γ then .np γ o n else .mp β o n)/\
  (∀(γ β o n:Nat),Qcp γ (.nso β o n)= .nso β o n)/\
  (∀(γ β o n:Nat),Qcp γ (.np β o n)= .np β o n):=by
 refine⟨?_,?_,?_,?_,?_,?_,?_,?_,?_,?_,?_,?_⟩<;>intros<;>rfl
theorem Qaka{γ s:Nat}{x:PV}:Qw1 γ x fr s=if s=γ then x else Qcp γ (fr s):=rfl
theorem Qakb{args:List PV}{G:Fr}{s:Nat}:argG args G s=if s<1000000 then(args[s]?).getD .undef else G s:=rfl
theorem Qakc{nm:Nat->Bool}{s:Nat}:dieF nm fr s=Q1u nm (fr s):=rfl
theorem Qakd{nm:Nat->Bool}{p:PV}:Q1u nm p=if(p.refs++p.sref).any nm then .undef else p:=rfl
theorem Qapd{nm ex:Nat->Bool}{H:HP}{x:Nat}:exH nm ex H hp x=if ex x then H x else if nm x then none else hp x:=rfl
theorem Qape{S:List Nat}{F:Fr}{s:Nat}:exF S F fr s=if S.contains s then F s else fr s:=rfl
attribute [go_sem] Qah2 Qah3 Qam1 Qam2 Qam0 Qafi rnPs rn1s Qarg Qaka Qakb Qakc Qakd Qapd Qape
end Go.FW
namespace Go.FW
open Go
variable {C : Ctx} {ρ : Nat -> Option Nat} {fr fr' : Fr} {hp : HP} {w : World} {K R : Qg}
theorem Qake{σ:Nat->Nat}{p:PV}(h:p= .nilS∨∃β n,p= .ms β n)(hσ:∀β n,p= .ms β n->σ β=β):Qei (p.ncells.map (rn1 σ))=p:=by
 rcases h with rfl|⟨β,n,rfl⟩
 ·rfl
 ·have:=hσ β n rfl;simp[PV.ncells,PV.cells,rn1,Qei,this]
def Qe3(B n w:Nat)(π:Nat->Nat):List (Nat×Nat):=(List.range n).map fun r=>(B+π r,w)
theorem Q1v{B n w r:Nat}{π:Nat->Nat}(h:r<(Qe3 B n w π).length):(Qe3 B n w π)[r]=(B+π r,w):=by simp[Qe3]
def Qi9{α:Type}(p:α->PV)(f:Nat->α)(w:Nat):List PV:=(List.range w).map fun c=>p (f c)
theorem Qnl{α:Type}(p:α->PV)(f:Nat->α)(w:Nat):(Qi9 p f w).length=w:=by simp[Qi9]
theorem Qtv{α:Type}{p:α->PV}{f:Nat->α}{w c:Nat}(h:c<(Qi9 p f w).length):(Qi9 p f w)[c]=p (f c):=by simp[Qi9]
theorem Qarh{by_ ty d:Nat}{k k':IntKind}{n c:Nat}(h2:n<=c)(h3:by_*c<=281474976710656)(h4:c<=9223372036854775807):
  mkK 3 by_ ty (.agg [.bool false,.nilS,.nilS]) (.int k (n:Int)) (.int k' (c:Int)) d fr hp K=K (upd (Qa2 d fr) d (.ms d n)) (Qv hp d ⟨3,ty,List.replicate n (.agg [.bool false,.nilS,.nilS]),false⟩):=by
 rw[Qzj (e:=3) (by omega) rfl (by omega) (by omega) (by omega) (by omega)];rfl
attribute [go_sem] Qarh
end Go.FW
namespace Go.FW
open Go
variable {C : Ctx} {ρ : Nat -> Option Nat} {fr fr' : Fr} {hp : HP} {w : World} {K R : Qg}
theorem Q6r {P : Program} {f : FuncId} {fn : Func} {sf : SFn} {args : List PV} {Rr : PV -> Prop} (hm : P.follows .mixedOrders = true) (hf : P.funcs[f]? = some fn) (hname : (fn.name != "runtime.NumGoroutine") = true) (hc : Qe P fn = some sf.strip) (hn : args.length <= sf.n /\ sf.n <= 1000000)
  (hv:∀C:Ctx,C.P=P->C.N=sf.n->vc C (Qo8 (Qdx sf.rs Rr)) [.c sf.body] (Qgr args) hp0):Qd P f args Rr:=by
 simp only[Qe,Option.bind_eq_some_iff,Option.map_eq_some_iff]at hc;obtain⟨c,hb,sb,hcb,rs,hrs,hsf⟩:=hc;obtain⟨n,rs',body⟩:=sf;simp only[SFn.strip,SFn.mk.injEq]at hsf;obtain⟨rfl,rfl,rfl⟩:=hsf;refine⟨by simp[Ql3,hf,hb];simpa using hname,fun w X vals hX hsz hrep=>?_⟩
 let C:Ctx:=Ctx.plain P fn.ntmps w X hX hn.2
 refine calls_of_wp hf hb ?_;have hsz':(vals++Array.replicate (fn.ntmps-vals.size) undef).size=fn.ntmps:=by simp at hn ⊢;omega
 have hsim:Sim C (Qgr args) hp0 (vals++Array.replicate (fn.ntmps-vals.size) undef) w:=by
  refine⟨fun _=>none,hsz',Ext.refl _ _,(fun _ _ h=>by cases h),by simp[hp0],by simp[hp0],fun i=>?_⟩;unfold Qgr;cases hi:args[i]? with
  |none=>trivial
  | some p=>
   simp only[Option.getD_some];have hil:i<vals.size:=by rw[hsz];exact(List.getElem?_eq_some_iff.1 hi).1
   have hr:=hrep i p hi;have e:(vals++Array.replicate (fn.ntmps-vals.size) undef).getD i undef=vals.getD i undef:=by rw[Qbr,if_pos hil]
   rw[e];refine Qr.ofData (hr.mono (fun _ _ _=>rfl) (fun b _ hn hx=>?_) (Nat.le_refl _));rcases hx with hx|⟨_,_,h1,_⟩
   ·exact hn hx
   ·simp[hp0]at h1
 have fin:∀(fr:Fr)(hp:HP)(a:Act)(w':World),a.defers=[]->Sim C fr hp a.tmps w'->Qo8 (Qdx rs Rr) fr hp->
   a.defers=[]/\∃v,(results fn a.tmps).run P w'= .ok v w'/\∃v' r,Ending.returned v= .returned v'/\Ext Qaw w w'/\Qco w' X r v'/\Rr r:=by
  rintro fr hp a w' hd hs0 ⟨fr1,hp1,hw,hr⟩;obtain⟨ρ,hs⟩:=hw C _ _ hs0;obtain⟨v,r,h1,h2,h3⟩:=Qxs (C:=C) rfl hrs hs hr;exact⟨hd,v,h1,v,r,rfl,Ctx.plain_ext hs.ext,h2,h3⟩
 exact Qse (C:=C) (R:=Qo8 (Qdx rs Rr)) hm c body [] _ (Qgr args) hp0 _ w hcb ⟨fun fr hp a w' hd hs hv=>(by rw[Ql1]at hv;exact fin fr hp a w' hd hs hv),fun id sk' he=>(by simp[FW.Qap]at he),fin⟩ rfl hsim (hv C rfl rfl)
theorem Qrc {P : Program} {f : FuncId} {fn : Func} {sf : SFn} {args : List PV} {Rr : PV -> Prop} (hm : P.follows .mixedOrders = true) (hf : P.funcs[f]? = some fn) (hname : (fn.name != "runtime.NumGoroutine") = true) (hc : Qe P fn = some sf.strip) (hn : args.length <= sf.n /\ sf.n <= 1000000)
  (hv:∀C:Ctx,C.P=P->vc C (Qo8 (Qdx sf.rs Rr)) [.c sf.body] (Qgr args) hp0):Qd P f args Rr:=
 Q6r hm hf hname hc hn fun C h _=>hv C h
theorem Qakf{ty w i d:Nat}{fz:Bool}{f:Nat->Rat}(h:i<w):ldM (some ⟨3,ty,Qi9 PV.rat f w,fz⟩) 3 true i 0 d fr hp K=K (upd fr d (PV.rat (f i))) hp:=by rw[Qkb (by rw[Qnl];exact h) (by omega) (by simp),Qtv];rfl
theorem Qapf:(Qpm (.tup [])=True)/\(∀(k:IntKind)(n:Int),Qpm (.int k n)=True)/\(∀b:Bool,Qpm (.bool b)=True)/\(∀(e:Nat)(xs:List PV),Qpm (.sl e xs)=True)/\(∀cs:List PV,Qpm (.agg cs)=True)/\(∀cs:List PV,Qpm (.tup cs)=True):=by refine⟨?_,?_,?_,?_,?_,?_⟩<;>intros<;>simp[Qpm,PV.refs,PV.sref,rnP,rn1]
attribute [go_sem] Qapf Qakf
end Go.FW
namespace Go.FW
open Go
variable {C : Ctx} {ρ : Nat -> Option Nat} {fr fr' : Fr} {hp : HP} {w : World} {K R : Qg}
def ldX(p:PV)(γ n:Nat)(ag:Bool)(i o d:Nat)(fr:Fr)(hp:HP)(K:Qg):Prop:=match p with
 |.nst γ' e _ xs=>γ'=γ/\∃h:i<xs.length,o+n<=e/\(ag=false->n=1)/\K (upd fr d (ldN ag n o (xs[i]'h))) hp
 |_=>False
theorem Qapg{γ n i o d:Nat}{ag:Bool}:ldK n ag (.np γ i o) d fr hp K=ldX (fr γ) γ n ag i o d fr hp K:=by simp only[ldK,ldX];cases fr γ<;>rfl
def stX(p:PV)(h:Option HB)(v:Option (List PV))(γ n i o:Nat)(fr:Fr)(hp:HP)(K:Qg):Prop:=match p with
 |.nst γ' e ty xs=>γ'=γ/\(∃hb,h=some hb/\hb.fz=false)/\∃h:i<xs.length,o+n<=e/\match v with
   |some cs=>cs.length=n/\K (upd (Qd0 γ fr) γ (.nst γ e ty (xs.set i (Qei (Qlv (xs[i]'h).ncells o cs))))) hp
   |none=>False
 |_=>False
theorem Qaph{γ n i o:Nat}{v:PV}:stK n (.np γ i o) v fr hp K=stX (fr γ) (hp γ) (stN v) γ n i o fr hp K:=by simp only[stK,stX];cases fr γ<;>rfl
theorem Qari{γ e ty n o d:Nat}{ag:Bool}{x:PV}(h1:o+n<=e)(h2:ag=true∨n=1):ldX (.nst γ e ty [x]) γ n ag 0 o d fr hp K=K (upd fr d (ldN ag n o x)) hp:=by have:(ag=false->n=1):=fun h=>h2.resolve_left (by simp[h]);simp[ldX,h1];exact fun _=>this
theorem Qarj{γ e ty n o e0 ty0:Nat}{x:PV}{xs0 cs:List PV}(h1:o+n<=e)(h2:cs.length=n):stX (.nst γ e ty [x]) (some ⟨e0,ty0,xs0,false⟩) (some cs) γ n 0 o fr hp K=K (upd (Qd0 γ fr) γ (.nst γ e ty [Qei (Qlv x.ncells o cs)])) hp:=by simp[stX,h1,h2]
theorem Qark{γ ty B n w r d:Nat}{π:Nat->Nat}(h:r<n):ldX (.nst γ 1 ty (Qe7 (Qe3 B n w π))) γ 1 false r 0 d fr hp K=K (upd fr d (.ms (B+π r) w)) hp:=by
 have hl:r<(Qe7 (Qe3 B n w π)).length:=by simpa[Qe7,Qe3]using h
 simp only[ldX,hl,exists_true_left,true_and,Nat.le_refl,Nat.zero_add,implies_true];simp[ldN,Qe7,Qe3,PV.ncells,PV.cells]
theorem Qarl{γ ty B n w r m e0 ty0:Nat}{π:Nat->Nat}{xs0:List PV}(h:r<n):stX (.nst γ 1 ty (Qe7 (Qe3 B n w π))) (some ⟨e0,ty0,xs0,false⟩) (some [.ms (B+m) w]) γ 1 r 0 fr hp K=K (upd (Qd0 γ fr) γ (.nst γ 1 ty (Qe7 (Qe3 B n w fun x=>if x=r then m else π x)))) hp:=by
 have hl:r<(Qe7 (Qe3 B n w π)).length:=by simpa[Qe7,Qe3]using h
 have e:(Qe3 B n w π).set r (B+m,w)=Qe3 B n w fun x=>if x=r then m else π x:=by
  refine List.ext_getElem (by simp[Qe3]) fun j h1 h2=>?_;rw[List.getElem_set,Q1v,Q1v];split
  ·rename_i e;subst e;simp
  ·rename_i e;rw[if_neg fun e2=>e e2.symm]
 rw[<-e];simp only[stX,hl,exists_true_left,true_and,Nat.le_refl,Nat.zero_add,Option.some.injEq,exists_eq_left',List.length_cons,List.length_nil];simp[Qei,Qlv,Qe7,PV.ncells,PV.cells,List.map_set]
theorem stNs:
  (∀(γ o n:Nat),stN (.nso γ o n)=some [.nso γ o n])/\
  (∀(k:IntKind)(n:Int),stN (.int k n)=some [.int k n])/\
  (∀(b:Bool),stN (.bool b)=some [.bool b])/\
  (stN .nilS=some [.nilS])/\
  (∀(e:Nat)(xs:List PV),stN (.sl e xs)=some [.sl e xs])/\
  (∀(cs:List PV),stN (.pt cs)=some [.pt cs])/\
  (∀(cs:List PV),stN (.agg cs)=some cs):=by
 refine⟨?_,?_,?_,?_,?_,?_,?_⟩<;>intros<;>rfl
theorem Qapi{β o n:Nat}(h:1000000<=β):stN (.mso β o n)=some [.mso β o n]:=by simp[stN,isB,h]
theorem Qakg{cs:List PV}:stN (.rag cs)=if cs.all PV.notU then some cs else none:=rfl
theorem Qarm:(∀(k:IntKind)(n:Int),(PV.int k n).notU=true)/\(∀b:Bool,(PV.bool b).notU=true)/\(PV.nilS.notU=true)/\(∀(e:Nat)(xs:List PV),(PV.sl e xs).notU=true)/\(∀(β o n:Nat),(PV.mso β o n).notU=true)/\(∀(β o n:Nat),(PV.nso β o n).notU=true)/\(∀cs:List PV,(PV.pt cs).notU=true)/\(PV.undef.notU=false):=by refine⟨?_,?_,?_,?_,?_,?_,?_,?_⟩<;>intros<;>rfl
theorem Qarn:(∀(k:IntKind)(n:Int),(PV.int k n).isRefC=false)/\(∀b:Bool,(PV.bool b).isRefC=false)/\(PV.nilS.isRefC=false)/\(∀(e:Nat)(xs:List PV),(PV.sl e xs).isRefC=false)/\(∀(β o n:Nat),(PV.mso β o n).isRefC=true)/\(∀(β o n:Nat),(PV.nso β o n).isRefC=true)/\(∀cs:List PV,(PV.pt cs).isRefC=false)/\(PV.undef.isRefC=true):=by refine⟨?_,?_,?_,?_,?_,?_,?_,?_⟩<;>intros<;>rfl
theorem Q95{cs:List PV}(h:cs.any PV.isRefC=true):Qhd cs= .rag cs:=by simp[Qhd,h]
theorem Q96{cs:List PV}(h:cs.any PV.isRefC=false):Qhd cs= .agg cs:=by simp[Qhd,h]
theorem Qapj{a b:PV}{cs:List PV}:Qei (a::b::cs)=Qhd (a::b::cs):=rfl
theorem Qapk{a:PV}:Qei [a]=a:=rfl
theorem Qaro{n o:Nat}{x:PV}:ldN true n o x=Qhd ((x.ncells.drop o).take n):=rfl
theorem Qarp{n o:Nat}{x:PV}:ldN false n o x=(x.ncells.drop o).headD .undef:=rfl
theorem Qakh{l cs:List PV}{o:Nat}:Qlv l o cs=l.take o++cs++l.drop (o+cs.length):=rfl
theorem Q6s{cs:List PV}:(PV.rag cs).ncells=cs:=rfl
theorem Q6t{cs:List PV}:(PV.agg cs).ncells=cs:=rfl
theorem Qarq{z:List PV}{ps:List (Nat×Nat×PV)}{d:Nat}(h:ps.any (fun p=>p.2.2.isNst)=true):Qg2 z ps d fr hp K=(Qid z.length ps/\K (upd fr d (.rag (Qdi z (ps.map fun p=>(p.1,(stN p.2.2).getD []))))) hp):=by simp only[Qg2,if_pos h]
theorem Q28{len:Nat}:Qid len []=True:=by simp[Qid]
theorem Q1w{len o n:Nat}{v:PV}{ps:List (Nat×Nat×PV)}:Qid len ((o,n,v)::ps)=((∃cs,stN v=some cs/\cs.length=n/\o+n<=len)/\Qid len ps):=by simp[Qid]
theorem Qapl:(∀(γ o n:Nat),(PV.nso γ o n).isNst=true)/\(∀(cs:List PV),(PV.rag cs).isNst=true)/\(∀(β o n:Nat),(PV.mso β o n).isNst=decide (2000000<=β))/\(∀(cs:List PV),(PV.agg cs).isNst=false)/\(∀(k:IntKind)(n:Int),(PV.int k n).isNst=false)/\(∀b:Bool,(PV.bool b).isNst=false)/\(PV.nilS.isNst=false)/\(∀(e:Nat)(xs:List PV),(PV.sl e xs).isNst=false):=by refine⟨?_,?_,?_,?_,?_,?_,?_,?_⟩<;>intros<;>rfl
theorem Qaki:(∀(β:Nat)(k:IntKind)(n:Int),Qds β (.int k n)= .int k n)/\(∀(β:Nat)(b:Bool),Qds β (.bool b)= .bool b)/\(∀β:Nat,Qds β .nilS= .nilS)/\(∀(β e:Nat)(xs:List PV),Qds β (.sl e xs)= .sl e xs)/\(∀(β γ o n:Nat),Qds β (.mso γ o n)=if γ=β then .undef else .mso γ o n)/\(∀(β γ o n:Nat),Qds β (.nso γ o n)=if γ=β then .undef else .nso γ o n):=by refine⟨?_,?_,?_,?_,?_,?_⟩<;>intros<;>rfl
theorem Qakj{β γ e ty:Nat}{x:PV}(h:γ≠β):Qbb β (.nst γ e ty [x])= .nst γ e ty [Qei (x.ncells.map (Qds β))]:=by simp[Qbb,h]
theorem Qakk{β γ ty B n w:Nat}{π:Nat->Nat}(h:γ≠β)(h2:β<B):Qbb β (.nst γ 1 ty (Qe7 (Qe3 B n w π)))= .nst γ 1 ty (Qe7 (Qe3 B n w π)):=by
 simp only[Qbb,if_neg h];congr 1;conv=>rhs;rw[<-List.map_id (Qe7 (Qe3 B n w π))]
 refine List.map_congr_left fun x hx=>?_;obtain⟨y,hy,rfl⟩:=List.mem_map.1 hx;obtain⟨r,hr,rfl⟩:=List.mem_map.1 hy;simp only[PV.ncells,PV.cells,List.map_cons,List.map_nil,Qds,Qei];rw[if_neg (by omega)];rfl
theorem mv_P{β δ γ ty B n w:Nat}{π:Nat->Nat}(hβ:β<1000000)(hB:2000000<=B)(hγ:2000000<=γ):rnP (mvN β δ) (.nst γ 1 ty (Qe7 (Qe3 B n w π)))= .nst γ 1 ty (Qe7 (Qe3 B n w π)):=by
 have e1:mvN β δ γ=γ:=by unfold mvN;rw[if_neg (by omega)]
 simp only[rnP,e1];congr 1;conv=>rhs;rw[<-List.map_id (Qe7 (Qe3 B n w π))]
 refine List.map_congr_left fun x hx=>?_;obtain⟨y,hy,rfl⟩:=List.mem_map.1 hx;obtain⟨r,hr,rfl⟩:=List.mem_map.1 hy;refine Qake (.inr ⟨_,_,rfl⟩) fun β' n' h=>?_;cases h;unfold mvN;rw[if_neg (by omega)]
theorem Qarr{δ γ ty B n w:Nat}{π:Nat->Nat}(h:γ≠δ)(hδ:δ<B):Qcp δ (.nst γ 1 ty (Qe7 (Qe3 B n w π)))= .nst γ 1 ty (Qe7 (Qe3 B n w π)):=by
 simp only[Qcp,if_neg h];congr 1;conv=>rhs;rw[<-List.map_id (Qe7 (Qe3 B n w π))]
 refine List.map_congr_left fun x hx=>?_;obtain⟨y,hy,rfl⟩:=List.mem_map.1 hx;obtain⟨r,hr,rfl⟩:=List.mem_map.1 hy;simp only[PV.ncells,PV.cells,List.map_cons,List.map_nil,Qdg,Qei];rw[if_neg (by omega)];rfl
theorem Q97{β:Nat}{cs:List PV}:Qaq β (.rag cs)= .rag cs:=rfl
theorem Qafj{γ:Nat}{cs:List PV}:Qcp γ (.rag cs)= .rag (cs.map (Qdg γ)):=rfl
theorem Q98{β:Nat}{cs:List PV}:Qbb β (.rag cs)= .rag (cs.map (Qds β)):=rfl
theorem Qars:(∀(γ:Nat)(k:IntKind)(n:Int),Qdg γ (.int k n)= .int k n)/\(∀(γ:Nat)(b:Bool),Qdg γ (.bool b)= .bool b)/\(∀γ:Nat,Qdg γ .nilS= .nilS)/\(∀(γ e:Nat)(xs:List PV),Qdg γ (.sl e xs)= .sl e xs)/\(∀(γ β o n:Nat),Qdg γ (.mso β o n)=if β=γ then .nso γ o n else .mso β o n)/\(∀(γ β o n:Nat),Qdg γ (.nso β o n)= .nso β o n):=by refine⟨?_,?_,?_,?_,?_,?_⟩<;>intros<;>rfl
theorem Qapm{γ i o off d:Nat}:Qna off (.np γ i o) d fr hp K=K (upd fr d (.np γ i (o+off))) hp:=rfl
theorem Q99{γ γ' e ty:Nat}{xs:List PV}:Qeb γ (.nst γ' e ty xs)=if γ'=γ then .undef else .nst γ' e ty xs:=rfl
theorem Qaaa{γ:Nat}{cs:List PV}:Qeb γ (.rag cs)= .rag cs:=rfl
attribute [go_sem] Qapm Q99 Qaaa false_and List.all_cons List.all_nil Q97 Qafj Q98 Qars exists_eq_left' Qapg Qaph Qari Qarj Qark Qarl stNs Qapi Qakg Qarm Qarn Q95 Q96 Qapj Qapk Qaro Qarp Qakh Q6s Q6t Qarq Q28 Q1w Qapl Qaki Qakj Qakk mv_P Qarr
theorem Q4e{p:PV}(h:Cln p):Qfa p=p:=by
 obtain⟨h1,h2,h3,h4⟩:=h;have h5:(p.refs.any isN||p.sref.any isS)=false:=by rw[Bool.or_eq_false_iff,List.any_eq_false,List.any_eq_false];exact⟨fun x hx=>by simp[h1 x hx],fun x hx=>by simp[h2 x hx]⟩
 unfold Qfa;split
 ·exact absurd rfl (h3 _ _ _ _)
 ·exact absurd rfl (h4 _).1
 ·exact absurd rfl (h4 _).2.1
 ·exact absurd rfl ((h4 _).2.2 _)
 ·rw[h5];rfl
theorem Qvp{V W:List (Nat×Nat)}{B B':List Nat}{X Z F:Fr}(h:Qtj V W=true)(hB:(B'.all B.contains)=true):ovr V X (bse B' (ovr W Z (bse B F)))=ovr W (ovr V X (bse B' Z)) (bse B F):=by
 have e1:Qdz (ovr W Z (bse B F))=ovr W (Qdz Z) (bse B F):=by
  funext s;show Qfa (ovr W Z (bse B F) s)=_;unfold ovr;split
  ·rfl
  ·exact Q4e (Qlo B F s)
 unfold bse;rw[show Qdz (ovr W Z (Qah B (Qdz F)))=ovr W (Qdz Z) (Qah B (Qdz F))from e1,Q2x h hB]
theorem Qpn{V W:List (Nat×Nat)}{B:List Nat}{X Z F:Fr}(h:Qtj V W=true):ovr V X (Qdz (ovr W Z (Qah B (Qdz F))))=ovr W (ovr V X (Qdz Z)) (Qah B (Qdz F)):=by
 have e1:Qdz (ovr W Z (bse B F))=ovr W (Qdz Z) (bse B F):=by
  funext s;show Qfa (ovr W Z (bse B F) s)=_;unfold ovr;split
  ·rfl
  ·exact Q4e (Qlo B F s)
 rw[show Qdz (ovr W Z (Qah B (Qdz F)))=ovr W (Qdz Z) (Qah B (Qdz F))from e1,Qfx h]
theorem Qs2{V W:List (Nat×Nat)}{X Z F:Fr}(h:Qtj V W=true):ovr V X (Qdz (ovr W Z (Qdz F)))=ovr W (ovr V X (Qdz Z)) (Qdz F):=by have:=Qpn (V:=V) (W:=W) (B:=[]) (X:=X) (Z:=Z) (F:=F) h;simpa only[Qb3]using this
theorem Qaab{γ:Nat}{F:Fr}:Qd0 γ (Qdz F)=Qdz F:=by have:=Qyh (γ:=γ) (B:=[]) (F:=F);simpa only[bse,Qb3]using this
theorem Qaac{β:Nat}{F:Fr}(h:2000000<=β):Qc1 β (Qdz F)=Qdz F:=by have:=Qyg (B:=[]) (F:=F) h;simpa only[bse,Qb3]using this
attribute [go_sem] Qaab Qaac
theorem Qart:(∀(k:IntKind)(n:Int),(PV.int k n).sref=[])/\(∀b:Bool,(PV.bool b).sref=[])/\(PV.nilS.sref=[])/\(PV.undef.sref=[])/\(∀(e:Nat)(xs:List PV),(PV.sl e xs).sref=[])/\(∀cs:List PV,(PV.agg cs).sref=[])/\(∀cs:List PV,(PV.tup cs).sref=[])/\(∀cs:List PV,(PV.pt cs).sref=[])/\
  (∀(β o n:Nat),(PV.mso β o n).sref=[])/\(∀(β o n:Nat),(PV.mp β o n).sref=[])/\(∀(β o n:Nat),(PV.nso β o n).sref=[β])/\(∀(β o n:Nat),(PV.np β o n).sref=[β]):=by
 refine⟨?_,?_,?_,?_,?_,?_,?_,?_,?_,?_,?_,?_⟩<;>intros<;>rfl
attribute [go_sem] Qart
theorem Qafk{d w i:Nat}{k:IntKind}{f:Nat->Rat}(h:i<w):Qci 3 (.sl 3 (Qi9 PV.rat f w)) (.int k (i:Nat)) d fr hp K=K (upd fr d (.pt (PV.rat (f i)).cells)) hp:=by unfold Qi9;rw[Qll (by omega) (by simp;omega)];simp
theorem Qafl{α:Type}{p:α->PV}{f:Nat->α}{w d e:Nat}:Qkr (.sl e (Qi9 p f w)) d fr hp K=K (upd fr d (.int .i64 (w:Nat))) hp:=by simp[Qkr,Qi9]
attribute [go_sem] Qafk Qafl
theorem Qakl{i c:Nat}(h:c<1600000):(1600000+i=c)=False:=by simp;omega
attribute [go_sem] Qakl
end Go.FW
namespace Go.FW
open Go
variable {C C' : Ctx} {ρ ρ' : Nat -> Option Nat} {fr fr' : Fr} {hp hp' : HP} {w : World} {K R : Qg}
theorem Q4f{sk:List It}{r:RT}(s k:Nat)(l:List Nat){p D:PV}(h0:fr s=p)(h1:okDP fr k p)(h2:dsnP fr hp k p=D)(h3:rchP fr k p=l)(hv:vc C R (.o r::sk) (upd fr s D) (Qaj hp l)):vc C R (.o (.wk r)::sk) fr hp:=by subst h0;subst h2;subst h3;exact Qh0 (Qam6 s k h1) hv
end Go.FW
namespace Go.FW
open Go
abbrev MF:=Nat->Nat->Rat
abbrev LF:=Rat×(Nat->Rat)
variable {C : Ctx} {fr : Fr} {hp : HP} {w : World} {K R : Qg}
abbrev PV.rowD(w:Nat)(f:Nat->Rat):PV:=.sl 3 (Qi9 PV.rat f w)
theorem Qakm{ty w n i d:Nat}{fz:Bool}{M:MF}(h:i<n):ldM (some ⟨1,ty,Qi9 (PV.rowD w) M n,fz⟩) 1 false i 0 d fr hp K=K (upd fr d (PV.rowD w (M i))) hp:=by rw[Qkb (by rw[Qnl];exact h) (by omega) (by simp),Qtv];rfl
theorem Qafm{d w n i:Nat}{k:IntKind}{M:MF}(h:i<n):Qci 1 (.sl 1 (Qi9 (PV.rowD w) M n)) (.int k (i:Nat)) d fr hp K=K (upd fr d (.pt [PV.rowD w (M i)])) hp:=by
 have hl:i<(Qi9 (PV.rowD w) M n).length:=by rw[Qnl];exact h
 simp only[Qci];simp[hl,Qtv];rfl
attribute [go_sem] Qakm Qafm
theorem Qafn{ty i d:Nat}{fz:Bool}{α:Type}{p:α->PV}{L:List α}(h:i<L.length):ldM (some ⟨1,ty,L.map p,fz⟩) 1 false i 0 d fr hp K=K (upd fr d (ldV false 1 0 (p (L[i]'h)))) hp:=by rw[Qkb (by rw[List.length_map];exact h) (by omega) (by simp),List.getElem_map]
theorem Qafo{ty i d:Nat}{fz:Bool}{L:List LF}(h:i<L.length):ldM (some ⟨3,ty,L.map (fun f=>PV.rat f.1),fz⟩) 3 true i 0 d fr hp K=K (upd fr d (PV.rat (L[i]'h).1)) hp:=by rw[Qkb (by rw[List.length_map];exact h) (by omega) (by simp),List.getElem_map];rfl
theorem Qafp{ty i d w:Nat}{fz:Bool}{L:List LF}(h:i<L.length):ldM (some ⟨1,ty,L.map (fun f=>PV.rowD w f.2),fz⟩) 1 false i 0 d fr hp K=K (upd fr d (PV.rowD w (L[i]'h).2)) hp:=by rw[Qafn h];rfl
attribute [go_sem] Qafo Qafp
def nm1(x:Nat):Bool:=decide (x=2000000)
theorem Qapn:nm1 2000000=true:=decide_eq_true rfl
attribute [go_sem] Qapn
theorem Qapo{p:PV}{ps:List PV}{d:Nat}{fr:Fr}{hp:HP}{K:Qg}:Qg1 (.rtp (p::ps)) 0 d fr hp K=K (upd fr d p) hp:=rfl
theorem Qapp{p q:PV}{ps:List PV}{d:Nat}{fr:Fr}{hp:HP}{K:Qg}:Qg1 (.rtp (p::q::ps)) 1 d fr hp K=K (upd fr d q) hp:=rfl
attribute [go_sem] Qapo Qapp
end Go.FW
namespace Go.FW
open Go
variable {C : Ctx} {fr : Fr} {hp : HP} {w : World} {K R : Qg}
theorem Qapq{cs:List PV}{q:PV}{d:Nat}:Qg1 (.rtq cs q) 0 d fr hp K=K (upd fr d (.rag cs)) hp:=rfl
theorem Qapr{cs:List PV}{q:PV}{d:Nat}:Qg1 (.rtq cs q) 1 d fr hp K=K (upd fr d q) hp:=rfl
theorem Qaru{n ty d:Nat}{cs:List PV}(h:cs.length=n)(h0:0<n)(hU:cs.all PV.notU=true)(hno:cs.all (fun x=> !(x.sref1.contains (4000000+d)))=true):
  Qdu n ty (.rag cs) d fr hp K=K (upd (upd (Qc1 (4000000+d) fr) (4000000+d) (.nst (4000000+d) n ty [.rag cs])) d (.np (4000000+d) 0 0)) (Qv hp (4000000+d) ⟨n,ty,[],false⟩):=by
 show Qp8 n ty cs d fr hp K=_;unfold Qp8 nmN;simp only[eq_iff_iff,and_iff_right_iff_imp];exact fun _=>⟨h,h0,hU,hno⟩
theorem rn_1{σ:Nat->Nat}{γ e ty:Nat}{cs:List PV}:rnP σ (.nst γ e ty [.rag cs])= .nst (σ γ) e ty [Qei (cs.map (rn1 σ))]:=rfl
theorem Qarv{γ γ' e ty:Nat}{cs:List PV}(h:γ'≠γ):Qcp γ (.nst γ' e ty [.rag cs])= .nst γ' e ty [Qei (cs.map (Qdg γ))]:=by simp[Qcp,h,PV.ncells]
theorem Qarw{γ e ty:Nat}{cs:List PV}{nm:Nat->Bool}:Q1u nm (.nst γ e ty [.rag cs])=if(γ::cs.flatMap PV.sref1).any nm then .undef else .nst γ e ty [.rag cs]:=by simp[Q1u,PV.refs,PV.sref,PV.ncells]
attribute [go_sem] Qapq Qapr Qaru rn_1 Qarv Qarw
end Go.FW
