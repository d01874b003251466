/- Part 7 of the proof of TriangularMakes: W2, W3, CS, S1, S2, S3, S4, S5, S6, S7, S8, S9, T1, T1b, T1c, T1d, U1, U2, P4, U3, FwNG, FwNS, FwNT, FwNH, FwNI, FwNJ, FwVA, FwVB, FwVC, FwYA. Own lemmas; no conditions. -/
import Derived.Test.YtdjoomkeehihmaaGreatTriangularMakesPart6
set_option maxHeartbeats 1000000
set_option linter.unusedSimpArgs false
set_option linter.unusedVariables false
set_option linter.unnecessarySimpa false
set_option maxRecDepth 100000
namespace Go.Proofs.YtdjoomkeehihmaaGreat
open Go Go.FW
theorem Hm(v:Nat)(n:Int)(h:n=((n.toNat:Nat):Int)):(List.replicate (v+1) (0:Int)).set v n=cJ v n.toNat:=by
 unfold cJ;rw[<-h];induction v with
 |zero=>rfl
 |succ v ih=>rw[KbE,List.set_cons_succ,ih];rfl
theorem Qyb{p:List Tm}{v n K E:Nat}(hp:PB K E p)(hv:v<64)(hn:n<=E)(lO:2<=K)(hE:E<=2^37)(bV:p.length<=2^30)(hK:K<=2^32):
  Qc Tryz.prog 107 [PV.aj p,.int .i64 v,.int .i64 n] (· =PV.aj (gr p v n)):=by
 have qN:v<(List.replicate (v+1) (0:Int)).length:=by simp
 have jB:=nK;have Vr:gr p v n=if n=0 then p else Q8 p [(1,cJ v n)]:=rfl
 refine Qf Qj Tryz.func107 rfl ae4 (by simp[Ix]) fun C hP=>?_;simp only[Ix,Zo,Zg,Zm,Zc,Zf,Zl,Zh,Zs,Zi,Zb,Zk,Zn,Zu,Zq,Zr,Zz];refine Sz0 ?_;refine dF (fun h1=>by omega) (fun _=>?_);refine Sz0 ?_;refine dF (fun h1=>by omega) (fun _=>?_);refine Sz0 ?_;refine Qb (fun h0=>?_) (fun h0=>?_)
 ·obtain rfl:n=0:=by omega
  refine Sz0 ?_;exact Qd rfl rfl
 refine Sz0 ?_;rw[Hm v n (by omega),KbM];have dZ:(cJ v n).length=v+1:=by simp[cJ]
 refine Qa hP (uL (by omega) (by omega)) rfl rfl rfl ?_;generalize hc:((1:Int):Rat)=c;have oE:c=1:=hc.symm;refine Sz0 ?_;rw[P5 (p:=PV.rat c) (e:=1) (ty:=3) (fz:=false) (xs:=iI (cJ v n)) rfl Tz0 (by simp[dZ,iI])];have oD:PB K E [(c,cJ v n)]:=fun t ht=>by
  obtain rfl:t=(c,cJ v n):=by simpa using ht
  exact⟨by show rs c+1<=K;rw[oE];omega,(Hz hv).mono hn,CL (by omega)⟩
 have qO:min p.length [(c,cJ v n)].length*(K+K)<=1*(K+K):=Kaf _ (by simp;omega);have mX:p.length*[(c,cJ v n)].length<=p.length:=by simp
 rw[if_neg (by omega),<-oE]at Vr;refine Sz0 ?_;refine iE hP (rh hp oD hE bV (by simp) (by omega) (by omega) (by omega)) BT rfl ?_;refine Sz0 ?_;exact Qd (by rw[Vr]) rfl
theorem FR{f g:List Tm}{v d N K E M:Nat}(nf:aC f)(ng:aC g)(bg:PB K E g)(hv:v<64)(ia:g≠[])(hd:Q3 g v=d)(hN:Q3 f v<N)(pA:bf f=false)
  (hb:∀k,k<N->PB K E (aG g v d f k).1/\PB K E (aG g v d f k).2) (xX:g.length<=M) (hM:M<=2^16) (hK:M*(K+K+2)+(M*(K+K+2)+(K+2))<=2^31) (lO:2<=K) (Lr:1<=M) (hE:E<=2^24) (At:0<N) (hN2:N<=2^30):
  Qc Tryz.prog 57 [PV.aj f,PV.aj g,.int .i64 v] (· =js g v d N [] f 0):=by
 have hlen:∀ {p:List Tm},bf p=false->p.length<=4000:=fun {p} h=>by unfold bf at h;simp only[Kcf,decide_eq_false_iff_not]at h;omega
 have hKM:K+K+2<=M*(K+K+2):=by have:=Kaf (K+K+2) Lr;omega
 have al5:M*(K+K)<=M*(K+K+2):=Ka7 _ (by omega);have AD:PB K E f:=(hb 0 At).2;have LW:∀t∈f,MB E t.2:=fun t ht=>(AD t ht).m;have am5:=hlen pA;have eV:(aX g v d).length<=M:=Kay (pZ _ _ _) xX;have ix:=ql bg v (d:Int);refine Qf Qj Tryz.func57 rfl aiG (by simp[Kr]) fun C hP=>?_;simp only[Kr,Zo,Zg,Zm,Zc,Zf,Zl,Zh,Zs,Zi,Zb,Zk,Zn,Zu,Zq,Zr,Zz];simp+decide (disch:=first|omega|rfl|(simp+decide only[go_sem]<;>rfl)|fail) only[go_sem,b8,bI];refine dF (fun h1=>by omega) (fun _=>?_);simp+decide (disch:=first|omega|rfl|(simp+decide only[go_sem]<;>rfl)|fail) only[go_sem,b8,bI];refine Qb (fun h1=>by omega) (fun _=>?_);simp+decide (disch:=first|omega|rfl|(simp+decide only[go_sem]<;>rfl)|fail) only[go_sem,b8,bI];refine Qb (fun h1=>absurd (Kar.1 (by omega)) ia) (fun _=>?_);simp+decide (disch:=first|omega|rfl|(simp+decide only[go_sem]<;>rfl)|fail) only[go_sem,b8,bI];refine Qa hP (FT LW (by omega)) rfl rfl rfl ?_;rw[pA];simp+decide (disch:=first|omega|rfl|(simp+decide only[go_sem]<;>rfl)|fail) only[go_sem,b8,bI];refine Qa hP (uy bg (by omega)) rfl rfl rfl ?_;rw[mA,hd];simp+decide (disch:=first|omega|rfl|(simp+decide only[go_sem]<;>rfl)|fail) only[go_sem,b8,bI];refine Qa hP (F3 bg (by omega)) rfl rfl rfl ?_;rw[mA];simp+decide (disch:=first|omega|rfl|(simp+decide only[go_sem]<;>rfl)|fail) only[go_sem,b8,bI];refine rE 6 4 (by simp+decide (disch:=first|omega|rfl|(simp+decide only[go_sem]<;>rfl)|fail) only[go_sem,b8,bI]) ?_;refine Qz (by repeat (first|exact Qs|exact Ql|exact Qm|exact Qn|exact Qo|apply Qk|apply Qr|apply Qx|apply Q4|apply Q5|apply Qi)) [(6,9),(12,13),(36,89)] [] (fun m J hp=>∃k,m=N-k/\k<=N/\((aG g v d f k).2≠[]->Q3 (aG g v d f k).2 v<N-k)/\(∃K' E',PB K' E' (aG g v d f k).2/\E'<=2^30)/\bf (aG g v d f k).1=false/\bf (aG g v d f k).2=false/\js g v d (N-k) (aG g v d f k).1 (aG g v d f k).2 k=js g v d N [] f 0/\
  J 6=PV.aj (aG g v d f k).1/\J 7=PV.aj (aG g v d f k).2/\J 8= .int .i64 (k:Nat)) N ?_ ?_
 ·refine⟨0,rfl,by omega,fun _=>by simpa[aG]using hN,⟨K,E,AD,by omega⟩,rfl,pA,rfl,?_⟩;simp+decide (disch:=first|omega|rfl|(simp+decide only[go_sem]<;>rfl)|fail) only[go_sem,b8,bI];exact⟨rfl,rfl,rfl⟩
 rintro _ J h ⟨k,rfl,hk,LR,⟨K',E',AF,hE'⟩,lU,gh,dq,h6,h7,h8⟩;obtain⟨n1,n2⟩:=sZ (v:=v) (d:=d) nf ng k;have aF:aG g v d f (k+1)=(iw (aG g v d f k).1 (aG g v d f k).2 g v (Q3 (aG g v d f k).2 v).toNat d,eD (aG g v d f k).2 g v (Q3 (aG g v d f k).2 v).toNat d):=rfl;have LJ:=hb k;generalize(aG g v d f k).1=q at *
 generalize(aG g v d f k).2=r at *
 have sh:=hlen lU;have kZ:=hlen gh;simp+decide (disch:=first|omega|rfl|(simp+decide only[go_sem,h6,h7,h8]<;>rfl)|fail) only[go_sem,b8,bI,h6,h7,h8];refine fX (fun hg=>?_) (fun hg=>?_)
 ·have iU:r≠[]:=fun h=>by rw[h]at hg;simp at hg
  have pM:=oq AF iU v;have amO:=LR iU;have L8:k<N:=by omega
  obtain⟨b1,b2⟩:=LJ L8;obtain⟨n,hn⟩:∃n:Nat,Q3 r v=n:=⟨(Q3 r v).toNat,by omega⟩
  have Mf:n<=E:=by have:=(oq b2 iU v).2;omega
  simp+decide (disch:=first|omega|rfl|(simp+decide only[go_sem,h6,h7,h8]<;>rfl)|fail) only[go_sem,b8,bI,h6,h7,h8];refine Qa hP (uy b2 (by omega)) rfl rfl rfl ?_;rw[mA,hn];simp+decide (disch:=first|omega|rfl|(simp+decide only[go_sem,h6,h7,h8]<;>rfl)|fail) only[go_sem,b8,bI,h6,h7,h8];refine Qb (fun hc=>?_) (fun hc=>?_)
  ·have hdn:d<=n:=by omega
   have e1:(n:Int)-(d:Int)=((n-d:Nat):Int):=by omega
   have Ev:=Fy n2 ng b2 iU hd (by omega);rw[hn,KbM]at aF Ev;obtain⟨q1,q2,q3,q4,q5,q6,q7,q8⟩:=NL (n:=n) (d:=d) b1 b2 bg xX hv Mf;have nb:aC (de r v n d):=sK (kJ n2 v n) v (n-d);have hmr:min (aX g v d).length r.length*(K+K)<=M*(K+K):=Kaf _ (by omega);have hmq:min (aX g v d).length q.length*(K+K)<=M*(K+K):=Kaf _ (by omega);have Vk:min (de r v n d).length g.length*(K+2+(K+2))<=M*(K+K+2)+M*2:=by
    have:=Kaf (K+2+(K+2)) (show min (de r v n d).length g.length<=M by omega);have e:K+2+(K+2)=K+K+2+2:=by omega
    rw[e]at this⊢;rw[<-Nat.mul_add];exact this
   have lU:(aX g v d).length*r.length<=2^16*4000:=KaM (by omega) kZ;have gh:(aX g v d).length*q.length<=2^16*4000:=KaM (by omega) sh;have AR:(de r v n d).length*g.length<=4000*2^16:=KaM (by omega) (by omega);have hl4:M*r.length<=2^16*4000:=KaM (by omega) kZ;have hl5:M*q.length<=2^16*4000:=KaM (by omega) sh;have hl6:r.length*M<=4000*2^16:=KaM kZ hM;have hB:gr (aX r v n) v (n-d)=de r v n d:=rfl;simp+decide (disch:=first|omega|rfl|(simp+decide only[go_sem,h6,h7,h8]<;>rfl)|fail) only[go_sem,b8,bI,h6,h7,h8];refine Qa hP (uy b2 (by omega)) rfl rfl rfl ?_;rw[mA,hn];simp+decide (disch:=first|omega|rfl|(simp+decide only[go_sem,h6,h7,h8]<;>rfl)|fail) only[go_sem,b8,bI,h6,h7,h8];refine Qa hP (F3 b2 (by omega)) rfl rfl rfl ?_;rw[mA];simp+decide (disch:=first|omega|rfl|(simp+decide only[go_sem,h6,h7,h8,e1]<;>rfl)|fail) only[go_sem,b8,bI,h6,h7,h8,e1];refine Qa hP (Qyb (E:=E) (K:=K) (ql b2 v n) hv (by omega) lO (by omega) (by have:=pZ r v n;omega) (by omega)) rfl rfl rfl ?_;rw[hB];simp+decide (disch:=first|omega|rfl|(simp+decide only[go_sem,h6,h7,h8]<;>rfl)|fail) only[go_sem,b8,bI,h6,h7,h8];refine Qa hP (rh ix b1 (by omega) (by omega) (by omega) (by omega) (by omega) (by omega)) rfl rfl rfl ?_;simp+decide (disch:=first|omega|rfl|(simp+decide only[go_sem,h6,h7,h8]<;>rfl)|fail) only[go_sem,b8,bI,h6,h7,h8];refine Qa hP (Gz (K:=M*(K+K+2)) (E:=E+E) (q3.mono (by omega) (Kac _)) (q1.mono (by omega) (Kac _)) (by omega) (by omega) (by omega) (by omega)) rfl rfl rfl ?_;rw[show Q7 (Q8 (aX g v d) q) (de r v n d)=iw q r g v n d from rfl];simp+decide (disch:=first|omega|rfl|(simp+decide only[go_sem,h6,h7,h8]<;>rfl)|fail) only[go_sem,b8,bI,h6,h7,h8];refine Qa hP (rh ix b2 (by omega) (by omega) (by omega) (by omega) (by omega) (by omega)) rfl rfl rfl ?_;simp+decide (disch:=first|omega|rfl|(simp+decide only[go_sem,h6,h7,h8]<;>rfl)|fail) only[go_sem,b8,bI,h6,h7,h8];refine Qa hP (rh (q1.mono (Kac _) (by omega)) (bg.mono (K':=K+2) (E':=E+E) (by omega) (by omega)) (by omega) (by omega) (by omega) (by omega) (by omega) (by omega)) rfl rfl rfl ?_;simp+decide (disch:=first|omega|rfl|(simp+decide only[go_sem,h6,h7,h8]<;>rfl)|fail) only[go_sem,b8,bI,h6,h7,h8];refine Qa hP (GA (K:=M*(K+K+2)) (E:=E+E+E) (q5.mono (by omega) (by omega)) q7 (by omega) (by omega) (by omega) (by omega) (by omega)) rfl rfl rfl ?_;rw[show fY (Q8 (aX g v d) r) (Q8 (de r v n d) g)=eD r g v n d from rfl];have bQ:PB (M*(K+K)+(K+2)) (E+E) (iw q r g v n d):=uT _ _ q3 q1;have lQ:(iw q r g v n d).length<=2^33:=Kay (uC _ _) (by omega);have bR:PB (M*(K+K)+(M*(K+K+2)+2)) (E+E+E) (eD r g v n d):=uT _ _ (q5.mono (Kac _) (by omega)) (xc q7);have lR:(eD r g v n d).length<=2^33:=Kay (uC _ _) (by have:=uA (Q8 (de r v n d) g) (-1);have e:(kP (Q8 (de r v n d) g)).length=(ch (Q8 (de r v n d) g) (-1)).length:=rfl;omega);have qR:¬(r=[]∨Q3 r v<d):=fun h=>h.elim iU (fun h=>by omega);have fw:=GF (g:=g) (k:=k) (q:=q) (fuel:=N-(k+1)) qR;have gf:=Ge (g:=g) (k:=k) (q:=q) (fuel:=N-(k+1)) qR;rw[show N-(k+1)+1=N-k by omega,hn,KbM,dq]at fw gf;generalize iw q r g v n d=q' at *
   generalize eD r g v n d=r' at *
   simp+decide (disch:=first|omega|rfl|(simp+decide only[go_sem,h6,h7,h8]<;>rfl)|fail) only[go_sem,b8,bI,h6,h7,h8];refine Qa hP (FT (fun t ht=>(bQ t ht).m) (by omega)) rfl rfl rfl ?_;cases ie:bf q'
   ·simp+decide (disch:=first|omega|rfl|(simp+decide only[go_sem,h6,h7,h8]<;>rfl)|fail) only[go_sem,b8,bI,h6,h7,h8];refine Qa hP (FT (fun t ht=>(bR t ht).m) (by omega)) rfl rfl rfl ?_;cases qN:bf r'
    ·simp+decide (disch:=first|omega|rfl|(simp+decide only[go_sem,h6,h7,h8]<;>rfl)|fail) only[go_sem,b8,bI,h6,h7,h8];refine Qa hP (uy bR (by omega)) rfl rfl rfl ?_;rw[mA];have LP:=fw (by simp[ie,qN]);have fU:¬((n:Int)<=Q3 r' v):=by omega
     simp+decide (disch:=first|omega|rfl|(simp+decide only[go_sem,h6,h7,h8,fU]<;>rfl)|fail) only[go_sem,b8,bI,h6,h7,h8,fU];refine Qh (N-(k+1)) (by omega) ⟨k+1,rfl,by omega,?_⟩;rw[aF];refine⟨fun _=>?_,⟨_,_,bR,by omega⟩,ie,qN,LP.symm,?_⟩
     ·show Q3 r' v<(N:Int)-((k+1:Nat):Int)
      omega
     simp+decide (disch:=first|omega|rfl|(simp+decide only[go_sem]<;>rfl)|fail) only[go_sem,b8,bI]
    ·have vJ:=gf (.inr qN);simp+decide (disch:=first|omega|rfl|(simp+decide only[go_sem]<;>rfl)|fail) only[go_sem,b8,bI];exact tv vJ rfl rfl rfl rfl oZ oZ (Qw _) (Qw _)
   ·have vJ:=gf (.inl ie);simp+decide (disch:=first|omega|rfl|(simp+decide only[go_sem]<;>rfl)|fail) only[go_sem,b8,bI];exact tv vJ rfl rfl rfl rfl oZ oZ (Qw _) (Qw _)
  ·have fw:=yU (g:=g) (q:=q) (k:=k) (show r=[]∨Q3 r v<d from .inr (by omega)) (N-k);rw[dq]at fw;simp+decide (disch:=first|omega|rfl|(simp+decide only[go_sem,h6,h7,h8]<;>rfl)|fail) only[go_sem,b8,bI,h6,h7,h8];exact tv fw rfl rfl rfl rfl (Qw _) (Qw _) (Qw _) (Qw _)
 ·have iU:r=[]:=Kar.1 (by omega);have fw:=yU (g:=g) (q:=q) (k:=k) (show r=[]∨Q3 r v<d from .inl iU) (N-k);rw[dq]at fw;simp+decide (disch:=first|omega|rfl|(simp+decide only[go_sem,h6,h7,h8]<;>rfl)|fail) only[go_sem,b8,bI,h6,h7,h8];exact tv fw rfl rfl rfl rfl (Qw _) (Qw _) (Qw _) (Qw _)
def IX:az:=⟨24,[.t 2],Zr (Zo (.mv 2 (.c .aa)) .nil)<|Zr (Zm 5 0<|Zn 6 5<|Zm 3 6 .nil)<| .seq (.block 0<| .loop<| .seq (Zr (Zm 7 3<|Zk 8 .gtr 7 0<|Zm 9 8<|Zg 9 true (.mv 10 (.t 0))<|Zg 9 true (.mv 11 (.t 3))<|Zg 9 true (.bin 12 .sub false (.t 11) (.c (Zz 1)))<|Zg 9 true (.idx 13 1 (.t 10) (.t 12))<|Zg 9 true (.ld 14 1 false (.t 13))<|Zg 9 true (.bin 15 .eql false (.t 14) (.c (.int .u16 0)))<|Zo (.pick 16 (.t 9) (.t 15) (.c (.bool false))) .nil)<| .cond (.t 16) .skip (.exit 0))<| .block 1<| .rg (Zm 17 3<|Zk 18 .sub 17 1<|Zm 3 18 .nil))<|Zr (Zo (.mv 4 (.c .aa)) .nil)<|Zr (Zm 19 4<|Zm 20 0<|Zm 21 3<|Zo (.sl 22 1 (.t 20) none (some (.t 21)) none)<|Zo (.app 23 1 2 76 (.t 19) (.t 22))<|Zm 2 23 .nil) .ret⟩
theorem afP:Qe Tryz.prog Tryz.f131=some IX:=by kernel_rfl
def KF:az:=⟨15,[.t 2],Zr (Zo (.mv 2 (.c .aa)) .nil)<|Zr (Zo (.mv 3 (.c .aa)) .nil)<| .seq (.block 0<| .loop<| .seq (Zr (Zm 4 0<|Zo (.bin 5 .gtr false (.t 4) (.c (.int .u64 0))) .nil)<| .cond (.t 5) .skip (.exit 0))<| .block 1<|Zr (Zm 6 3<|Zm 7 0<|Zo (.bin 8 .rem false (.t 7) (.c (.int .u64 65536)))<|Zo (.conv 9 .u16 (.t 8))<|Zo (.bs 10 1 76 [.t 9])<|Zo (.app 11 1 2 76 (.t 6) (.t 10))<|Zm 3 11 .nil)<| .rg (Zm 12 0<|Zo (.bin 13 .quo false (.t 12) (.c (.int .u64 65536)))<|Zm 0 13 .nil))<|Zr (Zm 14 3<|Zm 2 14 .nil) .ret⟩
theorem aiQ:Qe Tryz.prog Tryz.f74=some KF:=by kernel_rfl
def Js:az:=⟨21,[.t 2],Zr (Zo (.mv 2 (.c (.int .u64 0))) .nil)<|Zr (Zo (.mv 3 (.c (.int .u64 0))) .nil)<| .seq (Zr (Zm 5 0<|Zn 6 5<|Zk 7 .sub 6 1<|Zm 4 7 .nil)<| .block 0<| .loop<| .seq (Zr (Zm 8 4<|Zk 9 .geq 8 0 .nil)<| .cond (.t 9) .skip (.exit 0))<| .seq (.block 1<| .rg (Zm 12 3<|Zo (.bin 13 .mul false (.t 12) (.c (.int .u64 65536)))<|Zm 14 0<|Zm 15 4<|Zi 16 1 14 15<|Zl 17 1 16<|Zo (.conv 18 .u64 (.t 17))<|Zb 19 .add 13 18<|Zm 3 19 .nil))<| .rg (Zm 10 4<|Zk 11 .sub 10 1<|Zm 4 11 .nil))<|Zr (Zm 20 3<|Zm 2 20 .nil) .ret⟩
theorem afQ:Qe Tryz.prog Tryz.f164=some Js:=by kernel_rfl
def Jh:az:=⟨14,[.t 4],Zr (Zc 4 0 .nil)<| .seq (Zr (Zm 5 1<|Zm 6 0<|Zn 7 6<|Zb 8 .lss 5 7 .nil)<| .cond (.t 8) (Zr (Zm 9 0<|Zm 10 1<|Zi 11 1 9 10<|Zl 12 1 11<|Zo (.conv 13 .i64 (.t 12))<|Zm 4 13 .nil) .ret) .skip)<|Zr (Zc 4 0 .nil) .ret⟩
theorem afR:Qe Tryz.prog Tryz.f153=some Jh:=by kernel_rfl
def Jx:az:=⟨30,[.t 4],Zr (Zc 4 0 .nil)<| .seq (Zr (Zm 6 0<|Zn 7 6<|Zm 8 1<|Zn 9 8<|Zo (.mx 10 (.t 7) (.t 9))<|Zk 11 .sub 10 1<|Zm 5 11 .nil)<| .block 0<| .loop<| .seq (Zr (Zm 12 5<|Zk 13 .geq 12 0 .nil)<| .cond (.t 13) .skip (.exit 0))<| .seq (.block 1<| .seq (Zr (Zm 16 0<|Zm 17 5<|Zq 18 false 153 [.t 16,.t 17]<|Zm 19 1<|Zm 20 5<|Zq 21 false 153 [.t 19,.t 20]<|Zb 22 .lss 18 21 .nil)<| .cond (.t 22) (Zr (Zc 4 (-1) .nil) .ret) .skip)<|Zr (Zm 23 0<|Zm 24 5<|Zq 25 false 153 [.t 23,.t 24]<|Zm 26 1<|Zm 27 5<|Zq 28 false 153 [.t 26,.t 27]<|Zb 29 .gtr 25 28 .nil)<| .cond (.t 29) (Zr (Zc 4 1 .nil) .ret) .skip)<| .rg (Zm 14 5<|Zk 15 .sub 14 1<|Zm 5 15 .nil))<|Zr (Zc 4 0 .nil) .ret⟩
theorem afS:Qe Tryz.prog Tryz.f169=some Jx:=by kernel_rfl
def I0:az:=⟨44,[.t 4],Zr (Zo (.mv 4 (.c .aa)) .nil)<|Zr (Zo (.mv 5 (.c .aa)) .nil)<|Zr (Zc 6 0 .nil)<| .seq (Zr (Zc 7 0 .nil)<| .block 0<| .loop<| .seq (Zr (Zm 9 7<|Zm 10 0<|Zn 11 10<|Zb 12 .lss 9 11<|Zm 13 12<|Zg 13 false (.mv 14 (.t 7))<|Zg 13 false (.mv 15 (.t 1))<|Zg 13 false (.len 16 (.t 15))<|Zg 13 false (.bin 17 .lss false (.t 14) (.t 16))<|Zo (.pick 18 (.t 13) (.c (.bool true)) (.t 17))<|Zm 19 18<|Zg 19 false (.mv 20 (.t 6))<|Zg 19 false (.bin 21 .gtr false (.t 20) (.c (Zz 0)))<|Zo (.pick 22 (.t 19) (.c (.bool true)) (.t 21)) .nil)<| .cond (.t 22) .skip (.exit 0))<| .seq (.block 1<|Zr (Zm 25 0<|Zm 26 7<|Zq 27 false 153 [.t 25,.t 26]<|Zm 28 1<|Zm 29 7<|Zq 30 false 153 [.t 28,.t 29]<|Zb 31 .add 27 30<|Zm 32 6<|Zb 33 .add 31 32<|Zm 8 33 .nil)<|Zr (Zm 34 5<|Zm 35 8<|Zk 36 .rem 35 65536<|Zo (.conv 37 .u16 (.t 36))<|Zo (.bs 38 1 76 [.t 37])<|Zo (.app 39 1 2 76 (.t 34) (.t 38))<|Zm 5 39 .nil)<| .rg (Zm 40 8<|Zk 41 .quo 40 65536<|Zm 6 41 .nil))<| .rg (Zm 23 7<|Zk 24 .add 23 1<|Zm 7 24 .nil))<|Zr (Zm 42 5<|Zq 43 false 131 [.t 42]<|Zm 4 43 .nil) .ret⟩
theorem afT:Qe Tryz.prog Tryz.f134=some I0:=by kernel_rfl
def Jg:az:=⟨40,[.t 4,.t 5],Zr (Zo (.mv 4 (.c .aa))<|Zc 5 0 .nil)<| .seq (Zr (Zm 10 0<|Zm 11 1<|Zq 12 false 169 [.t 10,.t 11]<|Zk 13 .lss 12 0 .nil)<| .cond (.t 13) (Zr (Zo (.mv 4 (.c .aa))<|Zc 5 2 .nil) .ret) .skip)<|Zr (Zo (.mv 6 (.c .aa)) .nil)<|Zr (Zc 7 0 .nil)<| .seq (Zr (Zc 8 0 .nil)<| .block 0<| .loop<| .seq (Zr (Zm 14 8<|Zm 15 0<|Zn 16 15<|Zb 17 .lss 14 16 .nil)<| .cond (.t 17) .skip (.exit 0))<| .seq (.block 1<|Zr (Zm 20 0<|Zm 21 8<|Zq 22 false 153 [.t 20,.t 21]<|Zm 23 1<|Zm 24 8<|Zq 25 false 153 [.t 23,.t 24]<|Zb 26 .sub 22 25<|Zm 27 7<|Zb 28 .sub 26 27<|Zm 9 28 .nil)<|Zr (Zc 7 0 .nil)<| .seq (Zr (Zm 29 9<|Zk 30 .lss 29 0 .nil)<| .cond (.t 30) (Zr (Zm 31 9<|Zk 32 .add 31 65536<|Zm 9 32 .nil)<| .rg (Zc 7 1 .nil)) .skip)<| .rg (Zm 33 6<|Zm 34 9<|Zo (.conv 35 .u16 (.t 34))<|Zo (.bs 36 1 76 [.t 35])<|Zo (.app 37 1 2 76 (.t 33) (.t 36))<|Zm 6 37 .nil))<| .rg (Zm 18 8<|Zk 19 .add 18 1<|Zm 8 19 .nil))<|Zr (Zm 38 6<|Zq 39 false 131 [.t 38]<|Zm 4 39<|Zc 5 0 .nil) .ret⟩
theorem afU:Qe Tryz.prog Tryz.f152=some Jg:=by kernel_rfl
def Is:az:=⟨65,[.t 4],Zr (Zo (.mv 4 (.c .aa)) .nil)<|Zr (Zm 10 0<|Zn 11 10<|Zm 12 1<|Zn 13 12<|Zb 14 .add 11 13<|Zk 15 .add 14 1<|Zo (.mk 16 1 2 76 (.int .u16 0) (.t 15) (.t 15))<|Zm 5 16 .nil)<| .seq (Zr (Zc 6 0 .nil)<| .block 0<| .loop<| .seq (Zr (Zm 17 6<|Zm 18 0<|Zn 19 18<|Zb 20 .lss 17 19 .nil)<| .cond (.t 20) .skip (.exit 0))<| .seq (.block 1<|Zr (Zo (.mv 7 (.c (.int .u64 0))) .nil)<|Zr (Zc 8 0 .nil)<| .block 2<| .loop<| .seq (Zr (Zm 23 8<|Zm 24 1<|Zn 25 24<|Zb 26 .lss 23 25<|Zm 27 26<|Zg 27 false (.mv 28 (.t 7))<|Zg 27 false (.bin 29 .gtr false (.t 28) (.c (.int .u64 0)))<|Zo (.pick 30 (.t 27) (.c (.bool true)) (.t 29)) .nil)<| .cond (.t 30) .skip (.exit 2))<| .seq (.block 3<|Zr (Zm 33 5<|Zm 34 6<|Zm 35 8<|Zb 36 .add 34 35<|Zi 37 1 33 36<|Zl 38 1 37<|Zo (.conv 39 .u64 (.t 38))<|Zm 40 0<|Zm 41 6<|Zi 42 1 40 41<|Zl 43 1 42<|Zo (.conv 44 .u64 (.t 43))<|Zm 45 1<|Zm 46 8<|Zm 51 7<|Zq 47 true 153 [.t 45,.t 46]<|Zo (.conv 48 .u64 (.t 47))<|Zb 49 .mul 44 48<|Zb 50 .add 39 49<|Zb 52 .add 50 51<|Zm 9 52 .nil)<|Zr (Zm 53 5<|Zm 54 6<|Zm 55 8<|Zb 56 .add 54 55<|Zm 57 9<|Zo (.bin 58 .rem false (.t 57) (.c (.int .u64 65536)))<|Zo (.conv 59 .u16 (.t 58))<|Zi 60 1 53 56<|Zs 1 60 59 .nil)<| .rg (Zm 61 9<|Zo (.bin 62 .quo false (.t 61) (.c (.int .u64 65536)))<|Zm 7 62 .nil))<| .rg (Zm 31 8<|Zk 32 .add 31 1<|Zm 8 32 .nil))<| .rg (Zm 21 6<|Zk 22 .add 21 1<|Zm 6 22 .nil))<|Zr (Zm 63 5<|Zq 64 false 131 [.t 63]<|Zm 4 64 .nil) .ret⟩
theorem afV:Qe Tryz.prog Tryz.f103=some Is:=by kernel_rfl
def Jt:az:=⟨27,[.t 4],Zr (Zo (.mv 4 (.c (.int .u64 0))) .nil)<|Zr (Zo (.mv 5 (.c (.int .u64 0)))<|Zo (.mv 6 (.c (.int .u64 65535))) .nil)<| .seq (.block 0<| .loop<| .seq (Zr (Zm 8 5<|Zm 9 6<|Zb 10 .lss 8 9 .nil)<| .cond (.t 10) .skip (.exit 0))<| .block 1<|Zr (Zm 11 5<|Zm 12 6<|Zb 13 .add 11 12<|Zo (.bin 14 .add false (.t 13) (.c (.int .u64 1)))<|Zo (.bin 15 .quo false (.t 14) (.c (.int .u64 2)))<|Zm 7 15 .nil)<|Zr (Zm 16 1<|Zm 17 7<|Zq 18 false 74 [.t 17]<|Zq 19 false 103 [.t 16,.t 18]<|Zm 20 0<|Zq 21 false 169 [.t 19,.t 20]<|Zk 22 .leq 21 0 .nil)<| .cond (.t 22) (.rg (Zm 23 7<|Zm 5 23 .nil)) (.rg (Zm 24 7<|Zo (.bin 25 .sub false (.t 24) (.c (.int .u64 1)))<|Zm 6 25 .nil)))<|Zr (Zm 26 5<|Zm 4 26 .nil) .ret⟩
theorem afW:Qe Tryz.prog Tryz.f165=some Jt:=by kernel_rfl
def IU:az:=⟨73,[.t 4,.t 5,.t 6],Zr (Zo (.mv 4 (.c .aa))<|Zo (.mv 5 (.c .aa))<|Zc 6 0 .nil)<|Zr (Zm 11 0<|Zq 12 false 131 [.t 11]<|Zm 13 1<|Zq 14 false 131 [.t 13]<|Zm 0 12<|Zm 1 14 .nil)<| .seq (Zr (Zm 15 1<|Zn 16 15<|Zk 17 .eql 16 0 .nil)<| .cond (.t 17) (Zr (Zo (.mv 4 (.c .aa))<|Zo (.mv 5 (.c .aa))<|Zc 6 3 .nil) .ret) .skip)<| .seq (Zr (Zm 18 0<|Zn 19 18<|Zk 20 .leq 19 4<|Zm 21 20<|Zg 21 true (.mv 22 (.t 1))<|Zg 21 true (.len 23 (.t 22))<|Zg 21 true (.bin 24 .leq false (.t 23) (.c (Zz 4)))<|Zo (.pick 25 (.t 21) (.t 24) (.c (.bool false))) .nil)<| .cond (.t 25) (Zr (Zm 26 0<|Zq 27 false 164 [.t 26]<|Zm 28 1<|Zq 29 false 164 [.t 28]<|Zb 30 .quo 27 29<|Zq 31 false 74 [.t 30]<|Zm 32 0<|Zq 33 false 164 [.t 32]<|Zm 34 1<|Zq 35 false 164 [.t 34]<|Zb 36 .rem 33 35<|Zq 37 false 74 [.t 36]<|Zm 4 31<|Zm 5 37<|Zc 6 0 .nil) .ret) .skip)<|Zr (Zo (.mv 7 (.c .aa))<|Zo (.mv 8 (.c .aa)) .nil)<| .seq (Zr (Zm 38 0<|Zn 39 38<|Zk 40 .sub 39 1<|Zm 9 40 .nil)<| .block 0<| .loop<| .seq (Zr (Zm 41 9<|Zk 42 .geq 41 0 .nil)<| .cond (.t 42) .skip (.exit 0))<| .seq (.block 1<|Zr (Zm 45 0<|Zm 46 9<|Zi 47 1 45 46<|Zl 48 1 47<|Zo (.bs 49 1 76 [.t 48])<|Zm 50 8<|Zo (.app 51 1 2 76 (.t 49) (.t 50))<|Zq 52 false 131 [.t 51]<|Zm 8 52 .nil)<|Zr (Zm 53 8<|Zm 54 1<|Zq 55 false 165 [.t 53,.t 54]<|Zm 10 55 .nil)<|Zr (Zm 56 10<|Zo (.conv 57 .u16 (.t 56))<|Zo (.bs 58 1 76 [.t 57])<|Zm 59 7<|Zo (.app 60 1 2 76 (.t 58) (.t 59))<|Zm 7 60 .nil)<| .rg (Zm 62 8<|Zm 63 1<|Zm 64 10<|Zq 65 false 74 [.t 64]<|Zq 66 false 103 [.t 63,.t 65]<|Zq 67 false 152 [.t 62,.t 66]<|Zm 61 67<|Zo (.ext 68 (.t 61) 0)<|Zo (.ext 69 (.t 61) 1)<|Zm 8 68 .nil))<| .rg (Zm 43 9<|Zk 44 .sub 43 1<|Zm 9 44 .nil))<|Zr (Zm 70 7<|Zq 71 false 131 [.t 70]<|Zm 72 8<|Zm 4 71<|Zm 5 72<|Zc 6 0 .nil) .ret⟩
theorem afX:Qe Tryz.prog Tryz.f129=some IU:=by kernel_rfl
def IT:az:=⟨25,[.t 4],Zr (Zo (.mv 4 (.c .aa)) .nil)<|Zr (Zm 8 0<|Zq 9 false 131 [.t 8]<|Zm 10 1<|Zq 11 false 131 [.t 10]<|Zm 0 9<|Zm 1 11 .nil)<| .seq (.block 0<| .loop<| .seq (Zr (Zm 12 1<|Zn 13 12<|Zk 14 .gtr 13 0 .nil)<| .cond (.t 14) .skip (.exit 0))<| .block 1<|Zr (Zm 16 0<|Zm 17 1<|Zq 18 false 129 [.t 16,.t 17]<|Zm 15 18<|Zo (.ext 19 (.t 15) 0)<|Zo (.ext 20 (.t 15) 1)<|Zo (.ext 21 (.t 15) 2)<|Zm 5 19<|Zm 6 20<|Zm 7 21 .nil)<| .rg (Zm 22 1<|Zm 23 6<|Zm 0 22<|Zm 1 23 .nil))<|Zr (Zm 24 0<|Zm 4 24 .nil) .ret⟩
theorem afY:Qe Tryz.prog Tryz.f128=some IT:=by kernel_rfl
def I7:az:=⟨15,[.t 2],Zr (Zo (.mv 2 (.c (.bool false))) .nil)<|Zr (Zm 3 0<|Zn 4 3<|Zk 5 .eql 4 0<|Zm 6 5<|Zg 6 false (.mv 7 (.t 0))<|Zg 6 false (.mv 8 (.t 0))<|Zg 6 false (.len 9 (.t 8))<|Zg 6 false (.bin 10 .sub false (.t 9) (.c (Zz 1)))<|Zg 6 false (.idx 11 1 (.t 7) (.t 10))<|Zg 6 false (.ld 12 1 false (.t 11))<|Zg 6 false (.bin 13 .neq false (.t 12) (.c (.int .u16 0)))<|Zo (.pick 14 (.t 6) (.c (.bool true)) (.t 13))<|Zm 2 14 .nil) .ret⟩
theorem afZ:Qe Tryz.prog Tryz.f140=some I7:=by kernel_rfl
def I8:az:=⟨26,[.t 4],Zr (Zo (.mv 4 (.c (.bool false))) .nil)<| .seq (Zr (Zm 6 0<|Zn 7 6<|Zm 8 1<|Zn 9 8<|Zb 10 .neq 7 9 .nil)<| .cond (.t 10) (Zr (Zo (.mv 4 (.c (.bool false))) .nil) .ret) .skip)<| .seq (Zr (Zc 5 0 .nil)<| .block 0<| .loop<| .seq (Zr (Zm 11 5<|Zm 12 0<|Zn 13 12<|Zb 14 .lss 11 13 .nil)<| .cond (.t 14) .skip (.exit 0))<| .seq (.block 1<|Zr (Zm 17 0<|Zm 18 5<|Zi 19 1 17 18<|Zl 20 1 19<|Zm 21 1<|Zm 22 5<|Zi 23 1 21 22<|Zl 24 1 23<|Zb 25 .neq 20 24 .nil)<| .cond (.t 25) (Zr (Zo (.mv 4 (.c (.bool false))) .nil) .ret) .skip)<| .rg (Zm 15 5<|Zk 16 .add 15 1<|Zm 5 16 .nil))<|Zr (Zo (.mv 4 (.c (.bool true))) .nil) .ret⟩
theorem af0:Qe Tryz.prog Tryz.f141=some I8:=by kernel_rfl
def I5:az:=⟨17,[.t 2],Zr (Zo (.box 1 2 41 (.t 0))<|Zo (.mv 2 (.c (.bool false))) .nil)<|Zr (Zf 3 1 1<|Zl 4 1 3<|Zq 5 false 140 [.t 4]<|Zm 6 5<|Zg 6 true (.cz 7 0 (.t 1))<|Zg 6 true (.ld 8 1 false (.t 7))<|Zg 6 true (.mv 9 (.t 8))<|Zg 9 true (.cz 10 1 (.t 1))<|Zg 9 true (.ld 11 1 false (.t 10))<|Zg 9 true (.len 12 (.t 11))<|Zg 9 true (.bin 13 .eql false (.t 12) (.c (Zz 0)))<|Zg 6 true (.pick 14 (.t 9) (.t 13) (.c (.bool false)))<|Zg 6 true (.un 15 .not (.t 14))<|Zo (.pick 16 (.t 6) (.t 15) (.c (.bool false)))<|Zm 2 16 .nil) .ret⟩
theorem af1:Qe Tryz.prog Tryz.f139=some I5:=by kernel_rfl
def IZ:az:=⟨15,[.cell 4 2 true],Zr (Zo (.alloc 4 2 41 (.agg [.bool false,.aa])) .nil)<|Zr (Zm 5 1<|Zq 6 false 131 [.t 5]<|Zm 1 6 .nil)<|Zr (Zm 7 0<|Zm 8 7<|Zg 8 true (.mv 9 (.t 1))<|Zg 8 true (.len 10 (.t 9))<|Zg 8 true (.bin 11 .gtr false (.t 10) (.c (Zz 0)))<|Zo (.pick 12 (.t 8) (.t 11) (.c (.bool false)))<|Zm 13 1<|Zo (.bT 14 [.bool false,.aa] [(0,1,.t 12),(1,1,.t 13)])<|Zs 2 4 14 .nil) .ret⟩
theorem af2:Qe Tryz.prog Tryz.f133=some IZ:=by kernel_rfl
def IY:az:=⟨8,[.cell 2 2 true],Zr (Zo (.box 1 2 41 (.t 0))<|Zo (.alloc 2 2 41 (.agg [.bool false,.aa])) .nil)<|Zr (Zf 3 0 1<|Zl 4 1 3<|Zf 5 1 1<|Zl 6 1 5<|Zq 7 false 133 [.t 4,.t 6]<|Zs 2 2 7 .nil) .ret⟩
theorem af3:Qe Tryz.prog Tryz.f132=some IY:=by kernel_rfl
def KE:az:=⟨17,[.cell 2 2 true],Zr (Zo (.alloc 2 2 41 (.agg [.bool false,.aa])) .nil)<| .seq (Zr (Zm 3 0<|Zk 4 .lss 3 0 .nil)<| .cond (.t 4) (Zr (Zm 5 0<|Zk 6 .add 5 1<|Zo (.un 7 .neg (.t 6))<|Zo (.conv 8 .u64 (.t 7))<|Zq 9 false 74 [.t 8]<|Zq 10 false 74 [.c (.int .u64 1)]<|Zq 11 false 134 [.t 9,.t 10]<|Zq 12 false 133 [.c (.bool true),.t 11]<|Zs 2 2 12 .nil) .ret) .skip)<|Zr (Zm 13 0<|Zo (.conv 14 .u64 (.t 13))<|Zq 15 false 74 [.t 14]<|Zq 16 false 133 [.c (.bool false),.t 15]<|Zs 2 2 16 .nil) .ret⟩
theorem aiR:Qe Tryz.prog Tryz.f73=some KE:=by kernel_rfl
def Iu:az:=⟨11,[.t 2],Zr (Zo (.box 1 2 41 (.t 0))<|Zc 2 0 .nil)<|Zr (Zh 3 2 1<|Zq 4 false 132 [.t 3]<|Zs 2 1 4 .nil)<| .seq (Zr (Zf 5 1 1<|Zl 6 1 5<|Zn 7 6<|Zk 8 .eql 7 0 .nil)<| .cond (.t 8) (Zr (Zc 2 0 .nil) .ret) .skip)<| .seq (Zr (Zf 9 0 1<|Zl 10 1 9 .nil)<| .cond (.t 10) (Zr (Zc 2 (-1) .nil) .ret) .skip)<|Zr (Zc 2 1 .nil) .ret⟩
theorem af4:Qe Tryz.prog Tryz.f104=some Iu:=by kernel_rfl
def I4:az:=⟨38,[.t 4],Zr (Zo (.box 2 2 41 (.t 0))<|Zo (.box 3 2 41 (.t 1))<|Zc 4 0 .nil)<|Zr (Zh 5 2 2<|Zh 7 2 3<|Zq 6 true 132 [.t 5]<|Zq 8 true 132 [.t 7]<|Zs 2 2 6<|Zs 2 3 8 .nil)<| .seq (.block 0<|Zr (Zf 10 0 2<|Zl 11 1 10<|Zm 12 11<|Zg 12 true (.cz 13 0 (.t 3))<|Zg 12 true (.ld 14 1 false (.t 13))<|Zg 12 true (.un 15 .not (.t 14))<|Zo (.pick 16 (.t 12) (.t 15) (.c (.bool false)))<|Zm 9 16 .nil)<| .cond (.t 9) (Zr (Zc 4 (-1) .nil) .ret) (Zr (Zf 18 0 3<|Zl 19 1 18<|Zm 20 19<|Zg 20 true (.cz 21 0 (.t 2))<|Zg 20 true (.ld 22 1 false (.t 21))<|Zg 20 true (.un 23 .not (.t 22))<|Zo (.pick 24 (.t 20) (.t 23) (.c (.bool false)))<|Zm 17 24 .nil)<| .cond (.t 17) (Zr (Zc 4 1 .nil) .ret) (Zr (Zf 26 0 2<|Zl 27 1 26<|Zm 25 27 .nil)<| .cond (.t 25) (Zr (Zf 28 1 3<|Zl 29 1 28<|Zf 30 1 2<|Zl 31 1 30<|Zq 32 false 169 [.t 29,.t 31]<|Zm 4 32 .nil) .ret) .skip)))<|Zr (Zf 33 1 2<|Zl 34 1 33<|Zf 35 1 3<|Zl 36 1 35<|Zq 37 false 169 [.t 34,.t 36]<|Zm 4 37 .nil) .ret⟩
theorem af5:Qe Tryz.prog Tryz.f138=some I4:=by kernel_rfl
def Ju:az:=⟨9,[.cell 2 2 true],Zr (Zo (.box 1 2 41 (.t 0))<|Zo (.alloc 2 2 41 (.agg [.bool false,.aa])) .nil)<|Zr (Zf 3 0 1<|Zl 4 1 3<|Zu 5 4<|Zf 6 1 1<|Zl 7 1 6<|Zq 8 false 133 [.t 5,.t 7]<|Zs 2 2 8 .nil) .ret⟩
theorem af6:Qe Tryz.prog Tryz.f166=some Ju:=by kernel_rfl
def Ip:az:=⟨48,[.cell 4 2 true],Zr (Zo (.box 2 2 41 (.t 0))<|Zo (.box 3 2 41 (.t 1))<|Zo (.alloc 4 2 41 (.agg [.bool false,.aa])) .nil)<| .seq (Zr (Zf 9 0 2<|Zl 10 1 9<|Zf 11 0 3<|Zl 12 1 11<|Zo (.bin 13 .eql true (.t 10) (.t 12)) .nil)<| .cond (.t 13) (Zr (Zf 14 0 2<|Zl 15 1 14<|Zf 16 1 2<|Zl 17 1 16<|Zf 18 1 3<|Zl 19 1 18<|Zq 20 true 134 [.t 17,.t 19]<|Zq 21 true 133 [.t 15,.t 20]<|Zs 2 4 21 .nil) .ret) .skip)<| .seq (Zr (Zf 23 1 2<|Zl 24 1 23<|Zf 25 1 3<|Zl 26 1 25<|Zq 27 false 152 [.t 24,.t 26]<|Zm 22 27<|Zo (.ext 28 (.t 22) 0)<|Zo (.ext 29 (.t 22) 1)<|Zm 5 28<|Zm 6 29 .nil)<|Zr (Zm 30 6<|Zk 31 .eql 30 0 .nil)<| .cond (.t 31) (Zr (Zf 32 0 2<|Zl 33 1 32<|Zm 34 5<|Zq 35 false 133 [.t 33,.t 34]<|Zs 2 4 35 .nil) .ret) .skip)<|Zr (Zf 37 1 3<|Zl 38 1 37<|Zf 39 1 2<|Zl 40 1 39<|Zq 41 false 152 [.t 38,.t 40]<|Zm 36 41<|Zo (.ext 42 (.t 36) 0)<|Zo (.ext 43 (.t 36) 1)<|Zm 7 42<|Zm 8 43 .nil)<|Zr (Zf 44 0 3<|Zl 45 1 44<|Zm 46 7<|Zq 47 false 133 [.t 45,.t 46]<|Zs 2 4 47 .nil) .ret⟩
theorem af7:Qe Tryz.prog Tryz.f100=some Ip:=by kernel_rfl
def Iq:az:=⟨16,[.cell 4 2 true],Zr (Zo (.box 2 2 41 (.t 0))<|Zo (.box 3 2 41 (.t 1))<|Zo (.alloc 4 2 41 (.agg [.bool false,.aa])) .nil)<|Zr (Zf 5 0 2<|Zl 6 1 5<|Zf 7 0 3<|Zl 8 1 7<|Zo (.bin 9 .neq true (.t 6) (.t 8))<|Zf 10 1 2<|Zl 11 1 10<|Zf 12 1 3<|Zl 13 1 12<|Zq 14 true 103 [.t 11,.t 13]<|Zq 15 true 133 [.t 9,.t 14]<|Zs 2 4 15 .nil) .ret⟩
theorem af8:Qe Tryz.prog Tryz.f101=some Iq:=by kernel_rfl
def KO:az:=⟨27,[.t 2],Zr (Zo (.box 1 3 43 (.t 0))<|Zo (.mv 2 (.c (.bool false))) .nil)<|Zr (Zf 3 0 1<|Zh 4 2 3<|Zq 5 false 139 [.t 4]<|Zm 6 5<|Zg 6 true (.cz 7 2 (.t 1))<|Zg 6 true (.ld 8 1 false (.t 7))<|Zg 6 true (.call (some 9) false (.c (.fn 140 [] [])) [.t 8])<|Zo (.pick 10 (.t 6) (.t 9) (.c (.bool false)))<|Zm 11 10<|Zg 11 true (.cz 12 0 (.t 1))<|Zg 11 true (.cz 13 1 (.t 12))<|Zg 11 true (.ld 14 1 false (.t 13))<|Zg 11 true (.cz 15 2 (.t 1))<|Zg 11 true (.ld 16 1 false (.t 15))<|Zg 11 true (.call (some 17) false (.c (.fn 128 [] [])) [.t 14,.t 16])<|Zg 11 true (.call (some 18) false (.c (.fn 74 [] [])) [.c (.int .u64 1)])<|Zg 11 true (.call (some 19) false (.c (.fn 141 [] [])) [.t 17,.t 18])<|Zo (.pick 20 (.t 11) (.t 19) (.c (.bool false)))<|Zm 21 20<|Zg 21 true (.cz 22 2 (.t 1))<|Zg 21 true (.ld 23 1 false (.t 22))<|Zg 21 true (.len 24 (.t 23))<|Zg 21 true (.bin 25 .gtr false (.t 24) (.c (Zz 0)))<|Zo (.pick 26 (.t 21) (.t 25) (.c (.bool false)))<|Zm 2 26 .nil) .ret⟩
theorem aiS:Qe Tryz.prog Tryz.f82=some KO:=by kernel_rfl
def KD:az:=⟨44,[.cell 4 3 true],Zr (Zo (.box 2 2 41 (.t 0))<|Zo (.alloc 4 3 43 (.agg [.bool false,.aa,.aa])) .nil)<| .seq (Zr (Zm 12 1<|Zq 13 false 131 [.t 12]<|Zn 14 13<|Zk 15 .eql 14 0 .nil)<| .cond (.t 15) (Zr (Zq 16 false 74 [.c (.int .u64 1)]<|Zo (.bT 17 [.bool false,.aa,.aa] [(2,1,.t 16)])<|Zs 3 4 17 .nil) .ret) .skip)<|Zr (Zf 18 1 2<|Zl 19 1 18<|Zm 20 1<|Zq 21 false 128 [.t 19,.t 20]<|Zm 5 21 .nil)<|Zr (Zf 23 1 2<|Zl 24 1 23<|Zm 25 5<|Zq 26 false 129 [.t 24,.t 25]<|Zm 22 26<|Zo (.ext 27 (.t 22) 0)<|Zo (.ext 28 (.t 22) 1)<|Zo (.ext 29 (.t 22) 2)<|Zm 6 27<|Zm 7 28<|Zm 8 29 .nil)<|Zr (Zm 31 1<|Zm 32 5<|Zq 33 false 129 [.t 31,.t 32]<|Zm 30 33<|Zo (.ext 34 (.t 30) 0)<|Zo (.ext 35 (.t 30) 1)<|Zo (.ext 36 (.t 30) 2)<|Zm 9 34<|Zm 10 35<|Zm 11 36 .nil)<|Zr (Zf 37 0 2<|Zl 38 1 37<|Zm 39 6<|Zo (.bT 40 [.bool false,.aa] [(0,1,.t 38),(1,1,.t 39)])<|Zq 41 false 132 [.t 40]<|Zm 42 9<|Zo (.bT 43 [.bool false,.aa,.aa] [(0,2,.t 41),(2,1,.t 42)])<|Zs 3 4 43 .nil) .ret⟩
theorem aiT:Qe Tryz.prog Tryz.f72=some KD:=by kernel_rfl
def K5:az:=⟨8,[.cell 2 3 true],Zr (Zo (.box 1 3 43 (.t 0))<|Zo (.alloc 2 3 43 (.agg [.bool false,.aa,.aa])) .nil)<|Zr (Zf 3 0 1<|Zh 4 2 3<|Zf 5 2 1<|Zl 6 1 5<|Zq 7 false 72 [.t 4,.t 6]<|Zs 3 2 7 .nil) .ret⟩
theorem ail:Qe Tryz.prog Tryz.f97=some K5:=by kernel_rfl
def IV:az:=⟨18,[.cell 4 3 true,.t 5],Zr (Zo (.box 2 2 41 (.t 0))<|Zo (.box 3 2 41 (.t 1))<|Zo (.alloc 4 3 43 (.agg [.bool false,.aa,.aa]))<|Zc 5 0 .nil)<| .seq (Zr (Zh 6 2 3<|Zq 7 false 104 [.t 6]<|Zk 8 .eql 7 0 .nil)<| .cond (.t 8) (Zr (Zo (.bT 9 [.bool false,.aa,.aa] [])<|Zs 3 4 9<|Zc 5 3 .nil) .ret) .skip)<| .seq (Zr (Zf 10 0 3<|Zl 11 1 10 .nil)<| .cond (.t 11) (.rg (Zh 12 2 2<|Zq 13 false 166 [.t 12]<|Zs 2 2 13 .nil)) .skip)<|Zr (Zh 14 2 2<|Zf 15 1 3<|Zl 16 1 15<|Zq 17 false 72 [.t 14,.t 16]<|Zs 3 4 17<|Zc 5 0 .nil) .ret⟩
theorem af9:Qe Tryz.prog Tryz.f130=some IV:=by kernel_rfl
def J5:az:=⟨7,[.cell 2 3 true],Zr (Zo (.alloc 2 3 43 (.agg [.bool false,.aa,.aa])) .nil)<|Zr (Zm 3 0<|Zq 4 false 73 [.t 3]<|Zq 5 false 74 [.c (.int .u64 1)]<|Zq 6 false 72 [.t 4,.t 5]<|Zs 3 2 6 .nil) .ret⟩
theorem aim:Qe Tryz.prog Tryz.f32=some J5:=by kernel_rfl
def Ir:az:=⟨5,[.cell 2 2 true],Zr (Zo (.alloc 2 2 41 (.agg [.bool false,.aa])) .nil)<|Zr (Zm 3 0<|Zo (.bT 4 [.bool false,.aa] [(1,1,.t 3)])<|Zs 2 2 4 .nil) .ret⟩
theorem aga:Qe Tryz.prog Tryz.f102=some Ir:=by kernel_rfl
def Kq:az:=⟨7,[.t 2],Zr (Zo (.box 1 3 43 (.t 0))<|Zc 2 0 .nil)<|Zr (Zh 3 3 1<|Zq 4 false 97 [.t 3]<|Zo (.xL 5 0 2 true (.t 4))<|Zq 6 false 104 [.t 5]<|Zm 2 6 .nil) .ret⟩
theorem ain:Qe Tryz.prog Tryz.f56=some Kq:=by kernel_rfl
def KN:az:=⟨22,[.t 4],Zr (Zo (.box 2 3 43 (.t 0))<|Zo (.box 3 3 43 (.t 1))<|Zc 4 0 .nil)<|Zr (Zh 5 3 2<|Zh 7 3 3<|Zq 6 true 97 [.t 5]<|Zq 8 true 97 [.t 7]<|Zs 3 2 6<|Zs 3 3 8 .nil)<|Zr (Zf 9 0 2<|Zh 10 2 9<|Zf 11 2 3<|Zl 12 1 11<|Zf 15 0 3<|Zh 16 2 15<|Zf 17 2 2<|Zl 18 1 17<|Zq 13 true 102 [.t 12]<|Zq 14 true 101 [.t 10,.t 13]<|Zq 19 true 102 [.t 18]<|Zq 20 true 101 [.t 16,.t 19]<|Zq 21 true 138 [.t 14,.t 20]<|Zm 4 21 .nil) .ret⟩
theorem aio:Qe Tryz.prog Tryz.f81=some KN:=by kernel_rfl
def Kp:az:=⟨28,[.cell 4 3 true],Zr (Zo (.box 2 3 43 (.t 0))<|Zo (.box 3 3 43 (.t 1))<|Zo (.alloc 4 3 43 (.agg [.bool false,.aa,.aa])) .nil)<|Zr (Zh 5 3 2<|Zh 7 3 3<|Zq 6 true 97 [.t 5]<|Zq 8 true 97 [.t 7]<|Zs 3 2 6<|Zs 3 3 8 .nil)<|Zr (Zf 9 0 2<|Zh 10 2 9<|Zf 11 2 3<|Zl 12 1 11<|Zf 15 0 3<|Zh 16 2 15<|Zf 17 2 2<|Zl 18 1 17<|Zf 22 2 2<|Zl 23 1 22<|Zf 24 2 3<|Zl 25 1 24<|Zq 13 true 102 [.t 12]<|Zq 14 true 101 [.t 10,.t 13]<|Zq 19 true 102 [.t 18]<|Zq 20 true 101 [.t 16,.t 19]<|Zq 21 true 100 [.t 14,.t 20]<|Zq 26 true 103 [.t 23,.t 25]<|Zq 27 true 72 [.t 21,.t 26]<|Zs 3 4 27 .nil) .ret⟩
theorem aip:Qe Tryz.prog Tryz.f55=some Kp:=by kernel_rfl
def IG:az:=⟨16,[.cell 4 3 true],Zr (Zo (.box 2 3 43 (.t 0))<|Zo (.box 3 3 43 (.t 1))<|Zo (.alloc 4 3 43 (.agg [.bool false,.aa,.aa])) .nil)<|Zr (Zf 5 0 2<|Zh 6 2 5<|Zf 7 0 3<|Zh 8 2 7<|Zf 10 2 2<|Zl 11 1 10<|Zf 12 2 3<|Zl 13 1 12<|Zq 9 true 101 [.t 6,.t 8]<|Zq 14 true 103 [.t 11,.t 13]<|Zq 15 true 72 [.t 9,.t 14]<|Zs 3 4 15 .nil) .ret⟩
theorem agb:Qe Tryz.prog Tryz.f116=some IG:=by kernel_rfl
theorem nj{l:List Nat}(hv:Qq l)(hl:l.length<2^42):Qc Tryz.prog 131 [PV.nat l] (· =PV.num (val l)):=by
 have amM:=zG hv;refine Qf Qj Tryz.func131 rfl afP (by simp[IX]) fun C hP=>?_;simp only[IX,Zo,Zg,Zm,Zc,Zf,Zl,Zh,Zs,Zi,Zb,Zk,Zn,Zu,Zq,Zr,Zz];refine Sz0 ?_;refine Qz (by repeat (first|exact Qs|exact Ql|exact Qm|exact Qn|exact Qo|apply Qk|apply Qr|apply Qx|apply Q4|apply Q5|apply Qi|apply Q2)) [(3,3),(7,18)] [] (fun m J hp=>m<=l.length/\cut l m=ah (val l)/\J 3= .int .i64 m/\hp=aE) l.length ?_ ?_
 ·refine⟨Kac _,amM,?_⟩;exact Tz0
 rintro n J _ ⟨hn,hc,h3,rfl⟩;refine Sz1 h3 ?_;refine fX (fun hg=>?_) (fun hg=>?_)
 ·obtain _|n:=n
  ·omega
  have e:((n+1:Nat):Int)-1=n:=by omega
  simp only[cut]at hc;simp+decide (disch:=try exact D2 h3 e) only[go_sem,h3,e];refine Qb (fun hz=>?_) (fun hz=>?_)
  ·rw[if_pos (by grind)]at hc;refine Sz2 h3 e ?_;refine Qh n (by omega) ⟨by omega,hc,?_⟩;exact Tz0
  ·rw[if_neg (by grind)]at hc;have ar:(l.take (n+1)).length<2^42:=by rw[KaF];omega
   refine kQ h3 e ?_;exact Qd (by rw[Kae (by simp),hc]) rfl
 ·obtain rfl:n=0:=by omega
  simp+decide (disch:=first|omega|rfl|(simp+decide only[go_sem,h3,Kb5,Kbu,Kbh]<;>rfl)|fail) only[go_sem,h3,Kb5,Kbu,Kbh];rw[Cw (ys:=[]) rfl (by omega) (by simp) (by simp)];refine eC ?_;exact Qd (by show _=PV.nat (ah (val l));rw[<-hc];rfl) rfl
theorem mw{n:Nat}(hn:n<18446744073709551616):Qc Tryz.prog 74 [.int .u64 n] (· =PV.num n):=by
 have hlen:=rA hn;unfold nl at hlen;refine Qf Qj Tryz.func74 rfl aiQ (by simp[KF]) fun C hP=>?_;simp only[KF,Zo,Zg,Zm,Zc,Zf,Zl,Zh,Zs,Zi,Zb,Zk,Zn,Zu,Zq,Zr,Zz];refine Sz0 ?_;refine kM 3 900 1 76 (by omega) Tz0 ?_;refine Qz (by repeat (first|exact Qs|exact Ql|exact Qm|exact Qn|exact Qo|apply Qk|apply Qr|apply Qx|apply Q4|apply Q5|apply Qi|apply Q2)) [(0,0),(3,13)] [10,11,900] (fun m J hp=>∃done:List Nat,ah n=done++ah m/\m<=n/\J 0= .int .u64 m/\J 3= .ms 900 done.length/\hp 900=some ⟨1,76,cm done,false⟩) n ?_ ?_
 ·refine⟨[],rfl,Kac _,?_⟩;exact Tz0
 rintro m J hp ⟨done,hd,hm,h0,h3,hh⟩;rw[hd,Kap]at hlen;refine Sz2 h0 h3 ?_;refine Qb (fun hz=>?_) (fun hz=>?_)
 ·have aP:m≠0:=by omega
  have gf:ah n=(done++[m%65536])++ah (m/65536):=by rw[hd,s6 aP];simp
  refine Sz3 h0 h3 @Nat.mod_mod ?_;rw[Q9 (f:=fun(x:Nat)=>.int .u16 x) (y:=m%65536) (xs:=done) (ty':=76) (fz:=false) (Tz1 hh) cE (by omega) rfl (by omega) (by omega)];refine Sz2 h0 h3 ?_;refine Qh (m/65536) (by omega) ⟨done++[m%65536],gf,by omega,?_⟩;refine Sz2 h0 h3 ?_;simp
 ·obtain rfl:m=0:=by omega
  rw[fC,Kak]at hd;refine kQ h3 hh ?_;exact Qd (by show _=PV.nat (ah n);rw[hd,Kae (by simp)]) rfl
theorem mi{a:List Nat}{i:Nat}(ha:Qq a)(hl:a.length<2^43):Qc Tryz.prog 153 [PV.nat a,.int .i64 i] (· = .int .i64 (dg a i:Nat)):=by
 refine Qf Qj Tryz.func153 rfl afR (by simp[Jh]) fun C hP=>?_;simp only[Jh,Zo,Zg,Zm,Zc,Zf,Zl,Zh,Zs,Zi,Zb,Zk,Zn,Zu,Zq,Zr,Zz];refine Sz0 ?_;refine Qb (fun hi=>?_) (fun hi=>?_)
 ·have aA:i<a.length:=by omega
  have En:=et ha aA;have hg:dg a i=a[i]:=gm aA;refine Sz0 ?_;exact Qd (by rw[hg]) rfl
 ·refine Sz0 ?_;exact Qd (by rw[dg,gq (by omega)];rfl) rfl
theorem B5{a:List Nat}(ha:Qq a)(hl:a.length<=4):Qc Tryz.prog 164 [PV.nat a] (· = .int .u64 (val a:Nat)):=by
 have ar:∀k,val (a.drop k)<18446744073709551616:=fun k=>by have h1:=ou (yR ha k);have:65536^(a.drop k).length<=65536^4:=KbC (by omega) (by rw[Ka5];omega);omega
 refine Qf Qj Tryz.func164 rfl afQ (by simp[Js]) fun C hP=>?_;simp only[Js,Zo,Zg,Zm,Zc,Zf,Zl,Zh,Zs,Zi,Zb,Zk,Zn,Zu,Zq,Zr,Zz];refine Sz0 ?_;refine Qz (by repeat (first|exact Qs|exact Ql|exact Qm|exact Qn|exact Qo|apply Qk|apply Qr|apply Qx|apply Q4|apply Q5|apply Qi|apply Q2)) [(3,4),(8,19)] [] (fun k J hp=>k<=a.length/\J 3= .int .u64 (val (a.drop k):Nat)/\J 4= .int .i64 ((k:Int)-1)) a.length ?_ ?_
 ·refine⟨Kac _,?_⟩;refine Sz0 ?_;simp[val]
 rintro k J h ⟨hk,h3,h4⟩;refine Sz2 h3 h4 ?_;refine Qb (fun hg=>?_) (fun hg=>?_)
 ·obtain _|n:=k
  ·omega
  have hn:n<a.length:=by omega
  have vF:=et ha hn;have e:((n+1:Nat):Int)-1=n:=by omega
  have hv:=lD hn;have h1:=ar n;generalize dO:a[n]=x at *
  have e2:val (a.drop (n+1))*65536+x=val (a.drop n):=by omega
  refine Sz5 h3 h4 e dO e2 ?_;refine Qh n (by omega) ⟨by omega,?_⟩;exact Tz0
 ·obtain rfl:k=0:=by omega
  simp+decide (disch:=first|omega|rfl|(simp+decide only[go_sem,h3,Kbo]<;>rfl)|fail) only[go_sem,h3,Kbo];exact Qd rfl rfl
theorem Ci{a b:List Nat}(ha:Qq a)(hb:Qq b)(bu:a.length<2^42)(cQ:b.length<2^42):Qc Tryz.prog 169 [PV.nat a,PV.nat b] (· = .int .i64 (gM (val a) (val b))):=by
 refine Qf Qj Tryz.func169 rfl afS (by simp[Jx]) fun C hP=>?_;simp only[Jx,Zo,Zg,Zm,Zc,Zf,Zl,Zh,Zs,Zi,Zb,Zk,Zn,Zu,Zq,Zr,Zz];refine Sz1 @OR ?_;refine Qz (by repeat (first|exact Qs|exact Ql|exact Qm|exact Qn|exact Qo|apply Qk|apply Qr|apply Qx|apply Q4|apply Q5|apply Qi|apply Q2)) [(4,5),(12,29)] [] (fun k J hp=>k<=max a.length b.length/\val (a.drop k)=val (b.drop k)/\J 5= .int .i64 ((k:Int)-1)) (max a.length b.length) ?_ ?_
 ·refine⟨Kac _,?_,?_⟩
  ·rw[Kal (by omega),Kal (by omega)]
  ·exact Tz0
 rintro k J h ⟨hk,hv,h5⟩;refine Sz1 h5 ?_;refine Qb (fun hg=>?_) (fun hg=>?_)
 ·obtain _|n:=k
  ·omega
  have e:((n+1:Nat):Int)-1=n:=by omega
  have e1:=wK a n;have e2:=wK b n;have d1:=u7 ha n;have d2:=u7 hb n;refine Sz2 h5 e ?_;refine Qa hP (mi ha (by omega)) rfl rfl rfl ?_;refine Sz2 h5 e ?_;refine Qa hP (mi hb (by omega)) rfl rfl rfl ?_;refine Sz2 h5 e ?_;refine Qb (fun hc=>?_) (fun hc=>?_)
  ·have ar:=Rx (a:=a) (b:=b) ha (i:=n) (by omega);refine Sz0 ?_;exact Qd (by rw[HI ar]) rfl
  refine Sz2 h5 e ?_;refine Qa hP (mi ha (by omega)) rfl rfl rfl ?_;refine Sz2 h5 e ?_;refine Qa hP (mi hb (by omega)) rfl rfl rfl ?_;refine Sz2 h5 e ?_;refine Qb (fun iM=>?_) (fun iM=>?_)
  ·have ar:=Rx (a:=b) (b:=a) hb (i:=n) (by omega);refine Sz0 ?_;exact Qd (by rw[HJ ar]) rfl
  ·refine Sz2 h5 e ?_;refine Qh n (by omega) ⟨by omega,by omega,?_⟩;exact Tz0
 ·obtain rfl:k=0:=by omega
  refine Sz0 ?_;exact Qd (by rw[Ol (by simpa using hv)]) rfl
theorem QN{a:List Nat}(ha:Qq a)(hl:a.length<2^43):Qc Tryz.prog 140 [PV.nat a] (· = .bool (decide (a.getLast? ≠some 0))):=by
 refine Qf Qj Tryz.func140 rfl afZ (by simp[I7]) fun C hP=>?_;simp only[I7,Zo,Zg,Zm,Zc,Zf,Zl,Zh,Zs,Zi,Zb,Zk,Zn,Zu,Zq,Zr,Zz];refine Sz0 ?_;refine dF (fun h0=>?_) (fun h0=>?_)
 ·have:a=[]:=Kar.1 (by omega);subst this;refine Sz0 ?_;exact Qd (by simp) rfl
 ·obtain⟨k,hk⟩:∃k,a.length=k+1:=⟨a.length-1,by omega⟩
  have jj:=C1 hk;have e:((k+1:Nat):Int)-1=k:=by omega
  generalize hy:a[k]'(by omega)=y at *
  refine Sz3 hk e hy ?_;refine Qd (congrArg PV.bool ?_) rfl;rw[jj];exact decide_eq_decide.2 ⟨fun h h'=>h (by injection h' with h';rw[h'];rfl),fun h h'=>h (by rw[show y=0 by omega])⟩
theorem Xk{a b:List Nat}(bu:a.length<2^43)(cQ:b.length<2^43):Qc Tryz.prog 141 [PV.nat a,PV.nat b] (· = .bool (decide (a=b))):=by
 refine Qf Qj Tryz.func141 rfl af0 (by simp[I8]) fun C hP=>?_;simp only[I8,Zo,Zg,Zm,Zc,Zf,Zl,Zh,Zs,Zi,Zb,Zk,Zn,Zu,Zq,Zr,Zz];refine Sz0 ?_;refine Qb (fun h0=>?_) (fun h0=>?_)
 ·refine Sz0 ?_;exact Qd (congrArg PV.bool (by rw[decide_eq_false];rintro rfl;exact h0 rfl)) rfl
 have hlen:a.length=b.length:=by omega
 refine Sz0 ?_;refine Qz (by repeat (first|exact Qs|exact Ql|exact Qm|exact Qn|exact Qo|apply Qk|apply Qr|apply Qx|apply Q4|apply Q5|apply Qi|apply Q2)) [(4,5),(11,25)] [] (fun n J hp=>∃i,n=a.length-i/\i<=a.length/\a.take i=b.take i/\J 5= .int .i64 (i:Nat)) a.length ?_ ?_
 ·refine⟨0,rfl,by omega,by simp,?_⟩;refine Sz0 ?_;rfl
 rintro _ J h ⟨i,rfl,hi,he,h5⟩;refine Sz1 h5 ?_;refine Qb (fun hg=>?_) (fun hg=>?_)
 ·have aA:i<a.length:=by omega
  have gD:i<b.length:=by omega
  have ta:=Kag aA;have tb:=Kag gD;have aP:a=b->a[i]=b[i]:=fun h=>by subst h;rfl
  generalize hx:a[i]=x at *
  generalize hy:b[i]=y at *
  refine Sz3 h5 hx hy ?_;refine Qb (fun hc=>?_) (fun hc=>?_)
  ·refine Sz0 ?_;exact Qd (congrArg PV.bool (by rw[decide_eq_false];intro h;exact hc (by rw[aP h]))) rfl
  ·refine Sz1 h5 ?_;refine Qh (a.length-(i+1)) (by omega) ⟨i+1,rfl,by omega,by rw[ta,tb,he,show x=y by omega],?_⟩;exact Tz0
 ·obtain rfl:i=a.length:=by omega
  rw[Kas,hlen,Kas]at he;refine Sz0 ?_;exact Qd (congrArg PV.bool (by rw[he];simp)) rfl
theorem RE{a b:List Nat}(ha:Qq a)(hb:Qq b)(bu:a.length<2^40)(cQ:b.length<2^40):Qc Tryz.prog 134 [PV.nat a,PV.nat b] (· =PV.num (val a+val b)):=by
 refine Qf Qj Tryz.func134 rfl afT (by simp[I0]) fun C hP=>?_;simp only[I0,Zo,Zg,Zm,Zc,Zf,Zl,Zh,Zs,Zi,Zb,Zk,Zn,Zu,Zq,Zr,Zz];refine Sz0 ?_;refine kM 5 900 1 76 (by omega) Tz0 ?_;refine Qz (by repeat (first|exact Qs|exact Ql|exact Qm|exact Qn|exact Qo|apply Qk|apply Qr|apply Qx|apply Q4|apply Q5|apply Qi|apply Q2)) [(5,41)] [38,39,900] (fun m J hp=>∃(i c:Nat)(out:List Nat),m=2*(max a.length b.length-i)+c/\c<=1/\i<=max a.length b.length+1/\(i<=max a.length b.length∨c=0)/\out.length=i/\Qq out/\val out+65536^i*(c+val (a.drop i)+val (b.drop i))=val a+val b/\J 5= .ms 900 out.length/\J 6= .int .i64 c/\J 7= .int .i64 i/\hp 900=some ⟨1,76,cm out,false⟩) (2*max a.length b.length) ?_ ?_
 ·refine⟨0,0,[],rfl,by omega,by omega,by omega,rfl,nt,by simp[val],?_⟩;refine Sz0 ?_;simp
 rintro _ J h ⟨i,c,out,rfl,hc,hi,lT,fy,iS,hv,h5,h6,h7,hh⟩;have e1:=wK a i;have e2:=wK b i;have d1:=u7 ha i;have d2:=u7 hb i;refine Sz3 h5 h6 h7 ?_;refine dF (fun hg=>?_) (fun hg=>?_)
 ·have ar:i<max a.length b.length:=by omega
  have gj:(dg a i+dg b i+c)/65536<=1:=by omega
  have kv:val (out++[(dg a i+dg b i+c)%65536])+65536^(i+1)*((dg a i+dg b i+c)/65536+val (a.drop (i+1))+val (b.drop (i+1)))=val a+val b:=by
   rw[Db,fy,Kbz,<-hv,e1,e2];have:=Kbp (dg a i+dg b i+c) 65536;generalize 65536^i=P at *
   generalize(dg a i+dg b i+c)/65536=q at *
   generalize(dg a i+dg b i+c)%65536=r at *
   have e:c+(dg a i+65536*val (a.drop (i+1)))+(dg b i+65536*val (b.drop (i+1)))=r+65536*(q+val (a.drop (i+1))+val (b.drop (i+1))):=by omega
   rw[e,Ka2 P,Kbf];omega
  refine Sz3 h5 h6 h7 ?_;refine Qa hP (mi ha (by omega)) rfl rfl rfl ?_;refine Sz3 h5 h6 h7 ?_;refine Qa hP (mi hb (by omega)) rfl rfl rfl ?_;refine Sz4 h5 h6 h7 @Nat.mod_mod ?_;rw[Q9 (f:=fun(x:Nat)=>.int .u16 x) (y:=(dg a i+dg b i+c)%65536) (xs:=out) (ty':=76) (fz:=false) (Tz1 hh) cE (by omega) rfl (by omega) (by omega)];refine Sz3 h5 h6 h7 ?_;refine Qh (2*(max a.length b.length-(i+1))+(dg a i+dg b i+c)/65536) ?_ ⟨i+1,(dg a i+dg b i+c)/65536,out++[(dg a i+dg b i+c)%65536],rfl,gj,by omega,?_,by simp[fy],?_,kv,?_⟩
  ·by_cases ar:i<max a.length b.length
   ·omega
   ·have z1:dg a i=0:=by rw[dg,gq (by omega)]
    have z2:dg b i=0:=by rw[dg,gq (by omega)]
    rw[z1,z2];omega
  ·by_cases ar:i<max a.length b.length
   ·omega
   ·have z1:dg a i=0:=by rw[dg,gq (by omega)]
    have z2:dg b i=0:=by rw[dg,gq (by omega)]
    rw[z1,z2];omega
  ·rw[nh];exact⟨iS,by intro z hz;simp at hz;omega⟩
  ·refine Sz0 ?_;simp
 refine Sz3 h5 h6 h7 ?_;refine dF (fun fI=>?_) (fun fI=>?_)
 ·have ar:i<max a.length b.length:=by omega
  have gj:(dg a i+dg b i+c)/65536<=1:=by omega
  have kv:val (out++[(dg a i+dg b i+c)%65536])+65536^(i+1)*((dg a i+dg b i+c)/65536+val (a.drop (i+1))+val (b.drop (i+1)))=val a+val b:=by
   rw[Db,fy,Kbz,<-hv,e1,e2];have:=Kbp (dg a i+dg b i+c) 65536;generalize 65536^i=P at *
   generalize(dg a i+dg b i+c)/65536=q at *
   generalize(dg a i+dg b i+c)%65536=r at *
   have e:c+(dg a i+65536*val (a.drop (i+1)))+(dg b i+65536*val (b.drop (i+1)))=r+65536*(q+val (a.drop (i+1))+val (b.drop (i+1))):=by omega
   rw[e,Ka2 P,Kbf];omega
  refine Sz3 h5 h6 h7 ?_;refine Qa hP (mi ha (by omega)) rfl rfl rfl ?_;refine Sz3 h5 h6 h7 ?_;refine Qa hP (mi hb (by omega)) rfl rfl rfl ?_;refine Sz4 h5 h6 h7 @Nat.mod_mod ?_;rw[Q9 (f:=fun(x:Nat)=>.int .u16 x) (y:=(dg a i+dg b i+c)%65536) (xs:=out) (ty':=76) (fz:=false) (Tz1 hh) cE (by omega) rfl (by omega) (by omega)];refine Sz3 h5 h6 h7 ?_;refine Qh (2*(max a.length b.length-(i+1))+(dg a i+dg b i+c)/65536) ?_ ⟨i+1,(dg a i+dg b i+c)/65536,out++[(dg a i+dg b i+c)%65536],rfl,gj,by omega,?_,by simp[fy],?_,kv,?_⟩
  ·by_cases ar:i<max a.length b.length
   ·omega
   ·have z1:dg a i=0:=by rw[dg,gq (by omega)]
    have z2:dg b i=0:=by rw[dg,gq (by omega)]
    rw[z1,z2];omega
  ·by_cases ar:i<max a.length b.length
   ·omega
   ·have z1:dg a i=0:=by rw[dg,gq (by omega)]
    have z2:dg b i=0:=by rw[dg,gq (by omega)]
    rw[z1,z2];omega
  ·rw[nh];exact⟨iS,by intro z hz;simp at hz;omega⟩
  ·refine Sz0 ?_;simp
 refine Sz3 h5 h6 h7 ?_;refine Qb (fun hg3=>?_) (fun hg3=>?_)
 ·have gD:i<=max a.length b.length:=by omega
  have gj:(dg a i+dg b i+c)/65536<=1:=by omega
  have kv:val (out++[(dg a i+dg b i+c)%65536])+65536^(i+1)*((dg a i+dg b i+c)/65536+val (a.drop (i+1))+val (b.drop (i+1)))=val a+val b:=by
   rw[Db,fy,Kbz,<-hv,e1,e2];have:=Kbp (dg a i+dg b i+c) 65536;generalize 65536^i=P at *
   generalize(dg a i+dg b i+c)/65536=q at *
   generalize(dg a i+dg b i+c)%65536=r at *
   have e:c+(dg a i+65536*val (a.drop (i+1)))+(dg b i+65536*val (b.drop (i+1)))=r+65536*(q+val (a.drop (i+1))+val (b.drop (i+1))):=by omega
   rw[e,Ka2 P,Kbf];omega
  refine Sz3 h5 h6 h7 ?_;refine Qa hP (mi ha (by omega)) rfl rfl rfl ?_;refine Sz3 h5 h6 h7 ?_;refine Qa hP (mi hb (by omega)) rfl rfl rfl ?_;refine Sz4 h5 h6 h7 @Nat.mod_mod ?_;rw[Q9 (f:=fun(x:Nat)=>.int .u16 x) (y:=(dg a i+dg b i+c)%65536) (xs:=out) (ty':=76) (fz:=false) (Tz1 hh) cE (by omega) rfl (by omega) (by omega)];refine Sz3 h5 h6 h7 ?_;refine Qh (2*(max a.length b.length-(i+1))+(dg a i+dg b i+c)/65536) ?_ ⟨i+1,(dg a i+dg b i+c)/65536,out++[(dg a i+dg b i+c)%65536],rfl,gj,by omega,?_,by simp[fy],?_,kv,?_⟩
  ·by_cases ar:i<max a.length b.length
   ·omega
   ·have z1:dg a i=0:=by rw[dg,gq (by omega)]
    have z2:dg b i=0:=by rw[dg,gq (by omega)]
    rw[z1,z2];omega
  ·by_cases ar:i<max a.length b.length
   ·omega
   ·have z1:dg a i=0:=by rw[dg,gq (by omega)]
    have z2:dg b i=0:=by rw[dg,gq (by omega)]
    rw[z1,z2];omega
  ·rw[nh];exact⟨iS,by intro z hz;simp at hz;omega⟩
  ·refine Sz0 ?_;simp
 ·obtain rfl:c=0:=by omega
  rw[Kal (by omega),Kal (by omega)]at hv;simp only[val,KaT,Kb0]at hv;refine Sz2 h5 hh ?_;refine uK hP (nj iS (by omega)) (by simp+decide (disch:=try exact E1 hh) only[go_sem,hh,dV,Kav,KaC,Kau,KaA,Kak];simp[Kae]) rfl fun an=>?_;refine Sz0 ?_;exact Qd (by rw[hv]) rfl
theorem Gf{a b:List Nat}(ha:Qq a)(hb:Qq b)(bu:a.length<2^40)(cQ:b.length<2^40):Qc Tryz.prog 152 [PV.nat a,PV.nat b] (· =if val a<val b then .au [PV.num 0,.int .i64 2]else .au [PV.num (val a-val b),.int .i64 0]):=by
 refine Qf Qj Tryz.func152 rfl afU (by simp[Jg]) fun C hP=>?_;simp only[Jg,Zo,Zg,Zm,Zc,Zf,Zl,Zh,Zs,Zi,Zb,Zk,Zn,Zu,Zq,Zr,Zz];refine Sz0 ?_;refine Qa hP (Ci ha hb (by omega) (by omega)) rfl rfl rfl ?_;refine Sz0 ?_;refine Qb (fun hc=>?_) (fun hc=>?_)
 ·rw[if_pos (C8.1 hc)];refine Sz0 ?_;exact fb rfl rfl rfl wS (Qw _)
 have fU:¬val a<val b:=fun h=>hc (C8.2 h);rw[if_neg fU];refine Sz0 ?_;refine kM 6 900 1 76 (by omega) Tz0 ?_;refine Qz (by repeat (first|exact Qs|exact Ql|exact Qm|exact Qn|exact Qo|apply Qk|apply Qr|apply Qx|apply Q4|apply Q5|apply Qi|apply Q2)) [(6,9),(14,37)] [36,37,900] (fun m J hp=>∃(i c:Nat)(out:List Nat),m=a.length-i/\c<=1/\i<=a.length/\out.length=i/\Qq out/\val (a.take i)+65536^i*c=val out+val (b.take i)/\J 6= .ms 900 out.length/\J 7= .int .i64 c/\J 8= .int .i64 i/\hp 900=some ⟨1,76,cm out,false⟩) a.length ?_ ?_
 ·refine⟨0,0,[],rfl,by omega,by omega,rfl,nt,by simp[val],?_⟩;refine Sz0 ?_;simp
 rintro _ J h ⟨i,c,out,rfl,oE,hi,fy,iS,hv,h6,h7,h8,hh⟩;refine Sz3 h6 h7 h8 ?_;refine Qb (fun hg=>?_) (fun hg=>?_)
 ·have aA:i<a.length:=by omega
  have e1:=QF a i;have e2:=QF b i;have d1:=u7 ha i;have d2:=u7 hb i;refine Sz3 h6 h7 h8 ?_;refine Qa hP (mi ha (by omega)) rfl rfl rfl ?_;refine Sz3 h6 h7 h8 ?_;refine Qa hP (mi hb (by omega)) rfl rfl rfl ?_;refine Sz3 h6 h7 h8 ?_;have step:∀(d c':Nat),d<65536->c'<=1->dg a i+65536*c'=d+dg b i+c->val (a.take (i+1))+65536^(i+1)*c'=val (out++[d])+val (b.take (i+1)):=fun d c' _ _ h3=>by
   rw[Db,fy,e1,e2,Kbz];generalize 65536^i=P at *
   have:P*(dg a i+65536*c')=P*(d+dg b i+c):=by rw[h3]
   rw[Ka2,<-Nat.mul_assoc,Ka2,Ka2]at this;omega
  refine Qb (fun hd=>?_) (fun hd=>?_)
  ·obtain⟨d,fw⟩:∃d:Nat,(dg a i:Int)-(dg b i:Int)-(c:Int)+65536=d:=⟨((dg a i:Int)-(dg b i:Int)-(c:Int)+65536).toNat,by omega⟩
   have aF:=step d 1 (by omega) (by omega) (by omega);refine Sz4 h6 h7 h8 fw ?_;rw[Q9 (f:=fun(x:Nat)=>.int .u16 x) (y:=d) (xs:=out) (ty':=76) (fz:=false) (Tz1 hh) (by simp+decide (disch:=first|omega|rfl|(simp+decide only[go_sem,KaQ (by omega:d<65536)]<;>rfl)|fail) only[go_sem,KaQ (by omega:d<65536)]) (by omega) rfl (by omega) (by omega)];refine Sz3 h6 h7 h8 ?_;refine Qh (a.length-(i+1)) (by omega) ⟨i+1,1,out++[d],rfl,by omega,by omega,by simp[fy],?_,aF,?_⟩
   ·rw[nh];exact⟨iS,by intro z hz;simp at hz;omega⟩
   ·refine Sz0 ?_;simp
  ·obtain⟨d,fw⟩:∃d:Nat,(dg a i:Int)-(dg b i:Int)-(c:Int)=d:=⟨((dg a i:Int)-(dg b i:Int)-(c:Int)).toNat,by omega⟩
   have aF:=step d 0 (by omega) (by omega) (by omega);refine Sz4 h6 h7 h8 fw ?_;rw[Q9 (f:=fun(x:Nat)=>.int .u16 x) (y:=d) (xs:=out) (ty':=76) (fz:=false) (Tz1 hh) (by simp+decide (disch:=first|omega|rfl|(simp+decide only[go_sem,KaQ (by omega:d<65536)]<;>rfl)|fail) only[go_sem,KaQ (by omega:d<65536)]) (by omega) rfl (by omega) (by omega)];refine Sz3 h6 h7 h8 ?_;refine Qh (a.length-(i+1)) (by omega) ⟨i+1,0,out++[d],rfl,by omega,by omega,by simp[fy],?_,aF,?_⟩
   ·rw[nh];exact⟨iS,by intro z hz;simp at hz;omega⟩
   ·refine Sz0 ?_;simp
 ·obtain rfl:i=a.length:=by omega
  have hbz:val (b.drop a.length)=0:=Cr (by have:=ou ha;omega);have LK:=Gw b a.length;rw[hbz,Kb0,KaT]at LK;rw[Kas,<-LK]at hv;have hvo:=ou iS;rw[fy]at hvo;have vH:c=0:=by
   match c,oE with
   |0,_=>rfl
   |1,_=>exfalso;have:=ou ha;omega
  subst vH;refine Sz2 h6 hh ?_;refine uK hP (nj iS (by omega)) (by simp+decide (disch:=try exact E1 hh) only[go_sem,hh,dV,Kav,KaC,Kau,KaA,Kak];simp[Kae]) rfl fun an=>?_;refine Sz0 ?_;exact fb rfl rfl rfl (sV (congrArg PV.num (by omega))) (Qw _)
theorem Gg{a b:List Nat}(ha:Qq a)(hb:Qq b)(bu:a.length<2^40)(cQ:b.length<2^40):Qc Tryz.prog 103 [PV.nat a,PV.nat b] (· =PV.num (val a*val b)):=by
 refine Qf Qj Tryz.func103 rfl afV (by simp[Is]) fun C hP=>?_;simp only[Is,Zo,Zg,Zm,Zc,Zf,Zl,Zh,Zs,Zi,Zb,Zk,Zn,Zu,Zq,Zr,Zz];refine Sz0 ?_;refine Qz (by repeat (first|exact Qs|exact Ql|exact Qm|exact Qn|exact Qo|apply Qk|apply Qr|apply Qx|apply Q4|apply Q5|apply Qi|apply Q2)) [(6,9),(17,62)] [] (fun m J hp=>∃(i:Nat)(L:List Nat),m=a.length-i/\i<=a.length/\L.length=a.length+b.length+1/\Qq L/\val L=val (a.take i)*val b/\J 6= .int .i64 i/\hp=Qy aE 16 ⟨1,76,cm L,false⟩) a.length ?_ ?_
 ·refine⟨0,List.replicate (a.length+b.length+1) 0,rfl,by omega,by simp,?_,by simp[val,SK],?_⟩
  ·intro z hz;rw[List.eq_of_mem_replicate hz];omega
  ·refine Sz0 ?_;simp
 rintro _ J _ ⟨i,L,rfl,hi,hLl,hL,hv,h6,rfl⟩;refine Sz1 h6 ?_;refine Qb (fun hg=>?_) (fun hg=>?_)
 ·have aA:i<a.length:=by omega
  have En:=et ha aA;have lf:=yH aA;have My:dg L (i+b.length)=0:=by apply YX;apply Cr;rw[hv,Nat.pow_add];have h1:=sH ha i (by omega);have h2:=ou hb;exact Nat.mul_lt_mul'' h1 h2
  generalize dO:a[i]=ai at *
  refine Sz2 h6 dO ?_;refine Qz (by repeat (first|exact Qs|exact Ql|exact Qm|exact Qn|exact Qo|apply Qk|apply Qr|apply Qx|apply Q4|apply Q5|apply Qi|apply Q2)) [(7,9),(23,62)] [] (fun m J hp=>∃(k c:Nat)(M:List Nat),m=b.length+1-k/\k<=b.length+1/\(k<=b.length∨c=0)/\c<65536/\M.length=L.length/\Qq M/\val M+65536^(i+k)*(c+ai*val (b.drop k))=val L+65536^i*(ai*val b)/\(∀j,i+k<=j->dg M j=dg L j)/\J 7= .int .u64 c/\J 8= .int .i64 k/\hp=Qy aE 16 ⟨1,76,cm M,false⟩) (b.length+1) ?_ ?_
  ·refine⟨0,0,L,rfl,by omega,by omega,by omega,rfl,hL,by simp,fun _ _=>rfl,?_⟩;refine Sz1 h6 ?_;simp
  rintro _ J2 _ ⟨k,c,M,rfl,hk,mV,hc,Uo,hM,hw,vZ,h7,h8,rfl⟩;have e2:=wK b k;have d2:=u7 hb k;refine Sz3 h6 h7 h8 ?_;refine dF (fun AO=>?_) (fun AO=>?_)
  ·have ans:k<=b.length:=by omega
   have hj:i+k<M.length:=by omega
   have hx:=et hM hj;have jT:=fun v=>OV (v:=v) hj;have vT:=sQ En d2;have tP:dg M (i+k)=M[i+k]:=gm hj;generalize eZ:M[i+k]=x at *
   have tN:=Kbp (x+ai*dg b k+c) 65536;have mY:=Tv (T:=val L+65536^i*(ai*val b)) (jT ((x+ai*dg b k+c)%65536)) (by rw[<-e2];exact hw) tN;have hr:=Kbt (x+ai*dg b k+c) (show 0<65536 by omega);have hq:(x+ai*dg b k+c)/65536<65536:=by omega
   have iy:¬k<b.length->(x+ai*dg b k+c)/65536=0:=fun h=>by
    have z1:dg b k=0:=by rw[dg,gq (by omega)]
    have z2:x=0:=by rw[<-tP,vZ _ (Kac _),show i+k=i+b.length by omega,My]
    rw[z1,z2];omega
   have AS:Qq (M.set (i+k) ((x+ai*dg b k+c)%65536)):=fun z hz=>by
    rcases KcS hz with h|h
    ·exact hM z h
    ·omega
   have e5:IntKind.u64.wrap ((ai*dg b k:Nat):Int)=((ai*dg b k:Nat):Int):=rz (by omega) (by omega);refine Sz5 h6 h7 h8 dO eZ ?_;refine Qa hP (mi hb (by omega)) rfl rfl rfl ?_;refine Sz7 h6 h7 h8 dO eZ e5 @Nat.mod_mod ?_;refine Qh (b.length+1-(k+1)) (by omega) ⟨k+1,(x+ai*dg b k+c)/65536,M.set (i+k) ((x+ai*dg b k+c)%65536),rfl,by omega,?_,hq,by rw[Kb8];exact Uo,AS,?_,?_,?_⟩
   ·by_cases h:k<b.length
    ·omega
    ·exact .inr (iy h)
   ·rw[<-Nat.add_assoc,Kbz];exact mY
   ·intro j vN;rw[Tw (by omega)];exact vZ j (by omega)
   ·exact Tz3 h6 h7 h8
  refine Sz3 h6 h7 h8 ?_;refine Qb (fun vH=>?_) (fun vH=>?_)
  ·have ans:k<=b.length:=by omega
   have hj:i+k<M.length:=by omega
   have hx:=et hM hj;have jT:=fun v=>OV (v:=v) hj;have vT:=sQ En d2;have tP:dg M (i+k)=M[i+k]:=gm hj;generalize eZ:M[i+k]=x at *
   have tN:=Kbp (x+ai*dg b k+c) 65536;have mY:=Tv (T:=val L+65536^i*(ai*val b)) (jT ((x+ai*dg b k+c)%65536)) (by rw[<-e2];exact hw) tN;have hr:=Kbt (x+ai*dg b k+c) (show 0<65536 by omega);have hq:(x+ai*dg b k+c)/65536<65536:=by omega
   have iy:¬k<b.length->(x+ai*dg b k+c)/65536=0:=fun h=>by
    have z1:dg b k=0:=by rw[dg,gq (by omega)]
    have z2:x=0:=by rw[<-tP,vZ _ (Kac _),show i+k=i+b.length by omega,My]
    rw[z1,z2];omega
   have AS:Qq (M.set (i+k) ((x+ai*dg b k+c)%65536)):=fun z hz=>by
    rcases KcS hz with h|h
    ·exact hM z h
    ·omega
   have e5:IntKind.u64.wrap ((ai*dg b k:Nat):Int)=((ai*dg b k:Nat):Int):=rz (by omega) (by omega);refine Sz5 h6 h7 h8 dO eZ ?_;refine Qa hP (mi hb (by omega)) rfl rfl rfl ?_;refine Sz7 h6 h7 h8 dO eZ e5 @Nat.mod_mod ?_;refine Qh (b.length+1-(k+1)) (by omega) ⟨k+1,(x+ai*dg b k+c)/65536,M.set (i+k) ((x+ai*dg b k+c)%65536),rfl,by omega,?_,hq,by rw[Kb8];exact Uo,AS,?_,?_,?_⟩
   ·by_cases h:k<b.length
    ·omega
    ·exact .inr (iy h)
   ·rw[<-Nat.add_assoc,Kbz];exact mY
   ·intro j vN;rw[Tw (by omega)];exact vZ j (by omega)
   ·exact Tz3 h6 h7 h8
  ·obtain rfl:c=0:=by omega
   rw[Kal (by omega)]at hw;simp only[val,Kb0,KaT]at hw;refine Sz3 h6 h7 h8 ?_;simp (disch:=decide) only[kb,nw];refine Qh (a.length-(i+1)) (by omega) ⟨i+1,M,rfl,by omega,by omega,hM,?_,?_⟩
   ·rw[hw,hv,lf,KaH,Kbf]
   ·exact Tz0
 ·obtain rfl:i=a.length:=by omega
  rw[Kas]at hv;refine Sz0 ?_;refine uK hP (nj hL (by omega)) (by simp+decide (disch:=try exact E0) only[go_sem,dV,Kav,KaC,Kau,KaA,Kak];simp[Kae,hLl]) rfl fun an=>?_;refine Sz0 ?_;exact Qd (by rw[hv]) rfl
theorem yV{x y:Nat}(hx:nl x<2^40)(hy:nl y<2^40):Qc Tryz.prog 103 [PV.num x,PV.num y] (· =PV.num (x*y)):=by
 have:=Gg (Qp x) (Qp y) hx hy
 rwa[Q6,Q6]at this
theorem ZH{x y:Nat}(hx:nl x<2^42)(hy:nl y<2^42):Qc Tryz.prog 169 [PV.num x,PV.num y] (· = .int .i64 (gM x y)):=by
 have:=Ci (Qp x) (Qp y) hx hy
 rwa[Q6,Q6]at this
theorem Sw{x y:Nat}(hx:nl x<2^40)(hy:nl y<2^40)(h:y<=x):Qc Tryz.prog 152 [PV.num x,PV.num y] (· = .au [PV.num (x-y),.int .i64 0]):=by
 have:=Gf (Qp x) (Qp y) hx hy
 rwa[Q6,Q6,if_neg (by omega)]at this
theorem O7{x y:Nat}:gM x y<=0↔x<=y:=by unfold gM;split<;>(try split)<;>omega
theorem QQ{x y:Nat}(hx:nl x<2^38)(hy:nl y<2^38)(cV:0<y):Qc Tryz.prog 165 [PV.num x,PV.num y] (· = .int .u64 (min 65535 (x/y):Nat)):=by
 have tX:∀(n d:Nat) fr hp K,n<18446744073709551616->ck .quo false (.int .u64 (n:Int)) (.int .u64 2) d fr hp K=K (af fr d (.int .u64 ((n/2:Nat):Int))) hp:=fun n d fr hp K h=>by rw[show(2:Int)=((2:Nat):Int)from rfl,zK (by omega) h]
 refine Qf Qj Tryz.func165 rfl afW (by simp[Jt]) fun C hP=>?_;simp only[Jt,Zo,Zg,Zm,Zc,Zf,Zl,Zh,Zs,Zi,Zb,Zk,Zn,Zu,Zq,Zr,Zz];refine Sz0 ?_;refine Qz (by repeat (first|exact Qs|exact Ql|exact Qm|exact Qn|exact Qo|apply Qk|apply Qr|apply Qx|apply Q4|apply Q5|apply Qi|apply Q2)) [(5,25)] [] (fun m J hp=>∃lo hi:Nat,m=hi-lo/\lo<=hi/\hi<=65535/\y*lo<=x/\(hi=65535∨x<y*(hi+1))/\J 5= .int .u64 lo/\J 6= .int .u64 hi) 65535 ?_ ?_
 ·refine⟨0,65535,rfl,by omega,by omega,by omega,.inl rfl,?_⟩;refine Sz0 ?_;simp
 rintro _ J h ⟨lo,hi,rfl,h1,h2,h3,h4,h5,h6⟩;refine Sz2 h5 h6 ?_;refine Qb (fun hg=>?_) (fun hg=>?_)
 ·have fM:nl ((lo+hi+1)/2)<=4:=rA (by omega);have hm:=gJ y ((lo+hi+1)/2);generalize anG:(lo+hi+1)/2=wb at *
  refine Sz4 h5 h6 tX anG ?_;refine Qa hP (mw (n:=wb) (by omega)) rfl rfl rfl ?_;refine Sz2 h5 h6 ?_;refine Qa hP (yV (x:=y) (y:=wb) (by omega) (by omega)) rfl rfl rfl ?_;refine Sz2 h5 h6 ?_;refine Qa hP (ZH (x:=y*wb) (y:=x) (by omega) (by omega)) rfl rfl rfl ?_;refine Sz2 h5 h6 ?_;refine Qb (fun hc=>?_) (fun hc=>?_)
  ·rw[O7]at hc;refine Sz2 h5 h6 ?_;refine Qh (hi-wb) (by omega) ⟨wb,hi,rfl,by omega,h2,hc,h4,?_⟩;exact Tz1 h6
  ·rw[O7]at hc;obtain⟨n,rfl⟩:∃n,wb=n+1:=⟨wb-1,by omega⟩
   have e:((n+1:Nat):Int)-1=n:=by omega
   refine Sz3 h5 h6 e ?_;refine Qh (n-lo) (by omega) ⟨lo,n,rfl,by omega,by omega,h3,.inr (by omega),?_⟩;exact Tz1 h5
 ·obtain rfl:lo=hi:=by omega
  refine Sz1 h5 ?_;refine Qd ?_ rfl;have hle:lo<=x/y:=(Nat.le_div_iff_mul_le cV).2 (by rw[KaS];exact h3);rcases h4 with rfl|h4
  ·rw[KbX hle]
  ·have:x/y<lo+1:=(Kbm cV).2 (by rw[KaS];exact h4);congr 2;omega
theorem QH{a b:List Nat}(ha:Qq a)(hb:Qq b)(bu:a.length<2^36)(cQ:b.length<2^36):Qc Tryz.prog 129 [PV.nat a,PV.nat b]
  (· =if val b=0 then .au [PV.num 0,PV.num 0,.int .i64 3]else .au [PV.num (val a/val b),PV.num (val a%val b),.int .i64 0]):=by
 have gA:=cj ha;have iP:=cj hb;refine Qf Qj Tryz.func129 rfl afX (by simp[IU]) fun C hP=>?_;simp only[IU,Zo,Zg,Zm,Zc,Zf,Zl,Zh,Zs,Zi,Zb,Zk,Zn,Zu,Zq,Zr,Zz];refine Sz0 ?_;refine Qa hP (nj ha (by omega)) rfl rfl rfl ?_;refine Sz0 ?_;refine Qa hP (nj hb (by omega)) rfl rfl rfl ?_;refine Sz0 ?_;generalize val a=x at *
 generalize val b=y at *
 unfold nl at gA iP;refine Qb (fun hz=>?_) (fun hz=>?_)
 ·have cV:y=0:=j9.1 (oW (by omega));refine Sz0 ?_;rw[if_pos cV];exact tu rfl rfl rfl rfl wS wS (Qw _)
 have cV:y≠0:=fun h=>by rw[h,fC]at hz;simp at hz
 rw[if_neg cV];have hyp:0<y:=KaY cV;have dZ:=Qp x;have iz:=Qp y;have pQ:=Q6 x;have su:=Q6 y;refine Sz0 ?_;refine fX (fun h1=>?_) (fun h1=>?_)
 ·refine Sz0 ?_;refine Qb (fun h2=>?_) (fun h2=>?_)
  ·have aqh:=CS.1 (show nl x<=4 by unfold nl;omega);have aqi:=CS.1 (show nl y<=4 by unfold nl;omega);have hq:=KcK x y;have hr:=Kbt x hyp;refine Sz0 ?_;refine Qa hP (B5 dZ (by omega)) rfl rfl rfl ?_;refine Sz1 pQ ?_;refine Qa hP (B5 iz (by omega)) rfl rfl rfl ?_;refine Sz3 pQ su @zK ?_;refine Qa hP (mw (n:=x/y) (by omega)) rfl rfl rfl ?_;refine Sz0 ?_;refine Qa hP (B5 dZ (by omega)) rfl rfl rfl ?_;refine Sz1 pQ ?_;refine Qa hP (B5 iz (by omega)) rfl rfl rfl ?_;refine Sz3 pQ su @qk ?_;refine Qa hP (mw (n:=x%y) (by omega)) rfl rfl rfl ?_;refine Sz0 ?_;exact tu rfl rfl rfl rfl (Qw _) (Qw _) (Qw _)
  ·have an9:=trivial;refine Sz0 ?_;refine rE 7 1 Tz0 ?_;refine rE 8 1 Tz0 ?_;refine Hh (by repeat (first|exact Qs|exact Ql|exact Qm|exact Qn|exact Qo|apply Qk|apply Qr|apply Qx|apply Q4|apply Q5|apply Qi|apply Q2)) [(7,10),(41,69)] [49,51,58,60] (fun k J hp=>∃qs,k<=(ah x).length/\qs.length=(ah x).length-k/\Qq qs/\val qs=val ((ah x).drop k)/y/\J 7= .sl 1 (cm qs)/\J 8=PV.num (val ((ah x).drop k)%y)/\J 9= .int .i64 ((k:Int)-1)) (ah x).length ?_ ?_
   ·refine⟨[],Kac _,by simp,nt,by simp[val],?_⟩;refine Sz0 ?_;simp[val,fC]
   rintro k J h ⟨qs,hk,sh,oK,qT,h7,h8,h9⟩;refine Sz3 h7 h8 h9 ?_;have hr:=Kbt (val ((ah x).drop k)) hyp;refine Qb (fun hg=>?_) (fun hg=>?_)
   ·obtain _|n:=k
    ·omega
    have hn:n<(ah x).length:=by omega
    have vF:=et dZ hn;have e:((n+1:Nat):Int)-1=n:=by omega
    have aF:=RU (x:=(ah x)[n]) hyp qT;rw[<-lD hn]at aF;generalize hV:val ((ah x).drop (n+1))%y=r at *
    generalize dO:(ah x)[n]=xi at *
    have kZ:(ah r).length<=(ah y).length:=fE (Nat.le_of_lt hr);have pH:Qq ([xi]++ah r):=by rw[nh];exact⟨by intro z hz;simp at hz;omega,Qp r⟩
    have jU:val ([xi]++ah r)=r*65536+xi:=by rw[mu,Q6];simp[val];omega
    have ar:(r*65536+xi)/y<65536:=by rw[Kbm hyp];have:(r+1)*65536<=y*65536:=Kaf _ hr;omega
    have Mg:nl (r*65536+xi)<=(ah y).length+1:=by have:=cj pH;rw[jU,Kap]at this;simp at this;omega
    have tN:=Kbp (r*65536+xi) y;have jR:nl (y*((r*65536+xi)/y))<=(ah y).length+1:=Kay (fE (by omega)) Mg;have Me:nl ((r*65536+xi)/y)<=4:=rA (by omega);have Mq:r*65536+xi-y*((r*65536+xi)/y)=(r*65536+xi)%y:=by omega
    refine Sz5 h7 h8 h9 e dO ?_;rw[mz (f:=fun(x:Nat)=>.int .u16 x) (xs:=[xi]) (ys:=ah r) (n:=1) cE rfl (by omega) (by omega) (by omega)];refine Sz5 h7 h8 h9 e dO ?_;refine iE hP (nj (l:=[xi]++ah r) pH (by simp;omega)) (by simp+decide (disch:=try exact E0) only[go_sem,dV,Kav,KaC,Kau,KaA,Kak];simp[KbQ 1,Kae]) rfl ?_;rw[jU];refine Sz5 h7 h8 h9 e dO ?_;refine Qa hP (QQ (x:=r*65536+xi) (y:=y) (by omega) (by unfold nl;omega) hyp) rfl rfl rfl ?_;rw[Kdc (by omega:(r*65536+xi)/y<=65535)];generalize hD:(r*65536+xi)/y=D at *
    simp+decide (disch:=first|omega|rfl|(simp+decide only[go_sem,h7,h8,h9,e,dO,KaQ ar]<;>rfl)|fail) only[go_sem,h7,h8,h9,e,dO,KaQ ar];rw[mz (f:=fun(x:Nat)=>.int .u16 x) (xs:=[D]) (ys:=qs) (n:=1) cE rfl (by omega) (by omega) (by omega)];refine Sz5 h7 h8 h9 e dO ?_;refine Qa hP (mw (n:=D) (by omega)) rfl rfl rfl ?_;refine Sz4 h7 h8 h9 e ?_;refine Qa hP (yV (x:=y) (y:=D) (by unfold nl;omega) (by omega)) rfl rfl rfl ?_;refine Sz4 h7 h8 h9 e ?_;refine Qa hP (Sw (x:=r*65536+xi) (y:=y*D) (by omega) (by omega) (by omega)) rfl rfl rfl ?_;rw[Mq];refine Sz4 h7 h8 h9 e ?_;refine Gn 7 n rfl ?_ (by omega) ⟨D::qs,by omega,by simp;omega,?_,?_,?_⟩
    ·exact xH
    ·rw[gX];exact⟨ar,oK⟩
    ·rw[val,aF.1]
    ·refine tA aF.2 ?_;simp[KbQ 1,Kae]
   ·obtain rfl:k=0:=by omega
    rw[Kbo,pQ]at qT h8;refine Sz2 h7 h8 ?_;refine Qa hP (nj oK (by omega)) rfl rfl rfl ?_;refine Sz2 h7 h8 ?_;exact tu rfl rfl rfl rfl (sV (by rw[qT])) (Qw _) (Qw _)
 ·have an9:=trivial;refine Sz0 ?_;refine rE 7 1 Tz0 ?_;refine rE 8 1 Tz0 ?_;refine Hh (by repeat (first|exact Qs|exact Ql|exact Qm|exact Qn|exact Qo|apply Qk|apply Qr|apply Qx|apply Q4|apply Q5|apply Qi|apply Q2)) [(7,10),(41,69)] [49,51,58,60] (fun k J hp=>∃qs,k<=(ah x).length/\qs.length=(ah x).length-k/\Qq qs/\val qs=val ((ah x).drop k)/y/\J 7= .sl 1 (cm qs)/\J 8=PV.num (val ((ah x).drop k)%y)/\J 9= .int .i64 ((k:Int)-1)) (ah x).length ?_ ?_
  ·refine⟨[],Kac _,by simp,nt,by simp[val],?_⟩;refine Sz0 ?_;simp[val,fC]
  rintro k J h ⟨qs,hk,sh,oK,qT,h7,h8,h9⟩;refine Sz3 h7 h8 h9 ?_;have hr:=Kbt (val ((ah x).drop k)) hyp;refine Qb (fun hg=>?_) (fun hg=>?_)
  ·obtain _|n:=k
   ·omega
   have hn:n<(ah x).length:=by omega
   have vF:=et dZ hn;have e:((n+1:Nat):Int)-1=n:=by omega
   have aF:=RU (x:=(ah x)[n]) hyp qT;rw[<-lD hn]at aF;generalize hV:val ((ah x).drop (n+1))%y=r at *
   generalize dO:(ah x)[n]=xi at *
   have kZ:(ah r).length<=(ah y).length:=fE (Nat.le_of_lt hr);have pH:Qq ([xi]++ah r):=by rw[nh];exact⟨by intro z hz;simp at hz;omega,Qp r⟩
   have jU:val ([xi]++ah r)=r*65536+xi:=by rw[mu,Q6];simp[val];omega
   have ar:(r*65536+xi)/y<65536:=by rw[Kbm hyp];have:(r+1)*65536<=y*65536:=Kaf _ hr;omega
   have Mg:nl (r*65536+xi)<=(ah y).length+1:=by have:=cj pH;rw[jU,Kap]at this;simp at this;omega
   have tN:=Kbp (r*65536+xi) y;have jR:nl (y*((r*65536+xi)/y))<=(ah y).length+1:=Kay (fE (by omega)) Mg;have Me:nl ((r*65536+xi)/y)<=4:=rA (by omega);have Mq:r*65536+xi-y*((r*65536+xi)/y)=(r*65536+xi)%y:=by omega
   refine Sz5 h7 h8 h9 e dO ?_;rw[mz (f:=fun(x:Nat)=>.int .u16 x) (xs:=[xi]) (ys:=ah r) (n:=1) cE rfl (by omega) (by omega) (by omega)];refine Sz5 h7 h8 h9 e dO ?_;refine iE hP (nj (l:=[xi]++ah r) pH (by simp;omega)) (by simp+decide (disch:=try exact E0) only[go_sem,dV,Kav,KaC,Kau,KaA,Kak];simp[KbQ 1,Kae]) rfl ?_;rw[jU];refine Sz5 h7 h8 h9 e dO ?_;refine Qa hP (QQ (x:=r*65536+xi) (y:=y) (by omega) (by unfold nl;omega) hyp) rfl rfl rfl ?_;rw[Kdc (by omega:(r*65536+xi)/y<=65535)];generalize hD:(r*65536+xi)/y=D at *
   simp+decide (disch:=first|omega|rfl|(simp+decide only[go_sem,h7,h8,h9,e,dO,KaQ ar]<;>rfl)|fail) only[go_sem,h7,h8,h9,e,dO,KaQ ar];rw[mz (f:=fun(x:Nat)=>.int .u16 x) (xs:=[D]) (ys:=qs) (n:=1) cE rfl (by omega) (by omega) (by omega)];refine Sz5 h7 h8 h9 e dO ?_;refine Qa hP (mw (n:=D) (by omega)) rfl rfl rfl ?_;refine Sz4 h7 h8 h9 e ?_;refine Qa hP (yV (x:=y) (y:=D) (by unfold nl;omega) (by omega)) rfl rfl rfl ?_;refine Sz4 h7 h8 h9 e ?_;refine Qa hP (Sw (x:=r*65536+xi) (y:=y*D) (by omega) (by omega) (by omega)) rfl rfl rfl ?_;rw[Mq];refine Sz4 h7 h8 h9 e ?_;refine Gn 7 n rfl ?_ (by omega) ⟨D::qs,by omega,by simp;omega,?_,?_,?_⟩
   ·exact xH
   ·rw[gX];exact⟨ar,oK⟩
   ·rw[val,aF.1]
   ·refine tA aF.2 ?_;simp[KbQ 1,Kae]
  ·obtain rfl:k=0:=by omega
   rw[Kbo,pQ]at qT h8;refine Sz2 h7 h8 ?_;refine Qa hP (nj oK (by omega)) rfl rfl rfl ?_;refine Sz2 h7 h8 ?_;exact tu rfl rfl rfl rfl (sV (by rw[qT])) (Qw _) (Qw _)
theorem QR{x y:Nat}(hx:nl x<2^36)(hy:nl y<2^36)(h0:y≠0):Qc Tryz.prog 129 [PV.num x,PV.num y] (· = .au [PV.num (x/y),PV.num (x%y),.int .i64 0]):=by
 have:=QH (Qp x) (Qp y) hx hy
 rwa[Q6,Q6,if_neg h0]at this
theorem Gh{a b:List Nat}(ha:Qq a)(hb:Qq b)(bu:a.length<2^36)(cQ:b.length<2^36):Qc Tryz.prog 128 [PV.nat a,PV.nat b] (· =PV.num (Nat.gcd (val a) (val b))):=by
 have gA:=cj ha;have iP:=cj hb;refine Qf Qj Tryz.func128 rfl afY (by simp[IT]) fun C hP=>?_;simp only[IT,Zo,Zg,Zm,Zc,Zf,Zl,Zh,Zs,Zi,Zb,Zk,Zn,Zu,Zq,Zr,Zz];refine Sz0 ?_;refine Qa hP (nj ha (by omega)) rfl rfl rfl ?_;refine Sz0 ?_;refine Qa hP (nj hb (by omega)) rfl rfl rfl ?_;refine Sz0 ?_;refine Qz (by repeat (first|exact Qs|exact Ql|exact Qm|exact Qn|exact Qo|apply Qk|apply Qr|apply Qx|apply Q4|apply Q5|apply Qi|apply Q2)) [(0,1),(5,7),(12,23)] [] (fun m J hp=>∃x,Nat.gcd x m=Nat.gcd (val a) (val b)/\nl x<2^36/\nl m<2^36/\J 0=PV.num x/\J 1=PV.num m/\hp=aE) (val b) ?_ ?_
 ·refine⟨val a,rfl,by omega,by omega,?_⟩;exact Tz0
 rintro y J _ ⟨x,hg,hx,hy,h0,h1,rfl⟩;generalize Nat.gcd (val a) (val b)=g at *
 refine Sz2 h0 h1 ?_;refine Qb (fun hc=>?_) (fun hc=>?_)
 ·have cV:y≠0:=fun h=>by rw[h,fC]at hc;simp at hc
  have AW:=fE (Nat.le_of_lt (Kbt x (KaY cV)));refine Sz2 h0 h1 ?_;refine Qa hP (QR (x:=x) (y:=y) hx hy cV) rfl rfl rfl ?_;refine Sz2 h0 h1 ?_;refine Qh (x%y) (Kbt _ (KaY cV)) ⟨y,?_,hy,by omega,?_⟩
  ·rw[<-hg,Kcx x y,Nat.gcd_rec y x,Kcx]
  ·exact Tz0
 ·have cV:y=0:=j9.1 (oW (by omega));subst cV;refine Sz1 h0 ?_;exact Qd (by rw[<-hg,Kc1]) rfl
theorem Sx{x y:Nat}(hx:nl x<2^36)(hy:nl y<2^36):Qc Tryz.prog 128 [PV.num x,PV.num y] (· =PV.num (Nat.gcd x y)):=by
 have:=Gh (Qp x) (Qp y) hx hy
 rwa[Q6,Q6]at this
theorem sL{n:Bool}{a:List Nat}(ha:Qq a)(bu:a.length<2^42):Qc Tryz.prog 133 [.bool n,PV.nat a] (· =PV.zz (zv n a)):=by
 refine Qf Qj Tryz.func133 rfl af2 (by simp[IZ]) fun C hP=>?_;simp only[IZ,Zo,Zg,Zm,Zc,Zf,Zl,Zh,Zs,Zi,Zb,Zk,Zn,Zu,Zq,Zr,Zz];refine Sz0 ?_;refine Qa hP (nj ha bu) rfl rfl rfl ?_;refine Sz0 ?_;refine wE (fun hn=>?_) (fun hn=>?_)
 all_goals
  refine Sz0 ?_;refine dA ?_;refine Sz0 ?_;exact Qd (by have:=HV n (val a);rw[hn]at this;subst hn;simpa[zv]using this) rfl
theorem Cd{n:Bool}{a:List Nat}(ha:Qq a)(bu:a.length<2^42):Qc Tryz.prog 132 [PV.zi n a] (· =PV.zz (zv n a)):=by refine Qf Qj Tryz.func132 rfl af3 (by simp[IY]) fun C hP=>?_;simp only[IY,Zo,Zg,Zm,Zc,Zf,Zl,Zh,Zs,Zi,Zb,Zk,Zn,Zu,Zq,Zr,Zz];refine Sz0 ?_;refine Qa hP (sL ha bu) rfl rfl rfl ?_;refine Sz0 ?_;refine dA ?_;refine Sz0 ?_;exact Qd rfl rfl
theorem RF{n m:Bool}{a b:List Nat}(ha:Qq a)(hb:Qq b)(bu:a.length<2^40)(cQ:b.length<2^40):Qc Tryz.prog 101 [PV.zi n a,PV.zi m b] (· =PV.zz (zv n a*zv m b)):=by
 have hr:nl (val a*val b)<2^42:=by have:=gJ (val a) (val b);have:=cj ha;have:=cj hb;omega
 refine Qf Qj Tryz.func101 rfl af8 (by simp[Iq]) fun C hP=>?_;simp only[Iq,Zo,Zg,Zm,Zc,Zf,Zl,Zh,Zs,Zi,Zb,Zk,Zn,Zu,Zq,Zr,Zz];refine Sz0 ?_;refine Qa hP (Gg ha hb bu cQ) rfl rfl rfl ?_;refine Sz0 ?_;refine Qa hP (sL (n:= !(n==m)) (Qp (val a*val b)) hr) rfl rfl rfl ?_;refine Sz0 ?_;refine dA ?_;refine Sz0 ?_;exact Qd (congrArg PV.zz (by rw[rG];unfold zv;cases n<;>cases m<;>simp[Int.neg_mul,Int.mul_neg])) rfl
theorem ZI{x:Int}(h1: -9223372036854775808<=x)(h2:x<=9223372036854775807):Qc Tryz.prog 73 [.int .i64 x] (· =PV.zz x):=by
 refine Qf Qj Tryz.func73 rfl aiR (by simp[KE]) fun C hP=>?_;simp only[KE,Zo,Zg,Zm,Zc,Zf,Zl,Zh,Zs,Zi,Zb,Zk,Zn,Zu,Zq,Zr,Zz];refine Sz0 ?_;refine Qb (fun hc=>?_) (fun hc=>?_)
 ·obtain⟨y,hy⟩:∃y:Nat,x= -((y:Int)+1):=⟨(-(x+1)).toNat,by omega⟩
  have e1:IntKind.i64.wrap (x+1)= -(y:Int):=by rw[uN (by omega) (by omega)];omega
  have e2:IntKind.i64.wrap (0- -(y:Int))=(y:Int):=by rw[uN (by omega) (by omega)];omega
  have e3:IntKind.u64.wrap (y:Int)=(y:Int):=rz (by omega) (by omega);have lU:nl y<=4:=rA (by omega);have gh:nl (y+1)<=4:=rA (by omega);refine Sz3 e1 e2 e3 ?_;refine Qa hP (mw (n:=y) (by omega)) rfl rfl rfl ?_;refine Sz0 ?_;refine Qa hP (mw (n:=1) (by omega)) rfl rfl rfl ?_;refine Sz0 ?_;refine Qa hP (RE (Qp y) (Qp 1) (show nl y<_ by omega) (show nl 1<_ by rw[jG];omega)) rfl rfl rfl ?_;refine Sz0 ?_;refine Qa hP (sL (n:=true) (Qp (val (ah y)+val (ah 1))) (show nl _<_ by rw[Q6,Q6];omega)) rfl rfl rfl ?_;refine Sz0 ?_;refine dA ?_;refine Sz0 ?_;exact Qd (congrArg PV.zz (by rw[rG,Q6,Q6];simp;omega)) rfl
 ·obtain⟨y,rfl⟩:∃y:Nat,x=y:=⟨x.toNat,by omega⟩
  have lU:nl y<=4:=rA (by omega);refine Sz0 ?_;refine Qa hP (mw (by omega)) rfl rfl rfl ?_;refine Sz0 ?_;refine Qa hP (sL (n:=false) (Qp y) (show nl _<_ by omega)) rfl rfl rfl ?_;refine Sz0 ?_;refine dA ?_;refine Sz0 ?_;exact Qd (congrArg PV.zz (by rw[rG];simp)) rfl
theorem Xl{n:Bool}{a:List Nat}(ha:Qq a)(bu:a.length<2^42):Qc Tryz.prog 104 [PV.zi n a] (· = .int .i64 (fk (zv n a))):=by
 refine Qf Qj Tryz.func104 rfl af4 (by simp[Iu]) fun C hP=>?_;simp only[Iu,Zo,Zg,Zm,Zc,Zf,Zl,Zh,Zs,Zi,Zb,Zk,Zn,Zu,Zq,Zr,Zz];refine Sz0 ?_;refine Qa hP (Cd ha bu) rfl rfl rfl ?_;generalize zv n a=z;refine Sz0 ?_;refine Qb (fun hz=>?_) (fun hz=>?_)
 ·have:z=0:=by have:=j9.1 (oW (n:=z.natAbs) (by omega));omega
  subst this;refine Sz0 ?_;exact Qd rfl rfl
 ·have h0:z≠0:=fun h=>by subst h;exact hz (by simp[fC])
  refine Sz0 ?_;refine y4 (fun hn=>?_) (fun hn=>?_)
  ·have hn:z<0:=by simpa using hn
   refine Sz0 ?_;exact Qd (by rw[fk,if_pos hn]) rfl
  ·have hn:¬z<0:=by simpa using hn
   refine Sz0 ?_;exact Qd (by rw[fk,if_neg hn,if_pos (by omega)]) rfl
theorem W5{n:Bool}{a:List Nat}(ha:Qq a)(bu:a.length<2^42):Qc Tryz.prog 139 [PV.zi n a] (· = .bool (nC n a)):=by
 refine Qf Qj Tryz.func139 rfl af1 (by simp[I5]) fun C hP=>?_;simp only[I5,Zo,Zg,Zm,Zc,Zf,Zl,Zh,Zs,Zi,Zb,Zk,Zn,Zu,Zq,Zr,Zz];refine Sz0 ?_;refine Qa hP (QN ha (by omega)) rfl rfl rfl ?_;refine Sz0 ?_;refine wE (fun hv=>?_) (fun hv=>?_)
 ·refine Sz0 ?_;refine wE (fun hn=>?_) (fun hn=>?_)
  ·refine Sz0 ?_;exact Qd (congrArg PV.bool (by unfold nC;subst hn;cases a<;>simp_all<;>omega)) rfl
  ·refine Sz0 ?_;exact Qd (congrArg PV.bool (by unfold nC;subst hn;cases a<;>simp_all)) rfl
 ·refine Sz0 ?_;exact Qd (congrArg PV.bool (by unfold nC;cases a<;>simp_all)) rfl
theorem X2{n m:Bool}{a b:List Nat}(ha:Qq a)(hb:Qq b)(bu:a.length<2^41)(cQ:b.length<2^41):Qc Tryz.prog 138 [PV.zi n a,PV.zi m b] (· = .int .i64 (cW (zv n a) (zv m b))):=by
 have hx:nl (zv n a).natAbs<2^41:=by rw[jF];have:=cj ha;omega
 have hy:nl (zv m b).natAbs<2^41:=by rw[jF];have:=cj hb;omega
 refine Qf Qj Tryz.func138 rfl af5 (by simp[I4]) fun C hP=>?_;simp only[I4,Zo,Zg,Zm,Zc,Zf,Zl,Zh,Zs,Zi,Zb,Zk,Zn,Zu,Zq,Zr,Zz];refine Sz0 ?_;refine Qa hP (Cd ha (by omega)) rfl rfl rfl ?_;refine Sz0 ?_;refine Qa hP (Cd hb (by omega)) rfl rfl rfl ?_;generalize zv n a=x at *
 generalize zv m b=y at *
 have lx:(ah x.natAbs).length<2^41:=hx;have ly:(ah y.natAbs).length<2^41:=hy;by_cases bp:x<0<;>by_cases cV:y<0
 ·refine Sz2 bp cV ?_;refine Qa hP (Ci (Qp y.natAbs) (Qp x.natAbs) (by omega) (by omega)) rfl rfl rfl ?_;refine Sz0 ?_;exact Qd (congrArg (PV.int .i64) (by rw[Q6,Q6];unfold gM cW;split<;>split<;>(try split)<;>(try split)<;>omega)) rfl
 ·refine Sz2 bp cV ?_;exact Qd (congrArg (PV.int .i64) (by unfold cW;rw[if_pos (by omega)])) rfl
 ·refine Sz2 bp cV ?_;exact Qd (congrArg (PV.int .i64) (by unfold cW;rw[if_neg (by omega),if_pos (by omega)])) rfl
 ·refine Sz2 bp cV ?_;refine Qa hP (Ci (Qp x.natAbs) (Qp y.natAbs) (by omega) (by omega)) rfl rfl rfl ?_;refine Sz0 ?_;exact Qd (congrArg (PV.int .i64) (by rw[Q6,Q6];unfold gM cW;split<;>split<;>(try split)<;>(try split)<;>omega)) rfl
theorem X3{n m:Bool}{a b:List Nat}(ha:Qq a)(hb:Qq b)(bu:a.length<2^40)(cQ:b.length<2^40):Qc Tryz.prog 100 [PV.zi n a,PV.zi m b] (· =PV.zz (zv n a+zv m b)):=by
 have gA:=cj ha;have iP:=cj hb;refine Qf Qj Tryz.func100 rfl af7 (by simp[Ip]) fun C hP=>?_;simp only[Ip,Zo,Zg,Zm,Zc,Zf,Zl,Zh,Zs,Zi,Zb,Zk,Zn,Zu,Zq,Zr,Zz];refine Sz0 ?_;refine y4 (fun jR=>?_) (fun jR=>?_)
 ·have jR:n=m:=by simpa using jR
  subst jR;have hr:=uY (val a) (val b);refine Sz0 ?_;refine Qa hP (RE ha hb bu cQ) rfl rfl rfl ?_;refine Sz0 ?_;refine Qa hP (sL (n:=n) (Qp (val a+val b)) (show nl _<_ by omega)) rfl rfl rfl ?_;refine Sz0 ?_;refine dA ?_;refine Sz0 ?_;exact Qd (congrArg PV.zz (by rw[rG];unfold zv;split<;>simp<;>omega)) rfl
 have jR:n= !m:=by cases n<;>cases m<;>simp_all
 subst jR;refine Sz0 ?_;refine Qa hP (Gf ha hb bu cQ) rfl rfl rfl ?_;by_cases hc:val a<val b
 ·rw[if_pos hc];have hr:=fE (Nat.sub_le (val b) (val a));refine Sz0 ?_;refine Qa hP (Gf hb ha cQ bu) rfl rfl rfl ?_;rw[if_neg (by omega)];refine Sz0 ?_;refine Qa hP (sL (n:=m) (Qp (val b-val a)) (show nl _<_ by omega)) rfl rfl rfl ?_;refine Sz0 ?_;refine dA ?_;refine Sz0 ?_;exact Qd (congrArg PV.zz (by rw[rG];unfold zv;cases m<;>simp<;>omega)) rfl
 ·rw[if_neg hc];have hr:=fE (Nat.sub_le (val a) (val b));refine Sz0 ?_;refine Qa hP (sL (n:= !m) (Qp (val a-val b)) (show nl _<_ by omega)) rfl rfl rfl ?_;refine Sz0 ?_;refine dA ?_;refine Sz0 ?_;exact Qd (congrArg PV.zz (by rw[rG];unfold zv;cases m<;>simp<;>omega)) rfl
theorem Rc{a:List Nat}{g:Nat}(ha:Qq a)(hx:a.length<2^36)(hy:nl g<2^36)(h0:g≠0):Qc Tryz.prog 129 [PV.nat a,PV.num g] (· = .au [PV.num (val a/g),PV.num (val a%g),.int .i64 0]):=by
 have:=QH ha (Qp g) hx hy
 rwa[Q6,if_neg h0]at this
theorem aiq(n:Bool)(a:List Nat)(D:Nat):zv n (ah (val a/Nat.gcd (val a) D))=zv n a/(Nat.gcd (zv n a).natAbs D:Int):=by
 rw[jF,rG];unfold zv;cases n
 ·simp
 ·have hd:((Nat.gcd (val a) D:Nat):Int)∣(val a:Int):=Int.natCast_dvd_natCast.2 (KbI _ _);simp only[if_true];rw[Int.neg_ediv_of_dvd hd,Int.natCast_ediv]
theorem Re{n:Bool}{a d:List Nat}(ha:Qq a)(hd:Qq d)(bu:a.length<2^36)(vQ:d.length<2^36):Qc Tryz.prog 72 [PV.zi n a,PV.nat d] (· =PV.rat (rv n a d)):=by
 have AX:=cj ha;have Mh:=cj hd;refine Qf Qj Tryz.func72 rfl aiT (by simp[KD]) fun C hP=>?_;simp only[KD,Zo,Zg,Zm,Zc,Zf,Zl,Zh,Zs,Zi,Zb,Zk,Zn,Zu,Zq,Zr,Zz];refine Sz0 ?_;refine Qa hP (nj hd (by omega)) rfl rfl rfl ?_;refine Sz0 ?_;refine Qb (fun hz=>?_) (fun hz=>?_)
 ·have h0:val d=0:=j9.1 (oW (n:=val d) (by omega));refine Sz0 ?_;refine Qa hP (mw (n:=1) (by omega)) rfl rfl rfl ?_;refine Sz0 ?_;refine dA ?_;refine Sz0 ?_;exact(by unfold rv;rw[Rs (.inl h0),rC];exact nu OM rfl)
 ·have h0:val d≠0:=fun h=>by rw[h,fC]at hz;exact hz rfl
  have ia:Nat.gcd (val a) (val d)≠0:=fun h=>h0 (Nat.gcd_eq_zero_iff.1 h).2;have hg:=fE (Kdd (val a) (KaY h0));have hq:=u5 (val a) (Nat.gcd (val a) (val d));refine Sz0 ?_;refine Qa hP (Gh ha hd bu vQ) rfl rfl rfl ?_;refine Sz0 ?_;refine Qa hP (Rc ha bu (by omega) ia) rfl rfl rfl ?_;refine Sz0 ?_;refine Qa hP (Rc hd vQ (by omega) ia) rfl rfl rfl ?_;refine Sz0 ?_;refine Qa hP (Cd (n:=n) (Qp (val a/Nat.gcd (val a) (val d))) (show nl _<_ by omega)) rfl rfl rfl ?_;rw[aiq];have hm:=y8 (z:=zv n a) h0;refine Sz0 ?_;refine dA ?_;refine Sz0 ?_;exact Qd (by unfold rv;rw[PV.rat,hm.1,hm.2,jF]) rfl
theorem uE{n:Bool}{a d:List Nat}{k:Nat}(hp:Raw k n a d)(hk:k<2^36):Qc Tryz.prog 97 [PV.rr n a d] (· =PV.rat (rv n a d)):=by obtain⟨ha,hd,sa,sd,k1⟩:=hp;refine Qf Qj Tryz.func97 rfl ail (by simp[K5]) fun C hP=>?_;simp only[K5,Zo,Zg,Zm,Zc,Zf,Zl,Zh,Zs,Zi,Zb,Zk,Zn,Zu,Zq,Zr,Zz];refine Sz0 ?_;refine Qa hP (Re (n:=n) ha hd (by omega) (by omega)) rfl rfl rfl ?_;refine Sz0 ?_;refine dA ?_;refine Sz0 ?_;exact Qd rfl rfl
theorem yW{z:Int}{D:Nat}(hz:nl z.natAbs<2^36)(hD:nl D<2^36):Qc Tryz.prog 72 [PV.zz z,PV.num D] (· =PV.rat (mkRat z D)):=by
 have:=Re (n:=decide (z<0)) (Qp z.natAbs) (Qp D) hz hD
 rwa[rv,lF,Q6]at this
theorem uH{x:Int}(h1: -9223372036854775808<=x)(h2:x<=9223372036854775807):Qc Tryz.prog 32 [.int .i64 x] (· =PV.rat (x:Rat)):=by have lU:nl x.natAbs<=4:=rA (by omega);refine Qf Qj Tryz.func32 rfl aim (by simp[J5]) fun C hP=>?_;simp only[J5,Zo,Zg,Zm,Zc,Zf,Zl,Zh,Zs,Zi,Zb,Zk,Zn,Zu,Zq,Zr,Zz];refine Sz0 ?_;refine Qa hP (ZI h1 h2) rfl rfl rfl ?_;refine Sz0 ?_;refine Qa hP (mw (n:=1) (by omega)) rfl rfl rfl ?_;refine Sz0 ?_;refine Qa hP (yW (z:=x) (D:=1) (by omega) (by rw[jG];omega)) rfl rfl rfl ?_;refine Sz0 ?_;refine dA ?_;refine Sz0 ?_;exact Qd (congrArg PV.rat (Rat.mkRat_one x)) rfl
theorem B6(d:List Nat):Qc Tryz.prog 102 [PV.nat d] (· =PV.zi false d):=by refine Qf Qj Tryz.func102 rfl aga (by simp[Ir]) fun C hP=>?_;simp only[Ir,Zo,Zg,Zm,Zc,Zf,Zl,Zh,Zs,Zi,Zb,Zk,Zn,Zu,Zq,Zr,Zz];refine Sz0 ?_;refine dA ?_;refine Sz0 ?_;exact Qd rfl rfl
theorem GG{x:Int}(hx:nl x.natAbs<2^42):Qc Tryz.prog 104 [PV.zz x] (· = .int .i64 (fk x)):=by
 have:=Xl (n:=decide (x<0)) (Qp x.natAbs) hx
 rwa[lF]at this
theorem Ce{n:Bool}{a d:List Nat}{k:Nat}(hp:Raw k n a d)(hk:k<2^36):Qc Tryz.prog 56 [PV.rr n a d] (· = .int .i64 (ga (rv n a d))):=by have hs:=hp.rs;unfold FW.rs at hs;refine Qf Qj Tryz.func56 rfl ain (by simp[Kq]) fun C hP=>?_;simp only[Kq,Zo,Zg,Zm,Zc,Zf,Zl,Zh,Zs,Zi,Zb,Zk,Zn,Zu,Zq,Zr,Zz];refine Sz0 ?_;refine Qa hP (uE hp hk) rfl rfl rfl ?_;refine Sz0 ?_;refine Qa hP (GG (x:=(rv n a d).num) (by omega)) rfl rfl rfl ?_;refine Sz0 ?_;exact Qd rfl rfl
theorem CM{x:Int}{d:Nat}(hx:nl x.natAbs<2^40)(hy:nl d<2^40):Qc Tryz.prog 101 [PV.zz x,PV.zi false (ah d)] (· =PV.zz (x*(d:Int))):=by
 have:=RF (n:=decide (x<0)) (m:=false) (Qp x.natAbs) (Qp d) hx hy
 rwa[lF,sW,Q6]at this
theorem abm{x y:Int}(hx:nl x.natAbs<2^40)(hy:nl y.natAbs<2^40):Qc Tryz.prog 100 [PV.zz x,PV.zz y] (· =PV.zz (x+y)):=by
 have:=X3 (n:=decide (x<0)) (m:=decide (y<0)) (Qp x.natAbs) (Qp y.natAbs) hx hy
 rwa[lF,lF]at this
theorem abn{x y:Int}(hx:nl x.natAbs<2^41)(hy:nl y.natAbs<2^41):Qc Tryz.prog 138 [PV.zz x,PV.zz y] (· = .int .i64 (cW x y)):=by
 have:=X2 (n:=decide (x<0)) (m:=decide (y<0)) (Qp x.natAbs) (Qp y.natAbs) hx hy
 rwa[lF,lF]at this
theorem RG{n m:Bool}{a d b c:List Nat}{k:Nat}(hp:Raw k n a d)(hq:Raw k m b c)(hk:k<2^34):Qc Tryz.prog 116 [PV.rr n a d,PV.rr m b c] (· =PV.rat (rv n a d*rv m b c)):=by obtain⟨ha,hd,sa,sd,k1⟩:=hp;obtain⟨hb,hc,sb,sc,k2⟩:=hq;have h1:=lA (zv n a) (zv m b);have h2:=gJ (val d) (val c);rw[jF,jF]at h1;have e1:=cj ha;have e2:=cj hd;have e3:=cj hb;have e4:=cj hc;refine Qf Qj Tryz.func116 rfl agb (by simp[IG]) fun C hP=>?_;simp only[IG,Zo,Zg,Zm,Zc,Zf,Zl,Zh,Zs,Zi,Zb,Zk,Zn,Zu,Zq,Zr,Zz];refine Sz0 ?_;refine Qa hP (RF (n:=n) (m:=m) ha hb (by omega) (by omega)) rfl rfl rfl ?_;refine Sz0 ?_;refine Qa hP (Gg hd hc (by omega) (by omega)) rfl rfl rfl ?_;refine Sz0 ?_;refine Qa hP (yW (z:=zv n a*zv m b) (D:=val d*val c) (by omega) (by omega)) rfl rfl rfl ?_;refine Sz0 ?_;refine dA ?_;refine Sz0 ?_;exact Qd (congrArg PV.rat (Rat.mkRat_mul_mkRat _ _ _ _).symm) rfl
theorem X4{n m:Bool}{a d b c:List Nat}{k:Nat}(hp:Raw k n a d)(hq:Raw k m b c)(hk:k<2^34):Qc Tryz.prog 81 [PV.rr n a d,PV.rr m b c] (· = .int .i64 (nJ (rv n a d) (rv m b c))):=by
 have hx:=hp.rs;have hy:=hq.rs;unfold FW.rs at hx hy;refine Qf Qj Tryz.func81 rfl aio (by simp[KN]) fun C hP=>?_;simp only[KN,Zo,Zg,Zm,Zc,Zf,Zl,Zh,Zs,Zi,Zb,Zk,Zn,Zu,Zq,Zr,Zz];refine Sz0 ?_;refine Qa hP (uE hp (by omega)) rfl rfl rfl ?_;refine Sz0 ?_;refine Qa hP (uE hq (by omega)) rfl rfl rfl ?_;generalize rv n a d=p at *
 generalize rv m b c=q at *
 have h1:=lA p.num (q.den:Int);have h2:=lA q.num (p.den:Int);rw[KaD]at h1 h2;refine Sz0 ?_;refine Qa hP (B6 (ah q.den)) rfl rfl rfl ?_;refine Sz0 ?_;refine Qa hP (CM (x:=p.num) (d:=q.den) (by omega) (by omega)) rfl rfl rfl ?_;refine Sz0 ?_;refine Qa hP (B6 (ah p.den)) rfl rfl rfl ?_;refine Sz0 ?_;refine Qa hP (CM (x:=q.num) (d:=p.den) (by omega) (by omega)) rfl rfl rfl ?_;refine Sz0 ?_;refine Qa hP (abn (x:=p.num*(q.den:Int)) (y:=q.num*(p.den:Int)) (by omega) (by omega)) rfl rfl rfl ?_;refine Sz0 ?_;exact Qd (congrArg (PV.int .i64) (by rw[<-ON p.den_nz q.den_nz,Kc4,Kc4])) rfl
theorem RH{n m:Bool}{a d b c:List Nat}{k:Nat}(hp:Raw k n a d)(hq:Raw k m b c)(hk:k<2^34):Qc Tryz.prog 55 [PV.rr n a d,PV.rr m b c] (· =PV.rat (rv n a d+rv m b c)):=by
 have hx:=hp.rs;have hy:=hq.rs;unfold FW.rs at hx hy;refine Qf Qj Tryz.func55 rfl aip (by simp[Kp]) fun C hP=>?_;simp only[Kp,Zo,Zg,Zm,Zc,Zf,Zl,Zh,Zs,Zi,Zb,Zk,Zn,Zu,Zq,Zr,Zz];refine Sz0 ?_;refine Qa hP (uE hp (by omega)) rfl rfl rfl ?_;refine Sz0 ?_;refine Qa hP (uE hq (by omega)) rfl rfl rfl ?_;generalize rv n a d=p at *
 generalize rv m b c=q at *
 have h1:=lA p.num (q.den:Int);have h2:=lA q.num (p.den:Int);have h3:=yI (p.num*(q.den:Int)) (q.num*(p.den:Int));have h4:=gJ p.den q.den;rw[KaD]at h1 h2;refine Sz0 ?_;refine Qa hP (B6 (ah q.den)) rfl rfl rfl ?_;refine Sz0 ?_;refine Qa hP (CM (x:=p.num) (d:=q.den) (by omega) (by omega)) rfl rfl rfl ?_;refine Sz0 ?_;refine Qa hP (B6 (ah p.den)) rfl rfl rfl ?_;refine Sz0 ?_;refine Qa hP (CM (x:=q.num) (d:=p.den) (by omega) (by omega)) rfl rfl rfl ?_;refine Sz0 ?_;refine Qa hP (abm (x:=p.num*(q.den:Int)) (y:=q.num*(p.den:Int)) (by omega) (by omega)) rfl rfl rfl ?_;refine Sz0 ?_;refine Qa hP (yV (x:=p.den) (y:=q.den) (by omega) (by omega)) rfl rfl rfl ?_;refine Sz0 ?_;refine Qa hP (yW (z:=p.num*(q.den:Int)+q.num*(p.den:Int)) (D:=p.den*q.den) (by omega) (by omega)) rfl rfl rfl ?_;refine Sz0 ?_;refine dA ?_;refine Sz0 ?_;exact Qd (congrArg PV.rat (by rw[<-Rat.mkRat_add_mkRat _ _ p.den_nz q.den_nz,Kc4,Kc4])) rfl
theorem W6{n:Bool}{a d:List Nat}{k:Nat}(hp:Raw k n a d)(hk:k<2^36):Qc Tryz.prog 82 [PV.rr n a d] (· = .bool (o8 n a d)):=by
 obtain⟨ha,hd,sa,sd,k1⟩:=hp;have nV:(ah (Nat.gcd (val a) (val d))).length<2^43:=by
  by_cases h0:val d=0
  ·rw[h0,Kc1];have h4:=cj ha;unfold nl at h4;omega
  ·have h3:=fE (Kdd (val a) (KaY h0));have h4:=cj hd;unfold nl at h3 h4;omega
 refine Qf Qj Tryz.func82 rfl aiS (by simp[KO]) fun C hP=>?_;simp only[KO,Zo,Zg,Zm,Zc,Zf,Zl,Zh,Zs,Zi,Zb,Zk,Zn,Zu,Zq,Zr,Zz];refine Sz0 ?_;refine Qa hP (W5 ha (by omega)) rfl rfl rfl ?_;unfold o8;refine Sz0 ?_;cases hio:nC n a
 ·refine Sz0 ?_;exact Qd (by simp) rfl
 rw[KbY];refine Sz0 ?_;refine Qa hP (QN hd (by omega)) rfl rfl rfl ?_;refine Sz0 ?_;refine wE (fun hv=>?_) (fun hv=>?_)
 ·refine Sz0 ?_;refine Qa hP (Gh ha hd (by omega) (by omega)) rfl rfl rfl ?_;refine Sz0 ?_;refine Qa hP (mw (n:=1) (by omega)) rfl rfl rfl ?_;refine Sz0 ?_;refine Qa hP (Xk nV (by rw[rC];decide)) rfl rfl rfl ?_;rw[rC,decide_eq_decide.2 (RC (Nat.gcd (val a) (val d)))];refine Sz0 ?_;refine fX (fun hg=>?_) (fun hg=>?_)
  ·refine Sz0 ?_;exact Qd (congrArg PV.bool (by cases d<;>simp_all)) rfl
  ·refine Sz0 ?_;exact Qd (congrArg PV.bool (by simp[hg])) rfl
 ·refine Sz0 ?_;exact Qd (congrArg PV.bool (by simp_all)) rfl
theorem F5(x:Int):Qc Tryz.prog 98 [.int .i64 x] (· = .int .i64 (fk x)):=by
 refine Qf Qj Tryz.func98 rfl ahO (by simp[K6]) fun C hP=>?_;simp only[K6,Zo,Zg,Zm,Zc,Zf,Zl,Zh,Zs,Zi,Zb,Zk,Zn,Zu,Zq,Zr,Zz];refine Sz0 ?_;refine Qb (fun h=>?_) (fun h=>?_)
 ·refine Sz0 ?_;exact Qd (by rw[fk,if_pos h]) rfl
 refine Sz0 ?_;refine Qb (fun h2=>?_) (fun h2=>?_)
 ·refine Sz0 ?_;exact Qd (by rw[fk,if_neg h,if_pos h2]) rfl
 ·refine Sz0 ?_;exact Qd (by rw[fk,if_neg h,if_neg h2]) rfl
theorem RI{a:List Int}{v:Int}(hl:a.length<2^42):Qc Tryz.prog 99 [PV.mono a,.int .i64 v] (· = .int .i64 (if v<0 then 0 else eN a v.toNat)):=by
 refine Qf Qj Tryz.func99 rfl ahM (by simp[K7]) fun C hP=>?_;simp only[K7,Zo,Zg,Zm,Zc,Zf,Zl,Zh,Zs,Zi,Zb,Zk,Zn,Zu,Zq,Zr,Zz];refine Sz0 ?_;refine dF (fun h1=>?_) (fun h1=>?_)
 ·refine Sz0 ?_;exact Qd (by rw[if_pos h1]) rfl
 ·obtain⟨n,rfl⟩:∃n:Nat,v=n:=⟨v.toNat,by omega⟩
  rw[if_neg h1];refine Sz0 ?_;refine Qb (fun h2=>?_) (fun h2=>?_)
  ·refine Sz0 ?_;exact Qd (by rw[fq (by omega)]) rfl
  ·have hn:n<a.length:=by omega
   refine Sz0 ?_;exact Qd (by rw[e9 hn]) rfl
theorem nd{a:List Int}{i:Nat}(hl:a.length<2^42):Qc Tryz.prog 99 [PV.mono a,.int .i64 i] (· = .int .i64 (eN a i)):=by
 have:=RI (v:=i) hl
 rwa[if_neg (by omega),KbM]at this
theorem yK{a:List Int}(hl:a.length<=1048576)(hb:∀x∈a,0<=x/\x<=1099511627776):Qc Tryz.prog 51 [PV.mono a] (· = .int .i64 (ff a)):=by
 refine Qf Qj Tryz.func51 rfl ahL (by simp[Kl]) fun C hP=>?_;simp only[Kl,Zo,Zg,Zm,Zc,Zf,Zl,Zh,Zs,Zi,Zb,Zk,Zn,Zu,Zq,Zr,Zz];refine Sz0 ?_;refine Qz (by repeat (first|exact Qs|exact Ql|exact Qm|exact Qn|exact Qo|apply Qk|apply Qr|apply Qx|apply Q4|apply Q5|apply Qi|apply Q2)) [(3,16)] [] (fun k J hp=>∃(i:Nat)(s:Int),k=a.length-i/\i<=a.length/\0<=s/\s<=1099511627776*i/\s+(a.drop i).sum=ff a/\J 4= .int .i64 (i:Nat)/\J 3= .int .i64 s/\hp=aE) a.length ?_ ?_
 ·refine⟨0,0,rfl,by omega,by omega,by omega,by simp[ff],?_⟩;refine Sz0 ?_;simp
 rintro _ J _ ⟨i,s,rfl,hi,Bc,gj,pP,h4,h3,rfl⟩;refine Sz2 h4 h3 ?_;refine Qb (fun hg=>?_) (fun hg=>?_)
 ·have aA:i<a.length:=by omega
  have hx:=hb _ (Kah aA);rw[Kaz aA,Kdh]at pP;generalize dO:a[i]=x at *
  refine Sz3 h4 h3 dO ?_;refine Qh (a.length-(i+1)) (by omega) ⟨i+1,s+x,rfl,by omega,by omega,by push_cast;omega,by omega,?_⟩;exact Tz0
 ·rw[Kal (by omega),List.sum_nil,Int.add_zero]at pP;refine Sz1 h3 ?_;exact Qd (by rw[pP]) rfl
theorem X5{l:List Int}(hl:l.length<2^42):Qc Tryz.prog 183 [PV.mono l] (· =PV.mono (gL l)):=by
 refine Qf Qj Tryz.func183 rfl afv (by simp[JN]) fun C hP=>?_;simp only[JN,Zo,Zg,Zm,Zc,Zf,Zl,Zh,Zs,Zi,Zb,Zk,Zn,Zu,Zq,Zr,Zz];refine Sz0 ?_;refine Qz (by repeat (first|exact Qs|exact Ql|exact Qm|exact Qn|exact Qo|apply Qk|apply Qr|apply Qx|apply Q4|apply Q5|apply Qi|apply Q2)) [(3,3),(7,18)] [] (fun m J hp=>m<=l.length/\kp l m=gL l/\J 3= .int .i64 m/\hp=aE) l.length ?_ ?_
 ·refine⟨Kac _,rfl,?_⟩;exact Tz0
 rintro n J _ ⟨hn,hc,h3,rfl⟩;refine Sz1 h3 ?_;refine fX (fun hg=>?_) (fun hg=>?_)
 ·obtain _|n:=n
  ·omega
  have e:((n+1:Nat):Int)-1=n:=by omega
  simp only[kp]at hc;simp+decide (disch:=try exact D2 h3 e) only[go_sem,h3,e];refine Qb (fun hz=>?_) (fun hz=>?_)
  ·rw[if_pos (by simp[hz,show n<l.length by omega])]at hc;refine Sz2 h3 e ?_;refine Qh n (by omega) ⟨by omega,hc,?_⟩;exact Tz0
  ·rw[if_neg (by simpa[show n<l.length by omega]using hz)]at hc;have ar:(l.take (n+1)).length<2^42:=by rw[KaF];omega
   refine kQ h3 e ?_;exact Qd (by rw[Kae (by simp),hc]) rfl
 ·obtain rfl:n=0:=by omega
  simp+decide (disch:=first|omega|rfl|(simp+decide only[go_sem,h3,Kb5,Kbu,Kbh]<;>rfl)|fail) only[go_sem,h3,Kb5,Kbu,Kbh];rw[Cw (ys:=[]) rfl (by omega) (by simp) (by simp)];refine eC ?_;exact Qd (by rw[<-hc];rfl) rfl
theorem QS{a:List Int}(hl:a.length<2^42):Qc Tryz.prog 83 [PV.mono a] (· = .bool (fo a)):=by
 refine Qf Qj Tryz.func83 rfl ahK (by simp[KP]) fun C hP=>?_;simp only[KP,Zo,Zg,Zm,Zc,Zf,Zl,Zh,Zs,Zi,Zb,Zk,Zn,Zu,Zq,Zr,Zz];refine Sz0 ?_;have bad:(64<a.length∨a.getLast? =some 0∨∃x∈a,x<0∨1048576<x)->fo a=false:=fun h=>by
  cases hb:fo a with
  |false=>rfl
  |true=>
   have:=MB.uk hb;simp only[fo,Kat,decide_eq_true_eq]at hb;rcases h with h|h|⟨x,hx,h⟩
   ·omega
   ·exact absurd h hb.2.1
   ·have h5:=this.lo x hx;have h6:=this.hi x hx;omega
 refine dF (fun h1=>?_) (fun h1=>?_)
 ·refine Sz0 ?_;exact Qd (by rw[bad (.inl (by omega))]) rfl
 refine Sz0 ?_;have fin:a.length<=64->a.getLast? ≠some 0->(∀x∈a,0<=x/\x<=1048576)->fo a=true:=fun h1 h2 h3=>by simp only[fo,Kat,decide_eq_true_eq,Kax];exact⟨h1,h2,h3⟩
 refine fX (fun h2=>?_) (fun h2=>?_)
 ·obtain⟨k,hk⟩:∃k,a.length=k+1:=⟨a.length-1,by omega⟩
  have jj:=C1 hk;have e:((k+1:Nat):Int)-1=k:=by omega
  generalize hy:a[k]'(by omega)=y at *
  refine Sz3 hk e hy ?_;refine Qb (fun h3=>?_) (fun h3=>?_)
  ·refine Sz0 ?_;exact Qd (by rw[bad (.inr (.inl (by rw[jj,h3])))]) rfl
  have jj:a.getLast? ≠some 0:=by rw[jj];simpa using h3
  rw[<-hk]at *
  refine Sz0 ?_;refine Qz (by repeat (first|exact Qs|exact Ql|exact Qm|exact Qn|exact Qo|apply Qk|apply Qr|apply Qx|apply Q4|apply Q5|apply Qi|apply Q2)) [(2,3),(21,38)] [] (fun k J hp=>∃i,k=a.length-i/\i<=a.length/\(∀x∈a.take i,0<=x/\x<=1048576)/\J 3= .int .i64 i/\hp=aE) a.length ?_ ?_
  ·refine⟨0,rfl,by omega,by simp,?_⟩;refine Sz0 ?_;rfl
  rintro _ J _ ⟨i,rfl,hi,cu,hj,rfl⟩;refine Sz1 hj ?_;refine Qb (fun hg=>?_) (fun hg=>?_)
  ·have aA:i<a.length:=by omega
   have eo:=Kah aA;have bn:∀x∈a.take (i+1),x∈a.take i∨x=a[i]:=fun x hx=>by
    rw[Kag aA]at hx;rcases KaU.1 hx with h|h
    ·exact .inl h
    ·exact .inr (KaP.1 h)
   generalize hx:a[i]=x at *
   refine Sz2 hj hx ?_;refine dF (fun h5=>?_) (fun h5=>?_)
   ·refine Sz0 ?_;exact Qd (by rw[bad (.inr (.inr ⟨x,eo,.inl h5⟩))]) rfl
   ·refine Sz2 hj hx ?_;refine Qb (fun h6=>?_) (fun h6=>?_)
    ·refine Sz0 ?_;exact Qd (by rw[bad (.inr (.inr ⟨x,eo,.inr h6⟩))]) rfl
    ·refine Sz1 hj ?_;refine Qh (a.length-(i+1)) (by omega) ⟨i+1,rfl,by omega,fun y hy=>?_,?_⟩
     ·rcases bn y hy with h|rfl
      ·exact cu y h
      ·omega
     ·exact Tz0
  ·rw[Kae (by omega)]at cu;refine Sz0 ?_;exact Qd (by rw[fin (by omega) jj cu]) rfl
 ·have EJ:a=[]:=Kar.1 (by omega);have jj:a.getLast? ≠some 0:=by rw[EJ];simp
  refine Sz0 ?_;refine Qz (by repeat (first|exact Qs|exact Ql|exact Qm|exact Qn|exact Qo|apply Qk|apply Qr|apply Qx|apply Q4|apply Q5|apply Qi|apply Q2)) [(2,3),(21,38)] [] (fun k J hp=>∃i,k=a.length-i/\i<=a.length/\(∀x∈a.take i,0<=x/\x<=1048576)/\J 3= .int .i64 i/\hp=aE) a.length ?_ ?_
  ·refine⟨0,rfl,by omega,by simp,?_⟩;refine Sz0 ?_;rfl
  rintro _ J _ ⟨i,rfl,hi,cu,hj,rfl⟩;refine Sz1 hj ?_;refine Qb (fun hg=>?_) (fun hg=>?_)
  ·have aA:i<a.length:=by omega
   have eo:=Kah aA;have bn:∀x∈a.take (i+1),x∈a.take i∨x=a[i]:=fun x hx=>by
    rw[Kag aA]at hx;rcases KaU.1 hx with h|h
    ·exact .inl h
    ·exact .inr (KaP.1 h)
   generalize hx:a[i]=x at *
   refine Sz2 hj hx ?_;refine dF (fun h5=>?_) (fun h5=>?_)
   ·refine Sz0 ?_;exact Qd (by rw[bad (.inr (.inr ⟨x,eo,.inl h5⟩))]) rfl
   ·refine Sz2 hj hx ?_;refine Qb (fun h6=>?_) (fun h6=>?_)
    ·refine Sz0 ?_;exact Qd (by rw[bad (.inr (.inr ⟨x,eo,.inr h6⟩))]) rfl
    ·refine Sz1 hj ?_;refine Qh (a.length-(i+1)) (by omega) ⟨i+1,rfl,by omega,fun y hy=>?_,?_⟩
     ·rcases bn y hy with h|rfl
      ·exact cu y h
      ·omega
     ·exact Tz0
  ·rw[Kae (by omega)]at cu;refine Sz0 ?_;exact Qd (by rw[fin (by omega) jj cu]) rfl
theorem Rf{a:List Int}(hl:a.length<2^42):Qc Tryz.prog 181 [PV.mono a] (· =PV.mono (if fo (gL a)then gL a else [])):=by
 have ht:=sI a;refine Qf Qj Tryz.func181 rfl afw (by simp[JL]) fun C hP=>?_;simp only[JL,Zo,Zg,Zm,Zc,Zf,Zl,Zh,Zs,Zi,Zb,Zk,Zn,Zu,Zq,Zr,Zz];refine Sz0 ?_;refine Qa hP (X5 hl) rfl rfl rfl ?_;refine Sz0 ?_;refine Qa hP (QS (by omega)) rfl rfl rfl ?_;refine Sz0 ?_;cases cA:fo (gL a)
 ·refine Sz1 @Bool.not_false ?_;exact nu (Tq (by simp)) rfl
 ·have:(gL a).length<=64:=(MB.uk cA).len;refine tA @Bool.not_true ?_;exact Qd (by simp[Kae]) rfl
theorem X6{k:Nat}{a b:List Int}(ha:MB k a)(hb:MB k b)(hk:k<=1099511627776):Qc Tryz.prog 117 [PV.mono a,PV.mono b] (· =PV.mono (kq (· + ·) a b)):=by
 have h1:=ha.len;have h2:=hb.len;have hz:=oU (· + ·) a b;refine Qf Qj Tryz.func117 rfl afx (by simp[IH]) fun C hP=>?_;simp only[IH,Zo,Zg,Zm,Zc,Zf,Zl,Zh,Zs,Zi,Zb,Zk,Zn,Zu,Zq,Zr,Zz];refine Sz0 ?_;refine kM 5 900 1 3 (by omega) Tz0 ?_;refine Qz (by repeat (first|exact Qs|exact Ql|exact Qm|exact Qn|exact Qo|apply Qk|apply Qr|apply Qx|apply Q4|apply Q5|apply Qi|apply Q2)) [(5,28)] [27,28,900] (fun m J hp=>∃(i:Nat)(out:List Int),m=max a.length b.length-i/\i<=max a.length b.length/\out=(kq (· + ·) a b).take i/\J 5= .ms 900 out.length/\J 6= .int .i64 i/\hp 900=some ⟨1,3,iI out,false⟩) (max a.length b.length) ?_ ?_
 ·refine⟨0,[],rfl,by omega,by simp,?_⟩;refine Sz0 ?_;simp
 rintro _ J h ⟨i,out,rfl,hi,iS,h5,h6,hh⟩;have fy:out.length=i:=by rw[iS,KaF,hz];omega
 refine Sz2 h5 h6 ?_;refine dF (fun hg=>?_) (fun hg=>?_)
 ·have ar:i<max a.length b.length:=by omega
  have bn:=GY (g:=(· + ·)) ar;have ea:=ha.eN i;have eb:=hb.eN i;refine Sz2 h5 h6 ?_;refine Qa hP (nd (a:=a) (i:=i) (by omega)) rfl rfl rfl ?_;refine Sz2 h5 h6 ?_;refine Qa hP (nd (a:=b) (i:=i) (by omega)) rfl rfl rfl ?_;refine Sz2 h5 h6 ?_;rw[Q9 (f:=fun(x:Int)=>.int .i64 x) (y:=eN a i+eN b i) (xs:=out) (ty':=3) (fz:=false) (Tz1 hh) cE (by omega) rfl (by omega) (by omega)];refine Sz2 h5 h6 ?_;refine Qh (max a.length b.length-(i+1)) (by omega) ⟨i+1,out++[eN a i+eN b i],rfl,by omega,by rw[bn,iS],?_⟩;refine Sz0 ?_;simp
 refine Sz2 h5 h6 ?_;refine Qb (fun fI=>?_) (fun fI=>?_)
 ·have ar:i<max a.length b.length:=by omega
  have bn:=GY (g:=(· + ·)) ar;have ea:=ha.eN i;have eb:=hb.eN i;refine Sz2 h5 h6 ?_;refine Qa hP (nd (a:=a) (i:=i) (by omega)) rfl rfl rfl ?_;refine Sz2 h5 h6 ?_;refine Qa hP (nd (a:=b) (i:=i) (by omega)) rfl rfl rfl ?_;refine Sz2 h5 h6 ?_;rw[Q9 (f:=fun(x:Int)=>.int .i64 x) (y:=eN a i+eN b i) (xs:=out) (ty':=3) (fz:=false) (Tz1 hh) cE (by omega) rfl (by omega) (by omega)];refine Sz2 h5 h6 ?_;refine Qh (max a.length b.length-(i+1)) (by omega) ⟨i+1,out++[eN a i+eN b i],rfl,by omega,by rw[bn,iS],?_⟩;refine Sz0 ?_;simp
 obtain rfl:i=max a.length b.length:=by omega
 rw[Kae (by omega)]at iS;subst iS;refine kQ h5 hh ?_;exact Qd (by rw[Kae (by simp)]) rfl
theorem Hn(x y:Int):fk (x-y)=cW x y:=by unfold fk cW;(repeat' split)<;>omega
theorem X7{k:Nat}{a b:List Int}{o:Int}(ha:MB k a)(hb:MB k b)(hk:k<=1099511627776):Qc Tryz.prog 54 [PV.mono a,PV.mono b,.int .i64 o] (· = .int .i64 (jM o a b)):=by
 have h1:=ha.len;have h2:=hb.len;have gA:∀x∈a,0<=x/\x<=1099511627776:=fun x hx=>by have:=ha.lo x hx;have:=ha.hi x hx;omega
 have iP:∀x∈b,0<=x/\x<=1099511627776:=fun x hx=>by have:=hb.lo x hx;have:=hb.hi x hx;omega
 have da:=HX ha;have db:=HX hb;refine Qf Qj Tryz.func54 rfl ahN (by simp[Ko]) fun C hP=>?_;simp only[Ko,Zo,Zg,Zm,Zc,Zf,Zl,Zh,Zs,Zi,Zb,Zk,Zn,Zu,Zq,Zr,Zz];refine Sz0 ?_;refine fX (fun ho=>?_) (fun ho=>?_)
 ·refine Sz0 ?_;refine Qa hP (yK (by omega) gA) rfl rfl rfl ?_;refine Sz0 ?_;refine Qa hP (yK (by omega) iP) rfl rfl rfl ?_;refine Sz0 ?_;refine Qb (fun hd=>?_) (fun hd=>?_)
  ·have jS:jM o a b=cW (ff a) (ff b):=by unfold jM;rw[if_pos ⟨ho,hd⟩]
   refine Sz0 ?_;refine Qa hP (yK (by omega) gA) rfl rfl rfl ?_;refine Sz0 ?_;refine Qa hP (yK (by omega) iP) rfl rfl rfl ?_;refine Sz0 ?_;refine Qa hP (F5 _) rfl rfl rfl ?_;refine Sz0 ?_;exact Qd (by rw[jS,Hn]) rfl
  have jS:jM o a b=aR a b:=by unfold jM;rw[if_neg (fun h=>hd h.2)]
  refine Sz0 ?_;refine Qz (by repeat (first|exact Qs|exact Ql|exact Qm|exact Qn|exact Qo|apply Qk|apply Qr|apply Qx|apply Q4|apply Q5|apply Qi|apply Q2)) [(6,7),(29,47)] [] (fun n J hp=>n<=max a.length b.length/\dp a b n=aR a b/\J 7= .int .i64 ((n:Int)-1)/\hp=aE) (max a.length b.length) ?_ ?_
  ·refine⟨by omega,rfl,?_⟩;exact Tz0
  rintro n J _ ⟨hn,hc,h7,rfl⟩;refine Sz1 h7 ?_;refine Qb (fun hg=>?_) (fun hg=>?_)
  ·obtain _|n:=n
   ·omega
   have e:((n+1:Nat):Int)-1=n:=by omega
   have ea:=ha.eN n;have eb:=hb.eN n;rw[dp]at hc;refine Sz2 h7 e ?_;refine Qa hP (nd (by omega)) rfl rfl rfl ?_;refine Sz2 h7 e ?_;refine Qa hP (nd (by omega)) rfl rfl rfl ?_;refine Sz2 h7 e ?_;refine Qb (fun h4=>?_) (fun h4=>?_)
   ·rw[if_neg h4]at hc;refine Sz2 h7 e ?_;refine Qa hP (nd (by omega)) rfl rfl rfl ?_;refine Sz2 h7 e ?_;refine Qa hP (nd (by omega)) rfl rfl rfl ?_;refine Sz2 h7 e ?_;refine Qa hP (F5 _) rfl rfl rfl ?_;refine Sz2 h7 e ?_;exact Qd (by rw[jS,<-hc,Hn]) rfl
   ·rw[if_pos (by omega)]at hc;refine Sz2 h7 e ?_;refine Qh n (by omega) ⟨by omega,hc,?_⟩;exact Tz0
  ·obtain rfl:n=0:=by omega
   refine Sz0 ?_;exact Qd (by rw[jS,<-hc];rfl) rfl
 ·have jS:jM o a b=aR a b:=by unfold jM;rw[if_neg (fun h=>ho h.1)]
  refine Sz0 ?_;refine Qz (by repeat (first|exact Qs|exact Ql|exact Qm|exact Qn|exact Qo|apply Qk|apply Qr|apply Qx|apply Q4|apply Q5|apply Qi|apply Q2)) [(6,7),(29,47)] [] (fun n J hp=>n<=max a.length b.length/\dp a b n=aR a b/\J 7= .int .i64 ((n:Int)-1)/\hp=aE) (max a.length b.length) ?_ ?_
  ·refine⟨by omega,rfl,?_⟩;exact Tz0
  rintro n J _ ⟨hn,hc,h7,rfl⟩;refine Sz1 h7 ?_;refine Qb (fun hg=>?_) (fun hg=>?_)
  ·obtain _|n:=n
   ·omega
   have e:((n+1:Nat):Int)-1=n:=by omega
   have ea:=ha.eN n;have eb:=hb.eN n;rw[dp]at hc;refine Sz2 h7 e ?_;refine Qa hP (nd (by omega)) rfl rfl rfl ?_;refine Sz2 h7 e ?_;refine Qa hP (nd (by omega)) rfl rfl rfl ?_;refine Sz2 h7 e ?_;refine Qb (fun h4=>?_) (fun h4=>?_)
   ·rw[if_neg h4]at hc;refine Sz2 h7 e ?_;refine Qa hP (nd (by omega)) rfl rfl rfl ?_;refine Sz2 h7 e ?_;refine Qa hP (nd (by omega)) rfl rfl rfl ?_;refine Sz2 h7 e ?_;refine Qa hP (F5 _) rfl rfl rfl ?_;refine Sz2 h7 e ?_;exact Qd (by rw[jS,<-hc,Hn]) rfl
   ·rw[if_pos (by omega)]at hc;refine Sz2 h7 e ?_;refine Qh n (by omega) ⟨by omega,hc,?_⟩;exact Tz0
  ·obtain rfl:n=0:=by omega
   refine Sz0 ?_;exact Qd (by rw[jS,<-hc];rfl) rfl
theorem adi{a b:Rat}{k:Nat}(ha:rs a<=k)(hb:rs b<=k)(hk:k<2^34):Qc Tryz.prog 55 [PV.rat a,PV.rat b] (· =PV.rat (a+b)):=by
 have:=RH (ir ha) (ir hb) hk
 rwa[gK,gK]at this
theorem NM{a b:Rat}{k:Nat}(ha:rs a<=k)(hb:rs b<=k)(hk:k<2^34):Qc Tryz.prog 116 [PV.rat a,PV.rat b] (· =PV.rat (a*b)):=by
 have:=RG (ir ha) (ir hb) hk
 rwa[gK,gK]at this
theorem adj{a b:Rat}{k:Nat}(ha:rs a<=k)(hb:rs b<=k)(hk:k<2^34):Qc Tryz.prog 81 [PV.rat a,PV.rat b] (· = .int .i64 (nJ a b)):=by
 have:=X4 (ir ha) (ir hb) hk
 rwa[gK,gK]at this
theorem G0{a:Rat}(ha:rs a<2^36):Qc Tryz.prog 56 [PV.rat a] (· = .int .i64 (ga a)):=by
 have:=Ce (ir (Kac (rs a))) ha
 rwa[gK]at this
theorem zZ{k:Nat}{a b:List Int}(ha:MB k a)(hb:MB k b)(hk:k<=1099511627776):Qc Tryz.prog 54 [PV.mono a,PV.mono b,.int .i64 0] (· = .int .i64 (aR a b)):=by
 have:=X7 (o:=0) ha hb hk
 rwa[DE]at this
theorem RJ{p q:List Tm}{K E:Nat}(hp:PB K E p)(hq:PB K E q)(hK:K<=2^33)(hE:E<=2^38)(bV:p.length<=2^36)(ie:q.length<=2^36):
  Qc Tryz.prog 38 [PV.aj p,PV.aj q] (· = .int .i64 (gO p q)):=by
 refine Qf Qj Tryz.func38 rfl ahQ (by simp[J9]) fun C hP=>?_;simp only[J9,Zo,Zg,Zm,Zc,Zf,Zl,Zh,Zs,Zi,Zb,Zk,Zn,Zu,Zq,Zr,Zz];refine Sz0 ?_;refine Qz (by repeat (first|exact Qs|exact Ql|exact Qm|exact Qn|exact Qo|apply Qk|apply Qr|apply Qx|apply Q4|apply Q5|apply Qi|apply Q2)) [(4,47)] [] (fun n J hp=>∃i,n=p.length-i/\i<=p.length/\i<=q.length/\gO (p.drop i) (q.drop i)=gO p q/\J 5= .int .i64 (i:Nat)) p.length ?_ ?_
 ·refine⟨0,rfl,by omega,by omega,rfl,?_⟩;refine Sz0 ?_;rfl
 rintro _ J h ⟨i,rfl,hi,lT,fV,h5⟩;refine Sz1 h5 ?_;refine fX (fun hg=>?_) (fun hg=>?_)
 ·have aA:i<p.length:=by omega
  refine Sz1 h5 ?_;refine Qb (fun hk=>?_) (fun hk=>?_)
  ·have dT:i<q.length:=by omega
   have ba:=hp.get aA;have ob:=hq.get dT;have c1:=ba.c;have c2:=ob.c;rw[Ts aA dT]at fV;generalize hx:p[i]=x at *
   generalize hy:q[i]=y at *
   refine Sz3 h5 hx hy ?_;refine Qa hP (zZ ba.m ob.m (by omega)) rfl rfl rfl ?_;refine Sz3 h5 hx hy ?_;refine Qb (fun hc=>?_) (fun hc=>?_)
   ·refine Sz0 ?_;exact Qd (by rw[<-fV,if_pos (by rw[mL,if_pos hc];exact hc),mL,if_pos hc]) rfl
   ·refine Sz3 h5 hx hy ?_;refine Qa hP (adj (a:=x.1) (b:=y.1) (k:=2^33) (by omega) (by omega) (by omega)) rfl rfl rfl ?_;refine Sz3 h5 hx hy ?_;refine Qb (fun iM=>?_) (fun iM=>?_)
    ·refine Sz0 ?_;exact Qd (by rw[<-fV,if_pos (by rw[mL,if_neg hc];exact iM),mL,if_neg hc]) rfl
    ·rw[if_neg (by rw[mL,if_neg hc];exact iM)]at fV;refine Sz1 h5 ?_;refine Qh (p.length-(i+1)) (by omega) ⟨i+1,rfl,by omega,by omega,fV,?_⟩;exact Tz0
  refine Sz0 ?_;refine Qb (fun hk=>?_) (fun hk=>?_)
  ·refine Sz0 ?_;exact Qd (by rw[<-fV,Kal (show p.length<=i by omega),zy,if_neg (by rw[Ka5];omega)]) rfl
  ·refine Sz0 ?_;refine Qb (fun mV=>?_) (fun mV=>?_)
   ·refine Sz0 ?_;refine Qd ?_ rfl;rw[<-fV,Kaz (show i<p.length by omega),Kal (show q.length<=i by omega),gO]
   ·refine Sz0 ?_;exact Qd (by rw[<-fV,Kal (show p.length<=i by omega),zy,if_pos (by rw[Ka5];omega)]) rfl
 ·have aA:i=p.length:=by omega
  refine Sz0 ?_;refine Qb (fun hk=>?_) (fun hk=>?_)
  ·refine Sz0 ?_;exact Qd (by rw[<-fV,Kal (show p.length<=i by omega),zy,if_neg (by rw[Ka5];omega)]) rfl
  ·refine Sz0 ?_;refine Qb (fun mV=>?_) (fun mV=>?_)
   ·refine Sz0 ?_;refine Qd ?_ rfl;rw[<-fV,Kaz (show i<p.length by omega),Kal (show q.length<=i by omega),gO]
   ·refine Sz0 ?_;exact Qd (by rw[<-fV,Kal (show p.length<=i by omega),zy,if_pos (by rw[Ka5];omega)]) rfl
theorem B7{p q:List Tm}{K E:Nat}(hp:PB K E p)(hq:PB K E q)(hK:K<=2^33)(hE:E<=2^38)(bV:p.length<=2^36)(ie:q.length<=2^36):Qc Tryz.prog 11 [PV.aj p,PV.aj q] (· = .bool (decide (p=q))):=by refine Qf Qj Tryz.func11 rfl ahT (by simp[IA]) fun C hP=>?_;simp only[IA,Zo,Zg,Zm,Zc,Zf,Zl,Zh,Zs,Zi,Zb,Zk,Zn,Zu,Zq,Zr,Zz];refine Sz0 ?_;refine Qa hP (RJ hp hq hK hE bV ie) rfl rfl rfl ?_;refine Sz0 ?_;exact Qd (congrArg PV.bool (decide_eq_decide.2 (OS hp.last hq.last))) rfl
theorem Cj{p q:List Tm}{K E:Nat}(hp:PB K E p)(hq:PB K E q)(hK:K<=2^32)(hE:E<=2^38)(bV:p.length<=2^36)(ie:q.length<=2^36):
  Qc Tryz.prog 22 [PV.aj p,PV.aj q] (· =PV.aj (Q7 p q)):=by
 refine Qf Qj Tryz.func22 rfl ahP (by simp[JR]) fun C hP=>?_;simp only[JR,Zo,Zg,Zm,Zc,Zf,Zl,Zh,Zs,Zi,Zb,Zk,Zn,Zu,Zq,Zr,Zz];refine Sz0 ?_;refine kM 5 900 4 54 (by omega) Tz0 ?_;refine Qz (by repeat (first|exact Qs|exact Ql|exact Qm|exact Qn|exact Qo|apply Qk|apply Qr|apply Qx|apply Q4|apply Q5|apply Qi|apply Q2)) [(5,90)] [9,61,62,75,76,87,88,900] (fun n J hp=>∃i k out,n=(p.length-i)+(q.length-k)/\i<=p.length/\k<=q.length/\out.length<=i+k/\out++Q7 (p.drop i) (q.drop k)=Q7 p q/\
  J 5= .ms 900 out.length/\J 6= .int .i64 (i:Nat)/\J 7= .int .i64 (k:Nat)/\hp 900=some ⟨4,54,out.map PV.term,false⟩) (p.length+q.length) ?_ ?_
 ·refine⟨0,0,[],by omega,by omega,by omega,by simp,rfl,?_⟩;refine Sz0 ?_;simp
 rintro _ J h ⟨i,k,out,rfl,hi,hk,fy,dX,h5,h6,h7,hh⟩;refine Sz3 h5 h6 h7 ?_;refine dF (fun hg=>?_) (fun hg=>?_)
 ·have aA:i<p.length:=by omega
  refine Sz3 h5 h6 h7 ?_;refine Qb (fun h=>by omega) (fun _=>?_);refine Sz3 h5 h6 h7 ?_;refine Qb (fun fI=>?_) (fun fI=>?_)
  ·have dT:k<q.length:=by omega
   have ba:=hp.get aA;have ob:=hq.get dT;rw[Tr aA dT]at dX;have c1:=ba.c;have c2:=ob.c;generalize hx:p[i]=x at *
   generalize hy:q[k]=y at *
   refine Sz5 h5 h6 h7 hx hy ?_;refine Qa hP (zZ ba.m ob.m (by omega)) rfl rfl rfl ?_;refine Sz5 h5 h6 h7 hx hy ?_;refine Qb (fun hc=>?_) (fun hc=>?_)
   ·rw[if_pos hc]at dX;refine Sz4 h5 h6 h7 hx ?_;rw[Q9 (f:=PV.term) (y:=x) (xs:=out) (ty':=54) (fz:=false) (Tz1 hh) cE (by omega) rfl (by omega) (by omega)];refine Sz4 h5 h6 h7 hx ?_;refine Qh ((p.length-(i+1))+(q.length-k)) (by omega) ⟨i+1,k,out++[x],rfl,by omega,hk,by simp;omega,by simpa using dX,?_⟩;refine Sz3 h5 h6 h7 ?_;simp
   rw[if_neg hc]at dX;refine Sz5 h5 h6 h7 hx hy ?_;refine Qb (fun iM=>?_) (fun iM=>?_)
   ·rw[if_pos iM]at dX;refine Sz4 h5 h6 h7 hy ?_;rw[Q9 (f:=PV.term) (y:=y) (xs:=out) (ty':=54) (fz:=false) (Tz1 hh) cE (by omega) rfl (by omega) (by omega)];refine Sz4 h5 h6 h7 hy ?_;refine Qh ((p.length-i)+(q.length-(k+1))) (by omega) ⟨i,k+1,out++[y],rfl,by omega,by omega,by simp;omega,by simpa using dX,?_⟩;refine Sz3 h5 h6 h7 ?_;simp
   rw[if_neg iM]at dX;have hra:=DD x.1 y.1;refine Sz5 h5 h6 h7 hx hy ?_;refine ns ?_ ?_
   all_goals
    refine Sz5 h5 h6 h7 hx hy ?_;refine Qa hP (adi (a:=x.1) (b:=y.1) (k:=2^32) (by omega) (by omega) (by omega)) rfl rfl rfl ?_;refine Sz5 h5 h6 h7 hx hy ?_;refine Qa hP (G0 (a:=x.1+y.1) (by omega)) rfl rfl rfl ?_;refine Sz5 h5 h6 h7 hx hy ?_;refine Qb (fun hz=>?_) (fun hz=>?_)
    ·rw[if_neg (fun h=>hz (gY.2 h))]at dX;refine Sz5 h5 h6 h7 hx hy ?_;rw[Q9 (f:=PV.term) (y:=(x.1+y.1,x.2)) (xs:=out) (ty':=54) (fz:=false) (Tz1 hh) cE (by omega) rfl (by omega) (by omega)];refine Sz5 h5 h6 h7 hx hy ?_;refine Qh ((p.length-(i+1))+(q.length-(k+1))) (by omega) ⟨i+1,k+1,out++[(x.1+y.1,x.2)],rfl,by omega,by omega,by simp;omega,by simpa using dX,?_⟩;refine Sz3 h5 h6 h7 ?_;simp
    ·rw[if_pos (gY.1 (Decidable.not_not.1 hz))]at dX;refine Sz5 h5 h6 h7 hx hy ?_;refine Qh ((p.length-(i+1))+(q.length-(k+1))) (by omega) ⟨i+1,k+1,out,rfl,by omega,by omega,by omega,dX,?_⟩;exact Tz4 h5 h6 h7 hh
  ·rw[Kal (show q.length<=k by omega),kK,Kaz aA]at dX;have dX:out++p[i]::Q7 (p.drop (i+1)) (q.drop k)=Q7 p q:=by rw[Kal (show q.length<=k by omega),kK];exact dX
   generalize hx:p[i]=x at *
   refine Sz4 h5 h6 h7 hx ?_;rw[Q9 (f:=PV.term) (y:=x) (xs:=out) (ty':=54) (fz:=false) (Tz1 hh) cE (by omega) rfl (by omega) (by omega)];refine Sz4 h5 h6 h7 hx ?_;refine Qh ((p.length-(i+1))+(q.length-k)) (by omega) ⟨i+1,k,out++[x],rfl,by omega,hk,by simp;omega,by simpa using dX,?_⟩;refine Sz3 h5 h6 h7 ?_;simp
 ·have aA:i=p.length:=by omega
  refine Sz3 h5 h6 h7 ?_;refine Qb (fun fI=>?_) (fun fI=>?_)
  ·have dT:k<q.length:=by omega
   rw[Kal (show p.length<=i by omega),qi,Kaz dT]at dX;have dX:out++q[k]::Q7 (p.drop i) (q.drop (k+1))=Q7 p q:=by rw[Kal (show p.length<=i by omega),qi];exact dX
   generalize hy:q[k]=y at *
   refine Sz4 h5 h6 h7 hy ?_;refine Qb (fun _=>?_) (fun h=>by omega);refine Sz4 h5 h6 h7 hy ?_;rw[Q9 (f:=PV.term) (y:=y) (xs:=out) (ty':=54) (fz:=false) (Tz1 hh) cE (by omega) rfl (by omega) (by omega)];refine Sz4 h5 h6 h7 hy ?_;refine Qh ((p.length-i)+(q.length-(k+1))) (by omega) ⟨i,k+1,out++[y],rfl,by omega,by omega,by simp;omega,by simpa using dX,?_⟩;refine Sz3 h5 h6 h7 ?_;simp
  ·rw[Kal (show p.length<=i by omega),qi,Kal (show q.length<=k by omega),Kak]at dX;refine Ik h5 h6 h7 hh ?_;exact Qd (by rw[Kae (by simp),dX]) rfl
theorem abo{k l:Nat}{a b:List Int}(ha:MB k a)(hb:MB l b)(h1:a.getLast? ≠some 0)(h2:b.getLast? ≠some 0):kq (· + ·) a b=b7 a b:=by
 rw[b7,Hf];rw[Ka3,oU];intro h;obtain⟨hl,hv⟩:=Kad.1 h;rw[<-e9 hl,OQ (by simp)]at hv;rw[oU]at hl;have p1:=(ha.eN (max a.length b.length-1)).1;have p2:=(hb.eN (max a.length b.length-1)).1;by_cases hc:b.length<=a.length
 ·apply h1;have e:max a.length b.length-1=a.length-1:=by omega
  rw[e]at hv p1 p2;rw[Ka3,Kam (by omega),<-e9 (by omega)];congr 1;omega
 ·apply h2;have e:max a.length b.length-1=b.length-1:=by omega
  rw[e]at hv p1 p2;rw[Ka3,Kam (by omega),<-e9 (by omega)];congr 1;omega
theorem W7{p:List Tm}{t:Tm}{K E:Nat}(hp:PB K E p)(ht:TB K E t)(nZ:NZ p)(ht0:t.1≠0)(hK:K<=2^33)(hE:E<=2^38)(bV:p.length<=2^36):
  Qc Tryz.prog 62 [PV.aj p,PV.term t] (· =PV.aj (bb p t)):=by
 refine Qf Qj Tryz.func62 rfl aiC (by simp[Kw]) fun C hP=>?_;simp only[Kw,Zo,Zg,Zm,Zc,Zf,Zl,Zh,Zs,Zi,Zb,Zk,Zn,Zu,Zq,Zr,Zz];refine Sz0 ?_;refine kM 5 900 4 54 (by omega) Tz0 ?_;refine Qz (by repeat (first|exact Qs|exact Ql|exact Qm|exact Qn|exact Qo|apply Qk|apply Qr|apply Qx|apply Q4|apply Q5|apply Qi|apply Q2)) [(5,32)] [31,32,900] (fun n J hp=>∃i,n=p.length-i/\i<=p.length/\J 5= .ms 900 (bb (p.take i) t).length/\J 6= .int .i64 (i:Nat)/\hp 3=some ⟨4,54,[PV.term t],false⟩/\hp 900=some ⟨4,54,(bb (p.take i) t).map PV.term,false⟩) p.length ?_ ?_
 ·refine⟨0,rfl,by omega,?_⟩;refine Sz0 ?_;simp[bb]
 rintro _ J h ⟨i,rfl,hi,h5,h6,bw,hh⟩;refine Sz2 h5 h6 ?_;refine Qb (fun hg=>?_) (fun hg=>?_)
 ·have aA:i<p.length:=by omega
  have ba:=hp.get aA;have bn:=Gc (t:=t) aA;have hlen:=uz (p.take i) t;rw[KaF]at hlen;have c1:=ba.c;have c2:=ht.c;have lV:=nZ _ (Kah aA);generalize hx:p[i]=x at *
  have hzz:=abo ba.m ht.m ba.l ht.l;rw[if_neg (fun h=>by rcases Rat.mul_eq_zero.1 h with h|h<;>contradiction)]at bn;refine Sz4 h5 h6 bw hx ?_;refine Qa hP (NM (a:=x.1) (b:=t.1) (k:=2^33) (by omega) (by omega) (by omega)) rfl rfl rfl ?_;refine Sz4 h5 h6 bw hx ?_;refine Qa hP (X6 ba.m ht.m (by omega)) rfl rfl rfl ?_;rw[hzz];refine Sz4 h5 h6 bw hx ?_;rw[Q9 (f:=PV.term) (y:=(x.1*t.1,b7 x.2 t.2)) (xs:=bb (p.take i) t) (ty':=54) (fz:=false) (Tz1 hh) cE (by omega) rfl (by omega) (by omega)];rw[<-bn];refine Sz4 h5 h6 bw hx ?_;refine Qh (p.length-(i+1)) (by omega) ⟨i+1,rfl,by omega,?_⟩;rw[bn];simp+decide (disch:=first|omega|rfl|(simp+decide only[go_sem,h5,h6,bw,Kap]<;>rfl)|fail) only[go_sem,h5,h6,bw,Kap]
 ·obtain rfl:i=p.length:=by omega
  rw[Kas]at h5 hh;refine kQ h5 hh ?_;exact Qd (by simp[Kae]) rfl
theorem ZJ{p q:List Tm}{i:Nat}(h:i<q.length):mF p (q.take (i+1))=Q7 (mF p (q.take i)) (bb p q[i]):=by rw[Kag h,mF,KbV,mF];rfl
theorem RK{K E:Nat}{p:List Tm}(hp:PB K E p):∀(q out:List Tm)(L:Nat),PB K E q->PB L (E+E) out->PB (q.length*(K+K)+L) (E+E) (q.foldl (fun out t=>Q7 out (bb p t)) out)/\(q.foldl (fun out t=>Q7 out (bb p t)) out).length<=q.length*p.length+out.length
 | [],out,L,_,ho=>⟨by simpa using ho,by simp⟩
 |t::q,out,L,hq,ho=>by obtain⟨h1,h2⟩:=RK hp q (Q7 out (bb p t)) (L+(K+K)) (PB.cons.1 hq).2 (uT _ _ ho (sR hp (PB.cons.1 hq).1));have h3:=uC out (bb p t);have h4:=uz p t;refine⟨h1.mono (by rw[KaX,KaH];omega) (Kac _),Kay h2 ?_⟩;rw[KaX,KaH];omega
theorem adk{K E:Nat}{p q:List Tm}(hp:PB K E p)(hq:PB K E q):PB (q.length*(K+K)) (E+E) (mF p q)/\(mF p q).length<=q.length*p.length:=by have:=RK hp q [] 0 hq (PB.nil _ _);simpa[mF]using this
theorem rj{p q:List Tm}{K E:Nat}(hp:PB K E p)(hq:PB K E q)(hnp:NZ p)(hnq:NZ q)(hE:E<=2^37)(bV:p.length<=2^30)(ie:q.length<=2^30)(AT:q.length*p.length<=2^36)(hK:q.length*(K+K)+(K+K)<=2^32):
  Qc Tryz.prog 24 [PV.aj p,PV.aj q] (· =PV.aj (mF p q)):=by
 refine Qf Qj Tryz.func24 rfl aiv (by simp[JT]) fun C hP=>?_;simp only[JT,Zo,Zg,Zm,Zc,Zf,Zl,Zh,Zs,Zi,Zb,Zk,Zn,Zu,Zq,Zr,Zz];refine Sz0 ?_;refine rE 5 4 Tz0 ?_;refine Qz (by repeat (first|exact Qs|exact Ql|exact Qm|exact Qn|exact Qo|apply Qk|apply Qr|apply Qx|apply Q4|apply Q5|apply Qi|apply Q2)) [(5,20)] [] (fun n J hp=>∃i,n=q.length-i/\i<=q.length/\J 5=PV.aj (mF p (q.take i))/\J 6= .int .i64 (i:Nat)) q.length ?_ ?_
 ·refine⟨0,rfl,by omega,?_⟩;refine Sz0 ?_;simp[mF]
 rintro _ J h ⟨i,rfl,hi,h5,h6⟩;refine Sz2 h5 h6 ?_;refine Qb (fun hg=>?_) (fun hg=>?_)
 ·have aA:i<q.length:=by omega
  have ob:=hq.get aA;have bn:=ZJ (p:=p) aA;have lV:=hnq _ (Kah aA);obtain⟨oD,eU⟩:=adk hp (hq.take i);have iL:=sR hp ob;have ar:=uz p q[i];generalize hx:q[i]=x at *
  have e1:(q.take i).length=i:=by rw[KaF];omega
  rw[e1]at oD eU;have e2:i*(K+K)<=q.length*(K+K):=Kaf _ hi;have e3:i*p.length<=q.length*p.length:=Kaf _ hi;refine Sz3 h5 h6 hx ?_;refine Qa hP (W7 (t:=x) hp ob hnp lV (by omega) (by omega) (by omega)) rfl rfl rfl ?_;refine Sz3 h5 h6 hx ?_;refine Qa hP (Cj (K:=q.length*(K+K)+(K+K)) (E:=E+E) (oD.mono (by omega) (by omega)) (iL.mono (by omega) (by omega)) hK (by omega) (by omega) (by omega)) rfl rfl rfl ?_;refine Sz3 h5 h6 hx ?_;refine Qh (q.length-(i+1)) (by omega) ⟨i+1,rfl,by omega,?_⟩;rw[bn];exact Tz0
 ·obtain rfl:i=q.length:=by omega
  rw[Kas]at h5;refine Sz1 h5 ?_;exact Qd rfl rfl
theorem FU{p:List Tm}{a:Rat}{K E:Nat}(hp:PB K E p)(nZ:NZ p)(ha:rs a+1<=K)(hK:K<=2^33)(hE:E<=2^38)(bV:p.length<=2^36):
  Qc Tryz.prog 71 [PV.aj p,PV.rat a] (· =PV.aj (ch p a)):=by
 refine Qf Qj Tryz.func71 rfl aiy (by simp[KC]) fun C hP=>?_;simp only[KC,Zo,Zg,Zm,Zc,Zf,Zl,Zh,Zs,Zi,Zb,Zk,Zn,Zu,Zq,Zr,Zz];refine Sz0 ?_;refine kM 5 900 4 54 (by omega) Tz0 ?_;refine Qz (by repeat (first|exact Qs|exact Ql|exact Qm|exact Qn|exact Qo|apply Qk|apply Qr|apply Qx|apply Q4|apply Q5|apply Qi|apply Q2)) [(5,33)] [32,33,900] (fun n J hp=>∃i,n=p.length-i/\i<=p.length/\J 5= .ms 900 (bb (p.take i) (a,[])).length/\J 6= .int .i64 (i:Nat)/\hp 3=some ⟨3,43,[PV.rat a],false⟩/\hp 900=some ⟨4,54,(bb (p.take i) (a,[])).map PV.term,false⟩) p.length ?_ ?_
 ·refine⟨0,rfl,by omega,?_⟩;refine Sz0 ?_;simp[bb]
 rintro _ J h ⟨i,rfl,hi,h5,h6,bw,hh⟩;refine Sz2 h5 h6 ?_;refine fX (fun hg=>?_) (fun hg=>?_)
 ·have aA:i<p.length:=by omega
  have ba:=hp.get aA;have bn:=Gc (t:=(a,[])) aA;have hlen:=uz (p.take i) (a,[]);rw[KaF]at hlen;have c1:=ba.c;have lV:=nZ _ (Kah aA);generalize hx:p[i]=x at *
  refine Sz4 h5 h6 bw hx ?_;refine Qa hP (G0 (a:=a) (by omega)) rfl rfl rfl ?_;refine Sz4 h5 h6 bw hx ?_;refine Qb (fun hz=>?_) (fun hz=>?_)
  ·rw[if_neg (fun h=>by rcases Rat.mul_eq_zero.1 h with h|h;exact lV h;exact hz (gY.2 h)),uP ba.l]at bn;refine Sz4 h5 h6 bw hx ?_;refine Qa hP (NM (a:=x.1) (b:=a) (k:=2^33) (by omega) (by omega) (by omega)) rfl rfl rfl ?_;refine Sz4 h5 h6 bw hx ?_;rw[Q9 (f:=PV.term) (y:=(x.1*a,x.2)) (xs:=bb (p.take i) (a,[])) (ty':=54) (fz:=false) (Tz1 hh) cE (by omega) rfl (by omega) (by omega)];rw[<-bn];refine Sz4 h5 h6 bw hx ?_;refine Qh (p.length-(i+1)) (by omega) ⟨i+1,rfl,by omega,?_⟩;rw[bn];simp+decide (disch:=first|omega|rfl|(simp+decide only[go_sem,h5,h6,bw,Kap]<;>rfl)|fail) only[go_sem,h5,h6,bw,Kap]
  ·have xU:=gY.1 (Decidable.not_not.1 hz);have e0:∀l:List Tm,bb l (a,[])=[]:=fun l=>by rw[xU];simp[bb]
   refine Ac h5 hh bw ?_;refine Qd ?_ rfl;rw[e0,ch,if_pos xU];rfl
 ·obtain rfl:i=p.length:=by omega
  rw[Kas]at h5 hh;refine Ac h5 hh bw ?_;refine Qd ?_ rfl;rw[Kae (by simp),ch];split
  ·rename_i xU;rw[xU];simp[bb]
  ·rfl
theorem X8{p:List Tm}{K E:Nat}(hp:PB K E p)(nZ:NZ p)(lO:2<=K)(hK:K<=2^33)(hE:E<=2^38)(bV:p.length<=2^36):Qc Tryz.prog 53 [PV.aj p] (· =PV.aj (kP p)):=by have h1:=FI;refine Qf Qj Tryz.func53 rfl aiw (by simp[Kn]) fun C hP=>?_;simp only[Kn,Zo,Zg,Zm,Zc,Zf,Zl,Zh,Zs,Zi,Zb,Zk,Zn,Zu,Zq,Zr,Zz];refine Sz0 ?_;refine Qa hP (uH (x:= -1) (by omega) (by omega)) rfl rfl rfl ?_;refine Sz0 ?_;refine Qa hP (FU (a:=((-1:Int):Rat)) hp nZ (by have:((-1:Int):Rat)= -1:=rfl;rw[this];omega) hK hE bV) rfl rfl rfl ?_;refine Sz0 ?_;exact Qd rfl rfl
theorem Ck{p q:List Tm}{K E:Nat}(hp:PB K E p)(hq:PB K E q)(nZ:NZ q)(lO:2<=K)(hK:K<=2^31)(hE:E<=2^38)(bV:p.length<=2^36)(ie:q.length<=2^36):Qc Tryz.prog 21 [PV.aj p,PV.aj q] (· =PV.aj (fY p q)):=by have hl:=uA q (-1);refine Qf Qj Tryz.func21 rfl aiA (by simp[JQ]) fun C hP=>?_;simp only[JQ,Zo,Zg,Zm,Zc,Zf,Zl,Zh,Zs,Zi,Zb,Zk,Zn,Zu,Zq,Zr,Zz];refine Sz0 ?_;refine Qa hP (X8 hq nZ lO (by omega) hE ie) rfl rfl rfl ?_;refine Sz0 ?_;refine Qa hP (Cj (hp.mono (K':=K+2) (by omega) (Kac _)) (xc hq) (by omega) hE bV (by show(ch q (-1)).length<=_;omega)) rfl rfl rfl ?_;refine Sz0 ?_;exact Qd rfl rfl
theorem RB.raw{k:Nat}{t:bc}(h:RB k t)(hk:1<=k):Raw k t.n t.a t.d:=⟨h.r.1,h.r.2.1,h.r.2.2.1,h.r.2.2.2,hk⟩
theorem afB{s t:bc}{E:Nat}(hs:MB E s.m)(ht:MB E t.m)(hE:E<=2^38):Qc Tryz.prog 85 [PV.pX s,PV.pX t] (· = .int .i64 (aR s.m t.m)):=by refine Qf Qj Tryz.func85 rfl PD (by simp[Al]) fun C hP=>?_;simp only[Al,Zo,Zg,Zm,Zc,Zf,Zl,Zh,Zs,Zi,Zb,Zk,Zn,Zu,Zq,Zr,Zz];refine Sz0 ?_;refine Qa hP (So (o:=0) hs ht (by omega)) rfl rfl rfl ?_;refine Sz0 ?_;exact Qd (by rw[DE]) rfl
theorem RL{l:List bc}{k:Nat}(hb:∀t∈l,RB k t)(pG:1<=k)(hk:k<2^36)(pI:l.length<2^40):Qc Tryz.prog 40 [PV.kG l] (· = .bool (eh l)):=by
 have qL:=Hg l;have bad:∀ {b:Bool},(b=true->False)->b=false:=fun {b} h=>by cases b<;>simp_all
 refine Qf Qj Tryz.func40 rfl ah0 (by simp[Kb]) fun C hP=>?_;simp only[Kb,Zo,Zg,Zm,Zc,Zf,Zl,Zh,Zs,Zi,Zb,Zk,Zn,Zu,Zq,Zr,Zz];refine Sz0 ?_;refine Qz (by repeat (first|exact Qs|exact Ql|exact Qm|exact Qn|exact Qo|apply Qk|apply Qr|apply Qx|apply Q4|apply Q5|apply Qi)) [(2,4),(7,42)] [4] (fun n J hp=>∃i,n=l.length-i/\i<=l.length/\(∀j (h:j<l.length),j<i->fB l[j]=true)/\(∀j (h:j+1<l.length),j+1<i->0<aR l[j].m l[j+1].m)/\J 7= .int .i64 (i:Nat)) l.length ?_ ?_
 ·refine⟨0,rfl,by omega,by omega,by omega,?_⟩;refine Sz0 ?_;rfl
 rintro _ J h ⟨i,rfl,hi,h1,h2,h7⟩;refine Sz1 h7 ?_;refine Qb (fun hg=>?_) (fun hg=>?_)
 ·have aA:i<l.length:=by omega
  have iL:=hb _ (Kah aA);have hr:=(RB.raw iL pG).rs;have nY:=iL.l;have vG:eh l=true->fB l[i]=true:=fun h=>(qL.1 h).1 i aA;have LG:∀(j:Nat)(hj:j+1=i),eh l=true->0<aR (l[j]'(by omega)).m l[i].m:=fun j hj h=>by subst hj;exact(qL.1 h).2 j aA
  have Ay:fB l[i]=true->∀j (h:j<l.length),j<i+1->fB l[j]=true:=fun h j hj dW=>by
   by_cases e:j=i
   ·subst e;exact h
   ·exact h1 j hj (by omega)
  have Mm:∀(j:Nat)(hj:j+1=i),MB 1048576 (l[j]'(by omega)).m:=fun j hj=>by have:=h1 j (by omega) (by omega);simp only[fB,Kat]at this;exact MB.uk this.2.2
  have vE:(∀(j:Nat)(hj:j+1=i),0<aR (l[j]'(by omega)).m l[i].m)->∀j (h:j+1<l.length),j+1<i+1->0<aR l[j].m l[j+1].m:=fun h j hj dW=>by
   by_cases e:j+1=i
   ·subst e;exact h j rfl
   ·exact h2 j hj (by omega)
  generalize hx:l[i]=x at *
  have fK:rs (rv x.n x.a x.d)<2^36:=by omega
  refine Sz2 h7 hx ?_;refine Qa hP (XU (RB.raw iL pG) hk) rfl rfl rfl ?_;refine Sz1 h7 ?_;cases cA:o8 x.n x.a x.d
  ·have hf:eh l=false:=bad fun h=>by have:=vG h;simp[fB,cA]at this
   refine Sz2 h7 @Bool.not_false ?_;exact Qd (by rw[hf]) rfl
  refine Sz2 h7 @Bool.not_true ?_;refine Qa hP (CA (RB.raw iL pG) hk) rfl rfl rfl ?_;refine Sz1 h7 ?_;refine dF (fun hz=>?_) (fun hz=>?_)
  ·have hf:eh l=false:=bad fun h=>by have:=vG h;simp[fB,bc.q,gY.1 hz]at this
   refine Sz1 h7 ?_;exact Qd (by rw[hf]) rfl
  refine Sz1 h7 ?_;refine Qa hP (Xs (by omega)) rfl rfl rfl ?_;refine Sz1 h7 ?_;cases vS:fo x.m
  ·have hf:eh l=false:=bad fun h=>by have:=vG h;simp[fB,vS]at this
   refine Sz2 h7 @Bool.not_false ?_;exact Qd (by rw[hf]) rfl
  have Bb:fB x=true:=by simp only[fB,cA,vS,KbY,Kdi,decide_eq_true_eq];exact fun h=>hz (gY.2 h)
  refine Sz2 h7 @Bool.not_true ?_;refine fX (fun pE=>?_) (fun pE=>?_)
  ·obtain⟨j,rfl⟩:∃j,i=j+1:=⟨i-1,by omega⟩
   have e:((j+1:Nat):Int)-1=j:=by omega
   have pF:j<l.length:=by omega
   have A':=Mm j rfl;have LH:=LG j rfl;have LD:0<aR (l[j]'(by omega)).m x.m->∀j2 (h:j2+1<l.length),j2+1<j+1+1->0<aR l[j2].m l[j2+1].m:=fun h=>vE (fun j' fJ=>by
    obtain rfl:j'=j:=by omega
    exact h)
   generalize hy:l[j]'(by omega)=y at *
   refine Sz3 h7 e hy ?_;refine Qa hP (afB (s:=y) (t:=x) A' (MB.uk vS) (by omega)) rfl rfl rfl ?_;refine Sz2 h7 e ?_;refine Qb (fun hc=>?_) (fun hc=>?_)
   ·have hf:eh l=false:=bad fun h=>by have:=LH h;omega
    refine Sz1 h7 ?_;exact Qd (by rw[hf]) rfl
   ·refine Sz1 h7 ?_;refine Qh (l.length-(j+1+1)) (by omega) ⟨j+1+1,rfl,by omega,Ay Bb,LD (by omega),?_⟩;exact Tz0
  ·obtain rfl:i=0:=by omega
   refine Sz1 h7 ?_;refine Qh (l.length-1) (by omega) ⟨1,rfl,by omega,Ay Bb,vE (fun j hj=>by omega),?_⟩;exact Tz0
 ·obtain rfl:i=l.length:=by omega
  have hf:eh l=true:=qL.2 ⟨fun j hj=>h1 j hj hj,fun j hj=>h2 j hj hj⟩;refine Sz0 ?_;exact Qd (by rw[hf]) rfl
theorem Xm{l:List bc}{k:Nat}(hb:∀t∈l,RB k t)(pG:1<=k)(hk:k<2^36)(pI:l.length<2^40):Qc Tryz.prog 39 [PV.kG l] (· = .bool (eh l)):=by
 have qL:=Hg l;have bad:∀ {b:Bool},(b=true->False)->b=false:=fun {b} h=>by cases b<;>simp_all
 refine Qf Qj Tryz.func39 rfl aix (by simp[Ka]) fun C hP=>?_;simp only[Ka,Zo,Zg,Zm,Zc,Zf,Zl,Zh,Zs,Zi,Zb,Zk,Zn,Zu,Zq,Zr,Zz];refine Sz0 ?_;refine Qz (by repeat (first|exact Qs|exact Ql|exact Qm|exact Qn|exact Qo|apply Qk|apply Qr|apply Qx|apply Q4|apply Q5|apply Qi|apply Q2)) [(2,51)] [] (fun n J hp=>∃i,n=l.length-i/\i<=l.length/\(∀j (h:j<l.length),j<i->fB l[j]=true)/\(∀j (h:j+1<l.length),j+1<i->0<aR l[j].m l[j+1].m)/\J 3= .int .i64 (i:Nat)) l.length ?_ ?_
 ·refine⟨0,rfl,by omega,by omega,by omega,?_⟩;refine Sz0 ?_;rfl
 rintro _ J h ⟨i,rfl,hi,h1,h2,h7⟩;refine Sz1 h7 ?_;refine Qb (fun hg=>?_) (fun hg=>?_)
 ·have aA:i<l.length:=by omega
  have iL:=hb _ (Kah aA);have hr:=(RB.raw iL pG).rs;have nY:=iL.l;have vG:eh l=true->fB l[i]=true:=fun h=>(qL.1 h).1 i aA;have LG:∀(j:Nat)(hj:j+1=i),eh l=true->0<aR (l[j]'(by omega)).m l[i].m:=fun j hj h=>by subst hj;exact(qL.1 h).2 j aA
  have Ay:fB l[i]=true->∀j (h:j<l.length),j<i+1->fB l[j]=true:=fun h j hj dW=>by
   by_cases e:j=i
   ·subst e;exact h
   ·exact h1 j hj (by omega)
  have Mm:∀(j:Nat)(hj:j+1=i),MB 1048576 (l[j]'(by omega)).m:=fun j hj=>by have:=h1 j (by omega) (by omega);simp only[fB,Kat]at this;exact MB.uk this.2.2
  have vE:(∀(j:Nat)(hj:j+1=i),0<aR (l[j]'(by omega)).m l[i].m)->∀j (h:j+1<l.length),j+1<i+1->0<aR l[j].m l[j+1].m:=fun h j hj dW=>by
   by_cases e:j+1=i
   ·subst e;exact h j rfl
   ·exact h2 j hj (by omega)
  generalize hx:l[i]=x at *
  have fK:rs (rv x.n x.a x.d)<2^36:=by omega
  refine Sz2 h7 hx ?_;refine Qa hP (W6 (RB.raw iL pG) hk) rfl rfl rfl ?_;refine Sz1 h7 ?_;cases cA:o8 x.n x.a x.d
  ·have hf:eh l=false:=bad fun h=>by have:=vG h;simp[fB,cA]at this
   refine Sz2 h7 @Bool.not_false ?_;exact Qd (by rw[hf]) rfl
  refine Sz3 h7 @Bool.not_true hx ?_;refine Qa hP (Ce (RB.raw iL pG) hk) rfl rfl rfl ?_;refine Sz1 h7 ?_;refine dF (fun hz=>?_) (fun hz=>?_)
  ·have hf:eh l=false:=bad fun h=>by have:=vG h;simp[fB,bc.q,gY.1 hz]at this
   refine Sz1 h7 ?_;exact Qd (by rw[hf]) rfl
  refine Sz2 h7 hx ?_;refine Qa hP (QS (by omega)) rfl rfl rfl ?_;refine Sz1 h7 ?_;cases vS:fo x.m
  ·have hf:eh l=false:=bad fun h=>by have:=vG h;simp[fB,vS]at this
   refine Sz2 h7 @Bool.not_false ?_;exact Qd (by rw[hf]) rfl
  have Bb:fB x=true:=by simp only[fB,cA,vS,KbY,Kdi,decide_eq_true_eq];exact fun h=>hz (gY.2 h)
  refine Sz2 h7 @Bool.not_true ?_;refine fX (fun pE=>?_) (fun pE=>?_)
  ·obtain⟨j,rfl⟩:∃j,i=j+1:=⟨i-1,by omega⟩
   have e:((j+1:Nat):Int)-1=j:=by omega
   have pF:j<l.length:=by omega
   have A':=Mm j rfl;have LH:=LG j rfl;have LD:0<aR (l[j]'(by omega)).m x.m->∀j2 (h:j2+1<l.length),j2+1<j+1+1->0<aR l[j2].m l[j2+1].m:=fun h=>vE (fun j' fJ=>by
    obtain rfl:j'=j:=by omega
    exact h)
   generalize hy:l[j]'(by omega)=y at *
   refine Sz4 h7 e hx hy ?_;refine Qa hP (zZ A' (MB.uk vS) (by omega)) rfl rfl rfl ?_;refine Sz2 h7 e ?_;refine Qb (fun hc=>?_) (fun hc=>?_)
   ·have hf:eh l=false:=bad fun h=>by have:=LH h;omega
    refine Sz1 h7 ?_;exact Qd (by rw[hf]) rfl
   ·refine Sz1 h7 ?_;refine Qh (l.length-(j+1+1)) (by omega) ⟨j+1+1,rfl,by omega,Ay Bb,LD (by omega),?_⟩;exact Tz0
  ·obtain rfl:i=0:=by omega
   refine Sz1 h7 ?_;refine Qh (l.length-1) (by omega) ⟨1,rfl,by omega,Ay Bb,vE (fun j hj=>by omega),?_⟩;exact Tz0
 ·obtain rfl:i=l.length:=by omega
  have hf:eh l=true:=qL.2 ⟨fun j hj=>h1 j hj hj,fun j hj=>h2 j hj hj⟩;refine Sz0 ?_;exact Qd (by rw[hf]) rfl
def l9(v:Nat)(e:Int)(t:bc):Bool:=decide (t.m.length<=v)&&(decide (t.a.length<=4)&&(decide (t.d.length<=4)&&t.m.all fun x=>decide (x<=e)))
def kN(n v:Nat)(e:Int)(l:List bc):Bool:=decide (l.length<=n)&&(l.all (l9 v e)&&eh l)
theorem W8{l:List bc}{k n v:Nat}{e:Int}(hb:∀t∈l,RB k t)(pG:1<=k)(hk:k<2^36)(pI:l.length<2^40):
  Qc Tryz.prog 18 [PV.kG l,.int .i64 n,.int .i64 v,.int .i64 e] (· = .bool (kN n v e l)):=by
 have bad:l.length<=n->∀i (h:i<l.length),l9 v e l[i]=false->kN n v e l=false:=fun _ i hi h=>by
  have:l.all (l9 v e)=false:=by rw[Kc3];exact⟨_,Kah hi,by simp[h]⟩
  simp[kN,this]
 refine Qf Qj Tryz.func18 rfl aiz (by simp[JJ]) fun C hP=>?_;simp only[JJ,Zo,Zg,Zm,Zc,Zf,Zl,Zh,Zs,Zi,Zb,Zk,Zn,Zu,Zq,Zr,Zz];refine Sz0 ?_;refine Qb (fun hn=>?_) (fun hn=>?_)
 ·refine Sz0 ?_;exact Qd (by simp[kN,show ¬l.length<=n by omega]) rfl
 have yb:l.length<=n:=by omega
 refine Sz0 ?_;refine Qz (by repeat (first|exact Qs|exact Ql|exact Qm|exact Qn|exact Qo|apply Qk|apply Qr|apply Qx|apply Q4|apply Q5|apply Qi|apply Q2)) [(8,10),(15,69)] [] (fun m J hp=>∃i,m=l.length-i/\i<=l.length/\(∀j (h:j<l.length),j<i->l9 v e l[j]=true)/\J 9= .int .i64 (i:Nat)) l.length ?_ ?_
 ·refine⟨0,rfl,by omega,by omega,?_⟩;refine Sz0 ?_;rfl
 rintro _ J h ⟨i,rfl,hi,h1,h9⟩;refine Sz1 h9 ?_;refine Qb (fun hg=>?_) (fun hg=>?_)
 ·have aA:i<l.length:=by omega
  have iL:=hb _ (Kah aA);have jy:=bad yb i aA;have nY:=iL.l;have gR:l9 v e l[i]=true->∀j (h:j<l.length),j<i+1->l9 v e l[j]=true:=fun h j hj dW=>by
   by_cases e:j=i
   ·subst e;exact h
   ·exact h1 j hj (by omega)
  generalize hx:l[i]=x at *
  refine Sz2 h9 hx ?_;refine dF (fun h2=>?_) (fun h2=>?_)
  ·refine Sz2 h9 hx ?_;exact Qd (by rw[jy (by simp[l9,show ¬x.m.length<=v by omega])]) rfl
  refine Sz2 h9 hx ?_;refine dF (fun h3=>?_) (fun h3=>?_)
  ·refine Sz2 h9 hx ?_;exact Qd (by rw[jy (by simp[l9,show ¬x.a.length<=4 by omega])]) rfl
  refine Sz2 h9 hx ?_;refine Qb (fun h4=>?_) (fun h4=>?_)
  ·refine Sz2 h9 hx ?_;exact Qd (by rw[jy (by simp[l9,show ¬x.d.length<=4 by omega])]) rfl
  refine Sz2 h9 hx ?_;refine Qz (by repeat (first|exact Qs|exact Ql|exact Qm|exact Qn|exact Qo|apply Qk|apply Qr|apply Qx|apply Q4|apply Q5|apply Qi|apply Q2)) [(8,8),(10,10),(50,69)] [] (fun m J hp=>∃j,m=x.m.length-j/\j<=x.m.length/\(∀y∈x.m.take j,y<=e)/\J 10= .int .i64 (j:Nat)) x.m.length ?_ ?_
  ·refine⟨0,rfl,by omega,by simp,?_⟩;refine Sz0 ?_;rfl
  rintro _ J2 mR ⟨j,rfl,hj,h5,bF⟩;refine Sz3 h9 bF hx ?_;refine Qb (fun fI=>?_) (fun fI=>?_)
  ·have fJ:j<x.m.length:=by omega
   have eo:=Kah fJ;have bn:x.m.take (j+1)=x.m.take j++[x.m[j]]:=Kag fJ;generalize hy:x.m[j]=y at *
   refine Sz4 h9 bF hx hy ?_;refine Qb (fun h6=>?_) (fun h6=>?_)
   ·refine Sz3 h9 bF hx ?_;refine Qd ?_ rfl;rw[jy];have:(x.m.all fun x=>decide (x<=e))=false:=by rw[Kc3];exact⟨y,eo,by simp;omega⟩
    simp[l9,this]
   ·refine Sz3 h9 bF hx ?_;refine Qh (x.m.length-(j+1)) (by omega) ⟨j+1,rfl,by omega,?_,?_⟩
    ·rw[bn];intro z hz;rcases KaU.1 hz with hz|hz
     ·exact h5 z hz
     ·simp at hz;omega
    ·exact Tz0
  ·rw[Kae (by omega)]at h5;have sm:l9 v e x=true:=by simp only[l9,Kat,decide_eq_true_eq,Kax];exact⟨by omega,by omega,by omega,h5⟩
   refine Sz2 h9 bF ?_;simp (disch:=decide) only[kb,nw];refine Qh (l.length-(i+1)) (by omega) ⟨i+1,rfl,by omega,gR sm,?_⟩;exact Tz0
 ·obtain rfl:i=l.length:=by omega
  have cu:l.all (l9 v e)=true:=by rw[Kax];intro t ht;obtain⟨j,hj,rfl⟩:=Kbd ht;exact h1 j hj hj
  refine Sz0 ?_;refine Qa hP (Xm hb pG hk pI) rfl rfl rfl ?_;refine Sz0 ?_;exact Qd (by simp[kN,yb,cu]) rfl
end Go.Proofs.YtdjoomkeehihmaaGreat
namespace Go.FW
open Go
variable {C : Ctx} {ρ : Nat -> Option Nat} {fr ay : Fr} {hp an : HP} {w w' : World} {K R : Qg}
def vf(r:PV):Prop:=(r.refs=[]/\r.bS=[])/\∀σ,eM σ r=r
def yD(nm:Nat->Bool)(p:PV):PV:=if(p.refs++p.bS).any nm then .undef else p
def alo(nm:Nat->Bool)(fr:Fr):Fr:=fun s=>yD nm (fr s)
def exH(nm ex:Nat->Bool)(H hp:HP):HP:=fun x=>if ex x then H x else if nm x then none else hp x
def exF(S:List Nat)(F fr:Fr):Fr:=fun s=>if S.contains s then F s else fr s
end Go.FW
namespace Go.FW
open Go
variable {C : Ctx} {ρ : Nat -> Option Nat} {fr ay : Fr} {hp : HP} {w : World} {K R : Qg}
theorem adl{B:List Nat}{F:Fr}{β δ:Nat}(al:B.contains β=true)(h2:β<1000000):oN β δ (dk B F)=dk B F:=aeO (.inl al) (.inl h2)
theorem aoW:
  (∀(σ:Nat->Nat)(k:IntKind)(n:Int),eM σ (.int k n)= .int k n)/\
  (∀(σ:Nat->Nat)(b:Bool),eM σ (.bool b)= .bool b)/\
  (∀(σ:Nat->Nat)(e:Nat)(xs:List PV),eM σ (.sl e xs)= .sl e xs)/\
  (∀(σ:Nat->Nat)(cs:List PV),eM σ (.agg cs)= .agg cs)/\
  (∀(σ:Nat->Nat)(cs:List PV),eM σ (.au cs)= .au cs)/\
  (∀(σ:Nat->Nat)(cs:List PV),eM σ (.pt cs)= .pt cs)/\
  (∀(σ:Nat->Nat),eM σ .aa= .aa)/\
  (∀(σ:Nat->Nat),eM σ .undef= .undef)/\
  (∀(σ:Nat->Nat)(β o n:Nat),eM σ (.ax β o n)= .ax (σ β) o n)/\
  (∀(σ:Nat->Nat)(β o n:Nat),eM σ (.mp β o n)= .mp (σ β) o n)/\
  (∀(σ:Nat->Nat)(β o n:Nat),eM σ (.aM β o n)= .aM (σ β) o n)/\
  (∀(σ:Nat->Nat)(β o n:Nat),eM σ (.np β o n)= .np (σ β) o n)/\
  (∀(σ:Nat->Nat)(cs:List PV),eM σ (.aT cs)= .aT (cs.map (dD σ))):=by
 refine⟨?_,?_,?_,?_,?_,?_,?_,?_,?_,?_,?_,?_,?_⟩<;>intros<;>rfl
theorem aoV:
  (∀(σ:Nat->Nat)(k:IntKind)(n:Int),dD σ (.int k n)= .int k n)/\
  (∀(σ:Nat->Nat)(b:Bool),dD σ (.bool b)= .bool b)/\
  (∀(σ:Nat->Nat)(e:Nat)(xs:List PV),dD σ (.sl e xs)= .sl e xs)/\
  (∀(σ:Nat->Nat),dD σ .aa= .aa)/\
  (∀(σ:Nat->Nat),dD σ .undef= .undef)/\
  (∀(σ:Nat->Nat)(β o n:Nat),dD σ (.ax β o n)= .ax (σ β) o n)/\
  (∀(σ:Nat->Nat)(β o n:Nat),dD σ (.aM β o n)= .aM (σ β) o n):=by
 refine⟨?_,?_,?_,?_,?_,?_,?_⟩<;>intros<;>rfl
theorem ajB:
  (∀(γ:Nat)(k:IntKind)(n:Int),dR γ (.int k n)= .int k n)/\
  (∀(γ:Nat)(b:Bool),dR γ (.bool b)= .bool b)/\
  (∀(γ e:Nat)(xs:List PV),dR γ (.sl e xs)= .sl e xs)/\
  (∀(γ:Nat)(cs:List PV),dR γ (.agg cs)= .agg cs)/\
  (∀(γ:Nat)(cs:List PV),dR γ (.au cs)= .au cs)/\
  (∀(γ:Nat)(cs:List PV),dR γ (.pt cs)= .pt cs)/\
  (∀(γ:Nat),dR γ .aa= .aa)/\
  (∀(γ:Nat),dR γ .undef= .undef)/\
  (∀(γ β o n:Nat),dR γ (.ax β o n)=if β=γ then .aM γ o n else .ax β o n)/\
  (∀(γ β o n:Nat),dR γ (.mp β o n)=if β=γ then .np γ o n else .mp β o n)/\
  (∀(γ β o n:Nat),dR γ (.aM β o n)= .aM β o n)/\
  (∀(γ β o n:Nat),dR γ (.np β o n)= .np β o n):=by
 refine⟨?_,?_,?_,?_,?_,?_,?_,?_,?_,?_,?_,?_⟩<;>intros<;>rfl
theorem afC{γ s:Nat}{x:PV}:xv γ x fr s=if s=γ then x else dR γ (fr s):=rfl
theorem afD{args:List PV}{G:Fr}{s:Nat}:ak7 args G s=if s<1000000 then(args[s]?).getD .undef else G s:=rfl
theorem afE{nm:Nat->Bool}{s:Nat}:alo nm fr s=yD nm (fr s):=rfl
theorem afF{nm:Nat->Bool}{p:PV}:yD nm p=if(p.refs++p.bS).any nm then .undef else p:=rfl
theorem air{nm ex:Nat->Bool}{H:HP}{x:Nat}:exH nm ex H hp x=if ex x then H x else if nm x then none else hp x:=rfl
theorem ais{S:List Nat}{F:Fr}{s:Nat}:exF S F fr s=if S.contains s then F s else fr s:=rfl
attribute [go_sem] aeL aeM ahk ahl ahJ adl aoW aoV ajB afC afD afE afF air ais
end Go.FW
namespace Go.FW
open Go
variable {C : Ctx} {ρ : Nat -> Option Nat} {fr ay : Fr} {hp : HP} {w : World} {K R : Qg}
theorem afG{σ:Nat->Nat}{p:PV}(h:p= .aa∨∃β n,p= .ms β n)(sA:∀β n,p= .ms β n->σ β=β):gQ (p.bj.map (dD σ))=p:=by
 rcases h with rfl|⟨β,n,rfl⟩
 ·rfl
 ·have:=sA β n rfl;simp[PV.bj,PV.cells,dD,gQ,this]
def g8(B n w:Nat)(π:Nat->Nat):List (Nat×Nat):=(List.range n).map fun r=>(B+π r,w)
theorem NN{B n w r:Nat}{π:Nat->Nat}(h:r<(g8 B n w π).length):(g8 B n w π)[r]=(B+π r,w):=by simp[g8]
def mM{α:Type}(p:α->PV)(f:Nat->α)(w:Nat):List PV:=(List.range w).map fun c=>p (f c)
theorem Gi{α:Type}(p:α->PV)(f:Nat->α)(w:Nat):(mM p f w).length=w:=by simp[mM]
theorem Ho{α:Type}{p:α->PV}{f:Nat->α}{w c:Nat}(h:c<(mM p f w).length):(mM p f w)[c]=p (f c):=by simp[mM]
theorem ajC{by_ ty d:Nat}{k k':IntKind}{n c:Nat}(h2:n<=c)(h3:by_*c<=281474976710656)(h4:c<=9223372036854775807):
  m8 3 by_ ty (.agg [.bool false,.aa,.aa]) (.int k (n:Int)) (.int k' (c:Int)) d fr hp K=K (af (cI d fr) d (.ms d n)) (Qy hp d ⟨3,ty,List.replicate n (.agg [.bool false,.aa,.aa]),false⟩):=by
 rw[BM (e:=3) (by omega) rfl (by omega) (by omega) (by omega) (by omega)];rfl
attribute [go_sem] ajC
end Go.FW
namespace Go.FW
open Go
variable {C : Ctx} {ρ : Nat -> Option Nat} {fr ay : Fr} {hp : HP} {w : World} {K R : Qg}
theorem ZK {P : Program} {f : FuncId} {fn : Func} {sf : az} {args : List PV} {Rr : PV -> Prop} (hm : P.follows .mixedOrders = true) (hf : P.funcs[f]? = some fn) (r8 : (fn.name != "runtime.NumGoroutine") = true) (hc : Qe P fn = some sf.strip) (hn : args.length <= sf.n /\ sf.n <= 1000000)
  (hv:∀C:Ctx,C.P=P->C.N=sf.n->vc C (rO (fS sf.rs Rr)) [.c sf.body] (jK args) aE):Qc P f args Rr:=by
 simp only[Qe,Kab,Kaa]at hc;obtain⟨c,hb,sb,ix,rs,fj,VC⟩:=hc;obtain⟨n,Ws,body⟩:=sf;simp only[az.strip,az.mk.injEq]at VC;obtain⟨rfl,rfl,rfl⟩:=VC;refine⟨by simp[oA,hf,hb];simpa using r8,fun w X bl hX fM cK=>?_⟩
 let C:Ctx:=Ctx.plain P fn.ntmps w X hX hn.2
 refine calls_of_wp hf hb ?_;have v3:(bl++Array.replicate (fn.ntmps-bl.size) undef).size=fn.ntmps:=by simp at hn ⊢;omega
 have pN:eT C (jK args) aE (bl++Array.replicate (fn.ntmps-bl.size) undef) w:=by
  refine⟨fun _=>none,v3,Ext.refl _ _,(fun _ _ h=>by cases h),by simp[aE],by simp[aE],fun i=>?_⟩;unfold jK;cases hi:args[i]? with
  |none=>trivial
  | some p=>
   simp only[KbT];have dm:i<bl.size:=by rw[fM];exact(Kad.1 hi).1
   have hr:=cK i p hi;have e:(bl++Array.replicate (fn.ntmps-bl.size) undef).getD i undef=bl.getD i undef:=by rw[kI,if_pos dm]
   rw[e];refine Qt.ll (hr.mono (fun _ _ _=>rfl) (fun b _ hn hx=>?_) (Kac _));rcases hx with hx|⟨_,_,h1,_⟩
   ·exact hn hx
   ·simp[aE]at h1
 have fin:∀(fr:Fr)(hp:HP)(a:Act)(w':World),a.defers=[]->eT C fr hp a.tmps w'->rO (fS rs Rr) fr hp->
   a.defers=[]/\∃v,(results fn a.tmps).run P w'= .ok v w'/\∃v' r,Ending.returned v= .returned v'/\Ext bO w w'/\dB w' X r v'/\Rr r:=by
  rintro fr hp a w' hd Bc ⟨Lg,iT,hw,hr⟩;obtain⟨ρ,hs⟩:=hw C _ _ Bc;obtain⟨v,r,h1,h2,h3⟩:=SH (C:=C) rfl fj hs hr;exact⟨hd,v,h1,v,r,rfl,Ctx.MQ hs.ext,h2,h3⟩
 exact Rl (C:=C) (R:=rO (fS rs Rr)) hm c body [] _ (jK args) aE _ w ix ⟨fun fr hp a w' hd hs hv=>(by rw[uX]at hv;exact fin fr hp a w' hd hs hv),fun id eF he=>(by simp[FW.ct]at he),fin⟩ rfl pN (hv C rfl rfl)
theorem wL {P : Program} {f : FuncId} {fn : Func} {sf : az} {args : List PV} {Rr : PV -> Prop} (hm : P.follows .mixedOrders = true) (hf : P.funcs[f]? = some fn) (r8 : (fn.name != "runtime.NumGoroutine") = true) (hc : Qe P fn = some sf.strip) (hn : args.length <= sf.n /\ sf.n <= 1000000)
  (hv:∀C:Ctx,C.P=P->vc C (rO (fS sf.rs Rr)) [.c sf.body] (jK args) aE):Qc P f args Rr:=
 ZK hm hf r8 hc hn fun C h _=>hv C h
theorem afH{ty w i d:Nat}{fz:Bool}{f:Nat->Rat}(h:i<w):jY (some ⟨3,ty,mM PV.rat f w,fz⟩) 3 true i 0 d fr hp K=K (af fr d (PV.rat (f i))) hp:=by rw[s8 (by rw[Gi];exact h) (by omega) (by simp),Ho];rfl
theorem ait:(vf (.au [])=True)/\(∀(k:IntKind)(n:Int),vf (.int k n)=True)/\(∀b:Bool,vf (.bool b)=True)/\(∀(e:Nat)(xs:List PV),vf (.sl e xs)=True)/\(∀cs:List PV,vf (.agg cs)=True)/\(∀cs:List PV,vf (.au cs)=True):=by refine⟨?_,?_,?_,?_,?_,?_⟩<;>intros<;>simp[vf,PV.refs,PV.bS,eM,dD]
attribute [go_sem] ait afH
end Go.FW
namespace Go.FW
open Go
variable {C : Ctx} {ρ : Nat -> Option Nat} {fr ay : Fr} {hp : HP} {w : World} {K R : Qg}
def yn(p:PV)(γ n:Nat)(ag:Bool)(i o d:Nat)(fr:Fr)(hp:HP)(K:Qg):Prop:=match p with
 |.aN bB e _ xs=>bB=γ/\∃h:i<xs.length,o+n<=e/\(ag=false->n=1)/\K (af fr d (qX ag n o (xs[i]'h))) hp
 |_=>False
theorem aiu{γ n i o d:Nat}{ag:Bool}:kE n ag (.np γ i o) d fr hp K=yn (fr γ) γ n ag i o d fr hp K:=by simp only[kE,yn];cases fr γ<;>rfl
def yx(p:PV)(h:Option HB)(v:Option (List PV))(γ n i o:Nat)(fr:Fr)(hp:HP)(K:Qg):Prop:=match p with
 |.aN bB e ty xs=>bB=γ/\(∃hb,h=some hb/\hb.fz=false)/\∃h:i<xs.length,o+n<=e/\match v with
   |some cs=>cs.length=n/\K (af (iF γ fr) γ (.aN γ e ty (xs.set i (gQ (pg (xs[i]'h).bj o cs))))) hp
   |none=>False
 |_=>False
theorem ai3{γ n i o:Nat}{v:PV}:oQ n (.np γ i o) v fr hp K=yx (fr γ) (hp γ) (fl v) γ n i o fr hp K:=by simp only[oQ,yx];cases fr γ<;>rfl
theorem aj7{γ e ty n o d:Nat}{ag:Bool}{x:PV}(h1:o+n<=e)(h2:ag=true∨n=1):yn (.aN γ e ty [x]) γ n ag 0 o d fr hp K=K (af fr d (qX ag n o x)) hp:=by have:(ag=false->n=1):=fun h=>h2.resolve_left (by simp[h]);simp[yn,h1];exact fun _=>this
theorem aj8{γ e ty n o e0 M4:Nat}{x:PV}{M5 cs:List PV}(h1:o+n<=e)(h2:cs.length=n):yx (.aN γ e ty [x]) (some ⟨e0,M4,M5,false⟩) (some cs) γ n 0 o fr hp K=K (af (iF γ fr) γ (.aN γ e ty [gQ (pg x.bj o cs)])) hp:=by simp[yx,h1,h2]
theorem aj9{γ ty B n w r d:Nat}{π:Nat->Nat}(h:r<n):yn (.aN γ 1 ty (jI (g8 B n w π))) γ 1 false r 0 d fr hp K=K (af fr d (.ms (B+π r) w)) hp:=by
 have hl:r<(jI (g8 B n w π)).length:=by simpa[jI,g8]using h
 simp only[yn,hl,exists_true_left,true_and,Kac,Kbc,implies_true];simp[qX,jI,g8,PV.bj,PV.cells]
theorem aka{γ ty B n w r m e0 M4:Nat}{π:Nat->Nat}{M5:List PV}(h:r<n):yx (.aN γ 1 ty (jI (g8 B n w π))) (some ⟨e0,M4,M5,false⟩) (some [.ms (B+m) w]) γ 1 r 0 fr hp K=K (af (iF γ fr) γ (.aN γ 1 ty (jI (g8 B n w fun x=>if x=r then m else π x)))) hp:=by
 have hl:r<(jI (g8 B n w π)).length:=by simpa[jI,g8]using h
 have e:(g8 B n w π).set r (B+m,w)=g8 B n w fun x=>if x=r then m else π x:=by
  refine KcT (by simp[g8]) fun j h1 h2=>?_;rw[Kde,NN,NN];split
  ·rename_i e;subst e;simp
  ·rename_i e;rw[if_neg fun e2=>e e2.symm]
 rw[<-e];simp only[yx,hl,exists_true_left,true_and,Kac,Kbc,KaB,exists_eq_left',KaX,Kbh];simp[gQ,pg,jI,PV.bj,PV.cells,Kc8]
theorem ao4:
  (∀(γ o n:Nat),fl (.aM γ o n)=some [.aM γ o n])/\
  (∀(k:IntKind)(n:Int),fl (.int k n)=some [.int k n])/\
  (∀(b:Bool),fl (.bool b)=some [.bool b])/\
  (fl .aa=some [.aa])/\
  (∀(e:Nat)(xs:List PV),fl (.sl e xs)=some [.sl e xs])/\
  (∀(cs:List PV),fl (.pt cs)=some [.pt cs])/\
  (∀(cs:List PV),fl (.agg cs)=some cs):=by
 refine⟨?_,?_,?_,?_,?_,?_,?_⟩<;>intros<;>rfl
theorem ai4{β o n:Nat}(h:1000000<=β):fl (.ax β o n)=some [.ax β o n]:=by simp[fl,b9,h]
theorem afJ{cs:List PV}:fl (.aT cs)=if cs.all PV.gU then some cs else none:=rfl
theorem akb:(∀(k:IntKind)(n:Int),(PV.int k n).gU=true)/\(∀b:Bool,(PV.bool b).gU=true)/\(PV.aa.gU=true)/\(∀(e:Nat)(xs:List PV),(PV.sl e xs).gU=true)/\(∀(β o n:Nat),(PV.ax β o n).gU=true)/\(∀(β o n:Nat),(PV.aM β o n).gU=true)/\(∀cs:List PV,(PV.pt cs).gU=true)/\(PV.undef.gU=false):=by refine⟨?_,?_,?_,?_,?_,?_,?_,?_⟩<;>intros<;>rfl
theorem akc:(∀(k:IntKind)(n:Int),(PV.int k n).oe=false)/\(∀b:Bool,(PV.bool b).oe=false)/\(PV.aa.oe=false)/\(∀(e:Nat)(xs:List PV),(PV.sl e xs).oe=false)/\(∀(β o n:Nat),(PV.ax β o n).oe=true)/\(∀(β o n:Nat),(PV.aM β o n).oe=true)/\(∀cs:List PV,(PV.pt cs).oe=false)/\(PV.undef.oe=true):=by refine⟨?_,?_,?_,?_,?_,?_,?_,?_⟩<;>intros<;>rfl
theorem abp{cs:List PV}(h:cs.any PV.oe=true):nA cs= .aT cs:=by simp[nA,h]
theorem abq{cs:List PV}(h:cs.any PV.oe=false):nA cs= .agg cs:=by simp[nA,h]
theorem ai5{a b:PV}{cs:List PV}:gQ (a::b::cs)=nA (a::b::cs):=rfl
theorem ai6{a:PV}:gQ [a]=a:=rfl
theorem akd{n o:Nat}{x:PV}:qX true n o x=nA ((x.bj.drop o).take n):=rfl
theorem ake{n o:Nat}{x:PV}:qX false n o x=(x.bj.drop o).headD .undef:=rfl
theorem afK{l cs:List PV}{o:Nat}:pg l o cs=l.take o++cs++l.drop (o+cs.length):=rfl
theorem ZL{cs:List PV}:(PV.aT cs).bj=cs:=rfl
theorem ZM{cs:List PV}:(PV.agg cs).bj=cs:=rfl
theorem akf{z:List PV}{ps:List (Nat×Nat×PV)}{d:Nat}(h:ps.any (fun p=>p.2.2.kD)=true):kn z ps d fr hp K=(s0 z.length ps/\K (af fr d (.aT (gZ z (ps.map fun p=>(p.1,(fl p.2.2).getD []))))) hp):=by simp only[kn,if_pos h]
theorem X9{len:Nat}:s0 len []=True:=by simp[s0]
theorem Xn{len o n:Nat}{v:PV}{ps:List (Nat×Nat×PV)}:s0 len ((o,n,v)::ps)=((∃cs,fl v=some cs/\cs.length=n/\o+n<=len)/\s0 len ps):=by simp[s0]
theorem ai7:(∀(γ o n:Nat),(PV.aM γ o n).kD=true)/\(∀(cs:List PV),(PV.aT cs).kD=true)/\(∀(β o n:Nat),(PV.ax β o n).kD=decide (2000000<=β))/\(∀(cs:List PV),(PV.agg cs).kD=false)/\(∀(k:IntKind)(n:Int),(PV.int k n).kD=false)/\(∀b:Bool,(PV.bool b).kD=false)/\(PV.aa.kD=false)/\(∀(e:Nat)(xs:List PV),(PV.sl e xs).kD=false):=by refine⟨?_,?_,?_,?_,?_,?_,?_,?_⟩<;>intros<;>rfl
theorem afL:(∀(β:Nat)(k:IntKind)(n:Int),im β (.int k n)= .int k n)/\(∀(β:Nat)(b:Bool),im β (.bool b)= .bool b)/\(∀β:Nat,im β .aa= .aa)/\(∀(β e:Nat)(xs:List PV),im β (.sl e xs)= .sl e xs)/\(∀(β γ o n:Nat),im β (.ax γ o n)=if γ=β then .undef else .ax γ o n)/\(∀(β γ o n:Nat),im β (.aM γ o n)=if γ=β then .undef else .aM γ o n):=by refine⟨?_,?_,?_,?_,?_,?_⟩<;>intros<;>rfl
theorem agn{β γ e ty:Nat}{x:PV}(h:γ≠β):cZ β (.aN γ e ty [x])= .aN γ e ty [gQ (x.bj.map (im β))]:=by simp[cZ,h]
theorem ago{β γ ty B n w:Nat}{π:Nat->Nat}(h:γ≠β)(h2:β<B):cZ β (.aN γ 1 ty (jI (g8 B n w π)))= .aN γ 1 ty (jI (g8 B n w π)):=by
 simp only[cZ,if_neg h];congr 1;conv=>rhs;rw[<-List.map_id (jI (g8 B n w π))]
 refine Kba fun x hx=>?_;obtain⟨y,hy,rfl⟩:=KaI.1 hx;obtain⟨r,hr,rfl⟩:=KaI.1 hy;simp only[PV.bj,PV.cells,Kbj,Kbu,im,gQ];rw[if_neg (by omega)];rfl
theorem aoJ{β δ γ ty B n w:Nat}{π:Nat->Nat}(al:β<1000000)(hB:2000000<=B)(ak:2000000<=γ):eM (l6 β δ) (.aN γ 1 ty (jI (g8 B n w π)))= .aN γ 1 ty (jI (g8 B n w π)):=by
 have e1:l6 β δ γ=γ:=by unfold l6;rw[if_neg (by omega)]
 simp only[eM,e1];congr 1;conv=>rhs;rw[<-List.map_id (jI (g8 B n w π))]
 refine Kba fun x hx=>?_;obtain⟨y,hy,rfl⟩:=KaI.1 hx;obtain⟨r,hr,rfl⟩:=KaI.1 hy;refine afG (.inr ⟨_,_,rfl⟩) fun du n' h=>?_;cases h;unfold l6;rw[if_neg (by omega)]
theorem akg{δ γ ty B n w:Nat}{π:Nat->Nat}(h:γ≠δ)(lh:δ<B):dR δ (.aN γ 1 ty (jI (g8 B n w π)))= .aN γ 1 ty (jI (g8 B n w π)):=by
 simp only[dR,if_neg h];congr 1;conv=>rhs;rw[<-List.map_id (jI (g8 B n w π))]
 refine Kba fun x hx=>?_;obtain⟨y,hy,rfl⟩:=KaI.1 hx;obtain⟨r,hr,rfl⟩:=KaI.1 hy;simp only[PV.bj,PV.cells,Kbj,Kbu,fg,gQ];rw[if_neg (by omega)];rfl
theorem abr{β:Nat}{cs:List PV}:bX β (.aT cs)= .aT cs:=rfl
theorem adm{γ:Nat}{cs:List PV}:dR γ (.aT cs)= .aT (cs.map (fg γ)):=rfl
theorem aa2{β:Nat}{cs:List PV}:cZ β (.aT cs)= .aT (cs.map (im β)):=rfl
theorem akh:(∀(γ:Nat)(k:IntKind)(n:Int),fg γ (.int k n)= .int k n)/\(∀(γ:Nat)(b:Bool),fg γ (.bool b)= .bool b)/\(∀γ:Nat,fg γ .aa= .aa)/\(∀(γ e:Nat)(xs:List PV),fg γ (.sl e xs)= .sl e xs)/\(∀(γ β o n:Nat),fg γ (.ax β o n)=if β=γ then .aM γ o n else .ax β o n)/\(∀(γ β o n:Nat),fg γ (.aM β o n)= .aM β o n):=by refine⟨?_,?_,?_,?_,?_,?_⟩<;>intros<;>rfl
theorem ai8{γ i o off d:Nat}:qw off (.np γ i o) d fr hp K=K (af fr d (.np γ i (o+off))) hp:=rfl
theorem aa3{γ bB e ty:Nat}{xs:List PV}:iZ γ (.aN bB e ty xs)=if bB=γ then .undef else .aN bB e ty xs:=rfl
theorem aa4{γ:Nat}{cs:List PV}:iZ γ (.aT cs)= .aT cs:=rfl
attribute [go_sem] ai8 aa3 aa4 false_and List.all_cons List.all_nil abr adm aa2 akh exists_eq_left' aiu ai3 aj7 aj8 aj9 aka ao4 ai4 afJ akb akc abp abq ai5 ai6 akd ake afK ZL ZM akf X9 Xn ai7 afL agn ago aoJ akg
theorem O8{p:PV}(h:re p):iu p=p:=by
 obtain⟨h1,h2,h3,h4⟩:=h;have h5:(p.refs.any kC||p.bS.any lk)=false:=by rw[Kcf,KbB,KbB];exact⟨fun x hx=>by simp[h1 x hx],fun x hx=>by simp[h2 x hx]⟩
 unfold iu;split
 ·exact absurd rfl (h3 _ _ _ _)
 ·exact absurd rfl (h4 _).1
 ·exact absurd rfl (h4 _).2.1
 ·exact absurd rfl ((h4 _).2.2 _)
 ·rw[h5];rfl
theorem CF{V W:List (Nat×Nat)}{B B':List Nat}{X Z F:Fr}(h:vn V W=true)(hB:(B'.all B.contains)=true):aQ V X (dk B' (aQ W Z (dk B F)))=aQ W (aQ V X (dk B' Z)) (dk B F):=by
 have e1:fT (aQ W Z (dk B F))=aQ W (fT Z) (dk B F):=by
  funext s;show iu (aQ W Z (dk B F) s)=_;unfold aQ;split
  ·rfl
  ·exact O8 (xd B F s)
 unfold dk;rw[show fT (aQ W Z (bC B (fT F)))=aQ W (fT Z) (bC B (fT F))from e1,Gd h hB]
theorem yX{V W:List (Nat×Nat)}{B:List Nat}{X Z F:Fr}(h:vn V W=true):aQ V X (fT (aQ W Z (bC B (fT F))))=aQ W (aQ V X (fT Z)) (bC B (fT F)):=by
 have e1:fT (aQ W Z (dk B F))=aQ W (fT Z) (dk B F):=by
  funext s;show iu (aQ W Z (dk B F) s)=_;unfold aQ;split
  ·rfl
  ·exact O8 (xd B F s)
 rw[show fT (aQ W Z (bC B (fT F)))=aQ W (fT Z) (bC B (fT F))from e1,nw h]
theorem Cl{V W:List (Nat×Nat)}{X Z F:Fr}(h:vn V W=true):aQ V X (fT (aQ W Z (fT F)))=aQ W (aQ V X (fT Z)) (fT F):=by have:=yX (V:=V) (W:=W) (B:=[]) (X:=X) (Z:=Z) (F:=F) h;simpa only[kb]using this
theorem aa5{γ:Nat}{F:Fr}:iF γ (fT F)=fT F:=by have:=TE (γ:=γ) (B:=[]) (F:=F);simpa only[dk,kb]using this
theorem aa6{β:Nat}{F:Fr}(h:2000000<=β):fF β (fT F)=fT F:=by have:=TC (B:=[]) (F:=F) h;simpa only[dk,kb]using this
attribute [go_sem] aa5 aa6
theorem aki:(∀(k:IntKind)(n:Int),(PV.int k n).bS=[])/\(∀b:Bool,(PV.bool b).bS=[])/\(PV.aa.bS=[])/\(PV.undef.bS=[])/\(∀(e:Nat)(xs:List PV),(PV.sl e xs).bS=[])/\(∀cs:List PV,(PV.agg cs).bS=[])/\(∀cs:List PV,(PV.au cs).bS=[])/\(∀cs:List PV,(PV.pt cs).bS=[])/\
  (∀(β o n:Nat),(PV.ax β o n).bS=[])/\(∀(β o n:Nat),(PV.mp β o n).bS=[])/\(∀(β o n:Nat),(PV.aM β o n).bS=[β])/\(∀(β o n:Nat),(PV.np β o n).bS=[β]):=by
 refine⟨?_,?_,?_,?_,?_,?_,?_,?_,?_,?_,?_,?_⟩<;>intros<;>rfl
attribute [go_sem] aki
theorem adn{d w i:Nat}{k:IntKind}{f:Nat->Rat}(h:i<w):dG 3 (.sl 3 (mM PV.rat f w)) (.int k (i:Nat)) d fr hp K=K (af fr d (.pt (PV.rat (f i)).cells)) hp:=by unfold mM;rw[w7 (by omega) (by simp;omega)];simp
theorem ado{α:Type}{p:α->PV}{f:Nat->α}{w d e:Nat}:ox (.sl e (mM p f w)) d fr hp K=K (af fr d (.int .i64 (w:Nat))) hp:=by simp[ox,mM]
attribute [go_sem] adn ado
theorem agp{i c:Nat}(h:c<1600000):(1600000+i=c)=False:=by simp;omega
attribute [go_sem] agp
end Go.FW
namespace Go.FW
open Go
variable {C C' : Ctx} {ρ bd : Nat -> Option Nat} {fr ay : Fr} {hp an : HP} {w : World} {K R : Qg}
theorem N2{γ e ty:Nat}{cs cs':List PV}(δ e' ty':Nat)(xW:fr γ= .aN γ e ty [.agg cs])(h1:hp δ=none)(h2:2000000<=δ)(h3:0<e')(hl:cs'.length=cs.length)(hc:∀p∈cs.zip cs',p.2=p.1∨(p.1= .aa/\p.2= .ax δ 0 0)):
  Wk fr hp (af fr γ (.aN γ e ty [.aT cs'])) (Qy hp δ ⟨e',ty',[],false⟩):=by
 have h:=acB (fr:=fr) (hp:=hp) (γ:=γ) (e:=e) (ty:=ty) (xs:=[.agg cs]) (xs':=[.aT cs']) (fun x=>if x=δ then some (e',ty')else none) xW (fun x y h=>?_) rfl (fun i x x' k1 k2=>?_)
 ·refine cast (congrArg (Wk fr hp (af fr γ (.aN γ e ty [.aT cs']))) (funext fun x=>?_)) h;unfold Qy;by_cases hx:x=δ
  ·subst hx;simp
  ·simp[hx]
 ·split at h
  ·rename_i hx;subst hx;cases h;exact⟨h1,h2,h3⟩
  ·cases h
 ·cases i with
  |succ i=>cases k1
  | zero=>
   cases k1;cases k2;refine⟨hl,fun j y y' q1 q2=>?_⟩;have hz:(y,y')∈cs.zip cs':=by refine Kai (i:=j) ?_;rw[List.getElem?_zip_eq_some];exact⟨q1,q2⟩
   rcases hc _ hz with h|⟨h,h'⟩
   ·exact .inl h
   ·exact .inr ⟨h,δ,(e',ty'),by simp,h'⟩
theorem H2{sk:List It}{r:RT}(s k:Nat)(l:List Nat){p D:PV}(h0:fr s=p)(h1:Wi fr k p)(h2:Uc fr hp k p=D)(h3:MT fr k p=l)(hv:vc C R (.o r::sk) (af fr s D) (cb hp l)):vc C R (.o (.wk r)::sk) fr hp:=by subst h0;subst h2;subst h3;exact mE (ahn s k h1) hv
end Go.FW
namespace Go.FW
open Go
abbrev MF:=Nat->Nat->Rat
abbrev LF:=Rat×(Nat->Rat)
variable {C : Ctx} {fr : Fr} {hp : HP} {w : World} {K R : Qg}
abbrev PV.wq(w:Nat)(f:Nat->Rat):PV:=.sl 3 (mM PV.rat f w)
theorem agq{ty w n i d:Nat}{fz:Bool}{M:MF}(h:i<n):jY (some ⟨1,ty,mM (PV.wq w) M n,fz⟩) 1 false i 0 d fr hp K=K (af fr d (PV.wq w (M i))) hp:=by rw[s8 (by rw[Gi];exact h) (by omega) (by simp),Ho];rfl
theorem adp{d w n i:Nat}{k:IntKind}{M:MF}(h:i<n):dG 1 (.sl 1 (mM (PV.wq w) M n)) (.int k (i:Nat)) d fr hp K=K (af fr d (.pt [PV.wq w (M i)])) hp:=by
 have hl:i<(mM (PV.wq w) M n).length:=by rw[Gi];exact h
 simp only[dG];simp[hl,Ho];rfl
attribute [go_sem] agq adp
theorem adq{ty i d:Nat}{fz:Bool}{α:Type}{p:α->PV}{L:List α}(h:i<L.length):jY (some ⟨1,ty,L.map p,fz⟩) 1 false i 0 d fr hp K=K (af fr d (eE false 1 0 (p (L[i]'h)))) hp:=by rw[s8 (by rw[KaV];exact h) (by omega) (by simp),KcB]
theorem adr{ty i d:Nat}{fz:Bool}{L:List LF}(h:i<L.length):jY (some ⟨3,ty,L.map (fun f=>PV.rat f.1),fz⟩) 3 true i 0 d fr hp K=K (af fr d (PV.rat (L[i]'h).1)) hp:=by rw[s8 (by rw[KaV];exact h) (by omega) (by simp),KcB];rfl
theorem ads{ty i d w:Nat}{fz:Bool}{L:List LF}(h:i<L.length):jY (some ⟨1,ty,L.map (fun f=>PV.wq w f.2),fz⟩) 1 false i 0 d fr hp K=K (af fr d (PV.wq w (L[i]'h).2)) hp:=by rw[adq h];rfl
attribute [go_sem] adr ads
def nm1(x:Nat):Bool:=decide (x=2000000)
theorem ai9:nm1 2000000=true:=decide_eq_true rfl
attribute [go_sem] ai9
theorem aja{p:PV}{ps:List PV}{d:Nat}{fr:Fr}{hp:HP}{K:Qg}:ki (.eO (p::ps)) 0 d fr hp K=K (af fr d p) hp:=rfl
theorem ajb{p q:PV}{ps:List PV}{d:Nat}{fr:Fr}{hp:HP}{K:Qg}:ki (.eO (p::q::ps)) 1 d fr hp K=K (af fr d q) hp:=rfl
attribute [go_sem] aja ajb
end Go.FW
namespace Go.FW
open Go
variable {C : Ctx} {fr : Fr} {hp : HP} {w : World} {K R : Qg}
theorem ajc{cs:List PV}{q:PV}{d:Nat}:ki (.eP cs q) 0 d fr hp K=K (af fr d (.aT cs)) hp:=rfl
theorem ajd{cs:List PV}{q:PV}{d:Nat}:ki (.eP cs q) 1 d fr hp K=K (af fr d q) hp:=rfl
theorem akj{n ty d:Nat}{cs:List PV}(h:cs.length=n)(h0:0<n)(hU:cs.all PV.gU=true)(qQ:cs.all (fun x=> !(x.dP.contains (4000000+d)))=true):
  fR n ty (.aT cs) d fr hp K=K (af (af (fF (4000000+d) fr) (4000000+d) (.aN (4000000+d) n ty [.aT cs])) d (.np (4000000+d) 0 0)) (Qy hp (4000000+d) ⟨n,ty,[],false⟩):=by
 show tq n ty cs d fr hp K=_;unfold tq cX;simp only[eq_iff_iff,and_iff_right_iff_imp];exact fun _=>⟨h,h0,hU,qQ⟩
theorem aoX{σ:Nat->Nat}{γ e ty:Nat}{cs:List PV}:eM σ (.aN γ e ty [.aT cs])= .aN (σ γ) e ty [gQ (cs.map (dD σ))]:=rfl
theorem akk{γ bB e ty:Nat}{cs:List PV}(h:bB≠γ):dR γ (.aN bB e ty [.aT cs])= .aN bB e ty [gQ (cs.map (fg γ))]:=by simp[dR,h,PV.bj]
theorem akl{γ e ty:Nat}{cs:List PV}{nm:Nat->Bool}:yD nm (.aN γ e ty [.aT cs])=if(γ::cs.flatMap PV.dP).any nm then .undef else .aN γ e ty [.aT cs]:=by simp[yD,PV.refs,PV.bS,PV.bj]
attribute [go_sem] ajc ajd akj aoX akk akl
end Go.FW
