/- Part 7 of the proof of TriangularZeros: W2, W3, CS, S1, S2, S3, S4, S5, S6, S7, S8, S9, T1, T1b, T1c, T1d, U1, U2, P4, U3, FwNG, FwNS, FwNT, FwNH, FwNI, FwNJ, FwVA, FwVB, FwVC, FwYA. Own lemmas; no conditions. -/
import Derived.Test.YtdjoomkeehihmaaGreatTriangularZerosPart6
set_option maxHeartbeats 1000000
set_option linter.unusedSimpArgs false
set_option linter.unusedVariables false
set_option linter.unnecessarySimpa false
set_option maxRecDepth 100000
namespace Go.Proofs.YtdjoomkeehihmaaGreat
open Go Go.FW
theorem Il(v:Nat)(n:Int)(h:n=((n.toNat:Nat):Int)):(List.replicate (v+1) (0:Int)).set v n=cM v n.toNat:=by
 unfold cM;rw[<-h];induction v with
 |zero=>rfl
 |succ v ih=>rw[Kbq,List.set_cons_succ,ih];rfl
theorem Qy0{p:List Tm}{v n K E:Nat}(hp:PB K E p)(hv:v<64)(hn:n<=E)(l9:2<=K)(hE:E<=2^37)(bV:p.length<=2^30)(hK:K<=2^32):
  Qc Tryz.prog 107 [PV.aj p,.int .i64 v,.int .i64 n] (· =PV.aj (gH p v n)):=by
 have ri:v<(List.replicate (v+1) (0:Int)).length:=by simp
 have jM:=l4;have WY:gH p v n=if n=0 then p else Q4 p [(1,cM v n)]:=rfl
 refine Qf Qo Tryz.func107 rfl agr (by simp[Jo]) fun C hP=>?_;simp only[Jo,Zo,Zg,Zm,Zc,Zf,Zl,Zh,Zs,Zi,Zb,Zk,Zn,Zu,Zq,Zr,Zz];refine Sz0 ?_;refine dM (fun h1=>by omega) (fun _=>?_);refine Sz0 ?_;refine dM (fun h1=>by omega) (fun _=>?_);refine Sz0 ?_;refine Qb (fun h0=>?_) (fun h0=>?_)
 ·obtain rfl:n=0:=by omega
  refine Sz0 ?_;exact Qd rfl rfl
 refine Sz0 ?_;rw[Il v n (by omega),KbD];have dX:(cM v n).length=v+1:=by simp[cM]
 refine Qa hP (rN (by omega) (by omega)) rfl rfl rfl ?_;generalize hc:((1:Int):Rat)=c;have oV:c=1:=hc.symm;refine Sz0 ?_;rw[Sg (p:=PV.rat c) (e:=1) (ty:=3) (fz:=false) (xs:=iV (cM v n)) rfl Tz0 (by simp[dX,iV])];have oU:PB K E [(c,cM v n)]:=fun t ht=>by
  obtain rfl:t=(c,cM v n):=by simpa using ht
  exact⟨by show rs c+1<=K;rw[oV];omega,(I3 hv).mono hn,Dv (by omega)⟩
 have ox:min p.length [(c,cM v n)].length*(K+K)<=1*(K+K):=Kaf _ (by simp;omega);have ko:p.length*[(c,cM v n)].length<=p.length:=by simp
 rw[if_neg (by omega),<-oV]at WY;refine Sz0 ?_;refine iQ hP (rP hp oU hE bV (by simp) (by omega) (by omega) (by omega)) Cy rfl ?_;refine Sz0 ?_;exact Qd (by rw[WY]) rfl
theorem GK{f g:List Tm}{v d N K E M:Nat}(nf:az f)(ng:az g)(bg:PB K E g)(hv:v<64)(iw:g≠[])(hd:Q3 g v=d)(hN:Q3 f v<N)(pX:bh f=false)
  (hb:∀k,k<N->PB K E (aD g v d f k).1/\PB K E (aD g v d f k).2) (yM:g.length<=M) (hM:M<=2^16) (hK:M*(K+K+2)+(M*(K+K+2)+(K+2))<=2^31) (l9:2<=K) (Mr:1<=M) (hE:E<=2^24) (Bc:0<N) (hN2:N<=2^30):
  Qc Tryz.prog 57 [PV.aj f,PV.aj g,.int .i64 v] (· =jG g v d N [] f 0):=by
 have hlen:∀ {p:List Tm},bh p=false->p.length<=4000:=fun {p} h=>by unfold bh at h;simp only[Kcf,decide_eq_false_iff_not]at h;omega
 have hKM:K+K+2<=M*(K+K+2):=by have:=Kaf (K+K+2) Mr;omega
 have ans:M*(K+K)<=M*(K+K+2):=Ka7 _ (by omega);have Bl:PB K E f:=(hb 0 Bc).2;have MV:∀t∈f,MB E t.2:=fun t ht=>(Bl t ht).m;have aor:=hlen pX;have fo:(aZ g v d).length<=M:=Kaw (qA _ _ _) yM;have iK:=qJ bg v (d:Int);refine Qf Qo Tryz.func57 rfl aj6 (by simp[Lm]) fun C hP=>?_;simp only[Lm,Zo,Zg,Zm,Zc,Zf,Zl,Zh,Zs,Zi,Zb,Zk,Zn,Zu,Zq,Zr,Zz];simp+decide (disch:=first|omega|rfl|(simp+decide only[go_sem]<;>rfl)|fail) only[go_sem,b9,bO];refine dM (fun h1=>by omega) (fun _=>?_);simp+decide (disch:=first|omega|rfl|(simp+decide only[go_sem]<;>rfl)|fail) only[go_sem,b9,bO];refine Qb (fun h1=>by omega) (fun _=>?_);simp+decide (disch:=first|omega|rfl|(simp+decide only[go_sem]<;>rfl)|fail) only[go_sem,b9,bO];refine Qb (fun h1=>absurd (Kas.1 (by omega)) iw) (fun _=>?_);simp+decide (disch:=first|omega|rfl|(simp+decide only[go_sem]<;>rfl)|fail) only[go_sem,b9,bO];refine Qa hP (GN MV (by omega)) rfl rfl rfl ?_;rw[pX];simp+decide (disch:=first|omega|rfl|(simp+decide only[go_sem]<;>rfl)|fail) only[go_sem,b9,bO];refine Qa hP (uU bg (by omega)) rfl rfl rfl ?_;rw[mO,hd];simp+decide (disch:=first|omega|rfl|(simp+decide only[go_sem]<;>rfl)|fail) only[go_sem,b9,bO];refine Qa hP (GS bg (by omega)) rfl rfl rfl ?_;rw[mO];simp+decide (disch:=first|omega|rfl|(simp+decide only[go_sem]<;>rfl)|fail) only[go_sem,b9,bO];refine rZ 6 4 (by simp+decide (disch:=first|omega|rfl|(simp+decide only[go_sem]<;>rfl)|fail) only[go_sem,b9,bO]) ?_;refine Qw (by repeat (first|exact Qr|exact Qk|exact Ql|exact Qm|exact Qn|apply Qj|apply Qq|apply Qx|apply Q5|apply Q6|apply Qi)) [(6,9),(12,13),(36,89)] [] (fun m J hp=>∃k,m=N-k/\k<=N/\((aD g v d f k).2≠[]->Q3 (aD g v d f k).2 v<N-k)/\(∃K' E',PB K' E' (aD g v d f k).2/\E'<=2^30)/\bh (aD g v d f k).1=false/\bh (aD g v d f k).2=false/\jG g v d (N-k) (aD g v d f k).1 (aD g v d f k).2 k=jG g v d N [] f 0/\
  J 6=PV.aj (aD g v d f k).1/\J 7=PV.aj (aD g v d f k).2/\J 8= .int .i64 (k:Nat)) N ?_ ?_
 ·refine⟨0,rfl,by omega,fun _=>by simpa[aD]using hN,⟨K,E,Bl,by omega⟩,rfl,pX,rfl,?_⟩;simp+decide (disch:=first|omega|rfl|(simp+decide only[go_sem]<;>rfl)|fail) only[go_sem,b9,bO];exact⟨rfl,rfl,rfl⟩
 rintro _ J h ⟨k,rfl,hk,MR,⟨K',E',Bn,hE'⟩,me,gB,dz,h6,h7,h8⟩;obtain⟨n1,n2⟩:=r7 (v:=v) (d:=d) nf ng k;have aG:aD g v d f (k+1)=(gJ (aD g v d f k).1 (aD g v d f k).2 g v (Q3 (aD g v d f k).2 v).toNat d,ej (aD g v d f k).2 g v (Q3 (aD g v d f k).2 v).toNat d):=rfl;have MH:=hb k;generalize(aD g v d f k).1=q at *
 generalize(aD g v d f k).2=r at *
 have sQ:=hlen me;have lE:=hlen gB;simp+decide (disch:=first|omega|rfl|(simp+decide only[go_sem,h6,h7,h8]<;>rfl)|fail) only[go_sem,b9,bO,h6,h7,h8];refine gw (fun hg=>?_) (fun hg=>?_)
 ·have jg:r≠[]:=fun h=>by rw[h]at hg;simp at hg
  have qi:=oI Bn jg v;have an9:=MR jg;have M5:k<N:=by omega
  obtain⟨b1,b2⟩:=MH M5;obtain⟨n,hn⟩:∃n:Nat,Q3 r v=n:=⟨(Q3 r v).toNat,by omega⟩
  have Nb:n<=E:=by have:=(oI b2 jg v).2;omega
  simp+decide (disch:=first|omega|rfl|(simp+decide only[go_sem,h6,h7,h8]<;>rfl)|fail) only[go_sem,b9,bO,h6,h7,h8];refine Qa hP (uU b2 (by omega)) rfl rfl rfl ?_;rw[mO,hn];simp+decide (disch:=first|omega|rfl|(simp+decide only[go_sem,h6,h7,h8]<;>rfl)|fail) only[go_sem,b9,bO,h6,h7,h8];refine Qb (fun hc=>?_) (fun hc=>?_)
  ·have hdn:d<=n:=by omega
   have e1:(n:Int)-(d:Int)=((n-d:Nat):Int):=by omega
   have Fp:=Gp n2 ng b2 jg hd (by omega);rw[hn,KbD]at aG Fp;obtain⟨q1,q2,q3,q4,q5,q6,q7,q8⟩:=Py (n:=n) (d:=d) b1 b2 bg yM hv Nb;have nb:az (c8 r v n d):=rQ (jU n2 v n) v (n-d);have hmr:min (aZ g v d).length r.length*(K+K)<=M*(K+K):=Kaf _ (by omega);have hmq:min (aZ g v d).length q.length*(K+K)<=M*(K+K):=Kaf _ (by omega);have WQ:min (c8 r v n d).length g.length*(K+2+(K+2))<=M*(K+K+2)+M*2:=by
    have:=Kaf (K+2+(K+2)) (show min (c8 r v n d).length g.length<=M by omega);have e:K+2+(K+2)=K+K+2+2:=by omega
    rw[e]at this⊢;rw[<-Nat.mul_add];exact this
   have me:(aZ g v d).length*r.length<=2^16*4000:=KaK (by omega) lE;have gB:(aZ g v d).length*q.length<=2^16*4000:=KaK (by omega) sQ;have Bz:(c8 r v n d).length*g.length<=4000*2^16:=KaK (by omega) (by omega);have BA:M*r.length<=2^16*4000:=KaK (by omega) lE;have hl5:M*q.length<=2^16*4000:=KaK (by omega) sQ;have hl6:r.length*M<=4000*2^16:=KaK lE hM;have hB:gH (aZ r v n) v (n-d)=c8 r v n d:=rfl;simp+decide (disch:=first|omega|rfl|(simp+decide only[go_sem,h6,h7,h8]<;>rfl)|fail) only[go_sem,b9,bO,h6,h7,h8];refine Qa hP (uU b2 (by omega)) rfl rfl rfl ?_;rw[mO,hn];simp+decide (disch:=first|omega|rfl|(simp+decide only[go_sem,h6,h7,h8]<;>rfl)|fail) only[go_sem,b9,bO,h6,h7,h8];refine Qa hP (GS b2 (by omega)) rfl rfl rfl ?_;rw[mO];simp+decide (disch:=first|omega|rfl|(simp+decide only[go_sem,h6,h7,h8,e1]<;>rfl)|fail) only[go_sem,b9,bO,h6,h7,h8,e1];refine Qa hP (Qy0 (E:=E) (K:=K) (qJ b2 v n) hv (by omega) l9 (by omega) (by have:=qA r v n;omega) (by omega)) rfl rfl rfl ?_;rw[hB];simp+decide (disch:=first|omega|rfl|(simp+decide only[go_sem,h6,h7,h8]<;>rfl)|fail) only[go_sem,b9,bO,h6,h7,h8];refine Qa hP (rP iK b1 (by omega) (by omega) (by omega) (by omega) (by omega) (by omega)) rfl rfl rfl ?_;simp+decide (disch:=first|omega|rfl|(simp+decide only[go_sem,h6,h7,h8]<;>rfl)|fail) only[go_sem,b9,bO,h6,h7,h8];refine Qa hP (Hq (K:=M*(K+K+2)) (E:=E+E) (q3.mono (by omega) (Kac _)) (q1.mono (by omega) (Kac _)) (by omega) (by omega) (by omega) (by omega)) rfl rfl rfl ?_;rw[show Q8 (Q4 (aZ g v d) q) (c8 r v n d)=gJ q r g v n d from rfl];simp+decide (disch:=first|omega|rfl|(simp+decide only[go_sem,h6,h7,h8]<;>rfl)|fail) only[go_sem,b9,bO,h6,h7,h8];refine Qa hP (rP iK b2 (by omega) (by omega) (by omega) (by omega) (by omega) (by omega)) rfl rfl rfl ?_;simp+decide (disch:=first|omega|rfl|(simp+decide only[go_sem,h6,h7,h8]<;>rfl)|fail) only[go_sem,b9,bO,h6,h7,h8];refine Qa hP (rP (q1.mono (Kac _) (by omega)) (bg.mono (K':=K+2) (E':=E+E) (by omega) (by omega)) (by omega) (by omega) (by omega) (by omega) (by omega) (by omega)) rfl rfl rfl ?_;simp+decide (disch:=first|omega|rfl|(simp+decide only[go_sem,h6,h7,h8]<;>rfl)|fail) only[go_sem,b9,bO,h6,h7,h8];refine Qa hP (Hr (K:=M*(K+K+2)) (E:=E+E+E) (q5.mono (by omega) (by omega)) q7 (by omega) (by omega) (by omega) (by omega) (by omega)) rfl rfl rfl ?_;rw[show fV (Q4 (aZ g v d) r) (Q4 (c8 r v n d) g)=ej r g v n d from rfl];have bQ:PB (M*(K+K)+(K+2)) (E+E) (gJ q r g v n d):=tI _ _ q3 q1;have lQ:(gJ q r g v n d).length<=2^33:=Kaw (tk _ _) (by omega);have bR:PB (M*(K+K)+(M*(K+K+2)+2)) (E+E+E) (ej r g v n d):=tI _ _ (q5.mono (Kac _) (by omega)) (xK q7);have lR:(ej r g v n d).length<=2^33:=Kaw (tk _ _) (by have:=uW (Q4 (c8 r v n d) g) (-1);have e:(lj (Q4 (c8 r v n d) g)).length=(b8 (Q4 (c8 r v n d) g) (-1)).length:=rfl;omega);have rm:¬(r=[]∨Q3 r v<d):=fun h=>h.elim jg (fun h=>by omega);have fM:=Hg (g:=g) (k:=k) (q:=q) (fuel:=N-(k+1)) rm;have gl:=G5 (g:=g) (k:=k) (q:=q) (fuel:=N-(k+1)) rm;rw[show N-(k+1)+1=N-k by omega,hn,KbD,dz]at fM gl;generalize gJ q r g v n d=q' at *
   generalize ej r g v n d=r' at *
   simp+decide (disch:=first|omega|rfl|(simp+decide only[go_sem,h6,h7,h8]<;>rfl)|fail) only[go_sem,b9,bO,h6,h7,h8];refine Qa hP (GN (fun t ht=>(bQ t ht).m) (by omega)) rfl rfl rfl ?_;cases iy:bh q'
   ·simp+decide (disch:=first|omega|rfl|(simp+decide only[go_sem,h6,h7,h8]<;>rfl)|fail) only[go_sem,b9,bO,h6,h7,h8];refine Qa hP (GN (fun t ht=>(bR t ht).m) (by omega)) rfl rfl rfl ?_;cases ri:bh r'
    ·simp+decide (disch:=first|omega|rfl|(simp+decide only[go_sem,h6,h7,h8]<;>rfl)|fail) only[go_sem,b9,bO,h6,h7,h8];refine Qa hP (uU bR (by omega)) rfl rfl rfl ?_;rw[mO];have MP:=fM (by simp[iy,ri]);have gm:¬((n:Int)<=Q3 r' v):=by omega
     simp+decide (disch:=first|omega|rfl|(simp+decide only[go_sem,h6,h7,h8,gm]<;>rfl)|fail) only[go_sem,b9,bO,h6,h7,h8,gm];refine Qg (N-(k+1)) (by omega) ⟨k+1,rfl,by omega,?_⟩;rw[aG];refine⟨fun _=>?_,⟨_,_,bR,by omega⟩,iy,ri,MP.symm,?_⟩
     ·show Q3 r' v<(N:Int)-((k+1:Nat):Int)
      omega
     simp+decide (disch:=first|omega|rfl|(simp+decide only[go_sem]<;>rfl)|fail) only[go_sem,b9,bO]
    ·have wb:=gl (.inr ri);simp+decide (disch:=first|omega|rfl|(simp+decide only[go_sem]<;>rfl)|fail) only[go_sem,b9,bO];exact tW wb rfl rfl rfl rfl pH pH (Qy _) (Qy _)
   ·have wb:=gl (.inl iy);simp+decide (disch:=first|omega|rfl|(simp+decide only[go_sem]<;>rfl)|fail) only[go_sem,b9,bO];exact tW wb rfl rfl rfl rfl pH pH (Qy _) (Qy _)
  ·have fM:=zE (g:=g) (q:=q) (k:=k) (show r=[]∨Q3 r v<d from .inr (by omega)) (N-k);rw[dz]at fM;simp+decide (disch:=first|omega|rfl|(simp+decide only[go_sem,h6,h7,h8]<;>rfl)|fail) only[go_sem,b9,bO,h6,h7,h8];exact tW fM rfl rfl rfl rfl (Qy _) (Qy _) (Qy _) (Qy _)
 ·have jg:r=[]:=Kas.1 (by omega);have fM:=zE (g:=g) (q:=q) (k:=k) (show r=[]∨Q3 r v<d from .inl jg) (N-k);rw[dz]at fM;simp+decide (disch:=first|omega|rfl|(simp+decide only[go_sem,h6,h7,h8]<;>rfl)|fail) only[go_sem,b9,bO,h6,h7,h8];exact tW fM rfl rfl rfl rfl (Qy _) (Qy _) (Qy _) (Qy _)
def JL:aA:=⟨24,[.t 2],Zr (Zo (.mv 2 (.c .aa)) .nil)<|Zr (Zm 5 0<|Zn 6 5<|Zm 3 6 .nil)<| .seq (.block 0<| .loop<| .seq (Zr (Zm 7 3<|Zk 8 .gtr 7 0<|Zm 9 8<|Zg 9 true (.mv 10 (.t 0))<|Zg 9 true (.mv 11 (.t 3))<|Zg 9 true (.bin 12 .sub false (.t 11) (.c (Zz 1)))<|Zg 9 true (.idx 13 1 (.t 10) (.t 12))<|Zg 9 true (.ld 14 1 false (.t 13))<|Zg 9 true (.bin 15 .eql false (.t 14) (.c (.int .u16 0)))<|Zo (.pick 16 (.t 9) (.t 15) (.c (.bool false))) .nil)<| .cond (.t 16) .skip (.exit 0))<| .block 1<| .rg (Zm 17 3<|Zk 18 .sub 17 1<|Zm 3 18 .nil))<|Zr (Zo (.mv 4 (.c .aa)) .nil)<|Zr (Zm 19 4<|Zm 20 0<|Zm 21 3<|Zo (.sl 22 1 (.t 20) none (some (.t 21)) none)<|Zo (.app 23 1 2 76 (.t 19) (.t 22))<|Zm 2 23 .nil) .ret⟩
theorem ahd:Qe Tryz.prog Tryz.f131=some JL:=by kernel_rfl
def LC:aA:=⟨15,[.t 2],Zr (Zo (.mv 2 (.c .aa)) .nil)<|Zr (Zo (.mv 3 (.c .aa)) .nil)<| .seq (.block 0<| .loop<| .seq (Zr (Zm 4 0<|Zo (.bin 5 .gtr false (.t 4) (.c (.int .u64 0))) .nil)<| .cond (.t 5) .skip (.exit 0))<| .block 1<|Zr (Zm 6 3<|Zm 7 0<|Zo (.bin 8 .rem false (.t 7) (.c (.int .u64 65536)))<|Zo (.conv 9 .u16 (.t 8))<|Zo (.bs 10 1 76 [.t 9])<|Zo (.app 11 1 2 76 (.t 6) (.t 10))<|Zm 3 11 .nil)<| .rg (Zm 12 0<|Zo (.bin 13 .quo false (.t 12) (.c (.int .u64 65536)))<|Zm 0 13 .nil))<|Zr (Zm 14 3<|Zm 2 14 .nil) .ret⟩
theorem ajF:Qe Tryz.prog Tryz.f74=some LC:=by kernel_rfl
def Km:aA:=⟨21,[.t 2],Zr (Zo (.mv 2 (.c (.int .u64 0))) .nil)<|Zr (Zo (.mv 3 (.c (.int .u64 0))) .nil)<| .seq (Zr (Zm 5 0<|Zn 6 5<|Zk 7 .sub 6 1<|Zm 4 7 .nil)<| .block 0<| .loop<| .seq (Zr (Zm 8 4<|Zk 9 .geq 8 0 .nil)<| .cond (.t 9) .skip (.exit 0))<| .seq (.block 1<| .rg (Zm 12 3<|Zo (.bin 13 .mul false (.t 12) (.c (.int .u64 65536)))<|Zm 14 0<|Zm 15 4<|Zi 16 1 14 15<|Zl 17 1 16<|Zo (.conv 18 .u64 (.t 17))<|Zb 19 .add 13 18<|Zm 3 19 .nil))<| .rg (Zm 10 4<|Zk 11 .sub 10 1<|Zm 4 11 .nil))<|Zr (Zm 20 3<|Zm 2 20 .nil) .ret⟩
theorem ahe:Qe Tryz.prog Tryz.f164=some Km:=by kernel_rfl
def Ka:aA:=⟨14,[.t 4],Zr (Zc 4 0 .nil)<| .seq (Zr (Zm 5 1<|Zm 6 0<|Zn 7 6<|Zb 8 .lss 5 7 .nil)<| .cond (.t 8) (Zr (Zm 9 0<|Zm 10 1<|Zi 11 1 9 10<|Zl 12 1 11<|Zo (.conv 13 .i64 (.t 12))<|Zm 4 13 .nil) .ret) .skip)<|Zr (Zc 4 0 .nil) .ret⟩
theorem ahf:Qe Tryz.prog Tryz.f153=some Ka:=by kernel_rfl
def Kr:aA:=⟨30,[.t 4],Zr (Zc 4 0 .nil)<| .seq (Zr (Zm 6 0<|Zn 7 6<|Zm 8 1<|Zn 9 8<|Zo (.mx 10 (.t 7) (.t 9))<|Zk 11 .sub 10 1<|Zm 5 11 .nil)<| .block 0<| .loop<| .seq (Zr (Zm 12 5<|Zk 13 .geq 12 0 .nil)<| .cond (.t 13) .skip (.exit 0))<| .seq (.block 1<| .seq (Zr (Zm 16 0<|Zm 17 5<|Zq 18 false 153 [.t 16,.t 17]<|Zm 19 1<|Zm 20 5<|Zq 21 false 153 [.t 19,.t 20]<|Zb 22 .lss 18 21 .nil)<| .cond (.t 22) (Zr (Zc 4 (-1) .nil) .ret) .skip)<|Zr (Zm 23 0<|Zm 24 5<|Zq 25 false 153 [.t 23,.t 24]<|Zm 26 1<|Zm 27 5<|Zq 28 false 153 [.t 26,.t 27]<|Zb 29 .gtr 25 28 .nil)<| .cond (.t 29) (Zr (Zc 4 1 .nil) .ret) .skip)<| .rg (Zm 14 5<|Zk 15 .sub 14 1<|Zm 5 15 .nil))<|Zr (Zc 4 0 .nil) .ret⟩
theorem ahg:Qe Tryz.prog Tryz.f169=some Kr:=by kernel_rfl
def JO:aA:=⟨44,[.t 4],Zr (Zo (.mv 4 (.c .aa)) .nil)<|Zr (Zo (.mv 5 (.c .aa)) .nil)<|Zr (Zc 6 0 .nil)<| .seq (Zr (Zc 7 0 .nil)<| .block 0<| .loop<| .seq (Zr (Zm 9 7<|Zm 10 0<|Zn 11 10<|Zb 12 .lss 9 11<|Zm 13 12<|Zg 13 false (.mv 14 (.t 7))<|Zg 13 false (.mv 15 (.t 1))<|Zg 13 false (.len 16 (.t 15))<|Zg 13 false (.bin 17 .lss false (.t 14) (.t 16))<|Zo (.pick 18 (.t 13) (.c (.bool true)) (.t 17))<|Zm 19 18<|Zg 19 false (.mv 20 (.t 6))<|Zg 19 false (.bin 21 .gtr false (.t 20) (.c (Zz 0)))<|Zo (.pick 22 (.t 19) (.c (.bool true)) (.t 21)) .nil)<| .cond (.t 22) .skip (.exit 0))<| .seq (.block 1<|Zr (Zm 25 0<|Zm 26 7<|Zq 27 false 153 [.t 25,.t 26]<|Zm 28 1<|Zm 29 7<|Zq 30 false 153 [.t 28,.t 29]<|Zb 31 .add 27 30<|Zm 32 6<|Zb 33 .add 31 32<|Zm 8 33 .nil)<|Zr (Zm 34 5<|Zm 35 8<|Zk 36 .rem 35 65536<|Zo (.conv 37 .u16 (.t 36))<|Zo (.bs 38 1 76 [.t 37])<|Zo (.app 39 1 2 76 (.t 34) (.t 38))<|Zm 5 39 .nil)<| .rg (Zm 40 8<|Zk 41 .quo 40 65536<|Zm 6 41 .nil))<| .rg (Zm 23 7<|Zk 24 .add 23 1<|Zm 7 24 .nil))<|Zr (Zm 42 5<|Zq 43 false 131 [.t 42]<|Zm 4 43 .nil) .ret⟩
theorem ahh:Qe Tryz.prog Tryz.f134=some JO:=by kernel_rfl
def J9:aA:=⟨40,[.t 4,.t 5],Zr (Zo (.mv 4 (.c .aa))<|Zc 5 0 .nil)<| .seq (Zr (Zm 10 0<|Zm 11 1<|Zq 12 false 169 [.t 10,.t 11]<|Zk 13 .lss 12 0 .nil)<| .cond (.t 13) (Zr (Zo (.mv 4 (.c .aa))<|Zc 5 2 .nil) .ret) .skip)<|Zr (Zo (.mv 6 (.c .aa)) .nil)<|Zr (Zc 7 0 .nil)<| .seq (Zr (Zc 8 0 .nil)<| .block 0<| .loop<| .seq (Zr (Zm 14 8<|Zm 15 0<|Zn 16 15<|Zb 17 .lss 14 16 .nil)<| .cond (.t 17) .skip (.exit 0))<| .seq (.block 1<|Zr (Zm 20 0<|Zm 21 8<|Zq 22 false 153 [.t 20,.t 21]<|Zm 23 1<|Zm 24 8<|Zq 25 false 153 [.t 23,.t 24]<|Zb 26 .sub 22 25<|Zm 27 7<|Zb 28 .sub 26 27<|Zm 9 28 .nil)<|Zr (Zc 7 0 .nil)<| .seq (Zr (Zm 29 9<|Zk 30 .lss 29 0 .nil)<| .cond (.t 30) (Zr (Zm 31 9<|Zk 32 .add 31 65536<|Zm 9 32 .nil)<| .rg (Zc 7 1 .nil)) .skip)<| .rg (Zm 33 6<|Zm 34 9<|Zo (.conv 35 .u16 (.t 34))<|Zo (.bs 36 1 76 [.t 35])<|Zo (.app 37 1 2 76 (.t 33) (.t 36))<|Zm 6 37 .nil))<| .rg (Zm 18 8<|Zk 19 .add 18 1<|Zm 8 19 .nil))<|Zr (Zm 38 6<|Zq 39 false 131 [.t 38]<|Zm 4 39<|Zc 5 0 .nil) .ret⟩
theorem ahi:Qe Tryz.prog Tryz.f152=some J9:=by kernel_rfl
def Jk:aA:=⟨65,[.t 4],Zr (Zo (.mv 4 (.c .aa)) .nil)<|Zr (Zm 10 0<|Zn 11 10<|Zm 12 1<|Zn 13 12<|Zb 14 .add 11 13<|Zk 15 .add 14 1<|Zo (.mk 16 1 2 76 (.int .u16 0) (.t 15) (.t 15))<|Zm 5 16 .nil)<| .seq (Zr (Zc 6 0 .nil)<| .block 0<| .loop<| .seq (Zr (Zm 17 6<|Zm 18 0<|Zn 19 18<|Zb 20 .lss 17 19 .nil)<| .cond (.t 20) .skip (.exit 0))<| .seq (.block 1<|Zr (Zo (.mv 7 (.c (.int .u64 0))) .nil)<|Zr (Zc 8 0 .nil)<| .block 2<| .loop<| .seq (Zr (Zm 23 8<|Zm 24 1<|Zn 25 24<|Zb 26 .lss 23 25<|Zm 27 26<|Zg 27 false (.mv 28 (.t 7))<|Zg 27 false (.bin 29 .gtr false (.t 28) (.c (.int .u64 0)))<|Zo (.pick 30 (.t 27) (.c (.bool true)) (.t 29)) .nil)<| .cond (.t 30) .skip (.exit 2))<| .seq (.block 3<|Zr (Zm 33 5<|Zm 34 6<|Zm 35 8<|Zb 36 .add 34 35<|Zi 37 1 33 36<|Zl 38 1 37<|Zo (.conv 39 .u64 (.t 38))<|Zm 40 0<|Zm 41 6<|Zi 42 1 40 41<|Zl 43 1 42<|Zo (.conv 44 .u64 (.t 43))<|Zm 45 1<|Zm 46 8<|Zm 51 7<|Zq 47 true 153 [.t 45,.t 46]<|Zo (.conv 48 .u64 (.t 47))<|Zb 49 .mul 44 48<|Zb 50 .add 39 49<|Zb 52 .add 50 51<|Zm 9 52 .nil)<|Zr (Zm 53 5<|Zm 54 6<|Zm 55 8<|Zb 56 .add 54 55<|Zm 57 9<|Zo (.bin 58 .rem false (.t 57) (.c (.int .u64 65536)))<|Zo (.conv 59 .u16 (.t 58))<|Zi 60 1 53 56<|Zs 1 60 59 .nil)<| .rg (Zm 61 9<|Zo (.bin 62 .quo false (.t 61) (.c (.int .u64 65536)))<|Zm 7 62 .nil))<| .rg (Zm 31 8<|Zk 32 .add 31 1<|Zm 8 32 .nil))<| .rg (Zm 21 6<|Zk 22 .add 21 1<|Zm 6 22 .nil))<|Zr (Zm 63 5<|Zq 64 false 131 [.t 63]<|Zm 4 64 .nil) .ret⟩
theorem ahj:Qe Tryz.prog Tryz.f103=some Jk:=by kernel_rfl
def Kn:aA:=⟨27,[.t 4],Zr (Zo (.mv 4 (.c (.int .u64 0))) .nil)<|Zr (Zo (.mv 5 (.c (.int .u64 0)))<|Zo (.mv 6 (.c (.int .u64 65535))) .nil)<| .seq (.block 0<| .loop<| .seq (Zr (Zm 8 5<|Zm 9 6<|Zb 10 .lss 8 9 .nil)<| .cond (.t 10) .skip (.exit 0))<| .block 1<|Zr (Zm 11 5<|Zm 12 6<|Zb 13 .add 11 12<|Zo (.bin 14 .add false (.t 13) (.c (.int .u64 1)))<|Zo (.bin 15 .quo false (.t 14) (.c (.int .u64 2)))<|Zm 7 15 .nil)<|Zr (Zm 16 1<|Zm 17 7<|Zq 18 false 74 [.t 17]<|Zq 19 false 103 [.t 16,.t 18]<|Zm 20 0<|Zq 21 false 169 [.t 19,.t 20]<|Zk 22 .leq 21 0 .nil)<| .cond (.t 22) (.rg (Zm 23 7<|Zm 5 23 .nil)) (.rg (Zm 24 7<|Zo (.bin 25 .sub false (.t 24) (.c (.int .u64 1)))<|Zm 6 25 .nil)))<|Zr (Zm 26 5<|Zm 4 26 .nil) .ret⟩
theorem ahk:Qe Tryz.prog Tryz.f165=some Kn:=by kernel_rfl
def JJ:aA:=⟨73,[.t 4,.t 5,.t 6],Zr (Zo (.mv 4 (.c .aa))<|Zo (.mv 5 (.c .aa))<|Zc 6 0 .nil)<|Zr (Zm 11 0<|Zq 12 false 131 [.t 11]<|Zm 13 1<|Zq 14 false 131 [.t 13]<|Zm 0 12<|Zm 1 14 .nil)<| .seq (Zr (Zm 15 1<|Zn 16 15<|Zk 17 .eql 16 0 .nil)<| .cond (.t 17) (Zr (Zo (.mv 4 (.c .aa))<|Zo (.mv 5 (.c .aa))<|Zc 6 3 .nil) .ret) .skip)<| .seq (Zr (Zm 18 0<|Zn 19 18<|Zk 20 .leq 19 4<|Zm 21 20<|Zg 21 true (.mv 22 (.t 1))<|Zg 21 true (.len 23 (.t 22))<|Zg 21 true (.bin 24 .leq false (.t 23) (.c (Zz 4)))<|Zo (.pick 25 (.t 21) (.t 24) (.c (.bool false))) .nil)<| .cond (.t 25) (Zr (Zm 26 0<|Zq 27 false 164 [.t 26]<|Zm 28 1<|Zq 29 false 164 [.t 28]<|Zb 30 .quo 27 29<|Zq 31 false 74 [.t 30]<|Zm 32 0<|Zq 33 false 164 [.t 32]<|Zm 34 1<|Zq 35 false 164 [.t 34]<|Zb 36 .rem 33 35<|Zq 37 false 74 [.t 36]<|Zm 4 31<|Zm 5 37<|Zc 6 0 .nil) .ret) .skip)<|Zr (Zo (.mv 7 (.c .aa))<|Zo (.mv 8 (.c .aa)) .nil)<| .seq (Zr (Zm 38 0<|Zn 39 38<|Zk 40 .sub 39 1<|Zm 9 40 .nil)<| .block 0<| .loop<| .seq (Zr (Zm 41 9<|Zk 42 .geq 41 0 .nil)<| .cond (.t 42) .skip (.exit 0))<| .seq (.block 1<|Zr (Zm 45 0<|Zm 46 9<|Zi 47 1 45 46<|Zl 48 1 47<|Zo (.bs 49 1 76 [.t 48])<|Zm 50 8<|Zo (.app 51 1 2 76 (.t 49) (.t 50))<|Zq 52 false 131 [.t 51]<|Zm 8 52 .nil)<|Zr (Zm 53 8<|Zm 54 1<|Zq 55 false 165 [.t 53,.t 54]<|Zm 10 55 .nil)<|Zr (Zm 56 10<|Zo (.conv 57 .u16 (.t 56))<|Zo (.bs 58 1 76 [.t 57])<|Zm 59 7<|Zo (.app 60 1 2 76 (.t 58) (.t 59))<|Zm 7 60 .nil)<| .rg (Zm 62 8<|Zm 63 1<|Zm 64 10<|Zq 65 false 74 [.t 64]<|Zq 66 false 103 [.t 63,.t 65]<|Zq 67 false 152 [.t 62,.t 66]<|Zm 61 67<|Zo (.ext 68 (.t 61) 0)<|Zo (.ext 69 (.t 61) 1)<|Zm 8 68 .nil))<| .rg (Zm 43 9<|Zk 44 .sub 43 1<|Zm 9 44 .nil))<|Zr (Zm 70 7<|Zq 71 false 131 [.t 70]<|Zm 72 8<|Zm 4 71<|Zm 5 72<|Zc 6 0 .nil) .ret⟩
theorem ahl:Qe Tryz.prog Tryz.f129=some JJ:=by kernel_rfl
def JI:aA:=⟨25,[.t 4],Zr (Zo (.mv 4 (.c .aa)) .nil)<|Zr (Zm 8 0<|Zq 9 false 131 [.t 8]<|Zm 10 1<|Zq 11 false 131 [.t 10]<|Zm 0 9<|Zm 1 11 .nil)<| .seq (.block 0<| .loop<| .seq (Zr (Zm 12 1<|Zn 13 12<|Zk 14 .gtr 13 0 .nil)<| .cond (.t 14) .skip (.exit 0))<| .block 1<|Zr (Zm 16 0<|Zm 17 1<|Zq 18 false 129 [.t 16,.t 17]<|Zm 15 18<|Zo (.ext 19 (.t 15) 0)<|Zo (.ext 20 (.t 15) 1)<|Zo (.ext 21 (.t 15) 2)<|Zm 5 19<|Zm 6 20<|Zm 7 21 .nil)<| .rg (Zm 22 1<|Zm 23 6<|Zm 0 22<|Zm 1 23 .nil))<|Zr (Zm 24 0<|Zm 4 24 .nil) .ret⟩
theorem ahm:Qe Tryz.prog Tryz.f128=some JI:=by kernel_rfl
def JV:aA:=⟨15,[.t 2],Zr (Zo (.mv 2 (.c (.bool false))) .nil)<|Zr (Zm 3 0<|Zn 4 3<|Zk 5 .eql 4 0<|Zm 6 5<|Zg 6 false (.mv 7 (.t 0))<|Zg 6 false (.mv 8 (.t 0))<|Zg 6 false (.len 9 (.t 8))<|Zg 6 false (.bin 10 .sub false (.t 9) (.c (Zz 1)))<|Zg 6 false (.idx 11 1 (.t 7) (.t 10))<|Zg 6 false (.ld 12 1 false (.t 11))<|Zg 6 false (.bin 13 .neq false (.t 12) (.c (.int .u16 0)))<|Zo (.pick 14 (.t 6) (.c (.bool true)) (.t 13))<|Zm 2 14 .nil) .ret⟩
theorem ahn:Qe Tryz.prog Tryz.f140=some JV:=by kernel_rfl
def JW:aA:=⟨26,[.t 4],Zr (Zo (.mv 4 (.c (.bool false))) .nil)<| .seq (Zr (Zm 6 0<|Zn 7 6<|Zm 8 1<|Zn 9 8<|Zb 10 .neq 7 9 .nil)<| .cond (.t 10) (Zr (Zo (.mv 4 (.c (.bool false))) .nil) .ret) .skip)<| .seq (Zr (Zc 5 0 .nil)<| .block 0<| .loop<| .seq (Zr (Zm 11 5<|Zm 12 0<|Zn 13 12<|Zb 14 .lss 11 13 .nil)<| .cond (.t 14) .skip (.exit 0))<| .seq (.block 1<|Zr (Zm 17 0<|Zm 18 5<|Zi 19 1 17 18<|Zl 20 1 19<|Zm 21 1<|Zm 22 5<|Zi 23 1 21 22<|Zl 24 1 23<|Zb 25 .neq 20 24 .nil)<| .cond (.t 25) (Zr (Zo (.mv 4 (.c (.bool false))) .nil) .ret) .skip)<| .rg (Zm 15 5<|Zk 16 .add 15 1<|Zm 5 16 .nil))<|Zr (Zo (.mv 4 (.c (.bool true))) .nil) .ret⟩
theorem aho:Qe Tryz.prog Tryz.f141=some JW:=by kernel_rfl
def JT:aA:=⟨17,[.t 2],Zr (Zo (.box 1 2 41 (.t 0))<|Zo (.mv 2 (.c (.bool false))) .nil)<|Zr (Zf 3 1 1<|Zl 4 1 3<|Zq 5 false 140 [.t 4]<|Zm 6 5<|Zg 6 true (.cC 7 0 (.t 1))<|Zg 6 true (.ld 8 1 false (.t 7))<|Zg 6 true (.mv 9 (.t 8))<|Zg 9 true (.cC 10 1 (.t 1))<|Zg 9 true (.ld 11 1 false (.t 10))<|Zg 9 true (.len 12 (.t 11))<|Zg 9 true (.bin 13 .eql false (.t 12) (.c (Zz 0)))<|Zg 6 true (.pick 14 (.t 9) (.t 13) (.c (.bool false)))<|Zg 6 true (.un 15 .not (.t 14))<|Zo (.pick 16 (.t 6) (.t 15) (.c (.bool false)))<|Zm 2 16 .nil) .ret⟩
theorem ahp:Qe Tryz.prog Tryz.f139=some JT:=by kernel_rfl
def JN:aA:=⟨15,[.cell 4 2 true],Zr (Zo (.alloc 4 2 41 (.agg [.bool false,.aa])) .nil)<|Zr (Zm 5 1<|Zq 6 false 131 [.t 5]<|Zm 1 6 .nil)<|Zr (Zm 7 0<|Zm 8 7<|Zg 8 true (.mv 9 (.t 1))<|Zg 8 true (.len 10 (.t 9))<|Zg 8 true (.bin 11 .gtr false (.t 10) (.c (Zz 0)))<|Zo (.pick 12 (.t 8) (.t 11) (.c (.bool false)))<|Zm 13 1<|Zo (.bU 14 [.bool false,.aa] [(0,1,.t 12),(1,1,.t 13)])<|Zs 2 4 14 .nil) .ret⟩
theorem ahq:Qe Tryz.prog Tryz.f133=some JN:=by kernel_rfl
def JM:aA:=⟨8,[.cell 2 2 true],Zr (Zo (.box 1 2 41 (.t 0))<|Zo (.alloc 2 2 41 (.agg [.bool false,.aa])) .nil)<|Zr (Zf 3 0 1<|Zl 4 1 3<|Zf 5 1 1<|Zl 6 1 5<|Zq 7 false 133 [.t 4,.t 6]<|Zs 2 2 7 .nil) .ret⟩
theorem ahr:Qe Tryz.prog Tryz.f132=some JM:=by kernel_rfl
def LB:aA:=⟨17,[.cell 2 2 true],Zr (Zo (.alloc 2 2 41 (.agg [.bool false,.aa])) .nil)<| .seq (Zr (Zm 3 0<|Zk 4 .lss 3 0 .nil)<| .cond (.t 4) (Zr (Zm 5 0<|Zk 6 .add 5 1<|Zo (.un 7 .neg (.t 6))<|Zo (.conv 8 .u64 (.t 7))<|Zq 9 false 74 [.t 8]<|Zq 10 false 74 [.c (.int .u64 1)]<|Zq 11 false 134 [.t 9,.t 10]<|Zq 12 false 133 [.c (.bool true),.t 11]<|Zs 2 2 12 .nil) .ret) .skip)<|Zr (Zm 13 0<|Zo (.conv 14 .u64 (.t 13))<|Zq 15 false 74 [.t 14]<|Zq 16 false 133 [.c (.bool false),.t 15]<|Zs 2 2 16 .nil) .ret⟩
theorem ajG:Qe Tryz.prog Tryz.f73=some LB:=by kernel_rfl
def Jl:aA:=⟨11,[.t 2],Zr (Zo (.box 1 2 41 (.t 0))<|Zc 2 0 .nil)<|Zr (Zh 3 2 1<|Zq 4 false 132 [.t 3]<|Zs 2 1 4 .nil)<| .seq (Zr (Zf 5 1 1<|Zl 6 1 5<|Zn 7 6<|Zk 8 .eql 7 0 .nil)<| .cond (.t 8) (Zr (Zc 2 0 .nil) .ret) .skip)<| .seq (Zr (Zf 9 0 1<|Zl 10 1 9 .nil)<| .cond (.t 10) (Zr (Zc 2 (-1) .nil) .ret) .skip)<|Zr (Zc 2 1 .nil) .ret⟩
theorem ahs:Qe Tryz.prog Tryz.f104=some Jl:=by kernel_rfl
def JS:aA:=⟨38,[.t 4],Zr (Zo (.box 2 2 41 (.t 0))<|Zo (.box 3 2 41 (.t 1))<|Zc 4 0 .nil)<|Zr (Zh 5 2 2<|Zh 7 2 3<|Zq 6 true 132 [.t 5]<|Zq 8 true 132 [.t 7]<|Zs 2 2 6<|Zs 2 3 8 .nil)<| .seq (.block 0<|Zr (Zf 10 0 2<|Zl 11 1 10<|Zm 12 11<|Zg 12 true (.cC 13 0 (.t 3))<|Zg 12 true (.ld 14 1 false (.t 13))<|Zg 12 true (.un 15 .not (.t 14))<|Zo (.pick 16 (.t 12) (.t 15) (.c (.bool false)))<|Zm 9 16 .nil)<| .cond (.t 9) (Zr (Zc 4 (-1) .nil) .ret) (Zr (Zf 18 0 3<|Zl 19 1 18<|Zm 20 19<|Zg 20 true (.cC 21 0 (.t 2))<|Zg 20 true (.ld 22 1 false (.t 21))<|Zg 20 true (.un 23 .not (.t 22))<|Zo (.pick 24 (.t 20) (.t 23) (.c (.bool false)))<|Zm 17 24 .nil)<| .cond (.t 17) (Zr (Zc 4 1 .nil) .ret) (Zr (Zf 26 0 2<|Zl 27 1 26<|Zm 25 27 .nil)<| .cond (.t 25) (Zr (Zf 28 1 3<|Zl 29 1 28<|Zf 30 1 2<|Zl 31 1 30<|Zq 32 false 169 [.t 29,.t 31]<|Zm 4 32 .nil) .ret) .skip)))<|Zr (Zf 33 1 2<|Zl 34 1 33<|Zf 35 1 3<|Zl 36 1 35<|Zq 37 false 169 [.t 34,.t 36]<|Zm 4 37 .nil) .ret⟩
theorem aht:Qe Tryz.prog Tryz.f138=some JS:=by kernel_rfl
def Ko:aA:=⟨9,[.cell 2 2 true],Zr (Zo (.box 1 2 41 (.t 0))<|Zo (.alloc 2 2 41 (.agg [.bool false,.aa])) .nil)<|Zr (Zf 3 0 1<|Zl 4 1 3<|Zu 5 4<|Zf 6 1 1<|Zl 7 1 6<|Zq 8 false 133 [.t 5,.t 7]<|Zs 2 2 8 .nil) .ret⟩
theorem ahu:Qe Tryz.prog Tryz.f166=some Ko:=by kernel_rfl
def Jh:aA:=⟨48,[.cell 4 2 true],Zr (Zo (.box 2 2 41 (.t 0))<|Zo (.box 3 2 41 (.t 1))<|Zo (.alloc 4 2 41 (.agg [.bool false,.aa])) .nil)<| .seq (Zr (Zf 9 0 2<|Zl 10 1 9<|Zf 11 0 3<|Zl 12 1 11<|Zo (.bin 13 .eql true (.t 10) (.t 12)) .nil)<| .cond (.t 13) (Zr (Zf 14 0 2<|Zl 15 1 14<|Zf 16 1 2<|Zl 17 1 16<|Zf 18 1 3<|Zl 19 1 18<|Zq 20 true 134 [.t 17,.t 19]<|Zq 21 true 133 [.t 15,.t 20]<|Zs 2 4 21 .nil) .ret) .skip)<| .seq (Zr (Zf 23 1 2<|Zl 24 1 23<|Zf 25 1 3<|Zl 26 1 25<|Zq 27 false 152 [.t 24,.t 26]<|Zm 22 27<|Zo (.ext 28 (.t 22) 0)<|Zo (.ext 29 (.t 22) 1)<|Zm 5 28<|Zm 6 29 .nil)<|Zr (Zm 30 6<|Zk 31 .eql 30 0 .nil)<| .cond (.t 31) (Zr (Zf 32 0 2<|Zl 33 1 32<|Zm 34 5<|Zq 35 false 133 [.t 33,.t 34]<|Zs 2 4 35 .nil) .ret) .skip)<|Zr (Zf 37 1 3<|Zl 38 1 37<|Zf 39 1 2<|Zl 40 1 39<|Zq 41 false 152 [.t 38,.t 40]<|Zm 36 41<|Zo (.ext 42 (.t 36) 0)<|Zo (.ext 43 (.t 36) 1)<|Zm 7 42<|Zm 8 43 .nil)<|Zr (Zf 44 0 3<|Zl 45 1 44<|Zm 46 7<|Zq 47 false 133 [.t 45,.t 46]<|Zs 2 4 47 .nil) .ret⟩
theorem agV:Qe Tryz.prog Tryz.f100=some Jh:=by kernel_rfl
def Ji:aA:=⟨16,[.cell 4 2 true],Zr (Zo (.box 2 2 41 (.t 0))<|Zo (.box 3 2 41 (.t 1))<|Zo (.alloc 4 2 41 (.agg [.bool false,.aa])) .nil)<|Zr (Zf 5 0 2<|Zl 6 1 5<|Zf 7 0 3<|Zl 8 1 7<|Zo (.bin 9 .neq true (.t 6) (.t 8))<|Zf 10 1 2<|Zl 11 1 10<|Zf 12 1 3<|Zl 13 1 12<|Zq 14 true 103 [.t 11,.t 13]<|Zq 15 true 133 [.t 9,.t 14]<|Zs 2 4 15 .nil) .ret⟩
theorem agW:Qe Tryz.prog Tryz.f101=some Ji:=by kernel_rfl
def LM:aA:=⟨27,[.t 2],Zr (Zo (.box 1 3 43 (.t 0))<|Zo (.mv 2 (.c (.bool false))) .nil)<|Zr (Zf 3 0 1<|Zh 4 2 3<|Zq 5 false 139 [.t 4]<|Zm 6 5<|Zg 6 true (.cC 7 2 (.t 1))<|Zg 6 true (.ld 8 1 false (.t 7))<|Zg 6 true (.call (some 9) false (.c (.fn 140 [] [])) [.t 8])<|Zo (.pick 10 (.t 6) (.t 9) (.c (.bool false)))<|Zm 11 10<|Zg 11 true (.cC 12 0 (.t 1))<|Zg 11 true (.cC 13 1 (.t 12))<|Zg 11 true (.ld 14 1 false (.t 13))<|Zg 11 true (.cC 15 2 (.t 1))<|Zg 11 true (.ld 16 1 false (.t 15))<|Zg 11 true (.call (some 17) false (.c (.fn 128 [] [])) [.t 14,.t 16])<|Zg 11 true (.call (some 18) false (.c (.fn 74 [] [])) [.c (.int .u64 1)])<|Zg 11 true (.call (some 19) false (.c (.fn 141 [] [])) [.t 17,.t 18])<|Zo (.pick 20 (.t 11) (.t 19) (.c (.bool false)))<|Zm 21 20<|Zg 21 true (.cC 22 2 (.t 1))<|Zg 21 true (.ld 23 1 false (.t 22))<|Zg 21 true (.len 24 (.t 23))<|Zg 21 true (.bin 25 .gtr false (.t 24) (.c (Zz 0)))<|Zo (.pick 26 (.t 21) (.t 25) (.c (.bool false)))<|Zm 2 26 .nil) .ret⟩
theorem ajH:Qe Tryz.prog Tryz.f82=some LM:=by kernel_rfl
def LA:aA:=⟨44,[.cell 4 3 true],Zr (Zo (.box 2 2 41 (.t 0))<|Zo (.alloc 4 3 43 (.agg [.bool false,.aa,.aa])) .nil)<| .seq (Zr (Zm 12 1<|Zq 13 false 131 [.t 12]<|Zn 14 13<|Zk 15 .eql 14 0 .nil)<| .cond (.t 15) (Zr (Zq 16 false 74 [.c (.int .u64 1)]<|Zo (.bU 17 [.bool false,.aa,.aa] [(2,1,.t 16)])<|Zs 3 4 17 .nil) .ret) .skip)<|Zr (Zf 18 1 2<|Zl 19 1 18<|Zm 20 1<|Zq 21 false 128 [.t 19,.t 20]<|Zm 5 21 .nil)<|Zr (Zf 23 1 2<|Zl 24 1 23<|Zm 25 5<|Zq 26 false 129 [.t 24,.t 25]<|Zm 22 26<|Zo (.ext 27 (.t 22) 0)<|Zo (.ext 28 (.t 22) 1)<|Zo (.ext 29 (.t 22) 2)<|Zm 6 27<|Zm 7 28<|Zm 8 29 .nil)<|Zr (Zm 31 1<|Zm 32 5<|Zq 33 false 129 [.t 31,.t 32]<|Zm 30 33<|Zo (.ext 34 (.t 30) 0)<|Zo (.ext 35 (.t 30) 1)<|Zo (.ext 36 (.t 30) 2)<|Zm 9 34<|Zm 10 35<|Zm 11 36 .nil)<|Zr (Zf 37 0 2<|Zl 38 1 37<|Zm 39 6<|Zo (.bU 40 [.bool false,.aa] [(0,1,.t 38),(1,1,.t 39)])<|Zq 41 false 132 [.t 40]<|Zm 42 9<|Zo (.bU 43 [.bool false,.aa,.aa] [(0,2,.t 41),(2,1,.t 42)])<|Zs 3 4 43 .nil) .ret⟩
theorem ajI:Qe Tryz.prog Tryz.f72=some LA:=by kernel_rfl
def L5:aA:=⟨8,[.cell 2 3 true],Zr (Zo (.box 1 3 43 (.t 0))<|Zo (.alloc 2 3 43 (.agg [.bool false,.aa,.aa])) .nil)<|Zr (Zf 3 0 1<|Zh 4 2 3<|Zf 5 2 1<|Zl 6 1 5<|Zq 7 false 72 [.t 4,.t 6]<|Zs 3 2 7 .nil) .ret⟩
theorem ajJ:Qe Tryz.prog Tryz.f97=some L5:=by kernel_rfl
def JK:aA:=⟨18,[.cell 4 3 true,.t 5],Zr (Zo (.box 2 2 41 (.t 0))<|Zo (.box 3 2 41 (.t 1))<|Zo (.alloc 4 3 43 (.agg [.bool false,.aa,.aa]))<|Zc 5 0 .nil)<| .seq (Zr (Zh 6 2 3<|Zq 7 false 104 [.t 6]<|Zk 8 .eql 7 0 .nil)<| .cond (.t 8) (Zr (Zo (.bU 9 [.bool false,.aa,.aa] [])<|Zs 3 4 9<|Zc 5 3 .nil) .ret) .skip)<| .seq (Zr (Zf 10 0 3<|Zl 11 1 10 .nil)<| .cond (.t 11) (.rg (Zh 12 2 2<|Zq 13 false 166 [.t 12]<|Zs 2 2 13 .nil)) .skip)<|Zr (Zh 14 2 2<|Zf 15 1 3<|Zl 16 1 15<|Zq 17 false 72 [.t 14,.t 16]<|Zs 3 4 17<|Zc 5 0 .nil) .ret⟩
theorem agX:Qe Tryz.prog Tryz.f130=some JK:=by kernel_rfl
def KW:aA:=⟨7,[.cell 2 3 true],Zr (Zo (.alloc 2 3 43 (.agg [.bool false,.aa,.aa])) .nil)<|Zr (Zm 3 0<|Zq 4 false 73 [.t 3]<|Zq 5 false 74 [.c (.int .u64 1)]<|Zq 6 false 72 [.t 4,.t 5]<|Zs 3 2 6 .nil) .ret⟩
theorem ajK:Qe Tryz.prog Tryz.f32=some KW:=by kernel_rfl
def Jj:aA:=⟨5,[.cell 2 2 true],Zr (Zo (.alloc 2 2 41 (.agg [.bool false,.aa])) .nil)<|Zr (Zm 3 0<|Zo (.bU 4 [.bool false,.aa] [(1,1,.t 3)])<|Zs 2 2 4 .nil) .ret⟩
theorem agY:Qe Tryz.prog Tryz.f102=some Jj:=by kernel_rfl
def Ll:aA:=⟨7,[.t 2],Zr (Zo (.box 1 3 43 (.t 0))<|Zc 2 0 .nil)<|Zr (Zh 3 3 1<|Zq 4 false 97 [.t 3]<|Zo (.yA 5 0 2 true (.t 4))<|Zq 6 false 104 [.t 5]<|Zm 2 6 .nil) .ret⟩
theorem ajL:Qe Tryz.prog Tryz.f56=some Ll:=by kernel_rfl
def LL:aA:=⟨22,[.t 4],Zr (Zo (.box 2 3 43 (.t 0))<|Zo (.box 3 3 43 (.t 1))<|Zc 4 0 .nil)<|Zr (Zh 5 3 2<|Zh 7 3 3<|Zq 6 true 97 [.t 5]<|Zq 8 true 97 [.t 7]<|Zs 3 2 6<|Zs 3 3 8 .nil)<|Zr (Zf 9 0 2<|Zh 10 2 9<|Zf 11 2 3<|Zl 12 1 11<|Zf 15 0 3<|Zh 16 2 15<|Zf 17 2 2<|Zl 18 1 17<|Zq 13 true 102 [.t 12]<|Zq 14 true 101 [.t 10,.t 13]<|Zq 19 true 102 [.t 18]<|Zq 20 true 101 [.t 16,.t 19]<|Zq 21 true 138 [.t 14,.t 20]<|Zm 4 21 .nil) .ret⟩
theorem ajM:Qe Tryz.prog Tryz.f81=some LL:=by kernel_rfl
def Lk:aA:=⟨28,[.cell 4 3 true],Zr (Zo (.box 2 3 43 (.t 0))<|Zo (.box 3 3 43 (.t 1))<|Zo (.alloc 4 3 43 (.agg [.bool false,.aa,.aa])) .nil)<|Zr (Zh 5 3 2<|Zh 7 3 3<|Zq 6 true 97 [.t 5]<|Zq 8 true 97 [.t 7]<|Zs 3 2 6<|Zs 3 3 8 .nil)<|Zr (Zf 9 0 2<|Zh 10 2 9<|Zf 11 2 3<|Zl 12 1 11<|Zf 15 0 3<|Zh 16 2 15<|Zf 17 2 2<|Zl 18 1 17<|Zf 22 2 2<|Zl 23 1 22<|Zf 24 2 3<|Zl 25 1 24<|Zq 13 true 102 [.t 12]<|Zq 14 true 101 [.t 10,.t 13]<|Zq 19 true 102 [.t 18]<|Zq 20 true 101 [.t 16,.t 19]<|Zq 21 true 100 [.t 14,.t 20]<|Zq 26 true 103 [.t 23,.t 25]<|Zq 27 true 72 [.t 21,.t 26]<|Zs 3 4 27 .nil) .ret⟩
theorem akn:Qe Tryz.prog Tryz.f55=some Lk:=by kernel_rfl
def Jx:aA:=⟨16,[.cell 4 3 true],Zr (Zo (.box 2 3 43 (.t 0))<|Zo (.box 3 3 43 (.t 1))<|Zo (.alloc 4 3 43 (.agg [.bool false,.aa,.aa])) .nil)<|Zr (Zf 5 0 2<|Zh 6 2 5<|Zf 7 0 3<|Zh 8 2 7<|Zf 10 2 2<|Zl 11 1 10<|Zf 12 2 3<|Zl 13 1 12<|Zq 9 true 101 [.t 6,.t 8]<|Zq 14 true 103 [.t 11,.t 13]<|Zq 15 true 72 [.t 9,.t 14]<|Zs 3 4 15 .nil) .ret⟩
theorem agZ:Qe Tryz.prog Tryz.f116=some Jx:=by kernel_rfl
theorem nK{l:List Nat}(hv:Qs l)(hl:l.length<2^42):Qc Tryz.prog 131 [PV.nat l] (· =PV.num (val l)):=by
 have an7:=Ar hv;refine Qf Qo Tryz.func131 rfl ahd (by simp[JL]) fun C hP=>?_;simp only[JL,Zo,Zg,Zm,Zc,Zf,Zl,Zh,Zs,Zi,Zb,Zk,Zn,Zu,Zq,Zr,Zz];refine Sz0 ?_;refine Qw (by repeat (first|exact Qr|exact Qk|exact Ql|exact Qm|exact Qn|apply Qj|apply Qq|apply Qx|apply Q5|apply Q6|apply Qi|apply Q2)) [(3,3),(7,18)] [] (fun m J hp=>m<=l.length/\cut l m=ah (val l)/\J 3= .int .i64 m/\hp=aF) l.length ?_ ?_
 ·refine⟨Kac _,an7,?_⟩;exact Tz0
 rintro n J _ ⟨hn,hc,h3,rfl⟩;refine Sz1 h3 ?_;refine gw (fun hg=>?_) (fun hg=>?_)
 ·obtain _|n:=n
  ·omega
  have e:((n+1:Nat):Int)-1=n:=by omega
  simp only[cut]at hc;simp+decide (disch:=try exact D2 h3 e) only[go_sem,h3,e];refine Qb (fun hz=>?_) (fun hz=>?_)
  ·rw[if_pos (by grind)]at hc;refine Sz2 h3 e ?_;refine Qg n (by omega) ⟨by omega,hc,?_⟩;exact Tz0
  ·rw[if_neg (by grind)]at hc;have ar:(l.take (n+1)).length<2^42:=by rw[KaH];omega
   refine lk h3 e ?_;exact Qd (by rw[Kae (by simp),hc]) rfl
 ·obtain rfl:n=0:=by omega
  simp+decide (disch:=first|omega|rfl|(simp+decide only[go_sem,h3,Kb5,Kbu,Kbj]<;>rfl)|fail) only[go_sem,h3,Kb5,Kbu,Kbj];rw[C7 (ys:=[]) rfl (by omega) (by simp) (by simp)];refine eQ ?_;exact Qd (by show _=PV.nat (ah (val l));rw[<-hc];rfl) rfl
theorem mI{n:Nat}(hn:n<18446744073709551616):Qc Tryz.prog 74 [.int .u64 n] (· =PV.num n):=by
 have hlen:=rU hn;unfold nl at hlen;refine Qf Qo Tryz.func74 rfl ajF (by simp[LC]) fun C hP=>?_;simp only[LC,Zo,Zg,Zm,Zc,Zf,Zl,Zh,Zs,Zi,Zb,Zk,Zn,Zu,Zq,Zr,Zz];refine Sz0 ?_;refine kZ 3 900 1 76 (by omega) Tz0 ?_;refine Qw (by repeat (first|exact Qr|exact Qk|exact Ql|exact Qm|exact Qn|apply Qj|apply Qq|apply Qx|apply Q5|apply Q6|apply Qi|apply Q2)) [(0,0),(3,13)] [10,11,900] (fun m J hp=>∃done:List Nat,ah n=done++ah m/\m<=n/\J 0= .int .u64 m/\J 3= .ms 900 done.length/\hp 900=some ⟨1,76,cn done,false⟩) n ?_ ?_
 ·refine⟨[],rfl,Kac _,?_⟩;exact Tz0
 rintro m J hp ⟨done,hd,hm,h0,h3,hh⟩;rw[hd,Kap]at hlen;refine Sz2 h0 h3 ?_;refine Qb (fun hz=>?_) (fun hz=>?_)
 ·have aO:m≠0:=by omega
  have gl:ah n=(done++[m%65536])++ah (m/65536):=by rw[hd,tH aO];simp
  refine Sz3 h0 h3 @Nat.mod_mod ?_;rw[Q9 (f:=fun(x:Nat)=>.int .u16 x) (y:=m%65536) (xs:=done) (ty':=76) (fz:=false) (Tz1 hh) cH (by omega) rfl (by omega) (by omega)];refine Sz2 h0 h3 ?_;refine Qg (m/65536) (by omega) ⟨done++[m%65536],gl,by omega,?_⟩;refine Sz2 h0 h3 ?_;simp
 ·obtain rfl:m=0:=by omega
  rw[fQ,Kak]at hd;refine lk h3 hh ?_;exact Qd (by show _=PV.nat (ah n);rw[hd,Kae (by simp)]) rfl
theorem mJ{a:List Nat}{i:Nat}(ha:Qs a)(hl:a.length<2^43):Qc Tryz.prog 153 [PV.nat a,.int .i64 i] (· = .int .i64 (dg a i:Nat)):=by
 refine Qf Qo Tryz.func153 rfl ahf (by simp[Ka]) fun C hP=>?_;simp only[Ka,Zo,Zg,Zm,Zc,Zf,Zl,Zh,Zs,Zi,Zb,Zk,Zn,Zu,Zq,Zr,Zz];refine Sz0 ?_;refine Qb (fun hi=>?_) (fun hi=>?_)
 ·have aB:i<a.length:=by omega
  have Fh:=eM ha aB;have hg:dg a i=a[i]:=gE aB;refine Sz0 ?_;exact Qd (by rw[hg]) rfl
 ·refine Sz0 ?_;exact Qd (by rw[dg,gF (by omega)];rfl) rfl
theorem CI{a:List Nat}(ha:Qs a)(hl:a.length<=4):Qc Tryz.prog 164 [PV.nat a] (· = .int .u64 (val a:Nat)):=by
 have ar:∀k,val (a.drop k)<18446744073709551616:=fun k=>by have h1:=oK (zI ha k);have:65536^(a.drop k).length<=65536^4:=KbE (by omega) (by rw[Ka5];omega);omega
 refine Qf Qo Tryz.func164 rfl ahe (by simp[Km]) fun C hP=>?_;simp only[Km,Zo,Zg,Zm,Zc,Zf,Zl,Zh,Zs,Zi,Zb,Zk,Zn,Zu,Zq,Zr,Zz];refine Sz0 ?_;refine Qw (by repeat (first|exact Qr|exact Qk|exact Ql|exact Qm|exact Qn|apply Qj|apply Qq|apply Qx|apply Q5|apply Q6|apply Qi|apply Q2)) [(3,4),(8,19)] [] (fun k J hp=>k<=a.length/\J 3= .int .u64 (val (a.drop k):Nat)/\J 4= .int .i64 ((k:Int)-1)) a.length ?_ ?_
 ·refine⟨Kac _,?_⟩;refine Sz0 ?_;simp[val]
 rintro k J h ⟨hk,h3,h4⟩;refine Sz2 h3 h4 ?_;refine Qb (fun hg=>?_) (fun hg=>?_)
 ·obtain _|n:=k
  ·omega
  have hn:n<a.length:=by omega
  have v7:=eM ha hn;have e:((n+1:Nat):Int)-1=n:=by omega
  have hv:=lS hn;have h1:=ar n;generalize dY:a[n]=x at *
  have e2:val (a.drop (n+1))*65536+x=val (a.drop n):=by omega
  refine Sz5 h3 h4 e dY e2 ?_;refine Qg n (by omega) ⟨by omega,?_⟩;exact Tz0
 ·obtain rfl:k=0:=by omega
  simp+decide (disch:=first|omega|rfl|(simp+decide only[go_sem,h3,Kbp]<;>rfl)|fail) only[go_sem,h3,Kbp];exact Qd rfl rfl
theorem C1{a b:List Nat}(ha:Qs a)(hb:Qs b)(bC:a.length<2^42)(cT:b.length<2^42):Qc Tryz.prog 169 [PV.nat a,PV.nat b] (· = .int .i64 (g9 (val a) (val b))):=by
 refine Qf Qo Tryz.func169 rfl ahg (by simp[Kr]) fun C hP=>?_;simp only[Kr,Zo,Zg,Zm,Zc,Zf,Zl,Zh,Zs,Zi,Zb,Zk,Zn,Zu,Zq,Zr,Zz];refine Sz1 @QL ?_;refine Qw (by repeat (first|exact Qr|exact Qk|exact Ql|exact Qm|exact Qn|apply Qj|apply Qq|apply Qx|apply Q5|apply Q6|apply Qi|apply Q2)) [(4,5),(12,29)] [] (fun k J hp=>k<=max a.length b.length/\val (a.drop k)=val (b.drop k)/\J 5= .int .i64 ((k:Int)-1)) (max a.length b.length) ?_ ?_
 ·refine⟨Kac _,?_,?_⟩
  ·rw[Kan (by omega),Kan (by omega)]
  ·exact Tz0
 rintro k J h ⟨hk,hv,h5⟩;refine Sz1 h5 ?_;refine Qb (fun hg=>?_) (fun hg=>?_)
 ·obtain _|n:=k
  ·omega
  have e:((n+1:Nat):Int)-1=n:=by omega
  have e1:=xz a n;have e2:=xz b n;have d1:=vL ha n;have d2:=vL hb n;refine Sz2 h5 e ?_;refine Qa hP (mJ ha (by omega)) rfl rfl rfl ?_;refine Sz2 h5 e ?_;refine Qa hP (mJ hb (by omega)) rfl rfl rfl ?_;refine Sz2 h5 e ?_;refine Qb (fun hc=>?_) (fun hc=>?_)
  ·have ar:=SW (a:=a) (b:=b) ha (i:=n) (by omega);refine Sz0 ?_;exact Qd (by rw[IG ar]) rfl
  refine Sz2 h5 e ?_;refine Qa hP (mJ ha (by omega)) rfl rfl rfl ?_;refine Sz2 h5 e ?_;refine Qa hP (mJ hb (by omega)) rfl rfl rfl ?_;refine Sz2 h5 e ?_;refine Qb (fun iZ=>?_) (fun iZ=>?_)
  ·have ar:=SW (a:=b) (b:=a) hb (i:=n) (by omega);refine Sz0 ?_;exact Qd (by rw[IH ar]) rfl
  ·refine Sz2 h5 e ?_;refine Qg n (by omega) ⟨by omega,by omega,?_⟩;exact Tz0
 ·obtain rfl:k=0:=by omega
  refine Sz0 ?_;exact Qd (by rw[P9 (by simpa using hv)]) rfl
theorem SF{a:List Nat}(ha:Qs a)(hl:a.length<2^43):Qc Tryz.prog 140 [PV.nat a] (· = .bool (decide (a.getLast? ≠some 0))):=by
 refine Qf Qo Tryz.func140 rfl ahn (by simp[JV]) fun C hP=>?_;simp only[JV,Zo,Zg,Zm,Zc,Zf,Zl,Zh,Zs,Zi,Zb,Zk,Zn,Zu,Zq,Zr,Zz];refine Sz0 ?_;refine dM (fun h0=>?_) (fun h0=>?_)
 ·have:a=[]:=Kas.1 (by omega);subst this;refine Sz0 ?_;exact Qd (by simp) rfl
 ·obtain⟨k,hk⟩:∃k,a.length=k+1:=⟨a.length-1,by omega⟩
  have jy:=DQ hk;have e:((k+1:Nat):Int)-1=k:=by omega
  generalize hy:a[k]'(by omega)=y at *
  refine Sz3 hk e hy ?_;refine Qd (congrArg PV.bool ?_) rfl;rw[jy];exact decide_eq_decide.2 ⟨fun h h'=>h (by injection h' with h';rw[h'];rfl),fun h h'=>h (by rw[show y=0 by omega])⟩
theorem YU{a b:List Nat}(bC:a.length<2^43)(cT:b.length<2^43):Qc Tryz.prog 141 [PV.nat a,PV.nat b] (· = .bool (decide (a=b))):=by
 refine Qf Qo Tryz.func141 rfl aho (by simp[JW]) fun C hP=>?_;simp only[JW,Zo,Zg,Zm,Zc,Zf,Zl,Zh,Zs,Zi,Zb,Zk,Zn,Zu,Zq,Zr,Zz];refine Sz0 ?_;refine Qb (fun h0=>?_) (fun h0=>?_)
 ·refine Sz0 ?_;exact Qd (congrArg PV.bool (by rw[decide_eq_false];rintro rfl;exact h0 rfl)) rfl
 have hlen:a.length=b.length:=by omega
 refine Sz0 ?_;refine Qw (by repeat (first|exact Qr|exact Qk|exact Ql|exact Qm|exact Qn|apply Qj|apply Qq|apply Qx|apply Q5|apply Q6|apply Qi|apply Q2)) [(4,5),(11,25)] [] (fun n J hp=>∃i,n=a.length-i/\i<=a.length/\a.take i=b.take i/\J 5= .int .i64 (i:Nat)) a.length ?_ ?_
 ·refine⟨0,rfl,by omega,by simp,?_⟩;refine Sz0 ?_;rfl
 rintro _ J h ⟨i,rfl,hi,he,h5⟩;refine Sz1 h5 ?_;refine Qb (fun hg=>?_) (fun hg=>?_)
 ·have aB:i<a.length:=by omega
  have gR:i<b.length:=by omega
  have ta:=Kah aB;have tb:=Kah gR;have aO:a=b->a[i]=b[i]:=fun h=>by subst h;rfl
  generalize hx:a[i]=x at *
  generalize hy:b[i]=y at *
  refine Sz3 h5 hx hy ?_;refine Qb (fun hc=>?_) (fun hc=>?_)
  ·refine Sz0 ?_;exact Qd (congrArg PV.bool (by rw[decide_eq_false];intro h;exact hc (by rw[aO h]))) rfl
  ·refine Sz1 h5 ?_;refine Qg (a.length-(i+1)) (by omega) ⟨i+1,rfl,by omega,by rw[ta,tb,he,show x=y by omega],?_⟩;exact Tz0
 ·obtain rfl:i=a.length:=by omega
  rw[Kar,hlen,Kar]at he;refine Sz0 ?_;exact Qd (congrArg PV.bool (by rw[he];simp)) rfl
theorem Ts{a b:List Nat}(ha:Qs a)(hb:Qs b)(bC:a.length<2^40)(cT:b.length<2^40):Qc Tryz.prog 134 [PV.nat a,PV.nat b] (· =PV.num (val a+val b)):=by
 refine Qf Qo Tryz.func134 rfl ahh (by simp[JO]) fun C hP=>?_;simp only[JO,Zo,Zg,Zm,Zc,Zf,Zl,Zh,Zs,Zi,Zb,Zk,Zn,Zu,Zq,Zr,Zz];refine Sz0 ?_;refine kZ 5 900 1 76 (by omega) Tz0 ?_;refine Qw (by repeat (first|exact Qr|exact Qk|exact Ql|exact Qm|exact Qn|apply Qj|apply Qq|apply Qx|apply Q5|apply Q6|apply Qi|apply Q2)) [(5,41)] [38,39,900] (fun m J hp=>∃(i c:Nat)(out:List Nat),m=2*(max a.length b.length-i)+c/\c<=1/\i<=max a.length b.length+1/\(i<=max a.length b.length∨c=0)/\out.length=i/\Qs out/\val out+65536^i*(c+val (a.drop i)+val (b.drop i))=val a+val b/\J 5= .ms 900 out.length/\J 6= .int .i64 c/\J 7= .int .i64 i/\hp 900=some ⟨1,76,cn out,false⟩) (2*max a.length b.length) ?_ ?_
 ·refine⟨0,0,[],rfl,by omega,by omega,by omega,rfl,nO,by simp[val],?_⟩;refine Sz0 ?_;simp
 rintro _ J h ⟨i,c,out,rfl,hc,hi,mc,fN,je,hv,h5,h6,h7,hh⟩;have e1:=xz a i;have e2:=xz b i;have d1:=vL ha i;have d2:=vL hb i;refine Sz3 h5 h6 h7 ?_;refine dM (fun hg=>?_) (fun hg=>?_)
 ·have ar:i<max a.length b.length:=by omega
  have gC:(dg a i+dg b i+c)/65536<=1:=by omega
  have kO:val (out++[(dg a i+dg b i+c)%65536])+65536^(i+1)*((dg a i+dg b i+c)/65536+val (a.drop (i+1))+val (b.drop (i+1)))=val a+val b:=by
   rw[DR,fN,KbB,<-hv,e1,e2];have:=Kbr (dg a i+dg b i+c) 65536;generalize 65536^i=P at *
   generalize(dg a i+dg b i+c)/65536=q at *
   generalize(dg a i+dg b i+c)%65536=r at *
   have e:c+(dg a i+65536*val (a.drop (i+1)))+(dg b i+65536*val (b.drop (i+1)))=r+65536*(q+val (a.drop (i+1))+val (b.drop (i+1))):=by omega
   rw[e,Ka1 P,Kbh];omega
  refine Sz3 h5 h6 h7 ?_;refine Qa hP (mJ ha (by omega)) rfl rfl rfl ?_;refine Sz3 h5 h6 h7 ?_;refine Qa hP (mJ hb (by omega)) rfl rfl rfl ?_;refine Sz4 h5 h6 h7 @Nat.mod_mod ?_;rw[Q9 (f:=fun(x:Nat)=>.int .u16 x) (y:=(dg a i+dg b i+c)%65536) (xs:=out) (ty':=76) (fz:=false) (Tz1 hh) cH (by omega) rfl (by omega) (by omega)];refine Sz3 h5 h6 h7 ?_;refine Qg (2*(max a.length b.length-(i+1))+(dg a i+dg b i+c)/65536) ?_ ⟨i+1,(dg a i+dg b i+c)/65536,out++[(dg a i+dg b i+c)%65536],rfl,gC,by omega,?_,by simp[fN],?_,kO,?_⟩
  ·by_cases ar:i<max a.length b.length
   ·omega
   ·have z1:dg a i=0:=by rw[dg,gF (by omega)]
    have z2:dg b i=0:=by rw[dg,gF (by omega)]
    rw[z1,z2];omega
  ·by_cases ar:i<max a.length b.length
   ·omega
   ·have z1:dg a i=0:=by rw[dg,gF (by omega)]
    have z2:dg b i=0:=by rw[dg,gF (by omega)]
    rw[z1,z2];omega
  ·rw[nJ];exact⟨je,by intro z hz;simp at hz;omega⟩
  ·refine Sz0 ?_;simp
 refine Sz3 h5 h6 h7 ?_;refine dM (fun fF=>?_) (fun fF=>?_)
 ·have ar:i<max a.length b.length:=by omega
  have gC:(dg a i+dg b i+c)/65536<=1:=by omega
  have kO:val (out++[(dg a i+dg b i+c)%65536])+65536^(i+1)*((dg a i+dg b i+c)/65536+val (a.drop (i+1))+val (b.drop (i+1)))=val a+val b:=by
   rw[DR,fN,KbB,<-hv,e1,e2];have:=Kbr (dg a i+dg b i+c) 65536;generalize 65536^i=P at *
   generalize(dg a i+dg b i+c)/65536=q at *
   generalize(dg a i+dg b i+c)%65536=r at *
   have e:c+(dg a i+65536*val (a.drop (i+1)))+(dg b i+65536*val (b.drop (i+1)))=r+65536*(q+val (a.drop (i+1))+val (b.drop (i+1))):=by omega
   rw[e,Ka1 P,Kbh];omega
  refine Sz3 h5 h6 h7 ?_;refine Qa hP (mJ ha (by omega)) rfl rfl rfl ?_;refine Sz3 h5 h6 h7 ?_;refine Qa hP (mJ hb (by omega)) rfl rfl rfl ?_;refine Sz4 h5 h6 h7 @Nat.mod_mod ?_;rw[Q9 (f:=fun(x:Nat)=>.int .u16 x) (y:=(dg a i+dg b i+c)%65536) (xs:=out) (ty':=76) (fz:=false) (Tz1 hh) cH (by omega) rfl (by omega) (by omega)];refine Sz3 h5 h6 h7 ?_;refine Qg (2*(max a.length b.length-(i+1))+(dg a i+dg b i+c)/65536) ?_ ⟨i+1,(dg a i+dg b i+c)/65536,out++[(dg a i+dg b i+c)%65536],rfl,gC,by omega,?_,by simp[fN],?_,kO,?_⟩
  ·by_cases ar:i<max a.length b.length
   ·omega
   ·have z1:dg a i=0:=by rw[dg,gF (by omega)]
    have z2:dg b i=0:=by rw[dg,gF (by omega)]
    rw[z1,z2];omega
  ·by_cases ar:i<max a.length b.length
   ·omega
   ·have z1:dg a i=0:=by rw[dg,gF (by omega)]
    have z2:dg b i=0:=by rw[dg,gF (by omega)]
    rw[z1,z2];omega
  ·rw[nJ];exact⟨je,by intro z hz;simp at hz;omega⟩
  ·refine Sz0 ?_;simp
 refine Sz3 h5 h6 h7 ?_;refine Qb (fun hg3=>?_) (fun hg3=>?_)
 ·have gR:i<=max a.length b.length:=by omega
  have gC:(dg a i+dg b i+c)/65536<=1:=by omega
  have kO:val (out++[(dg a i+dg b i+c)%65536])+65536^(i+1)*((dg a i+dg b i+c)/65536+val (a.drop (i+1))+val (b.drop (i+1)))=val a+val b:=by
   rw[DR,fN,KbB,<-hv,e1,e2];have:=Kbr (dg a i+dg b i+c) 65536;generalize 65536^i=P at *
   generalize(dg a i+dg b i+c)/65536=q at *
   generalize(dg a i+dg b i+c)%65536=r at *
   have e:c+(dg a i+65536*val (a.drop (i+1)))+(dg b i+65536*val (b.drop (i+1)))=r+65536*(q+val (a.drop (i+1))+val (b.drop (i+1))):=by omega
   rw[e,Ka1 P,Kbh];omega
  refine Sz3 h5 h6 h7 ?_;refine Qa hP (mJ ha (by omega)) rfl rfl rfl ?_;refine Sz3 h5 h6 h7 ?_;refine Qa hP (mJ hb (by omega)) rfl rfl rfl ?_;refine Sz4 h5 h6 h7 @Nat.mod_mod ?_;rw[Q9 (f:=fun(x:Nat)=>.int .u16 x) (y:=(dg a i+dg b i+c)%65536) (xs:=out) (ty':=76) (fz:=false) (Tz1 hh) cH (by omega) rfl (by omega) (by omega)];refine Sz3 h5 h6 h7 ?_;refine Qg (2*(max a.length b.length-(i+1))+(dg a i+dg b i+c)/65536) ?_ ⟨i+1,(dg a i+dg b i+c)/65536,out++[(dg a i+dg b i+c)%65536],rfl,gC,by omega,?_,by simp[fN],?_,kO,?_⟩
  ·by_cases ar:i<max a.length b.length
   ·omega
   ·have z1:dg a i=0:=by rw[dg,gF (by omega)]
    have z2:dg b i=0:=by rw[dg,gF (by omega)]
    rw[z1,z2];omega
  ·by_cases ar:i<max a.length b.length
   ·omega
   ·have z1:dg a i=0:=by rw[dg,gF (by omega)]
    have z2:dg b i=0:=by rw[dg,gF (by omega)]
    rw[z1,z2];omega
  ·rw[nJ];exact⟨je,by intro z hz;simp at hz;omega⟩
  ·refine Sz0 ?_;simp
 ·obtain rfl:c=0:=by omega
  rw[Kan (by omega),Kan (by omega)]at hv;simp only[val,KaS,Kb1]at hv;refine Sz2 h5 hh ?_;refine vh hP (nK je (by omega)) (by simp+decide (disch:=try exact E1 hh) only[go_sem,hh,et,Kax,KaC,Kau,KaA,Kak];simp[Kae]) rfl fun an=>?_;refine Sz0 ?_;exact Qd (by rw[hv]) rfl
theorem G6{a b:List Nat}(ha:Qs a)(hb:Qs b)(bC:a.length<2^40)(cT:b.length<2^40):Qc Tryz.prog 152 [PV.nat a,PV.nat b] (· =if val a<val b then .au [PV.num 0,.int .i64 2]else .au [PV.num (val a-val b),.int .i64 0]):=by
 refine Qf Qo Tryz.func152 rfl ahi (by simp[J9]) fun C hP=>?_;simp only[J9,Zo,Zg,Zm,Zc,Zf,Zl,Zh,Zs,Zi,Zb,Zk,Zn,Zu,Zq,Zr,Zz];refine Sz0 ?_;refine Qa hP (C1 ha hb (by omega) (by omega)) rfl rfl rfl ?_;refine Sz0 ?_;refine Qb (fun hc=>?_) (fun hc=>?_)
 ·rw[if_pos (DL.1 hc)];refine Sz0 ?_;exact eV rfl rfl rfl xF (Qy _)
 have gm:¬val a<val b:=fun h=>hc (DL.2 h);rw[if_neg gm];refine Sz0 ?_;refine kZ 6 900 1 76 (by omega) Tz0 ?_;refine Qw (by repeat (first|exact Qr|exact Qk|exact Ql|exact Qm|exact Qn|apply Qj|apply Qq|apply Qx|apply Q5|apply Q6|apply Qi|apply Q2)) [(6,9),(14,37)] [36,37,900] (fun m J hp=>∃(i c:Nat)(out:List Nat),m=a.length-i/\c<=1/\i<=a.length/\out.length=i/\Qs out/\val (a.take i)+65536^i*c=val out+val (b.take i)/\J 6= .ms 900 out.length/\J 7= .int .i64 c/\J 8= .int .i64 i/\hp 900=some ⟨1,76,cn out,false⟩) a.length ?_ ?_
 ·refine⟨0,0,[],rfl,by omega,by omega,rfl,nO,by simp[val],?_⟩;refine Sz0 ?_;simp
 rintro _ J h ⟨i,c,out,rfl,oV,hi,fN,je,hv,h6,h7,h8,hh⟩;refine Sz3 h6 h7 h8 ?_;refine Qb (fun hg=>?_) (fun hg=>?_)
 ·have aB:i<a.length:=by omega
  have e1:=Ss a i;have e2:=Ss b i;have d1:=vL ha i;have d2:=vL hb i;refine Sz3 h6 h7 h8 ?_;refine Qa hP (mJ ha (by omega)) rfl rfl rfl ?_;refine Sz3 h6 h7 h8 ?_;refine Qa hP (mJ hb (by omega)) rfl rfl rfl ?_;refine Sz3 h6 h7 h8 ?_;have step:∀(d c':Nat),d<65536->c'<=1->dg a i+65536*c'=d+dg b i+c->val (a.take (i+1))+65536^(i+1)*c'=val (out++[d])+val (b.take (i+1)):=fun d c' _ _ h3=>by
   rw[DR,fN,e1,e2,KbB];generalize 65536^i=P at *
   have:P*(dg a i+65536*c')=P*(d+dg b i+c):=by rw[h3]
   rw[Ka1,<-Nat.mul_assoc,Ka1,Ka1]at this;omega
  refine Qb (fun hd=>?_) (fun hd=>?_)
  ·obtain⟨d,fM⟩:∃d:Nat,(dg a i:Int)-(dg b i:Int)-(c:Int)+65536=d:=⟨((dg a i:Int)-(dg b i:Int)-(c:Int)+65536).toNat,by omega⟩
   have aG:=step d 1 (by omega) (by omega) (by omega);refine Sz4 h6 h7 h8 fM ?_;rw[Q9 (f:=fun(x:Nat)=>.int .u16 x) (y:=d) (xs:=out) (ty':=76) (fz:=false) (Tz1 hh) (by simp+decide (disch:=first|omega|rfl|(simp+decide only[go_sem,KaR (by omega:d<65536)]<;>rfl)|fail) only[go_sem,KaR (by omega:d<65536)]) (by omega) rfl (by omega) (by omega)];refine Sz3 h6 h7 h8 ?_;refine Qg (a.length-(i+1)) (by omega) ⟨i+1,1,out++[d],rfl,by omega,by omega,by simp[fN],?_,aG,?_⟩
   ·rw[nJ];exact⟨je,by intro z hz;simp at hz;omega⟩
   ·refine Sz0 ?_;simp
  ·obtain⟨d,fM⟩:∃d:Nat,(dg a i:Int)-(dg b i:Int)-(c:Int)=d:=⟨((dg a i:Int)-(dg b i:Int)-(c:Int)).toNat,by omega⟩
   have aG:=step d 0 (by omega) (by omega) (by omega);refine Sz4 h6 h7 h8 fM ?_;rw[Q9 (f:=fun(x:Nat)=>.int .u16 x) (y:=d) (xs:=out) (ty':=76) (fz:=false) (Tz1 hh) (by simp+decide (disch:=first|omega|rfl|(simp+decide only[go_sem,KaR (by omega:d<65536)]<;>rfl)|fail) only[go_sem,KaR (by omega:d<65536)]) (by omega) rfl (by omega) (by omega)];refine Sz3 h6 h7 h8 ?_;refine Qg (a.length-(i+1)) (by omega) ⟨i+1,0,out++[d],rfl,by omega,by omega,by simp[fN],?_,aG,?_⟩
   ·rw[nJ];exact⟨je,by intro z hz;simp at hz;omega⟩
   ·refine Sz0 ?_;simp
 ·obtain rfl:i=a.length:=by omega
  have hbz:val (b.drop a.length)=0:=CX (by have:=oK ha;omega);have MI:=Hn b a.length;rw[hbz,Kb1,KaS]at MI;rw[Kar,<-MI]at hv;have hvo:=oK je;rw[fN]at hvo;have v9:c=0:=by
   match c,oV with
   |0,_=>rfl
   |1,_=>exfalso;have:=oK ha;omega
  subst v9;refine Sz2 h6 hh ?_;refine vh hP (nK je (by omega)) (by simp+decide (disch:=try exact E1 hh) only[go_sem,hh,et,Kax,KaC,Kau,KaA,Kak];simp[Kae]) rfl fun an=>?_;refine Sz0 ?_;exact eV rfl rfl rfl (tF (congrArg PV.num (by omega))) (Qy _)
theorem G7{a b:List Nat}(ha:Qs a)(hb:Qs b)(bC:a.length<2^40)(cT:b.length<2^40):Qc Tryz.prog 103 [PV.nat a,PV.nat b] (· =PV.num (val a*val b)):=by
 refine Qf Qo Tryz.func103 rfl ahj (by simp[Jk]) fun C hP=>?_;simp only[Jk,Zo,Zg,Zm,Zc,Zf,Zl,Zh,Zs,Zi,Zb,Zk,Zn,Zu,Zq,Zr,Zz];refine Sz0 ?_;refine Qw (by repeat (first|exact Qr|exact Qk|exact Ql|exact Qm|exact Qn|apply Qj|apply Qq|apply Qx|apply Q5|apply Q6|apply Qi|apply Q2)) [(6,9),(17,62)] [] (fun m J hp=>∃(i:Nat)(L:List Nat),m=a.length-i/\i<=a.length/\L.length=a.length+b.length+1/\Qs L/\val L=val (a.take i)*val b/\J 6= .int .i64 i/\hp=Qz aF 16 ⟨1,76,cn L,false⟩) a.length ?_ ?_
 ·refine⟨0,List.replicate (a.length+b.length+1) 0,rfl,by omega,by simp,?_,by simp[val,Vf],?_⟩
  ·intro z hz;rw[List.eq_of_mem_replicate hz];omega
  ·refine Sz0 ?_;simp
 rintro _ J _ ⟨i,L,rfl,hi,VN,hL,hv,h6,rfl⟩;refine Sz1 h6 ?_;refine Qb (fun hg=>?_) (fun hg=>?_)
 ·have aB:i<a.length:=by omega
  have Fh:=eM ha aB;have lF:=zt aB;have Nx:dg L (i+b.length)=0:=by apply Q8j;apply CX;rw[hv,Nat.pow_add];have h1:=tj ha i (by omega);have h2:=oK hb;exact Nat.mul_lt_mul'' h1 h2
  generalize dY:a[i]=ai at *
  refine Sz2 h6 dY ?_;refine Qw (by repeat (first|exact Qr|exact Qk|exact Ql|exact Qm|exact Qn|apply Qj|apply Qq|apply Qx|apply Q5|apply Q6|apply Qi|apply Q2)) [(7,9),(23,62)] [] (fun m J hp=>∃(k c:Nat)(M:List Nat),m=b.length+1-k/\k<=b.length+1/\(k<=b.length∨c=0)/\c<65536/\M.length=L.length/\Qs M/\val M+65536^(i+k)*(c+ai*val (b.drop k))=val L+65536^i*(ai*val b)/\(∀j,i+k<=j->dg M j=dg L j)/\J 7= .int .u64 c/\J 8= .int .i64 k/\hp=Qz aF 16 ⟨1,76,cn M,false⟩) (b.length+1) ?_ ?_
  ·refine⟨0,0,L,rfl,by omega,by omega,by omega,rfl,hL,by simp,fun _ _=>rfl,?_⟩;refine Sz1 h6 ?_;simp
  rintro _ J2 _ ⟨k,c,M,rfl,hk,ny,hc,VO,hM,hw,wH,h7,h8,rfl⟩;have e2:=xz b k;have d2:=vL hb k;refine Sz3 h6 h7 h8 ?_;refine dM (fun Bw=>?_) (fun Bw=>?_)
  ·have aoP:k<=b.length:=by omega
   have hj:i+k<M.length:=by omega
   have hx:=eM hM hj;have ks:=fun v=>QP (v:=v) hj;have wB:=tt Fh d2;have uv:dg M (i+k)=M[i+k]:=gE hj;generalize fy:M[i+k]=x at *
   have ur:=Kbr (x+ai*dg b k+c) 65536;have nB:=UT (T:=val L+65536^i*(ai*val b)) (ks ((x+ai*dg b k+c)%65536)) (by rw[<-e2];exact hw) ur;have hr:=Kbw (x+ai*dg b k+c) (show 0<65536 by omega);have hq:(x+ai*dg b k+c)/65536<65536:=by omega
   have iL:¬k<b.length->(x+ai*dg b k+c)/65536=0:=fun h=>by
    have z1:dg b k=0:=by rw[dg,gF (by omega)]
    have z2:x=0:=by rw[<-uv,wH _ (Kac _),show i+k=i+b.length by omega,Nx]
    rw[z1,z2];omega
   have BB:Qs (M.set (i+k) ((x+ai*dg b k+c)%65536)):=fun z hz=>by
    rcases KcU hz with h|h
    ·exact hM z h
    ·omega
   have e5:IntKind.u64.wrap ((ai*dg b k:Nat):Int)=((ai*dg b k:Nat):Int):=rT (by omega) (by omega);refine Sz5 h6 h7 h8 dY fy ?_;refine Qa hP (mJ hb (by omega)) rfl rfl rfl ?_;refine Sz7 h6 h7 h8 dY fy e5 @Nat.mod_mod ?_;refine Qg (b.length+1-(k+1)) (by omega) ⟨k+1,(x+ai*dg b k+c)/65536,M.set (i+k) ((x+ai*dg b k+c)%65536),rfl,by omega,?_,hq,by rw[Kb8];exact VO,BB,?_,?_,?_⟩
   ·by_cases h:k<b.length
    ·omega
    ·exact .inr (iL h)
   ·rw[<-Nat.add_assoc,KbB];exact nB
   ·intro j wh;rw[UU (by omega)];exact wH j (by omega)
   ·exact Tz3 h6 h7 h8
  refine Sz3 h6 h7 h8 ?_;refine Qb (fun v9=>?_) (fun v9=>?_)
  ·have aoP:k<=b.length:=by omega
   have hj:i+k<M.length:=by omega
   have hx:=eM hM hj;have ks:=fun v=>QP (v:=v) hj;have wB:=tt Fh d2;have uv:dg M (i+k)=M[i+k]:=gE hj;generalize fy:M[i+k]=x at *
   have ur:=Kbr (x+ai*dg b k+c) 65536;have nB:=UT (T:=val L+65536^i*(ai*val b)) (ks ((x+ai*dg b k+c)%65536)) (by rw[<-e2];exact hw) ur;have hr:=Kbw (x+ai*dg b k+c) (show 0<65536 by omega);have hq:(x+ai*dg b k+c)/65536<65536:=by omega
   have iL:¬k<b.length->(x+ai*dg b k+c)/65536=0:=fun h=>by
    have z1:dg b k=0:=by rw[dg,gF (by omega)]
    have z2:x=0:=by rw[<-uv,wH _ (Kac _),show i+k=i+b.length by omega,Nx]
    rw[z1,z2];omega
   have BB:Qs (M.set (i+k) ((x+ai*dg b k+c)%65536)):=fun z hz=>by
    rcases KcU hz with h|h
    ·exact hM z h
    ·omega
   have e5:IntKind.u64.wrap ((ai*dg b k:Nat):Int)=((ai*dg b k:Nat):Int):=rT (by omega) (by omega);refine Sz5 h6 h7 h8 dY fy ?_;refine Qa hP (mJ hb (by omega)) rfl rfl rfl ?_;refine Sz7 h6 h7 h8 dY fy e5 @Nat.mod_mod ?_;refine Qg (b.length+1-(k+1)) (by omega) ⟨k+1,(x+ai*dg b k+c)/65536,M.set (i+k) ((x+ai*dg b k+c)%65536),rfl,by omega,?_,hq,by rw[Kb8];exact VO,BB,?_,?_,?_⟩
   ·by_cases h:k<b.length
    ·omega
    ·exact .inr (iL h)
   ·rw[<-Nat.add_assoc,KbB];exact nB
   ·intro j wh;rw[UU (by omega)];exact wH j (by omega)
   ·exact Tz3 h6 h7 h8
  ·obtain rfl:c=0:=by omega
   rw[Kan (by omega)]at hw;simp only[val,Kb1,KaS]at hw;refine Sz3 h6 h7 h8 ?_;simp (disch:=decide) only[jR,mM];refine Qg (a.length-(i+1)) (by omega) ⟨i+1,M,rfl,by omega,by omega,hM,?_,?_⟩
   ·rw[hw,hv,lF,KaF,Kbh]
   ·exact Tz0
 ·obtain rfl:i=a.length:=by omega
  rw[Kar]at hv;refine Sz0 ?_;refine vh hP (nK hL (by omega)) (by simp+decide (disch:=try exact E0) only[go_sem,et,Kax,KaC,Kau,KaA,Kak];simp[Kae,VN]) rfl fun an=>?_;refine Sz0 ?_;exact Qd (by rw[hv]) rfl
theorem zF{x y:Nat}(hx:nl x<2^40)(hy:nl y<2^40):Qc Tryz.prog 103 [PV.num x,PV.num y] (· =PV.num (x*y)):=by
 have:=G7 (Qp x) (Qp y) hx hy
 rwa[Q7,Q7]at this
theorem Q9a{x y:Nat}(hx:nl x<2^42)(hy:nl y<2^42):Qc Tryz.prog 169 [PV.num x,PV.num y] (· = .int .i64 (g9 x y)):=by
 have:=C1 (Qp x) (Qp y) hx hy
 rwa[Q7,Q7]at this
theorem Uv{x y:Nat}(hx:nl x<2^40)(hy:nl y<2^40)(h:y<=x):Qc Tryz.prog 152 [PV.num x,PV.num y] (· = .au [PV.num (x-y),.int .i64 0]):=by
 have:=G6 (Qp x) (Qp y) hx hy
 rwa[Q7,Q7,if_neg (by omega)]at this
theorem Rb{x y:Nat}:g9 x y<=0↔x<=y:=by unfold g9;split<;>(try split)<;>omega
theorem SG{x y:Nat}(hx:nl x<2^38)(hy:nl y<2^38)(cX:0<y):Qc Tryz.prog 165 [PV.num x,PV.num y] (· = .int .u64 (min 65535 (x/y):Nat)):=by
 have uB:∀(n d:Nat) fr hp K,n<18446744073709551616->cg .quo false (.int .u64 (n:Int)) (.int .u64 2) d fr hp K=K (af fr d (.int .u64 ((n/2:Nat):Int))) hp:=fun n d fr hp K h=>by rw[show(2:Int)=((2:Nat):Int)from rfl,Av (by omega) h]
 refine Qf Qo Tryz.func165 rfl ahk (by simp[Kn]) fun C hP=>?_;simp only[Kn,Zo,Zg,Zm,Zc,Zf,Zl,Zh,Zs,Zi,Zb,Zk,Zn,Zu,Zq,Zr,Zz];refine Sz0 ?_;refine Qw (by repeat (first|exact Qr|exact Qk|exact Ql|exact Qm|exact Qn|apply Qj|apply Qq|apply Qx|apply Q5|apply Q6|apply Qi|apply Q2)) [(5,25)] [] (fun m J hp=>∃lo hi:Nat,m=hi-lo/\lo<=hi/\hi<=65535/\y*lo<=x/\(hi=65535∨x<y*(hi+1))/\J 5= .int .u64 lo/\J 6= .int .u64 hi) 65535 ?_ ?_
 ·refine⟨0,65535,rfl,by omega,by omega,by omega,.inl rfl,?_⟩;refine Sz0 ?_;simp
 rintro _ J h ⟨lo,hi,rfl,h1,h2,h3,h4,h5,h6⟩;refine Sz2 h5 h6 ?_;refine Qb (fun hg=>?_) (fun hg=>?_)
 ·have fY:nl ((lo+hi+1)/2)<=4:=rU (by omega);have hm:=gV y ((lo+hi+1)/2);generalize ao1:(lo+hi+1)/2=wO at *
  refine Sz4 h5 h6 uB ao1 ?_;refine Qa hP (mI (n:=wO) (by omega)) rfl rfl rfl ?_;refine Sz2 h5 h6 ?_;refine Qa hP (zF (x:=y) (y:=wO) (by omega) (by omega)) rfl rfl rfl ?_;refine Sz2 h5 h6 ?_;refine Qa hP (Q9a (x:=y*wO) (y:=x) (by omega) (by omega)) rfl rfl rfl ?_;refine Sz2 h5 h6 ?_;refine Qb (fun hc=>?_) (fun hc=>?_)
  ·rw[Rb]at hc;refine Sz2 h5 h6 ?_;refine Qg (hi-wO) (by omega) ⟨wO,hi,rfl,by omega,h2,hc,h4,?_⟩;exact Tz1 h6
  ·rw[Rb]at hc;obtain⟨n,rfl⟩:∃n,wO=n+1:=⟨wO-1,by omega⟩
   have e:((n+1:Nat):Int)-1=n:=by omega
   refine Sz3 h5 h6 e ?_;refine Qg (n-lo) (by omega) ⟨lo,n,rfl,by omega,by omega,h3,.inr (by omega),?_⟩;exact Tz1 h5
 ·obtain rfl:lo=hi:=by omega
  refine Sz1 h5 ?_;refine Qd ?_ rfl;have hle:lo<=x/y:=(Nat.le_div_iff_mul_le cX).2 (by rw[KaU];exact h3);rcases h4 with rfl|h4
  ·rw[KbY hle]
  ·have:x/y<lo+1:=(Kbn cX).2 (by rw[KaU];exact h4);congr 2;omega
theorem St{a b:List Nat}(ha:Qs a)(hb:Qs b)(bC:a.length<2^36)(cT:b.length<2^36):Qc Tryz.prog 129 [PV.nat a,PV.nat b]
  (· =if val b=0 then .au [PV.num 0,PV.num 0,.int .i64 3]else .au [PV.num (val a/val b),PV.num (val a%val b),.int .i64 0]):=by
 have gM:=cm ha;have jc:=cm hb;refine Qf Qo Tryz.func129 rfl ahl (by simp[JJ]) fun C hP=>?_;simp only[JJ,Zo,Zg,Zm,Zc,Zf,Zl,Zh,Zs,Zi,Zb,Zk,Zn,Zu,Zq,Zr,Zz];refine Sz0 ?_;refine Qa hP (nK ha (by omega)) rfl rfl rfl ?_;refine Sz0 ?_;refine Qa hP (nK hb (by omega)) rfl rfl rfl ?_;refine Sz0 ?_;generalize val a=x at *
 generalize val b=y at *
 unfold nl at gM jc;refine Qb (fun hz=>?_) (fun hz=>?_)
 ·have cX:y=0:=kE.1 (pA (by omega));refine Sz0 ?_;rw[if_pos cX];exact tV rfl rfl rfl rfl xF xF (Qy _)
 have cX:y≠0:=fun h=>by rw[h,fQ]at hz;simp at hz
 rw[if_neg cX];have hyp:0<y:=KaY cX;have dX:=Qp x;have ig:=Qp y;have qm:=Q7 x;have sW:=Q7 y;refine Sz0 ?_;refine gw (fun h1=>?_) (fun h1=>?_)
 ·refine Sz0 ?_;refine Qb (fun h2=>?_) (fun h2=>?_)
  ·have arN:=Dk.1 (show nl x<=4 by unfold nl;omega);have arP:=Dk.1 (show nl y<=4 by unfold nl;omega);have hq:=KcM x y;have hr:=Kbw x hyp;refine Sz0 ?_;refine Qa hP (CI dX (by omega)) rfl rfl rfl ?_;refine Sz1 qm ?_;refine Qa hP (CI ig (by omega)) rfl rfl rfl ?_;refine Sz3 qm sW @Av ?_;refine Qa hP (mI (n:=x/y) (by omega)) rfl rfl rfl ?_;refine Sz0 ?_;refine Qa hP (CI dX (by omega)) rfl rfl rfl ?_;refine Sz1 qm ?_;refine Qa hP (CI ig (by omega)) rfl rfl rfl ?_;refine Sz3 qm sW @pJ ?_;refine Qa hP (mI (n:=x%y) (by omega)) rfl rfl rfl ?_;refine Sz0 ?_;exact tV rfl rfl rfl rfl (Qy _) (Qy _) (Qy _)
  ·have apv:=trivial;refine Sz0 ?_;refine rZ 7 1 Tz0 ?_;refine rZ 8 1 Tz0 ?_;refine H5 (by repeat (first|exact Qr|exact Qk|exact Ql|exact Qm|exact Qn|apply Qj|apply Qq|apply Qx|apply Q5|apply Q6|apply Qi|apply Q2)) [(7,10),(41,69)] [49,51,58,60] (fun k J hp=>∃qs,k<=(ah x).length/\qs.length=(ah x).length-k/\Qs qs/\val qs=val ((ah x).drop k)/y/\J 7= .sl 1 (cn qs)/\J 8=PV.num (val ((ah x).drop k)%y)/\J 9= .int .i64 ((k:Int)-1)) (ah x).length ?_ ?_
   ·refine⟨[],Kac _,by simp,nO,by simp[val],?_⟩;refine Sz0 ?_;simp[val,fQ]
   rintro k J h ⟨qs,hk,sQ,o6,rp,h7,h8,h9⟩;refine Sz3 h7 h8 h9 ?_;have hr:=Kbw (val ((ah x).drop k)) hyp;refine Qb (fun hg=>?_) (fun hg=>?_)
   ·obtain _|n:=k
    ·omega
    have hn:n<(ah x).length:=by omega
    have v7:=eM dX hn;have e:((n+1:Nat):Int)-1=n:=by omega
    have aG:=Uo (x:=(ah x)[n]) hyp rp;rw[<-lS hn]at aG;generalize hV:val ((ah x).drop (n+1))%y=r at *
    generalize dY:(ah x)[n]=xi at *
    have lE:(ah r).length<=(ah y).length:=fS (Nat.le_of_lt hr);have qe:Qs ([xi]++ah r):=by rw[nJ];exact⟨by intro z hz;simp at hz;omega,Qp r⟩
    have kt:val ([xi]++ah r)=r*65536+xi:=by rw[mH,Q7];simp[val];omega
    have ar:(r*65536+xi)/y<65536:=by rw[Kbn hyp];have:(r+1)*65536<=y*65536:=Kaf _ hr;omega
    have Nc:nl (r*65536+xi)<=(ah y).length+1:=by have:=cm qe;rw[kt,Kap]at this;simp at this;omega
    have ur:=Kbr (r*65536+xi) y;have kp:nl (y*((r*65536+xi)/y))<=(ah y).length+1:=Kaw (fS (by omega)) Nc;have Na:nl ((r*65536+xi)/y)<=4:=rU (by omega);have No:r*65536+xi-y*((r*65536+xi)/y)=(r*65536+xi)%y:=by omega
    refine Sz5 h7 h8 h9 e dY ?_;rw[mN (f:=fun(x:Nat)=>.int .u16 x) (xs:=[xi]) (ys:=ah r) (n:=1) cH rfl (by omega) (by omega) (by omega)];refine Sz5 h7 h8 h9 e dY ?_;refine iQ hP (nK (l:=[xi]++ah r) qe (by simp;omega)) (by simp+decide (disch:=try exact E0) only[go_sem,et,Kax,KaC,Kau,KaA,Kak];simp[KbQ 1,Kae]) rfl ?_;rw[kt];refine Sz5 h7 h8 h9 e dY ?_;refine Qa hP (SG (x:=r*65536+xi) (y:=y) (by omega) (by unfold nl;omega) hyp) rfl rfl rfl ?_;rw[Kde (by omega:(r*65536+xi)/y<=65535)];generalize hD:(r*65536+xi)/y=D at *
    simp+decide (disch:=first|omega|rfl|(simp+decide only[go_sem,h7,h8,h9,e,dY,KaR ar]<;>rfl)|fail) only[go_sem,h7,h8,h9,e,dY,KaR ar];rw[mN (f:=fun(x:Nat)=>.int .u16 x) (xs:=[D]) (ys:=qs) (n:=1) cH rfl (by omega) (by omega) (by omega)];refine Sz5 h7 h8 h9 e dY ?_;refine Qa hP (mI (n:=D) (by omega)) rfl rfl rfl ?_;refine Sz4 h7 h8 h9 e ?_;refine Qa hP (zF (x:=y) (y:=D) (by unfold nl;omega) (by omega)) rfl rfl rfl ?_;refine Sz4 h7 h8 h9 e ?_;refine Qa hP (Uv (x:=r*65536+xi) (y:=y*D) (by omega) (by omega) (by omega)) rfl rfl rfl ?_;rw[No];refine Sz4 h7 h8 h9 e ?_;refine Hm 7 n rfl ?_ (by omega) ⟨D::qs,by omega,by simp;omega,?_,?_,?_⟩
    ·exact yt
    ·rw[iq];exact⟨ar,o6⟩
    ·rw[val,aG.1]
    ·refine tZ aG.2 ?_;simp[KbQ 1,Kae]
   ·obtain rfl:k=0:=by omega
    rw[Kbp,qm]at rp h8;refine Sz2 h7 h8 ?_;refine Qa hP (nK o6 (by omega)) rfl rfl rfl ?_;refine Sz2 h7 h8 ?_;exact tV rfl rfl rfl rfl (tF (by rw[rp])) (Qy _) (Qy _)
 ·have apv:=trivial;refine Sz0 ?_;refine rZ 7 1 Tz0 ?_;refine rZ 8 1 Tz0 ?_;refine H5 (by repeat (first|exact Qr|exact Qk|exact Ql|exact Qm|exact Qn|apply Qj|apply Qq|apply Qx|apply Q5|apply Q6|apply Qi|apply Q2)) [(7,10),(41,69)] [49,51,58,60] (fun k J hp=>∃qs,k<=(ah x).length/\qs.length=(ah x).length-k/\Qs qs/\val qs=val ((ah x).drop k)/y/\J 7= .sl 1 (cn qs)/\J 8=PV.num (val ((ah x).drop k)%y)/\J 9= .int .i64 ((k:Int)-1)) (ah x).length ?_ ?_
  ·refine⟨[],Kac _,by simp,nO,by simp[val],?_⟩;refine Sz0 ?_;simp[val,fQ]
  rintro k J h ⟨qs,hk,sQ,o6,rp,h7,h8,h9⟩;refine Sz3 h7 h8 h9 ?_;have hr:=Kbw (val ((ah x).drop k)) hyp;refine Qb (fun hg=>?_) (fun hg=>?_)
  ·obtain _|n:=k
   ·omega
   have hn:n<(ah x).length:=by omega
   have v7:=eM dX hn;have e:((n+1:Nat):Int)-1=n:=by omega
   have aG:=Uo (x:=(ah x)[n]) hyp rp;rw[<-lS hn]at aG;generalize hV:val ((ah x).drop (n+1))%y=r at *
   generalize dY:(ah x)[n]=xi at *
   have lE:(ah r).length<=(ah y).length:=fS (Nat.le_of_lt hr);have qe:Qs ([xi]++ah r):=by rw[nJ];exact⟨by intro z hz;simp at hz;omega,Qp r⟩
   have kt:val ([xi]++ah r)=r*65536+xi:=by rw[mH,Q7];simp[val];omega
   have ar:(r*65536+xi)/y<65536:=by rw[Kbn hyp];have:(r+1)*65536<=y*65536:=Kaf _ hr;omega
   have Nc:nl (r*65536+xi)<=(ah y).length+1:=by have:=cm qe;rw[kt,Kap]at this;simp at this;omega
   have ur:=Kbr (r*65536+xi) y;have kp:nl (y*((r*65536+xi)/y))<=(ah y).length+1:=Kaw (fS (by omega)) Nc;have Na:nl ((r*65536+xi)/y)<=4:=rU (by omega);have No:r*65536+xi-y*((r*65536+xi)/y)=(r*65536+xi)%y:=by omega
   refine Sz5 h7 h8 h9 e dY ?_;rw[mN (f:=fun(x:Nat)=>.int .u16 x) (xs:=[xi]) (ys:=ah r) (n:=1) cH rfl (by omega) (by omega) (by omega)];refine Sz5 h7 h8 h9 e dY ?_;refine iQ hP (nK (l:=[xi]++ah r) qe (by simp;omega)) (by simp+decide (disch:=try exact E0) only[go_sem,et,Kax,KaC,Kau,KaA,Kak];simp[KbQ 1,Kae]) rfl ?_;rw[kt];refine Sz5 h7 h8 h9 e dY ?_;refine Qa hP (SG (x:=r*65536+xi) (y:=y) (by omega) (by unfold nl;omega) hyp) rfl rfl rfl ?_;rw[Kde (by omega:(r*65536+xi)/y<=65535)];generalize hD:(r*65536+xi)/y=D at *
   simp+decide (disch:=first|omega|rfl|(simp+decide only[go_sem,h7,h8,h9,e,dY,KaR ar]<;>rfl)|fail) only[go_sem,h7,h8,h9,e,dY,KaR ar];rw[mN (f:=fun(x:Nat)=>.int .u16 x) (xs:=[D]) (ys:=qs) (n:=1) cH rfl (by omega) (by omega) (by omega)];refine Sz5 h7 h8 h9 e dY ?_;refine Qa hP (mI (n:=D) (by omega)) rfl rfl rfl ?_;refine Sz4 h7 h8 h9 e ?_;refine Qa hP (zF (x:=y) (y:=D) (by unfold nl;omega) (by omega)) rfl rfl rfl ?_;refine Sz4 h7 h8 h9 e ?_;refine Qa hP (Uv (x:=r*65536+xi) (y:=y*D) (by omega) (by omega) (by omega)) rfl rfl rfl ?_;rw[No];refine Sz4 h7 h8 h9 e ?_;refine Hm 7 n rfl ?_ (by omega) ⟨D::qs,by omega,by simp;omega,?_,?_,?_⟩
   ·exact yt
   ·rw[iq];exact⟨ar,o6⟩
   ·rw[val,aG.1]
   ·refine tZ aG.2 ?_;simp[KbQ 1,Kae]
  ·obtain rfl:k=0:=by omega
   rw[Kbp,qm]at rp h8;refine Sz2 h7 h8 ?_;refine Qa hP (nK o6 (by omega)) rfl rfl rfl ?_;refine Sz2 h7 h8 ?_;exact tV rfl rfl rfl rfl (tF (by rw[rp])) (Qy _) (Qy _)
theorem SH{x y:Nat}(hx:nl x<2^36)(hy:nl y<2^36)(h0:y≠0):Qc Tryz.prog 129 [PV.num x,PV.num y] (· = .au [PV.num (x/y),PV.num (x%y),.int .i64 0]):=by
 have:=St (Qp x) (Qp y) hx hy
 rwa[Q7,Q7,if_neg h0]at this
theorem G8{a b:List Nat}(ha:Qs a)(hb:Qs b)(bC:a.length<2^36)(cT:b.length<2^36):Qc Tryz.prog 128 [PV.nat a,PV.nat b] (· =PV.num (Nat.gcd (val a) (val b))):=by
 have gM:=cm ha;have jc:=cm hb;refine Qf Qo Tryz.func128 rfl ahm (by simp[JI]) fun C hP=>?_;simp only[JI,Zo,Zg,Zm,Zc,Zf,Zl,Zh,Zs,Zi,Zb,Zk,Zn,Zu,Zq,Zr,Zz];refine Sz0 ?_;refine Qa hP (nK ha (by omega)) rfl rfl rfl ?_;refine Sz0 ?_;refine Qa hP (nK hb (by omega)) rfl rfl rfl ?_;refine Sz0 ?_;refine Qw (by repeat (first|exact Qr|exact Qk|exact Ql|exact Qm|exact Qn|apply Qj|apply Qq|apply Qx|apply Q5|apply Q6|apply Qi|apply Q2)) [(0,1),(5,7),(12,23)] [] (fun m J hp=>∃x,Nat.gcd x m=Nat.gcd (val a) (val b)/\nl x<2^36/\nl m<2^36/\J 0=PV.num x/\J 1=PV.num m/\hp=aF) (val b) ?_ ?_
 ·refine⟨val a,rfl,by omega,by omega,?_⟩;exact Tz0
 rintro y J _ ⟨x,hg,hx,hy,h0,h1,rfl⟩;generalize Nat.gcd (val a) (val b)=g at *
 refine Sz2 h0 h1 ?_;refine Qb (fun hc=>?_) (fun hc=>?_)
 ·have cX:y≠0:=fun h=>by rw[h,fQ]at hc;simp at hc
  have BE:=fS (Nat.le_of_lt (Kbw x (KaY cX)));refine Sz2 h0 h1 ?_;refine Qa hP (SH (x:=x) (y:=y) hx hy cX) rfl rfl rfl ?_;refine Sz2 h0 h1 ?_;refine Qg (x%y) (Kbw _ (KaY cX)) ⟨y,?_,hy,by omega,?_⟩
  ·rw[<-hg,Kcx x y,Nat.gcd_rec y x,Kcx]
  ·exact Tz0
 ·have cX:y=0:=kE.1 (pA (by omega));subst cX;refine Sz1 h0 ?_;exact Qd (by rw[<-hg,Kc4]) rfl
theorem Uw{x y:Nat}(hx:nl x<2^36)(hy:nl y<2^36):Qc Tryz.prog 128 [PV.num x,PV.num y] (· =PV.num (Nat.gcd x y)):=by
 have:=G8 (Qp x) (Qp y) hx hy
 rwa[Q7,Q7]at this
theorem th{n:Bool}{a:List Nat}(ha:Qs a)(bC:a.length<2^42):Qc Tryz.prog 133 [.bool n,PV.nat a] (· =PV.zz (zv n a)):=by
 refine Qf Qo Tryz.func133 rfl ahq (by simp[JN]) fun C hP=>?_;simp only[JN,Zo,Zg,Zm,Zc,Zf,Zl,Zh,Zs,Zi,Zb,Zk,Zn,Zu,Zq,Zr,Zz];refine Sz0 ?_;refine Qa hP (nK ha bC) rfl rfl rfl ?_;refine Sz0 ?_;refine xj (fun hn=>?_) (fun hn=>?_)
 all_goals
  refine Sz0 ?_;refine dC ?_;refine Sz0 ?_;exact Qd (by have:=IL n (val a);rw[hn]at this;subst hn;simpa[zv]using this) rfl
theorem CL{n:Bool}{a:List Nat}(ha:Qs a)(bC:a.length<2^42):Qc Tryz.prog 132 [PV.zi n a] (· =PV.zz (zv n a)):=by refine Qf Qo Tryz.func132 rfl ahr (by simp[JM]) fun C hP=>?_;simp only[JM,Zo,Zg,Zm,Zc,Zf,Zl,Zh,Zs,Zi,Zb,Zk,Zn,Zu,Zq,Zr,Zz];refine Sz0 ?_;refine Qa hP (th ha bC) rfl rfl rfl ?_;refine Sz0 ?_;refine dC ?_;refine Sz0 ?_;exact Qd rfl rfl
theorem Tt{n m:Bool}{a b:List Nat}(ha:Qs a)(hb:Qs b)(bC:a.length<2^40)(cT:b.length<2^40):Qc Tryz.prog 101 [PV.zi n a,PV.zi m b] (· =PV.zz (zv n a*zv m b)):=by
 have hr:nl (val a*val b)<2^42:=by have:=gV (val a) (val b);have:=cm ha;have:=cm hb;omega
 refine Qf Qo Tryz.func101 rfl agW (by simp[Ji]) fun C hP=>?_;simp only[Ji,Zo,Zg,Zm,Zc,Zf,Zl,Zh,Zs,Zi,Zb,Zk,Zn,Zu,Zq,Zr,Zz];refine Sz0 ?_;refine Qa hP (G7 ha hb bC cT) rfl rfl rfl ?_;refine Sz0 ?_;refine Qa hP (th (n:= !(n==m)) (Qp (val a*val b)) hr) rfl rfl rfl ?_;refine Sz0 ?_;refine dC ?_;refine Sz0 ?_;exact Qd (congrArg PV.zz (by rw[r9];unfold zv;cases n<;>cases m<;>simp[Int.neg_mul,Int.mul_neg])) rfl
theorem Q9b{x:Int}(h1: -9223372036854775808<=x)(h2:x<=9223372036854775807):Qc Tryz.prog 73 [.int .i64 x] (· =PV.zz x):=by
 refine Qf Qo Tryz.func73 rfl ajG (by simp[LB]) fun C hP=>?_;simp only[LB,Zo,Zg,Zm,Zc,Zf,Zl,Zh,Zs,Zi,Zb,Zk,Zn,Zu,Zq,Zr,Zz];refine Sz0 ?_;refine Qb (fun hc=>?_) (fun hc=>?_)
 ·obtain⟨y,hy⟩:∃y:Nat,x= -((y:Int)+1):=⟨(-(x+1)).toNat,by omega⟩
  have e1:IntKind.i64.wrap (x+1)= -(y:Int):=by rw[vk (by omega) (by omega)];omega
  have e2:IntKind.i64.wrap (0- -(y:Int))=(y:Int):=by rw[vk (by omega) (by omega)];omega
  have e3:IntKind.u64.wrap (y:Int)=(y:Int):=rT (by omega) (by omega);have me:nl y<=4:=rU (by omega);have gB:nl (y+1)<=4:=rU (by omega);refine Sz3 e1 e2 e3 ?_;refine Qa hP (mI (n:=y) (by omega)) rfl rfl rfl ?_;refine Sz0 ?_;refine Qa hP (mI (n:=1) (by omega)) rfl rfl rfl ?_;refine Sz0 ?_;refine Qa hP (Ts (Qp y) (Qp 1) (show nl y<_ by omega) (show nl 1<_ by rw[jV];omega)) rfl rfl rfl ?_;refine Sz0 ?_;refine Qa hP (th (n:=true) (Qp (val (ah y)+val (ah 1))) (show nl _<_ by rw[Q7,Q7];omega)) rfl rfl rfl ?_;refine Sz0 ?_;refine dC ?_;refine Sz0 ?_;exact Qd (congrArg PV.zz (by rw[r9,Q7,Q7];simp;omega)) rfl
 ·obtain⟨y,rfl⟩:∃y:Nat,x=y:=⟨x.toNat,by omega⟩
  have me:nl y<=4:=rU (by omega);refine Sz0 ?_;refine Qa hP (mI (by omega)) rfl rfl rfl ?_;refine Sz0 ?_;refine Qa hP (th (n:=false) (Qp y) (show nl _<_ by omega)) rfl rfl rfl ?_;refine Sz0 ?_;refine dC ?_;refine Sz0 ?_;exact Qd (congrArg PV.zz (by rw[r9];simp)) rfl
theorem YV{n:Bool}{a:List Nat}(ha:Qs a)(bC:a.length<2^42):Qc Tryz.prog 104 [PV.zi n a] (· = .int .i64 (fH (zv n a))):=by
 refine Qf Qo Tryz.func104 rfl ahs (by simp[Jl]) fun C hP=>?_;simp only[Jl,Zo,Zg,Zm,Zc,Zf,Zl,Zh,Zs,Zi,Zb,Zk,Zn,Zu,Zq,Zr,Zz];refine Sz0 ?_;refine Qa hP (CL ha bC) rfl rfl rfl ?_;generalize zv n a=z;refine Sz0 ?_;refine Qb (fun hz=>?_) (fun hz=>?_)
 ·have:z=0:=by have:=kE.1 (pA (n:=z.natAbs) (by omega));omega
  subst this;refine Sz0 ?_;exact Qd rfl rfl
 ·have h0:z≠0:=fun h=>by subst h;exact hz (by simp[fQ])
  refine Sz0 ?_;refine zS (fun hn=>?_) (fun hn=>?_)
  ·have hn:z<0:=by simpa using hn
   refine Sz0 ?_;exact Qd (by rw[fH,if_pos hn]) rfl
  ·have hn:¬z<0:=by simpa using hn
   refine Sz0 ?_;exact Qd (by rw[fH,if_neg hn,if_pos (by omega)]) rfl
theorem Ys{n:Bool}{a:List Nat}(ha:Qs a)(bC:a.length<2^42):Qc Tryz.prog 139 [PV.zi n a] (· = .bool (nX n a)):=by
 refine Qf Qo Tryz.func139 rfl ahp (by simp[JT]) fun C hP=>?_;simp only[JT,Zo,Zg,Zm,Zc,Zf,Zl,Zh,Zs,Zi,Zb,Zk,Zn,Zu,Zq,Zr,Zz];refine Sz0 ?_;refine Qa hP (SF ha (by omega)) rfl rfl rfl ?_;refine Sz0 ?_;refine xj (fun hv=>?_) (fun hv=>?_)
 ·refine Sz0 ?_;refine xj (fun hn=>?_) (fun hn=>?_)
  ·refine Sz0 ?_;exact Qd (congrArg PV.bool (by unfold nX;subst hn;cases a<;>simp_all<;>omega)) rfl
  ·refine Sz0 ?_;exact Qd (congrArg PV.bool (by unfold nX;subst hn;cases a<;>simp_all)) rfl
 ·refine Sz0 ?_;exact Qd (congrArg PV.bool (by unfold nX;cases a<;>simp_all)) rfl
theorem ZM{n m:Bool}{a b:List Nat}(ha:Qs a)(hb:Qs b)(bC:a.length<2^41)(cT:b.length<2^41):Qc Tryz.prog 138 [PV.zi n a,PV.zi m b] (· = .int .i64 (cY (zv n a) (zv m b))):=by
 have hx:nl (zv n a).natAbs<2^41:=by rw[jS];have:=cm ha;omega
 have hy:nl (zv m b).natAbs<2^41:=by rw[jS];have:=cm hb;omega
 refine Qf Qo Tryz.func138 rfl aht (by simp[JS]) fun C hP=>?_;simp only[JS,Zo,Zg,Zm,Zc,Zf,Zl,Zh,Zs,Zi,Zb,Zk,Zn,Zu,Zq,Zr,Zz];refine Sz0 ?_;refine Qa hP (CL ha (by omega)) rfl rfl rfl ?_;refine Sz0 ?_;refine Qa hP (CL hb (by omega)) rfl rfl rfl ?_;generalize zv n a=x at *
 generalize zv m b=y at *
 have lx:(ah x.natAbs).length<2^41:=hx;have ly:(ah y.natAbs).length<2^41:=hy;by_cases bw:x<0<;>by_cases cX:y<0
 ·refine Sz2 bw cX ?_;refine Qa hP (C1 (Qp y.natAbs) (Qp x.natAbs) (by omega) (by omega)) rfl rfl rfl ?_;refine Sz0 ?_;exact Qd (congrArg (PV.int .i64) (by rw[Q7,Q7];unfold g9 cY;split<;>split<;>(try split)<;>(try split)<;>omega)) rfl
 ·refine Sz2 bw cX ?_;exact Qd (congrArg (PV.int .i64) (by unfold cY;rw[if_pos (by omega)])) rfl
 ·refine Sz2 bw cX ?_;exact Qd (congrArg (PV.int .i64) (by unfold cY;rw[if_neg (by omega),if_pos (by omega)])) rfl
 ·refine Sz2 bw cX ?_;refine Qa hP (C1 (Qp x.natAbs) (Qp y.natAbs) (by omega) (by omega)) rfl rfl rfl ?_;refine Sz0 ?_;exact Qd (congrArg (PV.int .i64) (by rw[Q7,Q7];unfold g9 cY;split<;>split<;>(try split)<;>(try split)<;>omega)) rfl
theorem ZN{n m:Bool}{a b:List Nat}(ha:Qs a)(hb:Qs b)(bC:a.length<2^40)(cT:b.length<2^40):Qc Tryz.prog 100 [PV.zi n a,PV.zi m b] (· =PV.zz (zv n a+zv m b)):=by
 have gM:=cm ha;have jc:=cm hb;refine Qf Qo Tryz.func100 rfl agV (by simp[Jh]) fun C hP=>?_;simp only[Jh,Zo,Zg,Zm,Zc,Zf,Zl,Zh,Zs,Zi,Zb,Zk,Zn,Zu,Zq,Zr,Zz];refine Sz0 ?_;refine zS (fun kp=>?_) (fun kp=>?_)
 ·have kp:n=m:=by simpa using kp
  subst kp;have hr:=vD (val a) (val b);refine Sz0 ?_;refine Qa hP (Ts ha hb bC cT) rfl rfl rfl ?_;refine Sz0 ?_;refine Qa hP (th (n:=n) (Qp (val a+val b)) (show nl _<_ by omega)) rfl rfl rfl ?_;refine Sz0 ?_;refine dC ?_;refine Sz0 ?_;exact Qd (congrArg PV.zz (by rw[r9];unfold zv;split<;>simp<;>omega)) rfl
 have kp:n= !m:=by cases n<;>cases m<;>simp_all
 subst kp;refine Sz0 ?_;refine Qa hP (G6 ha hb bC cT) rfl rfl rfl ?_;by_cases hc:val a<val b
 ·rw[if_pos hc];have hr:=fS (Nat.sub_le (val b) (val a));refine Sz0 ?_;refine Qa hP (G6 hb ha cT bC) rfl rfl rfl ?_;rw[if_neg (by omega)];refine Sz0 ?_;refine Qa hP (th (n:=m) (Qp (val b-val a)) (show nl _<_ by omega)) rfl rfl rfl ?_;refine Sz0 ?_;refine dC ?_;refine Sz0 ?_;exact Qd (congrArg PV.zz (by rw[r9];unfold zv;cases m<;>simp<;>omega)) rfl
 ·rw[if_neg hc];have hr:=fS (Nat.sub_le (val a) (val b));refine Sz0 ?_;refine Qa hP (th (n:= !m) (Qp (val a-val b)) (show nl _<_ by omega)) rfl rfl rfl ?_;refine Sz0 ?_;refine dC ?_;refine Sz0 ?_;exact Qd (congrArg PV.zz (by rw[r9];unfold zv;cases m<;>simp<;>omega)) rfl
theorem SO{a:List Nat}{g:Nat}(ha:Qs a)(hx:a.length<2^36)(hy:nl g<2^36)(h0:g≠0):Qc Tryz.prog 129 [PV.nat a,PV.num g] (· = .au [PV.num (val a/g),PV.num (val a%g),.int .i64 0]):=by
 have:=St ha (Qp g) hx hy
 rwa[Q7,if_neg h0]at this
theorem ako(n:Bool)(a:List Nat)(D:Nat):zv n (ah (val a/Nat.gcd (val a) D))=zv n a/(Nat.gcd (zv n a).natAbs D:Int):=by
 rw[jS,r9];unfold zv;cases n
 ·simp
 ·have hd:((Nat.gcd (val a) D:Nat):Int)∣(val a:Int):=Int.natCast_dvd_natCast.2 (KbJ _ _);simp only[if_true];rw[Int.neg_ediv_of_dvd hd,Int.natCast_ediv]
theorem SP{n:Bool}{a d:List Nat}(ha:Qs a)(hd:Qs d)(bC:a.length<2^36)(wv:d.length<2^36):Qc Tryz.prog 72 [PV.zi n a,PV.nat d] (· =PV.rat (rv n a d)):=by
 have BF:=cm ha;have Nd:=cm hd;refine Qf Qo Tryz.func72 rfl ajI (by simp[LA]) fun C hP=>?_;simp only[LA,Zo,Zg,Zm,Zc,Zf,Zl,Zh,Zs,Zi,Zb,Zk,Zn,Zu,Zq,Zr,Zz];refine Sz0 ?_;refine Qa hP (nK hd (by omega)) rfl rfl rfl ?_;refine Sz0 ?_;refine Qb (fun hz=>?_) (fun hz=>?_)
 ·have h0:val d=0:=kE.1 (pA (n:=val d) (by omega));refine Sz0 ?_;refine Qa hP (mI (n:=1) (by omega)) rfl rfl rfl ?_;refine Sz0 ?_;refine dC ?_;refine Sz0 ?_;exact(by unfold rv;rw[To (.inl h0),rY];exact nR PU rfl)
 ·have h0:val d≠0:=fun h=>by rw[h,fQ]at hz;exact hz rfl
  have iw:Nat.gcd (val a) (val d)≠0:=fun h=>h0 (Nat.gcd_eq_zero_iff.1 h).2;have hg:=fS (Kdf (val a) (KaY h0));have hq:=vE (val a) (Nat.gcd (val a) (val d));refine Sz0 ?_;refine Qa hP (G8 ha hd bC wv) rfl rfl rfl ?_;refine Sz0 ?_;refine Qa hP (SO ha bC (by omega) iw) rfl rfl rfl ?_;refine Sz0 ?_;refine Qa hP (SO hd wv (by omega) iw) rfl rfl rfl ?_;refine Sz0 ?_;refine Qa hP (CL (n:=n) (Qp (val a/Nat.gcd (val a) (val d))) (show nl _<_ by omega)) rfl rfl rfl ?_;rw[ako];have hm:=zW (z:=zv n a) h0;refine Sz0 ?_;refine dC ?_;refine Sz0 ?_;exact Qd (by unfold rv;rw[PV.rat,hm.1,hm.2,jS]) rfl
theorem u5{n:Bool}{a d:List Nat}{k:Nat}(hp:Raw k n a d)(hk:k<2^36):Qc Tryz.prog 97 [PV.rr n a d] (· =PV.rat (rv n a d)):=by obtain⟨ha,hd,sa,sd,k1⟩:=hp;refine Qf Qo Tryz.func97 rfl ajJ (by simp[L5]) fun C hP=>?_;simp only[L5,Zo,Zg,Zm,Zc,Zf,Zl,Zh,Zs,Zi,Zb,Zk,Zn,Zu,Zq,Zr,Zz];refine Sz0 ?_;refine Qa hP (SP (n:=n) ha hd (by omega) (by omega)) rfl rfl rfl ?_;refine Sz0 ?_;refine dC ?_;refine Sz0 ?_;exact Qd rfl rfl
theorem zK{z:Int}{D:Nat}(hz:nl z.natAbs<2^36)(hD:nl D<2^36):Qc Tryz.prog 72 [PV.zz z,PV.num D] (· =PV.rat (mkRat z D)):=by
 have:=SP (n:=decide (z<0)) (Qp z.natAbs) (Qp D) hz hD
 rwa[rv,lU,Q7]at this
theorem vb{x:Int}(h1: -9223372036854775808<=x)(h2:x<=9223372036854775807):Qc Tryz.prog 32 [.int .i64 x] (· =PV.rat (x:Rat)):=by have me:nl x.natAbs<=4:=rU (by omega);refine Qf Qo Tryz.func32 rfl ajK (by simp[KW]) fun C hP=>?_;simp only[KW,Zo,Zg,Zm,Zc,Zf,Zl,Zh,Zs,Zi,Zb,Zk,Zn,Zu,Zq,Zr,Zz];refine Sz0 ?_;refine Qa hP (Q9b h1 h2) rfl rfl rfl ?_;refine Sz0 ?_;refine Qa hP (mI (n:=1) (by omega)) rfl rfl rfl ?_;refine Sz0 ?_;refine Qa hP (zK (z:=x) (D:=1) (by omega) (by rw[jV];omega)) rfl rfl rfl ?_;refine Sz0 ?_;refine dC ?_;refine Sz0 ?_;exact Qd (congrArg PV.rat (Rat.mkRat_one x)) rfl
theorem CG(d:List Nat):Qc Tryz.prog 102 [PV.nat d] (· =PV.zi false d):=by refine Qf Qo Tryz.func102 rfl agY (by simp[Jj]) fun C hP=>?_;simp only[Jj,Zo,Zg,Zm,Zc,Zf,Zl,Zh,Zs,Zi,Zb,Zk,Zn,Zu,Zq,Zr,Zz];refine Sz0 ?_;refine dC ?_;refine Sz0 ?_;exact Qd rfl rfl
theorem Hh{x:Int}(hx:nl x.natAbs<2^42):Qc Tryz.prog 104 [PV.zz x] (· = .int .i64 (fH x)):=by
 have:=YV (n:=decide (x<0)) (Qp x.natAbs) hx
 rwa[lU]at this
theorem CV{n:Bool}{a d:List Nat}{k:Nat}(hp:Raw k n a d)(hk:k<2^36):Qc Tryz.prog 56 [PV.rr n a d] (· = .int .i64 (fk (rv n a d))):=by have hs:=hp.rs;unfold FW.rs at hs;refine Qf Qo Tryz.func56 rfl ajL (by simp[Ll]) fun C hP=>?_;simp only[Ll,Zo,Zg,Zm,Zc,Zf,Zl,Zh,Zs,Zi,Zb,Zk,Zn,Zu,Zq,Zr,Zz];refine Sz0 ?_;refine Qa hP (u5 hp hk) rfl rfl rfl ?_;refine Sz0 ?_;refine Qa hP (Hh (x:=(rv n a d).num) (by omega)) rfl rfl rfl ?_;refine Sz0 ?_;exact Qd rfl rfl
theorem Dw{x:Int}{d:Nat}(hx:nl x.natAbs<2^40)(hy:nl d<2^40):Qc Tryz.prog 101 [PV.zz x,PV.zi false (ah d)] (· =PV.zz (x*(d:Int))):=by
 have:=Tt (n:=decide (x<0)) (m:=false) (Qp x.natAbs) (Qp d) hx hy
 rwa[lU,tA,Q7]at this
theorem acI{x y:Int}(hx:nl x.natAbs<2^40)(hy:nl y.natAbs<2^40):Qc Tryz.prog 100 [PV.zz x,PV.zz y] (· =PV.zz (x+y)):=by
 have:=ZN (n:=decide (x<0)) (m:=decide (y<0)) (Qp x.natAbs) (Qp y.natAbs) hx hy
 rwa[lU,lU]at this
theorem acJ{x y:Int}(hx:nl x.natAbs<2^41)(hy:nl y.natAbs<2^41):Qc Tryz.prog 138 [PV.zz x,PV.zz y] (· = .int .i64 (cY x y)):=by
 have:=ZM (n:=decide (x<0)) (m:=decide (y<0)) (Qp x.natAbs) (Qp y.natAbs) hx hy
 rwa[lU,lU]at this
theorem Tu{n m:Bool}{a d b c:List Nat}{k:Nat}(hp:Raw k n a d)(hq:Raw k m b c)(hk:k<2^34):Qc Tryz.prog 116 [PV.rr n a d,PV.rr m b c] (· =PV.rat (rv n a d*rv m b c)):=by obtain⟨ha,hd,sa,sd,k1⟩:=hp;obtain⟨hb,hc,sb,sc,k2⟩:=hq;have h1:=lN (zv n a) (zv m b);have h2:=gV (val d) (val c);rw[jS,jS]at h1;have e1:=cm ha;have e2:=cm hd;have e3:=cm hb;have e4:=cm hc;refine Qf Qo Tryz.func116 rfl agZ (by simp[Jx]) fun C hP=>?_;simp only[Jx,Zo,Zg,Zm,Zc,Zf,Zl,Zh,Zs,Zi,Zb,Zk,Zn,Zu,Zq,Zr,Zz];refine Sz0 ?_;refine Qa hP (Tt (n:=n) (m:=m) ha hb (by omega) (by omega)) rfl rfl rfl ?_;refine Sz0 ?_;refine Qa hP (G7 hd hc (by omega) (by omega)) rfl rfl rfl ?_;refine Sz0 ?_;refine Qa hP (zK (z:=zv n a*zv m b) (D:=val d*val c) (by omega) (by omega)) rfl rfl rfl ?_;refine Sz0 ?_;refine dC ?_;refine Sz0 ?_;exact Qd (congrArg PV.rat (Rat.mkRat_mul_mkRat _ _ _ _).symm) rfl
theorem ZO{n m:Bool}{a d b c:List Nat}{k:Nat}(hp:Raw k n a d)(hq:Raw k m b c)(hk:k<2^34):Qc Tryz.prog 81 [PV.rr n a d,PV.rr m b c] (· = .int .i64 (oe (rv n a d) (rv m b c))):=by
 have hx:=hp.rs;have hy:=hq.rs;unfold FW.rs at hx hy;refine Qf Qo Tryz.func81 rfl ajM (by simp[LL]) fun C hP=>?_;simp only[LL,Zo,Zg,Zm,Zc,Zf,Zl,Zh,Zs,Zi,Zb,Zk,Zn,Zu,Zq,Zr,Zz];refine Sz0 ?_;refine Qa hP (u5 hp (by omega)) rfl rfl rfl ?_;refine Sz0 ?_;refine Qa hP (u5 hq (by omega)) rfl rfl rfl ?_;generalize rv n a d=p at *
 generalize rv m b c=q at *
 have h1:=lN p.num (q.den:Int);have h2:=lN q.num (p.den:Int);rw[KaD]at h1 h2;refine Sz0 ?_;refine Qa hP (CG (ah q.den)) rfl rfl rfl ?_;refine Sz0 ?_;refine Qa hP (Dw (x:=p.num) (d:=q.den) (by omega) (by omega)) rfl rfl rfl ?_;refine Sz0 ?_;refine Qa hP (CG (ah p.den)) rfl rfl rfl ?_;refine Sz0 ?_;refine Qa hP (Dw (x:=q.num) (d:=p.den) (by omega) (by omega)) rfl rfl rfl ?_;refine Sz0 ?_;refine Qa hP (acJ (x:=p.num*(q.den:Int)) (y:=q.num*(p.den:Int)) (by omega) (by omega)) rfl rfl rfl ?_;refine Sz0 ?_;exact Qd (congrArg (PV.int .i64) (by rw[<-PW p.den_nz q.den_nz,Kc7,Kc7])) rfl
theorem Tv{n m:Bool}{a d b c:List Nat}{k:Nat}(hp:Raw k n a d)(hq:Raw k m b c)(hk:k<2^34):Qc Tryz.prog 55 [PV.rr n a d,PV.rr m b c] (· =PV.rat (rv n a d+rv m b c)):=by
 have hx:=hp.rs;have hy:=hq.rs;unfold FW.rs at hx hy;refine Qf Qo Tryz.func55 rfl akn (by simp[Lk]) fun C hP=>?_;simp only[Lk,Zo,Zg,Zm,Zc,Zf,Zl,Zh,Zs,Zi,Zb,Zk,Zn,Zu,Zq,Zr,Zz];refine Sz0 ?_;refine Qa hP (u5 hp (by omega)) rfl rfl rfl ?_;refine Sz0 ?_;refine Qa hP (u5 hq (by omega)) rfl rfl rfl ?_;generalize rv n a d=p at *
 generalize rv m b c=q at *
 have h1:=lN p.num (q.den:Int);have h2:=lN q.num (p.den:Int);have h3:=zu (p.num*(q.den:Int)) (q.num*(p.den:Int));have h4:=gV p.den q.den;rw[KaD]at h1 h2;refine Sz0 ?_;refine Qa hP (CG (ah q.den)) rfl rfl rfl ?_;refine Sz0 ?_;refine Qa hP (Dw (x:=p.num) (d:=q.den) (by omega) (by omega)) rfl rfl rfl ?_;refine Sz0 ?_;refine Qa hP (CG (ah p.den)) rfl rfl rfl ?_;refine Sz0 ?_;refine Qa hP (Dw (x:=q.num) (d:=p.den) (by omega) (by omega)) rfl rfl rfl ?_;refine Sz0 ?_;refine Qa hP (acI (x:=p.num*(q.den:Int)) (y:=q.num*(p.den:Int)) (by omega) (by omega)) rfl rfl rfl ?_;refine Sz0 ?_;refine Qa hP (zF (x:=p.den) (y:=q.den) (by omega) (by omega)) rfl rfl rfl ?_;refine Sz0 ?_;refine Qa hP (zK (z:=p.num*(q.den:Int)+q.num*(p.den:Int)) (D:=p.den*q.den) (by omega) (by omega)) rfl rfl rfl ?_;refine Sz0 ?_;refine dC ?_;refine Sz0 ?_;exact Qd (congrArg PV.rat (by rw[<-Rat.mkRat_add_mkRat _ _ p.den_nz q.den_nz,Kc7,Kc7])) rfl
theorem Yt{n:Bool}{a d:List Nat}{k:Nat}(hp:Raw k n a d)(hk:k<2^36):Qc Tryz.prog 82 [PV.rr n a d] (· = .bool (mS n a d)):=by
 obtain⟨ha,hd,sa,sd,k1⟩:=hp;have pY:(ah (Nat.gcd (val a) (val d))).length<2^43:=by
  by_cases h0:val d=0
  ·rw[h0,Kc4];have h4:=cm ha;unfold nl at h4;omega
  ·have h3:=fS (Kdf (val a) (KaY h0));have h4:=cm hd;unfold nl at h3 h4;omega
 refine Qf Qo Tryz.func82 rfl ajH (by simp[LM]) fun C hP=>?_;simp only[LM,Zo,Zg,Zm,Zc,Zf,Zl,Zh,Zs,Zi,Zb,Zk,Zn,Zu,Zq,Zr,Zz];refine Sz0 ?_;refine Qa hP (Ys ha (by omega)) rfl rfl rfl ?_;unfold mS;refine Sz0 ?_;cases hio:nX n a
 ·refine Sz0 ?_;exact Qd (by simp) rfl
 rw[KbZ];refine Sz0 ?_;refine Qa hP (SF hd (by omega)) rfl rfl rfl ?_;refine Sz0 ?_;refine xj (fun hv=>?_) (fun hv=>?_)
 ·refine Sz0 ?_;refine Qa hP (G8 ha hd (by omega) (by omega)) rfl rfl rfl ?_;refine Sz0 ?_;refine Qa hP (mI (n:=1) (by omega)) rfl rfl rfl ?_;refine Sz0 ?_;refine Qa hP (YU pY (by rw[rY];decide)) rfl rfl rfl ?_;rw[rY,decide_eq_decide.2 (Ta (Nat.gcd (val a) (val d)))];refine Sz0 ?_;refine gw (fun hg=>?_) (fun hg=>?_)
  ·refine Sz0 ?_;exact Qd (congrArg PV.bool (by cases d<;>simp_all)) rfl
  ·refine Sz0 ?_;exact Qd (congrArg PV.bool (by simp[hg])) rfl
 ·refine Sz0 ?_;exact Qd (congrArg PV.bool (by simp_all)) rfl
theorem GU(x:Int):Qc Tryz.prog 98 [.int .i64 x] (· = .int .i64 (fH x)):=by
 refine Qf Qo Tryz.func98 rfl ajP (by simp[L6]) fun C hP=>?_;simp only[L6,Zo,Zg,Zm,Zc,Zf,Zl,Zh,Zs,Zi,Zb,Zk,Zn,Zu,Zq,Zr,Zz];refine Sz0 ?_;refine Qb (fun h=>?_) (fun h=>?_)
 ·refine Sz0 ?_;exact Qd (by rw[fH,if_pos h]) rfl
 refine Sz0 ?_;refine Qb (fun h2=>?_) (fun h2=>?_)
 ·refine Sz0 ?_;exact Qd (by rw[fH,if_neg h,if_pos h2]) rfl
 ·refine Sz0 ?_;exact Qd (by rw[fH,if_neg h,if_neg h2]) rfl
theorem Tw{a:List Int}{v:Int}(hl:a.length<2^42):Qc Tryz.prog 99 [PV.mono a,.int .i64 v] (· = .int .i64 (if v<0 then 0 else eN a v.toNat)):=by
 refine Qf Qo Tryz.func99 rfl ajN (by simp[L7]) fun C hP=>?_;simp only[L7,Zo,Zg,Zm,Zc,Zf,Zl,Zh,Zs,Zi,Zb,Zk,Zn,Zu,Zq,Zr,Zz];refine Sz0 ?_;refine dM (fun h1=>?_) (fun h1=>?_)
 ·refine Sz0 ?_;exact Qd (by rw[if_pos h1]) rfl
 ·obtain⟨n,rfl⟩:∃n:Nat,v=n:=⟨v.toNat,by omega⟩
  rw[if_neg h1];refine Sz0 ?_;refine Qb (fun h2=>?_) (fun h2=>?_)
  ·refine Sz0 ?_;exact Qd (by rw[fA (by omega)]) rfl
  ·have hn:n<a.length:=by omega
   refine Sz0 ?_;exact Qd (by rw[fj hn]) rfl
theorem nN{a:List Int}{i:Nat}(hl:a.length<2^42):Qc Tryz.prog 99 [PV.mono a,.int .i64 i] (· = .int .i64 (eN a i)):=by
 have:=Tw (v:=i) hl
 rwa[if_neg (by omega),KbD]at this
theorem zs{a:List Int}(hl:a.length<=1048576)(hb:∀x∈a,0<=x/\x<=1099511627776):Qc Tryz.prog 51 [PV.mono a] (· = .int .i64 (fB a)):=by
 refine Qf Qo Tryz.func51 rfl ajd (by simp[Lf]) fun C hP=>?_;simp only[Lf,Zo,Zg,Zm,Zc,Zf,Zl,Zh,Zs,Zi,Zb,Zk,Zn,Zu,Zq,Zr,Zz];refine Sz0 ?_;refine Qw (by repeat (first|exact Qr|exact Qk|exact Ql|exact Qm|exact Qn|apply Qj|apply Qq|apply Qx|apply Q5|apply Q6|apply Qi|apply Q2)) [(3,16)] [] (fun k J hp=>∃(i:Nat)(s:Int),k=a.length-i/\i<=a.length/\0<=s/\s<=1099511627776*i/\s+(a.drop i).sum=fB a/\J 4= .int .i64 (i:Nat)/\J 3= .int .i64 s/\hp=aF) a.length ?_ ?_
 ·refine⟨0,0,rfl,by omega,by omega,by omega,by simp[fB],?_⟩;refine Sz0 ?_;simp
 rintro _ J _ ⟨i,s,rfl,hi,BL,gC,ql,h4,h3,rfl⟩;refine Sz2 h4 h3 ?_;refine Qb (fun hg=>?_) (fun hg=>?_)
 ·have aB:i<a.length:=by omega
  have hx:=hb _ (Kag aB);rw[Kaz aB,Kdj]at ql;generalize dY:a[i]=x at *
  refine Sz3 h4 h3 dY ?_;refine Qg (a.length-(i+1)) (by omega) ⟨i+1,s+x,rfl,by omega,by omega,by push_cast;omega,by omega,?_⟩;exact Tz0
 ·rw[Kan (by omega),List.sum_nil,Int.add_zero]at ql;refine Sz1 h3 ?_;exact Qd (by rw[ql]) rfl
theorem ZP{l:List Int}(hl:l.length<2^42):Qc Tryz.prog 183 [PV.mono l] (· =PV.mono (gZ l)):=by
 refine Qf Qo Tryz.func183 rfl agS (by simp[KH]) fun C hP=>?_;simp only[KH,Zo,Zg,Zm,Zc,Zf,Zl,Zh,Zs,Zi,Zb,Zk,Zn,Zu,Zq,Zr,Zz];refine Sz0 ?_;refine Qw (by repeat (first|exact Qr|exact Qk|exact Ql|exact Qm|exact Qn|apply Qj|apply Qq|apply Qx|apply Q5|apply Q6|apply Qi|apply Q2)) [(3,3),(7,18)] [] (fun m J hp=>m<=l.length/\kI l m=gZ l/\J 3= .int .i64 m/\hp=aF) l.length ?_ ?_
 ·refine⟨Kac _,rfl,?_⟩;exact Tz0
 rintro n J _ ⟨hn,hc,h3,rfl⟩;refine Sz1 h3 ?_;refine gw (fun hg=>?_) (fun hg=>?_)
 ·obtain _|n:=n
  ·omega
  have e:((n+1:Nat):Int)-1=n:=by omega
  simp only[kI]at hc;simp+decide (disch:=try exact D2 h3 e) only[go_sem,h3,e];refine Qb (fun hz=>?_) (fun hz=>?_)
  ·rw[if_pos (by simp[hz,show n<l.length by omega])]at hc;refine Sz2 h3 e ?_;refine Qg n (by omega) ⟨by omega,hc,?_⟩;exact Tz0
  ·rw[if_neg (by simpa[show n<l.length by omega]using hz)]at hc;have ar:(l.take (n+1)).length<2^42:=by rw[KaH];omega
   refine lk h3 e ?_;exact Qd (by rw[Kae (by simp),hc]) rfl
 ·obtain rfl:n=0:=by omega
  simp+decide (disch:=first|omega|rfl|(simp+decide only[go_sem,h3,Kb5,Kbu,Kbj]<;>rfl)|fail) only[go_sem,h3,Kb5,Kbu,Kbj];rw[C7 (ys:=[]) rfl (by omega) (by simp) (by simp)];refine eQ ?_;exact Qd (by rw[<-hc];rfl) rfl
theorem SI{a:List Int}(hl:a.length<2^42):Qc Tryz.prog 83 [PV.mono a] (· = .bool (fK a)):=by
 refine Qf Qo Tryz.func83 rfl ajc (by simp[LN]) fun C hP=>?_;simp only[LN,Zo,Zg,Zm,Zc,Zf,Zl,Zh,Zs,Zi,Zb,Zk,Zn,Zu,Zq,Zr,Zz];refine Sz0 ?_;have bad:(64<a.length∨a.getLast? =some 0∨∃x∈a,x<0∨1048576<x)->fK a=false:=fun h=>by
  cases hb:fK a with
  |false=>rfl
  |true=>
   have:=MB.uN hb;simp only[fK,Kat,decide_eq_true_eq]at hb;rcases h with h|h|⟨x,hx,h⟩
   ·omega
   ·exact absurd h hb.2.1
   ·have h5:=this.lo x hx;have h6:=this.hi x hx;omega
 refine dM (fun h1=>?_) (fun h1=>?_)
 ·refine Sz0 ?_;exact Qd (by rw[bad (.inl (by omega))]) rfl
 refine Sz0 ?_;have fin:a.length<=64->a.getLast? ≠some 0->(∀x∈a,0<=x/\x<=1048576)->fK a=true:=fun h1 h2 h3=>by simp only[fK,Kat,decide_eq_true_eq,Kav];exact⟨h1,h2,h3⟩
 refine gw (fun h2=>?_) (fun h2=>?_)
 ·obtain⟨k,hk⟩:∃k,a.length=k+1:=⟨a.length-1,by omega⟩
  have jy:=DQ hk;have e:((k+1:Nat):Int)-1=k:=by omega
  generalize hy:a[k]'(by omega)=y at *
  refine Sz3 hk e hy ?_;refine Qb (fun h3=>?_) (fun h3=>?_)
  ·refine Sz0 ?_;exact Qd (by rw[bad (.inr (.inl (by rw[jy,h3])))]) rfl
  have jy:a.getLast? ≠some 0:=by rw[jy];simpa using h3
  rw[<-hk]at *
  refine Sz0 ?_;refine Qw (by repeat (first|exact Qr|exact Qk|exact Ql|exact Qm|exact Qn|apply Qj|apply Qq|apply Qx|apply Q5|apply Q6|apply Qi|apply Q2)) [(2,3),(21,38)] [] (fun k J hp=>∃i,k=a.length-i/\i<=a.length/\(∀x∈a.take i,0<=x/\x<=1048576)/\J 3= .int .i64 i/\hp=aF) a.length ?_ ?_
  ·refine⟨0,rfl,by omega,by simp,?_⟩;refine Sz0 ?_;rfl
  rintro _ J _ ⟨i,rfl,hi,bz,hj,rfl⟩;refine Sz1 hj ?_;refine Qb (fun hg=>?_) (fun hg=>?_)
  ·have aB:i<a.length:=by omega
   have eo:=Kag aB;have bj:∀x∈a.take (i+1),x∈a.take i∨x=a[i]:=fun x hx=>by
    rw[Kah aB]at hx;rcases KaT.1 hx with h|h
    ·exact .inl h
    ·exact .inr (KaL.1 h)
   generalize hx:a[i]=x at *
   refine Sz2 hj hx ?_;refine dM (fun h5=>?_) (fun h5=>?_)
   ·refine Sz0 ?_;exact Qd (by rw[bad (.inr (.inr ⟨x,eo,.inl h5⟩))]) rfl
   ·refine Sz2 hj hx ?_;refine Qb (fun h6=>?_) (fun h6=>?_)
    ·refine Sz0 ?_;exact Qd (by rw[bad (.inr (.inr ⟨x,eo,.inr h6⟩))]) rfl
    ·refine Sz1 hj ?_;refine Qg (a.length-(i+1)) (by omega) ⟨i+1,rfl,by omega,fun y hy=>?_,?_⟩
     ·rcases bj y hy with h|rfl
      ·exact bz y h
      ·omega
     ·exact Tz0
  ·rw[Kae (by omega)]at bz;refine Sz0 ?_;exact Qd (by rw[fin (by omega) jy bz]) rfl
 ·have FE:a=[]:=Kas.1 (by omega);have jy:a.getLast? ≠some 0:=by rw[FE];simp
  refine Sz0 ?_;refine Qw (by repeat (first|exact Qr|exact Qk|exact Ql|exact Qm|exact Qn|apply Qj|apply Qq|apply Qx|apply Q5|apply Q6|apply Qi|apply Q2)) [(2,3),(21,38)] [] (fun k J hp=>∃i,k=a.length-i/\i<=a.length/\(∀x∈a.take i,0<=x/\x<=1048576)/\J 3= .int .i64 i/\hp=aF) a.length ?_ ?_
  ·refine⟨0,rfl,by omega,by simp,?_⟩;refine Sz0 ?_;rfl
  rintro _ J _ ⟨i,rfl,hi,bz,hj,rfl⟩;refine Sz1 hj ?_;refine Qb (fun hg=>?_) (fun hg=>?_)
  ·have aB:i<a.length:=by omega
   have eo:=Kag aB;have bj:∀x∈a.take (i+1),x∈a.take i∨x=a[i]:=fun x hx=>by
    rw[Kah aB]at hx;rcases KaT.1 hx with h|h
    ·exact .inl h
    ·exact .inr (KaL.1 h)
   generalize hx:a[i]=x at *
   refine Sz2 hj hx ?_;refine dM (fun h5=>?_) (fun h5=>?_)
   ·refine Sz0 ?_;exact Qd (by rw[bad (.inr (.inr ⟨x,eo,.inl h5⟩))]) rfl
   ·refine Sz2 hj hx ?_;refine Qb (fun h6=>?_) (fun h6=>?_)
    ·refine Sz0 ?_;exact Qd (by rw[bad (.inr (.inr ⟨x,eo,.inr h6⟩))]) rfl
    ·refine Sz1 hj ?_;refine Qg (a.length-(i+1)) (by omega) ⟨i+1,rfl,by omega,fun y hy=>?_,?_⟩
     ·rcases bj y hy with h|rfl
      ·exact bz y h
      ·omega
     ·exact Tz0
  ·rw[Kae (by omega)]at bz;refine Sz0 ?_;exact Qd (by rw[fin (by omega) jy bz]) rfl
theorem SQ{a:List Int}(hl:a.length<2^42):Qc Tryz.prog 181 [PV.mono a] (· =PV.mono (if fK (gZ a)then gZ a else [])):=by
 have ht:=rH a;refine Qf Qo Tryz.func181 rfl agT (by simp[KF]) fun C hP=>?_;simp only[KF,Zo,Zg,Zm,Zc,Zf,Zl,Zh,Zs,Zi,Zb,Zk,Zn,Zu,Zq,Zr,Zz];refine Sz0 ?_;refine Qa hP (ZP hl) rfl rfl rfl ?_;refine Sz0 ?_;refine Qa hP (SI (by omega)) rfl rfl rfl ?_;refine Sz0 ?_;cases cx:fK (gZ a)
 ·refine Sz1 @Bool.not_false ?_;exact nR (UO (by simp)) rfl
 ·have:(gZ a).length<=64:=(MB.uN cx).len;refine tZ @Bool.not_true ?_;exact Qd (by simp[Kae]) rfl
theorem ZQ{k:Nat}{a b:List Int}(ha:MB k a)(hb:MB k b)(hk:k<=1099511627776):Qc Tryz.prog 117 [PV.mono a,PV.mono b] (· =PV.mono (j9 (· + ·) a b)):=by
 have h1:=ha.len;have h2:=hb.len;have hz:=oH (· + ·) a b;refine Qf Qo Tryz.func117 rfl agU (by simp[Jy]) fun C hP=>?_;simp only[Jy,Zo,Zg,Zm,Zc,Zf,Zl,Zh,Zs,Zi,Zb,Zk,Zn,Zu,Zq,Zr,Zz];refine Sz0 ?_;refine kZ 5 900 1 3 (by omega) Tz0 ?_;refine Qw (by repeat (first|exact Qr|exact Qk|exact Ql|exact Qm|exact Qn|apply Qj|apply Qq|apply Qx|apply Q5|apply Q6|apply Qi|apply Q2)) [(5,28)] [27,28,900] (fun m J hp=>∃(i:Nat)(out:List Int),m=max a.length b.length-i/\i<=max a.length b.length/\out=(j9 (· + ·) a b).take i/\J 5= .ms 900 out.length/\J 6= .int .i64 i/\hp 900=some ⟨1,3,iV out,false⟩) (max a.length b.length) ?_ ?_
 ·refine⟨0,[],rfl,by omega,by simp,?_⟩;refine Sz0 ?_;simp
 rintro _ J h ⟨i,out,rfl,hi,je,h5,h6,hh⟩;have fN:out.length=i:=by rw[je,KaH,hz];omega
 refine Sz2 h5 h6 ?_;refine dM (fun hg=>?_) (fun hg=>?_)
 ·have ar:i<max a.length b.length:=by omega
  have bj:=HO (g:=(· + ·)) ar;have ea:=ha.eN i;have eb:=hb.eN i;refine Sz2 h5 h6 ?_;refine Qa hP (nN (a:=a) (i:=i) (by omega)) rfl rfl rfl ?_;refine Sz2 h5 h6 ?_;refine Qa hP (nN (a:=b) (i:=i) (by omega)) rfl rfl rfl ?_;refine Sz2 h5 h6 ?_;rw[Q9 (f:=fun(x:Int)=>.int .i64 x) (y:=eN a i+eN b i) (xs:=out) (ty':=3) (fz:=false) (Tz1 hh) cH (by omega) rfl (by omega) (by omega)];refine Sz2 h5 h6 ?_;refine Qg (max a.length b.length-(i+1)) (by omega) ⟨i+1,out++[eN a i+eN b i],rfl,by omega,by rw[bj,je],?_⟩;refine Sz0 ?_;simp
 refine Sz2 h5 h6 ?_;refine Qb (fun fF=>?_) (fun fF=>?_)
 ·have ar:i<max a.length b.length:=by omega
  have bj:=HO (g:=(· + ·)) ar;have ea:=ha.eN i;have eb:=hb.eN i;refine Sz2 h5 h6 ?_;refine Qa hP (nN (a:=a) (i:=i) (by omega)) rfl rfl rfl ?_;refine Sz2 h5 h6 ?_;refine Qa hP (nN (a:=b) (i:=i) (by omega)) rfl rfl rfl ?_;refine Sz2 h5 h6 ?_;rw[Q9 (f:=fun(x:Int)=>.int .i64 x) (y:=eN a i+eN b i) (xs:=out) (ty':=3) (fz:=false) (Tz1 hh) cH (by omega) rfl (by omega) (by omega)];refine Sz2 h5 h6 ?_;refine Qg (max a.length b.length-(i+1)) (by omega) ⟨i+1,out++[eN a i+eN b i],rfl,by omega,by rw[bj,je],?_⟩;refine Sz0 ?_;simp
 obtain rfl:i=max a.length b.length:=by omega
 rw[Kae (by omega)]at je;subst je;refine lk h5 hh ?_;exact Qd (by rw[Kae (by simp)]) rfl
theorem Im(x y:Int):fH (x-y)=cY x y:=by unfold fH cY;(repeat' split)<;>omega
theorem ZR{k:Nat}{a b:List Int}{o:Int}(ha:MB k a)(hb:MB k b)(hk:k<=1099511627776):Qc Tryz.prog 54 [PV.mono a,PV.mono b,.int .i64 o] (· = .int .i64 (kb o a b)):=by
 have h1:=ha.len;have h2:=hb.len;have gM:∀x∈a,0<=x/\x<=1099511627776:=fun x hx=>by have:=ha.lo x hx;have:=ha.hi x hx;omega
 have jc:∀x∈b,0<=x/\x<=1099511627776:=fun x hx=>by have:=hb.lo x hx;have:=hb.hi x hx;omega
 have da:=IN ha;have db:=IN hb;refine Qf Qo Tryz.func54 rfl ajO (by simp[Lj]) fun C hP=>?_;simp only[Lj,Zo,Zg,Zm,Zc,Zf,Zl,Zh,Zs,Zi,Zb,Zk,Zn,Zu,Zq,Zr,Zz];refine Sz0 ?_;refine gw (fun ho=>?_) (fun ho=>?_)
 ·refine Sz0 ?_;refine Qa hP (zs (by omega) gM) rfl rfl rfl ?_;refine Sz0 ?_;refine Qa hP (zs (by omega) jc) rfl rfl rfl ?_;refine Sz0 ?_;refine Qb (fun hd=>?_) (fun hd=>?_)
  ·have kq:kb o a b=cY (fB a) (fB b):=by unfold kb;rw[if_pos ⟨ho,hd⟩]
   refine Sz0 ?_;refine Qa hP (zs (by omega) gM) rfl rfl rfl ?_;refine Sz0 ?_;refine Qa hP (zs (by omega) jc) rfl rfl rfl ?_;refine Sz0 ?_;refine Qa hP (GU _) rfl rfl rfl ?_;refine Sz0 ?_;exact Qd (by rw[kq,Im]) rfl
  have kq:kb o a b=aS a b:=by unfold kb;rw[if_neg (fun h=>hd h.2)]
  refine Sz0 ?_;refine Qw (by repeat (first|exact Qr|exact Qk|exact Ql|exact Qm|exact Qn|apply Qj|apply Qq|apply Qx|apply Q5|apply Q6|apply Qi|apply Q2)) [(6,7),(29,47)] [] (fun n J hp=>n<=max a.length b.length/\dw a b n=aS a b/\J 7= .int .i64 ((n:Int)-1)/\hp=aF) (max a.length b.length) ?_ ?_
  ·refine⟨by omega,rfl,?_⟩;exact Tz0
  rintro n J _ ⟨hn,hc,h7,rfl⟩;refine Sz1 h7 ?_;refine Qb (fun hg=>?_) (fun hg=>?_)
  ·obtain _|n:=n
   ·omega
   have e:((n+1:Nat):Int)-1=n:=by omega
   have ea:=ha.eN n;have eb:=hb.eN n;rw[dw]at hc;refine Sz2 h7 e ?_;refine Qa hP (nN (by omega)) rfl rfl rfl ?_;refine Sz2 h7 e ?_;refine Qa hP (nN (by omega)) rfl rfl rfl ?_;refine Sz2 h7 e ?_;refine Qb (fun h4=>?_) (fun h4=>?_)
   ·rw[if_neg h4]at hc;refine Sz2 h7 e ?_;refine Qa hP (nN (by omega)) rfl rfl rfl ?_;refine Sz2 h7 e ?_;refine Qa hP (nN (by omega)) rfl rfl rfl ?_;refine Sz2 h7 e ?_;refine Qa hP (GU _) rfl rfl rfl ?_;refine Sz2 h7 e ?_;exact Qd (by rw[kq,<-hc,Im]) rfl
   ·rw[if_pos (by omega)]at hc;refine Sz2 h7 e ?_;refine Qg n (by omega) ⟨by omega,hc,?_⟩;exact Tz0
  ·obtain rfl:n=0:=by omega
   refine Sz0 ?_;exact Qd (by rw[kq,<-hc];rfl) rfl
 ·have kq:kb o a b=aS a b:=by unfold kb;rw[if_neg (fun h=>ho h.1)]
  refine Sz0 ?_;refine Qw (by repeat (first|exact Qr|exact Qk|exact Ql|exact Qm|exact Qn|apply Qj|apply Qq|apply Qx|apply Q5|apply Q6|apply Qi|apply Q2)) [(6,7),(29,47)] [] (fun n J hp=>n<=max a.length b.length/\dw a b n=aS a b/\J 7= .int .i64 ((n:Int)-1)/\hp=aF) (max a.length b.length) ?_ ?_
  ·refine⟨by omega,rfl,?_⟩;exact Tz0
  rintro n J _ ⟨hn,hc,h7,rfl⟩;refine Sz1 h7 ?_;refine Qb (fun hg=>?_) (fun hg=>?_)
  ·obtain _|n:=n
   ·omega
   have e:((n+1:Nat):Int)-1=n:=by omega
   have ea:=ha.eN n;have eb:=hb.eN n;rw[dw]at hc;refine Sz2 h7 e ?_;refine Qa hP (nN (by omega)) rfl rfl rfl ?_;refine Sz2 h7 e ?_;refine Qa hP (nN (by omega)) rfl rfl rfl ?_;refine Sz2 h7 e ?_;refine Qb (fun h4=>?_) (fun h4=>?_)
   ·rw[if_neg h4]at hc;refine Sz2 h7 e ?_;refine Qa hP (nN (by omega)) rfl rfl rfl ?_;refine Sz2 h7 e ?_;refine Qa hP (nN (by omega)) rfl rfl rfl ?_;refine Sz2 h7 e ?_;refine Qa hP (GU _) rfl rfl rfl ?_;refine Sz2 h7 e ?_;exact Qd (by rw[kq,<-hc,Im]) rfl
   ·rw[if_pos (by omega)]at hc;refine Sz2 h7 e ?_;refine Qg n (by omega) ⟨by omega,hc,?_⟩;exact Tz0
  ·obtain rfl:n=0:=by omega
   refine Sz0 ?_;exact Qd (by rw[kq,<-hc];rfl) rfl
theorem aeE{a b:Rat}{k:Nat}(ha:rs a<=k)(hb:rs b<=k)(hk:k<2^34):Qc Tryz.prog 55 [PV.rat a,PV.rat b] (· =PV.rat (a+b)):=by
 have:=Tv (iG ha) (iG hb) hk
 rwa[gY,gY]at this
theorem Pz{a b:Rat}{k:Nat}(ha:rs a<=k)(hb:rs b<=k)(hk:k<2^34):Qc Tryz.prog 116 [PV.rat a,PV.rat b] (· =PV.rat (a*b)):=by
 have:=Tu (iG ha) (iG hb) hk
 rwa[gY,gY]at this
theorem aeF{a b:Rat}{k:Nat}(ha:rs a<=k)(hb:rs b<=k)(hk:k<2^34):Qc Tryz.prog 81 [PV.rat a,PV.rat b] (· = .int .i64 (oe a b)):=by
 have:=ZO (iG ha) (iG hb) hk
 rwa[gY,gY]at this
theorem Hy{a:Rat}(ha:rs a<2^36):Qc Tryz.prog 56 [PV.rat a] (· = .int .i64 (fk a)):=by
 have:=CV (iG (Kac (rs a))) ha
 rwa[gY]at this
theorem AG{k:Nat}{a b:List Int}(ha:MB k a)(hb:MB k b)(hk:k<=1099511627776):Qc Tryz.prog 54 [PV.mono a,PV.mono b,.int .i64 0] (· = .int .i64 (aS a b)):=by
 have:=ZR (o:=0) ha hb hk
 rwa[ED]at this
theorem Tx{p q:List Tm}{K E:Nat}(hp:PB K E p)(hq:PB K E q)(hK:K<=2^33)(hE:E<=2^38)(bV:p.length<=2^36)(iy:q.length<=2^36):
  Qc Tryz.prog 38 [PV.aj p,PV.aj q] (· = .int .i64 (ia p q)):=by
 refine Qf Qo Tryz.func38 rfl ajR (by simp[KZ]) fun C hP=>?_;simp only[KZ,Zo,Zg,Zm,Zc,Zf,Zl,Zh,Zs,Zi,Zb,Zk,Zn,Zu,Zq,Zr,Zz];refine Sz0 ?_;refine Qw (by repeat (first|exact Qr|exact Qk|exact Ql|exact Qm|exact Qn|apply Qj|apply Qq|apply Qx|apply Q5|apply Q6|apply Qi|apply Q2)) [(4,47)] [] (fun n J hp=>∃i,n=p.length-i/\i<=p.length/\i<=q.length/\ia (p.drop i) (q.drop i)=ia p q/\J 5= .int .i64 (i:Nat)) p.length ?_ ?_
 ·refine⟨0,rfl,by omega,by omega,rfl,?_⟩;refine Sz0 ?_;rfl
 rintro _ J h ⟨i,rfl,hi,mc,gq,h5⟩;refine Sz1 h5 ?_;refine gw (fun hg=>?_) (fun hg=>?_)
 ·have aB:i<p.length:=by omega
  refine Sz1 h5 ?_;refine Qb (fun hk=>?_) (fun hk=>?_)
  ·have en:i<q.length:=by omega
   have aV:=hp.get aB;have oA:=hq.get en;have c1:=aV.c;have c2:=oA.c;rw[UQ aB en]at gq;generalize hx:p[i]=x at *
   generalize hy:q[i]=y at *
   refine Sz3 h5 hx hy ?_;refine Qa hP (AG aV.m oA.m (by omega)) rfl rfl rfl ?_;refine Sz3 h5 hx hy ?_;refine Qb (fun hc=>?_) (fun hc=>?_)
   ·refine Sz0 ?_;exact Qd (by rw[<-gq,if_pos (by rw[mW,if_pos hc];exact hc),mW,if_pos hc]) rfl
   ·refine Sz3 h5 hx hy ?_;refine Qa hP (aeF (a:=x.1) (b:=y.1) (k:=2^33) (by omega) (by omega) (by omega)) rfl rfl rfl ?_;refine Sz3 h5 hx hy ?_;refine Qb (fun iZ=>?_) (fun iZ=>?_)
    ·refine Sz0 ?_;exact Qd (by rw[<-gq,if_pos (by rw[mW,if_neg hc];exact iZ),mW,if_neg hc]) rfl
    ·rw[if_neg (by rw[mW,if_neg hc];exact iZ)]at gq;refine Sz1 h5 ?_;refine Qg (p.length-(i+1)) (by omega) ⟨i+1,rfl,by omega,by omega,gq,?_⟩;exact Tz0
  refine Sz0 ?_;refine Qb (fun hk=>?_) (fun hk=>?_)
  ·refine Sz0 ?_;exact Qd (by rw[<-gq,Kan (show p.length<=i by omega),Aj,if_neg (by rw[Ka5];omega)]) rfl
  ·refine Sz0 ?_;refine Qb (fun ny=>?_) (fun ny=>?_)
   ·refine Sz0 ?_;refine Qd ?_ rfl;rw[<-gq,Kaz (show i<p.length by omega),Kan (show q.length<=i by omega),ia]
   ·refine Sz0 ?_;exact Qd (by rw[<-gq,Kan (show p.length<=i by omega),Aj,if_pos (by rw[Ka5];omega)]) rfl
 ·have aB:i=p.length:=by omega
  refine Sz0 ?_;refine Qb (fun hk=>?_) (fun hk=>?_)
  ·refine Sz0 ?_;exact Qd (by rw[<-gq,Kan (show p.length<=i by omega),Aj,if_neg (by rw[Ka5];omega)]) rfl
  ·refine Sz0 ?_;refine Qb (fun ny=>?_) (fun ny=>?_)
   ·refine Sz0 ?_;refine Qd ?_ rfl;rw[<-gq,Kaz (show i<p.length by omega),Kan (show q.length<=i by omega),ia]
   ·refine Sz0 ?_;exact Qd (by rw[<-gq,Kan (show p.length<=i by omega),Aj,if_pos (by rw[Ka5];omega)]) rfl
theorem SJ{p q:List Tm}{K E:Nat}(hp:PB K E p)(hq:PB K E q)(hK:K<=2^33)(hE:E<=2^38)(bV:p.length<=2^36)(iy:q.length<=2^36):Qc Tryz.prog 11 [PV.aj p,PV.aj q] (· = .bool (decide (p=q))):=by refine Qf Qo Tryz.func11 rfl ajU (by simp[Jr]) fun C hP=>?_;simp only[Jr,Zo,Zg,Zm,Zc,Zf,Zl,Zh,Zs,Zi,Zb,Zk,Zn,Zu,Zq,Zr,Zz];refine Sz0 ?_;refine Qa hP (Tx hp hq hK hE bV iy) rfl rfl rfl ?_;refine Sz0 ?_;exact Qd (congrArg PV.bool (decide_eq_decide.2 (QM hp.last hq.last))) rfl
theorem C2{p q:List Tm}{K E:Nat}(hp:PB K E p)(hq:PB K E q)(hK:K<=2^32)(hE:E<=2^38)(bV:p.length<=2^36)(iy:q.length<=2^36):
  Qc Tryz.prog 22 [PV.aj p,PV.aj q] (· =PV.aj (Q8 p q)):=by
 refine Qf Qo Tryz.func22 rfl ajQ (by simp[KL]) fun C hP=>?_;simp only[KL,Zo,Zg,Zm,Zc,Zf,Zl,Zh,Zs,Zi,Zb,Zk,Zn,Zu,Zq,Zr,Zz];refine Sz0 ?_;refine kZ 5 900 4 54 (by omega) Tz0 ?_;refine Qw (by repeat (first|exact Qr|exact Qk|exact Ql|exact Qm|exact Qn|apply Qj|apply Qq|apply Qx|apply Q5|apply Q6|apply Qi|apply Q2)) [(5,90)] [9,61,62,75,76,87,88,900] (fun n J hp=>∃i k out,n=(p.length-i)+(q.length-k)/\i<=p.length/\k<=q.length/\out.length<=i+k/\out++Q8 (p.drop i) (q.drop k)=Q8 p q/\
  J 5= .ms 900 out.length/\J 6= .int .i64 (i:Nat)/\J 7= .int .i64 (k:Nat)/\hp 900=some ⟨4,54,out.map PV.term,false⟩) (p.length+q.length) ?_ ?_
 ·refine⟨0,0,[],by omega,by omega,by omega,by simp,rfl,?_⟩;refine Sz0 ?_;simp
 rintro _ J h ⟨i,k,out,rfl,hi,hk,fN,eu,h5,h6,h7,hh⟩;refine Sz3 h5 h6 h7 ?_;refine dM (fun hg=>?_) (fun hg=>?_)
 ·have aB:i<p.length:=by omega
  refine Sz3 h5 h6 h7 ?_;refine Qb (fun h=>by omega) (fun _=>?_);refine Sz3 h5 h6 h7 ?_;refine Qb (fun fF=>?_) (fun fF=>?_)
  ·have en:k<q.length:=by omega
   have aV:=hp.get aB;have oA:=hq.get en;rw[UP aB en]at eu;have c1:=aV.c;have c2:=oA.c;generalize hx:p[i]=x at *
   generalize hy:q[k]=y at *
   refine Sz5 h5 h6 h7 hx hy ?_;refine Qa hP (AG aV.m oA.m (by omega)) rfl rfl rfl ?_;refine Sz5 h5 h6 h7 hx hy ?_;refine Qb (fun hc=>?_) (fun hc=>?_)
   ·rw[if_pos hc]at eu;refine Sz4 h5 h6 h7 hx ?_;rw[Q9 (f:=PV.term) (y:=x) (xs:=out) (ty':=54) (fz:=false) (Tz1 hh) cH (by omega) rfl (by omega) (by omega)];refine Sz4 h5 h6 h7 hx ?_;refine Qg ((p.length-(i+1))+(q.length-k)) (by omega) ⟨i+1,k,out++[x],rfl,by omega,hk,by simp;omega,by simpa using eu,?_⟩;refine Sz3 h5 h6 h7 ?_;simp
   rw[if_neg hc]at eu;refine Sz5 h5 h6 h7 hx hy ?_;refine Qb (fun iZ=>?_) (fun iZ=>?_)
   ·rw[if_pos iZ]at eu;refine Sz4 h5 h6 h7 hy ?_;rw[Q9 (f:=PV.term) (y:=y) (xs:=out) (ty':=54) (fz:=false) (Tz1 hh) cH (by omega) rfl (by omega) (by omega)];refine Sz4 h5 h6 h7 hy ?_;refine Qg ((p.length-i)+(q.length-(k+1))) (by omega) ⟨i,k+1,out++[y],rfl,by omega,by omega,by simp;omega,by simpa using eu,?_⟩;refine Sz3 h5 h6 h7 ?_;simp
   rw[if_neg iZ]at eu;have W3:=xS x.1 y.1;refine Sz5 h5 h6 h7 hx hy ?_;refine nP ?_ ?_
   all_goals
    refine Sz5 h5 h6 h7 hx hy ?_;refine Qa hP (aeE (a:=x.1) (b:=y.1) (k:=2^32) (by omega) (by omega) (by omega)) rfl rfl rfl ?_;refine Sz5 h5 h6 h7 hx hy ?_;refine Qa hP (Hy (a:=x.1+y.1) (by omega)) rfl rfl rfl ?_;refine Sz5 h5 h6 h7 hx hy ?_;refine Qb (fun hz=>?_) (fun hz=>?_)
    ·rw[if_neg (fun h=>hz (gG.2 h))]at eu;refine Sz5 h5 h6 h7 hx hy ?_;rw[Q9 (f:=PV.term) (y:=(x.1+y.1,x.2)) (xs:=out) (ty':=54) (fz:=false) (Tz1 hh) cH (by omega) rfl (by omega) (by omega)];refine Sz5 h5 h6 h7 hx hy ?_;refine Qg ((p.length-(i+1))+(q.length-(k+1))) (by omega) ⟨i+1,k+1,out++[(x.1+y.1,x.2)],rfl,by omega,by omega,by simp;omega,by simpa using eu,?_⟩;refine Sz3 h5 h6 h7 ?_;simp
    ·rw[if_pos (gG.1 (Decidable.not_not.1 hz))]at eu;refine Sz5 h5 h6 h7 hx hy ?_;refine Qg ((p.length-(i+1))+(q.length-(k+1))) (by omega) ⟨i+1,k+1,out,rfl,by omega,by omega,by omega,eu,?_⟩;exact Tz4 h5 h6 h7 hh
  ·rw[Kan (show q.length<=k by omega),lf,Kaz aB]at eu;have eu:out++p[i]::Q8 (p.drop (i+1)) (q.drop k)=Q8 p q:=by rw[Kan (show q.length<=k by omega),lf];exact eu
   generalize hx:p[i]=x at *
   refine Sz4 h5 h6 h7 hx ?_;rw[Q9 (f:=PV.term) (y:=x) (xs:=out) (ty':=54) (fz:=false) (Tz1 hh) cH (by omega) rfl (by omega) (by omega)];refine Sz4 h5 h6 h7 hx ?_;refine Qg ((p.length-(i+1))+(q.length-k)) (by omega) ⟨i+1,k,out++[x],rfl,by omega,hk,by simp;omega,by simpa using eu,?_⟩;refine Sz3 h5 h6 h7 ?_;simp
 ·have aB:i=p.length:=by omega
  refine Sz3 h5 h6 h7 ?_;refine Qb (fun fF=>?_) (fun fF=>?_)
  ·have en:k<q.length:=by omega
   rw[Kan (show p.length<=i by omega),pG,Kaz en]at eu;have eu:out++q[k]::Q8 (p.drop i) (q.drop (k+1))=Q8 p q:=by rw[Kan (show p.length<=i by omega),pG];exact eu
   generalize hy:q[k]=y at *
   refine Sz4 h5 h6 h7 hy ?_;refine Qb (fun _=>?_) (fun h=>by omega);refine Sz4 h5 h6 h7 hy ?_;rw[Q9 (f:=PV.term) (y:=y) (xs:=out) (ty':=54) (fz:=false) (Tz1 hh) cH (by omega) rfl (by omega) (by omega)];refine Sz4 h5 h6 h7 hy ?_;refine Qg ((p.length-i)+(q.length-(k+1))) (by omega) ⟨i,k+1,out++[y],rfl,by omega,by omega,by simp;omega,by simpa using eu,?_⟩;refine Sz3 h5 h6 h7 ?_;simp
  ·rw[Kan (show p.length<=i by omega),pG,Kan (show q.length<=k by omega),Kak]at eu;refine Je h5 h6 h7 hh ?_;exact Qd (by rw[Kae (by simp),eu]) rfl
theorem acK{k l:Nat}{a b:List Int}(ha:MB k a)(hb:MB l b)(h1:a.getLast? ≠some 0)(h2:b.getLast? ≠some 0):j9 (· + ·) a b=bm a b:=by
 rw[bm,DP];rw[Ka4,oH];intro h;obtain⟨hl,hv⟩:=Kad.1 h;rw[<-fj hl,QK (by simp)]at hv;rw[oH]at hl;have p1:=(ha.eN (max a.length b.length-1)).1;have p2:=(hb.eN (max a.length b.length-1)).1;by_cases hc:b.length<=a.length
 ·apply h1;have e:max a.length b.length-1=a.length-1:=by omega
  rw[e]at hv p1 p2;rw[Ka4,Kam (by omega),<-fj (by omega)];congr 1;omega
 ·apply h2;have e:max a.length b.length-1=b.length-1:=by omega
  rw[e]at hv p1 p2;rw[Ka4,Kam (by omega),<-fj (by omega)];congr 1;omega
theorem Yu{p:List Tm}{t:Tm}{K E:Nat}(hp:PB K E p)(ht:TB K E t)(oy:NZ p)(ht0:t.1≠0)(hK:K<=2^33)(hE:E<=2^38)(bV:p.length<=2^36):
  Qc Tryz.prog 62 [PV.aj p,PV.term t] (· =PV.aj (bd p t)):=by
 refine Qf Qo Tryz.func62 rfl aj2 (by simp[Lr]) fun C hP=>?_;simp only[Lr,Zo,Zg,Zm,Zc,Zf,Zl,Zh,Zs,Zi,Zb,Zk,Zn,Zu,Zq,Zr,Zz];refine Sz0 ?_;refine kZ 5 900 4 54 (by omega) Tz0 ?_;refine Qw (by repeat (first|exact Qr|exact Qk|exact Ql|exact Qm|exact Qn|apply Qj|apply Qq|apply Qx|apply Q5|apply Q6|apply Qi|apply Q2)) [(5,32)] [31,32,900] (fun n J hp=>∃i,n=p.length-i/\i<=p.length/\J 5= .ms 900 (bd (p.take i) t).length/\J 6= .int .i64 (i:Nat)/\hp 3=some ⟨4,54,[PV.term t],false⟩/\hp 900=some ⟨4,54,(bd (p.take i) t).map PV.term,false⟩) p.length ?_ ?_
 ·refine⟨0,rfl,by omega,?_⟩;refine Sz0 ?_;simp[bd]
 rintro _ J h ⟨i,rfl,hi,h5,h6,bB,hh⟩;refine Sz2 h5 h6 ?_;refine Qb (fun hg=>?_) (fun hg=>?_)
 ·have aB:i<p.length:=by omega
  have aV:=hp.get aB;have bj:=G3 (t:=t) aB;have hlen:=uV (p.take i) t;rw[KaH]at hlen;have c1:=aV.c;have c2:=ht.c;have mi:=oy _ (Kag aB);generalize hx:p[i]=x at *
  have hzz:=acK aV.m ht.m aV.l ht.l;rw[if_neg (fun h=>by rcases Rat.mul_eq_zero.1 h with h|h<;>contradiction)]at bj;refine Sz4 h5 h6 bB hx ?_;refine Qa hP (Pz (a:=x.1) (b:=t.1) (k:=2^33) (by omega) (by omega) (by omega)) rfl rfl rfl ?_;refine Sz4 h5 h6 bB hx ?_;refine Qa hP (ZQ aV.m ht.m (by omega)) rfl rfl rfl ?_;rw[hzz];refine Sz4 h5 h6 bB hx ?_;rw[Q9 (f:=PV.term) (y:=(x.1*t.1,bm x.2 t.2)) (xs:=bd (p.take i) t) (ty':=54) (fz:=false) (Tz1 hh) cH (by omega) rfl (by omega) (by omega)];rw[<-bj];refine Sz4 h5 h6 bB hx ?_;refine Qg (p.length-(i+1)) (by omega) ⟨i+1,rfl,by omega,?_⟩;rw[bj];simp+decide (disch:=first|omega|rfl|(simp+decide only[go_sem,h5,h6,bB,Kap]<;>rfl)|fail) only[go_sem,h5,h6,bB,Kap]
 ·obtain rfl:i=p.length:=by omega
  rw[Kar]at h5 hh;refine lk h5 hh ?_;exact Qd (by simp[Kae]) rfl
theorem Q9c{p q:List Tm}{i:Nat}(h:i<q.length):mU p (q.take (i+1))=Q8 (mU p (q.take i)) (bd p q[i]):=by rw[Kah h,mU,KbW,mU];rfl
theorem Ty{K E:Nat}{p:List Tm}(hp:PB K E p):∀(q out:List Tm)(L:Nat),PB K E q->PB L (E+E) out->PB (q.length*(K+K)+L) (E+E) (q.foldl (fun out t=>Q8 out (bd p t)) out)/\(q.foldl (fun out t=>Q8 out (bd p t)) out).length<=q.length*p.length+out.length
 | [],out,L,_,ho=>⟨by simpa using ho,by simp⟩
 |t::q,out,L,hq,ho=>by obtain⟨h1,h2⟩:=Ty hp q (Q8 out (bd p t)) (L+(K+K)) (PB.cons.1 hq).2 (tI _ _ ho (tu hp (PB.cons.1 hq).1));have h3:=tk out (bd p t);have h4:=uV p t;refine⟨h1.mono (by rw[KaW,KaF];omega) (Kac _),Kaw h2 ?_⟩;rw[KaW,KaF];omega
theorem aeG{K E:Nat}{p q:List Tm}(hp:PB K E p)(hq:PB K E q):PB (q.length*(K+K)) (E+E) (mU p q)/\(mU p q).length<=q.length*p.length:=by have:=Ty hp q [] 0 hq (PB.nil _ _);simpa[mU]using this
theorem rK{p q:List Tm}{K E:Nat}(hp:PB K E p)(hq:PB K E q)(hnp:NZ p)(hnq:NZ q)(hE:E<=2^37)(bV:p.length<=2^30)(iy:q.length<=2^30)(wy:q.length*p.length<=2^36)(hK:q.length*(K+K)+(K+K)<=2^32):
  Qc Tryz.prog 24 [PV.aj p,PV.aj q] (· =PV.aj (mU p q)):=by
 refine Qf Qo Tryz.func24 rfl ajV (by simp[KO]) fun C hP=>?_;simp only[KO,Zo,Zg,Zm,Zc,Zf,Zl,Zh,Zs,Zi,Zb,Zk,Zn,Zu,Zq,Zr,Zz];refine Sz0 ?_;refine rZ 5 4 Tz0 ?_;refine Qw (by repeat (first|exact Qr|exact Qk|exact Ql|exact Qm|exact Qn|apply Qj|apply Qq|apply Qx|apply Q5|apply Q6|apply Qi|apply Q2)) [(5,20)] [] (fun n J hp=>∃i,n=q.length-i/\i<=q.length/\J 5=PV.aj (mU p (q.take i))/\J 6= .int .i64 (i:Nat)) q.length ?_ ?_
 ·refine⟨0,rfl,by omega,?_⟩;refine Sz0 ?_;simp[mU]
 rintro _ J h ⟨i,rfl,hi,h5,h6⟩;refine Sz2 h5 h6 ?_;refine Qb (fun hg=>?_) (fun hg=>?_)
 ·have aB:i<q.length:=by omega
  have oA:=hq.get aB;have bj:=Q9c (p:=p) aB;have mi:=hnq _ (Kag aB);obtain⟨oU,fm⟩:=aeG hp (hq.take i);have iY:=tu hp oA;have ar:=uV p q[i];generalize hx:q[i]=x at *
  have e1:(q.take i).length=i:=by rw[KaH];omega
  rw[e1]at oU fm;have e2:i*(K+K)<=q.length*(K+K):=Kaf _ hi;have e3:i*p.length<=q.length*p.length:=Kaf _ hi;refine Sz3 h5 h6 hx ?_;refine Qa hP (Yu (t:=x) hp oA hnp mi (by omega) (by omega) (by omega)) rfl rfl rfl ?_;refine Sz3 h5 h6 hx ?_;refine Qa hP (C2 (K:=q.length*(K+K)+(K+K)) (E:=E+E) (oU.mono (by omega) (by omega)) (iY.mono (by omega) (by omega)) hK (by omega) (by omega) (by omega)) rfl rfl rfl ?_;refine Sz3 h5 h6 hx ?_;refine Qg (q.length-(i+1)) (by omega) ⟨i+1,rfl,by omega,?_⟩;rw[bj];exact Tz0
 ·obtain rfl:i=q.length:=by omega
  rw[Kar]at h5;refine Sz1 h5 ?_;exact Qd rfl rfl
theorem GO{p:List Tm}{a:Rat}{K E:Nat}(hp:PB K E p)(oy:NZ p)(ha:rs a+1<=K)(hK:K<=2^33)(hE:E<=2^38)(bV:p.length<=2^36):
  Qc Tryz.prog 71 [PV.aj p,PV.rat a] (· =PV.aj (b8 p a)):=by
 refine Qf Qo Tryz.func71 rfl ajY (by simp[Lz]) fun C hP=>?_;simp only[Lz,Zo,Zg,Zm,Zc,Zf,Zl,Zh,Zs,Zi,Zb,Zk,Zn,Zu,Zq,Zr,Zz];refine Sz0 ?_;refine kZ 5 900 4 54 (by omega) Tz0 ?_;refine Qw (by repeat (first|exact Qr|exact Qk|exact Ql|exact Qm|exact Qn|apply Qj|apply Qq|apply Qx|apply Q5|apply Q6|apply Qi|apply Q2)) [(5,33)] [32,33,900] (fun n J hp=>∃i,n=p.length-i/\i<=p.length/\J 5= .ms 900 (bd (p.take i) (a,[])).length/\J 6= .int .i64 (i:Nat)/\hp 3=some ⟨3,43,[PV.rat a],false⟩/\hp 900=some ⟨4,54,(bd (p.take i) (a,[])).map PV.term,false⟩) p.length ?_ ?_
 ·refine⟨0,rfl,by omega,?_⟩;refine Sz0 ?_;simp[bd]
 rintro _ J h ⟨i,rfl,hi,h5,h6,bB,hh⟩;refine Sz2 h5 h6 ?_;refine gw (fun hg=>?_) (fun hg=>?_)
 ·have aB:i<p.length:=by omega
  have aV:=hp.get aB;have bj:=G3 (t:=(a,[])) aB;have hlen:=uV (p.take i) (a,[]);rw[KaH]at hlen;have c1:=aV.c;have mi:=oy _ (Kag aB);generalize hx:p[i]=x at *
  refine Sz4 h5 h6 bB hx ?_;refine Qa hP (Hy (a:=a) (by omega)) rfl rfl rfl ?_;refine Sz4 h5 h6 bB hx ?_;refine Qb (fun hz=>?_) (fun hz=>?_)
  ·rw[if_neg (fun h=>by rcases Rat.mul_eq_zero.1 h with h|h;exact mi h;exact hz (gG.2 h)),tC aV.l]at bj;refine Sz4 h5 h6 bB hx ?_;refine Qa hP (Pz (a:=x.1) (b:=a) (k:=2^33) (by omega) (by omega) (by omega)) rfl rfl rfl ?_;refine Sz4 h5 h6 bB hx ?_;rw[Q9 (f:=PV.term) (y:=(x.1*a,x.2)) (xs:=bd (p.take i) (a,[])) (ty':=54) (fz:=false) (Tz1 hh) cH (by omega) rfl (by omega) (by omega)];rw[<-bj];refine Sz4 h5 h6 bB hx ?_;refine Qg (p.length-(i+1)) (by omega) ⟨i+1,rfl,by omega,?_⟩;rw[bj];simp+decide (disch:=first|omega|rfl|(simp+decide only[go_sem,h5,h6,bB,Kap]<;>rfl)|fail) only[go_sem,h5,h6,bB,Kap]
  ·have yJ:=gG.1 (Decidable.not_not.1 hz);have e0:∀l:List Tm,bd l (a,[])=[]:=fun l=>by rw[yJ];simp[bd]
   refine AN h5 hh bB ?_;refine Qd ?_ rfl;rw[e0,b8,if_pos yJ];rfl
 ·obtain rfl:i=p.length:=by omega
  rw[Kar]at h5 hh;refine AN h5 hh bB ?_;refine Qd ?_ rfl;rw[Kae (by simp),b8];split
  ·rename_i yJ;rw[yJ];simp[bd]
  ·rfl
theorem ZS{p:List Tm}{K E:Nat}(hp:PB K E p)(oy:NZ p)(l9:2<=K)(hK:K<=2^33)(hE:E<=2^38)(bV:p.length<=2^36):Qc Tryz.prog 53 [PV.aj p] (· =PV.aj (lj p)):=by have h1:=Gy;refine Qf Qo Tryz.func53 rfl ajW (by simp[Lh]) fun C hP=>?_;simp only[Lh,Zo,Zg,Zm,Zc,Zf,Zl,Zh,Zs,Zi,Zb,Zk,Zn,Zu,Zq,Zr,Zz];refine Sz0 ?_;refine Qa hP (vb (x:= -1) (by omega) (by omega)) rfl rfl rfl ?_;refine Sz0 ?_;refine Qa hP (GO (a:=((-1:Int):Rat)) hp oy (by have:((-1:Int):Rat)= -1:=rfl;rw[this];omega) hK hE bV) rfl rfl rfl ?_;refine Sz0 ?_;exact Qd rfl rfl
theorem C3{p q:List Tm}{K E:Nat}(hp:PB K E p)(hq:PB K E q)(oy:NZ q)(l9:2<=K)(hK:K<=2^31)(hE:E<=2^38)(bV:p.length<=2^36)(iy:q.length<=2^36):Qc Tryz.prog 21 [PV.aj p,PV.aj q] (· =PV.aj (fV p q)):=by have hl:=uW q (-1);refine Qf Qo Tryz.func21 rfl aj0 (by simp[KK]) fun C hP=>?_;simp only[KK,Zo,Zg,Zm,Zc,Zf,Zl,Zh,Zs,Zi,Zb,Zk,Zn,Zu,Zq,Zr,Zz];refine Sz0 ?_;refine Qa hP (ZS hq oy l9 (by omega) hE iy) rfl rfl rfl ?_;refine Sz0 ?_;refine Qa hP (C2 (hp.mono (K':=K+2) (by omega) (Kac _)) (xK hq) (by omega) hE bV (by show(b8 q (-1)).length<=_;omega)) rfl rfl rfl ?_;refine Sz0 ?_;exact Qd rfl rfl
theorem RB.raw{k:Nat}{t:aU}(h:RB k t)(hk:1<=k):Raw k t.n t.a t.d:=⟨h.r.1,h.r.2.1,h.r.2.2.1,h.r.2.2.2,hk⟩
theorem ag0{s t:aU}{E:Nat}(hs:MB E s.m)(ht:MB E t.m)(hE:E<=2^38):Qc Tryz.prog 85 [PV.qx s,PV.qx t] (· = .int .i64 (aS s.m t.m)):=by refine Qf Qo Tryz.func85 rfl Ry (by simp[AV]) fun C hP=>?_;simp only[AV,Zo,Zg,Zm,Zc,Zf,Zl,Zh,Zs,Zi,Zb,Zk,Zn,Zu,Zq,Zr,Zz];refine Sz0 ?_;refine Qa hP (Us (o:=0) hs ht (by omega)) rfl rfl rfl ?_;refine Sz0 ?_;exact Qd (by rw[ED]) rfl
theorem TA{l:List aU}{k:Nat}(hb:∀t∈l,RB k t)(qd:1<=k)(hk:k<2^36)(rh:l.length<2^40):Qc Tryz.prog 40 [PV.kD l] (· = .bool (eE l)):=by
 have re:=H4 l;have bad:∀ {b:Bool},(b=true->False)->b=false:=fun {b} h=>by cases b<;>simp_all
 refine Qf Qo Tryz.func40 rfl ajp (by simp[K4]) fun C hP=>?_;simp only[K4,Zo,Zg,Zm,Zc,Zf,Zl,Zh,Zs,Zi,Zb,Zk,Zn,Zu,Zq,Zr,Zz];refine Sz0 ?_;refine Qw (by repeat (first|exact Qr|exact Qk|exact Ql|exact Qm|exact Qn|apply Qj|apply Qq|apply Qx|apply Q5|apply Q6|apply Qi)) [(2,4),(7,42)] [4] (fun n J hp=>∃i,n=l.length-i/\i<=l.length/\(∀j (h:j<l.length),j<i->fP l[j]=true)/\(∀j (h:j+1<l.length),j+1<i->0<aS l[j].m l[j+1].m)/\J 7= .int .i64 (i:Nat)) l.length ?_ ?_
 ·refine⟨0,rfl,by omega,by omega,by omega,?_⟩;refine Sz0 ?_;rfl
 rintro _ J h ⟨i,rfl,hi,h1,h2,h7⟩;refine Sz1 h7 ?_;refine Qb (fun hg=>?_) (fun hg=>?_)
 ·have aB:i<l.length:=by omega
  have iY:=hb _ (Kag aB);have hr:=(RB.raw iY qd).rs;have mh:=iY.l;have v8:eE l=true->fP l[i]=true:=fun h=>(re.1 h).1 i aB;have MD:∀(j:Nat)(hj:j+1=i),eE l=true->0<aS (l[j]'(by omega)).m l[i].m:=fun j hj h=>by subst hj;exact(re.1 h).2 j aB
  have Bh:fP l[i]=true->∀j (h:j<l.length),j<i+1->fP l[j]=true:=fun h j hj dW=>by
   by_cases e:j=i
   ·subst e;exact h
   ·exact h1 j hj (by omega)
  have Ni:∀(j:Nat)(hj:j+1=i),MB 1048576 (l[j]'(by omega)).m:=fun j hj=>by have:=h1 j (by omega) (by omega);simp only[fP,Kat]at this;exact MB.uN this.2.2
  have v5:(∀(j:Nat)(hj:j+1=i),0<aS (l[j]'(by omega)).m l[i].m)->∀j (h:j+1<l.length),j+1<i+1->0<aS l[j].m l[j+1].m:=fun h j hj dW=>by
   by_cases e:j+1=i
   ·subst e;exact h j rfl
   ·exact h2 j hj (by omega)
  generalize hx:l[i]=x at *
  have fW:rs (rv x.n x.a x.d)<2^36:=by omega
  refine Sz2 h7 hx ?_;refine Qa hP (Tb (RB.raw iY qd) hk) rfl rfl rfl ?_;refine Sz1 h7 ?_;cases cx:mS x.n x.a x.d
  ·have hf:eE l=false:=bad fun h=>by have:=v8 h;simp[fP,cx]at this
   refine Sz2 h7 @Bool.not_false ?_;exact Qd (by rw[hf]) rfl
  refine Sz2 h7 @Bool.not_true ?_;refine Qa hP (Db (RB.raw iY qd) hk) rfl rfl rfl ?_;refine Sz1 h7 ?_;refine dM (fun hz=>?_) (fun hz=>?_)
  ·have hf:eE l=false:=bad fun h=>by have:=v8 h;simp[fP,aU.q,gG.1 hz]at this
   refine Sz1 h7 ?_;exact Qd (by rw[hf]) rfl
  refine Sz1 h7 ?_;refine Qa hP (YO (by omega)) rfl rfl rfl ?_;refine Sz1 h7 ?_;cases wA:fK x.m
  ·have hf:eE l=false:=bad fun h=>by have:=v8 h;simp[fP,wA]at this
   refine Sz2 h7 @Bool.not_false ?_;exact Qd (by rw[hf]) rfl
  have BK:fP x=true:=by simp only[fP,cx,wA,KbZ,Kdk,decide_eq_true_eq];exact fun h=>hz (gG.2 h)
  refine Sz2 h7 @Bool.not_true ?_;refine gw (fun qb=>?_) (fun qb=>?_)
  ·obtain⟨j,rfl⟩:∃j,i=j+1:=⟨i-1,by omega⟩
   have e:((j+1:Nat):Int)-1=j:=by omega
   have qc:j<l.length:=by omega
   have BI:=Ni j rfl;have ME:=MD j rfl;have MC:0<aS (l[j]'(by omega)).m x.m->∀j2 (h:j2+1<l.length),j2+1<j+1+1->0<aS l[j2].m l[j2+1].m:=fun h=>v5 (fun j' fG=>by
    obtain rfl:j'=j:=by omega
    exact h)
   generalize hy:l[j]'(by omega)=y at *
   refine Sz3 h7 e hy ?_;refine Qa hP (ag0 (s:=y) (t:=x) BI (MB.uN wA) (by omega)) rfl rfl rfl ?_;refine Sz2 h7 e ?_;refine Qb (fun hc=>?_) (fun hc=>?_)
   ·have hf:eE l=false:=bad fun h=>by have:=ME h;omega
    refine Sz1 h7 ?_;exact Qd (by rw[hf]) rfl
   ·refine Sz1 h7 ?_;refine Qg (l.length-(j+1+1)) (by omega) ⟨j+1+1,rfl,by omega,Bh BK,MC (by omega),?_⟩;exact Tz0
  ·obtain rfl:i=0:=by omega
   refine Sz1 h7 ?_;refine Qg (l.length-1) (by omega) ⟨1,rfl,by omega,Bh BK,v5 (fun j hj=>by omega),?_⟩;exact Tz0
 ·obtain rfl:i=l.length:=by omega
  have hf:eE l=true:=re.2 ⟨fun j hj=>h1 j hj hj,fun j hj=>h2 j hj hj⟩;refine Sz0 ?_;exact Qd (by rw[hf]) rfl
theorem YK{l:List aU}{k:Nat}(hb:∀t∈l,RB k t)(qd:1<=k)(hk:k<2^36)(rh:l.length<2^40):Qc Tryz.prog 39 [PV.kD l] (· = .bool (eE l)):=by
 have re:=H4 l;have bad:∀ {b:Bool},(b=true->False)->b=false:=fun {b} h=>by cases b<;>simp_all
 refine Qf Qo Tryz.func39 rfl ajX (by simp[K3]) fun C hP=>?_;simp only[K3,Zo,Zg,Zm,Zc,Zf,Zl,Zh,Zs,Zi,Zb,Zk,Zn,Zu,Zq,Zr,Zz];refine Sz0 ?_;refine Qw (by repeat (first|exact Qr|exact Qk|exact Ql|exact Qm|exact Qn|apply Qj|apply Qq|apply Qx|apply Q5|apply Q6|apply Qi|apply Q2)) [(2,51)] [] (fun n J hp=>∃i,n=l.length-i/\i<=l.length/\(∀j (h:j<l.length),j<i->fP l[j]=true)/\(∀j (h:j+1<l.length),j+1<i->0<aS l[j].m l[j+1].m)/\J 3= .int .i64 (i:Nat)) l.length ?_ ?_
 ·refine⟨0,rfl,by omega,by omega,by omega,?_⟩;refine Sz0 ?_;rfl
 rintro _ J h ⟨i,rfl,hi,h1,h2,h7⟩;refine Sz1 h7 ?_;refine Qb (fun hg=>?_) (fun hg=>?_)
 ·have aB:i<l.length:=by omega
  have iY:=hb _ (Kag aB);have hr:=(RB.raw iY qd).rs;have mh:=iY.l;have v8:eE l=true->fP l[i]=true:=fun h=>(re.1 h).1 i aB;have MD:∀(j:Nat)(hj:j+1=i),eE l=true->0<aS (l[j]'(by omega)).m l[i].m:=fun j hj h=>by subst hj;exact(re.1 h).2 j aB
  have Bh:fP l[i]=true->∀j (h:j<l.length),j<i+1->fP l[j]=true:=fun h j hj dW=>by
   by_cases e:j=i
   ·subst e;exact h
   ·exact h1 j hj (by omega)
  have Ni:∀(j:Nat)(hj:j+1=i),MB 1048576 (l[j]'(by omega)).m:=fun j hj=>by have:=h1 j (by omega) (by omega);simp only[fP,Kat]at this;exact MB.uN this.2.2
  have v5:(∀(j:Nat)(hj:j+1=i),0<aS (l[j]'(by omega)).m l[i].m)->∀j (h:j+1<l.length),j+1<i+1->0<aS l[j].m l[j+1].m:=fun h j hj dW=>by
   by_cases e:j+1=i
   ·subst e;exact h j rfl
   ·exact h2 j hj (by omega)
  generalize hx:l[i]=x at *
  have fW:rs (rv x.n x.a x.d)<2^36:=by omega
  refine Sz2 h7 hx ?_;refine Qa hP (Yt (RB.raw iY qd) hk) rfl rfl rfl ?_;refine Sz1 h7 ?_;cases cx:mS x.n x.a x.d
  ·have hf:eE l=false:=bad fun h=>by have:=v8 h;simp[fP,cx]at this
   refine Sz2 h7 @Bool.not_false ?_;exact Qd (by rw[hf]) rfl
  refine Sz3 h7 @Bool.not_true hx ?_;refine Qa hP (CV (RB.raw iY qd) hk) rfl rfl rfl ?_;refine Sz1 h7 ?_;refine dM (fun hz=>?_) (fun hz=>?_)
  ·have hf:eE l=false:=bad fun h=>by have:=v8 h;simp[fP,aU.q,gG.1 hz]at this
   refine Sz1 h7 ?_;exact Qd (by rw[hf]) rfl
  refine Sz2 h7 hx ?_;refine Qa hP (SI (by omega)) rfl rfl rfl ?_;refine Sz1 h7 ?_;cases wA:fK x.m
  ·have hf:eE l=false:=bad fun h=>by have:=v8 h;simp[fP,wA]at this
   refine Sz2 h7 @Bool.not_false ?_;exact Qd (by rw[hf]) rfl
  have BK:fP x=true:=by simp only[fP,cx,wA,KbZ,Kdk,decide_eq_true_eq];exact fun h=>hz (gG.2 h)
  refine Sz2 h7 @Bool.not_true ?_;refine gw (fun qb=>?_) (fun qb=>?_)
  ·obtain⟨j,rfl⟩:∃j,i=j+1:=⟨i-1,by omega⟩
   have e:((j+1:Nat):Int)-1=j:=by omega
   have qc:j<l.length:=by omega
   have BI:=Ni j rfl;have ME:=MD j rfl;have MC:0<aS (l[j]'(by omega)).m x.m->∀j2 (h:j2+1<l.length),j2+1<j+1+1->0<aS l[j2].m l[j2+1].m:=fun h=>v5 (fun j' fG=>by
    obtain rfl:j'=j:=by omega
    exact h)
   generalize hy:l[j]'(by omega)=y at *
   refine Sz4 h7 e hx hy ?_;refine Qa hP (AG BI (MB.uN wA) (by omega)) rfl rfl rfl ?_;refine Sz2 h7 e ?_;refine Qb (fun hc=>?_) (fun hc=>?_)
   ·have hf:eE l=false:=bad fun h=>by have:=ME h;omega
    refine Sz1 h7 ?_;exact Qd (by rw[hf]) rfl
   ·refine Sz1 h7 ?_;refine Qg (l.length-(j+1+1)) (by omega) ⟨j+1+1,rfl,by omega,Bh BK,MC (by omega),?_⟩;exact Tz0
  ·obtain rfl:i=0:=by omega
   refine Sz1 h7 ?_;refine Qg (l.length-1) (by omega) ⟨1,rfl,by omega,Bh BK,v5 (fun j hj=>by omega),?_⟩;exact Tz0
 ·obtain rfl:i=l.length:=by omega
  have hf:eE l=true:=re.2 ⟨fun j hj=>h1 j hj hj,fun j hj=>h2 j hj hj⟩;refine Sz0 ?_;exact Qd (by rw[hf]) rfl
def mB(v:Nat)(e:Int)(t:aU):Bool:=decide (t.m.length<=v)&&(decide (t.a.length<=4)&&(decide (t.d.length<=4)&&t.m.all fun x=>decide (x<=e)))
def lh(n v:Nat)(e:Int)(l:List aU):Bool:=decide (l.length<=n)&&(l.all (mB v e)&&eE l)
theorem Yv{l:List aU}{k n v:Nat}{e:Int}(hb:∀t∈l,RB k t)(qd:1<=k)(hk:k<2^36)(rh:l.length<2^40):
  Qc Tryz.prog 18 [PV.kD l,.int .i64 n,.int .i64 v,.int .i64 e] (· = .bool (lh n v e l)):=by
 have bad:l.length<=n->∀i (h:i<l.length),mB v e l[i]=false->lh n v e l=false:=fun _ i hi h=>by
  have:l.all (mB v e)=false:=by rw[Kc6];exact⟨_,Kag hi,by simp[h]⟩
  simp[lh,this]
 refine Qf Qo Tryz.func18 rfl ajZ (by simp[KD]) fun C hP=>?_;simp only[KD,Zo,Zg,Zm,Zc,Zf,Zl,Zh,Zs,Zi,Zb,Zk,Zn,Zu,Zq,Zr,Zz];refine Sz0 ?_;refine Qb (fun hn=>?_) (fun hn=>?_)
 ·refine Sz0 ?_;exact Qd (by simp[lh,show ¬l.length<=n by omega]) rfl
 have yQ:l.length<=n:=by omega
 refine Sz0 ?_;refine Qw (by repeat (first|exact Qr|exact Qk|exact Ql|exact Qm|exact Qn|apply Qj|apply Qq|apply Qx|apply Q5|apply Q6|apply Qi|apply Q2)) [(8,10),(15,69)] [] (fun m J hp=>∃i,m=l.length-i/\i<=l.length/\(∀j (h:j<l.length),j<i->mB v e l[j]=true)/\J 9= .int .i64 (i:Nat)) l.length ?_ ?_
 ·refine⟨0,rfl,by omega,by omega,?_⟩;refine Sz0 ?_;rfl
 rintro _ J h ⟨i,rfl,hi,h1,h9⟩;refine Sz1 h9 ?_;refine Qb (fun hg=>?_) (fun hg=>?_)
 ·have aB:i<l.length:=by omega
  have iY:=hb _ (Kag aB);have jJ:=bad yQ i aB;have mh:=iY.l;have fE:mB v e l[i]=true->∀j (h:j<l.length),j<i+1->mB v e l[j]=true:=fun h j hj dW=>by
   by_cases e:j=i
   ·subst e;exact h
   ·exact h1 j hj (by omega)
  generalize hx:l[i]=x at *
  refine Sz2 h9 hx ?_;refine dM (fun h2=>?_) (fun h2=>?_)
  ·refine Sz2 h9 hx ?_;exact Qd (by rw[jJ (by simp[mB,show ¬x.m.length<=v by omega])]) rfl
  refine Sz2 h9 hx ?_;refine dM (fun h3=>?_) (fun h3=>?_)
  ·refine Sz2 h9 hx ?_;exact Qd (by rw[jJ (by simp[mB,show ¬x.a.length<=4 by omega])]) rfl
  refine Sz2 h9 hx ?_;refine Qb (fun h4=>?_) (fun h4=>?_)
  ·refine Sz2 h9 hx ?_;exact Qd (by rw[jJ (by simp[mB,show ¬x.d.length<=4 by omega])]) rfl
  refine Sz2 h9 hx ?_;refine Qw (by repeat (first|exact Qr|exact Qk|exact Ql|exact Qm|exact Qn|apply Qj|apply Qq|apply Qx|apply Q5|apply Q6|apply Qi|apply Q2)) [(8,8),(10,10),(50,69)] [] (fun m J hp=>∃j,m=x.m.length-j/\j<=x.m.length/\(∀y∈x.m.take j,y<=e)/\J 10= .int .i64 (j:Nat)) x.m.length ?_ ?_
  ·refine⟨0,rfl,by omega,by simp,?_⟩;refine Sz0 ?_;rfl
  rintro _ J2 nh ⟨j,rfl,hj,h5,bK⟩;refine Sz3 h9 bK hx ?_;refine Qb (fun fF=>?_) (fun fF=>?_)
  ·have fG:j<x.m.length:=by omega
   have eo:=Kag fG;have bj:x.m.take (j+1)=x.m.take j++[x.m[j]]:=Kah fG;generalize hy:x.m[j]=y at *
   refine Sz4 h9 bK hx hy ?_;refine Qb (fun h6=>?_) (fun h6=>?_)
   ·refine Sz3 h9 bK hx ?_;refine Qd ?_ rfl;rw[jJ];have:(x.m.all fun x=>decide (x<=e))=false:=by rw[Kc6];exact⟨y,eo,by simp;omega⟩
    simp[mB,this]
   ·refine Sz3 h9 bK hx ?_;refine Qg (x.m.length-(j+1)) (by omega) ⟨j+1,rfl,by omega,?_,?_⟩
    ·rw[bj];intro z hz;rcases KaT.1 hz with hz|hz
     ·exact h5 z hz
     ·simp at hz;omega
    ·exact Tz0
  ·rw[Kae (by omega)]at h5;have sT:mB v e x=true:=by simp only[mB,Kat,decide_eq_true_eq,Kav];exact⟨by omega,by omega,by omega,h5⟩
   refine Sz2 h9 bK ?_;simp (disch:=decide) only[jR,mM];refine Qg (l.length-(i+1)) (by omega) ⟨i+1,rfl,by omega,fE sT,?_⟩;exact Tz0
 ·obtain rfl:i=l.length:=by omega
  have bz:l.all (mB v e)=true:=by rw[Kav];intro t ht;obtain⟨j,hj,rfl⟩:=Ka8 ht;exact h1 j hj hj
  refine Sz0 ?_;refine Qa hP (YK hb qd hk rh) rfl rfl rfl ?_;refine Sz0 ?_;exact Qd (by simp[lh,yQ,bz]) rfl
end Go.Proofs.YtdjoomkeehihmaaGreat
namespace Go.FW
open Go
variable {C : Ctx} {ρ : Nat -> Option Nat} {fr ay : Fr} {hp an : HP} {w w' : World} {K R : Qh}
def vJ(r:PV):Prop:=(r.refs=[]/\r.bW=[])/\∀σ,fb σ r=r
def zq(nm:Nat->Bool)(p:PV):PV:=if(p.refs++p.bW).any nm then .undef else p
def amM(nm:Nat->Bool)(fr:Fr):Fr:=fun s=>zq nm (fr s)
def exH(nm ex:Nat->Bool)(H hp:HP):HP:=fun x=>if ex x then H x else if nm x then none else hp x
def exF(S:List Nat)(F fr:Fr):Fr:=fun s=>if S.contains s then F s else fr s
end Go.FW
namespace Go.FW
open Go
variable {C : Ctx} {ρ : Nat -> Option Nat} {fr ay : Fr} {hp : HP} {w : World} {K R : Qh}
theorem aeH{B:List Nat}{F:Fr}{β δ:Nat}(al:B.contains β=true)(h2:β<1000000):o9 β δ (dp B F)=dp B F:=aga (.inl al) (.inl h2)
theorem aqm:
  (∀(σ:Nat->Nat)(k:IntKind)(n:Int),fb σ (.int k n)= .int k n)/\
  (∀(σ:Nat->Nat)(b:Bool),fb σ (.bool b)= .bool b)/\
  (∀(σ:Nat->Nat)(e:Nat)(xs:List PV),fb σ (.sl e xs)= .sl e xs)/\
  (∀(σ:Nat->Nat)(cs:List PV),fb σ (.agg cs)= .agg cs)/\
  (∀(σ:Nat->Nat)(cs:List PV),fb σ (.au cs)= .au cs)/\
  (∀(σ:Nat->Nat)(cs:List PV),fb σ (.pt cs)= .pt cs)/\
  (∀(σ:Nat->Nat),fb σ .aa= .aa)/\
  (∀(σ:Nat->Nat),fb σ .undef= .undef)/\
  (∀(σ:Nat->Nat)(β o n:Nat),fb σ (.ax β o n)= .ax (σ β) o n)/\
  (∀(σ:Nat->Nat)(β o n:Nat),fb σ (.mp β o n)= .mp (σ β) o n)/\
  (∀(σ:Nat->Nat)(β o n:Nat),fb σ (.aM β o n)= .aM (σ β) o n)/\
  (∀(σ:Nat->Nat)(β o n:Nat),fb σ (.np β o n)= .np (σ β) o n)/\
  (∀(σ:Nat->Nat)(cs:List PV),fb σ (.aX cs)= .aX (cs.map (dJ σ))):=by
 refine⟨?_,?_,?_,?_,?_,?_,?_,?_,?_,?_,?_,?_,?_⟩<;>intros<;>rfl
theorem aql:
  (∀(σ:Nat->Nat)(k:IntKind)(n:Int),dJ σ (.int k n)= .int k n)/\
  (∀(σ:Nat->Nat)(b:Bool),dJ σ (.bool b)= .bool b)/\
  (∀(σ:Nat->Nat)(e:Nat)(xs:List PV),dJ σ (.sl e xs)= .sl e xs)/\
  (∀(σ:Nat->Nat),dJ σ .aa= .aa)/\
  (∀(σ:Nat->Nat),dJ σ .undef= .undef)/\
  (∀(σ:Nat->Nat)(β o n:Nat),dJ σ (.ax β o n)= .ax (σ β) o n)/\
  (∀(σ:Nat->Nat)(β o n:Nat),dJ σ (.aM β o n)= .aM (σ β) o n):=by
 refine⟨?_,?_,?_,?_,?_,?_,?_⟩<;>intros<;>rfl
theorem alw:
  (∀(γ:Nat)(k:IntKind)(n:Int),ee γ (.int k n)= .int k n)/\
  (∀(γ:Nat)(b:Bool),ee γ (.bool b)= .bool b)/\
  (∀(γ e:Nat)(xs:List PV),ee γ (.sl e xs)= .sl e xs)/\
  (∀(γ:Nat)(cs:List PV),ee γ (.agg cs)= .agg cs)/\
  (∀(γ:Nat)(cs:List PV),ee γ (.au cs)= .au cs)/\
  (∀(γ:Nat)(cs:List PV),ee γ (.pt cs)= .pt cs)/\
  (∀(γ:Nat),ee γ .aa= .aa)/\
  (∀(γ:Nat),ee γ .undef= .undef)/\
  (∀(γ β o n:Nat),ee γ (.ax β o n)=if β=γ then .aM γ o n else .ax β o n)/\
  (∀(γ β o n:Nat),ee γ (.mp β o n)=if β=γ then .np γ o n else .mp β o n)/\
  (∀(γ β o n:Nat),ee γ (.aM β o n)= .aM β o n)/\
  (∀(γ β o n:Nat),ee γ (.np β o n)= .np β o n):=by
 refine⟨?_,?_,?_,?_,?_,?_,?_,?_,?_,?_,?_,?_⟩<;>intros<;>rfl
theorem ag1{γ s:Nat}{x:PV}:yp γ x fr s=if s=γ then x else ee γ (fr s):=rfl
theorem ag2{args:List PV}{G:Fr}{s:Nat}:amw args G s=if s<1000000 then(args[s]?).getD .undef else G s:=rfl
theorem ag3{nm:Nat->Bool}{s:Nat}:amM nm fr s=zq nm (fr s):=rfl
theorem ag4{nm:Nat->Bool}{p:PV}:zq nm p=if(p.refs++p.bW).any nm then .undef else p:=rfl
theorem akp{nm ex:Nat->Bool}{H:HP}{x:Nat}:exH nm ex H hp x=if ex x then H x else if nm x then none else hp x:=rfl
theorem akq{S:List Nat}{F:Fr}{s:Nat}:exF S F fr s=if S.contains s then F s else fr s:=rfl
attribute [go_sem] af7 af8 aiJ aiK aiI aeH aqm aql alw ag1 ag2 ag3 ag4 akp akq
end Go.FW
namespace Go.FW
open Go
variable {C : Ctx} {ρ : Nat -> Option Nat} {fr ay : Fr} {hp : HP} {w : World} {K R : Qh}
theorem ahF{σ:Nat->Nat}{p:PV}(h:p= .aa∨∃β n,p= .ms β n)(sZ:∀β n,p= .ms β n->σ β=β):g8 (p.bl.map (dJ σ))=p:=by
 rcases h with rfl|⟨β,n,rfl⟩
 ·rfl
 ·have:=sZ β n rfl;simp[PV.bl,PV.cells,dJ,g8,this]
def iu(B n w:Nat)(π:Nat->Nat):List (Nat×Nat):=(List.range n).map fun r=>(B+π r,w)
theorem Pd{B n w r:Nat}{π:Nat->Nat}(h:r<(iu B n w π).length):(iu B n w π)[r]=(B+π r,w):=by simp[iu]
def m7{α:Type}(p:α->PV)(f:Nat->α)(w:Nat):List PV:=(List.range w).map fun c=>p (f c)
theorem GW{α:Type}(p:α->PV)(f:Nat->α)(w:Nat):(m7 p f w).length=w:=by simp[m7]
theorem Io{α:Type}{p:α->PV}{f:Nat->α}{w c:Nat}(h:c<(m7 p f w).length):(m7 p f w)[c]=p (f c):=by simp[m7]
theorem alx{by_ ty d:Nat}{k k':IntKind}{n c:Nat}(h2:n<=c)(h3:by_*c<=281474976710656)(h4:c<=9223372036854775807):
  nE 3 by_ ty (.agg [.bool false,.aa,.aa]) (.int k (n:Int)) (.int k' (c:Int)) d fr hp K=K (af (cK d fr) d (.ms d n)) (Qz hp d ⟨3,ty,List.replicate n (.agg [.bool false,.aa,.aa]),false⟩):=by
 rw[Cr (e:=3) (by omega) rfl (by omega) (by omega) (by omega) (by omega)];rfl
attribute [go_sem] alx
end Go.FW
namespace Go.FW
open Go
variable {C : Ctx} {ρ : Nat -> Option Nat} {fr ay : Fr} {hp : HP} {w : World} {K R : Qh}
theorem Q9d {P : Program} {f : FuncId} {fn : Func} {sf : aA} {args : List PV} {Rr : PV -> Prop} (hm : P.follows .mixedOrders = true) (hf : P.funcs[f]? = some fn) (sM : (fn.name != "runtime.NumGoroutine") = true) (hc : Qe P fn = some sf.strip) (hn : args.length <= sf.n /\ sf.n <= 1000000)
  (hv:∀C:Ctx,C.P=P->C.N=sf.n->vc C (ss (gf sf.rs Rr)) [.c sf.body] (jY args) aF):Qc P f args Rr:=by
 simp only[Qe,Kab,Kaa]at hc;obtain⟨c,hb,sb,iK,rs,fu,Xb⟩:=hc;obtain⟨n,XQ,body⟩:=sf;simp only[aA.strip,aA.mk.injEq]at Xb;obtain⟨rfl,rfl,rfl⟩:=Xb;refine⟨by simp[oQ,hf,hb];simpa using sM,fun w X bo hX fY cN=>?_⟩
 let C:Ctx:=Ctx.plain P fn.ntmps w X hX hn.2
 refine calls_of_wp hf hb ?_;have wI:(bo++Array.replicate (fn.ntmps-bo.size) undef).size=fn.ntmps:=by simp at hn ⊢;omega
 have qj:fl C (jY args) aF (bo++Array.replicate (fn.ntmps-bo.size) undef) w:=by
  refine⟨fun _=>none,wI,Ext.refl _ _,(fun _ _ h=>by cases h),by simp[aF],by simp[aF],fun i=>?_⟩;unfold jY;cases hi:args[i]? with
  |none=>trivial
  | some p=>
   simp only[KbT];have dq:i<bo.size:=by rw[fY];exact(Kad.1 hi).1
   have hr:=cN i p hi;have e:(bo++Array.replicate (fn.ntmps-bo.size) undef).getD i undef=bo.getD i undef:=by rw[kX,if_pos dq]
   rw[e];refine Qt.lJ (hr.mono (fun _ _ _=>rfl) (fun b _ hn hx=>?_) (Kac _));rcases hx with hx|⟨_,_,h1,_⟩
   ·exact hn hx
   ·simp[aF]at h1
 have fin:∀(fr:Fr)(hp:HP)(a:Act)(w':World),a.defers=[]->fl C fr hp a.tmps w'->ss (gf rs Rr) fr hp->
   a.defers=[]/\∃v,(results fn a.tmps).run P w'= .ok v w'/\∃v' r,Ending.returned v= .returned v'/\Ext bT w w'/\dH w' X r v'/\Rr r:=by
  rintro fr hp a w' hd BL ⟨Mg,jf,hw,hr⟩;obtain⟨ρ,hs⟩:=hw C _ _ BL;obtain⟨v,r,h1,h2,h3⟩:=Vc (C:=C) rfl fu hs hr;exact⟨hd,v,h1,v,r,rfl,Ctx.NN hs.ext,h2,h3⟩
 exact Th (C:=C) (R:=ss (gf rs Rr)) hm c body [] _ (jY args) aF _ w iK ⟨fun fr hp a w' hd hs hv=>(by rw[vC]at hv;exact fin fr hp a w' hd hs hv),fun id eS he=>(by simp[FW.cw]at he),fin⟩ rfl qj (hv C rfl rfl)
theorem xA {P : Program} {f : FuncId} {fn : Func} {sf : aA} {args : List PV} {Rr : PV -> Prop} (hm : P.follows .mixedOrders = true) (hf : P.funcs[f]? = some fn) (sM : (fn.name != "runtime.NumGoroutine") = true) (hc : Qe P fn = some sf.strip) (hn : args.length <= sf.n /\ sf.n <= 1000000)
  (hv:∀C:Ctx,C.P=P->vc C (ss (gf sf.rs Rr)) [.c sf.body] (jY args) aF):Qc P f args Rr:=
 Q9d hm hf sM hc hn fun C h _=>hv C h
theorem ahG{ty w i d:Nat}{fz:Bool}{f:Nat->Rat}(h:i<w):kB (some ⟨3,ty,m7 PV.rat f w,fz⟩) 3 true i 0 d fr hp K=K (af fr d (PV.rat (f i))) hp:=by rw[tJ (by rw[GW];exact h) (by omega) (by simp),Io];rfl
theorem akr:(vJ (.au [])=True)/\(∀(k:IntKind)(n:Int),vJ (.int k n)=True)/\(∀b:Bool,vJ (.bool b)=True)/\(∀(e:Nat)(xs:List PV),vJ (.sl e xs)=True)/\(∀cs:List PV,vJ (.agg cs)=True)/\(∀cs:List PV,vJ (.au cs)=True):=by refine⟨?_,?_,?_,?_,?_,?_⟩<;>intros<;>simp[vJ,PV.refs,PV.bW,fb,dJ]
attribute [go_sem] akr ahG
end Go.FW
namespace Go.FW
open Go
variable {C : Ctx} {ρ : Nat -> Option Nat} {fr ay : Fr} {hp : HP} {w : World} {K R : Qh}
def y4(p:PV)(γ n:Nat)(ag:Bool)(i o d:Nat)(fr:Fr)(hp:HP)(K:Qh):Prop:=match p with
 |.aN bF e _ xs=>bF=γ/\∃h:i<xs.length,o+n<=e/\(ag=false->n=1)/\K (af fr d (rB ag n o (xs[i]'h))) hp
 |_=>False
theorem aks{γ n i o d:Nat}{ag:Bool}:kT n ag (.np γ i o) d fr hp K=y4 (fr γ) γ n ag i o d fr hp K:=by simp only[kT,y4];cases fr γ<;>rfl
def zf(p:PV)(h:Option HB)(v:Option (List PV))(γ n i o:Nat)(fr:Fr)(hp:HP)(K:Qh):Prop:=match p with
 |.aN bF e ty xs=>bF=γ/\(∃hb,h=some hb/\hb.fz=false)/\∃h:i<xs.length,o+n<=e/\match v with
   |some cs=>cs.length=n/\K (af (iR γ fr) γ (.aN γ e ty (xs.set i (g8 (pQ (xs[i]'h).bl o cs))))) hp
   |none=>False
 |_=>False
theorem akt{γ n i o:Nat}{v:PV}:ph n (.np γ i o) v fr hp K=zf (fr γ) (hp γ) (fI v) γ n i o fr hp K:=by simp only[ph,zf];cases fr γ<;>rfl
theorem aly{γ e ty n o d:Nat}{ag:Bool}{x:PV}(h1:o+n<=e)(h2:ag=true∨n=1):y4 (.aN γ e ty [x]) γ n ag 0 o d fr hp K=K (af fr d (rB ag n o x)) hp:=by have:(ag=false->n=1):=fun h=>h2.resolve_left (by simp[h]);simp[y4,h1];exact fun _=>this
theorem alz{γ e ty n o e0 N3:Nat}{x:PV}{N4 cs:List PV}(h1:o+n<=e)(h2:cs.length=n):zf (.aN γ e ty [x]) (some ⟨e0,N3,N4,false⟩) (some cs) γ n 0 o fr hp K=K (af (iR γ fr) γ (.aN γ e ty [g8 (pQ x.bl o cs)])) hp:=by simp[zf,h1,h2]
theorem alA{γ ty B n w r d:Nat}{π:Nat->Nat}(h:r<n):y4 (.aN γ 1 ty (jW (iu B n w π))) γ 1 false r 0 d fr hp K=K (af fr d (.ms (B+π r) w)) hp:=by
 have hl:r<(jW (iu B n w π)).length:=by simpa[jW,iu]using h
 simp only[y4,hl,exists_true_left,true_and,Kac,Kbe,implies_true];simp[rB,jW,iu,PV.bl,PV.cells]
theorem alB{γ ty B n w r m e0 N3:Nat}{π:Nat->Nat}{N4:List PV}(h:r<n):zf (.aN γ 1 ty (jW (iu B n w π))) (some ⟨e0,N3,N4,false⟩) (some [.ms (B+m) w]) γ 1 r 0 fr hp K=K (af (iR γ fr) γ (.aN γ 1 ty (jW (iu B n w fun x=>if x=r then m else π x)))) hp:=by
 have hl:r<(jW (iu B n w π)).length:=by simpa[jW,iu]using h
 have e:(iu B n w π).set r (B+m,w)=iu B n w fun x=>if x=r then m else π x:=by
  refine KcV (by simp[iu]) fun j h1 h2=>?_;rw[Kdg,Pd,Pd];split
  ·rename_i e;subst e;simp
  ·rename_i e;rw[if_neg fun e2=>e e2.symm]
 rw[<-e];simp only[zf,hl,exists_true_left,true_and,Kac,Kbe,KaB,exists_eq_left',KaW,Kbj];simp[g8,pQ,jW,PV.bl,PV.cells,Kda]
theorem aqt:
  (∀(γ o n:Nat),fI (.aM γ o n)=some [.aM γ o n])/\
  (∀(k:IntKind)(n:Int),fI (.int k n)=some [.int k n])/\
  (∀(b:Bool),fI (.bool b)=some [.bool b])/\
  (fI .aa=some [.aa])/\
  (∀(e:Nat)(xs:List PV),fI (.sl e xs)=some [.sl e xs])/\
  (∀(cs:List PV),fI (.pt cs)=some [.pt cs])/\
  (∀(cs:List PV),fI (.agg cs)=some cs):=by
 refine⟨?_,?_,?_,?_,?_,?_,?_⟩<;>intros<;>rfl
theorem aku{β o n:Nat}(h:1000000<=β):fI (.ax β o n)=some [.ax β o n]:=by simp[fI,cd,h]
theorem ahH{cs:List PV}:fI (.aX cs)=if cs.all PV.ik then some cs else none:=rfl
theorem alC:(∀(k:IntKind)(n:Int),(PV.int k n).ik=true)/\(∀b:Bool,(PV.bool b).ik=true)/\(PV.aa.ik=true)/\(∀(e:Nat)(xs:List PV),(PV.sl e xs).ik=true)/\(∀(β o n:Nat),(PV.ax β o n).ik=true)/\(∀(β o n:Nat),(PV.aM β o n).ik=true)/\(∀cs:List PV,(PV.pt cs).ik=true)/\(PV.undef.ik=false):=by refine⟨?_,?_,?_,?_,?_,?_,?_,?_⟩<;>intros<;>rfl
theorem alE:(∀(k:IntKind)(n:Int),(PV.int k n).oD=false)/\(∀b:Bool,(PV.bool b).oD=false)/\(PV.aa.oD=false)/\(∀(e:Nat)(xs:List PV),(PV.sl e xs).oD=false)/\(∀(β o n:Nat),(PV.ax β o n).oD=true)/\(∀(β o n:Nat),(PV.aM β o n).oD=true)/\(∀cs:List PV,(PV.pt cs).oD=false)/\(PV.undef.oD=true):=by refine⟨?_,?_,?_,?_,?_,?_,?_,?_⟩<;>intros<;>rfl
theorem acL{cs:List PV}(h:cs.any PV.oD=true):nU cs= .aX cs:=by simp[nU,h]
theorem acM{cs:List PV}(h:cs.any PV.oD=false):nU cs= .agg cs:=by simp[nU,h]
theorem akv{a b:PV}{cs:List PV}:g8 (a::b::cs)=nU (a::b::cs):=rfl
theorem akw{a:PV}:g8 [a]=a:=rfl
theorem alF{n o:Nat}{x:PV}:rB true n o x=nU ((x.bl.drop o).take n):=rfl
theorem alG{n o:Nat}{x:PV}:rB false n o x=(x.bl.drop o).headD .undef:=rfl
theorem ahI{l cs:List PV}{o:Nat}:pQ l o cs=l.take o++cs++l.drop (o+cs.length):=rfl
theorem Q9e{cs:List PV}:(PV.aX cs).bl=cs:=rfl
theorem Q9f{cs:List PV}:(PV.agg cs).bl=cs:=rfl
theorem alH{z:List PV}{ps:List (Nat×Nat×PV)}{d:Nat}(h:ps.any (fun p=>p.2.2.kS)=true):kK z ps d fr hp K=(tG z.length ps/\K (af fr d (.aX (ir z (ps.map fun p=>(p.1,(fI p.2.2).getD []))))) hp):=by simp only[kK,if_pos h]
theorem ZT{len:Nat}:tG len []=True:=by simp[tG]
theorem YL{len o n:Nat}{v:PV}{ps:List (Nat×Nat×PV)}:tG len ((o,n,v)::ps)=((∃cs,fI v=some cs/\cs.length=n/\o+n<=len)/\tG len ps):=by simp[tG]
theorem akx:(∀(γ o n:Nat),(PV.aM γ o n).kS=true)/\(∀(cs:List PV),(PV.aX cs).kS=true)/\(∀(β o n:Nat),(PV.ax β o n).kS=decide (2000000<=β))/\(∀(cs:List PV),(PV.agg cs).kS=false)/\(∀(k:IntKind)(n:Int),(PV.int k n).kS=false)/\(∀b:Bool,(PV.bool b).kS=false)/\(PV.aa.kS=false)/\(∀(e:Nat)(xs:List PV),(PV.sl e xs).kS=false):=by refine⟨?_,?_,?_,?_,?_,?_,?_,?_⟩<;>intros<;>rfl
theorem ahJ:(∀(β:Nat)(k:IntKind)(n:Int),iE β (.int k n)= .int k n)/\(∀(β:Nat)(b:Bool),iE β (.bool b)= .bool b)/\(∀β:Nat,iE β .aa= .aa)/\(∀(β e:Nat)(xs:List PV),iE β (.sl e xs)= .sl e xs)/\(∀(β γ o n:Nat),iE β (.ax γ o n)=if γ=β then .undef else .ax γ o n)/\(∀(β γ o n:Nat),iE β (.aM γ o n)=if γ=β then .undef else .aM γ o n):=by refine⟨?_,?_,?_,?_,?_,?_⟩<;>intros<;>rfl
theorem ahK{β γ e ty:Nat}{x:PV}(h:γ≠β):dh β (.aN γ e ty [x])= .aN γ e ty [g8 (x.bl.map (iE β))]:=by simp[dh,h]
theorem ahL{β γ ty B n w:Nat}{π:Nat->Nat}(h:γ≠β)(h2:β<B):dh β (.aN γ 1 ty (jW (iu B n w π)))= .aN γ 1 ty (jW (iu B n w π)):=by
 simp only[dh,if_neg h];congr 1;conv=>rhs;rw[<-List.map_id (jW (iu B n w π))]
 refine Ka9 fun x hx=>?_;obtain⟨y,hy,rfl⟩:=KaE.1 hx;obtain⟨r,hr,rfl⟩:=KaE.1 hy;simp only[PV.bl,PV.cells,Kbd,Kbu,iE,g8];rw[if_neg (by omega)];rfl
theorem ap7{β δ γ ty B n w:Nat}{π:Nat->Nat}(al:β<1000000)(hB:2000000<=B)(ak:2000000<=γ):fb (my β δ) (.aN γ 1 ty (jW (iu B n w π)))= .aN γ 1 ty (jW (iu B n w π)):=by
 have e1:my β δ γ=γ:=by unfold my;rw[if_neg (by omega)]
 simp only[fb,e1];congr 1;conv=>rhs;rw[<-List.map_id (jW (iu B n w π))]
 refine Ka9 fun x hx=>?_;obtain⟨y,hy,rfl⟩:=KaE.1 hx;obtain⟨r,hr,rfl⟩:=KaE.1 hy;refine ahF (.inr ⟨_,_,rfl⟩) fun dB n' h=>?_;cases h;unfold my;rw[if_neg (by omega)]
theorem alI{δ γ ty B n w:Nat}{π:Nat->Nat}(h:γ≠δ)(lG:δ<B):ee δ (.aN γ 1 ty (jW (iu B n w π)))= .aN γ 1 ty (jW (iu B n w π)):=by
 simp only[ee,if_neg h];congr 1;conv=>rhs;rw[<-List.map_id (jW (iu B n w π))]
 refine Ka9 fun x hx=>?_;obtain⟨y,hy,rfl⟩:=KaE.1 hx;obtain⟨r,hr,rfl⟩:=KaE.1 hy;simp only[PV.bl,PV.cells,Kbd,Kbu,fC,g8];rw[if_neg (by omega)];rfl
theorem acN{β:Nat}{cs:List PV}:bZ β (.aX cs)= .aX cs:=rfl
theorem aeI{γ:Nat}{cs:List PV}:ee γ (.aX cs)= .aX (cs.map (fC γ)):=rfl
theorem acO{β:Nat}{cs:List PV}:dh β (.aX cs)= .aX (cs.map (iE β)):=rfl
theorem alJ:(∀(γ:Nat)(k:IntKind)(n:Int),fC γ (.int k n)= .int k n)/\(∀(γ:Nat)(b:Bool),fC γ (.bool b)= .bool b)/\(∀γ:Nat,fC γ .aa= .aa)/\(∀(γ e:Nat)(xs:List PV),fC γ (.sl e xs)= .sl e xs)/\(∀(γ β o n:Nat),fC γ (.ax β o n)=if β=γ then .aM γ o n else .ax β o n)/\(∀(γ β o n:Nat),fC γ (.aM β o n)= .aM β o n):=by refine⟨?_,?_,?_,?_,?_,?_⟩<;>intros<;>rfl
theorem aky{γ i o off d:Nat}:qR off (.np γ i o) d fr hp K=K (af fr d (.np γ i (o+off))) hp:=rfl
theorem acP{γ bF e ty:Nat}{xs:List PV}:jo γ (.aN bF e ty xs)=if bF=γ then .undef else .aN bF e ty xs:=rfl
theorem acQ{γ:Nat}{cs:List PV}:jo γ (.aX cs)= .aX cs:=rfl
attribute [go_sem] aky acP acQ false_and List.all_cons List.all_nil acN aeI acO alJ exists_eq_left' aks akt aly alz alA alB aqt aku ahH alC alE acL acM akv akw alF alG ahI Q9e Q9f alH ZT YL akx ahJ ahK ahL ap7 alI
theorem Rc{p:PV}(h:rF p):iI p=p:=by
 obtain⟨h1,h2,h3,h4⟩:=h;have h5:(p.refs.any kR||p.bW.any lI)=false:=by rw[Kcf,Kbs,Kbs];exact⟨fun x hx=>by simp[h1 x hx],fun x hx=>by simp[h2 x hx]⟩
 unfold iI;split
 ·exact absurd rfl (h3 _ _ _ _)
 ·exact absurd rfl (h4 _).1
 ·exact absurd rfl (h4 _).2.1
 ·exact absurd rfl ((h4 _).2.2 _)
 ·rw[h5];rfl
theorem Dg{V W:List (Nat×Nat)}{B B':List Nat}{X Z F:Fr}(h:vN V W=true)(hB:(B'.all B.contains)=true):aQ V X (dp B' (aQ W Z (dp B F)))=aQ W (aQ V X (dp B' Z)) (dp B F):=by
 have e1:gj (aQ W Z (dp B F))=aQ W (gj Z) (dp B F):=by
  funext s;show iI (aQ W Z (dp B F) s)=_;unfold aQ;split
  ·rfl
  ·exact Rc (xL B F s)
 unfold dp;rw[show gj (aQ W Z (bG B (gj F)))=aQ W (gj Z) (bG B (gj F))from e1,G4 h hB]
theorem zL{V W:List (Nat×Nat)}{B:List Nat}{X Z F:Fr}(h:vN V W=true):aQ V X (gj (aQ W Z (bG B (gj F))))=aQ W (aQ V X (gj Z)) (bG B (gj F)):=by
 have e1:gj (aQ W Z (dp B F))=aQ W (gj Z) (dp B F):=by
  funext s;show iI (aQ W Z (dp B F) s)=_;unfold aQ;split
  ·rfl
  ·exact Rc (xL B F s)
 rw[show gj (aQ W Z (bG B (gj F)))=aQ W (gj Z) (bG B (gj F))from e1,mM h]
theorem C4{V W:List (Nat×Nat)}{X Z F:Fr}(h:vN V W=true):aQ V X (gj (aQ W Z (gj F)))=aQ W (aQ V X (gj Z)) (gj F):=by have:=zL (V:=V) (W:=W) (B:=[]) (X:=X) (Z:=Z) (F:=F) h;simpa only[jR]using this
theorem acs{γ:Nat}{F:Fr}:iR γ (gj F)=gj F:=by have:=Oj (γ:=γ) (B:=[]) (F:=F);simpa only[dp,jR]using this
theorem acu{β:Nat}{F:Fr}(h:2000000<=β):fT β (gj F)=gj F:=by have:=Oi (B:=[]) (F:=F) h;simpa only[dp,jR]using this
attribute [go_sem] acs acu
theorem alL:(∀(k:IntKind)(n:Int),(PV.int k n).bW=[])/\(∀b:Bool,(PV.bool b).bW=[])/\(PV.aa.bW=[])/\(PV.undef.bW=[])/\(∀(e:Nat)(xs:List PV),(PV.sl e xs).bW=[])/\(∀cs:List PV,(PV.agg cs).bW=[])/\(∀cs:List PV,(PV.au cs).bW=[])/\(∀cs:List PV,(PV.pt cs).bW=[])/\
  (∀(β o n:Nat),(PV.ax β o n).bW=[])/\(∀(β o n:Nat),(PV.mp β o n).bW=[])/\(∀(β o n:Nat),(PV.aM β o n).bW=[β])/\(∀(β o n:Nat),(PV.np β o n).bW=[β]):=by
 refine⟨?_,?_,?_,?_,?_,?_,?_,?_,?_,?_,?_,?_⟩<;>intros<;>rfl
attribute [go_sem] alL
theorem aeJ{d w i:Nat}{k:IntKind}{f:Nat->Rat}(h:i<w):dR 3 (.sl 3 (m7 PV.rat f w)) (.int k (i:Nat)) d fr hp K=K (af fr d (.pt (PV.rat (f i)).cells)) hp:=by unfold m7;rw[xP (by omega) (by simp;omega)];simp
theorem aeK{α:Type}{p:α->PV}{f:Nat->α}{w d e:Nat}:oN (.sl e (m7 p f w)) d fr hp K=K (af fr d (.int .i64 (w:Nat))) hp:=by simp[oN,m7]
attribute [go_sem] aeJ aeK
theorem ahM{i c:Nat}(h:c<1600000):(1600000+i=c)=False:=by simp;omega
attribute [go_sem] ahM
end Go.FW
namespace Go.FW
open Go
variable {C C' : Ctx} {ρ bf : Nat -> Option Nat} {fr ay : Fr} {hp an : HP} {w : World} {K R : Qh}
theorem Pe{γ e ty:Nat}{cs cs':List PV}(δ e' ty':Nat)(yL:fr γ= .aN γ e ty [.agg cs])(h1:hp δ=none)(h2:2000000<=δ)(h3:0<e')(hl:cs'.length=cs.length)(hc:∀p∈cs.zip cs',p.2=p.1∨(p.1= .aa/\p.2= .ax δ 0 0)):
  Wk fr hp (af fr γ (.aN γ e ty [.aX cs'])) (Qz hp δ ⟨e',ty',[],false⟩):=by
 have h:=adY (fr:=fr) (hp:=hp) (γ:=γ) (e:=e) (ty:=ty) (xs:=[.agg cs]) (xs':=[.aX cs']) (fun x=>if x=δ then some (e',ty')else none) yL (fun x y h=>?_) rfl (fun i x x' k1 k2=>?_)
 ·refine cast (congrArg (Wk fr hp (af fr γ (.aN γ e ty [.aX cs']))) (funext fun x=>?_)) h;unfold Qz;by_cases hx:x=δ
  ·subst hx;simp
  ·simp[hx]
 ·split at h
  ·rename_i hx;subst hx;cases h;exact⟨h1,h2,h3⟩
  ·cases h
 ·cases i with
  |succ i=>cases k1
  | zero=>
   cases k1;cases k2;refine⟨hl,fun j y y' q1 q2=>?_⟩;have hz:(y,y')∈cs.zip cs':=by refine Kai (i:=j) ?_;rw[List.getElem?_zip_eq_some];exact⟨q1,q2⟩
   rcases hc _ hz with h|⟨h,h'⟩
   ·exact .inl h
   ·exact .inr ⟨h,δ,(e',ty'),by simp,h'⟩
theorem IA{sk:List It}{r:RT}(s k:Nat)(l:List Nat){p D:PV}(h0:fr s=p)(h1:XJ fr k p)(h2:VA fr hp k p=D)(h3:NR fr k p=l)(hv:vc C R (.o r::sk) (af fr s D) (cf hp l)):vc C R (.o (.wk r)::sk) fr hp:=by subst h0;subst h2;subst h3;exact mT (aje s k h1) hv
end Go.FW
namespace Go.FW
open Go
abbrev MF:=Nat->Nat->Rat
structure RQ where
 n:Bool
 a:List Nat
 d:List Nat
 deriving Inhabited
abbrev PV.rq(q:RQ):PV:=PV.rr q.n q.a q.d
abbrev PV.zc(l:List RQ):PV:=.sl 3 (l.map PV.rq)
abbrev LF:=Rat×(Nat->Rat)
variable {C : Ctx} {fr : Fr} {hp : HP} {w : World} {K R : Qh}
abbrev PV.wY(w:Nat)(f:Nat->Rat):PV:=.sl 3 (m7 PV.rat f w)
theorem ahN{ty w n i d:Nat}{fz:Bool}{M:MF}(h:i<n):kB (some ⟨1,ty,m7 (PV.wY w) M n,fz⟩) 1 false i 0 d fr hp K=K (af fr d (PV.wY w (M i))) hp:=by rw[tJ (by rw[GW];exact h) (by omega) (by simp),Io];rfl
theorem aeL{d w n i:Nat}{k:IntKind}{M:MF}(h:i<n):dR 1 (.sl 1 (m7 (PV.wY w) M n)) (.int k (i:Nat)) d fr hp K=K (af fr d (.pt [PV.wY w (M i)])) hp:=by
 have hl:i<(m7 (PV.wY w) M n).length:=by rw[GW];exact h
 simp only[dR];simp[hl,Io];rfl
attribute [go_sem] ahN aeL
theorem aeM{ty i d:Nat}{fz:Bool}{α:Type}{p:α->PV}{L:List α}(h:i<L.length):kB (some ⟨1,ty,L.map p,fz⟩) 1 false i 0 d fr hp K=K (af fr d (eR false 1 0 (p (L[i]'h)))) hp:=by rw[tJ (by rw[KaV];exact h) (by omega) (by simp),KcC]
theorem aeN{ty i d:Nat}{fz:Bool}{L:List LF}(h:i<L.length):kB (some ⟨3,ty,L.map (fun f=>PV.rat f.1),fz⟩) 3 true i 0 d fr hp K=K (af fr d (PV.rat (L[i]'h).1)) hp:=by rw[tJ (by rw[KaV];exact h) (by omega) (by simp),KcC];rfl
theorem aeO{ty i d w:Nat}{fz:Bool}{L:List LF}(h:i<L.length):kB (some ⟨1,ty,L.map (fun f=>PV.wY w f.2),fz⟩) 1 false i 0 d fr hp K=K (af fr d (PV.wY w (L[i]'h).2)) hp:=by rw[aeM h];rfl
attribute [go_sem] aeN aeO
def nm1(x:Nat):Bool:=decide (x=2000000)
theorem akz:nm1 2000000=true:=decide_eq_true rfl
attribute [go_sem] akz
theorem akA{p:PV}{ps:List PV}{d:Nat}{fr:Fr}{hp:HP}{K:Qh}:kJ (.ff (p::ps)) 0 d fr hp K=K (af fr d p) hp:=rfl
theorem akB{p q:PV}{ps:List PV}{d:Nat}{fr:Fr}{hp:HP}{K:Qh}:kJ (.ff (p::q::ps)) 1 d fr hp K=K (af fr d q) hp:=rfl
attribute [go_sem] akA akB
end Go.FW
namespace Go.FW
open Go
variable {C : Ctx} {fr : Fr} {hp : HP} {w : World} {K R : Qh}
theorem akC{cs:List PV}{q:PV}{d:Nat}:kJ (.fg cs q) 0 d fr hp K=K (af fr d (.aX cs)) hp:=rfl
theorem akD{cs:List PV}{q:PV}{d:Nat}:kJ (.fg cs q) 1 d fr hp K=K (af fr d q) hp:=rfl
theorem alM{n ty d:Nat}{cs:List PV}(h:cs.length=n)(h0:0<n)(hU:cs.all PV.ik=true)(rk:cs.all (fun x=> !(x.dZ.contains (4000000+d)))=true):
  gd n ty (.aX cs) d fr hp K=K (af (af (fT (4000000+d) fr) (4000000+d) (.aN (4000000+d) n ty [.aX cs])) d (.np (4000000+d) 0 0)) (Qz hp (4000000+d) ⟨n,ty,[],false⟩):=by
 show tR n ty cs d fr hp K=_;unfold tR de;simp only[eq_iff_iff,and_iff_right_iff_imp];exact fun _=>⟨h,h0,hU,rk⟩
theorem aqn{σ:Nat->Nat}{γ e ty:Nat}{cs:List PV}:fb σ (.aN γ e ty [.aX cs])= .aN (σ γ) e ty [g8 (cs.map (dJ σ))]:=rfl
theorem alN{γ bF e ty:Nat}{cs:List PV}(h:bF≠γ):ee γ (.aN bF e ty [.aX cs])= .aN bF e ty [g8 (cs.map (fC γ))]:=by simp[ee,h,PV.bl]
theorem alO{γ e ty:Nat}{cs:List PV}{nm:Nat->Bool}:zq nm (.aN γ e ty [.aX cs])=if(γ::cs.flatMap PV.dZ).any nm then .undef else .aN γ e ty [.aX cs]:=by simp[zq,PV.refs,PV.bW,PV.bl]
attribute [go_sem] akC akD alM aqn alN alO
end Go.FW
