/- Part 7 of the proof of TriangularElements: W2, W3, CS, S1, S2, S3, S4, S5, S6, S7, S8, S9, T1, T1b, T1c, T1d, U1, U2, P4, U3, FwNG, FwNS, FwNT, FwNH, FwNI, FwNJ, FwVA, FwVB, FwVC, FwYA. Own lemmas; no conditions. -/
import Derived.Test.YtdjoomkeehihmaaGreatTriangularElementsPart6
set_option maxHeartbeats 1000000
set_option linter.unusedSimpArgs false
set_option linter.unusedVariables false
set_option linter.unnecessarySimpa false
set_option maxRecDepth 100000
namespace Go.Proofs.YtdjoomkeehihmaaGreat
open Go Go.FW
theorem Hz(v:Nat)(n:Int)(h:n=((n.toNat:Nat):Int)):(List.replicate (v+1) (0:Int)).set v n=cM v n.toNat:=by
 unfold cM;rw[<-h];induction v with
 |zero=>rfl
 |succ v ih=>rw[Kbq,List.set_cons_succ,ih];rfl
theorem Qyo{p:List Tm}{v n K E:Nat}(hp:PB K E p)(hv:v<64)(hn:n<=E)(l4:2<=K)(hE:E<=2^37)(bW:p.length<=2^30)(hK:K<=2^32):
  Qc Tryz.prog 107 [PV.aj p,.int .i64 v,.int .i64 n] (· =PV.aj (gy p v n)):=by
 have rj:v<(List.replicate (v+1) (0:Int)).length:=by simp
 have jJ:=ob;have Wf:gy p v n=if n=0 then p else Q4 p [(1,cM v n)]:=rfl
 refine Qf Qj Tryz.func107 rfl agj (by simp[I4]) fun C hP=>?_;simp only[I4,Zo,Zg,Zm,Zc,Zf,Zl,Zh,Zs,Zi,Zb,Zk,Zn,Zu,Zq,Zr,Zz];refine Sz0 ?_;refine dI (fun h1=>by omega) (fun _=>?_);refine Sz0 ?_;refine dI (fun h1=>by omega) (fun _=>?_);refine Sz0 ?_;refine Qb (fun h0=>?_) (fun h0=>?_)
 ·obtain rfl:n=0:=by omega
  refine Sz0 ?_;exact Qd rfl rfl
 refine Sz0 ?_;rw[Hz v n (by omega),KbM];have eo:(cM v n).length=v+1:=by simp[cM]
 refine Qa hP (vb (by omega) (by omega)) rfl rfl rfl ?_;generalize hc:((1:Int):Rat)=c;have oT:c=1:=hc.symm;refine Sz0 ?_;rw[Ru (p:=PV.rat c) (e:=1) (ty:=3) (fz:=false) (xs:=iP (cM v n)) rfl Tz0 (by simp[eo,iP])];have oS:PB K E [(c,cM v n)]:=fun t ht=>by
  obtain rfl:t=(c,cM v n):=by simpa using ht
  exact⟨by show rs c+1<=K;rw[oT];omega,(ID hv).mono hn,Dc (by omega)⟩
 have rk:min p.length [(c,cM v n)].length*(K+K)<=1*(K+K):=Kaf _ (by simp;omega);have nh:p.length*[(c,cM v n)].length<=p.length:=by simp
 rw[if_neg (by omega),<-oT]at Wf;refine Sz0 ?_;refine ig hP (rK hp oS hE bW (by simp) (by omega) (by omega) (by omega)) Cg rfl ?_;refine Sz0 ?_;exact Qd (by rw[Wf]) rfl
theorem Gk{f g:List Tm}{v d N K E M:Nat}(nf:au f)(ng:au g)(bg:PB K E g)(hv:v<64)(im:g≠[])(hd:Q3 g v=d)(hN:Q3 f v<N)(pV:bh f=false)
  (hb:∀k,k<N->PB K E (aD g v d f k).1/\PB K E (aD g v d f k).2) (yA:g.length<=M) (hM:M<=2^16) (hK:M*(K+K+2)+(M*(K+K+2)+(K+2))<=2^31) (l4:2<=K) (L5:1<=M) (hE:E<=2^24) (AO:0<N) (hN2:N<=2^30):
  Qc Tryz.prog 57 [PV.aj f,PV.aj g,.int .i64 v] (· =jD g v d N [] f 0):=by
 have hlen:∀ {p:List Tm},bh p=false->p.length<=4000:=fun {p} h=>by unfold bh at h;simp only[Kcf,decide_eq_false_iff_not]at h;omega
 have hKM:K+K+2<=M*(K+K+2):=by have:=Kaf (K+K+2) L5;omega
 have amG:M*(K+K)<=M*(K+K+2):=Ka7 _ (by omega);have AX:PB K E f:=(hb 0 AO).2;have Mv:∀t∈f,MB E t.2:=fun t ht=>(AX t ht).m;have anE:=hlen pV;have ff:(aW g v d).length<=M:=Kaw (qx _ _ _) yA;have iF:=qI bg v (d:Int);refine Qf Qj Tryz.func57 rfl aiJ (by simp[KX]) fun C hP=>?_;simp only[KX,Zo,Zg,Zm,Zc,Zf,Zl,Zh,Zs,Zi,Zb,Zk,Zn,Zu,Zq,Zr,Zz];simp+decide (disch:=first|omega|rfl|(simp+decide only[go_sem]<;>rfl)|fail) only[go_sem,b9,bN];refine dI (fun h1=>by omega) (fun _=>?_);simp+decide (disch:=first|omega|rfl|(simp+decide only[go_sem]<;>rfl)|fail) only[go_sem,b9,bN];refine Qb (fun h1=>by omega) (fun _=>?_);simp+decide (disch:=first|omega|rfl|(simp+decide only[go_sem]<;>rfl)|fail) only[go_sem,b9,bN];refine Qb (fun h1=>absurd (Kas.1 (by omega)) im) (fun _=>?_);simp+decide (disch:=first|omega|rfl|(simp+decide only[go_sem]<;>rfl)|fail) only[go_sem,b9,bN];refine Qa hP (Gn Mv (by omega)) rfl rfl rfl ?_;rw[pV];simp+decide (disch:=first|omega|rfl|(simp+decide only[go_sem]<;>rfl)|fail) only[go_sem,b9,bN];refine Qa hP (uR bg (by omega)) rfl rfl rfl ?_;rw[mH,hd];simp+decide (disch:=first|omega|rfl|(simp+decide only[go_sem]<;>rfl)|fail) only[go_sem,b9,bN];refine Qa hP (Gu bg (by omega)) rfl rfl rfl ?_;rw[mH];simp+decide (disch:=first|omega|rfl|(simp+decide only[go_sem]<;>rfl)|fail) only[go_sem,b9,bN];refine qK 6 4 (by simp+decide (disch:=first|omega|rfl|(simp+decide only[go_sem]<;>rfl)|fail) only[go_sem,b9,bN]) ?_;refine Qz (by repeat (first|exact Qs|exact Ql|exact Qm|exact Qn|exact Qo|apply Qk|apply Qr|apply Qw|apply Q5|apply Q6|apply Qi)) [(6,9),(12,13),(36,89)] [] (fun m J hp=>∃k,m=N-k/\k<=N/\((aD g v d f k).2≠[]->Q3 (aD g v d f k).2 v<N-k)/\(∃K' E',PB K' E' (aD g v d f k).2/\E'<=2^30)/\bh (aD g v d f k).1=false/\bh (aD g v d f k).2=false/\jD g v d (N-k) (aD g v d f k).1 (aD g v d f k).2 k=jD g v d N [] f 0/\
  J 6=PV.aj (aD g v d f k).1/\J 7=PV.aj (aD g v d f k).2/\J 8= .int .i64 (k:Nat)) N ?_ ?_
 ·refine⟨0,rfl,by omega,fun _=>by simpa[aD]using hN,⟨K,E,AX,by omega⟩,rfl,pV,rfl,?_⟩;simp+decide (disch:=first|omega|rfl|(simp+decide only[go_sem]<;>rfl)|fail) only[go_sem,b9,bN];exact⟨rfl,rfl,rfl⟩
 rintro _ J h ⟨k,rfl,hk,Mr,⟨K',E',AZ,hE'⟩,l7,gm,dw,h6,h7,h8⟩;obtain⟨n1,n2⟩:=rU (v:=v) (d:=d) nf ng k;have aG:aD g v d f (k+1)=(gA (aD g v d f k).1 (aD g v d f k).2 g v (Q3 (aD g v d f k).2 v).toNat d,dX (aD g v d f k).2 g v (Q3 (aD g v d f k).2 v).toNat d):=rfl;have Mh:=hb k;generalize(aD g v d f k).1=q at *
 generalize(aD g v d f k).2=r at *
 have sJ:=hlen l7;have lz:=hlen gm;simp+decide (disch:=first|omega|rfl|(simp+decide only[go_sem,h6,h7,h8]<;>rfl)|fail) only[go_sem,b9,bN,h6,h7,h8];refine ga (fun hg=>?_) (fun hg=>?_)
 ·have ja:r≠[]:=fun h=>by rw[h]at hg;simp at hg
  have qf:=oG AZ ja v;have anm:=Mr ja;have ME:k<N:=by omega
  obtain⟨b1,b2⟩:=Mh ME;obtain⟨n,hn⟩:∃n:Nat,Q3 r v=n:=⟨(Q3 r v).toNat,by omega⟩
  have MN:n<=E:=by have:=(oG b2 ja v).2;omega
  simp+decide (disch:=first|omega|rfl|(simp+decide only[go_sem,h6,h7,h8]<;>rfl)|fail) only[go_sem,b9,bN,h6,h7,h8];refine Qa hP (uR b2 (by omega)) rfl rfl rfl ?_;rw[mH,hn];simp+decide (disch:=first|omega|rfl|(simp+decide only[go_sem,h6,h7,h8]<;>rfl)|fail) only[go_sem,b9,bN,h6,h7,h8];refine Qb (fun hc=>?_) (fun hc=>?_)
  ·have hdn:d<=n:=by omega
   have e1:(n:Int)-(d:Int)=((n-d:Nat):Int):=by omega
   have ES:=FZ n2 ng b2 ja hd (by omega);rw[hn,KbM]at aG ES;obtain⟨q1,q2,q3,q4,q5,q6,q7,q8⟩:=OL (n:=n) (d:=d) b1 b2 bg yA hv MN;have nb:au (cZ r v n d):=rL (jO n2 v n) v (n-d);have hmr:min (aW g v d).length r.length*(K+K)<=M*(K+K):=Kaf _ (by omega);have hmq:min (aW g v d).length q.length*(K+K)<=M*(K+K):=Kaf _ (by omega);have VY:min (cZ r v n d).length g.length*(K+2+(K+2))<=M*(K+K+2)+M*2:=by
    have:=Kaf (K+2+(K+2)) (show min (cZ r v n d).length g.length<=M by omega);have e:K+2+(K+2)=K+K+2+2:=by omega
    rw[e]at this⊢;rw[<-Nat.mul_add];exact this
   have l7:(aW g v d).length*r.length<=2^16*4000:=KaJ (by omega) lz;have gm:(aW g v d).length*q.length<=2^16*4000:=KaJ (by omega) sJ;have Bj:(cZ r v n d).length*g.length<=4000*2^16:=KaJ (by omega) (by omega);have hl4:M*r.length<=2^16*4000:=KaJ (by omega) lz;have hl5:M*q.length<=2^16*4000:=KaJ (by omega) sJ;have hl6:r.length*M<=4000*2^16:=KaJ lz hM;have hB:gy (aW r v n) v (n-d)=cZ r v n d:=rfl;simp+decide (disch:=first|omega|rfl|(simp+decide only[go_sem,h6,h7,h8]<;>rfl)|fail) only[go_sem,b9,bN,h6,h7,h8];refine Qa hP (uR b2 (by omega)) rfl rfl rfl ?_;rw[mH,hn];simp+decide (disch:=first|omega|rfl|(simp+decide only[go_sem,h6,h7,h8]<;>rfl)|fail) only[go_sem,b9,bN,h6,h7,h8];refine Qa hP (Gu b2 (by omega)) rfl rfl rfl ?_;rw[mH];simp+decide (disch:=first|omega|rfl|(simp+decide only[go_sem,h6,h7,h8,e1]<;>rfl)|fail) only[go_sem,b9,bN,h6,h7,h8,e1];refine Qa hP (Qyo (E:=E) (K:=K) (qI b2 v n) hv (by omega) l4 (by omega) (by have:=qx r v n;omega) (by omega)) rfl rfl rfl ?_;rw[hB];simp+decide (disch:=first|omega|rfl|(simp+decide only[go_sem,h6,h7,h8]<;>rfl)|fail) only[go_sem,b9,bN,h6,h7,h8];refine Qa hP (rK iF b1 (by omega) (by omega) (by omega) (by omega) (by omega) (by omega)) rfl rfl rfl ?_;simp+decide (disch:=first|omega|rfl|(simp+decide only[go_sem,h6,h7,h8]<;>rfl)|fail) only[go_sem,b9,bN,h6,h7,h8];refine Qa hP (G1 (K:=M*(K+K+2)) (E:=E+E) (q3.mono (by omega) (Kac _)) (q1.mono (by omega) (Kac _)) (by omega) (by omega) (by omega) (by omega)) rfl rfl rfl ?_;rw[show Q8 (Q4 (aW g v d) q) (cZ r v n d)=gA q r g v n d from rfl];simp+decide (disch:=first|omega|rfl|(simp+decide only[go_sem,h6,h7,h8]<;>rfl)|fail) only[go_sem,b9,bN,h6,h7,h8];refine Qa hP (rK iF b2 (by omega) (by omega) (by omega) (by omega) (by omega) (by omega)) rfl rfl rfl ?_;simp+decide (disch:=first|omega|rfl|(simp+decide only[go_sem,h6,h7,h8]<;>rfl)|fail) only[go_sem,b9,bN,h6,h7,h8];refine Qa hP (rK (q1.mono (Kac _) (by omega)) (bg.mono (K':=K+2) (E':=E+E) (by omega) (by omega)) (by omega) (by omega) (by omega) (by omega) (by omega) (by omega)) rfl rfl rfl ?_;simp+decide (disch:=first|omega|rfl|(simp+decide only[go_sem,h6,h7,h8]<;>rfl)|fail) only[go_sem,b9,bN,h6,h7,h8];refine Qa hP (G2 (K:=M*(K+K+2)) (E:=E+E+E) (q5.mono (by omega) (by omega)) q7 (by omega) (by omega) (by omega) (by omega) (by omega)) rfl rfl rfl ?_;rw[show fM (Q4 (aW g v d) r) (Q4 (cZ r v n d) g)=dX r g v n d from rfl];have bQ:PB (M*(K+K)+(K+2)) (E+E) (gA q r g v n d):=tE _ _ q3 q1;have lQ:(gA q r g v n d).length<=2^33:=Kaw (s9 _ _) (by omega);have bR:PB (M*(K+K)+(M*(K+K+2)+2)) (E+E+E) (dX r g v n d):=tE _ _ (q5.mono (Kac _) (by omega)) (xA q7);have lR:(dX r g v n d).length<=2^33:=Kaw (s9 _ _) (by have:=uU (Q4 (cZ r v n d) g) (-1);have e:(kZ (Q4 (cZ r v n d) g)).length=(b8 (Q4 (cZ r v n d) g) (-1)).length:=rfl;omega);have rp:¬(r=[]∨Q3 r v<d):=fun h=>h.elim ja (fun h=>by omega);have fD:=G7 (g:=g) (k:=k) (q:=q) (fuel:=N-(k+1)) rp;have gl:=GH (g:=g) (k:=k) (q:=q) (fuel:=N-(k+1)) rp;rw[show N-(k+1)+1=N-k by omega,hn,KbM,dw]at fD gl;generalize gA q r g v n d=q' at *
   generalize dX r g v n d=r' at *
   simp+decide (disch:=first|omega|rfl|(simp+decide only[go_sem,h6,h7,h8]<;>rfl)|fail) only[go_sem,b9,bN,h6,h7,h8];refine Qa hP (Gn (fun t ht=>(bQ t ht).m) (by omega)) rfl rfl rfl ?_;cases ir:bh q'
   ·simp+decide (disch:=first|omega|rfl|(simp+decide only[go_sem,h6,h7,h8]<;>rfl)|fail) only[go_sem,b9,bN,h6,h7,h8];refine Qa hP (Gn (fun t ht=>(bR t ht).m) (by omega)) rfl rfl rfl ?_;cases rj:bh r'
    ·simp+decide (disch:=first|omega|rfl|(simp+decide only[go_sem,h6,h7,h8]<;>rfl)|fail) only[go_sem,b9,bN,h6,h7,h8];refine Qa hP (uR bR (by omega)) rfl rfl rfl ?_;rw[mH];have Mp:=fD (by simp[ir,rj]);have fX:¬((n:Int)<=Q3 r' v):=by omega
     simp+decide (disch:=first|omega|rfl|(simp+decide only[go_sem,h6,h7,h8,fX]<;>rfl)|fail) only[go_sem,b9,bN,h6,h7,h8,fX];refine Qh (N-(k+1)) (by omega) ⟨k+1,rfl,by omega,?_⟩;rw[aG];refine⟨fun _=>?_,⟨_,_,bR,by omega⟩,ir,rj,Mp.symm,?_⟩
     ·show Q3 r' v<(N:Int)-((k+1:Nat):Int)
      omega
     simp+decide (disch:=first|omega|rfl|(simp+decide only[go_sem]<;>rfl)|fail) only[go_sem,b9,bN]
    ·have v3:=gl (.inr rj);simp+decide (disch:=first|omega|rfl|(simp+decide only[go_sem]<;>rfl)|fail) only[go_sem,b9,bN];exact tR v3 rfl rfl rfl rfl pF pF (Qx _) (Qx _)
   ·have v3:=gl (.inl ir);simp+decide (disch:=first|omega|rfl|(simp+decide only[go_sem]<;>rfl)|fail) only[go_sem,b9,bN];exact tR v3 rfl rfl rfl rfl pF pF (Qx _) (Qx _)
  ·have fD:=zq (g:=g) (q:=q) (k:=k) (show r=[]∨Q3 r v<d from .inr (by omega)) (N-k);rw[dw]at fD;simp+decide (disch:=first|omega|rfl|(simp+decide only[go_sem,h6,h7,h8]<;>rfl)|fail) only[go_sem,b9,bN,h6,h7,h8];exact tR fD rfl rfl rfl rfl (Qx _) (Qx _) (Qx _) (Qx _)
 ·have ja:r=[]:=Kas.1 (by omega);have fD:=zq (g:=g) (q:=q) (k:=k) (show r=[]∨Q3 r v<d from .inl ja) (N-k);rw[dw]at fD;simp+decide (disch:=first|omega|rfl|(simp+decide only[go_sem,h6,h7,h8]<;>rfl)|fail) only[go_sem,b9,bN,h6,h7,h8];exact tR fD rfl rfl rfl rfl (Qx _) (Qx _) (Qx _) (Qx _)
def Js:aA:=⟨24,[.t 2],Zr (Zo (.mv 2 (.c .aa)) .nil)<|Zr (Zm 5 0<|Zn 6 5<|Zm 3 6 .nil)<| .seq (.block 0<| .loop<| .seq (Zr (Zm 7 3<|Zk 8 .gtr 7 0<|Zm 9 8<|Zg 9 true (.mv 10 (.t 0))<|Zg 9 true (.mv 11 (.t 3))<|Zg 9 true (.bin 12 .sub false (.t 11) (.c (Zz 1)))<|Zg 9 true (.idx 13 1 (.t 10) (.t 12))<|Zg 9 true (.ld 14 1 false (.t 13))<|Zg 9 true (.bin 15 .eql false (.t 14) (.c (.int .u16 0)))<|Zo (.pick 16 (.t 9) (.t 15) (.c (.bool false))) .nil)<| .cond (.t 16) .skip (.exit 0))<| .block 1<| .rg (Zm 17 3<|Zk 18 .sub 17 1<|Zm 3 18 .nil))<|Zr (Zo (.mv 4 (.c .aa)) .nil)<|Zr (Zm 19 4<|Zm 20 0<|Zm 21 3<|Zo (.sl 22 1 (.t 20) none (some (.t 21)) none)<|Zo (.app 23 1 2 76 (.t 19) (.t 22))<|Zm 2 23 .nil) .ret⟩
theorem agt:Qe Tryz.prog Tryz.f131=some Js:=by kernel_rfl
def Le:aA:=⟨15,[.t 2],Zr (Zo (.mv 2 (.c .aa)) .nil)<|Zr (Zo (.mv 3 (.c .aa)) .nil)<| .seq (.block 0<| .loop<| .seq (Zr (Zm 4 0<|Zo (.bin 5 .gtr false (.t 4) (.c (.int .u64 0))) .nil)<| .cond (.t 5) .skip (.exit 0))<| .block 1<|Zr (Zm 6 3<|Zm 7 0<|Zo (.bin 8 .rem false (.t 7) (.c (.int .u64 65536)))<|Zo (.conv 9 .u16 (.t 8))<|Zo (.bs 10 1 76 [.t 9])<|Zo (.app 11 1 2 76 (.t 6) (.t 10))<|Zm 3 11 .nil)<| .rg (Zm 12 0<|Zo (.bin 13 .quo false (.t 12) (.c (.int .u64 65536)))<|Zm 0 13 .nil))<|Zr (Zm 14 3<|Zm 2 14 .nil) .ret⟩
theorem ajs:Qe Tryz.prog Tryz.f74=some Le:=by kernel_rfl
def JY:aA:=⟨21,[.t 2],Zr (Zo (.mv 2 (.c (.int .u64 0))) .nil)<|Zr (Zo (.mv 3 (.c (.int .u64 0))) .nil)<| .seq (Zr (Zm 5 0<|Zn 6 5<|Zk 7 .sub 6 1<|Zm 4 7 .nil)<| .block 0<| .loop<| .seq (Zr (Zm 8 4<|Zk 9 .geq 8 0 .nil)<| .cond (.t 9) .skip (.exit 0))<| .seq (.block 1<| .rg (Zm 12 3<|Zo (.bin 13 .mul false (.t 12) (.c (.int .u64 65536)))<|Zm 14 0<|Zm 15 4<|Zi 16 1 14 15<|Zl 17 1 16<|Zo (.conv 18 .u64 (.t 17))<|Zb 19 .add 13 18<|Zm 3 19 .nil))<| .rg (Zm 10 4<|Zk 11 .sub 10 1<|Zm 4 11 .nil))<|Zr (Zm 20 3<|Zm 2 20 .nil) .ret⟩
theorem agu:Qe Tryz.prog Tryz.f164=some JY:=by kernel_rfl
def JN:aA:=⟨14,[.t 4],Zr (Zc 4 0 .nil)<| .seq (Zr (Zm 5 1<|Zm 6 0<|Zn 7 6<|Zb 8 .lss 5 7 .nil)<| .cond (.t 8) (Zr (Zm 9 0<|Zm 10 1<|Zi 11 1 9 10<|Zl 12 1 11<|Zo (.conv 13 .i64 (.t 12))<|Zm 4 13 .nil) .ret) .skip)<|Zr (Zc 4 0 .nil) .ret⟩
theorem afU:Qe Tryz.prog Tryz.f153=some JN:=by kernel_rfl
def J7:aA:=⟨30,[.t 4],Zr (Zc 4 0 .nil)<| .seq (Zr (Zm 6 0<|Zn 7 6<|Zm 8 1<|Zn 9 8<|Zo (.mx 10 (.t 7) (.t 9))<|Zk 11 .sub 10 1<|Zm 5 11 .nil)<| .block 0<| .loop<| .seq (Zr (Zm 12 5<|Zk 13 .geq 12 0 .nil)<| .cond (.t 13) .skip (.exit 0))<| .seq (.block 1<| .seq (Zr (Zm 16 0<|Zm 17 5<|Zq 18 false 153 [.t 16,.t 17]<|Zm 19 1<|Zm 20 5<|Zq 21 false 153 [.t 19,.t 20]<|Zb 22 .lss 18 21 .nil)<| .cond (.t 22) (Zr (Zc 4 (-1) .nil) .ret) .skip)<|Zr (Zm 23 0<|Zm 24 5<|Zq 25 false 153 [.t 23,.t 24]<|Zm 26 1<|Zm 27 5<|Zq 28 false 153 [.t 26,.t 27]<|Zb 29 .gtr 25 28 .nil)<| .cond (.t 29) (Zr (Zc 4 1 .nil) .ret) .skip)<| .rg (Zm 14 5<|Zk 15 .sub 14 1<|Zm 5 15 .nil))<|Zr (Zc 4 0 .nil) .ret⟩
theorem afV:Qe Tryz.prog Tryz.f169=some J7:=by kernel_rfl
def Jv:aA:=⟨44,[.t 4],Zr (Zo (.mv 4 (.c .aa)) .nil)<|Zr (Zo (.mv 5 (.c .aa)) .nil)<|Zr (Zc 6 0 .nil)<| .seq (Zr (Zc 7 0 .nil)<| .block 0<| .loop<| .seq (Zr (Zm 9 7<|Zm 10 0<|Zn 11 10<|Zb 12 .lss 9 11<|Zm 13 12<|Zg 13 false (.mv 14 (.t 7))<|Zg 13 false (.mv 15 (.t 1))<|Zg 13 false (.len 16 (.t 15))<|Zg 13 false (.bin 17 .lss false (.t 14) (.t 16))<|Zo (.pick 18 (.t 13) (.c (.bool true)) (.t 17))<|Zm 19 18<|Zg 19 false (.mv 20 (.t 6))<|Zg 19 false (.bin 21 .gtr false (.t 20) (.c (Zz 0)))<|Zo (.pick 22 (.t 19) (.c (.bool true)) (.t 21)) .nil)<| .cond (.t 22) .skip (.exit 0))<| .seq (.block 1<|Zr (Zm 25 0<|Zm 26 7<|Zq 27 false 153 [.t 25,.t 26]<|Zm 28 1<|Zm 29 7<|Zq 30 false 153 [.t 28,.t 29]<|Zb 31 .add 27 30<|Zm 32 6<|Zb 33 .add 31 32<|Zm 8 33 .nil)<|Zr (Zm 34 5<|Zm 35 8<|Zk 36 .rem 35 65536<|Zo (.conv 37 .u16 (.t 36))<|Zo (.bs 38 1 76 [.t 37])<|Zo (.app 39 1 2 76 (.t 34) (.t 38))<|Zm 5 39 .nil)<| .rg (Zm 40 8<|Zk 41 .quo 40 65536<|Zm 6 41 .nil))<| .rg (Zm 23 7<|Zk 24 .add 23 1<|Zm 7 24 .nil))<|Zr (Zm 42 5<|Zq 43 false 131 [.t 42]<|Zm 4 43 .nil) .ret⟩
theorem afW:Qe Tryz.prog Tryz.f134=some Jv:=by kernel_rfl
def JM:aA:=⟨40,[.t 4,.t 5],Zr (Zo (.mv 4 (.c .aa))<|Zc 5 0 .nil)<| .seq (Zr (Zm 10 0<|Zm 11 1<|Zq 12 false 169 [.t 10,.t 11]<|Zk 13 .lss 12 0 .nil)<| .cond (.t 13) (Zr (Zo (.mv 4 (.c .aa))<|Zc 5 2 .nil) .ret) .skip)<|Zr (Zo (.mv 6 (.c .aa)) .nil)<|Zr (Zc 7 0 .nil)<| .seq (Zr (Zc 8 0 .nil)<| .block 0<| .loop<| .seq (Zr (Zm 14 8<|Zm 15 0<|Zn 16 15<|Zb 17 .lss 14 16 .nil)<| .cond (.t 17) .skip (.exit 0))<| .seq (.block 1<|Zr (Zm 20 0<|Zm 21 8<|Zq 22 false 153 [.t 20,.t 21]<|Zm 23 1<|Zm 24 8<|Zq 25 false 153 [.t 23,.t 24]<|Zb 26 .sub 22 25<|Zm 27 7<|Zb 28 .sub 26 27<|Zm 9 28 .nil)<|Zr (Zc 7 0 .nil)<| .seq (Zr (Zm 29 9<|Zk 30 .lss 29 0 .nil)<| .cond (.t 30) (Zr (Zm 31 9<|Zk 32 .add 31 65536<|Zm 9 32 .nil)<| .rg (Zc 7 1 .nil)) .skip)<| .rg (Zm 33 6<|Zm 34 9<|Zo (.conv 35 .u16 (.t 34))<|Zo (.bs 36 1 76 [.t 35])<|Zo (.app 37 1 2 76 (.t 33) (.t 36))<|Zm 6 37 .nil))<| .rg (Zm 18 8<|Zk 19 .add 18 1<|Zm 8 19 .nil))<|Zr (Zm 38 6<|Zq 39 false 131 [.t 38]<|Zm 4 39<|Zc 5 0 .nil) .ret⟩
theorem afX:Qe Tryz.prog Tryz.f152=some JM:=by kernel_rfl
def I0:aA:=⟨65,[.t 4],Zr (Zo (.mv 4 (.c .aa)) .nil)<|Zr (Zm 10 0<|Zn 11 10<|Zm 12 1<|Zn 13 12<|Zb 14 .add 11 13<|Zk 15 .add 14 1<|Zo (.mk 16 1 2 76 (.int .u16 0) (.t 15) (.t 15))<|Zm 5 16 .nil)<| .seq (Zr (Zc 6 0 .nil)<| .block 0<| .loop<| .seq (Zr (Zm 17 6<|Zm 18 0<|Zn 19 18<|Zb 20 .lss 17 19 .nil)<| .cond (.t 20) .skip (.exit 0))<| .seq (.block 1<|Zr (Zo (.mv 7 (.c (.int .u64 0))) .nil)<|Zr (Zc 8 0 .nil)<| .block 2<| .loop<| .seq (Zr (Zm 23 8<|Zm 24 1<|Zn 25 24<|Zb 26 .lss 23 25<|Zm 27 26<|Zg 27 false (.mv 28 (.t 7))<|Zg 27 false (.bin 29 .gtr false (.t 28) (.c (.int .u64 0)))<|Zo (.pick 30 (.t 27) (.c (.bool true)) (.t 29)) .nil)<| .cond (.t 30) .skip (.exit 2))<| .seq (.block 3<|Zr (Zm 33 5<|Zm 34 6<|Zm 35 8<|Zb 36 .add 34 35<|Zi 37 1 33 36<|Zl 38 1 37<|Zo (.conv 39 .u64 (.t 38))<|Zm 40 0<|Zm 41 6<|Zi 42 1 40 41<|Zl 43 1 42<|Zo (.conv 44 .u64 (.t 43))<|Zm 45 1<|Zm 46 8<|Zm 51 7<|Zq 47 true 153 [.t 45,.t 46]<|Zo (.conv 48 .u64 (.t 47))<|Zb 49 .mul 44 48<|Zb 50 .add 39 49<|Zb 52 .add 50 51<|Zm 9 52 .nil)<|Zr (Zm 53 5<|Zm 54 6<|Zm 55 8<|Zb 56 .add 54 55<|Zm 57 9<|Zo (.bin 58 .rem false (.t 57) (.c (.int .u64 65536)))<|Zo (.conv 59 .u16 (.t 58))<|Zi 60 1 53 56<|Zs 1 60 59 .nil)<| .rg (Zm 61 9<|Zo (.bin 62 .quo false (.t 61) (.c (.int .u64 65536)))<|Zm 7 62 .nil))<| .rg (Zm 31 8<|Zk 32 .add 31 1<|Zm 8 32 .nil))<| .rg (Zm 21 6<|Zk 22 .add 21 1<|Zm 6 22 .nil))<|Zr (Zm 63 5<|Zq 64 false 131 [.t 63]<|Zm 4 64 .nil) .ret⟩
theorem afY:Qe Tryz.prog Tryz.f103=some I0:=by kernel_rfl
def JZ:aA:=⟨27,[.t 4],Zr (Zo (.mv 4 (.c (.int .u64 0))) .nil)<|Zr (Zo (.mv 5 (.c (.int .u64 0)))<|Zo (.mv 6 (.c (.int .u64 65535))) .nil)<| .seq (.block 0<| .loop<| .seq (Zr (Zm 8 5<|Zm 9 6<|Zb 10 .lss 8 9 .nil)<| .cond (.t 10) .skip (.exit 0))<| .block 1<|Zr (Zm 11 5<|Zm 12 6<|Zb 13 .add 11 12<|Zo (.bin 14 .add false (.t 13) (.c (.int .u64 1)))<|Zo (.bin 15 .quo false (.t 14) (.c (.int .u64 2)))<|Zm 7 15 .nil)<|Zr (Zm 16 1<|Zm 17 7<|Zq 18 false 74 [.t 17]<|Zq 19 false 103 [.t 16,.t 18]<|Zm 20 0<|Zq 21 false 169 [.t 19,.t 20]<|Zk 22 .leq 21 0 .nil)<| .cond (.t 22) (.rg (Zm 23 7<|Zm 5 23 .nil)) (.rg (Zm 24 7<|Zo (.bin 25 .sub false (.t 24) (.c (.int .u64 1)))<|Zm 6 25 .nil)))<|Zr (Zm 26 5<|Zm 4 26 .nil) .ret⟩
theorem afZ:Qe Tryz.prog Tryz.f165=some JZ:=by kernel_rfl
def Jp:aA:=⟨73,[.t 4,.t 5,.t 6],Zr (Zo (.mv 4 (.c .aa))<|Zo (.mv 5 (.c .aa))<|Zc 6 0 .nil)<|Zr (Zm 11 0<|Zq 12 false 131 [.t 11]<|Zm 13 1<|Zq 14 false 131 [.t 13]<|Zm 0 12<|Zm 1 14 .nil)<| .seq (Zr (Zm 15 1<|Zn 16 15<|Zk 17 .eql 16 0 .nil)<| .cond (.t 17) (Zr (Zo (.mv 4 (.c .aa))<|Zo (.mv 5 (.c .aa))<|Zc 6 3 .nil) .ret) .skip)<| .seq (Zr (Zm 18 0<|Zn 19 18<|Zk 20 .leq 19 4<|Zm 21 20<|Zg 21 true (.mv 22 (.t 1))<|Zg 21 true (.len 23 (.t 22))<|Zg 21 true (.bin 24 .leq false (.t 23) (.c (Zz 4)))<|Zo (.pick 25 (.t 21) (.t 24) (.c (.bool false))) .nil)<| .cond (.t 25) (Zr (Zm 26 0<|Zq 27 false 164 [.t 26]<|Zm 28 1<|Zq 29 false 164 [.t 28]<|Zb 30 .quo 27 29<|Zq 31 false 74 [.t 30]<|Zm 32 0<|Zq 33 false 164 [.t 32]<|Zm 34 1<|Zq 35 false 164 [.t 34]<|Zb 36 .rem 33 35<|Zq 37 false 74 [.t 36]<|Zm 4 31<|Zm 5 37<|Zc 6 0 .nil) .ret) .skip)<|Zr (Zo (.mv 7 (.c .aa))<|Zo (.mv 8 (.c .aa)) .nil)<| .seq (Zr (Zm 38 0<|Zn 39 38<|Zk 40 .sub 39 1<|Zm 9 40 .nil)<| .block 0<| .loop<| .seq (Zr (Zm 41 9<|Zk 42 .geq 41 0 .nil)<| .cond (.t 42) .skip (.exit 0))<| .seq (.block 1<|Zr (Zm 45 0<|Zm 46 9<|Zi 47 1 45 46<|Zl 48 1 47<|Zo (.bs 49 1 76 [.t 48])<|Zm 50 8<|Zo (.app 51 1 2 76 (.t 49) (.t 50))<|Zq 52 false 131 [.t 51]<|Zm 8 52 .nil)<|Zr (Zm 53 8<|Zm 54 1<|Zq 55 false 165 [.t 53,.t 54]<|Zm 10 55 .nil)<|Zr (Zm 56 10<|Zo (.conv 57 .u16 (.t 56))<|Zo (.bs 58 1 76 [.t 57])<|Zm 59 7<|Zo (.app 60 1 2 76 (.t 58) (.t 59))<|Zm 7 60 .nil)<| .rg (Zm 62 8<|Zm 63 1<|Zm 64 10<|Zq 65 false 74 [.t 64]<|Zq 66 false 103 [.t 63,.t 65]<|Zq 67 false 152 [.t 62,.t 66]<|Zm 61 67<|Zo (.ext 68 (.t 61) 0)<|Zo (.ext 69 (.t 61) 1)<|Zm 8 68 .nil))<| .rg (Zm 43 9<|Zk 44 .sub 43 1<|Zm 9 44 .nil))<|Zr (Zm 70 7<|Zq 71 false 131 [.t 70]<|Zm 72 8<|Zm 4 71<|Zm 5 72<|Zc 6 0 .nil) .ret⟩
theorem af0:Qe Tryz.prog Tryz.f129=some Jp:=by kernel_rfl
def Jo:aA:=⟨25,[.t 4],Zr (Zo (.mv 4 (.c .aa)) .nil)<|Zr (Zm 8 0<|Zq 9 false 131 [.t 8]<|Zm 10 1<|Zq 11 false 131 [.t 10]<|Zm 0 9<|Zm 1 11 .nil)<| .seq (.block 0<| .loop<| .seq (Zr (Zm 12 1<|Zn 13 12<|Zk 14 .gtr 13 0 .nil)<| .cond (.t 14) .skip (.exit 0))<| .block 1<|Zr (Zm 16 0<|Zm 17 1<|Zq 18 false 129 [.t 16,.t 17]<|Zm 15 18<|Zo (.ext 19 (.t 15) 0)<|Zo (.ext 20 (.t 15) 1)<|Zo (.ext 21 (.t 15) 2)<|Zm 5 19<|Zm 6 20<|Zm 7 21 .nil)<| .rg (Zm 22 1<|Zm 23 6<|Zm 0 22<|Zm 1 23 .nil))<|Zr (Zm 24 0<|Zm 4 24 .nil) .ret⟩
theorem af1:Qe Tryz.prog Tryz.f128=some Jo:=by kernel_rfl
def JC:aA:=⟨15,[.t 2],Zr (Zo (.mv 2 (.c (.bool false))) .nil)<|Zr (Zm 3 0<|Zn 4 3<|Zk 5 .eql 4 0<|Zm 6 5<|Zg 6 false (.mv 7 (.t 0))<|Zg 6 false (.mv 8 (.t 0))<|Zg 6 false (.len 9 (.t 8))<|Zg 6 false (.bin 10 .sub false (.t 9) (.c (Zz 1)))<|Zg 6 false (.idx 11 1 (.t 7) (.t 10))<|Zg 6 false (.ld 12 1 false (.t 11))<|Zg 6 false (.bin 13 .neq false (.t 12) (.c (.int .u16 0)))<|Zo (.pick 14 (.t 6) (.c (.bool true)) (.t 13))<|Zm 2 14 .nil) .ret⟩
theorem af2:Qe Tryz.prog Tryz.f140=some JC:=by kernel_rfl
def JD:aA:=⟨26,[.t 4],Zr (Zo (.mv 4 (.c (.bool false))) .nil)<| .seq (Zr (Zm 6 0<|Zn 7 6<|Zm 8 1<|Zn 9 8<|Zb 10 .neq 7 9 .nil)<| .cond (.t 10) (Zr (Zo (.mv 4 (.c (.bool false))) .nil) .ret) .skip)<| .seq (Zr (Zc 5 0 .nil)<| .block 0<| .loop<| .seq (Zr (Zm 11 5<|Zm 12 0<|Zn 13 12<|Zb 14 .lss 11 13 .nil)<| .cond (.t 14) .skip (.exit 0))<| .seq (.block 1<|Zr (Zm 17 0<|Zm 18 5<|Zi 19 1 17 18<|Zl 20 1 19<|Zm 21 1<|Zm 22 5<|Zi 23 1 21 22<|Zl 24 1 23<|Zb 25 .neq 20 24 .nil)<| .cond (.t 25) (Zr (Zo (.mv 4 (.c (.bool false))) .nil) .ret) .skip)<| .rg (Zm 15 5<|Zk 16 .add 15 1<|Zm 5 16 .nil))<|Zr (Zo (.mv 4 (.c (.bool true))) .nil) .ret⟩
theorem af3:Qe Tryz.prog Tryz.f141=some JD:=by kernel_rfl
def JA:aA:=⟨17,[.t 2],Zr (Zo (.box 1 2 41 (.t 0))<|Zo (.mv 2 (.c (.bool false))) .nil)<|Zr (Zf 3 1 1<|Zl 4 1 3<|Zq 5 false 140 [.t 4]<|Zm 6 5<|Zg 6 true (.cE 7 0 (.t 1))<|Zg 6 true (.ld 8 1 false (.t 7))<|Zg 6 true (.mv 9 (.t 8))<|Zg 9 true (.cE 10 1 (.t 1))<|Zg 9 true (.ld 11 1 false (.t 10))<|Zg 9 true (.len 12 (.t 11))<|Zg 9 true (.bin 13 .eql false (.t 12) (.c (Zz 0)))<|Zg 6 true (.pick 14 (.t 9) (.t 13) (.c (.bool false)))<|Zg 6 true (.un 15 .not (.t 14))<|Zo (.pick 16 (.t 6) (.t 15) (.c (.bool false)))<|Zm 2 16 .nil) .ret⟩
theorem agF:Qe Tryz.prog Tryz.f139=some JA:=by kernel_rfl
def Ju:aA:=⟨15,[.cell 4 2 true],Zr (Zo (.alloc 4 2 41 (.agg [.bool false,.aa])) .nil)<|Zr (Zm 5 1<|Zq 6 false 131 [.t 5]<|Zm 1 6 .nil)<|Zr (Zm 7 0<|Zm 8 7<|Zg 8 true (.mv 9 (.t 1))<|Zg 8 true (.len 10 (.t 9))<|Zg 8 true (.bin 11 .gtr false (.t 10) (.c (Zz 0)))<|Zo (.pick 12 (.t 8) (.t 11) (.c (.bool false)))<|Zm 13 1<|Zo (.bU 14 [.bool false,.aa] [(0,1,.t 12),(1,1,.t 13)])<|Zs 2 4 14 .nil) .ret⟩
theorem agG:Qe Tryz.prog Tryz.f133=some Ju:=by kernel_rfl
def Jt:aA:=⟨8,[.cell 2 2 true],Zr (Zo (.box 1 2 41 (.t 0))<|Zo (.alloc 2 2 41 (.agg [.bool false,.aa])) .nil)<|Zr (Zf 3 0 1<|Zl 4 1 3<|Zf 5 1 1<|Zl 6 1 5<|Zq 7 false 133 [.t 4,.t 6]<|Zs 2 2 7 .nil) .ret⟩
theorem agH:Qe Tryz.prog Tryz.f132=some Jt:=by kernel_rfl
def Ld:aA:=⟨17,[.cell 2 2 true],Zr (Zo (.alloc 2 2 41 (.agg [.bool false,.aa])) .nil)<| .seq (Zr (Zm 3 0<|Zk 4 .lss 3 0 .nil)<| .cond (.t 4) (Zr (Zm 5 0<|Zk 6 .add 5 1<|Zo (.un 7 .neg (.t 6))<|Zo (.conv 8 .u64 (.t 7))<|Zq 9 false 74 [.t 8]<|Zq 10 false 74 [.c (.int .u64 1)]<|Zq 11 false 134 [.t 9,.t 10]<|Zq 12 false 133 [.c (.bool true),.t 11]<|Zs 2 2 12 .nil) .ret) .skip)<|Zr (Zm 13 0<|Zo (.conv 14 .u64 (.t 13))<|Zq 15 false 74 [.t 14]<|Zq 16 false 133 [.c (.bool false),.t 15]<|Zs 2 2 16 .nil) .ret⟩
theorem ajt:Qe Tryz.prog Tryz.f73=some Ld:=by kernel_rfl
def I1:aA:=⟨11,[.t 2],Zr (Zo (.box 1 2 41 (.t 0))<|Zc 2 0 .nil)<|Zr (Zh 3 2 1<|Zq 4 false 132 [.t 3]<|Zs 2 1 4 .nil)<| .seq (Zr (Zf 5 1 1<|Zl 6 1 5<|Zn 7 6<|Zk 8 .eql 7 0 .nil)<| .cond (.t 8) (Zr (Zc 2 0 .nil) .ret) .skip)<| .seq (Zr (Zf 9 0 1<|Zl 10 1 9 .nil)<| .cond (.t 10) (Zr (Zc 2 (-1) .nil) .ret) .skip)<|Zr (Zc 2 1 .nil) .ret⟩
theorem agI:Qe Tryz.prog Tryz.f104=some I1:=by kernel_rfl
def Jz:aA:=⟨38,[.t 4],Zr (Zo (.box 2 2 41 (.t 0))<|Zo (.box 3 2 41 (.t 1))<|Zc 4 0 .nil)<|Zr (Zh 5 2 2<|Zh 7 2 3<|Zq 6 true 132 [.t 5]<|Zq 8 true 132 [.t 7]<|Zs 2 2 6<|Zs 2 3 8 .nil)<| .seq (.block 0<|Zr (Zf 10 0 2<|Zl 11 1 10<|Zm 12 11<|Zg 12 true (.cE 13 0 (.t 3))<|Zg 12 true (.ld 14 1 false (.t 13))<|Zg 12 true (.un 15 .not (.t 14))<|Zo (.pick 16 (.t 12) (.t 15) (.c (.bool false)))<|Zm 9 16 .nil)<| .cond (.t 9) (Zr (Zc 4 (-1) .nil) .ret) (Zr (Zf 18 0 3<|Zl 19 1 18<|Zm 20 19<|Zg 20 true (.cE 21 0 (.t 2))<|Zg 20 true (.ld 22 1 false (.t 21))<|Zg 20 true (.un 23 .not (.t 22))<|Zo (.pick 24 (.t 20) (.t 23) (.c (.bool false)))<|Zm 17 24 .nil)<| .cond (.t 17) (Zr (Zc 4 1 .nil) .ret) (Zr (Zf 26 0 2<|Zl 27 1 26<|Zm 25 27 .nil)<| .cond (.t 25) (Zr (Zf 28 1 3<|Zl 29 1 28<|Zf 30 1 2<|Zl 31 1 30<|Zq 32 false 169 [.t 29,.t 31]<|Zm 4 32 .nil) .ret) .skip)))<|Zr (Zf 33 1 2<|Zl 34 1 33<|Zf 35 1 3<|Zl 36 1 35<|Zq 37 false 169 [.t 34,.t 36]<|Zm 4 37 .nil) .ret⟩
theorem agJ:Qe Tryz.prog Tryz.f138=some Jz:=by kernel_rfl
def J4:aA:=⟨9,[.cell 2 2 true],Zr (Zo (.box 1 2 41 (.t 0))<|Zo (.alloc 2 2 41 (.agg [.bool false,.aa])) .nil)<|Zr (Zf 3 0 1<|Zl 4 1 3<|Zu 5 4<|Zf 6 1 1<|Zl 7 1 6<|Zq 8 false 133 [.t 5,.t 7]<|Zs 2 2 8 .nil) .ret⟩
theorem agK:Qe Tryz.prog Tryz.f166=some J4:=by kernel_rfl
def IX:aA:=⟨48,[.cell 4 2 true],Zr (Zo (.box 2 2 41 (.t 0))<|Zo (.box 3 2 41 (.t 1))<|Zo (.alloc 4 2 41 (.agg [.bool false,.aa])) .nil)<| .seq (Zr (Zf 9 0 2<|Zl 10 1 9<|Zf 11 0 3<|Zl 12 1 11<|Zo (.bin 13 .eql true (.t 10) (.t 12)) .nil)<| .cond (.t 13) (Zr (Zf 14 0 2<|Zl 15 1 14<|Zf 16 1 2<|Zl 17 1 16<|Zf 18 1 3<|Zl 19 1 18<|Zq 20 true 134 [.t 17,.t 19]<|Zq 21 true 133 [.t 15,.t 20]<|Zs 2 4 21 .nil) .ret) .skip)<| .seq (Zr (Zf 23 1 2<|Zl 24 1 23<|Zf 25 1 3<|Zl 26 1 25<|Zq 27 false 152 [.t 24,.t 26]<|Zm 22 27<|Zo (.ext 28 (.t 22) 0)<|Zo (.ext 29 (.t 22) 1)<|Zm 5 28<|Zm 6 29 .nil)<|Zr (Zm 30 6<|Zk 31 .eql 30 0 .nil)<| .cond (.t 31) (Zr (Zf 32 0 2<|Zl 33 1 32<|Zm 34 5<|Zq 35 false 133 [.t 33,.t 34]<|Zs 2 4 35 .nil) .ret) .skip)<|Zr (Zf 37 1 3<|Zl 38 1 37<|Zf 39 1 2<|Zl 40 1 39<|Zq 41 false 152 [.t 38,.t 40]<|Zm 36 41<|Zo (.ext 42 (.t 36) 0)<|Zo (.ext 43 (.t 36) 1)<|Zm 7 42<|Zm 8 43 .nil)<|Zr (Zf 44 0 3<|Zl 45 1 44<|Zm 46 7<|Zq 47 false 133 [.t 45,.t 46]<|Zs 2 4 47 .nil) .ret⟩
theorem agL:Qe Tryz.prog Tryz.f100=some IX:=by kernel_rfl
def IY:aA:=⟨16,[.cell 4 2 true],Zr (Zo (.box 2 2 41 (.t 0))<|Zo (.box 3 2 41 (.t 1))<|Zo (.alloc 4 2 41 (.agg [.bool false,.aa])) .nil)<|Zr (Zf 5 0 2<|Zl 6 1 5<|Zf 7 0 3<|Zl 8 1 7<|Zo (.bin 9 .neq true (.t 6) (.t 8))<|Zf 10 1 2<|Zl 11 1 10<|Zf 12 1 3<|Zl 13 1 12<|Zq 14 true 103 [.t 11,.t 13]<|Zq 15 true 133 [.t 9,.t 14]<|Zs 2 4 15 .nil) .ret⟩
theorem agM:Qe Tryz.prog Tryz.f101=some IY:=by kernel_rfl
def Ln:aA:=⟨27,[.t 2],Zr (Zo (.box 1 3 43 (.t 0))<|Zo (.mv 2 (.c (.bool false))) .nil)<|Zr (Zf 3 0 1<|Zh 4 2 3<|Zq 5 false 139 [.t 4]<|Zm 6 5<|Zg 6 true (.cE 7 2 (.t 1))<|Zg 6 true (.ld 8 1 false (.t 7))<|Zg 6 true (.call (some 9) false (.c (.fn 140 [] [])) [.t 8])<|Zo (.pick 10 (.t 6) (.t 9) (.c (.bool false)))<|Zm 11 10<|Zg 11 true (.cE 12 0 (.t 1))<|Zg 11 true (.cE 13 1 (.t 12))<|Zg 11 true (.ld 14 1 false (.t 13))<|Zg 11 true (.cE 15 2 (.t 1))<|Zg 11 true (.ld 16 1 false (.t 15))<|Zg 11 true (.call (some 17) false (.c (.fn 128 [] [])) [.t 14,.t 16])<|Zg 11 true (.call (some 18) false (.c (.fn 74 [] [])) [.c (.int .u64 1)])<|Zg 11 true (.call (some 19) false (.c (.fn 141 [] [])) [.t 17,.t 18])<|Zo (.pick 20 (.t 11) (.t 19) (.c (.bool false)))<|Zm 21 20<|Zg 21 true (.cE 22 2 (.t 1))<|Zg 21 true (.ld 23 1 false (.t 22))<|Zg 21 true (.len 24 (.t 23))<|Zg 21 true (.bin 25 .gtr false (.t 24) (.c (Zz 0)))<|Zo (.pick 26 (.t 21) (.t 25) (.c (.bool false)))<|Zm 2 26 .nil) .ret⟩
theorem aju:Qe Tryz.prog Tryz.f82=some Ln:=by kernel_rfl
def Lc:aA:=⟨44,[.cell 4 3 true],Zr (Zo (.box 2 2 41 (.t 0))<|Zo (.alloc 4 3 43 (.agg [.bool false,.aa,.aa])) .nil)<| .seq (Zr (Zm 12 1<|Zq 13 false 131 [.t 12]<|Zn 14 13<|Zk 15 .eql 14 0 .nil)<| .cond (.t 15) (Zr (Zq 16 false 74 [.c (.int .u64 1)]<|Zo (.bU 17 [.bool false,.aa,.aa] [(2,1,.t 16)])<|Zs 3 4 17 .nil) .ret) .skip)<|Zr (Zf 18 1 2<|Zl 19 1 18<|Zm 20 1<|Zq 21 false 128 [.t 19,.t 20]<|Zm 5 21 .nil)<|Zr (Zf 23 1 2<|Zl 24 1 23<|Zm 25 5<|Zq 26 false 129 [.t 24,.t 25]<|Zm 22 26<|Zo (.ext 27 (.t 22) 0)<|Zo (.ext 28 (.t 22) 1)<|Zo (.ext 29 (.t 22) 2)<|Zm 6 27<|Zm 7 28<|Zm 8 29 .nil)<|Zr (Zm 31 1<|Zm 32 5<|Zq 33 false 129 [.t 31,.t 32]<|Zm 30 33<|Zo (.ext 34 (.t 30) 0)<|Zo (.ext 35 (.t 30) 1)<|Zo (.ext 36 (.t 30) 2)<|Zm 9 34<|Zm 10 35<|Zm 11 36 .nil)<|Zr (Zf 37 0 2<|Zl 38 1 37<|Zm 39 6<|Zo (.bU 40 [.bool false,.aa] [(0,1,.t 38),(1,1,.t 39)])<|Zq 41 false 132 [.t 40]<|Zm 42 9<|Zo (.bU 43 [.bool false,.aa,.aa] [(0,2,.t 41),(2,1,.t 42)])<|Zs 3 4 43 .nil) .ret⟩
theorem ajv:Qe Tryz.prog Tryz.f72=some Lc:=by kernel_rfl
def LD:aA:=⟨8,[.cell 2 3 true],Zr (Zo (.box 1 3 43 (.t 0))<|Zo (.alloc 2 3 43 (.agg [.bool false,.aa,.aa])) .nil)<|Zr (Zf 3 0 1<|Zh 4 2 3<|Zf 5 2 1<|Zl 6 1 5<|Zq 7 false 72 [.t 4,.t 6]<|Zs 3 2 7 .nil) .ret⟩
theorem ajw:Qe Tryz.prog Tryz.f97=some LD:=by kernel_rfl
def Jr:aA:=⟨18,[.cell 4 3 true,.t 5],Zr (Zo (.box 2 2 41 (.t 0))<|Zo (.box 3 2 41 (.t 1))<|Zo (.alloc 4 3 43 (.agg [.bool false,.aa,.aa]))<|Zc 5 0 .nil)<| .seq (Zr (Zh 6 2 3<|Zq 7 false 104 [.t 6]<|Zk 8 .eql 7 0 .nil)<| .cond (.t 8) (Zr (Zo (.bU 9 [.bool false,.aa,.aa] [])<|Zs 3 4 9<|Zc 5 3 .nil) .ret) .skip)<| .seq (Zr (Zf 10 0 3<|Zl 11 1 10 .nil)<| .cond (.t 11) (.rg (Zh 12 2 2<|Zq 13 false 166 [.t 12]<|Zs 2 2 13 .nil)) .skip)<|Zr (Zh 14 2 2<|Zf 15 1 3<|Zl 16 1 15<|Zq 17 false 72 [.t 14,.t 16]<|Zs 3 4 17<|Zc 5 0 .nil) .ret⟩
theorem agN:Qe Tryz.prog Tryz.f130=some Jr:=by kernel_rfl
def KB:aA:=⟨7,[.cell 2 3 true],Zr (Zo (.alloc 2 3 43 (.agg [.bool false,.aa,.aa])) .nil)<|Zr (Zm 3 0<|Zq 4 false 73 [.t 3]<|Zq 5 false 74 [.c (.int .u64 1)]<|Zq 6 false 72 [.t 4,.t 5]<|Zs 3 2 6 .nil) .ret⟩
theorem ajx:Qe Tryz.prog Tryz.f32=some KB:=by kernel_rfl
def IZ:aA:=⟨5,[.cell 2 2 true],Zr (Zo (.alloc 2 2 41 (.agg [.bool false,.aa])) .nil)<|Zr (Zm 3 0<|Zo (.bU 4 [.bool false,.aa] [(1,1,.t 3)])<|Zs 2 2 4 .nil) .ret⟩
theorem agO:Qe Tryz.prog Tryz.f102=some IZ:=by kernel_rfl
def KW:aA:=⟨7,[.t 2],Zr (Zo (.box 1 3 43 (.t 0))<|Zc 2 0 .nil)<|Zr (Zh 3 3 1<|Zq 4 false 97 [.t 3]<|Zo (.yj 5 0 2 true (.t 4))<|Zq 6 false 104 [.t 5]<|Zm 2 6 .nil) .ret⟩
theorem ajy:Qe Tryz.prog Tryz.f56=some KW:=by kernel_rfl
def Lm:aA:=⟨22,[.t 4],Zr (Zo (.box 2 3 43 (.t 0))<|Zo (.box 3 3 43 (.t 1))<|Zc 4 0 .nil)<|Zr (Zh 5 3 2<|Zh 7 3 3<|Zq 6 true 97 [.t 5]<|Zq 8 true 97 [.t 7]<|Zs 3 2 6<|Zs 3 3 8 .nil)<|Zr (Zf 9 0 2<|Zh 10 2 9<|Zf 11 2 3<|Zl 12 1 11<|Zf 15 0 3<|Zh 16 2 15<|Zf 17 2 2<|Zl 18 1 17<|Zq 13 true 102 [.t 12]<|Zq 14 true 101 [.t 10,.t 13]<|Zq 19 true 102 [.t 18]<|Zq 20 true 101 [.t 16,.t 19]<|Zq 21 true 138 [.t 14,.t 20]<|Zm 4 21 .nil) .ret⟩
theorem ajz:Qe Tryz.prog Tryz.f81=some Lm:=by kernel_rfl
def KV:aA:=⟨28,[.cell 4 3 true],Zr (Zo (.box 2 3 43 (.t 0))<|Zo (.box 3 3 43 (.t 1))<|Zo (.alloc 4 3 43 (.agg [.bool false,.aa,.aa])) .nil)<|Zr (Zh 5 3 2<|Zh 7 3 3<|Zq 6 true 97 [.t 5]<|Zq 8 true 97 [.t 7]<|Zs 3 2 6<|Zs 3 3 8 .nil)<|Zr (Zf 9 0 2<|Zh 10 2 9<|Zf 11 2 3<|Zl 12 1 11<|Zf 15 0 3<|Zh 16 2 15<|Zf 17 2 2<|Zl 18 1 17<|Zf 22 2 2<|Zl 23 1 22<|Zf 24 2 3<|Zl 25 1 24<|Zq 13 true 102 [.t 12]<|Zq 14 true 101 [.t 10,.t 13]<|Zq 19 true 102 [.t 18]<|Zq 20 true 101 [.t 16,.t 19]<|Zq 21 true 100 [.t 14,.t 20]<|Zq 26 true 103 [.t 23,.t 25]<|Zq 27 true 72 [.t 21,.t 26]<|Zs 3 4 27 .nil) .ret⟩
theorem ajA:Qe Tryz.prog Tryz.f55=some KV:=by kernel_rfl
def Jc:aA:=⟨16,[.cell 4 3 true],Zr (Zo (.box 2 3 43 (.t 0))<|Zo (.box 3 3 43 (.t 1))<|Zo (.alloc 4 3 43 (.agg [.bool false,.aa,.aa])) .nil)<|Zr (Zf 5 0 2<|Zh 6 2 5<|Zf 7 0 3<|Zh 8 2 7<|Zf 10 2 2<|Zl 11 1 10<|Zf 12 2 3<|Zl 13 1 12<|Zq 9 true 101 [.t 6,.t 8]<|Zq 14 true 103 [.t 11,.t 13]<|Zq 15 true 72 [.t 9,.t 14]<|Zs 3 4 15 .nil) .ret⟩
theorem agP:Qe Tryz.prog Tryz.f116=some Jc:=by kernel_rfl
theorem nE{l:List Nat}(hv:Qq l)(hl:l.length<2^42):Qc Tryz.prog 131 [PV.nat l] (· =PV.num (val l)):=by
 have ank:=Ad hv;refine Qf Qj Tryz.func131 rfl agt (by simp[Js]) fun C hP=>?_;simp only[Js,Zo,Zg,Zm,Zc,Zf,Zl,Zh,Zs,Zi,Zb,Zk,Zn,Zu,Zq,Zr,Zz];refine Sz0 ?_;refine Qz (by repeat (first|exact Qs|exact Ql|exact Qm|exact Qn|exact Qo|apply Qk|apply Qr|apply Qw|apply Q5|apply Q6|apply Qi|apply Q2)) [(3,3),(7,18)] [] (fun m J hp=>m<=l.length/\cut l m=ah (val l)/\J 3= .int .i64 m/\hp=aF) l.length ?_ ?_
 ·refine⟨Kac _,ank,?_⟩;exact Tz0
 rintro n J _ ⟨hn,hc,h3,rfl⟩;refine Sz1 h3 ?_;refine ga (fun hg=>?_) (fun hg=>?_)
 ·obtain _|n:=n
  ·omega
  have e:((n+1:Nat):Int)-1=n:=by omega
  simp only[cut]at hc;simp+decide (disch:=try exact D2 h3 e) only[go_sem,h3,e];refine Qb (fun hz=>?_) (fun hz=>?_)
  ·rw[if_pos (by grind)]at hc;refine Sz2 h3 e ?_;refine Qh n (by omega) ⟨by omega,hc,?_⟩;exact Tz0
  ·rw[if_neg (by grind)]at hc;have ar:(l.take (n+1)).length<2^42:=by rw[KaF];omega
   refine kF h3 e ?_;exact Qd (by rw[Kae (by simp),hc]) rfl
 ·obtain rfl:n=0:=by omega
  simp+decide (disch:=first|omega|rfl|(simp+decide only[go_sem,h3,Kb5,Kbt,Kbk]<;>rfl)|fail) only[go_sem,h3,Kb5,Kbt,Kbk];rw[CP (ys:=[]) rfl (by omega) (by simp) (by simp)];refine eK ?_;exact Qd (by show _=PV.nat (ah (val l));rw[<-hc];rfl) rfl
theorem mB{n:Nat}(hn:n<18446744073709551616):Qc Tryz.prog 74 [.int .u64 n] (· =PV.num n):=by
 have hlen:=rN hn;unfold nl at hlen;refine Qf Qj Tryz.func74 rfl ajs (by simp[Le]) fun C hP=>?_;simp only[Le,Zo,Zg,Zm,Zc,Zf,Zl,Zh,Zs,Zi,Zb,Zk,Zn,Zu,Zq,Zr,Zz];refine Sz0 ?_;refine kt 3 900 1 76 (by omega) Tz0 ?_;refine Qz (by repeat (first|exact Qs|exact Ql|exact Qm|exact Qn|exact Qo|apply Qk|apply Qr|apply Qw|apply Q5|apply Q6|apply Qi|apply Q2)) [(0,0),(3,13)] [10,11,900] (fun m J hp=>∃done:List Nat,ah n=done++ah m/\m<=n/\J 0= .int .u64 m/\J 3= .ms 900 done.length/\hp 900=some ⟨1,76,cn done,false⟩) n ?_ ?_
 ·refine⟨[],rfl,Kac _,?_⟩;exact Tz0
 rintro m J hp ⟨done,hd,hm,h0,h3,hh⟩;rw[hd,Kan]at hlen;refine Sz2 h0 h3 ?_;refine Qb (fun hz=>?_) (fun hz=>?_)
 ·have aO:m≠0:=by omega
  have gl:ah n=(done++[m%65536])++ah (m/65536):=by rw[hd,tD aO];simp
  refine Sz3 h0 h3 @Nat.mod_mod ?_;rw[Q9 (f:=fun(x:Nat)=>.int .u16 x) (y:=m%65536) (xs:=done) (ty':=76) (fz:=false) (Tz1 hh) cC (by omega) rfl (by omega) (by omega)];refine Sz2 h0 h3 ?_;refine Qh (m/65536) (by omega) ⟨done++[m%65536],gl,by omega,?_⟩;refine Sz2 h0 h3 ?_;simp
 ·obtain rfl:m=0:=by omega
  rw[fH,Kak]at hd;refine kF h3 hh ?_;exact Qd (by show _=PV.nat (ah n);rw[hd,Kae (by simp)]) rfl
theorem mC{a:List Nat}{i:Nat}(ha:Qq a)(hl:a.length<2^43):Qc Tryz.prog 153 [PV.nat a,.int .i64 i] (· = .int .i64 (dg a i:Nat)):=by
 refine Qf Qj Tryz.func153 rfl afU (by simp[JN]) fun C hP=>?_;simp only[JN,Zo,Zg,Zm,Zc,Zf,Zl,Zh,Zs,Zi,Zb,Zk,Zn,Zu,Zq,Zr,Zz];refine Sz0 ?_;refine Qb (fun hi=>?_) (fun hi=>?_)
 ·have aC:i<a.length:=by omega
  have EJ:=eF ha aC;have hg:dg a i=a[i]:=gu aC;refine Sz0 ?_;exact Qd (by rw[hg]) rfl
 ·refine Sz0 ?_;exact Qd (by rw[dg,gw (by omega)];rfl) rfl
theorem Cn{a:List Nat}(ha:Qq a)(hl:a.length<=4):Qc Tryz.prog 164 [PV.nat a] (· = .int .u64 (val a:Nat)):=by
 have ar:∀k,val (a.drop k)<18446744073709551616:=fun k=>by have h1:=oI (zw ha k);have:65536^(a.drop k).length<=65536^4:=KbD (by omega) (by rw[Ka5];omega);omega
 refine Qf Qj Tryz.func164 rfl agu (by simp[JY]) fun C hP=>?_;simp only[JY,Zo,Zg,Zm,Zc,Zf,Zl,Zh,Zs,Zi,Zb,Zk,Zn,Zu,Zq,Zr,Zz];refine Sz0 ?_;refine Qz (by repeat (first|exact Qs|exact Ql|exact Qm|exact Qn|exact Qo|apply Qk|apply Qr|apply Qw|apply Q5|apply Q6|apply Qi|apply Q2)) [(3,4),(8,19)] [] (fun k J hp=>k<=a.length/\J 3= .int .u64 (val (a.drop k):Nat)/\J 4= .int .i64 ((k:Int)-1)) a.length ?_ ?_
 ·refine⟨Kac _,?_⟩;refine Sz0 ?_;simp[val]
 rintro k J h ⟨hk,h3,h4⟩;refine Sz2 h3 h4 ?_;refine Qb (fun hg=>?_) (fun hg=>?_)
 ·obtain _|n:=k
  ·omega
  have hn:n<a.length:=by omega
  have vW:=eF ha hn;have e:((n+1:Nat):Int)-1=n:=by omega
  have hv:=lK hn;have h1:=ar n;generalize dS:a[n]=x at *
  have e2:val (a.drop (n+1))*65536+x=val (a.drop n):=by omega
  refine Sz5 h3 h4 e dS e2 ?_;refine Qh n (by omega) ⟨by omega,?_⟩;exact Tz0
 ·obtain rfl:k=0:=by omega
  simp+decide (disch:=first|omega|rfl|(simp+decide only[go_sem,h3,Kbp]<;>rfl)|fail) only[go_sem,h3,Kbp];exact Qd rfl rfl
theorem CK{a b:List Nat}(ha:Qq a)(hb:Qq b)(bu:a.length<2^42)(cT:b.length<2^42):Qc Tryz.prog 169 [PV.nat a,PV.nat b] (· = .int .i64 (gR (val a) (val b))):=by
 refine Qf Qj Tryz.func169 rfl afV (by simp[J7]) fun C hP=>?_;simp only[J7,Zo,Zg,Zm,Zc,Zf,Zl,Zh,Zs,Zi,Zb,Zk,Zn,Zu,Zq,Zr,Zz];refine Sz1 @PA ?_;refine Qz (by repeat (first|exact Qs|exact Ql|exact Qm|exact Qn|exact Qo|apply Qk|apply Qr|apply Qw|apply Q5|apply Q6|apply Qi|apply Q2)) [(4,5),(12,29)] [] (fun k J hp=>k<=max a.length b.length/\val (a.drop k)=val (b.drop k)/\J 5= .int .i64 ((k:Int)-1)) (max a.length b.length) ?_ ?_
 ·refine⟨Kac _,?_,?_⟩
  ·rw[Kal (by omega),Kal (by omega)]
  ·exact Tz0
 rintro k J h ⟨hk,hv,h5⟩;refine Sz1 h5 ?_;refine Qb (fun hg=>?_) (fun hg=>?_)
 ·obtain _|n:=k
  ·omega
  have e:((n+1:Nat):Int)-1=n:=by omega
  have e1:=xh a n;have e2:=xh b n;have d1:=vG ha n;have d2:=vG hb n;refine Sz2 h5 e ?_;refine Qa hP (mC ha (by omega)) rfl rfl rfl ?_;refine Sz2 h5 e ?_;refine Qa hP (mC hb (by omega)) rfl rfl rfl ?_;refine Sz2 h5 e ?_;refine Qb (fun hc=>?_) (fun hc=>?_)
  ·have ar:=Sv (a:=a) (b:=b) ha (i:=n) (by omega);refine Sz0 ?_;exact Qd (by rw[H9 ar]) rfl
  refine Sz2 h5 e ?_;refine Qa hP (mC ha (by omega)) rfl rfl rfl ?_;refine Sz2 h5 e ?_;refine Qa hP (mC hb (by omega)) rfl rfl rfl ?_;refine Sz2 h5 e ?_;refine Qb (fun iT=>?_) (fun iT=>?_)
  ·have ar:=Sv (a:=b) (b:=a) hb (i:=n) (by omega);refine Sz0 ?_;exact Qd (by rw[Ia ar]) rfl
  ·refine Sz2 h5 e ?_;refine Qh n (by omega) ⟨by omega,by omega,?_⟩;exact Tz0
 ·obtain rfl:k=0:=by omega
  refine Sz0 ?_;exact Qd (by rw[Pn (by simpa using hv)]) rfl
theorem RQ{a:List Nat}(ha:Qq a)(hl:a.length<2^43):Qc Tryz.prog 140 [PV.nat a] (· = .bool (decide (a.getLast? ≠some 0))):=by
 refine Qf Qj Tryz.func140 rfl af2 (by simp[JC]) fun C hP=>?_;simp only[JC,Zo,Zg,Zm,Zc,Zf,Zl,Zh,Zs,Zi,Zb,Zk,Zn,Zu,Zq,Zr,Zz];refine Sz0 ?_;refine dI (fun h0=>?_) (fun h0=>?_)
 ·have:a=[]:=Kas.1 (by omega);subst this;refine Sz0 ?_;exact Qd (by simp) rfl
 ·obtain⟨k,hk⟩:∃k,a.length=k+1:=⟨a.length-1,by omega⟩
  have js:=DC hk;have e:((k+1:Nat):Int)-1=k:=by omega
  generalize hy:a[k]'(by omega)=y at *
  refine Sz3 hk e hy ?_;refine Qd (congrArg PV.bool ?_) rfl;rw[js];exact decide_eq_decide.2 ⟨fun h h'=>h (by injection h' with h';rw[h'];rfl),fun h h'=>h (by rw[show y=0 by omega])⟩
theorem Yg{a b:List Nat}(bu:a.length<2^43)(cT:b.length<2^43):Qc Tryz.prog 141 [PV.nat a,PV.nat b] (· = .bool (decide (a=b))):=by
 refine Qf Qj Tryz.func141 rfl af3 (by simp[JD]) fun C hP=>?_;simp only[JD,Zo,Zg,Zm,Zc,Zf,Zl,Zh,Zs,Zi,Zb,Zk,Zn,Zu,Zq,Zr,Zz];refine Sz0 ?_;refine Qb (fun h0=>?_) (fun h0=>?_)
 ·refine Sz0 ?_;exact Qd (congrArg PV.bool (by rw[decide_eq_false];rintro rfl;exact h0 rfl)) rfl
 have hlen:a.length=b.length:=by omega
 refine Sz0 ?_;refine Qz (by repeat (first|exact Qs|exact Ql|exact Qm|exact Qn|exact Qo|apply Qk|apply Qr|apply Qw|apply Q5|apply Q6|apply Qi|apply Q2)) [(4,5),(11,25)] [] (fun n J hp=>∃i,n=a.length-i/\i<=a.length/\a.take i=b.take i/\J 5= .int .i64 (i:Nat)) a.length ?_ ?_
 ·refine⟨0,rfl,by omega,by simp,?_⟩;refine Sz0 ?_;rfl
 rintro _ J h ⟨i,rfl,hi,he,h5⟩;refine Sz1 h5 ?_;refine Qb (fun hg=>?_) (fun hg=>?_)
 ·have aC:i<a.length:=by omega
  have gG:i<b.length:=by omega
  have ta:=Kah aC;have tb:=Kah gG;have aO:a=b->a[i]=b[i]:=fun h=>by subst h;rfl
  generalize hx:a[i]=x at *
  generalize hy:b[i]=y at *
  refine Sz3 h5 hx hy ?_;refine Qb (fun hc=>?_) (fun hc=>?_)
  ·refine Sz0 ?_;exact Qd (congrArg PV.bool (by rw[decide_eq_false];intro h;exact hc (by rw[aO h]))) rfl
  ·refine Sz1 h5 ?_;refine Qh (a.length-(i+1)) (by omega) ⟨i+1,rfl,by omega,by rw[ta,tb,he,show x=y by omega],?_⟩;exact Tz0
 ·obtain rfl:i=a.length:=by omega
  rw[Kar,hlen,Kar]at he;refine Sz0 ?_;exact Qd (congrArg PV.bool (by rw[he];simp)) rfl
theorem Sc{a b:List Nat}(ha:Qq a)(hb:Qq b)(bu:a.length<2^40)(cT:b.length<2^40):Qc Tryz.prog 134 [PV.nat a,PV.nat b] (· =PV.num (val a+val b)):=by
 refine Qf Qj Tryz.func134 rfl afW (by simp[Jv]) fun C hP=>?_;simp only[Jv,Zo,Zg,Zm,Zc,Zf,Zl,Zh,Zs,Zi,Zb,Zk,Zn,Zu,Zq,Zr,Zz];refine Sz0 ?_;refine kt 5 900 1 76 (by omega) Tz0 ?_;refine Qz (by repeat (first|exact Qs|exact Ql|exact Qm|exact Qn|exact Qo|apply Qk|apply Qr|apply Qw|apply Q5|apply Q6|apply Qi|apply Q2)) [(5,41)] [38,39,900] (fun m J hp=>∃(i c:Nat)(out:List Nat),m=2*(max a.length b.length-i)+c/\c<=1/\i<=max a.length b.length+1/\(i<=max a.length b.length∨c=0)/\out.length=i/\Qq out/\val out+65536^i*(c+val (a.drop i)+val (b.drop i))=val a+val b/\J 5= .ms 900 out.length/\J 6= .int .i64 c/\J 7= .int .i64 i/\hp 900=some ⟨1,76,cn out,false⟩) (2*max a.length b.length) ?_ ?_
 ·refine⟨0,0,[],rfl,by omega,by omega,by omega,rfl,nH,by simp[val],?_⟩;refine Sz0 ?_;simp
 rintro _ J h ⟨i,c,out,rfl,hc,hi,iG,fE,iY,hv,h5,h6,h7,hh⟩;have e1:=xh a i;have e2:=xh b i;have d1:=vG ha i;have d2:=vG hb i;refine Sz3 h5 h6 h7 ?_;refine dI (fun hg=>?_) (fun hg=>?_)
 ·have ar:i<max a.length b.length:=by omega
  have gq:(dg a i+dg b i+c)/65536<=1:=by omega
  have kJ:val (out++[(dg a i+dg b i+c)%65536])+65536^(i+1)*((dg a i+dg b i+c)/65536+val (a.drop (i+1))+val (b.drop (i+1)))=val a+val b:=by
   rw[DD,fE,KbA,<-hv,e1,e2];have:=Kbr (dg a i+dg b i+c) 65536;generalize 65536^i=P at *
   generalize(dg a i+dg b i+c)/65536=q at *
   generalize(dg a i+dg b i+c)%65536=r at *
   have e:c+(dg a i+65536*val (a.drop (i+1)))+(dg b i+65536*val (b.drop (i+1)))=r+65536*(q+val (a.drop (i+1))+val (b.drop (i+1))):=by omega
   rw[e,Ka2 P,Kbi];omega
  refine Sz3 h5 h6 h7 ?_;refine Qa hP (mC ha (by omega)) rfl rfl rfl ?_;refine Sz3 h5 h6 h7 ?_;refine Qa hP (mC hb (by omega)) rfl rfl rfl ?_;refine Sz4 h5 h6 h7 @Nat.mod_mod ?_;rw[Q9 (f:=fun(x:Nat)=>.int .u16 x) (y:=(dg a i+dg b i+c)%65536) (xs:=out) (ty':=76) (fz:=false) (Tz1 hh) cC (by omega) rfl (by omega) (by omega)];refine Sz3 h5 h6 h7 ?_;refine Qh (2*(max a.length b.length-(i+1))+(dg a i+dg b i+c)/65536) ?_ ⟨i+1,(dg a i+dg b i+c)/65536,out++[(dg a i+dg b i+c)%65536],rfl,gq,by omega,?_,by simp[fE],?_,kJ,?_⟩
  ·by_cases ar:i<max a.length b.length
   ·omega
   ·have z1:dg a i=0:=by rw[dg,gw (by omega)]
    have z2:dg b i=0:=by rw[dg,gw (by omega)]
    rw[z1,z2];omega
  ·by_cases ar:i<max a.length b.length
   ·omega
   ·have z1:dg a i=0:=by rw[dg,gw (by omega)]
    have z2:dg b i=0:=by rw[dg,gw (by omega)]
    rw[z1,z2];omega
  ·rw[nD];exact⟨iY,by intro z hz;simp at hz;omega⟩
  ·refine Sz0 ?_;simp
 refine Sz3 h5 h6 h7 ?_;refine dI (fun fN=>?_) (fun fN=>?_)
 ·have ar:i<max a.length b.length:=by omega
  have gq:(dg a i+dg b i+c)/65536<=1:=by omega
  have kJ:val (out++[(dg a i+dg b i+c)%65536])+65536^(i+1)*((dg a i+dg b i+c)/65536+val (a.drop (i+1))+val (b.drop (i+1)))=val a+val b:=by
   rw[DD,fE,KbA,<-hv,e1,e2];have:=Kbr (dg a i+dg b i+c) 65536;generalize 65536^i=P at *
   generalize(dg a i+dg b i+c)/65536=q at *
   generalize(dg a i+dg b i+c)%65536=r at *
   have e:c+(dg a i+65536*val (a.drop (i+1)))+(dg b i+65536*val (b.drop (i+1)))=r+65536*(q+val (a.drop (i+1))+val (b.drop (i+1))):=by omega
   rw[e,Ka2 P,Kbi];omega
  refine Sz3 h5 h6 h7 ?_;refine Qa hP (mC ha (by omega)) rfl rfl rfl ?_;refine Sz3 h5 h6 h7 ?_;refine Qa hP (mC hb (by omega)) rfl rfl rfl ?_;refine Sz4 h5 h6 h7 @Nat.mod_mod ?_;rw[Q9 (f:=fun(x:Nat)=>.int .u16 x) (y:=(dg a i+dg b i+c)%65536) (xs:=out) (ty':=76) (fz:=false) (Tz1 hh) cC (by omega) rfl (by omega) (by omega)];refine Sz3 h5 h6 h7 ?_;refine Qh (2*(max a.length b.length-(i+1))+(dg a i+dg b i+c)/65536) ?_ ⟨i+1,(dg a i+dg b i+c)/65536,out++[(dg a i+dg b i+c)%65536],rfl,gq,by omega,?_,by simp[fE],?_,kJ,?_⟩
  ·by_cases ar:i<max a.length b.length
   ·omega
   ·have z1:dg a i=0:=by rw[dg,gw (by omega)]
    have z2:dg b i=0:=by rw[dg,gw (by omega)]
    rw[z1,z2];omega
  ·by_cases ar:i<max a.length b.length
   ·omega
   ·have z1:dg a i=0:=by rw[dg,gw (by omega)]
    have z2:dg b i=0:=by rw[dg,gw (by omega)]
    rw[z1,z2];omega
  ·rw[nD];exact⟨iY,by intro z hz;simp at hz;omega⟩
  ·refine Sz0 ?_;simp
 refine Sz3 h5 h6 h7 ?_;refine Qb (fun hg3=>?_) (fun hg3=>?_)
 ·have gG:i<=max a.length b.length:=by omega
  have gq:(dg a i+dg b i+c)/65536<=1:=by omega
  have kJ:val (out++[(dg a i+dg b i+c)%65536])+65536^(i+1)*((dg a i+dg b i+c)/65536+val (a.drop (i+1))+val (b.drop (i+1)))=val a+val b:=by
   rw[DD,fE,KbA,<-hv,e1,e2];have:=Kbr (dg a i+dg b i+c) 65536;generalize 65536^i=P at *
   generalize(dg a i+dg b i+c)/65536=q at *
   generalize(dg a i+dg b i+c)%65536=r at *
   have e:c+(dg a i+65536*val (a.drop (i+1)))+(dg b i+65536*val (b.drop (i+1)))=r+65536*(q+val (a.drop (i+1))+val (b.drop (i+1))):=by omega
   rw[e,Ka2 P,Kbi];omega
  refine Sz3 h5 h6 h7 ?_;refine Qa hP (mC ha (by omega)) rfl rfl rfl ?_;refine Sz3 h5 h6 h7 ?_;refine Qa hP (mC hb (by omega)) rfl rfl rfl ?_;refine Sz4 h5 h6 h7 @Nat.mod_mod ?_;rw[Q9 (f:=fun(x:Nat)=>.int .u16 x) (y:=(dg a i+dg b i+c)%65536) (xs:=out) (ty':=76) (fz:=false) (Tz1 hh) cC (by omega) rfl (by omega) (by omega)];refine Sz3 h5 h6 h7 ?_;refine Qh (2*(max a.length b.length-(i+1))+(dg a i+dg b i+c)/65536) ?_ ⟨i+1,(dg a i+dg b i+c)/65536,out++[(dg a i+dg b i+c)%65536],rfl,gq,by omega,?_,by simp[fE],?_,kJ,?_⟩
  ·by_cases ar:i<max a.length b.length
   ·omega
   ·have z1:dg a i=0:=by rw[dg,gw (by omega)]
    have z2:dg b i=0:=by rw[dg,gw (by omega)]
    rw[z1,z2];omega
  ·by_cases ar:i<max a.length b.length
   ·omega
   ·have z1:dg a i=0:=by rw[dg,gw (by omega)]
    have z2:dg b i=0:=by rw[dg,gw (by omega)]
    rw[z1,z2];omega
  ·rw[nD];exact⟨iY,by intro z hz;simp at hz;omega⟩
  ·refine Sz0 ?_;simp
 ·obtain rfl:c=0:=by omega
  rw[Kal (by omega),Kal (by omega)]at hv;simp only[val,KaU,Kb1]at hv;refine Sz2 h5 hh ?_;refine vd hP (nE iY (by omega)) (by simp+decide (disch:=try exact E1 hh) only[go_sem,hh,ee,Kav,KaC,Kau,KaA,Kak];simp[Kae]) rfl fun an=>?_;refine Sz0 ?_;exact Qd (by rw[hv]) rfl
theorem GJ{a b:List Nat}(ha:Qq a)(hb:Qq b)(bu:a.length<2^40)(cT:b.length<2^40):Qc Tryz.prog 152 [PV.nat a,PV.nat b] (· =if val a<val b then .aw [PV.num 0,.int .i64 2]else .aw [PV.num (val a-val b),.int .i64 0]):=by
 refine Qf Qj Tryz.func152 rfl afX (by simp[JM]) fun C hP=>?_;simp only[JM,Zo,Zg,Zm,Zc,Zf,Zl,Zh,Zs,Zi,Zb,Zk,Zn,Zu,Zq,Zr,Zz];refine Sz0 ?_;refine Qa hP (CK ha hb (by omega) (by omega)) rfl rfl rfl ?_;refine Sz0 ?_;refine Qb (fun hc=>?_) (fun hc=>?_)
 ·rw[if_pos (Dp.1 hc)];refine Sz0 ?_;exact fl rfl rfl rfl xp (Qx _)
 have fX:¬val a<val b:=fun h=>hc (Dp.2 h);rw[if_neg fX];refine Sz0 ?_;refine kt 6 900 1 76 (by omega) Tz0 ?_;refine Qz (by repeat (first|exact Qs|exact Ql|exact Qm|exact Qn|exact Qo|apply Qk|apply Qr|apply Qw|apply Q5|apply Q6|apply Qi|apply Q2)) [(6,9),(14,37)] [36,37,900] (fun m J hp=>∃(i c:Nat)(out:List Nat),m=a.length-i/\c<=1/\i<=a.length/\out.length=i/\Qq out/\val (a.take i)+65536^i*c=val out+val (b.take i)/\J 6= .ms 900 out.length/\J 7= .int .i64 c/\J 8= .int .i64 i/\hp 900=some ⟨1,76,cn out,false⟩) a.length ?_ ?_
 ·refine⟨0,0,[],rfl,by omega,by omega,rfl,nH,by simp[val],?_⟩;refine Sz0 ?_;simp
 rintro _ J h ⟨i,c,out,rfl,oT,hi,fE,iY,hv,h6,h7,h8,hh⟩;refine Sz3 h6 h7 h8 ?_;refine Qb (fun hg=>?_) (fun hg=>?_)
 ·have aC:i<a.length:=by omega
  have e1:=RH a i;have e2:=RH b i;have d1:=vG ha i;have d2:=vG hb i;refine Sz3 h6 h7 h8 ?_;refine Qa hP (mC ha (by omega)) rfl rfl rfl ?_;refine Sz3 h6 h7 h8 ?_;refine Qa hP (mC hb (by omega)) rfl rfl rfl ?_;refine Sz3 h6 h7 h8 ?_;have step:∀(d c':Nat),d<65536->c'<=1->dg a i+65536*c'=d+dg b i+c->val (a.take (i+1))+65536^(i+1)*c'=val (out++[d])+val (b.take (i+1)):=fun d c' _ _ h3=>by
   rw[DD,fE,e1,e2,KbA];generalize 65536^i=P at *
   have:P*(dg a i+65536*c')=P*(d+dg b i+c):=by rw[h3]
   rw[Ka2,<-Nat.mul_assoc,Ka2,Ka2]at this;omega
  refine Qb (fun hd=>?_) (fun hd=>?_)
  ·obtain⟨d,fD⟩:∃d:Nat,(dg a i:Int)-(dg b i:Int)-(c:Int)+65536=d:=⟨((dg a i:Int)-(dg b i:Int)-(c:Int)+65536).toNat,by omega⟩
   have aG:=step d 1 (by omega) (by omega) (by omega);refine Sz4 h6 h7 h8 fD ?_;rw[Q9 (f:=fun(x:Nat)=>.int .u16 x) (y:=d) (xs:=out) (ty':=76) (fz:=false) (Tz1 hh) (by simp+decide (disch:=first|omega|rfl|(simp+decide only[go_sem,KaR (by omega:d<65536)]<;>rfl)|fail) only[go_sem,KaR (by omega:d<65536)]) (by omega) rfl (by omega) (by omega)];refine Sz3 h6 h7 h8 ?_;refine Qh (a.length-(i+1)) (by omega) ⟨i+1,1,out++[d],rfl,by omega,by omega,by simp[fE],?_,aG,?_⟩
   ·rw[nD];exact⟨iY,by intro z hz;simp at hz;omega⟩
   ·refine Sz0 ?_;simp
  ·obtain⟨d,fD⟩:∃d:Nat,(dg a i:Int)-(dg b i:Int)-(c:Int)=d:=⟨((dg a i:Int)-(dg b i:Int)-(c:Int)).toNat,by omega⟩
   have aG:=step d 0 (by omega) (by omega) (by omega);refine Sz4 h6 h7 h8 fD ?_;rw[Q9 (f:=fun(x:Nat)=>.int .u16 x) (y:=d) (xs:=out) (ty':=76) (fz:=false) (Tz1 hh) (by simp+decide (disch:=first|omega|rfl|(simp+decide only[go_sem,KaR (by omega:d<65536)]<;>rfl)|fail) only[go_sem,KaR (by omega:d<65536)]) (by omega) rfl (by omega) (by omega)];refine Sz3 h6 h7 h8 ?_;refine Qh (a.length-(i+1)) (by omega) ⟨i+1,0,out++[d],rfl,by omega,by omega,by simp[fE],?_,aG,?_⟩
   ·rw[nD];exact⟨iY,by intro z hz;simp at hz;omega⟩
   ·refine Sz0 ?_;simp
 ·obtain rfl:i=a.length:=by omega
  have hbz:val (b.drop a.length)=0:=CF (by have:=oI ha;omega);have Mi:=GY b a.length;rw[hbz,Kb1,KaU]at Mi;rw[Kar,<-Mi]at hv;have hvo:=oI iY;rw[fE]at hvo;have vY:c=0:=by
   match c,oT with
   |0,_=>rfl
   |1,_=>exfalso;have:=oI ha;omega
  subst vY;refine Sz2 h6 hh ?_;refine vd hP (nE iY (by omega)) (by simp+decide (disch:=try exact E1 hh) only[go_sem,hh,ee,Kav,KaC,Kau,KaA,Kak];simp[Kae]) rfl fun an=>?_;refine Sz0 ?_;exact fl rfl rfl rfl (tA (congrArg PV.num (by omega))) (Qx _)
theorem GK{a b:List Nat}(ha:Qq a)(hb:Qq b)(bu:a.length<2^40)(cT:b.length<2^40):Qc Tryz.prog 103 [PV.nat a,PV.nat b] (· =PV.num (val a*val b)):=by
 refine Qf Qj Tryz.func103 rfl afY (by simp[I0]) fun C hP=>?_;simp only[I0,Zo,Zg,Zm,Zc,Zf,Zl,Zh,Zs,Zi,Zb,Zk,Zn,Zu,Zq,Zr,Zz];refine Sz0 ?_;refine Qz (by repeat (first|exact Qs|exact Ql|exact Qm|exact Qn|exact Qo|apply Qk|apply Qr|apply Qw|apply Q5|apply Q6|apply Qi|apply Q2)) [(6,9),(17,62)] [] (fun m J hp=>∃(i:Nat)(L:List Nat),m=a.length-i/\i<=a.length/\L.length=a.length+b.length+1/\Qq L/\val L=val (a.take i)*val b/\J 6= .int .i64 i/\hp=Qy aF 16 ⟨1,76,cn L,false⟩) a.length ?_ ?_
 ·refine⟨0,List.replicate (a.length+b.length+1) 0,rfl,by omega,by simp,?_,by simp[val,Uj],?_⟩
  ·intro z hz;rw[List.eq_of_mem_replicate hz];omega
  ·refine Sz0 ?_;simp
 rintro _ J _ ⟨i,L,rfl,hi,Vc,hL,hv,h6,rfl⟩;refine Sz1 h6 ?_;refine Qb (fun hg=>?_) (fun hg=>?_)
 ·have aC:i<a.length:=by omega
  have EJ:=eF ha aC;have lA:=zb aC;have M6:dg L (i+b.length)=0:=by apply ZA;apply CF;rw[hv,Nat.pow_add];have h1:=s8 ha i (by omega);have h2:=oI hb;exact Nat.mul_lt_mul'' h1 h2
  generalize dS:a[i]=ai at *
  refine Sz2 h6 dS ?_;refine Qz (by repeat (first|exact Qs|exact Ql|exact Qm|exact Qn|exact Qo|apply Qk|apply Qr|apply Qw|apply Q5|apply Q6|apply Qi|apply Q2)) [(7,9),(23,62)] [] (fun m J hp=>∃(k c:Nat)(M:List Nat),m=b.length+1-k/\k<=b.length+1/\(k<=b.length∨c=0)/\c<65536/\M.length=L.length/\Qq M/\val M+65536^(i+k)*(c+ai*val (b.drop k))=val L+65536^i*(ai*val b)/\(∀j,i+k<=j->dg M j=dg L j)/\J 7= .int .u64 c/\J 8= .int .i64 k/\hp=Qy aF 16 ⟨1,76,cn M,false⟩) (b.length+1) ?_ ?_
  ·refine⟨0,0,L,rfl,by omega,by omega,by omega,rfl,hL,by simp,fun _ _=>rfl,?_⟩;refine Sz1 h6 ?_;simp
  rintro _ J2 _ ⟨k,c,M,rfl,hk,na,hc,Vd,hM,hw,wy,h7,h8,rfl⟩;have e2:=xh b k;have d2:=vG hb k;refine Sz3 h6 h7 h8 ?_;refine dI (fun Bg=>?_) (fun Bg=>?_)
  ·have an0:k<=b.length:=by omega
   have hj:i+k<M.length:=by omega
   have hx:=eF hM hj;have kb:=fun v=>O3 (v:=v) hj;have wh:=tj EJ d2;have uj:dg M (i+k)=M[i+k]:=gu hj;generalize fj:M[i+k]=x at *
   have ug:=Kbr (x+ai*dg b k+c) 65536;have nj:=Uy (T:=val L+65536^i*(ai*val b)) (kb ((x+ai*dg b k+c)%65536)) (by rw[<-e2];exact hw) ug;have hr:=Kbv (x+ai*dg b k+c) (show 0<65536 by omega);have hq:(x+ai*dg b k+c)/65536<65536:=by omega
   have iH:¬k<b.length->(x+ai*dg b k+c)/65536=0:=fun h=>by
    have z1:dg b k=0:=by rw[dg,gw (by omega)]
    have z2:x=0:=by rw[<-uj,wy _ (Kac _),show i+k=i+b.length by omega,M6]
    rw[z1,z2];omega
   have Bk:Qq (M.set (i+k) ((x+ai*dg b k+c)%65536)):=fun z hz=>by
    rcases KcT hz with h|h
    ·exact hM z h
    ·omega
   have e5:IntKind.u64.wrap ((ai*dg b k:Nat):Int)=((ai*dg b k:Nat):Int):=rQ (by omega) (by omega);refine Sz5 h6 h7 h8 dS fj ?_;refine Qa hP (mC hb (by omega)) rfl rfl rfl ?_;refine Sz7 h6 h7 h8 dS fj e5 @Nat.mod_mod ?_;refine Qh (b.length+1-(k+1)) (by omega) ⟨k+1,(x+ai*dg b k+c)/65536,M.set (i+k) ((x+ai*dg b k+c)%65536),rfl,by omega,?_,hq,by rw[Kb8];exact Vd,Bk,?_,?_,?_⟩
   ·by_cases h:k<b.length
    ·omega
    ·exact .inr (iH h)
   ·rw[<-Nat.add_assoc,KbA];exact nj
   ·intro j v9;rw[UA (by omega)];exact wy j (by omega)
   ·exact Tz3 h6 h7 h8
  refine Sz3 h6 h7 h8 ?_;refine Qb (fun vY=>?_) (fun vY=>?_)
  ·have an0:k<=b.length:=by omega
   have hj:i+k<M.length:=by omega
   have hx:=eF hM hj;have kb:=fun v=>O3 (v:=v) hj;have wh:=tj EJ d2;have uj:dg M (i+k)=M[i+k]:=gu hj;generalize fj:M[i+k]=x at *
   have ug:=Kbr (x+ai*dg b k+c) 65536;have nj:=Uy (T:=val L+65536^i*(ai*val b)) (kb ((x+ai*dg b k+c)%65536)) (by rw[<-e2];exact hw) ug;have hr:=Kbv (x+ai*dg b k+c) (show 0<65536 by omega);have hq:(x+ai*dg b k+c)/65536<65536:=by omega
   have iH:¬k<b.length->(x+ai*dg b k+c)/65536=0:=fun h=>by
    have z1:dg b k=0:=by rw[dg,gw (by omega)]
    have z2:x=0:=by rw[<-uj,wy _ (Kac _),show i+k=i+b.length by omega,M6]
    rw[z1,z2];omega
   have Bk:Qq (M.set (i+k) ((x+ai*dg b k+c)%65536)):=fun z hz=>by
    rcases KcT hz with h|h
    ·exact hM z h
    ·omega
   have e5:IntKind.u64.wrap ((ai*dg b k:Nat):Int)=((ai*dg b k:Nat):Int):=rQ (by omega) (by omega);refine Sz5 h6 h7 h8 dS fj ?_;refine Qa hP (mC hb (by omega)) rfl rfl rfl ?_;refine Sz7 h6 h7 h8 dS fj e5 @Nat.mod_mod ?_;refine Qh (b.length+1-(k+1)) (by omega) ⟨k+1,(x+ai*dg b k+c)/65536,M.set (i+k) ((x+ai*dg b k+c)%65536),rfl,by omega,?_,hq,by rw[Kb8];exact Vd,Bk,?_,?_,?_⟩
   ·by_cases h:k<b.length
    ·omega
    ·exact .inr (iH h)
   ·rw[<-Nat.add_assoc,KbA];exact nj
   ·intro j v9;rw[UA (by omega)];exact wy j (by omega)
   ·exact Tz3 h6 h7 h8
  ·obtain rfl:c=0:=by omega
   rw[Kal (by omega)]at hw;simp only[val,Kb1,KaU]at hw;refine Sz3 h6 h7 h8 ?_;simp (disch:=decide) only[ks,nN];refine Qh (a.length-(i+1)) (by omega) ⟨i+1,M,rfl,by omega,by omega,hM,?_,?_⟩
   ·rw[hw,hv,lA,KaI,Kbi]
   ·exact Tz0
 ·obtain rfl:i=a.length:=by omega
  rw[Kar]at hv;refine Sz0 ?_;refine vd hP (nE hL (by omega)) (by simp+decide (disch:=try exact E0) only[go_sem,ee,Kav,KaC,Kau,KaA,Kak];simp[Kae,Vc]) rfl fun an=>?_;refine Sz0 ?_;exact Qd (by rw[hv]) rfl
theorem zr{x y:Nat}(hx:nl x<2^40)(hy:nl y<2^40):Qc Tryz.prog 103 [PV.num x,PV.num y] (· =PV.num (x*y)):=by
 have:=GK (Qp x) (Qp y) hx hy
 rwa[Q7,Q7]at this
theorem Q8v{x y:Nat}(hx:nl x<2^42)(hy:nl y<2^42):Qc Tryz.prog 169 [PV.num x,PV.num y] (· = .int .i64 (gR x y)):=by
 have:=CK (Qp x) (Qp y) hx hy
 rwa[Q7,Q7]at this
theorem SY{x y:Nat}(hx:nl x<2^40)(hy:nl y<2^40)(h:y<=x):Qc Tryz.prog 152 [PV.num x,PV.num y] (· = .aw [PV.num (x-y),.int .i64 0]):=by
 have:=GJ (Qp x) (Qp y) hx hy
 rwa[Q7,Q7,if_neg (by omega)]at this
theorem PH{x y:Nat}:gR x y<=0↔x<=y:=by unfold gR;split<;>(try split)<;>omega
theorem RR{x y:Nat}(hx:nl x<2^38)(hy:nl y<2^38)(cX:0<y):Qc Tryz.prog 165 [PV.num x,PV.num y] (· = .int .u64 (min 65535 (x/y):Nat)):=by
 have uw:∀(n d:Nat) fr hp K,n<18446744073709551616->cm .quo false (.int .u64 (n:Int)) (.int .u64 2) d fr hp K=K (af fr d (.int .u64 ((n/2:Nat):Int))) hp:=fun n d fr hp K h=>by rw[show(2:Int)=((2:Nat):Int)from rfl,Ah (by omega) h]
 refine Qf Qj Tryz.func165 rfl afZ (by simp[JZ]) fun C hP=>?_;simp only[JZ,Zo,Zg,Zm,Zc,Zf,Zl,Zh,Zs,Zi,Zb,Zk,Zn,Zu,Zq,Zr,Zz];refine Sz0 ?_;refine Qz (by repeat (first|exact Qs|exact Ql|exact Qm|exact Qn|exact Qo|apply Qk|apply Qr|apply Qw|apply Q5|apply Q6|apply Qi|apply Q2)) [(5,25)] [] (fun m J hp=>∃lo hi:Nat,m=hi-lo/\lo<=hi/\hi<=65535/\y*lo<=x/\(hi=65535∨x<y*(hi+1))/\J 5= .int .u64 lo/\J 6= .int .u64 hi) 65535 ?_ ?_
 ·refine⟨0,65535,rfl,by omega,by omega,by omega,.inl rfl,?_⟩;refine Sz0 ?_;simp
 rintro _ J h ⟨lo,hi,rfl,h1,h2,h3,h4,h5,h6⟩;refine Sz2 h5 h6 ?_;refine Qb (fun hg=>?_) (fun hg=>?_)
 ·have fR:nl ((lo+hi+1)/2)<=4:=rN (by omega);have hm:=gL y ((lo+hi+1)/2);generalize aod:(lo+hi+1)/2=wF at *
  refine Sz4 h5 h6 uw aod ?_;refine Qa hP (mB (n:=wF) (by omega)) rfl rfl rfl ?_;refine Sz2 h5 h6 ?_;refine Qa hP (zr (x:=y) (y:=wF) (by omega) (by omega)) rfl rfl rfl ?_;refine Sz2 h5 h6 ?_;refine Qa hP (Q8v (x:=y*wF) (y:=x) (by omega) (by omega)) rfl rfl rfl ?_;refine Sz2 h5 h6 ?_;refine Qb (fun hc=>?_) (fun hc=>?_)
  ·rw[PH]at hc;refine Sz2 h5 h6 ?_;refine Qh (hi-wF) (by omega) ⟨wF,hi,rfl,by omega,h2,hc,h4,?_⟩;exact Tz1 h6
  ·rw[PH]at hc;obtain⟨n,rfl⟩:∃n,wF=n+1:=⟨wF-1,by omega⟩
   have e:((n+1:Nat):Int)-1=n:=by omega
   refine Sz3 h5 h6 e ?_;refine Qh (n-lo) (by omega) ⟨lo,n,rfl,by omega,by omega,h3,.inr (by omega),?_⟩;exact Tz1 h5
 ·obtain rfl:lo=hi:=by omega
  refine Sz1 h5 ?_;refine Qd ?_ rfl;have hle:lo<=x/y:=(Nat.le_div_iff_mul_le cX).2 (by rw[KaS];exact h3);rcases h4 with rfl|h4
  ·rw[KbZ hle]
  ·have:x/y<lo+1:=(Kbn cX).2 (by rw[KaS];exact h4);congr 2;omega
theorem RI{a b:List Nat}(ha:Qq a)(hb:Qq b)(bu:a.length<2^36)(cT:b.length<2^36):Qc Tryz.prog 129 [PV.nat a,PV.nat b]
  (· =if val b=0 then .aw [PV.num 0,PV.num 0,.int .i64 3]else .aw [PV.num (val a/val b),PV.num (val a%val b),.int .i64 0]):=by
 have gD:=ck ha;have iV:=ck hb;refine Qf Qj Tryz.func129 rfl af0 (by simp[Jp]) fun C hP=>?_;simp only[Jp,Zo,Zg,Zm,Zc,Zf,Zl,Zh,Zs,Zi,Zb,Zk,Zn,Zu,Zq,Zr,Zz];refine Sz0 ?_;refine Qa hP (nE ha (by omega)) rfl rfl rfl ?_;refine Sz0 ?_;refine Qa hP (nE hb (by omega)) rfl rfl rfl ?_;refine Sz0 ?_;generalize val a=x at *
 generalize val b=y at *
 unfold nl at gD iV;refine Qb (fun hz=>?_) (fun hz=>?_)
 ·have cX:y=0:=kq.1 (pk (by omega));refine Sz0 ?_;rw[if_pos cX];exact tN rfl rfl rfl rfl xp xp (Qx _)
 have cX:y≠0:=fun h=>by rw[h,fH]at hz;simp at hz
 rw[if_neg cX];have hyp:0<y:=KaY cX;have eo:=Qp x;have gX:=Qp y;have qk:=Q7 x;have sP:=Q7 y;refine Sz0 ?_;refine ga (fun h1=>?_) (fun h1=>?_)
 ·refine Sz0 ?_;refine Qb (fun h2=>?_) (fun h2=>?_)
  ·have aqO:=C2.1 (show nl x<=4 by unfold nl;omega);have aqP:=C2.1 (show nl y<=4 by unfold nl;omega);have hq:=KcL x y;have hr:=Kbv x hyp;refine Sz0 ?_;refine Qa hP (Cn eo (by omega)) rfl rfl rfl ?_;refine Sz1 qk ?_;refine Qa hP (Cn gX (by omega)) rfl rfl rfl ?_;refine Sz3 qk sP @Ah ?_;refine Qa hP (mB (n:=x/y) (by omega)) rfl rfl rfl ?_;refine Sz0 ?_;refine Qa hP (Cn eo (by omega)) rfl rfl rfl ?_;refine Sz1 qk ?_;refine Qa hP (Cn gX (by omega)) rfl rfl rfl ?_;refine Sz3 qk sP @qJ ?_;refine Qa hP (mB (n:=x%y) (by omega)) rfl rfl rfl ?_;refine Sz0 ?_;exact tN rfl rfl rfl rfl (Qx _) (Qx _) (Qx _)
  ·have aoG:=trivial;refine Sz0 ?_;refine qK 7 1 Tz0 ?_;refine qK 8 1 Tz0 ?_;refine HZ (by repeat (first|exact Qs|exact Ql|exact Qm|exact Qn|exact Qo|apply Qk|apply Qr|apply Qw|apply Q5|apply Q6|apply Qi|apply Q2)) [(7,10),(41,69)] [49,51,58,60] (fun k J hp=>∃qs,k<=(ah x).length/\qs.length=(ah x).length-k/\Qq qs/\val qs=val ((ah x).drop k)/y/\J 7= .sl 1 (cn qs)/\J 8=PV.num (val ((ah x).drop k)%y)/\J 9= .int .i64 ((k:Int)-1)) (ah x).length ?_ ?_
   ·refine⟨[],Kac _,by simp,nH,by simp[val],?_⟩;refine Sz0 ?_;simp[val,fH]
   rintro k J h ⟨qs,hk,sJ,o0,rq,h7,h8,h9⟩;refine Sz3 h7 h8 h9 ?_;have hr:=Kbv (val ((ah x).drop k)) hyp;refine Qb (fun hg=>?_) (fun hg=>?_)
   ·obtain _|n:=k
    ·omega
    have hn:n<(ah x).length:=by omega
    have vW:=eF eo hn;have e:((n+1:Nat):Int)-1=n:=by omega
    have aG:=Tq (x:=(ah x)[n]) hyp rq;rw[<-lK hn]at aG;generalize hV:val ((ah x).drop (n+1))%y=r at *
    generalize dS:(ah x)[n]=xi at *
    have lz:(ah r).length<=(ah y).length:=fJ (Nat.le_of_lt hr);have qb:Qq ([xi]++ah r):=by rw[nD];exact⟨by intro z hz;simp at hz;omega,Qp r⟩
    have kd:val ([xi]++ah r)=r*65536+xi:=by rw[mA,Q7];simp[val];omega
    have ar:(r*65536+xi)/y<65536:=by rw[Kbn hyp];have:(r+1)*65536<=y*65536:=Kaf _ hr;omega
    have MO:nl (r*65536+xi)<=(ah y).length+1:=by have:=ck qb;rw[kd,Kan]at this;simp at this;omega
    have ug:=Kbr (r*65536+xi) y;have jZ:nl (y*((r*65536+xi)/y))<=(ah y).length+1:=Kaw (fJ (by omega)) MO;have MM:nl ((r*65536+xi)/y)<=4:=rN (by omega);have MX:r*65536+xi-y*((r*65536+xi)/y)=(r*65536+xi)%y:=by omega
    refine Sz5 h7 h8 h9 e dS ?_;rw[mG (f:=fun(x:Nat)=>.int .u16 x) (xs:=[xi]) (ys:=ah r) (n:=1) cC rfl (by omega) (by omega) (by omega)];refine Sz5 h7 h8 h9 e dS ?_;refine ig hP (nE (l:=[xi]++ah r) qb (by simp;omega)) (by simp+decide (disch:=try exact E0) only[go_sem,ee,Kav,KaC,Kau,KaA,Kak];simp[KbQ 1,Kae]) rfl ?_;rw[kd];refine Sz5 h7 h8 h9 e dS ?_;refine Qa hP (RR (x:=r*65536+xi) (y:=y) (by omega) (by unfold nl;omega) hyp) rfl rfl rfl ?_;rw[Kdd (by omega:(r*65536+xi)/y<=65535)];generalize hD:(r*65536+xi)/y=D at *
    simp+decide (disch:=first|omega|rfl|(simp+decide only[go_sem,h7,h8,h9,e,dS,KaR ar]<;>rfl)|fail) only[go_sem,h7,h8,h9,e,dS,KaR ar];rw[mG (f:=fun(x:Nat)=>.int .u16 x) (xs:=[D]) (ys:=qs) (n:=1) cC rfl (by omega) (by omega) (by omega)];refine Sz5 h7 h8 h9 e dS ?_;refine Qa hP (mB (n:=D) (by omega)) rfl rfl rfl ?_;refine Sz4 h7 h8 h9 e ?_;refine Qa hP (zr (x:=y) (y:=D) (by unfold nl;omega) (by omega)) rfl rfl rfl ?_;refine Sz4 h7 h8 h9 e ?_;refine Qa hP (SY (x:=r*65536+xi) (y:=y*D) (by omega) (by omega) (by omega)) rfl rfl rfl ?_;rw[MX];refine Sz4 h7 h8 h9 e ?_;refine GX 7 n rfl ?_ (by omega) ⟨D::qs,by omega,by simp;omega,?_,?_,?_⟩
    ·exact yc
    ·rw[ia];exact⟨ar,o0⟩
    ·rw[val,aG.1]
    ·refine sg aG.2 ?_;simp[KbQ 1,Kae]
   ·obtain rfl:k=0:=by omega
    rw[Kbp,qk]at rq h8;refine Sz2 h7 h8 ?_;refine Qa hP (nE o0 (by omega)) rfl rfl rfl ?_;refine Sz2 h7 h8 ?_;exact tN rfl rfl rfl rfl (tA (by rw[rq])) (Qx _) (Qx _)
 ·have aoG:=trivial;refine Sz0 ?_;refine qK 7 1 Tz0 ?_;refine qK 8 1 Tz0 ?_;refine HZ (by repeat (first|exact Qs|exact Ql|exact Qm|exact Qn|exact Qo|apply Qk|apply Qr|apply Qw|apply Q5|apply Q6|apply Qi|apply Q2)) [(7,10),(41,69)] [49,51,58,60] (fun k J hp=>∃qs,k<=(ah x).length/\qs.length=(ah x).length-k/\Qq qs/\val qs=val ((ah x).drop k)/y/\J 7= .sl 1 (cn qs)/\J 8=PV.num (val ((ah x).drop k)%y)/\J 9= .int .i64 ((k:Int)-1)) (ah x).length ?_ ?_
  ·refine⟨[],Kac _,by simp,nH,by simp[val],?_⟩;refine Sz0 ?_;simp[val,fH]
  rintro k J h ⟨qs,hk,sJ,o0,rq,h7,h8,h9⟩;refine Sz3 h7 h8 h9 ?_;have hr:=Kbv (val ((ah x).drop k)) hyp;refine Qb (fun hg=>?_) (fun hg=>?_)
  ·obtain _|n:=k
   ·omega
   have hn:n<(ah x).length:=by omega
   have vW:=eF eo hn;have e:((n+1:Nat):Int)-1=n:=by omega
   have aG:=Tq (x:=(ah x)[n]) hyp rq;rw[<-lK hn]at aG;generalize hV:val ((ah x).drop (n+1))%y=r at *
   generalize dS:(ah x)[n]=xi at *
   have lz:(ah r).length<=(ah y).length:=fJ (Nat.le_of_lt hr);have qb:Qq ([xi]++ah r):=by rw[nD];exact⟨by intro z hz;simp at hz;omega,Qp r⟩
   have kd:val ([xi]++ah r)=r*65536+xi:=by rw[mA,Q7];simp[val];omega
   have ar:(r*65536+xi)/y<65536:=by rw[Kbn hyp];have:(r+1)*65536<=y*65536:=Kaf _ hr;omega
   have MO:nl (r*65536+xi)<=(ah y).length+1:=by have:=ck qb;rw[kd,Kan]at this;simp at this;omega
   have ug:=Kbr (r*65536+xi) y;have jZ:nl (y*((r*65536+xi)/y))<=(ah y).length+1:=Kaw (fJ (by omega)) MO;have MM:nl ((r*65536+xi)/y)<=4:=rN (by omega);have MX:r*65536+xi-y*((r*65536+xi)/y)=(r*65536+xi)%y:=by omega
   refine Sz5 h7 h8 h9 e dS ?_;rw[mG (f:=fun(x:Nat)=>.int .u16 x) (xs:=[xi]) (ys:=ah r) (n:=1) cC rfl (by omega) (by omega) (by omega)];refine Sz5 h7 h8 h9 e dS ?_;refine ig hP (nE (l:=[xi]++ah r) qb (by simp;omega)) (by simp+decide (disch:=try exact E0) only[go_sem,ee,Kav,KaC,Kau,KaA,Kak];simp[KbQ 1,Kae]) rfl ?_;rw[kd];refine Sz5 h7 h8 h9 e dS ?_;refine Qa hP (RR (x:=r*65536+xi) (y:=y) (by omega) (by unfold nl;omega) hyp) rfl rfl rfl ?_;rw[Kdd (by omega:(r*65536+xi)/y<=65535)];generalize hD:(r*65536+xi)/y=D at *
   simp+decide (disch:=first|omega|rfl|(simp+decide only[go_sem,h7,h8,h9,e,dS,KaR ar]<;>rfl)|fail) only[go_sem,h7,h8,h9,e,dS,KaR ar];rw[mG (f:=fun(x:Nat)=>.int .u16 x) (xs:=[D]) (ys:=qs) (n:=1) cC rfl (by omega) (by omega) (by omega)];refine Sz5 h7 h8 h9 e dS ?_;refine Qa hP (mB (n:=D) (by omega)) rfl rfl rfl ?_;refine Sz4 h7 h8 h9 e ?_;refine Qa hP (zr (x:=y) (y:=D) (by unfold nl;omega) (by omega)) rfl rfl rfl ?_;refine Sz4 h7 h8 h9 e ?_;refine Qa hP (SY (x:=r*65536+xi) (y:=y*D) (by omega) (by omega) (by omega)) rfl rfl rfl ?_;rw[MX];refine Sz4 h7 h8 h9 e ?_;refine GX 7 n rfl ?_ (by omega) ⟨D::qs,by omega,by simp;omega,?_,?_,?_⟩
   ·exact yc
   ·rw[ia];exact⟨ar,o0⟩
   ·rw[val,aG.1]
   ·refine sg aG.2 ?_;simp[KbQ 1,Kae]
  ·obtain rfl:k=0:=by omega
   rw[Kbp,qk]at rq h8;refine Sz2 h7 h8 ?_;refine Qa hP (nE o0 (by omega)) rfl rfl rfl ?_;refine Sz2 h7 h8 ?_;exact tN rfl rfl rfl rfl (tA (by rw[rq])) (Qx _) (Qx _)
theorem RS{x y:Nat}(hx:nl x<2^36)(hy:nl y<2^36)(h0:y≠0):Qc Tryz.prog 129 [PV.num x,PV.num y] (· = .aw [PV.num (x/y),PV.num (x%y),.int .i64 0]):=by
 have:=RI (Qp x) (Qp y) hx hy
 rwa[Q7,Q7,if_neg h0]at this
theorem GL{a b:List Nat}(ha:Qq a)(hb:Qq b)(bu:a.length<2^36)(cT:b.length<2^36):Qc Tryz.prog 128 [PV.nat a,PV.nat b] (· =PV.num (Nat.gcd (val a) (val b))):=by
 have gD:=ck ha;have iV:=ck hb;refine Qf Qj Tryz.func128 rfl af1 (by simp[Jo]) fun C hP=>?_;simp only[Jo,Zo,Zg,Zm,Zc,Zf,Zl,Zh,Zs,Zi,Zb,Zk,Zn,Zu,Zq,Zr,Zz];refine Sz0 ?_;refine Qa hP (nE ha (by omega)) rfl rfl rfl ?_;refine Sz0 ?_;refine Qa hP (nE hb (by omega)) rfl rfl rfl ?_;refine Sz0 ?_;refine Qz (by repeat (first|exact Qs|exact Ql|exact Qm|exact Qn|exact Qo|apply Qk|apply Qr|apply Qw|apply Q5|apply Q6|apply Qi|apply Q2)) [(0,1),(5,7),(12,23)] [] (fun m J hp=>∃x,Nat.gcd x m=Nat.gcd (val a) (val b)/\nl x<2^36/\nl m<2^36/\J 0=PV.num x/\J 1=PV.num m/\hp=aF) (val b) ?_ ?_
 ·refine⟨val a,rfl,by omega,by omega,?_⟩;exact Tz0
 rintro y J _ ⟨x,hg,hx,hy,h0,h1,rfl⟩;generalize Nat.gcd (val a) (val b)=g at *
 refine Sz2 h0 h1 ?_;refine Qb (fun hc=>?_) (fun hc=>?_)
 ·have cX:y≠0:=fun h=>by rw[h,fH]at hc;simp at hc
  have Bo:=fJ (Nat.le_of_lt (Kbv x (KaY cX)));refine Sz2 h0 h1 ?_;refine Qa hP (RS (x:=x) (y:=y) hx hy cX) rfl rfl rfl ?_;refine Sz2 h0 h1 ?_;refine Qh (x%y) (Kbv _ (KaY cX)) ⟨y,?_,hy,by omega,?_⟩
  ·rw[<-hg,Kcx x y,Nat.gcd_rec y x,Kcx]
  ·exact Tz0
 ·have cX:y=0:=kq.1 (pk (by omega));subst cX;refine Sz1 h0 ?_;exact Qd (by rw[<-hg,Kc2]) rfl
theorem S'{x y:Nat}(hx:nl x<2^36)(hy:nl y<2^36):Qc Tryz.prog 128 [PV.num x,PV.num y] (· =PV.num (Nat.gcd x y)):=by
 have:=GL (Qp x) (Qp y) hx hy
 rwa[Q7,Q7]at this
theorem s6{n:Bool}{a:List Nat}(ha:Qq a)(bu:a.length<2^42):Qc Tryz.prog 133 [.bool n,PV.nat a] (· =PV.zz (zv n a)):=by
 refine Qf Qj Tryz.func133 rfl agG (by simp[Ju]) fun C hP=>?_;simp only[Ju,Zo,Zg,Zm,Zc,Zf,Zl,Zh,Zs,Zi,Zb,Zk,Zn,Zu,Zq,Zr,Zz];refine Sz0 ?_;refine Qa hP (nE ha bu) rfl rfl rfl ?_;refine Sz0 ?_;refine wY (fun hn=>?_) (fun hn=>?_)
 all_goals
  refine Sz0 ?_;refine dD ?_;refine Sz0 ?_;exact Qd (by have:=Ih n (val a);rw[hn]at this;subst hn;simpa[zv]using this) rfl
theorem Ct{n:Bool}{a:List Nat}(ha:Qq a)(bu:a.length<2^42):Qc Tryz.prog 132 [PV.zi n a] (· =PV.zz (zv n a)):=by refine Qf Qj Tryz.func132 rfl agH (by simp[Jt]) fun C hP=>?_;simp only[Jt,Zo,Zg,Zm,Zc,Zf,Zl,Zh,Zs,Zi,Zb,Zk,Zn,Zu,Zq,Zr,Zz];refine Sz0 ?_;refine Qa hP (s6 ha bu) rfl rfl rfl ?_;refine Sz0 ?_;refine dD ?_;refine Sz0 ?_;exact Qd rfl rfl
theorem Sd{n m:Bool}{a b:List Nat}(ha:Qq a)(hb:Qq b)(bu:a.length<2^40)(cT:b.length<2^40):Qc Tryz.prog 101 [PV.zi n a,PV.zi m b] (· =PV.zz (zv n a*zv m b)):=by
 have hr:nl (val a*val b)<2^42:=by have:=gL (val a) (val b);have:=ck ha;have:=ck hb;omega
 refine Qf Qj Tryz.func101 rfl agM (by simp[IY]) fun C hP=>?_;simp only[IY,Zo,Zg,Zm,Zc,Zf,Zl,Zh,Zs,Zi,Zb,Zk,Zn,Zu,Zq,Zr,Zz];refine Sz0 ?_;refine Qa hP (GK ha hb bu cT) rfl rfl rfl ?_;refine Sz0 ?_;refine Qa hP (s6 (n:= !(n==m)) (Qp (val a*val b)) hr) rfl rfl rfl ?_;refine Sz0 ?_;refine dD ?_;refine Sz0 ?_;exact Qd (congrArg PV.zz (by rw[rV];unfold zv;cases n<;>cases m<;>simp[Int.neg_mul,Int.mul_neg])) rfl
theorem Q8w{x:Int}(h1: -9223372036854775808<=x)(h2:x<=9223372036854775807):Qc Tryz.prog 73 [.int .i64 x] (· =PV.zz x):=by
 refine Qf Qj Tryz.func73 rfl ajt (by simp[Ld]) fun C hP=>?_;simp only[Ld,Zo,Zg,Zm,Zc,Zf,Zl,Zh,Zs,Zi,Zb,Zk,Zn,Zu,Zq,Zr,Zz];refine Sz0 ?_;refine Qb (fun hc=>?_) (fun hc=>?_)
 ·obtain⟨y,hy⟩:∃y:Nat,x= -((y:Int)+1):=⟨(-(x+1)).toNat,by omega⟩
  have e1:IntKind.i64.wrap (x+1)= -(y:Int):=by rw[vg (by omega) (by omega)];omega
  have e2:IntKind.i64.wrap (0- -(y:Int))=(y:Int):=by rw[vg (by omega) (by omega)];omega
  have e3:IntKind.u64.wrap (y:Int)=(y:Int):=rQ (by omega) (by omega);have l7:nl y<=4:=rN (by omega);have gm:nl (y+1)<=4:=rN (by omega);refine Sz3 e1 e2 e3 ?_;refine Qa hP (mB (n:=y) (by omega)) rfl rfl rfl ?_;refine Sz0 ?_;refine Qa hP (mB (n:=1) (by omega)) rfl rfl rfl ?_;refine Sz0 ?_;refine Qa hP (Sc (Qp y) (Qp 1) (show nl y<_ by omega) (show nl 1<_ by rw[jP];omega)) rfl rfl rfl ?_;refine Sz0 ?_;refine Qa hP (s6 (n:=true) (Qp (val (ah y)+val (ah 1))) (show nl _<_ by rw[Q7,Q7];omega)) rfl rfl rfl ?_;refine Sz0 ?_;refine dD ?_;refine Sz0 ?_;exact Qd (congrArg PV.zz (by rw[rV,Q7,Q7];simp;omega)) rfl
 ·obtain⟨y,rfl⟩:∃y:Nat,x=y:=⟨x.toNat,by omega⟩
  have l7:nl y<=4:=rN (by omega);refine Sz0 ?_;refine Qa hP (mB (by omega)) rfl rfl rfl ?_;refine Sz0 ?_;refine Qa hP (s6 (n:=false) (Qp y) (show nl _<_ by omega)) rfl rfl rfl ?_;refine Sz0 ?_;refine dD ?_;refine Sz0 ?_;exact Qd (congrArg PV.zz (by rw[rV];simp)) rfl
theorem Yh{n:Bool}{a:List Nat}(ha:Qq a)(bu:a.length<2^42):Qc Tryz.prog 104 [PV.zi n a] (· = .int .i64 (fu (zv n a))):=by
 refine Qf Qj Tryz.func104 rfl agI (by simp[I1]) fun C hP=>?_;simp only[I1,Zo,Zg,Zm,Zc,Zf,Zl,Zh,Zs,Zi,Zb,Zk,Zn,Zu,Zq,Zr,Zz];refine Sz0 ?_;refine Qa hP (Ct ha bu) rfl rfl rfl ?_;generalize zv n a=z;refine Sz0 ?_;refine Qb (fun hz=>?_) (fun hz=>?_)
 ·have:z=0:=by have:=kq.1 (pk (n:=z.natAbs) (by omega));omega
  subst this;refine Sz0 ?_;exact Qd rfl rfl
 ·have h0:z≠0:=fun h=>by subst h;exact hz (by simp[fH])
  refine Sz0 ?_;refine zF (fun hn=>?_) (fun hn=>?_)
  ·have hn:z<0:=by simpa using hn
   refine Sz0 ?_;exact Qd (by rw[fu,if_pos hn]) rfl
  ·have hn:¬z<0:=by simpa using hn
   refine Sz0 ?_;exact Qd (by rw[fu,if_neg hn,if_pos (by omega)]) rfl
theorem XO{n:Bool}{a:List Nat}(ha:Qq a)(bu:a.length<2^42):Qc Tryz.prog 139 [PV.zi n a] (· = .bool (nR n a)):=by
 refine Qf Qj Tryz.func139 rfl agF (by simp[JA]) fun C hP=>?_;simp only[JA,Zo,Zg,Zm,Zc,Zf,Zl,Zh,Zs,Zi,Zb,Zk,Zn,Zu,Zq,Zr,Zz];refine Sz0 ?_;refine Qa hP (RQ ha (by omega)) rfl rfl rfl ?_;refine Sz0 ?_;refine wY (fun hv=>?_) (fun hv=>?_)
 ·refine Sz0 ?_;refine wY (fun hn=>?_) (fun hn=>?_)
  ·refine Sz0 ?_;exact Qd (congrArg PV.bool (by unfold nR;subst hn;cases a<;>simp_all<;>omega)) rfl
  ·refine Sz0 ?_;exact Qd (congrArg PV.bool (by unfold nR;subst hn;cases a<;>simp_all)) rfl
 ·refine Sz0 ?_;exact Qd (congrArg PV.bool (by unfold nR;cases a<;>simp_all)) rfl
theorem YQ{n m:Bool}{a b:List Nat}(ha:Qq a)(hb:Qq b)(bu:a.length<2^41)(cT:b.length<2^41):Qc Tryz.prog 138 [PV.zi n a,PV.zi m b] (· = .int .i64 (cY (zv n a) (zv m b))):=by
 have hx:nl (zv n a).natAbs<2^41:=by rw[jN];have:=ck ha;omega
 have hy:nl (zv m b).natAbs<2^41:=by rw[jN];have:=ck hb;omega
 refine Qf Qj Tryz.func138 rfl agJ (by simp[Jz]) fun C hP=>?_;simp only[Jz,Zo,Zg,Zm,Zc,Zf,Zl,Zh,Zs,Zi,Zb,Zk,Zn,Zu,Zq,Zr,Zz];refine Sz0 ?_;refine Qa hP (Ct ha (by omega)) rfl rfl rfl ?_;refine Sz0 ?_;refine Qa hP (Ct hb (by omega)) rfl rfl rfl ?_;generalize zv n a=x at *
 generalize zv m b=y at *
 have lx:(ah x.natAbs).length<2^41:=hx;have ly:(ah y.natAbs).length<2^41:=hy;by_cases bw:x<0<;>by_cases cX:y<0
 ·refine Sz2 bw cX ?_;refine Qa hP (CK (Qp y.natAbs) (Qp x.natAbs) (by omega) (by omega)) rfl rfl rfl ?_;refine Sz0 ?_;exact Qd (congrArg (PV.int .i64) (by rw[Q7,Q7];unfold gR cY;split<;>split<;>(try split)<;>(try split)<;>omega)) rfl
 ·refine Sz2 bw cX ?_;exact Qd (congrArg (PV.int .i64) (by unfold cY;rw[if_pos (by omega)])) rfl
 ·refine Sz2 bw cX ?_;exact Qd (congrArg (PV.int .i64) (by unfold cY;rw[if_neg (by omega),if_pos (by omega)])) rfl
 ·refine Sz2 bw cX ?_;refine Qa hP (CK (Qp x.natAbs) (Qp y.natAbs) (by omega) (by omega)) rfl rfl rfl ?_;refine Sz0 ?_;exact Qd (congrArg (PV.int .i64) (by rw[Q7,Q7];unfold gR cY;split<;>split<;>(try split)<;>(try split)<;>omega)) rfl
theorem YR{n m:Bool}{a b:List Nat}(ha:Qq a)(hb:Qq b)(bu:a.length<2^40)(cT:b.length<2^40):Qc Tryz.prog 100 [PV.zi n a,PV.zi m b] (· =PV.zz (zv n a+zv m b)):=by
 have gD:=ck ha;have iV:=ck hb;refine Qf Qj Tryz.func100 rfl agL (by simp[IX]) fun C hP=>?_;simp only[IX,Zo,Zg,Zm,Zc,Zf,Zl,Zh,Zs,Zi,Zb,Zk,Zn,Zu,Zq,Zr,Zz];refine Sz0 ?_;refine zF (fun jZ=>?_) (fun jZ=>?_)
 ·have jZ:n=m:=by simpa using jZ
  subst jZ;have hr:=vz (val a) (val b);refine Sz0 ?_;refine Qa hP (Sc ha hb bu cT) rfl rfl rfl ?_;refine Sz0 ?_;refine Qa hP (s6 (n:=n) (Qp (val a+val b)) (show nl _<_ by omega)) rfl rfl rfl ?_;refine Sz0 ?_;refine dD ?_;refine Sz0 ?_;exact Qd (congrArg PV.zz (by rw[rV];unfold zv;split<;>simp<;>omega)) rfl
 have jZ:n= !m:=by cases n<;>cases m<;>simp_all
 subst jZ;refine Sz0 ?_;refine Qa hP (GJ ha hb bu cT) rfl rfl rfl ?_;by_cases hc:val a<val b
 ·rw[if_pos hc];have hr:=fJ (Nat.sub_le (val b) (val a));refine Sz0 ?_;refine Qa hP (GJ hb ha cT bu) rfl rfl rfl ?_;rw[if_neg (by omega)];refine Sz0 ?_;refine Qa hP (s6 (n:=m) (Qp (val b-val a)) (show nl _<_ by omega)) rfl rfl rfl ?_;refine Sz0 ?_;refine dD ?_;refine Sz0 ?_;exact Qd (congrArg PV.zz (by rw[rV];unfold zv;cases m<;>simp<;>omega)) rfl
 ·rw[if_neg hc];have hr:=fJ (Nat.sub_le (val a) (val b));refine Sz0 ?_;refine Qa hP (s6 (n:= !m) (Qp (val a-val b)) (show nl _<_ by omega)) rfl rfl rfl ?_;refine Sz0 ?_;refine dD ?_;refine Sz0 ?_;exact Qd (congrArg PV.zz (by rw[rV];unfold zv;cases m<;>simp<;>omega)) rfl
theorem R3{a:List Nat}{g:Nat}(ha:Qq a)(hx:a.length<2^36)(hy:nl g<2^36)(h0:g≠0):Qc Tryz.prog 129 [PV.nat a,PV.num g] (· = .aw [PV.num (val a/g),PV.num (val a%g),.int .i64 0]):=by
 have:=RI ha (Qp g) hx hy
 rwa[Q7,if_neg h0]at this
theorem ajB(n:Bool)(a:List Nat)(D:Nat):zv n (ah (val a/Nat.gcd (val a) D))=zv n a/(Nat.gcd (zv n a).natAbs D:Int):=by
 rw[jN,rV];unfold zv;cases n
 ·simp
 ·have hd:((Nat.gcd (val a) D:Nat):Int)∣(val a:Int):=Int.natCast_dvd_natCast.2 (KbI _ _);simp only[if_true];rw[Int.neg_ediv_of_dvd hd,Int.natCast_ediv]
theorem R4{n:Bool}{a d:List Nat}(ha:Qq a)(hd:Qq d)(bu:a.length<2^36)(wc:d.length<2^36):Qc Tryz.prog 72 [PV.zi n a,PV.nat d] (· =PV.rat (rv n a d)):=by
 have Bp:=ck ha;have MP:=ck hd;refine Qf Qj Tryz.func72 rfl ajv (by simp[Lc]) fun C hP=>?_;simp only[Lc,Zo,Zg,Zm,Zc,Zf,Zl,Zh,Zs,Zi,Zb,Zk,Zn,Zu,Zq,Zr,Zz];refine Sz0 ?_;refine Qa hP (nE hd (by omega)) rfl rfl rfl ?_;refine Sz0 ?_;refine Qb (fun hz=>?_) (fun hz=>?_)
 ·have h0:val d=0:=kq.1 (pk (n:=val d) (by omega));refine Sz0 ?_;refine Qa hP (mB (n:=1) (by omega)) rfl rfl rfl ?_;refine Sz0 ?_;refine dD ?_;refine Sz0 ?_;exact(by unfold rv;rw[Sq (.inl h0),rT];exact nK Pv rfl)
 ·have h0:val d≠0:=fun h=>by rw[h,fH]at hz;exact hz rfl
  have im:Nat.gcd (val a) (val d)≠0:=fun h=>h0 (Nat.gcd_eq_zero_iff.1 h).2;have hg:=fJ (Kde (val a) (KaY h0));have hq:=vA (val a) (Nat.gcd (val a) (val d));refine Sz0 ?_;refine Qa hP (GL ha hd bu wc) rfl rfl rfl ?_;refine Sz0 ?_;refine Qa hP (R3 ha bu (by omega) im) rfl rfl rfl ?_;refine Sz0 ?_;refine Qa hP (R3 hd wc (by omega) im) rfl rfl rfl ?_;refine Sz0 ?_;refine Qa hP (Ct (n:=n) (Qp (val a/Nat.gcd (val a) (val d))) (show nl _<_ by omega)) rfl rfl rfl ?_;rw[ajB];have hm:=zJ (z:=zv n a) h0;refine Sz0 ?_;refine dD ?_;refine Sz0 ?_;exact Qd (by unfold rv;rw[PV.rat,hm.1,hm.2,jN]) rfl
theorem uX{n:Bool}{a d:List Nat}{k:Nat}(hp:Raw k n a d)(hk:k<2^36):Qc Tryz.prog 97 [PV.rr n a d] (· =PV.rat (rv n a d)):=by obtain⟨ha,hd,sa,sd,k1⟩:=hp;refine Qf Qj Tryz.func97 rfl ajw (by simp[LD]) fun C hP=>?_;simp only[LD,Zo,Zg,Zm,Zc,Zf,Zl,Zh,Zs,Zi,Zb,Zk,Zn,Zu,Zq,Zr,Zz];refine Sz0 ?_;refine Qa hP (R4 (n:=n) ha hd (by omega) (by omega)) rfl rfl rfl ?_;refine Sz0 ?_;refine dD ?_;refine Sz0 ?_;exact Qd rfl rfl
theorem zs{z:Int}{D:Nat}(hz:nl z.natAbs<2^36)(hD:nl D<2^36):Qc Tryz.prog 72 [PV.zz z,PV.num D] (· =PV.rat (mkRat z D)):=by
 have:=R4 (n:=decide (z<0)) (Qp z.natAbs) (Qp D) hz hD
 rwa[rv,lM,Q7]at this
theorem u5{x:Int}(h1: -9223372036854775808<=x)(h2:x<=9223372036854775807):Qc Tryz.prog 32 [.int .i64 x] (· =PV.rat (x:Rat)):=by have l7:nl x.natAbs<=4:=rN (by omega);refine Qf Qj Tryz.func32 rfl ajx (by simp[KB]) fun C hP=>?_;simp only[KB,Zo,Zg,Zm,Zc,Zf,Zl,Zh,Zs,Zi,Zb,Zk,Zn,Zu,Zq,Zr,Zz];refine Sz0 ?_;refine Qa hP (Q8w h1 h2) rfl rfl rfl ?_;refine Sz0 ?_;refine Qa hP (mB (n:=1) (by omega)) rfl rfl rfl ?_;refine Sz0 ?_;refine Qa hP (zs (z:=x) (D:=1) (by omega) (by rw[jP];omega)) rfl rfl rfl ?_;refine Sz0 ?_;refine dD ?_;refine Sz0 ?_;exact Qd (congrArg PV.rat (Rat.mkRat_one x)) rfl
theorem Co(d:List Nat):Qc Tryz.prog 102 [PV.nat d] (· =PV.zi false d):=by refine Qf Qj Tryz.func102 rfl agO (by simp[IZ]) fun C hP=>?_;simp only[IZ,Zo,Zg,Zm,Zc,Zf,Zl,Zh,Zs,Zi,Zb,Zk,Zn,Zu,Zq,Zr,Zz];refine Sz0 ?_;refine dD ?_;refine Sz0 ?_;exact Qd rfl rfl
theorem G8{x:Int}(hx:nl x.natAbs<2^42):Qc Tryz.prog 104 [PV.zz x] (· = .int .i64 (fu x)):=by
 have:=Yh (n:=decide (x<0)) (Qp x.natAbs) hx
 rwa[lM]at this
theorem CD{n:Bool}{a d:List Nat}{k:Nat}(hp:Raw k n a d)(hk:k<2^36):Qc Tryz.prog 56 [PV.rr n a d] (· = .int .i64 (gf (rv n a d))):=by have hs:=hp.rs;unfold FW.rs at hs;refine Qf Qj Tryz.func56 rfl ajy (by simp[KW]) fun C hP=>?_;simp only[KW,Zo,Zg,Zm,Zc,Zf,Zl,Zh,Zs,Zi,Zb,Zk,Zn,Zu,Zq,Zr,Zz];refine Sz0 ?_;refine Qa hP (uX hp hk) rfl rfl rfl ?_;refine Sz0 ?_;refine Qa hP (G8 (x:=(rv n a d).num) (by omega)) rfl rfl rfl ?_;refine Sz0 ?_;exact Qd rfl rfl
theorem Dd{x:Int}{d:Nat}(hx:nl x.natAbs<2^40)(hy:nl d<2^40):Qc Tryz.prog 101 [PV.zz x,PV.zi false (ah d)] (· =PV.zz (x*(d:Int))):=by
 have:=Sd (n:=decide (x<0)) (m:=false) (Qp x.natAbs) (Qp d) hx hy
 rwa[lM,tB,Q7]at this
theorem ab2{x y:Int}(hx:nl x.natAbs<2^40)(hy:nl y.natAbs<2^40):Qc Tryz.prog 100 [PV.zz x,PV.zz y] (· =PV.zz (x+y)):=by
 have:=YR (n:=decide (x<0)) (m:=decide (y<0)) (Qp x.natAbs) (Qp y.natAbs) hx hy
 rwa[lM,lM]at this
theorem ab3{x y:Int}(hx:nl x.natAbs<2^41)(hy:nl y.natAbs<2^41):Qc Tryz.prog 138 [PV.zz x,PV.zz y] (· = .int .i64 (cY x y)):=by
 have:=YQ (n:=decide (x<0)) (m:=decide (y<0)) (Qp x.natAbs) (Qp y.natAbs) hx hy
 rwa[lM,lM]at this
theorem Se{n m:Bool}{a d b c:List Nat}{k:Nat}(hp:Raw k n a d)(hq:Raw k m b c)(hk:k<2^34):Qc Tryz.prog 116 [PV.rr n a d,PV.rr m b c] (· =PV.rat (rv n a d*rv m b c)):=by obtain⟨ha,hd,sa,sd,k1⟩:=hp;obtain⟨hb,hc,sb,sc,k2⟩:=hq;have h1:=lH (zv n a) (zv m b);have h2:=gL (val d) (val c);rw[jN,jN]at h1;have e1:=ck ha;have e2:=ck hd;have e3:=ck hb;have e4:=ck hc;refine Qf Qj Tryz.func116 rfl agP (by simp[Jc]) fun C hP=>?_;simp only[Jc,Zo,Zg,Zm,Zc,Zf,Zl,Zh,Zs,Zi,Zb,Zk,Zn,Zu,Zq,Zr,Zz];refine Sz0 ?_;refine Qa hP (Sd (n:=n) (m:=m) ha hb (by omega) (by omega)) rfl rfl rfl ?_;refine Sz0 ?_;refine Qa hP (GK hd hc (by omega) (by omega)) rfl rfl rfl ?_;refine Sz0 ?_;refine Qa hP (zs (z:=zv n a*zv m b) (D:=val d*val c) (by omega) (by omega)) rfl rfl rfl ?_;refine Sz0 ?_;refine dD ?_;refine Sz0 ?_;exact Qd (congrArg PV.rat (Rat.mkRat_mul_mkRat _ _ _ _).symm) rfl
theorem YS{n m:Bool}{a d b c:List Nat}{k:Nat}(hp:Raw k n a d)(hq:Raw k m b c)(hk:k<2^34):Qc Tryz.prog 81 [PV.rr n a d,PV.rr m b c] (· = .int .i64 (oa (rv n a d) (rv m b c))):=by
 have hx:=hp.rs;have hy:=hq.rs;unfold FW.rs at hx hy;refine Qf Qj Tryz.func81 rfl ajz (by simp[Lm]) fun C hP=>?_;simp only[Lm,Zo,Zg,Zm,Zc,Zf,Zl,Zh,Zs,Zi,Zb,Zk,Zn,Zu,Zq,Zr,Zz];refine Sz0 ?_;refine Qa hP (uX hp (by omega)) rfl rfl rfl ?_;refine Sz0 ?_;refine Qa hP (uX hq (by omega)) rfl rfl rfl ?_;generalize rv n a d=p at *
 generalize rv m b c=q at *
 have h1:=lH p.num (q.den:Int);have h2:=lH q.num (p.den:Int);rw[KaD]at h1 h2;refine Sz0 ?_;refine Qa hP (Co (ah q.den)) rfl rfl rfl ?_;refine Sz0 ?_;refine Qa hP (Dd (x:=p.num) (d:=q.den) (by omega) (by omega)) rfl rfl rfl ?_;refine Sz0 ?_;refine Qa hP (Co (ah p.den)) rfl rfl rfl ?_;refine Sz0 ?_;refine Qa hP (Dd (x:=q.num) (d:=p.den) (by omega) (by omega)) rfl rfl rfl ?_;refine Sz0 ?_;refine Qa hP (ab3 (x:=p.num*(q.den:Int)) (y:=q.num*(p.den:Int)) (by omega) (by omega)) rfl rfl rfl ?_;refine Sz0 ?_;exact Qd (congrArg (PV.int .i64) (by rw[<-Pw p.den_nz q.den_nz,Kc5,Kc5])) rfl
theorem Sf{n m:Bool}{a d b c:List Nat}{k:Nat}(hp:Raw k n a d)(hq:Raw k m b c)(hk:k<2^34):Qc Tryz.prog 55 [PV.rr n a d,PV.rr m b c] (· =PV.rat (rv n a d+rv m b c)):=by
 have hx:=hp.rs;have hy:=hq.rs;unfold FW.rs at hx hy;refine Qf Qj Tryz.func55 rfl ajA (by simp[KV]) fun C hP=>?_;simp only[KV,Zo,Zg,Zm,Zc,Zf,Zl,Zh,Zs,Zi,Zb,Zk,Zn,Zu,Zq,Zr,Zz];refine Sz0 ?_;refine Qa hP (uX hp (by omega)) rfl rfl rfl ?_;refine Sz0 ?_;refine Qa hP (uX hq (by omega)) rfl rfl rfl ?_;generalize rv n a d=p at *
 generalize rv m b c=q at *
 have h1:=lH p.num (q.den:Int);have h2:=lH q.num (p.den:Int);have h3:=zc (p.num*(q.den:Int)) (q.num*(p.den:Int));have h4:=gL p.den q.den;rw[KaD]at h1 h2;refine Sz0 ?_;refine Qa hP (Co (ah q.den)) rfl rfl rfl ?_;refine Sz0 ?_;refine Qa hP (Dd (x:=p.num) (d:=q.den) (by omega) (by omega)) rfl rfl rfl ?_;refine Sz0 ?_;refine Qa hP (Co (ah p.den)) rfl rfl rfl ?_;refine Sz0 ?_;refine Qa hP (Dd (x:=q.num) (d:=p.den) (by omega) (by omega)) rfl rfl rfl ?_;refine Sz0 ?_;refine Qa hP (ab2 (x:=p.num*(q.den:Int)) (y:=q.num*(p.den:Int)) (by omega) (by omega)) rfl rfl rfl ?_;refine Sz0 ?_;refine Qa hP (zr (x:=p.den) (y:=q.den) (by omega) (by omega)) rfl rfl rfl ?_;refine Sz0 ?_;refine Qa hP (zs (z:=p.num*(q.den:Int)+q.num*(p.den:Int)) (D:=p.den*q.den) (by omega) (by omega)) rfl rfl rfl ?_;refine Sz0 ?_;refine dD ?_;refine Sz0 ?_;exact Qd (congrArg PV.rat (by rw[<-Rat.mkRat_add_mkRat _ _ p.den_nz q.den_nz,Kc5,Kc5])) rfl
theorem XP{n:Bool}{a d:List Nat}{k:Nat}(hp:Raw k n a d)(hk:k<2^36):Qc Tryz.prog 82 [PV.rr n a d] (· = .bool (pI n a d)):=by
 obtain⟨ha,hd,sa,sd,k1⟩:=hp;have oY:(ah (Nat.gcd (val a) (val d))).length<2^43:=by
  by_cases h0:val d=0
  ·rw[h0,Kc2];have h4:=ck ha;unfold nl at h4;omega
  ·have h3:=fJ (Kde (val a) (KaY h0));have h4:=ck hd;unfold nl at h3 h4;omega
 refine Qf Qj Tryz.func82 rfl aju (by simp[Ln]) fun C hP=>?_;simp only[Ln,Zo,Zg,Zm,Zc,Zf,Zl,Zh,Zs,Zi,Zb,Zk,Zn,Zu,Zq,Zr,Zz];refine Sz0 ?_;refine Qa hP (XO ha (by omega)) rfl rfl rfl ?_;unfold pI;refine Sz0 ?_;cases hio:nR n a
 ·refine Sz0 ?_;exact Qd (by simp) rfl
 rw[KbU];refine Sz0 ?_;refine Qa hP (RQ hd (by omega)) rfl rfl rfl ?_;refine Sz0 ?_;refine wY (fun hv=>?_) (fun hv=>?_)
 ·refine Sz0 ?_;refine Qa hP (GL ha hd (by omega) (by omega)) rfl rfl rfl ?_;refine Sz0 ?_;refine Qa hP (mB (n:=1) (by omega)) rfl rfl rfl ?_;refine Sz0 ?_;refine Qa hP (Yg oY (by rw[rT];decide)) rfl rfl rfl ?_;rw[rT,decide_eq_decide.2 (R9 (Nat.gcd (val a) (val d)))];refine Sz0 ?_;refine ga (fun hg=>?_) (fun hg=>?_)
  ·refine Sz0 ?_;exact Qd (congrArg PV.bool (by cases d<;>simp_all)) rfl
  ·refine Sz0 ?_;exact Qd (congrArg PV.bool (by simp[hg])) rfl
 ·refine Sz0 ?_;exact Qd (congrArg PV.bool (by simp_all)) rfl
theorem Gv(x:Int):Qc Tryz.prog 98 [.int .i64 x] (· = .int .i64 (fu x)):=by
 refine Qf Qj Tryz.func98 rfl ai2 (by simp[LG]) fun C hP=>?_;simp only[LG,Zo,Zg,Zm,Zc,Zf,Zl,Zh,Zs,Zi,Zb,Zk,Zn,Zu,Zq,Zr,Zz];refine Sz0 ?_;refine Qb (fun h=>?_) (fun h=>?_)
 ·refine Sz0 ?_;exact Qd (by rw[fu,if_pos h]) rfl
 refine Sz0 ?_;refine Qb (fun h2=>?_) (fun h2=>?_)
 ·refine Sz0 ?_;exact Qd (by rw[fu,if_neg h,if_pos h2]) rfl
 ·refine Sz0 ?_;exact Qd (by rw[fu,if_neg h,if_neg h2]) rfl
theorem Sg{a:List Int}{v:Int}(hl:a.length<2^42):Qc Tryz.prog 99 [PV.mono a,.int .i64 v] (· = .int .i64 (if v<0 then 0 else eN a v.toNat)):=by
 refine Qf Qj Tryz.func99 rfl ai0 (by simp[LH]) fun C hP=>?_;simp only[LH,Zo,Zg,Zm,Zc,Zf,Zl,Zh,Zs,Zi,Zb,Zk,Zn,Zu,Zq,Zr,Zz];refine Sz0 ?_;refine dI (fun h1=>?_) (fun h1=>?_)
 ·refine Sz0 ?_;exact Qd (by rw[if_pos h1]) rfl
 ·obtain⟨n,rfl⟩:∃n:Nat,v=n:=⟨v.toNat,by omega⟩
  rw[if_neg h1];refine Sz0 ?_;refine Qb (fun h2=>?_) (fun h2=>?_)
  ·refine Sz0 ?_;exact Qd (by rw[fB (by omega)]) rfl
  ·have hn:n<a.length:=by omega
   refine Sz0 ?_;exact Qd (by rw[fk hn]) rfl
theorem nG{a:List Int}{i:Nat}(hl:a.length<2^42):Qc Tryz.prog 99 [PV.mono a,.int .i64 i] (· = .int .i64 (eN a i)):=by
 have:=Sg (v:=i) hl
 rwa[if_neg (by omega),KbM]at this
theorem y9{a:List Int}(hl:a.length<=1048576)(hb:∀x∈a,0<=x/\x<=1099511627776):Qc Tryz.prog 51 [PV.mono a] (· = .int .i64 (fm a)):=by
 refine Qf Qj Tryz.func51 rfl aiZ (by simp[KR]) fun C hP=>?_;simp only[KR,Zo,Zg,Zm,Zc,Zf,Zl,Zh,Zs,Zi,Zb,Zk,Zn,Zu,Zq,Zr,Zz];refine Sz0 ?_;refine Qz (by repeat (first|exact Qs|exact Ql|exact Qm|exact Qn|exact Qo|apply Qk|apply Qr|apply Qw|apply Q5|apply Q6|apply Qi|apply Q2)) [(3,16)] [] (fun k J hp=>∃(i:Nat)(s:Int),k=a.length-i/\i<=a.length/\0<=s/\s<=1099511627776*i/\s+(a.drop i).sum=fm a/\J 4= .int .i64 (i:Nat)/\J 3= .int .i64 s/\hp=aF) a.length ?_ ?_
 ·refine⟨0,0,rfl,by omega,by omega,by omega,by simp[fm],?_⟩;refine Sz0 ?_;simp
 rintro _ J _ ⟨i,s,rfl,hi,Bv,gq,qi,h4,h3,rfl⟩;refine Sz2 h4 h3 ?_;refine Qb (fun hg=>?_) (fun hg=>?_)
 ·have aC:i<a.length:=by omega
  have hx:=hb _ (Kag aC);rw[Kaz aC,Kdi]at qi;generalize dS:a[i]=x at *
  refine Sz3 h4 h3 dS ?_;refine Qh (a.length-(i+1)) (by omega) ⟨i+1,s+x,rfl,by omega,by omega,by push_cast;omega,by omega,?_⟩;exact Tz0
 ·rw[Kal (by omega),List.sum_nil,Int.add_zero]at qi;refine Sz1 h3 ?_;exact Qd (by rw[qi]) rfl
theorem YT{l:List Int}(hl:l.length<2^42):Qc Tryz.prog 183 [PV.mono l] (· =PV.mono (gO l)):=by
 refine Qf Qj Tryz.func183 rfl af9 (by simp[Kn]) fun C hP=>?_;simp only[Kn,Zo,Zg,Zm,Zc,Zf,Zl,Zh,Zs,Zi,Zb,Zk,Zn,Zu,Zq,Zr,Zz];refine Sz0 ?_;refine Qz (by repeat (first|exact Qs|exact Ql|exact Qm|exact Qn|exact Qo|apply Qk|apply Qr|apply Qw|apply Q5|apply Q6|apply Qi|apply Q2)) [(3,3),(7,18)] [] (fun m J hp=>m<=l.length/\kA l m=gO l/\J 3= .int .i64 m/\hp=aF) l.length ?_ ?_
 ·refine⟨Kac _,rfl,?_⟩;exact Tz0
 rintro n J _ ⟨hn,hc,h3,rfl⟩;refine Sz1 h3 ?_;refine ga (fun hg=>?_) (fun hg=>?_)
 ·obtain _|n:=n
  ·omega
  have e:((n+1:Nat):Int)-1=n:=by omega
  simp only[kA]at hc;simp+decide (disch:=try exact D2 h3 e) only[go_sem,h3,e];refine Qb (fun hz=>?_) (fun hz=>?_)
  ·rw[if_pos (by simp[hz,show n<l.length by omega])]at hc;refine Sz2 h3 e ?_;refine Qh n (by omega) ⟨by omega,hc,?_⟩;exact Tz0
  ·rw[if_neg (by simpa[show n<l.length by omega]using hz)]at hc;have ar:(l.take (n+1)).length<2^42:=by rw[KaF];omega
   refine kF h3 e ?_;exact Qd (by rw[Kae (by simp),hc]) rfl
 ·obtain rfl:n=0:=by omega
  simp+decide (disch:=first|omega|rfl|(simp+decide only[go_sem,h3,Kb5,Kbt,Kbk]<;>rfl)|fail) only[go_sem,h3,Kb5,Kbt,Kbk];rw[CP (ys:=[]) rfl (by omega) (by simp) (by simp)];refine eK ?_;exact Qd (by rw[<-hc];rfl) rfl
theorem RU{a:List Int}(hl:a.length<2^42):Qc Tryz.prog 83 [PV.mono a] (· = .bool (fy a)):=by
 refine Qf Qj Tryz.func83 rfl aiY (by simp[Lo]) fun C hP=>?_;simp only[Lo,Zo,Zg,Zm,Zc,Zf,Zl,Zh,Zs,Zi,Zb,Zk,Zn,Zu,Zq,Zr,Zz];refine Sz0 ?_;have bad:(64<a.length∨a.getLast? =some 0∨∃x∈a,x<0∨1048576<x)->fy a=false:=fun h=>by
  cases hb:fy a with
  |false=>rfl
  |true=>
   have:=MB.uI hb;simp only[fy,Kat,decide_eq_true_eq]at hb;rcases h with h|h|⟨x,hx,h⟩
   ·omega
   ·exact absurd h hb.2.1
   ·have h5:=this.lo x hx;have h6:=this.hi x hx;omega
 refine dI (fun h1=>?_) (fun h1=>?_)
 ·refine Sz0 ?_;exact Qd (by rw[bad (.inl (by omega))]) rfl
 refine Sz0 ?_;have fin:a.length<=64->a.getLast? ≠some 0->(∀x∈a,0<=x/\x<=1048576)->fy a=true:=fun h1 h2 h3=>by simp only[fy,Kat,decide_eq_true_eq,Kay];exact⟨h1,h2,h3⟩
 refine ga (fun h2=>?_) (fun h2=>?_)
 ·obtain⟨k,hk⟩:∃k,a.length=k+1:=⟨a.length-1,by omega⟩
  have js:=DC hk;have e:((k+1:Nat):Int)-1=k:=by omega
  generalize hy:a[k]'(by omega)=y at *
  refine Sz3 hk e hy ?_;refine Qb (fun h3=>?_) (fun h3=>?_)
  ·refine Sz0 ?_;exact Qd (by rw[bad (.inr (.inl (by rw[js,h3])))]) rfl
  have js:a.getLast? ≠some 0:=by rw[js];simpa using h3
  rw[<-hk]at *
  refine Sz0 ?_;refine Qz (by repeat (first|exact Qs|exact Ql|exact Qm|exact Qn|exact Qo|apply Qk|apply Qr|apply Qw|apply Q5|apply Q6|apply Qi|apply Q2)) [(2,3),(21,38)] [] (fun k J hp=>∃i,k=a.length-i/\i<=a.length/\(∀x∈a.take i,0<=x/\x<=1048576)/\J 3= .int .i64 i/\hp=aF) a.length ?_ ?_
  ·refine⟨0,rfl,by omega,by simp,?_⟩;refine Sz0 ?_;rfl
  rintro _ J _ ⟨i,rfl,hi,cw,hj,rfl⟩;refine Sz1 hj ?_;refine Qb (fun hg=>?_) (fun hg=>?_)
  ·have aC:i<a.length:=by omega
   have eC:=Kag aC;have bk:∀x∈a.take (i+1),x∈a.take i∨x=a[i]:=fun x hx=>by
    rw[Kah aC]at hx;rcases KaV.1 hx with h|h
    ·exact .inl h
    ·exact .inr (KaO.1 h)
   generalize hx:a[i]=x at *
   refine Sz2 hj hx ?_;refine dI (fun h5=>?_) (fun h5=>?_)
   ·refine Sz0 ?_;exact Qd (by rw[bad (.inr (.inr ⟨x,eC,.inl h5⟩))]) rfl
   ·refine Sz2 hj hx ?_;refine Qb (fun h6=>?_) (fun h6=>?_)
    ·refine Sz0 ?_;exact Qd (by rw[bad (.inr (.inr ⟨x,eC,.inr h6⟩))]) rfl
    ·refine Sz1 hj ?_;refine Qh (a.length-(i+1)) (by omega) ⟨i+1,rfl,by omega,fun y hy=>?_,?_⟩
     ·rcases bk y hy with h|rfl
      ·exact cw y h
      ·omega
     ·exact Tz0
  ·rw[Kae (by omega)]at cw;refine Sz0 ?_;exact Qd (by rw[fin (by omega) js cw]) rfl
 ·have Fg:a=[]:=Kas.1 (by omega);have js:a.getLast? ≠some 0:=by rw[Fg];simp
  refine Sz0 ?_;refine Qz (by repeat (first|exact Qs|exact Ql|exact Qm|exact Qn|exact Qo|apply Qk|apply Qr|apply Qw|apply Q5|apply Q6|apply Qi|apply Q2)) [(2,3),(21,38)] [] (fun k J hp=>∃i,k=a.length-i/\i<=a.length/\(∀x∈a.take i,0<=x/\x<=1048576)/\J 3= .int .i64 i/\hp=aF) a.length ?_ ?_
  ·refine⟨0,rfl,by omega,by simp,?_⟩;refine Sz0 ?_;rfl
  rintro _ J _ ⟨i,rfl,hi,cw,hj,rfl⟩;refine Sz1 hj ?_;refine Qb (fun hg=>?_) (fun hg=>?_)
  ·have aC:i<a.length:=by omega
   have eC:=Kag aC;have bk:∀x∈a.take (i+1),x∈a.take i∨x=a[i]:=fun x hx=>by
    rw[Kah aC]at hx;rcases KaV.1 hx with h|h
    ·exact .inl h
    ·exact .inr (KaO.1 h)
   generalize hx:a[i]=x at *
   refine Sz2 hj hx ?_;refine dI (fun h5=>?_) (fun h5=>?_)
   ·refine Sz0 ?_;exact Qd (by rw[bad (.inr (.inr ⟨x,eC,.inl h5⟩))]) rfl
   ·refine Sz2 hj hx ?_;refine Qb (fun h6=>?_) (fun h6=>?_)
    ·refine Sz0 ?_;exact Qd (by rw[bad (.inr (.inr ⟨x,eC,.inr h6⟩))]) rfl
    ·refine Sz1 hj ?_;refine Qh (a.length-(i+1)) (by omega) ⟨i+1,rfl,by omega,fun y hy=>?_,?_⟩
     ·rcases bk y hy with h|rfl
      ·exact cw y h
      ·omega
     ·exact Tz0
  ·rw[Kae (by omega)]at cw;refine Sz0 ?_;exact Qd (by rw[fin (by omega) js cw]) rfl
theorem R5{a:List Int}(hl:a.length<2^42):Qc Tryz.prog 181 [PV.mono a] (· =PV.mono (if fy (gO a)then gO a else [])):=by
 have ht:=sZ a;refine Qf Qj Tryz.func181 rfl aga (by simp[Kl]) fun C hP=>?_;simp only[Kl,Zo,Zg,Zm,Zc,Zf,Zl,Zh,Zs,Zi,Zb,Zk,Zn,Zu,Zq,Zr,Zz];refine Sz0 ?_;refine Qa hP (YT hl) rfl rfl rfl ?_;refine Sz0 ?_;refine Qa hP (RU (by omega)) rfl rfl rfl ?_;refine Sz0 ?_;cases cz:fy (gO a)
 ·refine Sz1 @Bool.not_false ?_;exact nK (Uu (by simp)) rfl
 ·have:(gO a).length<=64:=(MB.uI cz).len;refine sg @Bool.not_true ?_;exact Qd (by simp[Kae]) rfl
theorem YU{k:Nat}{a b:List Int}(ha:MB k a)(hb:MB k b)(hk:k<=1099511627776):Qc Tryz.prog 117 [PV.mono a,PV.mono b] (· =PV.mono (kB (· + ·) a b)):=by
 have h1:=ha.len;have h2:=hb.len;have hz:=pq (· + ·) a b;refine Qf Qj Tryz.func117 rfl agb (by simp[Jd]) fun C hP=>?_;simp only[Jd,Zo,Zg,Zm,Zc,Zf,Zl,Zh,Zs,Zi,Zb,Zk,Zn,Zu,Zq,Zr,Zz];refine Sz0 ?_;refine kt 5 900 1 3 (by omega) Tz0 ?_;refine Qz (by repeat (first|exact Qs|exact Ql|exact Qm|exact Qn|exact Qo|apply Qk|apply Qr|apply Qw|apply Q5|apply Q6|apply Qi|apply Q2)) [(5,28)] [27,28,900] (fun m J hp=>∃(i:Nat)(out:List Int),m=max a.length b.length-i/\i<=max a.length b.length/\out=(kB (· + ·) a b).take i/\J 5= .ms 900 out.length/\J 6= .int .i64 i/\hp 900=some ⟨1,3,iP out,false⟩) (max a.length b.length) ?_ ?_
 ·refine⟨0,[],rfl,by omega,by simp,?_⟩;refine Sz0 ?_;simp
 rintro _ J h ⟨i,out,rfl,hi,iY,h5,h6,hh⟩;have fE:out.length=i:=by rw[iY,KaF,hz];omega
 refine Sz2 h5 h6 ?_;refine dI (fun hg=>?_) (fun hg=>?_)
 ·have ar:i<max a.length b.length:=by omega
  have bk:=Hi (g:=(· + ·)) ar;have ea:=ha.eN i;have eb:=hb.eN i;refine Sz2 h5 h6 ?_;refine Qa hP (nG (a:=a) (i:=i) (by omega)) rfl rfl rfl ?_;refine Sz2 h5 h6 ?_;refine Qa hP (nG (a:=b) (i:=i) (by omega)) rfl rfl rfl ?_;refine Sz2 h5 h6 ?_;rw[Q9 (f:=fun(x:Int)=>.int .i64 x) (y:=eN a i+eN b i) (xs:=out) (ty':=3) (fz:=false) (Tz1 hh) cC (by omega) rfl (by omega) (by omega)];refine Sz2 h5 h6 ?_;refine Qh (max a.length b.length-(i+1)) (by omega) ⟨i+1,out++[eN a i+eN b i],rfl,by omega,by rw[bk,iY],?_⟩;refine Sz0 ?_;simp
 refine Sz2 h5 h6 ?_;refine Qb (fun fN=>?_) (fun fN=>?_)
 ·have ar:i<max a.length b.length:=by omega
  have bk:=Hi (g:=(· + ·)) ar;have ea:=ha.eN i;have eb:=hb.eN i;refine Sz2 h5 h6 ?_;refine Qa hP (nG (a:=a) (i:=i) (by omega)) rfl rfl rfl ?_;refine Sz2 h5 h6 ?_;refine Qa hP (nG (a:=b) (i:=i) (by omega)) rfl rfl rfl ?_;refine Sz2 h5 h6 ?_;rw[Q9 (f:=fun(x:Int)=>.int .i64 x) (y:=eN a i+eN b i) (xs:=out) (ty':=3) (fz:=false) (Tz1 hh) cC (by omega) rfl (by omega) (by omega)];refine Sz2 h5 h6 ?_;refine Qh (max a.length b.length-(i+1)) (by omega) ⟨i+1,out++[eN a i+eN b i],rfl,by omega,by rw[bk,iY],?_⟩;refine Sz0 ?_;simp
 obtain rfl:i=max a.length b.length:=by omega
 rw[Kae (by omega)]at iY;subst iY;refine kF h5 hh ?_;exact Qd (by rw[Kae (by simp)]) rfl
theorem HA(x y:Int):fu (x-y)=cY x y:=by unfold fu cY;(repeat' split)<;>omega
theorem Yk{k:Nat}{a b:List Int}{o:Int}(ha:MB k a)(hb:MB k b)(hk:k<=1099511627776):Qc Tryz.prog 54 [PV.mono a,PV.mono b,.int .i64 o] (· = .int .i64 (jU o a b)):=by
 have h1:=ha.len;have h2:=hb.len;have gD:∀x∈a,0<=x/\x<=1099511627776:=fun x hx=>by have:=ha.lo x hx;have:=ha.hi x hx;omega
 have iV:∀x∈b,0<=x/\x<=1099511627776:=fun x hx=>by have:=hb.lo x hx;have:=hb.hi x hx;omega
 have da:=Iu ha;have db:=Iu hb;refine Qf Qj Tryz.func54 rfl ai1 (by simp[KU]) fun C hP=>?_;simp only[KU,Zo,Zg,Zm,Zc,Zf,Zl,Zh,Zs,Zi,Zb,Zk,Zn,Zu,Zq,Zr,Zz];refine Sz0 ?_;refine ga (fun ho=>?_) (fun ho=>?_)
 ·refine Sz0 ?_;refine Qa hP (y9 (by omega) gD) rfl rfl rfl ?_;refine Sz0 ?_;refine Qa hP (y9 (by omega) iV) rfl rfl rfl ?_;refine Sz0 ?_;refine Qb (fun hd=>?_) (fun hd=>?_)
  ·have j9:jU o a b=cY (fm a) (fm b):=by unfold jU;rw[if_pos ⟨ho,hd⟩]
   refine Sz0 ?_;refine Qa hP (y9 (by omega) gD) rfl rfl rfl ?_;refine Sz0 ?_;refine Qa hP (y9 (by omega) iV) rfl rfl rfl ?_;refine Sz0 ?_;refine Qa hP (Gv _) rfl rfl rfl ?_;refine Sz0 ?_;exact Qd (by rw[j9,HA]) rfl
  have j9:jU o a b=aR a b:=by unfold jU;rw[if_neg (fun h=>hd h.2)]
  refine Sz0 ?_;refine Qz (by repeat (first|exact Qs|exact Ql|exact Qm|exact Qn|exact Qo|apply Qk|apply Qr|apply Qw|apply Q5|apply Q6|apply Qi|apply Q2)) [(6,7),(29,47)] [] (fun n J hp=>n<=max a.length b.length/\du a b n=aR a b/\J 7= .int .i64 ((n:Int)-1)/\hp=aF) (max a.length b.length) ?_ ?_
  ·refine⟨by omega,rfl,?_⟩;exact Tz0
  rintro n J _ ⟨hn,hc,h7,rfl⟩;refine Sz1 h7 ?_;refine Qb (fun hg=>?_) (fun hg=>?_)
  ·obtain _|n:=n
   ·omega
   have e:((n+1:Nat):Int)-1=n:=by omega
   have ea:=ha.eN n;have eb:=hb.eN n;rw[du]at hc;refine Sz2 h7 e ?_;refine Qa hP (nG (by omega)) rfl rfl rfl ?_;refine Sz2 h7 e ?_;refine Qa hP (nG (by omega)) rfl rfl rfl ?_;refine Sz2 h7 e ?_;refine Qb (fun h4=>?_) (fun h4=>?_)
   ·rw[if_neg h4]at hc;refine Sz2 h7 e ?_;refine Qa hP (nG (by omega)) rfl rfl rfl ?_;refine Sz2 h7 e ?_;refine Qa hP (nG (by omega)) rfl rfl rfl ?_;refine Sz2 h7 e ?_;refine Qa hP (Gv _) rfl rfl rfl ?_;refine Sz2 h7 e ?_;exact Qd (by rw[j9,<-hc,HA]) rfl
   ·rw[if_pos (by omega)]at hc;refine Sz2 h7 e ?_;refine Qh n (by omega) ⟨by omega,hc,?_⟩;exact Tz0
  ·obtain rfl:n=0:=by omega
   refine Sz0 ?_;exact Qd (by rw[j9,<-hc];rfl) rfl
 ·have j9:jU o a b=aR a b:=by unfold jU;rw[if_neg (fun h=>ho h.1)]
  refine Sz0 ?_;refine Qz (by repeat (first|exact Qs|exact Ql|exact Qm|exact Qn|exact Qo|apply Qk|apply Qr|apply Qw|apply Q5|apply Q6|apply Qi|apply Q2)) [(6,7),(29,47)] [] (fun n J hp=>n<=max a.length b.length/\du a b n=aR a b/\J 7= .int .i64 ((n:Int)-1)/\hp=aF) (max a.length b.length) ?_ ?_
  ·refine⟨by omega,rfl,?_⟩;exact Tz0
  rintro n J _ ⟨hn,hc,h7,rfl⟩;refine Sz1 h7 ?_;refine Qb (fun hg=>?_) (fun hg=>?_)
  ·obtain _|n:=n
   ·omega
   have e:((n+1:Nat):Int)-1=n:=by omega
   have ea:=ha.eN n;have eb:=hb.eN n;rw[du]at hc;refine Sz2 h7 e ?_;refine Qa hP (nG (by omega)) rfl rfl rfl ?_;refine Sz2 h7 e ?_;refine Qa hP (nG (by omega)) rfl rfl rfl ?_;refine Sz2 h7 e ?_;refine Qb (fun h4=>?_) (fun h4=>?_)
   ·rw[if_neg h4]at hc;refine Sz2 h7 e ?_;refine Qa hP (nG (by omega)) rfl rfl rfl ?_;refine Sz2 h7 e ?_;refine Qa hP (nG (by omega)) rfl rfl rfl ?_;refine Sz2 h7 e ?_;refine Qa hP (Gv _) rfl rfl rfl ?_;refine Sz2 h7 e ?_;exact Qd (by rw[j9,<-hc,HA]) rfl
   ·rw[if_pos (by omega)]at hc;refine Sz2 h7 e ?_;refine Qh n (by omega) ⟨by omega,hc,?_⟩;exact Tz0
  ·obtain rfl:n=0:=by omega
   refine Sz0 ?_;exact Qd (by rw[j9,<-hc];rfl) rfl
theorem ad0{a b:Rat}{k:Nat}(ha:rs a<=k)(hb:rs b<=k)(hk:k<2^34):Qc Tryz.prog 55 [PV.rat a,PV.rat b] (· =PV.rat (a+b)):=by
 have:=Sf (iB ha) (iB hb) hk
 rwa[gN,gN]at this
theorem OM{a b:Rat}{k:Nat}(ha:rs a<=k)(hb:rs b<=k)(hk:k<2^34):Qc Tryz.prog 116 [PV.rat a,PV.rat b] (· =PV.rat (a*b)):=by
 have:=Se (iB ha) (iB hb) hk
 rwa[gN,gN]at this
theorem ad1{a b:Rat}{k:Nat}(ha:rs a<=k)(hb:rs b<=k)(hk:k<2^34):Qc Tryz.prog 81 [PV.rat a,PV.rat b] (· = .int .i64 (oa a b)):=by
 have:=YS (iB ha) (iB hb) hk
 rwa[gN,gN]at this
theorem Hr{a:Rat}(ha:rs a<2^36):Qc Tryz.prog 56 [PV.rat a] (· = .int .i64 (gf a)):=by
 have:=CD (iB (Kac (rs a))) ha
 rwa[gN]at this
theorem At{k:Nat}{a b:List Int}(ha:MB k a)(hb:MB k b)(hk:k<=1099511627776):Qc Tryz.prog 54 [PV.mono a,PV.mono b,.int .i64 0] (· = .int .i64 (aR a b)):=by
 have:=Yk (o:=0) ha hb hk
 rwa[Ek]at this
theorem Sx{p q:List Tm}{K E:Nat}(hp:PB K E p)(hq:PB K E q)(hK:K<=2^33)(hE:E<=2^38)(bW:p.length<=2^36)(ir:q.length<=2^36):
  Qc Tryz.prog 38 [PV.aj p,PV.aj q] (· = .int .i64 (gT p q)):=by
 refine Qf Qj Tryz.func38 rfl ai4 (by simp[KE]) fun C hP=>?_;simp only[KE,Zo,Zg,Zm,Zc,Zf,Zl,Zh,Zs,Zi,Zb,Zk,Zn,Zu,Zq,Zr,Zz];refine Sz0 ?_;refine Qz (by repeat (first|exact Qs|exact Ql|exact Qm|exact Qn|exact Qo|apply Qk|apply Qr|apply Qw|apply Q5|apply Q6|apply Qi|apply Q2)) [(4,47)] [] (fun n J hp=>∃i,n=p.length-i/\i<=p.length/\i<=q.length/\gT (p.drop i) (q.drop i)=gT p q/\J 5= .int .i64 (i:Nat)) p.length ?_ ?_
 ·refine⟨0,rfl,by omega,by omega,rfl,?_⟩;refine Sz0 ?_;rfl
 rintro _ J h ⟨i,rfl,hi,iG,fY,h5⟩;refine Sz1 h5 ?_;refine ga (fun hg=>?_) (fun hg=>?_)
 ·have aC:i<p.length:=by omega
  refine Sz1 h5 ?_;refine Qb (fun hk=>?_) (fun hk=>?_)
  ·have dY:i<q.length:=by omega
   have bc:=hp.get aC;have oy:=hq.get dY;have c1:=bc.c;have c2:=oy.c;rw[Uw aC dY]at fY;generalize hx:p[i]=x at *
   generalize hy:q[i]=y at *
   refine Sz3 h5 hx hy ?_;refine Qa hP (At bc.m oy.m (by omega)) rfl rfl rfl ?_;refine Sz3 h5 hx hy ?_;refine Qb (fun hc=>?_) (fun hc=>?_)
   ·refine Sz0 ?_;exact Qd (by rw[<-fY,if_pos (by rw[mN,if_pos hc];exact hc),mN,if_pos hc]) rfl
   ·refine Sz3 h5 hx hy ?_;refine Qa hP (ad1 (a:=x.1) (b:=y.1) (k:=2^33) (by omega) (by omega) (by omega)) rfl rfl rfl ?_;refine Sz3 h5 hx hy ?_;refine Qb (fun iT=>?_) (fun iT=>?_)
    ·refine Sz0 ?_;exact Qd (by rw[<-fY,if_pos (by rw[mN,if_neg hc];exact iT),mN,if_neg hc]) rfl
    ·rw[if_neg (by rw[mN,if_neg hc];exact iT)]at fY;refine Sz1 h5 ?_;refine Qh (p.length-(i+1)) (by omega) ⟨i+1,rfl,by omega,by omega,fY,?_⟩;exact Tz0
  refine Sz0 ?_;refine Qb (fun hk=>?_) (fun hk=>?_)
  ·refine Sz0 ?_;exact Qd (by rw[<-fY,Kal (show p.length<=i by omega),zZ,if_neg (by rw[Ka5];omega)]) rfl
  ·refine Sz0 ?_;refine Qb (fun na=>?_) (fun na=>?_)
   ·refine Sz0 ?_;refine Qd ?_ rfl;rw[<-fY,Kaz (show i<p.length by omega),Kal (show q.length<=i by omega),gT]
   ·refine Sz0 ?_;exact Qd (by rw[<-fY,Kal (show p.length<=i by omega),zZ,if_pos (by rw[Ka5];omega)]) rfl
 ·have aC:i=p.length:=by omega
  refine Sz0 ?_;refine Qb (fun hk=>?_) (fun hk=>?_)
  ·refine Sz0 ?_;exact Qd (by rw[<-fY,Kal (show p.length<=i by omega),zZ,if_neg (by rw[Ka5];omega)]) rfl
  ·refine Sz0 ?_;refine Qb (fun na=>?_) (fun na=>?_)
   ·refine Sz0 ?_;refine Qd ?_ rfl;rw[<-fY,Kaz (show i<p.length by omega),Kal (show q.length<=i by omega),gT]
   ·refine Sz0 ?_;exact Qd (by rw[<-fY,Kal (show p.length<=i by omega),zZ,if_pos (by rw[Ka5];omega)]) rfl
theorem Gp{p q:List Tm}{K E:Nat}(hp:PB K E p)(hq:PB K E q)(hK:K<=2^33)(hE:E<=2^38)(bW:p.length<=2^36)(ir:q.length<=2^36):Qc Tryz.prog 11 [PV.aj p,PV.aj q] (· = .bool (decide (p=q))):=by refine Qf Qj Tryz.func11 rfl ai7 (by simp[I7]) fun C hP=>?_;simp only[I7,Zo,Zg,Zm,Zc,Zf,Zl,Zh,Zs,Zi,Zb,Zk,Zn,Zu,Zq,Zr,Zz];refine Sz0 ?_;refine Qa hP (Sx hp hq hK hE bW ir) rfl rfl rfl ?_;refine Sz0 ?_;exact Qd (congrArg PV.bool (decide_eq_decide.2 (PC hp.last hq.last))) rfl
theorem zk{p q:List Tm}{K E:Nat}(hp:PB K E p)(hq:PB K E q)(hK:K<=2^32)(hE:E<=2^38)(bW:p.length<=2^36)(ir:q.length<=2^36):
  Qc Tryz.prog 22 [PV.aj p,PV.aj q] (· =PV.aj (Q8 p q)):=by
 refine Qf Qj Tryz.func22 rfl ai3 (by simp[Kr]) fun C hP=>?_;simp only[Kr,Zo,Zg,Zm,Zc,Zf,Zl,Zh,Zs,Zi,Zb,Zk,Zn,Zu,Zq,Zr,Zz];refine Sz0 ?_;refine kt 5 900 4 54 (by omega) Tz0 ?_;refine Qz (by repeat (first|exact Qs|exact Ql|exact Qm|exact Qn|exact Qo|apply Qk|apply Qr|apply Qw|apply Q5|apply Q6|apply Qi|apply Q2)) [(5,90)] [9,61,62,75,76,87,88,900] (fun n J hp=>∃i k out,n=(p.length-i)+(q.length-k)/\i<=p.length/\k<=q.length/\out.length<=i+k/\out++Q8 (p.drop i) (q.drop k)=Q8 p q/\
  J 5= .ms 900 out.length/\J 6= .int .i64 (i:Nat)/\J 7= .int .i64 (k:Nat)/\hp 900=some ⟨4,54,out.map PV.term,false⟩) (p.length+q.length) ?_ ?_
 ·refine⟨0,0,[],by omega,by omega,by omega,by simp,rfl,?_⟩;refine Sz0 ?_;simp
 rintro _ J h ⟨i,k,out,rfl,hi,hk,fE,ej,h5,h6,h7,hh⟩;refine Sz3 h5 h6 h7 ?_;refine dI (fun hg=>?_) (fun hg=>?_)
 ·have aC:i<p.length:=by omega
  refine Sz3 h5 h6 h7 ?_;refine Qb (fun h=>by omega) (fun _=>?_);refine Sz3 h5 h6 h7 ?_;refine Qb (fun fN=>?_) (fun fN=>?_)
  ·have dY:k<q.length:=by omega
   have bc:=hp.get aC;have oy:=hq.get dY;rw[Uv aC dY]at ej;have c1:=bc.c;have c2:=oy.c;generalize hx:p[i]=x at *
   generalize hy:q[k]=y at *
   refine Sz5 h5 h6 h7 hx hy ?_;refine Qa hP (At bc.m oy.m (by omega)) rfl rfl rfl ?_;refine Sz5 h5 h6 h7 hx hy ?_;refine Qb (fun hc=>?_) (fun hc=>?_)
   ·rw[if_pos hc]at ej;refine Sz4 h5 h6 h7 hx ?_;rw[Q9 (f:=PV.term) (y:=x) (xs:=out) (ty':=54) (fz:=false) (Tz1 hh) cC (by omega) rfl (by omega) (by omega)];refine Sz4 h5 h6 h7 hx ?_;refine Qh ((p.length-(i+1))+(q.length-k)) (by omega) ⟨i+1,k,out++[x],rfl,by omega,hk,by simp;omega,by simpa using ej,?_⟩;refine Sz3 h5 h6 h7 ?_;simp
   rw[if_neg hc]at ej;refine Sz5 h5 h6 h7 hx hy ?_;refine Qb (fun iT=>?_) (fun iT=>?_)
   ·rw[if_pos iT]at ej;refine Sz4 h5 h6 h7 hy ?_;rw[Q9 (f:=PV.term) (y:=y) (xs:=out) (ty':=54) (fz:=false) (Tz1 hh) cC (by omega) rfl (by omega) (by omega)];refine Sz4 h5 h6 h7 hy ?_;refine Qh ((p.length-i)+(q.length-(k+1))) (by omega) ⟨i,k+1,out++[y],rfl,by omega,by omega,by simp;omega,by simpa using ej,?_⟩;refine Sz3 h5 h6 h7 ?_;simp
   rw[if_neg iT]at ej;have hra:=Ej x.1 y.1;refine Sz5 h5 h6 h7 hx hy ?_;refine nI ?_ ?_
   all_goals
    refine Sz5 h5 h6 h7 hx hy ?_;refine Qa hP (ad0 (a:=x.1) (b:=y.1) (k:=2^32) (by omega) (by omega) (by omega)) rfl rfl rfl ?_;refine Sz5 h5 h6 h7 hx hy ?_;refine Qa hP (Hr (a:=x.1+y.1) (by omega)) rfl rfl rfl ?_;refine Sz5 h5 h6 h7 hx hy ?_;refine Qb (fun hz=>?_) (fun hz=>?_)
    ·rw[if_neg (fun h=>hz (ic.2 h))]at ej;refine Sz5 h5 h6 h7 hx hy ?_;rw[Q9 (f:=PV.term) (y:=(x.1+y.1,x.2)) (xs:=out) (ty':=54) (fz:=false) (Tz1 hh) cC (by omega) rfl (by omega) (by omega)];refine Sz5 h5 h6 h7 hx hy ?_;refine Qh ((p.length-(i+1))+(q.length-(k+1))) (by omega) ⟨i+1,k+1,out++[(x.1+y.1,x.2)],rfl,by omega,by omega,by simp;omega,by simpa using ej,?_⟩;refine Sz3 h5 h6 h7 ?_;simp
    ·rw[if_pos (ic.1 (Decidable.not_not.1 hz))]at ej;refine Sz5 h5 h6 h7 hx hy ?_;refine Qh ((p.length-(i+1))+(q.length-(k+1))) (by omega) ⟨i+1,k+1,out,rfl,by omega,by omega,by omega,ej,?_⟩;exact Tz4 h5 h6 h7 hh
  ·rw[Kal (show q.length<=k by omega),kV,Kaz aC]at ej;have ej:out++p[i]::Q8 (p.drop (i+1)) (q.drop k)=Q8 p q:=by rw[Kal (show q.length<=k by omega),kV];exact ej
   generalize hx:p[i]=x at *
   refine Sz4 h5 h6 h7 hx ?_;rw[Q9 (f:=PV.term) (y:=x) (xs:=out) (ty':=54) (fz:=false) (Tz1 hh) cC (by omega) rfl (by omega) (by omega)];refine Sz4 h5 h6 h7 hx ?_;refine Qh ((p.length-(i+1))+(q.length-k)) (by omega) ⟨i+1,k,out++[x],rfl,by omega,hk,by simp;omega,by simpa using ej,?_⟩;refine Sz3 h5 h6 h7 ?_;simp
 ·have aC:i=p.length:=by omega
  refine Sz3 h5 h6 h7 ?_;refine Qb (fun fN=>?_) (fun fN=>?_)
  ·have dY:k<q.length:=by omega
   rw[Kal (show p.length<=i by omega),pE,Kaz dY]at ej;have ej:out++q[k]::Q8 (p.drop i) (q.drop (k+1))=Q8 p q:=by rw[Kal (show p.length<=i by omega),pE];exact ej
   generalize hy:q[k]=y at *
   refine Sz4 h5 h6 h7 hy ?_;refine Qb (fun _=>?_) (fun h=>by omega);refine Sz4 h5 h6 h7 hy ?_;rw[Q9 (f:=PV.term) (y:=y) (xs:=out) (ty':=54) (fz:=false) (Tz1 hh) cC (by omega) rfl (by omega) (by omega)];refine Sz4 h5 h6 h7 hy ?_;refine Qh ((p.length-i)+(q.length-(k+1))) (by omega) ⟨i,k+1,out++[y],rfl,by omega,by omega,by simp;omega,by simpa using ej,?_⟩;refine Sz3 h5 h6 h7 ?_;simp
  ·rw[Kal (show p.length<=i by omega),pE,Kal (show q.length<=k by omega),Kak]at ej;refine IT h5 h6 h7 hh ?_;exact Qd (by rw[Kae (by simp),ej]) rfl
theorem ab4{k l:Nat}{a b:List Int}(ha:MB k a)(hb:MB l b)(h1:a.getLast? ≠some 0)(h2:b.getLast? ≠some 0):kB (· + ·) a b=bC a b:=by
 rw[bC,HX];rw[Ka3,pq];intro h;obtain⟨hl,hv⟩:=Kad.1 h;rw[<-fk hl,Pz (by simp)]at hv;rw[pq]at hl;have p1:=(ha.eN (max a.length b.length-1)).1;have p2:=(hb.eN (max a.length b.length-1)).1;by_cases hc:b.length<=a.length
 ·apply h1;have e:max a.length b.length-1=a.length-1:=by omega
  rw[e]at hv p1 p2;rw[Ka3,Kam (by omega),<-fk (by omega)];congr 1;omega
 ·apply h2;have e:max a.length b.length-1=b.length-1:=by omega
  rw[e]at hv p1 p2;rw[Ka3,Kam (by omega),<-fk (by omega)];congr 1;omega
theorem Xx{p:List Tm}{t:Tm}{K E:Nat}(hp:PB K E p)(ht:TB K E t)(ow:NZ p)(ht0:t.1≠0)(hK:K<=2^33)(hE:E<=2^38)(bW:p.length<=2^36):
  Qc Tryz.prog 62 [PV.aj p,PV.term t] (· =PV.aj (bd p t)):=by
 refine Qf Qj Tryz.func62 rfl aiF (by simp[K5]) fun C hP=>?_;simp only[K5,Zo,Zg,Zm,Zc,Zf,Zl,Zh,Zs,Zi,Zb,Zk,Zn,Zu,Zq,Zr,Zz];refine Sz0 ?_;refine kt 5 900 4 54 (by omega) Tz0 ?_;refine Qz (by repeat (first|exact Qs|exact Ql|exact Qm|exact Qn|exact Qo|apply Qk|apply Qr|apply Qw|apply Q5|apply Q6|apply Qi|apply Q2)) [(5,32)] [31,32,900] (fun n J hp=>∃i,n=p.length-i/\i<=p.length/\J 5= .ms 900 (bd (p.take i) t).length/\J 6= .int .i64 (i:Nat)/\hp 3=some ⟨4,54,[PV.term t],false⟩/\hp 900=some ⟨4,54,(bd (p.take i) t).map PV.term,false⟩) p.length ?_ ?_
 ·refine⟨0,rfl,by omega,?_⟩;refine Sz0 ?_;simp[bd]
 rintro _ J h ⟨i,rfl,hi,h5,h6,bA,hh⟩;refine Sz2 h5 h6 ?_;refine Qb (fun hg=>?_) (fun hg=>?_)
 ·have aC:i<p.length:=by omega
  have bc:=hp.get aC;have bk:=GF (t:=t) aC;have hlen:=uT (p.take i) t;rw[KaF]at hlen;have c1:=bc.c;have c2:=ht.c;have l8:=ow _ (Kag aC);generalize hx:p[i]=x at *
  have hzz:=ab4 bc.m ht.m bc.l ht.l;rw[if_neg (fun h=>by rcases Rat.mul_eq_zero.1 h with h|h<;>contradiction)]at bk;refine Sz4 h5 h6 bA hx ?_;refine Qa hP (OM (a:=x.1) (b:=t.1) (k:=2^33) (by omega) (by omega) (by omega)) rfl rfl rfl ?_;refine Sz4 h5 h6 bA hx ?_;refine Qa hP (YU bc.m ht.m (by omega)) rfl rfl rfl ?_;rw[hzz];refine Sz4 h5 h6 bA hx ?_;rw[Q9 (f:=PV.term) (y:=(x.1*t.1,bC x.2 t.2)) (xs:=bd (p.take i) t) (ty':=54) (fz:=false) (Tz1 hh) cC (by omega) rfl (by omega) (by omega)];rw[<-bk];refine Sz4 h5 h6 bA hx ?_;refine Qh (p.length-(i+1)) (by omega) ⟨i+1,rfl,by omega,?_⟩;rw[bk];simp+decide (disch:=first|omega|rfl|(simp+decide only[go_sem,h5,h6,bA,Kan]<;>rfl)|fail) only[go_sem,h5,h6,bA,Kan]
 ·obtain rfl:i=p.length:=by omega
  rw[Kar]at h5 hh;refine kF h5 hh ?_;exact Qd (by simp[Kae]) rfl
theorem Q8x{p q:List Tm}{i:Nat}(h:i<q.length):mM p (q.take (i+1))=Q8 (mM p (q.take i)) (bd p q[i]):=by rw[Kah h,mM,KbX,mM];rfl
theorem Sy{K E:Nat}{p:List Tm}(hp:PB K E p):∀(q out:List Tm)(L:Nat),PB K E q->PB L (E+E) out->PB (q.length*(K+K)+L) (E+E) (q.foldl (fun out t=>Q8 out (bd p t)) out)/\(q.foldl (fun out t=>Q8 out (bd p t)) out).length<=q.length*p.length+out.length
 | [],out,L,_,ho=>⟨by simpa using ho,by simp⟩
 |t::q,out,L,hq,ho=>by obtain⟨h1,h2⟩:=Sy hp q (Q8 out (bd p t)) (L+(K+K)) (PB.cons.1 hq).2 (tE _ _ ho (tk hp (PB.cons.1 hq).1));have h3:=s9 out (bd p t);have h4:=uT p t;refine⟨h1.mono (by rw[KaW,KaI];omega) (Kac _),Kaw h2 ?_⟩;rw[KaW,KaI];omega
theorem ad2{K E:Nat}{p q:List Tm}(hp:PB K E p)(hq:PB K E q):PB (q.length*(K+K)) (E+E) (mM p q)/\(mM p q).length<=q.length*p.length:=by have:=Sy hp q [] 0 hq (PB.nil _ _);simpa[mM]using this
theorem qy{p q:List Tm}{K E:Nat}(hp:PB K E p)(hq:PB K E q)(hnp:NZ p)(hnq:NZ q)(hE:E<=2^37)(bW:p.length<=2^30)(ir:q.length<=2^30)(Bl:q.length*p.length<=2^36)(hK:q.length*(K+K)+(K+K)<=2^32):
  Qc Tryz.prog 24 [PV.aj p,PV.aj q] (· =PV.aj (mM p q)):=by
 refine Qf Qj Tryz.func24 rfl ai8 (by simp[Kt]) fun C hP=>?_;simp only[Kt,Zo,Zg,Zm,Zc,Zf,Zl,Zh,Zs,Zi,Zb,Zk,Zn,Zu,Zq,Zr,Zz];refine Sz0 ?_;refine qK 5 4 Tz0 ?_;refine Qz (by repeat (first|exact Qs|exact Ql|exact Qm|exact Qn|exact Qo|apply Qk|apply Qr|apply Qw|apply Q5|apply Q6|apply Qi|apply Q2)) [(5,20)] [] (fun n J hp=>∃i,n=q.length-i/\i<=q.length/\J 5=PV.aj (mM p (q.take i))/\J 6= .int .i64 (i:Nat)) q.length ?_ ?_
 ·refine⟨0,rfl,by omega,?_⟩;refine Sz0 ?_;simp[mM]
 rintro _ J h ⟨i,rfl,hi,h5,h6⟩;refine Sz2 h5 h6 ?_;refine Qb (fun hg=>?_) (fun hg=>?_)
 ·have aC:i<q.length:=by omega
  have oy:=hq.get aC;have bk:=Q8x (p:=p) aC;have l8:=hnq _ (Kag aC);obtain⟨oS,fb⟩:=ad2 hp (hq.take i);have iS:=tk hp oy;have ar:=uT p q[i];generalize hx:q[i]=x at *
  have e1:(q.take i).length=i:=by rw[KaF];omega
  rw[e1]at oS fb;have e2:i*(K+K)<=q.length*(K+K):=Kaf _ hi;have e3:i*p.length<=q.length*p.length:=Kaf _ hi;refine Sz3 h5 h6 hx ?_;refine Qa hP (Xx (t:=x) hp oy hnp l8 (by omega) (by omega) (by omega)) rfl rfl rfl ?_;refine Sz3 h5 h6 hx ?_;refine Qa hP (zk (K:=q.length*(K+K)+(K+K)) (E:=E+E) (oS.mono (by omega) (by omega)) (iS.mono (by omega) (by omega)) hK (by omega) (by omega) (by omega)) rfl rfl rfl ?_;refine Sz3 h5 h6 hx ?_;refine Qh (q.length-(i+1)) (by omega) ⟨i+1,rfl,by omega,?_⟩;rw[bk];exact Tz0
 ·obtain rfl:i=q.length:=by omega
  rw[Kar]at h5;refine Sz1 h5 ?_;exact Qd rfl rfl
theorem Gq{p:List Tm}{a:Rat}{K E:Nat}(hp:PB K E p)(ow:NZ p)(ha:rs a+1<=K)(hK:K<=2^33)(hE:E<=2^38)(bW:p.length<=2^36):
  Qc Tryz.prog 71 [PV.aj p,PV.rat a] (· =PV.aj (b8 p a)):=by
 refine Qf Qj Tryz.func71 rfl ajb (by simp[Lb]) fun C hP=>?_;simp only[Lb,Zo,Zg,Zm,Zc,Zf,Zl,Zh,Zs,Zi,Zb,Zk,Zn,Zu,Zq,Zr,Zz];refine Sz0 ?_;refine kt 5 900 4 54 (by omega) Tz0 ?_;refine Qz (by repeat (first|exact Qs|exact Ql|exact Qm|exact Qn|exact Qo|apply Qk|apply Qr|apply Qw|apply Q5|apply Q6|apply Qi|apply Q2)) [(5,33)] [32,33,900] (fun n J hp=>∃i,n=p.length-i/\i<=p.length/\J 5= .ms 900 (bd (p.take i) (a,[])).length/\J 6= .int .i64 (i:Nat)/\hp 3=some ⟨3,43,[PV.rat a],false⟩/\hp 900=some ⟨4,54,(bd (p.take i) (a,[])).map PV.term,false⟩) p.length ?_ ?_
 ·refine⟨0,rfl,by omega,?_⟩;refine Sz0 ?_;simp[bd]
 rintro _ J h ⟨i,rfl,hi,h5,h6,bA,hh⟩;refine Sz2 h5 h6 ?_;refine ga (fun hg=>?_) (fun hg=>?_)
 ·have aC:i<p.length:=by omega
  have bc:=hp.get aC;have bk:=GF (t:=(a,[])) aC;have hlen:=uT (p.take i) (a,[]);rw[KaF]at hlen;have c1:=bc.c;have l8:=ow _ (Kag aC);generalize hx:p[i]=x at *
  refine Sz4 h5 h6 bA hx ?_;refine Qa hP (Hr (a:=a) (by omega)) rfl rfl rfl ?_;refine Sz4 h5 h6 bA hx ?_;refine Qb (fun hz=>?_) (fun hz=>?_)
  ·rw[if_neg (fun h=>by rcases Rat.mul_eq_zero.1 h with h|h;exact l8 h;exact hz (ic.2 h)),tu bc.l]at bk;refine Sz4 h5 h6 bA hx ?_;refine Qa hP (OM (a:=x.1) (b:=a) (k:=2^33) (by omega) (by omega) (by omega)) rfl rfl rfl ?_;refine Sz4 h5 h6 bA hx ?_;rw[Q9 (f:=PV.term) (y:=(x.1*a,x.2)) (xs:=bd (p.take i) (a,[])) (ty':=54) (fz:=false) (Tz1 hh) cC (by omega) rfl (by omega) (by omega)];rw[<-bk];refine Sz4 h5 h6 bA hx ?_;refine Qh (p.length-(i+1)) (by omega) ⟨i+1,rfl,by omega,?_⟩;rw[bk];simp+decide (disch:=first|omega|rfl|(simp+decide only[go_sem,h5,h6,bA,Kan]<;>rfl)|fail) only[go_sem,h5,h6,bA,Kan]
  ·have yw:=ic.1 (Decidable.not_not.1 hz);have e0:∀l:List Tm,bd l (a,[])=[]:=fun l=>by rw[yw];simp[bd]
   refine Ay h5 hh bA ?_;refine Qd ?_ rfl;rw[e0,b8,if_pos yw];rfl
 ·obtain rfl:i=p.length:=by omega
  rw[Kar]at h5 hh;refine Ay h5 hh bA ?_;refine Qd ?_ rfl;rw[Kae (by simp),b8];split
  ·rename_i yw;rw[yw];simp[bd]
  ·rfl
theorem Yl{p:List Tm}{K E:Nat}(hp:PB K E p)(ow:NZ p)(l4:2<=K)(hK:K<=2^33)(hE:E<=2^38)(bW:p.length<=2^36):Qc Tryz.prog 53 [PV.aj p] (· =PV.aj (kZ p)):=by have h1:=F2;refine Qf Qj Tryz.func53 rfl ai9 (by simp[KT]) fun C hP=>?_;simp only[KT,Zo,Zg,Zm,Zc,Zf,Zl,Zh,Zs,Zi,Zb,Zk,Zn,Zu,Zq,Zr,Zz];refine Sz0 ?_;refine Qa hP (u5 (x:= -1) (by omega) (by omega)) rfl rfl rfl ?_;refine Sz0 ?_;refine Qa hP (Gq (a:=((-1:Int):Rat)) hp ow (by have:((-1:Int):Rat)= -1:=rfl;rw[this];omega) hK hE bW) rfl rfl rfl ?_;refine Sz0 ?_;exact Qd rfl rfl
theorem CL{p q:List Tm}{K E:Nat}(hp:PB K E p)(hq:PB K E q)(ow:NZ q)(l4:2<=K)(hK:K<=2^31)(hE:E<=2^38)(bW:p.length<=2^36)(ir:q.length<=2^36):Qc Tryz.prog 21 [PV.aj p,PV.aj q] (· =PV.aj (fM p q)):=by have hl:=uU q (-1);refine Qf Qj Tryz.func21 rfl aiD (by simp[Kq]) fun C hP=>?_;simp only[Kq,Zo,Zg,Zm,Zc,Zf,Zl,Zh,Zs,Zi,Zb,Zk,Zn,Zu,Zq,Zr,Zz];refine Sz0 ?_;refine Qa hP (Yl hq ow l4 (by omega) hE ir) rfl rfl rfl ?_;refine Sz0 ?_;refine Qa hP (zk (hp.mono (K':=K+2) (by omega) (Kac _)) (xA hq) (by omega) hE bW (by show(b8 q (-1)).length<=_;omega)) rfl rfl rfl ?_;refine Sz0 ?_;exact Qd rfl rfl
theorem RB.raw{k:Nat}{t:aZ}(h:RB k t)(hk:1<=k):Raw k t.n t.a t.d:=⟨h.r.1,h.r.2.1,h.r.2.2.1,h.r.2.2.2,hk⟩
theorem agQ{s t:aZ}{E:Nat}(hs:MB E s.m)(ht:MB E t.m)(hE:E<=2^38):Qc Tryz.prog 85 [PV.qv s,PV.qv t] (· = .int .i64 (aR s.m t.m)):=by refine Qf Qj Tryz.func85 rfl QR (by simp[AH]) fun C hP=>?_;simp only[AH,Zo,Zg,Zm,Zc,Zf,Zl,Zh,Zs,Zi,Zb,Zk,Zn,Zu,Zq,Zr,Zz];refine Sz0 ?_;refine Qa hP (Tu (o:=0) hs ht (by omega)) rfl rfl rfl ?_;refine Sz0 ?_;exact Qd (by rw[Ek]) rfl
theorem SA{l:List aZ}{k:Nat}(hb:∀t∈l,RB k t)(qa:1<=k)(hk:k<2^36)(ri:l.length<2^40):Qc Tryz.prog 40 [PV.kp l] (· = .bool (eg l)):=by
 have rf:=HY l;have bad:∀ {b:Bool},(b=true->False)->b=false:=fun {b} h=>by cases b<;>simp_all
 refine Qf Qj Tryz.func40 rfl aia (by simp[KG]) fun C hP=>?_;simp only[KG,Zo,Zg,Zm,Zc,Zf,Zl,Zh,Zs,Zi,Zb,Zk,Zn,Zu,Zq,Zr,Zz];refine Sz0 ?_;refine Qz (by repeat (first|exact Qs|exact Ql|exact Qm|exact Qn|exact Qo|apply Qk|apply Qr|apply Qw|apply Q5|apply Q6|apply Qi)) [(2,4),(7,42)] [4] (fun n J hp=>∃i,n=l.length-i/\i<=l.length/\(∀j (h:j<l.length),j<i->fG l[j]=true)/\(∀j (h:j+1<l.length),j+1<i->0<aR l[j].m l[j+1].m)/\J 7= .int .i64 (i:Nat)) l.length ?_ ?_
 ·refine⟨0,rfl,by omega,by omega,by omega,?_⟩;refine Sz0 ?_;rfl
 rintro _ J h ⟨i,rfl,hi,h1,h2,h7⟩;refine Sz1 h7 ?_;refine Qb (fun hg=>?_) (fun hg=>?_)
 ·have aC:i<l.length:=by omega
  have iS:=hb _ (Kag aC);have hr:=(RB.raw iS qa).rs;have ov:=iS.l;have vX:eg l=true->fG l[i]=true:=fun h=>(rf.1 h).1 i aC;have Me:∀(j:Nat)(hj:j+1=i),eg l=true->0<aR (l[j]'(by omega)).m l[i].m:=fun j hj h=>by subst hj;exact(rf.1 h).2 j aC
  have AT:fG l[i]=true->∀j (h:j<l.length),j<i+1->fG l[j]=true:=fun h j hj eh=>by
   by_cases e:j=i
   ·subst e;exact h
   ·exact h1 j hj (by omega)
  have MT:∀(j:Nat)(hj:j+1=i),MB 1048576 (l[j]'(by omega)).m:=fun j hj=>by have:=h1 j (by omega) (by omega);simp only[fG,Kat]at this;exact MB.uI this.2.2
  have vV:(∀(j:Nat)(hj:j+1=i),0<aR (l[j]'(by omega)).m l[i].m)->∀j (h:j+1<l.length),j+1<i+1->0<aR l[j].m l[j+1].m:=fun h j hj eh=>by
   by_cases e:j+1=i
   ·subst e;exact h j rfl
   ·exact h2 j hj (by omega)
  generalize hx:l[i]=x at *
  have fP:rs (rv x.n x.a x.d)<2^36:=by omega
  refine Sz2 h7 hx ?_;refine Qa hP (YK (RB.raw iS qa) hk) rfl rfl rfl ?_;refine Sz1 h7 ?_;cases cz:pI x.n x.a x.d
  ·have hf:eg l=false:=bad fun h=>by have:=vX h;simp[fG,cz]at this
   refine Sz2 h7 @Bool.not_false ?_;exact Qd (by rw[hf]) rfl
  refine Sz2 h7 @Bool.not_true ?_;refine Qa hP (CT (RB.raw iS qa) hk) rfl rfl rfl ?_;refine Sz1 h7 ?_;refine dI (fun hz=>?_) (fun hz=>?_)
  ·have hf:eg l=false:=bad fun h=>by have:=vX h;simp[fG,aZ.q,ic.1 hz]at this
   refine Sz1 h7 ?_;exact Qd (by rw[hf]) rfl
  refine Sz1 h7 ?_;refine Qa hP (X8 (by omega)) rfl rfl rfl ?_;refine Sz1 h7 ?_;cases wg:fy x.m
  ·have hf:eg l=false:=bad fun h=>by have:=vX h;simp[fG,wg]at this
   refine Sz2 h7 @Bool.not_false ?_;exact Qd (by rw[hf]) rfl
  have Bu:fG x=true:=by simp only[fG,cz,wg,KbU,Kdj,decide_eq_true_eq];exact fun h=>hz (ic.2 h)
  refine Sz2 h7 @Bool.not_true ?_;refine ga (fun pY=>?_) (fun pY=>?_)
  ·obtain⟨j,rfl⟩:∃j,i=j+1:=⟨i-1,by omega⟩
   have e:((j+1:Nat):Int)-1=j:=by omega
   have pZ:j<l.length:=by omega
   have Bs:=MT j rfl;have Mf:=Me j rfl;have Md:0<aR (l[j]'(by omega)).m x.m->∀j2 (h:j2+1<l.length),j2+1<j+1+1->0<aR l[j2].m l[j2+1].m:=fun h=>vV (fun j' fO=>by
    obtain rfl:j'=j:=by omega
    exact h)
   generalize hy:l[j]'(by omega)=y at *
   refine Sz3 h7 e hy ?_;refine Qa hP (agQ (s:=y) (t:=x) Bs (MB.uI wg) (by omega)) rfl rfl rfl ?_;refine Sz2 h7 e ?_;refine Qb (fun hc=>?_) (fun hc=>?_)
   ·have hf:eg l=false:=bad fun h=>by have:=Mf h;omega
    refine Sz1 h7 ?_;exact Qd (by rw[hf]) rfl
   ·refine Sz1 h7 ?_;refine Qh (l.length-(j+1+1)) (by omega) ⟨j+1+1,rfl,by omega,AT Bu,Md (by omega),?_⟩;exact Tz0
  ·obtain rfl:i=0:=by omega
   refine Sz1 h7 ?_;refine Qh (l.length-1) (by omega) ⟨1,rfl,by omega,AT Bu,vV (fun j hj=>by omega),?_⟩;exact Tz0
 ·obtain rfl:i=l.length:=by omega
  have hf:eg l=true:=rf.2 ⟨fun j hj=>h1 j hj hj,fun j hj=>h2 j hj hj⟩;refine Sz0 ?_;exact Qd (by rw[hf]) rfl
theorem R6{l:List aZ}{k:Nat}(hb:∀t∈l,RB k t)(qa:1<=k)(hk:k<2^36)(ri:l.length<2^40):Qc Tryz.prog 39 [PV.kp l] (· = .bool (eg l)):=by
 have rf:=HY l;have bad:∀ {b:Bool},(b=true->False)->b=false:=fun {b} h=>by cases b<;>simp_all
 refine Qf Qj Tryz.func39 rfl aja (by simp[KF]) fun C hP=>?_;simp only[KF,Zo,Zg,Zm,Zc,Zf,Zl,Zh,Zs,Zi,Zb,Zk,Zn,Zu,Zq,Zr,Zz];refine Sz0 ?_;refine Qz (by repeat (first|exact Qs|exact Ql|exact Qm|exact Qn|exact Qo|apply Qk|apply Qr|apply Qw|apply Q5|apply Q6|apply Qi|apply Q2)) [(2,51)] [] (fun n J hp=>∃i,n=l.length-i/\i<=l.length/\(∀j (h:j<l.length),j<i->fG l[j]=true)/\(∀j (h:j+1<l.length),j+1<i->0<aR l[j].m l[j+1].m)/\J 3= .int .i64 (i:Nat)) l.length ?_ ?_
 ·refine⟨0,rfl,by omega,by omega,by omega,?_⟩;refine Sz0 ?_;rfl
 rintro _ J h ⟨i,rfl,hi,h1,h2,h7⟩;refine Sz1 h7 ?_;refine Qb (fun hg=>?_) (fun hg=>?_)
 ·have aC:i<l.length:=by omega
  have iS:=hb _ (Kag aC);have hr:=(RB.raw iS qa).rs;have ov:=iS.l;have vX:eg l=true->fG l[i]=true:=fun h=>(rf.1 h).1 i aC;have Me:∀(j:Nat)(hj:j+1=i),eg l=true->0<aR (l[j]'(by omega)).m l[i].m:=fun j hj h=>by subst hj;exact(rf.1 h).2 j aC
  have AT:fG l[i]=true->∀j (h:j<l.length),j<i+1->fG l[j]=true:=fun h j hj eh=>by
   by_cases e:j=i
   ·subst e;exact h
   ·exact h1 j hj (by omega)
  have MT:∀(j:Nat)(hj:j+1=i),MB 1048576 (l[j]'(by omega)).m:=fun j hj=>by have:=h1 j (by omega) (by omega);simp only[fG,Kat]at this;exact MB.uI this.2.2
  have vV:(∀(j:Nat)(hj:j+1=i),0<aR (l[j]'(by omega)).m l[i].m)->∀j (h:j+1<l.length),j+1<i+1->0<aR l[j].m l[j+1].m:=fun h j hj eh=>by
   by_cases e:j+1=i
   ·subst e;exact h j rfl
   ·exact h2 j hj (by omega)
  generalize hx:l[i]=x at *
  have fP:rs (rv x.n x.a x.d)<2^36:=by omega
  refine Sz2 h7 hx ?_;refine Qa hP (XP (RB.raw iS qa) hk) rfl rfl rfl ?_;refine Sz1 h7 ?_;cases cz:pI x.n x.a x.d
  ·have hf:eg l=false:=bad fun h=>by have:=vX h;simp[fG,cz]at this
   refine Sz2 h7 @Bool.not_false ?_;exact Qd (by rw[hf]) rfl
  refine Sz3 h7 @Bool.not_true hx ?_;refine Qa hP (CD (RB.raw iS qa) hk) rfl rfl rfl ?_;refine Sz1 h7 ?_;refine dI (fun hz=>?_) (fun hz=>?_)
  ·have hf:eg l=false:=bad fun h=>by have:=vX h;simp[fG,aZ.q,ic.1 hz]at this
   refine Sz1 h7 ?_;exact Qd (by rw[hf]) rfl
  refine Sz2 h7 hx ?_;refine Qa hP (RU (by omega)) rfl rfl rfl ?_;refine Sz1 h7 ?_;cases wg:fy x.m
  ·have hf:eg l=false:=bad fun h=>by have:=vX h;simp[fG,wg]at this
   refine Sz2 h7 @Bool.not_false ?_;exact Qd (by rw[hf]) rfl
  have Bu:fG x=true:=by simp only[fG,cz,wg,KbU,Kdj,decide_eq_true_eq];exact fun h=>hz (ic.2 h)
  refine Sz2 h7 @Bool.not_true ?_;refine ga (fun pY=>?_) (fun pY=>?_)
  ·obtain⟨j,rfl⟩:∃j,i=j+1:=⟨i-1,by omega⟩
   have e:((j+1:Nat):Int)-1=j:=by omega
   have pZ:j<l.length:=by omega
   have Bs:=MT j rfl;have Mf:=Me j rfl;have Md:0<aR (l[j]'(by omega)).m x.m->∀j2 (h:j2+1<l.length),j2+1<j+1+1->0<aR l[j2].m l[j2+1].m:=fun h=>vV (fun j' fO=>by
    obtain rfl:j'=j:=by omega
    exact h)
   generalize hy:l[j]'(by omega)=y at *
   refine Sz4 h7 e hx hy ?_;refine Qa hP (At Bs (MB.uI wg) (by omega)) rfl rfl rfl ?_;refine Sz2 h7 e ?_;refine Qb (fun hc=>?_) (fun hc=>?_)
   ·have hf:eg l=false:=bad fun h=>by have:=Mf h;omega
    refine Sz1 h7 ?_;exact Qd (by rw[hf]) rfl
   ·refine Sz1 h7 ?_;refine Qh (l.length-(j+1+1)) (by omega) ⟨j+1+1,rfl,by omega,AT Bu,Md (by omega),?_⟩;exact Tz0
  ·obtain rfl:i=0:=by omega
   refine Sz1 h7 ?_;refine Qh (l.length-1) (by omega) ⟨1,rfl,by omega,AT Bu,vV (fun j hj=>by omega),?_⟩;exact Tz0
 ·obtain rfl:i=l.length:=by omega
  have hf:eg l=true:=rf.2 ⟨fun j hj=>h1 j hj hj,fun j hj=>h2 j hj hj⟩;refine Sz0 ?_;exact Qd (by rw[hf]) rfl
def mo(v:Nat)(e:Int)(t:aZ):Bool:=decide (t.m.length<=v)&&(decide (t.a.length<=4)&&(decide (t.d.length<=4)&&t.m.all fun x=>decide (x<=e)))
def kW(n v:Nat)(e:Int)(l:List aZ):Bool:=decide (l.length<=n)&&(l.all (mo v e)&&eg l)
theorem Xy{l:List aZ}{k n v:Nat}{e:Int}(hb:∀t∈l,RB k t)(qa:1<=k)(hk:k<2^36)(ri:l.length<2^40):
  Qc Tryz.prog 18 [PV.kp l,.int .i64 n,.int .i64 v,.int .i64 e] (· = .bool (kW n v e l)):=by
 have bad:l.length<=n->∀i (h:i<l.length),mo v e l[i]=false->kW n v e l=false:=fun _ i hi h=>by
  have:l.all (mo v e)=false:=by rw[Kc4];exact⟨_,Kag hi,by simp[h]⟩
  simp[kW,this]
 refine Qf Qj Tryz.func18 rfl ajc (by simp[Kj]) fun C hP=>?_;simp only[Kj,Zo,Zg,Zm,Zc,Zf,Zl,Zh,Zs,Zi,Zb,Zk,Zn,Zu,Zq,Zr,Zz];refine Sz0 ?_;refine Qb (fun hn=>?_) (fun hn=>?_)
 ·refine Sz0 ?_;exact Qd (by simp[kW,show ¬l.length<=n by omega]) rfl
 have yE:l.length<=n:=by omega
 refine Sz0 ?_;refine Qz (by repeat (first|exact Qs|exact Ql|exact Qm|exact Qn|exact Qo|apply Qk|apply Qr|apply Qw|apply Q5|apply Q6|apply Qi|apply Q2)) [(8,10),(15,69)] [] (fun m J hp=>∃i,m=l.length-i/\i<=l.length/\(∀j (h:j<l.length),j<i->mo v e l[j]=true)/\J 9= .int .i64 (i:Nat)) l.length ?_ ?_
 ·refine⟨0,rfl,by omega,by omega,?_⟩;refine Sz0 ?_;rfl
 rintro _ J h ⟨i,rfl,hi,h1,h9⟩;refine Sz1 h9 ?_;refine Qb (fun hg=>?_) (fun hg=>?_)
 ·have aC:i<l.length:=by omega
  have iS:=hb _ (Kag aC);have jF:=bad yE i aC;have ov:=iS.l;have gU:mo v e l[i]=true->∀j (h:j<l.length),j<i+1->mo v e l[j]=true:=fun h j hj eh=>by
   by_cases e:j=i
   ·subst e;exact h
   ·exact h1 j hj (by omega)
  generalize hx:l[i]=x at *
  refine Sz2 h9 hx ?_;refine dI (fun h2=>?_) (fun h2=>?_)
  ·refine Sz2 h9 hx ?_;exact Qd (by rw[jF (by simp[mo,show ¬x.m.length<=v by omega])]) rfl
  refine Sz2 h9 hx ?_;refine dI (fun h3=>?_) (fun h3=>?_)
  ·refine Sz2 h9 hx ?_;exact Qd (by rw[jF (by simp[mo,show ¬x.a.length<=4 by omega])]) rfl
  refine Sz2 h9 hx ?_;refine Qb (fun h4=>?_) (fun h4=>?_)
  ·refine Sz2 h9 hx ?_;exact Qd (by rw[jF (by simp[mo,show ¬x.d.length<=4 by omega])]) rfl
  refine Sz2 h9 hx ?_;refine Qz (by repeat (first|exact Qs|exact Ql|exact Qm|exact Qn|exact Qo|apply Qk|apply Qr|apply Qw|apply Q5|apply Q6|apply Qi|apply Q2)) [(8,8),(10,10),(50,69)] [] (fun m J hp=>∃j,m=x.m.length-j/\j<=x.m.length/\(∀y∈x.m.take j,y<=e)/\J 10= .int .i64 (j:Nat)) x.m.length ?_ ?_
  ·refine⟨0,rfl,by omega,by simp,?_⟩;refine Sz0 ?_;rfl
  rintro _ J2 mY ⟨j,rfl,hj,h5,bI⟩;refine Sz3 h9 bI hx ?_;refine Qb (fun fN=>?_) (fun fN=>?_)
  ·have fO:j<x.m.length:=by omega
   have eC:=Kag fO;have bk:x.m.take (j+1)=x.m.take j++[x.m[j]]:=Kah fO;generalize hy:x.m[j]=y at *
   refine Sz4 h9 bI hx hy ?_;refine Qb (fun h6=>?_) (fun h6=>?_)
   ·refine Sz3 h9 bI hx ?_;refine Qd ?_ rfl;rw[jF];have:(x.m.all fun x=>decide (x<=e))=false:=by rw[Kc4];exact⟨y,eC,by simp;omega⟩
    simp[mo,this]
   ·refine Sz3 h9 bI hx ?_;refine Qh (x.m.length-(j+1)) (by omega) ⟨j+1,rfl,by omega,?_,?_⟩
    ·rw[bk];intro z hz;rcases KaV.1 hz with hz|hz
     ·exact h5 z hz
     ·simp at hz;omega
    ·exact Tz0
  ·rw[Kae (by omega)]at h5;have sM:mo v e x=true:=by simp only[mo,Kat,decide_eq_true_eq,Kay];exact⟨by omega,by omega,by omega,h5⟩
   refine Sz2 h9 bI ?_;simp (disch:=decide) only[ks,nN];refine Qh (l.length-(i+1)) (by omega) ⟨i+1,rfl,by omega,gU sM,?_⟩;exact Tz0
 ·obtain rfl:i=l.length:=by omega
  have cw:l.all (mo v e)=true:=by rw[Kay];intro t ht;obtain⟨j,hj,rfl⟩:=Kbe ht;exact h1 j hj hj
  refine Sz0 ?_;refine Qa hP (R6 hb qa hk ri) rfl rfl rfl ?_;refine Sz0 ?_;exact Qd (by simp[kW,yE,cw]) rfl
end Go.Proofs.YtdjoomkeehihmaaGreat
namespace Go.FW
open Go
variable {C : Ctx} {ρ : Nat -> Option Nat} {fr az : Fr} {hp an : HP} {w w' : World} {K R : Qg}
def vE(r:PV):Prop:=(r.refs=[]/\r.bT=[])/\∀σ,eW σ r=r
def y8(nm:Nat->Bool)(p:PV):PV:=if(p.refs++p.bT).any nm then .undef else p
def al1(nm:Nat->Bool)(fr:Fr):Fr:=fun s=>y8 nm (fr s)
def exH(nm ex:Nat->Bool)(H hp:HP):HP:=fun x=>if ex x then H x else if nm x then none else hp x
def exF(S:List Nat)(F fr:Fr):Fr:=fun s=>if S.contains s then F s else fr s
end Go.FW
namespace Go.FW
open Go
variable {C : Ctx} {ρ : Nat -> Option Nat} {fr az : Fr} {hp : HP} {w : World} {K R : Qg}
theorem ad3{B:List Nat}{F:Fr}{β δ:Nat}(al:B.contains β=true)(h2:β<1000000):o6 β δ (dn B F)=dn B F:=aeR (.inl al) (.inl h2)
theorem apv:
  (∀(σ:Nat->Nat)(k:IntKind)(n:Int),eW σ (.int k n)= .int k n)/\
  (∀(σ:Nat->Nat)(b:Bool),eW σ (.bool b)= .bool b)/\
  (∀(σ:Nat->Nat)(e:Nat)(xs:List PV),eW σ (.sl e xs)= .sl e xs)/\
  (∀(σ:Nat->Nat)(cs:List PV),eW σ (.agg cs)= .agg cs)/\
  (∀(σ:Nat->Nat)(cs:List PV),eW σ (.aw cs)= .aw cs)/\
  (∀(σ:Nat->Nat)(cs:List PV),eW σ (.pt cs)= .pt cs)/\
  (∀(σ:Nat->Nat),eW σ .aa= .aa)/\
  (∀(σ:Nat->Nat),eW σ .undef= .undef)/\
  (∀(σ:Nat->Nat)(β o n:Nat),eW σ (.ay β o n)= .ay (σ β) o n)/\
  (∀(σ:Nat->Nat)(β o n:Nat),eW σ (.mp β o n)= .mp (σ β) o n)/\
  (∀(σ:Nat->Nat)(β o n:Nat),eW σ (.aM β o n)= .aM (σ β) o n)/\
  (∀(σ:Nat->Nat)(β o n:Nat),eW σ (.np β o n)= .np (σ β) o n)/\
  (∀(σ:Nat->Nat)(cs:List PV),eW σ (.aU cs)= .aU (cs.map (dH σ))):=by
 refine⟨?_,?_,?_,?_,?_,?_,?_,?_,?_,?_,?_,?_,?_⟩<;>intros<;>rfl
theorem apu:
  (∀(σ:Nat->Nat)(k:IntKind)(n:Int),dH σ (.int k n)= .int k n)/\
  (∀(σ:Nat->Nat)(b:Bool),dH σ (.bool b)= .bool b)/\
  (∀(σ:Nat->Nat)(e:Nat)(xs:List PV),dH σ (.sl e xs)= .sl e xs)/\
  (∀(σ:Nat->Nat),dH σ .aa= .aa)/\
  (∀(σ:Nat->Nat),dH σ .undef= .undef)/\
  (∀(σ:Nat->Nat)(β o n:Nat),dH σ (.ay β o n)= .ay (σ β) o n)/\
  (∀(σ:Nat->Nat)(β o n:Nat),dH σ (.aM β o n)= .aM (σ β) o n):=by
 refine⟨?_,?_,?_,?_,?_,?_,?_⟩<;>intros<;>rfl
theorem akO:
  (∀(γ:Nat)(k:IntKind)(n:Int),dU γ (.int k n)= .int k n)/\
  (∀(γ:Nat)(b:Bool),dU γ (.bool b)= .bool b)/\
  (∀(γ e:Nat)(xs:List PV),dU γ (.sl e xs)= .sl e xs)/\
  (∀(γ:Nat)(cs:List PV),dU γ (.agg cs)= .agg cs)/\
  (∀(γ:Nat)(cs:List PV),dU γ (.aw cs)= .aw cs)/\
  (∀(γ:Nat)(cs:List PV),dU γ (.pt cs)= .pt cs)/\
  (∀(γ:Nat),dU γ .aa= .aa)/\
  (∀(γ:Nat),dU γ .undef= .undef)/\
  (∀(γ β o n:Nat),dU γ (.ay β o n)=if β=γ then .aM γ o n else .ay β o n)/\
  (∀(γ β o n:Nat),dU γ (.mp β o n)=if β=γ then .np γ o n else .mp β o n)/\
  (∀(γ β o n:Nat),dU γ (.aM β o n)= .aM β o n)/\
  (∀(γ β o n:Nat),dU γ (.np β o n)= .np β o n):=by
 refine⟨?_,?_,?_,?_,?_,?_,?_,?_,?_,?_,?_,?_⟩<;>intros<;>rfl
theorem agR{γ s:Nat}{x:PV}:xY γ x fr s=if s=γ then x else dU γ (fr s):=rfl
theorem agS{args:List PV}{G:Fr}{s:Nat}:alL args G s=if s<1000000 then(args[s]?).getD .undef else G s:=rfl
theorem agT{nm:Nat->Bool}{s:Nat}:al1 nm fr s=y8 nm (fr s):=rfl
theorem agU{nm:Nat->Bool}{p:PV}:y8 nm p=if(p.refs++p.bT).any nm then .undef else p:=rfl
theorem ajC{nm ex:Nat->Bool}{H:HP}{x:Nat}:exH nm ex H hp x=if ex x then H x else if nm x then none else hp x:=rfl
theorem ajD{S:List Nat}{F:Fr}{s:Nat}:exF S F fr s=if S.contains s then F s else fr s:=rfl
attribute [go_sem] aeO aeP aiq air aip ad3 apv apu akO agR agS agT agU ajC ajD
end Go.FW
namespace Go.FW
open Go
variable {C : Ctx} {ρ : Nat -> Option Nat} {fr az : Fr} {hp : HP} {w : World} {K R : Qg}
theorem agV{σ:Nat->Nat}{p:PV}(h:p= .aa∨∃β n,p= .ms β n)(sS:∀β n,p= .ms β n->σ β=β):gQ (p.bl.map (dH σ))=p:=by
 rcases h with rfl|⟨β,n,rfl⟩
 ·rfl
 ·have:=sS β n rfl;simp[PV.bl,PV.cells,dH,gQ,this]
def ik(B n w:Nat)(π:Nat->Nat):List (Nat×Nat):=(List.range n).map fun r=>(B+π r,w)
theorem ON{B n w r:Nat}{π:Nat->Nat}(h:r<(ik B n w π).length):(ik B n w π)[r]=(B+π r,w):=by simp[ik]
def mS{α:Type}(p:α->PV)(f:Nat->α)(w:Nat):List PV:=(List.range w).map fun c=>p (f c)
theorem Gx{α:Type}(p:α->PV)(f:Nat->α)(w:Nat):(mS p f w).length=w:=by simp[mS]
theorem HC{α:Type}{p:α->PV}{f:Nat->α}{w c:Nat}(h:c<(mS p f w).length):(mS p f w)[c]=p (f c):=by simp[mS]
theorem akP{by_ ty d:Nat}{k k':IntKind}{n c:Nat}(h2:n<=c)(h3:by_*c<=281474976710656)(h4:c<=9223372036854775807):
  nv 3 by_ ty (.agg [.bool false,.aa,.aa]) (.int k (n:Int)) (.int k' (c:Int)) d fr hp K=K (af (cK d fr) d (.ms d n)) (Qy hp d ⟨3,ty,List.replicate n (.agg [.bool false,.aa,.aa]),false⟩):=by
 rw[B8 (e:=3) (by omega) rfl (by omega) (by omega) (by omega) (by omega)];rfl
attribute [go_sem] akP
end Go.FW
namespace Go.FW
open Go
variable {C : Ctx} {ρ : Nat -> Option Nat} {fr az : Fr} {hp : HP} {w : World} {K R : Qg}
theorem Q8y {P : Program} {f : FuncId} {fn : Func} {sf : aA} {args : List PV} {Rr : PV -> Prop} (hm : P.follows .mixedOrders = true) (hf : P.funcs[f]? = some fn) (sF : (fn.name != "runtime.NumGoroutine") = true) (hc : Qe P fn = some sf.strip) (hn : args.length <= sf.n /\ sf.n <= 1000000)
  (hv:∀C:Ctx,C.P=P->C.N=sf.n->vc C (se (fV sf.rs Rr)) [.c sf.body] (jS args) aF):Qc P f args Rr:=by
 simp only[Qe,Kab,Kaa]at hc;obtain⟨c,hb,sb,iF,rs,ft,Wr⟩:=hc;obtain⟨n,Xb,body⟩:=sf;simp only[aA.strip,aA.mk.injEq]at Wr;obtain⟨rfl,rfl,rfl⟩:=Wr;refine⟨by simp[oO,hf,hb];simpa using sF,fun w X bn hX fR cN=>?_⟩
 let C:Ctx:=Ctx.plain P fn.ntmps w X hX hn.2
 refine calls_of_wp hf hb ?_;have wz:(bn++Array.replicate (fn.ntmps-bn.size) undef).size=fn.ntmps:=by simp at hn ⊢;omega
 have qg:fa C (jS args) aF (bn++Array.replicate (fn.ntmps-bn.size) undef) w:=by
  refine⟨fun _=>none,wz,Ext.refl _ _,(fun _ _ h=>by cases h),by simp[aF],by simp[aF],fun i=>?_⟩;unfold jS;cases hi:args[i]? with
  |none=>trivial
  | some p=>
   simp only[KbT];have dp:i<bn.size:=by rw[fR];exact(Kad.1 hi).1
   have hr:=cN i p hi;have e:(bn++Array.replicate (fn.ntmps-bn.size) undef).getD i undef=bn.getD i undef:=by rw[kT,if_pos dp]
   rw[e];refine Qt.lE (hr.mono (fun _ _ _=>rfl) (fun b _ hn hx=>?_) (Kac _));rcases hx with hx|⟨_,_,h1,_⟩
   ·exact hn hx
   ·simp[aF]at h1
 have fin:∀(fr:Fr)(hp:HP)(a:Act)(w':World),a.defers=[]->fa C fr hp a.tmps w'->se (fV rs Rr) fr hp->
   a.defers=[]/\∃v,(results fn a.tmps).run P w'= .ok v w'/\∃v' r,Ending.returned v= .returned v'/\Ext bS w w'/\dF w' X r v'/\Rr r:=by
  rintro fr hp a w' hd Bv ⟨LQ,iZ,hw,hr⟩;obtain⟨ρ,hs⟩:=hw C _ _ Bv;obtain⟨v,r,h1,h2,h3⟩:=Ug (C:=C) rfl ft hs hr;exact⟨hd,v,h1,v,r,rfl,Ctx.Nl hs.ext,h2,h3⟩
 exact Sk (C:=C) (R:=se (fV rs Rr)) hm c body [] _ (jS args) aF _ w iF ⟨fun fr hp a w' hd hs hv=>(by rw[vw]at hv;exact fin fr hp a w' hd hs hv),fun id eO he=>(by simp[FW.cu]at he),fin⟩ rfl qg (hv C rfl rfl)
theorem xj {P : Program} {f : FuncId} {fn : Func} {sf : aA} {args : List PV} {Rr : PV -> Prop} (hm : P.follows .mixedOrders = true) (hf : P.funcs[f]? = some fn) (sF : (fn.name != "runtime.NumGoroutine") = true) (hc : Qe P fn = some sf.strip) (hn : args.length <= sf.n /\ sf.n <= 1000000)
  (hv:∀C:Ctx,C.P=P->vc C (se (fV sf.rs Rr)) [.c sf.body] (jS args) aF):Qc P f args Rr:=
 Q8y hm hf sF hc hn fun C h _=>hv C h
theorem agW{ty w i d:Nat}{fz:Bool}{f:Nat->Rat}(h:i<w):kn (some ⟨3,ty,mS PV.rat f w,fz⟩) 3 true i 0 d fr hp K=K (af fr d (PV.rat (f i))) hp:=by rw[tF (by rw[Gx];exact h) (by omega) (by simp),HC];rfl
theorem ajE:(vE (.aw [])=True)/\(∀(k:IntKind)(n:Int),vE (.int k n)=True)/\(∀b:Bool,vE (.bool b)=True)/\(∀(e:Nat)(xs:List PV),vE (.sl e xs)=True)/\(∀cs:List PV,vE (.agg cs)=True)/\(∀cs:List PV,vE (.aw cs)=True):=by refine⟨?_,?_,?_,?_,?_,?_⟩<;>intros<;>simp[vE,PV.refs,PV.bT,eW,dH]
attribute [go_sem] ajE agW
end Go.FW
namespace Go.FW
open Go
variable {C : Ctx} {ρ : Nat -> Option Nat} {fr az : Fr} {hp : HP} {w : World} {K R : Qg}
def yP(p:PV)(γ n:Nat)(ag:Bool)(i o d:Nat)(fr:Fr)(hp:HP)(K:Qg):Prop:=match p with
 |.aN bE e _ xs=>bE=γ/\∃h:i<xs.length,o+n<=e/\(ag=false->n=1)/\K (af fr d (rz ag n o (xs[i]'h))) hp
 |_=>False
theorem ajF{γ n i o d:Nat}{ag:Bool}:kP n ag (.np γ i o) d fr hp K=yP (fr γ) γ n ag i o d fr hp K:=by simp only[kP,yP];cases fr γ<;>rfl
def yY(p:PV)(h:Option HB)(v:Option (List PV))(γ n i o:Nat)(fr:Fr)(hp:HP)(K:Qg):Prop:=match p with
 |.aN bE e ty xs=>bE=γ/\(∃hb,h=some hb/\hb.fz=false)/\∃h:i<xs.length,o+n<=e/\match v with
   |some cs=>cs.length=n/\K (af (iM γ fr) γ (.aN γ e ty (xs.set i (gQ (pN (xs[i]'h).bl o cs))))) hp
   |none=>False
 |_=>False
theorem ajG{γ n i o:Nat}{v:PV}:o9 n (.np γ i o) v fr hp K=yY (fr γ) (hp γ) (fw v) γ n i o fr hp K:=by simp only[o9,yY];cases fr γ<;>rfl
theorem akQ{γ e ty n o d:Nat}{ag:Bool}{x:PV}(h1:o+n<=e)(h2:ag=true∨n=1):yP (.aN γ e ty [x]) γ n ag 0 o d fr hp K=K (af fr d (rz ag n o x)) hp:=by have:(ag=false->n=1):=fun h=>h2.resolve_left (by simp[h]);simp[yP,h1];exact fun _=>this
theorem akR{γ e ty n o e0 Ny:Nat}{x:PV}{Nz cs:List PV}(h1:o+n<=e)(h2:cs.length=n):yY (.aN γ e ty [x]) (some ⟨e0,Ny,Nz,false⟩) (some cs) γ n 0 o fr hp K=K (af (iM γ fr) γ (.aN γ e ty [gQ (pN x.bl o cs)])) hp:=by simp[yY,h1,h2]
theorem akS{γ ty B n w r d:Nat}{π:Nat->Nat}(h:r<n):yP (.aN γ 1 ty (jQ (ik B n w π))) γ 1 false r 0 d fr hp K=K (af fr d (.ms (B+π r) w)) hp:=by
 have hl:r<(jQ (ik B n w π)).length:=by simpa[jQ,ik]using h
 simp only[yP,hl,exists_true_left,true_and,Kac,Kbd,implies_true];simp[rz,jQ,ik,PV.bl,PV.cells]
theorem akT{γ ty B n w r m e0 Ny:Nat}{π:Nat->Nat}{Nz:List PV}(h:r<n):yY (.aN γ 1 ty (jQ (ik B n w π))) (some ⟨e0,Ny,Nz,false⟩) (some [.ms (B+m) w]) γ 1 r 0 fr hp K=K (af (iM γ fr) γ (.aN γ 1 ty (jQ (ik B n w fun x=>if x=r then m else π x)))) hp:=by
 have hl:r<(jQ (ik B n w π)).length:=by simpa[jQ,ik]using h
 have e:(ik B n w π).set r (B+m,w)=ik B n w fun x=>if x=r then m else π x:=by
  refine KcU (by simp[ik]) fun j h1 h2=>?_;rw[Kdf,ON,ON];split
  ·rename_i e;subst e;simp
  ·rename_i e;rw[if_neg fun e2=>e e2.symm]
 rw[<-e];simp only[yY,hl,exists_true_left,true_and,Kac,Kbd,KaB,exists_eq_left',KaW,Kbk];simp[gQ,pN,jQ,PV.bl,PV.cells,Kc9]
theorem apD:
  (∀(γ o n:Nat),fw (.aM γ o n)=some [.aM γ o n])/\
  (∀(k:IntKind)(n:Int),fw (.int k n)=some [.int k n])/\
  (∀(b:Bool),fw (.bool b)=some [.bool b])/\
  (fw .aa=some [.aa])/\
  (∀(e:Nat)(xs:List PV),fw (.sl e xs)=some [.sl e xs])/\
  (∀(cs:List PV),fw (.pt cs)=some [.pt cs])/\
  (∀(cs:List PV),fw (.agg cs)=some cs):=by
 refine⟨?_,?_,?_,?_,?_,?_,?_⟩<;>intros<;>rfl
theorem ajH{β o n:Nat}(h:1000000<=β):fw (.ay β o n)=some [.ay β o n]:=by simp[fw,cd,h]
theorem agX{cs:List PV}:fw (.aU cs)=if cs.all PV.gZ then some cs else none:=rfl
theorem akU:(∀(k:IntKind)(n:Int),(PV.int k n).gZ=true)/\(∀b:Bool,(PV.bool b).gZ=true)/\(PV.aa.gZ=true)/\(∀(e:Nat)(xs:List PV),(PV.sl e xs).gZ=true)/\(∀(β o n:Nat),(PV.ay β o n).gZ=true)/\(∀(β o n:Nat),(PV.aM β o n).gZ=true)/\(∀cs:List PV,(PV.pt cs).gZ=true)/\(PV.undef.gZ=false):=by refine⟨?_,?_,?_,?_,?_,?_,?_,?_⟩<;>intros<;>rfl
theorem akl:(∀(k:IntKind)(n:Int),(PV.int k n).oB=false)/\(∀b:Bool,(PV.bool b).oB=false)/\(PV.aa.oB=false)/\(∀(e:Nat)(xs:List PV),(PV.sl e xs).oB=false)/\(∀(β o n:Nat),(PV.ay β o n).oB=true)/\(∀(β o n:Nat),(PV.aM β o n).oB=true)/\(∀cs:List PV,(PV.pt cs).oB=false)/\(PV.undef.oB=true):=by refine⟨?_,?_,?_,?_,?_,?_,?_,?_⟩<;>intros<;>rfl
theorem ab5{cs:List PV}(h:cs.any PV.oB=true):nP cs= .aU cs:=by simp[nP,h]
theorem ab6{cs:List PV}(h:cs.any PV.oB=false):nP cs= .agg cs:=by simp[nP,h]
theorem ajI{a b:PV}{cs:List PV}:gQ (a::b::cs)=nP (a::b::cs):=rfl
theorem ajJ{a:PV}:gQ [a]=a:=rfl
theorem akm{n o:Nat}{x:PV}:rz true n o x=nP ((x.bl.drop o).take n):=rfl
theorem akn{n o:Nat}{x:PV}:rz false n o x=(x.bl.drop o).headD .undef:=rfl
theorem agY{l cs:List PV}{o:Nat}:pN l o cs=l.take o++cs++l.drop (o+cs.length):=rfl
theorem Q8z{cs:List PV}:(PV.aU cs).bl=cs:=rfl
theorem ZV{cs:List PV}:(PV.agg cs).bl=cs:=rfl
theorem ako{z:List PV}{ps:List (Nat×Nat×PV)}{d:Nat}(h:ps.any (fun p=>p.2.2.kO)=true):kD z ps d fr hp K=(tC z.length ps/\K (af fr d (.aU (ij z (ps.map fun p=>(p.1,(fw p.2.2).getD []))))) hp):=by simp only[kD,if_pos h]
theorem Ym{len:Nat}:tC len []=True:=by simp[tC]
theorem Yi{len o n:Nat}{v:PV}{ps:List (Nat×Nat×PV)}:tC len ((o,n,v)::ps)=((∃cs,fw v=some cs/\cs.length=n/\o+n<=len)/\tC len ps):=by simp[tC]
theorem ajK:(∀(γ o n:Nat),(PV.aM γ o n).kO=true)/\(∀(cs:List PV),(PV.aU cs).kO=true)/\(∀(β o n:Nat),(PV.ay β o n).kO=decide (2000000<=β))/\(∀(cs:List PV),(PV.agg cs).kO=false)/\(∀(k:IntKind)(n:Int),(PV.int k n).kO=false)/\(∀b:Bool,(PV.bool b).kO=false)/\(PV.aa.kO=false)/\(∀(e:Nat)(xs:List PV),(PV.sl e xs).kO=false):=by refine⟨?_,?_,?_,?_,?_,?_,?_,?_⟩<;>intros<;>rfl
theorem agZ:(∀(β:Nat)(k:IntKind)(n:Int),iz β (.int k n)= .int k n)/\(∀(β:Nat)(b:Bool),iz β (.bool b)= .bool b)/\(∀β:Nat,iz β .aa= .aa)/\(∀(β e:Nat)(xs:List PV),iz β (.sl e xs)= .sl e xs)/\(∀(β γ o n:Nat),iz β (.ay γ o n)=if γ=β then .undef else .ay γ o n)/\(∀(β γ o n:Nat),iz β (.aM γ o n)=if γ=β then .undef else .aM γ o n):=by refine⟨?_,?_,?_,?_,?_,?_⟩<;>intros<;>rfl
theorem ag0{β γ e ty:Nat}{x:PV}(h:γ≠β):de β (.aN γ e ty [x])= .aN γ e ty [gQ (x.bl.map (iz β))]:=by simp[de,h]
theorem ag1{β γ ty B n w:Nat}{π:Nat->Nat}(h:γ≠β)(h2:β<B):de β (.aN γ 1 ty (jQ (ik B n w π)))= .aN γ 1 ty (jQ (ik B n w π)):=by
 simp only[de,if_neg h];congr 1;conv=>rhs;rw[<-List.map_id (jQ (ik B n w π))]
 refine Kbb fun x hx=>?_;obtain⟨y,hy,rfl⟩:=KaE.1 hx;obtain⟨r,hr,rfl⟩:=KaE.1 hy;simp only[PV.bl,PV.cells,Kba,Kbt,iz,gQ];rw[if_neg (by omega)];rfl
theorem apg{β δ γ ty B n w:Nat}{π:Nat->Nat}(al:β<1000000)(hB:2000000<=B)(ak:2000000<=γ):eW (mh β δ) (.aN γ 1 ty (jQ (ik B n w π)))= .aN γ 1 ty (jQ (ik B n w π)):=by
 have e1:mh β δ γ=γ:=by unfold mh;rw[if_neg (by omega)]
 simp only[eW,e1];congr 1;conv=>rhs;rw[<-List.map_id (jQ (ik B n w π))]
 refine Kbb fun x hx=>?_;obtain⟨y,hy,rfl⟩:=KaE.1 hx;obtain⟨r,hr,rfl⟩:=KaE.1 hy;refine agV (.inr ⟨_,_,rfl⟩) fun dA n' h=>?_;cases h;unfold mh;rw[if_neg (by omega)]
theorem akp{δ γ ty B n w:Nat}{π:Nat->Nat}(h:γ≠δ)(lB:δ<B):dU δ (.aN γ 1 ty (jQ (ik B n w π)))= .aN γ 1 ty (jQ (ik B n w π)):=by
 simp only[dU,if_neg h];congr 1;conv=>rhs;rw[<-List.map_id (jQ (ik B n w π))]
 refine Kbb fun x hx=>?_;obtain⟨y,hy,rfl⟩:=KaE.1 hx;obtain⟨r,hr,rfl⟩:=KaE.1 hy;simp only[PV.bl,PV.cells,Kba,Kbt,fo,gQ];rw[if_neg (by omega)];rfl
theorem ab7{β:Nat}{cs:List PV}:bZ β (.aU cs)= .aU cs:=rfl
theorem ad4{γ:Nat}{cs:List PV}:dU γ (.aU cs)= .aU (cs.map (fo γ)):=rfl
theorem ab8{β:Nat}{cs:List PV}:de β (.aU cs)= .aU (cs.map (iz β)):=rfl
theorem akq:(∀(γ:Nat)(k:IntKind)(n:Int),fo γ (.int k n)= .int k n)/\(∀(γ:Nat)(b:Bool),fo γ (.bool b)= .bool b)/\(∀γ:Nat,fo γ .aa= .aa)/\(∀(γ e:Nat)(xs:List PV),fo γ (.sl e xs)= .sl e xs)/\(∀(γ β o n:Nat),fo γ (.ay β o n)=if β=γ then .aM γ o n else .ay β o n)/\(∀(γ β o n:Nat),fo γ (.aM β o n)= .aM β o n):=by refine⟨?_,?_,?_,?_,?_,?_⟩<;>intros<;>rfl
theorem ajL{γ i o off d:Nat}:qS off (.np γ i o) d fr hp K=K (af fr d (.np γ i (o+off))) hp:=rfl
theorem ab9{γ bE e ty:Nat}{xs:List PV}:jf γ (.aN bE e ty xs)=if bE=γ then .undef else .aN bE e ty xs:=rfl
theorem aca{γ:Nat}{cs:List PV}:jf γ (.aU cs)= .aU cs:=rfl
attribute [go_sem] ajL ab9 aca false_and List.all_cons List.all_nil ab7 ad4 ab8 akq exists_eq_left' ajF ajG akQ akR akS akT apD ajH agX akU akl ab5 ab6 ajI ajJ akm akn agY Q8z ZV ako Ym Yi ajK agZ ag0 ag1 apg akp
theorem PJ{p:PV}(h:rD p):iD p=p:=by
 obtain⟨h1,h2,h3,h4⟩:=h;have h5:(p.refs.any kN||p.bT.any lD)=false:=by rw[Kcf,KbC,KbC];exact⟨fun x hx=>by simp[h1 x hx],fun x hx=>by simp[h2 x hx]⟩
 unfold iD;split
 ·exact absurd rfl (h3 _ _ _ _)
 ·exact absurd rfl (h4 _).1
 ·exact absurd rfl (h4 _).2.1
 ·exact absurd rfl ((h4 _).2.2 _)
 ·rw[h5];rfl
theorem CY{V W:List (Nat×Nat)}{B B':List Nat}{X Z F:Fr}(h:vL V W=true)(hB:(B'.all B.contains)=true):aQ V X (dn B' (aQ W Z (dn B F)))=aQ W (aQ V X (dn B' Z)) (dn B F):=by
 have e1:fW (aQ W Z (dn B F))=aQ W (fW Z) (dn B F):=by
  funext s;show iD (aQ W Z (dn B F) s)=_;unfold aQ;split
  ·rfl
  ·exact PJ (xB B F s)
 unfold dn;rw[show fW (aQ W Z (bF B (fW F)))=aQ W (fW Z) (bF B (fW F))from e1,GG h hB]
theorem zy{V W:List (Nat×Nat)}{B:List Nat}{X Z F:Fr}(h:vL V W=true):aQ V X (fW (aQ W Z (bF B (fW F))))=aQ W (aQ V X (fW Z)) (bF B (fW F)):=by
 have e1:fW (aQ W Z (dn B F))=aQ W (fW Z) (dn B F):=by
  funext s;show iD (aQ W Z (dn B F) s)=_;unfold aQ;split
  ·rfl
  ·exact PJ (xB B F s)
 rw[show fW (aQ W Z (bF B (fW F)))=aQ W (fW Z) (bF B (fW F))from e1,nN h]
theorem CM{V W:List (Nat×Nat)}{X Z F:Fr}(h:vL V W=true):aQ V X (fW (aQ W Z (fW F)))=aQ W (aQ V X (fW Z)) (fW F):=by have:=zy (V:=V) (W:=W) (B:=[]) (X:=X) (Z:=Z) (F:=F) h;simpa only[ks]using this
theorem acb{γ:Nat}{F:Fr}:iM γ (fW F)=fW F:=by have:=TT (γ:=γ) (B:=[]) (F:=F);simpa only[dn,ks]using this
theorem acd{β:Nat}{F:Fr}(h:2000000<=β):fK β (fW F)=fW F:=by have:=TS (B:=[]) (F:=F) h;simpa only[dn,ks]using this
attribute [go_sem] acb acd
theorem akr:(∀(k:IntKind)(n:Int),(PV.int k n).bT=[])/\(∀b:Bool,(PV.bool b).bT=[])/\(PV.aa.bT=[])/\(PV.undef.bT=[])/\(∀(e:Nat)(xs:List PV),(PV.sl e xs).bT=[])/\(∀cs:List PV,(PV.agg cs).bT=[])/\(∀cs:List PV,(PV.aw cs).bT=[])/\(∀cs:List PV,(PV.pt cs).bT=[])/\
  (∀(β o n:Nat),(PV.ay β o n).bT=[])/\(∀(β o n:Nat),(PV.mp β o n).bT=[])/\(∀(β o n:Nat),(PV.aM β o n).bT=[β])/\(∀(β o n:Nat),(PV.np β o n).bT=[β]):=by
 refine⟨?_,?_,?_,?_,?_,?_,?_,?_,?_,?_,?_,?_⟩<;>intros<;>rfl
attribute [go_sem] akr
theorem ad5{d w i:Nat}{k:IntKind}{f:Nat->Rat}(h:i<w):dM 3 (.sl 3 (mS PV.rat f w)) (.int k (i:Nat)) d fr hp K=K (af fr d (.pt (PV.rat (f i)).cells)) hp:=by unfold mS;rw[xw (by omega) (by simp;omega)];simp
theorem ad6{α:Type}{p:α->PV}{f:Nat->α}{w d e:Nat}:oL (.sl e (mS p f w)) d fr hp K=K (af fr d (.int .i64 (w:Nat))) hp:=by simp[oL,mS]
attribute [go_sem] ad5 ad6
theorem ag2{i c:Nat}(h:c<1600000):(1600000+i=c)=False:=by simp;omega
attribute [go_sem] ag2
end Go.FW
namespace Go.FW
open Go
variable {C C' : Ctx} {ρ bf : Nat -> Option Nat} {fr az : Fr} {hp an : HP} {w : World} {K R : Qg}
theorem OO{γ e ty:Nat}{cs cs':List PV}(δ e' ty':Nat)(yz:fr γ= .aN γ e ty [.agg cs])(h1:hp δ=none)(h2:2000000<=δ)(h3:0<e')(hl:cs'.length=cs.length)(hc:∀p∈cs.zip cs',p.2=p.1∨(p.1= .aa/\p.2= .ay δ 0 0)):
  Wk fr hp (af fr γ (.aN γ e ty [.aU cs'])) (Qy hp δ ⟨e',ty',[],false⟩):=by
 have h:=adG (fr:=fr) (hp:=hp) (γ:=γ) (e:=e) (ty:=ty) (xs:=[.agg cs]) (xs':=[.aU cs']) (fun x=>if x=δ then some (e',ty')else none) yz (fun x y h=>?_) rfl (fun i x x' k1 k2=>?_)
 ·refine cast (congrArg (Wk fr hp (af fr γ (.aN γ e ty [.aU cs']))) (funext fun x=>?_)) h;unfold Qy;by_cases hx:x=δ
  ·subst hx;simp
  ·simp[hx]
 ·split at h
  ·rename_i hx;subst hx;cases h;exact⟨h1,h2,h3⟩
  ·cases h
 ·cases i with
  |succ i=>cases k1
  | zero=>
   cases k1;cases k2;refine⟨hl,fun j y y' q1 q2=>?_⟩;have hz:(y,y')∈cs.zip cs':=by refine Kai (i:=j) ?_;rw[List.getElem?_zip_eq_some];exact⟨q1,q2⟩
   rcases hc _ hz with h|⟨h,h'⟩
   ·exact .inl h
   ·exact .inr ⟨h,δ,(e',ty'),by simp,h'⟩
theorem IF{sk:List It}{r:RT}(s k:Nat)(l:List Nat){p D:PV}(h0:fr s=p)(h1:W3 fr k p)(h2:UP fr hp k p=D)(h3:Np fr k p=l)(hv:vc C R (.o r::sk) (af fr s D) (cf hp l)):vc C R (.o (.wk r)::sk) fr hp:=by subst h0;subst h2;subst h3;exact mL (ait s k h1) hv
end Go.FW
namespace Go.FW
open Go
abbrev MF:=Nat->Nat->Rat
abbrev LF:=Rat×(Nat->Rat)
variable {C : Ctx} {fr : Fr} {hp : HP} {w : World} {K R : Qg}
abbrev PV.wO(w:Nat)(f:Nat->Rat):PV:=.sl 3 (mS PV.rat f w)
theorem ag3{ty w n i d:Nat}{fz:Bool}{M:MF}(h:i<n):kn (some ⟨1,ty,mS (PV.wO w) M n,fz⟩) 1 false i 0 d fr hp K=K (af fr d (PV.wO w (M i))) hp:=by rw[tF (by rw[Gx];exact h) (by omega) (by simp),HC];rfl
theorem ad7{d w n i:Nat}{k:IntKind}{M:MF}(h:i<n):dM 1 (.sl 1 (mS (PV.wO w) M n)) (.int k (i:Nat)) d fr hp K=K (af fr d (.pt [PV.wO w (M i)])) hp:=by
 have hl:i<(mS (PV.wO w) M n).length:=by rw[Gx];exact h
 simp only[dM];simp[hl,HC];rfl
attribute [go_sem] ag3 ad7
theorem ad8{ty i d:Nat}{fz:Bool}{α:Type}{p:α->PV}{L:List α}(h:i<L.length):kn (some ⟨1,ty,L.map p,fz⟩) 1 false i 0 d fr hp K=K (af fr d (eM false 1 0 (p (L[i]'h)))) hp:=by rw[tF (by rw[KaT];exact h) (by omega) (by simp),KcB]
theorem ad9{ty i d:Nat}{fz:Bool}{L:List LF}(h:i<L.length):kn (some ⟨3,ty,L.map (fun f=>PV.rat f.1),fz⟩) 3 true i 0 d fr hp K=K (af fr d (PV.rat (L[i]'h).1)) hp:=by rw[tF (by rw[KaT];exact h) (by omega) (by simp),KcB];rfl
theorem aea{ty i d w:Nat}{fz:Bool}{L:List LF}(h:i<L.length):kn (some ⟨1,ty,L.map (fun f=>PV.wO w f.2),fz⟩) 1 false i 0 d fr hp K=K (af fr d (PV.wO w (L[i]'h).2)) hp:=by rw[ad8 h];rfl
attribute [go_sem] ad9 aea
def nm1(x:Nat):Bool:=decide (x=2000000)
theorem ajd:nm1 2000000=true:=decide_eq_true rfl
attribute [go_sem] ajd
theorem aje{p:PV}{ps:List PV}{d:Nat}{fr:Fr}{hp:HP}{K:Qg}:kC (.eX (p::ps)) 0 d fr hp K=K (af fr d p) hp:=rfl
theorem ajf{p q:PV}{ps:List PV}{d:Nat}{fr:Fr}{hp:HP}{K:Qg}:kC (.eX (p::q::ps)) 1 d fr hp K=K (af fr d q) hp:=rfl
attribute [go_sem] aje ajf
end Go.FW
namespace Go.FW
open Go
variable {C : Ctx} {fr : Fr} {hp : HP} {w : World} {K R : Qg}
theorem ajg{cs:List PV}{q:PV}{d:Nat}:kC (.eY cs q) 0 d fr hp K=K (af fr d (.aU cs)) hp:=rfl
theorem ajh{cs:List PV}{q:PV}{d:Nat}:kC (.eY cs q) 1 d fr hp K=K (af fr d q) hp:=rfl
theorem aks{n ty d:Nat}{cs:List PV}(h:cs.length=n)(h0:0<n)(hU:cs.all PV.gZ=true)(rn:cs.all (fun x=> !(x.dT.contains (4000000+d)))=true):
  fU n ty (.aU cs) d fr hp K=K (af (af (fK (4000000+d) fr) (4000000+d) (.aN (4000000+d) n ty [.aU cs])) d (.np (4000000+d) 0 0)) (Qy hp (4000000+d) ⟨n,ty,[],false⟩):=by
 show tP n ty cs d fr hp K=_;unfold tP c8;simp only[eq_iff_iff,and_iff_right_iff_imp];exact fun _=>⟨h,h0,hU,rn⟩
theorem apw{σ:Nat->Nat}{γ e ty:Nat}{cs:List PV}:eW σ (.aN γ e ty [.aU cs])= .aN (σ γ) e ty [gQ (cs.map (dH σ))]:=rfl
theorem akt{γ bE e ty:Nat}{cs:List PV}(h:bE≠γ):dU γ (.aN bE e ty [.aU cs])= .aN bE e ty [gQ (cs.map (fo γ))]:=by simp[dU,h,PV.bl]
theorem aku{γ e ty:Nat}{cs:List PV}{nm:Nat->Bool}:y8 nm (.aN γ e ty [.aU cs])=if(γ::cs.flatMap PV.dT).any nm then .undef else .aN γ e ty [.aU cs]:=by simp[y8,PV.refs,PV.bT,PV.bl]
attribute [go_sem] ajg ajh aks apw akt aku
end Go.FW
