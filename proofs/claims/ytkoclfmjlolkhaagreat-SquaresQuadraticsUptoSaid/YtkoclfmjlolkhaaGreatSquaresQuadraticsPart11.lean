/- Part 11 of the proof of SquaresQuadratics: B2, B3, FwVD. Own lemmas; no conditions. -/
import Derived.Test.YtkoclfmjlolkhaaGreatSquaresQuadraticsPart10
set_option maxHeartbeats 1000000
set_option linter.unusedSimpArgs false
set_option linter.unusedVariables false
set_option linter.unnecessarySimpa false
set_option maxRecDepth 100000
namespace Go.Proofs.YtkoclfmjlolkhaaGreat
open Go Go.FW
def H2:ay:=⟨20,[.t 2],Zr (iS 1 24<|
 YE 2)<|Zr (YE 3)<| .seq (Zr (Yj 4 0)<| .block 0<| .loop<| .seq (Zr (Zm 5 4<|
 Yi 6 0 1<|
 Yz 8 5 7)<| .cond (.t 8) .skip (.exit 0))<| .seq (.block 1<| .rg (Zm 11 3<|
 Zo (.bs 12 3 51 [])<|
 Zh 13 3 1<|
 Zm 14 4<|
 Yn 15 124 13 14<|
 mo 16 3 56 51 12 15<|
 .wk<|Zo (.bs 17 1 22 [.t 16])<|
 Zo (.app 18 1 24 22 (.t 11) (.t 17))<|
 Ye 3 18))<| .rg (fR 9 4))<|Zr (YZ 19 3 2) .ret⟩
theorem Kf:Qe Tryz.prog Tryz.f59=some H2.strip:=by kernel_rfl
def WN:ay:=⟨103,[.t 4,.t 5],Zr (Yf 4<|
 YE 5)<|Zr (YE 6)<| .seq (Zr (Yj 7 0)<| .block 0<| .loop<| .seq (Zr (Ya 11 7 1<|
 Yz 13 11 12)<| .cond (.t 13) .skip (.exit 0))<| .seq (.block 1<|Zr (Yp 16 6<|
 Zm 8 17 .nil)<|Zr (jC 18 8 9)<| .seq (.block 2<| .loop<| .seq (Zr (Ya 19 9 0<|
 DR 21 20 19 0 9 7<|
 Zg 23 true (.idx 29 3 (.t 27) (.t 28))<|
 Zg 23 true (.ld 30 3 true (.t 29))<|
 Zg 23 true (.call (some 31) false (.c (.fn 27 [] [])) [.t 30])<|
 Zg 23 true (.bin 32 .eql false (.t 31) (.c (Zz 0)))<|
 Yq 33 23 32 .nil)<| .cond (.t 33) .skip (.exit 2))<| .block 3<| .rg (YX 34 9 9))<| .seq (Zr (Ya 36 9 0<|
 Zn 38 37<|
 Zb 39 .eql 36 38 .nil)<| .cond (.t 39) (.exit 1) .skip)<|Zr (Ya 40 0 8<|
 Ya 42 0 9<|
 Ym 44 0 9<|
 Ym 48 0 8<|
 Zi 52 1 40 41<|
 Zs 1 52 47<|
 YS 53 1 42 43 51)<|Zr (Ya 54 0 8<|
 Ym 56 0 8<|
 rN 60 0 8 7<|
 Yn 67 125 59 66<|
 YS 68 1 54 55 67)<| .seq (Zr (Yj 10 0)<| .block 4<| .loop<| .seq (Zr (Yo 69 10 0)<| .cond (.t 72) .skip (.exit 4))<| .seq (.block 5<|Zr (Ya 75 10 8<|
 jU 77 75 76)<| .cond (.t 77) (.rg (Ya 78 0 10<|
 Ym 80 0 10<|
 Ym 84 0 8<|
 rN 88 0 10 7<|
 Zq 95 false 126 [.t 83,.t 87,.t 94]<|
 YS 96 1 78 79 95)) .skip)<| .rg (YX 73 10 10))<| .rg (Ya 97 6 7<|
 Ys 99 1 3 98 8 97 6))<| .rg (fR 14 7))<|Zr (Ya 101 0 6<|
 dp 4 101 102) .ret⟩
theorem aob:Qe Tryz.prog Tryz.f60=some WN.strip:=by kernel_rfl
theorem Kg{l:List Rat}{R m i:Nat}(hl:l.length=R*m)(hi:i<R)(cy:R<=40)(hm:m<=40):Qd Tryz.prog 124 [PV.a9 R m l,.int .i64 (i:Nat)] (· = .sl 3 (Qo PV.rat (Qq l m i) m)):=by
 have hb1:(i+1)*m<=R*m:=Kaj _ hi;have hb2:i*m<=(i+1)*m:=Kaj _ Oz;have e1:(i:Int)*(m:Int)=((i*m:Nat):Int):=by rw[Kb3]
 have e2:((i:Int)+1)*(m:Int)=(((i+1)*m:Nat):Int):=by rw[Kb3];rfl
 have pK:=O3 hl hi;have rO:R*m<=40*40:=KaQ cy hm;refine aE Qg Tryz.func124 akg fun C hP=>?_;refine Sz2 e1 e2 ?_;refine Qc ?_ rfl;rw[pK]
theorem awv{l:List Rat}{R m:Nat}(hl:l.length=R*m)(cy:R<=40)(hm:m<=40):
  gj Tryz.prog 59 [PV.a9 R m l] (fun _=>.undef) aA (fun r _ H=>r= .ms 2000000 R/\H 2000000=some ⟨1,22,Qo (PV.cX m) (Qq l m) R,false⟩):=by
 refine o6 Qg Tryz.func59 rfl Kf Nz fun C hP=>?_;simp only[H2];refine fw ?_;simp+decide (disch:=try exact D0) only[go_sem];refine fW 3 900 1 22 Oz T0 ?_;refine Qi okB [(3,18)] [12,16,17,18,900] (fun n J hp=>∃i,n=R-i/\i<=R/\J 3= .ms 900 i/\J 4= .int .i64 (i:Nat)/\hp 1=some ⟨3,24,[PV.a9 R m l],false⟩/\hp 900=some ⟨1,22,(List.range i).map (fun r=>.sl 3 (Qo PV.rat (Qq l m r) m)),false⟩/\hp 2000000=none) R ?_ ?_
 ·refine⟨0,rfl,by omega,?_⟩;simp+decide (disch:=try exact D0) only[go_sem];exact⟨rfl,rfl⟩
 rintro _ J h ⟨i,rfl,hi,h3,h4,h1,hh,hn⟩;simp+decide (disch:=try exact D3 h3 h4 h1) only[go_sem,h3,h4,h1];refine Qa (fun hg=>?_) (fun hg=>?_)
 ·have al:i<R:=by omega
  have c1:=Kg hl al cy hm;have kZ:((List.range m).map (Qq l m i)).length=m:=by simp
  rw[pe]at c1;simp+decide (disch:=try exact D3 h3 h4 h1) only[go_sem,h3,h4,h1];rw[My Oz];simp+decide (disch:=try exact D3 h3 h4 h1) only[go_sem,h3,h4,h1];refine Qb hP c1 ?_;simp+decide (disch:=try exact D3 h3 h4 h1) only[go_sem,h3,h4,h1];rw[mM (n:=0) (f:=PV.rat) (xs:=[]) (ys:=(List.range m).map (Qq l m i)) T0 rfl Oz Oz Oz];simp+decide (disch:=try exact D3 h3 h4 h1) only[go_sem,h3,h4,h1];refine di (Wk.refl _ _) ?_;simp+decide (disch:=try exact D3 h3 h4 h1) only[go_sem,h3,h4,h1];rw[Ua (e':=3) (ty':=51) (xs:=((List.range m).map (Qq l m i)).map PV.rat) (fz:=false) T0,Kac (by simp)];simp+decide (disch:=try exact D3 h3 h4 h1) only[go_sem,h3,h4,h1];rw[Qr (f:=fun r=>PV.sl 3 (Qo PV.rat (Qq l m r) m)) (y:=i) (xs:=List.range i) (ty':=22) (fz:=false) (U1 hh) (by simp+decide (disch:=first|omega|rfl|(simp+decide only[go_sem,pe,ek,Kaw,KaD,Kav,KaB,Kam]<;>rfl)|fail) only[go_sem,pe,ek,Kaw,KaD,Kav,KaB,Kam]) Oz (by simp) Oz Oz];simp+decide (disch:=try exact D3 h3 h4 h1) only[go_sem,h3,h4,h1];refine Qf (R-(i+1)) Oz ⟨i+1,rfl,by omega,?_⟩;simp+decide (disch:=try exact E2 h1 hn) only[go_sem,h1,hn,ek,Kaw,KaD,Kav,KaB,Kam]
  trace_state
 ·obtain rfl:i=R:=by omega
  simp+decide (disch:=try exact D2 h3 hh) only[go_sem,h3,hh];refine JG (mP 900 2000000 (T1 hn) Oz rfl Oz) ?_;refine Hf ?_;simp+decide (disch:=try exact D2 h3 hh) only[go_sem,h3,hh];rfl
theorem adL{M:MF}{R w n K ty:Nat}(cy:R<=40)(hw:w<=40)(hn:n<=w)(hK:K<=2^20)(hB:vm K R w n M):
  gj Tryz.prog 60 [.ms 2000000 R,.int .i64 (n:Nat)] (fun _=>.undef) (Qj aA 2000000 ⟨1,ty,Qo (PV.cX w) M R,false⟩)
   (fun r _ _=>r= .aH [.sl 1 (Qo (PV.cX w) (Qt R M n).M R),.sl 1 (sH (Qt R M n).ak)]):=by
 refine o6 Qg Tryz.func60 rfl aob Nz fun C hP=>?_;simp only[WN];refine fw ?_;refine Sz0 ?_;refine fW 6 900 1 3 Oz Tz0 ?_;refine eO okB [(0,0),(6,100)] [99,100,900] (fun q J hp=>∃k,q=n-k/\k<=n/\J 0= .ms 2000000 R/\J 6= .ms 900 (Qt R M k).ak.length/\J 7= .int .i64 (k:Nat)/\hp 2000000=some ⟨1,ty,Qo (PV.cX w) (Qt R M k).M R,false⟩/\hp 900=some ⟨1,3,(Qt R M k).ak.map (fun k:Nat=>PV.int .i64 (k:Nat)),false⟩) n ?_ ?_
 ·refine⟨0,rfl,by omega,?_⟩;refine Sz0 ?_;exact⟨rfl,rfl,rfl,rfl⟩
 rintro _ J h ⟨k,rfl,hk,j0,j6,j7,hr,oM⟩;refine Sz3 j0 j6 j7 ?_;refine Qa (fun hc=>?_) (fun hc=>?_)
 ·have bI:k<n:=by omega
  have zx:k<w:=by omega
  have lI:=hB k hk;have sY:=hB (k+1) bI;have aV:=ll R M k;have hS:Qt R M (k+1)=dP R (Qt R M k) k:=rfl;obtain⟨E,hE⟩:∃E,Qt R M k=E:=⟨_,rfl⟩
  rw[hS]at sY;rw[hE]at lI sY aV j6 hr oM hS;refine Sz3 j0 j6 j7 ?_;refine eO okB [(0,0),(9,9),(19,35)] [] (fun q J hp=>∃i,q=R-i/\E.ak.length<=i/\i<=R/\pF E.M k (R-i) i=eJ E.M R k E.ak.length/\J 0= .ms 2000000 R/\J 9= .int .i64 (i:Nat)/\h=hp) (R-E.ak.length) ?_ ?_
  ·refine⟨E.ak.length,rfl,Kae _,aV.2.1,rfl,?_⟩;exact Tz1 j0
  rintro _ J2 _ ⟨i,rfl,te,dZ,pV,i0,i9,rfl⟩;refine Sz2 i0 i9 ?_;refine fN (fun nS=>?_) (fun nS=>?_)
  ·have hi:i<R:=by omega
   refine Sz5 i0 i9 hr j6 j7 ?_;refine Qb hP (o7 (a:=E.M i k) (by have:=lI.1 i hi k zx;omega)) ?_;refine Sz5 i0 i9 hr j6 j7 ?_;refine Qa (fun hz=>?_) (fun hz=>?_)
   ·refine Sz1 i9 ?_;refine de (R-(i+1)) Oz ⟨i+1,rfl,by omega,by omega,?_⟩;refine Sz1 i0 ?_;rw[<-pV,show R-i=(R-(i+1))+1 by omega];exact(if_pos (dy.1 hz)).symm
   ·have Eg:E.M i k≠0:=fun e=>hz (dy.2 e);have zG:eJ E.M R k E.ak.length=i:=by rw[<-pV,show R-i=(R-(i+1))+1 by omega];exact if_neg Eg
    generalize hm:E.ak.length=m at *
    have ja:m<R:=by omega
    have MU:dP R E k=⟨lD (dm (ct E.M i m) m (E.M i k)) m k,E.ak++[k],(if i=m then E.cG else -E.cG)*E.M i k⟩:=by unfold dP;rw[hm,zG,if_neg Oz]
    rw[MU]at sY hS;have BK:=lI.1 i hi k zx;refine Sz7 i0 i9 j6 j7 hr (show ¬i=R from by omega) (show ¬((i:Int)=(R:Int))from by omega) ?_;rw[HM ja];refine Sz4 i0 i9 j6 j7 ?_;rw[HM hi];have hsw:Qo (PV.cX w) (fun r=>if r=i then E.M m else if r=m then E.M i else E.M r) R=Qo (PV.cX w) (ct E.M i m) R:=yo fun r hr c hc=>by
     unfold ct;by_cases e:r=m
     ·subst e;rw[if_pos rfl,if_pos rfl];by_cases e2:r=i
      ·subst e2;rw[if_pos rfl]
      ·rw[if_neg e2]
     ·rw[if_neg e,if_neg e]
    rw[hsw];have kD:ct E.M i m m=E.M i:=by unfold ct;rw[if_pos rfl]
    refine Sz5 i0 i9 j6 j7 kD ?_;refine Qb hP (Jq (x:=E.M i) (c:=E.M i k) (k:=K) Oz (fun c hc=>lI.1 i hi c hc) BK Eg Oz) ?_;refine Sz5 i0 i9 j6 j7 kD ?_;rw[show PV.sl 3 (Qo PV.rat (fun c=>E.M i c/E.M i k) w)=PV.cX w (fun c=>E.M i c/E.M i k)from rfl,HM ja];have lg:Qo (PV.cX w) (fun r=>if r=m then fun c=>E.M i c/E.M i k else ct E.M i m r) R=Qo (PV.cX w) (dm (ct E.M i m) m (E.M i k)) R:=yo fun r hr c hc=>by
     unfold dm;by_cases e:r=m
     ·rw[if_pos e,if_pos e,kD]
     ·rw[if_neg e,if_neg e]
    rw[lg];obtain⟨N,xv⟩:∃N,dm (ct E.M i m) m (E.M i k)=N:=⟨_,rfl⟩
    rw[xv]at sY hS⊢;have MQ:∀c',c'<w->rs (N m c')<=K:=fun c' dA=>by simpa only[lD,if_true]using sY.1 m ja c' dA
    have Ei:∀r',r'<R->r'≠m->∀c',c'<w->rs (N r' c')<=K:=fun r' cM aJ c' dA=>by
     rw[<-xv];unfold dm ct;rw[if_neg aJ,if_neg aJ];split
     ·exact lI.1 m ja c' dA
     ·exact lI.1 r' cM c' dA
    refine Sz4 i0 i9 j6 j7 ?_;simp (disch:=decide) only[kk,lY,dS,lX];refine eO okB [(0,0),(10,10),(69,96)] [] (fun q J hp=>∃r,q=R-r/\r<=R/\J 0= .ms 2000000 R/\J 10= .int .i64 (r:Nat)/\hp 2000000=some ⟨1,ty,Qo (PV.cX w) (fun r' c'=>if r'=m∨r<=r' then N r' c' else N r' c'-N r' k*N m c') R,false⟩/\hp 900=some ⟨1,3,E.ak.map (fun k:Nat=>PV.int .i64 (k:Nat)),false⟩) R ?_ ?_
    ·refine⟨0,rfl,by omega,?_⟩;refine Sz2 i0 oM ?_;refine⟨rfl,wW (yo fun r hr c hc=>(if_pos (.inr Oz)).symm)⟩
    rintro _ J5 h3 ⟨r,rfl,iE,u0,z9,v1,v2⟩;refine Sz2 u0 z9 ?_;refine Qa (fun zJ=>?_) (fun zJ=>?_)
    ·have lR:r<R:=by omega
     refine Sz3 u0 z9 j6 ?_;refine Qa (fun uz=>?_) (fun uz=>?_)
     ·have e0:¬r=m:=by omega
      have f1:Qo (PV.cX w) (fun r' c'=>if r'=m∨r<=r' then N r' c' else N r' c'-N r' k*N m c') R=Qo (PV.cX w) (fun r'=>if r'=m∨r<=r' then N r' else fun c'=>N r' c'-N r' k*N m c') R:=yo fun r' _ c' _=>by
       by_cases e:r'=m∨r<=r'
       ·rw[if_pos e,if_pos e]
       ·rw[if_neg e,if_neg e]
      rw[f1]at v1;obtain⟨Z,hZ⟩:∃Z:MF,(fun r'=>if r'=m∨r<=r' then N r' else fun c'=>N r' c'-N r' k*N m c')=Z:=⟨_,rfl⟩
      have g1:Z r=N r:=by rw[<-hZ];exact if_pos (.inr (Kae r))
      have g2:Z m=N m:=by rw[<-hZ];exact if_pos (.inl rfl)
      rw[hZ]at v1;have ls:=Jp (w:=w) (x:=N r) (y:=N m) (c:=N r k) (k:=K) Oz (Ei r lR e0) MQ (Ei r lR e0 k zx) Oz;refine Sz8 u0 z9 v1 v2 j6 j7 g1 g2 ?_;refine Qb hP ls ?_;refine Sz8 u0 z9 v1 v2 j6 j7 g1 g2 ?_;rw[show PV.sl 3 (Qo PV.rat (fun i=>N r i-N r k*N m i) w)=PV.cX w (fun i=>N r i-N r k*N m i)from rfl,HM lR];refine Sz3 u0 z9 v2 ?_;refine de (R-(r+1)) Oz ⟨r+1,rfl,by omega,?_⟩;refine Sz3 u0 z9 v2 ?_;refine wW (yo fun r' cM c' dA=>?_);by_cases e:r'=r
      ·subst e;rw[if_pos rfl,if_neg Oz]
      ·rw[if_neg e,<-hZ];show(if r'=m∨r<=r' then N r' else fun c'=>N r' c'-N r' k*N m c') c'=_;by_cases e2:r'=m∨r<=r'
       ·rw[if_pos e2,if_pos Oz]
       ·rw[if_neg e2,if_neg Oz]
     ·obtain rfl:r=m:=by omega
      refine Sz1 z9 ?_;refine de (R-(r+1)) Oz ⟨r+1,rfl,by omega,?_⟩;refine Sz3 u0 v1 v2 ?_;refine wW (yo fun r' cM c' dA=>?_);by_cases e:r'=r
      ·rw[if_pos (.inl e),if_pos (.inl e)]
      ·by_cases e2:r<=r'
       ·rw[if_pos (.inr e2),if_pos (.inr Oz)]
       ·rw[if_neg Oz,if_neg Oz]
    ·have awe:r=R:=by omega
     have fS:Qo (PV.cX w) (fun r' c'=>if r'=m∨r<=r' then N r' c' else N r' c'-N r' k*N m c') R=Qo (PV.cX w) (lD N m k) R:=yo fun r' cM c' dA=>by
      unfold lD;by_cases e:r'=m
      ·rw[if_pos (.inl e),if_pos e,e]
      ·rw[if_neg Oz,if_neg e]
     rw[fS]at v1;simp (disch:=decide) only[kk,lY,dS,lX];refine Sz5 u0 v1 v2 j6 j7 ?_;rw[Qr (f:=fun k:Nat=>PV.int .i64 (k:Nat)) (y:=k) (xs:=E.ak) (ty':=3) (fz:=false) (Tz1 v2) Tz0 Oz hm.symm Oz Oz];refine Sz5 u0 v1 v2 j6 j7 ?_;refine de (n-(k+1)) Oz ⟨k+1,rfl,by omega,?_⟩;rw[hS];refine Sz2 u0 v1 ?_;simp[hm]
  ·have pP:i=R:=by omega
   subst pP;refine Sz4 i0 i9 j6 j7 ?_;have e1:dP i E k=E:=by unfold dP;rw[if_pos];rw[<-pV,KbA];rfl
   simp (disch:=decide) only[kk,lY,dS,lX];refine de (n-(k+1)) Oz ⟨k+1,rfl,by omega,?_⟩;rw[hS,e1];exact Tz4 i0 hr oM j6
 ·obtain rfl:k=n:=by omega
  refine Sz4 j0 j6 hr oM ?_;refine rz ?_;refine mm hr oM ?_;rw[Kac (by rw[fl];omega),Kac (by simp)];exact fp rfl rfl rfl (Ql _) (Ql _)
theorem K3{R m:Nat}{l:List Rat}(hl:l.length=R*m)(hR:R<=40)(hm:m<=40)(hs:∀q∈l,rs q<=1048576):Qd Tryz.prog 57 [PV.a9 R m l] (· = .bool true):=by have rO:R*m<=40*40:=KaQ hR hm;have h:=RF (r:=(R:Int)) (c:=(m:Int)) (l:=l.map qR) ⟨by rw[Kal];omega,mj.of hs⟩;rw[<-sB,LI hl hR hm]at h;exact h
end Go.Proofs.YtkoclfmjlolkhaaGreat
namespace Go.FW
open Go
theorem vd{a b:Rat}(h:b≠0):rs (a/b)<=rs a+rs b:=by rw[Kbr];have:=fD a b⁻¹;have:=DH b h;omega
theorem yF(a b:Rat):rs (a-b)<=rs a+rs b+1:=by rw[KcS];have:=lz a (-b);rw[sw]at this;exact this
theorem ak9{R w B:Nat}{E:qh}{k:Nat}(hk:k<w)(hB:1<=B)(hM:fL B R w E.M)(hd:rs E.cG<=B)(hm:E.ak.length<=R):fL (5*B) R w (dP R E k).M/\rs (dP R E k).cG<=5*B:=by
 unfold dP;split
 ·exact⟨fun r hr c hc=>by have:=hM r hr c hc;omega,by omega⟩
 ·rename_i hp;have h1:=AM E.M k (R-E.ak.length) E.ak.length;obtain⟨i,hi⟩:∃i,eJ E.M R k E.ak.length=i:=⟨_,rfl⟩
  have te:E.ak.length<=i/\i<=R:=by rw[<-hi];unfold eJ;omega
  rw[hi]at hp⊢;have pP:i<R:=by omega
  have aA:E.M i k≠0:=by
   have:=Dq E.M k (R-E.ak.length) E.ak.length (by unfold eJ at hi;rw[hi];omega);unfold eJ at hi
   rwa[hi]at this
  have BK:=hM i pP k hk;generalize xI:E.ak.length=m at *
  have ja:m<R:=by omega
  have hS:∀r,r<R->∀c,c<w->rs (ct E.M i m r c)<=B:=fun r hr c hc=>by
   unfold ct;split
   ·exact hM i pP c hc
   ·split
    ·exact hM m ja c hc
    ·exact hM r hr c hc
  have hN:∀r,r<R->∀c,c<w->rs (dm (ct E.M i m) m (E.M i k) r c)<=2*B:=fun r hr c hc=>by
   unfold dm;split
   ·have:=hS m ja c hc;have:=vd (a:=ct E.M i m m c) aA;omega
   ·have:=hS r hr c hc;omega
  have Xi:∀r,r<R->r≠m->∀c,c<w->rs (dm (ct E.M i m) m (E.M i k) r c)<=B:=fun r hr aJ c hc=>by unfold dm;rw[if_neg aJ];exact hS r hr c hc
  refine⟨fun r hr c hc=>?_,?_⟩
  ·show rs (lD (dm (ct E.M i m) m (E.M i k)) m k r c)<=5*B;unfold lD;split
   ·have:=hN m ja c hc;omega
   ·rename_i aJ;have a1:=Xi r hr aJ c hc;have a2:=Xi r hr aJ k hk;have a3:=hN m ja c hc;generalize dm (ct E.M i m) m (E.M i k)=N at *
    have a4:=fD (N r k) (N m c);have a5:=yF (N r c) (N r k*N m c);omega
  ·show rs ((if i=m then E.cG else -E.cG)*E.M i k)<=5*B;have vL:rs (if i=m then E.cG else -E.cG)<=B:=by
    split
    ·exact hd
    ·rw[sw];exact hd
   have:=fD (if i=m then E.cG else -E.cG) (E.M i k);omega
theorem R9{R w b:Nat}{M:MF}(hb:1<=b)(hM:fL b R w M):∀k,k<=w->∃s,s<=k/\s<=R/\fL (b*5^s) R w (Qt R M k).M/\rs (Qt R M k).cG<=b*5^s/\(Qt R M k).ak.length=s
 | 0,_=>⟨0,Kae _,Kbz _,by rw[Kc8,KbK];exact hM,by have:=mT;show rs 1<=b*5^0;omega,rfl⟩
 | k+1,h=>by
  obtain⟨s,h1,h2,h3,h4,h5⟩:=R9 hb hM k (by omega);have jZ:1<=b*5^s:=Nat.mul_pos hb (Kbw (by omega));have aV:=(ll R M (k+1)).2.1;show ∃s,s<=k+1/\s<=R/\fL (b*5^s) R w (dP R (Qt R M k) k).M/\rs (dP R (Qt R M k) k).cG<=b*5^s/\(dP R (Qt R M k) k).ak.length=s;have aV:(dP R (Qt R M k) k).ak.length<=R:=aV;have bc:=ak9 (k:=k) (by omega) jZ h3 h4 (by omega);by_cases hp:eJ (Qt R M k).M R k (Qt R M k).ak.length=R
  ·have e:dP R (Qt R M k) k=Qt R M k:=by unfold dP;rw[if_pos hp]
   rw[e];exact⟨s,by omega,h2,h3,h4,h5⟩
  ·have hl:(dP R (Qt R M k) k).ak.length=s+1:=by unfold dP;rw[if_neg hp];simp[h5]
   have hm:b*5^(s+1)=5*(b*5^s):=by rw[Kbv];simp only[KaP,Kbl]
   exact⟨s+1,by omega,by omega,by rw[hm];exact bc.1,by rw[hm];exact bc.2,hl⟩
theorem ala{R w n b:Nat}{M:MF}(hb:1<=b)(hM:fL b R w M)(hn:n<=w)(h5:R<=5∨n<=5):vm (b*3125) R w n M:=fun k hk=>by
 obtain⟨s,h1,h2,h3,h4,_⟩:=R9 hb hM k (by omega);have hs:s<=5:=by omega
 have hp:5^s<=5^5:=KaR (by omega) hs;have hm:b*5^s<=b*3125:=KaE _ hp;exact⟨fun r hr c hc=>Kap (h3 r hr c hc) hm,Kap h4 hm⟩
end Go.FW
