/- Quadratic of package squares gives the squares, or a witness, or the error, that the specification gives, for every polynomial that the statement admits. -/
import Derived.Test.YtkoclfmjlolkhaaGreatSquaresQuadraticsPart17
set_option maxHeartbeats 1000000
set_option linter.unusedSimpArgs false
set_option linter.unusedVariables false
set_option linter.unnecessarySimpa false
set_option maxRecDepth 100000
namespace Go.Proofs.YtkoclfmjlolkhaaGreat
open Go Go.FW
theorem ahh{l:List Rat}{R m:Nat}(hl:l.length=R*m)(hR:0<R)(cy:R<=40)(hm:m<=40):
  gj Tryz.prog 59 [PV.a9 R m l] (fun _=>.undef) aA (fun r F H=>r= .aI 4000018 0 R/\F 4000018= .aC 4000018 1 22 (Qs (rws 5000000 R fun _=>m))/\H 4000018=some ⟨1,22,[],false⟩/\
   ∀i,i<R->H (5000000+i)=some ⟨3,51,Qo PV.rat (Qq l m i) m,false⟩):=by
 refine o6 Qg Tryz.func59 rfl Kf Nz fun C hP=>?_;simp only[H2];refine fw ?_;refine Sz0 ?_;refine eO okB [(3,18),(4000017,4000018)] [12,16,17,18] (fun n J hp=>∃i,n=R-i/\i<=R/\J 4= .int .i64 (i:Nat)/\((i=0/\J 3= .au)∨(0<i/\J 3= .aI 4000018 0 i/\J 4000018= .aC 4000018 1 22 (Qs (rws 5000000 i fun _=>m))/\hp 4000018=some ⟨1,22,[],false⟩))/\
   hp 1=some ⟨3,24,[PV.a9 R m l],false⟩/\(∀j,j<i->hp (5000000+j)=some ⟨3,51,Qo PV.rat (Qq l m j) m,false⟩)/\∀j,i<=j->hp (5000000+j)=none) R ?_ ?_
 ·refine⟨0,rfl,by omega,?_⟩;refine Sz0 ?_;exact⟨rfl,(fun j hj=>by omega),fun j hj=>trivial⟩
 rintro _ J h ⟨i,rfl,hi,h4,hJ,h1,gd,lg⟩;refine Sz2 h4 h1 ?_;refine Qa (fun hc=>?_) (fun hc=>?_)
 ·have al:i<R:=by omega
  have il:=lg i (Kae _);have c1:=Kg hl al cy hm;have kZ:((List.range m).map (Qq l m i)).length=m:=by simp
  rw[pe]at c1;refine Sz2 h4 h1 ?_;rw[My Oz];refine Sz2 h4 h1 ?_;refine Qb hP c1 ?_;refine Sz2 h4 h1 ?_;rw[mM (n:=0) (f:=PV.rat) (xs:=[]) (ys:=(List.range m).map (Qq l m i)) Tz0 rfl Oz Oz Oz];refine Sz2 h4 h1 ?_;refine di (mP 12 (5000000+i) (Tz1 il) Oz rfl Oz) ?_;refine Sz2 h4 h1 ?_;rw[aov (γ:=4000017) Oz rfl];have EW:∀L:Nat->Nat,ch (iJ 12 (5000000+i)) (.aC 4000018 1 22 (Qs (rws 5000000 i L)))= .aC 4000018 1 22 (Qs (rws 5000000 i L)):=fun L=>ahf Oz fun x hx=>by obtain⟨j,hj,rfl⟩:=HR hx;show 5000000+j≠12;omega
  have aT:∀L:Nat->Nat,cV 4000017 (.aC 4000018 1 22 (Qs (rws 5000000 i L)))= .aC 4000018 1 22 (Qs (rws 5000000 i L)):=fun L=>adS Oz fun x hx=>by obtain⟨j,hj,rfl⟩:=HR hx;show 5000000+j≠4000017;omega
  have ES:(List.range m).length=m:=List.length_range;have kF:rws 5000000 (i+1) (fun _=>m)=rws 5000000 i (fun _=>m)++[(5000000+i,m)]:=by unfold rws;rw[Kck,Ka9];rfl
  have XF:∀j,j<i+1->(if j=i then some ⟨3,51,List.map PV.rat (List.map (Qq l m i) (List.range m)),false⟩else h (5000000+j))=some ⟨3,51,Qo PV.rat (Qq l m j) m,false⟩:=fun j hj=>by
   by_cases e:j=i
   ·subst e;rw[if_pos rfl,pe]
   ·rw[if_neg e];exact gd j Oz
  have XG:∀j,i+1<=j->(if j=i then some (⟨3,51,List.map PV.rat (List.map (Qq l m i) (List.range m)),false⟩:HB)else h (5000000+j))=none:=fun j hj=>by rw[if_neg Oz];exact lg j Oz
  rcases hJ with⟨i0,h3⟩|⟨h0,h3,hg,hh⟩
  ·refine Sz3 h3 h4 h1 ?_;rw[ahd (δ:=4000017) (γ:=4000018) (β:=5000000+i) (m:=m) (ty':=22) (Tz1 ES) Oz rfl Oz];refine Sz3 h3 h4 h1 ?_;refine de (R-(i+1)) Oz ⟨i+1,rfl,by omega,?_⟩;refine Sz3 h3 h4 h1 ?_;refine⟨.inr ⟨by omega,by rw[i0],by rw[kF,i0];rfl⟩,XF,XG⟩
  ·refine Sz6 h3 h4 h1 hg hh EW ?_;rw[alR (δ:=4000017) (γ:=4000018) (β:=5000000+i) (m:=m) (ty':=22) (L:=rws 5000000 i fun _=>m) (e0:=1) (ty0:=22) (xs0:=[]) (Tz1 ES) Oz (Tz3 hg EW aT) Oz Oz (Tz1 hh) (Cx _ _ _).symm (fun x hx=>by obtain⟨j,hj,rfl⟩:=HR hx;show 5000000<=5000000+j;omega) Oz Oz];refine Sz6 h3 h4 h1 hg hh EW ?_;refine de (R-(i+1)) Oz ⟨i+1,rfl,by omega,?_⟩;refine Sz3 h3 h4 h1 ?_;refine⟨.inr (by rw[kF]),XF,XG⟩
 ·obtain rfl:i=R:=by omega
  rcases hJ with⟨i0,h3⟩|⟨h0,h3,hg,hh⟩
  ·omega
  refine Sz3 h3 hg hh ?_;refine Hf ?_;refine Sz3 h3 hg hh ?_;exact gd
def uY(R w:Nat)(M:MF)(hp:HP):HP:=fun x=>if x=4000018 then some ⟨1,22,[],false⟩else if 5000000<=x/\x<5000000+R then some ⟨3,51,Qo PV.rat (M (x-5000000)) w,false⟩else hp x
def ua(R:Nat)(x:Nat):Bool:=decide (x=4000018∨(5000000<=x/\x<5000000+R))
theorem FT{R x:Nat}(h:ua R x=true):x=4000018∨(5000000<=x/\x<5000000+R):=of_decide_eq_true h
theorem aow{R x:Nat}(h:ua R x=false):¬(x=4000018∨(5000000<=x/\x<5000000+R)):=of_decide_eq_false h
theorem SS{R x:Nat}(h:x<4000018):ua R x=false:=decide_eq_false Oz
theorem TI{R:Nat}:ua R 4000018=true:=decide_eq_true (.inl rfl)
theorem OH{R w r:Nat}{M:MF}{hp:HP}(h:r<R):uY R w M hp (5000000+r)=some ⟨3,51,Qo PV.rat (M r) w,false⟩:=by unfold uY;rw[if_neg Oz,if_pos ⟨by omega,by omega⟩,Kbp]
theorem ahi{R w:Nat}{M:MF}{hp:HP}:uY R w M hp 4000018=some ⟨1,22,[],false⟩:=by unfold uY;rw[if_pos rfl]
theorem PT{R w x:Nat}{M:MF}{hp:HP}(h:x<4000018):uY R w M hp x=hp x:=by unfold uY;rw[if_neg Oz,if_neg Oz]
theorem adT{R w:Nat}{π:Nat->Nat}(N7:∀r,r<R->π r<R){β ty:Nat}(h:β∈(PV.aC 4000018 1 ty (Qs (b5 5000000 R w π))).refs++(PV.aC 4000018 1 ty (Qs (b5 5000000 R w π))).aQ):ua R β=true:=by
 refine decide_eq_true ?_;simp only[PV.refs,PV.aQ,KaO,KaG]at h;rcases h with rfl|h
 ·exact .inl rfl
 ·obtain⟨r,hr,rfl⟩:=Lo β h;have:=N7 r hr;exact .inr ⟨by omega,by omega⟩
theorem adU{C:Ctx}{pr:Bool}{K:Qh}{fr:Fr}{hp:HP}{d:Nat}{l:List Rat}{R m:Nat}(hP:C.P=Tryz.prog)(hl:l.length=R*m)(hR:0<R)(cy:R<=40)(hm:m<=40)(hd:d≠4000018)(m9:∀x,ua R x=true->hp x=none)
  (hK:K (af (af fr d (.aI 4000018 0 R)) 4000018 (.aC 4000018 1 22 (Qs (b5 5000000 R m id)))) (uY R m (Qq l m) hp)):gl C pr (.fn 59 [] []) [PV.a9 R m l] (some d) fr hp K:=by
 refine Bd hP (ahh hl hR cy hm) (fun _=>false) (ua R) [4000018] (fun x h=>by cases h) (fun x=>rfl) rfl (by simp) (fun x hx γ e ty xs e2=>?_) (fun γ aj=>?_) (fun s _=>.inl rfl) (fun x hx=>?_) (fun _ _=>rfl) (fun r F H eY=>?_)
 ·rw[Kau.1 hx]at e2;cases e2
 ·simp[PV.refs,PV.aQ]at aj
 ·have:=FT hx;exact⟨.inl (m9 x hx),by omega⟩
 ·obtain⟨rfl,h1,h2,h3⟩:=eY;rw[DN]at h1;have hr:∀β∈(F 4000018).refs++(F 4000018).aQ,ua R β=true:=fun β ae=>by rw[h1]at ae;exact adT (fun r h=>h) ae
  refine⟨fun x hx=>?_,(fun γ e ty xs h=>by cases h),fun β ae=>?_,fun s hs=>?_,?_⟩
  ·rcases FT hx with rfl|⟨k1,k2⟩
   ·rw[h2];simp
   ·have:=h3 (x-5000000) Oz;rw[show 5000000+(x-5000000)=x by omega]at this;rw[this];simp
  ·simp[PV.refs,PV.aQ]at ae;subst ae;exact decide_eq_true (.inl rfl)
  ·rw[Kau.1 hs];exact⟨by omega,⟨_,_,_,_,h1,Ln _⟩,hr⟩
  ·have e1:mw [4000018] F (dv (gw (fun _=>false) fr) (some d) (.aI 4000018 0 R))=af (af fr d (.aI 4000018 0 R)) 4000018 (.aC 4000018 1 22 (Qs (b5 5000000 R m id))):=by
    funext s;have Nh:gw (fun _=>false) fr=fr:=by funext t;simp[gw,vq]
    rw[Nh];by_cases e:s=4000018
    ·subst e;simp[mw,af,h1]
    ·simp[mw,af,dv,e]
   have e2:my (fun _=>false) (ua R) H hp=uY R m (Qq l m) hp:=by
    funext x;unfold my uY;cases hq:ua R x with
    | true=>
     rw[if_pos rfl];rcases FT hq with rfl|⟨k1,k2⟩
     ·rw[h2,if_pos rfl]
     ·have:=h3 (x-5000000) Oz;rw[show 5000000+(x-5000000)=x by omega]at this;rw[this,if_neg Oz,if_pos ⟨k1,k2⟩]
    |false=>have:=aow hq;rw[if_neg (by simp),if_neg (by simp),if_neg Oz,if_neg Oz]
   rw[e1,e2];exact hK
def WB:ay:=⟨108,[.t 4,.t 5],Zr (jT 2 24 0<|
 eV 4 0)<| .seq (Zr (dn 13 3 2 57<|
 Zu 15 14<|
 Yw 16 15 1<|
 Bo 16 58)<| .cond (.t 20) (Zr (eV 4 1) .ret) .skip)<| .seq (Zr (Yp 21 1<|
 Yi 23 0 2<|
 jU 25 22 24)<| .cond (.t 25) (Zr (eV 4 16) .ret) .skip)<|Zr (dn 26 3 2 59<|
 Ye 6 27)<| .seq (Zr (Yj 7 0)<| .block 0<| .loop<| .seq (Zr (Yo 28 7 6)<| .cond (.t 31) .skip (.exit 0))<| .seq (.block 1<| .rg (Ya 34 6 7<|
 Ym 36 6 7<|
 iB 40 1 7 3<|
 Zo (.bs 44 3 51 [.t 43])<|
 Zo (.app 45 3 56 51 (.t 39) (.t 44))<|
 YS 46 1 34 35 45))<| .rg (YX 32 7 7))<|Zr (Zm 48 6<|
 .wk<| .wk<| .wk<|Yi 49 1 2<|
 Zq 51 false 60 [.t 48,.t 50]<|
 Zm 47 51<|
 Yd 52 47<|
 Zm 6 52<|
 Ye 8 53)<| .seq (Zr (Yp 54 8<|
 Ye 9 55)<| .block 2<| .loop<| .seq (Zr (Yo 56 9 6)<| .cond (.t 59) .skip (.exit 2))<| .seq (.block 3<|Zr (Ym 62 6 9<|
 Yi 66 1 2<|
 Yx 68 3 65 67<|
 Yl 70 27 69<|
 iT 71 70)<| .cond (.t 71) (Zr (eV 4 13) .ret) .skip)<| .rg (YX 60 9 9))<|Zr (YE 10)<|Zr (Yj 11 0)<| .seq (Zr (Yj 12 0)<| .block 4<| .loop<| .seq (Zr (Zm 72 12<|
 Yi 73 1 2<|
 Yz 75 72 74)<| .cond (.t 75) .skip (.exit 4))<| .seq (.block 5<|Zr (Ya 78 11 8<|
 DR 80 79 78 8 11 12<|
 Zg 82 true (.bin 88 .eql false (.t 86) (.t 87))<|
 Yq 89 82 88 .nil)<| .cond (.t 89) (Zr (YY 90 10 6 11<|
 YM 93 91 92<|
 Yi 95 1 2<|
 Yx 97 3 94 96<|
 Ys 99 3 51 98 56 90 10)<| .rg (YX 101 11 11)) (.rg (Zm 103 10<|
 iA 104 50 0<|
 Ys 105 3 51 104 56 103 10)))<| .rg (YX 76 12 12))<|Zr (Zm 107 10<|
 Zm 4 107<|
 Yj 5 0) .ret⟩
theorem aox:Qe Tryz.prog Tryz.f14=some WB.strip:=by kernel_rfl
theorem PU{E:MF}{ak:List Nat}{m c:Nat}:∀n,(∀j,j<n->ak.getD j 0≠c)->fI E ak m n c=0
 |0,_=>rfl
 |n+1,h=>by show(if c=ak.getD n 0 then _ else _)=_;rw[if_neg fun e=>h n Oz e.symm];exact PU n fun j hj=>h j Oz
theorem RP{E:MF}{ak:List Nat}{m j:Nat}(hd:∀i,i<ak.length->i≠j->ak.getD i 0≠ak.getD j 0):∀n,j<n->n<=ak.length->fI E ak m n (ak.getD j 0)=E j m
 |0,h,_=>by omega
 | n+1,h,hn=>by
  show(if ak.getD j 0=ak.getD n 0 then _ else _)=_;by_cases e:j=n
  ·subst e;rw[if_pos rfl]
  ·rw[if_neg fun e2=>hd n Oz (fun e3=>e e3.symm) e2.symm];exact RP hd n Oz Oz
theorem wO{ak:List Nat}(h:ak.Pairwise (· < ·)){i j:Nat}(pQ:i<j)(hj:j<ak.length):ak[i]'Oz<ak[j]:=KbE.1 h i j Oz hj pQ
theorem afe{R m K:Nat}{l b:List Rat}(hl:l.length=R*m)(dJ:b.length=R)(hR:0<R)(cy:R<=40)(hm:m<=39)(hs:∀q∈l,rs q<=1048576)(BQ:∀q∈b,rs q<=1048576)(hK:K<=2^20)(hB:vm K R (m+1) m (bS (Qq l m) (gZ b) m))
  (NR:∀r,r<R->(Qt R (bS (Qq l m) (gZ b) m) m).ak.length<=r->(Qt R (bS (Qq l m) (gZ b) m) m).M r m=0):
  gj Tryz.prog 14 [PV.a9 R m l,PV.bj b] (fun _=>.undef) aA (fun r _ H=>r= .dX [.ms 2000000 m,.int .i64 0]/\H 2000000=some ⟨3,51,Qo PV.rat (fI (Qt R (bS (Qq l m) (gZ b) m) m).M (Qt R (bS (Qq l m) (gZ b) m) m).ak m (Qt R (bS (Qq l m) (gZ b) m) m).ak.length) m,false⟩):=by
 have Bw:=ll R (bS (Qq l m) (gZ b) m) m;have Bx:=wq R (bS (Qq l m) (gZ b) m) m;have y9:=(hB m (Kae _)).1;have c1:=K3 hl cy (show m<=40 by omega) hs;have XB:=adL (ty:=22) (w:=m+1) (n:=m) cy Oz Oz hK hB;obtain⟨X,hX⟩:∃X,gZ b=X:=⟨_,rfl⟩
 have BP:PV.bj b= .sl 3 (Qo PV.rat X R):=by rw[PV.bj,<-hX,<-dJ,PK]
 have gM:Qd Tryz.prog 58 [.sl 3 (Qo PV.rat X R)] (· = .bool true):=by
  have:=OA (l:=b.map qR) (Ho Oz (k:=1048576) Oz BQ);rw[<-Ka,BP]at this;have e:(b.map qR).all nE=true:=by rw[Kax];intro y hy;obtain⟨q,_,rfl⟩:=Kaq.1 hy;exact AK q
  rw[e]at this;exact this
 rw[hX]at Bw Bx y9 hB XB NR⊢;rw[BP];have dD:(Qo PV.rat X R).length=R:=fl _ _ _;refine o6 Qg Tryz.func14 rfl aox Nz fun C hP=>?_;simp only[WB];refine fw ?_;refine Sz0 ?_;refine Qb hP c1 ?_;refine Sz0 ?_;refine Qb hP gM ?_;refine Sz1 dD ?_;refine adU hP hl hR cy Oz Oz (fun x hx=>by have:=FT hx;simp+decide (disch:=try exact D1 (show ¬x=2 from by omega)) only[go_sem,show ¬x=2 from by omega]<;>rfl) ?_;refine Sz3 @SS @TI @PT ?_;refine eO okB [(6,7),(28,46),(4000018,4000018)] [44,45] (fun q J hp=>∃i,q=R-i/\i<=R/\J 6= .aI 4000018 0 R/\J 7= .int .i64 (i:Nat)/\J 4000018= .aC 4000018 1 22 (Qs (rws 5000000 R fun r=>if r<i then m+1 else m))/\hp 2=some ⟨3,24,[PV.a9 R m l],false⟩/\hp 4000018=some ⟨1,22,[],false⟩/\hp 2000000=none/\
   (∀r,r<i->hp (5000000+r)=some ⟨3,51,Qo PV.rat (bS (Qq l m) X m r) (m+1),false⟩)/\∀r,i<=r->r<R->hp (5000000+r)=some ⟨3,51,Qo PV.rat (Qq l m r) m,false⟩) R ?_ ?_
 ·refine⟨0,rfl,by omega,?_⟩;refine Sz4 @SS @TI @PT @ahi ?_;refine⟨rfl,?_,(fun r hr=>by omega),fun r _ hr=>by simp+decide (disch:=first|omega|rfl|(simp+decide only[go_sem,OH]<;>rfl)|fail) only[go_sem,OH]⟩;rw[<-DN];have:(fun r=>if r<0 then m+1 else m)=fun _=>m:=by funext r;rw[if_neg Oz]
  rw[this]
 rintro _ J h ⟨i,rfl,hi,h6,h7,hg,h2,hh,jX,lR,iE⟩;refine Sz2 h6 h7 ?_;refine Qa (fun hc=>?_) (fun hc=>?_)
 ·have al:i<R:=by omega
  have lP:=fun(K:Qh) (fr:Fr) (hp:HP) d (h:fr 4000018= .aC 4000018 1 22 (Qs (rws 5000000 R fun r=>if r<i then m+1 else m)))=>Tv (K:=K) (d:=d) (hp:=hp) h al;have er:=iE i (Kae _) al;have Nr:(if i<i then m+1 else m)=m:=if_neg Oz;refine Sz6 h6 h7 hg hh lP Nr ?_;rw[JF (xs:=Qo PV.rat (Qq l m i) m) (y:=PV.rat (X i)) (ty':=51) (fz:=false) (Tz1 er) Tz0 Oz (fl _ _ _).symm Oz Oz Oz];have aT:=Pm (γ:=4000018) (e:=1) (ty:=22) (L:=fun r=>if r<i then m+1 else m) (B:=5000000) al Oz;rw[Sf];refine Sz5 h6 h7 hg hh aT ?_;have hL:(fun j=>if j=i then m+1 else if j<i then m+1 else m)=fun r=>if r<i+1 then m+1 else m:=by
   funext r;by_cases e:r=i
   ·rw[if_pos e,if_pos Oz]
   ·rw[if_neg e];by_cases e2:r<i
    ·rw[if_pos e2,if_pos Oz]
    ·rw[if_neg e2,if_neg Oz]
  rw[Sg al,hL];refine Sz2 h6 h7 ?_;refine de (R-(i+1)) Oz ⟨i+1,rfl,by omega,?_⟩;refine Sz4 h6 h2 hh jX ?_;refine⟨fun r hr=>?_,fun r hr oN=>?_⟩
  ·by_cases e:r=i
   ·subst e;rw[if_pos rfl]
   ·rw[if_neg e];exact lR r Oz
  ·rw[if_neg Oz];exact iE r Oz oN
 obtain rfl:R=i:=by omega
 have hW:(rws 5000000 R fun r=>if r<R then m+1 else m)=rws 5000000 R fun _=>m+1:=by
  refine Ka7 (by simp[rws]) fun j h1 h2=>?_;have hj:j<R:=by simpa[rws]using h1
  rw[su,su,if_pos hj]
 rw[hW]at hg;refine Sz3 h6 h2 hg ?_;refine di (ahg (γ:=4000018) (ty:=22) (B:=5000000) (n:=R) (m:=m+1) (e':=3) (tyr:=51) (ys:=fun r=>Qo PV.rat (bS (Qq l m) X m r) (m+1)) (Tz1 hg) Oz (fun r hr=>lR r hr) (fun r hr=>fl _ _ _)) ?_;refine Sz4 h6 h2 hg hh ?_;refine di (alS (γ:=4000018) (e:=1) (ty:=22) (n:=R) (xs:=Qo (fun r=>PV.sl 3 (Qo PV.rat (bS (Qq l m) X m r) (m+1))) id R) (hb0:=⟨1,22,[],false⟩) 48 Tz0 (Tz1 h6) (Tz1 hh) (by rw[fl];omega) rfl (fun x hx=>by obtain⟨r,_,rfl⟩:=Kaq.1 hx;exact⟨rfl,rfl,fun c hc=>by rw[Kau.1 hc];rfl⟩)) ?_;refine Sz4 h6 h2 hg hh ?_;refine di (mP 4000018 2000000 (Cd jX) Oz rfl Oz) ?_;refine Sz4 h6 h2 hg hh ?_;refine akx hP XB (by simp[FI]) cE rfl (by simp) (by simp[PV.refs,PV.aQ]) (by simp) (by simp) ?_;obtain⟨E,hE⟩:∃E,Qt R (bS (Qq l m) X m) m=E:=⟨_,rfl⟩
 rw[hE]at Bw Bx y9 NR⊢;have Xc:(Qo (PV.cX (m+1)) E.M R).length=R:=fl _ _ _;have aV:(sH E.ak).length=E.ak.length:=by simp[sH]
 refine Sz3 h2 @TM aV ?_;refine eO okB [(4,5),(9,9),(56,71)] [] (fun q J hp=>∃r,q=R-r/\E.ak.length<=r/\r<=R/\(∀j,E.ak.length<=j->j<r->E.M j m=0)/\J 9= .int .i64 (r:Nat)/\hp 2000000=none/\hp 2=some ⟨3,24,[PV.a9 R m l],false⟩) (R-E.ak.length) ?_ ?_
 ·refine⟨E.ak.length,rfl,Kae _,by omega,fun j h1 h2=>by omega,?_⟩;exact Tz2 h2 @TM
 rintro _ J2 cz ⟨r,rfl,hr,zJ,hz,i9,iN,i2⟩;refine Sz3 i9 i2 @Xc ?_;refine Qa (fun iD=>?_) (fun iD=>?_)
 ·have cM:r<R:=by omega
  have hb1:=y9 r cM m Oz;refine Sz2 i9 i2 ?_;refine Qb hP (o7 (a:=E.M r m) Oz) ?_;refine Sz1 i9 ?_;refine Qa (fun hq=>?_) (fun hq=>?_)
  ·exact absurd (dy.2 (NR r cM hr)) hq
  ·have gO:E.M r m=0:=Decidable.byContradiction fun e=>hq fun h=>e (dy.1 h);refine Sz1 i9 ?_;refine de (R-(r+1)) Oz ⟨r+1,rfl,by omega,by omega,fun j h1 h2=>?_,?_⟩
   ·by_cases e:j=r
    ·rw[e];exact gO
    ·exact hz j h1 Oz
   exact Tz2 i2 @iN
 ·obtain rfl:R=r:=by omega
  have kX:∀j (h:j<E.ak.length),E.ak.getD j 0=E.ak[j]:=fun j h=>by rw[Kad,Kag h,Kbb]
  have aty:∀j (h:j<E.ak.length),fI E.M E.ak m E.ak.length E.ak[j]=E.M j m:=fun j h=>by
   rw[<-kX j h];refine RP (fun i hi aJ=>?_) _ h (Kae _);rw[kX i hi,kX j h];rcases Nat.lt_or_gt_of_ne aJ with h1|h1
   ·exact Nat.ne_of_lt (wO Bx h1 h)
   ·exact Nat.ne_of_gt (wO Bx h1 hi)
  have atS:∀c,(∀j (h:j<E.ak.length),E.ak[j]≠c)->fI E.M E.ak m E.ak.length c=0:=fun c h=>PU _ fun j hj=>by rw[kX j hj];exact h j hj
  have kF:∀k,(List.range (k+1)).map (fI E.M E.ak m E.ak.length)=(List.range k).map (fI E.M E.ak m E.ak.length)++[fI E.M E.ak m E.ak.length k]:=fun k=>by rw[Kck,Ka9];rfl
  have awa:E.ak.length<=R:=by omega
  have hrf:∀f:Nat->Rat,(List.range m).map f=(List.range m).map f:=fun _=>rfl;refine Sz1 i2 ?_;refine fW 10 900 3 51 Oz Tz0 ?_;refine Sz1 i2 ?_;refine eO okB [(10,12),(72,106)] [99,100,105,106,900] (fun q J hp=>∃k p,q=m-k/\k<=m/\p<=E.ak.length/\(∀j (h:j<E.ak.length),j<p->E.ak[j]<k)/\(∀j (h:j<E.ak.length),p<=j->k<=E.ak[j])/\J 10= .ms 900 k/\J 11= .int .i64 (p:Nat)/\J 12= .int .i64 (k:Nat)/\hp 2000000=none/\hp 2=some ⟨3,24,[PV.a9 R m l],false⟩/\
    hp 900=some ⟨3,51,((List.range k).map (fI E.M E.ak m E.ak.length)).map PV.rat,false⟩) m ?_ ?_
  ·refine⟨0,0,rfl,by omega,by omega,by omega,by omega,?_⟩;refine Sz2 i2 @iN ?_;exact⟨rfl,rfl,rfl⟩
  rintro _ J3 rX ⟨k,p,rfl,hk,jn,nb,rU,jf,jq,iI,kN,k2,kx⟩;refine Sz2 iI k2 ?_;refine Qa (fun M9=>?_) (fun M9=>?_)
  ·have bI:k<m:=by omega
   have ik:((List.range k).map (fI E.M E.ak m E.ak.length)).length=k:=by simp
   have BR:=kF k;have vS:=qn (x:=0) Oz Oz;rw[show((0:Int):Rat)=0 from rfl]at vS;have hzero:(∀j (h:j<E.ak.length),E.ak[j]≠k)->fI E.M E.ak m E.ak.length k=0:=atS k;refine Sz1 jq ?_;refine fN (fun nS=>?_) (fun nS=>?_)
   ·have hp':p<E.ak.length:=by omega
    have hpR:p<R:=by omega
    have XK:=aty p hp';have iY:=rU p hp' (Kae _);simp+decide (disch:=try exact D2 jq iI) only[go_sem,jq,iI];refine Qa (fun he=>?_) (fun he=>?_)
    ·have hek:E.ak[p]=k:=by omega
     rw[hek]at XK;rw[XK]at BR;have ER:∀j (h:j<E.ak.length),j<p+1->E.ak[j]<k+1:=fun j h hj=>by
      by_cases e:j=p
      ·subst e;omega
      ·have:=nb j h Oz;omega
     have EH:∀j (h:j<E.ak.length),p+1<=j->k+1<=E.ak[j]:=fun j h hj=>by have:=wO Bx (show p<j by omega) h;omega
     generalize(List.range k).map (fI E.M E.ak m E.ak.length)=T at *
     refine Sz5 jf jq iI k2 kx ?_;rw[Qr (f:=PV.rat) (y:=E.M p m) (xs:=T) (ty':=51) (fz:=false) (Tz1 kx) Tz0 Oz ik.symm Oz Oz];refine Sz2 jq iI ?_;refine de (m-(k+1)) Oz ⟨k+1,p+1,rfl,by omega,by omega,ER,EH,?_⟩;rw[BR];exact Tz2 k2 @kN
    ·have aJ:∀j (h:j<E.ak.length),E.ak[j]≠k:=fun j h e=>by
      rcases Kdf j p with h1|h1|h1
      ·have:=nb j h h1;omega
      ·subst h1;omega
      ·have:=wO Bx h1 h;omega
     rw[hzero aJ]at BR;have ER:∀j (h:j<E.ak.length),j<p->E.ak[j]<k+1:=fun j h hj=>by have:=nb j h hj;omega
     have EH:∀j (h:j<E.ak.length),p<=j->k+1<=E.ak[j]:=fun j h hj=>by have:=rU j h hj;have:=aJ j h;omega
     generalize(List.range k).map (fI E.M E.ak m E.ak.length)=T at *
     refine Sz5 jf jq iI k2 kx ?_;refine Qb hP vS ?_;refine Sz5 jf jq iI k2 kx ?_;rw[Qr (f:=PV.rat) (y:=(0:Rat)) (xs:=T) (ty':=51) (fz:=false) (Tz1 kx) Tz0 Oz ik.symm Oz Oz];refine Sz2 jq iI ?_;refine de (m-(k+1)) Oz ⟨k+1,p,rfl,by omega,by omega,ER,EH,?_⟩;rw[BR];exact Tz3 jq k2 @kN
   ·have aJ:∀j (h:j<E.ak.length),E.ak[j]≠k:=fun j h e=>by have:=nb j h Oz;omega
    refine Sz0 ?_;rw[hzero aJ]at BR;have ER:∀j (h:j<E.ak.length),j<p->E.ak[j]<k+1:=fun j h hj=>by have:=nb j h hj;omega
    have EH:∀j (h:j<E.ak.length),p<=j->k+1<=E.ak[j]:=fun j h hj=>by have:=rU j h hj;have:=aJ j h;omega
    generalize(List.range k).map (fI E.M E.ak m E.ak.length)=T at *
    refine Sz5 jf jq iI k2 kx ?_;refine Qb hP vS ?_;refine Sz5 jf jq iI k2 kx ?_;rw[Qr (f:=PV.rat) (y:=(0:Rat)) (xs:=T) (ty':=51) (fz:=false) (Tz1 kx) Tz0 Oz ik.symm Oz Oz];refine Sz2 jq iI ?_;refine de (m-(k+1)) Oz ⟨k+1,p,rfl,by omega,by omega,ER,EH,?_⟩;rw[BR];exact Tz3 jq k2 @kN
  ·obtain rfl:k=m:=by omega
   have uz:((List.range k).map (fI E.M E.ak k E.ak.length)).map PV.rat=Qo PV.rat (fI E.M E.ak k E.ak.length) k:=by simp[Qo]
   rw[uz]at kx;refine Sz1 jf ?_;refine JG (mP 900 2000000 (Tz1 @kN) Oz rfl Oz) ?_;refine aeZ (Cd jf) cE ?_;exact Tz2 jf kx
def WC:ay:=⟨65,[.t 4,.t 5],Zr (Yf 4<|
 Yh 5)<|Zr (sQ 12 1<|
 Yx 16 3 12 15<|
 Yc 6<|
 Zs 3 6 17 .nil)<| .seq (Zr (Zh 18 3 6<|
 Zq 19 false 27 [.t 18]<|
 jj 20 19 0)<| .cond (.t 20) (Zr (Yf 4<|
 Yh 5) .ret) .skip)<|Zr (YD 21 0 20<|
 Ye 7 22)<|Zr (YE 8)<| .seq (Zr (Yj 9 0)<| .block 0<| .loop<| .seq (Zr (Yo 23 9 7)<| .cond (.t 26) .skip (.exit 0))<| .seq (.block 1<| .seq (.block 2<| .loop<| .seq (Zr (Yp 29 8<|
 Ym 31 7 9<|
 Zb 35 .leq 30 34 .nil)<| .cond (.t 35) .skip (.exit 2))<| .block 3<| .rg (Zm 36 8<|
 iA 37 50 0<|
 Ys 38 3 51 37 56 36 8))<| .rg (YY 41 8 7 9<|
 YM 44 42 43<|
 iB 46 1 9 3<|
 Zh 50 3 6<|
 Yr 51 143 49 50<|
 Zm 40 51<|
 Yd 52 40<|
 YS 54 3 41 45 52))<| .rg (YX 27 9 9))<|Zr (YK 56 0 8 26<|
 gy 55<|
 fu 10 59<|
 Ye 11 60)<|Zr (Zm 61 8<|
 dn 62 3 10 27<|
 Zk 64 .lss 63 0<|
 dp 4 61 64) .ret⟩
theorem alX:Qe Tryz.prog Tryz.f144=some WC:=by kernel_rfl
theorem RR{fr:Fr}{hp:HP}{K:Qh}{ty i d:Nat}{fz:Bool}{L:List Rat}(h:i<L.length):nq (some ⟨3,ty,L.map PV.rat,fz⟩) 3 true i 0 d fr hp K=K (af fr d (PV.rat (L[i]'h))) hp:=by rw[uZ (by rw[Kal];exact h) Oz (by simp),Ka8];rfl
theorem PW{p:List Tm}{E kx m ty:Nat}{y w:List Rat}{c v:Rat}(hp:∀t∈p,MB E t.2)(cW:p.length<=2^36)(hm:m=(Qp p).length)(hy:y.length=m+1)(Fj:∀q∈y,rs q<=kx)(hkx:kx<=2^30)(hc:∀h:m<y.length,y[m]=c)(hw:w=cj (aF p) (y.map (· /c)) m)
  (iX:c≠0->Qd Tryz.prog 26 [PV.aL p,PV.bj w] (· = .aH [PV.rat v,.int .i64 0])/\rs v<2^36):
  gj Tryz.prog 144 [PV.aL p,.aB 1500001 0 (m+1)] (fun _=>.undef) (Qj aA 1500001 ⟨3,ty,y.map PV.rat,true⟩) (fun r _ _=>r=if c=0 then .aH [PV.bj [],.bool false]else .aH [PV.bj w,.bool (decide (v<0))]):=by
 have pK:rs c<=kx:=by rw[<-hc Oz];exact Fj _ (Kah _)
 have NN:=o7 (a:=c) Oz;have dM:= @dy c;have kd:=Gg hp cW;rw[Cq]at kd;have qV:=qn (x:=0) Oz Oz;rw[show((0:Int):Rat)=0 from rfl]at qV;have rW:((m+1:Nat):Int)-1=((m:Nat):Int):=by omega
 have eZ:=fun i (hi:i<=(Qp p).length)=>FQ (p:=p) (x:=y.map (· /c)) i hi;have Ev:=fun i (hi:i<(Qp p).length)=>Ks (p:=p) hi;have iH:=AL p;have aw:∀v∈Qp p,v<64:=fun v h=>Ds h;have auf:=KbE.1 (Gx p);have aug:∀i,cj (aF p) (y.map (· /c)) (i+1)=cj (aF p) (y.map (· /c)) i++List.replicate (((aF p).getD i []).length-1-(cj (aF p) (y.map (· /c)) i).length) 0++[(y.map (· /c)).getD i 0]:=fun i=>rfl;generalize aF p=bs at *
 generalize Qp p=V at *
 have Ep:(V.map fun(v:Nat)=>(v:Int)).length=V.length:=Kal _;have Eo:∀i (hi:i<V.length) (dZ:i<(V.map fun(v:Nat)=>(v:Int)).length),(V.map fun(v:Nat)=>(v:Int))[i]=(V[i]:Int):=fun i hi dZ=>Ka8 ..;generalize V.map (fun(v:Nat)=>(v:Int))=W at *
 have kZ:m<y.length:=by omega
 replace hc:=hc kZ;refine o6 Qg Tryz.func144 rfl (Ul alX) Nz fun C hP=>?_;simp only[WC];refine fw ?_;have lP:=fun(K:Qh) (fr:Fr) (hp:HP) (ty:Nat) (fz:Bool) (i d:Nat) (h:i<y.length)=>RR (K:=K) (fr:=fr) (hp:=hp) (ty:=ty) (fz:=fz) (d:=d) (L:=y) h;refine Sz3 rW lP hc ?_;refine Qb hP NN ?_;refine Sz0 ?_;refine Qa (fun h0=>?_) (fun h0=>?_)
 ·rw[if_pos (dM.1 h0)];refine Sz0 ?_;refine rz ?_;refine Sz0 ?_;exact fp rfl rfl rfl trivial (Ql _)
 have pJ:c≠0:=fun h=>h0 (dM.2 h);rw[if_neg pJ];obtain⟨iX,hvr⟩:=iX pJ;refine Sz0 ?_;refine Qb hP kd ?_;refine Sz0 ?_;refine fW 8 900 3 51 Oz Tz0 ?_;have I3:∀q∈y.map (· /c),rs q<=kx+kx:=fun q hq=>by obtain⟨x,hx,rfl⟩:=Kaq.1 hq;have:=Fj x hx;have:=vd (a:=x) pJ;show rs (x/c)<=_;omega
 refine Qi okB [(8,9),(23,54)] [38,39,900] (fun q J hp=>∃i,q=V.length-i/\i<=V.length/\J 8= .ms 900 (cj bs (y.map (· /c)) i).length/\J 9= .int .i64 (i:Nat)/\hp 6=some ⟨3,51,[PV.rat c],false⟩/\hp 1500001=some ⟨3,ty,y.map PV.rat,true⟩/\hp 900=some ⟨3,51,(cj bs (y.map (· /c)) i).map PV.rat,false⟩) V.length ?_ ?_
 ·refine⟨0,rfl,by omega,?_⟩;refine Sz0 ?_;exact⟨rfl,rfl,rfl⟩
 rintro _ J h' ⟨i,rfl,hi,j8,j9,b6,bY,b9⟩;refine Sz1 j9 ?_;refine Qa (fun hg=>?_) (fun hg=>?_)
 ·have al:i<V.length:=by omega
  have uB:=Eo i al Oz;have avz:=aw _ (Kah al);obtain⟨s1,s2,_⟩:=eZ i Oz;have avy:(cj bs (y.map (· /c)) i).length<=V[i]:=by
   by_cases e:i=0
   ·rw[s2 e];omega
   ·obtain⟨g1,g2⟩:=s1 Oz;rw[g2];exact auf (i-1) i g1 al Oz
  have tt:i<y.length:=by omega
  have uD:(y.map (· /c)).getD i 0=y[i]/c:=by rw[Kad,Kas,Kag tt];rfl
  have bc:=aug i;rw[Ev i al,uD,show(bQ V[i] 1).length-1=V[i]by simp[bQ]]at bc;have auL:=Fj _ (Kah tt);generalize V[i]=vi at *
  generalize ke:y[i]=yi at *
  generalize cj bs (y.map (· /c)) i=T at *
  generalize hT1:cj bs (y.map (· /c)) (i+1)=T1 at *
  have oI:=Hl (a:=yi) (b:=c) (k:=kx) auL pK Oz pJ;refine Sz2 j9 j8 ?_;refine Qi okB [(8,8),(29,39)] [38,39,900] (fun q J hp=>∃k,q=vi+1-T.length-k/\k<=vi+1-T.length/\J 8= .ms 900 (T.length+k)/\hp 6=some ⟨3,51,[PV.rat c],false⟩/\hp 1500001=some ⟨3,ty,y.map PV.rat,true⟩/\hp 900=some ⟨3,51,(T++List.replicate k 0).map PV.rat,false⟩) (vi+1-T.length) ?_ ?_
  ·refine⟨0,rfl,by omega,?_⟩;refine Sz4 j8 b6 @bY b9 ?_;simp
  rintro _ J2 h2 ⟨k,rfl,hk,g8,g6,gY,g9⟩;refine Sz3 g8 j9 uB ?_;refine Qa (fun eK=>?_) (fun eK=>?_)
  ·have ik:(T++List.replicate k (0:Rat)).length=T.length+k:=by simp
   have NL:T++List.replicate (k+1) (0:Rat)=(T++List.replicate k 0)++[0]:=by rw[KcG,Kbt]
   generalize T++List.replicate k (0:Rat)=U at *
   refine Sz2 g8 g9 ?_;refine Qb hP qV ?_;generalize(0:Rat)=o at *
   refine Sz2 g8 g9 ?_;rw[Qr (f:=PV.rat) (y:=o) (xs:=U) (ty':=51) (fz:=false) (Tz1 g9) cE Oz ik.symm Oz Oz];refine Sz0 ?_;refine Qf (vi+1-T.length-(k+1)) Oz ⟨k+1,rfl,by omega,?_⟩;rw[NL];refine Sz2 g6 @gY ?_;rfl
  ·have qT:k=vi+1-T.length:=by omega
   have ik:(T++List.replicate k (0:Rat)).length=vi+1:=by simp;omega
   have asK:T1.length=vi+1:=by rw[bc];simp;omega
   have ka:(T++List.replicate k (0:Rat)).set vi (yi/c)=T1:=by
    rw[bc,qT];have e1:vi+1-T.length=(vi-T.length)+1:=by omega
    rw[e1,KcG,<-List.append_assoc];obtain⟨Z,hZ⟩:∃Z,T++List.replicate (vi-T.length) (0:Rat)=Z:=⟨_,rfl⟩
    have hZl:Z.length=vi:=by rw[<-hZ];simp;omega
    rw[hZ,List.set_append_right _ _ Oz,hZl,KbA];rfl
   have xF:T.length+k=vi+1:=by omega
   rw[xF]at g8;generalize T++List.replicate k (0:Rat)=U at *
   refine Sz8 g8 g9 g6 @gY j9 uB ke lP ?_;refine Qb hP oI ?_;generalize yi/c=u at *
   have hvU:vi<(U.map PV.rat).length:=by rw[Kal];omega
   have aue:(U.map PV.rat).set vi (PV.rat u)=T1.map PV.rat:=by rw[<-List.map_set,ka]
   refine Sz5 g8 g9 g6 @gY j9 ?_;rw[qp (n:=3) (xs:=U.map PV.rat) (v:=PV.rat u) Oz rfl rfl,aue];refine Sz1 j9 ?_;simp (disch:=decide) only[fV,dS,Co];refine Qf (V.length-(i+1)) Oz ⟨i+1,rfl,by omega,?_⟩;rw[hT1,asK];exact Tz3 g8 g6 @gY
 ·obtain rfl:i=V.length:=by omega
  rw[<-hm,<-hw]at j8 b9;have dF:List.take w.length (w.map PV.rat)=w.map PV.rat:=Kac (by simp);have kd:=o7 (a:=v) hvr;have hvz:= @rB v;refine Sz2 j8 b9 ?_;refine ln hP iX (Af dF b9) rfl ?_;refine lG j8 ?_;refine Qb hP kd ?_;refine lG j8 ?_;refine rz ?_;refine vw j8 b9 dF ?_;rw[show decide (fc v<0)=decide (v<0)from decide_eq_decide.2 hvz];exact fp rfl rfl rfl (Ql _) (Ql _)
theorem aoy{x y:Int}(h1: -9223372036854775808<=x)(h2:x<=9223372036854775807)(h3: -9223372036854775808<=y)(h4:y<=9223372036854775807)(h0:y≠0):Qd Tryz.prog 194 [.int .i64 x,.int .i64 y] (· =PV.rat ((x:Rat)/(y:Rat))):=by
 have hx:nl x.natAbs<=4:=qu Oz;have hy:nl y.natAbs<=4:=qu Oz;have hm:=PC (x:=x) (y:=y) Oz Oz h0;have hox:=LJ h1 h2;have hoy:=LJ h3 h4;generalize(x:Rat)/(y:Rat)=Q at *
 refine aE Qg Tryz.func194 aiM fun C hP=>?_;refine Sz0 ?_;refine Qb hP hox ?_;refine Sz0 ?_;refine Qb hP hoy ?_;refine Sz0 ?_;refine Qb hP hm ?_;refine Sz0 ?_;refine cr ?_;refine Sz0 ?_;exact Qc rfl rfl
def aqK:ay:=⟨40,[.cell 8 3 true,.t 9],Zr (Zo (.box 7 3 51 (.t 3))<|
 Yc 8<|
 YE 9)<|Zr (YE 10)<| .seq (Zr (YV 16 2)<| .block 0<| .loop<|Zr (Yz 19 18 17)<| .seq (.cond (.t 19) .skip (.exit 0))<| .seq (.block 1<|Zr (Yx 20 3 16 18<|
 Yc 12<|
 Zs 3 12 21 .nil)<| .rg (Zm 22 10<|
 mY 23 3 12 7 105<|
 Ys 26 3 51 25 56 22 10))<| .rg (YC 28 18 18))<|Zr (YK 29 1 10 140<|
 Ye 13 31)<|Zr (Ya 33 0 13<|
 Zq 35 false 37 [.t 33,.t 34]<|
 gy 32<|
 fu 14 36<|
 Ye 15 37)<|Zr (Zh 38 3 14<|
 Zm 39 13<|
 Zs 3 8 38<|
 Ye 9 39) .ret⟩
theorem alY:Qe Tryz.prog Tryz.f195=some aqK:=by kernel_rfl
def aqL:ay:=⟨9,[.cell 2 3 true],Zr (iS 1 51<|
 xe 2)<| .seq (Zr (Zh 3 3 1<|
 Yl 4 38 3<|
 Zk 5 .lss 4 0 .nil)<| .cond (.t 5) (Zr (dn 6 3 1 62<|
 Zs 3 2 7 .nil) .ret) .skip)<|Zr (Zh 8 3 1<|
 Zs 3 2 8 .nil) .ret⟩
theorem alZ:Qe Tryz.prog Tryz.f196=some aqL:=by kernel_rfl
def apR:ay:=⟨79,[.t 6],Zr (YE 6)<|Zr (Zq 20 false 194 [.c (Zz 1),.c (Zz 2)]<|
 fu 7 20 .nil)<|Zr (YY 22 0 1 2<|
 iA 25 61 0<|
 Zq 26 false 195 [.t 22,.t 23,.t 24,.t 25]<|
 Zm 21 26<|
 Yd 27 21<|
 fu 8 27<|
 Ye 9 28)<|Zr (YY 30 0 1 2<|
 iA 33 61 1<|
 Zq 34 false 195 [.t 30,.t 31,.t 32,.t 33]<|
 Zm 29 34<|
 Yd 35 29<|
 fu 10 35<|
 Ye 11 36)<|Zr (YY 38 0 1 2<|
 Zq 41 false 61 [.c (Zz (-1))]<|
 Zq 42 false 195 [.t 38,.t 39,.t 40,.t 41]<|
 Zm 37 42<|
 Yd 43 37<|
 fu 12 43<|
 Ye 13 44)<|Zr (Zh 45 3 7<|
 Zh 46 3 10<|
 Zh 47 3 12<|
 Zh 50 3 8<|
 .br (Yr 48 107 46 47<|
 .br (Yr 49 105 45 48<|
 .br (Yr 51 181 49 50<|
 fu 14 51 .nil) (Yc 14<|
 jD 51 181 49 50 3 14)) (Yc 14<|
 Yr 49 105 45 48<|
 jD 51 181 49 50 3 14)) (Yc 14<|
 Yr 48 107 46 47<|
 Yr 49 105 45 48<|
 jD 51 181 49 50 3 14))<|Zr (Zh 52 3 7<|
 Zh 53 3 10<|
 Zh 54 3 12<|
 .br (Yr 55 181 53 54<|
 .br (Yr 56 105 52 55<|
 fu 15 56 .nil) (Yc 15<|
 jD 56 105 52 55 3 15)) (Yc 15<|
 Yr 55 181 53 54<|
 jD 56 105 52 55 3 15))<|Zr (Zh 58 3 15<|
 Zh 60 3 8<|
 Zh 63 3 14<|
 .br (dQ 59 196 58<|
 .br (dQ 61 196 60<|
 .br (Yr 62 107 59 61<|
 .br (dQ 64 196 63<|
 .br (Yr 65 123 62 64<|
 Zm 57 65<|
 Yd 66 57<|
 fu 16 66<|
 Ye 17 67) (Yc 16<|
 ud 65 123 62 64 57 16 17)) (Yc 16<|
 dQ 64 196 63<|
 ud 65 123 62 64 57 16 17)) (Yc 16<|
 Yr 62 107 59 61<|
 dQ 64 196 63<|
 ud 65 123 62 64 57 16 17)) (Yc 16<|
 dQ 61 196 60<|
 Yr 62 107 59 61<|
 dQ 64 196 63<|
 ud 65 123 62 64 57 16 17)) (Yc 16<|
 dQ 59 196 58<|
 dQ 61 196 60<|
 Yr 62 107 59 61<|
 dQ 64 196 63<|
 ud 65 123 62 64 57 16 17))<|Zr (YY 69 0 1 2<|
 Zh 72 3 16<|
 .br (Zq 73 true 61 [.c (Zz 1)]<|
 .br (Yr 74 107 72 73<|
 .br (Zq 75 true 195 [.t 69,.t 70,.t 71,.t 74]<|
 Zm 68 75<|
 Yd 76 68<|
 fu 18 76<|
 Ye 19 77) (Yc 18<|
 Zq 75 true 195 [.t 69,.t 70,.t 71,.t 74]<|
 Zm 68 75<|
 Yd 76 68<|
 Zs 3 18 76<|
 Ye 19 77)) (Yc 18<|
 Yr 74 107 72 73<|
 Zq 75 true 195 [.t 69,.t 70,.t 71,.t 74]<|
 Zm 68 75<|
 Yd 76 68<|
 Zs 3 18 76<|
 Ye 19 77)) (Yc 18<|
 Zq 73 true 61 [.c (Zz 1)]<|
 Yr 74 107 72 73<|
 Zq 75 true 195 [.t 69,.t 70,.t 71,.t 74]<|
 Zm 68 75<|
 Yd 76 68<|
 Zs 3 18 76<|
 Ye 19 77))<|Zr (YZ 78 19 6) .ret⟩
theorem al0:Qe Tryz.prog Tryz.f139=some apR:=by kernel_rfl
def cm(a:Rat):Rat:=if a<0 then -a else a
theorem AS(a:Rat):rs (cm a)=rs a:=by
 unfold cm;split
 ·rw[sw]
 ·rfl
theorem Kh{a:Rat}{k:Nat}(ha:rs a<=k)(hk:k<2^36):Qd Tryz.prog 196 [PV.rat a] (· =PV.rat (cm a)):=by
 have hs:=pk (a:=a) Oz;have hg:= @rB a;have hn:=Kq ha hk;unfold cm;refine aE Qg Tryz.func196 alZ fun C hP=>?_;refine Sz0 ?_;refine Qb hP hs ?_;refine Sz0 ?_;refine Qa (fun h=>?_) (fun h=>?_)
 ·rw[if_pos (hg.1 h)];refine Sz0 ?_;refine Qb hP hn ?_;refine Sz0 ?_;refine cr ?_;refine Sz0 ?_;exact Qc rfl rfl
 ·rw[if_neg fun h2=>h (hg.2 h2)];refine Sz0 ?_;refine cr ?_;refine Sz0 ?_;exact Qc rfl rfl
theorem ahj{p:List Tm}{bs:List (List Int)}{x w:List Rat}{n v:Rat}{k:Nat}(hx:∀q∈x,rs q<=k)(hn:rs n<=k)(hk:k<2^36)(ee:x.length<=2^20)(eZ:Qd Tryz.prog 140 [PV.fK bs,PV.bj (x.map (· *n))] (· =PV.bj w))(iX:Qd Tryz.prog 37 [PV.aL p,PV.bj w] (· = .aH [PV.rat v,.int .i64 0])):
  Qd Tryz.prog 195 [PV.aL p,PV.fK bs,PV.bj x,PV.rat n] (· = .aH [PV.rat v,PV.bj w]):=by
 refine aE Qg Tryz.func195 alY fun C hP=>?_;refine Sz0 ?_;refine fW 10 900 3 51 Oz Tz0 ?_;refine Qi okB [(10,10),(12,12),(18,28)] [12,26,27,900] (fun q J hp=>∃i,q=x.length-i/\i<=x.length/\J 10= .ms 900 i/\J 18= .int .i64 (i:Nat)/\hp 7=some ⟨3,51,[PV.rat n],false⟩/\hp 8=some ⟨3,51,[.agg [.bool false,.au,.au]],false⟩/\hp 900=some ⟨3,51,((x.take i).map (· *n)).map PV.rat,false⟩) x.length ?_ ?_
 ·refine⟨0,rfl,by omega,?_⟩;refine Sz0 ?_;rfl
 rintro _ J2 oF ⟨i,rfl,dZ,vF,Ib,c7,c8,c9⟩;refine Sz1 Ib ?_;refine Qa (fun hg=>?_) (fun hg=>?_)
 ·have al:i<x.length:=by omega
  have gR:=hx _ (Kah al);have aT:(x.take (i+1)).map (· *n)=(x.take i).map (· *n)++[x[i]*n]:=by rw[Kak al,Ka9];rfl
  have ik:((x.take i).map (· *n)).length=i:=by rw[Kal,KaF];omega
  generalize(x.take i).map (· *n)=T at *
  generalize hz:x[i]=z at *
  have BH:=pz (a:=z) (b:=n) (k:=k) gR hn hk;refine Sz5 vF Ib c7 c9 hz ?_;refine Qb hP BH ?_;generalize z*n=u at *
  refine Sz4 vF Ib c7 c9 ?_;rw[Qr (f:=PV.rat) (y:=u) (xs:=T) (ty':=51) (fz:=false) (Tz1 c9) cE Oz ik.symm Oz Oz];refine Sz1 Ib ?_;refine Qf (x.length-(i+1)) Oz ⟨i+1,rfl,by omega,?_⟩;rw[aT];exact Tz2 c7 c8
 ·obtain rfl:i=x.length:=by omega
  rw[Kaz]at c9;have tp:List.take x.length ((x.map (· *n)).map PV.rat)=(x.map (· *n)).map PV.rat:=Kac (by simp);refine Sz2 vF c9 ?_;refine ln hP eZ (Af tp c9) rfl ?_;refine lG c8 ?_;refine Qb hP iX ?_;refine lG c8 ?_;refine mO ?_;refine Sz0 ?_;exact fp rfl rfl rfl (Ql _) (Ql _)
set_option maxHeartbeats 1000000 in
theorem aoz{p:List Tm}{bs:List (List Int)}{x v0 v1 v2 w:List Rat}{q b c vn:Rat}{k:Nat}
  (a0:Qd Tryz.prog 195 [PV.aL p,PV.fK bs,PV.bj x,PV.rat 0] (· = .aH [PV.rat c,PV.bj v0]))
  (a1:Qd Tryz.prog 195 [PV.aL p,PV.fK bs,PV.bj x,PV.rat 1] (· = .aH [PV.rat (q+b+c),PV.bj v1]))
  (a2:Qd Tryz.prog 195 [PV.aL p,PV.fK bs,PV.bj x,PV.rat (-1)] (· = .aH [PV.rat (q-b+c),PV.bj v2]))
  (an:Qd Tryz.prog 195 [PV.aL p,PV.fK bs,PV.bj x,PV.rat ((cm b+cm c)/cm q+1)] (· = .aH [PV.rat vn,PV.bj w]))
  (hq:q<0) (EZ:rs q<=k) (Iy:rs b<=k) (pK:rs c<=k) (hk:k<=2^30):
  Qd Tryz.prog 139 [PV.aL p,PV.fK bs,PV.bj x] (· =PV.bj w):=by
 have il:=aoy (x:=1) (y:=2) Oz Oz Oz Oz Oz;have o0:=qK (x:=0) Oz Oz;have o1:=qK (x:=1) Oz Oz;have o2:=qK (x:= -1) Oz Oz;rw[show((0:Int):Rat)=0 from rfl]at o0;rw[show((1:Int):Rat)=1 from rfl]at o1 il;rw[show((-1:Int):Rat)= -1 from rfl]at o2;have hhr:rs ((1:Rat)/((2:Int):Rat))<=10:=by decide+kernel
 have e1:(1:Rat)/((2:Int):Rat)*(q+b+c+(q-b+c))-c=q:=by rw[show((2:Int):Rat)=2 from rfl];grind
 have e2:(1:Rat)/((2:Int):Rat)*(q+b+c-(q-b+c))=b:=by rw[show((2:Int):Rat)=2 from rfl];grind
 have q0:=mT;have r1:=lz q b;have r2:=lz (q+b) c;have r3:=yF q b;have r4:=lz (q-b) c;have r5:=lz (q+b+c) (q-b+c);have r6:=yF (q+b+c) (q-b+c);have r7:=fD ((1:Rat)/((2:Int):Rat)) (q+b+c+(q-b+c));have MZ:cm q≠0:=by unfold cm;rw[if_pos hq];grind
 have s1:=wV (a:=q+b+c) (b:=q-b+c) (k:=2^33) Oz Oz Oz;have s2:=pz (a:=(1:Rat)/((2:Int):Rat)) (b:=q+b+c+(q-b+c)) (k:=2^34) Oz Oz Oz;have s3:=F5 (a:=(1:Rat)/((2:Int):Rat)*(q+b+c+(q-b+c))) (b:=c) (k:=2^35) Oz Oz Oz;rw[e1]at s3;have s4:=F5 (a:=q+b+c) (b:=q-b+c) (k:=2^33) Oz Oz Oz;have s5:=pz (a:=(1:Rat)/((2:Int):Rat)) (b:=q+b+c-(q-b+c)) (k:=2^34) Oz Oz Oz;rw[e2]at s5;have s6:=Kh (a:=b) Iy Oz;have s7:=Kh (a:=c) pK Oz;have s8:=Kh (a:=q) EZ Oz;have t1:=AS b;have t2:=AS c;have t3:=AS q;have t4:=lz (cm b) (cm c);have t5:=vd (a:=cm b+cm c) MZ;have s9:=wV (a:=cm b) (b:=cm c) (k:=2^33) Oz Oz Oz;have s10:=Bl (a:=cm b+cm c) (b:=cm q) (k:=2^33) Oz Oz Oz MZ;have s11:=wV (a:=(cm b+cm c)/cm q) (b:=1) (k:=2^34) Oz Oz Oz;clear r1 r2 r3 r4 r5 r6 r7 t1 t2 t3 t4 t5 e1 e2 EZ Iy pK hhr;generalize(1:Rat)/((2:Int):Rat)*(q+b+c+(q-b+c))=u2 at *
 generalize q+b+c+(q-b+c)=u1 at *
 generalize q+b+c-(q-b+c)=u3 at *
 generalize(cm b+cm c)/cm q+1=u6 at *
 generalize(cm b+cm c)/cm q=u5 at *
 generalize cm b+cm c=u4 at *
 generalize(1:Rat)/((2:Int):Rat)=hf at *
 generalize q+b+c=p1 at *
 generalize q-b+c=p2 at *
 clear MZ;generalize cm b=ab at *
 generalize cm c=ac at *
 generalize cm q=aq at *
 generalize ZA:(0:Rat)=z0 at *
 generalize NU:(1:Rat)=z1 at *
 generalize IX:(-1:Rat)=z2 at *
 refine aE Qg Tryz.func139 al0 fun C hP=>?_;refine Sz0 ?_;refine Qb hP il ?_;refine Sz0 ?_;refine Qb hP o0 ?_;refine Sz0 ?_;refine Qb hP a0 ?_;refine Sz0 ?_;refine Qb hP o1 ?_;refine Sz0 ?_;refine Qb hP a1 ?_;refine Sz0 ?_;refine Qb hP o2 ?_;refine Sz0 ?_;refine Qb hP a2 ?_;refine Sz0 ?_;refine Hq okB [(14,14),(48,51)] [14] (fun J hp=>J 14= .mp 14 0 0/\hp 7=some ⟨3,51,[PV.rat hf],false⟩/\hp 8=some ⟨3,51,[PV.rat c],false⟩/\hp 10=some ⟨3,51,[PV.rat p1],false⟩/\hp 12=some ⟨3,51,[PV.rat p2],false⟩/\hp 14=some ⟨3,51,[PV.rat q],false⟩) ?_ ?_
 ·repeat' first
   |refine lk ?_ ?_
   |refine Qb hP s1 ?_
   |refine Qb hP s2 ?_
   |refine Qb hP s3 ?_
   |simp+decide (disch:=try exact D0) only[go_sem]
  all_goals
   refine nv ?_;exact Tz0
 rintro J h ⟨Fk,g7,g8,vF,DZ,Ia⟩;refine Sz4 Fk g7 vF DZ ?_;refine Hq okB [(14,15),(48,56)] [14,15] (fun J hp=>J 14= .mp 14 0 0/\J 15= .mp 15 0 0/\hp 8=some ⟨3,51,[PV.rat c],false⟩/\hp 14=some ⟨3,51,[PV.rat q],false⟩/\hp 15=some ⟨3,51,[PV.rat b],false⟩) ?_ ?_
 ·repeat' first
   |refine lk ?_ ?_
   |refine Qb hP s4 ?_
   |refine Qb hP s5 ?_
   |simp+decide (disch:=try exact D6 Fk g7 g8 vF DZ Ia) only[go_sem,Fk,g7,g8,vF,DZ,Ia]
  all_goals
   refine nv ?_;exact Tz6 Fk g7 g8 vF DZ Ia
 rintro J2 h2 ⟨Fl,Fm,e8,DX,DY⟩;clear Fk g7 g8 vF DZ Ia;refine Sz5 Fl Fm e8 DX DY ?_;refine Hq okB [(14,17),(48,67)] [14,15,16] (fun J hp=>J 16= .mp 16 0 0/\hp 16=some ⟨3,51,[PV.rat u5],false⟩) ?_ ?_
 ·repeat' first
   |refine lk ?_ ?_
   |refine Qb hP s6 ?_
   |refine Qb hP s7 ?_
   |refine Qb hP s9 ?_
   |refine Qb hP s8 ?_
   |refine Qb hP s10 ?_
   |simp+decide (disch:=try exact D5 Fl Fm e8 DX DY) only[go_sem,Fl,Fm,e8,DX,DY]
  all_goals
   refine nv ?_;exact Tz5 Fl Fm e8 DX DY
 rintro J3 h3 ⟨I7,f16⟩;clear Fl Fm e8 DX DY;refine Sz2 I7 f16 ?_;refine Hq okB [(14,19),(48,77)] [14,15,16,18] (fun J hp=>J 19=PV.bj w) ?_ ?_
 ·repeat' first
   |refine lk ?_ ?_
   |refine Qb hP o1 ?_
   |refine Qb hP s11 ?_
   |refine Qb hP an ?_
   |simp+decide (disch:=try exact D2 I7 f16) only[go_sem,I7,f16]
  all_goals
   refine nv ?_;exact Tz2 I7 f16
 rintro J4 h4 j19;refine Sz1 j19 ?_;exact Qc rfl rfl
structure QF(κ N:Nat)(p:List Tm):Prop where
 b:∀t∈p,rs t.1<=κ
 k:1<=κ
 m:∀t∈p,MB 2 t.2
 n:bB p
 d:jz p<=2
 v:(Qp p).length<=6
 s:p.length*κ+κ+4<=N
abbrev aM(p:List Tm):Nat:=(aF p).length
abbrev gS(p:List Tm):MF:=Qq (eR p (aF p)) (aF p).length
abbrev aO(p:List Tm):List LF:=(Qx (aM p) (gS p) (2*aM p)).2
theorem AA{p:List Tm}{i k:Nat}(hi:i<aM p)(hk:k<aM p):gS p i k=tT p (aF p) i k:=by
 unfold gS Qq eR;replace hi:i<(aF p).length:=hi;replace hk:k<(aF p).length:=hk;have aw:i*(aF p).length+k<(aF p).length*(aF p).length:=by have:(i+1)*(aF p).length<=(aF p).length*(aF p).length:=Kaj _ hi;rw[Kca]at this;omega
 rw[Kad,Kas,Kb8 aw];exact Hp hk
theorem sr(p:List Tm):Sym (aM p) (gS p):=fun i hi k hk=>by
 rw[AA hi hk,AA hk hi];unfold tT;rw[AB ((aF p).getD i [])];by_cases e:i=k
 ·subst e;rfl
 ·rw[if_neg e,if_neg (Ne.symm e)]
theorem PX{m:List Int}:∀ {p:List Tm},jO p m=0∨∃t∈p,jO p m=t.1
 | []=>.inl rfl
 | t::p=>by
  unfold jO;split
  ·exact .inr ⟨t,by simp,rfl⟩
  ·rcases PX (m:=m) (p:=p)with h|⟨s,hs,h⟩
   ·exact .inl h
   ·exact .inr ⟨s,Ka1 _ hs,h⟩
theorem wH{κ N:Nat}{p:List Tm}(h:QF κ N p):CM (N-2) (2*(nF p:Int)) (aM p) (aM p) (gS p):=by
 have hs:=h.s;have hd0:=agI p;have hdn:nl (nF p)<=p.length*κ+1:=Ru fun t ht=>by have:=h.b t ht;unfold rs at this;omega
 have h2:nl 2<=1:=by decide+kernel
 have hD:nl (2*(nF p:Int)).natAbs<=p.length*κ+2:=by have:=js 2 (nF p:Int);rw[Kbj]at this;have e:(2:Int).natAbs=2:=rfl;rw[e]at this;omega
 refine⟨by omega,by omega,fun i hi k hk=>?_⟩;rw[AA hi hk];obtain⟨D,Xb⟩:∃D:Int,(nF p:Int)=D:=⟨_,rfl⟩
 have Xd:(D:Rat)≠0:=by rw[Ne,Ka5];omega
 have key:∀q:Rat,(q=0∨∃t∈p,q=t.1)->∃a:Int,q=(a:Rat)/(D:Rat)/\nl a.natAbs<=κ+(p.length*κ+1):=fun q hq=>by
  rcases hq with rfl|⟨t,ht,rfl⟩
  ·exact⟨0,by rw[Kbr];exact(KcC _).symm,by rw[Int.natAbs_zero,yy];omega⟩
  ·obtain⟨e,he⟩:=QZ ht;have av5:nl t.1.num.natAbs<=κ:=by have:=h.b t ht;unfold rs at this;omega
   have jl:nl e<=nl (nF p):=iL (by rw[he];exact Nat.le_mul_of_pos_left _ (Kbg t.1.den_nz));refine⟨t.1.num*(e:Int),?_,by have:=js t.1.num (e:Int);rw[Kbj]at this;omega⟩;have d1:t.1=(t.1.num:Rat)/((t.1.den:Int):Rat):=by
    conv=>lhs;rw[<-Rat.mkRat_self t.1]
    rw[Kb6,KbR]
   have k1:((t.1.den:Int):Rat)≠0:=by rw[Ne,Ka5];have:=t.1.den_nz;omega
   have Xa:D=(t.1.den:Int)*(e:Int):=by rw[<-Xb,he];exact Kb3 _ _
   rw[Xa,KaU]at Xd;have k2:((e:Int):Rat)≠0:=fun h=>Xd (by rw[h,Rat.mul_zero]);rw[Xa,KaU,KaU];conv=>lhs;rw[d1]
   generalize(t.1.num:Rat)=A at *
   generalize((t.1.den:Int):Rat)=B at *
   generalize((e:Int):Rat)=E at *
   grind
 obtain⟨a,ea,ha⟩:=key _ (PX (m:=bF ((aF p).getD i []) ((aF p).getD k [])) (p:=p));unfold tT;rw[Xb];by_cases e:i=k
 ·rw[if_pos e,ea];refine⟨a*2,?_,by have:=js a 2;have e:(2:Int).natAbs=2:=rfl;rw[e]at this;omega⟩;rw[KaU,KaU];show _=(a:Rat)*2/(2*(D:Rat));generalize(a:Rat)=A at *
  generalize(D:Rat)=B at *
  grind
 ·rw[if_neg e,ea];refine⟨a,?_,by omega⟩;rw[KaU];show _=(a:Rat)/(2*(D:Rat));generalize(a:Rat)=A at *
  generalize(D:Rat)=B at *
  grind
theorem gG{κ N:Nat}{p:List Tm}(h:QF κ N p):1<=aM p/\aM p<=7/\aM p=(Qp p).length+1:=by
 have hl:(aF p).length=(Qp p).length+1:=by simp[aF]
 have:=h.v;show 1<=(aF p).length/\(aF p).length<=7/\(aF p).length=(Qp p).length+1;exact⟨by omega,by omega,hl⟩
theorem Bm{κ N:Nat}{p:List Tm}(h:QF κ N p):iz (aM p) (gS p) (aO p):=by have hs:=h.s;have hk:=h.k;exact aly (gG h).1 (sr p) (b:=max N 3) Oz fun r hr c hc=>by have:=(wH h).bd r hr c hc;omega
theorem qy{κ N:Nat}{p:List Tm}(h:QF κ N p):xa (N*128) (aM p) (2*aM p) (gS p)/\(aO p).length<=aM p/\(∃D,FD (N*128) D (aM p) (aO p))/\∀f∈aO p,rs f.1<=N*128/\∀c,c<aM p->rs (f.2 c)<=N*128:=by
 have hs:=h.s;have hk:=h.k;obtain⟨r1,r2,r3⟩:=gG h;have hp:N*2^aM p<=N*128:=KaE _ (Kap (KaR Oz r2) Oz);have hB:=ak4 (m:=2*aM p) (sr p) (wH h) Oz;have W8:xa (N*128) (aM p) (2*aM p) (gS p):=fun k hk=>by obtain⟨b1,b2,b3⟩:=hB k hk;exact⟨fun r hr c hc=>Kap (b1 r hr c hc) hp,fun f hf=>⟨Kap (b2 f hf).1 hp,fun c hc=>Kap ((b2 f hf).2 c hc) hp⟩,fun j hj r hr c hc=>Kap (b3 j hj r hr c hc) hp⟩
 obtain⟨D,hF⟩:=ak5 (sr p) (wH h) Oz (2*aM p);refine⟨W8,?_,⟨D,hF.mono hp⟩,JO W8 _ (Kae _)⟩;rw[<-ahA (sr p) (Bm h)];exact(ll _ _ _).2.1
def sJ(L:List LF):Bool:=L.all fun f=>decide (0<=f.1)
theorem Ob:∀ {L:List LF},sJ L=false->∃a,∃h:a<L.length,L[a].1<0/\∀j (hj:j<L.length),j<a->0<=L[j].1
 | [],h=>by cases h
 | f::L,h=>by
  by_cases hf:0<=f.1
  ·have h2:sJ L=false:=by unfold sJ at h⊢;rw[List.all_cons,decide_eq_true hf,KcA]at h;exact h
   obtain⟨a,ha,h3,h4⟩:=Ob h2;refine⟨a+1,by rw[KaT];omega,h3,fun j hj XP=>?_⟩;cases j with
   |zero=>exact hf
   |succ j=>exact h4 j (by rw[KaT]at hj;omega) Oz
  ·exact⟨0,by simp,Rat.not_le.1 hf,fun j _ hj=>by omega⟩
def dN(p:List Tm)(a:Nat):Nat->Rat:=Cg (Qq (dj (aM p) (aO p)) (aM p)) (aO p).length (fun i=>if i=a then 1 else 0) (aM p)
def cc(p:List Tm)(a:Nat):List Rat:=(List.range (aM p)).map (dN p a)
theorem GO{R:Nat}{L:List LF}:Be (Qq (dj R L) R) L R:=fun i hi c hc=>by unfold Qq;rw[AD L i c hi hc];unfold jP;rw[Kad,Kag hi];rfl
theorem SU{κ N:Nat}{p:List Tm}(h:QF κ N p){a:Nat}(ha:a<(aO p).length):pn (gS p) (dN p a) (aM p) (aM p)=(aO p)[a].1:=by have:=ahC GO (sr p) (Bm h) ha;unfold dN;rw[this];unfold jP;rw[Kad,Kag ha];rfl
theorem Lz{f:Nat->Rat}{n i:Nat}(h:i<n):((List.range n).map f).getD i 0=f i:=by rw[Kad,Kas,Kb8 h];rfl
theorem aoA{κ N:Nat}{p:List Tm}(h:QF κ N p){a:Nat}(ha:a<(aO p).length){c:Rat}(hc:dN p a (Qp p).length=c)(pJ:c≠0):
  iy (cj (aF p) ((cc p a).map (· /c)) (aM p-1)) p=1/c*(1/c)*(aO p)[a].1:=by
 obtain⟨r1,r2,r3⟩:=gG h;rw[(Dx h.m h.n h.d).1,<-SU h ha,RA,<-adR];refine ru fun i hi k hk=>?_;have hz:∀j,j<aM p->xb ((cc p a).map (· /c)) (Qp p).length j=1/c*dN p a j:=fun j hj=>by
  unfold xb;by_cases e:j<(Qp p).length
  ·rw[if_pos e,cc,KbH,Lz hj];show dN p a j/c=_;rw[Kbr,Kbr,Kcm,Rat.mul_comm]
  ·obtain rfl:j=(Qp p).length:=by omega
   rw[if_neg e,hc,Kbr,Kcm,Kb1 _ pJ]
 rw[hz i hi,hz k hk,AA hi hk]
def oR(p:List Tm)(a:Nat):Rat:=2*Qw (gS p (Qp p).length) (dN p a) (aM p)
theorem JU{κ N:Nat}{p:List Tm}(h:QF κ N p){a:Nat}(ha:a<(aO p).length)(hc:dN p a (Qp p).length=0)(t:Rat):
  iy (cj (aF p) ((cc p a).map (· *t)) (aM p-1)) p=t*t*(aO p)[a].1+t*oR p a+gS p (Qp p).length (Qp p).length:=by
 obtain⟨r1,r2,r3⟩:=gG h;have hq:=afd (M:=gS p) (y:=dN p a) (n:=(Qp p).length) (t:=t) (by rw[<-r3];exact sr p) hc;rw[<-r3,SU h ha]at hq;rw[(Dx h.m h.n h.d).1,oR,<-hq];refine ru fun i hi k hk=>?_;have hz:∀j,j<aM p->xb ((cc p a).map (· *t)) (Qp p).length j=if j<(Qp p).length then t*dN p a j else 1:=fun j hj=>by
  unfold xb;by_cases e:j<(Qp p).length
  ·rw[if_pos e,if_pos e,cc,KbH,Lz hj];exact Rat.mul_comm _ _
  ·rw[if_neg e,if_neg e]
 rw[hz i hi,hz k hk,AA hi hk]
def xV(p:List Tm)(a:Nat)(q:Rat):Rat:=(cm (oR p a)+cm (gS p (Qp p).length (Qp p).length))/cm q+1
def tC(p:List Tm)(a:Nat)(q:Rat):List Rat:=if dN p a (Qp p).length=0 then(cc p a).map (· *xV p a q)else(cc p a).map (· /dN p a (Qp p).length)
theorem TJ{κ N:Nat}{p:List Tm}(h:QF κ N p){a:Nat}(ha:a<(aO p).length)(hw:(aO p)[a].1<0):
  iy (cj (aF p) (tC p a (aO p)[a].1) (aM p-1)) p<0/\qJ (cj (aF p) (tC p a (aO p)[a].1) (aM p-1)) p=false:=by
 refine⟨?_,(Dx h.m h.n h.d).2⟩;unfold tC;by_cases hc:dN p a (Qp p).length=0
 ·rw[if_pos hc,JU h ha hc];exact(alN hw).2 _ rfl
 ·rw[if_neg hc,aoA h ha rfl hc];have hi:1/dN p a (Qp p).length≠0:=fun e=>hc (by
   have h1:1/dN p a (Qp p).length*dN p a (Qp p).length=1:=by rw[Kbr,Kcm,Kb1 _ hc]
   rw[e,KcC]at h1;exact absurd h1 (by decide))
  generalize 1/dN p a (Qp p).length=u at *
  generalize((aO p)[a]).1=w at *
  have h2:0<u*u:=by have h3:=abL u;have h4:u*u≠0:=fun e=>hi (by rcases KcX.1 e with h|h<;>exact h);grind
  have h5:=Rat.mul_pos h2 (show 0< -w by grind);grind
theorem SV(p:List Tm):∀b∈aF p,ck b=true:=fun b h=>LD (l8 b h).1 Oz (l8 b h).2.2
theorem HS{κ N:Nat}{p:List Tm}(h:QF κ N p):∀q∈eR p (aF p),rs q<=N:=fun q hq=>by obtain⟨j,hj,rfl⟩:=Kaq.1 hq;have hj:=Kbo.1 hj;have hs:=h.s;have hk:=h.k;have hR:0<(aF p).length:=(gG h).1;have h1:j/(aF p).length<(aF p).length:=(Kbi hR).2 hj;have h2:=Kbx j hR;have e:kO p (aF p) j=gS p (j/(aF p).length) (j%(aF p).length):=(AA h1 h2).symm;rw[e];have:=(wH h).bd _ h1 _ h2;omega
theorem Uf{κ N:Nat}{p:List Tm}(h:QF κ N p):pH (aF p) (aM p) (aM p) ((eR p (aF p)).map qR)=0:=by
 obtain⟨r1,r2,r3⟩:=gG h;have hlen:(eR p (aF p)).length=aM p*aM p:=yp p (aF p);have vX:mV (Qq (((eR p (aF p)).map qR).map eL) (aF p).length) (aF p).length:=by rw[Wt];exact fun i hi k hk=>sr p i hi k (by show k<(aF p).length;omega)
 unfold pH;rw[if_pos (LI hlen Oz Oz),if_pos (Kax.2 (SV p)),if_pos ⟨rfl,rfl,vX⟩]
theorem aff{κ N:Nat}{p:List Tm}(h:QF κ N p)(hN:N<=131072):Qd Tryz.prog 90 [PV.fK (aF p),PV.a9 (aM p) (aM p) (eR p (aF p))] (· = .int .i64 0):=by obtain⟨r1,r2,r3⟩:=gG h;have hlen:(eR p (aF p)).length=aM p*aM p:=yp p (aF p);have jm:aM p*aM p<=7*7:=KaQ r2 r2;have BO:ny ((eR p (aF p)).map qR):=Ho (k:=131072) Oz Oz fun q hq=>Kap (HS h q hq) hN;have c1:=Lx (bs:=aF p) (r:=aM p) (c:=aM p) (by show aM p<_;omega) (fun b hb=>by have:=(l8 b hb).2.1;omega) BO;rw[Uf h,<-sB]at c1;exact c1
theorem RS{κ N:Nat}{p:List Tm}(h:QF κ N p)(hN:N<=131072):Qd Tryz.prog 48 [PV.a9 (aM p) (aM p) (eR p (aF p))] (· =qL (aM p) (aO p)):=by obtain⟨r1,r2,r3⟩:=gG h;exact RG (yp p (aF p)) Oz Oz (fun q hq=>Kap (HS h q hq) Oz) (K:=N*128) Oz (qy h).1 fun i hi k hk=>sr p i hi k Oz
theorem Ki{κ N:Nat}{p:List Tm}(h:QF κ N p)(hN:N<=131072):Cf (N*128) (aM p) (aF p) (aO p):=by obtain⟨r1,r2,r3⟩:=gG h;obtain⟨q1,q2,q3,q4⟩:=qy h;have hs:=h.s;have hk:=h.k;exact⟨rfl,fun b hb=>by have:=(l8 b hb).2.1;omega,by omega,by omega,q4,by omega,by omega⟩
theorem OI{κ N:Nat}{p:List Tm}(h:QF κ N p)(hN:N<=131072):Qd Tryz.prog 29 [PV.fK (aF p),PV.a9 (aM p) (aM p) (eR p (aF p))] (· =jW (aF p) (aO p)):=
 Ky (Ki h hN) (aff h hN) (RS h hN)
theorem Cr{n a:Nat}(ha:a<n):gZ (mQ n a)=fun i=>if i=a then 1 else 0:=funext fun i=>by
 unfold gZ mQ;by_cases hi:i<n
 ·rw[Lz hi]
 ·rw[Kad,Kcj (by simp;omega),if_neg Oz];rfl
theorem SW(n a:Nat):∀q∈mQ n a,rs q<=1:=fun q hq=>by
 obtain⟨j,_,rfl⟩:=Kaq.1 hq;have h1:=mT;have h0:=sN;split
 ·exact h1
 ·exact h0
theorem SX{R K:Nat}{L:List LF}(h:∀f∈L,∀c,c<R->rs (f.2 c)<=K):∀q∈dj R L,rs q<=K:=fun q hq=>by obtain⟨f,hf,hq⟩:=Kat.1 hq;obtain⟨c,hc,rfl⟩:=Kaq.1 hq;exact h f hf c (Kbo.1 hc)
theorem wI{κ N:Nat}{p:List Tm}(h:QF κ N p){a:Nat}(ha:a<(aO p).length):
  vm ((N*128+1)*128) (aO p).length (aM p+1) (aM p) (bS (Qq (dj (aM p) (aO p)) (aM p)) (fun i=>if i=a then 1 else 0) (aM p))/\(∀c,rs (dN p a c)<=(N*128+1)*128)/\rs (oR p a)<=N+(N*128+1)*128+20:=by
 obtain⟨r1,r2,r3⟩:=gG h;obtain⟨q1,q2,⟨D,q3⟩,q4⟩:=qy h;have hs:=h.s;have hk:=h.k;obtain⟨e1,D',d0,d1,d2⟩:=aoq GO q3 (b:=fun i=>if i=a then 1 else 0) (fun i=>by by_cases e:i=a<;>simp[e]) Oz q2;have hp:(N*128+1)*2^(aO p).length<=(N*128+1)*128:=KaE _ (Kap (KaR Oz (show(aO p).length<=7 by omega)) Oz);refine⟨fun k hk=>⟨fun r hr c hc=>Kap ((e1 k hk).1 r hr c hc) hp,Kap (e1 k hk).2 hp⟩,fun c=>?_,?_⟩
 ·obtain⟨z,ez,hz⟩:=d2 c;unfold dN;rw[ez];have:=yE z D' d0;omega
 ·have hg:=wH h;have hn:(Qp p).length<aM p:=by omega
  obtain⟨z,ez,hz⟩:=TH hg.1 d0 (aM p) (fun c hc=>hg.2.2 _ hn c hc) (fun c _=>d2 c);unfold oR;have e2:Qw (gS p (Qp p).length) (dN p a) (aM p)=(z:Rat)/((2*(nF p:Int)*D':Int):Rat):=ez;rw[e2];have m1:=lv hg.2.1 d1;have m2:=yE z (2*(nF p:Int)*D') (Kcu hg.1 d0);have m3:=fD 2 ((z:Rat)/((2*(nF p:Int)*D':Int):Rat));have m4:rs (2:Rat)<=1:=by decide+kernel
  omega
theorem ahR{κ N:Nat}{p:List Tm}(h:QF κ N p)(hN:N<=56){a:Nat}(ha:a<(aO p).length):Qd Tryz.prog 138 [PV.a9 (aO p).length (aM p) (dj (aM p) (aO p)),.int .i64 (a:Nat)] (· =PV.bj (cc p a)):=by obtain⟨r1,r2,r3⟩:=gG h;obtain⟨q1,q2,q3,q4⟩:=qy h;have dM:=(wI h ha).1;rw[<-Cr ha]at dM;have Fc:=Sh (R:=(aO p).length) (m:=aM p) (l:=dj (aM p) (aO p)) (b:=mQ (aO p).length a) (sh _ _) (Ay _ _) Oz Oz Oz (SX fun f hf c hc=>Kap ((q4 f hf).2 c hc) Oz) (fun q hq=>Kap (SW _ _ q hq) Oz) Oz dM;rw[Cr ha,ak6 GO (sr p) (Bm h),pe]at Fc;exact RK (x:=cc p a) Oz Fc
theorem Hv{κ N:Nat}{p:List Tm}(h:QF κ N p)(hN:N<=56)(aV:p.length<=20){a:Nat}(ha:a<(aO p).length)(hc:dN p a (Qp p).length=0){t:Rat}(ht:rs t<=1000000):
  Qd Tryz.prog 195 [PV.aL p,PV.fK (aF p),PV.bj (cc p a),PV.rat t] (· = .aH [PV.rat (t*t*(aO p)[a].1+t*oR p a+gS p (Qp p).length (Qp p).length),PV.bj (cj (aF p) ((cc p a).map (· *t)) (aM p-1))]):=by
 obtain⟨r1,r2,r3⟩:=gG h;have hs:=h.s;have hk:=h.k;have dM:=(wI h ha).2.1;have qW:(cc p a).length=aM p:=by simp[cc]
 have hx:∀q∈cc p a,rs q<=1000000:=fun q hq=>by obtain⟨j,_,rfl⟩:=Kaq.1 hq;have:=dM j;omega
 have gQ:∀q∈(cc p a).map (· *t),rs q<=2000000:=fun q hq=>by obtain⟨y,hy,rfl⟩:=Kaq.1 hq;have h1:=hx y hy;have:=fD y t;show rs (y*t)<=_;omega
 have hw:=FR (bs:=aF p) gQ Oz (aM p-1);have rf:=CW (bs:=aF p) (x:=(cc p a).map (· *t)) (m:=64) (fun b hb=>(l8 b hb).2.1) (aM p-1);have eZ:=LV (bs:=aF p) (x:=(cc p a).map (· *t)) r1 (by show aM p<=_;omega) (fun b hb=>by have:=(l8 b hb).2.1;omega) (by rw[Kal,qW];show aM p<=_;omega) (by rw[Kal,qW];omega);have nO:PB (κ+1) 2 p:=fun s hs=>⟨by have:=h.b s hs;omega,h.m s hs,h.n.c s hs⟩
 have xH:p.length*(κ+1+64*(1+2000000*2))<=20*(57+64*(1+2000000*2)):=KaQ aV Oz;have iX:=acn (p:=p) (vs:=cj (aF p) ((cc p a).map (· *t)) (aM p-1)) nO hw Oz Oz Oz Oz Oz;rw[vE,if_neg (by rw[(Dx h.m h.n h.d).2];decide),JU h ha hc]at iX;exact ahj hx (show rs t<=1000000 from ht) Oz Oz eZ iX
theorem Og{κ N:Nat}{p:List Tm}(h:QF κ N p)(hN:N<=56){a:Nat}(ha:a<(aO p).length)(hw:(aO p)[a].1<0):rs (xV p a (aO p)[a].1)<=1000000:=by
 obtain⟨r1,r2,r3⟩:=gG h;obtain⟨q1,q2,q3,q4⟩:=qy h;obtain⟨z1,z2,z3⟩:=wI h ha;have hs:=h.s;have hk:=h.k;have pK:rs (gS p (Qp p).length (Qp p).length)<=N:=by have:=(wH h).bd (Qp p).length Oz (Qp p).length Oz;omega
 have EZ:=(q4 _ (Kah ha)).1;have gO:cm (aO p)[a].1≠0:=by unfold cm;rw[if_pos hw];grind
 unfold xV;have a1:=AS (oR p a);have a2:=AS (gS p (Qp p).length (Qp p).length);have a3:=AS (aO p)[a].1;have a4:=lz (cm (oR p a)) (cm (gS p (Qp p).length (Qp p).length));have a5:=vd (a:=cm (oR p a)+cm (gS p (Qp p).length (Qp p).length)) gO;have a6:=lz ((cm (oR p a)+cm (gS p (Qp p).length (Qp p).length))/cm (aO p)[a].1) 1;have a7:=mT;omega
theorem adV{κ N:Nat}{p:List Tm}(h:QF κ N p)(hN:N<=56)(aV:p.length<=20){a:Nat}(ha:a<(aO p).length)(hw:(aO p)[a].1<0)(hb:∀j (hj:j<(aO p).length),j<a->0<=(aO p)[j].1):
  Qd Tryz.prog 75 [PV.aL p,PV.fK (aF p),PV.a9 (aM p) (aM p) (eR p (aF p))] (· =PV.bj (cj (aF p) (tC p a (aO p)[a].1) (aM p-1))):=by
 obtain⟨r1,r2,r3⟩:=gG h;obtain⟨q1,q2,q3,q4⟩:=qy h;obtain⟨z1,z2,z3⟩:=wI h ha;have hs:=h.s;have hk:=h.k;have qW:(cc p a).length=(Qp p).length+1:=by simp[cc];exact r3
 have xx:((aO p).map (·.1)).length=(aO p).length:=Kal _;have xw:∀j (hj:j<(aO p).length) (xE:j<((aO p).map (·.1)).length),((aO p).map (·.1))[j]=(aO p)[j].1:=fun j hj xE=>Ka8 ..;have gK:(cc p a)[(Qp p).length]'Oz=dN p a (Qp p).length:=by simp[cc]
 have hr:=RS h Oz;refine Vy (W:=(aO p).map (·.1)) (n:=(aO p).length) (L:=dj (aM p) (aO p)) (x:=cc p a) (a:=a) (m:=(Qp p).length) (c:=dN p a (Qp p).length) hr Oz Oz (fun q hq=>?_) (fun j hj XP=>?_) ?_ (ahR h hN ha) qW Oz (fun q hq=>?_) gK (fun hc=>?_) (fun hc=>?_)
 ·obtain⟨f,hf,rfl⟩:=Kaq.1 hq;have:=(q4 f hf).1;omega
 ·rw[xw j Oz];exact hb j Oz XP
 ·rw[xw a ha];exact hw
 ·obtain⟨j,_,rfl⟩:=Kaq.1 hq;have:=z2 j;omega
 ·have t0:=Hv h hN aV ha hc (t:=0) (by have:=sN;omega);have t1:=Hv h hN aV ha hc (t:=1) (by have:=mT;omega);have t2:=Hv h hN aV ha hc (t:= -1) (by have:=F3;omega);have pK:rs (gS p (Qp p).length (Qp p).length)<=N:=by have:=(wH h).bd (Qp p).length Oz (Qp p).length Oz;omega
  have EZ:=(q4 _ (Kah ha)).1;have hT:=Og h hN ha hw;have tn:=Hv h hN aV ha hc hT;have hX:tC p a (aO p)[a].1=(cc p a).map (· *xV p a (aO p)[a].1):=by unfold tC;rw[if_pos hc]
  rw[hX];generalize hq:(aO p)[a].1=q at *
  generalize zj:oR p a=b at *
  generalize jk:gS p (Qp p).length (Qp p).length=c at *
  rw[show(0:Rat)*0*q+0*b+c=c by grind]at t0;rw[show(1:Rat)*1*q+1*b+c=q+b+c by grind]at t1;rw[show(-1:Rat)* -1*q+ -1*b+c=q-b+c by grind]at t2;have e:xV p a q=(cm b+cm c)/cm q+1:=by unfold xV;rw[zj,jk]
  rw[e]at tn⊢;exact aoz t0 t1 t2 tn hw (k:=1000000) Oz Oz Oz Oz
 ·have hX:tC p a (aO p)[a].1=(cc p a).map (· /dN p a (Qp p).length):=by unfold tC;rw[if_neg hc]
  rw[hX];exact LV (bs:=aF p) r1 (by show aM p<=_;omega) (fun b hb=>by have:=(l8 b hb).2.1;omega) (by rw[Kal,qW];show aM p<=_;omega) (by rw[Kal,qW];omega)
theorem Ai{κ N:Nat}{p:List Tm}(h:QF κ N p):PB (κ+1) 2 p:=fun s hs=>⟨by have:=h.b s hs;omega,h.m s hs,h.n.c s hs⟩
theorem aoB{E:Nat}{p:List Tm}(hm:∀t∈p,MB E t.2)(hn:bB p)(hd:jz p<=2):∀t∈p,MB 2 t.2:=fun t ht=>by have h1:=(Rs p).1 t ht;have h2:=hm t ht;refine⟨h2.len,h2.lo,fun x hx=>?_⟩;obtain⟨j,hj,rfl⟩:=KaV hx;have:=Hu h2 (hn.c t ht) j;rw[fY hj]at this;omega
theorem abM{κ N:Nat}{p:List Tm}(h:QF κ N p)(hw:sJ (aO p)=true):∀x∈(aO p).map (dq (aF p)),uc (7*(N*128+1)) 1 7 x/\0<x.1:=fun x hx=>by
 obtain⟨r1,r2,r3⟩:=gG h;obtain⟨q1,q2,q3,q4⟩:=qy h;obtain⟨f,hf,rfl⟩:=Kaq.1 hx;have nR:=uM (aF p) f;have XE:∀t∈eQ (aF p) f,rs t.1<=N*128/\MB 1 t.2:=fun t ht=>by obtain⟨k,hk,rfl⟩:=KaV ht;rw[uM]at hk;rw[G4 hk];exact⟨(q4 f hf).2 k hk,(l8 _ (Kah _)).1⟩
 have hb2:=OE (L:=eQ (aF p) f) (k:=N*128) fun t ht=>(XE t ht).1;rw[nR]at hb2;have hle:(aF p).length*(N*128+1)<=7*(N*128+1):=Kaj _ r2;refine⟨⟨by have:=(q4 f hf).1;show rs f.1+1<=_;omega,fun t ht=>⟨Kap (hb2.1 t ht).c hle,?_,(hb2.1 t ht).l⟩,Kap hb2.2.1 r2,hb2.2.2⟩,?_⟩
 ·obtain⟨s,hs,e⟩:=ahF (PR (SV p)) ht;rw[<-e];exact(XE s hs).2
 ·have h1:=abK (Bm h) f hf;have h2:=of_decide_eq_true (Kax.1 hw f hf);show 0<f.1;grind
theorem afg{κ N:Nat}{p:List Tm}(h:QF κ N p)(hN:N<=36300)(hw:sJ (aO p)=true):
  Qd Tryz.prog 22 [PV.aL p] (· = .aH [PV.cY ((aO p).map (dq (aF p))),PV.bj [],.int .i64 0])/\
  Qd Tryz.prog 41 [PV.aL p,PV.cY ((aO p).map (dq (aF p)))] (· = .int .i64 0):=by
 have hs:=h.s;have hk:=h.k;obtain⟨r1,r2,r3⟩:=gG h;obtain⟨q1,q2,q3,q4⟩:=qy h;have aV:p.length<=p.length*κ:=KaZ _ hk;have nO:=Ai h;have hv:qi p:=h.n.Fw nO Oz;have hG:=abM h hw;have hF:=OI h Oz;unfold jW at hF;rw[if_pos (show((aO p).all fun f=>decide (0<=f.1))=true from hw)]at hF;have qX:=afc h.m h.n h.d (Bm h) (fun x hx=>(hG x hx).1);refine⟨F8 (e:=0) (w:=[]) nO Oz Oz Oz Oz (GL nO hv Oz Oz) h.d (by show aM p<=_;omega) hF (fun e=>by cases e) (fun _=>rfl),?_⟩;have Ef:((aO p).map (dq (aF p))).length<=7:=by rw[Kal];omega
 have hmul:(7*(7*(N*128+1)+7*(N*128+1))+7*(N*128+1))*(((aO p).map (dq (aF p))).length+1)<=(7*(7*(N*128+1)+7*(N*128+1))+7*(N*128+1))*8:=KaE _ Oz;exact acB hG qX hv (nO.mono Oz Oz) Oz Oz Oz Oz Oz Oz Oz
theorem adt{κ N:Nat}{p:List Tm}(h:QF κ N p)(hN:N<=56)(aV:p.length<=20)(hw:sJ (aO p)=false):
  ∃w,Qd Tryz.prog 22 [PV.aL p] (· = .aH [PV.cY [],PV.bj w,.int .i64 17])/\qJ w p=false/\iy w p<0/\(∀q∈w,rs q<=2000000)/\w.length<=70/\∃x,w=cj (aF p) x (aM p-1):=by
 have hs:=h.s;have hk:=h.k;obtain⟨r1,r2,r3⟩:=gG h;have nO:=Ai h;have hv:qi p:=h.n.Fw nO Oz;obtain⟨a,ha,g1,g2⟩:=Ob hw;have pT:=adV h hN aV ha g1 g2;obtain⟨n1,n2⟩:=TJ h ha g1;have hF:=OI h Oz;unfold jW at hF;have pZ:¬((aO p).all fun f=>decide (0<=f.1))=true:=by unfold sJ at hw;rw[hw];decide
 rw[if_neg pZ]at hF;refine⟨_,F8 (e:=17) nO Oz Oz Oz Oz (GL nO hv Oz Oz) h.d (by show aM p<=_;omega) hF (fun _=>⟨rfl,pT⟩) (fun e=>absurd rfl e),n2,n1,?_,?_,_,rfl⟩
 ·refine FR (fun q hq=>?_) Oz _;obtain⟨z1,z2,z3⟩:=wI h ha;obtain⟨q1,q2,q3,q4⟩:=qy h;unfold tC at hq;by_cases hc:dN p a (Qp p).length=0
  ·rw[if_pos hc]at hq;obtain⟨y,hy,rfl⟩:=Kaq.1 hq;obtain⟨j,_,rfl⟩:=Kaq.1 hy;have m1:=z2 j;have m2:=fD (dN p a j) (xV p a (aO p)[a].1);have hT:=Og h hN ha g1;show rs (dN p a j*xV p a (aO p)[a].1)<=_;omega
  ·rw[if_neg hc]at hq;obtain⟨y,hy,rfl⟩:=Kaq.1 hq;obtain⟨j,_,rfl⟩:=Kaq.1 hy;have m1:=z2 j;have m2:=z2 (Qp p).length;have m3:=vd (a:=dN p a j) hc;show rs (dN p a j/dN p a (Qp p).length)<=_;omega
 ·have:=CW (bs:=aF p) (x:=tC p a (aO p)[a].1) (m:=64) (fun b hb=>(l8 b hb).2.1) (aM p-1);omega
theorem acC{p:List Tm}{K E:Nat}(hb:PB K E p)(hv:qi p)(hK:K<2^36)(hE:E<=2^38)(hl:p.length<=2^36)(hd:¬jz p<=2):Qd Tryz.prog 22 [PV.aL p] (· = .aH [PV.cY [],PV.bj [],.int .i64 8]):=by have hr:=GL hb hv hK Oz;have vM:=KE hb hE hl;refine aE Qg Tryz.func22 FN fun C hP=>?_;refine Sz0 ?_;refine Qb hP hr ?_;refine Sz0 ?_;refine Qb hP vM ?_;refine Sz0 ?_;refine Qa (fun h0=>?_) (fun h0=>absurd h0 Oz);refine Sz0 ?_;exact jy (r:=.aH [PV.cY [],PV.bj [],.int .i64 8]) rfl rfl rfl rfl tL trivial (Ql _)
def WT:ay:=⟨103,[.t 4],Zr (Zo (.box 3 3 24 (.t 1))<|
 YE 4)<|Zr (dn 19 3 3 93<|
 yV 18 6 5 7)<|Zr (Yp 24 5<|
 xd 26 25<|
 Ye 8 26)<|Zr (Yh 9)<| .seq (Zr (Yj 10 0)<| .block 0<| .loop<| .seq (Zr (Yo 27 10 5)<| .cond (.t 30) .skip (.exit 0))<| .seq (.block 1<|Zr (Ya 33 8 10<|
 iA 35 50 0<|
 YS 36 3 33 34 35)<|Zr (iB 37 5 10 3<|
 Yl 41 27 40<|
 Zk 42 .lss 41 0<|
 YN 43 42 9<|
 Zg 43 true (.un 45 .not (.t 44))<|
 Yq 46 43 45 .nil)<| .cond (.t 46) (Zr (Ya 47 8 10<|
 Zq 49 false 50 [.c (Zz 1)]<|
 YS 50 3 47 48 49)<| .rg (YO 9)) .skip)<| .rg (YX 31 10 10))<|Zr (Zh 52 3 6<|
 Zm 53 8<|
 .wk<|Yn 54 14 52 53<|
 gy 51<|
 dp 11 55 56)<|Zr (iA 57 50 1<|
 fu 13 57 .nil)<| .block 2<| .loop<| .block 3<| .seq (Zr (YK 59 0 11 144<|
 gy 58<|
 dp 14 62 63)<|Zr (Ye 64 15)<| .cond (.t 64) (Zr (YZ 65 14 4) .ret) .skip)<|Zr (sQ 66 11<|
 sQ 70 11<|
 Yx 74 3 70 73<|
 Zh 76 3 13<|
 Zq 77 false 87 [.t 75,.t 76]<|
 YS 78 3 66 69 77)<| .seq (Zr (YK 80 0 11 144<|
 gy 79<|
 dp 16 83 84)<|Zr (Ye 85 17)<| .cond (.t 85) (Zr (YZ 86 16 4) .ret) .skip)<|Zr (sQ 87 11<|
 sQ 91 11<|
 Yx 95 3 91 94<|
 Zh 97 3 13<|
 Yn 98 145 96 97<|
 YS 99 3 87 90 98)<| .rg (Zh 100 3 13<|
 Zq 101 true 51 [.c (Zz 1),.c (Zz 2)]<|
 jD 102 85 100 101 3 13)⟩
theorem aoC:Qe Tryz.prog Tryz.f79=some WT.strip:=by kernel_rfl
def ew:Nat->Rat
 |0=>1
 |k+1=>ew k*(1/2)
def two:Nat->Rat
 |0=>1
 |k+1=>two k*2
theorem JV:∀k,two k=((2^k:Nat):Rat)
 |0=>rfl
 |k+1=>by show two k*2=_;rw[JV k,Kbv];have:((2^k*2:Nat):Rat)=((2^k:Nat):Rat)*((2:Nat):Rat):=Rat.natCast_mul _ _;rw[this];rfl
theorem Dy:∀k,ew k*two k=1
 |0=>by show(1:Rat)*1=1;grind
 |k+1=>by have:=Dy k;show ew k*(1/2)*(two k*2)=1;grind
theorem TK(k:Nat):ew k≠0:=fun h=>by have:=Dy k;rw[h,KcC]at this;exact absurd this (by decide)
theorem aoD(k:Nat):ew k=1/two k:=by
 have h1:=Dy k;have h2:two k≠0:=fun h=>by rw[h,Rat.mul_zero]at h1;exact absurd h1 (by decide)
 grind
theorem aoE(k:Nat):nl (2^k)<=k/16+1:=by
 rw[nw];have e:(65536:Nat)=2^16:=by decide
 rw[e,<-Nat.pow_mul];exact Nat.pow_lt_pow_right Oz Oz
theorem TS(k:Nat):rs (two k)<=k/16+1:=by
 rw[JV];have h:=aoE k;have e:((2^k:Nat):Rat)=(((2^k:Nat):Int):Rat)/((1:Int):Rat):=by rw[KbR,show((1:Int):Rat)=1 from rfl,Kbr];grind
 rw[e];have:=yE ((2^k:Nat):Int) 1 Oz;rw[Kbj]at this;have h1:nl (1:Int).natAbs=1:=u9;omega
theorem TT(k:Nat):rs (ew k)<=k/16+2:=by
 rw[aoD];have h1:=TS k;have h2:two k≠0:=fun h=>by have:=Dy k;rw[h,Rat.mul_zero]at this;exact absurd this (by decide)
 have h3:=DH (two k) h2;rw[Kbr,Kcm];omega
theorem al1{q:Rat}{n:Nat}(h:rs q<=n):q<=two (16*n):=by
 have h1:nl q.num.natAbs<=n:=by unfold rs at h;omega
 rw[nw]at h1;have e:(65536:Nat)=2^16:=by decide
 rw[e,<-Nat.pow_mul]at h1;have h2:q<=((q.num.natAbs:Nat):Rat):=by
  have d1:q=(q.num:Rat)/((q.den:Int):Rat):=by
   conv=>lhs;rw[<-Rat.mkRat_self q]
   rw[Kb6,KbR]
  have d2:(1:Rat)<=((q.den:Int):Rat):=by have:((1:Int):Rat)<=((q.den:Int):Rat):=Kb2.2 (by have:=q.den_nz;omega);exact this
  have d3:(q.num:Rat)<=((q.num.natAbs:Int):Rat):=Kb2.2 Oz;have d4:(0:Rat)<=((q.num.natAbs:Int):Rat):=by have:((0:Int):Rat)<=((q.num.natAbs:Int):Rat):=Kb2.2 Oz;exact this
  show q<=((q.num.natAbs:Int):Rat)
  generalize((q.den:Int):Rat)=B at *
  generalize(q.num:Rat)=A at *
  generalize((q.num.natAbs:Int):Rat)=G at *
  clear h h1;have lI:B≠0:=by grind
  have d5:q*B=A:=by rw[d1,Kbr,Kdl,Kb1 _ lI,Rat.mul_one]
  clear d1;rcases Rat.le_total (a:=q) (b:=0)with h0|h0
  ·grind
  ·have:=Kb7 d2 h0;grind
 have h3:((q.num.natAbs:Nat):Rat)<=((2^(16*n):Nat):Rat):=by
  show((q.num.natAbs:Int):Rat)<=(((2^(16*n):Nat):Int):Rat)
  exact Kb2.2 Oz
 rw[JV];grind
theorem ahS{q b c t:Rat}(hq:q<0)(ht:(cm b+cm c)/cm q+1<=t):t*t*q+t*b+c<0:=by
 have b1:0<=cm b/\b<=cm b:=by unfold cm;split<;>constructor<;>grind
 have g1:0<=cm c/\c<=cm c:=by unfold cm;split<;>constructor<;>grind
 have e1:cm q= -q:=by unfold cm;rw[if_pos hq]
 generalize cm b=B at *
 generalize cm c=G at *
 rw[e1]at ht;have jo:0< -q:=by grind
 have hm:(B+G)/ -q* -q=B+G:=by rw[Kbr,Kdl,Kb1 _ (by grind),Rat.mul_one]
 have lQ:0<=(B+G)/ -q:=by rw[Kbr];exact KbG (by grind) (Rat.le_of_lt (Rat.inv_pos.2 jo))
 generalize(B+G)/ -q=n at *
 have h0:=Kb7 ht (Rat.le_of_lt jo);have h1:t*b<=t*B:=Kb7 b1.2 (by grind);have h2:0<=(t-1)*G:=KbG (by grind) g1.1;have h3:0<=t*(t* -q-(B+G+ -q)):=KbG (by grind) (by grind);have h4:0<=(t-1)* -q:=KbG (by grind) (by grind);have h5:=g1.2;have e5:t*(t* -q-(B+G+ -q))= -(t*t*q)-t*B-t*G-t* -q:=by grind
 have e6:(t-1)*G=t*G-G:=by grind
 have e7:(t-1)* -q=t* -q- -q:=by grind
 rw[e5]at h3;rw[e6]at h2;rw[e7]at h4;clear e5 e6 e7 hm h0 lQ ht;generalize t*t*q=u1 at *
 generalize t*b=u2 at *
 generalize t*B=u3 at *
 generalize t*G=u4 at *
 generalize t* -q=u5 at *
 grind
theorem al2{κ N:Nat}{p:List Tm}(h:QF κ N p){a:Nat}(ha:a<(aO p).length)(hc:dN p a (Qp p).length=0)(k:Nat):
  cj (aF p) (((cc p a).set (Qp p).length (ew k)).map (· /ew k)) (Qp p).length=cj (aF p) ((cc p a).map (· *two k)) (Qp p).length/\
  iy (cj (aF p) ((cc p a).map (· *two k)) (Qp p).length) p=two k*two k*(aO p)[a].1+two k*oR p a+gS p (Qp p).length (Qp p).length:=by
 obtain⟨r1,r2,r3⟩:=gG h;have hl:=JU h ha hc (two k);rw[show aM p-1=(Qp p).length by omega]at hl;refine⟨?_,hl⟩;have key:∀i,i<=(Qp p).length->cj (aF p) (((cc p a).set (Qp p).length (ew k)).map (· /ew k)) i=cj (aF p) ((cc p a).map (· *two k)) i:=fun i=>by
  induction i with
  |zero=>exact fun _=>rfl
  | succ i ih=>
   intro hi;have e:(((cc p a).set (Qp p).length (ew k)).map (· /ew k)).getD i 0=((cc p a).map (· *two k)).getD i 0:=by
    have aV:(cc p a).length=aM p:=by simp[cc]
    rw[Kad,Kad,Kas,Kas,Kc3 Oz,Kag Oz];show(cc p a)[i]/ew k=(cc p a)[i]*two k;have h1:=Dy k;have h2:=TK k;generalize(cc p a)[i]=x at *
    generalize ew k=s at *
    generalize two k=t at *
    grind
   show cj _ _ i++_++[_]=cj _ _ i++_++[_]
   rw[ih Oz,e]
 exact key _ (Kae _)
theorem Ot{κ N:Nat}{p:List Tm}(h:QF κ N p)(hN:N<=56):Qd Tryz.prog 93 [PV.a9 (aM p) (aM p) (eR p (aF p))] (· =qL (aM p) (aO p)):=by obtain⟨r1,r2,r3⟩:=gG h;obtain⟨q1,q2,q3,q4⟩:=qy h;have hs:=h.s;have hk:=h.k;exact OD (kz:=N*128) (bz:=max N 3) (yp p (aF p)) Oz (fun q hq=>Kap (HS h q hq) Oz) (fun i hi k hk=>sr p i hi k Oz) Oz (fun r hr c hc=>by have:=(wH h).bd r hr c hc;show rs (gS p r c)<=_;omega) (fun k hk=>q1 k Oz) Oz Oz
theorem Ug{κ N:Nat}{p:List Tm}(h:QF κ N p)(aV:p.length<=20){x w:List Rat}(hx:∀q∈x,rs q<=1930000)(hN:N<=56)(hw:w=cj (aF p) x (Qp p).length):
  Qd Tryz.prog 26 [PV.aL p,PV.bj w] (· = .aH [PV.rat (iy w p),.int .i64 0])/\rs (iy w p)<2^36:=by
 have hs:=h.s;have hk:=h.k;have Ip:=FR (bs:=aF p) hx Oz (Qp p).length;have rf:=CW (bs:=aF p) (x:=x) (m:=64) (fun b hb=>(l8 b hb).2.1) (Qp p).length;have nO:=Ai h;have hv6:=h.v;have xH:p.length*(κ+1+64*(1+1930000*2))<=20*(57+64*(1+1930000*2)):=KaQ aV Oz;have iX:=UM (p:=p) (vs:=w) (K:=κ+1) (E:=2) (W:=1930000) nO (by rw[hw];exact Ip) Oz Oz Oz Oz (by rw[hw];omega);obtain⟨r1,r2,r3⟩:=gG h;have Fc:=(Dx (x:=x) h.m h.n h.d).2;rw[show(aF p).length-1=(Qp p).length by show aM p-1=_;omega]at Fc;rw[vE,if_neg (by rw[hw,Fc];decide)]at iX;refine⟨iX,?_⟩;have h9:=C8 nO (show ∀q∈w,rs q<=1930000 by rw[hw];exact Ip) Oz p.length (Kae _);rw[Kaz]at h9;omega
theorem al3{κ N:Nat}{p:List Tm}(h:QF κ N p)(hN:N<=56)(aV:p.length<=20){a ty:Nat}(ha:a<(aO p).length)(hw:(aO p)[a].1<0):
  gj Tryz.prog 144 [PV.aL p,.aB 1500001 0 (aM p)] (fun _=>.undef) (Qj aA 1500001 ⟨3,ty,(cc p a).map PV.rat,true⟩) (fun r _ _=>r=if dN p a (Qp p).length=0 then .aH [PV.bj [],.bool false]else .aH [PV.bj (cj (aF p) ((cc p a).map (· /dN p a (Qp p).length)) (Qp p).length),.bool true]):=by
 obtain⟨r1,r2,r3⟩:=gG h;obtain⟨z1,z2,z3⟩:=wI h ha;have hk:=h.k;have hs:=h.s;have qW:(cc p a).length=(Qp p).length+1:=by simp[cc];exact r3
 have gK:∀hm:(Qp p).length<(cc p a).length,(cc p a)[(Qp p).length]=dN p a (Qp p).length:=fun _=>by simp[cc]
 have hr:∀q∈cc p a,rs q<=928896:=fun q hq=>by obtain⟨j,_,rfl⟩:=Kaq.1 hq;have:=z2 j;omega
 have hn:=(TJ h ha hw).1;unfold tC at hn;have hp:=PW (ty:=ty) (p:=p) (y:=cc p a) (kx:=928896) (m:=(Qp p).length) (c:=dN p a (Qp p).length) (v:=iy (cj (aF p) ((cc p a).map (· /dN p a (Qp p).length)) (Qp p).length) p) h.m Oz rfl qW hr Oz gK rfl (fun hc=>Ug h aV (fun q hq=>by obtain⟨x,hx,rfl⟩:=Kaq.1 hq;have h1:=hr x hx;have h2:=z2 (Qp p).length;have h3:=vd (a:=x) hc;show rs (x/dN p a (Qp p).length)<=_;omega) hN rfl);rw[<-r3]at hp;by_cases hc:dN p a (Qp p).length=0
 ·rw[if_pos hc]at hp⊢;exact hp
 ·rw[if_neg hc]at hp hn⊢;rw[show aM p-1=(Qp p).length by omega]at hn;rw[decide_eq_true hn]at hp;exact hp
theorem al4{κ N:Nat}{p:List Tm}(h:QF κ N p)(hN:N<=56)(aV:p.length<=20){a ty:Nat}(ha:a<(aO p).length)(hc:dN p a (Qp p).length=0){k:Nat}(hk:k<=16000000):
  ∃w,gj Tryz.prog 144 [PV.aL p,.aB 1500001 0 (aM p)] (fun _=>.undef) (Qj aA 1500001 ⟨3,ty,((cc p a).set (Qp p).length (ew k)).map PV.rat,true⟩) (fun r _ _=>r= .aH [PV.bj w,.bool (decide (two k*two k*(aO p)[a].1+two k*oR p a+gS p (Qp p).length (Qp p).length<0))]):=by
 obtain⟨r1,r2,r3⟩:=gG h;obtain⟨z1,z2,z3⟩:=wI h ha;have dR:=h.k;have hs:=h.s;have qW:(cc p a).length=(Qp p).length+1:=by simp[cc];exact r3
 have at4:((cc p a).set (Qp p).length (ew k)).length=(Qp p).length+1:=by rw[Kcl];exact qW
 have gK:∀hm:(Qp p).length<((cc p a).set (Qp p).length (ew k)).length,((cc p a).set (Qp p).length (ew k))[(Qp p).length]=ew k:=fun _=>by simp
 have dC:∀q∈cc p a,rs q<=928896:=fun q hq=>by obtain⟨j,_,rfl⟩:=Kaq.1 hq;have:=z2 j;omega
 have bc:=TT k;have htw:=TS k;have hr:∀q∈(cc p a).set (Qp p).length (ew k),rs q<=1000002:=fun q hq=>by
  rcases Kc5 hq with h1|h1
  ·have:=dC q h1;omega
  ·rw[h1];omega
 obtain⟨t1,t2⟩:=al2 h ha hc k;have hp:=PW (ty:=ty) (p:=p) (kx:=1000002) (m:=(Qp p).length) h.m Oz rfl at4 hr Oz gK t1.symm (fun _=>Ug h aV (x:=(cc p a).map (· *two k)) (fun q hq=>by obtain⟨x,hx,rfl⟩:=Kaq.1 hq;have h1:=dC x hx;have h3:=fD x (two k);show rs (x*two k)<=_;omega) hN rfl);rw[<-r3,if_neg (TK k),t2]at hp;exact⟨_,hp⟩
theorem acD{κ N:Nat}{p:List Tm}(h:QF κ N p)(hN:N<=56)(aV:p.length<=20){a:Nat}(ha:a<(aO p).length)(hw:(aO p)[a].1<0)(hb:∀j (hj:j<(aO p).length),j<a->0<=(aO p)[j].1):
  Qd Tryz.prog 79 [PV.aL p,PV.a9 (aM p) (aM p) (eR p (aF p))] (fun r=>∃x:List Rat,r=PV.bj x):=by
 obtain⟨r1,r2,r3⟩:=gG h;obtain⟨q1,q2,q3,q4⟩:=qy h;obtain⟨z1,z2,z3⟩:=wI h ha;have hs:=h.s;have hk:=h.k;have nX:=Ot h hN;have dM:=z1;rw[<-Cr ha]at dM;have IU:=afe (R:=(aO p).length) (m:=aM p) (l:=dj (aM p) (aO p)) (b:=mQ (aO p).length a) (sh _ _) (Ay _ _) Oz Oz Oz (SX fun f hf c hc=>Kap ((q4 f hf).2 c hc) Oz) (fun q hq=>Kap (SW _ _ q hq) Oz) Oz dM (fun r h1 h2=>by rw[Cr ha,LX GO (sr p) (Bm h)]at h2;omega);rw[Cr ha]at IU;have Zv:Qo PV.rat (fI (Qt (aO p).length (bS (Qq (dj (aM p) (aO p)) (aM p)) (fun i=>if i=a then 1 else 0) (aM p)) (aM p)).M (Qt (aO p).length (bS (Qq (dj (aM p) (aO p)) (aM p)) (fun i=>if i=a then 1 else 0) (aM p)) (aM p)).ak (aM p) (Qt (aO p).length (bS (Qq (dj (aM p) (aO p)) (aM p)) (fun i=>if i=a then 1 else 0) (aM p)) (aM p)).ak.length) (aM p)=(cc p a).map PV.rat:=pe _ _;rw[Zv]at IU;clear Zv dM z1;have qW:(cc p a).length=aM p:=by simp[cc]
 have xx:((aO p).map (·.1)).length=(aO p).length:=Kal _;have Ip:∀i (hi:i<(aO p).length),Qd Tryz.prog 27 [PV.rat ((aO p)[i].1)] (· = .int .i64 (fc (aO p)[i].1)):=fun i hi=>o7 (by have:=(q4 _ (Kah hi)).1;omega);have xw:∀i (hi:i<(aO p).length) (dZ:i<((aO p).map (·.1)).length),((aO p).map (·.1))[i]=(aO p)[i].1:=fun i hi dZ=>Ka8 ..;have eu:∀i (hi:i<(aO p).length),i<a->¬fc (aO p)[i].1<0:=fun i hi vP h2=>by have:=hb i hi vP;have:=rB.1 h2;grind
 have cS:fc (aO p)[a].1<0:=rB.2 hw;have MR:=qn (x:=0) Oz Oz;have Im:=qn (x:=1) Oz Oz;rw[show((0:Int):Rat)=0 from rfl]at MR;rw[show((1:Int):Rat)=1 from rfl]at Im;have Xg:=UJ (x:=1) (y:=2) Oz Oz Oz;rw[show((1:Int):Rat)/((2:Int):Rat)=1/2 from rfl]at Xg;obtain⟨n,hn⟩:∃n,(aO p).length=n:=⟨_,rfl⟩
 unfold qL at nX;rw[hn]at nX IU xx;refine o8 Qg Tryz.func79 rfl aoC Nz fun C hP=>?_;simp only[WT];refine fw ?_;refine Sz0 ?_;refine Qb hP nX ?_;refine Sz1 @xx ?_;refine Qi okB [(9,10),(27,50)] [] (fun q J hp=>∃i xs,q=n-i/\i<=n/\J 9= .bool (decide (a<i))/\J 10= .int .i64 (i:Nat)/\xs.length=n/\hp 6=some ⟨3,24,[PV.a9 n (aM p) (dj (aM p) (aO p))],false⟩/\hp 26=some ⟨3,51,xs,false⟩/\hp 2000000=none/\∀j,j<i->xs[j]? =some (PV.rat (if j=a then 1 else 0))) n ?_ ?_
 ·refine⟨0,List.replicate n (.agg [.bool false,.au,.au]),rfl,by omega,?_⟩;refine Sz0 ?_;exact⟨by rw[decide_eq_false Oz],rfl,by simp,fun j hj=>by omega⟩
 rintro _ J g ⟨i,xs,rfl,hi,j9,eI,ee,b6,Br,bN,ni⟩;refine Sz2 eI @xx ?_;refine Qa (fun hg=>?_) (fun hg=>?_)
 ·have al:i<n:=by omega
  have dZ:i<(aO p).length:=by omega
  have uB:=xw i dZ Oz;have IT:=Ip i dZ;have gL:=eu i dZ;have kU:i=a->fc (aO p)[i].1<0:=fun e=>by subst e;exact cS
  have bG:∀j,j<i+1->i≠a->(xs.set i (PV.rat 0))[j]? =some (PV.rat (if j=a then 1 else 0)):=fun j hj aJ=>by
   rw[Kcs];by_cases e:i=j
   ·rw[if_pos e,if_pos Oz,if_neg Oz]
   ·rw[if_neg e];exact ni j Oz
  have iv:∀j,j<i+1->i=a->((xs.set i (PV.rat 0)).set i (PV.rat 1))[j]? =some (PV.rat (if j=a then 1 else 0)):=fun j hj he=>by
   rw[Kcs];by_cases e:i=j
   ·rw[if_pos e,if_pos (by rw[Kcl];omega),if_pos Oz]
   ·rw[if_neg e,Kc3 e];exact ni j Oz
  generalize(aO p)[i].1=wi at *
  generalize fc wi=sg at *
  generalize(0:Rat)=o0 at MR bG iv⊢;generalize(1:Rat)=o1 at Im bG iv⊢;refine Sz1 eI ?_;refine Qb hP MR ?_;refine Sz2 eI Br ?_;rw[qp (n:=3) (xs:=xs) (v:=PV.rat o0) Oz rfl rfl];refine Sz4 eI b6 uB @xx ?_;refine Qb hP IT ?_;refine Sz2 j9 eI ?_;have nQ:i≠a->decide (a<i)=decide (a<i+1):=fun aJ=>decide_eq_decide.2 Oz;have N3:(xs.set i (PV.rat o0)).length=n:=by rw[Kcl];exact ee
  have auG:((xs.set i (PV.rat o0)).set i (PV.rat o1)).length=n:=by rw[Kcl];exact N3
  refine fN (fun hn=>?_) (fun hn=>?_)
  ·by_cases vP:i=a
   ·have hd:decide (a<i)=false:=decide_eq_false Oz;have IB:decide (a<i+1)=true:=decide_eq_true Oz;have iv:=fun j hj=>iv j hj vP;refine Sz2 j9 hd ?_;refine Qb hP Im ?_;refine Sz2 eI Br ?_;rw[qp (n:=3) (xs:=xs.set i (PV.rat o0)) (v:=PV.rat o1) Oz rfl rfl];refine Sz1 eI ?_;refine Qf (n-(i+1)) Oz ⟨i+1,(xs.set i (PV.rat o0)).set i (PV.rat o1),rfl,by omega,?_⟩;refine Sz3 b6 @bN IB ?_;exact⟨auG,iv⟩
   ·have hd:decide (a<i)=true:=decide_eq_true (by
     rcases Kcz i a with h1|h1
     ·exact absurd hn (gL h1)
     ·omega)
    have IB:decide (a<i+1)=true:=decide_eq_true Oz;have bG:=fun j hj=>bG j hj vP;refine Sz3 j9 eI hd ?_;refine Qf (n-(i+1)) Oz ⟨i+1,xs.set i (PV.rat o0),rfl,by omega,?_⟩;refine Sz5 b6 @bN IB j9 hd ?_;exact⟨N3,bG⟩
  ·have vP:i≠a:=fun e=>hn (kU e);have bG:=fun j hj=>bG j hj vP;have hd:=nQ vP;refine Sz2 j9 eI ?_;refine Qf (n-(i+1)) Oz ⟨i+1,xs.set i (PV.rat o0),rfl,by omega,?_⟩;refine Sz4 b6 @bN j9 hd ?_;exact⟨N3,bG⟩
 ·have tf:n=i:=by omega
  subst tf;have I1:xs=(mQ n a).map PV.rat:=by
   refine List.ext_getElem? fun j=>?_;by_cases hj:j<n
   ·rw[ni j hj,Kas,mQ,Kas,Kb8 hj];rfl
   ·rw[Kcj Oz,Kcj (by rw[Kal,Ay];omega)]
  subst I1;refine Sz2 b6 Br ?_;refine di (JD 53 (pG Br)) ?_;refine mm Br b6 ?_;rw[Kac (by rw[Kal,Ay];omega)];refine ak8 hP IU (Uz3 Br b6 @bN) (by simp) (by simp[PV.refs,PV.aQ]) (by simp) ?_;refine Sz0 ?_;refine Qb hP Im ?_;refine Sz0 ?_;have rW:((aM p:Nat):Int)-1=(((Qp p).length:Nat):Int):=by omega
  have Io:=al3 (ty:=51) h hN aV ha hw;have MS:dN p a (Qp p).length=0->∀k,k<=16000000->_:=fun hc k hk=>al4 (ty:=51) h hN aV ha hc hk;have lN:∀k,k<=16000000->¬(two k*two k*(aO p)[a].1+two k*oR p a+gS p (Qp p).length (Qp p).length<0)->k<16000000:=fun k hk hn=>by
   rcases Kcz k 16000000 with h1|h1
   ·exact h1
   ·have:k=16*1000000:=by omega
    subst this;exact absurd (ahS hw (al1 (Og h hN ha hw))) hn
  have bc:∀k,ew k*(1/2)=ew (k+1):=fun k=>rfl;have kE:∀k,k<=16000000->rs (ew k)<=1000002:=fun k hk=>by have:=TT k;omega
  have Xq:∀hm:(Qp p).length<(cc p a).length,(cc p a)[(Qp p).length]=dN p a (Qp p).length:=fun _=>by simp[cc]
  have rO:aM p=(Qp p).length+1:=r3;generalize(Qp p).length=m at *
  generalize bG:cc p a=x0 at *
  generalize pJ:dN p a m=c at *
  generalize hR:aM p=R at *
  have lP:=fun(K:Qh) (fr:Fr) (hp:HP) (ty:Nat) (fz:Bool) (i d:Nat) (L:List Rat) (h:i<L.length)=>RR (K:=K) (fr:=fr) (hp:=hp) (ty:=ty) (fz:=fz) (d:=d) (L:=L) h;subst rO;refine Qi okB [(4,4),(14,17),(58,102)] [] (fun q J hp=>∃k,q=16000000-k/\k<=16000000/\hp 13=some ⟨3,51,[PV.rat (ew k)],false⟩/\hp 2000000=some ⟨3,51,x0.map PV.rat,false⟩) 16000000 ?_ ?_
  ·refine⟨0,rfl,by omega,?_⟩;refine Sz0 ?_;rfl
  rintro _ J2 g2 ⟨k,rfl,hk,sU,bX⟩;refine Sz2 sU @bX ?_;by_cases hc:c=0
  ·rw[if_pos hc]at Io;refine HL hP (hb1:=⟨3,51,x0.map PV.rat,false⟩) Io ⟨⟨rfl,rfl⟩,fun σ=>rfl⟩ (Tz1 @bX) (γ1:=2000000) Tz0 (fun γ aj=>by simpa[PV.refs,PV.aQ]using aj) (by simp) ?_;obtain⟨w1,MS⟩:=MS hc k hk;have kE:=kE k hk;have lN:=lN k hk;have bc:=bc k;have fg:=G' (a:=0) (b:=ew k) (k:=1000002) (by have:=sN;omega) kE Oz;have BT:=RD (a:=ew k) (b:=ew k) (k:=1000002) kE kE Oz;have hhf:rs (1/2:Rat)<=2:=by decide+kernel
   have hmul:=wF (a:=ew k) (b:=1/2) (k:=1000002) kE Oz Oz;rw[bc]at hmul;rw[Rat.zero_add]at fg;rw[Rat.sub_self]at BT;have ZG:=Xq;have N2:=Xq Oz;rw[hc]at ZG N2;have auE:∀hm:m<(x0.set m (ew k)).length,(x0.set m (ew k))[m]=ew k:=fun _=>by simp
   have xC:(x0.map PV.rat).set m (PV.rat (ew k))=(x0.set m (ew k)).map PV.rat:=List.map_set.symm;have ID:((x0.set m (ew k)).map PV.rat).set m (PV.rat 0)=x0.map PV.rat:=by rw[<-List.map_set,List.set_set,<-N2,List.set_getElem_self]
   have vQ:(x0.set m (ew k)).length=m+1:=by rw[Kcl];exact qW
   clear N2;generalize x0.set m (ew k)=x1 at *
   have avW:(x0.map PV.rat).length=m+1:=by rw[Kal];exact qW
   have avX:(x1.map PV.rat).length=m+1:=by rw[Kal];exact vQ
   generalize eu:ew (k+1)=s1 at *
   generalize two k*two k*(aO p)[a].1+two k*oR p a+gS p m m=v at *
   generalize ew k=s at *
   generalize(1/2:Rat)=hf at *
   generalize(0:Rat)=o at *
   refine Sz5 rW lP @bX @ZG sU ?_;refine Qb hP fg ?_;refine Sz2 @bX sU ?_;rw[qp (n:=3) (xs:=x0.map PV.rat) (v:=PV.rat s) Oz rfl rfl,xC];refine Sz2 @bX sU ?_;refine HL hP (hb1:=⟨3,51,x1.map PV.rat,false⟩) MS ⟨⟨rfl,rfl⟩,fun σ=>rfl⟩ (Tz1 @bX) (γ1:=2000000) Tz0 (fun γ aj=>by simpa[PV.refs,PV.aQ]using aj) (by simp) ?_;refine Sz2 @bX sU ?_;refine Qa (fun hg=>?_) (fun hg=>?_)
   ·refine Sz0 ?_;refine qt (cr ?_);refine Sz0 ?_;exact⟨rfl,_,Ql _,_,rfl⟩
   ·refine Sz5 rW lP @bX @auE sU ?_;refine Qb hP BT ?_;refine Sz2 @bX sU ?_;rw[qp (n:=3) (xs:=x1.map PV.rat) (v:=PV.rat o) Oz rfl rfl,ID];refine Sz2 @bX sU ?_;refine Qb hP Xg ?_;refine Sz2 @bX sU ?_;refine Qb hP hmul ?_;refine Sz2 @bX sU ?_;have bI:=lN hg;refine Qf (16000000-(k+1)) Oz ⟨k+1,rfl,by omega,?_⟩;rw[eu];exact Tz2 @bX sU
  ·rw[if_neg hc]at Io;refine HL hP (hb1:=⟨3,51,x0.map PV.rat,false⟩) Io ⟨⟨rfl,rfl⟩,fun σ=>rfl⟩ (Tz1 @bX) (γ1:=2000000) Tz0 (fun γ aj=>by simpa[PV.refs,PV.aQ]using aj) (by simp) ?_;refine Sz0 ?_;refine qt (cr ?_);refine Sz0 ?_;exact⟨rfl,_,Ql _,_,rfl⟩
theorem Gy{p:List Tm}{K E:Nat}(hb:PB K E p)(hv:qi p)(hK:K<2^36)(hl:p.length<2^40):Qd Tryz.prog 19 [PV.aL p] (· = .bool true):=by
 have h:=KN (l:=p.map eM) (k:=max K 1) (fun t ht=>by obtain⟨s,hs,rfl⟩:=Kaq.1 ht;have:=(hb s hs).c;exact yH Oz (by have:=(hb s hs).m.len;omega)) Oz Oz (by rw[Kal];exact hl)
 rwa[yu,C7 hv]at h
def c23:ay:=⟨35,[.t 2,.t 3,.t 4],Zr (Yf 2<|
 eV 3 0)<| .seq (Zr (Zm 9 0<|
 Zq 10 false 19 [.t 9]<|
 Zu 11 10 .nil)<| .cond (.t 11) (Zr (Yf 2<|
 eV 3 1) .ret) .skip)<| .seq (Zr (YD 12 0 76<|
 Zk 14 .gtr 13 2 .nil)<| .cond (.t 14) (Zr (Yf 2<|
 eV 3 8) .ret) .skip)<|Zr (YD 15 0 77<|
 Zm 5 16 .nil)<| .seq (Zr (Yp 17 5<|
 Zk 19 .gtr 18 40 .nil)<| .cond (.t 19) (Zr (Yf 2<|
 eV 3 4) .ret) .skip)<|Zr (YK 20 0 5 78<|
 YL 6<|
 Zs 3 6 22 .nil)<|Zr (ku 24 5 6<|
 Zq 26 false 30 [.t 24,.t 25]<|
 gy 23<|
 dp 7 27 28)<| .seq (Zr (Zm 29 8<|
 jj 30 29 0)<| .cond (.t 30) (Zr (Zm 31 7<|
 Zm 2 31<|
 eV 3 0) .ret) .skip)<|Zr (ku 32 0 6<|
 Yn 34 79 32 33<|
 Yf 2<|
 Zm 3 34<|
 Yj 4 17) .ret⟩
theorem DJ:Qe Tryz.prog Tryz.f23=some c23:=by kernel_rfl
theorem ahT{κ N:Nat}{p:List Tm}(h:QF κ N p)(hN:N<=131072):Qd Tryz.prog 92 [PV.fK (aF p),PV.a9 (aM p) (aM p) (eR p (aF p))] (· = .int .i64 0):=by obtain⟨r1,r2,r3⟩:=gG h;have hlen:(eR p (aF p)).length=aM p*aM p:=yp p (aF p);have jm:aM p*aM p<=7*7:=KaQ r2 r2;have BO:ny ((eR p (aF p)).map qR):=Ho (k:=131072) Oz Oz fun q hq=>Kap (HS h q hq) hN;have c1:=ahp (bs:=aF p) (r:=aM p) (c:=aM p) (by show aM p<_;omega) (fun b hb=>by have:=(l8 b hb).2.1;omega) BO;rw[Uf h,<-sB]at c1;exact c1
theorem UN{κ N:Nat}{p:List Tm}(h:QF κ N p)(hN:N<=56):Qd Tryz.prog 30 [PV.fK (aF p),PV.a9 (aM p) (aM p) (eR p (aF p))] (· =jW (aF p) (aO p)):=
 Q0q (Ki h Oz) (ahT h Oz) (Ot h hN)
theorem Q9g{κ N:Nat}{p:List Tm}(h:QF κ N p)(hN:N<=56)(aV:p.length<=20)(hw:sJ (aO p)=true):
  Qd Tryz.prog 23 [PV.aL p] (· = .aH [PV.cY ((aO p).map (dq (aF p))),PV.bj [],.int .i64 0]):=by
 obtain⟨r1,r2,r3⟩:=gG h;have hs:=h.s;have hk:=h.k;have hb:=Ai h;have hr:=Gy hb (h.n.Fw hb Oz) Oz Oz;have vM:=Gc hb Oz Oz;have rQ:=LZ h.m (show p.length<=2^36 by omega);have EF:=OG (bs:=aF p) (F:=1) hb h.n (fun b h=>(l8 b h).1) (fun b h=>(l8 b h).2.2) Oz Oz Oz (by show aM p<=_;omega) Oz Oz;have hF:=UN h hN;unfold jW aM at hF;rw[if_pos (show((aO p).all fun f=>decide (0<=f.1))=true from hw)]at hF;have hd:=h.d;have m7:(aF p).length<=40:=by show aM p<=_;omega
 generalize aF p=bs at *
 generalize eR p bs=la at *
 generalize(aO p).map (dq bs)=L at *
 refine aE Qg Tryz.func23 DJ fun C hP=>?_;refine Sz0 ?_;refine Qb hP hr ?_;refine Sz0 ?_;refine Qb hP vM ?_;refine Sz0 ?_;refine Qa (fun h0=>absurd h0 Oz) (fun _=>?_);refine Sz0 ?_;refine Qb hP rQ ?_;refine Sz0 ?_;refine Qa (fun h0=>absurd h0 Oz) (fun _=>?_);refine Sz0 ?_;refine Qb hP EF ?_;refine Sz0 ?_;refine Qb hP hF ?_;refine Sz0 ?_;exact jy (r:=.aH [PV.cY L,PV.bj [],.int .i64 0]) rfl rfl rfl rfl (Ql _) trivial (Ql _)
theorem Q9h{κ N:Nat}{p:List Tm}(h:QF κ N p)(hN:N<=56)(aV:p.length<=20)(hw:sJ (aO p)=false):
  Qd Tryz.prog 23 [PV.aL p] (fun r=>∃x:List Rat,r= .aH [PV.cY [],PV.bj x,.int .i64 17]):=by
 obtain⟨r1,r2,r3⟩:=gG h;obtain⟨a,ha,g1,g2⟩:=Ob hw;have zT:=acD h hN aV ha g1 g2;unfold aM at zT;have hs:=h.s;have hk:=h.k;have hb:=Ai h;have hr:=Gy hb (h.n.Fw hb Oz) Oz Oz;have vM:=Gc hb Oz Oz;have rQ:=LZ h.m (show p.length<=2^36 by omega);have EF:=OG (bs:=aF p) (F:=1) hb h.n (fun b h=>(l8 b h).1) (fun b h=>(l8 b h).2.2) Oz Oz Oz (by show aM p<=_;omega) Oz Oz;have hF:=UN h hN;unfold jW aM at hF;have pZ:¬((aO p).all fun f=>decide (0<=f.1))=true:=by unfold sJ at hw;rw[hw];decide
 rw[if_neg pZ]at hF;have hd:=h.d;have m7:(aF p).length<=40:=by show aM p<=_;omega
 generalize aF p=bs at *
 generalize eR p bs=la at *
 refine aE Qg Tryz.func23 DJ fun C hP=>?_;refine Sz0 ?_;refine Qb hP hr ?_;refine Sz0 ?_;refine Qb hP vM ?_;refine Sz0 ?_;refine Qa (fun h0=>absurd h0 Oz) (fun _=>?_);refine Sz0 ?_;refine Qb hP rQ ?_;refine Sz0 ?_;refine Qa (fun h0=>absurd h0 Oz) (fun _=>?_);refine Sz0 ?_;refine Qb hP EF ?_;refine Sz0 ?_;refine Qb hP hF ?_;refine Sz0 ?_;refine nu hP zT rfl rfl rfl ?_;rintro _ ⟨x,rfl⟩;refine Sz0 ?_;exact⟨⟨rfl,rfl,rfl⟩,.aH [PV.cY [],PV.bj x,.int .i64 17],⟨tL,Ql _,Ql _,trivial⟩,x,rfl⟩
theorem Q5g{p:List Tm}{K E:Nat}(hb:PB K E p)(hv:qi p)(hK:K<2^36)(hE:E<=2^38)(hl:p.length<=2^36)(hd:¬jz p<=2):Qd Tryz.prog 23 [PV.aL p] (· = .aH [PV.cY [],PV.bj [],.int .i64 8]):=by have hr:=Gy hb hv hK Oz;have vM:=Gc hb hE hl;refine aE Qg Tryz.func23 DJ fun C hP=>?_;refine Sz0 ?_;refine Qb hP hr ?_;refine Sz0 ?_;refine Qb hP vM ?_;refine Sz0 ?_;refine Qa (fun h0=>?_) (fun h0=>absurd h0 Oz);refine Sz0 ?_;exact jy (r:=.aH [PV.cY [],PV.bj [],.int .i64 8]) rfl rfl rfl rfl tL trivial (Ql _)
theorem ahU{p:List aP}{k:Nat}(hb:∀t∈p,RB k t)(dR:1<=k)(hk:k<2^36)(hl:p.length<2^40)(h:dz p=false):
  Qd Tryz.prog 22 [PV.jI p] (· = .aH [PV.cY [],PV.bj [],.int .i64 1])/\Qd Tryz.prog 23 [PV.jI p] (· = .aH [PV.cY [],PV.bj [],.int .i64 1]):=by
 have h1:=Cp hb dR hk hl;have h2:=KN hb dR hk hl;rw[h]at h1 h2;constructor
 ·refine aE Qg Tryz.func22 FN fun C hP=>?_;refine Sz0 ?_;refine Qb hP h1 ?_;refine Sz0 ?_;exact jy (r:=.aH [PV.cY [],PV.bj [],.int .i64 1]) rfl rfl rfl rfl tL trivial (Ql _)
 ·refine aE Qg Tryz.func23 DJ fun C hP=>?_;refine Sz0 ?_;refine Qb hP h2 ?_;refine Sz0 ?_;exact jy (r:=.aH [PV.cY [],PV.bj [],.int .i64 1]) rfl rfl rfl rfl tL trivial (Ql _)
theorem afK{p:List Tm}{K E:Nat}(hb:PB K E p)(hv:qi p)(hK:K<2^36)(hE:E<=2^38)(hl:p.length<=2^36)(hd:jz p<=2)(hn:40<(aF p).length):
  Qd Tryz.prog 22 [PV.aL p] (· = .aH [PV.cY [],PV.bj [],.int .i64 4])/\Qd Tryz.prog 23 [PV.aL p] (· = .aH [PV.cY [],PV.bj [],.int .i64 4]):=by
 have h1:=GL hb hv hK Oz;have h2:=Gy hb hv hK Oz;have d1:=KE hb hE hl;have d2:=Gc hb hE hl;have b1:=RJ (fun t ht=>(hb t ht).m) hl;have b2:=LZ (fun t ht=>(hb t ht).m) hl;generalize aF p=bs at *
 constructor
 ·refine aE Qg Tryz.func22 FN fun C hP=>?_;refine Sz0 ?_;refine Qb hP h1 ?_;refine Sz0 ?_;refine Qb hP d1 ?_;refine Sz0 ?_;refine Qa (fun h0=>absurd h0 Oz) (fun _=>?_);refine Sz0 ?_;refine Qb hP b1 ?_;refine Sz0 ?_;refine Qa (fun _=>?_) (fun h0=>absurd h0 Oz);refine Sz0 ?_;exact jy (r:=.aH [PV.cY [],PV.bj [],.int .i64 4]) rfl rfl rfl rfl tL trivial (Ql _)
 ·refine aE Qg Tryz.func23 DJ fun C hP=>?_;refine Sz0 ?_;refine Qb hP h2 ?_;refine Sz0 ?_;refine Qb hP d2 ?_;refine Sz0 ?_;refine Qa (fun h0=>absurd h0 Oz) (fun _=>?_);refine Sz0 ?_;refine Qb hP b2 ?_;refine Sz0 ?_;refine Qa (fun _=>?_) (fun h0=>absurd h0 Oz);refine Sz0 ?_;exact jy (r:=.aH [PV.cY [],PV.bj [],.int .i64 4]) rfl rfl rfl rfl tL trivial (Ql _)
theorem LA{a:Rat}{k:Nat}(ha:rs a<=k)(hk:k<2^36):Qd Tryz.prog 25 [PV.rat a] (· = .bool true):=by have h:=KC (fO ha) hk;rw[show lB (decide (a.num<0)) (ao a.num.natAbs) (ao a.den)=true from AK a]at h;exact h
theorem aoF{κ N:Nat}{p:List Tm}(h:QF κ N p)(hN:N<=56):∀x∈(aO p).map (dq (aF p)),Mu x:=fun x hx=>by
 obtain⟨r1,r2,r3⟩:=gG h;obtain⟨q1,q2,q3,q4⟩:=qy h;have hF:=Ki h Oz;have hs:=h.s;have hk:=h.k;obtain⟨f,hf,rfl⟩:=Kaq.1 hx;have hb2:=OE (L:=eQ (aF p) f) (k:=N*128) fun t ht=>(hF.t hf t ht).1;have nR:=uM (aF p) f;have atr:(eQ (aF p) f).length<=7:=by rw[nR];exact r2
 have:(eQ (aF p) f).length*(N*128+1)<=7*(N*128+1):=Kaj _ atr;exact⟨by have:=(q4 f hf).1;show rs f.1<=_;omega,hb2.1.mono Oz Oz,by show(mh (eQ (aF p) f)).length<=1000;omega⟩
structure abI(p:List aP)(L:List Sq)(w:List Rat)(e:Int):Prop where
 a:Qd Tryz.prog 22 [PV.jI p] (· = .aH [PV.cY L,PV.bj w,.int .i64 e])
 b:Qd Tryz.prog 23 [PV.jI p] (fun r=>∃x:List Rat,r= .aH [PV.cY L,PV.bj x,.int .i64 e])
 l:∀x∈L,Mu x
 n:L.length<=200
 w0:e≠17->w=[]
 k:e=17->dz p=true/\(Qp (p.map aP.tm)).length<=6
 w1:e=17->∃v:Rat,Qd Tryz.prog 26 [PV.jI p,PV.bj w] (· = .aH [PV.rat v,.int .i64 0])/\v<0/\rs v<2^36/\(∀q∈w,rs q<=2000000)/\w.length<=70/\
  (∀i (hi:i<(Qp (p.map aP.tm)).length),(Qp (p.map aP.tm)).length=i+1->w.length=(Qp (p.map aP.tm))[i]+1)/\((Qp (p.map aP.tm)).length=0->w.length=0)/\
  Qd Tryz.prog 20 [PV.jI p] (· =PV.mono ((Qp (p.map aP.tm)).map fun(v:Nat)=>(v:Int)))
theorem FH{p:List aP}{L:List Sq}{e:Int}(h:Qd Tryz.prog 23 [PV.jI p] (· = .aH [PV.cY L,PV.bj [],.int .i64 e])):Qd Tryz.prog 23 [PV.jI p] (fun r=>∃x:List Rat,r= .aH [PV.cY L,PV.bj x,.int .i64 e]):=
 h.mono fun r h=>⟨[],h⟩
theorem Ms{p:List aP}{k:Nat}(hb:∀t∈p,RB k t)(dR:1<=k)(hk:k<2^36)(hl:p.length<2^40)(aw:sD p=true)(jd:dz p=true->(Qp (p.map aP.tm)).length<=6∨40<=(Qp (p.map aP.tm)).length):
  ∃(L:List Sq)(w:List Rat)(e:Int),abI p L w e:=by
 cases bR:dz p
 ·obtain⟨h1,h2⟩:=ahU hb dR hk hl bR;exact⟨[],[],1,h1,FH h2,by simp,by simp,fun _=>rfl,fun e=>(by cases e),fun e=>by cases e⟩
 obtain⟨e1,e2⟩:=GY hb bR;obtain⟨b1,b2⟩:=RC hb aw bR;have aV:(p.map aP.tm).length<=20:=by simp only[sD,KaC,decide_eq_true_eq]at aw;rw[Kal];exact aw.1
 replace jd:=jd bR;have Bz:=Gg (fun t ht=>(b1 t ht).m) (show(p.map aP.tm).length<=2^36 by omega);rw[Cq,<-e1]at Bz;by_cases hd:jz (p.map aP.tm)<=2
 ·rcases jd with hv|hv
  ·have hQ:QF 2 46 (p.map aP.tm):=⟨fun t ht=>by have:=(b1 t ht).c;omega,by omega,aoB (fun t ht=>(b1 t ht).m) b2 hd,b2,hd,hv,by omega⟩
   have r2:=gG hQ;have Ef:=(qy hQ).2.1;cases hw:sJ (aO (p.map aP.tm))
   ·obtain⟨w,w1,w2,w3,w4,w5,x,hx⟩:=adt hQ Oz aV hw;have g:=Q9h hQ Oz aV hw;rw[<-e1]at w1 g;have nO:=Ai hQ;have xH:(p.map aP.tm).length*(3+64*(1+2000000*2))<=20*(3+64*(1+2000000*2)):=Kaj _ aV;have iX:=UM (p:=p.map aP.tm) (vs:=w) (K:=3) (E:=2) (W:=2000000) nO w4 Oz Oz Oz Oz Oz;rw[vE,if_neg (by rw[w2];decide),<-e1]at iX;have h9:=C8 nO w4 Oz (p.map aP.tm).length (Kae _);rw[Kaz]at h9;obtain⟨s1,s2,_⟩:=FQ (p:=p.map aP.tm) (x:=x) _ (Kae _);rw[show aM (p.map aP.tm)-1=(Qp (p.map aP.tm)).length by omega]at hx;rw[<-hx]at s1 s2;refine⟨[],w,17,w1,g,by simp,by simp,fun h=>absurd rfl h,fun _=>⟨bR,hv⟩,fun _=>⟨iy w (p.map aP.tm),iX,w3,by omega,w4,w5,fun i hi he=>?_,s2,Bz⟩⟩;obtain⟨h2,h3⟩:=s1 Oz;have e9:(Qp (p.map aP.tm)).length-1=i:=by omega
    simp only[e9]at h3;exact h3
   ·obtain⟨w1,_⟩:=afg hQ Oz hw;have g:=Q9g hQ Oz aV hw;rw[<-e1]at w1 g;exact⟨_,[],0,w1,FH g,aoF hQ Oz,by rw[Kal];omega,fun _=>rfl,fun e=>(by cases e),fun e=>by cases e⟩
  ·obtain⟨h1,h2⟩:=afK b1 e2 Oz Oz Oz hd (by rw[alr];omega);rw[<-e1]at h1 h2;exact⟨[],[],4,h1,FH h2,by simp,by simp,fun _=>rfl,fun e=>(by cases e),fun e=>by cases e⟩
 ·have h1:=acC b1 e2 Oz Oz Oz hd;have h2:=Q5g b1 e2 Oz Oz Oz hd;rw[<-e1]at h1 h2;exact⟨[],[],8,h1,FH h2,by simp,by simp,fun _=>rfl,fun e=>(by cases e),fun e=>by cases e⟩
def c4:ay:=⟨109,[.t 2],Zr (Yh 2)<| .seq (Zr (Zm 14 0<|
 Zq 15 false 18 [.t 14]<|
 Zu 16 15<|
 Yw 17 16 0<|
 Zg 17 false (.call (some 19) false (.c (.fn 19 [] [])) [.t 18])<|
 Zg 17 false (.mv 20 (.t 19))<|
 Zg 20 true (.mv 21 (.t 0))<|
 Zg 20 true (.call (some 22) false (.c (.fn 20 [] [])) [.t 21])<|
 Zg 20 true (.len 23 (.t 22))<|
 Zg 20 true (.bin 24 .gtr false (.t 23) (.c (Zz 6)))<|
 Zg 17 false (.pick 25 (.t 20) (.t 24) (.c (.bool false)))<|
 Zg 17 false (.mv 26 (.t 25))<|
 Zg 26 true (.mv 27 (.t 0))<|
 xg 26 20<|
 Zg 26 true (.len 29 (.t 28))<|
 Zg 26 true (.bin 30 .lss false (.t 29) (.c (Zz 40)))<|
 Zg 17 false (.pick 31 (.t 26) (.t 30) (.c (.bool false)))<|
 fQ 32 17 31)<| .cond (.t 32) (Zr (Zq 33 false 21 []<|
 Ye 2 33) .ret) .skip)<|Zr (YD 35 0 22<|
 Zm 34 36<|
 xh 37 34 3 5)<|Zr (YD 41 0 23<|
 Zm 40 42<|
 xh 43 40 6 8)<| .seq (Zr (Ya 46 5 8<|
 Zb 48 .neq 46 47<|
 qM 49 48 3 6<|
 Bn 49 24)<| .cond (.t 54) (Zr (Yh 2) .ret) .skip)<| .seq (Zr (Zm 55 5<|
 Zk 56 .neq 55 17 .nil)<| .cond (.t 56) (Zr (Yp 57 4<|
 Zk 59 .eql 58 0<|
 yY 60 59 2) .ret) .skip)<|Zr (Yj 9 0)<| .seq (Zr (YD 63 0 20<|
 Ye 10 64)<|Zr (Yp 65 10<|
 Zk 67 .gtr 66 0 .nil)<| .cond (.t 67) (.rg (sQ 68 10<|
 YM 72 68 71<|
 Yu 74 73 9)) .skip)<| .seq (Zr (Yj 11 0)<| .block 0<| .loop<| .seq (Zr (Yo 75 11 4)<| .cond (.t 78) .skip (.exit 0))<| .seq (.block 1<|Zr (iB 81 4 11 3<|
 Yl 85 25 84<|
 Zu 86 85 .nil)<| .cond (.t 86) (Zr (Yh 2) .ret) .skip)<| .rg (YX 79 11 11))<|Zr (YK 88 0 4 26<|
 gy 87<|
 fu 12 91<|
 Ye 13 92)<|Zr (Yp 93 4<|
 Zm 95 9<|
 Zb 96 .eql 94 95<|
 YN 97 96 13<|
 Zg 97 true (.bin 99 .eql false (.t 98) (.c (Zz 0)))<|
 Yq 100 97 99<|
 Zm 101 100<|
 Zg 101 true (.ld 102 3 true (.t 12))<|
 xg 101 27<|
 Zg 101 true (.bin 104 .lss false (.t 103) (.c (Zz 0)))<|
 Yq 105 101 104<|
 yY 106 105 2) .ret⟩
theorem abN:Qe Tryz.prog Tryz.f4=some c4:=by kernel_rfl
theorem Qqr{p:List aP}{k:Nat}(hp:∀t∈p,RB k t)(aV:p.length<2^40)(dR:1<=k)(hk:k<2^36):Qd Tryz.prog 4 [PV.jI p] (· = .bool true):=by
 have hl:=aeS hp dR hk aV;have hr:=KN hp dR hk aV;refine aE Qg Tryz.func4 abN fun C hP=>?_;refine Sz0 ?_;refine Qb hP hl ?_;cases aw:sD p
 ·refine Sz0 ?_;refine Qb hP wG ?_;refine Sz0 ?_;exact Qc rfl rfl
 refine Sz0 ?_;refine Qb hP hr ?_;cases bR:dz p
 ·have hA:=Ms hp dR hk aV aw (fun h=>by rw[bR]at h;cases h);have aJ:¬(dz p=true/\(Qp (p.map aP.tm)).length<=6):=fun h=>by rw[bR]at h;cases h.1
  obtain⟨L,w,e,q⟩:=hA;have qa:=q.a;have qb:=q.b;have je:=Ku q.l q.n;have q0:=q.w0;have q2:=q.k;clear q;refine Sz0 ?_;refine Qb hP qa ?_;refine Sz0 ?_;refine nu hP qb rfl rfl rfl ?_;rintro _ ⟨x,rfl⟩;refine Sz0 ?_;refine Qb hP je ?_;have he:e≠17:=fun h=>aJ (q2 h);have hw:=q0 he;subst hw;have lL:decide (¬e=17)=true:=decide_eq_true he;refine Sz1 lL ?_;refine Qb hP wG ?_;refine Sz0 ?_;exact Qc rfl rfl
 obtain⟨e1,e2⟩:=GY hp bR;obtain⟨b1,b2⟩:=RC hp aw bR;have awb:(p.map aP.tm).length<=20:=by simp only[sD,KaC,decide_eq_true_eq]at aw;rw[Kal];exact aw.1
 have Bz:=Gg (fun t ht=>(b1 t ht).m) (show(p.map aP.tm).length<=2^36 by omega);rw[Cq,<-e1]at Bz;have iH:((Qp (p.map aP.tm)).map fun(v:Nat)=>(v:Int)).length=(Qp (p.map aP.tm)).length:=Kal _;refine Sz0 ?_;refine Qb hP Bz ?_;refine Sz1 iH ?_;refine fN (fun h6=>?_) (fun h6=>?_)
 ·refine Sz0 ?_;refine Qb hP Bz ?_;refine Sz1 iH ?_;refine Qa (fun um=>?_) (fun um=>?_)
  ·refine Sz0 ?_;refine Qb hP wG ?_;refine Sz0 ?_;exact Qc rfl rfl
  have hA:=Ms hp dR hk aV aw (fun _=>.inr Oz);have aJ:¬(dz p=true/\(Qp (p.map aP.tm)).length<=6):=fun h=>by have:=h.2;omega
  obtain⟨L,w,e,q⟩:=hA;have qa:=q.a;have qb:=q.b;have je:=Ku q.l q.n;have q0:=q.w0;have q2:=q.k;clear q;refine Sz0 ?_;refine Qb hP qa ?_;refine Sz0 ?_;refine nu hP qb rfl rfl rfl ?_;rintro _ ⟨x,rfl⟩;refine Sz0 ?_;refine Qb hP je ?_;have he:e≠17:=fun h=>aJ (q2 h);have hw:=q0 he;subst hw;have lL:decide (¬e=17)=true:=decide_eq_true he;refine Sz1 lL ?_;refine Qb hP wG ?_;refine Sz0 ?_;exact Qc rfl rfl
 have hA:=Ms hp dR hk aV aw (fun _=>.inl Oz);obtain⟨L,w,e,q⟩:=hA;have qa:=q.a;have qb:=q.b;have je:=Ku q.l q.n;have q0:=q.w0;have q1:=q.w1;clear q;refine Sz0 ?_;refine Qb hP qa ?_;refine Sz0 ?_;refine nu hP qb rfl rfl rfl ?_;rintro _ ⟨x,rfl⟩;refine Sz0 ?_;refine Qb hP je ?_;by_cases he:e=17
 ·obtain⟨v,g1,g2,g3,g4,g5,g6,g7,g8⟩:=q1 he;have rf:w.length<2^36:=by omega
  have iH:((Qp (p.map aP.tm)).map fun(v:Nat)=>(v:Int)).length=(Qp (p.map aP.tm)).length:=Kal _;have Ep:=AL (p.map aP.tm);have nY:=o7 g3;have dF:=(@rB v).2 g2;subst he;generalize Qp (p.map aP.tm)=V at *
  refine Sz0 ?_;refine Qb hP g8 ?_;refine Sz1 iH ?_;refine K8 okB [(9,9),(68,74)] [] (fun J hp=>J 9= .int .i64 (w.length:Nat)) ?_ ?_
  ·refine Qa (fun h0=>?_) (fun h0=>?_)
   ·obtain⟨m,hm⟩:∃m,V.length=m+1:=⟨V.length-1,by omega⟩
    have uw:m<(V.map fun(v:Nat)=>(v:Int)).length:=by omega
    have jH:((V.length:Nat):Int)-1=((m:Nat):Int):=by omega
    have vO:(V.map fun(v:Nat)=>(v:Int))[m]'uw=((V[m]'Oz:Nat):Int):=by simp
    have ZD:=g6 m Oz hm;have Ff:((V[m]'Oz:Nat):Int)+1=((w.length:Nat):Int):=by omega
    refine Sz4 iH jH vO Ff ?_;refine nv ?_;exact Tz0
   ·have:=g7 Oz;rw[this];refine Sz0 ?_;refine nv ?_;refine Sz0 ?_;rfl
  rintro J h' iV;refine Sz1 @iV ?_;refine Qi okB [(2,2),(11,11),(75,86)] [] (fun q J hp=>∃i,q=w.length-i/\i<=w.length/\J 11= .int .i64 (i:Nat)) w.length ?_ ?_
  ·refine⟨0,rfl,by omega,?_⟩;refine Sz0 ?_;rfl
  rintro _ J2 h2 ⟨i,rfl,hi,bZ⟩;refine Sz1 bZ ?_;refine Qa (fun hg=>?_) (fun hg=>?_)
  ·have al:i<w.length:=by omega
   have c1:=LA (g4 _ (Kah al)) Oz;generalize hy:w[i]=y at *
   refine Sz2 bZ hy ?_;refine Qb hP c1 ?_;refine Sz1 bZ ?_;refine Qf (w.length-(i+1)) Oz ⟨i+1,rfl,by omega,?_⟩;exact Tz0
  obtain rfl:i=w.length:=by omega
  refine Sz1 @iV ?_;refine Qb hP g1 ?_;refine Sz1 @iV ?_;refine Qb hP nY ?_;have lL:decide (fc v<0)=true:=decide_eq_true dF;refine Sz1 lL ?_;refine CY (first:=[]) (cap:=[]) (args:=[]) hP wG rfl rfl rfl ?_;refine Sz0 ?_;exact Qc rfl rfl
 ·have hw:=q0 he;subst hw;have lL:decide (¬e=17)=true:=decide_eq_true he;refine Sz1 lL ?_;refine Qb hP wG ?_;refine Sz0 ?_;exact Qc rfl rfl
open Go Go.FW Go.ChangeShapes Go.WideShapes Go.ChangeAt Go.RowKit
theorem Qrs{p:List aP}(hp:Kn p):Qd Tryz.prog 4 [PV.jI p] (· = .bool true):=
 Qqr (k:=1048576) (fun t ht=>(hp.2 t ht).1) (by have:=hp.1;omega) Oz Oz
theorem Qna(H:Type)(enc:TypeId×Value->H)(W:World)(base:Nat)(args:Array Value)(ds gs:List (DataW H))(before:List MemPlace)
  (gH:∀(j:Nat) t v,Tryz.f4.params[j]? =some t->args[j]? =some v->Value.okWide Tryz.prog W .any base t v)
  (hW:DataW.Whole enc Tryz.prog Tryz.f4.params.toList Rows.squaresQuadraticsSpec.vars false W args.toList ds gs before) (hk:Rows.uptoSmall H (ds++gs)=true):
  Calls Tryz.prog 4 args W fun e W'=>∃v,e= .returned v/\Rows.squaresQuadraticsSpec.post enc Tryz.prog Tryz.f4 false true false false W args v W':=by
 have Er:=hW;obtain⟨p,q,hA0,hV,rfl,na,vR⟩:=hW;have hA:DataW.TrodAll enc Tryz.prog W 0 (fun _=>true) true Tryz.f4.params.toList args.toList ds p:=hA0;rw[Tryz.params4]at hA gH;obtain⟨v0,vs0,e0,ds0,p0,q0,cK,rfl,rfl,h0,r0⟩:=trodAll_cons hA;obtain⟨rfl,rfl,rfl⟩:=trodAll_nil r0;obtain rfl:args= #[v0]:=by cases args;simp_all
 obtain⟨rfl,rfl⟩:=trodVars_none hV;have hb:=ag8 hk;simp only[Kam,Rows.uptoBulkAll]at hb;obtain⟨a0,g0,b0⟩:=ag9 (gH 0 _ v0 rfl rfl) h0 Oz;exact afb Er rfl (by kernel_rfl) (by kernel_rfl) rfl (Qrs b0) rfl
  (aha (vs:=[v0]) (by
   intro i x hx v hv
   match i,hx,hv with
   |0,hx,hv=>simp at hx hv;subst hx hv;exact g0
   |i+1,hx,hv=>simp at hx) rfl)
theorem Qo9(os:Os)(started:os.Started)(H:Type)(enc:TypeId×Value->H)(F:Stop.Interp):
  ReturnsInHanded {} Tryz.checked os 4 .any ((Rows.OpenSpec.upto Rows.squaresQuadraticsSpec).pre6 enc Tryz.prog Tryz.f4 Rows.squaresQuadraticsUptoRow.domain false) (((Rows.OpenSpec.upto Rows.squaresQuadraticsSpec).at F).post enc Tryz.prog Tryz.f4 false true false false):=by
 refine returnsInHanded_of_cond (C:=Tryz.checked) (s:=Rows.OpenSpec.upto Rows.squaresQuadraticsSpec) (k:=Rows.uptoSmall) rfl own started (by kernel_rfl) Tryz.func4
  (OpenSpec.witness (enc:=enc) (C:=Tryz.checked) (s:=Rows.OpenSpec.upto Rows.squaresQuadraticsSpec) (k:=Rows.uptoSmall) rfl false ⟨#[],#[.slice none 0 0],[]⟩ 8 (by kernel_rfl) (by kernel_rfl) (by kernel_rfl)
   (x:=([.nil],[],[])) (by kernel_rfl) rfl (by kernel_rfl)) ?_
 intro W base args ds gs before gH hW _ hk _;exact Qna H enc W base args ds gs before gH hW hk
theorem squaresQuadratics_proved:Rows.SquaresQuadraticsUptoSaid:=
 OpenClaim.holds_of_cond 4 Tryz.f4 rfl rfl rfl rfl rfl rfl rfl ⟨rfl,rfl,rfl,rfl,rfl⟩ rfl rfl rfl rfl rfl (by kernel_rfl) Tryz.func4 (by kernel_rfl)
  (of_decide_eq_true (by kernel_rfl)) (by unfold Func.isWrapper;first|(rw[if_pos (by decide+kernel)];kernel_rfl)|(rw[if_neg (by decide+kernel)];exact⟨rfl,rfl⟩))
  (fun os started H enc _ F=>Qo9 os started H enc F)
end Go.Proofs.YtkoclfmjlolkhaaGreat
