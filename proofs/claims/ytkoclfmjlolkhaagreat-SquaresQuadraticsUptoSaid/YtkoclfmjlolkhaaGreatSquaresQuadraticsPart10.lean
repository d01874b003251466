/- Part 10 of the proof of SquaresQuadratics: B1, A7, FwNJ, FwVC. Own lemmas; no conditions. -/
import Derived.Test.YtkoclfmjlolkhaaGreatSquaresQuadraticsPart9
set_option maxHeartbeats 1000000
set_option linter.unusedSimpArgs false
set_option linter.unusedVariables false
set_option linter.unnecessarySimpa false
set_option maxRecDepth 100000
namespace Go.Proofs.YtkoclfmjlolkhaaGreat
open Go Go.FW
theorem Jp{x y:Nat->Rat}{c:Rat}{w k:Nat}(hw:w<=2^30)(hx:∀i,i<w->rs (x i)<=k)(hy:∀i,i<w->rs (y i)<=k)(hc:rs c<=k)(hk:k<=2^32):
  Qd Tryz.prog 126 [.sl 3 (Qo PV.rat x w),.sl 3 (Qo PV.rat y w),PV.rat c] (· = .sl 3 (Qo PV.rat (fun i=>x i-c*y i) w)):=by
 have dD:(Qo PV.rat x w).length=w:=fl _ _ _;refine aE Qg Tryz.func126 akh fun C hP=>?_;refine Sz1 dD ?_;refine fW 7 900 3 51 Oz Tz0 ?_;refine Qi dV [(7,28)] [27,28,900] (fun n J hp=>∃i,n=w-i/\i<=w/\J 7= .ms 900 i/\J 8= .int .i64 (i:Nat)/\hp 5=some ⟨3,51,[PV.rat c],false⟩/\hp 900=some ⟨3,51,((List.range i).map fun i=>x i-c*y i).map PV.rat,false⟩) w ?_ ?_
 ·refine⟨0,rfl,by omega,?_⟩;refine Sz0 ?_;exact⟨rfl,rfl⟩
 rintro _ J h ⟨i,rfl,hi,h7,h8,h5,hh⟩;refine Sz3 h7 h8 dD ?_;refine Qa (fun hg=>?_) (fun hg=>?_)
 ·have al:i<w:=by omega
  have h1:=hx i al;have h2:=hy i al;have hm:=fD c (y i);refine Sz3 h7 h8 h5 ?_;refine Qb hP (wF (k:=k) hc h2 Oz) ?_;refine Sz3 h7 h8 h5 ?_;refine Qb hP (RD (k:=2*k) Oz Oz Oz) ?_;refine Sz3 h7 h8 h5 ?_;rw[Qr (f:=PV.rat) (y:=x i-c*y i) (xs:=(List.range i).map fun i=>x i-c*y i) (ty':=51) (fz:=false) (Tz1 hh) cE Oz (by simp) Oz Oz];refine Sz3 h7 h8 h5 ?_;refine Qf (w-(i+1)) Oz ⟨i+1,rfl,by omega,?_⟩;refine Sz1 h5 ?_;simp only[Ka9,Kba,Kbu]
 ·obtain rfl:i=w:=by omega
  refine mm h7 hh ?_;refine Qc ?_ rfl;rw[Kac (by simp),pe]
theorem Jq{x:Nat->Rat}{c:Rat}{w k:Nat}(hw:w<=2^30)(hx:∀i,i<w->rs (x i)<=k)(hc:rs c<=k)(h0:c≠0)(hk:k<=2^32):
  Qd Tryz.prog 125 [.sl 3 (Qo PV.rat x w),PV.rat c] (· = .sl 3 (Qo PV.rat (fun i=>x i/c) w)):=by
 have dD:(Qo PV.rat x w).length=w:=fl _ _ _;refine aE Qg Tryz.func125 aki fun C hP=>?_;refine Sz1 dD ?_;refine fW 5 900 3 51 Oz Tz0 ?_;refine Qi dV [(5,27)] [7,26,27,900] (fun n J hp=>∃i,n=w-i/\i<=w/\J 5= .ms 900 i/\J 6= .int .i64 (i:Nat)/\hp 3=some ⟨3,51,[PV.rat c],false⟩/\hp 900=some ⟨3,51,((List.range i).map fun i=>x i/c).map PV.rat,false⟩) w ?_ ?_
 ·refine⟨0,rfl,by omega,?_⟩;refine Sz0 ?_;exact⟨rfl,rfl⟩
 rintro _ J h ⟨i,rfl,hi,h5,h6,h3,hh⟩;refine Sz3 h5 h6 dD ?_;refine Qa (fun hg=>?_) (fun hg=>?_)
 ·have al:i<w:=by omega
  have h1:=hx i al;refine Sz3 h5 h6 h3 ?_;have c1:=Hl (k:=k) h1 hc Oz h0
  repeat' first
   |refine lk ?_ ?_
   |refine Qb hP c1 ?_
   |simp+decide (disch:=try exact D3 h5 h6 h3) only[go_sem,h5,h6,h3]
  all_goals
   rw[Qr (f:=PV.rat) (y:=x i/c) (xs:=(List.range i).map fun i=>x i/c) (ty':=51) (fz:=false) (Tz1 hh) cE Oz (by simp) Oz Oz];refine Sz3 h5 h6 h3 ?_;refine Qf (w-(i+1)) Oz ⟨i+1,rfl,by omega,?_⟩;refine Sz1 h3 ?_;simp only[Ka9,Kba,Kbu]
 ·obtain rfl:i=w:=by omega
  refine mm h5 hh ?_;refine Qc ?_ rfl;rw[Kac (by simp),pe]
def Qw(x y:Nat->Rat):Nat->Rat
 |0=>0
 |n+1=>Qw x y n+x n*y n
theorem GK{R m:Nat}{l:List Rat}(hl:l.length=R*m)(hR:R<=40)(hm:m<=40)(hs:∀q∈l,rs q<=1048576):Qd Tryz.prog 52 [PV.a9 R m l] (· = .bool true):=by have rO:R*m<=40*40:=KaQ hR hm;have h:=SJ (r:=(R:Int)) (c:=(m:Int)) (l:=l.map qR) ⟨by rw[Kal];omega,mj.of hs⟩;rw[<-sB,LI hl hR hm]at h;exact h
def sG(R w:Nat)(M:MF)(hp:HP):HP:=fun x=>if x=2000000 then some ⟨1,22,[],false⟩else if 3000000<=x/\x<3000000+R then some ⟨3,51,Qo PV.rat (M (x-3000000)) w,false⟩else hp x
def kH(R:Nat)(x:Nat):Bool:=decide (x=2000000∨(3000000<=x/\x<3000000+R))
theorem wX{R x:Nat}(h:kH R x=true):x=2000000∨(3000000<=x/\x<3000000+R):=of_decide_eq_true h
theorem Ub{R x:Nat}(h:kH R x=false):¬(x=2000000∨(3000000<=x/\x<3000000+R)):=of_decide_eq_false h
theorem vb{R x:Nat}(h:x<2000000):kH R x=false:=decide_eq_false Oz
theorem vj{R:Nat}:kH R 2000000=true:=decide_eq_true (.inl rfl)
theorem CP{R w r:Nat}{M:MF}{hp:HP}(h:r<R):sG R w M hp (3000000+r)=some ⟨3,51,Qo PV.rat (M r) w,false⟩:=by unfold sG;rw[if_neg Oz,if_pos ⟨by omega,by omega⟩,Kbp]
theorem Jr{R w:Nat}{M:MF}{hp:HP}:sG R w M hp 2000000=some ⟨1,22,[],false⟩:=by unfold sG;rw[if_pos rfl]
theorem yv{R w x:Nat}{M:MF}{hp:HP}(h:x<2000000):sG R w M hp x=hp x:=by unfold sG;rw[if_neg Oz,if_neg Oz]
theorem PG{R w:Nat}{π:Nat->Nat}(N7:∀r,r<R->π r<R){β ty:Nat}(h:β∈(PV.aC 2000000 1 ty (Qs (b5 3000000 R w π))).refs++(PV.aC 2000000 1 ty (Qs (b5 3000000 R w π))).aQ):kH R β=true:=by
 refine decide_eq_true ?_;simp only[PV.refs,PV.aQ,KaO,KaG]at h;rcases h with rfl|h
 ·exact .inl rfl
 ·obtain⟨r,hr,rfl⟩:=Lo β h;have:=N7 r hr;exact .inr ⟨by omega,by omega⟩
theorem PH{C:Ctx}{pr:Bool}{K:Qh}{fr:Fr}{hp:HP}{d:Nat}{l:List Rat}{R m:Nat}(hP:C.P=Tryz.prog)(hl:l.length=R*m)(hR:0<R)(cy:R<=40)(hm:m<=40)(hd:d≠2000000)(m9:∀x,kH R x=true->hp x=none)
  (hK:K (af (af fr d (.aI 2000000 0 R)) 2000000 (.aC 2000000 1 22 (Qs (b5 3000000 R m id)))) (sG R m (Qq l m) hp)):gl C pr (.fn 54 [] []) [PV.a9 R m l] (some d) fr hp K:=by
 refine Bd hP (Ox hl hR cy hm) (fun _=>false) (kH R) [2000000] (fun x h=>by cases h) (fun x=>rfl) rfl (by simp) (fun x hx γ e ty xs e2=>?_) (fun γ aj=>?_) (fun s _=>.inl rfl) (fun x hx=>?_) (fun _ _=>rfl) (fun r F H eY=>?_)
 ·rw[Kau.1 hx]at e2;cases e2
 ·simp[PV.refs,PV.aQ]at aj
 ·have:=wX hx;exact⟨.inl (m9 x hx),by omega⟩
 ·obtain⟨rfl,h1,h2,h3⟩:=eY;rw[DN]at h1;have hr:∀β∈(F 2000000).refs++(F 2000000).aQ,kH R β=true:=fun β ae=>by rw[h1]at ae;exact PG (fun r h=>h) ae
  refine⟨fun x hx=>?_,(fun γ e ty xs h=>by cases h),fun β ae=>?_,fun s hs=>?_,?_⟩
  ·rcases wX hx with rfl|⟨k1,k2⟩
   ·rw[h2];simp
   ·have:=h3 (x-3000000) Oz;rw[show 3000000+(x-3000000)=x by omega]at this;rw[this];simp
  ·simp[PV.refs,PV.aQ]at ae;subst ae;exact decide_eq_true (.inl rfl)
  ·rw[Kau.1 hs];exact⟨by omega,⟨_,_,_,_,h1,Ln _⟩,hr⟩
  ·have e1:mw [2000000] F (dv (gw (fun _=>false) fr) (some d) (.aI 2000000 0 R))=af (af fr d (.aI 2000000 0 R)) 2000000 (.aC 2000000 1 22 (Qs (b5 3000000 R m id))):=by
    funext s;have Nh:gw (fun _=>false) fr=fr:=by funext t;simp[gw,vq]
    rw[Nh];by_cases e:s=2000000
    ·subst e;simp[mw,af,h1]
    ·simp[mw,af,dv,e]
   have e2:my (fun _=>false) (kH R) H hp=sG R m (Qq l m) hp:=by
    funext x;unfold my sG;cases hq:kH R x with
    | true=>
     rw[if_pos rfl];rcases wX hq with rfl|⟨k1,k2⟩
     ·rw[h2,if_pos rfl]
     ·have:=h3 (x-3000000) Oz;rw[show 3000000+(x-3000000)=x by omega]at this;rw[this,if_neg Oz,if_pos ⟨k1,k2⟩]
    |false=>have:=Ub hq;rw[if_neg (by simp),if_neg (by simp),if_neg Oz,if_neg Oz]
   rw[e1,e2];exact hK
theorem acs{C:Ctx}{Kt:Qh}{fr:Fr}{hp:HP}{d:Nat}{M:MF}{R w n K ty tyr:Nat}(hP:C.P=Tryz.prog)(hR:0<R)(cy:R<=40)(hw:w<=40)(hn:n<=w)(hKb:K<=2^20)(hB:vm K R w n M)
  (hg:fr 2000000= .aC 2000000 1 ty (Qs (b5 3000000 R w id))) (h0:hp 2000000=some ⟨1,ty,[],false⟩) (gd:∀r,r<R->hp (3000000+r)=some ⟨3,tyr,Qo PV.rat (M r) w,false⟩)
  (hK:Kt (af (gw (kH R) fr) d (PV.Bu R w (Qt R M n))) (fun x=>if kH R x then none else hp x)):gl C false (.fn 55 [] []) [.aI 2000000 0 R,.int .i64 (n:Nat)] (some d) fr hp Kt:=by
 refine Bd hP (Q8g (ty:=ty) (tyr:=tyr) hR cy hw hn hKb hB) (kH R) (fun _=>false) [] (fun x hx=>?_) (fun x=>?_) rfl (by simp) (fun x hx γ e ty xs e2=>?_) (fun γ aj=>?_) (fun s hs=>?_) (fun x hx=>by cases hx) (fun h=>by cases h) (fun r F H eY=>?_)
 ·rcases wX hx with rfl|⟨k1,k2⟩
  ·exact⟨_,h0,rfl,by omega⟩
  ·have:=gd (x-3000000) Oz;rw[show 3000000+(x-3000000)=x by omega]at this;exact⟨_,this,rfl,by omega⟩
 ·cases hq:kH R x with
  | true=>
   rw[if_pos rfl];rcases wX hq with rfl|⟨k1,k2⟩
   ·rw[if_pos rfl,h0]
   ·have:=gd (x-3000000) Oz;rw[show 3000000+(x-3000000)=x by omega]at this;rw[this,if_neg Oz,if_pos ⟨k1,k2⟩]
  |false=>have:=Ub hq;rw[if_neg Oz,if_neg Oz];rfl
 ·simp only[KaG,KbT,or_false]at hx;rcases hx with rfl|rfl<;>cases e2
 ·simp[PV.refs,PV.aQ]at aj;subst aj;exact decide_eq_true (.inl rfl)
 ·by_cases e:s=2000000
  ·subst e;refine .inr ⟨2000000,1,ty,_,?_,hg,Ln _,fun γ aj=>?_⟩
   ·rw[hg];simp[af]
   ·rw[hg]at aj;exact PG (fun r h=>h) aj
  ·left;simp[af,e]
 ·subst eY;refine⟨(fun x hx=>by cases hx),(fun γ e ty xs h=>by cases h),(fun β ae=>by simp[PV.refs,PV.aQ]at ae),(fun s hs=>by cases hs),?_⟩;have e1:mw [] F (dv (gw (kH R) fr) (some d) (PV.Bu R w (Qt R M n)))=af (gw (kH R) fr) d (PV.Bu R w (Qt R M n)):=by funext s;simp[mw,dv]
  have e2:my (kH R) (fun _=>false) H hp=fun x=>if kH R x then none else hp x:=by funext x;simp[my]
  rw[e1,e2];exact hK
end Go.Proofs.YtkoclfmjlolkhaaGreat
namespace Go.FW
open Go
variable {C C' : Ctx} {ρ ρ' : Nat -> Option Nat} {fr aG : Fr} {hp hp' : HP} {w : World} {K R : Qh}
theorem Qu.xX{p:PV}{v:Value}(h:Qu w (aK C ρ hp) p v):df C ρ hp w p v:=by
 cases p with
 |undef=>trivial
 |aB=>cases h
 |aI=>cases h
 |_=>exact h
theorem afs{γ e ty:Nat}{xs:List PV}(k:Nat)(il:fr γ= .aC γ e ty xs)(ho:∀x∈xs,∀c∈x.aS,od fr k c):
  Wk fr hp (af fr γ (.aC γ e ty (xs.map fun x=>fo (x.aS.map (eC fr hp k))))) (bW hp (xs.flatMap fun x=>x.aS.flatMap (mG fr k))):=by
 rintro C tmps w ⟨ρ,hs⟩;obtain⟨l,hl⟩:∃l,(xs.flatMap fun x=>x.aS.flatMap (mG fr k))=l:=⟨_,rfl⟩
 rw[hl];have hf:=hs.freeze l;refine⟨ρ,hf.sz,hf.ext,hf.fT,hf.own,hf.inj,fun i=>?_⟩;unfold af;split
 ·rename_i hi;subst hi;have bb:=hs.cN i;have xQ:=hf.cN i;rw[il]at bb xQ;obtain⟨k0,he,b,hb,cur,cap,k1,k2,k3,k4,k5,k6,k7,k8,k9,jf,_⟩:=xQ;obtain⟨_,_,b',ax,cur',eW,j1,j2,j3,j4,j5,j6,j7,j8,j9,eI,rk⟩:=bb;rw[k1]at j1;cases j1;rw[k6]at j6;cases j6;have DW:∀(n:Nat)(x:PV),xs[n]? =some x->∀(j:Nat)(y:PV),x.aS[j]? =some y->Qu w (aK C ρ (bW hp l)) (eC fr hp k y) (cur.getD (n*e+j) undef):=fun n x hx j y hy=>by have nh:=Kai hx;have ZI:=Kai hy;refine Hy hs k (rk n x hx j y hy) (ho x nh y ZI) fun β ae=>?_;rw[<-hl];exact Kat.2 ⟨x,nh,Kat.2 ⟨y,ZI,ae⟩⟩
  have tk:∀(n:Nat)(x:PV),xs[n]? =some x->(fo (x.aS.map (eC fr hp k))).aS=x.aS.map (eC fr hp k):=fun n x hx=>by refine KT fun c hc=>?_;obtain⟨y,hy,rfl⟩:=Kaq.1 hc;obtain⟨j,hj⟩:=KaM hy;exact(DW n x hx j y hj).xX.one
  refine⟨k0,he,b,hb,cur,cap,k1,k2,k3,k4,k5,k6,k7,by simpa using k8,k9,fun n x hx=>?_,fun n x hx j y hy=>?_⟩
  ·simp only[Kas,Kaa]at hx;obtain⟨x0,bG,rfl⟩:=hx;rw[tk n x0 bG,Kal];exact jf n x0 bG
  ·simp only[Kas,Kaa]at hx;obtain⟨x0,bG,rfl⟩:=hx;rw[tk n x0 bG,Kas,Kaa]at hy;obtain⟨y0,du,rfl⟩:=hy;exact(DW n x0 bG j y0 du).xX
 ·exact hf.cN i
theorem an7{γ e ty:Nat}{xs:List PV}(s:Nat)(il:fr γ= .aC γ e ty xs)(nY:fr s= .np γ 0 0)(h2:aR γ=false)(hd:∀x∈xs,x.cells=x.aS/\x.aN=true/\∀c∈x.aS,c.n7=false):
  Wk fr hp (af (iP γ fr) s (.mp γ 0 0)) (Qj hp γ ⟨e,ty,xs,true⟩):=by
 rintro C tmps w ⟨ρ,hs⟩;have bb:=hs.cN γ;rw[il]at bb;obtain⟨k0,he,b,hb,cur,cap,k1,k2,k3,k4,k5,k6,k7,k8,k9,jf,jq⟩:=bb;obtain⟨hp',lh⟩:∃f,f=Qj hp γ ⟨e,ty,xs,true⟩:=⟨_,rfl⟩
 rw[<-lh];have lV:hp' γ=some ⟨e,ty,xs,true⟩:=by rw[lh];simp[Qj]
 have po:∀β,β≠γ->hp' β=hp β:=fun β ae=>by rw[lh];simp[Qj,ae]
 have hX:∀c,aK C ρ hp' c->aK C ρ hp c:=by
  rintro c (hx|⟨β,ax,g1,g2,g3⟩)
  ·exact .inl hx
  ·by_cases ae:β=γ
   ·subst ae;rw[lV]at g1;cases g1;cases g2
   ·rw[po β ae]at g1;exact .inr ⟨β,ax,g1,g2,g3⟩
 have bc:nB w w (aK C ρ hp) (aK C ρ hp'):=⟨fun _ _ _=>rfl,fun c _ hn h=>hn (hX c h),Kae _⟩
 have c1:∀β,β≠γ->qg ρ ρ hp hp' w w β:=fun β ae=>⟨rfl,fun hb hq=>⟨hb,by rw[po β ae];exact hq,rfl,Kae _,fun _ _ _ h=>h,fun h=>⟨h,rfl,fun _ _=>rfl⟩⟩⟩
 have c0:∀β,vl ρ ρ hp hp' w w β:=fun β=>by
  by_cases ae:β=γ
  ·subst ae;refine⟨rfl,fun hb1 hq=>⟨_,lV,?_,?_,fun _ _ _ h=>h⟩⟩
   ·rw[k2]at hq;cases hq;exact k4.symm
   ·rw[k2]at hq;cases hq;rw[k3];exact Kbz _
  ·exact(c1 β ae).xZ
 have bE:=hs.own γ hb k2;refine⟨ρ,hs.sz,hs.ext,hs.fT,fun β hb1 ae=>?_,fun β δ c g1 g2 g3 g4=>?_,fun i=>?_⟩
 ·by_cases hq:β=γ
  ·subst hq;rw[lV]at ae;cases ae;refine⟨he,fun i x hx=>?_,?_,(fun h=>by rw[h2]at h;cases h),fun _=>rfl⟩
   ·obtain⟨d1,d2,_⟩:=hd x (Kai hx);exact⟨by rw[d1];exact jf i x hx,d2⟩
   ·have bl:=bE.dd;rw[k1]at bl⊢;refine⟨bl.1,bl.2.1,cur,cap,k6,k7,k8,k9,fun i x hx j y hy=>?_⟩;obtain⟨d1,_,d3⟩:=hd x (Kai hx);rw[d1]at hy;exact((jq i x hx j y hy).Ok (d3 y (Kai hy))).sub hX
  ·rw[po β hq]at ae;obtain⟨q1,q2,q3,q4,q5⟩:=hs.own β hb1 ae;refine⟨q1,q2,?_,q4,q5⟩;cases hr:ρ β with
   |none=>rw[hr]at q3;exact q3
   |some c=>rw[hr]at q3;exact⟨q3.1,q3.2.1,q3.2.2.move rfl rfl rfl rfl bc.rc⟩
 ·have f:∀β,hp' β≠none->hp β≠none:=fun β ae=>by
   by_cases hq:β=γ
   ·subst hq;simp[k2]
   ·rwa[po β hq]at ae
  exact hs.inj β δ c (f β g1) (f δ g2) g3 g4
 ·unfold af;split
  ·rename_i hi;subst hi;have bb:=hs.cN i;rw[nY]at bb;obtain⟨_,b',ax,g1,g2,g3⟩:=bb;rw[k2]at g2;cases g2;exact⟨b',_,g1,lV,by rw[g3,k4]⟩
  ·have bb:=hs.cN i;show Qn C ρ hp' w (gE γ (fr i)) _;by_cases hn:∃e' ty' ys,fr i= .aC γ e' ty' ys
   ·obtain⟨e',ty',ys,hq⟩:=hn;rw[hq];simp only[gE,if_true];trivial
   ·have e1:gE γ (fr i)=fr i:=by
     cases hq:fr i with
     |aC bu e' ty' ys=>simp only[gE];rw[if_neg];intro h;subst h;exact hn ⟨_,_,_,hq⟩
     |_=>rfl
    rw[e1];refine bb.move bc (fun β _=>⟨rfl,(c0 β).h⟩) (fun β _=>c0 β) (fun bu e' ty' ys hq=>c1 bu fun h=>by subst h;exact hn ⟨_,_,_,hq⟩)
theorem Ke{e by_ ty d β n:Nat}{xs ys:List PV}(hb:hp β=some ⟨e,ty,xs,false⟩)(h0:0<e)(hn:n=xs.length)(hy:ys≠[])(h1:(n+ys.length)*by_<=140737488355328)(h2:n+ys.length<=9223372036854775807)(hB:2000000<=β):
  ia e by_ ty (.ms β n) (.sl e ys) d fr hp K=K (af (fX β fr) d (.ms β (n+ys.length))) (Qj hp β ⟨e,ty,xs++ys,false⟩):=by
 subst hn;have b1:bJ β=true:=by simp[bJ];omega
 have b2:aR β=false:=by simp[aR];omega
 simp[ia,jx,hb,h0,b1,b2,h1,h2,hy]
theorem CU{γ e ty:Nat}{cs cs':List PV}(δ e' ty':Nat)(il:fr γ= .aC γ e ty [.agg cs])(h1:hp δ=none)(h2:2000000<=δ)(h3:0<e')(hl:cs'.length=cs.length)(hc:∀p∈cs.zip cs',p.2=p.1∨(p.1= .au/\p.2= .aB δ 0 0)):
  Wk fr hp (af fr γ (.aC γ e ty [.bo cs'])) (Qj hp δ ⟨e',ty',[],false⟩):=by
 have h:=QB (fr:=fr) (hp:=hp) (γ:=γ) (e:=e) (ty:=ty) (xs:=[.agg cs]) (xs':=[.bo cs']) (fun x=>if x=δ then some (e',ty')else none) il (fun x y h=>?_) rfl (fun i x x' k1 k2=>?_)
 ·refine cast (congrArg (Wk fr hp (af fr γ (.aC γ e ty [.bo cs']))) (funext fun x=>?_)) h;unfold Qj;by_cases hx:x=δ
  ·subst hx;simp
  ·simp[hx]
 ·split at h
  ·rename_i hx;subst hx;cases h;exact⟨h1,h2,h3⟩
  ·cases h
 ·cases i with
  |succ i=>cases k1
  | zero=>
   cases k1;cases k2;refine⟨hl,fun j y y' q1 q2=>?_⟩;have hz:(y,y')∈cs.zip cs':=by refine Kai (i:=j) ?_;rw[List.getElem?_zip_eq_some];exact⟨q1,q2⟩
   rcases hc _ hz with h|⟨h,h'⟩
   ·exact .inl h
   ·exact .inr ⟨h,δ,(e',ty'),by simp,h'⟩
theorem AN{sk:List It}{r:RT}(s k:Nat)(l:List Nat){p D:PV}(h0:fr s=p)(h1:w8 fr k p)(h2:sO fr hp k p=D)(h3:Ag fr k p=l)(hv:vc C R (.o r::sk) (af fr s D) (bW hp l)):vc C R (.o (.wk r)::sk) fr hp:=by subst h0;subst h2;subst h3;exact di (JY s k h1) hv
theorem aku{P:Program}(hP:C.P=P){g:FuncId}{args bx:List PV}{d:Option Nat}{dY:Nat}{hb1:HB}{aZ:PV->List PV->Prop}
  (h:gj P g bx (fun _=>.undef) (Qj aA 1000000 hb1) fun r F H=>oy r/\∃xs,H 1000000=some ⟨hb1.e,hb1.ty,xs,false⟩/\xs.length=hb1.xs.length/\aZ r xs) (h1:hp dY=some hb1) (f1:hb1.fz=false) (n1:hb1.xs≠[]) (B1:bJ dY=true)
  (cK:args.map (ch fun x=>if x=dY then 1000000 else x)=bx) (iq:∀γ∈args.flatMap (fun x=>x.refs++x.aQ),γ=dY) (aV:bx.length<=1000000)
  (hK:∀r xs,xs.length=hb1.xs.length->aZ r xs->K (dv fr d r) (Qj hp dY ⟨hb1.e,hb1.ty,xs,false⟩)):gl C false (.fn g [] []) args d fr hp K:=by
 obtain⟨gv,pN⟩:∃f:Nat->Option Nat,f=fun x=>if x=1000000 then some dY else none:=⟨_,rfl⟩
 have ga:∀β γ,gv β=some γ->β=1000000/\γ=dY:=fun β γ hq=>by
  rw[pN]at hq;simp only at hq;split at hq
  ·cases hq;rename_i e;exact⟨e,rfl⟩
  ·cases hq
 have g0:gv 1000000=some dY:=by rw[pN];rfl
 have y0:aR 1000000=true:=by decide
 have r0:eH 1000000=false:=by decide
 have Ea:gn gv 1000000=some dY:=(wS r0).trans g0;have vG:∀β γ,gn gv β=some γ->β=1000000/\γ=dY:=fun β γ hq=>ga β γ (AY hq).2;refine HZ hP h gv _ ⟨fun β γ hq=>?_,fun β hq=>?_,fun β bA γ q1 q2=>?_⟩ (fun β γ hq=>?_) cK (fun x hx γ aj=>?_) (fun s _=>.inl rfl) aV (fun hq=>by cases hq) (fun ρ tmps w hs r F H aA _=>?_)
 ·obtain⟨rfl,rfl⟩:=ga β γ hq;exact⟨hb1,h1,by decide,(fun h=>by rw[r0]at h;cases h),fun _=>⟨by simp[Qj],f1,B1,fun h=>by rw[y0]at h;cases h⟩⟩
 ·by_cases e2:β=1000000
  ·subst e2;exact⟨_,g0⟩
  ·simp[Qj,FW.aA,e2]at hq
 ·rw[(ga β γ q1).1,(ga bA γ q2).1]
 ·obtain⟨rfl,rfl⟩:=ga β γ hq;simp
 ·rw[iq γ (Kat.2 ⟨x,hx,aj⟩)];exact⟨_,g0⟩
 ·obtain⟨⟨⟨p1,p2⟩,p3⟩,xs,k1,k2,k4⟩:=aA;obtain⟨eo,pM⟩:∃f:Nat->Option Nat,f=fun γ=>if γ=dY then some 1000000 else none:=⟨_,rfl⟩
  have ea:∀γ β,eo γ=some β->γ=dY/\β=1000000:=fun γ β hq=>by
   rw[pM]at hq;simp only at hq;split at hq
   ·cases hq;rename_i e;exact⟨e,rfl⟩
   ·cases hq
  have y6:eo dY=some 1000000:=by rw[pM];simp
  refine⟨eo,fun x=>dY,dv fr d r,Qj hp dY ⟨hb1.e,hb1.ty,xs,false⟩,fun γ β hq=>?_,fun β γ hq _=>?_,fun γ β hq=>?_,fun γ hq hg=>?_,fun γ hq hg=>?_,fun s=>?_,hK r xs k2 k4⟩
  ·obtain⟨rfl,rfl⟩:=ea γ β hq;exact⟨by simp[k1],rfl,B1,.inl ⟨y0,Ea⟩⟩
  ·obtain⟨rfl,rfl⟩:=vG β γ hq;exact y6
  ·obtain⟨rfl,rfl⟩:=ea γ β hq;rw[k1];simp[Qj]
  ·obtain⟨β,ae⟩:=hg;obtain⟨rfl,rfl⟩:=vG β γ ae;rw[y6]at hq;cases hq
  ·have:γ≠dY:=fun e=>by subst e;rw[y6]at hq;cases hq
   simp[Qj,this]
  ·have bb:=hs.cN s;have hn:∀γ e ty xs,fr s= .aC γ e ty xs->¬∃β,gn gv β=some γ:=fun γ e ty xs e0 ⟨β,ae⟩=>by rw[e0]at bb;obtain⟨_,_,b,hb,_,_,_,l2,l3,_⟩:=bb;obtain⟨rfl,rfl⟩:=vG β γ ae;rw[h1]at l2;cases l2;exact n1 l3
   have ho:∀γ∈(fr s).refs++(fr s).aQ,(¬∃β,gn gv β=some γ)∨∃β hb ax,gn gv β=some γ/\aR β=true/\hp γ=some hb/\H β=some ax/\ax.e=hb.e/\hb.xs.length<=ax.xs.length:=fun γ _=>by
    by_cases e:γ=dY
    ·subst e;exact .inr ⟨_,_,_,Ea,y0,h1,k1,rfl,by simp[k2]⟩
    ·left;rintro⟨β,ae⟩;exact e (vG β γ ae).2
   cases d with
   |none=>exact .inr (.inl ⟨(by simp),rfl,ho,hn⟩)
   | some d=>
    by_cases e:s=d
    ·subst e;refine .inr (.inr (.inl ⟨rfl,?_,fun β ae=>by rw[p1,p2]at ae;cases ae⟩));rw[p3];simp[dv,af]
    ·exact .inr (.inl ⟨by simp;exact fun h=>e h.symm,by simp[dv,af,e],ho,hn⟩)
theorem au9{τ:Nat->Nat}{γ bu ty B B' n w:Nat}(aj:τ γ=bu)(hB:∀r,r<n->τ (B+r)=B'+r):ch τ (.aC γ 1 ty (Qs (b5 B n w id)))= .aC bu 1 ty (Qs (b5 B' n w id)):=by simp only[ch,aj];congr 1;unfold Qs b5;simp only[KbH];refine KaJ fun r hr=>?_;simp[PV.aS,PV.cells,dW,fo,hB r (Kbo.1 hr)]
theorem SK{P:Program}(hP:C.P=P){pr:Bool}{g:FuncId}{d:Option Nat}{R w ty e' tyr:Nat}{ys:Nat->List PV}{D:PV}(hR:R<=1000)
  (h:gj P g [.aI 1500000 0 R] (af (fun _=>.undef) 1500000 (.aC 1500000 1 ty (Qs (b5 1600000 R w id))))
   (fun x=>if x=1500000 then some ⟨1,ty,[],true⟩else if 1600000<=x/\x<1600000+R then some ⟨e',tyr,ys (x-1600000),true⟩else none) (fun r _ _=>r=D)) (hD:oy D)
  (hg:fr 2000000= .aC 2000000 1 ty (Qs (b5 3000000 R w id))) (h0:hp 2000000=some ⟨1,ty,[],false⟩) (gd:∀r,r<R->hp (3000000+r)=some ⟨e',tyr,ys r,false⟩)
  (hK:K (dv fr d D) hp):gl C pr (.fn g [] []) [.aI 2000000 0 R] d fr hp K:=by
 obtain⟨gv,pN⟩:∃f:Nat->Option Nat,f=fun x=>if x=1500000 then some 2000000 else if 1600000<=x/\x<1600000+R then some (3000000+(x-1600000))else none:=⟨_,rfl⟩
 obtain⟨τ,uF⟩:∃f:Nat->Nat,f=fun x=>if x=2000000 then 1500000 else if 3000000<=x/\x<3000000+R then 1600000+(x-3000000)else x:=⟨_,rfl⟩
 have ga:∀β γ,gv β=some γ->(β=1500000/\γ=2000000)∨∃r,r<R/\β=1600000+r/\γ=3000000+r:=fun β γ hq=>by
  rw[pN]at hq;simp only at hq;split at hq
  ·cases hq;rename_i e;exact .inl ⟨e,rfl⟩
  ·split at hq
   ·rename_i e;exact .inr ⟨β-1600000,by omega,by omega,(KbM hq).symm⟩
   ·cases hq
 have g0:gv 1500000=some 2000000:=by rw[pN];simp
 have g1:∀r,r<R->gv (1600000+r)=some (3000000+r):=fun r hr=>by rw[pN];simp only;rw[if_neg (by omega),if_pos ⟨by omega,by omega⟩,Kbp]
 have t0:τ 2000000=1500000:=by rw[uF];simp
 have t1:∀r,r<R->τ (3000000+r)=1600000+r:=fun r hr=>by rw[uF];simp only;rw[if_neg (by omega),if_pos ⟨by omega,by omega⟩,Kbp]
 have gM:∀γ∈(fr 2000000).refs++(fr 2000000).aQ,∃β,gv β=some γ:=fun γ aj=>by
  rw[hg]at aj;simp only[PV.refs,PV.aQ,KaO,KaG]at aj;rcases aj with rfl|aj
  ·exact⟨_,g0⟩
  ·obtain⟨r,hr,rfl⟩:=Lo γ aj;exact⟨_,g1 r hr⟩
 refine J9 hP h gv τ (fun β γ hq=>?_) (fun β hq=>?_) (fun β bA γ q1 q2=>?_) (fun β γ hq=>?_) ?_ (fun x hx γ aj=>?_) (fun s hs=>?_) (by simp) (fun r F H hr=>?_)
 ·rcases ga β γ hq with⟨rfl,rfl⟩|⟨r,hr,rfl,rfl⟩
  ·exact⟨by decide,_,h0,by simp⟩
  ·refine⟨by simp[eH];omega,_,gd r hr,?_⟩;rw[if_neg (by omega),if_pos ⟨by omega,by omega⟩,Kbp]
 ·by_cases e:β=1500000
  ·subst e;exact⟨_,g0⟩
  ·by_cases e2:1600000<=β/\β<1600000+R
   ·obtain⟨r,rfl⟩:∃r,β=1600000+r:=⟨β-1600000,by omega⟩
    exact⟨_,g1 r (by omega)⟩
   ·rw[if_neg e,if_neg e2]at hq;exact absurd rfl hq
 ·rcases ga β γ q1 with⟨rfl,rfl⟩|⟨r,hr,rfl,rfl⟩<;>rcases ga bA _ q2 with⟨rfl,e⟩|⟨r',cM,rfl,e⟩
  ·rfl
  ·omega
  ·omega
  ·omega
 ·rcases ga β γ hq with⟨rfl,rfl⟩|⟨r,hr,rfl,rfl⟩
  ·exact t0
  ·exact t1 r hr
 ·simp[ch,dW,t0]
 ·rw[Kau.1 hx]at aj;simp[PV.refs,PV.aQ]at aj;subst aj;exact⟨_,g0⟩
 ·by_cases e:s=1500000
  ·subst e;refine .inr ⟨2000000,by omega,?_,gM⟩;rw[hg,au9 t0 t1];simp[af]
  ·left;simp[af,e]
 ·subst hr;exact⟨hD,hK⟩
end Go.FW
namespace Go.FW
open Go
variable {C : Ctx} {fr : Fr} {hp : HP} {w : World} {K R : Qh}
abbrev PV.cX(w:Nat)(f:Nat->Rat):PV:=.sl 3 (Qo PV.rat f w)
theorem akv{ty w n i d:Nat}{fz:Bool}{M:MF}(h:i<n):nq (some ⟨1,ty,Qo (PV.cX w) M n,fz⟩) 1 false i 0 d fr hp K=K (af fr d (PV.cX w (M i))) hp:=by rw[uZ (by rw[fl];exact h) (by omega) (by simp),rC];rfl
theorem HM{ty β w n i:Nat}{M:MF}{f:Nat->Rat}(h:i<n):stM (some ⟨1,ty,Qo (PV.cX w) M n,false⟩) β 1 i 0 (PV.cX w f) fr hp K=K fr (Qj hp β ⟨1,ty,Qo (PV.cX w) (fun r=>if r=i then f else M r) n,false⟩):=by have e:=qp (fr:=fr) (hp:=hp) (K:=K) (n:=1) (ty:=ty) (β:=β) (i:=i) (xs:=Qo (PV.cX w) M n) (v:=PV.cX w f) (by rw[fl];exact h) rfl rfl;rw[Rf (g:=fun r=>if r=i then f else M r) fun k _=>rfl]at e;exact e
theorem ahl{d w n i:Nat}{k:IntKind}{M:MF}(h:i<n):jQ 1 (.sl 1 (Qo (PV.cX w) M n)) (.int k (i:Nat)) d fr hp K=K (af fr d (.pt [PV.cX w (M i)])) hp:=by
 have hl:i<(Qo (PV.cX w) M n).length:=by rw[fl];exact h
 simp only[jQ];simp[hl,rC];rfl
theorem yo{w n:Nat}{M N:MF}(h:∀r,r<n->∀c,c<w->M r c=N r c):Qo (PV.cX w) M n=Qo (PV.cX w) N n:=
 KaJ fun r hr=>by show PV.sl 3 (Qo PV.rat (M r) w)=PV.sl 3 (Qo PV.rat (N r) w);rw[om fun c hc=>h r (Kbo.1 hr) c hc]
attribute [go_sem] akv ahl
theorem ahm{ty i d:Nat}{fz:Bool}{α:Type}{p:α->PV}{L:List α}(h:i<L.length):nq (some ⟨1,ty,L.map p,fz⟩) 1 false i 0 d fr hp K=K (af fr d (fB false 1 0 (p (L[i]'h)))) hp:=by rw[uZ (by rw[Kal];exact h) (by omega) (by simp),Ka8]
theorem ahn{ty i d:Nat}{fz:Bool}{L:List LF}(h:i<L.length):nq (some ⟨3,ty,L.map (fun f=>PV.rat f.1),fz⟩) 3 true i 0 d fr hp K=K (af fr d (PV.rat (L[i]'h).1)) hp:=by rw[uZ (by rw[Kal];exact h) (by omega) (by simp),Ka8];rfl
theorem aho{ty i d w:Nat}{fz:Bool}{L:List LF}(h:i<L.length):nq (some ⟨1,ty,L.map (fun f=>PV.cX w f.2),fz⟩) 1 false i 0 d fr hp K=K (af fr d (PV.cX w (L[i]'h).2)) hp:=by rw[ahm h];rfl
attribute [go_sem] ahn aho
def lT(x:Nat):Bool:=decide (x=2000000)
theorem R8{fr:Fr}:gw (fun _=>false) fr=fr:=by funext t;simp[gw,vq]
theorem akw{P:Program}{pr:Bool}(hP:C.P=P){g:FuncId}{args:List PV}{d n:Nat}{hb:HB}(h:gj P g args (fun _=>.undef) aA fun r _ H=>r= .ms 2000000 n/\H 2000000=some hb)(m9:hp 2000000=none)
  (bc:∀x∈args,∀γ e ty xs,x≠ .aC γ e ty xs) (iq:args.flatMap (fun x=>x.refs++x.aQ)=[]) (aV:args.length<=1000000)
  (hK:K (af fr d (.ms 2000000 n)) (Qj hp 2000000 hb)):gl C pr (.fn g [] []) args (some d) fr hp K:=by
 refine Bd hP h (fun _=>false) lT [] (fun x h=>by cases h) (fun x=>rfl) rfl aV bc (fun γ aj=>by rw[iq]at aj;cases aj) (fun s _=>.inl rfl) (fun x hx=>?_) (fun _ _=>rfl) (fun r F H eY=>?_)
 ·have:=of_decide_eq_true hx;subst this;exact⟨.inl m9,by omega⟩
 ·obtain⟨rfl,h1⟩:=eY;refine⟨fun x hx=>?_,(fun γ e ty xs h=>by cases h),fun β ae=>?_,(fun s hs=>by cases hs),?_⟩
  ·have:=of_decide_eq_true hx;subst this;rw[h1];simp
  ·simp[PV.refs,PV.aQ]at ae;subst ae;exact decide_eq_true rfl
  ·have e1:mw [] F (dv (gw (fun _=>false) fr) (some d) (.ms 2000000 n))=af fr d (.ms 2000000 n):=by funext s;simp[mw,dv,R8]
   have e2:my (fun _=>false) lT H hp=Qj hp 2000000 hb:=by
    funext x;unfold my Qj;by_cases e:x=2000000
    ·subst e;rw[if_pos (show lT 2000000=true from decide_eq_true rfl),if_pos rfl,h1]
    ·rw[if_neg (by simp[lT,e]),if_neg (by simp),if_neg e]
   rw[e1,e2];exact hK
theorem akx{P:Program}(hP:C.P=P){g:FuncId}{args:List PV}{d:Nat}{hb:HB}{D:PV}(h:gj P g args (fun _=>.undef) (Qj aA 2000000 hb) fun r _ _=>r=D)(hD:oy D)(h1:hp 2000000=some hb)(na:hb.fz=false)
  (bc:∀x∈args,∀γ e ty xs,x≠ .aC γ e ty xs) (iq:∀γ∈args.flatMap (fun x=>x.refs++x.aQ),γ=2000000) (aV:args.length<=1000000) (xr:∀γ e ty xs,D≠ .aC γ e ty xs)
  (hK:K (af (gw lT fr) d D) (fun x=>if x=2000000 then none else hp x)):gl C false (.fn g [] []) args (some d) fr hp K:=by
 refine Bd hP h lT (fun _=>false) [] (fun x hx=>?_) (fun x=>?_) rfl aV bc (fun γ aj=>by rw[iq γ aj];exact decide_eq_true rfl) (fun s _=>.inl rfl) (fun x hx=>by cases hx) (fun h=>by cases h) (fun r F H eY=>?_)
 ·have:=of_decide_eq_true hx;subst this;exact⟨hb,h1,na,by omega⟩
 ·by_cases e:x=2000000
  ·subst e;simp[lT,Qj,h1]
  ·simp[lT,Qj,e,aA]
 ·subst eY;refine⟨(fun x hx=>by cases hx),xr,(fun β ae=>by rw[hD.1.1,hD.1.2]at ae;cases ae),(fun s hs=>by cases hs),?_⟩;have e1:mw [] F (dv (gw lT fr) (some d) r)=af (gw lT fr) d r:=by funext s;simp[mw,dv]
  have e2:my lT (fun _=>false) H hp=fun x=>if x=2000000 then none else hp x:=by
   funext x;unfold my;by_cases e:x=2000000
   ·subst e;simp[lT]
   ·simp[lT,e]
  rw[e1,e2];exact hK
theorem TM{x:Nat}(h:x<2000000):lT x=false:=decide_eq_false (by omega)
theorem an8:lT 2000000=true:=decide_eq_true rfl
attribute [go_sem] an8
theorem an9{p:PV}{ps:List PV}{d:Nat}{fr:Fr}{hp:HP}{K:Qh}:qD (.dX (p::ps)) 0 d fr hp K=K (af fr d p) hp:=rfl
theorem aoa{p q:PV}{ps:List PV}{d:Nat}{fr:Fr}{hp:HP}{K:Qh}:qD (.dX (p::q::ps)) 1 d fr hp K=K (af fr d q) hp:=rfl
attribute [go_sem] an9 aoa
theorem ak8{P:Program}{pr:Bool}{C:Ctx}{K:Qh}{fr:Fr}{hp:HP}(hP:C.P=P){g:FuncId}{args:List PV}{d n:Nat}{e:Int}{hb:HB}(h:gj P g args (fun _=>.undef) aA fun r _ H=>r= .dX [.ms 2000000 n,.int .i64 e]/\H 2000000=some hb)(m9:hp 2000000=none)
  (bc:∀x∈args,∀γ e ty xs,x≠ .aC γ e ty xs) (iq:args.flatMap (fun x=>x.refs++x.aQ)=[]) (aV:args.length<=1000000)
  (hK:K (af fr d (.dX [.ms 2000000 n,.int .i64 e])) (Qj hp 2000000 hb)):gl C pr (.fn g [] []) args (some d) fr hp K:=by
 refine Bd hP h (fun _=>false) lT [] (fun x h=>by cases h) (fun x=>rfl) rfl aV bc (fun γ aj=>by rw[iq]at aj;cases aj) (fun s _=>.inl rfl) (fun x hx=>?_) (fun _ _=>rfl) (fun r F H eY=>?_)
 ·have:=of_decide_eq_true hx;subst this;exact⟨.inl m9,by omega⟩
 ·obtain⟨rfl,h1⟩:=eY;refine⟨fun x hx=>?_,(fun γ e ty xs h=>by cases h),fun β ae=>?_,(fun s hs=>by cases hs),?_⟩
  ·have:=of_decide_eq_true hx;subst this;rw[h1];simp
  ·simp[PV.refs,PV.aQ,PV.gU]at ae;subst ae;exact decide_eq_true rfl
  ·have e1:mw [] F (dv (gw (fun _=>false) fr) (some d) (.dX [.ms 2000000 n,.int .i64 e]))=af fr d (.dX [.ms 2000000 n,.int .i64 e]):=by funext s;simp[mw,dv,R8]
   have e2:my (fun _=>false) lT H hp=Qj hp 2000000 hb:=by
    funext x;unfold my Qj;by_cases e:x=2000000
    ·subst e;rw[if_pos (show lT 2000000=true from decide_eq_true rfl),if_pos rfl,h1]
    ·rw[if_neg (by simp[lT,e]),if_neg (by simp),if_neg e]
   rw[e1,e2];exact hK
end Go.FW
