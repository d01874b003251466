/- Part 10 of the proof of SquaresProofs: B1, A7, FwNJ, FwVC. Own lemmas; no conditions. -/
import Derived.Test.YtkoclfmjlolkhaaGreatSquaresProofsPart9
set_option maxHeartbeats 1000000
set_option linter.unusedSimpArgs false
set_option linter.unusedVariables false
set_option linter.unnecessarySimpa false
set_option maxRecDepth 100000
namespace Go.Proofs.YtkoclfmjlolkhaaGreat
open Go Go.FW
theorem Ph{x y:Nat->Rat}{c:Rat}{w k:Nat}(hw:w<=2^30)(hx:∀i,i<w->rs (x i)<=k)(hy:∀i,i<w->rs (y i)<=k)(hc:rs c<=k)(hk:k<=2^32):
  Qd Tryz.prog 126 [.sl 3 (Qo PV.rat x w),.sl 3 (Qo PV.rat y w),PV.rat c] (· = .sl 3 (Qo PV.rat (fun i=>x i-c*y i) w)):=by
 have dh:(Qo PV.rat x w).length=w:=fW _ _ _
 refine aE Qg Tryz.func126 agi fun C hP=> ?_
 refine Sz1 dh ?_
 refine iL 7 900 3 51 Oz Tz0 ?_
 refine Ql dq [(7,28)] [27,28,900] (fun n J hp=>∃i,n=w-i/\i<=w/\J 7= .ms 900 i/\J 8= .int .i64 (i:Nat)/\hp 5=some ⟨3,51,[PV.rat c],false⟩/\hp 900=some ⟨3,51,((List.range i).map fun i=>x i-c*y i).map PV.rat,false⟩) w ?_ ?_
 ·refine⟨0,rfl,by omega,?_⟩
  refine Sz0 ?_
  exact⟨rfl,rfl⟩
 rintro _ J h ⟨i,rfl,hi,h7,h8,h5,hh⟩
 refine Sz3 h7 h8 dh ?_
 refine Qa (fun hg=> ?_) (fun hg=> ?_)
 ·have ao:i<w:=by omega
  have h1:=hx i ao
  have h2:=hy i ao
  have hm:=eX c (y i)
  refine Sz3 h7 h8 h5 ?_
  refine Qb hP (EV (k:=k) hc h2 Oz) ?_
  refine Sz3 h7 h8 h5 ?_
  refine Qb hP (ad3 (k:=2*k) Oz Oz Oz) ?_
  refine Sz3 h7 h8 h5 ?_
  rw[Qq (f:=PV.rat) (y:=x i-c*y i) (xs:=(List.range i).map fun i=>x i-c*y i) (ty':=51) (fz:=false) (Tz1 hh) cP Oz (by simp) Oz Oz]
  refine Sz3 h7 h8 h5 ?_
  refine Qf (w-(i+1)) Oz ⟨i+1,rfl,by omega,?_⟩
  refine Sz1 h5 ?_
  simp only[Kbo,Kbd,Kbw]
 ·obtain rfl:i=w:=by omega
  refine nU h7 hh ?_
  refine Qc ?_ rfl
  rw[Kac (by simp),uV]
theorem Pj{x:Nat->Rat}{c:Rat}{w k:Nat}(hw:w<=2^30)(hx:∀i,i<w->rs (x i)<=k)(hc:rs c<=k)(h0:c≠0)(hk:k<=2^32):
  Qd Tryz.prog 125 [.sl 3 (Qo PV.rat x w),PV.rat c] (· = .sl 3 (Qo PV.rat (fun i=>x i/c) w)):=by
 have dh:(Qo PV.rat x w).length=w:=fW _ _ _
 refine aE Qg Tryz.func125 agj fun C hP=> ?_
 refine Sz1 dh ?_
 refine iL 5 900 3 51 Oz Tz0 ?_
 refine Ql dq [(5,27)] [7,26,27,900] (fun n J hp=>∃i,n=w-i/\i<=w/\J 5= .ms 900 i/\J 6= .int .i64 (i:Nat)/\hp 3=some ⟨3,51,[PV.rat c],false⟩/\hp 900=some ⟨3,51,((List.range i).map fun i=>x i/c).map PV.rat,false⟩) w ?_ ?_
 ·refine⟨0,rfl,by omega,?_⟩
  refine Sz0 ?_
  exact⟨rfl,rfl⟩
 rintro _ J h ⟨i,rfl,hi,h5,h6,h3,hh⟩
 refine Sz3 h5 h6 dh ?_
 refine Qa (fun hg=> ?_) (fun hg=> ?_)
 ·have ao:i<w:=by omega
  have h1:=hx i ao
  refine Sz3 h5 h6 h3 ?_
  have c1:=NK (k:=k) h1 hc Oz h0
  repeat' first
   |refine jO ?_ ?_
   |refine Qb hP c1 ?_
   |simp+decide (disch:=try exact D3 h5 h6 h3) only[go_sem,h5,h6,h3]
  all_goals
   rw[Qq (f:=PV.rat) (y:=x i/c) (xs:=(List.range i).map fun i=>x i/c) (ty':=51) (fz:=false) (Tz1 hh) cP Oz (by simp) Oz Oz]
   refine Sz3 h5 h6 h3 ?_
   refine Qf (w-(i+1)) Oz ⟨i+1,rfl,by omega,?_⟩
   refine Sz1 h3 ?_
   simp only[Kbo,Kbd,Kbw]
 ·obtain rfl:i=w:=by omega
  refine nU h5 hh ?_
  refine Qc ?_ rfl
  rw[Kac (by simp),uV]
def Qs(x y:Nat->Rat):Nat->Rat
 |0=>0
 |n+1=>Qs x y n+x n*y n
theorem Ec{R m:Nat}{l:List Rat}(hl:l.length=R*m)(hR:R<=40)(hm:m<=40)(hs:∀q∈l,rs q<=1048576):Qd Tryz.prog 52 [PV.bO R m l] (· = .bool true):=by
 have vU:R*m<=40*40:=KaY hR hm
 have h:=Pg (r:=(R:Int)) (c:=(m:Int)) (l:=l.map qR) ⟨by rw[Kap];omega,qb.of hs⟩
 rw[<-vg,IZ hl hR hm]at h
 exact h
def qI(R w:Nat)(M:MF)(hp:HP):HP:=fun x=>if x=2000000 then some ⟨1,22,[],false⟩else if 3000000<=x/\x<3000000+R then some ⟨3,51,Qo PV.rat (M (x-3000000)) w,false⟩else hp x
def jv(R:Nat)(x:Nat):Bool:=decide (x=2000000∨(3000000<=x/\x<3000000+R))
theorem vq{R x:Nat}(h:jv R x=true):x=2000000∨(3000000<=x/\x<3000000+R):=of_decide_eq_true h
theorem QJ{R x:Nat}(h:jv R x=false):¬(x=2000000∨(3000000<=x/\x<3000000+R)):=of_decide_eq_false h
theorem tG{R x:Nat}(h:x<2000000):jv R x=false:=decide_eq_false Oz
theorem tL{R:Nat}:jv R 2000000=true:=decide_eq_true (.inl rfl)
theorem AM{R w r:Nat}{M:MF}{hp:HP}(h:r<R):qI R w M hp (3000000+r)=some ⟨3,51,Qo PV.rat (M r) w,false⟩:=by
 unfold qI
 rw[if_neg Oz,if_pos ⟨by omega,by omega⟩,Kbq]
theorem JE{R w:Nat}{M:MF}{hp:HP}:qI R w M hp 2000000=some ⟨1,22,[],false⟩:=by unfold qI;rw[if_pos rfl]
theorem wV{R w x:Nat}{M:MF}{hp:HP}(h:x<2000000):qI R w M hp x=hp x:=by
 unfold qI
 rw[if_neg Oz,if_neg Oz]
theorem Mm{R w:Nat}{π:Nat->Nat}(hπ:∀r,r<R->π r<R){β ty:Nat}(h:β∈(PV.aF 2000000 1 ty (Qy (bW 3000000 R w π))).refs++(PV.aF 2000000 1 ty (Qy (bW 3000000 R w π))).aQ):jv R β=true:=by
 refine decide_eq_true ?_
 simp only[PV.refs,PV.aQ,KaQ,KaG]at h
 rcases h with rfl|h
 ·exact .inl rfl
 ·obtain⟨r,hr,rfl⟩:=SO β h
  have:=hπ r hr
  exact .inr ⟨by omega,by omega⟩
theorem Mn{C:Ctx}{pr:Bool}{K:Qh}{fr:Fr}{hp:HP}{d:Nat}{l:List Rat}{R m:Nat}(hP:C.P=Tryz.prog)(hl:l.length=R*m)(hR:0<R)(df:R<=40)(hm:m<=40)(hd:d≠2000000)(ph:∀x,jv R x=true->hp x=none)
  (hK:K (ae (ae fr d (.aG 2000000 0 R)) 2000000 (.aF 2000000 1 22 (Qy (bW 3000000 R m id)))) (qI R m (Qu l m) hp)):fY C pr (.fn 54 [] []) [PV.bO R m l] (some d) fr hp K:=by
 refine Hv hP (Tj hl hR df hm) (fun _=>false) (jv R) [2000000] (fun x h=>by cases h) (fun x=>rfl) rfl (by simp) (fun x hx γ e ty xs e2=> ?_) (fun γ aj=> ?_) (fun s _=> .inl rfl) (fun x hx=> ?_) (fun _ _=>rfl) (fun r F H fT=> ?_)
 ·rw[KaB.1 hx]at e2;cases e2
 ·simp[PV.refs,PV.aQ]at aj
 ·have:=vq hx;exact⟨.inl (ph x hx),by omega⟩
 ·obtain⟨rfl,h1,h2,h3⟩:=fT
  rw[HJ]at h1
  have hr:∀β∈(F 2000000).refs++(F 2000000).aQ,jv R β=true:=fun β af=>by
   rw[h1]at af;exact Mm (fun r h=>h) af
  refine⟨fun x hx=> ?_,(fun γ e ty xs h=>by cases h),fun β af=> ?_,fun s hs=> ?_,?_⟩
  ·rcases vq hx with rfl|⟨k1,k2⟩
   ·rw[h2];simp
   ·have:=h3 (x-3000000) Oz
    rw[show 3000000+(x-3000000)=x by omega]at this
    rw[this];simp
  ·simp[PV.refs,PV.aQ]at af;subst af;exact decide_eq_true (.inl rfl)
  ·rw[KaB.1 hs]
   exact⟨by omega,⟨_,_,_,_,h1,SN _⟩,hr⟩
  ·have e1:rh [2000000] F (dB (iU (fun _=>false) fr) (some d) (.aG 2000000 0 R))=ae (ae fr d (.aG 2000000 0 R)) 2000000 (.aF 2000000 1 22 (Qy (bW 3000000 R m id))):=by
    funext s
    have apM:iU (fun _=>false) fr=fr:=by
     funext t;simp[iU,vv]
    rw[apM]
    by_cases e:s=2000000
    ·subst e;simp[rh,ae,h1]
    ·simp[rh,ae,dB,e]
   have e2:qf (fun _=>false) (jv R) H hp=qI R m (Qu l m) hp:=by
    funext x
    unfold qf qI
    cases hq:jv R x with
    | true=>
     rw[if_pos rfl]
     rcases vq hq with rfl|⟨k1,k2⟩
     ·rw[h2,if_pos rfl]
     ·have:=h3 (x-3000000) Oz
      rw[show 3000000+(x-3000000)=x by omega]at this
      rw[this,if_neg Oz,if_pos ⟨k1,k2⟩]
    |false=>
     have:=QJ hq
     rw[if_neg (by simp),if_neg (by simp),if_neg Oz,if_neg Oz]
   rw[e1,e2]
   exact hK
theorem Xq{C:Ctx}{Kt:Qh}{fr:Fr}{hp:HP}{d:Nat}{M:MF}{R w n K ty tyr:Nat}(hP:C.P=Tryz.prog)(hR:0<R)(df:R<=40)(hw:w<=40)(hn:n<=w)(hKb:K<=2^20)(hB:xt K R w n M)
  (hg:fr 2000000= .aF 2000000 1 ty (Qy (bW 3000000 R w id))) (h0:hp 2000000=some ⟨1,ty,[],false⟩) (fU:∀r,r<R->hp (3000000+r)=some ⟨3,tyr,Qo PV.rat (M r) w,false⟩)
  (hK:Kt (ae (iU (jv R) fr) d (PV.zS R w (Qt R M n))) (fun x=>if jv R x then none else hp x)):fY C false (.fn 55 [] []) [.aG 2000000 0 R,.int .i64 (n:Nat)] (some d) fr hp Kt:=by
 refine Hv hP (WX (ty:=ty) (tyr:=tyr) hR df hw hn hKb hB) (jv R) (fun _=>false) [] (fun x hx=> ?_) (fun x=> ?_) rfl (by simp) (fun x hx γ e ty xs e2=> ?_) (fun γ aj=> ?_) (fun s hs=> ?_) (fun x hx=>by cases hx) (fun h=>by cases h) (fun r F H fT=> ?_)
 ·rcases vq hx with rfl|⟨k1,k2⟩
  ·exact⟨_,h0,rfl,by omega⟩
  ·have:=fU (x-3000000) Oz
   rw[show 3000000+(x-3000000)=x by omega]at this
   exact⟨_,this,rfl,by omega⟩
 ·cases hq:jv R x with
  | true=>
   rw[if_pos rfl]
   rcases vq hq with rfl|⟨k1,k2⟩
   ·rw[if_pos rfl,h0]
   ·have:=fU (x-3000000) Oz
    rw[show 3000000+(x-3000000)=x by omega]at this
    rw[this,if_neg Oz,if_pos ⟨k1,k2⟩]
  |false=>
   have:=QJ hq
   rw[if_neg Oz,if_neg Oz];rfl
 ·simp only[KaG,Kb7,or_false]at hx
  rcases hx with rfl|rfl<;>cases e2
 ·simp[PV.refs,PV.aQ]at aj;subst aj;exact decide_eq_true (.inl rfl)
 ·by_cases e:s=2000000
  ·subst e
   refine .inr ⟨2000000,1,ty,_,?_,hg,SN _,fun γ aj=> ?_⟩
   ·rw[hg];simp[ae]
   ·rw[hg]at aj;exact Mm (fun r h=>h) aj
  ·left;simp[ae,e]
 ·subst fT
  refine⟨(fun x hx=>by cases hx),(fun γ e ty xs h=>by cases h),(fun β af=>by simp[PV.refs,PV.aQ]at af),(fun s hs=>by cases hs),?_⟩
  have e1:rh [] F (dB (iU (jv R) fr) (some d) (PV.zS R w (Qt R M n)))=ae (iU (jv R) fr) d (PV.zS R w (Qt R M n)):=by
   funext s;simp[rh,dB]
  have e2:qf (jv R) (fun _=>false) H hp=fun x=>if jv R x then none else hp x:=by
   funext x;simp[qf]
  rw[e1,e2]
  exact hK
end Go.Proofs.YtkoclfmjlolkhaaGreat
namespace Go.FW
open Go
variable {C C' : Ctx} {ρ ρ' : Nat -> Option Nat} {fr aC : Fr} {hp hp' : HP} {w : World} {K R : Qh}
theorem akr{γ e ty:Nat}{xs:List PV}(s:Nat)(j8:fr γ= .aF γ e ty xs)(wv:fr s= .np γ 0 0)(h2:aP γ=false)(hd:∀x∈xs,x.cells=x.aU/\x.aL=true/\∀c∈x.aU,c.nr=false):
  Wk fr hp (ae (gU γ fr) s (.mp γ 0 0)) (Qi hp γ ⟨e,ty,xs,true⟩):=by
 rintro C tmps w ⟨ρ,hs⟩
 have bb:=hs.cS γ
 rw[j8]at bb
 obtain⟨k0,he,b,hb,cur,cap,k1,k2,k3,k4,k5,k6,k7,k8,k9,qv,wB⟩:=bb
 obtain⟨hp',me⟩:∃f,f=Qi hp γ ⟨e,ty,xs,true⟩:=⟨_,rfl⟩
 rw[<-me]
 have ou:hp' γ=some ⟨e,ty,xs,true⟩:=by rw[me];simp[Qi]
 have po:∀β,β≠γ->hp' β=hp β:=fun β af=>by rw[me];simp[Qi,af]
 have hX:∀c,aK C ρ hp' c->aK C ρ hp c:=by
  rintro c (hx|⟨β,aw,g1,g2,g3⟩)
  ·exact .inl hx
  ·by_cases af:β=γ
   ·subst af;rw[ou]at g1;cases g1;cases g2
   ·rw[po β af]at g1;exact .inr ⟨β,aw,g1,g2,g3⟩
 have bA:mW w w (aK C ρ hp) (aK C ρ hp'):=⟨fun _ _ _=>rfl,fun c _ hn h=>hn (hX c h),Kaf _⟩
 have c1:∀β,β≠γ->pI ρ ρ hp hp' w w β:=fun β af=>⟨rfl,fun hb hq=>⟨hb,by rw[po β af];exact hq,rfl,Kaf _,fun _ _ _ h=>h,fun h=>⟨h,rfl,fun _ _=>rfl⟩⟩⟩
 have c0:∀β,vA ρ ρ hp hp' w w β:=fun β=>by
  by_cases af:β=γ
  ·subst af
   refine⟨rfl,fun hb1 hq=>⟨_,ou,?_,?_,fun _ _ _ h=>h⟩⟩
   ·rw[k2]at hq;cases hq;exact k4.symm
   ·rw[k2]at hq;cases hq;rw[k3];exact Kbv _
  ·exact(c1 β af).yB
 have bB:=hs.own γ hb k2
 refine⟨ρ,hs.sz,hs.ext,hs.fp,fun β hb1 af=> ?_,fun β δ c g1 g2 g3 g4=> ?_,fun i=> ?_⟩
 ·by_cases hq:β=γ
  ·subst hq
   rw[ou]at af;cases af
   refine⟨he,fun i x hx=> ?_,?_,(fun h=>by rw[h2]at h;cases h),fun _=>rfl⟩
   ·obtain⟨d1,d2,_⟩:=hd x (Kaj hx)
    exact⟨by rw[d1];exact qv i x hx,d2⟩
   ·have aY:=bB.cL
    rw[k1]at aY⊢
    refine⟨aY.1,aY.2.1,cur,cap,k6,k7,k8,k9,fun i x hx j y hy=> ?_⟩
    obtain⟨d1,_,d3⟩:=hd x (Kaj hx)
    rw[d1]at hy
    exact((wB i x hx j y hy).Wd (d3 y (Kaj hy))).sub hX
  ·rw[po β hq]at af
   obtain⟨q1,q2,q3,q4,q5⟩:=hs.own β hb1 af
   refine⟨q1,q2,?_,q4,q5⟩
   cases hr:ρ β with
   |none=>rw[hr]at q3;exact q3
   |some c=>rw[hr]at q3;exact⟨q3.1,q3.2.1,q3.2.2.move rfl rfl rfl rfl bA.rc⟩
 ·have f:∀β,hp' β≠none->hp β≠none:=fun β af=>by
   by_cases hq:β=γ
   ·subst hq;simp[k2]
   ·rwa[po β hq]at af
  exact hs.inj β δ c (f β g1) (f δ g2) g3 g4
 ·unfold ae
  split
  ·rename_i hi;subst hi
   have bb:=hs.cS i
   rw[wv]at bb
   obtain⟨_,b',aw,g1,g2,g3⟩:=bb
   rw[k2]at g2;cases g2
   exact⟨b',_,g1,ou,by rw[g3,k4]⟩
  ·have bb:=hs.cS i
   show Qm C ρ hp' w (gT γ (fr i)) _
   by_cases hn:∃e' ty' ys,fr i= .aF γ e' ty' ys
   ·obtain⟨e',ty',ys,hq⟩:=hn
    rw[hq];simp only[gT,if_true];trivial
   ·have e1:gT γ (fr i)=fr i:=by
     cases hq:fr i with
     |aF bo e' ty' ys=>
      simp only[gT]
      rw[if_neg]
      intro h;subst h;exact hn ⟨_,_,_,hq⟩
     |_=>rfl
    rw[e1]
    refine bb.move bA (fun β _=>⟨rfl,(c0 β).h⟩) (fun β _=>c0 β) (fun bo e' ty' ys hq=>c1 bo fun h=>by subst h;exact hn ⟨_,_,_,hq⟩)
theorem Ht{e by_ ty d β n:Nat}{xs ys:List PV}(hb:hp β=some ⟨e,ty,xs,false⟩)(h0:0<e)(hn:n=xs.length)(hy:ys≠[])(h1:(n+ys.length)*by_<=140737488355328)(h2:n+ys.length<=9223372036854775807)(hB:2000000<=β):
  iC e by_ ty (.ms β n) (.sl e ys) d fr hp K=K (ae (fJ β fr) d (.ms β (n+ys.length))) (Qi hp β ⟨e,ty,xs++ys,false⟩):=by
 subst hn
 have b1:bE β=true:=by simp[bE];omega
 have b2:aP β=false:=by simp[aP];omega
 simp[iC,jd,hb,h0,b1,b2,h1,h2,hy]
theorem Jr{γ e ty:Nat}{cs cs':List PV}(δ e' ty':Nat)(j8:fr γ= .aF γ e ty [.agg cs])(h1:hp δ=none)(h2:2000000<=δ)(h3:0<e')(hl:cs'.length=cs.length)(hc:∀p∈cs.zip cs',p.2=p.1∨(p.1= .al/\p.2= .aB δ 0 0)):
  Wk fr hp (ae fr γ (.aF γ e ty [.bm cs'])) (Qi hp δ ⟨e',ty',[],false⟩):=by
 have h:=Nf (fr:=fr) (hp:=hp) (γ:=γ) (e:=e) (ty:=ty) (xs:=[.agg cs]) (xs':=[.bm cs']) (fun x=>if x=δ then some (e',ty')else none) j8 (fun x y h=> ?_) rfl (fun i x x' k1 k2=> ?_)
 ·refine cast (congrArg (Wk fr hp (ae fr γ (.aF γ e ty [.bm cs']))) (funext fun x=> ?_)) h
  unfold Qi
  by_cases hx:x=δ
  ·subst hx;simp
  ·simp[hx]
 ·split at h
  ·rename_i hx;subst hx;cases h;exact⟨h1,h2,h3⟩
  ·cases h
 ·cases i with
  |succ i=>cases k1
  | zero=>
   cases k1;cases k2
   refine⟨hl,fun j y y' q1 q2=> ?_⟩
   have hz:(y,y')∈cs.zip cs':=by
    refine Kaj (i:=j) ?_
    rw[List.getElem?_zip_eq_some]
    exact⟨q1,q2⟩
   rcases hc _ hz with h|⟨h,h'⟩
   ·exact .inl h
   ·exact .inr ⟨h,δ,(e',ty'),by simp,h'⟩
theorem Fq{sk:List It}{r:RT}(s k:Nat)(l:List Nat){p D:PV}(h0:fr s=p)(h1:vt fr k p)(h2:qQ fr hp k p=D)(h3:zM fr k p=l)(hv:vc C R (.o r::sk) (ae fr s D) (bV hp l)):vc C R (.o (.wk r)::sk) fr hp:=by
 subst h0
 subst h2
 subst h3
 exact et (Hn s k h1) hv
theorem ahH{P:Program}(hP:C.P=P){g:FuncId}{args aZ:List PV}{d:Option Nat}{dt:Nat}{hb1:HB}{aT:PV->List PV->Prop}
  (h:jC P g aZ (fun _=> .undef) (Qi aA 1000000 hb1) fun r F H=>nI r/\∃xs,H 1000000=some ⟨hb1.e,hb1.ty,xs,false⟩/\xs.length=hb1.xs.length/\aT r xs) (h1:hp dt=some hb1) (f1:hb1.fz=false) (n1:hb1.xs≠[]) (B1:bE dt=true)
  (cl:args.map (b6 fun x=>if x=dt then 1000000 else x)=aZ) (iF:∀γ∈args.flatMap (fun x=>x.refs++x.aQ),γ=dt) (bx:aZ.length<=1000000)
  (hK:∀r xs,xs.length=hb1.xs.length->aT r xs->K (dB fr d r) (Qi hp dt ⟨hb1.e,hb1.ty,xs,false⟩)):fY C false (.fn g [] []) args d fr hp K:=by
 obtain⟨gv,n8⟩:∃f:Nat->Option Nat,f=fun x=>if x=1000000 then some dt else none:=⟨_,rfl⟩
 have ga:∀β γ,gv β=some γ->β=1000000/\γ=dt:=fun β γ hq=>by
  rw[n8]at hq;simp only at hq
  split at hq
  ·cases hq;rename_i e;exact⟨e,rfl⟩
  ·cases hq
 have g0:gv 1000000=some dt:=by rw[n8];rfl
 have y0:aP 1000000=true:=by decide
 have r0:dK 1000000=false:=by decide
 have B9:gn gv 1000000=some dt:=(vk r0).trans g0
 have uc:∀β γ,gn gv β=some γ->β=1000000/\γ=dt:=fun β γ hq=>ga β γ (zo hq).2
 refine FC hP h gv _ ⟨fun β γ hq=> ?_,fun β hq=> ?_,fun β bn γ q1 q2=> ?_⟩ (fun β γ hq=> ?_) cl (fun x hx γ aj=> ?_) (fun s _=> .inl rfl) bx (fun hq=>by cases hq) (fun ρ tmps w hs r F H aA _=> ?_)
 ·obtain⟨rfl,rfl⟩:=ga β γ hq
  exact⟨hb1,h1,by decide,(fun h=>by rw[r0]at h;cases h),fun _=>⟨by simp[Qi],f1,B1,fun h=>by rw[y0]at h;cases h⟩⟩
 ·by_cases e2:β=1000000
  ·subst e2;exact⟨_,g0⟩
  ·simp[Qi,FW.aA,e2]at hq
 ·rw[(ga β γ q1).1,(ga bn γ q2).1]
 ·obtain⟨rfl,rfl⟩:=ga β γ hq
  simp
 ·rw[iF γ (Kat.2 ⟨x,hx,aj⟩)]
  exact⟨_,g0⟩
 ·obtain⟨⟨⟨p1,p2⟩,p3⟩,xs,k1,k2,k4⟩:=aA
  obtain⟨eo,n7⟩:∃f:Nat->Option Nat,f=fun γ=>if γ=dt then some 1000000 else none:=⟨_,rfl⟩
  have ea:∀γ β,eo γ=some β->γ=dt/\β=1000000:=fun γ β hq=>by
   rw[n7]at hq;simp only at hq
   split at hq
   ·cases hq;rename_i e;exact⟨e,rfl⟩
   ·cases hq
  have xB:eo dt=some 1000000:=by rw[n7];simp
  refine⟨eo,fun x=>dt,dB fr d r,Qi hp dt ⟨hb1.e,hb1.ty,xs,false⟩,fun γ β hq=> ?_,fun β γ hq _=> ?_,fun γ β hq=> ?_,fun γ hq hg=> ?_,fun γ hq hg=> ?_,fun s=> ?_,hK r xs k2 k4⟩
  ·obtain⟨rfl,rfl⟩:=ea γ β hq
   exact⟨by simp[k1],rfl,B1,.inl ⟨y0,B9⟩⟩
  ·obtain⟨rfl,rfl⟩:=uc β γ hq
   exact xB
  ·obtain⟨rfl,rfl⟩:=ea γ β hq
   rw[k1];simp[Qi]
  ·obtain⟨β,af⟩:=hg
   obtain⟨rfl,rfl⟩:=uc β γ af
   rw[xB]at hq;cases hq
  ·have:γ≠dt:=fun e=>by subst e;rw[xB]at hq;cases hq
   simp[Qi,this]
  ·have bb:=hs.cS s
   have hn:∀γ e ty xs,fr s= .aF γ e ty xs->¬∃β,gn gv β=some γ:=fun γ e ty xs e0 ⟨β,af⟩=>by
    rw[e0]at bb
    obtain⟨_,_,b,hb,_,_,_,l2,l3,_⟩:=bb
    obtain⟨rfl,rfl⟩:=uc β γ af
    rw[h1]at l2;cases l2;exact n1 l3
   have ho:∀γ∈(fr s).refs++(fr s).aQ,(¬∃β,gn gv β=some γ)∨∃β hb aw,gn gv β=some γ/\aP β=true/\hp γ=some hb/\H β=some aw/\aw.e=hb.e/\hb.xs.length<=aw.xs.length:=fun γ _=>by
    by_cases e:γ=dt
    ·subst e;exact .inr ⟨_,_,_,B9,y0,h1,k1,rfl,by simp[k2]⟩
    ·left
     rintro⟨β,af⟩
     exact e (uc β γ af).2
   cases d with
   |none=>exact .inr (.inl ⟨(by simp),rfl,ho,hn⟩)
   | some d=>
    by_cases e:s=d
    ·subst e
     refine .inr (.inr (.inl ⟨rfl,?_,fun β af=>by rw[p1,p2]at af;cases af⟩))
     rw[p3]
     simp[dB,ae]
    ·exact .inr (.inl ⟨by simp;exact fun h=>e h.symm,by simp[dB,ae,e],ho,hn⟩)
theorem arF{τ:Nat->Nat}{γ bo ty B B' n w:Nat}(aj:τ γ=bo)(hB:∀r,r<n->τ (B+r)=B'+r):b6 τ (.aF γ 1 ty (Qy (bW B n w id)))= .aF bo 1 ty (Qy (bW B' n w id)):=by
 simp only[b6,aj]
 congr 1
 unfold Qy bW
 simp only[KbE]
 refine KaL fun r hr=> ?_
 simp[PV.aU,PV.cells,dy,fA,hB r (Kbz.1 hr)]
theorem Pk{P:Program}(hP:C.P=P){pr:Bool}{g:FuncId}{d:Option Nat}{R w ty e' tyr:Nat}{ys:Nat->List PV}{D:PV}(hR:R<=1000)
  (h:jC P g [.aG 1500000 0 R] (ae (fun _=> .undef) 1500000 (.aF 1500000 1 ty (Qy (bW 1600000 R w id))))
   (fun x=>if x=1500000 then some ⟨1,ty,[],true⟩else if 1600000<=x/\x<1600000+R then some ⟨e',tyr,ys (x-1600000),true⟩else none) (fun r _ _=>r=D)) (hD:nI D)
  (hg:fr 2000000= .aF 2000000 1 ty (Qy (bW 3000000 R w id))) (h0:hp 2000000=some ⟨1,ty,[],false⟩) (fU:∀r,r<R->hp (3000000+r)=some ⟨e',tyr,ys r,false⟩)
  (hK:K (dB fr d D) hp):fY C pr (.fn g [] []) [.aG 2000000 0 R] d fr hp K:=by
 obtain⟨gv,n8⟩:∃f:Nat->Option Nat,f=fun x=>if x=1500000 then some 2000000 else if 1600000<=x/\x<1600000+R then some (3000000+(x-1600000))else none:=⟨_,rfl⟩
 obtain⟨τ,sX⟩:∃f:Nat->Nat,f=fun x=>if x=2000000 then 1500000 else if 3000000<=x/\x<3000000+R then 1600000+(x-3000000)else x:=⟨_,rfl⟩
 have ga:∀β γ,gv β=some γ->(β=1500000/\γ=2000000)∨∃r,r<R/\β=1600000+r/\γ=3000000+r:=fun β γ hq=>by
  rw[n8]at hq;simp only at hq
  split at hq
  ·cases hq;rename_i e;exact .inl ⟨e,rfl⟩
  ·split at hq
   ·rename_i e;exact .inr ⟨β-1600000,by omega,by omega,(KbI hq).symm⟩
   ·cases hq
 have g0:gv 1500000=some 2000000:=by rw[n8];simp
 have g1:∀r,r<R->gv (1600000+r)=some (3000000+r):=fun r hr=>by
  rw[n8];simp only
  rw[if_neg (by omega),if_pos ⟨by omega,by omega⟩,Kbq]
 have t0:τ 2000000=1500000:=by rw[sX];simp
 have t1:∀r,r<R->τ (3000000+r)=1600000+r:=fun r hr=>by
  rw[sX];simp only
  rw[if_neg (by omega),if_pos ⟨by omega,by omega⟩,Kbq]
 have gm:∀γ∈(fr 2000000).refs++(fr 2000000).aQ,∃β,gv β=some γ:=fun γ aj=>by
  rw[hg]at aj
  simp only[PV.refs,PV.aQ,KaQ,KaG]at aj
  rcases aj with rfl|aj
  ·exact⟨_,g0⟩
  ·obtain⟨r,hr,rfl⟩:=SO γ aj
   exact⟨_,g1 r hr⟩
 refine Hu hP h gv τ (fun β γ hq=> ?_) (fun β hq=> ?_) (fun β bn γ q1 q2=> ?_) (fun β γ hq=> ?_) ?_ (fun x hx γ aj=> ?_) (fun s hs=> ?_) (by simp) (fun r F H hr=> ?_)
 ·rcases ga β γ hq with⟨rfl,rfl⟩|⟨r,hr,rfl,rfl⟩
  ·exact⟨by decide,_,h0,by simp⟩
  ·refine⟨by simp[dK];omega,_,fU r hr,?_⟩
   rw[if_neg (by omega),if_pos ⟨by omega,by omega⟩,Kbq]
 ·by_cases e:β=1500000
  ·subst e;exact⟨_,g0⟩
  ·by_cases e2:1600000<=β/\β<1600000+R
   ·obtain⟨r,rfl⟩:∃r,β=1600000+r:=⟨β-1600000,by omega⟩
    exact⟨_,g1 r (by omega)⟩
   ·rw[if_neg e,if_neg e2]at hq;exact absurd rfl hq
 ·rcases ga β γ q1 with⟨rfl,rfl⟩|⟨r,hr,rfl,rfl⟩<;>rcases ga bn _ q2 with⟨rfl,e⟩|⟨r',cQ,rfl,e⟩
  ·rfl
  ·omega
  ·omega
  ·omega
 ·rcases ga β γ hq with⟨rfl,rfl⟩|⟨r,hr,rfl,rfl⟩
  ·exact t0
  ·exact t1 r hr
 ·simp[b6,dy,t0]
 ·rw[KaB.1 hx]at aj
  simp[PV.refs,PV.aQ]at aj;subst aj;exact⟨_,g0⟩
 ·by_cases e:s=1500000
  ·subst e
   refine .inr ⟨2000000,by omega,?_,gm⟩
   rw[hg,arF t0 t1];simp[ae]
  ·left;simp[ae,e]
 ·subst hr;exact⟨hD,hK⟩
end Go.FW
namespace Go.FW
open Go
variable {C : Ctx} {fr : Fr} {hp : HP} {w : World} {K R : Qh}
abbrev PV.gS(w:Nat)(f:Nat->Rat):PV:= .sl 3 (Qo PV.rat f w)
theorem ahI{ty w n i d:Nat}{fz:Bool}{M:MF}(h:i<n):mm (some ⟨1,ty,Qo (PV.gS w) M n,fz⟩) 1 false i 0 d fr hp K=K (ae fr d (PV.gS w (M i))) hp:=by
 rw[ve (by rw[fW];exact h) (by omega) (by simp),pN];rfl
theorem ad8{d w n i:Nat}{k:IntKind}{M:MF}(h:i<n):iR 1 (.sl 1 (Qo (PV.gS w) M n)) (.int k (i:Nat)) d fr hp K=K (ae fr d (.pt [PV.gS w (M i)])) hp:=by
 have hl:i<(Qo (PV.gS w) M n).length:=by rw[fW];exact h
 simp only[iR]
 simp[hl,pN];rfl
attribute [go_sem] ahI ad8
theorem ad9{ty i d:Nat}{fz:Bool}{α:Type}{p:α->PV}{L:List α}(h:i<L.length):mm (some ⟨1,ty,L.map p,fz⟩) 1 false i 0 d fr hp K=K (ae fr d (eE false 1 0 (p (L[i]'h)))) hp:=by
 rw[ve (by rw[Kap];exact h) (by omega) (by simp),KbB]
theorem adE{ty i d:Nat}{fz:Bool}{L:List LF}(h:i<L.length):mm (some ⟨3,ty,L.map (fun f=>PV.rat f.1),fz⟩) 3 true i 0 d fr hp K=K (ae fr d (PV.rat (L[i]'h).1)) hp:=by
 rw[ve (by rw[Kap];exact h) (by omega) (by simp),KbB];rfl
theorem adF{ty i d w:Nat}{fz:Bool}{L:List LF}(h:i<L.length):mm (some ⟨1,ty,L.map (fun f=>PV.gS w f.2),fz⟩) 1 false i 0 d fr hp K=K (ae fr d (PV.gS w (L[i]'h).2)) hp:=by
 rw[ad9 h];rfl
attribute [go_sem] adE adF
def C3(x:Nat):Bool:=decide (x=2000000)
theorem ahJ{fr:Fr}:iU (fun _=>false) fr=fr:=by
 funext t;simp[iU,vv]
theorem ahK{P:Program}{pr:Bool}(hP:C.P=P){g:FuncId}{args:List PV}{d n:Nat}{hb:HB}(h:jC P g args (fun _=> .undef) aA fun r _ H=>r= .ms 2000000 n/\H 2000000=some hb)(ph:hp 2000000=none)
  (bA:∀x∈args,∀γ e ty xs,x≠ .aF γ e ty xs) (iF:args.flatMap (fun x=>x.refs++x.aQ)=[]) (bx:args.length<=1000000)
  (hK:K (ae fr d (.ms 2000000 n)) (Qi hp 2000000 hb)):fY C pr (.fn g [] []) args (some d) fr hp K:=by
 refine Hv hP h (fun _=>false) C3 [] (fun x h=>by cases h) (fun x=>rfl) rfl bx bA (fun γ aj=>by rw[iF]at aj;cases aj) (fun s _=> .inl rfl) (fun x hx=> ?_) (fun _ _=>rfl) (fun r F H fT=> ?_)
 ·have:=of_decide_eq_true hx;subst this;exact⟨.inl ph,by omega⟩
 ·obtain⟨rfl,h1⟩:=fT
  refine⟨fun x hx=> ?_,(fun γ e ty xs h=>by cases h),fun β af=> ?_,(fun s hs=>by cases hs),?_⟩
  ·have:=of_decide_eq_true hx;subst this;rw[h1];simp
  ·simp[PV.refs,PV.aQ]at af;subst af;exact decide_eq_true rfl
  ·have e1:rh [] F (dB (iU (fun _=>false) fr) (some d) (.ms 2000000 n))=ae fr d (.ms 2000000 n):=by
    funext s;simp[rh,dB,ahJ]
   have e2:qf (fun _=>false) C3 H hp=Qi hp 2000000 hb:=by
    funext x
    unfold qf Qi
    by_cases e:x=2000000
    ·subst e;rw[if_pos (show C3 2000000=true from decide_eq_true rfl),if_pos rfl,h1]
    ·rw[if_neg (by simp[C3,e]),if_neg (by simp),if_neg e]
   rw[e1,e2];exact hK
theorem aks:C3 2000000=true:=decide_eq_true rfl
attribute [go_sem] aks
end Go.FW
