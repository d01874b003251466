/- Part 8 of the proof of SquaresProofs: A3, FwNI. Own lemmas; no conditions. -/
import Derived.Test.YtkoclfmjlolkhaaGreatSquaresProofsPart7
set_option maxHeartbeats 1000000
set_option linter.unusedSimpArgs false
set_option linter.unusedVariables false
set_option linter.unnecessarySimpa false
set_option maxRecDepth 100000
namespace Go.Proofs.YtkoclfmjlolkhaaGreat
open Go Go.FW
def xm(M:MF)(R w:Nat):List PV:=(List.range R).map fun r=> .sl 3 (Qo PV.rat (M r) w)
theorem Xo{l:List Rat}{R m:Nat}(hl:l.length=R*m)(df:R<=40)(hm:m<=40):Qd Tryz.prog 54 [PV.bO R m l] (· = .sl 1 (xm (Qu l m) R m)):=by
 by_cases hR:R=0
 ·subst hR
  refine rX Qg Tryz.func54 rfl P5 Nz fun C hP=> ?_;simp only[Kf];refine ic ?_
  refine Sz0 ?_
  refine et (Wk.refl _ _) ?_
  refine et (Wk.refl _ _) ?_
  refine Sz0 ?_
  refine Ql dq [(4,4),(10,36)] [17] (fun n J hp=>J 10= .int .i64 (0:Nat)/\hp 7=some ⟨1,22,[],false⟩) 0 ?_ ?_
  ·refine Sz0 ?_
   exact⟨rfl,rfl⟩
  rintro _ J h ⟨bl,hh⟩
  refine Sz1 bl ?_
  refine tp ?_
  refine qc hh ?_
  exact Qc rfl rfl
 ·refine(Tj hl Oz df hm).data 2 (by simp) fun r F H ⟨h1,h2,h3,h4⟩=> ?_
  subst h1
  have hF:jV (.aG 2000000 0 R) F 2000000=F 2000000:=rfl
  refine⟨Mk (by rw[hF];exact h2) (DX _ _ _).symm Oz (fun x hx=> ?_),?_⟩
  ·obtain⟨j,hj,rfl⟩:=Kau.1 hx;show 2000000<=3000000+j;omega
  ·rw[NL (e':=3) (by rw[hF];exact h2) (DX _ _ _).symm (fun x=>Qo PV.rat (Qu l m (x-3000000)) m) (fun x hx=> ?_)]
   ·unfold xm rws
    rw[KbE]
    congr 1
    refine KaL fun j _=> ?_
    simp only[Function.comp,Kbq]
    rw[Kac (by rw[fW];omega)]
   ·obtain⟨j,hj,rfl⟩:=Kau.1 hx
    refine⟨51,false,?_⟩
    simp only[Kbq]
    exact h4 j (Kbz.1 hj)
theorem ZQ{x y:Nat->Rat}{c:Rat}{w ty1 ty2 k K:Nat}(hw:0<w)(GO:w<=2^30)(hx:∀i,i<w->rs (x i)<=k)(hy:∀i,i<w->rs (y i)<=k)(hc:rs c<=k)(hk:k<=2^33):
  JW Tryz.prog 117 [.ms 1000000 w,.ms 1500001 w,PV.rat c] ⟨3,ty1,Qo PV.rat x w,false⟩ ⟨3,ty2,Qo PV.rat y w,false⟩ (fun r xs=>r= .aI []/\xs=Qo PV.rat (fun i=>x i-c*y i) w):=by
 unfold JW
 refine tr Qg Tryz.func117 rfl O9 Nz fun C hP=> ?_;simp only[Kc];refine ic ?_
 refine Sz0 ?_
 refine Qb hP (mH (a:=c) Oz) ?_
 refine Sz0 ?_
 refine Qa (fun h0=> ?_) (fun h0=> ?_)
 ·refine Sz0 ?_
  refine Es ?_
  refine Sz0 ?_
  refine⟨_,rfl,rfl,nC fun i hi=> ?_⟩
  rw[dz.1 h0,KcB,KcI,Rat.neg_zero,Rat.add_zero]
 refine Sz0 ?_
 refine Ql dq [(6,6),(12,29)] [] (fun n J hp=>∃i,n=w-i/\i<=w/\J 12= .int .i64 (i:Nat)/\hp 5=some ⟨3,51,[PV.rat c],false⟩/\hp 1000000=some ⟨3,ty1,Qo PV.rat (fun j=>if j<i then x j-c*y j else x j) w,false⟩/\hp 1500001=some ⟨3,ty2,Qo PV.rat y w,true⟩) w ?_ ?_
 ·refine⟨0,rfl,by omega,?_⟩
  refine Sz0 ?_
  exact⟨rfl,Dr (nC fun k _=>(if_neg (Nat.not_lt_zero k)).symm)⟩
 rintro _ J h ⟨i,rfl,hi,eY,h5,lz,jM⟩
 refine Sz1 eY ?_
 refine Qa (fun hg=> ?_) (fun hg=> ?_)
 ·have ao:i<w:=by omega
  have hm:=eX c (y i)
  have h1:=hx i ao
  have h2:=hy i ao
  refine Sz4 eY h5 lz jM ?_
  rw[if_neg (KcS i)]
  refine Qb hP (nL (k:=k) hc h2 Oz) ?_
  refine Sz4 eY h5 lz jM ?_
  refine Qb hP (Dq (k:=2*k) Oz Oz Oz) ?_
  refine Sz4 eY h5 lz jM ?_
  rw[Fp ao]
  refine Sz1 eY ?_
  refine Qf (w-(i+1)) Oz ⟨i+1,rfl,by omega,?_⟩
  refine Sz2 h5 jM ?_
  refine Dr (nC fun k _=> ?_)
  by_cases e:k=i
  ·subst e;rw[if_pos rfl,if_pos Oz]
  ·rw[if_neg e]
   by_cases e2:k<i
   ·rw[if_pos e2,if_pos Oz]
   ·rw[if_neg e2,if_neg Oz]
 ·obtain rfl:i=w:=by omega
  refine Sz1 eY ?_
  refine Es ?_
  refine Sz2 lz jM ?_
  exact⟨_,rfl,by rw[fW,fW],nC fun k hk=>if_pos hk⟩
end Go.Proofs.YtkoclfmjlolkhaaGreat
namespace Go.FW
open Go
variable {C : Ctx} {ρ : Nat -> Option Nat} {fr aC : Fr} {hp : HP} {w : World} {K R : Qh}
def Al(p:PV)(γ n:Nat)(ag:Bool)(i o d:Nat)(fr:Fr)(hp:HP)(K:Qh):Prop:=match p with
 | .aF bo e _ xs=>bo=γ/\∃h:i<xs.length,o+n<=e/\(ag=false->n=1)/\K (ae fr d (rI ag n o (xs[i]'h))) hp
 |_=>False
theorem akj{γ n i o d:Nat}{ag:Bool}:iW n ag (.np γ i o) d fr hp K=Al (fr γ) γ n ag i o d fr hp K:=by
 simp only[iW,Al]
 cases fr γ<;>rfl
def wE(p:PV)(h:Option HB)(v:Option (List PV))(γ n i o:Nat)(fr:Fr)(hp:HP)(K:Qh):Prop:=match p with
 | .aF bo e ty xs=>bo=γ/\(∃hb,h=some hb/\hb.fz=false)/\∃h:i<xs.length,o+n<=e/\match v with
   |some cs=>cs.length=n/\K (ae (gU γ fr) γ (.aF γ e ty (xs.set i (fA (oP (xs[i]'h).aU o cs))))) hp
   |none=>False
 |_=>False
theorem akk{γ n i o:Nat}{v:PV}:ow n (.np γ i o) v fr hp K=wE (fr γ) (hp γ) (eU v) γ n i o fr hp K:=by
 simp only[ow,wE]
 cases fr γ<;>rfl
theorem akK{γ e ty n o d:Nat}{ag:Bool}{x:PV}(h1:o+n<=e)(h2:ag=true∨n=1):Al (.aF γ e ty [x]) γ n ag 0 o d fr hp K=K (ae fr d (rI ag n o x)) hp:=by
 have:(ag=false->n=1):=fun h=>h2.resolve_left (by simp[h])
 simp[Al,h1]
 exact fun _=>this
theorem akL{γ e ty n o e0 ty0:Nat}{x:PV}{xs0 cs:List PV}(h1:o+n<=e)(h2:cs.length=n):wE (.aF γ e ty [x]) (some ⟨e0,ty0,xs0,false⟩) (some cs) γ n 0 o fr hp K=K (ae (gU γ fr) γ (.aF γ e ty [fA (oP x.aU o cs)])) hp:=by
 simp[wE,h1,h2]
theorem ala{γ ty B n w r d:Nat}{π:Nat->Nat}(h:r<n):Al (.aF γ 1 ty (Qy (bW B n w π))) γ 1 false r 0 d fr hp K=K (ae fr d (.ms (B+π r) w)) hp:=by
 have hl:r<(Qy (bW B n w π)).length:=by simpa[Qy,bW]using h
 simp only[Al,hl,exists_true_left,true_and,Kaf,Kbb,implies_true]
 simp[rI,Qy,bW,PV.aU,PV.cells]
theorem alb{γ ty B n w r m e0 ty0:Nat}{π:Nat->Nat}{xs0:List PV}(h:r<n):wE (.aF γ 1 ty (Qy (bW B n w π))) (some ⟨e0,ty0,xs0,false⟩) (some [.ms (B+m) w]) γ 1 r 0 fr hp K=K (ae (gU γ fr) γ (.aF γ 1 ty (Qy (bW B n w fun x=>if x=r then m else π x)))) hp:=by
 have hl:r<(Qy (bW B n w π)).length:=by simpa[Qy,bW]using h
 have e:(bW B n w π).set r (B+m,w)=bW B n w fun x=>if x=r then m else π x:=by
  refine Kbg (by simp[bW]) fun j h1 h2=> ?_
  rw[KcX,NN,NN]
  split
  ·rename_i e;subst e;simp
  ·rename_i e;rw[if_neg fun e2=>e e2.symm]
 rw[<-e]
 simp only[wE,hl,exists_true_left,true_and,Kaf,Kbb,KaC,exists_eq_left',KaP,Kbn]
 simp[fA,oP,Qy,PV.aU,PV.cells,List.map_set]
theorem arM:
  (∀(γ o n:Nat),eU (.aG γ o n)=some [.aG γ o n])/\
  (∀(k:IntKind)(n:Int),eU (.int k n)=some [.int k n])/\
  (∀(b:Bool),eU (.bool b)=some [.bool b])/\
  (eU .al=some [.al])/\
  (∀(e:Nat)(xs:List PV),eU (.sl e xs)=some [.sl e xs])/\
  (∀(cs:List PV),eU (.pt cs)=some [.pt cs])/\
  (∀(cs:List PV),eU (.agg cs)=some cs):=by
 refine⟨?_,?_,?_,?_,?_,?_,?_⟩<;>intros<;>rfl
theorem akl{β o n:Nat}(h:1000000<=β):eU (.aB β o n)=some [.aB β o n]:=by simp[eU,bE,h]
theorem agW{cs:List PV}:eU (.bm cs)=if cs.all PV.iX then some cs else none:=rfl
theorem alc:(∀(k:IntKind)(n:Int),(PV.int k n).iX=true)/\(∀b:Bool,(PV.bool b).iX=true)/\(PV.al.iX=true)/\(∀(e:Nat)(xs:List PV),(PV.sl e xs).iX=true)/\(∀(β o n:Nat),(PV.aB β o n).iX=true)/\(∀(β o n:Nat),(PV.aG β o n).iX=true)/\(∀cs:List PV,(PV.pt cs).iX=true)/\(PV.undef.iX=false):=by
 refine⟨?_,?_,?_,?_,?_,?_,?_,?_⟩<;>intros<;>rfl
theorem ald:(∀(k:IntKind)(n:Int),(PV.int k n).nr=false)/\(∀b:Bool,(PV.bool b).nr=false)/\(PV.al.nr=false)/\(∀(e:Nat)(xs:List PV),(PV.sl e xs).nr=false)/\(∀(β o n:Nat),(PV.aB β o n).nr=true)/\(∀(β o n:Nat),(PV.aG β o n).nr=true)/\(∀cs:List PV,(PV.pt cs).nr=false)/\(PV.undef.nr=true):=by
 refine⟨?_,?_,?_,?_,?_,?_,?_,?_⟩<;>intros<;>rfl
theorem abK{cs:List PV}(h:cs.any PV.nr=true):nF cs= .bm cs:=by simp[nF,h]
theorem abL{cs:List PV}(h:cs.any PV.nr=false):nF cs= .agg cs:=by simp[nF,h]
theorem akm{a b:PV}{cs:List PV}:fA (a::b::cs)=nF (a::b::cs):=rfl
theorem akn{a:PV}:fA [a]=a:=rfl
theorem ale{n o:Nat}{x:PV}:rI true n o x=nF ((x.aU.drop o).take n):=rfl
theorem alf{n o:Nat}{x:PV}:rI false n o x=(x.aU.drop o).headD .undef:=rfl
theorem agX{l cs:List PV}{o:Nat}:oP l o cs=l.take o++cs++l.drop (o+cs.length):=rfl
theorem aaw{cs:List PV}:(PV.bm cs).aU=cs:=rfl
theorem aax{cs:List PV}:(PV.agg cs).aU=cs:=rfl
theorem alg{z:List PV}{ps:List (Nat×Nat×PV)}{d:Nat}(h:ps.any (fun p=>p.2.2.pF)=true):mV z ps d fr hp K=(uZ z.length ps/\K (ae fr d (.bm (iP z (ps.map fun p=>(p.1,(eU p.2.2).getD []))))) hp):=by
 simp only[mV,if_pos h]
theorem Xp{len:Nat}:uZ len []=True:=by simp[uZ]
theorem WW{len o n:Nat}{v:PV}{ps:List (Nat×Nat×PV)}:uZ len ((o,n,v)::ps)=((∃cs,eU v=some cs/\cs.length=n/\o+n<=len)/\uZ len ps):=by simp[uZ]
theorem ako:(∀(γ o n:Nat),(PV.aG γ o n).pF=true)/\(∀(cs:List PV),(PV.bm cs).pF=true)/\(∀(β o n:Nat),(PV.aB β o n).pF=decide (2000000<=β))/\(∀(cs:List PV),(PV.agg cs).pF=false)/\(∀(k:IntKind)(n:Int),(PV.int k n).pF=false)/\(∀b:Bool,(PV.bool b).pF=false)/\(PV.al.pF=false)/\(∀(e:Nat)(xs:List PV),(PV.sl e xs).pF=false):=by
 refine⟨?_,?_,?_,?_,?_,?_,?_,?_⟩<;>intros<;>rfl
theorem agY:(∀(β:Nat)(k:IntKind)(n:Int),jc β (.int k n)= .int k n)/\(∀(β:Nat)(b:Bool),jc β (.bool b)= .bool b)/\(∀β:Nat,jc β .al= .al)/\(∀(β e:Nat)(xs:List PV),jc β (.sl e xs)= .sl e xs)/\(∀(β γ o n:Nat),jc β (.aB γ o n)=if γ=β then .undef else .aB γ o n)/\(∀(β γ o n:Nat),jc β (.aG γ o n)=if γ=β then .undef else .aG γ o n):=by
 refine⟨?_,?_,?_,?_,?_,?_⟩<;>intros<;>rfl
theorem agZ{β γ e ty:Nat}{x:PV}(h:γ≠β):cT β (.aF γ e ty [x])= .aF γ e ty [fA (x.aU.map (jc β))]:=by simp[cT,h]
theorem ag0{β γ ty B n w:Nat}{π:Nat->Nat}(h:γ≠β)(h2:β<B):cT β (.aF γ 1 ty (Qy (bW B n w π)))= .aF γ 1 ty (Qy (bW B n w π)):=by
 simp only[cT,if_neg h]
 congr 1
 conv=>rhs;rw[<-List.map_id (Qy (bW B n w π))]
 refine KaL fun x hx=> ?_
 obtain⟨y,hy,rfl⟩:=Kau.1 hx
 obtain⟨r,hr,rfl⟩:=Kau.1 hy
 simp only[PV.aU,PV.cells,Kbd,Kbw,jc,fA]
 rw[if_neg (by omega)];rfl
theorem VP{β δ γ ty B n w:Nat}{π:Nat->Nat}(af:β<1000000)(hB:2000000<=B)(aj:2000000<=γ):b6 (ju β δ) (.aF γ 1 ty (Qy (bW B n w π)))= .aF γ 1 ty (Qy (bW B n w π)):=by
 have e1:ju β δ γ=γ:=by unfold ju;rw[if_neg (by omega)]
 simp only[b6,e1]
 congr 1
 conv=>rhs;rw[<-List.map_id (Qy (bW B n w π))]
 refine KaL fun x hx=> ?_
 obtain⟨y,hy,rfl⟩:=Kau.1 hx
 obtain⟨r,hr,rfl⟩:=Kau.1 hy
 refine JX (.inr ⟨_,_,rfl⟩) fun bn n' h=> ?_
 cases h;unfold ju;rw[if_neg (by omega)]
theorem alh{δ γ ty B n w:Nat}{π:Nat->Nat}(h:γ≠δ)(om:δ<B):gF δ (.aF γ 1 ty (Qy (bW B n w π)))= .aF γ 1 ty (Qy (bW B n w π)):=by
 simp only[gF,if_neg h]
 congr 1
 conv=>rhs;rw[<-List.map_id (Qy (bW B n w π))]
 refine KaL fun x hx=> ?_
 obtain⟨y,hy,rfl⟩:=Kau.1 hx
 obtain⟨r,hr,rfl⟩:=Kau.1 hy
 simp only[PV.aU,PV.cells,Kbd,Kbw,iT,fA]
 rw[if_neg (by omega)];rfl
theorem abM{β:Nat}{cs:List PV}:cd β (.bm cs)= .bm cs:=rfl
theorem ad4{γ:Nat}{cs:List PV}:gF γ (.bm cs)= .bm (cs.map (iT γ)):=rfl
theorem abN{β:Nat}{cs:List PV}:cT β (.bm cs)= .bm (cs.map (jc β)):=rfl
theorem ali:(∀(γ:Nat)(k:IntKind)(n:Int),iT γ (.int k n)= .int k n)/\(∀(γ:Nat)(b:Bool),iT γ (.bool b)= .bool b)/\(∀γ:Nat,iT γ .al= .al)/\(∀(γ e:Nat)(xs:List PV),iT γ (.sl e xs)= .sl e xs)/\(∀(γ β o n:Nat),iT γ (.aB β o n)=if β=γ then .aG γ o n else .aB β o n)/\(∀(γ β o n:Nat),iT γ (.aG β o n)= .aG β o n):=by
 refine⟨?_,?_,?_,?_,?_,?_⟩<;>intros<;>rfl
theorem akp{γ i o off d:Nat}:su off (.np γ i o) d fr hp K=K (ae fr d (.np γ i (o+off))) hp:=rfl
theorem abO{γ bo e ty:Nat}{xs:List PV}:gT γ (.aF bo e ty xs)=if bo=γ then .undef else .aF bo e ty xs:=rfl
theorem ace{γ:Nat}{cs:List PV}:gT γ (.bm cs)= .bm cs:=rfl
attribute [go_sem] akp abO ace false_and List.all_cons List.all_nil abM ad4 abN ali exists_eq_left' akj akk akK akL ala alb arM akl agW alc ald abK abL akm akn ale alf agX aaw aax alg Xp WW ako agY agZ ag0 VP alh
theorem Pe{p:PV}(h:uK p):iS p=p:=by
 obtain⟨h1,h2,h3,h4⟩:=h
 have h5:(p.refs.any lD||p.aQ.any mj)=false:=by
  rw[Bool.or_eq_false_iff,Kb2,Kb2]
  exact⟨fun x hx=>by simp[h1 x hx],fun x hx=>by simp[h2 x hx]⟩
 unfold iS
 split
 ·exact absurd rfl (h3 _ _ _ _)
 ·exact absurd rfl (h4 _)
 ·rw[h5];rfl
theorem oD{V W:List (Nat×Nat)}{B B':List Nat}{X Z F:Fr}(h:xr V W=true)(hB:(B'.all B.contains)=true):aR V X (cM B' (aR W Z (cM B F)))=aR W (aR V X (cM B' Z)) (cM B F):=by
 have e1:fM (aR W Z (cM B F))=aR W (fM Z) (cM B F):=by
  funext s
  show iS (aR W Z (cM B F) s)=_
  unfold aR
  split
  ·rfl
  ·exact Pe (zn B F s)
 unfold cM
 rw[show fM (aR W Z (bF B (fM F)))=aR W (fM Z) (bF B (fM F))from e1,H7 h hB]
theorem Tk{c:PV}{x y:SC}{sk:List It}(cb:eI R sk)(W:List (Nat×Nat))(B:List Nat)(M:Fr->HP->Prop)
  (h:kT C R c x y (.el (lN W (cM B fr) M)::sk) (aR W fr (cM B fr)) hp) (hM:∀J hp,M J hp->vc C R sk (aR W J (cM B fr)) hp):kT C R c x y sk fr hp:=by
 refine wS (lN W (cM B fr) M) ?_ ?_
 ·unfold kT sg at h⊢
  split at h
  ·exact⟨fun e=>mG cb.1 _ _ _ _ _ _ (Kaf _) (.c x (.el u9 cb.2)) (Fl W B) (h.1 e),fun e=>mG cb.1 _ _ _ _ _ _ (Kaf _) (.c y (.el u9 cb.2)) (Fl W B) (h.2 e)⟩
  ·exact h
 ·rintro aC hp' ⟨J,h1,h2⟩
  exact mG cb.1 _ _ _ _ _ _ (Kaf _) cb.2 h1 (hM J hp' h2)
theorem ahB{γ e ty:Nat}{cs cs':List PV}(δ e' ty':Nat)(j8:fr γ= .aF γ e ty [.bm cs])(h1:hp δ=none)(h2:2000000<=δ)(h3:0<e')(hl:cs'.length=cs.length)(hc:∀p∈cs.zip cs',p.2=p.1∨(p.1= .al/\p.2= .aB δ 0 0)):
  Wk fr hp (ae fr γ (.aF γ e ty [.bm cs'])) (Qi hp δ ⟨e',ty',[],false⟩):=by
 have h:=Nf (fr:=fr) (hp:=hp) (γ:=γ) (e:=e) (ty:=ty) (xs:=[.bm cs]) (xs':=[.bm cs']) (fun x=>if x=δ then some (e',ty')else none) j8 (fun x y h=> ?_) rfl (fun i x x' k1 k2=> ?_)
 ·refine cast (congrArg (Wk fr hp (ae fr γ (.aF γ e ty [.bm cs']))) (funext fun x=> ?_)) h
  unfold Qi
  by_cases hx:x=δ
  ·subst hx;simp
  ·simp[hx]
 ·split at h
  ·rename_i hx;subst hx;cases h;exact⟨h1,h2,h3⟩
  ·cases h
 ·cases i with
  |succ i=>cases k1
  | zero=>
   cases k1;cases k2
   refine⟨hl,fun j y y' q1 q2=> ?_⟩
   have hz:(y,y')∈cs.zip cs':=by
    refine Kaj (i:=j) ?_
    rw[List.getElem?_zip_eq_some]
    exact⟨q1,q2⟩
   rcases hc _ hz with h|⟨h,h'⟩
   ·exact .inl h
   ·exact .inr ⟨h,δ,(e',ty'),by simp,h'⟩
theorem aay{l:List Nat}{x:Nat}(hl:∀y∈l,2000000<=y)(hx:x<2000000):bV hp l x=hp x:=by
 have:x ∉ l:=fun h=>by have:=hl x h;omega
 unfold bV
 cases hp x<;>simp[this]
theorem akq{sk:List It}{r:RT}(s k:Nat){p D:PV}(h0:fr s=p)(ho:vt fr k p/\qQ fr hp k p=D/\∀x∈zM fr k p,2000000<=x)(hv:∀l,(∀x∈l,2000000<=x)->vc C R (.o r::sk) (ae fr s D) (bV hp l)):vc C R (.o (.wk r)::sk) fr hp:=by
 subst h0
 obtain⟨h1,h2,h3⟩:=ho
 refine et (Hn s k h1) ?_
 rw[h2]
 exact hv _ h3
theorem mB{V W:List (Nat×Nat)}{B:List Nat}{X Z F:Fr}(h:xr V W=true):aR V X (fM (aR W Z (bF B (fM F))))=aR W (aR V X (fM Z)) (bF B (fM F)):=by
 have e1:fM (aR W Z (cM B F))=aR W (fM Z) (cM B F):=by
  funext s
  show iS (aR W Z (cM B F) s)=_
  unfold aR
  split
  ·rfl
  ·exact Pe (zn B F s)
 rw[show fM (aR W Z (bF B (fM F)))=aR W (fM Z) (bF B (fM F))from e1,eP h]
theorem oC{V W:List (Nat×Nat)}{X Z F:Fr}(h:xr V W=true):aR V X (fM (aR W Z (fM F)))=aR W (aR V X (fM Z)) (fM F):=by
 have:=mB (V:=V) (W:=W) (B:=[]) (X:=X) (Z:=Z) (F:=F) h
 simpa only[fX]using this
theorem acf{γ:Nat}{F:Fr}:gU γ (fM F)=fM F:=by
 have:=Mr (γ:=γ) (B:=[]) (F:=F)
 simpa only[cM,fX]using this
theorem acg{β:Nat}{F:Fr}(h:2000000<=β):fJ β (fM F)=fM F:=by
 have:=Mq (B:=[]) (F:=F) h
 simpa only[cM,fX]using this
attribute [go_sem] acf acg
theorem alj:(∀(k:IntKind)(n:Int),(PV.int k n).aQ=[])/\(∀b:Bool,(PV.bool b).aQ=[])/\(PV.al.aQ=[])/\(PV.undef.aQ=[])/\(∀(e:Nat)(xs:List PV),(PV.sl e xs).aQ=[])/\(∀cs:List PV,(PV.agg cs).aQ=[])/\(∀cs:List PV,(PV.aI cs).aQ=[])/\(∀cs:List PV,(PV.pt cs).aQ=[])/\
  (∀(β o n:Nat),(PV.aB β o n).aQ=[])/\(∀(β o n:Nat),(PV.mp β o n).aQ=[])/\(∀(β o n:Nat),(PV.aG β o n).aQ=[β])/\(∀(β o n:Nat),(PV.np β o n).aQ=[β]):=by
 refine⟨?_,?_,?_,?_,?_,?_,?_,?_,?_,?_,?_,?_⟩<;>intros<;>rfl
attribute [go_sem] alj
theorem ad5{d w i:Nat}{k:IntKind}{f:Nat->Rat}(h:i<w):iR 3 (.sl 3 (Qo PV.rat f w)) (.int k (i:Nat)) d fr hp K=K (ae fr d (.pt (PV.rat (f i)).cells)) hp:=by
 unfold Qo
 rw[zf (by omega) (by simp;omega)]
 simp
theorem ad6{α:Type}{p:α->PV}{f:Nat->α}{w d e:Nat}:pW (.sl e (Qo p f w)) d fr hp K=K (ae fr d (.int .i64 (w:Nat))) hp:=by
 simp[pW,Qo]
attribute [go_sem] ad5 ad6
theorem ahC{P:Program}(hP:C.P=P){pr:Bool}{g:FuncId}{args aZ:List PV}{d:Option Nat}{γ1:Nat}{hb1:HB}{D:PV}(h:jC P g aZ (fun _=> .undef) (Qi aA 1500001 ⟨hb1.e,hb1.ty,hb1.xs,true⟩) (fun r _ _=>r=D))(hD:nI D)(h1:hp γ1=some hb1)
  (cl:args.map (b6 fun x=>if x=γ1 then 1500001 else x)=aZ) (iF:∀γ∈args.flatMap (fun x=>x.refs++x.aQ),γ=γ1) (bx:aZ.length<=1000000) (hK:K (dB fr d D) hp):fY C pr (.fn g [] []) args d fr hp K:=by
 have ga:∀β γ,(fun β=>if β=1500001 then some γ1 else none:Nat->Option Nat) β=some γ->β=1500001/\γ=γ1:=fun β γ hq=>by
  simp only at hq
  split at hq
  ·cases hq;rename_i e;exact⟨e,rfl⟩
  ·cases hq
 refine Hu hP h (fun β=>if β=1500001 then some γ1 else none) _ (fun β γ hq=> ?_) (fun β hq=> ?_) (fun β bn γ q1 q2=> ?_) (fun β γ hq=> ?_) cl (fun x hx γ aj=> ?_) (fun s _=> .inl rfl) bx (fun r F H hr=> ?_)
 ·obtain⟨rfl,rfl⟩:=ga β γ hq
  exact⟨by decide,hb1,h1,by simp[Qi]⟩
 ·by_cases e:β=1500001
  ·exact⟨γ1,by simp[e]⟩
  ·simp[Qi,FW.aA,e]at hq
 ·rw[(ga β γ q1).1,(ga bn γ q2).1]
 ·obtain⟨rfl,rfl⟩:=ga β γ hq;simp
 ·rw[iF γ (Kat.2 ⟨x,hx,aj⟩)]
  exact⟨1500001,by simp⟩
 ·subst hr;exact⟨hD,hK⟩
theorem Pf{P:Program}(hP:C.P=P){pr:Bool}{g:FuncId}{args aZ:List PV}{d:Option Nat}{γ1 γ2:Nat}{hb1 hb2:HB}{D:PV}(h:jC P g aZ (fun _=> .undef) (Qi (Qi aA 1500000 ⟨hb1.e,hb1.ty,hb1.xs,true⟩) 1500001 ⟨hb2.e,hb2.ty,hb2.xs,true⟩) (fun r _ _=>r=D))(hD:nI D)(h1:hp γ1=some hb1)(h2:hp γ2=some hb2)(aH:γ1≠γ2)
  (cl:args.map (b6 fun x=>if x=γ1 then 1500000 else if x=γ2 then 1500001 else x)=aZ) (iF:∀γ∈args.flatMap (fun x=>x.refs++x.aQ),γ=γ1∨γ=γ2) (bx:aZ.length<=1000000) (hK:K (dB fr d D) hp):fY C pr (.fn g [] []) args d fr hp K:=by
 have ga:∀β γ,(fun β=>if β=1500000 then some γ1 else if β=1500001 then some γ2 else none:Nat->Option Nat) β=some γ->(β=1500000/\γ=γ1)∨(β=1500001/\γ=γ2):=fun β γ hq=>by
  simp only at hq
  split at hq
  ·cases hq;rename_i e;exact .inl ⟨e,rfl⟩
  ·split at hq
   ·cases hq;rename_i e;exact .inr ⟨e,rfl⟩
   ·cases hq
 refine Hu hP h (fun β=>if β=1500000 then some γ1 else if β=1500001 then some γ2 else none) _ (fun β γ hq=> ?_) (fun β hq=> ?_) (fun β bn γ q1 q2=> ?_) (fun β γ hq=> ?_) cl (fun x hx γ aj=> ?_) (fun s _=> .inl rfl) bx (fun r F H hr=> ?_)
 ·rcases ga β γ hq with⟨rfl,rfl⟩|⟨rfl,rfl⟩
  ·exact⟨by decide,hb1,h1,by simp[Qi]⟩
  ·exact⟨by decide,hb2,h2,by simp[Qi]⟩
 ·by_cases e:β=1500000
  ·exact⟨γ1,by simp[e]⟩
  ·by_cases e2:β=1500001
   ·exact⟨γ2,by simp[e2]⟩
   ·simp[Qi,FW.aA,e,e2]at hq
 ·rcases ga β γ q1 with⟨rfl,rfl⟩|⟨rfl,rfl⟩<;>rcases ga bn _ q2 with⟨rfl,e⟩|⟨rfl,e⟩
  ·rfl
  ·exact absurd e aH
  ·exact absurd e.symm aH
  ·rfl
 ·rcases ga β γ hq with⟨rfl,rfl⟩|⟨rfl,rfl⟩
  ·simp
  ·rw[if_neg (fun e=>aH e.symm),if_pos rfl]
 ·rcases iF γ (Kat.2 ⟨x,hx,aj⟩)with rfl|rfl
  ·exact⟨1500000,by simp⟩
  ·exact⟨1500001,by simp⟩
 ·subst hr;exact⟨hD,hK⟩
theorem ahD{i c:Nat}(h:c<1600000):(1600000+i=c)=False:=by simp;omega
attribute [go_sem] ahD
end Go.FW
