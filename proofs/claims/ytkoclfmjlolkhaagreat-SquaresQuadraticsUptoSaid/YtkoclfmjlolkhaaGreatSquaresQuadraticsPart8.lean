/- Part 8 of the proof of SquaresQuadratics: A3, FwNI. Own lemmas; no conditions. -/
import Derived.Test.YtkoclfmjlolkhaaGreatSquaresQuadraticsPart7
set_option maxHeartbeats 1000000
set_option linter.unusedSimpArgs false
set_option linter.unusedVariables false
set_option linter.unnecessarySimpa false
set_option maxRecDepth 100000
namespace Go.Proofs.YtkoclfmjlolkhaaGreat
open Go Go.FW
def yN(M:MF)(R w:Nat):List PV:=(List.range R).map fun r=>.sl 3 (Qo PV.rat (M r) w)
theorem acp{l:List Rat}{R m:Nat}(hl:l.length=R*m)(cy:R<=40)(hm:m<=40):Qd Tryz.prog 54 [PV.a9 R m l] (· = .sl 1 (yN (Qq l m) R m)):=by
 by_cases hR:R=0
 ·subst hR;refine o8 Qg Tryz.func54 rfl Tt Nz fun C hP=>?_;simp only[MG];refine fw ?_;refine Sz0 ?_;refine di (Wk.refl _ _) ?_;refine di (Wk.refl _ _) ?_;refine Sz0 ?_;refine Qi dV [(4,4),(10,36)] [17] (fun n J hp=>J 10= .int .i64 (0:Nat)/\hp 7=some ⟨1,22,[],false⟩) 0 ?_ ?_
  ·refine Sz0 ?_;exact⟨rfl,rfl⟩
  rintro _ J h ⟨bp,hh⟩;refine Sz1 bp ?_;refine qt ?_;refine lG hh ?_;exact Qc rfl rfl
 ·refine(Ox hl Oz cy hm).data 2 (by simp) fun r F H ⟨h1,h2,h3,h4⟩=>?_;subst h1;have hF:lF (.aI 2000000 0 R) F 2000000=F 2000000:=rfl;refine⟨PE (by rw[hF];exact h2) (Cx _ _ _).symm Oz (fun x hx=>?_),?_⟩
  ·obtain⟨j,hj,rfl⟩:=Kaq.1 hx;show 2000000<=3000000+j;omega
  ·rw[RE (e':=3) (by rw[hF];exact h2) (Cx _ _ _).symm (fun x=>Qo PV.rat (Qq l m (x-3000000)) m) (fun x hx=>?_)]
   ·unfold yN rws;rw[KbH];congr 1;refine KaJ fun j _=>?_;simp only[Function.comp,Kbp];rw[Kac (by rw[fl];omega)]
   ·obtain⟨j,hj,rfl⟩:=Kaq.1 hx;refine⟨51,false,?_⟩;simp only[Kbp];exact h4 j (Kbo.1 hj)
theorem adH{x y:Nat->Rat}{c:Rat}{w ty1 ty2 k K:Nat}(hw:0<w)(IY:w<=2^30)(hx:∀i,i<w->rs (x i)<=k)(hy:∀i,i<w->rs (y i)<=k)(hc:rs c<=k)(hk:k<=2^33):
  JJ Tryz.prog 117 [.ms 1000000 w,.ms 1500001 w,PV.rat c] ⟨3,ty1,Qo PV.rat x w,false⟩ ⟨3,ty2,Qo PV.rat y w,false⟩ (fun r xs=>r= .aH []/\xs=Qo PV.rat (fun i=>x i-c*y i) w):=by
 unfold JJ;refine o6 Qg Tryz.func117 rfl SD Nz fun C hP=>?_;simp only[MC];refine fw ?_;refine Sz0 ?_;refine Qb hP (pk (a:=c) Oz) ?_;refine Sz0 ?_;refine Qa (fun h0=>?_) (fun h0=>?_)
 ·refine Sz0 ?_;refine G2 ?_;refine Sz0 ?_;refine⟨_,rfl,rfl,om fun i hi=>?_⟩;rw[dy.1 h0,KcC,KcS,Rat.neg_zero,Rat.add_zero]
 refine Sz0 ?_;refine Qi dV [(6,6),(12,29)] [] (fun n J hp=>∃i,n=w-i/\i<=w/\J 12= .int .i64 (i:Nat)/\hp 5=some ⟨3,51,[PV.rat c],false⟩/\hp 1000000=some ⟨3,ty1,Qo PV.rat (fun j=>if j<i then x j-c*y j else x j) w,false⟩/\hp 1500001=some ⟨3,ty2,Qo PV.rat y w,true⟩) w ?_ ?_
 ·refine⟨0,rfl,by omega,?_⟩;refine Sz0 ?_;exact⟨rfl,wW (om fun k _=>(if_neg (Nat.not_lt_zero k)).symm)⟩
 rintro _ J h ⟨i,rfl,hi,fZ,h5,iv,ke⟩;refine Sz1 fZ ?_;refine Qa (fun hg=>?_) (fun hg=>?_)
 ·have al:i<w:=by omega
  have hm:=fD c (y i);have h1:=hx i al;have h2:=hy i al;refine Sz4 fZ h5 iv ke ?_;rw[if_neg (Kc0 i)];refine Qb hP (pz (k:=k) hc h2 Oz) ?_;refine Sz4 fZ h5 iv ke ?_;refine Qb hP (F5 (k:=2*k) Oz Oz Oz) ?_;refine Sz4 fZ h5 iv ke ?_;rw[HK al];refine Sz1 fZ ?_;refine Qf (w-(i+1)) Oz ⟨i+1,rfl,by omega,?_⟩;refine Sz2 h5 ke ?_;refine wW (om fun k _=>?_);by_cases e:k=i
  ·subst e;rw[if_pos rfl,if_pos Oz]
  ·rw[if_neg e];by_cases e2:k<i
   ·rw[if_pos e2,if_pos Oz]
   ·rw[if_neg e2,if_neg Oz]
 ·obtain rfl:i=w:=by omega
  refine Sz1 fZ ?_;refine G2 ?_;refine Sz2 iv ke ?_;exact⟨_,rfl,by rw[fl,fl],om fun k hk=>if_pos hk⟩
end Go.Proofs.YtkoclfmjlolkhaaGreat
namespace Go.FW
open Go
variable {C : Ctx} {ρ : Nat -> Option Nat} {fr aG : Fr} {hp : HP} {w : World} {K R : Qh}
def BY(p:PV)(γ n:Nat)(ag:Bool)(i o d:Nat)(fr:Fr)(hp:HP)(K:Qh):Prop:=match p with
 |.aC bu e _ xs=>bu=γ/\∃h:i<xs.length,o+n<=e/\(ag=false->n=1)/\K (af fr d (tv ag n o (xs[i]'h))) hp
 |_=>False
theorem anZ{γ n i o d:Nat}{ag:Bool}:kf n ag (.np γ i o) d fr hp K=BY (fr γ) γ n ag i o d fr hp K:=by simp only[kf,BY];cases fr γ<;>rfl
def xW(p:PV)(h:Option HB)(v:Option (List PV))(γ n i o:Nat)(fr:Fr)(hp:HP)(K:Qh):Prop:=match p with
 |.aC bu e ty xs=>bu=γ/\(∃hb,h=some hb/\hb.fz=false)/\∃h:i<xs.length,o+n<=e/\match v with
   |some cs=>cs.length=n/\K (af (iP γ fr) γ (.aC γ e ty (xs.set i (fo (qC (xs[i]'h).aS o cs))))) hp
   |none=>False
 |_=>False
theorem an0{γ n i o:Nat}{v:PV}:qf n (.np γ i o) v fr hp K=xW (fr γ) (hp γ) (fU v) γ n i o fr hp K:=by simp only[qf,xW];cases fr γ<;>rfl
theorem abY{γ e ty n o d:Nat}{ag:Bool}{x:PV}(h1:o+n<=e)(h2:ag=true∨n=1):BY (.aC γ e ty [x]) γ n ag 0 o d fr hp K=K (af fr d (tv ag n o x)) hp:=by have:(ag=false->n=1):=fun h=>h2.resolve_left (by simp[h]);simp[BY,h1];exact fun _=>this
theorem abZ{γ e ty n o e0 ty0:Nat}{x:PV}{xs0 cs:List PV}(h1:o+n<=e)(h2:cs.length=n):xW (.aC γ e ty [x]) (some ⟨e0,ty0,xs0,false⟩) (some cs) γ n 0 o fr hp K=K (af (iP γ fr) γ (.aC γ e ty [fo (qC x.aS o cs)])) hp:=by simp[xW,h1,h2]
theorem ab0{γ ty B n w r d:Nat}{π:Nat->Nat}(h:r<n):BY (.aC γ 1 ty (Qs (b5 B n w π))) γ 1 false r 0 d fr hp K=K (af fr d (.ms (B+π r) w)) hp:=by
 have hl:r<(Qs (b5 B n w π)).length:=by simpa[Qs,b5]using h
 simp only[BY,hl,exists_true_left,true_and,Kae,Kbh,implies_true];simp[tv,Qs,b5,PV.aS,PV.cells]
theorem ab1{γ ty B n w r m e0 ty0:Nat}{π:Nat->Nat}{xs0:List PV}(h:r<n):xW (.aC γ 1 ty (Qs (b5 B n w π))) (some ⟨e0,ty0,xs0,false⟩) (some [.ms (B+m) w]) γ 1 r 0 fr hp K=K (af (iP γ fr) γ (.aC γ 1 ty (Qs (b5 B n w fun x=>if x=r then m else π x)))) hp:=by
 have hl:r<(Qs (b5 B n w π)).length:=by simpa[Qs,b5]using h
 have e:(b5 B n w π).set r (B+m,w)=b5 B n w fun x=>if x=r then m else π x:=by
  refine Ka7 (by simp[b5]) fun j h1 h2=>?_;rw[Kc6,Re,Re];split
  ·rename_i e;subst e;simp
  ·rename_i e;rw[if_neg fun e2=>e e2.symm]
 rw[<-e];simp only[xW,hl,exists_true_left,true_and,Kae,Kbh,KaH,exists_eq_left',KaT,Kbk];simp[fo,qC,Qs,PV.aS,PV.cells,List.map_set]
theorem avg:
  (∀(γ o n:Nat),fU (.aI γ o n)=some [.aI γ o n])/\
  (∀(k:IntKind)(n:Int),fU (.int k n)=some [.int k n])/\
  (∀(b:Bool),fU (.bool b)=some [.bool b])/\
  (fU .au=some [.au])/\
  (∀(e:Nat)(xs:List PV),fU (.sl e xs)=some [.sl e xs])/\
  (∀(cs:List PV),fU (.pt cs)=some [.pt cs])/\
  (∀(cs:List PV),fU (.agg cs)=some cs):=by
 refine⟨?_,?_,?_,?_,?_,?_,?_⟩<;>intros<;>rfl
theorem an1{β o n:Nat}(h:1000000<=β):fU (.aB β o n)=some [.aB β o n]:=by simp[fU,bJ,h]
theorem akU{cs:List PV}:fU (.bo cs)=if cs.all PV.ki then some cs else none:=rfl
theorem ab2:(∀(k:IntKind)(n:Int),(PV.int k n).ki=true)/\(∀b:Bool,(PV.bool b).ki=true)/\(PV.au.ki=true)/\(∀(e:Nat)(xs:List PV),(PV.sl e xs).ki=true)/\(∀(β o n:Nat),(PV.aB β o n).ki=true)/\(∀(β o n:Nat),(PV.aI β o n).ki=true)/\(∀cs:List PV,(PV.pt cs).ki=true)/\(PV.undef.ki=false):=by refine⟨?_,?_,?_,?_,?_,?_,?_,?_⟩<;>intros<;>rfl
theorem ab3:(∀(k:IntKind)(n:Int),(PV.int k n).n7=false)/\(∀b:Bool,(PV.bool b).n7=false)/\(PV.au.n7=false)/\(∀(e:Nat)(xs:List PV),(PV.sl e xs).n7=false)/\(∀(β o n:Nat),(PV.aB β o n).n7=true)/\(∀(β o n:Nat),(PV.aI β o n).n7=true)/\(∀cs:List PV,(PV.pt cs).n7=false)/\(PV.undef.n7=true):=by refine⟨?_,?_,?_,?_,?_,?_,?_,?_⟩<;>intros<;>rfl
theorem afk{cs:List PV}(h:cs.any PV.n7=true):pq cs= .bo cs:=by simp[pq,h]
theorem afl{cs:List PV}(h:cs.any PV.n7=false):pq cs= .agg cs:=by simp[pq,h]
theorem an2{a b:PV}{cs:List PV}:fo (a::b::cs)=pq (a::b::cs):=rfl
theorem an3{a:PV}:fo [a]=a:=rfl
theorem ab4{n o:Nat}{x:PV}:tv true n o x=pq ((x.aS.drop o).take n):=rfl
theorem ab5{n o:Nat}{x:PV}:tv false n o x=(x.aS.drop o).headD .undef:=rfl
theorem akV{l cs:List PV}{o:Nat}:qC l o cs=l.take o++cs++l.drop (o+cs.length):=rfl
theorem adI{cs:List PV}:(PV.bo cs).aS=cs:=rfl
theorem adJ{cs:List PV}:(PV.agg cs).aS=cs:=rfl
theorem ab6{z:List PV}{ps:List (Nat×Nat×PV)}{d:Nat}(h:ps.any (fun p=>p.2.2.rj)=true):oA z ps d fr hp K=(wJ z.length ps/\K (af fr d (.bo (jN z (ps.map fun p=>(p.1,(fU p.2.2).getD []))))) hp):=by simp only[oA,if_pos h]
theorem acq{len:Nat}:wJ len []=True:=by simp[wJ]
theorem Q8f{len o n:Nat}{v:PV}{ps:List (Nat×Nat×PV)}:wJ len ((o,n,v)::ps)=((∃cs,fU v=some cs/\cs.length=n/\o+n<=len)/\wJ len ps):=by simp[wJ]
theorem an4:(∀(γ o n:Nat),(PV.aI γ o n).rj=true)/\(∀(cs:List PV),(PV.bo cs).rj=true)/\(∀(β o n:Nat),(PV.aB β o n).rj=decide (2000000<=β))/\(∀(cs:List PV),(PV.agg cs).rj=false)/\(∀(k:IntKind)(n:Int),(PV.int k n).rj=false)/\(∀b:Bool,(PV.bool b).rj=false)/\(PV.au.rj=false)/\(∀(e:Nat)(xs:List PV),(PV.sl e xs).rj=false):=by refine⟨?_,?_,?_,?_,?_,?_,?_,?_⟩<;>intros<;>rfl
theorem akW:(∀(β:Nat)(k:IntKind)(n:Int),jv β (.int k n)= .int k n)/\(∀(β:Nat)(b:Bool),jv β (.bool b)= .bool b)/\(∀β:Nat,jv β .au= .au)/\(∀(β e:Nat)(xs:List PV),jv β (.sl e xs)= .sl e xs)/\(∀(β γ o n:Nat),jv β (.aB γ o n)=if γ=β then .undef else .aB γ o n)/\(∀(β γ o n:Nat),jv β (.aI γ o n)=if γ=β then .undef else .aI γ o n):=by refine⟨?_,?_,?_,?_,?_,?_⟩<;>intros<;>rfl
theorem akX{β γ e ty:Nat}{x:PV}(h:γ≠β):cV β (.aC γ e ty [x])= .aC γ e ty [fo (x.aS.map (jv β))]:=by simp[cV,h]
theorem ako{β γ ty B n w:Nat}{π:Nat->Nat}(h:γ≠β)(h2:β<B):cV β (.aC γ 1 ty (Qs (b5 B n w π)))= .aC γ 1 ty (Qs (b5 B n w π)):=by
 simp only[cV,if_neg h];congr 1;conv=>rhs;rw[<-List.map_id (Qs (b5 B n w π))]
 refine KaJ fun x hx=>?_;obtain⟨y,hy,rfl⟩:=Kaq.1 hx;obtain⟨r,hr,rfl⟩:=Kaq.1 hy;simp only[PV.aS,PV.cells,Kba,Kbu,jv,fo];rw[if_neg (by omega)];rfl
theorem ZR{β δ γ ty B n w:Nat}{π:Nat->Nat}(ae:β<1000000)(hB:2000000<=B)(aj:2000000<=γ):ch (iJ β δ) (.aC γ 1 ty (Qs (b5 B n w π)))= .aC γ 1 ty (Qs (b5 B n w π)):=by
 have e1:iJ β δ γ=γ:=by unfold iJ;rw[if_neg (by omega)]
 simp only[ch,e1];congr 1;conv=>rhs;rw[<-List.map_id (Qs (b5 B n w π))]
 refine KaJ fun x hx=>?_;obtain⟨y,hy,rfl⟩:=Kaq.1 hx;obtain⟨r,hr,rfl⟩:=Kaq.1 hy;refine HA (.inr ⟨_,_,rfl⟩) fun bA n' h=>?_;cases h;unfold iJ;rw[if_neg (by omega)]
theorem ab7{δ γ ty B n w:Nat}{π:Nat->Nat}(h:γ≠δ)(mE:δ<B):iQ δ (.aC γ 1 ty (Qs (b5 B n w π)))= .aC γ 1 ty (Qs (b5 B n w π)):=by
 simp only[iQ,if_neg h];congr 1;conv=>rhs;rw[<-List.map_id (Qs (b5 B n w π))]
 refine KaJ fun x hx=>?_;obtain⟨y,hy,rfl⟩:=Kaq.1 hx;obtain⟨r,hr,rfl⟩:=Kaq.1 hy;simp only[PV.aS,PV.cells,Kba,Kbu,jA,fo];rw[if_neg (by omega)];rfl
theorem afm{β:Nat}{cs:List PV}:cA β (.bo cs)= .bo cs:=rfl
theorem agL{γ:Nat}{cs:List PV}:iQ γ (.bo cs)= .bo (cs.map (jA γ)):=rfl
theorem afn{β:Nat}{cs:List PV}:cV β (.bo cs)= .bo (cs.map (jv β)):=rfl
theorem ab8:(∀(γ:Nat)(k:IntKind)(n:Int),jA γ (.int k n)= .int k n)/\(∀(γ:Nat)(b:Bool),jA γ (.bool b)= .bool b)/\(∀γ:Nat,jA γ .au= .au)/\(∀(γ e:Nat)(xs:List PV),jA γ (.sl e xs)= .sl e xs)/\(∀(γ β o n:Nat),jA γ (.aB β o n)=if β=γ then .aI γ o n else .aB β o n)/\(∀(γ β o n:Nat),jA γ (.aI β o n)= .aI β o n):=by refine⟨?_,?_,?_,?_,?_,?_⟩<;>intros<;>rfl
theorem an5{γ i o off d:Nat}:tX off (.np γ i o) d fr hp K=K (af fr d (.np γ i (o+off))) hp:=rfl
theorem afo{γ bu e ty:Nat}{xs:List PV}:gE γ (.aC bu e ty xs)=if bu=γ then .undef else .aC bu e ty xs:=rfl
theorem afp{γ:Nat}{cs:List PV}:gE γ (.bo cs)= .bo cs:=rfl
attribute [go_sem] an5 afo afp false_and List.all_cons List.all_nil afm agL afn ab8 exists_eq_left' anZ an0 abY abZ ab0 ab1 avg an1 akU ab2 ab3 afk afl an2 an3 ab4 ab5 akV adI adJ ab6 acq Q8f an4 akW akX ako ZR ab7
theorem SH{p:PV}(h:wj p):jR p=p:=by
 obtain⟨h1,h2,h3,h4⟩:=h;have h5:(p.refs.any nn||p.aQ.any n8)=false:=by rw[Bool.or_eq_false_iff,KbU,KbU];exact⟨fun x hx=>by simp[h1 x hx],fun x hx=>by simp[h2 x hx]⟩
 unfold jR;split
 ·exact absurd rfl (h3 _ _ _ _)
 ·exact absurd rfl (h4 _).1
 ·exact absurd rfl (h4 _).2
 ·rw[h5];rfl
theorem lX{V W:List (Nat×Nat)}{B B':List Nat}{X Z F:Fr}(h:yT V W=true)(hB:(B'.all B.contains)=true):aY V X (dk B' (aY W Z (dk B F)))=aY W (aY V X (dk B' Z)) (dk B F):=by
 have e1:ie (aY W Z (dk B F))=aY W (ie Z) (dk B F):=by
  funext s;show jR (aY W Z (dk B F) s)=_;unfold aY;split
  ·rfl
  ·exact SH (AX B F s)
 unfold dk;rw[show ie (aY W Z (bO B (ie F)))=aY W (ie Z) (bO B (ie F))from e1,Co h hB]
theorem Oy{c:PV}{x y:SC}{sk:List It}(bR:fG R sk)(W:List (Nat×Nat))(B:List Nat)(M:Fr->HP->Prop)
  (h:mN C R c x y (.el (nD W (dk B fr) M)::sk) (aY W fr (dk B fr)) hp) (hM:∀J hp,M J hp->vc C R sk (aY W J (dk B fr)) hp):mN C R c x y sk fr hp:=by
 refine yn (nD W (dk B fr) M) ?_ ?_
 ·unfold mN tQ at h⊢;split at h
  ·exact⟨fun e=>ou bR.1 _ _ _ _ _ _ (Kae _) (.c x (.el wL bR.2)) (Hx W B) (h.1 e),fun e=>ou bR.1 _ _ _ _ _ _ (Kae _) (.c y (.el wL bR.2)) (Hx W B) (h.2 e)⟩
  ·exact h
 ·rintro aG hp' ⟨J,h1,h2⟩;exact ou bR.1 _ _ _ _ _ _ (Kae _) bR.2 h1 (hM J hp' h2)
theorem akp{γ e ty:Nat}{cs cs':List PV}(δ e' ty':Nat)(il:fr γ= .aC γ e ty [.bo cs])(h1:hp δ=none)(h2:2000000<=δ)(h3:0<e')(hl:cs'.length=cs.length)(hc:∀p∈cs.zip cs',p.2=p.1∨(p.1= .au/\p.2= .aB δ 0 0)):
  Wk fr hp (af fr γ (.aC γ e ty [.bo cs'])) (Qj hp δ ⟨e',ty',[],false⟩):=by
 have h:=QB (fr:=fr) (hp:=hp) (γ:=γ) (e:=e) (ty:=ty) (xs:=[.bo cs]) (xs':=[.bo cs']) (fun x=>if x=δ then some (e',ty')else none) il (fun x y h=>?_) rfl (fun i x x' k1 k2=>?_)
 ·refine cast (congrArg (Wk fr hp (af fr γ (.aC γ e ty [.bo cs']))) (funext fun x=>?_)) h;unfold Qj;by_cases hx:x=δ
  ·subst hx;simp
  ·simp[hx]
 ·split at h
  ·rename_i hx;subst hx;cases h;exact⟨h1,h2,h3⟩
  ·cases h
 ·cases i with
  |succ i=>cases k1
  | zero=>
   cases k1;cases k2;refine⟨hl,fun j y y' q1 q2=>?_⟩;have hz:(y,y')∈cs.zip cs':=by refine Kai (i:=j) ?_;rw[List.getElem?_zip_eq_some];exact⟨q1,q2⟩
   rcases hc _ hz with h|⟨h,h'⟩
   ·exact .inl h
   ·exact .inr ⟨h,δ,(e',ty'),by simp,h'⟩
theorem adK{l:List Nat}{x:Nat}(hl:∀y∈l,2000000<=y)(hx:x<2000000):bW hp l x=hp x:=by
 have:x ∉ l:=fun h=>by have:=hl x h;omega
 unfold bW;cases hp x<;>simp[this]
theorem an6{sk:List It}{r:RT}(s k:Nat){p D:PV}(h0:fr s=p)(ho:w8 fr k p/\sO fr hp k p=D/\∀x∈Ag fr k p,2000000<=x)(hv:∀l,(∀x∈l,2000000<=x)->vc C R (.o r::sk) (af fr s D) (bW hp l)):vc C R (.o (.wk r)::sk) fr hp:=by subst h0;obtain⟨h1,h2,h3⟩:=ho;refine di (JY s k h1) ?_;rw[h2];exact hv _ h3
theorem kk{V W:List (Nat×Nat)}{B:List Nat}{X Z F:Fr}(h:yT V W=true):aY V X (ie (aY W Z (bO B (ie F))))=aY W (aY V X (ie Z)) (bO B (ie F)):=by
 have e1:ie (aY W Z (dk B F))=aY W (ie Z) (dk B F):=by
  funext s;show jR (aY W Z (dk B F) s)=_;unfold aY;split
  ·rfl
  ·exact SH (AX B F s)
 rw[show ie (aY W Z (bO B (ie F)))=aY W (ie Z) (bO B (ie F))from e1,dS h]
theorem lY{V W:List (Nat×Nat)}{X Z F:Fr}(h:yT V W=true):aY V X (ie (aY W Z (ie F)))=aY W (aY V X (ie Z)) (ie F):=by have:=kk (V:=V) (W:=W) (B:=[]) (X:=X) (Z:=Z) (F:=F) h;simpa only[fV]using this
theorem afq{γ:Nat}{F:Fr}:iP γ (ie F)=ie F:=by have:=Pj (γ:=γ) (B:=[]) (F:=F);simpa only[dk,fV]using this
theorem afr{β:Nat}{F:Fr}(h:2000000<=β):fX β (ie F)=ie F:=by have:=Ph (B:=[]) (F:=F) h;simpa only[dk,fV]using this
attribute [go_sem] afq afr
theorem ab9:(∀(k:IntKind)(n:Int),(PV.int k n).aQ=[])/\(∀b:Bool,(PV.bool b).aQ=[])/\(PV.au.aQ=[])/\(PV.undef.aQ=[])/\(∀(e:Nat)(xs:List PV),(PV.sl e xs).aQ=[])/\(∀cs:List PV,(PV.agg cs).aQ=[])/\(∀cs:List PV,(PV.aH cs).aQ=[])/\(∀cs:List PV,(PV.pt cs).aQ=[])/\
  (∀(β o n:Nat),(PV.aB β o n).aQ=[])/\(∀(β o n:Nat),(PV.mp β o n).aQ=[])/\(∀(β o n:Nat),(PV.aI β o n).aQ=[β])/\(∀(β o n:Nat),(PV.np β o n).aQ=[β]):=by
 refine⟨?_,?_,?_,?_,?_,?_,?_,?_,?_,?_,?_,?_⟩<;>intros<;>rfl
attribute [go_sem] ab9
theorem agM{d w i:Nat}{k:IntKind}{f:Nat->Rat}(h:i<w):jQ 3 (.sl 3 (Qo PV.rat f w)) (.int k (i:Nat)) d fr hp K=K (af fr d (.pt (PV.rat (f i)).cells)) hp:=by unfold Qo;rw[AU (by omega) (by simp;omega)];simp
theorem agN{α:Type}{p:α->PV}{f:Nat->α}{w d e:Nat}:rI (.sl e (Qo p f w)) d fr hp K=K (af fr d (.int .i64 (w:Nat))) hp:=by simp[rI,Qo]
attribute [go_sem] agM agN
theorem HL{P:Program}(hP:C.P=P){pr:Bool}{g:FuncId}{args bx:List PV}{d:Option Nat}{γ1:Nat}{hb1:HB}{D:PV}(h:gj P g bx (fun _=>.undef) (Qj aA 1500001 ⟨hb1.e,hb1.ty,hb1.xs,true⟩) (fun r _ _=>r=D))(hD:oy D)(h1:hp γ1=some hb1)
  (cK:args.map (ch fun x=>if x=γ1 then 1500001 else x)=bx) (iq:∀γ∈args.flatMap (fun x=>x.refs++x.aQ),γ=γ1) (aV:bx.length<=1000000) (hK:K (dv fr d D) hp):gl C pr (.fn g [] []) args d fr hp K:=by
 have ga:∀β γ,(fun β=>if β=1500001 then some γ1 else none:Nat->Option Nat) β=some γ->β=1500001/\γ=γ1:=fun β γ hq=>by
  simp only at hq;split at hq
  ·cases hq;rename_i e;exact⟨e,rfl⟩
  ·cases hq
 refine J9 hP h (fun β=>if β=1500001 then some γ1 else none) _ (fun β γ hq=>?_) (fun β hq=>?_) (fun β bA γ q1 q2=>?_) (fun β γ hq=>?_) cK (fun x hx γ aj=>?_) (fun s _=>.inl rfl) aV (fun r F H hr=>?_)
 ·obtain⟨rfl,rfl⟩:=ga β γ hq;exact⟨by decide,hb1,h1,by simp[Qj]⟩
 ·by_cases e:β=1500001
  ·exact⟨γ1,by simp[e]⟩
  ·simp[Qj,FW.aA,e]at hq
 ·rw[(ga β γ q1).1,(ga bA γ q2).1]
 ·obtain⟨rfl,rfl⟩:=ga β γ hq;simp
 ·rw[iq γ (Kat.2 ⟨x,hx,aj⟩)];exact⟨1500001,by simp⟩
 ·subst hr;exact⟨hD,hK⟩
theorem SI{P:Program}(hP:C.P=P){pr:Bool}{g:FuncId}{args bx:List PV}{d:Option Nat}{γ1 γ2:Nat}{hb1 hb2:HB}{D:PV}(h:gj P g bx (fun _=>.undef) (Qj (Qj aA 1500000 ⟨hb1.e,hb1.ty,hb1.xs,true⟩) 1500001 ⟨hb2.e,hb2.ty,hb2.xs,true⟩) (fun r _ _=>r=D))(hD:oy D)(h1:hp γ1=some hb1)(h2:hp γ2=some hb2)(aJ:γ1≠γ2)
  (cK:args.map (ch fun x=>if x=γ1 then 1500000 else if x=γ2 then 1500001 else x)=bx) (iq:∀γ∈args.flatMap (fun x=>x.refs++x.aQ),γ=γ1∨γ=γ2) (aV:bx.length<=1000000) (hK:K (dv fr d D) hp):gl C pr (.fn g [] []) args d fr hp K:=by
 have ga:∀β γ,(fun β=>if β=1500000 then some γ1 else if β=1500001 then some γ2 else none:Nat->Option Nat) β=some γ->(β=1500000/\γ=γ1)∨(β=1500001/\γ=γ2):=fun β γ hq=>by
  simp only at hq;split at hq
  ·cases hq;rename_i e;exact .inl ⟨e,rfl⟩
  ·split at hq
   ·cases hq;rename_i e;exact .inr ⟨e,rfl⟩
   ·cases hq
 refine J9 hP h (fun β=>if β=1500000 then some γ1 else if β=1500001 then some γ2 else none) _ (fun β γ hq=>?_) (fun β hq=>?_) (fun β bA γ q1 q2=>?_) (fun β γ hq=>?_) cK (fun x hx γ aj=>?_) (fun s _=>.inl rfl) aV (fun r F H hr=>?_)
 ·rcases ga β γ hq with⟨rfl,rfl⟩|⟨rfl,rfl⟩
  ·exact⟨by decide,hb1,h1,by simp[Qj]⟩
  ·exact⟨by decide,hb2,h2,by simp[Qj]⟩
 ·by_cases e:β=1500000
  ·exact⟨γ1,by simp[e]⟩
  ·by_cases e2:β=1500001
   ·exact⟨γ2,by simp[e2]⟩
   ·simp[Qj,FW.aA,e,e2]at hq
 ·rcases ga β γ q1 with⟨rfl,rfl⟩|⟨rfl,rfl⟩<;>rcases ga bA _ q2 with⟨rfl,e⟩|⟨rfl,e⟩
  ·rfl
  ·exact absurd e aJ
  ·exact absurd e.symm aJ
  ·rfl
 ·rcases ga β γ hq with⟨rfl,rfl⟩|⟨rfl,rfl⟩
  ·simp
  ·rw[if_neg (fun e=>aJ e.symm),if_pos rfl]
 ·rcases iq γ (Kat.2 ⟨x,hx,aj⟩)with rfl|rfl
  ·exact⟨1500000,by simp⟩
  ·exact⟨1500001,by simp⟩
 ·subst hr;exact⟨hD,hK⟩
theorem akq{i c:Nat}(h:c<1600000):(1600000+i=c)=False:=by simp;omega
attribute [go_sem] akq
end Go.FW
