/- Part 7 of the proof of MatrixSolves: A3, FwNI. Own lemmas; no conditions. -/
import Derived.Test.YtkoclfmjlolkhaaGreatMatrixSolvesPart6
set_option linter.unusedSimpArgs false
set_option linter.unusedVariables false
set_option linter.unnecessarySimpa false
set_option maxRecDepth 100000
namespace Go.Proofs.YtkoclfmjlolkhaaGreat
open Go Go.FW
def Qh8(M:MF)(R w:Nat):List PV:=(List.range R).map fun r=> .sl 3 (Qh PV.rat (M r) w)
theorem Qk3{l:List Rat}{R m:Nat}(hl:l.length=R*m)(hR2:R<=40)(hm:m<=40):Qd Tryz.prog 54 [PV.mat R m l] (· = .sl 1 (Qh8 (Q3 l m) R m)):=by
 by_cases hR:R=0
 ·subst hR
  refine Qcz Qt Tryz.func54 rfl Q3u (by simp[c54]) fun C hP=> ?_;simp only[c54,Zo,Zg,Zm,Zc,Zf,Zl,Zh,Zs,Zi,Zb,Zk,Zn,Zu,Zq,Zr,Zz]
  simp+decide (disch:=try exact D0) only[go_sem]
  refine Qch (Wk.refl _ _) ?_
  refine Qch (Wk.refl _ _) ?_
  simp+decide (disch:=try exact D0) only[go_sem]
  refine Qai (by repeat (first|exact Qw|exact Qo|exact Qp|exact Qq|exact Qr|apply Qn|apply Qv|apply Qz|apply Q6|apply Q7|apply Qk)) [(4,4),(10,36)] [17] (fun n J hp=>J 10= .int .i64 (0:Nat)/\hp 7=some ⟨1,22,[],false⟩) 0 ?_ ?_
  ·simp+decide (disch:=try exact D0) only[go_sem]
   exact⟨rfl,rfl⟩
  rintro _ J h ⟨h10,hh⟩
  simp+decide (disch:=try exact D1 h10) only[go_sem,h10]
  refine Qb9 ?_
  simp+decide (disch:=try exact E1 hh) only[go_sem,hh,Qac,List.contains_cons,List.contains_nil,List.flatMap_cons,List.flatMap_nil,List.append_nil]
  exact Qc rfl rfl
 ·refine(Qri hl (by omega) hR2 hm).data 2 (by simp) fun r F H ⟨h1,h2,h3,h4⟩=> ?_
  subst h1
  have hF:Qfb (.nso 2000000 0 R) F 2000000=F 2000000:=rfl
  refine⟨Qtp (by rw[hF];exact h2) (Qhg _ _ _).symm (by omega) (fun x hx=> ?_),?_⟩
  ·obtain⟨j,hj,rfl⟩:=List.mem_map.1 hx;show 2000000<=3000000+j;omega
  ·rw[Qwh (e':=3) (by rw[hF];exact h2) (Qhg _ _ _).symm (fun x=>Qh PV.rat (Q3 l m (x-3000000)) m) (fun x hx=> ?_)]
   ·unfold Qh8 rws
    rw[List.map_map]
    congr 1
    refine List.map_congr_left fun j _=> ?_
    simp only[Function.comp,Nat.add_sub_cancel_left]
    rw[List.take_of_length_le (by rw[Qaa];omega)]
   ·obtain⟨j,hj,rfl⟩:=List.mem_map.1 hx
    refine⟨51,false,?_⟩
    simp only[Nat.add_sub_cancel_left]
    exact h4 j (List.mem_range.1 hj)
theorem Q0i{x y:Nat->Rat}{c:Rat}{w ty1 ty2 k K:Nat}(hw:0<w)(hw2:w<=2^30)(hx:∀i,i<w->rs (x i)<=k)(hy:∀i,i<w->rs (y i)<=k)(hc:rs c<=k)(hk:k<=2^33):
  Qsj Tryz.prog 117 [.ms 1000000 w,.ms 1500001 w,PV.rat c] ⟨3,ty1,Qh PV.rat x w,false⟩ ⟨3,ty2,Qh PV.rat y w,false⟩ (fun r xs=>r= .tup []/\xs=Qh PV.rat (fun i=>x i-c*y i) w):=by
 unfold Qsj
 refine Qdb Qt Tryz.func117 rfl Qyk (by simp[Qwe]) fun C hP=> ?_;simp only[Qwe,Zo,Zg,Zm,Zc,Zf,Zl,Zh,Zs,Zi,Zb,Zk,Zn,Zu,Zq,Zr,Zz]
 simp+decide (disch:=try exact D0) only[go_sem]
 refine Qa hP (Qlu (a:=c) (by omega)) rfl rfl rfl ?_
 simp+decide (disch:=try exact D0) only[go_sem]
 refine Qb (fun h0=> ?_) (fun h0=> ?_)
 ·simp+decide (disch:=try exact D0) only[go_sem]
  refine Qkh ?_
  simp+decide (disch:=try exact D0) only[go_sem]
  refine⟨_,rfl,rfl,Qcd fun i hi=> ?_⟩
  rw[Qb8.1 h0,Rat.zero_mul,Rat.sub_eq_add_neg,Rat.neg_zero,Rat.add_zero]
 simp+decide (disch:=try exact D0) only[go_sem]
 refine Qai (by repeat (first|exact Qw|exact Qo|exact Qp|exact Qq|exact Qr|apply Qn|apply Qv|apply Qz|apply Q6|apply Q7|apply Qk)) [(6,6),(12,29)] [] (fun n J hp=>∃i,n=w-i/\i<=w/\J 12= .int .i64 (i:Nat)/\hp 5=some ⟨3,51,[PV.rat c],false⟩/\hp 1000000=some ⟨3,ty1,Qh PV.rat (fun j=>if j<i then x j-c*y j else x j) w,false⟩/\hp 1500001=some ⟨3,ty2,Qh PV.rat y w,true⟩) w ?_ ?_
 ·refine⟨0,rfl,by omega,?_⟩
  simp+decide (disch:=try exact D0) only[go_sem]
  exact⟨rfl,Qm2 (Qcd fun k _=>(if_neg (Nat.not_lt_zero k)).symm)⟩
 rintro _ J h ⟨i,rfl,hi,h12,h5,hx1,hy1⟩
 simp+decide (disch:=try exact D1 h12) only[go_sem,h12]
 refine Qb (fun hg=> ?_) (fun hg=> ?_)
 ·have hi':i<w:=by omega
  have hm:=Qf2 c (y i)
  have h1:=hx i hi'
  have h2:=hy i hi'
  simp+decide (disch:=try exact D4 h12 h5 hx1 hy1) only[go_sem,h12,h5,hx1,hy1]
  rw[if_neg (Nat.lt_irrefl i)]
  refine Qa hP (Qow (k:=k) hc h2 (by omega)) rfl rfl rfl ?_
  simp+decide (disch:=try exact D4 h12 h5 hx1 hy1) only[go_sem,h12,h5,hx1,hy1]
  refine Qa hP (Q9o (k:=2*k) (by omega) (by omega) (by omega)) rfl rfl rfl ?_
  simp+decide (disch:=try exact D4 h12 h5 hx1 hy1) only[go_sem,h12,h5,hx1,hy1]
  rw[Qfm hi']
  simp+decide (disch:=try exact D1 h12) only[go_sem,h12]
  refine Qab (w-(i+1)) (by omega) ⟨i+1,rfl,by omega,?_⟩
  simp+decide (disch:=try exact D2 h5 hy1) only[go_sem,h5,hy1]
  refine Qm2 (Qcd fun k _=> ?_)
  by_cases e:k=i
  ·subst e;rw[if_pos rfl,if_pos (by omega)]
  ·rw[if_neg e]
   by_cases e2:k<i
   ·rw[if_pos e2,if_pos (by omega)]
   ·rw[if_neg e2,if_neg (by omega)]
 ·obtain rfl:i=w:=by omega
  simp+decide (disch:=try exact D1 h12) only[go_sem,h12]
  refine Qkh ?_
  simp+decide (disch:=try exact D2 hx1 hy1) only[go_sem,hx1,hy1]
  exact⟨_,rfl,by rw[Qaa,Qaa],Qcd fun k hk=>if_pos hk⟩
end Go.Proofs.YtkoclfmjlolkhaaGreat
namespace Go.FW
open Go
variable {C : Ctx} {ρ : Nat -> Option Nat} {fr fr' : Fr} {hp : HP} {w : World} {K R : Qf}
def ldX(p:PV)(γ n:Nat)(ag:Bool)(i o d:Nat)(fr:Fr)(hp:HP)(K:Qf):Prop:=match p with
 | .nst γ' e _ xs=>γ'=γ/\∃h:i<xs.length,o+n<=e/\(ag=false->n=1)/\K (upd fr d (ldN ag n o (xs[i]'h))) hp
 |_=>False
theorem Qagc{γ n i o d:Nat}{ag:Bool}:ldK n ag (.np γ i o) d fr hp K=ldX (fr γ) γ n ag i o d fr hp K:=by
 simp only[ldK,ldX]
 cases fr γ<;>rfl
def stX(p:PV)(h:Option HB)(v:Option (List PV))(γ n i o:Nat)(fr:Fr)(hp:HP)(K:Qf):Prop:=match p with
 | .nst γ' e ty xs=>γ'=γ/\(∃hb,h=some hb/\hb.fz=false)/\∃h:i<xs.length,o+n<=e/\match v with
   |some cs=>cs.length=n/\K (upd (Qcr γ fr) γ (.nst γ e ty (xs.set i (Qcp (Qho (xs[i]'h).ncells o cs))))) hp
   |none=>False
 |_=>False
theorem Qagd{γ n i o:Nat}{v:PV}:stK n (.np γ i o) v fr hp K=stX (fr γ) (hp γ) (stN v) γ n i o fr hp K:=by
 simp only[stK,stX]
 cases fr γ<;>rfl
theorem Qahp{γ e ty n o d:Nat}{ag:Bool}{x:PV}(h1:o+n<=e)(h2:ag=true∨n=1):ldX (.nst γ e ty [x]) γ n ag 0 o d fr hp K=K (upd fr d (ldN ag n o x)) hp:=by
 have:(ag=false->n=1):=fun h=>h2.resolve_left (by simp[h])
 simp[ldX,h1]
 exact fun _=>this
theorem Qahq{γ e ty n o e0 ty0:Nat}{x:PV}{xs0 cs:List PV}(h1:o+n<=e)(h2:cs.length=n):stX (.nst γ e ty [x]) (some ⟨e0,ty0,xs0,false⟩) (some cs) γ n 0 o fr hp K=K (upd (Qcr γ fr) γ (.nst γ e ty [Qcp (Qho x.ncells o cs)])) hp:=by
 simp[stX,h1,h2]
theorem Qahr{γ ty B n w r d:Nat}{π:Nat->Nat}(h:r<n):ldX (.nst γ 1 ty (Qx (Qas B n w π))) γ 1 false r 0 d fr hp K=K (upd fr d (.ms (B+π r) w)) hp:=by
 have hl:r<(Qx (Qas B n w π)).length:=by simpa[Qx,Qas]using h
 simp only[ldX,hl,exists_true_left,true_and,Nat.le_refl,Nat.zero_add,implies_true]
 simp[ldN,Qx,Qas,PV.ncells,PV.cells]
theorem Qahs{γ ty B n w r m e0 ty0:Nat}{π:Nat->Nat}{xs0:List PV}(h:r<n):stX (.nst γ 1 ty (Qx (Qas B n w π))) (some ⟨e0,ty0,xs0,false⟩) (some [.ms (B+m) w]) γ 1 r 0 fr hp K=K (upd (Qcr γ fr) γ (.nst γ 1 ty (Qx (Qas B n w fun x=>if x=r then m else π x)))) hp:=by
 have hl:r<(Qx (Qas B n w π)).length:=by simpa[Qx,Qas]using h
 have e:(Qas B n w π).set r (B+m,w)=Qas B n w fun x=>if x=r then m else π x:=by
  refine List.ext_getElem (by simp[Qas]) fun j h1 h2=> ?_
  rw[List.getElem_set,Qv3,Qv3]
  split
  ·rename_i e;subst e;simp
  ·rename_i e;rw[if_neg fun e2=>e e2.symm]
 rw[<-e]
 simp only[stX,hl,exists_true_left,true_and,Nat.le_refl,Nat.zero_add,Option.some.injEq,exists_eq_left',List.length_cons,List.length_nil]
 simp[Qcp,Qho,Qx,PV.ncells,PV.cells,List.map_set]
theorem stNs:
  (∀(γ o n:Nat),stN (.nso γ o n)=some [.nso γ o n])/\
  (∀(k:IntKind)(n:Int),stN (.int k n)=some [.int k n])/\
  (∀(b:Bool),stN (.bool b)=some [.bool b])/\
  (stN .nilS=some [.nilS])/\
  (∀(e:Nat)(xs:List PV),stN (.sl e xs)=some [.sl e xs])/\
  (∀(cs:List PV),stN (.pt cs)=some [.pt cs])/\
  (∀(cs:List PV),stN (.agg cs)=some cs):=by
 refine⟨?_,?_,?_,?_,?_,?_,?_⟩<;>intros<;>rfl
theorem Qage{β o n:Nat}(h:1000000<=β):stN (.mso β o n)=some [.mso β o n]:=by simp[stN,isB,h]
theorem Qac6{cs:List PV}:stN (.rag cs)=if cs.all PV.notU then some cs else none:=rfl
theorem Qaht:(∀(k:IntKind)(n:Int),(PV.int k n).notU=true)/\(∀b:Bool,(PV.bool b).notU=true)/\(PV.nilS.notU=true)/\(∀(e:Nat)(xs:List PV),(PV.sl e xs).notU=true)/\(∀(β o n:Nat),(PV.mso β o n).notU=true)/\(∀(β o n:Nat),(PV.nso β o n).notU=true)/\(∀cs:List PV,(PV.pt cs).notU=true)/\(PV.undef.notU=false):=by
 refine⟨?_,?_,?_,?_,?_,?_,?_,?_⟩<;>intros<;>rfl
theorem Qahu:(∀(k:IntKind)(n:Int),(PV.int k n).isRefC=false)/\(∀b:Bool,(PV.bool b).isRefC=false)/\(PV.nilS.isRefC=false)/\(∀(e:Nat)(xs:List PV),(PV.sl e xs).isRefC=false)/\(∀(β o n:Nat),(PV.mso β o n).isRefC=true)/\(∀(β o n:Nat),(PV.nso β o n).isRefC=true)/\(∀cs:List PV,(PV.pt cs).isRefC=false)/\(PV.undef.isRefC=true):=by
 refine⟨?_,?_,?_,?_,?_,?_,?_,?_⟩<;>intros<;>rfl
theorem Q3z{cs:List PV}(h:cs.any PV.isRefC=true):Qf5 cs= .rag cs:=by simp[Qf5,h]
theorem Q30{cs:List PV}(h:cs.any PV.isRefC=false):Qf5 cs= .agg cs:=by simp[Qf5,h]
theorem Qagf{a b:PV}{cs:List PV}:Qcp (a::b::cs)=Qf5 (a::b::cs):=rfl
theorem Qagg{a:PV}:Qcp [a]=a:=rfl
theorem Qahv{n o:Nat}{x:PV}:ldN true n o x=Qf5 ((x.ncells.drop o).take n):=rfl
theorem Qahw{n o:Nat}{x:PV}:ldN false n o x=(x.ncells.drop o).headD .undef:=rfl
theorem Qac7{l cs:List PV}{o:Nat}:Qho l o cs=l.take o++cs++l.drop (o+cs.length):=rfl
theorem Q0j{cs:List PV}:(PV.rag cs).ncells=cs:=rfl
theorem Q0k{cs:List PV}:(PV.agg cs).ncells=cs:=rfl
theorem Qahx{z:List PV}{ps:List (Nat×Nat×PV)}{d:Nat}(h:ps.any (fun p=>p.2.2.isNst)=true):Qfx z ps d fr hp K=(Qgw z.length ps/\K (upd fr d (.rag (Qc2 z (ps.map fun p=>(p.1,(stN p.2.2).getD []))))) hp):=by
 simp only[Qfx,if_pos h]
theorem Qxn{len:Nat}:Qgw len []=True:=by simp[Qgw]
theorem Qwi{len o n:Nat}{v:PV}{ps:List (Nat×Nat×PV)}:Qgw len ((o,n,v)::ps)=((∃cs,stN v=some cs/\cs.length=n/\o+n<=len)/\Qgw len ps):=by simp[Qgw]
theorem Qagh:(∀(γ o n:Nat),(PV.nso γ o n).isNst=true)/\(∀(cs:List PV),(PV.rag cs).isNst=true)/\(∀(β o n:Nat),(PV.mso β o n).isNst=decide (2000000<=β))/\(∀(cs:List PV),(PV.agg cs).isNst=false)/\(∀(k:IntKind)(n:Int),(PV.int k n).isNst=false)/\(∀b:Bool,(PV.bool b).isNst=false)/\(PV.nilS.isNst=false)/\(∀(e:Nat)(xs:List PV),(PV.sl e xs).isNst=false):=by
 refine⟨?_,?_,?_,?_,?_,?_,?_,?_⟩<;>intros<;>rfl
theorem Qac8:(∀(β:Nat)(k:IntKind)(n:Int),Qdf β (.int k n)= .int k n)/\(∀(β:Nat)(b:Bool),Qdf β (.bool b)= .bool b)/\(∀β:Nat,Qdf β .nilS= .nilS)/\(∀(β e:Nat)(xs:List PV),Qdf β (.sl e xs)= .sl e xs)/\(∀(β γ o n:Nat),Qdf β (.mso γ o n)=if γ=β then .undef else .mso γ o n)/\(∀(β γ o n:Nat),Qdf β (.nso γ o n)=if γ=β then .undef else .nso γ o n):=by
 refine⟨?_,?_,?_,?_,?_,?_⟩<;>intros<;>rfl
theorem Qac9{β γ e ty:Nat}{x:PV}(h:γ≠β):Qav β (.nst γ e ty [x])= .nst γ e ty [Qcp (x.ncells.map (Qdf β))]:=by simp[Qav,h]
theorem Qada{β γ ty B n w:Nat}{π:Nat->Nat}(h:γ≠β)(h2:β<B):Qav β (.nst γ 1 ty (Qx (Qas B n w π)))= .nst γ 1 ty (Qx (Qas B n w π)):=by
 simp only[Qav,if_neg h]
 congr 1
 conv=>rhs;rw[<-List.map_id (Qx (Qas B n w π))]
 refine List.map_congr_left fun x hx=> ?_
 obtain⟨y,hy,rfl⟩:=List.mem_map.1 hx
 obtain⟨r,hr,rfl⟩:=List.mem_map.1 hy
 simp only[PV.ncells,PV.cells,List.map_cons,List.map_nil,Qdf,Qcp]
 rw[if_neg (by omega)];rfl
theorem mv_P{β δ γ ty B n w:Nat}{π:Nat->Nat}(hβ:β<1000000)(hB:2000000<=B)(hγ:2000000<=γ):rnP (mvN β δ) (.nst γ 1 ty (Qx (Qas B n w π)))= .nst γ 1 ty (Qx (Qas B n w π)):=by
 have e1:mvN β δ γ=γ:=by unfold mvN;rw[if_neg (by omega)]
 simp only[rnP,e1]
 congr 1
 conv=>rhs;rw[<-List.map_id (Qx (Qas B n w π))]
 refine List.map_congr_left fun x hx=> ?_
 obtain⟨y,hy,rfl⟩:=List.mem_map.1 hx
 obtain⟨r,hr,rfl⟩:=List.mem_map.1 hy
 refine Qou (.inr ⟨_,_,rfl⟩) fun β' n' h=> ?_
 cases h;unfold mvN;rw[if_neg (by omega)]
theorem Qahy{δ γ ty B n w:Nat}{π:Nat->Nat}(h:γ≠δ)(hδ:δ<B):Qdu δ (.nst γ 1 ty (Qx (Qas B n w π)))= .nst γ 1 ty (Qx (Qas B n w π)):=by
 simp only[Qdu,if_neg h]
 congr 1
 conv=>rhs;rw[<-List.map_id (Qx (Qas B n w π))]
 refine List.map_congr_left fun x hx=> ?_
 obtain⟨y,hy,rfl⟩:=List.mem_map.1 hx
 obtain⟨r,hr,rfl⟩:=List.mem_map.1 hy
 simp only[PV.ncells,PV.cells,List.map_cons,List.map_nil,Qef,Qcp]
 rw[if_neg (by omega)];rfl
theorem Q31{β:Nat}{cs:List PV}:Qan β (.rag cs)= .rag cs:=rfl
theorem Q8x{γ:Nat}{cs:List PV}:Qdu γ (.rag cs)= .rag (cs.map (Qef γ)):=rfl
theorem Q32{β:Nat}{cs:List PV}:Qav β (.rag cs)= .rag (cs.map (Qdf β)):=rfl
theorem Qahz:(∀(γ:Nat)(k:IntKind)(n:Int),Qef γ (.int k n)= .int k n)/\(∀(γ:Nat)(b:Bool),Qef γ (.bool b)= .bool b)/\(∀γ:Nat,Qef γ .nilS= .nilS)/\(∀(γ e:Nat)(xs:List PV),Qef γ (.sl e xs)= .sl e xs)/\(∀(γ β o n:Nat),Qef γ (.mso β o n)=if β=γ then .nso γ o n else .mso β o n)/\(∀(γ β o n:Nat),Qef γ (.nso β o n)= .nso β o n):=by
 refine⟨?_,?_,?_,?_,?_,?_⟩<;>intros<;>rfl
theorem Qagj{γ i o off d:Nat}:Qkn off (.np γ i o) d fr hp K=K (upd fr d (.np γ i (o+off))) hp:=rfl
theorem Q33{γ γ' e ty:Nat}{xs:List PV}:Qcg γ (.nst γ' e ty xs)=if γ'=γ then .undef else .nst γ' e ty xs:=rfl
theorem Q34{γ:Nat}{cs:List PV}:Qcg γ (.rag cs)= .rag cs:=rfl
attribute [go_sem] Qagj Q33 Q34 false_and List.all_cons List.all_nil Q31 Q8x Q32 Qahz exists_eq_left' Qagc Qagd Qahp Qahq Qahr Qahs stNs Qage Qac6 Qaht Qahu Q3z Q30 Qagf Qagg Qahv Qahw Qac7 Q0j Q0k Qahx Qxn Qwi Qagh Qac8 Qac9 Qada mv_P Qahy
theorem Qym{p:PV}(h:Cln p):Qee p=p:=by
 obtain⟨h1,h2,h3,h4⟩:=h
 have h5:(p.refs.any isN||p.sref.any isS)=false:=by
  rw[Bool.or_eq_false_iff,List.any_eq_false,List.any_eq_false]
  exact⟨fun x hx=>by simp[h1 x hx],fun x hx=>by simp[h2 x hx]⟩
 unfold Qee
 split
 ·exact absurd rfl (h3 _ _ _ _)
 ·exact absurd rfl (h4 _)
 ·rw[h5];rfl
theorem Qct{V W:List (Nat×Nat)}{B B':List Nat}{X Z F:Fr}(h:Qp0 V W=true)(hB:(B'.all B.contains)=true):ovr V X (bse B' (ovr W Z (bse B F)))=ovr W (ovr V X (bse B' Z)) (bse B F):=by
 have e1:Qdl (ovr W Z (bse B F))=ovr W (Qdl Z) (bse B F):=by
  funext s
  show Qee (ovr W Z (bse B F) s)=_
  unfold ovr
  split
  ·rfl
  ·exact Qym (Qi8 B F s)
 unfold bse
 rw[show Qdl (ovr W Z (Qad B (Qdl F)))=ovr W (Qdl Z) (Qad B (Qdl F))from e1,Qkz h hB]
theorem Q0l{c:PV}{x y:SC}{sk:List It}(hok:Qdk R sk)(W:List (Nat×Nat))(B:List Nat)(M:Fr->HP->Prop)
  (h:Qfu C R c x y (.el (Qhe W (bse B fr) M)::sk) (ovr W fr (bse B fr)) hp) (hM:∀J hp,M J hp->vc C R sk (ovr W J (bse B fr)) hp):Qfu C R c x y sk fr hp:=by
 refine Qgy (Qhe W (bse B fr) M) ?_ ?_
 ·unfold Qfu Qiu at h⊢
  split at h
  ·exact⟨fun e=>Qfi hok.1 _ _ _ _ _ _ (Nat.le_refl _) (.c x (.el Qi6 hok.2)) (Qos W B) (h.1 e),fun e=>Qfi hok.1 _ _ _ _ _ _ (Nat.le_refl _) (.c y (.el Qi6 hok.2)) (Qos W B) (h.2 e)⟩
  ·exact h
 ·rintro fr' hp' ⟨J,h1,h2⟩
  exact Qfi hok.1 _ _ _ _ _ _ (Nat.le_refl _) hok.2 h1 (hM J hp' h2)
theorem Qadb{γ e ty:Nat}{cs cs':List PV}(δ e' ty':Nat)(hfr:fr γ= .nst γ e ty [.rag cs])(h1:hp δ=none)(h2:2000000<=δ)(h3:0<e')(hl:cs'.length=cs.length)(hc:∀p∈cs.zip cs',p.2=p.1∨(p.1= .nilS/\p.2= .mso δ 0 0)):
  Wk fr hp (upd fr γ (.nst γ e ty [.rag cs'])) (Qg hp δ ⟨e',ty',[],false⟩):=by
 have h:=Qv0 (fr:=fr) (hp:=hp) (γ:=γ) (e:=e) (ty:=ty) (xs:=[.rag cs]) (xs':=[.rag cs']) (fun x=>if x=δ then some (e',ty')else none) hfr (fun x y h=> ?_) rfl (fun i x x' k1 k2=> ?_)
 ·refine cast (congrArg (Wk fr hp (upd fr γ (.nst γ e ty [.rag cs']))) (funext fun x=> ?_)) h
  unfold Qg
  by_cases hx:x=δ
  ·subst hx;simp
  ·simp[hx]
 ·split at h
  ·rename_i hx;subst hx;cases h;exact⟨h1,h2,h3⟩
  ·cases h
 ·cases i with
  |succ i=>cases k1
  | zero=>
   cases k1;cases k2
   refine⟨hl,fun j y y' q1 q2=> ?_⟩
   have hz:(y,y')∈cs.zip cs':=by
    refine List.mem_of_getElem? (i:=j) ?_
    rw[List.getElem?_zip_eq_some]
    exact⟨q1,q2⟩
   rcases hc _ hz with h|⟨h,h'⟩
   ·exact .inl h
   ·exact .inr ⟨h,δ,(e',ty'),by simp,h'⟩
theorem Qi1{l:List Nat}{x:Nat}(hl:∀y∈l,2000000<=y)(hx:x<2000000):Q9 hp l x=hp x:=by
 have:x ∉ l:=fun h=>by have:=hl x h;omega
 unfold Q9
 cases hp x<;>simp[this]
theorem Qagk{sk:List It}{r:RT}(s k:Nat){p D:PV}(h0:fr s=p)(ho:Qnx fr k p/\Qjw fr hp k p=D/\∀x∈Qsi fr k p,2000000<=x)(hv:∀l,(∀x∈l,2000000<=x)->vc C R (.o r::sk) (upd fr s D) (Q9 hp l)):vc C R (.o (.wk r)::sk) fr hp:=by
 subst h0
 obtain⟨h1,h2,h3⟩:=ho
 refine Qch (Qv1 s k h1) ?_
 rw[h2]
 exact hv _ h3
theorem Qce{V W:List (Nat×Nat)}{B:List Nat}{X Z F:Fr}(h:Qp0 V W=true):ovr V X (Qdl (ovr W Z (Qad B (Qdl F))))=ovr W (ovr V X (Qdl Z)) (Qad B (Qdl F)):=by
 have e1:Qdl (ovr W Z (bse B F))=ovr W (Qdl Z) (bse B F):=by
  funext s
  show Qee (ovr W Z (bse B F) s)=_
  unfold ovr
  split
  ·rfl
  ·exact Qym (Qi8 B F s)
 rw[show Qdl (ovr W Z (Qad B (Qdl F)))=ovr W (Qdl Z) (Qad B (Qdl F))from e1,Qcf h]
theorem Qci{V W:List (Nat×Nat)}{X Z F:Fr}(h:Qp0 V W=true):ovr V X (Qdl (ovr W Z (Qdl F)))=ovr W (ovr V X (Qdl Z)) (Qdl F):=by
 have:=Qce (V:=V) (W:=W) (B:=[]) (X:=X) (Z:=Z) (F:=F) h
 simpa only[Qbu]using this
theorem Q35{γ:Nat}{F:Fr}:Qcr γ (Qdl F)=Qdl F:=by
 have:=Qth (γ:=γ) (B:=[]) (F:=F)
 simpa only[bse,Qbu]using this
theorem Q36{β:Nat}{F:Fr}(h:2000000<=β):Qb3 β (Qdl F)=Qdl F:=by
 have:=Qtg (B:=[]) (F:=F) h
 simpa only[bse,Qbu]using this
attribute [go_sem] Q35 Q36
theorem Qah0:(∀(k:IntKind)(n:Int),(PV.int k n).sref=[])/\(∀b:Bool,(PV.bool b).sref=[])/\(PV.nilS.sref=[])/\(PV.undef.sref=[])/\(∀(e:Nat)(xs:List PV),(PV.sl e xs).sref=[])/\(∀cs:List PV,(PV.agg cs).sref=[])/\(∀cs:List PV,(PV.tup cs).sref=[])/\(∀cs:List PV,(PV.pt cs).sref=[])/\
  (∀(β o n:Nat),(PV.mso β o n).sref=[])/\(∀(β o n:Nat),(PV.mp β o n).sref=[])/\(∀(β o n:Nat),(PV.nso β o n).sref=[β])/\(∀(β o n:Nat),(PV.np β o n).sref=[β]):=by
 refine⟨?_,?_,?_,?_,?_,?_,?_,?_,?_,?_,?_,?_⟩<;>intros<;>rfl
attribute [go_sem] Qah0
theorem Q8y{d w i:Nat}{k:IntKind}{f:Nat->Rat}(h:i<w):Qed 3 (.sl 3 (Qh PV.rat f w)) (.int k (i:Nat)) d fr hp K=K (upd fr d (.pt (PV.rat (f i)).cells)) hp:=by
 unfold Qh
 rw[Qi3 (by omega) (by simp;omega)]
 simp
theorem Q8z{α:Type}{p:α->PV}{f:Nat->α}{w d e:Nat}:Qin (.sl e (Qh p f w)) d fr hp K=K (upd fr d (.int .i64 (w:Nat))) hp:=by
 simp[Qin,Qh]
attribute [go_sem] Q8y Q8z
theorem Qadc{P:Program}(hP:C.P=P){pr:Bool}{g:FuncId}{args pargs:List PV}{d:Option Nat}{γ1:Nat}{hb1:HB}{D:PV}(h:Qbr P g pargs (fun _=> .undef) (Qg hp0 1500001 ⟨hb1.e,hb1.ty,hb1.xs,true⟩) (fun r _ _=>r=D))(hD:Qfc D)(h1:hp γ1=some hb1)
  (hargs:args.map (rnP fun x=>if x=γ1 then 1500001 else x)=pargs) (hna:∀γ∈args.flatMap (fun x=>x.refs++x.sref),γ=γ1) (hpl:pargs.length<=1000000) (hK:K (Qbp fr d D) hp):Qcj C pr (.fn g [] []) args d fr hp K:=by
 have ga:∀β γ,(fun β=>if β=1500001 then some γ1 else none:Nat->Option Nat) β=some γ->β=1500001/\γ=γ1:=fun β γ hq=>by
  simp only at hq
  split at hq
  ·cases hq;rename_i e;exact⟨e,rfl⟩
  ·cases hq
 refine Qv2 hP h (fun β=>if β=1500001 then some γ1 else none) _ (fun β γ hq=> ?_) (fun β hq=> ?_) (fun β β' γ q1 q2=> ?_) (fun β γ hq=> ?_) hargs (fun x hx γ hγ=> ?_) (fun s _=> .inl rfl) hpl (fun r F H hr=> ?_)
 ·obtain⟨rfl,rfl⟩:=ga β γ hq
  exact⟨by decide,hb1,h1,by simp[Qg]⟩
 ·by_cases e:β=1500001
  ·exact⟨γ1,by simp[e]⟩
  ·simp[Qg,FW.hp0,e]at hq
 ·rw[(ga β γ q1).1,(ga β' γ q2).1]
 ·obtain⟨rfl,rfl⟩:=ga β γ hq;simp
 ·rw[hna γ (List.mem_flatMap.2 ⟨x,hx,hγ⟩)]
  exact⟨1500001,by simp⟩
 ·subst hr;exact⟨hD,hK⟩
theorem Qyn{P:Program}(hP:C.P=P){pr:Bool}{g:FuncId}{args pargs:List PV}{d:Option Nat}{γ1 γ2:Nat}{hb1 hb2:HB}{D:PV}(h:Qbr P g pargs (fun _=> .undef) (Qg (Qg hp0 1500000 ⟨hb1.e,hb1.ty,hb1.xs,true⟩) 1500001 ⟨hb2.e,hb2.ty,hb2.xs,true⟩) (fun r _ _=>r=D))(hD:Qfc D)(h1:hp γ1=some hb1)(h2:hp γ2=some hb2)(hne:γ1≠γ2)
  (hargs:args.map (rnP fun x=>if x=γ1 then 1500000 else if x=γ2 then 1500001 else x)=pargs) (hna:∀γ∈args.flatMap (fun x=>x.refs++x.sref),γ=γ1∨γ=γ2) (hpl:pargs.length<=1000000) (hK:K (Qbp fr d D) hp):Qcj C pr (.fn g [] []) args d fr hp K:=by
 have ga:∀β γ,(fun β=>if β=1500000 then some γ1 else if β=1500001 then some γ2 else none:Nat->Option Nat) β=some γ->(β=1500000/\γ=γ1)∨(β=1500001/\γ=γ2):=fun β γ hq=>by
  simp only at hq
  split at hq
  ·cases hq;rename_i e;exact .inl ⟨e,rfl⟩
  ·split at hq
   ·cases hq;rename_i e;exact .inr ⟨e,rfl⟩
   ·cases hq
 refine Qv2 hP h (fun β=>if β=1500000 then some γ1 else if β=1500001 then some γ2 else none) _ (fun β γ hq=> ?_) (fun β hq=> ?_) (fun β β' γ q1 q2=> ?_) (fun β γ hq=> ?_) hargs (fun x hx γ hγ=> ?_) (fun s _=> .inl rfl) hpl (fun r F H hr=> ?_)
 ·rcases ga β γ hq with⟨rfl,rfl⟩|⟨rfl,rfl⟩
  ·exact⟨by decide,hb1,h1,by simp[Qg]⟩
  ·exact⟨by decide,hb2,h2,by simp[Qg]⟩
 ·by_cases e:β=1500000
  ·exact⟨γ1,by simp[e]⟩
  ·by_cases e2:β=1500001
   ·exact⟨γ2,by simp[e2]⟩
   ·simp[Qg,FW.hp0,e,e2]at hq
 ·rcases ga β γ q1 with⟨rfl,rfl⟩|⟨rfl,rfl⟩<;>rcases ga β' _ q2 with⟨rfl,e⟩|⟨rfl,e⟩
  ·rfl
  ·exact absurd e hne
  ·exact absurd e.symm hne
  ·rfl
 ·rcases ga β γ hq with⟨rfl,rfl⟩|⟨rfl,rfl⟩
  ·simp
  ·rw[if_neg (fun e=>hne e.symm),if_pos rfl]
 ·rcases hna γ (List.mem_flatMap.2 ⟨x,hx,hγ⟩)with rfl|rfl
  ·exact⟨1500000,by simp⟩
  ·exact⟨1500001,by simp⟩
 ·subst hr;exact⟨hD,hK⟩
theorem Qadd{i c:Nat}(h:c<1600000):(1600000+i=c)=False:=by simp;omega
attribute [go_sem] Qadd
end Go.FW
