/- Part 12 of the proof of MatrixSolves: B5, FwVG. Own lemmas; no conditions. -/
import Derived.Test.YtkoclfmjlolkhaaGreatMatrixSolvesPart11
set_option linter.unusedSimpArgs false
set_option linter.unusedVariables false
set_option linter.unnecessarySimpa false
set_option maxRecDepth 100000
namespace Go.Proofs.YtkoclfmjlolkhaaGreat
open Go Go.FW
end Go.Proofs.YtkoclfmjlolkhaaGreat
namespace Go.FW
open Go
variable {C : Ctx} {fr : Fr} {hp : HP} {w : World} {K R : Qf}
theorem Qagv{ty d β n e' ty':Nat}{xs:List PV}{fz:Bool}(h:hp β=some ⟨e',ty',xs,fz⟩)(hB:2000000<=β)(h5:β<5000000:=by omega):
  bsK 1 ty [.ms β n] d fr hp K=K (upd (Qap d fr) d (.ms d 1)) (Qg (Q9 hp [β]) d ⟨1,ty,[.sl e' (xs.take n)],false⟩):=by
 have hy:isY β=false:=by simp[isY];omega
 have e1:Q8 hp (.ms β n)= .sl e' (xs.take n):=by simp[Q8,Qaq,hy,h]
 have e2:Qlc hp 1 [.ms β n]:=fun p hp'=>by
  rw[List.mem_singleton.1 hp',e1];exact⟨rfl,rfl⟩
 have hbg:Qfo [.ms β n]=false:=by simp[Qfo,Qcl];omega
 simp only[bsK,hbg,Bool.false_eq_true,if_false,bsO,e2,true_and,List.map_cons,List.map_nil,e1,List.flatMap_cons,List.flatMap_nil,PV.refs,List.append_nil,List.length_cons,List.length_nil]
 simp
theorem Q9b{x y:RT}{sk:List It}(hok:Qdk R sk)(W:List (Nat×Nat))(B:List Nat)(M:Fr->HP->Prop)
  (h:brV C R x y (.el (Qhe W (bse B fr) M)::sk) (ovr W fr (bse B fr)) hp) (hM:∀J hp,M J hp->vc C R sk (ovr W J (bse B fr)) hp):brV C R x y sk fr hp:=by
 have key:∀(r:RT),vc C R (.o r:: .el (Qhe W (bse B fr) M)::sk) (ovr W fr (bse B fr)) hp->vc C R (.o r::sk) fr hp:=by
  intro r hr
  refine Qlj (M:=Qhe W (bse B fr) M) ?_ _ [.o r] _ _ (Nat.le_refl _) ?_
  ·rintro fr' hp' ⟨J,h1,h2⟩
   exact Qfi hok.1 _ _ _ _ _ _ (Nat.le_refl _) hok.2 h1 (hM J hp' h2)
  ·exact Qfi hok.1 _ _ _ _ _ _ (Nat.le_refl _) (.o r (.el Qi6 hok.2)) (Qos W B) hr
 exact⟨key x h.1,key y h.2⟩
theorem Qwo{nm:Nat->Bool}{W:List (Nat×Nat)}{J F:Fr}:Qdd nm (ovr W J F)=ovr W (Qdd nm J) (Qdd nm F):=by
 funext s;unfold Qdd ovr;split<;>rfl
theorem Qwp{nm:Nat->Bool}(h:∀x,nm x=true->2000000<=x){B:List Nat}{F:Fr}:Qdd nm (bse B F)=bse B F:=by
 funext s
 obtain⟨h1,h2,_,_⟩:=Qi8 B F s
 show Qmx nm (bse B F s)=bse B F s
 unfold Qmx
 rw[if_neg]
 intro hn
 obtain⟨x,hx,hx2⟩:=List.any_eq_true.1 hn
 have:=h x hx2
 rcases List.mem_append.1 hx with hx|hx
 ·have:=h1 x hx;simp[isN]at this;omega
 ·have:=h2 x hx;simp[isS,isN]at this;omega
theorem Qk8(R:Nat)(M:MF):∀k,(Qaf R M k).piv.Pairwise (· < ·)
 |0=>List.Pairwise.nil
 | k+1=>by
  have h:=Qk8 R M k
  have h2:=(Qdn R M k).2.2
  show(Qdm R (Qaf R M k) k).piv.Pairwise (· < ·)
  unfold Qdm
  split
  ·exact h
  ·refine List.pairwise_append.2 ⟨h,by simp,fun a ha b hb=> ?_⟩
   rw[List.mem_singleton.1 hb];exact h2 a ha
theorem Qj0{l:List Nat}(h:l.Pairwise (· < ·)){i j:Nat}(hij:i<j)(hj:j<l.length):l[i]<l[j]:=List.pairwise_iff_getElem.1 h i j (by omega) hj hij
def Qev(E:MF)(piv:List Nat)(k:Nat):Nat->(Nat->Rat)
 |0=>fun c=>if c=k then 1 else 0
 |j+1=>fun c=>if c=piv.getD j 0 then -(E j k)else Qev E piv k j c
def Qex(piv:List Nat)(n:Nat):List Nat:=(List.range n).filter fun k=> !piv.contains k
theorem Qrm(piv:List Nat)(n:Nat):Qex piv (n+1)=Qex piv n++(if piv.contains n then []else [n]):=by
 unfold Qex
 rw[List.range_succ,List.filter_append]
 congr 1
 simp only[List.filter_cons,List.filter_nil]
 cases piv.contains n<;>rfl
def Qck(E:MF)(piv:List Nat)(n:Nat):List (Nat->Rat):=(Qex piv n).map fun k=>Qev E piv k piv.length
end Go.FW
