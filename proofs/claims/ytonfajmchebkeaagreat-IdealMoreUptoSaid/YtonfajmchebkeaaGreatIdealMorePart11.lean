/- Part 11 of the proof of IdealMore: W9, FwWJ. Own lemmas; no conditions. -/
import Derived.Test.YtonfajmchebkeaaGreatIdealMorePart10
set_option linter.unusedSimpArgs false
set_option linter.unnecessarySimpa false
set_option linter.unusedVariables false
namespace Go.Proofs.YtonfajmchebkeaaGreat
open Go Go.FW
set_option linter.unusedSimpArgs false
set_option linter.unusedVariables false
set_option maxRecDepth 100000
theorem Qaeu(v:Nat):varM v=Qid v 1:=rfl
theorem Q12{v:Nat}(hv:v<64):Qd Tryz.prog 58 [.int .i64 v] (· =PV.poly (Q9 v)):=by
 have hset:(List.replicate (v+1) (0:Int)).set v 1=Qid v 1:=Qaei v 1 rfl
 have hlr:v<(List.replicate (v+1) (0:Int)).length:=by simp
 have hone:=Qzn
 have hxl:(Qid v 1).length=v+1:=by simp[Qid]
 have hadd:=(Qrz (p:=[]) (m:=Qid v 1) (K:=1) (E:=1) (k:=4) (PB.nil _ _) trivial (by simp[NZ]) (Qcq (q:=((1:Int):Rat)) (k:=4) (by rw[show((1:Int):Rat)=1 from rfl];omega)) (by omega) (Qahw hv) (Q8a (by omega)) (by omega) (by omega) (by simp)).le (args':=[.nilS,PV.rat ((1:Int):Rat),PV.mono (Qid v 1)]) ⟨trivial,Qz _,Qz _,trivial⟩
 rw[Qdi]at hadd
 have e:Qic [] ((1:Int):Rat) (Qid v 1)=Q9 v:=by
  rw[Qic,Qei,if_neg (by decide),Q9,if_neg (by omega),Int.toNat_natCast,Qaeu];rfl
 rw[e]at hadd
 refine Qf Qk Tryz.func58 rfl Qamm (by simp[c58]) fun C hP=> ?_;simp only[c58,Zo,Zg,Zm,Zc,Zf,Zl,Zh,Zs,Zi,Zb,Zk,Zn,Zu,Zq,Zr,Zz]
 simp+decide (disch:=first|exact D0|fail) only[go_sem,↓reduceIte]
 refine Qaa (fun h=>by omega) (fun _=> ?_)
 simp+decide (disch:=first|exact D0|fail) only[go_sem,↓reduceIte]
 refine Qb (fun h=>by omega) (fun _=> ?_)
 simp+decide (disch:=first|exact D1 hset|fail) only[go_sem,↓reduceIte,hset]
 refine Qa hP (Qt9 (x:=1) (by omega) (by omega)) rfl rfl rfl ?_
 generalize((1:Int):Rat)=c at *
 simp+decide (disch:=first|exact D0|fail) only[go_sem,↓reduceIte]
 refine Qcj hP hadd (by simp+decide (disch:=first|exact E0|fail) only[go_sem,↓reduceIte,Q7,List.contains_cons,List.contains_nil,List.flatMap_cons,List.flatMap_nil,List.append_nil];simp[List.take_of_length_le,hxl]) rfl ?_
 simp+decide (disch:=first|exact D0|fail) only[go_sem,↓reduceIte]
 exact Qc rfl rfl
end Go.Proofs.YtonfajmchebkeaaGreat
namespace Go.FW
open Go
theorem Qaju:Qcg [Q9 1,Q9 0] [Q9 0,Qbj 1]=(Qy (Qu (Q9 0) (Q9 1)) (Q9 0),0):=by decide+kernel
theorem Qajv:Qda [Q9 0,Q9 1] [2,0]=(Qu (Q9 0) (Q9 0),0):=by decide+kernel
theorem Qaox:Qfo [Q9 0] [1] 1 [Qbj 1] [Qu (Q9 0) (Q9 1)] (Q9 1)=0:=by decide+kernel
theorem Qaoy:Qfo [Q9 0] [1] 1 [Qbj 1] [Qu (Q9 0) (Q9 1)] (Q9 0)=17:=by decide+kernel
def sm4B(p:List Tm):Bool:=pbB 3 4 p&&(nrmB p&&((p.all fun t=>decide (t.2.length<=4))&&decide (p.length<=6)))
theorem Qnh{p:List Tm}(h:sm4B p=true):Sm4 p:=by
 simp only[sm4B,Bool.and_eq_true,decide_eq_true_eq,List.all_eq_true]at h
 exact⟨Qanl h.2.1,Qaow h.1,fun t ht=>h.2.2.1 t ht,h.2.2.2⟩
theorem Qann : exO (Q9 0) (Qu (Q9 0) (Q9 0))=some (Q9 0):=by
  rw [   Qnf (k := 1) ⟨fun k hk => by obtain rfl:k=0:=by omega
                                      exact⟨by decide+kernel,by decide+kernel⟩,fun h=>h.1 (by decide+kernel)⟩,if_pos (by decide+kernel)]
  exact congrArg some (by decide+kernel)
theorem Qano : exO (Q9 0) (Qu (Q9 0) (Q9 1))=some (Q9 1):=by
  rw [   Qnf (k := 1) ⟨fun k hk => by obtain rfl:k=0:=by omega
                                      exact⟨by decide+kernel,by decide+kernel⟩,fun h=>h.1 (by decide+kernel)⟩,if_pos (by decide+kernel)]
  exact congrArg some (by decide+kernel)
theorem Qanp:exO (Q9 0) (Q9 1)=none:=by
 rw[Qnf (k:=0) ⟨fun k hk=>by omega,fun h=>absurd h.2 (by decide+kernel)⟩,if_neg (by decide+kernel)]
theorem Qanq:Qet (Qdb [(Q9 0,2)]) (Qdc [(Q9 0,2)]) ([Qu (Q9 0) (Q9 0),Qu (Q9 0) (Q9 1)].map fun c=>Qal c (Qc1 [(Q9 0,2)])) 0 [Q9 0] [1] [Q9 0,Q9 1]:=by
 have e1:Qdb [(Q9 0,2)]=[Q9 0]:=by decide+kernel
 have e2:Qdc [(Q9 0,2)]=[2]:=by decide+kernel
 have e3:([Qu (Q9 0) (Q9 0),Qu (Q9 0) (Q9 1)].map fun c=>Qal c (Qc1 [(Q9 0,2)]))=[Qu (Q9 0) (Q9 0),Qu (Q9 0) (Q9 1)]:=by decide+kernel
 rw[e1,e2,e3]
 refine .cut (r:=[Q9 0,Q9 1]) (by simp) (by simp) (by simp) (by simp[exL,Qann,Qano]) (by simp) ?_
 refine .skip (by simp) (by simp) (.inr ?_) (.done (by simp))
 show exL (Q9 0) [Q9 0,Q9 1]=none
 refine Qsq (i:=1) (by simp) Qanp
end Go.FW
