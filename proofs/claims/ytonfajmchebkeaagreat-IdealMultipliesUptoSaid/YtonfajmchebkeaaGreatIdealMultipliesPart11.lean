/- Part 11 of the proof of IdealMultiplies: W9, FwWJ. Own lemmas; no conditions. -/
import Derived.Test.YtonfajmchebkeaaGreatIdealMultipliesPart10
set_option linter.unusedSimpArgs false
set_option linter.unnecessarySimpa false
set_option linter.unusedVariables false
namespace Go.Proofs.YtonfajmchebkeaaGreat
open Go Go.FW
set_option linter.unusedSimpArgs false
set_option linter.unusedVariables false
set_option maxRecDepth 100000
theorem Qact(v:Nat):varM v=Qhv v 1:=rfl
theorem Q0l{v:Nat}(hv:v<64):Qe Tryz.prog 58 [.int .i64 v] (· =PV.poly (Q6 v)):=by
 have hset:(List.replicate (v+1) (0:Int)).set v 1=Qhv v 1:=Qach v 1 rfl
 have hlr:v<(List.replicate (v+1) (0:Int)).length:=by simp
 have hone:=Qub
 have hxl:(Qhv v 1).length=v+1:=by simp[Qhv]
 have hadd:=(Qqz (p:=[]) (m:=Qhv v 1) (K:=1) (E:=1) (k:=4) (PB.nil _ _) trivial (by simp[NZ]) (Qch (q:=((1:Int):Rat)) (k:=4) (by rw[show((1:Int):Rat)=1 from rfl];omega)) (by omega) (Qafw hv) (Q6d (by omega)) (by omega) (by omega) (by simp)).le (args':=[.nilS,PV.rat ((1:Int):Rat),PV.mono (Qhv v 1)]) ⟨trivial,Qt _,Qt _,trivial⟩
 rw[Qc1]at hadd
 have e:Qhu [] ((1:Int):Rat) (Qhv v 1)=Q6 v:=by
  rw[Qhu,Qd0,if_neg (by decide),Q6,if_neg (by omega),Int.toNat_natCast,Qact];rfl
 rw[e]at hadd
 refine Qf Qk Tryz.func58 rfl Qakg (by simp[c58]) fun C hP=> ?_;simp only[c58,Zo,Zg,Zm,Zc,Zf,Zl,Zh,Zs,Zi,Zb,Zk,Zn,Zu,Zq,Zr,Zz]
 simp+decide (disch:=first|exact D0|fail) only[go_sem,↓reduceIte]
 refine Qab (fun h=>by omega) (fun _=> ?_)
 simp+decide (disch:=first|exact D0|fail) only[go_sem,↓reduceIte]
 refine Qb (fun h=>by omega) (fun _=> ?_)
 simp+decide (disch:=first|exact D1 hset|fail) only[go_sem,↓reduceIte,hset]
 refine Qa hP (Qs7 (x:=1) (by omega) (by omega)) rfl rfl rfl ?_
 generalize((1:Int):Rat)=c at *
 simp+decide (disch:=first|exact D0|fail) only[go_sem,↓reduceIte]
 refine Qcf hP hadd (by simp+decide (disch:=first|exact E0|fail) only[go_sem,↓reduceIte,Q5,List.contains_cons,List.contains_nil,List.flatMap_cons,List.flatMap_nil,List.append_nil];simp[List.take_of_length_le,hxl]) rfl ?_
 simp+decide (disch:=first|exact D0|fail) only[go_sem,↓reduceIte]
 exact Qc rfl rfl
end Go.Proofs.YtonfajmchebkeaaGreat
namespace Go.FW
open Go
theorem Qahx:Qa2 [Q6 1,Q6 0] [Q6 0,Qbw 1]=(Qx (Qae (Q6 0) (Q6 1)) (Q6 0),0):=by decide+kernel
theorem Qahy:Qcb [Q6 0,Q6 1] [2,0]=(Qae (Q6 0) (Q6 0),0):=by decide+kernel
theorem Qamt:Qpd [Q6 0] [1] 1 [Qbw 1] [Qae (Q6 0) (Q6 1)] (Q6 1)=0:=by decide+kernel
theorem Qamu:Qpd [Q6 0] [1] 1 [Qbw 1] [Qae (Q6 0) (Q6 1)] (Q6 0)=17:=by decide+kernel
def sm4B(p:List Tm):Bool:=pbB 3 4 p&&(nrmB p&&((p.all fun t=>decide (t.2.length<=4))&&decide (p.length<=6)))
theorem Qmp{p:List Tm}(h:sm4B p=true):Sm4 p:=by
 simp only[sm4B,Bool.and_eq_true,decide_eq_true_eq,List.all_eq_true]at h
 exact⟨Qalk h.2.1,Qams h.1,fun t ht=>h.2.2.1 t ht,h.2.2.2⟩
theorem Qalm : exO (Q6 0) (Qae (Q6 0) (Q6 0))=some (Q6 0):=by
  rw [   Qmo (k := 1) ⟨fun k hk => by obtain rfl:k=0:=by omega
                                      exact⟨by decide+kernel,by decide+kernel⟩,fun h=>h.1 (by decide+kernel)⟩,if_pos (by decide+kernel)]
  exact congrArg some (by decide+kernel)
theorem Qaln : exO (Q6 0) (Qae (Q6 0) (Q6 1))=some (Q6 1):=by
  rw [   Qmo (k := 1) ⟨fun k hk => by obtain rfl:k=0:=by omega
                                      exact⟨by decide+kernel,by decide+kernel⟩,fun h=>h.1 (by decide+kernel)⟩,if_pos (by decide+kernel)]
  exact congrArg some (by decide+kernel)
theorem Qalo:exO (Q6 0) (Q6 1)=none:=by
 rw[Qmo (k:=0) ⟨fun k hk=>by omega,fun h=>absurd h.2 (by decide+kernel)⟩,if_neg (by decide+kernel)]
theorem Qalp:Ql0 (Qew [(Q6 0,2)]) (Qek [(Q6 0,2)]) ([Qae (Q6 0) (Q6 0),Qae (Q6 0) (Q6 1)].map fun c=>Qas c (Qc7 [(Q6 0,2)])) 0 [Q6 0] [1] [Q6 0,Q6 1]:=by
 have e1:Qew [(Q6 0,2)]=[Q6 0]:=by decide+kernel
 have e2:Qek [(Q6 0,2)]=[2]:=by decide+kernel
 have e3:([Qae (Q6 0) (Q6 0),Qae (Q6 0) (Q6 1)].map fun c=>Qas c (Qc7 [(Q6 0,2)]))=[Qae (Q6 0) (Q6 0),Qae (Q6 0) (Q6 1)]:=by decide+kernel
 rw[e1,e2,e3]
 refine .cut (r:=[Q6 0,Q6 1]) (by simp) (by simp) (by simp) (by simp[exL,Qalm,Qaln]) (by simp) ?_
 refine .skip (by simp) (by simp) (.inr ?_) (.done (by simp))
 show exL (Q6 0) [Q6 0,Q6 1]=none
 refine Qrs (i:=1) (by simp) Qalo
end Go.FW
