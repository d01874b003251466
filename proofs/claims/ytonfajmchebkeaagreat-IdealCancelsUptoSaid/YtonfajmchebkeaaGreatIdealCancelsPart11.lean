/- Part 11 of the proof of IdealCancels: W9, FwWJ. Own lemmas; no conditions. -/
import Derived.Test.YtonfajmchebkeaaGreatIdealCancelsPart10
set_option linter.unusedSimpArgs false
set_option linter.unnecessarySimpa false
set_option linter.unusedVariables false
namespace Go.Proofs.YtonfajmchebkeaaGreat
open Go Go.FW
set_option linter.unusedSimpArgs false
set_option linter.unusedVariables false
set_option maxRecDepth 100000
theorem Qaei(v:Nat):varM v=Qh5 v 1:=rfl
theorem Q1s{v:Nat}(hv:v<64):Qe Tryz.prog 58 [.int .i64 v] (· =PV.poly (Qaa v)):=by
 have hset:(List.replicate (v+1) (0:Int)).set v 1=Qh5 v 1:=Qad5 v 1 rfl
 have hlr:v<(List.replicate (v+1) (0:Int)).length:=by simp
 have hone:=Qy6
 have hxl:(Qh5 v 1).length=v+1:=by simp[Qh5]
 have hadd:=(Qme (p:=[]) (m:=Qh5 v 1) (K:=1) (E:=1) (k:=4) (PB.nil _ _) trivial (by simp[NZ]) (Qcc (q:=((1:Int):Rat)) (k:=4) (by rw[show((1:Int):Rat)=1 from rfl];omega)) (by omega) (Qahk hv) (Q7n (by omega)) (by omega) (by omega) (by simp)).le (args':=[.nilS,PV.rat ((1:Int):Rat),PV.mono (Qh5 v 1)]) ⟨trivial,Qt _,Qt _,trivial⟩
 rw[Qcj]at hadd
 have e:Qdh [] ((1:Int):Rat) (Qh5 v 1)=Qaa v:=by
  rw[Qdh,Qdl,if_neg (by decide),Qaa,if_neg (by omega),Int.toNat_natCast,Qaei];rfl
 rw[e]at hadd
 refine Qf Qi Tryz.func58 rfl Qamk (by simp[c58]) fun C hP=> ?_;simp only[c58,Zo,Zg,Zm,Zc,Zf,Zl,Zh,Zs,Zi,Zb,Zk,Zn,Zu,Zq,Zr,Zz]
 simp+decide (disch:=first|exact D0|fail) only[go_sem,↓reduceIte]
 refine Q7 (fun h=>by omega) (fun _=> ?_)
 simp+decide (disch:=first|exact D0|fail) only[go_sem,↓reduceIte]
 refine Qb (fun h=>by omega) (fun _=> ?_)
 simp+decide (disch:=first|exact D1 hset|fail) only[go_sem,↓reduceIte,hset]
 refine Qa hP (Qoa (x:=1) (by omega) (by omega)) rfl rfl rfl ?_
 generalize((1:Int):Rat)=c at *
 simp+decide (disch:=first|exact D0|fail) only[go_sem,↓reduceIte]
 refine Qb1 hP hadd (by simp+decide (disch:=first|exact E0|fail) only[go_sem,↓reduceIte,Q5,List.contains_cons,List.contains_nil,List.flatMap_cons,List.flatMap_nil,List.append_nil];simp[List.take_of_length_le,hxl]) rfl ?_
 simp+decide (disch:=first|exact D0|fail) only[go_sem,↓reduceIte]
 exact Qc rfl rfl
end Go.Proofs.YtonfajmchebkeaaGreat
namespace Go.FW
open Go
theorem Qajz:Qck [Qaa 1,Qaa 0] [Qaa 0,Qcb 1]=(Q3 (Qag (Qaa 0) (Qaa 1)) (Qaa 0),0):=by decide+kernel
theorem Qaj0:Qdi [Qaa 0,Qaa 1] [2,0]=(Qag (Qaa 0) (Qaa 0),0):=by decide+kernel
theorem Qaox:Qpw [Qaa 0] [1] 1 [Qcb 1] [Qag (Qaa 0) (Qaa 1)] (Qaa 1)=0:=by decide+kernel
theorem Qaoy:Qpw [Qaa 0] [1] 1 [Qcb 1] [Qag (Qaa 0) (Qaa 1)] (Qaa 0)=17:=by decide+kernel
def sm4B(p:List Tm):Bool:=pbB 3 4 p&&(nrmB p&&((p.all fun t=>decide (t.2.length<=4))&&decide (p.length<=6)))
theorem Qm7{p:List Tm}(h:sm4B p=true):Sm4 p:=by
 simp only[sm4B,Bool.and_eq_true,decide_eq_true_eq,List.all_eq_true]at h
 exact⟨Qano h.2.1,Qaow h.1,fun t ht=>h.2.2.1 t ht,h.2.2.2⟩
theorem Qanq:exO (Qaa 0) (Qag (Qaa 0) (Qaa 0))=some (Qaa 0):=by
  rw [   Qm6 (k := 1) ⟨fun k hk => by obtain rfl:k=0:=by omega
                                      exact⟨by decide+kernel,by decide+kernel⟩,fun h=>h.1 (by decide+kernel)⟩,if_pos (by decide+kernel)]
  exact congrArg some (by decide+kernel)
theorem Qanr:exO (Qaa 0) (Qag (Qaa 0) (Qaa 1))=some (Qaa 1):=by
  rw [   Qm6 (k := 1) ⟨fun k hk => by obtain rfl:k=0:=by omega
                                      exact⟨by decide+kernel,by decide+kernel⟩,fun h=>h.1 (by decide+kernel)⟩,if_pos (by decide+kernel)]
  exact congrArg some (by decide+kernel)
theorem Qans:exO (Qaa 0) (Qaa 1)=none:=by
 rw[Qm6 (k:=0) ⟨fun k hk=>by omega,fun h=>absurd h.2 (by decide+kernel)⟩,if_neg (by decide+kernel)]
theorem Qant:Qmf (Qe7 [(Qaa 0,2)]) (Qeu [(Qaa 0,2)]) ([Qag (Qaa 0) (Qaa 0),Qag (Qaa 0) (Qaa 1)].map fun c=>Qar c (Qdb [(Qaa 0,2)])) 0 [Qaa 0] [1] [Qaa 0,Qaa 1]:=by
 have e1:Qe7 [(Qaa 0,2)]=[Qaa 0]:=by decide+kernel
 have e2:Qeu [(Qaa 0,2)]=[2]:=by decide+kernel
 have e3:([Qag (Qaa 0) (Qaa 0),Qag (Qaa 0) (Qaa 1)].map fun c=>Qar c (Qdb [(Qaa 0,2)]))=[Qag (Qaa 0) (Qaa 0),Qag (Qaa 0) (Qaa 1)]:=by decide+kernel
 rw[e1,e2,e3]
 refine .cut (r:=[Qaa 0,Qaa 1]) (by simp) (by simp) (by simp) (by simp[exL,Qanq,Qanr]) (by simp) ?_
 refine .skip (by simp) (by simp) (.inr ?_) (.done (by simp))
 show exL (Qaa 0) [Qaa 0,Qaa 1]=none
 refine Qol (i:=1) (by simp) Qans
end Go.FW
