/- Part 11 of the proof of IdealSound: W9, FwWJ. Own lemmas; no conditions. -/
import Derived.Test.YtonfajmchebkeaaGreatIdealSoundPart10
set_option linter.unusedSimpArgs false
set_option linter.unnecessarySimpa false
set_option linter.unusedVariables false
namespace Go.Proofs.YtonfajmchebkeaaGreat
open Go Go.FW
set_option linter.unusedSimpArgs false
set_option linter.unusedVariables false
set_option maxRecDepth 100000
theorem Qagh(v:Nat):varM v=Qir v 1:=rfl
theorem Q3i{v:Nat}(hv:v<64):Qe Tryz.prog 58 [.int .i64 v] (· =PV.poly (Qac v)):=by
 have hset:(List.replicate (v+1) (0:Int)).set v 1=Qir v 1:=Qaf5 v 1 rfl
 have hlr:v<(List.replicate (v+1) (0:Int)).length:=by simp
 have hone:=Qth
 have hxl:(Qir v 1).length=v+1:=by simp[Qir]
 have hadd:=(Qnc (p:=[]) (m:=Qir v 1) (K:=1) (E:=1) (k:=4) (PB.nil _ _) trivial (by simp[NZ]) (Qci (q:=((1:Int):Rat)) (k:=4) (by rw[show((1:Int):Rat)=1 from rfl];omega)) (by omega) (Qajl hv) (Q9l (by omega)) (by omega) (by omega) (by simp)).le (args':=[.nilS,PV.rat ((1:Int):Rat),PV.mono (Qir v 1)]) ⟨trivial,Qv _,Qv _,trivial⟩
 rw[Qcr]at hadd
 have e:Qdr [] ((1:Int):Rat) (Qir v 1)=Qac v:=by
  rw[Qdr,Qdv,if_neg (by decide),Qac,if_neg (by omega),Int.toNat_natCast,Qagh];rfl
 rw[e]at hadd
 refine Qf Qj Tryz.func58 rfl Qaoi (by simp[c58]) fun C hP=> ?_;simp only[c58,Zo,Zg,Zm,Zc,Zf,Zl,Zh,Zs,Zi,Zb,Zk,Zn,Zu,Zq,Zr,Zz]
 simp+decide (disch:=first|exact D0|fail) only[go_sem,↓reduceIte]
 refine Qaa (fun h=>by omega) (fun _=> ?_)
 simp+decide (disch:=first|exact D0|fail) only[go_sem,↓reduceIte]
 refine Qb (fun h=>by omega) (fun _=> ?_)
 simp+decide (disch:=first|exact D1 hset|fail) only[go_sem,↓reduceIte,hset]
 refine Qa hP (Qcn (x:=1) (by omega) (by omega)) rfl rfl rfl ?_
 generalize((1:Int):Rat)=c at *
 simp+decide (disch:=first|exact D0|fail) only[go_sem,↓reduceIte]
 refine Qb3 hP hadd (by simp+decide (disch:=first|exact E0|fail) only[go_sem,↓reduceIte,Q7,List.contains_cons,List.contains_nil,List.flatMap_cons,List.flatMap_nil,List.append_nil];simp[List.take_of_length_le,hxl]) rfl ?_
 simp+decide (disch:=first|exact D0|fail) only[go_sem,↓reduceIte]
 exact Qc rfl rfl
end Go.Proofs.YtonfajmchebkeaaGreat
namespace Go.FW
open Go
theorem Qalw:Qcs [Qac 1,Qac 0] [Qac 0,Qbk 1]=(Q5 (Qaf (Qac 0) (Qac 1)) (Qac 0),0):=by decide+kernel
theorem Qalx:Qde [Qac 0,Qac 1] [2,0]=(Qaf (Qac 0) (Qac 0),0):=by decide+kernel
theorem Qaq2:Qgt [Qac 0] [1] 1 [Qbk 1] [Qaf (Qac 0) (Qac 1)] (Qac 1)=0:=by decide+kernel
theorem Qaq3:Qgt [Qac 0] [1] 1 [Qbk 1] [Qaf (Qac 0) (Qac 1)] (Qac 0)=17:=by decide+kernel
def sm4B(p:List Tm):Bool:=pbB 3 4 p&&(nrmB p&&((p.all fun t=>decide (t.2.length<=4))&&decide (p.length<=6)))
theorem Qn5{p:List Tm}(h:sm4B p=true):Sm4 p:=by
 simp only[sm4B,Bool.and_eq_true,decide_eq_true_eq,List.all_eq_true]at h
 exact⟨Qaps h.2.1,Qaq1 h.1,fun t ht=>h.2.2.1 t ht,h.2.2.2⟩
theorem Qapu:exO (Qac 0) (Qaf (Qac 0) (Qac 0))=some (Qac 0):=by
  rw [   Qn3 (k := 1) ⟨fun k hk => by obtain rfl:k=0:=by omega
                                      exact⟨by decide+kernel,by decide+kernel⟩,fun h=>h.1 (by decide+kernel)⟩,if_pos (by decide+kernel)]
  exact congrArg some (by decide+kernel)
theorem Qapv:exO (Qac 0) (Qaf (Qac 0) (Qac 1))=some (Qac 1):=by
  rw [   Qn3 (k := 1) ⟨fun k hk => by obtain rfl:k=0:=by omega
                                      exact⟨by decide+kernel,by decide+kernel⟩,fun h=>h.1 (by decide+kernel)⟩,if_pos (by decide+kernel)]
  exact congrArg some (by decide+kernel)
theorem Qapw:exO (Qac 0) (Qac 1)=none:=by
 rw[Qn3 (k:=0) ⟨fun k hk=>by omega,fun h=>absurd h.2 (by decide+kernel)⟩,if_neg (by decide+kernel)]
theorem Qapx:Qix (Qck [(Qac 0,2)]) (Qct [(Qac 0,2)]) ([Qaf (Qac 0) (Qac 0),Qaf (Qac 0) (Qac 1)].map fun c=>Qag c (Qb8 [(Qac 0,2)])) 0 [Qac 0] [1] [Qac 0,Qac 1]:=by
 have e1:Qck [(Qac 0,2)]=[Qac 0]:=by decide+kernel
 have e2:Qct [(Qac 0,2)]=[2]:=by decide+kernel
 have e3:([Qaf (Qac 0) (Qac 0),Qaf (Qac 0) (Qac 1)].map fun c=>Qag c (Qb8 [(Qac 0,2)]))=[Qaf (Qac 0) (Qac 0),Qaf (Qac 0) (Qac 1)]:=by decide+kernel
 rw[e1,e2,e3]
 refine .cut (r:=[Qac 0,Qac 1]) (by simp) (by simp) (by simp) (by simp[exL,Qapu,Qapv]) (by simp) ?_
 refine .skip (by simp) (by simp) (.inr ?_) (.done (by simp))
 show exL (Qac 0) [Qac 0,Qac 1]=none
 refine Qpl (i:=1) (by simp) Qapw
end Go.FW
