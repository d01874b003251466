/- Part 11 of the proof of IdealChecks: W9, FwWJ. Own lemmas; no conditions. -/
import Derived.Test.YtonfajmchebkeaaGreatIdealChecksPart10
set_option linter.unusedSimpArgs false
set_option linter.unnecessarySimpa false
set_option linter.unusedVariables false
namespace Go.Proofs.YtonfajmchebkeaaGreat
open Go Go.FW
set_option linter.unusedSimpArgs false
set_option linter.unusedVariables false
set_option maxRecDepth 100000
theorem Qada(v:Nat):varM v=Qh1 v 1:=rfl
theorem Q0z{v:Nat}(hv:v<64):Qe Tryz.prog 58 [.int .i64 v] (· =PV.poly (Q9 v)):=by
 have hset:(List.replicate (v+1) (0:Int)).set v 1=Qh1 v 1:=Qacy v 1 rfl
 have hlr:v<(List.replicate (v+1) (0:Int)).length:=by simp
 have hone:=Quq
 have hxl:(Qh1 v 1).length=v+1:=by simp[Qh1]
 have hadd:=(Qq9 (p:=[]) (m:=Qh1 v 1) (K:=1) (E:=1) (k:=4) (PB.nil _ _) trivial (by simp[NZ]) (Qcm (q:=((1:Int):Rat)) (k:=4) (by rw[show((1:Int):Rat)=1 from rfl];omega)) (by omega) (Qagd hv) (Q6t (by omega)) (by omega) (by omega) (by simp)).le (args':=[.nilS,PV.rat ((1:Int):Rat),PV.mono (Qh1 v 1)]) ⟨trivial,Qw _,Qw _,trivial⟩
 rw[Qc4]at hadd
 have e:Qh0 [] ((1:Int):Rat) (Qh1 v 1)=Q9 v:=by
  rw[Qh0,Qd3,if_neg (by decide),Q9,if_neg (by omega),Int.toNat_natCast,Qada];rfl
 rw[e]at hadd
 refine Qf Qk Tryz.func58 rfl Qakw (by simp[c58]) fun C hP=> ?_;simp only[c58,Zo,Zg,Zm,Zc,Zf,Zl,Zh,Zs,Zi,Zb,Zk,Zn,Zu,Zq,Zr,Zz]
 simp+decide (disch:=first|exact D0|fail) only[go_sem,↓reduceIte]
 refine Qac (fun h=>by omega) (fun _=> ?_)
 simp+decide (disch:=first|exact D0|fail) only[go_sem,↓reduceIte]
 refine Qb (fun h=>by omega) (fun _=> ?_)
 simp+decide (disch:=first|exact D1 hset|fail) only[go_sem,↓reduceIte,hset]
 refine Qa hP (Qtk (x:=1) (by omega) (by omega)) rfl rfl rfl ?_
 generalize((1:Int):Rat)=c at *
 simp+decide (disch:=first|exact D0|fail) only[go_sem,↓reduceIte]
 refine Qch hP hadd (by simp+decide (disch:=first|exact E0|fail) only[go_sem,↓reduceIte,Q6,List.contains_cons,List.contains_nil,List.flatMap_cons,List.flatMap_nil,List.append_nil];simp[List.take_of_length_le,hxl]) rfl ?_
 simp+decide (disch:=first|exact D0|fail) only[go_sem,↓reduceIte]
 exact Qc rfl rfl
end Go.Proofs.YtonfajmchebkeaaGreat
namespace Go.FW
open Go
theorem Qaic:Qa1 [Q9 1,Q9 0] [Q9 0,Qbz 1]=(Qy (Qaf (Q9 0) (Q9 1)) (Q9 0),0):=by decide+kernel
theorem Qaid:Qb5 [Q9 0,Q9 1] [2,0]=(Qaf (Q9 0) (Q9 0),0):=by decide+kernel
theorem Qanb:Qjg [Q9 0] [1] 1 [Qbz 1] [Qaf (Q9 0) (Q9 1)] (Q9 1)=0:=by decide+kernel
theorem Qanc:Qjg [Q9 0] [1] 1 [Qbz 1] [Qaf (Q9 0) (Q9 1)] (Q9 0)=17:=by decide+kernel
def sm4B(p:List Tm):Bool:=pbB 3 4 p&&(nrmB p&&((p.all fun t=>decide (t.2.length<=4))&&decide (p.length<=6)))
theorem Qmz{p:List Tm}(h:sm4B p=true):Sm4 p:=by
 simp only[sm4B,Bool.and_eq_true,decide_eq_true_eq,List.all_eq_true]at h
 exact⟨Qal1 h.2.1,Qana h.1,fun t ht=>h.2.2.1 t ht,h.2.2.2⟩
theorem Qal3 : exO (Q9 0) (Qaf (Q9 0) (Q9 0))=some (Q9 0):=by
  rw [   Qmy (k := 1) ⟨fun k hk => by obtain rfl:k=0:=by omega
                                      exact⟨by decide+kernel,by decide+kernel⟩,fun h=>h.1 (by decide+kernel)⟩,if_pos (by decide+kernel)]
  exact congrArg some (by decide+kernel)
theorem Qal4 : exO (Q9 0) (Qaf (Q9 0) (Q9 1))=some (Q9 1):=by
  rw [   Qmy (k := 1) ⟨fun k hk => by obtain rfl:k=0:=by omega
                                      exact⟨by decide+kernel,by decide+kernel⟩,fun h=>h.1 (by decide+kernel)⟩,if_pos (by decide+kernel)]
  exact congrArg some (by decide+kernel)
theorem Qal5:exO (Q9 0) (Q9 1)=none:=by
 rw[Qmy (k:=0) ⟨fun k hk=>by omega,fun h=>absurd h.2 (by decide+kernel)⟩,if_neg (by decide+kernel)]
theorem Qal6:Qma (Qez [(Q9 0,2)]) (Qen [(Q9 0,2)]) ([Qaf (Q9 0) (Q9 0),Qaf (Q9 0) (Q9 1)].map fun c=>Qat c (Qc9 [(Q9 0,2)])) 0 [Q9 0] [1] [Q9 0,Q9 1]:=by
 have e1:Qez [(Q9 0,2)]=[Q9 0]:=by decide+kernel
 have e2:Qen [(Q9 0,2)]=[2]:=by decide+kernel
 have e3:([Qaf (Q9 0) (Q9 0),Qaf (Q9 0) (Q9 1)].map fun c=>Qat c (Qc9 [(Q9 0,2)]))=[Qaf (Q9 0) (Q9 0),Qaf (Q9 0) (Q9 1)]:=by decide+kernel
 rw[e1,e2,e3]
 refine .cut (r:=[Q9 0,Q9 1]) (by simp) (by simp) (by simp) (by simp[exL,Qal3,Qal4]) (by simp) ?_
 refine .skip (by simp) (by simp) (.inr ?_) (.done (by simp))
 show exL (Q9 0) [Q9 0,Q9 1]=none
 refine Qr4 (i:=1) (by simp) Qal5
end Go.FW
