/- Part 11 of the proof of CertcheckPowers: W9, FwWJ. Own lemmas; no conditions. -/
import Derived.Test.YtdacdnoebgcjhaaGreatCertcheckPowersPart10
set_option linter.unusedSimpArgs false
set_option linter.unnecessarySimpa false
set_option linter.unusedVariables false
namespace Go.Proofs.YtdacdnoebgcjhaaGreat
open Go Go.FW
set_option linter.unusedSimpArgs false
set_option linter.unusedVariables false
set_option maxRecDepth 100000
theorem Q85(v:Nat):varM v=Qg2 v 1:=rfl
theorem Qpd{v:Nat}(hv:v<64):Qd Tryz.prog 17 [.int .i64 v] (· =PV.poly (Qa0 v)):=by
 have hset:(List.replicate (v+1) (0:Int)).set v 1=Qg2 v 1:=Q80 v 1 rfl
 have hlr:v<(List.replicate (v+1) (0:Int)).length:=by simp
 have hone:=Qwh
 have hxl:(Qg2 v 1).length=v+1:=by simp[Qg2]
 have hadd:=(Qpc (p:=[]) (m:=Qg2 v 1) (K:=1) (E:=1) (k:=4) (PB.nil _ _) trivial (by simp[NZ]) (Qb5 (q:=((1:Int):Rat)) (k:=4) (by rw[show((1:Int):Rat)=1 from rfl];omega)) (by omega) (Qabm hv) (Q35 (by omega)) (by omega) (by omega) (by simp)).le (args':=[.nilS,PV.rat ((1:Int):Rat),PV.mono (Qg2 v 1)]) ⟨trivial,Q8 _,Q8 _,trivial⟩
 rw[Qct]at hadd
 have e:Qg1 [] ((1:Int):Rat) (Qg2 v 1)=Qa0 v:=by
  rw[Qg1,Qep,if_neg (by decide),Qa0,if_neg (by omega),Int.toNat_natCast,Q85];rfl
 rw[e]at hadd
 refine Qf Ql Tryz.func17 rfl Qagl (by simp[c17]) fun C hP=> ?_;simp only[c17,Zo,Zg,Zm,Zc,Zf,Zl,Zh,Zs,Zi,Zb,Zk,Zn,Zu,Zq,Zr,Zz]
 simp+decide (disch:=first|exact D0|fail) only[go_sem,↓reduceIte]
 refine Qv (fun h=>by omega) (fun _=> ?_)
 simp+decide (disch:=first|exact D0|fail) only[go_sem,↓reduceIte]
 refine Qb (fun h=>by omega) (fun _=> ?_)
 simp+decide (disch:=first|exact D1 hset|fail) only[go_sem,↓reduceIte,hset]
 refine Qa hP (Qg4 (x:=1) (by omega) (by omega)) rfl rfl rfl ?_
 generalize((1:Int):Rat)=c at *
 simp+decide (disch:=first|exact D0|fail) only[go_sem,↓reduceIte]
 refine Qc2 hP hadd (by simp+decide (disch:=first|exact E0|fail) only[go_sem,↓reduceIte,Qz,List.contains_cons,List.contains_nil,List.flatMap_cons,List.flatMap_nil,List.append_nil];simp[List.take_of_length_le,hxl]) rfl ?_
 simp+decide (disch:=first|exact D0|fail) only[go_sem,↓reduceIte]
 exact Qc rfl rfl
end Go.Proofs.YtdacdnoebgcjhaaGreat
namespace Go.FW
open Go
theorem Qail:Qrq [Qa0 0] [1] 1 [Qbm 1] [Qbb (Qa0 0) (Qa0 1)] (Qa0 1)=0:=by decide+kernel
def sm4B(p:List Tm):Bool:=pbB 3 4 p&&(Q84 p&&((p.all fun t=>decide (t.2.length<=4))&&decide (p.length<=6)))
theorem Qn1{p:List Tm}(h:sm4B p=true):Sm4 p:=by
 simp only[sm4B,Bool.and_eq_true,decide_eq_true_eq,List.all_eq_true]at h
 exact⟨Qag3 h.2.1,Qaik h.1,fun t ht=>h.2.2.1 t ht,h.2.2.2⟩
end Go.FW
