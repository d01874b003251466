/- Part 11 of the proof of IdealSound: W9, FwWJ. Own lemmas; no conditions. -/
import Derived.Test.YtonfajmchebkeaaGreatIdealSoundPart10
set_option linter.unusedSimpArgs false
set_option linter.unnecessarySimpa false
set_option linter.unusedVariables false
namespace Go.Proofs.YtonfajmchebkeaaGreat
open Go Go.FW
set_option linter.unusedSimpArgs false
set_option linter.unusedVariables false
set_option maxRecDepth 100000
theorem Qad8(v:Nat):varM v=Qh3 v 1:=rfl
theorem Q1i{v:Nat}(hv:v<64):Qd Tryz.prog 58 [.int .i64 v] (· =PV.poly (Q8 v)):=by
 have hset:(List.replicate (v+1) (0:Int)).set v 1=Qh3 v 1:=Qadw v 1 rfl
 have hlr:v<(List.replicate (v+1) (0:Int)).length:=by simp
 have hone:=Qr1
 have hxl:(Qh3 v 1).length=v+1:=by simp[Qh3]
 have hadd:=(Qrm (p:=[]) (m:=Qh3 v 1) (K:=1) (E:=1) (k:=4) (PB.nil _ _) trivial (by simp[NZ]) (Qck (q:=((1:Int):Rat)) (k:=4) (by rw[show((1:Int):Rat)=1 from rfl];omega)) (by omega) (Qahd hv) (Q7q (by omega)) (by omega) (by omega) (by simp)).le (args':=[.nilS,PV.rat ((1:Int):Rat),PV.mono (Qh3 v 1)]) ⟨trivial,Qy _,Qy _,trivial⟩
 rw[Qc7]at hadd
 have e:Qh2 [] ((1:Int):Rat) (Qh3 v 1)=Q8 v:=by
  rw[Qh2,Qd4,if_neg (by decide),Q8,if_neg (by omega),Int.toNat_natCast,Qad8];rfl
 rw[e]at hadd
 refine Qf Ql Tryz.func58 rfl Qalz (by simp[c58]) fun C hP=> ?_;simp only[c58,Zo,Zg,Zm,Zc,Zf,Zl,Zh,Zs,Zi,Zb,Zk,Zn,Zu,Zq,Zr,Zz]
 simp+decide (disch:=first|exact D0|fail) only[go_sem,↓reduceIte]
 refine Qaf (fun h=>by omega) (fun _=> ?_)
 simp+decide (disch:=first|exact D0|fail) only[go_sem,↓reduceIte]
 refine Qb (fun h=>by omega) (fun _=> ?_)
 simp+decide (disch:=first|exact D1 hset|fail) only[go_sem,↓reduceIte,hset]
 refine Qa hP (Qcp (x:=1) (by omega) (by omega)) rfl rfl rfl ?_
 generalize((1:Int):Rat)=c at *
 simp+decide (disch:=first|exact D0|fail) only[go_sem,↓reduceIte]
 refine Qcd hP hadd (by simp+decide (disch:=first|exact E0|fail) only[go_sem,↓reduceIte,Q6,List.contains_cons,List.contains_nil,List.flatMap_cons,List.flatMap_nil,List.append_nil];simp[List.take_of_length_le,hxl]) rfl ?_
 simp+decide (disch:=first|exact D0|fail) only[go_sem,↓reduceIte]
 exact Qc rfl rfl
end Go.Proofs.YtonfajmchebkeaaGreat
namespace Go.FW
open Go
theorem Qajd:Qcg [Q8 1,Q8 0] [Q8 0,Qbj 1]=(Qx (Qad (Q8 0) (Q8 1)) (Q8 0),0):=by decide+kernel
theorem Qaje:Qc4 [Q8 0,Q8 1] [2,0]=(Qad (Q8 0) (Q8 0),0):=by decide+kernel
theorem Qan9:Qgd [Q8 0] [1] 1 [Qbj 1] [Qad (Q8 0) (Q8 1)] (Q8 1)=0:=by decide+kernel
theorem Qaoa:Qgd [Q8 0] [1] 1 [Qbj 1] [Qad (Q8 0) (Q8 1)] (Q8 0)=17:=by decide+kernel
def sm4B(p:List Tm):Bool:=pbB 3 4 p&&(nrmB p&&((p.all fun t=>decide (t.2.length<=4))&&decide (p.length<=6)))
theorem Qm0{p:List Tm}(h:sm4B p=true):Sm4 p:=by
 simp only[sm4B,Bool.and_eq_true,decide_eq_true_eq,List.all_eq_true]at h
 exact⟨Qam0 h.2.1,Qan8 h.1,fun t ht=>h.2.2.1 t ht,h.2.2.2⟩
theorem Qam2 : exO (Q8 0) (Qad (Q8 0) (Q8 0))=some (Q8 0):=by
  rw [   Qmz (k := 1) ⟨fun k hk => by obtain rfl:k=0:=by omega
                                      exact⟨by decide+kernel,by decide+kernel⟩,fun h=>h.1 (by decide+kernel)⟩,if_pos (by decide+kernel)]
  exact congrArg some (by decide+kernel)
theorem Qam3 : exO (Q8 0) (Qad (Q8 0) (Q8 1))=some (Q8 1):=by
  rw [   Qmz (k := 1) ⟨fun k hk => by obtain rfl:k=0:=by omega
                                      exact⟨by decide+kernel,by decide+kernel⟩,fun h=>h.1 (by decide+kernel)⟩,if_pos (by decide+kernel)]
  exact congrArg some (by decide+kernel)
theorem Qam4:exO (Q8 0) (Q8 1)=none:=by
 rw[Qmz (k:=0) ⟨fun k hk=>by omega,fun h=>absurd h.2 (by decide+kernel)⟩,if_neg (by decide+kernel)]
theorem Qam5:Qma (Qe2 [(Q8 0,2)]) (Qer [(Q8 0,2)]) ([Qad (Q8 0) (Q8 0),Qad (Q8 0) (Q8 1)].map fun c=>Qav c (Qdc [(Q8 0,2)])) 0 [Q8 0] [1] [Q8 0,Q8 1]:=by
 have e1:Qe2 [(Q8 0,2)]=[Q8 0]:=by decide+kernel
 have e2:Qer [(Q8 0,2)]=[2]:=by decide+kernel
 have e3:([Qad (Q8 0) (Q8 0),Qad (Q8 0) (Q8 1)].map fun c=>Qav c (Qdc [(Q8 0,2)]))=[Qad (Q8 0) (Q8 0),Qad (Q8 0) (Q8 1)]:=by decide+kernel
 rw[e1,e2,e3]
 refine .cut (r:=[Q8 0,Q8 1]) (by simp) (by simp) (by simp) (by simp[exL,Qam2,Qam3]) (by simp) ?_
 refine .skip (by simp) (by simp) (.inr ?_) (.done (by simp))
 show exL (Q8 0) [Q8 0,Q8 1]=none
 refine Qsf (i:=1) (by simp) Qam4
end Go.FW
