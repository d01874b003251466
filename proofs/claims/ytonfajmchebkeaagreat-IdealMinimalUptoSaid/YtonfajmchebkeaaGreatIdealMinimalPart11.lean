/- Part 11 of the proof of IdealMinimal: W9, FwWJ. Own lemmas; no conditions. -/
import Derived.Test.YtonfajmchebkeaaGreatIdealMinimalPart10
set_option linter.unusedSimpArgs false
set_option linter.unnecessarySimpa false
set_option linter.unusedVariables false
namespace Go.Proofs.YtonfajmchebkeaaGreat
open Go Go.FW
set_option linter.unusedSimpArgs false
set_option linter.unusedVariables false
set_option maxRecDepth 100000
theorem Qae4(v:Nat):varM v=Qie v 1:=rfl
theorem Q2l{v:Nat}(hv:v<64):Qe Tryz.prog 58 [.int .i64 v] (· =PV.poly (Qaa v)):=by
 have hset:(List.replicate (v+1) (0:Int)).set v 1=Qie v 1:=Qaes v 1 rfl
 have hlr:v<(List.replicate (v+1) (0:Int)).length:=by simp
 have hone:=Qzw
 have hxl:(Qie v 1).length=v+1:=by simp[Qie]
 have hadd:=(Qmq (p:=[]) (m:=Qie v 1) (K:=1) (E:=1) (k:=4) (PB.nil _ _) trivial (by simp[NZ]) (Qce (q:=((1:Int):Rat)) (k:=4) (by rw[show((1:Int):Rat)=1 from rfl];omega)) (by omega) (Qah3 hv) (Q8a (by omega)) (by omega) (by omega) (by simp)).le (args':=[.nilS,PV.rat ((1:Int):Rat),PV.mono (Qie v 1)]) ⟨trivial,Qt _,Qt _,trivial⟩
 rw[Qcl]at hadd
 have e:Qdj [] ((1:Int):Rat) (Qie v 1)=Qaa v:=by
  rw[Qdj,Qdo,if_neg (by decide),Qaa,if_neg (by omega),Int.toNat_natCast,Qae4];rfl
 rw[e]at hadd
 refine Qf Qk Tryz.func58 rfl Qam0 (by simp[c58]) fun C hP=> ?_;simp only[c58,Zo,Zg,Zm,Zc,Zf,Zl,Zh,Zs,Zi,Zb,Zk,Zn,Zu,Zq,Zr,Zz]
 simp+decide (disch:=first|exact D0|fail) only[go_sem,↓reduceIte]
 refine Q9 (fun h=>by omega) (fun _=> ?_)
 simp+decide (disch:=first|exact D0|fail) only[go_sem,↓reduceIte]
 refine Qb (fun h=>by omega) (fun _=> ?_)
 simp+decide (disch:=first|exact D1 hset|fail) only[go_sem,↓reduceIte,hset]
 refine Qa hP (Qop (x:=1) (by omega) (by omega)) rfl rfl rfl ?_
 generalize((1:Int):Rat)=c at *
 simp+decide (disch:=first|exact D0|fail) only[go_sem,↓reduceIte]
 refine Qb1 hP hadd (by simp+decide (disch:=first|exact E0|fail) only[go_sem,↓reduceIte,Q5,List.contains_cons,List.contains_nil,List.flatMap_cons,List.flatMap_nil,List.append_nil];simp[List.take_of_length_le,hxl]) rfl ?_
 simp+decide (disch:=first|exact D0|fail) only[go_sem,↓reduceIte]
 exact Qc rfl rfl
end Go.Proofs.YtonfajmchebkeaaGreat
namespace Go.FW
open Go
theorem Qakg:Qcm [Qaa 1,Qaa 0] [Qaa 0,Qcd 1]=(Q3 (Qai (Qaa 0) (Qaa 1)) (Qaa 0),0):=by decide+kernel
theorem Qakh:Qdk [Qaa 0,Qaa 1] [2,0]=(Qai (Qaa 0) (Qaa 0),0):=by decide+kernel
theorem Qapg:Qqc [Qaa 0] [1] 1 [Qcd 1] [Qai (Qaa 0) (Qaa 1)] (Qaa 1)=0:=by decide+kernel
theorem Qaph:Qqc [Qaa 0] [1] 1 [Qcd 1] [Qai (Qaa 0) (Qaa 1)] (Qaa 0)=17:=by decide+kernel
def sm4B(p:List Tm):Bool:=pbB 3 4 p&&(nrmB p&&((p.all fun t=>decide (t.2.length<=4))&&decide (p.length<=6)))
theorem Qnl{p:List Tm}(h:sm4B p=true):Sm4 p:=by
 simp only[sm4B,Bool.and_eq_true,decide_eq_true_eq,List.all_eq_true]at h
 exact⟨Qan8 h.2.1,Qapf h.1,fun t ht=>h.2.2.1 t ht,h.2.2.2⟩
theorem Qaoa:exO (Qaa 0) (Qai (Qaa 0) (Qaa 0))=some (Qaa 0):=by
  rw [   Qnj (k := 1) ⟨fun k hk => by obtain rfl:k=0:=by omega
                                      exact⟨by decide+kernel,by decide+kernel⟩,fun h=>h.1 (by decide+kernel)⟩,if_pos (by decide+kernel)]
  exact congrArg some (by decide+kernel)
theorem Qaob:exO (Qaa 0) (Qai (Qaa 0) (Qaa 1))=some (Qaa 1):=by
  rw [   Qnj (k := 1) ⟨fun k hk => by obtain rfl:k=0:=by omega
                                      exact⟨by decide+kernel,by decide+kernel⟩,fun h=>h.1 (by decide+kernel)⟩,if_pos (by decide+kernel)]
  exact congrArg some (by decide+kernel)
theorem Qaoc:exO (Qaa 0) (Qaa 1)=none:=by
 rw[Qnj (k:=0) ⟨fun k hk=>by omega,fun h=>absurd h.2 (by decide+kernel)⟩,if_neg (by decide+kernel)]
theorem Qaod:Qg0 (Qch [(Qaa 0,2)]) (Qcn [(Qaa 0,2)]) ([Qai (Qaa 0) (Qaa 0),Qai (Qaa 0) (Qaa 1)].map fun c=>Qaf c (Qb5 [(Qaa 0,2)])) 0 [Qaa 0] [1] [Qaa 0,Qaa 1]:=by
 have e1:Qch [(Qaa 0,2)]=[Qaa 0]:=by decide+kernel
 have e2:Qcn [(Qaa 0,2)]=[2]:=by decide+kernel
 have e3:([Qai (Qaa 0) (Qaa 0),Qai (Qaa 0) (Qaa 1)].map fun c=>Qaf c (Qb5 [(Qaa 0,2)]))=[Qai (Qaa 0) (Qaa 0),Qai (Qaa 0) (Qaa 1)]:=by decide+kernel
 rw[e1,e2,e3]
 refine .cut (r:=[Qaa 0,Qaa 1]) (by simp) (by simp) (by simp) (by simp[exL,Qaoa,Qaob]) (by simp) ?_
 refine .skip (by simp) (by simp) (.inr ?_) (.done (by simp))
 show exL (Qaa 0) [Qaa 0,Qaa 1]=none
 refine Qo0 (i:=1) (by simp) Qaoc
end Go.FW
