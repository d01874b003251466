/- Part 10 of the proof of CertcheckFactors: G10, G11, FwUG. Own lemmas; no conditions. -/
import Derived.Test.YtdacdnoebgcjhaaGreatCertcheckFactorsPart9
set_option linter.unusedSimpArgs false
set_option linter.unnecessarySimpa false
set_option linter.unusedVariables false
namespace Go.Proofs.YtdacdnoebgcjhaaGreat
open Go Go.FW
set_option linter.unusedSimpArgs false
set_option linter.unusedVariables false
set_option maxRecDepth 100000
theorem Q48{p:List Tm}(hp:Sm4 p)(h0:p≠[]):Qf2 p=0↔p.length=1/\(hdT p).2.length=0:=by
 constructor
 ·intro h
  have:=Q9b hp.n hp.b h0 h
  rw[this];exact⟨rfl,rfl⟩
 ·intro⟨h1,h2⟩
  cases p with
  |nil=>exact absurd rfl h0
  |cons t p=>
   obtain rfl:p=[]:=List.length_eq_zero_iff.1 (by simpa using h1)
   have e:t.2=[]:=List.length_eq_zero_iff.1 h2
   show max (-1) (Qch t.2)=0
   rw[e];rfl
theorem Qrz{p:List Tm}(hp:Sm4 p)(h0:p≠[]):Qd Tryz.prog 31 [PV.poly p] (· = .bool (decide (Qf2 p=0))):=by
 have hl:0<p.length:=List.length_pos_iff.2 h0
 have hh:=Qsz hl
 have hi:=Q48 hp h0
 have hle:=hp.l
 have hm:=hp.m _ (Qhk h0)
 refine Qf Qq Tryz.func31 rfl Qag2 (by simp[c31]) fun C hP=> ?_;simp only[c31,Zo,Zg,Zm,Zc,Zf,Zl,Zh,Zs,Zi,Zb,Zk,Zn,Zu,Zq,Zr,Zz]
 simp+decide (disch:=first|exact D0|fail) only[go_sem,↓reduceIte]
 refine Qw (fun h=>absurd h (by omega)) (fun _=> ?_)
 simp+decide (disch:=first|exact D0|fail) only[go_sem,↓reduceIte]
 refine Qam (fun h1=> ?_) (fun h1=> ?_)
 ·simp+decide (disch:=first|exact D1 hh|fail) only[go_sem,↓reduceIte,hh]
  exact Qc (congrArg PV.bool (decide_eq_decide.2 (hi.trans ⟨fun h=>by omega,fun h=>⟨by omega,by omega⟩⟩).symm)) rfl
 ·simp+decide (disch:=first|exact D0|fail) only[go_sem,↓reduceIte]
  exact Qc (by rw[decide_eq_false fun h=>h1 (by have:=(hi.1 h).1;omega)]) rfl
end Go.Proofs.YtdacdnoebgcjhaaGreat
namespace Go.Proofs.YtdacdnoebgcjhaaGreat
open Go Go.FW
set_option linter.unusedSimpArgs false
set_option linter.unusedVariables false
set_option maxRecDepth 100000
end Go.Proofs.YtdacdnoebgcjhaaGreat
namespace Go.FW
open Go
def pbB(K E:Nat)(p:List Tm):Bool:=p.all fun t=>decide (rs t.1+1<=K)&&(decide (t.2.length<=64)&&((t.2.all fun x=>decide (0<=x)&&decide (x<=E))&&decide (t.2.getLast? ≠some 0)))
theorem Qaiz{K E:Nat}{p:List Tm}(h:pbB K E p=true):PB K E p:=fun t ht=>by
 have:=List.all_eq_true.1 h t ht
 simp only[Bool.and_eq_true,decide_eq_true_eq,List.all_eq_true]at this
 obtain⟨h1,h2,h3,h4⟩:=this
 exact⟨h1,⟨h2,fun x hx=>(h3 x hx).1,fun x hx=>(h3 x hx).2⟩,h4⟩
def Qu1:List Tm->Bool
 | []=>true
 |t::p=>(p.all fun s=>decide (0<Qah t.2 s.2))&&Qu1 p
theorem Qz4:∀ {p:List Tm},Qu1 p=true->Qb1 p
 | [],_=>trivial
 |t::p,h=>by
  simp only[Qu1,Bool.and_eq_true,List.all_eq_true,decide_eq_true_eq]at h
  exact⟨h.1,Qz4 h.2⟩
def Q9c(p:List Tm):Bool:=(p.all fun t=>decide (t.1≠0)&&decide (t.2.getLast? ≠some 0))&&Qu1 p
theorem Qahg{p:List Tm}(h:Q9c p=true):Nrm p:=by
 simp only[Q9c,Bool.and_eq_true,List.all_eq_true,decide_eq_true_eq]at h
 exact⟨fun t ht=>(h.1 t ht).2,fun t ht=>(h.1 t ht).1,Qz4 h.2⟩
end Go.FW
