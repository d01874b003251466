/- Minimal cancels all factors of a small certificate that can be cancelled. -/
import Derived.Test.YtonfajmchebkeaaGreatIdealMinimalPart12
set_option linter.unusedSimpArgs false
set_option linter.unnecessarySimpa false
set_option linter.unusedVariables false
namespace Go.Proofs.YtonfajmchebkeaaGreat
open Go Go.FW
set_option linter.unusedSimpArgs false
set_option linter.unusedVariables false
set_option maxRecDepth 100000
theorem Qye{x:Int}(h1: -1<=x)(h2:x<=1):rs (x:Rat)<=1:=by
 have:x= -1∨x=0∨x=1:=by omega
 rcases this with rfl|rfl|rfl<;>decide+kernel
end Go.Proofs.YtonfajmchebkeaaGreat
namespace Go.Proofs.YtonfajmchebkeaaGreat
open Go Go.FW
set_option linter.unusedSimpArgs false
set_option linter.unusedVariables false
set_option maxRecDepth 100000
theorem Qsu{c d:Qft}(hc:Quu c)(hd:Quu d):Qe Tryz.prog 12 [PV.rcert c,PV.rcert d] (· = .bool true):=
 Qq6 (k:=1048576) (Qafi hc) (Qafi hd) (by omega) (by omega)
end Go.Proofs.YtonfajmchebkeaaGreat
namespace Go.Proofs.YtonfajmchebkeaaGreat
open Go Go.FW Go.ChangeShapes Go.WideShapes Go.ChangeAt Go.RowKit
set_option linter.unusedSimpArgs false
set_option linter.unusedVariables false
set_option maxRecDepth 100000
theorem Qnn(H:Type)(enc:TypeId×Value->H)(W:World)(base:Nat)(args:Array Value)(ds gs:List (DataW H))(before:List MemPlace)
  (Qdn:∀(j:Nat) t v,Tryz.f12.params[j]? =some t->args[j]? =some v->Value.okWide Tryz.prog W .any base t v)
  (hW:DataW.Whole enc Tryz.prog Tryz.f12.params.toList Rows.idealMinimalSpec.vars false W args.toList ds gs before) (hk:Rows.uptoSmall H (ds++gs)=true):
  Calls Tryz.prog 12 args W fun e W'=>∃v,e= .returned v/\Rows.idealMinimalSpec.post enc Tryz.prog Tryz.f12 false true false false W args v W':=by
 have hW':=hW
 obtain⟨p,q,hA0,hV,rfl,hfz,hnd⟩:=hW
 have hA:DataW.TrodAll enc Tryz.prog W 0 (fun _=>true) true Tryz.f12.params.toList args.toList ds p:=hA0
 rw[Tryz.params12]at hA Qdn
 obtain⟨v0,vs0,e0,ds0,p0,q0,hargs,rfl,rfl,h0,r0⟩:=trodAll_cons hA
 obtain⟨v1,vs1,e1,ds1,p1,q1,rfl,rfl,rfl,h1,r1⟩:=trodAll_cons r0
 obtain⟨rfl,rfl,rfl⟩:=trodAll_nil r1
 obtain rfl:args= #[v0,v1]:=by cases args;simp_all
 obtain⟨rfl,rfl⟩:=trodVars_none hV
 have hb:=Qacq hk
 simp only[List.append_nil,Rows.uptoBulkAll]at hb
 obtain⟨a0,g0,b0⟩:=Q1i (Qdn 0 _ v0 rfl rfl) h0 (by omega)
 obtain⟨a1,g1,b1⟩:=Q1i (Qdn 1 _ v1 rfl rfl) h1 (by omega)
 exact Q8d hW' rfl (by kernel_rfl) (by kernel_rfl) rfl (Qsu b0 b1) rfl
  (Qacr (vs:=[v0,v1]) (by
   intro i x hx v hv
   match i,hx,hv with
   |0,hx,hv=>simp at hx hv;subst hx hv;exact g0
   |1,hx,hv=>simp at hx hv;subst hx hv;exact g1
   |i+2,hx,hv=>simp at hx) rfl)
theorem Qpd(os:Os)(started:os.Started)(H:Type)(enc:TypeId×Value->H)(F:Stop.Interp):
  ReturnsInHanded {} Tryz.checked os 12 .any ((Rows.OpenSpec.upto Rows.idealMinimalSpec).pre6 enc Tryz.prog Tryz.f12 Rows.idealMinimalUptoRow.domain false) (((Rows.OpenSpec.upto Rows.idealMinimalSpec).at F).post enc Tryz.prog Tryz.f12 false true false false):=by
 refine returnsInHanded_of_cond (C:=Tryz.checked) (s:=Rows.OpenSpec.upto Rows.idealMinimalSpec) (k:=Rows.uptoSmall) rfl own started (by kernel_rfl) Tryz.func12
  (OpenSpec.witness (enc:=enc) (C:=Tryz.checked) (s:=Rows.OpenSpec.upto Rows.idealMinimalSpec) (k:=Rows.uptoSmall) rfl false ⟨#[],#[.agg #[.slice none 0 0,.slice none 0 0,.int .i64 0,.slice none 0 0],.agg #[.slice none 0 0,.slice none 0 0,.int .i64 0,.slice none 0 0]],[]⟩ 8 (by kernel_rfl) (by kernel_rfl) (by kernel_rfl)
   (x:=([.agg [.nil,.nil,.lit (.int .i64 0),.nil],.agg [.nil,.nil,.lit (.int .i64 0),.nil]],[],[])) (by kernel_rfl) rfl (by kernel_rfl)) ?_
 intro W base args ds gs before Qdn hW _ hk _
 exact Qnn H enc W base args ds gs before Qdn hW hk
theorem idealMinimal_proved:Rows.IdealMinimalUptoSaid:=
 OpenClaim.holds_of_cond 12 Tryz.f12 rfl rfl rfl rfl rfl rfl rfl ⟨rfl,rfl,rfl,rfl,rfl⟩ rfl rfl rfl rfl rfl (by kernel_rfl) Tryz.func12 (by kernel_rfl)
  (of_decide_eq_true (by kernel_rfl)) (by unfold Func.isWrapper;first|(rw[if_pos (by decide+kernel)];kernel_rfl)|(rw[if_neg (by decide+kernel)];exact⟨rfl,rfl⟩))
  (fun os started H enc _ F=>Qpd os started H enc F)
end Go.Proofs.YtonfajmchebkeaaGreat
