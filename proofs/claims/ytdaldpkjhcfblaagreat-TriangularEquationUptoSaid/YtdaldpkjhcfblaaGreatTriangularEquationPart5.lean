/- Part 5 of the proof of TriangularEquation: P8, CS2, CS3, CU, FwSE, FwSF, FwSG, FwSH, FwSI, FwSJ, FwSK, FwSL, FwUA. Own lemmas; no conditions. -/
import Derived.Test.YtdaldpkjhcfblaaGreatTriangularEquationPart4
set_option maxHeartbeats 1000000
set_option linter.unusedSimpArgs false
set_option linter.unusedVariables false
set_option linter.unnecessarySimpa false
set_option maxRecDepth 100000
namespace Go.Proofs.YtdaldpkjhcfblaaGreat
open Go Go.FW
theorem Qvg{p:List Tm}{f:Nat}{g:Tm->Bool}(hf:∀t∈p,Qd Tryz.prog f [PV.term t] (· = .bool (g t)))(hlp:p.length<=2^36):
  Qd Tryz.prog 123 [PV.poly p,.fn f [] []] (· = .int .i64 (Qlg g p)):=by
 refine Qf Qj Tryz.func123 rfl Qaiv (by simp[c123]) fun C hP=>?_;simp only[c123];refine Sz0 ?_;refine Qy (by repeat (first|exact Qu|exact Qn|exact Qo|exact Qk|exact Qp|apply Qm|apply Qt|apply Qw|apply Q5|apply Q6|apply Qi)) [(4,5),(8,18)] [] (fun n J hp=>∃i,n=p.length-i/\i<=p.length/\(∀j (h:j<p.length),j<i->g p[j]=false)/\J 8= .int .i64 (i:Nat)) p.length ?_ ?_
 ·refine⟨0,rfl,by omega,by omega,?_⟩;refine Sz0 ?_;rfl
 rintro _ J h ⟨i,rfl,hi,h1,h8⟩;refine Sz1 h8 ?_;refine Qb (fun hg=>?_) (fun hg=>?_)
 ·have hi':i<p.length:=by omega
  have hfi:=hf _ (List.getElem_mem hi');have hat:=fun h=>Qtr (g:=g) hi' h h1;have hadd:g p[i]=false->∀j (h:j<p.length),j<i+1->g p[j]=false:=fun h j hj hji=>by
   by_cases e:j=i
   ·subst e;exact h
   ·exact h1 j hj (by omega)
  generalize hx:p[i]=x at *
  refine Sz2 h8 hx ?_;refine Qa hP hfi rfl rfl rfl ?_;refine Sz2 h8 hx ?_;cases hgx:g x
  ·refine Sz1 h8 ?_;refine Qh (p.length-(i+1)) (by omega) ⟨i+1,rfl,by omega,hadd hgx,?_⟩;exact Tz0
  ·refine Sz1 h8 ?_;exact Qc (by rw[hat hgx]) rfl
 ·obtain rfl:i=p.length:=by omega
  refine Sz0 ?_;exact Qc (by rw[Qph (fun j hj=>h1 j hj hj)]) rfl
theorem Qvh{p:List Int}{f:Nat}{g:Int->Bool}(hf:∀t∈p,Qd Tryz.prog f [.int .i64 t] (· = .bool (g t)))(hlp:p.length<=2^36):
  Qd Tryz.prog 124 [PV.mono p,.fn f [] []] (· = .int .i64 (Qlg g p)):=by
 refine Qf Qj Tryz.func124 rfl Qaiw (by simp[c124]) fun C hP=>?_;simp only[c124];refine Sz0 ?_;refine Qy (by repeat (first|exact Qu|exact Qn|exact Qo|exact Qk|exact Qp|apply Qm|apply Qt|apply Qw|apply Q5|apply Q6|apply Qi)) [(4,5),(8,18)] [] (fun n J hp=>∃i,n=p.length-i/\i<=p.length/\(∀j (h:j<p.length),j<i->g p[j]=false)/\J 8= .int .i64 (i:Nat)) p.length ?_ ?_
 ·refine⟨0,rfl,by omega,by omega,?_⟩;refine Sz0 ?_;rfl
 rintro _ J h ⟨i,rfl,hi,h1,h8⟩;refine Sz1 h8 ?_;refine Qb (fun hg=>?_) (fun hg=>?_)
 ·have hi':i<p.length:=by omega
  have hfi:=hf _ (List.getElem_mem hi');have hat:=fun h=>Qtr (g:=g) hi' h h1;have hadd:g p[i]=false->∀j (h:j<p.length),j<i+1->g p[j]=false:=fun h j hj hji=>by
   by_cases e:j=i
   ·subst e;exact h
   ·exact h1 j hj (by omega)
  generalize hx:p[i]=x at *
  refine Sz2 h8 hx ?_;refine Qa hP hfi rfl rfl rfl ?_;refine Sz2 h8 hx ?_;cases hgx:g x
  ·refine Sz1 h8 ?_;refine Qh (p.length-(i+1)) (by omega) ⟨i+1,rfl,by omega,hadd hgx,?_⟩;exact Tz0
  ·refine Sz1 h8 ?_;exact Qc (by rw[hat hgx]) rfl
 ·obtain rfl:i=p.length:=by omega
  refine Sz0 ?_;exact Qc (by rw[Qph (fun j hj=>h1 j hj hj)]) rfl
theorem Qq1{p:List Tm}{f:Nat}{g:Tm->Bool}(hf:∀t∈p,Qd Tryz.prog f [PV.term t] (· = .bool (g t)))(hlp:p.length<=2^36):
  Qd Tryz.prog 76 [PV.poly p,.fn f [] []] (· = .bool (p.any g)):=by
 refine Qf Qj Tryz.func76 rfl Qanp (by simp[c76]) fun C hP=>?_;simp only[c76];refine Sz0 ?_;refine Qa hP (Qvg hf hlp) rfl rfl rfl ?_;refine Sz0 ?_;exact Qc (congrArg PV.bool (Qq0 g p)) rfl
theorem Qq2{p:List Int}{f:Nat}{g:Int->Bool}(hf:∀t∈p,Qd Tryz.prog f [.int .i64 t] (· = .bool (g t)))(hlp:p.length<=2^36):
  Qd Tryz.prog 78 [PV.mono p,.fn f [] []] (· = .bool (p.any g)):=by
 refine Qf Qj Tryz.func78 rfl Qanq (by simp[c78]) fun C hP=>?_;simp only[c78];refine Sz0 ?_;refine Qa hP (Qvh hf hlp) rfl rfl rfl ?_;refine Sz0 ?_;exact Qc (congrArg PV.bool (Qq0 g p)) rfl
theorem Qyn{a:Rat}{k:Nat}(h:rs a<=k)(hk:k<2^36):Qd Tryz.prog 75 [PV.rat a] (· =PV.poly (Qbe a)):=by
 have:=Q1d (Qc7 h) hk
 rwa[Qdo]at this
def c55:SFn:=⟨39,[.t 2],.seq (.rg (.o none (.mv 2 (.c (.bool false))) .nil))<| .seq (.seq (.rg (.o none (.mv 4 (.t 0))<|
 .o none (.len 5 (.t 4))<|
 .o none (.bin 6 .gtr false (.t 5) (.c (.int .i64 64)))<|
 .o none (.mv 7 (.t 6))<|
 .o (some (7,false)) (.mv 8 (.t 0))<|
 .o (some (7,false)) (.len 9 (.t 8))<|
 .o (some (7,false)) (.bin 10 .gtr false (.t 9) (.c (.int .i64 0)))<|
 .o (some (7,false)) (.mv 11 (.t 10))<|
 .o (some (11,true)) (.mv 12 (.t 0))<|
 .o (some (11,true)) (.mv 13 (.t 0))<|
 .o (some (11,true)) (.len 14 (.t 13))<|
 .o (some (11,true)) (.bin 15 .sub false (.t 14) (.c (.int .i64 1)))<|
 .o (some (11,true)) (.idx 16 1 (.t 12) (.t 15))<|
 .o (some (11,true)) (.ld 17 1 false (.t 16))<|
 .o (some (11,true)) (.bin 18 .eql false (.t 17) (.c (.int .i64 0)))<|
 .o (some (7,false)) (.pick 19 (.t 11) (.t 18) (.c (.bool false)))<|
 .o none (.pick 20 (.t 7) (.c (.bool true)) (.t 19)) .nil))<| .cond (.t 20) (.seq (.rg (.o none (.mv 2 (.c (.bool false))) .nil))<| .ret) (.skip))<| .seq (.seq (.rg (.o none (.mv 3 (.c (.int .i64 0))) .nil))<| .block 0 (.loop (.seq (.seq (.rg (.o none (.mv 21 (.t 3))<|
 .o none (.mv 22 (.t 0))<|
 .o none (.len 23 (.t 22))<|
 .o none (.bin 24 .lss false (.t 21) (.t 23)) .nil))<| .cond (.t 24) (.skip) (.exit 0))<| .seq (.block 1 (.seq (.rg (.o none (.mv 27 (.t 0))<|
 .o none (.mv 28 (.t 3))<|
 .o none (.idx 29 1 (.t 27) (.t 28))<|
 .o none (.ld 30 1 false (.t 29))<|
 .o none (.bin 31 .lss false (.t 30) (.c (.int .i64 0)))<|
 .o none (.mv 32 (.t 31))<|
 .o (some (32,false)) (.mv 33 (.t 0))<|
 .o (some (32,false)) (.mv 34 (.t 3))<|
 .o (some (32,false)) (.idx 35 1 (.t 33) (.t 34))<|
 .o (some (32,false)) (.ld 36 1 false (.t 35))<|
 .o (some (32,false)) (.bin 37 .gtr false (.t 36) (.c (.int .i64 1048576)))<|
 .o none (.pick 38 (.t 32) (.c (.bool true)) (.t 37)) .nil))<| .cond (.t 38) (.seq (.rg (.o none (.mv 2 (.c (.bool false))) .nil))<| .ret) (.skip)))<| .rg (.o none (.mv 25 (.t 3))<|
 .o none (.bin 26 .add false (.t 25) (.c (.int .i64 1)))<|
 .o none (.mv 3 (.t 26)) .nil))))<| .seq (.rg (.o none (.mv 2 (.c (.bool true))) .nil))<| .ret⟩
theorem Qan0:Qe Tryz.prog Tryz.f55=some c55:=by kernel_rfl
def c156:SFn:=⟨24,[.t 2],.seq (.rg (.o none (.mv 2 (.c .nilS)) .nil))<| .seq (.rg (.o none (.mv 5 (.t 0))<|
 .o none (.len 6 (.t 5))<|
 .o none (.mv 3 (.t 6)) .nil))<| .seq (.block 0 (.loop (.seq (.seq (.rg (.o none (.mv 7 (.t 3))<|
 .o none (.bin 8 .gtr false (.t 7) (.c (.int .i64 0)))<|
 .o none (.mv 9 (.t 8))<|
 .o (some (9,true)) (.mv 10 (.t 0))<|
 .o (some (9,true)) (.mv 11 (.t 3))<|
 .o (some (9,true)) (.bin 12 .sub false (.t 11) (.c (.int .i64 1)))<|
 .o (some (9,true)) (.idx 13 1 (.t 10) (.t 12))<|
 .o (some (9,true)) (.ld 14 1 false (.t 13))<|
 .o (some (9,true)) (.bin 15 .eql false (.t 14) (.c (.int .i64 0)))<|
 .o none (.pick 16 (.t 9) (.t 15) (.c (.bool false))) .nil))<| .cond (.t 16) (.skip) (.exit 0))<| .block 1 (.rg (.o none (.mv 17 (.t 3))<|
 .o none (.bin 18 .sub false (.t 17) (.c (.int .i64 1)))<|
 .o none (.mv 3 (.t 18)) .nil)))))<| .seq (.rg (.o none (.mv 4 (.c .nilS)) .nil))<| .seq (.rg (.o none (.mv 19 (.t 4))<|
 .o none (.mv 20 (.t 0))<|
 .o none (.mv 21 (.t 3))<|
 .o none (.sl 22 1 (.t 20) none (some (.t 21)) none)<|
 .o none (.app 23 1 8 3 (.t 19) (.t 22))<|
 .o none (.mv 2 (.t 23)) .nil))<| .ret⟩
theorem Qaje:Qe Tryz.prog Tryz.f156=some c156:=by kernel_rfl
def c135:SFn:=⟨9,[.t 2],.seq (.rg (.o none (.mv 2 (.c .nilS)) .nil))<| .seq (.seq (.rg (.o none (.mv 4 (.t 0))<|
 .o none (.call (some 5) false (.c (.fn 156 [] [])) [(.t 4)])<|
 .o none (.mv 3 (.t 5)) .nil))<| .seq (.rg (.o none (.mv 6 (.t 3))<|
 .o none (.call (some 7) false (.c (.fn 55 [] [])) [(.t 6)]) .nil))<| .cond (.t 7) (.seq (.rg (.o none (.mv 8 (.t 3))<|
 .o none (.mv 2 (.t 8)) .nil))<| .ret) (.skip))<| .seq (.rg (.o none (.mv 2 (.c .nilS)) .nil))<| .ret⟩
theorem Qajf:Qe Tryz.prog Tryz.f135=some c135:=by kernel_rfl
def c57:SFn:=⟨18,[.t 2],.seq (.rg (.o none (.mv 2 (.c (.int .i64 0))) .nil))<| .seq (.rg (.o none (.mv 3 (.c (.int .i64 0))) .nil))<| .seq (.seq (.rg (.o none (.mv 4 (.c (.int .i64 0))) .nil))<| .block 0 (.loop (.seq (.seq (.rg (.o none (.mv 5 (.t 4))<|
 .o none (.mv 6 (.t 0))<|
 .o none (.len 7 (.t 6))<|
 .o none (.bin 8 .lss false (.t 5) (.t 7)) .nil))<| .cond (.t 8) (.skip) (.exit 0))<| .seq (.block 1 (.rg (.o none (.mv 11 (.t 3))<|
 .o none (.mv 12 (.t 0))<|
 .o none (.mv 13 (.t 4))<|
 .o none (.idx 14 1 (.t 12) (.t 13))<|
 .o none (.ld 15 1 false (.t 14))<|
 .o none (.bin 16 .add false (.t 11) (.t 15))<|
 .o none (.mv 3 (.t 16)) .nil)))<| .rg (.o none (.mv 9 (.t 4))<|
 .o none (.bin 10 .add false (.t 9) (.c (.int .i64 1)))<|
 .o none (.mv 4 (.t 10)) .nil))))<| .seq (.rg (.o none (.mv 17 (.t 3))<|
 .o none (.mv 2 (.t 17)) .nil))<| .ret⟩
theorem Qan1:Qe Tryz.prog Tryz.f57=some c57:=by kernel_rfl
def c87:SFn:=⟨17,[.t 4],.seq (.rg (.o none (.mv 4 (.c (.int .i64 0))) .nil))<| .seq (.seq (.rg (.o none (.mv 5 (.t 1))<|
 .o none (.bin 6 .lss false (.t 5) (.c (.int .i64 0)))<|
 .o none (.mv 7 (.t 6))<|
 .o (some (7,false)) (.mv 8 (.t 1))<|
 .o (some (7,false)) (.mv 9 (.t 0))<|
 .o (some (7,false)) (.len 10 (.t 9))<|
 .o (some (7,false)) (.bin 11 .geq false (.t 8) (.t 10))<|
 .o none (.pick 12 (.t 7) (.c (.bool true)) (.t 11)) .nil))<| .cond (.t 12) (.seq (.rg (.o none (.mv 4 (.c (.int .i64 0))) .nil))<| .ret) (.skip))<| .seq (.rg (.o none (.mv 13 (.t 0))<|
 .o none (.mv 14 (.t 1))<|
 .o none (.idx 15 1 (.t 13) (.t 14))<|
 .o none (.ld 16 1 false (.t 15))<|
 .o none (.mv 4 (.t 16)) .nil))<| .ret⟩
theorem Qan2:Qe Tryz.prog Tryz.f87=some c87:=by kernel_rfl
def c111:SFn:=⟨30,[.t 4],.seq (.rg (.o none (.mv 4 (.c .nilS)) .nil))<| .seq (.rg (.o none (.mv 5 (.c .nilS)) .nil))<| .seq (.seq (.rg (.o none (.mv 6 (.c (.int .i64 0))) .nil))<| .block 0 (.loop (.seq (.seq (.rg (.o none (.mv 7 (.t 6))<|
 .o none (.mv 8 (.t 0))<|
 .o none (.len 9 (.t 8))<|
 .o none (.bin 10 .lss false (.t 7) (.t 9))<|
 .o none (.mv 11 (.t 10))<|
 .o (some (11,false)) (.mv 12 (.t 6))<|
 .o (some (11,false)) (.mv 13 (.t 1))<|
 .o (some (11,false)) (.len 14 (.t 13))<|
 .o (some (11,false)) (.bin 15 .lss false (.t 12) (.t 14))<|
 .o none (.pick 16 (.t 11) (.c (.bool true)) (.t 15)) .nil))<| .cond (.t 16) (.skip) (.exit 0))<| .seq (.block 1 (.rg (.o none (.mv 19 (.t 5))<|
 .o none (.mv 20 (.t 0))<|
 .o none (.mv 21 (.t 6))<|
 .o none (.call (some 22) false (.c (.fn 87 [] [])) [(.t 20),(.t 21)])<|
 .o none (.mv 23 (.t 1))<|
 .o none (.mv 24 (.t 6))<|
 .o none (.call (some 25) false (.c (.fn 87 [] [])) [(.t 23),(.t 24)])<|
 .o none (.bin 26 .add false (.t 22) (.t 25))<|
 .o none (.bs 27 1 3 [(.t 26)])<|
 .o none (.app 28 1 8 3 (.t 19) (.t 27))<|
 .o none (.mv 5 (.t 28)) .nil)))<| .rg (.o none (.mv 17 (.t 6))<|
 .o none (.bin 18 .add false (.t 17) (.c (.int .i64 1)))<|
 .o none (.mv 6 (.t 18)) .nil))))<| .seq (.rg (.o none (.mv 29 (.t 5))<|
 .o none (.mv 4 (.t 29)) .nil))<| .ret⟩
theorem Qajg:Qe Tryz.prog Tryz.f111=some c111:=by kernel_rfl
def c56:SFn:=⟨48,[.t 6],.seq (.rg (.o none (.mv 6 (.c (.int .i64 0))) .nil))<| .seq (.seq (.rg (.o none (.mv 8 (.t 2))<|
 .o none (.bin 9 .eql false (.t 8) (.c (.int .i64 1)))<|
 .o none (.mv 10 (.t 9))<|
 .o (some (10,true)) (.mv 11 (.t 0))<|
 .o (some (10,true)) (.call (some 12) false (.c (.fn 57 [] [])) [(.t 11)])<|
 .o (some (10,true)) (.mv 13 (.t 1))<|
 .o (some (10,true)) (.call (some 14) false (.c (.fn 57 [] [])) [(.t 13)])<|
 .o (some (10,true)) (.bin 15 .neq false (.t 12) (.t 14))<|
 .o none (.pick 16 (.t 10) (.t 15) (.c (.bool false))) .nil))<| .cond (.t 16) (.seq (.rg (.o none (.mv 17 (.t 0))<|
 .o none (.call (some 18) false (.c (.fn 57 [] [])) [(.t 17)])<|
 .o none (.mv 19 (.t 1))<|
 .o none (.call (some 20) false (.c (.fn 57 [] [])) [(.t 19)])<|
 .o none (.bin 21 .sub false (.t 18) (.t 20))<|
 .o none (.call (some 22) false (.c (.fn 102 [] [])) [(.t 21)])<|
 .o none (.mv 6 (.t 22)) .nil))<| .ret) (.skip))<| .seq (.seq (.rg (.o none (.mv 23 (.t 0))<|
 .o none (.len 24 (.t 23))<|
 .o none (.mv 25 (.t 1))<|
 .o none (.len 26 (.t 25))<|
 .o none (.mx 27 (.t 24) (.t 26))<|
 .o none (.bin 28 .sub false (.t 27) (.c (.int .i64 1)))<|
 .o none (.mv 7 (.t 28)) .nil))<| .block 0 (.loop (.seq (.seq (.rg (.o none (.mv 29 (.t 7))<|
 .o none (.bin 30 .geq false (.t 29) (.c (.int .i64 0))) .nil))<| .cond (.t 30) (.skip) (.exit 0))<| .seq (.block 1 (.seq (.rg (.o none (.mv 33 (.t 0))<|
 .o none (.mv 34 (.t 7))<|
 .o none (.call (some 35) false (.c (.fn 87 [] [])) [(.t 33),(.t 34)])<|
 .o none (.mv 36 (.t 1))<|
 .o none (.mv 37 (.t 7))<|
 .o none (.call (some 38) false (.c (.fn 87 [] [])) [(.t 36),(.t 37)])<|
 .o none (.bin 39 .neq false (.t 35) (.t 38)) .nil))<| .cond (.t 39) (.seq (.rg (.o none (.mv 40 (.t 0))<|
 .o none (.mv 41 (.t 7))<|
 .o none (.call (some 42) false (.c (.fn 87 [] [])) [(.t 40),(.t 41)])<|
 .o none (.mv 43 (.t 1))<|
 .o none (.mv 44 (.t 7))<|
 .o none (.call (some 45) false (.c (.fn 87 [] [])) [(.t 43),(.t 44)])<|
 .o none (.bin 46 .sub false (.t 42) (.t 45))<|
 .o none (.call (some 47) false (.c (.fn 102 [] [])) [(.t 46)])<|
 .o none (.mv 6 (.t 47)) .nil))<| .ret) (.skip)))<| .rg (.o none (.mv 31 (.t 7))<|
 .o none (.bin 32 .sub false (.t 31) (.c (.int .i64 1)))<|
 .o none (.mv 7 (.t 32)) .nil))))<| .seq (.rg (.o none (.mv 6 (.c (.int .i64 0))) .nil))<| .ret⟩
theorem Qan3:Qe Tryz.prog Tryz.f56=some c56:=by kernel_rfl
def c102:SFn:=⟨7,[.t 2],.seq (.rg (.o none (.mv 2 (.c (.int .i64 0))) .nil))<| .seq (.seq (.rg (.o none (.mv 3 (.t 0))<|
 .o none (.bin 4 .lss false (.t 3) (.c (.int .i64 0))) .nil))<| .cond (.t 4) (.seq (.rg (.o none (.mv 2 (.c (.int .i64 (-1)))) .nil))<| .ret) (.skip))<| .seq (.seq (.rg (.o none (.mv 5 (.t 0))<|
 .o none (.bin 6 .gtr false (.t 5) (.c (.int .i64 0))) .nil))<| .cond (.t 6) (.seq (.rg (.o none (.mv 2 (.c (.int .i64 1))) .nil))<| .ret) (.skip))<| .seq (.rg (.o none (.mv 2 (.c (.int .i64 0))) .nil))<| .ret⟩
theorem Qajh:Qe Tryz.prog Tryz.f102=some c102:=by kernel_rfl
def c29:SFn:=⟨92,[.t 4],.seq (.rg (.o none (.mv 4 (.c .nilS)) .nil))<| .seq (.rg (.o none (.mv 5 (.c .nilS)) .nil))<| .seq (.rg (.o none (.mv 6 (.c (.int .i64 0)))<|
 .o none (.mv 7 (.c (.int .i64 0))) .nil))<| .seq (.block 0 (.loop (.seq (.seq (.rg (.o none (.mv 10 (.t 6))<|
 .o none (.mv 11 (.t 0))<|
 .o none (.len 12 (.t 11))<|
 .o none (.bin 13 .lss false (.t 10) (.t 12))<|
 .o none (.mv 14 (.t 13))<|
 .o (some (14,false)) (.mv 15 (.t 7))<|
 .o (some (14,false)) (.mv 16 (.t 1))<|
 .o (some (14,false)) (.len 17 (.t 16))<|
 .o (some (14,false)) (.bin 18 .lss false (.t 15) (.t 17))<|
 .o none (.pick 19 (.t 14) (.c (.bool true)) (.t 18)) .nil))<| .cond (.t 19) (.skip) (.exit 0))<| .block 1 (.seq (.rg (.o none (.mv 8 (.c (.int .i64 1))) .nil))<| .seq (.seq (.rg (.o none (.mv 20 (.t 6))<|
 .o none (.mv 21 (.t 0))<|
 .o none (.len 22 (.t 21))<|
 .o none (.bin 23 .eql false (.t 20) (.t 22)) .nil))<| .cond (.t 23) (.rg (.o none (.mv 8 (.c (.int .i64 (-1)))) .nil)) (.seq (.rg (.o none (.mv 24 (.t 7))<|
 .o none (.mv 25 (.t 1))<|
 .o none (.len 26 (.t 25))<|
 .o none (.bin 27 .lss false (.t 24) (.t 26)) .nil))<| .cond (.t 27) (.rg (.o none (.mv 28 (.t 0))<|
 .o none (.mv 29 (.t 6))<|
 .o none (.idx 30 4 (.t 28) (.t 29))<|
 .o none (.fld 31 3 (.t 30))<|
 .o none (.ld 32 1 false (.t 31))<|
 .o none (.mv 33 (.t 1))<|
 .o none (.mv 34 (.t 7))<|
 .o none (.idx 35 4 (.t 33) (.t 34))<|
 .o none (.fld 36 3 (.t 35))<|
 .o none (.ld 37 1 false (.t 36))<|
 .o none (.call (some 38) false (.c (.fn 56 [] [])) [(.t 32),(.t 37),(.c (.int .i64 0))])<|
 .o none (.mv 8 (.t 38)) .nil)) (.skip)))<| .block 2 (.seq (.rg (.o none (.mv 68 (.t 8))<|
 .o none (.bin 69 .gtr false (.t 68) (.c (.int .i64 0)))<|
 .o none (.mv 67 (.t 69)) .nil))<| .cond (.t 67) (.seq (.rg (.o none (.mv 70 (.t 5))<|
 .o none (.mv 71 (.t 0))<|
 .o none (.mv 72 (.t 6))<|
 .o none (.idx 73 4 (.t 71) (.t 72))<|
 .o none (.ld 74 4 true (.t 73))<|
 .o none (.bs 75 4 54 [(.t 74)])<|
 .o none (.app 76 4 80 54 (.t 70) (.t 75))<|
 .o none (.mv 5 (.t 76)) .nil))<| .rg (.o none (.mv 77 (.t 6))<|
 .o none (.bin 78 .add false (.t 77) (.c (.int .i64 1)))<|
 .o none (.mv 6 (.t 78)) .nil)) (.seq (.rg (.o none (.mv 80 (.t 8))<|
 .o none (.bin 81 .lss false (.t 80) (.c (.int .i64 0)))<|
 .o none (.mv 79 (.t 81)) .nil))<| .cond (.t 79) (.seq (.rg (.o none (.mv 82 (.t 5))<|
 .o none (.mv 83 (.t 1))<|
 .o none (.mv 84 (.t 7))<|
 .o none (.idx 85 4 (.t 83) (.t 84))<|
 .o none (.ld 86 4 true (.t 85))<|
 .o none (.bs 87 4 54 [(.t 86)])<|
 .o none (.app 88 4 80 54 (.t 82) (.t 87))<|
 .o none (.mv 5 (.t 88)) .nil))<| .rg (.o none (.mv 89 (.t 7))<|
 .o none (.bin 90 .add false (.t 89) (.c (.int .i64 1)))<|
 .o none (.mv 7 (.t 90)) .nil)) (.seq (.seq (.rg (.o none (.mv 39 (.t 0))<|
 .o none (.mv 40 (.t 6))<|
 .o none (.idx 41 4 (.t 39) (.t 40))<|
 .o none (.fld 42 0 (.t 41))<|
 .o none (.ld 43 3 true (.t 42))<|
 .o none (.mv 44 (.t 1))<|
 .o none (.mv 45 (.t 7))<|
 .o none (.idx 46 4 (.t 44) (.t 45))<|
 .o none (.fld 47 0 (.t 46))<|
 .o none (.ld 48 3 true (.t 47))<|
 .br (.o none (.call (some 49) true (.c (.fn 63 [] [])) [(.t 43),(.t 48)])<|
 .o none (.alloc 9 3 51 (.agg [(.bool false),.nilS,.nilS]))<|
 .o none (.st 3 (.t 9) (.t 49)) .nil) (.o none (.alloc 9 3 51 (.agg [(.bool false),.nilS,.nilS]))<|
 .o none (.call (some 49) true (.c (.fn 63 [] [])) [(.t 43),(.t 48)])<|
 .o none (.st 3 (.t 9) (.t 49)) .nil)))<| .seq (.rg (.o none (.ld 50 3 true (.t 9))<|
 .o none (.call (some 51) false (.c (.fn 54 [] [])) [(.t 50)])<|
 .o none (.bin 52 .neq false (.t 51) (.c (.int .i64 0))) .nil))<| .cond (.t 52) (.rg (.o none (.mv 53 (.t 5))<|
 .o none (.ld 54 3 true (.t 9))<|
 .o none (.mv 55 (.t 0))<|
 .o none (.mv 56 (.t 6))<|
 .o none (.idx 57 4 (.t 55) (.t 56))<|
 .o none (.fld 58 3 (.t 57))<|
 .o none (.ld 59 1 false (.t 58))<|
 .o none (.bld 60 [(.bool false),.nilS,.nilS,.nilS] [(0,3,(.t 54)),(3,1,(.t 59))])<|
 .o none (.bs 61 4 54 [(.t 60)])<|
 .o none (.app 62 4 80 54 (.t 53) (.t 61))<|
 .o none (.mv 5 (.t 62)) .nil)) (.skip))<| .seq (.rg (.o none (.mv 63 (.t 6))<|
 .o none (.bin 64 .add false (.t 63) (.c (.int .i64 1)))<|
 .o none (.mv 6 (.t 64)) .nil))<| .rg (.o none (.mv 65 (.t 7))<|
 .o none (.bin 66 .add false (.t 65) (.c (.int .i64 1)))<|
 .o none (.mv 7 (.t 66)) .nil))))))))<| .seq (.rg (.o none (.mv 91 (.t 5))<|
 .o none (.mv 4 (.t 91)) .nil))<| .ret⟩
theorem Qan4:Qe Tryz.prog Tryz.f29=some c29:=by kernel_rfl
def c67:SFn:=⟨58,[.t 4],.seq (.rg (.o none (.mv 4 (.c (.int .i64 0))) .nil))<| .seq (.seq (.rg (.o none (.mv 5 (.c (.int .i64 0))) .nil))<| .block 0 (.loop (.seq (.seq (.rg (.o none (.mv 8 (.t 5))<|
 .o none (.mv 9 (.t 0))<|
 .o none (.len 10 (.t 9))<|
 .o none (.bin 11 .lss false (.t 8) (.t 10))<|
 .o none (.mv 12 (.t 11))<|
 .o (some (12,true)) (.mv 13 (.t 5))<|
 .o (some (12,true)) (.mv 14 (.t 1))<|
 .o (some (12,true)) (.len 15 (.t 14))<|
 .o (some (12,true)) (.bin 16 .lss false (.t 13) (.t 15))<|
 .o none (.pick 17 (.t 12) (.t 16) (.c (.bool false))) .nil))<| .cond (.t 17) (.skip) (.exit 0))<| .seq (.block 1 (.seq (.seq (.rg (.o none (.mv 20 (.t 0))<|
 .o none (.mv 21 (.t 5))<|
 .o none (.idx 22 4 (.t 20) (.t 21))<|
 .o none (.fld 23 3 (.t 22))<|
 .o none (.ld 24 1 false (.t 23))<|
 .o none (.mv 25 (.t 1))<|
 .o none (.mv 26 (.t 5))<|
 .o none (.idx 27 4 (.t 25) (.t 26))<|
 .o none (.fld 28 3 (.t 27))<|
 .o none (.ld 29 1 false (.t 28))<|
 .o none (.call (some 30) false (.c (.fn 56 [] [])) [(.t 24),(.t 29),(.c (.int .i64 0))])<|
 .o none (.mv 6 (.t 30)) .nil))<| .seq (.rg (.o none (.mv 31 (.t 6))<|
 .o none (.bin 32 .neq false (.t 31) (.c (.int .i64 0))) .nil))<| .cond (.t 32) (.seq (.rg (.o none (.mv 33 (.t 6))<|
 .o none (.mv 4 (.t 33)) .nil))<| .ret) (.skip))<| .seq (.rg (.o none (.mv 34 (.t 0))<|
 .o none (.mv 35 (.t 5))<|
 .o none (.idx 36 4 (.t 34) (.t 35))<|
 .o none (.fld 37 0 (.t 36))<|
 .o none (.ld 38 3 true (.t 37))<|
 .o none (.mv 39 (.t 1))<|
 .o none (.mv 40 (.t 5))<|
 .o none (.idx 41 4 (.t 39) (.t 40))<|
 .o none (.fld 42 0 (.t 41))<|
 .o none (.ld 43 3 true (.t 42))<|
 .o none (.call (some 44) false (.c (.fn 114 [] [])) [(.t 38),(.t 43)])<|
 .o none (.mv 7 (.t 44)) .nil))<| .seq (.rg (.o none (.mv 45 (.t 7))<|
 .o none (.bin 46 .neq false (.t 45) (.c (.int .i64 0))) .nil))<| .cond (.t 46) (.seq (.rg (.o none (.mv 47 (.t 7))<|
 .o none (.mv 4 (.t 47)) .nil))<| .ret) (.skip)))<| .rg (.o none (.mv 18 (.t 5))<|
 .o none (.bin 19 .add false (.t 18) (.c (.int .i64 1)))<|
 .o none (.mv 5 (.t 19)) .nil))))<| .seq (.seq (.rg (.o none (.mv 48 (.t 0))<|
 .o none (.len 49 (.t 48))<|
 .o none (.mv 50 (.t 1))<|
 .o none (.len 51 (.t 50))<|
 .o none (.bin 52 .lss false (.t 49) (.t 51)) .nil))<| .cond (.t 52) (.seq (.rg (.o none (.mv 4 (.c (.int .i64 (-1)))) .nil))<| .ret) (.skip))<| .seq (.seq (.rg (.o none (.mv 53 (.t 0))<|
 .o none (.len 54 (.t 53))<|
 .o none (.mv 55 (.t 1))<|
 .o none (.len 56 (.t 55))<|
 .o none (.bin 57 .gtr false (.t 54) (.t 56)) .nil))<| .cond (.t 57) (.seq (.rg (.o none (.mv 4 (.c (.int .i64 1))) .nil))<| .ret) (.skip))<| .seq (.rg (.o none (.mv 4 (.c (.int .i64 0))) .nil))<| .ret⟩
theorem Qan5:Qe Tryz.prog Tryz.f67=some c67:=by kernel_rfl
def c31:SFn:=⟨5,[.t 2],.seq (.rg (.o none (.box 1 3 51 (.t 0))<|
 .o none (.mv 2 (.c .nilS)) .nil))<| .seq (.rg (.o none (.ld 3 3 true (.t 1))<|
 .o none (.call (some 4) false (.c (.fn 58 [] [])) [(.c .nilS),(.t 3),(.c .nilS)])<|
 .o none (.mv 2 (.t 4)) .nil))<| .ret⟩
theorem Qan6:Qe Tryz.prog Tryz.f31=some c31:=by kernel_rfl
def c25:SFn:=⟨20,[.t 2],.seq (.rg (.o none (.mv 2 (.c (.int .i64 0))) .nil))<| .seq (.rg (.o none (.mv 3 (.c (.int .i64 (-1)))) .nil))<| .seq (.seq (.rg (.o none (.mv 4 (.c (.int .i64 0))) .nil))<| .block 0 (.loop (.seq (.seq (.rg (.o none (.mv 5 (.t 4))<|
 .o none (.mv 6 (.t 0))<|
 .o none (.len 7 (.t 6))<|
 .o none (.bin 8 .lss false (.t 5) (.t 7)) .nil))<| .cond (.t 8) (.skip) (.exit 0))<| .seq (.block 1 (.rg (.o none (.mv 11 (.t 3))<|
 .o none (.mv 12 (.t 0))<|
 .o none (.mv 13 (.t 4))<|
 .o none (.idx 14 4 (.t 12) (.t 13))<|
 .o none (.fld 15 3 (.t 14))<|
 .o none (.ld 16 1 false (.t 15))<|
 .o none (.call (some 17) false (.c (.fn 57 [] [])) [(.t 16)])<|
 .o none (.mx 18 (.t 11) (.t 17))<|
 .o none (.mv 3 (.t 18)) .nil)))<| .rg (.o none (.mv 9 (.t 4))<|
 .o none (.bin 10 .add false (.t 9) (.c (.int .i64 1)))<|
 .o none (.mv 4 (.t 10)) .nil))))<| .seq (.rg (.o none (.mv 19 (.t 3))<|
 .o none (.mv 2 (.t 19)) .nil))<| .ret⟩
theorem Qan7:Qe Tryz.prog Tryz.f25=some c25:=by kernel_rfl
def c33:SFn:=⟨9,[.t 4],.seq (.rg (.o none (.mv 4 (.c (.bool false))) .nil))<| .seq (.rg (.o none (.mv 5 (.t 0))<|
 .o none (.mv 6 (.t 1))<|
 .o none (.call (some 7) false (.c (.fn 67 [] [])) [(.t 5),(.t 6)])<|
 .o none (.bin 8 .eql false (.t 7) (.c (.int .i64 0)))<|
 .o none (.mv 4 (.t 8)) .nil))<| .ret⟩
theorem Qan8:Qe Tryz.prog Tryz.f33=some c33:=by kernel_rfl
def c41:SFn:=⟨33,[.t 2],.seq (.rg (.o none (.mv 2 (.c (.bool false))) .nil))<| .seq (.seq (.rg (.o none (.mv 3 (.c (.int .i64 0))) .nil))<| .block 0 (.loop (.seq (.seq (.rg (.o none (.mv 5 (.t 3))<|
 .o none (.mv 6 (.t 0))<|
 .o none (.len 7 (.t 6))<|
 .o none (.bin 8 .lss false (.t 5) (.t 7)) .nil))<| .cond (.t 8) (.skip) (.exit 0))<| .seq (.block 1 (.seq (.rg (.o none (.mv 4 (.c (.int .i64 0))) .nil))<| .block 2 (.loop (.seq (.seq (.rg (.o none (.mv 11 (.t 4))<|
 .o none (.mv 12 (.t 0))<|
 .o none (.mv 13 (.t 3))<|
 .o none (.idx 14 4 (.t 12) (.t 13))<|
 .o none (.fld 15 3 (.t 14))<|
 .o none (.ld 16 1 false (.t 15))<|
 .o none (.len 17 (.t 16))<|
 .o none (.bin 18 .lss false (.t 11) (.t 17)) .nil))<| .cond (.t 18) (.skip) (.exit 2))<| .seq (.block 3 (.seq (.rg (.o none (.mv 21 (.t 0))<|
 .o none (.mv 22 (.t 3))<|
 .o none (.idx 23 4 (.t 21) (.t 22))<|
 .o none (.fld 24 3 (.t 23))<|
 .o none (.ld 25 1 false (.t 24))<|
 .o none (.mv 26 (.t 4))<|
 .o none (.idx 27 1 (.t 25) (.t 26))<|
 .o none (.ld 28 1 false (.t 27))<|
 .o none (.bin 29 .gtr false (.t 28) (.c (.int .i64 1048576))) .nil))<| .cond (.t 29) (.seq (.rg (.o none (.mv 2 (.c (.bool true))) .nil))<| .ret) (.skip)))<| .rg (.o none (.mv 19 (.t 4))<|
 .o none (.bin 20 .add false (.t 19) (.c (.int .i64 1)))<|
 .o none (.mv 4 (.t 20)) .nil)))))<| .rg (.o none (.mv 9 (.t 3))<|
 .o none (.bin 10 .add false (.t 9) (.c (.int .i64 1)))<|
 .o none (.mv 3 (.t 10)) .nil))))<| .seq (.rg (.o none (.mv 30 (.t 0))<|
 .o none (.len 31 (.t 30))<|
 .o none (.bin 32 .gtr false (.t 31) (.c (.int .i64 4000)))<|
 .o none (.mv 2 (.t 32)) .nil))<| .ret⟩
theorem Qan9:Qe Tryz.prog Tryz.f41=some c41:=by kernel_rfl
def c30:SFn:=⟨22,[.t 4],.seq (.rg (.o none (.mv 4 (.c .nilS)) .nil))<| .seq (.rg (.o none (.mv 5 (.c .nilS)) .nil))<| .seq (.seq (.rg (.o none (.mv 6 (.c (.int .i64 0))) .nil))<| .block 0 (.loop (.seq (.seq (.rg (.o none (.mv 7 (.t 6))<|
 .o none (.mv 8 (.t 1))<|
 .o none (.len 9 (.t 8))<|
 .o none (.bin 10 .lss false (.t 7) (.t 9)) .nil))<| .cond (.t 10) (.skip) (.exit 0))<| .seq (.block 1 (.rg (.o none (.mv 13 (.t 5))<|
 .o none (.mv 14 (.t 0))<|
 .o none (.mv 15 (.t 1))<|
 .o none (.mv 16 (.t 6))<|
 .o none (.idx 17 4 (.t 15) (.t 16))<|
 .o none (.ld 18 4 true (.t 17))<|
 .o none (.call (some 19) false (.c (.fn 64 [] [])) [(.t 14),(.t 18)])<|
 .o none (.call (some 20) false (.c (.fn 29 [] [])) [(.t 13),(.t 19)])<|
 .o none (.mv 5 (.t 20)) .nil)))<| .rg (.o none (.mv 11 (.t 6))<|
 .o none (.bin 12 .add false (.t 11) (.c (.int .i64 1)))<|
 .o none (.mv 6 (.t 12)) .nil))))<| .seq (.rg (.o none (.mv 21 (.t 5))<|
 .o none (.mv 4 (.t 21)) .nil))<| .ret⟩
theorem Qaoa:Qe Tryz.prog Tryz.f30=some c30:=by kernel_rfl
def c62:SFn:=⟨6,[.t 2],.seq (.rg (.o none (.mv 2 (.c .nilS)) .nil))<| .seq (.rg (.o none (.mv 3 (.t 0))<|
 .o none (.call (some 4) false (.c (.fn 44 [] [])) [(.c (.int .i64 (-1)))])<|
 .o none (.call (some 5) false (.c (.fn 105 [] [])) [(.t 3),(.t 4)])<|
 .o none (.mv 2 (.t 5)) .nil))<| .ret⟩
theorem Qaob:Qe Tryz.prog Tryz.f62=some c62:=by kernel_rfl
def c89:SFn:=⟨34,[.t 2],.seq (.rg (.o none (.mv 2 (.c .nilS)) .nil))<| .seq (.rg (.o none (.mv 3 (.c .nilS)) .nil))<| .seq (.seq (.rg (.o none (.mv 4 (.c (.int .i64 0))) .nil))<| .block 0 (.loop (.seq (.seq (.rg (.o none (.mv 6 (.t 4))<|
 .o none (.mv 7 (.t 0))<|
 .o none (.len 8 (.t 7))<|
 .o none (.bin 9 .lss false (.t 6) (.t 8)) .nil))<| .cond (.t 9) (.skip) (.exit 0))<| .seq (.block 1 (.seq (.rg (.o none (.mv 12 (.t 0))<|
 .o none (.mv 13 (.t 4))<|
 .o none (.idx 14 4 (.t 12) (.t 13))<|
 .o none (.fld 15 3 (.t 14))<|
 .o none (.ld 16 1 false (.t 15))<|
 .o none (.call (some 17) false (.c (.fn 135 [] [])) [(.t 16)])<|
 .o none (.mv 5 (.t 17)) .nil))<| .seq (.rg (.o none (.mv 18 (.t 0))<|
 .o none (.mv 19 (.t 4))<|
 .o none (.idx 20 4 (.t 18) (.t 19))<|
 .o none (.fld 21 3 (.t 20))<|
 .o none (.ld 22 1 false (.t 21))<|
 .o none (.mv 23 (.t 5))<|
 .o none (.call (some 24) false (.c (.fn 136 [] [])) [(.t 22),(.t 23)]) .nil))<| .cond (.t 24) (.rg (.o none (.mv 25 (.t 3))<|
 .o none (.mv 26 (.t 0))<|
 .o none (.mv 27 (.t 4))<|
 .o none (.idx 28 4 (.t 26) (.t 27))<|
 .o none (.fld 29 0 (.t 28))<|
 .o none (.ld 30 3 true (.t 29))<|
 .o none (.mv 31 (.t 5))<|
 .o none (.call (some 32) false (.c (.fn 58 [] [])) [(.t 25),(.t 30),(.t 31)])<|
 .o none (.mv 3 (.t 32)) .nil)) (.skip)))<| .rg (.o none (.mv 10 (.t 4))<|
 .o none (.bin 11 .add false (.t 10) (.c (.int .i64 1)))<|
 .o none (.mv 4 (.t 11)) .nil))))<| .seq (.rg (.o none (.mv 33 (.t 3))<|
 .o none (.mv 2 (.t 33)) .nil))<| .ret⟩
theorem Qaoc:Qe Tryz.prog Tryz.f89=some c89:=by kernel_rfl
def c19:SFn:=⟨52,[.t 2],.seq (.rg (.o none (.mv 2 (.c (.bool false))) .nil))<| .seq (.seq (.rg (.o none (.mv 3 (.c (.int .i64 0))) .nil))<| .block 0 (.loop (.seq (.seq (.rg (.o none (.mv 4 (.t 3))<|
 .o none (.mv 5 (.t 0))<|
 .o none (.len 6 (.t 5))<|
 .o none (.bin 7 .lss false (.t 4) (.t 6)) .nil))<| .cond (.t 7) (.skip) (.exit 0))<| .seq (.block 1 (.seq (.seq (.rg (.o none (.mv 10 (.t 0))<|
 .o none (.mv 11 (.t 3))<|
 .o none (.idx 12 4 (.t 10) (.t 11))<|
 .o none (.fld 13 0 (.t 12))<|
 .o none (.ld 14 3 true (.t 13))<|
 .o none (.call (some 15) false (.c (.fn 53 [] [])) [(.t 14)])<|
 .o none (.un 16 .not (.t 15))<|
 .o none (.mv 17 (.t 16))<|
 .o (some (17,false)) (.mv 18 (.t 0))<|
 .o (some (17,false)) (.mv 19 (.t 3))<|
 .o (some (17,false)) (.idx 20 4 (.t 18) (.t 19))<|
 .o (some (17,false)) (.fld 21 0 (.t 20))<|
 .o (some (17,false)) (.ld 22 3 true (.t 21))<|
 .o (some (17,false)) (.call (some 23) false (.c (.fn 54 [] [])) [(.t 22)])<|
 .o (some (17,false)) (.bin 24 .eql false (.t 23) (.c (.int .i64 0)))<|
 .o none (.pick 25 (.t 17) (.c (.bool true)) (.t 24))<|
 .o none (.mv 26 (.t 25))<|
 .o (some (26,false)) (.mv 27 (.t 0))<|
 .o (some (26,false)) (.mv 28 (.t 3))<|
 .o (some (26,false)) (.idx 29 4 (.t 27) (.t 28))<|
 .o (some (26,false)) (.fld 30 3 (.t 29))<|
 .o (some (26,false)) (.ld 31 1 false (.t 30))<|
 .o (some (26,false)) (.call (some 32) false (.c (.fn 55 [] [])) [(.t 31)])<|
 .o (some (26,false)) (.un 33 .not (.t 32))<|
 .o none (.pick 34 (.t 26) (.c (.bool true)) (.t 33)) .nil))<| .cond (.t 34) (.seq (.rg (.o none (.mv 2 (.c (.bool false))) .nil))<| .ret) (.skip))<| .seq (.rg (.o none (.mv 35 (.t 3))<|
 .o none (.bin 36 .gtr false (.t 35) (.c (.int .i64 0)))<|
 .o none (.mv 37 (.t 36))<|
 .o (some (37,true)) (.mv 38 (.t 0))<|
 .o (some (37,true)) (.mv 39 (.t 3))<|
 .o (some (37,true)) (.bin 40 .sub false (.t 39) (.c (.int .i64 1)))<|
 .o (some (37,true)) (.idx 41 4 (.t 38) (.t 40))<|
 .o (some (37,true)) (.fld 42 3 (.t 41))<|
 .o (some (37,true)) (.ld 43 1 false (.t 42))<|
 .o (some (37,true)) (.mv 44 (.t 0))<|
 .o (some (37,true)) (.mv 45 (.t 3))<|
 .o (some (37,true)) (.idx 46 4 (.t 44) (.t 45))<|
 .o (some (37,true)) (.fld 47 3 (.t 46))<|
 .o (some (37,true)) (.ld 48 1 false (.t 47))<|
 .o (some (37,true)) (.call (some 49) false (.c (.fn 56 [] [])) [(.t 43),(.t 48),(.c (.int .i64 0))])<|
 .o (some (37,true)) (.bin 50 .leq false (.t 49) (.c (.int .i64 0)))<|
 .o none (.pick 51 (.t 37) (.t 50) (.c (.bool false))) .nil))<| .cond (.t 51) (.seq (.rg (.o none (.mv 2 (.c (.bool false))) .nil))<| .ret) (.skip)))<| .rg (.o none (.mv 8 (.t 3))<|
 .o none (.bin 9 .add false (.t 8) (.c (.int .i64 1)))<|
 .o none (.mv 3 (.t 9)) .nil))))<| .seq (.rg (.o none (.mv 2 (.c (.bool true))) .nil))<| .ret⟩
theorem Qaod:Qe Tryz.prog Tryz.f19=some c19:=by kernel_rfl
def c105:SFn:=⟨35,[.t 4],.seq (.rg (.o none (.box 3 3 51 (.t 1))<|
 .o none (.mv 4 (.c .nilS)) .nil))<| .seq (.rg (.o none (.mv 5 (.c .nilS)) .nil))<| .seq (.seq (.rg (.o none (.mv 6 (.c (.int .i64 0))) .nil))<| .block 0 (.loop (.seq (.seq (.rg (.o none (.mv 7 (.t 6))<|
 .o none (.mv 8 (.t 0))<|
 .o none (.len 9 (.t 8))<|
 .o none (.bin 10 .lss false (.t 7) (.t 9))<|
 .o none (.mv 11 (.t 10))<|
 .o (some (11,true)) (.ld 12 3 true (.t 3))<|
 .o (some (11,true)) (.call (some 13) false (.c (.fn 54 [] [])) [(.t 12)])<|
 .o (some (11,true)) (.bin 14 .neq false (.t 13) (.c (.int .i64 0)))<|
 .o none (.pick 15 (.t 11) (.t 14) (.c (.bool false))) .nil))<| .cond (.t 15) (.skip) (.exit 0))<| .seq (.block 1 (.rg (.o none (.mv 18 (.t 5))<|
 .o none (.mv 19 (.t 0))<|
 .o none (.mv 20 (.t 6))<|
 .o none (.idx 21 4 (.t 19) (.t 20))<|
 .o none (.fld 22 0 (.t 21))<|
 .o none (.ld 23 3 true (.t 22))<|
 .o none (.ld 24 3 true (.t 3))<|
 .o none (.mv 26 (.t 0))<|
 .o none (.mv 27 (.t 6))<|
 .o none (.idx 28 4 (.t 26) (.t 27))<|
 .o none (.fld 29 3 (.t 28))<|
 .o none (.ld 30 1 false (.t 29))<|
 .o none (.call (some 25) true (.c (.fn 110 [] [])) [(.t 23),(.t 24)])<|
 .o none (.bld 31 [(.bool false),.nilS,.nilS,.nilS] [(0,3,(.t 25)),(3,1,(.t 30))])<|
 .o none (.bs 32 4 54 [(.t 31)])<|
 .o none (.app 33 4 80 54 (.t 18) (.t 32))<|
 .o none (.mv 5 (.t 33)) .nil)))<| .rg (.o none (.mv 16 (.t 6))<|
 .o none (.bin 17 .add false (.t 16) (.c (.int .i64 1)))<|
 .o none (.mv 6 (.t 17)) .nil))))<| .seq (.rg (.o none (.mv 34 (.t 5))<|
 .o none (.mv 4 (.t 34)) .nil))<| .ret⟩
theorem Qaji:Qe Tryz.prog Tryz.f105=some c105:=by kernel_rfl
def c24:SFn:=⟨72,[.t 8],.seq (.rg (.o none (.mv 8 (.c (.bool false))) .nil))<| .seq (.seq (.rg (.o none (.mv 11 (.t 0))<|
 .o none (.len 12 (.t 11))<|
 .o none (.mv 13 (.t 1))<|
 .o none (.bin 14 .gtr false (.t 12) (.t 13)) .nil))<| .cond (.t 14) (.seq (.rg (.o none (.mv 8 (.c (.bool false))) .nil))<| .ret) (.skip))<| .seq (.seq (.rg (.o none (.mv 9 (.c (.int .i64 0))) .nil))<| .block 0 (.loop (.seq (.seq (.rg (.o none (.mv 15 (.t 9))<|
 .o none (.mv 16 (.t 0))<|
 .o none (.len 17 (.t 16))<|
 .o none (.bin 18 .lss false (.t 15) (.t 17)) .nil))<| .cond (.t 18) (.skip) (.exit 0))<| .seq (.block 1 (.seq (.seq (.rg (.o none (.mv 21 (.t 0))<|
 .o none (.mv 22 (.t 9))<|
 .o none (.idx 23 4 (.t 21) (.t 22))<|
 .o none (.fld 24 3 (.t 23))<|
 .o none (.ld 25 1 false (.t 24))<|
 .o none (.len 26 (.t 25))<|
 .o none (.mv 27 (.t 2))<|
 .o none (.bin 28 .gtr false (.t 26) (.t 27))<|
 .o none (.mv 29 (.t 28))<|
 .o (some (29,false)) (.mv 30 (.t 0))<|
 .o (some (29,false)) (.mv 31 (.t 9))<|
 .o (some (29,false)) (.idx 32 4 (.t 30) (.t 31))<|
 .o (some (29,false)) (.fld 33 0 (.t 32))<|
 .o (some (29,false)) (.fld 34 0 (.t 33))<|
 .o (some (29,false)) (.fld 35 1 (.t 34))<|
 .o (some (29,false)) (.ld 36 1 false (.t 35))<|
 .o (some (29,false)) (.len 37 (.t 36))<|
 .o (some (29,false)) (.bin 38 .gtr false (.t 37) (.c (.int .i64 4)))<|
 .o none (.pick 39 (.t 29) (.c (.bool true)) (.t 38))<|
 .o none (.mv 40 (.t 39))<|
 .o (some (40,false)) (.mv 41 (.t 0))<|
 .o (some (40,false)) (.mv 42 (.t 9))<|
 .o (some (40,false)) (.idx 43 4 (.t 41) (.t 42))<|
 .o (some (40,false)) (.fld 44 0 (.t 43))<|
 .o (some (40,false)) (.fld 45 2 (.t 44))<|
 .o (some (40,false)) (.ld 46 1 false (.t 45))<|
 .o (some (40,false)) (.len 47 (.t 46))<|
 .o (some (40,false)) (.bin 48 .gtr false (.t 47) (.c (.int .i64 4)))<|
 .o none (.pick 49 (.t 40) (.c (.bool true)) (.t 48)) .nil))<| .cond (.t 49) (.seq (.rg (.o none (.mv 8 (.c (.bool false))) .nil))<| .ret) (.skip))<| .seq (.rg (.o none (.mv 10 (.c (.int .i64 0))) .nil))<| .block 2 (.loop (.seq (.seq (.rg (.o none (.mv 50 (.t 10))<|
 .o none (.mv 51 (.t 0))<|
 .o none (.mv 52 (.t 9))<|
 .o none (.idx 53 4 (.t 51) (.t 52))<|
 .o none (.fld 54 3 (.t 53))<|
 .o none (.ld 55 1 false (.t 54))<|
 .o none (.len 56 (.t 55))<|
 .o none (.bin 57 .lss false (.t 50) (.t 56)) .nil))<| .cond (.t 57) (.skip) (.exit 2))<| .seq (.block 3 (.seq (.rg (.o none (.mv 60 (.t 0))<|
 .o none (.mv 61 (.t 9))<|
 .o none (.idx 62 4 (.t 60) (.t 61))<|
 .o none (.fld 63 3 (.t 62))<|
 .o none (.ld 64 1 false (.t 63))<|
 .o none (.mv 65 (.t 10))<|
 .o none (.idx 66 1 (.t 64) (.t 65))<|
 .o none (.ld 67 1 false (.t 66))<|
 .o none (.mv 68 (.t 3))<|
 .o none (.bin 69 .gtr false (.t 67) (.t 68)) .nil))<| .cond (.t 69) (.seq (.rg (.o none (.mv 8 (.c (.bool false))) .nil))<| .ret) (.skip)))<| .rg (.o none (.mv 58 (.t 10))<|
 .o none (.bin 59 .add false (.t 58) (.c (.int .i64 1)))<|
 .o none (.mv 10 (.t 59)) .nil)))))<| .rg (.o none (.mv 19 (.t 9))<|
 .o none (.bin 20 .add false (.t 19) (.c (.int .i64 1)))<|
 .o none (.mv 9 (.t 20)) .nil))))<| .seq (.rg (.o none (.mv 70 (.t 0))<|
 .o none (.call (some 71) false (.c (.fn 19 [] [])) [(.t 70)])<|
 .o none (.mv 8 (.t 71)) .nil))<| .ret⟩
theorem Qaoe:Qe Tryz.prog Tryz.f24=some c24:=by kernel_rfl
def c28:SFn:=⟨9,[.t 4],.seq (.rg (.o none (.mv 4 (.c .nilS)) .nil))<| .seq (.rg (.o none (.mv 5 (.t 0))<|
 .o none (.mv 6 (.t 1))<|
 .o none (.call (some 7) false (.c (.fn 62 [] [])) [(.t 6)])<|
 .o none (.call (some 8) false (.c (.fn 29 [] [])) [(.t 5),(.t 7)])<|
 .o none (.mv 4 (.t 8)) .nil))<| .ret⟩
theorem Qaof:Qe Tryz.prog Tryz.f28=some c28:=by kernel_rfl
def c58:SFn:=⟨88,[.t 6],.seq (.rg (.o none (.box 4 3 51 (.t 1))<|
 .o none (.mv 6 (.c .nilS)) .nil))<| .seq (.rg (.o none (.mv 10 (.t 0))<|
 .o none (.len 11 (.t 10))<|
 .o none (.mv 7 (.t 11)) .nil))<| .seq (.block 0 (.loop (.seq (.seq (.rg (.o none (.mv 12 (.t 7))<|
 .o none (.bin 13 .gtr false (.t 12) (.c (.int .i64 0)))<|
 .o none (.mv 14 (.t 13))<|
 .o (some (14,true)) (.mv 15 (.t 0))<|
 .o (some (14,true)) (.mv 16 (.t 7))<|
 .o (some (14,true)) (.bin 17 .sub false (.t 16) (.c (.int .i64 1)))<|
 .o (some (14,true)) (.idx 18 4 (.t 15) (.t 17))<|
 .o (some (14,true)) (.fld 19 3 (.t 18))<|
 .o (some (14,true)) (.ld 20 1 false (.t 19))<|
 .o (some (14,true)) (.mv 21 (.t 2))<|
 .o (some (14,true)) (.call (some 22) false (.c (.fn 56 [] [])) [(.t 20),(.t 21),(.c (.int .i64 0))])<|
 .o (some (14,true)) (.bin 23 .lss false (.t 22) (.c (.int .i64 0)))<|
 .o none (.pick 24 (.t 14) (.t 23) (.c (.bool false))) .nil))<| .cond (.t 24) (.skip) (.exit 0))<| .block 1 (.rg (.o none (.mv 25 (.t 7))<|
 .o none (.bin 26 .sub false (.t 25) (.c (.int .i64 1)))<|
 .o none (.mv 7 (.t 26)) .nil)))))<| .seq (.rg (.o none (.mv 8 (.c .nilS)) .nil))<| .seq (.seq (.rg (.o none (.mv 27 (.t 7))<|
 .o none (.bin 28 .gtr false (.t 27) (.c (.int .i64 0)))<|
 .o none (.mv 29 (.t 28))<|
 .o (some (29,true)) (.mv 30 (.t 0))<|
 .o (some (29,true)) (.mv 31 (.t 7))<|
 .o (some (29,true)) (.bin 32 .sub false (.t 31) (.c (.int .i64 1)))<|
 .o (some (29,true)) (.idx 33 4 (.t 30) (.t 32))<|
 .o (some (29,true)) (.fld 34 3 (.t 33))<|
 .o (some (29,true)) (.ld 35 1 false (.t 34))<|
 .o (some (29,true)) (.mv 36 (.t 2))<|
 .o (some (29,true)) (.call (some 37) false (.c (.fn 56 [] [])) [(.t 35),(.t 36),(.c (.int .i64 0))])<|
 .o (some (29,true)) (.bin 38 .eql false (.t 37) (.c (.int .i64 0)))<|
 .o none (.pick 39 (.t 29) (.t 38) (.c (.bool false))) .nil))<| .cond (.t 39) (.seq (.rg (.o none (.mv 40 (.t 8))<|
 .o none (.mv 41 (.t 0))<|
 .o none (.mv 42 (.t 7))<|
 .o none (.bin 43 .sub false (.t 42) (.c (.int .i64 1)))<|
 .o none (.sl 44 4 (.t 41) none (some (.t 43)) none)<|
 .o none (.app 45 4 80 54 (.t 40) (.t 44))<|
 .o none (.mv 8 (.t 45)) .nil))<| .seq (.seq (.rg (.o none (.mv 46 (.t 0))<|
 .o none (.mv 47 (.t 7))<|
 .o none (.bin 48 .sub false (.t 47) (.c (.int .i64 1)))<|
 .o none (.idx 49 4 (.t 46) (.t 48))<|
 .o none (.fld 50 0 (.t 49))<|
 .o none (.ld 51 3 true (.t 50))<|
 .o none (.ld 52 3 true (.t 4))<|
 .br (.o none (.call (some 53) true (.c (.fn 63 [] [])) [(.t 51),(.t 52)])<|
 .o none (.alloc 9 3 51 (.agg [(.bool false),.nilS,.nilS]))<|
 .o none (.st 3 (.t 9) (.t 53)) .nil) (.o none (.alloc 9 3 51 (.agg [(.bool false),.nilS,.nilS]))<|
 .o none (.call (some 53) true (.c (.fn 63 [] [])) [(.t 51),(.t 52)])<|
 .o none (.st 3 (.t 9) (.t 53)) .nil)))<| .seq (.rg (.o none (.ld 54 3 true (.t 9))<|
 .o none (.call (some 55) false (.c (.fn 54 [] [])) [(.t 54)])<|
 .o none (.bin 56 .neq false (.t 55) (.c (.int .i64 0))) .nil))<| .cond (.t 56) (.rg (.o none (.mv 57 (.t 8))<|
 .o none (.ld 58 3 true (.t 9))<|
 .o none (.mv 59 (.t 2))<|
 .o none (.bld 60 [(.bool false),.nilS,.nilS,.nilS] [(0,3,(.t 58)),(3,1,(.t 59))])<|
 .o none (.bs 61 4 54 [(.t 60)])<|
 .o none (.app 62 4 80 54 (.t 57) (.t 61))<|
 .o none (.mv 8 (.t 62)) .nil)) (.skip))<| .seq (.rg (.o none (.mv 63 (.t 8))<|
 .o none (.mv 64 (.t 0))<|
 .o none (.mv 65 (.t 7))<|
 .o none (.sl 66 4 (.t 64) (some (.t 65)) none none)<|
 .o none (.app 67 4 80 54 (.t 63) (.t 66))<|
 .o none (.mv 6 (.t 67)) .nil))<| .ret) (.skip))<| .seq (.rg (.o none (.mv 68 (.t 8))<|
 .o none (.mv 69 (.t 0))<|
 .o none (.mv 70 (.t 7))<|
 .o none (.sl 71 4 (.t 69) none (some (.t 70)) none)<|
 .o none (.app 72 4 80 54 (.t 68) (.t 71))<|
 .o none (.mv 8 (.t 72)) .nil))<| .seq (.seq (.rg (.o none (.ld 73 3 true (.t 4))<|
 .o none (.call (some 74) false (.c (.fn 54 [] [])) [(.t 73)])<|
 .o none (.bin 75 .neq false (.t 74) (.c (.int .i64 0))) .nil))<| .cond (.t 75) (.rg (.o none (.mv 76 (.t 8))<|
 .o none (.ld 77 3 true (.t 4))<|
 .o none (.call (some 78) false (.c (.fn 101 [] [])) [(.t 77)])<|
 .o none (.mv 79 (.t 2))<|
 .o none (.bld 80 [(.bool false),.nilS,.nilS,.nilS] [(0,3,(.t 78)),(3,1,(.t 79))])<|
 .o none (.bs 81 4 54 [(.t 80)])<|
 .o none (.app 82 4 80 54 (.t 76) (.t 81))<|
 .o none (.mv 8 (.t 82)) .nil)) (.skip))<| .seq (.rg (.o none (.mv 83 (.t 8))<|
 .o none (.mv 84 (.t 0))<|
 .o none (.mv 85 (.t 7))<|
 .o none (.sl 86 4 (.t 84) (some (.t 85)) none none)<|
 .o none (.app 87 4 80 54 (.t 83) (.t 86))<|
 .o none (.mv 6 (.t 87)) .nil))<| .ret⟩
theorem Qaog:Qe Tryz.prog Tryz.f58=some c58:=by kernel_rfl
def c64:SFn:=⟨34,[.t 4],.seq (.rg (.o none (.box 3 4 54 (.t 1))<|
 .o none (.mv 4 (.c .nilS)) .nil))<| .seq (.rg (.o none (.mv 5 (.c .nilS)) .nil))<| .seq (.seq (.rg (.o none (.mv 6 (.c (.int .i64 0))) .nil))<| .block 0 (.loop (.seq (.seq (.rg (.o none (.mv 7 (.t 6))<|
 .o none (.mv 8 (.t 0))<|
 .o none (.len 9 (.t 8))<|
 .o none (.bin 10 .lss false (.t 7) (.t 9)) .nil))<| .cond (.t 10) (.skip) (.exit 0))<| .seq (.block 1 (.rg (.o none (.mv 13 (.t 5))<|
 .o none (.mv 14 (.t 0))<|
 .o none (.mv 15 (.t 6))<|
 .o none (.idx 16 4 (.t 14) (.t 15))<|
 .o none (.fld 17 0 (.t 16))<|
 .o none (.ld 18 3 true (.t 17))<|
 .o none (.fld 19 0 (.t 3))<|
 .o none (.ld 20 3 true (.t 19))<|
 .o none (.mv 22 (.t 0))<|
 .o none (.mv 23 (.t 6))<|
 .o none (.idx 24 4 (.t 22) (.t 23))<|
 .o none (.fld 25 3 (.t 24))<|
 .o none (.ld 26 1 false (.t 25))<|
 .o none (.fld 27 3 (.t 3))<|
 .o none (.ld 28 1 false (.t 27))<|
 .o none (.call (some 21) true (.c (.fn 110 [] [])) [(.t 18),(.t 20)])<|
 .o none (.call (some 29) true (.c (.fn 111 [] [])) [(.t 26),(.t 28)])<|
 .o none (.bld 30 [(.bool false),.nilS,.nilS,.nilS] [(0,3,(.t 21)),(3,1,(.t 29))])<|
 .o none (.bs 31 4 54 [(.t 30)])<|
 .o none (.app 32 4 80 54 (.t 13) (.t 31))<|
 .o none (.mv 5 (.t 32)) .nil)))<| .rg (.o none (.mv 11 (.t 6))<|
 .o none (.bin 12 .add false (.t 11) (.c (.int .i64 1)))<|
 .o none (.mv 6 (.t 12)) .nil))))<| .seq (.rg (.o none (.mv 33 (.t 5))<|
 .o none (.mv 4 (.t 33)) .nil))<| .ret⟩
theorem Qaoh:Qe Tryz.prog Tryz.f64=some c64:=by kernel_rfl
def c136:SFn:=⟨20,[.t 4],.seq (.rg (.o none (.mv 4 (.c (.bool false))) .nil))<| .seq (.seq (.rg (.o none (.mv 5 (.c (.int .i64 0))) .nil))<| .block 0 (.loop (.seq (.seq (.rg (.o none (.mv 6 (.t 5))<|
 .o none (.mv 7 (.t 0))<|
 .o none (.len 8 (.t 7))<|
 .o none (.bin 9 .lss false (.t 6) (.t 8)) .nil))<| .cond (.t 9) (.skip) (.exit 0))<| .seq (.block 1 (.seq (.rg (.o none (.mv 12 (.t 0))<|
 .o none (.mv 13 (.t 5))<|
 .o none (.idx 14 1 (.t 12) (.t 13))<|
 .o none (.ld 15 1 false (.t 14))<|
 .o none (.mv 16 (.t 1))<|
 .o none (.mv 17 (.t 5))<|
 .o none (.call (some 18) true (.c (.fn 87 [] [])) [(.t 16),(.t 17)])<|
 .o none (.bin 19 .neq false (.t 15) (.t 18)) .nil))<| .cond (.t 19) (.seq (.rg (.o none (.mv 4 (.c (.bool false))) .nil))<| .ret) (.skip)))<| .rg (.o none (.mv 10 (.t 5))<|
 .o none (.bin 11 .add false (.t 10) (.c (.int .i64 1)))<|
 .o none (.mv 5 (.t 11)) .nil))))<| .seq (.rg (.o none (.mv 4 (.c (.bool true))) .nil))<| .ret⟩
theorem Qajj:Qe Tryz.prog Tryz.f136=some c136:=by kernel_rfl
def c71:SFn:=⟨27,[.t 2],.seq (.rg (.o none (.mv 2 (.c (.bool false))) .nil))<| .seq (.seq (.rg (.o none (.mv 7 (.t 0))<|
 .o none (.len 8 (.t 7))<|
 .o none (.bin 9 .gtr false (.t 8) (.c (.int .i64 4000))) .nil))<| .cond (.t 9) (.seq (.rg (.o none (.mv 2 (.c (.bool true))) .nil))<| .ret) (.skip))<| .seq (.seq (.rg (.o none (.mv 10 (.t 0))<|
 .o none (.len 11 (.t 10))<|
 .o none (.mv 12 (.c (.int .i64 0))) .nil))<| .block 0 (.loop (.seq (.rg (.o none (.bin 13 .lss false (.t 12) (.t 11)) .nil))<| .seq (.cond (.t 13) (.skip) (.exit 0))<| .seq (.block 1 (.seq (.rg (.o none (.idx 14 4 (.t 10) (.t 12))<|
 .o none (.ld 15 4 true (.t 14))<|
 .o none (.alloc 4 4 54 (.agg [(.bool false),.nilS,.nilS,.nilS]))<|
 .o none (.st 4 (.t 4) (.t 15)) .nil))<| .seq (.rg (.o none (.fld 16 3 (.t 4))<|
 .o none (.ld 17 1 false (.t 16))<|
 .o none (.len 18 (.t 17))<|
 .o none (.mv 19 (.c (.int .i64 0))) .nil))<| .block 2 (.loop (.seq (.rg (.o none (.bin 20 .lss false (.t 19) (.t 18)) .nil))<| .seq (.cond (.t 20) (.skip) (.exit 2))<| .seq (.block 3 (.seq (.rg (.o none (.idx 21 1 (.t 17) (.t 19))<|
 .o none (.ld 22 1 false (.t 21))<|
 .o none (.mv 6 (.t 22)) .nil))<| .seq (.rg (.o none (.mv 23 (.t 6))<|
 .o none (.bin 24 .gtr false (.t 23) (.c (.int .i64 1048576))) .nil))<| .cond (.t 24) (.seq (.rg (.o none (.mv 2 (.c (.bool true))) .nil))<| .ret) (.skip)))<| .rg (.o none (.bin 25 .add false (.t 19) (.c (.int .i64 1)))<|
 .o none (.mv 19 (.t 25)) .nil)))))<| .rg (.o none (.bin 26 .add false (.t 12) (.c (.int .i64 1)))<|
 .o none (.mv 12 (.t 26)) .nil))))<| .seq (.rg (.o none (.mv 2 (.c (.bool false))) .nil))<| .ret⟩
theorem Qaoi:Qe Tryz.prog Tryz.f71=some c71:=by kernel_rfl
def c16:SFn:=⟨19,[.t 2],.seq (.rg (.o none (.mv 2 (.c (.int .i64 0))) .nil))<| .seq (.rg (.o none (.mv 3 (.c (.int .i64 (-1)))) .nil))<| .seq (.seq (.rg (.o none (.mv 6 (.t 0))<|
 .o none (.len 7 (.t 6))<|
 .o none (.mv 8 (.c (.int .i64 0))) .nil))<| .block 0 (.loop (.seq (.rg (.o none (.bin 9 .lss false (.t 8) (.t 7)) .nil))<| .seq (.cond (.t 9) (.skip) (.exit 0))<| .seq (.block 1 (.seq (.rg (.o none (.idx 10 4 (.t 6) (.t 8))<|
 .o none (.ld 11 4 true (.t 10))<|
 .o none (.alloc 5 4 54 (.agg [(.bool false),.nilS,.nilS,.nilS]))<|
 .o none (.st 4 (.t 5) (.t 11)) .nil))<| .rg (.o none (.mv 12 (.t 3))<|
 .o none (.fld 13 3 (.t 5))<|
 .o none (.ld 14 1 false (.t 13))<|
 .o none (.call (some 15) false (.c (.fn 50 [] [])) [(.t 14)])<|
 .o none (.mx 16 (.t 12) (.t 15))<|
 .o none (.mv 3 (.t 16)) .nil)))<| .rg (.o none (.bin 17 .add false (.t 8) (.c (.int .i64 1)))<|
 .o none (.mv 8 (.t 17)) .nil))))<| .seq (.rg (.o none (.mv 18 (.t 3))<|
 .o none (.mv 2 (.t 18)) .nil))<| .ret⟩
theorem Qaoj:Qe Tryz.prog Tryz.f16=some c16:=by kernel_rfl
def c17:SFn:=⟨22,[.t 4],.seq (.rg (.o none (.mv 4 (.c (.int .i64 0))) .nil))<| .seq (.rg (.o none (.mv 5 (.c (.int .i64 (-1)))) .nil))<| .seq (.seq (.rg (.o none (.mv 8 (.t 0))<|
 .o none (.len 9 (.t 8))<|
 .o none (.mv 10 (.c (.int .i64 0))) .nil))<| .block 0 (.loop (.seq (.rg (.o none (.bin 11 .lss false (.t 10) (.t 9)) .nil))<| .seq (.cond (.t 11) (.skip) (.exit 0))<| .seq (.block 1 (.seq (.rg (.o none (.idx 12 4 (.t 8) (.t 10))<|
 .o none (.ld 13 4 true (.t 12))<|
 .o none (.alloc 7 4 54 (.agg [(.bool false),.nilS,.nilS,.nilS]))<|
 .o none (.st 4 (.t 7) (.t 13)) .nil))<| .rg (.o none (.mv 14 (.t 5))<|
 .o none (.fld 15 3 (.t 7))<|
 .o none (.ld 16 1 false (.t 15))<|
 .o none (.mv 17 (.t 1))<|
 .o none (.call (some 18) false (.c (.fn 51 [] [])) [(.t 16),(.t 17)])<|
 .o none (.mx 19 (.t 14) (.t 18))<|
 .o none (.mv 5 (.t 19)) .nil)))<| .rg (.o none (.bin 20 .add false (.t 10) (.c (.int .i64 1)))<|
 .o none (.mv 10 (.t 20)) .nil))))<| .seq (.rg (.o none (.mv 21 (.t 5))<|
 .o none (.mv 4 (.t 21)) .nil))<| .ret⟩
theorem Qaok:Qe Tryz.prog Tryz.f17=some c17:=by kernel_rfl
def c120:SFn:=⟨35,[.t 4],.seq (.rg (.o none (.mv 4 (.c .nilS)) .nil))<| .seq (.seq (.rg (.o none (.mv 7 (.t 0))<|
 .o none (.mv 8 (.t 1))<|
 .o none (.call (some 9) false (.c (.fn 51 [] [])) [(.t 7),(.t 8)])<|
 .o none (.bin 10 .eql false (.t 9) (.c (.int .i64 0))) .nil))<| .cond (.t 10) (.seq (.rg (.o none (.mv 11 (.t 0))<|
 .o none (.mv 4 (.t 11)) .nil))<| .ret) (.skip))<| .seq (.rg (.o none (.mv 12 (.t 0))<|
 .o none (.app 13 1 8 3 (.c .nilS) (.t 12))<|
 .o none (.mv 5 (.t 13)) .nil))<| .seq (.rg (.o none (.mv 14 (.t 5))<|
 .o none (.mv 15 (.t 1))<|
 .o none (.idx 16 1 (.t 14) (.t 15))<|
 .o none (.st 1 (.t 16) (.c (.int .i64 0))) .nil))<| .seq (.rg (.o none (.mv 17 (.t 5))<|
 .o none (.len 18 (.t 17))<|
 .o none (.mv 6 (.t 18)) .nil))<| .seq (.block 0 (.loop (.seq (.seq (.rg (.o none (.mv 19 (.t 6))<|
 .o none (.bin 20 .gtr false (.t 19) (.c (.int .i64 0)))<|
 .o none (.mv 21 (.t 20))<|
 .o (some (21,true)) (.mv 22 (.t 5))<|
 .o (some (21,true)) (.mv 23 (.t 6))<|
 .o (some (21,true)) (.bin 24 .sub false (.t 23) (.c (.int .i64 1)))<|
 .o (some (21,true)) (.idx 25 1 (.t 22) (.t 24))<|
 .o (some (21,true)) (.ld 26 1 false (.t 25))<|
 .o (some (21,true)) (.bin 27 .eql false (.t 26) (.c (.int .i64 0)))<|
 .o none (.pick 28 (.t 21) (.t 27) (.c (.bool false))) .nil))<| .cond (.t 28) (.skip) (.exit 0))<| .block 1 (.rg (.o none (.mv 29 (.t 6))<|
 .o none (.bin 30 .sub false (.t 29) (.c (.int .i64 1)))<|
 .o none (.mv 6 (.t 30)) .nil)))))<| .seq (.rg (.o none (.mv 31 (.t 5))<|
 .o none (.mv 32 (.t 6))<|
 .o none (.mv 33 (.t 6))<|
 .o none (.sl 34 1 (.t 31) none (some (.t 32)) (some (.t 33)))<|
 .o none (.mv 4 (.t 34)) .nil))<| .ret⟩
theorem Qajk:Qe Tryz.prog Tryz.f120=some c120:=by kernel_rfl
def c72:SFn:=⟨34,[.t 6],.seq (.rg (.o none (.mv 6 (.c .nilS)) .nil))<| .seq (.rg (.o none (.mv 7 (.c .nilS)) .nil))<| .seq (.seq (.rg (.o none (.mv 10 (.t 0))<|
 .o none (.len 11 (.t 10))<|
 .o none (.mv 12 (.c (.int .i64 0))) .nil))<| .block 0 (.loop (.seq (.rg (.o none (.bin 13 .lss false (.t 12) (.t 11)) .nil))<| .seq (.cond (.t 13) (.skip) (.exit 0))<| .seq (.block 1 (.seq (.rg (.o none (.idx 14 4 (.t 10) (.t 12))<|
 .o none (.ld 15 4 true (.t 14))<|
 .o none (.alloc 9 4 54 (.agg [(.bool false),.nilS,.nilS,.nilS]))<|
 .o none (.st 4 (.t 9) (.t 15)) .nil))<| .seq (.rg (.o none (.fld 16 3 (.t 9))<|
 .o none (.ld 17 1 false (.t 16))<|
 .o none (.mv 18 (.t 1))<|
 .o none (.call (some 19) false (.c (.fn 51 [] [])) [(.t 17),(.t 18)])<|
 .o none (.mv 20 (.t 2))<|
 .o none (.bin 21 .eql false (.t 19) (.t 20)) .nil))<| .cond (.t 21) (.rg (.o none (.mv 22 (.t 7))<|
 .o none (.fld 23 0 (.t 9))<|
 .o none (.ld 24 3 true (.t 23))<|
 .o none (.fld 25 3 (.t 9))<|
 .o none (.ld 26 1 false (.t 25))<|
 .o none (.mv 27 (.t 1))<|
 .o none (.call (some 28) true (.c (.fn 120 [] [])) [(.t 26),(.t 27)])<|
 .o none (.bld 29 [(.bool false),.nilS,.nilS,.nilS] [(0,3,(.t 24)),(3,1,(.t 28))])<|
 .o none (.bs 30 4 54 [(.t 29)])<|
 .o none (.app 31 4 80 54 (.t 22) (.t 30))<|
 .o none (.mv 7 (.t 31)) .nil)) (.skip)))<| .rg (.o none (.bin 32 .add false (.t 12) (.c (.int .i64 1)))<|
 .o none (.mv 12 (.t 32)) .nil))))<| .seq (.rg (.o none (.mv 33 (.t 7))<|
 .o none (.mv 6 (.t 33)) .nil))<| .ret⟩
theorem Qaol:Qe Tryz.prog Tryz.f72=some c72:=by kernel_rfl
def c73:SFn:=⟨32,[.t 6],.seq (.rg (.o none (.mv 6 (.c .nilS)) .nil))<| .seq (.seq (.rg (.o none (.mv 8 (.t 1))<|
 .o none (.bin 9 .lss false (.t 8) (.c (.int .i64 0)))<|
 .o none (.mv 10 (.t 9))<|
 .o (some (10,false)) (.mv 11 (.t 1))<|
 .o (some (10,false)) (.bin 12 .geq false (.t 11) (.c (.int .i64 64)))<|
 .o none (.pick 13 (.t 10) (.c (.bool true)) (.t 12))<|
 .o none (.mv 14 (.t 13))<|
 .o (some (14,false)) (.mv 15 (.t 2))<|
 .o (some (14,false)) (.bin 16 .leq false (.t 15) (.c (.int .i64 0)))<|
 .o none (.pick 17 (.t 14) (.c (.bool true)) (.t 16)) .nil))<| .cond (.t 17) (.seq (.rg (.o none (.mv 18 (.t 0))<|
 .o none (.mv 6 (.t 18)) .nil))<| .ret) (.skip))<| .seq (.rg (.o none (.mv 19 (.t 1))<|
 .o none (.bin 20 .add false (.t 19) (.c (.int .i64 1)))<|
 .o none (.mk 21 1 8 3 (.int .i64 0) (.t 20) (.t 20))<|
 .o none (.mv 7 (.t 21)) .nil))<| .seq (.rg (.o none (.mv 22 (.t 7))<|
 .o none (.mv 23 (.t 1))<|
 .o none (.mv 24 (.t 2))<|
 .o none (.idx 25 1 (.t 22) (.t 23))<|
 .o none (.st 1 (.t 25) (.t 24)) .nil))<| .seq (.rg (.o none (.mv 26 (.t 0))<|
 .o none (.call (some 27) false (.c (.fn 32 [] [])) [(.c (.int .i64 1))])<|
 .o none (.mv 28 (.t 7))<|
 .o none (.bld 29 [(.bool false),.nilS,.nilS,.nilS] [(0,3,(.t 27)),(3,1,(.t 28))])<|
 .o none (.bs 30 4 54 [(.t 29)])<|
 .o none (.call (some 31) false (.c (.fn 12 [] [])) [(.t 26),(.t 30)])<|
 .o none (.mv 6 (.t 31)) .nil))<| .ret⟩
theorem Qaom:Qe Tryz.prog Tryz.f73=some c73:=by kernel_rfl
def c37:SFn:=⟨15,[.t 2],.seq (.rg (.o none (.mv 2 (.c .nilS)) .nil))<| .seq (.rg (.o none (.mv 4 (.t 0))<|
 .o none (.call (some 5) false (.c (.fn 16 [] [])) [(.t 4)])<|
 .o none (.mv 3 (.t 5)) .nil))<| .seq (.seq (.rg (.o none (.mv 6 (.t 3))<|
 .o none (.bin 7 .lss false (.t 6) (.c (.int .i64 0))) .nil))<| .cond (.t 7) (.seq (.rg (.o none (.mv 8 (.t 0))<|
 .o none (.mv 2 (.t 8)) .nil))<| .ret) (.skip))<| .seq (.rg (.o none (.mv 9 (.t 0))<|
 .o none (.mv 10 (.t 3))<|
 .o none (.mv 11 (.t 0))<|
 .o none (.mv 12 (.t 3))<|
 .o none (.call (some 13) false (.c (.fn 17 [] [])) [(.t 11),(.t 12)])<|
 .o none (.call (some 14) false (.c (.fn 72 [] [])) [(.t 9),(.t 10),(.t 13)])<|
 .o none (.mv 2 (.t 14)) .nil))<| .ret⟩
theorem Qaon:Qe Tryz.prog Tryz.f37=some c37:=by kernel_rfl
def c35:SFn:=⟨93,[.t 6,.t 7,.t 8,.t 9],.seq (.rg (.o none (.mv 6 (.c .nilS))<|
 .o none (.mv 7 (.c .nilS))<|
 .o none (.mv 8 (.c (.int .i64 0)))<|
 .o none (.mv 9 (.c (.int .i64 0))) .nil))<| .seq (.block 0 (.seq (.rg (.o none (.mv 15 (.t 2))<|
 .o none (.bin 16 .lss false (.t 15) (.c (.int .i64 0)))<|
 .o none (.mv 17 (.t 16))<|
 .o (some (17,false)) (.mv 18 (.t 2))<|
 .o (some (17,false)) (.bin 19 .geq false (.t 18) (.c (.int .i64 64)))<|
 .o none (.pick 20 (.t 17) (.c (.bool true)) (.t 19))<|
 .o none (.mv 14 (.t 20)) .nil))<| .cond (.t 14) (.seq (.rg (.o none (.mv 6 (.c .nilS))<|
 .o none (.mv 7 (.c .nilS))<|
 .o none (.mv 8 (.c (.int .i64 0)))<|
 .o none (.mv 9 (.c (.int .i64 2))) .nil))<| .ret) (.seq (.rg (.o none (.mv 22 (.t 1))<|
 .o none (.len 23 (.t 22))<|
 .o none (.bin 24 .eql false (.t 23) (.c (.int .i64 0)))<|
 .o none (.mv 21 (.t 24)) .nil))<| .cond (.t 21) (.seq (.rg (.o none (.mv 6 (.c .nilS))<|
 .o none (.mv 7 (.c .nilS))<|
 .o none (.mv 8 (.c (.int .i64 0)))<|
 .o none (.mv 9 (.c (.int .i64 3))) .nil))<| .ret) (.seq (.rg (.o none (.mv 26 (.t 0))<|
 .o none (.call (some 27) false (.c (.fn 71 [] [])) [(.t 26)])<|
 .o none (.mv 25 (.t 27)) .nil))<| .cond (.t 25) (.seq (.rg (.o none (.mv 6 (.c .nilS))<|
 .o none (.mv 7 (.c .nilS))<|
 .o none (.mv 8 (.c (.int .i64 0)))<|
 .o none (.mv 9 (.c (.int .i64 4))) .nil))<| .ret) (.skip)))))<| .seq (.rg (.o none (.mv 28 (.t 1))<|
 .o none (.mv 29 (.t 2))<|
 .o none (.call (some 30) false (.c (.fn 17 [] [])) [(.t 28),(.t 29)])<|
 .o none (.mv 10 (.t 30)) .nil))<| .seq (.rg (.o none (.mv 31 (.t 1))<|
 .o none (.mv 32 (.t 2))<|
 .o none (.mv 33 (.t 10))<|
 .o none (.call (some 34) false (.c (.fn 72 [] [])) [(.t 31),(.t 32),(.t 33)])<|
 .o none (.mv 11 (.t 34)) .nil))<| .seq (.rg (.o none (.mv 35 (.t 0))<|
 .o none (.mv 7 (.t 35)) .nil))<| .seq (.block 1 (.loop (.seq (.seq (.rg (.o none (.mv 36 (.t 7))<|
 .o none (.len 37 (.t 36))<|
 .o none (.bin 38 .gtr false (.t 37) (.c (.int .i64 0)))<|
 .o none (.mv 39 (.t 38))<|
 .o (some (39,true)) (.mv 40 (.t 7))<|
 .o (some (39,true)) (.mv 41 (.t 2))<|
 .o (some (39,true)) (.call (some 42) false (.c (.fn 17 [] [])) [(.t 40),(.t 41)])<|
 .o (some (39,true)) (.mv 43 (.t 10))<|
 .o (some (39,true)) (.bin 44 .geq false (.t 42) (.t 43))<|
 .o none (.pick 45 (.t 39) (.t 44) (.c (.bool false))) .nil))<| .cond (.t 45) (.skip) (.exit 1))<| .block 2 (.seq (.rg (.o none (.mv 46 (.t 7))<|
 .o none (.mv 47 (.t 2))<|
 .o none (.call (some 48) false (.c (.fn 17 [] [])) [(.t 46),(.t 47)])<|
 .o none (.mv 12 (.t 48)) .nil))<| .seq (.rg (.o none (.mv 49 (.t 7))<|
 .o none (.mv 50 (.t 2))<|
 .o none (.mv 51 (.t 12))<|
 .o none (.call (some 52) false (.c (.fn 72 [] [])) [(.t 49),(.t 50),(.t 51)])<|
 .o none (.mv 53 (.t 2))<|
 .o none (.mv 54 (.t 12))<|
 .o none (.mv 55 (.t 10))<|
 .o none (.bin 56 .sub false (.t 54) (.t 55))<|
 .o none (.call (some 57) false (.c (.fn 73 [] [])) [(.t 52),(.t 53),(.t 56)])<|
 .o none (.mv 13 (.t 57)) .nil))<| .seq (.rg (.o none (.mv 58 (.t 11))<|
 .o none (.mv 59 (.t 6))<|
 .o none (.call (some 60) false (.c (.fn 12 [] [])) [(.t 58),(.t 59)])<|
 .o none (.mv 61 (.t 13))<|
 .o none (.call (some 62) false (.c (.fn 15 [] [])) [(.t 60),(.t 61)])<|
 .o none (.mv 6 (.t 62)) .nil))<| .seq (.rg (.o none (.mv 63 (.t 11))<|
 .o none (.mv 64 (.t 7))<|
 .o none (.call (some 65) false (.c (.fn 12 [] [])) [(.t 63),(.t 64)])<|
 .o none (.mv 66 (.t 13))<|
 .o none (.mv 67 (.t 1))<|
 .o none (.call (some 68) false (.c (.fn 12 [] [])) [(.t 66),(.t 67)])<|
 .o none (.call (some 69) false (.c (.fn 74 [] [])) [(.t 65),(.t 68)])<|
 .o none (.mv 7 (.t 69)) .nil))<| .seq (.rg (.o none (.mv 70 (.t 8))<|
 .o none (.bin 71 .add false (.t 70) (.c (.int .i64 1)))<|
 .o none (.mv 8 (.t 71)) .nil))<| .seq (.rg (.o none (.mv 72 (.t 6))<|
 .o none (.call (some 73) false (.c (.fn 71 [] [])) [(.t 72)])<|
 .o none (.mv 74 (.t 73))<|
 .o (some (74,false)) (.mv 75 (.t 7))<|
 .o (some (74,false)) (.call (some 76) false (.c (.fn 71 [] [])) [(.t 75)])<|
 .o none (.pick 77 (.t 74) (.c (.bool true)) (.t 76))<|
 .o none (.mv 78 (.t 77))<|
 .o (some (78,false)) (.mv 79 (.t 7))<|
 .o (some (78,false)) (.mv 80 (.t 2))<|
 .o (some (78,false)) (.call (some 81) false (.c (.fn 17 [] [])) [(.t 79),(.t 80)])<|
 .o (some (78,false)) (.mv 82 (.t 12))<|
 .o (some (78,false)) (.bin 83 .geq false (.t 81) (.t 82))<|
 .o (some (78,false)) (.mv 84 (.t 83))<|
 .o (some (84,true)) (.mv 85 (.t 7))<|
 .o (some (84,true)) (.len 86 (.t 85))<|
 .o (some (84,true)) (.bin 87 .gtr false (.t 86) (.c (.int .i64 0)))<|
 .o (some (78,false)) (.pick 88 (.t 84) (.t 87) (.c (.bool false)))<|
 .o none (.pick 89 (.t 78) (.c (.bool true)) (.t 88)) .nil))<| .cond (.t 89) (.seq (.rg (.o none (.mv 6 (.c .nilS))<|
 .o none (.mv 7 (.c .nilS))<|
 .o none (.mv 8 (.c (.int .i64 0)))<|
 .o none (.mv 9 (.c (.int .i64 4))) .nil))<| .ret) (.skip)))))<| .seq (.rg (.o none (.mv 90 (.t 6))<|
 .o none (.mv 91 (.t 7))<|
 .o none (.mv 92 (.t 8))<|
 .o none (.mv 6 (.t 90))<|
 .o none (.mv 7 (.t 91))<|
 .o none (.mv 8 (.t 92))<|
 .o none (.mv 9 (.c (.int .i64 0))) .nil))<| .ret⟩
theorem Qaoo:Qe Tryz.prog Tryz.f35=some c35:=by kernel_rfl
def c141:SFn:=⟨67,[.t 2,.cell 3 3 true],.seq (.rg (.o none (.mv 2 (.c .nilS))<|
 .o none (.alloc 3 3 51 (.agg [(.bool false),.nilS,.nilS])) .nil))<| .seq (.seq (.rg (.o none (.mv 14 (.t 0))<|
 .o none (.len 15 (.t 14))<|
 .o none (.bin 16 .eql false (.t 15) (.c (.int .i64 0))) .nil))<| .cond (.t 16) (.seq (.rg (.o none (.call (some 17) false (.c (.fn 32 [] [])) [(.c (.int .i64 1))])<|
 .o none (.mv 2 (.c .nilS))<|
 .o none (.st 3 (.t 3) (.t 17)) .nil))<| .ret) (.skip))<| .seq (.rg (.o none (.mv 4 (.c .nilS)) .nil))<| .seq (.rg (.o none (.call (some 18) false (.c (.fn 113 [] [])) [(.c (.int .u64 1))])<|
 .o none (.mv 5 (.t 18)) .nil))<| .seq (.seq (.rg (.o none (.mv 19 (.t 0))<|
 .o none (.len 20 (.t 19))<|
 .o none (.mv 21 (.c (.int .i64 0))) .nil))<| .block 0 (.loop (.seq (.rg (.o none (.bin 22 .lss false (.t 21) (.t 20)) .nil))<| .seq (.cond (.t 22) (.skip) (.exit 0))<| .seq (.block 1 (.seq (.rg (.o none (.idx 23 4 (.t 19) (.t 21))<|
 .o none (.ld 24 4 true (.t 23))<|
 .o none (.alloc 7 4 54 (.agg [(.bool false),.nilS,.nilS,.nilS]))<|
 .o none (.st 4 (.t 7) (.t 24)) .nil))<| .seq (.rg (.o none (.mv 25 (.t 4))<|
 .o none (.fld 26 0 (.t 7))<|
 .o none (.fld 27 0 (.t 26))<|
 .o none (.fld 28 1 (.t 27))<|
 .o none (.ld 29 1 false (.t 28))<|
 .o none (.call (some 30) false (.c (.fn 117 [] [])) [(.t 25),(.t 29)])<|
 .o none (.mv 4 (.t 30)) .nil))<| .seq (.rg (.o none (.mv 31 (.t 5))<|
 .o none (.fld 32 0 (.t 7))<|
 .o none (.fld 33 2 (.t 32))<|
 .o none (.ld 34 1 false (.t 33))<|
 .o none (.call (some 35) false (.c (.fn 117 [] [])) [(.t 31),(.t 34)])<|
 .o none (.mv 8 (.t 35)) .nil))<| .seq (.rg (.o none (.fld 37 0 (.t 7))<|
 .o none (.fld 38 2 (.t 37))<|
 .o none (.ld 39 1 false (.t 38))<|
 .o none (.mv 40 (.t 8))<|
 .o none (.call (some 41) false (.c (.fn 150 [] [])) [(.t 39),(.t 40)])<|
 .o none (.mv 36 (.t 41))<|
 .o none (.ext 42 (.t 36) 0)<|
 .o none (.ext 43 (.t 36) 1)<|
 .o none (.ext 44 (.t 36) 2)<|
 .o none (.mv 9 (.t 42))<|
 .o none (.mv 10 (.t 43))<|
 .o none (.mv 11 (.t 44)) .nil))<| .rg (.o none (.mv 45 (.t 5))<|
 .o none (.mv 46 (.t 9))<|
 .o none (.call (some 47) false (.c (.fn 127 [] [])) [(.t 45),(.t 46)])<|
 .o none (.mv 5 (.t 47)) .nil)))<| .rg (.o none (.bin 48 .add false (.t 21) (.c (.int .i64 1)))<|
 .o none (.mv 21 (.t 48)) .nil))))<| .seq (.rg (.o none (.mv 50 (.t 0))<|
 .o none (.idx 51 4 (.t 50) (.c (.int .i64 0)))<|
 .o none (.fld 52 0 (.t 51))<|
 .o none (.ld 53 3 true (.t 52))<|
 .o none (.call (some 54) false (.c (.fn 69 [] [])) [(.t 53)])<|
 .o none (.bin 55 .lss false (.t 54) (.c (.int .i64 0)))<|
 .o none (.mv 56 (.t 5))<|
 .o none (.bld 57 [(.bool false),.nilS] [(0,1,(.t 55)),(1,1,(.t 56))])<|
 .o none (.mv 58 (.t 4))<|
 .o none (.bld 59 [(.bool false),.nilS] [(1,1,(.t 58))])<|
 .o none (.call (some 60) false (.c (.fn 160 [] [])) [(.t 57),(.t 59)])<|
 .o none (.mv 49 (.t 60))<|
 .o none (.ext 61 (.t 49) 0)<|
 .o none (.ext 62 (.t 49) 1)<|
 .o none (.alloc 12 3 51 (.agg [(.bool false),.nilS,.nilS]))<|
 .o none (.st 3 (.t 12) (.t 61))<|
 .o none (.mv 13 (.t 62)) .nil))<| .seq (.rg (.o none (.mv 63 (.t 0))<|
 .o none (.ld 64 3 true (.t 12))<|
 .o none (.ld 66 3 true (.t 12))<|
 .o none (.call (some 65) true (.c (.fn 142 [] [])) [(.t 63),(.t 64)])<|
 .o none (.mv 2 (.t 65))<|
 .o none (.st 3 (.t 3) (.t 66)) .nil))<| .ret⟩
theorem Qajl:Qe Tryz.prog Tryz.f141=some c141:=by kernel_rfl
def c40:SFn:=⟨11,[.t 2],.seq (.rg (.o none (.mv 2 (.c (.int .i64 0))) .nil))<| .seq (.seq (.rg (.o none (.mv 3 (.t 0))<|
 .o none (.len 4 (.t 3))<|
 .o none (.bin 5 .eql false (.t 4) (.c (.int .i64 0))) .nil))<| .cond (.t 5) (.seq (.rg (.o none (.mv 2 (.c (.int .i64 (-1)))) .nil))<| .ret) (.skip))<| .seq (.rg (.o none (.mv 6 (.t 0))<|
 .o none (.idx 7 4 (.t 6) (.c (.int .i64 0)))<|
 .o none (.fld 8 3 (.t 7))<|
 .o none (.ld 9 1 false (.t 8))<|
 .o none (.call (some 10) false (.c (.fn 81 [] [])) [(.t 9)])<|
 .o none (.mv 2 (.t 10)) .nil))<| .ret⟩
theorem Q9x:Qe Tryz.prog Tryz.f40=some c40:=by kernel_rfl
def c46:SFn:=⟨23,[.t 4],.seq (.rg (.o none (.mv 4 (.c (.int .i64 0))) .nil))<| .seq (.rg (.o none (.mv 5 (.c (.int .i64 (-1)))) .nil))<| .seq (.seq (.rg (.o none (.mv 6 (.c (.int .i64 0))) .nil))<| .block 0 (.loop (.seq (.seq (.rg (.o none (.mv 7 (.t 6))<|
 .o none (.mv 8 (.t 0))<|
 .o none (.len 9 (.t 8))<|
 .o none (.bin 10 .lss false (.t 7) (.t 9)) .nil))<| .cond (.t 10) (.skip) (.exit 0))<| .seq (.block 1 (.rg (.o none (.mv 13 (.t 5))<|
 .o none (.mv 14 (.t 0))<|
 .o none (.mv 15 (.t 6))<|
 .o none (.idx 16 4 (.t 14) (.t 15))<|
 .o none (.fld 17 3 (.t 16))<|
 .o none (.ld 18 1 false (.t 17))<|
 .o none (.mv 19 (.t 1))<|
 .o none (.call (some 20) false (.c (.fn 87 [] [])) [(.t 18),(.t 19)])<|
 .o none (.mx 21 (.t 13) (.t 20))<|
 .o none (.mv 5 (.t 21)) .nil)))<| .rg (.o none (.mv 11 (.t 6))<|
 .o none (.bin 12 .add false (.t 11) (.c (.int .i64 1)))<|
 .o none (.mv 6 (.t 12)) .nil))))<| .seq (.rg (.o none (.mv 22 (.t 5))<|
 .o none (.mv 4 (.t 22)) .nil))<| .ret⟩
theorem Qaop:Qe Tryz.prog Tryz.f46=some c46:=by kernel_rfl
def c45:SFn:=⟨42,[.t 6],.seq (.rg (.o none (.mv 6 (.c .nilS)) .nil))<| .seq (.rg (.o none (.mv 7 (.c .nilS)) .nil))<| .seq (.seq (.rg (.o none (.mv 8 (.c (.int .i64 0))) .nil))<| .block 0 (.loop (.seq (.seq (.rg (.o none (.mv 9 (.t 8))<|
 .o none (.mv 10 (.t 0))<|
 .o none (.len 11 (.t 10))<|
 .o none (.bin 12 .lss false (.t 9) (.t 11)) .nil))<| .cond (.t 12) (.skip) (.exit 0))<| .seq (.block 1 (.seq (.rg (.o none (.mv 15 (.t 0))<|
 .o none (.mv 16 (.t 8))<|
 .o none (.idx 17 4 (.t 15) (.t 16))<|
 .o none (.fld 18 3 (.t 17))<|
 .o none (.ld 19 1 false (.t 18))<|
 .o none (.mv 20 (.t 1))<|
 .o none (.call (some 21) false (.c (.fn 87 [] [])) [(.t 19),(.t 20)])<|
 .o none (.mv 22 (.t 2))<|
 .o none (.bin 23 .eql false (.t 21) (.t 22)) .nil))<| .cond (.t 23) (.rg (.o none (.mv 24 (.t 7))<|
 .o none (.mv 25 (.t 0))<|
 .o none (.mv 26 (.t 8))<|
 .o none (.idx 27 4 (.t 25) (.t 26))<|
 .o none (.fld 28 0 (.t 27))<|
 .o none (.ld 29 3 true (.t 28))<|
 .o none (.mv 30 (.t 0))<|
 .o none (.mv 31 (.t 8))<|
 .o none (.idx 32 4 (.t 30) (.t 31))<|
 .o none (.fld 33 3 (.t 32))<|
 .o none (.ld 34 1 false (.t 33))<|
 .o none (.mv 35 (.t 1))<|
 .o none (.call (some 36) true (.c (.fn 88 [] [])) [(.t 34),(.t 35)])<|
 .o none (.bld 37 [(.bool false),.nilS,.nilS,.nilS] [(0,3,(.t 29)),(3,1,(.t 36))])<|
 .o none (.bs 38 4 54 [(.t 37)])<|
 .o none (.app 39 4 80 54 (.t 24) (.t 38))<|
 .o none (.mv 7 (.t 39)) .nil)) (.skip)))<| .rg (.o none (.mv 13 (.t 8))<|
 .o none (.bin 14 .add false (.t 13) (.c (.int .i64 1)))<|
 .o none (.mv 8 (.t 14)) .nil))))<| .seq (.rg (.o none (.mv 40 (.t 7))<|
 .o none (.call (some 41) false (.c (.fn 89 [] [])) [(.t 40)])<|
 .o none (.mv 6 (.t 41)) .nil))<| .ret⟩
theorem Qaoq:Qe Tryz.prog Tryz.f45=some c45:=by kernel_rfl
def c88:SFn:=⟨28,[.t 4],.seq (.rg (.o none (.mv 4 (.c .nilS)) .nil))<| .seq (.rg (.o none (.mv 5 (.c .nilS)) .nil))<| .seq (.seq (.rg (.o none (.mv 6 (.c (.int .i64 0))) .nil))<| .block 0 (.loop (.seq (.seq (.rg (.o none (.mv 7 (.t 6))<|
 .o none (.mv 8 (.t 0))<|
 .o none (.len 9 (.t 8))<|
 .o none (.bin 10 .lss false (.t 7) (.t 9)) .nil))<| .cond (.t 10) (.skip) (.exit 0))<| .seq (.block 1 (.seq (.rg (.o none (.mv 13 (.t 6))<|
 .o none (.mv 14 (.t 1))<|
 .o none (.bin 15 .eql false (.t 13) (.t 14)) .nil))<| .cond (.t 15) (.rg (.o none (.mv 16 (.t 5))<|
 .o none (.bs 17 1 3 [(.c (.int .i64 0))])<|
 .o none (.app 18 1 8 3 (.t 16) (.t 17))<|
 .o none (.mv 5 (.t 18)) .nil)) (.rg (.o none (.mv 19 (.t 5))<|
 .o none (.mv 20 (.t 0))<|
 .o none (.mv 21 (.t 6))<|
 .o none (.idx 22 1 (.t 20) (.t 21))<|
 .o none (.ld 23 1 false (.t 22))<|
 .o none (.bs 24 1 3 [(.t 23)])<|
 .o none (.app 25 1 8 3 (.t 19) (.t 24))<|
 .o none (.mv 5 (.t 25)) .nil))))<| .rg (.o none (.mv 11 (.t 6))<|
 .o none (.bin 12 .add false (.t 11) (.c (.int .i64 1)))<|
 .o none (.mv 6 (.t 12)) .nil))))<| .seq (.rg (.o none (.mv 26 (.t 5))<|
 .o none (.call (some 27) false (.c (.fn 135 [] [])) [(.t 26)])<|
 .o none (.mv 4 (.t 27)) .nil))<| .ret⟩
theorem Qaor:Qe Tryz.prog Tryz.f88=some c88:=by kernel_rfl
def c80:SFn:=⟨26,[.t 4],.seq (.rg (.o none (.mv 4 (.c .nilS)) .nil))<| .seq (.seq (.rg (.o none (.mv 6 (.t 1))<|
 .o none (.bin 7 .eql false (.t 6) (.c (.int .i64 0)))<|
 .o none (.mv 8 (.t 7))<|
 .o (some (8,false)) (.mv 9 (.t 0))<|
 .o (some (8,false)) (.bin 10 .lss false (.t 9) (.c (.int .i64 0)))<|
 .o none (.pick 11 (.t 8) (.c (.bool true)) (.t 10)) .nil))<| .cond (.t 11) (.seq (.rg (.o none (.call (some 12) false (.c (.fn 44 [] [])) [(.c (.int .i64 1))])<|
 .o none (.call (some 13) false (.c (.fn 31 [] [])) [(.t 12)])<|
 .o none (.mv 4 (.t 13)) .nil))<| .ret) (.skip))<| .seq (.rg (.o none (.mv 14 (.t 0))<|
 .o none (.bin 15 .add false (.t 14) (.c (.int .i64 1)))<|
 .o none (.mk 16 1 8 3 (.int .i64 0) (.t 15) (.t 15))<|
 .o none (.mv 5 (.t 16)) .nil))<| .seq (.rg (.o none (.mv 17 (.t 5))<|
 .o none (.mv 18 (.t 0))<|
 .o none (.mv 19 (.t 1))<|
 .o none (.idx 20 1 (.t 17) (.t 18))<|
 .o none (.st 1 (.t 20) (.t 19)) .nil))<| .seq (.rg (.o none (.call (some 21) false (.c (.fn 44 [] [])) [(.c (.int .i64 1))])<|
 .o none (.mv 22 (.t 5))<|
 .o none (.bld 23 [(.bool false),.nilS,.nilS,.nilS] [(0,3,(.t 21)),(3,1,(.t 22))])<|
 .o none (.bs 24 4 54 [(.t 23)])<|
 .o none (.call (some 25) false (.c (.fn 89 [] [])) [(.t 24)])<|
 .o none (.mv 4 (.t 25)) .nil))<| .ret⟩
theorem Qaos:Qe Tryz.prog Tryz.f80=some c80:=by kernel_rfl
def c14:SFn:=⟨15,[.t 2],.seq (.rg (.o none (.mv 2 (.c .nilS)) .nil))<| .seq (.rg (.o none (.mv 4 (.t 0))<|
 .o none (.call (some 5) false (.c (.fn 40 [] [])) [(.t 4)])<|
 .o none (.mv 3 (.t 5)) .nil))<| .seq (.seq (.rg (.o none (.mv 6 (.t 3))<|
 .o none (.bin 7 .lss false (.t 6) (.c (.int .i64 0))) .nil))<| .cond (.t 7) (.seq (.rg (.o none (.mv 8 (.t 0))<|
 .o none (.mv 2 (.t 8)) .nil))<| .ret) (.skip))<| .seq (.rg (.o none (.mv 9 (.t 0))<|
 .o none (.mv 10 (.t 3))<|
 .o none (.mv 11 (.t 0))<|
 .o none (.mv 12 (.t 3))<|
 .o none (.call (some 13) false (.c (.fn 46 [] [])) [(.t 11),(.t 12)])<|
 .o none (.call (some 14) false (.c (.fn 45 [] [])) [(.t 9),(.t 10),(.t 13)])<|
 .o none (.mv 2 (.t 14)) .nil))<| .ret⟩
theorem Qaot:Qe Tryz.prog Tryz.f14=some c14:=by kernel_rfl
def c39:SFn:=⟨82,[.t 6,.t 7,.t 8,.t 9],.seq (.rg (.o none (.mv 6 (.c .nilS))<|
 .o none (.mv 7 (.c .nilS))<|
 .o none (.mv 8 (.c (.int .i64 0)))<|
 .o none (.mv 9 (.c (.int .i64 0))) .nil))<| .seq (.seq (.rg (.o none (.mv 17 (.t 2))<|
 .o none (.bin 18 .lss false (.t 17) (.c (.int .i64 0)))<|
 .o none (.mv 19 (.t 18))<|
 .o (some (19,false)) (.mv 20 (.t 2))<|
 .o (some (19,false)) (.bin 21 .geq false (.t 20) (.c (.int .i64 64)))<|
 .o none (.pick 22 (.t 19) (.c (.bool true)) (.t 21)) .nil))<| .cond (.t 22) (.seq (.rg (.o none (.mv 6 (.c .nilS))<|
 .o none (.mv 7 (.c .nilS))<|
 .o none (.mv 8 (.c (.int .i64 0)))<|
 .o none (.mv 9 (.c (.int .i64 2))) .nil))<| .ret) (.skip))<| .seq (.seq (.rg (.o none (.mv 23 (.t 1))<|
 .o none (.len 24 (.t 23))<|
 .o none (.bin 25 .eql false (.t 24) (.c (.int .i64 0))) .nil))<| .cond (.t 25) (.seq (.rg (.o none (.mv 6 (.c .nilS))<|
 .o none (.mv 7 (.c .nilS))<|
 .o none (.mv 8 (.c (.int .i64 0)))<|
 .o none (.mv 9 (.c (.int .i64 3))) .nil))<| .ret) (.skip))<| .seq (.seq (.rg (.o none (.mv 26 (.t 0))<|
 .o none (.call (some 27) false (.c (.fn 41 [] [])) [(.t 26)]) .nil))<| .cond (.t 27) (.seq (.rg (.o none (.mv 6 (.c .nilS))<|
 .o none (.mv 7 (.c .nilS))<|
 .o none (.mv 8 (.c (.int .i64 0)))<|
 .o none (.mv 9 (.c (.int .i64 4))) .nil))<| .ret) (.skip))<| .seq (.rg (.o none (.mv 28 (.t 1))<|
 .o none (.mv 29 (.t 2))<|
 .o none (.call (some 30) false (.c (.fn 46 [] [])) [(.t 28),(.t 29)])<|
 .o none (.mv 10 (.t 30)) .nil))<| .seq (.rg (.o none (.mv 31 (.t 1))<|
 .o none (.mv 32 (.t 2))<|
 .o none (.mv 33 (.t 10))<|
 .o none (.call (some 34) false (.c (.fn 45 [] [])) [(.t 31),(.t 32),(.t 33)])<|
 .o none (.mv 11 (.t 34)) .nil))<| .seq (.rg (.o none (.mv 12 (.c .nilS)) .nil))<| .seq (.rg (.o none (.mv 35 (.t 0))<|
 .o none (.mv 13 (.t 35)) .nil))<| .seq (.rg (.o none (.mv 14 (.c (.int .i64 0))) .nil))<| .seq (.block 0 (.loop (.seq (.seq (.rg (.o none (.mv 36 (.t 13))<|
 .o none (.len 37 (.t 36))<|
 .o none (.bin 38 .gtr false (.t 37) (.c (.int .i64 0)))<|
 .o none (.mv 39 (.t 38))<|
 .o (some (39,true)) (.mv 40 (.t 13))<|
 .o (some (39,true)) (.mv 41 (.t 2))<|
 .o (some (39,true)) (.call (some 42) false (.c (.fn 46 [] [])) [(.t 40),(.t 41)])<|
 .o (some (39,true)) (.mv 43 (.t 10))<|
 .o (some (39,true)) (.bin 44 .geq false (.t 42) (.t 43))<|
 .o none (.pick 45 (.t 39) (.t 44) (.c (.bool false))) .nil))<| .cond (.t 45) (.skip) (.exit 0))<| .block 1 (.seq (.rg (.o none (.mv 46 (.t 13))<|
 .o none (.mv 47 (.t 2))<|
 .o none (.call (some 48) false (.c (.fn 46 [] [])) [(.t 46),(.t 47)])<|
 .o none (.mv 15 (.t 48)) .nil))<| .seq (.rg (.o none (.mv 49 (.t 13))<|
 .o none (.mv 50 (.t 2))<|
 .o none (.mv 51 (.t 15))<|
 .o none (.call (some 52) false (.c (.fn 45 [] [])) [(.t 49),(.t 50),(.t 51)])<|
 .o none (.mv 53 (.t 2))<|
 .o none (.mv 54 (.t 15))<|
 .o none (.mv 55 (.t 10))<|
 .o none (.bin 56 .sub false (.t 54) (.t 55))<|
 .o none (.call (some 57) false (.c (.fn 80 [] [])) [(.t 53),(.t 56)])<|
 .o none (.call (some 58) false (.c (.fn 30 [] [])) [(.t 52),(.t 57)])<|
 .o none (.mv 16 (.t 58)) .nil))<| .seq (.rg (.o none (.mv 59 (.t 11))<|
 .o none (.mv 60 (.t 12))<|
 .o none (.call (some 61) false (.c (.fn 30 [] [])) [(.t 59),(.t 60)])<|
 .o none (.mv 62 (.t 16))<|
 .o none (.call (some 63) false (.c (.fn 29 [] [])) [(.t 61),(.t 62)])<|
 .o none (.mv 12 (.t 63)) .nil))<| .seq (.rg (.o none (.mv 64 (.t 11))<|
 .o none (.mv 65 (.t 13))<|
 .o none (.call (some 66) false (.c (.fn 30 [] [])) [(.t 64),(.t 65)])<|
 .o none (.mv 67 (.t 16))<|
 .o none (.mv 68 (.t 1))<|
 .o none (.call (some 69) false (.c (.fn 30 [] [])) [(.t 67),(.t 68)])<|
 .o none (.call (some 70) false (.c (.fn 28 [] [])) [(.t 66),(.t 69)])<|
 .o none (.mv 13 (.t 70)) .nil))<| .seq (.rg (.o none (.mv 71 (.t 14))<|
 .o none (.bin 72 .add false (.t 71) (.c (.int .i64 1)))<|
 .o none (.mv 14 (.t 72)) .nil))<| .seq (.rg (.o none (.mv 73 (.t 12))<|
 .o none (.call (some 74) false (.c (.fn 41 [] [])) [(.t 73)])<|
 .o none (.mv 75 (.t 74))<|
 .o (some (75,false)) (.mv 76 (.t 13))<|
 .o (some (75,false)) (.call (some 77) false (.c (.fn 41 [] [])) [(.t 76)])<|
 .o none (.pick 78 (.t 75) (.c (.bool true)) (.t 77)) .nil))<| .cond (.t 78) (.seq (.rg (.o none (.mv 6 (.c .nilS))<|
 .o none (.mv 7 (.c .nilS))<|
 .o none (.mv 8 (.c (.int .i64 0)))<|
 .o none (.mv 9 (.c (.int .i64 4))) .nil))<| .ret) (.skip)))))<| .seq (.rg (.o none (.mv 79 (.t 12))<|
 .o none (.mv 80 (.t 13))<|
 .o none (.mv 81 (.t 14))<|
 .o none (.mv 6 (.t 79))<|
 .o none (.mv 7 (.t 80))<|
 .o none (.mv 8 (.t 81))<|
 .o none (.mv 9 (.c (.int .i64 0))) .nil))<| .ret⟩
theorem Qaou:Qe Tryz.prog Tryz.f39=some c39:=by kernel_rfl
def c81:SFn:=⟨6,[.t 2],.seq (.rg (.o none (.mv 2 (.c (.int .i64 0))) .nil))<| .seq (.rg (.o none (.mv 3 (.t 0))<|
 .o none (.len 4 (.t 3))<|
 .o none (.bin 5 .sub false (.t 4) (.c (.int .i64 1)))<|
 .o none (.mv 2 (.t 5)) .nil))<| .ret⟩
theorem Qaov:Qe Tryz.prog Tryz.f81=some c81:=by kernel_rfl
def c26:SFn:=⟨19,[.t 2],.seq (.rg (.o none (.mv 2 (.c .nilS)) .nil))<| .seq (.seq (.rg (.o none (.mv 4 (.t 0))<|
 .o none (.bin 5 .lss false (.t 4) (.c (.int .i64 0)))<|
 .o none (.mv 6 (.t 5))<|
 .o (some (6,false)) (.mv 7 (.t 0))<|
 .o (some (6,false)) (.bin 8 .geq false (.t 7) (.c (.int .i64 64)))<|
 .o none (.pick 9 (.t 6) (.c (.bool true)) (.t 8)) .nil))<| .cond (.t 9) (.seq (.rg (.o none (.mv 2 (.c .nilS)) .nil))<| .ret) (.skip))<| .seq (.rg (.o none (.mv 10 (.t 0))<|
 .o none (.bin 11 .add false (.t 10) (.c (.int .i64 1)))<|
 .o none (.mk 12 1 8 3 (.int .i64 0) (.t 11) (.t 11))<|
 .o none (.mv 3 (.t 12)) .nil))<| .seq (.rg (.o none (.mv 13 (.t 3))<|
 .o none (.mv 14 (.t 0))<|
 .o none (.idx 15 1 (.t 13) (.t 14))<|
 .o none (.st 1 (.t 15) (.c (.int .i64 1))) .nil))<| .seq (.rg (.o none (.call (some 16) false (.c (.fn 44 [] [])) [(.c (.int .i64 1))])<|
 .o none (.mv 17 (.t 3))<|
 .o none (.call (some 18) false (.c (.fn 58 [] [])) [(.c .nilS),(.t 16),(.t 17)])<|
 .o none (.mv 2 (.t 18)) .nil))<| .ret⟩
theorem Qaow:Qe Tryz.prog Tryz.f26=some c26:=by kernel_rfl
end Go.Proofs.YtdaldpkjhcfblaaGreat
namespace Go.FW
open Go
def Qlp(a m:List Int):Bool:=(List.range a.length).all fun i=>decide (eN a i=eN m i)
theorem Qj4{a m:List Int}:Qlp a m=true↔∀i,i<a.length->eN a i=eN m i:=by simp[Qlp,List.all_eq_true]
theorem Q1i(a:List Int):Qlp a (if Qby (Qdf a)then Qdf a else [])=Qby (Qdf a):=by
 cases h:Qby (Qdf a)
 ·rw[if_neg (by simp)];cases hz:Qlp a []with
  |false=>rfl
  | true=>
   rw[Qj4]at hz;have e:Qdf a=[]:=Qey (Qla a) (by simp) fun i=>by
    rw[Ql7,Q0x];by_cases hi:i<a.length
    ·rw[hz i hi,Q0x]
    ·exact Qcs (by omega)
   rw[e]at h;exact absurd h (by decide)
 ·rw[if_pos rfl,Qj4];intro i _;rw[Ql7]
theorem Qvi:∀(ts:List Tm),(∀t∈ts,t.2.getLast? ≠some 0)->∀out,Nrm out->Nrm (ts.foldl (fun out t=>Qed out t.1 t.2) out)/\∀φ,pev φ (ts.foldl (fun out t=>Qed out t.1 t.2) out)=pev φ out+pev φ ts
 | [],_,out,ho=>⟨ho,fun φ=>by rw[List.foldl_nil,Qcq];grind⟩
 |t::ts,h,out,ho=>by have hl:=h t (by simp);obtain⟨h1,h2⟩:=Qvi ts (fun x hx=>h x (by simp[hx])) (Qed out t.1 t.2) (Q9v ho hl);refine⟨h1,fun φ=>?_⟩;rw[List.foldl_cons,h2,Q9w ho.c hl,Qav];grind
theorem Qaeq(q:Rat):Qi1 (decide (q.num<0)) (dig q.num.natAbs) (dig q.den)=true:=by
 simp only[Qi1,Qhl,Bool.and_eq_true,decide_eq_true_eq];refine⟨?_,⟨?_,Ql4 _⟩,?_⟩
 ·split
  ·rename_i h;rw[Qbw]at h;have:¬q.num<0:=by omega
   simp[this]
  ·exact decide_eq_true (Ql4 _)
 ·rw[ne_eq,Qbw];exact q.den_nz
 ·rw[Q7,Q7];exact q.reduced
def toR(t:Tm):RTm:=⟨decide (t.1.num<0),dig t.1.num.natAbs,dig t.1.den,t.2⟩
theorem Qaox(t:Tm):(toR t).tm=t:=by show(rv _ _ _,t.2)=t;rw[toR,Qdo]
theorem Qts(p:List Tm):PV.rpoly (p.map toR)=PV.poly p:=by show PV.sl 4 ((p.map toR).map PV.rterm)=PV.sl 4 (p.map PV.term);rw[List.map_map];rfl
theorem Q38{t:Tm}(h:TV t):rOk (toR t)=true:=by
 have e:(toR t).q=t.1:=by show rv _ _ _=_;rw[toR,Qdo]
 simp only[rOk,Bool.and_eq_true,decide_eq_true_eq];exact⟨Qaeq t.1,by rw[e];exact h.c,h.m⟩
theorem Qpi:∀ {p:List Tm},PVd p->Qcu (p.map toR)=true
 | [],_=>rfl
 | [t],h=>by show rOk (toR t)=true;exact Q38 (h.t t (by simp))
 |s::t::p,h=>by have h1:=Q38 (h.t s (by simp));have h2:0<Qak (toR s).m (toR t).m:=h.s.1 t (by simp);have h3:=Qpi (p:=t::p) ⟨fun x hx=>h.t x (by simp[hx]),h.s.2⟩;show Qcu (toR s::toR t::p.map toR)=true;rw[Qcu,h1,decide_eq_true h2];exact h3
theorem Q1j{t:Tm}{k:Nat}(h:rs t.1<=k)(hm:t.2.length<2^40):RB k (toR t):=by
 have h1:nl t.1.num.natAbs<=k:=by unfold rs at h;omega
 have h2:nl t.1.den<=k:=by unfold rs at h;omega
 exact⟨⟨Qq _,Qq _,h1,h2⟩,hm⟩
def qpow(a:Rat):Nat->Rat
 |0=>1
 |n+1=>qpow a n*a
def mevN(vs:List Rat)(m:List Int):Nat->Rat
 |0=>1
 |n+1=>mevN vs m n*qpow (vs.getD n 0) (eN m n).toNat
def mev(vs:List Rat)(m:List Int):Rat:=mevN vs m m.length
theorem Q6f{B B':List Nat}{F:Fr}(h:(B'.all B.contains)=true):Qah B' (Qah B F)=Qah B F:=by
 funext s;rw[Qqo B'];split
 ·rename_i h1;rw[Qqo B]at h1⊢;split
  ·rfl
  ·rename_i h2;rw[if_neg h2]at h1;exfalso;apply h2;rw[List.any_eq_true]at h1⊢;obtain⟨x,hx,hb⟩:=h1;rw[List.all_eq_true]at h;exact⟨x,hx,h x (List.contains_iff_mem.1 hb)⟩
 ·rfl
theorem Q6g{W:List (Nat×Nat)}{B:List Nat}{J F:Fr}:Qah B (ovr W J F)=ovr W (Qah B J) (Qah B F):=by funext s;unfold Qah ovr;split<;>rfl
theorem Q2x{V W:List (Nat×Nat)}{B B':List Nat}{X Z F:Fr}(h:Qtj V W=true)(hB:(B'.all B.contains)=true):ovr V X (Qah B' (ovr W Z (Qah B F)))=ovr W (ovr V X (Qah B' Z)) (Qah B F):=by rw[Q6g,Q6f hB,Qfx h]
section
variable {C : Ctx} {fr : Fr} {hp : HP} {w : World} {K R : Qg}
end
def Qcd(m:List Int)(v:Nat):List Int:=Qdf (m.set v 0)
theorem Qaoz(m:List Int)(v i:Nat):eN (m.set v 0) i=if i=v then 0 else eN m i:=by
 by_cases hi:i<m.length
 ·rw[Qc2 (by simpa using hi),List.getElem_set];by_cases h:i=v
  ·rw[if_pos h,if_pos h.symm]
  ·rw[if_neg h,if_neg (fun h'=>h h'.symm),Qc2 hi]
 ·rw[Qcs (by simpa using hi),Qcs (by omega)];split<;>rfl
theorem Qg9(m:List Int)(v i:Nat):eN (Qcd m v) i=if i=v then 0 else eN m i:=by rw[Qcd,Ql7,Qaoz]
theorem Qlh(m:List Int)(v:Nat):(Qcd m v).getLast? ≠some 0:=Qla _
theorem Q1k{E:Nat}{m:List Int}(h:MB E m)(v:Nat):MB E (Qcd m v):=by
 have hl:(Qcd m v).length<=64:=by
  have:=Qd7 (m.set v 0);have:=h.len;rw[List.length_set]at *
  unfold Qcd;omega
 refine⟨hl,fun x hx=>?_,fun x hx=>?_⟩
 all_goals
  obtain⟨i,hi,rfl⟩:=List.getElem_of_mem hx;rw[<-Qc2 hi,Qg9];have:=h.eN i;split<;>omega
theorem Qaes{E:Nat}{m:List Int}(h:MB E m)(hE:E<=1048576)(v:Nat):Qby (Qcd m v)=true:=Qqy (Q1k h v) hE (Qlh m v)
theorem Q9y{a b:List Int}{v:Nat}(h:eN a v=eN b v):Qak (Qcd a v) (Qcd b v)=Qak a b:=by
 have key:∀n,Qb9 (Qcd a v) (Qcd b v) n=Qb9 a b n:=by
  intro n;induction n with
  |zero=>rfl
  |succ n ih=>
   rw[Qb9,Qb9,ih,Qg9,Qg9];by_cases hn:n=v
   ·subst hn;rw[if_pos rfl,if_pos rfl,if_pos rfl,if_pos h]
   ·rw[if_neg hn,if_neg hn]
 have e1:(Qcd a v).length<=a.length:=by have:=Qd7 (a.set v 0);rwa[List.length_set]at this
 have e2:(Qcd b v).length<=b.length:=by have:=Qd7 (b.set v 0);rwa[List.length_set]at this
 rw[<-Qg7 (m:=max a.length b.length) (by omega),key,Qg7 (by omega)]
def Qae(p:List Tm)(v:Nat)(n:Int):List Tm:=p.filterMap fun t=>if eN t.2 v=n then some (t.1,Qcd t.2 v)else none
theorem Qvj{p:List Tm}{v i:Nat}{n:Int}(h:i<p.length):Qae (p.take (i+1)) v n=Qae (p.take i) v n++(if eN p[i].2 v=n then [(p[i].1,Qcd p[i].2 v)]else []):=by rw[List.take_succ_eq_append_getElem h,Qae,List.filterMap_append];congr 1;rw[List.filterMap_cons];by_cases h:eN p[i].2 v=n<;>simp[h]
theorem Qc8(p:List Tm)(v:Nat)(n:Int):(Qae p v n).length<=p.length:=List.length_filterMap_le _ _
theorem Qfh{p:List Tm}{v:Nat}{n:Int}{t:Tm}(h:t∈Qae p v n):∃s∈p,eN s.2 v=n/\t=(s.1,Qcd s.2 v):=by
 simp only[Qae,List.mem_filterMap]at h;obtain⟨s,h1,h2⟩:=h;split at h2
 ·rename_i h3;cases h2;exact⟨s,h1,h3,rfl⟩
 ·cases h2
theorem Qfs{K E:Nat}{p:List Tm}(hp:PB K E p)(v:Nat)(n:Int):PB K E (Qae p v n):=fun t ht=>by obtain⟨s,h1,_,rfl⟩:=Qfh ht;have:=hp s h1;exact⟨this.c,Q1k this.m v,Qlh _ _⟩
theorem Qq3(v:Nat)(n:Int):∀ {p:List Tm},Qbc p->Qbc (Qae p v n)
 | [],_=>trivial
 | s::p,h=>by
  have ih:=Qq3 v n h.2;by_cases hs:eN s.2 v=n
  ·have e:Qae (s::p) v n=(s.1,Qcd s.2 v)::Qae p v n:=by rw[Qae,List.filterMap_cons,if_pos hs];rfl
   rw[e];refine⟨fun t ht=>?_,ih⟩;obtain⟨u,h1,h2,rfl⟩:=Qfh ht;show 0<Qak (Qcd s.2 v) (Qcd u.2 v);rw[Q9y (by rw[hs,h2])];exact h.1 u h1
  ·have e:Qae (s::p) v n=Qae p v n:=by rw[Qae,List.filterMap_cons,if_neg hs];rfl
   rw[e];exact ih
theorem Qb2{p:List Tm}(hp:Nrm p)(v:Nat)(n:Int):Nrm (Qae p v n):=⟨fun t ht=>by
 obtain⟨s,_,_,rfl⟩:=Qfh ht;exact Qlh _ _,fun t ht=>by
 obtain⟨s,h1,_,rfl⟩:=Qfh ht;exact hp.z s h1,Qq3 v n hp.s⟩
end Go.FW
namespace Go.FW
open Go
def hor(p:List Tm)(v:Nat)(q:List Tm)(top:Nat):Nat->List Tm
 |0=>Qae p v top
 |k+1=>Q4 (Qx (hor p v q top k) q) (Qae p v ((top:Int)-(k+1)))
def Qn8(x l:List Tm):List Tm:=l.foldl (fun out t=>Qed out t.1 t.2) x
theorem Q9z{x l:List Tm}(hx:Nrm x)(hl:Nrm l):Qn8 x l=Q4 x l:=by obtain⟨h1,h2⟩:=Qvi l hl.c x hx;refine Qfd h1 (Qbt hx hl) fun φ=>?_;rw[Qn8,h2,Qcz hx.c hl.c]
theorem Q2y(x l:List Tm)(t:Tm):Qn8 x (l++[t])=Qed (Qn8 x l) t.1 t.2:=by rw[Qn8,List.foldl_append];rfl
theorem Q1l(v:Nat):∀(p:List Tm)(d:Int),d<=p.foldl (fun d t=>max d (eN t.2 v)) d/\(∀t∈p,eN t.2 v<=p.foldl (fun d t=>max d (eN t.2 v)) d)/\(p.foldl (fun d t=>max d (eN t.2 v)) d=d∨∃t∈p,p.foldl (fun d t=>max d (eN t.2 v)) d=eN t.2 v)
 | [],d=>⟨Int.le_refl _,by simp,.inl rfl⟩
 | s::p,d=>by
  obtain⟨h1,h2,h3⟩:=Q1l v p (max d (eN s.2 v));rw[List.foldl_cons];refine⟨by omega,fun t ht=>?_,?_⟩
  ·rcases List.mem_cons.1 ht with rfl|ht
   ·omega
   ·exact h2 t ht
  ·rcases h3 with h3|⟨t,ht,h3⟩
   ·rw[h3];by_cases h:d<=eN s.2 v
    ·right;exact⟨s,by simp,by omega⟩
    ·left;omega
   ·right;exact⟨t,by simp[ht],h3⟩
def Qdy(vs:List Rat)(v:Nat)(b:Rat)(n:Int):List Tm->Rat
 | []=>0
 |t::p=>(if n<=eN t.2 v then t.1*mev vs (Qcd t.2 v)*qpow b (eN t.2 v-n).toNat else 0)+Qdy vs v b n p
def ML(n:Nat)(p:List Tm):Prop:=∀t∈p,t.2.length<=n
theorem ML.padd{n:Nat}{p q:List Tm}(hp:ML n p)(hq:ML n q):ML n (Q4 p q):=fun t ht=>by
 rcases Qib ht with⟨s,h1,h2⟩|⟨s,h1,h2⟩
 ·rw[<-h2];exact hp s h1
 ·rw[<-h2];exact hq s h1
theorem Qaet(a b:List Int):(Qay a b).length<=max a.length b.length:=by
 have:=Qd7 (Qg8 (· + ·) a b)
 rwa[Qc6]at this
theorem Qvk{p:List Tm}{t x:Tm}(h:x∈Qad p t):∃s∈p,x.2=Qay s.2 t.2:=by
 simp only[Qad,List.mem_filterMap]at h;obtain⟨y,hy,h⟩:=h;split at h
 ·cases h
 ·cases h;exact⟨y,hy,rfl⟩
theorem Qaeu:∀(n:Nat)(l:List (List Tm)),l.length<=n->∀ {t:Tm},t∈Qbn l->∃p∈l,∃s∈p,s.2=t.2:=by
 intro n;induction n with
 |zero=>intro l hl t ht;have:l=[]:=List.length_eq_zero_iff.1 (by omega);subst this;rw[Qbn]at ht;cases ht
 | succ n ih=>
  intro l hl t ht
  match l,ht with
  | [],ht=>rw[Qbn]at ht;cases ht
  | [p],ht=>rw[Qbn]at ht;exact⟨p,by simp,t,ht,rfl⟩
  | p::q::r,ht=>
   rw[Qkh (by simp)]at ht;generalize hL:p::q::r=L at *
   have hlen:2<=L.length:=by rw[<-hL];simp
   rcases Qib ht with⟨s,h1,h2⟩|⟨s,h1,h2⟩
   ·obtain⟨p',hp',s',hs',e⟩:=ih _ (by rw[List.length_take];omega) h1;exact⟨p',List.mem_of_mem_take hp',s',hs',e.trans h2⟩
   ·obtain⟨p',hp',s',hs',e⟩:=ih _ (by rw[List.length_drop];omega) h1;exact⟨p',List.mem_of_mem_drop hp',s',hs',e.trans h2⟩
theorem Qic{p q:List Tm}{t:Tm}(h:t∈Qx p q):∃a∈p,∃b∈q,t.2=Qay a.2 b.2:=by
 have main:∀ {p q:List Tm},t∈Qhy p q->∃a∈p,∃b∈q,t.2=Qay a.2 b.2:=fun {p q} h=>by obtain⟨x,hx,s,hs,e⟩:=Qaeu _ _ (Nat.le_refl _) h;obtain⟨a,ha,rfl⟩:=List.mem_map.1 hx;obtain⟨b,hb,e2⟩:=Qvk hs;exact⟨a,ha,b,hb,by rw[<-e,e2,Qig]⟩
 unfold Qx at h;split at h
 ·obtain⟨a,ha,b,hb,e⟩:=main h;exact⟨b,hb,a,ha,by rw[e,Qig]⟩
 ·exact main h
theorem ML.pmul{n:Nat}{p q:List Tm}(hp:ML n p)(hq:ML n q):ML n (Qx p q):=fun t ht=>by obtain⟨a,ha,b,hb,e⟩:=Qic ht;have:=Qaet a.2 b.2;have:=hp a ha;have:=hq b hb;rw[e];omega
theorem ML.coefN{n:Nat}{p:List Tm}(hp:ML n p)(v:Nat)(k:Int):ML n (Qae p v k):=fun t ht=>by obtain⟨s,h1,_,rfl⟩:=Qfh ht;have:=Qd7 (s.2.set v 0);rw[List.length_set]at this;exact Nat.le_trans this (hp s h1)
theorem ML.hor{n:Nat}{p q:List Tm}(hp:ML n p)(hq:ML n q)(v top:Nat):∀k,ML n (hor p v q top k)
 |0=>hp.coefN v _
 |k+1=>((ML.hor hp hq v top k).pmul hq).padd (hp.coefN v _)
theorem Qq4{p:List Tm}{K E:Nat}(hp:PB K E p)(hE:E<=1048576)(hl:p.length<=4000):Qaf p=false:=by
 have:(p.any fun t=>t.2.any fun x=>decide (1048576<x))=false:=by rw[List.any_eq_false];intro t ht;rw[Bool.not_eq_true,List.any_eq_false];intro x hx;have:=(hp t ht).m.hi x hx;simp;omega
 rw[Qaf,this,Bool.or_false];exact decide_eq_false (by omega)
theorem Qaev{l:List Tm}(hs:Qbc l){a b:Tm}(ha:a∈l)(hb:b∈l)(e:a.2=b.2):a=b:=by
 induction l with
 |nil=>cases ha
 |cons c l ih=>
  rcases List.mem_cons.1 ha with h1|h1<;>rcases List.mem_cons.1 hb with h2|h2
  ·rw[h1,h2]
  ·subst h1;exact absurd e.symm (Qm2 (hs.1 b h2))
  ·subst h2;exact absurd e (Qm2 (hs.1 a h1))
  ·exact ih hs.2 h1 h2
theorem Q1m{φ:List Int->Rat}:∀ {p:List Tm} {x:Tm},Qbc p->x∈p->(∀t∈p,t≠x->φ t.2=0)->pev φ p=x.1*φ x.2
 | [],x,_,hx,_=>by cases hx
 | t::p,x,hs,hx,h=>by
  have hz:∀ {l:List Tm},(∀s∈l,φ s.2=0)->pev φ l=0:=by
   intro l;induction l with
   |nil=>intro _;rfl
   |cons s l ih=>intro hl;rw[Qav,hl s (by simp),ih (fun y hy=>hl y (by simp[hy]))];grind
  by_cases htx:t=x
  ·subst htx;rw[Qav,hz (fun s hs'=>h s (by simp[hs']) (fun e=>Qm2 (hs.1 s hs') (by rw[e])))];grind
  ·have hx':x∈p:=by
    rcases List.mem_cons.1 hx with h1|h1
    ·exact absurd h1.symm htx
    ·exact h1
   rw[Qav,h t (by simp) htx,Q1m hs.2 hx' (fun s hs'=>h s (by simp[hs']))];grind
def Q8(p:List Tm)(v:Nat):Int:=p.foldl (fun d t=>max d (eN t.2 v)) (-1)
theorem Qyo{p:List Tm}{v i:Nat}(h:i<p.length):Q8 (p.take (i+1)) v=max (Q8 (p.take i) v) (eN p[i].2 v):=by rw[List.take_succ_eq_append_getElem h,Q8,List.foldl_append];rfl
theorem Qkm(p:List Tm)(v:Nat): -1<=Q8 p v/\(∀t∈p,eN t.2 v<=Q8 p v)/\(Q8 p v= -1∨∃t∈p,Q8 p v=eN t.2 v):=Q1l v p (-1)
theorem Qe1{K E:Nat}{p:List Tm}(hp:PB K E p)(h0:p≠[])(v:Nat):0<=Q8 p v/\Q8 p v<=E:=by
 obtain⟨_,h2,h3⟩:=Qkm p v;obtain⟨t,ht⟩:=List.exists_mem_of_ne_nil p h0;have h4:=h2 t ht;have h5:=(hp t ht).m.eN v;rcases h3 with h3|⟨s,hs,h3⟩
 ·omega
 ·have:=(hp s hs).m.eN v;omega
theorem Q39{p:List Tm}{v:Nat}{n:Int}(h:∀t∈p,eN t.2 v<n)(hn:0<=n):Q8 p v<n:=by
 obtain⟨_,_,h3⟩:=Qkm p v;rcases h3 with h3|⟨s,hs,h3⟩
 ·omega
 ·have:=h s hs;omega
def Qbl(v n:Nat):List Int:=List.replicate v 0++[(n:Int)]
theorem Qn9(v n i:Nat):eN (Qbl v n) i=if i=v then(n:Int)else 0:=by
 unfold Qbl;by_cases h:i<v
 ·rw[if_neg (by omega),Qc2 (by simp;omega),List.getElem_append_left (by simpa using h),List.getElem_replicate]
 ·by_cases h2:i=v
  ·subst h2;rw[if_pos rfl,Qc2 (by simp),List.getElem_append_right (by simp)];simp
  ·rw[if_neg h2,Qcs (by simp;omega)]
theorem Qm3{v n:Nat}(h:0<n):(Qbl v n).getLast? ≠some 0:=by unfold Qbl;rw[List.getLast?_append];simp;omega
theorem Qw8{v n:Nat}(hv:v<64):MB n (Qbl v n):=by
 refine⟨by simp[Qbl];omega,fun x hx=>?_,fun x hx=>?_⟩
 all_goals
  simp only[Qbl,List.mem_append,List.mem_replicate,List.mem_singleton]at hx;omega
def Qcn(p:List Tm)(v n:Nat):List Tm:=if n=0 then p else Qx p [(1,Qbl v n)]
theorem Q1n{v n:Nat}(h:0<n):Nrm [((1:Rat),Qbl v n)]:=Nrm.one (show(1:Rat)≠0 by decide) (Qm3 h)
theorem Qfi{p:List Tm}(hp:Nrm p)(v n:Nat):Nrm (Qcn p v n):=by
 unfold Qcn;split
 ·exact hp
 ·exact Qam hp.s (Q1n (by omega)).s
theorem Q6h{p:List Tm}(hp:Can p)(v n:Nat)(φ:List Int->Rat):pev φ (Qcn p v n)=pev (fun m=>φ (Qay m (Qbl v n))) p:=by
 unfold Qcn;split
 ·rename_i h;subst h;refine Qch fun t ht=>?_;congr 1;refine Qey (hp t ht) (Qd8 _ _) fun i=>?_;rw[Qc4,Qn9];split<;>simp
 ·rw[Qc0];refine Qch fun t ht=>?_;rw[Qav,Qcq,Rat.one_mul,Rat.add_zero]
theorem Qq5{φ:List Int->Rat}{v n:Nat}(h:∀m,eN m v≠n->φ m=0):∀ {p:List Tm},Can p->pev φ p=pev (fun m=>φ (Qay m (Qbl v n))) (Qae p v n)
 | [],_=>rfl
 | t::p,hp=>by
  have ih:=Qq5 h (Can.cons.1 hp).2;by_cases ht:eN t.2 v=n
  ·have e:Qae (t::p) v n=(t.1,Qcd t.2 v)::Qae p v n:=by rw[Qae,List.filterMap_cons,if_pos ht];rfl
   have e2:Qay (Qcd t.2 v) (Qbl v n)=t.2:=Qey (Qd8 _ _) (Can.cons.1 hp).1 fun i=>by
    rw[Qc4,Qg9,Qn9];by_cases hi:i=v
    ·subst hi;simp[ht]
    ·simp[hi]
   rw[e,Qav,Qav,ih];show _=t.1*φ (Qay (Qcd t.2 v) (Qbl v n))+_;rw[e2]
  ·have e:Qae (t::p) v n=Qae p v n:=by rw[Qae,List.filterMap_cons,if_neg ht];rfl
   rw[e,Qav,h _ ht,Rat.mul_zero,Rat.zero_add,ih]
theorem Qjp{p:List Tm}{v:Nat}{n:Int}{t:Tm}(h:t∈Qae p v n):eN t.2 v=0:=by obtain⟨s,_,_,rfl⟩:=Qfh h;rw[Qg9,if_pos rfl]
def dvB(r:List Tm)(v n d:Nat):List Tm:=Qcn (Qae r v n) v (n-d)
def dvR(r g:List Tm)(v n d:Nat):List Tm:=Qgc (Qx (Qae g v d) r) (Qx (dvB r v n d) g)
theorem Qajm{r g:List Tm}{v n d:Nat}(hr:Nrm r)(hg:Nrm g)(hd:d<=n){φ:List Int->Rat}(h:∀m,eN m v≠n->φ m=0):pev φ (dvR r g v n d)=0:=by
 have hb:=Qfi (Qb2 hr v n) v (n-d);have hc:=Qb2 hg v d;rw[dvR,Q1g φ (Qam hc.s hr.s).c (Qam (show Qbc (dvB r v n d)from hb.s) hg.s),Qc0,Qc0,dvB,Q6h (Qb2 hr v n).c];have e1:pev (fun m=>pev (fun s=>φ (Qay m s)) r) (Qae g v d)=pev (fun m=>pev (fun s=>φ (Qay m (Qay s (Qbl v n)))) (Qae r v n)) (Qae g v d):=by refine Qch fun t ht=>?_;refine Qq5 (φ:=fun s=>φ (Qay t.2 s)) (fun m hm=>h _ ?_) hr.c;rw[Qc4,Qjp ht,Int.zero_add];exact hm
 have e2:pev (fun m=>pev (fun n_1=>φ (Qay (Qay m (Qbl v (n-d))) n_1)) g) (Qae r v n)=pev (fun m=>pev (fun a=>φ (Qay (Qay m (Qbl v (n-d))) (Qay a (Qbl v d)))) (Qae g v d)) (Qae r v n):=by refine Qch fun t ht=>?_;refine Qq5 (φ:=fun s=>φ (Qay (Qay t.2 (Qbl v (n-d))) s)) (fun m hm=>h _ ?_) hg.c;rw[Qc4,Qc4,Qjp ht,Qn9,if_pos rfl];omega
 rw[e1,e2,Qmd];have e3:∀s a:List Int,Qay a (Qay s (Qbl v n))=Qay (Qay s (Qbl v (n-d))) (Qay a (Qbl v d)):=fun s a=>Qey (Qd8 _ _) (Qd8 _ _) fun i=>by simp only[Qc4,Qn9];split<;>omega
 simp only[e3];exact Rat.sub_self
theorem Qpj{p:List Tm}{v n:Nat}{t:Tm}(h:t∈Qcn p v n):∃s∈p,∀i,eN t.2 i=eN s.2 i+if i=v then(n:Int)else 0:=by
 unfold Qcn at h;split at h
 ·rename_i h0;subst h0;exact⟨t,h,fun i=>by split<;>simp⟩
 ·obtain⟨s,hs,b,hb,e⟩:=Qic h;simp only[List.mem_singleton]at hb;subst hb;exact⟨s,hs,fun i=>by rw[e,Qc4,Qn9]⟩
theorem Q1o{p q:List Tm}{t:Tm}(hq:Can q)(h:t∈Qgc p q):(∃s∈p,s.2=t.2)∨(∃s∈q,s.2=t.2):=by
 rcases Qib h with h|⟨s,hs,h⟩
 ·exact .inl h
 ·right;rw[Qi2,Qcf,if_neg (by decide)]at hs;obtain⟨u,hu,e⟩:=Qvk hs;exact⟨u,hu,by rw[<-h,e];exact(Ql8 (hq u hu)).symm⟩
theorem Qarf{r g:List Tm}{v n d:Nat}(hr:Nrm r)(hg:Nrm g)(hd:d<=n)(hn:∀t∈r,eN t.2 v<=n)(hgd:∀t∈g,eN t.2 v<=d):∀t∈dvR r g v n d,eN t.2 v<n:=by
 intro t ht;have hb:=Qfi (Qb2 hr v n) v (n-d);have hc:=Qb2 hg v d;have hR:Nrm (dvR r g v n d):=Qpg (Qam hc.s hr.s) (Qam (show Qbc (dvB r v n d)from hb.s) hg.s);have hle:eN t.2 v<=n:=by
  rcases Q1o (Qam (show Qbc (dvB r v n d)from hb.s) hg.s).c ht with⟨s,hs,e⟩|⟨s,hs,e⟩
  ·obtain⟨a,ha,b,hb',e2⟩:=Qic hs;rw[<-e,e2,Qc4,Qjp ha];have:=hn b hb';omega
  ·obtain⟨a,ha,b,hb',e2⟩:=Qic hs;obtain⟨u,hu,e3⟩:=Qpj (show a∈Qcn (Qae r v n) v (n-d)from ha);rw[<-e,e2,Qc4,e3,Qjp hu,if_pos rfl];have:=hgd b hb';omega
 rcases Int.lt_or_eq_of_le hle with h|h
 ·exact h
 ·exfalso;have h1:=Qajm hr hg hd (φ:=fun m=>if m=t.2 then 1 else 0) (fun m hm=>by rw[if_neg];rintro rfl;exact hm h);have h2:=Q1m (φ:=fun m=>if m=t.2 then 1 else 0) hR.s ht (fun s hs hne=>by rw[if_neg];intro e;exact hne (Qaev hR.s hs ht e));rw[h1]at h2;simp only[if_true,Rat.mul_one]at h2;exact hR.z t ht h2.symm
def dvQ(q r g:List Tm)(v n d:Nat):List Tm:=Q4 (Qx (Qae g v d) q) (dvB r v n d)
def Qe8(g:List Tm)(v d:Nat):Nat->List Tm->List Tm->Nat->PV
 |0,q,r,k=>.tup [PV.poly q,PV.poly r,.int .i64 k,.int .i64 0]
 |f+1,q,r,k=>
  if r=[]∨Q8 r v<d then .tup [PV.poly q,PV.poly r,.int .i64 k,.int .i64 0]
  else if Qaf (dvQ q r g v (Q8 r v).toNat d)=true∨Qaf (dvR r g v (Q8 r v).toNat d)=true then .tup [PV.poly [],PV.poly [],.int .i64 0,.int .i64 4]
  else Qe8 g v d f (dvQ q r g v (Q8 r v).toNat d) (dvR r g v (Q8 r v).toNat d) (k+1)
theorem Qajn{q r g:List Tm}{v n d:Nat}(hq:Nrm q)(hr:Nrm r)(hg:Nrm g):Nrm (dvQ q r g v n d):=Qbt (Qam (Qb2 hg v d).s hq.s) (Qfi (Qb2 hr v n) v (n-d))
theorem Qajo{r g:List Tm}{v n d:Nat}(hr:Nrm r)(hg:Nrm g):Nrm (dvR r g v n d):=
 Qpg (Qam (Qb2 hg v d).s hr.s) (Qam (show Qbc (dvB r v n d)from(Qfi (Qb2 hr v n) v (n-d)).s) hg.s)
theorem Q1p{r g:List Tm}{v d K E:Nat}(hr:Nrm r)(hg:Nrm g)(hrb:PB K E r)(h0:r≠[])(hd:Q8 g v=d)(hle:(d:Int)<=Q8 r v):Q8 (dvR r g v (Q8 r v).toNat d) v<Q8 r v:=by
 obtain⟨h1,h2⟩:=Qe1 hrb h0 v;have e:(((Q8 r v).toNat:Nat):Int)=Q8 r v:=by omega
 have h3:=Qarf (v:=v) (n:=(Q8 r v).toNat) (d:=d) hr hg (by omega) (fun t ht=>by rw[e];exact(Qkm r v).2.1 t ht) (fun t ht=>by rw[<-hd];exact(Qkm g v).2.1 t ht);exact Q39 (fun t ht=>by have:=h3 t ht;omega) h1
end Go.FW
