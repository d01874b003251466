/- Part 5 of the proof of TriangularReduces: P8, CS2, CS3, CU, FwSE, FwSF, FwSG, FwSH, FwSI, FwSJ, FwSK, FwSL, FwUA. Own lemmas; no conditions. -/
import Derived.Test.YtdaldpkjhcfblaaGreatTriangularReducesPart4
set_option maxHeartbeats 1000000
set_option linter.unusedSimpArgs false
set_option linter.unusedVariables false
set_option linter.unnecessarySimpa false
set_option maxRecDepth 100000
namespace Go.Proofs.YtdaldpkjhcfblaaGreat
open Go Go.FW
theorem Qus{p:List Tm}{f:Nat}{g:Tm->Bool}(hf:∀t∈p,Qd Tryz.prog f [PV.term t] (· = .bool (g t)))(hlp:p.length<=2^36):
  Qd Tryz.prog 123 [PV.poly p,.fn f [] []] (· = .int .i64 (Qky g p)):=by
 refine Qf Qj Tryz.func123 rfl Qah0 (by simp[c123]) fun C hP=>?_;simp only[c123];refine Sz0 ?_;refine Qx (by repeat (first|exact Qu|exact Qm|exact Qn|exact Qk|exact Qo|apply Ql|apply Qt|apply Qw|apply Q2|apply Q3|apply Qi)) [(4,5),(8,18)] [] (fun n J hp=>∃i,n=p.length-i/\i<=p.length/\(∀j (h:j<p.length),j<i->g p[j]=false)/\J 8= .int .i64 (i:Nat)) p.length ?_ ?_
 ·refine⟨0,rfl,by omega,by omega,?_⟩;refine Sz0 ?_;rfl
 rintro _ J h ⟨i,rfl,hi,h1,h8⟩;refine Sz1 h8 ?_;refine Qb (fun hg=>?_) (fun hg=>?_)
 ·have hi':i<p.length:=by omega
  have hfi:=hf _ (List.getElem_mem hi');have hat:=fun h=>Qs1 (g:=g) hi' h h1;have hadd:g p[i]=false->∀j (h:j<p.length),j<i+1->g p[j]=false:=fun h j hj hji=>by
   by_cases e:j=i
   ·subst e;exact h
   ·exact h1 j hj (by omega)
  generalize hx:p[i]=x at *
  refine Sz2 h8 hx ?_;refine Qa hP hfi rfl rfl rfl ?_;refine Sz2 h8 hx ?_;cases hgx:g x
  ·refine Sz1 h8 ?_;refine Qh (p.length-(i+1)) (by omega) ⟨i+1,rfl,by omega,hadd hgx,?_⟩;exact Tz0
  ·refine Sz1 h8 ?_;exact Qc (by rw[hat hgx]) rfl
 ·obtain rfl:i=p.length:=by omega
  refine Sz0 ?_;exact Qc (by rw[Qoy (fun j hj=>h1 j hj hj)]) rfl
theorem Qut{p:List Int}{f:Nat}{g:Int->Bool}(hf:∀t∈p,Qd Tryz.prog f [.int .i64 t] (· = .bool (g t)))(hlp:p.length<=2^36):
  Qd Tryz.prog 124 [PV.mono p,.fn f [] []] (· = .int .i64 (Qky g p)):=by
 refine Qf Qj Tryz.func124 rfl Qah1 (by simp[c124]) fun C hP=>?_;simp only[c124];refine Sz0 ?_;refine Qx (by repeat (first|exact Qu|exact Qm|exact Qn|exact Qk|exact Qo|apply Ql|apply Qt|apply Qw|apply Q2|apply Q3|apply Qi)) [(4,5),(8,18)] [] (fun n J hp=>∃i,n=p.length-i/\i<=p.length/\(∀j (h:j<p.length),j<i->g p[j]=false)/\J 8= .int .i64 (i:Nat)) p.length ?_ ?_
 ·refine⟨0,rfl,by omega,by omega,?_⟩;refine Sz0 ?_;rfl
 rintro _ J h ⟨i,rfl,hi,h1,h8⟩;refine Sz1 h8 ?_;refine Qb (fun hg=>?_) (fun hg=>?_)
 ·have hi':i<p.length:=by omega
  have hfi:=hf _ (List.getElem_mem hi');have hat:=fun h=>Qs1 (g:=g) hi' h h1;have hadd:g p[i]=false->∀j (h:j<p.length),j<i+1->g p[j]=false:=fun h j hj hji=>by
   by_cases e:j=i
   ·subst e;exact h
   ·exact h1 j hj (by omega)
  generalize hx:p[i]=x at *
  refine Sz2 h8 hx ?_;refine Qa hP hfi rfl rfl rfl ?_;refine Sz2 h8 hx ?_;cases hgx:g x
  ·refine Sz1 h8 ?_;refine Qh (p.length-(i+1)) (by omega) ⟨i+1,rfl,by omega,hadd hgx,?_⟩;exact Tz0
  ·refine Sz1 h8 ?_;exact Qc (by rw[hat hgx]) rfl
 ·obtain rfl:i=p.length:=by omega
  refine Sz0 ?_;exact Qc (by rw[Qoy (fun j hj=>h1 j hj hj)]) rfl
theorem Qqf{p:List Tm}{f:Nat}{g:Tm->Bool}(hf:∀t∈p,Qd Tryz.prog f [PV.term t] (· = .bool (g t)))(hlp:p.length<=2^36):
  Qd Tryz.prog 76 [PV.poly p,.fn f [] []] (· = .bool (p.any g)):=by
 refine Qf Qj Tryz.func76 rfl Qamq (by simp[c76]) fun C hP=>?_;simp only[c76];refine Sz0 ?_;refine Qa hP (Qus hf hlp) rfl rfl rfl ?_;refine Sz0 ?_;exact Qc (congrArg PV.bool (Qqe g p)) rfl
theorem Qqg{p:List Int}{f:Nat}{g:Int->Bool}(hf:∀t∈p,Qd Tryz.prog f [.int .i64 t] (· = .bool (g t)))(hlp:p.length<=2^36):
  Qd Tryz.prog 78 [PV.mono p,.fn f [] []] (· = .bool (p.any g)):=by
 refine Qf Qj Tryz.func78 rfl Qamr (by simp[c78]) fun C hP=>?_;simp only[c78];refine Sz0 ?_;refine Qa hP (Qut hf hlp) rfl rfl rfl ?_;refine Sz0 ?_;exact Qc (congrArg PV.bool (Qqe g p)) rfl
theorem Qx0{a:Rat}{k:Nat}(h:rs a<=k)(hk:k<2^36):Qd Tryz.prog 75 [PV.rat a] (· =PV.poly (Qby a)):=by
 have:=Q0m (Qcy h) hk
 rwa[Qdg]at this
def c55:SFn:=⟨39,[.t 2],.seq (.rg (.o none (.mv 2 (.c (.bool false))) .nil))<| .seq (.seq (.rg (.o none (.mv 4 (.t 0))<|
 .o none (.len 5 (.t 4))<|
 .o none (.bin 6 .gtr false (.t 5) (.c (.int .i64 64)))<|
 .o none (.mv 7 (.t 6))<|
 .o (some (7,false)) (.mv 8 (.t 0))<|
 .o (some (7,false)) (.len 9 (.t 8))<|
 .o (some (7,false)) (.bin 10 .gtr false (.t 9) (.c (.int .i64 0)))<|
 .o (some (7,false)) (.mv 11 (.t 10))<|
 .o (some (11,true)) (.mv 12 (.t 0))<|
 .o (some (11,true)) (.mv 13 (.t 0))<|
 .o (some (11,true)) (.len 14 (.t 13))<|
 .o (some (11,true)) (.bin 15 .sub false (.t 14) (.c (.int .i64 1)))<|
 .o (some (11,true)) (.idx 16 1 (.t 12) (.t 15))<|
 .o (some (11,true)) (.ld 17 1 false (.t 16))<|
 .o (some (11,true)) (.bin 18 .eql false (.t 17) (.c (.int .i64 0)))<|
 .o (some (7,false)) (.pick 19 (.t 11) (.t 18) (.c (.bool false)))<|
 .o none (.pick 20 (.t 7) (.c (.bool true)) (.t 19)) .nil))<| .cond (.t 20) (.seq (.rg (.o none (.mv 2 (.c (.bool false))) .nil))<| .ret) (.skip))<| .seq (.seq (.rg (.o none (.mv 3 (.c (.int .i64 0))) .nil))<| .block 0 (.loop (.seq (.seq (.rg (.o none (.mv 21 (.t 3))<|
 .o none (.mv 22 (.t 0))<|
 .o none (.len 23 (.t 22))<|
 .o none (.bin 24 .lss false (.t 21) (.t 23)) .nil))<| .cond (.t 24) (.skip) (.exit 0))<| .seq (.block 1 (.seq (.rg (.o none (.mv 27 (.t 0))<|
 .o none (.mv 28 (.t 3))<|
 .o none (.idx 29 1 (.t 27) (.t 28))<|
 .o none (.ld 30 1 false (.t 29))<|
 .o none (.bin 31 .lss false (.t 30) (.c (.int .i64 0)))<|
 .o none (.mv 32 (.t 31))<|
 .o (some (32,false)) (.mv 33 (.t 0))<|
 .o (some (32,false)) (.mv 34 (.t 3))<|
 .o (some (32,false)) (.idx 35 1 (.t 33) (.t 34))<|
 .o (some (32,false)) (.ld 36 1 false (.t 35))<|
 .o (some (32,false)) (.bin 37 .gtr false (.t 36) (.c (.int .i64 1048576)))<|
 .o none (.pick 38 (.t 32) (.c (.bool true)) (.t 37)) .nil))<| .cond (.t 38) (.seq (.rg (.o none (.mv 2 (.c (.bool false))) .nil))<| .ret) (.skip)))<| .rg (.o none (.mv 25 (.t 3))<|
 .o none (.bin 26 .add false (.t 25) (.c (.int .i64 1)))<|
 .o none (.mv 3 (.t 26)) .nil))))<| .seq (.rg (.o none (.mv 2 (.c (.bool true))) .nil))<| .ret⟩
theorem Qam1:Qe Tryz.prog Tryz.f55=some c55:=by kernel_rfl
def c156:SFn:=⟨24,[.t 2],.seq (.rg (.o none (.mv 2 (.c .nilS)) .nil))<| .seq (.rg (.o none (.mv 5 (.t 0))<|
 .o none (.len 6 (.t 5))<|
 .o none (.mv 3 (.t 6)) .nil))<| .seq (.block 0 (.loop (.seq (.seq (.rg (.o none (.mv 7 (.t 3))<|
 .o none (.bin 8 .gtr false (.t 7) (.c (.int .i64 0)))<|
 .o none (.mv 9 (.t 8))<|
 .o (some (9,true)) (.mv 10 (.t 0))<|
 .o (some (9,true)) (.mv 11 (.t 3))<|
 .o (some (9,true)) (.bin 12 .sub false (.t 11) (.c (.int .i64 1)))<|
 .o (some (9,true)) (.idx 13 1 (.t 10) (.t 12))<|
 .o (some (9,true)) (.ld 14 1 false (.t 13))<|
 .o (some (9,true)) (.bin 15 .eql false (.t 14) (.c (.int .i64 0)))<|
 .o none (.pick 16 (.t 9) (.t 15) (.c (.bool false))) .nil))<| .cond (.t 16) (.skip) (.exit 0))<| .block 1 (.rg (.o none (.mv 17 (.t 3))<|
 .o none (.bin 18 .sub false (.t 17) (.c (.int .i64 1)))<|
 .o none (.mv 3 (.t 18)) .nil)))))<| .seq (.rg (.o none (.mv 4 (.c .nilS)) .nil))<| .seq (.rg (.o none (.mv 19 (.t 4))<|
 .o none (.mv 20 (.t 0))<|
 .o none (.mv 21 (.t 3))<|
 .o none (.sl 22 1 (.t 20) none (some (.t 21)) none)<|
 .o none (.app 23 1 8 3 (.t 19) (.t 22))<|
 .o none (.mv 2 (.t 23)) .nil))<| .ret⟩
theorem Qaij:Qe Tryz.prog Tryz.f156=some c156:=by kernel_rfl
def c135:SFn:=⟨9,[.t 2],.seq (.rg (.o none (.mv 2 (.c .nilS)) .nil))<| .seq (.seq (.rg (.o none (.mv 4 (.t 0))<|
 .o none (.call (some 5) false (.c (.fn 156 [] [])) [(.t 4)])<|
 .o none (.mv 3 (.t 5)) .nil))<| .seq (.rg (.o none (.mv 6 (.t 3))<|
 .o none (.call (some 7) false (.c (.fn 55 [] [])) [(.t 6)]) .nil))<| .cond (.t 7) (.seq (.rg (.o none (.mv 8 (.t 3))<|
 .o none (.mv 2 (.t 8)) .nil))<| .ret) (.skip))<| .seq (.rg (.o none (.mv 2 (.c .nilS)) .nil))<| .ret⟩
theorem Qaik:Qe Tryz.prog Tryz.f135=some c135:=by kernel_rfl
def c57:SFn:=⟨18,[.t 2],.seq (.rg (.o none (.mv 2 (.c (.int .i64 0))) .nil))<| .seq (.rg (.o none (.mv 3 (.c (.int .i64 0))) .nil))<| .seq (.seq (.rg (.o none (.mv 4 (.c (.int .i64 0))) .nil))<| .block 0 (.loop (.seq (.seq (.rg (.o none (.mv 5 (.t 4))<|
 .o none (.mv 6 (.t 0))<|
 .o none (.len 7 (.t 6))<|
 .o none (.bin 8 .lss false (.t 5) (.t 7)) .nil))<| .cond (.t 8) (.skip) (.exit 0))<| .seq (.block 1 (.rg (.o none (.mv 11 (.t 3))<|
 .o none (.mv 12 (.t 0))<|
 .o none (.mv 13 (.t 4))<|
 .o none (.idx 14 1 (.t 12) (.t 13))<|
 .o none (.ld 15 1 false (.t 14))<|
 .o none (.bin 16 .add false (.t 11) (.t 15))<|
 .o none (.mv 3 (.t 16)) .nil)))<| .rg (.o none (.mv 9 (.t 4))<|
 .o none (.bin 10 .add false (.t 9) (.c (.int .i64 1)))<|
 .o none (.mv 4 (.t 10)) .nil))))<| .seq (.rg (.o none (.mv 17 (.t 3))<|
 .o none (.mv 2 (.t 17)) .nil))<| .ret⟩
theorem Qam2:Qe Tryz.prog Tryz.f57=some c57:=by kernel_rfl
def c87:SFn:=⟨17,[.t 4],.seq (.rg (.o none (.mv 4 (.c (.int .i64 0))) .nil))<| .seq (.seq (.rg (.o none (.mv 5 (.t 1))<|
 .o none (.bin 6 .lss false (.t 5) (.c (.int .i64 0)))<|
 .o none (.mv 7 (.t 6))<|
 .o (some (7,false)) (.mv 8 (.t 1))<|
 .o (some (7,false)) (.mv 9 (.t 0))<|
 .o (some (7,false)) (.len 10 (.t 9))<|
 .o (some (7,false)) (.bin 11 .geq false (.t 8) (.t 10))<|
 .o none (.pick 12 (.t 7) (.c (.bool true)) (.t 11)) .nil))<| .cond (.t 12) (.seq (.rg (.o none (.mv 4 (.c (.int .i64 0))) .nil))<| .ret) (.skip))<| .seq (.rg (.o none (.mv 13 (.t 0))<|
 .o none (.mv 14 (.t 1))<|
 .o none (.idx 15 1 (.t 13) (.t 14))<|
 .o none (.ld 16 1 false (.t 15))<|
 .o none (.mv 4 (.t 16)) .nil))<| .ret⟩
theorem Qam3:Qe Tryz.prog Tryz.f87=some c87:=by kernel_rfl
def c111:SFn:=⟨30,[.t 4],.seq (.rg (.o none (.mv 4 (.c .nilS)) .nil))<| .seq (.rg (.o none (.mv 5 (.c .nilS)) .nil))<| .seq (.seq (.rg (.o none (.mv 6 (.c (.int .i64 0))) .nil))<| .block 0 (.loop (.seq (.seq (.rg (.o none (.mv 7 (.t 6))<|
 .o none (.mv 8 (.t 0))<|
 .o none (.len 9 (.t 8))<|
 .o none (.bin 10 .lss false (.t 7) (.t 9))<|
 .o none (.mv 11 (.t 10))<|
 .o (some (11,false)) (.mv 12 (.t 6))<|
 .o (some (11,false)) (.mv 13 (.t 1))<|
 .o (some (11,false)) (.len 14 (.t 13))<|
 .o (some (11,false)) (.bin 15 .lss false (.t 12) (.t 14))<|
 .o none (.pick 16 (.t 11) (.c (.bool true)) (.t 15)) .nil))<| .cond (.t 16) (.skip) (.exit 0))<| .seq (.block 1 (.rg (.o none (.mv 19 (.t 5))<|
 .o none (.mv 20 (.t 0))<|
 .o none (.mv 21 (.t 6))<|
 .o none (.call (some 22) false (.c (.fn 87 [] [])) [(.t 20),(.t 21)])<|
 .o none (.mv 23 (.t 1))<|
 .o none (.mv 24 (.t 6))<|
 .o none (.call (some 25) false (.c (.fn 87 [] [])) [(.t 23),(.t 24)])<|
 .o none (.bin 26 .add false (.t 22) (.t 25))<|
 .o none (.bs 27 1 3 [(.t 26)])<|
 .o none (.app 28 1 8 3 (.t 19) (.t 27))<|
 .o none (.mv 5 (.t 28)) .nil)))<| .rg (.o none (.mv 17 (.t 6))<|
 .o none (.bin 18 .add false (.t 17) (.c (.int .i64 1)))<|
 .o none (.mv 6 (.t 18)) .nil))))<| .seq (.rg (.o none (.mv 29 (.t 5))<|
 .o none (.mv 4 (.t 29)) .nil))<| .ret⟩
theorem Qail:Qe Tryz.prog Tryz.f111=some c111:=by kernel_rfl
def c56:SFn:=⟨48,[.t 6],.seq (.rg (.o none (.mv 6 (.c (.int .i64 0))) .nil))<| .seq (.seq (.rg (.o none (.mv 8 (.t 2))<|
 .o none (.bin 9 .eql false (.t 8) (.c (.int .i64 1)))<|
 .o none (.mv 10 (.t 9))<|
 .o (some (10,true)) (.mv 11 (.t 0))<|
 .o (some (10,true)) (.call (some 12) false (.c (.fn 57 [] [])) [(.t 11)])<|
 .o (some (10,true)) (.mv 13 (.t 1))<|
 .o (some (10,true)) (.call (some 14) false (.c (.fn 57 [] [])) [(.t 13)])<|
 .o (some (10,true)) (.bin 15 .neq false (.t 12) (.t 14))<|
 .o none (.pick 16 (.t 10) (.t 15) (.c (.bool false))) .nil))<| .cond (.t 16) (.seq (.rg (.o none (.mv 17 (.t 0))<|
 .o none (.call (some 18) false (.c (.fn 57 [] [])) [(.t 17)])<|
 .o none (.mv 19 (.t 1))<|
 .o none (.call (some 20) false (.c (.fn 57 [] [])) [(.t 19)])<|
 .o none (.bin 21 .sub false (.t 18) (.t 20))<|
 .o none (.call (some 22) false (.c (.fn 102 [] [])) [(.t 21)])<|
 .o none (.mv 6 (.t 22)) .nil))<| .ret) (.skip))<| .seq (.seq (.rg (.o none (.mv 23 (.t 0))<|
 .o none (.len 24 (.t 23))<|
 .o none (.mv 25 (.t 1))<|
 .o none (.len 26 (.t 25))<|
 .o none (.mx 27 (.t 24) (.t 26))<|
 .o none (.bin 28 .sub false (.t 27) (.c (.int .i64 1)))<|
 .o none (.mv 7 (.t 28)) .nil))<| .block 0 (.loop (.seq (.seq (.rg (.o none (.mv 29 (.t 7))<|
 .o none (.bin 30 .geq false (.t 29) (.c (.int .i64 0))) .nil))<| .cond (.t 30) (.skip) (.exit 0))<| .seq (.block 1 (.seq (.rg (.o none (.mv 33 (.t 0))<|
 .o none (.mv 34 (.t 7))<|
 .o none (.call (some 35) false (.c (.fn 87 [] [])) [(.t 33),(.t 34)])<|
 .o none (.mv 36 (.t 1))<|
 .o none (.mv 37 (.t 7))<|
 .o none (.call (some 38) false (.c (.fn 87 [] [])) [(.t 36),(.t 37)])<|
 .o none (.bin 39 .neq false (.t 35) (.t 38)) .nil))<| .cond (.t 39) (.seq (.rg (.o none (.mv 40 (.t 0))<|
 .o none (.mv 41 (.t 7))<|
 .o none (.call (some 42) false (.c (.fn 87 [] [])) [(.t 40),(.t 41)])<|
 .o none (.mv 43 (.t 1))<|
 .o none (.mv 44 (.t 7))<|
 .o none (.call (some 45) false (.c (.fn 87 [] [])) [(.t 43),(.t 44)])<|
 .o none (.bin 46 .sub false (.t 42) (.t 45))<|
 .o none (.call (some 47) false (.c (.fn 102 [] [])) [(.t 46)])<|
 .o none (.mv 6 (.t 47)) .nil))<| .ret) (.skip)))<| .rg (.o none (.mv 31 (.t 7))<|
 .o none (.bin 32 .sub false (.t 31) (.c (.int .i64 1)))<|
 .o none (.mv 7 (.t 32)) .nil))))<| .seq (.rg (.o none (.mv 6 (.c (.int .i64 0))) .nil))<| .ret⟩
theorem Qam4:Qe Tryz.prog Tryz.f56=some c56:=by kernel_rfl
def c102:SFn:=⟨7,[.t 2],.seq (.rg (.o none (.mv 2 (.c (.int .i64 0))) .nil))<| .seq (.seq (.rg (.o none (.mv 3 (.t 0))<|
 .o none (.bin 4 .lss false (.t 3) (.c (.int .i64 0))) .nil))<| .cond (.t 4) (.seq (.rg (.o none (.mv 2 (.c (.int .i64 (-1)))) .nil))<| .ret) (.skip))<| .seq (.seq (.rg (.o none (.mv 5 (.t 0))<|
 .o none (.bin 6 .gtr false (.t 5) (.c (.int .i64 0))) .nil))<| .cond (.t 6) (.seq (.rg (.o none (.mv 2 (.c (.int .i64 1))) .nil))<| .ret) (.skip))<| .seq (.rg (.o none (.mv 2 (.c (.int .i64 0))) .nil))<| .ret⟩
theorem Qaim:Qe Tryz.prog Tryz.f102=some c102:=by kernel_rfl
def c29:SFn:=⟨92,[.t 4],.seq (.rg (.o none (.mv 4 (.c .nilS)) .nil))<| .seq (.rg (.o none (.mv 5 (.c .nilS)) .nil))<| .seq (.rg (.o none (.mv 6 (.c (.int .i64 0)))<|
 .o none (.mv 7 (.c (.int .i64 0))) .nil))<| .seq (.block 0 (.loop (.seq (.seq (.rg (.o none (.mv 10 (.t 6))<|
 .o none (.mv 11 (.t 0))<|
 .o none (.len 12 (.t 11))<|
 .o none (.bin 13 .lss false (.t 10) (.t 12))<|
 .o none (.mv 14 (.t 13))<|
 .o (some (14,false)) (.mv 15 (.t 7))<|
 .o (some (14,false)) (.mv 16 (.t 1))<|
 .o (some (14,false)) (.len 17 (.t 16))<|
 .o (some (14,false)) (.bin 18 .lss false (.t 15) (.t 17))<|
 .o none (.pick 19 (.t 14) (.c (.bool true)) (.t 18)) .nil))<| .cond (.t 19) (.skip) (.exit 0))<| .block 1 (.seq (.rg (.o none (.mv 8 (.c (.int .i64 1))) .nil))<| .seq (.seq (.rg (.o none (.mv 20 (.t 6))<|
 .o none (.mv 21 (.t 0))<|
 .o none (.len 22 (.t 21))<|
 .o none (.bin 23 .eql false (.t 20) (.t 22)) .nil))<| .cond (.t 23) (.rg (.o none (.mv 8 (.c (.int .i64 (-1)))) .nil)) (.seq (.rg (.o none (.mv 24 (.t 7))<|
 .o none (.mv 25 (.t 1))<|
 .o none (.len 26 (.t 25))<|
 .o none (.bin 27 .lss false (.t 24) (.t 26)) .nil))<| .cond (.t 27) (.rg (.o none (.mv 28 (.t 0))<|
 .o none (.mv 29 (.t 6))<|
 .o none (.idx 30 4 (.t 28) (.t 29))<|
 .o none (.fld 31 3 (.t 30))<|
 .o none (.ld 32 1 false (.t 31))<|
 .o none (.mv 33 (.t 1))<|
 .o none (.mv 34 (.t 7))<|
 .o none (.idx 35 4 (.t 33) (.t 34))<|
 .o none (.fld 36 3 (.t 35))<|
 .o none (.ld 37 1 false (.t 36))<|
 .o none (.call (some 38) false (.c (.fn 56 [] [])) [(.t 32),(.t 37),(.c (.int .i64 0))])<|
 .o none (.mv 8 (.t 38)) .nil)) (.skip)))<| .block 2 (.seq (.rg (.o none (.mv 68 (.t 8))<|
 .o none (.bin 69 .gtr false (.t 68) (.c (.int .i64 0)))<|
 .o none (.mv 67 (.t 69)) .nil))<| .cond (.t 67) (.seq (.rg (.o none (.mv 70 (.t 5))<|
 .o none (.mv 71 (.t 0))<|
 .o none (.mv 72 (.t 6))<|
 .o none (.idx 73 4 (.t 71) (.t 72))<|
 .o none (.ld 74 4 true (.t 73))<|
 .o none (.bs 75 4 54 [(.t 74)])<|
 .o none (.app 76 4 80 54 (.t 70) (.t 75))<|
 .o none (.mv 5 (.t 76)) .nil))<| .rg (.o none (.mv 77 (.t 6))<|
 .o none (.bin 78 .add false (.t 77) (.c (.int .i64 1)))<|
 .o none (.mv 6 (.t 78)) .nil)) (.seq (.rg (.o none (.mv 80 (.t 8))<|
 .o none (.bin 81 .lss false (.t 80) (.c (.int .i64 0)))<|
 .o none (.mv 79 (.t 81)) .nil))<| .cond (.t 79) (.seq (.rg (.o none (.mv 82 (.t 5))<|
 .o none (.mv 83 (.t 1))<|
 .o none (.mv 84 (.t 7))<|
 .o none (.idx 85 4 (.t 83) (.t 84))<|
 .o none (.ld 86 4 true (.t 85))<|
 .o none (.bs 87 4 54 [(.t 86)])<|
 .o none (.app 88 4 80 54 (.t 82) (.t 87))<|
 .o none (.mv 5 (.t 88)) .nil))<| .rg (.o none (.mv 89 (.t 7))<|
 .o none (.bin 90 .add false (.t 89) (.c (.int .i64 1)))<|
 .o none (.mv 7 (.t 90)) .nil)) (.seq (.seq (.rg (.o none (.mv 39 (.t 0))<|
 .o none (.mv 40 (.t 6))<|
 .o none (.idx 41 4 (.t 39) (.t 40))<|
 .o none (.fld 42 0 (.t 41))<|
 .o none (.ld 43 3 true (.t 42))<|
 .o none (.mv 44 (.t 1))<|
 .o none (.mv 45 (.t 7))<|
 .o none (.idx 46 4 (.t 44) (.t 45))<|
 .o none (.fld 47 0 (.t 46))<|
 .o none (.ld 48 3 true (.t 47))<|
 .br (.o none (.call (some 49) true (.c (.fn 63 [] [])) [(.t 43),(.t 48)])<|
 .o none (.alloc 9 3 51 (.agg [(.bool false),.nilS,.nilS]))<|
 .o none (.st 3 (.t 9) (.t 49)) .nil) (.o none (.alloc 9 3 51 (.agg [(.bool false),.nilS,.nilS]))<|
 .o none (.call (some 49) true (.c (.fn 63 [] [])) [(.t 43),(.t 48)])<|
 .o none (.st 3 (.t 9) (.t 49)) .nil)))<| .seq (.rg (.o none (.ld 50 3 true (.t 9))<|
 .o none (.call (some 51) false (.c (.fn 54 [] [])) [(.t 50)])<|
 .o none (.bin 52 .neq false (.t 51) (.c (.int .i64 0))) .nil))<| .cond (.t 52) (.rg (.o none (.mv 53 (.t 5))<|
 .o none (.ld 54 3 true (.t 9))<|
 .o none (.mv 55 (.t 0))<|
 .o none (.mv 56 (.t 6))<|
 .o none (.idx 57 4 (.t 55) (.t 56))<|
 .o none (.fld 58 3 (.t 57))<|
 .o none (.ld 59 1 false (.t 58))<|
 .o none (.bld 60 [(.bool false),.nilS,.nilS,.nilS] [(0,3,(.t 54)),(3,1,(.t 59))])<|
 .o none (.bs 61 4 54 [(.t 60)])<|
 .o none (.app 62 4 80 54 (.t 53) (.t 61))<|
 .o none (.mv 5 (.t 62)) .nil)) (.skip))<| .seq (.rg (.o none (.mv 63 (.t 6))<|
 .o none (.bin 64 .add false (.t 63) (.c (.int .i64 1)))<|
 .o none (.mv 6 (.t 64)) .nil))<| .rg (.o none (.mv 65 (.t 7))<|
 .o none (.bin 66 .add false (.t 65) (.c (.int .i64 1)))<|
 .o none (.mv 7 (.t 66)) .nil))))))))<| .seq (.rg (.o none (.mv 91 (.t 5))<|
 .o none (.mv 4 (.t 91)) .nil))<| .ret⟩
theorem Qam5:Qe Tryz.prog Tryz.f29=some c29:=by kernel_rfl
def c67:SFn:=⟨58,[.t 4],.seq (.rg (.o none (.mv 4 (.c (.int .i64 0))) .nil))<| .seq (.seq (.rg (.o none (.mv 5 (.c (.int .i64 0))) .nil))<| .block 0 (.loop (.seq (.seq (.rg (.o none (.mv 8 (.t 5))<|
 .o none (.mv 9 (.t 0))<|
 .o none (.len 10 (.t 9))<|
 .o none (.bin 11 .lss false (.t 8) (.t 10))<|
 .o none (.mv 12 (.t 11))<|
 .o (some (12,true)) (.mv 13 (.t 5))<|
 .o (some (12,true)) (.mv 14 (.t 1))<|
 .o (some (12,true)) (.len 15 (.t 14))<|
 .o (some (12,true)) (.bin 16 .lss false (.t 13) (.t 15))<|
 .o none (.pick 17 (.t 12) (.t 16) (.c (.bool false))) .nil))<| .cond (.t 17) (.skip) (.exit 0))<| .seq (.block 1 (.seq (.seq (.rg (.o none (.mv 20 (.t 0))<|
 .o none (.mv 21 (.t 5))<|
 .o none (.idx 22 4 (.t 20) (.t 21))<|
 .o none (.fld 23 3 (.t 22))<|
 .o none (.ld 24 1 false (.t 23))<|
 .o none (.mv 25 (.t 1))<|
 .o none (.mv 26 (.t 5))<|
 .o none (.idx 27 4 (.t 25) (.t 26))<|
 .o none (.fld 28 3 (.t 27))<|
 .o none (.ld 29 1 false (.t 28))<|
 .o none (.call (some 30) false (.c (.fn 56 [] [])) [(.t 24),(.t 29),(.c (.int .i64 0))])<|
 .o none (.mv 6 (.t 30)) .nil))<| .seq (.rg (.o none (.mv 31 (.t 6))<|
 .o none (.bin 32 .neq false (.t 31) (.c (.int .i64 0))) .nil))<| .cond (.t 32) (.seq (.rg (.o none (.mv 33 (.t 6))<|
 .o none (.mv 4 (.t 33)) .nil))<| .ret) (.skip))<| .seq (.rg (.o none (.mv 34 (.t 0))<|
 .o none (.mv 35 (.t 5))<|
 .o none (.idx 36 4 (.t 34) (.t 35))<|
 .o none (.fld 37 0 (.t 36))<|
 .o none (.ld 38 3 true (.t 37))<|
 .o none (.mv 39 (.t 1))<|
 .o none (.mv 40 (.t 5))<|
 .o none (.idx 41 4 (.t 39) (.t 40))<|
 .o none (.fld 42 0 (.t 41))<|
 .o none (.ld 43 3 true (.t 42))<|
 .o none (.call (some 44) false (.c (.fn 114 [] [])) [(.t 38),(.t 43)])<|
 .o none (.mv 7 (.t 44)) .nil))<| .seq (.rg (.o none (.mv 45 (.t 7))<|
 .o none (.bin 46 .neq false (.t 45) (.c (.int .i64 0))) .nil))<| .cond (.t 46) (.seq (.rg (.o none (.mv 47 (.t 7))<|
 .o none (.mv 4 (.t 47)) .nil))<| .ret) (.skip)))<| .rg (.o none (.mv 18 (.t 5))<|
 .o none (.bin 19 .add false (.t 18) (.c (.int .i64 1)))<|
 .o none (.mv 5 (.t 19)) .nil))))<| .seq (.seq (.rg (.o none (.mv 48 (.t 0))<|
 .o none (.len 49 (.t 48))<|
 .o none (.mv 50 (.t 1))<|
 .o none (.len 51 (.t 50))<|
 .o none (.bin 52 .lss false (.t 49) (.t 51)) .nil))<| .cond (.t 52) (.seq (.rg (.o none (.mv 4 (.c (.int .i64 (-1)))) .nil))<| .ret) (.skip))<| .seq (.seq (.rg (.o none (.mv 53 (.t 0))<|
 .o none (.len 54 (.t 53))<|
 .o none (.mv 55 (.t 1))<|
 .o none (.len 56 (.t 55))<|
 .o none (.bin 57 .gtr false (.t 54) (.t 56)) .nil))<| .cond (.t 57) (.seq (.rg (.o none (.mv 4 (.c (.int .i64 1))) .nil))<| .ret) (.skip))<| .seq (.rg (.o none (.mv 4 (.c (.int .i64 0))) .nil))<| .ret⟩
theorem Qam6:Qe Tryz.prog Tryz.f67=some c67:=by kernel_rfl
def c31:SFn:=⟨5,[.t 2],.seq (.rg (.o none (.box 1 3 51 (.t 0))<|
 .o none (.mv 2 (.c .nilS)) .nil))<| .seq (.rg (.o none (.ld 3 3 true (.t 1))<|
 .o none (.call (some 4) false (.c (.fn 58 [] [])) [(.c .nilS),(.t 3),(.c .nilS)])<|
 .o none (.mv 2 (.t 4)) .nil))<| .ret⟩
theorem Qam7:Qe Tryz.prog Tryz.f31=some c31:=by kernel_rfl
def c25:SFn:=⟨20,[.t 2],.seq (.rg (.o none (.mv 2 (.c (.int .i64 0))) .nil))<| .seq (.rg (.o none (.mv 3 (.c (.int .i64 (-1)))) .nil))<| .seq (.seq (.rg (.o none (.mv 4 (.c (.int .i64 0))) .nil))<| .block 0 (.loop (.seq (.seq (.rg (.o none (.mv 5 (.t 4))<|
 .o none (.mv 6 (.t 0))<|
 .o none (.len 7 (.t 6))<|
 .o none (.bin 8 .lss false (.t 5) (.t 7)) .nil))<| .cond (.t 8) (.skip) (.exit 0))<| .seq (.block 1 (.rg (.o none (.mv 11 (.t 3))<|
 .o none (.mv 12 (.t 0))<|
 .o none (.mv 13 (.t 4))<|
 .o none (.idx 14 4 (.t 12) (.t 13))<|
 .o none (.fld 15 3 (.t 14))<|
 .o none (.ld 16 1 false (.t 15))<|
 .o none (.call (some 17) false (.c (.fn 57 [] [])) [(.t 16)])<|
 .o none (.mx 18 (.t 11) (.t 17))<|
 .o none (.mv 3 (.t 18)) .nil)))<| .rg (.o none (.mv 9 (.t 4))<|
 .o none (.bin 10 .add false (.t 9) (.c (.int .i64 1)))<|
 .o none (.mv 4 (.t 10)) .nil))))<| .seq (.rg (.o none (.mv 19 (.t 3))<|
 .o none (.mv 2 (.t 19)) .nil))<| .ret⟩
theorem Qam8:Qe Tryz.prog Tryz.f25=some c25:=by kernel_rfl
def c33:SFn:=⟨9,[.t 4],.seq (.rg (.o none (.mv 4 (.c (.bool false))) .nil))<| .seq (.rg (.o none (.mv 5 (.t 0))<|
 .o none (.mv 6 (.t 1))<|
 .o none (.call (some 7) false (.c (.fn 67 [] [])) [(.t 5),(.t 6)])<|
 .o none (.bin 8 .eql false (.t 7) (.c (.int .i64 0)))<|
 .o none (.mv 4 (.t 8)) .nil))<| .ret⟩
theorem Qam9:Qe Tryz.prog Tryz.f33=some c33:=by kernel_rfl
def c41:SFn:=⟨33,[.t 2],.seq (.rg (.o none (.mv 2 (.c (.bool false))) .nil))<| .seq (.seq (.rg (.o none (.mv 3 (.c (.int .i64 0))) .nil))<| .block 0 (.loop (.seq (.seq (.rg (.o none (.mv 5 (.t 3))<|
 .o none (.mv 6 (.t 0))<|
 .o none (.len 7 (.t 6))<|
 .o none (.bin 8 .lss false (.t 5) (.t 7)) .nil))<| .cond (.t 8) (.skip) (.exit 0))<| .seq (.block 1 (.seq (.rg (.o none (.mv 4 (.c (.int .i64 0))) .nil))<| .block 2 (.loop (.seq (.seq (.rg (.o none (.mv 11 (.t 4))<|
 .o none (.mv 12 (.t 0))<|
 .o none (.mv 13 (.t 3))<|
 .o none (.idx 14 4 (.t 12) (.t 13))<|
 .o none (.fld 15 3 (.t 14))<|
 .o none (.ld 16 1 false (.t 15))<|
 .o none (.len 17 (.t 16))<|
 .o none (.bin 18 .lss false (.t 11) (.t 17)) .nil))<| .cond (.t 18) (.skip) (.exit 2))<| .seq (.block 3 (.seq (.rg (.o none (.mv 21 (.t 0))<|
 .o none (.mv 22 (.t 3))<|
 .o none (.idx 23 4 (.t 21) (.t 22))<|
 .o none (.fld 24 3 (.t 23))<|
 .o none (.ld 25 1 false (.t 24))<|
 .o none (.mv 26 (.t 4))<|
 .o none (.idx 27 1 (.t 25) (.t 26))<|
 .o none (.ld 28 1 false (.t 27))<|
 .o none (.bin 29 .gtr false (.t 28) (.c (.int .i64 1048576))) .nil))<| .cond (.t 29) (.seq (.rg (.o none (.mv 2 (.c (.bool true))) .nil))<| .ret) (.skip)))<| .rg (.o none (.mv 19 (.t 4))<|
 .o none (.bin 20 .add false (.t 19) (.c (.int .i64 1)))<|
 .o none (.mv 4 (.t 20)) .nil)))))<| .rg (.o none (.mv 9 (.t 3))<|
 .o none (.bin 10 .add false (.t 9) (.c (.int .i64 1)))<|
 .o none (.mv 3 (.t 10)) .nil))))<| .seq (.rg (.o none (.mv 30 (.t 0))<|
 .o none (.len 31 (.t 30))<|
 .o none (.bin 32 .gtr false (.t 31) (.c (.int .i64 4000)))<|
 .o none (.mv 2 (.t 32)) .nil))<| .ret⟩
theorem Qana:Qe Tryz.prog Tryz.f41=some c41:=by kernel_rfl
def c30:SFn:=⟨22,[.t 4],.seq (.rg (.o none (.mv 4 (.c .nilS)) .nil))<| .seq (.rg (.o none (.mv 5 (.c .nilS)) .nil))<| .seq (.seq (.rg (.o none (.mv 6 (.c (.int .i64 0))) .nil))<| .block 0 (.loop (.seq (.seq (.rg (.o none (.mv 7 (.t 6))<|
 .o none (.mv 8 (.t 1))<|
 .o none (.len 9 (.t 8))<|
 .o none (.bin 10 .lss false (.t 7) (.t 9)) .nil))<| .cond (.t 10) (.skip) (.exit 0))<| .seq (.block 1 (.rg (.o none (.mv 13 (.t 5))<|
 .o none (.mv 14 (.t 0))<|
 .o none (.mv 15 (.t 1))<|
 .o none (.mv 16 (.t 6))<|
 .o none (.idx 17 4 (.t 15) (.t 16))<|
 .o none (.ld 18 4 true (.t 17))<|
 .o none (.call (some 19) false (.c (.fn 64 [] [])) [(.t 14),(.t 18)])<|
 .o none (.call (some 20) false (.c (.fn 29 [] [])) [(.t 13),(.t 19)])<|
 .o none (.mv 5 (.t 20)) .nil)))<| .rg (.o none (.mv 11 (.t 6))<|
 .o none (.bin 12 .add false (.t 11) (.c (.int .i64 1)))<|
 .o none (.mv 6 (.t 12)) .nil))))<| .seq (.rg (.o none (.mv 21 (.t 5))<|
 .o none (.mv 4 (.t 21)) .nil))<| .ret⟩
theorem Qanb:Qe Tryz.prog Tryz.f30=some c30:=by kernel_rfl
def c62:SFn:=⟨6,[.t 2],.seq (.rg (.o none (.mv 2 (.c .nilS)) .nil))<| .seq (.rg (.o none (.mv 3 (.t 0))<|
 .o none (.call (some 4) false (.c (.fn 44 [] [])) [(.c (.int .i64 (-1)))])<|
 .o none (.call (some 5) false (.c (.fn 105 [] [])) [(.t 3),(.t 4)])<|
 .o none (.mv 2 (.t 5)) .nil))<| .ret⟩
theorem Qanc:Qe Tryz.prog Tryz.f62=some c62:=by kernel_rfl
def c89:SFn:=⟨34,[.t 2],.seq (.rg (.o none (.mv 2 (.c .nilS)) .nil))<| .seq (.rg (.o none (.mv 3 (.c .nilS)) .nil))<| .seq (.seq (.rg (.o none (.mv 4 (.c (.int .i64 0))) .nil))<| .block 0 (.loop (.seq (.seq (.rg (.o none (.mv 6 (.t 4))<|
 .o none (.mv 7 (.t 0))<|
 .o none (.len 8 (.t 7))<|
 .o none (.bin 9 .lss false (.t 6) (.t 8)) .nil))<| .cond (.t 9) (.skip) (.exit 0))<| .seq (.block 1 (.seq (.rg (.o none (.mv 12 (.t 0))<|
 .o none (.mv 13 (.t 4))<|
 .o none (.idx 14 4 (.t 12) (.t 13))<|
 .o none (.fld 15 3 (.t 14))<|
 .o none (.ld 16 1 false (.t 15))<|
 .o none (.call (some 17) false (.c (.fn 135 [] [])) [(.t 16)])<|
 .o none (.mv 5 (.t 17)) .nil))<| .seq (.rg (.o none (.mv 18 (.t 0))<|
 .o none (.mv 19 (.t 4))<|
 .o none (.idx 20 4 (.t 18) (.t 19))<|
 .o none (.fld 21 3 (.t 20))<|
 .o none (.ld 22 1 false (.t 21))<|
 .o none (.mv 23 (.t 5))<|
 .o none (.call (some 24) false (.c (.fn 136 [] [])) [(.t 22),(.t 23)]) .nil))<| .cond (.t 24) (.rg (.o none (.mv 25 (.t 3))<|
 .o none (.mv 26 (.t 0))<|
 .o none (.mv 27 (.t 4))<|
 .o none (.idx 28 4 (.t 26) (.t 27))<|
 .o none (.fld 29 0 (.t 28))<|
 .o none (.ld 30 3 true (.t 29))<|
 .o none (.mv 31 (.t 5))<|
 .o none (.call (some 32) false (.c (.fn 58 [] [])) [(.t 25),(.t 30),(.t 31)])<|
 .o none (.mv 3 (.t 32)) .nil)) (.skip)))<| .rg (.o none (.mv 10 (.t 4))<|
 .o none (.bin 11 .add false (.t 10) (.c (.int .i64 1)))<|
 .o none (.mv 4 (.t 11)) .nil))))<| .seq (.rg (.o none (.mv 33 (.t 3))<|
 .o none (.mv 2 (.t 33)) .nil))<| .ret⟩
theorem Qand:Qe Tryz.prog Tryz.f89=some c89:=by kernel_rfl
def c19:SFn:=⟨52,[.t 2],.seq (.rg (.o none (.mv 2 (.c (.bool false))) .nil))<| .seq (.seq (.rg (.o none (.mv 3 (.c (.int .i64 0))) .nil))<| .block 0 (.loop (.seq (.seq (.rg (.o none (.mv 4 (.t 3))<|
 .o none (.mv 5 (.t 0))<|
 .o none (.len 6 (.t 5))<|
 .o none (.bin 7 .lss false (.t 4) (.t 6)) .nil))<| .cond (.t 7) (.skip) (.exit 0))<| .seq (.block 1 (.seq (.seq (.rg (.o none (.mv 10 (.t 0))<|
 .o none (.mv 11 (.t 3))<|
 .o none (.idx 12 4 (.t 10) (.t 11))<|
 .o none (.fld 13 0 (.t 12))<|
 .o none (.ld 14 3 true (.t 13))<|
 .o none (.call (some 15) false (.c (.fn 53 [] [])) [(.t 14)])<|
 .o none (.un 16 .not (.t 15))<|
 .o none (.mv 17 (.t 16))<|
 .o (some (17,false)) (.mv 18 (.t 0))<|
 .o (some (17,false)) (.mv 19 (.t 3))<|
 .o (some (17,false)) (.idx 20 4 (.t 18) (.t 19))<|
 .o (some (17,false)) (.fld 21 0 (.t 20))<|
 .o (some (17,false)) (.ld 22 3 true (.t 21))<|
 .o (some (17,false)) (.call (some 23) false (.c (.fn 54 [] [])) [(.t 22)])<|
 .o (some (17,false)) (.bin 24 .eql false (.t 23) (.c (.int .i64 0)))<|
 .o none (.pick 25 (.t 17) (.c (.bool true)) (.t 24))<|
 .o none (.mv 26 (.t 25))<|
 .o (some (26,false)) (.mv 27 (.t 0))<|
 .o (some (26,false)) (.mv 28 (.t 3))<|
 .o (some (26,false)) (.idx 29 4 (.t 27) (.t 28))<|
 .o (some (26,false)) (.fld 30 3 (.t 29))<|
 .o (some (26,false)) (.ld 31 1 false (.t 30))<|
 .o (some (26,false)) (.call (some 32) false (.c (.fn 55 [] [])) [(.t 31)])<|
 .o (some (26,false)) (.un 33 .not (.t 32))<|
 .o none (.pick 34 (.t 26) (.c (.bool true)) (.t 33)) .nil))<| .cond (.t 34) (.seq (.rg (.o none (.mv 2 (.c (.bool false))) .nil))<| .ret) (.skip))<| .seq (.rg (.o none (.mv 35 (.t 3))<|
 .o none (.bin 36 .gtr false (.t 35) (.c (.int .i64 0)))<|
 .o none (.mv 37 (.t 36))<|
 .o (some (37,true)) (.mv 38 (.t 0))<|
 .o (some (37,true)) (.mv 39 (.t 3))<|
 .o (some (37,true)) (.bin 40 .sub false (.t 39) (.c (.int .i64 1)))<|
 .o (some (37,true)) (.idx 41 4 (.t 38) (.t 40))<|
 .o (some (37,true)) (.fld 42 3 (.t 41))<|
 .o (some (37,true)) (.ld 43 1 false (.t 42))<|
 .o (some (37,true)) (.mv 44 (.t 0))<|
 .o (some (37,true)) (.mv 45 (.t 3))<|
 .o (some (37,true)) (.idx 46 4 (.t 44) (.t 45))<|
 .o (some (37,true)) (.fld 47 3 (.t 46))<|
 .o (some (37,true)) (.ld 48 1 false (.t 47))<|
 .o (some (37,true)) (.call (some 49) false (.c (.fn 56 [] [])) [(.t 43),(.t 48),(.c (.int .i64 0))])<|
 .o (some (37,true)) (.bin 50 .leq false (.t 49) (.c (.int .i64 0)))<|
 .o none (.pick 51 (.t 37) (.t 50) (.c (.bool false))) .nil))<| .cond (.t 51) (.seq (.rg (.o none (.mv 2 (.c (.bool false))) .nil))<| .ret) (.skip)))<| .rg (.o none (.mv 8 (.t 3))<|
 .o none (.bin 9 .add false (.t 8) (.c (.int .i64 1)))<|
 .o none (.mv 3 (.t 9)) .nil))))<| .seq (.rg (.o none (.mv 2 (.c (.bool true))) .nil))<| .ret⟩
theorem Qane:Qe Tryz.prog Tryz.f19=some c19:=by kernel_rfl
def c105:SFn:=⟨35,[.t 4],.seq (.rg (.o none (.box 3 3 51 (.t 1))<|
 .o none (.mv 4 (.c .nilS)) .nil))<| .seq (.rg (.o none (.mv 5 (.c .nilS)) .nil))<| .seq (.seq (.rg (.o none (.mv 6 (.c (.int .i64 0))) .nil))<| .block 0 (.loop (.seq (.seq (.rg (.o none (.mv 7 (.t 6))<|
 .o none (.mv 8 (.t 0))<|
 .o none (.len 9 (.t 8))<|
 .o none (.bin 10 .lss false (.t 7) (.t 9))<|
 .o none (.mv 11 (.t 10))<|
 .o (some (11,true)) (.ld 12 3 true (.t 3))<|
 .o (some (11,true)) (.call (some 13) false (.c (.fn 54 [] [])) [(.t 12)])<|
 .o (some (11,true)) (.bin 14 .neq false (.t 13) (.c (.int .i64 0)))<|
 .o none (.pick 15 (.t 11) (.t 14) (.c (.bool false))) .nil))<| .cond (.t 15) (.skip) (.exit 0))<| .seq (.block 1 (.rg (.o none (.mv 18 (.t 5))<|
 .o none (.mv 19 (.t 0))<|
 .o none (.mv 20 (.t 6))<|
 .o none (.idx 21 4 (.t 19) (.t 20))<|
 .o none (.fld 22 0 (.t 21))<|
 .o none (.ld 23 3 true (.t 22))<|
 .o none (.ld 24 3 true (.t 3))<|
 .o none (.mv 26 (.t 0))<|
 .o none (.mv 27 (.t 6))<|
 .o none (.idx 28 4 (.t 26) (.t 27))<|
 .o none (.fld 29 3 (.t 28))<|
 .o none (.ld 30 1 false (.t 29))<|
 .o none (.call (some 25) true (.c (.fn 110 [] [])) [(.t 23),(.t 24)])<|
 .o none (.bld 31 [(.bool false),.nilS,.nilS,.nilS] [(0,3,(.t 25)),(3,1,(.t 30))])<|
 .o none (.bs 32 4 54 [(.t 31)])<|
 .o none (.app 33 4 80 54 (.t 18) (.t 32))<|
 .o none (.mv 5 (.t 33)) .nil)))<| .rg (.o none (.mv 16 (.t 6))<|
 .o none (.bin 17 .add false (.t 16) (.c (.int .i64 1)))<|
 .o none (.mv 6 (.t 17)) .nil))))<| .seq (.rg (.o none (.mv 34 (.t 5))<|
 .o none (.mv 4 (.t 34)) .nil))<| .ret⟩
theorem Qain:Qe Tryz.prog Tryz.f105=some c105:=by kernel_rfl
def c24:SFn:=⟨72,[.t 8],.seq (.rg (.o none (.mv 8 (.c (.bool false))) .nil))<| .seq (.seq (.rg (.o none (.mv 11 (.t 0))<|
 .o none (.len 12 (.t 11))<|
 .o none (.mv 13 (.t 1))<|
 .o none (.bin 14 .gtr false (.t 12) (.t 13)) .nil))<| .cond (.t 14) (.seq (.rg (.o none (.mv 8 (.c (.bool false))) .nil))<| .ret) (.skip))<| .seq (.seq (.rg (.o none (.mv 9 (.c (.int .i64 0))) .nil))<| .block 0 (.loop (.seq (.seq (.rg (.o none (.mv 15 (.t 9))<|
 .o none (.mv 16 (.t 0))<|
 .o none (.len 17 (.t 16))<|
 .o none (.bin 18 .lss false (.t 15) (.t 17)) .nil))<| .cond (.t 18) (.skip) (.exit 0))<| .seq (.block 1 (.seq (.seq (.rg (.o none (.mv 21 (.t 0))<|
 .o none (.mv 22 (.t 9))<|
 .o none (.idx 23 4 (.t 21) (.t 22))<|
 .o none (.fld 24 3 (.t 23))<|
 .o none (.ld 25 1 false (.t 24))<|
 .o none (.len 26 (.t 25))<|
 .o none (.mv 27 (.t 2))<|
 .o none (.bin 28 .gtr false (.t 26) (.t 27))<|
 .o none (.mv 29 (.t 28))<|
 .o (some (29,false)) (.mv 30 (.t 0))<|
 .o (some (29,false)) (.mv 31 (.t 9))<|
 .o (some (29,false)) (.idx 32 4 (.t 30) (.t 31))<|
 .o (some (29,false)) (.fld 33 0 (.t 32))<|
 .o (some (29,false)) (.fld 34 0 (.t 33))<|
 .o (some (29,false)) (.fld 35 1 (.t 34))<|
 .o (some (29,false)) (.ld 36 1 false (.t 35))<|
 .o (some (29,false)) (.len 37 (.t 36))<|
 .o (some (29,false)) (.bin 38 .gtr false (.t 37) (.c (.int .i64 4)))<|
 .o none (.pick 39 (.t 29) (.c (.bool true)) (.t 38))<|
 .o none (.mv 40 (.t 39))<|
 .o (some (40,false)) (.mv 41 (.t 0))<|
 .o (some (40,false)) (.mv 42 (.t 9))<|
 .o (some (40,false)) (.idx 43 4 (.t 41) (.t 42))<|
 .o (some (40,false)) (.fld 44 0 (.t 43))<|
 .o (some (40,false)) (.fld 45 2 (.t 44))<|
 .o (some (40,false)) (.ld 46 1 false (.t 45))<|
 .o (some (40,false)) (.len 47 (.t 46))<|
 .o (some (40,false)) (.bin 48 .gtr false (.t 47) (.c (.int .i64 4)))<|
 .o none (.pick 49 (.t 40) (.c (.bool true)) (.t 48)) .nil))<| .cond (.t 49) (.seq (.rg (.o none (.mv 8 (.c (.bool false))) .nil))<| .ret) (.skip))<| .seq (.rg (.o none (.mv 10 (.c (.int .i64 0))) .nil))<| .block 2 (.loop (.seq (.seq (.rg (.o none (.mv 50 (.t 10))<|
 .o none (.mv 51 (.t 0))<|
 .o none (.mv 52 (.t 9))<|
 .o none (.idx 53 4 (.t 51) (.t 52))<|
 .o none (.fld 54 3 (.t 53))<|
 .o none (.ld 55 1 false (.t 54))<|
 .o none (.len 56 (.t 55))<|
 .o none (.bin 57 .lss false (.t 50) (.t 56)) .nil))<| .cond (.t 57) (.skip) (.exit 2))<| .seq (.block 3 (.seq (.rg (.o none (.mv 60 (.t 0))<|
 .o none (.mv 61 (.t 9))<|
 .o none (.idx 62 4 (.t 60) (.t 61))<|
 .o none (.fld 63 3 (.t 62))<|
 .o none (.ld 64 1 false (.t 63))<|
 .o none (.mv 65 (.t 10))<|
 .o none (.idx 66 1 (.t 64) (.t 65))<|
 .o none (.ld 67 1 false (.t 66))<|
 .o none (.mv 68 (.t 3))<|
 .o none (.bin 69 .gtr false (.t 67) (.t 68)) .nil))<| .cond (.t 69) (.seq (.rg (.o none (.mv 8 (.c (.bool false))) .nil))<| .ret) (.skip)))<| .rg (.o none (.mv 58 (.t 10))<|
 .o none (.bin 59 .add false (.t 58) (.c (.int .i64 1)))<|
 .o none (.mv 10 (.t 59)) .nil)))))<| .rg (.o none (.mv 19 (.t 9))<|
 .o none (.bin 20 .add false (.t 19) (.c (.int .i64 1)))<|
 .o none (.mv 9 (.t 20)) .nil))))<| .seq (.rg (.o none (.mv 70 (.t 0))<|
 .o none (.call (some 71) false (.c (.fn 19 [] [])) [(.t 70)])<|
 .o none (.mv 8 (.t 71)) .nil))<| .ret⟩
theorem Qanf:Qe Tryz.prog Tryz.f24=some c24:=by kernel_rfl
def c28:SFn:=⟨9,[.t 4],.seq (.rg (.o none (.mv 4 (.c .nilS)) .nil))<| .seq (.rg (.o none (.mv 5 (.t 0))<|
 .o none (.mv 6 (.t 1))<|
 .o none (.call (some 7) false (.c (.fn 62 [] [])) [(.t 6)])<|
 .o none (.call (some 8) false (.c (.fn 29 [] [])) [(.t 5),(.t 7)])<|
 .o none (.mv 4 (.t 8)) .nil))<| .ret⟩
theorem Qang:Qe Tryz.prog Tryz.f28=some c28:=by kernel_rfl
def c58:SFn:=⟨88,[.t 6],.seq (.rg (.o none (.box 4 3 51 (.t 1))<|
 .o none (.mv 6 (.c .nilS)) .nil))<| .seq (.rg (.o none (.mv 10 (.t 0))<|
 .o none (.len 11 (.t 10))<|
 .o none (.mv 7 (.t 11)) .nil))<| .seq (.block 0 (.loop (.seq (.seq (.rg (.o none (.mv 12 (.t 7))<|
 .o none (.bin 13 .gtr false (.t 12) (.c (.int .i64 0)))<|
 .o none (.mv 14 (.t 13))<|
 .o (some (14,true)) (.mv 15 (.t 0))<|
 .o (some (14,true)) (.mv 16 (.t 7))<|
 .o (some (14,true)) (.bin 17 .sub false (.t 16) (.c (.int .i64 1)))<|
 .o (some (14,true)) (.idx 18 4 (.t 15) (.t 17))<|
 .o (some (14,true)) (.fld 19 3 (.t 18))<|
 .o (some (14,true)) (.ld 20 1 false (.t 19))<|
 .o (some (14,true)) (.mv 21 (.t 2))<|
 .o (some (14,true)) (.call (some 22) false (.c (.fn 56 [] [])) [(.t 20),(.t 21),(.c (.int .i64 0))])<|
 .o (some (14,true)) (.bin 23 .lss false (.t 22) (.c (.int .i64 0)))<|
 .o none (.pick 24 (.t 14) (.t 23) (.c (.bool false))) .nil))<| .cond (.t 24) (.skip) (.exit 0))<| .block 1 (.rg (.o none (.mv 25 (.t 7))<|
 .o none (.bin 26 .sub false (.t 25) (.c (.int .i64 1)))<|
 .o none (.mv 7 (.t 26)) .nil)))))<| .seq (.rg (.o none (.mv 8 (.c .nilS)) .nil))<| .seq (.seq (.rg (.o none (.mv 27 (.t 7))<|
 .o none (.bin 28 .gtr false (.t 27) (.c (.int .i64 0)))<|
 .o none (.mv 29 (.t 28))<|
 .o (some (29,true)) (.mv 30 (.t 0))<|
 .o (some (29,true)) (.mv 31 (.t 7))<|
 .o (some (29,true)) (.bin 32 .sub false (.t 31) (.c (.int .i64 1)))<|
 .o (some (29,true)) (.idx 33 4 (.t 30) (.t 32))<|
 .o (some (29,true)) (.fld 34 3 (.t 33))<|
 .o (some (29,true)) (.ld 35 1 false (.t 34))<|
 .o (some (29,true)) (.mv 36 (.t 2))<|
 .o (some (29,true)) (.call (some 37) false (.c (.fn 56 [] [])) [(.t 35),(.t 36),(.c (.int .i64 0))])<|
 .o (some (29,true)) (.bin 38 .eql false (.t 37) (.c (.int .i64 0)))<|
 .o none (.pick 39 (.t 29) (.t 38) (.c (.bool false))) .nil))<| .cond (.t 39) (.seq (.rg (.o none (.mv 40 (.t 8))<|
 .o none (.mv 41 (.t 0))<|
 .o none (.mv 42 (.t 7))<|
 .o none (.bin 43 .sub false (.t 42) (.c (.int .i64 1)))<|
 .o none (.sl 44 4 (.t 41) none (some (.t 43)) none)<|
 .o none (.app 45 4 80 54 (.t 40) (.t 44))<|
 .o none (.mv 8 (.t 45)) .nil))<| .seq (.seq (.rg (.o none (.mv 46 (.t 0))<|
 .o none (.mv 47 (.t 7))<|
 .o none (.bin 48 .sub false (.t 47) (.c (.int .i64 1)))<|
 .o none (.idx 49 4 (.t 46) (.t 48))<|
 .o none (.fld 50 0 (.t 49))<|
 .o none (.ld 51 3 true (.t 50))<|
 .o none (.ld 52 3 true (.t 4))<|
 .br (.o none (.call (some 53) true (.c (.fn 63 [] [])) [(.t 51),(.t 52)])<|
 .o none (.alloc 9 3 51 (.agg [(.bool false),.nilS,.nilS]))<|
 .o none (.st 3 (.t 9) (.t 53)) .nil) (.o none (.alloc 9 3 51 (.agg [(.bool false),.nilS,.nilS]))<|
 .o none (.call (some 53) true (.c (.fn 63 [] [])) [(.t 51),(.t 52)])<|
 .o none (.st 3 (.t 9) (.t 53)) .nil)))<| .seq (.rg (.o none (.ld 54 3 true (.t 9))<|
 .o none (.call (some 55) false (.c (.fn 54 [] [])) [(.t 54)])<|
 .o none (.bin 56 .neq false (.t 55) (.c (.int .i64 0))) .nil))<| .cond (.t 56) (.rg (.o none (.mv 57 (.t 8))<|
 .o none (.ld 58 3 true (.t 9))<|
 .o none (.mv 59 (.t 2))<|
 .o none (.bld 60 [(.bool false),.nilS,.nilS,.nilS] [(0,3,(.t 58)),(3,1,(.t 59))])<|
 .o none (.bs 61 4 54 [(.t 60)])<|
 .o none (.app 62 4 80 54 (.t 57) (.t 61))<|
 .o none (.mv 8 (.t 62)) .nil)) (.skip))<| .seq (.rg (.o none (.mv 63 (.t 8))<|
 .o none (.mv 64 (.t 0))<|
 .o none (.mv 65 (.t 7))<|
 .o none (.sl 66 4 (.t 64) (some (.t 65)) none none)<|
 .o none (.app 67 4 80 54 (.t 63) (.t 66))<|
 .o none (.mv 6 (.t 67)) .nil))<| .ret) (.skip))<| .seq (.rg (.o none (.mv 68 (.t 8))<|
 .o none (.mv 69 (.t 0))<|
 .o none (.mv 70 (.t 7))<|
 .o none (.sl 71 4 (.t 69) none (some (.t 70)) none)<|
 .o none (.app 72 4 80 54 (.t 68) (.t 71))<|
 .o none (.mv 8 (.t 72)) .nil))<| .seq (.seq (.rg (.o none (.ld 73 3 true (.t 4))<|
 .o none (.call (some 74) false (.c (.fn 54 [] [])) [(.t 73)])<|
 .o none (.bin 75 .neq false (.t 74) (.c (.int .i64 0))) .nil))<| .cond (.t 75) (.rg (.o none (.mv 76 (.t 8))<|
 .o none (.ld 77 3 true (.t 4))<|
 .o none (.call (some 78) false (.c (.fn 101 [] [])) [(.t 77)])<|
 .o none (.mv 79 (.t 2))<|
 .o none (.bld 80 [(.bool false),.nilS,.nilS,.nilS] [(0,3,(.t 78)),(3,1,(.t 79))])<|
 .o none (.bs 81 4 54 [(.t 80)])<|
 .o none (.app 82 4 80 54 (.t 76) (.t 81))<|
 .o none (.mv 8 (.t 82)) .nil)) (.skip))<| .seq (.rg (.o none (.mv 83 (.t 8))<|
 .o none (.mv 84 (.t 0))<|
 .o none (.mv 85 (.t 7))<|
 .o none (.sl 86 4 (.t 84) (some (.t 85)) none none)<|
 .o none (.app 87 4 80 54 (.t 83) (.t 86))<|
 .o none (.mv 6 (.t 87)) .nil))<| .ret⟩
theorem Qanh:Qe Tryz.prog Tryz.f58=some c58:=by kernel_rfl
def c64:SFn:=⟨34,[.t 4],.seq (.rg (.o none (.box 3 4 54 (.t 1))<|
 .o none (.mv 4 (.c .nilS)) .nil))<| .seq (.rg (.o none (.mv 5 (.c .nilS)) .nil))<| .seq (.seq (.rg (.o none (.mv 6 (.c (.int .i64 0))) .nil))<| .block 0 (.loop (.seq (.seq (.rg (.o none (.mv 7 (.t 6))<|
 .o none (.mv 8 (.t 0))<|
 .o none (.len 9 (.t 8))<|
 .o none (.bin 10 .lss false (.t 7) (.t 9)) .nil))<| .cond (.t 10) (.skip) (.exit 0))<| .seq (.block 1 (.rg (.o none (.mv 13 (.t 5))<|
 .o none (.mv 14 (.t 0))<|
 .o none (.mv 15 (.t 6))<|
 .o none (.idx 16 4 (.t 14) (.t 15))<|
 .o none (.fld 17 0 (.t 16))<|
 .o none (.ld 18 3 true (.t 17))<|
 .o none (.fld 19 0 (.t 3))<|
 .o none (.ld 20 3 true (.t 19))<|
 .o none (.mv 22 (.t 0))<|
 .o none (.mv 23 (.t 6))<|
 .o none (.idx 24 4 (.t 22) (.t 23))<|
 .o none (.fld 25 3 (.t 24))<|
 .o none (.ld 26 1 false (.t 25))<|
 .o none (.fld 27 3 (.t 3))<|
 .o none (.ld 28 1 false (.t 27))<|
 .o none (.call (some 21) true (.c (.fn 110 [] [])) [(.t 18),(.t 20)])<|
 .o none (.call (some 29) true (.c (.fn 111 [] [])) [(.t 26),(.t 28)])<|
 .o none (.bld 30 [(.bool false),.nilS,.nilS,.nilS] [(0,3,(.t 21)),(3,1,(.t 29))])<|
 .o none (.bs 31 4 54 [(.t 30)])<|
 .o none (.app 32 4 80 54 (.t 13) (.t 31))<|
 .o none (.mv 5 (.t 32)) .nil)))<| .rg (.o none (.mv 11 (.t 6))<|
 .o none (.bin 12 .add false (.t 11) (.c (.int .i64 1)))<|
 .o none (.mv 6 (.t 12)) .nil))))<| .seq (.rg (.o none (.mv 33 (.t 5))<|
 .o none (.mv 4 (.t 33)) .nil))<| .ret⟩
theorem Qani:Qe Tryz.prog Tryz.f64=some c64:=by kernel_rfl
def c136:SFn:=⟨20,[.t 4],.seq (.rg (.o none (.mv 4 (.c (.bool false))) .nil))<| .seq (.seq (.rg (.o none (.mv 5 (.c (.int .i64 0))) .nil))<| .block 0 (.loop (.seq (.seq (.rg (.o none (.mv 6 (.t 5))<|
 .o none (.mv 7 (.t 0))<|
 .o none (.len 8 (.t 7))<|
 .o none (.bin 9 .lss false (.t 6) (.t 8)) .nil))<| .cond (.t 9) (.skip) (.exit 0))<| .seq (.block 1 (.seq (.rg (.o none (.mv 12 (.t 0))<|
 .o none (.mv 13 (.t 5))<|
 .o none (.idx 14 1 (.t 12) (.t 13))<|
 .o none (.ld 15 1 false (.t 14))<|
 .o none (.mv 16 (.t 1))<|
 .o none (.mv 17 (.t 5))<|
 .o none (.call (some 18) true (.c (.fn 87 [] [])) [(.t 16),(.t 17)])<|
 .o none (.bin 19 .neq false (.t 15) (.t 18)) .nil))<| .cond (.t 19) (.seq (.rg (.o none (.mv 4 (.c (.bool false))) .nil))<| .ret) (.skip)))<| .rg (.o none (.mv 10 (.t 5))<|
 .o none (.bin 11 .add false (.t 10) (.c (.int .i64 1)))<|
 .o none (.mv 5 (.t 11)) .nil))))<| .seq (.rg (.o none (.mv 4 (.c (.bool true))) .nil))<| .ret⟩
theorem Qaio:Qe Tryz.prog Tryz.f136=some c136:=by kernel_rfl
def c71:SFn:=⟨27,[.t 2],.seq (.rg (.o none (.mv 2 (.c (.bool false))) .nil))<| .seq (.seq (.rg (.o none (.mv 7 (.t 0))<|
 .o none (.len 8 (.t 7))<|
 .o none (.bin 9 .gtr false (.t 8) (.c (.int .i64 4000))) .nil))<| .cond (.t 9) (.seq (.rg (.o none (.mv 2 (.c (.bool true))) .nil))<| .ret) (.skip))<| .seq (.seq (.rg (.o none (.mv 10 (.t 0))<|
 .o none (.len 11 (.t 10))<|
 .o none (.mv 12 (.c (.int .i64 0))) .nil))<| .block 0 (.loop (.seq (.rg (.o none (.bin 13 .lss false (.t 12) (.t 11)) .nil))<| .seq (.cond (.t 13) (.skip) (.exit 0))<| .seq (.block 1 (.seq (.rg (.o none (.idx 14 4 (.t 10) (.t 12))<|
 .o none (.ld 15 4 true (.t 14))<|
 .o none (.alloc 4 4 54 (.agg [(.bool false),.nilS,.nilS,.nilS]))<|
 .o none (.st 4 (.t 4) (.t 15)) .nil))<| .seq (.rg (.o none (.fld 16 3 (.t 4))<|
 .o none (.ld 17 1 false (.t 16))<|
 .o none (.len 18 (.t 17))<|
 .o none (.mv 19 (.c (.int .i64 0))) .nil))<| .block 2 (.loop (.seq (.rg (.o none (.bin 20 .lss false (.t 19) (.t 18)) .nil))<| .seq (.cond (.t 20) (.skip) (.exit 2))<| .seq (.block 3 (.seq (.rg (.o none (.idx 21 1 (.t 17) (.t 19))<|
 .o none (.ld 22 1 false (.t 21))<|
 .o none (.mv 6 (.t 22)) .nil))<| .seq (.rg (.o none (.mv 23 (.t 6))<|
 .o none (.bin 24 .gtr false (.t 23) (.c (.int .i64 1048576))) .nil))<| .cond (.t 24) (.seq (.rg (.o none (.mv 2 (.c (.bool true))) .nil))<| .ret) (.skip)))<| .rg (.o none (.bin 25 .add false (.t 19) (.c (.int .i64 1)))<|
 .o none (.mv 19 (.t 25)) .nil)))))<| .rg (.o none (.bin 26 .add false (.t 12) (.c (.int .i64 1)))<|
 .o none (.mv 12 (.t 26)) .nil))))<| .seq (.rg (.o none (.mv 2 (.c (.bool false))) .nil))<| .ret⟩
theorem Qanj:Qe Tryz.prog Tryz.f71=some c71:=by kernel_rfl
def c16:SFn:=⟨19,[.t 2],.seq (.rg (.o none (.mv 2 (.c (.int .i64 0))) .nil))<| .seq (.rg (.o none (.mv 3 (.c (.int .i64 (-1)))) .nil))<| .seq (.seq (.rg (.o none (.mv 6 (.t 0))<|
 .o none (.len 7 (.t 6))<|
 .o none (.mv 8 (.c (.int .i64 0))) .nil))<| .block 0 (.loop (.seq (.rg (.o none (.bin 9 .lss false (.t 8) (.t 7)) .nil))<| .seq (.cond (.t 9) (.skip) (.exit 0))<| .seq (.block 1 (.seq (.rg (.o none (.idx 10 4 (.t 6) (.t 8))<|
 .o none (.ld 11 4 true (.t 10))<|
 .o none (.alloc 5 4 54 (.agg [(.bool false),.nilS,.nilS,.nilS]))<|
 .o none (.st 4 (.t 5) (.t 11)) .nil))<| .rg (.o none (.mv 12 (.t 3))<|
 .o none (.fld 13 3 (.t 5))<|
 .o none (.ld 14 1 false (.t 13))<|
 .o none (.call (some 15) false (.c (.fn 50 [] [])) [(.t 14)])<|
 .o none (.mx 16 (.t 12) (.t 15))<|
 .o none (.mv 3 (.t 16)) .nil)))<| .rg (.o none (.bin 17 .add false (.t 8) (.c (.int .i64 1)))<|
 .o none (.mv 8 (.t 17)) .nil))))<| .seq (.rg (.o none (.mv 18 (.t 3))<|
 .o none (.mv 2 (.t 18)) .nil))<| .ret⟩
theorem Qank:Qe Tryz.prog Tryz.f16=some c16:=by kernel_rfl
def c17:SFn:=⟨22,[.t 4],.seq (.rg (.o none (.mv 4 (.c (.int .i64 0))) .nil))<| .seq (.rg (.o none (.mv 5 (.c (.int .i64 (-1)))) .nil))<| .seq (.seq (.rg (.o none (.mv 8 (.t 0))<|
 .o none (.len 9 (.t 8))<|
 .o none (.mv 10 (.c (.int .i64 0))) .nil))<| .block 0 (.loop (.seq (.rg (.o none (.bin 11 .lss false (.t 10) (.t 9)) .nil))<| .seq (.cond (.t 11) (.skip) (.exit 0))<| .seq (.block 1 (.seq (.rg (.o none (.idx 12 4 (.t 8) (.t 10))<|
 .o none (.ld 13 4 true (.t 12))<|
 .o none (.alloc 7 4 54 (.agg [(.bool false),.nilS,.nilS,.nilS]))<|
 .o none (.st 4 (.t 7) (.t 13)) .nil))<| .rg (.o none (.mv 14 (.t 5))<|
 .o none (.fld 15 3 (.t 7))<|
 .o none (.ld 16 1 false (.t 15))<|
 .o none (.mv 17 (.t 1))<|
 .o none (.call (some 18) false (.c (.fn 51 [] [])) [(.t 16),(.t 17)])<|
 .o none (.mx 19 (.t 14) (.t 18))<|
 .o none (.mv 5 (.t 19)) .nil)))<| .rg (.o none (.bin 20 .add false (.t 10) (.c (.int .i64 1)))<|
 .o none (.mv 10 (.t 20)) .nil))))<| .seq (.rg (.o none (.mv 21 (.t 5))<|
 .o none (.mv 4 (.t 21)) .nil))<| .ret⟩
theorem Qanl:Qe Tryz.prog Tryz.f17=some c17:=by kernel_rfl
def c120:SFn:=⟨35,[.t 4],.seq (.rg (.o none (.mv 4 (.c .nilS)) .nil))<| .seq (.seq (.rg (.o none (.mv 7 (.t 0))<|
 .o none (.mv 8 (.t 1))<|
 .o none (.call (some 9) false (.c (.fn 51 [] [])) [(.t 7),(.t 8)])<|
 .o none (.bin 10 .eql false (.t 9) (.c (.int .i64 0))) .nil))<| .cond (.t 10) (.seq (.rg (.o none (.mv 11 (.t 0))<|
 .o none (.mv 4 (.t 11)) .nil))<| .ret) (.skip))<| .seq (.rg (.o none (.mv 12 (.t 0))<|
 .o none (.app 13 1 8 3 (.c .nilS) (.t 12))<|
 .o none (.mv 5 (.t 13)) .nil))<| .seq (.rg (.o none (.mv 14 (.t 5))<|
 .o none (.mv 15 (.t 1))<|
 .o none (.idx 16 1 (.t 14) (.t 15))<|
 .o none (.st 1 (.t 16) (.c (.int .i64 0))) .nil))<| .seq (.rg (.o none (.mv 17 (.t 5))<|
 .o none (.len 18 (.t 17))<|
 .o none (.mv 6 (.t 18)) .nil))<| .seq (.block 0 (.loop (.seq (.seq (.rg (.o none (.mv 19 (.t 6))<|
 .o none (.bin 20 .gtr false (.t 19) (.c (.int .i64 0)))<|
 .o none (.mv 21 (.t 20))<|
 .o (some (21,true)) (.mv 22 (.t 5))<|
 .o (some (21,true)) (.mv 23 (.t 6))<|
 .o (some (21,true)) (.bin 24 .sub false (.t 23) (.c (.int .i64 1)))<|
 .o (some (21,true)) (.idx 25 1 (.t 22) (.t 24))<|
 .o (some (21,true)) (.ld 26 1 false (.t 25))<|
 .o (some (21,true)) (.bin 27 .eql false (.t 26) (.c (.int .i64 0)))<|
 .o none (.pick 28 (.t 21) (.t 27) (.c (.bool false))) .nil))<| .cond (.t 28) (.skip) (.exit 0))<| .block 1 (.rg (.o none (.mv 29 (.t 6))<|
 .o none (.bin 30 .sub false (.t 29) (.c (.int .i64 1)))<|
 .o none (.mv 6 (.t 30)) .nil)))))<| .seq (.rg (.o none (.mv 31 (.t 5))<|
 .o none (.mv 32 (.t 6))<|
 .o none (.mv 33 (.t 6))<|
 .o none (.sl 34 1 (.t 31) none (some (.t 32)) (some (.t 33)))<|
 .o none (.mv 4 (.t 34)) .nil))<| .ret⟩
theorem Qaip:Qe Tryz.prog Tryz.f120=some c120:=by kernel_rfl
def c72:SFn:=⟨34,[.t 6],.seq (.rg (.o none (.mv 6 (.c .nilS)) .nil))<| .seq (.rg (.o none (.mv 7 (.c .nilS)) .nil))<| .seq (.seq (.rg (.o none (.mv 10 (.t 0))<|
 .o none (.len 11 (.t 10))<|
 .o none (.mv 12 (.c (.int .i64 0))) .nil))<| .block 0 (.loop (.seq (.rg (.o none (.bin 13 .lss false (.t 12) (.t 11)) .nil))<| .seq (.cond (.t 13) (.skip) (.exit 0))<| .seq (.block 1 (.seq (.rg (.o none (.idx 14 4 (.t 10) (.t 12))<|
 .o none (.ld 15 4 true (.t 14))<|
 .o none (.alloc 9 4 54 (.agg [(.bool false),.nilS,.nilS,.nilS]))<|
 .o none (.st 4 (.t 9) (.t 15)) .nil))<| .seq (.rg (.o none (.fld 16 3 (.t 9))<|
 .o none (.ld 17 1 false (.t 16))<|
 .o none (.mv 18 (.t 1))<|
 .o none (.call (some 19) false (.c (.fn 51 [] [])) [(.t 17),(.t 18)])<|
 .o none (.mv 20 (.t 2))<|
 .o none (.bin 21 .eql false (.t 19) (.t 20)) .nil))<| .cond (.t 21) (.rg (.o none (.mv 22 (.t 7))<|
 .o none (.fld 23 0 (.t 9))<|
 .o none (.ld 24 3 true (.t 23))<|
 .o none (.fld 25 3 (.t 9))<|
 .o none (.ld 26 1 false (.t 25))<|
 .o none (.mv 27 (.t 1))<|
 .o none (.call (some 28) true (.c (.fn 120 [] [])) [(.t 26),(.t 27)])<|
 .o none (.bld 29 [(.bool false),.nilS,.nilS,.nilS] [(0,3,(.t 24)),(3,1,(.t 28))])<|
 .o none (.bs 30 4 54 [(.t 29)])<|
 .o none (.app 31 4 80 54 (.t 22) (.t 30))<|
 .o none (.mv 7 (.t 31)) .nil)) (.skip)))<| .rg (.o none (.bin 32 .add false (.t 12) (.c (.int .i64 1)))<|
 .o none (.mv 12 (.t 32)) .nil))))<| .seq (.rg (.o none (.mv 33 (.t 7))<|
 .o none (.mv 6 (.t 33)) .nil))<| .ret⟩
theorem Qanm:Qe Tryz.prog Tryz.f72=some c72:=by kernel_rfl
def c73:SFn:=⟨32,[.t 6],.seq (.rg (.o none (.mv 6 (.c .nilS)) .nil))<| .seq (.seq (.rg (.o none (.mv 8 (.t 1))<|
 .o none (.bin 9 .lss false (.t 8) (.c (.int .i64 0)))<|
 .o none (.mv 10 (.t 9))<|
 .o (some (10,false)) (.mv 11 (.t 1))<|
 .o (some (10,false)) (.bin 12 .geq false (.t 11) (.c (.int .i64 64)))<|
 .o none (.pick 13 (.t 10) (.c (.bool true)) (.t 12))<|
 .o none (.mv 14 (.t 13))<|
 .o (some (14,false)) (.mv 15 (.t 2))<|
 .o (some (14,false)) (.bin 16 .leq false (.t 15) (.c (.int .i64 0)))<|
 .o none (.pick 17 (.t 14) (.c (.bool true)) (.t 16)) .nil))<| .cond (.t 17) (.seq (.rg (.o none (.mv 18 (.t 0))<|
 .o none (.mv 6 (.t 18)) .nil))<| .ret) (.skip))<| .seq (.rg (.o none (.mv 19 (.t 1))<|
 .o none (.bin 20 .add false (.t 19) (.c (.int .i64 1)))<|
 .o none (.mk 21 1 8 3 (.int .i64 0) (.t 20) (.t 20))<|
 .o none (.mv 7 (.t 21)) .nil))<| .seq (.rg (.o none (.mv 22 (.t 7))<|
 .o none (.mv 23 (.t 1))<|
 .o none (.mv 24 (.t 2))<|
 .o none (.idx 25 1 (.t 22) (.t 23))<|
 .o none (.st 1 (.t 25) (.t 24)) .nil))<| .seq (.rg (.o none (.mv 26 (.t 0))<|
 .o none (.call (some 27) false (.c (.fn 32 [] [])) [(.c (.int .i64 1))])<|
 .o none (.mv 28 (.t 7))<|
 .o none (.bld 29 [(.bool false),.nilS,.nilS,.nilS] [(0,3,(.t 27)),(3,1,(.t 28))])<|
 .o none (.bs 30 4 54 [(.t 29)])<|
 .o none (.call (some 31) false (.c (.fn 12 [] [])) [(.t 26),(.t 30)])<|
 .o none (.mv 6 (.t 31)) .nil))<| .ret⟩
theorem Qann:Qe Tryz.prog Tryz.f73=some c73:=by kernel_rfl
def c37:SFn:=⟨15,[.t 2],.seq (.rg (.o none (.mv 2 (.c .nilS)) .nil))<| .seq (.rg (.o none (.mv 4 (.t 0))<|
 .o none (.call (some 5) false (.c (.fn 16 [] [])) [(.t 4)])<|
 .o none (.mv 3 (.t 5)) .nil))<| .seq (.seq (.rg (.o none (.mv 6 (.t 3))<|
 .o none (.bin 7 .lss false (.t 6) (.c (.int .i64 0))) .nil))<| .cond (.t 7) (.seq (.rg (.o none (.mv 8 (.t 0))<|
 .o none (.mv 2 (.t 8)) .nil))<| .ret) (.skip))<| .seq (.rg (.o none (.mv 9 (.t 0))<|
 .o none (.mv 10 (.t 3))<|
 .o none (.mv 11 (.t 0))<|
 .o none (.mv 12 (.t 3))<|
 .o none (.call (some 13) false (.c (.fn 17 [] [])) [(.t 11),(.t 12)])<|
 .o none (.call (some 14) false (.c (.fn 72 [] [])) [(.t 9),(.t 10),(.t 13)])<|
 .o none (.mv 2 (.t 14)) .nil))<| .ret⟩
theorem Qano:Qe Tryz.prog Tryz.f37=some c37:=by kernel_rfl
def c35:SFn:=⟨93,[.t 6,.t 7,.t 8,.t 9],.seq (.rg (.o none (.mv 6 (.c .nilS))<|
 .o none (.mv 7 (.c .nilS))<|
 .o none (.mv 8 (.c (.int .i64 0)))<|
 .o none (.mv 9 (.c (.int .i64 0))) .nil))<| .seq (.block 0 (.seq (.rg (.o none (.mv 15 (.t 2))<|
 .o none (.bin 16 .lss false (.t 15) (.c (.int .i64 0)))<|
 .o none (.mv 17 (.t 16))<|
 .o (some (17,false)) (.mv 18 (.t 2))<|
 .o (some (17,false)) (.bin 19 .geq false (.t 18) (.c (.int .i64 64)))<|
 .o none (.pick 20 (.t 17) (.c (.bool true)) (.t 19))<|
 .o none (.mv 14 (.t 20)) .nil))<| .cond (.t 14) (.seq (.rg (.o none (.mv 6 (.c .nilS))<|
 .o none (.mv 7 (.c .nilS))<|
 .o none (.mv 8 (.c (.int .i64 0)))<|
 .o none (.mv 9 (.c (.int .i64 2))) .nil))<| .ret) (.seq (.rg (.o none (.mv 22 (.t 1))<|
 .o none (.len 23 (.t 22))<|
 .o none (.bin 24 .eql false (.t 23) (.c (.int .i64 0)))<|
 .o none (.mv 21 (.t 24)) .nil))<| .cond (.t 21) (.seq (.rg (.o none (.mv 6 (.c .nilS))<|
 .o none (.mv 7 (.c .nilS))<|
 .o none (.mv 8 (.c (.int .i64 0)))<|
 .o none (.mv 9 (.c (.int .i64 3))) .nil))<| .ret) (.seq (.rg (.o none (.mv 26 (.t 0))<|
 .o none (.call (some 27) false (.c (.fn 71 [] [])) [(.t 26)])<|
 .o none (.mv 25 (.t 27)) .nil))<| .cond (.t 25) (.seq (.rg (.o none (.mv 6 (.c .nilS))<|
 .o none (.mv 7 (.c .nilS))<|
 .o none (.mv 8 (.c (.int .i64 0)))<|
 .o none (.mv 9 (.c (.int .i64 4))) .nil))<| .ret) (.skip)))))<| .seq (.rg (.o none (.mv 28 (.t 1))<|
 .o none (.mv 29 (.t 2))<|
 .o none (.call (some 30) false (.c (.fn 17 [] [])) [(.t 28),(.t 29)])<|
 .o none (.mv 10 (.t 30)) .nil))<| .seq (.rg (.o none (.mv 31 (.t 1))<|
 .o none (.mv 32 (.t 2))<|
 .o none (.mv 33 (.t 10))<|
 .o none (.call (some 34) false (.c (.fn 72 [] [])) [(.t 31),(.t 32),(.t 33)])<|
 .o none (.mv 11 (.t 34)) .nil))<| .seq (.rg (.o none (.mv 35 (.t 0))<|
 .o none (.mv 7 (.t 35)) .nil))<| .seq (.block 1 (.loop (.seq (.seq (.rg (.o none (.mv 36 (.t 7))<|
 .o none (.len 37 (.t 36))<|
 .o none (.bin 38 .gtr false (.t 37) (.c (.int .i64 0)))<|
 .o none (.mv 39 (.t 38))<|
 .o (some (39,true)) (.mv 40 (.t 7))<|
 .o (some (39,true)) (.mv 41 (.t 2))<|
 .o (some (39,true)) (.call (some 42) false (.c (.fn 17 [] [])) [(.t 40),(.t 41)])<|
 .o (some (39,true)) (.mv 43 (.t 10))<|
 .o (some (39,true)) (.bin 44 .geq false (.t 42) (.t 43))<|
 .o none (.pick 45 (.t 39) (.t 44) (.c (.bool false))) .nil))<| .cond (.t 45) (.skip) (.exit 1))<| .block 2 (.seq (.rg (.o none (.mv 46 (.t 7))<|
 .o none (.mv 47 (.t 2))<|
 .o none (.call (some 48) false (.c (.fn 17 [] [])) [(.t 46),(.t 47)])<|
 .o none (.mv 12 (.t 48)) .nil))<| .seq (.rg (.o none (.mv 49 (.t 7))<|
 .o none (.mv 50 (.t 2))<|
 .o none (.mv 51 (.t 12))<|
 .o none (.call (some 52) false (.c (.fn 72 [] [])) [(.t 49),(.t 50),(.t 51)])<|
 .o none (.mv 53 (.t 2))<|
 .o none (.mv 54 (.t 12))<|
 .o none (.mv 55 (.t 10))<|
 .o none (.bin 56 .sub false (.t 54) (.t 55))<|
 .o none (.call (some 57) false (.c (.fn 73 [] [])) [(.t 52),(.t 53),(.t 56)])<|
 .o none (.mv 13 (.t 57)) .nil))<| .seq (.rg (.o none (.mv 58 (.t 11))<|
 .o none (.mv 59 (.t 6))<|
 .o none (.call (some 60) false (.c (.fn 12 [] [])) [(.t 58),(.t 59)])<|
 .o none (.mv 61 (.t 13))<|
 .o none (.call (some 62) false (.c (.fn 15 [] [])) [(.t 60),(.t 61)])<|
 .o none (.mv 6 (.t 62)) .nil))<| .seq (.rg (.o none (.mv 63 (.t 11))<|
 .o none (.mv 64 (.t 7))<|
 .o none (.call (some 65) false (.c (.fn 12 [] [])) [(.t 63),(.t 64)])<|
 .o none (.mv 66 (.t 13))<|
 .o none (.mv 67 (.t 1))<|
 .o none (.call (some 68) false (.c (.fn 12 [] [])) [(.t 66),(.t 67)])<|
 .o none (.call (some 69) false (.c (.fn 74 [] [])) [(.t 65),(.t 68)])<|
 .o none (.mv 7 (.t 69)) .nil))<| .seq (.rg (.o none (.mv 70 (.t 8))<|
 .o none (.bin 71 .add false (.t 70) (.c (.int .i64 1)))<|
 .o none (.mv 8 (.t 71)) .nil))<| .seq (.rg (.o none (.mv 72 (.t 6))<|
 .o none (.call (some 73) false (.c (.fn 71 [] [])) [(.t 72)])<|
 .o none (.mv 74 (.t 73))<|
 .o (some (74,false)) (.mv 75 (.t 7))<|
 .o (some (74,false)) (.call (some 76) false (.c (.fn 71 [] [])) [(.t 75)])<|
 .o none (.pick 77 (.t 74) (.c (.bool true)) (.t 76))<|
 .o none (.mv 78 (.t 77))<|
 .o (some (78,false)) (.mv 79 (.t 7))<|
 .o (some (78,false)) (.mv 80 (.t 2))<|
 .o (some (78,false)) (.call (some 81) false (.c (.fn 17 [] [])) [(.t 79),(.t 80)])<|
 .o (some (78,false)) (.mv 82 (.t 12))<|
 .o (some (78,false)) (.bin 83 .geq false (.t 81) (.t 82))<|
 .o (some (78,false)) (.mv 84 (.t 83))<|
 .o (some (84,true)) (.mv 85 (.t 7))<|
 .o (some (84,true)) (.len 86 (.t 85))<|
 .o (some (84,true)) (.bin 87 .gtr false (.t 86) (.c (.int .i64 0)))<|
 .o (some (78,false)) (.pick 88 (.t 84) (.t 87) (.c (.bool false)))<|
 .o none (.pick 89 (.t 78) (.c (.bool true)) (.t 88)) .nil))<| .cond (.t 89) (.seq (.rg (.o none (.mv 6 (.c .nilS))<|
 .o none (.mv 7 (.c .nilS))<|
 .o none (.mv 8 (.c (.int .i64 0)))<|
 .o none (.mv 9 (.c (.int .i64 4))) .nil))<| .ret) (.skip)))))<| .seq (.rg (.o none (.mv 90 (.t 6))<|
 .o none (.mv 91 (.t 7))<|
 .o none (.mv 92 (.t 8))<|
 .o none (.mv 6 (.t 90))<|
 .o none (.mv 7 (.t 91))<|
 .o none (.mv 8 (.t 92))<|
 .o none (.mv 9 (.c (.int .i64 0))) .nil))<| .ret⟩
theorem Qanp:Qe Tryz.prog Tryz.f35=some c35:=by kernel_rfl
def c141:SFn:=⟨67,[.t 2,.cell 3 3 true],.seq (.rg (.o none (.mv 2 (.c .nilS))<|
 .o none (.alloc 3 3 51 (.agg [(.bool false),.nilS,.nilS])) .nil))<| .seq (.seq (.rg (.o none (.mv 14 (.t 0))<|
 .o none (.len 15 (.t 14))<|
 .o none (.bin 16 .eql false (.t 15) (.c (.int .i64 0))) .nil))<| .cond (.t 16) (.seq (.rg (.o none (.call (some 17) false (.c (.fn 32 [] [])) [(.c (.int .i64 1))])<|
 .o none (.mv 2 (.c .nilS))<|
 .o none (.st 3 (.t 3) (.t 17)) .nil))<| .ret) (.skip))<| .seq (.rg (.o none (.mv 4 (.c .nilS)) .nil))<| .seq (.rg (.o none (.call (some 18) false (.c (.fn 113 [] [])) [(.c (.int .u64 1))])<|
 .o none (.mv 5 (.t 18)) .nil))<| .seq (.seq (.rg (.o none (.mv 19 (.t 0))<|
 .o none (.len 20 (.t 19))<|
 .o none (.mv 21 (.c (.int .i64 0))) .nil))<| .block 0 (.loop (.seq (.rg (.o none (.bin 22 .lss false (.t 21) (.t 20)) .nil))<| .seq (.cond (.t 22) (.skip) (.exit 0))<| .seq (.block 1 (.seq (.rg (.o none (.idx 23 4 (.t 19) (.t 21))<|
 .o none (.ld 24 4 true (.t 23))<|
 .o none (.alloc 7 4 54 (.agg [(.bool false),.nilS,.nilS,.nilS]))<|
 .o none (.st 4 (.t 7) (.t 24)) .nil))<| .seq (.rg (.o none (.mv 25 (.t 4))<|
 .o none (.fld 26 0 (.t 7))<|
 .o none (.fld 27 0 (.t 26))<|
 .o none (.fld 28 1 (.t 27))<|
 .o none (.ld 29 1 false (.t 28))<|
 .o none (.call (some 30) false (.c (.fn 117 [] [])) [(.t 25),(.t 29)])<|
 .o none (.mv 4 (.t 30)) .nil))<| .seq (.rg (.o none (.mv 31 (.t 5))<|
 .o none (.fld 32 0 (.t 7))<|
 .o none (.fld 33 2 (.t 32))<|
 .o none (.ld 34 1 false (.t 33))<|
 .o none (.call (some 35) false (.c (.fn 117 [] [])) [(.t 31),(.t 34)])<|
 .o none (.mv 8 (.t 35)) .nil))<| .seq (.rg (.o none (.fld 37 0 (.t 7))<|
 .o none (.fld 38 2 (.t 37))<|
 .o none (.ld 39 1 false (.t 38))<|
 .o none (.mv 40 (.t 8))<|
 .o none (.call (some 41) false (.c (.fn 150 [] [])) [(.t 39),(.t 40)])<|
 .o none (.mv 36 (.t 41))<|
 .o none (.ext 42 (.t 36) 0)<|
 .o none (.ext 43 (.t 36) 1)<|
 .o none (.ext 44 (.t 36) 2)<|
 .o none (.mv 9 (.t 42))<|
 .o none (.mv 10 (.t 43))<|
 .o none (.mv 11 (.t 44)) .nil))<| .rg (.o none (.mv 45 (.t 5))<|
 .o none (.mv 46 (.t 9))<|
 .o none (.call (some 47) false (.c (.fn 127 [] [])) [(.t 45),(.t 46)])<|
 .o none (.mv 5 (.t 47)) .nil)))<| .rg (.o none (.bin 48 .add false (.t 21) (.c (.int .i64 1)))<|
 .o none (.mv 21 (.t 48)) .nil))))<| .seq (.rg (.o none (.mv 50 (.t 0))<|
 .o none (.idx 51 4 (.t 50) (.c (.int .i64 0)))<|
 .o none (.fld 52 0 (.t 51))<|
 .o none (.ld 53 3 true (.t 52))<|
 .o none (.call (some 54) false (.c (.fn 69 [] [])) [(.t 53)])<|
 .o none (.bin 55 .lss false (.t 54) (.c (.int .i64 0)))<|
 .o none (.mv 56 (.t 5))<|
 .o none (.bld 57 [(.bool false),.nilS] [(0,1,(.t 55)),(1,1,(.t 56))])<|
 .o none (.mv 58 (.t 4))<|
 .o none (.bld 59 [(.bool false),.nilS] [(1,1,(.t 58))])<|
 .o none (.call (some 60) false (.c (.fn 160 [] [])) [(.t 57),(.t 59)])<|
 .o none (.mv 49 (.t 60))<|
 .o none (.ext 61 (.t 49) 0)<|
 .o none (.ext 62 (.t 49) 1)<|
 .o none (.alloc 12 3 51 (.agg [(.bool false),.nilS,.nilS]))<|
 .o none (.st 3 (.t 12) (.t 61))<|
 .o none (.mv 13 (.t 62)) .nil))<| .seq (.rg (.o none (.mv 63 (.t 0))<|
 .o none (.ld 64 3 true (.t 12))<|
 .o none (.ld 66 3 true (.t 12))<|
 .o none (.call (some 65) true (.c (.fn 142 [] [])) [(.t 63),(.t 64)])<|
 .o none (.mv 2 (.t 65))<|
 .o none (.st 3 (.t 3) (.t 66)) .nil))<| .ret⟩
theorem Qaiq:Qe Tryz.prog Tryz.f141=some c141:=by kernel_rfl
def c40:SFn:=⟨11,[.t 2],.seq (.rg (.o none (.mv 2 (.c (.int .i64 0))) .nil))<| .seq (.seq (.rg (.o none (.mv 3 (.t 0))<|
 .o none (.len 4 (.t 3))<|
 .o none (.bin 5 .eql false (.t 4) (.c (.int .i64 0))) .nil))<| .cond (.t 5) (.seq (.rg (.o none (.mv 2 (.c (.int .i64 (-1)))) .nil))<| .ret) (.skip))<| .seq (.rg (.o none (.mv 6 (.t 0))<|
 .o none (.idx 7 4 (.t 6) (.c (.int .i64 0)))<|
 .o none (.fld 8 3 (.t 7))<|
 .o none (.ld 9 1 false (.t 8))<|
 .o none (.call (some 10) false (.c (.fn 81 [] [])) [(.t 9)])<|
 .o none (.mv 2 (.t 10)) .nil))<| .ret⟩
theorem Q81:Qe Tryz.prog Tryz.f40=some c40:=by kernel_rfl
def c46:SFn:=⟨23,[.t 4],.seq (.rg (.o none (.mv 4 (.c (.int .i64 0))) .nil))<| .seq (.rg (.o none (.mv 5 (.c (.int .i64 (-1)))) .nil))<| .seq (.seq (.rg (.o none (.mv 6 (.c (.int .i64 0))) .nil))<| .block 0 (.loop (.seq (.seq (.rg (.o none (.mv 7 (.t 6))<|
 .o none (.mv 8 (.t 0))<|
 .o none (.len 9 (.t 8))<|
 .o none (.bin 10 .lss false (.t 7) (.t 9)) .nil))<| .cond (.t 10) (.skip) (.exit 0))<| .seq (.block 1 (.rg (.o none (.mv 13 (.t 5))<|
 .o none (.mv 14 (.t 0))<|
 .o none (.mv 15 (.t 6))<|
 .o none (.idx 16 4 (.t 14) (.t 15))<|
 .o none (.fld 17 3 (.t 16))<|
 .o none (.ld 18 1 false (.t 17))<|
 .o none (.mv 19 (.t 1))<|
 .o none (.call (some 20) false (.c (.fn 87 [] [])) [(.t 18),(.t 19)])<|
 .o none (.mx 21 (.t 13) (.t 20))<|
 .o none (.mv 5 (.t 21)) .nil)))<| .rg (.o none (.mv 11 (.t 6))<|
 .o none (.bin 12 .add false (.t 11) (.c (.int .i64 1)))<|
 .o none (.mv 6 (.t 12)) .nil))))<| .seq (.rg (.o none (.mv 22 (.t 5))<|
 .o none (.mv 4 (.t 22)) .nil))<| .ret⟩
theorem Qanq:Qe Tryz.prog Tryz.f46=some c46:=by kernel_rfl
def c45:SFn:=⟨42,[.t 6],.seq (.rg (.o none (.mv 6 (.c .nilS)) .nil))<| .seq (.rg (.o none (.mv 7 (.c .nilS)) .nil))<| .seq (.seq (.rg (.o none (.mv 8 (.c (.int .i64 0))) .nil))<| .block 0 (.loop (.seq (.seq (.rg (.o none (.mv 9 (.t 8))<|
 .o none (.mv 10 (.t 0))<|
 .o none (.len 11 (.t 10))<|
 .o none (.bin 12 .lss false (.t 9) (.t 11)) .nil))<| .cond (.t 12) (.skip) (.exit 0))<| .seq (.block 1 (.seq (.rg (.o none (.mv 15 (.t 0))<|
 .o none (.mv 16 (.t 8))<|
 .o none (.idx 17 4 (.t 15) (.t 16))<|
 .o none (.fld 18 3 (.t 17))<|
 .o none (.ld 19 1 false (.t 18))<|
 .o none (.mv 20 (.t 1))<|
 .o none (.call (some 21) false (.c (.fn 87 [] [])) [(.t 19),(.t 20)])<|
 .o none (.mv 22 (.t 2))<|
 .o none (.bin 23 .eql false (.t 21) (.t 22)) .nil))<| .cond (.t 23) (.rg (.o none (.mv 24 (.t 7))<|
 .o none (.mv 25 (.t 0))<|
 .o none (.mv 26 (.t 8))<|
 .o none (.idx 27 4 (.t 25) (.t 26))<|
 .o none (.fld 28 0 (.t 27))<|
 .o none (.ld 29 3 true (.t 28))<|
 .o none (.mv 30 (.t 0))<|
 .o none (.mv 31 (.t 8))<|
 .o none (.idx 32 4 (.t 30) (.t 31))<|
 .o none (.fld 33 3 (.t 32))<|
 .o none (.ld 34 1 false (.t 33))<|
 .o none (.mv 35 (.t 1))<|
 .o none (.call (some 36) true (.c (.fn 88 [] [])) [(.t 34),(.t 35)])<|
 .o none (.bld 37 [(.bool false),.nilS,.nilS,.nilS] [(0,3,(.t 29)),(3,1,(.t 36))])<|
 .o none (.bs 38 4 54 [(.t 37)])<|
 .o none (.app 39 4 80 54 (.t 24) (.t 38))<|
 .o none (.mv 7 (.t 39)) .nil)) (.skip)))<| .rg (.o none (.mv 13 (.t 8))<|
 .o none (.bin 14 .add false (.t 13) (.c (.int .i64 1)))<|
 .o none (.mv 8 (.t 14)) .nil))))<| .seq (.rg (.o none (.mv 40 (.t 7))<|
 .o none (.call (some 41) false (.c (.fn 89 [] [])) [(.t 40)])<|
 .o none (.mv 6 (.t 41)) .nil))<| .ret⟩
theorem Qanr:Qe Tryz.prog Tryz.f45=some c45:=by kernel_rfl
def c88:SFn:=⟨28,[.t 4],.seq (.rg (.o none (.mv 4 (.c .nilS)) .nil))<| .seq (.rg (.o none (.mv 5 (.c .nilS)) .nil))<| .seq (.seq (.rg (.o none (.mv 6 (.c (.int .i64 0))) .nil))<| .block 0 (.loop (.seq (.seq (.rg (.o none (.mv 7 (.t 6))<|
 .o none (.mv 8 (.t 0))<|
 .o none (.len 9 (.t 8))<|
 .o none (.bin 10 .lss false (.t 7) (.t 9)) .nil))<| .cond (.t 10) (.skip) (.exit 0))<| .seq (.block 1 (.seq (.rg (.o none (.mv 13 (.t 6))<|
 .o none (.mv 14 (.t 1))<|
 .o none (.bin 15 .eql false (.t 13) (.t 14)) .nil))<| .cond (.t 15) (.rg (.o none (.mv 16 (.t 5))<|
 .o none (.bs 17 1 3 [(.c (.int .i64 0))])<|
 .o none (.app 18 1 8 3 (.t 16) (.t 17))<|
 .o none (.mv 5 (.t 18)) .nil)) (.rg (.o none (.mv 19 (.t 5))<|
 .o none (.mv 20 (.t 0))<|
 .o none (.mv 21 (.t 6))<|
 .o none (.idx 22 1 (.t 20) (.t 21))<|
 .o none (.ld 23 1 false (.t 22))<|
 .o none (.bs 24 1 3 [(.t 23)])<|
 .o none (.app 25 1 8 3 (.t 19) (.t 24))<|
 .o none (.mv 5 (.t 25)) .nil))))<| .rg (.o none (.mv 11 (.t 6))<|
 .o none (.bin 12 .add false (.t 11) (.c (.int .i64 1)))<|
 .o none (.mv 6 (.t 12)) .nil))))<| .seq (.rg (.o none (.mv 26 (.t 5))<|
 .o none (.call (some 27) false (.c (.fn 135 [] [])) [(.t 26)])<|
 .o none (.mv 4 (.t 27)) .nil))<| .ret⟩
theorem Qans:Qe Tryz.prog Tryz.f88=some c88:=by kernel_rfl
def c80:SFn:=⟨26,[.t 4],.seq (.rg (.o none (.mv 4 (.c .nilS)) .nil))<| .seq (.seq (.rg (.o none (.mv 6 (.t 1))<|
 .o none (.bin 7 .eql false (.t 6) (.c (.int .i64 0)))<|
 .o none (.mv 8 (.t 7))<|
 .o (some (8,false)) (.mv 9 (.t 0))<|
 .o (some (8,false)) (.bin 10 .lss false (.t 9) (.c (.int .i64 0)))<|
 .o none (.pick 11 (.t 8) (.c (.bool true)) (.t 10)) .nil))<| .cond (.t 11) (.seq (.rg (.o none (.call (some 12) false (.c (.fn 44 [] [])) [(.c (.int .i64 1))])<|
 .o none (.call (some 13) false (.c (.fn 31 [] [])) [(.t 12)])<|
 .o none (.mv 4 (.t 13)) .nil))<| .ret) (.skip))<| .seq (.rg (.o none (.mv 14 (.t 0))<|
 .o none (.bin 15 .add false (.t 14) (.c (.int .i64 1)))<|
 .o none (.mk 16 1 8 3 (.int .i64 0) (.t 15) (.t 15))<|
 .o none (.mv 5 (.t 16)) .nil))<| .seq (.rg (.o none (.mv 17 (.t 5))<|
 .o none (.mv 18 (.t 0))<|
 .o none (.mv 19 (.t 1))<|
 .o none (.idx 20 1 (.t 17) (.t 18))<|
 .o none (.st 1 (.t 20) (.t 19)) .nil))<| .seq (.rg (.o none (.call (some 21) false (.c (.fn 44 [] [])) [(.c (.int .i64 1))])<|
 .o none (.mv 22 (.t 5))<|
 .o none (.bld 23 [(.bool false),.nilS,.nilS,.nilS] [(0,3,(.t 21)),(3,1,(.t 22))])<|
 .o none (.bs 24 4 54 [(.t 23)])<|
 .o none (.call (some 25) false (.c (.fn 89 [] [])) [(.t 24)])<|
 .o none (.mv 4 (.t 25)) .nil))<| .ret⟩
theorem Qant:Qe Tryz.prog Tryz.f80=some c80:=by kernel_rfl
def c14:SFn:=⟨15,[.t 2],.seq (.rg (.o none (.mv 2 (.c .nilS)) .nil))<| .seq (.rg (.o none (.mv 4 (.t 0))<|
 .o none (.call (some 5) false (.c (.fn 40 [] [])) [(.t 4)])<|
 .o none (.mv 3 (.t 5)) .nil))<| .seq (.seq (.rg (.o none (.mv 6 (.t 3))<|
 .o none (.bin 7 .lss false (.t 6) (.c (.int .i64 0))) .nil))<| .cond (.t 7) (.seq (.rg (.o none (.mv 8 (.t 0))<|
 .o none (.mv 2 (.t 8)) .nil))<| .ret) (.skip))<| .seq (.rg (.o none (.mv 9 (.t 0))<|
 .o none (.mv 10 (.t 3))<|
 .o none (.mv 11 (.t 0))<|
 .o none (.mv 12 (.t 3))<|
 .o none (.call (some 13) false (.c (.fn 46 [] [])) [(.t 11),(.t 12)])<|
 .o none (.call (some 14) false (.c (.fn 45 [] [])) [(.t 9),(.t 10),(.t 13)])<|
 .o none (.mv 2 (.t 14)) .nil))<| .ret⟩
theorem Qanu:Qe Tryz.prog Tryz.f14=some c14:=by kernel_rfl
def c39:SFn:=⟨82,[.t 6,.t 7,.t 8,.t 9],.seq (.rg (.o none (.mv 6 (.c .nilS))<|
 .o none (.mv 7 (.c .nilS))<|
 .o none (.mv 8 (.c (.int .i64 0)))<|
 .o none (.mv 9 (.c (.int .i64 0))) .nil))<| .seq (.seq (.rg (.o none (.mv 17 (.t 2))<|
 .o none (.bin 18 .lss false (.t 17) (.c (.int .i64 0)))<|
 .o none (.mv 19 (.t 18))<|
 .o (some (19,false)) (.mv 20 (.t 2))<|
 .o (some (19,false)) (.bin 21 .geq false (.t 20) (.c (.int .i64 64)))<|
 .o none (.pick 22 (.t 19) (.c (.bool true)) (.t 21)) .nil))<| .cond (.t 22) (.seq (.rg (.o none (.mv 6 (.c .nilS))<|
 .o none (.mv 7 (.c .nilS))<|
 .o none (.mv 8 (.c (.int .i64 0)))<|
 .o none (.mv 9 (.c (.int .i64 2))) .nil))<| .ret) (.skip))<| .seq (.seq (.rg (.o none (.mv 23 (.t 1))<|
 .o none (.len 24 (.t 23))<|
 .o none (.bin 25 .eql false (.t 24) (.c (.int .i64 0))) .nil))<| .cond (.t 25) (.seq (.rg (.o none (.mv 6 (.c .nilS))<|
 .o none (.mv 7 (.c .nilS))<|
 .o none (.mv 8 (.c (.int .i64 0)))<|
 .o none (.mv 9 (.c (.int .i64 3))) .nil))<| .ret) (.skip))<| .seq (.seq (.rg (.o none (.mv 26 (.t 0))<|
 .o none (.call (some 27) false (.c (.fn 41 [] [])) [(.t 26)]) .nil))<| .cond (.t 27) (.seq (.rg (.o none (.mv 6 (.c .nilS))<|
 .o none (.mv 7 (.c .nilS))<|
 .o none (.mv 8 (.c (.int .i64 0)))<|
 .o none (.mv 9 (.c (.int .i64 4))) .nil))<| .ret) (.skip))<| .seq (.rg (.o none (.mv 28 (.t 1))<|
 .o none (.mv 29 (.t 2))<|
 .o none (.call (some 30) false (.c (.fn 46 [] [])) [(.t 28),(.t 29)])<|
 .o none (.mv 10 (.t 30)) .nil))<| .seq (.rg (.o none (.mv 31 (.t 1))<|
 .o none (.mv 32 (.t 2))<|
 .o none (.mv 33 (.t 10))<|
 .o none (.call (some 34) false (.c (.fn 45 [] [])) [(.t 31),(.t 32),(.t 33)])<|
 .o none (.mv 11 (.t 34)) .nil))<| .seq (.rg (.o none (.mv 12 (.c .nilS)) .nil))<| .seq (.rg (.o none (.mv 35 (.t 0))<|
 .o none (.mv 13 (.t 35)) .nil))<| .seq (.rg (.o none (.mv 14 (.c (.int .i64 0))) .nil))<| .seq (.block 0 (.loop (.seq (.seq (.rg (.o none (.mv 36 (.t 13))<|
 .o none (.len 37 (.t 36))<|
 .o none (.bin 38 .gtr false (.t 37) (.c (.int .i64 0)))<|
 .o none (.mv 39 (.t 38))<|
 .o (some (39,true)) (.mv 40 (.t 13))<|
 .o (some (39,true)) (.mv 41 (.t 2))<|
 .o (some (39,true)) (.call (some 42) false (.c (.fn 46 [] [])) [(.t 40),(.t 41)])<|
 .o (some (39,true)) (.mv 43 (.t 10))<|
 .o (some (39,true)) (.bin 44 .geq false (.t 42) (.t 43))<|
 .o none (.pick 45 (.t 39) (.t 44) (.c (.bool false))) .nil))<| .cond (.t 45) (.skip) (.exit 0))<| .block 1 (.seq (.rg (.o none (.mv 46 (.t 13))<|
 .o none (.mv 47 (.t 2))<|
 .o none (.call (some 48) false (.c (.fn 46 [] [])) [(.t 46),(.t 47)])<|
 .o none (.mv 15 (.t 48)) .nil))<| .seq (.rg (.o none (.mv 49 (.t 13))<|
 .o none (.mv 50 (.t 2))<|
 .o none (.mv 51 (.t 15))<|
 .o none (.call (some 52) false (.c (.fn 45 [] [])) [(.t 49),(.t 50),(.t 51)])<|
 .o none (.mv 53 (.t 2))<|
 .o none (.mv 54 (.t 15))<|
 .o none (.mv 55 (.t 10))<|
 .o none (.bin 56 .sub false (.t 54) (.t 55))<|
 .o none (.call (some 57) false (.c (.fn 80 [] [])) [(.t 53),(.t 56)])<|
 .o none (.call (some 58) false (.c (.fn 30 [] [])) [(.t 52),(.t 57)])<|
 .o none (.mv 16 (.t 58)) .nil))<| .seq (.rg (.o none (.mv 59 (.t 11))<|
 .o none (.mv 60 (.t 12))<|
 .o none (.call (some 61) false (.c (.fn 30 [] [])) [(.t 59),(.t 60)])<|
 .o none (.mv 62 (.t 16))<|
 .o none (.call (some 63) false (.c (.fn 29 [] [])) [(.t 61),(.t 62)])<|
 .o none (.mv 12 (.t 63)) .nil))<| .seq (.rg (.o none (.mv 64 (.t 11))<|
 .o none (.mv 65 (.t 13))<|
 .o none (.call (some 66) false (.c (.fn 30 [] [])) [(.t 64),(.t 65)])<|
 .o none (.mv 67 (.t 16))<|
 .o none (.mv 68 (.t 1))<|
 .o none (.call (some 69) false (.c (.fn 30 [] [])) [(.t 67),(.t 68)])<|
 .o none (.call (some 70) false (.c (.fn 28 [] [])) [(.t 66),(.t 69)])<|
 .o none (.mv 13 (.t 70)) .nil))<| .seq (.rg (.o none (.mv 71 (.t 14))<|
 .o none (.bin 72 .add false (.t 71) (.c (.int .i64 1)))<|
 .o none (.mv 14 (.t 72)) .nil))<| .seq (.rg (.o none (.mv 73 (.t 12))<|
 .o none (.call (some 74) false (.c (.fn 41 [] [])) [(.t 73)])<|
 .o none (.mv 75 (.t 74))<|
 .o (some (75,false)) (.mv 76 (.t 13))<|
 .o (some (75,false)) (.call (some 77) false (.c (.fn 41 [] [])) [(.t 76)])<|
 .o none (.pick 78 (.t 75) (.c (.bool true)) (.t 77)) .nil))<| .cond (.t 78) (.seq (.rg (.o none (.mv 6 (.c .nilS))<|
 .o none (.mv 7 (.c .nilS))<|
 .o none (.mv 8 (.c (.int .i64 0)))<|
 .o none (.mv 9 (.c (.int .i64 4))) .nil))<| .ret) (.skip)))))<| .seq (.rg (.o none (.mv 79 (.t 12))<|
 .o none (.mv 80 (.t 13))<|
 .o none (.mv 81 (.t 14))<|
 .o none (.mv 6 (.t 79))<|
 .o none (.mv 7 (.t 80))<|
 .o none (.mv 8 (.t 81))<|
 .o none (.mv 9 (.c (.int .i64 0))) .nil))<| .ret⟩
theorem Qanv:Qe Tryz.prog Tryz.f39=some c39:=by kernel_rfl
def c21:SFn:=⟨27,[.t 4],.seq (.rg (.o none (.mv 4 (.c (.bool false))) .nil))<| .seq (.seq (.rg (.o none (.mv 6 (.t 0))<|
 .o none (.len 7 (.t 6))<|
 .o none (.mv 8 (.t 1))<|
 .o none (.len 9 (.t 8))<|
 .o none (.bin 10 .neq false (.t 7) (.t 9)) .nil))<| .cond (.t 10) (.seq (.rg (.o none (.mv 4 (.c (.bool false))) .nil))<| .ret) (.skip))<| .seq (.seq (.rg (.o none (.mv 5 (.c (.int .i64 0))) .nil))<| .block 0 (.loop (.seq (.seq (.rg (.o none (.mv 11 (.t 5))<|
 .o none (.mv 12 (.t 0))<|
 .o none (.len 13 (.t 12))<|
 .o none (.bin 14 .lss false (.t 11) (.t 13)) .nil))<| .cond (.t 14) (.skip) (.exit 0))<| .seq (.block 1 (.seq (.rg (.o none (.mv 17 (.t 0))<|
 .o none (.mv 18 (.t 5))<|
 .o none (.idx 19 1 (.t 17) (.t 18))<|
 .o none (.ld 20 1 false (.t 19))<|
 .o none (.mv 21 (.t 1))<|
 .o none (.mv 22 (.t 5))<|
 .o none (.idx 23 1 (.t 21) (.t 22))<|
 .o none (.ld 24 1 false (.t 23))<|
 .o none (.call (some 25) false (.c (.fn 33 [] [])) [(.t 20),(.t 24)])<|
 .o none (.un 26 .not (.t 25)) .nil))<| .cond (.t 26) (.seq (.rg (.o none (.mv 4 (.c (.bool false))) .nil))<| .ret) (.skip)))<| .rg (.o none (.mv 15 (.t 5))<|
 .o none (.bin 16 .add false (.t 15) (.c (.int .i64 1)))<|
 .o none (.mv 5 (.t 16)) .nil))))<| .seq (.rg (.o none (.mv 4 (.c (.bool true))) .nil))<| .ret⟩
theorem Qanw:Qe Tryz.prog Tryz.f21=some c21:=by kernel_rfl
def c81:SFn:=⟨6,[.t 2],.seq (.rg (.o none (.mv 2 (.c (.int .i64 0))) .nil))<| .seq (.rg (.o none (.mv 3 (.t 0))<|
 .o none (.len 4 (.t 3))<|
 .o none (.bin 5 .sub false (.t 4) (.c (.int .i64 1)))<|
 .o none (.mv 2 (.t 5)) .nil))<| .ret⟩
theorem Qanx:Qe Tryz.prog Tryz.f81=some c81:=by kernel_rfl
def c26:SFn:=⟨19,[.t 2],.seq (.rg (.o none (.mv 2 (.c .nilS)) .nil))<| .seq (.seq (.rg (.o none (.mv 4 (.t 0))<|
 .o none (.bin 5 .lss false (.t 4) (.c (.int .i64 0)))<|
 .o none (.mv 6 (.t 5))<|
 .o (some (6,false)) (.mv 7 (.t 0))<|
 .o (some (6,false)) (.bin 8 .geq false (.t 7) (.c (.int .i64 64)))<|
 .o none (.pick 9 (.t 6) (.c (.bool true)) (.t 8)) .nil))<| .cond (.t 9) (.seq (.rg (.o none (.mv 2 (.c .nilS)) .nil))<| .ret) (.skip))<| .seq (.rg (.o none (.mv 10 (.t 0))<|
 .o none (.bin 11 .add false (.t 10) (.c (.int .i64 1)))<|
 .o none (.mk 12 1 8 3 (.int .i64 0) (.t 11) (.t 11))<|
 .o none (.mv 3 (.t 12)) .nil))<| .seq (.rg (.o none (.mv 13 (.t 3))<|
 .o none (.mv 14 (.t 0))<|
 .o none (.idx 15 1 (.t 13) (.t 14))<|
 .o none (.st 1 (.t 15) (.c (.int .i64 1))) .nil))<| .seq (.rg (.o none (.call (some 16) false (.c (.fn 44 [] [])) [(.c (.int .i64 1))])<|
 .o none (.mv 17 (.t 3))<|
 .o none (.call (some 18) false (.c (.fn 58 [] [])) [(.c .nilS),(.t 16),(.t 17)])<|
 .o none (.mv 2 (.t 18)) .nil))<| .ret⟩
theorem Qany:Qe Tryz.prog Tryz.f26=some c26:=by kernel_rfl
end Go.Proofs.YtdaldpkjhcfblaaGreat
namespace Go.FW
open Go
def Qk7(a m:List Int):Bool:=(List.range a.length).all fun i=>decide (eN a i=eN m i)
theorem Qjr{a m:List Int}:Qk7 a m=true↔∀i,i<a.length->eN a i=eN m i:=by simp[Qk7,List.all_eq_true]
theorem Q0s(a:List Int):Qk7 a (if Qbv (Qc7 a)then Qc7 a else [])=Qbv (Qc7 a):=by
 cases h:Qbv (Qc7 a)
 ·rw[if_neg (by simp)];cases hz:Qk7 a []with
  |false=>rfl
  | true=>
   rw[Qjr]at hz;have e:Qc7 a=[]:=Qe9 (Qkt a) (by simp) fun i=>by
    rw[Qlp,Qz6];by_cases hi:i<a.length
    ·rw[hz i hi,Qz6]
    ·exact Qcn (by omega)
   rw[e]at h;exact absurd h (by decide)
 ·rw[if_pos rfl,Qjr];intro i _;rw[Qlp]
theorem Quu:∀(ts:List Tm),(∀t∈ts,t.2.getLast? ≠some 0)->∀out,Nrm out->Nrm (ts.foldl (fun out t=>Qd1 out t.1 t.2) out)/\∀φ,pev φ (ts.foldl (fun out t=>Qd1 out t.1 t.2) out)=pev φ out+pev φ ts
 | [],_,out,ho=>⟨ho,fun φ=>by rw[List.foldl_nil,Qc5];grind⟩
 |t::ts,h,out,ho=>by have hl:=h t (by simp);obtain⟨h1,h2⟩:=Quu ts (fun x hx=>h x (by simp[hx])) (Qd1 out t.1 t.2) (Q8z ho hl);refine⟨h1,fun φ=>?_⟩;rw[List.foldl_cons,h2,Q80 ho.c hl,Qau];grind
theorem Qadv(q:Rat):Qio (decide (q.num<0)) (dig q.num.natAbs) (dig q.den)=true:=by
 simp only[Qio,Qg8,Bool.and_eq_true,decide_eq_true_eq];refine⟨?_,⟨?_,Qlm _⟩,?_⟩
 ·split
  ·rename_i h;rw[Qbt]at h;have:¬q.num<0:=by omega
   simp[this]
  ·exact decide_eq_true (Qlm _)
 ·rw[ne_eq,Qbt];exact q.den_nz
 ·rw[Q4,Q4];exact q.reduced
def toR(t:Tm):RTm:=⟨decide (t.1.num<0),dig t.1.num.natAbs,dig t.1.den,t.2⟩
theorem Qanz(t:Tm):(toR t).tm=t:=by show(rv _ _ _,t.2)=t;rw[toR,Qdg]
theorem Qs2(p:List Tm):PV.rpoly (p.map toR)=PV.poly p:=by show PV.sl 4 ((p.map toR).map PV.rterm)=PV.sl 4 (p.map PV.term);rw[List.map_map];rfl
theorem Q3i{t:Tm}(h:TV t):rOk (toR t)=true:=by
 have e:(toR t).q=t.1:=by show rv _ _ _=_;rw[toR,Qdg]
 simp only[rOk,Bool.and_eq_true,decide_eq_true_eq];exact⟨Qadv t.1,by rw[e];exact h.c,h.m⟩
theorem Qoz:∀ {p:List Tm},PVd p->Qck (p.map toR)=true
 | [],_=>rfl
 | [t],h=>by show rOk (toR t)=true;exact Q3i (h.t t (by simp))
 |s::t::p,h=>by have h1:=Q3i (h.t s (by simp));have h2:0<Qak (toR s).m (toR t).m:=h.s.1 t (by simp);have h3:=Qoz (p:=t::p) ⟨fun x hx=>h.t x (by simp[hx]),h.s.2⟩;show Qck (toR s::toR t::p.map toR)=true;rw[Qck,h1,decide_eq_true h2];exact h3
theorem Q0t{t:Tm}{k:Nat}(h:rs t.1<=k)(hm:t.2.length<2^40):RB k (toR t):=by
 have h1:nl t.1.num.natAbs<=k:=by unfold rs at h;omega
 have h2:nl t.1.den<=k:=by unfold rs at h;omega
 exact⟨⟨Qq _,Qq _,h1,h2⟩,hm⟩
def qpow(a:Rat):Nat->Rat
 |0=>1
 |n+1=>qpow a n*a
def mevN(vs:List Rat)(m:List Int):Nat->Rat
 |0=>1
 |n+1=>mevN vs m n*qpow (vs.getD n 0) (eN m n).toNat
def mev(vs:List Rat)(m:List Int):Rat:=mevN vs m m.length
theorem Q5n{B B':List Nat}{F:Fr}(h:(B'.all B.contains)=true):Qaf B' (Qaf B F)=Qaf B F:=by
 funext s;rw[Qp3 B'];split
 ·rename_i h1;rw[Qp3 B]at h1⊢;split
  ·rfl
  ·rename_i h2;rw[if_neg h2]at h1;exfalso;apply h2;rw[List.any_eq_true]at h1⊢;obtain⟨x,hx,hb⟩:=h1;rw[List.all_eq_true]at h;exact⟨x,hx,h x (List.contains_iff_mem.1 hb)⟩
 ·rfl
theorem Q5o{W:List (Nat×Nat)}{B:List Nat}{J F:Fr}:Qaf B (ovr W J F)=ovr W (Qaf B J) (Qaf B F):=by funext s;unfold Qaf ovr;split<;>rfl
theorem Q15{V W:List (Nat×Nat)}{B B':List Nat}{X Z F:Fr}(h:Qsv V W=true)(hB:(B'.all B.contains)=true):ovr V X (Qaf B' (ovr W Z (Qaf B F)))=ovr W (ovr V X (Qaf B' Z)) (Qaf B F):=by rw[Q5o,Q5n hB,Qfj h]
section
variable {C : Ctx} {fr : Fr} {hp : HP} {w : World} {K R : Qg}
end
def Qb9(m:List Int)(v:Nat):List Int:=Qc7 (m.set v 0)
theorem Qan1(m:List Int)(v i:Nat):eN (m.set v 0) i=if i=v then 0 else eN m i:=by
 by_cases hi:i<m.length
 ·rw[Qct (by simpa using hi),List.getElem_set];by_cases h:i=v
  ·rw[if_pos h,if_pos h.symm]
  ·rw[if_neg h,if_neg (fun h'=>h h'.symm),Qct hi]
 ·rw[Qcn (by simpa using hi),Qcn (by omega)];split<;>rfl
theorem Qjc(m:List Int)(v i:Nat):eN (Qb9 m v) i=if i=v then 0 else eN m i:=by rw[Qb9,Qlp,Qan1]
theorem Qkz(m:List Int)(v:Nat):(Qb9 m v).getLast? ≠some 0:=Qkt _
theorem Q0u{E:Nat}{m:List Int}(h:MB E m)(v:Nat):MB E (Qb9 m v):=by
 have hl:(Qb9 m v).length<=64:=by
  have:=Qdy (m.set v 0);have:=h.len;rw[List.length_set]at *
  unfold Qb9;omega
 refine⟨hl,fun x hx=>?_,fun x hx=>?_⟩
 all_goals
  obtain⟨i,hi,rfl⟩:=List.getElem_of_mem hx;rw[<-Qct hi,Qjc];have:=h.eN i;split<;>omega
theorem Qadx{E:Nat}{m:List Int}(h:MB E m)(hE:E<=1048576)(v:Nat):Qbv (Qb9 m v)=true:=Qqd (Q0u h v) hE (Qkz m v)
theorem Q82{a b:List Int}{v:Nat}(h:eN a v=eN b v):Qak (Qb9 a v) (Qb9 b v)=Qak a b:=by
 have key:∀n,Qb5 (Qb9 a v) (Qb9 b v) n=Qb5 a b n:=by
  intro n;induction n with
  |zero=>rfl
  |succ n ih=>
   rw[Qb5,Qb5,ih,Qjc,Qjc];by_cases hn:n=v
   ·subst hn;rw[if_pos rfl,if_pos rfl,if_pos rfl,if_pos h]
   ·rw[if_neg hn,if_neg hn]
 have e1:(Qb9 a v).length<=a.length:=by have:=Qdy (a.set v 0);rwa[List.length_set]at this
 have e2:(Qb9 b v).length<=b.length:=by have:=Qdy (b.set v 0);rwa[List.length_set]at this
 rw[<-Qgs (m:=max a.length b.length) (by omega),key,Qgs (by omega)]
def Qah(p:List Tm)(v:Nat)(n:Int):List Tm:=p.filterMap fun t=>if eN t.2 v=n then some (t.1,Qb9 t.2 v)else none
theorem Quv{p:List Tm}{v i:Nat}{n:Int}(h:i<p.length):Qah (p.take (i+1)) v n=Qah (p.take i) v n++(if eN p[i].2 v=n then [(p[i].1,Qb9 p[i].2 v)]else []):=by rw[List.take_succ_eq_append_getElem h,Qah,List.filterMap_append];congr 1;rw[List.filterMap_cons];by_cases h:eN p[i].2 v=n<;>simp[h]
theorem Qcz(p:List Tm)(v:Nat)(n:Int):(Qah p v n).length<=p.length:=List.length_filterMap_le _ _
theorem Qgv{p:List Tm}{v:Nat}{n:Int}{t:Tm}(h:t∈Qah p v n):∃s∈p,eN s.2 v=n/\t=(s.1,Qb9 s.2 v):=by
 simp only[Qah,List.mem_filterMap]at h;obtain⟨s,h1,h2⟩:=h;split at h2
 ·rename_i h3;cases h2;exact⟨s,h1,h3,rfl⟩
 ·cases h2
theorem Qfd{K E:Nat}{p:List Tm}(hp:PB K E p)(v:Nat)(n:Int):PB K E (Qah p v n):=fun t ht=>by obtain⟨s,h1,_,rfl⟩:=Qgv ht;have:=hp s h1;exact⟨this.c,Q0u this.m v,Qkz _ _⟩
theorem Qqh(v:Nat)(n:Int):∀ {p:List Tm},Qbb p->Qbb (Qah p v n)
 | [],_=>trivial
 | s::p,h=>by
  have ih:=Qqh v n h.2;by_cases hs:eN s.2 v=n
  ·have e:Qah (s::p) v n=(s.1,Qb9 s.2 v)::Qah p v n:=by rw[Qah,List.filterMap_cons,if_pos hs];rfl
   rw[e];refine⟨fun t ht=>?_,ih⟩;obtain⟨u,h1,h2,rfl⟩:=Qgv ht;show 0<Qak (Qb9 s.2 v) (Qb9 u.2 v);rw[Q82 (by rw[hs,h2])];exact h.1 u h1
  ·have e:Qah (s::p) v n=Qah p v n:=by rw[Qah,List.filterMap_cons,if_neg hs];rfl
   rw[e];exact ih
theorem Qcu{p:List Tm}(hp:Nrm p)(v:Nat)(n:Int):Nrm (Qah p v n):=⟨fun t ht=>by
 obtain⟨s,_,_,rfl⟩:=Qgv ht;exact Qkz _ _,fun t ht=>by
 obtain⟨s,h1,_,rfl⟩:=Qgv ht;exact hp.z s h1,Qqh v n hp.s⟩
end Go.FW
namespace Go.FW
open Go
def hor(p:List Tm)(v:Nat)(q:List Tm)(top:Nat):Nat->List Tm
 |0=>Qah p v top
 |k+1=>Q5 (Qac (hor p v q top k) q) (Qah p v ((top:Int)-(k+1)))
def Qnn(x l:List Tm):List Tm:=l.foldl (fun out t=>Qd1 out t.1 t.2) x
theorem Q83{x l:List Tm}(hx:Nrm x)(hl:Nrm l):Qnn x l=Q5 x l:=by obtain⟨h1,h2⟩:=Quu l hl.c x hx;refine Qrd h1 (Qhz hx hl) fun φ=>?_;rw[Qnn,h2,Qlu hx.c hl.c]
theorem Q16(x l:List Tm)(t:Tm):Qnn x (l++[t])=Qd1 (Qnn x l) t.1 t.2:=by rw[Qnn,List.foldl_append];rfl
theorem Q0v(v:Nat):∀(p:List Tm)(d:Int),d<=p.foldl (fun d t=>max d (eN t.2 v)) d/\(∀t∈p,eN t.2 v<=p.foldl (fun d t=>max d (eN t.2 v)) d)/\(p.foldl (fun d t=>max d (eN t.2 v)) d=d∨∃t∈p,p.foldl (fun d t=>max d (eN t.2 v)) d=eN t.2 v)
 | [],d=>⟨Int.le_refl _,by simp,.inl rfl⟩
 | s::p,d=>by
  obtain⟨h1,h2,h3⟩:=Q0v v p (max d (eN s.2 v));rw[List.foldl_cons];refine⟨by omega,fun t ht=>?_,?_⟩
  ·rcases List.mem_cons.1 ht with rfl|ht
   ·omega
   ·exact h2 t ht
  ·rcases h3 with h3|⟨t,ht,h3⟩
   ·rw[h3];by_cases h:d<=eN s.2 v
    ·right;exact⟨s,by simp,by omega⟩
    ·left;omega
   ·right;exact⟨t,by simp[ht],h3⟩
def Qdq(vs:List Rat)(v:Nat)(b:Rat)(n:Int):List Tm->Rat
 | []=>0
 |t::p=>(if n<=eN t.2 v then t.1*mev vs (Qb9 t.2 v)*qpow b (eN t.2 v-n).toNat else 0)+Qdq vs v b n p
def ML(n:Nat)(p:List Tm):Prop:=∀t∈p,t.2.length<=n
theorem ML.padd{n:Nat}{p q:List Tm}(hp:ML n p)(hq:ML n q):ML n (Q5 p q):=fun t ht=>by
 rcases Qhy ht with⟨s,h1,h2⟩|⟨s,h1,h2⟩
 ·rw[<-h2];exact hp s h1
 ·rw[<-h2];exact hq s h1
theorem Qady(a b:List Int):(Qa5 a b).length<=max a.length b.length:=by
 have:=Qdy (Qgt (· + ·) a b)
 rwa[Qcx]at this
theorem Quw{p:List Tm}{t x:Tm}(h:x∈Qaa p t):∃s∈p,x.2=Qa5 s.2 t.2:=by
 simp only[Qaa,List.mem_filterMap]at h;obtain⟨y,hy,h⟩:=h;split at h
 ·cases h
 ·cases h;exact⟨y,hy,rfl⟩
theorem Qadz:∀(n:Nat)(l:List (List Tm)),l.length<=n->∀ {t:Tm},t∈Qbk l->∃p∈l,∃s∈p,s.2=t.2:=by
 intro n;induction n with
 |zero=>intro l hl t ht;have:l=[]:=List.length_eq_zero_iff.1 (by omega);subst this;rw[Qbk]at ht;cases ht
 | succ n ih=>
  intro l hl t ht
  match l,ht with
  | [],ht=>rw[Qbk]at ht;cases ht
  | [p],ht=>rw[Qbk]at ht;exact⟨p,by simp,t,ht,rfl⟩
  | p::q::r,ht=>
   rw[Qj4 (by simp)]at ht;generalize hL:p::q::r=L at *
   have hlen:2<=L.length:=by rw[<-hL];simp
   rcases Qhy ht with⟨s,h1,h2⟩|⟨s,h1,h2⟩
   ·obtain⟨p',hp',s',hs',e⟩:=ih _ (by rw[List.length_take];omega) h1;exact⟨p',List.mem_of_mem_take hp',s',hs',e.trans h2⟩
   ·obtain⟨p',hp',s',hs',e⟩:=ih _ (by rw[List.length_drop];omega) h1;exact⟨p',List.mem_of_mem_drop hp',s',hs',e.trans h2⟩
theorem Qo0{p q:List Tm}{t:Tm}(h:t∈Qac p q):∃a∈p,∃b∈q,t.2=Qa5 a.2 b.2:=by
 have main:∀ {p q:List Tm},t∈Qhl p q->∃a∈p,∃b∈q,t.2=Qa5 a.2 b.2:=fun {p q} h=>by obtain⟨x,hx,s,hs,e⟩:=Qadz _ _ (Nat.le_refl _) h;obtain⟨a,ha,rfl⟩:=List.mem_map.1 hx;obtain⟨b,hb,e2⟩:=Quw hs;exact⟨a,ha,b,hb,by rw[<-e,e2,Qmh]⟩
 unfold Qac at h;split at h
 ·obtain⟨a,ha,b,hb,e⟩:=main h;exact⟨b,hb,a,ha,by rw[e,Qmh]⟩
 ·exact main h
theorem ML.pmul{n:Nat}{p q:List Tm}(hp:ML n p)(hq:ML n q):ML n (Qac p q):=fun t ht=>by obtain⟨a,ha,b,hb,e⟩:=Qo0 ht;have:=Qady a.2 b.2;have:=hp a ha;have:=hq b hb;rw[e];omega
theorem ML.coefN{n:Nat}{p:List Tm}(hp:ML n p)(v:Nat)(k:Int):ML n (Qah p v k):=fun t ht=>by obtain⟨s,h1,_,rfl⟩:=Qgv ht;have:=Qdy (s.2.set v 0);rw[List.length_set]at this;exact Nat.le_trans this (hp s h1)
theorem ML.hor{n:Nat}{p q:List Tm}(hp:ML n p)(hq:ML n q)(v top:Nat):∀k,ML n (hor p v q top k)
 |0=>hp.coefN v _
 |k+1=>((ML.hor hp hq v top k).pmul hq).padd (hp.coefN v _)
theorem Qqi{p:List Tm}{K E:Nat}(hp:PB K E p)(hE:E<=1048576)(hl:p.length<=4000):Qae p=false:=by
 have:(p.any fun t=>t.2.any fun x=>decide (1048576<x))=false:=by rw[List.any_eq_false];intro t ht;rw[Bool.not_eq_true,List.any_eq_false];intro x hx;have:=(hp t ht).m.hi x hx;simp;omega
 rw[Qae,this,Bool.or_false];exact decide_eq_false (by omega)
theorem Qad0{l:List Tm}(hs:Qbb l){a b:Tm}(ha:a∈l)(hb:b∈l)(e:a.2=b.2):a=b:=by
 induction l with
 |nil=>cases ha
 |cons c l ih=>
  rcases List.mem_cons.1 ha with h1|h1<;>rcases List.mem_cons.1 hb with h2|h2
  ·rw[h1,h2]
  ·subst h1;exact absurd e.symm (Qml (hs.1 b h2))
  ·subst h2;exact absurd e (Qml (hs.1 a h1))
  ·exact ih hs.2 h1 h2
theorem Q0w{φ:List Int->Rat}:∀ {p:List Tm} {x:Tm},Qbb p->x∈p->(∀t∈p,t≠x->φ t.2=0)->pev φ p=x.1*φ x.2
 | [],x,_,hx,_=>by cases hx
 | t::p,x,hs,hx,h=>by
  have hz:∀ {l:List Tm},(∀s∈l,φ s.2=0)->pev φ l=0:=by
   intro l;induction l with
   |nil=>intro _;rfl
   |cons s l ih=>intro hl;rw[Qau,hl s (by simp),ih (fun y hy=>hl y (by simp[hy]))];grind
  by_cases htx:t=x
  ·subst htx;rw[Qau,hz (fun s hs'=>h s (by simp[hs']) (fun e=>Qml (hs.1 s hs') (by rw[e])))];grind
  ·have hx':x∈p:=by
    rcases List.mem_cons.1 hx with h1|h1
    ·exact absurd h1.symm htx
    ·exact h1
   rw[Qau,h t (by simp) htx,Q0w hs.2 hx' (fun s hs'=>h s (by simp[hs']))];grind
def Qai(p:List Tm)(v:Nat):Int:=p.foldl (fun d t=>max d (eN t.2 v)) (-1)
theorem Qx1{p:List Tm}{v i:Nat}(h:i<p.length):Qai (p.take (i+1)) v=max (Qai (p.take i) v) (eN p[i].2 v):=by rw[List.take_succ_eq_append_getElem h,Qai,List.foldl_append];rfl
theorem Qmm(p:List Tm)(v:Nat): -1<=Qai p v/\(∀t∈p,eN t.2 v<=Qai p v)/\(Qai p v= -1∨∃t∈p,Qai p v=eN t.2 v):=Q0v v p (-1)
theorem Qgw{K E:Nat}{p:List Tm}(hp:PB K E p)(h0:p≠[])(v:Nat):0<=Qai p v/\Qai p v<=E:=by
 obtain⟨_,h2,h3⟩:=Qmm p v;obtain⟨t,ht⟩:=List.exists_mem_of_ne_nil p h0;have h4:=h2 t ht;have h5:=(hp t ht).m.eN v;rcases h3 with h3|⟨s,hs,h3⟩
 ·omega
 ·have:=(hp s hs).m.eN v;omega
theorem Qair{p:List Tm}{v:Nat}{n:Int}(h:∀t∈p,eN t.2 v<n)(hn:0<=n):Qai p v<n:=by
 obtain⟨_,_,h3⟩:=Qmm p v;rcases h3 with h3|⟨s,hs,h3⟩
 ·omega
 ·have:=h s hs;omega
def Qbi(v n:Nat):List Int:=List.replicate v 0++[(n:Int)]
theorem Qno(v n i:Nat):eN (Qbi v n) i=if i=v then(n:Int)else 0:=by
 unfold Qbi;by_cases h:i<v
 ·rw[if_neg (by omega),Qct (by simp;omega),List.getElem_append_left (by simpa using h),List.getElem_replicate]
 ·by_cases h2:i=v
  ·subst h2;rw[if_pos rfl,Qct (by simp),List.getElem_append_right (by simp)];simp
  ·rw[if_neg h2,Qcn (by simp;omega)]
theorem Qmn{v n:Nat}(h:0<n):(Qbi v n).getLast? ≠some 0:=by unfold Qbi;rw[List.getLast?_append];simp;omega
theorem Qwk{v n:Nat}(hv:v<64):MB n (Qbi v n):=by
 refine⟨by simp[Qbi];omega,fun x hx=>?_,fun x hx=>?_⟩
 all_goals
  simp only[Qbi,List.mem_append,List.mem_replicate,List.mem_singleton]at hx;omega
def Qcm(p:List Tm)(v n:Nat):List Tm:=if n=0 then p else Qac p [(1,Qbi v n)]
theorem Q0x{v n:Nat}(h:0<n):Nrm [((1:Rat),Qbi v n)]:=Nrm.one (show(1:Rat)≠0 by decide) (Qmn h)
theorem Qhc{p:List Tm}(hp:Nrm p)(v n:Nat):Nrm (Qcm p v n):=by
 unfold Qcm;split
 ·exact hp
 ·exact Qdh hp.s (Q0x (by omega)).s
theorem Q5p{p:List Tm}(hp:Can p)(v n:Nat)(φ:List Int->Rat):pev φ (Qcm p v n)=pev (fun m=>φ (Qa5 m (Qbi v n))) p:=by
 unfold Qcm;split
 ·rename_i h;subst h;refine Qec fun t ht=>?_;congr 1;refine Qe9 (hp t ht) (Qey _ _) fun i=>?_;rw[Qdr,Qno];split<;>simp
 ·rw[Qlv];refine Qec fun t ht=>?_;rw[Qau,Qc5,Rat.one_mul,Rat.add_zero]
theorem Qqj{φ:List Int->Rat}{v n:Nat}(h:∀m,eN m v≠n->φ m=0):∀ {p:List Tm},Can p->pev φ p=pev (fun m=>φ (Qa5 m (Qbi v n))) (Qah p v n)
 | [],_=>rfl
 | t::p,hp=>by
  have ih:=Qqj h (Can.cons.1 hp).2;by_cases ht:eN t.2 v=n
  ·have e:Qah (t::p) v n=(t.1,Qb9 t.2 v)::Qah p v n:=by rw[Qah,List.filterMap_cons,if_pos ht];rfl
   have e2:Qa5 (Qb9 t.2 v) (Qbi v n)=t.2:=Qe9 (Qey _ _) (Can.cons.1 hp).1 fun i=>by
    rw[Qdr,Qjc,Qno];by_cases hi:i=v
    ·subst hi;simp[ht]
    ·simp[hi]
   rw[e,Qau,Qau,ih];show _=t.1*φ (Qa5 (Qb9 t.2 v) (Qbi v n))+_;rw[e2]
  ·have e:Qah (t::p) v n=Qah p v n:=by rw[Qah,List.filterMap_cons,if_neg ht];rfl
   rw[e,Qau,h _ ht,Rat.mul_zero,Rat.zero_add,ih]
theorem Qjd{p:List Tm}{v:Nat}{n:Int}{t:Tm}(h:t∈Qah p v n):eN t.2 v=0:=by obtain⟨s,_,_,rfl⟩:=Qgv h;rw[Qjc,if_pos rfl]
def dvB(r:List Tm)(v n d:Nat):List Tm:=Qcm (Qah r v n) v (n-d)
def dvR(r g:List Tm)(v n d:Nat):List Tm:=Qfx (Qac (Qah g v d) r) (Qac (dvB r v n d) g)
theorem Qais{r g:List Tm}{v n d:Nat}(hr:Nrm r)(hg:Nrm g)(hd:d<=n){φ:List Int->Rat}(h:∀m,eN m v≠n->φ m=0):pev φ (dvR r g v n d)=0:=by
 have hb:=Qhc (Qcu hr v n) v (n-d);have hc:=Qcu hg v d;rw[dvR,Qadm φ (Qdh hc.s hr.s).c (Qdh (show Qbb (dvB r v n d)from hb.s) hg.s),Qlv,Qlv,dvB,Q5p (Qcu hr v n).c];have e1:pev (fun m=>pev (fun s=>φ (Qa5 m s)) r) (Qah g v d)=pev (fun m=>pev (fun s=>φ (Qa5 m (Qa5 s (Qbi v n)))) (Qah r v n)) (Qah g v d):=by refine Qec fun t ht=>?_;refine Qqj (φ:=fun s=>φ (Qa5 t.2 s)) (fun m hm=>h _ ?_) hr.c;rw[Qdr,Qjd ht,Int.zero_add];exact hm
 have e2:pev (fun m=>pev (fun n_1=>φ (Qa5 (Qa5 m (Qbi v (n-d))) n_1)) g) (Qah r v n)=pev (fun m=>pev (fun a=>φ (Qa5 (Qa5 m (Qbi v (n-d))) (Qa5 a (Qbi v d)))) (Qah g v d)) (Qah r v n):=by refine Qec fun t ht=>?_;refine Qqj (φ:=fun s=>φ (Qa5 (Qa5 t.2 (Qbi v (n-d))) s)) (fun m hm=>h _ ?_) hg.c;rw[Qdr,Qdr,Qjd ht,Qno,if_pos rfl];omega
 rw[e1,e2,Qov];have e3:∀s a:List Int,Qa5 a (Qa5 s (Qbi v n))=Qa5 (Qa5 s (Qbi v (n-d))) (Qa5 a (Qbi v d)):=fun s a=>Qe9 (Qey _ _) (Qey _ _) fun i=>by simp only[Qdr,Qno];split<;>omega
 simp only[e3];exact Rat.sub_self
theorem Qux{p:List Tm}{v n:Nat}{t:Tm}(h:t∈Qcm p v n):∃s∈p,∀i,eN t.2 i=eN s.2 i+if i=v then(n:Int)else 0:=by
 unfold Qcm at h;split at h
 ·rename_i h0;subst h0;exact⟨t,h,fun i=>by split<;>simp⟩
 ·obtain⟨s,hs,b,hb,e⟩:=Qo0 h;simp only[List.mem_singleton]at hb;subst hb;exact⟨s,hs,fun i=>by rw[e,Qdr,Qno]⟩
theorem Qad1{p q:List Tm}{t:Tm}(hq:Can q)(h:t∈Qfx p q):(∃s∈p,s.2=t.2)∨(∃s∈q,s.2=t.2):=by
 rcases Qhy h with h|⟨s,hs,h⟩
 ·exact .inl h
 ·right;rw[Qip,Qca,if_neg (by decide)]at hs;obtain⟨u,hu,e⟩:=Quw hs;exact⟨u,hu,by rw[<-h,e];exact(Qoe (hq u hu)).symm⟩
theorem Qaqh{r g:List Tm}{v n d:Nat}(hr:Nrm r)(hg:Nrm g)(hd:d<=n)(hn:∀t∈r,eN t.2 v<=n)(hgd:∀t∈g,eN t.2 v<=d):∀t∈dvR r g v n d,eN t.2 v<n:=by
 intro t ht;have hb:=Qhc (Qcu hr v n) v (n-d);have hc:=Qcu hg v d;have hR:Nrm (dvR r g v n d):=Q0q (Qdh hc.s hr.s) (Qdh (show Qbb (dvB r v n d)from hb.s) hg.s);have hle:eN t.2 v<=n:=by
  rcases Qad1 (Qdh (show Qbb (dvB r v n d)from hb.s) hg.s).c ht with⟨s,hs,e⟩|⟨s,hs,e⟩
  ·obtain⟨a,ha,b,hb',e2⟩:=Qo0 hs;rw[<-e,e2,Qdr,Qjd ha];have:=hn b hb';omega
  ·obtain⟨a,ha,b,hb',e2⟩:=Qo0 hs;obtain⟨u,hu,e3⟩:=Qux (show a∈Qcm (Qah r v n) v (n-d)from ha);rw[<-e,e2,Qdr,e3,Qjd hu,if_pos rfl];have:=hgd b hb';omega
 rcases Int.lt_or_eq_of_le hle with h|h
 ·exact h
 ·exfalso;have h1:=Qais hr hg hd (φ:=fun m=>if m=t.2 then 1 else 0) (fun m hm=>by rw[if_neg];rintro rfl;exact hm h);have h2:=Q0w (φ:=fun m=>if m=t.2 then 1 else 0) hR.s ht (fun s hs hne=>by rw[if_neg];intro e;exact hne (Qad0 hR.s hs ht e));rw[h1]at h2;simp only[if_true,Rat.mul_one]at h2;exact hR.z t ht h2.symm
def dvQ(q r g:List Tm)(v n d:Nat):List Tm:=Q5 (Qac (Qah g v d) q) (dvB r v n d)
def Qfe(g:List Tm)(v d:Nat):Nat->List Tm->List Tm->Nat->PV
 |0,q,r,k=>.tup [PV.poly q,PV.poly r,.int .i64 k,.int .i64 0]
 |f+1,q,r,k=>
  if r=[]∨Qai r v<d then .tup [PV.poly q,PV.poly r,.int .i64 k,.int .i64 0]
  else if Qae (dvQ q r g v (Qai r v).toNat d)=true∨Qae (dvR r g v (Qai r v).toNat d)=true then .tup [PV.poly [],PV.poly [],.int .i64 0,.int .i64 4]
  else Qfe g v d f (dvQ q r g v (Qai r v).toNat d) (dvR r g v (Qai r v).toNat d) (k+1)
theorem Qait{q r g:List Tm}{v n d:Nat}(hq:Nrm q)(hr:Nrm r)(hg:Nrm g):Nrm (dvQ q r g v n d):=Qhz (Qdh (Qcu hg v d).s hq.s) (Qhc (Qcu hr v n) v (n-d))
theorem Qaiu{r g:List Tm}{v n d:Nat}(hr:Nrm r)(hg:Nrm g):Nrm (dvR r g v n d):=
 Q0q (Qdh (Qcu hg v d).s hr.s) (Qdh (show Qbb (dvB r v n d)from(Qhc (Qcu hr v n) v (n-d)).s) hg.s)
theorem Q84{r g:List Tm}{v d K E:Nat}(hr:Nrm r)(hg:Nrm g)(hrb:PB K E r)(h0:r≠[])(hd:Qai g v=d)(hle:(d:Int)<=Qai r v):Qai (dvR r g v (Qai r v).toNat d) v<Qai r v:=by
 obtain⟨h1,h2⟩:=Qgw hrb h0 v;have e:(((Qai r v).toNat:Nat):Int)=Qai r v:=by omega
 have h3:=Qaqh (v:=v) (n:=(Qai r v).toNat) (d:=d) hr hg (by omega) (fun t ht=>by rw[e];exact(Qmm r v).2.1 t ht) (fun t ht=>by rw[<-hd];exact(Qmm g v).2.1 t ht);exact Qair (fun t ht=>by have:=h3 t ht;omega) h1
end Go.FW
