/- Part 5 of the proof of TriangularZeros: P8, CS2, CS3, CU, FwSE, FwSF, FwSG, FwSH, FwSI, FwSJ, FwSK, FwSL, FwUA. Own lemmas; no conditions. -/
import Derived.Test.YtdjoomkeehihmaaGreatTriangularZerosPart4
set_option maxHeartbeats 1000000
set_option linter.unusedSimpArgs false
set_option linter.unusedVariables false
set_option linter.unnecessarySimpa false
set_option maxRecDepth 100000
namespace Go.Proofs.YtdjoomkeehihmaaGreat
open Go Go.FW
theorem Qw2{p:List Tm}{f:Nat}{g:Tm->Bool}(hf:∀t∈p,Qc Tryz.prog f [PV.term t] (· = .bool (g t)))(bV:p.length<=2^36):
  Qc Tryz.prog 159 [PV.aj p,.fn f [] []] (· = .int .i64 (sj g p)):=by
 refine Qf Qo Tryz.func159 rfl agG (by simp[Kg]) fun C hP=>?_;simp only[Kg,Zo,Zg,Zm,Zc,Zf,Zl,Zh,Zs,Zi,Zb,Zk,Zn,Zu,Zq,Zr,Zz];refine Sz0 ?_;refine Qw (by repeat (first|exact Qr|exact Qk|exact Ql|exact Qm|exact Qn|apply Qj|apply Qq|apply Qx|apply Q5|apply Q6|apply Qi)) [(4,5),(8,18)] [] (fun n J hp=>∃i,n=p.length-i/\i<=p.length/\(∀j (h:j<p.length),j<i->g p[j]=false)/\J 8= .int .i64 (i:Nat)) p.length ?_ ?_
 ·refine⟨0,rfl,by omega,by omega,?_⟩;refine Sz0 ?_;rfl
 rintro _ J h ⟨i,rfl,hi,h1,h8⟩;refine Sz1 h8 ?_;refine Qb (fun hg=>?_) (fun hg=>?_)
 ·have aB:i<p.length:=by omega
  have wg:=hf _ (Kag aB);have bA:=fun h=>H7 (g:=g) aB h h1;have fE:g p[i]=false->∀j (h:j<p.length),j<i+1->g p[j]=false:=fun h j hj dW=>by
   by_cases e:j=i
   ·subst e;exact h
   ·exact h1 j hj (by omega)
  generalize hx:p[i]=x at *
  refine Sz2 h8 hx ?_;refine Qa hP wg rfl rfl rfl ?_;refine Sz2 h8 hx ?_;cases ux:g x
  ·refine Sz1 h8 ?_;refine Qg (p.length-(i+1)) (by omega) ⟨i+1,rfl,by omega,fE ux,?_⟩;exact Tz0
  ·refine Sz1 h8 ?_;exact Qd (by rw[bA ux]) rfl
 ·obtain rfl:i=p.length:=by omega
  refine Sz0 ?_;exact Qd (by rw[Hf (fun j hj=>h1 j hj hj)]) rfl
theorem Qw3{p:List Int}{f:Nat}{g:Int->Bool}(hf:∀t∈p,Qc Tryz.prog f [.int .i64 t] (· = .bool (g t)))(bV:p.length<=2^36):
  Qc Tryz.prog 160 [PV.mono p,.fn f [] []] (· = .int .i64 (sj g p)):=by
 refine Qf Qo Tryz.func160 rfl agH (by simp[Ki]) fun C hP=>?_;simp only[Ki,Zo,Zg,Zm,Zc,Zf,Zl,Zh,Zs,Zi,Zb,Zk,Zn,Zu,Zq,Zr,Zz];refine Sz0 ?_;refine Qw (by repeat (first|exact Qr|exact Qk|exact Ql|exact Qm|exact Qn|apply Qj|apply Qq|apply Qx|apply Q5|apply Q6|apply Qi)) [(4,5),(8,18)] [] (fun n J hp=>∃i,n=p.length-i/\i<=p.length/\(∀j (h:j<p.length),j<i->g p[j]=false)/\J 8= .int .i64 (i:Nat)) p.length ?_ ?_
 ·refine⟨0,rfl,by omega,by omega,?_⟩;refine Sz0 ?_;rfl
 rintro _ J h ⟨i,rfl,hi,h1,h8⟩;refine Sz1 h8 ?_;refine Qb (fun hg=>?_) (fun hg=>?_)
 ·have aB:i<p.length:=by omega
  have wg:=hf _ (Kag aB);have bA:=fun h=>H7 (g:=g) aB h h1;have fE:g p[i]=false->∀j (h:j<p.length),j<i+1->g p[j]=false:=fun h j hj dW=>by
   by_cases e:j=i
   ·subst e;exact h
   ·exact h1 j hj (by omega)
  generalize hx:p[i]=x at *
  refine Sz2 h8 hx ?_;refine Qa hP wg rfl rfl rfl ?_;refine Sz2 h8 hx ?_;cases ux:g x
  ·refine Sz1 h8 ?_;refine Qg (p.length-(i+1)) (by omega) ⟨i+1,rfl,by omega,fE ux,?_⟩;exact Tz0
  ·refine Sz1 h8 ?_;exact Qd (by rw[bA ux]) rfl
 ·obtain rfl:i=p.length:=by omega
  refine Sz0 ?_;exact Qd (by rw[Hf (fun j hj=>h1 j hj hj)]) rfl
theorem Qsr{p:List Tm}{f:Nat}{g:Tm->Bool}(hf:∀t∈p,Qc Tryz.prog f [PV.term t] (· = .bool (g t)))(bV:p.length<=2^36):
  Qc Tryz.prog 112 [PV.aj p,.fn f [] []] (· = .bool (p.any g)):=by
 refine Qf Qo Tryz.func112 rfl agE (by simp[Jt]) fun C hP=>?_;simp only[Jt,Zo,Zg,Zm,Zc,Zf,Zl,Zh,Zs,Zi,Zb,Zk,Zn,Zu,Zq,Zr,Zz];refine Sz0 ?_;refine Qa hP (Qw2 hf bV) rfl rfl rfl ?_;refine Sz0 ?_;exact Qd (congrArg PV.bool (HY g p)) rfl
theorem Qss{p:List Int}{f:Nat}{g:Int->Bool}(hf:∀t∈p,Qc Tryz.prog f [.int .i64 t] (· = .bool (g t)))(bV:p.length<=2^36):
  Qc Tryz.prog 114 [PV.mono p,.fn f [] []] (· = .bool (p.any g)):=by
 refine Qf Qo Tryz.func114 rfl agF (by simp[Jv]) fun C hP=>?_;simp only[Jv,Zo,Zg,Zm,Zc,Zf,Zl,Zh,Zs,Zi,Zb,Zk,Zn,Zu,Zq,Zr,Zz];refine Sz0 ?_;refine Qa hP (Qw3 hf bV) rfl rfl rfl ?_;refine Sz0 ?_;exact Qd (congrArg PV.bool (HY g p)) rfl
theorem Ot{a:Rat}{k:Nat}(h:rs a<=k)(hk:k<2^36):Qc Tryz.prog 65 [PV.rat a] (· =PV.aj (dm a)):=by
 have:=YR (iG h) hk
 rwa[gY]at this
def LN:aA:=⟨39,[.t 2],Zr (Zo (.mv 2 (.c (.bool false))) .nil)<| .seq (Zr (Zm 4 0<|Zn 5 4<|Zk 6 .gtr 5 64<|Zm 7 6<|Zg 7 false (.mv 8 (.t 0))<|Zg 7 false (.len 9 (.t 8))<|Zg 7 false (.bin 10 .gtr false (.t 9) (.c (Zz 0)))<|Zg 7 false (.mv 11 (.t 10))<|Zg 11 true (.mv 12 (.t 0))<|Zg 11 true (.mv 13 (.t 0))<|Zg 11 true (.len 14 (.t 13))<|Zg 11 true (.bin 15 .sub false (.t 14) (.c (Zz 1)))<|Zg 11 true (.idx 16 1 (.t 12) (.t 15))<|Zg 11 true (.ld 17 1 false (.t 16))<|Zg 11 true (.bin 18 .eql false (.t 17) (.c (Zz 0)))<|Zg 7 false (.pick 19 (.t 11) (.t 18) (.c (.bool false)))<|Zo (.pick 20 (.t 7) (.c (.bool true)) (.t 19)) .nil)<| .cond (.t 20) (Zr (Zo (.mv 2 (.c (.bool false))) .nil) .ret) .skip)<| .seq (Zr (Zc 3 0 .nil)<| .block 0<| .loop<| .seq (Zr (Zm 21 3<|Zm 22 0<|Zn 23 22<|Zb 24 .lss 21 23 .nil)<| .cond (.t 24) .skip (.exit 0))<| .seq (.block 1<|Zr (Zm 27 0<|Zm 28 3<|Zi 29 1 27 28<|Zl 30 1 29<|Zk 31 .lss 30 0<|Zm 32 31<|Zg 32 false (.mv 33 (.t 0))<|Zg 32 false (.mv 34 (.t 3))<|Zg 32 false (.idx 35 1 (.t 33) (.t 34))<|Zg 32 false (.ld 36 1 false (.t 35))<|Zg 32 false (.bin 37 .gtr false (.t 36) (.c (Zz 1048576)))<|Zo (.pick 38 (.t 32) (.c (.bool true)) (.t 37)) .nil)<| .cond (.t 38) (Zr (Zo (.mv 2 (.c (.bool false))) .nil) .ret) .skip)<| .rg (Zm 25 3<|Zk 26 .add 25 1<|Zm 3 26 .nil))<|Zr (Zo (.mv 2 (.c (.bool true))) .nil) .ret⟩
theorem ajc:Qe Tryz.prog Tryz.f83=some LN:=by kernel_rfl
def KH:aA:=⟨24,[.t 2],Zr (Zo (.mv 2 (.c .aa)) .nil)<|Zr (Zm 5 0<|Zn 6 5<|Zm 3 6 .nil)<| .seq (.block 0<| .loop<| .seq (Zr (Zm 7 3<|Zk 8 .gtr 7 0<|Zm 9 8<|Zg 9 true (.mv 10 (.t 0))<|Zg 9 true (.mv 11 (.t 3))<|Zg 9 true (.bin 12 .sub false (.t 11) (.c (Zz 1)))<|Zg 9 true (.idx 13 1 (.t 10) (.t 12))<|Zg 9 true (.ld 14 1 false (.t 13))<|Zg 9 true (.bin 15 .eql false (.t 14) (.c (Zz 0)))<|Zo (.pick 16 (.t 9) (.t 15) (.c (.bool false))) .nil)<| .cond (.t 16) .skip (.exit 0))<| .block 1<| .rg (Zm 17 3<|Zk 18 .sub 17 1<|Zm 3 18 .nil))<|Zr (Zo (.mv 4 (.c .aa)) .nil)<|Zr (Zm 19 4<|Zm 20 0<|Zm 21 3<|Zo (.sl 22 1 (.t 20) none (some (.t 21)) none)<|Zo (.app 23 1 8 3 (.t 19) (.t 22))<|Zm 2 23 .nil) .ret⟩
theorem agS:Qe Tryz.prog Tryz.f183=some KH:=by kernel_rfl
def KF:aA:=⟨9,[.t 2],Zr (Zo (.mv 2 (.c .aa)) .nil)<| .seq (Zr (Zm 4 0<|Zq 5 false 183 [.t 4]<|Zm 3 5 .nil)<|Zr (Zm 6 3<|Zq 7 false 83 [.t 6] .nil)<| .cond (.t 7) (Zr (Zm 8 3<|Zm 2 8 .nil) .ret) .skip)<|Zr (Zo (.mv 2 (.c .aa)) .nil) .ret⟩
theorem agT:Qe Tryz.prog Tryz.f181=some KF:=by kernel_rfl
def Lf:aA:=⟨18,[.t 2],Zr (Zc 2 0 .nil)<|Zr (Zc 3 0 .nil)<| .seq (Zr (Zc 4 0 .nil)<| .block 0<| .loop<| .seq (Zr (Zm 5 4<|Zm 6 0<|Zn 7 6<|Zb 8 .lss 5 7 .nil)<| .cond (.t 8) .skip (.exit 0))<| .seq (.block 1<| .rg (Zm 11 3<|Zm 12 0<|Zm 13 4<|Zi 14 1 12 13<|Zl 15 1 14<|Zb 16 .add 11 15<|Zm 3 16 .nil))<| .rg (Zm 9 4<|Zk 10 .add 9 1<|Zm 4 10 .nil))<|Zr (Zm 17 3<|Zm 2 17 .nil) .ret⟩
theorem ajd:Qe Tryz.prog Tryz.f51=some Lf:=by kernel_rfl
def L7:aA:=⟨17,[.t 4],Zr (Zc 4 0 .nil)<| .seq (Zr (Zm 5 1<|Zk 6 .lss 5 0<|Zm 7 6<|Zg 7 false (.mv 8 (.t 1))<|Zg 7 false (.mv 9 (.t 0))<|Zg 7 false (.len 10 (.t 9))<|Zg 7 false (.bin 11 .geq false (.t 8) (.t 10))<|Zo (.pick 12 (.t 7) (.c (.bool true)) (.t 11)) .nil)<| .cond (.t 12) (Zr (Zc 4 0 .nil) .ret) .skip)<|Zr (Zm 13 0<|Zm 14 1<|Zi 15 1 13 14<|Zl 16 1 15<|Zm 4 16 .nil) .ret⟩
theorem ajN:Qe Tryz.prog Tryz.f99=some L7:=by kernel_rfl
def Jy:aA:=⟨30,[.t 4],Zr (Zo (.mv 4 (.c .aa)) .nil)<|Zr (Zo (.mv 5 (.c .aa)) .nil)<| .seq (Zr (Zc 6 0 .nil)<| .block 0<| .loop<| .seq (Zr (Zm 7 6<|Zm 8 0<|Zn 9 8<|Zb 10 .lss 7 9<|Zm 11 10<|Zg 11 false (.mv 12 (.t 6))<|Zg 11 false (.mv 13 (.t 1))<|Zg 11 false (.len 14 (.t 13))<|Zg 11 false (.bin 15 .lss false (.t 12) (.t 14))<|Zo (.pick 16 (.t 11) (.c (.bool true)) (.t 15)) .nil)<| .cond (.t 16) .skip (.exit 0))<| .seq (.block 1<| .rg (Zm 19 5<|Zm 20 0<|Zm 21 6<|Zq 22 false 99 [.t 20,.t 21]<|Zm 23 1<|Zm 24 6<|Zq 25 false 99 [.t 23,.t 24]<|Zb 26 .add 22 25<|Zo (.bs 27 1 3 [.t 26])<|Zo (.app 28 1 8 3 (.t 19) (.t 27))<|Zm 5 28 .nil))<| .rg (Zm 17 6<|Zk 18 .add 17 1<|Zm 6 18 .nil))<|Zr (Zm 29 5<|Zm 4 29 .nil) .ret⟩
theorem agU:Qe Tryz.prog Tryz.f117=some Jy:=by kernel_rfl
def Lj:aA:=⟨48,[.t 6],Zr (Zc 6 0 .nil)<| .seq (Zr (Zm 8 2<|Zk 9 .eql 8 1<|Zm 10 9<|Zg 10 true (.mv 11 (.t 0))<|Zg 10 true (.call (some 12) false (.c (.fn 51 [] [])) [.t 11])<|Zg 10 true (.mv 13 (.t 1))<|Zg 10 true (.call (some 14) false (.c (.fn 51 [] [])) [.t 13])<|Zg 10 true (.bin 15 .neq false (.t 12) (.t 14))<|Zo (.pick 16 (.t 10) (.t 15) (.c (.bool false))) .nil)<| .cond (.t 16) (Zr (Zm 17 0<|Zq 18 false 51 [.t 17]<|Zm 19 1<|Zq 20 false 51 [.t 19]<|Zb 21 .sub 18 20<|Zq 22 false 98 [.t 21]<|Zm 6 22 .nil) .ret) .skip)<| .seq (Zr (Zm 23 0<|Zn 24 23<|Zm 25 1<|Zn 26 25<|Zo (.mx 27 (.t 24) (.t 26))<|Zk 28 .sub 27 1<|Zm 7 28 .nil)<| .block 0<| .loop<| .seq (Zr (Zm 29 7<|Zk 30 .geq 29 0 .nil)<| .cond (.t 30) .skip (.exit 0))<| .seq (.block 1<|Zr (Zm 33 0<|Zm 34 7<|Zq 35 false 99 [.t 33,.t 34]<|Zm 36 1<|Zm 37 7<|Zq 38 false 99 [.t 36,.t 37]<|Zb 39 .neq 35 38 .nil)<| .cond (.t 39) (Zr (Zm 40 0<|Zm 41 7<|Zq 42 false 99 [.t 40,.t 41]<|Zm 43 1<|Zm 44 7<|Zq 45 false 99 [.t 43,.t 44]<|Zb 46 .sub 42 45<|Zq 47 false 98 [.t 46]<|Zm 6 47 .nil) .ret) .skip)<| .rg (Zm 31 7<|Zk 32 .sub 31 1<|Zm 7 32 .nil))<|Zr (Zc 6 0 .nil) .ret⟩
theorem ajO:Qe Tryz.prog Tryz.f54=some Lj:=by kernel_rfl
def L6:aA:=⟨7,[.t 2],Zr (Zc 2 0 .nil)<| .seq (Zr (Zm 3 0<|Zk 4 .lss 3 0 .nil)<| .cond (.t 4) (Zr (Zc 2 (-1) .nil) .ret) .skip)<| .seq (Zr (Zm 5 0<|Zk 6 .gtr 5 0 .nil)<| .cond (.t 6) (Zr (Zc 2 1 .nil) .ret) .skip)<|Zr (Zc 2 0 .nil) .ret⟩
theorem ajP:Qe Tryz.prog Tryz.f98=some L6:=by kernel_rfl
def KL:aA:=⟨92,[.t 4],Zr (Zo (.mv 4 (.c .aa)) .nil)<|Zr (Zo (.mv 5 (.c .aa)) .nil)<|Zr (Zc 6 0<|Zc 7 0 .nil)<| .seq (.block 0<| .loop<| .seq (Zr (Zm 10 6<|Zm 11 0<|Zn 12 11<|Zb 13 .lss 10 12<|Zm 14 13<|Zg 14 false (.mv 15 (.t 7))<|Zg 14 false (.mv 16 (.t 1))<|Zg 14 false (.len 17 (.t 16))<|Zg 14 false (.bin 18 .lss false (.t 15) (.t 17))<|Zo (.pick 19 (.t 14) (.c (.bool true)) (.t 18)) .nil)<| .cond (.t 19) .skip (.exit 0))<| .block 1<|Zr (Zc 8 1 .nil)<| .seq (Zr (Zm 20 6<|Zm 21 0<|Zn 22 21<|Zb 23 .eql 20 22 .nil)<| .cond (.t 23) (.rg (Zc 8 (-1) .nil)) (Zr (Zm 24 7<|Zm 25 1<|Zn 26 25<|Zb 27 .lss 24 26 .nil)<| .cond (.t 27) (.rg (Zm 28 0<|Zm 29 6<|Zi 30 4 28 29<|Zf 31 3 30<|Zl 32 1 31<|Zm 33 1<|Zm 34 7<|Zi 35 4 33 34<|Zf 36 3 35<|Zl 37 1 36<|Zq 38 false 54 [.t 32,.t 37,.c (Zz 0)]<|Zm 8 38 .nil)) .skip))<| .block 2<|Zr (Zm 68 8<|Zk 69 .gtr 68 0<|Zm 67 69 .nil)<| .cond (.t 67) (Zr (Zm 70 5<|Zm 71 0<|Zm 72 6<|Zi 73 4 71 72<|Zh 74 4 73<|Zo (.bs 75 4 54 [.t 74])<|Zo (.app 76 4 80 54 (.t 70) (.t 75))<|Zm 5 76 .nil)<| .rg (Zm 77 6<|Zk 78 .add 77 1<|Zm 6 78 .nil)) (Zr (Zm 80 8<|Zk 81 .lss 80 0<|Zm 79 81 .nil)<| .cond (.t 79) (Zr (Zm 82 5<|Zm 83 1<|Zm 84 7<|Zi 85 4 83 84<|Zh 86 4 85<|Zo (.bs 87 4 54 [.t 86])<|Zo (.app 88 4 80 54 (.t 82) (.t 87))<|Zm 5 88 .nil)<| .rg (Zm 89 7<|Zk 90 .add 89 1<|Zm 7 90 .nil)) (.seq (Zr (Zm 39 0<|Zm 40 6<|Zi 41 4 39 40<|Zf 42 0 41<|Zh 43 3 42<|Zm 44 1<|Zm 45 7<|Zi 46 4 44 45<|Zf 47 0 46<|Zh 48 3 47<| .br (Zq 49 true 55 [.t 43,.t 48]<|Zo (.alloc 9 3 43 (.agg [.bool false,.aa,.aa]))<|Zs 3 9 49 .nil) (Zo (.alloc 9 3 43 (.agg [.bool false,.aa,.aa]))<|Zq 49 true 55 [.t 43,.t 48]<|Zs 3 9 49 .nil))<|Zr (Zh 50 3 9<|Zq 51 false 56 [.t 50]<|Zk 52 .neq 51 0 .nil)<| .cond (.t 52) (.rg (Zm 53 5<|Zh 54 3 9<|Zm 55 0<|Zm 56 6<|Zi 57 4 55 56<|Zf 58 3 57<|Zl 59 1 58<|Zo (.bU 60 [.bool false,.aa,.aa,.aa] [(0,3,.t 54),(3,1,.t 59)])<|Zo (.bs 61 4 54 [.t 60])<|Zo (.app 62 4 80 54 (.t 53) (.t 61))<|Zm 5 62 .nil)) .skip)<|Zr (Zm 63 6<|Zk 64 .add 63 1<|Zm 6 64 .nil)<| .rg (Zm 65 7<|Zk 66 .add 65 1<|Zm 7 66 .nil))))<|Zr (Zm 91 5<|Zm 4 91 .nil) .ret⟩
theorem ajQ:Qe Tryz.prog Tryz.f22=some KL:=by kernel_rfl
def KZ:aA:=⟨58,[.t 4],Zr (Zc 4 0 .nil)<| .seq (Zr (Zc 5 0 .nil)<| .block 0<| .loop<| .seq (Zr (Zm 8 5<|Zm 9 0<|Zn 10 9<|Zb 11 .lss 8 10<|Zm 12 11<|Zg 12 true (.mv 13 (.t 5))<|Zg 12 true (.mv 14 (.t 1))<|Zg 12 true (.len 15 (.t 14))<|Zg 12 true (.bin 16 .lss false (.t 13) (.t 15))<|Zo (.pick 17 (.t 12) (.t 16) (.c (.bool false))) .nil)<| .cond (.t 17) .skip (.exit 0))<| .seq (.block 1<| .seq (Zr (Zm 20 0<|Zm 21 5<|Zi 22 4 20 21<|Zf 23 3 22<|Zl 24 1 23<|Zm 25 1<|Zm 26 5<|Zi 27 4 25 26<|Zf 28 3 27<|Zl 29 1 28<|Zq 30 false 54 [.t 24,.t 29,.c (Zz 0)]<|Zm 6 30 .nil)<|Zr (Zm 31 6<|Zk 32 .neq 31 0 .nil)<| .cond (.t 32) (Zr (Zm 33 6<|Zm 4 33 .nil) .ret) .skip)<|Zr (Zm 34 0<|Zm 35 5<|Zi 36 4 34 35<|Zf 37 0 36<|Zh 38 3 37<|Zm 39 1<|Zm 40 5<|Zi 41 4 39 40<|Zf 42 0 41<|Zh 43 3 42<|Zq 44 false 81 [.t 38,.t 43]<|Zm 7 44 .nil)<|Zr (Zm 45 7<|Zk 46 .neq 45 0 .nil)<| .cond (.t 46) (Zr (Zm 47 7<|Zm 4 47 .nil) .ret) .skip)<| .rg (Zm 18 5<|Zk 19 .add 18 1<|Zm 5 19 .nil))<| .seq (Zr (Zm 48 0<|Zn 49 48<|Zm 50 1<|Zn 51 50<|Zb 52 .lss 49 51 .nil)<| .cond (.t 52) (Zr (Zc 4 (-1) .nil) .ret) .skip)<| .seq (Zr (Zm 53 0<|Zn 54 53<|Zm 55 1<|Zn 56 55<|Zb 57 .gtr 54 56 .nil)<| .cond (.t 57) (Zr (Zc 4 1 .nil) .ret) .skip)<|Zr (Zc 4 0 .nil) .ret⟩
theorem ajR:Qe Tryz.prog Tryz.f38=some KZ:=by kernel_rfl
def KP:aA:=⟨5,[.t 2],Zr (Zo (.box 1 3 43 (.t 0))<|Zo (.mv 2 (.c .aa)) .nil)<|Zr (Zh 3 3 1<|Zq 4 false 52 [.c .aa,.t 3,.c .aa]<|Zm 2 4 .nil) .ret⟩
theorem ajS:Qe Tryz.prog Tryz.f25=some KP:=by kernel_rfl
def KI:aA:=⟨20,[.t 2],Zr (Zc 2 0 .nil)<|Zr (Zc 3 (-1) .nil)<| .seq (Zr (Zc 4 0 .nil)<| .block 0<| .loop<| .seq (Zr (Zm 5 4<|Zm 6 0<|Zn 7 6<|Zb 8 .lss 5 7 .nil)<| .cond (.t 8) .skip (.exit 0))<| .seq (.block 1<| .rg (Zm 11 3<|Zm 12 0<|Zm 13 4<|Zi 14 4 12 13<|Zf 15 3 14<|Zl 16 1 15<|Zq 17 false 51 [.t 16]<|Zo (.mx 18 (.t 11) (.t 17))<|Zm 3 18 .nil))<| .rg (Zm 9 4<|Zk 10 .add 9 1<|Zm 4 10 .nil))<|Zr (Zm 19 3<|Zm 2 19 .nil) .ret⟩
theorem ajT:Qe Tryz.prog Tryz.f19=some KI:=by kernel_rfl
def Jr:aA:=⟨9,[.t 4],Zr (Zo (.mv 4 (.c (.bool false))) .nil)<|Zr (Zm 5 0<|Zm 6 1<|Zq 7 false 38 [.t 5,.t 6]<|Zk 8 .eql 7 0<|Zm 4 8 .nil) .ret⟩
theorem ajU:Qe Tryz.prog Tryz.f11=some Jr:=by kernel_rfl
def JP:aA:=⟨33,[.t 2],Zr (Zo (.mv 2 (.c (.bool false))) .nil)<| .seq (Zr (Zc 3 0 .nil)<| .block 0<| .loop<| .seq (Zr (Zm 5 3<|Zm 6 0<|Zn 7 6<|Zb 8 .lss 5 7 .nil)<| .cond (.t 8) .skip (.exit 0))<| .seq (.block 1<|Zr (Zc 4 0 .nil)<| .block 2<| .loop<| .seq (Zr (Zm 11 4<|Zm 12 0<|Zm 13 3<|Zi 14 4 12 13<|Zf 15 3 14<|Zl 16 1 15<|Zn 17 16<|Zb 18 .lss 11 17 .nil)<| .cond (.t 18) .skip (.exit 2))<| .seq (.block 3<|Zr (Zm 21 0<|Zm 22 3<|Zi 23 4 21 22<|Zf 24 3 23<|Zl 25 1 24<|Zm 26 4<|Zi 27 1 25 26<|Zl 28 1 27<|Zk 29 .gtr 28 1048576 .nil)<| .cond (.t 29) (Zr (Zo (.mv 2 (.c (.bool true))) .nil) .ret) .skip)<| .rg (Zm 19 4<|Zk 20 .add 19 1<|Zm 4 20 .nil))<| .rg (Zm 9 3<|Zk 10 .add 9 1<|Zm 3 10 .nil))<|Zr (Zm 30 0<|Zn 31 30<|Zk 32 .gtr 31 4000<|Zm 2 32 .nil) .ret⟩
theorem agl:Qe Tryz.prog Tryz.f135=some JP:=by kernel_rfl
def KO:aA:=⟨22,[.t 4],Zr (Zo (.mv 4 (.c .aa)) .nil)<|Zr (Zo (.mv 5 (.c .aa)) .nil)<| .seq (Zr (Zc 6 0 .nil)<| .block 0<| .loop<| .seq (Zr (Zm 7 6<|Zm 8 1<|Zn 9 8<|Zb 10 .lss 7 9 .nil)<| .cond (.t 10) .skip (.exit 0))<| .seq (.block 1<| .rg (Zm 13 5<|Zm 14 0<|Zm 15 1<|Zm 16 6<|Zi 17 4 15 16<|Zh 18 4 17<|Zq 19 false 62 [.t 14,.t 18]<|Zq 20 false 22 [.t 13,.t 19]<|Zm 5 20 .nil))<| .rg (Zm 11 6<|Zk 12 .add 11 1<|Zm 6 12 .nil))<|Zr (Zm 21 5<|Zm 4 21 .nil) .ret⟩
theorem ajV:Qe Tryz.prog Tryz.f24=some KO:=by kernel_rfl
def Lh:aA:=⟨6,[.t 2],Zr (Zo (.mv 2 (.c .aa)) .nil)<|Zr (Zm 3 0<|Zq 4 false 32 [.c (Zz (-1))]<|Zq 5 false 71 [.t 3,.t 4]<|Zm 2 5 .nil) .ret⟩
theorem ajW:Qe Tryz.prog Tryz.f53=some Lh:=by kernel_rfl
def Kq:aA:=⟨34,[.t 2],Zr (Zo (.mv 2 (.c .aa)) .nil)<|Zr (Zo (.mv 3 (.c .aa)) .nil)<| .seq (Zr (Zc 4 0 .nil)<| .block 0<| .loop<| .seq (Zr (Zm 6 4<|Zm 7 0<|Zn 8 7<|Zb 9 .lss 6 8 .nil)<| .cond (.t 9) .skip (.exit 0))<| .seq (.block 1<|Zr (Zm 12 0<|Zm 13 4<|Zi 14 4 12 13<|Zf 15 3 14<|Zl 16 1 15<|Zq 17 false 181 [.t 16]<|Zm 5 17 .nil)<|Zr (Zm 18 0<|Zm 19 4<|Zi 20 4 18 19<|Zf 21 3 20<|Zl 22 1 21<|Zm 23 5<|Zq 24 false 182 [.t 22,.t 23] .nil)<| .cond (.t 24) (.rg (Zm 25 3<|Zm 26 0<|Zm 27 4<|Zi 28 4 26 27<|Zf 29 0 28<|Zh 30 3 29<|Zm 31 5<|Zq 32 false 52 [.t 25,.t 30,.t 31]<|Zm 3 32 .nil)) .skip)<| .rg (Zm 10 4<|Zk 11 .add 10 1<|Zm 4 11 .nil))<|Zr (Zm 33 3<|Zm 2 33 .nil) .ret⟩
theorem agm:Qe Tryz.prog Tryz.f168=some Kq:=by kernel_rfl
def K3:aA:=⟨52,[.t 2],Zr (Zo (.mv 2 (.c (.bool false))) .nil)<| .seq (Zr (Zc 3 0 .nil)<| .block 0<| .loop<| .seq (Zr (Zm 4 3<|Zm 5 0<|Zn 6 5<|Zb 7 .lss 4 6 .nil)<| .cond (.t 7) .skip (.exit 0))<| .seq (.block 1<| .seq (Zr (Zm 10 0<|Zm 11 3<|Zi 12 4 10 11<|Zf 13 0 12<|Zh 14 3 13<|Zq 15 false 82 [.t 14]<|Zu 16 15<|Zm 17 16<|Zg 17 false (.mv 18 (.t 0))<|Zg 17 false (.mv 19 (.t 3))<|Zg 17 false (.idx 20 4 (.t 18) (.t 19))<|Zg 17 false (.cC 21 0 (.t 20))<|Zg 17 false (.ld 22 3 true (.t 21))<|Zg 17 false (.call (some 23) false (.c (.fn 56 [] [])) [.t 22])<|Zg 17 false (.bin 24 .eql false (.t 23) (.c (Zz 0)))<|Zo (.pick 25 (.t 17) (.c (.bool true)) (.t 24))<|Zm 26 25<|Zg 26 false (.mv 27 (.t 0))<|Zg 26 false (.mv 28 (.t 3))<|Zg 26 false (.idx 29 4 (.t 27) (.t 28))<|Zg 26 false (.cC 30 3 (.t 29))<|Zg 26 false (.ld 31 1 false (.t 30))<|Zg 26 false (.call (some 32) false (.c (.fn 83 [] [])) [.t 31])<|Zg 26 false (.un 33 .not (.t 32))<|Zo (.pick 34 (.t 26) (.c (.bool true)) (.t 33)) .nil)<| .cond (.t 34) (Zr (Zo (.mv 2 (.c (.bool false))) .nil) .ret) .skip)<|Zr (Zm 35 3<|Zk 36 .gtr 35 0<|Zm 37 36<|Zg 37 true (.mv 38 (.t 0))<|Zg 37 true (.mv 39 (.t 3))<|Zg 37 true (.bin 40 .sub false (.t 39) (.c (Zz 1)))<|Zg 37 true (.idx 41 4 (.t 38) (.t 40))<|Zg 37 true (.cC 42 3 (.t 41))<|Zg 37 true (.ld 43 1 false (.t 42))<|Zg 37 true (.mv 44 (.t 0))<|Zg 37 true (.mv 45 (.t 3))<|Zg 37 true (.idx 46 4 (.t 44) (.t 45))<|Zg 37 true (.cC 47 3 (.t 46))<|Zg 37 true (.ld 48 1 false (.t 47))<|Zg 37 true (.call (some 49) false (.c (.fn 54 [] [])) [.t 43,.t 48,.c (Zz 0)])<|Zg 37 true (.bin 50 .leq false (.t 49) (.c (Zz 0)))<|Zo (.pick 51 (.t 37) (.t 50) (.c (.bool false))) .nil)<| .cond (.t 51) (Zr (Zo (.mv 2 (.c (.bool false))) .nil) .ret) .skip)<| .rg (Zm 8 3<|Zk 9 .add 8 1<|Zm 3 9 .nil))<|Zr (Zo (.mv 2 (.c (.bool true))) .nil) .ret⟩
theorem ajX:Qe Tryz.prog Tryz.f39=some K3:=by kernel_rfl
def Lz:aA:=⟨35,[.t 4],Zr (Zo (.box 3 3 43 (.t 1))<|Zo (.mv 4 (.c .aa)) .nil)<|Zr (Zo (.mv 5 (.c .aa)) .nil)<| .seq (Zr (Zc 6 0 .nil)<| .block 0<| .loop<| .seq (Zr (Zm 7 6<|Zm 8 0<|Zn 9 8<|Zb 10 .lss 7 9<|Zm 11 10<|Zg 11 true (.ld 12 3 true (.t 3))<|Zg 11 true (.call (some 13) false (.c (.fn 56 [] [])) [.t 12])<|Zg 11 true (.bin 14 .neq false (.t 13) (.c (Zz 0)))<|Zo (.pick 15 (.t 11) (.t 14) (.c (.bool false))) .nil)<| .cond (.t 15) .skip (.exit 0))<| .seq (.block 1<| .rg (Zm 18 5<|Zm 19 0<|Zm 20 6<|Zi 21 4 19 20<|Zf 22 0 21<|Zh 23 3 22<|Zh 24 3 3<|Zm 26 0<|Zm 27 6<|Zi 28 4 26 27<|Zf 29 3 28<|Zl 30 1 29<|Zq 25 true 116 [.t 23,.t 24]<|Zo (.bU 31 [.bool false,.aa,.aa,.aa] [(0,3,.t 25),(3,1,.t 30)])<|Zo (.bs 32 4 54 [.t 31])<|Zo (.app 33 4 80 54 (.t 18) (.t 32))<|Zm 5 33 .nil))<| .rg (Zm 16 6<|Zk 17 .add 16 1<|Zm 6 17 .nil))<|Zr (Zm 34 5<|Zm 4 34 .nil) .ret⟩
theorem ajY:Qe Tryz.prog Tryz.f71=some Lz:=by kernel_rfl
def KD:aA:=⟨72,[.t 8],Zr (Zo (.mv 8 (.c (.bool false))) .nil)<| .seq (Zr (Zm 11 0<|Zn 12 11<|Zm 13 1<|Zb 14 .gtr 12 13 .nil)<| .cond (.t 14) (Zr (Zo (.mv 8 (.c (.bool false))) .nil) .ret) .skip)<| .seq (Zr (Zc 9 0 .nil)<| .block 0<| .loop<| .seq (Zr (Zm 15 9<|Zm 16 0<|Zn 17 16<|Zb 18 .lss 15 17 .nil)<| .cond (.t 18) .skip (.exit 0))<| .seq (.block 1<| .seq (Zr (Zm 21 0<|Zm 22 9<|Zi 23 4 21 22<|Zf 24 3 23<|Zl 25 1 24<|Zn 26 25<|Zm 27 2<|Zb 28 .gtr 26 27<|Zm 29 28<|Zg 29 false (.mv 30 (.t 0))<|Zg 29 false (.mv 31 (.t 9))<|Zg 29 false (.idx 32 4 (.t 30) (.t 31))<|Zg 29 false (.cC 33 0 (.t 32))<|Zg 29 false (.cC 34 0 (.t 33))<|Zg 29 false (.cC 35 1 (.t 34))<|Zg 29 false (.ld 36 1 false (.t 35))<|Zg 29 false (.len 37 (.t 36))<|Zg 29 false (.bin 38 .gtr false (.t 37) (.c (Zz 4)))<|Zo (.pick 39 (.t 29) (.c (.bool true)) (.t 38))<|Zm 40 39<|Zg 40 false (.mv 41 (.t 0))<|Zg 40 false (.mv 42 (.t 9))<|Zg 40 false (.idx 43 4 (.t 41) (.t 42))<|Zg 40 false (.cC 44 0 (.t 43))<|Zg 40 false (.cC 45 2 (.t 44))<|Zg 40 false (.ld 46 1 false (.t 45))<|Zg 40 false (.len 47 (.t 46))<|Zg 40 false (.bin 48 .gtr false (.t 47) (.c (Zz 4)))<|Zo (.pick 49 (.t 40) (.c (.bool true)) (.t 48)) .nil)<| .cond (.t 49) (Zr (Zo (.mv 8 (.c (.bool false))) .nil) .ret) .skip)<|Zr (Zc 10 0 .nil)<| .block 2<| .loop<| .seq (Zr (Zm 50 10<|Zm 51 0<|Zm 52 9<|Zi 53 4 51 52<|Zf 54 3 53<|Zl 55 1 54<|Zn 56 55<|Zb 57 .lss 50 56 .nil)<| .cond (.t 57) .skip (.exit 2))<| .seq (.block 3<|Zr (Zm 60 0<|Zm 61 9<|Zi 62 4 60 61<|Zf 63 3 62<|Zl 64 1 63<|Zm 65 10<|Zi 66 1 64 65<|Zl 67 1 66<|Zm 68 3<|Zb 69 .gtr 67 68 .nil)<| .cond (.t 69) (Zr (Zo (.mv 8 (.c (.bool false))) .nil) .ret) .skip)<| .rg (Zm 58 10<|Zk 59 .add 58 1<|Zm 10 59 .nil))<| .rg (Zm 19 9<|Zk 20 .add 19 1<|Zm 9 20 .nil))<|Zr (Zm 70 0<|Zq 71 false 39 [.t 70]<|Zm 8 71 .nil) .ret⟩
theorem ajZ:Qe Tryz.prog Tryz.f18=some KD:=by kernel_rfl
def KK:aA:=⟨9,[.t 4],Zr (Zo (.mv 4 (.c .aa)) .nil)<|Zr (Zm 5 0<|Zm 6 1<|Zq 7 false 53 [.t 6]<|Zq 8 false 22 [.t 5,.t 7]<|Zm 4 8 .nil) .ret⟩
theorem aj0:Qe Tryz.prog Tryz.f21=some KK:=by kernel_rfl
def Lg:aA:=⟨88,[.t 6],Zr (Zo (.box 4 3 43 (.t 1))<|Zo (.mv 6 (.c .aa)) .nil)<|Zr (Zm 10 0<|Zn 11 10<|Zm 7 11 .nil)<| .seq (.block 0<| .loop<| .seq (Zr (Zm 12 7<|Zk 13 .gtr 12 0<|Zm 14 13<|Zg 14 true (.mv 15 (.t 0))<|Zg 14 true (.mv 16 (.t 7))<|Zg 14 true (.bin 17 .sub false (.t 16) (.c (Zz 1)))<|Zg 14 true (.idx 18 4 (.t 15) (.t 17))<|Zg 14 true (.cC 19 3 (.t 18))<|Zg 14 true (.ld 20 1 false (.t 19))<|Zg 14 true (.mv 21 (.t 2))<|Zg 14 true (.call (some 22) false (.c (.fn 54 [] [])) [.t 20,.t 21,.c (Zz 0)])<|Zg 14 true (.bin 23 .lss false (.t 22) (.c (Zz 0)))<|Zo (.pick 24 (.t 14) (.t 23) (.c (.bool false))) .nil)<| .cond (.t 24) .skip (.exit 0))<| .block 1<| .rg (Zm 25 7<|Zk 26 .sub 25 1<|Zm 7 26 .nil))<|Zr (Zo (.mv 8 (.c .aa)) .nil)<| .seq (Zr (Zm 27 7<|Zk 28 .gtr 27 0<|Zm 29 28<|Zg 29 true (.mv 30 (.t 0))<|Zg 29 true (.mv 31 (.t 7))<|Zg 29 true (.bin 32 .sub false (.t 31) (.c (Zz 1)))<|Zg 29 true (.idx 33 4 (.t 30) (.t 32))<|Zg 29 true (.cC 34 3 (.t 33))<|Zg 29 true (.ld 35 1 false (.t 34))<|Zg 29 true (.mv 36 (.t 2))<|Zg 29 true (.call (some 37) false (.c (.fn 54 [] [])) [.t 35,.t 36,.c (Zz 0)])<|Zg 29 true (.bin 38 .eql false (.t 37) (.c (Zz 0)))<|Zo (.pick 39 (.t 29) (.t 38) (.c (.bool false))) .nil)<| .cond (.t 39) (Zr (Zm 40 8<|Zm 41 0<|Zm 42 7<|Zk 43 .sub 42 1<|Zo (.sl 44 4 (.t 41) none (some (.t 43)) none)<|Zo (.app 45 4 80 54 (.t 40) (.t 44))<|Zm 8 45 .nil)<| .seq (Zr (Zm 46 0<|Zm 47 7<|Zk 48 .sub 47 1<|Zi 49 4 46 48<|Zf 50 0 49<|Zh 51 3 50<|Zh 52 3 4<| .br (Zq 53 true 55 [.t 51,.t 52]<|Zo (.alloc 9 3 43 (.agg [.bool false,.aa,.aa]))<|Zs 3 9 53 .nil) (Zo (.alloc 9 3 43 (.agg [.bool false,.aa,.aa]))<|Zq 53 true 55 [.t 51,.t 52]<|Zs 3 9 53 .nil))<|Zr (Zh 54 3 9<|Zq 55 false 56 [.t 54]<|Zk 56 .neq 55 0 .nil)<| .cond (.t 56) (.rg (Zm 57 8<|Zh 58 3 9<|Zm 59 2<|Zo (.bU 60 [.bool false,.aa,.aa,.aa] [(0,3,.t 58),(3,1,.t 59)])<|Zo (.bs 61 4 54 [.t 60])<|Zo (.app 62 4 80 54 (.t 57) (.t 61))<|Zm 8 62 .nil)) .skip)<|Zr (Zm 63 8<|Zm 64 0<|Zm 65 7<|Zo (.sl 66 4 (.t 64) (some (.t 65)) none none)<|Zo (.app 67 4 80 54 (.t 63) (.t 66))<|Zm 6 67 .nil) .ret) .skip)<|Zr (Zm 68 8<|Zm 69 0<|Zm 70 7<|Zo (.sl 71 4 (.t 69) none (some (.t 70)) none)<|Zo (.app 72 4 80 54 (.t 68) (.t 71))<|Zm 8 72 .nil)<| .seq (Zr (Zh 73 3 4<|Zq 74 false 56 [.t 73]<|Zk 75 .neq 74 0 .nil)<| .cond (.t 75) (.rg (Zm 76 8<|Zh 77 3 4<|Zq 78 false 97 [.t 77]<|Zm 79 2<|Zo (.bU 80 [.bool false,.aa,.aa,.aa] [(0,3,.t 78),(3,1,.t 79)])<|Zo (.bs 81 4 54 [.t 80])<|Zo (.app 82 4 80 54 (.t 76) (.t 81))<|Zm 8 82 .nil)) .skip)<|Zr (Zm 83 8<|Zm 84 0<|Zm 85 7<|Zo (.sl 86 4 (.t 84) (some (.t 85)) none none)<|Zo (.app 87 4 80 54 (.t 83) (.t 86))<|Zm 6 87 .nil) .ret⟩
theorem aj1:Qe Tryz.prog Tryz.f52=some Lg:=by kernel_rfl
def Lr:aA:=⟨34,[.t 4],Zr (Zo (.box 3 4 54 (.t 1))<|Zo (.mv 4 (.c .aa)) .nil)<|Zr (Zo (.mv 5 (.c .aa)) .nil)<| .seq (Zr (Zc 6 0 .nil)<| .block 0<| .loop<| .seq (Zr (Zm 7 6<|Zm 8 0<|Zn 9 8<|Zb 10 .lss 7 9 .nil)<| .cond (.t 10) .skip (.exit 0))<| .seq (.block 1<| .rg (Zm 13 5<|Zm 14 0<|Zm 15 6<|Zi 16 4 14 15<|Zf 17 0 16<|Zh 18 3 17<|Zf 19 0 3<|Zh 20 3 19<|Zm 22 0<|Zm 23 6<|Zi 24 4 22 23<|Zf 25 3 24<|Zl 26 1 25<|Zf 27 3 3<|Zl 28 1 27<|Zq 21 true 116 [.t 18,.t 20]<|Zq 29 true 117 [.t 26,.t 28]<|Zo (.bU 30 [.bool false,.aa,.aa,.aa] [(0,3,.t 21),(3,1,.t 29)])<|Zo (.bs 31 4 54 [.t 30])<|Zo (.app 32 4 80 54 (.t 13) (.t 31))<|Zm 5 32 .nil))<| .rg (Zm 11 6<|Zk 12 .add 11 1<|Zm 6 12 .nil))<|Zr (Zm 33 5<|Zm 4 33 .nil) .ret⟩
theorem aj2:Qe Tryz.prog Tryz.f62=some Lr:=by kernel_rfl
def KG:aA:=⟨20,[.t 4],Zr (Zo (.mv 4 (.c (.bool false))) .nil)<| .seq (Zr (Zc 5 0 .nil)<| .block 0<| .loop<| .seq (Zr (Zm 6 5<|Zm 7 0<|Zn 8 7<|Zb 9 .lss 6 8 .nil)<| .cond (.t 9) .skip (.exit 0))<| .seq (.block 1<|Zr (Zm 12 0<|Zm 13 5<|Zi 14 1 12 13<|Zl 15 1 14<|Zm 16 1<|Zm 17 5<|Zq 18 true 99 [.t 16,.t 17]<|Zb 19 .neq 15 18 .nil)<| .cond (.t 19) (Zr (Zo (.mv 4 (.c (.bool false))) .nil) .ret) .skip)<| .rg (Zm 10 5<|Zk 11 .add 10 1<|Zm 5 11 .nil))<|Zr (Zo (.mv 4 (.c (.bool true))) .nil) .ret⟩
theorem agn:Qe Tryz.prog Tryz.f182=some KG:=by kernel_rfl
def Jm:aA:=⟨27,[.t 2],Zr (Zo (.mv 2 (.c (.bool false))) .nil)<| .seq (Zr (Zm 7 0<|Zn 8 7<|Zk 9 .gtr 8 4000 .nil)<| .cond (.t 9) (Zr (Zo (.mv 2 (.c (.bool true))) .nil) .ret) .skip)<| .seq (Zr (Zm 10 0<|Zn 11 10<|Zc 12 0 .nil)<| .block 0<| .loop<|Zr (Zb 13 .lss 12 11 .nil)<| .seq (.cond (.t 13) .skip (.exit 0))<| .seq (.block 1<|Zr (Zi 14 4 10 12<|Zh 15 4 14<|Zo (.alloc 4 4 54 (.agg [.bool false,.aa,.aa,.aa]))<|Zs 4 4 15 .nil)<|Zr (Zf 16 3 4<|Zl 17 1 16<|Zn 18 17<|Zc 19 0 .nil)<| .block 2<| .loop<|Zr (Zb 20 .lss 19 18 .nil)<| .seq (.cond (.t 20) .skip (.exit 2))<| .seq (.block 3<|Zr (Zi 21 1 17 19<|Zl 22 1 21<|Zm 6 22 .nil)<|Zr (Zm 23 6<|Zk 24 .gtr 23 1048576 .nil)<| .cond (.t 24) (Zr (Zo (.mv 2 (.c (.bool true))) .nil) .ret) .skip)<| .rg (Zk 25 .add 19 1<|Zm 19 25 .nil))<| .rg (Zk 26 .add 12 1<|Zm 12 26 .nil))<|Zr (Zo (.mv 2 (.c (.bool false))) .nil) .ret⟩
theorem ago:Qe Tryz.prog Tryz.f105=some Jm:=by kernel_rfl
def K5:aA:=⟨19,[.t 2],Zr (Zc 2 0 .nil)<|Zr (Zc 3 (-1) .nil)<| .seq (Zr (Zm 6 0<|Zn 7 6<|Zc 8 0 .nil)<| .block 0<| .loop<|Zr (Zb 9 .lss 8 7 .nil)<| .seq (.cond (.t 9) .skip (.exit 0))<| .seq (.block 1<|Zr (Zi 10 4 6 8<|Zh 11 4 10<|Zo (.alloc 5 4 54 (.agg [.bool false,.aa,.aa,.aa]))<|Zs 4 5 11 .nil)<| .rg (Zm 12 3<|Zf 13 3 5<|Zl 14 1 13<|Zq 15 false 45 [.t 14]<|Zo (.mx 16 (.t 12) (.t 15))<|Zm 3 16 .nil))<| .rg (Zk 17 .add 8 1<|Zm 8 17 .nil))<|Zr (Zm 18 3<|Zm 2 18 .nil) .ret⟩
theorem aj3:Qe Tryz.prog Tryz.f41=some K5:=by kernel_rfl
def Lx:aA:=⟨22,[.t 4],Zr (Zc 4 0 .nil)<|Zr (Zc 5 (-1) .nil)<| .seq (Zr (Zm 8 0<|Zn 9 8<|Zc 10 0 .nil)<| .block 0<| .loop<|Zr (Zb 11 .lss 10 9 .nil)<| .seq (.cond (.t 11) .skip (.exit 0))<| .seq (.block 1<|Zr (Zi 12 4 8 10<|Zh 13 4 12<|Zo (.alloc 7 4 54 (.agg [.bool false,.aa,.aa,.aa]))<|Zs 4 7 13 .nil)<| .rg (Zm 14 5<|Zf 15 3 7<|Zl 16 1 15<|Zm 17 1<|Zq 18 false 124 [.t 16,.t 17]<|Zo (.mx 19 (.t 14) (.t 18))<|Zm 5 19 .nil))<| .rg (Zk 20 .add 10 1<|Zm 10 20 .nil))<|Zr (Zm 21 5<|Zm 4 21 .nil) .ret⟩
theorem aj4:Qe Tryz.prog Tryz.f67=some Lx:=by kernel_rfl
def Kb:aA:=⟨35,[.t 4],Zr (Zo (.mv 4 (.c .aa)) .nil)<| .seq (Zr (Zm 7 0<|Zm 8 1<|Zq 9 false 124 [.t 7,.t 8]<|Zk 10 .eql 9 0 .nil)<| .cond (.t 10) (Zr (Zm 11 0<|Zm 4 11 .nil) .ret) .skip)<|Zr (Zm 12 0<|Zo (.app 13 1 8 3 (.c .aa) (.t 12))<|Zm 5 13 .nil)<|Zr (Zm 14 5<|Zm 15 1<|Zi 16 1 14 15<|Zo (.st 1 (.t 16) (.c (Zz 0))) .nil)<|Zr (Zm 17 5<|Zn 18 17<|Zm 6 18 .nil)<| .seq (.block 0<| .loop<| .seq (Zr (Zm 19 6<|Zk 20 .gtr 19 0<|Zm 21 20<|Zg 21 true (.mv 22 (.t 5))<|Zg 21 true (.mv 23 (.t 6))<|Zg 21 true (.bin 24 .sub false (.t 23) (.c (Zz 1)))<|Zg 21 true (.idx 25 1 (.t 22) (.t 24))<|Zg 21 true (.ld 26 1 false (.t 25))<|Zg 21 true (.bin 27 .eql false (.t 26) (.c (Zz 0)))<|Zo (.pick 28 (.t 21) (.t 27) (.c (.bool false))) .nil)<| .cond (.t 28) .skip (.exit 0))<| .block 1<| .rg (Zm 29 6<|Zk 30 .sub 29 1<|Zm 6 30 .nil))<|Zr (Zm 31 5<|Zm 32 6<|Zm 33 6<|Zo (.sl 34 1 (.t 31) none (some (.t 32)) (some (.t 33)))<|Zm 4 34 .nil) .ret⟩
theorem agp:Qe Tryz.prog Tryz.f154=some Kb:=by kernel_rfl
def Jn:aA:=⟨34,[.t 6],Zr (Zo (.mv 6 (.c .aa)) .nil)<|Zr (Zo (.mv 7 (.c .aa)) .nil)<| .seq (Zr (Zm 10 0<|Zn 11 10<|Zc 12 0 .nil)<| .block 0<| .loop<|Zr (Zb 13 .lss 12 11 .nil)<| .seq (.cond (.t 13) .skip (.exit 0))<| .seq (.block 1<|Zr (Zi 14 4 10 12<|Zh 15 4 14<|Zo (.alloc 9 4 54 (.agg [.bool false,.aa,.aa,.aa]))<|Zs 4 9 15 .nil)<|Zr (Zf 16 3 9<|Zl 17 1 16<|Zm 18 1<|Zq 19 false 124 [.t 17,.t 18]<|Zm 20 2<|Zb 21 .eql 19 20 .nil)<| .cond (.t 21) (.rg (Zm 22 7<|Zf 23 0 9<|Zh 24 3 23<|Zf 25 3 9<|Zl 26 1 25<|Zm 27 1<|Zq 28 true 154 [.t 26,.t 27]<|Zo (.bU 29 [.bool false,.aa,.aa,.aa] [(0,3,.t 24),(3,1,.t 28)])<|Zo (.bs 30 4 54 [.t 29])<|Zo (.app 31 4 80 54 (.t 22) (.t 30))<|Zm 7 31 .nil)) .skip)<| .rg (Zk 32 .add 12 1<|Zm 12 32 .nil))<|Zr (Zm 33 7<|Zm 6 33 .nil) .ret⟩
theorem agq:Qe Tryz.prog Tryz.f106=some Jn:=by kernel_rfl
def Jo:aA:=⟨32,[.t 6],Zr (Zo (.mv 6 (.c .aa)) .nil)<| .seq (Zr (Zm 8 1<|Zk 9 .lss 8 0<|Zm 10 9<|Zg 10 false (.mv 11 (.t 1))<|Zg 10 false (.bin 12 .geq false (.t 11) (.c (Zz 64)))<|Zo (.pick 13 (.t 10) (.c (.bool true)) (.t 12))<|Zm 14 13<|Zg 14 false (.mv 15 (.t 2))<|Zg 14 false (.bin 16 .leq false (.t 15) (.c (Zz 0)))<|Zo (.pick 17 (.t 14) (.c (.bool true)) (.t 16)) .nil)<| .cond (.t 17) (Zr (Zm 18 0<|Zm 6 18 .nil) .ret) .skip)<|Zr (Zm 19 1<|Zk 20 .add 19 1<|Zo (.mk 21 1 8 3 (Zz 0) (.t 20) (.t 20))<|Zm 7 21 .nil)<|Zr (Zm 22 7<|Zm 23 1<|Zm 24 2<|Zi 25 1 22 23<|Zs 1 25 24 .nil)<|Zr (Zm 26 0<|Zq 27 false 26 [.c (Zz 1)]<|Zm 28 7<|Zo (.bU 29 [.bool false,.aa,.aa,.aa] [(0,3,.t 27),(3,1,.t 28)])<|Zo (.bs 30 4 54 [.t 29])<|Zq 31 false 60 [.t 26,.t 30]<|Zm 6 31 .nil) .ret⟩
theorem agr:Qe Tryz.prog Tryz.f107=some Jo:=by kernel_rfl
def Lo:aA:=⟨15,[.t 2],Zr (Zo (.mv 2 (.c .aa)) .nil)<|Zr (Zm 4 0<|Zq 5 false 41 [.t 4]<|Zm 3 5 .nil)<| .seq (Zr (Zm 6 3<|Zk 7 .lss 6 0 .nil)<| .cond (.t 7) (Zr (Zm 8 0<|Zm 2 8 .nil) .ret) .skip)<|Zr (Zm 9 0<|Zm 10 3<|Zm 11 0<|Zm 12 3<|Zq 13 false 67 [.t 11,.t 12]<|Zq 14 false 106 [.t 9,.t 10,.t 13]<|Zm 2 14 .nil) .ret⟩
theorem aj5:Qe Tryz.prog Tryz.f59=some Lo:=by kernel_rfl
def Lm:aA:=⟨93,[.t 6,.t 7,.t 8,.t 9],Zr (Zo (.mv 6 (.c .aa))<|Zo (.mv 7 (.c .aa))<|Zc 8 0<|Zc 9 0 .nil)<| .seq (.block 0<|Zr (Zm 15 2<|Zk 16 .lss 15 0<|Zm 17 16<|Zg 17 false (.mv 18 (.t 2))<|Zg 17 false (.bin 19 .geq false (.t 18) (.c (Zz 64)))<|Zo (.pick 20 (.t 17) (.c (.bool true)) (.t 19))<|Zm 14 20 .nil)<| .cond (.t 14) (Zr (Zo (.mv 6 (.c .aa))<|Zo (.mv 7 (.c .aa))<|Zc 8 0<|Zc 9 2 .nil) .ret) (Zr (Zm 22 1<|Zn 23 22<|Zk 24 .eql 23 0<|Zm 21 24 .nil)<| .cond (.t 21) (Zr (Zo (.mv 6 (.c .aa))<|Zo (.mv 7 (.c .aa))<|Zc 8 0<|Zc 9 3 .nil) .ret) (Zr (Zm 26 0<|Zq 27 false 105 [.t 26]<|Zm 25 27 .nil)<| .cond (.t 25) (Zr (Zo (.mv 6 (.c .aa))<|Zo (.mv 7 (.c .aa))<|Zc 8 0<|Zc 9 4 .nil) .ret) .skip)))<|Zr (Zm 28 1<|Zm 29 2<|Zq 30 false 67 [.t 28,.t 29]<|Zm 10 30 .nil)<|Zr (Zm 31 1<|Zm 32 2<|Zm 33 10<|Zq 34 false 106 [.t 31,.t 32,.t 33]<|Zm 11 34 .nil)<|Zr (Zm 35 0<|Zm 7 35 .nil)<| .seq (.block 1<| .loop<| .seq (Zr (Zm 36 7<|Zn 37 36<|Zk 38 .gtr 37 0<|Zm 39 38<|Zg 39 true (.mv 40 (.t 7))<|Zg 39 true (.mv 41 (.t 2))<|Zg 39 true (.call (some 42) false (.c (.fn 67 [] [])) [.t 40,.t 41])<|Zg 39 true (.mv 43 (.t 10))<|Zg 39 true (.bin 44 .geq false (.t 42) (.t 43))<|Zo (.pick 45 (.t 39) (.t 44) (.c (.bool false))) .nil)<| .cond (.t 45) .skip (.exit 1))<| .block 2<|Zr (Zm 46 7<|Zm 47 2<|Zq 48 false 67 [.t 46,.t 47]<|Zm 12 48 .nil)<|Zr (Zm 49 7<|Zm 50 2<|Zm 51 12<|Zq 52 false 106 [.t 49,.t 50,.t 51]<|Zm 53 2<|Zm 54 12<|Zm 55 10<|Zb 56 .sub 54 55<|Zq 57 false 107 [.t 52,.t 53,.t 56]<|Zm 13 57 .nil)<|Zr (Zm 58 11<|Zm 59 6<|Zq 60 false 60 [.t 58,.t 59]<|Zm 61 13<|Zq 62 false 108 [.t 60,.t 61]<|Zm 6 62 .nil)<|Zr (Zm 63 11<|Zm 64 7<|Zq 65 false 60 [.t 63,.t 64]<|Zm 66 13<|Zm 67 1<|Zq 68 false 60 [.t 66,.t 67]<|Zq 69 false 109 [.t 65,.t 68]<|Zm 7 69 .nil)<|Zr (Zm 70 8<|Zk 71 .add 70 1<|Zm 8 71 .nil)<|Zr (Zm 72 6<|Zq 73 false 105 [.t 72]<|Zm 74 73<|Zg 74 false (.mv 75 (.t 7))<|Zg 74 false (.call (some 76) false (.c (.fn 105 [] [])) [.t 75])<|Zo (.pick 77 (.t 74) (.c (.bool true)) (.t 76))<|Zm 78 77<|Zg 78 false (.mv 79 (.t 7))<|Zg 78 false (.mv 80 (.t 2))<|Zg 78 false (.call (some 81) false (.c (.fn 67 [] [])) [.t 79,.t 80])<|Zg 78 false (.mv 82 (.t 12))<|Zg 78 false (.bin 83 .geq false (.t 81) (.t 82))<|Zg 78 false (.mv 84 (.t 83))<|Zg 84 true (.mv 85 (.t 7))<|Zg 84 true (.len 86 (.t 85))<|Zg 84 true (.bin 87 .gtr false (.t 86) (.c (Zz 0)))<|Zg 78 false (.pick 88 (.t 84) (.t 87) (.c (.bool false)))<|Zo (.pick 89 (.t 78) (.c (.bool true)) (.t 88)) .nil)<| .cond (.t 89) (Zr (Zo (.mv 6 (.c .aa))<|Zo (.mv 7 (.c .aa))<|Zc 8 0<|Zc 9 4 .nil) .ret) .skip)<|Zr (Zm 90 6<|Zm 91 7<|Zm 92 8<|Zm 6 90<|Zm 7 91<|Zm 8 92<|Zc 9 0 .nil) .ret⟩
theorem aj6:Qe Tryz.prog Tryz.f57=some Lm:=by kernel_rfl
def zr:aA:=⟨67,[.t 2,.cell 3 3 true],Zr (Zo (.mv 2 (.c .aa))<|Zo (.alloc 3 3 43 (.agg [.bool false,.aa,.aa])) .nil)<| .seq (Zr (Zm 14 0<|Zn 15 14<|Zk 16 .eql 15 0 .nil)<| .cond (.t 16) (Zr (Zq 17 false 26 [.c (Zz 1)]<|Zo (.mv 2 (.c .aa))<|Zs 3 3 17 .nil) .ret) .skip)<|Zr (Zo (.mv 4 (.c .aa)) .nil)<|Zr (Zq 18 false 88 [.c (.int .u64 1)]<|Zm 5 18 .nil)<| .seq (Zr (Zm 19 0<|Zn 20 19<|Zc 21 0 .nil)<| .block 0<| .loop<|Zr (Zb 22 .lss 21 20 .nil)<| .seq (.cond (.t 22) .skip (.exit 0))<| .seq (.block 1<|Zr (Zi 23 4 19 21<|Zh 24 4 23<|Zo (.alloc 7 4 54 (.agg [.bool false,.aa,.aa,.aa]))<|Zs 4 7 24 .nil)<|Zr (Zm 25 4<|Zf 26 0 7<|Zf 27 0 26<|Zf 28 1 27<|Zl 29 1 28<|Zq 30 false 44 [.t 25,.t 29]<|Zm 4 30 .nil)<|Zr (Zm 31 5<|Zf 32 0 7<|Zf 33 2 32<|Zl 34 1 33<|Zq 35 false 44 [.t 31,.t 34]<|Zm 8 35 .nil)<|Zr (Zf 37 0 7<|Zf 38 2 37<|Zl 39 1 38<|Zm 40 8<|Zq 41 false 89 [.t 39,.t 40]<|Zm 36 41<|Zo (.ext 42 (.t 36) 0)<|Zo (.ext 43 (.t 36) 1)<|Zo (.ext 44 (.t 36) 2)<|Zm 9 42<|Zm 10 43<|Zm 11 44 .nil)<| .rg (Zm 45 5<|Zm 46 9<|Zq 47 false 93 [.t 45,.t 46]<|Zm 5 47 .nil))<| .rg (Zk 48 .add 21 1<|Zm 21 48 .nil))<|Zr (Zm 50 0<|Zo (.idx 51 4 (.t 50) (.c (Zz 0)))<|Zf 52 0 51<|Zh 53 3 52<|Zq 54 false 17 [.t 53]<|Zk 55 .lss 54 0<|Zm 56 5<|Zo (.bU 57 [.bool false,.aa] [(0,1,.t 55),(1,1,.t 56)])<|Zm 58 4<|Zo (.bU 59 [.bool false,.aa] [(1,1,.t 58)])<|Zq 60 false 161 [.t 57,.t 59]<|Zm 49 60<|Zo (.ext 61 (.t 49) 0)<|Zo (.ext 62 (.t 49) 1)<|Zo (.alloc 12 3 43 (.agg [.bool false,.aa,.aa]))<|Zs 3 12 61<|Zm 13 62 .nil)<|Zr (Zm 63 0<|Zh 64 3 12<|Zh 66 3 12<|Zq 65 true 121 [.t 63,.t 64]<|Zm 2 65<|Zs 3 3 66 .nil) .ret⟩
theorem QV:Qe Tryz.prog Tryz.f120=some zr:=by kernel_rfl
def AR:aA:=⟨11,[.t 2],Zr (Zc 2 0 .nil)<| .seq (Zr (Zm 3 0<|Zn 4 3<|Zk 5 .eql 4 0 .nil)<| .cond (.t 5) (Zr (Zc 2 (-1) .nil) .ret) .skip)<|Zr (Zm 6 0<|Zo (.idx 7 4 (.t 6) (.c (Zz 0)))<|Zf 8 3 7<|Zl 9 1 8<|Zq 10 false 77 [.t 9]<|Zm 2 10 .nil) .ret⟩
theorem RO:Qe Tryz.prog Tryz.f35=some AR:=by kernel_rfl
def LG:aA:=⟨23,[.t 4],Zr (Zc 4 0 .nil)<|Zr (Zc 5 (-1) .nil)<| .seq (Zr (Zc 6 0 .nil)<| .block 0<| .loop<| .seq (Zr (Zm 7 6<|Zm 8 0<|Zn 9 8<|Zb 10 .lss 7 9 .nil)<| .cond (.t 10) .skip (.exit 0))<| .seq (.block 1<| .rg (Zm 13 5<|Zm 14 0<|Zm 15 6<|Zi 16 4 14 15<|Zf 17 3 16<|Zl 18 1 17<|Zm 19 1<|Zq 20 false 99 [.t 18,.t 19]<|Zo (.mx 21 (.t 13) (.t 20))<|Zm 5 21 .nil))<| .rg (Zm 11 6<|Zk 12 .add 11 1<|Zm 6 12 .nil))<|Zr (Zm 22 5<|Zm 4 22 .nil) .ret⟩
theorem aj7:Qe Tryz.prog Tryz.f76=some LG:=by kernel_rfl
def JQ:aA:=⟨42,[.t 6],Zr (Zo (.mv 6 (.c .aa)) .nil)<|Zr (Zo (.mv 7 (.c .aa)) .nil)<| .seq (Zr (Zc 8 0 .nil)<| .block 0<| .loop<| .seq (Zr (Zm 9 8<|Zm 10 0<|Zn 11 10<|Zb 12 .lss 9 11 .nil)<| .cond (.t 12) .skip (.exit 0))<| .seq (.block 1<|Zr (Zm 15 0<|Zm 16 8<|Zi 17 4 15 16<|Zf 18 3 17<|Zl 19 1 18<|Zm 20 1<|Zq 21 false 99 [.t 19,.t 20]<|Zm 22 2<|Zb 23 .eql 21 22 .nil)<| .cond (.t 23) (.rg (Zm 24 7<|Zm 25 0<|Zm 26 8<|Zi 27 4 25 26<|Zf 28 0 27<|Zh 29 3 28<|Zm 30 0<|Zm 31 8<|Zi 32 4 30 31<|Zf 33 3 32<|Zl 34 1 33<|Zm 35 1<|Zq 36 true 167 [.t 34,.t 35]<|Zo (.bU 37 [.bool false,.aa,.aa,.aa] [(0,3,.t 29),(3,1,.t 36)])<|Zo (.bs 38 4 54 [.t 37])<|Zo (.app 39 4 80 54 (.t 24) (.t 38))<|Zm 7 39 .nil)) .skip)<| .rg (Zm 13 8<|Zk 14 .add 13 1<|Zm 8 14 .nil))<|Zr (Zm 40 7<|Zq 41 false 168 [.t 40]<|Zm 6 41 .nil) .ret⟩
theorem ags:Qe Tryz.prog Tryz.f136=some JQ:=by kernel_rfl
def Kp:aA:=⟨28,[.t 4],Zr (Zo (.mv 4 (.c .aa)) .nil)<|Zr (Zo (.mv 5 (.c .aa)) .nil)<| .seq (Zr (Zc 6 0 .nil)<| .block 0<| .loop<| .seq (Zr (Zm 7 6<|Zm 8 0<|Zn 9 8<|Zb 10 .lss 7 9 .nil)<| .cond (.t 10) .skip (.exit 0))<| .seq (.block 1<|Zr (Zm 13 6<|Zm 14 1<|Zb 15 .eql 13 14 .nil)<| .cond (.t 15) (.rg (Zm 16 5<|Zo (.bs 17 1 3 [.c (Zz 0)])<|Zo (.app 18 1 8 3 (.t 16) (.t 17))<|Zm 5 18 .nil)) (.rg (Zm 19 5<|Zm 20 0<|Zm 21 6<|Zi 22 1 20 21<|Zl 23 1 22<|Zo (.bs 24 1 3 [.t 23])<|Zo (.app 25 1 8 3 (.t 19) (.t 24))<|Zm 5 25 .nil)))<| .rg (Zm 11 6<|Zk 12 .add 11 1<|Zm 6 12 .nil))<|Zr (Zm 26 5<|Zq 27 false 181 [.t 26]<|Zm 4 27 .nil) .ret⟩
theorem agt:Qe Tryz.prog Tryz.f167=some Kp:=by kernel_rfl
def JR:aA:=⟨26,[.t 4],Zr (Zo (.mv 4 (.c .aa)) .nil)<| .seq (Zr (Zm 6 1<|Zk 7 .eql 6 0<|Zm 8 7<|Zg 8 false (.mv 9 (.t 0))<|Zg 8 false (.bin 10 .lss false (.t 9) (.c (Zz 0)))<|Zo (.pick 11 (.t 8) (.c (.bool true)) (.t 10)) .nil)<| .cond (.t 11) (Zr (Zq 12 false 32 [.c (Zz 1)]<|Zq 13 false 25 [.t 12]<|Zm 4 13 .nil) .ret) .skip)<|Zr (Zm 14 0<|Zk 15 .add 14 1<|Zo (.mk 16 1 8 3 (Zz 0) (.t 15) (.t 15))<|Zm 5 16 .nil)<|Zr (Zm 17 5<|Zm 18 0<|Zm 19 1<|Zi 20 1 17 18<|Zs 1 20 19 .nil)<|Zr (Zq 21 false 32 [.c (Zz 1)]<|Zm 22 5<|Zo (.bU 23 [.bool false,.aa,.aa,.aa] [(0,3,.t 21),(3,1,.t 22)])<|Zo (.bs 24 4 54 [.t 23])<|Zq 25 false 168 [.t 24]<|Zm 4 25 .nil) .ret⟩
theorem agu:Qe Tryz.prog Tryz.f137=some JR:=by kernel_rfl
def LK:aA:=⟨15,[.t 2],Zr (Zo (.mv 2 (.c .aa)) .nil)<|Zr (Zm 4 0<|Zq 5 false 35 [.t 4]<|Zm 3 5 .nil)<| .seq (Zr (Zm 6 3<|Zk 7 .lss 6 0 .nil)<| .cond (.t 7) (Zr (Zm 8 0<|Zm 2 8 .nil) .ret) .skip)<|Zr (Zm 9 0<|Zm 10 3<|Zm 11 0<|Zm 12 3<|Zq 13 false 76 [.t 11,.t 12]<|Zq 14 false 136 [.t 9,.t 10,.t 13]<|Zm 2 14 .nil) .ret⟩
theorem aj8:Qe Tryz.prog Tryz.f80=some LK:=by kernel_rfl
def LI:aA:=⟨82,[.t 6,.t 7,.t 8,.t 9],Zr (Zo (.mv 6 (.c .aa))<|Zo (.mv 7 (.c .aa))<|Zc 8 0<|Zc 9 0 .nil)<| .seq (Zr (Zm 17 2<|Zk 18 .lss 17 0<|Zm 19 18<|Zg 19 false (.mv 20 (.t 2))<|Zg 19 false (.bin 21 .geq false (.t 20) (.c (Zz 64)))<|Zo (.pick 22 (.t 19) (.c (.bool true)) (.t 21)) .nil)<| .cond (.t 22) (Zr (Zo (.mv 6 (.c .aa))<|Zo (.mv 7 (.c .aa))<|Zc 8 0<|Zc 9 2 .nil) .ret) .skip)<| .seq (Zr (Zm 23 1<|Zn 24 23<|Zk 25 .eql 24 0 .nil)<| .cond (.t 25) (Zr (Zo (.mv 6 (.c .aa))<|Zo (.mv 7 (.c .aa))<|Zc 8 0<|Zc 9 3 .nil) .ret) .skip)<| .seq (Zr (Zm 26 0<|Zq 27 false 135 [.t 26] .nil)<| .cond (.t 27) (Zr (Zo (.mv 6 (.c .aa))<|Zo (.mv 7 (.c .aa))<|Zc 8 0<|Zc 9 4 .nil) .ret) .skip)<|Zr (Zm 28 1<|Zm 29 2<|Zq 30 false 76 [.t 28,.t 29]<|Zm 10 30 .nil)<|Zr (Zm 31 1<|Zm 32 2<|Zm 33 10<|Zq 34 false 136 [.t 31,.t 32,.t 33]<|Zm 11 34 .nil)<|Zr (Zo (.mv 12 (.c .aa)) .nil)<|Zr (Zm 35 0<|Zm 13 35 .nil)<|Zr (Zc 14 0 .nil)<| .seq (.block 0<| .loop<| .seq (Zr (Zm 36 13<|Zn 37 36<|Zk 38 .gtr 37 0<|Zm 39 38<|Zg 39 true (.mv 40 (.t 13))<|Zg 39 true (.mv 41 (.t 2))<|Zg 39 true (.call (some 42) false (.c (.fn 76 [] [])) [.t 40,.t 41])<|Zg 39 true (.mv 43 (.t 10))<|Zg 39 true (.bin 44 .geq false (.t 42) (.t 43))<|Zo (.pick 45 (.t 39) (.t 44) (.c (.bool false))) .nil)<| .cond (.t 45) .skip (.exit 0))<| .block 1<|Zr (Zm 46 13<|Zm 47 2<|Zq 48 false 76 [.t 46,.t 47]<|Zm 15 48 .nil)<|Zr (Zm 49 13<|Zm 50 2<|Zm 51 15<|Zq 52 false 136 [.t 49,.t 50,.t 51]<|Zm 53 2<|Zm 54 15<|Zm 55 10<|Zb 56 .sub 54 55<|Zq 57 false 137 [.t 53,.t 56]<|Zq 58 false 24 [.t 52,.t 57]<|Zm 16 58 .nil)<|Zr (Zm 59 11<|Zm 60 12<|Zq 61 false 24 [.t 59,.t 60]<|Zm 62 16<|Zq 63 false 22 [.t 61,.t 62]<|Zm 12 63 .nil)<|Zr (Zm 64 11<|Zm 65 13<|Zq 66 false 24 [.t 64,.t 65]<|Zm 67 16<|Zm 68 1<|Zq 69 false 24 [.t 67,.t 68]<|Zq 70 false 21 [.t 66,.t 69]<|Zm 13 70 .nil)<|Zr (Zm 71 14<|Zk 72 .add 71 1<|Zm 14 72 .nil)<|Zr (Zm 73 12<|Zq 74 false 135 [.t 73]<|Zm 75 74<|Zg 75 false (.mv 76 (.t 13))<|Zg 75 false (.call (some 77) false (.c (.fn 135 [] [])) [.t 76])<|Zo (.pick 78 (.t 75) (.c (.bool true)) (.t 77)) .nil)<| .cond (.t 78) (Zr (Zo (.mv 6 (.c .aa))<|Zo (.mv 7 (.c .aa))<|Zc 8 0<|Zc 9 4 .nil) .ret) .skip)<|Zr (Zm 79 12<|Zm 80 13<|Zm 81 14<|Zm 6 79<|Zm 7 80<|Zm 8 81<|Zc 9 0 .nil) .ret⟩
theorem aj9:Qe Tryz.prog Tryz.f78=some LI:=by kernel_rfl
def AU:aA:=⟨94,[.t 2,.cell 3 3 true],Zr (Zo (.mv 2 (.c .aa))<|Zo (.alloc 3 3 43 (.agg [.bool false,.aa,.aa])) .nil)<| .seq (Zr (Zm 15 0<|Zn 16 15<|Zk 17 .eql 16 0 .nil)<| .cond (.t 17) (Zr (Zq 18 false 32 [.c (Zz 1)]<|Zo (.mv 2 (.c .aa))<|Zs 3 3 18 .nil) .ret) .skip)<|Zr (Zq 19 false 74 [.c (.int .u64 1)]<|Zq 20 false 74 [.c (.int .u64 0)]<|Zm 4 19<|Zm 5 20 .nil)<| .seq (Zr (Zc 6 0 .nil)<| .block 0<| .loop<| .seq (Zr (Zm 21 6<|Zm 22 0<|Zn 23 22<|Zb 24 .lss 21 23 .nil)<| .cond (.t 24) .skip (.exit 0))<| .seq (.block 1<|Zr (Zm 27 4<|Zm 28 0<|Zm 29 6<|Zi 30 4 28 29<|Zf 31 0 30<|Zf 32 2 31<|Zl 33 1 32<|Zq 34 false 128 [.t 27,.t 33]<|Zm 7 34 .nil)<|Zr (Zm 36 0<|Zm 37 6<|Zi 38 4 36 37<|Zf 39 0 38<|Zf 40 2 39<|Zl 41 1 40<|Zm 42 7<|Zq 43 false 129 [.t 41,.t 42]<|Zm 35 43<|Zo (.ext 44 (.t 35) 0)<|Zo (.ext 45 (.t 35) 1)<|Zo (.ext 46 (.t 35) 2)<|Zm 8 44<|Zm 9 45<|Zm 10 46 .nil)<| .rg (Zm 47 4<|Zm 48 8<|Zq 49 false 103 [.t 47,.t 48]<|Zm 4 49 .nil))<| .rg (Zm 25 6<|Zk 26 .add 25 1<|Zm 6 26 .nil))<| .seq (Zr (Zc 11 0 .nil)<| .block 2<| .loop<| .seq (Zr (Zm 50 11<|Zm 51 0<|Zn 52 51<|Zb 53 .lss 50 52 .nil)<| .cond (.t 53) .skip (.exit 2))<| .seq (.block 3<|Zr (Zm 56 0<|Zm 57 11<|Zi 58 4 56 57<|Zf 59 0 58<|Zh 60 3 59<|Zm 61 4<|Zo (.bU 62 [.bool false,.aa] [(1,1,.t 61)])<| .br (Zq 63 true 74 [.c (.int .u64 1)]<|Zo (.bU 64 [.bool false,.aa,.aa] [(0,2,.t 62),(2,1,.t 63)])<| .br (Zq 65 true 116 [.t 60,.t 64]<|Zo (.alloc 12 3 43 (.agg [.bool false,.aa,.aa]))<|Zs 3 12 65 .nil) (Zo (.alloc 12 3 43 (.agg [.bool false,.aa,.aa]))<|Zq 65 true 116 [.t 60,.t 64]<|Zs 3 12 65 .nil)) (Zo (.alloc 12 3 43 (.agg [.bool false,.aa,.aa]))<|Zq 63 true 74 [.c (.int .u64 1)]<|Zo (.bU 64 [.bool false,.aa,.aa] [(0,2,.t 62),(2,1,.t 63)])<|Zq 65 true 116 [.t 60,.t 64]<|Zs 3 12 65 .nil))<| .rg (Zm 66 5<|Zf 67 0 12<|Zf 68 1 67<|Zl 69 1 68<|Zq 70 false 128 [.t 66,.t 69]<|Zm 5 70 .nil))<| .rg (Zm 54 11<|Zk 55 .add 54 1<|Zm 11 55 .nil))<|Zr (Zm 72 0<|Zo (.idx 73 4 (.t 72) (.c (Zz 0)))<|Zf 74 0 73<|Zf 75 0 74<|Zf 76 0 75<|Zl 77 1 76<|Zm 78 4<|Zo (.bU 79 [.bool false,.aa] [(0,1,.t 77),(1,1,.t 78)])<|Zm 80 5<|Zo (.bU 81 [.bool false,.aa] [(1,1,.t 80)])<|Zq 82 false 130 [.t 79,.t 81]<|Zm 71 82<|Zo (.ext 83 (.t 71) 0)<|Zo (.ext 84 (.t 71) 1)<|Zo (.alloc 13 3 43 (.agg [.bool false,.aa,.aa]))<|Zs 3 13 83<|Zm 14 84 .nil)<| .seq (Zr (Zf 85 0 13<|Zh 86 2 85<|Zq 87 false 104 [.t 86]<|Zk 88 .eql 87 0 .nil)<| .cond (.t 88) (Zr (Zq 89 false 32 [.c (Zz 1)]<|Zo (.mv 2 (.c .aa))<|Zs 3 3 89 .nil) .ret) .skip)<|Zr (Zm 90 0<|Zh 91 3 13<|Zh 93 3 13<|Zq 92 true 71 [.t 90,.t 91]<|Zm 2 92<|Zs 3 3 93 .nil) .ret⟩
theorem RP:Qe Tryz.prog Tryz.f70=some AU:=by kernel_rfl
def LH:aA:=⟨6,[.t 2],Zr (Zc 2 0 .nil)<|Zr (Zm 3 0<|Zn 4 3<|Zk 5 .sub 4 1<|Zm 2 5 .nil) .ret⟩
theorem aka:Qe Tryz.prog Tryz.f77=some LH:=by kernel_rfl
def KJ:aA:=⟨19,[.t 2],Zr (Zo (.mv 2 (.c .aa)) .nil)<| .seq (Zr (Zm 4 0<|Zk 5 .lss 4 0<|Zm 6 5<|Zg 6 false (.mv 7 (.t 0))<|Zg 6 false (.bin 8 .geq false (.t 7) (.c (Zz 64)))<|Zo (.pick 9 (.t 6) (.c (.bool true)) (.t 8)) .nil)<| .cond (.t 9) (Zr (Zo (.mv 2 (.c .aa)) .nil) .ret) .skip)<|Zr (Zm 10 0<|Zk 11 .add 10 1<|Zo (.mk 12 1 8 3 (Zz 0) (.t 11) (.t 11))<|Zm 3 12 .nil)<|Zr (Zm 13 3<|Zm 14 0<|Zi 15 1 13 14<|Zo (.st 1 (.t 15) (.c (Zz 1))) .nil)<|Zr (Zq 16 false 32 [.c (Zz 1)]<|Zm 17 3<|Zq 18 false 52 [.c .aa,.t 16,.t 17]<|Zm 2 18 .nil) .ret⟩
theorem akb:Qe Tryz.prog Tryz.f20=some KJ:=by kernel_rfl
end Go.Proofs.YtdjoomkeehihmaaGreat
namespace Go.FW
open Go
def xM(a m:List Int):Bool:=(List.range a.length).all fun i=>decide (eN a i=eN m i)
theorem C0{a m:List Int}:xM a m=true↔∀i,i<a.length->eN a i=eN m i:=by simp[xM,Kav]
theorem YT(a:List Int):xM a (if fK (gZ a)then gZ a else [])=fK (gZ a):=by
 cases h:fK (gZ a)
 ·rw[if_neg (by simp)];cases hz:xM a []with
  |false=>rfl
  | true=>
   rw[C0]at hz;have e:gZ a=[]:=pF (C8 a) (by simp) fun i=>by
    rw[Ai,Gn];by_cases hi:i<a.length
    ·rw[hz i hi,Gn]
    ·exact fA (by omega)
   rw[e]at h;exact absurd h (by decide)
 ·rw[if_pos rfl,C0];intro i _;rw[Ai]
theorem TW:∀(ts:List Tm),(∀t∈ts,t.2.getLast? ≠some 0)->∀out,az out->az (ts.foldl (fun out t=>jq out t.1 t.2) out)/\∀φ,aR φ (ts.foldl (fun out t=>jq out t.1 t.2) out)=aR φ out+aR φ ts
 | [],_,out,ho=>⟨ho,fun φ=>by rw[List.foldl_nil,gX];grind⟩
 |t::ts,h,out,ho=>by have hl:=h t (by simp);obtain⟨h1,h2⟩:=TW ts (fun x hx=>h x (by simp[hx])) (jq out t.1 t.2) (acD ho hl);refine⟨h1,fun φ=>?_⟩;rw[KcK,h2,acE ho.c hl,dF];grind
theorem aeq(q:Rat):mS (decide (q.num<0)) (ah q.num.natAbs) (ah q.den)=true:=by
 simp only[mS,nX,Kat,decide_eq_true_eq];refine⟨?_,⟨?_,Af _⟩,?_⟩
 ·split
  ·rename_i h;rw[kE]at h;have:¬q.num<0:=by omega
   simp[this]
  ·exact decide_eq_true (Af _)
 ·rw[ne_eq,kE];exact q.den_nz
 ·rw[Q7,Q7];exact q.reduced
def jC(t:Tm):aU:=⟨decide (t.1.num<0),ah t.1.num.natAbs,ah t.1.den,t.2⟩
theorem akc(t:Tm):(jC t).tm=t:=by show(rv _ _ _,t.2)=t;rw[jC,gY]
theorem Pr(p:List Tm):PV.kD (p.map jC)=PV.aj p:=by show PV.sl 4 ((p.map jC).map PV.qx)=PV.sl 4 (p.map PV.term);rw[KcY];rfl
theorem QW{t:Tm}(h:TV t):fP (jC t)=true:=by
 have e:(jC t).q=t.1:=by show rv _ _ _=_;rw[jC,gY]
 simp only[fP,Kat,decide_eq_true_eq];exact⟨aeq t.1,by rw[e];exact h.c,h.m⟩
theorem Ih:∀ {p:List Tm},rG p->eE (p.map jC)=true
 | [],_=>rfl
 | [t],h=>by show fP (jC t)=true;exact QW (h.t t (by simp))
 |s::t::p,h=>by have h1:=QW (h.t s (by simp));have h2:0<aS (jC s).m (jC t).m:=h.s.1 t (by simp);have h3:=Ih (p:=t::p) ⟨fun x hx=>h.t x (by simp[hx]),h.s.2⟩;show eE (jC s::jC t::p.map jC)=true;rw[eE,h1,decide_eq_true h2];exact h3
theorem RR{t:Tm}{k:Nat}(h:rs t.1<=k)(hm:t.2.length<2^40):RB k (jC t):=by
 have h1:nl t.1.num.natAbs<=k:=by unfold rs at h;omega
 have h2:nl t.1.den<=k:=by unfold rs at h;omega
 exact⟨⟨Qp _,Qp _,h1,h2⟩,hm⟩
def cZ(a:Rat):Nat->Rat
 |0=>1
 |n+1=>cZ a n*a
theorem HZ(a:Rat):cZ a 0=1:=rfl
theorem aer(a:Rat):cZ a 1=a:=by show 1*a=a;grind
theorem Ps(a:Rat)(m:Nat):∀n,cZ a (m+n)=cZ a m*cZ a n
 |0=>by rw[KaS,HZ];grind
 |n+1=>by
  rw[<-Nat.add_assoc];show cZ a (m+n)*a=cZ a m*(cZ a n*a)
  rw[Ps a m n];grind
theorem IZ(a:Rat):∀k,cZ (a*a) k=cZ a (2*k)
 |0=>rfl
 |k+1=>by show cZ (a*a) k*(a*a)=_;rw[IZ a k,show 2*(k+1)=2*k+1+1 by omega];show _=cZ a (2*k)*a*a;grind
theorem Qyu{a:Rat}{n:Nat}(h:n%2=0):cZ (a*a) (n/2)=cZ a n:=by rw[IZ];congr 1;omega
theorem Yr{a:Rat}{n:Nat}(h:n%2=1):cZ (a*a) (n/2)*a=cZ a n:=by rw[IZ,show n=2*(n/2)+1 by omega,show 2*((2*(n/2)+1)/2)=2*(n/2)by omega];rfl
theorem I0(a:Rat):∀n,rs (cZ a n)<=1+rs a*n
 |0=>by have:=l4;show rs 1<=_;omega
 |n+1=>by have:=I0 a n;have:=xT (cZ a n) a;rw[Ka1];show rs (cZ a n*a)<=_;omega
def ic(vs:List Rat)(m:List Int):Nat->Rat
 |0=>1
 |n+1=>ic vs m n*cZ (vs.getD n 0) (eN m n).toNat
def iz(vs:List Rat)(m:List Int):Rat:=ic vs m m.length
theorem ag5(vs:List Rat)(m:List Int)(k:Nat):ic vs m (m.length+k)=iz vs m:=by
 induction k with
 |zero=>rfl
 |succ k ih=>rw[<-Nat.add_assoc];show ic vs m (m.length+k)*cZ _ (eN m (m.length+k)).toNat=_;rw[ih,fA (by omega)];show iz vs m*1=_;grind
theorem I1{vs:List Rat}{m:List Int}{n:Nat}(h:m.length<=n):ic vs m n=iz vs m:=by
 obtain⟨k,rfl⟩:∃k,n=m.length+k:=⟨n-m.length,by omega⟩
 exact ag5 vs m k
theorem ag6{vs:List Rat}{a b:List Int}{k l:Nat}(ha:MB k a)(hb:MB l b):iz vs (bm a b)=iz vs a*iz vs b:=by
 have hlen:(bm a b).length<=max a.length b.length:=by have:=rH (j9 (· + ·) a b);rw[oH]at this;exact this
 rw[<-I1 (n:=max a.length b.length) hlen,<-I1 (m:=a) (n:=max a.length b.length) (by omega),<-I1 (m:=b) (n:=max a.length b.length) (by omega)];generalize max a.length b.length=N;induction N with
 |zero=>show(1:Rat)=1*1;grind
 |succ N ih=>
  have h1:=(ha.eN N).1;have h2:=(hb.eN N).1;show ic vs (bm a b) N*cZ _ (eN (bm a b) N).toNat=(ic vs a N*cZ _ (eN a N).toNat)*(ic vs b N*cZ _ (eN b N).toNat)
  rw[ih,jl,show(eN a N+eN b N).toNat=(eN a N).toNat+(eN b N).toNat by omega,Ps];grind
def dG(vs:List Rat)(p:List Tm):Rat:=aR (iz vs) p
def vS(vs:List Rat)(p:List Tm):Bool:=p.any fun t=>decide (vs.length<t.2.length)
abbrev PV.NQ(vs:List Rat):PV:=.sl 3 (vs.map PV.rat)
def EK(vs:List Rat)(p:List Tm):PV:=if vS vs p=true then .au [PV.rr false [] [],.int .i64 2]else .au [PV.rat (dG vs p),.int .i64 0]
theorem TX{vs:List Rat}{p:List Tm}{i:Nat}(h:i<p.length):dG vs (p.take (i+1))=dG vs (p.take i)+p[i].1*iz vs p[i].2:=by rw[Kah h,dG,TT,dF,gX,dG];grind
theorem I2{vs:List Rat}{m:List Int}{E W:Nat}(hm:MB E m)(hv:∀v∈vs,rs v<=W)(hW:1<=W)(c:Rat):∀n,rs (c*ic vs m n)<=rs c+n*(1+W*E)
 |0=>by
  have:c*ic vs m 0=c:=by show c*1=c;grind
  rw[this];omega
 | n+1=>by
  have h1:=I2 hm hv hW c n;have h2:=I0 (vs.getD n 0) (eN m n).toNat;have h3:rs (vs.getD n 0)<=W:=by
   by_cases h:n<vs.length
   ·rw[Kal,Kam h];exact hv _ (Kag h)
   ·rw[Kal,List.getElem?_eq_none (by omega)];have:=NU;show rs 0<=W;omega
  have h4:(eN m n).toNat<=E:=by have:=(hm.eN n).2;omega
  have h5:rs (vs.getD n 0)*(eN m n).toNat<=W*E:=KaK h3 h4;have h6:=xT (c*ic vs m n) (cZ (vs.getD n 0) (eN m n).toNat);have e:c*ic vs m (n+1)=(c*ic vs m n)*cZ (vs.getD n 0) (eN m n).toNat:=by show c*(ic vs m n*_)=_;grind
  rw[e,KaF];omega
theorem Ii{vs:List Rat}{p:List Tm}{K E W:Nat}(hp:PB K E p)(hv:∀v∈vs,rs v<=W)(hW:1<=W):∀i,i<=p.length->rs (dG vs (p.take i))<=1+i*(K+64*(1+W*E))
 |0,_=>by have:=NU;show rs 0<=_;omega
 |i+1,h=>by have h1:=Ii hp hv hW i (by omega);have ht:=hp.get (i:=i) (by omega);have h2:=I2 (vs:=vs) ht.m hv hW p[i].1 p[i].2.length;have h3:=xS (dG vs (p.take i)) (p[i].1*iz vs p[i].2);have h4:p[i].2.length*(1+W*E)<=64*(1+W*E):=Kaf _ ht.m.len;have h5:=ht.c;rw[TX (by omega),KaF];have h6:rs (p[i].1*iz vs p[i].2)<=rs p[i].1+p[i].2.length*(1+W*E):=h2;omega
theorem Q81{B B':List Nat}{F:Fr}(h:(B'.all B.contains)=true):bG B' (bG B F)=bG B F:=by
 funext s;rw[HJ B'];split
 ·rename_i h1;rw[HJ B]at h1⊢;split
  ·rfl
  ·rename_i h2;rw[if_neg h2]at h1;exfalso;apply h2;rw[Ka2]at h1⊢;obtain⟨x,hx,hb⟩:=h1;rw[Kav]at h;exact⟨x,hx,h x (List.contains_iff_mem.1 hb)⟩
 ·rfl
theorem Q82{W:List (Nat×Nat)}{B:List Nat}{J F:Fr}:bG B (aQ W J F)=aQ W (bG B J) (bG B F):=by funext s;unfold bG aQ;split<;>rfl
theorem G4{V W:List (Nat×Nat)}{B B':List Nat}{X Z F:Fr}(h:vN V W=true)(hB:(B'.all B.contains)=true):aQ V X (bG B' (aQ W Z (bG B F)))=aQ W (aQ V X (bG B' Z)) (bG B F):=by rw[Q82,Q81 hB,mM h]
section
variable {C : Ctx} {fr : Fr} {hp : HP} {w : World} {K R : Qh}
end
def eO(m:List Int)(v:Nat):List Int:=gZ (m.set v 0)
theorem ajD(m:List Int)(v i:Nat):eN (m.set v 0) i=if i=v then 0 else eN m i:=by
 by_cases hi:i<m.length
 ·rw[fj (by simpa using hi),Kdg];by_cases h:i=v
  ·rw[if_pos h,if_pos h.symm]
  ·rw[if_neg h,if_neg (fun h'=>h h'.symm),fj hi]
 ·rw[fA (by simpa using hi),fA (by omega)];split<;>rfl
theorem vt(m:List Int)(v i:Nat):eN (eO m v) i=if i=v then 0 else eN m i:=by rw[eO,Ai,ajD]
theorem De(m:List Int)(v:Nat):(eO m v).getLast? ≠some 0:=C8 _
theorem Pt{E:Nat}{m:List Int}(h:MB E m)(v:Nat):MB E (eO m v):=by
 have hl:(eO m v).length<=64:=by
  have:=rH (m.set v 0);have:=h.len;rw[Kb8]at *
  unfold eO;omega
 refine⟨hl,fun x hx=>?_,fun x hx=>?_⟩
 all_goals
  obtain⟨i,hi,rfl⟩:=Ka8 hx;rw[<-fj hi,vt];have:=h.eN i;split<;>omega
theorem aes{E:Nat}{m:List Int}(h:MB E m)(hE:E<=1048576)(v:Nat):fK (eO m v)=true:=HX (Pt h v) hE (De m v)
theorem acF{a b:List Int}{v:Nat}(h:eN a v=eN b v):aS (eO a v) (eO b v)=aS a b:=by
 have key:∀n,dw (eO a v) (eO b v) n=dw a b n:=by
  intro n;induction n with
  |zero=>rfl
  |succ n ih=>
   rw[dw,dw,ih,vt,vt];by_cases hn:n=v
   ·subst hn;rw[if_pos rfl,if_pos rfl,if_pos rfl,if_pos h]
   ·rw[if_neg hn,if_neg hn]
 have e1:(eO a v).length<=a.length:=by have:=rH (a.set v 0);rwa[Kb8]at this
 have e2:(eO b v).length<=b.length:=by have:=rH (b.set v 0);rwa[Kb8]at this
 rw[<-tB (m:=max a.length b.length) (by omega),key,tB (by omega)]
def aZ(p:List Tm)(v:Nat)(n:Int):List Tm:=p.filterMap fun t=>if eN t.2 v=n then some (t.1,eO t.2 v)else none
theorem TY{p:List Tm}{v i:Nat}{n:Int}(h:i<p.length):aZ (p.take (i+1)) v n=aZ (p.take i) v n++(if eN p[i].2 v=n then [(p[i].1,eO p[i].2 v)]else []):=by rw[Kah h,aZ,KcO];congr 1;rw[Kbl];by_cases h:eN p[i].2 v=n<;>simp[h]
theorem qA(p:List Tm)(v:Nat)(n:Int):(aZ p v n).length<=p.length:=Kcb _ _
theorem tw{p:List Tm}{v:Nat}{n:Int}{t:Tm}(h:t∈aZ p v n):∃s∈p,eN s.2 v=n/\t=(s.1,eO s.2 v):=by
 simp only[aZ,KbR]at h;obtain⟨s,h1,h2⟩:=h;split at h2
 ·rename_i h3;cases h2;exact⟨s,h1,h3,rfl⟩
 ·cases h2
theorem qJ{K E:Nat}{p:List Tm}(hp:PB K E p)(v:Nat)(n:Int):PB K E (aZ p v n):=fun t ht=>by obtain⟨s,h1,_,rfl⟩:=tw ht;have:=hp s h1;exact⟨this.c,Pt this.m v,De _ _⟩
theorem SN(v:Nat)(n:Int):∀ {p:List Tm},fi p->fi (aZ p v n)
 | [],_=>trivial
 | s::p,h=>by
  have ih:=SN v n h.2;by_cases hs:eN s.2 v=n
  ·have e:aZ (s::p) v n=(s.1,eO s.2 v)::aZ p v n:=by rw[aZ,Kbl,if_pos hs];rfl
   rw[e];refine⟨fun t ht=>?_,ih⟩;obtain⟨u,h1,h2,rfl⟩:=tw ht;show 0<aS (eO s.2 v) (eO u.2 v);rw[acF (by rw[hs,h2])];exact h.1 u h1
  ·have e:aZ (s::p) v n=aZ p v n:=by rw[aZ,Kbl,if_neg hs];rfl
   rw[e];exact ih
theorem jU{p:List Tm}(hp:az p)(v:Nat)(n:Int):az (aZ p v n):=⟨fun t ht=>by
 obtain⟨s,_,_,rfl⟩:=tw ht;exact De _ _,fun t ht=>by
 obtain⟨s,h1,_,rfl⟩:=tw ht;exact hp.z s h1,SN v n hp.s⟩
end Go.FW
namespace Go.FW
open Go
def yS(p:List Tm)(v:Nat)(q:List Tm)(top:Nat):Nat->List Tm
 |0=>aZ p v top
 |k+1=>Q8 (Q4 (yS p v q top k) q) (aZ p v ((top:Int)-(k+1)))
def xU(x l:List Tm):List Tm:=l.foldl (fun out t=>jq out t.1 t.2) x
theorem acG{x l:List Tm}(hx:az x)(hl:az l):xU x l=Q8 x l:=by obtain⟨h1,h2⟩:=TW l hl.c x hx;refine r6 h1 (nQ hx hl) fun φ=>?_;rw[xU,h2,pI hx.c hl.c]
theorem Zt(x l:List Tm)(t:Tm):xU x (l++[t])=jq (xU x l) t.1 t.2:=by rw[xU,KbW];rfl
theorem Pu(v:Nat):∀(p:List Tm)(d:Int),d<=p.foldl (fun d t=>max d (eN t.2 v)) d/\(∀t∈p,eN t.2 v<=p.foldl (fun d t=>max d (eN t.2 v)) d)/\(p.foldl (fun d t=>max d (eN t.2 v)) d=d∨∃t∈p,p.foldl (fun d t=>max d (eN t.2 v)) d=eN t.2 v)
 | [],d=>⟨KcJ _,by simp,.inl rfl⟩
 | s::p,d=>by
  obtain⟨h1,h2,h3⟩:=Pu v p (max d (eN s.2 v));rw[KcK];refine⟨by omega,fun t ht=>?_,?_⟩
  ·rcases KaP.1 ht with rfl|ht
   ·omega
   ·exact h2 t ht
  ·rcases h3 with h3|⟨t,ht,h3⟩
   ·rw[h3];by_cases h:d<=eN s.2 v
    ·right;exact⟨s,by simp,by omega⟩
    ·left;omega
   ·right;exact⟨t,by simp[ht],h3⟩
theorem Q83{vs:List Rat}{p q:List Tm}{K L E F:Nat}(hp:PB K E p)(hq:PB L F q):dG vs (Q4 p q)=dG vs p*dG vs q:=by
 rw[dG,gU];have e:aR (fun m=>aR (fun n=>iz vs (bm m n)) q) p=aR (fun m=>dG vs q*iz vs m) p:=jT fun s hs=>by have e2:aR (fun n=>iz vs (bm s.2 n)) q=aR (fun n=>iz vs s.2*iz vs n) q:=jT fun t ht=>ag6 (hp s hs).m (hq t ht).m;rw[e2,DW,dG];grind
 rw[e,DW,dG,dG];grind
def gh(vs:List Rat)(v:Nat)(b:Rat)(n:Int):List Tm->Rat
 | []=>0
 |t::p=>(if n<=eN t.2 v then t.1*iz vs (eO t.2 v)*cZ b (eN t.2 v-n).toNat else 0)+gh vs v b n p
def ML(n:Nat)(p:List Tm):Prop:=∀t∈p,t.2.length<=n
theorem ML.s6{n:Nat}{p q:List Tm}(hp:ML n p)(hq:ML n q):ML n (Q8 p q):=fun t ht=>by
 rcases tD ht with⟨s,h1,h2⟩|⟨s,h1,h2⟩
 ·rw[<-h2];exact hp s h1
 ·rw[<-h2];exact hq s h1
theorem Pv(a b:List Int):(bm a b).length<=max a.length b.length:=by
 have:=rH (j9 (· + ·) a b)
 rwa[oH]at this
theorem zD{p:List Tm}{t x:Tm}(h:x∈bd p t):∃s∈p,x.2=bm s.2 t.2:=by
 simp only[bd,KbR]at h;obtain⟨y,hy,h⟩:=h;split at h
 ·cases h
 ·cases h;exact⟨y,hy,rfl⟩
theorem aet:∀(n:Nat)(l:List (List Tm)),l.length<=n->∀ {t:Tm},t∈cQ l->∃p∈l,∃s∈p,s.2=t.2:=by
 intro n;induction n with
 |zero=>intro l hl t ht;have:l=[]:=Kas.1 (by omega);subst this;rw[cQ]at ht;cases ht
 | succ n ih=>
  intro l hl t ht
  match l,ht with
  | [],ht=>rw[cQ]at ht;cases ht
  | [p],ht=>rw[cQ]at ht;exact⟨p,by simp,t,ht,rfl⟩
  | p::q::r,ht=>
   rw[zY (by simp)]at ht;generalize hL:p::q::r=L at *
   have hlen:2<=L.length:=by rw[<-hL];simp
   rcases tD ht with⟨s,h1,h2⟩|⟨s,h1,h2⟩
   ·obtain⟨p',an,s',ew,e⟩:=ih _ (by rw[KaH];omega) h1;exact⟨p',Kbc an,s',ew,e.trans h2⟩
   ·obtain⟨p',an,s',ew,e⟩:=ih _ (by rw[Ka5];omega) h1;exact⟨p',Kbx an,s',ew,e.trans h2⟩
theorem vu{p q:List Tm}{t:Tm}(h:t∈Q4 p q):∃a∈p,∃b∈q,t.2=bm a.2 b.2:=by
 have main:∀ {p q:List Tm},t∈oM p q->∃a∈p,∃b∈q,t.2=bm a.2 b.2:=fun {p q} h=>by obtain⟨x,hx,s,hs,e⟩:=aet _ _ (Kac _) h;obtain⟨a,ha,rfl⟩:=KaE.1 hx;obtain⟨b,hb,e2⟩:=zD hs;exact⟨a,ha,b,hb,by rw[<-e,e2,xv]⟩
 unfold Q4 at h;split at h
 ·obtain⟨a,ha,b,hb,e⟩:=main h;exact⟨b,hb,a,ha,by rw[e,xv]⟩
 ·exact main h
theorem ML.mA{n:Nat}{p q:List Tm}(hp:ML n p)(hq:ML n q):ML n (Q4 p q):=fun t ht=>by obtain⟨a,ha,b,hb,e⟩:=vu ht;have:=Pv a.2 b.2;have:=hp a ha;have:=hq b hb;rw[e];omega
theorem ML.m9{n:Nat}{p:List Tm}(hp:ML n p)(v:Nat)(k:Int):ML n (aZ p v k):=fun t ht=>by obtain⟨s,h1,_,rfl⟩:=tw ht;have:=rH (s.2.set v 0);rw[Kb8]at this;exact Kaw this (hp s h1)
theorem ML.yS{n:Nat}{p q:List Tm}(hp:ML n p)(hq:ML n q)(v top:Nat):∀k,ML n (yS p v q top k)
 |0=>hp.m9 v _
 |k+1=>((ML.yS hp hq v top k).mA hq).s6 (hp.m9 v _)
def eG(a:List Int):Nat->Int
 |0=>0
 |n+1=>eG a n+eN a n
theorem Ou(a:List Int):∀n,n<=a.length->eG a n=(a.take n).sum
 |0,_=>by simp[eG]
 |n+1,h=>by rw[eG,Ou a n (by omega),Kah (by omega),List.sum_append,fj (by omega)];simp
theorem ag7(a:List Int)(k:Nat):eG a (a.length+k)=fB a:=by
 induction k with
 |zero=>rw[KaS,Ou a _ (Kac _),Kar];rfl
 |succ k ih=>rw[<-Nat.add_assoc,eG,ih,fA (by omega)];omega
theorem ag8{a:List Int}{n:Nat}(h:a.length<=n):eG a n=fB a:=by
 obtain⟨k,rfl⟩:∃k,n=a.length+k:=⟨n-a.length,by omega⟩
 exact ag7 a k
theorem aeu{l:List Tm}(hs:fi l){a b:Tm}(ha:a∈l)(hb:b∈l)(e:a.2=b.2):a=b:=by
 induction l with
 |nil=>cases ha
 |cons c l ih=>
  rcases KaP.1 ha with h1|h1<;>rcases KaP.1 hb with h2|h2
  ·rw[h1,h2]
  ·subst h1;exact absurd e.symm (tO (hs.1 b h2))
  ·subst h2;exact absurd e (tO (hs.1 a h1))
  ·exact ih hs.2 h1 h2
theorem Pw{φ:List Int->Rat}:∀ {p:List Tm} {x:Tm},fi p->x∈p->(∀t∈p,t≠x->φ t.2=0)->aR φ p=x.1*φ x.2
 | [],x,_,hx,_=>by cases hx
 | t::p,x,hs,hx,h=>by
  have hz:∀ {l:List Tm},(∀s∈l,φ s.2=0)->aR φ l=0:=by
   intro l;induction l with
   |nil=>intro _;rfl
   |cons s l ih=>intro hl;rw[dF,hl s (by simp),ih (fun y hy=>hl y (by simp[hy]))];grind
  by_cases Nr:t=x
  ·subst Nr;rw[dF,hz (fun s ew=>h s (by simp[ew]) (fun e=>tO (hs.1 s ew) (by rw[e])))];grind
  ·have aW:x∈p:=by
    rcases KaP.1 hx with h1|h1
    ·exact absurd h1.symm Nr
    ·exact h1
   rw[dF,h t (by simp) Nr,Pw hs.2 aW (fun s ew=>h s (by simp[ew]))];grind
theorem Ij:∀(p:List Tm)(d:Int),d<=p.foldl (fun d t=>max d (fB t.2)) d/\(∀t∈p,fB t.2<=p.foldl (fun d t=>max d (fB t.2)) d)/\(p.foldl (fun d t=>max d (fB t.2)) d=d∨∃t∈p,p.foldl (fun d t=>max d (fB t.2)) d=fB t.2)
 | [],d=>⟨KcJ _,by simp,.inl rfl⟩
 | s::p,d=>by
  obtain⟨h1,h2,h3⟩:=Ij p (max d (fB s.2));rw[KcK];refine⟨by omega,fun t ht=>?_,?_⟩
  ·rcases KaP.1 ht with rfl|ht
   ·omega
   ·exact h2 t ht
  ·rcases h3 with h3|⟨t,ht,h3⟩
   ·rw[h3];by_cases h:d<=fB s.2
    ·right;exact⟨s,by simp,by omega⟩
    ·left;omega
   ·right;exact⟨t,by simp[ht],h3⟩
theorem aek(p:List Tm):(∀t∈p,fB t.2<=jH p)/\(jH p= -1∨∃t∈p,jH p=fB t.2):=⟨(Ij p (-1)).2.1,(Ij p (-1)).2.2⟩
def Q3(p:List Tm)(v:Nat):Int:=p.foldl (fun d t=>max d (eN t.2 v)) (-1)
theorem Ov{p:List Tm}{v i:Nat}(h:i<p.length):Q3 (p.take (i+1)) v=max (Q3 (p.take i) v) (eN p[i].2 v):=by rw[Kah h,Q3,KbW];rfl
theorem rO(p:List Tm)(v:Nat): -1<=Q3 p v/\(∀t∈p,eN t.2 v<=Q3 p v)/\(Q3 p v= -1∨∃t∈p,Q3 p v=eN t.2 v):=Pu v p (-1)
theorem oI{K E:Nat}{p:List Tm}(hp:PB K E p)(h0:p≠[])(v:Nat):0<=Q3 p v/\Q3 p v<=E:=by
 obtain⟨_,h2,h3⟩:=rO p v;obtain⟨t,ht⟩:=List.exists_mem_of_ne_nil p h0;have h4:=h2 t ht;have h5:=(hp t ht).m.eN v;rcases h3 with h3|⟨s,hs,h3⟩
 ·omega
 ·have:=(hp s hs).m.eN v;omega
theorem QX{p:List Tm}{v:Nat}{n:Int}(h:∀t∈p,eN t.2 v<n)(hn:0<=n):Q3 p v<n:=by
 obtain⟨_,_,h3⟩:=rO p v;rcases h3 with h3|⟨s,hs,h3⟩
 ·omega
 ·have:=h s hs;omega
def cM(v n:Nat):List Int:=List.replicate v 0++[(n:Int)]
theorem Ay(v n i:Nat):eN (cM v n) i=if i=v then(n:Int)else 0:=by
 unfold cM;by_cases h:i<v
 ·rw[if_neg (by omega),fj (by simp;omega),Kcv (by simpa using h),List.getElem_replicate]
 ·by_cases h2:i=v
  ·subst h2;rw[if_pos rfl,fj (by simp),List.getElem_append_right (by simp)];simp
  ·rw[if_neg h2,fA (by simp;omega)]
theorem Dv{v n:Nat}(h:0<n):(cM v n).getLast? ≠some 0:=by unfold cM;rw[List.getLast?_append];simp;omega
theorem I3{v n:Nat}(hv:v<64):MB n (cM v n):=by
 refine⟨by simp[cM];omega,fun x hx=>?_,fun x hx=>?_⟩
 all_goals
  simp only[cM,KaT,Kc0,KaL]at hx;omega
def gH(p:List Tm)(v n:Nat):List Tm:=if n=0 then p else Q4 p [(1,cM v n)]
theorem Px{v n:Nat}(h:0<n):az [((1:Rat),cM v n)]:=az.one (show(1:Rat)≠0 by decide) (Dv h)
theorem rQ{p:List Tm}(hp:az p)(v n:Nat):az (gH p v n):=by
 unfold gH;split
 ·exact hp
 ·exact dN hp.s (Px (by omega)).s
theorem Q84{p:List Tm}(hp:Can p)(v n:Nat)(φ:List Int->Rat):aR φ (gH p v n)=aR (fun m=>φ (bm m (cM v n))) p:=by
 unfold gH;split
 ·rename_i h;subst h;refine jT fun t ht=>?_;congr 1;refine pF (hp t ht) (pC _ _) fun i=>?_;rw[jl,Ay];split<;>simp
 ·rw[gU];refine jT fun t ht=>?_;rw[dF,gX,Kdl,Rat.add_zero]
theorem H0{φ:List Int->Rat}{v n:Nat}(h:∀m,eN m v≠n->φ m=0):∀ {p:List Tm},Can p->aR φ p=aR (fun m=>φ (bm m (cM v n))) (aZ p v n)
 | [],_=>rfl
 | t::p,hp=>by
  have ih:=H0 h (Can.cons.1 hp).2;by_cases ht:eN t.2 v=n
  ·have e:aZ (t::p) v n=(t.1,eO t.2 v)::aZ p v n:=by rw[aZ,Kbl,if_pos ht];rfl
   have e2:bm (eO t.2 v) (cM v n)=t.2:=pF (pC _ _) (Can.cons.1 hp).1 fun i=>by
    rw[jl,vt,Ay];by_cases hi:i=v
    ·subst hi;simp[ht]
    ·simp[hi]
   rw[e,dF,dF,ih];show _=t.1*φ (bm (eO t.2 v) (cM v n))+_;rw[e2]
  ·have e:aZ (t::p) v n=aZ p v n:=by rw[aZ,Kbl,if_neg ht];rfl
   rw[e,dF,h _ ht,Rat.mul_zero,Rat.zero_add,ih]
theorem xH{p:List Tm}{v:Nat}{n:Int}{t:Tm}(h:t∈aZ p v n):eN t.2 v=0:=by obtain⟨s,_,_,rfl⟩:=tw h;rw[vt,if_pos rfl]
def c8(r:List Tm)(v n d:Nat):List Tm:=gH (aZ r v n) v (n-d)
def ej(r g:List Tm)(v n d:Nat):List Tm:=fV (Q4 (aZ g v d) r) (Q4 (c8 r v n d) g)
theorem ag9{r g:List Tm}{v n d:Nat}(hr:az r)(hg:az g)(hd:d<=n){φ:List Int->Rat}(h:∀m,eN m v≠n->φ m=0):aR φ (ej r g v n d)=0:=by
 have hb:=rQ (jU hr v n) v (n-d);have hc:=jU hg v d;rw[ej,H6 φ (dN hc.s hr.s).c (dN (show fi (c8 r v n d)from hb.s) hg.s),gU,gU,c8,Q84 (jU hr v n).c];have e1:aR (fun m=>aR (fun s=>φ (bm m s)) r) (aZ g v d)=aR (fun m=>aR (fun s=>φ (bm m (bm s (cM v n)))) (aZ r v n)) (aZ g v d):=by refine jT fun t ht=>?_;refine H0 (φ:=fun s=>φ (bm t.2 s)) (fun m hm=>h _ ?_) hr.c;rw[jl,xH ht,Int.zero_add];exact hm
 have e2:aR (fun m=>aR (fun n_1=>φ (bm (bm m (cM v (n-d))) n_1)) g) (aZ r v n)=aR (fun m=>aR (fun a=>φ (bm (bm m (cM v (n-d))) (bm a (cM v d)))) (aZ g v d)) (aZ r v n):=by refine jT fun t ht=>?_;refine H0 (φ:=fun s=>φ (bm (bm t.2 (cM v (n-d))) s)) (fun m hm=>h _ ?_) hg.c;rw[jl,jl,xH ht,Ay,if_pos rfl];omega
 rw[e1,e2,xG];have e3:∀s a:List Int,bm a (bm s (cM v n))=bm (bm s (cM v (n-d))) (bm a (cM v d)):=fun s a=>pF (pC _ _) (pC _ _) fun i=>by simp only[jl,Ay];split<;>omega
 simp only[e3];exact Rat.sub_self
theorem Df{p:List Tm}{v n:Nat}{t:Tm}(h:t∈gH p v n):∃s∈p,∀i,eN t.2 i=eN s.2 i+if i=v then(n:Int)else 0:=by
 unfold gH at h;split at h
 ·rename_i h0;subst h0;exact⟨t,h,fun i=>by split<;>simp⟩
 ·obtain⟨s,hs,b,hb,e⟩:=vu h;simp only[KaL]at hb;subst hb;exact⟨s,hs,fun i=>by rw[e,jl,Ay]⟩
theorem Ik{p q:List Tm}{t:Tm}(hq:Can q)(h:t∈fV p q):(∃s∈p,s.2=t.2)∨(∃s∈q,s.2=t.2):=by
 rcases tD h with h|⟨s,hs,h⟩
 ·exact .inl h
 ·right;rw[lj,b8,if_neg (by decide)]at hs;obtain⟨u,hu,e⟩:=zD hs;exact⟨u,hu,by rw[<-h,e];exact(tC (hq u hu)).symm⟩
theorem Sf{r g:List Tm}{v n d:Nat}(hr:az r)(hg:az g)(hd:d<=n)(hn:∀t∈r,eN t.2 v<=n)(eH:∀t∈g,eN t.2 v<=d):∀t∈ej r g v n d,eN t.2 v<n:=by
 intro t ht;have hb:=rQ (jU hr v n) v (n-d);have hc:=jU hg v d;have hR:az (ej r g v n d):=vn (dN hc.s hr.s) (dN (show fi (c8 r v n d)from hb.s) hg.s);have hle:eN t.2 v<=n:=by
  rcases Ik (dN (show fi (c8 r v n d)from hb.s) hg.s).c ht with⟨s,hs,e⟩|⟨s,hs,e⟩
  ·obtain⟨a,ha,b,aw,e2⟩:=vu hs;rw[<-e,e2,jl,xH ha];have:=hn b aw;omega
  ·obtain⟨a,ha,b,aw,e2⟩:=vu hs;obtain⟨u,hu,e3⟩:=Df (show a∈gH (aZ r v n) v (n-d)from ha);rw[<-e,e2,jl,e3,xH hu,if_pos rfl];have:=eH b aw;omega
 rcases Int.lt_or_eq_of_le hle with h|h
 ·exact h
 ·exfalso;have h1:=ag9 hr hg hd (φ:=fun m=>if m=t.2 then 1 else 0) (fun m hm=>by rw[if_neg];rintro rfl;exact hm h);have h2:=Pw (φ:=fun m=>if m=t.2 then 1 else 0) hR.s ht (fun s hs aO=>by rw[if_neg];intro e;exact aO (aeu hR.s hs ht e));rw[h1]at h2;simp only[if_true,Rat.mul_one]at h2;exact hR.z t ht h2.symm
def gJ(q r g:List Tm)(v n d:Nat):List Tm:=Q8 (Q4 (aZ g v d) q) (c8 r v n d)
def jG(g:List Tm)(v d:Nat):Nat->List Tm->List Tm->Nat->PV
 |0,q,r,k=>.au [PV.aj q,PV.aj r,.int .i64 k,.int .i64 0]
 |f+1,q,r,k=>
  if r=[]∨Q3 r v<d then .au [PV.aj q,PV.aj r,.int .i64 k,.int .i64 0]
  else if bh (gJ q r g v (Q3 r v).toNat d)=true∨bh (ej r g v (Q3 r v).toNat d)=true then .au [PV.aj [],PV.aj [],.int .i64 0,.int .i64 4]
  else jG g v d f (gJ q r g v (Q3 r v).toNat d) (ej r g v (Q3 r v).toNat d) (k+1)
theorem aha{q r g:List Tm}{v n d:Nat}(hq:az q)(hr:az r)(hg:az g):az (gJ q r g v n d):=nQ (dN (jU hg v d).s hq.s) (rQ (jU hr v n) v (n-d))
theorem ahb{r g:List Tm}{v n d:Nat}(hr:az r)(hg:az g):az (ej r g v n d):=
 vn (dN (jU hg v d).s hr.s) (dN (show fi (c8 r v n d)from(rQ (jU hr v n) v (n-d)).s) hg.s)
theorem Gp{r g:List Tm}{v d K E:Nat}(hr:az r)(hg:az g)(Nl:PB K E r)(h0:r≠[])(hd:Q3 g v=d)(hle:(d:Int)<=Q3 r v):Q3 (ej r g v (Q3 r v).toNat d) v<Q3 r v:=by
 obtain⟨h1,h2⟩:=oI Nl h0 v;have e:(((Q3 r v).toNat:Nat):Int)=Q3 r v:=by omega
 have h3:=Sf (v:=v) (n:=(Q3 r v).toNat) (d:=d) hr hg (by omega) (fun t ht=>by rw[e];exact(rO r v).2.1 t ht) (fun t ht=>by rw[<-hd];exact(rO g v).2.1 t ht);exact QX (fun t ht=>by have:=h3 t ht;omega) h1
end Go.FW
