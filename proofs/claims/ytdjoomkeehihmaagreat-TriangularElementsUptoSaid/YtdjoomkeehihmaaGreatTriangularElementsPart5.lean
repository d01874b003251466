/- Part 5 of the proof of TriangularElements: P8, CS2, CS3, CU, FwSE, FwSF, FwSG, FwSH, FwSI, FwSJ, FwSK, FwSL, FwUA. Own lemmas; no conditions. -/
import Derived.Test.YtdjoomkeehihmaaGreatTriangularElementsPart4
set_option maxHeartbeats 1000000
set_option linter.unusedSimpArgs false
set_option linter.unusedVariables false
set_option linter.unnecessarySimpa false
set_option maxRecDepth 100000
namespace Go.Proofs.YtdjoomkeehihmaaGreat
open Go Go.FW
theorem Qwu{p:List Tm}{f:Nat}{g:Tm->Bool}(hf:∀t∈p,Qc Tryz.prog f [PV.term t] (· = .bool (g t)))(bW:p.length<=2^36):
  Qc Tryz.prog 159 [PV.aj p,.fn f [] []] (· = .int .i64 (r7 g p)):=by
 refine Qf Qj Tryz.func159 rfl afm (by simp[JT]) fun C hP=>?_;simp only[JT,Zo,Zg,Zm,Zc,Zf,Zl,Zh,Zs,Zi,Zb,Zk,Zn,Zu,Zq,Zr,Zz];refine Sz0 ?_;refine Qz (by repeat (first|exact Qs|exact Ql|exact Qm|exact Qn|exact Qo|apply Qk|apply Qr|apply Qw|apply Q5|apply Q6|apply Qi)) [(4,5),(8,18)] [] (fun n J hp=>∃i,n=p.length-i/\i<=p.length/\(∀j (h:j<p.length),j<i->g p[j]=false)/\J 8= .int .i64 (i:Nat)) p.length ?_ ?_
 ·refine⟨0,rfl,by omega,by omega,?_⟩;refine Sz0 ?_;rfl
 rintro _ J h ⟨i,rfl,hi,h1,h8⟩;refine Sz1 h8 ?_;refine Qb (fun hg=>?_) (fun hg=>?_)
 ·have aC:i<p.length:=by omega
  have v8:=hf _ (Kag aC);have bz:=fun h=>Hv (g:=g) aC h h1;have gU:g p[i]=false->∀j (h:j<p.length),j<i+1->g p[j]=false:=fun h j hj eh=>by
   by_cases e:j=i
   ·subst e;exact h
   ·exact h1 j hj (by omega)
  generalize hx:p[i]=x at *
  refine Sz2 h8 hx ?_;refine Qa hP v8 rfl rfl rfl ?_;refine Sz2 h8 hx ?_;cases um:g x
  ·refine Sz1 h8 ?_;refine Qh (p.length-(i+1)) (by omega) ⟨i+1,rfl,by omega,gU um,?_⟩;exact Tz0
  ·refine Sz1 h8 ?_;exact Qd (by rw[bz um]) rfl
 ·obtain rfl:i=p.length:=by omega
  refine Sz0 ?_;exact Qd (by rw[G6 (fun j hj=>h1 j hj hj)]) rfl
theorem Qwv{p:List Int}{f:Nat}{g:Int->Bool}(hf:∀t∈p,Qc Tryz.prog f [.int .i64 t] (· = .bool (g t)))(bW:p.length<=2^36):
  Qc Tryz.prog 160 [PV.mono p,.fn f [] []] (· = .int .i64 (r7 g p)):=by
 refine Qf Qj Tryz.func160 rfl afn (by simp[JU]) fun C hP=>?_;simp only[JU,Zo,Zg,Zm,Zc,Zf,Zl,Zh,Zs,Zi,Zb,Zk,Zn,Zu,Zq,Zr,Zz];refine Sz0 ?_;refine Qz (by repeat (first|exact Qs|exact Ql|exact Qm|exact Qn|exact Qo|apply Qk|apply Qr|apply Qw|apply Q5|apply Q6|apply Qi)) [(4,5),(8,18)] [] (fun n J hp=>∃i,n=p.length-i/\i<=p.length/\(∀j (h:j<p.length),j<i->g p[j]=false)/\J 8= .int .i64 (i:Nat)) p.length ?_ ?_
 ·refine⟨0,rfl,by omega,by omega,?_⟩;refine Sz0 ?_;rfl
 rintro _ J h ⟨i,rfl,hi,h1,h8⟩;refine Sz1 h8 ?_;refine Qb (fun hg=>?_) (fun hg=>?_)
 ·have aC:i<p.length:=by omega
  have v8:=hf _ (Kag aC);have bz:=fun h=>Hv (g:=g) aC h h1;have gU:g p[i]=false->∀j (h:j<p.length),j<i+1->g p[j]=false:=fun h j hj eh=>by
   by_cases e:j=i
   ·subst e;exact h
   ·exact h1 j hj (by omega)
  generalize hx:p[i]=x at *
  refine Sz2 h8 hx ?_;refine Qa hP v8 rfl rfl rfl ?_;refine Sz2 h8 hx ?_;cases um:g x
  ·refine Sz1 h8 ?_;refine Qh (p.length-(i+1)) (by omega) ⟨i+1,rfl,by omega,gU um,?_⟩;exact Tz0
  ·refine Sz1 h8 ?_;exact Qd (by rw[bz um]) rfl
 ·obtain rfl:i=p.length:=by omega
  refine Sz0 ?_;exact Qd (by rw[G6 (fun j hj=>h1 j hj hj)]) rfl
theorem Qsm{p:List Tm}{f:Nat}{g:Tm->Bool}(hf:∀t∈p,Qc Tryz.prog f [PV.term t] (· = .bool (g t)))(bW:p.length<=2^36):
  Qc Tryz.prog 112 [PV.aj p,.fn f [] []] (· = .bool (p.any g)):=by
 refine Qf Qj Tryz.func112 rfl afk (by simp[I9]) fun C hP=>?_;simp only[I9,Zo,Zg,Zm,Zc,Zf,Zl,Zh,Zs,Zi,Zb,Zk,Zn,Zu,Zq,Zr,Zz];refine Sz0 ?_;refine Qa hP (Qwu hf bW) rfl rfl rfl ?_;refine Sz0 ?_;exact Qd (congrArg PV.bool (Hp g p)) rfl
theorem Qsn{p:List Int}{f:Nat}{g:Int->Bool}(hf:∀t∈p,Qc Tryz.prog f [.int .i64 t] (· = .bool (g t)))(bW:p.length<=2^36):
  Qc Tryz.prog 114 [PV.mono p,.fn f [] []] (· = .bool (p.any g)):=by
 refine Qf Qj Tryz.func114 rfl afl (by simp[Ja]) fun C hP=>?_;simp only[Ja,Zo,Zg,Zm,Zc,Zf,Zl,Zh,Zs,Zi,Zb,Zk,Zn,Zu,Zq,Zr,Zz];refine Sz0 ?_;refine Qa hP (Qwv hf bW) rfl rfl rfl ?_;refine Sz0 ?_;exact Qd (congrArg PV.bool (Hp g p)) rfl
theorem Ub{a:Rat}{k:Nat}(h:rs a<=k)(hk:k<2^36):Qc Tryz.prog 65 [PV.rat a] (· =PV.aj (dk a)):=by
 have:=XY (iB h) hk
 rwa[gN]at this
def Lo:aA:=⟨39,[.t 2],Zr (Zo (.mv 2 (.c (.bool false))) .nil)<| .seq (Zr (Zm 4 0<|Zn 5 4<|Zk 6 .gtr 5 64<|Zm 7 6<|Zg 7 false (.mv 8 (.t 0))<|Zg 7 false (.len 9 (.t 8))<|Zg 7 false (.bin 10 .gtr false (.t 9) (.c (Zz 0)))<|Zg 7 false (.mv 11 (.t 10))<|Zg 11 true (.mv 12 (.t 0))<|Zg 11 true (.mv 13 (.t 0))<|Zg 11 true (.len 14 (.t 13))<|Zg 11 true (.bin 15 .sub false (.t 14) (.c (Zz 1)))<|Zg 11 true (.idx 16 1 (.t 12) (.t 15))<|Zg 11 true (.ld 17 1 false (.t 16))<|Zg 11 true (.bin 18 .eql false (.t 17) (.c (Zz 0)))<|Zg 7 false (.pick 19 (.t 11) (.t 18) (.c (.bool false)))<|Zo (.pick 20 (.t 7) (.c (.bool true)) (.t 19)) .nil)<| .cond (.t 20) (Zr (Zo (.mv 2 (.c (.bool false))) .nil) .ret) .skip)<| .seq (Zr (Zc 3 0 .nil)<| .block 0<| .loop<| .seq (Zr (Zm 21 3<|Zm 22 0<|Zn 23 22<|Zb 24 .lss 21 23 .nil)<| .cond (.t 24) .skip (.exit 0))<| .seq (.block 1<|Zr (Zm 27 0<|Zm 28 3<|Zi 29 1 27 28<|Zl 30 1 29<|Zk 31 .lss 30 0<|Zm 32 31<|Zg 32 false (.mv 33 (.t 0))<|Zg 32 false (.mv 34 (.t 3))<|Zg 32 false (.idx 35 1 (.t 33) (.t 34))<|Zg 32 false (.ld 36 1 false (.t 35))<|Zg 32 false (.bin 37 .gtr false (.t 36) (.c (Zz 1048576)))<|Zo (.pick 38 (.t 32) (.c (.bool true)) (.t 37)) .nil)<| .cond (.t 38) (Zr (Zo (.mv 2 (.c (.bool false))) .nil) .ret) .skip)<| .rg (Zm 25 3<|Zk 26 .add 25 1<|Zm 3 26 .nil))<|Zr (Zo (.mv 2 (.c (.bool true))) .nil) .ret⟩
theorem aiY:Qe Tryz.prog Tryz.f83=some Lo:=by kernel_rfl
def Kn:aA:=⟨24,[.t 2],Zr (Zo (.mv 2 (.c .aa)) .nil)<|Zr (Zm 5 0<|Zn 6 5<|Zm 3 6 .nil)<| .seq (.block 0<| .loop<| .seq (Zr (Zm 7 3<|Zk 8 .gtr 7 0<|Zm 9 8<|Zg 9 true (.mv 10 (.t 0))<|Zg 9 true (.mv 11 (.t 3))<|Zg 9 true (.bin 12 .sub false (.t 11) (.c (Zz 1)))<|Zg 9 true (.idx 13 1 (.t 10) (.t 12))<|Zg 9 true (.ld 14 1 false (.t 13))<|Zg 9 true (.bin 15 .eql false (.t 14) (.c (Zz 0)))<|Zo (.pick 16 (.t 9) (.t 15) (.c (.bool false))) .nil)<| .cond (.t 16) .skip (.exit 0))<| .block 1<| .rg (Zm 17 3<|Zk 18 .sub 17 1<|Zm 3 18 .nil))<|Zr (Zo (.mv 4 (.c .aa)) .nil)<|Zr (Zm 19 4<|Zm 20 0<|Zm 21 3<|Zo (.sl 22 1 (.t 20) none (some (.t 21)) none)<|Zo (.app 23 1 8 3 (.t 19) (.t 22))<|Zm 2 23 .nil) .ret⟩
theorem af9:Qe Tryz.prog Tryz.f183=some Kn:=by kernel_rfl
def Kl:aA:=⟨9,[.t 2],Zr (Zo (.mv 2 (.c .aa)) .nil)<| .seq (Zr (Zm 4 0<|Zq 5 false 183 [.t 4]<|Zm 3 5 .nil)<|Zr (Zm 6 3<|Zq 7 false 83 [.t 6] .nil)<| .cond (.t 7) (Zr (Zm 8 3<|Zm 2 8 .nil) .ret) .skip)<|Zr (Zo (.mv 2 (.c .aa)) .nil) .ret⟩
theorem aga:Qe Tryz.prog Tryz.f181=some Kl:=by kernel_rfl
def KR:aA:=⟨18,[.t 2],Zr (Zc 2 0 .nil)<|Zr (Zc 3 0 .nil)<| .seq (Zr (Zc 4 0 .nil)<| .block 0<| .loop<| .seq (Zr (Zm 5 4<|Zm 6 0<|Zn 7 6<|Zb 8 .lss 5 7 .nil)<| .cond (.t 8) .skip (.exit 0))<| .seq (.block 1<| .rg (Zm 11 3<|Zm 12 0<|Zm 13 4<|Zi 14 1 12 13<|Zl 15 1 14<|Zb 16 .add 11 15<|Zm 3 16 .nil))<| .rg (Zm 9 4<|Zk 10 .add 9 1<|Zm 4 10 .nil))<|Zr (Zm 17 3<|Zm 2 17 .nil) .ret⟩
theorem aiZ:Qe Tryz.prog Tryz.f51=some KR:=by kernel_rfl
def LH:aA:=⟨17,[.t 4],Zr (Zc 4 0 .nil)<| .seq (Zr (Zm 5 1<|Zk 6 .lss 5 0<|Zm 7 6<|Zg 7 false (.mv 8 (.t 1))<|Zg 7 false (.mv 9 (.t 0))<|Zg 7 false (.len 10 (.t 9))<|Zg 7 false (.bin 11 .geq false (.t 8) (.t 10))<|Zo (.pick 12 (.t 7) (.c (.bool true)) (.t 11)) .nil)<| .cond (.t 12) (Zr (Zc 4 0 .nil) .ret) .skip)<|Zr (Zm 13 0<|Zm 14 1<|Zi 15 1 13 14<|Zl 16 1 15<|Zm 4 16 .nil) .ret⟩
theorem ai0:Qe Tryz.prog Tryz.f99=some LH:=by kernel_rfl
def Jd:aA:=⟨30,[.t 4],Zr (Zo (.mv 4 (.c .aa)) .nil)<|Zr (Zo (.mv 5 (.c .aa)) .nil)<| .seq (Zr (Zc 6 0 .nil)<| .block 0<| .loop<| .seq (Zr (Zm 7 6<|Zm 8 0<|Zn 9 8<|Zb 10 .lss 7 9<|Zm 11 10<|Zg 11 false (.mv 12 (.t 6))<|Zg 11 false (.mv 13 (.t 1))<|Zg 11 false (.len 14 (.t 13))<|Zg 11 false (.bin 15 .lss false (.t 12) (.t 14))<|Zo (.pick 16 (.t 11) (.c (.bool true)) (.t 15)) .nil)<| .cond (.t 16) .skip (.exit 0))<| .seq (.block 1<| .rg (Zm 19 5<|Zm 20 0<|Zm 21 6<|Zq 22 false 99 [.t 20,.t 21]<|Zm 23 1<|Zm 24 6<|Zq 25 false 99 [.t 23,.t 24]<|Zb 26 .add 22 25<|Zo (.bs 27 1 3 [.t 26])<|Zo (.app 28 1 8 3 (.t 19) (.t 27))<|Zm 5 28 .nil))<| .rg (Zm 17 6<|Zk 18 .add 17 1<|Zm 6 18 .nil))<|Zr (Zm 29 5<|Zm 4 29 .nil) .ret⟩
theorem agb:Qe Tryz.prog Tryz.f117=some Jd:=by kernel_rfl
def KU:aA:=⟨48,[.t 6],Zr (Zc 6 0 .nil)<| .seq (Zr (Zm 8 2<|Zk 9 .eql 8 1<|Zm 10 9<|Zg 10 true (.mv 11 (.t 0))<|Zg 10 true (.call (some 12) false (.c (.fn 51 [] [])) [.t 11])<|Zg 10 true (.mv 13 (.t 1))<|Zg 10 true (.call (some 14) false (.c (.fn 51 [] [])) [.t 13])<|Zg 10 true (.bin 15 .neq false (.t 12) (.t 14))<|Zo (.pick 16 (.t 10) (.t 15) (.c (.bool false))) .nil)<| .cond (.t 16) (Zr (Zm 17 0<|Zq 18 false 51 [.t 17]<|Zm 19 1<|Zq 20 false 51 [.t 19]<|Zb 21 .sub 18 20<|Zq 22 false 98 [.t 21]<|Zm 6 22 .nil) .ret) .skip)<| .seq (Zr (Zm 23 0<|Zn 24 23<|Zm 25 1<|Zn 26 25<|Zo (.mx 27 (.t 24) (.t 26))<|Zk 28 .sub 27 1<|Zm 7 28 .nil)<| .block 0<| .loop<| .seq (Zr (Zm 29 7<|Zk 30 .geq 29 0 .nil)<| .cond (.t 30) .skip (.exit 0))<| .seq (.block 1<|Zr (Zm 33 0<|Zm 34 7<|Zq 35 false 99 [.t 33,.t 34]<|Zm 36 1<|Zm 37 7<|Zq 38 false 99 [.t 36,.t 37]<|Zb 39 .neq 35 38 .nil)<| .cond (.t 39) (Zr (Zm 40 0<|Zm 41 7<|Zq 42 false 99 [.t 40,.t 41]<|Zm 43 1<|Zm 44 7<|Zq 45 false 99 [.t 43,.t 44]<|Zb 46 .sub 42 45<|Zq 47 false 98 [.t 46]<|Zm 6 47 .nil) .ret) .skip)<| .rg (Zm 31 7<|Zk 32 .sub 31 1<|Zm 7 32 .nil))<|Zr (Zc 6 0 .nil) .ret⟩
theorem ai1:Qe Tryz.prog Tryz.f54=some KU:=by kernel_rfl
def LG:aA:=⟨7,[.t 2],Zr (Zc 2 0 .nil)<| .seq (Zr (Zm 3 0<|Zk 4 .lss 3 0 .nil)<| .cond (.t 4) (Zr (Zc 2 (-1) .nil) .ret) .skip)<| .seq (Zr (Zm 5 0<|Zk 6 .gtr 5 0 .nil)<| .cond (.t 6) (Zr (Zc 2 1 .nil) .ret) .skip)<|Zr (Zc 2 0 .nil) .ret⟩
theorem ai2:Qe Tryz.prog Tryz.f98=some LG:=by kernel_rfl
def Kr:aA:=⟨92,[.t 4],Zr (Zo (.mv 4 (.c .aa)) .nil)<|Zr (Zo (.mv 5 (.c .aa)) .nil)<|Zr (Zc 6 0<|Zc 7 0 .nil)<| .seq (.block 0<| .loop<| .seq (Zr (Zm 10 6<|Zm 11 0<|Zn 12 11<|Zb 13 .lss 10 12<|Zm 14 13<|Zg 14 false (.mv 15 (.t 7))<|Zg 14 false (.mv 16 (.t 1))<|Zg 14 false (.len 17 (.t 16))<|Zg 14 false (.bin 18 .lss false (.t 15) (.t 17))<|Zo (.pick 19 (.t 14) (.c (.bool true)) (.t 18)) .nil)<| .cond (.t 19) .skip (.exit 0))<| .block 1<|Zr (Zc 8 1 .nil)<| .seq (Zr (Zm 20 6<|Zm 21 0<|Zn 22 21<|Zb 23 .eql 20 22 .nil)<| .cond (.t 23) (.rg (Zc 8 (-1) .nil)) (Zr (Zm 24 7<|Zm 25 1<|Zn 26 25<|Zb 27 .lss 24 26 .nil)<| .cond (.t 27) (.rg (Zm 28 0<|Zm 29 6<|Zi 30 4 28 29<|Zf 31 3 30<|Zl 32 1 31<|Zm 33 1<|Zm 34 7<|Zi 35 4 33 34<|Zf 36 3 35<|Zl 37 1 36<|Zq 38 false 54 [.t 32,.t 37,.c (Zz 0)]<|Zm 8 38 .nil)) .skip))<| .block 2<|Zr (Zm 68 8<|Zk 69 .gtr 68 0<|Zm 67 69 .nil)<| .cond (.t 67) (Zr (Zm 70 5<|Zm 71 0<|Zm 72 6<|Zi 73 4 71 72<|Zh 74 4 73<|Zo (.bs 75 4 54 [.t 74])<|Zo (.app 76 4 80 54 (.t 70) (.t 75))<|Zm 5 76 .nil)<| .rg (Zm 77 6<|Zk 78 .add 77 1<|Zm 6 78 .nil)) (Zr (Zm 80 8<|Zk 81 .lss 80 0<|Zm 79 81 .nil)<| .cond (.t 79) (Zr (Zm 82 5<|Zm 83 1<|Zm 84 7<|Zi 85 4 83 84<|Zh 86 4 85<|Zo (.bs 87 4 54 [.t 86])<|Zo (.app 88 4 80 54 (.t 82) (.t 87))<|Zm 5 88 .nil)<| .rg (Zm 89 7<|Zk 90 .add 89 1<|Zm 7 90 .nil)) (.seq (Zr (Zm 39 0<|Zm 40 6<|Zi 41 4 39 40<|Zf 42 0 41<|Zh 43 3 42<|Zm 44 1<|Zm 45 7<|Zi 46 4 44 45<|Zf 47 0 46<|Zh 48 3 47<| .br (Zq 49 true 55 [.t 43,.t 48]<|Zo (.alloc 9 3 43 (.agg [.bool false,.aa,.aa]))<|Zs 3 9 49 .nil) (Zo (.alloc 9 3 43 (.agg [.bool false,.aa,.aa]))<|Zq 49 true 55 [.t 43,.t 48]<|Zs 3 9 49 .nil))<|Zr (Zh 50 3 9<|Zq 51 false 56 [.t 50]<|Zk 52 .neq 51 0 .nil)<| .cond (.t 52) (.rg (Zm 53 5<|Zh 54 3 9<|Zm 55 0<|Zm 56 6<|Zi 57 4 55 56<|Zf 58 3 57<|Zl 59 1 58<|Zo (.bU 60 [.bool false,.aa,.aa,.aa] [(0,3,.t 54),(3,1,.t 59)])<|Zo (.bs 61 4 54 [.t 60])<|Zo (.app 62 4 80 54 (.t 53) (.t 61))<|Zm 5 62 .nil)) .skip)<|Zr (Zm 63 6<|Zk 64 .add 63 1<|Zm 6 64 .nil)<| .rg (Zm 65 7<|Zk 66 .add 65 1<|Zm 7 66 .nil))))<|Zr (Zm 91 5<|Zm 4 91 .nil) .ret⟩
theorem ai3:Qe Tryz.prog Tryz.f22=some Kr:=by kernel_rfl
def KE:aA:=⟨58,[.t 4],Zr (Zc 4 0 .nil)<| .seq (Zr (Zc 5 0 .nil)<| .block 0<| .loop<| .seq (Zr (Zm 8 5<|Zm 9 0<|Zn 10 9<|Zb 11 .lss 8 10<|Zm 12 11<|Zg 12 true (.mv 13 (.t 5))<|Zg 12 true (.mv 14 (.t 1))<|Zg 12 true (.len 15 (.t 14))<|Zg 12 true (.bin 16 .lss false (.t 13) (.t 15))<|Zo (.pick 17 (.t 12) (.t 16) (.c (.bool false))) .nil)<| .cond (.t 17) .skip (.exit 0))<| .seq (.block 1<| .seq (Zr (Zm 20 0<|Zm 21 5<|Zi 22 4 20 21<|Zf 23 3 22<|Zl 24 1 23<|Zm 25 1<|Zm 26 5<|Zi 27 4 25 26<|Zf 28 3 27<|Zl 29 1 28<|Zq 30 false 54 [.t 24,.t 29,.c (Zz 0)]<|Zm 6 30 .nil)<|Zr (Zm 31 6<|Zk 32 .neq 31 0 .nil)<| .cond (.t 32) (Zr (Zm 33 6<|Zm 4 33 .nil) .ret) .skip)<|Zr (Zm 34 0<|Zm 35 5<|Zi 36 4 34 35<|Zf 37 0 36<|Zh 38 3 37<|Zm 39 1<|Zm 40 5<|Zi 41 4 39 40<|Zf 42 0 41<|Zh 43 3 42<|Zq 44 false 81 [.t 38,.t 43]<|Zm 7 44 .nil)<|Zr (Zm 45 7<|Zk 46 .neq 45 0 .nil)<| .cond (.t 46) (Zr (Zm 47 7<|Zm 4 47 .nil) .ret) .skip)<| .rg (Zm 18 5<|Zk 19 .add 18 1<|Zm 5 19 .nil))<| .seq (Zr (Zm 48 0<|Zn 49 48<|Zm 50 1<|Zn 51 50<|Zb 52 .lss 49 51 .nil)<| .cond (.t 52) (Zr (Zc 4 (-1) .nil) .ret) .skip)<| .seq (Zr (Zm 53 0<|Zn 54 53<|Zm 55 1<|Zn 56 55<|Zb 57 .gtr 54 56 .nil)<| .cond (.t 57) (Zr (Zc 4 1 .nil) .ret) .skip)<|Zr (Zc 4 0 .nil) .ret⟩
theorem ai4:Qe Tryz.prog Tryz.f38=some KE:=by kernel_rfl
def Ku:aA:=⟨5,[.t 2],Zr (Zo (.box 1 3 43 (.t 0))<|Zo (.mv 2 (.c .aa)) .nil)<|Zr (Zh 3 3 1<|Zq 4 false 52 [.c .aa,.t 3,.c .aa]<|Zm 2 4 .nil) .ret⟩
theorem ai5:Qe Tryz.prog Tryz.f25=some Ku:=by kernel_rfl
def Ko:aA:=⟨20,[.t 2],Zr (Zc 2 0 .nil)<|Zr (Zc 3 (-1) .nil)<| .seq (Zr (Zc 4 0 .nil)<| .block 0<| .loop<| .seq (Zr (Zm 5 4<|Zm 6 0<|Zn 7 6<|Zb 8 .lss 5 7 .nil)<| .cond (.t 8) .skip (.exit 0))<| .seq (.block 1<| .rg (Zm 11 3<|Zm 12 0<|Zm 13 4<|Zi 14 4 12 13<|Zf 15 3 14<|Zl 16 1 15<|Zq 17 false 51 [.t 16]<|Zo (.mx 18 (.t 11) (.t 17))<|Zm 3 18 .nil))<| .rg (Zm 9 4<|Zk 10 .add 9 1<|Zm 4 10 .nil))<|Zr (Zm 19 3<|Zm 2 19 .nil) .ret⟩
theorem ai6:Qe Tryz.prog Tryz.f19=some Ko:=by kernel_rfl
def I7:aA:=⟨9,[.t 4],Zr (Zo (.mv 4 (.c (.bool false))) .nil)<|Zr (Zm 5 0<|Zm 6 1<|Zq 7 false 38 [.t 5,.t 6]<|Zk 8 .eql 7 0<|Zm 4 8 .nil) .ret⟩
theorem ai7:Qe Tryz.prog Tryz.f11=some I7:=by kernel_rfl
def Jw:aA:=⟨33,[.t 2],Zr (Zo (.mv 2 (.c (.bool false))) .nil)<| .seq (Zr (Zc 3 0 .nil)<| .block 0<| .loop<| .seq (Zr (Zm 5 3<|Zm 6 0<|Zn 7 6<|Zb 8 .lss 5 7 .nil)<| .cond (.t 8) .skip (.exit 0))<| .seq (.block 1<|Zr (Zc 4 0 .nil)<| .block 2<| .loop<| .seq (Zr (Zm 11 4<|Zm 12 0<|Zm 13 3<|Zi 14 4 12 13<|Zf 15 3 14<|Zl 16 1 15<|Zn 17 16<|Zb 18 .lss 11 17 .nil)<| .cond (.t 18) .skip (.exit 2))<| .seq (.block 3<|Zr (Zm 21 0<|Zm 22 3<|Zi 23 4 21 22<|Zf 24 3 23<|Zl 25 1 24<|Zm 26 4<|Zi 27 1 25 26<|Zl 28 1 27<|Zk 29 .gtr 28 1048576 .nil)<| .cond (.t 29) (Zr (Zo (.mv 2 (.c (.bool true))) .nil) .ret) .skip)<| .rg (Zm 19 4<|Zk 20 .add 19 1<|Zm 4 20 .nil))<| .rg (Zm 9 3<|Zk 10 .add 9 1<|Zm 3 10 .nil))<|Zr (Zm 30 0<|Zn 31 30<|Zk 32 .gtr 31 4000<|Zm 2 32 .nil) .ret⟩
theorem agc:Qe Tryz.prog Tryz.f135=some Jw:=by kernel_rfl
def Kt:aA:=⟨22,[.t 4],Zr (Zo (.mv 4 (.c .aa)) .nil)<|Zr (Zo (.mv 5 (.c .aa)) .nil)<| .seq (Zr (Zc 6 0 .nil)<| .block 0<| .loop<| .seq (Zr (Zm 7 6<|Zm 8 1<|Zn 9 8<|Zb 10 .lss 7 9 .nil)<| .cond (.t 10) .skip (.exit 0))<| .seq (.block 1<| .rg (Zm 13 5<|Zm 14 0<|Zm 15 1<|Zm 16 6<|Zi 17 4 15 16<|Zh 18 4 17<|Zq 19 false 62 [.t 14,.t 18]<|Zq 20 false 22 [.t 13,.t 19]<|Zm 5 20 .nil))<| .rg (Zm 11 6<|Zk 12 .add 11 1<|Zm 6 12 .nil))<|Zr (Zm 21 5<|Zm 4 21 .nil) .ret⟩
theorem ai8:Qe Tryz.prog Tryz.f24=some Kt:=by kernel_rfl
def KT:aA:=⟨6,[.t 2],Zr (Zo (.mv 2 (.c .aa)) .nil)<|Zr (Zm 3 0<|Zq 4 false 32 [.c (Zz (-1))]<|Zq 5 false 71 [.t 3,.t 4]<|Zm 2 5 .nil) .ret⟩
theorem ai9:Qe Tryz.prog Tryz.f53=some KT:=by kernel_rfl
def J6:aA:=⟨34,[.t 2],Zr (Zo (.mv 2 (.c .aa)) .nil)<|Zr (Zo (.mv 3 (.c .aa)) .nil)<| .seq (Zr (Zc 4 0 .nil)<| .block 0<| .loop<| .seq (Zr (Zm 6 4<|Zm 7 0<|Zn 8 7<|Zb 9 .lss 6 8 .nil)<| .cond (.t 9) .skip (.exit 0))<| .seq (.block 1<|Zr (Zm 12 0<|Zm 13 4<|Zi 14 4 12 13<|Zf 15 3 14<|Zl 16 1 15<|Zq 17 false 181 [.t 16]<|Zm 5 17 .nil)<|Zr (Zm 18 0<|Zm 19 4<|Zi 20 4 18 19<|Zf 21 3 20<|Zl 22 1 21<|Zm 23 5<|Zq 24 false 182 [.t 22,.t 23] .nil)<| .cond (.t 24) (.rg (Zm 25 3<|Zm 26 0<|Zm 27 4<|Zi 28 4 26 27<|Zf 29 0 28<|Zh 30 3 29<|Zm 31 5<|Zq 32 false 52 [.t 25,.t 30,.t 31]<|Zm 3 32 .nil)) .skip)<| .rg (Zm 10 4<|Zk 11 .add 10 1<|Zm 4 11 .nil))<|Zr (Zm 33 3<|Zm 2 33 .nil) .ret⟩
theorem agd:Qe Tryz.prog Tryz.f168=some J6:=by kernel_rfl
def KF:aA:=⟨52,[.t 2],Zr (Zo (.mv 2 (.c (.bool false))) .nil)<| .seq (Zr (Zc 3 0 .nil)<| .block 0<| .loop<| .seq (Zr (Zm 4 3<|Zm 5 0<|Zn 6 5<|Zb 7 .lss 4 6 .nil)<| .cond (.t 7) .skip (.exit 0))<| .seq (.block 1<| .seq (Zr (Zm 10 0<|Zm 11 3<|Zi 12 4 10 11<|Zf 13 0 12<|Zh 14 3 13<|Zq 15 false 82 [.t 14]<|Zu 16 15<|Zm 17 16<|Zg 17 false (.mv 18 (.t 0))<|Zg 17 false (.mv 19 (.t 3))<|Zg 17 false (.idx 20 4 (.t 18) (.t 19))<|Zg 17 false (.cE 21 0 (.t 20))<|Zg 17 false (.ld 22 3 true (.t 21))<|Zg 17 false (.call (some 23) false (.c (.fn 56 [] [])) [.t 22])<|Zg 17 false (.bin 24 .eql false (.t 23) (.c (Zz 0)))<|Zo (.pick 25 (.t 17) (.c (.bool true)) (.t 24))<|Zm 26 25<|Zg 26 false (.mv 27 (.t 0))<|Zg 26 false (.mv 28 (.t 3))<|Zg 26 false (.idx 29 4 (.t 27) (.t 28))<|Zg 26 false (.cE 30 3 (.t 29))<|Zg 26 false (.ld 31 1 false (.t 30))<|Zg 26 false (.call (some 32) false (.c (.fn 83 [] [])) [.t 31])<|Zg 26 false (.un 33 .not (.t 32))<|Zo (.pick 34 (.t 26) (.c (.bool true)) (.t 33)) .nil)<| .cond (.t 34) (Zr (Zo (.mv 2 (.c (.bool false))) .nil) .ret) .skip)<|Zr (Zm 35 3<|Zk 36 .gtr 35 0<|Zm 37 36<|Zg 37 true (.mv 38 (.t 0))<|Zg 37 true (.mv 39 (.t 3))<|Zg 37 true (.bin 40 .sub false (.t 39) (.c (Zz 1)))<|Zg 37 true (.idx 41 4 (.t 38) (.t 40))<|Zg 37 true (.cE 42 3 (.t 41))<|Zg 37 true (.ld 43 1 false (.t 42))<|Zg 37 true (.mv 44 (.t 0))<|Zg 37 true (.mv 45 (.t 3))<|Zg 37 true (.idx 46 4 (.t 44) (.t 45))<|Zg 37 true (.cE 47 3 (.t 46))<|Zg 37 true (.ld 48 1 false (.t 47))<|Zg 37 true (.call (some 49) false (.c (.fn 54 [] [])) [.t 43,.t 48,.c (Zz 0)])<|Zg 37 true (.bin 50 .leq false (.t 49) (.c (Zz 0)))<|Zo (.pick 51 (.t 37) (.t 50) (.c (.bool false))) .nil)<| .cond (.t 51) (Zr (Zo (.mv 2 (.c (.bool false))) .nil) .ret) .skip)<| .rg (Zm 8 3<|Zk 9 .add 8 1<|Zm 3 9 .nil))<|Zr (Zo (.mv 2 (.c (.bool true))) .nil) .ret⟩
theorem aja:Qe Tryz.prog Tryz.f39=some KF:=by kernel_rfl
def Lb:aA:=⟨35,[.t 4],Zr (Zo (.box 3 3 43 (.t 1))<|Zo (.mv 4 (.c .aa)) .nil)<|Zr (Zo (.mv 5 (.c .aa)) .nil)<| .seq (Zr (Zc 6 0 .nil)<| .block 0<| .loop<| .seq (Zr (Zm 7 6<|Zm 8 0<|Zn 9 8<|Zb 10 .lss 7 9<|Zm 11 10<|Zg 11 true (.ld 12 3 true (.t 3))<|Zg 11 true (.call (some 13) false (.c (.fn 56 [] [])) [.t 12])<|Zg 11 true (.bin 14 .neq false (.t 13) (.c (Zz 0)))<|Zo (.pick 15 (.t 11) (.t 14) (.c (.bool false))) .nil)<| .cond (.t 15) .skip (.exit 0))<| .seq (.block 1<| .rg (Zm 18 5<|Zm 19 0<|Zm 20 6<|Zi 21 4 19 20<|Zf 22 0 21<|Zh 23 3 22<|Zh 24 3 3<|Zm 26 0<|Zm 27 6<|Zi 28 4 26 27<|Zf 29 3 28<|Zl 30 1 29<|Zq 25 true 116 [.t 23,.t 24]<|Zo (.bU 31 [.bool false,.aa,.aa,.aa] [(0,3,.t 25),(3,1,.t 30)])<|Zo (.bs 32 4 54 [.t 31])<|Zo (.app 33 4 80 54 (.t 18) (.t 32))<|Zm 5 33 .nil))<| .rg (Zm 16 6<|Zk 17 .add 16 1<|Zm 6 17 .nil))<|Zr (Zm 34 5<|Zm 4 34 .nil) .ret⟩
theorem ajb:Qe Tryz.prog Tryz.f71=some Lb:=by kernel_rfl
def Kj:aA:=⟨72,[.t 8],Zr (Zo (.mv 8 (.c (.bool false))) .nil)<| .seq (Zr (Zm 11 0<|Zn 12 11<|Zm 13 1<|Zb 14 .gtr 12 13 .nil)<| .cond (.t 14) (Zr (Zo (.mv 8 (.c (.bool false))) .nil) .ret) .skip)<| .seq (Zr (Zc 9 0 .nil)<| .block 0<| .loop<| .seq (Zr (Zm 15 9<|Zm 16 0<|Zn 17 16<|Zb 18 .lss 15 17 .nil)<| .cond (.t 18) .skip (.exit 0))<| .seq (.block 1<| .seq (Zr (Zm 21 0<|Zm 22 9<|Zi 23 4 21 22<|Zf 24 3 23<|Zl 25 1 24<|Zn 26 25<|Zm 27 2<|Zb 28 .gtr 26 27<|Zm 29 28<|Zg 29 false (.mv 30 (.t 0))<|Zg 29 false (.mv 31 (.t 9))<|Zg 29 false (.idx 32 4 (.t 30) (.t 31))<|Zg 29 false (.cE 33 0 (.t 32))<|Zg 29 false (.cE 34 0 (.t 33))<|Zg 29 false (.cE 35 1 (.t 34))<|Zg 29 false (.ld 36 1 false (.t 35))<|Zg 29 false (.len 37 (.t 36))<|Zg 29 false (.bin 38 .gtr false (.t 37) (.c (Zz 4)))<|Zo (.pick 39 (.t 29) (.c (.bool true)) (.t 38))<|Zm 40 39<|Zg 40 false (.mv 41 (.t 0))<|Zg 40 false (.mv 42 (.t 9))<|Zg 40 false (.idx 43 4 (.t 41) (.t 42))<|Zg 40 false (.cE 44 0 (.t 43))<|Zg 40 false (.cE 45 2 (.t 44))<|Zg 40 false (.ld 46 1 false (.t 45))<|Zg 40 false (.len 47 (.t 46))<|Zg 40 false (.bin 48 .gtr false (.t 47) (.c (Zz 4)))<|Zo (.pick 49 (.t 40) (.c (.bool true)) (.t 48)) .nil)<| .cond (.t 49) (Zr (Zo (.mv 8 (.c (.bool false))) .nil) .ret) .skip)<|Zr (Zc 10 0 .nil)<| .block 2<| .loop<| .seq (Zr (Zm 50 10<|Zm 51 0<|Zm 52 9<|Zi 53 4 51 52<|Zf 54 3 53<|Zl 55 1 54<|Zn 56 55<|Zb 57 .lss 50 56 .nil)<| .cond (.t 57) .skip (.exit 2))<| .seq (.block 3<|Zr (Zm 60 0<|Zm 61 9<|Zi 62 4 60 61<|Zf 63 3 62<|Zl 64 1 63<|Zm 65 10<|Zi 66 1 64 65<|Zl 67 1 66<|Zm 68 3<|Zb 69 .gtr 67 68 .nil)<| .cond (.t 69) (Zr (Zo (.mv 8 (.c (.bool false))) .nil) .ret) .skip)<| .rg (Zm 58 10<|Zk 59 .add 58 1<|Zm 10 59 .nil))<| .rg (Zm 19 9<|Zk 20 .add 19 1<|Zm 9 20 .nil))<|Zr (Zm 70 0<|Zq 71 false 39 [.t 70]<|Zm 8 71 .nil) .ret⟩
theorem ajc:Qe Tryz.prog Tryz.f18=some Kj:=by kernel_rfl
def Kq:aA:=⟨9,[.t 4],Zr (Zo (.mv 4 (.c .aa)) .nil)<|Zr (Zm 5 0<|Zm 6 1<|Zq 7 false 53 [.t 6]<|Zq 8 false 22 [.t 5,.t 7]<|Zm 4 8 .nil) .ret⟩
theorem aiD:Qe Tryz.prog Tryz.f21=some Kq:=by kernel_rfl
def KS:aA:=⟨88,[.t 6],Zr (Zo (.box 4 3 43 (.t 1))<|Zo (.mv 6 (.c .aa)) .nil)<|Zr (Zm 10 0<|Zn 11 10<|Zm 7 11 .nil)<| .seq (.block 0<| .loop<| .seq (Zr (Zm 12 7<|Zk 13 .gtr 12 0<|Zm 14 13<|Zg 14 true (.mv 15 (.t 0))<|Zg 14 true (.mv 16 (.t 7))<|Zg 14 true (.bin 17 .sub false (.t 16) (.c (Zz 1)))<|Zg 14 true (.idx 18 4 (.t 15) (.t 17))<|Zg 14 true (.cE 19 3 (.t 18))<|Zg 14 true (.ld 20 1 false (.t 19))<|Zg 14 true (.mv 21 (.t 2))<|Zg 14 true (.call (some 22) false (.c (.fn 54 [] [])) [.t 20,.t 21,.c (Zz 0)])<|Zg 14 true (.bin 23 .lss false (.t 22) (.c (Zz 0)))<|Zo (.pick 24 (.t 14) (.t 23) (.c (.bool false))) .nil)<| .cond (.t 24) .skip (.exit 0))<| .block 1<| .rg (Zm 25 7<|Zk 26 .sub 25 1<|Zm 7 26 .nil))<|Zr (Zo (.mv 8 (.c .aa)) .nil)<| .seq (Zr (Zm 27 7<|Zk 28 .gtr 27 0<|Zm 29 28<|Zg 29 true (.mv 30 (.t 0))<|Zg 29 true (.mv 31 (.t 7))<|Zg 29 true (.bin 32 .sub false (.t 31) (.c (Zz 1)))<|Zg 29 true (.idx 33 4 (.t 30) (.t 32))<|Zg 29 true (.cE 34 3 (.t 33))<|Zg 29 true (.ld 35 1 false (.t 34))<|Zg 29 true (.mv 36 (.t 2))<|Zg 29 true (.call (some 37) false (.c (.fn 54 [] [])) [.t 35,.t 36,.c (Zz 0)])<|Zg 29 true (.bin 38 .eql false (.t 37) (.c (Zz 0)))<|Zo (.pick 39 (.t 29) (.t 38) (.c (.bool false))) .nil)<| .cond (.t 39) (Zr (Zm 40 8<|Zm 41 0<|Zm 42 7<|Zk 43 .sub 42 1<|Zo (.sl 44 4 (.t 41) none (some (.t 43)) none)<|Zo (.app 45 4 80 54 (.t 40) (.t 44))<|Zm 8 45 .nil)<| .seq (Zr (Zm 46 0<|Zm 47 7<|Zk 48 .sub 47 1<|Zi 49 4 46 48<|Zf 50 0 49<|Zh 51 3 50<|Zh 52 3 4<| .br (Zq 53 true 55 [.t 51,.t 52]<|Zo (.alloc 9 3 43 (.agg [.bool false,.aa,.aa]))<|Zs 3 9 53 .nil) (Zo (.alloc 9 3 43 (.agg [.bool false,.aa,.aa]))<|Zq 53 true 55 [.t 51,.t 52]<|Zs 3 9 53 .nil))<|Zr (Zh 54 3 9<|Zq 55 false 56 [.t 54]<|Zk 56 .neq 55 0 .nil)<| .cond (.t 56) (.rg (Zm 57 8<|Zh 58 3 9<|Zm 59 2<|Zo (.bU 60 [.bool false,.aa,.aa,.aa] [(0,3,.t 58),(3,1,.t 59)])<|Zo (.bs 61 4 54 [.t 60])<|Zo (.app 62 4 80 54 (.t 57) (.t 61))<|Zm 8 62 .nil)) .skip)<|Zr (Zm 63 8<|Zm 64 0<|Zm 65 7<|Zo (.sl 66 4 (.t 64) (some (.t 65)) none none)<|Zo (.app 67 4 80 54 (.t 63) (.t 66))<|Zm 6 67 .nil) .ret) .skip)<|Zr (Zm 68 8<|Zm 69 0<|Zm 70 7<|Zo (.sl 71 4 (.t 69) none (some (.t 70)) none)<|Zo (.app 72 4 80 54 (.t 68) (.t 71))<|Zm 8 72 .nil)<| .seq (Zr (Zh 73 3 4<|Zq 74 false 56 [.t 73]<|Zk 75 .neq 74 0 .nil)<| .cond (.t 75) (.rg (Zm 76 8<|Zh 77 3 4<|Zq 78 false 97 [.t 77]<|Zm 79 2<|Zo (.bU 80 [.bool false,.aa,.aa,.aa] [(0,3,.t 78),(3,1,.t 79)])<|Zo (.bs 81 4 54 [.t 80])<|Zo (.app 82 4 80 54 (.t 76) (.t 81))<|Zm 8 82 .nil)) .skip)<|Zr (Zm 83 8<|Zm 84 0<|Zm 85 7<|Zo (.sl 86 4 (.t 84) (some (.t 85)) none none)<|Zo (.app 87 4 80 54 (.t 83) (.t 86))<|Zm 6 87 .nil) .ret⟩
theorem aiE:Qe Tryz.prog Tryz.f52=some KS:=by kernel_rfl
def K5:aA:=⟨34,[.t 4],Zr (Zo (.box 3 4 54 (.t 1))<|Zo (.mv 4 (.c .aa)) .nil)<|Zr (Zo (.mv 5 (.c .aa)) .nil)<| .seq (Zr (Zc 6 0 .nil)<| .block 0<| .loop<| .seq (Zr (Zm 7 6<|Zm 8 0<|Zn 9 8<|Zb 10 .lss 7 9 .nil)<| .cond (.t 10) .skip (.exit 0))<| .seq (.block 1<| .rg (Zm 13 5<|Zm 14 0<|Zm 15 6<|Zi 16 4 14 15<|Zf 17 0 16<|Zh 18 3 17<|Zf 19 0 3<|Zh 20 3 19<|Zm 22 0<|Zm 23 6<|Zi 24 4 22 23<|Zf 25 3 24<|Zl 26 1 25<|Zf 27 3 3<|Zl 28 1 27<|Zq 21 true 116 [.t 18,.t 20]<|Zq 29 true 117 [.t 26,.t 28]<|Zo (.bU 30 [.bool false,.aa,.aa,.aa] [(0,3,.t 21),(3,1,.t 29)])<|Zo (.bs 31 4 54 [.t 30])<|Zo (.app 32 4 80 54 (.t 13) (.t 31))<|Zm 5 32 .nil))<| .rg (Zm 11 6<|Zk 12 .add 11 1<|Zm 6 12 .nil))<|Zr (Zm 33 5<|Zm 4 33 .nil) .ret⟩
theorem aiF:Qe Tryz.prog Tryz.f62=some K5:=by kernel_rfl
def Km:aA:=⟨20,[.t 4],Zr (Zo (.mv 4 (.c (.bool false))) .nil)<| .seq (Zr (Zc 5 0 .nil)<| .block 0<| .loop<| .seq (Zr (Zm 6 5<|Zm 7 0<|Zn 8 7<|Zb 9 .lss 6 8 .nil)<| .cond (.t 9) .skip (.exit 0))<| .seq (.block 1<|Zr (Zm 12 0<|Zm 13 5<|Zi 14 1 12 13<|Zl 15 1 14<|Zm 16 1<|Zm 17 5<|Zq 18 true 99 [.t 16,.t 17]<|Zb 19 .neq 15 18 .nil)<| .cond (.t 19) (Zr (Zo (.mv 4 (.c (.bool false))) .nil) .ret) .skip)<| .rg (Zm 10 5<|Zk 11 .add 10 1<|Zm 5 11 .nil))<|Zr (Zo (.mv 4 (.c (.bool true))) .nil) .ret⟩
theorem age:Qe Tryz.prog Tryz.f182=some Km:=by kernel_rfl
def I2:aA:=⟨27,[.t 2],Zr (Zo (.mv 2 (.c (.bool false))) .nil)<| .seq (Zr (Zm 7 0<|Zn 8 7<|Zk 9 .gtr 8 4000 .nil)<| .cond (.t 9) (Zr (Zo (.mv 2 (.c (.bool true))) .nil) .ret) .skip)<| .seq (Zr (Zm 10 0<|Zn 11 10<|Zc 12 0 .nil)<| .block 0<| .loop<|Zr (Zb 13 .lss 12 11 .nil)<| .seq (.cond (.t 13) .skip (.exit 0))<| .seq (.block 1<|Zr (Zi 14 4 10 12<|Zh 15 4 14<|Zo (.alloc 4 4 54 (.agg [.bool false,.aa,.aa,.aa]))<|Zs 4 4 15 .nil)<|Zr (Zf 16 3 4<|Zl 17 1 16<|Zn 18 17<|Zc 19 0 .nil)<| .block 2<| .loop<|Zr (Zb 20 .lss 19 18 .nil)<| .seq (.cond (.t 20) .skip (.exit 2))<| .seq (.block 3<|Zr (Zi 21 1 17 19<|Zl 22 1 21<|Zm 6 22 .nil)<|Zr (Zm 23 6<|Zk 24 .gtr 23 1048576 .nil)<| .cond (.t 24) (Zr (Zo (.mv 2 (.c (.bool true))) .nil) .ret) .skip)<| .rg (Zk 25 .add 19 1<|Zm 19 25 .nil))<| .rg (Zk 26 .add 12 1<|Zm 12 26 .nil))<|Zr (Zo (.mv 2 (.c (.bool false))) .nil) .ret⟩
theorem agf:Qe Tryz.prog Tryz.f105=some I2:=by kernel_rfl
def KH:aA:=⟨19,[.t 2],Zr (Zc 2 0 .nil)<|Zr (Zc 3 (-1) .nil)<| .seq (Zr (Zm 6 0<|Zn 7 6<|Zc 8 0 .nil)<| .block 0<| .loop<|Zr (Zb 9 .lss 8 7 .nil)<| .seq (.cond (.t 9) .skip (.exit 0))<| .seq (.block 1<|Zr (Zi 10 4 6 8<|Zh 11 4 10<|Zo (.alloc 5 4 54 (.agg [.bool false,.aa,.aa,.aa]))<|Zs 4 5 11 .nil)<| .rg (Zm 12 3<|Zf 13 3 5<|Zl 14 1 13<|Zq 15 false 45 [.t 14]<|Zo (.mx 16 (.t 12) (.t 15))<|Zm 3 16 .nil))<| .rg (Zk 17 .add 8 1<|Zm 8 17 .nil))<|Zr (Zm 18 3<|Zm 2 18 .nil) .ret⟩
theorem aiG:Qe Tryz.prog Tryz.f41=some KH:=by kernel_rfl
def K9:aA:=⟨22,[.t 4],Zr (Zc 4 0 .nil)<|Zr (Zc 5 (-1) .nil)<| .seq (Zr (Zm 8 0<|Zn 9 8<|Zc 10 0 .nil)<| .block 0<| .loop<|Zr (Zb 11 .lss 10 9 .nil)<| .seq (.cond (.t 11) .skip (.exit 0))<| .seq (.block 1<|Zr (Zi 12 4 8 10<|Zh 13 4 12<|Zo (.alloc 7 4 54 (.agg [.bool false,.aa,.aa,.aa]))<|Zs 4 7 13 .nil)<| .rg (Zm 14 5<|Zf 15 3 7<|Zl 16 1 15<|Zm 17 1<|Zq 18 false 124 [.t 16,.t 17]<|Zo (.mx 19 (.t 14) (.t 18))<|Zm 5 19 .nil))<| .rg (Zk 20 .add 10 1<|Zm 10 20 .nil))<|Zr (Zm 21 5<|Zm 4 21 .nil) .ret⟩
theorem aiH:Qe Tryz.prog Tryz.f67=some K9:=by kernel_rfl
def JO:aA:=⟨35,[.t 4],Zr (Zo (.mv 4 (.c .aa)) .nil)<| .seq (Zr (Zm 7 0<|Zm 8 1<|Zq 9 false 124 [.t 7,.t 8]<|Zk 10 .eql 9 0 .nil)<| .cond (.t 10) (Zr (Zm 11 0<|Zm 4 11 .nil) .ret) .skip)<|Zr (Zm 12 0<|Zo (.app 13 1 8 3 (.c .aa) (.t 12))<|Zm 5 13 .nil)<|Zr (Zm 14 5<|Zm 15 1<|Zi 16 1 14 15<|Zo (.st 1 (.t 16) (.c (Zz 0))) .nil)<|Zr (Zm 17 5<|Zn 18 17<|Zm 6 18 .nil)<| .seq (.block 0<| .loop<| .seq (Zr (Zm 19 6<|Zk 20 .gtr 19 0<|Zm 21 20<|Zg 21 true (.mv 22 (.t 5))<|Zg 21 true (.mv 23 (.t 6))<|Zg 21 true (.bin 24 .sub false (.t 23) (.c (Zz 1)))<|Zg 21 true (.idx 25 1 (.t 22) (.t 24))<|Zg 21 true (.ld 26 1 false (.t 25))<|Zg 21 true (.bin 27 .eql false (.t 26) (.c (Zz 0)))<|Zo (.pick 28 (.t 21) (.t 27) (.c (.bool false))) .nil)<| .cond (.t 28) .skip (.exit 0))<| .block 1<| .rg (Zm 29 6<|Zk 30 .sub 29 1<|Zm 6 30 .nil))<|Zr (Zm 31 5<|Zm 32 6<|Zm 33 6<|Zo (.sl 34 1 (.t 31) none (some (.t 32)) (some (.t 33)))<|Zm 4 34 .nil) .ret⟩
theorem agh:Qe Tryz.prog Tryz.f154=some JO:=by kernel_rfl
def I3:aA:=⟨34,[.t 6],Zr (Zo (.mv 6 (.c .aa)) .nil)<|Zr (Zo (.mv 7 (.c .aa)) .nil)<| .seq (Zr (Zm 10 0<|Zn 11 10<|Zc 12 0 .nil)<| .block 0<| .loop<|Zr (Zb 13 .lss 12 11 .nil)<| .seq (.cond (.t 13) .skip (.exit 0))<| .seq (.block 1<|Zr (Zi 14 4 10 12<|Zh 15 4 14<|Zo (.alloc 9 4 54 (.agg [.bool false,.aa,.aa,.aa]))<|Zs 4 9 15 .nil)<|Zr (Zf 16 3 9<|Zl 17 1 16<|Zm 18 1<|Zq 19 false 124 [.t 17,.t 18]<|Zm 20 2<|Zb 21 .eql 19 20 .nil)<| .cond (.t 21) (.rg (Zm 22 7<|Zf 23 0 9<|Zh 24 3 23<|Zf 25 3 9<|Zl 26 1 25<|Zm 27 1<|Zq 28 true 154 [.t 26,.t 27]<|Zo (.bU 29 [.bool false,.aa,.aa,.aa] [(0,3,.t 24),(3,1,.t 28)])<|Zo (.bs 30 4 54 [.t 29])<|Zo (.app 31 4 80 54 (.t 22) (.t 30))<|Zm 7 31 .nil)) .skip)<| .rg (Zk 32 .add 12 1<|Zm 12 32 .nil))<|Zr (Zm 33 7<|Zm 6 33 .nil) .ret⟩
theorem agi:Qe Tryz.prog Tryz.f106=some I3:=by kernel_rfl
def I4:aA:=⟨32,[.t 6],Zr (Zo (.mv 6 (.c .aa)) .nil)<| .seq (Zr (Zm 8 1<|Zk 9 .lss 8 0<|Zm 10 9<|Zg 10 false (.mv 11 (.t 1))<|Zg 10 false (.bin 12 .geq false (.t 11) (.c (Zz 64)))<|Zo (.pick 13 (.t 10) (.c (.bool true)) (.t 12))<|Zm 14 13<|Zg 14 false (.mv 15 (.t 2))<|Zg 14 false (.bin 16 .leq false (.t 15) (.c (Zz 0)))<|Zo (.pick 17 (.t 14) (.c (.bool true)) (.t 16)) .nil)<| .cond (.t 17) (Zr (Zm 18 0<|Zm 6 18 .nil) .ret) .skip)<|Zr (Zm 19 1<|Zk 20 .add 19 1<|Zo (.mk 21 1 8 3 (Zz 0) (.t 20) (.t 20))<|Zm 7 21 .nil)<|Zr (Zm 22 7<|Zm 23 1<|Zm 24 2<|Zi 25 1 22 23<|Zs 1 25 24 .nil)<|Zr (Zm 26 0<|Zq 27 false 26 [.c (Zz 1)]<|Zm 28 7<|Zo (.bU 29 [.bool false,.aa,.aa,.aa] [(0,3,.t 27),(3,1,.t 28)])<|Zo (.bs 30 4 54 [.t 29])<|Zq 31 false 60 [.t 26,.t 30]<|Zm 6 31 .nil) .ret⟩
theorem agj:Qe Tryz.prog Tryz.f107=some I4:=by kernel_rfl
def KZ:aA:=⟨15,[.t 2],Zr (Zo (.mv 2 (.c .aa)) .nil)<|Zr (Zm 4 0<|Zq 5 false 41 [.t 4]<|Zm 3 5 .nil)<| .seq (Zr (Zm 6 3<|Zk 7 .lss 6 0 .nil)<| .cond (.t 7) (Zr (Zm 8 0<|Zm 2 8 .nil) .ret) .skip)<|Zr (Zm 9 0<|Zm 10 3<|Zm 11 0<|Zm 12 3<|Zq 13 false 67 [.t 11,.t 12]<|Zq 14 false 106 [.t 9,.t 10,.t 13]<|Zm 2 14 .nil) .ret⟩
theorem aiI:Qe Tryz.prog Tryz.f59=some KZ:=by kernel_rfl
def KX:aA:=⟨93,[.t 6,.t 7,.t 8,.t 9],Zr (Zo (.mv 6 (.c .aa))<|Zo (.mv 7 (.c .aa))<|Zc 8 0<|Zc 9 0 .nil)<| .seq (.block 0<|Zr (Zm 15 2<|Zk 16 .lss 15 0<|Zm 17 16<|Zg 17 false (.mv 18 (.t 2))<|Zg 17 false (.bin 19 .geq false (.t 18) (.c (Zz 64)))<|Zo (.pick 20 (.t 17) (.c (.bool true)) (.t 19))<|Zm 14 20 .nil)<| .cond (.t 14) (Zr (Zo (.mv 6 (.c .aa))<|Zo (.mv 7 (.c .aa))<|Zc 8 0<|Zc 9 2 .nil) .ret) (Zr (Zm 22 1<|Zn 23 22<|Zk 24 .eql 23 0<|Zm 21 24 .nil)<| .cond (.t 21) (Zr (Zo (.mv 6 (.c .aa))<|Zo (.mv 7 (.c .aa))<|Zc 8 0<|Zc 9 3 .nil) .ret) (Zr (Zm 26 0<|Zq 27 false 105 [.t 26]<|Zm 25 27 .nil)<| .cond (.t 25) (Zr (Zo (.mv 6 (.c .aa))<|Zo (.mv 7 (.c .aa))<|Zc 8 0<|Zc 9 4 .nil) .ret) .skip)))<|Zr (Zm 28 1<|Zm 29 2<|Zq 30 false 67 [.t 28,.t 29]<|Zm 10 30 .nil)<|Zr (Zm 31 1<|Zm 32 2<|Zm 33 10<|Zq 34 false 106 [.t 31,.t 32,.t 33]<|Zm 11 34 .nil)<|Zr (Zm 35 0<|Zm 7 35 .nil)<| .seq (.block 1<| .loop<| .seq (Zr (Zm 36 7<|Zn 37 36<|Zk 38 .gtr 37 0<|Zm 39 38<|Zg 39 true (.mv 40 (.t 7))<|Zg 39 true (.mv 41 (.t 2))<|Zg 39 true (.call (some 42) false (.c (.fn 67 [] [])) [.t 40,.t 41])<|Zg 39 true (.mv 43 (.t 10))<|Zg 39 true (.bin 44 .geq false (.t 42) (.t 43))<|Zo (.pick 45 (.t 39) (.t 44) (.c (.bool false))) .nil)<| .cond (.t 45) .skip (.exit 1))<| .block 2<|Zr (Zm 46 7<|Zm 47 2<|Zq 48 false 67 [.t 46,.t 47]<|Zm 12 48 .nil)<|Zr (Zm 49 7<|Zm 50 2<|Zm 51 12<|Zq 52 false 106 [.t 49,.t 50,.t 51]<|Zm 53 2<|Zm 54 12<|Zm 55 10<|Zb 56 .sub 54 55<|Zq 57 false 107 [.t 52,.t 53,.t 56]<|Zm 13 57 .nil)<|Zr (Zm 58 11<|Zm 59 6<|Zq 60 false 60 [.t 58,.t 59]<|Zm 61 13<|Zq 62 false 108 [.t 60,.t 61]<|Zm 6 62 .nil)<|Zr (Zm 63 11<|Zm 64 7<|Zq 65 false 60 [.t 63,.t 64]<|Zm 66 13<|Zm 67 1<|Zq 68 false 60 [.t 66,.t 67]<|Zq 69 false 109 [.t 65,.t 68]<|Zm 7 69 .nil)<|Zr (Zm 70 8<|Zk 71 .add 70 1<|Zm 8 71 .nil)<|Zr (Zm 72 6<|Zq 73 false 105 [.t 72]<|Zm 74 73<|Zg 74 false (.mv 75 (.t 7))<|Zg 74 false (.call (some 76) false (.c (.fn 105 [] [])) [.t 75])<|Zo (.pick 77 (.t 74) (.c (.bool true)) (.t 76))<|Zm 78 77<|Zg 78 false (.mv 79 (.t 7))<|Zg 78 false (.mv 80 (.t 2))<|Zg 78 false (.call (some 81) false (.c (.fn 67 [] [])) [.t 79,.t 80])<|Zg 78 false (.mv 82 (.t 12))<|Zg 78 false (.bin 83 .geq false (.t 81) (.t 82))<|Zg 78 false (.mv 84 (.t 83))<|Zg 84 true (.mv 85 (.t 7))<|Zg 84 true (.len 86 (.t 85))<|Zg 84 true (.bin 87 .gtr false (.t 86) (.c (Zz 0)))<|Zg 78 false (.pick 88 (.t 84) (.t 87) (.c (.bool false)))<|Zo (.pick 89 (.t 78) (.c (.bool true)) (.t 88)) .nil)<| .cond (.t 89) (Zr (Zo (.mv 6 (.c .aa))<|Zo (.mv 7 (.c .aa))<|Zc 8 0<|Zc 9 4 .nil) .ret) .skip)<|Zr (Zm 90 6<|Zm 91 7<|Zm 92 8<|Zm 6 90<|Zm 7 91<|Zm 8 92<|Zc 9 0 .nil) .ret⟩
theorem aiJ:Qe Tryz.prog Tryz.f57=some KX:=by kernel_rfl
def y5:aA:=⟨67,[.t 2,.cell 3 3 true],Zr (Zo (.mv 2 (.c .aa))<|Zo (.alloc 3 3 43 (.agg [.bool false,.aa,.aa])) .nil)<| .seq (Zr (Zm 14 0<|Zn 15 14<|Zk 16 .eql 15 0 .nil)<| .cond (.t 16) (Zr (Zq 17 false 26 [.c (Zz 1)]<|Zo (.mv 2 (.c .aa))<|Zs 3 3 17 .nil) .ret) .skip)<|Zr (Zo (.mv 4 (.c .aa)) .nil)<|Zr (Zq 18 false 88 [.c (.int .u64 1)]<|Zm 5 18 .nil)<| .seq (Zr (Zm 19 0<|Zn 20 19<|Zc 21 0 .nil)<| .block 0<| .loop<|Zr (Zb 22 .lss 21 20 .nil)<| .seq (.cond (.t 22) .skip (.exit 0))<| .seq (.block 1<|Zr (Zi 23 4 19 21<|Zh 24 4 23<|Zo (.alloc 7 4 54 (.agg [.bool false,.aa,.aa,.aa]))<|Zs 4 7 24 .nil)<|Zr (Zm 25 4<|Zf 26 0 7<|Zf 27 0 26<|Zf 28 1 27<|Zl 29 1 28<|Zq 30 false 44 [.t 25,.t 29]<|Zm 4 30 .nil)<|Zr (Zm 31 5<|Zf 32 0 7<|Zf 33 2 32<|Zl 34 1 33<|Zq 35 false 44 [.t 31,.t 34]<|Zm 8 35 .nil)<|Zr (Zf 37 0 7<|Zf 38 2 37<|Zl 39 1 38<|Zm 40 8<|Zq 41 false 89 [.t 39,.t 40]<|Zm 36 41<|Zo (.ext 42 (.t 36) 0)<|Zo (.ext 43 (.t 36) 1)<|Zo (.ext 44 (.t 36) 2)<|Zm 9 42<|Zm 10 43<|Zm 11 44 .nil)<| .rg (Zm 45 5<|Zm 46 9<|Zq 47 false 93 [.t 45,.t 46]<|Zm 5 47 .nil))<| .rg (Zk 48 .add 21 1<|Zm 21 48 .nil))<|Zr (Zm 50 0<|Zo (.idx 51 4 (.t 50) (.c (Zz 0)))<|Zf 52 0 51<|Zh 53 3 52<|Zq 54 false 17 [.t 53]<|Zk 55 .lss 54 0<|Zm 56 5<|Zo (.bU 57 [.bool false,.aa] [(0,1,.t 55),(1,1,.t 56)])<|Zm 58 4<|Zo (.bU 59 [.bool false,.aa] [(1,1,.t 58)])<|Zq 60 false 161 [.t 57,.t 59]<|Zm 49 60<|Zo (.ext 61 (.t 49) 0)<|Zo (.ext 62 (.t 49) 1)<|Zo (.alloc 12 3 43 (.agg [.bool false,.aa,.aa]))<|Zs 3 12 61<|Zm 13 62 .nil)<|Zr (Zm 63 0<|Zh 64 3 12<|Zh 66 3 12<|Zq 65 true 121 [.t 63,.t 64]<|Zm 2 65<|Zs 3 3 66 .nil) .ret⟩
theorem O9:Qe Tryz.prog Tryz.f120=some y5:=by kernel_rfl
def AD:aA:=⟨11,[.t 2],Zr (Zc 2 0 .nil)<| .seq (Zr (Zm 3 0<|Zn 4 3<|Zk 5 .eql 4 0 .nil)<| .cond (.t 5) (Zr (Zc 2 (-1) .nil) .ret) .skip)<|Zr (Zm 6 0<|Zo (.idx 7 4 (.t 6) (.c (Zz 0)))<|Zf 8 3 7<|Zl 9 1 8<|Zq 10 false 77 [.t 9]<|Zm 2 10 .nil) .ret⟩
theorem QK:Qe Tryz.prog Tryz.f35=some AD:=by kernel_rfl
def Lg:aA:=⟨23,[.t 4],Zr (Zc 4 0 .nil)<|Zr (Zc 5 (-1) .nil)<| .seq (Zr (Zc 6 0 .nil)<| .block 0<| .loop<| .seq (Zr (Zm 7 6<|Zm 8 0<|Zn 9 8<|Zb 10 .lss 7 9 .nil)<| .cond (.t 10) .skip (.exit 0))<| .seq (.block 1<| .rg (Zm 13 5<|Zm 14 0<|Zm 15 6<|Zi 16 4 14 15<|Zf 17 3 16<|Zl 18 1 17<|Zm 19 1<|Zq 20 false 99 [.t 18,.t 19]<|Zo (.mx 21 (.t 13) (.t 20))<|Zm 5 21 .nil))<| .rg (Zm 11 6<|Zk 12 .add 11 1<|Zm 6 12 .nil))<|Zr (Zm 22 5<|Zm 4 22 .nil) .ret⟩
theorem aiK:Qe Tryz.prog Tryz.f76=some Lg:=by kernel_rfl
def Jx:aA:=⟨42,[.t 6],Zr (Zo (.mv 6 (.c .aa)) .nil)<|Zr (Zo (.mv 7 (.c .aa)) .nil)<| .seq (Zr (Zc 8 0 .nil)<| .block 0<| .loop<| .seq (Zr (Zm 9 8<|Zm 10 0<|Zn 11 10<|Zb 12 .lss 9 11 .nil)<| .cond (.t 12) .skip (.exit 0))<| .seq (.block 1<|Zr (Zm 15 0<|Zm 16 8<|Zi 17 4 15 16<|Zf 18 3 17<|Zl 19 1 18<|Zm 20 1<|Zq 21 false 99 [.t 19,.t 20]<|Zm 22 2<|Zb 23 .eql 21 22 .nil)<| .cond (.t 23) (.rg (Zm 24 7<|Zm 25 0<|Zm 26 8<|Zi 27 4 25 26<|Zf 28 0 27<|Zh 29 3 28<|Zm 30 0<|Zm 31 8<|Zi 32 4 30 31<|Zf 33 3 32<|Zl 34 1 33<|Zm 35 1<|Zq 36 true 167 [.t 34,.t 35]<|Zo (.bU 37 [.bool false,.aa,.aa,.aa] [(0,3,.t 29),(3,1,.t 36)])<|Zo (.bs 38 4 54 [.t 37])<|Zo (.app 39 4 80 54 (.t 24) (.t 38))<|Zm 7 39 .nil)) .skip)<| .rg (Zm 13 8<|Zk 14 .add 13 1<|Zm 8 14 .nil))<|Zr (Zm 40 7<|Zq 41 false 168 [.t 40]<|Zm 6 41 .nil) .ret⟩
theorem agk:Qe Tryz.prog Tryz.f136=some Jx:=by kernel_rfl
def J5:aA:=⟨28,[.t 4],Zr (Zo (.mv 4 (.c .aa)) .nil)<|Zr (Zo (.mv 5 (.c .aa)) .nil)<| .seq (Zr (Zc 6 0 .nil)<| .block 0<| .loop<| .seq (Zr (Zm 7 6<|Zm 8 0<|Zn 9 8<|Zb 10 .lss 7 9 .nil)<| .cond (.t 10) .skip (.exit 0))<| .seq (.block 1<|Zr (Zm 13 6<|Zm 14 1<|Zb 15 .eql 13 14 .nil)<| .cond (.t 15) (.rg (Zm 16 5<|Zo (.bs 17 1 3 [.c (Zz 0)])<|Zo (.app 18 1 8 3 (.t 16) (.t 17))<|Zm 5 18 .nil)) (.rg (Zm 19 5<|Zm 20 0<|Zm 21 6<|Zi 22 1 20 21<|Zl 23 1 22<|Zo (.bs 24 1 3 [.t 23])<|Zo (.app 25 1 8 3 (.t 19) (.t 24))<|Zm 5 25 .nil)))<| .rg (Zm 11 6<|Zk 12 .add 11 1<|Zm 6 12 .nil))<|Zr (Zm 26 5<|Zq 27 false 181 [.t 26]<|Zm 4 27 .nil) .ret⟩
theorem agl:Qe Tryz.prog Tryz.f167=some J5:=by kernel_rfl
def Jy:aA:=⟨26,[.t 4],Zr (Zo (.mv 4 (.c .aa)) .nil)<| .seq (Zr (Zm 6 1<|Zk 7 .eql 6 0<|Zm 8 7<|Zg 8 false (.mv 9 (.t 0))<|Zg 8 false (.bin 10 .lss false (.t 9) (.c (Zz 0)))<|Zo (.pick 11 (.t 8) (.c (.bool true)) (.t 10)) .nil)<| .cond (.t 11) (Zr (Zq 12 false 32 [.c (Zz 1)]<|Zq 13 false 25 [.t 12]<|Zm 4 13 .nil) .ret) .skip)<|Zr (Zm 14 0<|Zk 15 .add 14 1<|Zo (.mk 16 1 8 3 (Zz 0) (.t 15) (.t 15))<|Zm 5 16 .nil)<|Zr (Zm 17 5<|Zm 18 0<|Zm 19 1<|Zi 20 1 17 18<|Zs 1 20 19 .nil)<|Zr (Zq 21 false 32 [.c (Zz 1)]<|Zm 22 5<|Zo (.bU 23 [.bool false,.aa,.aa,.aa] [(0,3,.t 21),(3,1,.t 22)])<|Zo (.bs 24 4 54 [.t 23])<|Zq 25 false 168 [.t 24]<|Zm 4 25 .nil) .ret⟩
theorem agm:Qe Tryz.prog Tryz.f137=some Jy:=by kernel_rfl
def Ll:aA:=⟨15,[.t 2],Zr (Zo (.mv 2 (.c .aa)) .nil)<|Zr (Zm 4 0<|Zq 5 false 35 [.t 4]<|Zm 3 5 .nil)<| .seq (Zr (Zm 6 3<|Zk 7 .lss 6 0 .nil)<| .cond (.t 7) (Zr (Zm 8 0<|Zm 2 8 .nil) .ret) .skip)<|Zr (Zm 9 0<|Zm 10 3<|Zm 11 0<|Zm 12 3<|Zq 13 false 76 [.t 11,.t 12]<|Zq 14 false 136 [.t 9,.t 10,.t 13]<|Zm 2 14 .nil) .ret⟩
theorem aiL:Qe Tryz.prog Tryz.f80=some Ll:=by kernel_rfl
def Lj:aA:=⟨82,[.t 6,.t 7,.t 8,.t 9],Zr (Zo (.mv 6 (.c .aa))<|Zo (.mv 7 (.c .aa))<|Zc 8 0<|Zc 9 0 .nil)<| .seq (Zr (Zm 17 2<|Zk 18 .lss 17 0<|Zm 19 18<|Zg 19 false (.mv 20 (.t 2))<|Zg 19 false (.bin 21 .geq false (.t 20) (.c (Zz 64)))<|Zo (.pick 22 (.t 19) (.c (.bool true)) (.t 21)) .nil)<| .cond (.t 22) (Zr (Zo (.mv 6 (.c .aa))<|Zo (.mv 7 (.c .aa))<|Zc 8 0<|Zc 9 2 .nil) .ret) .skip)<| .seq (Zr (Zm 23 1<|Zn 24 23<|Zk 25 .eql 24 0 .nil)<| .cond (.t 25) (Zr (Zo (.mv 6 (.c .aa))<|Zo (.mv 7 (.c .aa))<|Zc 8 0<|Zc 9 3 .nil) .ret) .skip)<| .seq (Zr (Zm 26 0<|Zq 27 false 135 [.t 26] .nil)<| .cond (.t 27) (Zr (Zo (.mv 6 (.c .aa))<|Zo (.mv 7 (.c .aa))<|Zc 8 0<|Zc 9 4 .nil) .ret) .skip)<|Zr (Zm 28 1<|Zm 29 2<|Zq 30 false 76 [.t 28,.t 29]<|Zm 10 30 .nil)<|Zr (Zm 31 1<|Zm 32 2<|Zm 33 10<|Zq 34 false 136 [.t 31,.t 32,.t 33]<|Zm 11 34 .nil)<|Zr (Zo (.mv 12 (.c .aa)) .nil)<|Zr (Zm 35 0<|Zm 13 35 .nil)<|Zr (Zc 14 0 .nil)<| .seq (.block 0<| .loop<| .seq (Zr (Zm 36 13<|Zn 37 36<|Zk 38 .gtr 37 0<|Zm 39 38<|Zg 39 true (.mv 40 (.t 13))<|Zg 39 true (.mv 41 (.t 2))<|Zg 39 true (.call (some 42) false (.c (.fn 76 [] [])) [.t 40,.t 41])<|Zg 39 true (.mv 43 (.t 10))<|Zg 39 true (.bin 44 .geq false (.t 42) (.t 43))<|Zo (.pick 45 (.t 39) (.t 44) (.c (.bool false))) .nil)<| .cond (.t 45) .skip (.exit 0))<| .block 1<|Zr (Zm 46 13<|Zm 47 2<|Zq 48 false 76 [.t 46,.t 47]<|Zm 15 48 .nil)<|Zr (Zm 49 13<|Zm 50 2<|Zm 51 15<|Zq 52 false 136 [.t 49,.t 50,.t 51]<|Zm 53 2<|Zm 54 15<|Zm 55 10<|Zb 56 .sub 54 55<|Zq 57 false 137 [.t 53,.t 56]<|Zq 58 false 24 [.t 52,.t 57]<|Zm 16 58 .nil)<|Zr (Zm 59 11<|Zm 60 12<|Zq 61 false 24 [.t 59,.t 60]<|Zm 62 16<|Zq 63 false 22 [.t 61,.t 62]<|Zm 12 63 .nil)<|Zr (Zm 64 11<|Zm 65 13<|Zq 66 false 24 [.t 64,.t 65]<|Zm 67 16<|Zm 68 1<|Zq 69 false 24 [.t 67,.t 68]<|Zq 70 false 21 [.t 66,.t 69]<|Zm 13 70 .nil)<|Zr (Zm 71 14<|Zk 72 .add 71 1<|Zm 14 72 .nil)<|Zr (Zm 73 12<|Zq 74 false 135 [.t 73]<|Zm 75 74<|Zg 75 false (.mv 76 (.t 13))<|Zg 75 false (.call (some 77) false (.c (.fn 135 [] [])) [.t 76])<|Zo (.pick 78 (.t 75) (.c (.bool true)) (.t 77)) .nil)<| .cond (.t 78) (Zr (Zo (.mv 6 (.c .aa))<|Zo (.mv 7 (.c .aa))<|Zc 8 0<|Zc 9 4 .nil) .ret) .skip)<|Zr (Zm 79 12<|Zm 80 13<|Zm 81 14<|Zm 6 79<|Zm 7 80<|Zm 8 81<|Zc 9 0 .nil) .ret⟩
theorem aiM:Qe Tryz.prog Tryz.f78=some Lj:=by kernel_rfl
def AG:aA:=⟨94,[.t 2,.cell 3 3 true],Zr (Zo (.mv 2 (.c .aa))<|Zo (.alloc 3 3 43 (.agg [.bool false,.aa,.aa])) .nil)<| .seq (Zr (Zm 15 0<|Zn 16 15<|Zk 17 .eql 16 0 .nil)<| .cond (.t 17) (Zr (Zq 18 false 32 [.c (Zz 1)]<|Zo (.mv 2 (.c .aa))<|Zs 3 3 18 .nil) .ret) .skip)<|Zr (Zq 19 false 74 [.c (.int .u64 1)]<|Zq 20 false 74 [.c (.int .u64 0)]<|Zm 4 19<|Zm 5 20 .nil)<| .seq (Zr (Zc 6 0 .nil)<| .block 0<| .loop<| .seq (Zr (Zm 21 6<|Zm 22 0<|Zn 23 22<|Zb 24 .lss 21 23 .nil)<| .cond (.t 24) .skip (.exit 0))<| .seq (.block 1<|Zr (Zm 27 4<|Zm 28 0<|Zm 29 6<|Zi 30 4 28 29<|Zf 31 0 30<|Zf 32 2 31<|Zl 33 1 32<|Zq 34 false 128 [.t 27,.t 33]<|Zm 7 34 .nil)<|Zr (Zm 36 0<|Zm 37 6<|Zi 38 4 36 37<|Zf 39 0 38<|Zf 40 2 39<|Zl 41 1 40<|Zm 42 7<|Zq 43 false 129 [.t 41,.t 42]<|Zm 35 43<|Zo (.ext 44 (.t 35) 0)<|Zo (.ext 45 (.t 35) 1)<|Zo (.ext 46 (.t 35) 2)<|Zm 8 44<|Zm 9 45<|Zm 10 46 .nil)<| .rg (Zm 47 4<|Zm 48 8<|Zq 49 false 103 [.t 47,.t 48]<|Zm 4 49 .nil))<| .rg (Zm 25 6<|Zk 26 .add 25 1<|Zm 6 26 .nil))<| .seq (Zr (Zc 11 0 .nil)<| .block 2<| .loop<| .seq (Zr (Zm 50 11<|Zm 51 0<|Zn 52 51<|Zb 53 .lss 50 52 .nil)<| .cond (.t 53) .skip (.exit 2))<| .seq (.block 3<|Zr (Zm 56 0<|Zm 57 11<|Zi 58 4 56 57<|Zf 59 0 58<|Zh 60 3 59<|Zm 61 4<|Zo (.bU 62 [.bool false,.aa] [(1,1,.t 61)])<| .br (Zq 63 true 74 [.c (.int .u64 1)]<|Zo (.bU 64 [.bool false,.aa,.aa] [(0,2,.t 62),(2,1,.t 63)])<| .br (Zq 65 true 116 [.t 60,.t 64]<|Zo (.alloc 12 3 43 (.agg [.bool false,.aa,.aa]))<|Zs 3 12 65 .nil) (Zo (.alloc 12 3 43 (.agg [.bool false,.aa,.aa]))<|Zq 65 true 116 [.t 60,.t 64]<|Zs 3 12 65 .nil)) (Zo (.alloc 12 3 43 (.agg [.bool false,.aa,.aa]))<|Zq 63 true 74 [.c (.int .u64 1)]<|Zo (.bU 64 [.bool false,.aa,.aa] [(0,2,.t 62),(2,1,.t 63)])<|Zq 65 true 116 [.t 60,.t 64]<|Zs 3 12 65 .nil))<| .rg (Zm 66 5<|Zf 67 0 12<|Zf 68 1 67<|Zl 69 1 68<|Zq 70 false 128 [.t 66,.t 69]<|Zm 5 70 .nil))<| .rg (Zm 54 11<|Zk 55 .add 54 1<|Zm 11 55 .nil))<|Zr (Zm 72 0<|Zo (.idx 73 4 (.t 72) (.c (Zz 0)))<|Zf 74 0 73<|Zf 75 0 74<|Zf 76 0 75<|Zl 77 1 76<|Zm 78 4<|Zo (.bU 79 [.bool false,.aa] [(0,1,.t 77),(1,1,.t 78)])<|Zm 80 5<|Zo (.bU 81 [.bool false,.aa] [(1,1,.t 80)])<|Zq 82 false 130 [.t 79,.t 81]<|Zm 71 82<|Zo (.ext 83 (.t 71) 0)<|Zo (.ext 84 (.t 71) 1)<|Zo (.alloc 13 3 43 (.agg [.bool false,.aa,.aa]))<|Zs 3 13 83<|Zm 14 84 .nil)<| .seq (Zr (Zf 85 0 13<|Zh 86 2 85<|Zq 87 false 104 [.t 86]<|Zk 88 .eql 87 0 .nil)<| .cond (.t 88) (Zr (Zq 89 false 32 [.c (Zz 1)]<|Zo (.mv 2 (.c .aa))<|Zs 3 3 89 .nil) .ret) .skip)<|Zr (Zm 90 0<|Zh 91 3 13<|Zh 93 3 13<|Zq 92 true 71 [.t 90,.t 91]<|Zm 2 92<|Zs 3 3 93 .nil) .ret⟩
theorem QL:Qe Tryz.prog Tryz.f70=some AG:=by kernel_rfl
def Lh:aA:=⟨6,[.t 2],Zr (Zc 2 0 .nil)<|Zr (Zm 3 0<|Zn 4 3<|Zk 5 .sub 4 1<|Zm 2 5 .nil) .ret⟩
theorem ajn:Qe Tryz.prog Tryz.f77=some Lh:=by kernel_rfl
def Kp:aA:=⟨19,[.t 2],Zr (Zo (.mv 2 (.c .aa)) .nil)<| .seq (Zr (Zm 4 0<|Zk 5 .lss 4 0<|Zm 6 5<|Zg 6 false (.mv 7 (.t 0))<|Zg 6 false (.bin 8 .geq false (.t 7) (.c (Zz 64)))<|Zo (.pick 9 (.t 6) (.c (.bool true)) (.t 8)) .nil)<| .cond (.t 9) (Zr (Zo (.mv 2 (.c .aa)) .nil) .ret) .skip)<|Zr (Zm 10 0<|Zk 11 .add 10 1<|Zo (.mk 12 1 8 3 (Zz 0) (.t 11) (.t 11))<|Zm 3 12 .nil)<|Zr (Zm 13 3<|Zm 14 0<|Zi 15 1 13 14<|Zo (.st 1 (.t 15) (.c (Zz 1))) .nil)<|Zr (Zq 16 false 32 [.c (Zz 1)]<|Zm 17 3<|Zq 18 false 52 [.c .aa,.t 16,.t 17]<|Zm 2 18 .nil) .ret⟩
theorem ajo:Qe Tryz.prog Tryz.f20=some Kp:=by kernel_rfl
end Go.Proofs.YtdjoomkeehihmaaGreat
namespace Go.FW
open Go
def xC(a m:List Int):Bool:=(List.range a.length).all fun i=>decide (eN a i=eN m i)
theorem CJ{a m:List Int}:xC a m=true↔∀i,i<a.length->eN a i=eN m i:=by simp[xC,Kay]
theorem X1(a:List Int):xC a (if fy (gO a)then gO a else [])=fy (gO a):=by
 cases h:fy (gO a)
 ·rw[if_neg (by simp)];cases hz:xC a []with
  |false=>rfl
  | true=>
   rw[CJ]at hz;have e:gO a=[]:=pC (CQ a) (by simp) fun i=>by
    rw[zY,FU];by_cases hi:i<a.length
    ·rw[hz i hi,FU]
    ·exact fB (by omega)
   rw[e]at h;exact absurd h (by decide)
 ·rw[if_pos rfl,CJ];intro i _;rw[zY]
theorem Ty:∀(ts:List Tm),(∀t∈ts,t.2.getLast? ≠some 0)->∀out,au out->au (ts.foldl (fun out t=>jg out t.1 t.2) out)/\∀φ,aX φ (ts.foldl (fun out t=>jg out t.1 t.2) out)=aX φ out+aX φ ts
 | [],_,out,ho=>⟨ho,fun φ=>by rw[List.foldl_nil,iy];grind⟩
 |t::ts,h,out,ho=>by have hl:=h t (by simp);obtain⟨h1,h2⟩:=Ty ts (fun x hx=>h x (by simp[hx])) (jg out t.1 t.2) (abx ho hl);refine⟨h1,fun φ=>?_⟩;rw[KcJ,h2,aby ho.c hl,eu];grind
theorem adM(q:Rat):pI (decide (q.num<0)) (ah q.num.natAbs) (ah q.den)=true:=by
 simp only[pI,nR,Kat,decide_eq_true_eq];refine⟨?_,⟨?_,zV _⟩,?_⟩
 ·split
  ·rename_i h;rw[kq]at h;have:¬q.num<0:=by omega
   simp[this]
  ·exact decide_eq_true (zV _)
 ·rw[ne_eq,kq];exact q.den_nz
 ·rw[Q7,Q7];exact q.reduced
def jx(t:Tm):aZ:=⟨decide (t.1.num<0),ah t.1.num.natAbs,ah t.1.den,t.2⟩
theorem ajp(t:Tm):(jx t).tm=t:=by show(rv _ _ _,t.2)=t;rw[jx,gN]
theorem On(p:List Tm):PV.kp (p.map jx)=PV.aj p:=by show PV.sl 4 ((p.map jx).map PV.qv)=PV.sl 4 (p.map PV.term);rw[Kc8];rfl
theorem O'{t:Tm}(h:TV t):fG (jx t)=true:=by
 have e:(jx t).q=t.1:=by show rv _ _ _=_;rw[jx,gN]
 simp only[fG,Kat,decide_eq_true_eq];exact⟨adM t.1,by rw[e];exact h.c,h.m⟩
theorem Hw:∀ {p:List Tm},rE p->eg (p.map jx)=true
 | [],_=>rfl
 | [t],h=>by show fG (jx t)=true;exact O' (h.t t (by simp))
 |s::t::p,h=>by have h1:=O' (h.t s (by simp));have h2:0<aR (jx s).m (jx t).m:=h.s.1 t (by simp);have h3:=Hw (p:=t::p) ⟨fun x hx=>h.t x (by simp[hx]),h.s.2⟩;show eg (jx s::jx t::p.map jx)=true;rw[eg,h1,decide_eq_true h2];exact h3
theorem QM{t:Tm}{k:Nat}(h:rs t.1<=k)(hm:t.2.length<2^40):RB k (jx t):=by
 have h1:nl t.1.num.natAbs<=k:=by unfold rs at h;omega
 have h2:nl t.1.den<=k:=by unfold rs at h;omega
 exact⟨⟨Qp _,Qp _,h1,h2⟩,hm⟩
def No(a:Rat):Nat->Rat
 |0=>1
 |n+1=>No a n*a
def WT(vs:List Rat)(m:List Int):Nat->Rat
 |0=>1
 |n+1=>WT vs m n*No (vs.getD n 0) (eN m n).toNat
def mev(vs:List Rat)(m:List Int):Rat:=WT vs m m.length
theorem Q8n{B B':List Nat}{F:Fr}(h:(B'.all B.contains)=true):bF B' (bF B F)=bF B F:=by
 funext s;rw[Hc B'];split
 ·rename_i h1;rw[Hc B]at h1⊢;split
  ·rfl
  ·rename_i h2;rw[if_neg h2]at h1;exfalso;apply h2;rw[Ka4]at h1⊢;obtain⟨x,hx,hb⟩:=h1;rw[Kay]at h;exact⟨x,hx,h x (List.contains_iff_mem.1 hb)⟩
 ·rfl
theorem Q8o{W:List (Nat×Nat)}{B:List Nat}{J F:Fr}:bF B (aQ W J F)=aQ W (bF B J) (bF B F):=by funext s;unfold bF aQ;split<;>rfl
theorem GG{V W:List (Nat×Nat)}{B B':List Nat}{X Z F:Fr}(h:vL V W=true)(hB:(B'.all B.contains)=true):aQ V X (bF B' (aQ W Z (bF B F)))=aQ W (aQ V X (bF B' Z)) (bF B F):=by rw[Q8o,Q8n hB,nN h]
section
variable {C : Ctx} {fr : Fr} {hp : HP} {w : World} {K R : Qg}
end
def eG(m:List Int)(v:Nat):List Int:=gO (m.set v 0)
theorem ajq(m:List Int)(v i:Nat):eN (m.set v 0) i=if i=v then 0 else eN m i:=by
 by_cases hi:i<m.length
 ·rw[fk (by simpa using hi),Kdf];by_cases h:i=v
  ·rw[if_pos h,if_pos h.symm]
  ·rw[if_neg h,if_neg (fun h'=>h h'.symm),fk hi]
 ·rw[fB (by simpa using hi),fB (by omega)];split<;>rfl
theorem vk(m:List Int)(v i:Nat):eN (eG m v) i=if i=v then 0 else eN m i:=by rw[eG,zY,ajq]
theorem CW(m:List Int)(v:Nat):(eG m v).getLast? ≠some 0:=CQ _
theorem Oo{E:Nat}{m:List Int}(h:MB E m)(v:Nat):MB E (eG m v):=by
 have hl:(eG m v).length<=64:=by
  have:=sZ (m.set v 0);have:=h.len;rw[Kb8]at *
  unfold eG;omega
 refine⟨hl,fun x hx=>?_,fun x hx=>?_⟩
 all_goals
  obtain⟨i,hi,rfl⟩:=Kbe hx;rw[<-fk hi,vk];have:=h.eN i;split<;>omega
theorem adN{E:Nat}{m:List Int}(h:MB E m)(hE:E<=1048576)(v:Nat):fy (eG m v)=true:=Ho (Oo h v) hE (CW m v)
theorem abz{a b:List Int}{v:Nat}(h:eN a v=eN b v):aR (eG a v) (eG b v)=aR a b:=by
 have key:∀n,du (eG a v) (eG b v) n=du a b n:=by
  intro n;induction n with
  |zero=>rfl
  |succ n ih=>
   rw[du,du,ih,vk,vk];by_cases hn:n=v
   ·subst hn;rw[if_pos rfl,if_pos rfl,if_pos rfl,if_pos h]
   ·rw[if_neg hn,if_neg hn]
 have e1:(eG a v).length<=a.length:=by have:=sZ (a.set v 0);rwa[Kb8]at this
 have e2:(eG b v).length<=b.length:=by have:=sZ (b.set v 0);rwa[Kb8]at this
 rw[<-tt (m:=max a.length b.length) (by omega),key,tt (by omega)]
def aW(p:List Tm)(v:Nat)(n:Int):List Tm:=p.filterMap fun t=>if eN t.2 v=n then some (t.1,eG t.2 v)else none
theorem TA{p:List Tm}{v i:Nat}{n:Int}(h:i<p.length):aW (p.take (i+1)) v n=aW (p.take i) v n++(if eN p[i].2 v=n then [(p[i].1,eG p[i].2 v)]else []):=by rw[Kah h,aW,KcN];congr 1;rw[Kbg];by_cases h:eN p[i].2 v=n<;>simp[h]
theorem qx(p:List Tm)(v:Nat)(n:Int):(aW p v n).length<=p.length:=Kcb _ _
theorem tp{p:List Tm}{v:Nat}{n:Int}{t:Tm}(h:t∈aW p v n):∃s∈p,eN s.2 v=n/\t=(s.1,eG s.2 v):=by
 simp only[aW,KbR]at h;obtain⟨s,h1,h2⟩:=h;split at h2
 ·rename_i h3;cases h2;exact⟨s,h1,h3,rfl⟩
 ·cases h2
theorem qI{K E:Nat}{p:List Tm}(hp:PB K E p)(v:Nat)(n:Int):PB K E (aW p v n):=fun t ht=>by obtain⟨s,h1,_,rfl⟩:=tp ht;have:=hp s h1;exact⟨this.c,Oo this.m v,CW _ _⟩
theorem R2(v:Nat)(n:Int):∀ {p:List Tm},e9 p->e9 (aW p v n)
 | [],_=>trivial
 | s::p,h=>by
  have ih:=R2 v n h.2;by_cases hs:eN s.2 v=n
  ·have e:aW (s::p) v n=(s.1,eG s.2 v)::aW p v n:=by rw[aW,Kbg,if_pos hs];rfl
   rw[e];refine⟨fun t ht=>?_,ih⟩;obtain⟨u,h1,h2,rfl⟩:=tp ht;show 0<aR (eG s.2 v) (eG u.2 v);rw[abz (by rw[hs,h2])];exact h.1 u h1
  ·have e:aW (s::p) v n=aW p v n:=by rw[aW,Kbg,if_neg hs];rfl
   rw[e];exact ih
theorem jO{p:List Tm}(hp:au p)(v:Nat)(n:Int):au (aW p v n):=⟨fun t ht=>by
 obtain⟨s,_,_,rfl⟩:=tp ht;exact CW _ _,fun t ht=>by
 obtain⟨s,h1,_,rfl⟩:=tp ht;exact hp.z s h1,R2 v n hp.s⟩
end Go.FW
namespace Go.FW
open Go
def yG(p:List Tm)(v:Nat)(q:List Tm)(top:Nat):Nat->List Tm
 |0=>aW p v top
 |k+1=>Q8 (Q4 (yG p v q top k) q) (aW p v ((top:Int)-(k+1)))
def xG(x l:List Tm):List Tm:=l.foldl (fun out t=>jg out t.1 t.2) x
theorem ab0{x l:List Tm}(hx:au x)(hl:au l):xG x l=Q8 x l:=by obtain⟨h1,h2⟩:=Ty l hl.c x hx;refine qL h1 (nJ hx hl) fun φ=>?_;rw[xG,h2,oF hx.c hl.c]
theorem YP(x l:List Tm)(t:Tm):xG x (l++[t])=jg (xG x l) t.1 t.2:=by rw[xG,KbX];rfl
theorem OH(v:Nat):∀(p:List Tm)(d:Int),d<=p.foldl (fun d t=>max d (eN t.2 v)) d/\(∀t∈p,eN t.2 v<=p.foldl (fun d t=>max d (eN t.2 v)) d)/\(p.foldl (fun d t=>max d (eN t.2 v)) d=d∨∃t∈p,p.foldl (fun d t=>max d (eN t.2 v)) d=eN t.2 v)
 | [],d=>⟨KcI _,by simp,.inl rfl⟩
 | s::p,d=>by
  obtain⟨h1,h2,h3⟩:=OH v p (max d (eN s.2 v));rw[KcJ];refine⟨by omega,fun t ht=>?_,?_⟩
  ·rcases KaQ.1 ht with rfl|ht
   ·omega
   ·exact h2 t ht
  ·rcases h3 with h3|⟨t,ht,h3⟩
   ·rw[h3];by_cases h:d<=eN s.2 v
    ·right;exact⟨s,by simp,by omega⟩
    ·left;omega
   ·right;exact⟨t,by simp[ht],h3⟩
def gS(vs:List Rat)(v:Nat)(b:Rat)(n:Int):List Tm->Rat
 | []=>0
 |t::p=>(if n<=eN t.2 v then t.1*mev vs (eG t.2 v)*No b (eN t.2 v-n).toNat else 0)+gS vs v b n p
def ML(n:Nat)(p:List Tm):Prop:=∀t∈p,t.2.length<=n
theorem ML.sU{n:Nat}{p q:List Tm}(hp:ML n p)(hq:ML n q):ML n (Q8 p q):=fun t ht=>by
 rcases tv ht with⟨s,h1,h2⟩|⟨s,h1,h2⟩
 ·rw[<-h2];exact hp s h1
 ·rw[<-h2];exact hq s h1
theorem OI(a b:List Int):(bC a b).length<=max a.length b.length:=by
 have:=sZ (kB (· + ·) a b)
 rwa[pq]at this
theorem zo{p:List Tm}{t x:Tm}(h:x∈bd p t):∃s∈p,x.2=bC s.2 t.2:=by
 simp only[bd,KbR]at h;obtain⟨y,hy,h⟩:=h;split at h
 ·cases h
 ·cases h;exact⟨y,hy,rfl⟩
theorem adO:∀(n:Nat)(l:List (List Tm)),l.length<=n->∀ {t:Tm},t∈cQ l->∃p∈l,∃s∈p,s.2=t.2:=by
 intro n;induction n with
 |zero=>intro l hl t ht;have:l=[]:=Kas.1 (by omega);subst this;rw[cQ]at ht;cases ht
 | succ n ih=>
  intro l hl t ht
  match l,ht with
  | [],ht=>rw[cQ]at ht;cases ht
  | [p],ht=>rw[cQ]at ht;exact⟨p,by simp,t,ht,rfl⟩
  | p::q::r,ht=>
   rw[zK (by simp)]at ht;generalize hL:p::q::r=L at *
   have hlen:2<=L.length:=by rw[<-hL];simp
   rcases tv ht with⟨s,h1,h2⟩|⟨s,h1,h2⟩
   ·obtain⟨p',an,s',en,e⟩:=ih _ (by rw[KaF];omega) h1;exact⟨p',Kbc an,s',en,e.trans h2⟩
   ·obtain⟨p',an,s',en,e⟩:=ih _ (by rw[Ka5];omega) h1;exact⟨p',Kbw an,s',en,e.trans h2⟩
theorem vm{p q:List Tm}{t:Tm}(h:t∈Q4 p q):∃a∈p,∃b∈q,t.2=bC a.2 b.2:=by
 have main:∀ {p q:List Tm},t∈oK p q->∃a∈p,∃b∈q,t.2=bC a.2 b.2:=fun {p q} h=>by obtain⟨x,hx,s,hs,e⟩:=adO _ _ (Kac _) h;obtain⟨a,ha,rfl⟩:=KaE.1 hx;obtain⟨b,hb,e2⟩:=zo hs;exact⟨a,ha,b,hb,by rw[<-e,e2,xe]⟩
 unfold Q4 at h;split at h
 ·obtain⟨a,ha,b,hb,e⟩:=main h;exact⟨b,hb,a,ha,by rw[e,xe]⟩
 ·exact main h
theorem ML.mj{n:Nat}{p q:List Tm}(hp:ML n p)(hq:ML n q):ML n (Q4 p q):=fun t ht=>by obtain⟨a,ha,b,hb,e⟩:=vm ht;have:=OI a.2 b.2;have:=hp a ha;have:=hq b hb;rw[e];omega
theorem ML.mV{n:Nat}{p:List Tm}(hp:ML n p)(v:Nat)(k:Int):ML n (aW p v k):=fun t ht=>by obtain⟨s,h1,_,rfl⟩:=tp ht;have:=sZ (s.2.set v 0);rw[Kb8]at this;exact Kaw this (hp s h1)
theorem ML.yG{n:Nat}{p q:List Tm}(hp:ML n p)(hq:ML n q)(v top:Nat):∀k,ML n (yG p v q top k)
 |0=>hp.mV v _
 |k+1=>((ML.yG hp hq v top k).mj hq).sU (hp.mV v _)
def eA(a:List Int):Nat->Int
 |0=>0
 |n+1=>eA a n+eN a n
theorem Uc(a:List Int):∀n,n<=a.length->eA a n=(a.take n).sum
 |0,_=>by simp[eA]
 |n+1,h=>by rw[eA,Uc a n (by omega),Kah (by omega),List.sum_append,fk (by omega)];simp
theorem agn(a:List Int)(k:Nat):eA a (a.length+k)=fm a:=by
 induction k with
 |zero=>rw[KaU,Uc a _ (Kac _),Kar];rfl
 |succ k ih=>rw[<-Nat.add_assoc,eA,ih,fB (by omega)];omega
theorem ago{a:List Int}{n:Nat}(h:a.length<=n):eA a n=fm a:=by
 obtain⟨k,rfl⟩:∃k,n=a.length+k:=⟨n-a.length,by omega⟩
 exact agn a k
theorem adP{l:List Tm}(hs:e9 l){a b:Tm}(ha:a∈l)(hb:b∈l)(e:a.2=b.2):a=b:=by
 induction l with
 |nil=>cases ha
 |cons c l ih=>
  rcases KaQ.1 ha with h1|h1<;>rcases KaQ.1 hb with h2|h2
  ·rw[h1,h2]
  ·subst h1;exact absurd e.symm (tJ (hs.1 b h2))
  ·subst h2;exact absurd e (tJ (hs.1 a h1))
  ·exact ih hs.2 h1 h2
theorem OJ{φ:List Int->Rat}:∀ {p:List Tm} {x:Tm},e9 p->x∈p->(∀t∈p,t≠x->φ t.2=0)->aX φ p=x.1*φ x.2
 | [],x,_,hx,_=>by cases hx
 | t::p,x,hs,hx,h=>by
  have hz:∀ {l:List Tm},(∀s∈l,φ s.2=0)->aX φ l=0:=by
   intro l;induction l with
   |nil=>intro _;rfl
   |cons s l ih=>intro hl;rw[eu,hl s (by simp),ih (fun y hy=>hl y (by simp[hy]))];grind
  by_cases M0:t=x
  ·subst M0;rw[eu,hz (fun s en=>h s (by simp[en]) (fun e=>tJ (hs.1 s en) (by rw[e])))];grind
  ·have aT:x∈p:=by
    rcases KaQ.1 hx with h1|h1
    ·exact absurd h1.symm M0
    ·exact h1
   rw[eu,h t (by simp) M0,OJ hs.2 aT (fun s en=>h s (by simp[en]))];grind
theorem Hx:∀(p:List Tm)(d:Int),d<=p.foldl (fun d t=>max d (fm t.2)) d/\(∀t∈p,fm t.2<=p.foldl (fun d t=>max d (fm t.2)) d)/\(p.foldl (fun d t=>max d (fm t.2)) d=d∨∃t∈p,p.foldl (fun d t=>max d (fm t.2)) d=fm t.2)
 | [],d=>⟨KcI _,by simp,.inl rfl⟩
 | s::p,d=>by
  obtain⟨h1,h2,h3⟩:=Hx p (max d (fm s.2));rw[KcJ];refine⟨by omega,fun t ht=>?_,?_⟩
  ·rcases KaQ.1 ht with rfl|ht
   ·omega
   ·exact h2 t ht
  ·rcases h3 with h3|⟨t,ht,h3⟩
   ·rw[h3];by_cases h:d<=fm s.2
    ·right;exact⟨s,by simp,by omega⟩
    ·left;omega
   ·right;exact⟨t,by simp[ht],h3⟩
theorem adQ(p:List Tm):(∀t∈p,fm t.2<=jE p)/\(jE p= -1∨∃t∈p,jE p=fm t.2):=⟨(Hx p (-1)).2.1,(Hx p (-1)).2.2⟩
def Q3(p:List Tm)(v:Nat):Int:=p.foldl (fun d t=>max d (eN t.2 v)) (-1)
theorem NH{p:List Tm}{v i:Nat}(h:i<p.length):Q3 (p.take (i+1)) v=max (Q3 (p.take i) v) (eN p[i].2 v):=by rw[Kah h,Q3,KbX];rfl
theorem rJ(p:List Tm)(v:Nat): -1<=Q3 p v/\(∀t∈p,eN t.2 v<=Q3 p v)/\(Q3 p v= -1∨∃t∈p,Q3 p v=eN t.2 v):=OH v p (-1)
theorem oG{K E:Nat}{p:List Tm}(hp:PB K E p)(h0:p≠[])(v:Nat):0<=Q3 p v/\Q3 p v<=E:=by
 obtain⟨_,h2,h3⟩:=rJ p v;obtain⟨t,ht⟩:=List.exists_mem_of_ne_nil p h0;have h4:=h2 t ht;have h5:=(hp t ht).m.eN v;rcases h3 with h3|⟨s,hs,h3⟩
 ·omega
 ·have:=(hp s hs).m.eN v;omega
theorem Pa{p:List Tm}{v:Nat}{n:Int}(h:∀t∈p,eN t.2 v<n)(hn:0<=n):Q3 p v<n:=by
 obtain⟨_,_,h3⟩:=rJ p v;rcases h3 with h3|⟨s,hs,h3⟩
 ·omega
 ·have:=h s hs;omega
def cM(v n:Nat):List Int:=List.replicate v 0++[(n:Int)]
theorem Ak(v n i:Nat):eN (cM v n) i=if i=v then(n:Int)else 0:=by
 unfold cM;by_cases h:i<v
 ·rw[if_neg (by omega),fk (by simp;omega),Kcv (by simpa using h),List.getElem_replicate]
 ·by_cases h2:i=v
  ·subst h2;rw[if_pos rfl,fk (by simp),List.getElem_append_right (by simp)];simp
  ·rw[if_neg h2,fB (by simp;omega)]
theorem Dc{v n:Nat}(h:0<n):(cM v n).getLast? ≠some 0:=by unfold cM;rw[List.getLast?_append];simp;omega
theorem ID{v n:Nat}(hv:v<64):MB n (cM v n):=by
 refine⟨by simp[cM];omega,fun x hx=>?_,fun x hx=>?_⟩
 all_goals
  simp only[cM,KaV,KcY,KaO]at hx;omega
def gy(p:List Tm)(v n:Nat):List Tm:=if n=0 then p else Q4 p [(1,cM v n)]
theorem OK{v n:Nat}(h:0<n):au [((1:Rat),cM v n)]:=au.one (show(1:Rat)≠0 by decide) (Dc h)
theorem rL{p:List Tm}(hp:au p)(v n:Nat):au (gy p v n):=by
 unfold gy;split
 ·exact hp
 ·exact dC hp.s (OK (by omega)).s
theorem Q8p{p:List Tm}(hp:Can p)(v n:Nat)(φ:List Int->Rat):aX φ (gy p v n)=aX (fun m=>φ (bC m (cM v n))) p:=by
 unfold gy;split
 ·rename_i h;subst h;refine kU fun t ht=>?_;congr 1;refine pC (hp t ht) (pA _ _) fun i=>?_;rw[jz,Ak];split<;>simp
 ·rw[ie];refine kU fun t ht=>?_;rw[eu,iy,Kdk,Rat.add_zero]
theorem Hq{φ:List Int->Rat}{v n:Nat}(h:∀m,eN m v≠n->φ m=0):∀ {p:List Tm},Can p->aX φ p=aX (fun m=>φ (bC m (cM v n))) (aW p v n)
 | [],_=>rfl
 | t::p,hp=>by
  have ih:=Hq h (Can.cons.1 hp).2;by_cases ht:eN t.2 v=n
  ·have e:aW (t::p) v n=(t.1,eG t.2 v)::aW p v n:=by rw[aW,Kbg,if_pos ht];rfl
   have e2:bC (eG t.2 v) (cM v n)=t.2:=pC (pA _ _) (Can.cons.1 hp).1 fun i=>by
    rw[jz,vk,Ak];by_cases hi:i=v
    ·subst hi;simp[ht]
    ·simp[hi]
   rw[e,eu,eu,ih];show _=t.1*φ (bC (eG t.2 v) (cM v n))+_;rw[e2]
  ·have e:aW (t::p) v n=aW p v n:=by rw[aW,Kbg,if_neg ht];rfl
   rw[e,eu,h _ ht,Rat.mul_zero,Rat.zero_add,ih]
theorem xv{p:List Tm}{v:Nat}{n:Int}{t:Tm}(h:t∈aW p v n):eN t.2 v=0:=by obtain⟨s,_,_,rfl⟩:=tp h;rw[vk,if_pos rfl]
def cZ(r:List Tm)(v n d:Nat):List Tm:=gy (aW r v n) v (n-d)
def dX(r g:List Tm)(v n d:Nat):List Tm:=fM (Q4 (aW g v d) r) (Q4 (cZ r v n d) g)
theorem agp{r g:List Tm}{v n d:Nat}(hr:au r)(hg:au g)(hd:d<=n){φ:List Int->Rat}(h:∀m,eN m v≠n->φ m=0):aX φ (dX r g v n d)=0:=by
 have hb:=rL (jO hr v n) v (n-d);have hc:=jO hg v d;rw[dX,Hu φ (dC hc.s hr.s).c (dC (show e9 (cZ r v n d)from hb.s) hg.s),ie,ie,cZ,Q8p (jO hr v n).c];have e1:aX (fun m=>aX (fun s=>φ (bC m s)) r) (aW g v d)=aX (fun m=>aX (fun s=>φ (bC m (bC s (cM v n)))) (aW r v n)) (aW g v d):=by refine kU fun t ht=>?_;refine Hq (φ:=fun s=>φ (bC t.2 s)) (fun m hm=>h _ ?_) hr.c;rw[jz,xv ht,Int.zero_add];exact hm
 have e2:aX (fun m=>aX (fun n_1=>φ (bC (bC m (cM v (n-d))) n_1)) g) (aW r v n)=aX (fun m=>aX (fun a=>φ (bC (bC m (cM v (n-d))) (bC a (cM v d)))) (aW g v d)) (aW r v n):=by refine kU fun t ht=>?_;refine Hq (φ:=fun s=>φ (bC (bC t.2 (cM v (n-d))) s)) (fun m hm=>h _ ?_) hg.c;rw[jz,jz,xv ht,Ak,if_pos rfl];omega
 rw[e1,e2,xu];have e3:∀s a:List Int,bC a (bC s (cM v n))=bC (bC s (cM v (n-d))) (bC a (cM v d)):=fun s a=>pC (pA _ _) (pA _ _) fun i=>by simp only[jz,Ak];split<;>omega
 simp only[e3];exact Rat.sub_self
theorem CX{p:List Tm}{v n:Nat}{t:Tm}(h:t∈gy p v n):∃s∈p,∀i,eN t.2 i=eN s.2 i+if i=v then(n:Int)else 0:=by
 unfold gy at h;split at h
 ·rename_i h0;subst h0;exact⟨t,h,fun i=>by split<;>simp⟩
 ·obtain⟨s,hs,b,hb,e⟩:=vm h;simp only[KaO]at hb;subst hb;exact⟨s,hs,fun i=>by rw[e,jz,Ak]⟩
theorem Hy{p q:List Tm}{t:Tm}(hq:Can q)(h:t∈fM p q):(∃s∈p,s.2=t.2)∨(∃s∈q,s.2=t.2):=by
 rcases tv h with h|⟨s,hs,h⟩
 ·exact .inl h
 ·right;rw[kZ,b8,if_neg (by decide)]at hs;obtain⟨u,hu,e⟩:=zo hs;exact⟨u,hu,by rw[<-h,e];exact(tu (hq u hu)).symm⟩
theorem Rt{r g:List Tm}{v n d:Nat}(hr:au r)(hg:au g)(hd:d<=n)(hn:∀t∈r,eN t.2 v<=n)(eB:∀t∈g,eN t.2 v<=d):∀t∈dX r g v n d,eN t.2 v<n:=by
 intro t ht;have hb:=rL (jO hr v n) v (n-d);have hc:=jO hg v d;have hR:au (dX r g v n d):=vj (dC hc.s hr.s) (dC (show e9 (cZ r v n d)from hb.s) hg.s);have hle:eN t.2 v<=n:=by
  rcases Hy (dC (show e9 (cZ r v n d)from hb.s) hg.s).c ht with⟨s,hs,e⟩|⟨s,hs,e⟩
  ·obtain⟨a,ha,b,ax,e2⟩:=vm hs;rw[<-e,e2,jz,xv ha];have:=hn b ax;omega
  ·obtain⟨a,ha,b,ax,e2⟩:=vm hs;obtain⟨u,hu,e3⟩:=CX (show a∈gy (aW r v n) v (n-d)from ha);rw[<-e,e2,jz,e3,xv hu,if_pos rfl];have:=eB b ax;omega
 rcases Int.lt_or_eq_of_le hle with h|h
 ·exact h
 ·exfalso;have h1:=agp hr hg hd (φ:=fun m=>if m=t.2 then 1 else 0) (fun m hm=>by rw[if_neg];rintro rfl;exact hm h);have h2:=OJ (φ:=fun m=>if m=t.2 then 1 else 0) hR.s ht (fun s hs aO=>by rw[if_neg];intro e;exact aO (adP hR.s hs ht e));rw[h1]at h2;simp only[if_true,Rat.mul_one]at h2;exact hR.z t ht h2.symm
def gA(q r g:List Tm)(v n d:Nat):List Tm:=Q8 (Q4 (aW g v d) q) (cZ r v n d)
def jD(g:List Tm)(v d:Nat):Nat->List Tm->List Tm->Nat->PV
 |0,q,r,k=>.aw [PV.aj q,PV.aj r,.int .i64 k,.int .i64 0]
 |f+1,q,r,k=>
  if r=[]∨Q3 r v<d then .aw [PV.aj q,PV.aj r,.int .i64 k,.int .i64 0]
  else if bh (gA q r g v (Q3 r v).toNat d)=true∨bh (dX r g v (Q3 r v).toNat d)=true then .aw [PV.aj [],PV.aj [],.int .i64 0,.int .i64 4]
  else jD g v d f (gA q r g v (Q3 r v).toNat d) (dX r g v (Q3 r v).toNat d) (k+1)
theorem agq{q r g:List Tm}{v n d:Nat}(hq:au q)(hr:au r)(hg:au g):au (gA q r g v n d):=nJ (dC (jO hg v d).s hq.s) (rL (jO hr v n) v (n-d))
theorem agr{r g:List Tm}{v n d:Nat}(hr:au r)(hg:au g):au (dX r g v n d):=
 vj (dC (jO hg v d).s hr.s) (dC (show e9 (cZ r v n d)from(rL (jO hr v n) v (n-d)).s) hg.s)
theorem FZ{r g:List Tm}{v d K E:Nat}(hr:au r)(hg:au g)(MU:PB K E r)(h0:r≠[])(hd:Q3 g v=d)(hle:(d:Int)<=Q3 r v):Q3 (dX r g v (Q3 r v).toNat d) v<Q3 r v:=by
 obtain⟨h1,h2⟩:=oG MU h0 v;have e:(((Q3 r v).toNat:Nat):Int)=Q3 r v:=by omega
 have h3:=Rt (v:=v) (n:=(Q3 r v).toNat) (d:=d) hr hg (by omega) (fun t ht=>by rw[e];exact(rJ r v).2.1 t ht) (fun t ht=>by rw[<-hd];exact(rJ g v).2.1 t ht);exact Pa (fun t ht=>by have:=h3 t ht;omega) h1
end Go.FW
