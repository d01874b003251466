/- Part 3 of the proof of SquaresGrams: C1, CI, C1b, N1, N2, N3, N4, N5, N6, N7, N8, N9, N10, N11, N12, N13, N14, N15, I1, R1, R2, FwUB, FwNA, FwNB, FwND, FwNE, FwNF, FwNG, FwNS, FwNT, FwQA, FwSD, FwSE, FwSF, FwSG, FwSH. Own lemmas; no conditions. -/
import Derived.Test.YtkoclfmjlolkhaaGreatSquaresGramsPart2
import Derived.Test.YtkoclfmjlolkhaaGreatProg
set_option linter.unusedSimpArgs false
set_option linter.unusedVariables false
set_option linter.unnecessarySimpa false
set_option maxRecDepth 100000
namespace Go.Proofs.YtkoclfmjlolkhaaGreat
open Go Go.FW
theorem Qq:Tryz.prog.follows .mixedOrders=true:=by kernel_rfl
def Q0c:SFn:=⟨21,[.t 2],Zr (Zo (.mv 2 (.c .nilS)) .nil)<|Zr (Zm 4 0<|
 Zn 5 4<|
 Zm 3 5 .nil)<| .seq (.block 0<| .loop<| .seq (Zr (Zm 6 3<|
 Zk 7 .gtr 6 0<|
 Zm 8 7<|
 Zg 8 true (.mv 9 (.t 0))<|
 Zg 8 true (.mv 10 (.t 3))<|
 Zg 8 true (.bin 11 .sub false (.t 10) (.c (Zz 1)))<|
 Zg 8 true (.idx 12 1 (.t 9) (.t 11))<|
 Zg 8 true (.ld 13 1 false (.t 12))<|
 Zg 8 true (.bin 14 .eql false (.t 13) (.c (.int .u16 0)))<|
 Zo (.pick 15 (.t 8) (.t 14) (.c (.bool false))) .nil)<| .cond (.t 15) .skip (.exit 0))<| .block 1<| .rg (Zm 16 3<|
 Zk 17 .sub 16 1<|
 Zm 3 17 .nil))<|Zr (Zm 18 0<|
 Zm 19 3<|
 Zo (.sl 20 1 (.t 18) none (some (.t 19)) none)<|
 Zm 2 20 .nil) .ret⟩
theorem Q4c:Qe Tryz.prog Tryz.f212=some Q0c:=by kernel_rfl
def c190:SFn:=⟨16,[.t 2],Zr (Zo (.mv 2 (.c .nilS)) .nil)<|Zr (Zm 4 0<|
 Zq 5 false 212 [.t 4]<|
 Zm 0 5 .nil)<| .seq (Zr (Zm 6 0<|
 Zn 7 6<|
 Zk 8 .eql 7 0 .nil)<| .cond (.t 8) (Zr (Zo (.mv 2 (.c .nilS)) .nil) .ret) .skip)<|Zr (Zm 9 0<|
 Zn 10 9<|
 Zo (.mk 11 1 2 155 (.int .u16 0) (.t 10) (.t 10))<|
 Zm 3 11 .nil)<|Zr (Zm 12 3<|
 Zm 13 0<|
 Zo (.cpy 14 1 (.t 12) (.t 13)) .nil)<|Zr (Zm 15 3<|
 Zm 2 15 .nil) .ret⟩
theorem Qaiw:Qe Tryz.prog Tryz.f190=some c190:=by kernel_rfl
def c189:SFn:=⟨14,[.t 2],Zr (Zo (.mv 2 (.c .nilS)) .nil)<|Zr (Zo (.mv 3 (.c .nilS)) .nil)<| .seq (.block 0<| .loop<| .seq (Zr (Zm 4 0<|
 Zo (.bin 5 .gtr false (.t 4) (.c (.int .u64 0))) .nil)<| .cond (.t 5) .skip (.exit 0))<| .seq (.block 1<| .rg (Zm 8 3<|
 Zm 9 0<|
 Zo (.conv 10 .u16 (.t 9))<|
 Zo (.bs 11 1 155 [.t 10])<|
 Zo (.app 12 1 2 155 (.t 8) (.t 11))<|
 Zm 3 12 .nil))<| .rg (Zm 6 0<|
 Zo (.bin 7 .shr false (.t 6) (.c (.int .u64 16)))<|
 Zm 0 7 .nil))<|Zr (Zm 13 3<|
 Zm 2 13 .nil) .ret⟩
theorem Qaix:Qe Tryz.prog Tryz.f189=some c189:=by kernel_rfl
def c216:SFn:=⟨28,[.t 2,.t 3],Zr (Zo (.mv 2 (.c (.int .u64 0)))<|
 Zo (.mv 3 (.c (.bool false))) .nil)<|Zr (Zm 7 0<|
 Zq 8 false 212 [.t 7]<|
 Zm 0 8 .nil)<| .seq (Zr (Zm 9 0<|
 Zn 10 9<|
 Zk 11 .gtr 10 4 .nil)<| .cond (.t 11) (Zr (Zo (.mv 2 (.c (.int .u64 0)))<|
 Zo (.mv 3 (.c (.bool false))) .nil) .ret) .skip)<|Zr (Zo (.mv 4 (.c (.int .u64 0))) .nil)<| .seq (Zr (Zm 12 0<|
 Zn 13 12<|
 Zc 14 0 .nil)<| .block 0<| .loop<|Zr (Zb 15 .lss 14 13 .nil)<| .seq (.cond (.t 15) .skip (.exit 0))<| .seq (.block 1<|Zr (Zm 16 14<|
 Zi 17 1 12 14<|
 Zl 18 1 17<|
 Zm 5 16<|
 Zm 6 18 .nil)<| .rg (Zm 19 4<|
 Zm 20 6<|
 Zo (.conv 21 .u64 (.t 20))<|
 Zm 22 5<|
 Zo (.bin 23 .mul false (.c (Zz 16)) (.t 22))<|
 Zb 24 .shl 21 23<|
 Zb 25 .or 19 24<|
 Zm 4 25 .nil))<| .rg (Zk 26 .add 14 1<|
 Zm 14 26 .nil))<|Zr (Zm 27 4<|
 Zm 2 27<|
 Zo (.mv 3 (.c (.bool true))) .nil) .ret⟩
theorem Qaiy:Qe Tryz.prog Tryz.f216=some c216:=by kernel_rfl
def c178:SFn:=⟨20,[.t 2],Zr (Zc 2 0 .nil)<|Zr (Zm 3 0<|
 Zq 4 false 212 [.t 3]<|
 Zm 0 4 .nil)<| .seq (Zr (Zm 5 0<|
 Zn 6 5<|
 Zk 7 .eql 6 0 .nil)<| .cond (.t 7) (Zr (Zc 2 0 .nil) .ret) .skip)<|Zr (Zm 8 0<|
 Zn 9 8<|
 Zk 10 .sub 9 1<|
 Zo (.bin 11 .mul false (.c (Zz 16)) (.t 10))<|
 Zm 12 0<|
 Zm 13 0<|
 Zn 14 13<|
 Zk 15 .sub 14 1<|
 Zi 16 1 12 15<|
 Zl 17 1 16<|
 Zq 18 false 214 [.t 17]<|
 Zb 19 .add 11 18<|
 Zm 2 19 .nil) .ret⟩
theorem Qaiz:Qe Tryz.prog Tryz.f178=some c178:=by kernel_rfl
def c218:SFn:=⟨45,[.t 4],Zr (Zc 4 0 .nil)<|Zr (Zm 6 0<|
 Zq 7 false 212 [.t 6]<|
 Zm 8 1<|
 Zq 9 false 212 [.t 8]<|
 Zm 0 7<|
 Zm 1 9 .nil)<| .seq (Zr (Zm 10 0<|
 Zn 11 10<|
 Zm 12 1<|
 Zn 13 12<|
 Zb 14 .neq 11 13 .nil)<| .cond (.t 14) (.seq (Zr (Zm 15 0<|
 Zn 16 15<|
 Zm 17 1<|
 Zn 18 17<|
 Zb 19 .lss 16 18 .nil)<| .cond (.t 19) (Zr (Zc 4 (-1) .nil) .ret) .skip)<|Zr (Zc 4 1 .nil) .ret) .skip)<| .seq (Zr (Zm 20 0<|
 Zn 21 20<|
 Zk 22 .sub 21 1<|
 Zm 5 22 .nil)<| .block 0<| .loop<| .seq (Zr (Zm 23 5<|
 Zk 24 .geq 23 0 .nil)<| .cond (.t 24) .skip (.exit 0))<| .seq (.block 1<| .seq (Zr (Zm 27 0<|
 Zm 28 5<|
 Zi 29 1 27 28<|
 Zl 30 1 29<|
 Zm 31 1<|
 Zm 32 5<|
 Zi 33 1 31 32<|
 Zl 34 1 33<|
 Zb 35 .lss 30 34 .nil)<| .cond (.t 35) (Zr (Zc 4 (-1) .nil) .ret) .skip)<|Zr (Zm 36 0<|
 Zm 37 5<|
 Zi 38 1 36 37<|
 Zl 39 1 38<|
 Zm 40 1<|
 Zm 41 5<|
 Zi 42 1 40 41<|
 Zl 43 1 42<|
 Zb 44 .gtr 39 43 .nil)<| .cond (.t 44) (Zr (Zc 4 1 .nil) .ret) .skip)<| .rg (Zm 25 5<|
 Zk 26 .sub 25 1<|
 Zm 5 26 .nil))<|Zr (Zc 4 0 .nil) .ret⟩
theorem Qai0:Qe Tryz.prog Tryz.f218=some c218:=by kernel_rfl
def c227:SFn:=⟨64,[.t 4],Zr (Zo (.mv 4 (.c .nilS)) .nil)<|Zr (Zm 9 0<|
 Zq 10 false 212 [.t 9]<|
 Zm 11 1<|
 Zq 12 false 212 [.t 11]<|
 Zm 0 10<|
 Zm 1 12 .nil)<| .seq (Zr (Zm 13 0<|
 Zn 14 13<|
 Zm 15 1<|
 Zn 16 15<|
 Zb 17 .lss 14 16 .nil)<| .cond (.t 17) (.rg (Zm 18 1<|
 Zm 19 0<|
 Zm 0 18<|
 Zm 1 19 .nil)) .skip)<|Zr (Zm 20 0<|
 Zn 21 20<|
 Zm 22 0<|
 Zn 23 22<|
 Zk 24 .add 23 1<|
 Zo (.mk 25 1 2 155 (.int .u16 0) (.t 21) (.t 24))<|
 Zm 5 25 .nil)<|Zr (Zo (.mv 6 (.c (.int .u32 0))) .nil)<| .seq (Zr (Zm 26 0<|
 Zn 27 26<|
 Zc 28 0 .nil)<| .block 0<| .loop<|Zr (Zb 29 .lss 28 27 .nil)<| .seq (.cond (.t 29) .skip (.exit 0))<| .seq (.block 1<|Zr (Zm 30 28<|
 Zi 31 1 26 28<|
 Zl 32 1 31<|
 Zm 7 30<|
 Zm 8 32 .nil)<|Zr (Zm 33 6<|
 Zm 34 8<|
 Zo (.conv 35 .u32 (.t 34))<|
 Zb 36 .add 33 35<|
 Zm 6 36 .nil)<| .seq (Zr (Zm 37 7<|
 Zm 38 1<|
 Zn 39 38<|
 Zb 40 .lss 37 39 .nil)<| .cond (.t 40) (.rg (Zm 41 6<|
 Zm 42 1<|
 Zm 43 7<|
 Zi 44 1 42 43<|
 Zl 45 1 44<|
 Zo (.conv 46 .u32 (.t 45))<|
 Zb 47 .add 41 46<|
 Zm 6 47 .nil)) .skip)<|Zr (Zm 48 5<|
 Zm 49 7<|
 Zm 50 6<|
 Zo (.conv 51 .u16 (.t 50))<|
 Zi 52 1 48 49<|
 Zs 1 52 51 .nil)<| .rg (Zm 53 6<|
 Zo (.bin 54 .shr false (.t 53) (.c (.int .u64 16)))<|
 Zm 6 54 .nil))<| .rg (Zk 55 .add 28 1<|
 Zm 28 55 .nil))<| .seq (Zr (Zm 56 6<|
 Zo (.bin 57 .gtr false (.t 56) (.c (.int .u32 0))) .nil)<| .cond (.t 57) (.rg (Zm 58 5<|
 Zm 59 6<|
 Zo (.conv 60 .u16 (.t 59))<|
 Zo (.bs 61 1 155 [.t 60])<|
 Zo (.app 62 1 2 155 (.t 58) (.t 61))<|
 Zm 5 62 .nil)) .skip)<|Zr (Zm 63 5<|
 Zm 4 63 .nil) .ret⟩
theorem Qai1:Qe Tryz.prog Tryz.f227=some c227:=by kernel_rfl
def c228:SFn:=⟨56,[.t 4,.t 5],Zr (Zo (.mv 4 (.c .nilS))<|
 Zc 5 0 .nil)<| .seq (Zr (Zm 11 0<|
 Zm 12 1<|
 Zq 13 false 218 [.t 11,.t 12]<|
 Zk 14 .lss 13 0 .nil)<| .cond (.t 14) (Zr (Zo (.mv 4 (.c .nilS))<|
 Zc 5 2 .nil) .ret) .skip)<|Zr (Zm 15 0<|
 Zq 16 false 212 [.t 15]<|
 Zm 17 1<|
 Zq 18 false 212 [.t 17]<|
 Zm 0 16<|
 Zm 1 18 .nil)<|Zr (Zm 19 0<|
 Zn 20 19<|
 Zo (.mk 21 1 2 155 (.int .u16 0) (.t 20) (.t 20))<|
 Zm 6 21 .nil)<|Zr (Zo (.mv 7 (.c (.int .i32 0))) .nil)<| .seq (Zr (Zm 22 0<|
 Zn 23 22<|
 Zc 24 0 .nil)<| .block 0<| .loop<|Zr (Zb 25 .lss 24 23 .nil)<| .seq (.cond (.t 25) .skip (.exit 0))<| .seq (.block 1<|Zr (Zm 26 24<|
 Zi 27 1 22 24<|
 Zl 28 1 27<|
 Zm 8 26<|
 Zm 9 28 .nil)<|Zr (Zm 29 9<|
 Zo (.conv 30 .i32 (.t 29))<|
 Zm 31 7<|
 Zb 32 .sub 30 31<|
 Zm 10 32 .nil)<| .seq (Zr (Zm 33 8<|
 Zm 34 1<|
 Zn 35 34<|
 Zb 36 .lss 33 35 .nil)<| .cond (.t 36) (.rg (Zm 37 10<|
 Zm 38 1<|
 Zm 39 8<|
 Zi 40 1 38 39<|
 Zl 41 1 40<|
 Zo (.conv 42 .i32 (.t 41))<|
 Zb 43 .sub 37 42<|
 Zm 10 43 .nil)) .skip)<|Zr (Zo (.mv 7 (.c (.int .i32 0))) .nil)<| .seq (Zr (Zm 44 10<|
 Zo (.bin 45 .lss false (.t 44) (.c (.int .i32 0))) .nil)<| .cond (.t 45) (Zr (Zm 46 10<|
 Zo (.bin 47 .add false (.t 46) (.c (.int .i32 65536)))<|
 Zm 10 47 .nil)<| .rg (Zo (.mv 7 (.c (.int .i32 1))) .nil)) .skip)<| .rg (Zm 48 6<|
 Zm 49 8<|
 Zm 50 10<|
 Zo (.conv 51 .u16 (.t 50))<|
 Zi 52 1 48 49<|
 Zs 1 52 51 .nil))<| .rg (Zk 53 .add 24 1<|
 Zm 24 53 .nil))<|Zr (Zm 54 6<|
 Zq 55 false 212 [.t 54]<|
 Zm 4 55<|
 Zc 5 0 .nil) .ret⟩
theorem Qai2:Qe Tryz.prog Tryz.f228=some c228:=by kernel_rfl
def c174:SFn:=⟨79,[.t 4],Zr (Zo (.mv 4 (.c .nilS)) .nil)<|Zr (Zm 11 0<|
 Zq 12 false 212 [.t 11]<|
 Zm 13 1<|
 Zq 14 false 212 [.t 13]<|
 Zm 0 12<|
 Zm 1 14 .nil)<| .seq (Zr (Zm 15 0<|
 Zn 16 15<|
 Zk 17 .eql 16 0<|
 Zm 18 17<|
 Zg 18 false (.mv 19 (.t 1))<|
 Zg 18 false (.len 20 (.t 19))<|
 Zg 18 false (.bin 21 .eql false (.t 20) (.c (Zz 0)))<|
 Zo (.pick 22 (.t 18) (.c (.bool true)) (.t 21)) .nil)<| .cond (.t 22) (Zr (Zo (.mv 4 (.c .nilS)) .nil) .ret) .skip)<|Zr (Zm 23 0<|
 Zn 24 23<|
 Zm 25 1<|
 Zn 26 25<|
 Zb 27 .add 24 26<|
 Zo (.mk 28 1 2 155 (.int .u16 0) (.t 27) (.t 27))<|
 Zm 5 28 .nil)<| .seq (Zr (Zm 29 0<|
 Zn 30 29<|
 Zc 31 0 .nil)<| .block 0<| .loop<|Zr (Zb 32 .lss 31 30 .nil)<| .seq (.cond (.t 32) .skip (.exit 0))<| .seq (.block 1<|Zr (Zm 33 31<|
 Zi 34 1 29 31<|
 Zl 35 1 34<|
 Zm 6 33<|
 Zm 7 35 .nil)<|Zr (Zo (.mv 8 (.c (.int .u32 0))) .nil)<| .seq (Zr (Zm 36 1<|
 Zn 37 36<|
 Zc 38 0 .nil)<| .block 2<| .loop<|Zr (Zb 39 .lss 38 37 .nil)<| .seq (.cond (.t 39) .skip (.exit 2))<| .seq (.block 3<|Zr (Zm 40 38<|
 Zi 41 1 36 38<|
 Zl 42 1 41<|
 Zm 9 40<|
 Zm 10 42 .nil)<|Zr (Zm 43 8<|
 Zm 44 5<|
 Zm 45 6<|
 Zm 46 9<|
 Zb 47 .add 45 46<|
 Zi 48 1 44 47<|
 Zl 49 1 48<|
 Zo (.conv 50 .u32 (.t 49))<|
 Zm 51 7<|
 Zo (.conv 52 .u32 (.t 51))<|
 Zm 53 10<|
 Zo (.conv 54 .u32 (.t 53))<|
 Zb 55 .mul 52 54<|
 Zb 56 .add 50 55<|
 Zb 57 .add 43 56<|
 Zm 8 57 .nil)<|Zr (Zm 58 5<|
 Zm 59 6<|
 Zm 60 9<|
 Zb 61 .add 59 60<|
 Zm 62 8<|
 Zo (.conv 63 .u16 (.t 62))<|
 Zi 64 1 58 61<|
 Zs 1 64 63 .nil)<| .rg (Zm 65 8<|
 Zo (.bin 66 .shr false (.t 65) (.c (.int .u64 16)))<|
 Zm 8 66 .nil))<| .rg (Zk 67 .add 38 1<|
 Zm 38 67 .nil))<| .rg (Zm 68 5<|
 Zm 69 6<|
 Zm 70 1<|
 Zn 71 70<|
 Zb 72 .add 69 71<|
 Zm 73 8<|
 Zo (.conv 74 .u16 (.t 73))<|
 Zi 75 1 68 72<|
 Zs 1 75 74 .nil))<| .rg (Zk 76 .add 31 1<|
 Zm 31 76 .nil))<|Zr (Zm 77 5<|
 Zq 78 false 212 [.t 77]<|
 Zm 4 78 .nil) .ret⟩
theorem Qai3:Qe Tryz.prog Tryz.f174=some c174:=by kernel_rfl
def c219:SFn:=⟨43,[.t 4,.t 5],Zr (Zo (.mv 4 (.c .nilS))<|
 Zo (.mv 5 (.c (.int .u16 0))) .nil)<|Zr (Zm 9 0<|
 Zn 10 9<|
 Zo (.mk 11 1 2 155 (.int .u16 0) (.t 10) (.t 10))<|
 Zm 6 11 .nil)<|Zr (Zo (.mv 7 (.c (.int .u32 0))) .nil)<| .seq (Zr (Zm 12 0<|
 Zn 13 12<|
 Zk 14 .sub 13 1<|
 Zm 8 14 .nil)<| .block 0<| .loop<| .seq (Zr (Zm 15 8<|
 Zk 16 .geq 15 0 .nil)<| .cond (.t 16) .skip (.exit 0))<| .seq (.block 1<|Zr (Zm 19 7<|
 Zo (.bin 20 .shl false (.t 19) (.c (.int .u64 16)))<|
 Zm 21 0<|
 Zm 22 8<|
 Zi 23 1 21 22<|
 Zl 24 1 23<|
 Zo (.conv 25 .u32 (.t 24))<|
 Zb 26 .or 20 25<|
 Zm 7 26 .nil)<|Zr (Zm 27 6<|
 Zm 28 8<|
 Zm 29 7<|
 Zm 30 1<|
 Zo (.conv 31 .u32 (.t 30))<|
 Zb 32 .quo 29 31<|
 Zo (.conv 33 .u16 (.t 32))<|
 Zi 34 1 27 28<|
 Zs 1 34 33 .nil)<| .rg (Zm 35 7<|
 Zm 36 1<|
 Zo (.conv 37 .u32 (.t 36))<|
 Zb 38 .rem 35 37<|
 Zm 7 38 .nil))<| .rg (Zm 17 8<|
 Zk 18 .sub 17 1<|
 Zm 8 18 .nil))<|Zr (Zm 39 6<|
 Zq 40 false 212 [.t 39]<|
 Zm 41 7<|
 Zo (.conv 42 .u16 (.t 41))<|
 Zm 4 40<|
 Zm 5 42 .nil) .ret⟩
theorem Qai4:Qe Tryz.prog Tryz.f219=some c219:=by kernel_rfl
def c192:SFn:=⟨71,[.t 4,.t 5,.t 6],Zr (Zo (.mv 4 (.c .nilS))<|
 Zo (.mv 5 (.c .nilS))<|
 Zc 6 0 .nil)<|Zr (Zm 12 0<|
 Zq 13 false 212 [.t 12]<|
 Zm 14 1<|
 Zq 15 false 212 [.t 14]<|
 Zm 0 13<|
 Zm 1 15 .nil)<| .seq (.block 0<|Zr (Zm 17 1<|
 Zn 18 17<|
 Zk 19 .eql 18 0<|
 Zm 16 19 .nil)<| .cond (.t 16) (Zr (Zo (.mv 4 (.c .nilS))<|
 Zo (.mv 5 (.c .nilS))<|
 Zc 6 3 .nil) .ret) (Zr (Zm 21 0<|
 Zm 22 1<|
 Zq 23 false 218 [.t 21,.t 22]<|
 Zk 24 .lss 23 0<|
 Zm 20 24 .nil)<| .cond (.t 20) (Zr (Zm 25 0<|
 Zq 26 false 190 [.t 25]<|
 Zo (.mv 4 (.c .nilS))<|
 Zm 5 26<|
 Zc 6 0 .nil) .ret) (Zr (Zm 28 1<|
 Zn 29 28<|
 Zk 30 .eql 29 1<|
 Zm 27 30 .nil)<| .cond (.t 27) (Zr (Zm 32 0<|
 Zm 33 1<|
 Zo (.idx 34 1 (.t 33) (.c (Zz 0)))<|
 Zl 35 1 34<|
 Zq 36 false 219 [.t 32,.t 35]<|
 Zm 31 36<|
 Zo (.ext 37 (.t 31) 0)<|
 Zo (.ext 38 (.t 31) 1)<|
 Zm 7 37<|
 Zm 8 38 .nil)<|Zr (Zm 39 7<|
 Zm 40 8<|
 Zo (.conv 41 .u64 (.t 40))<|
 Zq 42 false 189 [.t 41]<|
 Zm 4 39<|
 Zm 5 42<|
 Zc 6 0 .nil) .ret) .skip)))<|Zr (Zm 43 1<|
 Zm 44 1<|
 Zn 45 44<|
 Zk 46 .sub 45 1<|
 Zi 47 1 43 46<|
 Zl 48 1 47<|
 Zq 49 false 220 [.t 48]<|
 Zm 9 49 .nil)<|Zr (Zm 50 0<|
 Zm 51 9<|
 Zq 52 false 221 [.t 50,.t 51]<|
 Zo (.bs 53 1 155 [.c (.int .u16 0),.c (.int .u16 0)])<|
 Zo (.app 54 1 2 155 (.t 52) (.t 53))<|
 Zm 55 0<|
 Zn 56 55<|
 Zk 57 .add 56 1<|
 Zo (.sl 58 1 (.t 54) none (some (.t 57)) none)<|
 Zm 10 58 .nil)<|Zr (Zm 59 1<|
 Zm 60 9<|
 Zq 61 false 221 [.t 59,.t 60]<|
 Zm 11 61 .nil)<|Zr (Zm 62 10<|
 Zm 63 11<|
 Zq 64 false 222 [.t 62,.t 63]<|
 Zm 4 64 .nil)<|Zr (Zm 65 4<|
 Zm 66 10<|
 Zq 67 false 212 [.t 66]<|
 Zm 68 9<|
 Zo (.un 69 .neg (.t 68))<|
 Zq 70 false 221 [.t 67,.t 69]<|
 Zm 4 65<|
 Zm 5 70<|
 Zc 6 0 .nil) .ret⟩
theorem Qai5:Qe Tryz.prog Tryz.f192=some c192:=by kernel_rfl
def c230:SFn:=⟨31,[.t 6],Zr (Zo (.mv 6 (.c (.bool false))) .nil)<|Zr (Zl 7 1 0<|
 Zo (.bin 8 .geq false (.t 7) (.c (.int .u64 65536)))<|
 Zm 9 8<|
 Zg 9 false (.ld 10 1 false (.t 0))<|
 Zg 9 false (.ld 11 1 false (.t 1))<|
 Zg 9 false (.ld 12 1 false (.t 2))<|
 Zg 9 false (.bin 13 .sub false (.t 12) (.c (Zz 2)))<|
 Zg 9 false (.idx 14 1 (.t 11) (.t 13))<|
 Zg 9 false (.ld 15 1 false (.t 14))<|
 Zg 9 false (.conv 16 .u64 (.t 15))<|
 Zg 9 false (.bin 17 .mul false (.t 10) (.t 16))<|
 Zg 9 false (.ld 18 1 false (.t 3))<|
 Zg 9 false (.bin 19 .shl false (.t 18) (.c (.int .u64 16)))<|
 Zg 9 false (.ld 20 1 false (.t 4))<|
 Zg 9 false (.ld 21 1 false (.t 5))<|
 Zg 9 false (.ld 22 1 false (.t 2))<|
 Zg 9 false (.bin 23 .add false (.t 21) (.t 22))<|
 Zg 9 false (.bin 24 .sub false (.t 23) (.c (Zz 2)))<|
 Zg 9 false (.idx 25 1 (.t 20) (.t 24))<|
 Zg 9 false (.ld 26 1 false (.t 25))<|
 Zg 9 false (.conv 27 .u64 (.t 26))<|
 Zg 9 false (.bin 28 .or false (.t 19) (.t 27))<|
 Zg 9 false (.bin 29 .gtr false (.t 17) (.t 28))<|
 Zo (.pick 30 (.t 9) (.c (.bool true)) (.t 29))<|
 Zm 6 30 .nil) .ret⟩
theorem Qai6:Qe Tryz.prog Tryz.f230=some c230:=by kernel_rfl
def c231:SFn:=⟨54,[.t 6],Zr (Zo (.mv 6 (.c (.bool false))) .nil)<|Zr (Zo (.mv 7 (.c (.int .u32 0))) .nil)<|Zr (Zo (.mv 8 (.c (.int .i32 0))) .nil)<| .seq (Zr (Zm 11 0<|
 Zn 12 11<|
 Zc 13 0 .nil)<| .block 0<| .loop<|Zr (Zb 14 .lss 13 12 .nil)<| .seq (.cond (.t 14) .skip (.exit 0))<| .seq (.block 1<|Zr (Zm 15 13<|
 Zm 9 15 .nil)<| .seq (Zr (Zm 16 9<|
 Zm 17 1<|
 Zn 18 17<|
 Zb 19 .lss 16 18 .nil)<| .cond (.t 19) (.rg (Zm 20 7<|
 Zm 21 2<|
 Zm 22 1<|
 Zm 23 9<|
 Zi 24 1 22 23<|
 Zl 25 1 24<|
 Zo (.conv 26 .u32 (.t 25))<|
 Zb 27 .mul 21 26<|
 Zb 28 .add 20 27<|
 Zm 7 28 .nil)) .skip)<|Zr (Zm 29 0<|
 Zm 30 9<|
 Zi 31 1 29 30<|
 Zl 32 1 31<|
 Zo (.conv 33 .i32 (.t 32))<|
 Zm 34 7<|
 Zo (.conv 35 .u16 (.t 34))<|
 Zo (.conv 36 .i32 (.t 35))<|
 Zb 37 .sub 33 36<|
 Zm 38 8<|
 Zb 39 .sub 37 38<|
 Zm 10 39 .nil)<|Zr (Zm 40 7<|
 Zo (.bin 41 .shr false (.t 40) (.c (.int .u64 16)))<|
 Zm 7 41 .nil)<|Zr (Zo (.mv 8 (.c (.int .i32 0))) .nil)<| .seq (Zr (Zm 42 10<|
 Zo (.bin 43 .lss false (.t 42) (.c (.int .i32 0))) .nil)<| .cond (.t 43) (Zr (Zm 44 10<|
 Zo (.bin 45 .add false (.t 44) (.c (.int .i32 65536)))<|
 Zm 10 45 .nil)<| .rg (Zo (.mv 8 (.c (.int .i32 1))) .nil)) .skip)<| .rg (Zm 46 0<|
 Zm 47 9<|
 Zm 48 10<|
 Zo (.conv 49 .u16 (.t 48))<|
 Zi 50 1 46 47<|
 Zs 1 50 49 .nil))<| .rg (Zk 51 .add 13 1<|
 Zm 13 51 .nil))<|Zr (Zm 52 8<|
 Zo (.bin 53 .gtr false (.t 52) (.c (.int .i32 0)))<|
 Zm 6 53 .nil) .ret⟩
theorem Qai7:Qe Tryz.prog Tryz.f231=some c231:=by kernel_rfl
def c232:SFn:=⟨37,[],Zr (Zo (.mv 4 (.c (.int .u32 0))) .nil)<|Zr (Zm 6 0<|
 Zn 7 6<|
 Zc 8 0 .nil)<| .block 0<| .loop<|Zr (Zb 9 .lss 8 7 .nil)<| .seq (.cond (.t 9) .skip (.exit 0))<| .seq (.block 1<|Zr (Zm 10 8<|
 Zm 5 10 .nil)<|Zr (Zm 11 4<|
 Zm 12 0<|
 Zm 13 5<|
 Zi 14 1 12 13<|
 Zl 15 1 14<|
 Zo (.conv 16 .u32 (.t 15))<|
 Zb 17 .add 11 16<|
 Zm 4 17 .nil)<| .seq (Zr (Zm 18 5<|
 Zm 19 1<|
 Zn 20 19<|
 Zb 21 .lss 18 20 .nil)<| .cond (.t 21) (.rg (Zm 22 4<|
 Zm 23 1<|
 Zm 24 5<|
 Zi 25 1 23 24<|
 Zl 26 1 25<|
 Zo (.conv 27 .u32 (.t 26))<|
 Zb 28 .add 22 27<|
 Zm 4 28 .nil)) .skip)<|Zr (Zm 29 0<|
 Zm 30 5<|
 Zm 31 4<|
 Zo (.conv 32 .u16 (.t 31))<|
 Zi 33 1 29 30<|
 Zs 1 33 32 .nil)<| .rg (Zm 34 4<|
 Zo (.bin 35 .shr false (.t 34) (.c (.int .u64 16)))<|
 Zm 4 35 .nil))<| .rg (Zk 36 .add 8 1<|
 Zm 8 36 .nil)⟩
theorem Qai8:Qe Tryz.prog Tryz.f232=some c232:=by kernel_rfl
def c186:SFn:=⟨51,[.t 4],Zr (Zo (.mv 4 (.c .nilS)) .nil)<|Zr (Zm 12 0<|
 Zq 13 false 190 [.t 12]<|
 Zm 14 1<|
 Zq 15 false 190 [.t 14]<|
 Zm 0 13<|
 Zm 1 15 .nil)<| .seq (.block 0<| .loop<| .seq (Zr (Zm 16 1<|
 Zn 17 16<|
 Zk 18 .gtr 17 0 .nil)<| .cond (.t 18) .skip (.exit 0))<| .block 1<|Zr (Zm 20 0<|
 Zq 21 false 216 [.t 20]<|
 Zm 19 21<|
 Zo (.ext 22 (.t 19) 0)<|
 Zo (.ext 23 (.t 19) 1)<|
 Zm 5 22<|
 Zm 6 23 .nil)<|Zr (Zm 25 1<|
 Zq 26 false 216 [.t 25]<|
 Zm 24 26<|
 Zo (.ext 27 (.t 24) 0)<|
 Zo (.ext 28 (.t 24) 1)<|
 Zm 7 27<|
 Zm 8 28 .nil)<| .seq (Zr (Zm 29 6<|
 Zm 30 29<|
 Zg 30 true (.mv 31 (.t 8))<|
 Zo (.pick 32 (.t 30) (.t 31) (.c (.bool false))) .nil)<| .cond (.t 32) (.seq (.block 2<| .loop<| .seq (Zr (Zm 33 7<|
 Zo (.bin 34 .gtr false (.t 33) (.c (.int .u64 0))) .nil)<| .cond (.t 34) .skip (.exit 2))<| .block 3<| .rg (Zm 35 7<|
 Zm 36 5<|
 Zm 37 7<|
 Zb 38 .rem 36 37<|
 Zm 5 35<|
 Zm 7 38 .nil))<|Zr (Zm 39 5<|
 Zq 40 false 189 [.t 39]<|
 Zm 4 40 .nil) .ret) .skip)<|Zr (Zm 42 0<|
 Zm 43 1<|
 Zq 44 false 192 [.t 42,.t 43]<|
 Zm 41 44<|
 Zo (.ext 45 (.t 41) 0)<|
 Zo (.ext 46 (.t 41) 1)<|
 Zo (.ext 47 (.t 41) 2)<|
 Zm 9 45<|
 Zm 10 46<|
 Zm 11 47 .nil)<| .rg (Zm 48 1<|
 Zm 49 10<|
 Zm 0 48<|
 Zm 1 49 .nil))<|Zr (Zm 50 0<|
 Zm 4 50 .nil) .ret⟩
theorem Qai9:Qe Tryz.prog Tryz.f186=some c186:=by kernel_rfl
def Qtc:SFn:=⟨78,[.t 4],Zr (Zo (.mv 4 (.c .nilS)) .nil)<|Zr (Zm 11 0<|
 Zq 12 false 212 [.t 11]<|
 Zm 0 12 .nil)<| .seq (Zr (Zm 13 1<|
 Zk 14 .lss 13 (-1048576)<|
 Zm 15 14<|
 Zg 15 false (.mv 16 (.t 1))<|
 Zg 15 false (.bin 17 .gtr false (.t 16) (.c (Zz 1048576)))<|
 Zo (.pick 18 (.t 15) (.c (.bool true)) (.t 17))<|
 Zm 19 18<|
 Zg 19 false (.mv 20 (.t 0))<|
 Zg 19 false (.len 21 (.t 20))<|
 Zg 19 false (.bin 22 .eql false (.t 21) (.c (Zz 0)))<|
 Zo (.pick 23 (.t 19) (.c (.bool true)) (.t 22)) .nil)<| .cond (.t 23) (Zr (Zo (.mv 4 (.c .nilS)) .nil) .ret) .skip)<| .seq (Zr (Zm 24 1<|
 Zk 25 .lss 24 0 .nil)<| .cond (.t 25) (Zr (Zm 26 0<|
 Zm 27 1<|
 Zo (.un 28 .neg (.t 27))<|
 Zq 29 false 229 [.t 26,.t 28]<|
 Zm 4 29 .nil) .ret) .skip)<|Zr (Zm 30 1<|
 Zk 31 .quo 30 16<|
 Zm 32 1<|
 Zk 33 .rem 32 16<|
 Zm 5 31<|
 Zm 6 33 .nil)<|Zr (Zm 34 0<|
 Zn 35 34<|
 Zm 36 5<|
 Zb 37 .add 35 36<|
 Zk 38 .add 37 1<|
 Zm 39 0<|
 Zn 40 39<|
 Zm 41 5<|
 Zb 42 .add 40 41<|
 Zk 43 .add 42 3<|
 Zo (.mk 44 1 2 155 (.int .u16 0) (.t 38) (.t 43))<|
 Zm 7 44 .nil)<| .seq (Zr (Zm 45 0<|
 Zn 46 45<|
 Zc 47 0 .nil)<| .block 0<| .loop<|Zr (Zb 48 .lss 47 46 .nil)<| .seq (.cond (.t 48) .skip (.exit 0))<| .seq (.block 1<|Zr (Zm 49 47<|
 Zi 50 1 45 47<|
 Zl 51 1 50<|
 Zm 8 49<|
 Zm 9 51 .nil)<|Zr (Zm 52 9<|
 Zo (.conv 53 .u32 (.t 52))<|
 Zm 54 6<|
 Zb 55 .shl 53 54<|
 Zm 10 55 .nil)<|Zr (Zm 56 7<|
 Zm 57 8<|
 Zm 58 5<|
 Zb 59 .add 57 58<|
 Zi 60 1 56 59<|
 Zl 61 1 60<|
 Zm 62 10<|
 Zo (.conv 63 .u16 (.t 62))<|
 Zb 64 .or 61 63<|
 Zi 65 1 56 59<|
 Zs 1 65 64 .nil)<| .rg (Zm 66 7<|
 Zm 67 8<|
 Zm 68 5<|
 Zb 69 .add 67 68<|
 Zk 70 .add 69 1<|
 Zm 71 10<|
 Zo (.bin 72 .shr false (.t 71) (.c (.int .u64 16)))<|
 Zo (.conv 73 .u16 (.t 72))<|
 Zi 74 1 66 70<|
 Zs 1 74 73 .nil))<| .rg (Zk 75 .add 47 1<|
 Zm 47 75 .nil))<|Zr (Zm 76 7<|
 Zq 77 false 212 [.t 76]<|
 Zm 4 77 .nil) .ret⟩
theorem Qwf:Qe Tryz.prog Tryz.f221=some Qtc:=by kernel_rfl
def c229:SFn:=⟨63,[.t 4],Zr (Zo (.mv 4 (.c .nilS)) .nil)<|Zr (Zm 10 1<|
 Zk 11 .quo 10 16<|
 Zm 12 1<|
 Zk 13 .rem 12 16<|
 Zm 5 11<|
 Zm 6 13 .nil)<| .seq (Zr (Zm 14 5<|
 Zm 15 0<|
 Zn 16 15<|
 Zb 17 .geq 14 16 .nil)<| .cond (.t 17) (Zr (Zo (.mv 4 (.c .nilS)) .nil) .ret) .skip)<|Zr (Zm 18 0<|
 Zn 19 18<|
 Zm 20 5<|
 Zb 21 .sub 19 20<|
 Zo (.mk 22 1 2 155 (.int .u16 0) (.t 21) (.t 21))<|
 Zm 7 22 .nil)<| .seq (Zr (Zm 23 7<|
 Zn 24 23<|
 Zc 25 0 .nil)<| .block 0<| .loop<|Zr (Zb 26 .lss 25 24 .nil)<| .seq (.cond (.t 26) .skip (.exit 0))<| .seq (.block 1<|Zr (Zm 27 25<|
 Zm 8 27 .nil)<|Zr (Zm 28 0<|
 Zm 29 8<|
 Zm 30 5<|
 Zb 31 .add 29 30<|
 Zi 32 1 28 31<|
 Zl 33 1 32<|
 Zo (.conv 34 .u32 (.t 33))<|
 Zm 9 34 .nil)<| .seq (Zr (Zm 35 8<|
 Zm 36 5<|
 Zb 37 .add 35 36<|
 Zk 38 .add 37 1<|
 Zm 39 0<|
 Zn 40 39<|
 Zb 41 .lss 38 40 .nil)<| .cond (.t 41) (.rg (Zm 42 9<|
 Zm 43 0<|
 Zm 44 8<|
 Zm 45 5<|
 Zb 46 .add 44 45<|
 Zk 47 .add 46 1<|
 Zi 48 1 43 47<|
 Zl 49 1 48<|
 Zo (.conv 50 .u32 (.t 49))<|
 Zo (.bin 51 .shl false (.t 50) (.c (.int .u64 16)))<|
 Zb 52 .or 42 51<|
 Zm 9 52 .nil)) .skip)<| .rg (Zm 53 7<|
 Zm 54 8<|
 Zm 55 9<|
 Zm 56 6<|
 Zb 57 .shr 55 56<|
 Zo (.conv 58 .u16 (.t 57))<|
 Zi 59 1 53 54<|
 Zs 1 59 58 .nil))<| .rg (Zk 60 .add 25 1<|
 Zm 25 60 .nil))<|Zr (Zm 61 7<|
 Zq 62 false 212 [.t 61]<|
 Zm 4 62 .nil) .ret⟩
theorem Qaja:Qe Tryz.prog Tryz.f229=some c229:=by kernel_rfl
def c220:SFn:=⟨6,[.t 2],Zr (Zc 2 0 .nil)<|Zr (Zm 3 0<|
 Zq 4 false 214 [.t 3]<|
 Zo (.bin 5 .sub false (.c (Zz 16)) (.t 4))<|
 Zm 2 5 .nil) .ret⟩
theorem Qajb:Qe Tryz.prog Tryz.f220=some c220:=by kernel_rfl
def c217:SFn:=⟨15,[.cell 4 2 true],Zr (Zo (.alloc 4 2 49 (.agg [.bool false,.nilS])) .nil)<|Zr (Zm 5 1<|
 Zq 6 false 190 [.t 5]<|
 Zm 1 6 .nil)<|Zr (Zm 7 0<|
 Zm 8 7<|
 Zg 8 true (.mv 9 (.t 1))<|
 Zg 8 true (.len 10 (.t 9))<|
 Zg 8 true (.bin 11 .gtr false (.t 10) (.c (Zz 0)))<|
 Zo (.pick 12 (.t 8) (.t 11) (.c (.bool false)))<|
 Zm 13 1<|
 Zo (.bld 14 [.bool false,.nilS] [(0,1,.t 12),(1,1,.t 13)])<|
 Zs 2 4 14 .nil) .ret⟩
theorem Qajc:Qe Tryz.prog Tryz.f217=some c217:=by kernel_rfl
def c188:SFn:=⟨13,[.cell 4 2 true],Zr (Zo (.alloc 4 2 49 (.agg [.bool false,.nilS])) .nil)<|Zr (Zm 5 0<|
 Zm 6 5<|
 Zg 6 true (.mv 7 (.t 1))<|
 Zg 6 true (.len 8 (.t 7))<|
 Zg 6 true (.bin 9 .gtr false (.t 8) (.c (Zz 0)))<|
 Zo (.pick 10 (.t 6) (.t 9) (.c (.bool false)))<|
 Zm 11 1<|
 Zo (.bld 12 [.bool false,.nilS] [(0,1,.t 10),(1,1,.t 11)])<|
 Zs 2 4 12 .nil) .ret⟩
theorem Qajd:Qe Tryz.prog Tryz.f188=some c188:=by kernel_rfl
def c185:SFn:=⟨27,[.t 2],Zr (Zo (.box 1 2 49 (.t 0))<|
 Zo (.mv 2 (.c (.bool false))) .nil)<|Zr (Zf 4 1 1<|
 Zl 5 1 4<|
 Zn 6 5<|
 Zm 3 6 .nil)<|Zr (Zm 7 3<|
 Zk 8 .eql 7 0<|
 Zm 9 8<|
 Zg 9 true (.fld 10 0 (.t 1))<|
 Zg 9 true (.ld 11 1 false (.t 10))<|
 Zg 9 true (.un 12 .not (.t 11))<|
 Zo (.pick 13 (.t 9) (.t 12) (.c (.bool false)))<|
 Zm 14 13<|
 Zg 14 false (.mv 15 (.t 3))<|
 Zg 14 false (.bin 16 .gtr false (.t 15) (.c (Zz 0)))<|
 Zg 14 false (.mv 17 (.t 16))<|
 Zg 17 true (.fld 18 1 (.t 1))<|
 Zg 17 true (.ld 19 1 false (.t 18))<|
 Zg 17 true (.mv 20 (.t 3))<|
 Zg 17 true (.bin 21 .sub false (.t 20) (.c (Zz 1)))<|
 Zg 17 true (.idx 22 1 (.t 19) (.t 21))<|
 Zg 17 true (.ld 23 1 false (.t 22))<|
 Zg 17 true (.bin 24 .neq false (.t 23) (.c (.int .u16 0)))<|
 Zg 14 false (.pick 25 (.t 17) (.t 24) (.c (.bool false)))<|
 Zo (.pick 26 (.t 14) (.c (.bool true)) (.t 25))<|
 Zm 2 26 .nil) .ret⟩
theorem Qaje:Qe Tryz.prog Tryz.f185=some c185:=by kernel_rfl
def c191:SFn:=⟨8,[.cell 2 2 true],Zr (Zo (.box 1 2 49 (.t 0))<|
 Zo (.alloc 2 2 49 (.agg [.bool false,.nilS])) .nil)<|Zr (Zf 3 0 1<|
 Zl 4 1 3<|
 Zf 5 1 1<|
 Zl 6 1 5<|
 Zq 7 false 217 [.t 4,.t 6]<|
 Zs 2 2 7 .nil) .ret⟩
theorem Qajf:Qe Tryz.prog Tryz.f191=some c191:=by kernel_rfl
def c127:SFn:=⟨16,[.cell 2 2 true],Zr (Zo (.alloc 2 2 49 (.agg [.bool false,.nilS])) .nil)<| .seq (Zr (Zm 3 0<|
 Zk 4 .lss 3 0 .nil)<| .cond (.t 4) (Zr (Zm 5 0<|
 Zk 6 .add 5 1<|
 Zo (.un 7 .neg (.t 6))<|
 Zo (.conv 8 .u64 (.t 7))<|
 Zo (.bin 9 .add false (.t 8) (.c (.int .u64 1)))<|
 Zq 10 false 189 [.t 9]<|
 Zq 11 false 188 [.c (.bool true),.t 10]<|
 Zs 2 2 11 .nil) .ret) .skip)<|Zr (Zm 12 0<|
 Zo (.conv 13 .u64 (.t 12))<|
 Zq 14 false 189 [.t 13]<|
 Zq 15 false 188 [.c (.bool false),.t 14]<|
 Zs 2 2 15 .nil) .ret⟩
theorem Qajg:Qe Tryz.prog Tryz.f127=some c127:=by kernel_rfl
def c109:SFn:=⟨11,[.t 2],Zr (Zo (.box 1 2 49 (.t 0))<|
 Zc 2 0 .nil)<| .seq (.block 0<|Zr (Zf 4 1 1<|
 Zl 5 1 4<|
 Zq 6 false 178 [.t 5]<|
 Zk 7 .eql 6 0<|
 Zm 3 7 .nil)<| .cond (.t 3) (Zr (Zc 2 0 .nil) .ret) (Zr (Zf 9 0 1<|
 Zl 10 1 9<|
 Zm 8 10 .nil)<| .cond (.t 8) (Zr (Zc 2 (-1) .nil) .ret) .skip))<|Zr (Zc 2 1 .nil) .ret⟩
theorem Qajh:Qe Tryz.prog Tryz.f109=some c109:=by kernel_rfl
def c224:SFn:=⟨35,[.t 4],Zr (Zo (.box 2 2 49 (.t 0))<|
 Zo (.box 3 2 49 (.t 1))<|
 Zc 4 0 .nil)<|Zr (Zh 8 2 2<|
 Zh 10 2 3<|
 Zq 9 true 109 [.t 8]<|
 Zq 11 true 109 [.t 10]<|
 Zm 5 9<|
 Zm 6 11 .nil)<|Zr (Zo (.mv 7 (.c (.fn 233 [] []))) .nil)<| .seq (.block 0<|Zr (Zm 13 5<|
 Zm 14 6<|
 Zb 15 .lss 13 14<|
 Zm 12 15 .nil)<| .cond (.t 12) (Zr (Zc 4 (-1) .nil) .ret) (Zr (Zm 17 5<|
 Zm 18 6<|
 Zb 19 .gtr 17 18<|
 Zm 16 19 .nil)<| .cond (.t 16) (Zr (Zc 4 1 .nil) .ret) (Zr (Zm 21 5<|
 Zk 22 .lss 21 0<|
 Zm 20 22 .nil)<| .cond (.t 20) (Zr (Zm 23 7<|
 Zf 24 1 3<|
 Zl 25 1 24<|
 Zf 26 1 2<|
 Zl 27 1 26<|
 Zo (.call (some 28) false (.t 23) [.t 25,.t 27])<|
 Zm 4 28 .nil) .ret) .skip)))<|Zr (Zm 29 7<|
 Zf 30 1 2<|
 Zl 31 1 30<|
 Zf 32 1 3<|
 Zl 33 1 32<|
 Zo (.call (some 34) false (.t 29) [.t 31,.t 33])<|
 Zm 4 34 .nil) .ret⟩
theorem Qaji:Qe Tryz.prog Tryz.f224=some c224:=by kernel_rfl
def c233:SFn:=⟨8,[.t 4],Zr (Zc 4 0 .nil)<|Zr (Zm 5 0<|
 Zm 6 1<|
 Zq 7 false 218 [.t 5,.t 6]<|
 Zm 4 7 .nil) .ret⟩
theorem Qajj:Qe Tryz.prog Tryz.f233=some c233:=by kernel_rfl
def c213:SFn:=⟨40,[.cell 4 2 true],Zr (Zo (.box 2 2 49 (.t 0))<|
 Zo (.box 3 2 49 (.t 1))<|
 Zo (.alloc 4 2 49 (.agg [.bool false,.nilS])) .nil)<| .seq (Zr (Zf 7 0 2<|
 Zl 8 1 7<|
 Zf 9 0 3<|
 Zl 10 1 9<|
 Zo (.bin 11 .eql true (.t 8) (.t 10)) .nil)<| .cond (.t 11) (Zr (Zf 12 0 2<|
 Zl 13 1 12<|
 Zf 14 1 2<|
 Zl 15 1 14<|
 Zf 16 1 3<|
 Zl 17 1 16<|
 Zq 18 true 227 [.t 15,.t 17]<|
 Zq 19 true 188 [.t 13,.t 18]<|
 Zs 2 4 19 .nil) .ret) .skip)<| .seq (Zr (Zf 20 1 2<|
 Zl 21 1 20<|
 Zf 22 1 3<|
 Zl 23 1 22<|
 Zq 24 false 218 [.t 21,.t 23]<|
 Zk 25 .lss 24 0 .nil)<| .cond (.t 25) (.rg (Zh 26 2 3<|
 Zh 27 2 2<|
 Zs 2 2 26<|
 Zs 2 3 27 .nil)) .skip)<|Zr (Zf 29 1 2<|
 Zl 30 1 29<|
 Zf 31 1 3<|
 Zl 32 1 31<|
 Zq 33 false 228 [.t 30,.t 32]<|
 Zm 28 33<|
 Zo (.ext 34 (.t 28) 0)<|
 Zo (.ext 35 (.t 28) 1)<|
 Zm 5 34<|
 Zm 6 35 .nil)<|Zr (Zf 36 0 2<|
 Zl 37 1 36<|
 Zm 38 5<|
 Zq 39 false 188 [.t 37,.t 38]<|
 Zs 2 4 39 .nil) .ret⟩
theorem Qajk:Qe Tryz.prog Tryz.f213=some c213:=by kernel_rfl
def c173:SFn:=⟨16,[.cell 4 2 true],Zr (Zo (.box 2 2 49 (.t 0))<|
 Zo (.box 3 2 49 (.t 1))<|
 Zo (.alloc 4 2 49 (.agg [.bool false,.nilS])) .nil)<|Zr (Zf 5 0 2<|
 Zl 6 1 5<|
 Zf 7 0 3<|
 Zl 8 1 7<|
 Zo (.bin 9 .neq true (.t 6) (.t 8))<|
 Zf 10 1 2<|
 Zl 11 1 10<|
 Zf 12 1 3<|
 Zl 13 1 12<|
 Zq 14 true 174 [.t 11,.t 13]<|
 Zq 15 true 188 [.t 9,.t 14]<|
 Zs 2 4 15 .nil) .ret⟩
theorem Qajl:Qe Tryz.prog Tryz.f173=some c173:=by kernel_rfl
def c175:SFn:=⟨17,[.t 2],Zr (Zo (.mv 2 (.c (.bool false))) .nil)<|Zr (Zm 4 0<|
 Zn 5 4<|
 Zo (.bld 6 [Zz 0,.int .u16 0] [(0,1,.t 5)])<|
 Zo (.alloc 3 2 194 (.agg [Zz 0,.int .u16 0]))<|
 Zs 2 3 6 .nil)<| .seq (Zr (Zm 7 0<|
 Zn 8 7<|
 Zk 9 .gtr 8 0 .nil)<| .cond (.t 9) (.rg (Zm 10 0<|
 Zo (.idx 11 1 (.t 10) (.c (Zz 0)))<|
 Zl 12 1 11<|
 Zf 13 1 3<|
 Zs 1 13 12 .nil)) .skip)<|Zr (Zh 14 2 3<|
 Zo (.bld 15 [Zz 0,.int .u16 0] [(0,1,.c (Zz 1)),(1,1,.c (.int .u16 1))])<|
 Zo (.eqs 16 false (.t 14) (.t 15))<|
 Zm 2 16 .nil) .ret⟩
theorem Qajm:Qe Tryz.prog Tryz.f175=some c175:=by kernel_rfl
def c128:SFn:=⟨2,[.t 0],Zr (Zo (.mv 0 (.c .nilS)) .nil)<|Zr (Zo (.bs 1 1 155 [.c (.int .u16 1)])<|
 Zm 0 1 .nil) .ret⟩
theorem Qajn:Qe Tryz.prog Tryz.f128=some c128:=by kernel_rfl
def c129:SFn:=⟨52,[.cell 4 3 true],Zr (Zo (.box 2 2 49 (.t 0))<|
 Zo (.alloc 4 3 51 (.agg [.bool false,.nilS,.nilS])) .nil)<|Zr (Zm 6 1<|
 Zq 7 false 190 [.t 6]<|
 Zm 1 7 .nil)<|Zr (Zh 8 2 2<|
 Zq 9 false 191 [.t 8]<|
 Zs 2 2 9 .nil)<| .seq (Zr (Zm 10 1<|
 Zn 11 10<|
 Zk 12 .eql 11 0<|
 Zm 13 12<|
 Zg 13 false (.fld 14 1 (.t 2))<|
 Zg 13 false (.ld 15 1 false (.t 14))<|
 Zg 13 false (.len 16 (.t 15))<|
 Zg 13 false (.bin 17 .eql false (.t 16) (.c (Zz 0)))<|
 Zo (.pick 18 (.t 13) (.c (.bool true)) (.t 17)) .nil)<| .cond (.t 18) (Zr (Zq 19 false 128 []<|
 Zo (.bld 20 [.bool false,.nilS,.nilS] [(2,1,.t 19)])<|
 Zs 3 4 20 .nil) .ret) .skip)<| .seq (Zr (Zm 21 1<|
 Zq 22 false 175 [.t 21] .nil)<| .cond (.t 22) (Zr (Zh 23 2 2<|
 Zm 24 1<|
 Zo (.bld 25 [.bool false,.nilS,.nilS] [(0,2,.t 23),(2,1,.t 24)])<|
 Zs 3 4 25 .nil) .ret) .skip)<|Zr (Zf 26 1 2<|
 Zl 27 1 26<|
 Zm 28 1<|
 Zq 29 false 186 [.t 27,.t 28]<|
 Zm 5 29 .nil)<| .seq (Zr (Zm 30 5<|
 Zq 31 false 175 [.t 30]<|
 Zu 32 31 .nil)<| .cond (.t 32) (Zr (Zf 34 1 2<|
 Zl 35 1 34<|
 Zm 36 5<|
 Zq 37 false 192 [.t 35,.t 36]<|
 Zm 33 37<|
 Zo (.ext 38 (.t 33) 0)<|
 Zo (.ext 39 (.t 33) 1)<|
 Zo (.ext 40 (.t 33) 2)<|
 Zf 41 1 2<|
 Zs 1 41 38 .nil)<| .rg (Zm 43 1<|
 Zm 44 5<|
 Zq 45 false 192 [.t 43,.t 44]<|
 Zm 42 45<|
 Zo (.ext 46 (.t 42) 0)<|
 Zo (.ext 47 (.t 42) 1)<|
 Zo (.ext 48 (.t 42) 2)<|
 Zm 1 46 .nil)) .skip)<|Zr (Zh 49 2 2<|
 Zm 50 1<|
 Zo (.bld 51 [.bool false,.nilS,.nilS] [(0,2,.t 49),(2,1,.t 50)])<|
 Zs 3 4 51 .nil) .ret⟩
theorem Qajo:Qe Tryz.prog Tryz.f129=some c129:=by kernel_rfl
def c108:SFn:=⟨14,[.cell 2 2 true,.t 3],Zr (Zo (.box 1 3 51 (.t 0))<|
 Zo (.alloc 2 2 49 (.agg [.bool false,.nilS]))<|
 Zo (.mv 3 (.c .nilS)) .nil)<| .seq (Zr (Zf 4 2 1<|
 Zl 5 1 4<|
 Zq 6 false 178 [.t 5]<|
 Zk 7 .eql 6 0 .nil)<| .cond (.t 7) (Zr (Zo (.bld 8 [.bool false,.nilS] [])<|
 Zq 9 false 128 []<|
 Zs 2 2 8<|
 Zm 3 9 .nil) .ret) .skip)<|Zr (Zf 10 0 1<|
 Zh 11 2 10<|
 Zf 12 2 1<|
 .br (Zl 13 1 12<|
 Zs 2 2 11<|
 Zm 3 13 .nil) (Zs 2 2 11<|
 Zl 13 1 12<|
 Zm 3 13 .nil)) .ret⟩
theorem Qajp:Qe Tryz.prog Tryz.f108=some c108:=by kernel_rfl
def c177:SFn:=⟨5,[.cell 2 2 true],Zr (Zo (.alloc 2 2 49 (.agg [.bool false,.nilS])) .nil)<|Zr (Zm 3 0<|
 Zo (.bld 4 [.bool false,.nilS] [(1,1,.t 3)])<|
 Zs 2 2 4 .nil) .ret⟩
theorem Qajq:Qe Tryz.prog Tryz.f177=some c177:=by kernel_rfl
def c122:SFn:=⟨36,[.t 2],Zr (Zo (.box 1 3 51 (.t 0))<|
 Zo (.mv 2 (.c (.bool false))) .nil)<|Zr (Zf 4 2 1<|
 Zl 5 1 4<|
 Zn 6 5<|
 Zm 3 6 .nil)<| .seq (Zr (Zf 7 0 1<|
 Zh 8 2 7<|
 Zq 9 false 185 [.t 8]<|
 Zu 10 9<|
 Zm 11 10<|
 Zg 11 false (.mv 12 (.t 3))<|
 Zg 11 false (.bin 13 .eql false (.t 12) (.c (Zz 0)))<|
 Zo (.pick 14 (.t 11) (.c (.bool true)) (.t 13))<|
 Zm 15 14<|
 Zg 15 false (.fld 16 2 (.t 1))<|
 Zg 15 false (.ld 17 1 false (.t 16))<|
 Zg 15 false (.mv 18 (.t 3))<|
 Zg 15 false (.bin 19 .sub false (.t 18) (.c (Zz 1)))<|
 Zg 15 false (.idx 20 1 (.t 17) (.t 19))<|
 Zg 15 false (.ld 21 1 false (.t 20))<|
 Zg 15 false (.bin 22 .eql false (.t 21) (.c (.int .u16 0)))<|
 Zo (.pick 23 (.t 15) (.c (.bool true)) (.t 22)) .nil)<| .cond (.t 23) (Zr (Zo (.mv 2 (.c (.bool false))) .nil) .ret) .skip)<|Zr (Zf 24 2 1<|
 Zl 25 1 24<|
 Zq 26 false 175 [.t 25]<|
 Zm 27 26<|
 Zg 27 false (.fld 28 0 (.t 1))<|
 Zg 27 false (.fld 29 1 (.t 28))<|
 Zg 27 false (.ld 30 1 false (.t 29))<|
 Zg 27 false (.fld 31 2 (.t 1))<|
 Zg 27 false (.ld 32 1 false (.t 31))<|
 Zg 27 false (.call (some 33) false (.c (.fn 186 [] [])) [.t 30,.t 32])<|
 Zg 27 false (.call (some 34) false (.c (.fn 175 [] [])) [.t 33])<|
 Zo (.pick 35 (.t 27) (.c (.bool true)) (.t 34))<|
 Zm 2 35 .nil) .ret⟩
theorem Qajr:Qe Tryz.prog Tryz.f122=some c122:=by kernel_rfl
def c61:SFn:=⟨7,[.cell 2 3 true],Zr (Zo (.alloc 2 3 51 (.agg [.bool false,.nilS,.nilS])) .nil)<|Zr (Zm 3 0<|
 Zq 4 false 127 [.t 3]<|
 Zq 5 false 128 []<|
 Zo (.bld 6 [.bool false,.nilS,.nilS] [(0,2,.t 4),(2,1,.t 5)])<|
 Zs 3 2 6 .nil) .ret⟩
theorem Qaot:Qe Tryz.prog Tryz.f61=some c61:=by kernel_rfl
def c38:SFn:=⟨12,[.t 2],Zr (Zo (.box 1 3 51 (.t 0))<|
 Zc 2 0 .nil)<|Zr (Zh 6 3 1<|
 Zq 7 false 108 [.t 6]<|
 Zm 5 7<|
 Zo (.ext 8 (.t 5) 0)<|
 Zo (.ext 9 (.t 5) 1)<|
 Zo (.alloc 3 2 49 (.agg [.bool false,.nilS]))<|
 Zs 2 3 8<|
 Zm 4 9 .nil)<|Zr (Zh 10 2 3<|
 Zq 11 false 109 [.t 10]<|
 Zm 2 11 .nil) .ret⟩
theorem Qaou:Qe Tryz.prog Tryz.f38=some c38:=by kernel_rfl
def c204:SFn:=⟨40,[.t 4],Zr (Zo (.box 2 3 51 (.t 0))<|
 Zo (.box 3 3 51 (.t 1))<|
 Zc 4 0 .nil)<|Zr (Zh 11 3 2<|
 Zh 13 3 3<|
 Zq 12 true 38 [.t 11]<|
 Zq 14 true 38 [.t 13]<|
 Zm 5 12<|
 Zm 6 14 .nil)<| .seq (Zr (Zm 15 5<|
 Zm 16 6<|
 Zb 17 .neq 15 16 .nil)<| .cond (.t 17) (.seq (Zr (Zm 18 5<|
 Zm 19 6<|
 Zb 20 .lss 18 19 .nil)<| .cond (.t 20) (Zr (Zc 4 (-1) .nil) .ret) .skip)<|Zr (Zc 4 1 .nil) .ret) .skip)<|Zr (Zh 22 3 2<|
 Zq 23 false 108 [.t 22]<|
 Zm 21 23<|
 Zo (.ext 24 (.t 21) 0)<|
 Zo (.ext 25 (.t 21) 1)<|
 Zo (.alloc 7 2 49 (.agg [.bool false,.nilS]))<|
 Zs 2 7 24<|
 Zm 8 25 .nil)<|Zr (Zh 27 3 3<|
 Zq 28 false 108 [.t 27]<|
 Zm 26 28<|
 Zo (.ext 29 (.t 26) 0)<|
 Zo (.ext 30 (.t 26) 1)<|
 Zo (.alloc 9 2 49 (.agg [.bool false,.nilS]))<|
 Zs 2 9 29<|
 Zm 10 30 .nil)<|Zr (Zh 31 2 7<|
 Zm 32 10<|
 Zh 35 2 9<|
 Zm 36 8<|
 Zq 33 true 177 [.t 32]<|
 Zq 34 true 173 [.t 31,.t 33]<|
 Zq 37 true 177 [.t 36]<|
 Zq 38 true 173 [.t 35,.t 37]<|
 Zq 39 true 224 [.t 34,.t 38]<|
 Zm 4 39 .nil) .ret⟩
theorem Qajs:Qe Tryz.prog Tryz.f204=some c204:=by kernel_rfl
def c179:SFn:=⟨9,[.t 4],Zr (Zo (.box 2 3 51 (.t 0))<|
 Zo (.box 3 3 51 (.t 1))<|
 Zo (.mv 4 (.c (.bool false))) .nil)<|Zr (Zh 5 3 2<|
 Zh 6 3 3<|
 Zq 7 false 204 [.t 5,.t 6]<|
 Zk 8 .eql 7 0<|
 Zm 4 8 .nil) .ret⟩
theorem Qajt:Qe Tryz.prog Tryz.f179=some c179:=by kernel_rfl
def c176:SFn:=⟨17,[.cell 2 2 true],Zr (Zo (.alloc 2 2 49 (.agg [.bool false,.nilS])) .nil)<|Zr (Zo (.alloc 3 2 49 (.agg [.bool false,.nilS])) .nil)<| .seq (Zr (Zm 6 0<|
 Zn 7 6<|
 Zc 8 0 .nil)<| .block 0<| .loop<|Zr (Zb 9 .lss 8 7 .nil)<| .seq (.cond (.t 9) .skip (.exit 0))<| .seq (.block 1<|Zr (Zi 10 2 6 8<|
 Zh 11 2 10<|
 Zo (.alloc 5 2 49 (.agg [.bool false,.nilS]))<|
 Zs 2 5 11 .nil)<| .rg (Zh 12 2 3<|
 Zh 13 2 5<|
 Zq 14 false 213 [.t 12,.t 13]<|
 Zs 2 3 14 .nil))<| .rg (Zk 15 .add 8 1<|
 Zm 8 15 .nil))<|Zr (Zh 16 2 3<|
 Zs 2 2 16 .nil) .ret⟩
theorem Qaju:Qe Tryz.prog Tryz.f176=some c176:=by kernel_rfl
def c107:SFn:=⟨45,[.cell 4 3 true],Zr (Zo (.box 2 3 51 (.t 0))<|
 Zo (.box 3 3 51 (.t 1))<|
 Zo (.alloc 4 3 51 (.agg [.bool false,.nilS,.nilS])) .nil)<|Zr (Zh 10 3 2<|
 Zq 11 false 108 [.t 10]<|
 Zm 9 11<|
 Zo (.ext 12 (.t 9) 0)<|
 Zo (.ext 13 (.t 9) 1)<|
 Zo (.alloc 5 2 49 (.agg [.bool false,.nilS]))<|
 Zs 2 5 12<|
 Zm 6 13 .nil)<|Zr (Zh 15 3 3<|
 Zq 16 false 108 [.t 15]<|
 Zm 14 16<|
 Zo (.ext 17 (.t 14) 0)<|
 Zo (.ext 18 (.t 14) 1)<|
 Zo (.alloc 7 2 49 (.agg [.bool false,.nilS]))<|
 Zs 2 7 17<|
 Zm 8 18 .nil)<| .seq (Zr (Zm 19 6<|
 Zq 20 false 175 [.t 19]<|
 Zm 21 20<|
 Zg 21 true (.mv 22 (.t 8))<|
 Zg 21 true (.call (some 23) false (.c (.fn 175 [] [])) [.t 22])<|
 Zo (.pick 24 (.t 21) (.t 23) (.c (.bool false))) .nil)<| .cond (.t 24) (Zr (Zh 25 2 5<|
 Zh 26 2 7<|
 Zo (.bs 27 2 49 [.t 25,.t 26])<|
 Zq 28 false 176 [.t 27]<|
 Zm 29 6<|
 Zq 30 false 129 [.t 28,.t 29]<|
 Zs 3 4 30 .nil) .ret) .skip)<|Zr (Zh 31 2 5<|
 Zm 32 8<|
 Zh 35 2 7<|
 Zm 36 6<|
 Zm 41 6<|
 Zm 42 8<|
 Zq 33 true 177 [.t 32]<|
 Zq 34 true 173 [.t 31,.t 33]<|
 Zq 37 true 177 [.t 36]<|
 Zq 38 true 173 [.t 35,.t 37]<|
 Zo (.bs 39 2 49 [.t 34,.t 38])<|
 Zq 40 true 176 [.t 39]<|
 Zq 43 true 174 [.t 41,.t 42]<|
 Zq 44 true 129 [.t 40,.t 43]<|
 Zs 3 4 44 .nil) .ret⟩
theorem Qajv:Qe Tryz.prog Tryz.f107=some c107:=by kernel_rfl
def c181:SFn:=⟨18,[.cell 4 3 true],Zr (Zo (.box 2 3 51 (.t 0))<|
 Zo (.box 3 3 51 (.t 1))<|
 Zo (.alloc 4 3 51 (.agg [.bool false,.nilS,.nilS])) .nil)<|Zr (Zh 5 3 2<|
 Zf 6 0 3<|
 Zf 7 0 6<|
 Zl 8 1 7<|
 Zu 9 8<|
 Zf 10 0 3<|
 Zf 11 1 10<|
 Zl 12 1 11<|
 Zo (.bld 13 [.bool false,.nilS] [(0,1,.t 9),(1,1,.t 12)])<|
 Zf 14 2 3<|
 Zl 15 1 14<|
 Zo (.bld 16 [.bool false,.nilS,.nilS] [(0,2,.t 13),(2,1,.t 15)])<|
 Zq 17 false 107 [.t 5,.t 16]<|
 Zs 3 4 17 .nil) .ret⟩
theorem Qajw:Qe Tryz.prog Tryz.f181=some c181:=by kernel_rfl
def c105:SFn:=⟨26,[.cell 4 3 true],Zr (Zo (.box 2 3 51 (.t 0))<|
 Zo (.box 3 3 51 (.t 1))<|
 Zo (.alloc 4 3 51 (.agg [.bool false,.nilS,.nilS])) .nil)<|Zr (Zh 10 3 2<|
 Zq 11 false 108 [.t 10]<|
 Zm 9 11<|
 Zo (.ext 12 (.t 9) 0)<|
 Zo (.ext 13 (.t 9) 1)<|
 Zo (.alloc 5 2 49 (.agg [.bool false,.nilS]))<|
 Zs 2 5 12<|
 Zm 6 13 .nil)<|Zr (Zh 15 3 3<|
 Zq 16 false 108 [.t 15]<|
 Zm 14 16<|
 Zo (.ext 17 (.t 14) 0)<|
 Zo (.ext 18 (.t 14) 1)<|
 Zo (.alloc 7 2 49 (.agg [.bool false,.nilS]))<|
 Zs 2 7 17<|
 Zm 8 18 .nil)<|Zr (Zh 19 2 5<|
 Zh 20 2 7<|
 Zq 21 false 173 [.t 19,.t 20]<|
 Zm 22 6<|
 Zm 23 8<|
 Zq 24 false 174 [.t 22,.t 23]<|
 Zq 25 false 129 [.t 21,.t 24]<|
 Zs 3 4 25 .nil) .ret⟩
theorem Qajx:Qe Tryz.prog Tryz.f105=some c105:=by kernel_rfl
def c62:SFn:=⟨18,[.cell 2 3 true],Zr (Zo (.box 1 3 51 (.t 0))<|
 Zo (.alloc 2 3 51 (.agg [.bool false,.nilS,.nilS])) .nil)<|Zr (Zh 6 3 1<|
 Zq 7 false 108 [.t 6]<|
 Zm 5 7<|
 Zo (.ext 8 (.t 5) 0)<|
 Zo (.ext 9 (.t 5) 1)<|
 Zo (.alloc 3 2 49 (.agg [.bool false,.nilS]))<|
 Zs 2 3 8<|
 Zm 4 9 .nil)<|Zr (Zf 10 0 3<|
 Zl 11 1 10<|
 Zu 12 11<|
 Zf 13 1 3<|
 Zl 14 1 13<|
 Zo (.bld 15 [.bool false,.nilS] [(0,1,.t 12),(1,1,.t 14)])<|
 Zm 16 4<|
 Zq 17 false 129 [.t 15,.t 16]<|
 Zs 3 2 17 .nil) .ret⟩
theorem Qaov:Qe Tryz.prog Tryz.f62=some c62:=by kernel_rfl
def c187:SFn:=⟨21,[.cell 4 3 true,.t 5],Zr (Zo (.box 2 2 49 (.t 0))<|
 Zo (.box 3 2 49 (.t 1))<|
 Zo (.alloc 4 3 51 (.agg [.bool false,.nilS,.nilS]))<|
 Zc 5 0 .nil)<| .seq (Zr (Zh 6 2 3<|
 Zq 7 false 109 [.t 6]<|
 Zk 8 .eql 7 0 .nil)<| .cond (.t 8) (Zr (Zo (.bld 9 [.bool false,.nilS,.nilS] [])<|
 Zs 3 4 9<|
 Zc 5 3 .nil) .ret) .skip)<|Zr (Zf 10 0 2<|
 Zl 11 1 10<|
 Zf 12 0 3<|
 Zl 13 1 12<|
 Zo (.bin 14 .neq true (.t 11) (.t 13))<|
 Zf 15 1 2<|
 Zl 16 1 15<|
 Zo (.bld 17 [.bool false,.nilS] [(0,1,.t 14),(1,1,.t 16)])<|
 Zf 18 1 3<|
 Zl 19 1 18<|
 Zq 20 false 129 [.t 17,.t 19]<|
 Zs 3 4 20<|
 Zc 5 0 .nil) .ret⟩
theorem Qajy:Qe Tryz.prog Tryz.f187=some c187:=by kernel_rfl
def c123:SFn:=⟨31,[.cell 4 3 true,.t 5],Zr (Zo (.box 2 3 51 (.t 0))<|
 Zo (.box 3 3 51 (.t 1))<|
 Zo (.alloc 4 3 51 (.agg [.bool false,.nilS,.nilS]))<|
 Zc 5 0 .nil)<|Zr (Zh 11 3 2<|
 Zq 12 false 108 [.t 11]<|
 Zm 10 12<|
 Zo (.ext 13 (.t 10) 0)<|
 Zo (.ext 14 (.t 10) 1)<|
 Zo (.alloc 6 2 49 (.agg [.bool false,.nilS]))<|
 Zs 2 6 13<|
 Zm 7 14 .nil)<|Zr (Zh 16 3 3<|
 Zq 17 false 108 [.t 16]<|
 Zm 15 17<|
 Zo (.ext 18 (.t 15) 0)<|
 Zo (.ext 19 (.t 15) 1)<|
 Zo (.alloc 8 2 49 (.agg [.bool false,.nilS]))<|
 Zs 2 8 18<|
 Zm 9 19 .nil)<|Zr (Zh 20 2 6<|
 Zm 21 9<|
 Zh 24 2 8<|
 Zm 25 7<|
 Zq 22 true 177 [.t 21]<|
 Zq 23 true 173 [.t 20,.t 22]<|
 Zq 26 true 177 [.t 25]<|
 Zq 27 true 173 [.t 24,.t 26]<|
 Zq 28 true 187 [.t 23,.t 27]<|
 Zo (.ext 29 (.t 28) 0)<|
 Zo (.ext 30 (.t 28) 1)<|
 Zs 3 4 29<|
 Zm 5 30 .nil) .ret⟩
theorem Qajz:Qe Tryz.prog Tryz.f123=some c123:=by kernel_rfl
def c222:SFn:=⟨108,[.t 4],Zr (Zo (.box 2 1 47 (.t 0))<|
 Zo (.box 3 1 47 (.t 1))<|
 Zo (.mv 4 (.c .nilS)) .nil)<|Zr (Zl 12 1 3<|
 Zn 13 12<|
 Zo (.alloc 5 1 3 (Zz 0))<|
 Zs 1 5 13 .nil)<|Zr (Zl 14 1 2<|
 Zn 15 14<|
 Zl 16 1 5<|
 Zb 17 .sub 15 16<|
 Zo (.mk 18 1 2 155 (.int .u16 0) (.t 17) (.t 17))<|
 Zm 6 18 .nil)<| .seq (Zr (Zl 19 1 2<|
 Zn 20 19<|
 Zl 21 1 5<|
 Zb 22 .sub 20 21<|
 Zk 23 .sub 22 1<|
 Zo (.alloc 7 1 3 (Zz 0))<|
 Zs 1 7 23 .nil)<| .block 0<| .loop<| .seq (Zr (Zl 24 1 7<|
 Zk 25 .geq 24 0 .nil)<| .cond (.t 25) .skip (.exit 0))<| .seq (.block 1<|Zr (Zl 28 1 2<|
 Zl 29 1 7<|
 Zl 30 1 5<|
 Zb 31 .add 29 30<|
 Zi 32 1 28 31<|
 Zl 33 1 32<|
 Zo (.conv 34 .u64 (.t 33))<|
 Zo (.bin 35 .shl false (.t 34) (.c (.int .u64 16)))<|
 Zl 36 1 2<|
 Zl 37 1 7<|
 Zl 38 1 5<|
 Zb 39 .add 37 38<|
 Zk 40 .sub 39 1<|
 Zi 41 1 36 40<|
 Zl 42 1 41<|
 Zo (.conv 43 .u64 (.t 42))<|
 Zb 44 .or 35 43<|
 Zm 8 44 .nil)<|Zr (Zm 45 8<|
 Zl 46 1 3<|
 Zl 47 1 5<|
 Zk 48 .sub 47 1<|
 Zi 49 1 46 48<|
 Zl 50 1 49<|
 Zo (.conv 51 .u64 (.t 50))<|
 Zb 52 .quo 45 51<|
 Zm 53 8<|
 .br (Zl 54 1 3<|
 .br (Zl 55 1 5<|
 Zk 56 .sub 55 1<|
 Zi 57 1 54 56<|
 .br (Zl 58 1 57<|
 Zo (.conv 59 .u64 (.t 58))<|
 Zb 60 .rem 53 59<|
 .br (Zo (.alloc 9 1 112 (.int .u64 0))<|
 Zo (.alloc 10 1 112 (.int .u64 0))<|
 Zs 1 9 52<|
 Zs 1 10 60 .nil) (Zo (.alloc 10 1 112 (.int .u64 0))<|
 Zo (.alloc 9 1 112 (.int .u64 0))<|
 Zs 1 9 52<|
 Zs 1 10 60 .nil)) (.br (Zo (.alloc 9 1 112 (.int .u64 0))<|
 .br (Zl 58 1 57<|
 Zo (.conv 59 .u64 (.t 58))<|
 Zb 60 .rem 53 59<|
 Zo (.alloc 10 1 112 (.int .u64 0))<|
 Zs 1 9 52<|
 Zs 1 10 60 .nil) (Zo (.alloc 10 1 112 (.int .u64 0))<|
 .br (Zl 58 1 57<|
 Zo (.conv 59 .u64 (.t 58))<|
 Zb 60 .rem 53 59<|
 Zs 1 9 52<|
 Zs 1 10 60 .nil) (Zs 1 9 52<|
 Zl 58 1 57<|
 Zo (.conv 59 .u64 (.t 58))<|
 Zb 60 .rem 53 59<|
 Zs 1 10 60 .nil))) (Zo (.alloc 10 1 112 (.int .u64 0))<|
 .br (Zl 58 1 57<|
 Zo (.conv 59 .u64 (.t 58))<|
 Zb 60 .rem 53 59<|
 Zo (.alloc 9 1 112 (.int .u64 0))<|
 Zs 1 9 52<|
 Zs 1 10 60 .nil) (Zo (.alloc 9 1 112 (.int .u64 0))<|
 .br (Zl 58 1 57<|
 Zo (.conv 59 .u64 (.t 58))<|
 Zb 60 .rem 53 59<|
 Zs 1 9 52<|
 Zs 1 10 60 .nil) (Zs 1 9 52<|
 Zl 58 1 57<|
 Zo (.conv 59 .u64 (.t 58))<|
 Zb 60 .rem 53 59<|
 Zs 1 10 60 .nil))))) (.br (Zo (.alloc 9 1 112 (.int .u64 0))<|
 .br (Zl 55 1 5<|
 Zk 56 .sub 55 1<|
 Zi 57 1 54 56<|
 .br (Zl 58 1 57<|
 Zo (.conv 59 .u64 (.t 58))<|
 Zb 60 .rem 53 59<|
 Zo (.alloc 10 1 112 (.int .u64 0))<|
 Zs 1 9 52<|
 Zs 1 10 60 .nil) (Zo (.alloc 10 1 112 (.int .u64 0))<|
 .br (Zl 58 1 57<|
 Zo (.conv 59 .u64 (.t 58))<|
 Zb 60 .rem 53 59<|
 Zs 1 9 52<|
 Zs 1 10 60 .nil) (Zs 1 9 52<|
 Zl 58 1 57<|
 Zo (.conv 59 .u64 (.t 58))<|
 Zb 60 .rem 53 59<|
 Zs 1 10 60 .nil))) (Zo (.alloc 10 1 112 (.int .u64 0))<|
 .br (Zl 55 1 5<|
 Zk 56 .sub 55 1<|
 Zi 57 1 54 56<|
 .br (Zl 58 1 57<|
 Zo (.conv 59 .u64 (.t 58))<|
 Zb 60 .rem 53 59<|
 Zs 1 9 52<|
 Zs 1 10 60 .nil) (Zs 1 9 52<|
 Zl 58 1 57<|
 Zo (.conv 59 .u64 (.t 58))<|
 Zb 60 .rem 53 59<|
 Zs 1 10 60 .nil)) (Zs 1 9 52<|
 Zl 55 1 5<|
 Zk 56 .sub 55 1<|
 Zi 57 1 54 56<|
 Zl 58 1 57<|
 Zo (.conv 59 .u64 (.t 58))<|
 Zb 60 .rem 53 59<|
 Zs 1 10 60 .nil))) (Zo (.alloc 10 1 112 (.int .u64 0))<|
 .br (Zl 55 1 5<|
 Zk 56 .sub 55 1<|
 Zi 57 1 54 56<|
 .br (Zl 58 1 57<|
 Zo (.conv 59 .u64 (.t 58))<|
 Zb 60 .rem 53 59<|
 Zo (.alloc 9 1 112 (.int .u64 0))<|
 Zs 1 9 52<|
 Zs 1 10 60 .nil) (Zo (.alloc 9 1 112 (.int .u64 0))<|
 .br (Zl 58 1 57<|
 Zo (.conv 59 .u64 (.t 58))<|
 Zb 60 .rem 53 59<|
 Zs 1 9 52<|
 Zs 1 10 60 .nil) (Zs 1 9 52<|
 Zl 58 1 57<|
 Zo (.conv 59 .u64 (.t 58))<|
 Zb 60 .rem 53 59<|
 Zs 1 10 60 .nil))) (Zo (.alloc 9 1 112 (.int .u64 0))<|
 .br (Zl 55 1 5<|
 Zk 56 .sub 55 1<|
 Zi 57 1 54 56<|
 .br (Zl 58 1 57<|
 Zo (.conv 59 .u64 (.t 58))<|
 Zb 60 .rem 53 59<|
 Zs 1 9 52<|
 Zs 1 10 60 .nil) (Zs 1 9 52<|
 Zl 58 1 57<|
 Zo (.conv 59 .u64 (.t 58))<|
 Zb 60 .rem 53 59<|
 Zs 1 10 60 .nil)) (Zs 1 9 52<|
 Zl 55 1 5<|
 Zk 56 .sub 55 1<|
 Zi 57 1 54 56<|
 Zl 58 1 57<|
 Zo (.conv 59 .u64 (.t 58))<|
 Zb 60 .rem 53 59<|
 Zs 1 10 60 .nil))))) (.br (Zl 55 1 5<|
 Zk 56 .sub 55 1<|
 .br (Zl 54 1 3<|
 Zi 57 1 54 56<|
 .br (Zl 58 1 57<|
 Zo (.conv 59 .u64 (.t 58))<|
 Zb 60 .rem 53 59<|
 .br (Zo (.alloc 9 1 112 (.int .u64 0))<|
 Zo (.alloc 10 1 112 (.int .u64 0))<|
 Zs 1 9 52<|
 Zs 1 10 60 .nil) (Zo (.alloc 10 1 112 (.int .u64 0))<|
 Zo (.alloc 9 1 112 (.int .u64 0))<|
 Zs 1 9 52<|
 Zs 1 10 60 .nil)) (.br (Zo (.alloc 9 1 112 (.int .u64 0))<|
 .br (Zl 58 1 57<|
 Zo (.conv 59 .u64 (.t 58))<|
 Zb 60 .rem 53 59<|
 Zo (.alloc 10 1 112 (.int .u64 0))<|
 Zs 1 9 52<|
 Zs 1 10 60 .nil) (Zo (.alloc 10 1 112 (.int .u64 0))<|
 .br (Zl 58 1 57<|
 Zo (.conv 59 .u64 (.t 58))<|
 Zb 60 .rem 53 59<|
 Zs 1 9 52<|
 Zs 1 10 60 .nil) (Zs 1 9 52<|
 Zl 58 1 57<|
 Zo (.conv 59 .u64 (.t 58))<|
 Zb 60 .rem 53 59<|
 Zs 1 10 60 .nil))) (Zo (.alloc 10 1 112 (.int .u64 0))<|
 .br (Zl 58 1 57<|
 Zo (.conv 59 .u64 (.t 58))<|
 Zb 60 .rem 53 59<|
 Zo (.alloc 9 1 112 (.int .u64 0))<|
 Zs 1 9 52<|
 Zs 1 10 60 .nil) (Zo (.alloc 9 1 112 (.int .u64 0))<|
 .br (Zl 58 1 57<|
 Zo (.conv 59 .u64 (.t 58))<|
 Zb 60 .rem 53 59<|
 Zs 1 9 52<|
 Zs 1 10 60 .nil) (Zs 1 9 52<|
 Zl 58 1 57<|
 Zo (.conv 59 .u64 (.t 58))<|
 Zb 60 .rem 53 59<|
 Zs 1 10 60 .nil))))) (.br (Zo (.alloc 9 1 112 (.int .u64 0))<|
 .br (Zl 54 1 3<|
 Zi 57 1 54 56<|
 .br (Zl 58 1 57<|
 Zo (.conv 59 .u64 (.t 58))<|
 Zb 60 .rem 53 59<|
 Zo (.alloc 10 1 112 (.int .u64 0))<|
 Zs 1 9 52<|
 Zs 1 10 60 .nil) (Zo (.alloc 10 1 112 (.int .u64 0))<|
 .br (Zl 58 1 57<|
 Zo (.conv 59 .u64 (.t 58))<|
 Zb 60 .rem 53 59<|
 Zs 1 9 52<|
 Zs 1 10 60 .nil) (Zs 1 9 52<|
 Zl 58 1 57<|
 Zo (.conv 59 .u64 (.t 58))<|
 Zb 60 .rem 53 59<|
 Zs 1 10 60 .nil))) (Zo (.alloc 10 1 112 (.int .u64 0))<|
 .br (Zl 54 1 3<|
 Zi 57 1 54 56<|
 .br (Zl 58 1 57<|
 Zo (.conv 59 .u64 (.t 58))<|
 Zb 60 .rem 53 59<|
 Zs 1 9 52<|
 Zs 1 10 60 .nil) (Zs 1 9 52<|
 Zl 58 1 57<|
 Zo (.conv 59 .u64 (.t 58))<|
 Zb 60 .rem 53 59<|
 Zs 1 10 60 .nil)) (Zs 1 9 52<|
 Zl 54 1 3<|
 Zi 57 1 54 56<|
 Zl 58 1 57<|
 Zo (.conv 59 .u64 (.t 58))<|
 Zb 60 .rem 53 59<|
 Zs 1 10 60 .nil))) (Zo (.alloc 10 1 112 (.int .u64 0))<|
 .br (Zl 54 1 3<|
 Zi 57 1 54 56<|
 .br (Zl 58 1 57<|
 Zo (.conv 59 .u64 (.t 58))<|
 Zb 60 .rem 53 59<|
 Zo (.alloc 9 1 112 (.int .u64 0))<|
 Zs 1 9 52<|
 Zs 1 10 60 .nil) (Zo (.alloc 9 1 112 (.int .u64 0))<|
 .br (Zl 58 1 57<|
 Zo (.conv 59 .u64 (.t 58))<|
 Zb 60 .rem 53 59<|
 Zs 1 9 52<|
 Zs 1 10 60 .nil) (Zs 1 9 52<|
 Zl 58 1 57<|
 Zo (.conv 59 .u64 (.t 58))<|
 Zb 60 .rem 53 59<|
 Zs 1 10 60 .nil))) (Zo (.alloc 9 1 112 (.int .u64 0))<|
 .br (Zl 54 1 3<|
 Zi 57 1 54 56<|
 .br (Zl 58 1 57<|
 Zo (.conv 59 .u64 (.t 58))<|
 Zb 60 .rem 53 59<|
 Zs 1 9 52<|
 Zs 1 10 60 .nil) (Zs 1 9 52<|
 Zl 58 1 57<|
 Zo (.conv 59 .u64 (.t 58))<|
 Zb 60 .rem 53 59<|
 Zs 1 10 60 .nil)) (Zs 1 9 52<|
 Zl 54 1 3<|
 Zi 57 1 54 56<|
 Zl 58 1 57<|
 Zo (.conv 59 .u64 (.t 58))<|
 Zb 60 .rem 53 59<|
 Zs 1 10 60 .nil))))) (.br (Zo (.alloc 9 1 112 (.int .u64 0))<|
 .br (Zl 54 1 3<|
 .br (Zl 55 1 5<|
 Zk 56 .sub 55 1<|
 Zi 57 1 54 56<|
 .br (Zl 58 1 57<|
 Zo (.conv 59 .u64 (.t 58))<|
 Zb 60 .rem 53 59<|
 Zo (.alloc 10 1 112 (.int .u64 0))<|
 Zs 1 9 52<|
 Zs 1 10 60 .nil) (Zo (.alloc 10 1 112 (.int .u64 0))<|
 .br (Zl 58 1 57<|
 Zo (.conv 59 .u64 (.t 58))<|
 Zb 60 .rem 53 59<|
 Zs 1 9 52<|
 Zs 1 10 60 .nil) (Zs 1 9 52<|
 Zl 58 1 57<|
 Zo (.conv 59 .u64 (.t 58))<|
 Zb 60 .rem 53 59<|
 Zs 1 10 60 .nil))) (Zo (.alloc 10 1 112 (.int .u64 0))<|
 .br (Zl 55 1 5<|
 Zk 56 .sub 55 1<|
 Zi 57 1 54 56<|
 .br (Zl 58 1 57<|
 Zo (.conv 59 .u64 (.t 58))<|
 Zb 60 .rem 53 59<|
 Zs 1 9 52<|
 Zs 1 10 60 .nil) (Zs 1 9 52<|
 Zl 58 1 57<|
 Zo (.conv 59 .u64 (.t 58))<|
 Zb 60 .rem 53 59<|
 Zs 1 10 60 .nil)) (Zs 1 9 52<|
 Zl 55 1 5<|
 Zk 56 .sub 55 1<|
 Zi 57 1 54 56<|
 Zl 58 1 57<|
 Zo (.conv 59 .u64 (.t 58))<|
 Zb 60 .rem 53 59<|
 Zs 1 10 60 .nil))) (.br (Zl 55 1 5<|
 Zk 56 .sub 55 1<|
 .br (Zl 54 1 3<|
 Zi 57 1 54 56<|
 .br (Zl 58 1 57<|
 Zo (.conv 59 .u64 (.t 58))<|
 Zb 60 .rem 53 59<|
 Zo (.alloc 10 1 112 (.int .u64 0))<|
 Zs 1 9 52<|
 Zs 1 10 60 .nil) (Zo (.alloc 10 1 112 (.int .u64 0))<|
 .br (Zl 58 1 57<|
 Zo (.conv 59 .u64 (.t 58))<|
 Zb 60 .rem 53 59<|
 Zs 1 9 52<|
 Zs 1 10 60 .nil) (Zs 1 9 52<|
 Zl 58 1 57<|
 Zo (.conv 59 .u64 (.t 58))<|
 Zb 60 .rem 53 59<|
 Zs 1 10 60 .nil))) (Zo (.alloc 10 1 112 (.int .u64 0))<|
 .br (Zl 54 1 3<|
 Zi 57 1 54 56<|
 .br (Zl 58 1 57<|
 Zo (.conv 59 .u64 (.t 58))<|
 Zb 60 .rem 53 59<|
 Zs 1 9 52<|
 Zs 1 10 60 .nil) (Zs 1 9 52<|
 Zl 58 1 57<|
 Zo (.conv 59 .u64 (.t 58))<|
 Zb 60 .rem 53 59<|
 Zs 1 10 60 .nil)) (Zs 1 9 52<|
 Zl 54 1 3<|
 Zi 57 1 54 56<|
 Zl 58 1 57<|
 Zo (.conv 59 .u64 (.t 58))<|
 Zb 60 .rem 53 59<|
 Zs 1 10 60 .nil))) (Zo (.alloc 10 1 112 (.int .u64 0))<|
 .br (Zl 54 1 3<|
 .br (Zl 55 1 5<|
 Zk 56 .sub 55 1<|
 Zi 57 1 54 56<|
 .br (Zl 58 1 57<|
 Zo (.conv 59 .u64 (.t 58))<|
 Zb 60 .rem 53 59<|
 Zs 1 9 52<|
 Zs 1 10 60 .nil) (Zs 1 9 52<|
 Zl 58 1 57<|
 Zo (.conv 59 .u64 (.t 58))<|
 Zb 60 .rem 53 59<|
 Zs 1 10 60 .nil)) (Zs 1 9 52<|
 Zl 55 1 5<|
 Zk 56 .sub 55 1<|
 Zi 57 1 54 56<|
 Zl 58 1 57<|
 Zo (.conv 59 .u64 (.t 58))<|
 Zb 60 .rem 53 59<|
 Zs 1 10 60 .nil)) (.br (Zl 55 1 5<|
 Zk 56 .sub 55 1<|
 .br (Zl 54 1 3<|
 Zi 57 1 54 56<|
 .br (Zl 58 1 57<|
 Zo (.conv 59 .u64 (.t 58))<|
 Zb 60 .rem 53 59<|
 Zs 1 9 52<|
 Zs 1 10 60 .nil) (Zs 1 9 52<|
 Zl 58 1 57<|
 Zo (.conv 59 .u64 (.t 58))<|
 Zb 60 .rem 53 59<|
 Zs 1 10 60 .nil)) (Zs 1 9 52<|
 Zl 54 1 3<|
 Zi 57 1 54 56<|
 Zl 58 1 57<|
 Zo (.conv 59 .u64 (.t 58))<|
 Zb 60 .rem 53 59<|
 Zs 1 10 60 .nil)) (Zs 1 9 52<|
 .br (Zl 54 1 3<|
 Zl 55 1 5<|
 Zk 56 .sub 55 1<|
 Zi 57 1 54 56<|
 Zl 58 1 57<|
 Zo (.conv 59 .u64 (.t 58))<|
 Zb 60 .rem 53 59<|
 Zs 1 10 60 .nil) (Zl 55 1 5<|
 Zk 56 .sub 55 1<|
 Zl 54 1 3<|
 Zi 57 1 54 56<|
 Zl 58 1 57<|
 Zo (.conv 59 .u64 (.t 58))<|
 Zb 60 .rem 53 59<|
 Zs 1 10 60 .nil)))))) (Zo (.alloc 10 1 112 (.int .u64 0))<|
 .br (Zl 54 1 3<|
 .br (Zl 55 1 5<|
 Zk 56 .sub 55 1<|
 Zi 57 1 54 56<|
 .br (Zl 58 1 57<|
 Zo (.conv 59 .u64 (.t 58))<|
 Zb 60 .rem 53 59<|
 Zo (.alloc 9 1 112 (.int .u64 0))<|
 Zs 1 9 52<|
 Zs 1 10 60 .nil) (Zo (.alloc 9 1 112 (.int .u64 0))<|
 .br (Zl 58 1 57<|
 Zo (.conv 59 .u64 (.t 58))<|
 Zb 60 .rem 53 59<|
 Zs 1 9 52<|
 Zs 1 10 60 .nil) (Zs 1 9 52<|
 Zl 58 1 57<|
 Zo (.conv 59 .u64 (.t 58))<|
 Zb 60 .rem 53 59<|
 Zs 1 10 60 .nil))) (Zo (.alloc 9 1 112 (.int .u64 0))<|
 .br (Zl 55 1 5<|
 Zk 56 .sub 55 1<|
 Zi 57 1 54 56<|
 .br (Zl 58 1 57<|
 Zo (.conv 59 .u64 (.t 58))<|
 Zb 60 .rem 53 59<|
 Zs 1 9 52<|
 Zs 1 10 60 .nil) (Zs 1 9 52<|
 Zl 58 1 57<|
 Zo (.conv 59 .u64 (.t 58))<|
 Zb 60 .rem 53 59<|
 Zs 1 10 60 .nil)) (Zs 1 9 52<|
 Zl 55 1 5<|
 Zk 56 .sub 55 1<|
 Zi 57 1 54 56<|
 Zl 58 1 57<|
 Zo (.conv 59 .u64 (.t 58))<|
 Zb 60 .rem 53 59<|
 Zs 1 10 60 .nil))) (.br (Zl 55 1 5<|
 Zk 56 .sub 55 1<|
 .br (Zl 54 1 3<|
 Zi 57 1 54 56<|
 .br (Zl 58 1 57<|
 Zo (.conv 59 .u64 (.t 58))<|
 Zb 60 .rem 53 59<|
 Zo (.alloc 9 1 112 (.int .u64 0))<|
 Zs 1 9 52<|
 Zs 1 10 60 .nil) (Zo (.alloc 9 1 112 (.int .u64 0))<|
 .br (Zl 58 1 57<|
 Zo (.conv 59 .u64 (.t 58))<|
 Zb 60 .rem 53 59<|
 Zs 1 9 52<|
 Zs 1 10 60 .nil) (Zs 1 9 52<|
 Zl 58 1 57<|
 Zo (.conv 59 .u64 (.t 58))<|
 Zb 60 .rem 53 59<|
 Zs 1 10 60 .nil))) (Zo (.alloc 9 1 112 (.int .u64 0))<|
 .br (Zl 54 1 3<|
 Zi 57 1 54 56<|
 .br (Zl 58 1 57<|
 Zo (.conv 59 .u64 (.t 58))<|
 Zb 60 .rem 53 59<|
 Zs 1 9 52<|
 Zs 1 10 60 .nil) (Zs 1 9 52<|
 Zl 58 1 57<|
 Zo (.conv 59 .u64 (.t 58))<|
 Zb 60 .rem 53 59<|
 Zs 1 10 60 .nil)) (Zs 1 9 52<|
 Zl 54 1 3<|
 Zi 57 1 54 56<|
 Zl 58 1 57<|
 Zo (.conv 59 .u64 (.t 58))<|
 Zb 60 .rem 53 59<|
 Zs 1 10 60 .nil))) (Zo (.alloc 9 1 112 (.int .u64 0))<|
 .br (Zl 54 1 3<|
 .br (Zl 55 1 5<|
 Zk 56 .sub 55 1<|
 Zi 57 1 54 56<|
 .br (Zl 58 1 57<|
 Zo (.conv 59 .u64 (.t 58))<|
 Zb 60 .rem 53 59<|
 Zs 1 9 52<|
 Zs 1 10 60 .nil) (Zs 1 9 52<|
 Zl 58 1 57<|
 Zo (.conv 59 .u64 (.t 58))<|
 Zb 60 .rem 53 59<|
 Zs 1 10 60 .nil)) (Zs 1 9 52<|
 Zl 55 1 5<|
 Zk 56 .sub 55 1<|
 Zi 57 1 54 56<|
 Zl 58 1 57<|
 Zo (.conv 59 .u64 (.t 58))<|
 Zb 60 .rem 53 59<|
 Zs 1 10 60 .nil)) (.br (Zl 55 1 5<|
 Zk 56 .sub 55 1<|
 .br (Zl 54 1 3<|
 Zi 57 1 54 56<|
 .br (Zl 58 1 57<|
 Zo (.conv 59 .u64 (.t 58))<|
 Zb 60 .rem 53 59<|
 Zs 1 9 52<|
 Zs 1 10 60 .nil) (Zs 1 9 52<|
 Zl 58 1 57<|
 Zo (.conv 59 .u64 (.t 58))<|
 Zb 60 .rem 53 59<|
 Zs 1 10 60 .nil)) (Zs 1 9 52<|
 Zl 54 1 3<|
 Zi 57 1 54 56<|
 Zl 58 1 57<|
 Zo (.conv 59 .u64 (.t 58))<|
 Zb 60 .rem 53 59<|
 Zs 1 10 60 .nil)) (Zs 1 9 52<|
 .br (Zl 54 1 3<|
 Zl 55 1 5<|
 Zk 56 .sub 55 1<|
 Zi 57 1 54 56<|
 Zl 58 1 57<|
 Zo (.conv 59 .u64 (.t 58))<|
 Zb 60 .rem 53 59<|
 Zs 1 10 60 .nil) (Zl 55 1 5<|
 Zk 56 .sub 55 1<|
 Zl 54 1 3<|
 Zi 57 1 54 56<|
 Zl 58 1 57<|
 Zo (.conv 59 .u64 (.t 58))<|
 Zb 60 .rem 53 59<|
 Zs 1 10 60 .nil)))))))))<|Zr (Zo (.fn 61 230 [] [.t 9,.t 3,.t 5,.t 10,.t 2,.t 7])<|
 Zm 11 61 .nil)<| .seq (.block 2<| .loop<| .seq (Zr (Zl 62 1 10<|
 Zo (.bin 63 .lss false (.t 62) (.c (.int .u64 65536)))<|
 Zm 64 63<|
 Zg 64 true (.mv 65 (.t 11))<|
 Zg 64 true (.call (some 66) false (.t 65) [])<|
 Zo (.pick 67 (.t 64) (.t 66) (.c (.bool false))) .nil)<| .cond (.t 67) .skip (.exit 2))<| .block 3<|Zr (Zl 68 1 9<|
 Zo (.bin 69 .sub false (.t 68) (.c (.int .u64 1)))<|
 Zs 1 9 69 .nil)<| .rg (Zl 70 1 10<|
 Zl 71 1 3<|
 Zl 72 1 5<|
 Zk 73 .sub 72 1<|
 Zi 74 1 71 73<|
 Zl 75 1 74<|
 Zo (.conv 76 .u64 (.t 75))<|
 Zb 77 .add 70 76<|
 Zs 1 10 77 .nil))<| .seq (Zr (Zl 78 1 2<|
 Zl 79 1 7<|
 Zl 80 1 7<|
 Zl 81 1 5<|
 Zb 82 .add 80 81<|
 Zk 83 .add 82 1<|
 Zo (.sl 84 1 (.t 78) (some (.t 79)) (some (.t 83)) none)<|
 Zl 85 1 3<|
 Zl 86 1 9<|
 Zo (.conv 87 .u32 (.t 86))<|
 Zq 88 false 231 [.t 84,.t 85,.t 87] .nil)<| .cond (.t 88) (Zr (Zl 89 1 9<|
 Zo (.bin 90 .sub false (.t 89) (.c (.int .u64 1)))<|
 Zs 1 9 90 .nil)<| .rg (Zl 91 1 2<|
 Zl 92 1 7<|
 Zl 93 1 7<|
 Zl 94 1 5<|
 Zb 95 .add 93 94<|
 Zk 96 .add 95 1<|
 Zo (.sl 97 1 (.t 91) (some (.t 92)) (some (.t 96)) none)<|
 Zl 98 1 3<|
 Zq 99 false 232 [.t 97,.t 98] .nil)) .skip)<| .rg (Zm 100 6<|
 Zl 101 1 7<|
 Zl 102 1 9<|
 Zo (.conv 103 .u16 (.t 102))<|
 Zi 104 1 100 101<|
 Zs 1 104 103 .nil))<| .seq (Zr (Zl 105 1 7 .nil)<| .rg (Zo (.alloc 7 1 3 (Zz 0))<|
 Zs 1 7 105 .nil))<| .rg (Zl 26 1 7<|
 Zk 27 .sub 26 1<|
 Zs 1 7 27 .nil))<|Zr (Zm 106 6<|
 Zq 107 false 212 [.t 106]<|
 Zm 4 107 .nil) .ret⟩
theorem Qaj0:Qe Tryz.prog Tryz.f222=some c222:=by kernel_rfl
theorem Qbq{l:List Nat}(hv:Qu l)(hl:l.length<2^42):Qd Tryz.prog 212 [PV.nat l] (· =PV.num (val l)):=by
 refine Qf Qq Tryz.func212 rfl Q4c (by simp[Q0c]) fun C hP=> ?_;simp only[Q0c,Zo,Zg,Zm,Zc,Zf,Zl,Zh,Zs,Zi,Zb,Zk,Zn,Zu,Zq,Zr,Zz]
 simp+decide (disch:=try exact D0) only[go_sem]
 refine Qfl (fun m fr hp=>m<=l.length/\cut l m=dig (val l)/\fr 0=PV.nat l/\fr 3= .int .i64 m/\hp=hp0) l.length ?_ ?_
 ·exact⟨Nat.le_refl _,Qnl hv,rfl,rfl,rfl⟩
 rintro n fr _ ⟨hn,hc,h0,h3,rfl⟩
 simp+decide (disch:=try exact D2 h0 h3) only[go_sem,h0,h3]
 refine Qaw (fun hg=> ?_) (fun hg=> ?_)
 ·simp+decide (disch:=first|omega|rfl|(simp+decide only[go_sem,h0,h3,Qk7,Qj8]<;>rfl)|fail) only[go_sem,h0,h3,Qk7,Qj8]
  obtain _|n:=n
  ·omega
  have e:((n+1:Nat):Int)-1=n:=by omega
  simp only[cut]at hc
  refine Qb (fun hz=> ?_) (fun hz=> ?_)
  ·rw[if_pos (by grind)]at hc
   simp+decide (disch:=try exact D3 h0 h3 e) only[go_sem,h0,h3,e]
   refine Qcn (m:=n) (by omega) ⟨by omega,hc,?_⟩
   simp+decide (disch:=try exact D3 h0 true_and and_true) only[go_sem,h0,true_and,and_true]
  ·simp+decide (disch:=first|omega|rfl|(simp+decide only[go_sem,h0,h3,Qj9]<;>rfl)|fail) only[go_sem,h0,h3,Qj9]
   rw[if_neg (by grind)]at hc
   exact Qc (by simp[hc]) rfl
 ·obtain rfl:n=0:=by omega
  simp+decide (disch:=first|omega|rfl|(simp+decide only[go_sem,h0,h3,Qj9]<;>rfl)|fail) only[go_sem,h0,h3,Qj9]
  exact Qc (by simp[<-hc,cut]) rfl
theorem Qkh{l:List Nat}(hv:Qu l)(hl:l.length<2^42):Qd Tryz.prog 190 [PV.nat l] (· =PV.num (val l)):=by
 have hd:=Qaz hv
 unfold nl at hd
 refine Qf Qq Tryz.func190 rfl Qaiw (by simp[c190]) fun C hP=> ?_;simp only[c190,Zo,Zg,Zm,Zc,Zf,Zl,Zh,Zs,Zi,Zb,Zk,Zn,Zu,Zq,Zr,Zz]
 simp+decide (disch:=try exact D0) only[go_sem]
 refine Qa hP (Qbq hv hl) rfl rfl rfl ?_
 simp+decide (disch:=try exact D0) only[go_sem]
 refine Qb (fun hz=> ?_) (fun hz=> ?_)
 ·simp+decide (disch:=try exact D0) only[go_sem]
  have:dig (val l)=[]:=List.length_eq_zero_iff.1 (by omega)
  exact Qew (by rw[PV.num,this];exact Qanx) rfl
 ·simp+decide (disch:=try exact D0) only[go_sem]
  rw[Qah7 rfl (by simp)]
  simp+decide (disch:=try exact D0) only[go_sem]
  exact Qrb rfl (by simp[List.take_of_length_le])
theorem Qrl{n:Nat}(hn:n<18446744073709551616):Qd Tryz.prog 189 [.int .u64 n] (· =PV.num n):=by
 have hlen:=Qe0 hn
 unfold nl at hlen
 refine Qf Qq Tryz.func189 rfl Qaix (by simp[c189]) fun C hP=> ?_;simp only[c189,Zo,Zg,Zm,Zc,Zf,Zl,Zh,Zs,Zi,Zb,Zk,Zn,Zu,Zq,Zr,Zz]
 simp+decide (disch:=try exact D0) only[go_sem]
 refine Qka (fun m fr hp=>∃done:List Nat,dig n=done++dig m/\m<=n/\fr 0= .int .u64 m/\fr 3= .ms 12 done.length/\hp 12=some ⟨1,155,done.map fun(x:Nat)=> .int .u16 x,false⟩) n (Q72 3 12 1 155 (by omega) ?_) ?_ ?_
 ·simp+decide (disch:=try exact D0) only[go_sem]
 ·refine⟨[],?_⟩
  simp+decide (disch:=first|omega|rfl|(simp+decide only[go_sem,List.nil_append,List.map_nil,List.length_nil,true_and,and_true,Nat.le_refl]<;>rfl)|fail) only[go_sem,List.nil_append,List.map_nil,List.length_nil,true_and,and_true,Nat.le_refl]
 rintro m fr hp ⟨done,hd,hm,h0,h3,hh⟩
 rw[hd,List.length_append]at hlen
 simp+decide (disch:=try exact D1 h0) only[go_sem,h0]
 refine Qb (fun hz=> ?_) (fun hz=> ?_)
 ·have hne:m≠0:=by omega
  have hd2:dig n=(done++[m%65536])++dig (m/65536):=by rw[hd,Qic hne];simp
  simp+decide (disch:=try exact D2 h0 h3) only[go_sem,h0,h3]
  rw[Qod (xs:=done.map fun(x:Nat)=> .int .u16 x) (T1 hh) rfl (by omega) (by simp) (by omega) (by omega)]
  simp+decide (disch:=first|omega|rfl|(simp+decide only[go_sem,h0,h3,Qlv,Qqb]<;>rfl)|fail) only[go_sem,h0,h3,Qlv,Qqb]
  refine Qcn (m:=m/65536) (by omega) ⟨done++[m%65536],hd2,by omega,?_⟩
  simp+decide (disch:=try exact D3 h0 h3 hh) only[go_sem,h0,h3,hh]
  simp
 ·obtain rfl:m=0:=by omega
  simp+decide (disch:=try exact D1 h3) only[go_sem,h3]
  exact Qrb hh (by simp[PV.num,PV.nat,hd,Qbj,List.take_of_length_le])
theorem Qov{a b:List Nat}(ha:Qu a)(hb:Qu b)(hla:a.length<2^40)(hlb:b.length<2^40):Qd Tryz.prog 218 [PV.nat a,PV.nat b] (· = .int .i64 (Qeo (val a) (val b))):=by
 have hda:=Qaz ha
 have hdb:=Qaz hb
 have hnl1:= @Qzn (val a) (val b)
 have hnl2:= @Qzn (val b) (val a)
 have hla':=Qv (val a)
 have hlb':=Qv (val b)
 have hva:=Qag (val a)
 have hvb:=Qag (val b)
 unfold nl at hda hdb hnl1 hnl2
 refine Qf Qq Tryz.func218 rfl Qai0 (by simp[c218]) fun C hP=> ?_;simp only[c218,Zo,Zg,Zm,Zc,Zf,Zl,Zh,Zs,Zi,Zb,Zk,Zn,Zu,Zq,Zr,Zz]
 simp+decide (disch:=try exact D0) only[go_sem]
 refine Qa hP (Qbq ha (by omega)) rfl rfl rfl ?_
 simp+decide (disch:=try exact D0) only[go_sem]
 refine Qa hP (Qbq hb (by omega)) rfl rfl rfl ?_
 simp+decide (disch:=try exact D0) only[go_sem]
 generalize val a=x at *
 generalize val b=y at *
 refine Qb (fun hz=> ?_) (fun hz=> ?_)
 ·simp+decide (disch:=try exact D0) only[go_sem]
  refine Qb (fun hz=> ?_) (fun hz=> ?_)
  ·simp+decide (disch:=try exact D0) only[go_sem]
   exact Qc (by rw[Qv2 (hnl1 (by omega))]) rfl
  ·simp+decide (disch:=try exact D0) only[go_sem]
   exact Qc (by rw[Qv3 (hnl2 (by omega))]) rfl
 simp+decide (disch:=try exact D0) only[go_sem]
 refine Qfl (fun m fr hp=>m<=(dig x).length/\val ((dig x).drop m)=val ((dig y).drop m)/\fr 0=PV.num x/\fr 1=PV.num y/\fr 5= .int .i64 ((m:Int)-1)/\hp=hp0) (dig x).length ?_ ?_
 ·refine⟨Nat.le_refl _,?_,?_⟩
  ·rw[List.drop_of_length_le (Nat.le_refl _),List.drop_of_length_le (by omega)]
  ·simp+decide (disch:=try exact D2 true_and and_true) only[go_sem,true_and,and_true]
 rintro m fr _ ⟨hm,hd,h0,h1,h5,rfl⟩
 simp+decide (disch:=try exact D3 h0 h1 h5) only[go_sem,h0,h1,h5]
 refine Qb (fun hg=> ?_) (fun hg=> ?_)
 ·obtain _|m:=m
  ·omega
  have e:((m+1:Nat):Int)-1=m:=by omega
  have hm1:m<(dig x).length:=by omega
  have hm2:m<(dig y).length:=by omega
  simp+decide (disch:=try exact D4 h0 h1 h5 e) only[go_sem,h0,h1,h5,e]
  refine Qb (fun hq=> ?_) (fun hq=> ?_)
  ·simp+decide (disch:=try exact D0) only[go_sem]
   exact Qc (by rw[Qv2];have:=Qw1 hla' hm1 hm2 (by omega) hd;omega) rfl
  simp+decide (disch:=try exact D4 h0 h1 h5 e) only[go_sem,h0,h1,h5,e]
  refine Qb (fun hq2=> ?_) (fun hq2=> ?_)
  ·simp+decide (disch:=try exact D0) only[go_sem]
   exact Qc (by rw[Qv3];have:=Qw1 hlb' hm2 hm1 (by omega) hd.symm;omega) rfl
  simp+decide (disch:=try exact D4 h0 h1 h5 e) only[go_sem,h0,h1,h5,e]
  refine Qcn (m:=m) (by omega) ⟨by omega,?_,?_⟩
  ·rw[Qc9 hm1,Qc9 hm2,hd];omega
  ·simp+decide (disch:=try exact D4 h0 h1 true_and and_true) only[go_sem,h0,h1,true_and,and_true]
 ·obtain rfl:m=0:=by omega
  simp+decide (disch:=try exact D0) only[go_sem]
  refine Qc ?_ rfl
  rw[Q30]
  simp at hd;omega
theorem Qaec{a b:List Nat}(ha:Qu a)(hb:Qu b)(hla:a.length<2^40)(hlb:b.length<2^40):Qd Tryz.prog 227 [PV.nat a,PV.nat b] (· =PV.num (val a+val b)):=by
 have hda:=Qaz ha
 have hdb:=Qaz hb
 unfold nl at hda hdb
 refine Qf Qq Tryz.func227 rfl Qai1 (by simp[c227]) fun C hP=> ?_;simp only[c227,Zo,Zg,Zm,Zc,Zf,Zl,Zh,Zs,Zi,Zb,Zk,Zn,Zu,Zq,Zr,Zz]
 simp+decide (disch:=try exact D0) only[go_sem]
 refine Qa hP (Qbq ha (by omega)) rfl rfl rfl ?_
 simp+decide (disch:=try exact D0) only[go_sem]
 refine Qa hP (Qbq hb (by omega)) rfl rfl rfl ?_
 simp+decide (disch:=try exact D0) only[go_sem]
 generalize val a=x0 at *
 generalize val b=y0 at *
 refine Qid (fun fr hp=>∃x y,x+y=x0+y0/\(dig x).length<2^40/\(dig y).length<=(dig x).length/\fr 0=PV.num x/\fr 1=PV.num y/\hp=hp0) ?_ ?_
 ·refine Qb (fun hz=> ?_) (fun hz=> ?_)
  ·simp+decide (disch:=try exact D0) only[go_sem]
   refine⟨y0,x0,by omega,by omega,by omega,?_⟩
   simp+decide (disch:=try exact D2 true_and and_true) only[go_sem,true_and,and_true]
  ·simp+decide (disch:=try exact D0) only[go_sem]
   refine⟨x0,y0,by omega,by omega,by omega,?_⟩
   simp+decide (disch:=try exact D2 true_and and_true) only[go_sem,true_and,and_true]
 rintro fr _ ⟨x,y,hsum,hx,hy,h0,h1,rfl⟩
 rw[<-hsum]
 clear hsum hda hdb
 have hxl:=Qv x
 have hyl:=Qv y
 simp+decide (disch:=try exact D2 h0 h1) only[go_sem,h0,h1]
 refine Qfl (fun m fr hp=>∃i c done,m=(dig x).length-i/\i<=(dig x).length/\c<=1/\done.length=i/\done++Qft ((dig x).drop i) ((dig y).drop i) c=dig (x+y)/\
  fr 1=PV.num y/\fr 5= .ms 25 (dig x).length/\fr 6= .int .u32 c/\fr 26=PV.num x/\fr 27= .int .i64 (dig x).length/\fr 28= .int .i64 i/\hp=Qw hp0 25 ⟨1,155,Qbk (done++List.replicate ((dig x).length-i) 0),false⟩) (dig x).length ?_ ?_
 ·refine⟨0,0,[],rfl,by omega,by omega,rfl,by simpa using Qacb hy,?_⟩
  simp+decide (disch:=first|omega|rfl|(simp+decide only[go_sem,h0,h1,true_and,and_true,Nat.sub_zero,List.nil_append]<;>rfl)|fail) only[go_sem,h0,h1,true_and,and_true,Nat.sub_zero,List.nil_append]
  simp
 rintro _ fr _ ⟨i,c,done,rfl,hi,hc,hdl,hd,h1,h5,h6,h26,h27,h28,rfl⟩
 simp+decide (disch:=try exact D3 h26 h27 h28) only[go_sem,h26,h27,h28]
 refine Qb (fun hg=> ?_) (fun hg=> ?_)
 ·have hi':i<(dig x).length:=by omega
  have hxi:=Qax hxl hi'
  rw[Q8g hi']at hd
  have hlen:=Qs3 (n:=(dig x).length-i) hdl (by omega:_=(dig x).length)
  simp+decide (disch:=try exact D6 h1 h5 h6 h26 h27 h28) only[go_sem,h1,h5,h6,h26,h27,h28]
  refine Qb (fun hq=> ?_) (fun hq=> ?_)
  ·have hq':i<(dig y).length:=by omega
   have hyi:=Qax hyl hq'
   rw[Qbz hq']at hd
   simp+decide (disch:=try exact D6 h1 h5 h6 h26 h27 h28) only[go_sem,h1,h5,h6,h26,h27,h28]
   refine Qcn (m:=(dig x).length-(i+1)) (by omega) ⟨i+1,_,_,rfl,by omega,?_,?_,(List.append_cons ..).symm.trans hd,?_⟩
   ·omega
   ·simp[hdl]
   ·simp+decide (disch:=first|omega|rfl|(simp+decide only[go_sem,h1,h5,h6,h26,h27,h28,true_and,and_true,Qfm,Nat.sub_sub]<;>rfl)|fail) only[go_sem,h1,h5,h6,h26,h27,h28,true_and,and_true,Qfm,Nat.sub_sub]
  ·rw[Qb0 (by omega)]at hd
   simp+decide (disch:=try exact D6 h1 h5 h6 h26 h27 h28) only[go_sem,h1,h5,h6,h26,h27,h28]
   refine Qcn (m:=(dig x).length-(i+1)) (by omega) ⟨i+1,_,_,rfl,by omega,?_,?_,(List.append_cons ..).symm.trans hd,?_⟩
   ·omega
   ·simp[hdl]
   ·simp+decide (disch:=first|omega|rfl|(simp+decide only[go_sem,h1,h5,h6,h26,h27,h28,true_and,and_true,Qfm,Nat.sub_sub,Nat.add_zero]<;>rfl)|fail) only[go_sem,h1,h5,h6,h26,h27,h28,true_and,and_true,Qfm,Nat.sub_sub,Nat.add_zero]
 ·obtain rfl:i=(dig x).length:=by omega
  rw[List.drop_of_length_le (Nat.le_refl _),List.drop_of_length_le hy]at hd
  simp+decide (disch:=first|omega|rfl|(simp+decide only[go_sem,h5,h6,Nat.sub_self,List.replicate_zero,List.append_nil]<;>rfl)|fail) only[go_sem,h5,h6,Nat.sub_self,List.replicate_zero,List.append_nil]
  refine Qb (fun hq=> ?_) (fun hq=> ?_)
  ·simp+decide (disch:=try exact D2 h5 h6) only[go_sem,h5,h6]
   rw[Qod (xs:=Qbk done) T0 rfl (by omega) (by simp[hdl]) (by omega) (by omega)]
   simp+decide (disch:=try exact D1 h5) only[go_sem,h5]
   refine Qrb rfl ?_
   rw[Qft,if_neg (by omega)]at hd
   rw[PV.num,<-hd]
   simp[Qbk,hdl,List.take_of_length_le]
   omega
  ·simp+decide (disch:=try exact D1 h5) only[go_sem,h5]
   refine Qrb rfl ?_
   rw[Qft,if_pos (by omega)]at hd
   rw[PV.num,<-hd]
   simp[Qbk,hdl,List.take_of_length_le]
theorem Q0d{a b:List Nat}(ha:Qu a)(hb:Qu b)(hla:a.length<2^40)(hlb:b.length<2^40)(hle:val b<=val a):Qd Tryz.prog 228 [PV.nat a,PV.nat b] (· = .tup [PV.num (val a-val b),.int .i64 0]):=by
 have hda:=Qaz ha
 have hdb:=Qaz hb
 have hnl:=Qb8 hle
 unfold nl at hda hdb hnl
 refine Qf Qq Tryz.func228 rfl Qai2 (by simp[c228]) fun C hP=> ?_;simp only[c228,Zo,Zg,Zm,Zc,Zf,Zl,Zh,Zs,Zi,Zb,Zk,Zn,Zu,Zq,Zr,Zz]
 simp+decide (disch:=try exact D0) only[go_sem]
 refine Qa hP (Qov ha hb hla hlb) rfl rfl rfl ?_
 have hcmp:¬Qeo (val a) (val b)<0:=by unfold Qeo;split<;>(try split)<;>omega
 simp+decide (disch:=try exact D0) only[go_sem]
 refine Qb (fun hz=>absurd hz hcmp) (fun hz=> ?_)
 simp+decide (disch:=try exact D0) only[go_sem]
 refine Qa hP (Qbq ha (by omega)) rfl rfl rfl ?_
 simp+decide (disch:=try exact D0) only[go_sem]
 refine Qa hP (Qbq hb (by omega)) rfl rfl rfl ?_
 simp+decide (disch:=try exact D0) only[go_sem]
 generalize val a=x at *
 generalize val b=y at *
 have hxl:=Qv x
 have hyl:=Qv y
 have Qcu:=Qzp (dig x) (dig y) 0 (by omega) hxl hyl hnl (by rw[Qag,Qag];exact hle)
 rw[Qag,Qag,Nat.add_zero]at Qcu
 have hvl:=Qt5 (dig x) (dig y) 0
 have hln:=Qrw (dig x) (dig y) 0
 refine Qfl (fun m fr hp=>∃i c done,m=(dig x).length-i/\i<=(dig x).length/\c<=1/\done.length=i/\done++Qh6 ((dig x).drop i) ((dig y).drop i) c=Qh6 (dig x) (dig y) 0/\
  fr 1=PV.num y/\fr 6= .ms 21 (dig x).length/\fr 7= .int .i32 (c:Nat)/\fr 22=PV.num x/\fr 23= .int .i64 (dig x).length/\fr 24= .int .i64 i/\hp=Qw hp0 21 ⟨1,155,Qbk (done++List.replicate ((dig x).length-i) 0),false⟩) (dig x).length ?_ ?_
 ·refine⟨0,0,[],rfl,by omega,by omega,rfl,rfl,?_⟩
  simp+decide (disch:=first|omega|rfl|(simp+decide only[go_sem,true_and,and_true,Nat.sub_zero,List.nil_append]<;>rfl)|fail) only[go_sem,true_and,and_true,Nat.sub_zero,List.nil_append]
  simp
 rintro _ fr _ ⟨i,c,done,rfl,hi,hc,hdl,hd,h1,h6,h7,h22,h23,h24,rfl⟩
 simp+decide (disch:=try exact D3 h22 h23 h24) only[go_sem,h22,h23,h24]
 refine Qb (fun hg=> ?_) (fun hg=> ?_)
 ·have hi':i<(dig x).length:=by omega
  have hxi:=Qax hxl hi'
  rw[Q8h hi']at hd
  have hlen:=Qs3 (n:=(dig x).length-i) hdl (by omega:_=(dig x).length)
  simp+decide (disch:=try exact D6 h1 h6 h7 h22 h23 h24) only[go_sem,h1,h6,h7,h22,h23,h24]
  refine Qid (fun fr hp=>fr 1=PV.num y/\fr 6= .ms 21 (dig x).length/\fr 8= .int .i64 i/\fr 10= .int .i32 ((dig x)[i]-(c:Int)-((dig y).getD i 0:Nat))/\(dig y).getD i 0<65536/\fr 22=PV.num x/\fr 23= .int .i64 (dig x).length/\fr 24= .int .i64 i/\hp=Qw hp0 21 ⟨1,155,Qbk (done++List.replicate ((dig x).length-i) 0),false⟩) ?_ ?_
  ·refine Qb (fun hq=> ?_) (fun hq=> ?_)
   ·have hq':i<(dig y).length:=by omega
    have hyi:=Qax hyl hq'
    simp+decide (disch:=first|omega|rfl|(simp+decide only[go_sem,h1,h6,h7,h22,h23,h24,Qbz hq',true_and,and_true]<;>rfl)|fail) only[go_sem,h1,h6,h7,h22,h23,h24,Qbz hq',true_and,and_true]
    exact hyi
   ·simp+decide (disch:=first|omega|rfl|(simp+decide only[go_sem,h1,h6,h7,h22,h23,h24,true_and,and_true,Qb0 (by omega:¬i<(dig y).length)]<;>rfl)|fail) only[go_sem,h1,h6,h7,h22,h23,h24,true_and,and_true,Qb0 (by omega:¬i<(dig y).length)]
    simp
  clear h1 h6 h22 h23 h24
  rintro fr _ ⟨h1,h6,h8,h10,hyi,h22,h23,h24,rfl⟩
  generalize hw:(dig y).getD i 0=yi at *
  simp+decide (disch:=try exact D1 h10) only[go_sem,h10]
  refine Qid (fun fr hp=>fr 1=PV.num y/\fr 6= .ms 21 (dig x).length/\fr 8= .int .i64 i/\fr 10= .int .i32 (((dig x)[i]+65536-c-yi)%65536:Nat)/\fr 7= .int .i32 ((if(dig x)[i]<c+yi then 1 else 0):Nat)/\fr 22=PV.num x/\fr 23= .int .i64 (dig x).length/\fr 24= .int .i64 i/\hp=Qw hp0 21 ⟨1,155,Qbk (done++List.replicate ((dig x).length-i) 0),false⟩) ?_ ?_
  ·refine Qb (fun hq=> ?_) (fun hq=> ?_)
   ·rw[if_pos (by omega)]
    simp+decide (disch:=try exact D9 h1 h6 h8 h10 h22 h23 h24 true_and and_true) only[go_sem,h1,h6,h8,h10,h22,h23,h24,true_and,and_true]
    simp;omega
   ·rw[if_neg (by omega)]
    simp+decide (disch:=try exact D9 h1 h6 h8 h10 h22 h23 h24 true_and and_true) only[go_sem,h1,h6,h8,h10,h22,h23,h24,true_and,and_true]
    simp;omega
  clear h1 h6 h8 h10 h22 h23 h24
  rintro fr _ ⟨h1,h6,h8,h10,h7,h22,h23,h24,rfl⟩
  simp+decide (disch:=try exact D8 h1 h6 h7 h8 h10 h22 h23 h24) only[go_sem,h1,h6,h7,h8,h10,h22,h23,h24]
  refine Qcn (m:=(dig x).length-(i+1)) (by omega) ⟨i+1,_,_,rfl,by omega,?_,?_,(List.append_cons ..).symm.trans hd,?_⟩
  ·split<;>omega
  ·simp[hdl]
  ·simp+decide (disch:=first|omega|rfl|(simp+decide only[go_sem,h1,h6,h7,h8,h10,h22,h23,h24,true_and,and_true,Qfm,Nat.sub_sub,Nat.mod_mod]<;>rfl)|fail) only[go_sem,h1,h6,h7,h8,h10,h22,h23,h24,true_and,and_true,Qfm,Nat.sub_sub,Nat.mod_mod]
 ·obtain rfl:i=(dig x).length:=by omega
  rw[List.drop_of_length_le (Nat.le_refl _),Qh6,List.append_nil]at hd
  simp+decide (disch:=first|omega|rfl|(simp+decide only[go_sem,h6,Nat.sub_self,List.replicate_zero,List.append_nil]<;>rfl)|fail) only[go_sem,h6,Nat.sub_self,List.replicate_zero,List.append_nil]
  rw[hd]
  refine Qgt hP (Qbq hvl (by omega)) (Qlx rfl hln.symm) rfl fun hp'=> ?_
  simp+decide (disch:=try exact D0) only[go_sem]
  exact Qd8 rfl rfl rfl (Qgu (by rw[show val (Qh6 (dig x) (dig y) 0)=x-y by omega])) (Qab _)
theorem Qow{a b:List Nat}(ha:Qu a)(hb:Qu b)(hla:a.length<2^40)(hlb:b.length<2^40):Qd Tryz.prog 174 [PV.nat a,PV.nat b] (· =PV.num (val a*val b)):=by
 have hda:=Qaz ha
 have hdb:=Qaz hb
 unfold nl at hda hdb
 refine Qf Qq Tryz.func174 rfl Qai3 (by simp[c174]) fun C hP=> ?_;simp only[c174,Zo,Zg,Zm,Zc,Zf,Zl,Zh,Zs,Zi,Zb,Zk,Zn,Zu,Zq,Zr,Zz]
 simp+decide (disch:=try exact D0) only[go_sem]
 refine Qa hP (Qbq ha (by omega)) rfl rfl rfl ?_
 simp+decide (disch:=try exact D0) only[go_sem]
 refine Qa hP (Qbq hb (by omega)) rfl rfl rfl ?_
 simp+decide (disch:=try exact D0) only[go_sem]
 generalize val a=x at *
 generalize val b=y at *
 have hxl:=Qv x
 have hyl:=Qv y
 refine Qal (fun hz=> ?_) (fun hz=> ?_)
 ·simp+decide (disch:=try exact D0) only[go_sem]
  have:=Qdl (by omega:(dig x).length=0)
  rw[Qb3]at this
  exact Qew (Qnm (by simp[this])) rfl
 simp+decide (disch:=try exact D0) only[go_sem]
 refine Qb (fun hz2=> ?_) (fun hz2=> ?_)
 ·simp+decide (disch:=try exact D0) only[go_sem]
  have:=Qdl (by omega:(dig y).length=0)
  rw[Qb3]at this
  exact Qew (Qnm (by simp[this])) rfl
 simp+decide (disch:=try exact D0) only[go_sem]
 refine Qfl (fun m fr hp=>∃i lo,m=(dig x).length-i/\i<=(dig x).length/\Qu lo/\lo.length=i+(dig y).length/\val lo=val ((dig x).take i)*val (dig y)/\
  fr 1=PV.num y/\fr 5= .ms 28 ((dig x).length+(dig y).length)/\fr 29=PV.num x/\fr 30= .int .i64 (dig x).length/\fr 31= .int .i64 i/\hp=Qw hp0 28 ⟨1,155,Qbk (lo++List.replicate ((dig x).length-i) 0),false⟩) (dig x).length ?_ ?_
 ·refine⟨0,List.replicate (dig y).length 0,rfl,by omega,?_,by simp,by simp[Qw0,val],?_⟩
  ·intro z hz;rw[List.eq_of_mem_replicate hz];omega
  ·simp+decide (disch:=first|omega|rfl|(simp+decide only[go_sem,true_and,and_true,Nat.sub_zero]<;>rfl)|fail) only[go_sem,true_and,and_true,Nat.sub_zero]
   simp[Nat.add_comm]
 rintro _ fr _ ⟨i,lo,rfl,hi,hlo,hlol,hv,h1,h5,h29,h30,h31,rfl⟩
 simp+decide (disch:=try exact D3 h29 h30 h31) only[go_sem,h29,h30,h31]
 refine Qb (fun hg=> ?_) (fun hg=> ?_)
 ·have hi':i<(dig x).length:=by omega
  have hxi:=Qax hxl hi'
  have hstep:=Qacc hi' hlol hv
  have hlims:Qu (lo.take i++Qgg (lo.drop i) (dig y) (dig x)[i] 0):=Qcd.2 ⟨Qg9 hlo i,Qt7 _ _ _ _ (by omega) hxi (Qio hlo i) hyl⟩
  have hlenr:(lo.take i++Qgg (lo.drop i) (dig y) (dig x)[i] 0).length=i+(dig y).length+1:=by
   rw[List.length_append,Qrx _ _ _ _ (by simp[hlol])];simp;omega
  generalize hxx:(dig x)[i]=xi at *
  simp+decide (disch:=try exact D6 h1 h5 h29 h30 h31 hxx) only[go_sem,h1,h5,h29,h30,h31,hxx]
  refine Qfl (fun m fr hp=>∃k c p rs,m=(dig y).length-k/\k<=(dig y).length/\c<65536/\Qu rs/\p.length=i+k/\rs.length=(dig y).length-k/\p++Qgg rs ((dig y).drop k) xi c=lo.take i++Qgg (lo.drop i) (dig y) xi 0/\
   fr 1=PV.num y/\fr 5= .ms 28 ((dig x).length+(dig y).length)/\fr 6= .int .i64 i/\fr 7= .int .u16 xi/\fr 8= .int .u32 c/\fr 29=PV.num x/\fr 30= .int .i64 (dig x).length/\fr 31= .int .i64 i/\fr 36=PV.num y/\fr 37= .int .i64 (dig y).length/\fr 38= .int .i64 k/\
   hp=Qw hp0 28 ⟨1,155,Qbk (p++(rs++List.replicate ((dig x).length-i) 0)),false⟩) (dig y).length ?_ ?_
  ·refine⟨0,0,lo.take i,lo.drop i,rfl,by omega,by omega,Qio hlo i,by simp;omega,by simp;omega,rfl,?_⟩
   simp+decide (disch:=try exact D7 h1 h5 h29 h30 h31 true_and and_true) only[go_sem,h1,h5,h29,h30,h31,true_and,and_true]
   rw[<-List.append_assoc,List.take_append_drop]
   simp
  clear h1 h5 h29 h30 h31
  rintro _ fr _ ⟨k,c,p,rs,rfl,hk,hc,hrs,hpl,hrl,hinv,h1,h5,h6,h7,h8,h29,h30,h31,h36,h37,h38,rfl⟩
  simp+decide (disch:=try exact D3 h36 h37 h38) only[go_sem,h36,h37,h38]
  refine Qb (fun hq=> ?_) (fun hq=> ?_)
  ·have hk':k<(dig y).length:=by omega
   have hyk:=Qax hyl hk'
   rw[List.drop_eq_getElem_cons hk']at hinv
   generalize hyy:(dig y)[k]=yk at *
   obtain _|⟨r,rs⟩:=rs
   ·simp at hrl;omega
   rw[Qbe]at hrs
   have hr0:=hrs.1
   have hxy:=Qfy hxi hyk
   rw[Qgg]at hinv
   have hlt:i+k<(p++r::(rs++List.replicate ((dig x).length-i) 0)).length:=by simp;omega
   have hget:=Qrd hpl hlt
   simp+decide (disch:=first|omega|rfl|(simp+decide only[go_sem,h1,h5,h6,h7,h8,h36,h37,h38,hyy,List.cons_append,hget]<;>rfl)|fail) only[go_sem,h1,h5,h6,h7,h8,h36,h37,h38,hyy,List.cons_append,hget]
   refine Qcn (m:=(dig y).length-(k+1)) (by omega) ⟨k+1,_,_,_,rfl,by omega,?_,hrs.2,?_,?_,(List.append_cons ..).symm.trans hinv,?_⟩
   ·omega
   ·simp[hpl];omega
   ·simp at hrl;omega
   ·simp+decide (disch:=first|omega|rfl|(simp+decide only[go_sem,h1,h5,h6,h7,h8,h29,h30,h31,h36,h37,h38,true_and,and_true,Qco]<;>rfl)|fail) only[go_sem,h1,h5,h6,h7,h8,h29,h30,h31,h36,h37,h38,true_and,and_true,Qco]
    simp
  ·obtain rfl:k=(dig y).length:=by omega
   obtain rfl:rs=[]:=List.length_eq_zero_iff.1 (by omega)
   rw[List.drop_of_length_le (Nat.le_refl _),Qgg]at hinv
   rotate_left
   ·intros;simp_all
   obtain⟨z,hz⟩:∃z,(dig x).length-i=z+1:=⟨(dig x).length-i-1,by omega⟩
   have hlt:i+(dig y).length<(p++0::(List.replicate z 0)).length:=by simp;omega
   simp+decide (disch:=first|omega|rfl|(simp+decide only[go_sem,h1,h5,h6,h8,h29,h30,h31,List.nil_append,hz,List.replicate_succ]<;>rfl)|fail) only[go_sem,h1,h5,h6,h8,h29,h30,h31,List.nil_append,hz,List.replicate_succ]
   refine Qcn (m:=(dig x).length-(i+1)) (by omega) ⟨i+1,lo.take i++Qgg (lo.drop i) (dig y) xi 0,rfl,by omega,hlims,by omega,?_,?_⟩
   ·rw[hstep]
   ·simp+decide (disch:=first|omega|rfl|(simp+decide only[go_sem,h1,h5,h29,h30,h31,true_and,and_true,Qco]<;>rfl)|fail) only[go_sem,h1,h5,h29,h30,h31,true_and,and_true,Qco]
    rw[<-hinv,show(dig x).length-(i+1)=z by omega,Nat.mod_eq_of_lt hc]
    simp
 ·obtain rfl:i=(dig x).length:=by omega
  rw[List.take_length,Qag,Qag]at hv
  simp+decide (disch:=first|omega|rfl|(simp+decide only[go_sem,h5,Nat.sub_self,List.replicate_zero,List.append_nil]<;>rfl)|fail) only[go_sem,h5,Nat.sub_self,List.replicate_zero,List.append_nil]
  refine Qgt hP (Qbq hlo (by omega)) (Qlx rfl hlol.symm) rfl fun hp'=> ?_
  simp+decide (disch:=try exact D0) only[go_sem]
  exact Qc (by rw[hv]) rfl
theorem Q0e{pre w post v:List Nat}{j m:Nat}(hw:Qu w)(hv:Qu v)(hj:pre.length=j)(hm:w.length=m)(hle:v.length<=w.length)(hlen:(pre++(w++post)).length<2^43):
  Qk8 Tryz.prog 232 [.mso B0 j m,PV.nat v] 155 (Qbk (pre++(w++post))) (fun r xs'=>r= .tup []/\xs'=Qbk (pre++(Qgv w v 0++post))):=by
 simp only[List.length_append]at hlen
 refine Qme Qq Tryz.func232 rfl Qai8 (by simp[c232]) fun C hP=> ?_;simp only[c232,Zo,Zg,Zm,Zc,Zf,Zl,Zh,Zs,Zi,Zb,Zk,Zn,Zu,Zq,Zr,Zz]
 simp+decide (disch:=try exact D0) only[go_sem]
 refine Qfl (fun k fr hp=>∃i c done,k=w.length-i/\i<=w.length/\c<=1/\done.length=i/\done++Qgv (w.drop i) (v.drop i) c=Qgv w v 0/\
  fr 0= .mso 1000000 j m/\fr 1=PV.nat v/\fr 4= .int .u32 c/\fr 7= .int .i64 m/\fr 8= .int .i64 i/\hp=Qw hp0 1000000 ⟨1,155,Qbk ((pre++done)++(w.drop i++post)),false⟩) w.length ?_ ?_
 ·refine⟨0,0,[],rfl,by omega,by omega,rfl,rfl,?_⟩
  simp+decide (disch:=first|omega|rfl|(simp+decide only[go_sem,true_and,and_true,List.append_nil,List.drop_zero]<;>rfl)|fail) only[go_sem,true_and,and_true,List.append_nil,List.drop_zero]
  simp
 rintro _ fr _ ⟨i,c,done,rfl,hi,hc,hdl,hd,h0,h1,h4,h7,h8,rfl⟩
 simp+decide (disch:=try exact D2 h7 h8) only[go_sem,h7,h8]
 refine Qb (fun hg=> ?_) (fun hg=> ?_)
 ·have hi':i<w.length:=by omega
  have hwi:=Qax hw hi'
  rw[Q8o hi']at hd
  have hpl:(pre++done).length=j+i:=by simp[hj,hdl]
  rw[List.drop_eq_getElem_cons hi']
  generalize hww:w[i]=wi at *
  have hlt:j+i<((pre++done)++wi::(w.drop (i+1)++post)).length:=by simp;omega
  have hget:=Qrd hpl hlt
  simp+decide (disch:=first|omega|rfl|(simp+decide only[go_sem,h0,h1,h4,h7,h8,List.cons_append,hget]<;>rfl)|fail) only[go_sem,h0,h1,h4,h7,h8,List.cons_append,hget]
  refine Qb (fun hq=> ?_) (fun hq=> ?_)
  ·have hq':i<v.length:=by omega
   have hvi:=Qax hv hq'
   rw[Qbz hq']at hd
   simp+decide (disch:=first|omega|rfl|(simp+decide only[go_sem,h0,h1,h4,h7,h8,Qco]<;>rfl)|fail) only[go_sem,h0,h1,h4,h7,h8,Qco]
   refine Qcn (m:=w.length-(i+1)) (by omega) ⟨i+1,_,_,rfl,by omega,?_,?_,(List.append_cons ..).symm.trans hd,?_⟩
   ·omega
   ·simp[hdl]
   ·simp+decide (disch:=first|omega|rfl|(simp+decide only[go_sem,h0,h1,h4,h7,h8,true_and,and_true,Qco]<;>rfl)|fail) only[go_sem,h0,h1,h4,h7,h8,true_and,and_true,Qco]
    simp
  ·rw[Qb0 (by omega)]at hd
   simp+decide (disch:=first|omega|rfl|(simp+decide only[go_sem,h0,h1,h4,h7,h8,Qco]<;>rfl)|fail) only[go_sem,h0,h1,h4,h7,h8,Qco]
   refine Qcn (m:=w.length-(i+1)) (by omega) ⟨i+1,_,_,rfl,by omega,?_,?_,(List.append_cons ..).symm.trans hd,?_⟩
   ·omega
   ·simp[hdl]
   ·simp+decide (disch:=first|omega|rfl|(simp+decide only[go_sem,h0,h1,h4,h7,h8,true_and,and_true,Qco]<;>rfl)|fail) only[go_sem,h0,h1,h4,h7,h8,true_and,and_true,Qco]
    simp
 ·obtain rfl:i=w.length:=by omega
  rw[List.drop_of_length_le (Nat.le_refl _),Qgv,List.append_nil]at hd
  simp+decide (disch:=try exact D0) only[go_sem]
  refine Qaod rfl (Qfn _) ?_ ⟨rfl,?_⟩
  ·simp[hdl]
  ·rw[List.drop_of_length_le (Nat.le_refl _),hd];simp
theorem Qye{pre w post v:List Nat}{j m q:Nat}(hw:Qu w)(hv:Qu v)(hq:q<65536)(hj:pre.length=j)(hm:w.length=m)(hle:v.length<=w.length)(hlen:(pre++(w++post)).length<2^43):
  Qk8 Tryz.prog 231 [.mso B0 j m,PV.nat v,.int .u32 q] 155 (Qbk (pre++(w++post))) (fun r xs'=>r= .bool (decide (0<(Qdm w v q 0 0).2.2))/\xs'=Qbk (pre++((Qdm w v q 0 0).1++post))):=by
 simp only[List.length_append]at hlen
 refine Qme Qq Tryz.func231 rfl Qai7 (by simp[c231]) fun C hP=> ?_;simp only[c231,Zo,Zg,Zm,Zc,Zf,Zl,Zh,Zs,Zi,Zb,Zk,Zn,Zu,Zq,Zr,Zz]
 simp+decide (disch:=try exact D0) only[go_sem]
 refine Qfl (fun k fr hp=>∃i c b done,k=w.length-i/\i<=w.length/\c<65536/\b<=1/\done.length=i/\done++(Qdm (w.drop i) (v.drop i) q c b).1=(Qdm w v q 0 0).1/\(Qdm (w.drop i) (v.drop i) q c b).2=(Qdm w v q 0 0).2/\
  fr 0= .mso 1000000 j m/\fr 1=PV.nat v/\fr 2= .int .u32 q/\fr 7= .int .u32 c/\fr 8= .int .i32 (b:Nat)/\fr 12= .int .i64 m/\fr 13= .int .i64 i/\hp=Qw hp0 1000000 ⟨1,155,Qbk ((pre++done)++(w.drop i++post)),false⟩) w.length ?_ ?_
 ·refine⟨0,0,0,[],rfl,by omega,by omega,by omega,rfl,rfl,rfl,?_⟩
  simp+decide (disch:=first|omega|rfl|(simp+decide only[go_sem,true_and,and_true,List.append_nil,List.drop_zero]<;>rfl)|fail) only[go_sem,true_and,and_true,List.append_nil,List.drop_zero]
  simp
 rintro _ fr _ ⟨i,c,b,done,rfl,hi,hc,hb,hdl,hd,hd2,h0,h1,h2,h7,h8,h12,h13,rfl⟩
 simp+decide (disch:=try exact D2 h12 h13) only[go_sem,h12,h13]
 refine Qb (fun hg=> ?_) (fun hg=> ?_)
 ·have hi':i<w.length:=by omega
  have hwi:=Qax hw hi'
  rw[Q8p hi']at hd hd2
  simp only at hd hd2
  have hpl:(pre++done).length=j+i:=by simp[hj,hdl]
  rw[List.drop_eq_getElem_cons hi']
  generalize hww:w[i]=wi at *
  have hlt:j+i<((pre++done)++wi::(w.drop (i+1)++post)).length:=by simp;omega
  have hget:=Qrd hpl hlt
  simp+decide (disch:=first|omega|rfl|(simp+decide only[go_sem,h0,h1,h2,h7,h8,h12,h13,List.cons_append,hget]<;>rfl)|fail) only[go_sem,h0,h1,h2,h7,h8,h12,h13,List.cons_append,hget]
  refine Qid (fun fr hp=>c+q*v.getD i 0<=4294967295/\fr 0= .mso 1000000 j m/\fr 1=PV.nat v/\fr 2= .int .u32 q/\fr 7= .int .u32 (c+q*v.getD i 0:Nat)/\fr 8= .int .i32 (b:Nat)/\fr 9= .int .i64 i/\fr 12= .int .i64 m/\fr 13= .int .i64 i/\hp=Qw hp0 1000000 ⟨1,155,Qbk ((pre++done)++wi::(w.drop (i+1)++post)),false⟩) ?_ ?_
  ·refine Qb (fun hqv=> ?_) (fun hqv=> ?_)
   ·have hq':i<v.length:=by omega
    have hvi:=Qax hv hq'
    have hqv:=Qfy hq hvi
    simp+decide (disch:=first|omega|rfl|(simp+decide only[go_sem,h0,h1,h2,h7,h8,h12,h13,Qbz hq',true_and,and_true]<;>rfl)|fail) only[go_sem,h0,h1,h2,h7,h8,h12,h13,Qbz hq',true_and,and_true]
    omega
   ·simp+decide (disch:=first|omega|rfl|(simp+decide only[go_sem,h0,h1,h2,h7,h8,h12,h13,true_and,and_true,Qb0 (by omega:¬i<v.length),Nat.mul_zero,Nat.add_zero]<;>rfl)|fail) only[go_sem,h0,h1,h2,h7,h8,h12,h13,true_and,and_true,Qb0 (by omega:¬i<v.length),Nat.mul_zero,Nat.add_zero]
    omega
  clear h0 h1 h2 h7 h8 h12 h13
  rintro fr _ ⟨hc1,h0,h1,h2,h7,h8,h9,h12,h13,rfl⟩
  generalize c+q*v.getD i 0=c1 at *
  simp+decide (disch:=try exact D9 h0 h1 h2 h7 h8 h9 h12 h13 hget) only[go_sem,h0,h1,h2,h7,h8,h9,h12,h13,hget]
  refine Qid (fun fr hp=>fr 0= .mso 1000000 j m/\fr 1=PV.nat v/\fr 2= .int .u32 q/\fr 7= .int .u32 (c1/65536:Nat)/\fr 8= .int .i32 ((if wi<c1%65536+b then 1 else 0):Nat)/\fr 9= .int .i64 i/\fr 10= .int .i32 ((wi+65536-c1%65536-b)%65536:Nat)/\fr 12= .int .i64 m/\fr 13= .int .i64 i/\hp=Qw hp0 1000000 ⟨1,155,Qbk ((pre++done)++wi::(w.drop (i+1)++post)),false⟩) ?_ ?_
  ·refine Qb (fun hq=> ?_) (fun hq=> ?_)
   ·rw[if_pos (by omega)]
    simp+decide (disch:=try exact D10 h0 h1 h2 h7 h8 h9 h12 h13 true_and and_true) only[go_sem,h0,h1,h2,h7,h8,h9,h12,h13,true_and,and_true]
    simp;omega
   ·rw[if_neg (by omega)]
    simp+decide (disch:=try exact D10 h0 h1 h2 h7 h8 h9 h12 h13 true_and and_true) only[go_sem,h0,h1,h2,h7,h8,h9,h12,h13,true_and,and_true]
    simp;omega
  clear h0 h1 h2 h7 h8 h9 h12 h13
  rintro fr _ ⟨h0,h1,h2,h7,h8,h9,h10,h12,h13,rfl⟩
  simp+decide (disch:=first|omega|rfl|(simp+decide only[go_sem,h0,h1,h2,h7,h8,h9,h10,h12,h13,Qco]<;>rfl)|fail) only[go_sem,h0,h1,h2,h7,h8,h9,h10,h12,h13,Qco]
  refine Qcn (m:=w.length-(i+1)) (by omega) ⟨i+1,c1/65536,_,_,rfl,by omega,by omega,?_,?_,(List.append_cons ..).symm.trans hd,hd2,?_⟩
  ·split<;>omega
  ·simp[hdl]
  ·simp+decide (disch:=first|omega|rfl|(simp+decide only[go_sem,h0,h1,h2,h7,h8,h9,h10,h12,h13,true_and,and_true,Qco,Nat.mod_mod]<;>rfl)|fail) only[go_sem,h0,h1,h2,h7,h8,h9,h10,h12,h13,true_and,and_true,Qco,Nat.mod_mod]
   simp
 ·obtain rfl:i=w.length:=by omega
  rw[List.drop_of_length_le (Nat.le_refl _),Qdm]at hd hd2
  simp only[List.append_nil]at hd
  simp+decide (disch:=try exact D1 h8) only[go_sem,h8]
  refine Q8q (p:= .bool (decide (0<(b:Int)))) rfl (Qfn _) ?_ T0 rfl ⟨?_,?_⟩
  ·simp[hdl]
  ·rw[<-hd2];simp
  ·rw[List.drop_of_length_le (Nat.le_refl _),hd];simp
theorem Qyf{v u:List Nat}{dg n r j:Nat}(hv:Qu v)(hu:Qu u)(hn:2<=n)(hnv:n=v.length)(hju:j+n<u.length)(hd:dg<4294967296)(hr:r<65536)(hul:u.length<2^43):
  Qd Tryz.prog 230 [.pt [.int .u64 dg],.pt [PV.nat v],.pt [.int .i64 n],.pt [.int .u64 r],.pt [PV.nat u],.pt [.int .i64 j]]
   (· = .bool (decide (65536<=dg∨r*65536+u.getD (j+n-2) 0<dg*v.getD (n-2) 0))):=by
 have h1:n-2<v.length:=by omega
 have h2:j+n-2<u.length:=by omega
 have hv1:=Qax hv h1
 have hu1:=Qax hu h2
 rw[Qbz h1,Qbz h2]
 refine Qf Qq Tryz.func230 rfl Qai6 (by simp[c230]) fun C hP=> ?_;simp only[c230,Zo,Zg,Zm,Zc,Zf,Zl,Zh,Zs,Zi,Zb,Zk,Zn,Zu,Zq,Zr,Zz]
 simp+decide (disch:=try exact D0) only[go_sem]
 refine Qal (fun hz=> ?_) (fun hz=> ?_)
 ·simp+decide (disch:=try exact D0) only[go_sem]
  exact Qc (by simp;omega) rfl
 ·have hd':dg<65536:=by omega
  have e1:(n:Int)-2=((n-2:Nat):Int):=by omega
  have e2:((j+n:Nat):Int)-2=((j+n-2:Nat):Int):=by omega
  generalize hvv:v[n-2]=vi at *
  generalize huu:u[j+n-2]=ui at *
  have hm:=Qfy hd' hv1
  simp+decide (disch:=first|omega|rfl|(simp+decide only[go_sem,e1,e2,hvv,huu,Qmg,Qof]<;>rfl)|fail) only[go_sem,e1,e2,hvv,huu,Qmg,Qof]
  exact Qc (congrArg PV.bool (decide_eq_decide.2 ⟨fun h=> .inr (by omega),fun h=>by rcases h with h|h<;>omega⟩)) rfl
theorem Q58{l post:List Nat}(hv:Qu l)(hl:(l++post).length<2^43)(hlen:0<l.length):
  Qk8 Tryz.prog 212 [.mso B0 0 l.length] 155 (Qbk (l++post)) (fun r xs'=>r= .mso B0 0 (nl (val l))/\xs'=Qbk (l++post)):=by
 simp only[List.length_append]at hl
 have hlen2:l.length<=(l++post).length:=by simp
 refine Qme Qq Tryz.func212 rfl Q4c (by simp[Q0c]) fun C hP=> ?_;simp only[Q0c,Zo,Zg,Zm,Zc,Zf,Zl,Zh,Zs,Zi,Zb,Zk,Zn,Zu,Zq,Zr,Zz]
 simp+decide (disch:=try exact D0) only[go_sem]
 refine Qfl (fun m fr hp=>m<=l.length/\cut l m=dig (val l)/\fr 0= .mso 1000000 0 l.length/\fr 3= .int .i64 m/\hp=Qw hp0 1000000 ⟨1,155,Qbk (l++post),false⟩) l.length ?_ ?_
 ·exact⟨Nat.le_refl _,Qnl hv,rfl,rfl,rfl⟩
 rintro n fr _ ⟨hn,hc,h0,h3,rfl⟩
 simp+decide (disch:=try exact D2 h0 h3) only[go_sem,h0,h3]
 refine Qaw (fun hg=> ?_) (fun hg=> ?_)
 ·obtain _|n:=n
  ·omega
  have e:((n+1:Nat):Int)-1=n:=by omega
  have hlt:n<(l++post).length:=by simp;omega
  have hget:(l++post)[n]=l[n]:=by simp[List.getElem_append,show n<l.length by omega]
  simp+decide (disch:=try exact D4 h0 h3 e hget) only[go_sem,h0,h3,e,hget]
  simp only[cut]at hc
  refine Qb (fun hz=> ?_) (fun hz=> ?_)
  ·rw[if_pos (by grind)]at hc
   simp+decide (disch:=try exact D3 h0 h3 e) only[go_sem,h0,h3,e]
   refine Qcn (m:=n) (by omega) ⟨by omega,hc,?_⟩
   simp+decide (disch:=try exact D3 h0 true_and and_true) only[go_sem,h0,true_and,and_true]
  ·rw[if_neg (by grind)]at hc
   have hnl:nl (val l)=n+1:=by rw[nl,<-hc];simp;omega
   simp+decide (disch:=try exact D2 h0 h3) only[go_sem,h0,h3]
   exact Q31 rfl (Qfn _) (by simp) (T1 hnl) ⟨rfl,rfl⟩
 ·obtain rfl:n=0:=by omega
  have hnl:nl (val l)=0:=by rw[nl,<-hc,cut];rfl
  simp+decide (disch:=try exact D2 h0 h3) only[go_sem,h0,h3]
  exact Q31 rfl (Qfn _) (by simp) (T1 hnl) ⟨rfl,rfl⟩
theorem Qm3{a:List Nat}{s:Nat}(ha:Qu a)(hla:a.length<2^40)(hs:s<=15)(hne:val a≠0):Qnn Tryz.prog 221 [PV.nat a,.int .i64 s] 155 (fun ys=>ys=Qbk (dig (val a*2^s))):=by
 have hda:=Qaz ha
 unfold nl at hda
 have hnz:(dig (val a)).length≠0:=by
  intro h;exact hne (Qb3.1 (Qdl h))
 refine Q8m Qq Tryz.func221 rfl Qwf (by simp[Qtc]) fun C hP=> ?_;simp only[Qtc,Zo,Zg,Zm,Zc,Zf,Zl,Zh,Zs,Zi,Zb,Zk,Zn,Zu,Zq,Zr,Zz]
 simp+decide (disch:=try exact D0) only[go_sem]
 refine Qa hP (Qbq ha (by omega)) rfl rfl rfl ?_
 simp+decide (disch:=try exact D0) only[go_sem]
 generalize val a=x at *
 have hxl:=Qv x
 have e1:s/16=0:=Nat.div_eq_of_lt (by omega)
 have e2:s%16=s:=Nat.mod_eq_of_lt (by omega)
 refine Qal (fun hz=>by omega) (fun hz=> ?_)
 simp+decide (disch:=try exact D0) only[go_sem]
 refine Qal (fun hz=>by omega) (fun hz=> ?_)
 simp+decide (disch:=try exact D0) only[go_sem]
 refine Qb (fun hz=>by omega) (fun hz=> ?_)
 simp+decide (disch:=try exact D0) only[go_sem]
 refine Qb (fun hz=>by omega) (fun hz=> ?_)
 simp+decide (disch:=first|omega|rfl|(simp+decide only[go_sem,Qmi,Qmj,e1,e2]<;>rfl)|fail) only[go_sem,Qmi,Qmj,e1,e2]
 refine Qfl (fun k fr hp=>∃i c done,k=(dig x).length-i/\i<=(dig x).length/\c<2^s/\done.length=i/\done++Qjg s ((dig x).drop i) c=Qjg s (dig x) 0/\
  fr 5= .int .i64 (0:Nat)/\fr 6= .int .i64 s/\fr 7= .ms 44 ((dig x).length+1)/\fr 45=PV.num x/\fr 46= .int .i64 (dig x).length/\fr 47= .int .i64 i/\
  hp=Qw hp0 44 ⟨1,155,Qbk (done++c::List.replicate ((dig x).length-i) 0),false⟩) (dig x).length ?_ ?_
 ·refine⟨0,0,[],rfl,by omega,Nat.pow_pos (by omega),rfl,rfl,?_⟩
  simp+decide (disch:=first|omega|rfl|(simp+decide only[go_sem,true_and,and_true,List.nil_append,Nat.sub_zero]<;>rfl)|fail) only[go_sem,true_and,and_true,List.nil_append,Nat.sub_zero]
  simp[List.replicate_succ]
 rintro _ fr _ ⟨i,c,done,rfl,hi,hc,hdl,hd,h5,h6,h7,h45,h46,h47,rfl⟩
 simp+decide (disch:=try exact D3 h45 h46 h47) only[go_sem,h45,h46,h47]
 have hp15:2^s<=2^15:=Nat.pow_le_pow_right (by omega) hs
 refine Qb (fun hg=> ?_) (fun hg=> ?_)
 ·have hi':i<(dig x).length:=by omega
  have hxi:=Qax hxl hi'
  rw[List.drop_eq_getElem_cons hi',Qjg]at hd
  generalize hxx:(dig x)[i]=xi at *
  obtain⟨z,hz⟩:∃z,(dig x).length-i=z+1:=⟨(dig x).length-i-1,by omega⟩
  have hlt:i<(done++c::List.replicate (z+1) 0).length:=by simp;omega
  have hget:=Qrd hdl hlt
  have hsp:=Qzw (x:=xi) (show s<=16 by omega) hc
  have hcl:=Qw4 (show s<=16 by omega) hxi
  have hl:=Qaoe hs hxi
  simp+decide (disch:=first|omega|rfl|(simp+decide only[go_sem,h5,h6,h7,h45,h46,h47,hxx,hz,hget,Qv5,Q8s,hsp.2,Qco]<;>rfl)|fail) only[go_sem,h5,h6,h7,h45,h46,h47,hxx,hz,hget,Qv5,Q8s,hsp.2,Qco]
  have hset:∀v u,(done++v::List.replicate (z+1) 0).set (i+1) u=(done++[v])++u::List.replicate z 0:=fun v u=>by
   rw[List.append_cons,List.replicate_succ,Qco (by simp[hdl])]
  rw[Q8f (by simp;omega),hset,Nat.mod_eq_of_lt (by omega:xi*2^s/65536<65536)]
  simp+decide (disch:=try exact D6 h5 h6 h7 h45 h46 h47) only[go_sem,h5,h6,h7,h45,h46,h47]
  refine Qcn (m:=(dig x).length-(i+1)) (by omega) ⟨i+1,xi*2^s/65536,done++[xi*2^s%65536+c],rfl,by omega,hcl,by simp[hdl],(List.append_cons ..).symm.trans hd,?_⟩
  simp+decide (disch:=try exact D8 h5 h6 h7 h45 h46 h47 true_and and_true) only[go_sem,h5,h6,h7,h45,h46,h47,true_and,and_true]
  rw[show(dig x).length-(i+1)=z by omega]
 ·obtain rfl:i=(dig x).length:=by omega
  rw[List.drop_of_length_le (Nat.le_refl _),Qjg]at hd
  have hlim:=Qud hs (dig x) 0 hxl (Nat.pow_pos (by omega))
  have hvs:=Qzv s (dig x) 0
  have hln:=Qr0 s (dig x) 0
  rw[Qag,Nat.add_zero]at hvs
  rw[<-hd]at hlim hvs hln
  have hnz2:x*2^s≠0:=Nat.mul_ne_zero hne (Nat.ne_of_gt (Nat.pow_pos (by omega)))
  simp+decide (disch:=first|omega|rfl|(simp+decide only[go_sem,h7,Nat.sub_self,List.replicate_zero]<;>rfl)|fail) only[go_sem,h7,Nat.sub_self,List.replicate_zero]
  have ht:=Q58 (l:=done++[c]) (post:=[]) hlim (by simp[hdl];omega) (by simp)
  rw[List.append_nil,hvs]at ht
  refine Qt8 hP ht (β:=44) T0 (Qfn _) (by simp) (by simp[toB,hln]) rfl ?_
  rintro r xs' _ _ ⟨rfl,rfl⟩
  simp+decide (disch:=first|omega|rfl|(simp+decide only[go_sem,Qhb]<;>rfl)|fail) only[go_sem,Qhb]
  refine⟨4,44,nl (x*2^s),_,rfl,by simp+decide (disch:=try exact D0) only[go_sem],rfl,by simp+decide (disch:=try exact D0) only[go_sem];rfl,Qfn _,?_,?_⟩
  ·have:= @Qip (x*2^s);omega
  ·rw[<-hvs,<-List.map_take,Qacd hlim]
theorem Q59{a:List Nat}{s:Nat}(ha:Qu a)(hla:a.length<2^42)(hs:s<=15):Qd Tryz.prog 229 [PV.nat a,.int .i64 s] (· =PV.num (val a/2^s)):=by
 have e1:s/16=0:=Nat.div_eq_of_lt (by omega)
 have e2:s%16=s:=Nat.mod_eq_of_lt (by omega)
 refine Qf Qq Tryz.func229 rfl Qaja (by simp[c229]) fun C hP=> ?_;simp only[c229,Zo,Zg,Zm,Zc,Zf,Zl,Zh,Zs,Zi,Zb,Zk,Zn,Zu,Zq,Zr,Zz]
 simp+decide (disch:=first|omega|rfl|(simp+decide only[go_sem,Qmi,Qmj,e1,e2]<;>rfl)|fail) only[go_sem,Qmi,Qmj,e1,e2]
 refine Qb (fun hz=> ?_) (fun hz=> ?_)
 ·have:a=[]:=List.length_eq_zero_iff.1 (by omega)
  subst this
  simp+decide (disch:=try exact D0) only[go_sem]
  exact Qew (Qnm (by simp[val])) rfl
 have e3:((a.length:Int)-((0:Nat):Int))=((a.length:Nat):Int):=by omega
 simp+decide (disch:=try exact D1 e3) only[go_sem,e3]
 refine Qz (by repeat (first|exact Qn|exact Qi|exact Qj|exact Qk|exact Ql|apply Qh|apply Qm|apply Qt|apply Qx|apply Qy|apply Qg)) [(8,9),(25,60)] [] (fun k J hp=>∃i done,k=a.length-i/\i<=a.length/\done.length=i/\done++Qis s (a.drop i)=Qis s a/\J 25= .int .i64 i/\
  hp=Qw hp0 22 ⟨1,155,Qbk (done++List.replicate (a.length-i) 0),false⟩) a.length ?_ ?_
 ·refine⟨0,[],rfl,by omega,rfl,rfl,?_⟩
  simp+decide (disch:=first|omega|rfl|(simp+decide only[go_sem,true_and,and_true,List.nil_append,Nat.sub_zero]<;>rfl)|fail) only[go_sem,true_and,and_true,List.nil_append,Nat.sub_zero]
  simp
 rintro _ J _ ⟨i,done,rfl,hi,hdl,hd,h25,rfl⟩
 simp+decide (disch:=try exact D1 h25) only[go_sem,h25]
 refine Qb (fun hg=> ?_) (fun hg=> ?_)
 ·have hi':i<a.length:=by omega
  have hai:=Qax ha hi'
  rw[Q8w hi']at hd
  generalize hxx:a[i]=xi at *
  have hlen:=Qs3 (n:=a.length-i) hdl (by omega:_=a.length)
  simp+decide (disch:=try exact D2 h25 hxx) only[go_sem,h25,hxx]
  refine Qb (fun hq=> ?_) (fun hq=> ?_)
  ·have hq':i+1<a.length:=by omega
   have haj:=Qax ha hq'
   rw[Qbz hq']at hd
   simp+decide (disch:=first|omega|rfl|(simp+decide only[go_sem,h25,Qmh,Qw3,Qrf]<;>rfl)|fail) only[go_sem,h25,Qmh,Qw3,Qrf]
   refine Qo (a.length-(i+1)) (by omega) ⟨i+1,_,rfl,by omega,by simp[hdl],(List.append_cons ..).symm.trans hd,?_⟩
   simp+decide (disch:=first|omega|rfl|(simp+decide only[go_sem,h25,true_and,and_true,Qfm,Nat.sub_sub]<;>rfl)|fail) only[go_sem,h25,true_and,and_true,Qfm,Nat.sub_sub]
  ·rw[Qb0 (by omega),Nat.zero_mul,Nat.zero_add]at hd
   simp+decide (disch:=first|omega|rfl|(simp+decide only[go_sem,h25,Qrf]<;>rfl)|fail) only[go_sem,h25,Qrf]
   refine Qo (a.length-(i+1)) (by omega) ⟨i+1,_,rfl,by omega,by simp[hdl],(List.append_cons ..).symm.trans hd,?_⟩
   simp+decide (disch:=first|omega|rfl|(simp+decide only[go_sem,h25,true_and,and_true,Qfm,Nat.sub_sub]<;>rfl)|fail) only[go_sem,h25,true_and,and_true,Qfm,Nat.sub_sub]
 ·obtain rfl:i=a.length:=by omega
  rw[List.drop_of_length_le (Nat.le_refl _),Qis,List.append_nil]at hd
  simp+decide (disch:=first|omega|rfl|(simp+decide only[go_sem,Nat.sub_self,List.replicate_zero,List.append_nil]<;>rfl)|fail) only[go_sem,Nat.sub_self,List.replicate_zero,List.append_nil]
  rw[hd]
  refine Qgt hP (Qbq (Que s a) (by rw[Qm1];exact hla)) (Qlx rfl (Qm1 s a).symm) rfl fun hp'=> ?_
  simp+decide (disch:=try exact D0) only[go_sem]
  exact Qc (by rw[Qzy (by omega) a ha]) rfl
theorem Q2t{x V d q:Nat}(hd:0<d)(h:q=V/d):(V%d*65536+x)/d+65536*q=(x+65536*V)/d/\(V%d*65536+x)%d=(x+65536*V)%d:=by
 subst h
 have e:x+65536*V=(V%d*65536+x)+d*(65536*(V/d)):=by
  have:=Nat.div_add_mod V d
  calc x+65536*V=x+65536*(d*(V/d)+V%d):=by rw[this]
   _=_:=by rw[Nat.mul_add,Nat.mul_left_comm];omega
 rw[e,Nat.add_mul_div_left _ _ hd,Nat.add_mul_mod_self_left]
 exact⟨rfl,rfl⟩
theorem Q2u{a:List Nat}{d:Nat}(ha:Qu a)(hla:a.length<2^42)(hd:0<d)(hd2:d<65536):Qd Tryz.prog 219 [PV.nat a,.int .u16 d] (· = .tup [PV.num (val a/d),.int .u16 (val a%d:Nat)]):=by
 refine Qf Qq Tryz.func219 rfl Qai4 (by simp[c219]) fun C hP=> ?_;simp only[c219,Zo,Zg,Zm,Zc,Zf,Zl,Zh,Zs,Zi,Zb,Zk,Zn,Zu,Zq,Zr,Zz]
 simp+decide (disch:=try exact D0) only[go_sem]
 refine Qz (by repeat (first|exact Qn|exact Qi|exact Qj|exact Qk|exact Ql|apply Qh|apply Qm|apply Qt|apply Qx|apply Qy|apply Qg)) [(7,8),(15,38)] [] (fun k J hp=>∃qs,k<=a.length/\qs.length=a.length-k/\Qu qs/\val qs=val (a.drop k)/d/\J 7= .int .u32 (val (a.drop k)%d:Nat)/\J 8= .int .i64 ((k:Int)-1)/\
  hp=Qw hp0 11 ⟨1,155,Qbk (List.replicate k 0++qs),false⟩) a.length ?_ ?_
 ·refine⟨[],Nat.le_refl _,by simp,Qdb,by simp[val],?_⟩
  simp+decide (disch:=try exact D2 true_and and_true) only[go_sem,true_and,and_true]
  simp[val]
 rintro k J _ ⟨qs,hk,hql,hqs,hv,h7,h8,rfl⟩
 simp+decide (disch:=try exact D2 h7 h8) only[go_sem,h7,h8]
 have hr:=Nat.mod_lt (val (a.drop k)) hd
 refine Qb (fun hg=> ?_) (fun hg=> ?_)
 ·obtain _|n:=k
  ·omega
  have hn:n<a.length:=by omega
  have han:=Qax ha hn
  have e:((n+1:Nat):Int)-1=n:=by omega
  have hst:=Q2t (x:=a[n]) hd hv
  rw[<-Qc9 hn]at hst
  have hlt:(val (a.drop (n+1))%d*65536+a[n])/d<65536:=by
   rw[Nat.div_lt_iff_lt_mul hd]
   have:(val (a.drop (n+1))%d+1)*65536<=d*65536:=Nat.mul_le_mul_right _ hr
   omega
  generalize hxx:a[n]=xn at *
  generalize val (a.drop (n+1))%d=r at *
  have hlen:n<(List.replicate (n+1) 0++qs).length:=by simp;omega
  simp+decide (disch:=first|omega|rfl|(simp+decide only[go_sem,h7,h8,e,hxx,Qmh,Qzu,Q32,Qex]<;>rfl)|fail) only[go_sem,h7,h8,e,hxx,Qmh,Qzu,Q32,Qex]
  refine Qo n (by omega) ⟨(r*65536+xn)/d::qs,by omega,?_,?_,?_,?_⟩
  ·simp;omega
  ·rw[Qbe];exact⟨hlt,hqs⟩
  ·rw[val,hst.1]
  ·simp+decide (disch:=try exact D5 h7 h8 true_and and_true hst.2) only[go_sem,h7,h8,true_and,and_true,hst.2]
   rw[Nat.mod_eq_of_lt hlt,List.replicate_succ',List.append_assoc,List.singleton_append,Qco (by simp)]
 ·obtain rfl:k=0:=by omega
  rw[List.drop_zero]at hv h7
  have hlt:=Nat.mod_lt (val a) hd
  simp+decide (disch:=first|omega|rfl|(simp+decide only[go_sem,h7,h8,List.replicate_zero,List.nil_append]<;>rfl)|fail) only[go_sem,h7,h8,List.replicate_zero,List.nil_append]
  refine Qgt hP (Qbq hqs (by omega)) (Qlx rfl (by omega)) rfl fun hp'=> ?_
  simp+decide (disch:=try exact D1 h7) only[go_sem,h7]
  refine Qd8 rfl rfl rfl (Qgu (by rw[hv])) (Qgu ?_)
  rw[Nat.mod_eq_of_lt (by omega)]
theorem Qul{x:Nat}(h:x<65536):Qd Tryz.prog 214 [.int .u16 x] (· = .int .i64 (Lib.bitLen x:Nat)):=
 Q2o (by simp[Qlt];exact⟨rfl,by decide⟩) (fun w=>Q2v x w (by omega) (by omega)) (fun _ _=>Qae.int _ _)
theorem Qm4{x:Nat}(h:x<65536):Lib.bitLen x<=16:=Lib.bitLen_le x 16 (by omega) (by omega)
theorem Qox{x:Nat}(h:x<65536)(h0:x≠0):1<=Lib.bitLen x:=by
 have:=Lib.bitLen_half x h0 (by omega);omega
theorem Q2w:Lib.bitLen 0=0:=by decide
theorem Q6a:∀(n x:Nat),Lib.bitLen x=n->x≠0->x<65536->2^n<=2*x/\x<2^n:=by
 intro n
 induction n with
 |zero=>intro x h h0 hx;have:=Qox hx h0;omega
 | succ n ih=>
  intro x h h0 hx
  have e:=Lib.bitLen_half x h0 (by omega)
  by_cases h2:x/2=0
  ·have:x=1:=by omega
   subst this
   have:n=0:=by rw[h]at e;simp[Q2w]at e;exact e
   subst this;simp
  ·have:=ih (x/2) (by omega) h2 (by omega)
   rw[Nat.pow_succ];omega
theorem Qpy{x:Nat}(h:x<65536):Qd Tryz.prog 220 [.int .u16 x] (· = .int .i64 (16-Lib.bitLen x:Nat)):=by
 have:=Qm4 h
 refine Qf Qq Tryz.func220 rfl Qajb (by simp[c220]) fun C hP=> ?_;simp only[c220,Zo,Zg,Zm,Zc,Zf,Zl,Zh,Zs,Zi,Zb,Zk,Zn,Zu,Zq,Zr,Zz]
 simp+decide (disch:=try exact D0) only[go_sem]
 refine Qa hP (Qul h) rfl rfl rfl ?_
 simp+decide (disch:=try exact D0) only[go_sem]
 exact Qc (by congr 1;omega) rfl
theorem Qxg{a:List Nat}(ha:Qu a)(hla:a.length<2^40):Qd Tryz.prog 178 [PV.nat a] (fun r=>∃n:Nat,r= .int .i64 n/\(n=0↔val a=0)):=by
 have hd:=Qaz ha
 unfold nl at hd
 refine Qf Qq Tryz.func178 rfl Qaiz (by simp[c178]) fun C hP=> ?_;simp only[c178,Zo,Zg,Zm,Zc,Zf,Zl,Zh,Zs,Zi,Zb,Zk,Zn,Zu,Zq,Zr,Zz]
 simp+decide (disch:=try exact D0) only[go_sem]
 refine Qa hP (Qbq ha (by omega)) rfl rfl rfl ?_
 simp+decide (disch:=try exact D0) only[go_sem]
 refine Qb (fun hz=> ?_) (fun hz=> ?_)
 ·simp+decide (disch:=try exact D0) only[go_sem]
  have:val a=0:=Qb3.1 (List.length_eq_zero_iff.1 (by omega))
  exact⟨rfl,_,Qab _,0,rfl,by simp[this]⟩
 ·have hne:val a≠0:=fun h=>by rw[h,Qbj]at hz;simp at hz
  have hlast:=Qlw (val a)
  have hlx:=Qv (val a)
  generalize val a=x at *
  obtain⟨k,hk⟩:∃k,(dig x).length=k+1:=⟨(dig x).length-1,by omega⟩
  have hlt:k<(dig x).length:=by omega
  have hxk:=Qax hlx hlt
  have hnz:(dig x)[k]≠0:=by
   intro h;apply hlast
   rw[List.getLast?_eq_getElem?,hk,Nat.add_sub_cancel,List.getElem?_eq_getElem hlt,h]
  have e:((k+1:Nat):Int)-1=k:=by omega
  generalize hxx:(dig x)[k]=xi at *
  have hb:=Qm4 hxk
  have hb1:=Qox hxk hnz
  simp+decide (disch:=try exact D3 hk e hxx) only[go_sem,hk,e,hxx]
  refine Qa hP (Qul hxk) rfl rfl rfl ?_
  have e2:(16:Int)*(k:Int)=((16*k:Nat):Int):=by omega
  simp+decide (disch:=try exact D1 e2) only[go_sem,e2]
  exact⟨rfl,_,Qab _,16*k+Lib.bitLen xi,rfl,by omega⟩
theorem Qarx(i:Nat):2^(16*i)=65536^i:=by rw[Nat.pow_mul]
theorem Qqo{a:List Nat}(ha:Qu a)(hla:a.length<2^40):Qd Tryz.prog 216 [PV.nat a] (· =if nl (val a)<=4 then .tup [.int .u64 (val a),.bool true]else .tup [.int .u64 0,.bool false]):=by
 have hd:=Qaz ha
 unfold nl at hd
 refine Qf Qq Tryz.func216 rfl Qaiy (by simp[c216]) fun C hP=> ?_;simp only[c216,Zo,Zg,Zm,Zc,Zf,Zl,Zh,Zs,Zi,Zb,Zk,Zn,Zu,Zq,Zr,Zz]
 simp+decide (disch:=try exact D0) only[go_sem]
 refine Qa hP (Qbq ha (by omega)) rfl rfl rfl ?_
 simp+decide (disch:=try exact D0) only[go_sem]
 have hlx:=Qv (val a)
 have Qcu:=Qag (val a)
 unfold nl
 generalize val a=x at *
 refine Qb (fun hz=> ?_) (fun hz=> ?_)
 ·simp+decide (disch:=try exact D0) only[go_sem]
  rw[if_neg (by omega)]
  exact Qd8 rfl rfl rfl (Qab _) (Qab _)
 ·simp+decide (disch:=try exact D0) only[go_sem]
  rw[if_pos (by omega)]
  refine Qz (by repeat (first|exact Qn|exact Qi|exact Qj|exact Qk|exact Ql|apply Qh|apply Qm|apply Qt|apply Qx|apply Qy|apply Qg)) [(4,6),(14,26)] [] (fun k J hp=>∃i,k=(dig x).length-i/\i<=(dig x).length/\J 14= .int .i64 i/\J 4= .int .u64 (val ((dig x).take i))/\hp=hp0) (dig x).length ?_ ?_
  ·refine⟨0,rfl,by omega,?_⟩
   simp+decide (disch:=first|omega|rfl|(simp+decide only[go_sem,true_and,and_true,List.take_zero]<;>rfl)|fail) only[go_sem,true_and,and_true,List.take_zero]
   simp[val]
  rintro _ J _ ⟨i,rfl,hi,h14,h4,rfl⟩
  simp+decide (disch:=try exact D2 h14 h4) only[go_sem,h14,h4]
  refine Qb (fun hg=> ?_) (fun hg=> ?_)
  ·have hi':i<(dig x).length:=by omega
   have hxi:=Qax hlx hi'
   have hts:=Qf9 hi'
   have hvt:=Qes hlx i (by omega)
   generalize hxx:(dig x)[i]=xi at *
   have e2:(16:Int)*(i:Int)=((16*i:Nat):Int):=by omega
   have hb:xi*2^(16*i)+2^(16*i)<=18446744073709551616:=by
    have h3:2^(16*i)<=2^48:=Nat.pow_le_pow_right (by omega) (by omega)
    have:(xi+1)*2^(16*i)<=65536*2^48:=Nat.mul_le_mul (by omega) h3
    rw[Nat.add_mul]at this;omega
   have hpp:0<2^(16*i):=Nat.pow_pos (by omega)
   rw[<-Qarx]at hts hvt
   have hor:(val ((dig x).take i)|||xi*2^(16*i))=val ((dig x).take (i+1)):=by
    rw[Nat.or_comm,Qqc hvt,hts,Nat.mul_comm,Nat.add_comm]
   simp+decide (disch:=first|omega|rfl|(simp+decide only[go_sem,h14,h4,hxx,e2,Qv4,Qzt,hor]<;>rfl)|fail) only[go_sem,h14,h4,hxx,e2,Qv4,Qzt,hor]
   refine Qo ((dig x).length-(i+1)) (by omega) ⟨i+1,rfl,by omega,?_⟩
   simp+decide (disch:=try exact D3 h14 true_and and_true) only[go_sem,h14,true_and,and_true]
  ·obtain rfl:i=(dig x).length:=by omega
   rw[List.take_length,Qcu]at h4
   simp+decide (disch:=try exact D1 h4) only[go_sem,h4]
   exact Qd8 rfl rfl rfl (Qab _) (Qab _)
set_option maxHeartbeats 2000000 in
theorem Q9c{u v ex:List Nat}(hu:Qu u)(hv:Qu v)(hn:2<=v.length)(hlt:v.length<u.length)(htop:32768<=v.getD (v.length-1) 0)(hinit:val (u.drop (u.length-v.length))<val v)(hul:u.length+ex.length<2^42):
  Qk8 Tryz.prog 222 [.mso B0 0 u.length,PV.nat v] 155 (Qbk (u++ex)) (fun r xs'=>r=PV.num (val u/val v)/\∃l,xs'=Qbk (l++ex)/\Qu l/\l.length=u.length/\val l=val u%val v):=by
 obtain⟨n,hnv⟩:∃n,v.length=n+2:=⟨v.length-2,by omega⟩
 have e1:(u.length:Int)-(v.length:Int)=((u.length-v.length:Nat):Int):=by omega
 have hvt:=Q35 hnv
 have hv0:=Qes hv n (by omega)
 have hvlt:=Qf8 hv
 have hv1:=Qax hv (show n+1<v.length by omega)
 have hv2:=Qax hv (show n<v.length by omega)
 have hg1:v[n+1]'(by omega)=v.getD (n+1) 0:=(Qbz _).symm
 have hg2:v[n]'(by omega)=v.getD n 0:=(Qbz _).symm
 have htop':32768<=v.getD (n+1) 0:=by rw[hnv]at htop;exact htop
 rw[hg1]at hv1
 rw[hg2]at hv2
 rw[hnv]at hvlt
 have hvp:0<val v:=by
  rw[hvt]
  have:0<65536^n:=Nat.pow_pos (by omega)
  have:0<(v.getD (n+1) 0*65536+v.getD n 0)*65536^n:=Nat.mul_pos (by omega) this
  omega
 refine Qme Qq Tryz.func222 rfl Qaj0 (by simp[c222]) fun C hP=> ?_;simp only[c222,Zo,Zg,Zm,Zc,Zf,Zl,Zh,Zs,Zi,Zb,Zk,Zn,Zu,Zq,Zr,Zz]
 simp+decide (disch:=try exact D1 e1) only[go_sem,e1]
 refine Qzz (by repeat (first|exact Qn|exact Qi|exact Qj|exact Qk|exact Ql|apply Qh|apply Qm|apply Qt|apply Qx|apply Qy|apply Qg)) [(7,11),(24,105)] [7,9,10] (fun k J hp=>∃l qs,k+qs.length=u.length-v.length/\Qu l/\l.length=u.length/\Qu qs/\val (l.drop k)<val v/\val u=val l+val v*(65536^k*val qs)/\J 7= .mp 7 0 0/\
  hp 7=some ⟨1,3,[.int .i64 ((k:Int)-1)],false⟩/\hp 1000000=some ⟨1,155,Qbk (l++ex),false⟩/\hp 18=some ⟨1,155,Qbk (List.replicate k 0++qs),false⟩/\
  hp 3=some ⟨1,47,[PV.nat v],false⟩/\hp 5=some ⟨1,3,[.int .i64 v.length],false⟩) (u.length-v.length) ?_ ?_
 ·refine⟨u,[],rfl,hu,rfl,Qdb,hinit,by simp[val],?_⟩
  simp+decide (disch:=try exact D2 true_and and_true) only[go_sem,true_and,and_true]
  simp
 intro F hF
 have hF2:F 2= .rb 1000000 0 u.length:=by rw[hF];simp+decide (disch:=try exact D0) only[go_sem]
 have hF3:F 3= .mp 3 0 0:=by rw[hF];simp+decide (disch:=try exact D0) only[go_sem]
 have hF5:F 5= .mp 5 0 0:=by rw[hF];simp+decide (disch:=try exact D0) only[go_sem]
 have hF6:F 6= .ms 18 (u.length-v.length):=by rw[hF];simp+decide (disch:=try exact D0) only[go_sem]
 have hkF:∀β,[7,9,10].contains β=true->Qa7 β F=F:=fun β h=>by rw[hF];exact Qiu h
 have hk9:=hkF 9 rfl
 have hk10:=hkF 10 rfl
 have hk7:=hkF 7 rfl
 have hkk:Qao [9,10] F=F:=by rw[hF];exact Qyc rfl
 clear hkF hF
 rintro k J h ⟨l,qs,hsum,hl,hll,hqs,hred,Qcu,hJ7,hh7,hhB,hh18,hh3,hh5⟩
 simp+decide (disch:=try exact D10 hJ7 hh7 hhB hh18 hh3 hh5 hF2 hF3 hF5 hF6) only[go_sem,hJ7,hh7,hhB,hh18,hh3,hh5,hF2,hF3,hF5,hF6]
 refine Qb (fun hg=> ?_) (fun hg=> ?_)
 ·obtain _|j:=k
  ·omega
  have e2:((j+1:Nat):Int)-1=j:=by omega
  have e3:((n+2:Nat):Int)-1=((n+1:Nat):Int):=by omega
  have e4:((j+(n+2):Nat):Int)-1=((j+(n+1):Nat):Int):=by omega
  obtain⟨pre,w,post,hlw,hpl,hwl,hpre,hw,hpost,hpost0,hdj,hwlt,w0,hw0,hwv⟩:=Qaog (n:=n) hl (by omega) (by omega) hred
  have hl2:=Qax hl (show j+(n+2)<l.length by omega)
  have hl1:=Qax hl (show j+(n+1)<l.length by omega)
  have hl0:=Qax hl (show j+n<l.length by omega)
  have hlel:(l++ex).length=u.length+ex.length:=by rw[List.length_append,hll]
  have hgl2:(l++ex)[j+(n+2)]'(by omega)=l.getD (j+(n+2)) 0:=by rw[List.getElem_append_left (by omega)];exact(Qbz _).symm
  have hgl1:(l++ex)[j+(n+1)]'(by omega)=l.getD (j+(n+1)) 0:=by rw[List.getElem_append_left (by omega)];exact(Qbz _).symm
  rw[<-Qbz (by omega)]at hl2 hl1
  have htk2:(Qbk (l++ex)).take u.length=Qbk l:=by rw[<-List.map_take,<-hll,List.take_left]
  have hlw2:l++ex=pre++(w++(post++ex)):=by rw[hlw];simp
  generalize l.getD (j+(n+2)) 0=w2 at *
  generalize l.getD (j+(n+1)) 0=w1 at *
  simp+decide (disch:=first|omega|rfl|(simp+decide only[go_sem,hJ7,hh7,hhB,hh18,hh3,hh5,hF2,hF3,hF5,hF6,hnv,e2,e3,e4,hgl2,hgl1,hg1,Qmg,Qof,Qk9,Qex]<;>rfl)|fail) only[go_sem,hJ7,hh7,hhB,hh18,hh3,hh5,hF2,hF3,hF5,hF6,hnv,e2,e3,e4,hgl2,hgl1,hg1,Qmg,Qof,Qk9,Qex]
  have hwl2:w.length=n+3:=hwl
  have hdigit:=Q5s hvt hwv hw0 (by rw[<-Qbz (show j+n<l.length by omega)]at hl0;omega) (by omega:0<v.getD (n+1) 0)
  have hhi:=Qacm hvt hwv hv0 hwlt (Nat.pow_pos (by omega))
  have hdm:=Nat.div_add_mod (w2*65536+w1) (v.getD (n+1) 0)
  have hdlt:(w2*65536+w1)/v.getD (n+1) 0<131072:=by rw[Nat.div_lt_iff_lt_mul (by omega)];omega
  have hrlt:=Nat.mod_lt (w2*65536+w1) (by omega:0<v.getD (n+1) 0)
  rw[Nat.mul_comm]at hdm
  generalize hd0:(w2*65536+w1)/v.getD (n+1) 0=d0 at *
  generalize hr0:(w2*65536+w1)%v.getD (n+1) 0=r0 at *
  have hcomm:∀(h:HP) v w,Qw (Qw h 10 v) 9 w=Qw (Qw h 9 w) 10 v:=fun h v w=>Q8z 10 9 (by decide) h v w
  refine Qaig (fun J=>J 7= .mp 7 0 0/\J 52= .int .u64 d0/\J 53= .int .u64 (w2*65536+w1:Nat)) (T3 hJ7 true_and and_true) ?_
  clear hJ7
  rintro J ⟨hJ7,hJ52,hJ53⟩
  refine Qacn (by repeat (first|exact Qn|exact Qi|exact Qj|exact Qk|exact Ql|apply Qh|apply Qm|apply Qt|apply Qx|apply Qy|apply Qg)) [9,10] (fun J2 hp2=>J2 7= .mp 7 0 0/\J2 9= .mp 9 0 0/\J2 10= .mp 10 0 0/\hp2=Qw (Qw h 9 ⟨1,112,[.int .u64 d0],false⟩) 10 ⟨1,112,[.int .u64 r0],false⟩) ?_ ?_
  ·intro F' hF'
   have hF'3:F' 3= .mp 3 0 0:=by rw[hF'];simp+decide (disch:=try exact D1 hF3) only[go_sem,hF3]
   have hF'5:F' 5= .mp 5 0 0:=by rw[hF'];simp+decide (disch:=try exact D1 hF5) only[go_sem,hF5]
   have hk9':Qa7 9 F'=F':=by rw[hF'];exact Qiu rfl
   have hk10':Qa7 10 F'=F':=by rw[hF'];exact Qiu rfl
   clear hF'
   repeat' (first|refine Qda ?_ ?_|simp+decide (disch:=first|omega|rfl|(simp+decide only[go_sem,hJ7,hJ52,hJ53,hh3,hh5,hF'3,hF'5,hk9',hk10',hnv,e3,hg1,Qex]<;>rfl)|fail) only[go_sem,hJ7,hJ52,hJ53,hh3,hh5,hF'3,hF'5,hk9',hk10',hnv,e3,hg1,Qex])
   all_goals refine Qla (J:=_) ?_
   all_goals simp+decide (disch:=try exact D5 hJ7 hr0 hcomm true_and and_true) only[go_sem,hJ7,hr0,hcomm,true_and,and_true]
  clear hJ7 hJ52 hJ53 J
  rintro J _ ⟨hJ7,hJ9,hJ10,rfl⟩
  simp+decide (disch:=first|omega|rfl|(simp+decide only[go_sem,hJ7,hJ9,hJ10,hF2,hF3,hF5,hF6,caps,List.all_cons,List.all_nil,List.cons_append,List.nil_append,true_and]<;>rfl)|fail) only[go_sem,hJ7,hJ9,hJ10,hF2,hF3,hF5,hF6,caps,List.all_cons,List.all_nil,List.cons_append,List.nil_append,true_and]
  refine Qzz (by repeat (first|exact Qn|exact Qi|exact Qj|exact Qk|exact Ql|apply Qh|apply Qm|apply Qt|apply Qx|apply Qy|apply Qg)) [(62,77)] [] (fun m J hp=>∃d r,m=d/\d*v.getD (n+1) 0+r=w2*65536+w1/\val w<(d+1)*val v/\hp=Qw (Qw h 9 ⟨1,112,[.int .u64 d],false⟩) 10 ⟨1,112,[.int .u64 r],false⟩) d0 ?_ ?_
  ·exact⟨d0,r0,rfl,hdm,hdigit,rfl⟩
  intro F1 hF1
  have hE9:F1 9= .mp 9 0 0:=by rw[hF1,Qa3];simp+decide (disch:=try exact D1 hJ9) only[go_sem,hJ9]
  have hE10:F1 10= .mp 10 0 0:=by rw[hF1,Qa3];simp+decide (disch:=try exact D1 hJ10) only[go_sem,hJ10]
  have hE11:F1 11= .fn 230 [] [.mp 9 0 0,.mp 3 0 0,.mp 5 0 0,.mp 10 0 0,.rb 1000000 0 u.length,.mp 7 0 0]:=by rw[hF1,Qa3];simp+decide (disch:=try exact D0) only[go_sem]
  have hE3:F1 3= .mp 3 0 0:=by rw[hF1,Qa3];simp+decide (disch:=try exact D1 hF3) only[go_sem,hF3]
  have hE5:F1 5= .mp 5 0 0:=by rw[hF1,Qa3];simp+decide (disch:=try exact D1 hF5) only[go_sem,hF5]
  rintro d J2 _ ⟨_,r,rfl,hdr,hdW,rfl⟩
  have hd17:d<131072:=by
   have:d*32768<=d*v.getD (n+1) 0:=Nat.mul_le_mul_left _ htop'
   omega
  simp+decide (disch:=try exact D3 hE9 hE10 hE11) only[go_sem,hE9,hE10,hE11]
  refine Q2p (by repeat (first|exact Qn|exact Qi|exact Qj|exact Qk|exact Ql|apply Qh|apply Qm|apply Qt|apply Qx|apply Qy|apply Qg)) [(62,67)] [] (fun J hp=>J 67= .bool (decide (r<65536/\(65536<=d∨r*65536+l.getD (j+n) 0<d*v.getD n 0)))/\hp=Qw (Qw h 9 ⟨1,112,[.int .u64 d],false⟩) 10 ⟨1,112,[.int .u64 r],false⟩) ?_ ?_
  ·refine Qaw (fun hr=> ?_) (fun hr=> ?_)
   ·simp+decide (disch:=try exact D3 hE9 hE10 hE11) only[go_sem,hE9,hE10,hE11]
    refine Q8n hP (Qyf (dg:=d) (r:=r) (j:=j) hv hl hn rfl (by omega) (by omega) (by omega) (by omega)) (by simp+decide (disch:=first|omega|rfl|(simp+decide only[go_sem,Qdd,hhB,hh3,hh5,hh7,e2,List.append_nil,List.nil_append,List.getElem?_cons_zero,List.drop_zero,List.take_of_length_le]<;>rfl)|fail) only[go_sem,Qdd,hhB,hh3,hh5,hh7,e2,List.append_nil,List.nil_append,List.getElem?_cons_zero,List.drop_zero,List.take_of_length_le];simp only[List.drop_zero,htk2]) rfl rfl ?_
    simp+decide (disch:=try exact D1 hnv) only[go_sem,hnv]
    refine Qla ⟨?_,rfl⟩
    simp+decide (disch:=try exact D0) only[go_sem]
    rw[show j+(n+2)-2=j+n by omega,show n+2-2=n by omega]
    exact congrArg PV.bool (decide_eq_decide.2 ⟨fun h=>⟨by omega,h⟩,fun h=>h.2⟩)
   ·simp+decide (disch:=try exact D3 hE9 hE10 hE11) only[go_sem,hE9,hE10,hE11]
    refine Qla ⟨?_,rfl⟩
    simp+decide (disch:=try exact D0) only[go_sem]
    simp;omega
  rintro J3 _ ⟨h67,rfl⟩
  simp (disch:=decide) only[Qa3,Qbg]
  simp+decide (disch:=try exact D1 h67) only[go_sem,h67]
  refine Qb (fun ht=> ?_) (fun ht=> ?_)
  ·obtain⟨hr,ht⟩:=ht
   have hlt2:val w<d*val v:=by
    rcases ht with ht|ht
    ·exact Nat.lt_of_lt_of_le hwlt (Nat.mul_le_mul_right _ ht)
    ·exact Qack hvt hwv hw0 hdr ht
   obtain _|d:=d
   ·omega
   have e5:((d+1:Nat):Int)-1=(d:Nat):=by omega
   simp+decide (disch:=try exact D11 hE9 hE10 hE3 hE5 hh3 hh5 hnv e3 e5 hg1 hcomm) only[go_sem,hE9,hE10,hE3,hE5,hh3,hh5,hnv,e3,e5,hg1,hcomm]
   refine Qo d (by omega) ⟨d,r+v.getD (n+1) 0,rfl,?_,hlt2,rfl⟩
   rw[Nat.add_mul]at hdr;omega
  have hd65:d<65536:=by
   apply Decidable.byContradiction
   intro hge
   apply ht
   refine⟨?_,.inl (by omega)⟩
   have:65536*v.getD (n+1) 0<=d*v.getD (n+1) 0:=Nat.mul_le_mul_right _ (by omega)
   omega
  have htest:¬r*65536+l.getD (j+n) 0<d*v.getD n 0:=by
   intro hlt3
   by_cases hr:r<65536
   ·exact ht ⟨hr,.inr hlt3⟩
   ·have:=Qfy hd65 hv2
    omega
  have e5:j+(n+2)+1-j=n+3:=by omega
  subst hF1
  simp (disch:=decide) only[Qa3,hkk,Qbg]
  simp+decide (disch:=try exact D14 hJ7 hJ9 hJ10 hF2 hF3 hF5 hF6 hh3 hh5 hh7 hhB e2 hnv e5) only[go_sem,hJ7,hJ9,hJ10,hF2,hF3,hF5,hF6,hh3,hh5,hh7,hhB,e2,hnv,e5]
  have hsq:=Qzs w v d 0 0 hw (by omega) (by omega)
  have hcar:=Quf w v d 0 0 (by omega) (by omega) hd65 hv
  have hsl:=Quc w v d 0 0
  have hsln:=Qrz w v d 0 0
  have hwB:=Qf8 hw
  rw[hwl]at hsq hwB
  refine Qt8 hP (Qye (pre:=pre) (w:=w) (post:=post++ex) (j:=j) (m:=n+3) (q:=d) hw hv hd65 hpl hwl (by omega) (by rw[<-hlw2];omega)) (β:=1000000) (T2 hhB hlw2) (Qfn _) (by simp;omega) (by simp[toB,B0]) rfl ?_
  rintro _ _ _ _ ⟨rfl,rfl⟩
  generalize Qdm w v d 0 0=sq at *
  obtain⟨⟨hsq,hb1⟩,hcar⟩:=And.intro hsq hcar
  have hSB:=Qf8 hsl
  rw[hsln,hwl]at hSB
  have hpll:pre.length+(w.length+post.length)=u.length:=by rw[<-hll,hlw];simp
  have hs18:j<(List.replicate (j+1) 0++qs).length:=by simp;omega
  have hvl2:val l=val pre+65536^j*val w:=by
   rw[hlw,Qcq,Qcq,hpost0,hpl,Nat.mul_zero,Nat.add_zero]
  simp+decide (disch:=first|omega|rfl|(simp+decide only[go_sem,Qhb,hJ7,hJ9,hJ10,hF2,hF3,hF5,hF6]<;>rfl)|fail) only[go_sem,Qhb,hJ7,hJ9,hJ10,hF2,hF3,hF5,hF6]
  refine Qb (fun hb=> ?_) (fun hb=> ?_)
  ·have hb2:sq.2.2=1:=by omega
   rw[hcar,hb2]at hsq
   obtain _|d:=d
   ·omega
   have heV:=Qacl hvt hwv hv0 (by omega) hd65 hdr htest
   obtain⟨k,hk⟩:=Qzr sq.1 v 0 (by omega)
   have hrl:=Qub sq.1 v 0
   have hrln:=Qry sq.1 v 0
   rw[hsln,hwl]at hk hrln
   have hrB:=Qf8 hrl
   rw[hrln]at hrB
   obtain⟨hR1,hR2⟩:=Qaih (B:=65536^(n+3)) (S:=val sq.1) (e:=d) (by omega) hSB heV (by omega) hrB hwB
   have e6:((d+1:Nat):Int)-1=(d:Nat):=by omega
   simp+decide (disch:=first|omega|rfl|(simp+decide only[go_sem,hJ7,hJ9,hJ10,hF2,hF3,hF5,hF6,hh3,hh5,hh7,hhB,e2,e6,hnv,e5]<;>rfl)|fail) only[go_sem,hJ7,hJ9,hJ10,hF2,hF3,hF5,hF6,hh3,hh5,hh7,hhB,e2,e6,hnv,e5]
   refine Qt8 hP (Q0e (pre:=pre) (w:=sq.1) (post:=post++ex) (j:=j) (m:=n+3) hsl hv hpl (by omega) (by omega) (by simp;omega)) (β:=1000000) T0 (Qfn _) (by simp;omega) (by simp[toB,B0]) rfl ?_
   rintro _ _ _ _ ⟨rfl,rfl⟩
   have hback:=Qw5 (q:=d) (R:=Qgv sq.1 v 0) hpl hpost0 Qcu hvl2 hR2
   simp+decide (disch:=first|omega|rfl|(simp+decide only[go_sem,Qhb,hJ7,hJ9,hJ10,hF2,hF3,hF5,hF6,hh3,hh5,hh7,hhB,hh18,e2,e6,hnv,e5,Qrh,Nat.mod_eq_of_lt (by omega:d<65536),hk7]<;>rfl)|fail) only[go_sem,Qhb,hJ7,hJ9,hJ10,hF2,hF3,hF5,hF6,hh3,hh5,hh7,hhB,hh18,e2,e6,hnv,e5,Qrh,Nat.mod_eq_of_lt (by omega:d<65536),hk7]
   refine Qo j (by omega) ⟨pre++(Qgv sq.1 v 0++post),d::qs,by simp;omega,?_,?_,?_,?_,hback.2,?_⟩
   ·rw[Qcd,Qcd];exact⟨hpre,hrl,hpost⟩
   ·simp;omega
   ·rw[Qbe];exact⟨by omega,hqs⟩
   ·rw[hback.1];exact hR1
   ·simp+decide (disch:=first|omega|rfl|(simp+decide only[go_sem,hh3,hh5,true_and,and_true,hnv,List.append_assoc]<;>rfl)|fail) only[go_sem,hh3,hh5,true_and,and_true,hnv,List.append_assoc]
  ·have hb2:sq.2.2=0:=by omega
   rw[hcar,hb2]at hsq
   obtain⟨hR1,hR2⟩:=Qaoi (S:=val sq.1) (d:=d) (by omega) hdW
   have hback:=Qw5 (q:=d) (R:=sq.1) hpl hpost0 Qcu hvl2 hR2
   simp+decide (disch:=first|omega|rfl|(simp+decide only[go_sem,Qhb,hJ7,hJ9,hJ10,hF2,hF3,hF5,hF6,hh3,hh5,hh7,hhB,hh18,e2,hnv,e5,Qrh,Nat.mod_eq_of_lt hd65,hk7]<;>rfl)|fail) only[go_sem,Qhb,hJ7,hJ9,hJ10,hF2,hF3,hF5,hF6,hh3,hh5,hh7,hhB,hh18,e2,hnv,e5,Qrh,Nat.mod_eq_of_lt hd65,hk7]
   refine Qo j (by omega) ⟨pre++(sq.1++post),d::qs,by simp;omega,?_,?_,?_,?_,hback.2,?_⟩
   ·rw[Qcd,Qcd];exact⟨hpre,hsl,hpost⟩
   ·simp;omega
   ·rw[Qbe];exact⟨hd65,hqs⟩
   ·rw[hback.1];exact hR1
   ·simp+decide (disch:=first|omega|rfl|(simp+decide only[go_sem,hh3,hh5,true_and,and_true,hnv,List.append_assoc]<;>rfl)|fail) only[go_sem,hh3,hh5,true_and,and_true,hnv,List.append_assoc]
 ·obtain rfl:k=0:=by omega
  rw[List.drop_zero]at hred
  rw[Nat.pow_zero,Nat.one_mul]at Qcu
  have hdiv:val u/val v=val qs:=by
   rw[Qcu,Nat.add_mul_div_left _ _ hvp,Nat.div_eq_of_lt hred,Nat.zero_add]
  have hmod:val u%val v=val l:=by
   rw[Qcu,Nat.add_mul_mod_self_left,Nat.mod_eq_of_lt hred]
  simp+decide (disch:=first|omega|rfl|(simp+decide only[go_sem,hJ7,hh7,hhB,hh18,hh3,hh5,hF2,hF3,hF5,hF6,List.replicate_zero,List.nil_append]<;>rfl)|fail) only[go_sem,hJ7,hh7,hhB,hh18,hh3,hh5,hF2,hF3,hF5,hF6,List.replicate_zero,List.nil_append]
  refine Qdr hP (Qbq hqs (by omega)) (Qlx (ty:=155) (fz:=false) (by simp+decide (disch:=first|omega|rfl|(simp+decide only[go_sem,hh18,List.replicate_zero,List.nil_append]<;>rfl)|fail) only[go_sem,hh18,List.replicate_zero,List.nil_append]) (by omega)) rfl ?_
  simp+decide (disch:=try exact D0) only[go_sem]
  refine Q8q (xs':=Qbk (l++ex)) (p:=PV.num (val qs)) ?_ (Qfn _) (by simp;omega) T0 rfl ⟨by rw[hdiv],l,rfl,hl,hll,hmod.symm⟩
  show FW.Qaq h [18] 1000000=_
  simp only[FW.Qaq]
  rw[if_neg (by decide),hhB]
theorem Q6b{a:List Nat}{s:Nat}(ha:Qu a)(hla:a.length<2^40)(hs:s<=15):Qd Tryz.prog 221 [PV.nat a,.int .i64 (-(s:Int))] (· =PV.num (val a/2^s)):=by
 have hda:=Qaz ha
 unfold nl at hda
 by_cases h0:val a=0
 ·refine Qf Qq Tryz.func221 rfl Qwf (by simp[Qtc]) fun C hP=> ?_;simp only[Qtc,Zo,Zg,Zm,Zc,Zf,Zl,Zh,Zs,Zi,Zb,Zk,Zn,Zu,Zq,Zr,Zz]
  simp+decide (disch:=try exact D0) only[go_sem]
  refine Qa hP (Qbq ha (by omega)) rfl rfl rfl ?_
  simp+decide (disch:=try exact D0) only[go_sem]
  refine Qal (fun hz=>by omega) (fun hz=> ?_)
  simp+decide (disch:=try exact D0) only[go_sem]
  refine Qal (fun hz=>by omega) (fun hz=> ?_)
  simp+decide (disch:=try exact D0) only[go_sem]
  refine Qb (fun hz=> ?_) (fun hz=>absurd (by rw[h0,Qbj];rfl) hz)
  simp+decide (disch:=try exact D0) only[go_sem]
  exact Qew (Qnm (by simp[h0])) rfl
 by_cases hs0:s=0
 ·subst hs0
  have:=(Qm3 (s:=0) ha hla (by omega) h0).toV
  rw[Nat.pow_zero,Nat.mul_one]at this
  rw[Nat.pow_zero,Nat.div_one]
  exact this
 have hnz:(dig (val a)).length≠0:=fun h=>h0 (Qb3.1 (Qdl h))
 refine Qf Qq Tryz.func221 rfl Qwf (by simp[Qtc]) fun C hP=> ?_;simp only[Qtc,Zo,Zg,Zm,Zc,Zf,Zl,Zh,Zs,Zi,Zb,Zk,Zn,Zu,Zq,Zr,Zz]
 simp+decide (disch:=try exact D0) only[go_sem]
 refine Qa hP (Qbq ha (by omega)) rfl rfl rfl ?_
 simp+decide (disch:=try exact D0) only[go_sem]
 refine Qal (fun hz=>by omega) (fun hz=> ?_)
 simp+decide (disch:=try exact D0) only[go_sem]
 refine Qal (fun hz=>by omega) (fun hz=> ?_)
 simp+decide (disch:=try exact D0) only[go_sem]
 refine Qb (fun hz=>by omega) (fun hz=> ?_)
 simp+decide (disch:=try exact D0) only[go_sem]
 refine Qb (fun hz=> ?_) (fun hz=>by omega)
 have e:(0:Int)- -(s:Int)=(s:Nat):=by omega
 simp+decide (disch:=try exact D1 e) only[go_sem,e]
 refine Qa hP (Q59 (Qv (val a)) (by omega) hs) rfl rfl rfl ?_
 simp+decide (disch:=first|omega|rfl|(simp+decide only[go_sem,Qag]<;>rfl)|fail) only[go_sem,Qag]
 exact Qc rfl rfl
theorem Q6c{x d:Nat}(hx:(dig x).length<2^42)(hd:0<d)(hd2:d<65536):Qd Tryz.prog 219 [PV.num x,.int .u16 d] (· = .tup [PV.num (x/d),.int .u16 (x%d:Nat)]):=by
 have:=Q2u (Qv x) hx hd hd2
 rwa[Qag]at this
theorem Qm5{a b:List Nat}(ha:Qu a)(hb:Qu b)(hla:a.length<2^38)(hlb:b.length<2^38):Qd Tryz.prog 192 [PV.nat a,PV.nat b]
  (· =if val b=0 then .tup [PV.num 0,PV.num 0,.int .i64 3]else .tup [PV.num (val a/val b),PV.num (val a%val b),.int .i64 0]):=by
 have hda:=Qaz ha
 have hdb:=Qaz hb
 unfold nl at hda hdb
 refine Qf Qq Tryz.func192 rfl Qai5 (by simp[c192]) fun C hP=> ?_;simp only[c192,Zo,Zg,Zm,Zc,Zf,Zl,Zh,Zs,Zi,Zb,Zk,Zn,Zu,Zq,Zr,Zz]
 simp+decide (disch:=try exact D0) only[go_sem]
 refine Qa hP (Qbq ha (by omega)) rfl rfl rfl ?_
 simp+decide (disch:=try exact D0) only[go_sem]
 refine Qa hP (Qbq hb (by omega)) rfl rfl rfl ?_
 simp+decide (disch:=try exact D0) only[go_sem]
 have hxl:=Qv (val a)
 have hyl:=Qv (val b)
 have hxv:=Qag (val a)
 have hyv:=Qag (val b)
 have hylast:=Qlw (val b)
 generalize val a=x at *
 generalize val b=y at *
 refine Qb (fun hz=> ?_) (fun hz=> ?_)
 ·have hy0:y=0:=Qb3.1 (Qdl (by omega))
  simp+decide (disch:=try exact D0) only[go_sem]
  rw[if_pos hy0]
  exact Qhi rfl rfl rfl rfl Qje Qje (Qab _)
 have hy0:y≠0:=fun h=>by rw[h,Qbj]at hz;simp at hz
 rw[if_neg hy0]
 simp+decide (disch:=try exact D0) only[go_sem]
 refine Qa hP (Qov hxl hyl (by omega) (by omega)) rfl rfl rfl ?_
 simp+decide (disch:=try exact D2 hxv hyv) only[go_sem,hxv,hyv]
 refine Qb (fun hc=> ?_) (fun hc=> ?_)
 ·have hlt:x<y:=by
   unfold Qeo at hc;split at hc
   ·assumption
   ·split at hc<;>omega
  simp+decide (disch:=try exact D0) only[go_sem]
  refine Qa hP (Qkh hxl (by omega)) rfl rfl rfl ?_
  simp+decide (disch:=try exact D1 hxv) only[go_sem,hxv]
  exact Qhi rfl rfl rfl rfl (Qnm (Nat.div_eq_of_lt hlt)) (Qgu (by rw[Nat.mod_eq_of_lt hlt])) (Qab _)
 have hge:y<=x:=by
  unfold Qeo at hc;split at hc<;>omega
 simp+decide (disch:=try exact D0) only[go_sem]
 refine Qb (fun h1=> ?_) (fun h1=> ?_)
 ·obtain⟨d,hd⟩:∃d,dig y=[d]:=by
   match h:dig y,h1 with
   | [d],_=>exact⟨d,rfl⟩
   | [],h1=>simp at h1
   |_::_::_,h1=>simp at h1;omega
  have hyd:y=d:=by rw[<-hyv,hd];simp[val]
  have hd1:d<65536:=by rw[hd]at hyl;exact hyl d (by simp)
  simp+decide (disch:=first|omega|rfl|(simp+decide only[go_sem,hd,List.map_cons,List.map_nil,List.length_cons,List.length_nil]<;>rfl)|fail) only[go_sem,hd,List.map_cons,List.map_nil,List.length_cons,List.length_nil]
  refine Qa hP (Q6c (x:=x) (d:=d) (by omega) (by omega) hd1) (by rw[PV.num];rfl) rfl rfl ?_
  have hm:x%d<18446744073709551616:=by have:=Nat.mod_lt x (show 0<d by omega);omega
  simp+decide (disch:=try exact D0) only[go_sem]
  refine Qa hP (Qrl hm) rfl rfl rfl ?_
  simp+decide (disch:=try exact D0) only[go_sem]
  rw[hyd]
  exact Qhi rfl rfl rfl rfl (Qab _) (Qab _) (Qab _)
 obtain⟨n,hn⟩:∃n,(dig y).length=n+2:=⟨(dig y).length-2,by omega⟩
 obtain⟨m,hm⟩:∃m,(dig x).length=m+2:=by
  have:=Qb8 hge
  unfold nl at this
  exact⟨(dig x).length-2,by omega⟩
 have e1:((n+2:Nat):Int)-1=((n+1:Nat):Int):=by omega
 have hlast:(dig y)[n+1]'(by omega)≠0:=by
  intro h;apply hylast
  have:(dig y).getLast? =some ((dig y)[n+1]'(by omega)):=by
   rw[List.getLast?_eq_getElem?,show(dig y).length-1=n+1 by omega];exact List.getElem?_eq_getElem _
  rw[this,h]
 have hy1:=Qax hyl (show n+1<(dig y).length by omega)
 have hdyv:val (dig y)=y:=Qag y
 generalize hyi:(dig y)[n+1]'(by omega)=yi at *
 have hbl:=Qm4 hy1
 have hbp:=Qox hy1 hlast
 obtain⟨htp,htp2⟩:=Q6a _ yi rfl hlast hy1
 obtain⟨s,hs,hs15⟩:∃s,16-Lib.bitLen yi=s/\s<=15:=⟨_,rfl,by omega⟩
 simp+decide (disch:=try exact D3 hn e1 hyi) only[go_sem,hn,e1,hyi]
 refine Qa hP (Qpy hy1) rfl rfl rfl ?_
 simp+decide (disch:=try exact D1 hs) only[go_sem,hs]
 have hso:=Qm3 (a:=dig x) (s:=s) hxl (by omega) hs15 (by rw[hxv];omega)
 refine Qaoc hP hso rfl rfl rfl (by decide) ?_
 rintro _ _ rfl
 rw[hxv]
 have hDl:(dig (x*2^s)).length<=m+3:=by
  have h1:=Qgs x (2^s)
  have h2:nl (2^s)<=1:=Qgo.2 (by have:2^s<=2^15:=Nat.pow_le_pow_right (by omega) hs15;omega)
  unfold nl at h1 h2;omega
 have hDl2:m+2<=(dig (x*2^s)).length:=by
  have:=Qb8 (show x<=x*2^s from Nat.le_mul_of_pos_right _ (Nat.pow_pos (by omega)))
  unfold nl at this;omega
 simp+decide (disch:=try exact D1 hm) only[go_sem,hm]
 rw[Qoc (ys:=Qbk [0,0]) (xs:=Qbk (dig (x*2^s))) (by simp+decide (disch:=first|omega|rfl|(simp+decide only[go_sem,Qec]<;>rfl)|fail) only[go_sem,Qec];rfl) T0 (by omega) (by simp) (by simp;omega) (by simp;omega)]
 rw[List.take_of_length_le (by simp),<-List.map_append]
 simp+decide (disch:=first|omega|rfl|(simp+decide only[go_sem,hm,List.length_cons,List.length_nil]<;>rfl)|fail) only[go_sem,hm,List.length_cons,List.length_nil]
 have hsoy:=(Qm3 (a:=dig y) (s:=s) hyl (by omega) hs15 (by rw[hyv];omega)).toV
 rw[hyv]at hsoy
 refine Qa hP hsoy rfl rfl rfl ?_
 obtain⟨g1,g2⟩:=Q82 hs15 (by rw[show 16-s=Lib.bitLen yi by omega];exact htp) (by rw[show 16-s=Lib.bitLen yi by omega];exact htp2)
 obtain⟨hYl,hYt,hYge⟩:=Q2q hn hyi g1 g2
 have hnm:n<=m:=by have:=Qb8 hge;unfold nl at this;omega
 obtain⟨u,ex,hu1,hu2,hu3,hu4,hu5,hu6⟩:=Q2r (s:=s) hm hs15 hnm hYge
 have hdm1:x*2^s/(y*2^s)=x/y:=Nat.mul_div_mul_right _ _ (Nat.pow_pos (by omega))
 have hdm2:x*2^s%(y*2^s)=x%y*2^s:=Nat.mul_mod_mul_right _ _ _
 rw[hu1]
 simp+decide (disch:=try exact D0) only[go_sem]
 have hlg:=Q9c (u:=u) (v:=dig (y*2^s)) (ex:=ex) hu3 (Qv _) (by omega) (by omega) (by rw[hYl];exact hYt) (by rw[hYl,hu2,Qag];exact hu6) (by omega)
 rw[hu2,hu4,Qag,hdm1,hdm2]at hlg
 refine Qt8 hP hlg (β:=52) T0 (Qfn _) (by simp;omega) (by simp[toB]) rfl ?_
 rintro _ _ _ _ ⟨rfl,l,rfl,hl1,hl2,hl3⟩
 have e5:IntKind.i64.wrap (0-(s:Int))= -(s:Int):=by rw[Qh5 (by omega) (by omega)];omega
 have htk:(Qbk (l++ex)).take (m+2+1)=Qbk l:=by rw[<-List.map_take,show m+2+1=l.length by omega,List.take_left]
 simp+decide (disch:=first|omega|rfl|(simp+decide only[go_sem,Qhb]<;>rfl)|fail) only[go_sem,Qhb]
 refine Qdr hP (Qbq hl1 (by omega)) (by simp[Qam,Qbh,isY,Qw,<-List.map_append,htk]) rfl ?_
 simp+decide (disch:=try exact D1 e5) only[go_sem,e5]
 rw[hl3]
 have hsb:=Q6b (a:=dig (x%y*2^s)) (s:=s) (Qv _) (by have:=Qb8 (show x%y*2^s<=x*2^s from Nat.mul_le_mul_right _ (Nat.mod_le _ _));unfold nl at this;omega) hs15
 rw[Qag,Nat.mul_div_cancel _ (Nat.pow_pos (by omega))]at hsb
 refine Qa hP hsb rfl rfl rfl ?_
 simp+decide (disch:=try exact D0) only[go_sem]
 exact Qhi rfl rfl rfl rfl (Qab _) (Qab _) (Qab _)
theorem Q0f{a b:List Nat}(ha:Qu a)(hb:Qu b)(hla:a.length<2^38)(hlb:b.length<2^38):Qd Tryz.prog 186 [PV.nat a,PV.nat b] (· =PV.num (Nat.gcd (val a) (val b))):=by
 have hda:=Qaz ha
 have hdb:=Qaz hb
 unfold nl at hda hdb
 refine Qf Qq Tryz.func186 rfl Qai9 (by simp[c186]) fun C hP=> ?_;simp only[c186,Zo,Zg,Zm,Zc,Zf,Zl,Zh,Zs,Zi,Zb,Zk,Zn,Zu,Zq,Zr,Zz]
 simp+decide (disch:=try exact D0) only[go_sem]
 refine Qa hP (Qkh ha (by omega)) rfl rfl rfl ?_
 simp+decide (disch:=try exact D0) only[go_sem]
 refine Qa hP (Qkh hb (by omega)) rfl rfl rfl ?_
 simp+decide (disch:=try exact D0) only[go_sem]
 refine Qz (by repeat (first|exact Qn|exact Qi|exact Qj|exact Qk|exact Ql|apply Qh|apply Qm|apply Qt|apply Qx|apply Qy|apply Qg)) [(0,1),(4,11),(16,49)] [] (fun m J hp=>∃x y,m=y/\Nat.gcd x y=Nat.gcd (val a) (val b)/\(dig x).length<2^38/\(dig y).length<2^38/\J 0=PV.num x/\J 1=PV.num y/\hp=hp0) (val b) ?_ ?_
 ·refine⟨val a,val b,rfl,rfl,by omega,by omega,?_⟩
  simp+decide (disch:=try exact D2 true_and and_true) only[go_sem,true_and,and_true]
 rintro y J _ ⟨x,_,rfl,hg,hx,hy,h0,h1,rfl⟩
 generalize Nat.gcd (val a) (val b)=g at *
 simp+decide (disch:=try exact D2 h0 h1) only[go_sem,h0,h1]
 refine Qb (fun hc=> ?_) (fun hc=> ?_)
 ·have hy0:y≠0:=fun h=>by rw[h,Qbj]at hc;simp at hc
  have hmod:(dig (x%y)).length<2^38:=by
   have:=Qb8 (Nat.le_of_lt (Nat.mod_lt x (Nat.pos_of_ne_zero hy0)));unfold nl at this;omega
  simp+decide (disch:=try exact D2 h0 h1) only[go_sem,h0,h1]
  refine Qa hP (Qqo (Qv x) (by omega)) rfl rfl rfl ?_
  simp+decide (disch:=try exact D2 h0 h1) only[go_sem,h0,h1]
  rw[Qag]
  by_cases hs1:nl x<=4
  ·have hxs:=Qmd.1 hs1
   rw[if_pos hs1]
   simp+decide (disch:=try exact D2 h0 h1) only[go_sem,h0,h1]
   refine Qa hP (Qqo (Qv y) (by omega)) rfl rfl rfl ?_
   rw[Qag]
   by_cases hs2:nl y<=4
   ·have hys:=Qmd.1 hs2
    rw[if_pos hs2]
    simp+decide (disch:=try exact D2 h0 h1) only[go_sem,h0,h1]
    refine Qz (by repeat (first|exact Qn|exact Qi|exact Qj|exact Qk|exact Ql|apply Qh|apply Qm|apply Qt|apply Qx|apply Qy|apply Qg)) [(5,5),(7,7),(33,38)] [] (fun m J hp=>∃p q,m=q/\Nat.gcd p q=g/\p<18446744073709551616/\q<18446744073709551616/\J 5= .int .u64 p/\J 7= .int .u64 q/\hp=hp0) y ?_ ?_
    ·refine⟨x,y,rfl,hg,hxs,hys,?_⟩
     simp+decide (disch:=try exact D2 true_and and_true) only[go_sem,true_and,and_true]
    rintro q J2 _ ⟨p,_,rfl,hg2,hp1,hp2,h5,h7,rfl⟩
    simp+decide (disch:=try exact D2 h5 h7) only[go_sem,h5,h7]
    refine Qb (fun hq=> ?_) (fun hq=> ?_)
    ·have hq0:0<q:=by omega
     simp+decide (disch:=first|omega|rfl|(simp+decide only[go_sem,h5,h7,Qex]<;>rfl)|fail) only[go_sem,h5,h7,Qex]
     refine Qo (p%q) (Nat.mod_lt _ hq0) ⟨q,p%q,rfl,?_,hp2,?_,?_⟩
     ·rw[<-hg2,Nat.gcd_comm p q,Nat.gcd_rec q p,Nat.gcd_comm]
     ·have:=Nat.mod_lt p hq0;omega
     ·simp+decide (disch:=try exact D2 true_and and_true) only[go_sem,true_and,and_true]
    ·obtain rfl:q=0:=by omega
     simp+decide (disch:=try exact D2 h5 h7) only[go_sem,h5,h7]
     refine Qa hP (Qrl hp1) rfl rfl rfl ?_
     simp+decide (disch:=try exact D0) only[go_sem]
     exact Qc (by rw[<-hg2,Nat.gcd_zero_right]) rfl
   ·rw[if_neg hs2]
    simp+decide (disch:=try exact D2 h0 h1) only[go_sem,h0,h1]
    refine Qa hP (Qm5 (Qv x) (Qv y) (by omega) (by omega)) rfl rfl rfl ?_
    rw[Qag,Qag,if_neg hy0]
    simp+decide (disch:=try exact D2 h0 h1) only[go_sem,h0,h1]
    refine Qo (x%y) (Nat.mod_lt _ (Nat.pos_of_ne_zero hy0)) ⟨y,x%y,rfl,?_,hy,hmod,?_⟩
    ·rw[<-hg,Nat.gcd_comm x y,Nat.gcd_rec y x,Nat.gcd_comm]
    ·simp+decide (disch:=try exact D2 true_and and_true) only[go_sem,true_and,and_true]
  ·rw[if_neg hs1]
   simp+decide (disch:=try exact D2 h0 h1) only[go_sem,h0,h1]
   refine Qa hP (Qqo (Qv y) (by omega)) rfl rfl rfl ?_
   obtain⟨r1,r2,hr⟩:∃r1 r2,(if nl (val (dig y))<=4 then PV.tup [.int .u64 (val (dig y)),.bool true]else .tup [.int .u64 0,.bool false])= .tup [.int .u64 r1,.bool r2]:=by
    split<;>exact⟨_,_,rfl⟩
   rw[hr]
   simp+decide (disch:=try exact D2 h0 h1) only[go_sem,h0,h1]
   refine Qa hP (Qm5 (Qv x) (Qv y) (by omega) (by omega)) rfl rfl rfl ?_
   rw[Qag,Qag,if_neg hy0]
   simp+decide (disch:=try exact D2 h0 h1) only[go_sem,h0,h1]
   refine Qo (x%y) (Nat.mod_lt _ (Nat.pos_of_ne_zero hy0)) ⟨y,x%y,rfl,?_,hy,hmod,?_⟩
   ·rw[<-hg,Nat.gcd_comm x y,Nat.gcd_rec y x,Nat.gcd_comm]
   ·simp+decide (disch:=try exact D2 true_and and_true) only[go_sem,true_and,and_true]
 ·have hy0:y=0:=Qb3.1 (Qdl (by omega))
  subst hy0
  simp+decide (disch:=try exact D1 h0) only[go_sem,h0]
  exact Qc (by rw[<-hg,Nat.gcd_zero_right]) rfl
theorem Qgd(n:Bool)(x:Nat):Qd Tryz.prog 188 [.bool n,PV.num x] (· =PV.zz (if n then -(x:Int)else x)):=by
 refine Qf Qq Tryz.func188 rfl Qajd (by simp[c188]) fun C hP=> ?_;simp only[c188,Zo,Zg,Zm,Zc,Zf,Zl,Zh,Zs,Zi,Zb,Zk,Zn,Zu,Zq,Zr,Zz]
 simp+decide (disch:=try exact D0) only[go_sem]
 refine Qg8 (fun hn=> ?_) (fun hn=> ?_)
 all_goals
  simp+decide (disch:=try exact D0) only[go_sem]
  refine Qba ?_
  simp+decide (disch:=try exact D0) only[go_sem]
  exact Qc (by rw[<-Qwa,hn];simp) rfl
theorem Q9d{n:Bool}{a:List Nat}(ha:Qu a)(hla:a.length<2^42):Qd Tryz.prog 217 [.bool n,PV.nat a] (· =PV.zz (zv n a)):=by
 refine Qf Qq Tryz.func217 rfl Qajc (by simp[c217]) fun C hP=> ?_;simp only[c217,Zo,Zg,Zm,Zc,Zf,Zl,Zh,Zs,Zi,Zb,Zk,Zn,Zu,Zq,Zr,Zz]
 simp+decide (disch:=try exact D0) only[go_sem]
 refine Qa hP (Qkh ha hla) rfl rfl rfl ?_
 simp+decide (disch:=try exact D0) only[go_sem]
 refine Qg8 (fun hn=> ?_) (fun hn=> ?_)
 all_goals
  simp+decide (disch:=try exact D0) only[go_sem]
  refine Qba ?_
  simp+decide (disch:=try exact D0) only[go_sem]
  exact Qc (by have:=Qwa n (val a);rw[hn]at this;subst hn;simpa[zv]using this) rfl
theorem Q2x{n:Bool}{a:List Nat}(ha:Qu a)(hla:a.length<2^42):Qd Tryz.prog 191 [PV.zi n a] (· =PV.zz (zv n a)):=by
 refine Qf Qq Tryz.func191 rfl Qajf (by simp[c191]) fun C hP=> ?_;simp only[c191,Zo,Zg,Zm,Zc,Zf,Zl,Zh,Zs,Zi,Zb,Zk,Zn,Zu,Zq,Zr,Zz]
 simp+decide (disch:=try exact D0) only[go_sem]
 refine Qa hP (Q9d ha hla) rfl rfl rfl ?_
 simp+decide (disch:=try exact D0) only[go_sem]
 refine Qba ?_
 simp+decide (disch:=try exact D0) only[go_sem]
 exact Qc rfl rfl
theorem Qjt{n:Bool}{a:List Nat}(ha:Qu a)(hla:a.length<2^40):Qd Tryz.prog 109 [PV.zi n a] (· = .int .i64 (sgn (zv n a))):=by
 refine Qf Qq Tryz.func109 rfl Qajh (by simp[c109]) fun C hP=> ?_;simp only[c109,Zo,Zg,Zm,Zc,Zf,Zl,Zh,Zs,Zi,Zb,Zk,Zn,Zu,Zq,Zr,Zz]
 simp+decide (disch:=try exact D0) only[go_sem]
 refine Qc8 hP (Qxg ha hla) rfl rfl rfl ?_
 rintro _ ⟨k,rfl,hk⟩
 simp+decide (disch:=try exact D0) only[go_sem]
 rw[Qz0]
 refine Qb (fun hz=> ?_) (fun hz=> ?_)
 ·simp+decide (disch:=try exact D0) only[go_sem]
  rw[if_pos (hk.1 (by omega))]
  exact Qc rfl rfl
 ·rw[if_neg (fun h=>hz (by rw[hk.2 h];rfl))]
  simp+decide (disch:=try exact D0) only[go_sem]
  refine Qj7 (fun hn=> ?_) (fun hn=> ?_)
  ·simp+decide (disch:=try exact D0) only[go_sem]
   exact Qc (by simp[hn]) rfl
  ·simp+decide (disch:=try exact D0) only[go_sem]
   exact Qc (by simp[hn]) rfl
theorem Qr6{a b:List Nat}(ha:Qu a)(hb:Qu b)(hla:a.length<2^40)(hlb:b.length<2^40):Qd Tryz.prog 233 [PV.nat a,PV.nat b] (· = .int .i64 (Qeo (val a) (val b))):=by
 refine Qf Qq Tryz.func233 rfl Qajj (by simp[c233]) fun C hP=> ?_;simp only[c233,Zo,Zg,Zm,Zc,Zf,Zl,Zh,Zs,Zi,Zb,Zk,Zn,Zu,Zq,Zr,Zz]
 simp+decide (disch:=try exact D0) only[go_sem]
 refine Qa hP (Qov ha hb hla hlb) rfl rfl rfl ?_
 simp+decide (disch:=try exact D0) only[go_sem]
 exact Qc rfl rfl
theorem Q6d{n m:Bool}{a b:List Nat}(ha:Qu a)(hb:Qu b)(hla:a.length<2^40)(hlb:b.length<2^40):Qd Tryz.prog 224 [PV.zi n a,PV.zi m b] (· = .int .i64 (Qcm (zv n a) (zv m b))):=by
 have hx:=Qz0 n a
 have hy:=Qz0 m b
 refine Qf Qq Tryz.func224 rfl Qaji (by simp[c224]) fun C hP=> ?_;simp only[c224,Zo,Zg,Zm,Zc,Zf,Zl,Zh,Zs,Zi,Zb,Zk,Zn,Zu,Zq,Zr,Zz]
 simp+decide (disch:=try exact D0) only[go_sem]
 refine Qa hP (Qjt ha hla) rfl rfl rfl ?_
 simp+decide (disch:=try exact D0) only[go_sem]
 refine Qa hP (Qjt hb hlb) rfl rfl rfl ?_
 simp+decide (disch:=try exact D0) only[go_sem]
 refine Qb (fun hs=> ?_) (fun hs=> ?_)
 ·simp+decide (disch:=try exact D0) only[go_sem]
  exact Qc (by rw[Qail hs]) rfl
 simp+decide (disch:=try exact D0) only[go_sem]
 refine Qb (fun hs2=> ?_) (fun hs2=> ?_)
 ·simp+decide (disch:=try exact D0) only[go_sem]
  exact Qc (by rw[Qaim hs2]) rfl
 have he:sgn (zv n a)=sgn (zv m b):=by omega
 simp+decide (disch:=try exact D0) only[go_sem]
 refine Qb (fun hs3=> ?_) (fun hs3=> ?_)
 ·simp+decide (disch:=try exact D0) only[go_sem]
  refine Qa hP (Qr6 hb ha hlb hla) rfl rfl rfl ?_
  simp+decide (disch:=try exact D0) only[go_sem]
  exact Qc (by rw[Qain (Qnq.1 hs3) (Qnq.1 (he▸hs3))]) rfl
 ·simp+decide (disch:=try exact D0) only[go_sem]
  refine Qa hP (Qr6 ha hb hla hlb) rfl rfl rfl ?_
  simp+decide (disch:=try exact D0) only[go_sem]
  exact Qc (by rw[Qaio (fun h=>hs3 (Qnq.2 h)) (fun h=>hs3 (he▸Qnq.2 h))]) rfl
theorem Qum{n m:Bool}{a b:List Nat}(ha:Qu a)(hb:Qu b)(hla:a.length<2^40)(hlb:b.length<2^40):Qd Tryz.prog 213 [PV.zi n a,PV.zi m b] (· =PV.zz (zv n a+zv m b)):=by
 refine Qf Qq Tryz.func213 rfl Qajk (by simp[c213]) fun C hP=> ?_;simp only[c213,Zo,Zg,Zm,Zc,Zf,Zl,Zh,Zs,Zi,Zb,Zk,Zn,Zu,Zq,Zr,Zz]
 simp+decide (disch:=try exact D0) only[go_sem]
 refine Qj7 (fun hnm=> ?_) (fun hnm=> ?_)
 ·have hnm:n=m:=by simpa using hnm
  subst hnm
  simp+decide (disch:=try exact D0) only[go_sem]
  refine Qa hP (Qaec ha hb hla hlb) rfl rfl rfl ?_
  simp+decide (disch:=try exact D0) only[go_sem]
  refine Qa hP (Qgd n (val a+val b)) rfl rfl rfl ?_
  simp+decide (disch:=try exact D0) only[go_sem]
  refine Qba ?_
  simp+decide (disch:=try exact D0) only[go_sem]
  exact Qc (congrArg PV.zz (by unfold zv;split<;>simp<;>omega)) rfl
 have hnm:n= !m:=by cases n<;>cases m<;>simp_all
 subst hnm
 simp+decide (disch:=try exact D0) only[go_sem]
 refine Qa hP (Qov ha hb hla hlb) rfl rfl rfl ?_
 simp+decide (disch:=try exact D0) only[go_sem]
 refine Qb (fun hc=> ?_) (fun hc=> ?_)
 ·rw[Qoj]at hc
  simp+decide (disch:=try exact D0) only[go_sem]
  refine Qa hP (Q0d hb ha hlb hla (by omega)) rfl rfl rfl ?_
  simp+decide (disch:=try exact D0) only[go_sem]
  refine Qa hP (Qgd m (val b-val a)) rfl rfl rfl ?_
  simp+decide (disch:=try exact D0) only[go_sem]
  refine Qba ?_
  simp+decide (disch:=try exact D0) only[go_sem]
  exact Qc (congrArg PV.zz (by unfold zv;cases m<;>simp<;>omega)) rfl
 ·rw[Qoj]at hc
  simp+decide (disch:=try exact D0) only[go_sem]
  refine Qa hP (Q0d ha hb hla hlb (by omega)) rfl rfl rfl ?_
  simp+decide (disch:=try exact D0) only[go_sem]
  refine Qa hP (Qgd (!m) (val a-val b)) rfl rfl rfl ?_
  simp+decide (disch:=try exact D0) only[go_sem]
  refine Qba ?_
  simp+decide (disch:=try exact D0) only[go_sem]
  exact Qc (congrArg PV.zz (by unfold zv;cases m<;>simp<;>omega)) rfl
theorem Qep{n m:Bool}{a b:List Nat}(ha:Qu a)(hb:Qu b)(hla:a.length<2^40)(hlb:b.length<2^40):Qd Tryz.prog 173 [PV.zi n a,PV.zi m b] (· =PV.zz (zv n a*zv m b)):=by
 refine Qf Qq Tryz.func173 rfl Qajl (by simp[c173]) fun C hP=> ?_;simp only[c173,Zo,Zg,Zm,Zc,Zf,Zl,Zh,Zs,Zi,Zb,Zk,Zn,Zu,Zq,Zr,Zz]
 simp+decide (disch:=try exact D0) only[go_sem]
 refine Qa hP (Qow ha hb hla hlb) rfl rfl rfl ?_
 simp+decide (disch:=try exact D0) only[go_sem]
 refine Qa hP (Qgd (!(n==m)) (val a*val b)) rfl rfl rfl ?_
 simp+decide (disch:=try exact D0) only[go_sem]
 refine Qba ?_
 simp+decide (disch:=try exact D0) only[go_sem]
 exact Qc (congrArg PV.zz (by unfold zv;cases n<;>cases m<;>simp[Int.neg_mul,Int.mul_neg])) rfl
theorem Qoy{a:List Nat}(hl:a.length<2^43):Qd Tryz.prog 175 [PV.nat a] (· = .bool (decide (a=[1]))):=by
 refine Qf Qq Tryz.func175 rfl Qajm (by simp[c175]) fun C hP=> ?_;simp only[c175,Zo,Zg,Zm,Zc,Zf,Zl,Zh,Zs,Zi,Zb,Zk,Zn,Zu,Zq,Zr,Zz]
 simp+decide (disch:=try exact D0) only[go_sem]
 refine Qb (fun hz=> ?_) (fun hz=> ?_)
 ·obtain⟨x,xs,rfl⟩:∃x xs,a=x::xs:=by
   match a,hz with
   |x::xs,_=>exact⟨x,xs,rfl⟩
  simp+decide (disch:=first|omega|rfl|(simp+decide only[go_sem,List.map_cons,List.getElem_cons_zero]<;>rfl)|fail) only[go_sem,List.map_cons,List.getElem_cons_zero]
  refine Qc (congrArg PV.bool ?_) rfl
  rw[<-Bool.decide_and]
  exact decide_eq_decide.2 ⟨fun⟨h1,h2⟩=>by
   have:xs=[]:=List.length_eq_zero_iff.1 (by omega)
   subst this;congr 1;omega,fun h=>by
   injection h with h1 h2;subst h1 h2;simp⟩
 ·have:a=[]:=List.length_eq_zero_iff.1 (by omega)
  subst this
  simp+decide (disch:=try exact D0) only[go_sem]
  exact Qc rfl rfl
theorem Qr7(x:Nat):(dig x=[1])↔x=1:=⟨fun h=>by have:=Qag x;rw[h]at this;simpa[val]using this.symm,fun h=>by rw[h,Qha]⟩
theorem Qwg{x:Nat}(hl:(dig x).length<2^43):Qd Tryz.prog 175 [PV.num x] (· = .bool (decide (x=1))):=by
 have:=Qoy hl
 rwa[decide_eq_decide.2 (Qr7 x)]at this
theorem Qmo:Qd Tryz.prog 128 [] (· =PV.nat [1]):=by
 refine Qf Qq Tryz.func128 rfl Qajn (by simp[c128]) fun C hP=> ?_;simp only[c128,Zo,Zg,Zm,Zc,Zf,Zl,Zh,Zs,Zi,Zb,Zk,Zn,Zu,Zq,Zr,Zz]
 simp+decide (disch:=try exact D0) only[go_sem]
 exact Qc rfl rfl
theorem Qun{x y:Nat}(hx:(dig x).length<2^38)(hy:(dig y).length<2^38)(h0:y≠0):Qd Tryz.prog 192 [PV.num x,PV.num y] (· = .tup [PV.num (x/y),PV.num (x%y),.int .i64 0]):=by
 have:=Qm5 (Qv x) (Qv y) hx hy
 rwa[Qag,Qag,if_neg h0]at this
theorem Qaj1{x y:Nat}(hx:(dig x).length<2^38)(hy:(dig y).length<2^38):Qd Tryz.prog 186 [PV.num x,PV.num y] (· =PV.num (Nat.gcd x y)):=by
 have:=Q0f (Qv x) (Qv y) hx hy
 rwa[Qag,Qag]at this
theorem Ql1{n:Bool}{a d:List Nat}(ha:Qu a)(hd:Qu d)(hla:a.length<2^38)(hld:d.length<2^38):Qd Tryz.prog 129 [PV.zi n a,PV.nat d] (· =PV.rat (rv n a d)):=by
 have hna:=Qaz ha
 have hnd:=Qaz hd
 rw[<-Qbu n a]at hna
 unfold rv
 unfold nl at hna hnd
 refine Qf Qq Tryz.func129 rfl Qajo (by simp[c129]) fun C hP=> ?_;simp only[c129,Zo,Zg,Zm,Zc,Zf,Zl,Zh,Zs,Zi,Zb,Zk,Zn,Zu,Zq,Zr,Zz]
 simp+decide (disch:=try exact D0) only[go_sem]
 refine Qa hP (Qkh hd (by omega)) rfl rfl rfl ?_
 simp+decide (disch:=try exact D0) only[go_sem]
 refine Qa hP (Q2x ha (by omega)) rfl rfl rfl ?_
 simp+decide (disch:=try exact D0) only[go_sem]
 generalize zv n a=z at *
 generalize val d=D at *
 have hlen:∀x:Nat,((dig x).length:Int)=0↔x=0:=fun x=>by
  rw[<-Qb3,<-List.length_eq_zero_iff];omega
 have fin0:∀ {fr:Fr} {hp:HP},(D=0∨z=0)->Qvz (· =PV.rat (mkRat z D)) (.agg [.bool false,.nilS,PV.nat [1]]):=fun h=>by
  rw[Qr1 h];exact Qew Q36 rfl
 refine Qal (fun hz=> ?_) (fun hz=> ?_)
 ·simp+decide (disch:=try exact D0) only[go_sem]
  refine Qa hP Qmo rfl rfl rfl ?_
  simp+decide (disch:=try exact D0) only[go_sem]
  refine Qba ?_
  simp+decide (disch:=try exact D0) only[go_sem]
  exact fin0 (fr:=fr0) (hp:=hp0) (.inl ((hlen _).1 hz))
 simp+decide (disch:=try exact D0) only[go_sem]
 refine Qb (fun hz2=> ?_) (fun hz2=> ?_)
 ·simp+decide (disch:=try exact D0) only[go_sem]
  refine Qa hP Qmo rfl rfl rfl ?_
  simp+decide (disch:=try exact D0) only[go_sem]
  refine Qba ?_
  simp+decide (disch:=try exact D0) only[go_sem]
  exact fin0 (fr:=fr0) (hp:=hp0) (.inr (Int.natAbs_eq_zero.1 ((hlen _).1 hz2)))
 have hD:D≠0:=fun h=>hz ((hlen _).2 h)
 simp+decide (disch:=try exact D0) only[go_sem]
 refine Qa hP (Qwg (by omega)) rfl rfl rfl ?_
 simp+decide (disch:=try exact D0) only[go_sem]
 refine Qb (fun h1=> ?_) (fun h1=> ?_)
 ·subst h1
  simp+decide (disch:=try exact D0) only[go_sem]
  refine Qba ?_
  simp+decide (disch:=try exact D0) only[go_sem]
  exact Qc (by rw[<-Qaru];simp only[Qha]) rfl
 simp+decide (disch:=try exact D0) only[go_sem]
 refine Qa hP (Qaj1 (by omega) (by omega)) rfl rfl rfl ?_
 have hg0:Nat.gcd z.natAbs D≠0:=fun h=>hD (Nat.eq_zero_of_gcd_eq_zero_right h)
 have hgl:(dig (Nat.gcd z.natAbs D)).length<2^38:=by
  have:=Qb8 (Nat.gcd_le_right z.natAbs (Nat.pos_of_ne_zero hD));unfold nl at this;omega
 have hfin:=Q85 (z:=z) hD
 generalize Nat.gcd z.natAbs D=g at *
 simp+decide (disch:=try exact D0) only[go_sem]
 refine Qa hP (Qwg (by omega)) rfl rfl rfl ?_
 simp+decide (disch:=try exact D0) only[go_sem]
 refine Qj7 (fun h2=> ?_) (fun h2=> ?_)
 ·simp+decide (disch:=try exact D0) only[go_sem]
  refine Qa hP (Qun (by omega) hgl hg0) rfl rfl rfl ?_
  simp+decide (disch:=try exact D0) only[go_sem]
  refine Qa hP (Qun (by omega) hgl hg0) rfl rfl rfl ?_
  simp+decide (disch:=try exact D0) only[go_sem]
  refine Qba ?_
  simp+decide (disch:=try exact D0) only[go_sem]
  exact Qc hfin rfl
 ·have:g=1:=by simpa using h2
  subst this
  rw[Nat.div_one,Nat.div_one]at hfin
  simp+decide (disch:=try exact D0) only[go_sem]
  refine Qba ?_
  simp+decide (disch:=try exact D0) only[go_sem]
  exact Qc hfin rfl
theorem Qfc(a:List Nat):Qd Tryz.prog 177 [PV.nat a] (· =PV.zi false a):=by
 refine Qf Qq Tryz.func177 rfl Qajq (by simp[c177]) fun C hP=> ?_;simp only[c177,Zo,Zg,Zm,Zc,Zf,Zl,Zh,Zs,Zi,Zb,Zk,Zn,Zu,Zq,Zr,Zz]
 simp+decide (disch:=try exact D0) only[go_sem]
 refine Qba ?_
 simp+decide (disch:=try exact D0) only[go_sem]
 exact Qc rfl rfl
def Qaow(k:Nat)(q:Rat)(r:PV):Prop:=∃n a d,r= .tup [PV.zi n a,PV.nat d]/\Qu a/\Qu d/\a.length<=k/\d.length<=k/\val d≠0/\rv n a d=q
theorem Qd4{n:Bool}{a d:List Nat}{k:Nat}(ha:Qu a)(hd:Qu d)(hk:1<=k)(hla:a.length<=k)(hld:d.length<=k)(hk2:k<2^38):Qd Tryz.prog 108 [PV.rr n a d] (Qaow k (rv n a d)):=by
 refine Qf Qq Tryz.func108 rfl Qajp (by simp[c108]) fun C hP=> ?_;simp only[c108,Zo,Zg,Zm,Zc,Zf,Zl,Zh,Zs,Zi,Zb,Zk,Zn,Zu,Zq,Zr,Zz]
 simp+decide (disch:=try exact D0) only[go_sem]
 refine Qc8 hP (Qxg hd (by omega)) rfl rfl rfl ?_
 rintro _ ⟨b,rfl,hb⟩
 simp+decide (disch:=try exact D0) only[go_sem]
 refine Qb (fun hz=> ?_) (fun hz=> ?_)
 ·have h0:val d=0:=hb.1 (by omega)
  simp+decide (disch:=try exact D0) only[go_sem]
  refine Qa hP Qmo rfl rfl rfl ?_
  simp+decide (disch:=try exact D0) only[go_sem]
  refine Qhs ?_
  simp+decide (disch:=try exact D0) only[go_sem]
  refine⟨⟨rfl,rfl⟩,.tup [PV.zi false [],PV.nat [1]],⟨⟨rfl,trivial,trivial⟩,Qab _,trivial⟩,false,[],[1],rfl,Qdb,by intro x hx;simp at hx;omega,by simp,by simpa using hk,by simp[val],?_⟩
  unfold rv;rw[h0,Rat.mkRat_zero];rfl
 ·have h0:val d≠0:=fun h=>hz (by rw[hb.2 h];rfl)
  simp+decide (disch:=try exact D0) only[go_sem]
  refine Qda ?_ ?_
  all_goals
   simp+decide (disch:=try exact D0) only[go_sem]
   refine Qhs ?_
   simp+decide (disch:=try exact D0) only[go_sem]
   exact⟨⟨rfl,rfl⟩,.tup [PV.zi n a,PV.nat d],⟨Qab _,Qab _,trivial⟩,n,a,d,rfl,ha,hd,hla,hld,h0,rfl⟩
theorem Qaed{z:Int}{m:Bool}{b:List Nat}(hb:Qu b)(hla:nl z.natAbs<2^40)(hlb:b.length<2^40):Qd Tryz.prog 213 [PV.zz z,PV.zi m b] (· =PV.zz (z+zv m b)):=by
 have:=Qum (n:=decide (z<0)) (a:=dig z.natAbs) (m:=m) (Qv _) hb hla hlb
 rwa[Qf2]at this
theorem Q0g{n m:Bool}{a b:List Nat}(ha:Qu a)(hb:Qu b)(hla:a.length<2^39)(hlb:b.length<2^39):Qd Tryz.prog 176 [.sl 2 [PV.zi n a,PV.zi m b]] (· =PV.zz (zv n a+zv m b)):=by
  have hna:=Qaz ha
  rw[<-Qbu n a]at hna
  refine Qf Qq Tryz.func176 rfl Qaju (by simp[c176]) fun C hP=> ?_;simp only[c176,Zo,Zg,Zm,Zc,Zf,Zl,Zh,Zs,Zi,Zb,Zk,Zn,Zu,Zq,Zr,Zz]
  simp+decide (disch:=try exact D0) only[go_sem]
  refine Qz (by repeat (first|exact Qn|exact Qi|exact Qj|exact Qk|exact Ql|apply Qh|apply Qm|apply Qt|apply Qx|apply Qy|apply Qg)) [(5,5),(8,15)] [5] (fun k J hp=>∃i,k=2-i/\i<=2/\J 8= .int .i64 (i:Nat)/\hp 2=some ⟨2,49,[.agg [.bool false,.nilS]],false⟩/\hp 3=some ⟨2,49,[if i=0 then .agg [.bool false,.nilS]else if i=1 then PV.zz (zv n a)else PV.zz (zv n a+zv m b)],false⟩) 2 ?_ ?_
  · refine⟨0,rfl,by omega,?_⟩
    simp+decide (disch:=try exact D0) only[go_sem]
    simp
  rintro _ J h ⟨i,rfl,hi,h8,hh2,hh3⟩
  simp+decide (disch:=try exact D1 h8) only[go_sem,h8]
  refine Qb (fun hg=> ?_) (fun hg=> ?_)
  · have hi2 : i = 0 ∨ i = 1 := by have:i<2:=by omega
                                   omega
    rcases hi2 with rfl|rfl
    · have h8':J 8= .int .i64 0:=h8
      simp+decide (disch:=try exact D3 h8' hh2 hh3) only[go_sem,h8',hh2,hh3]
      refine Qa hP ((Qum (n:=false) (a:=[]) (m:=n) (b:=a) Qdb ha (by simp) (by omega)).le (args':=[.agg [.bool false,.nilS],PV.zi n a]) ⟨⟨rfl,trivial,trivial⟩,Qab _,trivial⟩) rfl rfl rfl ?_
      simp+decide (disch:=try exact D3 h8' hh2 hh3) only[go_sem,h8',hh2,hh3]
      refine Qo 1 (by omega) ⟨1,rfl,by omega,?_⟩
      simp+decide (disch:=try exact D2 hh2 hh3) only[go_sem,hh2,hh3]
      simp[zv,val]
    · rw[if_neg (by omega),if_pos rfl]at hh3
      have h8':J 8= .int .i64 1:=h8
      simp+decide (disch:=try exact D3 h8' hh2 hh3) only[go_sem,h8',hh2,hh3]
      refine Qa hP (Qaed (z:=zv n a) hb (by omega) (by omega)) rfl rfl rfl ?_
      simp+decide (disch:=try exact D3 h8' hh2 hh3) only[go_sem,h8',hh2,hh3]
      refine Qo 0 (by omega) ⟨2,rfl,by omega,?_⟩
      simp+decide (disch:=try exact D2 hh2 hh3) only[go_sem,hh2,hh3]
      simp
  · obtain rfl:i=2:=by simp at hg;omega
    rw[if_neg (by omega),if_neg (by omega)]at hh3
    simp+decide (disch:=try exact D3 h8 hh2 hh3) only[go_sem,h8,hh2,hh3]
    refine Qba ?_
    simp+decide (disch:=try exact D2 hh2 hh3) only[go_sem,hh2,hh3]
    exact Qc rfl rfl
theorem Qk0{z:Int}{d:List Nat}(hd:Qu d)(hz:nl z.natAbs<2^38)(hld:d.length<2^38):Qd Tryz.prog 129 [PV.zz z,PV.nat d] (· =PV.rat (mkRat z (val d))):=by
 have:=Ql1 (n:=decide (z<0)) (Qv z.natAbs) hd hz hld
 rwa[rv,Qf2]at this
theorem Q9e{x y:Int}(hx:nl x.natAbs<2^39)(hy:nl y.natAbs<2^39):Qd Tryz.prog 176 [.sl 2 [PV.zz x,PV.zz y]] (· =PV.zz (x+y)):=by
 have:=Q0g (n:=decide (x<0)) (m:=decide (y<0)) (Qv x.natAbs) (Qv y.natAbs) hx hy
 rwa[Qf2,Qf2]at this
theorem Qaee{x y:Int}(hx:nl x.natAbs<2^40)(hy:nl y.natAbs<2^40):Qd Tryz.prog 224 [PV.zz x,PV.zz y] (· = .int .i64 (Qcm x y)):=by
 have:=Q6d (n:=decide (x<0)) (m:=decide (y<0)) (Qv x.natAbs) (Qv y.natAbs) hx hy
 rwa[Qf2,Qf2]at this
structure Raw(k:Nat)(n:Bool)(a d:List Nat):Prop where
 la:Qu a
 ld:Qu d
 sa:a.length<=k
 sd:d.length<=k
 k1:1<=k
theorem Qbx{q:Rat}{k:Nat}(h:rs q<=k):Raw k (decide (q.num<0)) (dig q.num.natAbs) (dig q.den):=by
 have:=Qz1 q
 unfold rs nl at *
 exact⟨Qv _,Qv _,by omega,by omega,by omega⟩
theorem Raw.rs{n:Bool}{a d:List Nat}{k:Nat}(h:Raw k n a d):FW.rs (rv n a d)<=k:=Qaon (k:=k) (n:=k) h.la h.ld h.sa h.sd h.k1
theorem Qqp{n m:Bool}{a d b c:List Nat}{k:Nat}(hp:Raw k n a d)(hq:Raw k m b c)(hk:k<2^36):Qd Tryz.prog 107 [PV.rr n a d,PV.rr m b c] (· =PV.rat (rv n a d+rv m b c)):=by
 refine Qf Qq Tryz.func107 rfl Qajv (by simp[c107]) fun C hP=> ?_;simp only[c107,Zo,Zg,Zm,Zc,Zf,Zl,Zh,Zs,Zi,Zb,Zk,Zn,Zu,Zq,Zr,Zz]
 simp+decide (disch:=try exact D0) only[go_sem]
 refine Qc8 hP (Qd4 hp.la hp.ld hp.k1 hp.sa hp.sd (by omega)) rfl rfl rfl ?_
 rintro _ ⟨n',a',d',rfl,g1,g2,g3,g4,g5,g6⟩
 simp+decide (disch:=try exact D0) only[go_sem]
 refine Qc8 hP (Qd4 hq.la hq.ld hq.k1 hq.sa hq.sd (by omega)) rfl rfl rfl ?_
 rintro _ ⟨m',b',c',rfl,e1,e2,e3,e4,e5,e6⟩
 simp+decide (disch:=try exact D0) only[go_sem]
 refine Qa hP (Qoy (by omega)) rfl rfl rfl ?_
 have key:=Rat.mkRat_add_mkRat (zv n' a') (zv m' b') g5 e5
 have hza:nl (zv n' a').natAbs<=k:=by rw[Qbu];exact Nat.le_trans (Qaz g1) g3
 have hzb:nl (zv m' b').natAbs<=k:=by rw[Qbu];exact Nat.le_trans (Qaz e1) e3
 have hvd:nl (val d')<=k:=Nat.le_trans (Qaz g2) g4
 have hvc:nl (val c')<=k:=Nat.le_trans (Qaz e2) e4
 rw[<-g6,<-e6]
 unfold rv
 rw[key]
 simp+decide (disch:=try exact D0) only[go_sem]
 refine Qaw (fun h1=> ?_) (fun h1=> ?_)
 ·simp+decide (disch:=try exact D0) only[go_sem]
  refine Qa hP (Qoy (by omega)) rfl rfl rfl ?_
  simp+decide (disch:=try exact D0) only[go_sem]
  refine Qb (fun h2=> ?_) (fun h2=> ?_)
  ·subst h1 h2
   simp+decide (disch:=try exact D0) only[go_sem]
   refine Qdr hP (Q0g (n:=n') (m:=m') g1 e1 (by omega) (by omega)) U0 rfl ?_
   simp+decide (disch:=try exact E0) only[go_sem,Qac,List.contains_cons,List.contains_nil,List.flatMap_cons,List.flatMap_nil,List.append_nil]
   have hs:=Qga (zv n' a') (zv m' b')
   refine Qa hP (Qk0 g2 (by omega) (by omega)) rfl rfl rfl ?_
   simp+decide (disch:=try exact E0) only[go_sem,Qac,List.contains_cons,List.contains_nil,List.flatMap_cons,List.flatMap_nil,List.append_nil]
   refine Qba ?_
   simp+decide (disch:=try exact E0) only[go_sem,Qac,List.contains_cons,List.contains_nil,List.flatMap_cons,List.flatMap_nil,List.append_nil]
   exact Qc (congrArg PV.rat (by simp[val])) rfl
  ·simp+decide (disch:=try exact D0) only[go_sem]
   refine Qa hP (Qfc _) rfl rfl rfl ?_
   simp+decide (disch:=try exact D0) only[go_sem]
   refine Qa hP (Qep (n:=n') (m:=false) g1 e2 (by omega) (by omega)) rfl rfl rfl ?_
   simp+decide (disch:=try exact D0) only[go_sem]
   refine Qa hP (Qfc _) rfl rfl rfl ?_
   simp+decide (disch:=try exact D0) only[go_sem]
   refine Qa hP (Qep (n:=m') (m:=false) e1 g2 (by omega) (by omega)) rfl rfl rfl ?_
   rw[Qgw,Qgw]
   have h3:=Qa8 (zv n' a') (val c')
   have h4:=Qa8 (zv m' b') (val d')
   have h5:=Qga (zv n' a'*(val c':Int)) (zv m' b'*(val d':Int))
   have h6:=Qgs (val d') (val c')
   rw[Int.natAbs_natCast]at h3 h4
   simp+decide (disch:=try exact D0) only[go_sem]
   refine Qdr hP (Q9e (x:=zv n' a'*(val c':Int)) (y:=zv m' b'*(val d':Int)) (by omega) (by omega)) U0 rfl ?_
   simp+decide (disch:=try exact E0) only[go_sem,Qac,List.contains_cons,List.contains_nil,List.flatMap_cons,List.flatMap_nil,List.append_nil]
   refine Qa hP (Qow g2 e2 (by omega) (by omega)) rfl rfl rfl ?_
   simp+decide (disch:=try exact E0) only[go_sem,Qac,List.contains_cons,List.contains_nil,List.flatMap_cons,List.flatMap_nil,List.append_nil]
   refine Qa hP (Qk0 (z:=zv n' a'*(val c':Int)+zv m' b'*(val d':Int)) (Qv _) (by omega) (by show nl _<_;omega)) rfl rfl rfl ?_
   simp+decide (disch:=try exact E0) only[go_sem,Qac,List.contains_cons,List.contains_nil,List.flatMap_cons,List.flatMap_nil,List.append_nil]
   refine Qba ?_
   simp+decide (disch:=try exact E0) only[go_sem,Qac,List.contains_cons,List.contains_nil,List.flatMap_cons,List.flatMap_nil,List.append_nil]
   exact Qc (by rw[Qag]) rfl
 · simp+decide (disch:=try exact D0) only[go_sem]
   refine Qa hP (Qfc _) rfl rfl rfl ?_
   simp+decide (disch:=try exact D0) only[go_sem]
   refine Qa hP (Qep (n:=n') (m:=false) g1 e2 (by omega) (by omega)) rfl rfl rfl ?_
   simp+decide (disch:=try exact D0) only[go_sem]
   refine Qa hP (Qfc _) rfl rfl rfl ?_
   simp+decide (disch:=try exact D0) only[go_sem]
   refine Qa hP (Qep (n:=m') (m:=false) e1 g2 (by omega) (by omega)) rfl rfl rfl ?_
   rw[Qgw,Qgw]
   have h3:=Qa8 (zv n' a') (val c')
   have h4:=Qa8 (zv m' b') (val d')
   have h5:=Qga (zv n' a'*(val c':Int)) (zv m' b'*(val d':Int))
   have h6:=Qgs (val d') (val c')
   rw[Int.natAbs_natCast]at h3 h4
   simp+decide (disch:=try exact D0) only[go_sem]
   refine Qdr hP (Q9e (x:=zv n' a'*(val c':Int)) (y:=zv m' b'*(val d':Int)) (by omega) (by omega)) U0 rfl ?_
   simp+decide (disch:=try exact E0) only[go_sem,Qac,List.contains_cons,List.contains_nil,List.flatMap_cons,List.flatMap_nil,List.append_nil]
   refine Qa hP (Qow g2 e2 (by omega) (by omega)) rfl rfl rfl ?_
   simp+decide (disch:=try exact E0) only[go_sem,Qac,List.contains_cons,List.contains_nil,List.flatMap_cons,List.flatMap_nil,List.append_nil]
   refine Qa hP (Qk0 (z:=zv n' a'*(val c':Int)+zv m' b'*(val d':Int)) (Qv _) (by omega) (by show nl _<_;omega)) rfl rfl rfl ?_
   simp+decide (disch:=try exact E0) only[go_sem,Qac,List.contains_cons,List.contains_nil,List.flatMap_cons,List.flatMap_nil,List.append_nil]
   refine Qba ?_
   simp+decide (disch:=try exact E0) only[go_sem,Qac,List.contains_cons,List.contains_nil,List.flatMap_cons,List.flatMap_nil,List.append_nil]
   exact Qc (by rw[Qag]) rfl
end Go.Proofs.YtkoclfmjlolkhaaGreat
namespace Go.FW
open Go
variable {C : Ctx} {fr : Fr} {hp : HP} {R : Qp}
end Go.FW
namespace Go.FW
open Go
variable {C : Ctx} {ρ : Nat -> Option Nat} {fr fr' : Fr} {hp : HP} {w : World} {K R : Qp}
theorem Qb6.known{p:PV}{v:Value}(h:Qb6 C ρ hp w p v):∀γ∈p.sref1,hp γ≠none:=by
 intro γ hγ
 cases p with
 |mso β o n=>simp[PV.sref1]at hγ;subst hγ;obtain⟨_,hb,h1,_⟩:=h;simp[h1]
 |nso β o n=>simp[PV.sref1]at hγ;subst hγ;obtain⟨_,hb,b,cap,h1,_⟩:=h;simp[h1]
 |np β o n=>cases h
 |_=>cases hγ
theorem Qbv.known{p:PV}{v:Value}(h:Qbv C ρ hp w p v):(∀γ∈p.ref1,hp γ≠none)/\∀γ∈p.nref1,hp γ≠none:=by
 cases p with
 |mp β i o=>obtain⟨b,hb,h1,h2,_⟩:=h;simp[PV.ref1,PV.nref1,h2]
 |mso β o n=>obtain⟨hb,h1,_⟩:=h;simp[PV.ref1,PV.nref1,h1]
 |rb β o n=>obtain⟨b,u,_,_,_,_,hb,h1,_⟩:=h;simp[PV.ref1,PV.nref1,h1]
 |np γ i o=>obtain⟨_,b,hb,h1,h2,_⟩:=h;simp[PV.ref1,PV.nref1,h2]
 |nso γ o n=>obtain⟨_,hb,b,cap,h1,_⟩:=h;simp[PV.ref1,PV.nref1,h1]
 |_=>exact⟨(fun γ hγ=>by cases hγ),(fun γ hγ=>by cases hγ)⟩
theorem Qaa.known{p:PV}{v:Value}(h:Qaa C ρ hp w p v):(∀γ∈p.refs,hp γ≠none)/\∀γ∈p.sref,hp γ≠none:=by
 cases p with
 |mp β i o=>obtain⟨b,hb,h1,h2,_⟩:=h;simp[PV.refs,PV.sref,h2]
 |mso β o n=>obtain⟨hb,h1,_⟩:=h;simp[PV.refs,PV.sref,h1]
 |rb β o n=>obtain⟨b,u,_,_,_,_,hb,h1,_⟩:=h;simp[PV.refs,PV.sref,h1]
 |np γ i o=>obtain⟨_,b,hb,h1,h2,_⟩:=h;simp[PV.refs,PV.sref,h2]
 |nso γ o n=>obtain⟨_,hb,b,cap,h1,_⟩:=h;simp[PV.refs,PV.sref,h1]
 |rag cs=>
  obtain⟨vs,_,_,h2⟩:=h
  refine⟨fun γ hγ=>(by cases hγ),fun γ hγ=> ?_⟩
  obtain⟨x,hx,hγ⟩:=List.mem_flatMap.1 hγ
  obtain⟨i,hi⟩:=List.getElem?_of_mem hx
  exact(h2 i x hi).known γ hγ
 | nst β e ty xs=>
  obtain⟨_,_,b,hb,cur,cap,_,g2,_,_,_,_,_,_,_,_,h11⟩:=h
  refine⟨fun γ hγ=>(by cases hγ),fun γ hγ=> ?_⟩
  rcases List.mem_cons.1 hγ with rfl|hγ
  ·simp[g2]
  ·obtain⟨x,hx,hγ⟩:=List.mem_flatMap.1 hγ
   obtain⟨y,hy,hγ⟩:=List.mem_flatMap.1 hγ
   obtain⟨i,hi⟩:=List.getElem?_of_mem hx
   obtain⟨j,hj⟩:=List.getElem?_of_mem hy
   exact(h11 i x hi j y hj).known γ hγ
 | fn f first cap=>
  obtain⟨fv,cv,_,_,_,h3,h4⟩:=h
  have g:∀(l:List PV)(u:Array Value),(∀(i:Nat)(x:PV),l[i]? =some x->Qbv C ρ hp w x (u.getD i undef))->(∀γ∈l.flatMap PV.ref1,hp γ≠none)/\∀γ∈l.flatMap PV.nref1,hp γ≠none:=by
   intro l u hl
   refine⟨fun γ hγ=> ?_,fun γ hγ=> ?_⟩<;>
   ·obtain⟨x,hx,hγ⟩:=List.mem_flatMap.1 hγ
    obtain⟨i,hi⟩:=List.getElem?_of_mem hx
    first|exact(hl i x hi).known.1 γ hγ|exact(hl i x hi).known.2 γ hγ
  refine⟨fun γ hγ=> ?_,fun γ hγ=> ?_⟩
  ·rcases List.mem_append.1 hγ with hγ|hγ
   ·exact(g first fv h3).1 γ hγ
   ·exact(g cap cv h4).1 γ hγ
  ·rcases List.mem_append.1 hγ with hγ|hγ
   ·exact(g first fv h3).2 γ hγ
   ·exact(g cap cv h4).2 γ hγ
 |_=>exact⟨(fun γ hγ=>by cases hγ),(fun γ hγ=>by cases hγ)⟩
def isN(β:Nat):Bool:=decide (2000000<=β)
def isS(β:Nat):Bool:=isN β||decide (β<1000000)
theorem Qary{β:Nat}(h:isS β=false):isN β=false:=by simp[isS]at h;exact h.1
def Qe6:PV->PV
 | .nst _ _ _ _| .rag _=> .undef
 |p=>if p.refs.any isN||p.sref.any isS then .undef else p
def Qd2(F:Fr):Fr:=fun s=>Qe6 (F s)
def Cln(p:PV):Prop:=(∀β∈p.refs,isN β=false)/\(∀β∈p.sref,isS β=false)/\(∀γ e ty xs,p≠ .nst γ e ty xs)/\∀cs,p≠ .rag cs
theorem Qaef(p:PV):Cln (Qe6 p):=by
 have h0:Cln .undef:=⟨(fun β h=>by cases h),(fun β h=>by cases h),(fun _ _ _ _ h=>by cases h),(fun _ h=>by cases h)⟩
 unfold Qe6
 split
 ·exact h0
 ·exact h0
 ·rename_i hn hn2
  split
  ·exact h0
  ·rename_i h
   simp only[Bool.or_eq_true,not_or,Bool.not_eq_true,List.any_eq_false]at h
   exact⟨fun β hβ=>by simpa using h.1 β hβ,fun β hβ=>by simpa using h.2 β hβ,fun γ e ty xs=>hn γ e ty xs,hn2⟩
theorem Cln.kill{p:PV}(h:Cln p){B:List Nat}:Cln (if p.refs.any B.contains then .undef else p):=by
 split
 ·exact⟨(fun β h=>by cases h),(fun β h=>by cases h),(fun _ _ _ _ h=>by cases h),(fun _ h=>by cases h)⟩
 ·exact h
theorem Qxh{β:Nat}{p:PV}(h:∀γ∈p.refs,γ≠β):Qa1 β p=p:=by
 unfold Qa1
 rw[if_neg]
 intro hc
 exact h β (by simpa using hc) rfl
theorem Q9f{β:Nat}{p:PV}(h:∀γ∈p.sref1,γ≠β):Qd3 β p=p:=by
 cases p with
 |mso γ o n=>simp only[Qd3];rw[if_neg (h γ (by simp[PV.sref1]))]
 |nso γ o n=>simp only[Qd3];rw[if_neg (h γ (by simp[PV.sref1]))]
 |_=>rfl
theorem Q9g{β:Nat}{p:PV}(h:∀γ∈p.refs,γ≠β)(h2:∀γ∈p.sref,γ≠β)(h3:∀γ e ty xs,p≠ .nst γ e ty xs):Qbt β p=p:=by
 cases p with
 |nst γ e ty xs=>exact absurd rfl (h3 _ _ _ _)
 |rag cs=>
  simp only[Qbt]
  congr 1
  conv=>rhs;rw[<-List.map_id cs]
  exact List.map_congr_left fun x hx=>Q9f fun γ hγ=>h2 γ (List.mem_flatMap.2 ⟨x,hx,hγ⟩)
 |nso γ o n=>simp only[Qbt];rw[if_neg (h2 γ (by simp[PV.sref]))]
 |np γ i o=>simp only[Qbt];rw[if_neg (h2 γ (by simp[PV.sref]))]
 |fn f first cap=>
  simp only[Qbt]
  rw[if_neg,Qxh h]
  intro hc
  exact h2 β (by simpa[PV.sref]using hc) rfl
 |_=>exact Qxh h
theorem Q9h{β γ:Nat}(h:2000000<=β)(h2:isN γ=false):γ≠β:=by
 simp[isN]at h2;omega
abbrev bse(B:List Nat)(F:Fr):Fr:=Qao B (Qd2 F)
theorem Qle(B:List Nat)(F:Fr)(s:Nat):Cln (bse B F s):=(Qaef (F s)).kill
theorem Qxi{β:Nat}{B:List Nat}{F:Fr}(h:2000000<=β):Qel β (bse B F)=bse B F:=by
 funext s
 have hc:=Qle B F s
 exact Q9g (fun γ hγ=>Q9h h (hc.1 γ hγ)) (fun γ hγ=>Q9h h (Qary (hc.2.1 γ hγ))) hc.2.2.1
theorem Qxj{γ:Nat}{B:List Nat}{F:Fr}:Qdw γ (bse B F)=bse B F:=by
 funext s
 have hc:=Qle B F s
 show Qdh γ (bse B F s)=_
 generalize bse B F s=p at *
 cases p with
 |nst γ' e ty xs=>exact absurd rfl (hc.2.2.1 _ _ _ _)
 |_=>rfl
theorem Q9i{W:List (Nat×Nat)}{β:Nat}{J F:Fr}:Qel β (ovr W J F)=ovr W (Qel β J) (Qel β F):=by
 funext s;unfold Qel ovr;split<;>rfl
theorem Q9j{W:List (Nat×Nat)}{β:Nat}{J F:Fr}:Qdw β (ovr W J F)=ovr W (Qdw β J) (Qdw β F):=by
 funext s;unfold Qdw ovr;split<;>rfl
theorem Q9k{β d:Nat}{F:Fr}{v:PV}:Qel β (upd F d v)=upd (Qel β F) d (Qbt β v):=by
 funext s;unfold Qel upd;split<;>rfl
theorem Q9l{β d:Nat}{F:Fr}{v:PV}:Qdw β (upd F d v)=upd (Qdw β F) d (Qdh β v):=by
 funext s;unfold Qdw upd;split<;>rfl
theorem Qaeg{β:Nat}{F:Fr}{s:Nat}:Qel β F s=Qbt β (F s):=rfl
theorem Qaeh{β:Nat}{F:Fr}{s:Nat}:Qdw β F s=Qdh β (F s):=rfl
theorem Qwh(W:List (Nat×Nat))(B:List Nat):Fle fr (ovr W fr (bse B fr)):=fun s=>by
 unfold ovr bse Qao
 split
 ·exact .inl rfl
 ·split
  ·exact .inr rfl
  ·unfold Qd2 Qe6
   split
   ·exact .inr rfl
   ·exact .inr rfl
   ·split
    ·exact .inr rfl
    ·exact .inl rfl
theorem Qbn{sk:List It}{x:SC}(hok:Qd9 R sk)(W:List (Nat×Nat))(B:List Nat)(I:Nat->Fr->HP->Prop)(m0:Nat)(h0:I m0 fr hp)
  (h:∀m J hp,I m J hp->vc C R (.c x:: .el (Qoq W (bse B fr) I m)::sk) (ovr W J (bse B fr)) hp):vc C R (.c (.loop x)::sk) fr hp:=by
 refine Qka (fun m fr' hp'=>∃J,fr'=ovr W J (bse B fr)/\I m J hp') m0 (Qwh W B).wk ⟨fr,rfl,h0⟩ ?_
 rintro m _ hp' ⟨J,rfl,hI⟩
 refine Qhn hok.1 _ _ _ _ _ _ (Nat.le_refl _) (.c x (.el ?_ hok.2)) (Fle.refl _) (h m J hp' hI)
 rintro f f' hp2 hf ⟨J2,hp3,m2,e2,hl,h2⟩
 exact Qs2 hl (hf.wk.trans e2) ⟨J2,rfl,h2⟩
def Qak(l:List (Nat×Nat)):List PV:=l.map fun x=> .mso x.1 0 x.2
def Qarz(d:Nat)(S:List Nat)(γ n:Nat)(x:PV)(fr:Fr):Fr:=fun s=>if s=γ then x else if S.contains s then .nso γ 0 n else Qa1 d (fr s)
theorem Q0h{tmps:Array Value}(h:Qah C ρ fr hp tmps w){β b:Nat}{hb:HB}{l:List Nat}(hB:isY β=false)(hβ:hp β=some hb)(hl:β∈l)(hρ:ρ β=some b):¬Xof C ρ (Qaq hp l) b:=by
 have hblk:=(h.own β hb hβ).blk
 rw[hρ]at hblk
 rintro(hx|⟨γ,hg,h1,h2,h3⟩)
 ·exact Ctx.cls_notX hblk.1 (Qne hB) hx
 ·obtain⟨hg0,g1,_,_,_,_,g6⟩:=Qhm h1
  have:=h.inj γ β b (by simp[g1]) (by simp[hβ]) h3 hρ
  subst this
  exact g6 h2 hl
theorem Qez.snap{tmps:Array Value}(h:Qah C ρ fr hp tmps w){β o n:Nat}{v:Value}{l:List Nat}{hb:HB}(hr:Qez ρ hp w β o n v)(hB:isY β=false)(hl:β∈l)(hβ:hp β=some hb):Qae w (Xof C ρ (Qaq hp l)) (.sl hb.e ((hb.xs.drop o).take n)) v:=by
 obtain⟨hb',g1,g2,g3⟩:=hr
 rw[hβ]at g1;cases g1
 rcases g3 with⟨g3,rfl,rfl,rfl⟩|⟨b,cap,g3,rfl,g5,g6⟩
 ·simp only[List.take_zero];exact .slE _ _ _ (Nat.zero_le _)
 ·have hown:=h.own β hb hβ
  have hblk:=hown.blk
  rw[g3]at hblk
  obtain⟨_,hlt,cur,cap',c1,c2,c3,c4,c5⟩:=hblk
  obtain⟨cur',ty',d1,d2⟩:=g5
  rw[c1]at d1;cases d1
  have hcc:o+cap=cap':=by
   rw[c2]at d2
   exact(Nat.eq_of_mul_eq_mul_right hown.epos d2).symm
  subst hcc
  have hlen:((hb.xs.drop o).take n).length=n:=by simp;omega
  have hget:∀(i:Nat)(x:PV),((hb.xs.drop o).take n)[i]? =some x->i<n/\hb.xs[o+i]? =some x:=fun i x hx=>by
   have hi:i<n:=by have:=(List.getElem?_eq_some_iff.1 hx).1;omega
   rw[List.getElem?_take_of_lt hi,List.getElem?_drop]at hx
   exact⟨hi,hx⟩
  have:=Qae.sl (w:=w) (X:=Xof C ρ (Qaq hp l)) hb.e ((hb.xs.drop o).take n) b (o*hb.e) cap (fun i j=>cur.getD ((o+i)*hb.e+j) undef) (Q0h h hB hβ hl g3) hlt (by omega) (by omega)
   (fun i x hx=>(hown.len _ x (hget i x hx).2).1)
   (fun i hi j hj=>by
    rw[hlen]at hi
    have:=Qfs (i:=o+i) (e:=hb.e) (o:=0) (j:=j) (n:=hb.e) (cap:=o+cap) (by omega) (by omega) hj
    rw[Nat.add_zero]at this
    rw[show o*hb.e+i*hb.e+j=(o+i)*hb.e+j by rw[Nat.add_mul]]
    exact Qby c1 (by rw[c2];exact this))
   (fun i x hx j y hy=>(c5 _ x (hget i x hx).2 j y hy).freeze)
  rwa[hlen]at this
def Qoz(R:Qp):Qp:=fun fr hp=>∃fr' hp',Wk fr hp fr' hp'/\R fr' hp'
theorem Q4d{hp':HP}(hw:Wk fr hp fr' hp')(h:R fr' hp'):Qoz R fr hp:=⟨fr',hp',hw,h⟩
theorem Qet(h:R fr hp):Qoz R fr hp:=⟨fr,hp,Wk.refl _ _,h⟩
theorem Qaj2:KM (Qoz R) (Qoz R):=by
 rintro f f' hp hf ⟨fr',hp',h1,h2⟩
 exact⟨fr',hp',hf.wk.trans h1,h2⟩
theorem Qk:Qd9 (Qoz R) []:=⟨Qaj2,.nil⟩
theorem Qaj3{d γ m i:Nat}{k:IntKind}(h:i<m)(he:(hp γ).map (·.e)=some 1):Qe4 1 (.nso γ 0 m) (.int k (i:Int)) d fr hp K=K (upd fr d (.np γ i 0)) hp:=by
 have e:(0:Int)<=(i:Int):=by omega
 simp[Qe4,e,h,he]
theorem Qaj4{d γ o m:Nat}:Qkl (.nso γ o m) d fr hp K=K (upd fr d (.int .i64 m)) hp:=rfl
theorem Qar0{d γ i ty:Nat}{l:List (Nat×Nat)}(hγ:fr γ= .nst γ 1 ty (Qak l))(h:i<l.length):ldK 1 false (.np γ i 0) d fr hp K=K (upd fr d (.ms (l[i]'h).1 (l[i]'h).2)) hp:=by
 have hh:∃h:i<l.length,K (upd fr d (.ms (l[i]'h).1 (l[i]'h).2)) hp↔K (upd fr d (.ms (l[i]'h).1 (l[i]'h).2)) hp:=⟨h,Iff.rfl⟩
 simp only[ldK,hγ]
 have h2:i<(Qak l).length:=by simpa[Qak]using h
 simp only[h2,exists_true_left,true_and,Nat.le_refl,Nat.zero_add,implies_true]
 simp[ldN,Qak,PV.ncells,PV.cells]
theorem Q4e{e by_ ty ty' d β γ n:Nat}{xs:List PV}{y:PV}{fz:Bool}(hb:hp β=some ⟨e,ty,xs,false⟩)(hy:hp γ=some ⟨e,ty',[y],fz⟩)(h0:0<e)(hn:n=xs.length)(h1:(n+1)*by_<=140737488355328)(h2:n+1<=9223372036854775807)(hB:2000000<=β):
  Qe5 e by_ ty (.ms β n) (.ms γ 1) d fr hp K=K (upd (Qel β fr) d (.ms β (n+1))) (Qw hp β ⟨e,ty,xs++[y],false⟩):=by
 subst hn
 have b1:isB β=true:=by simp[isB];omega
 have b2:isY β=false:=by simp[isY];omega
 simp[Qe5,Qec,hy,hb,h0,b1,b2,h1,h2]
theorem Qju{α:Type}{f:α->PV}{y:α}{e by_ ty ty' d β γ n:Nat}{xs:List α}{fz:Bool}(hb:hp β=some ⟨e,ty,xs.map f,false⟩)(hy:hp γ=some ⟨e,ty',[f y],fz⟩)(h0:0<e)(hn:n=xs.length)(h1:(n+1)*by_<=140737488355328)(h2:n+1<=9223372036854775807)(hB:2000000<=β):
  Qe5 e by_ ty (.ms β n) (.ms γ 1) d fr hp K=K (upd (Qel β fr) d (.ms β (n+1))) (Qw hp β ⟨e,ty,(xs++[y]).map f,false⟩):=by
 rw[Q4e hb hy h0 (by simp[hn]) h1 h2 hB];simp
theorem Q9m{γ e ty k:Nat}{l:List (Nat×Nat)}(h:k<l.length)(hne:γ≠(l[k]'h).1)(hd:∀j (hj:j<l.length),l[j].1=(l[k]'h).1->j=k):Qbt (l[k]'h).1 (.nst γ e ty (Qak l))= .nst γ e ty ((Qak l).set k .undef):=by
 simp only[Qbt,if_neg hne]
 congr 1
 refine List.ext_getElem (by simp[Qak]) fun j h1 h2=> ?_
 have hj:j<l.length:=by simpa[Qak]using h1
 simp only[Qak,List.getElem_map,List.getElem_set,PV.ncells,PV.cells,List.map_cons,List.map_nil,Qdu,Qd3]
 by_cases e:j=k
 ·subst e;simp
 ·rw[if_neg fun e2=>e (hd j hj e2),if_neg fun e2=>e e2.symm]
theorem Q9n{β γ o n:Nat}(h:γ≠β):Qbt β (.nso γ o n)= .nso γ o n:=by simp only[Qbt];rw[if_neg h]
theorem Qaei{β γ o n:Nat}(h:γ≠β):Qbt β (.np γ o n)= .np γ o n:=by simp only[Qbt];rw[if_neg h]
theorem Qar1:
  (∀(β:Nat)(k:IntKind)(n:Int),Qbt β (.int k n)= .int k n)/\
  (∀(β:Nat)(b:Bool),Qbt β (.bool b)= .bool b)/\
  (∀(β e:Nat)(xs:List PV),Qbt β (.sl e xs)= .sl e xs)/\
  (∀(β:Nat)(cs:List PV),Qbt β (.agg cs)= .agg cs)/\
  (∀(β:Nat)(cs:List PV),Qbt β (.pt cs)= .pt cs)/\
  (∀(β:Nat),Qbt β .nilS= .nilS)/\
  (∀(β:Nat),Qbt β .undef= .undef)/\
  (∀(γ:Nat)(k:IntKind)(n:Int),Qdh γ (.int k n)= .int k n)/\
  (∀(γ:Nat)(b:Bool),Qdh γ (.bool b)= .bool b)/\
  (∀(γ e:Nat)(xs:List PV),Qdh γ (.sl e xs)= .sl e xs)/\
  (∀(γ:Nat)(cs:List PV),Qdh γ (.agg cs)= .agg cs)/\
  (∀(γ:Nat)(cs:List PV),Qdh γ (.pt cs)= .pt cs)/\
  (∀(γ:Nat),Qdh γ .nilS= .nilS)/\
  (∀(γ:Nat),Qdh γ .undef= .undef)/\
  (∀(γ β o n:Nat),Qdh γ (.mso β o n)= .mso β o n)/\
  (∀(γ β o n:Nat),Qdh γ (.mp β o n)= .mp β o n)/\
  (∀(γ β o n:Nat),Qdh γ (.rb β o n)= .rb β o n)/\
  (∀(γ β o n:Nat),Qdh γ (.nso β o n)= .nso β o n)/\
  (∀(γ β o n:Nat),Qdh γ (.np β o n)= .np β o n)/\
  (∀(β γ o n:Nat),Qa1 β (.nso γ o n)= .nso γ o n)/\
  (∀(β γ o n:Nat),Qa1 β (.np γ o n)= .np γ o n)/\
  (∀(β γ e ty:Nat)(xs:List PV),Qa1 β (.nst γ e ty xs)= .nst γ e ty xs)/\
  (∀(β:Nat),Qa1 β .undef= .undef)/\
  (∀(β:Nat)(cs:List PV),Qa1 β (.pt cs)= .pt cs):=by
 refine⟨?_,?_,?_,?_,?_,?_,?_,?_,?_,?_,?_,?_,?_,?_,?_,?_,?_,?_,?_,?_,?_,?_,?_,?_⟩<;>intros<;>rfl
theorem Qaej(β γ o n:Nat):Qbt β (.mso γ o n)=if γ=β then .undef else .mso γ o n:=Qzk β γ o n
theorem Qaek(β γ o n:Nat):Qbt β (.mp γ o n)=if γ=β then .undef else .mp γ o n:=Qzl β γ o n
end Go.FW
namespace Go.FW
open Go
variable {C : Ctx} {ρ : Nat -> Option Nat} {fr fr' : Fr} {hp : HP} {w : World} {K R : Qp}
theorem Qaj5{F:Fr}{s:Nat}:Qd2 F s=Qe6 (F s):=rfl
theorem Qar2:
  (∀(k:IntKind)(n:Int),Qe6 (.int k n)= .int k n)/\
  (∀(b:Bool),Qe6 (.bool b)= .bool b)/\
  (∀(e:Nat)(xs:List PV),Qe6 (.sl e xs)= .sl e xs)/\
  (∀(cs:List PV),Qe6 (.agg cs)= .agg cs)/\
  (∀(cs:List PV),Qe6 (.pt cs)= .pt cs)/\
  (Qe6 .nilS= .nilS)/\(Qe6 .undef= .undef)/\
  (∀(β o n:Nat),Qe6 (.mso β o n)=if isN β then .undef else .mso β o n)/\
  (∀(β o n:Nat),Qe6 (.mp β o n)=if isN β then .undef else .mp β o n)/\
  (∀(β o n:Nat),Qe6 (.rb β o n)=if isN β then .undef else .rb β o n)/\
  (∀(β o n:Nat),Qe6 (.nso β o n)=if isS β then .undef else .nso β o n)/\
  (∀(β o n:Nat),Qe6 (.np β o n)=if isS β then .undef else .np β o n):=by
 refine⟨fun _ _=>rfl,fun _=>rfl,fun _ _=>rfl,fun _=>rfl,fun _=>rfl,rfl,rfl,?_,?_,?_,?_,?_⟩<;>intros<;>simp[Qe6,PV.refs,PV.sref]
theorem Qaox{β:Nat}:isS β=(isN β||decide (β<1000000)):=rfl
theorem Qaoy{β:Nat}:isN β=decide (2000000<=β):=rfl
def rws(B n:Nat)(L:Nat->Nat):List (Nat×Nat):=(List.range n).map fun i=>(B+i,L i)
theorem Qk1(B n:Nat)(L:Nat->Nat):(rws B n L).length=n:=by simp[rws]
theorem Qhd{B n i:Nat}{L:Nat->Nat}(h:i<(rws B n L).length):(rws B n L)[i]=(B+i,L i):=by simp[rws]
theorem Qaj6{B n i m:Nat}{L L':Nat->Nat}(h:∀j,j<n->L' j=if j=i then m else L j):(rws B n L).set i (B+i,m)=rws B n L':=by
 refine List.ext_getElem (by simp[rws]) fun j h1 h2=> ?_
 have hj:j<n:=by simpa[rws]using h2
 rw[Qhd,List.getElem_set,Qhd,h j hj]
 split
 ·rename_i e;subst e;simp
 ·rename_i e;rw[if_neg fun e2=>e e2.symm]
theorem Q9o{γ e ty k B n:Nat}{L:Nat->Nat}(h:k<n)(hne:¬(B<=γ/\γ<B+n)):Qbt (B+k) (.nst γ e ty (Qak (rws B n L)))= .nst γ e ty ((Qak (rws B n L)).set k .undef):=by
 have hk:k<(rws B n L).length:=by rw[Qk1];exact h
 have:=Q9m (γ:=γ) (e:=e) (ty:=ty) hk (by rw[Qhd];simp only;omega) (fun j hj=>by rw[Qhd,Qhd];simp only;omega)
 rwa[Qhd]at this
theorem Qaoz{d γ i ty B n:Nat}{L:Nat->Nat}(hγ:fr γ= .nst γ 1 ty (Qak (rws B n L)))(h:i<n):ldK 1 false (.np γ i 0) d fr hp K=K (upd fr d (.ms (B+i) (L i))) hp:=by
 rw[Qar0 hγ (by rw[Qk1];exact h),Qhd]
theorem Qael{d γ n:Nat}{S:List Nat}{x:PV}{s:Nat}:Qarz d S γ n x fr s=if s=γ then x else if S.contains s then .nso γ 0 n else Qa1 d (fr s):=rfl
theorem Qaj7{by_ ty d:Nat}{k k':IntKind}{n c:Nat}(h2:n<=c)(h3:by_*c<=281474976710656)(h4:c<=9223372036854775807):
  mkK 1 by_ ty .nilS (.int k (n:Int)) (.int k' (c:Int)) d fr hp K=K (upd (Qa7 d fr) d (.ms d n)) (Qw hp d ⟨1,ty,List.replicate n .nilS,false⟩):=by
 rw[Qyr (e:=1) (by omega) rfl (by omega) (by omega) (by omega) (by omega)];rfl
theorem Qao0{k c:Nat}(h:c<3000000):(3000000+k=c)=False:=by simp;omega
theorem Qaj8{k c:Nat}(h:c<3000000):(c=3000000+k)=False:=by simp;omega
theorem Qao1{k j:Nat}:(3000000+k=3000000+j)=(k=j):=by simp
attribute [go_sem] Qao0 Qaj8 Qao1 Qaj7 Qael Q9i Q9j Q9k Q9l Qaeg Qaeh Qxi Qxj Qar1 Qaej Qaek Q9n Qaei Qaj3 Qaj4 Qaj5 Qar2 Qaox Qaoy
end Go.FW
namespace Go.FW
open Go
variable {C C' : Ctx} {ρ ρ' : Nat -> Option Nat} {fr fr' : Fr} {hp hp' : HP} {w : World} {K R : Qp}
theorem Qb4{sk:List It}{r:RT}{fr0:Fr}{hp0:HP}(hw:Wk fr hp fr0 hp0)(h:vc C R (.o r::sk) fr0 hp0):vc C R (.o (.wk r)::sk) fr hp:=by rw[Qtz];exact⟨fr0,hp0,hw,h⟩
def rn1(σ:Nat->Nat):PV->PV
 | .mp β i o=> .mp (σ β) i o
 | .mso β o n=> .mso (σ β) o n
 | .rb β o n=> .rb (σ β) o n
 | .np β i o=> .np (σ β) i o
 | .nso β o n=> .nso (σ β) o n
 |p=>p
def rnP(σ:Nat->Nat):PV->PV
 | .fn f a b=> .fn f (a.map (rn1 σ)) (b.map (rn1 σ))
 | .rag cs=> .rag (cs.map (rn1 σ))
 | .nst γ e ty xs=> .nst (σ γ) e ty (xs.map fun x=>Qdu (x.ncells.map (rn1 σ)))
 |p=>rn1 σ p
structure Rn1(σ:Nat->Nat)(ρ ρ':Nat->Option Nat)(hp hp':HP)(β:Nat):Prop where
 r:ρ' (σ β)=ρ β
 h:∀hb,hp β=some hb->∃hb2,hp' (σ β)=some hb2/\hb2.e=hb.e/\hb2.ty=hb.ty/\hb2.xs=hb.xs
 b:isB β=true->isB (σ β)=true
theorem Qez.ren{σ:Nat->Nat}{β o n:Nat}{v:Value}(h:Qez ρ hp w β o n v)(hr:Rn1 σ ρ ρ' hp hp' β):Qez ρ' hp' w (σ β) o n v:=by
 obtain⟨hb,h1,h2,h3⟩:=h
 obtain⟨hb',k1,k2,k3,k4⟩:=hr.h hb h1
 refine⟨hb',k1,by rw[k4];exact h2,?_⟩
 rw[hr.r,k2];exact h3
theorem Qi9.ren{σ:Nat->Nat}{γ o n:Nat}{v:Value}(h:Qi9 ρ hp w γ o n v)(hr:Rn1 σ ρ ρ' hp hp' γ):Qi9 ρ' hp' w (σ γ) o n v:=by
 obtain⟨h0,hb,b,cap,h1,h2,h3⟩:=h
 obtain⟨hb',k1,k2,k3,k4⟩:=hr.h hb h1
 exact⟨hr.b h0,hb',b,cap,k1,by rw[hr.r];exact h2,by rw[k2];exact h3⟩
theorem Qae.sub{X X':Nat->Prop}{p:PV}{v:Value}(h:Qae w X p v)(hX:∀b,X' b->X b):Qae w X' p v:=h.mono (fun _ _ _=>rfl) (fun b _ hn hx=>hn (hX b hx)) (Nat.le_refl _)
theorem Qb6.ren{σ:Nat->Nat}{p:PV}{v:Value}(h:Qb6 C ρ hp w p v)(hX:∀b,Xof C' ρ' hp' b->Xof C ρ hp b)(hr:∀β∈p.sref1,Rn1 σ ρ ρ' hp hp' β):Qb6 C' ρ' hp' w (rn1 σ p) v:=by
 cases p with
 |undef=>trivial
 |mso β o n=>exact⟨(hr β (by simp[PV.sref1])).b h.1,h.2.ren (hr β (by simp[PV.sref1]))⟩
 |nso γ o n=>exact Qi9.ren h (hr γ (by simp[PV.sref1]))
 |mp=>cases h
 |rb=>cases h
 |np=>cases h
 |_=>exact Qae.sub h hX
theorem Qbv.ren{σ:Nat->Nat}{p:PV}{v:Value}(h:Qbv C ρ hp w p v)(hX:∀b,Xof C' ρ' hp' b->Xof C ρ hp b)(hr:∀β∈p.ref1++p.nref1,Rn1 σ ρ ρ' hp hp' β):Qbv C' ρ' hp' w (rn1 σ p) v:=by
 cases p with
 |mp β i o=>
  have hq:=hr β (by simp[PV.ref1])
  obtain⟨b,hb,h1,h2,h3⟩:=h
  obtain⟨hb',k1,k2,k3,k4⟩:=hq.h hb h2
  exact⟨b,hb',by rw[hq.r];exact h1,k1,by rw[k2];exact h3⟩
 |mso β o n=>exact Qez.ren h (hr β (by simp[PV.ref1]))
 |rb β o n=>
  obtain⟨b,u,h1,h2,h3,h4,h5⟩:=h
  exact⟨b,u,h1,h2,fun hx=>h3 (hX b hx),h4,h5.ren (hr β (by simp[PV.ref1]))⟩
 |np γ i o=>
  have hq:=hr γ (by simp[PV.ref1,PV.nref1])
  obtain⟨h0,b,hb,h1,h2,h3⟩:=h
  obtain⟨hb',k1,k2,k3,k4⟩:=hq.h hb h2
  exact⟨hq.b h0,b,hb',by rw[hq.r];exact h1,k1,by rw[k2];exact h3⟩
 |nso γ o n=>exact Qi9.ren h (hr γ (by simp[PV.ref1,PV.nref1]))
 |_=>exact Qae.sub h hX
theorem Qr8{cs:List PV}(h:∀c∈cs,(∀ds,c≠ .agg ds)/\∀ds,c≠ .rag ds):(Qdu cs).ncells=cs:=by
 match cs,h with
 | [],_=>rfl
 | [c],h=>
  obtain⟨h1,h2⟩:=h c (by simp)
  cases c with
  |agg ds=>exact absurd rfl (h1 ds)
  |rag ds=>exact absurd rfl (h2 ds)
  |_=>rfl
 |c::d::cs,_=>
  simp only[Qdu,Qgl]
  split<;>rfl
theorem Qb6.one{p:PV}{v:Value}(h:Qb6 C ρ hp w p v):(∀ds,p≠ .agg ds)/\∀ds,p≠ .rag ds:=by
 refine⟨fun ds e=> ?_,fun ds e=> ?_⟩<;>subst e<;>cases h
theorem Qaa.ren{σ:Nat->Nat}{p:PV}{v:Value}(h:Qaa C ρ hp w p v)(hX:∀b,Xof C' ρ' hp' b->Xof C ρ hp b)(hr:∀β∈p.refs++p.sref,Rn1 σ ρ ρ' hp hp' β):Qaa C' ρ' hp' w (rnP σ p) v:=by
 have hV:∀q u,Qae w (Xof C ρ hp) q u->Qae w (Xof C' ρ' hp') q u:=fun q u hq=>Qae.sub hq hX
 cases p with
 |undef=>trivial
 |mp β i o=>exact Qbv.ren (w:=w) (p:= .mp β i o) h hX (by simpa[PV.refs,PV.sref,PV.ref1,PV.nref1]using hr)
 |mso β o n=>exact Qbv.ren (w:=w) (p:= .mso β o n) h hX (by simpa[PV.refs,PV.sref,PV.ref1,PV.nref1]using hr)
 |rb β o n=>exact Qbv.ren (w:=w) (p:= .rb β o n) h hX (by simpa[PV.refs,PV.sref,PV.ref1,PV.nref1]using hr)
 |np γ i o=>exact Qbv.ren (w:=w) (p:= .np γ i o) h hX (by simpa[PV.refs,PV.sref,PV.ref1,PV.nref1]using hr)
 |nso γ o n=>exact Qbv.ren (w:=w) (p:= .nso γ o n) h hX (by simpa[PV.refs,PV.sref,PV.ref1,PV.nref1]using hr)
 |rag cs=>
  obtain⟨vs,rfl,h1,h2⟩:=h
  refine⟨vs,rfl,by simpa using h1,fun i x hi=> ?_⟩
  simp only[List.getElem?_map,Option.map_eq_some_iff]at hi
  obtain⟨y,hy,rfl⟩:=hi
  exact(h2 i y hy).ren hX fun β hβ=>hr β (List.mem_append_right _ (List.mem_flatMap.2 ⟨y,List.mem_of_getElem? hy,hβ⟩))
 | nst γ e ty xs=>
  obtain⟨h0,he,b,hb,cur,cap,h1,h2,h3,h4,h5,h6,h7,h8,h9,h10,h11⟩:=h
  have hq:=hr γ (by simp[PV.sref])
  have key:∀(i:Nat)(x:PV),xs[i]? =some x->∀(j:Nat)(y:PV),x.ncells[j]? =some y->Qb6 C' ρ' hp' w (rn1 σ y) (cur.getD (i*e+j) undef):=fun i x hx j y hy=>
   (h11 i x hx j y hy).ren hX fun β hβ=>hr β (List.mem_append_right _ (List.mem_cons_of_mem _ (List.mem_flatMap.2 ⟨x,List.mem_of_getElem? hx,List.mem_flatMap.2 ⟨y,List.mem_of_getElem? hy,hβ⟩⟩)))
  have hnc:∀(i:Nat)(x:PV),xs[i]? =some x->(Qdu (x.ncells.map (rn1 σ))).ncells=x.ncells.map (rn1 σ):=fun i x hx=>by
   refine Qr8 fun c hc=> ?_
   obtain⟨y,hy,rfl⟩:=List.mem_map.1 hc
   obtain⟨j,hj⟩:=List.getElem?_of_mem hy
   exact(key i x hx j y hj).one
  obtain⟨hb',k1,k2,k3,k4⟩:=hq.h hb h2
  refine⟨hq.b h0,he,b,hb',cur,cap,by rw[hq.r];exact h1,k1,by rw[k4];exact h3,by rw[k2];exact h4,by rw[k3];exact h5,h6,h7,by simpa using h8,h9,fun i x hx=> ?_,fun i x hx j y hy=> ?_⟩
  ·simp only[List.getElem?_map,Option.map_eq_some_iff]at hx
   obtain⟨x0,hx0,rfl⟩:=hx
   rw[hnc i x0 hx0,List.length_map];exact h10 i x0 hx0
  ·simp only[List.getElem?_map,Option.map_eq_some_iff]at hx
   obtain⟨x0,hx0,rfl⟩:=hx
   rw[hnc i x0 hx0,List.getElem?_map,Option.map_eq_some_iff]at hy
   obtain⟨y0,hy0,rfl⟩:=hy
   exact key i x0 hx0 j y0 hy0
 | fn f first cap=>
  obtain⟨fv,cv,rfl,h1,h2,h3,h4⟩:=h
  have hm:∀(l:List PV)(x:PV),x∈l->∀β∈x.ref1++x.nref1,β∈l.flatMap PV.ref1++l.flatMap PV.nref1:=fun l x hx β hβ=>by
   rcases List.mem_append.1 hβ with hβ|hβ
   ·exact List.mem_append_left _ (List.mem_flatMap.2 ⟨x,hx,hβ⟩)
   ·exact List.mem_append_right _ (List.mem_flatMap.2 ⟨x,hx,hβ⟩)
  refine⟨fv,cv,rfl,by simpa using h1,by simpa using h2,fun i x hi=> ?_,fun i x hi=> ?_⟩
  ·simp only[List.getElem?_map,Option.map_eq_some_iff]at hi
   obtain⟨y,hy,rfl⟩:=hi
   refine(h3 i y hy).ren hX fun β hβ=>hr β ?_
   have:=hm first y (List.mem_of_getElem? hy) β hβ
   simp only[PV.refs,PV.sref,List.mem_append]at this⊢
   rcases this with h|h
   ·exact .inl (.inl h)
   ·exact .inr (.inl h)
  ·simp only[List.getElem?_map,Option.map_eq_some_iff]at hi
   obtain⟨y,hy,rfl⟩:=hi
   refine(h4 i y hy).ren hX fun β hβ=>hr β ?_
   have:=hm cap y (List.mem_of_getElem? hy) β hβ
   simp only[PV.refs,PV.sref,List.mem_append]at this⊢
   rcases this with h|h
   ·exact .inl (.inr h)
   ·exact .inr (.inr h)
 |agg cs=>exact Qc4.move (p:= .agg cs) h hV
 |tup cs=>exact Qc4.move (p:= .tup cs) h hV
 |_=>exact hV _ _ h
theorem Qao2(σ τ:Nat->Nat)(h1:∀β hb,hp β=some hb->hp' (σ β)=some hb/\τ (σ β)=β)(h2:∀γ hb,hp' γ=some hb->hp (τ γ)=some hb/\σ (τ γ)=γ)
  (hB:∀β,hp β≠none->isB β=true->isB (σ β)=true) (hY:∀β,hp β≠none->isY (σ β)=isY β/\(isY β=true->σ β=β)) (hf:∀s,fr' s=rnP σ (fr s)∨fr' s= .undef):Wk fr hp fr' hp':=by
 rintro C tmps w ⟨ρ,hs⟩
 obtain⟨ρ',hρ⟩:∃f:Nat->Option Nat,f=fun γ=>if hp' γ=none then none else ρ (τ γ):=⟨_,rfl⟩
 have hr:∀β,hp β≠none->Rn1 σ ρ ρ' hp hp' β:=fun β hβ=>by
  obtain⟨hb,hq⟩:=Option.ne_none_iff_exists'.1 hβ
  obtain⟨a1,a2⟩:=h1 β hb hq
  refine⟨?_,(fun hb hq=>⟨hb,(h1 β hb hq).1,rfl,rfl,rfl⟩),hB β hβ⟩
  rw[hρ];simp only[]
  rw[if_neg (by rw[a1];simp),a2]
 have hb':∀γ hb,hp' γ=some hb->ρ' γ=ρ (τ γ):=fun γ hb hq=>by rw[hρ];simp only[];rw[if_neg (by rw[hq];simp)]
 have hX:∀b,Xof C ρ' hp' b->Xof C ρ hp b:=by
  rintro b (hx|⟨γ,hg,g1,g2,g3⟩)
  ·exact .inl hx
  ·rw[hb' γ hg g1]at g3
   exact .inr ⟨τ γ,hg,(h2 γ hg g1).1,g2,g3⟩
 refine⟨ρ',hs.sz,hs.ext,hs.keep,fun γ hb hγ=> ?_,fun γ δ b g1 g2 g3 g4=> ?_,fun i=> ?_⟩
 ·obtain⟨a1,a2⟩:=h2 γ hb hγ
  obtain⟨q1,q2,q3,q4,q5⟩:=hs.own (τ γ) hb a1
  obtain⟨y1,y2⟩:=hY (τ γ) (by simp[a1])
  rw[a2]at y1 y2
  refine⟨q1,q2,?_,fun hy=> ?_,fun hR=> ?_⟩
  rotate_left
  rotate_left
  ·have hy:isY γ=true:=by simp[isR]at hR;simp[isY];omega
   have e:=y2 (by rw[<-y1];exact hy)
   exact q5 (by rw[<-e];exact hR)
  ·rw[hb' γ hb hγ]
   cases hq:ρ (τ γ)with
   |none=>rw[hq]at q3;exact q3
   |some b=>
    rw[hq]at q3
    refine⟨?_,q3.2.1,q3.2.2.move rfl rfl rfl rfl fun q u hq=>Qae.sub hq hX⟩
    have:=q3.1
    unfold Ctx.cls at this⊢
    rw[y1]
    split at this
    ·rename_i hy;rw[if_pos hy,y2 hy];exact this
    ·rename_i hy;rw[if_neg hy];exact this
  ·rw[hb' γ hb hγ,q4 (by rw[<-y1];exact hy),<-y2 (by rw[<-y1];exact hy)]
 ·obtain⟨x1,k1⟩:=Option.ne_none_iff_exists'.1 g1
  obtain⟨x2,k2⟩:=Option.ne_none_iff_exists'.1 g2
  rw[hb' γ x1 k1]at g3;rw[hb' δ x2 k2]at g4
  have:=hs.inj (τ γ) (τ δ) b (by rw[(h2 γ x1 k1).1];simp) (by rw[(h2 δ x2 k2).1];simp) g3 g4
  rw[<-(h2 γ x1 k1).2,<-(h2 δ x2 k2).2,this]
 ·have hsl:=hs.slots i
  rcases hf i with e|e
  ·rw[e]
   exact hsl.ren hX fun β hβ=>hr β (by
    rcases List.mem_append.1 hβ with h|h
    ·exact hsl.known.1 β h
    ·exact hsl.known.2 β h)
  ·rw[e];trivial
def mvN(β δ x:Nat):Nat:=if x=β then δ else x
def mvF(β δ:Nat)(fr:Fr):Fr:=fun s=>rnP (mvN β δ) (fr s)
def mvH(β δ:Nat)(hp:HP):HP:=fun x=>if x=δ then hp β else if x=β then none else hp x
theorem Qht(β δ:Nat)(hδ:hp δ=none)(h2:2000000<=δ)(hY:isY β=false)(hne:β≠δ):Wk fr hp (mvF β δ fr) (mvH β δ hp):=by
 have bδ:isB δ=true:=by simp[isB];omega
 have yδ:isY δ=false:=by simp[isY];omega
 refine Qao2 (mvN β δ) (fun y=>if y=δ then β else y) (fun x hb hx=> ?_) (fun y hb hy=> ?_) (fun x hx hb=> ?_) (fun x hx=> ?_) (fun s=> .inl rfl)
 ·unfold mvN mvH
  by_cases e:x=β
  ·subst e;simp[hx]
  ·have e2:x≠δ:=fun e2=>by rw[e2,hδ]at hx;cases hx
   simp[e,e2,hx]
 ·unfold mvH at hy
  unfold mvN
  by_cases e:y=δ
  ·subst e;simp at hy;simp[hy]
  ·rw[if_neg e]at hy
   by_cases e2:y=β
   ·rw[if_pos e2]at hy;cases hy
   ·rw[if_neg e2]at hy;simp[e,e2,hy]
 ·unfold mvN;split
  ·exact bδ
  ·exact hb
 ·unfold mvN;split
  ·rename_i e;subst e;rw[yδ,hY];simp
  ·simp
theorem Qao3{β δ x:Nat}:mvH β δ hp x=if x=δ then hp β else if x=β then none else hp x:=rfl
theorem Qao4{β δ s:Nat}:mvF β δ fr s=rnP (mvN β δ) (fr s):=rfl
theorem Qao5{β δ x:Nat}:mvN β δ x=if x=β then δ else x:=rfl
theorem Qaj9{β δ d:Nat}{v:PV}:mvF β δ (upd fr d v)=upd (mvF β δ fr) d (rnP (mvN β δ) v):=by
 funext s;unfold mvF upd;split<;>rfl
theorem Qaka{W:List (Nat×Nat)}{β δ:Nat}{J F:Fr}:mvF β δ (ovr W J F)=ovr W (mvF β δ J) (mvF β δ F):=by
 funext s;unfold mvF ovr;split<;>rfl
theorem Q9p{σ:Nat->Nat}{p:PV}(h:∀β∈p.ref1++p.nref1,σ β=β):rn1 σ p=p:=by
 cases p with
 |mp β=>simp only[rn1];rw[h β (by simp[PV.ref1])]
 |mso β=>simp only[rn1];rw[h β (by simp[PV.ref1])]
 |rb β=>simp only[rn1];rw[h β (by simp[PV.ref1])]
 |np β=>simp only[rn1];rw[h β (by simp[PV.ref1,PV.nref1])]
 |nso β=>simp only[rn1];rw[h β (by simp[PV.ref1,PV.nref1])]
 |_=>rfl
theorem Qakb{σ:Nat->Nat}{p:PV}(h:Cln p)(hσ:∀β∈p.refs++p.sref,σ β=β):rnP σ p=p:=by
 have hm:∀(l:List PV),(∀β∈l.flatMap PV.ref1++l.flatMap PV.nref1,σ β=β)->l.map (rn1 σ)=l:=fun l hl=>by
  conv=>rhs;rw[<-List.map_id l]
  refine List.map_congr_left fun x hx=>Q9p fun β hβ=>hl β ?_
  rcases List.mem_append.1 hβ with hβ|hβ
  ·exact List.mem_append_left _ (List.mem_flatMap.2 ⟨x,hx,hβ⟩)
  ·exact List.mem_append_right _ (List.mem_flatMap.2 ⟨x,hx,hβ⟩)
 cases p with
 |nst γ e ty xs=>exact absurd rfl (h.2.2.1 _ _ _ _)
 |rag cs=>exact absurd rfl (h.2.2.2 _)
 | fn f a b=>
  simp only[rnP]
  rw[hm a,hm b]
  ·intro β hβ;refine hσ β ?_
   simp only[PV.refs,PV.sref,List.mem_append]at hβ⊢
   rcases hβ with h|h
   ·exact .inl (.inr h)
   ·exact .inr (.inr h)
  ·intro β hβ;refine hσ β ?_
   simp only[PV.refs,PV.sref,List.mem_append]at hβ⊢
   rcases hβ with h|h
   ·exact .inl (.inl h)
   ·exact .inr (.inl h)
 |mp β=>simp only[rnP,rn1];rw[hσ β (by simp[PV.refs])]
 |mso β=>simp only[rnP,rn1];rw[hσ β (by simp[PV.refs])]
 |rb β=>simp only[rnP,rn1];rw[hσ β (by simp[PV.refs])]
 |np β=>simp only[rnP,rn1];rw[hσ β (by simp[PV.refs,PV.sref])]
 |nso β=>simp only[rnP,rn1];rw[hσ β (by simp[PV.refs,PV.sref])]
 |_=>rfl
theorem Qaem{B:List Nat}{F:Fr}{s β:Nat}(h:β∈(bse B F s).refs):B.contains β=false:=by
 cases hq:B.contains β with
 |false=>rfl
 |true=>
  unfold bse Qao at h
  split at h
  ·cases h
  ·rename_i hn;exact absurd (List.any_eq_true.2 ⟨β,h,hq⟩) hn
theorem Qakc{B:List Nat}{F:Fr}{β δ:Nat}(hβ:B.contains β=true∨2000000<=β)(hβ2:β<1000000∨2000000<=β):mvF β δ (bse B F)=bse B F:=by
 funext s
 have hc:=Qle B F s
 refine Qakb hc fun x hx=>if_neg fun e=> ?_
 subst e
 rcases hβ with hβ|hβ
 ·rcases List.mem_append.1 hx with h|h
  ·rw[Qaem h]at hβ;cases hβ
  ·have h1:=hc.2.1 x h
   simp[isS,isN]at h1;omega
 ·rcases List.mem_append.1 hx with h|h
  ·have:=hc.1 x h;simp[isN]at this;omega
  ·have:=hc.2.1 x h;simp[isS,isN]at this;omega
end Go.FW
namespace Go.FW
open Go
variable {C C' : Ctx} {ρ ρ' : Nat -> Option Nat} {fr fr' : Fr} {hp hp' : HP} {w : World} {K R : Qp}
def Qe7(γ:Nat):PV->PV
 | .mso β o n=>if β=γ then .nso γ o n else .mso β o n
 | .mp β i o=>if β=γ then .np γ i o else .mp β i o
 | .rb β o n=>if β=γ then .undef else .rb β o n
 |p=>p
def Qef(γ:Nat):PV->PV
 | .fn f a b=>Qa1 γ (.fn f a b)
 | .rag cs=> .rag (cs.map (Qe7 γ))
 | .nst γ' e ty xs=>if γ'=γ then .undef else .nst γ' e ty (xs.map fun x=>Qdu (x.ncells.map (Qe7 γ)))
 |p=>Qe7 γ p
def Q6e(γ:Nat)(x:PV)(fr:Fr):Fr:=fun s=>if s=γ then x else Qef γ (fr s)
theorem Qki {γ e ty:Nat} {xs:List PV} {fz:Bool} (hγ:hp γ=some ⟨e,ty,xs,fz⟩) (h0:xs≠[]) (h2:2000000<=γ) (hd:∀x∈xs,x.ncells=x.cells):Wk fr hp (Q6e γ (.nst γ e ty xs) fr) (Qw hp γ ⟨e,ty,[],fz⟩):=by
 rintro C tmps w ⟨ρ,hs⟩
 have bγ:isB γ=true:=by simp[isB];omega
 have hown:=hs.own γ _ hγ
 have hblk:=hown.blk
 obtain⟨b,hρ⟩:∃b,ρ γ=some b:=by
  cases hq:ρ γ with
  |none=>rw[hq]at hblk;exact absurd hblk h0
  |some b=>exact⟨b,rfl⟩
 rw[hρ]at hblk
 obtain⟨b1,b2,cur,cap,c1,c2,c3,c4,c5⟩:=hblk
 have epos:=hown.epos
 obtain⟨hp',hpE⟩:∃f,f=Qw hp γ ⟨e,ty,[],fz⟩:=⟨_,rfl⟩
 rw[<-hpE]
 have pγ:hp' γ=some ⟨e,ty,[],fz⟩:=by rw[hpE];simp[Qw]
 have po:∀β,β≠γ->hp' β=hp β:=fun β hβ=>by rw[hpE];simp[Qw,hβ]
 have hX:Xof C ρ hp'=Xof C ρ hp:=by
  funext c;apply propext
  constructor
  ·rintro(hx|⟨β,hb,g1,g2,g3⟩)
   ·exact .inl hx
   ·by_cases hβ:β=γ
    ·subst hβ;rw[pγ]at g1;cases g1;exact .inr ⟨β,_,hγ,g2,g3⟩
    ·rw[po β hβ]at g1;exact .inr ⟨β,hb,g1,g2,g3⟩
  ·rintro(hx|⟨β,hb,g1,g2,g3⟩)
   ·exact .inl hx
   ·by_cases hβ:β=γ
    ·subst hβ;rw[hγ]at g1;cases g1;exact .inr ⟨β,_,pγ,g2,g3⟩
    ·exact .inr ⟨β,hb,by rw[po β hβ];exact g1,g2,g3⟩
 have hst:Qh2 w w (Xof C ρ hp) (Xof C ρ hp'):=by rw[hX];exact⟨fun _ _ _=>rfl,fun _ _ hn=>hn,Nat.le_refl _⟩
 have c0:∀β,β≠γ->Cnd ρ ρ hp hp' w w β:=fun β hβ=>⟨rfl,fun hb hq=>⟨hb,by rw[po β hβ];exact hq,rfl,Nat.le_refl _,fun _ _ _ h=>h,fun h=>⟨h,rfl,fun _ _=>rfl⟩⟩⟩
 have toS:∀ {o n:Nat} {v:Value},Qez ρ hp w γ o n v->Qi9 ρ hp' w γ o n v:=by
  rintro o n v ⟨hb,g1,g2,g3⟩
  rw[hγ]at g1;cases g1
  rcases g3 with⟨g3,_⟩|⟨b',cp,g3,g4,g5,g6⟩
  ·rw[hρ]at g3;cases g3
  ·rw[hρ]at g3;cases g3
   refine⟨bγ,_,b,cp,pγ,hρ,g4,g5,g6,?_⟩
   obtain⟨cur',ty',d1,d2⟩:=g5
   rw[c1]at d1;cases d1
   have:cap=o+cp:=Nat.eq_of_mul_eq_mul_right epos (by rw[<-c2,<-d2])
   simp only at g2 c3
   omega
 have cell:∀ {p:PV} {v:Value},Qb6 C ρ hp w p v->Qb6 C ρ hp' w (Qe7 γ p) v:=by
  intro p v h
  cases p with
  |mso β o n=>
   by_cases hβ:β=γ
   ·subst hβ;simp only[Qe7,if_true];exact toS h.2
   ·simp only[Qe7,if_neg hβ];exact Qb6.move (p:= .mso β o n) h hst fun x hx=>by simp[PV.sref1]at hx;subst hx;exact(c0 _ hβ).weak
  | nso β o n=>
   by_cases hβ:β=γ
   ·obtain⟨_,hb,b',cp,k1,k2,k3,k4,k5,k6⟩:=h
    subst hβ
    rw[hγ]at k1;cases k1
    exact⟨bγ,_,b',cp,pγ,k2,k3,k4,k5,k6⟩
   ·exact Qb6.move (p:= .nso β o n) h hst fun x hx=>by simp[PV.sref1]at hx;subst hx;exact(c0 _ hβ).weak
  |mp=>cases h
  |rb=>cases h
  |np=>cases h
  |undef=>trivial
  |_=>exact Qb6.move h hst (fun x hx=>by cases hx)
 refine⟨ρ,hs.sz,hs.ext,hs.keep,fun β hb hβ=> ?_,fun β δ c g1 g2 g3 g4=> ?_,fun i=> ?_⟩
 ·by_cases hq:β=γ
  ·subst hq
   rw[pγ]at hβ;cases hβ
   refine⟨epos,(fun i x hx=>by simp at hx),?_,hown.fix,hown.ro⟩
   rw[hρ]
   exact⟨b1,b2,cur,cap,c1,c2,Nat.zero_le _,c4,fun i x hx=>by simp at hx⟩
  ·rw[po β hq]at hβ
   obtain⟨q1,q2,q3,q4,q5⟩:=hs.own β hb hβ
   refine⟨q1,q2,?_,q4,q5⟩
   cases hr:ρ β with
   |none=>rw[hr]at q3;exact q3
   |some c=>rw[hr]at q3;exact⟨q3.1,q3.2.1,q3.2.2.move rfl rfl rfl rfl hst.rc⟩
 ·have f:∀β,hp' β≠none->hp β≠none:=fun β hβ=>by
   by_cases hq:β=γ
   ·subst hq;simp[hγ]
   ·rwa[po β hq]at hβ
  exact hs.inj β δ c (f β g1) (f δ g2) g3 g4
 ·have hsl:=hs.slots i
  show Qaa C ρ hp' w (Q6e γ (.nst γ e ty xs) fr i) _
  unfold Q6e
  split
  ·refine⟨bγ,epos,b,_,cur,cap,hρ,pγ,rfl,rfl,rfl,c1,c2,c3,c4,fun k x hx=> ?_,fun k x hx j y hy=> ?_⟩
   ·rw[hd x (List.mem_of_getElem? hx)];exact(hown.len k x hx).1
   ·rw[hd x (List.mem_of_getElem? hx)]at hy
    have:=c5 k x hx j y hy
    have h3:Qae w (Xof C ρ hp') y (cur.getD (k*e+j) undef):=by rw[hX];exact this
    cases y with
    |undef=>trivial
    |mso=>cases h3
    |nso=>cases h3
    |_=>exact h3
  ·generalize fr i=p at hsl
   cases p with
   |mso β o n=>
    by_cases hβ:β=γ
    ·subst hβ;simp only[Qef,Qe7,if_true];exact toS hsl
    ·simp only[Qef,Qe7,if_neg hβ];exact Qaa.moveC hsl hst (fun x hx=>by simp[PV.refs]at hx;subst hx;exact(c0 _ hβ).o) (fun x hx=>by cases hx)
   | mp β k o=>
    by_cases hβ:β=γ
    ·subst hβ
     simp only[Qef,Qe7,if_true]
     obtain⟨b',hb,g1,g2,g3⟩:=hsl
     rw[hγ]at g2;cases g2
     exact⟨bγ,b',_,g1,pγ,g3⟩
    ·simp only[Qef,Qe7,if_neg hβ];exact Qaa.moveC hsl hst (fun x hx=>by simp[PV.refs]at hx;subst hx;exact(c0 _ hβ).o) (fun x hx=>by cases hx)
   |rb β o n=>
    by_cases hβ:β=γ
    ·simp only[Qef,Qe7,if_pos hβ];trivial
    ·simp only[Qef,Qe7,if_neg hβ];exact Qaa.moveC hsl hst (fun x hx=>by simp[PV.refs]at hx;subst hx;exact(c0 _ hβ).o) (fun x hx=>by cases hx)
   | np β k o=>
    by_cases hβ:β=γ
    ·subst hβ
     obtain⟨_,b',hb,g1,g2,g3⟩:=hsl
     rw[hγ]at g2;cases g2
     exact⟨bγ,b',_,g1,pγ,g3⟩
    ·refine Qaa.moveC (p:= .np β k o) hsl hst (fun x hx=>by cases hx) (fun x hx=> ?_)
     have e1:x=β:=by simpa[PV.sref]using hx
     rw[e1];exact c0 _ hβ
   |nso β o n=>exact cell (p:= .nso β o n) hsl
   |rag cs=>
    obtain⟨vs,e1,h1,h3⟩:=hsl
    refine⟨vs,e1,by simpa using h1,fun k x hk=> ?_⟩
    simp only[List.getElem?_map,Option.map_eq_some_iff]at hk
    obtain⟨y,hy,rfl⟩:=hk
    exact cell (h3 k y hy)
   | nst β e' ty' ys=>
    simp only[Qef]
    split
    ·trivial
    ·rename_i hβ
     obtain⟨k0,he,b',hb,cur',cap',k1,k2,k3,k4,k5,k6,k7,k8,k9,k10,k11⟩:=hsl
     have hnc:∀(k:Nat)(x:PV),ys[k]? =some x->(Qdu (x.ncells.map (Qe7 γ))).ncells=x.ncells.map (Qe7 γ):=fun k x hx=>by
      refine Qr8 fun c hc=> ?_
      obtain⟨y,hy,rfl⟩:=List.mem_map.1 hc
      obtain⟨j,hj⟩:=List.getElem?_of_mem hy
      exact(cell (k11 k x hx j y hj)).one
     refine⟨k0,he,b',hb,cur',cap',k1,by rw[po β hβ];exact k2,k3,k4,k5,k6,k7,by simpa using k8,k9,fun k x hx=> ?_,fun k x hx j y hy=> ?_⟩
     ·simp only[List.getElem?_map,Option.map_eq_some_iff]at hx
      obtain⟨x0,hx0,rfl⟩:=hx
      rw[hnc k x0 hx0,List.length_map];exact k10 k x0 hx0
     ·simp only[List.getElem?_map,Option.map_eq_some_iff]at hx
      obtain⟨x0,hx0,rfl⟩:=hx
      rw[hnc k x0 hx0,List.getElem?_map,Option.map_eq_some_iff]at hy
      obtain⟨y0,hy0,rfl⟩:=hy
      exact cell (k11 k x0 hx0 j y0 hy0)
   | fn f a c=>
    simp only[Qef,Qa1]
    split
    ·trivial
    ·rename_i hn
     have hn':γ ∉ (PV.fn f a c).refs:=by simpa using hn
     by_cases hm:γ∈(PV.fn f a c).sref
     ·
      obtain⟨fv,cv,g1,g2,g3,g4,g5⟩:=hsl
      have cap1:∀ {x:PV} {v:Value},γ ∉ x.ref1->Qbv C ρ hp w x v->Qbv C ρ hp' w x v:=by
       intro x v hx h
       cases x with
       | np β k o=>
        by_cases hβ:β=γ
        ·subst hβ
         obtain⟨_,b',hb,k1,k2,k3⟩:=h
         rw[hγ]at k2;cases k2
         exact⟨bγ,b',_,k1,pγ,k3⟩
        ·exact Qbv.move (p:= .np β k o) h hst (fun x hx=>by cases hx) (fun x hx=>by simp[PV.nref1]at hx;subst hx;exact(c0 _ hβ).weak)
       |nso β o n=>
        exact cell (p:= .nso β o n) h
       |mp β k o=>exact Qbv.move (p:= .mp β k o) h hst (fun x hx'=>by simp[PV.ref1]at hx' hx;subst hx';exact(c0 _ (fun e=>hx e.symm)).o) (fun x hx=>by cases hx)
       |mso β k o=>exact Qbv.move (p:= .mso β k o) h hst (fun x hx'=>by simp[PV.ref1]at hx' hx;subst hx';exact(c0 _ (fun e=>hx e.symm)).o) (fun x hx=>by cases hx)
       |rb β k o=>exact Qbv.move (p:= .rb β k o) h hst (fun x hx'=>by simp[PV.ref1]at hx' hx;subst hx';exact(c0 _ (fun e=>hx e.symm)).o) (fun x hx=>by cases hx)
       |_=>exact Qbv.move h hst (fun x hx=>by cases hx) (fun x hx=>by cases hx)
      exact⟨fv,cv,g1,g2,g3,fun k x hk=>cap1 (fun hx=>hn' (Qja hk γ hx)) (g4 k x hk),fun k x hk=>cap1 (fun hx=>hn' (Qlm hk γ hx)) (g5 k x hk)⟩
     ·exact Qaa.moveC hsl hst (fun x hx=>(c0 x (fun e=>hn' (e▸hx))).o) (fun x hx=>c0 x (fun e=>hm (e▸hx)))
   |_=>exact Qaa.moveC hsl hst (fun x hx=>by cases hx) (fun x hx=>by cases hx)
theorem Q0i{γ e ty:Nat}{xs xs':List PV}(D:Nat->Option (Nat×Nat))(hfr:fr γ= .nst γ e ty xs)(hD:∀δ x,D δ=some x->hp δ=none/\2000000<=δ/\0<x.1)(hl:xs'.length=xs.length)
  (hx:∀(i:Nat)(x x':PV),xs[i]? =some x->xs'[i]? =some x'->x'.ncells.length=x.ncells.length/\∀(j:Nat)(y y':PV),x.ncells[j]? =some y->x'.ncells[j]? =some y'->y'=y∨(y= .nilS/\∃δ z,D δ=some z/\y'= .mso δ 0 0)):
  Wk fr hp (upd fr γ (.nst γ e ty xs')) (fun δ=>match D δ with|some x=>some ⟨x.1,x.2,[],false⟩|none=>hp δ):=by
 rintro C tmps w ⟨ρ,hs⟩
 obtain⟨hp',hpE⟩:∃f:HP,f=fun δ=>match D δ with|some x=>some ⟨x.1,x.2,[],false⟩|none=>hp δ:=⟨_,rfl⟩
 obtain⟨ρ',hρE⟩:∃f:Nat->Option Nat,f=fun δ=>if(D δ).isSome then none else ρ δ:=⟨_,rfl⟩
 rw[<-hpE]
 have pD:∀δ x,D δ=some x->hp' δ=some ⟨x.1,x.2,[],false⟩/\ρ' δ=none:=fun δ x hδ=>by rw[hpE,hρE];simp[hδ]
 have po:∀δ,D δ=none->hp' δ=hp δ/\ρ' δ=ρ δ:=fun δ hδ=>by rw[hpE,hρE];simp[hδ]
 have hk:∀β,hp β≠none->D β=none:=fun β hβ=>by
  cases hq:D β with
  |none=>rfl
  |some x=>exact absurd (hD β x hq).1 hβ
 have hX:∀c,Xof C ρ' hp' c->Xof C ρ hp c:=by
  rintro c (h|⟨β,hb,g1,g2,g3⟩)
  ·exact .inl h
  ·cases hq:D β with
   |none=>rw[(po β hq).1]at g1;rw[(po β hq).2]at g3;exact .inr ⟨β,hb,g1,g2,g3⟩
   |some x=>rw[(pD β x hq).2]at g3;cases g3
 have hst:Qh2 w w (Xof C ρ hp) (Xof C ρ' hp'):=⟨fun _ _ _=>rfl,fun c _ hn h=>hn (hX c h),Nat.le_refl _⟩
 have c0:∀β,hp β≠none->Cnd ρ ρ' hp hp' w w β:=fun β hβ=>⟨(po β (hk β hβ)).2,fun hb hq=>⟨hb,by rw[(po β (hk β hβ)).1];exact hq,rfl,Nat.le_refl _,fun _ _ _ h=>h,fun h=>⟨h,rfl,fun _ _=>rfl⟩⟩⟩
 refine⟨ρ',hs.sz,hs.ext,hs.keep,fun β hb hβ=> ?_,fun β δ c g1 g2 g3 g4=> ?_,fun i=> ?_⟩
 ·cases hq:D β with
  |some x=>
   rw[(pD β x hq).1]at hβ;cases hβ
   obtain⟨_,d2,d3⟩:=hD β x hq
   refine⟨d3,(fun i x hx=>by simp at hx),?_,(fun h=>by simp[isY]at h;omega),fun h=>by simp[isR]at h;omega⟩
   rw[(pD β x hq).2]
  |none=>
   rw[(po β hq).1]at hβ
   obtain⟨q1,q2,q3,q4,q5⟩:=hs.own β hb hβ
   refine⟨q1,q2,?_,(by rw[(po β hq).2];exact q4),q5⟩
   rw[(po β hq).2]
   cases hr:ρ β with
   |none=>rw[hr]at q3;exact q3
   |some c=>rw[hr]at q3;exact⟨q3.1,q3.2.1,q3.2.2.move rfl rfl rfl rfl hst.rc⟩
 ·have f:∀β,hp' β≠none->∀c,ρ' β=some c->hp β≠none/\ρ β=some c:=fun β hβ c hc=>by
   cases hq:D β with
   |none=>rw[(po β hq).1]at hβ;rw[(po β hq).2]at hc;exact⟨hβ,hc⟩
   |some x=>rw[(pD β x hq).2]at hc;cases hc
  exact hs.inj β δ c (f β g1 c g3).1 (f δ g2 c g4).1 (f β g1 c g3).2 (f δ g2 c g4).2
 ·have hkn:=(hs.slots i).known
  have old:Qaa C ρ' hp' w (fr i) (tmps.getD i undef):=(hs.slots i).moveC hst (fun β hβ=>(c0 β (hkn.1 β hβ)).o) (fun β hβ=>c0 β (hkn.2 β hβ))
  unfold upd
  split
  ·rename_i hi;subst hi
   rw[hfr]at old
   obtain⟨k0,he,b',hb,cur',cap',k1,k2,k3,k4,k5,k6,k7,k8,k9,k10,k11⟩:=old
   have hget:∀(k:Nat)(x':PV),xs'[k]? =some x'->∃x,xs[k]? =some x:=fun k x' hk'=>by
    have:k<xs.length:=by have:=(List.getElem?_eq_some_iff.1 hk').1;omega
    exact⟨_,List.getElem?_eq_getElem this⟩
   refine⟨k0,he,b',hb,cur',cap',k1,k2,k3,k4,k5,k6,k7,by omega,k9,fun k x' hk'=> ?_,fun k x' hk' j y' hy'=> ?_⟩
   ·obtain⟨x,hxk⟩:=hget k x' hk'
    rw[(hx k x x' hxk hk').1];exact k10 k x hxk
   ·obtain⟨x,hxk⟩:=hget k x' hk'
    obtain⟨l1,l2⟩:=hx k x x' hxk hk'
    have hj:j<x.ncells.length:=by have:=(List.getElem?_eq_some_iff.1 hy').1;omega
    have hy:=List.getElem?_eq_getElem hj
    have hr:=k11 k x hxk j _ hy
    rcases l2 j _ y' hy hy' with e1|⟨e1,δ,z,e2,e3⟩
    ·rw[e1];exact hr
    ·rw[e1]at hr
     obtain⟨_,d2,_⟩:=hD δ z e2
     rw[e3]
     have hv:cur'.getD (k*e+j) undef= .slice none 0 0:=by
      generalize cur'.getD (k*e+j) undef=u at hr
      cases hr;rfl
     exact⟨by simp[isB];omega,_,(pD δ z e2).1,Nat.le_refl _,.inl ⟨(pD δ z e2).2,hv,rfl,rfl⟩⟩
  ·exact old
def mkA:List PV->PV
 | [c]=>c
 |cs=> .agg cs
def dsn(fr:Fr)(hp:HP):Nat->PV->PV
 |0,p=>p
 | k+1,p=>match p with
  | .mso β o n=>match hp β with
   |some hb=> .sl hb.e ((hb.xs.drop o).take n)
   |none=> .undef
  | .nso γ o n=>match fr γ with
   | .nst _ e _ xs=> .sl e (((xs.drop o).take n).map fun x=>mkA (x.ncells.map (dsn fr hp k)))
   |_=> .undef
  |p=>p
def rch(fr:Fr):Nat->PV->List Nat
 |0,_=>[]
 | k+1,p=>match p with
  | .mso β _ _=>[β]
  | .nso γ o n=>match fr γ with
   | .nst _ _ _ xs=>γ::(((xs.drop o).take n).flatMap fun x=>x.ncells.flatMap (rch fr k))
   |_=>[]
  |_=>[]
def okD(fr:Fr):Nat->PV->Prop
 |0,p=>match p with
  | .undef| .mso _ _ _| .nso _ _ _=>False
  |_=>True
 | k+1,p=>match p with
  | .undef=>False
  | .mso β _ _=>isY β=false
  | .nso γ o n=>match fr γ with
   | .nst γ' _ _ xs=>γ'=γ/\isY γ=false/\o+n<=xs.length/\∀x∈(xs.drop o).take n,∀c∈x.ncells,okD fr k c
   |_=>False
  |_=>True
theorem Qakd{tmps:Array Value}(h:Qah C ρ fr hp tmps w){β b:Nat}{hb:HB}{l:List Nat}(hB:isY β=false)(hβ:hp β=some hb)(hl:β∈l)(hρ:ρ β=some b):¬Xof C ρ (Qaq hp l) b:=by
 have hblk:=(h.own β hb hβ).blk
 rw[hρ]at hblk
 rintro(hx|⟨γ,hg,h1,h2,h3⟩)
 ·exact Ctx.cls_notX hblk.1 (Qne hB) hx
 ·obtain⟨hg0,g1,_,_,_,_,g6⟩:=Qhm h1
  have:=h.inj γ β b (by simp[g1]) (by simp[hβ]) h3 hρ
  subst this
  exact g6 h2 hl
theorem Q9q{cs:List PV}(h:∀c∈cs,c.cells=[c]):(mkA cs).cells=cs:=by
 match cs,h with
 | [],_=>rfl
 | [c],h=>exact h c (by simp)
 |_::_::_,_=>rfl
theorem Qwi{tmps:Array Value}(h:Qah C ρ fr hp tmps w){l:List Nat}:∀(k:Nat) {p:PV} {v:Value},Qb6 C ρ hp w p v->okD fr k p->(∀β∈rch fr k p,β∈l)->Qae w (Xof C ρ (Qaq hp l)) (dsn fr hp k p) v
 |0,p,v,hr,ho,_=>by
  cases p with
  |undef=>cases ho
  |mso=>cases ho
  |nso=>cases ho
  |_=>exact Qae.freeze hr
 | k +1,p,v,hr,ho,hl=>by
  cases p with
  |undef=>cases ho
  |mso β o n=>
   obtain⟨hb,hβ⟩:∃hb,hp β=some hb:=by obtain⟨_,hb,h1,_⟩:=hr;exact⟨hb,h1⟩
   have:=Qez.snap h hr.2 ho (hl β (by simp[rch])) hβ
   simp only[dsn,hβ];exact this
  | nso γ o n=>
   simp only[okD]at ho
   split at ho
   ·rename_i γ' e ty xs hγ
    obtain⟨rfl,hY,ho1,ho2⟩:=ho
    have hsl:=h.slots γ'
    rw[hγ]at hsl
    obtain⟨k0,he,b,hb,cur,cap,k1,k2,k3,k4,k5,k6,k7,k8,k9,k10,k11⟩:=hsl
    obtain⟨_,hb2,b2,cap2,g1,g2,rfl,g4,g5,g6⟩:=hr
    rw[k2]at g1;cases g1
    rw[k1]at g2;cases g2
    have hmem:γ'∈l:=hl γ' (by simp[rch,hγ])
    have hX:=Qakd (l:=l) h hY k2 hmem k1
    have hlt:=(Array.getElem?_eq_some_iff.1 k6).1
    obtain⟨cur',ty',d1,d2⟩:=g4
    rw[k6]at d1;cases d1
    rw[k4]at d2
    have hcc:cap=o+cap2:=Nat.eq_of_mul_eq_mul_right he (by rw[<-k7,<-d2])
    have key:∀i (x:PV),((xs.drop o).take n)[i]? =some x->i<n/\xs[o+i]? =some x:=fun i x hx=>by
     have hi:i<n:=by have:=(List.getElem?_eq_some_iff.1 hx).1;simp at this;omega
     rw[List.getElem?_take_of_lt hi,List.getElem?_drop]at hx
     exact⟨hi,hx⟩
    have cel:∀i (x:PV),((xs.drop o).take n)[i]? =some x->∀j (y:PV),x.ncells[j]? =some y->Qae w (Xof C ρ (Qaq hp l)) (dsn fr hp k y) (cur.getD ((o+i)*e+j) undef):=fun i x hx j y hy=>by
     have hxm:=List.mem_of_getElem? hx
     refine Qwi h k (k11 (o+i) x (key i x hx).2 j y hy) (ho2 x hxm y (List.mem_of_getElem? hy)) fun β hβ=>hl β ?_
     simp only[rch,hγ]
     exact List.mem_cons_of_mem _ (List.mem_flatMap.2 ⟨x,hxm,List.mem_flatMap.2 ⟨y,List.mem_of_getElem? hy,hβ⟩⟩)
    have hnc:∀i (x:PV),((xs.drop o).take n)[i]? =some x->(mkA (x.ncells.map (dsn fr hp k))).cells=x.ncells.map (dsn fr hp k):=fun i x hx=>by
     refine Q9q fun c hc=> ?_
     obtain⟨y,hy,rfl⟩:=List.mem_map.1 hc
     obtain⟨j,hj⟩:=List.getElem?_of_mem hy
     exact(cel i x hx j y hj).oneCell.2.2
    simp only[dsn,hγ]
    have hlen:(((xs.drop o).take n).map fun x=>mkA (x.ncells.map (dsn fr hp k))).length=n:=by simp;omega
    have:=Qae.sl (w:=w) (X:=Xof C ρ (Qaq hp l)) e (((xs.drop o).take n).map fun x=>mkA (x.ncells.map (dsn fr hp k))) b (o*hb.e) cap2 (fun i j=>cur.getD ((o+i)*e+j) undef) hX hlt (by omega) (by omega)
     (fun i x hx=>by
      simp only[List.getElem?_map,Option.map_eq_some_iff]at hx
      obtain⟨x0,hx0,rfl⟩:=hx
      rw[hnc i x0 hx0,List.length_map];exact k10 _ x0 (key i x0 hx0).2)
     (fun i hi j hj=>by
      rw[hlen]at hi
      rw[k4]
      have:=Qfs (i:=o+i) (e:=e) (o:=0) (j:=j) (n:=e) (cap:=cap) (by omega) (by omega) hj
      rw[Nat.add_zero]at this
      rw[show o*e+i*e+j=(o+i)*e+j by rw[Nat.add_mul]]
      exact Qby k6 (by rw[k7];exact this))
     (fun i x hx j y hy=>by
      simp only[List.getElem?_map,Option.map_eq_some_iff]at hx
      obtain⟨x0,hx0,rfl⟩:=hx
      rw[hnc i x0 hx0,List.getElem?_map,Option.map_eq_some_iff]at hy
      obtain⟨y0,hy0,rfl⟩:=hy
      exact cel i x0 hx0 j y0 hy0)
    rw[hlen]at this
    exact this
   ·exact ho.elim
  |_=>exact Qae.freeze hr
def Ql2(fr:Fr)(hp:HP)(k:Nat):PV->PV
 | .rag cs=> .agg (cs.map (dsn fr hp k))
 |p=>dsn fr hp k p
def Qwj(fr:Fr)(k:Nat):PV->List Nat
 | .rag cs=>cs.flatMap (rch fr k)
 |p=>rch fr k p
def Qqq(fr:Fr)(k:Nat):PV->Prop
 | .rag cs=>∀c∈cs,okD fr k c
 | .nso γ o n=>okD fr k (.nso γ o n)
 |_=>False
theorem Q0j(s k:Nat)(ho:Qqq fr k (fr s)):Wk fr hp (upd fr s (Ql2 fr hp k (fr s))) (Qaq hp (Qwj fr k (fr s))):=by
 rintro C tmps w ⟨ρ,hs⟩
 have hf:=hs.freeze (Qwj fr k (fr s))
 refine⟨ρ,hf.sz,hf.ext,hf.keep,hf.own,hf.inj,fun i=> ?_⟩
 unfold upd
 split
 ·rename_i hi;subst hi
  have hsl:=hs.slots i
  generalize hp0:fr i=p at *
  cases p with
  |rag cs=>
   obtain⟨vs,e1,h1,h2⟩:=hsl
   refine⟨vs,e1,by simpa using h1,fun j x hj=> ?_⟩
   simp only[List.getElem?_map,Option.map_eq_some_iff]at hj
   obtain⟨y,hy,rfl⟩:=hj
   exact Qwi hs k (h2 j y hy) (ho y (List.mem_of_getElem? hy)) fun β hβ=>List.mem_flatMap.2 ⟨y,List.mem_of_getElem? hy,hβ⟩
  |nso γ o n=>
   have:=Qwi (l:=rch fr k (.nso γ o n)) hs k (p:= .nso γ o n) hsl ho (fun β hβ=>hβ)
   exact Qaa.ofData (Qas.of_c this)
  |_=>cases ho
 ·exact hf.slots i
end Go.FW
namespace Go.FW
open Go
variable {C : Ctx} {ρ : Nat -> Option Nat} {fr fr' : Fr} {hp hp' : HP} {w w' : World} {K R : Qp}
def Qm6(args:List PV)(G:Fr):Fr:=fun s=>if s<1000000 then(args[s]?).getD .undef else G s
def Qf4(r:PV)(F:Fr):Fr:=fun s=>if s=0 then r else if s<1000000 then .undef else F s
def Ctx.setN(C:Ctx)(n:Nat)(hn:n<=1000000):Ctx:={ C with N:=n,hN:=hn }
theorem Qn2.setN{C:Ctx}{n:Nat}{hn:n<=1000000}{β:Nat}{hb:HB}:Qn2 (C.setN n hn) ρ hp w β hb↔Qn2 C ρ hp w β hb:=⟨fun h=>⟨h.epos,h.len,h.blk,h.fix,h.ro⟩,fun h=>⟨h.epos,h.len,h.blk,h.fix,h.ro⟩⟩
def Qcv(P:Program)(f:FuncId)(args:List PV)(G:Fr)(hp0:HP)(Post:PV->Fr->HP->Prop):Prop:=
 Qlt P f/\∀(C:Ctx)(ρ:Nat->Option Nat)(vals:Array Value)(w:World),C.P=P->C.w0=w->C.N=args.length->Qah C ρ (Qm6 args G) hp0 vals w->
  Calls P f vals w fun e w'=>∃v ρ' r F H,e= .returned v/\Qah (C.setN 1 (by decide)) ρ' (Qf4 r F) H #[v] w'/\Post r F H
def Ql3(rs:List RV)(Post:PV->Fr->HP->Prop):Qp:=fun fr hp=>∃fr' hp',Wk fr hp fr' hp'/\
 (Qdv rs (fun r=>Post r fr' (Qaq hp' (rs.flatMap (lr fr')))) fr' hp'∨∃s,rs=[.t s]/\Post (fr' s) fr' hp')
theorem Qfd{rs:List RV}{Post:PV->Fr->HP->Prop}(h:Qdv rs (fun r=>Post r fr (Qaq hp (rs.flatMap (lr fr)))) fr hp):Ql3 rs Post fr hp:=⟨fr,hp,Wk.refl _ _,.inl h⟩
theorem Qake{rs:List RV}{Post:PV->Fr->HP->Prop}{fr0:Fr}{hp0:HP}(hw:Wk fr hp fr0 hp0)(h:Ql3 rs Post fr0 hp0):Ql3 rs Post fr hp:=by
 obtain⟨f,h',h1,h2⟩:=h
 exact⟨f,h',hw.trans h1,h2⟩
theorem Q0k{s:Nat}{Post:PV->Fr->HP->Prop}(h:Post (fr s) fr hp):Ql3 [.t s] Post fr hp:=⟨fr,hp,Wk.refl _ _,.inr ⟨s,rfl,h⟩⟩
theorem Qakf{rs:List RV}{Post:PV->Fr->HP->Prop}:KM (Ql3 rs Post) (Ql3 rs Post):=by
 rintro f f' hp hf ⟨fr',hp',h1,h2⟩
 exact⟨fr',hp',hf.wk.trans h1,h2⟩
theorem Ql{rs:List RV}{Post:PV->Fr->HP->Prop}:Qd9 (Ql3 rs Post) []:=⟨Qakf,.nil⟩
theorem Qfe {P : Program} {f : FuncId} {fn : Func} {sf : SFn} {args : List PV} {G : Fr} {hp0 : HP} {Post : PV -> Fr -> HP -> Prop} (hm : P.follows .mixedOrders = true) (hf : P.funcs[f]? = some fn) (hname : (fn.name != "runtime.NumGoroutine") = true) (hc : Qe P fn = some sf.strip) (hn : args.length <= sf.n /\ sf.n <= 1000000)
  (hv:∀C:Ctx,C.P=P->vc C (Ql3 sf.rs Post) [.c sf.body] (Qm6 args G) hp0):Qcv P f args G hp0 Post:=by
 simp only[Qe,Option.bind_eq_some_iff,Option.map_eq_some_iff]at hc
 obtain⟨c,hb,sb,hcb,rs,hrs,hsf⟩:=hc
 obtain⟨n,rs',body⟩:=sf
 simp only[SFn.strip,SFn.mk.injEq]at hsf
 obtain⟨rfl,rfl,rfl⟩:=hsf
 refine⟨by simp[Qlt,hf,hb];simpa using hname,fun C ρ vals w hP hw hN hs=> ?_⟩
 subst hP
 refine calls_of_wp hf hb ?_
 have hvs:vals.size=args.length:=by rw[hs.sz,hN]
 have hsz':(vals++Array.replicate (fn.ntmps-vals.size) undef).size=fn.ntmps:=by simp at hn ⊢;omega
 have hsim:Qah (C.setN fn.ntmps hn.2) ρ (Qm6 args G) hp0 (vals++Array.replicate (fn.ntmps-vals.size) undef) w:=by
  refine⟨hsz',hs.ext,hs.keep,fun β hb h=>Qn2.setN.2 (hs.own β hb h),hs.inj,fun i=> ?_⟩
  have hsl:=hs.slots i
  by_cases hi:i<args.length
  ·have e:(vals++Array.replicate (fn.ntmps-vals.size) undef).getD i undef=vals.getD i undef:=by
    rw[Qch,if_pos (by omega)]
   rw[e];exact hsl
  ·unfold Qm6 at hsl⊢
   split
   ·rw[List.getElem?_eq_none (by omega)];trivial
   ·rename_i h2
    rw[if_neg h2]at hsl
    have e1:vals.getD i undef=undef:=by simp[Array.getD,hvs,hi]
    have e2:(vals++Array.replicate (fn.ntmps-vals.size) undef).getD i undef=undef:=by
     simp only[Array.getD];rw[dif_neg (by rw[hsz'];simp at hn;omega)]
    rw[e2];rw[e1]at hsl;exact hsl
 have fin:∀(fr:Fr) (hp:HP) (a:Act) (w':World),a.defers=[]->Sim (C.setN fn.ntmps hn.2) fr hp a.tmps w'->Ql3 rs Post fr hp->
   a.defers=[]/\∃v,(results fn a.tmps).run C.P w'= .ok v w'/\∃v' ρ' r F H,Ending.returned v= .returned v'/\Qah (C.setN 1 (by decide)) ρ' (Qf4 r F) H #[v'] w'/\Post r F H:=by
  rintro fr hp a w' hd hs0 ⟨fr1,hp1,hw1,hr⟩
  obtain⟨ρ1,hs1⟩:=hw1 _ _ _ hs0
  have ghost:∀ {hp2:HP} {r:PV} {v:Value},Qah (C.setN fn.ntmps hn.2) ρ1 fr1 hp2 a.tmps w'->Qaa C ρ1 hp2 w' r v->Qah (C.setN 1 (by decide)) ρ1 (Qf4 r fr1) hp2 #[v] w':=by
   intro hp2 r v hs2 hv2
   refine⟨rfl,hs2.ext,hs2.keep,fun β hb h=>Qn2.setN.2 (Qn2.setN.1 (hs2.own β hb h)),hs2.inj,fun i=> ?_⟩
   unfold Qf4
   split
   ·rename_i hi;subst hi;exact hv2
   ·split
    ·trivial
    ·rename_i h0 h1
     have hsl:=hs2.slots i
     have e1:a.tmps.getD i undef=undef:=by
      have hz:a.tmps.size=fn.ntmps:=hs2.sz
      have hn2:fn.ntmps<=1000000:=hn.2
      simp only[Array.getD];rw[dif_neg (by omega)]
     have e2:(#[v]:Array Value).getD i undef=undef:=by
      simp only[Array.getD];rw[dif_neg (by simp;omega)]
     rw[e2];rw[e1]at hsl;exact hsl
  rcases hr with hr|⟨s,hrs1,hpost⟩
  ·obtain⟨v,r,h1,h2,_,h3⟩:=Qoa (C:=C.setN fn.ntmps hn.2) rfl hrs hs1 hr
   refine⟨hd,v,h1,v,ρ1,r,fr1,_,rfl,ghost (hs1.freeze _) (Qaa.ofV h2),h3⟩
  ·subst hrs1
   obtain⟨x,hx⟩:∃x,fn.results.toList=[x]:=by
    have:=Qdt hrs
    exact List.length_eq_one_iff.1 (by rw[<-this.1];rfl)
   have hx2:Qb1 C.P x=some (.t s):=by
    rw[hx]at hrs
    simp only[List.mapM_cons,List.mapM_nil,Option.bind_eq_bind,Option.pure_def,Option.bind_eq_some_iff,Option.some.injEq]at hrs
    obtain⟨y,h1,_,_,h2⟩:=hrs
    simp only[List.cons.injEq]at h2
    rw[<-h2.1];exact h1
   have hx3:x= .tmp s:=by
    cases x with
    |tmp t=>simpa[Qb1]using hx2
    |cell y t=>simp[Qb1,Option.bind_eq_some_iff]at hx2
   subst hx3
   have hres:(results fn a.tmps).run C.P w'= .ok (a.tmps.getD s undef) w':=by
    have e:results fn a.tmps=(do let vs<-fn.results.mapM (Qlu a.tmps);pure (if h:vs.size=1 then vs[0]else .tuple vs)):=rfl
    rw[e,Array.mapM_eq_mapM_toList,hx]
    simp[Sem.run_bind,Qlu]
   exact⟨hd,_,hres,_,ρ1,_,fr1,hp1,rfl,ghost hs1 (hs1.slots s),hpost⟩
 exact Qm0 (C:=C.setN fn.ntmps hn.2) (R:=Ql3 rs Post) hm c body [] _ (Qm6 args G) hp0 _ w hcb ⟨fun fr hp a w' hd hs hv=>(by rw[Qj6]at hv;exact fin fr hp a w' hd hs hv),fun id sk' he=>(by simp[FW.Qat]at he),fin⟩ rfl ⟨ρ,hsim⟩ (hv (C.setN fn.ntmps hn.2) rfl)
structure Qo0(C:Ctx)(hp:HP)(hp0:HP)(gv:Nat->Option Nat):Prop where
 g:∀β γ,gv β=some γ->∃hb,hp γ=some hb/\isB β=true/\(isR β=true->hp0 β=some ⟨hb.e,hb.ty,hb.xs,true⟩)/\(isR β=false->hp0 β=some hb/\hb.fz=false/\isB γ=true/\(isY β=false->isY γ=false))
 a:∀β,hp0 β≠none->∃γ,gv β=some γ
 i:∀β β' γ,gv β=some γ->gv β'=some γ->β=β'
def gn(gv:Nat->Option Nat):Nat->Option Nat:=fun β=>if isR β=true then none else gv β
theorem Qlf{gv:Nat->Option Nat}{β γ:Nat}(h:gn gv β=some γ):isR β=false/\gv β=some γ:=by
 unfold gn at h
 split at h
 ·cases h
 ·rename_i hr;exact⟨by simpa using hr,h⟩
theorem Qmp{gv:Nat->Option Nat}{β:Nat}(h:isR β=false):gn gv β=gv β:=by unfold gn;rw[h];rfl
theorem Qo0.n{C:Ctx}{hp hp0:HP}{gv:Nat->Option Nat}(hh:Qo0 C hp hp0 gv)(β γ:Nat)(h:gn gv β=some γ):∃hb,hp0 β=some hb/\hp γ=some hb/\hb.fz=false/\isB β=true/\isB γ=true/\(isY β=false->isY γ=false):=by
 obtain⟨hr,h⟩:=Qlf h
 obtain⟨hb,h1,h2,_,h4⟩:=hh.g β γ h
 obtain⟨k1,k2,k3,k4⟩:=h4 hr
 exact⟨hb,k1,h1,k2,h2,k3,k4⟩
theorem Qo0.s{C:Ctx}{hp hp0:HP}{gv:Nat->Option Nat}(hh:Qo0 C hp hp0 gv)(β γ:Nat)(h:gv β=some γ):∃hb hb',hp γ=some hb/\hp0 β=some hb'/\hb'.e=hb.e/\hb'.ty=hb.ty/\hb'.xs=hb.xs/\(hb'.fz=false->hb=hb'/\isR β=false)/\(isR β=true->hb'.fz=true)/\isB β=true:=by
 obtain⟨hb,h1,h2,h3,h4⟩:=hh.g β γ h
 cases hr:isR β with
 |true=>exact⟨hb,_,h1,h3 hr,rfl,rfl,rfl,(fun h=>by cases h),fun _=>rfl,h2⟩
 |false=>
  obtain⟨k1,k2,_⟩:=h4 hr
  exact⟨hb,hb,h1,k1,rfl,rfl,rfl,(fun _=>⟨rfl,rfl⟩),(fun h=>by cases h),h2⟩
def Qqr (C:Ctx) (ρ:Nat->Option Nat) (fr:Fr) (hp hp0:HP) (tmps:Array Value) (w:World) (gv:Nat->Option Nat) (hs:Qah C ρ fr hp tmps w) (hh:Qo0 C hp hp0 gv) (n:Nat) (hn:n<=1000000):Ctx where
 P:=C.P
 N:=n
 w0:=w
 X0:=fun b=>Xof C ρ hp b/\¬∃β γ,gn gv β=some γ/\ρ γ=some b
 hX0:=fun b hb=>Qqa hs b hb.1
 hN:=hn
 fx:=fun β=>if isY β=true then(gv β).bind ρ else none
 hfx:=fun β b h=>by
  split at h
  ·cases hq:gv β with
   |none=>rw[hq]at h;cases h
   |some γ=>
    rw[hq]at h
    obtain⟨hb,h2,_⟩:=hh.g β γ hq
    have:=(hs.own γ hb h2).blk
    rw[show ρ γ=some b from h]at this
    exact⟨this.2.1,fun hr hx=>hx.2 ⟨β,γ,(Qmp hr).trans hq,h⟩⟩
  ·cases h
 Z0:=fun b=>∃β γ,gn gv β=some γ/\isY β=false/\ρ γ=some b
 hZ0:=fun b ⟨β,γ,h1,h2,h3⟩=>by
  obtain⟨hb,_,k2,_⟩:=hh.n β γ h1
  have:=(hs.own γ hb k2).blk
  rw[h3]at this
  refine⟨this.2.1,fun hx=>hx.2 ⟨β,γ,h1,h3⟩,fun β' hf=> ?_⟩
  split at hf
  ·rename_i hy
   cases hq:gv β' with
   |none=>rw[hq]at hf;cases hf
   |some γ'=>
    rw[hq]at hf
    obtain⟨hb',k2',_⟩:=hh.g β' γ' hq
    have e:=hs.inj γ γ' b (by simp[k2]) (by simp[k2']) h3 hf
    subst e
    have e2:=hh.i β β' γ (Qlf h1).2 hq
    subst e2
    rw[h2]at hy;cases hy
  ·cases hf
theorem Q6f{tmps:Array Value}{w:World}{hp0:HP}{gv:Nat->Option Nat}{τ:Nat->Nat}{args:List PV}{pargs:List PV}{G:Fr}{av:Array Value}(hs:Qah C ρ fr hp tmps w)(hh:Qo0 C hp hp0 gv)
  (hτ:∀β γ,gv β=some γ->τ γ=β) (hsz:av.size=args.length) (hargs:args.map (rnP τ)=pargs) (hav:∀(i:Nat)(x:PV),args[i]? =some x->Qaa C ρ hp w x (av.getD i undef))
  (hna:∀x∈args,∀γ∈x.refs++x.sref,∃β,gv β=some γ) (hG:∀s,1000000<=s->G s= .undef∨∃s',1000000<=s'/\G s=rnP τ (fr s')/\∀γ∈(fr s').refs++(fr s').sref,∃β,gv β=some γ) (hpl:pargs.length<=1000000):
  Qah (Qqr C ρ fr hp hp0 tmps w gv hs hh pargs.length hpl) (fun β=>(gv β).bind ρ) (Qm6 pargs G) hp0 av w:=by
 subst hargs
 have hX:∀b,Xof (Qqr C ρ fr hp hp0 tmps w gv hs hh (args.map (rnP τ)).length hpl) (fun β=>(gv β).bind ρ) hp0 b->Xof C ρ hp b:=by
  rintro b (hx|⟨β,hb,h1,h2,h3⟩)
  ·exact hx.1
  ·cases hq:gv β with
   |none=>simp only[hq]at h3;cases h3
   |some γ=>
    simp only[hq,Option.bind_some]at h3
    obtain⟨hb1,hb',k2,k1,_,_,_,k6,_⟩:=hh.s β γ hq
    rw[h1]at k1;cases k1
    exact .inr ⟨γ,hb1,k2,by rw[(k6 h2).1];exact h2,h3⟩
 have hr:∀γ,(∃β,gv β=some γ)->Rn1 τ ρ (fun β=>(gv β).bind ρ) hp hp0 γ:=fun γ ⟨β,hβ⟩=>by
  obtain⟨hb,hb2,k2,k1,k3,k4,k5,_,_,k8⟩:=hh.s β γ hβ
  refine⟨?_,fun hb' h'=> ?_,fun _=>by rw[hτ β γ hβ];exact k8⟩
  ·show(gv (τ γ)).bind ρ=ρ γ
   rw[hτ β γ hβ,hβ];rfl
  ·rw[k2]at h';cases h'
   exact⟨hb2,by rw[hτ β γ hβ];exact k1,k3,k4,k5⟩
 refine⟨by rw[hsz];simp[Qqr],Ext.refl _ _,fun _ _ _ _ _ h=>h,fun β hb hβ=> ?_,fun β δ b h1 h2 h3 h4=> ?_,fun i=> ?_⟩
 ·obtain⟨γ,hγ⟩:=hh.a β (by simp[hβ])
  obtain⟨hb1,hb',k2,k1,k3,k4,k5,k6,k7,_⟩:=hh.s β γ hγ
  rw[hβ]at k1;cases k1
  obtain⟨q1,q2,q3,q4,q5⟩:=hs.own γ hb1 k2
  refine⟨by rw[k3];exact q1,by rw[k3,k5];exact q2,?_,fun hy=> ?_,k7⟩
  ·simp only[hγ,Option.bind_some]
   cases hr:ρ γ with
   |none=>rw[hr]at q3;rw[k5];exact q3
   | some b=>
    rw[hr]at q3
    refine⟨?_,q3.2.1,q3.2.2.move rfl k3 k4 k5 fun q u hq=>Qae.sub hq hX⟩
    unfold Ctx.cls
    split
    ·rename_i hy
     show(if isY β=true then(gv β).bind ρ else none)=some b
     rw[if_pos hy,hγ];exact hr
    ·rename_i hy
     exact .inr ⟨β,γ,(Qmp (Qne (by simpa using hy))).trans hγ,by simpa using hy,hr⟩
  ·show(gv β).bind ρ=(if isY β=true then(gv β).bind ρ else none)
   rw[if_pos hy]
 ·obtain⟨γ1,e1⟩:=hh.a β h1
  obtain⟨γ2,e2⟩:=hh.a δ h2
  simp only[e1,Option.bind_some]at h3
  simp only[e2,Option.bind_some]at h4
  obtain⟨hb1,k1,_⟩:=hh.g β γ1 e1
  obtain⟨hb2,k2,_⟩:=hh.g δ γ2 e2
  have:=hs.inj γ1 γ2 b (by simp[k1]) (by simp[k2]) h3 h4
  subst this
  exact hh.i β δ γ1 e1 e2
 ·unfold Qm6
  split
  ·rw[List.getElem?_map]
   cases hi:args[i]? with
   |none=>trivial
   |some x=>
    simp only[Option.map_some,Option.getD_some]
    exact(hav i x hi).ren hX fun γ hγ=>hr γ (hna x (List.mem_of_getElem? hi) γ hγ)
  ·rename_i hi
   have e1:av.getD i undef=undef:=by
    simp only[Array.getD];rw[dif_neg (by simp at hpl;omega)]
   rcases hG i (by omega)with e|⟨s',hs',e,hn⟩
   ·rw[e];trivial
   ·rw[e,e1]
    have hsl:=hs.slots s'
    have e2:tmps.getD s' undef=undef:=by
     simp only[Array.getD];rw[dif_neg (by rw[hs.sz];have:=C.hN;omega)]
    rw[e2]at hsl
    exact hsl.ren hX fun γ hγ=>hr γ (hn γ hγ)
theorem Q9r{tmps:Array Value}{hp0 H hp2:HP}{gv eo:Nat->Option Nat}{σ:Nat->Nat}{F fr2:Fr}{r:PV}{v:Value}{d:Option Nat}{n:Nat}{hn:n<=1000000}{ρ2:Nat->Option Nat}(hs:Qah C ρ fr hp tmps w)(hh:Qo0 C hp hp0 gv)
  (h2:Qah ((Qqr C ρ fr hp hp0 tmps w gv hs hh n hn).setN 1 (by decide)) ρ2 (Qf4 r F) H #[v] w') (hd:∀x,d=some x->x<C.N)
  (e1:∀γ β,eo γ=some β->H β≠none/\σ β=γ/\isB γ=true/\((isY β=true/\gn gv β=some γ)∨(isY β=false/\isY γ=false/\(hp γ=none∨∃β',gn gv β'=some γ))))
  (e2:∀β γ,gn gv β=some γ->isY β=true->eo γ=some β)
  (q1:∀γ β,eo γ=some β->hp2 γ=H β) (q2:∀γ,eo γ=none->(∃β,gn gv β=some γ)->hp2 γ=none) (q3:∀γ,eo γ=none->(¬∃β,gn gv β=some γ)->hp2 γ=hp γ)
  (hS:∀s,fr2 s= .undef∨
   (d≠some s/\fr2 s=fr s/\(∀γ∈(fr s).refs++(fr s).sref,(¬∃β,gn gv β=some γ)∨∃β hb hb',gn gv β=some γ/\isY β=true/\hp γ=some hb/\H β=some hb'/\hb'.e=hb.e/\hb.xs.length<=hb'.xs.length)/\∀γ e ty xs,fr s= .nst γ e ty xs->¬∃β,gn gv β=some γ)∨
   (d=some s/\fr2 s=rnP σ r/\∀β∈r.refs++r.sref,eo (σ β)=some β)∨
   (∃s',1000000<=s'/\(∃γ e ty xs,F s'= .nst γ e ty xs)/\fr2 s=rnP σ (F s')/\∀β∈(F s').refs++(F s').sref,eo (σ β)=some β)):
  Sim C fr2 hp2 (Qp2 tmps d v) w':=by
 obtain⟨Yg,hYg⟩:∃f:Nat->Prop,f=fun b=>∃β γ,gn gv β=some γ/\ρ γ=some b:=⟨_,rfl⟩
 have yX:∀b,Yg b->Xof C ρ hp b:=fun b hb=>by
  rw[hYg]at hb
  obtain⟨β,γ,h1,h3⟩:=hb
  obtain⟨hb,_,k2,k3,_⟩:=hh.n β γ h1
  exact .inr ⟨γ,hb,k2,k3,h3⟩
 have hext:Ext Yg w w':=h2.ext.mono fun b _ hb=>by
  rw[hYg]
  rcases hb with⟨β,hr,hb⟩|⟨β,γ,h1,_,h3⟩
  ·have hb:(if isY β=true then(gv β).bind ρ else none)=some b:=hb
   split at hb
   ·cases hq:gv β with
    |none=>rw[hq]at hb;cases hb
    |some γ=>rw[hq]at hb;exact⟨β,γ,(Qmp hr).trans hq,hb⟩
   ·cases hb
  ·exact⟨β,γ,h1,h3⟩
 have ycls:∀b,Yg b->∃β γ,gn gv β=some γ/\ρ γ=some b/\C.cls γ b/\hp γ≠none/\isR γ=false:=fun b hb=>by
  rw[hYg]at hb
  obtain⟨β,γ,h1,h3⟩:=hb
  obtain⟨hb,_,k2,k3,_⟩:=hh.n β γ h1
  have:=(hs.own γ hb k2).blk
  rw[h3]at this
  refine⟨β,γ,h1,h3,this.1,by simp[k2],?_⟩
  cases hR:isR γ with
  |false=>rfl
  |true=>have:=(hs.own γ hb k2).ro hR;rw[k3]at this;cases this
 have nogive:∀γ b,hp γ≠none->(¬∃β,gn gv β=some γ)->ρ γ=some b->¬Yg b:=fun γ b hk hng hr hy=>by
  obtain⟨β,γ',h1,h3,_,h5,_⟩:=ycls b hy
  have:=hs.inj γ γ' b hk h5 hr h3
  subst this
  exact hng ⟨β,h1⟩
 have own2:∀β hb,H β=some hb->Qn2 (Qqr C ρ fr hp hp0 tmps w gv hs hh n hn) ρ2 H w' β hb:=fun β hb h=>Qn2.setN.1 (h2.own β hb h)
 have fixY:∀β γ,isY β=true->gn gv β=some γ->H β≠none->ρ2 β=ρ γ:=fun β γ hy hg hH=>by
  obtain⟨hb,hq⟩:=Option.ne_none_iff_exists'.1 hH
  have:=(own2 β hb hq).fix hy
  rw[this]
  show(if isY β=true then(gv β).bind ρ else none)=ρ γ
  rw[if_pos hy,(Qlf hg).2];rfl
 have clsN:∀β hb b,isY β=false->H β=some hb->ρ2 β=some b->w.heap.size<=b∨Yg b:=fun β hb b hy hH hr=>by
  have:=(own2 β hb hH).blk
  rw[hr]at this
  rcases Ctx.cls_N this.1 hy with h|⟨β',γ',k1,_,k3⟩
  ·exact .inl h
  ·exact .inr (by rw[hYg];exact⟨β',γ',k1,k3⟩)
 have clsNN:∀β hb b,isY β=false->H β=some hb->ρ2 β=some b->C.w0.heap.size<=b∨C.Z0 b:=fun β hb b hy hH hr=>by
  have:=(own2 β hb hH).blk
  rw[hr]at this
  rcases Ctx.cls_N this.1 hy with h|⟨β',γ',k1,k2,k3⟩
  ·exact .inl (Nat.le_trans hs.ext.size h)
  ·obtain⟨hb',_,l2,_,_,_,l6⟩:=hh.n β' γ' k1
   have:=(hs.own γ' hb' l2).blk
   rw[k3]at this
   exact Ctx.cls_N this.1 (l6 k2)
 obtain⟨ρ',hρ⟩:∃f:Nat->Option Nat,f=fun γ=>match eo γ with|some β=>ρ2 β|none=>ρ γ:=⟨_,rfl⟩
 have rs:∀γ β,eo γ=some β->ρ' γ=ρ2 β:=fun γ β h=>by rw[hρ];simp[h]
 have rn:∀γ,eo γ=none->ρ' γ=ρ γ:=fun γ h=>by rw[hρ];simp[h]
 have hXs:∀b,Xof C ρ' hp2 b->Xof (Qqr C ρ fr hp hp0 tmps w gv hs hh n hn) ρ2 H b:=by
  rintro b (hx|⟨γ,hb,h1,h3,h4⟩)
  ·refine .inl ⟨.inl hx,fun hy=> ?_⟩
   obtain⟨_,γ,_,_,h5,_,h7⟩:=ycls b (by rw[hYg];exact hy)
   exact Ctx.cls_notX h5 h7 hx
  ·cases hq:eo γ with
   |some β=>rw[q1 γ β hq]at h1;rw[rs γ β hq]at h4;exact .inr ⟨β,hb,h1,h3,h4⟩
   | none=>
    rw[rn γ hq]at h4
    by_cases hg:∃β,gn gv β=some γ
    ·rw[q2 γ hq hg]at h1;cases h1
    ·rw[q3 γ hq hg]at h1
     exact .inl ⟨.inr ⟨γ,hb,h1,h3,h4⟩,fun hy=>nogive γ b (by simp[h1]) hg h4 (by rw[hYg];exact hy)⟩
 have hXb:∀b,b<w.heap.size->Xof C ρ' hp2 b->Xof C ρ hp b:=fun b hb hx=>by
  rcases hXs b hx with hx|⟨β,hbk,h1,h3,h4⟩
  ·exact hx.1
  ·by_cases hy:isY β=true
   ·have:=(own2 β hbk h1).fix hy
    rw[h4]at this
    have this:some b=(if isY β=true then(gv β).bind ρ else none):=this
    rw[if_pos hy]at this
    have hR:isR β=false:=by
     cases hR:isR β with
     |false=>rfl
     |true=>have:=(own2 β hbk h1).ro hR;rw[h3]at this;cases this
    cases hq:gv β with
    |none=>rw[hq]at this;cases this
    |some γ=>rw[hq]at this;exact yX b (by rw[hYg];exact⟨β,γ,(Qmp hR).trans hq,this.symm⟩)
   ·rcases clsN β hbk b (by simpa using hy) h1 h4 with h|h
    ·omega
    ·exact yX b h
 have hst:Qh2 w w' (Xof C ρ hp) (Xof C ρ' hp2):=⟨fun b hb hnx=>hext.block b hb fun hy=>hnx (yX b hy),fun b hb hnx hx=>hnx (hXb b hb hx),hext.size⟩
 have capK:∀β γ b,isY β=true->gn gv β=some γ->ρ γ=some b->∀e cap,Qbm w b e cap->Qbm w' b e cap:=fun β γ b hy hg hr e cap hc=>by
  refine h2.keep β b ?_ e cap hc
  show(if isY β=true then(gv β).bind ρ else none)=some b
  rw[if_pos hy,(Qlf hg).2];exact hr
 refine⟨ρ',?_,?_,fun β b hb e cap hc=> ?_,fun γ hb hγ=> ?_,fun γ δ b g1 g2 g3 g4=> ?_,fun s=> ?_⟩
 ·cases d with
  |none=>exact hs.sz
  |some d=>simp only[Qp2];simpa using hs.sz
 ·refine hs.ext.trans' hext fun b hb hy=> ?_
  obtain⟨_,_,_,_,h5,_,h7⟩:=ycls b hy
  exact(Ctx.cls_or h5 h7).resolve_left (by omega)
 ·have h1:=hs.keep β b hb e cap hc
  by_cases hy:Yg b
  ·obtain⟨β1,γ1,k1,k3,k4,k5,_⟩:=ycls b hy
   by_cases hY:isY β1=true
   ·exact capK β1 γ1 b hY k1 k3 e cap h1
   ·obtain⟨_,_,_,_,_,_,l6⟩:=hh.n β1 γ1 k1
    exact absurd hb (Ctx.N_fx (Ctx.cls_N k4 (l6 (by simpa using hY))))
  ·exact Qcg (hext.block b (Qdi h1) hy) h1
 ·cases hq:eo γ with
  | some β=>
   have hH:H β=some hb:=by rw[<-q1 γ β hq];exact hγ
   obtain⟨k1,k2,k3,k4⟩:=e1 γ β hq
   obtain⟨o1,o2,o3,o4,o5⟩:=own2 β hb hH
   refine⟨o1,o2,?_,fun hy=> ?_,fun hR=> ?_⟩
   ·rw[rs γ β hq]
    cases hr:ρ2 β with
    |none=>rw[hr]at o3;exact o3
    | some b=>
     rw[hr]at o3
     refine⟨?_,o3.2.1,o3.2.2.move rfl rfl rfl rfl fun q u hq=>Qae.sub hq hXs⟩
     rcases k4 with⟨k4,k5⟩|⟨k4,k5,_⟩
     ·have e:=fixY β γ k4 k5 k1
      rw[hr]at e
      obtain⟨hb',_,l2,_⟩:=hh.n β γ k5
      have:=(hs.own γ hb' l2).blk
      rw[<-e]at this
      exact this.1
     ·exact Ctx.cls_mk (clsNN β hb b k4 hH hr) k5
   ·rcases k4 with⟨k4,k5⟩|⟨_,k5,_⟩
    ·rw[rs γ β hq,fixY β γ k4 k5 k1]
     obtain⟨hb',_,l2,_⟩:=hh.n β γ k5
     exact(hs.own γ hb' l2).fix hy
    ·rw[k5]at hy;cases hy
   ·rcases k4 with⟨k4,k5⟩|⟨_,k5,_⟩
    ·obtain⟨hb',_,l2,l3,_⟩:=hh.n β γ k5
     have:=(hs.own γ hb' l2).ro hR
     rw[l3]at this;cases this
    ·rw[Qne k5]at hR;cases hR
  | none=>
   by_cases hg:∃β,gn gv β=some γ
   ·rw[q2 γ hq hg]at hγ;cases hγ
   ·rw[q3 γ hq hg]at hγ
    obtain⟨o1,o2,o3,o4,o5⟩:=hs.own γ hb hγ
    refine⟨o1,o2,?_,(fun hy=>by rw[rn γ hq];exact o4 hy),o5⟩
    rw[rn γ hq]
    cases hr:ρ γ with
    |none=>rw[hr]at o3;exact o3
    |some b=>
     rw[hr]at o3
     exact⟨o3.1,Nat.lt_of_lt_of_le o3.2.1 hext.size,o3.2.2.move (hext.block b o3.2.1 (nogive γ b (by simp[hγ]) hg hr)) rfl rfl rfl hst.rc⟩
 ·have cross:∀γ δ β,eo γ=some β->eo δ=none->hp2 δ≠none->ρ2 β=some b->ρ δ=some b->False:=fun γ δ β h1 h3 h5 h6 h7=>by
   have hg:¬∃β,gn gv β=some δ:=fun hg=>h5 (q2 δ h3 hg)
   rw[q3 δ h3 hg]at h5
   obtain⟨k1,k2,k3,k4⟩:=e1 γ β h1
   obtain⟨hb,hH⟩:=Option.ne_none_iff_exists'.1 k1
   rcases k4 with⟨k4,k5⟩|⟨k4,k5,_⟩
   ·rw[fixY β γ k4 k5 k1]at h6
    obtain⟨hb',_,l2,_⟩:=hh.n β γ k5
    have:=hs.inj γ δ b (by simp[l2]) h5 h6 h7
    subst this
    exact hg ⟨β,k5⟩
   ·rcases clsN β hb b k4 hH h6 with h|h
    ·obtain⟨hb',hq⟩:=Option.ne_none_iff_exists'.1 h5
     have:=(hs.own δ hb' hq).blk
     rw[h7]at this
     omega
    ·exact nogive δ b h5 hg h7 h
  cases h1:eo γ with
  | some β=>
   rw[rs γ β h1]at g3
   cases h3:eo δ with
   |some β'=>
    rw[rs δ β' h3]at g4
    have:=h2.inj β β' b (e1 γ β h1).1 (e1 δ β' h3).1 g3 g4
    rw[<-(e1 γ β h1).2.1,<-(e1 δ β' h3).2.1,this]
   |none=>rw[rn δ h3]at g4;exact(cross γ δ β h1 h3 g2 g3 g4).elim
  | none=>
   rw[rn γ h1]at g3
   cases h3:eo δ with
   |some β'=>rw[rs δ β' h3]at g4;exact(cross δ γ β' h3 h1 g1 g4 g3).elim
   | none=>
    rw[rn δ h3]at g4
    have k:∀γ,eo γ=none->hp2 γ≠none->hp γ≠none:=fun γ h hq=>by
     by_cases hg:∃β,gn gv β=some γ
     ·exact absurd (q2 γ h hg) hq
     ·rwa[q3 γ h hg]at hq
    exact hs.inj γ δ b (k γ h1 g1) (k δ h3 g2) g3 g4
 ·have hr2:∀β,eo (σ β)=some β->Rn1 σ ρ2 ρ' H hp2 β:=fun β h=>⟨rs _ _ h,(fun hb hq=>⟨hb,by rw[q1 _ _ h];exact hq,rfl,rfl,rfl⟩),fun _=>(e1 _ _ h).2.2.1⟩
  rcases hS s with e|⟨k1,k2,k3,k4⟩|⟨k1,k2,k3⟩|⟨s',k1,k2,k3,k4⟩
  ·rw[e];trivial
  ·have hv:(Qp2 tmps d v).getD s undef=tmps.getD s undef:=by
    cases d with
    |none=>rfl
    |some x=>
     simp only[Qp2,Array.getD_eq_getD_getElem?]
     rw[Array.getElem?_setIfInBounds_ne (fun e=>k1 (by rw[e]))]
   rw[hv,k2]
   have hsl:=hs.slots s
   have hkn:=hsl.known
   have ful:∀γ,hp γ≠none->(¬∃β,gn gv β=some γ)->Cnd ρ ρ' hp hp2 w w' γ:=fun γ hk hg=>by
    have heo:eo γ=none:=by
     cases hq:eo γ with
     |none=>rfl
     |some β=>
      rcases(e1 γ β hq).2.2.2 with⟨_,h⟩|⟨_,_,h|h⟩
      ·exact absurd ⟨β,h⟩ hg
      ·exact absurd h hk
      ·exact absurd h hg
    refine⟨rn γ heo,fun hb hq=>⟨hb,by rw[q3 γ heo hg];exact hq,rfl,Nat.le_refl _,fun b cap hr hc=>Qcg (hext.block b (Qdi hc) (nogive γ b hk hg hr)) hc,fun he=>⟨he,rfl,fun b hr=>hext.block b ?_ (nogive γ b hk hg hr)⟩⟩⟩
    have:=(hs.own γ hb hq).blk
    rw[hr]at this
    exact this.2.1
   have par:∀γ,hp γ≠none->((¬∃β,gn gv β=some γ)∨∃β hb hb',gn gv β=some γ/\isY β=true/\hp γ=some hb/\H β=some hb'/\hb'.e=hb.e/\hb.xs.length<=hb'.xs.length)->Qp3 ρ ρ' hp hp2 w w' γ:=fun γ hk h=>by
    rcases h with h|⟨β,hb,hb',l1,l2,l3,l4,l5,l6⟩
    ·exact(ful γ hk h).weak
    ·have heo:=e2 β γ l1 l2
     refine⟨by rw[rs γ β heo];exact fixY β γ l2 l1 (by simp[l4]),fun hb0 hq=> ?_⟩
     rw[l3]at hq;cases hq
     exact⟨hb',by rw[q1 γ β heo];exact l4,l5,l6,fun b cap hr hc=>capK β γ b l2 l1 hr _ cap hc⟩
   refine hsl.move hst (fun γ hγ=> ?_) (fun γ hγ=>par γ (hkn.2 γ hγ) (k3 γ (List.mem_append_right _ hγ))) (fun γ e ty xs e0=>ful γ (hkn.2 γ (by rw[e0];simp[PV.sref])) (k4 γ e ty xs e0))
   have:=par γ (hkn.1 γ hγ) (k3 γ (List.mem_append_left _ hγ))
   exact⟨this.r,this.h⟩
  ·subst k1
   have hv:(Qp2 tmps (some s) v).getD s undef=v:=by
    have:=hd s rfl
    simp[Qp2,Array.getD,hs.sz,this]
   rw[hv,k2]
   have:=h2.slots 0
   exact Qaa.ren (C':=C) (ρ':=ρ') (hp':=hp2) this hXs fun β hβ=>hr2 β (k3 β hβ)
  ·obtain⟨γ,e,ty,xs,hF⟩:=k2
   rw[k3]
   have:=h2.slots s'
   have e0:Qf4 r F s'=F s':=by unfold Qf4;rw[if_neg (by omega),if_neg (by omega)]
   rw[e0]at this
   have h3:=Qaa.ren (C':=C) (ρ':=ρ') (hp':=hp2) this hXs fun β hβ=>hr2 β (k4 β hβ)
   rw[hF]at h3⊢
   exact h3
theorem Q9s{tmps:Array Value}{hp0 H:HP}{gv:Nat->Option Nat}{F:Fr}{r:PV}{v:Value}{n:Nat}{hn:n<=1000000}{ρ2:Nat->Option Nat}(hs:Qah C ρ fr hp tmps w)(hh:Qo0 C hp hp0 gv)
  (h2:Qah ((Qqr C ρ fr hp hp0 tmps w gv hs hh n hn).setN 1 (by decide)) ρ2 (Qf4 r F) H #[v] w') (h0:∀β,gn gv β=none):Ext Qbs w w':=h2.ext.mono fun b _ hb=>by
 rcases hb with⟨β,hr,hb⟩|⟨β,γ,h1,_,h3⟩
 ·have hb:(if isY β=true then(gv β).bind ρ else none)=some b:=hb
  have e:=(Qmp (gv:=gv) hr).symm
  rw[e,h0 β]at hb
  split at hb<;>cases hb
 ·rw[h0 β]at h1;cases h1
end Go.FW
namespace Go.FW
open Go
variable {C : Ctx} {ρ : Nat -> Option Nat} {fr fr' : Fr} {hp hp' : HP} {w w' : World} {K R : Qp}
theorem Quo{P:Program}{pr:Bool}(hP:C.P=P){g:FuncId}{args pargs:List PV}{d:Option Nat}{G:Fr}{hp0:HP}{Post:PV->Fr->HP->Prop}(h:Qcv P g pargs G hp0 Post)(gv:Nat->Option Nat)(τ:Nat->Nat)(hh:Qo0 C hp hp0 gv)
  (hτ:∀β γ,gv β=some γ->τ γ=β) (hargs:args.map (rnP τ)=pargs) (hna:∀x∈args,∀γ∈x.refs++x.sref,∃β,gv β=some γ)
  (hG:∀s,1000000<=s->G s= .undef∨∃s',1000000<=s'/\G s=rnP τ (fr s')/\∀γ∈(fr s').refs++(fr s').sref,∃β,gv β=some γ) (hpl:pargs.length<=1000000) (hpr:pr=true->∀β,gn gv β=none)
  (hK:∀(ρ:Nat->Option Nat) (tmps:Array Value) (w:World),Qah C ρ fr hp tmps w->∀r F H,Post r F H->(∀ρ2 C2 v w',Qah C2 ρ2 (Qf4 r F) H #[v] w'->(∀β,C2.fx β≠none->H β≠none->True)->True)->∃(eo:Nat->Option Nat) (σ:Nat->Nat) (fr2:Fr) (hp2:HP),
   (∀γ β,eo γ=some β->H β≠none/\σ β=γ/\isB γ=true/\((isY β=true/\gn gv β=some γ)∨(isY β=false/\isY γ=false/\(hp γ=none∨∃β',gn gv β'=some γ))))/\
   (∀β γ,gn gv β=some γ->isY β=true->eo γ=some β)/\
   (∀γ β,eo γ=some β->hp2 γ=H β)/\(∀γ,eo γ=none->(∃β,gn gv β=some γ)->hp2 γ=none)/\(∀γ,eo γ=none->(¬∃β,gn gv β=some γ)->hp2 γ=hp γ)/\
   (∀s,fr2 s= .undef∨
    (d≠some s/\fr2 s=fr s/\(∀γ∈(fr s).refs++(fr s).sref,(¬∃β,gn gv β=some γ)∨∃β hb hb',gn gv β=some γ/\isY β=true/\hp γ=some hb/\H β=some hb'/\hb'.e=hb.e/\hb.xs.length<=hb'.xs.length)/\∀γ e ty xs,fr s= .nst γ e ty xs->¬∃β,gn gv β=some γ)∨
    (d=some s/\fr2 s=rnP σ r/\∀β∈r.refs++r.sref,eo (σ β)=some β)∨
    (∃s',1000000<=s'/\(∃γ e ty xs,F s'= .nst γ e ty xs)/\fr2 s=rnP σ (F s')/\∀β∈(F s').refs++(F s').sref,eo (σ β)=some β))/\
   K fr2 hp2):Qc7 C pr (.fn g [] []) args d fr hp K:=by
 subst hP
 refine⟨h.1,fun ρ tmps w fv cv av hdN hs h1 h2 h3 _ _ hr3=> ?_⟩
 have e1:fv= #[]:=Array.eq_empty_of_size_eq_zero (by simpa using h1)
 have e2:cv= #[]:=Array.eq_empty_of_size_eq_zero (by simpa using h2)
 subst e1;subst e2
 simp only[Array.empty_append,Array.append_empty]
 refine(h.2 (Qqr C ρ fr hp hp0 tmps w gv hs hh pargs.length hpl) _ av w rfl rfl rfl (Q6f hs hh hτ h3 hargs hr3 hna hG hpl)).mono ?_
 rintro e w' ⟨v,ρ',r,F,H,rfl,hs2,hpost⟩
 obtain⟨eo,σ,fr2,hp2,a1,a2,a3,a4,a5,a6,a7⟩:=hK ρ tmps w hs r F H hpost (fun _ _ _ _ _ _=>trivial)
 exact⟨v,fr2,hp2,rfl,Q9r hs hh hs2 hdN a1 a2 a3 a4 a5 a6,fun hq=>Q9s hs hh hs2 (hpr hq),a7⟩
def Qgp(r:PV):Prop:=(r.refs=[]/\r.sref=[])/\∀σ,rnP σ r=r
theorem Q9t{gv:Nat->Option Nat}(h:∀β γ,gv β=some γ->isR β=false):gn gv=gv:=by
 funext β
 cases hr:isR β with
 |false=>exact Qmp hr
 |true=>
  unfold gn
  rw[if_pos hr]
  cases hq:gv β with
  |none=>rfl
  |some γ=>have:=h β γ hq;rw[hr]at this;cases this
theorem Q0l{P:Program}(hP:C.P=P){pr:Bool}{g:FuncId}{args pargs:List PV}{d:Option Nat}{G:Fr}{hp0:HP}{Post:PV->Fr->HP->Prop}(h:Qcv P g pargs G hp0 Post)(gv:Nat->Option Nat)(τ:Nat->Nat)
  (hR:∀β γ,gv β=some γ->isR β=true/\∃hb,hp γ=some hb/\hp0 β=some ⟨hb.e,hb.ty,hb.xs,true⟩) (ha:∀β,hp0 β≠none->∃γ,gv β=some γ) (hi:∀β β' γ,gv β=some γ->gv β'=some γ->β=β')
  (hτ:∀β γ,gv β=some γ->τ γ=β) (hargs:args.map (rnP τ)=pargs) (hna:∀x∈args,∀γ∈x.refs++x.sref,∃β,gv β=some γ)
  (hG:∀s,1000000<=s->G s= .undef∨∃s',1000000<=s'/\G s=rnP τ (fr s')/\∀γ∈(fr s').refs++(fr s').sref,∃β,gv β=some γ) (hpl:pargs.length<=1000000)
  (hK:∀r F H,Post r F H->Qgp r/\K (Qcl fr d r) hp):Qc7 C pr (.fn g [] []) args d fr hp K:=by
 have g0:∀β,gn gv β=none:=fun β=>by
  unfold gn
  split
  ·rfl
  ·rename_i hr
   cases hq:gv β with
   |none=>rfl
   |some γ=>exact absurd (hR β γ hq).1 hr
 have nog:∀γ:Nat,¬∃β,gn gv β=some γ:=fun γ ⟨β,hβ⟩=>by rw[g0 β]at hβ;cases hβ
 refine Quo hP h gv τ ⟨fun β γ hq=> ?_,ha,hi⟩ hτ hargs hna hG hpl (fun _=>g0) (fun ρ tmps w hs r F H hpost _=> ?_)
 ·obtain⟨h1,hb,h2,h3⟩:=hR β γ hq
  refine⟨hb,h2,?_,fun _=>h3,fun h=>by rw[h1]at h;cases h⟩
  simp[isR]at h1;simp[isB];omega
 ·obtain⟨⟨⟨p1,p2⟩,p3⟩,hk⟩:=hK r F H hpost
  refine⟨fun _=>none,id,Qcl fr d r,hp,(fun _ _ h=>by cases h),(fun β γ h=>by rw[g0 β]at h;cases h),(fun _ _ h=>by cases h),fun γ _ h=>absurd h (nog γ),fun _ _ _=>rfl,fun s=> ?_,hk⟩
  cases d with
  |none=>exact .inr (.inl ⟨(by simp),rfl,fun γ _=> .inl (nog γ),fun γ _ _ _ _=>nog γ⟩)
  | some d=>
   by_cases e:s=d
   ·subst e
    refine .inr (.inr (.inl ⟨rfl,?_,fun β hβ=>by rw[p1,p2]at hβ;cases hβ⟩))
    rw[p3];simp[Qcl,upd]
   ·exact .inr (.inl ⟨by simp;exact fun h=>e h.symm,by simp[Qcl,upd,e],fun γ _=> .inl (nog γ),fun γ _ _ _ _=>nog γ⟩)
def Qwk(P:Program)(f:FuncId)(args:List PV)(hb1 hb2:HB)(Post:PV->List PV->Prop):Prop:=
 Qcv P f args (fun _=> .undef) (Qw (Qw hp0 1000000 hb1) 1500001 ⟨hb2.e,hb2.ty,hb2.xs,true⟩) fun r F H=>Qgp r/\∃xs,H 1000000=some ⟨hb1.e,hb1.ty,xs,false⟩/\xs.length=hb1.xs.length/\Post r xs
theorem Qao6{P:Program}(hP:C.P=P){g:FuncId}{args pargs:List PV}{d:Option Nat}{β1 β2:Nat}{hb1 hb2:HB}{Post:PV->List PV->Prop}(h:Qwk P g pargs hb1 hb2 Post)(h1:hp β1=some hb1)(h2:hp β2=some hb2)(hne:β1≠β2)(f1:hb1.fz=false)(n1:hb1.xs≠[])(B1:isB β1=true)
  (hargs:args.map (rnP fun x=>if x=β1 then 1000000 else if x=β2 then 1500001 else x)=pargs) (hna:∀γ∈args.flatMap (fun x=>x.refs++x.sref),γ=β1∨γ=β2) (hpl:pargs.length<=1000000)
  (hK:∀r xs,xs.length=hb1.xs.length->Post r xs->K (Qcl fr d r) (Qw hp β1 ⟨hb1.e,hb1.ty,xs,false⟩)):Qc7 C false (.fn g [] []) args d fr hp K:=by
 obtain⟨gv,hgv⟩:∃f:Nat->Option Nat,f=fun x=>if x=1000000 then some β1 else if x=1500001 then some β2 else none:=⟨_,rfl⟩
 have ga:∀β γ,gv β=some γ->(β=1000000/\γ=β1)∨(β=1500001/\γ=β2):=fun β γ hq=>by
  rw[hgv]at hq;simp only at hq
  split at hq
  ·cases hq;rename_i e;exact .inl ⟨e,rfl⟩
  ·split at hq
   ·cases hq;rename_i e;exact .inr ⟨e,rfl⟩
   ·cases hq
 have g0:gv 1000000=some β1:=by rw[hgv];rfl
 have g1:gv 1500001=some β2:=by rw[hgv];rfl
 have y0:isY 1000000=true:=by decide
 have r0:isR 1000000=false:=by decide
 have r1:isR 1500001=true:=by decide
 have gna:∀β γ,gn gv β=some γ->β=1000000/\γ=β1:=fun β γ hq=>by
  obtain⟨k1,k2⟩:=Qlf hq
  rcases ga β γ k2 with h|⟨rfl,_⟩
  ·exact h
  ·rw[r1]at k1;cases k1
 have gn0:gn gv 1000000=some β1:=(Qmp r0).trans g0
 refine Quo hP h gv _ ⟨fun β γ hq=> ?_,fun β hq=> ?_,fun β β' γ q1 q2=> ?_⟩ (fun β γ hq=> ?_) hargs (fun x hx γ hγ=> ?_) (fun s _=> .inl rfl) hpl (fun hq=>by cases hq) (fun ρ tmps w hs r F H hp0 _=> ?_)
 ·rcases ga β γ hq with⟨rfl,rfl⟩|⟨rfl,rfl⟩
  ·exact⟨hb1,h1,by decide,(fun h=>by rw[r0]at h;cases h),fun _=>⟨by simp[Qw],f1,B1,fun h=>by rw[y0]at h;cases h⟩⟩
  ·exact⟨hb2,h2,by decide,(fun _=>by simp[Qw]),fun h=>by rw[r1]at h;cases h⟩
 ·by_cases e:β=1500001
  ·subst e;exact⟨_,g1⟩
  ·by_cases e2:β=1000000
   ·subst e2;exact⟨_,g0⟩
   ·simp[Qw,FW.hp0,e,e2]at hq
 ·rcases ga β γ q1 with⟨rfl,rfl⟩|⟨rfl,rfl⟩<;>rcases ga β' _ q2 with⟨rfl,e⟩|⟨rfl,e⟩
  ·rfl
  ·exact absurd e hne
  ·exact absurd e.symm hne
  ·rfl
 ·rcases ga β γ hq with⟨rfl,rfl⟩|⟨rfl,rfl⟩
  ·simp
  ·rw[if_neg (fun e=>hne e.symm),if_pos rfl]
 ·rcases hna γ (List.mem_flatMap.2 ⟨x,hx,hγ⟩)with rfl|rfl
  ·exact⟨_,g0⟩
  ·exact⟨_,g1⟩
 ·obtain⟨⟨⟨p1,p2⟩,p3⟩,xs,k1,k2,k4⟩:=hp0
  obtain⟨eo,heo⟩:∃f:Nat->Option Nat,f=fun γ=>if γ=β1 then some 1000000 else none:=⟨_,rfl⟩
  have ea:∀γ β,eo γ=some β->γ=β1/\β=1000000:=fun γ β hq=>by
   rw[heo]at hq;simp only at hq
   split at hq
   ·cases hq;rename_i e;exact⟨e,rfl⟩
   ·cases hq
  have eb1:eo β1=some 1000000:=by rw[heo];simp
  refine⟨eo,fun x=>β1,Qcl fr d r,Qw hp β1 ⟨hb1.e,hb1.ty,xs,false⟩,fun γ β hq=> ?_,fun β γ hq _=> ?_,fun γ β hq=> ?_,fun γ hq hg=> ?_,fun γ hq hg=> ?_,fun s=> ?_,hK r xs k2 k4⟩
  ·obtain⟨rfl,rfl⟩:=ea γ β hq
   exact⟨by simp[k1],rfl,B1,.inl ⟨y0,gn0⟩⟩
  ·obtain⟨rfl,rfl⟩:=gna β γ hq
   exact eb1
  ·obtain⟨rfl,rfl⟩:=ea γ β hq
   rw[k1];simp[Qw]
  ·obtain⟨β,hβ⟩:=hg
   obtain⟨rfl,rfl⟩:=gna β γ hβ
   rw[eb1]at hq;cases hq
  ·have:γ≠β1:=fun e=>by subst e;rw[eb1]at hq;cases hq
   simp[Qw,this]
  ·have hsl:=hs.slots s
   have hn:∀γ e ty xs,fr s= .nst γ e ty xs->¬∃β,gn gv β=some γ:=fun γ e ty xs e0 ⟨β,hβ⟩=>by
    rw[e0]at hsl
    obtain⟨_,_,b,hb,_,_,_,l2,l3,_⟩:=hsl
    obtain⟨rfl,rfl⟩:=gna β γ hβ
    rw[h1]at l2;cases l2;exact n1 l3
   have ho:∀γ∈(fr s).refs++(fr s).sref,(¬∃β,gn gv β=some γ)∨∃β hb hb',gn gv β=some γ/\isY β=true/\hp γ=some hb/\H β=some hb'/\hb'.e=hb.e/\hb.xs.length<=hb'.xs.length:=fun γ _=>by
    by_cases e:γ=β1
    ·subst e;exact .inr ⟨_,_,_,gn0,y0,h1,k1,rfl,by simp[k2]⟩
    ·left
     rintro⟨β,hβ⟩
     exact e (gna β γ hβ).2
   cases d with
   |none=>exact .inr (.inl ⟨(by simp),rfl,ho,hn⟩)
   | some d=>
    by_cases e:s=d
    ·subst e
     refine .inr (.inr (.inl ⟨rfl,?_,fun β hβ=>by rw[p1,p2]at hβ;cases hβ⟩))
     rw[p3]
     simp[Qcl,upd]
    ·exact .inr (.inl ⟨by simp;exact fun h=>e h.symm,by simp[Qcl,upd,e],ho,hn⟩)
def Qqs(nm:Nat->Bool)(p:PV):PV:=if(p.refs++p.sref).any nm then .undef else p
def Qe8(nm:Nat->Bool)(fr:Fr):Fr:=fun s=>Qqs nm (fr s)
def exH(nm ex:Nat->Bool)(H hp:HP):HP:=fun x=>if ex x then H x else if nm x then none else hp x
def exF(S:List Nat)(F fr:Fr):Fr:=fun s=>if S.contains s then F s else fr s
theorem Qahq(p:PV):rn1 id p=p:=Q9p fun _ _=>rfl
theorem Qahr{p:PV}(h:∀γ e ty xs,p≠ .nst γ e ty xs):rnP id p=p:=by
 have hm:∀l:List PV,l.map (rn1 id)=l:=fun l=>by
  conv=>rhs;rw[<-List.map_id l]
  exact List.map_congr_left fun x _=>Qahq x
 cases p with
 |nst γ e ty xs=>exact absurd rfl (h _ _ _ _)
 |fn f a b=>simp only[rnP,hm]
 |rag cs=>simp only[rnP,hm]
 |_=>rfl
def Q6g(xs:List PV):Prop:=∀x∈xs,Qdu x.ncells=x
theorem Q4f{γ e ty:Nat}{xs:List PV}(h:Q6g xs):rnP id (.nst γ e ty xs)= .nst γ e ty xs:=by
 simp only[rnP,id]
 congr 1
 conv=>rhs;rw[<-List.map_id xs]
 refine List.map_congr_left fun x hx=> ?_
 have:x.ncells.map (rn1 id)=x.ncells:=by
  conv=>rhs;rw[<-List.map_id x.ncells]
  exact List.map_congr_left fun y _=>Qahq y
 rw[this];exact h x hx
theorem Q0m{P:Program}{pr:Bool}(hP:C.P=P){g:FuncId}{args pargs:List PV}{d:Option Nat}{G:Fr}{hp1:HP}{Post:PV->Fr->HP->Prop}(h:Qcv P g pargs G hp1 Post)(nm ex:Nat->Bool)(S:List Nat)
  (hnm:∀x,nm x=true->∃hb,hp x=some hb/\hb.fz=false/\2000000<=x) (hp1E:∀x,hp1 x=if nm x then hp x else none) (hargs:args=pargs) (hpl:pargs.length<=1000000)
  (hst:∀x∈args,∀γ e ty xs,x≠ .nst γ e ty xs) (hna:∀γ∈args.flatMap (fun x=>x.refs++x.sref),nm γ=true)
  (hG:∀s,1000000<=s->G s= .undef∨∃γ e ty xs,G s=fr s/\fr s= .nst γ e ty xs/\Q6g xs/\∀γ∈(fr s).refs++(fr s).sref,nm γ=true)
  (hex:∀x,ex x=true->(hp x=none∨nm x=true)/\2000000<=x) (hpr:pr=true->∀x,nm x=false)
  (hK:∀r F H,Post r F H->(∀x,ex x=true->H x≠none)/\(∀γ e ty xs,r≠ .nst γ e ty xs)/\(∀β∈r.refs++r.sref,ex β=true)/\(∀s∈S,1000000<=s/\(∃γ e ty xs,F s= .nst γ e ty xs/\Q6g xs)/\∀β∈(F s).refs++(F s).sref,ex β=true)/\K (exF S F (Qcl (Qe8 nm fr) d r)) (exH nm ex H hp)):
  Qc7 C pr (.fn g [] []) args d fr hp K:=by
 obtain⟨gv,hgv⟩:∃f:Nat->Option Nat,f=fun x=>if nm x then some x else none:=⟨_,rfl⟩
 have ga:∀β γ,gv β=some γ->β=γ/\nm γ=true:=fun β γ hq=>by
  rw[hgv]at hq;simp only at hq
  split at hq
  ·cases hq;rename_i e;exact⟨rfl,e⟩
  ·cases hq
 have gb:∀γ,nm γ=true->gv γ=some γ:=fun γ hγ=>by rw[hgv];simp[hγ]
 have gN:∀γ,(∃β,gv β=some γ)->nm γ=true:=fun γ ⟨β,hβ⟩=>(ga β γ hβ).2
 have gr:∀β γ,gv β=some γ->isR β=false:=fun β γ hq=>by
  obtain⟨rfl,hn⟩:=ga β γ hq
  obtain⟨_,_,_,k3⟩:=hnm β hn
  simp[isR];omega
 refine Quo hP h gv id ⟨fun β γ hq=> ?_,fun β hq=> ?_,fun β β' γ q1 q2=> ?_⟩ (fun β γ hq=>(ga β γ hq).1.symm) ?_ (fun x hx γ hγ=>⟨γ,gb γ (hna γ (List.mem_flatMap.2 ⟨x,hx,hγ⟩))⟩) (fun s hs=> ?_) hpl (fun hq β=>by
  rw[Q9t gr,hgv];simp only;rw[hpr hq β];rfl) (fun ρ tmps w hs r F H hpost _=> ?_)
 ·obtain⟨rfl,hn⟩:=ga β γ hq
  obtain⟨hb,k1,k2,k3⟩:=hnm β hn
  exact⟨hb,k1,by simp[isB];omega,(fun h=>by simp[isR]at h;omega),fun _=>⟨by rw[hp1E,if_pos hn];exact k1,k2,by simp[isB];omega,fun _=>by simp[isY];omega⟩⟩
 ·refine⟨β,gb β ?_⟩
  cases hn:nm β with
  |true=>rfl
  |false=>rw[hp1E,hn]at hq;simp at hq
 ·rw[(ga β γ q1).1,(ga β' γ q2).1]
 ·rw[<-hargs]
  conv=>rhs;rw[<-List.map_id args]
  exact List.map_congr_left fun x hx=>Qahr (hst x hx)
 ·rcases hG s hs with e|⟨γ,e,ty,xs,e1,e2,e3,e4⟩
  ·exact .inl e
  ·refine .inr ⟨s,hs,?_,fun γ hγ=>⟨γ,gb γ (e4 γ hγ)⟩⟩
   rw[e1,e2,Q4f e3]
 ·rw [Q9t gr]
  obtain⟨a1,a2,a3,a4,a5⟩:=hK r F H hpost
  obtain⟨eo,heo⟩:∃f:Nat->Option Nat,f=fun x=>if ex x then some x else none:=⟨_,rfl⟩
  have ea:∀γ β,eo γ=some β->γ=β/\ex γ=true:=fun γ β hq=>by
   rw[heo]at hq;simp only at hq
   split at hq
   ·cases hq;rename_i e;exact⟨rfl,e⟩
   ·cases hq
  have eb:∀γ,ex γ=true->eo γ=some γ:=fun γ hγ=>by rw[heo];simp[hγ]
  have en:∀γ,eo γ=none->ex γ=false:=fun γ hγ=>by
   cases hq:ex γ with
   |false=>rfl
   |true=>rw[eb γ hq]at hγ;cases hγ
  refine⟨eo,id,exF S F (Qcl (Qe8 nm fr) d r),exH nm ex H hp,fun γ β hq=> ?_,fun β γ hq hy=> ?_,fun γ β hq=> ?_,fun γ hq hg=> ?_,fun γ hq hg=> ?_,fun s=> ?_,a5⟩
  ·obtain⟨rfl,he⟩:=ea γ β hq
   obtain⟨k1,k2⟩:=hex γ he
   exact⟨a1 γ he,rfl,by simp[isB];omega,.inr ⟨by simp[isY];omega,by simp[isY];omega,k1.imp id fun hn=>⟨γ,gb γ hn⟩⟩⟩
  ·obtain⟨rfl,hn⟩:=ga β γ hq
   obtain⟨_,_,_,k3⟩:=hnm β hn
   simp[isY]at hy;omega
  ·obtain⟨rfl,he⟩:=ea γ β hq
   simp[exH,he]
  ·simp[exH,en γ hq,gN γ hg]
  ·have:nm γ=false:=by
    cases hn:nm γ with
    |false=>rfl
    |true=>exact absurd ⟨γ,gb γ hn⟩ hg
   simp[exH,en γ hq,this]
  ·unfold exF
   by_cases hS:S.contains s=true
   ·rw[if_pos hS]
    obtain⟨b1,⟨γ,e,ty,xs,b2,b3⟩,b4⟩:=a4 s (by simpa using hS)
    refine .inr (.inr (.inr ⟨s,b1,⟨γ,e,ty,xs,b2⟩,?_,fun β hβ=>eb β (b4 β hβ)⟩))
    rw[b2,Q4f b3]
   ·rw[if_neg hS]
    have old:d≠some s->Qe8 nm fr s= .undef∨(d≠some s/\Qe8 nm fr s=fr s/\(∀γ∈(fr s).refs++(fr s).sref,(¬∃β,gv β=some γ)∨∃β hb hb',gv β=some γ/\isY β=true/\hp γ=some hb/\H β=some hb'/\hb'.e=hb.e/\hb.xs.length<=hb'.xs.length)/\∀γ e ty xs,fr s= .nst γ e ty xs->¬∃β,gv β=some γ):=fun hds=>by
     unfold Qe8 Qqs
     split
     ·exact .inl rfl
     ·rename_i hno
      have hno':∀γ∈(fr s).refs++(fr s).sref,¬∃β,gv β=some γ:=fun γ hγ hg=>hno (List.any_eq_true.2 ⟨γ,hγ,gN γ hg⟩)
      exact .inr ⟨hds,rfl,fun γ hγ=> .inl (hno' γ hγ),fun γ e ty xs e0=>hno' γ (by rw[e0];simp[PV.sref])⟩
    cases d with
    |none=>
     simp only[Qcl]
     rcases old (by simp)with h|h
     ·exact .inl h
     ·exact .inr (.inl h)
    | some d=>
     by_cases e:s=d
     ·subst e
      refine .inr (.inr (.inl ⟨rfl,?_,fun β hβ=>eb β (a3 β hβ)⟩))
      rw[Qahr a2]
      simp[Qcl,upd]
     ·have e1:Qcl (Qe8 nm fr) (some d) r s=Qe8 nm fr s:=by simp[Qcl,upd,e]
      rw[e1]
      rcases old (by simp;exact fun h=>e h.symm)with h|h
      ·exact .inl h
      ·exact .inr (.inl h)
end Go.FW
namespace Go.FW
open Go
variable {C : Ctx} {ρ : Nat -> Option Nat} {fr fr' : Fr} {hp : HP} {w : World} {K R : Qp}
theorem Qaen{B:List Nat}{F:Fr}{β δ:Nat}(hβ:B.contains β=true)(h2:β<1000000):mvF β δ (bse B F)=bse B F:=Qakc (.inl hβ) (.inl h2)
theorem rnPs:
  (∀(σ:Nat->Nat)(k:IntKind)(n:Int),rnP σ (.int k n)= .int k n)/\
  (∀(σ:Nat->Nat)(b:Bool),rnP σ (.bool b)= .bool b)/\
  (∀(σ:Nat->Nat)(e:Nat)(xs:List PV),rnP σ (.sl e xs)= .sl e xs)/\
  (∀(σ:Nat->Nat)(cs:List PV),rnP σ (.agg cs)= .agg cs)/\
  (∀(σ:Nat->Nat)(cs:List PV),rnP σ (.tup cs)= .tup cs)/\
  (∀(σ:Nat->Nat)(cs:List PV),rnP σ (.pt cs)= .pt cs)/\
  (∀(σ:Nat->Nat),rnP σ .nilS= .nilS)/\
  (∀(σ:Nat->Nat),rnP σ .undef= .undef)/\
  (∀(σ:Nat->Nat)(β o n:Nat),rnP σ (.mso β o n)= .mso (σ β) o n)/\
  (∀(σ:Nat->Nat)(β o n:Nat),rnP σ (.mp β o n)= .mp (σ β) o n)/\
  (∀(σ:Nat->Nat)(β o n:Nat),rnP σ (.nso β o n)= .nso (σ β) o n)/\
  (∀(σ:Nat->Nat)(β o n:Nat),rnP σ (.np β o n)= .np (σ β) o n)/\
  (∀(σ:Nat->Nat)(cs:List PV),rnP σ (.rag cs)= .rag (cs.map (rn1 σ))):=by
 refine⟨?_,?_,?_,?_,?_,?_,?_,?_,?_,?_,?_,?_,?_⟩<;>intros<;>rfl
theorem rn1s:
  (∀(σ:Nat->Nat)(k:IntKind)(n:Int),rn1 σ (.int k n)= .int k n)/\
  (∀(σ:Nat->Nat)(b:Bool),rn1 σ (.bool b)= .bool b)/\
  (∀(σ:Nat->Nat)(e:Nat)(xs:List PV),rn1 σ (.sl e xs)= .sl e xs)/\
  (∀(σ:Nat->Nat),rn1 σ .nilS= .nilS)/\
  (∀(σ:Nat->Nat),rn1 σ .undef= .undef)/\
  (∀(σ:Nat->Nat)(β o n:Nat),rn1 σ (.mso β o n)= .mso (σ β) o n)/\
  (∀(σ:Nat->Nat)(β o n:Nat),rn1 σ (.nso β o n)= .nso (σ β) o n):=by
 refine⟨?_,?_,?_,?_,?_,?_,?_⟩<;>intros<;>rfl
theorem Qar3:
  (∀(γ:Nat)(k:IntKind)(n:Int),Qef γ (.int k n)= .int k n)/\
  (∀(γ:Nat)(b:Bool),Qef γ (.bool b)= .bool b)/\
  (∀(γ e:Nat)(xs:List PV),Qef γ (.sl e xs)= .sl e xs)/\
  (∀(γ:Nat)(cs:List PV),Qef γ (.agg cs)= .agg cs)/\
  (∀(γ:Nat)(cs:List PV),Qef γ (.tup cs)= .tup cs)/\
  (∀(γ:Nat)(cs:List PV),Qef γ (.pt cs)= .pt cs)/\
  (∀(γ:Nat),Qef γ .nilS= .nilS)/\
  (∀(γ:Nat),Qef γ .undef= .undef)/\
  (∀(γ β o n:Nat),Qef γ (.mso β o n)=if β=γ then .nso γ o n else .mso β o n)/\
  (∀(γ β o n:Nat),Qef γ (.mp β o n)=if β=γ then .np γ o n else .mp β o n)/\
  (∀(γ β o n:Nat),Qef γ (.nso β o n)= .nso β o n)/\
  (∀(γ β o n:Nat),Qef γ (.np β o n)= .np β o n):=by
 refine⟨?_,?_,?_,?_,?_,?_,?_,?_,?_,?_,?_,?_⟩<;>intros<;>rfl
theorem Qakg{γ s:Nat}{x:PV}:Q6e γ x fr s=if s=γ then x else Qef γ (fr s):=rfl
theorem Qakh{args:List PV}{G:Fr}{s:Nat}:Qm6 args G s=if s<1000000 then(args[s]?).getD .undef else G s:=rfl
theorem Qaki{nm:Nat->Bool}{s:Nat}:Qe8 nm fr s=Qqs nm (fr s):=rfl
theorem Qakj{nm:Nat->Bool}{p:PV}:Qqs nm p=if(p.refs++p.sref).any nm then .undef else p:=rfl
theorem Qao7{nm ex:Nat->Bool}{H:HP}{x:Nat}:exH nm ex H hp x=if ex x then H x else if nm x then none else hp x:=rfl
theorem Qao8{S:List Nat}{F:Fr}{s:Nat}:exF S F fr s=if S.contains s then F s else fr s:=rfl
theorem Qup(l:List (Nat×Nat)):Q6g (Qak l):=fun x hx=>by
 obtain⟨y,_,rfl⟩:=List.mem_map.1 hx;rfl
theorem Qar4{d β n ty e:Nat}{xs ys:List PV}(hb:hp β=some ⟨e,ty,xs,false⟩)(he:0<e)(hn:n=xs.length)(hl:ys.length=n):
  Qlk e (.ms β n) (.sl e ys) d fr hp K=K (upd fr d (.int .i64 n)) (Qw hp β ⟨e,ty,ys,false⟩):=by
 rw[Qab8 hb he hn]
 have h1:ys.take n=ys:=List.take_of_length_le (by omega)
 have h2:xs.drop ys.length=[]:=List.drop_eq_nil_of_le (by omega)
 rw[h1,h2,List.append_nil]
 congr 2
 ·congr 1;congr 1;omega
attribute [go_sem] Qaj9 Qaka Qao4 Qao5 Qao3 Qaen rnPs rn1s Qar3 Qakg Qakh Qaki Qakj Qao7 Qao8
end Go.FW
namespace Go.FW
open Go
variable {C : Ctx} {ρ : Nat -> Option Nat} {fr fr' : Fr} {hp : HP} {w : World} {K R : Qp}
def Qeg(B i n:Nat)(L:Nat->Nat):List PV:=Qak (rws B i L)++List.replicate (n-i) .nilS
theorem Q9u(B n:Nat)(L:Nat->Nat):List.replicate n PV.nilS=Qeg B 0 n L:=by simp[Qeg,rws,Qak]
theorem Q9v(B n:Nat)(L:Nat->Nat):Qeg B n n L=Qak (rws B n L):=by simp[Qeg]
theorem Qr9{B i n:Nat}{L:Nat->Nat}(h:i<=n):(Qeg B i n L).length=n:=by simp[Qeg,Qak,rws];omega
theorem Qaeo{B i n j:Nat}{L:Nat->Nat}(h:j<i):(Qeg B i n L)[j]? =some (.ms (B+j) (L j)):=by
 simp[Qeg,Qak,rws,List.getElem?_append,h]
theorem Qaep{B i n:Nat}{L:Nat->Nat}(h:i<n):(Qeg B i n L).set i (.ms (B+i) (L i))=Qeg B (i+1) n L:=by
 have h1:(Qak (rws B i L)).length=i:=by simp[Qak,rws]
 unfold Qeg
 rw[List.set_append,if_neg (by omega),h1,Nat.sub_self]
 have h2:Qak (rws B (i+1) L)=Qak (rws B i L)++[.ms (B+i) (L i)]:=by simp[Qak,rws,List.range_succ]
 rw[h2,List.append_assoc]
 congr 1
 obtain⟨k,hk⟩:∃k,n-i=k+1:=⟨n-i-1,by omega⟩
 rw[hk,show n-(i+1)=k by omega,List.replicate_succ]
 rfl
theorem Qakk{γ i n ty B m:Nat}{L:Nat->Nat}{e0 ty0:Nat}{xs0:List PV}(hγ:fr γ= .nst γ 1 ty (Qeg B i n L))(hh:hp γ=some ⟨e0,ty0,xs0,false⟩)(h:i<n)(hB:1000000<=B)(hm:L i=m):
  stK 1 (.np γ i 0) (.ms (B+i) m) fr hp K=K (upd (Qdw γ fr) γ (.nst γ 1 ty (Qeg B (i+1) n L))) hp:=by
 subst hm
 have hl:i<(Qeg B i n L).length:=by rw[Qr9 (by omega)];exact h
 have hb:isB (B+i)=true:=by simp[isB];omega
 have h0:(Qeg B i n L)[i]= .nilS:=by
  have h1:(Qak (rws B i L)).length=i:=by simp[Qak,rws]
  simp[Qeg,List.getElem_append,h1]
 simp only[stK,hγ,hl,exists_true_left,true_and,Nat.le_refl,Nat.zero_add,stN,hb,if_true,List.length_cons,List.length_nil,hh,Option.some.injEq,exists_eq_left',h0]
 rw[<-Qaep h]
 simp[Qdu,Qi8,PV.ncells,PV.cells]
theorem Qakl{d γ j i n ty B:Nat}{L:Nat->Nat}(hγ:fr γ= .nst γ 1 ty (Qeg B i n L))(h:j<i)(hi:i<=n):ldK 1 false (.np γ j 0) d fr hp K=K (upd fr d (.ms (B+j) (L j))) hp:=by
 have hl:j<(Qeg B i n L).length:=by rw[Qr9 hi];omega
 have h0:(Qeg B i n L)[j]= .ms (B+j) (L j):=by
  have:=Qaeo (B:=B) (n:=n) (L:=L) h
  rw[List.getElem?_eq_getElem hl]at this
  exact Option.some.inj this
 simp only[ldK,hγ,hl,exists_true_left,true_and,Nat.le_refl,Nat.zero_add,implies_true,h0]
 simp[ldN,PV.ncells,PV.cells]
theorem Qwl{σ:Nat->Nat}{p:PV}(h:p= .nilS∨∃β n,p= .ms β n)(hσ:∀β n,p= .ms β n->σ β=β):Qdu (p.ncells.map (rn1 σ))=p:=by
 rcases h with rfl|⟨β,n,rfl⟩
 ·rfl
 ·have:=hσ β n rfl
  simp[PV.ncells,PV.cells,rn1,Qdu,this]
theorem Qakm{β δ γ e ty B i n:Nat}{L:Nat->Nat}(hβ:β<1000000)(hB:2000000<=B)(hγ:2000000<=γ):rnP (mvN β δ) (.nst γ e ty (Qeg B i n L))= .nst γ e ty (Qeg B i n L):=by
 have e1:mvN β δ γ=γ:=by unfold mvN;rw[if_neg (by omega)]
 simp only[rnP,e1]
 congr 1
 conv=>rhs;rw[<-List.map_id (Qeg B i n L)]
 refine List.map_congr_left fun x hx=> ?_
 rcases List.mem_append.1 hx with hx|hx
 ·obtain⟨y,hy,rfl⟩:=List.mem_map.1 hx
  obtain⟨j,hj,rfl⟩:=List.mem_map.1 hy
  refine Qwl (.inr ⟨_,_,rfl⟩) fun β' n' h=> ?_
  cases h;unfold mvN;rw[if_neg (by omega)]
 ·obtain rfl:=List.eq_of_mem_replicate hx
  exact Qwl (.inl rfl) fun _ _ h=>by cases h
def Qbc(B n w:Nat)(π:Nat->Nat):List (Nat×Nat):=(List.range n).map fun r=>(B+π r,w)
theorem Q6h(B n w:Nat):rws B n (fun _=>w)=Qbc B n w id:=rfl
theorem Q2y(B n w:Nat)(π:Nat->Nat):(Qbc B n w π).length=n:=by simp[Qbc]
theorem Q0n{B n w r:Nat}{π:Nat->Nat}(h:r<(Qbc B n w π).length):(Qbc B n w π)[r]=(B+π r,w):=by simp[Qbc]
theorem Quq{B n w:Nat}{π:Nat->Nat}:∀β∈(Qak (Qbc B n w π)).flatMap (fun x=>x.ncells.flatMap PV.sref1),∃r,r<n/\β=B+π r:=by
 intro β hβ
 obtain⟨x,hx,hβ⟩:=List.mem_flatMap.1 hβ
 obtain⟨y,hy,rfl⟩:=List.mem_map.1 hx
 obtain⟨r,hr,rfl⟩:=List.mem_map.1 hy
 exact⟨r,List.mem_range.1 hr,by simpa[PV.ncells,PV.cells,PV.sref1]using hβ⟩
def Qad{α:Type}(p:α->PV)(f:Nat->α)(w:Nat):List PV:=(List.range w).map fun c=>p (f c)
theorem Qa0{α:Type}(p:α->PV)(f:Nat->α)(w:Nat):(Qad p f w).length=w:=by simp[Qad]
theorem Qeh{α:Type}{p:α->PV}{f:Nat->α}{w c:Nat}(h:c<(Qad p f w).length):(Qad p f w)[c]=p (f c):=by simp[Qad]
theorem Qaeq{α:Type}{p:α->PV}{f g:Nat->α}{w c:Nat}{v:α}(h:∀k,k<w->g k=if k=c then v else f k):(Qad p f w).set c (p v)=Qad p g w:=by
 refine List.ext_getElem (by simp[Qad]) fun j h1 h2=> ?_
 have hj:j<w:=by simpa[Qad]using h2
 rw[Qeh,List.getElem_set,Qeh,h j hj]
 split
 ·rename_i e;subst e;simp
 ·rename_i e;rw[if_neg fun e2=>e e2.symm]
theorem Qcr{α:Type}{p:α->PV}{f g:Nat->α}{w:Nat}(h:∀k,k<w->f k=g k):Qad p f w=Qad p g w:=
 List.map_congr_left fun c hc=>by rw[h c (List.mem_range.1 hc)]
theorem Qnt{α:Type}{p:α->PV}{f:Nat->α}{w:Nat}(h:0<w):Qad p f w≠[]:=by
 intro e;have:=Qa0 p f w;rw[e]at this;simp at this;omega
theorem Qar5{by_ ty d:Nat}{k k':IntKind}{n c:Nat}(h2:n<=c)(h3:by_*c<=281474976710656)(h4:c<=9223372036854775807):
  mkK 3 by_ ty (.agg [.bool false,.nilS,.nilS]) (.int k (n:Int)) (.int k' (c:Int)) d fr hp K=K (upd (Qa7 d fr) d (.ms d n)) (Qw hp d ⟨3,ty,List.replicate n (.agg [.bool false,.nilS,.nilS]),false⟩):=by
 rw[Qyr (e:=3) (by omega) rfl (by omega) (by omega) (by omega) (by omega)];rfl
attribute [go_sem] Qar5
end Go.FW
namespace Go.FW
open Go
def pev(φ:List Int->Rat):List Tm->Rat
 | []=>0
 |t::p=>t.1*φ t.2+pev φ p
theorem Qds(φ:List Int->Rat):pev φ []=0:=rfl
theorem Qbl(φ:List Int->Rat)(t:Tm)(p:List Tm):pev φ (t::p)=t.1*φ t.2+pev φ p:=rfl
theorem Qmq{φ ψ:List Int->Rat}:∀ {p:List Tm},(∀t∈p,φ t.2=ψ t.2)->pev φ p=pev ψ p
 | [],_=>rfl
 |t::p,h=>by
  rw[Qbl,Qbl,h t (by simp),Qmq (p:=p) (fun x hx=>h x (by simp[hx]))]
theorem Q4g(φ ψ:List Int->Rat):∀(p:List Tm),pev (fun m=>φ m+ψ m) p=pev φ p+pev ψ p
 | []=>by simp only[Qds];grind
 |t::p=>by simp only[Qbl];rw[Q4g φ ψ p];grind
theorem Q0o(c:Rat)(φ:List Int->Rat):∀(p:List Tm),pev (fun m=>c*φ m) p=c*pev φ p
 | []=>by simp only[Qds];grind
 |t::p=>by simp only[Qbl];rw[Q0o c φ p];grind
theorem Q0p:∀(p:List Tm),pev (fun _=>0) p=0
 | []=>rfl
 |t::p=>by simp only[Qbl];rw[Q0p p];grind
theorem Qtd(ψ:List Int->List Int->Rat)(q:List Tm):∀(p:List Tm),pev (fun m=>pev (fun n=>ψ m n) q) p=pev (fun n=>pev (fun m=>ψ m n) p) q
 | []=>by simp only[Qds];rw[Q0p]
 |t::p=>by
  simp only[Qbl]
  rw[Qtd ψ q p,Q4g (fun n=>t.1*ψ t.2 n),Q0o]
def Can(p:List Tm):Prop:=∀t∈p,t.2.getLast? ≠some 0
def NZ(p:List Tm):Prop:=∀t∈p,t.1≠0
structure Nrm(p:List Tm):Prop where
 c:Can p
 z:NZ p
 s:Qcz p
theorem Can.cons{t:Tm}{p:List Tm}:Can (t::p)↔t.2.getLast? ≠some 0/\Can p:=by simp[Can]
theorem NZ.cons{t:Tm}{p:List Tm}:NZ (t::p)↔t.1≠0/\NZ p:=by simp[NZ]
theorem Nrm.nil:Nrm []:=⟨by simp[Can],by simp[NZ],trivial⟩
theorem Nrm.tail{t:Tm}{p:List Tm}(h:Nrm (t::p)):Nrm p:=⟨(Can.cons.1 h.c).2,(NZ.cons.1 h.z).2,h.s.2⟩
theorem Nrm.one{t:Tm}(h:t.1≠0)(hm:t.2.getLast? ≠some 0):Nrm [t]:=⟨by simpa[Can]using hm,by simpa[NZ]using h,⟨by simp,trivial⟩⟩
theorem PVd.nrm{p:List Tm}(h:PVd p):Nrm p:=⟨fun t ht=>Qdg (h.t t ht).m,fun t ht=>(h.t t ht).c,h.s⟩
theorem Qte{φ:List Int->Rat}:∀ {p q:List Tm},Can p->Can q->pev φ (Qap p q)=pev φ p+pev φ q:=by
 intro p q
 induction p,q using Qap.induct with
 |case1 q=>rw[Qap,Qds];intros;grind
 |case2 p h=>rw[Qdn,Qds];intros;grind
 |case3 c m p d l q h ih=>
  intro hp hq
  rw[Qap,if_pos h,Qbl,Qbl,ih (Can.cons.1 hp).2 hq];grind
 |case4 c m p d l q h1 h2 ih=>
  intro hp hq
  rw[Qap,if_neg h1,if_pos h2,Qbl,ih hp (Can.cons.1 hq).2,Qbl φ (d,l)];grind
 |case5 c m p d l q h1 h2 h3 ih=>
  intro hp hq
  have e:=Qop h1 h2 (Can.cons.1 hp).1 (Can.cons.1 hq).1
  rw[Qap,if_neg h1,if_neg h2,if_pos h3,ih (Can.cons.1 hp).2 (Can.cons.1 hq).2,Qbl,Qbl]
  subst e
  have:c*φ m+d*φ m=0:=by rw[<-Rat.add_mul,h3];grind
  grind
 |case6 c m p d l q h1 h2 h3 ih=>
  intro hp hq
  have e:=Qop h1 h2 (Can.cons.1 hp).1 (Can.cons.1 hq).1
  rw[Qap,if_neg h1,if_neg h2,if_neg h3,Qbl,ih (Can.cons.1 hp).2 (Can.cons.1 hq).2,Qbl,Qbl]
  subst e
  grind
theorem Qjk:∀ {p q:List Tm} {t:Tm},t∈Qap p q->(∃s∈p,s.2=t.2)∨(∃s∈q,s.2=t.2):=by
 intro p q
 induction p,q using Qap.induct with
 |case1 q=>rw[Qap];intro t ht;exact Or.inr ⟨t,ht,rfl⟩
 |case2 p h=>rw[Qdn];intro t ht;exact Or.inl ⟨t,ht,rfl⟩
 | case3 c m p d l q h ih=>
  intro t ht
  rw[Qap,if_pos h]at ht
  rcases List.mem_cons.1 ht with rfl|ht
  ·exact Or.inl ⟨_,by simp,rfl⟩
  ·rcases ih ht with⟨s,h1,h2⟩|h1
   ·exact Or.inl ⟨s,by simp[h1],h2⟩
   ·exact Or.inr h1
 | case4 c m p d l q h1 h2 ih=>
  intro t ht
  rw[Qap,if_neg h1,if_pos h2]at ht
  rcases List.mem_cons.1 ht with rfl|ht
  ·exact Or.inr ⟨_,by simp,rfl⟩
  ·rcases ih ht with h3|⟨s,h3,h4⟩
   ·exact Or.inl h3
   ·exact Or.inr ⟨s,by simp[h3],h4⟩
 |case5 c m p d l q h1 h2 h3 ih=>
  intro t ht
  rw[Qap,if_neg h1,if_neg h2,if_pos h3]at ht
  rcases ih ht with⟨s,h4,h5⟩|⟨s,h4,h5⟩
  ·exact Or.inl ⟨s,by simp[h4],h5⟩
  ·exact Or.inr ⟨s,by simp[h4],h5⟩
 | case6 c m p d l q h1 h2 h3 ih=>
  intro t ht
  rw[Qap,if_neg h1,if_neg h2,if_neg h3]at ht
  rcases List.mem_cons.1 ht with rfl|ht
  ·exact Or.inl ⟨(c,m),by simp,rfl⟩
  ·rcases ih ht with⟨s,h4,h5⟩|⟨s,h4,h5⟩
   ·exact Or.inl ⟨s,by simp[h4],h5⟩
   ·exact Or.inr ⟨s,by simp[h4],h5⟩
theorem Q0q{p q:List Tm}(hp:Can p)(hq:Can q):Can (Qap p q):=fun t ht=>by
 rcases Qjk ht with⟨s,h1,h2⟩|⟨s,h1,h2⟩
 ·rw[<-h2];exact hp s h1
 ·rw[<-h2];exact hq s h1
theorem Qakn:∀ {p q:List Tm},NZ p->NZ q->NZ (Qap p q):=by
 intro p q
 induction p,q using Qap.induct with
 |case1 q=>rw[Qap];exact fun _ h=>h
 |case2 p h=>rw[Qdn];exact fun h _=>h
 |case3 c m p d l q h ih=>
  intro hp hq
  rw[Qap,if_pos h,NZ.cons]
  exact⟨(NZ.cons.1 hp).1,ih (NZ.cons.1 hp).2 hq⟩
 |case4 c m p d l q h1 h2 ih=>
  intro hp hq
  rw[Qap,if_neg h1,if_pos h2,NZ.cons]
  exact⟨(NZ.cons.1 hq).1,ih hp (NZ.cons.1 hq).2⟩
 |case5 c m p d l q h1 h2 h3 ih=>
  intro hp hq
  rw[Qap,if_neg h1,if_neg h2,if_pos h3]
  exact ih (NZ.cons.1 hp).2 (NZ.cons.1 hq).2
 |case6 c m p d l q h1 h2 h3 ih=>
  intro hp hq
  rw[Qap,if_neg h1,if_neg h2,if_neg h3,NZ.cons]
  exact⟨h3,ih (NZ.cons.1 hp).2 (NZ.cons.1 hq).2⟩
theorem Q6i{a b c:List Int}(h:Qau a b=0)(h2:0<Qau b c):0<Qau a c:=by
 have e:∀i,eN a i=eN b i:=by
  intro i
  have:=(Qmm a b _).1 h
  by_cases hi:i<max a.length b.length
  ·exact this i hi
  ·rw[Qed (by omega),Qed (by omega)]
 rw[Q52 e (fun _=>rfl)];exact h2
theorem Q2z:∀ {p q:List Tm},Qcz p->Qcz q->Qcz (Qap p q):=by
 intro p q
 induction p,q using Qap.induct with
 |case1 q=>rw[Qap];exact fun _ h=>h
 |case2 p h=>rw[Qdn];exact fun h _=>h
 | case3 c m p d l q h ih=>
  intro hp hq
  rw[Qap,if_pos h]
  refine⟨fun t ht=> ?_,ih hp.2 hq⟩
  rcases Qjk ht with⟨s,h1,h2⟩|⟨s,h1,h2⟩
  ·rw[<-h2];exact hp.1 s h1
  ·rw[<-h2]
   rcases List.mem_cons.1 h1 with rfl|h1
   ·exact h
   ·exact Qfa h (hq.1 s h1)
 | case4 c m p d l q h1 h2 ih=>
  intro hp hq
  rw[Qap,if_neg h1,if_pos h2]
  have h2':0<Qau l m:=by have:=Qjj m l;omega
  refine⟨fun t ht=> ?_,ih hp hq.2⟩
  rcases Qjk ht with⟨s,h3,h4⟩|⟨s,h3,h4⟩
  ·rw[<-h4]
   rcases List.mem_cons.1 h3 with rfl|h3
   ·exact h2'
   ·exact Qfa h2' (hp.1 s h3)
  ·rw[<-h4];exact hq.1 s h3
 |case5 c m p d l q h1 h2 h3 ih=>
  intro hp hq
  rw[Qap,if_neg h1,if_neg h2,if_pos h3]
  exact ih hp.2 hq.2
 |case6 c m p d l q h1 h2 h3 ih=>
  intro hp hq
  rw[Qap,if_neg h1,if_neg h2,if_neg h3]
  refine⟨fun t ht=> ?_,ih hp.2 hq.2⟩
  rcases Qjk ht with⟨s,h4,h5⟩|⟨s,h4,h5⟩
  ·rw[<-h5];exact hp.1 s h4
  ·rw[<-h5];exact Q6i (b:=l) (by show Qau m l=0;omega) (hq.1 s h4)
theorem Qtf{p q:List Tm}(hp:Nrm p)(hq:Nrm q):Nrm (Qap p q):=⟨Q0q hp.c hq.c,Qakn hp.z hq.z,Q2z hp.s hq.s⟩
def ind(m:List Int):List Int->Rat:=fun n=>if n=m then 1 else 0
theorem Qjv{m:List Int}:∀ {p:List Tm},(∀t∈p,t.2≠m)->pev (ind m) p=0
 | [],_=>rfl
 |t::p,h=>by
  rw[Qbl,Qjv (p:=p) (fun x hx=>h x (by simp[hx])),ind,if_neg (h t (by simp))];grind
theorem Qur{a b:List Int}(h:0<Qau a b):b≠a:=by rintro rfl;rw[Qqg]at h;omega
theorem Qge{t:Tm}{p:List Tm}(h:Qcz (t::p)):pev (ind t.2) (t::p)=t.1:=by
 rw[Qbl,Qjv (fun s hs=>Qur (h.1 s hs)),ind,if_pos rfl];grind
theorem Qwm:∀ {p q:List Tm},Nrm p->Nrm q->(∀φ,pev φ p=pev φ q)->p=q
 | [],[],_,_,_=>rfl
 | [],t::q,_,hq,h=>by
  have:=h (ind t.2)
  rw[Qge hq.s,Qds]at this
  exact absurd this.symm (hq.z t (by simp))
 |t::p,[],hp,_,h=>by
  have:=h (ind t.2)
  rw[Qge hp.s,Qds]at this
  exact absurd this (hp.z t (by simp))
 | s ::p,t::q,hp,hq,h=>by
  by_cases h1:0<Qau s.2 t.2
  ·have:=h (ind s.2)
   rw[Qge hp.s,Qjv (fun x hx=> ?_)]at this
   ·exact absurd this (hp.z s (by simp))
   ·rcases List.mem_cons.1 hx with rfl|hx
    ·exact Qur h1
    ·exact Qur (Qfa h1 (hq.s.1 x hx))
  ·by_cases h2:Qau s.2 t.2<0
   ·have h2':0<Qau t.2 s.2:=by have:=Qjj s.2 t.2;omega
    have:=h (ind t.2)
    rw[Qge hq.s,Qjv (fun x hx=> ?_)]at this
    ·exact absurd this.symm (hq.z t (by simp))
    ·rcases List.mem_cons.1 hx with rfl|hx
     ·exact Qur h2'
     ·exact Qur (Qfa h2' (hp.s.1 x hx))
   ·have e:=Qop h1 h2 (hp.c s (by simp)) (hq.c t (by simp))
    have e2:=h (ind s.2)
    rw[Qge hp.s,e,Qge hq.s]at e2
    have e3:s=t:=Prod.ext e2 e
    subst e3
    rw[Qwm hp.tail hq.tail (fun φ=>by have:=h φ;rw[Qbl,Qbl]at this;grind)]
theorem Qxk{φ:List Int->Rat}:∀(n:Nat)(l:List (List Tm)),l.length<=n->(∀p∈l,Can p)->Can (Qc5 l)/\pev φ (Qc5 l)=(l.map (pev φ)).sum:=by
 intro n
 induction n with
 |zero=>
  intro l hl _
  have:l=[]:=List.length_eq_zero_iff.1 (by omega)
  subst this
  rw[Qc5];exact⟨Nrm.nil.c,rfl⟩
 | succ n ih=>
  intro l hl h
  match l,h with
  | [],_=>rw[Qc5];exact⟨Nrm.nil.c,rfl⟩
  | [p],h=>rw[Qc5];exact⟨h p (by simp),by simp;grind⟩
  |p::q::r,h=>
   rw[Qkf (by simp)]
   generalize hL:p::q::r=L at *
   have hlen:2<=L.length:=by rw[<-hL];simp
   obtain⟨a1,a2⟩:=ih (L.take (L.length/2)) (by rw[List.length_take];omega) (fun x hx=>h x (List.mem_of_mem_take hx))
   obtain⟨b1,b2⟩:=ih (L.drop (L.length/2)) (by rw[List.length_drop];omega) (fun x hx=>h x (List.mem_of_mem_drop hx))
   refine⟨Q0q a1 b1,?_⟩
   rw[Qte a1 b1,a2,b2,<-List.sum_append,<-List.map_append,List.take_append_drop]
theorem Q0r:∀(n:Nat)(l:List (List Tm)),l.length<=n->(∀p∈l,Nrm p)->Nrm (Qc5 l):=by
 intro n
 induction n with
 |zero=>
  intro l hl _
  have:l=[]:=List.length_eq_zero_iff.1 (by omega)
  subst this
  rw[Qc5];exact Nrm.nil
 | succ n ih=>
  intro l hl h
  match l,h with
  | [],_=>rw[Qc5];exact Nrm.nil
  | [p],h=>rw[Qc5];exact h p (by simp)
  | p::q::r,h=>
   rw[Qkf (by simp)]
   generalize hL:p::q::r=L at *
   have hlen:2<=L.length:=by rw[<-hL];simp
   exact Qtf (ih (L.take (L.length/2)) (by rw[List.length_take];omega) (fun x hx=>h x (List.mem_of_mem_take hx)))
    (ih (L.drop (L.length/2)) (by rw[List.length_drop];omega) (fun x hx=>h x (List.mem_of_mem_drop hx)))
theorem Qo1(φ:List Int->Rat)(t:Tm):∀(p:List Tm),pev φ (Qa6 p t)=t.1*pev (fun m=>φ (Qa5 m t.2)) p
 | []=>by rw[Qa6,List.filterMap_nil,Qds,Qds];grind
 | s::p=>by
  have ih:=Qo1 φ t p
  rw[Qa6]at ih⊢
  rw[List.filterMap_cons]
  by_cases h:s.1*t.1=0
  ·simp only[h,if_true,Qbl]
   rw[ih]
   have:t.1*(s.1*φ (Qa5 s.2 t.2))=(s.1*t.1)*φ (Qa5 s.2 t.2):=by grind
   rw[Rat.mul_add,this,h];grind
  ·simp only[h,if_false,Qbl]
   rw[ih];grind
theorem Qo2(p:List Tm)(t:Tm):Can (Qa6 p t):=by
 intro x hx
 simp only[Qa6,List.mem_filterMap]at hx
 obtain⟨y,hy,h⟩:=hx
 split at h
 ·cases h
 ·cases h;exact Qie _ _
theorem Q9w(p:List Tm)(t:Tm):NZ (Qa6 p t):=by
 intro x hx
 simp only[Qa6,List.mem_filterMap]at hx
 obtain⟨y,hy,h⟩:=hx
 split at h
 ·cases h
 ·rename_i h0;cases h;exact h0
theorem Qpr(t:Tm):∀(p:List Tm),Qcz p->Qcz (Qa6 p t)
 | [],_=>trivial
 | s ::p,hp=>by
  have ih:=Qpr t p hp.2
  rw[Qa6]at ih⊢
  rw[List.filterMap_cons]
  split
  ·exact ih
  ·rename_i b hb
   split at hb
   ·cases hb
   ·cases hb
    refine⟨fun x hx=> ?_,ih⟩
    simp only[List.mem_filterMap]at hx
    obtain⟨y,hy,h⟩:=hx
    split at h
    ·cases h
    ·cases h
     simp only[Qac0]
     exact hp.1 y hy
theorem Qus{p:List Tm}(t:Tm)(hp:Qcz p):Nrm (Qa6 p t):=⟨Qo2 _ _,Q9w _ _,Qpr t p hp⟩
theorem Qut(φ:List Int->Rat)(q:List Tm):∀(p:List Tm),((p.map (Qa6 q)).map (pev φ)).sum=pev (fun m=>pev (fun n=>φ (Qa5 m n)) q) p
 | []=>rfl
 |t::p=>by
  rw[List.map_cons,List.map_cons,List.sum_cons,Qut φ q p,Qo1,Qbl]
  congr 2
  exact Qmq fun s _=>by rw[Qmn]
theorem Qxl(φ:List Int->Rat)(p q:List Tm):pev φ (Qrk p q)=pev (fun m=>pev (fun n=>φ (Qa5 m n)) q) p:=by
 rw[Qrk,(Qxk (φ:=φ) _ _ (Nat.le_refl _) ?_).2,Qut]
 intro x hx
 obtain⟨t,_,rfl⟩:=List.mem_map.1 hx
 exact Qo2 _ _
theorem Qaer(φ:List Int->Rat)(p q:List Tm):pev φ (Qhj p q)=pev (fun m=>pev (fun n=>φ (Qa5 m n)) q) p:=by
 unfold Qhj
 split
 ·rw[Qxl,Qtd (fun m n=>φ (Qa5 m n))]
  exact Qmq fun s _=>Qmq fun t _=>by rw[Qmn]
 ·exact Qxl φ p q
theorem Qxm{p q:List Tm}(hq:Qcz q):Nrm (Qrk p q):=Q0r _ _ (Nat.le_refl _) fun x hx=>by
 obtain⟨t,_,rfl⟩:=List.mem_map.1 hx
 exact Qus t hq
theorem Qaes{p q:List Tm}(hp:Qcz p)(hq:Qcz q):Nrm (Qhj p q):=by
 unfold Qhj
 split
 ·exact Qxm hp
 ·exact Qxm hq
def Qhu(p q:List Tm):List Tm:=q.foldl (fun out t=>Qap out (Qa6 p t)) []
theorem Qxn(p:List Tm)(hp:Nrm p):∀(q out:List Tm),Nrm out->Nrm (q.foldl (fun out t=>Qap out (Qa6 p t)) out)/\
  ∀φ,pev φ (q.foldl (fun out t=>Qap out (Qa6 p t)) out)=pev φ out+pev (fun m=>pev (fun n=>φ (Qa5 n m)) p) q
 | [],out,h=>⟨h,fun φ=>by rw[List.foldl_nil,Qds];grind⟩
 |t::q,out,h=>by
  obtain⟨h1,h2⟩:=Qxn p hp q (Qap out (Qa6 p t)) (Qtf h (Qus t hp.s))
  refine⟨h1,fun φ=> ?_⟩
  rw[List.foldl_cons,h2,Qte h.c (Qo2 _ _),Qo1,Qbl];grind
theorem Q0s{p q:List Tm}(hp:Nrm p)(hq:Nrm q):Qhu p q=Qhj p q:=by
 obtain⟨h1,h2⟩:=Qxn p hp q [] Nrm.nil
 refine Qwm h1 (Qaes hp.s hq.s) fun φ=> ?_
 rw[Qhu,h2,Qaer,Qds,Qtd (fun m n=>φ (Qa5 m n))]
 grind
variable {C : Ctx} {fr : Fr} {hp : HP} {w : World} {K R : Qp}
theorem Q4h{len e β j o d i:Nat}{k:IntKind}(h:i<len):Ql7 len e (.mp β j o) (.int k (i:Int)) d fr hp K=K (upd fr d (.mp β j (o+i*e))) hp:=by
 simp only[Ql7,Int.toNat_natCast]
 exact propext ⟨fun h=>h.2.2,fun h'=>⟨by omega,by omega,h'⟩⟩
theorem Q20{e by_ ty d:Nat}(h0:0<e):Qe5 e by_ ty .nilS (.sl e []) d fr hp K=K (upd (Qa7 d fr) d (.ms d 0)) (Qw hp d ⟨e,ty,[],false⟩):=by
 have:=Qky (fr:=fr) (hp:=hp) (K:=K) (e:=e) (by_:=by_) (ty:=ty) (d:=d) (x:= .sl e []) (ys:=[]) rfl h0 (by simp) (by simp)
 simpa using this
theorem Q0t{len d i:Nat}{k:IntKind}{bs:List Bool}(hl:bs.length=len)(h:i<bs.length):Qp1 len 1 false (.agg (bs.map PV.bool)) (.int k (i:Int)) d fr hp K=K (upd fr d (.bool bs[i])) hp:=by
 have e:ldV false 1 (i*1) (.agg (bs.map PV.bool))= .bool bs[i]:=by
  show((bs.map PV.bool).drop (i*1)).headD .undef=_
  rw[Nat.mul_one,List.drop_eq_getElem_cons (by simpa using h)]
  simp
 simp only[Qp1,Int.toNat_natCast]
 rw[e]
 exact propext ⟨fun h=>h.2.2.2.2,fun h'=>⟨by omega,by omega,by simp;omega,by simp,h'⟩⟩
theorem Q6j{n:Nat}{bs:List Bool}(h:bs.length=n):(bs.map PV.bool).take n=bs.map PV.bool:=List.take_of_length_le (by simp[h])
def Qgk(n:Nat)(h:Nat->Bool):List Bool:=(List.range n).map h
theorem Qjw(n:Nat)(h:Nat->Bool):(Qgk n h).length=n:=by simp[Qgk]
theorem Qaet{n:Nat}{h:Nat->Bool}{i:Nat}(hi:i<(Qgk n h).length):(Qgk n h)[i]=h i:=by simp[Qgk]
theorem Quu{n:Nat}{h g:Nat->Bool}(e:∀i,i<n->h i=g i):Qgk n h=Qgk n g:=List.map_congr_left fun i hi=>e i (List.mem_range.1 hi)
theorem Qaeu{n j:Nat}{h g:Nat->Bool}(hj:j<n)(e:∀i,i<n->g i=if i=j then true else h i):
  ((Qgk n h).map PV.bool).take j++(PV.bool true).cells++((Qgk n h).map PV.bool).drop (j+1)=(Qgk n g).map PV.bool:=by
 apply List.ext_getElem
 ·simp[Qgk,PV.cells];omega
 ·intro i h1 h2
  have hi:i<n:=by simpa[Qgk]using h2
  have e1:((Qgk n g).map PV.bool)[i]=PV.bool (g i):=by simp[Qgk]
  rw[e1,e i hi]
  simp only[Qgk,PV.cells]
  by_cases hij:i=j
  ·subst hij
   rw[List.getElem_append_left (by simp;omega),List.getElem_append_right (by simp;omega)]
   simp
  ·rw[if_neg hij]
   by_cases hlt:i<j
   ·rw[List.getElem_append_left (by simp;omega),List.getElem_append_left (by simp;omega)]
    simp
   ·rw[List.getElem_append_right (by simp;omega)]
    simp
    congr 1;omega
def Qei(p:List Tm)(v:Nat):Bool:=p.any fun t=>decide (eN t.2 v≠0)
def Qiy(n:Nat)(h:Nat->Bool):List Int:=((List.range n).filter h).map fun(v:Nat)=>(v:Int)
def Qahs(p:List Tm):List Int:=Qiy 64 (Qei p)
theorem Q21(n:Nat)(h:Nat->Bool):Qiy (n+1) h=Qiy n h++(if h n=true then [(n:Int)]else []):=by
 unfold Qiy
 rw[List.range_succ,List.filter_append,List.map_append]
 congr 1
 by_cases hn:h n=true
 ·simp[hn]
 ·simp[hn]
theorem Qyg(n:Nat)(h:Nat->Bool):(Qiy n h).length<=n:=by
 unfold Qiy;rw[List.length_map];exact Nat.le_trans (List.length_filter_le _ _) (by simp)
theorem Q9x{p:List Tm}{i:Nat}(h:i<p.length)(v:Nat):Qei (p.take (i+1)) v=(Qei (p.take i) v||decide (eN p[i].2 v≠0)):=by
 rw[List.take_succ_eq_append_getElem h,Qei,List.any_append];simp[Qei]
end Go.FW
namespace Go.FW
open Go
theorem Qwn{m:List Int}{c:Rat}:∀ {u v:List Tm},(∀t∈u,0<Qau t.2 m)->(∀t∈v,Qau t.2 m<0)->Qap (u++v) [(c,m)]=u++(c,m)::v
 | [],[],_,_=>by rw[List.nil_append,Qh7];rfl
 | [],t::v,_,hv=>by
  have h1:=hv t (by simp)
  rw[List.nil_append,Qkg,if_neg (by show ¬0<Qau t.2 m;omega),if_pos (by exact h1),Qdn];rfl
 |t::u,v,hu,hv=>by
  rw[List.cons_append,Qkg,if_pos (by exact hu t (by simp)),Qwn (fun s hs=>hu s (by simp[hs])) hv];rfl
theorem Q4i{m:List Int}{c d:Rat}:∀ {u v:List Tm},(∀t∈u,0<Qau t.2 m)->Qap (u++(d,m)::v) [(c,m)]=u++(if d+c=0 then []else [(d+c,m)])++v
 | [],v,_=>by
  have h0:=Qqg m
  rw[List.nil_append,Qkg,if_neg (by show ¬0<Qau m m;omega),if_neg (by show ¬Qau m m<0;omega)]
  show(if d+c=0 then Qap v []else(d+c,m)::Qap v [])=_
  rw[Qdn]
  split<;>rfl
 |t::u,v,hu=>by
  rw[List.cons_append,Qkg,if_pos (by exact hu t (by simp)),Q4i (fun s hs=>hu s (by simp[hs]))];simp
def Qeq(p:List Tm)(c:Rat)(m:List Int):List Tm:=Qap p (if c=0 then []else [(c,m)])
theorem Q0u{p:List Tm}(hs:Qcz p):∀ {i:Nat} (h:i<p.length),∀t∈p.take i,0<Qau t.2 p[i].2:=by
 induction p with
 |nil=>intro i h;simp at h
 | cons s p ih=>
  intro i h t ht
  cases i with
  |zero=>simp at ht
  |succ i=>
   simp only[List.take_succ_cons,List.mem_cons]at ht
   have hi:i<p.length:=by simpa using h
   show 0<Qau t.2 p[i].2
   rcases ht with rfl|ht
   ·exact hs.1 _ (List.getElem_mem hi)
   ·exact ih hs.2 hi t ht
theorem Q9y{c:Rat}{m:List Int}(hl:m.getLast? ≠some 0):Nrm (if c=0 then []else [(c,m)]):=by
 split
 ·exact Nrm.nil
 ·rename_i h;exact Nrm.one h hl
theorem Q9z{p:List Tm}{c:Rat}{m:List Int}(hp:Nrm p)(hl:m.getLast? ≠some 0):Nrm (Qeq p c m):=Qtf hp (Q9y hl)
theorem Q90{φ:List Int->Rat}{p:List Tm}{c:Rat}{m:List Int}(hp:Can p)(hl:m.getLast? ≠some 0):pev φ (Qeq p c m)=pev φ p+c*φ m:=by
 rw[Qeq,Qte hp (Q9y hl).c]
 split
 ·rename_i h;rw[h,Qds];grind
 ·rw[Qbl,Qds];grind
def Qlg(a m:List Int):Bool:=(List.range a.length).all fun i=>decide (eN a i=eN m i)
theorem Qjx{a m:List Int}:Qlg a m=true↔∀i,i<a.length->eN a i=eN m i:=by
 simp[Qlg,List.all_eq_true]
theorem Q0v(a:List Int):Qlg a (if Qaj (Qbb a)then Qbb a else [])=Qaj (Qbb a):=by
 cases h:Qaj (Qbb a)
 ·rw[if_neg (by simp)]
  cases hz:Qlg a []with
  |false=>rfl
  | true=>
   rw[Qjx]at hz
   have e:Qbb a=[]:=Qlz (Qon a) (by simp) fun i=>by
    rw[Qom,Qz6]
    by_cases hi:i<a.length
    ·rw[hz i hi,Qz6]
    ·exact Qed (by omega)
   rw[e]at h
   exact absurd h (by decide)
 ·rw[if_pos rfl,Qjx]
  intro i _;rw[Qom]
def Qk2(t:RTm):Option Tm:=if Qaj (Qbb t.m)=true then some (t.q,Qbb t.m)else none
def Qgc(l:List RTm):List Tm:=l.filterMap Qk2
def Qhv(t:Tm):Option (List Tm):=if t.1=0 then none else some [t]
def Qdo(l:List RTm):List (List Tm):=(Qgc l).filterMap Qhv
def Qo3(l:List RTm):List Tm:=Qc5 (Qdo l)
def Qgy(l:List RTm):List Tm:=(Qgc l).foldl (fun out t=>Qeq out t.1 t.2) []
theorem Qsa{l:List RTm}{i:Nat}(h:i<l.length):Qgc (l.take (i+1))=Qgc (l.take i)++(Qk2 l[i]).toList:=by
 rw[List.take_succ_eq_append_getElem h,Qgc,List.filterMap_append]
 congr 1
theorem Q22{l:List RTm}{i:Nat}(h:i<l.length):Qdo (l.take (i+1))=Qdo (l.take i)++((Qk2 l[i]).toList.filterMap Qhv):=by
 rw[Qdo,Qsa h,List.filterMap_append];rfl
theorem Q23{l:List RTm}{i:Nat}(h:i<l.length):Qgy (l.take (i+1))=(Qk2 l[i]).toList.foldl (fun out t=>Qeq out t.1 t.2) (Qgy (l.take i)):=by
 rw[Qgy,Qsa h,List.foldl_append];rfl
theorem Qo4{t:RTm}(h:Qaj (Qbb t.m)=true):Qk2 t=some (t.q,Qbb t.m):=by rw[Qk2,if_pos h]
theorem Qo5{t:RTm}(h:Qaj (Qbb t.m)=false):Qk2 t=none:=by rw[Qk2,if_neg (by simp[h])]
theorem Qo6{l:List RTm}{t:Tm}(h:t∈Qgc l):∃r∈l,t=(r.q,Qbb r.m)/\Qaj (Qbb r.m)=true:=by
 simp only[Qgc,List.mem_filterMap]at h
 obtain⟨r,h1,h2⟩:=h
 unfold Qk2 at h2
 split at h2
 ·rename_i hm;cases h2;exact⟨r,h1,rfl,hm⟩
 ·cases h2
theorem Qo7{l:List RTm}{p:List Tm}(h:p∈Qdo l):∃t∈Qgc l,p=[t]/\t.1≠0:=by
 simp only[Qdo,List.mem_filterMap]at h
 obtain⟨t,h1,h2⟩:=h
 unfold Qhv at h2
 split at h2
 ·cases h2
 ·rename_i hm;cases h2;exact⟨t,h1,rfl,hm⟩
theorem Qyh(l:List RTm):(Qgc l).length<=l.length:=List.length_filterMap_le _ _
theorem Qhw(l:List RTm):(Qdo l).length<=l.length:=Nat.le_trans (List.length_filterMap_le _ _) (Qyh l)
theorem Quv(l:List RTm):∀p∈Qdo l,Nrm p:=fun p hp=>by
 obtain⟨t,h1,rfl,h3⟩:=Qo7 hp
 obtain⟨r,_,rfl,h5⟩:=Qo6 h1
 exact Nrm.one h3 (Qdg h5)
theorem Qxo(l:List RTm):Nrm (Qo3 l):=Q0r _ _ (Nat.le_refl _) (Quv l)
theorem Qo8:∀(ts:List Tm),(∀t∈ts,t.2.getLast? ≠some 0)->∀out,Nrm out->Nrm (ts.foldl (fun out t=>Qeq out t.1 t.2) out)/\∀φ,pev φ (ts.foldl (fun out t=>Qeq out t.1 t.2) out)=pev φ out+pev φ ts
 | [],_,out,ho=>⟨ho,fun φ=>by rw[List.foldl_nil,Qds];grind⟩
 |t::ts,h,out,ho=>by
  have hl:=h t (by simp)
  obtain⟨h1,h2⟩:=Qo8 ts (fun x hx=>h x (by simp[hx])) (Qeq out t.1 t.2) (Q9z ho hl)
  refine⟨h1,fun φ=> ?_⟩
  rw[List.foldl_cons,h2,Q90 ho.c hl,Qbl];grind
theorem Qsb(l:List RTm):∀t∈Qgc l,t.2.getLast? ≠some 0:=fun t ht=>by
 obtain⟨r,_,rfl,h5⟩:=Qo6 ht
 exact Qdg h5
theorem Quw(l:List RTm):Nrm (Qgy l):=(Qo8 _ (Qsb l) [] Nrm.nil).1
theorem Qux(φ:List Int->Rat):∀(ts:List Tm),((ts.filterMap Qhv).map (pev φ)).sum=pev φ ts
 | []=>rfl
 | t::ts=>by
  have ih:=Qux φ ts
  rw[List.filterMap_cons,Qbl]
  by_cases h:t.1=0
  ·have e:Qhv t=none:=if_pos h
   rw[e]
   show((ts.filterMap Qhv).map (pev φ)).sum=_
   rw[ih,h];grind
  ·have e:Qhv t=some [t]:=if_neg h
   rw[e]
   show pev φ [t]+((ts.filterMap Qhv).map (pev φ)).sum=_
   rw[ih,Qbl,Qds];grind
theorem Qxp(l:List RTm):Qgy l=Qo3 l:=by
 refine Qwm (Quw l) (Qxo l) fun φ=> ?_
 rw[Qgy,(Qo8 _ (Qsb l) [] Nrm.nil).2,Qds,Qo3,(Qxk (φ:=φ) _ _ (Nat.le_refl _) (fun p hp=>(Quv l p hp).c)).2,Qdo,Qux]
 grind
theorem Q91{l:List RTm}{k:Nat}(hb:∀t∈l,rs t.q<=k):PB (k+1) 1048576 (Qgc l):=fun t ht=>by
 obtain⟨r,h1,rfl,h5⟩:=Qo6 ht
 exact⟨by have:=hb r h1;show rs r.q+1<=k+1;omega,MB.ofOk h5,Qdg h5⟩
theorem Qxq{l:List RTm}{k:Nat}(hb:∀t∈l,rs t.q<=k):∀p∈Qdo l,PB (k+1) 1048576 p:=fun p hp=>by
 obtain⟨t,h1,rfl,_⟩:=Qo7 hp
 intro s hs
 simp only[List.mem_singleton]at hs
 subst hs
 exact Q91 hb _ h1
theorem Qsc(l:List RTm):Qm2 (Qdo l)<=l.length:=by
 have key:∀L:List (List Tm),(∀p∈L,p.length=1)->Qm2 L=L.length:=by
  intro L
  induction L with
  |nil=>intro _;rfl
  |cons p L ih=>
   intro h
   have h1:=h p (by simp)
   have h2:=ih (fun q hq=>h q (by simp[hq]))
   unfold Qm2 at *
   rw[List.map_cons,List.sum_cons,h1,h2,List.length_cons];omega
 rw[key _ (fun p hp=>by obtain⟨t,_,rfl,_⟩:=Qo7 hp;rfl)]
 exact Qhw l
theorem Qsd{l:List RTm}{k:Nat}(hb:∀t∈l,rs t.q<=k):PB (l.length*(k+1)) 1048576 (Qo3 l)/\(Qo3 l).length<=l.length:=by
 obtain⟨h1,h2⟩:=Qoo _ (Qdo l) (Nat.le_refl _) (Qxq hb)
 exact⟨h1.mono (Nat.mul_le_mul_right _ (Qhw l)) (Nat.le_refl _),Nat.le_trans h2 (Qsc l)⟩
theorem Q0w(q:Rat):Qf3 (decide (q.num<0)) (dig q.num.natAbs) (dig q.den)=true:=by
 simp only[Qf3,Qhc,Bool.and_eq_true,decide_eq_true_eq]
 refine⟨?_,⟨?_,Qlw _⟩,?_⟩
 ·split
  ·rename_i h
   rw[Qb3]at h
   have:¬q.num<0:=by omega
   simp[this]
  ·exact decide_eq_true (Qlw _)
 ·rw[ne_eq,Qb3];exact q.den_nz
 ·rw[Qag,Qag];exact q.reduced
def toR(t:Tm):RTm:=⟨decide (t.1.num<0),dig t.1.num.natAbs,dig t.1.den,t.2⟩
theorem Qtg(p:List Tm):PV.rpoly (p.map toR)=PV.poly p:=by
 show PV.sl 4 ((p.map toR).map PV.rterm)=PV.sl 4 (p.map PV.term)
 rw[List.map_map];rfl
theorem Q0x{t:Tm}{k:Nat}(h:rs t.1<=k)(hm:t.2.length<2^40):RB k (toR t):=by
 have h1:nl t.1.num.natAbs<=k:=by unfold rs at h;omega
 have h2:nl t.1.den<=k:=by unfold rs at h;omega
 exact⟨⟨Qv _,Qv _,h1,h2⟩,hm⟩
def qpow(a:Rat):Nat->Rat
 |0=>1
 |n+1=>qpow a n*a
def mevN(vs:List Rat)(m:List Int):Nat->Rat
 |0=>1
 |n+1=>mevN vs m n*qpow (vs.getD n 0) (eN m n).toNat
def mev(vs:List Rat)(m:List Int):Rat:=mevN vs m m.length
abbrev PV.rats(vs:List Rat):PV:= .sl 3 (vs.map PV.rat)
end Go.FW
