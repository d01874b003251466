/- Part 3 of the proof of MatrixSolves: C1, CI, C1b, N1, N2, N3, N4, N5, N6, N7, N8, N9, N10, N11, N12, N13, N14, N15, I1, R1, R2, FwUB, FwNA, FwNB, FwND, FwNE, FwNF, FwNG, FwNS, FwNT, FwQA, FwSD, FwSE, FwSF, FwSG, FwSH, FwSI, FwSJ, FwSK, FwSL, FwUA, FwSM, FwUC, FwVA. Own lemmas; no conditions. -/
import Derived.Test.YtkoclfmjlolkhaaGreatMatrixSolvesPart2
import Derived.Test.YtkoclfmjlolkhaaGreatProg
set_option linter.unusedSimpArgs false
set_option linter.unusedVariables false
set_option linter.unnecessarySimpa false
set_option maxRecDepth 100000
namespace Go.Proofs.YtkoclfmjlolkhaaGreat
open Go Go.FW
theorem Qt:Tryz.prog.follows .mixedOrders=true:=by kernel_rfl
def Qvt:SFn:=⟨21,[.t 2],Zr (Zo (.mv 2 (.c .nilS)) .nil)<|Zr (Zm 4 0<|
 Zn 5 4<|
 Zm 3 5 .nil)<| .seq (.block 0<| .loop<| .seq (Zr (Zm 6 3<|
 Zk 7 .gtr 6 0<|
 Zm 8 7<|
 Zg 8 true (.mv 9 (.t 0))<|
 Zg 8 true (.mv 10 (.t 3))<|
 Zg 8 true (.bin 11 .sub false (.t 10) (.c (Zz 1)))<|
 Zg 8 true (.idx 12 1 (.t 9) (.t 11))<|
 Zg 8 true (.ld 13 1 false (.t 12))<|
 Zg 8 true (.bin 14 .eql false (.t 13) (.c (.int .u16 0)))<|
 Zo (.pick 15 (.t 8) (.t 14) (.c (.bool false))) .nil)<| .cond (.t 15) .skip (.exit 0))<| .block 1<| .rg (Zm 16 3<|
 Zk 17 .sub 16 1<|
 Zm 3 17 .nil))<|Zr (Zm 18 0<|
 Zm 19 3<|
 Zo (.sl 20 1 (.t 18) none (some (.t 19)) none)<|
 Zm 2 20 .nil) .ret⟩
theorem Qyd:Qe Tryz.prog Tryz.f212=some Qvt:=by kernel_rfl
def Q6b:SFn:=⟨16,[.t 2],Zr (Zo (.mv 2 (.c .nilS)) .nil)<|Zr (Zm 4 0<|
 Zq 5 false 212 [.t 4]<|
 Zm 0 5 .nil)<| .seq (Zr (Zm 6 0<|
 Zn 7 6<|
 Zk 8 .eql 7 0 .nil)<| .cond (.t 8) (Zr (Zo (.mv 2 (.c .nilS)) .nil) .ret) .skip)<|Zr (Zm 9 0<|
 Zn 10 9<|
 Zo (.mk 11 1 2 155 (.int .u16 0) (.t 10) (.t 10))<|
 Zm 3 11 .nil)<|Zr (Zm 12 3<|
 Zm 13 0<|
 Zo (.cpy 14 1 (.t 12) (.t 13)) .nil)<|Zr (Zm 15 3<|
 Zm 2 15 .nil) .ret⟩
theorem Qaam:Qe Tryz.prog Tryz.f190=some Q6b:=by kernel_rfl
def Q6c:SFn:=⟨14,[.t 2],Zr (Zo (.mv 2 (.c .nilS)) .nil)<|Zr (Zo (.mv 3 (.c .nilS)) .nil)<| .seq (.block 0<| .loop<| .seq (Zr (Zm 4 0<|
 Zo (.bin 5 .gtr false (.t 4) (.c (.int .u64 0))) .nil)<| .cond (.t 5) .skip (.exit 0))<| .seq (.block 1<| .rg (Zm 8 3<|
 Zm 9 0<|
 Zo (.conv 10 .u16 (.t 9))<|
 Zo (.bs 11 1 155 [.t 10])<|
 Zo (.app 12 1 2 155 (.t 8) (.t 11))<|
 Zm 3 12 .nil))<| .rg (Zm 6 0<|
 Zo (.bin 7 .shr false (.t 6) (.c (.int .u64 16)))<|
 Zm 0 7 .nil))<|Zr (Zm 13 3<|
 Zm 2 13 .nil) .ret⟩
theorem Qaan:Qe Tryz.prog Tryz.f189=some Q6c:=by kernel_rfl
def Q6d:SFn:=⟨28,[.t 2,.t 3],Zr (Zo (.mv 2 (.c (.int .u64 0)))<|
 Zo (.mv 3 (.c (.bool false))) .nil)<|Zr (Zm 7 0<|
 Zq 8 false 212 [.t 7]<|
 Zm 0 8 .nil)<| .seq (Zr (Zm 9 0<|
 Zn 10 9<|
 Zk 11 .gtr 10 4 .nil)<| .cond (.t 11) (Zr (Zo (.mv 2 (.c (.int .u64 0)))<|
 Zo (.mv 3 (.c (.bool false))) .nil) .ret) .skip)<|Zr (Zo (.mv 4 (.c (.int .u64 0))) .nil)<| .seq (Zr (Zm 12 0<|
 Zn 13 12<|
 Zc 14 0 .nil)<| .block 0<| .loop<|Zr (Zb 15 .lss 14 13 .nil)<| .seq (.cond (.t 15) .skip (.exit 0))<| .seq (.block 1<|Zr (Zm 16 14<|
 Zi 17 1 12 14<|
 Zl 18 1 17<|
 Zm 5 16<|
 Zm 6 18 .nil)<| .rg (Zm 19 4<|
 Zm 20 6<|
 Zo (.conv 21 .u64 (.t 20))<|
 Zm 22 5<|
 Zo (.bin 23 .mul false (.c (Zz 16)) (.t 22))<|
 Zb 24 .shl 21 23<|
 Zb 25 .or 19 24<|
 Zm 4 25 .nil))<| .rg (Zk 26 .add 14 1<|
 Zm 14 26 .nil))<|Zr (Zm 27 4<|
 Zm 2 27<|
 Zo (.mv 3 (.c (.bool true))) .nil) .ret⟩
theorem Qaao:Qe Tryz.prog Tryz.f216=some Q6d:=by kernel_rfl
def Q6e:SFn:=⟨20,[.t 2],Zr (Zc 2 0 .nil)<|Zr (Zm 3 0<|
 Zq 4 false 212 [.t 3]<|
 Zm 0 4 .nil)<| .seq (Zr (Zm 5 0<|
 Zn 6 5<|
 Zk 7 .eql 6 0 .nil)<| .cond (.t 7) (Zr (Zc 2 0 .nil) .ret) .skip)<|Zr (Zm 8 0<|
 Zn 9 8<|
 Zk 10 .sub 9 1<|
 Zo (.bin 11 .mul false (.c (Zz 16)) (.t 10))<|
 Zm 12 0<|
 Zm 13 0<|
 Zn 14 13<|
 Zk 15 .sub 14 1<|
 Zi 16 1 12 15<|
 Zl 17 1 16<|
 Zq 18 false 214 [.t 17]<|
 Zb 19 .add 11 18<|
 Zm 2 19 .nil) .ret⟩
theorem Qaap:Qe Tryz.prog Tryz.f178=some Q6e:=by kernel_rfl
def Q6f:SFn:=⟨45,[.t 4],Zr (Zc 4 0 .nil)<|Zr (Zm 6 0<|
 Zq 7 false 212 [.t 6]<|
 Zm 8 1<|
 Zq 9 false 212 [.t 8]<|
 Zm 0 7<|
 Zm 1 9 .nil)<| .seq (Zr (Zm 10 0<|
 Zn 11 10<|
 Zm 12 1<|
 Zn 13 12<|
 Zb 14 .neq 11 13 .nil)<| .cond (.t 14) (.seq (Zr (Zm 15 0<|
 Zn 16 15<|
 Zm 17 1<|
 Zn 18 17<|
 Zb 19 .lss 16 18 .nil)<| .cond (.t 19) (Zr (Zc 4 (-1) .nil) .ret) .skip)<|Zr (Zc 4 1 .nil) .ret) .skip)<| .seq (Zr (Zm 20 0<|
 Zn 21 20<|
 Zk 22 .sub 21 1<|
 Zm 5 22 .nil)<| .block 0<| .loop<| .seq (Zr (Zm 23 5<|
 Zk 24 .geq 23 0 .nil)<| .cond (.t 24) .skip (.exit 0))<| .seq (.block 1<| .seq (Zr (Zm 27 0<|
 Zm 28 5<|
 Zi 29 1 27 28<|
 Zl 30 1 29<|
 Zm 31 1<|
 Zm 32 5<|
 Zi 33 1 31 32<|
 Zl 34 1 33<|
 Zb 35 .lss 30 34 .nil)<| .cond (.t 35) (Zr (Zc 4 (-1) .nil) .ret) .skip)<|Zr (Zm 36 0<|
 Zm 37 5<|
 Zi 38 1 36 37<|
 Zl 39 1 38<|
 Zm 40 1<|
 Zm 41 5<|
 Zi 42 1 40 41<|
 Zl 43 1 42<|
 Zb 44 .gtr 39 43 .nil)<| .cond (.t 44) (Zr (Zc 4 1 .nil) .ret) .skip)<| .rg (Zm 25 5<|
 Zk 26 .sub 25 1<|
 Zm 5 26 .nil))<|Zr (Zc 4 0 .nil) .ret⟩
theorem Qaaq:Qe Tryz.prog Tryz.f218=some Q6f:=by kernel_rfl
def Q6g:SFn:=⟨64,[.t 4],Zr (Zo (.mv 4 (.c .nilS)) .nil)<|Zr (Zm 9 0<|
 Zq 10 false 212 [.t 9]<|
 Zm 11 1<|
 Zq 12 false 212 [.t 11]<|
 Zm 0 10<|
 Zm 1 12 .nil)<| .seq (Zr (Zm 13 0<|
 Zn 14 13<|
 Zm 15 1<|
 Zn 16 15<|
 Zb 17 .lss 14 16 .nil)<| .cond (.t 17) (.rg (Zm 18 1<|
 Zm 19 0<|
 Zm 0 18<|
 Zm 1 19 .nil)) .skip)<|Zr (Zm 20 0<|
 Zn 21 20<|
 Zm 22 0<|
 Zn 23 22<|
 Zk 24 .add 23 1<|
 Zo (.mk 25 1 2 155 (.int .u16 0) (.t 21) (.t 24))<|
 Zm 5 25 .nil)<|Zr (Zo (.mv 6 (.c (.int .u32 0))) .nil)<| .seq (Zr (Zm 26 0<|
 Zn 27 26<|
 Zc 28 0 .nil)<| .block 0<| .loop<|Zr (Zb 29 .lss 28 27 .nil)<| .seq (.cond (.t 29) .skip (.exit 0))<| .seq (.block 1<|Zr (Zm 30 28<|
 Zi 31 1 26 28<|
 Zl 32 1 31<|
 Zm 7 30<|
 Zm 8 32 .nil)<|Zr (Zm 33 6<|
 Zm 34 8<|
 Zo (.conv 35 .u32 (.t 34))<|
 Zb 36 .add 33 35<|
 Zm 6 36 .nil)<| .seq (Zr (Zm 37 7<|
 Zm 38 1<|
 Zn 39 38<|
 Zb 40 .lss 37 39 .nil)<| .cond (.t 40) (.rg (Zm 41 6<|
 Zm 42 1<|
 Zm 43 7<|
 Zi 44 1 42 43<|
 Zl 45 1 44<|
 Zo (.conv 46 .u32 (.t 45))<|
 Zb 47 .add 41 46<|
 Zm 6 47 .nil)) .skip)<|Zr (Zm 48 5<|
 Zm 49 7<|
 Zm 50 6<|
 Zo (.conv 51 .u16 (.t 50))<|
 Zi 52 1 48 49<|
 Zs 1 52 51 .nil)<| .rg (Zm 53 6<|
 Zo (.bin 54 .shr false (.t 53) (.c (.int .u64 16)))<|
 Zm 6 54 .nil))<| .rg (Zk 55 .add 28 1<|
 Zm 28 55 .nil))<| .seq (Zr (Zm 56 6<|
 Zo (.bin 57 .gtr false (.t 56) (.c (.int .u32 0))) .nil)<| .cond (.t 57) (.rg (Zm 58 5<|
 Zm 59 6<|
 Zo (.conv 60 .u16 (.t 59))<|
 Zo (.bs 61 1 155 [.t 60])<|
 Zo (.app 62 1 2 155 (.t 58) (.t 61))<|
 Zm 5 62 .nil)) .skip)<|Zr (Zm 63 5<|
 Zm 4 63 .nil) .ret⟩
theorem Qaar:Qe Tryz.prog Tryz.f227=some Q6g:=by kernel_rfl
def Q6h:SFn:=⟨56,[.t 4,.t 5],Zr (Zo (.mv 4 (.c .nilS))<|
 Zc 5 0 .nil)<| .seq (Zr (Zm 11 0<|
 Zm 12 1<|
 Zq 13 false 218 [.t 11,.t 12]<|
 Zk 14 .lss 13 0 .nil)<| .cond (.t 14) (Zr (Zo (.mv 4 (.c .nilS))<|
 Zc 5 2 .nil) .ret) .skip)<|Zr (Zm 15 0<|
 Zq 16 false 212 [.t 15]<|
 Zm 17 1<|
 Zq 18 false 212 [.t 17]<|
 Zm 0 16<|
 Zm 1 18 .nil)<|Zr (Zm 19 0<|
 Zn 20 19<|
 Zo (.mk 21 1 2 155 (.int .u16 0) (.t 20) (.t 20))<|
 Zm 6 21 .nil)<|Zr (Zo (.mv 7 (.c (.int .i32 0))) .nil)<| .seq (Zr (Zm 22 0<|
 Zn 23 22<|
 Zc 24 0 .nil)<| .block 0<| .loop<|Zr (Zb 25 .lss 24 23 .nil)<| .seq (.cond (.t 25) .skip (.exit 0))<| .seq (.block 1<|Zr (Zm 26 24<|
 Zi 27 1 22 24<|
 Zl 28 1 27<|
 Zm 8 26<|
 Zm 9 28 .nil)<|Zr (Zm 29 9<|
 Zo (.conv 30 .i32 (.t 29))<|
 Zm 31 7<|
 Zb 32 .sub 30 31<|
 Zm 10 32 .nil)<| .seq (Zr (Zm 33 8<|
 Zm 34 1<|
 Zn 35 34<|
 Zb 36 .lss 33 35 .nil)<| .cond (.t 36) (.rg (Zm 37 10<|
 Zm 38 1<|
 Zm 39 8<|
 Zi 40 1 38 39<|
 Zl 41 1 40<|
 Zo (.conv 42 .i32 (.t 41))<|
 Zb 43 .sub 37 42<|
 Zm 10 43 .nil)) .skip)<|Zr (Zo (.mv 7 (.c (.int .i32 0))) .nil)<| .seq (Zr (Zm 44 10<|
 Zo (.bin 45 .lss false (.t 44) (.c (.int .i32 0))) .nil)<| .cond (.t 45) (Zr (Zm 46 10<|
 Zo (.bin 47 .add false (.t 46) (.c (.int .i32 65536)))<|
 Zm 10 47 .nil)<| .rg (Zo (.mv 7 (.c (.int .i32 1))) .nil)) .skip)<| .rg (Zm 48 6<|
 Zm 49 8<|
 Zm 50 10<|
 Zo (.conv 51 .u16 (.t 50))<|
 Zi 52 1 48 49<|
 Zs 1 52 51 .nil))<| .rg (Zk 53 .add 24 1<|
 Zm 24 53 .nil))<|Zr (Zm 54 6<|
 Zq 55 false 212 [.t 54]<|
 Zm 4 55<|
 Zc 5 0 .nil) .ret⟩
theorem Qaas:Qe Tryz.prog Tryz.f228=some Q6h:=by kernel_rfl
def Q6i:SFn:=⟨79,[.t 4],Zr (Zo (.mv 4 (.c .nilS)) .nil)<|Zr (Zm 11 0<|
 Zq 12 false 212 [.t 11]<|
 Zm 13 1<|
 Zq 14 false 212 [.t 13]<|
 Zm 0 12<|
 Zm 1 14 .nil)<| .seq (Zr (Zm 15 0<|
 Zn 16 15<|
 Zk 17 .eql 16 0<|
 Zm 18 17<|
 Zg 18 false (.mv 19 (.t 1))<|
 Zg 18 false (.len 20 (.t 19))<|
 Zg 18 false (.bin 21 .eql false (.t 20) (.c (Zz 0)))<|
 Zo (.pick 22 (.t 18) (.c (.bool true)) (.t 21)) .nil)<| .cond (.t 22) (Zr (Zo (.mv 4 (.c .nilS)) .nil) .ret) .skip)<|Zr (Zm 23 0<|
 Zn 24 23<|
 Zm 25 1<|
 Zn 26 25<|
 Zb 27 .add 24 26<|
 Zo (.mk 28 1 2 155 (.int .u16 0) (.t 27) (.t 27))<|
 Zm 5 28 .nil)<| .seq (Zr (Zm 29 0<|
 Zn 30 29<|
 Zc 31 0 .nil)<| .block 0<| .loop<|Zr (Zb 32 .lss 31 30 .nil)<| .seq (.cond (.t 32) .skip (.exit 0))<| .seq (.block 1<|Zr (Zm 33 31<|
 Zi 34 1 29 31<|
 Zl 35 1 34<|
 Zm 6 33<|
 Zm 7 35 .nil)<|Zr (Zo (.mv 8 (.c (.int .u32 0))) .nil)<| .seq (Zr (Zm 36 1<|
 Zn 37 36<|
 Zc 38 0 .nil)<| .block 2<| .loop<|Zr (Zb 39 .lss 38 37 .nil)<| .seq (.cond (.t 39) .skip (.exit 2))<| .seq (.block 3<|Zr (Zm 40 38<|
 Zi 41 1 36 38<|
 Zl 42 1 41<|
 Zm 9 40<|
 Zm 10 42 .nil)<|Zr (Zm 43 8<|
 Zm 44 5<|
 Zm 45 6<|
 Zm 46 9<|
 Zb 47 .add 45 46<|
 Zi 48 1 44 47<|
 Zl 49 1 48<|
 Zo (.conv 50 .u32 (.t 49))<|
 Zm 51 7<|
 Zo (.conv 52 .u32 (.t 51))<|
 Zm 53 10<|
 Zo (.conv 54 .u32 (.t 53))<|
 Zb 55 .mul 52 54<|
 Zb 56 .add 50 55<|
 Zb 57 .add 43 56<|
 Zm 8 57 .nil)<|Zr (Zm 58 5<|
 Zm 59 6<|
 Zm 60 9<|
 Zb 61 .add 59 60<|
 Zm 62 8<|
 Zo (.conv 63 .u16 (.t 62))<|
 Zi 64 1 58 61<|
 Zs 1 64 63 .nil)<| .rg (Zm 65 8<|
 Zo (.bin 66 .shr false (.t 65) (.c (.int .u64 16)))<|
 Zm 8 66 .nil))<| .rg (Zk 67 .add 38 1<|
 Zm 38 67 .nil))<| .rg (Zm 68 5<|
 Zm 69 6<|
 Zm 70 1<|
 Zn 71 70<|
 Zb 72 .add 69 71<|
 Zm 73 8<|
 Zo (.conv 74 .u16 (.t 73))<|
 Zi 75 1 68 72<|
 Zs 1 75 74 .nil))<| .rg (Zk 76 .add 31 1<|
 Zm 31 76 .nil))<|Zr (Zm 77 5<|
 Zq 78 false 212 [.t 77]<|
 Zm 4 78 .nil) .ret⟩
theorem Qaat:Qe Tryz.prog Tryz.f174=some Q6i:=by kernel_rfl
def Q6j:SFn:=⟨43,[.t 4,.t 5],Zr (Zo (.mv 4 (.c .nilS))<|
 Zo (.mv 5 (.c (.int .u16 0))) .nil)<|Zr (Zm 9 0<|
 Zn 10 9<|
 Zo (.mk 11 1 2 155 (.int .u16 0) (.t 10) (.t 10))<|
 Zm 6 11 .nil)<|Zr (Zo (.mv 7 (.c (.int .u32 0))) .nil)<| .seq (Zr (Zm 12 0<|
 Zn 13 12<|
 Zk 14 .sub 13 1<|
 Zm 8 14 .nil)<| .block 0<| .loop<| .seq (Zr (Zm 15 8<|
 Zk 16 .geq 15 0 .nil)<| .cond (.t 16) .skip (.exit 0))<| .seq (.block 1<|Zr (Zm 19 7<|
 Zo (.bin 20 .shl false (.t 19) (.c (.int .u64 16)))<|
 Zm 21 0<|
 Zm 22 8<|
 Zi 23 1 21 22<|
 Zl 24 1 23<|
 Zo (.conv 25 .u32 (.t 24))<|
 Zb 26 .or 20 25<|
 Zm 7 26 .nil)<|Zr (Zm 27 6<|
 Zm 28 8<|
 Zm 29 7<|
 Zm 30 1<|
 Zo (.conv 31 .u32 (.t 30))<|
 Zb 32 .quo 29 31<|
 Zo (.conv 33 .u16 (.t 32))<|
 Zi 34 1 27 28<|
 Zs 1 34 33 .nil)<| .rg (Zm 35 7<|
 Zm 36 1<|
 Zo (.conv 37 .u32 (.t 36))<|
 Zb 38 .rem 35 37<|
 Zm 7 38 .nil))<| .rg (Zm 17 8<|
 Zk 18 .sub 17 1<|
 Zm 8 18 .nil))<|Zr (Zm 39 6<|
 Zq 40 false 212 [.t 39]<|
 Zm 41 7<|
 Zo (.conv 42 .u16 (.t 41))<|
 Zm 4 40<|
 Zm 5 42 .nil) .ret⟩
theorem Qaau:Qe Tryz.prog Tryz.f219=some Q6j:=by kernel_rfl
def Q6k:SFn:=⟨71,[.t 4,.t 5,.t 6],Zr (Zo (.mv 4 (.c .nilS))<|
 Zo (.mv 5 (.c .nilS))<|
 Zc 6 0 .nil)<|Zr (Zm 12 0<|
 Zq 13 false 212 [.t 12]<|
 Zm 14 1<|
 Zq 15 false 212 [.t 14]<|
 Zm 0 13<|
 Zm 1 15 .nil)<| .seq (.block 0<|Zr (Zm 17 1<|
 Zn 18 17<|
 Zk 19 .eql 18 0<|
 Zm 16 19 .nil)<| .cond (.t 16) (Zr (Zo (.mv 4 (.c .nilS))<|
 Zo (.mv 5 (.c .nilS))<|
 Zc 6 3 .nil) .ret) (Zr (Zm 21 0<|
 Zm 22 1<|
 Zq 23 false 218 [.t 21,.t 22]<|
 Zk 24 .lss 23 0<|
 Zm 20 24 .nil)<| .cond (.t 20) (Zr (Zm 25 0<|
 Zq 26 false 190 [.t 25]<|
 Zo (.mv 4 (.c .nilS))<|
 Zm 5 26<|
 Zc 6 0 .nil) .ret) (Zr (Zm 28 1<|
 Zn 29 28<|
 Zk 30 .eql 29 1<|
 Zm 27 30 .nil)<| .cond (.t 27) (Zr (Zm 32 0<|
 Zm 33 1<|
 Zo (.idx 34 1 (.t 33) (.c (Zz 0)))<|
 Zl 35 1 34<|
 Zq 36 false 219 [.t 32,.t 35]<|
 Zm 31 36<|
 Zo (.ext 37 (.t 31) 0)<|
 Zo (.ext 38 (.t 31) 1)<|
 Zm 7 37<|
 Zm 8 38 .nil)<|Zr (Zm 39 7<|
 Zm 40 8<|
 Zo (.conv 41 .u64 (.t 40))<|
 Zq 42 false 189 [.t 41]<|
 Zm 4 39<|
 Zm 5 42<|
 Zc 6 0 .nil) .ret) .skip)))<|Zr (Zm 43 1<|
 Zm 44 1<|
 Zn 45 44<|
 Zk 46 .sub 45 1<|
 Zi 47 1 43 46<|
 Zl 48 1 47<|
 Zq 49 false 220 [.t 48]<|
 Zm 9 49 .nil)<|Zr (Zm 50 0<|
 Zm 51 9<|
 Zq 52 false 221 [.t 50,.t 51]<|
 Zo (.bs 53 1 155 [.c (.int .u16 0),.c (.int .u16 0)])<|
 Zo (.app 54 1 2 155 (.t 52) (.t 53))<|
 Zm 55 0<|
 Zn 56 55<|
 Zk 57 .add 56 1<|
 Zo (.sl 58 1 (.t 54) none (some (.t 57)) none)<|
 Zm 10 58 .nil)<|Zr (Zm 59 1<|
 Zm 60 9<|
 Zq 61 false 221 [.t 59,.t 60]<|
 Zm 11 61 .nil)<|Zr (Zm 62 10<|
 Zm 63 11<|
 Zq 64 false 222 [.t 62,.t 63]<|
 Zm 4 64 .nil)<|Zr (Zm 65 4<|
 Zm 66 10<|
 Zq 67 false 212 [.t 66]<|
 Zm 68 9<|
 Zo (.un 69 .neg (.t 68))<|
 Zq 70 false 221 [.t 67,.t 69]<|
 Zm 4 65<|
 Zm 5 70<|
 Zc 6 0 .nil) .ret⟩
theorem Qaav:Qe Tryz.prog Tryz.f192=some Q6k:=by kernel_rfl
def Q6l:SFn:=⟨31,[.t 6],Zr (Zo (.mv 6 (.c (.bool false))) .nil)<|Zr (Zl 7 1 0<|
 Zo (.bin 8 .geq false (.t 7) (.c (.int .u64 65536)))<|
 Zm 9 8<|
 Zg 9 false (.ld 10 1 false (.t 0))<|
 Zg 9 false (.ld 11 1 false (.t 1))<|
 Zg 9 false (.ld 12 1 false (.t 2))<|
 Zg 9 false (.bin 13 .sub false (.t 12) (.c (Zz 2)))<|
 Zg 9 false (.idx 14 1 (.t 11) (.t 13))<|
 Zg 9 false (.ld 15 1 false (.t 14))<|
 Zg 9 false (.conv 16 .u64 (.t 15))<|
 Zg 9 false (.bin 17 .mul false (.t 10) (.t 16))<|
 Zg 9 false (.ld 18 1 false (.t 3))<|
 Zg 9 false (.bin 19 .shl false (.t 18) (.c (.int .u64 16)))<|
 Zg 9 false (.ld 20 1 false (.t 4))<|
 Zg 9 false (.ld 21 1 false (.t 5))<|
 Zg 9 false (.ld 22 1 false (.t 2))<|
 Zg 9 false (.bin 23 .add false (.t 21) (.t 22))<|
 Zg 9 false (.bin 24 .sub false (.t 23) (.c (Zz 2)))<|
 Zg 9 false (.idx 25 1 (.t 20) (.t 24))<|
 Zg 9 false (.ld 26 1 false (.t 25))<|
 Zg 9 false (.conv 27 .u64 (.t 26))<|
 Zg 9 false (.bin 28 .or false (.t 19) (.t 27))<|
 Zg 9 false (.bin 29 .gtr false (.t 17) (.t 28))<|
 Zo (.pick 30 (.t 9) (.c (.bool true)) (.t 29))<|
 Zm 6 30 .nil) .ret⟩
theorem Qaaw:Qe Tryz.prog Tryz.f230=some Q6l:=by kernel_rfl
def Q6m:SFn:=⟨54,[.t 6],Zr (Zo (.mv 6 (.c (.bool false))) .nil)<|Zr (Zo (.mv 7 (.c (.int .u32 0))) .nil)<|Zr (Zo (.mv 8 (.c (.int .i32 0))) .nil)<| .seq (Zr (Zm 11 0<|
 Zn 12 11<|
 Zc 13 0 .nil)<| .block 0<| .loop<|Zr (Zb 14 .lss 13 12 .nil)<| .seq (.cond (.t 14) .skip (.exit 0))<| .seq (.block 1<|Zr (Zm 15 13<|
 Zm 9 15 .nil)<| .seq (Zr (Zm 16 9<|
 Zm 17 1<|
 Zn 18 17<|
 Zb 19 .lss 16 18 .nil)<| .cond (.t 19) (.rg (Zm 20 7<|
 Zm 21 2<|
 Zm 22 1<|
 Zm 23 9<|
 Zi 24 1 22 23<|
 Zl 25 1 24<|
 Zo (.conv 26 .u32 (.t 25))<|
 Zb 27 .mul 21 26<|
 Zb 28 .add 20 27<|
 Zm 7 28 .nil)) .skip)<|Zr (Zm 29 0<|
 Zm 30 9<|
 Zi 31 1 29 30<|
 Zl 32 1 31<|
 Zo (.conv 33 .i32 (.t 32))<|
 Zm 34 7<|
 Zo (.conv 35 .u16 (.t 34))<|
 Zo (.conv 36 .i32 (.t 35))<|
 Zb 37 .sub 33 36<|
 Zm 38 8<|
 Zb 39 .sub 37 38<|
 Zm 10 39 .nil)<|Zr (Zm 40 7<|
 Zo (.bin 41 .shr false (.t 40) (.c (.int .u64 16)))<|
 Zm 7 41 .nil)<|Zr (Zo (.mv 8 (.c (.int .i32 0))) .nil)<| .seq (Zr (Zm 42 10<|
 Zo (.bin 43 .lss false (.t 42) (.c (.int .i32 0))) .nil)<| .cond (.t 43) (Zr (Zm 44 10<|
 Zo (.bin 45 .add false (.t 44) (.c (.int .i32 65536)))<|
 Zm 10 45 .nil)<| .rg (Zo (.mv 8 (.c (.int .i32 1))) .nil)) .skip)<| .rg (Zm 46 0<|
 Zm 47 9<|
 Zm 48 10<|
 Zo (.conv 49 .u16 (.t 48))<|
 Zi 50 1 46 47<|
 Zs 1 50 49 .nil))<| .rg (Zk 51 .add 13 1<|
 Zm 13 51 .nil))<|Zr (Zm 52 8<|
 Zo (.bin 53 .gtr false (.t 52) (.c (.int .i32 0)))<|
 Zm 6 53 .nil) .ret⟩
theorem Qaax:Qe Tryz.prog Tryz.f231=some Q6m:=by kernel_rfl
def Q6n:SFn:=⟨37,[],Zr (Zo (.mv 4 (.c (.int .u32 0))) .nil)<|Zr (Zm 6 0<|
 Zn 7 6<|
 Zc 8 0 .nil)<| .block 0<| .loop<|Zr (Zb 9 .lss 8 7 .nil)<| .seq (.cond (.t 9) .skip (.exit 0))<| .seq (.block 1<|Zr (Zm 10 8<|
 Zm 5 10 .nil)<|Zr (Zm 11 4<|
 Zm 12 0<|
 Zm 13 5<|
 Zi 14 1 12 13<|
 Zl 15 1 14<|
 Zo (.conv 16 .u32 (.t 15))<|
 Zb 17 .add 11 16<|
 Zm 4 17 .nil)<| .seq (Zr (Zm 18 5<|
 Zm 19 1<|
 Zn 20 19<|
 Zb 21 .lss 18 20 .nil)<| .cond (.t 21) (.rg (Zm 22 4<|
 Zm 23 1<|
 Zm 24 5<|
 Zi 25 1 23 24<|
 Zl 26 1 25<|
 Zo (.conv 27 .u32 (.t 26))<|
 Zb 28 .add 22 27<|
 Zm 4 28 .nil)) .skip)<|Zr (Zm 29 0<|
 Zm 30 5<|
 Zm 31 4<|
 Zo (.conv 32 .u16 (.t 31))<|
 Zi 33 1 29 30<|
 Zs 1 33 32 .nil)<| .rg (Zm 34 4<|
 Zo (.bin 35 .shr false (.t 34) (.c (.int .u64 16)))<|
 Zm 4 35 .nil))<| .rg (Zk 36 .add 8 1<|
 Zm 8 36 .nil)⟩
theorem Qaay:Qe Tryz.prog Tryz.f232=some Q6n:=by kernel_rfl
def Q6o:SFn:=⟨51,[.t 4],Zr (Zo (.mv 4 (.c .nilS)) .nil)<|Zr (Zm 12 0<|
 Zq 13 false 190 [.t 12]<|
 Zm 14 1<|
 Zq 15 false 190 [.t 14]<|
 Zm 0 13<|
 Zm 1 15 .nil)<| .seq (.block 0<| .loop<| .seq (Zr (Zm 16 1<|
 Zn 17 16<|
 Zk 18 .gtr 17 0 .nil)<| .cond (.t 18) .skip (.exit 0))<| .block 1<|Zr (Zm 20 0<|
 Zq 21 false 216 [.t 20]<|
 Zm 19 21<|
 Zo (.ext 22 (.t 19) 0)<|
 Zo (.ext 23 (.t 19) 1)<|
 Zm 5 22<|
 Zm 6 23 .nil)<|Zr (Zm 25 1<|
 Zq 26 false 216 [.t 25]<|
 Zm 24 26<|
 Zo (.ext 27 (.t 24) 0)<|
 Zo (.ext 28 (.t 24) 1)<|
 Zm 7 27<|
 Zm 8 28 .nil)<| .seq (Zr (Zm 29 6<|
 Zm 30 29<|
 Zg 30 true (.mv 31 (.t 8))<|
 Zo (.pick 32 (.t 30) (.t 31) (.c (.bool false))) .nil)<| .cond (.t 32) (.seq (.block 2<| .loop<| .seq (Zr (Zm 33 7<|
 Zo (.bin 34 .gtr false (.t 33) (.c (.int .u64 0))) .nil)<| .cond (.t 34) .skip (.exit 2))<| .block 3<| .rg (Zm 35 7<|
 Zm 36 5<|
 Zm 37 7<|
 Zb 38 .rem 36 37<|
 Zm 5 35<|
 Zm 7 38 .nil))<|Zr (Zm 39 5<|
 Zq 40 false 189 [.t 39]<|
 Zm 4 40 .nil) .ret) .skip)<|Zr (Zm 42 0<|
 Zm 43 1<|
 Zq 44 false 192 [.t 42,.t 43]<|
 Zm 41 44<|
 Zo (.ext 45 (.t 41) 0)<|
 Zo (.ext 46 (.t 41) 1)<|
 Zo (.ext 47 (.t 41) 2)<|
 Zm 9 45<|
 Zm 10 46<|
 Zm 11 47 .nil)<| .rg (Zm 48 1<|
 Zm 49 10<|
 Zm 0 48<|
 Zm 1 49 .nil))<|Zr (Zm 50 0<|
 Zm 4 50 .nil) .ret⟩
theorem Qaaz:Qe Tryz.prog Tryz.f186=some Q6o:=by kernel_rfl
def Qp3:SFn:=⟨78,[.t 4],Zr (Zo (.mv 4 (.c .nilS)) .nil)<|Zr (Zm 11 0<|
 Zq 12 false 212 [.t 11]<|
 Zm 0 12 .nil)<| .seq (Zr (Zm 13 1<|
 Zk 14 .lss 13 (-1048576)<|
 Zm 15 14<|
 Zg 15 false (.mv 16 (.t 1))<|
 Zg 15 false (.bin 17 .gtr false (.t 16) (.c (Zz 1048576)))<|
 Zo (.pick 18 (.t 15) (.c (.bool true)) (.t 17))<|
 Zm 19 18<|
 Zg 19 false (.mv 20 (.t 0))<|
 Zg 19 false (.len 21 (.t 20))<|
 Zg 19 false (.bin 22 .eql false (.t 21) (.c (Zz 0)))<|
 Zo (.pick 23 (.t 19) (.c (.bool true)) (.t 22)) .nil)<| .cond (.t 23) (Zr (Zo (.mv 4 (.c .nilS)) .nil) .ret) .skip)<| .seq (Zr (Zm 24 1<|
 Zk 25 .lss 24 0 .nil)<| .cond (.t 25) (Zr (Zm 26 0<|
 Zm 27 1<|
 Zo (.un 28 .neg (.t 27))<|
 Zq 29 false 229 [.t 26,.t 28]<|
 Zm 4 29 .nil) .ret) .skip)<|Zr (Zm 30 1<|
 Zk 31 .quo 30 16<|
 Zm 32 1<|
 Zk 33 .rem 32 16<|
 Zm 5 31<|
 Zm 6 33 .nil)<|Zr (Zm 34 0<|
 Zn 35 34<|
 Zm 36 5<|
 Zb 37 .add 35 36<|
 Zk 38 .add 37 1<|
 Zm 39 0<|
 Zn 40 39<|
 Zm 41 5<|
 Zb 42 .add 40 41<|
 Zk 43 .add 42 3<|
 Zo (.mk 44 1 2 155 (.int .u16 0) (.t 38) (.t 43))<|
 Zm 7 44 .nil)<| .seq (Zr (Zm 45 0<|
 Zn 46 45<|
 Zc 47 0 .nil)<| .block 0<| .loop<|Zr (Zb 48 .lss 47 46 .nil)<| .seq (.cond (.t 48) .skip (.exit 0))<| .seq (.block 1<|Zr (Zm 49 47<|
 Zi 50 1 45 47<|
 Zl 51 1 50<|
 Zm 8 49<|
 Zm 9 51 .nil)<|Zr (Zm 52 9<|
 Zo (.conv 53 .u32 (.t 52))<|
 Zm 54 6<|
 Zb 55 .shl 53 54<|
 Zm 10 55 .nil)<|Zr (Zm 56 7<|
 Zm 57 8<|
 Zm 58 5<|
 Zb 59 .add 57 58<|
 Zi 60 1 56 59<|
 Zl 61 1 60<|
 Zm 62 10<|
 Zo (.conv 63 .u16 (.t 62))<|
 Zb 64 .or 61 63<|
 Zi 65 1 56 59<|
 Zs 1 65 64 .nil)<| .rg (Zm 66 7<|
 Zm 67 8<|
 Zm 68 5<|
 Zb 69 .add 67 68<|
 Zk 70 .add 69 1<|
 Zm 71 10<|
 Zo (.bin 72 .shr false (.t 71) (.c (.int .u64 16)))<|
 Zo (.conv 73 .u16 (.t 72))<|
 Zi 74 1 66 70<|
 Zs 1 74 73 .nil))<| .rg (Zk 75 .add 47 1<|
 Zm 47 75 .nil))<|Zr (Zm 76 7<|
 Zq 77 false 212 [.t 76]<|
 Zm 4 77 .nil) .ret⟩
theorem Qsf:Qe Tryz.prog Tryz.f221=some Qp3:=by kernel_rfl
def Q6p:SFn:=⟨63,[.t 4],Zr (Zo (.mv 4 (.c .nilS)) .nil)<|Zr (Zm 10 1<|
 Zk 11 .quo 10 16<|
 Zm 12 1<|
 Zk 13 .rem 12 16<|
 Zm 5 11<|
 Zm 6 13 .nil)<| .seq (Zr (Zm 14 5<|
 Zm 15 0<|
 Zn 16 15<|
 Zb 17 .geq 14 16 .nil)<| .cond (.t 17) (Zr (Zo (.mv 4 (.c .nilS)) .nil) .ret) .skip)<|Zr (Zm 18 0<|
 Zn 19 18<|
 Zm 20 5<|
 Zb 21 .sub 19 20<|
 Zo (.mk 22 1 2 155 (.int .u16 0) (.t 21) (.t 21))<|
 Zm 7 22 .nil)<| .seq (Zr (Zm 23 7<|
 Zn 24 23<|
 Zc 25 0 .nil)<| .block 0<| .loop<|Zr (Zb 26 .lss 25 24 .nil)<| .seq (.cond (.t 26) .skip (.exit 0))<| .seq (.block 1<|Zr (Zm 27 25<|
 Zm 8 27 .nil)<|Zr (Zm 28 0<|
 Zm 29 8<|
 Zm 30 5<|
 Zb 31 .add 29 30<|
 Zi 32 1 28 31<|
 Zl 33 1 32<|
 Zo (.conv 34 .u32 (.t 33))<|
 Zm 9 34 .nil)<| .seq (Zr (Zm 35 8<|
 Zm 36 5<|
 Zb 37 .add 35 36<|
 Zk 38 .add 37 1<|
 Zm 39 0<|
 Zn 40 39<|
 Zb 41 .lss 38 40 .nil)<| .cond (.t 41) (.rg (Zm 42 9<|
 Zm 43 0<|
 Zm 44 8<|
 Zm 45 5<|
 Zb 46 .add 44 45<|
 Zk 47 .add 46 1<|
 Zi 48 1 43 47<|
 Zl 49 1 48<|
 Zo (.conv 50 .u32 (.t 49))<|
 Zo (.bin 51 .shl false (.t 50) (.c (.int .u64 16)))<|
 Zb 52 .or 42 51<|
 Zm 9 52 .nil)) .skip)<| .rg (Zm 53 7<|
 Zm 54 8<|
 Zm 55 9<|
 Zm 56 6<|
 Zb 57 .shr 55 56<|
 Zo (.conv 58 .u16 (.t 57))<|
 Zi 59 1 53 54<|
 Zs 1 59 58 .nil))<| .rg (Zk 60 .add 25 1<|
 Zm 25 60 .nil))<|Zr (Zm 61 7<|
 Zq 62 false 212 [.t 61]<|
 Zm 4 62 .nil) .ret⟩
theorem Qaa0:Qe Tryz.prog Tryz.f229=some Q6p:=by kernel_rfl
def Q6q:SFn:=⟨6,[.t 2],Zr (Zc 2 0 .nil)<|Zr (Zm 3 0<|
 Zq 4 false 214 [.t 3]<|
 Zo (.bin 5 .sub false (.c (Zz 16)) (.t 4))<|
 Zm 2 5 .nil) .ret⟩
theorem Qaa1:Qe Tryz.prog Tryz.f220=some Q6q:=by kernel_rfl
def Q6r:SFn:=⟨15,[.cell 4 2 true],Zr (Zo (.alloc 4 2 49 (.agg [.bool false,.nilS])) .nil)<|Zr (Zm 5 1<|
 Zq 6 false 190 [.t 5]<|
 Zm 1 6 .nil)<|Zr (Zm 7 0<|
 Zm 8 7<|
 Zg 8 true (.mv 9 (.t 1))<|
 Zg 8 true (.len 10 (.t 9))<|
 Zg 8 true (.bin 11 .gtr false (.t 10) (.c (Zz 0)))<|
 Zo (.pick 12 (.t 8) (.t 11) (.c (.bool false)))<|
 Zm 13 1<|
 Zo (.bld 14 [.bool false,.nilS] [(0,1,.t 12),(1,1,.t 13)])<|
 Zs 2 4 14 .nil) .ret⟩
theorem Qaa2:Qe Tryz.prog Tryz.f217=some Q6r:=by kernel_rfl
def Q6s:SFn:=⟨13,[.cell 4 2 true],Zr (Zo (.alloc 4 2 49 (.agg [.bool false,.nilS])) .nil)<|Zr (Zm 5 0<|
 Zm 6 5<|
 Zg 6 true (.mv 7 (.t 1))<|
 Zg 6 true (.len 8 (.t 7))<|
 Zg 6 true (.bin 9 .gtr false (.t 8) (.c (Zz 0)))<|
 Zo (.pick 10 (.t 6) (.t 9) (.c (.bool false)))<|
 Zm 11 1<|
 Zo (.bld 12 [.bool false,.nilS] [(0,1,.t 10),(1,1,.t 11)])<|
 Zs 2 4 12 .nil) .ret⟩
theorem Qaa3:Qe Tryz.prog Tryz.f188=some Q6s:=by kernel_rfl
def Q6t:SFn:=⟨27,[.t 2],Zr (Zo (.box 1 2 49 (.t 0))<|
 Zo (.mv 2 (.c (.bool false))) .nil)<|Zr (Zf 4 1 1<|
 Zl 5 1 4<|
 Zn 6 5<|
 Zm 3 6 .nil)<|Zr (Zm 7 3<|
 Zk 8 .eql 7 0<|
 Zm 9 8<|
 Zg 9 true (.fld 10 0 (.t 1))<|
 Zg 9 true (.ld 11 1 false (.t 10))<|
 Zg 9 true (.un 12 .not (.t 11))<|
 Zo (.pick 13 (.t 9) (.t 12) (.c (.bool false)))<|
 Zm 14 13<|
 Zg 14 false (.mv 15 (.t 3))<|
 Zg 14 false (.bin 16 .gtr false (.t 15) (.c (Zz 0)))<|
 Zg 14 false (.mv 17 (.t 16))<|
 Zg 17 true (.fld 18 1 (.t 1))<|
 Zg 17 true (.ld 19 1 false (.t 18))<|
 Zg 17 true (.mv 20 (.t 3))<|
 Zg 17 true (.bin 21 .sub false (.t 20) (.c (Zz 1)))<|
 Zg 17 true (.idx 22 1 (.t 19) (.t 21))<|
 Zg 17 true (.ld 23 1 false (.t 22))<|
 Zg 17 true (.bin 24 .neq false (.t 23) (.c (.int .u16 0)))<|
 Zg 14 false (.pick 25 (.t 17) (.t 24) (.c (.bool false)))<|
 Zo (.pick 26 (.t 14) (.c (.bool true)) (.t 25))<|
 Zm 2 26 .nil) .ret⟩
theorem Qaa4:Qe Tryz.prog Tryz.f185=some Q6t:=by kernel_rfl
def Q6u:SFn:=⟨8,[.cell 2 2 true],Zr (Zo (.box 1 2 49 (.t 0))<|
 Zo (.alloc 2 2 49 (.agg [.bool false,.nilS])) .nil)<|Zr (Zf 3 0 1<|
 Zl 4 1 3<|
 Zf 5 1 1<|
 Zl 6 1 5<|
 Zq 7 false 217 [.t 4,.t 6]<|
 Zs 2 2 7 .nil) .ret⟩
theorem Qaa5:Qe Tryz.prog Tryz.f191=some Q6u:=by kernel_rfl
def Q6v:SFn:=⟨16,[.cell 2 2 true],Zr (Zo (.alloc 2 2 49 (.agg [.bool false,.nilS])) .nil)<| .seq (Zr (Zm 3 0<|
 Zk 4 .lss 3 0 .nil)<| .cond (.t 4) (Zr (Zm 5 0<|
 Zk 6 .add 5 1<|
 Zo (.un 7 .neg (.t 6))<|
 Zo (.conv 8 .u64 (.t 7))<|
 Zo (.bin 9 .add false (.t 8) (.c (.int .u64 1)))<|
 Zq 10 false 189 [.t 9]<|
 Zq 11 false 188 [.c (.bool true),.t 10]<|
 Zs 2 2 11 .nil) .ret) .skip)<|Zr (Zm 12 0<|
 Zo (.conv 13 .u64 (.t 12))<|
 Zq 14 false 189 [.t 13]<|
 Zq 15 false 188 [.c (.bool false),.t 14]<|
 Zs 2 2 15 .nil) .ret⟩
theorem Qaa6:Qe Tryz.prog Tryz.f127=some Q6v:=by kernel_rfl
def Q6w:SFn:=⟨11,[.t 2],Zr (Zo (.box 1 2 49 (.t 0))<|
 Zc 2 0 .nil)<| .seq (.block 0<|Zr (Zf 4 1 1<|
 Zl 5 1 4<|
 Zq 6 false 178 [.t 5]<|
 Zk 7 .eql 6 0<|
 Zm 3 7 .nil)<| .cond (.t 3) (Zr (Zc 2 0 .nil) .ret) (Zr (Zf 9 0 1<|
 Zl 10 1 9<|
 Zm 8 10 .nil)<| .cond (.t 8) (Zr (Zc 2 (-1) .nil) .ret) .skip))<|Zr (Zc 2 1 .nil) .ret⟩
theorem Qaa7:Qe Tryz.prog Tryz.f109=some Q6w:=by kernel_rfl
def Q6x:SFn:=⟨35,[.t 4],Zr (Zo (.box 2 2 49 (.t 0))<|
 Zo (.box 3 2 49 (.t 1))<|
 Zc 4 0 .nil)<|Zr (Zh 8 2 2<|
 Zh 10 2 3<|
 Zq 9 true 109 [.t 8]<|
 Zq 11 true 109 [.t 10]<|
 Zm 5 9<|
 Zm 6 11 .nil)<|Zr (Zo (.mv 7 (.c (.fn 233 [] []))) .nil)<| .seq (.block 0<|Zr (Zm 13 5<|
 Zm 14 6<|
 Zb 15 .lss 13 14<|
 Zm 12 15 .nil)<| .cond (.t 12) (Zr (Zc 4 (-1) .nil) .ret) (Zr (Zm 17 5<|
 Zm 18 6<|
 Zb 19 .gtr 17 18<|
 Zm 16 19 .nil)<| .cond (.t 16) (Zr (Zc 4 1 .nil) .ret) (Zr (Zm 21 5<|
 Zk 22 .lss 21 0<|
 Zm 20 22 .nil)<| .cond (.t 20) (Zr (Zm 23 7<|
 Zf 24 1 3<|
 Zl 25 1 24<|
 Zf 26 1 2<|
 Zl 27 1 26<|
 Zo (.call (some 28) false (.t 23) [.t 25,.t 27])<|
 Zm 4 28 .nil) .ret) .skip)))<|Zr (Zm 29 7<|
 Zf 30 1 2<|
 Zl 31 1 30<|
 Zf 32 1 3<|
 Zl 33 1 32<|
 Zo (.call (some 34) false (.t 29) [.t 31,.t 33])<|
 Zm 4 34 .nil) .ret⟩
theorem Qaa8:Qe Tryz.prog Tryz.f224=some Q6x:=by kernel_rfl
def Q6y:SFn:=⟨8,[.t 4],Zr (Zc 4 0 .nil)<|Zr (Zm 5 0<|
 Zm 6 1<|
 Zq 7 false 218 [.t 5,.t 6]<|
 Zm 4 7 .nil) .ret⟩
theorem Qaa9:Qe Tryz.prog Tryz.f233=some Q6y:=by kernel_rfl
def Q6z:SFn:=⟨40,[.cell 4 2 true],Zr (Zo (.box 2 2 49 (.t 0))<|
 Zo (.box 3 2 49 (.t 1))<|
 Zo (.alloc 4 2 49 (.agg [.bool false,.nilS])) .nil)<| .seq (Zr (Zf 7 0 2<|
 Zl 8 1 7<|
 Zf 9 0 3<|
 Zl 10 1 9<|
 Zo (.bin 11 .eql true (.t 8) (.t 10)) .nil)<| .cond (.t 11) (Zr (Zf 12 0 2<|
 Zl 13 1 12<|
 Zf 14 1 2<|
 Zl 15 1 14<|
 Zf 16 1 3<|
 Zl 17 1 16<|
 Zq 18 true 227 [.t 15,.t 17]<|
 Zq 19 true 188 [.t 13,.t 18]<|
 Zs 2 4 19 .nil) .ret) .skip)<| .seq (Zr (Zf 20 1 2<|
 Zl 21 1 20<|
 Zf 22 1 3<|
 Zl 23 1 22<|
 Zq 24 false 218 [.t 21,.t 23]<|
 Zk 25 .lss 24 0 .nil)<| .cond (.t 25) (.rg (Zh 26 2 3<|
 Zh 27 2 2<|
 Zs 2 2 26<|
 Zs 2 3 27 .nil)) .skip)<|Zr (Zf 29 1 2<|
 Zl 30 1 29<|
 Zf 31 1 3<|
 Zl 32 1 31<|
 Zq 33 false 228 [.t 30,.t 32]<|
 Zm 28 33<|
 Zo (.ext 34 (.t 28) 0)<|
 Zo (.ext 35 (.t 28) 1)<|
 Zm 5 34<|
 Zm 6 35 .nil)<|Zr (Zf 36 0 2<|
 Zl 37 1 36<|
 Zm 38 5<|
 Zq 39 false 188 [.t 37,.t 38]<|
 Zs 2 4 39 .nil) .ret⟩
theorem Qaba:Qe Tryz.prog Tryz.f213=some Q6z:=by kernel_rfl
def Q60:SFn:=⟨16,[.cell 4 2 true],Zr (Zo (.box 2 2 49 (.t 0))<|
 Zo (.box 3 2 49 (.t 1))<|
 Zo (.alloc 4 2 49 (.agg [.bool false,.nilS])) .nil)<|Zr (Zf 5 0 2<|
 Zl 6 1 5<|
 Zf 7 0 3<|
 Zl 8 1 7<|
 Zo (.bin 9 .neq true (.t 6) (.t 8))<|
 Zf 10 1 2<|
 Zl 11 1 10<|
 Zf 12 1 3<|
 Zl 13 1 12<|
 Zq 14 true 174 [.t 11,.t 13]<|
 Zq 15 true 188 [.t 9,.t 14]<|
 Zs 2 4 15 .nil) .ret⟩
theorem Qabb:Qe Tryz.prog Tryz.f173=some Q60:=by kernel_rfl
def Q61:SFn:=⟨17,[.t 2],Zr (Zo (.mv 2 (.c (.bool false))) .nil)<|Zr (Zm 4 0<|
 Zn 5 4<|
 Zo (.bld 6 [Zz 0,.int .u16 0] [(0,1,.t 5)])<|
 Zo (.alloc 3 2 194 (.agg [Zz 0,.int .u16 0]))<|
 Zs 2 3 6 .nil)<| .seq (Zr (Zm 7 0<|
 Zn 8 7<|
 Zk 9 .gtr 8 0 .nil)<| .cond (.t 9) (.rg (Zm 10 0<|
 Zo (.idx 11 1 (.t 10) (.c (Zz 0)))<|
 Zl 12 1 11<|
 Zf 13 1 3<|
 Zs 1 13 12 .nil)) .skip)<|Zr (Zh 14 2 3<|
 Zo (.bld 15 [Zz 0,.int .u16 0] [(0,1,.c (Zz 1)),(1,1,.c (.int .u16 1))])<|
 Zo (.eqs 16 false (.t 14) (.t 15))<|
 Zm 2 16 .nil) .ret⟩
theorem Qabc:Qe Tryz.prog Tryz.f175=some Q61:=by kernel_rfl
def Q62:SFn:=⟨2,[.t 0],Zr (Zo (.mv 0 (.c .nilS)) .nil)<|Zr (Zo (.bs 1 1 155 [.c (.int .u16 1)])<|
 Zm 0 1 .nil) .ret⟩
theorem Qabd:Qe Tryz.prog Tryz.f128=some Q62:=by kernel_rfl
def Q63:SFn:=⟨52,[.cell 4 3 true],Zr (Zo (.box 2 2 49 (.t 0))<|
 Zo (.alloc 4 3 51 (.agg [.bool false,.nilS,.nilS])) .nil)<|Zr (Zm 6 1<|
 Zq 7 false 190 [.t 6]<|
 Zm 1 7 .nil)<|Zr (Zh 8 2 2<|
 Zq 9 false 191 [.t 8]<|
 Zs 2 2 9 .nil)<| .seq (Zr (Zm 10 1<|
 Zn 11 10<|
 Zk 12 .eql 11 0<|
 Zm 13 12<|
 Zg 13 false (.fld 14 1 (.t 2))<|
 Zg 13 false (.ld 15 1 false (.t 14))<|
 Zg 13 false (.len 16 (.t 15))<|
 Zg 13 false (.bin 17 .eql false (.t 16) (.c (Zz 0)))<|
 Zo (.pick 18 (.t 13) (.c (.bool true)) (.t 17)) .nil)<| .cond (.t 18) (Zr (Zq 19 false 128 []<|
 Zo (.bld 20 [.bool false,.nilS,.nilS] [(2,1,.t 19)])<|
 Zs 3 4 20 .nil) .ret) .skip)<| .seq (Zr (Zm 21 1<|
 Zq 22 false 175 [.t 21] .nil)<| .cond (.t 22) (Zr (Zh 23 2 2<|
 Zm 24 1<|
 Zo (.bld 25 [.bool false,.nilS,.nilS] [(0,2,.t 23),(2,1,.t 24)])<|
 Zs 3 4 25 .nil) .ret) .skip)<|Zr (Zf 26 1 2<|
 Zl 27 1 26<|
 Zm 28 1<|
 Zq 29 false 186 [.t 27,.t 28]<|
 Zm 5 29 .nil)<| .seq (Zr (Zm 30 5<|
 Zq 31 false 175 [.t 30]<|
 Zu 32 31 .nil)<| .cond (.t 32) (Zr (Zf 34 1 2<|
 Zl 35 1 34<|
 Zm 36 5<|
 Zq 37 false 192 [.t 35,.t 36]<|
 Zm 33 37<|
 Zo (.ext 38 (.t 33) 0)<|
 Zo (.ext 39 (.t 33) 1)<|
 Zo (.ext 40 (.t 33) 2)<|
 Zf 41 1 2<|
 Zs 1 41 38 .nil)<| .rg (Zm 43 1<|
 Zm 44 5<|
 Zq 45 false 192 [.t 43,.t 44]<|
 Zm 42 45<|
 Zo (.ext 46 (.t 42) 0)<|
 Zo (.ext 47 (.t 42) 1)<|
 Zo (.ext 48 (.t 42) 2)<|
 Zm 1 46 .nil)) .skip)<|Zr (Zh 49 2 2<|
 Zm 50 1<|
 Zo (.bld 51 [.bool false,.nilS,.nilS] [(0,2,.t 49),(2,1,.t 50)])<|
 Zs 3 4 51 .nil) .ret⟩
theorem Qabe:Qe Tryz.prog Tryz.f129=some Q63:=by kernel_rfl
def Q64:SFn:=⟨14,[.cell 2 2 true,.t 3],Zr (Zo (.box 1 3 51 (.t 0))<|
 Zo (.alloc 2 2 49 (.agg [.bool false,.nilS]))<|
 Zo (.mv 3 (.c .nilS)) .nil)<| .seq (Zr (Zf 4 2 1<|
 Zl 5 1 4<|
 Zq 6 false 178 [.t 5]<|
 Zk 7 .eql 6 0 .nil)<| .cond (.t 7) (Zr (Zo (.bld 8 [.bool false,.nilS] [])<|
 Zq 9 false 128 []<|
 Zs 2 2 8<|
 Zm 3 9 .nil) .ret) .skip)<|Zr (Zf 10 0 1<|
 Zh 11 2 10<|
 Zf 12 2 1<|
 .br (Zl 13 1 12<|
 Zs 2 2 11<|
 Zm 3 13 .nil) (Zs 2 2 11<|
 Zl 13 1 12<|
 Zm 3 13 .nil)) .ret⟩
theorem Qabf:Qe Tryz.prog Tryz.f108=some Q64:=by kernel_rfl
def Q65:SFn:=⟨5,[.cell 2 2 true],Zr (Zo (.alloc 2 2 49 (.agg [.bool false,.nilS])) .nil)<|Zr (Zm 3 0<|
 Zo (.bld 4 [.bool false,.nilS] [(1,1,.t 3)])<|
 Zs 2 2 4 .nil) .ret⟩
theorem Qabg:Qe Tryz.prog Tryz.f177=some Q65:=by kernel_rfl
def Q66:SFn:=⟨36,[.t 2],Zr (Zo (.box 1 3 51 (.t 0))<|
 Zo (.mv 2 (.c (.bool false))) .nil)<|Zr (Zf 4 2 1<|
 Zl 5 1 4<|
 Zn 6 5<|
 Zm 3 6 .nil)<| .seq (Zr (Zf 7 0 1<|
 Zh 8 2 7<|
 Zq 9 false 185 [.t 8]<|
 Zu 10 9<|
 Zm 11 10<|
 Zg 11 false (.mv 12 (.t 3))<|
 Zg 11 false (.bin 13 .eql false (.t 12) (.c (Zz 0)))<|
 Zo (.pick 14 (.t 11) (.c (.bool true)) (.t 13))<|
 Zm 15 14<|
 Zg 15 false (.fld 16 2 (.t 1))<|
 Zg 15 false (.ld 17 1 false (.t 16))<|
 Zg 15 false (.mv 18 (.t 3))<|
 Zg 15 false (.bin 19 .sub false (.t 18) (.c (Zz 1)))<|
 Zg 15 false (.idx 20 1 (.t 17) (.t 19))<|
 Zg 15 false (.ld 21 1 false (.t 20))<|
 Zg 15 false (.bin 22 .eql false (.t 21) (.c (.int .u16 0)))<|
 Zo (.pick 23 (.t 15) (.c (.bool true)) (.t 22)) .nil)<| .cond (.t 23) (Zr (Zo (.mv 2 (.c (.bool false))) .nil) .ret) .skip)<|Zr (Zf 24 2 1<|
 Zl 25 1 24<|
 Zq 26 false 175 [.t 25]<|
 Zm 27 26<|
 Zg 27 false (.fld 28 0 (.t 1))<|
 Zg 27 false (.fld 29 1 (.t 28))<|
 Zg 27 false (.ld 30 1 false (.t 29))<|
 Zg 27 false (.fld 31 2 (.t 1))<|
 Zg 27 false (.ld 32 1 false (.t 31))<|
 Zg 27 false (.call (some 33) false (.c (.fn 186 [] [])) [.t 30,.t 32])<|
 Zg 27 false (.call (some 34) false (.c (.fn 175 [] [])) [.t 33])<|
 Zo (.pick 35 (.t 27) (.c (.bool true)) (.t 34))<|
 Zm 2 35 .nil) .ret⟩
theorem Qabh:Qe Tryz.prog Tryz.f122=some Q66:=by kernel_rfl
def c61:SFn:=⟨7,[.cell 2 3 true],Zr (Zo (.alloc 2 3 51 (.agg [.bool false,.nilS,.nilS])) .nil)<|Zr (Zm 3 0<|
 Zq 4 false 127 [.t 3]<|
 Zq 5 false 128 []<|
 Zo (.bld 6 [.bool false,.nilS,.nilS] [(0,2,.t 4),(2,1,.t 5)])<|
 Zs 3 2 6 .nil) .ret⟩
theorem Qae0:Qe Tryz.prog Tryz.f61=some c61:=by kernel_rfl
def c38:SFn:=⟨12,[.t 2],Zr (Zo (.box 1 3 51 (.t 0))<|
 Zc 2 0 .nil)<|Zr (Zh 6 3 1<|
 Zq 7 false 108 [.t 6]<|
 Zm 5 7<|
 Zo (.ext 8 (.t 5) 0)<|
 Zo (.ext 9 (.t 5) 1)<|
 Zo (.alloc 3 2 49 (.agg [.bool false,.nilS]))<|
 Zs 2 3 8<|
 Zm 4 9 .nil)<|Zr (Zh 10 2 3<|
 Zq 11 false 109 [.t 10]<|
 Zm 2 11 .nil) .ret⟩
theorem Qae1:Qe Tryz.prog Tryz.f38=some c38:=by kernel_rfl
def Q67:SFn:=⟨40,[.t 4],Zr (Zo (.box 2 3 51 (.t 0))<|
 Zo (.box 3 3 51 (.t 1))<|
 Zc 4 0 .nil)<|Zr (Zh 11 3 2<|
 Zh 13 3 3<|
 Zq 12 true 38 [.t 11]<|
 Zq 14 true 38 [.t 13]<|
 Zm 5 12<|
 Zm 6 14 .nil)<| .seq (Zr (Zm 15 5<|
 Zm 16 6<|
 Zb 17 .neq 15 16 .nil)<| .cond (.t 17) (.seq (Zr (Zm 18 5<|
 Zm 19 6<|
 Zb 20 .lss 18 19 .nil)<| .cond (.t 20) (Zr (Zc 4 (-1) .nil) .ret) .skip)<|Zr (Zc 4 1 .nil) .ret) .skip)<|Zr (Zh 22 3 2<|
 Zq 23 false 108 [.t 22]<|
 Zm 21 23<|
 Zo (.ext 24 (.t 21) 0)<|
 Zo (.ext 25 (.t 21) 1)<|
 Zo (.alloc 7 2 49 (.agg [.bool false,.nilS]))<|
 Zs 2 7 24<|
 Zm 8 25 .nil)<|Zr (Zh 27 3 3<|
 Zq 28 false 108 [.t 27]<|
 Zm 26 28<|
 Zo (.ext 29 (.t 26) 0)<|
 Zo (.ext 30 (.t 26) 1)<|
 Zo (.alloc 9 2 49 (.agg [.bool false,.nilS]))<|
 Zs 2 9 29<|
 Zm 10 30 .nil)<|Zr (Zh 31 2 7<|
 Zm 32 10<|
 Zh 35 2 9<|
 Zm 36 8<|
 Zq 33 true 177 [.t 32]<|
 Zq 34 true 173 [.t 31,.t 33]<|
 Zq 37 true 177 [.t 36]<|
 Zq 38 true 173 [.t 35,.t 37]<|
 Zq 39 true 224 [.t 34,.t 38]<|
 Zm 4 39 .nil) .ret⟩
theorem Qabi:Qe Tryz.prog Tryz.f204=some Q67:=by kernel_rfl
def Q68:SFn:=⟨9,[.t 4],Zr (Zo (.box 2 3 51 (.t 0))<|
 Zo (.box 3 3 51 (.t 1))<|
 Zo (.mv 4 (.c (.bool false))) .nil)<|Zr (Zh 5 3 2<|
 Zh 6 3 3<|
 Zq 7 false 204 [.t 5,.t 6]<|
 Zk 8 .eql 7 0<|
 Zm 4 8 .nil) .ret⟩
theorem Qabj:Qe Tryz.prog Tryz.f179=some Q68:=by kernel_rfl
def Q69:SFn:=⟨17,[.cell 2 2 true],Zr (Zo (.alloc 2 2 49 (.agg [.bool false,.nilS])) .nil)<|Zr (Zo (.alloc 3 2 49 (.agg [.bool false,.nilS])) .nil)<| .seq (Zr (Zm 6 0<|
 Zn 7 6<|
 Zc 8 0 .nil)<| .block 0<| .loop<|Zr (Zb 9 .lss 8 7 .nil)<| .seq (.cond (.t 9) .skip (.exit 0))<| .seq (.block 1<|Zr (Zi 10 2 6 8<|
 Zh 11 2 10<|
 Zo (.alloc 5 2 49 (.agg [.bool false,.nilS]))<|
 Zs 2 5 11 .nil)<| .rg (Zh 12 2 3<|
 Zh 13 2 5<|
 Zq 14 false 213 [.t 12,.t 13]<|
 Zs 2 3 14 .nil))<| .rg (Zk 15 .add 8 1<|
 Zm 8 15 .nil))<|Zr (Zh 16 2 3<|
 Zs 2 2 16 .nil) .ret⟩
theorem Qabk:Qe Tryz.prog Tryz.f176=some Q69:=by kernel_rfl
def Q7a:SFn:=⟨45,[.cell 4 3 true],Zr (Zo (.box 2 3 51 (.t 0))<|
 Zo (.box 3 3 51 (.t 1))<|
 Zo (.alloc 4 3 51 (.agg [.bool false,.nilS,.nilS])) .nil)<|Zr (Zh 10 3 2<|
 Zq 11 false 108 [.t 10]<|
 Zm 9 11<|
 Zo (.ext 12 (.t 9) 0)<|
 Zo (.ext 13 (.t 9) 1)<|
 Zo (.alloc 5 2 49 (.agg [.bool false,.nilS]))<|
 Zs 2 5 12<|
 Zm 6 13 .nil)<|Zr (Zh 15 3 3<|
 Zq 16 false 108 [.t 15]<|
 Zm 14 16<|
 Zo (.ext 17 (.t 14) 0)<|
 Zo (.ext 18 (.t 14) 1)<|
 Zo (.alloc 7 2 49 (.agg [.bool false,.nilS]))<|
 Zs 2 7 17<|
 Zm 8 18 .nil)<| .seq (Zr (Zm 19 6<|
 Zq 20 false 175 [.t 19]<|
 Zm 21 20<|
 Zg 21 true (.mv 22 (.t 8))<|
 Zg 21 true (.call (some 23) false (.c (.fn 175 [] [])) [.t 22])<|
 Zo (.pick 24 (.t 21) (.t 23) (.c (.bool false))) .nil)<| .cond (.t 24) (Zr (Zh 25 2 5<|
 Zh 26 2 7<|
 Zo (.bs 27 2 49 [.t 25,.t 26])<|
 Zq 28 false 176 [.t 27]<|
 Zm 29 6<|
 Zq 30 false 129 [.t 28,.t 29]<|
 Zs 3 4 30 .nil) .ret) .skip)<|Zr (Zh 31 2 5<|
 Zm 32 8<|
 Zh 35 2 7<|
 Zm 36 6<|
 Zm 41 6<|
 Zm 42 8<|
 Zq 33 true 177 [.t 32]<|
 Zq 34 true 173 [.t 31,.t 33]<|
 Zq 37 true 177 [.t 36]<|
 Zq 38 true 173 [.t 35,.t 37]<|
 Zo (.bs 39 2 49 [.t 34,.t 38])<|
 Zq 40 true 176 [.t 39]<|
 Zq 43 true 174 [.t 41,.t 42]<|
 Zq 44 true 129 [.t 40,.t 43]<|
 Zs 3 4 44 .nil) .ret⟩
theorem Qabl:Qe Tryz.prog Tryz.f107=some Q7a:=by kernel_rfl
def Q7b:SFn:=⟨18,[.cell 4 3 true],Zr (Zo (.box 2 3 51 (.t 0))<|
 Zo (.box 3 3 51 (.t 1))<|
 Zo (.alloc 4 3 51 (.agg [.bool false,.nilS,.nilS])) .nil)<|Zr (Zh 5 3 2<|
 Zf 6 0 3<|
 Zf 7 0 6<|
 Zl 8 1 7<|
 Zu 9 8<|
 Zf 10 0 3<|
 Zf 11 1 10<|
 Zl 12 1 11<|
 Zo (.bld 13 [.bool false,.nilS] [(0,1,.t 9),(1,1,.t 12)])<|
 Zf 14 2 3<|
 Zl 15 1 14<|
 Zo (.bld 16 [.bool false,.nilS,.nilS] [(0,2,.t 13),(2,1,.t 15)])<|
 Zq 17 false 107 [.t 5,.t 16]<|
 Zs 3 4 17 .nil) .ret⟩
theorem Qabm:Qe Tryz.prog Tryz.f181=some Q7b:=by kernel_rfl
def Q7c:SFn:=⟨26,[.cell 4 3 true],Zr (Zo (.box 2 3 51 (.t 0))<|
 Zo (.box 3 3 51 (.t 1))<|
 Zo (.alloc 4 3 51 (.agg [.bool false,.nilS,.nilS])) .nil)<|Zr (Zh 10 3 2<|
 Zq 11 false 108 [.t 10]<|
 Zm 9 11<|
 Zo (.ext 12 (.t 9) 0)<|
 Zo (.ext 13 (.t 9) 1)<|
 Zo (.alloc 5 2 49 (.agg [.bool false,.nilS]))<|
 Zs 2 5 12<|
 Zm 6 13 .nil)<|Zr (Zh 15 3 3<|
 Zq 16 false 108 [.t 15]<|
 Zm 14 16<|
 Zo (.ext 17 (.t 14) 0)<|
 Zo (.ext 18 (.t 14) 1)<|
 Zo (.alloc 7 2 49 (.agg [.bool false,.nilS]))<|
 Zs 2 7 17<|
 Zm 8 18 .nil)<|Zr (Zh 19 2 5<|
 Zh 20 2 7<|
 Zq 21 false 173 [.t 19,.t 20]<|
 Zm 22 6<|
 Zm 23 8<|
 Zq 24 false 174 [.t 22,.t 23]<|
 Zq 25 false 129 [.t 21,.t 24]<|
 Zs 3 4 25 .nil) .ret⟩
theorem Qabn:Qe Tryz.prog Tryz.f105=some Q7c:=by kernel_rfl
def c62:SFn:=⟨18,[.cell 2 3 true],Zr (Zo (.box 1 3 51 (.t 0))<|
 Zo (.alloc 2 3 51 (.agg [.bool false,.nilS,.nilS])) .nil)<|Zr (Zh 6 3 1<|
 Zq 7 false 108 [.t 6]<|
 Zm 5 7<|
 Zo (.ext 8 (.t 5) 0)<|
 Zo (.ext 9 (.t 5) 1)<|
 Zo (.alloc 3 2 49 (.agg [.bool false,.nilS]))<|
 Zs 2 3 8<|
 Zm 4 9 .nil)<|Zr (Zf 10 0 3<|
 Zl 11 1 10<|
 Zu 12 11<|
 Zf 13 1 3<|
 Zl 14 1 13<|
 Zo (.bld 15 [.bool false,.nilS] [(0,1,.t 12),(1,1,.t 14)])<|
 Zm 16 4<|
 Zq 17 false 129 [.t 15,.t 16]<|
 Zs 3 2 17 .nil) .ret⟩
theorem Qae2:Qe Tryz.prog Tryz.f62=some c62:=by kernel_rfl
def Q7d:SFn:=⟨21,[.cell 4 3 true,.t 5],Zr (Zo (.box 2 2 49 (.t 0))<|
 Zo (.box 3 2 49 (.t 1))<|
 Zo (.alloc 4 3 51 (.agg [.bool false,.nilS,.nilS]))<|
 Zc 5 0 .nil)<| .seq (Zr (Zh 6 2 3<|
 Zq 7 false 109 [.t 6]<|
 Zk 8 .eql 7 0 .nil)<| .cond (.t 8) (Zr (Zo (.bld 9 [.bool false,.nilS,.nilS] [])<|
 Zs 3 4 9<|
 Zc 5 3 .nil) .ret) .skip)<|Zr (Zf 10 0 2<|
 Zl 11 1 10<|
 Zf 12 0 3<|
 Zl 13 1 12<|
 Zo (.bin 14 .neq true (.t 11) (.t 13))<|
 Zf 15 1 2<|
 Zl 16 1 15<|
 Zo (.bld 17 [.bool false,.nilS] [(0,1,.t 14),(1,1,.t 16)])<|
 Zf 18 1 3<|
 Zl 19 1 18<|
 Zq 20 false 129 [.t 17,.t 19]<|
 Zs 3 4 20<|
 Zc 5 0 .nil) .ret⟩
theorem Qabo:Qe Tryz.prog Tryz.f187=some Q7d:=by kernel_rfl
def Q7e:SFn:=⟨31,[.cell 4 3 true,.t 5],Zr (Zo (.box 2 3 51 (.t 0))<|
 Zo (.box 3 3 51 (.t 1))<|
 Zo (.alloc 4 3 51 (.agg [.bool false,.nilS,.nilS]))<|
 Zc 5 0 .nil)<|Zr (Zh 11 3 2<|
 Zq 12 false 108 [.t 11]<|
 Zm 10 12<|
 Zo (.ext 13 (.t 10) 0)<|
 Zo (.ext 14 (.t 10) 1)<|
 Zo (.alloc 6 2 49 (.agg [.bool false,.nilS]))<|
 Zs 2 6 13<|
 Zm 7 14 .nil)<|Zr (Zh 16 3 3<|
 Zq 17 false 108 [.t 16]<|
 Zm 15 17<|
 Zo (.ext 18 (.t 15) 0)<|
 Zo (.ext 19 (.t 15) 1)<|
 Zo (.alloc 8 2 49 (.agg [.bool false,.nilS]))<|
 Zs 2 8 18<|
 Zm 9 19 .nil)<|Zr (Zh 20 2 6<|
 Zm 21 9<|
 Zh 24 2 8<|
 Zm 25 7<|
 Zq 22 true 177 [.t 21]<|
 Zq 23 true 173 [.t 20,.t 22]<|
 Zq 26 true 177 [.t 25]<|
 Zq 27 true 173 [.t 24,.t 26]<|
 Zq 28 true 187 [.t 23,.t 27]<|
 Zo (.ext 29 (.t 28) 0)<|
 Zo (.ext 30 (.t 28) 1)<|
 Zs 3 4 29<|
 Zm 5 30 .nil) .ret⟩
theorem Qabp:Qe Tryz.prog Tryz.f123=some Q7e:=by kernel_rfl
def Q7f:SFn:=⟨108,[.t 4],Zr (Zo (.box 2 1 47 (.t 0))<|
 Zo (.box 3 1 47 (.t 1))<|
 Zo (.mv 4 (.c .nilS)) .nil)<|Zr (Zl 12 1 3<|
 Zn 13 12<|
 Zo (.alloc 5 1 3 (Zz 0))<|
 Zs 1 5 13 .nil)<|Zr (Zl 14 1 2<|
 Zn 15 14<|
 Zl 16 1 5<|
 Zb 17 .sub 15 16<|
 Zo (.mk 18 1 2 155 (.int .u16 0) (.t 17) (.t 17))<|
 Zm 6 18 .nil)<| .seq (Zr (Zl 19 1 2<|
 Zn 20 19<|
 Zl 21 1 5<|
 Zb 22 .sub 20 21<|
 Zk 23 .sub 22 1<|
 Zo (.alloc 7 1 3 (Zz 0))<|
 Zs 1 7 23 .nil)<| .block 0<| .loop<| .seq (Zr (Zl 24 1 7<|
 Zk 25 .geq 24 0 .nil)<| .cond (.t 25) .skip (.exit 0))<| .seq (.block 1<|Zr (Zl 28 1 2<|
 Zl 29 1 7<|
 Zl 30 1 5<|
 Zb 31 .add 29 30<|
 Zi 32 1 28 31<|
 Zl 33 1 32<|
 Zo (.conv 34 .u64 (.t 33))<|
 Zo (.bin 35 .shl false (.t 34) (.c (.int .u64 16)))<|
 Zl 36 1 2<|
 Zl 37 1 7<|
 Zl 38 1 5<|
 Zb 39 .add 37 38<|
 Zk 40 .sub 39 1<|
 Zi 41 1 36 40<|
 Zl 42 1 41<|
 Zo (.conv 43 .u64 (.t 42))<|
 Zb 44 .or 35 43<|
 Zm 8 44 .nil)<|Zr (Zm 45 8<|
 Zl 46 1 3<|
 Zl 47 1 5<|
 Zk 48 .sub 47 1<|
 Zi 49 1 46 48<|
 Zl 50 1 49<|
 Zo (.conv 51 .u64 (.t 50))<|
 Zb 52 .quo 45 51<|
 Zm 53 8<|
 .br (Zl 54 1 3<|
 .br (Zl 55 1 5<|
 Zk 56 .sub 55 1<|
 Zi 57 1 54 56<|
 .br (Zl 58 1 57<|
 Zo (.conv 59 .u64 (.t 58))<|
 Zb 60 .rem 53 59<|
 .br (Zo (.alloc 9 1 112 (.int .u64 0))<|
 Zo (.alloc 10 1 112 (.int .u64 0))<|
 Zs 1 9 52<|
 Zs 1 10 60 .nil) (Zo (.alloc 10 1 112 (.int .u64 0))<|
 Zo (.alloc 9 1 112 (.int .u64 0))<|
 Zs 1 9 52<|
 Zs 1 10 60 .nil)) (.br (Zo (.alloc 9 1 112 (.int .u64 0))<|
 .br (Zl 58 1 57<|
 Zo (.conv 59 .u64 (.t 58))<|
 Zb 60 .rem 53 59<|
 Zo (.alloc 10 1 112 (.int .u64 0))<|
 Zs 1 9 52<|
 Zs 1 10 60 .nil) (Zo (.alloc 10 1 112 (.int .u64 0))<|
 .br (Zl 58 1 57<|
 Zo (.conv 59 .u64 (.t 58))<|
 Zb 60 .rem 53 59<|
 Zs 1 9 52<|
 Zs 1 10 60 .nil) (Zs 1 9 52<|
 Zl 58 1 57<|
 Zo (.conv 59 .u64 (.t 58))<|
 Zb 60 .rem 53 59<|
 Zs 1 10 60 .nil))) (Zo (.alloc 10 1 112 (.int .u64 0))<|
 .br (Zl 58 1 57<|
 Zo (.conv 59 .u64 (.t 58))<|
 Zb 60 .rem 53 59<|
 Zo (.alloc 9 1 112 (.int .u64 0))<|
 Zs 1 9 52<|
 Zs 1 10 60 .nil) (Zo (.alloc 9 1 112 (.int .u64 0))<|
 .br (Zl 58 1 57<|
 Zo (.conv 59 .u64 (.t 58))<|
 Zb 60 .rem 53 59<|
 Zs 1 9 52<|
 Zs 1 10 60 .nil) (Zs 1 9 52<|
 Zl 58 1 57<|
 Zo (.conv 59 .u64 (.t 58))<|
 Zb 60 .rem 53 59<|
 Zs 1 10 60 .nil))))) (.br (Zo (.alloc 9 1 112 (.int .u64 0))<|
 .br (Zl 55 1 5<|
 Zk 56 .sub 55 1<|
 Zi 57 1 54 56<|
 .br (Zl 58 1 57<|
 Zo (.conv 59 .u64 (.t 58))<|
 Zb 60 .rem 53 59<|
 Zo (.alloc 10 1 112 (.int .u64 0))<|
 Zs 1 9 52<|
 Zs 1 10 60 .nil) (Zo (.alloc 10 1 112 (.int .u64 0))<|
 .br (Zl 58 1 57<|
 Zo (.conv 59 .u64 (.t 58))<|
 Zb 60 .rem 53 59<|
 Zs 1 9 52<|
 Zs 1 10 60 .nil) (Zs 1 9 52<|
 Zl 58 1 57<|
 Zo (.conv 59 .u64 (.t 58))<|
 Zb 60 .rem 53 59<|
 Zs 1 10 60 .nil))) (Zo (.alloc 10 1 112 (.int .u64 0))<|
 .br (Zl 55 1 5<|
 Zk 56 .sub 55 1<|
 Zi 57 1 54 56<|
 .br (Zl 58 1 57<|
 Zo (.conv 59 .u64 (.t 58))<|
 Zb 60 .rem 53 59<|
 Zs 1 9 52<|
 Zs 1 10 60 .nil) (Zs 1 9 52<|
 Zl 58 1 57<|
 Zo (.conv 59 .u64 (.t 58))<|
 Zb 60 .rem 53 59<|
 Zs 1 10 60 .nil)) (Zs 1 9 52<|
 Zl 55 1 5<|
 Zk 56 .sub 55 1<|
 Zi 57 1 54 56<|
 Zl 58 1 57<|
 Zo (.conv 59 .u64 (.t 58))<|
 Zb 60 .rem 53 59<|
 Zs 1 10 60 .nil))) (Zo (.alloc 10 1 112 (.int .u64 0))<|
 .br (Zl 55 1 5<|
 Zk 56 .sub 55 1<|
 Zi 57 1 54 56<|
 .br (Zl 58 1 57<|
 Zo (.conv 59 .u64 (.t 58))<|
 Zb 60 .rem 53 59<|
 Zo (.alloc 9 1 112 (.int .u64 0))<|
 Zs 1 9 52<|
 Zs 1 10 60 .nil) (Zo (.alloc 9 1 112 (.int .u64 0))<|
 .br (Zl 58 1 57<|
 Zo (.conv 59 .u64 (.t 58))<|
 Zb 60 .rem 53 59<|
 Zs 1 9 52<|
 Zs 1 10 60 .nil) (Zs 1 9 52<|
 Zl 58 1 57<|
 Zo (.conv 59 .u64 (.t 58))<|
 Zb 60 .rem 53 59<|
 Zs 1 10 60 .nil))) (Zo (.alloc 9 1 112 (.int .u64 0))<|
 .br (Zl 55 1 5<|
 Zk 56 .sub 55 1<|
 Zi 57 1 54 56<|
 .br (Zl 58 1 57<|
 Zo (.conv 59 .u64 (.t 58))<|
 Zb 60 .rem 53 59<|
 Zs 1 9 52<|
 Zs 1 10 60 .nil) (Zs 1 9 52<|
 Zl 58 1 57<|
 Zo (.conv 59 .u64 (.t 58))<|
 Zb 60 .rem 53 59<|
 Zs 1 10 60 .nil)) (Zs 1 9 52<|
 Zl 55 1 5<|
 Zk 56 .sub 55 1<|
 Zi 57 1 54 56<|
 Zl 58 1 57<|
 Zo (.conv 59 .u64 (.t 58))<|
 Zb 60 .rem 53 59<|
 Zs 1 10 60 .nil))))) (.br (Zl 55 1 5<|
 Zk 56 .sub 55 1<|
 .br (Zl 54 1 3<|
 Zi 57 1 54 56<|
 .br (Zl 58 1 57<|
 Zo (.conv 59 .u64 (.t 58))<|
 Zb 60 .rem 53 59<|
 .br (Zo (.alloc 9 1 112 (.int .u64 0))<|
 Zo (.alloc 10 1 112 (.int .u64 0))<|
 Zs 1 9 52<|
 Zs 1 10 60 .nil) (Zo (.alloc 10 1 112 (.int .u64 0))<|
 Zo (.alloc 9 1 112 (.int .u64 0))<|
 Zs 1 9 52<|
 Zs 1 10 60 .nil)) (.br (Zo (.alloc 9 1 112 (.int .u64 0))<|
 .br (Zl 58 1 57<|
 Zo (.conv 59 .u64 (.t 58))<|
 Zb 60 .rem 53 59<|
 Zo (.alloc 10 1 112 (.int .u64 0))<|
 Zs 1 9 52<|
 Zs 1 10 60 .nil) (Zo (.alloc 10 1 112 (.int .u64 0))<|
 .br (Zl 58 1 57<|
 Zo (.conv 59 .u64 (.t 58))<|
 Zb 60 .rem 53 59<|
 Zs 1 9 52<|
 Zs 1 10 60 .nil) (Zs 1 9 52<|
 Zl 58 1 57<|
 Zo (.conv 59 .u64 (.t 58))<|
 Zb 60 .rem 53 59<|
 Zs 1 10 60 .nil))) (Zo (.alloc 10 1 112 (.int .u64 0))<|
 .br (Zl 58 1 57<|
 Zo (.conv 59 .u64 (.t 58))<|
 Zb 60 .rem 53 59<|
 Zo (.alloc 9 1 112 (.int .u64 0))<|
 Zs 1 9 52<|
 Zs 1 10 60 .nil) (Zo (.alloc 9 1 112 (.int .u64 0))<|
 .br (Zl 58 1 57<|
 Zo (.conv 59 .u64 (.t 58))<|
 Zb 60 .rem 53 59<|
 Zs 1 9 52<|
 Zs 1 10 60 .nil) (Zs 1 9 52<|
 Zl 58 1 57<|
 Zo (.conv 59 .u64 (.t 58))<|
 Zb 60 .rem 53 59<|
 Zs 1 10 60 .nil))))) (.br (Zo (.alloc 9 1 112 (.int .u64 0))<|
 .br (Zl 54 1 3<|
 Zi 57 1 54 56<|
 .br (Zl 58 1 57<|
 Zo (.conv 59 .u64 (.t 58))<|
 Zb 60 .rem 53 59<|
 Zo (.alloc 10 1 112 (.int .u64 0))<|
 Zs 1 9 52<|
 Zs 1 10 60 .nil) (Zo (.alloc 10 1 112 (.int .u64 0))<|
 .br (Zl 58 1 57<|
 Zo (.conv 59 .u64 (.t 58))<|
 Zb 60 .rem 53 59<|
 Zs 1 9 52<|
 Zs 1 10 60 .nil) (Zs 1 9 52<|
 Zl 58 1 57<|
 Zo (.conv 59 .u64 (.t 58))<|
 Zb 60 .rem 53 59<|
 Zs 1 10 60 .nil))) (Zo (.alloc 10 1 112 (.int .u64 0))<|
 .br (Zl 54 1 3<|
 Zi 57 1 54 56<|
 .br (Zl 58 1 57<|
 Zo (.conv 59 .u64 (.t 58))<|
 Zb 60 .rem 53 59<|
 Zs 1 9 52<|
 Zs 1 10 60 .nil) (Zs 1 9 52<|
 Zl 58 1 57<|
 Zo (.conv 59 .u64 (.t 58))<|
 Zb 60 .rem 53 59<|
 Zs 1 10 60 .nil)) (Zs 1 9 52<|
 Zl 54 1 3<|
 Zi 57 1 54 56<|
 Zl 58 1 57<|
 Zo (.conv 59 .u64 (.t 58))<|
 Zb 60 .rem 53 59<|
 Zs 1 10 60 .nil))) (Zo (.alloc 10 1 112 (.int .u64 0))<|
 .br (Zl 54 1 3<|
 Zi 57 1 54 56<|
 .br (Zl 58 1 57<|
 Zo (.conv 59 .u64 (.t 58))<|
 Zb 60 .rem 53 59<|
 Zo (.alloc 9 1 112 (.int .u64 0))<|
 Zs 1 9 52<|
 Zs 1 10 60 .nil) (Zo (.alloc 9 1 112 (.int .u64 0))<|
 .br (Zl 58 1 57<|
 Zo (.conv 59 .u64 (.t 58))<|
 Zb 60 .rem 53 59<|
 Zs 1 9 52<|
 Zs 1 10 60 .nil) (Zs 1 9 52<|
 Zl 58 1 57<|
 Zo (.conv 59 .u64 (.t 58))<|
 Zb 60 .rem 53 59<|
 Zs 1 10 60 .nil))) (Zo (.alloc 9 1 112 (.int .u64 0))<|
 .br (Zl 54 1 3<|
 Zi 57 1 54 56<|
 .br (Zl 58 1 57<|
 Zo (.conv 59 .u64 (.t 58))<|
 Zb 60 .rem 53 59<|
 Zs 1 9 52<|
 Zs 1 10 60 .nil) (Zs 1 9 52<|
 Zl 58 1 57<|
 Zo (.conv 59 .u64 (.t 58))<|
 Zb 60 .rem 53 59<|
 Zs 1 10 60 .nil)) (Zs 1 9 52<|
 Zl 54 1 3<|
 Zi 57 1 54 56<|
 Zl 58 1 57<|
 Zo (.conv 59 .u64 (.t 58))<|
 Zb 60 .rem 53 59<|
 Zs 1 10 60 .nil))))) (.br (Zo (.alloc 9 1 112 (.int .u64 0))<|
 .br (Zl 54 1 3<|
 .br (Zl 55 1 5<|
 Zk 56 .sub 55 1<|
 Zi 57 1 54 56<|
 .br (Zl 58 1 57<|
 Zo (.conv 59 .u64 (.t 58))<|
 Zb 60 .rem 53 59<|
 Zo (.alloc 10 1 112 (.int .u64 0))<|
 Zs 1 9 52<|
 Zs 1 10 60 .nil) (Zo (.alloc 10 1 112 (.int .u64 0))<|
 .br (Zl 58 1 57<|
 Zo (.conv 59 .u64 (.t 58))<|
 Zb 60 .rem 53 59<|
 Zs 1 9 52<|
 Zs 1 10 60 .nil) (Zs 1 9 52<|
 Zl 58 1 57<|
 Zo (.conv 59 .u64 (.t 58))<|
 Zb 60 .rem 53 59<|
 Zs 1 10 60 .nil))) (Zo (.alloc 10 1 112 (.int .u64 0))<|
 .br (Zl 55 1 5<|
 Zk 56 .sub 55 1<|
 Zi 57 1 54 56<|
 .br (Zl 58 1 57<|
 Zo (.conv 59 .u64 (.t 58))<|
 Zb 60 .rem 53 59<|
 Zs 1 9 52<|
 Zs 1 10 60 .nil) (Zs 1 9 52<|
 Zl 58 1 57<|
 Zo (.conv 59 .u64 (.t 58))<|
 Zb 60 .rem 53 59<|
 Zs 1 10 60 .nil)) (Zs 1 9 52<|
 Zl 55 1 5<|
 Zk 56 .sub 55 1<|
 Zi 57 1 54 56<|
 Zl 58 1 57<|
 Zo (.conv 59 .u64 (.t 58))<|
 Zb 60 .rem 53 59<|
 Zs 1 10 60 .nil))) (.br (Zl 55 1 5<|
 Zk 56 .sub 55 1<|
 .br (Zl 54 1 3<|
 Zi 57 1 54 56<|
 .br (Zl 58 1 57<|
 Zo (.conv 59 .u64 (.t 58))<|
 Zb 60 .rem 53 59<|
 Zo (.alloc 10 1 112 (.int .u64 0))<|
 Zs 1 9 52<|
 Zs 1 10 60 .nil) (Zo (.alloc 10 1 112 (.int .u64 0))<|
 .br (Zl 58 1 57<|
 Zo (.conv 59 .u64 (.t 58))<|
 Zb 60 .rem 53 59<|
 Zs 1 9 52<|
 Zs 1 10 60 .nil) (Zs 1 9 52<|
 Zl 58 1 57<|
 Zo (.conv 59 .u64 (.t 58))<|
 Zb 60 .rem 53 59<|
 Zs 1 10 60 .nil))) (Zo (.alloc 10 1 112 (.int .u64 0))<|
 .br (Zl 54 1 3<|
 Zi 57 1 54 56<|
 .br (Zl 58 1 57<|
 Zo (.conv 59 .u64 (.t 58))<|
 Zb 60 .rem 53 59<|
 Zs 1 9 52<|
 Zs 1 10 60 .nil) (Zs 1 9 52<|
 Zl 58 1 57<|
 Zo (.conv 59 .u64 (.t 58))<|
 Zb 60 .rem 53 59<|
 Zs 1 10 60 .nil)) (Zs 1 9 52<|
 Zl 54 1 3<|
 Zi 57 1 54 56<|
 Zl 58 1 57<|
 Zo (.conv 59 .u64 (.t 58))<|
 Zb 60 .rem 53 59<|
 Zs 1 10 60 .nil))) (Zo (.alloc 10 1 112 (.int .u64 0))<|
 .br (Zl 54 1 3<|
 .br (Zl 55 1 5<|
 Zk 56 .sub 55 1<|
 Zi 57 1 54 56<|
 .br (Zl 58 1 57<|
 Zo (.conv 59 .u64 (.t 58))<|
 Zb 60 .rem 53 59<|
 Zs 1 9 52<|
 Zs 1 10 60 .nil) (Zs 1 9 52<|
 Zl 58 1 57<|
 Zo (.conv 59 .u64 (.t 58))<|
 Zb 60 .rem 53 59<|
 Zs 1 10 60 .nil)) (Zs 1 9 52<|
 Zl 55 1 5<|
 Zk 56 .sub 55 1<|
 Zi 57 1 54 56<|
 Zl 58 1 57<|
 Zo (.conv 59 .u64 (.t 58))<|
 Zb 60 .rem 53 59<|
 Zs 1 10 60 .nil)) (.br (Zl 55 1 5<|
 Zk 56 .sub 55 1<|
 .br (Zl 54 1 3<|
 Zi 57 1 54 56<|
 .br (Zl 58 1 57<|
 Zo (.conv 59 .u64 (.t 58))<|
 Zb 60 .rem 53 59<|
 Zs 1 9 52<|
 Zs 1 10 60 .nil) (Zs 1 9 52<|
 Zl 58 1 57<|
 Zo (.conv 59 .u64 (.t 58))<|
 Zb 60 .rem 53 59<|
 Zs 1 10 60 .nil)) (Zs 1 9 52<|
 Zl 54 1 3<|
 Zi 57 1 54 56<|
 Zl 58 1 57<|
 Zo (.conv 59 .u64 (.t 58))<|
 Zb 60 .rem 53 59<|
 Zs 1 10 60 .nil)) (Zs 1 9 52<|
 .br (Zl 54 1 3<|
 Zl 55 1 5<|
 Zk 56 .sub 55 1<|
 Zi 57 1 54 56<|
 Zl 58 1 57<|
 Zo (.conv 59 .u64 (.t 58))<|
 Zb 60 .rem 53 59<|
 Zs 1 10 60 .nil) (Zl 55 1 5<|
 Zk 56 .sub 55 1<|
 Zl 54 1 3<|
 Zi 57 1 54 56<|
 Zl 58 1 57<|
 Zo (.conv 59 .u64 (.t 58))<|
 Zb 60 .rem 53 59<|
 Zs 1 10 60 .nil)))))) (Zo (.alloc 10 1 112 (.int .u64 0))<|
 .br (Zl 54 1 3<|
 .br (Zl 55 1 5<|
 Zk 56 .sub 55 1<|
 Zi 57 1 54 56<|
 .br (Zl 58 1 57<|
 Zo (.conv 59 .u64 (.t 58))<|
 Zb 60 .rem 53 59<|
 Zo (.alloc 9 1 112 (.int .u64 0))<|
 Zs 1 9 52<|
 Zs 1 10 60 .nil) (Zo (.alloc 9 1 112 (.int .u64 0))<|
 .br (Zl 58 1 57<|
 Zo (.conv 59 .u64 (.t 58))<|
 Zb 60 .rem 53 59<|
 Zs 1 9 52<|
 Zs 1 10 60 .nil) (Zs 1 9 52<|
 Zl 58 1 57<|
 Zo (.conv 59 .u64 (.t 58))<|
 Zb 60 .rem 53 59<|
 Zs 1 10 60 .nil))) (Zo (.alloc 9 1 112 (.int .u64 0))<|
 .br (Zl 55 1 5<|
 Zk 56 .sub 55 1<|
 Zi 57 1 54 56<|
 .br (Zl 58 1 57<|
 Zo (.conv 59 .u64 (.t 58))<|
 Zb 60 .rem 53 59<|
 Zs 1 9 52<|
 Zs 1 10 60 .nil) (Zs 1 9 52<|
 Zl 58 1 57<|
 Zo (.conv 59 .u64 (.t 58))<|
 Zb 60 .rem 53 59<|
 Zs 1 10 60 .nil)) (Zs 1 9 52<|
 Zl 55 1 5<|
 Zk 56 .sub 55 1<|
 Zi 57 1 54 56<|
 Zl 58 1 57<|
 Zo (.conv 59 .u64 (.t 58))<|
 Zb 60 .rem 53 59<|
 Zs 1 10 60 .nil))) (.br (Zl 55 1 5<|
 Zk 56 .sub 55 1<|
 .br (Zl 54 1 3<|
 Zi 57 1 54 56<|
 .br (Zl 58 1 57<|
 Zo (.conv 59 .u64 (.t 58))<|
 Zb 60 .rem 53 59<|
 Zo (.alloc 9 1 112 (.int .u64 0))<|
 Zs 1 9 52<|
 Zs 1 10 60 .nil) (Zo (.alloc 9 1 112 (.int .u64 0))<|
 .br (Zl 58 1 57<|
 Zo (.conv 59 .u64 (.t 58))<|
 Zb 60 .rem 53 59<|
 Zs 1 9 52<|
 Zs 1 10 60 .nil) (Zs 1 9 52<|
 Zl 58 1 57<|
 Zo (.conv 59 .u64 (.t 58))<|
 Zb 60 .rem 53 59<|
 Zs 1 10 60 .nil))) (Zo (.alloc 9 1 112 (.int .u64 0))<|
 .br (Zl 54 1 3<|
 Zi 57 1 54 56<|
 .br (Zl 58 1 57<|
 Zo (.conv 59 .u64 (.t 58))<|
 Zb 60 .rem 53 59<|
 Zs 1 9 52<|
 Zs 1 10 60 .nil) (Zs 1 9 52<|
 Zl 58 1 57<|
 Zo (.conv 59 .u64 (.t 58))<|
 Zb 60 .rem 53 59<|
 Zs 1 10 60 .nil)) (Zs 1 9 52<|
 Zl 54 1 3<|
 Zi 57 1 54 56<|
 Zl 58 1 57<|
 Zo (.conv 59 .u64 (.t 58))<|
 Zb 60 .rem 53 59<|
 Zs 1 10 60 .nil))) (Zo (.alloc 9 1 112 (.int .u64 0))<|
 .br (Zl 54 1 3<|
 .br (Zl 55 1 5<|
 Zk 56 .sub 55 1<|
 Zi 57 1 54 56<|
 .br (Zl 58 1 57<|
 Zo (.conv 59 .u64 (.t 58))<|
 Zb 60 .rem 53 59<|
 Zs 1 9 52<|
 Zs 1 10 60 .nil) (Zs 1 9 52<|
 Zl 58 1 57<|
 Zo (.conv 59 .u64 (.t 58))<|
 Zb 60 .rem 53 59<|
 Zs 1 10 60 .nil)) (Zs 1 9 52<|
 Zl 55 1 5<|
 Zk 56 .sub 55 1<|
 Zi 57 1 54 56<|
 Zl 58 1 57<|
 Zo (.conv 59 .u64 (.t 58))<|
 Zb 60 .rem 53 59<|
 Zs 1 10 60 .nil)) (.br (Zl 55 1 5<|
 Zk 56 .sub 55 1<|
 .br (Zl 54 1 3<|
 Zi 57 1 54 56<|
 .br (Zl 58 1 57<|
 Zo (.conv 59 .u64 (.t 58))<|
 Zb 60 .rem 53 59<|
 Zs 1 9 52<|
 Zs 1 10 60 .nil) (Zs 1 9 52<|
 Zl 58 1 57<|
 Zo (.conv 59 .u64 (.t 58))<|
 Zb 60 .rem 53 59<|
 Zs 1 10 60 .nil)) (Zs 1 9 52<|
 Zl 54 1 3<|
 Zi 57 1 54 56<|
 Zl 58 1 57<|
 Zo (.conv 59 .u64 (.t 58))<|
 Zb 60 .rem 53 59<|
 Zs 1 10 60 .nil)) (Zs 1 9 52<|
 .br (Zl 54 1 3<|
 Zl 55 1 5<|
 Zk 56 .sub 55 1<|
 Zi 57 1 54 56<|
 Zl 58 1 57<|
 Zo (.conv 59 .u64 (.t 58))<|
 Zb 60 .rem 53 59<|
 Zs 1 10 60 .nil) (Zl 55 1 5<|
 Zk 56 .sub 55 1<|
 Zl 54 1 3<|
 Zi 57 1 54 56<|
 Zl 58 1 57<|
 Zo (.conv 59 .u64 (.t 58))<|
 Zb 60 .rem 53 59<|
 Zs 1 10 60 .nil)))))))))<|Zr (Zo (.fn 61 230 [] [.t 9,.t 3,.t 5,.t 10,.t 2,.t 7])<|
 Zm 11 61 .nil)<| .seq (.block 2<| .loop<| .seq (Zr (Zl 62 1 10<|
 Zo (.bin 63 .lss false (.t 62) (.c (.int .u64 65536)))<|
 Zm 64 63<|
 Zg 64 true (.mv 65 (.t 11))<|
 Zg 64 true (.call (some 66) false (.t 65) [])<|
 Zo (.pick 67 (.t 64) (.t 66) (.c (.bool false))) .nil)<| .cond (.t 67) .skip (.exit 2))<| .block 3<|Zr (Zl 68 1 9<|
 Zo (.bin 69 .sub false (.t 68) (.c (.int .u64 1)))<|
 Zs 1 9 69 .nil)<| .rg (Zl 70 1 10<|
 Zl 71 1 3<|
 Zl 72 1 5<|
 Zk 73 .sub 72 1<|
 Zi 74 1 71 73<|
 Zl 75 1 74<|
 Zo (.conv 76 .u64 (.t 75))<|
 Zb 77 .add 70 76<|
 Zs 1 10 77 .nil))<| .seq (Zr (Zl 78 1 2<|
 Zl 79 1 7<|
 Zl 80 1 7<|
 Zl 81 1 5<|
 Zb 82 .add 80 81<|
 Zk 83 .add 82 1<|
 Zo (.sl 84 1 (.t 78) (some (.t 79)) (some (.t 83)) none)<|
 Zl 85 1 3<|
 Zl 86 1 9<|
 Zo (.conv 87 .u32 (.t 86))<|
 Zq 88 false 231 [.t 84,.t 85,.t 87] .nil)<| .cond (.t 88) (Zr (Zl 89 1 9<|
 Zo (.bin 90 .sub false (.t 89) (.c (.int .u64 1)))<|
 Zs 1 9 90 .nil)<| .rg (Zl 91 1 2<|
 Zl 92 1 7<|
 Zl 93 1 7<|
 Zl 94 1 5<|
 Zb 95 .add 93 94<|
 Zk 96 .add 95 1<|
 Zo (.sl 97 1 (.t 91) (some (.t 92)) (some (.t 96)) none)<|
 Zl 98 1 3<|
 Zq 99 false 232 [.t 97,.t 98] .nil)) .skip)<| .rg (Zm 100 6<|
 Zl 101 1 7<|
 Zl 102 1 9<|
 Zo (.conv 103 .u16 (.t 102))<|
 Zi 104 1 100 101<|
 Zs 1 104 103 .nil))<| .seq (Zr (Zl 105 1 7 .nil)<| .rg (Zo (.alloc 7 1 3 (Zz 0))<|
 Zs 1 7 105 .nil))<| .rg (Zl 26 1 7<|
 Zk 27 .sub 26 1<|
 Zs 1 7 27 .nil))<|Zr (Zm 106 6<|
 Zq 107 false 212 [.t 106]<|
 Zm 4 107 .nil) .ret⟩
theorem Qabq:Qe Tryz.prog Tryz.f222=some Q7f:=by kernel_rfl
theorem Qa8{l:List Nat}(hv:Qj l)(hl:l.length<2^42):Qd Tryz.prog 212 [PV.nat l] (· =PV.num (val l)):=by
 refine Qi Qt Tryz.func212 rfl Qyd (by simp[Qvt]) fun C hP=> ?_;simp only[Qvt,Zo,Zg,Zm,Zc,Zf,Zl,Zh,Zs,Zi,Zb,Zk,Zn,Zu,Zq,Zr,Zz]
 simp+decide (disch:=try exact D0) only[go_sem]
 refine Qer (fun m fr hp=>m<=l.length/\cut l m=dig (val l)/\fr 0=PV.nat l/\fr 3= .int .i64 m/\hp=hp0) l.length ?_ ?_
 ·exact⟨Nat.le_refl _,Qli hv,rfl,rfl,rfl⟩
 rintro n fr _ ⟨hn,hc,h0,h3,rfl⟩
 simp+decide (disch:=try exact D2 h0 h3) only[go_sem,h0,h3]
 refine Qbq (fun hg=> ?_) (fun hg=> ?_)
 ·simp+decide (disch:=first|omega|rfl|(simp+decide only[go_sem,h0,h3,Qi3,Qih]<;>rfl)|fail) only[go_sem,h0,h3,Qi3,Qih]
  obtain _|n:=n
  ·omega
  have e:((n+1:Nat):Int)-1=n:=by omega
  simp only[cut]at hc
  refine Qb (fun hz=> ?_) (fun hz=> ?_)
  ·rw[if_pos (by grind)]at hc
   simp+decide (disch:=try exact D3 h0 h3 e) only[go_sem,h0,h3,e]
   refine Qb6 (m:=n) (by omega) ⟨by omega,hc,?_⟩
   simp+decide (disch:=try exact D3 h0 true_and and_true) only[go_sem,h0,true_and,and_true]
  ·simp+decide (disch:=first|omega|rfl|(simp+decide only[go_sem,h0,h3,Qii]<;>rfl)|fail) only[go_sem,h0,h3,Qii]
   rw[if_neg (by grind)]at hc
   exact Qc (by simp[hc]) rfl
 ·obtain rfl:n=0:=by omega
  simp+decide (disch:=first|omega|rfl|(simp+decide only[go_sem,h0,h3,Qii]<;>rfl)|fail) only[go_sem,h0,h3,Qii]
  exact Qc (by simp[<-hc,cut]) rfl
theorem Qim{l:List Nat}(hv:Qj l)(hl:l.length<2^42):Qd Tryz.prog 190 [PV.nat l] (· =PV.num (val l)):=by
 have hd:=Qam hv
 unfold nl at hd
 refine Qi Qt Tryz.func190 rfl Qaam (by simp[Q6b]) fun C hP=> ?_;simp only[Q6b,Zo,Zg,Zm,Zc,Zf,Zl,Zh,Zs,Zi,Zb,Zk,Zn,Zu,Zq,Zr,Zz]
 simp+decide (disch:=try exact D0) only[go_sem]
 refine Qa hP (Qa8 hv hl) rfl rfl rfl ?_
 simp+decide (disch:=try exact D0) only[go_sem]
 refine Qb (fun hz=> ?_) (fun hz=> ?_)
 ·simp+decide (disch:=try exact D0) only[go_sem]
  have:dig (val l)=[]:=List.length_eq_zero_iff.1 (by omega)
  exact Qhu (by rw[PV.num,this];exact Qad5) rfl
 ·simp+decide (disch:=try exact D0) only[go_sem]
  rw[Q9y rfl (by simp)]
  simp+decide (disch:=try exact D0) only[go_sem]
  exact Qog rfl (by simp[List.take_of_length_le])
theorem Qor{n:Nat}(hn:n<18446744073709551616):Qd Tryz.prog 189 [.int .u64 n] (· =PV.num n):=by
 have hlen:=Qd9 hn
 unfold nl at hlen
 refine Qi Qt Tryz.func189 rfl Qaan (by simp[Q6c]) fun C hP=> ?_;simp only[Q6c,Zo,Zg,Zm,Zc,Zf,Zl,Zh,Zs,Zi,Zb,Zk,Zn,Zu,Zq,Zr,Zz]
 simp+decide (disch:=try exact D0) only[go_sem]
 refine Qij (fun m fr hp=>∃done:List Nat,dig n=done++dig m/\m<=n/\fr 0= .int .u64 m/\fr 3= .ms 12 done.length/\hp 12=some ⟨1,155,done.map fun(x:Nat)=> .int .u16 x,false⟩) n (Q1j 3 12 1 155 (by omega) ?_) ?_ ?_
 ·simp+decide (disch:=try exact D0) only[go_sem]
 ·refine⟨[],?_⟩
  simp+decide (disch:=first|omega|rfl|(simp+decide only[go_sem,List.nil_append,List.map_nil,List.length_nil,true_and,and_true,Nat.le_refl]<;>rfl)|fail) only[go_sem,List.nil_append,List.map_nil,List.length_nil,true_and,and_true,Nat.le_refl]
 rintro m fr hp ⟨done,hd,hm,h0,h3,hh⟩
 rw[hd,List.length_append]at hlen
 simp+decide (disch:=try exact D1 h0) only[go_sem,h0]
 refine Qb (fun hz=> ?_) (fun hz=> ?_)
 ·have hne:m≠0:=by omega
  have hd2:dig n=(done++[m%65536])++dig (m/65536):=by rw[hd,Qgx hne];simp
  simp+decide (disch:=try exact D2 h0 h3) only[go_sem,h0,h3]
  rw[Qpu (xs:=done.map fun(x:Nat)=> .int .u16 x) (T1 hh) rfl (by omega) (by simp) (by omega) (by omega)]
  simp+decide (disch:=first|omega|rfl|(simp+decide only[go_sem,h0,h3,Qjq,Qnq]<;>rfl)|fail) only[go_sem,h0,h3,Qjq,Qnq]
  refine Qb6 (m:=m/65536) (by omega) ⟨done++[m%65536],hd2,by omega,?_⟩
  simp+decide (disch:=try exact D3 h0 h3 hh) only[go_sem,h0,h3,hh]
  simp
 ·obtain rfl:m=0:=by omega
  simp+decide (disch:=try exact D1 h3) only[go_sem,h3]
  exact Qog hh (by simp[PV.num,PV.nat,hd,Qa2,List.take_of_length_le])
theorem Qmq{a b:List Nat}(ha:Qj a)(hb:Qj b)(hla:a.length<2^40)(hlb:b.length<2^40):Qd Tryz.prog 218 [PV.nat a,PV.nat b] (· = .int .i64 (Qdz (val a) (val b))):=by
 have hda:=Qam ha
 have hdb:=Qam hb
 have hnl1:= @Qu4 (val a) (val b)
 have hnl2:= @Qu4 (val b) (val a)
 have hla':=Ql (val a)
 have hlb':=Ql (val b)
 have hva:=Q5 (val a)
 have hvb:=Q5 (val b)
 unfold nl at hda hdb hnl1 hnl2
 refine Qi Qt Tryz.func218 rfl Qaaq (by simp[Q6f]) fun C hP=> ?_;simp only[Q6f,Zo,Zg,Zm,Zc,Zf,Zl,Zh,Zs,Zi,Zb,Zk,Zn,Zu,Zq,Zr,Zz]
 simp+decide (disch:=try exact D0) only[go_sem]
 refine Qa hP (Qa8 ha (by omega)) rfl rfl rfl ?_
 simp+decide (disch:=try exact D0) only[go_sem]
 refine Qa hP (Qa8 hb (by omega)) rfl rfl rfl ?_
 simp+decide (disch:=try exact D0) only[go_sem]
 generalize val a=x at *
 generalize val b=y at *
 refine Qb (fun hz=> ?_) (fun hz=> ?_)
 ·simp+decide (disch:=try exact D0) only[go_sem]
  refine Qb (fun hz=> ?_) (fun hz=> ?_)
  ·simp+decide (disch:=try exact D0) only[go_sem]
   exact Qc (by rw[Qr5 (hnl1 (by omega))]) rfl
  ·simp+decide (disch:=try exact D0) only[go_sem]
   exact Qc (by rw[Qr6 (hnl2 (by omega))]) rfl
 simp+decide (disch:=try exact D0) only[go_sem]
 refine Qer (fun m fr hp=>m<=(dig x).length/\val ((dig x).drop m)=val ((dig y).drop m)/\fr 0=PV.num x/\fr 1=PV.num y/\fr 5= .int .i64 ((m:Int)-1)/\hp=hp0) (dig x).length ?_ ?_
 ·refine⟨Nat.le_refl _,?_,?_⟩
  ·rw[List.drop_of_length_le (Nat.le_refl _),List.drop_of_length_le (by omega)]
  ·simp+decide (disch:=try exact D2 true_and and_true) only[go_sem,true_and,and_true]
 rintro m fr _ ⟨hm,hd,h0,h1,h5,rfl⟩
 simp+decide (disch:=try exact D3 h0 h1 h5) only[go_sem,h0,h1,h5]
 refine Qb (fun hg=> ?_) (fun hg=> ?_)
 ·obtain _|m:=m
  ·omega
  have e:((m+1:Nat):Int)-1=m:=by omega
  have hm1:m<(dig x).length:=by omega
  have hm2:m<(dig y).length:=by omega
  simp+decide (disch:=try exact D4 h0 h1 h5 e) only[go_sem,h0,h1,h5,e]
  refine Qb (fun hq=> ?_) (fun hq=> ?_)
  ·simp+decide (disch:=try exact D0) only[go_sem]
   exact Qc (by rw[Qr5];have:=Qsy hla' hm1 hm2 (by omega) hd;omega) rfl
  simp+decide (disch:=try exact D4 h0 h1 h5 e) only[go_sem,h0,h1,h5,e]
  refine Qb (fun hq2=> ?_) (fun hq2=> ?_)
  ·simp+decide (disch:=try exact D0) only[go_sem]
   exact Qc (by rw[Qr6];have:=Qsy hlb' hm2 hm1 (by omega) hd.symm;omega) rfl
  simp+decide (disch:=try exact D4 h0 h1 h5 e) only[go_sem,h0,h1,h5,e]
  refine Qb6 (m:=m) (by omega) ⟨by omega,?_,?_⟩
  ·rw[Qcv hm1,Qcv hm2,hd];omega
  ·simp+decide (disch:=try exact D4 h0 h1 true_and and_true) only[go_sem,h0,h1,true_and,and_true]
 ·obtain rfl:m=0:=by omega
  simp+decide (disch:=try exact D0) only[go_sem]
  refine Qc ?_ rfl
  rw[Qx1]
  simp at hd;omega
theorem Q7g{a b:List Nat}(ha:Qj a)(hb:Qj b)(hla:a.length<2^40)(hlb:b.length<2^40):Qd Tryz.prog 227 [PV.nat a,PV.nat b] (· =PV.num (val a+val b)):=by
 have hda:=Qam ha
 have hdb:=Qam hb
 unfold nl at hda hdb
 refine Qi Qt Tryz.func227 rfl Qaar (by simp[Q6g]) fun C hP=> ?_;simp only[Q6g,Zo,Zg,Zm,Zc,Zf,Zl,Zh,Zs,Zi,Zb,Zk,Zn,Zu,Zq,Zr,Zz]
 simp+decide (disch:=try exact D0) only[go_sem]
 refine Qa hP (Qa8 ha (by omega)) rfl rfl rfl ?_
 simp+decide (disch:=try exact D0) only[go_sem]
 refine Qa hP (Qa8 hb (by omega)) rfl rfl rfl ?_
 simp+decide (disch:=try exact D0) only[go_sem]
 generalize val a=x0 at *
 generalize val b=y0 at *
 refine Qgy (fun fr hp=>∃x y,x+y=x0+y0/\(dig x).length<2^40/\(dig y).length<=(dig x).length/\fr 0=PV.num x/\fr 1=PV.num y/\hp=hp0) ?_ ?_
 ·refine Qb (fun hz=> ?_) (fun hz=> ?_)
  ·simp+decide (disch:=try exact D0) only[go_sem]
   refine⟨y0,x0,by omega,by omega,by omega,?_⟩
   simp+decide (disch:=try exact D2 true_and and_true) only[go_sem,true_and,and_true]
  ·simp+decide (disch:=try exact D0) only[go_sem]
   refine⟨x0,y0,by omega,by omega,by omega,?_⟩
   simp+decide (disch:=try exact D2 true_and and_true) only[go_sem,true_and,and_true]
 rintro fr _ ⟨x,y,hsum,hx,hy,h0,h1,rfl⟩
 rw[<-hsum]
 clear hsum hda hdb
 have hxl:=Ql x
 have hyl:=Ql y
 simp+decide (disch:=try exact D2 h0 h1) only[go_sem,h0,h1]
 refine Qer (fun m fr hp=>∃i c done,m=(dig x).length-i/\i<=(dig x).length/\c<=1/\done.length=i/\done++Qe0 ((dig x).drop i) ((dig y).drop i) c=dig (x+y)/\
  fr 1=PV.num y/\fr 5= .ms 25 (dig x).length/\fr 6= .int .u32 c/\fr 26=PV.num x/\fr 27= .int .i64 (dig x).length/\fr 28= .int .i64 i/\hp=Qg hp0 25 ⟨1,155,Qa3 (done++List.replicate ((dig x).length-i) 0),false⟩) (dig x).length ?_ ?_
 ·refine⟨0,0,[],rfl,by omega,by omega,rfl,by simpa using Q5h hy,?_⟩
  simp+decide (disch:=first|omega|rfl|(simp+decide only[go_sem,h0,h1,true_and,and_true,Nat.sub_zero,List.nil_append]<;>rfl)|fail) only[go_sem,h0,h1,true_and,and_true,Nat.sub_zero,List.nil_append]
  simp
 rintro _ fr _ ⟨i,c,done,rfl,hi,hc,hdl,hd,h1,h5,h6,h26,h27,h28,rfl⟩
 simp+decide (disch:=try exact D3 h26 h27 h28) only[go_sem,h26,h27,h28]
 refine Qb (fun hg=> ?_) (fun hg=> ?_)
 ·have hi':i<(dig x).length:=by omega
  have hxi:=Qal hxl hi'
  rw[Q1x hi']at hd
  have hlen:=Qpw (n:=(dig x).length-i) hdl (by omega:_=(dig x).length)
  simp+decide (disch:=try exact D6 h1 h5 h6 h26 h27 h28) only[go_sem,h1,h5,h6,h26,h27,h28]
  refine Qb (fun hq=> ?_) (fun hq=> ?_)
  ·have hq':i<(dig y).length:=by omega
   have hyi:=Qal hyl hq'
   rw[Qbi hq']at hd
   simp+decide (disch:=try exact D6 h1 h5 h6 h26 h27 h28) only[go_sem,h1,h5,h6,h26,h27,h28]
   refine Qb6 (m:=(dig x).length-(i+1)) (by omega) ⟨i+1,_,_,rfl,by omega,?_,?_,(List.append_cons ..).symm.trans hd,?_⟩
   ·omega
   ·simp[hdl]
   ·simp+decide (disch:=first|omega|rfl|(simp+decide only[go_sem,h1,h5,h6,h26,h27,h28,true_and,and_true,Qes,Nat.sub_sub]<;>rfl)|fail) only[go_sem,h1,h5,h6,h26,h27,h28,true_and,and_true,Qes,Nat.sub_sub]
  ·rw[Qbj (by omega)]at hd
   simp+decide (disch:=try exact D6 h1 h5 h6 h26 h27 h28) only[go_sem,h1,h5,h6,h26,h27,h28]
   refine Qb6 (m:=(dig x).length-(i+1)) (by omega) ⟨i+1,_,_,rfl,by omega,?_,?_,(List.append_cons ..).symm.trans hd,?_⟩
   ·omega
   ·simp[hdl]
   ·simp+decide (disch:=first|omega|rfl|(simp+decide only[go_sem,h1,h5,h6,h26,h27,h28,true_and,and_true,Qes,Nat.sub_sub,Nat.add_zero]<;>rfl)|fail) only[go_sem,h1,h5,h6,h26,h27,h28,true_and,and_true,Qes,Nat.sub_sub,Nat.add_zero]
 ·obtain rfl:i=(dig x).length:=by omega
  rw[List.drop_of_length_le (Nat.le_refl _),List.drop_of_length_le hy]at hd
  simp+decide (disch:=first|omega|rfl|(simp+decide only[go_sem,h5,h6,Nat.sub_self,List.replicate_zero,List.append_nil]<;>rfl)|fail) only[go_sem,h5,h6,Nat.sub_self,List.replicate_zero,List.append_nil]
  refine Qb (fun hq=> ?_) (fun hq=> ?_)
  ·simp+decide (disch:=try exact D2 h5 h6) only[go_sem,h5,h6]
   rw[Qpu (xs:=Qa3 done) T0 rfl (by omega) (by simp[hdl]) (by omega) (by omega)]
   simp+decide (disch:=try exact D1 h5) only[go_sem,h5]
   refine Qog rfl ?_
   rw[Qe0,if_neg (by omega)]at hd
   rw[PV.num,<-hd]
   simp[Qa3,hdl,List.take_of_length_le]
   omega
  ·simp+decide (disch:=try exact D1 h5) only[go_sem,h5]
   refine Qog rfl ?_
   rw[Qe0,if_pos (by omega)]at hd
   rw[PV.num,<-hd]
   simp[Qa3,hdl,List.take_of_length_le]
theorem Qvu{a b:List Nat}(ha:Qj a)(hb:Qj b)(hla:a.length<2^40)(hlb:b.length<2^40)(hle:val b<=val a):Qd Tryz.prog 228 [PV.nat a,PV.nat b] (· = .tup [PV.num (val a-val b),.int .i64 0]):=by
 have hda:=Qam ha
 have hdb:=Qam hb
 have hnl:=Qb0 hle
 unfold nl at hda hdb hnl
 refine Qi Qt Tryz.func228 rfl Qaas (by simp[Q6h]) fun C hP=> ?_;simp only[Q6h,Zo,Zg,Zm,Zc,Zf,Zl,Zh,Zs,Zi,Zb,Zk,Zn,Zu,Zq,Zr,Zz]
 simp+decide (disch:=try exact D0) only[go_sem]
 refine Qa hP (Qmq ha hb hla hlb) rfl rfl rfl ?_
 have hcmp:¬Qdz (val a) (val b)<0:=by unfold Qdz;split<;>(try split)<;>omega
 simp+decide (disch:=try exact D0) only[go_sem]
 refine Qb (fun hz=>absurd hz hcmp) (fun hz=> ?_)
 simp+decide (disch:=try exact D0) only[go_sem]
 refine Qa hP (Qa8 ha (by omega)) rfl rfl rfl ?_
 simp+decide (disch:=try exact D0) only[go_sem]
 refine Qa hP (Qa8 hb (by omega)) rfl rfl rfl ?_
 simp+decide (disch:=try exact D0) only[go_sem]
 generalize val a=x at *
 generalize val b=y at *
 have hxl:=Ql x
 have hyl:=Ql y
 have Qc5:=Qu6 (dig x) (dig y) 0 (by omega) hxl hyl hnl (by rw[Q5,Q5];exact hle)
 rw[Q5,Q5,Nat.add_zero]at Qc5
 have hvl:=Qqr (dig x) (dig y) 0
 have hln:=Qo6 (dig x) (dig y) 0
 refine Qer (fun m fr hp=>∃i c done,m=(dig x).length-i/\i<=(dig x).length/\c<=1/\done.length=i/\done++Qgu ((dig x).drop i) ((dig y).drop i) c=Qgu (dig x) (dig y) 0/\
  fr 1=PV.num y/\fr 6= .ms 21 (dig x).length/\fr 7= .int .i32 (c:Nat)/\fr 22=PV.num x/\fr 23= .int .i64 (dig x).length/\fr 24= .int .i64 i/\hp=Qg hp0 21 ⟨1,155,Qa3 (done++List.replicate ((dig x).length-i) 0),false⟩) (dig x).length ?_ ?_
 ·refine⟨0,0,[],rfl,by omega,by omega,rfl,rfl,?_⟩
  simp+decide (disch:=first|omega|rfl|(simp+decide only[go_sem,true_and,and_true,Nat.sub_zero,List.nil_append]<;>rfl)|fail) only[go_sem,true_and,and_true,Nat.sub_zero,List.nil_append]
  simp
 rintro _ fr _ ⟨i,c,done,rfl,hi,hc,hdl,hd,h1,h6,h7,h22,h23,h24,rfl⟩
 simp+decide (disch:=try exact D3 h22 h23 h24) only[go_sem,h22,h23,h24]
 refine Qb (fun hg=> ?_) (fun hg=> ?_)
 ·have hi':i<(dig x).length:=by omega
  have hxi:=Qal hxl hi'
  rw[Q1y hi']at hd
  have hlen:=Qpw (n:=(dig x).length-i) hdl (by omega:_=(dig x).length)
  simp+decide (disch:=try exact D6 h1 h6 h7 h22 h23 h24) only[go_sem,h1,h6,h7,h22,h23,h24]
  refine Qgy (fun fr hp=>fr 1=PV.num y/\fr 6= .ms 21 (dig x).length/\fr 8= .int .i64 i/\fr 10= .int .i32 ((dig x)[i]-(c:Int)-((dig y).getD i 0:Nat))/\(dig y).getD i 0<65536/\fr 22=PV.num x/\fr 23= .int .i64 (dig x).length/\fr 24= .int .i64 i/\hp=Qg hp0 21 ⟨1,155,Qa3 (done++List.replicate ((dig x).length-i) 0),false⟩) ?_ ?_
  ·refine Qb (fun hq=> ?_) (fun hq=> ?_)
   ·have hq':i<(dig y).length:=by omega
    have hyi:=Qal hyl hq'
    simp+decide (disch:=first|omega|rfl|(simp+decide only[go_sem,h1,h6,h7,h22,h23,h24,Qbi hq',true_and,and_true]<;>rfl)|fail) only[go_sem,h1,h6,h7,h22,h23,h24,Qbi hq',true_and,and_true]
    exact hyi
   ·simp+decide (disch:=first|omega|rfl|(simp+decide only[go_sem,h1,h6,h7,h22,h23,h24,true_and,and_true,Qbj (by omega:¬i<(dig y).length)]<;>rfl)|fail) only[go_sem,h1,h6,h7,h22,h23,h24,true_and,and_true,Qbj (by omega:¬i<(dig y).length)]
    simp
  clear h1 h6 h22 h23 h24
  rintro fr _ ⟨h1,h6,h8,h10,hyi,h22,h23,h24,rfl⟩
  generalize hw:(dig y).getD i 0=yi at *
  simp+decide (disch:=try exact D1 h10) only[go_sem,h10]
  refine Qgy (fun fr hp=>fr 1=PV.num y/\fr 6= .ms 21 (dig x).length/\fr 8= .int .i64 i/\fr 10= .int .i32 (((dig x)[i]+65536-c-yi)%65536:Nat)/\fr 7= .int .i32 ((if(dig x)[i]<c+yi then 1 else 0):Nat)/\fr 22=PV.num x/\fr 23= .int .i64 (dig x).length/\fr 24= .int .i64 i/\hp=Qg hp0 21 ⟨1,155,Qa3 (done++List.replicate ((dig x).length-i) 0),false⟩) ?_ ?_
  ·refine Qb (fun hq=> ?_) (fun hq=> ?_)
   ·rw[if_pos (by omega)]
    simp+decide (disch:=try exact D9 h1 h6 h8 h10 h22 h23 h24 true_and and_true) only[go_sem,h1,h6,h8,h10,h22,h23,h24,true_and,and_true]
    simp;omega
   ·rw[if_neg (by omega)]
    simp+decide (disch:=try exact D9 h1 h6 h8 h10 h22 h23 h24 true_and and_true) only[go_sem,h1,h6,h8,h10,h22,h23,h24,true_and,and_true]
    simp;omega
  clear h1 h6 h8 h10 h22 h23 h24
  rintro fr _ ⟨h1,h6,h8,h10,h7,h22,h23,h24,rfl⟩
  simp+decide (disch:=try exact D8 h1 h6 h7 h8 h10 h22 h23 h24) only[go_sem,h1,h6,h7,h8,h10,h22,h23,h24]
  refine Qb6 (m:=(dig x).length-(i+1)) (by omega) ⟨i+1,_,_,rfl,by omega,?_,?_,(List.append_cons ..).symm.trans hd,?_⟩
  ·split<;>omega
  ·simp[hdl]
  ·simp+decide (disch:=first|omega|rfl|(simp+decide only[go_sem,h1,h6,h7,h8,h10,h22,h23,h24,true_and,and_true,Qes,Nat.sub_sub,Nat.mod_mod]<;>rfl)|fail) only[go_sem,h1,h6,h7,h8,h10,h22,h23,h24,true_and,and_true,Qes,Nat.sub_sub,Nat.mod_mod]
 ·obtain rfl:i=(dig x).length:=by omega
  rw[List.drop_of_length_le (Nat.le_refl _),Qgu,List.append_nil]at hd
  simp+decide (disch:=first|omega|rfl|(simp+decide only[go_sem,h6,Nat.sub_self,List.replicate_zero,List.append_nil]<;>rfl)|fail) only[go_sem,h6,Nat.sub_self,List.replicate_zero,List.append_nil]
  rw[hd]
  refine Qfz hP (Qa8 hvl (by omega)) (Qjs rfl hln.symm) rfl fun hp'=> ?_
  simp+decide (disch:=try exact D0) only[go_sem]
  exact Qb2 rfl rfl rfl (Qgv (by rw[show val (Qgu (dig x) (dig y) 0)=x-y by omega])) (Qy _)
theorem Qmr{a b:List Nat}(ha:Qj a)(hb:Qj b)(hla:a.length<2^40)(hlb:b.length<2^40):Qd Tryz.prog 174 [PV.nat a,PV.nat b] (· =PV.num (val a*val b)):=by
 have hda:=Qam ha
 have hdb:=Qam hb
 unfold nl at hda hdb
 refine Qi Qt Tryz.func174 rfl Qaat (by simp[Q6i]) fun C hP=> ?_;simp only[Q6i,Zo,Zg,Zm,Zc,Zf,Zl,Zh,Zs,Zi,Zb,Zk,Zn,Zu,Zq,Zr,Zz]
 simp+decide (disch:=try exact D0) only[go_sem]
 refine Qa hP (Qa8 ha (by omega)) rfl rfl rfl ?_
 simp+decide (disch:=try exact D0) only[go_sem]
 refine Qa hP (Qa8 hb (by omega)) rfl rfl rfl ?_
 simp+decide (disch:=try exact D0) only[go_sem]
 generalize val a=x at *
 generalize val b=y at *
 have hxl:=Ql x
 have hyl:=Ql y
 refine Qa9 (fun hz=> ?_) (fun hz=> ?_)
 ·simp+decide (disch:=try exact D0) only[go_sem]
  have:=Qc3 (by omega:(dig x).length=0)
  rw[Qbm]at this
  exact Qhu (Qlk (by simp[this])) rfl
 simp+decide (disch:=try exact D0) only[go_sem]
 refine Qb (fun hz2=> ?_) (fun hz2=> ?_)
 ·simp+decide (disch:=try exact D0) only[go_sem]
  have:=Qc3 (by omega:(dig y).length=0)
  rw[Qbm]at this
  exact Qhu (Qlk (by simp[this])) rfl
 simp+decide (disch:=try exact D0) only[go_sem]
 refine Qer (fun m fr hp=>∃i lo,m=(dig x).length-i/\i<=(dig x).length/\Qj lo/\lo.length=i+(dig y).length/\val lo=val ((dig x).take i)*val (dig y)/\
  fr 1=PV.num y/\fr 5= .ms 28 ((dig x).length+(dig y).length)/\fr 29=PV.num x/\fr 30= .int .i64 (dig x).length/\fr 31= .int .i64 i/\hp=Qg hp0 28 ⟨1,155,Qa3 (lo++List.replicate ((dig x).length-i) 0),false⟩) (dig x).length ?_ ?_
 ·refine⟨0,List.replicate (dig y).length 0,rfl,by omega,?_,by simp,by simp[Qsx,val],?_⟩
  ·intro z hz;rw[List.eq_of_mem_replicate hz];omega
  ·simp+decide (disch:=first|omega|rfl|(simp+decide only[go_sem,true_and,and_true,Nat.sub_zero]<;>rfl)|fail) only[go_sem,true_and,and_true,Nat.sub_zero]
   simp[Nat.add_comm]
 rintro _ fr _ ⟨i,lo,rfl,hi,hlo,hlol,hv,h1,h5,h29,h30,h31,rfl⟩
 simp+decide (disch:=try exact D3 h29 h30 h31) only[go_sem,h29,h30,h31]
 refine Qb (fun hg=> ?_) (fun hg=> ?_)
 ·have hi':i<(dig x).length:=by omega
  have hxi:=Qal hxl hi'
  have hstep:=Q5i hi' hlol hv
  have hlims:Qj (lo.take i++Qfq (lo.drop i) (dig y) (dig x)[i] 0):=Qbw.2 ⟨Qf9 hlo i,Qqt _ _ _ _ (by omega) hxi (Qg8 hlo i) hyl⟩
  have hlenr:(lo.take i++Qfq (lo.drop i) (dig y) (dig x)[i] 0).length=i+(dig y).length+1:=by
   rw[List.length_append,Qo7 _ _ _ _ (by simp[hlol])];simp;omega
  generalize hxx:(dig x)[i]=xi at *
  simp+decide (disch:=try exact D6 h1 h5 h29 h30 h31 hxx) only[go_sem,h1,h5,h29,h30,h31,hxx]
  refine Qer (fun m fr hp=>∃k c p rs,m=(dig y).length-k/\k<=(dig y).length/\c<65536/\Qj rs/\p.length=i+k/\rs.length=(dig y).length-k/\p++Qfq rs ((dig y).drop k) xi c=lo.take i++Qfq (lo.drop i) (dig y) xi 0/\
   fr 1=PV.num y/\fr 5= .ms 28 ((dig x).length+(dig y).length)/\fr 6= .int .i64 i/\fr 7= .int .u16 xi/\fr 8= .int .u32 c/\fr 29=PV.num x/\fr 30= .int .i64 (dig x).length/\fr 31= .int .i64 i/\fr 36=PV.num y/\fr 37= .int .i64 (dig y).length/\fr 38= .int .i64 k/\
   hp=Qg hp0 28 ⟨1,155,Qa3 (p++(rs++List.replicate ((dig x).length-i) 0)),false⟩) (dig y).length ?_ ?_
  ·refine⟨0,0,lo.take i,lo.drop i,rfl,by omega,by omega,Qg8 hlo i,by simp;omega,by simp;omega,rfl,?_⟩
   simp+decide (disch:=try exact D7 h1 h5 h29 h30 h31 true_and and_true) only[go_sem,h1,h5,h29,h30,h31,true_and,and_true]
   rw[<-List.append_assoc,List.take_append_drop]
   simp
  clear h1 h5 h29 h30 h31
  rintro _ fr _ ⟨k,c,p,rs,rfl,hk,hc,hrs,hpl,hrl,hinv,h1,h5,h6,h7,h8,h29,h30,h31,h36,h37,h38,rfl⟩
  simp+decide (disch:=try exact D3 h36 h37 h38) only[go_sem,h36,h37,h38]
  refine Qb (fun hq=> ?_) (fun hq=> ?_)
  ·have hk':k<(dig y).length:=by omega
   have hyk:=Qal hyl hk'
   rw[List.drop_eq_getElem_cons hk']at hinv
   generalize hyy:(dig y)[k]=yk at *
   obtain _|⟨r,rs⟩:=rs
   ·simp at hrl;omega
   rw[Qax]at hrs
   have hr0:=hrs.1
   have hxy:=Qe6 hxi hyk
   rw[Qfq]at hinv
   have hlt:i+k<(p++r::(rs++List.replicate ((dig x).length-i) 0)).length:=by simp;omega
   have hget:=Qoh hpl hlt
   simp+decide (disch:=first|omega|rfl|(simp+decide only[go_sem,h1,h5,h6,h7,h8,h36,h37,h38,hyy,List.cons_append,hget]<;>rfl)|fail) only[go_sem,h1,h5,h6,h7,h8,h36,h37,h38,hyy,List.cons_append,hget]
   refine Qb6 (m:=(dig y).length-(k+1)) (by omega) ⟨k+1,_,_,_,rfl,by omega,?_,hrs.2,?_,?_,(List.append_cons ..).symm.trans hinv,?_⟩
   ·omega
   ·simp[hpl];omega
   ·simp at hrl;omega
   ·simp+decide (disch:=first|omega|rfl|(simp+decide only[go_sem,h1,h5,h6,h7,h8,h29,h30,h31,h36,h37,h38,true_and,and_true,Qb7]<;>rfl)|fail) only[go_sem,h1,h5,h6,h7,h8,h29,h30,h31,h36,h37,h38,true_and,and_true,Qb7]
    simp
  ·obtain rfl:k=(dig y).length:=by omega
   obtain rfl:rs=[]:=List.length_eq_zero_iff.1 (by omega)
   rw[List.drop_of_length_le (Nat.le_refl _),Qfq]at hinv
   rotate_left
   ·intros;simp_all
   obtain⟨z,hz⟩:∃z,(dig x).length-i=z+1:=⟨(dig x).length-i-1,by omega⟩
   have hlt:i+(dig y).length<(p++0::(List.replicate z 0)).length:=by simp;omega
   simp+decide (disch:=first|omega|rfl|(simp+decide only[go_sem,h1,h5,h6,h8,h29,h30,h31,List.nil_append,hz,List.replicate_succ]<;>rfl)|fail) only[go_sem,h1,h5,h6,h8,h29,h30,h31,List.nil_append,hz,List.replicate_succ]
   refine Qb6 (m:=(dig x).length-(i+1)) (by omega) ⟨i+1,lo.take i++Qfq (lo.drop i) (dig y) xi 0,rfl,by omega,hlims,by omega,?_,?_⟩
   ·rw[hstep]
   ·simp+decide (disch:=first|omega|rfl|(simp+decide only[go_sem,h1,h5,h29,h30,h31,true_and,and_true,Qb7]<;>rfl)|fail) only[go_sem,h1,h5,h29,h30,h31,true_and,and_true,Qb7]
    rw[<-hinv,show(dig x).length-(i+1)=z by omega,Nat.mod_eq_of_lt hc]
    simp
 ·obtain rfl:i=(dig x).length:=by omega
  rw[List.take_length,Q5,Q5]at hv
  simp+decide (disch:=first|omega|rfl|(simp+decide only[go_sem,h5,Nat.sub_self,List.replicate_zero,List.append_nil]<;>rfl)|fail) only[go_sem,h5,Nat.sub_self,List.replicate_zero,List.append_nil]
  refine Qfz hP (Qa8 hlo (by omega)) (Qjs rfl hlol.symm) rfl fun hp'=> ?_
  simp+decide (disch:=try exact D0) only[go_sem]
  exact Qc (by rw[hv]) rfl
theorem Qvv{pre w post v:List Nat}{j m:Nat}(hw:Qj w)(hv:Qj v)(hj:pre.length=j)(hm:w.length=m)(hle:v.length<=w.length)(hlen:(pre++(w++post)).length<2^43):
  Qi4 Tryz.prog 232 [.mso B0 j m,PV.nat v] 155 (Qa3 (pre++(w++post))) (fun r xs'=>r= .tup []/\xs'=Qa3 (pre++(Qf0 w v 0++post))):=by
 simp only[List.length_append]at hlen
 refine Qj8 Qt Tryz.func232 rfl Qaay (by simp[Q6n]) fun C hP=> ?_;simp only[Q6n,Zo,Zg,Zm,Zc,Zf,Zl,Zh,Zs,Zi,Zb,Zk,Zn,Zu,Zq,Zr,Zz]
 simp+decide (disch:=try exact D0) only[go_sem]
 refine Qer (fun k fr hp=>∃i c done,k=w.length-i/\i<=w.length/\c<=1/\done.length=i/\done++Qf0 (w.drop i) (v.drop i) c=Qf0 w v 0/\
  fr 0= .mso 1000000 j m/\fr 1=PV.nat v/\fr 4= .int .u32 c/\fr 7= .int .i64 m/\fr 8= .int .i64 i/\hp=Qg hp0 1000000 ⟨1,155,Qa3 ((pre++done)++(w.drop i++post)),false⟩) w.length ?_ ?_
 ·refine⟨0,0,[],rfl,by omega,by omega,rfl,rfl,?_⟩
  simp+decide (disch:=first|omega|rfl|(simp+decide only[go_sem,true_and,and_true,List.append_nil,List.drop_zero]<;>rfl)|fail) only[go_sem,true_and,and_true,List.append_nil,List.drop_zero]
  simp
 rintro _ fr _ ⟨i,c,done,rfl,hi,hc,hdl,hd,h0,h1,h4,h7,h8,rfl⟩
 simp+decide (disch:=try exact D2 h7 h8) only[go_sem,h7,h8]
 refine Qb (fun hg=> ?_) (fun hg=> ?_)
 ·have hi':i<w.length:=by omega
  have hwi:=Qal hw hi'
  rw[Q15 hi']at hd
  have hpl:(pre++done).length=j+i:=by simp[hj,hdl]
  rw[List.drop_eq_getElem_cons hi']
  generalize hww:w[i]=wi at *
  have hlt:j+i<((pre++done)++wi::(w.drop (i+1)++post)).length:=by simp;omega
  have hget:=Qoh hpl hlt
  simp+decide (disch:=first|omega|rfl|(simp+decide only[go_sem,h0,h1,h4,h7,h8,List.cons_append,hget]<;>rfl)|fail) only[go_sem,h0,h1,h4,h7,h8,List.cons_append,hget]
  refine Qb (fun hq=> ?_) (fun hq=> ?_)
  ·have hq':i<v.length:=by omega
   have hvi:=Qal hv hq'
   rw[Qbi hq']at hd
   simp+decide (disch:=first|omega|rfl|(simp+decide only[go_sem,h0,h1,h4,h7,h8,Qb7]<;>rfl)|fail) only[go_sem,h0,h1,h4,h7,h8,Qb7]
   refine Qb6 (m:=w.length-(i+1)) (by omega) ⟨i+1,_,_,rfl,by omega,?_,?_,(List.append_cons ..).symm.trans hd,?_⟩
   ·omega
   ·simp[hdl]
   ·simp+decide (disch:=first|omega|rfl|(simp+decide only[go_sem,h0,h1,h4,h7,h8,true_and,and_true,Qb7]<;>rfl)|fail) only[go_sem,h0,h1,h4,h7,h8,true_and,and_true,Qb7]
    simp
  ·rw[Qbj (by omega)]at hd
   simp+decide (disch:=first|omega|rfl|(simp+decide only[go_sem,h0,h1,h4,h7,h8,Qb7]<;>rfl)|fail) only[go_sem,h0,h1,h4,h7,h8,Qb7]
   refine Qb6 (m:=w.length-(i+1)) (by omega) ⟨i+1,_,_,rfl,by omega,?_,?_,(List.append_cons ..).symm.trans hd,?_⟩
   ·omega
   ·simp[hdl]
   ·simp+decide (disch:=first|omega|rfl|(simp+decide only[go_sem,h0,h1,h4,h7,h8,true_and,and_true,Qb7]<;>rfl)|fail) only[go_sem,h0,h1,h4,h7,h8,true_and,and_true,Qb7]
    simp
 ·obtain rfl:i=w.length:=by omega
  rw[List.drop_of_length_le (Nat.le_refl _),Qf0,List.append_nil]at hd
  simp+decide (disch:=try exact D0) only[go_sem]
  refine Qael rfl (Qet _) ?_ ⟨rfl,?_⟩
  ·simp[hdl]
  ·rw[List.drop_of_length_le (Nat.le_refl _),hd];simp
theorem Qt0{pre w post v:List Nat}{j m q:Nat}(hw:Qj w)(hv:Qj v)(hq:q<65536)(hj:pre.length=j)(hm:w.length=m)(hle:v.length<=w.length)(hlen:(pre++(w++post)).length<2^43):
  Qi4 Tryz.prog 231 [.mso B0 j m,PV.nat v,.int .u32 q] 155 (Qa3 (pre++(w++post))) (fun r xs'=>r= .bool (decide (0<(Qc4 w v q 0 0).2.2))/\xs'=Qa3 (pre++((Qc4 w v q 0 0).1++post))):=by
 simp only[List.length_append]at hlen
 refine Qj8 Qt Tryz.func231 rfl Qaax (by simp[Q6m]) fun C hP=> ?_;simp only[Q6m,Zo,Zg,Zm,Zc,Zf,Zl,Zh,Zs,Zi,Zb,Zk,Zn,Zu,Zq,Zr,Zz]
 simp+decide (disch:=try exact D0) only[go_sem]
 refine Qer (fun k fr hp=>∃i c b done,k=w.length-i/\i<=w.length/\c<65536/\b<=1/\done.length=i/\done++(Qc4 (w.drop i) (v.drop i) q c b).1=(Qc4 w v q 0 0).1/\(Qc4 (w.drop i) (v.drop i) q c b).2=(Qc4 w v q 0 0).2/\
  fr 0= .mso 1000000 j m/\fr 1=PV.nat v/\fr 2= .int .u32 q/\fr 7= .int .u32 c/\fr 8= .int .i32 (b:Nat)/\fr 12= .int .i64 m/\fr 13= .int .i64 i/\hp=Qg hp0 1000000 ⟨1,155,Qa3 ((pre++done)++(w.drop i++post)),false⟩) w.length ?_ ?_
 ·refine⟨0,0,0,[],rfl,by omega,by omega,by omega,rfl,rfl,rfl,?_⟩
  simp+decide (disch:=first|omega|rfl|(simp+decide only[go_sem,true_and,and_true,List.append_nil,List.drop_zero]<;>rfl)|fail) only[go_sem,true_and,and_true,List.append_nil,List.drop_zero]
  simp
 rintro _ fr _ ⟨i,c,b,done,rfl,hi,hc,hb,hdl,hd,hd2,h0,h1,h2,h7,h8,h12,h13,rfl⟩
 simp+decide (disch:=try exact D2 h12 h13) only[go_sem,h12,h13]
 refine Qb (fun hg=> ?_) (fun hg=> ?_)
 ·have hi':i<w.length:=by omega
  have hwi:=Qal hw hi'
  rw[Q16 hi']at hd hd2
  simp only at hd hd2
  have hpl:(pre++done).length=j+i:=by simp[hj,hdl]
  rw[List.drop_eq_getElem_cons hi']
  generalize hww:w[i]=wi at *
  have hlt:j+i<((pre++done)++wi::(w.drop (i+1)++post)).length:=by simp;omega
  have hget:=Qoh hpl hlt
  simp+decide (disch:=first|omega|rfl|(simp+decide only[go_sem,h0,h1,h2,h7,h8,h12,h13,List.cons_append,hget]<;>rfl)|fail) only[go_sem,h0,h1,h2,h7,h8,h12,h13,List.cons_append,hget]
  refine Qgy (fun fr hp=>c+q*v.getD i 0<=4294967295/\fr 0= .mso 1000000 j m/\fr 1=PV.nat v/\fr 2= .int .u32 q/\fr 7= .int .u32 (c+q*v.getD i 0:Nat)/\fr 8= .int .i32 (b:Nat)/\fr 9= .int .i64 i/\fr 12= .int .i64 m/\fr 13= .int .i64 i/\hp=Qg hp0 1000000 ⟨1,155,Qa3 ((pre++done)++wi::(w.drop (i+1)++post)),false⟩) ?_ ?_
  ·refine Qb (fun hqv=> ?_) (fun hqv=> ?_)
   ·have hq':i<v.length:=by omega
    have hvi:=Qal hv hq'
    have hqv:=Qe6 hq hvi
    simp+decide (disch:=first|omega|rfl|(simp+decide only[go_sem,h0,h1,h2,h7,h8,h12,h13,Qbi hq',true_and,and_true]<;>rfl)|fail) only[go_sem,h0,h1,h2,h7,h8,h12,h13,Qbi hq',true_and,and_true]
    omega
   ·simp+decide (disch:=first|omega|rfl|(simp+decide only[go_sem,h0,h1,h2,h7,h8,h12,h13,true_and,and_true,Qbj (by omega:¬i<v.length),Nat.mul_zero,Nat.add_zero]<;>rfl)|fail) only[go_sem,h0,h1,h2,h7,h8,h12,h13,true_and,and_true,Qbj (by omega:¬i<v.length),Nat.mul_zero,Nat.add_zero]
    omega
  clear h0 h1 h2 h7 h8 h12 h13
  rintro fr _ ⟨hc1,h0,h1,h2,h7,h8,h9,h12,h13,rfl⟩
  generalize c+q*v.getD i 0=c1 at *
  simp+decide (disch:=try exact D9 h0 h1 h2 h7 h8 h9 h12 h13 hget) only[go_sem,h0,h1,h2,h7,h8,h9,h12,h13,hget]
  refine Qgy (fun fr hp=>fr 0= .mso 1000000 j m/\fr 1=PV.nat v/\fr 2= .int .u32 q/\fr 7= .int .u32 (c1/65536:Nat)/\fr 8= .int .i32 ((if wi<c1%65536+b then 1 else 0):Nat)/\fr 9= .int .i64 i/\fr 10= .int .i32 ((wi+65536-c1%65536-b)%65536:Nat)/\fr 12= .int .i64 m/\fr 13= .int .i64 i/\hp=Qg hp0 1000000 ⟨1,155,Qa3 ((pre++done)++wi::(w.drop (i+1)++post)),false⟩) ?_ ?_
  ·refine Qb (fun hq=> ?_) (fun hq=> ?_)
   ·rw[if_pos (by omega)]
    simp+decide (disch:=try exact D10 h0 h1 h2 h7 h8 h9 h12 h13 true_and and_true) only[go_sem,h0,h1,h2,h7,h8,h9,h12,h13,true_and,and_true]
    simp;omega
   ·rw[if_neg (by omega)]
    simp+decide (disch:=try exact D10 h0 h1 h2 h7 h8 h9 h12 h13 true_and and_true) only[go_sem,h0,h1,h2,h7,h8,h9,h12,h13,true_and,and_true]
    simp;omega
  clear h0 h1 h2 h7 h8 h9 h12 h13
  rintro fr _ ⟨h0,h1,h2,h7,h8,h9,h10,h12,h13,rfl⟩
  simp+decide (disch:=first|omega|rfl|(simp+decide only[go_sem,h0,h1,h2,h7,h8,h9,h10,h12,h13,Qb7]<;>rfl)|fail) only[go_sem,h0,h1,h2,h7,h8,h9,h10,h12,h13,Qb7]
  refine Qb6 (m:=w.length-(i+1)) (by omega) ⟨i+1,c1/65536,_,_,rfl,by omega,by omega,?_,?_,(List.append_cons ..).symm.trans hd,hd2,?_⟩
  ·split<;>omega
  ·simp[hdl]
  ·simp+decide (disch:=first|omega|rfl|(simp+decide only[go_sem,h0,h1,h2,h7,h8,h9,h10,h12,h13,true_and,and_true,Qb7,Nat.mod_mod]<;>rfl)|fail) only[go_sem,h0,h1,h2,h7,h8,h9,h10,h12,h13,true_and,and_true,Qb7,Nat.mod_mod]
   simp
 ·obtain rfl:i=w.length:=by omega
  rw[List.drop_of_length_le (Nat.le_refl _),Qc4]at hd hd2
  simp only[List.append_nil]at hd
  simp+decide (disch:=try exact D1 h8) only[go_sem,h8]
  refine Q17 (p:= .bool (decide (0<(b:Int)))) rfl (Qet _) ?_ T0 rfl ⟨?_,?_⟩
  ·simp[hdl]
  ·rw[<-hd2];simp
  ·rw[List.drop_of_length_le (Nat.le_refl _),hd];simp
theorem Qt1{v u:List Nat}{dg n r j:Nat}(hv:Qj v)(hu:Qj u)(hn:2<=n)(hnv:n=v.length)(hju:j+n<u.length)(hd:dg<4294967296)(hr:r<65536)(hul:u.length<2^43):
  Qd Tryz.prog 230 [.pt [.int .u64 dg],.pt [PV.nat v],.pt [.int .i64 n],.pt [.int .u64 r],.pt [PV.nat u],.pt [.int .i64 j]]
   (· = .bool (decide (65536<=dg∨r*65536+u.getD (j+n-2) 0<dg*v.getD (n-2) 0))):=by
 have h1:n-2<v.length:=by omega
 have h2:j+n-2<u.length:=by omega
 have hv1:=Qal hv h1
 have hu1:=Qal hu h2
 rw[Qbi h1,Qbi h2]
 refine Qi Qt Tryz.func230 rfl Qaaw (by simp[Q6l]) fun C hP=> ?_;simp only[Q6l,Zo,Zg,Zm,Zc,Zf,Zl,Zh,Zs,Zi,Zb,Zk,Zn,Zu,Zq,Zr,Zz]
 simp+decide (disch:=try exact D0) only[go_sem]
 refine Qa9 (fun hz=> ?_) (fun hz=> ?_)
 ·simp+decide (disch:=try exact D0) only[go_sem]
  exact Qc (by simp;omega) rfl
 ·have hd':dg<65536:=by omega
  have e1:(n:Int)-2=((n-2:Nat):Int):=by omega
  have e2:((j+n:Nat):Int)-2=((j+n-2:Nat):Int):=by omega
  generalize hvv:v[n-2]=vi at *
  generalize huu:u[j+n-2]=ui at *
  have hm:=Qe6 hd' hv1
  simp+decide (disch:=first|omega|rfl|(simp+decide only[go_sem,e1,e2,hvv,huu,Qka,Qme]<;>rfl)|fail) only[go_sem,e1,e2,hvv,huu,Qka,Qme]
  exact Qc (congrArg PV.bool (decide_eq_decide.2 ⟨fun h=> .inr (by omega),fun h=>by rcases h with h|h<;>omega⟩)) rfl
theorem Qzw{l post:List Nat}(hv:Qj l)(hl:(l++post).length<2^43)(hlen:0<l.length):
  Qi4 Tryz.prog 212 [.mso B0 0 l.length] 155 (Qa3 (l++post)) (fun r xs'=>r= .mso B0 0 (nl (val l))/\xs'=Qa3 (l++post)):=by
 simp only[List.length_append]at hl
 have hlen2:l.length<=(l++post).length:=by simp
 refine Qj8 Qt Tryz.func212 rfl Qyd (by simp[Qvt]) fun C hP=> ?_;simp only[Qvt,Zo,Zg,Zm,Zc,Zf,Zl,Zh,Zs,Zi,Zb,Zk,Zn,Zu,Zq,Zr,Zz]
 simp+decide (disch:=try exact D0) only[go_sem]
 refine Qer (fun m fr hp=>m<=l.length/\cut l m=dig (val l)/\fr 0= .mso 1000000 0 l.length/\fr 3= .int .i64 m/\hp=Qg hp0 1000000 ⟨1,155,Qa3 (l++post),false⟩) l.length ?_ ?_
 ·exact⟨Nat.le_refl _,Qli hv,rfl,rfl,rfl⟩
 rintro n fr _ ⟨hn,hc,h0,h3,rfl⟩
 simp+decide (disch:=try exact D2 h0 h3) only[go_sem,h0,h3]
 refine Qbq (fun hg=> ?_) (fun hg=> ?_)
 ·obtain _|n:=n
  ·omega
  have e:((n+1:Nat):Int)-1=n:=by omega
  have hlt:n<(l++post).length:=by simp;omega
  have hget:(l++post)[n]=l[n]:=by simp[List.getElem_append,show n<l.length by omega]
  simp+decide (disch:=try exact D4 h0 h3 e hget) only[go_sem,h0,h3,e,hget]
  simp only[cut]at hc
  refine Qb (fun hz=> ?_) (fun hz=> ?_)
  ·rw[if_pos (by grind)]at hc
   simp+decide (disch:=try exact D3 h0 h3 e) only[go_sem,h0,h3,e]
   refine Qb6 (m:=n) (by omega) ⟨by omega,hc,?_⟩
   simp+decide (disch:=try exact D3 h0 true_and and_true) only[go_sem,h0,true_and,and_true]
  ·rw[if_neg (by grind)]at hc
   have hnl:nl (val l)=n+1:=by rw[nl,<-hc];simp;omega
   simp+decide (disch:=try exact D2 h0 h3) only[go_sem,h0,h3]
   exact Qx2 rfl (Qet _) (by simp) (T1 hnl) ⟨rfl,rfl⟩
 ·obtain rfl:n=0:=by omega
  have hnl:nl (val l)=0:=by rw[nl,<-hc,cut];rfl
  simp+decide (disch:=try exact D2 h0 h3) only[go_sem,h0,h3]
  exact Qx2 rfl (Qet _) (by simp) (T1 hnl) ⟨rfl,rfl⟩
theorem Qku{a:List Nat}{s:Nat}(ha:Qj a)(hla:a.length<2^40)(hs:s<=15)(hne:val a≠0):Qll Tryz.prog 221 [PV.nat a,.int .i64 s] 155 (fun ys=>ys=Qa3 (dig (val a*2^s))):=by
 have hda:=Qam ha
 unfold nl at hda
 have hnz:(dig (val a)).length≠0:=by
  intro h;exact hne (Qbm.1 (Qc3 h))
 refine Q13 Qt Tryz.func221 rfl Qsf (by simp[Qp3]) fun C hP=> ?_;simp only[Qp3,Zo,Zg,Zm,Zc,Zf,Zl,Zh,Zs,Zi,Zb,Zk,Zn,Zu,Zq,Zr,Zz]
 simp+decide (disch:=try exact D0) only[go_sem]
 refine Qa hP (Qa8 ha (by omega)) rfl rfl rfl ?_
 simp+decide (disch:=try exact D0) only[go_sem]
 generalize val a=x at *
 have hxl:=Ql x
 have e1:s/16=0:=Nat.div_eq_of_lt (by omega)
 have e2:s%16=s:=Nat.mod_eq_of_lt (by omega)
 refine Qa9 (fun hz=>by omega) (fun hz=> ?_)
 simp+decide (disch:=try exact D0) only[go_sem]
 refine Qa9 (fun hz=>by omega) (fun hz=> ?_)
 simp+decide (disch:=try exact D0) only[go_sem]
 refine Qb (fun hz=>by omega) (fun hz=> ?_)
 simp+decide (disch:=try exact D0) only[go_sem]
 refine Qb (fun hz=>by omega) (fun hz=> ?_)
 simp+decide (disch:=first|omega|rfl|(simp+decide only[go_sem,Qkc,Qkd,e1,e2]<;>rfl)|fail) only[go_sem,Qkc,Qkd,e1,e2]
 refine Qer (fun k fr hp=>∃i c done,k=(dig x).length-i/\i<=(dig x).length/\c<2^s/\done.length=i/\done++Qhx s ((dig x).drop i) c=Qhx s (dig x) 0/\
  fr 5= .int .i64 (0:Nat)/\fr 6= .int .i64 s/\fr 7= .ms 44 ((dig x).length+1)/\fr 45=PV.num x/\fr 46= .int .i64 (dig x).length/\fr 47= .int .i64 i/\
  hp=Qg hp0 44 ⟨1,155,Qa3 (done++c::List.replicate ((dig x).length-i) 0),false⟩) (dig x).length ?_ ?_
 ·refine⟨0,0,[],rfl,by omega,Nat.pow_pos (by omega),rfl,rfl,?_⟩
  simp+decide (disch:=first|omega|rfl|(simp+decide only[go_sem,true_and,and_true,List.nil_append,Nat.sub_zero]<;>rfl)|fail) only[go_sem,true_and,and_true,List.nil_append,Nat.sub_zero]
  simp[List.replicate_succ]
 rintro _ fr _ ⟨i,c,done,rfl,hi,hc,hdl,hd,h5,h6,h7,h45,h46,h47,rfl⟩
 simp+decide (disch:=try exact D3 h45 h46 h47) only[go_sem,h45,h46,h47]
 have hp15:2^s<=2^15:=Nat.pow_le_pow_right (by omega) hs
 refine Qb (fun hg=> ?_) (fun hg=> ?_)
 ·have hi':i<(dig x).length:=by omega
  have hxi:=Qal hxl hi'
  rw[List.drop_eq_getElem_cons hi',Qhx]at hd
  generalize hxx:(dig x)[i]=xi at *
  obtain⟨z,hz⟩:∃z,(dig x).length-i=z+1:=⟨(dig x).length-i-1,by omega⟩
  have hlt:i<(done++c::List.replicate (z+1) 0).length:=by simp;omega
  have hget:=Qoh hdl hlt
  have hsp:=Qvd (x:=xi) (show s<=16 by omega) hc
  have hcl:=Qs1 (show s<=16 by omega) hxi
  have hl:=Qaem hs hxi
  simp+decide (disch:=first|omega|rfl|(simp+decide only[go_sem,h5,h6,h7,h45,h46,h47,hxx,hz,hget,Qr8,Q19,hsp.2,Qb7]<;>rfl)|fail) only[go_sem,h5,h6,h7,h45,h46,h47,hxx,hz,hget,Qr8,Q19,hsp.2,Qb7]
  have hset:∀v u,(done++v::List.replicate (z+1) 0).set (i+1) u=(done++[v])++u::List.replicate z 0:=fun v u=>by
   rw[List.append_cons,List.replicate_succ,Qb7 (by simp[hdl])]
  rw[Q1w (by simp;omega),hset,Nat.mod_eq_of_lt (by omega:xi*2^s/65536<65536)]
  simp+decide (disch:=try exact D6 h5 h6 h7 h45 h46 h47) only[go_sem,h5,h6,h7,h45,h46,h47]
  refine Qb6 (m:=(dig x).length-(i+1)) (by omega) ⟨i+1,xi*2^s/65536,done++[xi*2^s%65536+c],rfl,by omega,hcl,by simp[hdl],(List.append_cons ..).symm.trans hd,?_⟩
  simp+decide (disch:=try exact D8 h5 h6 h7 h45 h46 h47 true_and and_true) only[go_sem,h5,h6,h7,h45,h46,h47,true_and,and_true]
  rw[show(dig x).length-(i+1)=z by omega]
 ·obtain rfl:i=(dig x).length:=by omega
  rw[List.drop_of_length_le (Nat.le_refl _),Qhx]at hd
  have hlim:=Qqz hs (dig x) 0 hxl (Nat.pow_pos (by omega))
  have hvs:=Qvc s (dig x) 0
  have hln:=Qpa s (dig x) 0
  rw[Q5,Nat.add_zero]at hvs
  rw[<-hd]at hlim hvs hln
  have hnz2:x*2^s≠0:=Nat.mul_ne_zero hne (Nat.ne_of_gt (Nat.pow_pos (by omega)))
  simp+decide (disch:=first|omega|rfl|(simp+decide only[go_sem,h7,Nat.sub_self,List.replicate_zero]<;>rfl)|fail) only[go_sem,h7,Nat.sub_self,List.replicate_zero]
  have ht:=Qzw (l:=done++[c]) (post:=[]) hlim (by simp[hdl];omega) (by simp)
  rw[List.append_nil,hvs]at ht
  refine Qqu hP ht (β:=44) T0 (Qet _) (by simp) (by simp[toB,hln]) rfl ?_
  rintro r xs' _ _ ⟨rfl,rfl⟩
  simp+decide (disch:=first|omega|rfl|(simp+decide only[go_sem,Qgb]<;>rfl)|fail) only[go_sem,Qgb]
  refine⟨4,44,nl (x*2^s),_,rfl,by simp+decide (disch:=try exact D0) only[go_sem],rfl,by simp+decide (disch:=try exact D0) only[go_sem];rfl,Qet _,?_,?_⟩
  ·have:= @Qiv (x*2^s);omega
  ·rw[<-hvs,<-List.map_take,Q5j hlim]
theorem Qzx{a:List Nat}{s:Nat}(ha:Qj a)(hla:a.length<2^42)(hs:s<=15):Qd Tryz.prog 229 [PV.nat a,.int .i64 s] (· =PV.num (val a/2^s)):=by
 have e1:s/16=0:=Nat.div_eq_of_lt (by omega)
 have e2:s%16=s:=Nat.mod_eq_of_lt (by omega)
 refine Qi Qt Tryz.func229 rfl Qaa0 (by simp[Q6p]) fun C hP=> ?_;simp only[Q6p,Zo,Zg,Zm,Zc,Zf,Zl,Zh,Zs,Zi,Zb,Zk,Zn,Zu,Zq,Zr,Zz]
 simp+decide (disch:=first|omega|rfl|(simp+decide only[go_sem,Qkc,Qkd,e1,e2]<;>rfl)|fail) only[go_sem,Qkc,Qkd,e1,e2]
 refine Qb (fun hz=> ?_) (fun hz=> ?_)
 ·have:a=[]:=List.length_eq_zero_iff.1 (by omega)
  subst this
  simp+decide (disch:=try exact D0) only[go_sem]
  exact Qhu (Qlk (by simp[val])) rfl
 have e3:((a.length:Int)-((0:Nat):Int))=((a.length:Nat):Int):=by omega
 simp+decide (disch:=try exact D1 e3) only[go_sem,e3]
 refine Qai (by repeat (first|exact Qw|exact Qo|exact Qp|exact Qq|exact Qr|apply Qn|apply Qv|apply Qz|apply Q6|apply Q7|apply Qk)) [(8,9),(25,60)] [] (fun k J hp=>∃i done,k=a.length-i/\i<=a.length/\done.length=i/\done++Qhb s (a.drop i)=Qhb s a/\J 25= .int .i64 i/\
  hp=Qg hp0 22 ⟨1,155,Qa3 (done++List.replicate (a.length-i) 0),false⟩) a.length ?_ ?_
 ·refine⟨0,[],rfl,by omega,rfl,rfl,?_⟩
  simp+decide (disch:=first|omega|rfl|(simp+decide only[go_sem,true_and,and_true,List.nil_append,Nat.sub_zero]<;>rfl)|fail) only[go_sem,true_and,and_true,List.nil_append,Nat.sub_zero]
  simp
 rintro _ J _ ⟨i,done,rfl,hi,hdl,hd,h25,rfl⟩
 simp+decide (disch:=try exact D1 h25) only[go_sem,h25]
 refine Qb (fun hg=> ?_) (fun hg=> ?_)
 ·have hi':i<a.length:=by omega
  have hai:=Qal ha hi'
  rw[Q2d hi']at hd
  generalize hxx:a[i]=xi at *
  have hlen:=Qpw (n:=a.length-i) hdl (by omega:_=a.length)
  simp+decide (disch:=try exact D2 h25 hxx) only[go_sem,h25,hxx]
  refine Qb (fun hq=> ?_) (fun hq=> ?_)
  ·have hq':i+1<a.length:=by omega
   have haj:=Qal ha hq'
   rw[Qbi hq']at hd
   simp+decide (disch:=first|omega|rfl|(simp+decide only[go_sem,h25,Qkb,Qs0,Qoj]<;>rfl)|fail) only[go_sem,h25,Qkb,Qs0,Qoj]
   refine Qab (a.length-(i+1)) (by omega) ⟨i+1,_,rfl,by omega,by simp[hdl],(List.append_cons ..).symm.trans hd,?_⟩
   simp+decide (disch:=first|omega|rfl|(simp+decide only[go_sem,h25,true_and,and_true,Qes,Nat.sub_sub]<;>rfl)|fail) only[go_sem,h25,true_and,and_true,Qes,Nat.sub_sub]
  ·rw[Qbj (by omega),Nat.zero_mul,Nat.zero_add]at hd
   simp+decide (disch:=first|omega|rfl|(simp+decide only[go_sem,h25,Qoj]<;>rfl)|fail) only[go_sem,h25,Qoj]
   refine Qab (a.length-(i+1)) (by omega) ⟨i+1,_,rfl,by omega,by simp[hdl],(List.append_cons ..).symm.trans hd,?_⟩
   simp+decide (disch:=first|omega|rfl|(simp+decide only[go_sem,h25,true_and,and_true,Qes,Nat.sub_sub]<;>rfl)|fail) only[go_sem,h25,true_and,and_true,Qes,Nat.sub_sub]
 ·obtain rfl:i=a.length:=by omega
  rw[List.drop_of_length_le (Nat.le_refl _),Qhb,List.append_nil]at hd
  simp+decide (disch:=first|omega|rfl|(simp+decide only[go_sem,Nat.sub_self,List.replicate_zero,List.append_nil]<;>rfl)|fail) only[go_sem,Nat.sub_self,List.replicate_zero,List.append_nil]
  rw[hd]
  refine Qfz hP (Qa8 (Qq0 s a) (by rw[Qkq];exact hla)) (Qjs rfl (Qkq s a).symm) rfl fun hp'=> ?_
  simp+decide (disch:=try exact D0) only[go_sem]
  exact Qc (by rw[Qvf (by omega) a ha]) rfl
theorem Qw8{x V d q:Nat}(hd:0<d)(h:q=V/d):(V%d*65536+x)/d+65536*q=(x+65536*V)/d/\(V%d*65536+x)%d=(x+65536*V)%d:=by
 subst h
 have e:x+65536*V=(V%d*65536+x)+d*(65536*(V/d)):=by
  have:=Nat.div_add_mod V d
  calc x+65536*V=x+65536*(d*(V/d)+V%d):=by rw[this]
   _=_:=by rw[Nat.mul_add,Nat.mul_left_comm];omega
 rw[e,Nat.add_mul_div_left _ _ hd,Nat.add_mul_mod_self_left]
 exact⟨rfl,rfl⟩
theorem Qw9{a:List Nat}{d:Nat}(ha:Qj a)(hla:a.length<2^42)(hd:0<d)(hd2:d<65536):Qd Tryz.prog 219 [PV.nat a,.int .u16 d] (· = .tup [PV.num (val a/d),.int .u16 (val a%d:Nat)]):=by
 refine Qi Qt Tryz.func219 rfl Qaau (by simp[Q6j]) fun C hP=> ?_;simp only[Q6j,Zo,Zg,Zm,Zc,Zf,Zl,Zh,Zs,Zi,Zb,Zk,Zn,Zu,Zq,Zr,Zz]
 simp+decide (disch:=try exact D0) only[go_sem]
 refine Qai (by repeat (first|exact Qw|exact Qo|exact Qp|exact Qq|exact Qr|apply Qn|apply Qv|apply Qz|apply Q6|apply Q7|apply Qk)) [(7,8),(15,38)] [] (fun k J hp=>∃qs,k<=a.length/\qs.length=a.length-k/\Qj qs/\val qs=val (a.drop k)/d/\J 7= .int .u32 (val (a.drop k)%d:Nat)/\J 8= .int .i64 ((k:Int)-1)/\
  hp=Qg hp0 11 ⟨1,155,Qa3 (List.replicate k 0++qs),false⟩) a.length ?_ ?_
 ·refine⟨[],Nat.le_refl _,by simp,Qcy,by simp[val],?_⟩
  simp+decide (disch:=try exact D2 true_and and_true) only[go_sem,true_and,and_true]
  simp[val]
 rintro k J _ ⟨qs,hk,hql,hqs,hv,h7,h8,rfl⟩
 simp+decide (disch:=try exact D2 h7 h8) only[go_sem,h7,h8]
 have hr:=Nat.mod_lt (val (a.drop k)) hd
 refine Qb (fun hg=> ?_) (fun hg=> ?_)
 ·obtain _|n:=k
  ·omega
  have hn:n<a.length:=by omega
  have han:=Qal ha hn
  have e:((n+1:Nat):Int)-1=n:=by omega
  have hst:=Qw8 (x:=a[n]) hd hv
  rw[<-Qcv hn]at hst
  have hlt:(val (a.drop (n+1))%d*65536+a[n])/d<65536:=by
   rw[Nat.div_lt_iff_lt_mul hd]
   have:(val (a.drop (n+1))%d+1)*65536<=d*65536:=Nat.mul_le_mul_right _ hr
   omega
  generalize hxx:a[n]=xn at *
  generalize val (a.drop (n+1))%d=r at *
  have hlen:n<(List.replicate (n+1) 0++qs).length:=by simp;omega
  simp+decide (disch:=first|omega|rfl|(simp+decide only[go_sem,h7,h8,e,hxx,Qkb,Qvb,Qx3,Qd5]<;>rfl)|fail) only[go_sem,h7,h8,e,hxx,Qkb,Qvb,Qx3,Qd5]
  refine Qab n (by omega) ⟨(r*65536+xn)/d::qs,by omega,?_,?_,?_,?_⟩
  ·simp;omega
  ·rw[Qax];exact⟨hlt,hqs⟩
  ·rw[val,hst.1]
  ·simp+decide (disch:=try exact D5 h7 h8 true_and and_true hst.2) only[go_sem,h7,h8,true_and,and_true,hst.2]
   rw[Nat.mod_eq_of_lt hlt,List.replicate_succ',List.append_assoc,List.singleton_append,Qb7 (by simp)]
 ·obtain rfl:k=0:=by omega
  rw[List.drop_zero]at hv h7
  have hlt:=Nat.mod_lt (val a) hd
  simp+decide (disch:=first|omega|rfl|(simp+decide only[go_sem,h7,h8,List.replicate_zero,List.nil_append]<;>rfl)|fail) only[go_sem,h7,h8,List.replicate_zero,List.nil_append]
  refine Qfz hP (Qa8 hqs (by omega)) (Qjs rfl (by omega)) rfl fun hp'=> ?_
  simp+decide (disch:=try exact D1 h7) only[go_sem,h7]
  refine Qb2 rfl rfl rfl (Qgv (by rw[hv])) (Qgv ?_)
  rw[Nat.mod_eq_of_lt (by omega)]
theorem Qq6{x:Nat}(h:x<65536):Qd Tryz.prog 214 [.int .u16 x] (· = .int .i64 (Lib.bitLen x:Nat)):=
 Qw3 (by simp[Qjo];exact⟨rfl,by decide⟩) (fun w=>Qxa x w (by omega) (by omega)) (fun _ _=>Q2.int _ _)
theorem Qkv{x:Nat}(h:x<65536):Lib.bitLen x<=16:=Lib.bitLen_le x 16 (by omega) (by omega)
theorem Qms{x:Nat}(h:x<65536)(h0:x≠0):1<=Lib.bitLen x:=by
 have:=Lib.bitLen_half x h0 (by omega);omega
theorem Qxb:Lib.bitLen 0=0:=by decide
theorem Qzy:∀(n x:Nat),Lib.bitLen x=n->x≠0->x<65536->2^n<=2*x/\x<2^n:=by
 intro n
 induction n with
 |zero=>intro x h h0 hx;have:=Qms hx h0;omega
 | succ n ih=>
  intro x h h0 hx
  have e:=Lib.bitLen_half x h0 (by omega)
  by_cases h2:x/2=0
  ·have:x=1:=by omega
   subst this
   have:n=0:=by rw[h]at e;simp[Qxb]at e;exact e
   subst this;simp
  ·have:=ih (x/2) (by omega) h2 (by omega)
   rw[Nat.pow_succ];omega
theorem Qne{x:Nat}(h:x<65536):Qd Tryz.prog 220 [.int .u16 x] (· = .int .i64 (16-Lib.bitLen x:Nat)):=by
 have:=Qkv h
 refine Qi Qt Tryz.func220 rfl Qaa1 (by simp[Q6q]) fun C hP=> ?_;simp only[Q6q,Zo,Zg,Zm,Zc,Zf,Zl,Zh,Zs,Zi,Zb,Zk,Zn,Zu,Zq,Zr,Zz]
 simp+decide (disch:=try exact D0) only[go_sem]
 refine Qa hP (Qq6 h) rfl rfl rfl ?_
 simp+decide (disch:=try exact D0) only[go_sem]
 exact Qc (by congr 1;omega) rfl
theorem Qtd{a:List Nat}(ha:Qj a)(hla:a.length<2^40):Qd Tryz.prog 178 [PV.nat a] (fun r=>∃n:Nat,r= .int .i64 n/\(n=0↔val a=0)):=by
 have hd:=Qam ha
 unfold nl at hd
 refine Qi Qt Tryz.func178 rfl Qaap (by simp[Q6e]) fun C hP=> ?_;simp only[Q6e,Zo,Zg,Zm,Zc,Zf,Zl,Zh,Zs,Zi,Zb,Zk,Zn,Zu,Zq,Zr,Zz]
 simp+decide (disch:=try exact D0) only[go_sem]
 refine Qa hP (Qa8 ha (by omega)) rfl rfl rfl ?_
 simp+decide (disch:=try exact D0) only[go_sem]
 refine Qb (fun hz=> ?_) (fun hz=> ?_)
 ·simp+decide (disch:=try exact D0) only[go_sem]
  have:val a=0:=Qbm.1 (List.length_eq_zero_iff.1 (by omega))
  exact⟨rfl,_,Qy _,0,rfl,by simp[this]⟩
 ·have hne:val a≠0:=fun h=>by rw[h,Qa2]at hz;simp at hz
  have hlast:=Qjr (val a)
  have hlx:=Ql (val a)
  generalize val a=x at *
  obtain⟨k,hk⟩:∃k,(dig x).length=k+1:=⟨(dig x).length-1,by omega⟩
  have hlt:k<(dig x).length:=by omega
  have hxk:=Qal hlx hlt
  have hnz:(dig x)[k]≠0:=by
   intro h;apply hlast
   rw[List.getLast?_eq_getElem?,hk,Nat.add_sub_cancel,List.getElem?_eq_getElem hlt,h]
  have e:((k+1:Nat):Int)-1=k:=by omega
  generalize hxx:(dig x)[k]=xi at *
  have hb:=Qkv hxk
  have hb1:=Qms hxk hnz
  simp+decide (disch:=try exact D3 hk e hxx) only[go_sem,hk,e,hxx]
  refine Qa hP (Qq6 hxk) rfl rfl rfl ?_
  have e2:(16:Int)*(k:Int)=((16*k:Nat):Int):=by omega
  simp+decide (disch:=try exact D1 e2) only[go_sem,e2]
  exact⟨rfl,_,Qy _,16*k+Lib.bitLen xi,rfl,by omega⟩
theorem Qahe(i:Nat):2^(16*i)=65536^i:=by rw[Nat.pow_mul]
theorem Qnw{a:List Nat}(ha:Qj a)(hla:a.length<2^40):Qd Tryz.prog 216 [PV.nat a] (· =if nl (val a)<=4 then .tup [.int .u64 (val a),.bool true]else .tup [.int .u64 0,.bool false]):=by
 have hd:=Qam ha
 unfold nl at hd
 refine Qi Qt Tryz.func216 rfl Qaao (by simp[Q6d]) fun C hP=> ?_;simp only[Q6d,Zo,Zg,Zm,Zc,Zf,Zl,Zh,Zs,Zi,Zb,Zk,Zn,Zu,Zq,Zr,Zz]
 simp+decide (disch:=try exact D0) only[go_sem]
 refine Qa hP (Qa8 ha (by omega)) rfl rfl rfl ?_
 simp+decide (disch:=try exact D0) only[go_sem]
 have hlx:=Ql (val a)
 have Qc5:=Q5 (val a)
 unfold nl
 generalize val a=x at *
 refine Qb (fun hz=> ?_) (fun hz=> ?_)
 ·simp+decide (disch:=try exact D0) only[go_sem]
  rw[if_neg (by omega)]
  exact Qb2 rfl rfl rfl (Qy _) (Qy _)
 ·simp+decide (disch:=try exact D0) only[go_sem]
  rw[if_pos (by omega)]
  refine Qai (by repeat (first|exact Qw|exact Qo|exact Qp|exact Qq|exact Qr|apply Qn|apply Qv|apply Qz|apply Q6|apply Q7|apply Qk)) [(4,6),(14,26)] [] (fun k J hp=>∃i,k=(dig x).length-i/\i<=(dig x).length/\J 14= .int .i64 i/\J 4= .int .u64 (val ((dig x).take i))/\hp=hp0) (dig x).length ?_ ?_
  ·refine⟨0,rfl,by omega,?_⟩
   simp+decide (disch:=first|omega|rfl|(simp+decide only[go_sem,true_and,and_true,List.take_zero]<;>rfl)|fail) only[go_sem,true_and,and_true,List.take_zero]
   simp[val]
  rintro _ J _ ⟨i,rfl,hi,h14,h4,rfl⟩
  simp+decide (disch:=try exact D2 h14 h4) only[go_sem,h14,h4]
  refine Qb (fun hg=> ?_) (fun hg=> ?_)
  ·have hi':i<(dig x).length:=by omega
   have hxi:=Qal hlx hi'
   have hts:=Qfh hi'
   have hvt:=Qd2 hlx i (by omega)
   generalize hxx:(dig x)[i]=xi at *
   have e2:(16:Int)*(i:Int)=((16*i:Nat):Int):=by omega
   have hb:xi*2^(16*i)+2^(16*i)<=18446744073709551616:=by
    have h3:2^(16*i)<=2^48:=Nat.pow_le_pow_right (by omega) (by omega)
    have:(xi+1)*2^(16*i)<=65536*2^48:=Nat.mul_le_mul (by omega) h3
    rw[Nat.add_mul]at this;omega
   have hpp:0<2^(16*i):=Nat.pow_pos (by omega)
   rw[<-Qahe]at hts hvt
   have hor:(val ((dig x).take i)|||xi*2^(16*i))=val ((dig x).take (i+1)):=by
    rw[Nat.or_comm,Qnr hvt,hts,Nat.mul_comm,Nat.add_comm]
   simp+decide (disch:=first|omega|rfl|(simp+decide only[go_sem,h14,h4,hxx,e2,Qr7,Qva,hor]<;>rfl)|fail) only[go_sem,h14,h4,hxx,e2,Qr7,Qva,hor]
   refine Qab ((dig x).length-(i+1)) (by omega) ⟨i+1,rfl,by omega,?_⟩
   simp+decide (disch:=try exact D3 h14 true_and and_true) only[go_sem,h14,true_and,and_true]
  ·obtain rfl:i=(dig x).length:=by omega
   rw[List.take_length,Qc5]at h4
   simp+decide (disch:=try exact D1 h4) only[go_sem,h4]
   exact Qb2 rfl rfl rfl (Qy _) (Qy _)
set_option maxHeartbeats 2000000 in
theorem Q2u{u v ex:List Nat}(hu:Qj u)(hv:Qj v)(hn:2<=v.length)(hlt:v.length<u.length)(htop:32768<=v.getD (v.length-1) 0)(hinit:val (u.drop (u.length-v.length))<val v)(hul:u.length+ex.length<2^42):
  Qi4 Tryz.prog 222 [.mso B0 0 u.length,PV.nat v] 155 (Qa3 (u++ex)) (fun r xs'=>r=PV.num (val u/val v)/\∃l,xs'=Qa3 (l++ex)/\Qj l/\l.length=u.length/\val l=val u%val v):=by
 obtain⟨n,hnv⟩:∃n,v.length=n+2:=⟨v.length-2,by omega⟩
 have e1:(u.length:Int)-(v.length:Int)=((u.length-v.length:Nat):Int):=by omega
 have hvt:=Qx7 hnv
 have hv0:=Qd2 hv n (by omega)
 have hvlt:=Qfg hv
 have hv1:=Qal hv (show n+1<v.length by omega)
 have hv2:=Qal hv (show n<v.length by omega)
 have hg1:v[n+1]'(by omega)=v.getD (n+1) 0:=(Qbi _).symm
 have hg2:v[n]'(by omega)=v.getD n 0:=(Qbi _).symm
 have htop':32768<=v.getD (n+1) 0:=by rw[hnv]at htop;exact htop
 rw[hg1]at hv1
 rw[hg2]at hv2
 rw[hnv]at hvlt
 have hvp:0<val v:=by
  rw[hvt]
  have:0<65536^n:=Nat.pow_pos (by omega)
  have:0<(v.getD (n+1) 0*65536+v.getD n 0)*65536^n:=Nat.mul_pos (by omega) this
  omega
 refine Qj8 Qt Tryz.func222 rfl Qabq (by simp[Q7f]) fun C hP=> ?_;simp only[Q7f,Zo,Zg,Zm,Zc,Zf,Zl,Zh,Zs,Zi,Zb,Zk,Zn,Zu,Zq,Zr,Zz]
 simp+decide (disch:=try exact D1 e1) only[go_sem,e1]
 refine Qvg (by repeat (first|exact Qw|exact Qo|exact Qp|exact Qq|exact Qr|apply Qn|apply Qv|apply Qz|apply Q6|apply Q7|apply Qk)) [(7,11),(24,105)] [7,9,10] (fun k J hp=>∃l qs,k+qs.length=u.length-v.length/\Qj l/\l.length=u.length/\Qj qs/\val (l.drop k)<val v/\val u=val l+val v*(65536^k*val qs)/\J 7= .mp 7 0 0/\
  hp 7=some ⟨1,3,[.int .i64 ((k:Int)-1)],false⟩/\hp 1000000=some ⟨1,155,Qa3 (l++ex),false⟩/\hp 18=some ⟨1,155,Qa3 (List.replicate k 0++qs),false⟩/\
  hp 3=some ⟨1,47,[PV.nat v],false⟩/\hp 5=some ⟨1,3,[.int .i64 v.length],false⟩) (u.length-v.length) ?_ ?_
 ·refine⟨u,[],rfl,hu,rfl,Qcy,hinit,by simp[val],?_⟩
  simp+decide (disch:=try exact D2 true_and and_true) only[go_sem,true_and,and_true]
  simp
 intro F hF
 have hF2:F 2= .rb 1000000 0 u.length:=by rw[hF];simp+decide (disch:=try exact D0) only[go_sem]
 have hF3:F 3= .mp 3 0 0:=by rw[hF];simp+decide (disch:=try exact D0) only[go_sem]
 have hF5:F 5= .mp 5 0 0:=by rw[hF];simp+decide (disch:=try exact D0) only[go_sem]
 have hF6:F 6= .ms 18 (u.length-v.length):=by rw[hF];simp+decide (disch:=try exact D0) only[go_sem]
 have hkF:∀β,[7,9,10].contains β=true->Qap β F=F:=fun β h=>by rw[hF];exact Qhd h
 have hk9:=hkF 9 rfl
 have hk10:=hkF 10 rfl
 have hk7:=hkF 7 rfl
 have hkk:Qad [9,10] F=F:=by rw[hF];exact Qtz rfl
 clear hkF hF
 rintro k J h ⟨l,qs,hsum,hl,hll,hqs,hred,Qc5,hJ7,hh7,hhB,hh18,hh3,hh5⟩
 simp+decide (disch:=try exact D10 hJ7 hh7 hhB hh18 hh3 hh5 hF2 hF3 hF5 hF6) only[go_sem,hJ7,hh7,hhB,hh18,hh3,hh5,hF2,hF3,hF5,hF6]
 refine Qb (fun hg=> ?_) (fun hg=> ?_)
 ·obtain _|j:=k
  ·omega
  have e2:((j+1:Nat):Int)-1=j:=by omega
  have e3:((n+2:Nat):Int)-1=((n+1:Nat):Int):=by omega
  have e4:((j+(n+2):Nat):Int)-1=((j+(n+1):Nat):Int):=by omega
  obtain⟨pre,w,post,hlw,hpl,hwl,hpre,hw,hpost,hpost0,hdj,hwlt,w0,hw0,hwv⟩:=Qaeo (n:=n) hl (by omega) (by omega) hred
  have hl2:=Qal hl (show j+(n+2)<l.length by omega)
  have hl1:=Qal hl (show j+(n+1)<l.length by omega)
  have hl0:=Qal hl (show j+n<l.length by omega)
  have hlel:(l++ex).length=u.length+ex.length:=by rw[List.length_append,hll]
  have hgl2:(l++ex)[j+(n+2)]'(by omega)=l.getD (j+(n+2)) 0:=by rw[List.getElem_append_left (by omega)];exact(Qbi _).symm
  have hgl1:(l++ex)[j+(n+1)]'(by omega)=l.getD (j+(n+1)) 0:=by rw[List.getElem_append_left (by omega)];exact(Qbi _).symm
  rw[<-Qbi (by omega)]at hl2 hl1
  have htk2:(Qa3 (l++ex)).take u.length=Qa3 l:=by rw[<-List.map_take,<-hll,List.take_left]
  have hlw2:l++ex=pre++(w++(post++ex)):=by rw[hlw];simp
  generalize l.getD (j+(n+2)) 0=w2 at *
  generalize l.getD (j+(n+1)) 0=w1 at *
  simp+decide (disch:=first|omega|rfl|(simp+decide only[go_sem,hJ7,hh7,hhB,hh18,hh3,hh5,hF2,hF3,hF5,hF6,hnv,e2,e3,e4,hgl2,hgl1,hg1,Qka,Qme,Qi5,Qd5]<;>rfl)|fail) only[go_sem,hJ7,hh7,hhB,hh18,hh3,hh5,hF2,hF3,hF5,hF6,hnv,e2,e3,e4,hgl2,hgl1,hg1,Qka,Qme,Qi5,Qd5]
  have hwl2:w.length=n+3:=hwl
  have hdigit:=Qzj hvt hwv hw0 (by rw[<-Qbi (show j+n<l.length by omega)]at hl0;omega) (by omega:0<v.getD (n+1) 0)
  have hhi:=Q5s hvt hwv hv0 hwlt (Nat.pow_pos (by omega))
  have hdm:=Nat.div_add_mod (w2*65536+w1) (v.getD (n+1) 0)
  have hdlt:(w2*65536+w1)/v.getD (n+1) 0<131072:=by rw[Nat.div_lt_iff_lt_mul (by omega)];omega
  have hrlt:=Nat.mod_lt (w2*65536+w1) (by omega:0<v.getD (n+1) 0)
  rw[Nat.mul_comm]at hdm
  generalize hd0:(w2*65536+w1)/v.getD (n+1) 0=d0 at *
  generalize hr0:(w2*65536+w1)%v.getD (n+1) 0=r0 at *
  have hcomm:∀(h:HP) v w,Qg (Qg h 10 v) 9 w=Qg (Qg h 9 w) 10 v:=fun h v w=>Q2g 10 9 (by decide) h v w
  refine Q97 (fun J=>J 7= .mp 7 0 0/\J 52= .int .u64 d0/\J 53= .int .u64 (w2*65536+w1:Nat)) (T3 hJ7 true_and and_true) ?_
  clear hJ7
  rintro J ⟨hJ7,hJ52,hJ53⟩
  refine Q5t (by repeat (first|exact Qw|exact Qo|exact Qp|exact Qq|exact Qr|apply Qn|apply Qv|apply Qz|apply Q6|apply Q7|apply Qk)) [9,10] (fun J2 hp2=>J2 7= .mp 7 0 0/\J2 9= .mp 9 0 0/\J2 10= .mp 10 0 0/\hp2=Qg (Qg h 9 ⟨1,112,[.int .u64 d0],false⟩) 10 ⟨1,112,[.int .u64 r0],false⟩) ?_ ?_
  ·intro F' hF'
   have hF'3:F' 3= .mp 3 0 0:=by rw[hF'];simp+decide (disch:=try exact D1 hF3) only[go_sem,hF3]
   have hF'5:F' 5= .mp 5 0 0:=by rw[hF'];simp+decide (disch:=try exact D1 hF5) only[go_sem,hF5]
   have hk9':Qap 9 F'=F':=by rw[hF'];exact Qhd rfl
   have hk10':Qap 10 F'=F':=by rw[hF'];exact Qhd rfl
   clear hF'
   repeat' (first|refine Qeu ?_ ?_|simp+decide (disch:=first|omega|rfl|(simp+decide only[go_sem,hJ7,hJ52,hJ53,hh3,hh5,hF'3,hF'5,hk9',hk10',hnv,e3,hg1,Qd5]<;>rfl)|fail) only[go_sem,hJ7,hJ52,hJ53,hh3,hh5,hF'3,hF'5,hk9',hk10',hnv,e3,hg1,Qd5])
   all_goals refine Qhy (J:=_) ?_
   all_goals simp+decide (disch:=try exact D5 hJ7 hr0 hcomm true_and and_true) only[go_sem,hJ7,hr0,hcomm,true_and,and_true]
  clear hJ7 hJ52 hJ53 J
  rintro J _ ⟨hJ7,hJ9,hJ10,rfl⟩
  simp+decide (disch:=first|omega|rfl|(simp+decide only[go_sem,hJ7,hJ9,hJ10,hF2,hF3,hF5,hF6,caps,List.all_cons,List.all_nil,List.cons_append,List.nil_append,true_and]<;>rfl)|fail) only[go_sem,hJ7,hJ9,hJ10,hF2,hF3,hF5,hF6,caps,List.all_cons,List.all_nil,List.cons_append,List.nil_append,true_and]
  refine Qvg (by repeat (first|exact Qw|exact Qo|exact Qp|exact Qq|exact Qr|apply Qn|apply Qv|apply Qz|apply Q6|apply Q7|apply Qk)) [(62,77)] [] (fun m J hp=>∃d r,m=d/\d*v.getD (n+1) 0+r=w2*65536+w1/\val w<(d+1)*val v/\hp=Qg (Qg h 9 ⟨1,112,[.int .u64 d],false⟩) 10 ⟨1,112,[.int .u64 r],false⟩) d0 ?_ ?_
  ·exact⟨d0,r0,rfl,hdm,hdigit,rfl⟩
  intro F1 hF1
  have hE9:F1 9= .mp 9 0 0:=by rw[hF1,Qbu];simp+decide (disch:=try exact D1 hJ9) only[go_sem,hJ9]
  have hE10:F1 10= .mp 10 0 0:=by rw[hF1,Qbu];simp+decide (disch:=try exact D1 hJ10) only[go_sem,hJ10]
  have hE11:F1 11= .fn 230 [] [.mp 9 0 0,.mp 3 0 0,.mp 5 0 0,.mp 10 0 0,.rb 1000000 0 u.length,.mp 7 0 0]:=by rw[hF1,Qbu];simp+decide (disch:=try exact D0) only[go_sem]
  have hE3:F1 3= .mp 3 0 0:=by rw[hF1,Qbu];simp+decide (disch:=try exact D1 hF3) only[go_sem,hF3]
  have hE5:F1 5= .mp 5 0 0:=by rw[hF1,Qbu];simp+decide (disch:=try exact D1 hF5) only[go_sem,hF5]
  rintro d J2 _ ⟨_,r,rfl,hdr,hdW,rfl⟩
  have hd17:d<131072:=by
   have:d*32768<=d*v.getD (n+1) 0:=Nat.mul_le_mul_left _ htop'
   omega
  simp+decide (disch:=try exact D3 hE9 hE10 hE11) only[go_sem,hE9,hE10,hE11]
  refine Qw4 (by repeat (first|exact Qw|exact Qo|exact Qp|exact Qq|exact Qr|apply Qn|apply Qv|apply Qz|apply Q6|apply Q7|apply Qk)) [(62,67)] [] (fun J hp=>J 67= .bool (decide (r<65536/\(65536<=d∨r*65536+l.getD (j+n) 0<d*v.getD n 0)))/\hp=Qg (Qg h 9 ⟨1,112,[.int .u64 d],false⟩) 10 ⟨1,112,[.int .u64 r],false⟩) ?_ ?_
  ·refine Qbq (fun hr=> ?_) (fun hr=> ?_)
   ·simp+decide (disch:=try exact D3 hE9 hE10 hE11) only[go_sem,hE9,hE10,hE11]
    refine Q14 hP (Qt1 (dg:=d) (r:=r) (j:=j) hv hl hn rfl (by omega) (by omega) (by omega) (by omega)) (by simp+decide (disch:=first|omega|rfl|(simp+decide only[go_sem,Qc0,hhB,hh3,hh5,hh7,e2,List.append_nil,List.nil_append,List.getElem?_cons_zero,List.drop_zero,List.take_of_length_le]<;>rfl)|fail) only[go_sem,Qc0,hhB,hh3,hh5,hh7,e2,List.append_nil,List.nil_append,List.getElem?_cons_zero,List.drop_zero,List.take_of_length_le];simp only[List.drop_zero,htk2]) rfl rfl ?_
    simp+decide (disch:=try exact D1 hnv) only[go_sem,hnv]
    refine Qhy ⟨?_,rfl⟩
    simp+decide (disch:=try exact D0) only[go_sem]
    rw[show j+(n+2)-2=j+n by omega,show n+2-2=n by omega]
    exact congrArg PV.bool (decide_eq_decide.2 ⟨fun h=>⟨by omega,h⟩,fun h=>h.2⟩)
   ·simp+decide (disch:=try exact D3 hE9 hE10 hE11) only[go_sem,hE9,hE10,hE11]
    refine Qhy ⟨?_,rfl⟩
    simp+decide (disch:=try exact D0) only[go_sem]
    simp;omega
  rintro J3 _ ⟨h67,rfl⟩
  simp (disch:=decide) only[Qbu,Qcf]
  simp+decide (disch:=try exact D1 h67) only[go_sem,h67]
  refine Qb (fun ht=> ?_) (fun ht=> ?_)
  ·obtain⟨hr,ht⟩:=ht
   have hlt2:val w<d*val v:=by
    rcases ht with ht|ht
    ·exact Nat.lt_of_lt_of_le hwlt (Nat.mul_le_mul_right _ ht)
    ·exact Q5q hvt hwv hw0 hdr ht
   obtain _|d:=d
   ·omega
   have e5:((d+1:Nat):Int)-1=(d:Nat):=by omega
   simp+decide (disch:=try exact D11 hE9 hE10 hE3 hE5 hh3 hh5 hnv e3 e5 hg1 hcomm) only[go_sem,hE9,hE10,hE3,hE5,hh3,hh5,hnv,e3,e5,hg1,hcomm]
   refine Qab d (by omega) ⟨d,r+v.getD (n+1) 0,rfl,?_,hlt2,rfl⟩
   rw[Nat.add_mul]at hdr;omega
  have hd65:d<65536:=by
   apply Decidable.byContradiction
   intro hge
   apply ht
   refine⟨?_,.inl (by omega)⟩
   have:65536*v.getD (n+1) 0<=d*v.getD (n+1) 0:=Nat.mul_le_mul_right _ (by omega)
   omega
  have htest:¬r*65536+l.getD (j+n) 0<d*v.getD n 0:=by
   intro hlt3
   by_cases hr:r<65536
   ·exact ht ⟨hr,.inr hlt3⟩
   ·have:=Qe6 hd65 hv2
    omega
  have e5:j+(n+2)+1-j=n+3:=by omega
  subst hF1
  simp (disch:=decide) only[Qbu,hkk,Qcf]
  simp+decide (disch:=try exact D14 hJ7 hJ9 hJ10 hF2 hF3 hF5 hF6 hh3 hh5 hh7 hhB e2 hnv e5) only[go_sem,hJ7,hJ9,hJ10,hF2,hF3,hF5,hF6,hh3,hh5,hh7,hhB,e2,hnv,e5]
  have hsq:=Qu9 w v d 0 0 hw (by omega) (by omega)
  have hcar:=Qq1 w v d 0 0 (by omega) (by omega) hd65 hv
  have hsl:=Qqy w v d 0 0
  have hsln:=Qo9 w v d 0 0
  have hwB:=Qfg hw
  rw[hwl]at hsq hwB
  refine Qqu hP (Qt0 (pre:=pre) (w:=w) (post:=post++ex) (j:=j) (m:=n+3) (q:=d) hw hv hd65 hpl hwl (by omega) (by rw[<-hlw2];omega)) (β:=1000000) (T2 hhB hlw2) (Qet _) (by simp;omega) (by simp[toB,B0]) rfl ?_
  rintro _ _ _ _ ⟨rfl,rfl⟩
  generalize Qc4 w v d 0 0=sq at *
  obtain⟨⟨hsq,hb1⟩,hcar⟩:=And.intro hsq hcar
  have hSB:=Qfg hsl
  rw[hsln,hwl]at hSB
  have hpll:pre.length+(w.length+post.length)=u.length:=by rw[<-hll,hlw];simp
  have hs18:j<(List.replicate (j+1) 0++qs).length:=by simp;omega
  have hvl2:val l=val pre+65536^j*val w:=by
   rw[hlw,Qcc,Qcc,hpost0,hpl,Nat.mul_zero,Nat.add_zero]
  simp+decide (disch:=first|omega|rfl|(simp+decide only[go_sem,Qgb,hJ7,hJ9,hJ10,hF2,hF3,hF5,hF6]<;>rfl)|fail) only[go_sem,Qgb,hJ7,hJ9,hJ10,hF2,hF3,hF5,hF6]
  refine Qb (fun hb=> ?_) (fun hb=> ?_)
  ·have hb2:sq.2.2=1:=by omega
   rw[hcar,hb2]at hsq
   obtain _|d:=d
   ·omega
   have heV:=Q5r hvt hwv hv0 (by omega) hd65 hdr htest
   obtain⟨k,hk⟩:=Qu8 sq.1 v 0 (by omega)
   have hrl:=Qqx sq.1 v 0
   have hrln:=Qo8 sq.1 v 0
   rw[hsln,hwl]at hk hrln
   have hrB:=Qfg hrl
   rw[hrln]at hrB
   obtain⟨hR1,hR2⟩:=Q98 (B:=65536^(n+3)) (S:=val sq.1) (e:=d) (by omega) hSB heV (by omega) hrB hwB
   have e6:((d+1:Nat):Int)-1=(d:Nat):=by omega
   simp+decide (disch:=first|omega|rfl|(simp+decide only[go_sem,hJ7,hJ9,hJ10,hF2,hF3,hF5,hF6,hh3,hh5,hh7,hhB,e2,e6,hnv,e5]<;>rfl)|fail) only[go_sem,hJ7,hJ9,hJ10,hF2,hF3,hF5,hF6,hh3,hh5,hh7,hhB,e2,e6,hnv,e5]
   refine Qqu hP (Qvv (pre:=pre) (w:=sq.1) (post:=post++ex) (j:=j) (m:=n+3) hsl hv hpl (by omega) (by omega) (by simp;omega)) (β:=1000000) T0 (Qet _) (by simp;omega) (by simp[toB,B0]) rfl ?_
   rintro _ _ _ _ ⟨rfl,rfl⟩
   have hback:=Qs2 (q:=d) (R:=Qf0 sq.1 v 0) hpl hpost0 Qc5 hvl2 hR2
   simp+decide (disch:=first|omega|rfl|(simp+decide only[go_sem,Qgb,hJ7,hJ9,hJ10,hF2,hF3,hF5,hF6,hh3,hh5,hh7,hhB,hh18,e2,e6,hnv,e5,Qol,Nat.mod_eq_of_lt (by omega:d<65536),hk7]<;>rfl)|fail) only[go_sem,Qgb,hJ7,hJ9,hJ10,hF2,hF3,hF5,hF6,hh3,hh5,hh7,hhB,hh18,e2,e6,hnv,e5,Qol,Nat.mod_eq_of_lt (by omega:d<65536),hk7]
   refine Qab j (by omega) ⟨pre++(Qf0 sq.1 v 0++post),d::qs,by simp;omega,?_,?_,?_,?_,hback.2,?_⟩
   ·rw[Qbw,Qbw];exact⟨hpre,hrl,hpost⟩
   ·simp;omega
   ·rw[Qax];exact⟨by omega,hqs⟩
   ·rw[hback.1];exact hR1
   ·simp+decide (disch:=first|omega|rfl|(simp+decide only[go_sem,hh3,hh5,true_and,and_true,hnv,List.append_assoc]<;>rfl)|fail) only[go_sem,hh3,hh5,true_and,and_true,hnv,List.append_assoc]
  ·have hb2:sq.2.2=0:=by omega
   rw[hcar,hb2]at hsq
   obtain⟨hR1,hR2⟩:=Qaeq (S:=val sq.1) (d:=d) (by omega) hdW
   have hback:=Qs2 (q:=d) (R:=sq.1) hpl hpost0 Qc5 hvl2 hR2
   simp+decide (disch:=first|omega|rfl|(simp+decide only[go_sem,Qgb,hJ7,hJ9,hJ10,hF2,hF3,hF5,hF6,hh3,hh5,hh7,hhB,hh18,e2,hnv,e5,Qol,Nat.mod_eq_of_lt hd65,hk7]<;>rfl)|fail) only[go_sem,Qgb,hJ7,hJ9,hJ10,hF2,hF3,hF5,hF6,hh3,hh5,hh7,hhB,hh18,e2,hnv,e5,Qol,Nat.mod_eq_of_lt hd65,hk7]
   refine Qab j (by omega) ⟨pre++(sq.1++post),d::qs,by simp;omega,?_,?_,?_,?_,hback.2,?_⟩
   ·rw[Qbw,Qbw];exact⟨hpre,hsl,hpost⟩
   ·simp;omega
   ·rw[Qax];exact⟨hd65,hqs⟩
   ·rw[hback.1];exact hR1
   ·simp+decide (disch:=first|omega|rfl|(simp+decide only[go_sem,hh3,hh5,true_and,and_true,hnv,List.append_assoc]<;>rfl)|fail) only[go_sem,hh3,hh5,true_and,and_true,hnv,List.append_assoc]
 ·obtain rfl:k=0:=by omega
  rw[List.drop_zero]at hred
  rw[Nat.pow_zero,Nat.one_mul]at Qc5
  have hdiv:val u/val v=val qs:=by
   rw[Qc5,Nat.add_mul_div_left _ _ hvp,Nat.div_eq_of_lt hred,Nat.zero_add]
  have hmod:val u%val v=val l:=by
   rw[Qc5,Nat.add_mul_mod_self_left,Nat.mod_eq_of_lt hred]
  simp+decide (disch:=first|omega|rfl|(simp+decide only[go_sem,hJ7,hh7,hhB,hh18,hh3,hh5,hF2,hF3,hF5,hF6,List.replicate_zero,List.nil_append]<;>rfl)|fail) only[go_sem,hJ7,hh7,hhB,hh18,hh3,hh5,hF2,hF3,hF5,hF6,List.replicate_zero,List.nil_append]
  refine Qdj hP (Qa8 hqs (by omega)) (Qjs (ty:=155) (fz:=false) (by simp+decide (disch:=first|omega|rfl|(simp+decide only[go_sem,hh18,List.replicate_zero,List.nil_append]<;>rfl)|fail) only[go_sem,hh18,List.replicate_zero,List.nil_append]) (by omega)) rfl ?_
  simp+decide (disch:=try exact D0) only[go_sem]
  refine Q17 (xs':=Qa3 (l++ex)) (p:=PV.num (val qs)) ?_ (Qet _) (by simp;omega) T0 rfl ⟨by rw[hdiv],l,rfl,hl,hll,hmod.symm⟩
  show FW.Q9 h [18] 1000000=_
  simp only[FW.Q9]
  rw[if_neg (by decide),hhB]
theorem Qzz{a:List Nat}{s:Nat}(ha:Qj a)(hla:a.length<2^40)(hs:s<=15):Qd Tryz.prog 221 [PV.nat a,.int .i64 (-(s:Int))] (· =PV.num (val a/2^s)):=by
 have hda:=Qam ha
 unfold nl at hda
 by_cases h0:val a=0
 ·refine Qi Qt Tryz.func221 rfl Qsf (by simp[Qp3]) fun C hP=> ?_;simp only[Qp3,Zo,Zg,Zm,Zc,Zf,Zl,Zh,Zs,Zi,Zb,Zk,Zn,Zu,Zq,Zr,Zz]
  simp+decide (disch:=try exact D0) only[go_sem]
  refine Qa hP (Qa8 ha (by omega)) rfl rfl rfl ?_
  simp+decide (disch:=try exact D0) only[go_sem]
  refine Qa9 (fun hz=>by omega) (fun hz=> ?_)
  simp+decide (disch:=try exact D0) only[go_sem]
  refine Qa9 (fun hz=>by omega) (fun hz=> ?_)
  simp+decide (disch:=try exact D0) only[go_sem]
  refine Qb (fun hz=> ?_) (fun hz=>absurd (by rw[h0,Qa2];rfl) hz)
  simp+decide (disch:=try exact D0) only[go_sem]
  exact Qhu (Qlk (by simp[h0])) rfl
 by_cases hs0:s=0
 ·subst hs0
  have:=(Qku (s:=0) ha hla (by omega) h0).toV
  rw[Nat.pow_zero,Nat.mul_one]at this
  rw[Nat.pow_zero,Nat.div_one]
  exact this
 have hnz:(dig (val a)).length≠0:=fun h=>h0 (Qbm.1 (Qc3 h))
 refine Qi Qt Tryz.func221 rfl Qsf (by simp[Qp3]) fun C hP=> ?_;simp only[Qp3,Zo,Zg,Zm,Zc,Zf,Zl,Zh,Zs,Zi,Zb,Zk,Zn,Zu,Zq,Zr,Zz]
 simp+decide (disch:=try exact D0) only[go_sem]
 refine Qa hP (Qa8 ha (by omega)) rfl rfl rfl ?_
 simp+decide (disch:=try exact D0) only[go_sem]
 refine Qa9 (fun hz=>by omega) (fun hz=> ?_)
 simp+decide (disch:=try exact D0) only[go_sem]
 refine Qa9 (fun hz=>by omega) (fun hz=> ?_)
 simp+decide (disch:=try exact D0) only[go_sem]
 refine Qb (fun hz=>by omega) (fun hz=> ?_)
 simp+decide (disch:=try exact D0) only[go_sem]
 refine Qb (fun hz=> ?_) (fun hz=>by omega)
 have e:(0:Int)- -(s:Int)=(s:Nat):=by omega
 simp+decide (disch:=try exact D1 e) only[go_sem,e]
 refine Qa hP (Qzx (Ql (val a)) (by omega) hs) rfl rfl rfl ?_
 simp+decide (disch:=first|omega|rfl|(simp+decide only[go_sem,Q5]<;>rfl)|fail) only[go_sem,Q5]
 exact Qc rfl rfl
theorem Qz0{x d:Nat}(hx:(dig x).length<2^42)(hd:0<d)(hd2:d<65536):Qd Tryz.prog 219 [PV.num x,.int .u16 d] (· = .tup [PV.num (x/d),.int .u16 (x%d:Nat)]):=by
 have:=Qw9 (Ql x) hx hd hd2
 rwa[Q5]at this
theorem Qkw{a b:List Nat}(ha:Qj a)(hb:Qj b)(hla:a.length<2^38)(hlb:b.length<2^38):Qd Tryz.prog 192 [PV.nat a,PV.nat b]
  (· =if val b=0 then .tup [PV.num 0,PV.num 0,.int .i64 3]else .tup [PV.num (val a/val b),PV.num (val a%val b),.int .i64 0]):=by
 have hda:=Qam ha
 have hdb:=Qam hb
 unfold nl at hda hdb
 refine Qi Qt Tryz.func192 rfl Qaav (by simp[Q6k]) fun C hP=> ?_;simp only[Q6k,Zo,Zg,Zm,Zc,Zf,Zl,Zh,Zs,Zi,Zb,Zk,Zn,Zu,Zq,Zr,Zz]
 simp+decide (disch:=try exact D0) only[go_sem]
 refine Qa hP (Qa8 ha (by omega)) rfl rfl rfl ?_
 simp+decide (disch:=try exact D0) only[go_sem]
 refine Qa hP (Qa8 hb (by omega)) rfl rfl rfl ?_
 simp+decide (disch:=try exact D0) only[go_sem]
 have hxl:=Ql (val a)
 have hyl:=Ql (val b)
 have hxv:=Q5 (val a)
 have hyv:=Q5 (val b)
 have hylast:=Qjr (val b)
 generalize val a=x at *
 generalize val b=y at *
 refine Qb (fun hz=> ?_) (fun hz=> ?_)
 ·have hy0:y=0:=Qbm.1 (Qc3 (by omega))
  simp+decide (disch:=try exact D0) only[go_sem]
  rw[if_pos hy0]
  exact Qmc rfl rfl rfl rfl Qhv Qhv (Qy _)
 have hy0:y≠0:=fun h=>by rw[h,Qa2]at hz;simp at hz
 rw[if_neg hy0]
 simp+decide (disch:=try exact D0) only[go_sem]
 refine Qa hP (Qmq hxl hyl (by omega) (by omega)) rfl rfl rfl ?_
 simp+decide (disch:=try exact D2 hxv hyv) only[go_sem,hxv,hyv]
 refine Qb (fun hc=> ?_) (fun hc=> ?_)
 ·have hlt:x<y:=by
   unfold Qdz at hc;split at hc
   ·assumption
   ·split at hc<;>omega
  simp+decide (disch:=try exact D0) only[go_sem]
  refine Qa hP (Qim hxl (by omega)) rfl rfl rfl ?_
  simp+decide (disch:=try exact D1 hxv) only[go_sem,hxv]
  exact Qmc rfl rfl rfl rfl (Qlk (Nat.div_eq_of_lt hlt)) (Qgv (by rw[Nat.mod_eq_of_lt hlt])) (Qy _)
 have hge:y<=x:=by
  unfold Qdz at hc;split at hc<;>omega
 simp+decide (disch:=try exact D0) only[go_sem]
 refine Qb (fun h1=> ?_) (fun h1=> ?_)
 ·obtain⟨d,hd⟩:∃d,dig y=[d]:=by
   match h:dig y,h1 with
   | [d],_=>exact⟨d,rfl⟩
   | [],h1=>simp at h1
   |_::_::_,h1=>simp at h1;omega
  have hyd:y=d:=by rw[<-hyv,hd];simp[val]
  have hd1:d<65536:=by rw[hd]at hyl;exact hyl d (by simp)
  simp+decide (disch:=first|omega|rfl|(simp+decide only[go_sem,hd,List.map_cons,List.map_nil,List.length_cons,List.length_nil]<;>rfl)|fail) only[go_sem,hd,List.map_cons,List.map_nil,List.length_cons,List.length_nil]
  refine Qa hP (Qz0 (x:=x) (d:=d) (by omega) (by omega) hd1) (by rw[PV.num];rfl) rfl rfl ?_
  have hm:x%d<18446744073709551616:=by have:=Nat.mod_lt x (show 0<d by omega);omega
  simp+decide (disch:=try exact D0) only[go_sem]
  refine Qa hP (Qor hm) rfl rfl rfl ?_
  simp+decide (disch:=try exact D0) only[go_sem]
  rw[hyd]
  exact Qmc rfl rfl rfl rfl (Qy _) (Qy _) (Qy _)
 obtain⟨n,hn⟩:∃n,(dig y).length=n+2:=⟨(dig y).length-2,by omega⟩
 obtain⟨m,hm⟩:∃m,(dig x).length=m+2:=by
  have:=Qb0 hge
  unfold nl at this
  exact⟨(dig x).length-2,by omega⟩
 have e1:((n+2:Nat):Int)-1=((n+1:Nat):Int):=by omega
 have hlast:(dig y)[n+1]'(by omega)≠0:=by
  intro h;apply hylast
  have:(dig y).getLast? =some ((dig y)[n+1]'(by omega)):=by
   rw[List.getLast?_eq_getElem?,show(dig y).length-1=n+1 by omega];exact List.getElem?_eq_getElem _
  rw[this,h]
 have hy1:=Qal hyl (show n+1<(dig y).length by omega)
 have hdyv:val (dig y)=y:=Q5 y
 generalize hyi:(dig y)[n+1]'(by omega)=yi at *
 have hbl:=Qkv hy1
 have hbp:=Qms hy1 hlast
 obtain⟨htp,htp2⟩:=Qzy _ yi rfl hlast hy1
 obtain⟨s,hs,hs15⟩:∃s,16-Lib.bitLen yi=s/\s<=15:=⟨_,rfl,by omega⟩
 simp+decide (disch:=try exact D3 hn e1 hyi) only[go_sem,hn,e1,hyi]
 refine Qa hP (Qne hy1) rfl rfl rfl ?_
 simp+decide (disch:=try exact D1 hs) only[go_sem,hs]
 have hso:=Qku (a:=dig x) (s:=s) hxl (by omega) hs15 (by rw[hxv];omega)
 refine Qaek hP hso rfl rfl rfl (by decide) ?_
 rintro _ _ rfl
 rw[hxv]
 have hDl:(dig (x*2^s)).length<=m+3:=by
  have h1:=Qfy x (2^s)
  have h2:nl (2^s)<=1:=Qfv.2 (by have:2^s<=2^15:=Nat.pow_le_pow_right (by omega) hs15;omega)
  unfold nl at h1 h2;omega
 have hDl2:m+2<=(dig (x*2^s)).length:=by
  have:=Qb0 (show x<=x*2^s from Nat.le_mul_of_pos_right _ (Nat.pow_pos (by omega)))
  unfold nl at this;omega
 simp+decide (disch:=try exact D1 hm) only[go_sem,hm]
 rw[Qmb (ys:=Qa3 [0,0]) (xs:=Qa3 (dig (x*2^s))) (by simp+decide (disch:=first|omega|rfl|(simp+decide only[go_sem,Qc1]<;>rfl)|fail) only[go_sem,Qc1];rfl) T0 (by omega) (by simp) (by simp;omega) (by simp;omega)]
 rw[List.take_of_length_le (by simp),<-List.map_append]
 simp+decide (disch:=first|omega|rfl|(simp+decide only[go_sem,hm,List.length_cons,List.length_nil]<;>rfl)|fail) only[go_sem,hm,List.length_cons,List.length_nil]
 have hsoy:=(Qku (a:=dig y) (s:=s) hyl (by omega) hs15 (by rw[hyv];omega)).toV
 rw[hyv]at hsoy
 refine Qa hP hsoy rfl rfl rfl ?_
 obtain⟨g1,g2⟩:=Q2j hs15 (by rw[show 16-s=Lib.bitLen yi by omega];exact htp) (by rw[show 16-s=Lib.bitLen yi by omega];exact htp2)
 obtain⟨hYl,hYt,hYge⟩:=Qw5 hn hyi g1 g2
 have hnm:n<=m:=by have:=Qb0 hge;unfold nl at this;omega
 obtain⟨u,ex,hu1,hu2,hu3,hu4,hu5,hu6⟩:=Qw6 (s:=s) hm hs15 hnm hYge
 have hdm1:x*2^s/(y*2^s)=x/y:=Nat.mul_div_mul_right _ _ (Nat.pow_pos (by omega))
 have hdm2:x*2^s%(y*2^s)=x%y*2^s:=Nat.mul_mod_mul_right _ _ _
 rw[hu1]
 simp+decide (disch:=try exact D0) only[go_sem]
 have hlg:=Q2u (u:=u) (v:=dig (y*2^s)) (ex:=ex) hu3 (Ql _) (by omega) (by omega) (by rw[hYl];exact hYt) (by rw[hYl,hu2,Q5];exact hu6) (by omega)
 rw[hu2,hu4,Q5,hdm1,hdm2]at hlg
 refine Qqu hP hlg (β:=52) T0 (Qet _) (by simp;omega) (by simp[toB]) rfl ?_
 rintro _ _ _ _ ⟨rfl,l,rfl,hl1,hl2,hl3⟩
 have e5:IntKind.i64.wrap (0-(s:Int))= -(s:Int):=by rw[Qgt (by omega) (by omega)];omega
 have htk:(Qa3 (l++ex)).take (m+2+1)=Qa3 l:=by rw[<-List.map_take,show m+2+1=l.length by omega,List.take_left]
 simp+decide (disch:=first|omega|rfl|(simp+decide only[go_sem,Qgb]<;>rfl)|fail) only[go_sem,Qgb]
 refine Qdj hP (Qa8 hl1 (by omega)) (by simp[Q8,Qaq,isY,Qg,<-List.map_append,htk]) rfl ?_
 simp+decide (disch:=try exact D1 e5) only[go_sem,e5]
 rw[hl3]
 have hsb:=Qzz (a:=dig (x%y*2^s)) (s:=s) (Ql _) (by have:=Qb0 (show x%y*2^s<=x*2^s from Nat.mul_le_mul_right _ (Nat.mod_le _ _));unfold nl at this;omega) hs15
 rw[Q5,Nat.mul_div_cancel _ (Nat.pow_pos (by omega))]at hsb
 refine Qa hP hsb rfl rfl rfl ?_
 simp+decide (disch:=try exact D0) only[go_sem]
 exact Qmc rfl rfl rfl rfl (Qy _) (Qy _) (Qy _)
theorem Qvw{a b:List Nat}(ha:Qj a)(hb:Qj b)(hla:a.length<2^38)(hlb:b.length<2^38):Qd Tryz.prog 186 [PV.nat a,PV.nat b] (· =PV.num (Nat.gcd (val a) (val b))):=by
 have hda:=Qam ha
 have hdb:=Qam hb
 unfold nl at hda hdb
 refine Qi Qt Tryz.func186 rfl Qaaz (by simp[Q6o]) fun C hP=> ?_;simp only[Q6o,Zo,Zg,Zm,Zc,Zf,Zl,Zh,Zs,Zi,Zb,Zk,Zn,Zu,Zq,Zr,Zz]
 simp+decide (disch:=try exact D0) only[go_sem]
 refine Qa hP (Qim ha (by omega)) rfl rfl rfl ?_
 simp+decide (disch:=try exact D0) only[go_sem]
 refine Qa hP (Qim hb (by omega)) rfl rfl rfl ?_
 simp+decide (disch:=try exact D0) only[go_sem]
 refine Qai (by repeat (first|exact Qw|exact Qo|exact Qp|exact Qq|exact Qr|apply Qn|apply Qv|apply Qz|apply Q6|apply Q7|apply Qk)) [(0,1),(4,11),(16,49)] [] (fun m J hp=>∃x y,m=y/\Nat.gcd x y=Nat.gcd (val a) (val b)/\(dig x).length<2^38/\(dig y).length<2^38/\J 0=PV.num x/\J 1=PV.num y/\hp=hp0) (val b) ?_ ?_
 ·refine⟨val a,val b,rfl,rfl,by omega,by omega,?_⟩
  simp+decide (disch:=try exact D2 true_and and_true) only[go_sem,true_and,and_true]
 rintro y J _ ⟨x,_,rfl,hg,hx,hy,h0,h1,rfl⟩
 generalize Nat.gcd (val a) (val b)=g at *
 simp+decide (disch:=try exact D2 h0 h1) only[go_sem,h0,h1]
 refine Qb (fun hc=> ?_) (fun hc=> ?_)
 ·have hy0:y≠0:=fun h=>by rw[h,Qa2]at hc;simp at hc
  have hmod:(dig (x%y)).length<2^38:=by
   have:=Qb0 (Nat.le_of_lt (Nat.mod_lt x (Nat.pos_of_ne_zero hy0)));unfold nl at this;omega
  simp+decide (disch:=try exact D2 h0 h1) only[go_sem,h0,h1]
  refine Qa hP (Qnw (Ql x) (by omega)) rfl rfl rfl ?_
  simp+decide (disch:=try exact D2 h0 h1) only[go_sem,h0,h1]
  rw[Q5]
  by_cases hs1:nl x<=4
  ·have hxs:=Qj7.1 hs1
   rw[if_pos hs1]
   simp+decide (disch:=try exact D2 h0 h1) only[go_sem,h0,h1]
   refine Qa hP (Qnw (Ql y) (by omega)) rfl rfl rfl ?_
   rw[Q5]
   by_cases hs2:nl y<=4
   ·have hys:=Qj7.1 hs2
    rw[if_pos hs2]
    simp+decide (disch:=try exact D2 h0 h1) only[go_sem,h0,h1]
    refine Qai (by repeat (first|exact Qw|exact Qo|exact Qp|exact Qq|exact Qr|apply Qn|apply Qv|apply Qz|apply Q6|apply Q7|apply Qk)) [(5,5),(7,7),(33,38)] [] (fun m J hp=>∃p q,m=q/\Nat.gcd p q=g/\p<18446744073709551616/\q<18446744073709551616/\J 5= .int .u64 p/\J 7= .int .u64 q/\hp=hp0) y ?_ ?_
    ·refine⟨x,y,rfl,hg,hxs,hys,?_⟩
     simp+decide (disch:=try exact D2 true_and and_true) only[go_sem,true_and,and_true]
    rintro q J2 _ ⟨p,_,rfl,hg2,hp1,hp2,h5,h7,rfl⟩
    simp+decide (disch:=try exact D2 h5 h7) only[go_sem,h5,h7]
    refine Qb (fun hq=> ?_) (fun hq=> ?_)
    ·have hq0:0<q:=by omega
     simp+decide (disch:=first|omega|rfl|(simp+decide only[go_sem,h5,h7,Qd5]<;>rfl)|fail) only[go_sem,h5,h7,Qd5]
     refine Qab (p%q) (Nat.mod_lt _ hq0) ⟨q,p%q,rfl,?_,hp2,?_,?_⟩
     ·rw[<-hg2,Nat.gcd_comm p q,Nat.gcd_rec q p,Nat.gcd_comm]
     ·have:=Nat.mod_lt p hq0;omega
     ·simp+decide (disch:=try exact D2 true_and and_true) only[go_sem,true_and,and_true]
    ·obtain rfl:q=0:=by omega
     simp+decide (disch:=try exact D2 h5 h7) only[go_sem,h5,h7]
     refine Qa hP (Qor hp1) rfl rfl rfl ?_
     simp+decide (disch:=try exact D0) only[go_sem]
     exact Qc (by rw[<-hg2,Nat.gcd_zero_right]) rfl
   ·rw[if_neg hs2]
    simp+decide (disch:=try exact D2 h0 h1) only[go_sem,h0,h1]
    refine Qa hP (Qkw (Ql x) (Ql y) (by omega) (by omega)) rfl rfl rfl ?_
    rw[Q5,Q5,if_neg hy0]
    simp+decide (disch:=try exact D2 h0 h1) only[go_sem,h0,h1]
    refine Qab (x%y) (Nat.mod_lt _ (Nat.pos_of_ne_zero hy0)) ⟨y,x%y,rfl,?_,hy,hmod,?_⟩
    ·rw[<-hg,Nat.gcd_comm x y,Nat.gcd_rec y x,Nat.gcd_comm]
    ·simp+decide (disch:=try exact D2 true_and and_true) only[go_sem,true_and,and_true]
  ·rw[if_neg hs1]
   simp+decide (disch:=try exact D2 h0 h1) only[go_sem,h0,h1]
   refine Qa hP (Qnw (Ql y) (by omega)) rfl rfl rfl ?_
   obtain⟨r1,r2,hr⟩:∃r1 r2,(if nl (val (dig y))<=4 then PV.tup [.int .u64 (val (dig y)),.bool true]else .tup [.int .u64 0,.bool false])= .tup [.int .u64 r1,.bool r2]:=by
    split<;>exact⟨_,_,rfl⟩
   rw[hr]
   simp+decide (disch:=try exact D2 h0 h1) only[go_sem,h0,h1]
   refine Qa hP (Qkw (Ql x) (Ql y) (by omega) (by omega)) rfl rfl rfl ?_
   rw[Q5,Q5,if_neg hy0]
   simp+decide (disch:=try exact D2 h0 h1) only[go_sem,h0,h1]
   refine Qab (x%y) (Nat.mod_lt _ (Nat.pos_of_ne_zero hy0)) ⟨y,x%y,rfl,?_,hy,hmod,?_⟩
   ·rw[<-hg,Nat.gcd_comm x y,Nat.gcd_rec y x,Nat.gcd_comm]
   ·simp+decide (disch:=try exact D2 true_and and_true) only[go_sem,true_and,and_true]
 ·have hy0:y=0:=Qbm.1 (Qc3 (by omega))
  subst hy0
  simp+decide (disch:=try exact D1 h0) only[go_sem,h0]
  exact Qc (by rw[<-hg,Nat.gcd_zero_right]) rfl
theorem Qfl(n:Bool)(x:Nat):Qd Tryz.prog 188 [.bool n,PV.num x] (· =PV.zz (if n then -(x:Int)else x)):=by
 refine Qi Qt Tryz.func188 rfl Qaa3 (by simp[Q6s]) fun C hP=> ?_;simp only[Q6s,Zo,Zg,Zm,Zc,Zf,Zl,Zh,Zs,Zi,Zb,Zk,Zn,Zu,Zq,Zr,Zz]
 simp+decide (disch:=try exact D0) only[go_sem]
 refine Qf8 (fun hn=> ?_) (fun hn=> ?_)
 all_goals
  simp+decide (disch:=try exact D0) only[go_sem]
  refine Qa1 ?_
  simp+decide (disch:=try exact D0) only[go_sem]
  exact Qc (by rw[<-Qsb,hn];simp) rfl
theorem Q2v{n:Bool}{a:List Nat}(ha:Qj a)(hla:a.length<2^42):Qd Tryz.prog 217 [.bool n,PV.nat a] (· =PV.zz (zv n a)):=by
 refine Qi Qt Tryz.func217 rfl Qaa2 (by simp[Q6r]) fun C hP=> ?_;simp only[Q6r,Zo,Zg,Zm,Zc,Zf,Zl,Zh,Zs,Zi,Zb,Zk,Zn,Zu,Zq,Zr,Zz]
 simp+decide (disch:=try exact D0) only[go_sem]
 refine Qa hP (Qim ha hla) rfl rfl rfl ?_
 simp+decide (disch:=try exact D0) only[go_sem]
 refine Qf8 (fun hn=> ?_) (fun hn=> ?_)
 all_goals
  simp+decide (disch:=try exact D0) only[go_sem]
  refine Qa1 ?_
  simp+decide (disch:=try exact D0) only[go_sem]
  exact Qc (by have:=Qsb n (val a);rw[hn]at this;subst hn;simpa[zv]using this) rfl
theorem Qxc{n:Bool}{a:List Nat}(ha:Qj a)(hla:a.length<2^42):Qd Tryz.prog 191 [PV.zi n a] (· =PV.zz (zv n a)):=by
 refine Qi Qt Tryz.func191 rfl Qaa5 (by simp[Q6u]) fun C hP=> ?_;simp only[Q6u,Zo,Zg,Zm,Zc,Zf,Zl,Zh,Zs,Zi,Zb,Zk,Zn,Zu,Zq,Zr,Zz]
 simp+decide (disch:=try exact D0) only[go_sem]
 refine Qa hP (Q2v ha hla) rfl rfl rfl ?_
 simp+decide (disch:=try exact D0) only[go_sem]
 refine Qa1 ?_
 simp+decide (disch:=try exact D0) only[go_sem]
 exact Qc rfl rfl
theorem Qh5{n:Bool}{a:List Nat}(ha:Qj a)(hla:a.length<2^40):Qd Tryz.prog 109 [PV.zi n a] (· = .int .i64 (sgn (zv n a))):=by
 refine Qi Qt Tryz.func109 rfl Qaa7 (by simp[Q6w]) fun C hP=> ?_;simp only[Q6w,Zo,Zg,Zm,Zc,Zf,Zl,Zh,Zs,Zi,Zb,Zk,Zn,Zu,Zq,Zr,Zz]
 simp+decide (disch:=try exact D0) only[go_sem]
 refine Qcs hP (Qtd ha hla) rfl rfl rfl ?_
 rintro _ ⟨k,rfl,hk⟩
 simp+decide (disch:=try exact D0) only[go_sem]
 rw[Qvh]
 refine Qb (fun hz=> ?_) (fun hz=> ?_)
 ·simp+decide (disch:=try exact D0) only[go_sem]
  rw[if_pos (hk.1 (by omega))]
  exact Qc rfl rfl
 ·rw[if_neg (fun h=>hz (by rw[hk.2 h];rfl))]
  simp+decide (disch:=try exact D0) only[go_sem]
  refine Qig (fun hn=> ?_) (fun hn=> ?_)
  ·simp+decide (disch:=try exact D0) only[go_sem]
   exact Qc (by simp[hn]) rfl
  ·simp+decide (disch:=try exact D0) only[go_sem]
   exact Qc (by simp[hn]) rfl
theorem Qpg{a b:List Nat}(ha:Qj a)(hb:Qj b)(hla:a.length<2^40)(hlb:b.length<2^40):Qd Tryz.prog 233 [PV.nat a,PV.nat b] (· = .int .i64 (Qdz (val a) (val b))):=by
 refine Qi Qt Tryz.func233 rfl Qaa9 (by simp[Q6y]) fun C hP=> ?_;simp only[Q6y,Zo,Zg,Zm,Zc,Zf,Zl,Zh,Zs,Zi,Zb,Zk,Zn,Zu,Zq,Zr,Zz]
 simp+decide (disch:=try exact D0) only[go_sem]
 refine Qa hP (Qmq ha hb hla hlb) rfl rfl rfl ?_
 simp+decide (disch:=try exact D0) only[go_sem]
 exact Qc rfl rfl
theorem Qz1{n m:Bool}{a b:List Nat}(ha:Qj a)(hb:Qj b)(hla:a.length<2^40)(hlb:b.length<2^40):Qd Tryz.prog 224 [PV.zi n a,PV.zi m b] (· = .int .i64 (Qfa (zv n a) (zv m b))):=by
 have hx:=Qvh n a
 have hy:=Qvh m b
 refine Qi Qt Tryz.func224 rfl Qaa8 (by simp[Q6x]) fun C hP=> ?_;simp only[Q6x,Zo,Zg,Zm,Zc,Zf,Zl,Zh,Zs,Zi,Zb,Zk,Zn,Zu,Zq,Zr,Zz]
 simp+decide (disch:=try exact D0) only[go_sem]
 refine Qa hP (Qh5 ha hla) rfl rfl rfl ?_
 simp+decide (disch:=try exact D0) only[go_sem]
 refine Qa hP (Qh5 hb hlb) rfl rfl rfl ?_
 simp+decide (disch:=try exact D0) only[go_sem]
 refine Qb (fun hs=> ?_) (fun hs=> ?_)
 ·simp+decide (disch:=try exact D0) only[go_sem]
  exact Qc (by rw[Qaac hs]) rfl
 simp+decide (disch:=try exact D0) only[go_sem]
 refine Qb (fun hs2=> ?_) (fun hs2=> ?_)
 ·simp+decide (disch:=try exact D0) only[go_sem]
  exact Qc (by rw[Qaad hs2]) rfl
 have he:sgn (zv n a)=sgn (zv m b):=by omega
 simp+decide (disch:=try exact D0) only[go_sem]
 refine Qb (fun hs3=> ?_) (fun hs3=> ?_)
 ·simp+decide (disch:=try exact D0) only[go_sem]
  refine Qa hP (Qpg hb ha hlb hla) rfl rfl rfl ?_
  simp+decide (disch:=try exact D0) only[go_sem]
  exact Qc (by rw[Qaae (Qlo.1 hs3) (Qlo.1 (he▸hs3))]) rfl
 ·simp+decide (disch:=try exact D0) only[go_sem]
  refine Qa hP (Qpg ha hb hla hlb) rfl rfl rfl ?_
  simp+decide (disch:=try exact D0) only[go_sem]
  exact Qc (by rw[Qaaf (fun h=>hs3 (Qlo.2 h)) (fun h=>hs3 (he▸Qlo.2 h))]) rfl
theorem Qq7{n m:Bool}{a b:List Nat}(ha:Qj a)(hb:Qj b)(hla:a.length<2^40)(hlb:b.length<2^40):Qd Tryz.prog 213 [PV.zi n a,PV.zi m b] (· =PV.zz (zv n a+zv m b)):=by
 refine Qi Qt Tryz.func213 rfl Qaba (by simp[Q6z]) fun C hP=> ?_;simp only[Q6z,Zo,Zg,Zm,Zc,Zf,Zl,Zh,Zs,Zi,Zb,Zk,Zn,Zu,Zq,Zr,Zz]
 simp+decide (disch:=try exact D0) only[go_sem]
 refine Qig (fun hnm=> ?_) (fun hnm=> ?_)
 ·have hnm:n=m:=by simpa using hnm
  subst hnm
  simp+decide (disch:=try exact D0) only[go_sem]
  refine Qa hP (Q7g ha hb hla hlb) rfl rfl rfl ?_
  simp+decide (disch:=try exact D0) only[go_sem]
  refine Qa hP (Qfl n (val a+val b)) rfl rfl rfl ?_
  simp+decide (disch:=try exact D0) only[go_sem]
  refine Qa1 ?_
  simp+decide (disch:=try exact D0) only[go_sem]
  exact Qc (congrArg PV.zz (by unfold zv;split<;>simp<;>omega)) rfl
 have hnm:n= !m:=by cases n<;>cases m<;>simp_all
 subst hnm
 simp+decide (disch:=try exact D0) only[go_sem]
 refine Qa hP (Qmq ha hb hla hlb) rfl rfl rfl ?_
 simp+decide (disch:=try exact D0) only[go_sem]
 refine Qb (fun hc=> ?_) (fun hc=> ?_)
 ·rw[Qmj]at hc
  simp+decide (disch:=try exact D0) only[go_sem]
  refine Qa hP (Qvu hb ha hlb hla (by omega)) rfl rfl rfl ?_
  simp+decide (disch:=try exact D0) only[go_sem]
  refine Qa hP (Qfl m (val b-val a)) rfl rfl rfl ?_
  simp+decide (disch:=try exact D0) only[go_sem]
  refine Qa1 ?_
  simp+decide (disch:=try exact D0) only[go_sem]
  exact Qc (congrArg PV.zz (by unfold zv;cases m<;>simp<;>omega)) rfl
 ·rw[Qmj]at hc
  simp+decide (disch:=try exact D0) only[go_sem]
  refine Qa hP (Qvu ha hb hla hlb (by omega)) rfl rfl rfl ?_
  simp+decide (disch:=try exact D0) only[go_sem]
  refine Qa hP (Qfl (!m) (val a-val b)) rfl rfl rfl ?_
  simp+decide (disch:=try exact D0) only[go_sem]
  refine Qa1 ?_
  simp+decide (disch:=try exact D0) only[go_sem]
  exact Qc (congrArg PV.zz (by unfold zv;cases m<;>simp<;>omega)) rfl
theorem Qd1{n m:Bool}{a b:List Nat}(ha:Qj a)(hb:Qj b)(hla:a.length<2^40)(hlb:b.length<2^40):Qd Tryz.prog 173 [PV.zi n a,PV.zi m b] (· =PV.zz (zv n a*zv m b)):=by
 refine Qi Qt Tryz.func173 rfl Qabb (by simp[Q60]) fun C hP=> ?_;simp only[Q60,Zo,Zg,Zm,Zc,Zf,Zl,Zh,Zs,Zi,Zb,Zk,Zn,Zu,Zq,Zr,Zz]
 simp+decide (disch:=try exact D0) only[go_sem]
 refine Qa hP (Qmr ha hb hla hlb) rfl rfl rfl ?_
 simp+decide (disch:=try exact D0) only[go_sem]
 refine Qa hP (Qfl (!(n==m)) (val a*val b)) rfl rfl rfl ?_
 simp+decide (disch:=try exact D0) only[go_sem]
 refine Qa1 ?_
 simp+decide (disch:=try exact D0) only[go_sem]
 exact Qc (congrArg PV.zz (by unfold zv;cases n<;>cases m<;>simp[Int.neg_mul,Int.mul_neg])) rfl
theorem Qmt{a:List Nat}(hl:a.length<2^43):Qd Tryz.prog 175 [PV.nat a] (· = .bool (decide (a=[1]))):=by
 refine Qi Qt Tryz.func175 rfl Qabc (by simp[Q61]) fun C hP=> ?_;simp only[Q61,Zo,Zg,Zm,Zc,Zf,Zl,Zh,Zs,Zi,Zb,Zk,Zn,Zu,Zq,Zr,Zz]
 simp+decide (disch:=try exact D0) only[go_sem]
 refine Qb (fun hz=> ?_) (fun hz=> ?_)
 ·obtain⟨x,xs,rfl⟩:∃x xs,a=x::xs:=by
   match a,hz with
   |x::xs,_=>exact⟨x,xs,rfl⟩
  simp+decide (disch:=first|omega|rfl|(simp+decide only[go_sem,List.map_cons,List.getElem_cons_zero]<;>rfl)|fail) only[go_sem,List.map_cons,List.getElem_cons_zero]
  refine Qc (congrArg PV.bool ?_) rfl
  rw[<-Bool.decide_and]
  exact decide_eq_decide.2 ⟨fun⟨h1,h2⟩=>by
   have:xs=[]:=List.length_eq_zero_iff.1 (by omega)
   subst this;congr 1;omega,fun h=>by
   injection h with h1 h2;subst h1 h2;simp⟩
 ·have:a=[]:=List.length_eq_zero_iff.1 (by omega)
  subst this
  simp+decide (disch:=try exact D0) only[go_sem]
  exact Qc rfl rfl
theorem Qph(x:Nat):(dig x=[1])↔x=1:=⟨fun h=>by have:=Q5 x;rw[h]at this;simpa[val]using this.symm,fun h=>by rw[h,Qga]⟩
theorem Qsg{x:Nat}(hl:(dig x).length<2^43):Qd Tryz.prog 175 [PV.num x] (· = .bool (decide (x=1))):=by
 have:=Qmt hl
 rwa[decide_eq_decide.2 (Qph x)]at this
theorem Qkf:Qd Tryz.prog 128 [] (· =PV.nat [1]):=by
 refine Qi Qt Tryz.func128 rfl Qabd (by simp[Q62]) fun C hP=> ?_;simp only[Q62,Zo,Zg,Zm,Zc,Zf,Zl,Zh,Zs,Zi,Zb,Zk,Zn,Zu,Zq,Zr,Zz]
 simp+decide (disch:=try exact D0) only[go_sem]
 exact Qc rfl rfl
theorem Qq8{x y:Nat}(hx:(dig x).length<2^38)(hy:(dig y).length<2^38)(h0:y≠0):Qd Tryz.prog 192 [PV.num x,PV.num y] (· = .tup [PV.num (x/y),PV.num (x%y),.int .i64 0]):=by
 have:=Qkw (Ql x) (Ql y) hx hy
 rwa[Q5,Q5,if_neg h0]at this
theorem Qabr{x y:Nat}(hx:(dig x).length<2^38)(hy:(dig y).length<2^38):Qd Tryz.prog 186 [PV.num x,PV.num y] (· =PV.num (Nat.gcd x y)):=by
 have:=Qvw (Ql x) (Ql y) hx hy
 rwa[Q5,Q5]at this
theorem Qjv{n:Bool}{a d:List Nat}(ha:Qj a)(hd:Qj d)(hla:a.length<2^38)(hld:d.length<2^38):Qd Tryz.prog 129 [PV.zi n a,PV.nat d] (· =PV.rat (rv n a d)):=by
 have hna:=Qam ha
 have hnd:=Qam hd
 rw[<-Qbe n a]at hna
 unfold rv
 unfold nl at hna hnd
 refine Qi Qt Tryz.func129 rfl Qabe (by simp[Q63]) fun C hP=> ?_;simp only[Q63,Zo,Zg,Zm,Zc,Zf,Zl,Zh,Zs,Zi,Zb,Zk,Zn,Zu,Zq,Zr,Zz]
 simp+decide (disch:=try exact D0) only[go_sem]
 refine Qa hP (Qim hd (by omega)) rfl rfl rfl ?_
 simp+decide (disch:=try exact D0) only[go_sem]
 refine Qa hP (Qxc ha (by omega)) rfl rfl rfl ?_
 simp+decide (disch:=try exact D0) only[go_sem]
 generalize zv n a=z at *
 generalize val d=D at *
 have hlen:∀x:Nat,((dig x).length:Int)=0↔x=0:=fun x=>by
  rw[<-Qbm,<-List.length_eq_zero_iff];omega
 have fin0:∀ {fr:Fr} {hp:HP},(D=0∨z=0)->Qr2 (· =PV.rat (mkRat z D)) (.agg [.bool false,.nilS,PV.nat [1]]):=fun h=>by
  rw[Qpb h];exact Qhu Qx8 rfl
 refine Qa9 (fun hz=> ?_) (fun hz=> ?_)
 ·simp+decide (disch:=try exact D0) only[go_sem]
  refine Qa hP Qkf rfl rfl rfl ?_
  simp+decide (disch:=try exact D0) only[go_sem]
  refine Qa1 ?_
  simp+decide (disch:=try exact D0) only[go_sem]
  exact fin0 (fr:=fr0) (hp:=hp0) (.inl ((hlen _).1 hz))
 simp+decide (disch:=try exact D0) only[go_sem]
 refine Qb (fun hz2=> ?_) (fun hz2=> ?_)
 ·simp+decide (disch:=try exact D0) only[go_sem]
  refine Qa hP Qkf rfl rfl rfl ?_
  simp+decide (disch:=try exact D0) only[go_sem]
  refine Qa1 ?_
  simp+decide (disch:=try exact D0) only[go_sem]
  exact fin0 (fr:=fr0) (hp:=hp0) (.inr (Int.natAbs_eq_zero.1 ((hlen _).1 hz2)))
 have hD:D≠0:=fun h=>hz ((hlen _).2 h)
 simp+decide (disch:=try exact D0) only[go_sem]
 refine Qa hP (Qsg (by omega)) rfl rfl rfl ?_
 simp+decide (disch:=try exact D0) only[go_sem]
 refine Qb (fun h1=> ?_) (fun h1=> ?_)
 ·subst h1
  simp+decide (disch:=try exact D0) only[go_sem]
  refine Qa1 ?_
  simp+decide (disch:=try exact D0) only[go_sem]
  exact Qc (by rw[<-Qahb];simp only[Qga]) rfl
 simp+decide (disch:=try exact D0) only[go_sem]
 refine Qa hP (Qabr (by omega) (by omega)) rfl rfl rfl ?_
 have hg0:Nat.gcd z.natAbs D≠0:=fun h=>hD (Nat.eq_zero_of_gcd_eq_zero_right h)
 have hgl:(dig (Nat.gcd z.natAbs D)).length<2^38:=by
  have:=Qb0 (Nat.gcd_le_right z.natAbs (Nat.pos_of_ne_zero hD));unfold nl at this;omega
 have hfin:=Q2m (z:=z) hD
 generalize Nat.gcd z.natAbs D=g at *
 simp+decide (disch:=try exact D0) only[go_sem]
 refine Qa hP (Qsg (by omega)) rfl rfl rfl ?_
 simp+decide (disch:=try exact D0) only[go_sem]
 refine Qig (fun h2=> ?_) (fun h2=> ?_)
 ·simp+decide (disch:=try exact D0) only[go_sem]
  refine Qa hP (Qq8 (by omega) hgl hg0) rfl rfl rfl ?_
  simp+decide (disch:=try exact D0) only[go_sem]
  refine Qa hP (Qq8 (by omega) hgl hg0) rfl rfl rfl ?_
  simp+decide (disch:=try exact D0) only[go_sem]
  refine Qa1 ?_
  simp+decide (disch:=try exact D0) only[go_sem]
  exact Qc hfin rfl
 ·have:g=1:=by simpa using h2
  subst this
  rw[Nat.div_one,Nat.div_one]at hfin
  simp+decide (disch:=try exact D0) only[go_sem]
  refine Qa1 ?_
  simp+decide (disch:=try exact D0) only[go_sem]
  exact Qc hfin rfl
theorem Qej(a:List Nat):Qd Tryz.prog 177 [PV.nat a] (· =PV.zi false a):=by
 refine Qi Qt Tryz.func177 rfl Qabg (by simp[Q65]) fun C hP=> ?_;simp only[Q65,Zo,Zg,Zm,Zc,Zf,Zl,Zh,Zs,Zi,Zb,Zk,Zn,Zu,Zq,Zr,Zz]
 simp+decide (disch:=try exact D0) only[go_sem]
 refine Qa1 ?_
 simp+decide (disch:=try exact D0) only[go_sem]
 exact Qc rfl rfl
def Qae3(k:Nat)(q:Rat)(r:PV):Prop:=∃n a d,r= .tup [PV.zi n a,PV.nat d]/\Qj a/\Qj d/\a.length<=k/\d.length<=k/\val d≠0/\rv n a d=q
theorem Qdp{n:Bool}{a d:List Nat}{k:Nat}(ha:Qj a)(hd:Qj d)(hk:1<=k)(hla:a.length<=k)(hld:d.length<=k)(hk2:k<2^38):Qd Tryz.prog 108 [PV.rr n a d] (Qae3 k (rv n a d)):=by
 refine Qi Qt Tryz.func108 rfl Qabf (by simp[Q64]) fun C hP=> ?_;simp only[Q64,Zo,Zg,Zm,Zc,Zf,Zl,Zh,Zs,Zi,Zb,Zk,Zn,Zu,Zq,Zr,Zz]
 simp+decide (disch:=try exact D0) only[go_sem]
 refine Qcs hP (Qtd hd (by omega)) rfl rfl rfl ?_
 rintro _ ⟨b,rfl,hb⟩
 simp+decide (disch:=try exact D0) only[go_sem]
 refine Qb (fun hz=> ?_) (fun hz=> ?_)
 ·have h0:val d=0:=hb.1 (by omega)
  simp+decide (disch:=try exact D0) only[go_sem]
  refine Qa hP Qkf rfl rfl rfl ?_
  simp+decide (disch:=try exact D0) only[go_sem]
  refine Qb1 ?_
  simp+decide (disch:=try exact D0) only[go_sem]
  refine⟨⟨rfl,rfl⟩,.tup [PV.zi false [],PV.nat [1]],⟨⟨rfl,trivial,trivial⟩,Qy _,trivial⟩,false,[],[1],rfl,Qcy,by intro x hx;simp at hx;omega,by simp,by simpa using hk,by simp[val],?_⟩
  unfold rv;rw[h0,Rat.mkRat_zero];rfl
 ·have h0:val d≠0:=fun h=>hz (by rw[hb.2 h];rfl)
  simp+decide (disch:=try exact D0) only[go_sem]
  refine Qeu ?_ ?_
  all_goals
   simp+decide (disch:=try exact D0) only[go_sem]
   refine Qb1 ?_
   simp+decide (disch:=try exact D0) only[go_sem]
   exact⟨⟨rfl,rfl⟩,.tup [PV.zi n a,PV.nat d],⟨Qy _,Qy _,trivial⟩,n,a,d,rfl,ha,hd,hla,hld,h0,rfl⟩
theorem Q7h{z:Int}{m:Bool}{b:List Nat}(hb:Qj b)(hla:nl z.natAbs<2^40)(hlb:b.length<2^40):Qd Tryz.prog 213 [PV.zz z,PV.zi m b] (· =PV.zz (z+zv m b)):=by
 have:=Qq7 (n:=decide (z<0)) (a:=dig z.natAbs) (m:=m) (Ql _) hb hla hlb
 rwa[Qe9]at this
theorem Qvx{n m:Bool}{a b:List Nat}(ha:Qj a)(hb:Qj b)(hla:a.length<2^39)(hlb:b.length<2^39):Qd Tryz.prog 176 [.sl 2 [PV.zi n a,PV.zi m b]] (· =PV.zz (zv n a+zv m b)):=by
  have hna:=Qam ha
  rw[<-Qbe n a]at hna
  refine Qi Qt Tryz.func176 rfl Qabk (by simp[Q69]) fun C hP=> ?_;simp only[Q69,Zo,Zg,Zm,Zc,Zf,Zl,Zh,Zs,Zi,Zb,Zk,Zn,Zu,Zq,Zr,Zz]
  simp+decide (disch:=try exact D0) only[go_sem]
  refine Qai (by repeat (first|exact Qw|exact Qo|exact Qp|exact Qq|exact Qr|apply Qn|apply Qv|apply Qz|apply Q6|apply Q7|apply Qk)) [(5,5),(8,15)] [5] (fun k J hp=>∃i,k=2-i/\i<=2/\J 8= .int .i64 (i:Nat)/\hp 2=some ⟨2,49,[.agg [.bool false,.nilS]],false⟩/\hp 3=some ⟨2,49,[if i=0 then .agg [.bool false,.nilS]else if i=1 then PV.zz (zv n a)else PV.zz (zv n a+zv m b)],false⟩) 2 ?_ ?_
  · refine⟨0,rfl,by omega,?_⟩
    simp+decide (disch:=try exact D0) only[go_sem]
    simp
  rintro _ J h ⟨i,rfl,hi,h8,hh2,hh3⟩
  simp+decide (disch:=try exact D1 h8) only[go_sem,h8]
  refine Qb (fun hg=> ?_) (fun hg=> ?_)
  · have hi2 : i = 0 ∨ i = 1 := by have:i<2:=by omega
                                   omega
    rcases hi2 with rfl|rfl
    · have h8':J 8= .int .i64 0:=h8
      simp+decide (disch:=try exact D3 h8' hh2 hh3) only[go_sem,h8',hh2,hh3]
      refine Qa hP ((Qq7 (n:=false) (a:=[]) (m:=n) (b:=a) Qcy ha (by simp) (by omega)).le (args':=[.agg [.bool false,.nilS],PV.zi n a]) ⟨⟨rfl,trivial,trivial⟩,Qy _,trivial⟩) rfl rfl rfl ?_
      simp+decide (disch:=try exact D3 h8' hh2 hh3) only[go_sem,h8',hh2,hh3]
      refine Qab 1 (by omega) ⟨1,rfl,by omega,?_⟩
      simp+decide (disch:=try exact D2 hh2 hh3) only[go_sem,hh2,hh3]
      simp[zv,val]
    · rw[if_neg (by omega),if_pos rfl]at hh3
      have h8':J 8= .int .i64 1:=h8
      simp+decide (disch:=try exact D3 h8' hh2 hh3) only[go_sem,h8',hh2,hh3]
      refine Qa hP (Q7h (z:=zv n a) hb (by omega) (by omega)) rfl rfl rfl ?_
      simp+decide (disch:=try exact D3 h8' hh2 hh3) only[go_sem,h8',hh2,hh3]
      refine Qab 0 (by omega) ⟨2,rfl,by omega,?_⟩
      simp+decide (disch:=try exact D2 hh2 hh3) only[go_sem,hh2,hh3]
      simp
  · obtain rfl:i=2:=by simp at hg;omega
    rw[if_neg (by omega),if_neg (by omega)]at hh3
    simp+decide (disch:=try exact D3 h8 hh2 hh3) only[go_sem,h8,hh2,hh3]
    refine Qa1 ?_
    simp+decide (disch:=try exact D2 hh2 hh3) only[go_sem,hh2,hh3]
    exact Qc rfl rfl
theorem Qix{z:Int}{d:List Nat}(hd:Qj d)(hz:nl z.natAbs<2^38)(hld:d.length<2^38):Qd Tryz.prog 129 [PV.zz z,PV.nat d] (· =PV.rat (mkRat z (val d))):=by
 have:=Qjv (n:=decide (z<0)) (Ql z.natAbs) hd hz hld
 rwa[rv,Qe9]at this
theorem Q2w{x y:Int}(hx:nl x.natAbs<2^39)(hy:nl y.natAbs<2^39):Qd Tryz.prog 176 [.sl 2 [PV.zz x,PV.zz y]] (· =PV.zz (x+y)):=by
 have:=Qvx (n:=decide (x<0)) (m:=decide (y<0)) (Ql x.natAbs) (Ql y.natAbs) hx hy
 rwa[Qe9,Qe9]at this
theorem Q7i{x y:Int}(hx:nl x.natAbs<2^40)(hy:nl y.natAbs<2^40):Qd Tryz.prog 224 [PV.zz x,PV.zz y] (· = .int .i64 (Qfa x y)):=by
 have:=Qz1 (n:=decide (x<0)) (m:=decide (y<0)) (Ql x.natAbs) (Ql y.natAbs) hx hy
 rwa[Qe9,Qe9]at this
structure Raw(k:Nat)(n:Bool)(a d:List Nat):Prop where
 la:Qj a
 ld:Qj d
 sa:a.length<=k
 sd:d.length<=k
 k1:1<=k
theorem Qcn{q:Rat}{k:Nat}(h:rs q<=k):Raw k (decide (q.num<0)) (dig q.num.natAbs) (dig q.den):=by
 have:=Qvi q
 unfold rs nl at *
 exact⟨Ql _,Ql _,by omega,by omega,by omega⟩
theorem Raw.rs{n:Bool}{a d:List Nat}{k:Nat}(h:Raw k n a d):FW.rs (rv n a d)<=k:=Q2p (k:=k) (n:=k) h.la h.ld h.sa h.sd h.k1
theorem Qte{n m:Bool}{a d b c:List Nat}{k:Nat}(hp:Raw k n a d)(hq:Raw k m b c)(hk:k<2^36):Qd Tryz.prog 107 [PV.rr n a d,PV.rr m b c] (· =PV.rat (rv n a d+rv m b c)):=by
 refine Qi Qt Tryz.func107 rfl Qabl (by simp[Q7a]) fun C hP=> ?_;simp only[Q7a,Zo,Zg,Zm,Zc,Zf,Zl,Zh,Zs,Zi,Zb,Zk,Zn,Zu,Zq,Zr,Zz]
 simp+decide (disch:=try exact D0) only[go_sem]
 refine Qcs hP (Qdp hp.la hp.ld hp.k1 hp.sa hp.sd (by omega)) rfl rfl rfl ?_
 rintro _ ⟨n',a',d',rfl,g1,g2,g3,g4,g5,g6⟩
 simp+decide (disch:=try exact D0) only[go_sem]
 refine Qcs hP (Qdp hq.la hq.ld hq.k1 hq.sa hq.sd (by omega)) rfl rfl rfl ?_
 rintro _ ⟨m',b',c',rfl,e1,e2,e3,e4,e5,e6⟩
 simp+decide (disch:=try exact D0) only[go_sem]
 refine Qa hP (Qmt (by omega)) rfl rfl rfl ?_
 have key:=Rat.mkRat_add_mkRat (zv n' a') (zv m' b') g5 e5
 have hza:nl (zv n' a').natAbs<=k:=by rw[Qbe];exact Nat.le_trans (Qam g1) g3
 have hzb:nl (zv m' b').natAbs<=k:=by rw[Qbe];exact Nat.le_trans (Qam e1) e3
 have hvd:nl (val d')<=k:=Nat.le_trans (Qam g2) g4
 have hvc:nl (val c')<=k:=Nat.le_trans (Qam e2) e4
 rw[<-g6,<-e6]
 unfold rv
 rw[key]
 simp+decide (disch:=try exact D0) only[go_sem]
 refine Qbq (fun h1=> ?_) (fun h1=> ?_)
 ·simp+decide (disch:=try exact D0) only[go_sem]
  refine Qa hP (Qmt (by omega)) rfl rfl rfl ?_
  simp+decide (disch:=try exact D0) only[go_sem]
  refine Qb (fun h2=> ?_) (fun h2=> ?_)
  ·subst h1 h2
   simp+decide (disch:=try exact D0) only[go_sem]
   refine Qdj hP (Qvx (n:=n') (m:=m') g1 e1 (by omega) (by omega)) U0 rfl ?_
   simp+decide (disch:=try exact E0) only[go_sem,Qac,List.contains_cons,List.contains_nil,List.flatMap_cons,List.flatMap_nil,List.append_nil]
   have hs:=Qfj (zv n' a') (zv m' b')
   refine Qa hP (Qix g2 (by omega) (by omega)) rfl rfl rfl ?_
   simp+decide (disch:=try exact E0) only[go_sem,Qac,List.contains_cons,List.contains_nil,List.flatMap_cons,List.flatMap_nil,List.append_nil]
   refine Qa1 ?_
   simp+decide (disch:=try exact E0) only[go_sem,Qac,List.contains_cons,List.contains_nil,List.flatMap_cons,List.flatMap_nil,List.append_nil]
   exact Qc (congrArg PV.rat (by simp[val])) rfl
  ·simp+decide (disch:=try exact D0) only[go_sem]
   refine Qa hP (Qej _) rfl rfl rfl ?_
   simp+decide (disch:=try exact D0) only[go_sem]
   refine Qa hP (Qd1 (n:=n') (m:=false) g1 e2 (by omega) (by omega)) rfl rfl rfl ?_
   simp+decide (disch:=try exact D0) only[go_sem]
   refine Qa hP (Qej _) rfl rfl rfl ?_
   simp+decide (disch:=try exact D0) only[go_sem]
   refine Qa hP (Qd1 (n:=m') (m:=false) e1 g2 (by omega) (by omega)) rfl rfl rfl ?_
   rw[Qf1,Qf1]
   have h3:=Qar (zv n' a') (val c')
   have h4:=Qar (zv m' b') (val d')
   have h5:=Qfj (zv n' a'*(val c':Int)) (zv m' b'*(val d':Int))
   have h6:=Qfy (val d') (val c')
   rw[Int.natAbs_natCast]at h3 h4
   simp+decide (disch:=try exact D0) only[go_sem]
   refine Qdj hP (Q2w (x:=zv n' a'*(val c':Int)) (y:=zv m' b'*(val d':Int)) (by omega) (by omega)) U0 rfl ?_
   simp+decide (disch:=try exact E0) only[go_sem,Qac,List.contains_cons,List.contains_nil,List.flatMap_cons,List.flatMap_nil,List.append_nil]
   refine Qa hP (Qmr g2 e2 (by omega) (by omega)) rfl rfl rfl ?_
   simp+decide (disch:=try exact E0) only[go_sem,Qac,List.contains_cons,List.contains_nil,List.flatMap_cons,List.flatMap_nil,List.append_nil]
   refine Qa hP (Qix (z:=zv n' a'*(val c':Int)+zv m' b'*(val d':Int)) (Ql _) (by omega) (by show nl _<_;omega)) rfl rfl rfl ?_
   simp+decide (disch:=try exact E0) only[go_sem,Qac,List.contains_cons,List.contains_nil,List.flatMap_cons,List.flatMap_nil,List.append_nil]
   refine Qa1 ?_
   simp+decide (disch:=try exact E0) only[go_sem,Qac,List.contains_cons,List.contains_nil,List.flatMap_cons,List.flatMap_nil,List.append_nil]
   exact Qc (by rw[Q5]) rfl
 · simp+decide (disch:=try exact D0) only[go_sem]
   refine Qa hP (Qej _) rfl rfl rfl ?_
   simp+decide (disch:=try exact D0) only[go_sem]
   refine Qa hP (Qd1 (n:=n') (m:=false) g1 e2 (by omega) (by omega)) rfl rfl rfl ?_
   simp+decide (disch:=try exact D0) only[go_sem]
   refine Qa hP (Qej _) rfl rfl rfl ?_
   simp+decide (disch:=try exact D0) only[go_sem]
   refine Qa hP (Qd1 (n:=m') (m:=false) e1 g2 (by omega) (by omega)) rfl rfl rfl ?_
   rw[Qf1,Qf1]
   have h3:=Qar (zv n' a') (val c')
   have h4:=Qar (zv m' b') (val d')
   have h5:=Qfj (zv n' a'*(val c':Int)) (zv m' b'*(val d':Int))
   have h6:=Qfy (val d') (val c')
   rw[Int.natAbs_natCast]at h3 h4
   simp+decide (disch:=try exact D0) only[go_sem]
   refine Qdj hP (Q2w (x:=zv n' a'*(val c':Int)) (y:=zv m' b'*(val d':Int)) (by omega) (by omega)) U0 rfl ?_
   simp+decide (disch:=try exact E0) only[go_sem,Qac,List.contains_cons,List.contains_nil,List.flatMap_cons,List.flatMap_nil,List.append_nil]
   refine Qa hP (Qmr g2 e2 (by omega) (by omega)) rfl rfl rfl ?_
   simp+decide (disch:=try exact E0) only[go_sem,Qac,List.contains_cons,List.contains_nil,List.flatMap_cons,List.flatMap_nil,List.append_nil]
   refine Qa hP (Qix (z:=zv n' a'*(val c':Int)+zv m' b'*(val d':Int)) (Ql _) (by omega) (by show nl _<_;omega)) rfl rfl rfl ?_
   simp+decide (disch:=try exact E0) only[go_sem,Qac,List.contains_cons,List.contains_nil,List.flatMap_cons,List.flatMap_nil,List.append_nil]
   refine Qa1 ?_
   simp+decide (disch:=try exact E0) only[go_sem,Qac,List.contains_cons,List.contains_nil,List.flatMap_cons,List.flatMap_nil,List.append_nil]
   exact Qc (by rw[Q5]) rfl
end Go.Proofs.YtkoclfmjlolkhaaGreat
namespace Go.FW
open Go
variable {C : Ctx} {fr : Fr} {hp : HP} {R : Qf}
end Go.FW
namespace Go.FW
open Go
variable {C : Ctx} {ρ : Nat -> Option Nat} {fr fr' : Fr} {hp : HP} {w : World} {K R : Qf}
theorem Qbl.known{p:PV}{v:Value}(h:Qbl C ρ hp w p v):∀γ∈p.sref1,hp γ≠none:=by
 intro γ hγ
 cases p with
 |mso β o n=>simp[PV.sref1]at hγ;subst hγ;obtain⟨_,hb,h1,_⟩:=h;simp[h1]
 |nso β o n=>simp[PV.sref1]at hγ;subst hγ;obtain⟨_,hb,b,cap,h1,_⟩:=h;simp[h1]
 |np β o n=>cases h
 |_=>cases hγ
theorem Qbf.known{p:PV}{v:Value}(h:Qbf C ρ hp w p v):(∀γ∈p.ref1,hp γ≠none)/\∀γ∈p.nref1,hp γ≠none:=by
 cases p with
 |mp β i o=>obtain⟨b,hb,h1,h2,_⟩:=h;simp[PV.ref1,PV.nref1,h2]
 |mso β o n=>obtain⟨hb,h1,_⟩:=h;simp[PV.ref1,PV.nref1,h1]
 |rb β o n=>obtain⟨b,u,_,_,_,_,hb,h1,_⟩:=h;simp[PV.ref1,PV.nref1,h1]
 |np γ i o=>obtain⟨_,b,hb,h1,h2,_⟩:=h;simp[PV.ref1,PV.nref1,h2]
 |nso γ o n=>obtain⟨_,hb,b,cap,h1,_⟩:=h;simp[PV.ref1,PV.nref1,h1]
 |_=>exact⟨(fun γ hγ=>by cases hγ),(fun γ hγ=>by cases hγ)⟩
theorem Qm.known{p:PV}{v:Value}(h:Qm C ρ hp w p v):(∀γ∈p.refs,hp γ≠none)/\∀γ∈p.sref,hp γ≠none:=by
 cases p with
 |mp β i o=>obtain⟨b,hb,h1,h2,_⟩:=h;simp[PV.refs,PV.sref,h2]
 |mso β o n=>obtain⟨hb,h1,_⟩:=h;simp[PV.refs,PV.sref,h1]
 |rb β o n=>obtain⟨b,u,_,_,_,_,hb,h1,_⟩:=h;simp[PV.refs,PV.sref,h1]
 |np γ i o=>obtain⟨_,b,hb,h1,h2,_⟩:=h;simp[PV.refs,PV.sref,h2]
 |nso γ o n=>obtain⟨_,hb,b,cap,h1,_⟩:=h;simp[PV.refs,PV.sref,h1]
 |rag cs=>
  obtain⟨vs,_,_,h2⟩:=h
  refine⟨fun γ hγ=>(by cases hγ),fun γ hγ=> ?_⟩
  obtain⟨x,hx,hγ⟩:=List.mem_flatMap.1 hγ
  obtain⟨i,hi⟩:=List.getElem?_of_mem hx
  exact(h2 i x hi).known γ hγ
 | nst β e ty xs=>
  obtain⟨_,_,b,hb,cur,cap,_,g2,_,_,_,_,_,_,_,_,h11⟩:=h
  refine⟨fun γ hγ=>(by cases hγ),fun γ hγ=> ?_⟩
  rcases List.mem_cons.1 hγ with rfl|hγ
  ·simp[g2]
  ·obtain⟨x,hx,hγ⟩:=List.mem_flatMap.1 hγ
   obtain⟨y,hy,hγ⟩:=List.mem_flatMap.1 hγ
   obtain⟨i,hi⟩:=List.getElem?_of_mem hx
   obtain⟨j,hj⟩:=List.getElem?_of_mem hy
   exact(h11 i x hi j y hj).known γ hγ
 | fn f first cap=>
  obtain⟨fv,cv,_,_,_,h3,h4⟩:=h
  have g:∀(l:List PV)(u:Array Value),(∀(i:Nat)(x:PV),l[i]? =some x->Qbf C ρ hp w x (u.getD i undef))->(∀γ∈l.flatMap PV.ref1,hp γ≠none)/\∀γ∈l.flatMap PV.nref1,hp γ≠none:=by
   intro l u hl
   refine⟨fun γ hγ=> ?_,fun γ hγ=> ?_⟩<;>
   ·obtain⟨x,hx,hγ⟩:=List.mem_flatMap.1 hγ
    obtain⟨i,hi⟩:=List.getElem?_of_mem hx
    first|exact(hl i x hi).known.1 γ hγ|exact(hl i x hi).known.2 γ hγ
  refine⟨fun γ hγ=> ?_,fun γ hγ=> ?_⟩
  ·rcases List.mem_append.1 hγ with hγ|hγ
   ·exact(g first fv h3).1 γ hγ
   ·exact(g cap cv h4).1 γ hγ
  ·rcases List.mem_append.1 hγ with hγ|hγ
   ·exact(g first fv h3).2 γ hγ
   ·exact(g cap cv h4).2 γ hγ
 |_=>exact⟨(fun γ hγ=>by cases hγ),(fun γ hγ=>by cases hγ)⟩
def isN(β:Nat):Bool:=decide (2000000<=β)
def isS(β:Nat):Bool:=isN β||decide (β<1000000)
theorem Qahf{β:Nat}(h:isS β=false):isN β=false:=by simp[isS]at h;exact h.1
def Qee:PV->PV
 | .nst _ _ _ _| .rag _=> .undef
 |p=>if p.refs.any isN||p.sref.any isS then .undef else p
def Qdl(F:Fr):Fr:=fun s=>Qee (F s)
def Cln(p:PV):Prop:=(∀β∈p.refs,isN β=false)/\(∀β∈p.sref,isS β=false)/\(∀γ e ty xs,p≠ .nst γ e ty xs)/\∀cs,p≠ .rag cs
theorem Q7j(p:PV):Cln (Qee p):=by
 have h0:Cln .undef:=⟨(fun β h=>by cases h),(fun β h=>by cases h),(fun _ _ _ _ h=>by cases h),(fun _ h=>by cases h)⟩
 unfold Qee
 split
 ·exact h0
 ·exact h0
 ·rename_i hn hn2
  split
  ·exact h0
  ·rename_i h
   simp only[Bool.or_eq_true,not_or,Bool.not_eq_true,List.any_eq_false]at h
   exact⟨fun β hβ=>by simpa using h.1 β hβ,fun β hβ=>by simpa using h.2 β hβ,fun γ e ty xs=>hn γ e ty xs,hn2⟩
theorem Cln.kill{p:PV}(h:Cln p){B:List Nat}:Cln (if p.refs.any B.contains then .undef else p):=by
 split
 ·exact⟨(fun β h=>by cases h),(fun β h=>by cases h),(fun _ _ _ _ h=>by cases h),(fun _ h=>by cases h)⟩
 ·exact h
theorem Qtf{β:Nat}{p:PV}(h:∀γ∈p.refs,γ≠β):Qan β p=p:=by
 unfold Qan
 rw[if_neg]
 intro hc
 exact h β (by simpa using hc) rfl
theorem Q2x{β:Nat}{p:PV}(h:∀γ∈p.sref1,γ≠β):Qdf β p=p:=by
 cases p with
 |mso γ o n=>simp only[Qdf];rw[if_neg (h γ (by simp[PV.sref1]))]
 |nso γ o n=>simp only[Qdf];rw[if_neg (h γ (by simp[PV.sref1]))]
 |_=>rfl
theorem Q2y{β:Nat}{p:PV}(h:∀γ∈p.refs,γ≠β)(h2:∀γ∈p.sref,γ≠β)(h3:∀γ e ty xs,p≠ .nst γ e ty xs):Qav β p=p:=by
 cases p with
 |nst γ e ty xs=>exact absurd rfl (h3 _ _ _ _)
 |rag cs=>
  simp only[Qav]
  congr 1
  conv=>rhs;rw[<-List.map_id cs]
  exact List.map_congr_left fun x hx=>Q2x fun γ hγ=>h2 γ (List.mem_flatMap.2 ⟨x,hx,hγ⟩)
 |nso γ o n=>simp only[Qav];rw[if_neg (h2 γ (by simp[PV.sref]))]
 |np γ i o=>simp only[Qav];rw[if_neg (h2 γ (by simp[PV.sref]))]
 |fn f first cap=>
  simp only[Qav]
  rw[if_neg,Qtf h]
  intro hc
  exact h2 β (by simpa[PV.sref]using hc) rfl
 |_=>exact Qtf h
theorem Q2z{β γ:Nat}(h:2000000<=β)(h2:isN γ=false):γ≠β:=by
 simp[isN]at h2;omega
abbrev bse(B:List Nat)(F:Fr):Fr:=Qad B (Qdl F)
theorem Qi8(B:List Nat)(F:Fr)(s:Nat):Cln (bse B F s):=(Q7j (F s)).kill
theorem Qtg{β:Nat}{B:List Nat}{F:Fr}(h:2000000<=β):Qb3 β (bse B F)=bse B F:=by
 funext s
 have hc:=Qi8 B F s
 exact Q2y (fun γ hγ=>Q2z h (hc.1 γ hγ)) (fun γ hγ=>Q2z h (Qahf (hc.2.1 γ hγ))) hc.2.2.1
theorem Qth{γ:Nat}{B:List Nat}{F:Fr}:Qcr γ (bse B F)=bse B F:=by
 funext s
 have hc:=Qi8 B F s
 show Qcg γ (bse B F s)=_
 generalize bse B F s=p at *
 cases p with
 |nst γ' e ty xs=>exact absurd rfl (hc.2.2.1 _ _ _ _)
 |_=>rfl
theorem Q20{W:List (Nat×Nat)}{β:Nat}{J F:Fr}:Qb3 β (ovr W J F)=ovr W (Qb3 β J) (Qb3 β F):=by
 funext s;unfold Qb3 ovr;split<;>rfl
theorem Q21{W:List (Nat×Nat)}{β:Nat}{J F:Fr}:Qcr β (ovr W J F)=ovr W (Qcr β J) (Qcr β F):=by
 funext s;unfold Qcr ovr;split<;>rfl
theorem Q22{β d:Nat}{F:Fr}{v:PV}:Qb3 β (upd F d v)=upd (Qb3 β F) d (Qav β v):=by
 funext s;unfold Qb3 upd;split<;>rfl
theorem Q23{β d:Nat}{F:Fr}{v:PV}:Qcr β (upd F d v)=upd (Qcr β F) d (Qcg β v):=by
 funext s;unfold Qcr upd;split<;>rfl
theorem Q7k{β:Nat}{F:Fr}{s:Nat}:Qb3 β F s=Qav β (F s):=rfl
theorem Q7l{β:Nat}{F:Fr}{s:Nat}:Qcr β F s=Qcg β (F s):=rfl
theorem Qos(W:List (Nat×Nat))(B:List Nat):Fle fr (ovr W fr (bse B fr)):=fun s=>by
 unfold ovr bse Qad
 split
 ·exact .inl rfl
 ·split
  ·exact .inr rfl
  ·unfold Qdl Qee
   split
   ·exact .inr rfl
   ·exact .inr rfl
   ·split
    ·exact .inr rfl
    ·exact .inl rfl
theorem Qat{sk:List It}{x:SC}(hok:Qdk R sk)(W:List (Nat×Nat))(B:List Nat)(I:Nat->Fr->HP->Prop)(m0:Nat)(h0:I m0 fr hp)
  (h:∀m J hp,I m J hp->vc C R (.c x:: .el (Qml W (bse B fr) I m)::sk) (ovr W J (bse B fr)) hp):vc C R (.c (.loop x)::sk) fr hp:=by
 refine Qij (fun m fr' hp'=>∃J,fr'=ovr W J (bse B fr)/\I m J hp') m0 (Qos W B).wk ⟨fr,rfl,h0⟩ ?_
 rintro m _ hp' ⟨J,rfl,hI⟩
 refine Qfi hok.1 _ _ _ _ _ _ (Nat.le_refl _) (.c x (.el ?_ hok.2)) (Fle.refl _) (h m J hp' hI)
 rintro f f' hp2 hf ⟨J2,hp3,m2,e2,hl,h2⟩
 exact Qpt hl (hf.wk.trans e2) ⟨J2,rfl,h2⟩
def Qx(l:List (Nat×Nat)):List PV:=l.map fun x=> .mso x.1 0 x.2
def Qahg(d:Nat)(S:List Nat)(γ n:Nat)(x:PV)(fr:Fr):Fr:=fun s=>if s=γ then x else if S.contains s then .nso γ 0 n else Qan d (fr s)
theorem Qvy{tmps:Array Value}(h:Q4 C ρ fr hp tmps w){β b:Nat}{hb:HB}{l:List Nat}(hB:isY β=false)(hβ:hp β=some hb)(hl:β∈l)(hρ:ρ β=some b):¬Xof C ρ (Q9 hp l) b:=by
 have hblk:=(h.own β hb hβ).blk
 rw[hρ]at hblk
 rintro(hx|⟨γ,hg,h1,h2,h3⟩)
 ·exact Ctx.cls_notX hblk.1 (Qlb hB) hx
 ·obtain⟨hg0,g1,_,_,_,_,g6⟩:=Qgk h1
  have:=h.inj γ β b (by simp[g1]) (by simp[hβ]) h3 hρ
  subst this
  exact g6 h2 hl
theorem Qcq.snap{tmps:Array Value}(h:Q4 C ρ fr hp tmps w){β o n:Nat}{v:Value}{l:List Nat}{hb:HB}(hr:Qcq ρ hp w β o n v)(hB:isY β=false)(hl:β∈l)(hβ:hp β=some hb):Q2 w (Xof C ρ (Q9 hp l)) (.sl hb.e ((hb.xs.drop o).take n)) v:=by
 obtain⟨hb',g1,g2,g3⟩:=hr
 rw[hβ]at g1;cases g1
 rcases g3 with⟨g3,rfl,rfl,rfl⟩|⟨b,cap,g3,rfl,g5,g6⟩
 ·simp only[List.take_zero];exact .slE _ _ _ (Nat.zero_le _)
 ·have hown:=h.own β hb hβ
  have hblk:=hown.blk
  rw[g3]at hblk
  obtain⟨_,hlt,cur,cap',c1,c2,c3,c4,c5⟩:=hblk
  obtain⟨cur',ty',d1,d2⟩:=g5
  rw[c1]at d1;cases d1
  have hcc:o+cap=cap':=by
   rw[c2]at d2
   exact(Nat.eq_of_mul_eq_mul_right hown.epos d2).symm
  subst hcc
  have hlen:((hb.xs.drop o).take n).length=n:=by simp;omega
  have hget:∀(i:Nat)(x:PV),((hb.xs.drop o).take n)[i]? =some x->i<n/\hb.xs[o+i]? =some x:=fun i x hx=>by
   have hi:i<n:=by have:=(List.getElem?_eq_some_iff.1 hx).1;omega
   rw[List.getElem?_take_of_lt hi,List.getElem?_drop]at hx
   exact⟨hi,hx⟩
  have:=Q2.sl (w:=w) (X:=Xof C ρ (Q9 hp l)) hb.e ((hb.xs.drop o).take n) b (o*hb.e) cap (fun i j=>cur.getD ((o+i)*hb.e+j) undef) (Qvy h hB hβ hl g3) hlt (by omega) (by omega)
   (fun i x hx=>(hown.len _ x (hget i x hx).2).1)
   (fun i hi j hj=>by
    rw[hlen]at hi
    have:=Qez (i:=o+i) (e:=hb.e) (o:=0) (j:=j) (n:=hb.e) (cap:=o+cap) (by omega) (by omega) hj
    rw[Nat.add_zero]at this
    rw[show o*hb.e+i*hb.e+j=(o+i)*hb.e+j by rw[Nat.add_mul]]
    exact Qa7 c1 (by rw[c2];exact this))
   (fun i x hx j y hy=>(c5 _ x (hget i x hx).2 j y hy).freeze)
  rwa[hlen]at this
def Qmu(R:Qf):Qf:=fun fr hp=>∃fr' hp',Wk fr hp fr' hp'/\R fr' hp'
theorem Qabs{hp':HP}(hw:Wk fr hp fr' hp')(h:R fr' hp'):Qmu R fr hp:=⟨fr',hp',hw,h⟩
theorem Qb9(h:R fr hp):Qmu R fr hp:=⟨fr,hp,Wk.refl _ _,h⟩
theorem Qabt:KM (Qmu R) (Qmu R):=by
 rintro f f' hp hf ⟨fr',hp',h1,h2⟩
 exact⟨fr',hp',hf.wk.trans h1,h2⟩
theorem Qq:Qdk (Qmu R) []:=⟨Qabt,.nil⟩
theorem Qabu{d γ m i:Nat}{k:IntKind}(h:i<m)(he:(hp γ).map (·.e)=some 1):Qed 1 (.nso γ 0 m) (.int k (i:Int)) d fr hp K=K (upd fr d (.np γ i 0)) hp:=by
 have e:(0:Int)<=(i:Int):=by omega
 simp[Qed,e,h,he]
theorem Qabv{d γ o m:Nat}:Qin (.nso γ o m) d fr hp K=K (upd fr d (.int .i64 m)) hp:=rfl
theorem Qahh{d γ i ty:Nat}{l:List (Nat×Nat)}(hγ:fr γ= .nst γ 1 ty (Qx l))(h:i<l.length):ldK 1 false (.np γ i 0) d fr hp K=K (upd fr d (.ms (l[i]'h).1 (l[i]'h).2)) hp:=by
 have hh:∃h:i<l.length,K (upd fr d (.ms (l[i]'h).1 (l[i]'h).2)) hp↔K (upd fr d (.ms (l[i]'h).1 (l[i]'h).2)) hp:=⟨h,Iff.rfl⟩
 simp only[ldK,hγ]
 have h2:i<(Qx l).length:=by simpa[Qx]using h
 simp only[h2,exists_true_left,true_and,Nat.le_refl,Nat.zero_add,implies_true]
 simp[ldN,Qx,PV.ncells,PV.cells]
theorem Qsh{e by_ ty ty' d β γ n:Nat}{xs:List PV}{y:PV}{fz:Bool}(hb:hp β=some ⟨e,ty,xs,false⟩)(hy:hp γ=some ⟨e,ty',[y],fz⟩)(h0:0<e)(hn:n=xs.length)(h1:(n+1)*by_<=140737488355328)(h2:n+1<=9223372036854775807)(hB:2000000<=β):
  Qdr e by_ ty (.ms β n) (.ms γ 1) d fr hp K=K (upd (Qb3 β fr) d (.ms β (n+1))) (Qg hp β ⟨e,ty,xs++[y],false⟩):=by
 subst hn
 have b1:isB β=true:=by simp[isB];omega
 have b2:isY β=false:=by simp[isY];omega
 simp[Qdr,Qc1,hy,hb,h0,b1,b2,h1,h2]
theorem Qxd{α:Type}{f:α->PV}{y:α}{e by_ ty ty' d β γ n:Nat}{xs:List α}{fz:Bool}(hb:hp β=some ⟨e,ty,xs.map f,false⟩)(hy:hp γ=some ⟨e,ty',[f y],fz⟩)(h0:0<e)(hn:n=xs.length)(h1:(n+1)*by_<=140737488355328)(h2:n+1<=9223372036854775807)(hB:2000000<=β):
  Qdr e by_ ty (.ms β n) (.ms γ 1) d fr hp K=K (upd (Qb3 β fr) d (.ms β (n+1))) (Qg hp β ⟨e,ty,(xs++[y]).map f,false⟩):=by
 rw[Qsh hb hy h0 (by simp[hn]) h1 h2 hB];simp
theorem Q24{γ e ty k:Nat}{l:List (Nat×Nat)}(h:k<l.length)(hne:γ≠(l[k]'h).1)(hd:∀j (hj:j<l.length),l[j].1=(l[k]'h).1->j=k):Qav (l[k]'h).1 (.nst γ e ty (Qx l))= .nst γ e ty ((Qx l).set k .undef):=by
 simp only[Qav,if_neg hne]
 congr 1
 refine List.ext_getElem (by simp[Qx]) fun j h1 h2=> ?_
 have hj:j<l.length:=by simpa[Qx]using h1
 simp only[Qx,List.getElem_map,List.getElem_set,PV.ncells,PV.cells,List.map_cons,List.map_nil,Qcp,Qdf]
 by_cases e:j=k
 ·subst e;simp
 ·rw[if_neg fun e2=>e (hd j hj e2),if_neg fun e2=>e e2.symm]
theorem Q25{β γ o n:Nat}(h:γ≠β):Qav β (.nso γ o n)= .nso γ o n:=by simp only[Qav];rw[if_neg h]
theorem Q7m{β γ o n:Nat}(h:γ≠β):Qav β (.np γ o n)= .np γ o n:=by simp only[Qav];rw[if_neg h]
theorem Qahi:
  (∀(β:Nat)(k:IntKind)(n:Int),Qav β (.int k n)= .int k n)/\
  (∀(β:Nat)(b:Bool),Qav β (.bool b)= .bool b)/\
  (∀(β e:Nat)(xs:List PV),Qav β (.sl e xs)= .sl e xs)/\
  (∀(β:Nat)(cs:List PV),Qav β (.agg cs)= .agg cs)/\
  (∀(β:Nat)(cs:List PV),Qav β (.pt cs)= .pt cs)/\
  (∀(β:Nat),Qav β .nilS= .nilS)/\
  (∀(β:Nat),Qav β .undef= .undef)/\
  (∀(γ:Nat)(k:IntKind)(n:Int),Qcg γ (.int k n)= .int k n)/\
  (∀(γ:Nat)(b:Bool),Qcg γ (.bool b)= .bool b)/\
  (∀(γ e:Nat)(xs:List PV),Qcg γ (.sl e xs)= .sl e xs)/\
  (∀(γ:Nat)(cs:List PV),Qcg γ (.agg cs)= .agg cs)/\
  (∀(γ:Nat)(cs:List PV),Qcg γ (.pt cs)= .pt cs)/\
  (∀(γ:Nat),Qcg γ .nilS= .nilS)/\
  (∀(γ:Nat),Qcg γ .undef= .undef)/\
  (∀(γ β o n:Nat),Qcg γ (.mso β o n)= .mso β o n)/\
  (∀(γ β o n:Nat),Qcg γ (.mp β o n)= .mp β o n)/\
  (∀(γ β o n:Nat),Qcg γ (.rb β o n)= .rb β o n)/\
  (∀(γ β o n:Nat),Qcg γ (.nso β o n)= .nso β o n)/\
  (∀(γ β o n:Nat),Qcg γ (.np β o n)= .np β o n)/\
  (∀(β γ o n:Nat),Qan β (.nso γ o n)= .nso γ o n)/\
  (∀(β γ o n:Nat),Qan β (.np γ o n)= .np γ o n)/\
  (∀(β γ e ty:Nat)(xs:List PV),Qan β (.nst γ e ty xs)= .nst γ e ty xs)/\
  (∀(β:Nat),Qan β .undef= .undef)/\
  (∀(β:Nat)(cs:List PV),Qan β (.pt cs)= .pt cs):=by
 refine⟨?_,?_,?_,?_,?_,?_,?_,?_,?_,?_,?_,?_,?_,?_,?_,?_,?_,?_,?_,?_,?_,?_,?_,?_⟩<;>intros<;>rfl
theorem Q7n(β γ o n:Nat):Qav β (.mso γ o n)=if γ=β then .undef else .mso γ o n:=Qu1 β γ o n
theorem Q7o(β γ o n:Nat):Qav β (.mp γ o n)=if γ=β then .undef else .mp γ o n:=Qu2 β γ o n
end Go.FW
namespace Go.FW
open Go
variable {C : Ctx} {ρ : Nat -> Option Nat} {fr fr' : Fr} {hp : HP} {w : World} {K R : Qf}
theorem Qabw{F:Fr}{s:Nat}:Qdl F s=Qee (F s):=rfl
theorem Qahj:
  (∀(k:IntKind)(n:Int),Qee (.int k n)= .int k n)/\
  (∀(b:Bool),Qee (.bool b)= .bool b)/\
  (∀(e:Nat)(xs:List PV),Qee (.sl e xs)= .sl e xs)/\
  (∀(cs:List PV),Qee (.agg cs)= .agg cs)/\
  (∀(cs:List PV),Qee (.pt cs)= .pt cs)/\
  (Qee .nilS= .nilS)/\(Qee .undef= .undef)/\
  (∀(β o n:Nat),Qee (.mso β o n)=if isN β then .undef else .mso β o n)/\
  (∀(β o n:Nat),Qee (.mp β o n)=if isN β then .undef else .mp β o n)/\
  (∀(β o n:Nat),Qee (.rb β o n)=if isN β then .undef else .rb β o n)/\
  (∀(β o n:Nat),Qee (.nso β o n)=if isS β then .undef else .nso β o n)/\
  (∀(β o n:Nat),Qee (.np β o n)=if isS β then .undef else .np β o n):=by
 refine⟨fun _ _=>rfl,fun _=>rfl,fun _ _=>rfl,fun _=>rfl,fun _=>rfl,rfl,rfl,?_,?_,?_,?_,?_⟩<;>intros<;>simp[Qee,PV.refs,PV.sref]
theorem Qae4{β:Nat}:isS β=(isN β||decide (β<1000000)):=rfl
theorem Qae5{β:Nat}:isN β=decide (2000000<=β):=rfl
def rws(B n:Nat)(L:Nat->Nat):List (Nat×Nat):=(List.range n).map fun i=>(B+i,L i)
theorem Qhg(B n:Nat)(L:Nat->Nat):(rws B n L).length=n:=by simp[rws]
theorem Qe1{B n i:Nat}{L:Nat->Nat}(h:i<(rws B n L).length):(rws B n L)[i]=(B+i,L i):=by simp[rws]
theorem Qabx{B n i m:Nat}{L L':Nat->Nat}(h:∀j,j<n->L' j=if j=i then m else L j):(rws B n L).set i (B+i,m)=rws B n L':=by
 refine List.ext_getElem (by simp[rws]) fun j h1 h2=> ?_
 have hj:j<n:=by simpa[rws]using h2
 rw[Qe1,List.getElem_set,Qe1,h j hj]
 split
 ·rename_i e;subst e;simp
 ·rename_i e;rw[if_neg fun e2=>e e2.symm]
theorem Qti{γ e ty k B n:Nat}{L:Nat->Nat}(h:k<n)(hne:¬(B<=γ/\γ<B+n)):Qav (B+k) (.nst γ e ty (Qx (rws B n L)))= .nst γ e ty ((Qx (rws B n L)).set k .undef):=by
 have hk:k<(rws B n L).length:=by rw[Qhg];exact h
 have:=Q24 (γ:=γ) (e:=e) (ty:=ty) hk (by rw[Qe1];simp only;omega) (fun j hj=>by rw[Qe1,Qe1];simp only;omega)
 rwa[Qe1]at this
theorem Q26{d γ i ty B n:Nat}{L:Nat->Nat}(hγ:fr γ= .nst γ 1 ty (Qx (rws B n L)))(h:i<n):ldK 1 false (.np γ i 0) d fr hp K=K (upd fr d (.ms (B+i) (L i))) hp:=by
 rw[Qahh hγ (by rw[Qhg];exact h),Qe1]
theorem Q7p{d γ n:Nat}{S:List Nat}{x:PV}{s:Nat}:Qahg d S γ n x fr s=if s=γ then x else if S.contains s then .nso γ 0 n else Qan d (fr s):=rfl
theorem Qaby{by_ ty d:Nat}{k k':IntKind}{n c:Nat}(h2:n<=c)(h3:by_*c<=281474976710656)(h4:c<=9223372036854775807):
  mkK 1 by_ ty .nilS (.int k (n:Int)) (.int k' (c:Int)) d fr hp K=K (upd (Qap d fr) d (.ms d n)) (Qg hp d ⟨1,ty,List.replicate n .nilS,false⟩):=by
 rw[Qt7 (e:=1) (by omega) rfl (by omega) (by omega) (by omega) (by omega)];rfl
theorem Qae6{k c:Nat}(h:c<3000000):(3000000+k=c)=False:=by simp;omega
theorem Qabz{k c:Nat}(h:c<3000000):(c=3000000+k)=False:=by simp;omega
theorem Qae7{k j:Nat}:(3000000+k=3000000+j)=(k=j):=by simp
attribute [go_sem] Qae6 Qabz Qae7 Qaby Q7p Q20 Q21 Q22 Q23 Q7k Q7l Qtg Qth Qahi Q7n Q7o Q25 Q7m Qabu Qabv Qabw Qahj Qae4 Qae5
end Go.FW
namespace Go.FW
open Go
variable {C C' : Ctx} {ρ ρ' : Nat -> Option Nat} {fr fr' : Fr} {hp hp' : HP} {w : World} {K R : Qf}
theorem Qch{sk:List It}{r:RT}{fr0:Fr}{hp0:HP}(hw:Wk fr hp fr0 hp0)(h:vc C R (.o r::sk) fr0 hp0):vc C R (.o (.wk r)::sk) fr hp:=by rw[Qqk];exact⟨fr0,hp0,hw,h⟩
def rn1(σ:Nat->Nat):PV->PV
 | .mp β i o=> .mp (σ β) i o
 | .mso β o n=> .mso (σ β) o n
 | .rb β o n=> .rb (σ β) o n
 | .np β i o=> .np (σ β) i o
 | .nso β o n=> .nso (σ β) o n
 |p=>p
def rnP(σ:Nat->Nat):PV->PV
 | .fn f a b=> .fn f (a.map (rn1 σ)) (b.map (rn1 σ))
 | .rag cs=> .rag (cs.map (rn1 σ))
 | .nst γ e ty xs=> .nst (σ γ) e ty (xs.map fun x=>Qcp (x.ncells.map (rn1 σ)))
 |p=>rn1 σ p
structure Rn1(σ:Nat->Nat)(ρ ρ':Nat->Option Nat)(hp hp':HP)(β:Nat):Prop where
 r:ρ' (σ β)=ρ β
 h:∀hb,hp β=some hb->∃hb2,hp' (σ β)=some hb2/\hb2.e=hb.e/\hb2.ty=hb.ty/\hb2.xs=hb.xs
 b:isB β=true->isB (σ β)=true
theorem Qcq.ren{σ:Nat->Nat}{β o n:Nat}{v:Value}(h:Qcq ρ hp w β o n v)(hr:Rn1 σ ρ ρ' hp hp' β):Qcq ρ' hp' w (σ β) o n v:=by
 obtain⟨hb,h1,h2,h3⟩:=h
 obtain⟨hb',k1,k2,k3,k4⟩:=hr.h hb h1
 refine⟨hb',k1,by rw[k4];exact h2,?_⟩
 rw[hr.r,k2];exact h3
theorem Qhp.ren{σ:Nat->Nat}{γ o n:Nat}{v:Value}(h:Qhp ρ hp w γ o n v)(hr:Rn1 σ ρ ρ' hp hp' γ):Qhp ρ' hp' w (σ γ) o n v:=by
 obtain⟨h0,hb,b,cap,h1,h2,h3⟩:=h
 obtain⟨hb',k1,k2,k3,k4⟩:=hr.h hb h1
 exact⟨hr.b h0,hb',b,cap,k1,by rw[hr.r];exact h2,by rw[k2];exact h3⟩
theorem Q2.sub{X X':Nat->Prop}{p:PV}{v:Value}(h:Q2 w X p v)(hX:∀b,X' b->X b):Q2 w X' p v:=h.mono (fun _ _ _=>rfl) (fun b _ hn hx=>hn (hX b hx)) (Nat.le_refl _)
theorem Qbl.ren{σ:Nat->Nat}{p:PV}{v:Value}(h:Qbl C ρ hp w p v)(hX:∀b,Xof C' ρ' hp' b->Xof C ρ hp b)(hr:∀β∈p.sref1,Rn1 σ ρ ρ' hp hp' β):Qbl C' ρ' hp' w (rn1 σ p) v:=by
 cases p with
 |undef=>trivial
 |mso β o n=>exact⟨(hr β (by simp[PV.sref1])).b h.1,h.2.ren (hr β (by simp[PV.sref1]))⟩
 |nso γ o n=>exact Qhp.ren h (hr γ (by simp[PV.sref1]))
 |mp=>cases h
 |rb=>cases h
 |np=>cases h
 |_=>exact Q2.sub h hX
theorem Qbf.ren{σ:Nat->Nat}{p:PV}{v:Value}(h:Qbf C ρ hp w p v)(hX:∀b,Xof C' ρ' hp' b->Xof C ρ hp b)(hr:∀β∈p.ref1++p.nref1,Rn1 σ ρ ρ' hp hp' β):Qbf C' ρ' hp' w (rn1 σ p) v:=by
 cases p with
 |mp β i o=>
  have hq:=hr β (by simp[PV.ref1])
  obtain⟨b,hb,h1,h2,h3⟩:=h
  obtain⟨hb',k1,k2,k3,k4⟩:=hq.h hb h2
  exact⟨b,hb',by rw[hq.r];exact h1,k1,by rw[k2];exact h3⟩
 |mso β o n=>exact Qcq.ren h (hr β (by simp[PV.ref1]))
 |rb β o n=>
  obtain⟨b,u,h1,h2,h3,h4,h5⟩:=h
  exact⟨b,u,h1,h2,fun hx=>h3 (hX b hx),h4,h5.ren (hr β (by simp[PV.ref1]))⟩
 |np γ i o=>
  have hq:=hr γ (by simp[PV.ref1,PV.nref1])
  obtain⟨h0,b,hb,h1,h2,h3⟩:=h
  obtain⟨hb',k1,k2,k3,k4⟩:=hq.h hb h2
  exact⟨hq.b h0,b,hb',by rw[hq.r];exact h1,k1,by rw[k2];exact h3⟩
 |nso γ o n=>exact Qhp.ren h (hr γ (by simp[PV.ref1,PV.nref1]))
 |_=>exact Q2.sub h hX
theorem Qkx{cs:List PV}(h:∀c∈cs,(∀ds,c≠ .agg ds)/\∀ds,c≠ .rag ds):(Qcp cs).ncells=cs:=by
 match cs,h with
 | [],_=>rfl
 | [c],h=>
  obtain⟨h1,h2⟩:=h c (by simp)
  cases c with
  |agg ds=>exact absurd rfl (h1 ds)
  |rag ds=>exact absurd rfl (h2 ds)
  |_=>rfl
 |c::d::cs,_=>
  simp only[Qcp,Qf5]
  split<;>rfl
theorem Qbl.one{p:PV}{v:Value}(h:Qbl C ρ hp w p v):(∀ds,p≠ .agg ds)/\∀ds,p≠ .rag ds:=by
 refine⟨fun ds e=> ?_,fun ds e=> ?_⟩<;>subst e<;>cases h
theorem Qm.ren{σ:Nat->Nat}{p:PV}{v:Value}(h:Qm C ρ hp w p v)(hX:∀b,Xof C' ρ' hp' b->Xof C ρ hp b)(hr:∀β∈p.refs++p.sref,Rn1 σ ρ ρ' hp hp' β):Qm C' ρ' hp' w (rnP σ p) v:=by
 have hV:∀q u,Q2 w (Xof C ρ hp) q u->Q2 w (Xof C' ρ' hp') q u:=fun q u hq=>Q2.sub hq hX
 cases p with
 |undef=>trivial
 |mp β i o=>exact Qbf.ren (w:=w) (p:= .mp β i o) h hX (by simpa[PV.refs,PV.sref,PV.ref1,PV.nref1]using hr)
 |mso β o n=>exact Qbf.ren (w:=w) (p:= .mso β o n) h hX (by simpa[PV.refs,PV.sref,PV.ref1,PV.nref1]using hr)
 |rb β o n=>exact Qbf.ren (w:=w) (p:= .rb β o n) h hX (by simpa[PV.refs,PV.sref,PV.ref1,PV.nref1]using hr)
 |np γ i o=>exact Qbf.ren (w:=w) (p:= .np γ i o) h hX (by simpa[PV.refs,PV.sref,PV.ref1,PV.nref1]using hr)
 |nso γ o n=>exact Qbf.ren (w:=w) (p:= .nso γ o n) h hX (by simpa[PV.refs,PV.sref,PV.ref1,PV.nref1]using hr)
 |rag cs=>
  obtain⟨vs,rfl,h1,h2⟩:=h
  refine⟨vs,rfl,by simpa using h1,fun i x hi=> ?_⟩
  simp only[List.getElem?_map,Option.map_eq_some_iff]at hi
  obtain⟨y,hy,rfl⟩:=hi
  exact(h2 i y hy).ren hX fun β hβ=>hr β (List.mem_append_right _ (List.mem_flatMap.2 ⟨y,List.mem_of_getElem? hy,hβ⟩))
 | nst γ e ty xs=>
  obtain⟨h0,he,b,hb,cur,cap,h1,h2,h3,h4,h5,h6,h7,h8,h9,h10,h11⟩:=h
  have hq:=hr γ (by simp[PV.sref])
  have key:∀(i:Nat)(x:PV),xs[i]? =some x->∀(j:Nat)(y:PV),x.ncells[j]? =some y->Qbl C' ρ' hp' w (rn1 σ y) (cur.getD (i*e+j) undef):=fun i x hx j y hy=>
   (h11 i x hx j y hy).ren hX fun β hβ=>hr β (List.mem_append_right _ (List.mem_cons_of_mem _ (List.mem_flatMap.2 ⟨x,List.mem_of_getElem? hx,List.mem_flatMap.2 ⟨y,List.mem_of_getElem? hy,hβ⟩⟩)))
  have hnc:∀(i:Nat)(x:PV),xs[i]? =some x->(Qcp (x.ncells.map (rn1 σ))).ncells=x.ncells.map (rn1 σ):=fun i x hx=>by
   refine Qkx fun c hc=> ?_
   obtain⟨y,hy,rfl⟩:=List.mem_map.1 hc
   obtain⟨j,hj⟩:=List.getElem?_of_mem hy
   exact(key i x hx j y hj).one
  obtain⟨hb',k1,k2,k3,k4⟩:=hq.h hb h2
  refine⟨hq.b h0,he,b,hb',cur,cap,by rw[hq.r];exact h1,k1,by rw[k4];exact h3,by rw[k2];exact h4,by rw[k3];exact h5,h6,h7,by simpa using h8,h9,fun i x hx=> ?_,fun i x hx j y hy=> ?_⟩
  ·simp only[List.getElem?_map,Option.map_eq_some_iff]at hx
   obtain⟨x0,hx0,rfl⟩:=hx
   rw[hnc i x0 hx0,List.length_map];exact h10 i x0 hx0
  ·simp only[List.getElem?_map,Option.map_eq_some_iff]at hx
   obtain⟨x0,hx0,rfl⟩:=hx
   rw[hnc i x0 hx0,List.getElem?_map,Option.map_eq_some_iff]at hy
   obtain⟨y0,hy0,rfl⟩:=hy
   exact key i x0 hx0 j y0 hy0
 | fn f first cap=>
  obtain⟨fv,cv,rfl,h1,h2,h3,h4⟩:=h
  have hm:∀(l:List PV)(x:PV),x∈l->∀β∈x.ref1++x.nref1,β∈l.flatMap PV.ref1++l.flatMap PV.nref1:=fun l x hx β hβ=>by
   rcases List.mem_append.1 hβ with hβ|hβ
   ·exact List.mem_append_left _ (List.mem_flatMap.2 ⟨x,hx,hβ⟩)
   ·exact List.mem_append_right _ (List.mem_flatMap.2 ⟨x,hx,hβ⟩)
  refine⟨fv,cv,rfl,by simpa using h1,by simpa using h2,fun i x hi=> ?_,fun i x hi=> ?_⟩
  ·simp only[List.getElem?_map,Option.map_eq_some_iff]at hi
   obtain⟨y,hy,rfl⟩:=hi
   refine(h3 i y hy).ren hX fun β hβ=>hr β ?_
   have:=hm first y (List.mem_of_getElem? hy) β hβ
   simp only[PV.refs,PV.sref,List.mem_append]at this⊢
   rcases this with h|h
   ·exact .inl (.inl h)
   ·exact .inr (.inl h)
  ·simp only[List.getElem?_map,Option.map_eq_some_iff]at hi
   obtain⟨y,hy,rfl⟩:=hi
   refine(h4 i y hy).ren hX fun β hβ=>hr β ?_
   have:=hm cap y (List.mem_of_getElem? hy) β hβ
   simp only[PV.refs,PV.sref,List.mem_append]at this⊢
   rcases this with h|h
   ·exact .inl (.inr h)
   ·exact .inr (.inr h)
 |agg cs=>exact Qco.move (p:= .agg cs) h hV
 |tup cs=>exact Qco.move (p:= .tup cs) h hV
 |_=>exact hV _ _ h
theorem Qae8(σ τ:Nat->Nat)(h1:∀β hb,hp β=some hb->hp' (σ β)=some hb/\τ (σ β)=β)(h2:∀γ hb,hp' γ=some hb->hp (τ γ)=some hb/\σ (τ γ)=γ)
  (hB:∀β,hp β≠none->isB β=true->isB (σ β)=true) (hY:∀β,hp β≠none->isY (σ β)=isY β/\(isY β=true->σ β=β)) (hf:∀s,fr' s=rnP σ (fr s)∨fr' s= .undef):Wk fr hp fr' hp':=by
 rintro C tmps w ⟨ρ,hs⟩
 obtain⟨ρ',hρ⟩:∃f:Nat->Option Nat,f=fun γ=>if hp' γ=none then none else ρ (τ γ):=⟨_,rfl⟩
 have hr:∀β,hp β≠none->Rn1 σ ρ ρ' hp hp' β:=fun β hβ=>by
  obtain⟨hb,hq⟩:=Option.ne_none_iff_exists'.1 hβ
  obtain⟨a1,a2⟩:=h1 β hb hq
  refine⟨?_,(fun hb hq=>⟨hb,(h1 β hb hq).1,rfl,rfl,rfl⟩),hB β hβ⟩
  rw[hρ];simp only[]
  rw[if_neg (by rw[a1];simp),a2]
 have hb':∀γ hb,hp' γ=some hb->ρ' γ=ρ (τ γ):=fun γ hb hq=>by rw[hρ];simp only[];rw[if_neg (by rw[hq];simp)]
 have hX:∀b,Xof C ρ' hp' b->Xof C ρ hp b:=by
  rintro b (hx|⟨γ,hg,g1,g2,g3⟩)
  ·exact .inl hx
  ·rw[hb' γ hg g1]at g3
   exact .inr ⟨τ γ,hg,(h2 γ hg g1).1,g2,g3⟩
 refine⟨ρ',hs.sz,hs.ext,hs.keep,fun γ hb hγ=> ?_,fun γ δ b g1 g2 g3 g4=> ?_,fun i=> ?_⟩
 ·obtain⟨a1,a2⟩:=h2 γ hb hγ
  obtain⟨q1,q2,q3,q4,q5⟩:=hs.own (τ γ) hb a1
  obtain⟨y1,y2⟩:=hY (τ γ) (by simp[a1])
  rw[a2]at y1 y2
  refine⟨q1,q2,?_,fun hy=> ?_,fun hR=> ?_⟩
  rotate_left
  rotate_left
  ·have hy:isY γ=true:=by simp[isR]at hR;simp[isY];omega
   have e:=y2 (by rw[<-y1];exact hy)
   exact q5 (by rw[<-e];exact hR)
  ·rw[hb' γ hb hγ]
   cases hq:ρ (τ γ)with
   |none=>rw[hq]at q3;exact q3
   |some b=>
    rw[hq]at q3
    refine⟨?_,q3.2.1,q3.2.2.move rfl rfl rfl rfl fun q u hq=>Q2.sub hq hX⟩
    have:=q3.1
    unfold Ctx.cls at this⊢
    rw[y1]
    split at this
    ·rename_i hy;rw[if_pos hy,y2 hy];exact this
    ·rename_i hy;rw[if_neg hy];exact this
  ·rw[hb' γ hb hγ,q4 (by rw[<-y1];exact hy),<-y2 (by rw[<-y1];exact hy)]
 ·obtain⟨x1,k1⟩:=Option.ne_none_iff_exists'.1 g1
  obtain⟨x2,k2⟩:=Option.ne_none_iff_exists'.1 g2
  rw[hb' γ x1 k1]at g3;rw[hb' δ x2 k2]at g4
  have:=hs.inj (τ γ) (τ δ) b (by rw[(h2 γ x1 k1).1];simp) (by rw[(h2 δ x2 k2).1];simp) g3 g4
  rw[<-(h2 γ x1 k1).2,<-(h2 δ x2 k2).2,this]
 ·have hsl:=hs.slots i
  rcases hf i with e|e
  ·rw[e]
   exact hsl.ren hX fun β hβ=>hr β (by
    rcases List.mem_append.1 hβ with h|h
    ·exact hsl.known.1 β h
    ·exact hsl.known.2 β h)
  ·rw[e];trivial
def mvN(β δ x:Nat):Nat:=if x=β then δ else x
def mvF(β δ:Nat)(fr:Fr):Fr:=fun s=>rnP (mvN β δ) (fr s)
def mvH(β δ:Nat)(hp:HP):HP:=fun x=>if x=δ then hp β else if x=β then none else hp x
theorem Qiy(β δ:Nat)(hδ:hp δ=none)(h2:2000000<=δ)(hY:isY β=false)(hne:β≠δ):Wk fr hp (mvF β δ fr) (mvH β δ hp):=by
 have bδ:isB δ=true:=by simp[isB];omega
 have yδ:isY δ=false:=by simp[isY];omega
 refine Qae8 (mvN β δ) (fun y=>if y=δ then β else y) (fun x hb hx=> ?_) (fun y hb hy=> ?_) (fun x hx hb=> ?_) (fun x hx=> ?_) (fun s=> .inl rfl)
 ·unfold mvN mvH
  by_cases e:x=β
  ·subst e;simp[hx]
  ·have e2:x≠δ:=fun e2=>by rw[e2,hδ]at hx;cases hx
   simp[e,e2,hx]
 ·unfold mvH at hy
  unfold mvN
  by_cases e:y=δ
  ·subst e;simp at hy;simp[hy]
  ·rw[if_neg e]at hy
   by_cases e2:y=β
   ·rw[if_pos e2]at hy;cases hy
   ·rw[if_neg e2]at hy;simp[e,e2,hy]
 ·unfold mvN;split
  ·exact bδ
  ·exact hb
 ·unfold mvN;split
  ·rename_i e;subst e;rw[yδ,hY];simp
  ·simp
theorem Qae9{β δ x:Nat}:mvH β δ hp x=if x=δ then hp β else if x=β then none else hp x:=rfl
theorem Qafa{β δ s:Nat}:mvF β δ fr s=rnP (mvN β δ) (fr s):=rfl
theorem Qafb{β δ x:Nat}:mvN β δ x=if x=β then δ else x:=rfl
theorem Qab0{β δ d:Nat}{v:PV}:mvF β δ (upd fr d v)=upd (mvF β δ fr) d (rnP (mvN β δ) v):=by
 funext s;unfold mvF upd;split<;>rfl
theorem Qab1{W:List (Nat×Nat)}{β δ:Nat}{J F:Fr}:mvF β δ (ovr W J F)=ovr W (mvF β δ J) (mvF β δ F):=by
 funext s;unfold mvF ovr;split<;>rfl
theorem Q27{σ:Nat->Nat}{p:PV}(h:∀β∈p.ref1++p.nref1,σ β=β):rn1 σ p=p:=by
 cases p with
 |mp β=>simp only[rn1];rw[h β (by simp[PV.ref1])]
 |mso β=>simp only[rn1];rw[h β (by simp[PV.ref1])]
 |rb β=>simp only[rn1];rw[h β (by simp[PV.ref1])]
 |np β=>simp only[rn1];rw[h β (by simp[PV.ref1,PV.nref1])]
 |nso β=>simp only[rn1];rw[h β (by simp[PV.ref1,PV.nref1])]
 |_=>rfl
theorem Qab2{σ:Nat->Nat}{p:PV}(h:Cln p)(hσ:∀β∈p.refs++p.sref,σ β=β):rnP σ p=p:=by
 have hm:∀(l:List PV),(∀β∈l.flatMap PV.ref1++l.flatMap PV.nref1,σ β=β)->l.map (rn1 σ)=l:=fun l hl=>by
  conv=>rhs;rw[<-List.map_id l]
  refine List.map_congr_left fun x hx=>Q27 fun β hβ=>hl β ?_
  rcases List.mem_append.1 hβ with hβ|hβ
  ·exact List.mem_append_left _ (List.mem_flatMap.2 ⟨x,hx,hβ⟩)
  ·exact List.mem_append_right _ (List.mem_flatMap.2 ⟨x,hx,hβ⟩)
 cases p with
 |nst γ e ty xs=>exact absurd rfl (h.2.2.1 _ _ _ _)
 |rag cs=>exact absurd rfl (h.2.2.2 _)
 | fn f a b=>
  simp only[rnP]
  rw[hm a,hm b]
  ·intro β hβ;refine hσ β ?_
   simp only[PV.refs,PV.sref,List.mem_append]at hβ⊢
   rcases hβ with h|h
   ·exact .inl (.inr h)
   ·exact .inr (.inr h)
  ·intro β hβ;refine hσ β ?_
   simp only[PV.refs,PV.sref,List.mem_append]at hβ⊢
   rcases hβ with h|h
   ·exact .inl (.inl h)
   ·exact .inr (.inl h)
 |mp β=>simp only[rnP,rn1];rw[hσ β (by simp[PV.refs])]
 |mso β=>simp only[rnP,rn1];rw[hσ β (by simp[PV.refs])]
 |rb β=>simp only[rnP,rn1];rw[hσ β (by simp[PV.refs])]
 |np β=>simp only[rnP,rn1];rw[hσ β (by simp[PV.refs,PV.sref])]
 |nso β=>simp only[rnP,rn1];rw[hσ β (by simp[PV.refs,PV.sref])]
 |_=>rfl
theorem Q7q{B:List Nat}{F:Fr}{s β:Nat}(h:β∈(bse B F s).refs):B.contains β=false:=by
 cases hq:B.contains β with
 |false=>rfl
 |true=>
  unfold bse Qad at h
  split at h
  ·cases h
  ·rename_i hn;exact absurd (List.any_eq_true.2 ⟨β,h,hq⟩) hn
theorem Qye{B:List Nat}{F:Fr}{β δ:Nat}(hβ:B.contains β=true∨2000000<=β)(hβ2:β<1000000∨2000000<=β):mvF β δ (bse B F)=bse B F:=by
 funext s
 have hc:=Qi8 B F s
 refine Qab2 hc fun x hx=>if_neg fun e=> ?_
 subst e
 rcases hβ with hβ|hβ
 ·rcases List.mem_append.1 hx with h|h
  ·rw[Q7q h]at hβ;cases hβ
  ·have h1:=hc.2.1 x h
   simp[isS,isN]at h1;omega
 ·rcases List.mem_append.1 hx with h|h
  ·have:=hc.1 x h;simp[isN]at this;omega
  ·have:=hc.2.1 x h;simp[isS,isN]at this;omega
end Go.FW
namespace Go.FW
open Go
variable {C C' : Ctx} {ρ ρ' : Nat -> Option Nat} {fr fr' : Fr} {hp hp' : HP} {w : World} {K R : Qf}
def Qef(γ:Nat):PV->PV
 | .mso β o n=>if β=γ then .nso γ o n else .mso β o n
 | .mp β i o=>if β=γ then .np γ i o else .mp β i o
 | .rb β o n=>if β=γ then .undef else .rb β o n
 |p=>p
def Qdu(γ:Nat):PV->PV
 | .fn f a b=>Qan γ (.fn f a b)
 | .rag cs=> .rag (cs.map (Qef γ))
 | .nst γ' e ty xs=>if γ'=γ then .undef else .nst γ' e ty (xs.map fun x=>Qcp (x.ncells.map (Qef γ)))
 |p=>Qef γ p
def Qz2(γ:Nat)(x:PV)(fr:Fr):Fr:=fun s=>if s=γ then x else Qdu γ (fr s)
theorem Qvz {γ e ty:Nat} {xs:List PV} {fz:Bool} (hγ:hp γ=some ⟨e,ty,xs,fz⟩) (h0:xs≠[]) (h2:2000000<=γ) (hd:∀x∈xs,x.ncells=x.cells):Wk fr hp (Qz2 γ (.nst γ e ty xs) fr) (Qg hp γ ⟨e,ty,[],fz⟩):=by
 rintro C tmps w ⟨ρ,hs⟩
 have bγ:isB γ=true:=by simp[isB];omega
 have hown:=hs.own γ _ hγ
 have hblk:=hown.blk
 obtain⟨b,hρ⟩:∃b,ρ γ=some b:=by
  cases hq:ρ γ with
  |none=>rw[hq]at hblk;exact absurd hblk h0
  |some b=>exact⟨b,rfl⟩
 rw[hρ]at hblk
 obtain⟨b1,b2,cur,cap,c1,c2,c3,c4,c5⟩:=hblk
 have epos:=hown.epos
 obtain⟨hp',hpE⟩:∃f,f=Qg hp γ ⟨e,ty,[],fz⟩:=⟨_,rfl⟩
 rw[<-hpE]
 have pγ:hp' γ=some ⟨e,ty,[],fz⟩:=by rw[hpE];simp[Qg]
 have po:∀β,β≠γ->hp' β=hp β:=fun β hβ=>by rw[hpE];simp[Qg,hβ]
 have hX:Xof C ρ hp'=Xof C ρ hp:=by
  funext c;apply propext
  constructor
  ·rintro(hx|⟨β,hb,g1,g2,g3⟩)
   ·exact .inl hx
   ·by_cases hβ:β=γ
    ·subst hβ;rw[pγ]at g1;cases g1;exact .inr ⟨β,_,hγ,g2,g3⟩
    ·rw[po β hβ]at g1;exact .inr ⟨β,hb,g1,g2,g3⟩
  ·rintro(hx|⟨β,hb,g1,g2,g3⟩)
   ·exact .inl hx
   ·by_cases hβ:β=γ
    ·subst hβ;rw[hγ]at g1;cases g1;exact .inr ⟨β,_,pγ,g2,g3⟩
    ·exact .inr ⟨β,hb,by rw[po β hβ];exact g1,g2,g3⟩
 have hst:Qgq w w (Xof C ρ hp) (Xof C ρ hp'):=by rw[hX];exact⟨fun _ _ _=>rfl,fun _ _ hn=>hn,Nat.le_refl _⟩
 have c0:∀β,β≠γ->Cnd ρ ρ hp hp' w w β:=fun β hβ=>⟨rfl,fun hb hq=>⟨hb,by rw[po β hβ];exact hq,rfl,Nat.le_refl _,fun _ _ _ h=>h,fun h=>⟨h,rfl,fun _ _=>rfl⟩⟩⟩
 have toS:∀ {o n:Nat} {v:Value},Qcq ρ hp w γ o n v->Qhp ρ hp' w γ o n v:=by
  rintro o n v ⟨hb,g1,g2,g3⟩
  rw[hγ]at g1;cases g1
  rcases g3 with⟨g3,_⟩|⟨b',cp,g3,g4,g5,g6⟩
  ·rw[hρ]at g3;cases g3
  ·rw[hρ]at g3;cases g3
   refine⟨bγ,_,b,cp,pγ,hρ,g4,g5,g6,?_⟩
   obtain⟨cur',ty',d1,d2⟩:=g5
   rw[c1]at d1;cases d1
   have:cap=o+cp:=Nat.eq_of_mul_eq_mul_right epos (by rw[<-c2,<-d2])
   simp only at g2 c3
   omega
 have cell:∀ {p:PV} {v:Value},Qbl C ρ hp w p v->Qbl C ρ hp' w (Qef γ p) v:=by
  intro p v h
  cases p with
  |mso β o n=>
   by_cases hβ:β=γ
   ·subst hβ;simp only[Qef,if_true];exact toS h.2
   ·simp only[Qef,if_neg hβ];exact Qbl.move (p:= .mso β o n) h hst fun x hx=>by simp[PV.sref1]at hx;subst hx;exact(c0 _ hβ).weak
  | nso β o n=>
   by_cases hβ:β=γ
   ·obtain⟨_,hb,b',cp,k1,k2,k3,k4,k5,k6⟩:=h
    subst hβ
    rw[hγ]at k1;cases k1
    exact⟨bγ,_,b',cp,pγ,k2,k3,k4,k5,k6⟩
   ·exact Qbl.move (p:= .nso β o n) h hst fun x hx=>by simp[PV.sref1]at hx;subst hx;exact(c0 _ hβ).weak
  |mp=>cases h
  |rb=>cases h
  |np=>cases h
  |undef=>trivial
  |_=>exact Qbl.move h hst (fun x hx=>by cases hx)
 refine⟨ρ,hs.sz,hs.ext,hs.keep,fun β hb hβ=> ?_,fun β δ c g1 g2 g3 g4=> ?_,fun i=> ?_⟩
 ·by_cases hq:β=γ
  ·subst hq
   rw[pγ]at hβ;cases hβ
   refine⟨epos,(fun i x hx=>by simp at hx),?_,hown.fix,hown.ro⟩
   rw[hρ]
   exact⟨b1,b2,cur,cap,c1,c2,Nat.zero_le _,c4,fun i x hx=>by simp at hx⟩
  ·rw[po β hq]at hβ
   obtain⟨q1,q2,q3,q4,q5⟩:=hs.own β hb hβ
   refine⟨q1,q2,?_,q4,q5⟩
   cases hr:ρ β with
   |none=>rw[hr]at q3;exact q3
   |some c=>rw[hr]at q3;exact⟨q3.1,q3.2.1,q3.2.2.move rfl rfl rfl rfl hst.rc⟩
 ·have f:∀β,hp' β≠none->hp β≠none:=fun β hβ=>by
   by_cases hq:β=γ
   ·subst hq;simp[hγ]
   ·rwa[po β hq]at hβ
  exact hs.inj β δ c (f β g1) (f δ g2) g3 g4
 ·have hsl:=hs.slots i
  show Qm C ρ hp' w (Qz2 γ (.nst γ e ty xs) fr i) _
  unfold Qz2
  split
  ·refine⟨bγ,epos,b,_,cur,cap,hρ,pγ,rfl,rfl,rfl,c1,c2,c3,c4,fun k x hx=> ?_,fun k x hx j y hy=> ?_⟩
   ·rw[hd x (List.mem_of_getElem? hx)];exact(hown.len k x hx).1
   ·rw[hd x (List.mem_of_getElem? hx)]at hy
    have:=c5 k x hx j y hy
    have h3:Q2 w (Xof C ρ hp') y (cur.getD (k*e+j) undef):=by rw[hX];exact this
    cases y with
    |undef=>trivial
    |mso=>cases h3
    |nso=>cases h3
    |_=>exact h3
  ·generalize fr i=p at hsl
   cases p with
   |mso β o n=>
    by_cases hβ:β=γ
    ·subst hβ;simp only[Qdu,Qef,if_true];exact toS hsl
    ·simp only[Qdu,Qef,if_neg hβ];exact Qm.moveC hsl hst (fun x hx=>by simp[PV.refs]at hx;subst hx;exact(c0 _ hβ).o) (fun x hx=>by cases hx)
   | mp β k o=>
    by_cases hβ:β=γ
    ·subst hβ
     simp only[Qdu,Qef,if_true]
     obtain⟨b',hb,g1,g2,g3⟩:=hsl
     rw[hγ]at g2;cases g2
     exact⟨bγ,b',_,g1,pγ,g3⟩
    ·simp only[Qdu,Qef,if_neg hβ];exact Qm.moveC hsl hst (fun x hx=>by simp[PV.refs]at hx;subst hx;exact(c0 _ hβ).o) (fun x hx=>by cases hx)
   |rb β o n=>
    by_cases hβ:β=γ
    ·simp only[Qdu,Qef,if_pos hβ];trivial
    ·simp only[Qdu,Qef,if_neg hβ];exact Qm.moveC hsl hst (fun x hx=>by simp[PV.refs]at hx;subst hx;exact(c0 _ hβ).o) (fun x hx=>by cases hx)
   | np β k o=>
    by_cases hβ:β=γ
    ·subst hβ
     obtain⟨_,b',hb,g1,g2,g3⟩:=hsl
     rw[hγ]at g2;cases g2
     exact⟨bγ,b',_,g1,pγ,g3⟩
    ·refine Qm.moveC (p:= .np β k o) hsl hst (fun x hx=>by cases hx) (fun x hx=> ?_)
     have e1:x=β:=by simpa[PV.sref]using hx
     rw[e1];exact c0 _ hβ
   |nso β o n=>exact cell (p:= .nso β o n) hsl
   |rag cs=>
    obtain⟨vs,e1,h1,h3⟩:=hsl
    refine⟨vs,e1,by simpa using h1,fun k x hk=> ?_⟩
    simp only[List.getElem?_map,Option.map_eq_some_iff]at hk
    obtain⟨y,hy,rfl⟩:=hk
    exact cell (h3 k y hy)
   | nst β e' ty' ys=>
    simp only[Qdu]
    split
    ·trivial
    ·rename_i hβ
     obtain⟨k0,he,b',hb,cur',cap',k1,k2,k3,k4,k5,k6,k7,k8,k9,k10,k11⟩:=hsl
     have hnc:∀(k:Nat)(x:PV),ys[k]? =some x->(Qcp (x.ncells.map (Qef γ))).ncells=x.ncells.map (Qef γ):=fun k x hx=>by
      refine Qkx fun c hc=> ?_
      obtain⟨y,hy,rfl⟩:=List.mem_map.1 hc
      obtain⟨j,hj⟩:=List.getElem?_of_mem hy
      exact(cell (k11 k x hx j y hj)).one
     refine⟨k0,he,b',hb,cur',cap',k1,by rw[po β hβ];exact k2,k3,k4,k5,k6,k7,by simpa using k8,k9,fun k x hx=> ?_,fun k x hx j y hy=> ?_⟩
     ·simp only[List.getElem?_map,Option.map_eq_some_iff]at hx
      obtain⟨x0,hx0,rfl⟩:=hx
      rw[hnc k x0 hx0,List.length_map];exact k10 k x0 hx0
     ·simp only[List.getElem?_map,Option.map_eq_some_iff]at hx
      obtain⟨x0,hx0,rfl⟩:=hx
      rw[hnc k x0 hx0,List.getElem?_map,Option.map_eq_some_iff]at hy
      obtain⟨y0,hy0,rfl⟩:=hy
      exact cell (k11 k x0 hx0 j y0 hy0)
   | fn f a c=>
    simp only[Qdu,Qan]
    split
    ·trivial
    ·rename_i hn
     have hn':γ ∉ (PV.fn f a c).refs:=by simpa using hn
     by_cases hm:γ∈(PV.fn f a c).sref
     ·
      obtain⟨fv,cv,g1,g2,g3,g4,g5⟩:=hsl
      have cap1:∀ {x:PV} {v:Value},γ ∉ x.ref1->Qbf C ρ hp w x v->Qbf C ρ hp' w x v:=by
       intro x v hx h
       cases x with
       | np β k o=>
        by_cases hβ:β=γ
        ·subst hβ
         obtain⟨_,b',hb,k1,k2,k3⟩:=h
         rw[hγ]at k2;cases k2
         exact⟨bγ,b',_,k1,pγ,k3⟩
        ·exact Qbf.move (p:= .np β k o) h hst (fun x hx=>by cases hx) (fun x hx=>by simp[PV.nref1]at hx;subst hx;exact(c0 _ hβ).weak)
       |nso β o n=>
        exact cell (p:= .nso β o n) h
       |mp β k o=>exact Qbf.move (p:= .mp β k o) h hst (fun x hx'=>by simp[PV.ref1]at hx' hx;subst hx';exact(c0 _ (fun e=>hx e.symm)).o) (fun x hx=>by cases hx)
       |mso β k o=>exact Qbf.move (p:= .mso β k o) h hst (fun x hx'=>by simp[PV.ref1]at hx' hx;subst hx';exact(c0 _ (fun e=>hx e.symm)).o) (fun x hx=>by cases hx)
       |rb β k o=>exact Qbf.move (p:= .rb β k o) h hst (fun x hx'=>by simp[PV.ref1]at hx' hx;subst hx';exact(c0 _ (fun e=>hx e.symm)).o) (fun x hx=>by cases hx)
       |_=>exact Qbf.move h hst (fun x hx=>by cases hx) (fun x hx=>by cases hx)
      exact⟨fv,cv,g1,g2,g3,fun k x hk=>cap1 (fun hx=>hn' (Qhq hk γ hx)) (g4 k x hk),fun k x hk=>cap1 (fun hx=>hn' (Qji hk γ hx)) (g5 k x hk)⟩
     ·exact Qm.moveC hsl hst (fun x hx=>(c0 x (fun e=>hn' (e▸hx))).o) (fun x hx=>c0 x (fun e=>hm (e▸hx)))
   |_=>exact Qm.moveC hsl hst (fun x hx=>by cases hx) (fun x hx=>by cases hx)
theorem Qv0{γ e ty:Nat}{xs xs':List PV}(D:Nat->Option (Nat×Nat))(hfr:fr γ= .nst γ e ty xs)(hD:∀δ x,D δ=some x->hp δ=none/\2000000<=δ/\0<x.1)(hl:xs'.length=xs.length)
  (hx:∀(i:Nat)(x x':PV),xs[i]? =some x->xs'[i]? =some x'->x'.ncells.length=x.ncells.length/\∀(j:Nat)(y y':PV),x.ncells[j]? =some y->x'.ncells[j]? =some y'->y'=y∨(y= .nilS/\∃δ z,D δ=some z/\y'= .mso δ 0 0)):
  Wk fr hp (upd fr γ (.nst γ e ty xs')) (fun δ=>match D δ with|some x=>some ⟨x.1,x.2,[],false⟩|none=>hp δ):=by
 rintro C tmps w ⟨ρ,hs⟩
 obtain⟨hp',hpE⟩:∃f:HP,f=fun δ=>match D δ with|some x=>some ⟨x.1,x.2,[],false⟩|none=>hp δ:=⟨_,rfl⟩
 obtain⟨ρ',hρE⟩:∃f:Nat->Option Nat,f=fun δ=>if(D δ).isSome then none else ρ δ:=⟨_,rfl⟩
 rw[<-hpE]
 have pD:∀δ x,D δ=some x->hp' δ=some ⟨x.1,x.2,[],false⟩/\ρ' δ=none:=fun δ x hδ=>by rw[hpE,hρE];simp[hδ]
 have po:∀δ,D δ=none->hp' δ=hp δ/\ρ' δ=ρ δ:=fun δ hδ=>by rw[hpE,hρE];simp[hδ]
 have hk:∀β,hp β≠none->D β=none:=fun β hβ=>by
  cases hq:D β with
  |none=>rfl
  |some x=>exact absurd (hD β x hq).1 hβ
 have hX:∀c,Xof C ρ' hp' c->Xof C ρ hp c:=by
  rintro c (h|⟨β,hb,g1,g2,g3⟩)
  ·exact .inl h
  ·cases hq:D β with
   |none=>rw[(po β hq).1]at g1;rw[(po β hq).2]at g3;exact .inr ⟨β,hb,g1,g2,g3⟩
   |some x=>rw[(pD β x hq).2]at g3;cases g3
 have hst:Qgq w w (Xof C ρ hp) (Xof C ρ' hp'):=⟨fun _ _ _=>rfl,fun c _ hn h=>hn (hX c h),Nat.le_refl _⟩
 have c0:∀β,hp β≠none->Cnd ρ ρ' hp hp' w w β:=fun β hβ=>⟨(po β (hk β hβ)).2,fun hb hq=>⟨hb,by rw[(po β (hk β hβ)).1];exact hq,rfl,Nat.le_refl _,fun _ _ _ h=>h,fun h=>⟨h,rfl,fun _ _=>rfl⟩⟩⟩
 refine⟨ρ',hs.sz,hs.ext,hs.keep,fun β hb hβ=> ?_,fun β δ c g1 g2 g3 g4=> ?_,fun i=> ?_⟩
 ·cases hq:D β with
  |some x=>
   rw[(pD β x hq).1]at hβ;cases hβ
   obtain⟨_,d2,d3⟩:=hD β x hq
   refine⟨d3,(fun i x hx=>by simp at hx),?_,(fun h=>by simp[isY]at h;omega),fun h=>by simp[isR]at h;omega⟩
   rw[(pD β x hq).2]
  |none=>
   rw[(po β hq).1]at hβ
   obtain⟨q1,q2,q3,q4,q5⟩:=hs.own β hb hβ
   refine⟨q1,q2,?_,(by rw[(po β hq).2];exact q4),q5⟩
   rw[(po β hq).2]
   cases hr:ρ β with
   |none=>rw[hr]at q3;exact q3
   |some c=>rw[hr]at q3;exact⟨q3.1,q3.2.1,q3.2.2.move rfl rfl rfl rfl hst.rc⟩
 ·have f:∀β,hp' β≠none->∀c,ρ' β=some c->hp β≠none/\ρ β=some c:=fun β hβ c hc=>by
   cases hq:D β with
   |none=>rw[(po β hq).1]at hβ;rw[(po β hq).2]at hc;exact⟨hβ,hc⟩
   |some x=>rw[(pD β x hq).2]at hc;cases hc
  exact hs.inj β δ c (f β g1 c g3).1 (f δ g2 c g4).1 (f β g1 c g3).2 (f δ g2 c g4).2
 ·have hkn:=(hs.slots i).known
  have old:Qm C ρ' hp' w (fr i) (tmps.getD i undef):=(hs.slots i).moveC hst (fun β hβ=>(c0 β (hkn.1 β hβ)).o) (fun β hβ=>c0 β (hkn.2 β hβ))
  unfold upd
  split
  ·rename_i hi;subst hi
   rw[hfr]at old
   obtain⟨k0,he,b',hb,cur',cap',k1,k2,k3,k4,k5,k6,k7,k8,k9,k10,k11⟩:=old
   have hget:∀(k:Nat)(x':PV),xs'[k]? =some x'->∃x,xs[k]? =some x:=fun k x' hk'=>by
    have:k<xs.length:=by have:=(List.getElem?_eq_some_iff.1 hk').1;omega
    exact⟨_,List.getElem?_eq_getElem this⟩
   refine⟨k0,he,b',hb,cur',cap',k1,k2,k3,k4,k5,k6,k7,by omega,k9,fun k x' hk'=> ?_,fun k x' hk' j y' hy'=> ?_⟩
   ·obtain⟨x,hxk⟩:=hget k x' hk'
    rw[(hx k x x' hxk hk').1];exact k10 k x hxk
   ·obtain⟨x,hxk⟩:=hget k x' hk'
    obtain⟨l1,l2⟩:=hx k x x' hxk hk'
    have hj:j<x.ncells.length:=by have:=(List.getElem?_eq_some_iff.1 hy').1;omega
    have hy:=List.getElem?_eq_getElem hj
    have hr:=k11 k x hxk j _ hy
    rcases l2 j _ y' hy hy' with e1|⟨e1,δ,z,e2,e3⟩
    ·rw[e1];exact hr
    ·rw[e1]at hr
     obtain⟨_,d2,_⟩:=hD δ z e2
     rw[e3]
     have hv:cur'.getD (k*e+j) undef= .slice none 0 0:=by
      generalize cur'.getD (k*e+j) undef=u at hr
      cases hr;rfl
     exact⟨by simp[isB];omega,_,(pD δ z e2).1,Nat.le_refl _,.inl ⟨(pD δ z e2).2,hv,rfl,rfl⟩⟩
  ·exact old
def mkA:List PV->PV
 | [c]=>c
 |cs=> .agg cs
def dsn(fr:Fr)(hp:HP):Nat->PV->PV
 |0,p=>p
 | k+1,p=>match p with
  | .mso β o n=>match hp β with
   |some hb=> .sl hb.e ((hb.xs.drop o).take n)
   |none=> .undef
  | .nso γ o n=>match fr γ with
   | .nst _ e _ xs=> .sl e (((xs.drop o).take n).map fun x=>mkA (x.ncells.map (dsn fr hp k)))
   |_=> .undef
  |p=>p
def rch(fr:Fr):Nat->PV->List Nat
 |0,_=>[]
 | k+1,p=>match p with
  | .mso β _ _=>[β]
  | .nso γ o n=>match fr γ with
   | .nst _ _ _ xs=>γ::(((xs.drop o).take n).flatMap fun x=>x.ncells.flatMap (rch fr k))
   |_=>[]
  |_=>[]
def okD(fr:Fr):Nat->PV->Prop
 |0,p=>match p with
  | .undef| .mso _ _ _| .nso _ _ _=>False
  |_=>True
 | k+1,p=>match p with
  | .undef=>False
  | .mso β _ _=>isY β=false
  | .nso γ o n=>match fr γ with
   | .nst γ' _ _ xs=>γ'=γ/\isY γ=false/\o+n<=xs.length/\∀x∈(xs.drop o).take n,∀c∈x.ncells,okD fr k c
   |_=>False
  |_=>True
theorem Qab3{tmps:Array Value}(h:Q4 C ρ fr hp tmps w){β b:Nat}{hb:HB}{l:List Nat}(hB:isY β=false)(hβ:hp β=some hb)(hl:β∈l)(hρ:ρ β=some b):¬Xof C ρ (Q9 hp l) b:=by
 have hblk:=(h.own β hb hβ).blk
 rw[hρ]at hblk
 rintro(hx|⟨γ,hg,h1,h2,h3⟩)
 ·exact Ctx.cls_notX hblk.1 (Qlb hB) hx
 ·obtain⟨hg0,g1,_,_,_,_,g6⟩:=Qgk h1
  have:=h.inj γ β b (by simp[g1]) (by simp[hβ]) h3 hρ
  subst this
  exact g6 h2 hl
theorem Q28{cs:List PV}(h:∀c∈cs,c.cells=[c]):(mkA cs).cells=cs:=by
 match cs,h with
 | [],_=>rfl
 | [c],h=>exact h c (by simp)
 |_::_::_,_=>rfl
theorem Qot{tmps:Array Value}(h:Q4 C ρ fr hp tmps w){l:List Nat}:∀(k:Nat) {p:PV} {v:Value},Qbl C ρ hp w p v->okD fr k p->(∀β∈rch fr k p,β∈l)->Q2 w (Xof C ρ (Q9 hp l)) (dsn fr hp k p) v
 |0,p,v,hr,ho,_=>by
  cases p with
  |undef=>cases ho
  |mso=>cases ho
  |nso=>cases ho
  |_=>exact Q2.freeze hr
 | k +1,p,v,hr,ho,hl=>by
  cases p with
  |undef=>cases ho
  |mso β o n=>
   obtain⟨hb,hβ⟩:∃hb,hp β=some hb:=by obtain⟨_,hb,h1,_⟩:=hr;exact⟨hb,h1⟩
   have:=Qcq.snap h hr.2 ho (hl β (by simp[rch])) hβ
   simp only[dsn,hβ];exact this
  | nso γ o n=>
   simp only[okD]at ho
   split at ho
   ·rename_i γ' e ty xs hγ
    obtain⟨rfl,hY,ho1,ho2⟩:=ho
    have hsl:=h.slots γ'
    rw[hγ]at hsl
    obtain⟨k0,he,b,hb,cur,cap,k1,k2,k3,k4,k5,k6,k7,k8,k9,k10,k11⟩:=hsl
    obtain⟨_,hb2,b2,cap2,g1,g2,rfl,g4,g5,g6⟩:=hr
    rw[k2]at g1;cases g1
    rw[k1]at g2;cases g2
    have hmem:γ'∈l:=hl γ' (by simp[rch,hγ])
    have hX:=Qab3 (l:=l) h hY k2 hmem k1
    have hlt:=(Array.getElem?_eq_some_iff.1 k6).1
    obtain⟨cur',ty',d1,d2⟩:=g4
    rw[k6]at d1;cases d1
    rw[k4]at d2
    have hcc:cap=o+cap2:=Nat.eq_of_mul_eq_mul_right he (by rw[<-k7,<-d2])
    have key:∀i (x:PV),((xs.drop o).take n)[i]? =some x->i<n/\xs[o+i]? =some x:=fun i x hx=>by
     have hi:i<n:=by have:=(List.getElem?_eq_some_iff.1 hx).1;simp at this;omega
     rw[List.getElem?_take_of_lt hi,List.getElem?_drop]at hx
     exact⟨hi,hx⟩
    have cel:∀i (x:PV),((xs.drop o).take n)[i]? =some x->∀j (y:PV),x.ncells[j]? =some y->Q2 w (Xof C ρ (Q9 hp l)) (dsn fr hp k y) (cur.getD ((o+i)*e+j) undef):=fun i x hx j y hy=>by
     have hxm:=List.mem_of_getElem? hx
     refine Qot h k (k11 (o+i) x (key i x hx).2 j y hy) (ho2 x hxm y (List.mem_of_getElem? hy)) fun β hβ=>hl β ?_
     simp only[rch,hγ]
     exact List.mem_cons_of_mem _ (List.mem_flatMap.2 ⟨x,hxm,List.mem_flatMap.2 ⟨y,List.mem_of_getElem? hy,hβ⟩⟩)
    have hnc:∀i (x:PV),((xs.drop o).take n)[i]? =some x->(mkA (x.ncells.map (dsn fr hp k))).cells=x.ncells.map (dsn fr hp k):=fun i x hx=>by
     refine Q28 fun c hc=> ?_
     obtain⟨y,hy,rfl⟩:=List.mem_map.1 hc
     obtain⟨j,hj⟩:=List.getElem?_of_mem hy
     exact(cel i x hx j y hj).oneCell.2.2
    simp only[dsn,hγ]
    have hlen:(((xs.drop o).take n).map fun x=>mkA (x.ncells.map (dsn fr hp k))).length=n:=by simp;omega
    have:=Q2.sl (w:=w) (X:=Xof C ρ (Q9 hp l)) e (((xs.drop o).take n).map fun x=>mkA (x.ncells.map (dsn fr hp k))) b (o*hb.e) cap2 (fun i j=>cur.getD ((o+i)*e+j) undef) hX hlt (by omega) (by omega)
     (fun i x hx=>by
      simp only[List.getElem?_map,Option.map_eq_some_iff]at hx
      obtain⟨x0,hx0,rfl⟩:=hx
      rw[hnc i x0 hx0,List.length_map];exact k10 _ x0 (key i x0 hx0).2)
     (fun i hi j hj=>by
      rw[hlen]at hi
      rw[k4]
      have:=Qez (i:=o+i) (e:=e) (o:=0) (j:=j) (n:=e) (cap:=cap) (by omega) (by omega) hj
      rw[Nat.add_zero]at this
      rw[show o*e+i*e+j=(o+i)*e+j by rw[Nat.add_mul]]
      exact Qa7 k6 (by rw[k7];exact this))
     (fun i x hx j y hy=>by
      simp only[List.getElem?_map,Option.map_eq_some_iff]at hx
      obtain⟨x0,hx0,rfl⟩:=hx
      rw[hnc i x0 hx0,List.getElem?_map,Option.map_eq_some_iff]at hy
      obtain⟨y0,hy0,rfl⟩:=hy
      exact cel i x0 hx0 j y0 hy0)
    rw[hlen]at this
    exact this
   ·exact ho.elim
  |_=>exact Q2.freeze hr
def Qjw(fr:Fr)(hp:HP)(k:Nat):PV->PV
 | .rag cs=> .agg (cs.map (dsn fr hp k))
 |p=>dsn fr hp k p
def Qsi(fr:Fr)(k:Nat):PV->List Nat
 | .rag cs=>cs.flatMap (rch fr k)
 |p=>rch fr k p
def Qnx(fr:Fr)(k:Nat):PV->Prop
 | .rag cs=>∀c∈cs,okD fr k c
 | .nso γ o n=>okD fr k (.nso γ o n)
 |_=>False
theorem Qv1(s k:Nat)(ho:Qnx fr k (fr s)):Wk fr hp (upd fr s (Qjw fr hp k (fr s))) (Q9 hp (Qsi fr k (fr s))):=by
 rintro C tmps w ⟨ρ,hs⟩
 have hf:=hs.freeze (Qsi fr k (fr s))
 refine⟨ρ,hf.sz,hf.ext,hf.keep,hf.own,hf.inj,fun i=> ?_⟩
 unfold upd
 split
 ·rename_i hi;subst hi
  have hsl:=hs.slots i
  generalize hp0:fr i=p at *
  cases p with
  |rag cs=>
   obtain⟨vs,e1,h1,h2⟩:=hsl
   refine⟨vs,e1,by simpa using h1,fun j x hj=> ?_⟩
   simp only[List.getElem?_map,Option.map_eq_some_iff]at hj
   obtain⟨y,hy,rfl⟩:=hj
   exact Qot hs k (h2 j y hy) (ho y (List.mem_of_getElem? hy)) fun β hβ=>List.mem_flatMap.2 ⟨y,List.mem_of_getElem? hy,hβ⟩
  |nso γ o n=>
   have:=Qot (l:=rch fr k (.nso γ o n)) hs k (p:= .nso γ o n) hsl ho (fun β hβ=>hβ)
   exact Qm.ofData (Qag.of_c this)
  |_=>cases ho
 ·exact hf.slots i
end Go.FW
namespace Go.FW
open Go
variable {C : Ctx} {ρ : Nat -> Option Nat} {fr fr' : Fr} {hp hp' : HP} {w w' : World} {K R : Qf}
def Qky(args:List PV)(G:Fr):Fr:=fun s=>if s<1000000 then(args[s]?).getD .undef else G s
def Qfb(r:PV)(F:Fr):Fr:=fun s=>if s=0 then r else if s<1000000 then .undef else F s
def Ctx.setN(C:Ctx)(n:Nat)(hn:n<=1000000):Ctx:={ C with N:=n,hN:=hn }
theorem Ql0.setN{C:Ctx}{n:Nat}{hn:n<=1000000}{β:Nat}{hb:HB}:Ql0 (C.setN n hn) ρ hp w β hb↔Ql0 C ρ hp w β hb:=⟨fun h=>⟨h.epos,h.len,h.blk,h.fix,h.ro⟩,fun h=>⟨h.epos,h.len,h.blk,h.fix,h.ro⟩⟩
def Qbr(P:Program)(f:FuncId)(args:List PV)(G:Fr)(hp0:HP)(Post:PV->Fr->HP->Prop):Prop:=
 Qjo P f/\∀(C:Ctx)(ρ:Nat->Option Nat)(vals:Array Value)(w:World),C.P=P->C.w0=w->C.N=args.length->Q4 C ρ (Qky args G) hp0 vals w->
  Calls P f vals w fun e w'=>∃v ρ' r F H,e= .returned v/\Q4 (C.setN 1 (by decide)) ρ' (Qfb r F) H #[v] w'/\Post r F H
def Qjx(rs:List RV)(Post:PV->Fr->HP->Prop):Qf:=fun fr hp=>∃fr' hp',Wk fr hp fr' hp'/\
 (Qdc rs (fun r=>Post r fr' (Q9 hp' (rs.flatMap (lr fr')))) fr' hp'∨∃s,rs=[.t s]/\Post (fr' s) fr' hp')
theorem Qd4{rs:List RV}{Post:PV->Fr->HP->Prop}(h:Qdc rs (fun r=>Post r fr (Q9 hp (rs.flatMap (lr fr)))) fr hp):Qjx rs Post fr hp:=⟨fr,hp,Wk.refl _ _,.inl h⟩
theorem Qyf{rs:List RV}{Post:PV->Fr->HP->Prop}{fr0:Fr}{hp0:HP}(hw:Wk fr hp fr0 hp0)(h:Qjx rs Post fr0 hp0):Qjx rs Post fr hp:=by
 obtain⟨f,h',h1,h2⟩:=h
 exact⟨f,h',hw.trans h1,h2⟩
theorem Qmv{s:Nat}{Post:PV->Fr->HP->Prop}(h:Post (fr s) fr hp):Qjx [.t s] Post fr hp:=⟨fr,hp,Wk.refl _ _,.inr ⟨s,rfl,h⟩⟩
theorem Qab4{rs:List RV}{Post:PV->Fr->HP->Prop}:KM (Qjx rs Post) (Qjx rs Post):=by
 rintro f f' hp hf ⟨fr',hp',h1,h2⟩
 exact⟨fr',hp',hf.wk.trans h1,h2⟩
theorem Qr{rs:List RV}{Post:PV->Fr->HP->Prop}:Qdk (Qjx rs Post) []:=⟨Qab4,.nil⟩
theorem Qdb {P : Program} {f : FuncId} {fn : Func} {sf : SFn} {args : List PV} {G : Fr} {hp0 : HP} {Post : PV -> Fr -> HP -> Prop} (hm : P.follows .mixedOrders = true) (hf : P.funcs[f]? = some fn) (hname : (fn.name != "runtime.NumGoroutine") = true) (hc : Qe P fn = some sf.strip) (hn : args.length <= sf.n /\ sf.n <= 1000000)
  (hv:∀C:Ctx,C.P=P->vc C (Qjx sf.rs Post) [.c sf.body] (Qky args G) hp0):Qbr P f args G hp0 Post:=by
 simp only[Qe,Option.bind_eq_some_iff,Option.map_eq_some_iff]at hc
 obtain⟨c,hb,sb,hcb,rs,hrs,hsf⟩:=hc
 obtain⟨n,rs',body⟩:=sf
 simp only[SFn.strip,SFn.mk.injEq]at hsf
 obtain⟨rfl,rfl,rfl⟩:=hsf
 refine⟨by simp[Qjo,hf,hb];simpa using hname,fun C ρ vals w hP hw hN hs=> ?_⟩
 subst hP
 refine calls_of_wp hf hb ?_
 have hvs:vals.size=args.length:=by rw[hs.sz,hN]
 have hsz':(vals++Array.replicate (fn.ntmps-vals.size) undef).size=fn.ntmps:=by simp at hn ⊢;omega
 have hsim:Q4 (C.setN fn.ntmps hn.2) ρ (Qky args G) hp0 (vals++Array.replicate (fn.ntmps-vals.size) undef) w:=by
  refine⟨hsz',hs.ext,hs.keep,fun β hb h=>Ql0.setN.2 (hs.own β hb h),hs.inj,fun i=> ?_⟩
  have hsl:=hs.slots i
  by_cases hi:i<args.length
  ·have e:(vals++Array.replicate (fn.ntmps-vals.size) undef).getD i undef=vals.getD i undef:=by
    rw[Qbb,if_pos (by omega)]
   rw[e];exact hsl
  ·unfold Qky at hsl⊢
   split
   ·rw[List.getElem?_eq_none (by omega)];trivial
   ·rename_i h2
    rw[if_neg h2]at hsl
    have e1:vals.getD i undef=undef:=by simp[Array.getD,hvs,hi]
    have e2:(vals++Array.replicate (fn.ntmps-vals.size) undef).getD i undef=undef:=by
     simp only[Array.getD];rw[dif_neg (by rw[hsz'];simp at hn;omega)]
    rw[e2];rw[e1]at hsl;exact hsl
 have fin:∀(fr:Fr) (hp:HP) (a:Act) (w':World),a.defers=[]->Sim (C.setN fn.ntmps hn.2) fr hp a.tmps w'->Qjx rs Post fr hp->
   a.defers=[]/\∃v,(results fn a.tmps).run C.P w'= .ok v w'/\∃v' ρ' r F H,Ending.returned v= .returned v'/\Q4 (C.setN 1 (by decide)) ρ' (Qfb r F) H #[v'] w'/\Post r F H:=by
  rintro fr hp a w' hd hs0 ⟨fr1,hp1,hw1,hr⟩
  obtain⟨ρ1,hs1⟩:=hw1 _ _ _ hs0
  have ghost:∀ {hp2:HP} {r:PV} {v:Value},Q4 (C.setN fn.ntmps hn.2) ρ1 fr1 hp2 a.tmps w'->Qm C ρ1 hp2 w' r v->Q4 (C.setN 1 (by decide)) ρ1 (Qfb r fr1) hp2 #[v] w':=by
   intro hp2 r v hs2 hv2
   refine⟨rfl,hs2.ext,hs2.keep,fun β hb h=>Ql0.setN.2 (Ql0.setN.1 (hs2.own β hb h)),hs2.inj,fun i=> ?_⟩
   unfold Qfb
   split
   ·rename_i hi;subst hi;exact hv2
   ·split
    ·trivial
    ·rename_i h0 h1
     have hsl:=hs2.slots i
     have e1:a.tmps.getD i undef=undef:=by
      have hz:a.tmps.size=fn.ntmps:=hs2.sz
      have hn2:fn.ntmps<=1000000:=hn.2
      simp only[Array.getD];rw[dif_neg (by omega)]
     have e2:(#[v]:Array Value).getD i undef=undef:=by
      simp only[Array.getD];rw[dif_neg (by simp;omega)]
     rw[e2];rw[e1]at hsl;exact hsl
  rcases hr with hr|⟨s,hrs1,hpost⟩
  ·obtain⟨v,r,h1,h2,_,h3⟩:=Ql9 (C:=C.setN fn.ntmps hn.2) rfl hrs hs1 hr
   refine⟨hd,v,h1,v,ρ1,r,fr1,_,rfl,ghost (hs1.freeze _) (Qm.ofV h2),h3⟩
  ·subst hrs1
   obtain⟨x,hx⟩:∃x,fn.results.toList=[x]:=by
    have:=Qcw hrs
    exact List.length_eq_one_iff.1 (by rw[<-this.1];rfl)
   have hx2:Qbk C.P x=some (.t s):=by
    rw[hx]at hrs
    simp only[List.mapM_cons,List.mapM_nil,Option.bind_eq_bind,Option.pure_def,Option.bind_eq_some_iff,Option.some.injEq]at hrs
    obtain⟨y,h1,_,_,h2⟩:=hrs
    simp only[List.cons.injEq]at h2
    rw[<-h2.1];exact h1
   have hx3:x= .tmp s:=by
    cases x with
    |tmp t=>simpa[Qbk]using hx2
    |cell y t=>simp[Qbk,Option.bind_eq_some_iff]at hx2
   subst hx3
   have hres:(results fn a.tmps).run C.P w'= .ok (a.tmps.getD s undef) w':=by
    have e:results fn a.tmps=(do let vs<-fn.results.mapM (Qjp a.tmps);pure (if h:vs.size=1 then vs[0]else .tuple vs)):=rfl
    rw[e,Array.mapM_eq_mapM_toList,hx]
    simp[Sem.run_bind,Qjp]
   exact⟨hd,_,hres,_,ρ1,_,fr1,hp1,rfl,ghost hs1 (hs1.slots s),hpost⟩
 exact Qkp (C:=C.setN fn.ntmps hn.2) (R:=Qjx rs Post) hm c body [] _ (Qky args G) hp0 _ w hcb ⟨fun fr hp a w' hd hs hv=>(by rw[Qif]at hv;exact fin fr hp a w' hd hs hv),fun id sk' he=>(by simp[FW.Qah]at he),fin⟩ rfl ⟨ρ,hsim⟩ (hv (C.setN fn.ntmps hn.2) rfl)
structure Qmw(C:Ctx)(hp:HP)(hp0:HP)(gv:Nat->Option Nat):Prop where
 g:∀β γ,gv β=some γ->∃hb,hp γ=some hb/\isB β=true/\(isR β=true->hp0 β=some ⟨hb.e,hb.ty,hb.xs,true⟩)/\(isR β=false->hp0 β=some hb/\hb.fz=false/\isB γ=true/\(isY β=false->isY γ=false))
 a:∀β,hp0 β≠none->∃γ,gv β=some γ
 i:∀β β' γ,gv β=some γ->gv β'=some γ->β=β'
def gn(gv:Nat->Option Nat):Nat->Option Nat:=fun β=>if isR β=true then none else gv β
theorem Qi9{gv:Nat->Option Nat}{β γ:Nat}(h:gn gv β=some γ):isR β=false/\gv β=some γ:=by
 unfold gn at h
 split at h
 ·cases h
 ·rename_i hr;exact⟨by simpa using hr,h⟩
theorem Qkg{gv:Nat->Option Nat}{β:Nat}(h:isR β=false):gn gv β=gv β:=by unfold gn;rw[h];rfl
theorem Qmw.n{C:Ctx}{hp hp0:HP}{gv:Nat->Option Nat}(hh:Qmw C hp hp0 gv)(β γ:Nat)(h:gn gv β=some γ):∃hb,hp0 β=some hb/\hp γ=some hb/\hb.fz=false/\isB β=true/\isB γ=true/\(isY β=false->isY γ=false):=by
 obtain⟨hr,h⟩:=Qi9 h
 obtain⟨hb,h1,h2,_,h4⟩:=hh.g β γ h
 obtain⟨k1,k2,k3,k4⟩:=h4 hr
 exact⟨hb,k1,h1,k2,h2,k3,k4⟩
theorem Qmw.s{C:Ctx}{hp hp0:HP}{gv:Nat->Option Nat}(hh:Qmw C hp hp0 gv)(β γ:Nat)(h:gv β=some γ):∃hb hb',hp γ=some hb/\hp0 β=some hb'/\hb'.e=hb.e/\hb'.ty=hb.ty/\hb'.xs=hb.xs/\(hb'.fz=false->hb=hb'/\isR β=false)/\(isR β=true->hb'.fz=true)/\isB β=true:=by
 obtain⟨hb,h1,h2,h3,h4⟩:=hh.g β γ h
 cases hr:isR β with
 |true=>exact⟨hb,_,h1,h3 hr,rfl,rfl,rfl,(fun h=>by cases h),fun _=>rfl,h2⟩
 |false=>
  obtain⟨k1,k2,_⟩:=h4 hr
  exact⟨hb,hb,h1,k1,rfl,rfl,rfl,(fun _=>⟨rfl,rfl⟩),(fun h=>by cases h),h2⟩
def Qny (C:Ctx) (ρ:Nat->Option Nat) (fr:Fr) (hp hp0:HP) (tmps:Array Value) (w:World) (gv:Nat->Option Nat) (hs:Q4 C ρ fr hp tmps w) (hh:Qmw C hp hp0 gv) (n:Nat) (hn:n<=1000000):Ctx where
 P:=C.P
 N:=n
 w0:=w
 X0:=fun b=>Xof C ρ hp b/\¬∃β γ,gn gv β=some γ/\ρ γ=some b
 hX0:=fun b hb=>Qnp hs b hb.1
 hN:=hn
 fx:=fun β=>if isY β=true then(gv β).bind ρ else none
 hfx:=fun β b h=>by
  split at h
  ·cases hq:gv β with
   |none=>rw[hq]at h;cases h
   |some γ=>
    rw[hq]at h
    obtain⟨hb,h2,_⟩:=hh.g β γ hq
    have:=(hs.own γ hb h2).blk
    rw[show ρ γ=some b from h]at this
    exact⟨this.2.1,fun hr hx=>hx.2 ⟨β,γ,(Qkg hr).trans hq,h⟩⟩
  ·cases h
 Z0:=fun b=>∃β γ,gn gv β=some γ/\isY β=false/\ρ γ=some b
 hZ0:=fun b ⟨β,γ,h1,h2,h3⟩=>by
  obtain⟨hb,_,k2,_⟩:=hh.n β γ h1
  have:=(hs.own γ hb k2).blk
  rw[h3]at this
  refine⟨this.2.1,fun hx=>hx.2 ⟨β,γ,h1,h3⟩,fun β' hf=> ?_⟩
  split at hf
  ·rename_i hy
   cases hq:gv β' with
   |none=>rw[hq]at hf;cases hf
   |some γ'=>
    rw[hq]at hf
    obtain⟨hb',k2',_⟩:=hh.g β' γ' hq
    have e:=hs.inj γ γ' b (by simp[k2]) (by simp[k2']) h3 hf
    subst e
    have e2:=hh.i β β' γ (Qi9 h1).2 hq
    subst e2
    rw[h2]at hy;cases hy
  ·cases hf
theorem Qz3{tmps:Array Value}{w:World}{hp0:HP}{gv:Nat->Option Nat}{τ:Nat->Nat}{args:List PV}{pargs:List PV}{G:Fr}{av:Array Value}(hs:Q4 C ρ fr hp tmps w)(hh:Qmw C hp hp0 gv)
  (hτ:∀β γ,gv β=some γ->τ γ=β) (hsz:av.size=args.length) (hargs:args.map (rnP τ)=pargs) (hav:∀(i:Nat)(x:PV),args[i]? =some x->Qm C ρ hp w x (av.getD i undef))
  (hna:∀x∈args,∀γ∈x.refs++x.sref,∃β,gv β=some γ) (hG:∀s,1000000<=s->G s= .undef∨∃s',1000000<=s'/\G s=rnP τ (fr s')/\∀γ∈(fr s').refs++(fr s').sref,∃β,gv β=some γ) (hpl:pargs.length<=1000000):
  Q4 (Qny C ρ fr hp hp0 tmps w gv hs hh pargs.length hpl) (fun β=>(gv β).bind ρ) (Qky pargs G) hp0 av w:=by
 subst hargs
 have hX:∀b,Xof (Qny C ρ fr hp hp0 tmps w gv hs hh (args.map (rnP τ)).length hpl) (fun β=>(gv β).bind ρ) hp0 b->Xof C ρ hp b:=by
  rintro b (hx|⟨β,hb,h1,h2,h3⟩)
  ·exact hx.1
  ·cases hq:gv β with
   |none=>simp only[hq]at h3;cases h3
   |some γ=>
    simp only[hq,Option.bind_some]at h3
    obtain⟨hb1,hb',k2,k1,_,_,_,k6,_⟩:=hh.s β γ hq
    rw[h1]at k1;cases k1
    exact .inr ⟨γ,hb1,k2,by rw[(k6 h2).1];exact h2,h3⟩
 have hr:∀γ,(∃β,gv β=some γ)->Rn1 τ ρ (fun β=>(gv β).bind ρ) hp hp0 γ:=fun γ ⟨β,hβ⟩=>by
  obtain⟨hb,hb2,k2,k1,k3,k4,k5,_,_,k8⟩:=hh.s β γ hβ
  refine⟨?_,fun hb' h'=> ?_,fun _=>by rw[hτ β γ hβ];exact k8⟩
  ·show(gv (τ γ)).bind ρ=ρ γ
   rw[hτ β γ hβ,hβ];rfl
  ·rw[k2]at h';cases h'
   exact⟨hb2,by rw[hτ β γ hβ];exact k1,k3,k4,k5⟩
 refine⟨by rw[hsz];simp[Qny],Ext.refl _ _,fun _ _ _ _ _ h=>h,fun β hb hβ=> ?_,fun β δ b h1 h2 h3 h4=> ?_,fun i=> ?_⟩
 ·obtain⟨γ,hγ⟩:=hh.a β (by simp[hβ])
  obtain⟨hb1,hb',k2,k1,k3,k4,k5,k6,k7,_⟩:=hh.s β γ hγ
  rw[hβ]at k1;cases k1
  obtain⟨q1,q2,q3,q4,q5⟩:=hs.own γ hb1 k2
  refine⟨by rw[k3];exact q1,by rw[k3,k5];exact q2,?_,fun hy=> ?_,k7⟩
  ·simp only[hγ,Option.bind_some]
   cases hr:ρ γ with
   |none=>rw[hr]at q3;rw[k5];exact q3
   | some b=>
    rw[hr]at q3
    refine⟨?_,q3.2.1,q3.2.2.move rfl k3 k4 k5 fun q u hq=>Q2.sub hq hX⟩
    unfold Ctx.cls
    split
    ·rename_i hy
     show(if isY β=true then(gv β).bind ρ else none)=some b
     rw[if_pos hy,hγ];exact hr
    ·rename_i hy
     exact .inr ⟨β,γ,(Qkg (Qlb (by simpa using hy))).trans hγ,by simpa using hy,hr⟩
  ·show(gv β).bind ρ=(if isY β=true then(gv β).bind ρ else none)
   rw[if_pos hy]
 ·obtain⟨γ1,e1⟩:=hh.a β h1
  obtain⟨γ2,e2⟩:=hh.a δ h2
  simp only[e1,Option.bind_some]at h3
  simp only[e2,Option.bind_some]at h4
  obtain⟨hb1,k1,_⟩:=hh.g β γ1 e1
  obtain⟨hb2,k2,_⟩:=hh.g δ γ2 e2
  have:=hs.inj γ1 γ2 b (by simp[k1]) (by simp[k2]) h3 h4
  subst this
  exact hh.i β δ γ1 e1 e2
 ·unfold Qky
  split
  ·rw[List.getElem?_map]
   cases hi:args[i]? with
   |none=>trivial
   |some x=>
    simp only[Option.map_some,Option.getD_some]
    exact(hav i x hi).ren hX fun γ hγ=>hr γ (hna x (List.mem_of_getElem? hi) γ hγ)
  ·rename_i hi
   have e1:av.getD i undef=undef:=by
    simp only[Array.getD];rw[dif_neg (by simp at hpl;omega)]
   rcases hG i (by omega)with e|⟨s',hs',e,hn⟩
   ·rw[e];trivial
   ·rw[e,e1]
    have hsl:=hs.slots s'
    have e2:tmps.getD s' undef=undef:=by
     simp only[Array.getD];rw[dif_neg (by rw[hs.sz];have:=C.hN;omega)]
    rw[e2]at hsl
    exact hsl.ren hX fun γ hγ=>hr γ (hn γ hγ)
theorem Q29{tmps:Array Value}{hp0 H hp2:HP}{gv eo:Nat->Option Nat}{σ:Nat->Nat}{F fr2:Fr}{r:PV}{v:Value}{d:Option Nat}{n:Nat}{hn:n<=1000000}{ρ2:Nat->Option Nat}(hs:Q4 C ρ fr hp tmps w)(hh:Qmw C hp hp0 gv)
  (h2:Q4 ((Qny C ρ fr hp hp0 tmps w gv hs hh n hn).setN 1 (by decide)) ρ2 (Qfb r F) H #[v] w') (hd:∀x,d=some x->x<C.N)
  (e1:∀γ β,eo γ=some β->H β≠none/\σ β=γ/\isB γ=true/\((isY β=true/\gn gv β=some γ)∨(isY β=false/\isY γ=false/\(hp γ=none∨∃β',gn gv β'=some γ))))
  (e2:∀β γ,gn gv β=some γ->isY β=true->eo γ=some β)
  (q1:∀γ β,eo γ=some β->hp2 γ=H β) (q2:∀γ,eo γ=none->(∃β,gn gv β=some γ)->hp2 γ=none) (q3:∀γ,eo γ=none->(¬∃β,gn gv β=some γ)->hp2 γ=hp γ)
  (hS:∀s,fr2 s= .undef∨
   (d≠some s/\fr2 s=fr s/\(∀γ∈(fr s).refs++(fr s).sref,(¬∃β,gn gv β=some γ)∨∃β hb hb',gn gv β=some γ/\isY β=true/\hp γ=some hb/\H β=some hb'/\hb'.e=hb.e/\hb.xs.length<=hb'.xs.length)/\∀γ e ty xs,fr s= .nst γ e ty xs->¬∃β,gn gv β=some γ)∨
   (d=some s/\fr2 s=rnP σ r/\∀β∈r.refs++r.sref,eo (σ β)=some β)∨
   (∃s',1000000<=s'/\(∃γ e ty xs,F s'= .nst γ e ty xs)/\fr2 s=rnP σ (F s')/\∀β∈(F s').refs++(F s').sref,eo (σ β)=some β)):
  Sim C fr2 hp2 (Qni tmps d v) w':=by
 obtain⟨Yg,hYg⟩:∃f:Nat->Prop,f=fun b=>∃β γ,gn gv β=some γ/\ρ γ=some b:=⟨_,rfl⟩
 have yX:∀b,Yg b->Xof C ρ hp b:=fun b hb=>by
  rw[hYg]at hb
  obtain⟨β,γ,h1,h3⟩:=hb
  obtain⟨hb,_,k2,k3,_⟩:=hh.n β γ h1
  exact .inr ⟨γ,hb,k2,k3,h3⟩
 have hext:Ext Yg w w':=h2.ext.mono fun b _ hb=>by
  rw[hYg]
  rcases hb with⟨β,hr,hb⟩|⟨β,γ,h1,_,h3⟩
  ·have hb:(if isY β=true then(gv β).bind ρ else none)=some b:=hb
   split at hb
   ·cases hq:gv β with
    |none=>rw[hq]at hb;cases hb
    |some γ=>rw[hq]at hb;exact⟨β,γ,(Qkg hr).trans hq,hb⟩
   ·cases hb
  ·exact⟨β,γ,h1,h3⟩
 have ycls:∀b,Yg b->∃β γ,gn gv β=some γ/\ρ γ=some b/\C.cls γ b/\hp γ≠none/\isR γ=false:=fun b hb=>by
  rw[hYg]at hb
  obtain⟨β,γ,h1,h3⟩:=hb
  obtain⟨hb,_,k2,k3,_⟩:=hh.n β γ h1
  have:=(hs.own γ hb k2).blk
  rw[h3]at this
  refine⟨β,γ,h1,h3,this.1,by simp[k2],?_⟩
  cases hR:isR γ with
  |false=>rfl
  |true=>have:=(hs.own γ hb k2).ro hR;rw[k3]at this;cases this
 have nogive:∀γ b,hp γ≠none->(¬∃β,gn gv β=some γ)->ρ γ=some b->¬Yg b:=fun γ b hk hng hr hy=>by
  obtain⟨β,γ',h1,h3,_,h5,_⟩:=ycls b hy
  have:=hs.inj γ γ' b hk h5 hr h3
  subst this
  exact hng ⟨β,h1⟩
 have own2:∀β hb,H β=some hb->Ql0 (Qny C ρ fr hp hp0 tmps w gv hs hh n hn) ρ2 H w' β hb:=fun β hb h=>Ql0.setN.1 (h2.own β hb h)
 have fixY:∀β γ,isY β=true->gn gv β=some γ->H β≠none->ρ2 β=ρ γ:=fun β γ hy hg hH=>by
  obtain⟨hb,hq⟩:=Option.ne_none_iff_exists'.1 hH
  have:=(own2 β hb hq).fix hy
  rw[this]
  show(if isY β=true then(gv β).bind ρ else none)=ρ γ
  rw[if_pos hy,(Qi9 hg).2];rfl
 have clsN:∀β hb b,isY β=false->H β=some hb->ρ2 β=some b->w.heap.size<=b∨Yg b:=fun β hb b hy hH hr=>by
  have:=(own2 β hb hH).blk
  rw[hr]at this
  rcases Ctx.cls_N this.1 hy with h|⟨β',γ',k1,_,k3⟩
  ·exact .inl h
  ·exact .inr (by rw[hYg];exact⟨β',γ',k1,k3⟩)
 have clsNN:∀β hb b,isY β=false->H β=some hb->ρ2 β=some b->C.w0.heap.size<=b∨C.Z0 b:=fun β hb b hy hH hr=>by
  have:=(own2 β hb hH).blk
  rw[hr]at this
  rcases Ctx.cls_N this.1 hy with h|⟨β',γ',k1,k2,k3⟩
  ·exact .inl (Nat.le_trans hs.ext.size h)
  ·obtain⟨hb',_,l2,_,_,_,l6⟩:=hh.n β' γ' k1
   have:=(hs.own γ' hb' l2).blk
   rw[k3]at this
   exact Ctx.cls_N this.1 (l6 k2)
 obtain⟨ρ',hρ⟩:∃f:Nat->Option Nat,f=fun γ=>match eo γ with|some β=>ρ2 β|none=>ρ γ:=⟨_,rfl⟩
 have rs:∀γ β,eo γ=some β->ρ' γ=ρ2 β:=fun γ β h=>by rw[hρ];simp[h]
 have rn:∀γ,eo γ=none->ρ' γ=ρ γ:=fun γ h=>by rw[hρ];simp[h]
 have hXs:∀b,Xof C ρ' hp2 b->Xof (Qny C ρ fr hp hp0 tmps w gv hs hh n hn) ρ2 H b:=by
  rintro b (hx|⟨γ,hb,h1,h3,h4⟩)
  ·refine .inl ⟨.inl hx,fun hy=> ?_⟩
   obtain⟨_,γ,_,_,h5,_,h7⟩:=ycls b (by rw[hYg];exact hy)
   exact Ctx.cls_notX h5 h7 hx
  ·cases hq:eo γ with
   |some β=>rw[q1 γ β hq]at h1;rw[rs γ β hq]at h4;exact .inr ⟨β,hb,h1,h3,h4⟩
   | none=>
    rw[rn γ hq]at h4
    by_cases hg:∃β,gn gv β=some γ
    ·rw[q2 γ hq hg]at h1;cases h1
    ·rw[q3 γ hq hg]at h1
     exact .inl ⟨.inr ⟨γ,hb,h1,h3,h4⟩,fun hy=>nogive γ b (by simp[h1]) hg h4 (by rw[hYg];exact hy)⟩
 have hXb:∀b,b<w.heap.size->Xof C ρ' hp2 b->Xof C ρ hp b:=fun b hb hx=>by
  rcases hXs b hx with hx|⟨β,hbk,h1,h3,h4⟩
  ·exact hx.1
  ·by_cases hy:isY β=true
   ·have:=(own2 β hbk h1).fix hy
    rw[h4]at this
    have this:some b=(if isY β=true then(gv β).bind ρ else none):=this
    rw[if_pos hy]at this
    have hR:isR β=false:=by
     cases hR:isR β with
     |false=>rfl
     |true=>have:=(own2 β hbk h1).ro hR;rw[h3]at this;cases this
    cases hq:gv β with
    |none=>rw[hq]at this;cases this
    |some γ=>rw[hq]at this;exact yX b (by rw[hYg];exact⟨β,γ,(Qkg hR).trans hq,this.symm⟩)
   ·rcases clsN β hbk b (by simpa using hy) h1 h4 with h|h
    ·omega
    ·exact yX b h
 have hst:Qgq w w' (Xof C ρ hp) (Xof C ρ' hp2):=⟨fun b hb hnx=>hext.block b hb fun hy=>hnx (yX b hy),fun b hb hnx hx=>hnx (hXb b hb hx),hext.size⟩
 have capK:∀β γ b,isY β=true->gn gv β=some γ->ρ γ=some b->∀e cap,Qa5 w b e cap->Qa5 w' b e cap:=fun β γ b hy hg hr e cap hc=>by
  refine h2.keep β b ?_ e cap hc
  show(if isY β=true then(gv β).bind ρ else none)=some b
  rw[if_pos hy,(Qi9 hg).2];exact hr
 refine⟨ρ',?_,?_,fun β b hb e cap hc=> ?_,fun γ hb hγ=> ?_,fun γ δ b g1 g2 g3 g4=> ?_,fun s=> ?_⟩
 ·cases d with
  |none=>exact hs.sz
  |some d=>simp only[Qni];simpa using hs.sz
 ·refine hs.ext.trans' hext fun b hb hy=> ?_
  obtain⟨_,_,_,_,h5,_,h7⟩:=ycls b hy
  exact(Ctx.cls_or h5 h7).resolve_left (by omega)
 ·have h1:=hs.keep β b hb e cap hc
  by_cases hy:Yg b
  ·obtain⟨β1,γ1,k1,k3,k4,k5,_⟩:=ycls b hy
   by_cases hY:isY β1=true
   ·exact capK β1 γ1 b hY k1 k3 e cap h1
   ·obtain⟨_,_,_,_,_,_,l6⟩:=hh.n β1 γ1 k1
    exact absurd hb (Ctx.N_fx (Ctx.cls_N k4 (l6 (by simpa using hY))))
  ·exact Qbo (hext.block b (Qcu h1) hy) h1
 ·cases hq:eo γ with
  | some β=>
   have hH:H β=some hb:=by rw[<-q1 γ β hq];exact hγ
   obtain⟨k1,k2,k3,k4⟩:=e1 γ β hq
   obtain⟨o1,o2,o3,o4,o5⟩:=own2 β hb hH
   refine⟨o1,o2,?_,fun hy=> ?_,fun hR=> ?_⟩
   ·rw[rs γ β hq]
    cases hr:ρ2 β with
    |none=>rw[hr]at o3;exact o3
    | some b=>
     rw[hr]at o3
     refine⟨?_,o3.2.1,o3.2.2.move rfl rfl rfl rfl fun q u hq=>Q2.sub hq hXs⟩
     rcases k4 with⟨k4,k5⟩|⟨k4,k5,_⟩
     ·have e:=fixY β γ k4 k5 k1
      rw[hr]at e
      obtain⟨hb',_,l2,_⟩:=hh.n β γ k5
      have:=(hs.own γ hb' l2).blk
      rw[<-e]at this
      exact this.1
     ·exact Ctx.cls_mk (clsNN β hb b k4 hH hr) k5
   ·rcases k4 with⟨k4,k5⟩|⟨_,k5,_⟩
    ·rw[rs γ β hq,fixY β γ k4 k5 k1]
     obtain⟨hb',_,l2,_⟩:=hh.n β γ k5
     exact(hs.own γ hb' l2).fix hy
    ·rw[k5]at hy;cases hy
   ·rcases k4 with⟨k4,k5⟩|⟨_,k5,_⟩
    ·obtain⟨hb',_,l2,l3,_⟩:=hh.n β γ k5
     have:=(hs.own γ hb' l2).ro hR
     rw[l3]at this;cases this
    ·rw[Qlb k5]at hR;cases hR
  | none=>
   by_cases hg:∃β,gn gv β=some γ
   ·rw[q2 γ hq hg]at hγ;cases hγ
   ·rw[q3 γ hq hg]at hγ
    obtain⟨o1,o2,o3,o4,o5⟩:=hs.own γ hb hγ
    refine⟨o1,o2,?_,(fun hy=>by rw[rn γ hq];exact o4 hy),o5⟩
    rw[rn γ hq]
    cases hr:ρ γ with
    |none=>rw[hr]at o3;exact o3
    |some b=>
     rw[hr]at o3
     exact⟨o3.1,Nat.lt_of_lt_of_le o3.2.1 hext.size,o3.2.2.move (hext.block b o3.2.1 (nogive γ b (by simp[hγ]) hg hr)) rfl rfl rfl hst.rc⟩
 ·have cross:∀γ δ β,eo γ=some β->eo δ=none->hp2 δ≠none->ρ2 β=some b->ρ δ=some b->False:=fun γ δ β h1 h3 h5 h6 h7=>by
   have hg:¬∃β,gn gv β=some δ:=fun hg=>h5 (q2 δ h3 hg)
   rw[q3 δ h3 hg]at h5
   obtain⟨k1,k2,k3,k4⟩:=e1 γ β h1
   obtain⟨hb,hH⟩:=Option.ne_none_iff_exists'.1 k1
   rcases k4 with⟨k4,k5⟩|⟨k4,k5,_⟩
   ·rw[fixY β γ k4 k5 k1]at h6
    obtain⟨hb',_,l2,_⟩:=hh.n β γ k5
    have:=hs.inj γ δ b (by simp[l2]) h5 h6 h7
    subst this
    exact hg ⟨β,k5⟩
   ·rcases clsN β hb b k4 hH h6 with h|h
    ·obtain⟨hb',hq⟩:=Option.ne_none_iff_exists'.1 h5
     have:=(hs.own δ hb' hq).blk
     rw[h7]at this
     omega
    ·exact nogive δ b h5 hg h7 h
  cases h1:eo γ with
  | some β=>
   rw[rs γ β h1]at g3
   cases h3:eo δ with
   |some β'=>
    rw[rs δ β' h3]at g4
    have:=h2.inj β β' b (e1 γ β h1).1 (e1 δ β' h3).1 g3 g4
    rw[<-(e1 γ β h1).2.1,<-(e1 δ β' h3).2.1,this]
   |none=>rw[rn δ h3]at g4;exact(cross γ δ β h1 h3 g2 g3 g4).elim
  | none=>
   rw[rn γ h1]at g3
   cases h3:eo δ with
   |some β'=>rw[rs δ β' h3]at g4;exact(cross δ γ β' h3 h1 g1 g4 g3).elim
   | none=>
    rw[rn δ h3]at g4
    have k:∀γ,eo γ=none->hp2 γ≠none->hp γ≠none:=fun γ h hq=>by
     by_cases hg:∃β,gn gv β=some γ
     ·exact absurd (q2 γ h hg) hq
     ·rwa[q3 γ h hg]at hq
    exact hs.inj γ δ b (k γ h1 g1) (k δ h3 g2) g3 g4
 ·have hr2:∀β,eo (σ β)=some β->Rn1 σ ρ2 ρ' H hp2 β:=fun β h=>⟨rs _ _ h,(fun hb hq=>⟨hb,by rw[q1 _ _ h];exact hq,rfl,rfl,rfl⟩),fun _=>(e1 _ _ h).2.2.1⟩
  rcases hS s with e|⟨k1,k2,k3,k4⟩|⟨k1,k2,k3⟩|⟨s',k1,k2,k3,k4⟩
  ·rw[e];trivial
  ·have hv:(Qni tmps d v).getD s undef=tmps.getD s undef:=by
    cases d with
    |none=>rfl
    |some x=>
     simp only[Qni,Array.getD_eq_getD_getElem?]
     rw[Array.getElem?_setIfInBounds_ne (fun e=>k1 (by rw[e]))]
   rw[hv,k2]
   have hsl:=hs.slots s
   have hkn:=hsl.known
   have ful:∀γ,hp γ≠none->(¬∃β,gn gv β=some γ)->Cnd ρ ρ' hp hp2 w w' γ:=fun γ hk hg=>by
    have heo:eo γ=none:=by
     cases hq:eo γ with
     |none=>rfl
     |some β=>
      rcases(e1 γ β hq).2.2.2 with⟨_,h⟩|⟨_,_,h|h⟩
      ·exact absurd ⟨β,h⟩ hg
      ·exact absurd h hk
      ·exact absurd h hg
    refine⟨rn γ heo,fun hb hq=>⟨hb,by rw[q3 γ heo hg];exact hq,rfl,Nat.le_refl _,fun b cap hr hc=>Qbo (hext.block b (Qcu hc) (nogive γ b hk hg hr)) hc,fun he=>⟨he,rfl,fun b hr=>hext.block b ?_ (nogive γ b hk hg hr)⟩⟩⟩
    have:=(hs.own γ hb hq).blk
    rw[hr]at this
    exact this.2.1
   have par:∀γ,hp γ≠none->((¬∃β,gn gv β=some γ)∨∃β hb hb',gn gv β=some γ/\isY β=true/\hp γ=some hb/\H β=some hb'/\hb'.e=hb.e/\hb.xs.length<=hb'.xs.length)->Ql1 ρ ρ' hp hp2 w w' γ:=fun γ hk h=>by
    rcases h with h|⟨β,hb,hb',l1,l2,l3,l4,l5,l6⟩
    ·exact(ful γ hk h).weak
    ·have heo:=e2 β γ l1 l2
     refine⟨by rw[rs γ β heo];exact fixY β γ l2 l1 (by simp[l4]),fun hb0 hq=> ?_⟩
     rw[l3]at hq;cases hq
     exact⟨hb',by rw[q1 γ β heo];exact l4,l5,l6,fun b cap hr hc=>capK β γ b l2 l1 hr _ cap hc⟩
   refine hsl.move hst (fun γ hγ=> ?_) (fun γ hγ=>par γ (hkn.2 γ hγ) (k3 γ (List.mem_append_right _ hγ))) (fun γ e ty xs e0=>ful γ (hkn.2 γ (by rw[e0];simp[PV.sref])) (k4 γ e ty xs e0))
   have:=par γ (hkn.1 γ hγ) (k3 γ (List.mem_append_left _ hγ))
   exact⟨this.r,this.h⟩
  ·subst k1
   have hv:(Qni tmps (some s) v).getD s undef=v:=by
    have:=hd s rfl
    simp[Qni,Array.getD,hs.sz,this]
   rw[hv,k2]
   have:=h2.slots 0
   exact Qm.ren (C':=C) (ρ':=ρ') (hp':=hp2) this hXs fun β hβ=>hr2 β (k3 β hβ)
  ·obtain⟨γ,e,ty,xs,hF⟩:=k2
   rw[k3]
   have:=h2.slots s'
   have e0:Qfb r F s'=F s':=by unfold Qfb;rw[if_neg (by omega),if_neg (by omega)]
   rw[e0]at this
   have h3:=Qm.ren (C':=C) (ρ':=ρ') (hp':=hp2) this hXs fun β hβ=>hr2 β (k4 β hβ)
   rw[hF]at h3⊢
   exact h3
theorem Q3a{tmps:Array Value}{hp0 H:HP}{gv:Nat->Option Nat}{F:Fr}{r:PV}{v:Value}{n:Nat}{hn:n<=1000000}{ρ2:Nat->Option Nat}(hs:Q4 C ρ fr hp tmps w)(hh:Qmw C hp hp0 gv)
  (h2:Q4 ((Qny C ρ fr hp hp0 tmps w gv hs hh n hn).setN 1 (by decide)) ρ2 (Qfb r F) H #[v] w') (h0:∀β,gn gv β=none):Ext Qbd w w':=h2.ext.mono fun b _ hb=>by
 rcases hb with⟨β,hr,hb⟩|⟨β,γ,h1,_,h3⟩
 ·have hb:(if isY β=true then(gv β).bind ρ else none)=some b:=hb
  have e:=(Qkg (gv:=gv) hr).symm
  rw[e,h0 β]at hb
  split at hb<;>cases hb
 ·rw[h0 β]at h1;cases h1
end Go.FW
namespace Go.FW
open Go
variable {C : Ctx} {ρ : Nat -> Option Nat} {fr fr' : Fr} {hp hp' : HP} {w w' : World} {K R : Qf}
theorem Qq9{P:Program}{pr:Bool}(hP:C.P=P){g:FuncId}{args pargs:List PV}{d:Option Nat}{G:Fr}{hp0:HP}{Post:PV->Fr->HP->Prop}(h:Qbr P g pargs G hp0 Post)(gv:Nat->Option Nat)(τ:Nat->Nat)(hh:Qmw C hp hp0 gv)
  (hτ:∀β γ,gv β=some γ->τ γ=β) (hargs:args.map (rnP τ)=pargs) (hna:∀x∈args,∀γ∈x.refs++x.sref,∃β,gv β=some γ)
  (hG:∀s,1000000<=s->G s= .undef∨∃s',1000000<=s'/\G s=rnP τ (fr s')/\∀γ∈(fr s').refs++(fr s').sref,∃β,gv β=some γ) (hpl:pargs.length<=1000000) (hpr:pr=true->∀β,gn gv β=none)
  (hK:∀(ρ:Nat->Option Nat) (tmps:Array Value) (w:World),Q4 C ρ fr hp tmps w->∀r F H,Post r F H->(∀ρ2 C2 v w',Q4 C2 ρ2 (Qfb r F) H #[v] w'->(∀β,C2.fx β≠none->H β≠none->True)->True)->∃(eo:Nat->Option Nat) (σ:Nat->Nat) (fr2:Fr) (hp2:HP),
   (∀γ β,eo γ=some β->H β≠none/\σ β=γ/\isB γ=true/\((isY β=true/\gn gv β=some γ)∨(isY β=false/\isY γ=false/\(hp γ=none∨∃β',gn gv β'=some γ))))/\
   (∀β γ,gn gv β=some γ->isY β=true->eo γ=some β)/\
   (∀γ β,eo γ=some β->hp2 γ=H β)/\(∀γ,eo γ=none->(∃β,gn gv β=some γ)->hp2 γ=none)/\(∀γ,eo γ=none->(¬∃β,gn gv β=some γ)->hp2 γ=hp γ)/\
   (∀s,fr2 s= .undef∨
    (d≠some s/\fr2 s=fr s/\(∀γ∈(fr s).refs++(fr s).sref,(¬∃β,gn gv β=some γ)∨∃β hb hb',gn gv β=some γ/\isY β=true/\hp γ=some hb/\H β=some hb'/\hb'.e=hb.e/\hb.xs.length<=hb'.xs.length)/\∀γ e ty xs,fr s= .nst γ e ty xs->¬∃β,gn gv β=some γ)∨
    (d=some s/\fr2 s=rnP σ r/\∀β∈r.refs++r.sref,eo (σ β)=some β)∨
    (∃s',1000000<=s'/\(∃γ e ty xs,F s'= .nst γ e ty xs)/\fr2 s=rnP σ (F s')/\∀β∈(F s').refs++(F s').sref,eo (σ β)=some β))/\
   K fr2 hp2):Qcj C pr (.fn g [] []) args d fr hp K:=by
 subst hP
 refine⟨h.1,fun ρ tmps w fv cv av hdN hs h1 h2 h3 _ _ hr3=> ?_⟩
 have e1:fv= #[]:=Array.eq_empty_of_size_eq_zero (by simpa using h1)
 have e2:cv= #[]:=Array.eq_empty_of_size_eq_zero (by simpa using h2)
 subst e1;subst e2
 simp only[Array.empty_append,Array.append_empty]
 refine(h.2 (Qny C ρ fr hp hp0 tmps w gv hs hh pargs.length hpl) _ av w rfl rfl rfl (Qz3 hs hh hτ h3 hargs hr3 hna hG hpl)).mono ?_
 rintro e w' ⟨v,ρ',r,F,H,rfl,hs2,hpost⟩
 obtain⟨eo,σ,fr2,hp2,a1,a2,a3,a4,a5,a6,a7⟩:=hK ρ tmps w hs r F H hpost (fun _ _ _ _ _ _=>trivial)
 exact⟨v,fr2,hp2,rfl,Q29 hs hh hs2 hdN a1 a2 a3 a4 a5 a6,fun hq=>Q3a hs hh hs2 (hpr hq),a7⟩
def Qfc(r:PV):Prop:=(r.refs=[]/\r.sref=[])/\∀σ,rnP σ r=r
theorem Q3b{gv:Nat->Option Nat}(h:∀β γ,gv β=some γ->isR β=false):gn gv=gv:=by
 funext β
 cases hr:isR β with
 |false=>exact Qkg hr
 |true=>
  unfold gn
  rw[if_pos hr]
  cases hq:gv β with
  |none=>rfl
  |some γ=>have:=h β γ hq;rw[hr]at this;cases this
theorem Qv2{P:Program}(hP:C.P=P){pr:Bool}{g:FuncId}{args pargs:List PV}{d:Option Nat}{G:Fr}{hp0:HP}{Post:PV->Fr->HP->Prop}(h:Qbr P g pargs G hp0 Post)(gv:Nat->Option Nat)(τ:Nat->Nat)
  (hR:∀β γ,gv β=some γ->isR β=true/\∃hb,hp γ=some hb/\hp0 β=some ⟨hb.e,hb.ty,hb.xs,true⟩) (ha:∀β,hp0 β≠none->∃γ,gv β=some γ) (hi:∀β β' γ,gv β=some γ->gv β'=some γ->β=β')
  (hτ:∀β γ,gv β=some γ->τ γ=β) (hargs:args.map (rnP τ)=pargs) (hna:∀x∈args,∀γ∈x.refs++x.sref,∃β,gv β=some γ)
  (hG:∀s,1000000<=s->G s= .undef∨∃s',1000000<=s'/\G s=rnP τ (fr s')/\∀γ∈(fr s').refs++(fr s').sref,∃β,gv β=some γ) (hpl:pargs.length<=1000000)
  (hK:∀r F H,Post r F H->Qfc r/\K (Qbp fr d r) hp):Qcj C pr (.fn g [] []) args d fr hp K:=by
 have g0:∀β,gn gv β=none:=fun β=>by
  unfold gn
  split
  ·rfl
  ·rename_i hr
   cases hq:gv β with
   |none=>rfl
   |some γ=>exact absurd (hR β γ hq).1 hr
 have nog:∀γ:Nat,¬∃β,gn gv β=some γ:=fun γ ⟨β,hβ⟩=>by rw[g0 β]at hβ;cases hβ
 refine Qq9 hP h gv τ ⟨fun β γ hq=> ?_,ha,hi⟩ hτ hargs hna hG hpl (fun _=>g0) (fun ρ tmps w hs r F H hpost _=> ?_)
 ·obtain⟨h1,hb,h2,h3⟩:=hR β γ hq
  refine⟨hb,h2,?_,fun _=>h3,fun h=>by rw[h1]at h;cases h⟩
  simp[isR]at h1;simp[isB];omega
 ·obtain⟨⟨⟨p1,p2⟩,p3⟩,hk⟩:=hK r F H hpost
  refine⟨fun _=>none,id,Qbp fr d r,hp,(fun _ _ h=>by cases h),(fun β γ h=>by rw[g0 β]at h;cases h),(fun _ _ h=>by cases h),fun γ _ h=>absurd h (nog γ),fun _ _ _=>rfl,fun s=> ?_,hk⟩
  cases d with
  |none=>exact .inr (.inl ⟨(by simp),rfl,fun γ _=> .inl (nog γ),fun γ _ _ _ _=>nog γ⟩)
  | some d=>
   by_cases e:s=d
   ·subst e
    refine .inr (.inr (.inl ⟨rfl,?_,fun β hβ=>by rw[p1,p2]at hβ;cases hβ⟩))
    rw[p3];simp[Qbp,upd]
   ·exact .inr (.inl ⟨by simp;exact fun h=>e h.symm,by simp[Qbp,upd,e],fun γ _=> .inl (nog γ),fun γ _ _ _ _=>nog γ⟩)
def Qsj(P:Program)(f:FuncId)(args:List PV)(hb1 hb2:HB)(Post:PV->List PV->Prop):Prop:=
 Qbr P f args (fun _=> .undef) (Qg (Qg hp0 1000000 hb1) 1500001 ⟨hb2.e,hb2.ty,hb2.xs,true⟩) fun r F H=>Qfc r/\∃xs,H 1000000=some ⟨hb1.e,hb1.ty,xs,false⟩/\xs.length=hb1.xs.length/\Post r xs
theorem Qafc{P:Program}(hP:C.P=P){g:FuncId}{args pargs:List PV}{d:Option Nat}{β1 β2:Nat}{hb1 hb2:HB}{Post:PV->List PV->Prop}(h:Qsj P g pargs hb1 hb2 Post)(h1:hp β1=some hb1)(h2:hp β2=some hb2)(hne:β1≠β2)(f1:hb1.fz=false)(n1:hb1.xs≠[])(B1:isB β1=true)
  (hargs:args.map (rnP fun x=>if x=β1 then 1000000 else if x=β2 then 1500001 else x)=pargs) (hna:∀γ∈args.flatMap (fun x=>x.refs++x.sref),γ=β1∨γ=β2) (hpl:pargs.length<=1000000)
  (hK:∀r xs,xs.length=hb1.xs.length->Post r xs->K (Qbp fr d r) (Qg hp β1 ⟨hb1.e,hb1.ty,xs,false⟩)):Qcj C false (.fn g [] []) args d fr hp K:=by
 obtain⟨gv,hgv⟩:∃f:Nat->Option Nat,f=fun x=>if x=1000000 then some β1 else if x=1500001 then some β2 else none:=⟨_,rfl⟩
 have ga:∀β γ,gv β=some γ->(β=1000000/\γ=β1)∨(β=1500001/\γ=β2):=fun β γ hq=>by
  rw[hgv]at hq;simp only at hq
  split at hq
  ·cases hq;rename_i e;exact .inl ⟨e,rfl⟩
  ·split at hq
   ·cases hq;rename_i e;exact .inr ⟨e,rfl⟩
   ·cases hq
 have g0:gv 1000000=some β1:=by rw[hgv];rfl
 have g1:gv 1500001=some β2:=by rw[hgv];rfl
 have y0:isY 1000000=true:=by decide
 have r0:isR 1000000=false:=by decide
 have r1:isR 1500001=true:=by decide
 have gna:∀β γ,gn gv β=some γ->β=1000000/\γ=β1:=fun β γ hq=>by
  obtain⟨k1,k2⟩:=Qi9 hq
  rcases ga β γ k2 with h|⟨rfl,_⟩
  ·exact h
  ·rw[r1]at k1;cases k1
 have gn0:gn gv 1000000=some β1:=(Qkg r0).trans g0
 refine Qq9 hP h gv _ ⟨fun β γ hq=> ?_,fun β hq=> ?_,fun β β' γ q1 q2=> ?_⟩ (fun β γ hq=> ?_) hargs (fun x hx γ hγ=> ?_) (fun s _=> .inl rfl) hpl (fun hq=>by cases hq) (fun ρ tmps w hs r F H hp0 _=> ?_)
 ·rcases ga β γ hq with⟨rfl,rfl⟩|⟨rfl,rfl⟩
  ·exact⟨hb1,h1,by decide,(fun h=>by rw[r0]at h;cases h),fun _=>⟨by simp[Qg],f1,B1,fun h=>by rw[y0]at h;cases h⟩⟩
  ·exact⟨hb2,h2,by decide,(fun _=>by simp[Qg]),fun h=>by rw[r1]at h;cases h⟩
 ·by_cases e:β=1500001
  ·subst e;exact⟨_,g1⟩
  ·by_cases e2:β=1000000
   ·subst e2;exact⟨_,g0⟩
   ·simp[Qg,FW.hp0,e,e2]at hq
 ·rcases ga β γ q1 with⟨rfl,rfl⟩|⟨rfl,rfl⟩<;>rcases ga β' _ q2 with⟨rfl,e⟩|⟨rfl,e⟩
  ·rfl
  ·exact absurd e hne
  ·exact absurd e.symm hne
  ·rfl
 ·rcases ga β γ hq with⟨rfl,rfl⟩|⟨rfl,rfl⟩
  ·simp
  ·rw[if_neg (fun e=>hne e.symm),if_pos rfl]
 ·rcases hna γ (List.mem_flatMap.2 ⟨x,hx,hγ⟩)with rfl|rfl
  ·exact⟨_,g0⟩
  ·exact⟨_,g1⟩
 ·obtain⟨⟨⟨p1,p2⟩,p3⟩,xs,k1,k2,k4⟩:=hp0
  obtain⟨eo,heo⟩:∃f:Nat->Option Nat,f=fun γ=>if γ=β1 then some 1000000 else none:=⟨_,rfl⟩
  have ea:∀γ β,eo γ=some β->γ=β1/\β=1000000:=fun γ β hq=>by
   rw[heo]at hq;simp only at hq
   split at hq
   ·cases hq;rename_i e;exact⟨e,rfl⟩
   ·cases hq
  have eb1:eo β1=some 1000000:=by rw[heo];simp
  refine⟨eo,fun x=>β1,Qbp fr d r,Qg hp β1 ⟨hb1.e,hb1.ty,xs,false⟩,fun γ β hq=> ?_,fun β γ hq _=> ?_,fun γ β hq=> ?_,fun γ hq hg=> ?_,fun γ hq hg=> ?_,fun s=> ?_,hK r xs k2 k4⟩
  ·obtain⟨rfl,rfl⟩:=ea γ β hq
   exact⟨by simp[k1],rfl,B1,.inl ⟨y0,gn0⟩⟩
  ·obtain⟨rfl,rfl⟩:=gna β γ hq
   exact eb1
  ·obtain⟨rfl,rfl⟩:=ea γ β hq
   rw[k1];simp[Qg]
  ·obtain⟨β,hβ⟩:=hg
   obtain⟨rfl,rfl⟩:=gna β γ hβ
   rw[eb1]at hq;cases hq
  ·have:γ≠β1:=fun e=>by subst e;rw[eb1]at hq;cases hq
   simp[Qg,this]
  ·have hsl:=hs.slots s
   have hn:∀γ e ty xs,fr s= .nst γ e ty xs->¬∃β,gn gv β=some γ:=fun γ e ty xs e0 ⟨β,hβ⟩=>by
    rw[e0]at hsl
    obtain⟨_,_,b,hb,_,_,_,l2,l3,_⟩:=hsl
    obtain⟨rfl,rfl⟩:=gna β γ hβ
    rw[h1]at l2;cases l2;exact n1 l3
   have ho:∀γ∈(fr s).refs++(fr s).sref,(¬∃β,gn gv β=some γ)∨∃β hb hb',gn gv β=some γ/\isY β=true/\hp γ=some hb/\H β=some hb'/\hb'.e=hb.e/\hb.xs.length<=hb'.xs.length:=fun γ _=>by
    by_cases e:γ=β1
    ·subst e;exact .inr ⟨_,_,_,gn0,y0,h1,k1,rfl,by simp[k2]⟩
    ·left
     rintro⟨β,hβ⟩
     exact e (gna β γ hβ).2
   cases d with
   |none=>exact .inr (.inl ⟨(by simp),rfl,ho,hn⟩)
   | some d=>
    by_cases e:s=d
    ·subst e
     refine .inr (.inr (.inl ⟨rfl,?_,fun β hβ=>by rw[p1,p2]at hβ;cases hβ⟩))
     rw[p3]
     simp[Qbp,upd]
    ·exact .inr (.inl ⟨by simp;exact fun h=>e h.symm,by simp[Qbp,upd,e],ho,hn⟩)
def Qmx(nm:Nat->Bool)(p:PV):PV:=if(p.refs++p.sref).any nm then .undef else p
def Qdd(nm:Nat->Bool)(fr:Fr):Fr:=fun s=>Qmx nm (fr s)
def exH(nm ex:Nat->Bool)(H hp:HP):HP:=fun x=>if ex x then H x else if nm x then none else hp x
def exF(S:List Nat)(F fr:Fr):Fr:=fun s=>if S.contains s then F s else fr s
theorem Q9l(p:PV):rn1 id p=p:=Q27 fun _ _=>rfl
theorem Q9m{p:PV}(h:∀γ e ty xs,p≠ .nst γ e ty xs):rnP id p=p:=by
 have hm:∀l:List PV,l.map (rn1 id)=l:=fun l=>by
  conv=>rhs;rw[<-List.map_id l]
  exact List.map_congr_left fun x _=>Q9l x
 cases p with
 |nst γ e ty xs=>exact absurd rfl (h _ _ _ _)
 |fn f a b=>simp only[rnP,hm]
 |rag cs=>simp only[rnP,hm]
 |_=>rfl
def Qz4(xs:List PV):Prop:=∀x∈xs,Qcp x.ncells=x
theorem Qyg{γ e ty:Nat}{xs:List PV}(h:Qz4 xs):rnP id (.nst γ e ty xs)= .nst γ e ty xs:=by
 simp only[rnP,id]
 congr 1
 conv=>rhs;rw[<-List.map_id xs]
 refine List.map_congr_left fun x hx=> ?_
 have:x.ncells.map (rn1 id)=x.ncells:=by
  conv=>rhs;rw[<-List.map_id x.ncells]
  exact List.map_congr_left fun y _=>Q9l y
 rw[this];exact h x hx
theorem Qnz{P:Program}{pr:Bool}(hP:C.P=P){g:FuncId}{args pargs:List PV}{d:Option Nat}{G:Fr}{hp1:HP}{Post:PV->Fr->HP->Prop}(h:Qbr P g pargs G hp1 Post)(nm ex:Nat->Bool)(S:List Nat)
  (hnm:∀x,nm x=true->∃hb,hp x=some hb/\hb.fz=false/\2000000<=x) (hp1E:∀x,hp1 x=if nm x then hp x else none) (hargs:args=pargs) (hpl:pargs.length<=1000000)
  (hst:∀x∈args,∀γ e ty xs,x≠ .nst γ e ty xs) (hna:∀γ∈args.flatMap (fun x=>x.refs++x.sref),nm γ=true)
  (hG:∀s,1000000<=s->G s= .undef∨∃γ e ty xs,G s=fr s/\fr s= .nst γ e ty xs/\Qz4 xs/\∀γ∈(fr s).refs++(fr s).sref,nm γ=true)
  (hex:∀x,ex x=true->(hp x=none∨nm x=true)/\2000000<=x) (hpr:pr=true->∀x,nm x=false)
  (hK:∀r F H,Post r F H->(∀x,ex x=true->H x≠none)/\(∀γ e ty xs,r≠ .nst γ e ty xs)/\(∀β∈r.refs++r.sref,ex β=true)/\(∀s∈S,1000000<=s/\(∃γ e ty xs,F s= .nst γ e ty xs/\Qz4 xs)/\∀β∈(F s).refs++(F s).sref,ex β=true)/\K (exF S F (Qbp (Qdd nm fr) d r)) (exH nm ex H hp)):
  Qcj C pr (.fn g [] []) args d fr hp K:=by
 obtain⟨gv,hgv⟩:∃f:Nat->Option Nat,f=fun x=>if nm x then some x else none:=⟨_,rfl⟩
 have ga:∀β γ,gv β=some γ->β=γ/\nm γ=true:=fun β γ hq=>by
  rw[hgv]at hq;simp only at hq
  split at hq
  ·cases hq;rename_i e;exact⟨rfl,e⟩
  ·cases hq
 have gb:∀γ,nm γ=true->gv γ=some γ:=fun γ hγ=>by rw[hgv];simp[hγ]
 have gN:∀γ,(∃β,gv β=some γ)->nm γ=true:=fun γ ⟨β,hβ⟩=>(ga β γ hβ).2
 have gr:∀β γ,gv β=some γ->isR β=false:=fun β γ hq=>by
  obtain⟨rfl,hn⟩:=ga β γ hq
  obtain⟨_,_,_,k3⟩:=hnm β hn
  simp[isR];omega
 refine Qq9 hP h gv id ⟨fun β γ hq=> ?_,fun β hq=> ?_,fun β β' γ q1 q2=> ?_⟩ (fun β γ hq=>(ga β γ hq).1.symm) ?_ (fun x hx γ hγ=>⟨γ,gb γ (hna γ (List.mem_flatMap.2 ⟨x,hx,hγ⟩))⟩) (fun s hs=> ?_) hpl (fun hq β=>by
  rw[Q3b gr,hgv];simp only;rw[hpr hq β];rfl) (fun ρ tmps w hs r F H hpost _=> ?_)
 ·obtain⟨rfl,hn⟩:=ga β γ hq
  obtain⟨hb,k1,k2,k3⟩:=hnm β hn
  exact⟨hb,k1,by simp[isB];omega,(fun h=>by simp[isR]at h;omega),fun _=>⟨by rw[hp1E,if_pos hn];exact k1,k2,by simp[isB];omega,fun _=>by simp[isY];omega⟩⟩
 ·refine⟨β,gb β ?_⟩
  cases hn:nm β with
  |true=>rfl
  |false=>rw[hp1E,hn]at hq;simp at hq
 ·rw[(ga β γ q1).1,(ga β' γ q2).1]
 ·rw[<-hargs]
  conv=>rhs;rw[<-List.map_id args]
  exact List.map_congr_left fun x hx=>Q9m (hst x hx)
 ·rcases hG s hs with e|⟨γ,e,ty,xs,e1,e2,e3,e4⟩
  ·exact .inl e
  ·refine .inr ⟨s,hs,?_,fun γ hγ=>⟨γ,gb γ (e4 γ hγ)⟩⟩
   rw[e1,e2,Qyg e3]
 ·rw [Q3b gr]
  obtain⟨a1,a2,a3,a4,a5⟩:=hK r F H hpost
  obtain⟨eo,heo⟩:∃f:Nat->Option Nat,f=fun x=>if ex x then some x else none:=⟨_,rfl⟩
  have ea:∀γ β,eo γ=some β->γ=β/\ex γ=true:=fun γ β hq=>by
   rw[heo]at hq;simp only at hq
   split at hq
   ·cases hq;rename_i e;exact⟨rfl,e⟩
   ·cases hq
  have eb:∀γ,ex γ=true->eo γ=some γ:=fun γ hγ=>by rw[heo];simp[hγ]
  have en:∀γ,eo γ=none->ex γ=false:=fun γ hγ=>by
   cases hq:ex γ with
   |false=>rfl
   |true=>rw[eb γ hq]at hγ;cases hγ
  refine⟨eo,id,exF S F (Qbp (Qdd nm fr) d r),exH nm ex H hp,fun γ β hq=> ?_,fun β γ hq hy=> ?_,fun γ β hq=> ?_,fun γ hq hg=> ?_,fun γ hq hg=> ?_,fun s=> ?_,a5⟩
  ·obtain⟨rfl,he⟩:=ea γ β hq
   obtain⟨k1,k2⟩:=hex γ he
   exact⟨a1 γ he,rfl,by simp[isB];omega,.inr ⟨by simp[isY];omega,by simp[isY];omega,k1.imp id fun hn=>⟨γ,gb γ hn⟩⟩⟩
  ·obtain⟨rfl,hn⟩:=ga β γ hq
   obtain⟨_,_,_,k3⟩:=hnm β hn
   simp[isY]at hy;omega
  ·obtain⟨rfl,he⟩:=ea γ β hq
   simp[exH,he]
  ·simp[exH,en γ hq,gN γ hg]
  ·have:nm γ=false:=by
    cases hn:nm γ with
    |false=>rfl
    |true=>exact absurd ⟨γ,gb γ hn⟩ hg
   simp[exH,en γ hq,this]
  ·unfold exF
   by_cases hS:S.contains s=true
   ·rw[if_pos hS]
    obtain⟨b1,⟨γ,e,ty,xs,b2,b3⟩,b4⟩:=a4 s (by simpa using hS)
    refine .inr (.inr (.inr ⟨s,b1,⟨γ,e,ty,xs,b2⟩,?_,fun β hβ=>eb β (b4 β hβ)⟩))
    rw[b2,Qyg b3]
   ·rw[if_neg hS]
    have old:d≠some s->Qdd nm fr s= .undef∨(d≠some s/\Qdd nm fr s=fr s/\(∀γ∈(fr s).refs++(fr s).sref,(¬∃β,gv β=some γ)∨∃β hb hb',gv β=some γ/\isY β=true/\hp γ=some hb/\H β=some hb'/\hb'.e=hb.e/\hb.xs.length<=hb'.xs.length)/\∀γ e ty xs,fr s= .nst γ e ty xs->¬∃β,gv β=some γ):=fun hds=>by
     unfold Qdd Qmx
     split
     ·exact .inl rfl
     ·rename_i hno
      have hno':∀γ∈(fr s).refs++(fr s).sref,¬∃β,gv β=some γ:=fun γ hγ hg=>hno (List.any_eq_true.2 ⟨γ,hγ,gN γ hg⟩)
      exact .inr ⟨hds,rfl,fun γ hγ=> .inl (hno' γ hγ),fun γ e ty xs e0=>hno' γ (by rw[e0];simp[PV.sref])⟩
    cases d with
    |none=>
     simp only[Qbp]
     rcases old (by simp)with h|h
     ·exact .inl h
     ·exact .inr (.inl h)
    | some d=>
     by_cases e:s=d
     ·subst e
      refine .inr (.inr (.inl ⟨rfl,?_,fun β hβ=>eb β (a3 β hβ)⟩))
      rw[Q9m a2]
      simp[Qbp,upd]
     ·have e1:Qbp (Qdd nm fr) (some d) r s=Qdd nm fr s:=by simp[Qbp,upd,e]
      rw[e1]
      rcases old (by simp;exact fun h=>e h.symm)with h|h
      ·exact .inl h
      ·exact .inr (.inl h)
end Go.FW
namespace Go.FW
open Go
variable {C : Ctx} {ρ : Nat -> Option Nat} {fr fr' : Fr} {hp : HP} {w : World} {K R : Qf}
theorem Q7r{B:List Nat}{F:Fr}{β δ:Nat}(hβ:B.contains β=true)(h2:β<1000000):mvF β δ (bse B F)=bse B F:=Qye (.inl hβ) (.inl h2)
theorem rnPs:
  (∀(σ:Nat->Nat)(k:IntKind)(n:Int),rnP σ (.int k n)= .int k n)/\
  (∀(σ:Nat->Nat)(b:Bool),rnP σ (.bool b)= .bool b)/\
  (∀(σ:Nat->Nat)(e:Nat)(xs:List PV),rnP σ (.sl e xs)= .sl e xs)/\
  (∀(σ:Nat->Nat)(cs:List PV),rnP σ (.agg cs)= .agg cs)/\
  (∀(σ:Nat->Nat)(cs:List PV),rnP σ (.tup cs)= .tup cs)/\
  (∀(σ:Nat->Nat)(cs:List PV),rnP σ (.pt cs)= .pt cs)/\
  (∀(σ:Nat->Nat),rnP σ .nilS= .nilS)/\
  (∀(σ:Nat->Nat),rnP σ .undef= .undef)/\
  (∀(σ:Nat->Nat)(β o n:Nat),rnP σ (.mso β o n)= .mso (σ β) o n)/\
  (∀(σ:Nat->Nat)(β o n:Nat),rnP σ (.mp β o n)= .mp (σ β) o n)/\
  (∀(σ:Nat->Nat)(β o n:Nat),rnP σ (.nso β o n)= .nso (σ β) o n)/\
  (∀(σ:Nat->Nat)(β o n:Nat),rnP σ (.np β o n)= .np (σ β) o n)/\
  (∀(σ:Nat->Nat)(cs:List PV),rnP σ (.rag cs)= .rag (cs.map (rn1 σ))):=by
 refine⟨?_,?_,?_,?_,?_,?_,?_,?_,?_,?_,?_,?_,?_⟩<;>intros<;>rfl
theorem rn1s:
  (∀(σ:Nat->Nat)(k:IntKind)(n:Int),rn1 σ (.int k n)= .int k n)/\
  (∀(σ:Nat->Nat)(b:Bool),rn1 σ (.bool b)= .bool b)/\
  (∀(σ:Nat->Nat)(e:Nat)(xs:List PV),rn1 σ (.sl e xs)= .sl e xs)/\
  (∀(σ:Nat->Nat),rn1 σ .nilS= .nilS)/\
  (∀(σ:Nat->Nat),rn1 σ .undef= .undef)/\
  (∀(σ:Nat->Nat)(β o n:Nat),rn1 σ (.mso β o n)= .mso (σ β) o n)/\
  (∀(σ:Nat->Nat)(β o n:Nat),rn1 σ (.nso β o n)= .nso (σ β) o n):=by
 refine⟨?_,?_,?_,?_,?_,?_,?_⟩<;>intros<;>rfl
theorem Qahk:
  (∀(γ:Nat)(k:IntKind)(n:Int),Qdu γ (.int k n)= .int k n)/\
  (∀(γ:Nat)(b:Bool),Qdu γ (.bool b)= .bool b)/\
  (∀(γ e:Nat)(xs:List PV),Qdu γ (.sl e xs)= .sl e xs)/\
  (∀(γ:Nat)(cs:List PV),Qdu γ (.agg cs)= .agg cs)/\
  (∀(γ:Nat)(cs:List PV),Qdu γ (.tup cs)= .tup cs)/\
  (∀(γ:Nat)(cs:List PV),Qdu γ (.pt cs)= .pt cs)/\
  (∀(γ:Nat),Qdu γ .nilS= .nilS)/\
  (∀(γ:Nat),Qdu γ .undef= .undef)/\
  (∀(γ β o n:Nat),Qdu γ (.mso β o n)=if β=γ then .nso γ o n else .mso β o n)/\
  (∀(γ β o n:Nat),Qdu γ (.mp β o n)=if β=γ then .np γ o n else .mp β o n)/\
  (∀(γ β o n:Nat),Qdu γ (.nso β o n)= .nso β o n)/\
  (∀(γ β o n:Nat),Qdu γ (.np β o n)= .np β o n):=by
 refine⟨?_,?_,?_,?_,?_,?_,?_,?_,?_,?_,?_,?_⟩<;>intros<;>rfl
theorem Qab5{γ s:Nat}{x:PV}:Qz2 γ x fr s=if s=γ then x else Qdu γ (fr s):=rfl
theorem Qab6{args:List PV}{G:Fr}{s:Nat}:Qky args G s=if s<1000000 then(args[s]?).getD .undef else G s:=rfl
theorem Qab7{nm:Nat->Bool}{s:Nat}:Qdd nm fr s=Qmx nm (fr s):=rfl
theorem Qab8{nm:Nat->Bool}{p:PV}:Qmx nm p=if(p.refs++p.sref).any nm then .undef else p:=rfl
theorem Qafd{nm ex:Nat->Bool}{H:HP}{x:Nat}:exH nm ex H hp x=if ex x then H x else if nm x then none else hp x:=rfl
theorem Qafe{S:List Nat}{F:Fr}{s:Nat}:exF S F fr s=if S.contains s then F s else fr s:=rfl
theorem Qmy(l:List (Nat×Nat)):Qz4 (Qx l):=fun x hx=>by
 obtain⟨y,_,rfl⟩:=List.mem_map.1 hx;rfl
theorem Qahl{d β n ty e:Nat}{xs ys:List PV}(hb:hp β=some ⟨e,ty,xs,false⟩)(he:0<e)(hn:n=xs.length)(hl:ys.length=n):
  Qjg e (.ms β n) (.sl e ys) d fr hp K=K (upd fr d (.int .i64 n)) (Qg hp β ⟨e,ty,ys,false⟩):=by
 rw[Q5e hb he hn]
 have h1:ys.take n=ys:=List.take_of_length_le (by omega)
 have h2:xs.drop ys.length=[]:=List.drop_eq_nil_of_le (by omega)
 rw[h1,h2,List.append_nil]
 congr 2
 ·congr 1;congr 1;omega
attribute [go_sem] Qab0 Qab1 Qafa Qafb Qae9 Q7r rnPs rn1s Qahk Qab5 Qab6 Qab7 Qab8 Qafd Qafe
end Go.FW
namespace Go.FW
open Go
variable {C : Ctx} {ρ : Nat -> Option Nat} {fr fr' : Fr} {hp : HP} {w : World} {K R : Qf}
def Qdv(B i n:Nat)(L:Nat->Nat):List PV:=Qx (rws B i L)++List.replicate (n-i) .nilS
theorem Q3c(B n:Nat)(L:Nat->Nat):List.replicate n PV.nilS=Qdv B 0 n L:=by simp[Qdv,rws,Qx]
theorem Q3d(B n:Nat)(L:Nat->Nat):Qdv B n n L=Qx (rws B n L):=by simp[Qdv]
theorem Qpi{B i n:Nat}{L:Nat->Nat}(h:i<=n):(Qdv B i n L).length=n:=by simp[Qdv,Qx,rws];omega
theorem Q7s{B i n j:Nat}{L:Nat->Nat}(h:j<i):(Qdv B i n L)[j]? =some (.ms (B+j) (L j)):=by
 simp[Qdv,Qx,rws,List.getElem?_append,h]
theorem Q7t{B i n:Nat}{L:Nat->Nat}(h:i<n):(Qdv B i n L).set i (.ms (B+i) (L i))=Qdv B (i+1) n L:=by
 have h1:(Qx (rws B i L)).length=i:=by simp[Qx,rws]
 unfold Qdv
 rw[List.set_append,if_neg (by omega),h1,Nat.sub_self]
 have h2:Qx (rws B (i+1) L)=Qx (rws B i L)++[.ms (B+i) (L i)]:=by simp[Qx,rws,List.range_succ]
 rw[h2,List.append_assoc]
 congr 1
 obtain⟨k,hk⟩:∃k,n-i=k+1:=⟨n-i-1,by omega⟩
 rw[hk,show n-(i+1)=k by omega,List.replicate_succ]
 rfl
theorem Qab9{γ i n ty B m:Nat}{L:Nat->Nat}{e0 ty0:Nat}{xs0:List PV}(hγ:fr γ= .nst γ 1 ty (Qdv B i n L))(hh:hp γ=some ⟨e0,ty0,xs0,false⟩)(h:i<n)(hB:1000000<=B)(hm:L i=m):
  stK 1 (.np γ i 0) (.ms (B+i) m) fr hp K=K (upd (Qcr γ fr) γ (.nst γ 1 ty (Qdv B (i+1) n L))) hp:=by
 subst hm
 have hl:i<(Qdv B i n L).length:=by rw[Qpi (by omega)];exact h
 have hb:isB (B+i)=true:=by simp[isB];omega
 have h0:(Qdv B i n L)[i]= .nilS:=by
  have h1:(Qx (rws B i L)).length=i:=by simp[Qx,rws]
  simp[Qdv,List.getElem_append,h1]
 simp only[stK,hγ,hl,exists_true_left,true_and,Nat.le_refl,Nat.zero_add,stN,hb,if_true,List.length_cons,List.length_nil,hh,Option.some.injEq,exists_eq_left',h0]
 rw[<-Q7t h]
 simp[Qcp,Qho,PV.ncells,PV.cells]
theorem Qaca{d γ j i n ty B:Nat}{L:Nat->Nat}(hγ:fr γ= .nst γ 1 ty (Qdv B i n L))(h:j<i)(hi:i<=n):ldK 1 false (.np γ j 0) d fr hp K=K (upd fr d (.ms (B+j) (L j))) hp:=by
 have hl:j<(Qdv B i n L).length:=by rw[Qpi hi];omega
 have h0:(Qdv B i n L)[j]= .ms (B+j) (L j):=by
  have:=Q7s (B:=B) (n:=n) (L:=L) h
  rw[List.getElem?_eq_getElem hl]at this
  exact Option.some.inj this
 simp only[ldK,hγ,hl,exists_true_left,true_and,Nat.le_refl,Nat.zero_add,implies_true,h0]
 simp[ldN,PV.ncells,PV.cells]
theorem Qou{σ:Nat->Nat}{p:PV}(h:p= .nilS∨∃β n,p= .ms β n)(hσ:∀β n,p= .ms β n->σ β=β):Qcp (p.ncells.map (rn1 σ))=p:=by
 rcases h with rfl|⟨β,n,rfl⟩
 ·rfl
 ·have:=hσ β n rfl
  simp[PV.ncells,PV.cells,rn1,Qcp,this]
theorem Qacb{β δ γ e ty B i n:Nat}{L:Nat->Nat}(hβ:β<1000000)(hB:2000000<=B)(hγ:2000000<=γ):rnP (mvN β δ) (.nst γ e ty (Qdv B i n L))= .nst γ e ty (Qdv B i n L):=by
 have e1:mvN β δ γ=γ:=by unfold mvN;rw[if_neg (by omega)]
 simp only[rnP,e1]
 congr 1
 conv=>rhs;rw[<-List.map_id (Qdv B i n L)]
 refine List.map_congr_left fun x hx=> ?_
 rcases List.mem_append.1 hx with hx|hx
 ·obtain⟨y,hy,rfl⟩:=List.mem_map.1 hx
  obtain⟨j,hj,rfl⟩:=List.mem_map.1 hy
  refine Qou (.inr ⟨_,_,rfl⟩) fun β' n' h=> ?_
  cases h;unfold mvN;rw[if_neg (by omega)]
 ·obtain rfl:=List.eq_of_mem_replicate hx
  exact Qou (.inl rfl) fun _ _ h=>by cases h
def Qas(B n w:Nat)(π:Nat->Nat):List (Nat×Nat):=(List.range n).map fun r=>(B+π r,w)
theorem Qra(B n w:Nat):rws B n (fun _=>w)=Qas B n w id:=rfl
theorem Qxe(B n w:Nat)(π:Nat->Nat):(Qas B n w π).length=n:=by simp[Qas]
theorem Qv3{B n w r:Nat}{π:Nat->Nat}(h:r<(Qas B n w π).length):(Qas B n w π)[r]=(B+π r,w):=by simp[Qas]
theorem Qmz{B n w:Nat}{π:Nat->Nat}:∀β∈(Qx (Qas B n w π)).flatMap (fun x=>x.ncells.flatMap PV.sref1),∃r,r<n/\β=B+π r:=by
 intro β hβ
 obtain⟨x,hx,hβ⟩:=List.mem_flatMap.1 hβ
 obtain⟨y,hy,rfl⟩:=List.mem_map.1 hx
 obtain⟨r,hr,rfl⟩:=List.mem_map.1 hy
 exact⟨r,List.mem_range.1 hr,by simpa[PV.ncells,PV.cells,PV.sref1]using hβ⟩
def Qh{α:Type}(p:α->PV)(f:Nat->α)(w:Nat):List PV:=(List.range w).map fun c=>p (f c)
theorem Qaa{α:Type}(p:α->PV)(f:Nat->α)(w:Nat):(Qh p f w).length=w:=by simp[Qh]
theorem Qc7{α:Type}{p:α->PV}{f:Nat->α}{w c:Nat}(h:c<(Qh p f w).length):(Qh p f w)[c]=p (f c):=by simp[Qh]
theorem Qv4{α:Type}{p:α->PV}{f g:Nat->α}{w c:Nat}{v:α}(h:∀k,k<w->g k=if k=c then v else f k):(Qh p f w).set c (p v)=Qh p g w:=by
 refine List.ext_getElem (by simp[Qh]) fun j h1 h2=> ?_
 have hj:j<w:=by simpa[Qh]using h2
 rw[Qc7,List.getElem_set,Qc7,h j hj]
 split
 ·rename_i e;subst e;simp
 ·rename_i e;rw[if_neg fun e2=>e e2.symm]
theorem Qcd{α:Type}{p:α->PV}{f g:Nat->α}{w:Nat}(h:∀k,k<w->f k=g k):Qh p f w=Qh p g w:=
 List.map_congr_left fun c hc=>by rw[h c (List.mem_range.1 hc)]
theorem Qsk{α:Type}{p:α->PV}{f:Nat->α}{w:Nat}(h:0<w):Qh p f w≠[]:=by
 intro e;have:=Qaa p f w;rw[e]at this;simp at this;omega
theorem Qahm{by_ ty d:Nat}{k k':IntKind}{n c:Nat}(h2:n<=c)(h3:by_*c<=281474976710656)(h4:c<=9223372036854775807):
  mkK 3 by_ ty (.agg [.bool false,.nilS,.nilS]) (.int k (n:Int)) (.int k' (c:Int)) d fr hp K=K (upd (Qap d fr) d (.ms d n)) (Qg hp d ⟨3,ty,List.replicate n (.agg [.bool false,.nilS,.nilS]),false⟩):=by
 rw[Qt7 (e:=3) (by omega) rfl (by omega) (by omega) (by omega) (by omega)];rfl
attribute [go_sem] Qahm
end Go.FW
namespace Go.FW
open Go
def Can(p:List Tm):Prop:=∀t∈p,t.2.getLast? ≠some 0
def NZ(p:List Tm):Prop:=∀t∈p,t.1≠0
structure Nrm(p:List Tm):Prop where
 c:Can p
 z:NZ p
 s:Qop p
theorem Nrm.nil:Nrm []:=⟨by simp[Can],by simp[NZ],trivial⟩
theorem Qv5:∀ {p q:List Tm} {t:Tm},t∈Qfr p q->(∃s∈p,s.2=t.2)∨(∃s∈q,s.2=t.2):=by
 intro p q
 induction p,q using Qfr.induct with
 |case1 q=>rw[Qfr];intro t ht;exact Or.inr ⟨t,ht,rfl⟩
 |case2 p h=>rw[Q58];intro t ht;exact Or.inl ⟨t,ht,rfl⟩
 | case3 c m p d l q h ih=>
  intro t ht
  rw[Qfr,if_pos h]at ht
  rcases List.mem_cons.1 ht with rfl|ht
  ·exact Or.inl ⟨_,by simp,rfl⟩
  ·rcases ih ht with⟨s,h1,h2⟩|h1
   ·exact Or.inl ⟨s,by simp[h1],h2⟩
   ·exact Or.inr h1
 | case4 c m p d l q h1 h2 ih=>
  intro t ht
  rw[Qfr,if_neg h1,if_pos h2]at ht
  rcases List.mem_cons.1 ht with rfl|ht
  ·exact Or.inr ⟨_,by simp,rfl⟩
  ·rcases ih ht with h3|⟨s,h3,h4⟩
   ·exact Or.inl h3
   ·exact Or.inr ⟨s,by simp[h3],h4⟩
 |case5 c m p d l q h1 h2 h3 ih=>
  intro t ht
  rw[Qfr,if_neg h1,if_neg h2,if_pos h3]at ht
  rcases ih ht with⟨s,h4,h5⟩|⟨s,h4,h5⟩
  ·exact Or.inl ⟨s,by simp[h4],h5⟩
  ·exact Or.inr ⟨s,by simp[h4],h5⟩
 | case6 c m p d l q h1 h2 h3 ih=>
  intro t ht
  rw[Qfr,if_neg h1,if_neg h2,if_neg h3]at ht
  rcases List.mem_cons.1 ht with rfl|ht
  ·exact Or.inl ⟨(c,m),by simp,rfl⟩
  ·rcases ih ht with⟨s,h4,h5⟩|⟨s,h4,h5⟩
   ·exact Or.inl ⟨s,by simp[h4],h5⟩
   ·exact Or.inr ⟨s,by simp[h4],h5⟩
def ind(m:List Int):List Int->Rat:=fun n=>if n=m then 1 else 0
variable {C : Ctx} {fr : Fr} {hp : HP} {w : World} {K R : Qf}
end Go.FW
namespace Go.FW
open Go
theorem Qp4(q:Rat):Qgn (decide (q.num<0)) (dig q.num.natAbs) (dig q.den)=true:=by
 simp only[Qgn,Qgc,Bool.and_eq_true,decide_eq_true_eq]
 refine⟨?_,⟨?_,Qjr _⟩,?_⟩
 ·split
  ·rename_i h
   rw[Qbm]at h
   have:¬q.num<0:=by omega
   simp[this]
  ·exact decide_eq_true (Qjr _)
 ·rw[ne_eq,Qbm];exact q.den_nz
 ·rw[Q5,Q5];exact q.reduced
def Q7u(a:Rat):Nat->Rat
 |0=>1
 |n+1=>Q7u a n*a
def mevN(vs:List Rat)(m:List Int):Nat->Rat
 |0=>1
 |n+1=>mevN vs m n*Q7u (vs.getD n 0) (eN m n).toNat
def mev(vs:List Rat)(m:List Int):Rat:=mevN vs m m.length
abbrev PV.rats(vs:List Rat):PV:= .sl 3 (vs.map PV.rat)
theorem Qz5{B B':List Nat}{F:Fr}(h:(B'.all B.contains)=true):Qad B' (Qad B F)=Qad B F:=by
 funext s
 rw[Qnt B']
 split
 ·rename_i h1
  rw[Qnt B]at h1⊢
  split
  ·rfl
  ·rename_i h2
   rw[if_neg h2]at h1
   exfalso
   apply h2
   rw[List.any_eq_true]at h1⊢
   obtain⟨x,hx,hb⟩:=h1
   rw[List.all_eq_true]at h
   exact⟨x,hx,h x (List.contains_iff_mem.1 hb)⟩
 ·rfl
theorem Qz6{W:List (Nat×Nat)}{B:List Nat}{J F:Fr}:Qad B (ovr W J F)=ovr W (Qad B J) (Qad B F):=by
 funext s;unfold Qad ovr;split<;>rfl
theorem Qkz{V W:List (Nat×Nat)}{B B':List Nat}{X Z F:Fr}(h:Qp0 V W=true)(hB:(B'.all B.contains)=true):ovr V X (Qad B' (ovr W Z (Qad B F)))=ovr W (ovr V X (Qad B' Z)) (Qad B F):=by
 rw[Qz6,Qz5 hB,Qcf h]
section
variable {C : Ctx} {fr : Fr} {hp : HP} {w : World} {K R : Qf}
theorem Q9n{ty d β n e' ty':Nat}{xs:List PV}{fz:Bool}(h:hp β=some ⟨e',ty',xs,fz⟩)(hB:isB β=false:=by decide):
  bsK 1 ty [.ms β n] d fr hp K=K (upd (Qap d fr) d (.ms d 1)) (Qg (Q9 hp [β]) d ⟨1,ty,[.sl e' (xs.take n)],false⟩):=by
 have e:=Qr3 hp β n _ _ _ _ h hB
 have e2:Qlc hp 1 [.ms β n]:=fun p hp'=>by
  simp only[List.mem_singleton]at hp'
  subst hp'
  rw[e];exact⟨rfl,rfl⟩
 apply propext
 have hbg:Qfo [.ms β n]=false:=by
  have:β<1000000:=by simpa[isB]using hB
  simp[Qfo,Qcl];omega
 simp only[bsK,hbg,Bool.false_eq_true,if_false,bsO,List.map_cons,List.map_nil,e,List.length_cons,List.length_nil]
 exact⟨fun h=>h.2.2,fun h=>⟨by omega,e2,h⟩⟩
end
def Qz7(m:List Int)(v:Nat):List Int:=Qoo (m.set v 0)
def Qrb(p:List Tm)(v:Nat)(n:Int):List Tm:=p.filterMap fun t=>if eN t.2 v=n then some (t.1,Qz7 t.2 v)else none
theorem Q3e{p:List Tm}{v:Nat}{n:Int}{t:Tm}(h:t∈Qrb p v n):∃s∈p,eN s.2 v=n/\t=(s.1,Qz7 s.2 v):=by
 simp only[Qrb,List.mem_filterMap]at h
 obtain⟨s,h1,h2⟩:=h
 split at h2
 ·rename_i h3;cases h2;exact⟨s,h1,h3,rfl⟩
 ·cases h2
end Go.FW
namespace Go.FW
open Go
def hor(p:List Tm)(v:Nat)(q:List Tm)(top:Nat):Nat->List Tm
 |0=>Qrb p v top
 |k+1=>Qfr (Qvp (hor p v q top k) q) (Qrb p v ((top:Int)-(k+1)))
def Qc5(vs:List Rat)(v:Nat)(b:Rat)(n:Int):List Tm->Rat
 | []=>0
 |t::p=>(if n<=eN t.2 v then t.1*mev vs (Qz7 t.2 v)*Q7u b (eN t.2 v-n).toNat else 0)+Qc5 vs v b n p
def ML(n:Nat)(p:List Tm):Prop:=∀t∈p,t.2.length<=n
theorem ML.padd{n:Nat}{p q:List Tm}(hp:ML n p)(hq:ML n q):ML n (Qfr p q):=fun t ht=>by
 rcases Qv5 ht with⟨s,h1,h2⟩|⟨s,h1,h2⟩
 ·rw[<-h2];exact hp s h1
 ·rw[<-h2];exact hq s h1
theorem Q7v(a b:List Int):(Qkt a b).length<=max a.length b.length:=by
 have:=Qnv (Qsc (· + ·) a b)
 rwa[Qks]at this
theorem Qz8{p:List Tm}{t x:Tm}(h:x∈Qvo p t):∃s∈p,x.2=Qkt s.2 t.2:=by
 simp only[Qvo,List.mem_filterMap]at h
 obtain⟨y,hy,h⟩:=h
 split at h
 ·cases h
 ·cases h;exact⟨y,hy,rfl⟩
theorem Q7w:∀(n:Nat)(l:List (List Tm)),l.length<=n->∀ {t:Tm},t∈Qju l->∃p∈l,∃s∈p,s.2=t.2:=by
 intro n
 induction n with
 |zero=>
  intro l hl t ht
  have:l=[]:=List.length_eq_zero_iff.1 (by omega)
  subst this
  rw[Qju]at ht;cases ht
 | succ n ih=>
  intro l hl t ht
  match l,ht with
  | [],ht=>rw[Qju]at ht;cases ht
  | [p],ht=>rw[Qju]at ht;exact⟨p,by simp,t,ht,rfl⟩
  | p::q::r,ht=>
   rw[Q2r (by simp)]at ht
   generalize hL:p::q::r=L at *
   have hlen:2<=L.length:=by rw[<-hL];simp
   rcases Qv5 ht with⟨s,h1,h2⟩|⟨s,h1,h2⟩
   ·obtain⟨p',hp',s',hs',e⟩:=ih _ (by rw[List.length_take];omega) h1
    exact⟨p',List.mem_of_mem_take hp',s',hs',e.trans h2⟩
   ·obtain⟨p',hp',s',hs',e⟩:=ih _ (by rw[List.length_drop];omega) h1
    exact⟨p',List.mem_of_mem_drop hp',s',hs',e.trans h2⟩
theorem Q7x{p q:List Tm}{t:Tm}(h:t∈Qvp p q):∃a∈p,∃b∈q,t.2=Qkt a.2 b.2:=by
 have main:∀ {p q:List Tm},t∈Qzr p q->∃a∈p,∃b∈q,t.2=Qkt a.2 b.2:=fun {p q} h=>by
  obtain⟨x,hx,s,hs,e⟩:=Q7w _ _ (Nat.le_refl _) h
  obtain⟨a,ha,rfl⟩:=List.mem_map.1 hx
  obtain⟨b,hb,e2⟩:=Qz8 hs
  exact⟨a,ha,b,hb,by rw[<-e,e2,Qs7]⟩
 unfold Qvp at h
 split at h
 ·obtain⟨a,ha,b,hb,e⟩:=main h
  exact⟨b,hb,a,ha,by rw[e,Qs7]⟩
 ·exact main h
theorem ML.pmul{n:Nat}{p q:List Tm}(hp:ML n p)(hq:ML n q):ML n (Qvp p q):=fun t ht=>by
 obtain⟨a,ha,b,hb,e⟩:=Q7x ht
 have:=Q7v a.2 b.2
 have:=hp a ha
 have:=hq b hb
 rw[e];omega
theorem ML.coefN{n:Nat}{p:List Tm}(hp:ML n p)(v:Nat)(k:Int):ML n (Qrb p v k):=fun t ht=>by
 obtain⟨s,h1,_,rfl⟩:=Q3e ht
 have:=Qnv (s.2.set v 0)
 rw[List.length_set]at this
 exact Nat.le_trans this (hp s h1)
theorem ML.hor{n:Nat}{p q:List Tm}(hp:ML n p)(hq:ML n q)(v top:Nat):∀k,ML n (hor p v q top k)
 |0=>hp.coefN v _
 |k+1=>((ML.hor hp hq v top k).pmul hq).padd (hp.coefN v _)
variable {C : Ctx} {fr : Fr} {hp : HP} {w : World} {K R : Qf}
theorem bs0{e ty d:Nat}(he:0<e):bsK e ty [] d fr hp K=K (upd (Qap d fr) d (.ms d 0)) (Qg hp d ⟨e,ty,[],false⟩):=Qln (by rfl) (by simp) he
end Go.FW
namespace Go.FW
open Go
variable {C : Ctx} {fr : Fr} {hp : HP} {K : Qf}
end Go.FW
namespace Go.FW
open Go
theorem Qrc:∀ {p:List Tm},Qop p->∀n,Qop (p.take n)
 |_,_,0=>trivial
 | [],_,n+1=>trivial
 |t::p,h,n+1=>⟨fun s hs=>h.1 s (List.mem_of_mem_take hs),Qrc h.2 n⟩
theorem Nrm.take{p:List Tm}(h:Nrm p)(n:Nat):Nrm (p.take n):=⟨fun t ht=>h.c t (List.mem_of_mem_take ht),fun t ht=>h.z t (List.mem_of_mem_take ht),Qrc h.s n⟩
abbrev PV.mat(r c:Nat)(l:List Rat):PV:= .agg [.int .i64 r,.int .i64 c,PV.rats l]
abbrev MF:=Nat->Nat->Rat
def Q3(l:List Rat)(m:Nat):MF:=fun r c=>l.getD (r*m+c) 0
theorem Qtj{l:List Rat}{n m r:Nat}(hl:l.length=n*m)(hr:r<n):((l.take ((r+1)*m)).drop (r*m)).map PV.rat=Qh PV.rat (Q3 l m r) m:=by
 have h1:(r+1)*m<=n*m:=Nat.mul_le_mul_right _ hr
 have h2:(r+1)*m=r*m+m:=by rw[Nat.add_mul,Nat.one_mul]
 refine List.ext_getElem (by simp[Qh];omega) fun j h3 h4=> ?_
 have hj:j<m:=by simpa[Qh]using h4
 simp only[List.getElem_drop,List.getElem_take,List.getElem_map,Qh,List.getElem_range,Q3]
 rw[List.getD_eq_getElem?_getD,List.getElem?_eq_getElem (by omega)]
 rfl
structure RQ where
 n:Bool
 a:List Nat
 d:List Nat
 deriving Inhabited
abbrev PV.rq(q:RQ):PV:=PV.rr q.n q.a q.d
abbrev PV.rqs(l:List RQ):PV:= .sl 3 (l.map PV.rq)
abbrev PV.rmat(r c:Int)(l:List RQ):PV:= .agg [.int .i64 r,.int .i64 c,PV.rqs l]
def Qdw(q:RQ):Bool:=Qgn q.n q.a q.d
def rqV(q:RQ):Rat:=rv q.n q.a q.d
def Qbh(r c:Int)(l:List RQ):Bool:=decide (0<=r/\r<=40/\0<=c/\c<=40/\(l.length:Int)=r*c)&&l.all Qdw
def qR(q:Rat):RQ:=⟨decide (q.num<0),dig q.num.natAbs,dig q.den⟩
theorem Qn0{R m:Nat}{l:List Rat}(hl:l.length=R*m)(hR:R<=40)(hm:m<=40):Qbh R m (l.map qR)=true:=by
 unfold Qbh
 rw[Bool.and_eq_true,decide_eq_true_eq]
 refine⟨⟨by omega,by omega,by omega,by omega,by rw[List.length_map,hl,Int.natCast_mul]⟩,?_⟩
 rw[List.all_eq_true]
 intro x hx
 obtain⟨q,hq,rfl⟩:=List.mem_map.1 hx
 exact Qp4 q
theorem Qlr(l:List Rat):PV.rats l=PV.rqs (l.map qR):=by
 unfold PV.rqs PV.rats
 rw[List.map_map];rfl
theorem Qv6(R m:Nat)(l:List Rat):PV.mat R m l=PV.rmat R m (l.map qR):=by
 unfold PV.mat PV.rmat
 rw[Qlr]
def Qjy(M:MF)(k:Nat):Nat->Nat->Nat
 |0,i=>i
 |f+1,i=>if M i k=0 then Qjy M k f (i+1)else i
theorem Qsl(M:MF)(k:Nat):∀f i,i<=Qjy M k f i/\Qjy M k f i<=i+f
 |0,i=>⟨Nat.le_refl _,Nat.le_refl _⟩
 |f+1,i=>by
  unfold Qjy
  split
  ·have:=Qsl M k f (i+1);omega
  ·omega
theorem Qyh(M:MF)(k:Nat):∀f i,Qjy M k f i<i+f->M (Qjy M k f i) k≠0
 |0,i,h=>by simp[Qjy]at h
 |f+1,i,h=>by
  unfold Qjy at h⊢
  split
  ·rename_i h0;rw[if_pos h0]at h;exact Qyh M k f (i+1) (by omega)
  ·rename_i h0;exact h0
def Qfs(M:MF)(R k n:Nat):Nat:=Qjy M k (R-n) n
def Qb4(M:MF)(i n:Nat):MF:=fun r=>if r=n then M i else if r=i then M n else M r
def Qek(M:MF)(n:Nat)(p:Rat):MF:=fun r c=>if r=n then M n c/p else M r c
def Qh6(M:MF)(n k:Nat):MF:=fun r c=>if r=n then M n c else M r c-M r k*M n c
structure Ech where
 M:MF
 piv:List Nat
 det:Rat
def Qdm(R:Nat)(E:Ech)(k:Nat):Ech:=
 if Qfs E.M R k E.piv.length=R then E else
  ⟨Qh6 (Qek (Qb4 E.M (Qfs E.M R k E.piv.length) E.piv.length) E.piv.length (E.M (Qfs E.M R k E.piv.length) k)) E.piv.length k,E.piv++[k],
   (if Qfs E.M R k E.piv.length=E.piv.length then E.det else -E.det)*E.M (Qfs E.M R k E.piv.length) k⟩
def Qaf(R:Nat)(M:MF):Nat->Ech
 |0=>⟨M,[],1⟩
 |k+1=>Qdm R (Qaf R M k) k
theorem Qdn(R:Nat)(M:MF):∀k,(Qaf R M k).piv.length<=k/\(Qaf R M k).piv.length<=R/\∀x∈(Qaf R M k).piv,x<k
 |0=>⟨Nat.le_refl _,Nat.zero_le _,by simp[Qaf]⟩
 | k+1=>by
  obtain⟨h1,h2,h3⟩:=Qdn R M k
  show(Qdm R (Qaf R M k) k).piv.length<=k+1/\_
  simp only[Qaf]
  unfold Qdm
  split
  ·exact⟨by omega,h2,fun x hx=>by have:=h3 x hx;omega⟩
  ·rename_i h
   have:=Qsl (Qaf R M k).M k (R-(Qaf R M k).piv.length) (Qaf R M k).piv.length
   have h4:Qfs (Qaf R M k).M R k (Qaf R M k).piv.length<=R:=by unfold Qfs;omega
   have h5:(Qaf R M k).piv.length<=Qfs (Qaf R M k).M R k (Qaf R M k).piv.length:=this.1
   refine⟨by simp;omega,by simp;omega,fun x hx=> ?_⟩
   simp only[List.mem_append,List.mem_singleton]at hx
   rcases hx with hx|hx
   ·have:=h3 x hx;omega
   ·omega
theorem Qrd(M:MF):∀k,Qaf 0 M k=⟨M,[],1⟩
 |0=>rfl
 |k+1=>by
  show Qdm 0 (Qaf 0 M k) k=_
  rw[Qrd M k];rfl
def Qv7(R:Nat)(M:MF):Rat:=if(Qaf R M R).piv.length<R then 0 else(Qaf R M R).det
def MBd(K R w:Nat)(M:MF):Prop:=∀r,r<R->∀c,c<w->rs (M r c)<=K
theorem Qahn{fr:Fr}{hp:HP}{K:Qf}{z:List PV}{o n o2 n2 o3 n3 d β m e ty:Nat}{p q:PV}{xs:List PV}{fz:Bool}(h:p.flat=true)(h':q.flat=true)(hb:hp β=some ⟨e,ty,xs,fz⟩)(hm:m=xs.length)(hB:isB β=false:=by decide):
  Qfx z [(o,n,p),(o2,n2,q),(o3,n3,.ms β m)] d fr hp K=((p.cells.length=n/\o+n<=z.length)/\(q.cells.length=n2/\o2+n2<=z.length)/\(1=n3/\o3+n3<=z.length)/\K (upd fr d (.agg (Qc2 z [(o,p.cells),(o2,q.cells),(o3,[.sl e xs])]))) (Q9 hp [β])):=by
 obtain⟨s1,s2,s3⟩:=Qd3 (hp:=hp) h
 obtain⟨t1,t2,t3⟩:=Qd3 (hp:=hp) h'
 have s4:Q8 hp (.ms β m)= .sl e xs:=by simp[Q8,Qaq,Qjf hB,hb,hm]
 have r4:(PV.ms β m).refs=[β]:=rfl
 have c4:(PV.sl e xs).cells=[.sl e xs]:=rfl
 have d4:(PV.sl e xs).isData=true:=rfl
 have i1:p.isNst=false:=Qmg h
 have i3:q.isNst=false:=Qmg h'
 have i2:(PV.ms β m).isNst=false:=by simp[isB]at hB;simp[PV.isNst];omega
 unfold Qfx Qp9 Quf
 rw[if_neg (by simp[i1,i2,i3])]
 apply propext
 simp only[List.mem_cons,List.not_mem_nil,or_false,forall_eq_or_imp,forall_eq,s1,s3,s4,t1,t3,d4,c4,List.length_cons,List.length_nil,true_and,List.map_cons,List.map_nil,List.flatMap_cons,List.flatMap_nil,s2,t2,r4,List.nil_append,List.append_nil,and_assoc,Nat.zero_add]
theorem Qja:PV.le (.agg [.int .i64 0,.int .i64 0,.nilS]) (PV.rmat 0 0 []):=by simp[PV.le,PV.leL,PV.le1,PV.rmat,PV.rqs]
def Qhh(K R w n:Nat)(M:MF):Prop:=∀k,k<=n->MBd K R w (Qaf R M k).M/\rs (Qaf R M k).det<=K
def Qn1(p:Nat->Bool):Nat->Nat->Nat
 |0,i=>i
 |f+1,i=>if p i then i else Qn1 p f (i+1)
theorem Qov{p:Nat->Bool}:∀ {f i n:Nat},i<=n->n<i+f->p n=true->(∀j,i<=j->j<n->p j=false)->Qn1 p f i=n
 |0,i,n,h1,h2,_,_=>by omega
 | f+1,i,n,h1,h2,h3,h4=>by
  unfold Qn1
  by_cases e:i=n
  ·subst e;rw[if_pos h3]
  ·rw[h4 i (Nat.le_refl _) (by omega)]
   exact Qov (by omega) (by omega) h3 fun j h5 h6=>h4 j (by omega) h6
theorem Qls{p:Nat->Bool}:∀ {f i:Nat},(∀j,i<=j->j<i+f->p j=false)->Qn1 p f i=i+f
 |0,i,_=>rfl
 |f+1,i,h=>by
  unfold Qn1
  rw[h i (Nat.le_refl _) (by omega)]
  have:=Qls (p:=p) (f:=f) (i:=i+1) fun j h5 h6=>h j (by omega) (by omega)
  simp only[Bool.false_eq_true,if_false];omega
def Qhi(x y:Nat->Rat)(c:Rat):Nat->Rat:=fun i=>x i+c*y i
def Qiz(M:MF)(R:Nat):Nat:=Qn1 (fun i=>decide (M i i≠0)) R 0
def Qk0(M:MF)(R i:Nat):Nat:=Qn1 (fun k=>decide (M i k≠0)) R 0
def Qgi(M:MF)(R:Nat):Nat:=Qn1 (fun i=>decide (Qk0 M R i<R)) R 0
def Qfd (M:MF) (R:Nat):List (Rat×(Nat->Rat)):=
  if Qiz M R<R then [(M (Qiz M R) (Qiz M R),Qhi (fun _=>0) (M (Qiz M R)) (1/M (Qiz M R) (Qiz M R)))]
  else if Qgi M R<R then
    [(1/(M (Qgi M R) (Qk0 M R (Qgi M R))+M (Qgi M R) (Qk0 M R (Qgi M R))),Qhi (M (Qgi M R)) (M (Qk0 M R (Qgi M R))) 1),
     (-(1/(M (Qgi M R) (Qk0 M R (Qgi M R))+M (Qgi M R) (Qk0 M R (Qgi M R)))),Qhi (M (Qgi M R)) (M (Qk0 M R (Qgi M R))) (-1))]
  else []
abbrev PV.form(w:Nat)(f:Rat×(Nat->Rat)):PV:= .agg [.bool (decide (f.1.num<0)),PV.num f.1.num.natAbs,PV.num f.1.den,.sl 3 (Qh PV.rat f.2 w)]
end Go.FW
